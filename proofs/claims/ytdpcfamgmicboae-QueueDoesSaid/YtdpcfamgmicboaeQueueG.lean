/- Contracts of the package queue's functions: New, and the page's example; no condition beyond each theorem its own. -/
import Derived.Test.YtdpcfamgmicboaeQueueA
import Derived.Test.YtdpcfamgmicboaeQueueF
namespace Go.Proofs.Ytdpcfamgmicboae
open Go.RowKit Go.Proofs.YtdpcfamgmicboaeW.PrintWords Go.Proofs.YtdpcfamgmicboaeW.PrintLast Go.Proofs.YtdpcfamgmicboaeW.PrintMore
set_option linter.unusedVariables false
set_option linter.unusedSimpArgs false

theorem len_q (g base cnt : Nat) (M : Nat → Prop) (xs : List It) (S : ByteArray → Bool) (w : World) (h : IsQ w base g M xs S cnt) :
    Calls Try.prog 11 #[.pointer (some ⟨g, 0, none⟩)] w fun e w' => e = .returned (.int .i64 xs.length) ∧ w = w' := by
  obtain ⟨A, c, b, hg, _⟩ := h
  exact len_any g A xs.length c _ w hg
theorem IsQ.below {w W : World} {base g cnt : Nat} {M : Nat → Prop} {xs : List It} {S : ByteArray → Bool} (h : IsQ w base g M xs S cnt) (hb : Below w.heap.size w W) : IsQ W base g M xs S cnt := by
  obtain ⟨A, c, b, hg, h1, h2, h3, h4, h5, h6, hR, hm⟩ := h
  exact ⟨A, c, b, (hb.block g (blk_lt hg)).trans hg, h1, h2, h3, h4, h5, Nat.lt_of_lt_of_le h6 hb.size, Kd.R_below hR hb, hm.kept (grown_below (row := none) hb) (by simp)⟩
theorem num_any (n : Int) (w : World) : Calls Try.prog 8 #[.int .i64 n] w fun e w' => e = .returned (.int .i64 n) ∧ w = w' := by
  go_enter Try.func8, Try.ntmps8
  go_wp2
  go_ret
  exact ⟨rfl, rfl⟩
theorem new_any (w : World) : Calls Try.prog 6 #[] w fun e w' => ∃ g, e = .returned (.pointer (some ⟨g, 0, none⟩)) ∧ IsQ w' w.heap.size g (fun k => w.heap.size ≤ k ∧ k < w'.heap.size) [] (fun _ => false) 0 ∧ Below w.heap.size w w' := by
  have hmm := @run_makeMap Try.prog
  go_enter Try.func6, Try.ntmps6
  go_wp2
  go_ret
  refine ⟨w.heap.size + 1, ?_, ⟨none, 0, w.heap.size, ?_, by omega, Nat.le_refl _, ⟨by omega, ?_⟩, ⟨Nat.le_refl _, ?_⟩, by omega, ?_, Kd.R_nil _ _ _ _ _, ?_⟩, ?_⟩
  · rfl
  · have e := new_blk (w.alloc (.map #[] 0)) (.cells #[.bool true, .slice none 0 0, .map (some w.heap.size)] 46)
    rw [World.size_alloc] at e
    exact e
  · rw [World.size_alloc, World.size_alloc]; omega
  · rw [World.size_alloc, World.size_alloc]; omega
  · rw [World.size_alloc, World.size_alloc]; omega
  · exact (HasMap.made w).kept (grown_below (row := none) (below_alloc (Below.refl _ _) _)) (by simp)
  · exact below_alloc (below_alloc (Below.refl _ _) _) _
abbrev itA : It := ⟨⟨#[97]⟩, 5, 0⟩
abbrev itB : It := ⟨⟨#[98]⟩, 3, 0⟩
theorem live_l1 : upF ([] : List It).length ([] ++ [itA]) ([] : List It).length = [itA] := rfl
theorem live_l2 : upF [itA].length ([itA] ++ [itB]) [itA].length = [itB, itA] := rfl
theorem live_l3 : downF ([itB, itA].length - 1 + 1) ((swapL [itB, itA] 0 ([itB, itA].length - 1)).take ([itB, itA].length - 1)) 0 = [itA] := rfl
set_option maxHeartbeats 4000000 in
theorem live_any (w : World) : Calls Try.prog 5 #[] w fun e w' => e = .returned (.bool true) ∧ Below w.heap.size w w' := by
  go_enter Try.func5, Try.ntmps5
  go_wp2_with fail
  refine (new_any w).mono ?_
  rintro e w1 ⟨g, rfl, hq1, hb1⟩
  have HB1 := Lib.hid hb1
  have HQ1 := Lib.hid hq1
  clear hb1 hq1
  go_wp2_with fail
  refine (put_new g w.heap.size 0 _ [] _ w1 HQ1.out itA (by decide) rfl (by decide) (by decide) HB1.out.size).mono ?_
  rintro e w2 ⟨rfl, hq2, _, hb2⟩
  rw [live_l1] at hq2
  have HB2 := Lib.hid (HB1.out.trans hb2)
  have HQ2 := Lib.hid hq2
  clear hb2 hq2
  go_wp2_with fail
  refine (put_new g w.heap.size 1 _ [itA] _ w2 HQ2.out itB (by decide) (by decide) (by decide) (by decide) HB2.out.size).mono ?_
  rintro e w3 ⟨rfl, hq3, _, hb3⟩
  rw [live_l2] at hq3
  have HB3 := Lib.hid (HB2.out.trans hb3)
  have HQ3 := Lib.hid hq3
  clear hb3 hq3
  go_wp2_with fail
  refine (pop_some g w.heap.size 2 _ [itB, itA] _ w3 HQ3.out (by decide) (by decide) itB rfl (by decide) HB3.out.size).mono ?_
  rintro e w4 ⟨rfl, hq4, _, hb4⟩
  rw [live_l3] at hq4
  have HB4 := Lib.hid (HB3.out.trans hb4)
  have HQ4 := Lib.hid hq4
  clear hb4 hq4
  have HB5 := Lib.hid (below_lo HB4.out (below_alloc (Below.refl w4.heap.size w4) (boxI itB)))
  have HQ5 := Lib.hid (HQ4.out.below (below_alloc (Below.refl w4.heap.size w4) (boxI itB)))
  have hc : (w4.alloc (boxI itB)).cell? ⟨w4.heap.size, 0, none⟩ = some (.string ⟨#[98]⟩) := (blk_cell (new_blk w4 (boxI itB)) 0).trans rfl
  go_wp2_with fail
  generalize w4.alloc (boxI itB) = w5 at *
  refine (num_any 0 w5).mono ?_
  rintro e w6 ⟨rfl, hw⟩
  subst hw
  go_wp2_with fail
  refine (num_any 0 w5).mono ?_
  rintro e w6 ⟨rfl, hw⟩
  subst hw
  go_wp2_with fail
  refine (len_q g w.heap.size 2 _ [itA] _ w5 HQ5.out).mono ?_
  rintro e w6 ⟨rfl, hw⟩
  subst hw
  go_wp2
  go_ret
  exact ⟨rfl, HB5.out⟩
end Go.Proofs.Ytdpcfamgmicboae
