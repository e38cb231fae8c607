/- Contracts of the package queue's functions: order and up; no condition beyond each theorem its own. -/
import Derived.Test.YtdpcfamgmicboaeQueueA
import Derived.Test.YtdpcfamgmicboaeQueueB
import Derived.Test.YtdpcfamgmicboaePQx1
namespace Go.Proofs.Ytdpcfamgmicboae
open Go.RowKit Go.Proofs.YtdpcfamgmicboaeW.PrintWords Go.Proofs.YtdpcfamgmicboaeW.PrintLast Go.Proofs.YtdpcfamgmicboaeW.PrintMore
set_option linter.unusedVariables false
set_option linter.unusedSimpArgs false

def cI (a b : Int) : Int := if a < b then -1 else if a > b then 1 else 0
def cS (a b : ByteArray) : Int := if Op.bytesLess a.toList b.toList = true then -1 else if Op.bytesLess b.toList a.toList = true then 1 else 0
/-- Two items against each other. -/
def ordI (a b : It) : Int := if cI a.f1 b.f1 ≠ 0 then cI a.f1 b.f1 else if cI a.f2 b.f2 ≠ 0 then cI a.f2 b.f2 else cS a.f0 b.f0
theorem cmpI_f (a b : Int) : PQ.cmp_Compare_int.f a b = some (cI a b) := by
  unfold PQ.cmp_Compare_int.f PQ.cmp_isNaN_int.f cI
  simp only [bne_self_eq_false, Option.bind_some]
  rw [if_neg (by decide), if_neg (by decide)]
  split <;> (try split) <;> rfl
theorem cmpS_f (a b : ByteArray) : PQ.cmp_Compare_string.f a b = some (cS a b) := by
  unfold PQ.cmp_Compare_string.f PQ.cmp_isNaN_string.f cS
  simp only [bne_self_eq_false, Option.bind_some]
  rw [if_neg (by decide), if_neg (by decide)]
  split <;> (try split) <;> rfl
theorem or3_f (a b c : Int) : PQ.cmp_Or_int.f 10 [a, b, c] = some (if a ≠ 0 then a else if b ≠ 0 then b else c) := by
  unfold PQ.cmp_Or_int.f
  simp only [PQ.cmp_Or_int.l0, List.length_cons, List.length_nil]
  have r0 : rd [a, b, c] 0 = a := rfl
  have r1 : rd [a, b, c] 1 = b := rfl
  have r2 : rd [a, b, c] 2 = c := rfl
  have w1 : wrap64 (0 + 1) = 1 := by unfold wrap64; omega
  have w2 : wrap64 (1 + 1) = 2 := by unfold wrap64; omega
  have w3 : wrap64 (2 + 1) = 3 := by unfold wrap64; omega
  simp only [r0, r1, r2, w1, w2, w3]
  by_cases ha : a = 0
  · by_cases hb : b = 0
    · by_cases hc : c = 0
      · simp [ha, hb, hc]
      · simp [ha, hb, hc]
    · simp [ha, hb]
  · simp [ha]
theorem order_any (a b : It) (w : World) : Calls Try.prog 17 #[.agg #[.string a.f0, .int .i64 a.f1, .int .i64 a.f2], .agg #[.string b.f0, .int .i64 b.f1, .int .i64 b.f2]] w fun e w' => e = .returned (.int .i64 (ordI a b)) ∧ Below w.heap.size w w' :=
  PQ.queue_order.calls 10 a.f0 a.f1 a.f2 b.f0 b.f1 b.f2 (ordI a b) w (by
    unfold PQ.queue_order.f
    rw [cmpI_f, Option.bind_some, cmpI_f, Option.bind_some, cmpS_f, Option.bind_some, or3_f]
    rfl)
def upF : Nat → List It → Nat → List It
  | 0, xs, _ => xs
  | f + 1, xs, i => if 0 < i then if ordI (xs.getD ((i - 1) / 2) PQ.z28) (xs.getD i PQ.z28) ≤ 0 then xs else upF f (swapL xs ((i - 1) / 2) i) ((i - 1) / 2) else xs
theorem swapL_len (xs : List It) (i k : Nat) : (swapL xs i k).length = xs.length := by unfold swapL; rw [List.length_set, List.length_set]
theorem grown_below {w w1 : World} {row : Option Nat} (h : Below w.heap.size w w1) : w.grownBy w1 row := ⟨h.os, h.tape, h.output, h.size, fun k hk _ => h.block k hk⟩
theorem grown_tr {a b c : World} {row : Option Nat} (h : a.grownBy b row) (k : b.grownBy c row) : a.grownBy c row :=
  ⟨k.os.trans h.os, k.tape.trans h.tape, k.output.trans h.output, Nat.le_trans h.size k.size, fun i hi hne => (k.block i (Nat.lt_of_lt_of_le hi h.size) hne).trans (h.block i hi hne)⟩
theorem own_row {w : World} {base n c : Nat} {A : Option Addr} {ok : Nat → Prop} {xs : List It} (hR : Kd.R PQ.k28 36 w base ok (.slice A n c) xs) (hn : xs.length = n) (h0 : 0 < n) : ∃ r, A = some ⟨r, 0, none⟩ := by
  obtain ⟨inner, ho⟩ := Kd.R_own hR
  rcases ho.2 with ⟨_, e0⟩ | ⟨r, cap, cur, hv, hb, hh, hl2, hm2, hcs, htk⟩
  · omega
  · injection hv with hA hn2 hc2
    exact ⟨r, hA⟩
set_option maxHeartbeats 4000000 in
theorem up_any (g : Nat) (A : Option Addr) (n c : Nat) (mv : Value) (xs : List It) (w : World) (base : Nat) (ok : Nat → Prop) (hg : w.heap[g]? = some (.cells #[.bool true, .slice A n c, mv] 46 (0, 0)))
    (hn : xs.length = n) (hR : Kd.R PQ.k28 36 w base ok (.slice A n c) xs) (hok : ∀ k, ok k → k ≠ g) (i : Nat) (hi : i < n) (hl : n ≤ 1000000) :
    Calls Try.prog 14 #[.pointer (some ⟨g, 0, none⟩), .int .i64 i] w fun e w' => e = .returned (.tuple #[]) ∧ Kd.R PQ.k28 36 w' base ok (.slice A n c) (upF i xs i) ∧ w.grownBy w' (Value.slice A n c).ownBlock := by
  obtain ⟨r, rfl⟩ := own_row hR hn (by omega)
  have hgr : g ≠ r := fun e => hok r (hR.1 r rfl) e.symm
  generalize hRs : upF i xs i = Rs
  have HRS := Lib.hid hRs
  have HG := Lib.hid hg
  have HR := Lib.hid hR
  have HN := Lib.hid hn
  clear hRs hg hR hn
  go_enter Try.func14, Try.ntmps14
  go_wp2
  go_loopw [1] (fun v1 wr => ∃ (j f : Nat) (ys : List It), v1 = .int .i64 j ∧ j < n ∧ j ≤ f ∧ Aside0 (ys.length = n) ∧ Aside0 (Kd.R PQ.k28 36 wr base ok (.slice (some ⟨r, 0, none⟩) n c) ys) ∧ Aside0 (w.grownBy wr (some r)) ∧ Aside0 (upF f ys j = Rs)) (fun v1 _ => (intOf v1).toNat)
  case atStart => exact ⟨i, i, xs, rfl, hi, Nat.le_refl _, ⟨HN.out⟩, ⟨HR.out⟩, ⟨grown_below (Below.refl _ _)⟩, ⟨HRS.out⟩⟩
  case round =>
    obtain ⟨j, f, ys, rfl, hj, hjf, HYL, HYR, HGR, HI⟩ := hrel
    by_cases h0j : 0 < j
    · obtain ⟨m, hm⟩ : ∃ m : Nat, m = (j - 1) / 2 := ⟨_, rfl⟩
      have hov : ((j : Int) - 1) / 2 = (m : Int) := by omega
      have hmj : m < j := by omega
      obtain ⟨cx, hx, h1, h2, h3⟩ := cells28 HYR.out m (by omega)
      obtain ⟨cy, hy, h4, h5, h6⟩ := cells28 HYR.out j hj
      obtain ⟨f, rfl⟩ : ∃ f', f = f' + 1 := ⟨f - 1, by omega⟩
      have HI2 := Lib.hid (show (if ordI cx cy ≤ 0 then ys else upF f (swapL ys m j) m) = Rs by
        have := HI.out
        unfold upF at this
        rw [if_pos h0j, ← hm, ← hx, ← hy] at this
        exact this)
      have hgw : wr.heap[g]? = some (.cells #[.bool true, .slice (some ⟨r, 0, none⟩) n c, mv] 46 (0, 0)) := (HGR.out.block g (blk_lt HG.out) (by intro e; injection e with e; exact hgr e)).trans HG.out
      have HGW := Lib.hid hgw
      have h0 : wr.drew.cell? ⟨g, 1, none⟩ = some (.slice (some ⟨r, 0, none⟩) n c) := (blk_cell hgw 1).trans rfl
      clear hgw hx hy hm
      generalize hpk : m * 3 = pk at *
      generalize hpi : j * 3 = pi at *
      have hki : (m : Int) < (n : Int) := by omega
      have hmn : m < n := by omega
      have HO := Lib.hid (order_any cx cy)
      generalize ordI cx cy = q at *
      go_wp2
      refine start_ (n := 16) (S := fun w' => w'.cell? ⟨g, 1, none⟩ = some (.slice (some ⟨r, 0, none⟩) n c) ∧ w'.cell? ⟨r, pk, none⟩ = some (.string cx.f0) ∧ w'.cell? ⟨r, pk + 1, none⟩ = some (.int .i64 cx.f1) ∧ w'.cell? ⟨r, pk + 2, none⟩ = some (.int .i64 cx.f2) ∧ w'.cell? ⟨r, pi, none⟩ = some (.string cy.f0) ∧ w'.cell? ⟨r, pi + 1, none⟩ = some (.int .i64 cy.f1) ∧ w'.cell? ⟨r, pi + 2, none⟩ = some (.int .i64 cy.f2)) (ds := [14]) #[false, false, false, false, false, false, false, false, false, false, false, false, false, false, false, false] (by kernel_rfl) rfl rfl ⟨h0, h1, h2, h3, h4, h5, h6⟩ (fun hHeld => ?_)
      refine pure_ (i := 0) (N := some 10) (v := ?_) (a' := ?_) #[true, false, false, false, false, false, false, false, false, false, false, false, false, false, false, false] rfl rfl (by kernel_rfl) (fun _ _ _ h => h) (Or.inl ⟨by rfl, ?_⟩) ?_ ?_
      rotate_left
      · intro w'
        go_simp
        with_reducible rfl
      rotate_left
      · simp only [Act.put, List.setIfInBounds_toArray, List.set_cons_zero, List.set_cons_succ, i64_w, i32_w]
        rfl
      refine pure_ (i := 1) (N := some 11) (v := ?_) (a' := ?_) #[true, true, false, false, false, false, false, false, false, false, false, false, false, false, false, false] rfl rfl (by kernel_rfl) (fun _ _ _ h => h) (Or.inl ⟨by rfl, ?_⟩) ?_ ?_
      rotate_left
      · intro w'
        go_simp
        with_reducible rfl
      rotate_left
      · simp only [Act.put, List.setIfInBounds_toArray, List.set_cons_zero, List.set_cons_succ, i64_w, i32_w]
        rfl
      refine pure_ (i := 2) (N := some 12) (v := ?_) (a' := ?_) #[true, true, true, false, false, false, false, false, false, false, false, false, false, false, false, false] rfl rfl (by kernel_rfl) (fun _ _ _ h => h) (Or.inl ⟨by rfl, ?_⟩) ?_ ?_
      rotate_left
      · intro w'
        go_simp
        with_reducible rfl
      rotate_left
      · simp only [Act.put, List.setIfInBounds_toArray, List.set_cons_zero, List.set_cons_succ, i64_w, i32_w]
        rfl
      refine pure_ (i := 4) (N := some 14) (v := ?_) (a' := ?_) #[true, true, true, false, true, false, false, false, false, false, false, false, false, false, false, false] rfl rfl (by kernel_rfl) (fun _ _ _ h => h) (Or.inl ⟨by rfl, ?_⟩) ?_ ?_
      rotate_left
      · intro w'
        go_simp
        with_reducible rfl
      rotate_left
      · simp only [Act.put, List.setIfInBounds_toArray, List.set_cons_zero, List.set_cons_succ, i64_w, i32_w]
        rfl
      refine pure_ (i := 7) (N := some 17) (v := ?_) (a' := ?_) #[true, true, true, false, true, false, false, true, false, false, false, false, false, false, false, false] rfl rfl (by kernel_rfl) (fun _ _ _ h => h) (Or.inl ⟨by rfl, ?_⟩) ?_ ?_
      rotate_left
      · intro w'
        go_simp
        with_reducible rfl
      rotate_left
      · simp only [Act.put, List.setIfInBounds_toArray, List.set_cons_zero, List.set_cons_succ, i64_w, i32_w]
        rfl
      refine pure_ (i := 8) (N := some 18) (v := ?_) (a' := ?_) #[true, true, true, false, true, false, false, true, true, false, false, false, false, false, false, false] rfl rfl (by kernel_rfl) (fun _ _ _ h => h) (Or.inl ⟨by rfl, ?_⟩) ?_ ?_
      rotate_left
      · intro w'
        go_simp
        with_reducible rfl
      rotate_left
      · simp only [Act.put, List.setIfInBounds_toArray, List.set_cons_zero, List.set_cons_succ, i64_w, i32_w]
        rfl
      refine pure_ (i := 9) (N := some 19) (v := ?_) (a' := ?_) #[true, true, true, false, true, false, false, true, true, true, false, false, false, false, false, false] rfl rfl (by kernel_rfl) (fun _ _ _ h => h) (Or.inl ⟨by rfl, ?_⟩) ?_ ?_
      rotate_left
      · intro w'
        go_simp
        with_reducible rfl
      rotate_left
      · simp only [Act.put, List.setIfInBounds_toArray, List.set_cons_zero, List.set_cons_succ, i64_w, i32_w]
        rfl
      refine pure_ (i := 11) (N := some 21) (v := ?_) (a' := ?_) #[true, true, true, false, true, false, false, true, true, true, false, true, false, false, false, false] rfl rfl (by kernel_rfl) (fun _ _ _ h => h) (Or.inl ⟨by rfl, ?_⟩) ?_ ?_
      rotate_left
      · intro w'
        go_simp
        with_reducible rfl
      rotate_left
      · simp only [Act.put, List.setIfInBounds_toArray, List.set_cons_zero, List.set_cons_succ, i64_w, i32_w]
        rfl
      refine take_ (i := 3) (N := some 13) (v := ?_) (a' := ?_) #[true, true, true, true, true, false, false, true, true, true, false, true, false, false, false, false] rfl rfl (by kernel_rfl) (fun _ _ _ h => h) (Or.inl ⟨by rfl, ?_⟩) hHeld ?_ ?_
      rotate_left
      · rintro w' ⟨s0, s1, s2, s3, s4, s5, s6⟩
        go_simp
        with_reducible rfl
      rotate_left
      · simp only [Act.put, List.setIfInBounds_toArray, List.set_cons_zero, List.set_cons_succ, i64_w, i32_w]
        rfl
      refine pure_ (i := 5) (N := some 15) (v := ?_) (a' := ?_) #[true, true, true, true, true, true, false, true, true, true, false, true, false, false, false, false] rfl rfl (by kernel_rfl) (fun _ _ _ h => h) (Or.inl ⟨by rfl, ?_⟩) ?_ ?_
      rotate_left
      · intro w'
        go_simp
        with_reducible rfl
      rotate_left
      · simp only [Act.put, List.setIfInBounds_toArray, List.set_cons_zero, List.set_cons_succ, i64_w, i32_w]
        rfl
      refine take_ (i := 6) (N := some 16) (v := ?_) (a' := ?_) #[true, true, true, true, true, true, true, true, true, true, false, true, false, false, false, false] rfl rfl (by kernel_rfl) (fun _ _ _ h => h) (Or.inl ⟨by rfl, ?_⟩) hHeld ?_ ?_
      rotate_left
      · rintro w' ⟨s0, s1, s2, s3, s4, s5, s6⟩
        go_simp
        with_reducible rfl
      rotate_left
      · simp only [Act.put, List.setIfInBounds_toArray, List.set_cons_zero, List.set_cons_succ, i64_w, i32_w]
        rfl
      refine take_ (i := 10) (N := some 20) (v := ?_) (a' := ?_) #[true, true, true, true, true, true, true, true, true, true, true, true, false, false, false, false] rfl rfl (by kernel_rfl) (fun _ _ _ h => h) (Or.inl ⟨by rfl, ?_⟩) hHeld ?_ ?_
      rotate_left
      · rintro w' ⟨s0, s1, s2, s3, s4, s5, s6⟩
        go_simp
        with_reducible rfl
      rotate_left
      · simp only [Act.put, List.setIfInBounds_toArray, List.set_cons_zero, List.set_cons_succ, i64_w, i32_w]
        rfl
      refine pure_ (i := 12) (N := some 22) (v := ?_) (a' := ?_) #[true, true, true, true, true, true, true, true, true, true, true, true, true, false, false, false] rfl rfl (by kernel_rfl) (fun _ _ _ h => h) (Or.inl ⟨by rfl, ?_⟩) ?_ ?_
      rotate_left
      · intro w'
        go_simp
        with_reducible rfl
      rotate_left
      · simp only [Act.put, List.setIfInBounds_toArray, List.set_cons_zero, List.set_cons_succ, i64_w, i32_w]
        rfl
      refine take_ (i := 13) (N := some 23) (v := ?_) (a' := ?_) #[true, true, true, true, true, true, true, true, true, true, true, true, true, true, false, false] rfl rfl (by kernel_rfl) (fun _ _ _ h => h) (Or.inl ⟨by rfl, ?_⟩) hHeld ?_ ?_
      rotate_left
      · rintro w' ⟨s0, s1, s2, s3, s4, s5, s6⟩
        go_simp
        with_reducible rfl
      rotate_left
      · simp only [Act.put, List.setIfInBounds_toArray, List.set_cons_zero, List.set_cons_succ, i64_w, i32_w]
        rfl
      refine last_ (i := 14) (N := some 24) #[true, true, true, true, true, true, true, true, true, true, true, true, true, true, true, false] rfl rfl (by kernel_rfl) (by decide) (fun K hK => ?_)
      refine goes_ Try.func17 (by kernel_rfl) rfl #[.agg #[.string cx.f0, .int .i64 cx.f1, .int .i64 cx.f2], .agg #[.string cy.f0, .int .i64 cy.f1, .int .i64 cy.f2]] (by rfl) rfl rfl (by simp only [List.map_toArray, List.map_cons, List.map_nil]; rfl) ?_
      with_reducible refine (HO.out _).mono ?_
      rintro e w3 ⟨rfl, hb⟩
      refine ⟨_, rfl, ?_⟩
      refine hK.out _ _ ?_
      clear hK K
      refine norm_ (a' := ?_) ?_ ?_
      rotate_left
      · show Act.put _ (some 24) _ = _
        simp only [Act.put, List.setIfInBounds_toArray, List.set_cons_zero, List.set_cons_succ, i64_w, i32_w]
        rfl
      refine pure_ (i := 15) (N := some 25) (v := ?_) (a' := ?_) #[true, true, true, true, true, true, true, true, true, true, true, true, true, true, true, true] rfl rfl (by kernel_rfl) (fun _ _ _ h => h) (Or.inl ⟨by rfl, ?_⟩) ?_ ?_
      rotate_left
      · intro w'
        go_simp
        with_reducible rfl
      rotate_left
      · simp only [Act.put, List.setIfInBounds_toArray, List.set_cons_zero, List.set_cons_succ, i64_w, i32_w]
        rfl
      refine done_ (by kernel_rfl) ?_
      have HB3 := Lib.hid (show Below wr.heap.size wr w3 from ⟨hb.os, hb.tape, hb.output, hb.size, hb.block⟩)
      clear hb hHeld
      by_cases hq : q ≤ 0
      · have HQ := Lib.hid hq
        go_wp2
        exact ⟨rfl, _, results_none (by kernel_rfl) _ _ _, rfl, by have := HI2.out; rw [if_pos HQ.out] at this; rw [← this]; exact Kd.R_below HYR.out HB3.out, grown_tr HGR.out (grown_below HB3.out)⟩
      · have HQ := Lib.hid hq
        have HSW := Lib.hid (swap_any g (some ⟨r, 0, none⟩) n c mv ys w3 base ok ((HB3.out.block g (blk_lt HGW.out)).trans HGW.out) HYL.out (Kd.R_below HYR.out HB3.out) hok m j hmn hj hl)
        clear h0 h1 h2 h3 h4 h5 h6
        go_wp2_with fail
        refine HSW.out.mono ?_
        rintro e w4 ⟨rfl, hR4, hg4⟩
        have HR4 := Lib.hid hR4
        have HG4 := Lib.hid hg4
        clear hR4 hg4
        go_wp2
        go_roundw
        case rel => exact ⟨m, f, swapL ys m j, rfl, hmn, by omega, ⟨by rw [swapL_len]; exact HYL.out⟩, ⟨HR4.out⟩, ⟨grown_tr (grown_tr HGR.out (grown_below HB3.out)) HG4.out⟩, ⟨by have := HI2.out; rw [if_neg (by have := HQ.out; omega)] at this; exact this⟩⟩
        case measure => simp [intOf]; omega
    · have h00 : j = 0 := by omega
      subst h00
      go_wp2
      have hfin : ys = Rs := by
        have := HI.out
        cases f with
        | zero => exact this
        | succ f => unfold upF at this; rw [if_neg (by omega)] at this; exact this
      exact ⟨rfl, _, results_none (by kernel_rfl) _ _ _, rfl, by rw [← hfin]; exact HYR.out, HGR.out⟩
end Go.Proofs.Ytdpcfamgmicboae
