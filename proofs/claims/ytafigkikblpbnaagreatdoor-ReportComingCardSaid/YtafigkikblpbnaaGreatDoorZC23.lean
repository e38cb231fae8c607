/- The law ReportComing answers true; no condition beyond each theorem its own. -/
import Derived.Test.YtafigkikblpbnaaGreatDoorZC21
import Derived.Test.YtafigkikblpbnaaGreatDoorZC22
namespace Go.Proofs.YtafigkikblpbnaaGreatDoor.PG
open Go.RowKit Go.Proofs.YtafigkikblpbnaaGreatDoorW.PrintWords Go.Proofs.YtafigkikblpbnaaGreatDoorW.PrintLast Go.Proofs.YtafigkikblpbnaaGreatDoorW.PrintMore
set_option linter.unusedVariables false
set_option linter.unusedSimpArgs false
set_option maxRecDepth 100000

/-- It answers these words and this error. -/
def RCo (L : List ByteArray) (er : Int) (W : World) (e : Ending) (w' : World) : Prop := ∃ (A : Option Addr) (c : Nat), e = .returned (.tuple #[.slice A L.length c, .int .i64 er]) ∧ Kd.C Kd.string w' A L.length L ∧ Below W.heap.size W w'
/-- The dates in order. -/
noncomputable def ordD (xs : List (Int × ByteArray)) : List ByteArray := @dite _ (∃ E, Mg (dl xs) E 0 xs.length) (Classical.propDecidable _) (fun h => outL (Classical.choose h) xs.length) (fun _ => [])
theorem ordD_eq {xs : List (Int × ByteArray)} {E : Nat → Dt} (h : Mg (dl xs) E 0 xs.length) : outL E xs.length = ordD xs := by
  have hx : ∃ E, Mg (dl xs) E 0 xs.length := ⟨E, h⟩
  unfold ordD
  rw [dif_pos hx]
  unfold outL
  exact List.map_congr_left fun i hi => by rw [Mg.uniq h (Classical.choose_spec hx) i (List.mem_range.1 hi)]
theorem RCm.co {xs : List (Int × ByteArray)} {W : World} {e : Ending} {w' : World} (h : RCm xs W e w') : RCo (ordD xs) 0 W e w' := by
  obtain ⟨E, hm, A, c, he, _, hC, hb⟩ := h
  have hl : xs.length = (ordD xs).length := by rw [← ordD_eq hm, outL_len]
  rw [ordD_eq hm] at hC
  rw [hl] at he hC
  exact ⟨A, c, he, hC, hb⟩

/-- Days that may not be. -/
theorem ComingP_out (s : S31) (dy : Int) (hd : dy < 0 ∨ 1048576 < dy) (A2 A3 A4 A5 A6 A7 A8 : Option Addr) (c2 c3 c4 c5 c6 c7 c8 : Nat) (W : World) : Calls Tryz.prog 8 #[.agg #[.int .i64 s.f0, .int .u64 s.f1, .slice A2 s.f2.length c2, .slice A3 s.f3.length c3, .slice A4 s.f4.length c4, .slice A5 s.f5.length c5, .slice A6 s.f6.length c6, .slice A7 s.f7.length c7, .slice A8 s.f8.length c8, .int .i64 s.f9], .int .i64 dy] W (RCo [] 1 W) := by
  have HB := Lib.hid (show Below W.heap.size W (W.alloc (.cells #[.int .i64 s.f0, .int .u64 s.f1, .slice A2 s.f2.length c2, .slice A3 s.f3.length c3, .slice A4 s.f4.length c4, .slice A5 s.f5.length c5, .slice A6 s.f6.length c6, .slice A7 s.f7.length c7, .slice A8 s.f8.length c8, .int .i64 s.f9] 31 (0, 0))) from below_alloc (Below.refl _ _) _)
  by_cases h1 : dy < 0
  · clear hd
    go_enter Tryz.func8, Tryz.ntmps8
    go_wp2
    go_ret2
    exact ⟨_, _, rfl, Kd.C_nil _ _, HB.out⟩
  · have h2 : 1048576 < dy := by omega
    clear hd
    go_enter Tryz.func8, Tryz.ntmps8
    go_wp2
    go_ret2
    exact ⟨_, _, rfl, Kd.C_nil _ _, HB.out⟩

/-- Days that may not be. -/
theorem ComingR_out (s : S31) (dy : Int) (hd : dy < 0 ∨ 1048576 < dy) (A2 A3 A4 A5 A6 A7 A8 : Option Addr) (c2 c3 c4 c5 c6 c7 c8 : Nat) (W : World) : Calls Tryz.prog 9 #[.agg #[.int .i64 s.f0, .int .u64 s.f1, .slice A2 s.f2.length c2, .slice A3 s.f3.length c3, .slice A4 s.f4.length c4, .slice A5 s.f5.length c5, .slice A6 s.f6.length c6, .slice A7 s.f7.length c7, .slice A8 s.f8.length c8, .int .i64 s.f9], .int .i64 dy] W (RCo [] 1 W) := by
  have HB := Lib.hid (show Below W.heap.size W (W.alloc (.cells #[.int .i64 s.f0, .int .u64 s.f1, .slice A2 s.f2.length c2, .slice A3 s.f3.length c3, .slice A4 s.f4.length c4, .slice A5 s.f5.length c5, .slice A6 s.f6.length c6, .slice A7 s.f7.length c7, .slice A8 s.f8.length c8, .int .i64 s.f9] 31 (0, 0))) from below_alloc (Below.refl _ _) _)
  by_cases h1 : dy < 0
  · clear hd
    go_enter Tryz.func9, Tryz.ntmps9
    go_wp2
    go_ret2
    exact ⟨_, _, rfl, Kd.C_nil _ _, HB.out⟩
  · have h2 : 1048576 < dy := by omega
    clear hd
    go_enter Tryz.func9, Tryz.ntmps9
    go_wp2
    go_ret2
    exact ⟨_, _, rfl, Kd.C_nil _ _, HB.out⟩

set_option maxHeartbeats 8000000 in
/-- The law ReportComing answers true. -/
theorem coming_any (s : S31) (A2 A3 A4 A5 A6 A7 A8 : Option Addr) (c2 c3 c4 c5 c6 c7 c8 : Nat) (dy : Int) (W : World) (hs : Rs W s A2 A3 A4 A5 A6 A7 A8 c2 c3 c4 c5 c6 c7 c8) (hz : Zs s) (ht : Lib.TabIs Tryz.prog W "internal/strconv.uint64pow10" .u64 Lib.pow10Tab) : Calls Tryz.prog 3 #[.agg #[.int .i64 s.f0, .int .u64 s.f1, .slice A2 s.f2.length c2, .slice A3 s.f3.length c3, .slice A4 s.f4.length c4, .slice A5 s.f5.length c5, .slice A6 s.f6.length c6, .slice A7 s.f7.length c7, .slice A8 s.f8.length c8, .int .i64 s.f9], .int .i64 dy] W fun e w' => e = .returned (.bool true) ∧ Below W.heap.size W w' := by
  have HB1 := Lib.hid (show Below W.heap.size W (W.alloc (.cells #[.int .i64 s.f0, .int .u64 s.f1, .slice A2 s.f2.length c2, .slice A3 s.f3.length c3, .slice A4 s.f4.length c4, .slice A5 s.f5.length c5, .slice A6 s.f6.length c6, .slice A7 s.f7.length c7, .slice A8 s.f8.length c8, .int .i64 s.f9] 31 (0, 0))) from below_alloc (Below.refl _ _) _)
  have HY1 := Lib.hid (new_blk W (.cells #[.int .i64 s.f0, .int .u64 s.f1, .slice A2 s.f2.length c2, .slice A3 s.f3.length c3, .slice A4 s.f4.length c4, .slice A5 s.f5.length c5, .slice A6 s.f6.length c6, .slice A7 s.f7.length c7, .slice A8 s.f8.length c8, .int .i64 s.f9] 31 (0, 0)))
  have HS1 := Lib.hid (hs.below HB1.out)
  have HSM := Lib.hid (small_b s A2 A3 A4 A5 A6 A7 A8 c2 c3 c4 c5 c6 c7 c8 _ HS1.out hz)
  have HZ := Lib.hid hz
  have HT1 := Lib.hid (tab_below ht HB1.out)
  clear hs hz ht
  generalize hw1 : W.alloc (.cells #[.int .i64 s.f0, .int .u64 s.f1, .slice A2 s.f2.length c2, .slice A3 s.f3.length c3, .slice A4 s.f4.length c4, .slice A5 s.f5.length c5, .slice A6 s.f6.length c6, .slice A7 s.f7.length c7, .slice A8 s.f8.length c8, .int .i64 s.f9] 31 (0, 0)) = w1 at *
  have HW := Lib.hid hw1
  clear hw1
  have q0 : (W.alloc (.cells #[.int .i64 s.f0, .int .u64 s.f1, .slice A2 s.f2.length c2, .slice A3 s.f3.length c3, .slice A4 s.f4.length c4, .slice A5 s.f5.length c5, .slice A6 s.f6.length c6, .slice A7 s.f7.length c7, .slice A8 s.f8.length c8, .int .i64 s.f9] 31 (0, 0))).cell? ⟨W.heap.size, 0, none⟩ = some (.int .i64 s.f0) := by rw [HW.out]; exact (blk_cell HY1.out 0).trans rfl
  have q1 : (W.alloc (.cells #[.int .i64 s.f0, .int .u64 s.f1, .slice A2 s.f2.length c2, .slice A3 s.f3.length c3, .slice A4 s.f4.length c4, .slice A5 s.f5.length c5, .slice A6 s.f6.length c6, .slice A7 s.f7.length c7, .slice A8 s.f8.length c8, .int .i64 s.f9] 31 (0, 0))).cell? ⟨W.heap.size, 1, none⟩ = some (.int .u64 s.f1) := by rw [HW.out]; exact (blk_cell HY1.out 1).trans rfl
  have q2 : (W.alloc (.cells #[.int .i64 s.f0, .int .u64 s.f1, .slice A2 s.f2.length c2, .slice A3 s.f3.length c3, .slice A4 s.f4.length c4, .slice A5 s.f5.length c5, .slice A6 s.f6.length c6, .slice A7 s.f7.length c7, .slice A8 s.f8.length c8, .int .i64 s.f9] 31 (0, 0))).cell? ⟨W.heap.size, 2, none⟩ = some (.slice A2 s.f2.length c2) := by rw [HW.out]; exact (blk_cell HY1.out 2).trans rfl
  have q3 : (W.alloc (.cells #[.int .i64 s.f0, .int .u64 s.f1, .slice A2 s.f2.length c2, .slice A3 s.f3.length c3, .slice A4 s.f4.length c4, .slice A5 s.f5.length c5, .slice A6 s.f6.length c6, .slice A7 s.f7.length c7, .slice A8 s.f8.length c8, .int .i64 s.f9] 31 (0, 0))).cell? ⟨W.heap.size, 3, none⟩ = some (.slice A3 s.f3.length c3) := by rw [HW.out]; exact (blk_cell HY1.out 3).trans rfl
  have q4 : (W.alloc (.cells #[.int .i64 s.f0, .int .u64 s.f1, .slice A2 s.f2.length c2, .slice A3 s.f3.length c3, .slice A4 s.f4.length c4, .slice A5 s.f5.length c5, .slice A6 s.f6.length c6, .slice A7 s.f7.length c7, .slice A8 s.f8.length c8, .int .i64 s.f9] 31 (0, 0))).cell? ⟨W.heap.size, 4, none⟩ = some (.slice A4 s.f4.length c4) := by rw [HW.out]; exact (blk_cell HY1.out 4).trans rfl
  have q5 : (W.alloc (.cells #[.int .i64 s.f0, .int .u64 s.f1, .slice A2 s.f2.length c2, .slice A3 s.f3.length c3, .slice A4 s.f4.length c4, .slice A5 s.f5.length c5, .slice A6 s.f6.length c6, .slice A7 s.f7.length c7, .slice A8 s.f8.length c8, .int .i64 s.f9] 31 (0, 0))).cell? ⟨W.heap.size, 5, none⟩ = some (.slice A5 s.f5.length c5) := by rw [HW.out]; exact (blk_cell HY1.out 5).trans rfl
  have q6 : (W.alloc (.cells #[.int .i64 s.f0, .int .u64 s.f1, .slice A2 s.f2.length c2, .slice A3 s.f3.length c3, .slice A4 s.f4.length c4, .slice A5 s.f5.length c5, .slice A6 s.f6.length c6, .slice A7 s.f7.length c7, .slice A8 s.f8.length c8, .int .i64 s.f9] 31 (0, 0))).cell? ⟨W.heap.size, 6, none⟩ = some (.slice A6 s.f6.length c6) := by rw [HW.out]; exact (blk_cell HY1.out 6).trans rfl
  have q7 : (W.alloc (.cells #[.int .i64 s.f0, .int .u64 s.f1, .slice A2 s.f2.length c2, .slice A3 s.f3.length c3, .slice A4 s.f4.length c4, .slice A5 s.f5.length c5, .slice A6 s.f6.length c6, .slice A7 s.f7.length c7, .slice A8 s.f8.length c8, .int .i64 s.f9] 31 (0, 0))).cell? ⟨W.heap.size, 7, none⟩ = some (.slice A7 s.f7.length c7) := by rw [HW.out]; exact (blk_cell HY1.out 7).trans rfl
  have q8 : (W.alloc (.cells #[.int .i64 s.f0, .int .u64 s.f1, .slice A2 s.f2.length c2, .slice A3 s.f3.length c3, .slice A4 s.f4.length c4, .slice A5 s.f5.length c5, .slice A6 s.f6.length c6, .slice A7 s.f7.length c7, .slice A8 s.f8.length c8, .int .i64 s.f9] 31 (0, 0))).cell? ⟨W.heap.size, 8, none⟩ = some (.slice A8 s.f8.length c8) := by rw [HW.out]; exact (blk_cell HY1.out 8).trans rfl
  have q9 : (W.alloc (.cells #[.int .i64 s.f0, .int .u64 s.f1, .slice A2 s.f2.length c2, .slice A3 s.f3.length c3, .slice A4 s.f4.length c4, .slice A5 s.f5.length c5, .slice A6 s.f6.length c6, .slice A7 s.f7.length c7, .slice A8 s.f8.length c8, .int .i64 s.f9] 31 (0, 0))).cell? ⟨W.heap.size, 9, none⟩ = some (.int .i64 s.f9) := by rw [HW.out]; exact (blk_cell HY1.out 9).trans rfl
  go_enter Tryz.func3, Tryz.ntmps3
  go_wp2_with fail
  rw [HW.out]
  clear HW q0 q1 q2 q3 q4 q5 q6 q7 q8 q9
  refine HSM.out.mono ?_
  rintro e w2 ⟨b, rfl, hf, hb⟩
  have HB2 := Lib.hid (below_tr HB1.out hb)
  have HY2 := Lib.hid ((hb.block W.heap.size (blk_lt HY1.out)).trans HY1.out)
  have HS2 := Lib.hid (HS1.out.below hb)
  have q0 : (w2).cell? ⟨W.heap.size, 0, none⟩ = some (.int .i64 s.f0) := (blk_cell HY2.out 0).trans rfl
  have q1 : (w2).cell? ⟨W.heap.size, 1, none⟩ = some (.int .u64 s.f1) := (blk_cell HY2.out 1).trans rfl
  have q2 : (w2).cell? ⟨W.heap.size, 2, none⟩ = some (.slice A2 s.f2.length c2) := (blk_cell HY2.out 2).trans rfl
  have q3 : (w2).cell? ⟨W.heap.size, 3, none⟩ = some (.slice A3 s.f3.length c3) := (blk_cell HY2.out 3).trans rfl
  have q4 : (w2).cell? ⟨W.heap.size, 4, none⟩ = some (.slice A4 s.f4.length c4) := (blk_cell HY2.out 4).trans rfl
  have q5 : (w2).cell? ⟨W.heap.size, 5, none⟩ = some (.slice A5 s.f5.length c5) := (blk_cell HY2.out 5).trans rfl
  have q6 : (w2).cell? ⟨W.heap.size, 6, none⟩ = some (.slice A6 s.f6.length c6) := (blk_cell HY2.out 6).trans rfl
  have q7 : (w2).cell? ⟨W.heap.size, 7, none⟩ = some (.slice A7 s.f7.length c7) := (blk_cell HY2.out 7).trans rfl
  have q8 : (w2).cell? ⟨W.heap.size, 8, none⟩ = some (.slice A8 s.f8.length c8) := (blk_cell HY2.out 8).trans rfl
  have q9 : (w2).cell? ⟨W.heap.size, 9, none⟩ = some (.int .i64 s.f9) := (blk_cell HY2.out 9).trans rfl
  have HT2 := Lib.hid (tab_below HT1.out hb)
  clear hb
  cases b
  · have HXX := HB2
    go_wp2_with fail
    refine (live_eq w2).mono ?_
    rintro e wl ⟨rfl, hbl⟩
    have HF := Lib.hid (below_tr HB2.out hbl)
    clear hbl q0 q1 q2 q3 q4 q5 q6 q7 q8 q9
    go_wp2
    go_ret
    exact ⟨rfl, HF.out⟩
  · have HF := Lib.hid (hf rfl)
    clear hf
    obtain ⟨L, er, HP, HR⟩ : ∃ (L : List ByteArray) (er : Int), Aside0 (∀ w', Below w2.heap.size w2 w' → Calls Tryz.prog 8 #[.agg #[.int .i64 s.f0, .int .u64 s.f1, .slice A2 s.f2.length c2, .slice A3 s.f3.length c3, .slice A4 s.f4.length c4, .slice A5 s.f5.length c5, .slice A6 s.f6.length c6, .slice A7 s.f7.length c7, .slice A8 s.f8.length c8, .int .i64 s.f9], .int .i64 dy] w' (RCo L er w')) ∧ Aside0 (∀ w', Below w2.heap.size w2 w' → Calls Tryz.prog 9 #[.agg #[.int .i64 s.f0, .int .u64 s.f1, .slice A2 s.f2.length c2, .slice A3 s.f3.length c3, .slice A4 s.f4.length c4, .slice A5 s.f5.length c5, .slice A6 s.f6.length c6, .slice A7 s.f7.length c7, .slice A8 s.f8.length c8, .int .i64 s.f9], .int .i64 dy] w' (RCo L er w')) := by
      by_cases hd : dy < 0 ∨ 1048576 < dy
      · exact ⟨[], 1, ⟨fun w' _ => ComingP_out s dy hd A2 A3 A4 A5 A6 A7 A8 c2 c3 c4 c5 c6 c7 c8 w'⟩, ⟨fun w' _ => ComingR_out s dy hd A2 A3 A4 A5 A6 A7 A8 c2 c3 c4 c5 c6 c7 c8 w'⟩⟩
      · obtain ⟨d, hd6⟩ := ex_dpH s.f6
        have hA : Ask d s := ⟨fun x hx => lim_H _ _ (HF.out.2.rules.2 x hx).1, fun y hy => Nat.le_trans (HF.out.2.miles y hy) (by decide), hd6, Nat.le_trans HF.out.1.n6 (by decide)⟩
        have hac : ∀ x ∈ s.f2, 1 ≤ x.f2 ∧ x.f2 ≤ 3 := fun x hx => (HF.out.2.rules.2 x hx).2.2
        have hz5 : ∀ r ∈ s.f5, r.f0.size ≤ 140737488351232 := fun r hr => (HZ.out.z5 r hr).1
        have h5 : s.f5.length ≤ 24 := HF.out.2.recs.1
        exact ⟨ordD (cmL d s dy s.f5.length), 0, ⟨fun w' h => (ComingP_any d s dy (by omega) (by omega) HF.out.2.clock A2 A3 A4 A5 A6 A7 A8 c2 c3 c4 c5 c6 c7 c8 w' (HS2.out.below h) hA hac hz5 h5 (tab_below HT2.out h)).mono fun _ _ h_ => RCm.co h_⟩, ⟨fun w' h => (ComingR_any d s dy (by omega) (by omega) HF.out.2.clock A2 A3 A4 A5 A6 A7 A8 c2 c3 c4 c5 c6 c7 c8 w' (HS2.out.below h) hA hac hz5 h5).mono fun _ _ h_ => RCm.co h_⟩⟩
    clear HF HT2 HT1
    go_wp2_with fail
    refine (HP.out w2 (Below.refl _ _)).mono ?_
    rintro e w3 ⟨A, c, rfl, hC, hb⟩
    have HC3 := Lib.hid hC
    have HB3 := Lib.hid (below_tr HB2.out hb)
    have HY3 := Lib.hid ((hb.block W.heap.size (blk_lt HY2.out)).trans HY2.out)
    have HS3 := Lib.hid (HS2.out.below hb)
    have q0 : (w3).cell? ⟨W.heap.size, 0, none⟩ = some (.int .i64 s.f0) := (blk_cell HY3.out 0).trans rfl
    have q1 : (w3).cell? ⟨W.heap.size, 1, none⟩ = some (.int .u64 s.f1) := (blk_cell HY3.out 1).trans rfl
    have q2 : (w3).cell? ⟨W.heap.size, 2, none⟩ = some (.slice A2 s.f2.length c2) := (blk_cell HY3.out 2).trans rfl
    have q3 : (w3).cell? ⟨W.heap.size, 3, none⟩ = some (.slice A3 s.f3.length c3) := (blk_cell HY3.out 3).trans rfl
    have q4 : (w3).cell? ⟨W.heap.size, 4, none⟩ = some (.slice A4 s.f4.length c4) := (blk_cell HY3.out 4).trans rfl
    have q5 : (w3).cell? ⟨W.heap.size, 5, none⟩ = some (.slice A5 s.f5.length c5) := (blk_cell HY3.out 5).trans rfl
    have q6 : (w3).cell? ⟨W.heap.size, 6, none⟩ = some (.slice A6 s.f6.length c6) := (blk_cell HY3.out 6).trans rfl
    have q7 : (w3).cell? ⟨W.heap.size, 7, none⟩ = some (.slice A7 s.f7.length c7) := (blk_cell HY3.out 7).trans rfl
    have q8 : (w3).cell? ⟨W.heap.size, 8, none⟩ = some (.slice A8 s.f8.length c8) := (blk_cell HY3.out 8).trans rfl
    have q9 : (w3).cell? ⟨W.heap.size, 9, none⟩ = some (.int .i64 s.f9) := (blk_cell HY3.out 9).trans rfl
    have HB23 := Lib.hid hb
    clear hb hC
    go_wp2_with fail
    refine (HR.out w3 HB23.out).mono ?_
    rintro e w4 ⟨A', c', rfl, hC, hb⟩
    have HSN := Lib.hid (SameNames_eq L A A' c c' w4 (Kd.C_below HC3.out hb) hC)
    have HB4 := Lib.hid (below_tr HB3.out hb)
    clear hb hC q0 q1 q2 q3 q4 q5 q6 q7 q8 q9
    go_wp2_with fail
    refine HSN.out.mono ?_
    rintro e w5 ⟨rfl, hb⟩
    have HB5 := Lib.hid (below_tr HB4.out hb)
    have HNM := Lib.hid (num_eq er w5)
    have HLV := Lib.hid (live_eq w5)
    clear hb
    go_wp2_with fail
    refine HNM.out.mono ?_
    rintro e w6 ⟨rfl, rfl⟩
    go_wp2_with fail
    refine HLV.out.mono ?_
    rintro e w7 ⟨rfl, hb⟩
    have HB7 := Lib.hid (below_tr HB5.out hb)
    clear hb
    go_wp2_with fail
    go_ret
    exact ⟨rfl, HB7.out⟩
end Go.Proofs.YtafigkikblpbnaaGreatDoor.PG
