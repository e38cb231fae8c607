/- The law ReportLines answers true; no condition beyond each theorem its own. -/
import Derived.Test.YtafigkikblpbnaaGreatDoorZL07
import Derived.Test.YtafigkikblpbnaaGreatDoorZL09
import Derived.Test.YtafigkikblpbnaaGreatDoorZL10
import Derived.Test.YtafigkikblpbnaaGreatDoorZL18
namespace Go.Proofs.YtafigkikblpbnaaGreatDoor.PG
open Go.RowKit Go.Proofs.YtafigkikblpbnaaGreatDoorW.PrintWords Go.Proofs.YtafigkikblpbnaaGreatDoorW.PrintLast Go.Proofs.YtafigkikblpbnaaGreatDoorW.PrintMore
set_option linter.unusedVariables false
set_option linter.unusedSimpArgs false
set_option maxRecDepth 100000
theorem tab5_3 : rtab .any (opsOf Tryz.f5 3) = (true, [([], []), ([0], [0]), ([], []), ([2, 1], [2]), ([1, 3, 3], [1, 3]), ([4, 4], [4]), ([5], [5]), ([6, 5, 5], [5, 6]), ([5], [5]), ([8, 7, 5], [5, 8]), ([7, 9, 9, 5], [5, 7, 9]), ([5, 10], [5, 10]), ([11, 10], [11]), ([12, 12], [12]), ([12, 13], [12, 13]), ([14, 13, 0, 1, 2, 3, 4, 5, 6, 7, 8, 9, 10, 11, 12, 13, 14], [14])]) := by kernel_rfl

set_option maxHeartbeats 2000000 in
/-- What is asked of a state ahead. -/
theorem small_any (s : S31) (A2 A3 A4 A5 A6 A7 A8 : Option Addr) (c2 c3 c4 c5 c6 c7 c8 : Nat) (W : World) (hs : Rs W s A2 A3 A4 A5 A6 A7 A8 c2 c3 c4 c5 c6 c7 c8) (hz : Zs s) : Calls Tryz.prog 6 #[.agg #[.int .i64 s.f0, .int .u64 s.f1, .slice A2 s.f2.length c2, .slice A3 s.f3.length c3, .slice A4 s.f4.length c4, .slice A5 s.f5.length c5, .slice A6 s.f6.length c6, .slice A7 s.f7.length c7, .slice A8 s.f8.length c8, .int .i64 s.f9]] W (RBq (Few s ∧ May5 s) W) := by
  have HB1 := Lib.hid (show Below W.heap.size W (W.alloc (.cells #[.int .i64 s.f0, .int .u64 s.f1, .slice A2 s.f2.length c2, .slice A3 s.f3.length c3, .slice A4 s.f4.length c4, .slice A5 s.f5.length c5, .slice A6 s.f6.length c6, .slice A7 s.f7.length c7, .slice A8 s.f8.length c8, .int .i64 s.f9] 31 (0, 0))) from below_alloc (Below.refl _ _) _)
  have HY1 := Lib.hid (new_blk W (.cells #[.int .i64 s.f0, .int .u64 s.f1, .slice A2 s.f2.length c2, .slice A3 s.f3.length c3, .slice A4 s.f4.length c4, .slice A5 s.f5.length c5, .slice A6 s.f6.length c6, .slice A7 s.f7.length c7, .slice A8 s.f8.length c8, .int .i64 s.f9] 31 (0, 0)))
  have HS1 := Lib.hid (hs.below HB1.out)
  have HSM := Lib.hid (Small28 s A2 A3 A4 A5 A6 A7 A8 c2 c3 c4 c5 c6 c7 c8 _ HS1.out)
  have HMA := Lib.hid (fun w' (h : Rs w' s A2 A3 A4 A5 A6 A7 A8 c2 c3 c4 c5 c6 c7 c8) => May_any s A2 A3 A4 A5 A6 A7 A8 c2 c3 c4 c5 c6 c7 c8 w' h hz)
  clear hs hz
  generalize hw1 : W.alloc (.cells #[.int .i64 s.f0, .int .u64 s.f1, .slice A2 s.f2.length c2, .slice A3 s.f3.length c3, .slice A4 s.f4.length c4, .slice A5 s.f5.length c5, .slice A6 s.f6.length c6, .slice A7 s.f7.length c7, .slice A8 s.f8.length c8, .int .i64 s.f9] 31 (0, 0)) = w1 at *
  have HW := Lib.hid hw1
  clear hw1
  have q0 : (W.alloc (.cells #[.int .i64 s.f0, .int .u64 s.f1, .slice A2 s.f2.length c2, .slice A3 s.f3.length c3, .slice A4 s.f4.length c4, .slice A5 s.f5.length c5, .slice A6 s.f6.length c6, .slice A7 s.f7.length c7, .slice A8 s.f8.length c8, .int .i64 s.f9] 31 (0, 0))).cell? ⟨W.heap.size, 0, none⟩ = some (.int .i64 s.f0) := by rw [HW.out]; exact (blk_cell HY1.out 0).trans rfl
  have q1 : (W.alloc (.cells #[.int .i64 s.f0, .int .u64 s.f1, .slice A2 s.f2.length c2, .slice A3 s.f3.length c3, .slice A4 s.f4.length c4, .slice A5 s.f5.length c5, .slice A6 s.f6.length c6, .slice A7 s.f7.length c7, .slice A8 s.f8.length c8, .int .i64 s.f9] 31 (0, 0))).cell? ⟨W.heap.size, 1, none⟩ = some (.int .u64 s.f1) := by rw [HW.out]; exact (blk_cell HY1.out 1).trans rfl
  have q2 : (W.alloc (.cells #[.int .i64 s.f0, .int .u64 s.f1, .slice A2 s.f2.length c2, .slice A3 s.f3.length c3, .slice A4 s.f4.length c4, .slice A5 s.f5.length c5, .slice A6 s.f6.length c6, .slice A7 s.f7.length c7, .slice A8 s.f8.length c8, .int .i64 s.f9] 31 (0, 0))).cell? ⟨W.heap.size, 2, none⟩ = some (.slice A2 s.f2.length c2) := by rw [HW.out]; exact (blk_cell HY1.out 2).trans rfl
  have q3 : (W.alloc (.cells #[.int .i64 s.f0, .int .u64 s.f1, .slice A2 s.f2.length c2, .slice A3 s.f3.length c3, .slice A4 s.f4.length c4, .slice A5 s.f5.length c5, .slice A6 s.f6.length c6, .slice A7 s.f7.length c7, .slice A8 s.f8.length c8, .int .i64 s.f9] 31 (0, 0))).cell? ⟨W.heap.size, 3, none⟩ = some (.slice A3 s.f3.length c3) := by rw [HW.out]; exact (blk_cell HY1.out 3).trans rfl
  have q4 : (W.alloc (.cells #[.int .i64 s.f0, .int .u64 s.f1, .slice A2 s.f2.length c2, .slice A3 s.f3.length c3, .slice A4 s.f4.length c4, .slice A5 s.f5.length c5, .slice A6 s.f6.length c6, .slice A7 s.f7.length c7, .slice A8 s.f8.length c8, .int .i64 s.f9] 31 (0, 0))).cell? ⟨W.heap.size, 4, none⟩ = some (.slice A4 s.f4.length c4) := by rw [HW.out]; exact (blk_cell HY1.out 4).trans rfl
  have q5 : (W.alloc (.cells #[.int .i64 s.f0, .int .u64 s.f1, .slice A2 s.f2.length c2, .slice A3 s.f3.length c3, .slice A4 s.f4.length c4, .slice A5 s.f5.length c5, .slice A6 s.f6.length c6, .slice A7 s.f7.length c7, .slice A8 s.f8.length c8, .int .i64 s.f9] 31 (0, 0))).cell? ⟨W.heap.size, 5, none⟩ = some (.slice A5 s.f5.length c5) := by rw [HW.out]; exact (blk_cell HY1.out 5).trans rfl
  have q6 : (W.alloc (.cells #[.int .i64 s.f0, .int .u64 s.f1, .slice A2 s.f2.length c2, .slice A3 s.f3.length c3, .slice A4 s.f4.length c4, .slice A5 s.f5.length c5, .slice A6 s.f6.length c6, .slice A7 s.f7.length c7, .slice A8 s.f8.length c8, .int .i64 s.f9] 31 (0, 0))).cell? ⟨W.heap.size, 6, none⟩ = some (.slice A6 s.f6.length c6) := by rw [HW.out]; exact (blk_cell HY1.out 6).trans rfl
  have q7 : (W.alloc (.cells #[.int .i64 s.f0, .int .u64 s.f1, .slice A2 s.f2.length c2, .slice A3 s.f3.length c3, .slice A4 s.f4.length c4, .slice A5 s.f5.length c5, .slice A6 s.f6.length c6, .slice A7 s.f7.length c7, .slice A8 s.f8.length c8, .int .i64 s.f9] 31 (0, 0))).cell? ⟨W.heap.size, 7, none⟩ = some (.slice A7 s.f7.length c7) := by rw [HW.out]; exact (blk_cell HY1.out 7).trans rfl
  have q8 : (W.alloc (.cells #[.int .i64 s.f0, .int .u64 s.f1, .slice A2 s.f2.length c2, .slice A3 s.f3.length c3, .slice A4 s.f4.length c4, .slice A5 s.f5.length c5, .slice A6 s.f6.length c6, .slice A7 s.f7.length c7, .slice A8 s.f8.length c8, .int .i64 s.f9] 31 (0, 0))).cell? ⟨W.heap.size, 8, none⟩ = some (.slice A8 s.f8.length c8) := by rw [HW.out]; exact (blk_cell HY1.out 8).trans rfl
  have q9 : (W.alloc (.cells #[.int .i64 s.f0, .int .u64 s.f1, .slice A2 s.f2.length c2, .slice A3 s.f3.length c3, .slice A4 s.f4.length c4, .slice A5 s.f5.length c5, .slice A6 s.f6.length c6, .slice A7 s.f7.length c7, .slice A8 s.f8.length c8, .int .i64 s.f9] 31 (0, 0))).cell? ⟨W.heap.size, 9, none⟩ = some (.int .i64 s.f9) := by rw [HW.out]; exact (blk_cell HY1.out 9).trans rfl
  go_enter Tryz.func6, Tryz.ntmps6
  go_wp2_with fail
  rw [HW.out]
  clear HW q0 q1 q2 q3 q4 q5 q6 q7 q8 q9
  refine HSM.out.mono ?_
  rintro e w2 ⟨b, rfl, hf, hb⟩
  have HB2 := Lib.hid (below_tr HB1.out hb)
  have HY2 := Lib.hid ((hb.block W.heap.size (blk_lt HY1.out)).trans HY1.out)
  have HS2 := Lib.hid (HS1.out.below hb)
  have q0 : (w2).cell? ⟨W.heap.size, 0, none⟩ = some (.int .i64 s.f0) := (blk_cell HY2.out 0).trans rfl
  have q1 : (w2).cell? ⟨W.heap.size, 1, none⟩ = some (.int .u64 s.f1) := (blk_cell HY2.out 1).trans rfl
  have q2 : (w2).cell? ⟨W.heap.size, 2, none⟩ = some (.slice A2 s.f2.length c2) := (blk_cell HY2.out 2).trans rfl
  have q3 : (w2).cell? ⟨W.heap.size, 3, none⟩ = some (.slice A3 s.f3.length c3) := (blk_cell HY2.out 3).trans rfl
  have q4 : (w2).cell? ⟨W.heap.size, 4, none⟩ = some (.slice A4 s.f4.length c4) := (blk_cell HY2.out 4).trans rfl
  have q5 : (w2).cell? ⟨W.heap.size, 5, none⟩ = some (.slice A5 s.f5.length c5) := (blk_cell HY2.out 5).trans rfl
  have q6 : (w2).cell? ⟨W.heap.size, 6, none⟩ = some (.slice A6 s.f6.length c6) := (blk_cell HY2.out 6).trans rfl
  have q7 : (w2).cell? ⟨W.heap.size, 7, none⟩ = some (.slice A7 s.f7.length c7) := (blk_cell HY2.out 7).trans rfl
  have q8 : (w2).cell? ⟨W.heap.size, 8, none⟩ = some (.slice A8 s.f8.length c8) := (blk_cell HY2.out 8).trans rfl
  have q9 : (w2).cell? ⟨W.heap.size, 9, none⟩ = some (.int .i64 s.f9) := (blk_cell HY2.out 9).trans rfl
  clear hb
  cases b
  · go_wp2_with fail
    go_ret
    exact RBq.no HB2.out
  · have HF := Lib.hid (hf rfl)
    clear hf
    go_wp2_with fail
    refine (HMA.out w2 HS2.out).mono ?_
    rintro e w3 ⟨b, rfl, hm, hb⟩
    have HB3 := Lib.hid (below_tr HB2.out hb)
    have HM := Lib.hid hm
    clear q0 q1 q2 q3 q4 q5 q6 q7 q8 q9 hb hm
    go_wp2_with fail
    go_ret
    exact RBq.mk (fun h => ⟨HF.out, HM.out h⟩) HB3.out

set_option maxHeartbeats 8000000 in
/-- The law ReportLines answers true. -/
theorem lines_any (s : S31) (A2 A3 A4 A5 A6 A7 A8 : Option Addr) (c2 c3 c4 c5 c6 c7 c8 : Nat) (W : World) (hs : Rs W s A2 A3 A4 A5 A6 A7 A8 c2 c3 c4 c5 c6 c7 c8) (hz : Zs s) : Calls Tryz.prog 5 #[.agg #[.int .i64 s.f0, .int .u64 s.f1, .slice A2 s.f2.length c2, .slice A3 s.f3.length c3, .slice A4 s.f4.length c4, .slice A5 s.f5.length c5, .slice A6 s.f6.length c6, .slice A7 s.f7.length c7, .slice A8 s.f8.length c8, .int .i64 s.f9]] W fun e w' => e = .returned (.bool true) ∧ Below W.heap.size W w' := by
  have HB1 := Lib.hid (show Below W.heap.size W (W.alloc (.cells #[.int .i64 s.f0, .int .u64 s.f1, .slice A2 s.f2.length c2, .slice A3 s.f3.length c3, .slice A4 s.f4.length c4, .slice A5 s.f5.length c5, .slice A6 s.f6.length c6, .slice A7 s.f7.length c7, .slice A8 s.f8.length c8, .int .i64 s.f9] 31 (0, 0))) from below_alloc (Below.refl _ _) _)
  have HY1 := Lib.hid (new_blk W (.cells #[.int .i64 s.f0, .int .u64 s.f1, .slice A2 s.f2.length c2, .slice A3 s.f3.length c3, .slice A4 s.f4.length c4, .slice A5 s.f5.length c5, .slice A6 s.f6.length c6, .slice A7 s.f7.length c7, .slice A8 s.f8.length c8, .int .i64 s.f9] 31 (0, 0)))
  have HS1 := Lib.hid (hs.below HB1.out)
  have HSM := Lib.hid (small_any s A2 A3 A4 A5 A6 A7 A8 c2 c3 c4 c5 c6 c7 c8 _ HS1.out hz)
  have HZ := Lib.hid hz
  clear hs hz
  generalize hw1 : W.alloc (.cells #[.int .i64 s.f0, .int .u64 s.f1, .slice A2 s.f2.length c2, .slice A3 s.f3.length c3, .slice A4 s.f4.length c4, .slice A5 s.f5.length c5, .slice A6 s.f6.length c6, .slice A7 s.f7.length c7, .slice A8 s.f8.length c8, .int .i64 s.f9] 31 (0, 0)) = w1 at *
  have HW := Lib.hid hw1
  clear hw1
  have q0 : (W.alloc (.cells #[.int .i64 s.f0, .int .u64 s.f1, .slice A2 s.f2.length c2, .slice A3 s.f3.length c3, .slice A4 s.f4.length c4, .slice A5 s.f5.length c5, .slice A6 s.f6.length c6, .slice A7 s.f7.length c7, .slice A8 s.f8.length c8, .int .i64 s.f9] 31 (0, 0))).cell? ⟨W.heap.size, 0, none⟩ = some (.int .i64 s.f0) := by rw [HW.out]; exact (blk_cell HY1.out 0).trans rfl
  have q1 : (W.alloc (.cells #[.int .i64 s.f0, .int .u64 s.f1, .slice A2 s.f2.length c2, .slice A3 s.f3.length c3, .slice A4 s.f4.length c4, .slice A5 s.f5.length c5, .slice A6 s.f6.length c6, .slice A7 s.f7.length c7, .slice A8 s.f8.length c8, .int .i64 s.f9] 31 (0, 0))).cell? ⟨W.heap.size, 1, none⟩ = some (.int .u64 s.f1) := by rw [HW.out]; exact (blk_cell HY1.out 1).trans rfl
  have q2 : (W.alloc (.cells #[.int .i64 s.f0, .int .u64 s.f1, .slice A2 s.f2.length c2, .slice A3 s.f3.length c3, .slice A4 s.f4.length c4, .slice A5 s.f5.length c5, .slice A6 s.f6.length c6, .slice A7 s.f7.length c7, .slice A8 s.f8.length c8, .int .i64 s.f9] 31 (0, 0))).cell? ⟨W.heap.size, 2, none⟩ = some (.slice A2 s.f2.length c2) := by rw [HW.out]; exact (blk_cell HY1.out 2).trans rfl
  have q3 : (W.alloc (.cells #[.int .i64 s.f0, .int .u64 s.f1, .slice A2 s.f2.length c2, .slice A3 s.f3.length c3, .slice A4 s.f4.length c4, .slice A5 s.f5.length c5, .slice A6 s.f6.length c6, .slice A7 s.f7.length c7, .slice A8 s.f8.length c8, .int .i64 s.f9] 31 (0, 0))).cell? ⟨W.heap.size, 3, none⟩ = some (.slice A3 s.f3.length c3) := by rw [HW.out]; exact (blk_cell HY1.out 3).trans rfl
  have q4 : (W.alloc (.cells #[.int .i64 s.f0, .int .u64 s.f1, .slice A2 s.f2.length c2, .slice A3 s.f3.length c3, .slice A4 s.f4.length c4, .slice A5 s.f5.length c5, .slice A6 s.f6.length c6, .slice A7 s.f7.length c7, .slice A8 s.f8.length c8, .int .i64 s.f9] 31 (0, 0))).cell? ⟨W.heap.size, 4, none⟩ = some (.slice A4 s.f4.length c4) := by rw [HW.out]; exact (blk_cell HY1.out 4).trans rfl
  have q5 : (W.alloc (.cells #[.int .i64 s.f0, .int .u64 s.f1, .slice A2 s.f2.length c2, .slice A3 s.f3.length c3, .slice A4 s.f4.length c4, .slice A5 s.f5.length c5, .slice A6 s.f6.length c6, .slice A7 s.f7.length c7, .slice A8 s.f8.length c8, .int .i64 s.f9] 31 (0, 0))).cell? ⟨W.heap.size, 5, none⟩ = some (.slice A5 s.f5.length c5) := by rw [HW.out]; exact (blk_cell HY1.out 5).trans rfl
  have q6 : (W.alloc (.cells #[.int .i64 s.f0, .int .u64 s.f1, .slice A2 s.f2.length c2, .slice A3 s.f3.length c3, .slice A4 s.f4.length c4, .slice A5 s.f5.length c5, .slice A6 s.f6.length c6, .slice A7 s.f7.length c7, .slice A8 s.f8.length c8, .int .i64 s.f9] 31 (0, 0))).cell? ⟨W.heap.size, 6, none⟩ = some (.slice A6 s.f6.length c6) := by rw [HW.out]; exact (blk_cell HY1.out 6).trans rfl
  have q7 : (W.alloc (.cells #[.int .i64 s.f0, .int .u64 s.f1, .slice A2 s.f2.length c2, .slice A3 s.f3.length c3, .slice A4 s.f4.length c4, .slice A5 s.f5.length c5, .slice A6 s.f6.length c6, .slice A7 s.f7.length c7, .slice A8 s.f8.length c8, .int .i64 s.f9] 31 (0, 0))).cell? ⟨W.heap.size, 7, none⟩ = some (.slice A7 s.f7.length c7) := by rw [HW.out]; exact (blk_cell HY1.out 7).trans rfl
  have q8 : (W.alloc (.cells #[.int .i64 s.f0, .int .u64 s.f1, .slice A2 s.f2.length c2, .slice A3 s.f3.length c3, .slice A4 s.f4.length c4, .slice A5 s.f5.length c5, .slice A6 s.f6.length c6, .slice A7 s.f7.length c7, .slice A8 s.f8.length c8, .int .i64 s.f9] 31 (0, 0))).cell? ⟨W.heap.size, 8, none⟩ = some (.slice A8 s.f8.length c8) := by rw [HW.out]; exact (blk_cell HY1.out 8).trans rfl
  have q9 : (W.alloc (.cells #[.int .i64 s.f0, .int .u64 s.f1, .slice A2 s.f2.length c2, .slice A3 s.f3.length c3, .slice A4 s.f4.length c4, .slice A5 s.f5.length c5, .slice A6 s.f6.length c6, .slice A7 s.f7.length c7, .slice A8 s.f8.length c8, .int .i64 s.f9] 31 (0, 0))).cell? ⟨W.heap.size, 9, none⟩ = some (.int .i64 s.f9) := by rw [HW.out]; exact (blk_cell HY1.out 9).trans rfl
  go_enter Tryz.func5, Tryz.ntmps5
  go_wp2_with fail
  rw [HW.out]
  clear HW q0 q1 q2 q3 q4 q5 q6 q7 q8 q9
  refine HSM.out.mono ?_
  rintro e w2 ⟨b, rfl, hf, hb⟩
  have HB2 := Lib.hid (below_tr HB1.out hb)
  have HY2 := Lib.hid ((hb.block W.heap.size (blk_lt HY1.out)).trans HY1.out)
  have HS2 := Lib.hid (HS1.out.below hb)
  have q0 : (w2).cell? ⟨W.heap.size, 0, none⟩ = some (.int .i64 s.f0) := (blk_cell HY2.out 0).trans rfl
  have q1 : (w2).cell? ⟨W.heap.size, 1, none⟩ = some (.int .u64 s.f1) := (blk_cell HY2.out 1).trans rfl
  have q2 : (w2).cell? ⟨W.heap.size, 2, none⟩ = some (.slice A2 s.f2.length c2) := (blk_cell HY2.out 2).trans rfl
  have q3 : (w2).cell? ⟨W.heap.size, 3, none⟩ = some (.slice A3 s.f3.length c3) := (blk_cell HY2.out 3).trans rfl
  have q4 : (w2).cell? ⟨W.heap.size, 4, none⟩ = some (.slice A4 s.f4.length c4) := (blk_cell HY2.out 4).trans rfl
  have q5 : (w2).cell? ⟨W.heap.size, 5, none⟩ = some (.slice A5 s.f5.length c5) := (blk_cell HY2.out 5).trans rfl
  have q6 : (w2).cell? ⟨W.heap.size, 6, none⟩ = some (.slice A6 s.f6.length c6) := (blk_cell HY2.out 6).trans rfl
  have q7 : (w2).cell? ⟨W.heap.size, 7, none⟩ = some (.slice A7 s.f7.length c7) := (blk_cell HY2.out 7).trans rfl
  have q8 : (w2).cell? ⟨W.heap.size, 8, none⟩ = some (.slice A8 s.f8.length c8) := (blk_cell HY2.out 8).trans rfl
  have q9 : (w2).cell? ⟨W.heap.size, 9, none⟩ = some (.int .i64 s.f9) := (blk_cell HY2.out 9).trans rfl
  clear hb
  cases b
  · have HXX := HB2
    go_wp2_with fail
    refine (live_eq w2).mono ?_
    rintro e wl ⟨rfl, hbl⟩
    have HF := Lib.hid (below_tr HB2.out hbl)
    clear hbl q0 q1 q2 q3 q4 q5 q6 q7 q8 q9
    go_wp2
    go_ret
    exact ⟨rfl, HF.out⟩
  · have HF := Lib.hid (hf rfl)
    clear hf
    obtain ⟨d, hd⟩ := ex_dpH s.f6
    have h5 : s.f5.length ≤ 24 := HF.out.2.recs.1
    have h6 : s.f6.length ≤ 30 := HF.out.1.n6
    have hst : ∀ k : Nat, k < s.f5.length → 1 ≤ (rd_T48 s.f5 (k : Int)).f5 ∧ (rd_T48 s.f5 (k : Int)).f5 ≤ 4 := fun k hk => (HF.out.2.recs.2 k hk).2.1
    have hz3 : ∀ r ∈ s.f5, r.f3.size ≤ 140737488351232 := fun r hr => (HZ.out.z5 r hr).2.2.2
    have hz6 : ∀ x ∈ s.f6, x.f0.size ≤ 140737488351232 := fun x hx => (HZ.out.z6 x hx).1
    have HL := Lib.hid (fun w' (h : Below w2.heap.size w2 w') => LinesP_any s A2 A3 A4 A5 A6 A7 A8 c2 c3 c4 c5 c6 c7 c8 w' (HS2.out.below h) hst hz3 h5)
    have HLR := Lib.hid (fun w' (h : Below w2.heap.size w2 w') => LinesR_any s A2 A3 A4 A5 A6 A7 A8 c2 c3 c4 c5 c6 c7 c8 w' (HS2.out.below h) hst hz3 h5)
    have HH := Lib.hid (fun w' (h : Below w2.heap.size w2 w') => HoldsP_any d s A2 A3 A4 A5 A6 A7 A8 c2 c3 c4 c5 c6 c7 c8 w' (HS2.out.below h) hd hz6 h6 h5)
    have HHR := Lib.hid (fun w' (h : Below w2.heap.size w2 w') => HoldsR_any d s A2 A3 A4 A5 A6 A7 A8 c2 c3 c4 c5 c6 c7 c8 w' (HS2.out.below h) hd hz6 h6 h5)
    clear hd h5 h6 hst hz3 hz6
    generalize lnL s = L at *
    generalize hls d s s.f6.length = H at *
    go_wp2_with fail
    refine WL.start (n := 16) (S := fun w' => Aside0 (Below w2.heap.size w2 w') ∧ w'.cell? ⟨W.heap.size, 0, none⟩ = some (.int .i64 s.f0) ∧ w'.cell? ⟨W.heap.size, 1, none⟩ = some (.int .u64 s.f1) ∧ w'.cell? ⟨W.heap.size, 2, none⟩ = some (.slice A2 s.f2.length c2) ∧ w'.cell? ⟨W.heap.size, 3, none⟩ = some (.slice A3 s.f3.length c3) ∧ w'.cell? ⟨W.heap.size, 4, none⟩ = some (.slice A4 s.f4.length c4) ∧ w'.cell? ⟨W.heap.size, 5, none⟩ = some (.slice A5 s.f5.length c5) ∧ w'.cell? ⟨W.heap.size, 6, none⟩ = some (.slice A6 s.f6.length c6) ∧ w'.cell? ⟨W.heap.size, 7, none⟩ = some (.slice A7 s.f7.length c7) ∧ w'.cell? ⟨W.heap.size, 8, none⟩ = some (.slice A8 s.f8.length c8) ∧ w'.cell? ⟨W.heap.size, 9, none⟩ = some (.int .i64 s.f9)) (ds := []) [false, false, false, false, false, false, false, false, false, false, false, false, false, false, false, false] (by kernel_rfl) rfl rfl ⟨⟨below_drew (Below.refl _ _)⟩, q0, q1, q2, q3, q4, q5, q6, q7, q8, q9⟩ (fun hHeld => ?_)
    refine WL.tab tab5_3 (fun HT_ => ?_)
    refine WL.more [0, 2] ?_
    repeat (first
      | (refine WL.off (lb' := ?_) (ys := ?_) rfl rfl (by rfl) ?_ HT_.out ?_ (fun _ _ _ h => h) ?_ ?_; rotate_left 2; (focus dsimp only [List.set_cons_zero, List.set_cons_succ]; rfl); (focus kernel_rfl); (focus dsimp only [List.set_cons_zero, List.set_cons_succ]; rfl))
      | (refine WL.pure (lb' := ?_) (v := ?_) (ys := ?_) rfl rfl (by rfl) ?_ HT_.out ?_ (fun _ _ _ h => h) ?_ ?_ ?_; rotate_left 3; (focus dsimp only [List.set_cons_zero, List.set_cons_succ]; rfl); (focus kernel_rfl); (focus intro w'; go_simp; with_reducible rfl); (focus dsimp only [List.set_cons_zero, List.set_cons_succ]; rfl))
      | (refine WL.take (lb' := ?_) (v := ?_) (ys := ?_) rfl rfl (by rfl) ?_ HT_.out ?_ (fun _ _ _ h => h) hHeld ?_ ?_ ?_; rotate_left 3; (focus dsimp only [List.set_cons_zero, List.set_cons_succ]; rfl); (focus kernel_rfl); (focus rintro w' ⟨s0, s1, s2, s3, s4, s5, s6, s7, s8, s9, s10⟩; go_simp; with_reducible rfl); (focus dsimp only [List.set_cons_zero, List.set_cons_succ]; rfl)))
    refine WL.more [1] ?_
    repeat (first
      | (refine WL.off (lb' := ?_) (ys := ?_) rfl rfl (by rfl) ?_ HT_.out ?_ (fun _ _ _ h => h) ?_ ?_; rotate_left 2; (focus dsimp only [List.set_cons_zero, List.set_cons_succ]; rfl); (focus kernel_rfl); (focus dsimp only [List.set_cons_zero, List.set_cons_succ]; rfl))
      | (refine WL.pure (lb' := ?_) (v := ?_) (ys := ?_) rfl rfl (by rfl) ?_ HT_.out ?_ (fun _ _ _ h => h) ?_ ?_ ?_; rotate_left 3; (focus dsimp only [List.set_cons_zero, List.set_cons_succ]; rfl); (focus kernel_rfl); (focus intro w'; go_simp; with_reducible rfl); (focus dsimp only [List.set_cons_zero, List.set_cons_succ]; rfl))
      | (refine WL.take (lb' := ?_) (v := ?_) (ys := ?_) rfl rfl (by rfl) ?_ HT_.out ?_ (fun _ _ _ h => h) hHeld ?_ ?_ ?_; rotate_left 3; (focus dsimp only [List.set_cons_zero, List.set_cons_succ]; rfl); (focus kernel_rfl); (focus rintro w' ⟨s0, s1, s2, s3, s4, s5, s6, s7, s8, s9, s10⟩; go_simp; with_reducible rfl); (focus dsimp only [List.set_cons_zero, List.set_cons_succ]; rfl))
      | (refine WL.one (lb' := ?_) rfl rfl ?_ HT_.out ?_ (by decide) (fun K hK => ?_); rotate_left; (focus dsimp only [List.set_cons_zero, List.set_cons_succ]; rfl); (focus kernel_rfl); first
          | (refine goes_ Tryz.func12 (by kernel_rfl) rfl #[.agg #[.int .i64 s.f0, .int .u64 s.f1, .slice A2 s.f2.length c2, .slice A3 s.f3.length c3, .slice A4 s.f4.length c4, .slice A5 s.f5.length c5, .slice A6 s.f6.length c6, .slice A7 s.f7.length c7, .slice A8 s.f8.length c8, .int .i64 s.f9]] (by rfl) rfl rfl (by simp only [List.map_toArray, List.map_cons, List.map_nil]; rfl) ?_; (with_reducible refine (HL.out _ hHeld.1.out).mono ?_); rintro e w4 ⟨Aa, ca, rfl, hla, hCa, hb⟩; refine ⟨_, rfl, ?_⟩; refine hK.out _ _ (by have h_ := hHeld.2; refine ⟨⟨below_tr hHeld.1.out hb⟩, ?_⟩; repeat (first | exact below_cell hb h_ | (refine ⟨below_cell hb h_.1, ?_⟩; replace h_ := h_.2))) (fun hHeld => ?_); clear hK K; refine WL.put (ys := ?_) ?_ ?_; rotate_left; (focus dsimp only [List.set_cons_zero, List.set_cons_succ]; rfl))))
    refine WL.more [3] ?_
    repeat (first
      | (refine WL.off (lb' := ?_) (ys := ?_) rfl rfl (by rfl) ?_ HT_.out ?_ (fun _ _ _ h => h) ?_ ?_; rotate_left 2; (focus dsimp only [List.set_cons_zero, List.set_cons_succ]; rfl); (focus kernel_rfl); (focus dsimp only [List.set_cons_zero, List.set_cons_succ]; rfl))
      | (refine WL.pure (lb' := ?_) (v := ?_) (ys := ?_) rfl rfl (by rfl) ?_ HT_.out ?_ (fun _ _ _ h => h) ?_ ?_ ?_; rotate_left 3; (focus dsimp only [List.set_cons_zero, List.set_cons_succ]; rfl); (focus kernel_rfl); (focus intro w'; go_simp; with_reducible rfl); (focus dsimp only [List.set_cons_zero, List.set_cons_succ]; rfl))
      | (refine WL.take (lb' := ?_) (v := ?_) (ys := ?_) rfl rfl (by rfl) ?_ HT_.out ?_ (fun _ _ _ h => h) hHeld ?_ ?_ ?_; rotate_left 3; (focus dsimp only [List.set_cons_zero, List.set_cons_succ]; rfl); (focus kernel_rfl); (focus rintro w' ⟨s0, s1, s2, s3, s4, s5, s6, s7, s8, s9, s10⟩; go_simp; with_reducible rfl); (focus dsimp only [List.set_cons_zero, List.set_cons_succ]; rfl))
      | (refine WL.one (lb' := ?_) rfl rfl ?_ HT_.out ?_ (by decide) (fun K hK => ?_); rotate_left; (focus dsimp only [List.set_cons_zero, List.set_cons_succ]; rfl); (focus kernel_rfl); first
          | (refine goes_ Tryz.func15 (by kernel_rfl) rfl #[.agg #[.int .i64 s.f0, .int .u64 s.f1, .slice A2 s.f2.length c2, .slice A3 s.f3.length c3, .slice A4 s.f4.length c4, .slice A5 s.f5.length c5, .slice A6 s.f6.length c6, .slice A7 s.f7.length c7, .slice A8 s.f8.length c8, .int .i64 s.f9]] (by rfl) rfl rfl (by simp only [List.map_toArray, List.map_cons, List.map_nil]; rfl) ?_; (with_reducible refine (HLR.out _ hHeld.1.out).mono ?_); rintro e w5 ⟨Ab, cb, rfl, hlb, hCb, hb⟩; refine ⟨_, rfl, ?_⟩; have hCa5 := Kd.C_below hCa hb; refine hK.out _ _ (by have h_ := hHeld.2; refine ⟨⟨below_tr hHeld.1.out hb⟩, ?_⟩; repeat (first | exact below_cell hb h_ | (refine ⟨below_cell hb h_.1, ?_⟩; replace h_ := h_.2))) (fun hHeld => ?_); clear hK K; refine WL.put (ys := ?_) ?_ ?_; rotate_left; (focus dsimp only [List.set_cons_zero, List.set_cons_succ]; rfl))))
    refine WL.more [4] ?_
    repeat (first
      | (refine WL.off (lb' := ?_) (ys := ?_) rfl rfl (by rfl) ?_ HT_.out ?_ (fun _ _ _ h => h) ?_ ?_; rotate_left 2; (focus dsimp only [List.set_cons_zero, List.set_cons_succ]; rfl); (focus kernel_rfl); (focus dsimp only [List.set_cons_zero, List.set_cons_succ]; rfl))
      | (refine WL.pure (lb' := ?_) (v := ?_) (ys := ?_) rfl rfl (by rfl) ?_ HT_.out ?_ (fun _ _ _ h => h) ?_ ?_ ?_; rotate_left 3; (focus dsimp only [List.set_cons_zero, List.set_cons_succ]; rfl); (focus kernel_rfl); (focus intro w'; go_simp; with_reducible rfl); (focus dsimp only [List.set_cons_zero, List.set_cons_succ]; rfl))
      | (refine WL.take (lb' := ?_) (v := ?_) (ys := ?_) rfl rfl (by rfl) ?_ HT_.out ?_ (fun _ _ _ h => h) hHeld ?_ ?_ ?_; rotate_left 3; (focus dsimp only [List.set_cons_zero, List.set_cons_succ]; rfl); (focus kernel_rfl); (focus rintro w' ⟨s0, s1, s2, s3, s4, s5, s6, s7, s8, s9, s10⟩; go_simp; with_reducible rfl); (focus dsimp only [List.set_cons_zero, List.set_cons_succ]; rfl))
      | (refine WL.one (lb' := ?_) rfl rfl ?_ HT_.out ?_ (by decide) (fun K hK => ?_); rotate_left; (focus dsimp only [List.set_cons_zero, List.set_cons_succ]; rfl); (focus kernel_rfl); first
          | (refine goes_ Tryz.func10 (by kernel_rfl) rfl #[.slice Aa L.length ca, .slice Ab L.length cb] (by rfl) rfl rfl (by simp only [List.map_toArray, List.map_cons, List.map_nil]; rfl) ?_; (with_reducible refine (SameNames_eq L Aa Ab ca cb _ hCa5 hCb).mono ?_); rintro e w6 ⟨rfl, hb⟩; refine ⟨_, rfl, ?_⟩; refine hK.out _ _ (by have h_ := hHeld.2; refine ⟨⟨below_tr hHeld.1.out hb⟩, ?_⟩; repeat (first | exact below_cell hb h_ | (refine ⟨below_cell hb h_.1, ?_⟩; replace h_ := h_.2))) (fun hHeld => ?_); clear hK K; refine WL.put (ys := ?_) ?_ ?_; rotate_left; (focus dsimp only [List.set_cons_zero, List.set_cons_succ]; rfl))))
    refine WL.more [5, 6, 8] ?_
    repeat (first
      | (refine WL.off (lb' := ?_) (ys := ?_) rfl rfl (by rfl) ?_ HT_.out ?_ (fun _ _ _ h => h) ?_ ?_; rotate_left 2; (focus dsimp only [List.set_cons_zero, List.set_cons_succ]; rfl); (focus kernel_rfl); (focus dsimp only [List.set_cons_zero, List.set_cons_succ]; rfl))
      | (refine WL.pure (lb' := ?_) (v := ?_) (ys := ?_) rfl rfl (by rfl) ?_ HT_.out ?_ (fun _ _ _ h => h) ?_ ?_ ?_; rotate_left 3; (focus dsimp only [List.set_cons_zero, List.set_cons_succ]; rfl); (focus kernel_rfl); (focus intro w'; go_simp; with_reducible rfl); (focus dsimp only [List.set_cons_zero, List.set_cons_succ]; rfl))
      | (refine WL.take (lb' := ?_) (v := ?_) (ys := ?_) rfl rfl (by rfl) ?_ HT_.out ?_ (fun _ _ _ h => h) hHeld ?_ ?_ ?_; rotate_left 3; (focus dsimp only [List.set_cons_zero, List.set_cons_succ]; rfl); (focus kernel_rfl); (focus rintro w' ⟨s0, s1, s2, s3, s4, s5, s6, s7, s8, s9, s10⟩; go_simp; with_reducible rfl); (focus dsimp only [List.set_cons_zero, List.set_cons_succ]; rfl)))
    refine WL.more [7] ?_
    repeat (first
      | (refine WL.off (lb' := ?_) (ys := ?_) rfl rfl (by rfl) ?_ HT_.out ?_ (fun _ _ _ h => h) ?_ ?_; rotate_left 2; (focus dsimp only [List.set_cons_zero, List.set_cons_succ]; rfl); (focus kernel_rfl); (focus dsimp only [List.set_cons_zero, List.set_cons_succ]; rfl))
      | (refine WL.pure (lb' := ?_) (v := ?_) (ys := ?_) rfl rfl (by rfl) ?_ HT_.out ?_ (fun _ _ _ h => h) ?_ ?_ ?_; rotate_left 3; (focus dsimp only [List.set_cons_zero, List.set_cons_succ]; rfl); (focus kernel_rfl); (focus intro w'; go_simp; with_reducible rfl); (focus dsimp only [List.set_cons_zero, List.set_cons_succ]; rfl))
      | (refine WL.take (lb' := ?_) (v := ?_) (ys := ?_) rfl rfl (by rfl) ?_ HT_.out ?_ (fun _ _ _ h => h) hHeld ?_ ?_ ?_; rotate_left 3; (focus dsimp only [List.set_cons_zero, List.set_cons_succ]; rfl); (focus kernel_rfl); (focus rintro w' ⟨s0, s1, s2, s3, s4, s5, s6, s7, s8, s9, s10⟩; go_simp; with_reducible rfl); (focus dsimp only [List.set_cons_zero, List.set_cons_succ]; rfl))
      | (refine WL.one (lb' := ?_) rfl rfl ?_ HT_.out ?_ (by decide) (fun K hK => ?_); rotate_left; (focus dsimp only [List.set_cons_zero, List.set_cons_succ]; rfl); (focus kernel_rfl); first
          | (refine goes_ Tryz.func16 (by kernel_rfl) rfl #[.agg #[.int .i64 s.f0, .int .u64 s.f1, .slice A2 s.f2.length c2, .slice A3 s.f3.length c3, .slice A4 s.f4.length c4, .slice A5 s.f5.length c5, .slice A6 s.f6.length c6, .slice A7 s.f7.length c7, .slice A8 s.f8.length c8, .int .i64 s.f9]] (by rfl) rfl rfl (by simp only [List.map_toArray, List.map_cons, List.map_nil]; rfl) ?_; (with_reducible refine (HH.out _ hHeld.1.out).mono ?_); rintro e w7 ⟨Ac, cc, rfl, hlc, hCc, hb⟩; refine ⟨_, rfl, ?_⟩; refine hK.out _ _ (by have h_ := hHeld.2; refine ⟨⟨below_tr hHeld.1.out hb⟩, ?_⟩; repeat (first | exact below_cell hb h_ | (refine ⟨below_cell hb h_.1, ?_⟩; replace h_ := h_.2))) (fun hHeld => ?_); clear hK K; refine WL.put (ys := ?_) ?_ ?_; rotate_left; (focus dsimp only [List.set_cons_zero, List.set_cons_succ]; rfl))))
    refine WL.more [9] ?_
    repeat (first
      | (refine WL.off (lb' := ?_) (ys := ?_) rfl rfl (by rfl) ?_ HT_.out ?_ (fun _ _ _ h => h) ?_ ?_; rotate_left 2; (focus dsimp only [List.set_cons_zero, List.set_cons_succ]; rfl); (focus kernel_rfl); (focus dsimp only [List.set_cons_zero, List.set_cons_succ]; rfl))
      | (refine WL.pure (lb' := ?_) (v := ?_) (ys := ?_) rfl rfl (by rfl) ?_ HT_.out ?_ (fun _ _ _ h => h) ?_ ?_ ?_; rotate_left 3; (focus dsimp only [List.set_cons_zero, List.set_cons_succ]; rfl); (focus kernel_rfl); (focus intro w'; go_simp; with_reducible rfl); (focus dsimp only [List.set_cons_zero, List.set_cons_succ]; rfl))
      | (refine WL.take (lb' := ?_) (v := ?_) (ys := ?_) rfl rfl (by rfl) ?_ HT_.out ?_ (fun _ _ _ h => h) hHeld ?_ ?_ ?_; rotate_left 3; (focus dsimp only [List.set_cons_zero, List.set_cons_succ]; rfl); (focus kernel_rfl); (focus rintro w' ⟨s0, s1, s2, s3, s4, s5, s6, s7, s8, s9, s10⟩; go_simp; with_reducible rfl); (focus dsimp only [List.set_cons_zero, List.set_cons_succ]; rfl))
      | (refine WL.one (lb' := ?_) rfl rfl ?_ HT_.out ?_ (by decide) (fun K hK => ?_); rotate_left; (focus dsimp only [List.set_cons_zero, List.set_cons_succ]; rfl); (focus kernel_rfl); first
          | (refine goes_ Tryz.func17 (by kernel_rfl) rfl #[.agg #[.int .i64 s.f0, .int .u64 s.f1, .slice A2 s.f2.length c2, .slice A3 s.f3.length c3, .slice A4 s.f4.length c4, .slice A5 s.f5.length c5, .slice A6 s.f6.length c6, .slice A7 s.f7.length c7, .slice A8 s.f8.length c8, .int .i64 s.f9]] (by rfl) rfl rfl (by simp only [List.map_toArray, List.map_cons, List.map_nil]; rfl) ?_; (with_reducible refine (HHR.out _ hHeld.1.out).mono ?_); rintro e w8 ⟨Ad, cd, rfl, hld, hCd, hb⟩; refine ⟨_, rfl, ?_⟩; have hCc5 := Kd.C_below hCc hb; refine hK.out _ _ (by have h_ := hHeld.2; refine ⟨⟨below_tr hHeld.1.out hb⟩, ?_⟩; repeat (first | exact below_cell hb h_ | (refine ⟨below_cell hb h_.1, ?_⟩; replace h_ := h_.2))) (fun hHeld => ?_); clear hK K; refine WL.put (ys := ?_) ?_ ?_; rotate_left; (focus dsimp only [List.set_cons_zero, List.set_cons_succ]; rfl))))
    refine WL.more [10] ?_
    repeat (first
      | (refine WL.off (lb' := ?_) (ys := ?_) rfl rfl (by rfl) ?_ HT_.out ?_ (fun _ _ _ h => h) ?_ ?_; rotate_left 2; (focus dsimp only [List.set_cons_zero, List.set_cons_succ]; rfl); (focus kernel_rfl); (focus dsimp only [List.set_cons_zero, List.set_cons_succ]; rfl))
      | (refine WL.pure (lb' := ?_) (v := ?_) (ys := ?_) rfl rfl (by rfl) ?_ HT_.out ?_ (fun _ _ _ h => h) ?_ ?_ ?_; rotate_left 3; (focus dsimp only [List.set_cons_zero, List.set_cons_succ]; rfl); (focus kernel_rfl); (focus intro w'; go_simp; with_reducible rfl); (focus dsimp only [List.set_cons_zero, List.set_cons_succ]; rfl))
      | (refine WL.take (lb' := ?_) (v := ?_) (ys := ?_) rfl rfl (by rfl) ?_ HT_.out ?_ (fun _ _ _ h => h) hHeld ?_ ?_ ?_; rotate_left 3; (focus dsimp only [List.set_cons_zero, List.set_cons_succ]; rfl); (focus kernel_rfl); (focus rintro w' ⟨s0, s1, s2, s3, s4, s5, s6, s7, s8, s9, s10⟩; go_simp; with_reducible rfl); (focus dsimp only [List.set_cons_zero, List.set_cons_succ]; rfl))
      | (refine WL.one (lb' := ?_) rfl rfl ?_ HT_.out ?_ (by decide) (fun K hK => ?_); rotate_left; (focus dsimp only [List.set_cons_zero, List.set_cons_succ]; rfl); (focus kernel_rfl); first
          | (refine goes_ Tryz.func10 (by kernel_rfl) rfl #[.slice Ac H.length cc, .slice Ad H.length cd] (by rfl) rfl rfl (by simp only [List.map_toArray, List.map_cons, List.map_nil]; rfl) ?_; (with_reducible refine (SameNames_eq H Ac Ad cc cd _ hCc5 hCd).mono ?_); rintro e w9 ⟨rfl, hb⟩; refine ⟨_, rfl, ?_⟩; refine hK.out _ _ (by have h_ := hHeld.2; refine ⟨⟨below_tr hHeld.1.out hb⟩, ?_⟩; repeat (first | exact below_cell hb h_ | (refine ⟨below_cell hb h_.1, ?_⟩; replace h_ := h_.2))) (fun hHeld => ?_); clear hK K; refine WL.put (ys := ?_) ?_ ?_; rotate_left; (focus dsimp only [List.set_cons_zero, List.set_cons_succ]; rfl))))
    refine WL.more [11, 12] ?_
    repeat (first
      | (refine WL.off (lb' := ?_) (ys := ?_) rfl rfl (by rfl) ?_ HT_.out ?_ (fun _ _ _ h => h) ?_ ?_; rotate_left 2; (focus dsimp only [List.set_cons_zero, List.set_cons_succ]; rfl); (focus kernel_rfl); (focus dsimp only [List.set_cons_zero, List.set_cons_succ]; rfl))
      | (refine WL.pure (lb' := ?_) (v := ?_) (ys := ?_) rfl rfl (by rfl) ?_ HT_.out ?_ (fun _ _ _ h => h) ?_ ?_ ?_; rotate_left 3; (focus dsimp only [List.set_cons_zero, List.set_cons_succ]; rfl); (focus kernel_rfl); (focus intro w'; go_simp; with_reducible rfl); (focus dsimp only [List.set_cons_zero, List.set_cons_succ]; rfl))
      | (refine WL.take (lb' := ?_) (v := ?_) (ys := ?_) rfl rfl (by rfl) ?_ HT_.out ?_ (fun _ _ _ h => h) hHeld ?_ ?_ ?_; rotate_left 3; (focus dsimp only [List.set_cons_zero, List.set_cons_succ]; rfl); (focus kernel_rfl); (focus rintro w' ⟨s0, s1, s2, s3, s4, s5, s6, s7, s8, s9, s10⟩; go_simp; with_reducible rfl); (focus dsimp only [List.set_cons_zero, List.set_cons_succ]; rfl)))
    refine WL.more [13] ?_
    repeat (first
      | (refine WL.off (lb' := ?_) (ys := ?_) rfl rfl (by rfl) ?_ HT_.out ?_ (fun _ _ _ h => h) ?_ ?_; rotate_left 2; (focus dsimp only [List.set_cons_zero, List.set_cons_succ]; rfl); (focus kernel_rfl); (focus dsimp only [List.set_cons_zero, List.set_cons_succ]; rfl))
      | (refine WL.pure (lb' := ?_) (v := ?_) (ys := ?_) rfl rfl (by rfl) ?_ HT_.out ?_ (fun _ _ _ h => h) ?_ ?_ ?_; rotate_left 3; (focus dsimp only [List.set_cons_zero, List.set_cons_succ]; rfl); (focus kernel_rfl); (focus intro w'; go_simp; with_reducible rfl); (focus dsimp only [List.set_cons_zero, List.set_cons_succ]; rfl))
      | (refine WL.take (lb' := ?_) (v := ?_) (ys := ?_) rfl rfl (by rfl) ?_ HT_.out ?_ (fun _ _ _ h => h) hHeld ?_ ?_ ?_; rotate_left 3; (focus dsimp only [List.set_cons_zero, List.set_cons_succ]; rfl); (focus kernel_rfl); (focus rintro w' ⟨s0, s1, s2, s3, s4, s5, s6, s7, s8, s9, s10⟩; go_simp; with_reducible rfl); (focus dsimp only [List.set_cons_zero, List.set_cons_succ]; rfl))
      | (refine WL.one (lb' := ?_) rfl rfl ?_ HT_.out ?_ (by decide) (fun K hK => ?_); rotate_left; (focus dsimp only [List.set_cons_zero, List.set_cons_succ]; rfl); (focus kernel_rfl); first
          | (refine goes_ Tryz.func7 (by kernel_rfl) rfl #[] (by rfl) rfl rfl (by first | rfl | simp) ?_; (with_reducible refine (live_eq _).mono ?_); rintro e w10 ⟨rfl, hb⟩; refine ⟨_, rfl, ?_⟩; refine hK.out _ _ (by have h_ := hHeld.2; refine ⟨⟨below_tr hHeld.1.out hb⟩, ?_⟩; repeat (first | exact below_cell hb h_ | (refine ⟨below_cell hb h_.1, ?_⟩; replace h_ := h_.2))) (fun hHeld => ?_); clear hK K; refine WL.put (ys := ?_) ?_ ?_; rotate_left; (focus dsimp only [List.set_cons_zero, List.set_cons_succ]; rfl))))
    refine WL.more [14, 15] ?_
    repeat (first
      | (refine WL.off (lb' := ?_) (ys := ?_) rfl rfl (by rfl) ?_ HT_.out ?_ (fun _ _ _ h => h) ?_ ?_; rotate_left 2; (focus dsimp only [List.set_cons_zero, List.set_cons_succ]; rfl); (focus kernel_rfl); (focus dsimp only [List.set_cons_zero, List.set_cons_succ]; rfl))
      | (refine WL.pure (lb' := ?_) (v := ?_) (ys := ?_) rfl rfl (by rfl) ?_ HT_.out ?_ (fun _ _ _ h => h) ?_ ?_ ?_; rotate_left 3; (focus dsimp only [List.set_cons_zero, List.set_cons_succ]; rfl); (focus kernel_rfl); (focus intro w'; go_simp; with_reducible rfl); (focus dsimp only [List.set_cons_zero, List.set_cons_succ]; rfl))
      | (refine WL.take (lb' := ?_) (v := ?_) (ys := ?_) rfl rfl (by rfl) ?_ HT_.out ?_ (fun _ _ _ h => h) hHeld ?_ ?_ ?_; rotate_left 3; (focus dsimp only [List.set_cons_zero, List.set_cons_succ]; rfl); (focus kernel_rfl); (focus rintro w' ⟨s0, s1, s2, s3, s4, s5, s6, s7, s8, s9, s10⟩; go_simp; with_reducible rfl); (focus dsimp only [List.set_cons_zero, List.set_cons_succ]; rfl)))
    refine WL.done HT_.out (by kernel_rfl) ?_
    have HB5 := Lib.hid (below_tr HB2.out hHeld.1.out)
    clear hHeld q0 q1 q2 q3 q4 q5 q6 q7 q8 q9
    go_wp2_with fail
    go_ret
    exact ⟨rfl, HB5.out⟩
end Go.Proofs.YtafigkikblpbnaaGreatDoor.PG
