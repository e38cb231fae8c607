/- The law QueueOf: it answers true; no condition beyond each theorem its own. -/
import Derived.Lib.Hide
import Derived.Test.YtafigkikblpbnaaGreatHandAR
import Derived.Test.YtafigkikblpbnaaGreatJ18
import Derived.Test.YtafigkikblpbnaaGreatHandAI
import Derived.Test.YtafigkikblpbnaaGreatJ22
import Derived.Test.YtafigkikblpbnaaGreatHandE
import Derived.Test.YtafigkikblpbnaaGreatJ25
namespace Go.Proofs.YtafigkikblpbnaaGreat.PG
open Go.RowKit Go.Proofs.YtafigkikblpbnaaGreatW.PrintWords Go.Proofs.YtafigkikblpbnaaGreatW.PrintLast Go.Proofs.YtafigkikblpbnaaGreatW.PrintMore
set_option linter.unusedVariables false
set_option linter.unusedSimpArgs false
set_option maxRecDepth 100000
theorem tab3_3 : rtab .any (opsOf Tryz.f3 3) = (true, [([], []), ([0], [0]), ([], []), ([2, 1], [2]), ([1, 3, 0, 1], [1]), ([3, 4, 0, 1, 2, 3, 4], [3])]) := by kernel_rfl
theorem tab3_9 : rtab .any (opsOf Tryz.f3 9) = (true, [([], []), ([], []), ([0, 1], [0, 1]), ([2], [2]), ([3], [3]), ([], []), ([], []), ([5, 6], [5, 6]), ([7], [7]), ([8], [8]), ([4, 9], [4, 9]), ([10], [10]), ([11], [11]), ([11], [11]), ([12, 13, 11], [11, 12, 13]), ([14, 11], [11, 14]), ([15, 11], [11, 15]), ([11], [11]), ([11], [11]), ([17, 18, 11], [11, 17, 18]), ([19, 11], [11, 19]), ([20, 11], [11, 20]), ([16, 21, 11], [11, 16, 21]), ([11, 22], [11, 22]), ([23, 11], [23]), ([24], [24]), ([24], [24]), ([25, 26, 24], [24, 25, 26]), ([27, 24], [24, 27]), ([28, 24], [24, 28]), ([24], [24]), ([24], [24]), ([30, 31, 24], [24, 30, 31]), ([32, 24], [24, 32]), ([33, 24], [24, 33]), ([29, 34, 24], [24, 29, 34]), ([24, 35], [24, 35])]) := by kernel_rfl
theorem tab3_19 : rtab .any (opsOf Tryz.f3 19) = (true, [([], []), ([0], [0]), ([1], [1]), ([1], [1]), ([2, 3, 1], [1, 2, 3]), ([4, 1], [1, 4]), ([5, 1], [1, 5]), ([1], [1]), ([7, 1], [1, 7]), ([1], [1]), ([8, 9, 1], [1, 8, 9]), ([10, 1], [1, 10]), ([6, 11, 1], [1, 6, 11]), ([1, 12], [1, 12]), ([13, 1, 0, 1, 2, 3, 4, 5, 6, 7, 8, 9, 10, 11, 12, 13], [0, 13])]) := by kernel_rfl

set_option maxHeartbeats 8000000 in
theorem law_any (s : S31) (A2 A3 A4 A5 A6 A7 A8 : Option Addr) (c2 c3 c4 c5 c6 c7 c8 : Nat) (W : World) (hs : Rs W s A2 A3 A4 A5 A6 A7 A8 c2 c3 c4 c5 c6 c7 c8) (hz : Zs s) : Calls Tryz.prog 3 #[.agg #[.int .i64 s.f0, .int .u64 s.f1, .slice A2 s.f2.length c2, .slice A3 s.f3.length c3, .slice A4 s.f4.length c4, .slice A5 s.f5.length c5, .slice A6 s.f6.length c6, .slice A7 s.f7.length c7, .slice A8 s.f8.length c8, .int .i64 s.f9]] W fun e w' => e = .returned (.bool true) ∧ Below W.heap.size W w' := by
  have HB1 := Lib.hid (show Below W.heap.size W (W.alloc (.cells #[.int .i64 s.f0, .int .u64 s.f1, .slice A2 s.f2.length c2, .slice A3 s.f3.length c3, .slice A4 s.f4.length c4, .slice A5 s.f5.length c5, .slice A6 s.f6.length c6, .slice A7 s.f7.length c7, .slice A8 s.f8.length c8, .int .i64 s.f9] 31 (0, 0))) from below_alloc (Below.refl _ _) _)
  have HY1 := Lib.hid (new_blk W (.cells #[.int .i64 s.f0, .int .u64 s.f1, .slice A2 s.f2.length c2, .slice A3 s.f3.length c3, .slice A4 s.f4.length c4, .slice A5 s.f5.length c5, .slice A6 s.f6.length c6, .slice A7 s.f7.length c7, .slice A8 s.f8.length c8, .int .i64 s.f9] 31 (0, 0)))
  have HS1 := Lib.hid (hs.below HB1.out)
  have HSM := Lib.hid (Small28 s A2 A3 A4 A5 A6 A7 A8 c2 c3 c4 c5 c6 c7 c8 _ HS1.out)
  have HMA := Lib.hid (fun w' (h : Rs w' s A2 A3 A4 A5 A6 A7 A8 c2 c3 c4 c5 c6 c7 c8) => May_any s A2 A3 A4 A5 A6 A7 A8 c2 c3 c4 c5 c6 c7 c8 w' h hz)
  clear hs hz
  generalize hw1 : W.alloc (.cells #[.int .i64 s.f0, .int .u64 s.f1, .slice A2 s.f2.length c2, .slice A3 s.f3.length c3, .slice A4 s.f4.length c4, .slice A5 s.f5.length c5, .slice A6 s.f6.length c6, .slice A7 s.f7.length c7, .slice A8 s.f8.length c8, .int .i64 s.f9] 31 (0, 0)) = w1 at *
  have HW := Lib.hid hw1
  clear hw1
  have q0 : (W.alloc (.cells #[.int .i64 s.f0, .int .u64 s.f1, .slice A2 s.f2.length c2, .slice A3 s.f3.length c3, .slice A4 s.f4.length c4, .slice A5 s.f5.length c5, .slice A6 s.f6.length c6, .slice A7 s.f7.length c7, .slice A8 s.f8.length c8, .int .i64 s.f9] 31 (0, 0))).cell? ⟨W.heap.size, 0, none⟩ = some (.int .i64 s.f0) := by rw [HW.out]; exact (blk_cell HY1.out 0).trans rfl
  have q1 : (W.alloc (.cells #[.int .i64 s.f0, .int .u64 s.f1, .slice A2 s.f2.length c2, .slice A3 s.f3.length c3, .slice A4 s.f4.length c4, .slice A5 s.f5.length c5, .slice A6 s.f6.length c6, .slice A7 s.f7.length c7, .slice A8 s.f8.length c8, .int .i64 s.f9] 31 (0, 0))).cell? ⟨W.heap.size, 1, none⟩ = some (.int .u64 s.f1) := by rw [HW.out]; exact (blk_cell HY1.out 1).trans rfl
  have q2 : (W.alloc (.cells #[.int .i64 s.f0, .int .u64 s.f1, .slice A2 s.f2.length c2, .slice A3 s.f3.length c3, .slice A4 s.f4.length c4, .slice A5 s.f5.length c5, .slice A6 s.f6.length c6, .slice A7 s.f7.length c7, .slice A8 s.f8.length c8, .int .i64 s.f9] 31 (0, 0))).cell? ⟨W.heap.size, 2, none⟩ = some (.slice A2 s.f2.length c2) := by rw [HW.out]; exact (blk_cell HY1.out 2).trans rfl
  have q3 : (W.alloc (.cells #[.int .i64 s.f0, .int .u64 s.f1, .slice A2 s.f2.length c2, .slice A3 s.f3.length c3, .slice A4 s.f4.length c4, .slice A5 s.f5.length c5, .slice A6 s.f6.length c6, .slice A7 s.f7.length c7, .slice A8 s.f8.length c8, .int .i64 s.f9] 31 (0, 0))).cell? ⟨W.heap.size, 3, none⟩ = some (.slice A3 s.f3.length c3) := by rw [HW.out]; exact (blk_cell HY1.out 3).trans rfl
  have q4 : (W.alloc (.cells #[.int .i64 s.f0, .int .u64 s.f1, .slice A2 s.f2.length c2, .slice A3 s.f3.length c3, .slice A4 s.f4.length c4, .slice A5 s.f5.length c5, .slice A6 s.f6.length c6, .slice A7 s.f7.length c7, .slice A8 s.f8.length c8, .int .i64 s.f9] 31 (0, 0))).cell? ⟨W.heap.size, 4, none⟩ = some (.slice A4 s.f4.length c4) := by rw [HW.out]; exact (blk_cell HY1.out 4).trans rfl
  have q5 : (W.alloc (.cells #[.int .i64 s.f0, .int .u64 s.f1, .slice A2 s.f2.length c2, .slice A3 s.f3.length c3, .slice A4 s.f4.length c4, .slice A5 s.f5.length c5, .slice A6 s.f6.length c6, .slice A7 s.f7.length c7, .slice A8 s.f8.length c8, .int .i64 s.f9] 31 (0, 0))).cell? ⟨W.heap.size, 5, none⟩ = some (.slice A5 s.f5.length c5) := by rw [HW.out]; exact (blk_cell HY1.out 5).trans rfl
  have q6 : (W.alloc (.cells #[.int .i64 s.f0, .int .u64 s.f1, .slice A2 s.f2.length c2, .slice A3 s.f3.length c3, .slice A4 s.f4.length c4, .slice A5 s.f5.length c5, .slice A6 s.f6.length c6, .slice A7 s.f7.length c7, .slice A8 s.f8.length c8, .int .i64 s.f9] 31 (0, 0))).cell? ⟨W.heap.size, 6, none⟩ = some (.slice A6 s.f6.length c6) := by rw [HW.out]; exact (blk_cell HY1.out 6).trans rfl
  have q7 : (W.alloc (.cells #[.int .i64 s.f0, .int .u64 s.f1, .slice A2 s.f2.length c2, .slice A3 s.f3.length c3, .slice A4 s.f4.length c4, .slice A5 s.f5.length c5, .slice A6 s.f6.length c6, .slice A7 s.f7.length c7, .slice A8 s.f8.length c8, .int .i64 s.f9] 31 (0, 0))).cell? ⟨W.heap.size, 7, none⟩ = some (.slice A7 s.f7.length c7) := by rw [HW.out]; exact (blk_cell HY1.out 7).trans rfl
  have q8 : (W.alloc (.cells #[.int .i64 s.f0, .int .u64 s.f1, .slice A2 s.f2.length c2, .slice A3 s.f3.length c3, .slice A4 s.f4.length c4, .slice A5 s.f5.length c5, .slice A6 s.f6.length c6, .slice A7 s.f7.length c7, .slice A8 s.f8.length c8, .int .i64 s.f9] 31 (0, 0))).cell? ⟨W.heap.size, 8, none⟩ = some (.slice A8 s.f8.length c8) := by rw [HW.out]; exact (blk_cell HY1.out 8).trans rfl
  have q9 : (W.alloc (.cells #[.int .i64 s.f0, .int .u64 s.f1, .slice A2 s.f2.length c2, .slice A3 s.f3.length c3, .slice A4 s.f4.length c4, .slice A5 s.f5.length c5, .slice A6 s.f6.length c6, .slice A7 s.f7.length c7, .slice A8 s.f8.length c8, .int .i64 s.f9] 31 (0, 0))).cell? ⟨W.heap.size, 9, none⟩ = some (.int .i64 s.f9) := by rw [HW.out]; exact (blk_cell HY1.out 9).trans rfl
  go_enter Tryz.func3, Tryz.ntmps3
  go_wp2_with fail
  rw [HW.out]
  clear HW q0 q1 q2 q3 q4 q5 q6 q7 q8 q9
  refine HSM.out.mono ?_
  rintro e w2 ⟨b, rfl, hf, hb⟩
  have HB2 := Lib.hid (below_tr HB1.out hb)
  have HY2 := Lib.hid ((hb.block W.heap.size (blk_lt HY1.out)).trans HY1.out)
  have HS2 := Lib.hid (HS1.out.below hb)
  have q0 : (w2).cell? ⟨W.heap.size, 0, none⟩ = some (.int .i64 s.f0) := (blk_cell HY2.out 0).trans rfl
  have q1 : (w2).cell? ⟨W.heap.size, 1, none⟩ = some (.int .u64 s.f1) := (blk_cell HY2.out 1).trans rfl
  have q2 : (w2).cell? ⟨W.heap.size, 2, none⟩ = some (.slice A2 s.f2.length c2) := (blk_cell HY2.out 2).trans rfl
  have q3 : (w2).cell? ⟨W.heap.size, 3, none⟩ = some (.slice A3 s.f3.length c3) := (blk_cell HY2.out 3).trans rfl
  have q4 : (w2).cell? ⟨W.heap.size, 4, none⟩ = some (.slice A4 s.f4.length c4) := (blk_cell HY2.out 4).trans rfl
  have q5 : (w2).cell? ⟨W.heap.size, 5, none⟩ = some (.slice A5 s.f5.length c5) := (blk_cell HY2.out 5).trans rfl
  have q6 : (w2).cell? ⟨W.heap.size, 6, none⟩ = some (.slice A6 s.f6.length c6) := (blk_cell HY2.out 6).trans rfl
  have q7 : (w2).cell? ⟨W.heap.size, 7, none⟩ = some (.slice A7 s.f7.length c7) := (blk_cell HY2.out 7).trans rfl
  have q8 : (w2).cell? ⟨W.heap.size, 8, none⟩ = some (.slice A8 s.f8.length c8) := (blk_cell HY2.out 8).trans rfl
  have q9 : (w2).cell? ⟨W.heap.size, 9, none⟩ = some (.int .i64 s.f9) := (blk_cell HY2.out 9).trans rfl
  clear hb
  cases b
  · go_wp2_with fail
    refine (live_any w2).mono ?_
    rintro e wl ⟨rfl, hbl⟩
    have HF := Lib.hid (below_tr HB2.out hbl)
    clear hbl q0 q1 q2 q3 q4 q5 q6 q7 q8 q9
    go_wp2
    go_ret
    exact ⟨rfl, HF.out⟩
  have HF := Lib.hid (hf rfl)
  clear hf
  go_wp2_with fail
  refine (HMA.out w2 HS2.out).mono ?_
  rintro e w3 ⟨b, rfl, hm, hb⟩
  clear q0 q1 q2 q3 q4 q5 q6 q7 q8 q9
  have HB3 := Lib.hid (below_tr HB2.out hb)
  have HY3 := Lib.hid ((hb.block W.heap.size (blk_lt HY2.out)).trans HY2.out)
  have HS3 := Lib.hid (HS2.out.below hb)
  have q0 : (w3).cell? ⟨W.heap.size, 0, none⟩ = some (.int .i64 s.f0) := (blk_cell HY3.out 0).trans rfl
  have q1 : (w3).cell? ⟨W.heap.size, 1, none⟩ = some (.int .u64 s.f1) := (blk_cell HY3.out 1).trans rfl
  have q2 : (w3).cell? ⟨W.heap.size, 2, none⟩ = some (.slice A2 s.f2.length c2) := (blk_cell HY3.out 2).trans rfl
  have q3 : (w3).cell? ⟨W.heap.size, 3, none⟩ = some (.slice A3 s.f3.length c3) := (blk_cell HY3.out 3).trans rfl
  have q4 : (w3).cell? ⟨W.heap.size, 4, none⟩ = some (.slice A4 s.f4.length c4) := (blk_cell HY3.out 4).trans rfl
  have q5 : (w3).cell? ⟨W.heap.size, 5, none⟩ = some (.slice A5 s.f5.length c5) := (blk_cell HY3.out 5).trans rfl
  have q6 : (w3).cell? ⟨W.heap.size, 6, none⟩ = some (.slice A6 s.f6.length c6) := (blk_cell HY3.out 6).trans rfl
  have q7 : (w3).cell? ⟨W.heap.size, 7, none⟩ = some (.slice A7 s.f7.length c7) := (blk_cell HY3.out 7).trans rfl
  have q8 : (w3).cell? ⟨W.heap.size, 8, none⟩ = some (.slice A8 s.f8.length c8) := (blk_cell HY3.out 8).trans rfl
  have q9 : (w3).cell? ⟨W.heap.size, 9, none⟩ = some (.int .i64 s.f9) := (blk_cell HY3.out 9).trans rfl
  clear hb
  cases b
  · go_wp2_with fail
    refine (live_any w3).mono ?_
    rintro e wl ⟨rfl, hbl⟩
    have HF := Lib.hid (below_tr HB3.out hbl)
    clear hbl q0 q1 q2 q3 q4 q5 q6 q7 q8 q9
    go_wp2
    go_ret
    exact ⟨rfl, HF.out⟩
  have HM := Lib.hid (hm rfl)
  clear hm
  obtain ⟨d, hd⟩ := ex_dpH s.f6
  have HA := Lib.hid (show Ask d s from ⟨fun x hx => lim_H 8 _ (HM.out.rules.2 x hx).1, fun y hy => by have := HM.out.miles y hy; omega, hd, by have := HF.out.n6; omega⟩)
  clear hd
  have hn5 : s.f5.length ≤ 1000 := by have := HF.out.n5; omega
  have HLL := Lib.hid (show (sortI (revs d s s.f5.length)).length ≤ 1000 by rw [(sortI_perm _).length_eq]; exact Nat.le_trans (revs_len _ _ _) hn5)
  have HFD := Lib.hid (fun t (h : t ∈ cnt d s s.f5.length) => cnt_found d s s.f5.length h)
  have HNM := Lib.hid (cnt_num d s s.f5.length)
  have HQ := Lib.hid (fun w' (h : Below w3.heap.size w3 w') => QOf_any d s A2 A3 A4 A5 A6 A7 A8 c2 c3 c4 c5 c6 c7 c8 w' (HS3.out.below h) HA.out hn5)
  have HRO := Lib.hid (fun w' (h : Below w3.heap.size w3 w') => (refs_eq d s HM.out.recs) ▸ ROf_any d s A2 A3 A4 A5 A6 A7 A8 c2 c3 c4 c5 c6 c7 c8 w' (HS3.out.below h) HA.out hn5)
  have HD := Lib.hid (fun w' (h : Below w3.heap.size w3 w') => Do_any d s A2 A3 A4 A5 A6 A7 A8 c2 c3 c4 c5 c6 c7 c8 w' (HS3.out.below h) HA.out ⟨by have := HM.out.rules.1; omega, by have := HF.out.n3; omega, by have := HF.out.n4; omega, hn5, by have := HF.out.n6; omega, by have := HF.out.n7; omega, by have := HF.out.n8; omega⟩)
  have HCL := Lib.hid (cnt_len d s s.f5.length)
  generalize (sortI (revs d s s.f5.length)) = L at *
  go_wp2_with fail
  refine WL.start (n := 6) (S := fun w' => Aside0 (Below w3.heap.size w3 w') ∧ w'.cell? ⟨W.heap.size, 0, none⟩ = some (.int .i64 s.f0) ∧ w'.cell? ⟨W.heap.size, 1, none⟩ = some (.int .u64 s.f1) ∧ w'.cell? ⟨W.heap.size, 2, none⟩ = some (.slice A2 s.f2.length c2) ∧ w'.cell? ⟨W.heap.size, 3, none⟩ = some (.slice A3 s.f3.length c3) ∧ w'.cell? ⟨W.heap.size, 4, none⟩ = some (.slice A4 s.f4.length c4) ∧ w'.cell? ⟨W.heap.size, 5, none⟩ = some (.slice A5 s.f5.length c5) ∧ w'.cell? ⟨W.heap.size, 6, none⟩ = some (.slice A6 s.f6.length c6) ∧ w'.cell? ⟨W.heap.size, 7, none⟩ = some (.slice A7 s.f7.length c7) ∧ w'.cell? ⟨W.heap.size, 8, none⟩ = some (.slice A8 s.f8.length c8) ∧ w'.cell? ⟨W.heap.size, 9, none⟩ = some (.int .i64 s.f9)) (ds := []) [false, false, false, false, false, false] (by kernel_rfl) rfl rfl ⟨⟨below_drew (Below.refl _ _)⟩, q0, q1, q2, q3, q4, q5, q6, q7, q8, q9⟩ (fun hHeld => ?_)
  refine WL.tab tab3_3 (fun HT_ => ?_)
  refine WL.more [0, 2, 1, 3, 4, 5] ?_
  repeat (first
    | (refine WL.off (lb' := ?_) (ys := ?_) rfl rfl (by rfl) ?_ HT_.out ?_ (fun _ _ _ h => h) ?_ ?_; rotate_left 2; (focus dsimp only [List.set_cons_zero, List.set_cons_succ]; rfl); (focus kernel_rfl); (focus dsimp only [List.set_cons_zero, List.set_cons_succ]; rfl))
    | (refine WL.pure (lb' := ?_) (v := ?_) (ys := ?_) rfl rfl (by rfl) ?_ HT_.out ?_ (fun _ _ _ h => h) ?_ ?_ ?_; rotate_left 3; (focus dsimp only [List.set_cons_zero, List.set_cons_succ]; rfl); (focus kernel_rfl); (focus intro w'; go_simp; with_reducible rfl); (focus dsimp only [List.set_cons_zero, List.set_cons_succ]; rfl))
    | (refine WL.take (lb' := ?_) (v := ?_) (ys := ?_) rfl rfl (by rfl) ?_ HT_.out ?_ (fun _ _ _ h => h) hHeld ?_ ?_ ?_; rotate_left 3; (focus dsimp only [List.set_cons_zero, List.set_cons_succ]; rfl); (focus kernel_rfl); (focus rintro w' ⟨s0, s1, s2, s3, s4, s5, s6, s7, s8, s9, s10⟩; go_simp; with_reducible rfl); (focus dsimp only [List.set_cons_zero, List.set_cons_succ]; rfl))
    | (refine WL.one (lb' := ?_) rfl rfl ?_ HT_.out ?_ (by decide) (fun K hK => ?_); rotate_left; (focus dsimp only [List.set_cons_zero, List.set_cons_succ]; rfl); (focus kernel_rfl); first
        | (refine goes_ Tryz.func7 (by kernel_rfl) rfl #[.agg #[.int .i64 s.f0, .int .u64 s.f1, .slice A2 s.f2.length c2, .slice A3 s.f3.length c3, .slice A4 s.f4.length c4, .slice A5 s.f5.length c5, .slice A6 s.f6.length c6, .slice A7 s.f7.length c7, .slice A8 s.f8.length c8, .int .i64 s.f9]] (by rfl) rfl rfl (by simp only [List.map_toArray, List.map_cons, List.map_nil]; rfl) ?_; (with_reducible refine (HQ.out _ hHeld.1.out).mono ?_); rintro e w4 ⟨Aa, ca, rfl, hla, hCa, hb⟩; refine ⟨_, rfl, ?_⟩; have hCa4 := hCa; refine hK.out _ _ (by have h_ := hHeld.2; refine ⟨⟨below_tr hHeld.1.out hb⟩, ?_⟩; repeat (first | exact below_cell hb h_ | (refine ⟨below_cell hb h_.1, ?_⟩; replace h_ := h_.2))) (fun hHeld => ?_); clear hK K; refine WL.put (ys := ?_) ?_ ?_; rotate_left; (focus dsimp only [List.set_cons_zero, List.set_cons_succ]; rfl))
        | (refine goes_ Tryz.func8 (by kernel_rfl) rfl #[.agg #[.int .i64 s.f0, .int .u64 s.f1, .slice A2 s.f2.length c2, .slice A3 s.f3.length c3, .slice A4 s.f4.length c4, .slice A5 s.f5.length c5, .slice A6 s.f6.length c6, .slice A7 s.f7.length c7, .slice A8 s.f8.length c8, .int .i64 s.f9]] (by rfl) rfl rfl (by simp only [List.map_toArray, List.map_cons, List.map_nil]; rfl) ?_; (with_reducible refine (HRO.out _ hHeld.1.out).mono ?_); rintro e w5 ⟨Ab, cb, rfl, hlb, hCb, hb⟩; refine ⟨_, rfl, ?_⟩; have hCa5 := Kd.C_below hCa hb; refine hK.out _ _ (by have h_ := hHeld.2; refine ⟨⟨below_tr hHeld.1.out hb⟩, ?_⟩; repeat (first | exact below_cell hb h_ | (refine ⟨below_cell hb h_.1, ?_⟩; replace h_ := h_.2))) (fun hHeld => ?_); clear hK K; refine WL.put (ys := ?_) ?_ ?_; rotate_left; (focus dsimp only [List.set_cons_zero, List.set_cons_succ]; rfl))))
  refine WL.done HT_.out (by kernel_rfl) ?_
  have HCa := Lib.hid hCa5
  have HCb := Lib.hid hCb
  have HB5 := Lib.hid hHeld.1.out
  clear hHeld hCa5 hCa4 hCa hCb hb hla hlb q0 q1 q2 q3 q4 q5 q6 q7 q8 q9
  have hL2 : (L.length : Int) ≤ 1000 := by have := HLL.out; omega
  go_wp2_with fail
  go_loopw [5] (fun v5 wr => ∃ k : Nat, v5 = .int .i64 k ∧ k ≤ L.length ∧ Aside0 (Below w5.heap.size w5 wr)) (fun v5 _ => L.length - (intOf v5).toNat)
  case atStart => exact ⟨0, rfl, Nat.zero_le _, ⟨Below.refl _ _⟩⟩
  case round =>
    obtain ⟨k, rfl, hk, HBR⟩ := hrel
    by_cases hlt : k < L.length
    · have hlt2 : (k : Int) < (L.length : Int) := by omega
      obtain ⟨ada, e, g0, g1, g2⟩ := at_T40 (Kd.C_below HCa.out HBR.out) (k : Int) (by omega) (by omega)
      obtain ⟨adb, e2, h0, h1, h2⟩ := at_T40 (Kd.C_below HCb.out HBR.out) (k : Int) (by omega) (by omega)
      subst e
      subst e2
      simp only [Int.toNat_natCast] at g0 g1 g2 h0 h1 h2
      generalize rd_T40 L (k : Int) = y at *
      go_wp2_with fail
      refine WL.start (n := 37) (S := fun w' => w'.cell? (ada.add (k * 3)) = some (.string y.f0) ∧ w'.cell? ⟨(ada.add (k * 3)).block, (ada.add (k * 3)).off + 1, none⟩ = some (.int .i64 y.f1) ∧ w'.cell? ⟨(ada.add (k * 3)).block, (ada.add (k * 3)).off + 2, none⟩ = some (.int .i64 y.f2) ∧ w'.cell? (adb.add (k * 3)) = some (.string y.f0) ∧ w'.cell? ⟨(adb.add (k * 3)).block, (adb.add (k * 3)).off + 1, none⟩ = some (.int .i64 y.f1) ∧ w'.cell? ⟨(adb.add (k * 3)).block, (adb.add (k * 3)).off + 2, none⟩ = some (.int .i64 y.f2)) (ds := []) [false, false, false, false, false, false, false, false, false, false, false, false, false, false, false, false, false, false, false, false, false, false, false, false, false, false, false, false, false, false, false, false, false, false, false, false, false] (by kernel_rfl) rfl rfl ⟨g0, g1, g2, h0, h1, h2⟩ (fun hHeld => ?_)
      refine WL.tab tab3_9 (fun HT_ => ?_)
      refine WL.more [0, 1, 2, 3, 5, 6, 7, 8, 4, 9, 10, 11, 12, 13, 14, 15, 17, 18, 19, 20, 16, 21, 22, 23, 24, 25, 26, 27, 28, 30, 31, 32, 33, 29, 34, 35, 36] ?_
      repeat (first
        | (refine WL.off (lb' := ?_) (ys := ?_) rfl rfl (by rfl) ?_ HT_.out ?_ (fun _ _ _ h => h) ?_ ?_; rotate_left 2; (focus dsimp only [List.set_cons_zero, List.set_cons_succ]; rfl); (focus kernel_rfl); (focus dsimp only [List.set_cons_zero, List.set_cons_succ]; rfl))
        | (refine WL.pure (lb' := ?_) (v := ?_) (ys := ?_) rfl rfl (by rfl) ?_ HT_.out ?_ (fun _ _ _ h => h) ?_ ?_ ?_; rotate_left 3; (focus dsimp only [List.set_cons_zero, List.set_cons_succ]; rfl); (focus kernel_rfl); (focus intro w'; go_simp; with_reducible rfl); (focus dsimp only [List.set_cons_zero, List.set_cons_succ]; rfl))
        | (refine WL.take (lb' := ?_) (v := ?_) (ys := ?_) rfl rfl (by rfl) ?_ HT_.out ?_ (fun _ _ _ h => h) hHeld ?_ ?_ ?_; rotate_left 3; (focus dsimp only [List.set_cons_zero, List.set_cons_succ]; rfl); (focus kernel_rfl); (focus rintro w' ⟨s0, s1, s2, s3, s4, s5⟩; go_simp; with_reducible rfl); (focus dsimp only [List.set_cons_zero, List.set_cons_succ]; rfl)))
      refine WL.done HT_.out (by kernel_rfl) ?_
      clear hHeld g0 g1 g2 h0 h1 h2
      go_wp2
      go_roundw
      case rel => exact ⟨k + 1, by go_num, by omega, ⟨below_drew HBR.out⟩⟩
      case measure => simp [intOf]; omega
    · have hk2 : k = L.length := by omega
      have hlt2 : ¬ (k : Int) < (L.length : Int) := by omega
      have HB6 := Lib.hid (below_tr HB5.out HBR.out)
      have HY6 := Lib.hid ((HB6.out.block W.heap.size (blk_lt HY3.out)).trans HY3.out)
      have q0 : (wr).cell? ⟨W.heap.size, 0, none⟩ = some (.int .i64 s.f0) := (blk_cell HY6.out 0).trans rfl
      have q1 : (wr).cell? ⟨W.heap.size, 1, none⟩ = some (.int .u64 s.f1) := (blk_cell HY6.out 1).trans rfl
      have q2 : (wr).cell? ⟨W.heap.size, 2, none⟩ = some (.slice A2 s.f2.length c2) := (blk_cell HY6.out 2).trans rfl
      have q3 : (wr).cell? ⟨W.heap.size, 3, none⟩ = some (.slice A3 s.f3.length c3) := (blk_cell HY6.out 3).trans rfl
      have q4 : (wr).cell? ⟨W.heap.size, 4, none⟩ = some (.slice A4 s.f4.length c4) := (blk_cell HY6.out 4).trans rfl
      have q5 : (wr).cell? ⟨W.heap.size, 5, none⟩ = some (.slice A5 s.f5.length c5) := (blk_cell HY6.out 5).trans rfl
      have q6 : (wr).cell? ⟨W.heap.size, 6, none⟩ = some (.slice A6 s.f6.length c6) := (blk_cell HY6.out 6).trans rfl
      have q7 : (wr).cell? ⟨W.heap.size, 7, none⟩ = some (.slice A7 s.f7.length c7) := (blk_cell HY6.out 7).trans rfl
      have q8 : (wr).cell? ⟨W.heap.size, 8, none⟩ = some (.slice A8 s.f8.length c8) := (blk_cell HY6.out 8).trans rfl
      have q9 : (wr).cell? ⟨W.heap.size, 9, none⟩ = some (.int .i64 s.f9) := (blk_cell HY6.out 9).trans rfl
      go_wp2_with fail
      refine (HD.out wr HB6.out).mono ?_
      rintro e w7 ⟨B2, B3, B4, B5, B6, B7, B8, d2, d3, d4, d5, d6, d7, d8, A9, c9, x9, rfl, hl9, hC9, hb9⟩
      have HC9 := Lib.hid hC9
      have HB7 := Lib.hid hb9
      clear q0 q1 q2 q3 q4 q5 q6 q7 q8 q9 hl9 hC9 hb9
      go_wp2_with fail
      have z7 : (w7.alloc (.cells #[.int .i64 s.f0, .int .u64 s.f1, .slice B2 s.f2.length d2, .slice B3 s.f3.length d3, .slice B4 s.f4.length d4, .slice B5 s.f5.length d5, .slice B6 s.f6.length d6, .slice B7 s.f7.length d7, .slice B8 s.f8.length d8, .int .i64 x9] 31 (0, 0))).heap.size = w7.heap.size + 1 := by show (w7.heap.push _).size = _; rw [Array.size_push]
      obtain ⟨w8, hw8⟩ : ∃ w8, (w7.alloc (.cells #[.int .i64 s.f0, .int .u64 s.f1, .slice B2 s.f2.length d2, .slice B3 s.f3.length d3, .slice B4 s.f4.length d4, .slice B5 s.f5.length d5, .slice B6 s.f6.length d6, .slice B7 s.f7.length d7, .slice B8 s.f8.length d8, .int .i64 x9] 31 (0, 0))).alloc (.cells #[.int .i64 0, .int .i64 0, .slice A9 (cnt d s s.f5.length).length c9, .slice none 0 0, .slice none 0 0] 45 (0, 0)) = w8 := ⟨_, rfl⟩
      have hb8 : Below w7.heap.size w7 w8 := by rw [← hw8]; exact below_alloc (below_alloc (Below.refl _ _) _) _
      have HR8 := Lib.hid (show w8.heap[w7.heap.size + 1]? = some (.cells #[.int .i64 0, .int .i64 0, .slice A9 (cnt d s s.f5.length).length c9, .slice none 0 0, .slice none 0 0] 45 (0, 0)) by have h_ := new_blk (w7.alloc (.cells #[.int .i64 s.f0, .int .u64 s.f1, .slice B2 s.f2.length d2, .slice B3 s.f3.length d3, .slice B4 s.f4.length d4, .slice B5 s.f5.length d5, .slice B6 s.f6.length d6, .slice B7 s.f7.length d7, .slice B8 s.f8.length d8, .int .i64 x9] 31 (0, 0))) (.cells #[.int .i64 0, .int .i64 0, .slice A9 (cnt d s s.f5.length).length c9, .slice none 0 0, .slice none 0 0] 45 (0, 0)); rw [z7] at h_; rw [← hw8]; exact h_)
      have HCa8 := Lib.hid (Kd.C_below (Kd.C_below (Kd.C_below HCa.out HBR.out) HB7.out) hb8)
      have HC98 := Lib.hid (Kd.C_below HC9.out hb8)
      have HB8 := Lib.hid (below_tr HB3.out (below_tr HB6.out (below_tr HB7.out hb8)))
      rw [hw8]
      clear hw8 z7 hb8 HB6 HY6 HB7 HC9 HBR hk hk2 hlt hlt2
      generalize (cnt d s s.f5.length) = ns at *
      have hns2 : (ns.length : Int) ≤ 1000 := by have := HCL.out; omega
      go_loopw [9] (fun v9 wr => ∃ i : Nat, v9 = .int .i64 i ∧ i ≤ ns.length ∧ Aside0 (Below w8.heap.size w8 wr)) (fun v9 _ => ns.length - (intOf v9).toNat)
      case atStart => exact ⟨0, rfl, Nat.zero_le _, ⟨Below.refl _ _⟩⟩
      case round =>
        obtain ⟨i, rfl, hi, HBR2⟩ := hrel
        by_cases hlt : i < ns.length
        · have hlt2 : (i : Int) < (ns.length : Int) := by omega
          obtain ⟨adn, e, n0⟩ := Kd.at_string (Kd.C_below HC98.out HBR2.out) (i : Int) (by omega) (by omega)
          simp only [Int.toNat_natCast] at n0
          have HT := Lib.hid (HFD.out (rdOf ByteArray.empty ns (i : Int)) (by unfold rdOf; rw [Int.toNat_natCast, List.getD_eq_getElem?_getD, List.getElem?_eq_getElem hlt]; exact List.getElem_mem hlt))
          generalize rdOf ByteArray.empty ns (i : Int) = t at *
          have HN0 := Lib.hid n0
          clear n0
          have r2 : wr.cell? ⟨w7.heap.size + 1, 2, none⟩ = some (.slice (some adn) ns.length c9) := e ▸ (blk_cell ((HBR2.out.block _ (blk_lt HR8.out)).trans HR8.out) 2).trans rfl
          have HE := Lib.hid e
          clear e
          have HWN := Lib.hid HBR2.out
          generalize hwi : wr = wi at *
          clear hwi
          go_wp2_with fail
          clear r2
          go_loopw [10, 11] (fun v10 v11 wr => ∃ (m : Nat) (b : Bool), v10 = .bool b ∧ v11 = .int .i64 m ∧ m ≤ L.length ∧ Aside0 (b = (L.take m).any (nm40 t)) ∧ Aside0 (Below wi.heap.size wi wr)) (fun _ v11 _ => L.length - (intOf v11).toNat)
          case atStart => exact ⟨0, false, rfl, rfl, Nat.zero_le _, ⟨rfl⟩, ⟨Below.refl _ _⟩⟩
          case round =>
            obtain ⟨m, b, rfl, rfl, hm, HBm, HBR3⟩ := hrel
            have HB38 := Lib.hid (below_tr HWN.out HBR3.out)
            by_cases hlm : m < L.length
            · have hlm2 : (m : Int) < (L.length : Int) := by omega
              obtain ⟨ada, e, g0, _, _⟩ := at_T40 (Kd.C_below HCa8.out HB38.out) (m : Int) (by omega) (by omega)
              simp only [Int.toNat_natCast] at g0
              subst e
              have HTK := Lib.hid (show (L.take (m + 1)).any (nm40 t) = ((L.take m).any (nm40 t) || ((rd_T40 L (m : Int)).f0.toList == t.toList)) by rw [take_T40 hlm, List.any_append]; simp [nm40])
              generalize rd_T40 L (m : Int) = y at *
              have r2 : wr.cell? ⟨w7.heap.size + 1, 2, none⟩ = some (.slice (some adn) ns.length c9) := HE.out ▸ (blk_cell ((HB38.out.block _ (blk_lt HR8.out)).trans HR8.out) 2).trans rfl
              have n0 := below_cell HBR3.out HN0.out
              cases b
              all_goals
                go_wp2_with fail
                refine WL.start (n := 15) (S := fun w' => w'.cell? (ada.add (m * 3)) = some (.string y.f0) ∧ w'.cell? ⟨w7.heap.size + 1, 2, none⟩ = some (.slice (some adn) ns.length c9) ∧ w'.cell? (adn.add i) = some (.string t)) (ds := []) [false, false, false, false, false, false, false, false, false, false, false, false, false, false, false] (by kernel_rfl) rfl rfl ⟨g0, r2, n0⟩ (fun hHeld => ?_)
                refine WL.tab tab3_19 (fun HT_ => ?_)
                refine WL.more [0, 1, 2, 3, 4, 5, 7, 9, 6, 8, 10, 11, 12, 13, 14] ?_
                repeat (first
                  | (refine WL.off (lb' := ?_) (ys := ?_) rfl rfl (by rfl) ?_ HT_.out ?_ (fun _ _ _ h => h) ?_ ?_; rotate_left 2; (focus dsimp only [List.set_cons_zero, List.set_cons_succ]; rfl); (focus kernel_rfl); (focus dsimp only [List.set_cons_zero, List.set_cons_succ]; rfl))
                  | (refine WL.pure (lb' := ?_) (v := ?_) (ys := ?_) rfl rfl (by rfl) ?_ HT_.out ?_ (fun _ _ _ h => h) ?_ ?_ ?_; rotate_left 3; (focus dsimp only [List.set_cons_zero, List.set_cons_succ]; rfl); (focus kernel_rfl); (focus intro w'; go_simp; with_reducible rfl); (focus dsimp only [List.set_cons_zero, List.set_cons_succ]; rfl))
                  | (refine WL.take (lb' := ?_) (v := ?_) (ys := ?_) rfl rfl (by rfl) ?_ HT_.out ?_ (fun _ _ _ h => h) hHeld ?_ ?_ ?_; rotate_left 3; (focus dsimp only [List.set_cons_zero, List.set_cons_succ]; rfl); (focus kernel_rfl); (focus rintro w' ⟨s0, s1, s2⟩; go_simp; with_reducible rfl); (focus dsimp only [List.set_cons_zero, List.set_cons_succ]; rfl)))
                refine WL.done HT_.out (by kernel_rfl) ?_
                clear hHeld g0 r2 n0
                go_wp2
                go_roundw
                case rel => exact ⟨m + 1, _, rfl, by go_num, by omega, ⟨by rw [HTK.out, ← HBm.out]; rfl⟩, ⟨below_drew HBR3.out⟩⟩
                case measure => simp [intOf]; omega
            · have hm2 : m = L.length := by omega
              have hlm2 : ¬ (m : Int) < (L.length : Int) := by omega
              obtain ⟨y, hy, ey⟩ := HT.out
              obtain rfl : b = true := by rw [HBm.out, hm2, List.take_length]; exact List.any_eq_true.2 ⟨y, hy, by unfold nm40; rw [ey]; simp⟩
              go_wp2
              go_roundw
              case rel => exact ⟨i + 1, by go_num, by omega, ⟨HB38.out⟩⟩
              case measure => simp [intOf]; omega
        · have hi2 : i = ns.length := by omega
          have hlt2 : ¬ (i : Int) < (ns.length : Int) := by omega
          have r2 : wr.cell? ⟨w7.heap.size + 1, 2, none⟩ = some (.slice A9 ns.length c9) := (blk_cell ((HBR2.out.block _ (blk_lt HR8.out)).trans HR8.out) 2).trans rfl
          have heq : ((ns.length : Int) == (L.length : Int)) = true := by rw [HNM.out]; simp
          have HB9 := Lib.hid (below_tr HB8.out HBR2.out)
          go_wp2_with fail
          refine (live_any wr).mono ?_
          rintro e wl ⟨rfl, hbl⟩
          have HFI := Lib.hid (below_tr HB9.out hbl)
          clear hbl r2
          go_wp2
          go_ret
          exact ⟨rfl, HFI.out⟩
end Go.Proofs.YtafigkikblpbnaaGreat.PG
