/- Sizes of a state: the function answers; no condition beyond each theorem its own. -/
import Derived.Test.YtafigkikblpbnaaGreatJ04
namespace Go.Proofs.YtafigkikblpbnaaGreat.PG
open Go.RowKit Go.Proofs.YtafigkikblpbnaaGreatW.PrintWords Go.Proofs.YtafigkikblpbnaaGreatW.PrintLast Go.Proofs.YtafigkikblpbnaaGreatW.PrintMore
set_option linter.unusedVariables false
set_option linter.unusedSimpArgs false
set_option maxRecDepth 100000

/-- A state's lists are short. -/
structure Few (s : S31) : Prop where
  n3 : s.f3.length ≤ 20
  n4 : s.f4.length ≤ 20
  n5 : s.f5.length ≤ 30
  n6 : s.f6.length ≤ 30
  n7 : s.f7.length ≤ 30
  n8 : s.f8.length ≤ 130
set_option maxHeartbeats 2000000 in
theorem Small28 (s : S31) (A2 A3 A4 A5 A6 A7 A8 : Option Addr) (c2 c3 c4 c5 c6 c7 c8 : Nat) (W : World) (hs : Rs W s A2 A3 A4 A5 A6 A7 A8 c2 c3 c4 c5 c6 c7 c8) : Calls Tryz.prog 4 #[.agg #[.int .i64 s.f0, .int .u64 s.f1, .slice A2 s.f2.length c2, .slice A3 s.f3.length c3, .slice A4 s.f4.length c4, .slice A5 s.f5.length c5, .slice A6 s.f6.length c6, .slice A7 s.f7.length c7, .slice A8 s.f8.length c8, .int .i64 s.f9]] W (RBq (Few s) W) := by
  have HB := Lib.hid (show Below W.heap.size W (W.alloc (.cells #[.int .i64 s.f0, .int .u64 s.f1, .slice A2 s.f2.length c2, .slice A3 s.f3.length c3, .slice A4 s.f4.length c4, .slice A5 s.f5.length c5, .slice A6 s.f6.length c6, .slice A7 s.f7.length c7, .slice A8 s.f8.length c8, .int .i64 s.f9] 31 (0, 0))) from below_alloc (Below.refl _ _) _)
  have HY := Lib.hid (new_blk W (.cells #[.int .i64 s.f0, .int .u64 s.f1, .slice A2 s.f2.length c2, .slice A3 s.f3.length c3, .slice A4 s.f4.length c4, .slice A5 s.f5.length c5, .slice A6 s.f6.length c6, .slice A7 s.f7.length c7, .slice A8 s.f8.length c8, .int .i64 s.f9] 31 (0, 0)))
  have HS := Lib.hid (hs.below HB.out)
  have m3 : s.f3.length ≤ 9223372036854775807 := hs.g3.2.1
  have m7 : s.f7.length ≤ 9223372036854775807 := hs.g7.2.1
  clear hs
  go_enter Tryz.func4, Tryz.ntmps4
  go_wp2_with fail
  generalize W.alloc (.cells #[.int .i64 s.f0, .int .u64 s.f1, .slice A2 s.f2.length c2, .slice A3 s.f3.length c3, .slice A4 s.f4.length c4, .slice A5 s.f5.length c5, .slice A6 s.f6.length c6, .slice A7 s.f7.length c7, .slice A8 s.f8.length c8, .int .i64 s.f9] 31 (0, 0)) = W1 at *
  refine (Small17 s.f2 A2 c2 W1 HS.out.g2 HS.out.l2).mono ?_
  rintro e w2 ⟨b, rfl, hb⟩
  have HB2 := Lib.hid (below_tr HB.out hb)
  have HY2 := Lib.hid ((hb.block W.heap.size (blk_lt HY.out)).trans HY.out)
  have HS2 := Lib.hid (HS.out.below hb)
  have q0 : (w2).cell? ⟨W.heap.size, 0, none⟩ = some (.int .i64 s.f0) := (blk_cell HY2.out 0).trans rfl
  have q1 : (w2).cell? ⟨W.heap.size, 1, none⟩ = some (.int .u64 s.f1) := (blk_cell HY2.out 1).trans rfl
  have q2 : (w2).cell? ⟨W.heap.size, 2, none⟩ = some (.slice A2 s.f2.length c2) := (blk_cell HY2.out 2).trans rfl
  have q3 : (w2).cell? ⟨W.heap.size, 3, none⟩ = some (.slice A3 s.f3.length c3) := (blk_cell HY2.out 3).trans rfl
  have q4 : (w2).cell? ⟨W.heap.size, 4, none⟩ = some (.slice A4 s.f4.length c4) := (blk_cell HY2.out 4).trans rfl
  have q5 : (w2).cell? ⟨W.heap.size, 5, none⟩ = some (.slice A5 s.f5.length c5) := (blk_cell HY2.out 5).trans rfl
  have q6 : (w2).cell? ⟨W.heap.size, 6, none⟩ = some (.slice A6 s.f6.length c6) := (blk_cell HY2.out 6).trans rfl
  have q7 : (w2).cell? ⟨W.heap.size, 7, none⟩ = some (.slice A7 s.f7.length c7) := (blk_cell HY2.out 7).trans rfl
  have q8 : (w2).cell? ⟨W.heap.size, 8, none⟩ = some (.slice A8 s.f8.length c8) := (blk_cell HY2.out 8).trans rfl
  have q9 : (w2).cell? ⟨W.heap.size, 9, none⟩ = some (.int .i64 s.f9) := (blk_cell HY2.out 9).trans rfl
  clear hb
  cases b
  · go_wp2
    go_ret
    exact RBq.no HB2.out
  go_wp2_with fail
  refine (Small22 s.f6 A6 c6 w2 HS2.out.g6 HS2.out.l6).mono ?_
  rintro e w3 ⟨b, rfl, hf6, hb⟩
  have HB3 := Lib.hid (below_tr HB2.out hb)
  have HY3 := Lib.hid ((hb.block W.heap.size (blk_lt HY2.out)).trans HY2.out)
  have HS3 := Lib.hid (HS2.out.below hb)
  clear q0 q1 q2 q3 q4 q5 q6 q7 q8 q9
  have q0 : (w3).cell? ⟨W.heap.size, 0, none⟩ = some (.int .i64 s.f0) := (blk_cell HY3.out 0).trans rfl
  have q1 : (w3).cell? ⟨W.heap.size, 1, none⟩ = some (.int .u64 s.f1) := (blk_cell HY3.out 1).trans rfl
  have q2 : (w3).cell? ⟨W.heap.size, 2, none⟩ = some (.slice A2 s.f2.length c2) := (blk_cell HY3.out 2).trans rfl
  have q3 : (w3).cell? ⟨W.heap.size, 3, none⟩ = some (.slice A3 s.f3.length c3) := (blk_cell HY3.out 3).trans rfl
  have q4 : (w3).cell? ⟨W.heap.size, 4, none⟩ = some (.slice A4 s.f4.length c4) := (blk_cell HY3.out 4).trans rfl
  have q5 : (w3).cell? ⟨W.heap.size, 5, none⟩ = some (.slice A5 s.f5.length c5) := (blk_cell HY3.out 5).trans rfl
  have q6 : (w3).cell? ⟨W.heap.size, 6, none⟩ = some (.slice A6 s.f6.length c6) := (blk_cell HY3.out 6).trans rfl
  have q7 : (w3).cell? ⟨W.heap.size, 7, none⟩ = some (.slice A7 s.f7.length c7) := (blk_cell HY3.out 7).trans rfl
  have q8 : (w3).cell? ⟨W.heap.size, 8, none⟩ = some (.slice A8 s.f8.length c8) := (blk_cell HY3.out 8).trans rfl
  have q9 : (w3).cell? ⟨W.heap.size, 9, none⟩ = some (.int .i64 s.f9) := (blk_cell HY3.out 9).trans rfl
  clear hb
  cases b
  · go_wp2
    go_ret
    exact RBq.no HB3.out
  have n6 := hf6 rfl
  go_wp2
  all_goals first
    | (go_ret; exact RBq.no HB3.out)
    | skip
  have HF := Lib.hid (show Few s from ⟨by omega, by omega, by omega, n6, by omega, by omega⟩)
  go_loopw [3] (fun v3 wr => ∃ k : Nat, v3 = .int .i64 k ∧ k ≤ s.f3.length ∧ Aside0 (wr = w3)) (fun v3 _ => s.f3.length - (intOf v3).toNat)
  case atStart => exact ⟨0, rfl, Nat.zero_le _, ⟨rfl⟩⟩
  case round =>
    obtain ⟨k, rfl, hk, HW⟩ := hrel
    obtain rfl := HW.out
    by_cases hlt : k < s.f3.length
    · have hlt2 : (k : Int) < (s.f3.length : Int) := by omega
      obtain ⟨ad, A4_, c4_, e, h0, h1, hl4, hC4⟩ := at_T59 HS3.out.g3 (k : Int) (by omega) (by omega)
      subst e
      simp only [Int.toNat_natCast] at h0 h1
      generalize rd_T59 s.f3 (k : Int) = y at *
      clear hC4 hl4
      go_wp2
      all_goals first
        | (go_ret; exact RBq.no HB3.out)
        | (go_roundw
           case rel => first | exact ⟨k + 1, by go_num, by omega, ⟨by first | rfl | trivial⟩⟩ | exact ⟨k + 1, by go_num, by omega⟩
           case measure => simp [intOf]; omega)
    · go_wp2
      go_loopw [4] (fun v3 wr2 => ∃ k : Nat, v3 = .int .i64 k ∧ k ≤ s.f7.length ∧ Aside0 (wr2 = wr)) (fun v3 _ => s.f7.length - (intOf v3).toNat)
      case atStart => exact ⟨0, rfl, Nat.zero_le _, ⟨rfl⟩⟩
      case round =>
        obtain ⟨k, rfl, hk, HW⟩ := hrel
        obtain rfl := HW.out
        by_cases hlt : k < s.f7.length
        · have hlt2 : (k : Int) < (s.f7.length : Int) := by omega
          obtain ⟨ad, A4_, c4_, e, h0, h1, h2, h3, hl4, hC4⟩ := at_T61 HS3.out.g7 (k : Int) (by omega) (by omega)
          subst e
          simp only [Int.toNat_natCast] at h0 h1 h2 h3
          generalize rd_T61 s.f7 (k : Int) = y at *
          clear hC4 hl4
          go_wp2
          all_goals first
            | (go_ret; exact RBq.no HB3.out)
            | (go_roundw
               case rel => first | exact ⟨k + 1, by go_num, by omega, ⟨by first | rfl | trivial⟩⟩ | exact ⟨k + 1, by go_num, by omega⟩
               case measure => simp [intOf]; omega)
        · go_wp2
          go_ret
          exact RBq.mk (fun _ => HF.out) HB3.out
end Go.Proofs.YtafigkikblpbnaaGreat.PG
