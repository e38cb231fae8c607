/- Sizes of things: the functions answer. Names and words. Conditions that may be. Rules that may be. A reader's bytes. A reader's numbers; no condition beyond each theorem its own. -/
import Derived.Test.YtafigkikblpbnaaGreatDoorZC03
import Derived.Laws.ResultCell
namespace Go.Proofs.YtafigkikblpbnaaGreatDoor.PG
open Go.RowKit Go.Proofs.YtafigkikblpbnaaGreatDoorW.PrintWords Go.Proofs.YtafigkikblpbnaaGreatDoorW.PrintLast Go.Proofs.YtafigkikblpbnaaGreatDoorW.PrintMore
set_option linter.unusedVariables false
set_option linter.unusedSimpArgs false
set_option maxRecDepth 100000
theorem new_blk (w : World) (o : Obj) : (w.alloc o).heap[w.heap.size]? = some o := by
  show (w.heap.push _)[w.heap.size]? = _
  simp
/-- It answers a number that isn't great, and turns nothing that was there. -/
def RN (n : Int) (w : World) (e : Ending) (w' : World) : Prop := ∃ r : Int, e = .returned (.int .i64 r) ∧ -1 ≤ r ∧ r ≤ n ∧ Below w.heap.size w w'
theorem RN.mk {n r : Int} {w w' : World} (h1 : -1 ≤ r) (h2 : r ≤ n) (h : Below w.heap.size w w') : RN n w (.returned (.int .i64 r)) w' := ⟨r, rfl, h1, h2, h⟩
/-- It answers a truth value; where it is true p holds; nothing that was there is turned. -/
def RBq (p : Prop) (w : World) (e : Ending) (w' : World) : Prop := ∃ b : Bool, e = .returned (.bool b) ∧ (b = true → p) ∧ Below w.heap.size w w'
theorem RBq.no {p : Prop} {w w' : World} (h : Below w.heap.size w w') : RBq p w (.returned (.bool false)) w' := ⟨false, rfl, fun h => absurd h (by decide), h⟩
theorem RBq.mk {p : Prop} {b : Bool} {w w' : World} (hp : b = true → p) (h : Below w.heap.size w w') : RBq p w (.returned (.bool b)) w' := ⟨b, rfl, hp, h⟩
/-- It answers a truth value, and turns nothing that was there. -/
def RBb (w : World) (e : Ending) (w' : World) : Prop := ∃ b : Bool, e = .returned (.bool b) ∧ Below w.heap.size w w'
theorem RBb.mk {b : Bool} {w w' : World} (h : Below w.heap.size w w') : RBb w (.returned (.bool b)) w' := ⟨b, rfl, h⟩

set_option maxHeartbeats 2000000 in
theorem small17 : ∀ (d : Nat) (x : S94) (A : Option Addr) (c : Nat) (m : Int) (W : World), d ≤ 100 → -1 ≤ m → m ≤ 60 → Kd.C k94 W A x.f3.length x.f3 → x.f3.length ≤ c →
    Calls Tryz.prog 63 #[.agg #[.int .i64 x.f0, .int .i64 x.f1, .string x.f2, .slice A x.f3.length c], .int .i64 m, .int .i64 d] W (RN 60 W) := by
  intro d
  induction d with
  | zero =>
    intro x A c m W hd hm1 hm2 hC hl
    have HB := Lib.hid (show Below W.heap.size W (W.alloc (.cells #[.int .i64 x.f0, .int .i64 x.f1, .string x.f2, .slice A x.f3.length c] 94 (0, 0))) from below_alloc (Below.refl _ _) _)
    go_enter Tryz.func63, Tryz.ntmps63
    go_wp2
    all_goals
      go_ret
      exact RN.mk (by omega) (by omega) HB.out
  | succ d ih =>
    intro x A c m W hd hm1 hm2 hC hl
    have HIH := Lib.hid ih
    clear ih
    have HB := Lib.hid (show Below W.heap.size W (W.alloc (.cells #[.int .i64 x.f0, .int .i64 x.f1, .string x.f2, .slice A x.f3.length c] 94 (0, 0))) from below_alloc (Below.refl _ _) _)
    have HY := Lib.hid (new_blk W (.cells #[.int .i64 x.f0, .int .i64 x.f1, .string x.f2, .slice A x.f3.length c] 94 (0, 0)))
    have HC := Lib.hid (Kd.C_below hC HB.out)
    have hm : x.f3.length ≤ 9223372036854775807 := hC.2.1
    have hds : ((d + 1 : Nat) : Int) - 1 = (d : Int) := by omega
    have hd1 : ¬ ((d + 1 : Nat) : Int) < 1 := by omega
    clear hC
    go_enter Tryz.func63, Tryz.ntmps63
    go_wp2
    all_goals first
      | (go_ret; exact RN.mk (by omega) (by omega) HB.out)
      | skip
    generalize W.alloc (.cells #[.int .i64 x.f0, .int .i64 x.f1, .string x.f2, .slice A x.f3.length c] 94 (0, 0)) = W1 at *
    go_loopw [1, 7] (fun v1 v7 wr => ∃ (k : Nat) (q : Int), v7 = .int .i64 k ∧ k ≤ x.f3.length ∧ v1 = .int .i64 q ∧ -1 ≤ q ∧ q ≤ 60 ∧ Aside0 (Below W1.heap.size W1 wr)) (fun v1 v7 _ => x.f3.length - (intOf v7).toNat)
    case atStart => exact ⟨0, m - 1, rfl, Nat.zero_le _, by go_num, by omega, by omega, ⟨Below.refl _ _⟩⟩
    case round =>
      obtain ⟨k, q, rfl, hk, rfl, hq1, hq2, HBW⟩ := hrel
      have HY2 := Lib.hid ((HBW.out.block W.heap.size (blk_lt HY.out)).trans HY.out)
      have q0 : (wr).cell? ⟨W.heap.size, 0, none⟩ = some (.int .i64 x.f0) := (blk_cell HY2.out 0).trans rfl
      have q1 : (wr).cell? ⟨W.heap.size, 1, none⟩ = some (.int .i64 x.f1) := (blk_cell HY2.out 1).trans rfl
      have q2 : (wr).cell? ⟨W.heap.size, 2, none⟩ = some (.string x.f2) := (blk_cell HY2.out 2).trans rfl
      have q3 : (wr).cell? ⟨W.heap.size, 3, none⟩ = some (.slice A x.f3.length c) := (blk_cell HY2.out 3).trans rfl
      have HC2 := Lib.hid (Kd.C_below HC.out HBW.out)
      by_cases hlt : k < x.f3.length
      · have hlt2 : (k : Int) < (x.f3.length : Int) := by omega
        by_cases hq0 : 0 ≤ q
        · obtain ⟨ad, A4, c4, e, h0, h1, h2, h3, hl4, hC4⟩ := at_T94 HC2.out (k : Int) (by omega) (by omega)
          subst e
          simp only [Int.toNat_natCast] at h0 h1 h2 h3
          generalize rd_T94 x.f3 (k : Int) = y at *
          have HCALL := Lib.hid (HIH.out y A4 c4 q wr (by omega) hq1 hq2 hC4 hl4)
          clear hC4 hl4
          go_wp2_with fail
          refine HCALL.out.mono ?_
          rintro e w2 ⟨r, rfl, hr1, hr2, hb⟩
          have HB2 := Lib.hid (below_tr HBW.out hb)
          clear hb h0 h1 h2 h3
          go_wp2
          go_roundw
          case rel => exact ⟨k + 1, r, by go_num, by omega, rfl, hr1, hr2, ⟨HB2.out⟩⟩
          case measure => simp [intOf]; omega
        · go_wp2
          go_ret
          exact RN.mk hq1 hq2 (below_tr HB.out HBW.out)
      · go_wp2
        go_ret
        exact RN.mk hq1 hq2 (below_tr HB.out HBW.out)

set_option maxHeartbeats 2000000 in
theorem small20 : ∀ (d : Nat) (x : S76) (A : Option Addr) (c : Nat) (m : Int) (W : World), d ≤ 100 → -1 ≤ m → m ≤ 60 → Kd.C k76 W A x.f4.length x.f4 → x.f4.length ≤ c →
    Calls Tryz.prog 102 #[.agg #[.int .i64 x.f0, .string x.f1, .int .i64 x.f2, .int .i64 x.f3, .slice A x.f4.length c], .int .i64 m, .int .i64 d] W (RN 60 W) := by
  intro d
  induction d with
  | zero =>
    intro x A c m W hd hm1 hm2 hC hl
    have HB := Lib.hid (show Below W.heap.size W (W.alloc (.cells #[.int .i64 x.f0, .string x.f1, .int .i64 x.f2, .int .i64 x.f3, .slice A x.f4.length c] 76 (0, 0))) from below_alloc (Below.refl _ _) _)
    go_enter Tryz.func102, Tryz.ntmps102
    go_wp2
    all_goals
      go_ret
      exact RN.mk (by omega) (by omega) HB.out
  | succ d ih =>
    intro x A c m W hd hm1 hm2 hC hl
    have HIH := Lib.hid ih
    clear ih
    have HB := Lib.hid (show Below W.heap.size W (W.alloc (.cells #[.int .i64 x.f0, .string x.f1, .int .i64 x.f2, .int .i64 x.f3, .slice A x.f4.length c] 76 (0, 0))) from below_alloc (Below.refl _ _) _)
    have HY := Lib.hid (new_blk W (.cells #[.int .i64 x.f0, .string x.f1, .int .i64 x.f2, .int .i64 x.f3, .slice A x.f4.length c] 76 (0, 0)))
    have HC := Lib.hid (Kd.C_below hC HB.out)
    have hm : x.f4.length ≤ 9223372036854775807 := hC.2.1
    have hds : ((d + 1 : Nat) : Int) - 1 = (d : Int) := by omega
    have hd1 : ¬ ((d + 1 : Nat) : Int) < 1 := by omega
    clear hC
    go_enter Tryz.func102, Tryz.ntmps102
    go_wp2
    all_goals first
      | (go_ret; exact RN.mk (by omega) (by omega) HB.out)
      | skip
    generalize W.alloc (.cells #[.int .i64 x.f0, .string x.f1, .int .i64 x.f2, .int .i64 x.f3, .slice A x.f4.length c] 76 (0, 0)) = W1 at *
    go_loopw [1, 7] (fun v1 v7 wr => ∃ (k : Nat) (q : Int), v7 = .int .i64 k ∧ k ≤ x.f4.length ∧ v1 = .int .i64 q ∧ -1 ≤ q ∧ q ≤ 60 ∧ Aside0 (Below W1.heap.size W1 wr)) (fun v1 v7 _ => x.f4.length - (intOf v7).toNat)
    case atStart => exact ⟨0, m - 1, rfl, Nat.zero_le _, by go_num, by omega, by omega, ⟨Below.refl _ _⟩⟩
    case round =>
      obtain ⟨k, q, rfl, hk, rfl, hq1, hq2, HBW⟩ := hrel
      have HY2 := Lib.hid ((HBW.out.block W.heap.size (blk_lt HY.out)).trans HY.out)
      have q0 : (wr).cell? ⟨W.heap.size, 0, none⟩ = some (.int .i64 x.f0) := (blk_cell HY2.out 0).trans rfl
      have q1 : (wr).cell? ⟨W.heap.size, 1, none⟩ = some (.string x.f1) := (blk_cell HY2.out 1).trans rfl
      have q2 : (wr).cell? ⟨W.heap.size, 2, none⟩ = some (.int .i64 x.f2) := (blk_cell HY2.out 2).trans rfl
      have q3 : (wr).cell? ⟨W.heap.size, 3, none⟩ = some (.int .i64 x.f3) := (blk_cell HY2.out 3).trans rfl
      have q4 : (wr).cell? ⟨W.heap.size, 4, none⟩ = some (.slice A x.f4.length c) := (blk_cell HY2.out 4).trans rfl
      have HC2 := Lib.hid (Kd.C_below HC.out HBW.out)
      by_cases hlt : k < x.f4.length
      · have hlt2 : (k : Int) < (x.f4.length : Int) := by omega
        by_cases hq0 : 0 ≤ q
        · obtain ⟨ad, A4, c4, e, h0, h1, h2, h3, h4, hl4, hC4⟩ := at_T76 HC2.out (k : Int) (by omega) (by omega)
          subst e
          simp only [Int.toNat_natCast] at h0 h1 h2 h3 h4
          generalize rd_T76 x.f4 (k : Int) = y at *
          have HCALL := Lib.hid (HIH.out y A4 c4 q wr (by omega) hq1 hq2 hC4 hl4)
          clear hC4 hl4
          go_wp2_with fail
          refine HCALL.out.mono ?_
          rintro e w2 ⟨r, rfl, hr1, hr2, hb⟩
          have HB2 := Lib.hid (below_tr HBW.out hb)
          clear hb h0 h1 h2 h3 h4
          go_wp2
          go_roundw
          case rel => exact ⟨k + 1, r, by go_num, by omega, rfl, hr1, hr2, ⟨HB2.out⟩⟩
          case measure => simp [intOf]; omega
        · go_wp2
          go_ret
          exact RN.mk hq1 hq2 (below_tr HB.out HBW.out)
      · go_wp2
        go_ret
        exact RN.mk hq1 hq2 (below_tr HB.out HBW.out)
/-- A state reads so. -/
structure Rs (w : World) (s : S31) (A2 A3 A4 A5 A6 A7 A8 : Option Addr) (c2 c3 c4 c5 c6 c7 c8 : Nat) : Prop where
  g2 : Kd.C k96 w A2 s.f2.length s.f2
  l2 : s.f2.length ≤ c2
  g3 : Kd.C k61 w A3 s.f3.length s.f3
  l3 : s.f3.length ≤ c3
  g4 : Kd.C k115 w A4 s.f4.length s.f4
  l4 : s.f4.length ≤ c4
  g5 : Kd.C k48 w A5 s.f5.length s.f5
  l5 : s.f5.length ≤ c5
  g6 : Kd.C k78 w A6 s.f6.length s.f6
  l6 : s.f6.length ≤ c6
  g7 : Kd.C k84 w A7 s.f7.length s.f7
  l7 : s.f7.length ≤ c7
  g8 : Kd.C (Kd.int .i64) w A8 s.f8.length s.f8
  l8 : s.f8.length ≤ c8
theorem Rs.below {w w1 : World} {s : S31} {A2 A3 A4 A5 A6 A7 A8 : Option Addr} {c2 c3 c4 c5 c6 c7 c8 : Nat} (h : Rs w s A2 A3 A4 A5 A6 A7 A8 c2 c3 c4 c5 c6 c7 c8) (hb : Below w.heap.size w w1) : Rs w1 s A2 A3 A4 A5 A6 A7 A8 c2 c3 c4 c5 c6 c7 c8 :=
  ⟨Kd.C_below h.g2 hb, h.l2, Kd.C_below h.g3 hb, h.l3, Kd.C_below h.g4 hb, h.l4, Kd.C_below h.g5 hb, h.l5, Kd.C_below h.g6 hb, h.l6, Kd.C_below h.g7 hb, h.l7, Kd.C_below h.g8 hb, h.l8⟩

theorem Small20 (x : S76) (A : Option Addr) (c : Nat) (W : World) (hC : Kd.C k76 W A x.f4.length x.f4) (hl : x.f4.length ≤ c) : Calls Tryz.prog 64 #[.agg #[.int .i64 x.f0, .string x.f1, .int .i64 x.f2, .int .i64 x.f3, .slice A x.f4.length c]] W (RBb W) := by
  have HB := Lib.hid (show Below W.heap.size W (W.alloc (.cells #[.int .i64 x.f0, .string x.f1, .int .i64 x.f2, .int .i64 x.f3, .slice A x.f4.length c] 76 (0, 0))) from below_alloc (Below.refl _ _) _)
  have HCALL := Lib.hid (small20 30 x A c 60 (W.alloc (.cells #[.int .i64 x.f0, .string x.f1, .int .i64 x.f2, .int .i64 x.f3, .slice A x.f4.length c] 76 (0, 0))) (by omega) (by omega) (by omega) (Kd.C_below hC HB.out) hl)
  go_enter Tryz.func64, Tryz.ntmps64
  go_wp2_with fail
  refine HCALL.out.mono ?_
  rintro e w2 ⟨r, rfl, hr1, hr2, hb⟩
  have HB2 := Lib.hid (below_tr HB.out hb)
  clear hb
  go_wp2
  all_goals (go_ret; exact RBb.mk HB2.out)

set_option maxHeartbeats 1000000 in
theorem Small17 (l : List S96) (A : Option Addr) (c : Nat) (W : World) (hC : Kd.C k96 W A l.length l) (hl : l.length ≤ c) : Calls Tryz.prog 38 #[.slice A l.length c] W (RBb W) := by
  have hm : l.length ≤ 9223372036854775807 := hC.2.1
  go_enter Tryz.func38, Tryz.ntmps38
  go_wp2
  go_loopw [3] (fun v3 wr => ∃ k : Nat, v3 = .int .i64 k ∧ k ≤ l.length ∧ Aside0 (Below W.heap.size W wr)) (fun v3 _ => l.length - (intOf v3).toNat)
  case atStart => exact ⟨0, rfl, Nat.zero_le _, ⟨Below.refl _ _⟩⟩
  case round =>
    obtain ⟨k, rfl, hk, HB⟩ := hrel
    by_cases hlt : k < l.length
    · have hlt2 : (k : Int) < (l.length : Int) := by omega
      by_cases h40 : k < 40
      · have h402 : (k : Int) < 40 := by omega
        obtain ⟨ad, A4, c4, e, h0, h1, h2, h3, h4, h5, hl4, hC4⟩ := at_T96 (Kd.C_below hC HB.out) (k : Int) (by omega) (by omega)
        subst e
        simp only [Int.toNat_natCast] at h0 h1 h2 h3 h4 h5
        generalize rd_T96 l (k : Int) = y at *
        have HCALL := Lib.hid (small17 30 y.f1 A4 c4 60 wr (by omega) (by omega) (by omega) hC4 hl4)
        clear hC4 hl4
        go_wp2_with (go_at_call 63; refine HCALL.out.mono ?_; rintro e w2 ⟨r, rfl, hr1, hr2, hb⟩; clear h0 h1 h2 h3 h4 h5)
        all_goals first
          | (go_ret; exact RBb.mk HB.out)
          | (have HB2 := Lib.hid (below_tr HB.out hb); clear hb; go_wp2; all_goals first
              | (go_ret; exact RBb.mk HB2.out)
              | (go_roundw
                 case rel => exact ⟨k + 1, by go_num, by omega, ⟨HB2.out⟩⟩
                 case measure => simp [intOf]; omega))
      · have h402 : ¬ (k : Int) < 40 := by omega
        go_wp2
        all_goals (go_ret; exact RBb.mk HB.out)
    · have hk2 : k = l.length := by omega
      subst hk2
      go_wp2
      all_goals (go_ret; exact RBb.mk HB.out)

set_option maxHeartbeats 1000000 in
theorem Small22 (l : List S78) (A : Option Addr) (c : Nat) (W : World) (hC : Kd.C k78 W A l.length l) (hl : l.length ≤ c) : Calls Tryz.prog 39 #[.slice A l.length c] W (RBq (l.length ≤ 30) W) := by
  have hm : l.length ≤ 9223372036854775807 := hC.2.1
  go_enter Tryz.func39, Tryz.ntmps39
  go_wp2
  go_loopw [3] (fun v3 wr => ∃ k : Nat, v3 = .int .i64 k ∧ k ≤ l.length ∧ Aside0 (Below W.heap.size W wr)) (fun v3 _ => l.length - (intOf v3).toNat)
  case atStart => exact ⟨0, rfl, Nat.zero_le _, ⟨Below.refl _ _⟩⟩
  case round =>
    obtain ⟨k, rfl, hk, HB⟩ := hrel
    by_cases hlt : k < l.length
    · have hlt2 : (k : Int) < (l.length : Int) := by omega
      by_cases h40 : k < 40
      · have h402 : (k : Int) < 40 := by omega
        obtain ⟨ad, A4, c4, e, h0, h1, h2, h3, h4, h5, h6, hl4, hC4⟩ := at_T78 (Kd.C_below hC HB.out) (k : Int) (by omega) (by omega)
        subst e
        simp only [Int.toNat_natCast] at h0 h1 h2 h3 h4 h5 h6
        generalize rd_T78 l (k : Int) = y at *
        have HCALL := Lib.hid (Small20 y.f1 A4 c4 wr hC4 hl4)
        clear hC4 hl4
        go_wp2_with (go_at_call 64; refine HCALL.out.mono ?_; rintro e w2 ⟨r, rfl, hb⟩; clear h0 h1 h2 h3 h4 h5 h6)
        all_goals first
          | (go_ret; first | exact RBq.no HB.out | exact RBq.mk (fun h_ => by have h2_ := of_decide_eq_true h_; omega) HB.out)
          | (have HB2 := Lib.hid (below_tr HB.out hb); clear hb; go_wp2; all_goals first
              | (go_ret; first | exact RBq.no HB2.out | exact RBq.mk (fun h_ => by have h2_ := of_decide_eq_true h_; omega) HB2.out)
              | (go_roundw
                 case rel => exact ⟨k + 1, by go_num, by omega, ⟨HB2.out⟩⟩
                 case measure => simp [intOf]; omega))
      · have h402 : ¬ (k : Int) < 40 := by omega
        go_wp2
        all_goals (go_ret; first | exact RBq.no HB.out | exact RBq.mk (fun h_ => by have h2_ := of_decide_eq_true h_; omega) HB.out)
    · have hk2 : k = l.length := by omega
      subst hk2
      go_wp2
      all_goals (go_ret; first | exact RBq.no HB.out | exact RBq.mk (fun h_ => by have h2_ := of_decide_eq_true h_; omega) HB.out)
end Go.Proofs.YtafigkikblpbnaaGreatDoor.PG
namespace Go.Proofs.YtafigkikblpbnaaGreatDoor.PG
open Go.RowKit Go.Proofs.YtafigkikblpbnaaGreatDoorW.PrintWords Go.Proofs.YtafigkikblpbnaaGreatDoorW.PrintLast Go.Proofs.YtafigkikblpbnaaGreatDoorW.PrintMore
set_option linter.unusedVariables false
set_option linter.unusedSimpArgs false
set_option maxRecDepth 100000
def okC (c : Nat) : Prop := ¬ ((((c < 97 ∨ 122 < c) ∧ (c < 48 ∨ 57 < c)) ∧ c ≠ 46) ∧ c ≠ 45 ∧ c ≠ 95)
/-- May it be a name? -/
noncomputable def nmOk (s : ByteArray) : Bool := @decide (1 ≤ s.size ∧ s.size ≤ 16 ∧ ∀ k (h : k < s.size), okC (s[k]).toNat) (Classical.propDecidable _)
theorem nmOk_t {s : ByteArray} (h : 1 ≤ s.size ∧ s.size ≤ 16 ∧ ∀ k (h : k < s.size), okC (s[k]).toNat) : nmOk s = true := @decide_eq_true _ (Classical.propDecidable _) h
theorem nmOk_f {s : ByteArray} (h : ¬ (1 ≤ s.size ∧ s.size ≤ 16 ∧ ∀ k (h : k < s.size), okC (s[k]).toNat)) : nmOk s = false := @decide_eq_false _ (Classical.propDecidable _) h
theorem ret_b {a b : Bool} (h : a = b) : Ending.returned (.bool a) = .returned (.bool b) := by rw [h]
set_option maxHeartbeats 1000000 in
theorem Name_eq (s : ByteArray) (hs : s.size ≤ 140737488351232) (w : World) : Calls Tryz.prog 68 #[.string s] w fun e w' => e = .returned (.bool (nmOk s)) ∧ w' = w := by
  have HT := Lib.hid (nmOk_t (s := s))
  have HF := Lib.hid (nmOk_f (s := s))
  go_enter Tryz.func68, Tryz.ntmps68
  go_wp2
  go_loopw [3] (fun v3 wr => ∃ k : Nat, k ≤ s.size ∧ v3 = .int .i64 k ∧ Aside0 (∀ j (h : j < s.size), j < k → okC (s[j]).toNat) ∧ Aside0 (wr = w)) (fun v3 _ => s.size - (intOf v3).toNat)
  case atStart => exact ⟨0, Nat.zero_le _, rfl, ⟨fun j h h2 => by omega⟩, ⟨rfl⟩⟩
  case round =>
    obtain ⟨k, hk, rfl, HA, HW⟩ := hrel
    obtain rfl := HW.out
    by_cases hlt : k < s.size
    · have h2 : (k : Int) < (s.size : Int) := by omega
      by_cases hc : okC (s[k]).toNat
      · have HA2 : Aside0 (∀ j (h : j < s.size), j < k + 1 → okC (s[j]).toNat) := ⟨fun j h hj => by
          by_cases e : j = k
          · subst e; exact hc
          · exact HA.out j h (by omega)⟩
        have HCC := Lib.hid hc
        clear hc
        go_wp2
        all_goals first
          | (exfalso; (try simp only [bne_iff_ne, ne_eq, beq_iff_eq, bne_eq_false_iff_eq] at *); have hc := HCC.out; unfold okC at hc; omega)
          | (go_roundw
             case rel => first | exact ⟨k + 1, by omega, by go_num, HA2, ⟨by first | rfl | trivial⟩⟩ | exact ⟨k + 1, by omega, by go_num, HA2⟩
             case measure => simp [intOf]; omega)
      · have HX := Lib.hid (HF.out (fun h => hc (h.2.2 k hlt)))
        have HCC := Lib.hid hc
        clear hc
        go_wp2
        all_goals first
          | (exfalso; (try simp only [bne_iff_ne, ne_eq, beq_iff_eq, bne_eq_false_iff_eq] at *); have hc := HCC.out; unfold okC at hc; omega)
          | (go_ret; exact ⟨ret_b HX.out.symm, rfl⟩)
    · have hk2 : k = s.size := by omega
      subst hk2
      by_cases h1 : 1 ≤ s.size
      · by_cases h2 : s.size ≤ 16
        · have HX := Lib.hid (HT.out ⟨h1, h2, fun j h => HA.out j h h⟩)
          have h3 : (s.size : Int) ≤ 16 := by omega
          have h4 : (1 : Int) ≤ (s.size : Int) := by omega
          go_wp2
          go_ret
          exact ⟨ret_b HX.out.symm, rfl⟩
        · have HX := Lib.hid (HF.out (fun h => h2 h.2.1))
          have h3 : ¬ (s.size : Int) ≤ 16 := by omega
          go_wp2
          all_goals first
            | (exfalso; omega)
            | (go_ret; exact ⟨ret_b HX.out.symm, rfl⟩)
      · have HX := Lib.hid (HF.out (fun h => h1 h.1))
        have h4 : ¬ (1 : Int) ≤ (s.size : Int) := by omega
        go_wp2
        all_goals first
          | (exfalso; omega)
          | (go_ret; exact ⟨ret_b HX.out.symm, rfl⟩)
theorem named_eq (n : Int) (w : World) : Calls Tryz.prog 134 #[.int .i64 n] w fun e w' => e = .returned (.bool (decide (n = 2 ∨ n = 3 ∨ n = 4))) ∧ w' = w := by
  have h5 : n = 2 ∨ n = 3 ∨ n = 4 ∨ (n ≠ 2 ∧ n ≠ 3 ∧ n ≠ 4) := by omega
  rcases h5 with rfl | rfl | rfl | ⟨h1, h2, h3⟩
  · go_enter Tryz.func134, Tryz.ntmps134
    go_wp2
    go_ret
    exact ⟨rfl, rfl⟩
  · go_enter Tryz.func134, Tryz.ntmps134
    go_wp2
    go_ret
    exact ⟨rfl, rfl⟩
  · go_enter Tryz.func134, Tryz.ntmps134
    go_wp2
    go_ret
    exact ⟨rfl, rfl⟩
  · rw [decide_eq_false (show ¬ (n = 2 ∨ n = 3 ∨ n = 4) by omega)]
    have b1 : (n == 2) = false := by simp [h1]
    have b2 : (n == 3) = false := by simp [h2]
    have b3 : (n == 4) = false := by simp [h3]
    go_enter Tryz.func134, Tryz.ntmps134
    go_wp2
    go_ret
    exact ⟨rfl, rfl⟩
theorem many_eq (n : Int) (w : World) : Calls Tryz.prog 62 #[.int .i64 n] w fun e w' => e = .returned (.bool (decide (n = 6 ∨ n = 7))) ∧ w' = w := by
  have h5 : n = 6 ∨ n = 7 ∨ (n ≠ 6 ∧ n ≠ 7) := by omega
  rcases h5 with rfl | rfl | ⟨h1, h2⟩
  · go_enter Tryz.func62, Tryz.ntmps62
    go_wp2
    go_ret
    exact ⟨rfl, rfl⟩
  · go_enter Tryz.func62, Tryz.ntmps62
    go_wp2
    go_ret
    exact ⟨rfl, rfl⟩
  · rw [decide_eq_false (show ¬ (n = 6 ∨ n = 7) by omega)]
    have b1 : (n == 6) = false := by simp [h1]
    have b2 : (n == 7) = false := by simp [h2]
    go_enter Tryz.func62, Tryz.ntmps62
    go_wp2
    go_ret
    exact ⟨rfl, rfl⟩
/-- It answers a truth value, and where it is true p holds; nothing is turned. -/
def RBp (p : Prop) (w : World) (e : Ending) (w' : World) : Prop := ∃ b : Bool, e = .returned (.bool b) ∧ (b = true → p) ∧ w' = w
set_option maxHeartbeats 4000000 in
theorem word_any2 (s : ByteArray) (hs : s.size ≤ 140737488351232) (w : World) : Calls Tryz.prog 105 #[.string s] w (RBp (s.size ≤ 16) w) := by
  go_enter Tryz.func105, Tryz.ntmps105
  go_wp2_with (go_at_call 133; refine (kept_any _ _).mono ?_; rintro e w2 ⟨b, rfl, rfl⟩)
  all_goals first
    | (go_ret; exact ⟨false, rfl, fun h => absurd h (by decide), rfl⟩)
    | skip
  have h16 : s.size ≤ 16 := by omega
  go_loopw [3] (fun v3 wr => ∃ k : Nat, k ≤ s.size ∧ v3 = .int .i64 k ∧ Aside0 (wr = w2)) (fun v3 _ => s.size - (intOf v3).toNat)
  case atStart => exact ⟨0, Nat.zero_le _, rfl, ⟨rfl⟩⟩
  case round =>
    obtain ⟨k, hk, rfl, HW⟩ := hrel
    obtain rfl := HW.out
    by_cases hlt : k < s.size
    · have h2 : (k : Int) < (s.size : Int) := by omega
      go_wp2
      all_goals first
        | (go_ret; exact ⟨false, rfl, fun h => absurd h (by decide), rfl⟩)
        | (go_roundw
           case rel => first | exact ⟨k + 1, by omega, by go_num, ⟨by first | rfl | trivial⟩⟩ | exact ⟨k + 1, by omega, by go_num⟩
           case measure => simp [intOf]; omega)
    · have hk2 : k = s.size := by omega
      subst hk2
      go_wp2
      all_goals (go_ret; exact ⟨_, rfl, fun _ => by first | exact h16 | trivial, rfl⟩)
end Go.Proofs.YtafigkikblpbnaaGreatDoor.PG
namespace Go.Proofs.YtafigkikblpbnaaGreatDoor.PG
open Go.RowKit Go.Proofs.YtafigkikblpbnaaGreatDoorW.PrintWords Go.Proofs.YtafigkikblpbnaaGreatDoorW.PrintLast Go.Proofs.YtafigkikblpbnaaGreatDoorW.PrintMore
set_option linter.unusedVariables false
set_option linter.unusedSimpArgs false
set_option maxRecDepth 100000

/-- All texts in it have a size that there is. -/
inductive Z95 : S94 → Prop
  | mk (x : S94) (h1 : x.f2.size ≤ 140737488351232) (h2 : ∀ y ∈ x.f3, Z95 y) : Z95 x
inductive Z52 : S76 → Prop
  | mk (x : S76) (h1 : x.f1.size ≤ 140737488351232) (h2 : ∀ y ∈ x.f4, Z52 y) : Z52 x
theorem Z95.h1 {x : S94} (h : Z95 x) : x.f2.size ≤ 140737488351232 := by cases h; assumption
theorem Z95.h2 {x : S94} (h : Z95 x) : ∀ y ∈ x.f3, Z95 y := by cases h; assumption
theorem Z52.h1 {x : S76} (h : Z52 x) : x.f1.size ≤ 140737488351232 := by cases h; assumption
theorem Z52.h2 {x : S76} (h : Z52 x) : ∀ y ∈ x.f4, Z52 y := by cases h; assumption
/-- A condition is so deep at most, with few parts, and short names. -/
def H95 : Nat → S94 → Prop
  | 0, _ => False
  | d + 1, x => x.f2.size ≤ 16 ∧ x.f3.length ≤ 24 ∧ ∀ y ∈ x.f3, H95 d y
/-- It answers a number that isn't great; where it isn't below 0, p holds. -/
def RNp (p : Prop) (w : World) (e : Ending) (w' : World) : Prop := ∃ r : Int, e = .returned (.int .i64 r) ∧ -1 ≤ r ∧ r ≤ 24 ∧ (0 ≤ r → p) ∧ Below w.heap.size w w'
theorem RNp.neg {p : Prop} {w w' : World} (h : Below w.heap.size w w') : RNp p w (.returned (.int .i64 (-1))) w' := ⟨-1, rfl, by omega, by omega, fun h => absurd h (by decide), h⟩
theorem rd_mem95 {l : List S94} {k : Nat} (h : k < l.length) : rd_T94 l (k : Int) ∈ l := by
  have : rd_T94 l (k : Int) = l[k] := by unfold rd_T94; rw [Int.toNat_natCast, List.getD_eq_getElem?_getD, List.getElem?_eq_getElem h]; rfl
  rw [this]; exact List.getElem_mem h
theorem rd_mem52 {l : List S76} {k : Nat} (h : k < l.length) : rd_T76 l (k : Int) ∈ l := by
  have : rd_T76 l (k : Int) = l[k] := by unfold rd_T76; rw [Int.toNat_natCast, List.getD_eq_getElem?_getD, List.getElem?_eq_getElem h]; rfl
  rw [this]; exact List.getElem_mem h
theorem take_rd95 {l : List S94} {k : Nat} (h : k < l.length) : l.take (k + 1) = l.take k ++ [rd_T94 l (k : Int)] := by
  have : rd_T94 l (k : Int) = l[k] := by unfold rd_T94; rw [Int.toNat_natCast, List.getD_eq_getElem?_getD, List.getElem?_eq_getElem h]; rfl
  rw [this, List.take_succ_eq_append_getElem h]

set_option maxHeartbeats 4000000 in
theorem left17 : ∀ (d : Nat) (x : S94) (A : Option Addr) (c : Nat) (m : Int) (W : World), d ≤ 100 → -1 ≤ m → m ≤ 24 → Z95 x → Kd.C k94 W A x.f3.length x.f3 → x.f3.length ≤ c →
    Calls Tryz.prog 131 #[.agg #[.int .i64 x.f0, .int .i64 x.f1, .string x.f2, .slice A x.f3.length c], .int .i64 m, .int .i64 d] W (RNp (H95 d x) W) := by
  intro d
  induction d with
  | zero =>
    intro x A c m W hd hm1 hm2 hZ hC hl
    go_enter Tryz.func131, Tryz.ntmps131
    go_wp2
    all_goals
      go_ret
      exact RNp.neg (below_alloc (Below.refl _ _) _)
  | succ d ih =>
    intro x A c m W hd hm1 hm2 hZ hC hl
    obtain ⟨o, dd, nm, ks⟩ := x
    simp only at hC hl ⊢
    have HIH := Lib.hid ih
    clear ih
    have HZ := Lib.hid hZ
    have hm : ks.length ≤ 9223372036854775807 := hC.2.1
    have hds : ((d + 1 : Nat) : Int) - 1 = (d : Int) := by omega
    have hd1 : ¬ ((d + 1 : Nat) : Int) < 1 := by omega
    clear hZ
    by_cases hm0 : m < 1
    · go_enter Tryz.func131, Tryz.ntmps131
      go_wp2
      go_ret
      exact RNp.neg (below_alloc (Below.refl _ _) _)
    by_cases hop : o = 1
    · subst hop
      have hW := fun w => Lib.hid (word_any2 nm HZ.out.h1 w)
      have HH := Lib.hid (show nm.size ≤ 16 → ks.length = 0 → H95 (d + 1) ⟨1, dd, nm, ks⟩ from fun h1 h2 => ⟨h1, Nat.le_trans (Nat.le_of_eq h2) (by omega), fun y hy => by rw [show (⟨1, dd, nm, ks⟩ : S94).f3 = [] from List.eq_nil_of_length_eq_zero h2] at hy; cases hy⟩)
      go_enter Tryz.func131, Tryz.ntmps131
      go_wp2_with (go_at_call 105; refine (hW _).out.mono ?_; rintro e w2 ⟨b, rfl, hb, rfl⟩)
      all_goals first
        | (go_ret; exact RNp.neg (below_alloc (Below.refl _ _) _))
        | (go_ret; exact ⟨m - 1, rfl, by omega, by omega, fun _ => HH.out (by first | (exact hb rfl) | (exact hb trivial) | assumption | (simp_all)) (by omega), below_alloc (Below.refl _ _) _⟩)
    · by_cases hg : (o = 2 ∨ o = 3) ∧ dd = 0 ∧ nm.toList = [] ∧ 2 ≤ ks.length ∧ (ks.length : Int) ≤ m - 1
      · obtain ⟨ho, rfl, hnm, h2, h3⟩ := hg
        have hsz : nm.size = 0 := by
          rw [ByteArray.toList_eq] at hnm
          show nm.data.size = 0
          rw [← Array.length_toList, hnm]; rfl
        rcases ho with rfl | rfl
        · have HB := Lib.hid (show Below W.heap.size W (W.alloc (.cells #[.int .i64 2, .int .i64 0, .string nm, .slice A ks.length c] 94 (0, 0))) from below_alloc (Below.refl _ _) _)
          have HY := Lib.hid (new_blk W (.cells #[.int .i64 2, .int .i64 0, .string nm, .slice A ks.length c] 94 (0, 0)))
          have HC := Lib.hid (Kd.C_below hC HB.out)
          clear hC
          go_enter Tryz.func131, Tryz.ntmps131
          go_wp2
          generalize W.alloc (.cells #[.int .i64 2, .int .i64 0, .string nm, .slice A ks.length c] 94 (0, 0)) = W1 at *
          go_loopw [1, 7] (fun v1 v7 wr => ∃ (k : Nat) (q : Int), v7 = .int .i64 k ∧ k ≤ ks.length ∧ v1 = .int .i64 q ∧ -1 ≤ q ∧ q ≤ 24 ∧ Aside0 (0 ≤ q → ∀ y ∈ ks.take k, H95 d y) ∧ Aside0 (Below W1.heap.size W1 wr)) (fun v1 v7 _ => ks.length - (intOf v7).toNat)
          case atStart => exact ⟨0, m - 1, rfl, Nat.zero_le _, by go_num, by omega, by omega, ⟨fun _ y hy => by simp at hy⟩, ⟨Below.refl _ _⟩⟩
          case round =>
            obtain ⟨k, q, rfl, hk, rfl, hq1, hq2, HA, HBW⟩ := hrel
            have HY2 := Lib.hid ((HBW.out.block W.heap.size (blk_lt HY.out)).trans HY.out)
            have q0 : wr.cell? ⟨W.heap.size, 0, none⟩ = some (.int .i64 2) := (blk_cell HY2.out 0).trans rfl
            have q1 : wr.cell? ⟨W.heap.size, 1, none⟩ = some (.int .i64 0) := (blk_cell HY2.out 1).trans rfl
            have q2 : wr.cell? ⟨W.heap.size, 2, none⟩ = some (.string nm) := (blk_cell HY2.out 2).trans rfl
            have q3 : wr.cell? ⟨W.heap.size, 3, none⟩ = some (.slice A ks.length c) := (blk_cell HY2.out 3).trans rfl
            have HC2 := Lib.hid (Kd.C_below HC.out HBW.out)
            by_cases hlt : k < ks.length
            · have hlt2 : (k : Int) < (ks.length : Int) := by omega
              by_cases hq0 : 0 ≤ q
              · obtain ⟨ad, A4, c4, e, h0, h1, h2, h3, hl4, hC4⟩ := at_T94 HC2.out (k : Int) (by omega) (by omega)
                subst e
                simp only [Int.toNat_natCast] at h0 h1 h2 h3
                have HT := Lib.hid (take_rd95 hlt)
                have hz := HZ.out.h2 _ (rd_mem95 hlt)
                generalize rd_T94 ks (k : Int) = y at *
                have HCALL := Lib.hid (HIH.out y A4 c4 q wr (by omega) hq1 hq2 hz hC4 hl4)
                clear hC4 hl4 hz
                go_wp2_with fail
                refine HCALL.out.mono ?_
                rintro e w2 ⟨r, rfl, hr1, hr2, hr3, hb⟩
                have HB2 := Lib.hid (below_tr HBW.out hb)
                have HR3 := Lib.hid hr3
                clear hb h0 h1 h2 h3 hr3
                go_wp2
                go_roundw
                case rel => exact ⟨k + 1, r, by go_num, by omega, rfl, hr1, hr2, ⟨fun hr z hz => by
                  rw [HT.out] at hz
                  rcases List.mem_append.1 hz with hz | hz
                  · exact HA.out hq0 z hz
                  · rw [List.mem_singleton.1 hz]; exact HR3.out hr⟩, ⟨HB2.out⟩⟩
                case measure => simp [intOf]; omega
              · go_wp2
                go_ret
                exact ⟨q, rfl, hq1, hq2, fun h => by exfalso; omega, below_tr HB.out HBW.out⟩
            · have hk2 : k = ks.length := by omega
              have HH := Lib.hid (show 0 ≤ q → H95 (d + 1) ⟨2, 0, nm, ks⟩ from fun h => ⟨by show nm.size ≤ 16; omega, by show ks.length ≤ 24; omega, fun y hy => HA.out h y (by rw [hk2, List.take_length]; exact hy)⟩)
              clear hk2
              go_wp2
              go_ret
              exact ⟨q, rfl, hq1, hq2, HH.out, below_tr HB.out HBW.out⟩
        · have HB := Lib.hid (show Below W.heap.size W (W.alloc (.cells #[.int .i64 3, .int .i64 0, .string nm, .slice A ks.length c] 94 (0, 0))) from below_alloc (Below.refl _ _) _)
          have HY := Lib.hid (new_blk W (.cells #[.int .i64 3, .int .i64 0, .string nm, .slice A ks.length c] 94 (0, 0)))
          have HC := Lib.hid (Kd.C_below hC HB.out)
          clear hC
          go_enter Tryz.func131, Tryz.ntmps131
          go_wp2
          generalize W.alloc (.cells #[.int .i64 3, .int .i64 0, .string nm, .slice A ks.length c] 94 (0, 0)) = W1 at *
          go_loopw [1, 7] (fun v1 v7 wr => ∃ (k : Nat) (q : Int), v7 = .int .i64 k ∧ k ≤ ks.length ∧ v1 = .int .i64 q ∧ -1 ≤ q ∧ q ≤ 24 ∧ Aside0 (0 ≤ q → ∀ y ∈ ks.take k, H95 d y) ∧ Aside0 (Below W1.heap.size W1 wr)) (fun v1 v7 _ => ks.length - (intOf v7).toNat)
          case atStart => exact ⟨0, m - 1, rfl, Nat.zero_le _, by go_num, by omega, by omega, ⟨fun _ y hy => by simp at hy⟩, ⟨Below.refl _ _⟩⟩
          case round =>
            obtain ⟨k, q, rfl, hk, rfl, hq1, hq2, HA, HBW⟩ := hrel
            have HY2 := Lib.hid ((HBW.out.block W.heap.size (blk_lt HY.out)).trans HY.out)
            have q0 : wr.cell? ⟨W.heap.size, 0, none⟩ = some (.int .i64 3) := (blk_cell HY2.out 0).trans rfl
            have q1 : wr.cell? ⟨W.heap.size, 1, none⟩ = some (.int .i64 0) := (blk_cell HY2.out 1).trans rfl
            have q2 : wr.cell? ⟨W.heap.size, 2, none⟩ = some (.string nm) := (blk_cell HY2.out 2).trans rfl
            have q3 : wr.cell? ⟨W.heap.size, 3, none⟩ = some (.slice A ks.length c) := (blk_cell HY2.out 3).trans rfl
            have HC2 := Lib.hid (Kd.C_below HC.out HBW.out)
            by_cases hlt : k < ks.length
            · have hlt2 : (k : Int) < (ks.length : Int) := by omega
              by_cases hq0 : 0 ≤ q
              · obtain ⟨ad, A4, c4, e, h0, h1, h2, h3, hl4, hC4⟩ := at_T94 HC2.out (k : Int) (by omega) (by omega)
                subst e
                simp only [Int.toNat_natCast] at h0 h1 h2 h3
                have HT := Lib.hid (take_rd95 hlt)
                have hz := HZ.out.h2 _ (rd_mem95 hlt)
                generalize rd_T94 ks (k : Int) = y at *
                have HCALL := Lib.hid (HIH.out y A4 c4 q wr (by omega) hq1 hq2 hz hC4 hl4)
                clear hC4 hl4 hz
                go_wp2_with fail
                refine HCALL.out.mono ?_
                rintro e w2 ⟨r, rfl, hr1, hr2, hr3, hb⟩
                have HB2 := Lib.hid (below_tr HBW.out hb)
                have HR3 := Lib.hid hr3
                clear hb h0 h1 h2 h3 hr3
                go_wp2
                go_roundw
                case rel => exact ⟨k + 1, r, by go_num, by omega, rfl, hr1, hr2, ⟨fun hr z hz => by
                  rw [HT.out] at hz
                  rcases List.mem_append.1 hz with hz | hz
                  · exact HA.out hq0 z hz
                  · rw [List.mem_singleton.1 hz]; exact HR3.out hr⟩, ⟨HB2.out⟩⟩
                case measure => simp [intOf]; omega
              · go_wp2
                go_ret
                exact ⟨q, rfl, hq1, hq2, fun h => by exfalso; omega, below_tr HB.out HBW.out⟩
            · have hk2 : k = ks.length := by omega
              have HH := Lib.hid (show 0 ≤ q → H95 (d + 1) ⟨3, 0, nm, ks⟩ from fun h => ⟨by show nm.size ≤ 16; omega, by show ks.length ≤ 24; omega, fun y hy => HA.out h y (by rw [hk2, List.take_length]; exact hy)⟩)
              clear hk2
              go_wp2
              go_ret
              exact ⟨q, rfl, hq1, hq2, HH.out, below_tr HB.out HBW.out⟩
      · have HG := Lib.hid hg
        clear hg
        go_enter Tryz.func131, Tryz.ntmps131
        go_wp2
        all_goals first
          | (go_ret; exact RNp.neg (below_alloc (Below.refl _ _) _))
          | (exfalso; (try simp only [bne_iff_ne, ne_eq, beq_iff_eq, bne_eq_false_iff_eq] at *); exact HG.out ⟨by omega, by omega, by assumption, by omega, by omega⟩)
end Go.Proofs.YtafigkikblpbnaaGreatDoor.PG
namespace Go.Proofs.YtafigkikblpbnaaGreatDoor.PG
open Go.RowKit Go.Proofs.YtafigkikblpbnaaGreatDoorW.PrintWords Go.Proofs.YtafigkikblpbnaaGreatDoorW.PrintLast Go.Proofs.YtafigkikblpbnaaGreatDoorW.PrintMore
set_option linter.unusedVariables false
set_option linter.unusedSimpArgs false
set_option maxRecDepth 100000

/-- It answers a number; where it is 0 p holds; nothing that was there is turned. -/
def RIp (p : Prop) (w : World) (e : Ending) (w' : World) : Prop := ∃ r : Int, e = .returned (.int .i64 r) ∧ (r = 0 → p) ∧ Below w.heap.size w w'
theorem RIp.no {p : Prop} {w w' : World} {r : Int} (h : Below w.heap.size w w') (h0 : r ≠ 0) : RIp p w (.returned (.int .i64 r)) w' := ⟨r, rfl, fun e => absurd e h0, h⟩
theorem size_nil {s : ByteArray} (h : s.toList = []) : s.size = 0 := by
  rw [ByteArray.toList_eq] at h
  show s.data.size = 0
  rw [← Array.length_toList, h]; rfl
theorem nmOk_16 {s : ByteArray} (h : nmOk s = true) : s.size ≤ 16 := (@of_decide_eq_true _ (Classical.propDecidable _) h).2.1
theorem rd_mem97 {l : List S96} {k : Nat} (h : k < l.length) : rd_T96 l (k : Int) ∈ l := by
  have : rd_T96 l (k : Int) = l[k] := by unfold rd_T96; rw [Int.toNat_natCast, List.getD_eq_getElem?_getD, List.getElem?_eq_getElem h]; rfl
  rw [this]; exact List.getElem_mem h
theorem take_rd97 {l : List S96} {k : Nat} (h : k < l.length) : l.take (k + 1) = l.take k ++ [rd_T96 l (k : Int)] := by
  have : rd_T96 l (k : Int) = l[k] := by unfold rd_T96; rw [Int.toNat_natCast, List.getD_eq_getElem?_getD, List.getElem?_eq_getElem h]; rfl
  rw [this, List.take_succ_eq_append_getElem h]

theorem MayExpr_any (x : S94) (A : Option Addr) (c : Nat) (W : World) (hz : Z95 x) (hC : Kd.C k94 W A x.f3.length x.f3) (hl : x.f3.length ≤ c) : Calls Tryz.prog 103 #[.agg #[.int .i64 x.f0, .int .i64 x.f1, .string x.f2, .slice A x.f3.length c]] W (RBq (H95 8 x) W) := by
  have HB := Lib.hid (show Below W.heap.size W (W.alloc (.cells #[.int .i64 x.f0, .int .i64 x.f1, .string x.f2, .slice A x.f3.length c] 94 (0, 0))) from below_alloc (Below.refl _ _) _)
  have HCALL := Lib.hid (left17 8 x A c 24 (W.alloc (.cells #[.int .i64 x.f0, .int .i64 x.f1, .string x.f2, .slice A x.f3.length c] 94 (0, 0))) (by omega) (by omega) (by omega) hz (Kd.C_below hC HB.out) hl)
  go_enter Tryz.func103, Tryz.ntmps103
  go_wp2_with fail
  refine HCALL.out.mono ?_
  rintro e w2 ⟨r, rfl, hr1, hr2, hr3, hb⟩
  have HB2 := Lib.hid (below_tr HB.out hb)
  have HR := Lib.hid hr3
  clear hb hr3
  go_wp2
  go_ret
  exact ⟨_, rfl, fun h => HR.out (of_decide_eq_true h), HB2.out⟩
end Go.Proofs.YtafigkikblpbnaaGreatDoor.PG
namespace Go.Proofs.YtafigkikblpbnaaGreatDoor.PG
open Go.RowKit Go.Proofs.YtafigkikblpbnaaGreatDoorW.PrintWords Go.Proofs.YtafigkikblpbnaaGreatDoorW.PrintLast Go.Proofs.YtafigkikblpbnaaGreatDoorW.PrintMore
set_option linter.unusedVariables false
set_option linter.unusedSimpArgs false
set_option maxRecDepth 100000
/-! ### hanaperref01_Copy: function 141 -/
def hanaperref01_Copy.f (l0 : List Int) : Option (List Int) := (some (([] : List Int) : List Int)).bind fun y202 => (if y202.length + l0.length < 140737488355328 then (some (y202 ++ l0)) else (none))
set_option maxHeartbeats 8000000 in
set_option maxRecDepth 100000 in
theorem hanaperref01_Copy.calls (A0 : Option Addr) (c0 : Nat) (l0 : List Int) (r : List Int) (w : World) (hr0 : Kd.C (Kd.int .u8) w A0 l0.length l0) (hc0 : l0.length ≤ c0) (h : hanaperref01_Copy.f l0 = some r) :
    Calls Tryz.prog 148 #[.slice A0 l0.length c0] w fun e w' => ∃ v0_ : Value, e = .returned (v0_) ∧ Kd.R (Kd.int .u8) 5 w' w.heap.size (fun _ => True) v0_ r ∧ Below w.heap.size w w' := by
  have HR0 := Aside0.mk hr0
  have HC0 := Aside0.mk hc0
  clear hr0 hc0
  have HB := Aside0.mk (Below.refl w.heap.size w)
  have H : ((some (([] : List Int) : List Int)).bind fun y202 => (if y202.length + l0.length < 140737488355328 then (some (y202 ++ l0)) else (none))) = some r := h
  clear h
  obtain ⟨y202, hy202⟩ : ∃ y_ : List Int, y_ = (([] : List Int)) := ⟨_, rfl⟩
  replace H : (if y202.length + l0.length < 140737488355328 then (some (y202 ++ l0)) else (none)) = some r := by first | (rw [hy202]; with_reducible exact H) | (have H2_ := (Option.bind_some _ _).symm.trans H; rw [hy202]; with_reducible exact H2_) | (have H2_ := (Option.bind_some _ _).symm.trans H; with_reducible exact H2_) | with_reducible exact H | (rw [hy202]; exact H) | exact H
  have Ny202 := Aside0.mk hy202
  clear hy202
  by_cases c2 : y202.length + l0.length < 140737488355328
  · rw [if_pos c2] at H
    have LMc2 := Aside0.mk c2
    clear c2
    obtain ⟨y205, hy205⟩ : ∃ y_ : List Int, y_ = (y202 ++ l0) := ⟨_, rfl⟩
    replace H : (some y205) = some r := by first | (rw [hy205]; with_reducible exact H) | (have H2_ := (Option.bind_some _ _).symm.trans H; rw [hy205]; with_reducible exact H2_) | (have H2_ := (Option.bind_some _ _).symm.trans H; with_reducible exact H2_) | with_reducible exact H | (rw [hy205]; exact H) | exact H
    have Ny205 := Aside0.mk hy205
    clear hy205
    obtain rfl := Option.some.inj H
    go_enter Tryz.func148, Tryz.ntmps148
    go_wp2_with (first | ((with_reducible refine gate_dst (N := 3) rfl ?_); refine Kd.R_lit (Kd.int .u8) _ 5 ?hg (N := 3) ?hd (xs := ([] : List Int)) (inner := []) (ok := fun _ => True) (okp := fun _ => True) ?hr ?hp (fun _ hk => hk) trivial (Below.refl _ _) (Nat.le_refl _) (by simp) ?_; (case hd => rfl); (case hg => rfl); (case hr => first | (go_simp; done) | (go_simp; rfl)); (case hp => exact (Reps.none _ _)); intro v203 w3 ho4 hb hg_ hnew_; clear hg_ hnew_; (first | rw [← Ny202.out] at ho4 | (simp only [Int.reduceToNat] at ho4; rw [← Ny202.out] at ho4)); have n0_ := Aside0.mk (Kd.R_lower ho4 (below_size (by repeat (first | (with_reducible first | exact HB.out | apply below_alloc | apply pw_below_drewN | apply below_drew1) | exact HB.out)))); have n1_ := Aside0.mk (below_step (by repeat (first | (with_reducible first | exact HB.out | apply below_alloc | apply pw_below_drewN | apply below_drew1) | exact HB.out)) hb); clear HB; have HO204 := n0_; have HB := n1_; clear n0_ n1_; clear hb ho4) | ((with_reducible refine gate_builtin (b := .append) (xs := #[.tmp 3, .tmp 4]) rfl ?_); at_builtin; refine Kd.R_append_rows (Kd.int .u8) (w0 := w) w.heap.size rfl (.tmp 3) (.tmp 4) 82 5 (.int .u8 0) 1 rfl Tryz.underlying82 info5 rfl (by decide) (by omega) v203 y202 l0 _ _ _ (fun _ => True) (fun _ => False) rfl rfl ?aO ?aR (fun _ _ h => h) (fun _ h => h.elim) ?aF ?aB ?aS ?aL ?_; (case aR => repeat (first | exact (Kd.C_below HR0.out HB.out) | (with_reducible refine Kd.C_alloc ?_ _) | (with_reducible refine Kd.C_drewN ?_ _) | (with_reducible refine Kd.C_drew ?_))); (case aB => exact (by repeat (first | (with_reducible first | exact HB.out | apply below_alloc | apply pw_below_drewN | apply below_drew1) | exact HB.out))); (case aF => exact (fun _ _ => trivial)); (case aO => exact (by (with_reducible repeat (first | apply Kd.R_alloc | apply Kd.R_drewN | apply Kd.R_drew)); exact HO204.out)); (case aS => exact (below_size (by repeat (first | (with_reducible first | exact HB.out | apply below_alloc | apply pw_below_drewN | apply below_drew1) | exact HB.out)))); (case aL => have := LMc2.out; omega); intro v206 w5 ho hb hg hat; rw [← Ny205.out] at ho; have n0_ := Aside0.mk (hb); have n1_ := Aside0.mk (ho); clear HB; clear HO204; have HB := n0_; have HO207 := n1_; clear n0_ n1_; clear ho hb hg hat))
    go_ret
    exact ⟨_, by first | rfl | (simp [errW_none, errW_some] <;> rfl) | (simp [*, errW_none, errW_some] <;> rfl), by (with_reducible repeat (first | apply Kd.R_alloc | apply Kd.R_drewN | apply Kd.R_drew)); exact HO207.out, by repeat (first | (with_reducible first | exact HB.out | apply below_alloc | apply pw_below_drewN | apply below_drew1) | exact HB.out)⟩
  · rw [if_neg c2] at H
    exact absurd H (by simp)


/-- A reader: bytes that are left, and whether it failed. -/
def Rdr (w : World) (p : Nat) (f : Bool) : Prop :=
  ∃ (A : Option Addr) (xs : List Int) (c : Nat), w.heap[p]? = some (.cells #[.slice A xs.length c, .bool f] 195 (0, 0)) ∧ (Kd.int .u8).C w A xs.length xs ∧ xs.length ≤ c ∧ (∀ ad, A = some ad → 0 < xs.length → ad.block ≠ p) ∧ xs.length ≤ 140737488351232
/-- It answers bytes of its own, so many where the reader has not failed; the reader alone is turned. -/
def Took (n : Int) (p : Nat) (w : World) (e : Ending) (w' : World) : Prop :=
  ∃ (A : Option Addr) (c : Nat) (ys : List Int) (f : Bool), e = .returned (.slice A ys.length c) ∧ ys.length ≤ c ∧ (Kd.int .u8).C w' A ys.length ys ∧ (∀ ad, A = some ad → 0 < ys.length → w.heap.size ≤ ad.block) ∧ Rdr w' p f ∧ (f = false → (ys.length : Int) = n) ∧ w.grownBy w' (some p) ∧ ys.length ≤ 140737488351232
theorem keep_grown {w w1 : World} {p : Nat} (h : w.grownBy w1 (some p)) : KeepBut w w1 p none := ⟨h.size, fun i hi hg _ => h.block i hi (fun e => hg (Option.some.inj e))⟩
theorem grown_set (w : World) (p j : Nat) (v : Value) : w.grownBy (w.setCell ⟨p, j, none⟩ v) (some p) :=
  ⟨rfl, rfl, rfl, by simp [World.setCell], fun i _ hne => Below.heap_setCell w ⟨p, j, none⟩ v i (fun e => hne (by rw [e]))⟩
theorem grown_tr {a b c : World} {row : Option Nat} (h : a.grownBy b row) (k : b.grownBy c row) : a.grownBy c row :=
  ⟨k.os.trans h.os, k.tape.trans h.tape, k.output.trans h.output, Nat.le_trans h.size k.size, fun i hi hne => (k.block i (Nat.lt_of_lt_of_le hi h.size) hne).trans (h.block i hi hne)⟩
theorem grown_below {w w1 : World} {row : Option Nat} (h : Below w.heap.size w w1) : w.grownBy w1 row := ⟨h.os, h.tape, h.output, h.size, fun k hk _ => h.block k hk⟩
set_option maxHeartbeats 1000000 in
theorem take_any (p : Nat) (n : Int) (f : Bool) (w : World) (h : Rdr w p f) : Calls Tryz.prog 149 #[.pointer (some ⟨p, 0, none⟩), .int .i64 n] w (Took n p w) := by
  obtain ⟨A, xs, c, hb, hC, hc, hf, hx⟩ := h
  have q0 : w.cell? ⟨p, 0, none⟩ = some (.slice A xs.length c) := (blk_cell hb 0).trans rfl
  have q1 : w.cell? ⟨p, 1, none⟩ = some (.bool f) := (blk_cell hb 1).trans rfl
  have z0 := blk_frozen hb 0
  have z1 := blk_frozen hb 1
  by_cases hg : f = false ∧ 0 ≤ n ∧ n ≤ xs.length
  · obtain ⟨rfl, h0, h1⟩ := hg
    obtain ⟨m, rfl⟩ : ∃ m : Nat, n = m := ⟨n.toNat, by omega⟩
    have hmx : m ≤ xs.length := by omega
    have hml : (xs.take m).length = m := by rw [List.length_take]; omega
    have HCALL := Lib.hid (show Calls Tryz.prog 148 #[.slice A m c] w fun e w' => ∃ v0_ : Value, e = .returned (v0_) ∧ Kd.R (Kd.int .u8) 5 w' w.heap.size (fun _ => True) v0_ (xs.take m) ∧ Below w.heap.size w w' by
      have := hanaperref01_Copy.calls A c (xs.take m) (xs.take m) w (Kd.C_take hC hmx) (by omega) (by
        unfold hanaperref01_Copy.f
        rw [Option.bind_some, if_pos (by rw [List.length_nil, hml]; omega)]
        rfl)
      rwa [hml] at this)
    have HB := Lib.hid hb
    have HD := Lib.hid (Kd.C_drop hC hmx hc)
    clear hb
    go_enter Tryz.func149, Tryz.ntmps149
    go_wp2_with fail
    refine HCALL.out.mono ?_
    rintro e w2 ⟨v, rfl, hR, hbl⟩
    obtain ⟨A', c', rfl, hl', hC'⟩ := Kd.R_reads hR
    have HB2 := Lib.hid ((hbl.block p (blk_lt HB.out)).trans HB.out)
    have HBL := Lib.hid hbl
    clear q0 q1 z0 z1
    have q0 : w2.cell? ⟨p, 0, none⟩ = some (.slice A xs.length c) := (blk_cell HB2.out 0).trans rfl
    have z0 := blk_frozen HB2.out 0
    have HFAR := Lib.hid (show ∀ ad, A' = some ad → 0 < (xs.take m).length → w.heap.size ≤ ad.block from by
      intro ad he hp
      obtain ⟨inner, ho⟩ := Kd.R_own hR
      rcases ho.2 with ⟨_, e0⟩ | ⟨r, cap, cur, hv, hb2, _⟩
      · omega
      · injection hv with hA _ _
        rw [he] at hA
        injection hA with hA
        rw [hA]; exact hb2)
    have HC' := Lib.hid hC'
    have HF := Lib.hid hf
    have HLD := Lib.hid (List.length_drop (i := m) (l := xs))
    clear hbl hR hC' hf
    have key : ∀ (A2 : Option Addr) (c2 : Nat), (∀ ad, A2 = some ad → ∃ ad0, A = some ad0 ∧ ad.block = ad0.block) → (Kd.int .u8).C w2 A2 (xs.drop m).length (xs.drop m) → xs.length - m ≤ c2 →
        Took m p w (.returned (.slice A' (xs.take m).length c')) (w2.setCell ⟨p, 0, none⟩ (.slice A2 (xs.length - m) c2)) := by
      intro A2 c2 hblk hC2 hl2
      have hg3 := grown_set w2 p 0 (.slice A2 (xs.length - m) c2)
      have hpl : p < w.heap.size := blk_lt HB.out
      refine ⟨A', c', xs.take m, false, rfl, hl', Kd.C_keep 0 HC'.out (keep_grown hg3) (fun ad he hp => by have := HFAR.out ad he hp; omega), HFAR.out, ⟨A2, xs.drop m, c2, ?_, ?_, by rw [HLD.out]; exact hl2, ?_, by rw [HLD.out]; omega⟩, fun _ => by rw [hml], grown_tr (grown_below HBL.out) hg3, by rw [hml]; omega⟩
      · rw [HLD.out]; exact blk_set HB2.out 0 _
      · exact Kd.C_keep 0 hC2 (keep_grown hg3) (fun ad he hp => by
          obtain ⟨ad0, h1, h2⟩ := hblk ad he
          rw [h2]; exact HF.out ad0 h1 (by rw [HLD.out] at hp; omega))
      · intro ad he hp
        obtain ⟨ad0, h1, h2⟩ := hblk ad he
        rw [h2]; exact HF.out ad0 h1 (by rw [HLD.out] at hp; omega)
    have KEY := Lib.hid key
    clear key
    by_cases hcm : c = m
    · have hd := HD.out
      rw [if_pos hcm] at hd
      have K2 := Lib.hid (KEY.out A (c - m) (fun ad he => ⟨ad, he, rfl⟩) (Kd.C_below hd HBL.out) (by omega))
      have hcm0 : c - m = 0 := by omega
      rw [hml, hcm0] at K2
      clear KEY hd
      go_wp2
      all_goals
        go_ret
        first | exact K2.out | (simpa [hcm] using K2.out)
    · have hd := HD.out
      rw [if_neg hcm] at hd
      have K2 := Lib.hid (KEY.out (A.map (fun x => x.add m)) (c - m) (fun ad he => by
        obtain ⟨ad0, h1, h2⟩ := Option.map_eq_some_iff.1 he
        exact ⟨ad0, h1, by rw [← h2]; unfold Addr.add; split <;> rfl⟩) (by have := Kd.C_below hd HBL.out; rw [show m * (Kd.int IntKind.u8).sz = m from Nat.mul_one m] at this; exact this) (by omega))
      rw [hml] at K2
      clear KEY hd
      go_wp2
      all_goals
        go_ret
        exact K2.out
  · have HG := Lib.hid hg
    have HK := Lib.hid (show Took n p w (.returned (.slice none 0 0)) (w.setCell ⟨p, 1, none⟩ (.bool true)) from
      (by
        refine ⟨none, 0, [], true, rfl, Nat.le_refl _, Kd.C_nil (Kd.int .u8) _, fun ad h => (by cases h), ⟨A, xs, c, ?_, Kd.C_keep 0 hC (keep_grown (grown_set w p 1 _)) hf, hc, hf, hx⟩, fun h => absurd h (by decide), grown_set w p 1 _, Nat.zero_le _⟩
        exact blk_set hb 1 _))
    clear hg
    go_enter Tryz.func149, Tryz.ntmps149
    go_wp2
    all_goals first
      | (go_ret; exact HK.out)
      | (exfalso; (try simp only [bne_iff_ne, ne_eq, beq_iff_eq, bne_eq_false_iff_eq] at *); exact HG.out ⟨by first | assumption | rfl | (cases f <;> simp_all), by omega, by omega⟩)
end Go.Proofs.YtafigkikblpbnaaGreatDoor.PG
namespace Go.Proofs.YtafigkikblpbnaaGreatDoor.PG
open Go.RowKit Go.Proofs.YtafigkikblpbnaaGreatDoorW.PrintWords Go.Proofs.YtafigkikblpbnaaGreatDoorW.PrintLast Go.Proofs.YtafigkikblpbnaaGreatDoorW.PrintMore
set_option linter.unusedVariables false
set_option linter.unusedSimpArgs false
set_option maxRecDepth 100000

theorem Rdr.blk {w : World} {p : Nat} {f : Bool} (h : Rdr w p f) : ∃ v, w.heap[p]? = some (.cells #[v, .bool f] 195 (0, 0)) := by
  obtain ⟨A, xs, c, hb, _⟩ := h
  exact ⟨_, hb⟩
theorem Rdr.fail {w : World} {p : Nat} {f : Bool} (h : Rdr w p f) : Rdr (w.setCell ⟨p, 1, none⟩ (.bool true)) p true := by
  obtain ⟨A, xs, c, hb, hC, hc, hf, hx⟩ := h
  exact ⟨A, xs, c, blk_set hb 1 _, Kd.C_keep 0 hC (keep_grown (grown_set w p 1 _)) hf, hc, hf, hx⟩
/-- It answers a number; the reader alone is turned. -/
def Nummed (m : Int) (k : IntKind) (p : Nat) (w : World) (e : Ending) (w' : World) : Prop := ∃ (v : Int) (f : Bool), e = .returned (.int k v) ∧ 0 ≤ v ∧ v ≤ m ∧ Rdr w' p f ∧ w.grownBy w' (some p)
theorem u8_first {w : World} {A : Option Addr} {ys : List Int} (h : (Kd.int .u8).C w A ys.length ys) (h0 : 0 < ys.length) : ∃ ad x, A = some ad ∧ w.cell? ad = some (.int .u8 x) := by
  obtain ⟨ad, c, e, hl, hK, hc⟩ := Kd.C_get h 0 0 (by omega) (by omega)
  have hk : c = [.int .u8 (ys.getD (0 : Int).toNat 0)] := hK
  rw [hk] at hc
  have h := hc 0 _ rfl
  rw [show (0 : Int).toNat * (Kd.int IntKind.u8).sz + 0 = 0 from rfl] at h
  rw [show ad.add 0 = ad by obtain ⟨b, o, s⟩ := ad; unfold Addr.add; cases s <;> simp] at h
  exact ⟨ad, _, e, h⟩
theorem u64_range (n : Int) : 0 ≤ IntKind.u64.wrap n ∧ IntKind.u64.wrap n ≤ 18446744073709551615 := by rw [IntKind.wrap_u64]; omega
set_option maxHeartbeats 1000000 in
theorem value_any (xs : List Int) (A : Option Addr) (c : Nat) (w : World) (hC : (Kd.int .u8).C w A xs.length xs) : Calls Tryz.prog 157 #[.slice A xs.length c] w fun e w' => ∃ v : Int, e = .returned (.int .u64 v) ∧ 0 ≤ v ∧ v ≤ 18446744073709551615 ∧ Below w.heap.size w w' := by
  have hm : xs.length ≤ 9223372036854775807 := hC.2.1
  go_enter Tryz.func157, Tryz.ntmps157
  go_wp2
  go_loopw [3, 4] (fun v3 v4 wr => ∃ (k : Nat) (q : Int), v4 = .int .i64 k ∧ k ≤ xs.length ∧ v3 = .int .u64 q ∧ 0 ≤ q ∧ q ≤ 18446744073709551615 ∧ Aside0 (wr = w)) (fun v3 v4 _ => xs.length - (intOf v4).toNat)
  case atStart => exact ⟨0, 0, rfl, Nat.zero_le _, rfl, by omega, by omega, ⟨rfl⟩⟩
  case round =>
    obtain ⟨k, q, rfl, hk, rfl, hq1, hq2, HW⟩ := hrel
    obtain rfl := HW.out
    by_cases hlt : k < xs.length
    · have hlt2 : (k : Int) < (xs.length : Int) := by omega
      obtain ⟨ad, cl, e, hl, hK, hc⟩ := Kd.C_get hC 0 (k : Int) (by omega) (by omega)
      have hk1 : cl = [.int .u8 (xs.getD (k : Int).toNat 0)] := hK
      rw [hk1] at hc
      have h0 := hc 0 _ rfl
      subst e
      simp only [Int.toNat_natCast, show (Kd.int IntKind.u8).sz = 1 from rfl, Nat.mul_one, Nat.add_zero] at h0
      generalize xs.getD k 0 = x at *
      clear hc hK hk1 hl
      go_wp2
      go_roundw
      case rel => exact ⟨k + 1, _, by go_num, by omega, rfl, by first | omega | exact (u64_range _).1, by first | omega | exact (u64_range _).2, ⟨by first | rfl | trivial⟩⟩
      case measure => simp [intOf]; omega
    · go_wp2
      go_ret
      exact ⟨q, rfl, hq1, hq2, Below.refl _ _⟩
set_option maxHeartbeats 2000000 in
theorem num_any_ (p : Nat) (f : Bool) (w : World) (h : Rdr w p f) : Calls Tryz.prog 155 #[.pointer (some ⟨p, 0, none⟩)] w (Nummed 18446744073709551615 .u64 p w) := by
  have HT1 := Lib.hid (take_any p 1 f w h)
  clear h
  go_enter Tryz.func155, Tryz.ntmps155
  go_wp2_with fail
  refine HT1.out.mono ?_
  rintro e w1 ⟨A1, c1, ys1, f1, rfl, hl1, hC1, hf1, hr1, hn1, hg1, _⟩
  obtain ⟨vb, hb1⟩ := hr1.blk
  have q1 : w1.cell? ⟨p, 1, none⟩ = some (.bool f1) := (blk_cell hb1 1).trans rfl
  have z1 := blk_frozen hb1 1
  have HR1 := Lib.hid hr1
  have HG1 := Lib.hid hg1
  have HF1 := Lib.hid (show Nummed 18446744073709551615 .u64 p w (.returned (.int .u64 0)) (w1.setCell ⟨p, 1, none⟩ (.bool true)) from ⟨0, true, rfl, by omega, by omega, hr1.fail, grown_tr hg1 (grown_set _ _ _ _)⟩)
  clear hr1 hg1 hb1
  cases f1
  · have hy := hn1 rfl
    have hy1 : ys1.length = 1 := by omega
    obtain ⟨ad, x, rfl, hx⟩ := u8_first hC1 (by omega)
    rw [hy1]
    clear hn1 hy hf1
    have HT2 := fun n => Lib.hid (take_any p n false w1 HR1.out)
    by_cases h8 : 8 < x
    · go_wp2
      go_ret
      exact HF1.out
    go_wp2_with fail
    refine (HT2 _).out.mono ?_
    rintro e w2 ⟨A2, c2, ys2, f2, rfl, hl2, hC2, hf2, hr2, hn2, hg2, _⟩
    obtain ⟨vb, hb2⟩ := hr2.blk
    clear q1 z1 hx
    have q1 : w2.cell? ⟨p, 1, none⟩ = some (.bool f2) := (blk_cell hb2 1).trans rfl
    have z1 := blk_frozen hb2 1
    have hgg := grown_tr HG1.out hg2
    have HF2 := Lib.hid (show Nummed 18446744073709551615 .u64 p w (.returned (.int .u64 0)) (w2.setCell ⟨p, 1, none⟩ (.bool true)) from ⟨0, true, rfl, by omega, by omega, hr2.fail, grown_tr hgg (grown_set _ _ _ _)⟩)
    have HV := Lib.hid (value_any ys2 A2 c2 w2 hC2)
    have HR2 := Lib.hid hr2
    have HGG := Lib.hid hgg
    clear hb2 hr2 hgg hg2 hn2 hf2 hl2
    cases f2
    · have fin : ∀ e w', (∃ v : Int, e = Ending.returned (.int .u64 v) ∧ 0 ≤ v ∧ v ≤ 18446744073709551615 ∧ Below w2.heap.size w2 w') → Nummed 18446744073709551615 .u64 p w e w' := by
        rintro e w' ⟨v, rfl, h1, h2, hb⟩
        refine ⟨v, false, rfl, h1, h2, ?_, grown_tr HGG.out (grown_below hb)⟩
        obtain ⟨A, xs, c, hb3, hC3, hc3, hf3, hx3⟩ := HR2.out
        exact ⟨A, xs, c, (hb.block p (blk_lt hb3)).trans hb3, Kd.C_below hC3 hb, hc3, hf3, hx3⟩
      have FIN := Lib.hid fin
      clear fin
      by_cases h20 : 0 < ys2.length
      · obtain ⟨ad2, x2, rfl, hx2⟩ := u8_first hC2 h20
        have h20' : (0 : Int) < (ys2.length : Int) := by omega
        clear hC2
        by_cases h00 : x2 = 0
        · subst h00
          go_wp2
          go_ret
          exact HF2.out
        · go_wp2_with (go_at_call 157; refine HV.out.mono ?_; rintro e w3 ⟨v, rfl, h1, h2, hb⟩)
          all_goals
            go_ret
            exact FIN.out _ _ ⟨v, rfl, h1, h2, hb⟩
      · have h20' : ¬ (0 : Int) < (ys2.length : Int) := by omega
        clear hC2
        go_wp2_with (go_at_call 157; refine HV.out.mono ?_; rintro e w3 ⟨v, rfl, h1, h2, hb⟩)
        all_goals
          go_ret
          exact FIN.out _ _ ⟨v, rfl, h1, h2, hb⟩
    · go_wp2
      all_goals (go_ret; exact HF2.out)
  · go_wp2
    all_goals (go_ret; exact HF1.out)
end Go.Proofs.YtafigkikblpbnaaGreatDoor.PG
namespace Go.Proofs.YtafigkikblpbnaaGreatDoor.PG
open Go.RowKit Go.Proofs.YtafigkikblpbnaaGreatDoorW.PrintWords Go.Proofs.YtafigkikblpbnaaGreatDoorW.PrintLast Go.Proofs.YtafigkikblpbnaaGreatDoorW.PrintMore
set_option linter.unusedVariables false
set_option linter.unusedSimpArgs false
set_option maxRecDepth 100000

set_option maxHeartbeats 1000000 in
theorem count_any_ (p : Nat) (f : Bool) (m : Nat) (hm : m ≤ 4611686018427387904) (w : World) (h : Rdr w p f) : Calls Tryz.prog 150 #[.pointer (some ⟨p, 0, none⟩), .int .i64 m] w (Nummed m .i64 p w) := by
  have HN := Lib.hid (num_any_ p f w h)
  clear h
  go_enter Tryz.func150, Tryz.ntmps150
  go_wp2_with fail
  refine HN.out.mono ?_
  rintro e w1 ⟨v, f1, rfl, hv1, hv2, hr1, hg1⟩
  obtain ⟨vb, hb1⟩ := hr1.blk
  have z1 := blk_frozen hb1 1
  have q1 : w1.cell? ⟨p, 1, none⟩ = some (.bool f1) := (blk_cell hb1 1).trans rfl
  have HF := Lib.hid (show Nummed m .i64 p w (.returned (.int .i64 0)) (w1.setCell ⟨p, 1, none⟩ (.bool true)) from ⟨0, true, rfl, by omega, by omega, hr1.fail, grown_tr hg1 (grown_set _ _ _ _)⟩)
  have HR := Lib.hid hr1
  have HG := Lib.hid hg1
  clear hr1 hg1 hb1
  have hwm : IntKind.u64.wrap (m : Int) = (m : Int) := by rw [IntKind.wrap_u64]; omega
  by_cases hvm : (m : Int) < v
  · go_wp2
    go_ret
    exact HF.out
  · have hwv : wrap64 v = v := by unfold wrap64; omega
    have HK := Lib.hid (show Nummed m .i64 p w (.returned (.int .i64 v)) w1 from ⟨v, f1, rfl, hv1, by omega, HR.out, HG.out⟩)
    go_wp2
    go_ret
    exact HK.out
/-- It answers bytes of its own; the reader alone is turned. -/
def Took2 (p : Nat) (w : World) (e : Ending) (w' : World) : Prop :=
  ∃ (A : Option Addr) (c : Nat) (ys : List Int) (f : Bool), e = .returned (.slice A ys.length c) ∧ ys.length ≤ c ∧ (Kd.int .u8).C w' A ys.length ys ∧ Rdr w' p f ∧ w.grownBy w' (some p) ∧ ys.length ≤ 140737488351232
set_option maxHeartbeats 1000000 in
theorem text_any_ (p : Nat) (f : Bool) (m : Nat) (hm : m ≤ 4611686018427387904) (w : World) (h : Rdr w p f) : Calls Tryz.prog 151 #[.pointer (some ⟨p, 0, none⟩), .int .i64 m] w (Took2 p w) := by
  have HN := Lib.hid (count_any_ p f m hm w h)
  clear h
  go_enter Tryz.func151, Tryz.ntmps151
  go_wp2_with fail
  refine HN.out.mono ?_
  rintro e w1 ⟨v, f1, rfl, hv1, hv2, hr1, hg1⟩
  have HT := Lib.hid (take_any p v f1 w1 hr1)
  have HG := Lib.hid hg1
  clear hr1 hg1
  go_wp2_with fail
  refine HT.out.mono ?_
  rintro e w2 ⟨A, c, ys, f2, rfl, hl2, hC2, hf2, hr2, hn2, hg2, hy2⟩
  have HK := Lib.hid (show Took2 p w (.returned (.slice A ys.length c)) w2 from ⟨A, c, ys, f2, rfl, hl2, hC2, hr2, grown_tr HG.out hg2, hy2⟩)
  clear hl2 hC2 hf2 hr2 hn2 hg2
  go_wp2
  go_ret
  exact HK.out
theorem name23_any (s : ByteArray) (hs : s.size ≤ 140737488351232) (w : World) : Calls Tryz.prog 156 #[.string s] w (RB w) := by
  have HN := Lib.hid (Name_eq s hs w)
  go_enter Tryz.func156, Tryz.ntmps156
  go_wp2_with (go_at_call 68; refine HN.out.mono ?_; rintro e w2 ⟨rfl, rfl⟩)
  all_goals (go_ret; exact RB.mk)
set_option maxHeartbeats 1000000 in
theorem May23_any (a b : Int) (s u : ByteArray) (hs : s.size ≤ 140737488351232) (hu : u.size ≤ 140737488351232) (W : World) : Calls Tryz.prog 152 #[.agg #[.int .i64 a, .int .i64 b, .string s, .string u]] W (RBb W) := by
  have HS := fun w => Lib.hid (name23_any s hs w)
  have HU := fun w => Lib.hid (name23_any u hu w)
  go_enter Tryz.func152, Tryz.ntmps152
  go_wp2_with (first | (go_at_call 156; refine (HS _).out.mono ?_; rintro e w2 ⟨q, rfl, rfl⟩) | (go_at_call 156; refine (HU _).out.mono ?_; rintro e w3 ⟨q2, rfl, rfl⟩))
  all_goals (go_ret; exact RBb.mk (below_alloc (Below.refl _ _) _))
set_option maxHeartbeats 1000000 in
theorem Ends23_any (a b : Int) (s u : ByteArray) (hs : s.size ≤ 140737488351232) (hu : u.size ≤ 140737488351232) (W : World) : Calls Tryz.prog 136 #[.agg #[.int .i64 a, .int .i64 b, .string s, .string u]] W (RBb W) := by
  have HM := Lib.hid (May23_any a b s u hs hu (W.alloc (.cells #[.int .i64 a, .int .i64 b, .string s, .string u] 152 (0, 0))))
  have HY := Lib.hid (new_blk W (.cells #[.int .i64 a, .int .i64 b, .string s, .string u] 152 (0, 0)))
  have HB := Lib.hid (show Below W.heap.size W (W.alloc (.cells #[.int .i64 a, .int .i64 b, .string s, .string u] 152 (0, 0))) from below_alloc (Below.refl _ _) _)
  go_enter Tryz.func136, Tryz.ntmps136
  go_wp2_with fail
  refine HM.out.mono ?_
  rintro e w2 ⟨q, rfl, hb⟩
  have HY2 := Lib.hid ((hb.block W.heap.size (blk_lt HY.out)).trans HY.out)
  have q0 : w2.cell? ⟨W.heap.size, 0, none⟩ = some (.int .i64 a) := (blk_cell HY2.out 0).trans rfl
  have HB2 := Lib.hid (below_tr HB.out hb)
  clear hb
  go_wp2
  all_goals (go_ret; exact RBb.mk HB2.out)
end Go.Proofs.YtafigkikblpbnaaGreatDoor.PG
namespace Go.Proofs.YtafigkikblpbnaaGreatDoor.PG
open Go.RowKit Go.Proofs.YtafigkikblpbnaaGreatDoorW.PrintWords Go.Proofs.YtafigkikblpbnaaGreatDoorW.PrintLast Go.Proofs.YtafigkikblpbnaaGreatDoorW.PrintMore
set_option linter.unusedVariables false
set_option linter.unusedSimpArgs false
set_option maxRecDepth 100000

/-- It answers an event and a number; nothing that was there is turned. -/
def GotE (w : World) (e : Ending) (w' : World) : Prop :=
  ∃ (a b r : Int) (s u : ByteArray), e = .returned (.tuple #[.agg #[.int .i64 a, .int .i64 b, .string s, .string u], .int .i64 r]) ∧ s.size ≤ 140737488351232 ∧ u.size ≤ 140737488351232 ∧ Below w.heap.size w w'
theorem copy_any (xs : List Int) (A : Option Addr) (c : Nat) (w : World) (hC : (Kd.int .u8).C w A xs.length xs) (hc : xs.length ≤ c) (hx : xs.length ≤ 140737488351232) :
    Calls Tryz.prog 148 #[.slice A xs.length c] w fun e w' => ∃ (A' : Option Addr) (c' : Nat), e = .returned (.slice A' xs.length c') ∧ xs.length ≤ c' ∧ (Kd.int .u8).C w' A' xs.length xs ∧ Below w.heap.size w w' := by
  refine (hanaperref01_Copy.calls A c xs xs w hC hc (by
    unfold hanaperref01_Copy.f
    rw [Option.bind_some, if_pos (by rw [List.length_nil]; omega)]
    rfl)).mono ?_
  rintro e w' ⟨v, rfl, hR, hb⟩
  obtain ⟨A', c', rfl, hl', hC'⟩ := Kd.R_reads hR
  exact ⟨A', c', rfl, hl', hC', hb⟩
theorem results4_tmp {fn : Func} {p u : Tmp} (h : fn.results = #[.cell p 152, .tmp u]) (tmps : Array Value) (w : World) (b : Nat) (cs : Array Value) (hp : tmps.getD p undef = .pointer (some ⟨b, 0, none⟩)) (hb : w.heap[b]? = some (.cells cs 152 (0, 0))) (hs : cs.size = 4) :
    (results fn tmps).run Tryz.prog w = .ok (.tuple #[.agg cs, tmps.getD u undef]) w := by
  rw [results_cell_tmp h, hp]
  have h1 : (asAddr (.pointer (some ⟨b, 0, none⟩))).run Tryz.prog w = .ok ⟨b, 0, none⟩ w := rfl
  rw [h1]
  simp only [Result.andThen_ok]
  rw [run_loadVar_row w b 152 152 cs (0, 0) _ hb Tryz.underlying152 rfl (by rw [hs]; kernel_rfl)]
  rfl
theorem Rdr.below {w w1 : World} {p : Nat} {f : Bool} (h : Rdr w p f) (hb : Below w.heap.size w w1) : Rdr w1 p f := by
  obtain ⟨A, xs, c, hb3, hC3, hc3, hf3, hx3⟩ := h
  exact ⟨A, xs, c, (hb.block p (blk_lt hb3)).trans hb3, Kd.C_below hC3 hb, hc3, hf3, hx3⟩
theorem store90_facts {w : World} {q : Nat} (v0 v1 v2 v3 : Value) (h : w.heap[q]? = some (.cells #[.int .i64 0, .int .i64 0, .string ⟨#[]⟩, .string ⟨#[]⟩] 152 (0, 0))) :
    (w).cell? ⟨q, 0, none⟩ = some (.int .i64 0) ∧ (w).frozen? ⟨q, 0, none⟩ = false ∧ ((w).setCell ⟨q, 0, none⟩ v0).cell? ⟨q, 1, none⟩ = some (.int .i64 0) ∧ ((w).setCell ⟨q, 0, none⟩ v0).frozen? ⟨q, 1, none⟩ = false ∧ (((w).setCell ⟨q, 0, none⟩ v0).setCell ⟨q, 1, none⟩ v1).cell? ⟨q, 2, none⟩ = some (.string ⟨#[]⟩) ∧ (((w).setCell ⟨q, 0, none⟩ v0).setCell ⟨q, 1, none⟩ v1).frozen? ⟨q, 2, none⟩ = false ∧ ((((w).setCell ⟨q, 0, none⟩ v0).setCell ⟨q, 1, none⟩ v1).setCell ⟨q, 2, none⟩ v2).cell? ⟨q, 3, none⟩ = some (.string ⟨#[]⟩) ∧ ((((w).setCell ⟨q, 0, none⟩ v0).setCell ⟨q, 1, none⟩ v1).setCell ⟨q, 2, none⟩ v2).frozen? ⟨q, 3, none⟩ = false ∧ (((((w).setCell ⟨q, 0, none⟩ v0).setCell ⟨q, 1, none⟩ v1).setCell ⟨q, 2, none⟩ v2).setCell ⟨q, 3, none⟩ v3).heap[q]? = some (.cells #[v0, v1, v2, v3] 152 (0, 0)) := by
  have h1 := blk_set h 0 v0
  have h2 := blk_set h1 1 v1
  have h3 := blk_set h2 2 v2
  have h4 := blk_set h3 3 v3
  exact ⟨(blk_cell h 0).trans rfl, blk_frozen h 0, (blk_cell h1 1).trans rfl, blk_frozen h1 1, (blk_cell h2 2).trans rfl, blk_frozen h2 2, (blk_cell h3 3).trans rfl, blk_frozen h3 3, h4⟩
theorem grown_set_far {w w1 : World} {row : Option Nat} {q j : Nat} {v : Value} (h : w.grownBy w1 row) (hq : w.heap.size ≤ q) : w.grownBy (w1.setCell ⟨q, j, none⟩ v) row :=
  ⟨h.os, h.tape, h.output, Nat.le_trans h.size (Nat.le_of_eq (by simp [World.setCell])), fun i hi hne => (Below.heap_setCell w1 ⟨q, j, none⟩ v i (Nat.ne_of_lt (Nat.lt_of_lt_of_le hi hq))).trans (h.block i hi hne)⟩
theorem nb90 {v0 v1 v2 v3 : Value} (h0 : ∀ x, v0 ≠ .int .u8 x) (h1 : ∀ x, v1 ≠ .int .u8 x) (h2 : ∀ x, v2 ≠ .int .u8 x) (h3 : ∀ x, v3 ≠ .int .u8 x) : ∀ (i : Nat) (x : Int), (#[v0, v1, v2, v3] : Array Value)[i]? ≠ some (Value.int .u8 x)
  | 0, x, h => h0 x (Option.some.inj h)
  | 1, x, h => h1 x (Option.some.inj h)
  | 2, x, h => h2 x (Option.some.inj h)
  | 3, x, h => h3 x (Option.some.inj h)
  | (n + 4), x, h => by simp at h
theorem Rdr.put90 {w : World} {p q j : Nat} {f : Bool} {cs : Array Value} {v : Value} (h : Rdr w p f) (hq : w.heap[q]? = some (.cells cs 152 (0, 0))) (hne : q ≠ p) (hcs : ∀ (i : Nat) (x : Int), cs[i]? ≠ some (Value.int .u8 x)) : Rdr (w.setCell ⟨q, j, none⟩ v) p f := by
  obtain ⟨A, xs, c, hb3, hC3, hc3, hf3, hx3⟩ := h
  refine ⟨A, xs, c, (Below.heap_setCell w ⟨q, j, none⟩ v p (fun e => hne e.symm)).trans hb3, ?_, hc3, hf3, hx3⟩
  refine Kd.C_keep 0 hC3 (keep_grown (grown_set w q j v)) (fun ad he hp e => ?_)
  subst he
  obtain ⟨ad1, x, e1, hx⟩ := u8_first hC3 hp
  obtain rfl := Option.some.inj e1
  unfold World.cell? at hx
  rw [e, hq] at hx
  simp only at hx
  split at hx
  · cases hx
  · exact hcs _ _ hx
theorem Rdr.put4 {w : World} {p q : Nat} {f : Bool} {a b : Int} {s u : ByteArray} (h : Rdr w p f) (hq : w.heap[q]? = some (.cells #[.int .i64 0, .int .i64 0, .string ⟨#[]⟩, .string ⟨#[]⟩] 152 (0, 0))) (hne : q ≠ p) :
    Rdr ((((w.setCell ⟨q, 0, none⟩ (.int .i64 a)).setCell ⟨q, 1, none⟩ (.int .i64 b)).setCell ⟨q, 2, none⟩ (.string s)).setCell ⟨q, 3, none⟩ (.string u)) p f := by
  have b1 := blk_set hq 0 (.int .i64 a)
  have b2 := blk_set b1 1 (.int .i64 b)
  have b3 := blk_set b2 2 (.string s)
  have n0 := nb90 (v0 := .int .i64 0) (v1 := .int .i64 0) (v2 := .string ⟨#[]⟩) (v3 := .string ⟨#[]⟩) (fun x e => by cases e) (fun x e => by cases e) (fun x e => by cases e) (fun x e => by cases e)
  have n1 := nb90 (v0 := .int .i64 a) (v1 := .int .i64 0) (v2 := .string ⟨#[]⟩) (v3 := .string ⟨#[]⟩) (fun x e => by cases e) (fun x e => by cases e) (fun x e => by cases e) (fun x e => by cases e)
  have n2 := nb90 (v0 := .int .i64 a) (v1 := .int .i64 b) (v2 := .string ⟨#[]⟩) (v3 := .string ⟨#[]⟩) (fun x e => by cases e) (fun x e => by cases e) (fun x e => by cases e) (fun x e => by cases e)
  have n3 := nb90 (v0 := .int .i64 a) (v1 := .int .i64 b) (v2 := .string s) (v3 := .string ⟨#[]⟩) (fun x e => by cases e) (fun x e => by cases e) (fun x e => by cases e) (fun x e => by cases e)
  exact (((h.put90 hq hne n0).put90 b1 hne n1).put90 b2 hne n2).put90 b3 hne n3
theorem below_of_grown {w w1 : World} {p : Nat} (h : w.grownBy w1 (some p)) (hp : w.heap.size ≤ p) : Below w.heap.size w w1 :=
  ⟨h.os, h.tape, h.output, h.size, fun k hk => h.block k hk (fun e => by injection e with e; omega)⟩
set_option maxHeartbeats 4000000 in
theorem Get23_any (xs : List Int) (A : Option Addr) (c : Nat) (W : World) (hC : (Kd.int .u8).C W A xs.length xs) (hc : xs.length ≤ c) (hx : xs.length ≤ 140737488351232) : Calls Tryz.prog 135 #[.slice A xs.length c] W (GotE W) := by
  have HCO := fun w (h : Below W.heap.size W w) => Lib.hid (copy_any xs A c w (Kd.C_below hC h) hc hx)
  clear hC
  go_enter Tryz.func135, Tryz.ntmps135
  go_wp2_with fail
  have hb1 : Below W.heap.size W (W.alloc (.cells #[.int .i64 0, .int .i64 0, .string ⟨#[]⟩, .string ⟨#[]⟩] 152 (0, 0))) := below_alloc (Below.refl _ _) _
  have hy1 := new_blk W (.cells #[.int .i64 0, .int .i64 0, .string ⟨#[]⟩, .string ⟨#[]⟩] 152 (0, 0))
  generalize W.alloc (.cells #[.int .i64 0, .int .i64 0, .string ⟨#[]⟩, .string ⟨#[]⟩] 152 (0, 0)) = W1 at *
  refine (HCO _ hb1).out.mono ?_
  rintro e w2 ⟨A', c', rfl, hl', hC', hb2⟩
  have hb12 := below_tr hb1 hb2
  have hy2 := (hb2.block W.heap.size (blk_lt hy1)).trans hy1
  have hp := blk_lt hy2
  have hb3 := below_alloc (Below.refl w2.heap.size w2) (.cells #[.slice A' xs.length c', .bool false] 195 (0, 0))
  have hr3 : Rdr (w2.alloc (.cells #[.slice A' xs.length c', .bool false] 195 (0, 0))) w2.heap.size false := ⟨A', xs, c', new_blk w2 _, Kd.C_below hC' hb3, hl', Kd.far_C 0 hC' (Nat.le_refl _), hx⟩
  have hy3 := (hb3.block W.heap.size hp).trans hy2
  have hb13 := below_tr hb12 hb3
  have HT := Lib.hid (take_any w2.heap.size 1 false _ hr3)
  have HY3 := Lib.hid hy3
  have HB13 := Lib.hid hb13
  have HP := Lib.hid hp
  clear hb1 hy1 hb2 hb12 hy2 hb3 hr3 hy3 hb13 hl' hC' hp HCO
  go_wp2_with fail
  refine HT.out.mono ?_
  rintro e w4 ⟨A4, c4, ys4, f4, rfl, hl4, hC4, hf4, hr4, hn4, hg4, hy4⟩
  have hne : W.heap.size ≠ w2.heap.size := Nat.ne_of_lt HP.out
  have hsz : (w2.alloc (.cells #[.slice A' xs.length c', .bool false] 195 (0, 0))).heap.size = w2.heap.size + 1 := by show (w2.heap.push _).size = _; rw [Array.size_push]
  have HY4 := Lib.hid ((hg4.block W.heap.size (by rw [hsz]; have := HP.out; omega) (fun e => hne (Option.some.inj e))).trans HY3.out)
  obtain ⟨vb, hb4⟩ := hr4.blk
  have HG4 := Lib.hid (show W.grownBy w4 (some w2.heap.size) from grown_tr (grown_below HB13.out) hg4)
  have HPS := Lib.hid (show w2.heap.size < w4.heap.size from blk_lt hb4)
  have HP2 := Lib.hid hsz
  generalize w2.heap.size = p at *
  clear hsz hg4
  have q1 : w4.cell? ⟨p, 1, none⟩ = some (.bool f4) := (blk_cell hb4 1).trans rfl
  cases f4
  · have hy : ys4.length = 1 := by have := hn4 rfl; omega
    obtain ⟨ad, x, rfl, hx0⟩ := u8_first hC4 (by omega)
    have hadp : ad.block ≠ p := by have := hf4 ad rfl (by omega); rw [HP2.out] at this; omega
    rw [hy]
    have HCNT := fun w' (h : w'.cell? ad = some (.int .u8 x) ∧ Aside0 (∃ f, Rdr w' p f) ∧ Aside0 (w4.grownBy w' (some p))) => Lib.hid (h.2.1.out.elim fun f hr => count_any_ p f 1099511627776 (by omega) w' hr)
    have HKEEP := Lib.hid (show ∀ w1 w2 : World, (w1.cell? ad = some (.int .u8 x) ∧ Aside0 (∃ f, Rdr w1 p f) ∧ Aside0 (w4.grownBy w1 (some p))) → (∃ f, Rdr w2 p f) → w1.grownBy w2 (some p) → (w2.cell? ad = some (.int .u8 x) ∧ Aside0 (∃ f, Rdr w2 p f) ∧ Aside0 (w4.grownBy w2 (some p))) from
      fun w1 w2 h hr hg => ⟨keep_cell (keep_grown hg) h.1 hadp, ⟨hr⟩, ⟨grown_tr h.2.2.out hg⟩⟩)
    have HS0 := Lib.hid (show (w4.drew.cell? ad = some (.int .u8 x) ∧ Aside0 (∃ f, Rdr w4.drew p f) ∧ Aside0 (w4.grownBy w4.drew (some p))) from ⟨hx0, ⟨⟨false, hr4⟩⟩, ⟨⟨rfl, rfl, rfl, Nat.le_refl _, fun _ _ _ => rfl⟩⟩⟩)
    have HKALL := Lib.hid (show ∀ (w1 : World) (o : Obj), (w1.cell? ad = some (.int .u8 x) ∧ Aside0 (∃ f, Rdr w1 p f) ∧ Aside0 (w4.grownBy w1 (some p))) → ((w1.alloc o).cell? ad = some (.int .u8 x) ∧ Aside0 (∃ f, Rdr (w1.alloc o) p f) ∧ Aside0 (w4.grownBy (w1.alloc o) (some p))) from fun w1 o h => ⟨keep_cell (keep_grown (grown_below (below_alloc (Below.refl _ _) o))) h.1 hadp, ⟨h.2.1.out.elim fun f hr => ⟨f, hr.below (below_alloc (Below.refl _ _) o)⟩⟩, ⟨grown_tr h.2.2.out (grown_below (below_alloc (Below.refl _ _) o))⟩⟩)
    clear hC4 hf4 hn4 hr4 hl4
    have hne' : W.heap.size ≠ p := hne
    have hpn : p ≠ w4.heap.size := Nat.ne_of_lt HPS.out
    have HSTW := Lib.hid (show ∀ (w5 : World) (v : Int), (w4.alloc (.cells #[.int .i64 0, .int .i64 0, .string ⟨#[]⟩, .string ⟨#[]⟩] 152 (0, 0))).drew.grownBy w5 (some p) → (w5).cell? ⟨w4.heap.size, 0, none⟩ = some (.int .i64 0) ∧ (w5).frozen? ⟨w4.heap.size, 0, none⟩ = false ∧ ((w5).setCell ⟨w4.heap.size, 0, none⟩ (.int .i64 (IntKind.i64.wrap x))).cell? ⟨w4.heap.size, 1, none⟩ = some (.int .i64 0) ∧ ((w5).setCell ⟨w4.heap.size, 0, none⟩ (.int .i64 (IntKind.i64.wrap x))).frozen? ⟨w4.heap.size, 1, none⟩ = false ∧ (((w5).setCell ⟨w4.heap.size, 0, none⟩ (.int .i64 (IntKind.i64.wrap x))).setCell ⟨w4.heap.size, 1, none⟩ (.int .i64 v)).cell? ⟨w4.heap.size, 2, none⟩ = some (.string ⟨#[]⟩) ∧ (((w5).setCell ⟨w4.heap.size, 0, none⟩ (.int .i64 (IntKind.i64.wrap x))).setCell ⟨w4.heap.size, 1, none⟩ (.int .i64 v)).frozen? ⟨w4.heap.size, 2, none⟩ = false ∧ ((((w5).setCell ⟨w4.heap.size, 0, none⟩ (.int .i64 (IntKind.i64.wrap x))).setCell ⟨w4.heap.size, 1, none⟩ (.int .i64 v)).setCell ⟨w4.heap.size, 2, none⟩ (.string ⟨#[]⟩)).cell? ⟨w4.heap.size, 3, none⟩ = some (.string ⟨#[]⟩) ∧ ((((w5).setCell ⟨w4.heap.size, 0, none⟩ (.int .i64 (IntKind.i64.wrap x))).setCell ⟨w4.heap.size, 1, none⟩ (.int .i64 v)).setCell ⟨w4.heap.size, 2, none⟩ (.string ⟨#[]⟩)).frozen? ⟨w4.heap.size, 3, none⟩ = false ∧ (((((w5).setCell ⟨w4.heap.size, 0, none⟩ (.int .i64 (IntKind.i64.wrap x))).setCell ⟨w4.heap.size, 1, none⟩ (.int .i64 v)).setCell ⟨w4.heap.size, 2, none⟩ (.string ⟨#[]⟩)).setCell ⟨w4.heap.size, 3, none⟩ (.string ⟨#[]⟩)).heap[w4.heap.size]? = some (.cells #[.int .i64 (IntKind.i64.wrap x), .int .i64 v, .string ⟨#[]⟩, .string ⟨#[]⟩] 152 (0, 0)) from fun w5 v hg => store90_facts _ _ _ _ ((hg.block w4.heap.size (by show w4.heap.size < (w4.heap.push _).size; rw [Array.size_push]; omega) (fun e => hpn (Option.some.inj e).symm)).trans (new_blk w4 (.cells #[.int .i64 0, .int .i64 0, .string ⟨#[]⟩, .string ⟨#[]⟩] 152 (0, 0)))))
    have HS1 := Lib.hid (show ((w4.alloc (.cells #[.int .i64 0, .int .i64 0, .string ⟨#[]⟩, .string ⟨#[]⟩] 152 (0, 0))).drew.cell? ad = some (.int .u8 x) ∧ Aside0 (∃ f, Rdr (w4.alloc (.cells #[.int .i64 0, .int .i64 0, .string ⟨#[]⟩, .string ⟨#[]⟩] 152 (0, 0))).drew p f) ∧ Aside0 (w4.grownBy (w4.alloc (.cells #[.int .i64 0, .int .i64 0, .string ⟨#[]⟩, .string ⟨#[]⟩] 152 (0, 0))).drew (some p))) from HKALL.out w4.drew (.cells #[.int .i64 0, .int .i64 0, .string ⟨#[]⟩, .string ⟨#[]⟩] 152 (0, 0)) HS0.out)
    have hadq : ad.block ≠ w4.heap.size := Nat.ne_of_lt (World.block_lt_of_cell? w4 ad hx0)
    have HSET := Lib.hid (show ∀ (w5 : World) (v : Int), (w5.cell? ad = some (.int .u8 x) ∧ Aside0 (∃ f, Rdr w5 p f) ∧ Aside0 (w4.grownBy w5 (some p))) → (w4.alloc (.cells #[.int .i64 0, .int .i64 0, .string ⟨#[]⟩, .string ⟨#[]⟩] 152 (0, 0))).drew.grownBy w5 (some p) → (((((w5.setCell ⟨w4.heap.size, 0, none⟩ (.int .i64 (IntKind.i64.wrap x))).setCell ⟨w4.heap.size, 1, none⟩ (.int .i64 v)).setCell ⟨w4.heap.size, 2, none⟩ (.string ⟨#[]⟩)).setCell ⟨w4.heap.size, 3, none⟩ (.string ⟨#[]⟩)).cell? ad = some (.int .u8 x) ∧ Aside0 (∃ f, Rdr ((((w5.setCell ⟨w4.heap.size, 0, none⟩ (.int .i64 (IntKind.i64.wrap x))).setCell ⟨w4.heap.size, 1, none⟩ (.int .i64 v)).setCell ⟨w4.heap.size, 2, none⟩ (.string ⟨#[]⟩)).setCell ⟨w4.heap.size, 3, none⟩ (.string ⟨#[]⟩)) p f) ∧ Aside0 (w4.grownBy ((((w5.setCell ⟨w4.heap.size, 0, none⟩ (.int .i64 (IntKind.i64.wrap x))).setCell ⟨w4.heap.size, 1, none⟩ (.int .i64 v)).setCell ⟨w4.heap.size, 2, none⟩ (.string ⟨#[]⟩)).setCell ⟨w4.heap.size, 3, none⟩ (.string ⟨#[]⟩)) (some p))) from fun w5 v h hg => by
      have hq := (hg.block w4.heap.size (by show w4.heap.size < (w4.heap.push _).size; rw [Array.size_push]; omega) (fun e => hpn (Option.some.inj e).symm)).trans (new_blk w4 (.cells #[.int .i64 0, .int .i64 0, .string ⟨#[]⟩, .string ⟨#[]⟩] 152 (0, 0)))
      refine ⟨?_, ⟨h.2.1.out.elim fun f hr => ⟨f, hr.put4 hq (fun e => hpn e.symm)⟩⟩, ⟨grown_set_far (grown_set_far (grown_set_far (grown_set_far h.2.2.out (Nat.le_refl _)) (Nat.le_refl _)) (Nat.le_refl _)) (Nat.le_refl _)⟩⟩
      exact keep_cell (keep_grown (grown_set _ _ _ _)) (keep_cell (keep_grown (grown_set _ _ _ _)) (keep_cell (keep_grown (grown_set _ _ _ _)) (keep_cell (keep_grown (grown_set _ _ _ _)) h.1 hadq) hadq) hadq) hadq)
    go_wp2_with fail
    go_region_held3 (fun w' => w'.cell? ad = some (.int .u8 x) ∧ Aside0 (∃ f, Rdr w' p f) ∧ Aside0 (w4.grownBy w' (some p))) (first | assumption | with_reducible exact HS0.out | with_reducible exact HS1.out | with_reducible exact HKALL.out _ _ HS0.out | with_reducible exact HKALL.out _ _ HS5.out | with_reducible exact HS6.out | with_reducible exact HKEEP.out _ _ (by assumption) ⟨_, hr5⟩ hg5) (first | (go_at_call 150; refine (HCNT _ (by assumption)).out.mono ?_; rintro e w5 ⟨v, f5, rfl, h1, h2, hr5, hg5⟩; have HS5 := Lib.hid (HKEEP.out _ _ (by assumption) ⟨_, hr5⟩ hg5); try (obtain ⟨u0, uf0, u1, uf1, u2, uf2, u3, uf3, uE⟩ := HSTW.out w5 v (by with_reducible exact hg5); have HUE := Lib.hid uE; have HS6 := Lib.hid (HSET.out w5 v HS5.out (by with_reducible exact hg5)); clear uE)))
    · have hr6_ := Lib.hid (HKALL.out _ (.cells #[.int .i64 (IntKind.i64.wrap x), .int .i64 v, .string ⟨#[]⟩, .string ⟨#[]⟩] 152 (0, 0)) HS5.out).2.1.out
      have HG6 := Lib.hid (show W.grownBy (w5.alloc (.cells #[.int .i64 (IntKind.i64.wrap x), .int .i64 v, .string ⟨#[]⟩, .string ⟨#[]⟩] 152 (0, 0))) (some p) from grown_tr HG4.out (HKALL.out _ (.cells #[.int .i64 (IntKind.i64.wrap x), .int .i64 v, .string ⟨#[]⟩, .string ⟨#[]⟩] 152 (0, 0)) HS5.out).2.2.out)
      have HQ6 := Lib.hid (show (w5.alloc (.cells #[.int .i64 (IntKind.i64.wrap x), .int .i64 v, .string ⟨#[]⟩, .string ⟨#[]⟩] 152 (0, 0))).heap[w5.heap.size]? = some (.cells #[.int .i64 (IntKind.i64.wrap x), .int .i64 v, .string ⟨#[]⟩, .string ⟨#[]⟩] 152 (0, 0)) from new_blk w5 _)
      have HY6 := Lib.hid (show (w5.alloc (.cells #[.int .i64 (IntKind.i64.wrap x), .int .i64 v, .string ⟨#[]⟩, .string ⟨#[]⟩] 152 (0, 0))).heap[W.heap.size]? = some (.cells #[.int .i64 0, .int .i64 0, .string ⟨#[]⟩, .string ⟨#[]⟩] 152 (0, 0)) from (((HKALL.out _ (.cells #[.int .i64 (IntKind.i64.wrap x), .int .i64 v, .string ⟨#[]⟩, .string ⟨#[]⟩] 152 (0, 0)) HS5.out).2.2.out).block W.heap.size (blk_lt HY4.out) (fun e => hne' (Option.some.inj e))).trans HY4.out)
      have hqb : w5.heap.size ≠ W.heap.size := fun e => by have h1 := HS5.out.2.2.out.size; have h2 := blk_lt HY4.out; omega
      have hqW : W.heap.size ≤ w5.heap.size := by have h1 := HS5.out.2.2.out.size; have h2 := blk_lt HY4.out; omega
      have hqp : w5.heap.size ≠ p := fun e => by have h1 := HS5.out.2.2.out.size; have h2 := HPS.out; omega
      have hbp : W.heap.size ≠ p := hne'
      obtain ⟨f6, hr6⟩ := hr6_.out
      generalize w5.alloc (.cells #[.int .i64 (IntKind.i64.wrap x), .int .i64 v, .string ⟨#[]⟩, .string ⟨#[]⟩] 152 (0, 0)) = W6 at *
      generalize w5.heap.size = q at *
      generalize IntKind.i64.wrap x = a at *
      have HT6 := Lib.hid (text_any_ p f6 16 (by omega) W6 hr6)
      clear hr6
      go_wp2_with fail
      refine HT6.out.mono ?_
      rintro e w7 ⟨A7, c7, ys7, f7, rfl, hl7, hC7, hr7, hg7, hy7⟩
      have hcv := Kd.C_string (P := Tryz.prog) (dst := 9) (c := c7) Tryz.underlying82 Tryz.underlying5 Tryz.underlying9 hC7
      have hz7 : (strOfNums ys7).size ≤ 140737488351232 := by rw [strOfNums_size]; exact hy7
      have hq7 := (hg7.block q (blk_lt HQ6.out) (fun e => hqp (Option.some.inj e))).trans HQ6.out
      have g7 : w7.cell? ⟨q, 2, none⟩ = some (.string ⟨#[]⟩) := (blk_cell hq7 2).trans rfl
      have gf7 := blk_frozen hq7 2
      have HQ8 := Lib.hid (show (w7.setCell ⟨q, 2, none⟩ (.string (strOfNums ys7))).heap[q]? = some (.cells #[.int .i64 a, .int .i64 v, .string (strOfNums ys7), .string ⟨#[]⟩] 152 (0, 0)) from blk_set hq7 2 _)
      have HR8 := Lib.hid (hr7.put90 (j := 2) (v := .string (strOfNums ys7)) hq7 hqp (nb90 (v0 := .int .i64 a) (v1 := .int .i64 v) (v2 := .string ⟨#[]⟩) (v3 := .string ⟨#[]⟩) (fun x e => by cases e) (fun x e => by cases e) (fun x e => by cases e) (fun x e => by cases e)))
      have HY8 := Lib.hid (show (w7.setCell ⟨q, 2, none⟩ (.string (strOfNums ys7))).heap[W.heap.size]? = some (.cells #[.int .i64 0, .int .i64 0, .string ⟨#[]⟩, .string ⟨#[]⟩] 152 (0, 0)) from (Below.heap_setCell w7 ⟨q, 2, none⟩ _ W.heap.size (fun e => hqb e.symm)).trans ((hg7.block W.heap.size (blk_lt HY6.out) (fun e => hbp (Option.some.inj e))).trans HY6.out))
      have HW8 := Lib.hid (show W.grownBy (w7.setCell ⟨q, 2, none⟩ (.string (strOfNums ys7))) (some p) from grown_set_far (grown_tr HG6.out hg7) hqW)
      generalize strOfNums ys7 = s7 at *
      clear hC7 hr7 hg7 hq7 hl7
      have HT8 := Lib.hid (text_any_ p f7 16 (by omega) _ HR8.out)
      go_wp2_with fail
      refine HT8.out.mono ?_
      rintro e w9 ⟨A9, c9, ys9, f9, rfl, hl9, hC9, hr9, hg9, hy9⟩
      have hcv9 := Kd.C_string (P := Tryz.prog) (dst := 9) (c := c9) Tryz.underlying82 Tryz.underlying5 Tryz.underlying9 hC9
      have hz9 : (strOfNums ys9).size ≤ 140737488351232 := by rw [strOfNums_size]; exact hy9
      have hq9 := (hg9.block q (blk_lt HQ8.out) (fun e => hqp (Option.some.inj e))).trans HQ8.out
      have g9 : w9.cell? ⟨q, 3, none⟩ = some (.string ⟨#[]⟩) := (blk_cell hq9 3).trans rfl
      have gf9 := blk_frozen hq9 3
      have HQ10 := Lib.hid (show (w9.setCell ⟨q, 3, none⟩ (.string (strOfNums ys9))).heap[q]? = some (.cells #[.int .i64 a, .int .i64 v, .string s7, .string (strOfNums ys9)] 152 (0, 0)) from blk_set hq9 3 _)
      have HR10 := Lib.hid (hr9.put90 (j := 3) (v := .string (strOfNums ys9)) hq9 hqp (nb90 (v0 := .int .i64 a) (v1 := .int .i64 v) (v2 := .string s7) (v3 := .string ⟨#[]⟩) (fun x e => by cases e) (fun x e => by cases e) (fun x e => by cases e) (fun x e => by cases e)))
      have HY10 := Lib.hid (show (w9.setCell ⟨q, 3, none⟩ (.string (strOfNums ys9))).heap[W.heap.size]? = some (.cells #[.int .i64 0, .int .i64 0, .string ⟨#[]⟩, .string ⟨#[]⟩] 152 (0, 0)) from (Below.heap_setCell w9 ⟨q, 3, none⟩ _ W.heap.size (fun e => hqb e.symm)).trans ((hg9.block W.heap.size (blk_lt HY8.out) (fun e => hbp (Option.some.inj e))).trans HY8.out))
      have HW10 := Lib.hid (show W.grownBy (w9.setCell ⟨q, 3, none⟩ (.string (strOfNums ys9))) (some p) from grown_set_far (grown_tr HW8.out hg9) hqW)
      generalize strOfNums ys9 = s9 at *
      clear hC9 hr9 hg9 hq9 hl9
      obtain ⟨A10, xs10, c10, hb10, hC10, hc10, _, _⟩ := HR10.out
      have p0 : (w9.setCell ⟨q, 3, none⟩ (.string s9)).cell? ⟨p, 0, none⟩ = some (.slice A10 xs10.length c10) := (blk_cell hb10 0).trans rfl
      have p1 : (w9.setCell ⟨q, 3, none⟩ (.string s9)).cell? ⟨p, 1, none⟩ = some (.bool f9) := (blk_cell hb10 1).trans rfl
      have t0 : (w9.setCell ⟨q, 3, none⟩ (.string s9)).cell? ⟨q, 0, none⟩ = some (.int .i64 a) := (blk_cell HQ10.out 0).trans rfl
      have t1 : (w9.setCell ⟨q, 3, none⟩ (.string s9)).cell? ⟨q, 1, none⟩ = some (.int .i64 v) := (blk_cell HQ10.out 1).trans rfl
      have t2 : (w9.setCell ⟨q, 3, none⟩ (.string s9)).cell? ⟨q, 2, none⟩ = some (.string s7) := (blk_cell HQ10.out 2).trans rfl
      have t3 : (w9.setCell ⟨q, 3, none⟩ (.string s9)).cell? ⟨q, 3, none⟩ = some (.string s9) := (blk_cell HQ10.out 3).trans rfl
      clear hb10 hC10 hc10
      have HBW := Lib.hid (show Below W.heap.size W (w9.setCell ⟨q, 3, none⟩ (.string s9)) from below_of_grown HW10.out (Nat.le_of_lt HP.out))
      cases f9
      rotate_left
      · skip
        have k0 : (w9.setCell ⟨q, 3, none⟩ (.string s9)).cell? ⟨W.heap.size, 0, none⟩ = some (.int .i64 0) := (blk_cell HY10.out 0).trans rfl
        have kf0 := blk_frozen HY10.out 0
        have kb0 := Lib.hid (blk_set HY10.out 0 (.int .i64 0))
        have k1 : ((w9.setCell ⟨q, 3, none⟩ (.string s9)).setCell ⟨W.heap.size, 0, none⟩ (.int .i64 0)).cell? ⟨W.heap.size, 1, none⟩ = some (.int .i64 0) := (blk_cell kb0.out 1).trans rfl
        have kf1 := blk_frozen kb0.out 1
        have kb1 := Lib.hid (blk_set kb0.out 1 (.int .i64 0))
        have k2 : (((w9.setCell ⟨q, 3, none⟩ (.string s9)).setCell ⟨W.heap.size, 0, none⟩ (.int .i64 0)).setCell ⟨W.heap.size, 1, none⟩ (.int .i64 0)).cell? ⟨W.heap.size, 2, none⟩ = some (.string ⟨#[]⟩) := (blk_cell kb1.out 2).trans rfl
        have kf2 := blk_frozen kb1.out 2
        have kb2 := Lib.hid (blk_set kb1.out 2 (.string ⟨#[]⟩))
        have k3 : ((((w9.setCell ⟨q, 3, none⟩ (.string s9)).setCell ⟨W.heap.size, 0, none⟩ (.int .i64 0)).setCell ⟨W.heap.size, 1, none⟩ (.int .i64 0)).setCell ⟨W.heap.size, 2, none⟩ (.string ⟨#[]⟩)).cell? ⟨W.heap.size, 3, none⟩ = some (.string ⟨#[]⟩) := (blk_cell kb2.out 3).trans rfl
        have kf3 := blk_frozen kb2.out 3
        have kb3 := Lib.hid (blk_set kb2.out 3 (.string ⟨#[]⟩))
        go_wp2
        refine bodyPost_ret (results4_tmp (p := 2) (u := 3) (by kernel_rfl) _ _ W.heap.size _ rfl kb3.out rfl) rfl ?_
        exact ⟨0, 0, 2, ⟨#[]⟩, ⟨#[]⟩, rfl, Nat.zero_le _, Nat.zero_le _, (below_set (j := 3) (v := .string ⟨#[]⟩) (below_set (j := 2) (v := .string ⟨#[]⟩) (below_set (j := 1) (v := .int .i64 0) (below_set (j := 0) (v := .int .i64 0) HBW.out (Nat.le_refl _)) (Nat.le_refl _)) (Nat.le_refl _)) (Nat.le_refl _))⟩
      by_cases hl0' : 0 < xs10.length
      · have hl0 : (0 : Int) < (xs10.length : Int) := by omega
        have k0 : (w9.setCell ⟨q, 3, none⟩ (.string s9)).cell? ⟨W.heap.size, 0, none⟩ = some (.int .i64 0) := (blk_cell HY10.out 0).trans rfl
        have kf0 := blk_frozen HY10.out 0
        have kb0 := Lib.hid (blk_set HY10.out 0 (.int .i64 0))
        have k1 : ((w9.setCell ⟨q, 3, none⟩ (.string s9)).setCell ⟨W.heap.size, 0, none⟩ (.int .i64 0)).cell? ⟨W.heap.size, 1, none⟩ = some (.int .i64 0) := (blk_cell kb0.out 1).trans rfl
        have kf1 := blk_frozen kb0.out 1
        have kb1 := Lib.hid (blk_set kb0.out 1 (.int .i64 0))
        have k2 : (((w9.setCell ⟨q, 3, none⟩ (.string s9)).setCell ⟨W.heap.size, 0, none⟩ (.int .i64 0)).setCell ⟨W.heap.size, 1, none⟩ (.int .i64 0)).cell? ⟨W.heap.size, 2, none⟩ = some (.string ⟨#[]⟩) := (blk_cell kb1.out 2).trans rfl
        have kf2 := blk_frozen kb1.out 2
        have kb2 := Lib.hid (blk_set kb1.out 2 (.string ⟨#[]⟩))
        have k3 : ((((w9.setCell ⟨q, 3, none⟩ (.string s9)).setCell ⟨W.heap.size, 0, none⟩ (.int .i64 0)).setCell ⟨W.heap.size, 1, none⟩ (.int .i64 0)).setCell ⟨W.heap.size, 2, none⟩ (.string ⟨#[]⟩)).cell? ⟨W.heap.size, 3, none⟩ = some (.string ⟨#[]⟩) := (blk_cell kb2.out 3).trans rfl
        have kf3 := blk_frozen kb2.out 3
        have kb3 := Lib.hid (blk_set kb2.out 3 (.string ⟨#[]⟩))
        go_wp2
        refine bodyPost_ret (results4_tmp (p := 2) (u := 3) (by kernel_rfl) _ _ W.heap.size _ rfl kb3.out rfl) rfl ?_
        exact ⟨0, 0, 2, ⟨#[]⟩, ⟨#[]⟩, rfl, Nat.zero_le _, Nat.zero_le _, (below_set (j := 3) (v := .string ⟨#[]⟩) (below_set (j := 2) (v := .string ⟨#[]⟩) (below_set (j := 1) (v := .int .i64 0) (below_set (j := 0) (v := .int .i64 0) HBW.out (Nat.le_refl _)) (Nat.le_refl _)) (Nat.le_refl _)) (Nat.le_refl _))⟩
      · have hl0 : ¬ (0 : Int) < (xs10.length : Int) := by omega
        have HM := Lib.hid (May23_any a v s7 s9 hz7 hz9 (w9.setCell ⟨q, 3, none⟩ (.string s9)))
        go_wp2_with fail
        refine HM.out.mono ?_
        rintro e w11 ⟨b, rfl, hb⟩
        have HY11 := Lib.hid ((hb.block W.heap.size (blk_lt HY10.out)).trans HY10.out)
        have HQ11 := Lib.hid ((hb.block q (blk_lt HQ10.out)).trans HQ10.out)
        have HBW11 := Lib.hid (below_tr HBW.out hb)
        clear hb p0 p1 t0 t1 t2 t3
        have t0 : w11.cell? ⟨q, 0, none⟩ = some (.int .i64 a) := (blk_cell HQ11.out 0).trans rfl
        have t1 : w11.cell? ⟨q, 1, none⟩ = some (.int .i64 v) := (blk_cell HQ11.out 1).trans rfl
        have t2 : w11.cell? ⟨q, 2, none⟩ = some (.string s7) := (blk_cell HQ11.out 2).trans rfl
        have t3 : w11.cell? ⟨q, 3, none⟩ = some (.string s9) := (blk_cell HQ11.out 3).trans rfl
        cases b
        · skip
          have k0 : (w11).cell? ⟨W.heap.size, 0, none⟩ = some (.int .i64 0) := (blk_cell HY11.out 0).trans rfl
          have kf0 := blk_frozen HY11.out 0
          have kb0 := Lib.hid (blk_set HY11.out 0 (.int .i64 0))
          have k1 : ((w11).setCell ⟨W.heap.size, 0, none⟩ (.int .i64 0)).cell? ⟨W.heap.size, 1, none⟩ = some (.int .i64 0) := (blk_cell kb0.out 1).trans rfl
          have kf1 := blk_frozen kb0.out 1
          have kb1 := Lib.hid (blk_set kb0.out 1 (.int .i64 0))
          have k2 : (((w11).setCell ⟨W.heap.size, 0, none⟩ (.int .i64 0)).setCell ⟨W.heap.size, 1, none⟩ (.int .i64 0)).cell? ⟨W.heap.size, 2, none⟩ = some (.string ⟨#[]⟩) := (blk_cell kb1.out 2).trans rfl
          have kf2 := blk_frozen kb1.out 2
          have kb2 := Lib.hid (blk_set kb1.out 2 (.string ⟨#[]⟩))
          have k3 : ((((w11).setCell ⟨W.heap.size, 0, none⟩ (.int .i64 0)).setCell ⟨W.heap.size, 1, none⟩ (.int .i64 0)).setCell ⟨W.heap.size, 2, none⟩ (.string ⟨#[]⟩)).cell? ⟨W.heap.size, 3, none⟩ = some (.string ⟨#[]⟩) := (blk_cell kb2.out 3).trans rfl
          have kf3 := blk_frozen kb2.out 3
          have kb3 := Lib.hid (blk_set kb2.out 3 (.string ⟨#[]⟩))
          go_wp2
          refine bodyPost_ret (results4_tmp (p := 2) (u := 3) (by kernel_rfl) _ _ W.heap.size _ rfl kb3.out rfl) rfl ?_
          exact ⟨0, 0, 2, ⟨#[]⟩, ⟨#[]⟩, rfl, Nat.zero_le _, Nat.zero_le _, (below_set (j := 3) (v := .string ⟨#[]⟩) (below_set (j := 2) (v := .string ⟨#[]⟩) (below_set (j := 1) (v := .int .i64 0) (below_set (j := 0) (v := .int .i64 0) HBW11.out (Nat.le_refl _)) (Nat.le_refl _)) (Nat.le_refl _)) (Nat.le_refl _))⟩
        · skip
          have k0 : (w11).cell? ⟨W.heap.size, 0, none⟩ = some (.int .i64 0) := (blk_cell HY11.out 0).trans rfl
          have kf0 := blk_frozen HY11.out 0
          have kb0 := Lib.hid (blk_set HY11.out 0 (.int .i64 a))
          have k1 : ((w11).setCell ⟨W.heap.size, 0, none⟩ (.int .i64 a)).cell? ⟨W.heap.size, 1, none⟩ = some (.int .i64 0) := (blk_cell kb0.out 1).trans rfl
          have kf1 := blk_frozen kb0.out 1
          have kb1 := Lib.hid (blk_set kb0.out 1 (.int .i64 v))
          have k2 : (((w11).setCell ⟨W.heap.size, 0, none⟩ (.int .i64 a)).setCell ⟨W.heap.size, 1, none⟩ (.int .i64 v)).cell? ⟨W.heap.size, 2, none⟩ = some (.string ⟨#[]⟩) := (blk_cell kb1.out 2).trans rfl
          have kf2 := blk_frozen kb1.out 2
          have kb2 := Lib.hid (blk_set kb1.out 2 (.string s7))
          have k3 : ((((w11).setCell ⟨W.heap.size, 0, none⟩ (.int .i64 a)).setCell ⟨W.heap.size, 1, none⟩ (.int .i64 v)).setCell ⟨W.heap.size, 2, none⟩ (.string s7)).cell? ⟨W.heap.size, 3, none⟩ = some (.string ⟨#[]⟩) := (blk_cell kb2.out 3).trans rfl
          have kf3 := blk_frozen kb2.out 3
          have kb3 := Lib.hid (blk_set kb2.out 3 (.string s9))
          go_wp2
          refine bodyPost_ret (results4_tmp (p := 2) (u := 3) (by kernel_rfl) _ _ W.heap.size _ rfl kb3.out rfl) rfl ?_
          exact ⟨a, v, 0, s7, s9, rfl, hz7, hz9, (below_set (j := 3) (v := .string s9) (below_set (j := 2) (v := .string s7) (below_set (j := 1) (v := .int .i64 v) (below_set (j := 0) (v := .int .i64 a) HBW11.out (Nat.le_refl _)) (Nat.le_refl _)) (Nat.le_refl _)) (Nat.le_refl _))⟩
    · have hr6_ := Lib.hid (HS6.out).2.1.out
      have HG6 := Lib.hid (show W.grownBy (((((w5.setCell ⟨w4.heap.size, 0, none⟩ (.int .i64 (IntKind.i64.wrap x))).setCell ⟨w4.heap.size, 1, none⟩ (.int .i64 v)).setCell ⟨w4.heap.size, 2, none⟩ (.string ⟨#[]⟩)).setCell ⟨w4.heap.size, 3, none⟩ (.string ⟨#[]⟩))) (some p) from grown_tr HG4.out (HS6.out).2.2.out)
      have HQ6 := Lib.hid (show (((((w5.setCell ⟨w4.heap.size, 0, none⟩ (.int .i64 (IntKind.i64.wrap x))).setCell ⟨w4.heap.size, 1, none⟩ (.int .i64 v)).setCell ⟨w4.heap.size, 2, none⟩ (.string ⟨#[]⟩)).setCell ⟨w4.heap.size, 3, none⟩ (.string ⟨#[]⟩))).heap[w4.heap.size]? = some (.cells #[.int .i64 (IntKind.i64.wrap x), .int .i64 v, .string ⟨#[]⟩, .string ⟨#[]⟩] 152 (0, 0)) from HUE.out)
      have HY6 := Lib.hid (show (((((w5.setCell ⟨w4.heap.size, 0, none⟩ (.int .i64 (IntKind.i64.wrap x))).setCell ⟨w4.heap.size, 1, none⟩ (.int .i64 v)).setCell ⟨w4.heap.size, 2, none⟩ (.string ⟨#[]⟩)).setCell ⟨w4.heap.size, 3, none⟩ (.string ⟨#[]⟩))).heap[W.heap.size]? = some (.cells #[.int .i64 0, .int .i64 0, .string ⟨#[]⟩, .string ⟨#[]⟩] 152 (0, 0)) from (((HS6.out).2.2.out).block W.heap.size (blk_lt HY4.out) (fun e => hne' (Option.some.inj e))).trans HY4.out)
      have hqb : w4.heap.size ≠ W.heap.size := fun e => by have h2 := blk_lt HY4.out; omega
      have hqW : W.heap.size ≤ w4.heap.size := by have h2 := blk_lt HY4.out; omega
      have hqp : w4.heap.size ≠ p := fun e => by have h2 := HPS.out; omega
      have hbp : W.heap.size ≠ p := hne'
      obtain ⟨f6, hr6⟩ := hr6_.out
      generalize ((((w5.setCell ⟨w4.heap.size, 0, none⟩ (.int .i64 (IntKind.i64.wrap x))).setCell ⟨w4.heap.size, 1, none⟩ (.int .i64 v)).setCell ⟨w4.heap.size, 2, none⟩ (.string ⟨#[]⟩)).setCell ⟨w4.heap.size, 3, none⟩ (.string ⟨#[]⟩)) = W6 at *
      generalize w4.heap.size = q at *
      generalize IntKind.i64.wrap x = a at *
      have HT6 := Lib.hid (text_any_ p f6 16 (by omega) W6 hr6)
      clear hr6
      go_wp2_with fail
      refine HT6.out.mono ?_
      rintro e w7 ⟨A7, c7, ys7, f7, rfl, hl7, hC7, hr7, hg7, hy7⟩
      have hcv := Kd.C_string (P := Tryz.prog) (dst := 9) (c := c7) Tryz.underlying82 Tryz.underlying5 Tryz.underlying9 hC7
      have hz7 : (strOfNums ys7).size ≤ 140737488351232 := by rw [strOfNums_size]; exact hy7
      have hq7 := (hg7.block q (blk_lt HQ6.out) (fun e => hqp (Option.some.inj e))).trans HQ6.out
      have g7 : w7.cell? ⟨q, 2, none⟩ = some (.string ⟨#[]⟩) := (blk_cell hq7 2).trans rfl
      have gf7 := blk_frozen hq7 2
      have HQ8 := Lib.hid (show (w7.setCell ⟨q, 2, none⟩ (.string (strOfNums ys7))).heap[q]? = some (.cells #[.int .i64 a, .int .i64 v, .string (strOfNums ys7), .string ⟨#[]⟩] 152 (0, 0)) from blk_set hq7 2 _)
      have HR8 := Lib.hid (hr7.put90 (j := 2) (v := .string (strOfNums ys7)) hq7 hqp (nb90 (v0 := .int .i64 a) (v1 := .int .i64 v) (v2 := .string ⟨#[]⟩) (v3 := .string ⟨#[]⟩) (fun x e => by cases e) (fun x e => by cases e) (fun x e => by cases e) (fun x e => by cases e)))
      have HY8 := Lib.hid (show (w7.setCell ⟨q, 2, none⟩ (.string (strOfNums ys7))).heap[W.heap.size]? = some (.cells #[.int .i64 0, .int .i64 0, .string ⟨#[]⟩, .string ⟨#[]⟩] 152 (0, 0)) from (Below.heap_setCell w7 ⟨q, 2, none⟩ _ W.heap.size (fun e => hqb e.symm)).trans ((hg7.block W.heap.size (blk_lt HY6.out) (fun e => hbp (Option.some.inj e))).trans HY6.out))
      have HW8 := Lib.hid (show W.grownBy (w7.setCell ⟨q, 2, none⟩ (.string (strOfNums ys7))) (some p) from grown_set_far (grown_tr HG6.out hg7) hqW)
      generalize strOfNums ys7 = s7 at *
      clear hC7 hr7 hg7 hq7 hl7
      have HT8 := Lib.hid (text_any_ p f7 16 (by omega) _ HR8.out)
      go_wp2_with fail
      refine HT8.out.mono ?_
      rintro e w9 ⟨A9, c9, ys9, f9, rfl, hl9, hC9, hr9, hg9, hy9⟩
      have hcv9 := Kd.C_string (P := Tryz.prog) (dst := 9) (c := c9) Tryz.underlying82 Tryz.underlying5 Tryz.underlying9 hC9
      have hz9 : (strOfNums ys9).size ≤ 140737488351232 := by rw [strOfNums_size]; exact hy9
      have hq9 := (hg9.block q (blk_lt HQ8.out) (fun e => hqp (Option.some.inj e))).trans HQ8.out
      have g9 : w9.cell? ⟨q, 3, none⟩ = some (.string ⟨#[]⟩) := (blk_cell hq9 3).trans rfl
      have gf9 := blk_frozen hq9 3
      have HQ10 := Lib.hid (show (w9.setCell ⟨q, 3, none⟩ (.string (strOfNums ys9))).heap[q]? = some (.cells #[.int .i64 a, .int .i64 v, .string s7, .string (strOfNums ys9)] 152 (0, 0)) from blk_set hq9 3 _)
      have HR10 := Lib.hid (hr9.put90 (j := 3) (v := .string (strOfNums ys9)) hq9 hqp (nb90 (v0 := .int .i64 a) (v1 := .int .i64 v) (v2 := .string s7) (v3 := .string ⟨#[]⟩) (fun x e => by cases e) (fun x e => by cases e) (fun x e => by cases e) (fun x e => by cases e)))
      have HY10 := Lib.hid (show (w9.setCell ⟨q, 3, none⟩ (.string (strOfNums ys9))).heap[W.heap.size]? = some (.cells #[.int .i64 0, .int .i64 0, .string ⟨#[]⟩, .string ⟨#[]⟩] 152 (0, 0)) from (Below.heap_setCell w9 ⟨q, 3, none⟩ _ W.heap.size (fun e => hqb e.symm)).trans ((hg9.block W.heap.size (blk_lt HY8.out) (fun e => hbp (Option.some.inj e))).trans HY8.out))
      have HW10 := Lib.hid (show W.grownBy (w9.setCell ⟨q, 3, none⟩ (.string (strOfNums ys9))) (some p) from grown_set_far (grown_tr HW8.out hg9) hqW)
      generalize strOfNums ys9 = s9 at *
      clear hC9 hr9 hg9 hq9 hl9
      obtain ⟨A10, xs10, c10, hb10, hC10, hc10, _, _⟩ := HR10.out
      have p0 : (w9.setCell ⟨q, 3, none⟩ (.string s9)).cell? ⟨p, 0, none⟩ = some (.slice A10 xs10.length c10) := (blk_cell hb10 0).trans rfl
      have p1 : (w9.setCell ⟨q, 3, none⟩ (.string s9)).cell? ⟨p, 1, none⟩ = some (.bool f9) := (blk_cell hb10 1).trans rfl
      have t0 : (w9.setCell ⟨q, 3, none⟩ (.string s9)).cell? ⟨q, 0, none⟩ = some (.int .i64 a) := (blk_cell HQ10.out 0).trans rfl
      have t1 : (w9.setCell ⟨q, 3, none⟩ (.string s9)).cell? ⟨q, 1, none⟩ = some (.int .i64 v) := (blk_cell HQ10.out 1).trans rfl
      have t2 : (w9.setCell ⟨q, 3, none⟩ (.string s9)).cell? ⟨q, 2, none⟩ = some (.string s7) := (blk_cell HQ10.out 2).trans rfl
      have t3 : (w9.setCell ⟨q, 3, none⟩ (.string s9)).cell? ⟨q, 3, none⟩ = some (.string s9) := (blk_cell HQ10.out 3).trans rfl
      clear hb10 hC10 hc10
      have HBW := Lib.hid (show Below W.heap.size W (w9.setCell ⟨q, 3, none⟩ (.string s9)) from below_of_grown HW10.out (Nat.le_of_lt HP.out))
      cases f9
      rotate_left
      · skip
        have k0 : (w9.setCell ⟨q, 3, none⟩ (.string s9)).cell? ⟨W.heap.size, 0, none⟩ = some (.int .i64 0) := (blk_cell HY10.out 0).trans rfl
        have kf0 := blk_frozen HY10.out 0
        have kb0 := Lib.hid (blk_set HY10.out 0 (.int .i64 0))
        have k1 : ((w9.setCell ⟨q, 3, none⟩ (.string s9)).setCell ⟨W.heap.size, 0, none⟩ (.int .i64 0)).cell? ⟨W.heap.size, 1, none⟩ = some (.int .i64 0) := (blk_cell kb0.out 1).trans rfl
        have kf1 := blk_frozen kb0.out 1
        have kb1 := Lib.hid (blk_set kb0.out 1 (.int .i64 0))
        have k2 : (((w9.setCell ⟨q, 3, none⟩ (.string s9)).setCell ⟨W.heap.size, 0, none⟩ (.int .i64 0)).setCell ⟨W.heap.size, 1, none⟩ (.int .i64 0)).cell? ⟨W.heap.size, 2, none⟩ = some (.string ⟨#[]⟩) := (blk_cell kb1.out 2).trans rfl
        have kf2 := blk_frozen kb1.out 2
        have kb2 := Lib.hid (blk_set kb1.out 2 (.string ⟨#[]⟩))
        have k3 : ((((w9.setCell ⟨q, 3, none⟩ (.string s9)).setCell ⟨W.heap.size, 0, none⟩ (.int .i64 0)).setCell ⟨W.heap.size, 1, none⟩ (.int .i64 0)).setCell ⟨W.heap.size, 2, none⟩ (.string ⟨#[]⟩)).cell? ⟨W.heap.size, 3, none⟩ = some (.string ⟨#[]⟩) := (blk_cell kb2.out 3).trans rfl
        have kf3 := blk_frozen kb2.out 3
        have kb3 := Lib.hid (blk_set kb2.out 3 (.string ⟨#[]⟩))
        go_wp2
        refine bodyPost_ret (results4_tmp (p := 2) (u := 3) (by kernel_rfl) _ _ W.heap.size _ rfl kb3.out rfl) rfl ?_
        exact ⟨0, 0, 2, ⟨#[]⟩, ⟨#[]⟩, rfl, Nat.zero_le _, Nat.zero_le _, (below_set (j := 3) (v := .string ⟨#[]⟩) (below_set (j := 2) (v := .string ⟨#[]⟩) (below_set (j := 1) (v := .int .i64 0) (below_set (j := 0) (v := .int .i64 0) HBW.out (Nat.le_refl _)) (Nat.le_refl _)) (Nat.le_refl _)) (Nat.le_refl _))⟩
      by_cases hl0' : 0 < xs10.length
      · have hl0 : (0 : Int) < (xs10.length : Int) := by omega
        have k0 : (w9.setCell ⟨q, 3, none⟩ (.string s9)).cell? ⟨W.heap.size, 0, none⟩ = some (.int .i64 0) := (blk_cell HY10.out 0).trans rfl
        have kf0 := blk_frozen HY10.out 0
        have kb0 := Lib.hid (blk_set HY10.out 0 (.int .i64 0))
        have k1 : ((w9.setCell ⟨q, 3, none⟩ (.string s9)).setCell ⟨W.heap.size, 0, none⟩ (.int .i64 0)).cell? ⟨W.heap.size, 1, none⟩ = some (.int .i64 0) := (blk_cell kb0.out 1).trans rfl
        have kf1 := blk_frozen kb0.out 1
        have kb1 := Lib.hid (blk_set kb0.out 1 (.int .i64 0))
        have k2 : (((w9.setCell ⟨q, 3, none⟩ (.string s9)).setCell ⟨W.heap.size, 0, none⟩ (.int .i64 0)).setCell ⟨W.heap.size, 1, none⟩ (.int .i64 0)).cell? ⟨W.heap.size, 2, none⟩ = some (.string ⟨#[]⟩) := (blk_cell kb1.out 2).trans rfl
        have kf2 := blk_frozen kb1.out 2
        have kb2 := Lib.hid (blk_set kb1.out 2 (.string ⟨#[]⟩))
        have k3 : ((((w9.setCell ⟨q, 3, none⟩ (.string s9)).setCell ⟨W.heap.size, 0, none⟩ (.int .i64 0)).setCell ⟨W.heap.size, 1, none⟩ (.int .i64 0)).setCell ⟨W.heap.size, 2, none⟩ (.string ⟨#[]⟩)).cell? ⟨W.heap.size, 3, none⟩ = some (.string ⟨#[]⟩) := (blk_cell kb2.out 3).trans rfl
        have kf3 := blk_frozen kb2.out 3
        have kb3 := Lib.hid (blk_set kb2.out 3 (.string ⟨#[]⟩))
        go_wp2
        refine bodyPost_ret (results4_tmp (p := 2) (u := 3) (by kernel_rfl) _ _ W.heap.size _ rfl kb3.out rfl) rfl ?_
        exact ⟨0, 0, 2, ⟨#[]⟩, ⟨#[]⟩, rfl, Nat.zero_le _, Nat.zero_le _, (below_set (j := 3) (v := .string ⟨#[]⟩) (below_set (j := 2) (v := .string ⟨#[]⟩) (below_set (j := 1) (v := .int .i64 0) (below_set (j := 0) (v := .int .i64 0) HBW.out (Nat.le_refl _)) (Nat.le_refl _)) (Nat.le_refl _)) (Nat.le_refl _))⟩
      · have hl0 : ¬ (0 : Int) < (xs10.length : Int) := by omega
        have HM := Lib.hid (May23_any a v s7 s9 hz7 hz9 (w9.setCell ⟨q, 3, none⟩ (.string s9)))
        go_wp2_with fail
        refine HM.out.mono ?_
        rintro e w11 ⟨b, rfl, hb⟩
        have HY11 := Lib.hid ((hb.block W.heap.size (blk_lt HY10.out)).trans HY10.out)
        have HQ11 := Lib.hid ((hb.block q (blk_lt HQ10.out)).trans HQ10.out)
        have HBW11 := Lib.hid (below_tr HBW.out hb)
        clear hb p0 p1 t0 t1 t2 t3
        have t0 : w11.cell? ⟨q, 0, none⟩ = some (.int .i64 a) := (blk_cell HQ11.out 0).trans rfl
        have t1 : w11.cell? ⟨q, 1, none⟩ = some (.int .i64 v) := (blk_cell HQ11.out 1).trans rfl
        have t2 : w11.cell? ⟨q, 2, none⟩ = some (.string s7) := (blk_cell HQ11.out 2).trans rfl
        have t3 : w11.cell? ⟨q, 3, none⟩ = some (.string s9) := (blk_cell HQ11.out 3).trans rfl
        cases b
        · skip
          have k0 : (w11).cell? ⟨W.heap.size, 0, none⟩ = some (.int .i64 0) := (blk_cell HY11.out 0).trans rfl
          have kf0 := blk_frozen HY11.out 0
          have kb0 := Lib.hid (blk_set HY11.out 0 (.int .i64 0))
          have k1 : ((w11).setCell ⟨W.heap.size, 0, none⟩ (.int .i64 0)).cell? ⟨W.heap.size, 1, none⟩ = some (.int .i64 0) := (blk_cell kb0.out 1).trans rfl
          have kf1 := blk_frozen kb0.out 1
          have kb1 := Lib.hid (blk_set kb0.out 1 (.int .i64 0))
          have k2 : (((w11).setCell ⟨W.heap.size, 0, none⟩ (.int .i64 0)).setCell ⟨W.heap.size, 1, none⟩ (.int .i64 0)).cell? ⟨W.heap.size, 2, none⟩ = some (.string ⟨#[]⟩) := (blk_cell kb1.out 2).trans rfl
          have kf2 := blk_frozen kb1.out 2
          have kb2 := Lib.hid (blk_set kb1.out 2 (.string ⟨#[]⟩))
          have k3 : ((((w11).setCell ⟨W.heap.size, 0, none⟩ (.int .i64 0)).setCell ⟨W.heap.size, 1, none⟩ (.int .i64 0)).setCell ⟨W.heap.size, 2, none⟩ (.string ⟨#[]⟩)).cell? ⟨W.heap.size, 3, none⟩ = some (.string ⟨#[]⟩) := (blk_cell kb2.out 3).trans rfl
          have kf3 := blk_frozen kb2.out 3
          have kb3 := Lib.hid (blk_set kb2.out 3 (.string ⟨#[]⟩))
          go_wp2
          refine bodyPost_ret (results4_tmp (p := 2) (u := 3) (by kernel_rfl) _ _ W.heap.size _ rfl kb3.out rfl) rfl ?_
          exact ⟨0, 0, 2, ⟨#[]⟩, ⟨#[]⟩, rfl, Nat.zero_le _, Nat.zero_le _, (below_set (j := 3) (v := .string ⟨#[]⟩) (below_set (j := 2) (v := .string ⟨#[]⟩) (below_set (j := 1) (v := .int .i64 0) (below_set (j := 0) (v := .int .i64 0) HBW11.out (Nat.le_refl _)) (Nat.le_refl _)) (Nat.le_refl _)) (Nat.le_refl _))⟩
        · skip
          have k0 : (w11).cell? ⟨W.heap.size, 0, none⟩ = some (.int .i64 0) := (blk_cell HY11.out 0).trans rfl
          have kf0 := blk_frozen HY11.out 0
          have kb0 := Lib.hid (blk_set HY11.out 0 (.int .i64 a))
          have k1 : ((w11).setCell ⟨W.heap.size, 0, none⟩ (.int .i64 a)).cell? ⟨W.heap.size, 1, none⟩ = some (.int .i64 0) := (blk_cell kb0.out 1).trans rfl
          have kf1 := blk_frozen kb0.out 1
          have kb1 := Lib.hid (blk_set kb0.out 1 (.int .i64 v))
          have k2 : (((w11).setCell ⟨W.heap.size, 0, none⟩ (.int .i64 a)).setCell ⟨W.heap.size, 1, none⟩ (.int .i64 v)).cell? ⟨W.heap.size, 2, none⟩ = some (.string ⟨#[]⟩) := (blk_cell kb1.out 2).trans rfl
          have kf2 := blk_frozen kb1.out 2
          have kb2 := Lib.hid (blk_set kb1.out 2 (.string s7))
          have k3 : ((((w11).setCell ⟨W.heap.size, 0, none⟩ (.int .i64 a)).setCell ⟨W.heap.size, 1, none⟩ (.int .i64 v)).setCell ⟨W.heap.size, 2, none⟩ (.string s7)).cell? ⟨W.heap.size, 3, none⟩ = some (.string ⟨#[]⟩) := (blk_cell kb2.out 3).trans rfl
          have kf3 := blk_frozen kb2.out 3
          have kb3 := Lib.hid (blk_set kb2.out 3 (.string s9))
          go_wp2
          refine bodyPost_ret (results4_tmp (p := 2) (u := 3) (by kernel_rfl) _ _ W.heap.size _ rfl kb3.out rfl) rfl ?_
          exact ⟨a, v, 0, s7, s9, rfl, hz7, hz9, (below_set (j := 3) (v := .string s9) (below_set (j := 2) (v := .string s7) (below_set (j := 1) (v := .int .i64 v) (below_set (j := 0) (v := .int .i64 a) HBW11.out (Nat.le_refl _)) (Nat.le_refl _)) (Nat.le_refl _)) (Nat.le_refl _))⟩
  · have y0 : (w4).cell? ⟨W.heap.size, 0, none⟩ = some (.int .i64 0) := (blk_cell HY4.out 0).trans rfl
    have yf0 := blk_frozen HY4.out 0
    have yb0 := Lib.hid (blk_set HY4.out 0 (.int .i64 0))
    have y1 : ((w4).setCell ⟨W.heap.size, 0, none⟩ (.int .i64 0)).cell? ⟨W.heap.size, 1, none⟩ = some (.int .i64 0) := (blk_cell yb0.out 1).trans rfl
    have yf1 := blk_frozen yb0.out 1
    have yb1 := Lib.hid (blk_set yb0.out 1 (.int .i64 0))
    have y2 : (((w4).setCell ⟨W.heap.size, 0, none⟩ (.int .i64 0)).setCell ⟨W.heap.size, 1, none⟩ (.int .i64 0)).cell? ⟨W.heap.size, 2, none⟩ = some (.string ⟨#[]⟩) := (blk_cell yb1.out 2).trans rfl
    have yf2 := blk_frozen yb1.out 2
    have yb2 := Lib.hid (blk_set yb1.out 2 (.string ⟨#[]⟩))
    have y3 : ((((w4).setCell ⟨W.heap.size, 0, none⟩ (.int .i64 0)).setCell ⟨W.heap.size, 1, none⟩ (.int .i64 0)).setCell ⟨W.heap.size, 2, none⟩ (.string ⟨#[]⟩)).cell? ⟨W.heap.size, 3, none⟩ = some (.string ⟨#[]⟩) := (blk_cell yb2.out 3).trans rfl
    have yf3 := blk_frozen yb2.out 3
    have yb3 := Lib.hid (blk_set yb2.out 3 (.string ⟨#[]⟩))
    have e0 : (((((w4).setCell ⟨W.heap.size, 0, none⟩ (.int .i64 0)).setCell ⟨W.heap.size, 1, none⟩ (.int .i64 0)).setCell ⟨W.heap.size, 2, none⟩ (.string ⟨#[]⟩)).setCell ⟨W.heap.size, 3, none⟩ (.string ⟨#[]⟩)).cell? ⟨W.heap.size, 0, none⟩ = some (.int .i64 0) := (blk_cell yb3.out 0).trans rfl
    have e1 : (((((w4).setCell ⟨W.heap.size, 0, none⟩ (.int .i64 0)).setCell ⟨W.heap.size, 1, none⟩ (.int .i64 0)).setCell ⟨W.heap.size, 2, none⟩ (.string ⟨#[]⟩)).setCell ⟨W.heap.size, 3, none⟩ (.string ⟨#[]⟩)).cell? ⟨W.heap.size, 1, none⟩ = some (.int .i64 0) := (blk_cell yb3.out 1).trans rfl
    have e2 : (((((w4).setCell ⟨W.heap.size, 0, none⟩ (.int .i64 0)).setCell ⟨W.heap.size, 1, none⟩ (.int .i64 0)).setCell ⟨W.heap.size, 2, none⟩ (.string ⟨#[]⟩)).setCell ⟨W.heap.size, 3, none⟩ (.string ⟨#[]⟩)).cell? ⟨W.heap.size, 2, none⟩ = some (.string ⟨#[]⟩) := (blk_cell yb3.out 2).trans rfl
    have e3 : (((((w4).setCell ⟨W.heap.size, 0, none⟩ (.int .i64 0)).setCell ⟨W.heap.size, 1, none⟩ (.int .i64 0)).setCell ⟨W.heap.size, 2, none⟩ (.string ⟨#[]⟩)).setCell ⟨W.heap.size, 3, none⟩ (.string ⟨#[]⟩)).cell? ⟨W.heap.size, 3, none⟩ = some (.string ⟨#[]⟩) := (blk_cell yb3.out 3).trans rfl
    have HBF := Lib.hid (below_set (j := 3) (v := .string ⟨#[]⟩) (below_set (j := 2) (v := .string ⟨#[]⟩) (below_set (j := 1) (v := .int .i64 0) (below_set (j := 0) (v := .int .i64 0) (below_of_grown HG4.out (Nat.le_of_lt HP.out)) (Nat.le_refl _)) (Nat.le_refl _)) (Nat.le_refl _)) (Nat.le_refl _))
    go_wp2
    refine bodyPost_ret (results4_tmp (p := 2) (u := 3) (by kernel_rfl) _ _ W.heap.size _ rfl yb3.out rfl) rfl ?_
    exact ⟨0, 0, 2, ⟨#[]⟩, ⟨#[]⟩, rfl, Nat.zero_le _, Nat.zero_le _, HBF.out⟩
end Go.Proofs.YtafigkikblpbnaaGreatDoor.PG
