/- Sizes of things: the functions answer. Names and words; no condition beyond each theorem its own. -/
import Derived.Test.YtafigkikblpbnaaGreatJ03
namespace Go.Proofs.YtafigkikblpbnaaGreat.PG
open Go.RowKit Go.Proofs.YtafigkikblpbnaaGreatW.PrintWords Go.Proofs.YtafigkikblpbnaaGreatW.PrintLast Go.Proofs.YtafigkikblpbnaaGreatW.PrintMore
set_option linter.unusedVariables false
set_option linter.unusedSimpArgs false
set_option maxRecDepth 100000
theorem new_blk (w : World) (o : Obj) : (w.alloc o).heap[w.heap.size]? = some o := by
  show (w.heap.push _)[w.heap.size]? = _
  simp
/-- It answers a number that isn't great, and turns nothing that was there. -/
def RN (n : Int) (w : World) (e : Ending) (w' : World) : Prop := ∃ r : Int, e = .returned (.int .i64 r) ∧ -1 ≤ r ∧ r ≤ n ∧ Below w.heap.size w w'
theorem RN.mk {n r : Int} {w w' : World} (h1 : -1 ≤ r) (h2 : r ≤ n) (h : Below w.heap.size w w') : RN n w (.returned (.int .i64 r)) w' := ⟨r, rfl, h1, h2, h⟩
/-- It answers a truth value; where it is true p holds; nothing that was there is turned. -/
def RBq (p : Prop) (w : World) (e : Ending) (w' : World) : Prop := ∃ b : Bool, e = .returned (.bool b) ∧ (b = true → p) ∧ Below w.heap.size w w'
theorem RBq.no {p : Prop} {w w' : World} (h : Below w.heap.size w w') : RBq p w (.returned (.bool false)) w' := ⟨false, rfl, fun h => absurd h (by decide), h⟩
theorem RBq.mk {p : Prop} {b : Bool} {w w' : World} (hp : b = true → p) (h : Below w.heap.size w w') : RBq p w (.returned (.bool b)) w' := ⟨b, rfl, hp, h⟩
/-- It answers a truth value, and turns nothing that was there. -/
def RBb (w : World) (e : Ending) (w' : World) : Prop := ∃ b : Bool, e = .returned (.bool b) ∧ Below w.heap.size w w'
theorem RBb.mk {b : Bool} {w w' : World} (h : Below w.heap.size w w') : RBb w (.returned (.bool b)) w' := ⟨b, rfl, h⟩

set_option maxHeartbeats 2000000 in
theorem small17 : ∀ (d : Nat) (x : S95) (A : Option Addr) (c : Nat) (m : Int) (W : World), d ≤ 100 → -1 ≤ m → m ≤ 60 → Kd.C k95 W A x.f3.length x.f3 → x.f3.length ≤ c →
    Calls Tryz.prog 31 #[.agg #[.int .i64 x.f0, .int .i64 x.f1, .string x.f2, .slice A x.f3.length c], .int .i64 m, .int .i64 d] W (RN 60 W) := by
  intro d
  induction d with
  | zero =>
    intro x A c m W hd hm1 hm2 hC hl
    have HB := Lib.hid (show Below W.heap.size W (W.alloc (.cells #[.int .i64 x.f0, .int .i64 x.f1, .string x.f2, .slice A x.f3.length c] 95 (0, 0))) from below_alloc (Below.refl _ _) _)
    go_enter Tryz.func31, Tryz.ntmps31
    go_wp2
    all_goals
      go_ret
      exact RN.mk (by omega) (by omega) HB.out
  | succ d ih =>
    intro x A c m W hd hm1 hm2 hC hl
    have HIH := Lib.hid ih
    clear ih
    have HB := Lib.hid (show Below W.heap.size W (W.alloc (.cells #[.int .i64 x.f0, .int .i64 x.f1, .string x.f2, .slice A x.f3.length c] 95 (0, 0))) from below_alloc (Below.refl _ _) _)
    have HY := Lib.hid (new_blk W (.cells #[.int .i64 x.f0, .int .i64 x.f1, .string x.f2, .slice A x.f3.length c] 95 (0, 0)))
    have HC := Lib.hid (Kd.C_below hC HB.out)
    have hm : x.f3.length ≤ 9223372036854775807 := hC.2.1
    have hds : ((d + 1 : Nat) : Int) - 1 = (d : Int) := by omega
    have hd1 : ¬ ((d + 1 : Nat) : Int) < 1 := by omega
    clear hC
    go_enter Tryz.func31, Tryz.ntmps31
    go_wp2
    all_goals first
      | (go_ret; exact RN.mk (by omega) (by omega) HB.out)
      | skip
    generalize W.alloc (.cells #[.int .i64 x.f0, .int .i64 x.f1, .string x.f2, .slice A x.f3.length c] 95 (0, 0)) = W1 at *
    go_loopw [1, 7] (fun v1 v7 wr => ∃ (k : Nat) (q : Int), v7 = .int .i64 k ∧ k ≤ x.f3.length ∧ v1 = .int .i64 q ∧ -1 ≤ q ∧ q ≤ 60 ∧ Aside0 (Below W1.heap.size W1 wr)) (fun v1 v7 _ => x.f3.length - (intOf v7).toNat)
    case atStart => exact ⟨0, m - 1, rfl, Nat.zero_le _, by go_num, by omega, by omega, ⟨Below.refl _ _⟩⟩
    case round =>
      obtain ⟨k, q, rfl, hk, rfl, hq1, hq2, HBW⟩ := hrel
      have HY2 := Lib.hid ((HBW.out.block W.heap.size (blk_lt HY.out)).trans HY.out)
      have q0 : (wr).cell? ⟨W.heap.size, 0, none⟩ = some (.int .i64 x.f0) := (blk_cell HY2.out 0).trans rfl
      have q1 : (wr).cell? ⟨W.heap.size, 1, none⟩ = some (.int .i64 x.f1) := (blk_cell HY2.out 1).trans rfl
      have q2 : (wr).cell? ⟨W.heap.size, 2, none⟩ = some (.string x.f2) := (blk_cell HY2.out 2).trans rfl
      have q3 : (wr).cell? ⟨W.heap.size, 3, none⟩ = some (.slice A x.f3.length c) := (blk_cell HY2.out 3).trans rfl
      have HC2 := Lib.hid (Kd.C_below HC.out HBW.out)
      by_cases hlt : k < x.f3.length
      · have hlt2 : (k : Int) < (x.f3.length : Int) := by omega
        by_cases hq0 : 0 ≤ q
        · obtain ⟨ad, A4, c4, e, h0, h1, h2, h3, hl4, hC4⟩ := at_T95 HC2.out (k : Int) (by omega) (by omega)
          subst e
          simp only [Int.toNat_natCast] at h0 h1 h2 h3
          generalize rd_T95 x.f3 (k : Int) = y at *
          have HCALL := Lib.hid (HIH.out y A4 c4 q wr (by omega) hq1 hq2 hC4 hl4)
          clear hC4 hl4
          go_wp2_with fail
          refine HCALL.out.mono ?_
          rintro e w2 ⟨r, rfl, hr1, hr2, hb⟩
          have HB2 := Lib.hid (below_tr HBW.out hb)
          clear hb h0 h1 h2 h3
          go_wp2
          go_roundw
          case rel => exact ⟨k + 1, r, by go_num, by omega, rfl, hr1, hr2, ⟨HB2.out⟩⟩
          case measure => simp [intOf]; omega
        · go_wp2
          go_ret
          exact RN.mk hq1 hq2 (below_tr HB.out HBW.out)
      · go_wp2
        go_ret
        exact RN.mk hq1 hq2 (below_tr HB.out HBW.out)

set_option maxHeartbeats 2000000 in
theorem small20 : ∀ (d : Nat) (x : S52) (A : Option Addr) (c : Nat) (m : Int) (W : World), d ≤ 100 → -1 ≤ m → m ≤ 60 → Kd.C k52 W A x.f4.length x.f4 → x.f4.length ≤ c →
    Calls Tryz.prog 70 #[.agg #[.int .i64 x.f0, .string x.f1, .int .i64 x.f2, .int .i64 x.f3, .slice A x.f4.length c], .int .i64 m, .int .i64 d] W (RN 60 W) := by
  intro d
  induction d with
  | zero =>
    intro x A c m W hd hm1 hm2 hC hl
    have HB := Lib.hid (show Below W.heap.size W (W.alloc (.cells #[.int .i64 x.f0, .string x.f1, .int .i64 x.f2, .int .i64 x.f3, .slice A x.f4.length c] 52 (0, 0))) from below_alloc (Below.refl _ _) _)
    go_enter Tryz.func70, Tryz.ntmps70
    go_wp2
    all_goals
      go_ret
      exact RN.mk (by omega) (by omega) HB.out
  | succ d ih =>
    intro x A c m W hd hm1 hm2 hC hl
    have HIH := Lib.hid ih
    clear ih
    have HB := Lib.hid (show Below W.heap.size W (W.alloc (.cells #[.int .i64 x.f0, .string x.f1, .int .i64 x.f2, .int .i64 x.f3, .slice A x.f4.length c] 52 (0, 0))) from below_alloc (Below.refl _ _) _)
    have HY := Lib.hid (new_blk W (.cells #[.int .i64 x.f0, .string x.f1, .int .i64 x.f2, .int .i64 x.f3, .slice A x.f4.length c] 52 (0, 0)))
    have HC := Lib.hid (Kd.C_below hC HB.out)
    have hm : x.f4.length ≤ 9223372036854775807 := hC.2.1
    have hds : ((d + 1 : Nat) : Int) - 1 = (d : Int) := by omega
    have hd1 : ¬ ((d + 1 : Nat) : Int) < 1 := by omega
    clear hC
    go_enter Tryz.func70, Tryz.ntmps70
    go_wp2
    all_goals first
      | (go_ret; exact RN.mk (by omega) (by omega) HB.out)
      | skip
    generalize W.alloc (.cells #[.int .i64 x.f0, .string x.f1, .int .i64 x.f2, .int .i64 x.f3, .slice A x.f4.length c] 52 (0, 0)) = W1 at *
    go_loopw [1, 7] (fun v1 v7 wr => ∃ (k : Nat) (q : Int), v7 = .int .i64 k ∧ k ≤ x.f4.length ∧ v1 = .int .i64 q ∧ -1 ≤ q ∧ q ≤ 60 ∧ Aside0 (Below W1.heap.size W1 wr)) (fun v1 v7 _ => x.f4.length - (intOf v7).toNat)
    case atStart => exact ⟨0, m - 1, rfl, Nat.zero_le _, by go_num, by omega, by omega, ⟨Below.refl _ _⟩⟩
    case round =>
      obtain ⟨k, q, rfl, hk, rfl, hq1, hq2, HBW⟩ := hrel
      have HY2 := Lib.hid ((HBW.out.block W.heap.size (blk_lt HY.out)).trans HY.out)
      have q0 : (wr).cell? ⟨W.heap.size, 0, none⟩ = some (.int .i64 x.f0) := (blk_cell HY2.out 0).trans rfl
      have q1 : (wr).cell? ⟨W.heap.size, 1, none⟩ = some (.string x.f1) := (blk_cell HY2.out 1).trans rfl
      have q2 : (wr).cell? ⟨W.heap.size, 2, none⟩ = some (.int .i64 x.f2) := (blk_cell HY2.out 2).trans rfl
      have q3 : (wr).cell? ⟨W.heap.size, 3, none⟩ = some (.int .i64 x.f3) := (blk_cell HY2.out 3).trans rfl
      have q4 : (wr).cell? ⟨W.heap.size, 4, none⟩ = some (.slice A x.f4.length c) := (blk_cell HY2.out 4).trans rfl
      have HC2 := Lib.hid (Kd.C_below HC.out HBW.out)
      by_cases hlt : k < x.f4.length
      · have hlt2 : (k : Int) < (x.f4.length : Int) := by omega
        by_cases hq0 : 0 ≤ q
        · obtain ⟨ad, A4, c4, e, h0, h1, h2, h3, h4, hl4, hC4⟩ := at_T52 HC2.out (k : Int) (by omega) (by omega)
          subst e
          simp only [Int.toNat_natCast] at h0 h1 h2 h3 h4
          generalize rd_T52 x.f4 (k : Int) = y at *
          have HCALL := Lib.hid (HIH.out y A4 c4 q wr (by omega) hq1 hq2 hC4 hl4)
          clear hC4 hl4
          go_wp2_with fail
          refine HCALL.out.mono ?_
          rintro e w2 ⟨r, rfl, hr1, hr2, hb⟩
          have HB2 := Lib.hid (below_tr HBW.out hb)
          clear hb h0 h1 h2 h3 h4
          go_wp2
          go_roundw
          case rel => exact ⟨k + 1, r, by go_num, by omega, rfl, hr1, hr2, ⟨HB2.out⟩⟩
          case measure => simp [intOf]; omega
        · go_wp2
          go_ret
          exact RN.mk hq1 hq2 (below_tr HB.out HBW.out)
      · go_wp2
        go_ret
        exact RN.mk hq1 hq2 (below_tr HB.out HBW.out)
/-- A state reads so. -/
structure Rs (w : World) (s : S31) (A2 A3 A4 A5 A6 A7 A8 : Option Addr) (c2 c3 c4 c5 c6 c7 c8 : Nat) : Prop where
  g2 : Kd.C k97 w A2 s.f2.length s.f2
  l2 : s.f2.length ≤ c2
  g3 : Kd.C k59 w A3 s.f3.length s.f3
  l3 : s.f3.length ≤ c3
  g4 : Kd.C k108 w A4 s.f4.length s.f4
  l4 : s.f4.length ≤ c4
  g5 : Kd.C k73 w A5 s.f5.length s.f5
  l5 : s.f5.length ≤ c5
  g6 : Kd.C k100 w A6 s.f6.length s.f6
  l6 : s.f6.length ≤ c6
  g7 : Kd.C k61 w A7 s.f7.length s.f7
  l7 : s.f7.length ≤ c7
  g8 : Kd.C (Kd.int .i64) w A8 s.f8.length s.f8
  l8 : s.f8.length ≤ c8
theorem Rs.below {w w1 : World} {s : S31} {A2 A3 A4 A5 A6 A7 A8 : Option Addr} {c2 c3 c4 c5 c6 c7 c8 : Nat} (h : Rs w s A2 A3 A4 A5 A6 A7 A8 c2 c3 c4 c5 c6 c7 c8) (hb : Below w.heap.size w w1) : Rs w1 s A2 A3 A4 A5 A6 A7 A8 c2 c3 c4 c5 c6 c7 c8 :=
  ⟨Kd.C_below h.g2 hb, h.l2, Kd.C_below h.g3 hb, h.l3, Kd.C_below h.g4 hb, h.l4, Kd.C_below h.g5 hb, h.l5, Kd.C_below h.g6 hb, h.l6, Kd.C_below h.g7 hb, h.l7, Kd.C_below h.g8 hb, h.l8⟩

theorem Small20 (x : S52) (A : Option Addr) (c : Nat) (W : World) (hC : Kd.C k52 W A x.f4.length x.f4) (hl : x.f4.length ≤ c) : Calls Tryz.prog 32 #[.agg #[.int .i64 x.f0, .string x.f1, .int .i64 x.f2, .int .i64 x.f3, .slice A x.f4.length c]] W (RBb W) := by
  have HB := Lib.hid (show Below W.heap.size W (W.alloc (.cells #[.int .i64 x.f0, .string x.f1, .int .i64 x.f2, .int .i64 x.f3, .slice A x.f4.length c] 52 (0, 0))) from below_alloc (Below.refl _ _) _)
  have HCALL := Lib.hid (small20 30 x A c 60 (W.alloc (.cells #[.int .i64 x.f0, .string x.f1, .int .i64 x.f2, .int .i64 x.f3, .slice A x.f4.length c] 52 (0, 0))) (by omega) (by omega) (by omega) (Kd.C_below hC HB.out) hl)
  go_enter Tryz.func32, Tryz.ntmps32
  go_wp2_with fail
  refine HCALL.out.mono ?_
  rintro e w2 ⟨r, rfl, hr1, hr2, hb⟩
  have HB2 := Lib.hid (below_tr HB.out hb)
  clear hb
  go_wp2
  all_goals (go_ret; exact RBb.mk HB2.out)

set_option maxHeartbeats 1000000 in
theorem Small17 (l : List S97) (A : Option Addr) (c : Nat) (W : World) (hC : Kd.C k97 W A l.length l) (hl : l.length ≤ c) : Calls Tryz.prog 10 #[.slice A l.length c] W (RBb W) := by
  have hm : l.length ≤ 9223372036854775807 := hC.2.1
  go_enter Tryz.func10, Tryz.ntmps10
  go_wp2
  go_loopw [3] (fun v3 wr => ∃ k : Nat, v3 = .int .i64 k ∧ k ≤ l.length ∧ Aside0 (Below W.heap.size W wr)) (fun v3 _ => l.length - (intOf v3).toNat)
  case atStart => exact ⟨0, rfl, Nat.zero_le _, ⟨Below.refl _ _⟩⟩
  case round =>
    obtain ⟨k, rfl, hk, HB⟩ := hrel
    by_cases hlt : k < l.length
    · have hlt2 : (k : Int) < (l.length : Int) := by omega
      by_cases h40 : k < 40
      · have h402 : (k : Int) < 40 := by omega
        obtain ⟨ad, A4, c4, e, h0, h1, h2, h3, h4, h5, hl4, hC4⟩ := at_T97 (Kd.C_below hC HB.out) (k : Int) (by omega) (by omega)
        subst e
        simp only [Int.toNat_natCast] at h0 h1 h2 h3 h4 h5
        generalize rd_T97 l (k : Int) = y at *
        have HCALL := Lib.hid (small17 30 y.f1 A4 c4 60 wr (by omega) (by omega) (by omega) hC4 hl4)
        clear hC4 hl4
        go_wp2_with (go_at_call 31; refine HCALL.out.mono ?_; rintro e w2 ⟨r, rfl, hr1, hr2, hb⟩; clear h0 h1 h2 h3 h4 h5)
        all_goals first
          | (go_ret; exact RBb.mk HB.out)
          | (have HB2 := Lib.hid (below_tr HB.out hb); clear hb; go_wp2; all_goals first
              | (go_ret; exact RBb.mk HB2.out)
              | (go_roundw
                 case rel => exact ⟨k + 1, by go_num, by omega, ⟨HB2.out⟩⟩
                 case measure => simp [intOf]; omega))
      · have h402 : ¬ (k : Int) < 40 := by omega
        go_wp2
        all_goals (go_ret; exact RBb.mk HB.out)
    · have hk2 : k = l.length := by omega
      subst hk2
      go_wp2
      all_goals (go_ret; exact RBb.mk HB.out)

set_option maxHeartbeats 1000000 in
theorem Small22 (l : List S100) (A : Option Addr) (c : Nat) (W : World) (hC : Kd.C k100 W A l.length l) (hl : l.length ≤ c) : Calls Tryz.prog 11 #[.slice A l.length c] W (RBq (l.length ≤ 30) W) := by
  have hm : l.length ≤ 9223372036854775807 := hC.2.1
  go_enter Tryz.func11, Tryz.ntmps11
  go_wp2
  go_loopw [3] (fun v3 wr => ∃ k : Nat, v3 = .int .i64 k ∧ k ≤ l.length ∧ Aside0 (Below W.heap.size W wr)) (fun v3 _ => l.length - (intOf v3).toNat)
  case atStart => exact ⟨0, rfl, Nat.zero_le _, ⟨Below.refl _ _⟩⟩
  case round =>
    obtain ⟨k, rfl, hk, HB⟩ := hrel
    by_cases hlt : k < l.length
    · have hlt2 : (k : Int) < (l.length : Int) := by omega
      by_cases h40 : k < 40
      · have h402 : (k : Int) < 40 := by omega
        obtain ⟨ad, A4, c4, e, h0, h1, h2, h3, h4, h5, h6, hl4, hC4⟩ := at_T100 (Kd.C_below hC HB.out) (k : Int) (by omega) (by omega)
        subst e
        simp only [Int.toNat_natCast] at h0 h1 h2 h3 h4 h5 h6
        generalize rd_T100 l (k : Int) = y at *
        have HCALL := Lib.hid (Small20 y.f1 A4 c4 wr hC4 hl4)
        clear hC4 hl4
        go_wp2_with (go_at_call 32; refine HCALL.out.mono ?_; rintro e w2 ⟨r, rfl, hb⟩; clear h0 h1 h2 h3 h4 h5 h6)
        all_goals first
          | (go_ret; first | exact RBq.no HB.out | exact RBq.mk (fun h_ => by have h2_ := of_decide_eq_true h_; omega) HB.out)
          | (have HB2 := Lib.hid (below_tr HB.out hb); clear hb; go_wp2; all_goals first
              | (go_ret; first | exact RBq.no HB2.out | exact RBq.mk (fun h_ => by have h2_ := of_decide_eq_true h_; omega) HB2.out)
              | (go_roundw
                 case rel => exact ⟨k + 1, by go_num, by omega, ⟨HB2.out⟩⟩
                 case measure => simp [intOf]; omega))
      · have h402 : ¬ (k : Int) < 40 := by omega
        go_wp2
        all_goals (go_ret; first | exact RBq.no HB.out | exact RBq.mk (fun h_ => by have h2_ := of_decide_eq_true h_; omega) HB.out)
    · have hk2 : k = l.length := by omega
      subst hk2
      go_wp2
      all_goals (go_ret; first | exact RBq.no HB.out | exact RBq.mk (fun h_ => by have h2_ := of_decide_eq_true h_; omega) HB.out)
end Go.Proofs.YtafigkikblpbnaaGreat.PG
namespace Go.Proofs.YtafigkikblpbnaaGreat.PG
open Go.RowKit Go.Proofs.YtafigkikblpbnaaGreatW.PrintWords Go.Proofs.YtafigkikblpbnaaGreatW.PrintLast Go.Proofs.YtafigkikblpbnaaGreatW.PrintMore
set_option linter.unusedVariables false
set_option linter.unusedSimpArgs false
set_option maxRecDepth 100000
def okC (c : Nat) : Prop := ¬ ((((c < 97 ∨ 122 < c) ∧ (c < 48 ∨ 57 < c)) ∧ c ≠ 46) ∧ c ≠ 45 ∧ c ≠ 95)
/-- May it be a name? -/
noncomputable def nmOk (s : ByteArray) : Bool := @decide (1 ≤ s.size ∧ s.size ≤ 16 ∧ ∀ k (h : k < s.size), okC (s[k]).toNat) (Classical.propDecidable _)
theorem nmOk_t {s : ByteArray} (h : 1 ≤ s.size ∧ s.size ≤ 16 ∧ ∀ k (h : k < s.size), okC (s[k]).toNat) : nmOk s = true := @decide_eq_true _ (Classical.propDecidable _) h
theorem nmOk_f {s : ByteArray} (h : ¬ (1 ≤ s.size ∧ s.size ≤ 16 ∧ ∀ k (h : k < s.size), okC (s[k]).toNat)) : nmOk s = false := @decide_eq_false _ (Classical.propDecidable _) h
theorem ret_b {a b : Bool} (h : a = b) : Ending.returned (.bool a) = .returned (.bool b) := by rw [h]
set_option maxHeartbeats 1000000 in
theorem Name_eq (s : ByteArray) (hs : s.size ≤ 140737488351232) (w : World) : Calls Tryz.prog 36 #[.string s] w fun e w' => e = .returned (.bool (nmOk s)) ∧ w' = w := by
  have HT := Lib.hid (nmOk_t (s := s))
  have HF := Lib.hid (nmOk_f (s := s))
  go_enter Tryz.func36, Tryz.ntmps36
  go_wp2
  go_loopw [3] (fun v3 wr => ∃ k : Nat, k ≤ s.size ∧ v3 = .int .i64 k ∧ Aside0 (∀ j (h : j < s.size), j < k → okC (s[j]).toNat) ∧ Aside0 (wr = w)) (fun v3 _ => s.size - (intOf v3).toNat)
  case atStart => exact ⟨0, Nat.zero_le _, rfl, ⟨fun j h h2 => by omega⟩, ⟨rfl⟩⟩
  case round =>
    obtain ⟨k, hk, rfl, HA, HW⟩ := hrel
    obtain rfl := HW.out
    by_cases hlt : k < s.size
    · have h2 : (k : Int) < (s.size : Int) := by omega
      by_cases hc : okC (s[k]).toNat
      · have HA2 : Aside0 (∀ j (h : j < s.size), j < k + 1 → okC (s[j]).toNat) := ⟨fun j h hj => by
          by_cases e : j = k
          · subst e; exact hc
          · exact HA.out j h (by omega)⟩
        have HCC := Lib.hid hc
        clear hc
        go_wp2
        all_goals first
          | (exfalso; (try simp only [bne_iff_ne, ne_eq, beq_iff_eq, bne_eq_false_iff_eq] at *); have hc := HCC.out; unfold okC at hc; omega)
          | (go_roundw
             case rel => first | exact ⟨k + 1, by omega, by go_num, HA2, ⟨by first | rfl | trivial⟩⟩ | exact ⟨k + 1, by omega, by go_num, HA2⟩
             case measure => simp [intOf]; omega)
      · have HX := Lib.hid (HF.out (fun h => hc (h.2.2 k hlt)))
        have HCC := Lib.hid hc
        clear hc
        go_wp2
        all_goals first
          | (exfalso; (try simp only [bne_iff_ne, ne_eq, beq_iff_eq, bne_eq_false_iff_eq] at *); have hc := HCC.out; unfold okC at hc; omega)
          | (go_ret; exact ⟨ret_b HX.out.symm, rfl⟩)
    · have hk2 : k = s.size := by omega
      subst hk2
      by_cases h1 : 1 ≤ s.size
      · by_cases h2 : s.size ≤ 16
        · have HX := Lib.hid (HT.out ⟨h1, h2, fun j h => HA.out j h h⟩)
          have h3 : (s.size : Int) ≤ 16 := by omega
          have h4 : (1 : Int) ≤ (s.size : Int) := by omega
          go_wp2
          go_ret
          exact ⟨ret_b HX.out.symm, rfl⟩
        · have HX := Lib.hid (HF.out (fun h => h2 h.2.1))
          have h3 : ¬ (s.size : Int) ≤ 16 := by omega
          go_wp2
          all_goals first
            | (exfalso; omega)
            | (go_ret; exact ⟨ret_b HX.out.symm, rfl⟩)
      · have HX := Lib.hid (HF.out (fun h => h1 h.1))
        have h4 : ¬ (1 : Int) ≤ (s.size : Int) := by omega
        go_wp2
        all_goals first
          | (exfalso; omega)
          | (go_ret; exact ⟨ret_b HX.out.symm, rfl⟩)
theorem named_eq (n : Int) (w : World) : Calls Tryz.prog 115 #[.int .i64 n] w fun e w' => e = .returned (.bool (decide (n = 2 ∨ n = 3 ∨ n = 4))) ∧ w' = w := by
  have h5 : n = 2 ∨ n = 3 ∨ n = 4 ∨ (n ≠ 2 ∧ n ≠ 3 ∧ n ≠ 4) := by omega
  rcases h5 with rfl | rfl | rfl | ⟨h1, h2, h3⟩
  · go_enter Tryz.func115, Tryz.ntmps115
    go_wp2
    go_ret
    exact ⟨rfl, rfl⟩
  · go_enter Tryz.func115, Tryz.ntmps115
    go_wp2
    go_ret
    exact ⟨rfl, rfl⟩
  · go_enter Tryz.func115, Tryz.ntmps115
    go_wp2
    go_ret
    exact ⟨rfl, rfl⟩
  · rw [decide_eq_false (show ¬ (n = 2 ∨ n = 3 ∨ n = 4) by omega)]
    have b1 : (n == 2) = false := by simp [h1]
    have b2 : (n == 3) = false := by simp [h2]
    have b3 : (n == 4) = false := by simp [h3]
    go_enter Tryz.func115, Tryz.ntmps115
    go_wp2
    go_ret
    exact ⟨rfl, rfl⟩
theorem many_eq (n : Int) (w : World) : Calls Tryz.prog 96 #[.int .i64 n] w fun e w' => e = .returned (.bool (decide (n = 6 ∨ n = 7))) ∧ w' = w := by
  have h5 : n = 6 ∨ n = 7 ∨ (n ≠ 6 ∧ n ≠ 7) := by omega
  rcases h5 with rfl | rfl | ⟨h1, h2⟩
  · go_enter Tryz.func96, Tryz.ntmps96
    go_wp2
    go_ret
    exact ⟨rfl, rfl⟩
  · go_enter Tryz.func96, Tryz.ntmps96
    go_wp2
    go_ret
    exact ⟨rfl, rfl⟩
  · rw [decide_eq_false (show ¬ (n = 6 ∨ n = 7) by omega)]
    have b1 : (n == 6) = false := by simp [h1]
    have b2 : (n == 7) = false := by simp [h2]
    go_enter Tryz.func96, Tryz.ntmps96
    go_wp2
    go_ret
    exact ⟨rfl, rfl⟩
/-- It answers a truth value, and where it is true p holds; nothing is turned. -/
def RBp (p : Prop) (w : World) (e : Ending) (w' : World) : Prop := ∃ b : Bool, e = .returned (.bool b) ∧ (b = true → p) ∧ w' = w
set_option maxHeartbeats 4000000 in
theorem word_any2 (s : ByteArray) (hs : s.size ≤ 140737488351232) (w : World) : Calls Tryz.prog 73 #[.string s] w (RBp (s.size ≤ 16) w) := by
  go_enter Tryz.func73, Tryz.ntmps73
  go_wp2_with (go_at_call 114; refine (kept_any _ _).mono ?_; rintro e w2 ⟨b, rfl, rfl⟩)
  all_goals first
    | (go_ret; exact ⟨false, rfl, fun h => absurd h (by decide), rfl⟩)
    | skip
  have h16 : s.size ≤ 16 := by omega
  go_loopw [3] (fun v3 wr => ∃ k : Nat, k ≤ s.size ∧ v3 = .int .i64 k ∧ Aside0 (wr = w2)) (fun v3 _ => s.size - (intOf v3).toNat)
  case atStart => exact ⟨0, Nat.zero_le _, rfl, ⟨rfl⟩⟩
  case round =>
    obtain ⟨k, hk, rfl, HW⟩ := hrel
    obtain rfl := HW.out
    by_cases hlt : k < s.size
    · have h2 : (k : Int) < (s.size : Int) := by omega
      go_wp2
      all_goals first
        | (go_ret; exact ⟨false, rfl, fun h => absurd h (by decide), rfl⟩)
        | (go_roundw
           case rel => first | exact ⟨k + 1, by omega, by go_num, ⟨by first | rfl | trivial⟩⟩ | exact ⟨k + 1, by omega, by go_num⟩
           case measure => simp [intOf]; omega)
    · have hk2 : k = s.size := by omega
      subst hk2
      go_wp2
      all_goals (go_ret; exact ⟨_, rfl, fun _ => by first | exact h16 | trivial, rfl⟩)
end Go.Proofs.YtafigkikblpbnaaGreat.PG
