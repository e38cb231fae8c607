/- Conditions that may be. Rules that may be. A reader's bytes; no condition beyond each theorem its own. -/
import Derived.Test.YtafigkikblpbnaaGreatJ04
namespace Go.Proofs.YtafigkikblpbnaaGreat.PG
open Go.RowKit Go.Proofs.YtafigkikblpbnaaGreatW.PrintWords Go.Proofs.YtafigkikblpbnaaGreatW.PrintLast Go.Proofs.YtafigkikblpbnaaGreatW.PrintMore
set_option linter.unusedVariables false
set_option linter.unusedSimpArgs false
set_option maxRecDepth 100000

/-- All texts in it have a size that there is. -/
inductive Z95 : S95 → Prop
  | mk (x : S95) (h1 : x.f2.size ≤ 140737488351232) (h2 : ∀ y ∈ x.f3, Z95 y) : Z95 x
inductive Z52 : S52 → Prop
  | mk (x : S52) (h1 : x.f1.size ≤ 140737488351232) (h2 : ∀ y ∈ x.f4, Z52 y) : Z52 x
theorem Z95.h1 {x : S95} (h : Z95 x) : x.f2.size ≤ 140737488351232 := by cases h; assumption
theorem Z95.h2 {x : S95} (h : Z95 x) : ∀ y ∈ x.f3, Z95 y := by cases h; assumption
theorem Z52.h1 {x : S52} (h : Z52 x) : x.f1.size ≤ 140737488351232 := by cases h; assumption
theorem Z52.h2 {x : S52} (h : Z52 x) : ∀ y ∈ x.f4, Z52 y := by cases h; assumption
/-- A condition is so deep at most, with few parts, and short names. -/
def H95 : Nat → S95 → Prop
  | 0, _ => False
  | d + 1, x => x.f2.size ≤ 16 ∧ x.f3.length ≤ 24 ∧ ∀ y ∈ x.f3, H95 d y
/-- It answers a number that isn't great; where it isn't below 0, p holds. -/
def RNp (p : Prop) (w : World) (e : Ending) (w' : World) : Prop := ∃ r : Int, e = .returned (.int .i64 r) ∧ -1 ≤ r ∧ r ≤ 24 ∧ (0 ≤ r → p) ∧ Below w.heap.size w w'
theorem RNp.neg {p : Prop} {w w' : World} (h : Below w.heap.size w w') : RNp p w (.returned (.int .i64 (-1))) w' := ⟨-1, rfl, by omega, by omega, fun h => absurd h (by decide), h⟩
theorem rd_mem95 {l : List S95} {k : Nat} (h : k < l.length) : rd_T95 l (k : Int) ∈ l := by
  have : rd_T95 l (k : Int) = l[k] := by unfold rd_T95; rw [Int.toNat_natCast, List.getD_eq_getElem?_getD, List.getElem?_eq_getElem h]; rfl
  rw [this]; exact List.getElem_mem h
theorem rd_mem52 {l : List S52} {k : Nat} (h : k < l.length) : rd_T52 l (k : Int) ∈ l := by
  have : rd_T52 l (k : Int) = l[k] := by unfold rd_T52; rw [Int.toNat_natCast, List.getD_eq_getElem?_getD, List.getElem?_eq_getElem h]; rfl
  rw [this]; exact List.getElem_mem h
theorem take_rd95 {l : List S95} {k : Nat} (h : k < l.length) : l.take (k + 1) = l.take k ++ [rd_T95 l (k : Int)] := by
  have : rd_T95 l (k : Int) = l[k] := by unfold rd_T95; rw [Int.toNat_natCast, List.getD_eq_getElem?_getD, List.getElem?_eq_getElem h]; rfl
  rw [this, List.take_succ_eq_append_getElem h]

set_option maxHeartbeats 4000000 in
theorem left17 : ∀ (d : Nat) (x : S95) (A : Option Addr) (c : Nat) (m : Int) (W : World), d ≤ 100 → -1 ≤ m → m ≤ 24 → Z95 x → Kd.C k95 W A x.f3.length x.f3 → x.f3.length ≤ c →
    Calls Tryz.prog 112 #[.agg #[.int .i64 x.f0, .int .i64 x.f1, .string x.f2, .slice A x.f3.length c], .int .i64 m, .int .i64 d] W (RNp (H95 d x) W) := by
  intro d
  induction d with
  | zero =>
    intro x A c m W hd hm1 hm2 hZ hC hl
    go_enter Tryz.func112, Tryz.ntmps112
    go_wp2
    all_goals
      go_ret
      exact RNp.neg (below_alloc (Below.refl _ _) _)
  | succ d ih =>
    intro x A c m W hd hm1 hm2 hZ hC hl
    obtain ⟨o, dd, nm, ks⟩ := x
    simp only at hC hl ⊢
    have HIH := Lib.hid ih
    clear ih
    have HZ := Lib.hid hZ
    have hm : ks.length ≤ 9223372036854775807 := hC.2.1
    have hds : ((d + 1 : Nat) : Int) - 1 = (d : Int) := by omega
    have hd1 : ¬ ((d + 1 : Nat) : Int) < 1 := by omega
    clear hZ
    by_cases hm0 : m < 1
    · go_enter Tryz.func112, Tryz.ntmps112
      go_wp2
      go_ret
      exact RNp.neg (below_alloc (Below.refl _ _) _)
    by_cases hop : o = 1
    · subst hop
      have hW := fun w => Lib.hid (word_any2 nm HZ.out.h1 w)
      have HH := Lib.hid (show nm.size ≤ 16 → ks.length = 0 → H95 (d + 1) ⟨1, dd, nm, ks⟩ from fun h1 h2 => ⟨h1, Nat.le_trans (Nat.le_of_eq h2) (by omega), fun y hy => by rw [show (⟨1, dd, nm, ks⟩ : S95).f3 = [] from List.eq_nil_of_length_eq_zero h2] at hy; cases hy⟩)
      go_enter Tryz.func112, Tryz.ntmps112
      go_wp2_with (go_at_call 73; refine (hW _).out.mono ?_; rintro e w2 ⟨b, rfl, hb, rfl⟩)
      all_goals first
        | (go_ret; exact RNp.neg (below_alloc (Below.refl _ _) _))
        | (go_ret; exact ⟨m - 1, rfl, by omega, by omega, fun _ => HH.out (by first | (exact hb rfl) | (exact hb trivial) | assumption | (simp_all)) (by omega), below_alloc (Below.refl _ _) _⟩)
    · by_cases hg : (o = 2 ∨ o = 3) ∧ dd = 0 ∧ nm.toList = [] ∧ 2 ≤ ks.length ∧ (ks.length : Int) ≤ m - 1
      · obtain ⟨ho, rfl, hnm, h2, h3⟩ := hg
        have hsz : nm.size = 0 := by
          rw [ByteArray.toList_eq] at hnm
          show nm.data.size = 0
          rw [← Array.length_toList, hnm]; rfl
        rcases ho with rfl | rfl
        · have HB := Lib.hid (show Below W.heap.size W (W.alloc (.cells #[.int .i64 2, .int .i64 0, .string nm, .slice A ks.length c] 95 (0, 0))) from below_alloc (Below.refl _ _) _)
          have HY := Lib.hid (new_blk W (.cells #[.int .i64 2, .int .i64 0, .string nm, .slice A ks.length c] 95 (0, 0)))
          have HC := Lib.hid (Kd.C_below hC HB.out)
          clear hC
          go_enter Tryz.func112, Tryz.ntmps112
          go_wp2
          generalize W.alloc (.cells #[.int .i64 2, .int .i64 0, .string nm, .slice A ks.length c] 95 (0, 0)) = W1 at *
          go_loopw [1, 7] (fun v1 v7 wr => ∃ (k : Nat) (q : Int), v7 = .int .i64 k ∧ k ≤ ks.length ∧ v1 = .int .i64 q ∧ -1 ≤ q ∧ q ≤ 24 ∧ Aside0 (0 ≤ q → ∀ y ∈ ks.take k, H95 d y) ∧ Aside0 (Below W1.heap.size W1 wr)) (fun v1 v7 _ => ks.length - (intOf v7).toNat)
          case atStart => exact ⟨0, m - 1, rfl, Nat.zero_le _, by go_num, by omega, by omega, ⟨fun _ y hy => by simp at hy⟩, ⟨Below.refl _ _⟩⟩
          case round =>
            obtain ⟨k, q, rfl, hk, rfl, hq1, hq2, HA, HBW⟩ := hrel
            have HY2 := Lib.hid ((HBW.out.block W.heap.size (blk_lt HY.out)).trans HY.out)
            have q0 : wr.cell? ⟨W.heap.size, 0, none⟩ = some (.int .i64 2) := (blk_cell HY2.out 0).trans rfl
            have q1 : wr.cell? ⟨W.heap.size, 1, none⟩ = some (.int .i64 0) := (blk_cell HY2.out 1).trans rfl
            have q2 : wr.cell? ⟨W.heap.size, 2, none⟩ = some (.string nm) := (blk_cell HY2.out 2).trans rfl
            have q3 : wr.cell? ⟨W.heap.size, 3, none⟩ = some (.slice A ks.length c) := (blk_cell HY2.out 3).trans rfl
            have HC2 := Lib.hid (Kd.C_below HC.out HBW.out)
            by_cases hlt : k < ks.length
            · have hlt2 : (k : Int) < (ks.length : Int) := by omega
              by_cases hq0 : 0 ≤ q
              · obtain ⟨ad, A4, c4, e, h0, h1, h2, h3, hl4, hC4⟩ := at_T95 HC2.out (k : Int) (by omega) (by omega)
                subst e
                simp only [Int.toNat_natCast] at h0 h1 h2 h3
                have HT := Lib.hid (take_rd95 hlt)
                have hz := HZ.out.h2 _ (rd_mem95 hlt)
                generalize rd_T95 ks (k : Int) = y at *
                have HCALL := Lib.hid (HIH.out y A4 c4 q wr (by omega) hq1 hq2 hz hC4 hl4)
                clear hC4 hl4 hz
                go_wp2_with fail
                refine HCALL.out.mono ?_
                rintro e w2 ⟨r, rfl, hr1, hr2, hr3, hb⟩
                have HB2 := Lib.hid (below_tr HBW.out hb)
                have HR3 := Lib.hid hr3
                clear hb h0 h1 h2 h3 hr3
                go_wp2
                go_roundw
                case rel => exact ⟨k + 1, r, by go_num, by omega, rfl, hr1, hr2, ⟨fun hr z hz => by
                  rw [HT.out] at hz
                  rcases List.mem_append.1 hz with hz | hz
                  · exact HA.out hq0 z hz
                  · rw [List.mem_singleton.1 hz]; exact HR3.out hr⟩, ⟨HB2.out⟩⟩
                case measure => simp [intOf]; omega
              · go_wp2
                go_ret
                exact ⟨q, rfl, hq1, hq2, fun h => by exfalso; omega, below_tr HB.out HBW.out⟩
            · have hk2 : k = ks.length := by omega
              have HH := Lib.hid (show 0 ≤ q → H95 (d + 1) ⟨2, 0, nm, ks⟩ from fun h => ⟨by show nm.size ≤ 16; omega, by show ks.length ≤ 24; omega, fun y hy => HA.out h y (by rw [hk2, List.take_length]; exact hy)⟩)
              clear hk2
              go_wp2
              go_ret
              exact ⟨q, rfl, hq1, hq2, HH.out, below_tr HB.out HBW.out⟩
        · have HB := Lib.hid (show Below W.heap.size W (W.alloc (.cells #[.int .i64 3, .int .i64 0, .string nm, .slice A ks.length c] 95 (0, 0))) from below_alloc (Below.refl _ _) _)
          have HY := Lib.hid (new_blk W (.cells #[.int .i64 3, .int .i64 0, .string nm, .slice A ks.length c] 95 (0, 0)))
          have HC := Lib.hid (Kd.C_below hC HB.out)
          clear hC
          go_enter Tryz.func112, Tryz.ntmps112
          go_wp2
          generalize W.alloc (.cells #[.int .i64 3, .int .i64 0, .string nm, .slice A ks.length c] 95 (0, 0)) = W1 at *
          go_loopw [1, 7] (fun v1 v7 wr => ∃ (k : Nat) (q : Int), v7 = .int .i64 k ∧ k ≤ ks.length ∧ v1 = .int .i64 q ∧ -1 ≤ q ∧ q ≤ 24 ∧ Aside0 (0 ≤ q → ∀ y ∈ ks.take k, H95 d y) ∧ Aside0 (Below W1.heap.size W1 wr)) (fun v1 v7 _ => ks.length - (intOf v7).toNat)
          case atStart => exact ⟨0, m - 1, rfl, Nat.zero_le _, by go_num, by omega, by omega, ⟨fun _ y hy => by simp at hy⟩, ⟨Below.refl _ _⟩⟩
          case round =>
            obtain ⟨k, q, rfl, hk, rfl, hq1, hq2, HA, HBW⟩ := hrel
            have HY2 := Lib.hid ((HBW.out.block W.heap.size (blk_lt HY.out)).trans HY.out)
            have q0 : wr.cell? ⟨W.heap.size, 0, none⟩ = some (.int .i64 3) := (blk_cell HY2.out 0).trans rfl
            have q1 : wr.cell? ⟨W.heap.size, 1, none⟩ = some (.int .i64 0) := (blk_cell HY2.out 1).trans rfl
            have q2 : wr.cell? ⟨W.heap.size, 2, none⟩ = some (.string nm) := (blk_cell HY2.out 2).trans rfl
            have q3 : wr.cell? ⟨W.heap.size, 3, none⟩ = some (.slice A ks.length c) := (blk_cell HY2.out 3).trans rfl
            have HC2 := Lib.hid (Kd.C_below HC.out HBW.out)
            by_cases hlt : k < ks.length
            · have hlt2 : (k : Int) < (ks.length : Int) := by omega
              by_cases hq0 : 0 ≤ q
              · obtain ⟨ad, A4, c4, e, h0, h1, h2, h3, hl4, hC4⟩ := at_T95 HC2.out (k : Int) (by omega) (by omega)
                subst e
                simp only [Int.toNat_natCast] at h0 h1 h2 h3
                have HT := Lib.hid (take_rd95 hlt)
                have hz := HZ.out.h2 _ (rd_mem95 hlt)
                generalize rd_T95 ks (k : Int) = y at *
                have HCALL := Lib.hid (HIH.out y A4 c4 q wr (by omega) hq1 hq2 hz hC4 hl4)
                clear hC4 hl4 hz
                go_wp2_with fail
                refine HCALL.out.mono ?_
                rintro e w2 ⟨r, rfl, hr1, hr2, hr3, hb⟩
                have HB2 := Lib.hid (below_tr HBW.out hb)
                have HR3 := Lib.hid hr3
                clear hb h0 h1 h2 h3 hr3
                go_wp2
                go_roundw
                case rel => exact ⟨k + 1, r, by go_num, by omega, rfl, hr1, hr2, ⟨fun hr z hz => by
                  rw [HT.out] at hz
                  rcases List.mem_append.1 hz with hz | hz
                  · exact HA.out hq0 z hz
                  · rw [List.mem_singleton.1 hz]; exact HR3.out hr⟩, ⟨HB2.out⟩⟩
                case measure => simp [intOf]; omega
              · go_wp2
                go_ret
                exact ⟨q, rfl, hq1, hq2, fun h => by exfalso; omega, below_tr HB.out HBW.out⟩
            · have hk2 : k = ks.length := by omega
              have HH := Lib.hid (show 0 ≤ q → H95 (d + 1) ⟨3, 0, nm, ks⟩ from fun h => ⟨by show nm.size ≤ 16; omega, by show ks.length ≤ 24; omega, fun y hy => HA.out h y (by rw [hk2, List.take_length]; exact hy)⟩)
              clear hk2
              go_wp2
              go_ret
              exact ⟨q, rfl, hq1, hq2, HH.out, below_tr HB.out HBW.out⟩
      · have HG := Lib.hid hg
        clear hg
        go_enter Tryz.func112, Tryz.ntmps112
        go_wp2
        all_goals first
          | (go_ret; exact RNp.neg (below_alloc (Below.refl _ _) _))
          | (exfalso; (try simp only [bne_iff_ne, ne_eq, beq_iff_eq, bne_eq_false_iff_eq] at *); exact HG.out ⟨by omega, by omega, by assumption, by omega, by omega⟩)
end Go.Proofs.YtafigkikblpbnaaGreat.PG
namespace Go.Proofs.YtafigkikblpbnaaGreat.PG
open Go.RowKit Go.Proofs.YtafigkikblpbnaaGreatW.PrintWords Go.Proofs.YtafigkikblpbnaaGreatW.PrintLast Go.Proofs.YtafigkikblpbnaaGreatW.PrintMore
set_option linter.unusedVariables false
set_option linter.unusedSimpArgs false
set_option maxRecDepth 100000

/-- It answers a number; where it is 0 p holds; nothing that was there is turned. -/
def RIp (p : Prop) (w : World) (e : Ending) (w' : World) : Prop := ∃ r : Int, e = .returned (.int .i64 r) ∧ (r = 0 → p) ∧ Below w.heap.size w w'
theorem RIp.no {p : Prop} {w w' : World} {r : Int} (h : Below w.heap.size w w') (h0 : r ≠ 0) : RIp p w (.returned (.int .i64 r)) w' := ⟨r, rfl, fun e => absurd e h0, h⟩
theorem size_nil {s : ByteArray} (h : s.toList = []) : s.size = 0 := by
  rw [ByteArray.toList_eq] at h
  show s.data.size = 0
  rw [← Array.length_toList, h]; rfl
theorem nmOk_16 {s : ByteArray} (h : nmOk s = true) : s.size ≤ 16 := (@of_decide_eq_true _ (Classical.propDecidable _) h).2.1
theorem rd_mem97 {l : List S97} {k : Nat} (h : k < l.length) : rd_T97 l (k : Int) ∈ l := by
  have : rd_T97 l (k : Int) = l[k] := by unfold rd_T97; rw [Int.toNat_natCast, List.getD_eq_getElem?_getD, List.getElem?_eq_getElem h]; rfl
  rw [this]; exact List.getElem_mem h
theorem take_rd97 {l : List S97} {k : Nat} (h : k < l.length) : l.take (k + 1) = l.take k ++ [rd_T97 l (k : Int)] := by
  have : rd_T97 l (k : Int) = l[k] := by unfold rd_T97; rw [Int.toNat_natCast, List.getD_eq_getElem?_getD, List.getElem?_eq_getElem h]; rfl
  rw [this, List.take_succ_eq_append_getElem h]

theorem MayExpr_any (x : S95) (A : Option Addr) (c : Nat) (W : World) (hz : Z95 x) (hC : Kd.C k95 W A x.f3.length x.f3) (hl : x.f3.length ≤ c) : Calls Tryz.prog 71 #[.agg #[.int .i64 x.f0, .int .i64 x.f1, .string x.f2, .slice A x.f3.length c]] W (RBq (H95 8 x) W) := by
  have HB := Lib.hid (show Below W.heap.size W (W.alloc (.cells #[.int .i64 x.f0, .int .i64 x.f1, .string x.f2, .slice A x.f3.length c] 95 (0, 0))) from below_alloc (Below.refl _ _) _)
  have HCALL := Lib.hid (left17 8 x A c 24 (W.alloc (.cells #[.int .i64 x.f0, .int .i64 x.f1, .string x.f2, .slice A x.f3.length c] 95 (0, 0))) (by omega) (by omega) (by omega) hz (Kd.C_below hC HB.out) hl)
  go_enter Tryz.func71, Tryz.ntmps71
  go_wp2_with fail
  refine HCALL.out.mono ?_
  rintro e w2 ⟨r, rfl, hr1, hr2, hr3, hb⟩
  have HB2 := Lib.hid (below_tr HB.out hb)
  have HR := Lib.hid hr3
  clear hb hr3
  go_wp2
  go_ret
  exact ⟨_, rfl, fun h => HR.out (of_decide_eq_true h), HB2.out⟩
set_option maxHeartbeats 4000000 in
theorem Check17 (l : List S97) (A : Option Addr) (c : Nat) (W : World) (hC : Kd.C k97 W A l.length l) (hl : l.length ≤ c) (hz : ∀ x ∈ l, x.f0.size ≤ 140737488351232 ∧ Z95 x.f1) :
    Calls Tryz.prog 33 #[.slice A l.length c] W (RIp (l.length ≤ 12 ∧ ∀ x ∈ l, H95 8 x.f1 ∧ x.f0.size ≤ 16) W) := by
  have HZ := Lib.hid hz
  clear hz
  have hm : l.length ≤ 9223372036854775807 := hC.2.1
  by_cases h12 : l.length ≤ 12
  · have h12' : ¬ (12 : Int) < (l.length : Int) := by omega
    go_enter Tryz.func33, Tryz.ntmps33
    go_wp2
    go_loopw [3] (fun v3 wr => ∃ k : Nat, v3 = .int .i64 k ∧ k ≤ l.length ∧ Aside0 (∀ y ∈ l.take k, H95 8 y.f1 ∧ y.f0.size ≤ 16) ∧ Aside0 (Below W.heap.size W wr)) (fun v3 _ => l.length - (intOf v3).toNat)
    case atStart => exact ⟨0, rfl, Nat.zero_le _, ⟨fun y hy => by simp at hy⟩, ⟨Below.refl _ _⟩⟩
    case round =>
      obtain ⟨k, rfl, hk, HA, HB⟩ := hrel
      by_cases hlt : k < l.length
      · have hlt2 : (k : Int) < (l.length : Int) := by omega
        obtain ⟨ad, A4, c4, e, h0, h1, h2, h3, h4, h5, hl4, hC4⟩ := at_T97 (Kd.C_below hC HB.out) (k : Int) (by omega) (by omega)
        subst e
        simp only [Int.toNat_natCast] at h0 h1 h2 h3 h4 h5
        have HT := Lib.hid (take_rd97 hlt)
        have hzz := HZ.out _ (rd_mem97 hlt)
        generalize rd_T97 l (k : Int) = y at *
        have HN := fun w => Lib.hid (Name_eq y.f0 hzz.1 w)
        have HM := Lib.hid (MayExpr_any y.f1 A4 c4 wr hzz.2 hC4 hl4)
        have HSZ := Lib.hid (show (y.f0.toList = [] ∨ nmOk y.f0 = true) → y.f0.size ≤ 16 from fun h => h.elim (fun h => by rw [size_nil h]; omega) nmOk_16)
        clear hC4 hl4 hzz
        go_wp2_with (first | (go_at_call 36; refine (HN _).out.mono ?_; rintro e w2 ⟨rfl, rfl⟩) | (go_at_call 71; refine HM.out.mono ?_; rintro e w3 ⟨b, rfl, hb1, hb⟩))
        all_goals first
          | (go_ret; exact RIp.no HB.out (by decide))
          | (have HB2 := Lib.hid (below_tr HB.out hb)
             clear hb
             first
               | (go_ret; exact RIp.no HB2.out (by decide))
               | (have HH : Hid (H95 8 y.f1) := by first | exact hb1 rfl | exact hb1 trivial | exact hb1 | exact hb1 (by assumption) | exact hb1 (by rename_i hq; first | (simpa using hq.2) | (simpa using hq))
                  clear hb1
                  have HS := Lib.hid (HSZ.out (by first | (left; assumption) | (right; assumption)))
                  go_roundw
                  case rel => exact ⟨k + 1, by go_num, by omega, ⟨fun z hz => by
                    rw [HT.out] at hz
                    rcases List.mem_append.1 hz with hz | hz
                    · exact HA.out z hz
                    · rw [List.mem_singleton.1 hz]; exact ⟨HH.out, HS.out⟩⟩, ⟨HB2.out⟩⟩
                  case measure => simp [intOf]; omega))
      · have hk2 : k = l.length := by omega
        have HALL := Lib.hid (show l.length ≤ 12 ∧ ∀ x ∈ l, H95 8 x.f1 ∧ x.f0.size ≤ 16 from ⟨h12, fun y hy => HA.out y (by rw [hk2, List.take_length]; exact hy)⟩)
        clear hk2 HA
        go_wp2
        go_loopw [4] (fun v4 wq => ∃ k : Nat, v4 = .int .i64 k ∧ k ≤ l.length ∧ Aside0 (Below W.heap.size W wq)) (fun v4 _ => l.length - (intOf v4).toNat)
        case atStart => exact ⟨0, rfl, Nat.zero_le _, ⟨HB.out⟩⟩
        case round =>
          obtain ⟨q, rfl, hq, HBQ⟩ := hrel
          by_cases hlt : q < l.length
          · have hlt2 : (q : Int) < (l.length : Int) := by omega
            go_wp2
            go_loopw [5] (fun v5 wp => ∃ j : Nat, v5 = .int .i64 j ∧ j ≤ q ∧ Aside0 (Below W.heap.size W wp)) (fun v5 _ => q - (intOf v5).toNat)
            case atStart => exact ⟨0, rfl, Nat.zero_le _, ⟨HBQ.out⟩⟩
            case round =>
              obtain ⟨j, rfl, hj, HBP⟩ := hrel
              by_cases hjq : j < q
              · have hjq2 : (j : Int) < (q : Int) := by omega
                have hjl : (j : Int) < (l.length : Int) := by omega
                obtain ⟨ad, A4, c4, e, h0, h1, h2, h3, h4, h5, hl4, hC4⟩ := at_T97 (Kd.C_below hC HBP.out) (j : Int) (by omega) (by omega)
                obtain ⟨ad2, A5, c5, e2, g0, g1, g2, g3, g4, g5, gl4, gC4⟩ := at_T97 (Kd.C_below hC HBP.out) (q : Int) (by omega) (by omega)
                subst e
                injection e2 with e2
                subst e2
                simp only [Int.toNat_natCast] at h0 h1 h2 h3 h4 h5 g0 g1 g2 g3 g4 g5
                generalize rd_T97 l (j : Int) = y at *
                generalize rd_T97 l (q : Int) = z at *
                clear hC4 hl4 gC4 gl4 h1 h2 h3 h4 h5 g1 g2 g3 g4 g5
                go_wp2_with fail
                go_quiet (fail)
                have HBN := Lib.hid (pw_below_drewN HBP.out nq)
                go_wp2
                all_goals first
                  | (go_ret; exact RIp.no HBN.out (by decide))
                  | (go_roundw
                     case rel => exact ⟨j + 1, by go_num, by omega, ⟨HBN.out⟩⟩
                     case measure => simp [intOf]; omega)
              · go_wp2
                go_roundw
                case rel => exact ⟨q + 1, by go_num, by omega, ⟨HBP.out⟩⟩
                case measure => simp [intOf]; omega
          · go_wp2
            go_ret
            exact ⟨0, rfl, fun _ => HALL.out, HBQ.out⟩
  · have h12' : (12 : Int) < (l.length : Int) := by omega
    go_enter Tryz.func33, Tryz.ntmps33
    go_wp2
    go_ret
    exact RIp.no (Below.refl _ _) (by decide)
end Go.Proofs.YtafigkikblpbnaaGreat.PG
namespace Go.Proofs.YtafigkikblpbnaaGreat.PG
open Go.RowKit Go.Proofs.YtafigkikblpbnaaGreatW.PrintWords Go.Proofs.YtafigkikblpbnaaGreatW.PrintLast Go.Proofs.YtafigkikblpbnaaGreatW.PrintMore
set_option linter.unusedVariables false
set_option linter.unusedSimpArgs false
set_option maxRecDepth 100000
/-! ### hanaperref01_Copy: function 141 -/
def hanaperref01_Copy.f (l0 : List Int) : Option (List Int) := (some (([] : List Int) : List Int)).bind fun y202 => (if y202.length + l0.length < 140737488355328 then (some (y202 ++ l0)) else (none))
set_option maxHeartbeats 8000000 in
set_option maxRecDepth 100000 in
theorem hanaperref01_Copy.calls (A0 : Option Addr) (c0 : Nat) (l0 : List Int) (r : List Int) (w : World) (hr0 : Kd.C (Kd.int .u8) w A0 l0.length l0) (hc0 : l0.length ≤ c0) (h : hanaperref01_Copy.f l0 = some r) :
    Calls Tryz.prog 141 #[.slice A0 l0.length c0] w fun e w' => ∃ v0_ : Value, e = .returned (v0_) ∧ Kd.R (Kd.int .u8) 5 w' w.heap.size (fun _ => True) v0_ r ∧ Below w.heap.size w w' := by
  have HR0 := Aside0.mk hr0
  have HC0 := Aside0.mk hc0
  clear hr0 hc0
  have HB := Aside0.mk (Below.refl w.heap.size w)
  have H : ((some (([] : List Int) : List Int)).bind fun y202 => (if y202.length + l0.length < 140737488355328 then (some (y202 ++ l0)) else (none))) = some r := h
  clear h
  obtain ⟨y202, hy202⟩ : ∃ y_ : List Int, y_ = (([] : List Int)) := ⟨_, rfl⟩
  replace H : (if y202.length + l0.length < 140737488355328 then (some (y202 ++ l0)) else (none)) = some r := by first | (rw [hy202]; with_reducible exact H) | (have H2_ := (Option.bind_some _ _).symm.trans H; rw [hy202]; with_reducible exact H2_) | (have H2_ := (Option.bind_some _ _).symm.trans H; with_reducible exact H2_) | with_reducible exact H | (rw [hy202]; exact H) | exact H
  have Ny202 := Aside0.mk hy202
  clear hy202
  by_cases c2 : y202.length + l0.length < 140737488355328
  · rw [if_pos c2] at H
    have LMc2 := Aside0.mk c2
    clear c2
    obtain ⟨y205, hy205⟩ : ∃ y_ : List Int, y_ = (y202 ++ l0) := ⟨_, rfl⟩
    replace H : (some y205) = some r := by first | (rw [hy205]; with_reducible exact H) | (have H2_ := (Option.bind_some _ _).symm.trans H; rw [hy205]; with_reducible exact H2_) | (have H2_ := (Option.bind_some _ _).symm.trans H; with_reducible exact H2_) | with_reducible exact H | (rw [hy205]; exact H) | exact H
    have Ny205 := Aside0.mk hy205
    clear hy205
    obtain rfl := Option.some.inj H
    go_enter Tryz.func141, Tryz.ntmps141
    go_wp2_with (first | ((with_reducible refine gate_dst (N := 3) rfl ?_); refine Kd.R_lit (Kd.int .u8) _ 5 ?hg (N := 3) ?hd (xs := ([] : List Int)) (inner := []) (ok := fun _ => True) (okp := fun _ => True) ?hr ?hp (fun _ hk => hk) trivial (Below.refl _ _) (Nat.le_refl _) (by simp) ?_; (case hd => rfl); (case hg => rfl); (case hr => first | (go_simp; done) | (go_simp; rfl)); (case hp => exact (Reps.none _ _)); intro v203 w3 ho4 hb hg_ hnew_; clear hg_ hnew_; (first | rw [← Ny202.out] at ho4 | (simp only [Int.reduceToNat] at ho4; rw [← Ny202.out] at ho4)); have n0_ := Aside0.mk (Kd.R_lower ho4 (below_size (by repeat (first | (with_reducible first | exact HB.out | apply below_alloc | apply pw_below_drewN | apply below_drew1) | exact HB.out)))); have n1_ := Aside0.mk (below_step (by repeat (first | (with_reducible first | exact HB.out | apply below_alloc | apply pw_below_drewN | apply below_drew1) | exact HB.out)) hb); clear HB; have HO204 := n0_; have HB := n1_; clear n0_ n1_; clear hb ho4) | ((with_reducible refine gate_builtin (b := .append) (xs := #[.tmp 3, .tmp 4]) rfl ?_); at_builtin; refine Kd.R_append_rows (Kd.int .u8) (w0 := w) w.heap.size rfl (.tmp 3) (.tmp 4) 49 5 (.int .u8 0) 1 rfl Tryz.underlying49 info5 rfl (by decide) (by omega) v203 y202 l0 _ _ _ (fun _ => True) (fun _ => False) rfl rfl ?aO ?aR (fun _ _ h => h) (fun _ h => h.elim) ?aF ?aB ?aS ?aL ?_; (case aR => repeat (first | exact (Kd.C_below HR0.out HB.out) | (with_reducible refine Kd.C_alloc ?_ _) | (with_reducible refine Kd.C_drewN ?_ _) | (with_reducible refine Kd.C_drew ?_))); (case aB => exact (by repeat (first | (with_reducible first | exact HB.out | apply below_alloc | apply pw_below_drewN | apply below_drew1) | exact HB.out))); (case aF => exact (fun _ _ => trivial)); (case aO => exact (by (with_reducible repeat (first | apply Kd.R_alloc | apply Kd.R_drewN | apply Kd.R_drew)); exact HO204.out)); (case aS => exact (below_size (by repeat (first | (with_reducible first | exact HB.out | apply below_alloc | apply pw_below_drewN | apply below_drew1) | exact HB.out)))); (case aL => have := LMc2.out; omega); intro v206 w5 ho hb hg hat; rw [← Ny205.out] at ho; have n0_ := Aside0.mk (hb); have n1_ := Aside0.mk (ho); clear HB; clear HO204; have HB := n0_; have HO207 := n1_; clear n0_ n1_; clear ho hb hg hat))
    go_ret
    exact ⟨_, by first | rfl | (simp [errW_none, errW_some] <;> rfl) | (simp [*, errW_none, errW_some] <;> rfl), by (with_reducible repeat (first | apply Kd.R_alloc | apply Kd.R_drewN | apply Kd.R_drew)); exact HO207.out, by repeat (first | (with_reducible first | exact HB.out | apply below_alloc | apply pw_below_drewN | apply below_drew1) | exact HB.out)⟩
  · rw [if_neg c2] at H
    exact absurd H (by simp)


/-- A reader: bytes that are left, and whether it failed. -/
def Rdr (w : World) (p : Nat) (f : Bool) : Prop :=
  ∃ (A : Option Addr) (xs : List Int) (c : Nat), w.heap[p]? = some (.cells #[.slice A xs.length c, .bool f] 196 (0, 0)) ∧ (Kd.int .u8).C w A xs.length xs ∧ xs.length ≤ c ∧ (∀ ad, A = some ad → 0 < xs.length → ad.block ≠ p) ∧ xs.length ≤ 140737488351232
/-- It answers bytes of its own, so many where the reader has not failed; the reader alone is turned. -/
def Took (n : Int) (p : Nat) (w : World) (e : Ending) (w' : World) : Prop :=
  ∃ (A : Option Addr) (c : Nat) (ys : List Int) (f : Bool), e = .returned (.slice A ys.length c) ∧ ys.length ≤ c ∧ (Kd.int .u8).C w' A ys.length ys ∧ (∀ ad, A = some ad → 0 < ys.length → w.heap.size ≤ ad.block) ∧ Rdr w' p f ∧ (f = false → (ys.length : Int) = n) ∧ w.grownBy w' (some p) ∧ ys.length ≤ 140737488351232
theorem keep_grown {w w1 : World} {p : Nat} (h : w.grownBy w1 (some p)) : KeepBut w w1 p none := ⟨h.size, fun i hi hg _ => h.block i hi (fun e => hg (Option.some.inj e))⟩
theorem grown_set (w : World) (p j : Nat) (v : Value) : w.grownBy (w.setCell ⟨p, j, none⟩ v) (some p) :=
  ⟨rfl, rfl, rfl, by simp [World.setCell], fun i _ hne => Below.heap_setCell w ⟨p, j, none⟩ v i (fun e => hne (by rw [e]))⟩
theorem grown_tr {a b c : World} {row : Option Nat} (h : a.grownBy b row) (k : b.grownBy c row) : a.grownBy c row :=
  ⟨k.os.trans h.os, k.tape.trans h.tape, k.output.trans h.output, Nat.le_trans h.size k.size, fun i hi hne => (k.block i (Nat.lt_of_lt_of_le hi h.size) hne).trans (h.block i hi hne)⟩
theorem grown_below {w w1 : World} {row : Option Nat} (h : Below w.heap.size w w1) : w.grownBy w1 row := ⟨h.os, h.tape, h.output, h.size, fun k hk _ => h.block k hk⟩
set_option maxHeartbeats 1000000 in
theorem take_any (p : Nat) (n : Int) (f : Bool) (w : World) (h : Rdr w p f) : Calls Tryz.prog 142 #[.pointer (some ⟨p, 0, none⟩), .int .i64 n] w (Took n p w) := by
  obtain ⟨A, xs, c, hb, hC, hc, hf, hx⟩ := h
  have q0 : w.cell? ⟨p, 0, none⟩ = some (.slice A xs.length c) := (blk_cell hb 0).trans rfl
  have q1 : w.cell? ⟨p, 1, none⟩ = some (.bool f) := (blk_cell hb 1).trans rfl
  have z0 := blk_frozen hb 0
  have z1 := blk_frozen hb 1
  by_cases hg : f = false ∧ 0 ≤ n ∧ n ≤ xs.length
  · obtain ⟨rfl, h0, h1⟩ := hg
    obtain ⟨m, rfl⟩ : ∃ m : Nat, n = m := ⟨n.toNat, by omega⟩
    have hmx : m ≤ xs.length := by omega
    have hml : (xs.take m).length = m := by rw [List.length_take]; omega
    have HCALL := Lib.hid (show Calls Tryz.prog 141 #[.slice A m c] w fun e w' => ∃ v0_ : Value, e = .returned (v0_) ∧ Kd.R (Kd.int .u8) 5 w' w.heap.size (fun _ => True) v0_ (xs.take m) ∧ Below w.heap.size w w' by
      have := hanaperref01_Copy.calls A c (xs.take m) (xs.take m) w (Kd.C_take hC hmx) (by omega) (by
        unfold hanaperref01_Copy.f
        rw [Option.bind_some, if_pos (by rw [List.length_nil, hml]; omega)]
        rfl)
      rwa [hml] at this)
    have HB := Lib.hid hb
    have HD := Lib.hid (Kd.C_drop hC hmx hc)
    clear hb
    go_enter Tryz.func142, Tryz.ntmps142
    go_wp2_with fail
    refine HCALL.out.mono ?_
    rintro e w2 ⟨v, rfl, hR, hbl⟩
    obtain ⟨A', c', rfl, hl', hC'⟩ := Kd.R_reads hR
    have HB2 := Lib.hid ((hbl.block p (blk_lt HB.out)).trans HB.out)
    have HBL := Lib.hid hbl
    clear q0 q1 z0 z1
    have q0 : w2.cell? ⟨p, 0, none⟩ = some (.slice A xs.length c) := (blk_cell HB2.out 0).trans rfl
    have z0 := blk_frozen HB2.out 0
    have HFAR := Lib.hid (show ∀ ad, A' = some ad → 0 < (xs.take m).length → w.heap.size ≤ ad.block from by
      intro ad he hp
      obtain ⟨inner, ho⟩ := Kd.R_own hR
      rcases ho.2 with ⟨_, e0⟩ | ⟨r, cap, cur, hv, hb2, _⟩
      · omega
      · injection hv with hA _ _
        rw [he] at hA
        injection hA with hA
        rw [hA]; exact hb2)
    have HC' := Lib.hid hC'
    have HF := Lib.hid hf
    have HLD := Lib.hid (List.length_drop (i := m) (l := xs))
    clear hbl hR hC' hf
    have key : ∀ (A2 : Option Addr) (c2 : Nat), (∀ ad, A2 = some ad → ∃ ad0, A = some ad0 ∧ ad.block = ad0.block) → (Kd.int .u8).C w2 A2 (xs.drop m).length (xs.drop m) → xs.length - m ≤ c2 →
        Took m p w (.returned (.slice A' (xs.take m).length c')) (w2.setCell ⟨p, 0, none⟩ (.slice A2 (xs.length - m) c2)) := by
      intro A2 c2 hblk hC2 hl2
      have hg3 := grown_set w2 p 0 (.slice A2 (xs.length - m) c2)
      have hpl : p < w.heap.size := blk_lt HB.out
      refine ⟨A', c', xs.take m, false, rfl, hl', Kd.C_keep 0 HC'.out (keep_grown hg3) (fun ad he hp => by have := HFAR.out ad he hp; omega), HFAR.out, ⟨A2, xs.drop m, c2, ?_, ?_, by rw [HLD.out]; exact hl2, ?_, by rw [HLD.out]; omega⟩, fun _ => by rw [hml], grown_tr (grown_below HBL.out) hg3, by rw [hml]; omega⟩
      · rw [HLD.out]; exact blk_set HB2.out 0 _
      · exact Kd.C_keep 0 hC2 (keep_grown hg3) (fun ad he hp => by
          obtain ⟨ad0, h1, h2⟩ := hblk ad he
          rw [h2]; exact HF.out ad0 h1 (by rw [HLD.out] at hp; omega))
      · intro ad he hp
        obtain ⟨ad0, h1, h2⟩ := hblk ad he
        rw [h2]; exact HF.out ad0 h1 (by rw [HLD.out] at hp; omega)
    have KEY := Lib.hid key
    clear key
    by_cases hcm : c = m
    · have hd := HD.out
      rw [if_pos hcm] at hd
      have K2 := Lib.hid (KEY.out A (c - m) (fun ad he => ⟨ad, he, rfl⟩) (Kd.C_below hd HBL.out) (by omega))
      have hcm0 : c - m = 0 := by omega
      rw [hml, hcm0] at K2
      clear KEY hd
      go_wp2
      all_goals
        go_ret
        first | exact K2.out | (simpa [hcm] using K2.out)
    · have hd := HD.out
      rw [if_neg hcm] at hd
      have K2 := Lib.hid (KEY.out (A.map (fun x => x.add m)) (c - m) (fun ad he => by
        obtain ⟨ad0, h1, h2⟩ := Option.map_eq_some_iff.1 he
        exact ⟨ad0, h1, by rw [← h2]; unfold Addr.add; split <;> rfl⟩) (by have := Kd.C_below hd HBL.out; rw [show m * (Kd.int IntKind.u8).sz = m from Nat.mul_one m] at this; exact this) (by omega))
      rw [hml] at K2
      clear KEY hd
      go_wp2
      all_goals
        go_ret
        exact K2.out
  · have HG := Lib.hid hg
    have HK := Lib.hid (show Took n p w (.returned (.slice none 0 0)) (w.setCell ⟨p, 1, none⟩ (.bool true)) from
      (by
        refine ⟨none, 0, [], true, rfl, Nat.le_refl _, Kd.C_nil (Kd.int .u8) _, fun ad h => (by cases h), ⟨A, xs, c, ?_, Kd.C_keep 0 hC (keep_grown (grown_set w p 1 _)) hf, hc, hf, hx⟩, fun h => absurd h (by decide), grown_set w p 1 _, Nat.zero_le _⟩
        exact blk_set hb 1 _))
    clear hg
    go_enter Tryz.func142, Tryz.ntmps142
    go_wp2
    all_goals first
      | (go_ret; exact HK.out)
      | (exfalso; (try simp only [bne_iff_ne, ne_eq, beq_iff_eq, bne_eq_false_iff_eq] at *); exact HG.out ⟨by first | assumption | rfl | (cases f <;> simp_all), by omega, by omega⟩)
end Go.Proofs.YtafigkikblpbnaaGreat.PG
