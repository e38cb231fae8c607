/- When a record is due, in the program and in the document. Holds, and where a case stands; no condition beyond each theorem its own. -/
import Derived.Test.YtafigkikblpbnaaGreatDoorZC07
import Derived.Test.YtafigkikblpbnaaGreatDoorZC13
import Derived.Test.YtafigkikblpbnaaGreatDoorZC04
import Derived.Test.YtafigkikblpbnaaGreatDoorZC11
import Derived.Test.YtafigkikblpbnaaGreatDoorZC05
namespace Go.Proofs.YtafigkikblpbnaaGreatDoor.PG
open Go.RowKit Go.Proofs.YtafigkikblpbnaaGreatDoorW.PrintWords Go.Proofs.YtafigkikblpbnaaGreatDoorW.PrintLast Go.Proofs.YtafigkikblpbnaaGreatDoorW.PrintMore
set_option linter.unusedVariables false
set_option linter.unusedSimpArgs false
set_option maxRecDepth 100000

theorem nil_list : (⟨#[]⟩ : ByteArray).toList = [] := by rw [ByteArray.toList_eq]
/-- It answers a rule, and whether there is one. -/
def RFind (r : S96 × Bool) (W : World) (e : Ending) (w' : World) : Prop := ∃ (A : Option Addr) (c : Nat), e = .returned (.tuple #[.agg #[.string r.1.f0, .int .i64 r.1.f1.f0, .int .i64 r.1.f1.f1, .string r.1.f1.f2, .slice A r.1.f1.f3.length c, .int .i64 r.1.f2], .bool r.2]) ∧ r.1.f1.f3.length ≤ c ∧ Kd.C k94 w' A r.1.f1.f3.length r.1.f1.f3 ∧ Below W.heap.size W w'
set_option maxHeartbeats 4000000 in
theorem FindR_any (l : List S96) (A : Option Addr) (c : Nat) (a : ByteArray) (W : World) (hC : Kd.C k96 W A l.length l) : Calls Tryz.prog 50 #[.slice A l.length c, .string a] W (RFind (find2 l a) W) := by
  have HB := Lib.hid (show Below W.heap.size W (W.alloc (.cells #[.string (⟨#[]⟩ : ByteArray), .int .i64 0, .int .i64 0, .string (⟨#[]⟩ : ByteArray), .slice none 0 0, .int .i64 0] 96 (0, 0))) from below_alloc (Below.refl _ _) _)
  have HY := Lib.hid (new_blk W (.cells #[.string (⟨#[]⟩ : ByteArray), .int .i64 0, .int .i64 0, .string (⟨#[]⟩ : ByteArray), .slice none 0 0, .int .i64 0] 96 (0, 0)))
  have HC := Lib.hid hC
  have hm : l.length ≤ 9223372036854775807 := hC.2.1
  clear hC
  go_enter Tryz.func50, Tryz.ntmps50
  go_wp2
  generalize W.alloc (.cells #[.string (⟨#[]⟩ : ByteArray), .int .i64 0, .int .i64 0, .string (⟨#[]⟩ : ByteArray), .slice none 0 0, .int .i64 0] 96 (0, 0)) = W1 at *

  go_loopw [6] (fun v wr => ∃ k : Nat, v = .int .i64 k ∧ k ≤ l.length ∧ Aside0 (wr = W1) ∧ Aside0 (ix (isN a) l 0 = ix (isN a) (l.drop k) k)) (fun v _ => l.length - (intOf v).toNat)
  case atStart => exact ⟨0, rfl, Nat.zero_le _, ⟨rfl⟩, ⟨by rw [List.drop_zero]⟩⟩
  case round =>
    obtain ⟨k, rfl, hk, HW, HI⟩ := hrel
    obtain rfl := HW.out.symm
    by_cases hlt : k < l.length
    · have hlt2 : (k : Int) < (l.length : Int) := by omega
      obtain ⟨ad, A4, c4, e, h0, h1, h2, h3, h4, h5, hl4, hC4⟩ := at_T96 HC.out (k : Int) (by omega) (by omega)
      subst e
      simp only [Int.toNat_natCast] at h0 h1 h2 h3 h4 h5
      replace h0 := below_cell HB.out h0
      replace h1 := below_cell HB.out h1
      replace h2 := below_cell HB.out h2
      replace h3 := below_cell HB.out h3
      replace h4 := below_cell HB.out h4
      replace h5 := below_cell HB.out h5
      have HI2 := Lib.hid (show ix (isN a) l 0 = if isN a (rd_T96 l (k : Int)) = true then (k : Int) else ix (isN a) (l.drop (k + 1)) (k + 1) by rw [HI.out, drop_rd49 hlt]; rfl)
      cases hnm : isN a (rd_T96 l (k : Int))
      · have hnm2 : ((rd_T96 l (k : Int)).f0.toList == (a : ByteArray).toList) = false := hnm
        have HI3 := Lib.hid (show ix (isN a) l 0 = ix (isN a) (l.drop (k + 1)) (k + 1) by rw [HI2.out, if_neg (by rw [hnm]; decide)])
        clear hnm hC4 hl4 h1 h2 h3 h4 h5
        generalize rd_T96 l (k : Int) = y at *
        go_wp2
        go_roundw
        case rel => exact ⟨k + 1, by go_num, by omega, ⟨by first | rfl | trivial⟩, ⟨HI3.out⟩⟩
        case measure => simp [intOf]; omega
      · have hnm2 : ((rd_T96 l (k : Int)).f0.toList == (a : ByteArray).toList) = true := hnm
        have HI3 := Lib.hid (show ix (isN a) l 0 = (k : Int) by rw [HI2.out, if_pos hnm])
        have HX := Lib.hid (show find2 l a = (rd_T96 l (k : Int), true) from by unfold find2; rw [HI3.out, if_pos (by omega)])
        obtain ⟨x, hx⟩ : ∃ x, x = rd_T96 l (k : Int) := ⟨_, rfl⟩
        rw [HX.out, ← hx]
        rw [← hx] at h0 h1 h2 h3 h4 h5 hl4 hC4 hnm2
        have HC4 := Lib.hid hC4
        have HL4 := Lib.hid hl4
        clear hx hC4 hl4 hnm
        have q0 := (blk_cell HY.out 0).trans rfl; have z0 := blk_frozen HY.out 0; have q1 := (blk_cell HY.out 1).trans rfl; have z1 := blk_frozen HY.out 1; have q2 := (blk_cell HY.out 2).trans rfl; have z2 := blk_frozen HY.out 2; have q3 := (blk_cell HY.out 3).trans rfl; have z3 := blk_frozen HY.out 3; have q4 := (blk_cell HY.out 4).trans rfl; have z4 := blk_frozen HY.out 4; have q5 := (blk_cell HY.out 5).trans rfl; have z5 := blk_frozen HY.out 5
        go_wp2
        refine bodyPost_ret (results_ct rfl _ _ W.heap.size 96 #[.string x.f0, .int .i64 x.f1.f0, .int .i64 x.f1.f1, .string x.f1.f2, .slice A4 x.f1.f3.length c4, .int .i64 x.f2] (0, 0) _ rfl (by refine blk_put (cs := #[.string x.f0, .int .i64 x.f1.f0, .int .i64 x.f1.f1, .string x.f1.f2, .slice A4 x.f1.f3.length c4, .int .i64 0]) ?_ 5 _ rfl; refine blk_put (cs := #[.string x.f0, .int .i64 x.f1.f0, .int .i64 x.f1.f1, .string x.f1.f2, .slice none 0 0, .int .i64 0]) ?_ 4 _ rfl; refine blk_put (cs := #[.string x.f0, .int .i64 x.f1.f0, .int .i64 x.f1.f1, .string (⟨#[]⟩ : ByteArray), .slice none 0 0, .int .i64 0]) ?_ 3 _ rfl; refine blk_put (cs := #[.string x.f0, .int .i64 x.f1.f0, .int .i64 0, .string (⟨#[]⟩ : ByteArray), .slice none 0 0, .int .i64 0]) ?_ 2 _ rfl; refine blk_put (cs := #[.string x.f0, .int .i64 0, .int .i64 0, .string (⟨#[]⟩ : ByteArray), .slice none 0 0, .int .i64 0]) ?_ 1 _ rfl; refine blk_put (cs := #[.string (⟨#[]⟩ : ByteArray), .int .i64 0, .int .i64 0, .string (⟨#[]⟩ : ByteArray), .slice none 0 0, .int .i64 0]) ?_ 0 _ rfl; exact HY.out) Tryz.underlying96 rfl (by kernel_rfl)) rfl ?_
        exact ⟨A4, c4, rfl, HL4.out, Kd.C_below HC4.out (below_set (below_set (below_set (below_set (below_set (below_set HB.out (Nat.le_refl _)) (Nat.le_refl _)) (Nat.le_refl _)) (Nat.le_refl _)) (Nat.le_refl _)) (Nat.le_refl _)), (below_set (below_set (below_set (below_set (below_set (below_set HB.out (Nat.le_refl _)) (Nat.le_refl _)) (Nat.le_refl _)) (Nat.le_refl _)) (Nat.le_refl _)) (Nat.le_refl _))⟩
    · have hk2 : k = l.length := by omega
      have HN1 := Lib.hid (show ix (isN a) l 0 = -1 from by rw [HI.out, hk2, List.drop_of_length_le (Nat.le_refl _)]; rfl)
      clear hk2
      go_wp2
      go_loopw [7] (fun v wr => ∃ k : Nat, v = .int .i64 k ∧ k ≤ l.length ∧ Aside0 (wr = W1) ∧ Aside0 (ix (isN ⟨#[]⟩) l 0 = ix (isN ⟨#[]⟩) (l.drop k) k)) (fun v _ => l.length - (intOf v).toNat)
      case atStart => exact ⟨0, rfl, Nat.zero_le _, ⟨rfl⟩, ⟨by rw [List.drop_zero]⟩⟩
      case round =>
        obtain ⟨k, rfl, hk, HW, HI⟩ := hrel
        obtain rfl := HW.out.symm
        by_cases hlt : k < l.length
        · have hlt2 : (k : Int) < (l.length : Int) := by omega
          obtain ⟨ad, A4, c4, e, h0, h1, h2, h3, h4, h5, hl4, hC4⟩ := at_T96 HC.out (k : Int) (by omega) (by omega)
          subst e
          simp only [Int.toNat_natCast] at h0 h1 h2 h3 h4 h5
          replace h0 := below_cell HB.out h0
          replace h1 := below_cell HB.out h1
          replace h2 := below_cell HB.out h2
          replace h3 := below_cell HB.out h3
          replace h4 := below_cell HB.out h4
          replace h5 := below_cell HB.out h5
          have HI2 := Lib.hid (show ix (isN ⟨#[]⟩) l 0 = if isN ⟨#[]⟩ (rd_T96 l (k : Int)) = true then (k : Int) else ix (isN ⟨#[]⟩) (l.drop (k + 1)) (k + 1) by rw [HI.out, drop_rd49 hlt]; rfl)
          cases hnm : isN ⟨#[]⟩ (rd_T96 l (k : Int))
          · have hnm2 : ((rd_T96 l (k : Int)).f0.toList == (⟨#[]⟩ : ByteArray).toList) = false := hnm
            have hnm4 : ((rd_T96 l (k : Int)).f0.toList == []) = false := by rw [← hnm]; unfold isN; rw [nil_list]
            have hnm3 : (rd_T96 l (k : Int)).f0.toList.isEmpty = false := by rw [← hnm4]; cases (rd_T96 l (k : Int)).f0.toList <;> rfl
            have HI3 := Lib.hid (show ix (isN ⟨#[]⟩) l 0 = ix (isN ⟨#[]⟩) (l.drop (k + 1)) (k + 1) by rw [HI2.out, if_neg (by rw [hnm]; decide)])
            clear hnm hC4 hl4 h1 h2 h3 h4 h5
            generalize rd_T96 l (k : Int) = y at *
            go_wp2
            go_roundw
            case rel => exact ⟨k + 1, by go_num, by omega, ⟨by first | rfl | trivial⟩, ⟨HI3.out⟩⟩
            case measure => simp [intOf]; omega
          · have hnm2 : ((rd_T96 l (k : Int)).f0.toList == (⟨#[]⟩ : ByteArray).toList) = true := hnm
            have hnm4 : ((rd_T96 l (k : Int)).f0.toList == []) = true := by rw [← hnm]; unfold isN; rw [nil_list]
            have hnm3 : (rd_T96 l (k : Int)).f0.toList.isEmpty = true := by rw [← hnm4]; cases (rd_T96 l (k : Int)).f0.toList <;> rfl
            have HI3 := Lib.hid (show ix (isN ⟨#[]⟩) l 0 = (k : Int) by rw [HI2.out, if_pos hnm])
            have HX := Lib.hid (show find2 l a = (rd_T96 l (k : Int), true) from by unfold find2; rw [HN1.out, if_neg (by decide), HI3.out, if_pos (by omega)])
            obtain ⟨x, hx⟩ : ∃ x, x = rd_T96 l (k : Int) := ⟨_, rfl⟩
            rw [HX.out, ← hx]
            rw [← hx] at h0 h1 h2 h3 h4 h5 hl4 hC4 hnm2 hnm3 hnm4
            have HC4 := Lib.hid hC4
            have HL4 := Lib.hid hl4
            clear hx hC4 hl4 hnm
            have q0 := (blk_cell HY.out 0).trans rfl; have z0 := blk_frozen HY.out 0; have q1 := (blk_cell HY.out 1).trans rfl; have z1 := blk_frozen HY.out 1; have q2 := (blk_cell HY.out 2).trans rfl; have z2 := blk_frozen HY.out 2; have q3 := (blk_cell HY.out 3).trans rfl; have z3 := blk_frozen HY.out 3; have q4 := (blk_cell HY.out 4).trans rfl; have z4 := blk_frozen HY.out 4; have q5 := (blk_cell HY.out 5).trans rfl; have z5 := blk_frozen HY.out 5
            go_wp2
            refine bodyPost_ret (results_ct rfl _ _ W.heap.size 96 #[.string x.f0, .int .i64 x.f1.f0, .int .i64 x.f1.f1, .string x.f1.f2, .slice A4 x.f1.f3.length c4, .int .i64 x.f2] (0, 0) _ rfl (by refine blk_put (cs := #[.string x.f0, .int .i64 x.f1.f0, .int .i64 x.f1.f1, .string x.f1.f2, .slice A4 x.f1.f3.length c4, .int .i64 0]) ?_ 5 _ rfl; refine blk_put (cs := #[.string x.f0, .int .i64 x.f1.f0, .int .i64 x.f1.f1, .string x.f1.f2, .slice none 0 0, .int .i64 0]) ?_ 4 _ rfl; refine blk_put (cs := #[.string x.f0, .int .i64 x.f1.f0, .int .i64 x.f1.f1, .string (⟨#[]⟩ : ByteArray), .slice none 0 0, .int .i64 0]) ?_ 3 _ rfl; refine blk_put (cs := #[.string x.f0, .int .i64 x.f1.f0, .int .i64 0, .string (⟨#[]⟩ : ByteArray), .slice none 0 0, .int .i64 0]) ?_ 2 _ rfl; refine blk_put (cs := #[.string x.f0, .int .i64 0, .int .i64 0, .string (⟨#[]⟩ : ByteArray), .slice none 0 0, .int .i64 0]) ?_ 1 _ rfl; refine blk_put (cs := #[.string (⟨#[]⟩ : ByteArray), .int .i64 0, .int .i64 0, .string (⟨#[]⟩ : ByteArray), .slice none 0 0, .int .i64 0]) ?_ 0 _ rfl; exact HY.out) Tryz.underlying96 rfl (by kernel_rfl)) rfl ?_
            exact ⟨A4, c4, rfl, HL4.out, Kd.C_below HC4.out (below_set (below_set (below_set (below_set (below_set (below_set HB.out (Nat.le_refl _)) (Nat.le_refl _)) (Nat.le_refl _)) (Nat.le_refl _)) (Nat.le_refl _)) (Nat.le_refl _)), (below_set (below_set (below_set (below_set (below_set (below_set HB.out (Nat.le_refl _)) (Nat.le_refl _)) (Nat.le_refl _)) (Nat.le_refl _)) (Nat.le_refl _)) (Nat.le_refl _))⟩
        · have hk2 : k = l.length := by omega
          have HN2 := Lib.hid (show ix (isN ⟨#[]⟩) l 0 = -1 from by rw [HI.out, hk2, List.drop_of_length_le (Nat.le_refl _)]; rfl)
          clear hk2
          have q0 := (blk_cell HY.out 0).trans rfl; have z0 := blk_frozen HY.out 0; have q1 := (blk_cell HY.out 1).trans rfl; have z1 := blk_frozen HY.out 1; have q2 := (blk_cell HY.out 2).trans rfl; have z2 := blk_frozen HY.out 2; have q3 := (blk_cell HY.out 3).trans rfl; have z3 := blk_frozen HY.out 3; have q4 := (blk_cell HY.out 4).trans rfl; have z4 := blk_frozen HY.out 4; have q5 := (blk_cell HY.out 5).trans rfl; have z5 := blk_frozen HY.out 5
          have HX := Lib.hid (show find2 l a = (z96, false) from by unfold find2; rw [HN1.out, if_neg (by decide), HN2.out, if_neg (by decide)])
          go_wp2
          rw [HX.out]
          refine bodyPost_ret (results_ct rfl _ _ W.heap.size 96 #[.string (⟨#[]⟩ : ByteArray), .int .i64 0, .int .i64 0, .string (⟨#[]⟩ : ByteArray), .slice none 0 0, .int .i64 0] (0, 0) _ rfl (by refine blk_put (cs := #[.string (⟨#[]⟩ : ByteArray), .int .i64 0, .int .i64 0, .string (⟨#[]⟩ : ByteArray), .slice none 0 0, .int .i64 0]) ?_ 5 _ rfl; refine blk_put (cs := #[.string (⟨#[]⟩ : ByteArray), .int .i64 0, .int .i64 0, .string (⟨#[]⟩ : ByteArray), .slice none 0 0, .int .i64 0]) ?_ 4 _ rfl; refine blk_put (cs := #[.string (⟨#[]⟩ : ByteArray), .int .i64 0, .int .i64 0, .string (⟨#[]⟩ : ByteArray), .slice none 0 0, .int .i64 0]) ?_ 3 _ rfl; refine blk_put (cs := #[.string (⟨#[]⟩ : ByteArray), .int .i64 0, .int .i64 0, .string (⟨#[]⟩ : ByteArray), .slice none 0 0, .int .i64 0]) ?_ 2 _ rfl; refine blk_put (cs := #[.string (⟨#[]⟩ : ByteArray), .int .i64 0, .int .i64 0, .string (⟨#[]⟩ : ByteArray), .slice none 0 0, .int .i64 0]) ?_ 1 _ rfl; refine blk_put (cs := #[.string (⟨#[]⟩ : ByteArray), .int .i64 0, .int .i64 0, .string (⟨#[]⟩ : ByteArray), .slice none 0 0, .int .i64 0]) ?_ 0 _ rfl; exact HY.out) Tryz.underlying96 rfl (by kernel_rfl)) rfl ?_
          exact ⟨none, 0, rfl, Nat.le_refl _, Kd.C_nil _ _, (below_set (below_set (below_set (below_set (below_set (below_set HB.out (Nat.le_refl _)) (Nat.le_refl _)) (Nat.le_refl _)) (Nat.le_refl _)) (Nat.le_refl _)) (Nat.le_refl _))⟩

theorem FindP_any (l : List S96) (A : Option Addr) (c : Nat) (a : ByteArray) (W : World) (hC : Kd.C k96 W A l.length l) (hl : l.length ≤ c) : Calls Tryz.prog 78 #[.slice A l.length c, .string a] W (RFind (find2 l a) W) := by
  refine (find_any (fun k => k < W.heap.size) A c l a W (Kd.V_mk hl (Kd.C_F k96_heap hC)) (find2 l a).1 (find2 l a).2 rfl).mono ?_
  rintro e w' ⟨v, rfl, hv, hb⟩
  obtain ⟨A', c', rfl, hc', hf'⟩ := hv
  exact ⟨A', c', rfl, hc', Kd.F_now hf', hb⟩
/-- It answers a list of milestones. -/
def RMi (l : List S126) (W : World) (e : Ending) (w' : World) : Prop := ∃ (A : Option Addr) (c : Nat), e = .returned (.slice A l.length c) ∧ l.length ≤ c ∧ Kd.C k126 w' A l.length l ∧ Below W.heap.size W w'
set_option maxHeartbeats 2000000 in
theorem Concat_any (b : Nat) (xs ys : List S126) (A1 A2 : Option Addr) (c1 c2 : Nat) (W : World) (hb : W.heap[b]? = some (.cells #[.slice A1 xs.length c1, .slice A2 ys.length c2] 59 (0, 0))) (hC1 : Kd.C k126 W A1 xs.length xs) (hC2 : Kd.C k126 W A2 ys.length ys) (hx : xs.length ≤ 1000) (hy : ys.length ≤ 1000) :
    Calls Tryz.prog 116 #[.slice (some ⟨b, 0, none⟩) 2 2] W (RMi (xs ++ ys) W) := by
  have HBK := Lib.hid hb
  have HC1 := Lib.hid hC1
  have HC2 := Lib.hid hC2
  have HX := Lib.hid hx
  have HY := Lib.hid hy
  have hx2 : (xs.length : Int) ≤ 1000 := by omega
  have hy2 : (ys.length : Int) ≤ 1000 := by omega
  have hx3 : (0 : Int) ≤ (xs.length : Int) := by omega
  have hy3 : (0 : Int) ≤ (ys.length : Int) := by omega
  have q0 : W.cell? ⟨b, 0, none⟩ = some (.slice A1 xs.length c1) := (blk_cell hb 0).trans rfl
  have q1 : W.cell? ⟨b, 1, none⟩ = some (.slice A2 ys.length c2) := (blk_cell hb 1).trans rfl
  clear hb hC1 hC2 hx hy
  have hs0 : ¬ ((xs.length : Int) < 0) := by omega
  have hs1 : ¬ ((xs.length : Int) + (ys.length : Int) < 0) := by omega
  have hw2 : IntKind.i64.wrap ((xs.length : Int) + (ys.length : Int)) = (xs.length : Int) + (ys.length : Int) := by rw [i64_w]; unfold wrap64; omega
  have hw3 : IntKind.i64.wrap (xs.length : Int) = (xs.length : Int) := by rw [i64_w]; unfold wrap64; omega
  have HG := Lib.hid (grow_any ((xs.length : Int) + (ys.length : Int)) W (by omega) (by omega))
  clear hx2 hy2 hx3 hy3
  go_enter Tryz.func116, Tryz.ntmps116
  go_wp2
  go_loopw [3, 11] (fun v3 v11 wr => ∃ k : Nat, v11 = .int .i64 k ∧ k ≤ 2 ∧ v3 = .int .i64 (if k = 0 then 0 else if k = 1 then (xs.length : Int) else (xs.length : Int) + (ys.length : Int)) ∧ Aside0 (wr = W)) (fun _ v11 _ => 2 - (intOf v11).toNat)
  case atStart => exact ⟨0, rfl, by omega, rfl, ⟨rfl⟩⟩
  case round =>
    obtain ⟨k, rfl, hk, rfl, HW⟩ := hrel
    obtain rfl := HW.out.symm
    have hk3 : k = 0 ∨ k = 1 ∨ k = 2 := by omega
    rcases hk3 with rfl | rfl | rfl
    · go_wp2
      go_roundw
      case rel => exact ⟨1, by go_num, by omega, by simp, ⟨by first | rfl | trivial⟩⟩
      case measure => simp [intOf]
    · go_wp2
      go_roundw
      case rel => exact ⟨2, by go_num, by omega, by simp, ⟨by first | rfl | trivial⟩⟩
      case measure => simp [intOf]
    · go_wp2_with fail
      refine HG.out.mono ?_
      rintro e w2 ⟨v0, rfl, hR, hb⟩
      have HR := Lib.hid hR
      have HB2 := Lib.hid hb
      clear hR hb q0 q1
      go_wp2
      go_loopw [6, 27] (fun v6 v27 wr => ∃ k : Nat, v27 = .int .i64 k ∧ k ≤ 2 ∧ Aside0 (Kd.R k126 126 wr W.heap.size (fun _ => True) v6 (if k = 0 then [] else if k = 1 then xs else xs ++ ys)) ∧ Aside0 (Below W.heap.size W wr)) (fun _ v27 _ => 2 - (intOf v27).toNat)
      case atStart => exact ⟨0, rfl, by omega, ⟨HR.out⟩, ⟨HB2.out⟩⟩
      case round =>
        obtain ⟨k, rfl, hk, HO, HB⟩ := hrel
        have hk3 : k = 0 ∨ k = 1 ∨ k = 2 := by omega
        have HBK2 := Lib.hid ((HB.out.block b (blk_lt HBK.out)).trans HBK.out)
        have q0 : wr.cell? ⟨b, 0, none⟩ = some (.slice A1 xs.length c1) := (blk_cell HBK2.out 0).trans rfl
        have q1 : wr.cell? ⟨b, 1, none⟩ = some (.slice A2 ys.length c2) := (blk_cell HBK2.out 1).trans rfl
        rcases hk3 with rfl | rfl | rfl
        · replace HO := Lib.hid (show Kd.R k126 126 wr W.heap.size (fun _ => True) u6 [] from HO.out)
          go_wp2_with ((with_reducible refine gate_builtin (b := .append) (xs := #[.tmp 31, .tmp 32]) rfl ?_); at_builtin; refine Kd.R_append_rows k126 (w0 := W) W.heap.size rfl (.tmp 31) (.tmp 32) 59 126 (.agg #[(.string ⟨#[]⟩), (.int .i64 0)]) 24 rfl Tryz.underlying59 info126 rfl (by decide) (by omega) u6 (([] : List S126)) (xs) _ _ _ (fun _ => True) (fun _ => False) rfl rfl HO.out (Kd.C_below HC1.out HB.out) (fun _ _ h => h) (fun _ h => h.elim) (fun _ _ => trivial) HB.out HB.out.size (by have := HX.out; have := HY.out; (try simp only [List.length_append, List.length_nil]); omega) ?_; intro v9 w4 ho hb hg hat; clear hg hat)
          go_roundw
          case rel => exact ⟨1, by go_num, by omega, ⟨ho⟩, ⟨hb⟩⟩
          case measure => simp [intOf]
        · replace HO := Lib.hid (show Kd.R k126 126 wr W.heap.size (fun _ => True) u6 xs from HO.out)
          go_wp2_with ((with_reducible refine gate_builtin (b := .append) (xs := #[.tmp 31, .tmp 32]) rfl ?_); at_builtin; refine Kd.R_append_rows k126 (w0 := W) W.heap.size rfl (.tmp 31) (.tmp 32) 59 126 (.agg #[(.string ⟨#[]⟩), (.int .i64 0)]) 24 rfl Tryz.underlying59 info126 rfl (by decide) (by omega) u6 (xs) (ys) _ _ _ (fun _ => True) (fun _ => False) rfl rfl HO.out (Kd.C_below HC2.out HB.out) (fun _ _ h => h) (fun _ h => h.elim) (fun _ _ => trivial) HB.out HB.out.size (by have := HX.out; have := HY.out; (try simp only [List.length_append, List.length_nil]); omega) ?_; intro v9 w4 ho hb hg hat; clear hg hat)
          go_roundw
          case rel => exact ⟨2, by go_num, by omega, ⟨ho⟩, ⟨hb⟩⟩
          case measure => simp [intOf]
        · obtain ⟨A6, c6, rfl, hl6, hC6⟩ := Kd.R_reads (show Kd.R k126 126 wr W.heap.size (fun _ => True) u6 (xs ++ ys) from HO.out)
          have HF := Lib.hid (And.intro hl6 (And.intro hC6 HB.out))
          clear hl6 hC6
          generalize xs ++ ys = zs at *
          go_wp2
          go_ret
          exact ⟨A6, c6, rfl, HF.out⟩
theorem one134 (x : S126) (W : World) (b : Nat) (hb : W.heap[b]? = some (.cells #[.string x.f0, .int .i64 x.f1] 126 (0, 0))) : Kd.C k126 W (some ⟨b, 0, none⟩) 1 [x] := by
  refine ⟨rfl, by omega, fun _ => ⟨⟨b, 0, none⟩, rfl, fun j p hj => ?_⟩⟩
  cases j with
  | succ j => simp at hj
  | zero =>
    have hj : x = p := Option.some.inj hj
    subst hj
    refine ⟨[.string x.f0, .int .i64 x.f1], rfl, Kd.K_of_M k126 (k126_mkM W 0 (fun _ => True) x), fun i u hu => ?_⟩
    have h0 := blk_cell hb 0
    have h1 := blk_cell hb 1
    cases i with
    | zero => exact (h0.trans rfl).trans hu
    | succ i =>
      cases i with
      | zero => exact (h1.trans rfl).trans hu
      | succ i => simp at hu
/-- The milestones of a record. -/
def ing (r : S48) (c : S61) : List S126 := ⟨(⟨#[105, 110, 103, 101, 115, 116]⟩ : ByteArray), r.f4⟩ :: c.f1
theorem MilesR_any (r : S48) (c : S61) (A : Option Addr) (cc : Nat) (W : World) (hC : Kd.C k126 W A c.f1.length c.f1) (hl : c.f1.length ≤ cc) (hn : c.f1.length ≤ 1000) :
    Calls Tryz.prog 52 #[.agg #[.string r.f0, .string r.f1, .string r.f2, .string r.f3, .int .i64 r.f4, .int .i64 r.f5], .agg #[.string c.f0, .slice A c.f1.length cc]] W (RMi (ing r c) W) := by
  refine (hanaperref19_Miles.calls r.f0 r.f1 r.f2 r.f3 r.f4 r.f5 c.f0 A cc c.f1 (ing r c) W hC hl (by
    unfold hanaperref19_Miles.f
    rw [Option.bind_some, if_pos (by simp; omega)]
    rfl)).mono ?_
  rintro e w' ⟨v, rfl, hR, hb⟩
  obtain ⟨A', c', rfl, hl', hC'⟩ := Kd.R_reads hR
  exact ⟨A', c', rfl, hl', hC', hb⟩
set_option maxHeartbeats 1000000 in
theorem MilesP_any (r : S48) (c : S61) (A : Option Addr) (cc : Nat) (W : World) (hC : Kd.C k126 W A c.f1.length c.f1) (hl : c.f1.length ≤ cc) (hn : c.f1.length ≤ 1000) :
    Calls Tryz.prog 80 #[.agg #[.string r.f0, .string r.f1, .string r.f2, .string r.f3, .int .i64 r.f4, .int .i64 r.f5], .agg #[.string c.f0, .slice A c.f1.length cc]] W (RMi (ing r c) W) := by
  have key := Lib.hid (show ∀ (W3 : World) (n : Nat), W3.heap.size = n → Below W.heap.size W W3 → Calls Tryz.prog 116 #[.slice (some ⟨n + 1, 0, none⟩) 2 2] ((W3.alloc (.cells #[.string (⟨#[105, 110, 103, 101, 115, 116]⟩ : ByteArray), .int .i64 r.f4] 126 (0, 0))).alloc (.cells #[.slice (some ⟨n, 0, none⟩) 1 1, .slice A c.f1.length cc] 59 (0, 0))) (RMi (ing r c) W) by
    intro W3 n hz hb
    subst hz
    have hz4 : (W3.alloc (.cells #[.string (⟨#[105, 110, 103, 101, 115, 116]⟩ : ByteArray), .int .i64 r.f4] 126 (0, 0))).heap.size = W3.heap.size + 1 := by show (W3.heap.push _).size = _; rw [Array.size_push]
    have hy3 := new_blk W3 (.cells #[.string (⟨#[105, 110, 103, 101, 115, 116]⟩ : ByteArray), .int .i64 r.f4] 126 (0, 0))
    have hy4 := new_blk (W3.alloc (.cells #[.string (⟨#[105, 110, 103, 101, 115, 116]⟩ : ByteArray), .int .i64 r.f4] 126 (0, 0))) (.cells #[.slice (some ⟨W3.heap.size, 0, none⟩) 1 1, .slice A c.f1.length cc] 59 (0, 0))
    rw [hz4] at hy4
    have hb4 := below_alloc (Below.refl (W3.alloc (.cells #[.string (⟨#[105, 110, 103, 101, 115, 116]⟩ : ByteArray), .int .i64 r.f4] 126 (0, 0))).heap.size _) (.cells #[.slice (some ⟨W3.heap.size, 0, none⟩) 1 1, .slice A c.f1.length cc] 59 (0, 0))
    have hb34 := below_tr hb (below_tr (below_alloc (Below.refl _ _) _) hb4)
    have h1 := Kd.C_below (one134 ⟨(⟨#[105, 110, 103, 101, 115, 116]⟩ : ByteArray), r.f4⟩ _ _ hy3) hb4
    refine (Concat_any (W3.heap.size + 1) [⟨(⟨#[105, 110, 103, 101, 115, 116]⟩ : ByteArray), r.f4⟩] c.f1 _ A 1 cc _ hy4 h1 (Kd.C_below hC hb34) (by simp) hn).mono ?_
    rintro e w' ⟨A', c', rfl, hl', hC', hb'⟩
    exact ⟨A', c', rfl, hl', hC', below_tr hb34 hb'⟩)
  have hz : ((W.alloc (.cells #[.string r.f0, .string r.f1, .string r.f2, .string r.f3, .int .i64 r.f4, .int .i64 r.f5] 48 (0, 0))).alloc (.cells #[.string c.f0, .slice A c.f1.length cc] 61 (0, 0))).heap.size = W.heap.size + 1 + 1 := by
    show ((W.heap.push _).push _).size = _
    rw [Array.size_push, Array.size_push]
  have HK := Lib.hid (key.out _ _ hz (below_alloc (below_alloc (Below.refl _ _) _) _))
  clear hC hl hn hz key
  go_enter Tryz.func80, Tryz.ntmps80
  go_wp2_with fail
  refine HK.out.mono ?_
  rintro e w2 ⟨A', c', rfl, hl', hC', hb'⟩
  have HF := Lib.hid (And.intro hl' (And.intro hC' hb'))
  clear hl' hC' hb'
  generalize ing r c = zs at *
  go_wp2
  go_ret
  exact ⟨A', c', rfl, HF.out⟩
theorem tab26_4 : rtab .any (opsOf Tryz.f25 4) = (true, [([], []), ([0], [0]), ([], []), ([], []), ([2, 3], [2, 3]), ([1, 4, 4], [1, 4]), ([5], [5]), ([6], [6]), ([6], [6]), ([7, 5, 0, 1, 2, 3, 4, 5, 6, 7], [7]), ([8, 9, 0, 1, 2, 3, 4, 5, 6, 7, 8, 9], [8])]) := by kernel_rfl
theorem tab50_4 : rtab .any (opsOf Tryz.f45 4) = (true, [([], []), ([0], [0]), ([], []), ([], []), ([2, 3], [2, 3]), ([1, 4, 4], [1, 4]), ([5], [5]), ([6], [6]), ([6], [6]), ([7, 5, 0, 1, 2, 3, 4, 5, 6, 7], [7]), ([8, 9, 0, 1, 2, 3, 4, 5, 6, 7, 8, 9], [8])]) := by kernel_rfl

theorem find2_mem (l : List S96) (a : ByteArray) (h : (find2 l a).2 = true) : (find2 l a).1 ∈ l := by
  have key : ∀ p : S96 → Bool, 0 ≤ ix p l 0 → rd_T96 l (ix p l 0) ∈ l := fun p hp => by
    have := ix_range p l 0
    obtain ⟨k, hk⟩ : ∃ k : Nat, ix p l 0 = (k : Int) := ⟨(ix p l 0).toNat, by omega⟩
    rw [hk]
    exact rd_mem97 (by omega)
  unfold find2 at h ⊢
  split
  · exact key _ (by assumption)
  · split
    · exact key _ (by assumption)
    · rename_i h1 h2
      rw [if_neg h1, if_neg h2] at h
      cases h
/-- When a record is due, and for what. -/
def dueL (l : List S96) (r : S48) (c : S61) : Int × Int × Bool := if (find2 l r.f3).2 = true then (if (wh (ing r c) (find2 l r.f3).1.f1).2 = true then ((wh (ing r c) (find2 l r.f3).1.f1).1, (find2 l r.f3).1.f2, true) else (0, 0, false)) else (0, 0, false)
/-- It answers a tick, an act, and whether they are known. -/
def RDue (v : Int × Int × Bool) (W : World) (e : Ending) (w' : World) : Prop := e = .returned (.tuple #[.int .i64 v.1, .int .i64 v.2.1, .bool v.2.2]) ∧ Below W.heap.size W w'
theorem lim8_find (l : List S96) (a : ByteArray) (hx : ∀ x ∈ l, lim 8 x.f1) (h : (find2 l a).2 = true) : lim 8 (find2 l a).1.f1 := hx _ (find2_mem l a h)

set_option maxHeartbeats 4000000 in
theorem OfR_any (l : List S96) (r : S48) (c : S61) (A : Option Addr) (ca : Nat) (Am : Option Addr) (cm : Nat) (W : World) (hC : Kd.C k96 W A l.length l) (hl : l.length ≤ ca) (hx : ∀ x ∈ l, lim 8 x.f1) (hM : Kd.C k126 W Am c.f1.length c.f1) (hm : c.f1.length ≤ cm) (hn : c.f1.length ≤ 1000) :
    Calls Tryz.prog 25 #[.slice A l.length ca, .agg #[.string r.f0, .string r.f1, .string r.f2, .string r.f3, .int .i64 r.f4, .int .i64 r.f5], .agg #[.string c.f0, .slice Am c.f1.length cm]] W (RDue (dueL l r c) W) := by
  have HB := Lib.hid (show Below W.heap.size W ((W.alloc (.cells #[.string r.f0, .string r.f1, .string r.f2, .string r.f3, .int .i64 r.f4, .int .i64 r.f5] 48 (0, 0))).alloc (.cells #[.string c.f0, .slice Am c.f1.length cm] 61 (0, 0))) from below_alloc (below_alloc (Below.refl _ _) _) _)
  have hz : (W.alloc (.cells #[.string r.f0, .string r.f1, .string r.f2, .string r.f3, .int .i64 r.f4, .int .i64 r.f5] 48 (0, 0))).heap.size = W.heap.size + 1 := by show (W.heap.push _).size = _; rw [Array.size_push]
  have hy1 := new_blk W (.cells #[.string r.f0, .string r.f1, .string r.f2, .string r.f3, .int .i64 r.f4, .int .i64 r.f5] 48 (0, 0))
  have hy2 := new_blk (W.alloc (.cells #[.string r.f0, .string r.f1, .string r.f2, .string r.f3, .int .i64 r.f4, .int .i64 r.f5] 48 (0, 0))) (.cells #[.string c.f0, .slice Am c.f1.length cm] 61 (0, 0))
  rw [hz] at hy2
  have HY1 := Lib.hid (((below_alloc (Below.refl (W.alloc (.cells #[.string r.f0, .string r.f1, .string r.f2, .string r.f3, .int .i64 r.f4, .int .i64 r.f5] 48 (0, 0))).heap.size _) (.cells #[.string c.f0, .slice Am c.f1.length cm] 61 (0, 0))).block W.heap.size (by rw [hz]; omega)).trans hy1)
  have HY2 := Lib.hid hy2
  have HMC := Lib.hid (And.intro hM (And.intro hm hn))
  have HLX := Lib.hid (fun h => lim8_find l r.f3 hx h)
  have HF := Lib.hid (FindR_any l A ca r.f3 _ (Kd.C_below hC HB.out))
  have HD := Lib.hid (show dueL l r c = dueL l r c from rfl)
  have r3 : ((W.alloc (.cells #[.string r.f0, .string r.f1, .string r.f2, .string r.f3, .int .i64 r.f4, .int .i64 r.f5] 48 (0, 0))).alloc (.cells #[.string c.f0, .slice Am c.f1.length cm] 61 (0, 0))).cell? ⟨W.heap.size, 3, none⟩ = some (.string r.f3) := (blk_cell HY1.out 3).trans rfl
  clear hC hl hx hM hm hn hz hy1 hy2
  obtain ⟨D, hD⟩ : ∃ D, D = dueL l r c := ⟨_, rfl⟩
  rw [← hD]
  replace HD := Lib.hid hD
  clear hD
  go_enter Tryz.func25, Tryz.ntmps25
  go_wp2_with fail
  generalize (W.alloc (.cells #[.string r.f0, .string r.f1, .string r.f2, .string r.f3, .int .i64 r.f4, .int .i64 r.f5] 48 (0, 0))).alloc (.cells #[.string c.f0, .slice Am c.f1.length cm] 61 (0, 0)) = W2 at *
  refine HF.out.mono ?_
  rintro e w3 ⟨A4, c4, rfl, hl4, hC4, hb⟩
  generalize hxb : find2 l r.f3 = xb at *
  obtain ⟨x, b⟩ := xb
  have HB3 := Lib.hid (below_tr HB.out hb)
  have HY13 := Lib.hid ((hb.block _ (blk_lt HY1.out)).trans HY1.out)
  have HY23 := Lib.hid ((hb.block _ (blk_lt HY2.out)).trans HY2.out)
  have HC4 := Lib.hid (And.intro hl4 hC4)
  have HXB := Lib.hid hxb
  clear hl4 hC4 hb hxb r3
  cases b
  · obtain rfl : D = (0, 0, false) := by rw [HD.out]; unfold dueL; rw [HXB.out]; rfl
    go_wp2
    go_ret3
    exact ⟨rfl, below_tr HB3.out (below_alloc (Below.refl _ _) _)⟩
  · have HW := Lib.hid (show D = if (wh (ing r c) x.f1).2 = true then ((wh (ing r c) x.f1).1, x.f2, true) else (0, 0, false) by rw [HD.out]; unfold dueL; rw [HXB.out]; rfl)
    have HLI := Lib.hid (HLX.out (by first | rfl | trivial))
    obtain ⟨w4, hw4⟩ : ∃ w4, w3.alloc (.cells #[.string x.f0, .int .i64 x.f1.f0, .int .i64 x.f1.f1, .string x.f1.f2, .slice A4 x.f1.f3.length c4, .int .i64 x.f2] 96 (0, 0)) = w4 := ⟨_, rfl⟩
    have HB4 := Lib.hid (show Below w3.heap.size w3 w4 by rw [← hw4]; exact below_alloc (Below.refl _ _) _)
    have HY4 := Lib.hid (show w4.heap[w3.heap.size]? = some (.cells #[.string x.f0, .int .i64 x.f1.f0, .int .i64 x.f1.f1, .string x.f1.f2, .slice A4 x.f1.f3.length c4, .int .i64 x.f2] 96 (0, 0)) by rw [← hw4]; exact new_blk w3 _)
    have HW4 := Lib.hid hw4
    clear hw4
    have HY14 := Lib.hid ((HB4.out.block _ (blk_lt HY13.out)).trans HY13.out)
    have HY24 := Lib.hid ((HB4.out.block _ (blk_lt HY23.out)).trans HY23.out)
    have r0 : w4.cell? ⟨W.heap.size, 0, none⟩ = some (.string r.f0) := (blk_cell HY14.out 0).trans rfl
    have r1 : w4.cell? ⟨W.heap.size, 1, none⟩ = some (.string r.f1) := (blk_cell HY14.out 1).trans rfl
    have r2 : w4.cell? ⟨W.heap.size, 2, none⟩ = some (.string r.f2) := (blk_cell HY14.out 2).trans rfl
    have r3 : w4.cell? ⟨W.heap.size, 3, none⟩ = some (.string r.f3) := (blk_cell HY14.out 3).trans rfl
    have r4 : w4.cell? ⟨W.heap.size, 4, none⟩ = some (.int .i64 r.f4) := (blk_cell HY14.out 4).trans rfl
    have r5 : w4.cell? ⟨W.heap.size, 5, none⟩ = some (.int .i64 r.f5) := (blk_cell HY14.out 5).trans rfl
    have c0 : w4.cell? ⟨W.heap.size + 1, 0, none⟩ = some (.string c.f0) := (blk_cell HY24.out 0).trans rfl
    have c1 : w4.cell? ⟨W.heap.size + 1, 1, none⟩ = some (.slice Am c.f1.length cm) := (blk_cell HY24.out 1).trans rfl
    have x0 : w4.cell? ⟨w3.heap.size, 0, none⟩ = some (.string x.f0) := (blk_cell HY4.out 0).trans rfl
    have x1 : w4.cell? ⟨w3.heap.size, 1, none⟩ = some (.int .i64 x.f1.f0) := (blk_cell HY4.out 1).trans rfl
    have x2 : w4.cell? ⟨w3.heap.size, 2, none⟩ = some (.int .i64 x.f1.f1) := (blk_cell HY4.out 2).trans rfl
    have x3 : w4.cell? ⟨w3.heap.size, 3, none⟩ = some (.string x.f1.f2) := (blk_cell HY4.out 3).trans rfl
    have x4 : w4.cell? ⟨w3.heap.size, 4, none⟩ = some (.slice A4 x.f1.f3.length c4) := (blk_cell HY4.out 4).trans rfl
    have x5 : w4.cell? ⟨w3.heap.size, 5, none⟩ = some (.int .i64 x.f2) := (blk_cell HY4.out 5).trans rfl
    have HMI := fun w' (h : Below w4.heap.size w4 w') => Lib.hid (MilesR_any r c Am cm w' (Kd.C_below HMC.out.1 (below_tr HB3.out (below_tr HB4.out h))) HMC.out.2.1 HMC.out.2.2)
    have HWH := fun w' (h : Below w4.heap.size w4 w') A5 c5 (h1 : (ing r c).length ≤ c5) (h2 : Kd.C k126 w' A5 (ing r c).length (ing r c)) => Lib.hid (WhenR_any 8 x.f1 A4 c4 (ing r c) A5 c5 w' HLI.out (Kd.C_below HC4.out.2 (below_tr HB4.out h)) HC4.out.1 h2 h1)
    generalize wh (ing r c) x.f1 = q at *
    obtain ⟨tv, tb⟩ := q
    go_wp2_with fail
    rw [HW4.out]
    refine WL.start (n := 11) (S := fun w' => Aside0 (Below w4.heap.size w4 w') ∧ w'.cell? ⟨W.heap.size, 0, none⟩ = some (.string r.f0) ∧ w'.cell? ⟨W.heap.size, 1, none⟩ = some (.string r.f1) ∧ w'.cell? ⟨W.heap.size, 2, none⟩ = some (.string r.f2) ∧ w'.cell? ⟨W.heap.size, 3, none⟩ = some (.string r.f3) ∧ w'.cell? ⟨W.heap.size, 4, none⟩ = some (.int .i64 r.f4) ∧ w'.cell? ⟨W.heap.size, 5, none⟩ = some (.int .i64 r.f5) ∧ w'.cell? ⟨W.heap.size + 1, 0, none⟩ = some (.string c.f0) ∧ w'.cell? ⟨W.heap.size + 1, 1, none⟩ = some (.slice Am c.f1.length cm) ∧ w'.cell? ⟨w3.heap.size, 1, none⟩ = some (.int .i64 x.f1.f0) ∧ w'.cell? ⟨w3.heap.size, 2, none⟩ = some (.int .i64 x.f1.f1) ∧ w'.cell? ⟨w3.heap.size, 3, none⟩ = some (.string x.f1.f2) ∧ w'.cell? ⟨w3.heap.size, 4, none⟩ = some (.slice A4 x.f1.f3.length c4) ∧ w'.cell? ⟨w3.heap.size, 5, none⟩ = some (.int .i64 x.f2)) (ds := []) [false, false, false, false, false, false, false, false, false, false, false] (by kernel_rfl) rfl rfl ⟨⟨below_drew (Below.refl _ _)⟩, r0, r1, r2, r3, r4, r5, c0, c1, x1, x2, x3, x4, x5⟩ (fun hHeld => ?_)
    refine WL.tab tab26_4 (fun HT_ => ?_)
    refine WL.more [0, 1, 2, 3, 4] ?_
    repeat (first
      | (refine WL.off (lb' := ?_) (ys := ?_) rfl rfl (by rfl) ?_ HT_.out ?_ (fun _ _ _ h => h) ?_ ?_; rotate_left 2; (focus dsimp only [List.set_cons_zero, List.set_cons_succ]; rfl); (focus kernel_rfl); (focus dsimp only [List.set_cons_zero, List.set_cons_succ]; rfl))
      | (refine WL.pure (lb' := ?_) (v := ?_) (ys := ?_) rfl rfl (by rfl) ?_ HT_.out ?_ (fun _ _ _ h => h) ?_ ?_ ?_; rotate_left 3; (focus dsimp only [List.set_cons_zero, List.set_cons_succ]; rfl); (focus kernel_rfl); (focus intro w'; go_simp; with_reducible rfl); (focus dsimp only [List.set_cons_zero, List.set_cons_succ]; rfl))
      | (refine WL.take (lb' := ?_) (v := ?_) (ys := ?_) rfl rfl (by rfl) ?_ HT_.out ?_ (fun _ _ _ h => h) hHeld ?_ ?_ ?_; rotate_left 3; (focus dsimp only [List.set_cons_zero, List.set_cons_succ]; rfl); (focus kernel_rfl); (focus rintro w' ⟨s0, s1, s2, s3, s4, s5, s6, s7, s8, s9, s10, s11, s12, s13⟩; go_simp; with_reducible rfl); (focus dsimp only [List.set_cons_zero, List.set_cons_succ]; rfl))
      | (refine WL.one (lb' := ?_) rfl rfl ?_ HT_.out ?_ (by decide) (fun K hK => ?_); rotate_left; (focus dsimp only [List.set_cons_zero, List.set_cons_succ]; rfl); (focus kernel_rfl); first
          | (refine goes_ Tryz.func52 (by kernel_rfl) rfl #[.agg #[.string r.f0, .string r.f1, .string r.f2, .string r.f3, .int .i64 r.f4, .int .i64 r.f5], .agg #[.string c.f0, .slice Am c.f1.length cm]] (by rfl) rfl rfl (by simp only [List.map_toArray, List.map_cons, List.map_nil]; rfl) ?_; (with_reducible refine ((HMI _ hHeld.1.out).out).mono ?_); rintro e w5 ⟨A5, c5, rfl, hl5, hC5, hb⟩; refine ⟨_, rfl, ?_⟩; have HM5 := Lib.hid (And.intro hl5 hC5); clear hl5 hC5; refine hK.out _ _ (by have h_ := hHeld.2; refine ⟨⟨below_tr hHeld.1.out hb⟩, ?_⟩; repeat (first | exact below_cell hb h_ | (refine ⟨below_cell hb h_.1, ?_⟩; replace h_ := h_.2))) (fun hHeld => ?_); clear hK K; refine WL.put (ys := ?_) ?_ ?_; rotate_left; (focus dsimp only [List.set_cons_zero, List.set_cons_succ]; rfl))))
    refine WL.more [5, 6, 7, 8, 9, 10] ?_
    repeat (first
      | (refine WL.off (lb' := ?_) (ys := ?_) rfl rfl (by rfl) ?_ HT_.out ?_ (fun _ _ _ h => h) ?_ ?_; rotate_left 2; (focus dsimp only [List.set_cons_zero, List.set_cons_succ]; rfl); (focus kernel_rfl); (focus dsimp only [List.set_cons_zero, List.set_cons_succ]; rfl))
      | (refine WL.pure (lb' := ?_) (v := ?_) (ys := ?_) rfl rfl (by rfl) ?_ HT_.out ?_ (fun _ _ _ h => h) ?_ ?_ ?_; rotate_left 3; (focus dsimp only [List.set_cons_zero, List.set_cons_succ]; rfl); (focus kernel_rfl); (focus intro w'; go_simp; with_reducible rfl); (focus dsimp only [List.set_cons_zero, List.set_cons_succ]; rfl))
      | (refine WL.take (lb' := ?_) (v := ?_) (ys := ?_) rfl rfl (by rfl) ?_ HT_.out ?_ (fun _ _ _ h => h) hHeld ?_ ?_ ?_; rotate_left 3; (focus dsimp only [List.set_cons_zero, List.set_cons_succ]; rfl); (focus kernel_rfl); (focus rintro w' ⟨s0, s1, s2, s3, s4, s5, s6, s7, s8, s9, s10, s11, s12, s13⟩; go_simp; with_reducible rfl); (focus dsimp only [List.set_cons_zero, List.set_cons_succ]; rfl))
      | (refine WL.one (lb' := ?_) rfl rfl ?_ HT_.out ?_ (by decide) (fun K hK => ?_); rotate_left; (focus dsimp only [List.set_cons_zero, List.set_cons_succ]; rfl); (focus kernel_rfl); first
          | (refine goes_ Tryz.func51 (by kernel_rfl) rfl #[.agg #[.int .i64 x.f1.f0, .int .i64 x.f1.f1, .string x.f1.f2, .slice A4 x.f1.f3.length c4], .slice A5 (ing r c).length c5] (by rfl) rfl rfl (by simp only [List.map_toArray, List.map_cons, List.map_nil]; rfl) ?_; (with_reducible refine ((HWH _ hHeld.1.out A5 c5 HM5.out.1 HM5.out.2).out).mono ?_); rintro e w6 ⟨rfl, hb⟩; refine ⟨_, rfl, ?_⟩; refine hK.out _ _ (by have h_ := hHeld.2; refine ⟨⟨below_tr hHeld.1.out hb⟩, ?_⟩; repeat (first | exact below_cell hb h_ | (refine ⟨below_cell hb h_.1, ?_⟩; replace h_ := h_.2))) (fun hHeld => ?_); clear hK K; refine WL.put (ys := ?_) ?_ ?_; rotate_left; (focus dsimp only [List.set_cons_zero, List.set_cons_succ]; rfl))))
    refine WL.done HT_.out (by kernel_rfl) ?_
    have HB6 := Lib.hid (below_tr HB3.out (below_tr HB4.out hHeld.1.out))
    obtain ⟨_, r0, r1, r2, r3, r4, r5, c0, c1, x1, x2, x3, x4, x5⟩ := hHeld
    cases tb
    · obtain rfl : D = (0, 0, false) := by rw [HW.out]; rfl
      go_wp2
      go_ret3
      exact ⟨rfl, HB6.out⟩
    · obtain rfl : D = (tv, x.f2, true) := by rw [HW.out]; rfl
      go_wp2_with fail
      go_quiet (fail)
      have HB7 := Lib.hid (pw_below_drewN HB6.out nq)
      go_wp2
      go_ret3
      exact ⟨rfl, HB7.out⟩

set_option maxHeartbeats 4000000 in
theorem OfP_any (l : List S96) (r : S48) (c : S61) (A : Option Addr) (ca : Nat) (Am : Option Addr) (cm : Nat) (W : World) (hC : Kd.C k96 W A l.length l) (hl : l.length ≤ ca) (hx : ∀ x ∈ l, lim 8 x.f1) (hM : Kd.C k126 W Am c.f1.length c.f1) (hm : c.f1.length ≤ cm) (hn : c.f1.length ≤ 1000) :
    Calls Tryz.prog 45 #[.slice A l.length ca, .agg #[.string r.f0, .string r.f1, .string r.f2, .string r.f3, .int .i64 r.f4, .int .i64 r.f5], .agg #[.string c.f0, .slice Am c.f1.length cm]] W (RDue (dueL l r c) W) := by
  have HB := Lib.hid (show Below W.heap.size W ((W.alloc (.cells #[.string r.f0, .string r.f1, .string r.f2, .string r.f3, .int .i64 r.f4, .int .i64 r.f5] 48 (0, 0))).alloc (.cells #[.string c.f0, .slice Am c.f1.length cm] 61 (0, 0))) from below_alloc (below_alloc (Below.refl _ _) _) _)
  have hz : (W.alloc (.cells #[.string r.f0, .string r.f1, .string r.f2, .string r.f3, .int .i64 r.f4, .int .i64 r.f5] 48 (0, 0))).heap.size = W.heap.size + 1 := by show (W.heap.push _).size = _; rw [Array.size_push]
  have hy1 := new_blk W (.cells #[.string r.f0, .string r.f1, .string r.f2, .string r.f3, .int .i64 r.f4, .int .i64 r.f5] 48 (0, 0))
  have hy2 := new_blk (W.alloc (.cells #[.string r.f0, .string r.f1, .string r.f2, .string r.f3, .int .i64 r.f4, .int .i64 r.f5] 48 (0, 0))) (.cells #[.string c.f0, .slice Am c.f1.length cm] 61 (0, 0))
  rw [hz] at hy2
  have HY1 := Lib.hid (((below_alloc (Below.refl (W.alloc (.cells #[.string r.f0, .string r.f1, .string r.f2, .string r.f3, .int .i64 r.f4, .int .i64 r.f5] 48 (0, 0))).heap.size _) (.cells #[.string c.f0, .slice Am c.f1.length cm] 61 (0, 0))).block W.heap.size (by rw [hz]; omega)).trans hy1)
  have HY2 := Lib.hid hy2
  have HMC := Lib.hid (And.intro hM (And.intro hm hn))
  have HLX := Lib.hid (fun h => lim8_find l r.f3 hx h)
  have HF := Lib.hid (FindP_any l A ca r.f3 _ (Kd.C_below hC HB.out) hl)
  have HD := Lib.hid (show dueL l r c = dueL l r c from rfl)
  have r3 : ((W.alloc (.cells #[.string r.f0, .string r.f1, .string r.f2, .string r.f3, .int .i64 r.f4, .int .i64 r.f5] 48 (0, 0))).alloc (.cells #[.string c.f0, .slice Am c.f1.length cm] 61 (0, 0))).cell? ⟨W.heap.size, 3, none⟩ = some (.string r.f3) := (blk_cell HY1.out 3).trans rfl
  clear hC hl hx hM hm hn hz hy1 hy2
  obtain ⟨D, hD⟩ : ∃ D, D = dueL l r c := ⟨_, rfl⟩
  rw [← hD]
  replace HD := Lib.hid hD
  clear hD
  go_enter Tryz.func45, Tryz.ntmps45
  go_wp2_with fail
  generalize (W.alloc (.cells #[.string r.f0, .string r.f1, .string r.f2, .string r.f3, .int .i64 r.f4, .int .i64 r.f5] 48 (0, 0))).alloc (.cells #[.string c.f0, .slice Am c.f1.length cm] 61 (0, 0)) = W2 at *
  refine HF.out.mono ?_
  rintro e w3 ⟨A4, c4, rfl, hl4, hC4, hb⟩
  generalize hxb : find2 l r.f3 = xb at *
  obtain ⟨x, b⟩ := xb
  have HB3 := Lib.hid (below_tr HB.out hb)
  have HY13 := Lib.hid ((hb.block _ (blk_lt HY1.out)).trans HY1.out)
  have HY23 := Lib.hid ((hb.block _ (blk_lt HY2.out)).trans HY2.out)
  have HC4 := Lib.hid (And.intro hl4 hC4)
  have HXB := Lib.hid hxb
  clear hl4 hC4 hb hxb r3
  cases b
  · obtain rfl : D = (0, 0, false) := by rw [HD.out]; unfold dueL; rw [HXB.out]; rfl
    go_wp2
    go_ret3
    exact ⟨rfl, below_tr HB3.out (below_alloc (Below.refl _ _) _)⟩
  · have HW := Lib.hid (show D = if (wh (ing r c) x.f1).2 = true then ((wh (ing r c) x.f1).1, x.f2, true) else (0, 0, false) by rw [HD.out]; unfold dueL; rw [HXB.out]; rfl)
    have HLI := Lib.hid (HLX.out (by first | rfl | trivial))
    obtain ⟨w4, hw4⟩ : ∃ w4, w3.alloc (.cells #[.string x.f0, .int .i64 x.f1.f0, .int .i64 x.f1.f1, .string x.f1.f2, .slice A4 x.f1.f3.length c4, .int .i64 x.f2] 96 (0, 0)) = w4 := ⟨_, rfl⟩
    have HB4 := Lib.hid (show Below w3.heap.size w3 w4 by rw [← hw4]; exact below_alloc (Below.refl _ _) _)
    have HY4 := Lib.hid (show w4.heap[w3.heap.size]? = some (.cells #[.string x.f0, .int .i64 x.f1.f0, .int .i64 x.f1.f1, .string x.f1.f2, .slice A4 x.f1.f3.length c4, .int .i64 x.f2] 96 (0, 0)) by rw [← hw4]; exact new_blk w3 _)
    have HW4 := Lib.hid hw4
    clear hw4
    have HY14 := Lib.hid ((HB4.out.block _ (blk_lt HY13.out)).trans HY13.out)
    have HY24 := Lib.hid ((HB4.out.block _ (blk_lt HY23.out)).trans HY23.out)
    have r0 : w4.cell? ⟨W.heap.size, 0, none⟩ = some (.string r.f0) := (blk_cell HY14.out 0).trans rfl
    have r1 : w4.cell? ⟨W.heap.size, 1, none⟩ = some (.string r.f1) := (blk_cell HY14.out 1).trans rfl
    have r2 : w4.cell? ⟨W.heap.size, 2, none⟩ = some (.string r.f2) := (blk_cell HY14.out 2).trans rfl
    have r3 : w4.cell? ⟨W.heap.size, 3, none⟩ = some (.string r.f3) := (blk_cell HY14.out 3).trans rfl
    have r4 : w4.cell? ⟨W.heap.size, 4, none⟩ = some (.int .i64 r.f4) := (blk_cell HY14.out 4).trans rfl
    have r5 : w4.cell? ⟨W.heap.size, 5, none⟩ = some (.int .i64 r.f5) := (blk_cell HY14.out 5).trans rfl
    have c0 : w4.cell? ⟨W.heap.size + 1, 0, none⟩ = some (.string c.f0) := (blk_cell HY24.out 0).trans rfl
    have c1 : w4.cell? ⟨W.heap.size + 1, 1, none⟩ = some (.slice Am c.f1.length cm) := (blk_cell HY24.out 1).trans rfl
    have x0 : w4.cell? ⟨w3.heap.size, 0, none⟩ = some (.string x.f0) := (blk_cell HY4.out 0).trans rfl
    have x1 : w4.cell? ⟨w3.heap.size, 1, none⟩ = some (.int .i64 x.f1.f0) := (blk_cell HY4.out 1).trans rfl
    have x2 : w4.cell? ⟨w3.heap.size, 2, none⟩ = some (.int .i64 x.f1.f1) := (blk_cell HY4.out 2).trans rfl
    have x3 : w4.cell? ⟨w3.heap.size, 3, none⟩ = some (.string x.f1.f2) := (blk_cell HY4.out 3).trans rfl
    have x4 : w4.cell? ⟨w3.heap.size, 4, none⟩ = some (.slice A4 x.f1.f3.length c4) := (blk_cell HY4.out 4).trans rfl
    have x5 : w4.cell? ⟨w3.heap.size, 5, none⟩ = some (.int .i64 x.f2) := (blk_cell HY4.out 5).trans rfl
    have HMI := fun w' (h : Below w4.heap.size w4 w') => Lib.hid (MilesP_any r c Am cm w' (Kd.C_below HMC.out.1 (below_tr HB3.out (below_tr HB4.out h))) HMC.out.2.1 HMC.out.2.2)
    have HWH := fun w' (h : Below w4.heap.size w4 w') A5 c5 (h1 : (ing r c).length ≤ c5) (h2 : Kd.C k126 w' A5 (ing r c).length (ing r c)) => Lib.hid (When_any 8 x.f1 HLI.out A4 c4 (ing r c) A5 c5 w' (Kd.C_below HC4.out.2 (below_tr HB4.out h)) HC4.out.1 h2 h1)
    generalize wh (ing r c) x.f1 = q at *
    obtain ⟨tv, tb⟩ := q
    go_wp2_with fail
    rw [HW4.out]
    refine WL.start (n := 11) (S := fun w' => Aside0 (Below w4.heap.size w4 w') ∧ w'.cell? ⟨W.heap.size, 0, none⟩ = some (.string r.f0) ∧ w'.cell? ⟨W.heap.size, 1, none⟩ = some (.string r.f1) ∧ w'.cell? ⟨W.heap.size, 2, none⟩ = some (.string r.f2) ∧ w'.cell? ⟨W.heap.size, 3, none⟩ = some (.string r.f3) ∧ w'.cell? ⟨W.heap.size, 4, none⟩ = some (.int .i64 r.f4) ∧ w'.cell? ⟨W.heap.size, 5, none⟩ = some (.int .i64 r.f5) ∧ w'.cell? ⟨W.heap.size + 1, 0, none⟩ = some (.string c.f0) ∧ w'.cell? ⟨W.heap.size + 1, 1, none⟩ = some (.slice Am c.f1.length cm) ∧ w'.cell? ⟨w3.heap.size, 1, none⟩ = some (.int .i64 x.f1.f0) ∧ w'.cell? ⟨w3.heap.size, 2, none⟩ = some (.int .i64 x.f1.f1) ∧ w'.cell? ⟨w3.heap.size, 3, none⟩ = some (.string x.f1.f2) ∧ w'.cell? ⟨w3.heap.size, 4, none⟩ = some (.slice A4 x.f1.f3.length c4) ∧ w'.cell? ⟨w3.heap.size, 5, none⟩ = some (.int .i64 x.f2)) (ds := []) [false, false, false, false, false, false, false, false, false, false, false] (by kernel_rfl) rfl rfl ⟨⟨below_drew (Below.refl _ _)⟩, r0, r1, r2, r3, r4, r5, c0, c1, x1, x2, x3, x4, x5⟩ (fun hHeld => ?_)
    refine WL.tab tab50_4 (fun HT_ => ?_)
    refine WL.more [0, 1, 2, 3, 4] ?_
    repeat (first
      | (refine WL.off (lb' := ?_) (ys := ?_) rfl rfl (by rfl) ?_ HT_.out ?_ (fun _ _ _ h => h) ?_ ?_; rotate_left 2; (focus dsimp only [List.set_cons_zero, List.set_cons_succ]; rfl); (focus kernel_rfl); (focus dsimp only [List.set_cons_zero, List.set_cons_succ]; rfl))
      | (refine WL.pure (lb' := ?_) (v := ?_) (ys := ?_) rfl rfl (by rfl) ?_ HT_.out ?_ (fun _ _ _ h => h) ?_ ?_ ?_; rotate_left 3; (focus dsimp only [List.set_cons_zero, List.set_cons_succ]; rfl); (focus kernel_rfl); (focus intro w'; go_simp; with_reducible rfl); (focus dsimp only [List.set_cons_zero, List.set_cons_succ]; rfl))
      | (refine WL.take (lb' := ?_) (v := ?_) (ys := ?_) rfl rfl (by rfl) ?_ HT_.out ?_ (fun _ _ _ h => h) hHeld ?_ ?_ ?_; rotate_left 3; (focus dsimp only [List.set_cons_zero, List.set_cons_succ]; rfl); (focus kernel_rfl); (focus rintro w' ⟨s0, s1, s2, s3, s4, s5, s6, s7, s8, s9, s10, s11, s12, s13⟩; go_simp; with_reducible rfl); (focus dsimp only [List.set_cons_zero, List.set_cons_succ]; rfl))
      | (refine WL.one (lb' := ?_) rfl rfl ?_ HT_.out ?_ (by decide) (fun K hK => ?_); rotate_left; (focus dsimp only [List.set_cons_zero, List.set_cons_succ]; rfl); (focus kernel_rfl); first
          | (refine goes_ Tryz.func80 (by kernel_rfl) rfl #[.agg #[.string r.f0, .string r.f1, .string r.f2, .string r.f3, .int .i64 r.f4, .int .i64 r.f5], .agg #[.string c.f0, .slice Am c.f1.length cm]] (by rfl) rfl rfl (by simp only [List.map_toArray, List.map_cons, List.map_nil]; rfl) ?_; (with_reducible refine ((HMI _ hHeld.1.out).out).mono ?_); rintro e w5 ⟨A5, c5, rfl, hl5, hC5, hb⟩; refine ⟨_, rfl, ?_⟩; have HM5 := Lib.hid (And.intro hl5 hC5); clear hl5 hC5; refine hK.out _ _ (by have h_ := hHeld.2; refine ⟨⟨below_tr hHeld.1.out hb⟩, ?_⟩; repeat (first | exact below_cell hb h_ | (refine ⟨below_cell hb h_.1, ?_⟩; replace h_ := h_.2))) (fun hHeld => ?_); clear hK K; refine WL.put (ys := ?_) ?_ ?_; rotate_left; (focus dsimp only [List.set_cons_zero, List.set_cons_succ]; rfl))))
    refine WL.more [5, 6, 7, 8, 9, 10] ?_
    repeat (first
      | (refine WL.off (lb' := ?_) (ys := ?_) rfl rfl (by rfl) ?_ HT_.out ?_ (fun _ _ _ h => h) ?_ ?_; rotate_left 2; (focus dsimp only [List.set_cons_zero, List.set_cons_succ]; rfl); (focus kernel_rfl); (focus dsimp only [List.set_cons_zero, List.set_cons_succ]; rfl))
      | (refine WL.pure (lb' := ?_) (v := ?_) (ys := ?_) rfl rfl (by rfl) ?_ HT_.out ?_ (fun _ _ _ h => h) ?_ ?_ ?_; rotate_left 3; (focus dsimp only [List.set_cons_zero, List.set_cons_succ]; rfl); (focus kernel_rfl); (focus intro w'; go_simp; with_reducible rfl); (focus dsimp only [List.set_cons_zero, List.set_cons_succ]; rfl))
      | (refine WL.take (lb' := ?_) (v := ?_) (ys := ?_) rfl rfl (by rfl) ?_ HT_.out ?_ (fun _ _ _ h => h) hHeld ?_ ?_ ?_; rotate_left 3; (focus dsimp only [List.set_cons_zero, List.set_cons_succ]; rfl); (focus kernel_rfl); (focus rintro w' ⟨s0, s1, s2, s3, s4, s5, s6, s7, s8, s9, s10, s11, s12, s13⟩; go_simp; with_reducible rfl); (focus dsimp only [List.set_cons_zero, List.set_cons_succ]; rfl))
      | (refine WL.one (lb' := ?_) rfl rfl ?_ HT_.out ?_ (by decide) (fun K hK => ?_); rotate_left; (focus dsimp only [List.set_cons_zero, List.set_cons_succ]; rfl); (focus kernel_rfl); first
          | (refine goes_ Tryz.func79 (by kernel_rfl) rfl #[.agg #[.int .i64 x.f1.f0, .int .i64 x.f1.f1, .string x.f1.f2, .slice A4 x.f1.f3.length c4], .slice A5 (ing r c).length c5] (by rfl) rfl rfl (by simp only [List.map_toArray, List.map_cons, List.map_nil]; rfl) ?_; (with_reducible refine ((HWH _ hHeld.1.out A5 c5 HM5.out.1 HM5.out.2).out).mono ?_); rintro e w6 ⟨rfl, hb⟩; refine ⟨_, rfl, ?_⟩; refine hK.out _ _ (by have h_ := hHeld.2; refine ⟨⟨below_tr hHeld.1.out hb⟩, ?_⟩; repeat (first | exact below_cell hb h_ | (refine ⟨below_cell hb h_.1, ?_⟩; replace h_ := h_.2))) (fun hHeld => ?_); clear hK K; refine WL.put (ys := ?_) ?_ ?_; rotate_left; (focus dsimp only [List.set_cons_zero, List.set_cons_succ]; rfl))))
    refine WL.done HT_.out (by kernel_rfl) ?_
    have HB6 := Lib.hid (below_tr HB3.out (below_tr HB4.out hHeld.1.out))
    obtain ⟨_, r0, r1, r2, r3, r4, r5, c0, c1, x1, x2, x3, x4, x5⟩ := hHeld
    cases tb
    · obtain rfl : D = (0, 0, false) := by rw [HW.out]; rfl
      go_wp2
      go_ret3
      exact ⟨rfl, HB6.out⟩
    · obtain rfl : D = (tv, x.f2, true) := by rw [HW.out]; rfl
      go_wp2_with fail
      go_quiet (fail)
      have HB7 := Lib.hid (pw_below_drewN HB6.out nq)
      go_wp2
      go_ret3
      exact ⟨rfl, HB7.out⟩
end Go.Proofs.YtafigkikblpbnaaGreatDoor.PG
namespace Go.Proofs.YtafigkikblpbnaaGreatDoor.PG
open Go.RowKit Go.Proofs.YtafigkikblpbnaaGreatDoorW.PrintWords Go.Proofs.YtafigkikblpbnaaGreatDoorW.PrintLast Go.Proofs.YtafigkikblpbnaaGreatDoorW.PrintMore
set_option linter.unusedVariables false
set_option linter.unusedSimpArgs false
set_option maxRecDepth 100000

set_option maxHeartbeats 1000000 in
theorem holds_any (d : Nat) (x : S78) (r : S48) (A : Option Addr) (c : Nat) (W : World) (hd : dp d x.f1) (hC : Kd.C k76 W A x.f1.f4.length x.f1.f4) (hl : x.f1.f4.length ≤ c) : Calls Tryz.prog 60 #[.agg #[.string x.f0, .int .i64 x.f1.f0, .string x.f1.f1, .int .i64 x.f1.f2, .int .i64 x.f1.f3, .slice A x.f1.f4.length c, .bool x.f2], .agg #[.string r.f0, .string r.f1, .string r.f2, .string r.f3, .int .i64 r.f4, .int .i64 r.f5]] W fun e W' => e = .returned (.bool (x.f2 && mt d x.f1 r)) ∧ Below W.heap.size W W' := by
  have HB := Lib.hid (show Below W.heap.size W ((W.alloc (.cells #[.string x.f0, .int .i64 x.f1.f0, .string x.f1.f1, .int .i64 x.f1.f2, .int .i64 x.f1.f3, .slice A x.f1.f4.length c, .bool x.f2] 78 (0, 0))).alloc (.cells #[.string r.f0, .string r.f1, .string r.f2, .string r.f3, .int .i64 r.f4, .int .i64 r.f5] 48 (0, 0))) from below_alloc (below_alloc (Below.refl _ _) _) _)
  have HCALL := Lib.hid (match_any d x.f1 r A c ((W.alloc (.cells #[.string x.f0, .int .i64 x.f1.f0, .string x.f1.f1, .int .i64 x.f1.f2, .int .i64 x.f1.f3, .slice A x.f1.f4.length c, .bool x.f2] 78 (0, 0))).alloc (.cells #[.string r.f0, .string r.f1, .string r.f2, .string r.f3, .int .i64 r.f4, .int .i64 r.f5] 48 (0, 0))) hd (Kd.C_below hC HB.out) hl)
  clear hd hC
  generalize hq : mt d x.f1 r = q at *
  generalize x.f2 = b at *
  cases b
  · go_enter Tryz.func60, Tryz.ntmps60
    go_wp2
    go_ret
    exact ⟨rfl, HB.out⟩
  · go_enter Tryz.func60, Tryz.ntmps60
    go_wp2_with fail
    refine HCALL.out.mono ?_
    rintro e w2 ⟨rfl, hb⟩
    have HB2 := Lib.hid (below_tr HB.out hb)
    clear hb
    go_wp2
    go_ret
    exact ⟨by simp, HB2.out⟩
set_option maxHeartbeats 1000000 in
theorem lit79_any (d : Nat) (x : S78) (r : S48) (A : Option Addr) (c : Nat) (br : Nat) (W : World) (hd : dp d x.f1) (hC : Kd.C k76 W A x.f1.f4.length x.f1.f4) (hl : x.f1.f4.length ≤ c) (hbr : W.heap[br]? = some (.cells #[.string r.f0, .string r.f1, .string r.f2, .string r.f3, .int .i64 r.f4, .int .i64 r.f5] 48 (0, 0))) :
    Calls Tryz.prog 82 #[.agg #[.string x.f0, .int .i64 x.f1.f0, .string x.f1.f1, .int .i64 x.f1.f2, .int .i64 x.f1.f3, .slice A x.f1.f4.length c, .bool x.f2], .pointer (some ⟨br, 0, none⟩)] W fun e W' => e = .returned (.bool (x.f2 && mt d x.f1 r)) ∧ Below W.heap.size W W' := by
  have HB := Lib.hid (show Below W.heap.size W (W.alloc (.cells #[.string x.f0, .int .i64 x.f1.f0, .string x.f1.f1, .int .i64 x.f1.f2, .int .i64 x.f1.f3, .slice A x.f1.f4.length c, .bool x.f2] 78 (0, 0))) from below_alloc (Below.refl _ _) _)
  have HR := Lib.hid ((HB.out.block br (blk_lt hbr)).trans hbr)
  have HCALL := Lib.hid (holds_any d x r A c (W.alloc (.cells #[.string x.f0, .int .i64 x.f1.f0, .string x.f1.f1, .int .i64 x.f1.f2, .int .i64 x.f1.f3, .slice A x.f1.f4.length c, .bool x.f2] 78 (0, 0))) hd (Kd.C_below hC HB.out) hl)
  have r0 : (W.alloc (.cells #[.string x.f0, .int .i64 x.f1.f0, .string x.f1.f1, .int .i64 x.f1.f2, .int .i64 x.f1.f3, .slice A x.f1.f4.length c, .bool x.f2] 78 (0, 0))).cell? ⟨br, 0, none⟩ = some (.string r.f0) := (blk_cell HR.out 0).trans rfl
  have r1 : (W.alloc (.cells #[.string x.f0, .int .i64 x.f1.f0, .string x.f1.f1, .int .i64 x.f1.f2, .int .i64 x.f1.f3, .slice A x.f1.f4.length c, .bool x.f2] 78 (0, 0))).cell? ⟨br, 1, none⟩ = some (.string r.f1) := (blk_cell HR.out 1).trans rfl
  have r2 : (W.alloc (.cells #[.string x.f0, .int .i64 x.f1.f0, .string x.f1.f1, .int .i64 x.f1.f2, .int .i64 x.f1.f3, .slice A x.f1.f4.length c, .bool x.f2] 78 (0, 0))).cell? ⟨br, 2, none⟩ = some (.string r.f2) := (blk_cell HR.out 2).trans rfl
  have r3 : (W.alloc (.cells #[.string x.f0, .int .i64 x.f1.f0, .string x.f1.f1, .int .i64 x.f1.f2, .int .i64 x.f1.f3, .slice A x.f1.f4.length c, .bool x.f2] 78 (0, 0))).cell? ⟨br, 3, none⟩ = some (.string r.f3) := (blk_cell HR.out 3).trans rfl
  have r4 : (W.alloc (.cells #[.string x.f0, .int .i64 x.f1.f0, .string x.f1.f1, .int .i64 x.f1.f2, .int .i64 x.f1.f3, .slice A x.f1.f4.length c, .bool x.f2] 78 (0, 0))).cell? ⟨br, 4, none⟩ = some (.int .i64 r.f4) := (blk_cell HR.out 4).trans rfl
  have r5 : (W.alloc (.cells #[.string x.f0, .int .i64 x.f1.f0, .string x.f1.f1, .int .i64 x.f1.f2, .int .i64 x.f1.f3, .slice A x.f1.f4.length c, .bool x.f2] 78 (0, 0))).cell? ⟨br, 5, none⟩ = some (.int .i64 r.f5) := (blk_cell HR.out 5).trans rfl
  clear hbr hC hd
  generalize (x.f2 && mt d x.f1 r) = q at *
  go_enter Tryz.func82, Tryz.ntmps82
  go_wp2_with fail
  refine HCALL.out.mono ?_
  rintro e w2 ⟨rfl, hb⟩
  go_wp2
  go_ret
  exact ⟨rfl, below_tr HB.out hb⟩

theorem drop_idxH {l : List S78} {i : Nat} (h : i < l.length) : l.drop i = rd_T78 l (i : Int) :: l.drop (i + 1) := by
  rw [List.drop_eq_getElem_cons h]
  simp [rd_T78, List.getElem?_eq_getElem h, List.getD_eq_getElem?_getD]
set_option maxHeartbeats 1000000 in
theorem idxH (p : S78 → Bool) (A : Option Addr) (c : Nat) (l : List S78) (br : Nat) (w : World) (hr : Kd.C k78 w A l.length l)
    (hf : ∀ x ∈ l, ∀ A4 c4 W, Below w.heap.size w W → Kd.C k76 W A4 x.f1.f4.length x.f1.f4 → x.f1.f4.length ≤ c4 → Calls Tryz.prog 82 #[.agg #[.string x.f0, .int .i64 x.f1.f0, .string x.f1.f1, .int .i64 x.f1.f2, .int .i64 x.f1.f3, .slice A4 x.f1.f4.length c4, .bool x.f2], .pointer (some ⟨br, 0, none⟩)] W fun e W' => e = .returned (.bool (p x)) ∧ Below W.heap.size W W') :
    Calls Tryz.prog 117 #[.slice A l.length c, .func (Fn.func 82) #[] #[.pointer (some ⟨br, 0, none⟩)]] w fun e w' => e = .returned (.int .i64 (ix p l 0)) ∧ Below w.heap.size w w' := by
  have hm : l.length ≤ 9223372036854775807 := hr.2.1
  have HF := Lib.hid hf
  clear hf
  go_enter Tryz.func117, Tryz.ntmps117
  go_wp2
  go_loopw [8] (fun v8 wr => ∃ k : Nat, k ≤ l.length ∧ v8 = .int .i64 k ∧ Aside0 (Below w.heap.size w wr) ∧ Aside0 (ix p l 0 = ix p (l.drop k) k)) (fun v8 _ => l.length - (intOf v8).toNat)
  case atStart => exact ⟨0, Nat.zero_le _, rfl, ⟨Below.refl _ _⟩, ⟨by rw [List.drop_zero]⟩⟩
  case round =>
    obtain ⟨k, hk, rfl, HB, HI⟩ := hrel
    by_cases hlt : k < l.length
    · obtain ⟨ad, A4, c4, e, h0, h1, h2, h3, h4, h5, h6, hl4, hC4⟩ := at_T78 (Kd.C_below hr HB.out) (k : Int) (by omega) (by omega)
      subst e
      simp only [Int.toNat_natCast] at h0 h1 h2 h3 h4 h5 h6
      have hd := drop_idxH hlt
      have hmem : rd_T78 l (k : Int) ∈ l := by
        have : rd_T78 l (k : Int) ∈ l.drop k := by rw [hd]; exact List.mem_cons.2 (.inl rfl)
        exact List.mem_of_mem_drop this
      have HI2 := Lib.hid (show ix p l 0 = if p (rd_T78 l (k : Int)) = true then (k : Int) else ix p (l.drop (k + 1)) (k + 1) by rw [HI.out, hd]; rfl)
      have HCALL := Lib.hid (HF.out _ hmem A4 c4 wr HB.out hC4 hl4)
      clear hd hmem hC4 hl4
      generalize rd_T78 l (k : Int) = x at *
      generalize hpx : p x = px at *
      clear hpx
      go_wp2_with fail
      refine HCALL.out.mono ?_
      rintro e w2 ⟨rfl, hb⟩
      have HB2 := Lib.hid (below_tr HB.out hb)
      clear hb h0 h1 h2 h3 h4 h5 h6
      cases px
      · go_wp2
        go_roundw
        case rel => exact ⟨k + 1, by omega, by go_num, ⟨HB2.out⟩, ⟨by rw [HI2.out, if_neg (by decide)]⟩⟩
        case measure => simp [intOf]; omega
      · go_wp2
        go_ret
        exact ⟨ret_i (by rw [HI2.out]; simp), HB2.out⟩
    · have hk2 : k = l.length := by omega
      have HK := Lib.hid hk2
      clear hk2
      go_wp2
      go_ret
      exact ⟨ret_i (by rw [HI.out, HK.out, List.drop_of_length_le (Nat.le_refl _)]; rfl), HB.out⟩

theorem contH (p : S78 → Bool) (A : Option Addr) (c : Nat) (l : List S78) (br : Nat) (w : World) (hr : Kd.C k78 w A l.length l)
    (hf : ∀ x ∈ l, ∀ A4 c4 W, Below w.heap.size w W → Kd.C k76 W A4 x.f1.f4.length x.f1.f4 → x.f1.f4.length ≤ c4 → Calls Tryz.prog 82 #[.agg #[.string x.f0, .int .i64 x.f1.f0, .string x.f1.f1, .int .i64 x.f1.f2, .int .i64 x.f1.f3, .slice A4 x.f1.f4.length c4, .bool x.f2], .pointer (some ⟨br, 0, none⟩)] W fun e W' => e = .returned (.bool (p x)) ∧ Below W.heap.size W W') :
    Calls Tryz.prog 81 #[.slice A l.length c, .func (Fn.func 82) #[] #[.pointer (some ⟨br, 0, none⟩)]] w fun e w' => e = .returned (.bool (l.any p)) ∧ Below w.heap.size w w' := by
  have HC := Lib.hid (idxH p A c l br w hr hf)
  have hx := ix_any p l 0
  generalize ix p l 0 = i at *
  clear hf hr
  go_enter Tryz.func81, Tryz.ntmps81
  go_wp2_with fail
  refine HC.out.mono ?_
  rintro e w2 ⟨rfl, hb⟩
  have HX := Lib.hid hx
  clear hx
  go_wp2
  go_ret
  exact ⟨ret_b HX.out, hb⟩

set_option maxHeartbeats 1000000 in
theorem Held_any (d : Nat) (l : List S78) (r : S48) (A : Option Addr) (c : Nat) (w : World) (hd : ∀ x ∈ l, dp d x.f1) (hr : Kd.C k78 w A l.length l) : Calls Tryz.prog 47 #[.slice A l.length c, .agg #[.string r.f0, .string r.f1, .string r.f2, .string r.f3, .int .i64 r.f4, .int .i64 r.f5]] w fun e w' => e = .returned (.bool (l.any fun x => x.f2 && mt d x.f1 r)) ∧ Below w.heap.size w w' := by
  have HB := Lib.hid (show Below w.heap.size w (w.alloc (.cells #[.string r.f0, .string r.f1, .string r.f2, .string r.f3, .int .i64 r.f4, .int .i64 r.f5] 48 (0, 0))) from below_alloc (Below.refl _ _) _)
  have HY := Lib.hid (new_blk w (.cells #[.string r.f0, .string r.f1, .string r.f2, .string r.f3, .int .i64 r.f4, .int .i64 r.f5] 48 (0, 0)))
  have HCALL := Lib.hid (contH (fun x => x.f2 && mt d x.f1 r) A c l w.heap.size (w.alloc (.cells #[.string r.f0, .string r.f1, .string r.f2, .string r.f3, .int .i64 r.f4, .int .i64 r.f5] 48 (0, 0))) (Kd.C_below hr HB.out) (fun x hx A4 c4 W hb hC4 hl4 => lit79_any d x r A4 c4 w.heap.size W (hd x hx) hC4 hl4 ((hb.block _ (blk_lt HY.out)).trans HY.out)))
  clear hr hd
  generalize (l.any fun x => x.f2 && mt d x.f1 r) = q at *
  go_enter Tryz.func47, Tryz.ntmps47
  go_wp2_with fail
  refine HCALL.out.mono ?_
  rintro e w2 ⟨rfl, hb⟩
  go_wp2
  go_ret
  exact ⟨rfl, below_tr HB.out hb⟩

theorem lit77_any (x : S61) (t : ByteArray) (A : Option Addr) (c : Nat) (br : Nat) (W : World) (hbr : W.heap[br]? = some (.cells #[.string t] 9 (0, 0))) :
    Calls Tryz.prog 77 #[.agg #[.string x.f0, .slice A x.f1.length c], .pointer (some ⟨br, 0, none⟩)] W fun e W' => e = .returned (.bool (nm59 t x)) ∧ Below W.heap.size W W' := by
  have HB := Lib.hid (show Below W.heap.size W (W.alloc (.cells #[.string x.f0, .slice A x.f1.length c] 61 (0, 0))) from below_alloc (Below.refl _ _) _)
  have HR := Lib.hid ((HB.out.block br (blk_lt hbr)).trans hbr)
  have r0 : (W.alloc (.cells #[.string x.f0, .slice A x.f1.length c] 61 (0, 0))).cell? ⟨br, 0, none⟩ = some (.string t) := (blk_cell HR.out 0).trans rfl
  clear hbr
  show Calls Tryz.prog 77 #[.agg #[.string x.f0, .slice A x.f1.length c], .pointer (some ⟨br, 0, none⟩)] W fun e W' => e = .returned (.bool (x.f0.toList == t.toList)) ∧ Below W.heap.size W W'
  go_enter Tryz.func77, Tryz.ntmps77
  go_wp2
  go_ret
  exact ⟨rfl, HB.out⟩

theorem drop_idxC {l : List S61} {i : Nat} (h : i < l.length) : l.drop i = rd_T61 l (i : Int) :: l.drop (i + 1) := by
  rw [List.drop_eq_getElem_cons h]
  simp [rd_T61, List.getElem?_eq_getElem h, List.getD_eq_getElem?_getD]
set_option maxHeartbeats 1000000 in
theorem idxC (p : S61 → Bool) (A : Option Addr) (c : Nat) (l : List S61) (br : Nat) (w : World) (hr : Kd.C k61 w A l.length l)
    (hf : ∀ x ∈ l, ∀ A4 c4 W, Below w.heap.size w W → Kd.C k126 W A4 x.f1.length x.f1 → x.f1.length ≤ c4 → Calls Tryz.prog 77 #[.agg #[.string x.f0, .slice A4 x.f1.length c4], .pointer (some ⟨br, 0, none⟩)] W fun e W' => e = .returned (.bool (p x)) ∧ Below W.heap.size W W') :
    Calls Tryz.prog 108 #[.slice A l.length c, .func (Fn.func 77) #[] #[.pointer (some ⟨br, 0, none⟩)]] w fun e w' => e = .returned (.int .i64 (ix p l 0)) ∧ Below w.heap.size w w' := by
  have hm : l.length ≤ 9223372036854775807 := hr.2.1
  have HF := Lib.hid hf
  clear hf
  go_enter Tryz.func108, Tryz.ntmps108
  go_wp2
  go_loopw [8] (fun v8 wr => ∃ k : Nat, k ≤ l.length ∧ v8 = .int .i64 k ∧ Aside0 (Below w.heap.size w wr) ∧ Aside0 (ix p l 0 = ix p (l.drop k) k)) (fun v8 _ => l.length - (intOf v8).toNat)
  case atStart => exact ⟨0, Nat.zero_le _, rfl, ⟨Below.refl _ _⟩, ⟨by rw [List.drop_zero]⟩⟩
  case round =>
    obtain ⟨k, hk, rfl, HB, HI⟩ := hrel
    by_cases hlt : k < l.length
    · obtain ⟨ad, A4, c4, e, h0, h1, hl4, hC4⟩ := at_T61 (Kd.C_below hr HB.out) (k : Int) (by omega) (by omega)
      subst e
      simp only [Int.toNat_natCast] at h0 h1
      have hd := drop_idxC hlt
      have hmem : rd_T61 l (k : Int) ∈ l := by
        have : rd_T61 l (k : Int) ∈ l.drop k := by rw [hd]; exact List.mem_cons.2 (.inl rfl)
        exact List.mem_of_mem_drop this
      have HI2 := Lib.hid (show ix p l 0 = if p (rd_T61 l (k : Int)) = true then (k : Int) else ix p (l.drop (k + 1)) (k + 1) by rw [HI.out, hd]; rfl)
      have HCALL := Lib.hid (HF.out _ hmem A4 c4 wr HB.out hC4 hl4)
      clear hd hmem hC4 hl4
      generalize rd_T61 l (k : Int) = x at *
      generalize hpx : p x = px at *
      clear hpx
      go_wp2_with fail
      refine HCALL.out.mono ?_
      rintro e w2 ⟨rfl, hb⟩
      have HB2 := Lib.hid (below_tr HB.out hb)
      clear hb h0 h1
      cases px
      · go_wp2
        go_roundw
        case rel => exact ⟨k + 1, by omega, by go_num, ⟨HB2.out⟩, ⟨by rw [HI2.out, if_neg (by decide)]⟩⟩
        case measure => simp [intOf]; omega
      · go_wp2
        go_ret
        exact ⟨ret_i (by rw [HI2.out]; simp), HB2.out⟩
    · have hk2 : k = l.length := by omega
      have HK := Lib.hid hk2
      clear hk2
      go_wp2
      go_ret
      exact ⟨ret_i (by rw [HI.out, HK.out, List.drop_of_length_le (Nat.le_refl _)]; rfl), HB.out⟩

set_option maxHeartbeats 1000000 in
theorem place_any (l : List S61) (t : ByteArray) (A : Option Addr) (c : Nat) (br : Nat) (w : World) (hr : Kd.C k61 w A l.length l) (hbr : w.heap[br]? = some (.cells #[.string t] 9 (0, 0))) :
    Calls Tryz.prog 76 #[.slice A l.length c, .func (Fn.func 77) #[] #[.pointer (some ⟨br, 0, none⟩)]] w fun e w' => e = .returned (.tuple #[.int .i64 (max (ix (nm59 t) l 0) 0), .bool (decide (ix (nm59 t) l 0 ≥ 0))]) ∧ Below w.heap.size w w' := by
  have HCALL := Lib.hid (idxC (nm59 t) A c l br w hr (fun x hx A4 c4 W hb hC4 hl4 => lit77_any x t A4 c4 br W ((hb.block _ (blk_lt hbr)).trans hbr)))
  clear hr hbr
  generalize ix (nm59 t) l 0 = i at *
  go_enter Tryz.func76, Tryz.ntmps76
  go_wp2_with fail
  refine HCALL.out.mono ?_
  rintro e w2 ⟨rfl, hb⟩
  have HB := Lib.hid hb
  clear hb
  go_wp2
  all_goals
    go_ret2
    exact ⟨by first | rfl | (simp; omega) | simp_all, HB.out⟩

set_option maxHeartbeats 1000000 in
theorem catCase_any (s : S31) (A2 A3 A4 A5 A6 A7 A8 : Option Addr) (c2 c3 c4 c5 c6 c7 c8 : Nat) (t : ByteArray) (w : World) (hs : Rs w s A2 A3 A4 A5 A6 A7 A8 c2 c3 c4 c5 c6 c7 c8) : Calls Tryz.prog 44 #[.agg #[.int .i64 s.f0, .int .u64 s.f1, .slice A2 s.f2.length c2, .slice A3 s.f3.length c3, .slice A4 s.f4.length c4, .slice A5 s.f5.length c5, .slice A6 s.f6.length c6, .slice A7 s.f7.length c7, .slice A8 s.f8.length c8, .int .i64 s.f9], .string t] w fun e w' => e = .returned (.tuple #[.int .i64 (max (ix (nm59 t) s.f3 0) 0), .bool (decide (ix (nm59 t) s.f3 0 ≥ 0))]) ∧ Below w.heap.size w w' := by
  have HB := Lib.hid (show Below w.heap.size w ((w.alloc (.cells #[.int .i64 s.f0, .int .u64 s.f1, .slice A2 s.f2.length c2, .slice A3 s.f3.length c3, .slice A4 s.f4.length c4, .slice A5 s.f5.length c5, .slice A6 s.f6.length c6, .slice A7 s.f7.length c7, .slice A8 s.f8.length c8, .int .i64 s.f9] 31 (0, 0))).alloc (.cells #[.string t] 9 (0, 0))) from below_alloc (below_alloc (Below.refl _ _) _) _)
  have hz : (w.alloc (.cells #[.int .i64 s.f0, .int .u64 s.f1, .slice A2 s.f2.length c2, .slice A3 s.f3.length c3, .slice A4 s.f4.length c4, .slice A5 s.f5.length c5, .slice A6 s.f6.length c6, .slice A7 s.f7.length c7, .slice A8 s.f8.length c8, .int .i64 s.f9] 31 (0, 0))).heap.size = w.heap.size + 1 := by show (w.heap.push _).size = _; rw [Array.size_push]
  have hyt := new_blk (w.alloc (.cells #[.int .i64 s.f0, .int .u64 s.f1, .slice A2 s.f2.length c2, .slice A3 s.f3.length c3, .slice A4 s.f4.length c4, .slice A5 s.f5.length c5, .slice A6 s.f6.length c6, .slice A7 s.f7.length c7, .slice A8 s.f8.length c8, .int .i64 s.f9] 31 (0, 0))) (.cells #[.string t] 9 (0, 0))
  rw [hz] at hyt
  have HCALL := Lib.hid (place_any s.f3 t A3 c3 (w.heap.size + 1) ((w.alloc (.cells #[.int .i64 s.f0, .int .u64 s.f1, .slice A2 s.f2.length c2, .slice A3 s.f3.length c3, .slice A4 s.f4.length c4, .slice A5 s.f5.length c5, .slice A6 s.f6.length c6, .slice A7 s.f7.length c7, .slice A8 s.f8.length c8, .int .i64 s.f9] 31 (0, 0))).alloc (.cells #[.string t] 9 (0, 0))) (Kd.C_below hs.g3 HB.out) hyt)
  clear hs hyt hz
  generalize ix (nm59 t) s.f3 0 = i at *
  go_enter Tryz.func44, Tryz.ntmps44
  go_wp2_with fail
  refine HCALL.out.mono ?_
  rintro e w2 ⟨rfl, hb⟩
  go_wp2
  go_ret2
  exact ⟨rfl, below_tr HB.out hb⟩
end Go.Proofs.YtafigkikblpbnaaGreatDoor.PG
