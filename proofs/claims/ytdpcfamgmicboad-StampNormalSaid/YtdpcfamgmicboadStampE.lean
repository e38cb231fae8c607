/- Contracts of the package stamp's functions, next part: rows of points against each other. -/
import Derived.Test.YtdpcfamgmicboadStampD
namespace Go.Proofs.Ytdpcfamgmicboad
open Go.RowKit Go.Flt Go.Proofs.YtdpcfamgmicboadW.PrintWords
attribute [local go_sem] run_neg_float run_store_complex run_store_float
/-- Rows of points against each other. -/
def cmpL : List CX → List CX → Int
  | [], [] => 0
  | [], _ :: _ => -1
  | _ :: _, [] => 1
  | x :: xs, y :: ys => if cmpz x y ≠ 0 then cmpz x y else cmpL xs ys
theorem drop_z {l : List CX} {i : Nat} (h : i < l.length) : l.drop i = l.getD i cxZero :: l.drop (i + 1) := by
  rw [List.drop_eq_getElem_cons h]
  simp [List.getElem?_eq_getElem h, List.getD_eq_getElem?_getD]
set_option maxHeartbeats 4000000 in
theorem compare_any (A : Option Addr) (c : Nat) (bs : List (Nat × Nat)) (zs : List CX) (A2 : Option Addr) (c2 : Nat) (bs2 : List (Nat × Nat)) (zs2 : List CX) (w : World)
    (hsm : ∀ z ∈ zs, sm 1000000000000 z) (hr : Kd.C kb w A zs.length bs) (t : Rels bs zs) (hsm2 : ∀ z ∈ zs2, sm 1000000000000 z) (hr2 : Kd.C kb w A2 zs2.length bs2) (t2 : Rels bs2 zs2) (hl : zs.length ≤ 1000000) (hl2 : zs2.length ≤ 1000000) :
    Calls Try.prog 34 #[.slice A zs.length c, .slice A2 zs2.length c2, .func (Fn.func 35) #[] #[]] w fun e w' => e = .returned (.int .i64 (cmpL zs zs2)) ∧ Below w.heap.size w w' := by
  generalize hR : cmpL zs zs2 = R
  have HR := Lib.hid hR
  clear hR
  go_enter Try.func34, Try.ntmps34
  go_wp2
  go_loopw [13] (fun v13 wr => ∃ i : Nat, i ≤ zs.length ∧ i ≤ zs2.length ∧ v13 = .int .i64 i ∧ Aside0 (Below w.heap.size w wr) ∧ Aside0 (cmpL (zs.drop i) (zs2.drop i) = R)) (fun v13 _ => zs.length - (intOf v13).toNat)
  case atStart => exact ⟨0, by omega, by omega, rfl, ⟨Below.refl _ _⟩, ⟨HR.out⟩⟩
  case round =>
    obtain ⟨i, hi, hi2, rfl, HB, HI⟩ := hrel
    by_cases hlt : i < zs.length
    · obtain ⟨ad, e, h0⟩ := at_kb (Kd.C_below hr HB.out) (i : Int) (by omega) (by omega)
      subst e
      have hrd : rdOf (0, 0) bs (i : Int) = bs.getD i (0, 0) := rfl
      rw [hrd] at h0
      clear hrd
      simp only [Int.toNat_natCast] at h0
      have HRI := Lib.hid (t.2 i hlt)
      have HZ := Lib.hid (show sm 1000000000000 (zs.getD i cxZero) by rw [List.getD_eq_getElem?_getD, List.getElem?_eq_getElem hlt]; exact hsm _ (List.getElem_mem hlt))
      have HD := Lib.hid (drop_z hlt)
      generalize bs.getD i (0, 0) = b at *
      generalize zs.getD i cxZero = z at *
      by_cases hlt2 : i < zs2.length
      · obtain ⟨ad2, e, k0⟩ := at_kb (Kd.C_below hr2 HB.out) (i : Int) (by omega) (by omega)
        subst e
        have hrd : rdOf (0, 0) bs2 (i : Int) = bs2.getD i (0, 0) := rfl
        rw [hrd] at k0
        clear hrd
        simp only [Int.toNat_natCast] at k0
        have HRI2 := Lib.hid (t2.2 i hlt2)
        have HZ2 := Lib.hid (show sm 1000000000000 (zs2.getD i cxZero) by rw [List.getD_eq_getElem?_getD, List.getElem?_eq_getElem hlt2]; exact hsm2 _ (List.getElem_mem hlt2))
        have HD2 := Lib.hid (drop_z hlt2)
        generalize bs2.getD i (0, 0) = b2 at *
        generalize zs2.getD i cxZero = z2 at *
        have HO := Lib.hid (fun w => order_any b b2 z z2 HRI.out HRI2.out HZ.out HZ2.out w)
        have HS := Lib.hid (show (if cmpz z z2 ≠ 0 then cmpz z z2 else cmpL (zs.drop (i + 1)) (zs2.drop (i + 1))) = R by have := HI.out; rw [HD.out, HD2.out] at this; exact this)
        generalize cmpz z z2 = q at *
        by_cases hq : q = 0
        · have hq1 : (q != 0) = false := by rw [hq]; rfl
          have HQ := Lib.hid hq
          clear hq
          go_wp2_with (go_at_call 35; refine (HO.out _).mono ?_; rintro e w2 ⟨rfl, hb⟩)
          go_roundw
          case rel => exact ⟨i + 1, by omega, by omega, by go_num, ⟨below_tr HB.out hb⟩, ⟨by have := HS.out; rw [if_neg (by simp [HQ.out])] at this; exact this⟩⟩
          case measure => simp [intOf]; omega
        · have hq1 : (q != 0) = true := bne_iff_ne.2 hq
          have HQ := Lib.hid hq
          clear hq
          go_wp2_with (go_at_call 35; refine (HO.out _).mono ?_; rintro e w2 ⟨rfl, hb⟩)
          go_ret
          exact ⟨ret_i (by have := HS.out; rw [if_pos HQ.out] at this; exact this), below_tr HB.out hb⟩
      · have HE := Lib.hid (show zs2.drop i = [] from List.drop_of_length_le (by omega))
        go_wp2
        go_ret
        exact ⟨ret_i (by have := HI.out; rw [HD.out, HE.out] at this; exact this), HB.out⟩
    · have HE := Lib.hid (show zs.drop i = [] from List.drop_of_length_le (by omega))
      have he : i = zs.length := by omega
      by_cases hlt2 : zs.length < zs2.length
      · have HD2 := Lib.hid (drop_z (show i < zs2.length by omega))
        clear he
        go_wp2
        go_ret
        exact ⟨ret_i (by have := HI.out; rw [HE.out, HD2.out] at this; exact this), HB.out⟩
      · have HE2 := Lib.hid (show zs2.drop i = [] from List.drop_of_length_le (by omega))
        clear he
        go_wp2
        go_ret
        exact ⟨ret_i (by have := HI.out; rw [HE.out, HE2.out] at this; exact this), HB.out⟩
set_option maxHeartbeats 4000000 in
theorem normal1_any (A : Option Addr) (c : Nat) (bs : List (Nat × Nat)) (zs : List CX) (A2 : Option Addr) (c2 : Nat) (bs2 : List (Nat × Nat)) (zs2 : List CX) (w : World)
    (hsm : ∀ z ∈ zs, sm 1000000000000 z) (hr : Kd.C kb w A zs.length bs) (t : Rels bs zs) (hsm2 : ∀ z ∈ zs2, sm 1000000000000 z) (hr2 : Kd.C kb w A2 zs2.length bs2) (t2 : Rels bs2 zs2) (hl : zs.length ≤ 1000000) (hl2 : zs2.length ≤ 1000000) :
    Calls Try.prog 33 #[.slice A zs.length c, .slice A2 zs2.length c2] w fun e w' => e = .returned (.int .i64 (cmpL zs zs2)) ∧ Below w.heap.size w w' := by
  go_enter Try.func33, Try.ntmps33
  go_wp2_with fail
  refine (compare_any A c bs zs A2 c2 bs2 zs2 _ hsm hr t hsm2 hr2 t2 hl hl2).mono ?_
  rintro e w2 ⟨rfl, hb⟩
  go_wp2
  go_ret
  exact ⟨rfl, hb⟩
end Go.Proofs.Ytdpcfamgmicboad
