/- Contracts of the package stamp's functions, next part: are two rows the same. -/
import Derived.Test.YtdpcfamgmicboadStampE
namespace Go.Proofs.Ytdpcfamgmicboad
open Go.RowKit Go.Flt Go.Proofs.YtdpcfamgmicboadW.PrintWords
attribute [local go_sem] run_neg_float run_store_complex run_store_float
theorem eq_rel {x y : Nat} {a b : Int} (h : F x a) (g : F y b) (ha : a.natAbs < 2 ^ 53) (hb : b.natAbs < 2 ^ 53) : (FloatKind.f64.format.order x y == some Ordering.eq) = decide (a = b) := by
  have ho := order_rel h g ha hb
  have hc : compare a b = (if a < b then .lt else if a = b then .eq else .gt) := rfl
  rw [hc] at ho
  rw [ho]
  by_cases h1 : a < b
  · rw [if_pos h1]; simp; omega
  · rw [if_neg h1]
    by_cases h2 : a = b
    · rw [if_pos h2]; simp [h2]
    · rw [if_neg h2]; simp [h2]
set_option maxHeartbeats 4000000 in
theorem equal_any (A : Option Addr) (c : Nat) (bs : List (Nat × Nat)) (zs : List CX) (A2 : Option Addr) (c2 : Nat) (bs2 : List (Nat × Nat)) (zs2 : List CX) (w : World)
    (hsm : ∀ z ∈ zs, sm 1000000000000 z) (hr : Kd.C kb w A zs.length bs) (t : Rels bs zs) (hsm2 : ∀ z ∈ zs2, sm 1000000000000 z) (hr2 : Kd.C kb w A2 zs2.length bs2) (t2 : Rels bs2 zs2) (hl : zs.length ≤ 1000000) (_hl2 : zs2.length ≤ 1000000) (hll : zs.length = zs2.length) :
    Calls Try.prog 36 #[.slice A zs.length c, .slice A2 zs2.length c2] w fun e w' => e = .returned (.bool (decide (zs = zs2))) ∧ Below w.heap.size w w' := by
  have hne : ((zs.length : Int) != (zs2.length : Int)) = false := by rw [hll]; simp
  have hne2 : (zs.length == zs2.length) = true := by rw [hll]; simp
  have HLL := Lib.hid hll
  clear hll
  generalize hR : decide (zs = zs2) = R
  have HR := Lib.hid hR
  clear hR
  go_enter Try.func36, Try.ntmps36
  go_wp2
  go_loopw [13] (fun v13 wr => ∃ i : Nat, i ≤ zs.length ∧ v13 = .int .i64 i ∧ Aside0 (Below w.heap.size w wr) ∧ Aside0 (decide (zs.drop i = zs2.drop i) = R)) (fun v13 _ => zs.length - (intOf v13).toNat)
  case atStart => exact ⟨0, by omega, rfl, ⟨Below.refl _ _⟩, ⟨HR.out⟩⟩
  case round =>
    obtain ⟨i, hi, rfl, HB, HI⟩ := hrel
    by_cases hlt : i < zs.length
    · have hlt2 : i < zs2.length := by have := HLL.out; omega
      obtain ⟨ad, e, h0⟩ := at_kb (Kd.C_below hr HB.out) (i : Int) (by omega) (by omega)
      subst e
      obtain ⟨ad2, e, k0⟩ := at_kb (Kd.C_below hr2 HB.out) (i : Int) (by omega) (by omega)
      subst e
      have hrd : rdOf (0, 0) bs (i : Int) = bs.getD i (0, 0) := rfl
      have hrd2 : rdOf (0, 0) bs2 (i : Int) = bs2.getD i (0, 0) := rfl
      rw [hrd] at h0
      rw [hrd2] at k0
      clear hrd hrd2
      simp only [Int.toNat_natCast] at h0 k0
      have HRI := Lib.hid (t.2 i hlt)
      have HZ := Lib.hid (show sm 1000000000000 (zs.getD i cxZero) by rw [List.getD_eq_getElem?_getD, List.getElem?_eq_getElem hlt]; exact hsm _ (List.getElem_mem hlt))
      have HD := Lib.hid (drop_z hlt)
      have HRI2 := Lib.hid (t2.2 i hlt2)
      have HZ2 := Lib.hid (show sm 1000000000000 (zs2.getD i cxZero) by rw [List.getD_eq_getElem?_getD, List.getElem?_eq_getElem hlt2]; exact hsm2 _ (List.getElem_mem hlt2))
      have HD2 := Lib.hid (drop_z hlt2)
      generalize bs.getD i (0, 0) = b at *
      generalize zs.getD i cxZero = z at *
      generalize bs2.getD i (0, 0) = b2 at *
      generalize zs2.getD i cxZero = z2 at *
      by_cases hre : z.re = z2.re
      · by_cases him : z.im = z2.im
        · have e1 : (FloatKind.f64.format.order b.1 b2.1 == some Ordering.eq) = true := by rw [eq_rel HRI.out.1 HRI2.out.1 (by have := HZ.out.1; omega) (by have := HZ2.out.1; omega)]; simp [hre]
          have e2 : (FloatKind.f64.format.order b.2 b2.2 == some Ordering.eq) = true := by rw [eq_rel HRI.out.2 HRI2.out.2 (by have := HZ.out.2; omega) (by have := HZ2.out.2; omega)]; simp [him]
          have HEQ := Lib.hid (show z = z2 by cases z; cases z2; simp_all)
          clear hre him
          go_wp2
          go_quiet (fail)
          go_wp2
          go_roundw
          case rel => exact ⟨i + 1, by omega, by go_num, ⟨pw_below_drewN HB.out _⟩, ⟨by have := HI.out; rw [HD.out, HD2.out, HEQ.out] at this; simpa using this⟩⟩
          case measure => simp [intOf]; omega
        · have e1 : (FloatKind.f64.format.order b.1 b2.1 == some Ordering.eq) = true := by rw [eq_rel HRI.out.1 HRI2.out.1 (by have := HZ.out.1; omega) (by have := HZ2.out.1; omega)]; simp [hre]
          have e2 : (FloatKind.f64.format.order b.2 b2.2 == some Ordering.eq) = false := by rw [eq_rel HRI.out.2 HRI2.out.2 (by have := HZ.out.2; omega) (by have := HZ2.out.2; omega)]; simp [him]
          have HNE := Lib.hid (show z ≠ z2 by intro h; exact him (by rw [h]))
          clear hre him
          go_wp2
          go_quiet (fail)
          go_wp2
          go_ret
          exact ⟨by have := HI.out; rw [HD.out, HD2.out] at this; simp [HNE.out] at this; rw [← this]; rfl, pw_below_drewN HB.out _⟩
      · have HNE := Lib.hid (show z ≠ z2 by intro h; exact hre (by rw [h]))
        have e1 : (FloatKind.f64.format.order b.1 b2.1 == some Ordering.eq) = false := by rw [eq_rel HRI.out.1 HRI2.out.1 (by have := HZ.out.1; omega) (by have := HZ2.out.1; omega)]; simp [hre]
        clear hre
        go_wp2
        go_quiet (fail)
        go_wp2
        go_ret
        exact ⟨by have := HI.out; rw [HD.out, HD2.out] at this; simp [HNE.out] at this; rw [← this]; rfl, pw_below_drewN HB.out _⟩
    · have HE := Lib.hid (show zs.drop i = [] from List.drop_of_length_le (by omega))
      have HE2 := Lib.hid (show zs2.drop i = [] from List.drop_of_length_le (by have := HLL.out; omega))
      go_wp2
      go_ret
      exact ⟨by have := HI.out; rw [HE.out, HE2.out] at this; simp at this; rw [← this]; rfl, HB.out⟩
end Go.Proofs.Ytdpcfamgmicboad
