/- Contracts of the law's own functions over points, and of Same: numbers with small whole parts. -/
import Derived.Test.YtdpcfamgmicboadStampI
import Derived.Test.YtdpcfamgmicboadPStampNx0
namespace Go.Proofs.Ytdpcfamgmicboad
open Go.RowKit Go.Flt Go.Proofs.YtdpcfamgmicboadW.PrintWords
attribute [local go_sem] run_neg_float run_store_complex run_store_float
set_option linter.unusedVariables false
abbrev Pt := PStampN.S24
abbrev toZ (s : Pt) : CX := ⟨s.f0, s.f1⟩
def ofZ (l : List Pt) : List CX := l.map toZ
theorem ofZ_len (l : List Pt) : (ofZ l).length = l.length := List.length_map _
theorem rd_take {l : List Pt} {i : Nat} (h : i < l.length) : ofZ (l.take (i + 1)) = ofZ (l.take i) ++ [toZ (PStampN.rd_T24 l (i : Int))] := by
  unfold ofZ PStampN.rd_T24
  rw [List.take_succ_eq_append_getElem h, List.map_append]
  simp [List.getD_eq_getElem?_getD, List.getElem?_eq_getElem h]
theorem rd_mem {l : List Pt} {i : Nat} (h : i < l.length) : toZ (PStampN.rd_T24 l (i : Int)) ∈ ofZ l := by
  unfold ofZ PStampN.rd_T24
  simp only [Int.toNat_natCast, List.getD_eq_getElem?_getD, List.getElem?_eq_getElem h, Option.getD_some]
  exact List.mem_map_of_mem (List.getElem_mem h)
theorem drop_of {l : List Pt} {i : Nat} (h : i < l.length) : ofZ (l.drop i) = toZ (PStampN.rd_T24 l (i : Int)) :: ofZ (l.drop (i + 1)) := by
  unfold ofZ PStampN.rd_T24
  rw [List.drop_eq_getElem_cons h, List.map_cons]
  simp [List.getD_eq_getElem?_getD, List.getElem?_eq_getElem h]
set_option maxHeartbeats 8000000 in
theorem told_any (A : Option Addr) (c : Nat) (bs : List (Nat × Nat)) (zs : List CX) (A2 : Option Addr) (c2 : Nat) (l : List Pt) (w : World)
    (hsm : ∀ z ∈ zs, sm 1000000000000 z) (hr : Kd.C kb w A zs.length bs) (t : Rels bs zs) (hsm2 : ∀ z ∈ ofZ l, sm 1000000000000 z) (hr2 : Kd.C PStampN.k24 w A2 l.length l) (hl : zs.length ≤ 1000000) (hl2 : l.length ≤ 1000000) :
    Calls Try.prog 10 #[.slice A zs.length c, .slice A2 l.length c2] w fun e w' => e = .returned (.bool (decide (zs = ofZ l))) ∧ Below w.heap.size w w' := by
  by_cases hll : zs.length = l.length
  · have hne : ((zs.length : Int) != (l.length : Int)) = false := by rw [hll]; simp
    have hne2 : (zs.length == l.length) = true := by rw [hll]; simp
    have HLL := Lib.hid hll
    clear hll
    generalize hR : decide (zs = ofZ l) = R
    have HR := Lib.hid hR
    clear hR
    go_enter Try.func10, Try.ntmps10
    go_wp2
    go_loopw [5] (fun v13 wr => ∃ i : Nat, i ≤ zs.length ∧ v13 = .int .i64 i ∧ Aside0 (Below w.heap.size w wr) ∧ Aside0 (decide (zs.drop i = ofZ (l.drop i)) = R)) (fun v13 _ => zs.length - (intOf v13).toNat)
    case atStart => exact ⟨0, by omega, rfl, ⟨Below.refl _ _⟩, ⟨HR.out⟩⟩
    case round =>
      obtain ⟨i, hi, rfl, HB, HI⟩ := hrel
      by_cases hlt : i < zs.length
      · have hlt2 : i < l.length := by have := HLL.out; omega
        obtain ⟨ad, e, h0⟩ := at_kb (Kd.C_below hr HB.out) (i : Int) (by omega) (by omega)
        subst e
        obtain ⟨ad2, e, k0, k1⟩ := PStampN.at_T24 (Kd.C_below hr2 HB.out) (i : Int) (by omega) (by omega)
        subst e
        have hrd : rdOf (0, 0) bs (i : Int) = bs.getD i (0, 0) := rfl
        rw [hrd] at h0
        clear hrd
        simp only [Int.toNat_natCast] at h0 k0 k1
        have HRI := Lib.hid (t.2 i hlt)
        have HZ := Lib.hid (show sm 1000000000000 (zs.getD i cxZero) by rw [List.getD_eq_getElem?_getD, List.getElem?_eq_getElem hlt]; exact hsm _ (List.getElem_mem hlt))
        have HD := Lib.hid (drop_z hlt)
        have HZ2 := Lib.hid (hsm2 _ (rd_mem hlt2))
        have HD2 := Lib.hid (drop_of hlt2)
        generalize bs.getD i (0, 0) = b at *
        generalize zs.getD i cxZero = z at *
        generalize PStampN.rd_T24 l (i : Int) = p at *
        have HF0 := Lib.hid (show F (floatOfInt .f64 p.f0) p.f0 from enc_F p.f0 (by have : p.f0.natAbs ≤ 1000000000000 := HZ2.out.1; omega))
        have HF1 := Lib.hid (show F (floatOfInt .f64 p.f1) p.f1 from enc_F p.f1 (by have : p.f1.natAbs ≤ 1000000000000 := HZ2.out.2; omega))
        by_cases hre : z.re = p.f0
        · by_cases him : z.im = p.f1
          · have e1 : (FloatKind.f64.format.order b.1 (floatOfInt .f64 p.f0) != some Ordering.eq) = false := by rw [show ∀ x : Option Ordering, (x != some Ordering.eq) = !(x == some Ordering.eq) from fun _ => rfl]; rw [eq_rel (b := p.f0) HRI.out.1 HF0.out (by have := HZ.out.1; omega) (by have : p.f0.natAbs ≤ 1000000000000 := HZ2.out.1; omega)]; simp [hre]
            have e2 : (FloatKind.f64.format.order b.2 (floatOfInt .f64 p.f1) != some Ordering.eq) = false := by rw [show ∀ x : Option Ordering, (x != some Ordering.eq) = !(x == some Ordering.eq) from fun _ => rfl]; rw [eq_rel (b := p.f1) HRI.out.2 HF1.out (by have := HZ.out.2; omega) (by have : p.f1.natAbs ≤ 1000000000000 := HZ2.out.2; omega)]; simp [him]
            have HEQ := Lib.hid (show z = toZ p by cases z; cases p; simp_all)
            clear hre him
            go_wp2
            go_quiet (fail)
            go_wp2
            go_roundw
            case rel => exact ⟨i + 1, by omega, by go_num, ⟨pw_below_drewN HB.out _⟩, ⟨by have := HI.out; rw [HD.out, HD2.out, HEQ.out] at this; simpa using this⟩⟩
            case measure => simp [intOf]; omega
          · have e1 : (FloatKind.f64.format.order b.1 (floatOfInt .f64 p.f0) != some Ordering.eq) = false := by rw [show ∀ x : Option Ordering, (x != some Ordering.eq) = !(x == some Ordering.eq) from fun _ => rfl]; rw [eq_rel (b := p.f0) HRI.out.1 HF0.out (by have := HZ.out.1; omega) (by have : p.f0.natAbs ≤ 1000000000000 := HZ2.out.1; omega)]; simp [hre]
            have e2 : (FloatKind.f64.format.order b.2 (floatOfInt .f64 p.f1) != some Ordering.eq) = true := by rw [show ∀ x : Option Ordering, (x != some Ordering.eq) = !(x == some Ordering.eq) from fun _ => rfl]; rw [eq_rel (b := p.f1) HRI.out.2 HF1.out (by have := HZ.out.2; omega) (by have : p.f1.natAbs ≤ 1000000000000 := HZ2.out.2; omega)]; simp [him]
            have HNE := Lib.hid (show z ≠ toZ p by intro h; exact him (by rw [h]))
            clear hre him
            go_wp2
            go_quiet (fail)
            go_wp2
            go_ret
            exact ⟨by have := HI.out; rw [HD.out, HD2.out] at this; simp [HNE.out] at this; rw [← this]; rfl, pw_below_drewN HB.out _⟩
        · have HNE := Lib.hid (show z ≠ toZ p by intro h; exact hre (by rw [h]))
          have e1 : (FloatKind.f64.format.order b.1 (floatOfInt .f64 p.f0) != some Ordering.eq) = true := by rw [show ∀ x : Option Ordering, (x != some Ordering.eq) = !(x == some Ordering.eq) from fun _ => rfl]; rw [eq_rel (b := p.f0) HRI.out.1 HF0.out (by have := HZ.out.1; omega) (by have : p.f0.natAbs ≤ 1000000000000 := HZ2.out.1; omega)]; simp [hre]
          clear hre
          go_wp2
          go_quiet (fail)
          go_wp2
          go_ret
          exact ⟨by have := HI.out; rw [HD.out, HD2.out] at this; simp [HNE.out] at this; rw [← this]; rfl, pw_below_drewN HB.out _⟩
      · have HE := Lib.hid (show zs.drop i = [] from List.drop_of_length_le (by omega))
        have HE2 := Lib.hid (show l.drop i = [] from List.drop_of_length_le (by have := HLL.out; omega))
        have hlt2 : ¬ i < l.length := by have := HLL.out; omega
        go_wp2
        go_ret
        exact ⟨by have := HI.out; rw [HE.out, HE2.out] at this; simp [ofZ] at this; rw [← this]; rfl, HB.out⟩
  · have HD := Lib.hid (show decide (zs = ofZ l) = false by simp; intro h; exact hll (by rw [h, ofZ_len]))
    have hne : ((zs.length : Int) != (l.length : Int)) = true := by simp; omega
    have hne2 : (zs.length == l.length) = false := by simp [hll]
    rw [HD.out]
    clear HD
    go_enter Try.func10, Try.ntmps10
    go_wp2
    go_ret
    exact ⟨rfl, Below.refl _ _⟩
set_option maxHeartbeats 4000000 in
theorem equal_all (A : Option Addr) (c : Nat) (bs : List (Nat × Nat)) (zs : List CX) (A2 : Option Addr) (c2 : Nat) (bs2 : List (Nat × Nat)) (zs2 : List CX) (w : World)
    (hsm : ∀ z ∈ zs, sm 1000000000000 z) (hr : Kd.C kb w A zs.length bs) (t : Rels bs zs) (hsm2 : ∀ z ∈ zs2, sm 1000000000000 z) (hr2 : Kd.C kb w A2 zs2.length bs2) (t2 : Rels bs2 zs2) (hl : zs.length ≤ 1000000) (hl2 : zs2.length ≤ 1000000) :
    Calls Try.prog 36 #[.slice A zs.length c, .slice A2 zs2.length c2] w fun e w' => e = .returned (.bool (decide (zs = zs2))) ∧ Below w.heap.size w w' := by
  by_cases hll : zs.length = zs2.length
  · exact equal_any A c bs zs A2 c2 bs2 zs2 w hsm hr t hsm2 hr2 t2 hl hl2 hll
  · have HD := Lib.hid (show decide (zs = zs2) = false by simp; intro h; exact hll (by rw [h]))
    have hne : ((zs.length : Int) != (zs2.length : Int)) = true := by simp; omega
    have hne2 : (zs.length == zs2.length) = false := by simp [hll]
    rw [HD.out]
    clear HD
    go_enter Try.func36, Try.ntmps36
    go_wp2
    go_ret
    exact ⟨rfl, Below.refl _ _⟩
theorem norm_len (zs : List CX) : (normZ zs).length = zs.length := way_len _ _
set_option maxHeartbeats 4000000 in
theorem same_any (A : Option Addr) (c : Nat) (bs : List (Nat × Nat)) (zs : List CX) (A2 : Option Addr) (c2 : Nat) (bs2 : List (Nat × Nat)) (zs2 : List CX) (w : World)
    (hsm : ∀ z ∈ zs, sm 100000 z) (hr : Kd.C kb w A zs.length bs) (t : Rels bs zs) (hsm2 : ∀ z ∈ zs2, sm 100000 z) (hr2 : Kd.C kb w A2 zs2.length bs2) (t2 : Rels bs2 zs2) (hl : zs.length ≤ 1000) (hl2 : zs2.length ≤ 1000) :
    Calls Try.prog 20 #[.slice A zs.length c, .slice A2 zs2.length c2] w fun e w' => e = .returned (.bool (decide (normZ zs = normZ zs2))) ∧ Below w.heap.size w w' := by
  go_enter Try.func20, Try.ntmps20
  go_wp2_with fail
  refine (normal_any A c bs zs w hsm hr t hl).mono ?_
  rintro e w1 ⟨u1, rfl, hR1, hb1⟩
  obtain ⟨A1, c1, bs1, rfl, hC1, hr1⟩ := row_n hR1 zs.length (norm_len zs)
  have B1 := Lib.hid hb1
  have C1 := Lib.hid hC1
  have D1 := Lib.hid hr1
  clear hR1 hb1 hC1 hr1
  go_wp2_with fail
  refine (normal_any A2 c2 bs2 zs2 w1 hsm2 (Kd.C_below hr2 B1.out) t2 hl2).mono ?_
  rintro e w3 ⟨u3, rfl, hR3, hb3⟩
  obtain ⟨A3, c3, bs3, rfl, hC3, hr3⟩ := row_n hR3 zs2.length (norm_len zs2)
  have B3 := Lib.hid hb3
  have C3 := Lib.hid hC3
  have D3 := Lib.hid hr3
  clear hR3 hb3 hC3 hr3
  have HC := Lib.hid (equal_all A1 c1 bs1 (normZ zs) A3 c3 bs3 (normZ zs2) w3 (fun z hz => sm_le (way_sm hsm _ z hz) (by omega)) (by rw [norm_len]; exact Kd.C_below C1.out B3.out) D1.out (fun z hz => sm_le (way_sm hsm2 _ z hz) (by omega)) (by rw [norm_len]; exact C3.out) D3.out (by rw [norm_len]; omega) (by rw [norm_len]; omega))
  rw [norm_len, norm_len] at HC
  go_wp2_with fail
  refine HC.out.mono ?_
  rintro e w5 ⟨rfl, hb5⟩
  go_wp2
  go_ret
  exact ⟨rfl, below_tr B1.out (below_tr B3.out hb5)⟩
end Go.Proofs.Ytdpcfamgmicboad
