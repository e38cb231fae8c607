/- Contracts of the package stamp's functions, next part: Turn, Mirror, Shift, Area. -/
import Derived.Test.YtdpcfamgmicboadStampA
namespace Go.Proofs.Ytdpcfamgmicboad
open Go.RowKit Go.Flt Go.Proofs.YtdpcfamgmicboadW.PrintWords
attribute [local go_sem] run_neg_float run_store_complex run_store_float
/-- What a row of complex numbers of the call's own stands for. -/
def Row (w w' : World) (v : Value) (zs : List CX) : Prop := ∃ rs, Kd.R kb 35 w' w.heap.size (fun _ => True) v rs ∧ Rels rs zs
set_option maxHeartbeats 4000000 in
theorem turn_any (A : Option Addr) (c : Nat) (bs : List (Nat × Nat)) (zs : List CX) (k : Int) (w : World) (hsm : ∀ z ∈ zs, sm 1000000 z) (hr : Kd.C kb w A zs.length bs) (t : Rels bs zs) (hlen : zs.length ≤ 1000) :
    Calls Try.prog 11 #[.slice A zs.length c, .int .i64 k] w fun e w' => ∃ v, e = .returned v ∧ Row w w' v (zs.map fun z => mulz z (qn (k % 4).toNat)) ∧ Below w.heap.size w w' := by
  go_enter Try.func11, Try.ntmps11
  go_wp2_with fail
  refine (quarter_any k _).mono ?_
  rintro e w2 ⟨⟨r1, r2, rfl, hq⟩, rfl⟩
  have HQ := Lib.hid hq
  clear hq
  go_wp2_with fail
  refine (each_turn A c bs zs _ (r1, r2) HQ.out (sm_le (qn_sm _) (by omega)) ⟨w.heap.size, 0, none⟩ _ (by simp) hsm (Kd.C_below hr (below_alloc (Below.refl _ _) _)) t hlen).mono ?_
  rintro e w3 ⟨v, rs, rfl, hR, hrs, hb⟩
  have H := Lib.hid (And.intro hR (And.intro hrs hb))
  clear hR hrs hb
  go_wp2
  go_ret
  exact ⟨v, rfl, ⟨rs, Kd.R_lower H.out.1 (below_alloc (Below.refl _ _) _).size, H.out.2.1⟩, below_tr (below_alloc (Below.refl _ _) _) H.out.2.2⟩
set_option maxHeartbeats 4000000 in
theorem mirror_any (A : Option Addr) (c : Nat) (bs : List (Nat × Nat)) (zs : List CX) (w : World) (hsm : ∀ z ∈ zs, sm 1000000 z) (hr : Kd.C kb w A zs.length bs) (t : Rels bs zs) (hlen : zs.length ≤ 1000) :
    Calls Try.prog 13 #[.slice A zs.length c] w fun e w' => ∃ v, e = .returned v ∧ Row w w' v (zs.map conjz) ∧ Below w.heap.size w w' := by
  go_enter Try.func13, Try.ntmps13
  go_wp2_with fail
  refine (each_about A c bs zs _ hsm hr t hlen).mono ?_
  rintro e w3 ⟨v, rs, rfl, hR, hrs, hb⟩
  have H := Lib.hid (And.intro hR (And.intro hrs hb))
  clear hR hrs hb
  go_wp2
  go_ret
  exact ⟨v, rfl, ⟨rs, H.out.1, H.out.2.1⟩, H.out.2.2⟩
set_option maxHeartbeats 4000000 in
theorem shift_any (A : Option Addr) (c : Nat) (bs : List (Nat × Nat)) (zs : List CX) (b : Nat × Nat) (q : CX) (hq : rel b q) (hqs : sm 1000000 q) (w : World) (hsm : ∀ z ∈ zs, sm 1000000 z) (hr : Kd.C kb w A zs.length bs) (t : Rels bs zs) (hlen : zs.length ≤ 1000) :
    Calls Try.prog 15 #[.slice A zs.length c, .complex .f64 b.1 b.2] w fun e w' => ∃ v, e = .returned v ∧ Row w w' v (zs.map fun z => addz z q) ∧ Below w.heap.size w w' := by
  go_enter Try.func15, Try.ntmps15
  go_wp2_with fail
  refine (each_shift A c bs zs q b hq hqs ⟨w.heap.size, 0, none⟩ _ (by simp) hsm (Kd.C_below hr (below_alloc (Below.refl _ _) _)) t hlen).mono ?_
  rintro e w3 ⟨v, rs, rfl, hR, hrs, hb⟩
  have H := Lib.hid (And.intro hR (And.intro hrs hb))
  clear hR hrs hb
  go_wp2
  go_ret
  exact ⟨v, rfl, ⟨rs, Kd.R_lower H.out.1 (below_alloc (Below.refl _ _) _).size, H.out.2.1⟩, below_tr (below_alloc (Below.refl _ _) _) H.out.2.2⟩
theorem ret_i {k : IntKind} {a b : Int} (h : a = b) : Ending.returned (.int k a) = .returned (.int k b) := by rw [h]
/-- Twice the area, of the first so many sides. -/
def side (zs : List CX) (i : Nat) : Int := (mulz (conjz (zs.getD i cxZero)) (zs.getD ((i + 1) % zs.length) cxZero)).im
def areaN (zs : List CX) : Nat → Int
  | 0 => 0
  | i + 1 => areaN zs i + side zs i
theorem getD_sm {zs : List CX} (h : ∀ z ∈ zs, sm 1000000 z) (i : Nat) : sm 1000000 (zs.getD i cxZero) := by
  rw [List.getD_eq_getElem?_getD]
  by_cases hi : i < zs.length
  · rw [List.getElem?_eq_getElem hi]; exact h _ (List.getElem_mem hi)
  · rw [List.getElem?_eq_none (by omega)]; exact ⟨by decide, by decide⟩
theorem conj_sm {B : Nat} {z : CX} (h : sm B z) : sm B (conjz z) := ⟨h.1, by unfold conjz; have := h.2; simp only; omega⟩
theorem mul_bd {B : Nat} {x y : CX} (hx : sm B x) (hy : sm B y) : (mulz x y).re.natAbs ≤ 2 * (B * B) ∧ (mulz x y).im.natAbs ≤ 2 * (B * B) := by
  have m : ∀ p q : Int, p.natAbs ≤ B → q.natAbs ≤ B → (p * q).natAbs ≤ B * B := fun p q hp hq => by
    rw [Int.natAbs_mul]; exact Nat.mul_le_mul hp hq
  obtain ⟨ha, hb⟩ := hx
  obtain ⟨hc, hd⟩ := hy
  have m1 := m _ _ ha hc
  have m2 := m _ _ hb hd
  have m3 := m _ _ ha hd
  have m4 := m _ _ hb hc
  unfold mulz
  simp only
  generalize B * B = C at *
  omega
theorem side_bd {zs : List CX} (h : ∀ z ∈ zs, sm 1000000 z) (i : Nat) : (side zs i).natAbs ≤ 2000000000000 := by
  have := (mul_bd (conj_sm (getD_sm h i)) (getD_sm h ((i + 1) % zs.length))).2
  unfold side; omega
theorem area_bd {zs : List CX} (h : ∀ z ∈ zs, sm 1000000 z) : ∀ i, (areaN zs i).natAbs ≤ i * 2000000000000
  | 0 => by simp [areaN]
  | i + 1 => by have := area_bd h i; have := side_bd h i; unfold areaN; omega
set_option maxHeartbeats 4000000 in
theorem area_any (A : Option Addr) (c : Nat) (bs : List (Nat × Nat)) (zs : List CX) (w : World) (hsm : ∀ z ∈ zs, sm 1000000 z) (hr : Kd.C kb w A zs.length bs) (t : Rels bs zs) (hlen : zs.length ≤ 1000) :
    Calls Try.prog 17 #[.slice A zs.length c] w fun e w' => e = .returned (.int .i64 (areaN zs zs.length)) ∧ w = w' := by
  go_enter Try.func17, Try.ntmps17
  go_wp2
  go_loop [3, 9] (fun s v9 => ∃ (i f : Nat), i ≤ zs.length ∧ v9 = .int .i64 i ∧ s = .float .f64 f ∧ F f (areaN zs i)) (fun _ v9 => zs.length - (intOf v9).toNat)
  case atStart => exact ⟨0, 0, Nat.zero_le _, rfl, rfl, Flt.F.zero⟩
  case round =>
    obtain ⟨i, f, hi, rfl, rfl, hf⟩ := hrel
    have HF := Lib.hid hf
    clear hf
    by_cases hlt : i < zs.length
    · obtain ⟨ad, e, h0⟩ := at_kb hr (i : Int) (by omega) (by omega)
      subst e
      have hn : (i + 1) % zs.length < zs.length := Nat.mod_lt _ (by omega)
      obtain ⟨ad2, e2, h1⟩ := at_kb hr (((i + 1) % zs.length : Nat) : Int) (by omega) (by omega)
      cases e2
      have hrl := Lib.hid (t.2 i hlt)
      have hrn := Lib.hid (t.2 _ hn)
      have hi0 : rdOf (0, 0) bs (i : Int) = bs.getD i (0, 0) := rfl
      have hi1 : rdOf (0, 0) bs (((i + 1) % zs.length : Nat) : Int) = bs.getD ((i + 1) % zs.length) (0, 0) := rfl
      rw [hi0] at h0
      rw [hi1] at h1
      clear hi0 hi1
      simp only [Int.toNat_natCast] at h0 h1
      have hm : Int.tmod (wrap64 ((i : Int) + 1)) (zs.length : Int) = (((i + 1) % zs.length : Nat) : Int) := by
        have : wrap64 ((i : Int) + 1) = ((i + 1 : Nat) : Int) := by unfold wrap64; omega
        rw [this]; exact Int.ofNat_tmod _ _
      have hz0 : ¬ (zs.length : Int) = 0 := by omega
      have hm2 : ((i : Int) + 1) % (zs.length : Int) = (((i + 1) % zs.length : Nat) : Int) := by simp
      have hz := Lib.hid (getD_sm hsm i)
      have hzn := Lib.hid (getD_sm hsm ((i + 1) % zs.length))
      have hstep := Lib.hid (show areaN zs (i + 1) = areaN zs i + (mulz (conjz (zs.getD i cxZero)) (zs.getD ((i + 1) % zs.length) cxZero)).im from rfl)
      have hbd := Lib.hid (area_bd hsm i)
      generalize (i + 1) % zs.length = j at *
      generalize bs.getD i (0, 0) = b0 at *
      generalize bs.getD j (0, 0) = b1 at *
      generalize zs.getD i cxZero = z0 at *
      generalize zs.getD j cxZero = z1 at *
      go_wp2_with (go_at_call 29; refine (about_any b0 z0 hrl.out hz.out _).mono ?_; rintro e w2 ⟨⟨r1, r2, rfl, hrr⟩, rfl⟩; obtain ⟨m, hmr, hmm⟩ := mul_rel (Nat.le_refl _) hrr hrn.out (conj_sm hz.out) hzn.out; have hb2 := (mul_bd (conj_sm hz.out) hzn.out).2; have hb3 := hbd.out; obtain ⟨s, hs, hss⟩ := Flt.add HF.out hmm.2 (by omega) (by omega) (by omega); have hrun := (fun w => run_complex_mul (P := Try.prog) w 35 _ _ _ _ m.1 m.2 hmr); have hrun2 := (fun w => run_float_arith (P := Try.prog) w .add 36 .f64 f m.2 s hs); have HSS := Lib.hid hss; clear hss hb2 hb3 hmm hrr)
      exact ⟨⟨i + 1, s, by omega, by go_num, rfl, by rw [hstep.out]; exact HSS.out⟩, by simp [intOf]; omega⟩
    · have he : i = zs.length := by omega
      have HE := Lib.hid he
      clear he
      have hb := area_bd hsm i
      have e2 := fun w => run_convert_float_int (P := Try.prog) w 36 3 .f64 .i64 f (areaN zs i) (by kernel_rfl) Try.underlying3 (Flt.toInt HF.out (by omega))
      clear hb
      go_wp2
      go_ret
      exact ⟨ret_i (by rw [HE.out]), rfl⟩
end Go.Proofs.Ytdpcfamgmicboad
