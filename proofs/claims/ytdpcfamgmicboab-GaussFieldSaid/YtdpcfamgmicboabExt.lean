/- Contracts of the package gauss over this seat's translation: each function gives what GaussM says, for numbers whose parts lie from 0 to 8190. -/
import Derived.Test.YtdpcfamgmicboabProg
import Derived.Test.YtdpcfamgmicboabFlt
import Derived.Test.YtdpcfamgmicboabGaussM
import Derived.WalkKit
import Derived.WalkSpells
import Derived.WalkLawsBesides
import Derived.Laws.ComplexArith
import Derived.Lib.Hide
import Derived.Test.YtdpcfamgmicboabWWords
import Derived.Test.YtdpcfamgmicboabWMore
import Derived.Test.YtdpcfamgmicboabWShare
namespace Go.Proofs.Ytdpcfamgmicboab
open Go.RowKit Go.Flt Go.GaussM Go.GaussM.Z Go.Proofs.YtdpcfamgmicboabW.PrintWords

theorem tmod_neg (n : Int) (h : n.tmod 8191 < 0) : wrap64 (n.tmod 8191 + 8191) = n % 8191 := by
  have h1 := Int.tmod_lt_of_pos n (show (0 : Int) < 8191 by omega)
  have h2 := Int.emod_lt_of_pos n (show (0 : Int) < 8191 by omega)
  have h3 := Int.emod_nonneg n (show (8191 : Int) ≠ 0 by omega)
  have h4 := Int.tmod_eq_emod (a := n) (b := 8191)
  have h5 : -8191 < n.tmod 8191 := by
    have := Int.lt_tmod_of_pos n (show (0 : Int) < 8191 by omega); exact this
  unfold wrap64
  split at h4 <;> simp at h4 <;> omega
theorem tmod_pos (n : Int) (h : 0 ≤ n.tmod 8191) : n.tmod 8191 = n % 8191 := by
  have h1 := Int.tmod_lt_of_pos n (show (0 : Int) < 8191 by omega)
  have h2 := Int.emod_lt_of_pos n (show (0 : Int) < 8191 by omega)
  have h3 := Int.emod_nonneg n (show (8191 : Int) ≠ 0 by omega)
  have h4 := Int.tmod_eq_emod (a := n) (b := 8191)
  split at h4 <;> simp at h4 <;> omega
theorem ret_i {k : IntKind} {a b : Int} (h : a = b) : Ending.returned (.int k a) = .returned (.int k b) := by rw [h]

set_option maxHeartbeats 400000 in
theorem grest_any (n : Int) (w : World) :
    Calls Try.prog 31 #[.int .i64 n] w fun e w' => e = .returned (.int .i64 (n % 8191)) ∧ w = w' := by
  go_enter Try.func31, Try.ntmps31
  go_wp2
  · go_ret; exact ⟨ret_i (tmod_neg n ‹_›), rfl⟩
  · go_ret; exact ⟨ret_i (tmod_pos n ‹_›), rfl⟩

/-- The bits of a number's part. -/
def enc (n : Int) : Nat := FloatKind.f64.nearest n
theorem enc_F (n : Int) (h : n.natAbs < 2 ^ 53) : F (enc n) n := Flt.F_ofInt n h
/-- A value that is a complex number with whole parts; a value that is a reference's number. -/
abbrev cx (a b : Int) : Value := .complex .f64 (enc a) (enc b)
abbrev zv (a b : Int) : Value := .agg #[.int .i64 a, .int .i64 b]

set_option maxHeartbeats 400000 in
theorem gOf_any (a b : Int) (w : World) :
    Calls Try.prog 25 #[.int .i64 a, .int .i64 b] w fun e w' => e = .returned (cx (red ⟨a, b⟩).re (red ⟨a, b⟩).im) ∧ w = w' := by
  go_enter Try.func25, Try.ntmps25
  go_wp2_with (first | (go_at_call 31; refine (grest_any _ _).mono ?_; rintro e w' ⟨rfl, rfl⟩))
  go_ret
  exact ⟨rfl, rfl⟩
set_option maxHeartbeats 400000 in
theorem parts_bits (x y : Nat) (a b : Int) (hx : F x a) (hy : F y b) (ha : a.natAbs < 2 ^ 53) (hb : b.natAbs < 2 ^ 53) (w : World) :
    Calls Try.prog 20 #[.complex .f64 x y] w fun e w' => e = .returned (.tuple #[.int .i64 a, .int .i64 b]) ∧ w = w' := by
  have e1 := fun w => run_convert_float_int (P := Try.prog) w 48 3 .f64 .i64 x a (by kernel_rfl) Try.underlying3 (Flt.toInt hx ha)
  have e2 := fun w => run_convert_float_int (P := Try.prog) w 48 3 .f64 .i64 y b (by kernel_rfl) Try.underlying3 (Flt.toInt hy hb)
  go_enter Try.func20, Try.ntmps20
  go_wp2
  go_ret2
  exact ⟨rfl, rfl⟩
theorem parts_any (z : Z) (h : Small z) (w : World) :
    Calls Try.prog 20 #[cx z.re z.im] w fun e w' => e = .returned (.tuple #[.int .i64 z.re, .int .i64 z.im]) ∧ w = w' := by
  obtain ⟨h1, h2, h3, h4⟩ := h
  exact parts_bits _ _ _ _ (enc_F _ (by omega)) (enc_F _ (by omega)) (by omega) (by omega) w

set_option maxHeartbeats 400000 in
theorem back_bits (x y : Nat) (a b : Int) (hx : F x a) (hy : F y b) (ha : a.natAbs < 2 ^ 53) (hb : b.natAbs < 2 ^ 53) (w : World) :
    Calls Try.prog 27 #[.complex .f64 x y] w fun e w' => e = .returned (cx (red ⟨a, b⟩).re (red ⟨a, b⟩).im) ∧ w = w' := by
  go_enter Try.func27, Try.ntmps27
  go_wp2_with (first | (go_at_call 20; refine (parts_bits _ _ a b hx hy ha hb _).mono ?_; rintro e w' ⟨rfl, rfl⟩) | (go_at_call 25; refine (gOf_any _ _ _).mono ?_; rintro e w' ⟨rfl, rfl⟩))
  go_ret
  exact ⟨rfl, rfl⟩

theorem sum_bits {a b c d : Int} (ha : a.natAbs < 2 ^ 53) (hb : b.natAbs < 2 ^ 53) (hc : c.natAbs < 2 ^ 53) (hd : d.natAbs < 2 ^ 53) (h1 : (a + c).natAbs < 2 ^ 53) (h2 : (b + d).natAbs < 2 ^ 53)
    {x y u v : Nat} (hx : F x a) (hy : F y b) (hu : F u c) (hv : F v d) : ∃ r s, cSumBits .add .f64 x y u v = some (r, s) ∧ F r (a + c) ∧ F s (b + d) := by
  obtain ⟨r, e1, f1⟩ := Flt.add hx hu ha hc h1
  obtain ⟨s, e2, f2⟩ := Flt.add hy hv hb hd h2
  exact ⟨r, s, by unfold cSumBits; rw [e1, e2]; rfl, f1, f2⟩
theorem sub_bits {a b c d : Int} (ha : a.natAbs < 2 ^ 53) (hb : b.natAbs < 2 ^ 53) (hc : c.natAbs < 2 ^ 53) (hd : d.natAbs < 2 ^ 53) (h1 : (a - c).natAbs < 2 ^ 53) (h2 : (b - d).natAbs < 2 ^ 53)
    {x y u v : Nat} (hx : F x a) (hy : F y b) (hu : F u c) (hv : F v d) : ∃ r s, cSumBits .sub .f64 x y u v = some (r, s) ∧ F r (a - c) ∧ F s (b - d) := by
  obtain ⟨r, e1, f1⟩ := Flt.sub hx hu ha hc h1
  obtain ⟨s, e2, f2⟩ := Flt.sub hy hv hb hd h2
  exact ⟨r, s, by unfold cSumBits; rw [e1, e2]; rfl, f1, f2⟩
theorem mul_bits {a b c d : Int} {B : Nat} (hB : B ≤ 10000) (ha : a.natAbs ≤ B) (hb : b.natAbs ≤ B) (hc : c.natAbs ≤ B) (hd : d.natAbs ≤ B)
    {x y u v : Nat} (hx : F x a) (hy : F y b) (hu : F u c) (hv : F v d) : ∃ r s, cMulBits x y u v = some (r, s) ∧ F r (a * c - b * d) ∧ F s (a * d + b * c) := by
  have m : ∀ p q : Int, p.natAbs ≤ B → q.natAbs ≤ B → (p * q).natAbs ≤ 100000000 := fun p q hp hq => by
    rw [Int.natAbs_mul]
    exact Nat.le_trans (Nat.mul_le_mul (Nat.le_trans hp hB) (Nat.le_trans hq hB)) (by omega)
  have m1 := m a c ha hc
  have m2 := m b d hb hd
  have m3 := m a d ha hd
  have m4 := m b c hb hc
  obtain ⟨r1, e1, f1⟩ := Flt.mul hx hu (by omega) (by omega) (by omega)
  obtain ⟨r2, e2, f2⟩ := Flt.mul hy hv (by omega) (by omega) (by omega)
  obtain ⟨r3, e3, f3⟩ := Flt.sub f1 f2 (by omega) (by omega) (by omega)
  obtain ⟨r4, e4, f4⟩ := Flt.mul hx hv (by omega) (by omega) (by omega)
  obtain ⟨r5, e5, f5⟩ := Flt.mul hy hu (by omega) (by omega) (by omega)
  obtain ⟨r6, e6, f6⟩ := Flt.add f4 f5 (by omega) (by omega) (by omega)
  exact ⟨r3, r6, by unfold cMulBits; rw [e1, e2]; simp only [Option.bind_some]; rw [e3]; simp only [Option.bind_some]; rw [e4, e5]; simp only [Option.bind_some]; rw [e6]; rfl, f3, f6⟩

theorem small_F {z : Z} (h : Small z) : F (enc z.re) z.re ∧ F (enc z.im) z.im := by
  obtain ⟨h1, h2, h3, h4⟩ := h
  exact ⟨enc_F _ (by omega), enc_F _ (by omega)⟩

set_option maxHeartbeats 400000 in
theorem gAdd_any (x y : Z) (hx : Small x) (hy : Small y) (w : World) :
    Calls Try.prog 9 #[cx x.re x.im, cx y.re y.im] w fun e w' => e = .returned (cx (gadd x y).re (gadd x y).im) ∧ w = w' := by
  obtain ⟨fa, fb⟩ := small_F hx
  obtain ⟨fc, fd⟩ := small_F hy
  obtain ⟨h1, h2, h3, h4⟩ := hx
  obtain ⟨k1, k2, k3, k4⟩ := hy
  obtain ⟨r, s, e, fr, fs⟩ := sum_bits (by omega) (by omega) (by omega) (by omega) (by omega) (by omega) fa fb fc fd
  have hrun := fun w => run_complex_sum (P := Try.prog) w .add (.inl rfl) 24 .f64 _ _ _ _ r s e
  go_enter Try.func9, Try.ntmps9
  go_wp2_with (first | (go_at_call 27; refine (back_bits _ _ _ _ fr fs (by omega) (by omega) _).mono ?_; rintro e w' ⟨rfl, rfl⟩))
  go_ret
  exact ⟨rfl, rfl⟩
set_option maxHeartbeats 400000 in
theorem gSub_any (x y : Z) (hx : Small x) (hy : Small y) (w : World) :
    Calls Try.prog 11 #[cx x.re x.im, cx y.re y.im] w fun e w' => e = .returned (cx (gsub x y).re (gsub x y).im) ∧ w = w' := by
  obtain ⟨fa, fb⟩ := small_F hx
  obtain ⟨fc, fd⟩ := small_F hy
  obtain ⟨h1, h2, h3, h4⟩ := hx
  obtain ⟨k1, k2, k3, k4⟩ := hy
  obtain ⟨r, s, e, fr, fs⟩ := sub_bits (by omega) (by omega) (by omega) (by omega) (by omega) (by omega) fa fb fc fd
  have hrun := fun w => run_complex_sum (P := Try.prog) w .sub (.inr rfl) 24 .f64 _ _ _ _ r s e
  go_enter Try.func11, Try.ntmps11
  go_wp2_with (first | (go_at_call 27; refine (back_bits _ _ _ _ fr fs (by omega) (by omega) _).mono ?_; rintro e w' ⟨rfl, rfl⟩))
  go_ret
  exact ⟨rfl, rfl⟩
theorem mul_bd {a b : Int} (ha : 0 ≤ a) (ha' : a < 8191) (hb : 0 ≤ b) (hb' : b < 8191) : 0 ≤ a * b ∧ a * b ≤ 67076100 := by
  have := Int.mul_nonneg ha hb
  have h2 : a * b ≤ 8190 * 8190 := Int.mul_le_mul (by omega) (by omega) hb (by omega)
  omega
set_option maxHeartbeats 400000 in
theorem gMul_any (x y : Z) (hx : Small x) (hy : Small y) (w : World) :
    Calls Try.prog 13 #[cx x.re x.im, cx y.re y.im] w fun e w' => e = .returned (cx (gmul x y).re (gmul x y).im) ∧ w = w' := by
  obtain ⟨fa, fb⟩ := small_F hx
  obtain ⟨fc, fd⟩ := small_F hy
  obtain ⟨h1, h2, h3, h4⟩ := hx
  obtain ⟨k1, k2, k3, k4⟩ := hy
  have m1 := mul_bd h1 h2 k1 k2
  have m2 := mul_bd h3 h4 k3 k4
  have m3 := mul_bd h1 h2 k3 k4
  have m4 := mul_bd h3 h4 k1 k2
  obtain ⟨r, s, e, fr, fs⟩ := mul_bits (B := 8190) (by omega) (by omega) (by omega) (by omega) (by omega) fa fb fc fd
  have hrun := fun w => run_complex_mul (P := Try.prog) w 24 _ _ _ _ r s e
  go_enter Try.func13, Try.ntmps13
  go_wp2_with (first | (go_at_call 27; refine (back_bits _ _ _ _ fr fs (by omega) (by omega) _).mono ?_; rintro e w' ⟨rfl, rfl⟩))
  go_ret
  exact ⟨rfl, rfl⟩
theorem run_neg_float (P : Program) (b : Nat) (w : World) : Sem.run P (Op.unary UnOp.neg (Value.float FloatKind.f64 b)) w = .ok (.float .f64 (Op.negFloat .f64 b)) w := rfl
attribute [local go_sem] run_neg_float
set_option maxHeartbeats 400000 in
theorem gConj_any (x : Z) (hx : Small x) (w : World) :
    Calls Try.prog 15 #[cx x.re x.im] w fun e w' => e = .returned (cx (gconj x).re (gconj x).im) ∧ w = w' := by
  obtain ⟨fa, fb⟩ := small_F hx
  obtain ⟨h1, h2, h3, h4⟩ := hx
  have fn := Flt.neg fb (by omega)
  go_enter Try.func15, Try.ntmps15
  go_wp2_with (first | (go_at_call 27; refine (back_bits _ _ _ _ fa fn (by omega) (by omega) _).mono ?_; rintro e w' ⟨rfl, rfl⟩))
  go_ret
  exact ⟨rfl, rfl⟩
set_option maxHeartbeats 400000 in
theorem gNorm_any (x : Z) (hx : Small x) (w : World) :
    Calls Try.prog 17 #[cx x.re x.im] w fun e w' => e = .returned (.int .i64 (gnorm x)) ∧ w = w' := by
  go_enter Try.func17, Try.ntmps17
  go_wp2_with (first | (go_at_call 15; refine (gConj_any x hx _).mono ?_; rintro e w' ⟨rfl, rfl⟩) | (go_at_call 13; refine (gMul_any x (gconj x) hx (red_small _) _).mono ?_; rintro e w' ⟨rfl, rfl⟩) | (go_at_call 20; refine (parts_any (gmul x (gconj x)) (red_small _) _).mono ?_; rintro e w' ⟨rfl, rfl⟩))
  go_ret
  refine ⟨ret_i ?_, rfl⟩
  exact (congrArg Z.re (gnorm_eq x)).symm

theorem enc_one : enc 1 = 4607182418800017408 := by decide +kernel
theorem enc_zero : enc 0 = 0 := by decide +kernel
set_option maxHeartbeats 400000 in
theorem gpower_any (a : Z) (n : Nat) (ha : Small a) (hn : n < 9223372036854775808) (w : World) :
    Calls Try.prog 29 #[cx a.re a.im, .int .u64 n] w fun e w' => e = .returned (cx (pw one a n).re (pw one a n).im) ∧ w = w' := by
  go_enter Try.func29, Try.ntmps29
  go_wp2
  go_loop [0, 1, 5] (fun s t u => ∃ (x y : Z) (m : Nat), Small x ∧ Small y ∧ m < 9223372036854775808 ∧ s = cx y.re y.im ∧ t = .int .u64 m ∧ u = cx x.re x.im ∧ pw x y m = pw one a n) (fun _ t _ => (intOf t).toNat)
  case atStart => exact ⟨one, a, n, one_small, ha, hn, rfl, rfl, by show _ = Value.complex .f64 (enc 1) (enc 0); rw [enc_one, enc_zero], rfl⟩
  case round =>
    obtain ⟨x, y, m, hx, hy, hm, rfl, rfl, rfl, hp⟩ := hrel
    have Hp := Lib.hid hp
    clear hp
    have hand := and_one_u64 (m : Int) (by omega) (by omega)
    by_cases h0 : m = 0
    · subst h0
      go_wp2
      go_ret
      have := Hp.out
      rw [pw_zero] at this
      subst this
      exact ⟨rfl, rfl⟩
    have hpos : 0 < m := by omega
    clear h0
    by_cases h1 : m % 2 = 1
    · have ht : ((m : Int) % 2 == 1) = true := beq_iff_eq.2 (by omega)
      have H1 := Lib.hid h1
      clear h1
      go_wp2_with (first | (go_at_call 13; refine (gMul_any x y hx hy _).mono ?_; rintro e w' ⟨rfl, rfl⟩) | (go_at_call 13; refine (gMul_any y y hy hy _).mono ?_; rintro e w' ⟨rfl, rfl⟩))
      have hq : pw (gmul x y) (gmul y y) (m / 2) = pw one a n := by rw [← pw_odd x y m H1.out, Hp.out]
      exact ⟨⟨gmul x y, gmul y y, m / 2, red_small _, red_small _, by omega, rfl, by go_num, rfl, hq⟩, by simp [intOf]; omega⟩
    · have ht : ((m : Int) % 2 == 1) = false := beq_eq_false_iff_ne.2 (by omega)
      have H1 := Lib.hid h1
      clear h1
      go_wp2_with (first | (go_at_call 13; refine (gMul_any y y hy hy _).mono ?_; rintro e w' ⟨rfl, rfl⟩))
      have hq : pw x (gmul y y) (m / 2) = pw one a n := by rw [← pw_even x y m (by omega) H1.out, Hp.out]
      exact ⟨⟨x, gmul y y, m / 2, hx, red_small _, by omega, rfl, by go_num, rfl, hq⟩, by simp [intOf]; omega⟩


theorem gnorm_bd (a : Z) : 0 ≤ gnorm a ∧ gnorm a < 8191 := by unfold gnorm; omega
theorem ofInt_red {n : Int} (h0 : 0 ≤ n) (h : n < 8191) : red (ofInt n) = ofInt n := red_id ⟨h0, h, by simp [ofInt], by simp [ofInt]⟩
theorem ofInt_small {n : Int} (h0 : 0 ≤ n) (h : n < 8191) : Small (ofInt n) := ⟨h0, h, by simp [ofInt], by simp [ofInt]⟩
set_option maxHeartbeats 400000 in
theorem gInv_no (a : Z) (ha : Small a) (h0 : gnorm a = 0) (w : World) :
    Calls Try.prog 21 #[cx a.re a.im] w fun e w' => e = .returned (.tuple #[.complex .f64 0 0, .bool false]) ∧ w = w' := by
  go_enter Try.func21, Try.ntmps21
  have ht : (gnorm a == 0) = true := beq_iff_eq.2 h0
  have H0 := Lib.hid h0
  clear h0
  go_wp2_with fail
  refine (gNorm_any a ha _).mono ?_
  rintro e w' ⟨rfl, rfl⟩
  go_wp2
  go_ret2
  exact ⟨rfl, rfl⟩
set_option maxHeartbeats 400000 in
theorem gInv_yes (a : Z) (ha : Small a) (h0 : gnorm a ≠ 0) (w : World) :
    Calls Try.prog 21 #[cx a.re a.im] w fun e w' => e = .returned (.tuple #[cx (ginv a).re (ginv a).im, .bool true]) ∧ w = w' := by
  have hb := gnorm_bd a
  have ht : (gnorm a == 0) = false := beq_eq_false_iff_ne.2 h0
  clear h0
  have hs : Small (ofInt (gnorm a)) := ofInt_small hb.1 hb.2
  have hr := Lib.hid (ofInt_red hb.1 hb.2)
  have hp : Small (pw one (ofInt (gnorm a)) 8189) := pw_small _ _ _ one_small
  have hq := Lib.hid (ofInt_red hp.1 hp.2.1)
  have hqs := ofInt_small hp.1 hp.2.1
  go_enter Try.func21, Try.ntmps21
  go_wp2_with fail
  refine (gNorm_any a ha _).mono ?_
  rintro e w' ⟨rfl, rfl⟩
  go_wp2_with fail
  refine (gOf_any (gnorm a) 0 _).mono ?_
  rintro e w' ⟨rfl, rfl⟩
  rw [show (red ⟨gnorm a, 0⟩) = ofInt (gnorm a) from hr.out]
  go_wp2_with fail
  refine (gpower_any (ofInt (gnorm a)) 8189 hs (by omega) _).mono ?_
  rintro e w' ⟨rfl, rfl⟩
  go_wp2_with fail
  refine (parts_any _ hp _).mono ?_
  rintro e w' ⟨rfl, rfl⟩
  go_wp2_with fail
  refine (gConj_any a ha _).mono ?_
  rintro e w' ⟨rfl, rfl⟩
  go_wp2_with fail
  refine (gOf_any (pw one (ofInt (gnorm a)) 8189).re 0 _).mono ?_
  rintro e w' ⟨rfl, rfl⟩
  rw [show (red ⟨(pw one (ofInt (gnorm a)) 8189).re, 0⟩) = ofInt (pw one (ofInt (gnorm a)) 8189).re from hq.out]
  go_wp2_with fail
  refine (gMul_any (gconj a) (ofInt (pw one (ofInt (gnorm a)) 8189).re) (red_small _) hqs _).mono ?_
  rintro e w' ⟨rfl, rfl⟩
  go_wp2
  go_ret2
  exact ⟨rfl, rfl⟩

instance (a b : Z) : Decidable (a = b) := if h : a.re = b.re ∧ a.im = b.im then .isTrue (ext' h.1 h.2) else .isFalse (fun e => h (by rw [e]; exact ⟨rfl, rfl⟩))
instance (a : Z) : Decidable (Small a) := by unfold Small; infer_instance
/-- Powers, below 0, too. -/
def gpow (a : Z) (n : Int) : Z := if 0 ≤ n then pw one a n.toNat else if a = zero then zero else pw one (ginv a) (-n).toNat
theorem gpow_small (a : Z) (n : Int) : Small (gpow a n) := by
  unfold gpow
  split
  · exact pw_small _ _ _ one_small
  · split
    · exact ⟨by simp [zero], by simp [zero], by simp [zero], by simp [zero]⟩
    · exact pw_small _ _ _ one_small

theorem wrap_u64 (n : Int) (h0 : 0 ≤ n) (h : n < 9223372036854775808) : IntKind.u64.wrap n = n := by rw [IntKind.wrap_u64]; omega
theorem wrap_neg (n : Int) (h0 : n < 0) (h : -4611686018427387904 < n) : IntKind.u64.wrap (-IntKind.u64.wrap n) = -n := by rw [IntKind.wrap_u64, IntKind.wrap_u64]; omega
set_option maxHeartbeats 400000 in
theorem gPow_pos (a : Z) (n : Nat) (ha : Small a) (hn : n < 4611686018427387904) (w : World) :
    Calls Try.prog 23 #[cx a.re a.im, .int .i64 n] w fun e w' => e = .returned (cx (pw one a n).re (pw one a n).im) ∧ w = w' := by
  go_enter Try.func23, Try.ntmps23
  go_wp2_with fail
  refine (gpower_any a n ha (by omega) _).mono ?_
  rintro e w' ⟨rfl, rfl⟩
  go_wp2
  go_ret
  exact ⟨rfl, rfl⟩
set_option maxHeartbeats 400000 in
theorem gPow_neg (a : Z) (n : Nat) (ha : Small a) (h0 : 0 < n) (hn : n < 4611686018427387904) (hz : a ≠ zero) (w : World) :
    Calls Try.prog 23 #[cx a.re a.im, .int .i64 (-(n : Int))] w fun e w' => e = .returned (cx (pw one (ginv a) n).re (pw one (ginv a) n).im) ∧ w = w' := by
  have hk := Lib.hid hz
  clear hz
  go_enter Try.func23, Try.ntmps23
  go_wp2_with fail
  refine (gInv_yes a ha (fun g => hk.out ((gnorm_zero ha).1 g)) _).mono ?_
  rintro e w' ⟨rfl, rfl⟩
  go_wp2_with fail
  rw [wrap_neg (-(n : Int)) (by omega) (by omega), Int.neg_neg]
  refine (gpower_any (ginv a) n (red_small _) (by omega) _).mono ?_
  rintro e w' ⟨rfl, rfl⟩
  go_wp2
  go_ret
  exact ⟨rfl, rfl⟩
set_option maxHeartbeats 400000 in
theorem gPow_none (a : Z) (n : Nat) (ha : Small a) (h0 : 0 < n) (hn : n < 4611686018427387904) (hz : a = zero) (w : World) :
    Calls Try.prog 23 #[cx a.re a.im, .int .i64 (-(n : Int))] w fun e w' => e = .returned (.complex .f64 0 0) ∧ w = w' := by
  have hk := Lib.hid hz
  clear hz
  go_enter Try.func23, Try.ntmps23
  go_wp2_with fail
  refine (gInv_no a ha ((gnorm_zero ha).2 hk.out) _).mono ?_
  rintro e w' ⟨rfl, rfl⟩
  go_wp2
  go_ret
  exact ⟨rfl, rfl⟩
theorem gPow_any (a : Z) (n : Int) (ha : Small a) (h1 : -4611686018427387904 < n) (h2 : n < 4611686018427387904) (w : World) :
    Calls Try.prog 23 #[cx a.re a.im, .int .i64 n] w fun e w' => e = .returned (cx (gpow a n).re (gpow a n).im) ∧ w = w' := by
  by_cases h0 : 0 ≤ n
  · obtain ⟨m, rfl⟩ := Int.eq_ofNat_of_zero_le h0
    unfold gpow
    rw [if_pos h0]
    exact gPow_pos a m ha (by omega) w
  · obtain ⟨m, hm⟩ := Int.eq_ofNat_of_zero_le (show 0 ≤ -n by omega)
    obtain rfl : n = -(m : Int) := by omega
    unfold gpow
    rw [if_neg h0, show (- -(m : Int)).toNat = m by omega]
    by_cases hz : a = zero
    · rw [if_pos hz]
      refine (gPow_none a m ha (by omega) (by omega) hz w).mono fun e w' h => ?_
      rw [h.1, show cx zero.re zero.im = Value.complex .f64 0 0 by show Value.complex .f64 (enc 0) (enc 0) = _; rw [enc_zero]]
      exact ⟨rfl, h.2⟩
    · rw [if_neg hz]
      exact gPow_neg a m ha (by omega) (by omega) hz w

/- What the printed texts want: a function that says what is answered, and the call. -/
abbrev CX := Z
abbrev CX.a (z : Z) : Nat := enc z.re
abbrev CX.b (z : Z) : Nat := enc z.im
theorem drawn {w w' : World} (h : w = w') : Below w.heap.size w w' := by subst h; exact Below.refl _ _
def gauss_Of.f (a b : Int) : Option CX := some (red ⟨a, b⟩)
theorem gauss_Of.calls (a b : Int) (r : CX) (w : World) (h : gauss_Of.f a b = some r) :
    Calls Try.prog 25 #[.int .i64 a, .int .i64 b] w fun e w' => e = .returned (.complex .f64 (CX.a r) (CX.b r)) ∧ Below w.heap.size w w' := by
  cases h
  exact (gOf_any a b w).mono fun _ _ h => ⟨h.1, drawn h.2⟩
def gauss_Parts.f (a : CX) : Option (Int × Int) := if Small a then some (a.re, a.im) else none
theorem gauss_Parts.calls (a : CX) (r1 r2 : Int) (w : World) (h : gauss_Parts.f a = some (r1, r2)) :
    Calls Try.prog 20 #[.complex .f64 (CX.a a) (CX.b a)] w fun e w' => e = .returned (.tuple #[.int .i64 r1, .int .i64 r2]) ∧ Below w.heap.size w w' := by
  unfold gauss_Parts.f at h
  split at h
  · rename_i hs
    cases h
    exact (parts_any a hs w).mono fun _ _ h => ⟨h.1, drawn h.2⟩
  · cases h
def gauss_Conj.f (a : CX) : Option CX := if Small a then some (gconj a) else none
theorem gauss_Conj.calls (a : CX) (r : CX) (w : World) (h : gauss_Conj.f a = some r) :
    Calls Try.prog 15 #[.complex .f64 (CX.a a) (CX.b a)] w fun e w' => e = .returned (.complex .f64 (CX.a r) (CX.b r)) ∧ Below w.heap.size w w' := by
  unfold gauss_Conj.f at h
  split at h
  · rename_i hs
    cases h
    exact (gConj_any a hs w).mono fun _ _ h => ⟨h.1, drawn h.2⟩
  · cases h
def gauss_Norm.f (a : CX) : Option Int := if Small a then some (gnorm a) else none
theorem gauss_Norm.calls (a : CX) (r : Int) (w : World) (h : gauss_Norm.f a = some r) :
    Calls Try.prog 17 #[.complex .f64 (CX.a a) (CX.b a)] w fun e w' => e = .returned (.int .i64 r) ∧ Below w.heap.size w w' := by
  unfold gauss_Norm.f at h
  split at h
  · rename_i hs
    cases h
    exact (gNorm_any a hs w).mono fun _ _ h => ⟨h.1, drawn h.2⟩
  · cases h
def gauss_Add.f (a b : CX) : Option CX := if Small a ∧ Small b then some (gadd a b) else none
theorem gauss_Add.calls (a b : CX) (r : CX) (w : World) (h : gauss_Add.f a b = some r) :
    Calls Try.prog 9 #[.complex .f64 (CX.a a) (CX.b a), .complex .f64 (CX.a b) (CX.b b)] w fun e w' => e = .returned (.complex .f64 (CX.a r) (CX.b r)) ∧ Below w.heap.size w w' := by
  unfold gauss_Add.f at h
  split at h
  · rename_i hs
    cases h
    exact (gAdd_any a b hs.1 hs.2 w).mono fun _ _ h => ⟨h.1, drawn h.2⟩
  · cases h
def gauss_Sub.f (a b : CX) : Option CX := if Small a ∧ Small b then some (gsub a b) else none
theorem gauss_Sub.calls (a b : CX) (r : CX) (w : World) (h : gauss_Sub.f a b = some r) :
    Calls Try.prog 11 #[.complex .f64 (CX.a a) (CX.b a), .complex .f64 (CX.a b) (CX.b b)] w fun e w' => e = .returned (.complex .f64 (CX.a r) (CX.b r)) ∧ Below w.heap.size w w' := by
  unfold gauss_Sub.f at h
  split at h
  · rename_i hs
    cases h
    exact (gSub_any a b hs.1 hs.2 w).mono fun _ _ h => ⟨h.1, drawn h.2⟩
  · cases h
def gauss_Mul.f (a b : CX) : Option CX := if Small a ∧ Small b then some (gmul a b) else none
theorem gauss_Mul.calls (a b : CX) (r : CX) (w : World) (h : gauss_Mul.f a b = some r) :
    Calls Try.prog 13 #[.complex .f64 (CX.a a) (CX.b a), .complex .f64 (CX.a b) (CX.b b)] w fun e w' => e = .returned (.complex .f64 (CX.a r) (CX.b r)) ∧ Below w.heap.size w w' := by
  unfold gauss_Mul.f at h
  split at h
  · rename_i hs
    cases h
    exact (gMul_any a b hs.1 hs.2 w).mono fun _ _ h => ⟨h.1, drawn h.2⟩
  · cases h
def gauss_Inv.f (a : CX) : Option (CX × Bool) := if Small a then some (if gnorm a = 0 then (zero, false) else (ginv a, true)) else none
theorem gauss_Inv.calls (a : CX) (r1 : CX) (r2 : Bool) (w : World) (h : gauss_Inv.f a = some (r1, r2)) :
    Calls Try.prog 21 #[.complex .f64 (CX.a a) (CX.b a)] w fun e w' => e = .returned (.tuple #[.complex .f64 (CX.a r1) (CX.b r1), .bool r2]) ∧ Below w.heap.size w w' := by
  unfold gauss_Inv.f at h
  split at h
  · rename_i hs
    by_cases h0 : gnorm a = 0
    · rw [if_pos h0] at h
      cases h
      refine (gInv_no a hs h0 w).mono fun e w' h => ⟨?_, drawn h.2⟩
      rw [h.1, show Value.complex .f64 (CX.a zero) (CX.b zero) = Value.complex .f64 0 0 by show Value.complex .f64 (enc 0) (enc 0) = _; rw [enc_zero]]
    · rw [if_neg h0] at h
      cases h
      exact (gInv_yes a hs h0 w).mono fun _ _ h => ⟨h.1, drawn h.2⟩
  · cases h
def gauss_Pow.f (a : CX) (n : Int) : Option CX := if Small a ∧ -4611686018427387904 < n ∧ n < 4611686018427387904 then some (gpow a n) else none
theorem gauss_Pow.calls (a : CX) (n : Int) (r : CX) (w : World) (h : gauss_Pow.f a n = some r) :
    Calls Try.prog 23 #[.complex .f64 (CX.a a) (CX.b a), .int .i64 n] w fun e w' => e = .returned (.complex .f64 (CX.a r) (CX.b r)) ∧ Below w.heap.size w w' := by
  unfold gauss_Pow.f at h
  split at h
  · rename_i hs
    cases h
    exact (gPow_any a n hs.1 hs.2.1 hs.2.2 w).mono fun _ _ h => ⟨h.1, drawn h.2⟩
  · cases h
end Go.Proofs.Ytdpcfamgmicboab
