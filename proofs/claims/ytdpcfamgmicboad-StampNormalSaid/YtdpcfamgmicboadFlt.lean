/- Whole numbers below 2^53 as float64: sum, difference, product, order, conversion are exact. No program is named here. -/
import Derived.Laws.FloatArith
namespace Go.Flt
open Ieee

/-- The word of a whole number below 2^53, with a sign. -/
def W (neg : Bool) (n : Nat) : Nat :=
  if n = 0 then double.word neg 0 else double.word neg ((n.log2 + 1022) * 2 ^ 52 + n * 2 ^ (52 - n.log2))

theorem log_le {n : Nat} (h0 : n ≠ 0) (h : n < 2 ^ 53) : n.log2 ≤ 52 := by
  have := (Nat.log2_lt h0).2 h
  omega

theorem kept_lo {n : Nat} (h0 : n ≠ 0) (h : n < 2 ^ 53) : 2 ^ 52 ≤ n * 2 ^ (52 - n.log2) := by
  have h1 := Nat.log2_self_le h0
  have h2 := log_le h0 h
  calc 2 ^ 52 = 2 ^ n.log2 * 2 ^ (52 - n.log2) := by rw [← Nat.pow_add]; congr 1; omega
    _ ≤ _ := Nat.mul_le_mul_right _ h1
theorem kept_hi {n : Nat} (h0 : n ≠ 0) (h : n < 2 ^ 53) : n * 2 ^ (52 - n.log2) < 2 ^ 53 := by
  have h1 : n < 2 ^ (n.log2 + 1) := Nat.lt_log2_self
  have h2 := log_le h0 h
  calc n * 2 ^ (52 - n.log2) < 2 ^ (n.log2 + 1) * 2 ^ (52 - n.log2) := Nat.mul_lt_mul_of_pos_right h1 (Nat.two_pow_pos _)
    _ = 2 ^ 53 := by rw [← Nat.pow_add]; congr 1; omega

theorem least : double.leastPlace = -1074 := by decide +kernel
theorem bin : double.binade = 2 ^ 52 := rfl
theorem sw : double.signWeight = 2 ^ 63 := by decide +kernel
theorem infR : double.infRung = 2047 * 2 ^ 52 := by decide +kernel

/-- What is written of a whole number, at any place at or below its own. -/
theorem nearest_eq (neg : Bool) (n : Nat) (hn : n < 2 ^ 53) (d : Nat) : double.nearest neg (n * 2 ^ d) (-(d : Int)) = W neg n := by
  unfold Format.nearest W
  by_cases h0 : n = 0
  · subst h0; simp
  have hm : n * 2 ^ d ≠ 0 := Nat.mul_ne_zero h0 (Nat.pos_iff_ne_zero.1 (Nat.two_pow_pos d))
  rw [if_neg hm, if_neg h0]
  have hl : (n * 2 ^ d).log2 = n.log2 + d := by
    apply Nat.le_antisymm
    · refine Nat.le_of_lt_succ ((Nat.log2_lt hm).2 ?_)
      have : n < 2 ^ (n.log2 + 1) := Nat.lt_log2_self
      calc n * 2 ^ d < 2 ^ (n.log2 + 1) * 2 ^ d := Nat.mul_lt_mul_of_pos_right this (Nat.two_pow_pos _)
        _ = 2 ^ (n.log2 + d).succ := by rw [← Nat.pow_add]; congr 1; omega
    · refine (Nat.le_log2 hm).2 ?_
      have := Nat.log2_self_le h0
      calc 2 ^ (n.log2 + d) = 2 ^ n.log2 * 2 ^ d := Nat.pow_add ..
        _ ≤ _ := Nat.mul_le_mul_right _ this
  have hL := log_le h0 hn
  have klo := kept_lo h0 hn
  have khi := kept_hi h0 hn
  have hlast : max (-(d : Int) + ((n * 2 ^ d).log2 : Nat) - (double.fractionBits : Nat)) double.leastPlace = (n.log2 : Int) - 52 := by
    rw [hl, least, show double.fractionBits = 52 from rfl]
    have : (-(d : Int) + ((n.log2 + d : Nat) : Int) - ((52 : Nat) : Int)) = (n.log2 : Int) - 52 := by omega
    rw [this]; omega
  dsimp only
  rw [hlast]
  have hk : Toward.even.cut neg ((n * 2 ^ d) <<< (-(d : Int) - ((n.log2 : Int) - 52)).toNat) (((n.log2 : Int) - 52) - -(d : Int)).toNat = n * 2 ^ (52 - n.log2) := by
    unfold Toward.cut
    dsimp only
    rw [Nat.shiftLeft_eq, Nat.shiftLeft_eq]
    by_cases hc : n.log2 + d ≤ 52
    · have e1 : (-(d : Int) - ((n.log2 : Int) - 52)).toNat = 52 - n.log2 - d := by omega
      have e2 : (((n.log2 : Int) - 52) - -(d : Int)).toNat = 0 := by omega
      rw [e1, e2]
      have e3 : n * 2 ^ d * 2 ^ (52 - n.log2 - d) = n * 2 ^ (52 - n.log2) := by
        rw [Nat.mul_assoc, ← Nat.pow_add]; congr 2; omega
      rw [e3]
      simp [Nat.mod_one]
    · have e1 : (-(d : Int) - ((n.log2 : Int) - 52)).toNat = 0 := by omega
      have e2 : (((n.log2 : Int) - 52) - -(d : Int)).toNat = n.log2 + d - 52 := by omega
      rw [e1, e2]
      simp only [Nat.pow_zero, Nat.mul_one]
      have e3 : n * 2 ^ d = n * 2 ^ (52 - n.log2) * 2 ^ (n.log2 + d - 52) := by
        rw [Nat.mul_assoc, ← Nat.pow_add]; congr 2; omega
      have e4 : min (n.log2 + d - 52) ((n * 2 ^ d).log2 + 2) = n.log2 + d - 52 := by rw [hl]; omega
      rw [e4, e3]
      have hp : 0 < 2 ^ (n.log2 + d - 52) := Nat.two_pow_pos _
      simp only [Nat.one_mul]
      rw [Nat.mul_mod_left, Nat.mul_div_cancel _ hp]
      have hne : ¬ (2 ^ (n.log2 + d - 52) < 2 * 0) := by omega
      have hne2 : (2 ^ (n.log2 + d - 52) == 2 * 0) = false := by simp only [beq_eq_false_iff_ne]; omega
      rw [hne2]
      simp
  rw [hk, least, bin, infR]
  congr 1
  have e : ((n.log2 : Int) - 52 - -1074).toNat = n.log2 + 1022 := by omega
  rw [e]
  generalize n * 2 ^ (52 - n.log2) = k at *
  omega

/-- What a word says. -/
theorem read_W (neg : Bool) (n : Nat) (hn : n < 2 ^ 53) : ∃ (m d : Nat), double.read (W neg n) = .number neg m (-(d : Int)) ∧ m = n * 2 ^ d := by
  by_cases h0 : n = 0
  · subst h0
    obtain ⟨d, hd⟩ : ∃ d, d = 1074 := ⟨_, rfl⟩
    refine ⟨0, d, ?_, (Nat.zero_mul _).symm⟩
    subst hd
    cases neg <;> decide +kernel
  · have hL := log_le h0 hn
    have klo := kept_lo h0 hn
    have khi := kept_hi h0 hn
    refine ⟨n * 2 ^ (52 - n.log2), 52 - n.log2, ?_, rfl⟩
    unfold W Format.read Format.word
    rw [if_neg h0, sw, bin, infR, least]
    generalize n * 2 ^ (52 - n.log2) = k at *
    have hr : (n.log2 + 1022) * 2 ^ 52 + k < 2 ^ 63 := by omega
    have e1 : (if neg = true then 2 ^ 63 + ((n.log2 + 1022) * 2 ^ 52 + k) else (n.log2 + 1022) * 2 ^ 52 + k) / 2 ^ 63 % 2 = neg.toNat := by
      cases neg <;> simp only [Bool.toNat] <;> simp <;> omega
    have e2 : (if neg = true then 2 ^ 63 + ((n.log2 + 1022) * 2 ^ 52 + k) else (n.log2 + 1022) * 2 ^ 52 + k) % 2 ^ 63 = (n.log2 + 1022) * 2 ^ 52 + k := by
      cases neg <;> simp <;> omega
    dsimp only
    rw [e1, e2, if_neg (by omega), if_pos (by omega)]
    have e3 : 2 ^ 52 + ((n.log2 + 1022) * 2 ^ 52 + k) % 2 ^ 52 = k := by omega
    have e4 : (-1074 : Int) + ((((n.log2 + 1022) * 2 ^ 52 + k) / 2 ^ 52 - 1 : Nat) : Int) = -((52 - n.log2 : Nat) : Int) := by omega
    rw [e3, e4]
    cases neg <;> rfl

/-- The word b stands for the whole number n (both zeros stand for 0). -/
def F (b : Nat) (n : Int) : Prop := ∃ neg : Bool, b = W neg n.natAbs ∧ (n ≠ 0 → neg = decide (n < 0))
theorem F.of (n : Int) : F (W (decide (n < 0)) n.natAbs) n := ⟨_, rfl, fun _ => rfl⟩

theorem signed_eq (neg : Bool) (n : Int) (h : n ≠ 0 → neg = decide (n < 0)) (d u : Nat) : signed neg (n.natAbs * 2 ^ d) u = n * 2 ^ (d + u) := by
  have e : ((n.natAbs * 2 ^ d * 2 ^ u : Nat) : Int) = (n.natAbs : Int) * 2 ^ (d + u) := by
    rw [Nat.mul_assoc, ← Nat.pow_add]; simp
  unfold signed
  rw [Nat.shiftLeft_eq, e]
  by_cases h0 : n = 0
  · subst h0; simp
  · rw [h h0]
    by_cases hn : n < 0
    · rw [decide_eq_true hn, if_pos rfl]
      have : (n.natAbs : Int) = -n := by omega
      rw [this, Int.neg_mul, Int.neg_neg]
    · rw [decide_eq_false hn, if_neg (by simp)]
      have : (n.natAbs : Int) = n := by omega
      rw [this]

theorem W_of_mag (neg : Bool) (t : Int) (d : Nat) (ht : t.natAbs < 2 ^ 53) (h : t ≠ 0 → neg = decide (t < 0)) : F (double.nearest neg (t.natAbs * 2 ^ d) (-(d : Int))) t :=
  ⟨neg, nearest_eq neg _ ht d, h⟩

theorem pow_pos' (d : Nat) : (0 : Int) < 2 ^ d := by
  have : (0 : Nat) < 2 ^ d := Nat.two_pow_pos d
  exact_mod_cast this

theorem sum_read {x y : Datum} {a b : Int} {s t : Bool} {i j : Nat} (hx : x = .number s (a.natAbs * 2 ^ i) (-(i : Int))) (hy : y = .number t (b.natAbs * 2 ^ j) (-(j : Int)))
    (hs : a ≠ 0 → s = decide (a < 0)) (ht : b ≠ 0 → t = decide (b < 0)) (hab : (a + b).natAbs < 2 ^ 53) : ∃ r, (x.sum y).map double.write = some r ∧ F r (a + b) := by
  subst hx hy
  unfold Datum.sum
  dsimp only
  have hmin : ∃ d : Nat, min (-(i : Int)) (-(j : Int)) = -(d : Int) ∧ i ≤ d ∧ j ≤ d := ⟨max i j, by omega, by omega, by omega⟩
  obtain ⟨d, hd, hi, hj⟩ := hmin
  rw [hd]
  have e1 : (-(i : Int) - -(d : Int)).toNat = d - i := by omega
  have e2 : (-(j : Int) - -(d : Int)).toNat = d - j := by omega
  rw [e1, e2, signed_eq s a hs, signed_eq t b ht, show i + (d - i) = d by omega, show j + (d - j) = d by omega, ← Int.add_mul]
  refine ⟨_, rfl, ?_⟩
  have hp := pow_pos' d
  have hna : ((a + b) * 2 ^ d).natAbs = (a + b).natAbs * 2 ^ d := by
    rw [Int.natAbs_mul]; congr 1
  have hz : (a + b) * 2 ^ d = 0 ↔ a + b = 0 := by
    constructor
    · intro h; rcases Int.mul_eq_zero.1 h with g | g
      · exact g
      · omega
    · intro h; rw [h]; simp
  rw [hna]
  refine W_of_mag _ _ d hab fun hne => ?_
  rw [if_neg (fun h => hne (hz.1 h))]
  by_cases hlt : a + b < 0
  · rw [decide_eq_true hlt]; simpa using Int.mul_neg_of_neg_of_pos hlt hp
  · rw [decide_eq_false hlt]; simpa using Int.mul_nonneg (by omega) (by omega)

theorem F.read {b : Nat} {n : Int} (h : F b n) (hn : n.natAbs < 2 ^ 53) : ∃ (s : Bool) (d : Nat), double.read b = .number s (n.natAbs * 2 ^ d) (-(d : Int)) ∧ (n ≠ 0 → s = decide (n < 0)) := by
  obtain ⟨s, rfl, hs⟩ := h
  obtain ⟨m, d, e, rfl⟩ := read_W s _ hn
  exact ⟨s, d, e, hs⟩

theorem add {x y : Nat} {a b : Int} (hx : F x a) (hy : F y b) (ha : a.natAbs < 2 ^ 53) (hb : b.natAbs < 2 ^ 53) (hab : (a + b).natAbs < 2 ^ 53) :
    ∃ r, floatBits .add .f64 x y = some r ∧ F r (a + b) := by
  obtain ⟨s, i, e1, hs⟩ := hx.read ha
  obtain ⟨t, j, e2, ht⟩ := hy.read hb
  exact sum_read e1 e2 hs ht hab

theorem sub {x y : Nat} {a b : Int} (hx : F x a) (hy : F y b) (ha : a.natAbs < 2 ^ 53) (hb : b.natAbs < 2 ^ 53) (hab : (a - b).natAbs < 2 ^ 53) :
    ∃ r, floatBits .sub .f64 x y = some r ∧ F r (a - b) := by
  obtain ⟨s, i, e1, hs⟩ := hx.read ha
  obtain ⟨t, j, e2, ht⟩ := hy.read hb
  have e3 : (double.read y).opposite = .number (!t) ((-b).natAbs * 2 ^ j) (-(j : Int)) := by rw [e2, Int.natAbs_neg]; rfl
  have ht' : -b ≠ 0 → (!t) = decide (-b < 0) := by
    intro h
    rw [ht (by omega)]
    by_cases hb0 : b < 0
    · rw [decide_eq_true hb0, decide_eq_false (by omega : ¬ -b < 0)]; rfl
    · rw [decide_eq_false hb0, decide_eq_true (by omega : -b < 0)]; rfl
  rw [show a - b = a + -b by omega]
  exact sum_read e1 e3 hs ht' (by rw [show a + -b = a - b by omega]; exact hab)

theorem mul {x y : Nat} {a b : Int} (hx : F x a) (hy : F y b) (ha : a.natAbs < 2 ^ 53) (hb : b.natAbs < 2 ^ 53) (hab : (a * b).natAbs < 2 ^ 53) :
    ∃ r, floatBits .mul .f64 x y = some r ∧ F r (a * b) := by
  obtain ⟨s, i, e1, hs⟩ := hx.read ha
  obtain ⟨t, j, e2, ht⟩ := hy.read hb
  have e : floatBits .mul .f64 x y = some (double.nearest (s ^^ t) (a.natAbs * 2 ^ i * (b.natAbs * 2 ^ j)) (-(i : Int) + -(j : Int))) := by
    show ((double.read x).product (double.read y)).map double.write = _
    rw [e1, e2]; rfl
  rw [e]
  have em : a.natAbs * 2 ^ i * (b.natAbs * 2 ^ j) = (a * b).natAbs * 2 ^ (i + j) := by
    rw [Int.natAbs_mul, Nat.pow_add]; grind
  rw [em, show -(i : Int) + -(j : Int) = -((i + j : Nat) : Int) by omega]
  refine ⟨_, rfl, W_of_mag _ _ _ hab fun hne => ?_⟩
  have ha0 : a ≠ 0 := fun h => hne (by rw [h]; simp)
  have hb0 : b ≠ 0 := fun h => hne (by rw [h]; simp)
  rw [hs ha0, ht hb0]
  by_cases h1 : a < 0 <;> by_cases h2 : b < 0
  · rw [decide_eq_true h1, decide_eq_true h2, decide_eq_false (by have := Int.mul_pos_of_neg_of_neg h1 h2; omega)]; rfl
  · rw [decide_eq_true h1, decide_eq_false h2, decide_eq_true (Int.mul_neg_of_neg_of_pos h1 (by omega))]; rfl
  · rw [decide_eq_false h1, decide_eq_true h2, decide_eq_true (Int.mul_neg_of_pos_of_neg (by omega) h2)]; rfl
  · rw [decide_eq_false h1, decide_eq_false h2, decide_eq_false (by have := Int.mul_pos (show 0 < a by omega) (show 0 < b by omega); omega)]; rfl

theorem order {x y : Nat} {a b : Int} (hx : F x a) (hy : F y b) (ha : a.natAbs < 2 ^ 53) (hb : b.natAbs < 2 ^ 53) : double.order x y = some (compare a b) := by
  obtain ⟨s, i, e1, hs⟩ := hx.read ha
  obtain ⟨t, j, e2, ht⟩ := hy.read hb
  show (double.read x).order (double.read y) = _
  rw [e1, e2]
  unfold Datum.order
  dsimp only
  have hmin : ∃ d : Nat, min (-(i : Int)) (-(j : Int)) = -(d : Int) ∧ i ≤ d ∧ j ≤ d := ⟨max i j, by omega, by omega, by omega⟩
  obtain ⟨d, hd, hi, hj⟩ := hmin
  rw [hd]
  have e1 : (-(i : Int) - -(d : Int)).toNat = d - i := by omega
  have e2 : (-(j : Int) - -(d : Int)).toNat = d - j := by omega
  rw [e1, e2, signed_eq s a hs, signed_eq t b ht, show i + (d - i) = d by omega, show j + (d - j) = d by omega]
  have hp := pow_pos' d
  congr 1
  simp only [compare, compareOfLessAndEq]
  have h1 : a * 2 ^ d < b * 2 ^ d ↔ a < b := ⟨fun h => Int.lt_of_mul_lt_mul_right h (by omega), fun h => Int.mul_lt_mul_of_pos_right h hp⟩
  have h2 : a * 2 ^ d = b * 2 ^ d ↔ a = b := ⟨fun h => Int.eq_of_mul_eq_mul_right (by omega) h, fun h => by rw [h]⟩
  simp only [h1, h2]

theorem toInt {x : Nat} {a : Int} (hx : F x a) (ha : a.natAbs < 2 ^ 53) : floatToIntVal .f64 x .i64 = some a := by
  obtain ⟨s, i, e1, hs⟩ := hx.read ha
  unfold floatToIntVal
  have e : (FloatKind.f64.decode x).toInt .zero = some a := by
    show (double.read x).toInt .zero = _
    rw [e1]
    unfold Datum.toInt Datum.integral
    dsimp only
    have hk : Toward.zero.cut s ((a.natAbs * 2 ^ i) <<< (-(i : Int)).toNat) (- -(i : Int)).toNat = a.natAbs := by
      unfold Toward.cut
      dsimp only
      rw [Nat.shiftLeft_eq, Nat.shiftLeft_eq, show (-(i : Int)).toNat = 0 by omega, show (- -(i : Int)).toNat = i by omega]
      simp only [Nat.pow_zero, Nat.mul_one, Nat.one_mul, Bool.toNat]
      by_cases h0 : a.natAbs = 0
      · rw [h0]; simp
      · have hm : a.natAbs * 2 ^ i ≠ 0 := Nat.mul_ne_zero h0 (Nat.pos_iff_ne_zero.1 (Nat.two_pow_pos i))
        have hi : i ≤ (a.natAbs * 2 ^ i).log2 := (Nat.le_log2 hm).2 (Nat.le_mul_of_pos_left _ (by omega))
        rw [show min i ((a.natAbs * 2 ^ i).log2 + 2) = i by omega, Nat.mul_div_cancel _ (Nat.two_pow_pos i)]
        simp
    rw [hk]
    have := signed_eq s a hs 0 0
    simp only [Nat.pow_zero, Nat.mul_one, Nat.add_zero, Int.pow_zero, Int.mul_one] at this
    rw [this]
  rw [e]
  dsimp only
  have e1 : IntKind.i64.min = -9223372036854775808 := rfl
  have e2 : IntKind.i64.max = 9223372036854775807 := rfl
  rw [e1, e2, if_pos (by omega)]

theorem F_ofInt (n : Int) (hn : n.natAbs < 2 ^ 53) : F (FloatKind.f64.nearest n) n := by
  have h := nearest_eq (decide (n < 0)) n.natAbs hn 0
  simp only [Nat.pow_zero, Nat.mul_one] at h
  show F (double.nearest (decide (n < 0)) n.natAbs 0) n
  have e : double.nearest (decide (n < 0)) n.natAbs 0 = W (decide (n < 0)) n.natAbs := h
  rw [e]
  exact F.of n

theorem neg {x : Nat} {a : Int} (hx : F x a) (ha : a.natAbs < 2 ^ 53) : F (Op.negFloat .f64 x) (-a) := by
  obtain ⟨s, rfl, hs⟩ := hx
  refine ⟨!s, ?_, ?_⟩
  · show W s a.natAbs ^^^ 2 ^ (11 + 52) = _
    rw [Int.natAbs_neg]
    generalize a.natAbs = n at *
    have key : ∀ r, r < 2 ^ 63 → double.word s r ^^^ 2 ^ 63 = double.word (!s) r := by
      intro r hr
      unfold Format.word
      rw [sw]
      have e0 : r ^^^ 2 ^ 63 = 2 ^ 63 + r := by
        rw [Nat.xor_comm]
        have := Nat.two_pow_add_eq_or_of_lt hr 1
        simp only [Nat.mul_one] at this
        rw [this]
        refine Nat.eq_of_testBit_eq fun k => ?_
        rw [Nat.testBit_xor, Nat.testBit_or, Nat.testBit_two_pow]
        by_cases hk : 63 = k
        · subst hk
          rw [Nat.testBit_lt_two_pow hr]; simp
        · simp [hk]
      cases s
      · simpa using e0
      · simp only [if_true, Bool.not_true]
        rw [← e0, Nat.xor_assoc, Nat.xor_self, Nat.xor_zero]; rfl
    unfold W
    split
    · exact key 0 (by omega)
    · rename_i h0
      have hL := log_le h0 ha
      have khi := kept_hi h0 ha
      exact key _ (by omega)
  · intro h
    rw [hs (by omega)]
    by_cases h0 : a < 0
    · rw [decide_eq_true h0, decide_eq_false (by omega : ¬ -a < 0)]; rfl
    · rw [decide_eq_false h0, decide_eq_true (by omega : -a < 0)]; rfl

theorem F.zero : F 0 0 := ⟨false, by decide +kernel, fun h => absurd rfl h⟩
theorem F.one : F 4607182418800017408 1 := ⟨false, by decide +kernel, fun _ => by decide⟩
end Go.Flt
