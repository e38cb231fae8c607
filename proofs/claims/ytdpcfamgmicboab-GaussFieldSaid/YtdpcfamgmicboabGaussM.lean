/- Gaussian integers modulo 8191, in plain Lean: the binomial theorem, Frobenius, Fermat; powers by squares. No program is named here. -/
namespace Go.GaussM

/-- A pair of whole numbers, as a + b i. -/
structure Z where
  re : Int
  im : Int

theorem Z.ext' {x y : Z} (h : x.re = y.re) (k : x.im = y.im) : x = y := by cases x; cases y; simp_all

def P : Int := 8191

namespace Z
def add (x y : Z) : Z := ⟨x.re + y.re, x.im + y.im⟩
def mul (x y : Z) : Z := ⟨x.re * y.re - x.im * y.im, x.re * y.im + x.im * y.re⟩
def sc (n : Int) (x : Z) : Z := ⟨n * x.re, n * x.im⟩
def one : Z := ⟨1, 0⟩
def zero : Z := ⟨0, 0⟩
def conj (x : Z) : Z := ⟨x.re, -x.im⟩
def pow (x : Z) : Nat → Z
  | 0 => one
  | n + 1 => mul (pow x n) x

theorem mul_comm (x y : Z) : mul x y = mul y x := ext' (by simp only [mul]; grind) (by simp only [mul]; grind)
theorem mul_assoc (x y z : Z) : mul (mul x y) z = mul x (mul y z) := ext' (by simp only [mul]; grind) (by simp only [mul]; grind)
theorem mul_one (x : Z) : mul x one = x := ext' (by simp [mul, one]) (by simp [mul, one])
theorem one_mul (x : Z) : mul one x = x := ext' (by simp [mul, one]) (by simp [mul, one])
theorem mul_zero (x : Z) : mul x zero = zero := ext' (by simp [mul, zero]) (by simp [mul, zero])
theorem mul_add (x y z : Z) : mul x (add y z) = add (mul x y) (mul x z) := ext' (by simp only [mul, add]; grind) (by simp only [mul, add]; grind)
theorem add_mul (x y z : Z) : mul (add x y) z = add (mul x z) (mul y z) := ext' (by simp only [mul, add]; grind) (by simp only [mul, add]; grind)
theorem add_comm (x y : Z) : add x y = add y x := ext' (by simp only [add]; omega) (by simp only [add]; omega)
theorem add_assoc (x y z : Z) : add (add x y) z = add x (add y z) := ext' (by simp only [add]; omega) (by simp only [add]; omega)
theorem mul_sc (n : Int) (x y : Z) : mul (sc n x) y = sc n (mul x y) := ext' (by simp only [mul, sc]; grind) (by simp only [mul, sc]; grind)
theorem mul_sc' (n : Int) (x y : Z) : mul x (sc n y) = sc n (mul x y) := ext' (by simp only [mul, sc]; grind) (by simp only [mul, sc]; grind)
theorem sc_one (x : Z) : sc 1 x = x := ext' (by simp [sc]) (by simp [sc])

theorem pow_add (x : Z) (m n : Nat) : pow x (m + n) = mul (pow x m) (pow x n) := by
  induction n with
  | zero => simp [pow, mul_one]
  | succ n ih => rw [← Nat.add_assoc]; simp only [pow]; rw [ih, mul_assoc]
theorem pow_mul (x : Z) (m n : Nat) : pow x (m * n) = pow (pow x m) n := by
  induction n with
  | zero => simp [pow]
  | succ n ih => rw [Nat.mul_succ, pow_add, ih]; rfl
theorem mul_pow (x y : Z) (n : Nat) : pow (mul x y) n = mul (pow x n) (pow y n) := by
  induction n with
  | zero => simp [pow, mul_one]
  | succ n ih =>
    simp only [pow]; rw [ih, mul_assoc, mul_assoc, ← mul_assoc (pow y n) x y, mul_comm (pow y n) x, mul_assoc x]
theorem pow_one (x : Z) : pow x 1 = x := by simp [pow, one_mul]
theorem one_pow (n : Nat) : pow one n = one := by
  induction n with
  | zero => rfl
  | succ n ih => simp [pow, ih, mul_one]

/-- Congruent modulo 8191. -/
def Cong (x y : Z) : Prop := (8191 : Int) ∣ x.re - y.re ∧ (8191 : Int) ∣ x.im - y.im
theorem Cong.refl (x : Z) : Cong x x := ⟨by simp, by simp⟩
theorem Cong.of_eq {x y : Z} (h : x = y) : Cong x y := h ▸ Cong.refl x
theorem Cong.symm {x y : Z} (h : Cong x y) : Cong y x := by
  obtain ⟨⟨a, ha⟩, b, hb⟩ := h
  exact ⟨⟨-a, by omega⟩, -b, by omega⟩
theorem Cong.trans {x y z : Z} (h : Cong x y) (k : Cong y z) : Cong x z := by
  obtain ⟨⟨a, ha⟩, b, hb⟩ := h
  obtain ⟨⟨c, hc⟩, d, hd⟩ := k
  exact ⟨⟨a + c, by omega⟩, b + d, by omega⟩
theorem Cong.add {x y z t : Z} (h : Cong x y) (k : Cong z t) : Cong (add x z) (add y t) := by
  obtain ⟨⟨a, ha⟩, b, hb⟩ := h
  obtain ⟨⟨c, hc⟩, d, hd⟩ := k
  exact ⟨⟨a + c, by simp only [Z.add]; omega⟩, b + d, by simp only [Z.add]; omega⟩
theorem Cong.mul {x y z t : Z} (h : Cong x y) (k : Cong z t) : Cong (mul x z) (mul y t) := by
  obtain ⟨⟨a, ha⟩, b, hb⟩ := h
  obtain ⟨⟨c, hc⟩, d, hd⟩ := k
  have e1 : x.re = y.re + 8191 * a := by omega
  have e2 : x.im = y.im + 8191 * b := by omega
  have e3 : z.re = t.re + 8191 * c := by omega
  have e4 : z.im = t.im + 8191 * d := by omega
  refine ⟨⟨a * t.re + y.re * c + 8191 * a * c - b * t.im - y.im * d - 8191 * b * d, ?_⟩, a * t.im + y.re * d + 8191 * a * d + b * t.re + y.im * c + 8191 * b * c, ?_⟩
  · simp only [Z.mul, e1, e2, e3, e4]; grind
  · simp only [Z.mul, e1, e2, e3, e4]; grind
theorem Cong.pow {x y : Z} (h : Cong x y) (n : Nat) : Cong (pow x n) (pow y n) := by
  induction n with
  | zero => exact Cong.refl _
  | succ n ih => exact Cong.mul ih h
theorem Cong.conj {x y : Z} (h : Cong x y) : Cong (conj x) (conj y) := by
  obtain ⟨⟨a, ha⟩, b, hb⟩ := h
  exact ⟨⟨a, ha⟩, -b, by simp only [Z.conj]; omega⟩
theorem conj_mul (x y : Z) : conj (mul x y) = mul (conj x) (conj y) := ext' (by simp only [conj, mul]; grind) (by simp only [conj, mul]; grind)
theorem conj_conj (x : Z) : conj (conj x) = x := ext' rfl (by simp [conj])

/- The binomial theorem. -/
/-- Sum of f(k) x^k y^(n-k), k from 0 to n. -/
def bin (f : Nat → Int) (x y : Z) : Nat → Z
  | 0 => sc (f 0) one
  | n + 1 => add (mul y (bin f x y n)) (sc (f (n + 1)) (pow x (n + 1)))

theorem bin_shift (f : Nat → Int) (x y : Z) (n : Nat) :
    bin f x y (n + 1) = add (sc (f 0) (pow y (n + 1))) (mul x (bin (fun k => f (k + 1)) x y n)) := by
  induction n with
  | zero =>
    simp only [bin, pow, one_mul]
    rw [mul_sc', mul_sc', mul_one, mul_one]
  | succ n ih =>
    rw [bin, ih]
    simp only [bin]
    rw [mul_add, mul_add, mul_sc', add_assoc]
    have e1 : mul y (pow y (n + 1)) = pow y (n + 1 + 1) := by rw [mul_comm]; rfl
    have e2 : mul y (mul x (bin (fun k => f (k + 1)) x y n)) = mul x (mul y (bin (fun k => f (k + 1)) x y n)) := by
      rw [← mul_assoc, mul_comm y x, mul_assoc]
    have e3 : mul x (sc (f (n + 1 + 1)) (pow x (n + 1))) = sc (f (n + 1 + 1)) (pow x (n + 1 + 1)) := by
      rw [mul_sc', mul_comm x]; rfl
    rw [e1, e2, e3]

theorem bin_add (f g : Nat → Int) (x y : Z) (n : Nat) : bin (fun k => f k + g k) x y n = add (bin f x y n) (bin g x y n) := by
  induction n with
  | zero => exact ext' (by simp only [bin, sc, add, one]; omega) (by simp only [bin, sc, add, one]; omega)
  | succ n ih =>
    simp only [bin, ih]
    refine ext' ?_ ?_ <;> simp only [add, mul, sc] <;> grind

theorem bin_congr {f g : Nat → Int} {x y : Z} {n : Nat} (h : ∀ k, k ≤ n → f k = g k) : bin f x y n = bin g x y n := by
  induction n with
  | zero => simp only [bin, h 0 (Nat.le_refl _)]
  | succ n ih => simp only [bin, h (n + 1) (Nat.le_refl _), ih (fun k hk => h k (by omega))]

def ch : Nat → Nat → Nat
  | _, 0 => 1
  | 0, _ + 1 => 0
  | n + 1, k + 1 => ch n k + ch n (k + 1)
theorem ch_zero (n : Nat) : ch n 0 = 1 := by cases n <;> rfl
theorem ch_over : ∀ n k, n < k → ch n k = 0
  | 0, k + 1, _ => rfl
  | n + 1, k + 1, h => by simp only [ch]; rw [ch_over n k (by omega), ch_over n (k + 1) (by omega)]
theorem ch_self : ∀ n, ch n n = 1
  | 0 => rfl
  | n + 1 => by simp only [ch]; rw [ch_self n, ch_over n (n + 1) (by omega)]
theorem ch_mul : ∀ n k, (k + 1) * ch (n + 1) (k + 1) = (n + 1) * ch n k
  | 0, 0 => rfl
  | 0, k + 1 => by simp [ch]
  | n + 1, 0 => by
    have h := ch_mul n 0
    simp only [ch, ch_zero] at h ⊢
    omega
  | n + 1, k + 1 => by
    have h1 := ch_mul n k
    have h2 := ch_mul n (k + 1)
    have e : ch (n + 1 + 1) (k + 1 + 1) = ch (n + 1) (k + 1) + ch (n + 1) (k + 1 + 1) := rfl
    have e' : ch (n + 1) (k + 1) = ch n k + ch n (k + 1) := rfl
    rw [e, Nat.mul_add, Nat.add_mul (k + 1) 1 (ch (n + 1) (k + 1)), h1, h2, e']
    grind

/-- (x + y)^n. -/
theorem add_pow (x y : Z) (n : Nat) : pow (add x y) n = bin (fun k => (ch n k : Int)) x y n := by
  induction n with
  | zero => simp [pow, bin, ch, sc_one]
  | succ n ih =>
    have hx : mul x (bin (fun k => (ch n k : Int)) x y n) = bin (fun k => match k with | 0 => 0 | k + 1 => (ch n k : Int)) x y (n + 1) := by
      rw [bin_shift]
      refine ext' ?_ ?_ <;> simp [add, sc]
    have hy : mul y (bin (fun k => (ch n k : Int)) x y n) = bin (fun k => (ch n k : Int)) x y (n + 1) := by
      simp only [bin, ch_over n (n + 1) (by omega)]
      refine ext' ?_ ?_ <;> simp [add, sc]
    simp only [pow]
    rw [ih, mul_comm, add_mul, hx, hy, ← bin_add]
    refine bin_congr fun k _ => ?_
    cases k with
    | zero => simp [ch_zero]
    | succ k => simp [ch]

theorem prime_cop (k : Nat) (h0 : 0 < k) (h : k < 8191) : Nat.Coprime k 8191 := by
  show Nat.gcd k 8191 = 1
  have hd : Nat.gcd k 8191 ∣ 8191 := Nat.gcd_dvd_right _ _
  have hk : Nat.gcd k 8191 ≤ k := Nat.gcd_le_left _ h0
  have hp : 0 < Nat.gcd k 8191 := Nat.gcd_pos_of_pos_left _ h0
  obtain ⟨e, he⟩ := hd
  generalize Nat.gcd k 8191 = d at *
  -- d * e = 8191, d ≤ k < 8191
  have small : ∀ a, a < 91 → 1 < a → 8191 % a ≠ 0 := by decide +kernel
  by_cases h1 : d = 1
  · exact h1
  · exfalso
    have he0 : 1 < e := by
      rcases Nat.lt_or_ge 1 e with g | g
      · exact g
      · exfalso
        have : d * e ≤ d * 1 := Nat.mul_le_mul_left d g
        omega
    by_cases hd91 : d < 91
    · exact small d hd91 (by omega) (by rw [he]; exact Nat.mul_mod_right d e)
    · have he91 : e < 91 := by
        rcases Nat.lt_or_ge e 91 with g | g
        · exact g
        · exfalso
          have : 91 * 91 ≤ d * e := Nat.mul_le_mul (by omega) g
          omega
      exact small e he91 he0 (by rw [he]; exact Nat.mul_mod_left d e)

theorem ch_dvd (k : Nat) (h0 : 0 < k) (h : k < 8191) : 8191 ∣ ch 8191 k := by
  obtain ⟨k, rfl⟩ : ∃ m, k = m + 1 := ⟨k - 1, by omega⟩
  have e := ch_mul 8190 k
  have hd : 8191 ∣ (k + 1) * ch 8191 (k + 1) := ⟨ch 8190 k, e⟩
  exact Nat.Coprime.dvd_of_dvd_mul_left (Nat.Coprime.symm (prime_cop (k + 1) h0 h)) hd

/-- A sum of which all but the ends vanishes. -/
theorem bin_mid (f : Nat → Int) (x y : Z) (n : Nat) (h : ∀ k, 0 < k → k ≤ n → (8191 : Int) ∣ f k) : Cong (bin f x y n) (sc (f 0) (pow y n)) := by
  induction n with
  | zero => exact Cong.refl _
  | succ n ih =>
    have i := ih (fun k a b => h k a (by omega))
    obtain ⟨c, hc⟩ := h (n + 1) (by omega) (Nat.le_refl _)
    have s : Cong (sc (f (n + 1)) (pow x (n + 1))) zero := by
      rw [hc]
      exact ⟨⟨c * (pow x (n + 1)).re, by simp only [sc, zero]; grind⟩, c * (pow x (n + 1)).im, by simp only [sc, zero]; grind⟩
    refine (Cong.add (Cong.mul (Cong.refl y) i) s).trans (Cong.of_eq ?_)
    rw [mul_sc', mul_comm y, show mul (pow y n) y = pow y (n + 1) from rfl]
    exact ext' (by simp [add, zero]) (by simp [add, zero])

/-- Frobenius. -/
theorem frob (x y : Z) : Cong (pow (add x y) 8191) (add (pow x 8191) (pow y 8191)) := by
  rw [add_pow]
  have e : bin (fun k => (ch 8191 k : Int)) x y (8190 + 1) = add (mul y (bin (fun k => (ch 8191 k : Int)) x y 8190)) (sc (ch 8191 8191 : Int) (pow x 8191)) := rfl
  have m := bin_mid (fun k => (ch 8191 k : Int)) x y 8190 (fun k a b => by
    obtain ⟨c, hc⟩ := ch_dvd k a (by omega)
    exact ⟨c, by rw [hc]; simp⟩)
  rw [show (8191 : Nat) = 8190 + 1 from rfl] at *
  rw [e]
  refine (Cong.add (Cong.mul (Cong.refl y) m) (Cong.refl _)).trans (Cong.of_eq ?_)
  rw [ch_zero, ch_self, mul_sc', mul_comm y]
  have p1 : mul (pow y 8190) y = pow y (8190 + 1) := rfl
  rw [p1]
  generalize pow y (8190 + 1) = a
  generalize pow x (8190 + 1) = b
  exact ext' (by simp [add, sc]; omega) (by simp [add, sc]; omega)

/- Fermat, and Frobenius as the turning about. -/
def ofInt (n : Int) : Z := ⟨n, 0⟩
theorem pow_ofInt (a : Int) (n : Nat) : pow (ofInt a) n = ofInt (a ^ n) := by
  induction n with
  | zero => exact ext' (by simp [pow, one, ofInt]) (by simp [pow, one, ofInt])
  | succ n ih => simp only [pow, ih]; exact ext' (by simp [mul, ofInt, Int.pow_succ]) (by simp [mul, ofInt])
theorem fermat_nat (n : Nat) : Cong (pow (ofInt n) 8191) (ofInt n) := by
  induction n with
  | zero =>
    refine Cong.of_eq ?_
    show mul (pow (ofInt ((0 : Nat) : Int)) 8190) (ofInt ((0 : Nat) : Int)) = _
    generalize pow (ofInt ((0 : Nat) : Int)) 8190 = t
    exact ext' (by simp [mul, ofInt]) (by simp [mul, ofInt])
  | succ n ih =>
    have e : ofInt ((n + 1 : Nat) : Int) = add (ofInt n) one := ext' (by simp [ofInt, add, one]) (by simp [ofInt, add, one])
    rw [e]
    refine (frob _ _).trans ?_
    rw [one_pow]
    exact Cong.add ih (Cong.refl _)
theorem fermat (a : Int) : Cong (pow (ofInt a) 8191) (ofInt a) := by
  have h : Cong (ofInt a) (ofInt ((a % 8191).toNat : Int)) := by
    refine ⟨⟨a / 8191, ?_⟩, 0, by simp [ofInt]⟩
    have : ((a % 8191).toNat : Int) = a % 8191 := by omega
    simp only [ofInt, this]; omega
  exact ((Cong.pow h 8191).trans (fermat_nat _)).trans h.symm
def I : Z := ⟨0, 1⟩
theorem I_pow4 (n : Nat) : pow I (4 * n) = one := by rw [pow_mul, show pow I 4 = one from rfl, one_pow]
theorem I_pow : pow I 8191 = ⟨0, -1⟩ := by
  rw [show (8191 : Nat) = 4 * 2047 + 3 from rfl, pow_add, I_pow4]; rfl
/-- P3.5: the power by 8191 is the number turned about. -/
theorem pow_P (x : Z) : Cong (pow x 8191) (conj x) := by
  have e : x = add (ofInt x.re) (mul (ofInt x.im) I) := ext' (by simp [add, ofInt, mul, I]) (by simp [add, ofInt, mul, I])
  have h : Cong (pow (add (ofInt x.re) (mul (ofInt x.im) I)) 8191) (conj x) := by
    refine (frob _ _).trans ?_
    rw [mul_pow, I_pow]
    refine (Cong.add (fermat _) (Cong.mul (fermat _) (Cong.refl _))).trans (Cong.of_eq ?_)
    exact ext' (by simp [add, ofInt, mul, conj]) (by simp [add, ofInt, mul, conj])
  rw [← e] at h
  exact h

theorem dvd_mul_P {a b : Int} (h : (8191 : Int) ∣ a * b) : (8191 : Int) ∣ a ∨ (8191 : Int) ∣ b := by
  by_cases ha : (8191 : Int) ∣ a
  · exact .inl ha
  · right
    have h' : 8191 ∣ a.natAbs * b.natAbs := by rw [← Int.natAbs_mul]; exact Int.ofNat_dvd_left.1 h
    have ha' : ¬ 8191 ∣ a.natAbs := fun g => ha (Int.ofNat_dvd_left.2 g)
    have hc : Nat.Coprime (a.natAbs % 8191) 8191 := prime_cop _ (Nat.pos_of_ne_zero fun g => ha' (Nat.dvd_of_mod_eq_zero g)) (Nat.mod_lt _ (by omega))
    have hc' : Nat.Coprime 8191 a.natAbs := by
      show Nat.gcd 8191 a.natAbs = 1
      rw [Nat.gcd_rec]; exact hc
    exact Int.ofNat_dvd_left.2 (Nat.Coprime.dvd_of_dvd_mul_left hc' h')

/-- Fermat, for what is not 0. -/
theorem fermat' {a : Int} (h : ¬ (8191 : Int) ∣ a) : (8191 : Int) ∣ a ^ 8190 - 1 := by
  have f := (fermat a).1
  rw [pow_ofInt] at f
  have e : a ^ 8191 - a = a * (a ^ 8190 - 1) := by rw [show (8191 : Nat) = 8190 + 1 from rfl, Int.pow_succ]; generalize a ^ 8190 = t; grind
  have f' : (8191 : Int) ∣ a ^ 8191 - a := f
  rw [e] at f'
  exact (dvd_mul_P f').resolve_left h

/-- A sum of two squares is 0 of two zeros alone. -/
theorem norm_dvd {a b : Int} (h : (8191 : Int) ∣ a * a + b * b) : (8191 : Int) ∣ a ∧ (8191 : Int) ∣ b := by
  have key : (8191 : Int) ∣ a := by
    by_cases ha : (8191 : Int) ∣ a
    · exact ha
    exfalso
    have hb : ¬ (8191 : Int) ∣ b := by
      intro hb
      have h2 : (8191 : Int) ∣ b * b := Int.dvd_trans hb (Int.dvd_mul_right b b)
      have h3 : (8191 : Int) ∣ a * a := by
        have := Int.dvd_sub h h2
        rwa [show a * a + b * b - b * b = a * a by omega] at this
      exact ha ((dvd_mul_P h3).elim id id)
    have fa := fermat' ha
    have fb := fermat' hb
    -- (a a) ^ 4095 = (- b b) ^ 4095
    have hc : Cong (ofInt (a * a)) (ofInt (-(b * b))) := ⟨by simpa [ofInt] using h, by simp [ofInt]⟩
    have hp := (Cong.pow hc 4095).1
    rw [pow_ofInt, pow_ofInt] at hp
    have hp' : (8191 : Int) ∣ (a * a) ^ 4095 - (-(b * b)) ^ 4095 := hp
    have e1 : (a * a) ^ 4095 = a ^ 8190 := by rw [Int.mul_pow, ← Int.pow_add]
    have e2 : (-(b * b)) ^ 4095 = - b ^ 8190 := by
      rw [show -(b * b) = -1 * (b * b) by omega, Int.mul_pow, Int.mul_pow, ← Int.pow_add]
      have : (-1 : Int) ^ 4095 = -1 := by
        rw [show (4095 : Nat) = 2 * 2047 + 1 from rfl, Int.pow_succ, Int.pow_mul, show (-1 : Int) ^ 2 = 1 from rfl, Int.one_pow]; rfl
      rw [this]; generalize b ^ (4095 + 4095) = t; omega
    rw [e1, e2] at hp'
    generalize a ^ 8190 = s at *
    generalize b ^ 8190 = t at *
    omega
  have key2 : (8191 : Int) ∣ b * b := by
    have := Int.dvd_sub h (Int.dvd_trans key (Int.dvd_mul_right a a))
    rwa [show a * a + b * b - a * a = b * b by omega] at this
  exact ⟨key, (dvd_mul_P key2).elim id id⟩

def norm (x : Z) : Int := x.re * x.re + x.im * x.im
theorem norm_mul (x y : Z) : norm (mul x y) = norm x * norm y := by simp only [norm, mul]; grind
theorem mul_conj (x : Z) : mul x (conj x) = ofInt (norm x) := ext' (by simp only [mul, conj, ofInt, norm]; grind) (by simp only [mul, conj, ofInt]; grind)

/-- What is not 0. -/
def Nz (x : Z) : Prop := ¬ Cong x zero
theorem Nz.norm {x : Z} (h : Nz x) : ¬ (8191 : Int) ∣ norm x := fun g => by
  obtain ⟨a, b⟩ := norm_dvd g
  exact h ⟨by simpa [zero] using a, by simpa [zero] using b⟩
theorem Cong.zero_norm {x : Z} (h : Cong x zero) : (8191 : Int) ∣ Z.norm x := by
  obtain ⟨⟨a, ha⟩, b, hb⟩ := h
  simp only [zero, Int.sub_zero] at ha hb
  exact ⟨a * x.re + b * x.im, by simp only [Z.norm]; rw [ha, hb]; grind⟩
theorem Nz.mul {x y : Z} (h : Nz x) (k : Nz y) : Nz (mul x y) := fun g => by
  have := Cong.zero_norm g
  rw [norm_mul] at this
  exact (dvd_mul_P this).elim h.norm k.norm
theorem Nz.pow {x : Z} (h : Nz x) (n : Nat) : Nz (pow x n) := by
  induction n with
  | zero => intro g; have := g.1; simp [Z.pow, one, zero] at this
  | succ n ih => exact ih.mul h
theorem Nz.cong {x y : Z} (h : Nz x) (k : Cong x y) : Nz y := fun g => h (k.trans g)

/-- The inverse by the norm. -/
theorem inv_norm {x : Z} (h : Nz x) : Cong (mul x (mul (conj x) (ofInt (norm x ^ 8189)))) one := by
  rw [← mul_assoc, mul_conj]
  have f := fermat' h.norm
  have e : mul (ofInt (norm x)) (ofInt (norm x ^ 8189)) = ofInt (norm x ^ 8190) := by
    have e2 : norm x ^ 8190 = norm x ^ 8189 * norm x := Int.pow_succ (norm x) 8189
    rw [e2]
    generalize norm x ^ 8189 = t
    exact ext' (by simp [mul, ofInt, Int.mul_comm]) (by simp [mul, ofInt])
  rw [e]
  exact ⟨f, by simp [ofInt, one]⟩

/-- Cancelling. -/
theorem cancel {x y z : Z} (h : Nz x) (k : Cong (mul x y) (mul x z)) : Cong y z := by
  have i := inv_norm h
  generalize mul (conj x) (ofInt (norm x ^ 8189)) = w at i
  have j : Cong (mul w (mul x y)) (mul w (mul x z)) := Cong.mul (Cong.refl _) k
  rw [← mul_assoc, ← mul_assoc, mul_comm w x] at j
  have l : ∀ t, Cong (mul (mul x w) t) t := fun t => (Cong.mul i (Cong.refl t)).trans (Cong.of_eq (one_mul t))
  exact ((l y).symm.trans j).trans (l z)

/-- x ^ (P P - 1) = 1. -/
theorem pow_order {x : Z} (h : Nz x) : Cong (mul x (pow x 67092479)) one := by
  have e : pow x (8191 * 8191) = mul x (mul x (pow x 67092479)) := by
    rw [show 8191 * 8191 = 67092479 + 1 + 1 from rfl]
    show mul (mul (pow x 67092479) x) x = _
    generalize pow x 67092479 = t
    rw [mul_comm t x, mul_comm (mul x t) x]
  have f : Cong (pow x (8191 * 8191)) x := by
    rw [pow_mul]
    refine ((Cong.pow (pow_P x) 8191).trans (pow_P _)).trans ?_
    rw [conj_conj]; exact Cong.refl _
  rw [e] at f
  exact cancel h (f.trans (Cong.of_eq (mul_one x).symm))

/-- The two inverses are one. -/
theorem inv_inv {x : Z} (h : Nz x) : Cong (mul (conj x) (ofInt (norm x ^ 8189))) (pow x 67092479) :=
  cancel h ((inv_norm h).trans (pow_order h).symm)

/- What is left modulo 8191. -/
def red (x : Z) : Z := ⟨x.re % 8191, x.im % 8191⟩
theorem red_cong (x : Z) : Cong (red x) x := ⟨⟨-(x.re / 8191), by simp only [red]; omega⟩, -(x.im / 8191), by simp only [red]; omega⟩
theorem red_eq {x y : Z} (h : Cong x y) : red x = red y := by
  obtain ⟨⟨a, ha⟩, b, hb⟩ := h
  exact ext' (by simp only [red]; omega) (by simp only [red]; omega)
theorem cong_of_red {x y : Z} (h : red x = red y) : Cong x y := (red_cong x).symm.trans ((Cong.of_eq h).trans (red_cong y))
def Small (x : Z) : Prop := 0 ≤ x.re ∧ x.re < 8191 ∧ 0 ≤ x.im ∧ x.im < 8191
theorem red_small (x : Z) : Small (red x) := ⟨by simp only [red]; omega, by simp only [red]; omega, by simp only [red]; omega, by simp only [red]; omega⟩
theorem red_id {x : Z} (h : Small x) : red x = x := by
  obtain ⟨a, b, c, d⟩ := h
  exact ext' (by simp only [red]; omega) (by simp only [red]; omega)
theorem small_eq {x y : Z} (h : Small x) (k : Small y) (c : Cong x y) : x = y := by rw [← red_id h, ← red_id k]; exact red_eq c

def gadd (x y : Z) : Z := red (add x y)
def gsub (x y : Z) : Z := red ⟨x.re - y.re, x.im - y.im⟩
def gmul (x y : Z) : Z := red (mul x y)
def gconj (x : Z) : Z := red (conj x)
def gnorm (x : Z) : Int := norm x % 8191

theorem gnorm_eq (x : Z) : ofInt (gnorm x) = gmul x (gconj x) := by
  have h : gmul x (gconj x) = red (ofInt (norm x)) := by
    rw [← mul_conj]; exact red_eq (Cong.mul (Cong.refl x) (red_cong _))
  rw [h]
  exact ext' rfl rfl

/-- Powers, by squares: what is so far, the square, how many are left. -/
def pw (x a : Z) (n : Nat) : Z :=
  if n = 0 then x else pw (if n % 2 = 1 then gmul x a else x) (gmul a a) (n / 2)
termination_by n
decreasing_by omega
theorem pw_zero (x a : Z) : pw x a 0 = x := by rw [pw]; simp
theorem pw_odd (x a : Z) (n : Nat) (h : n % 2 = 1) : pw x a n = pw (gmul x a) (gmul a a) (n / 2) := by rw [pw, if_neg (by omega), if_pos h]
theorem pw_even (x a : Z) (n : Nat) (h0 : n ≠ 0) (h : n % 2 ≠ 1) : pw x a n = pw x (gmul a a) (n / 2) := by rw [pw, if_neg h0, if_neg h]
theorem pw_small (n : Nat) : ∀ (x a : Z), Small x → Small (pw x a n) := by
  induction n using Nat.strongRecOn with
  | ind n ih =>
    intro x a h
    by_cases h0 : n = 0
    · subst h0; rw [pw_zero]; exact h
    · by_cases h1 : n % 2 = 1
      · rw [pw_odd x a n h1]; exact ih _ (by omega) _ _ (red_small _)
      · rw [pw_even x a n h0 h1]; exact ih _ (by omega) _ _ h
theorem pw_cong (n : Nat) : ∀ (x a : Z), Cong (pw x a n) (mul x (pow a n)) := by
  induction n using Nat.strongRecOn with
  | ind n ih =>
    intro x a
    by_cases h0 : n = 0
    · subst h0; rw [pw_zero]; exact Cong.of_eq (mul_one x).symm
    · have hs : Cong (gmul a a) (pow a 2) := (red_cong _).trans (Cong.of_eq (by simp [pow, one_mul]))
      have hp : Cong (pow (gmul a a) (n / 2)) (pow a (2 * (n / 2))) := by rw [pow_mul]; exact Cong.pow hs _
      by_cases h1 : n % 2 = 1
      · rw [pw_odd x a n h1]
        refine (ih _ (by omega) _ _).trans ((Cong.mul (red_cong _) hp).trans (Cong.of_eq ?_))
        rw [mul_assoc]
        have : pow a n = mul a (pow a (2 * (n / 2))) := by
          have e : n = 2 * (n / 2) + 1 := by omega
          rw [mul_comm]
          exact (congrArg (pow a) e)
        rw [this]
      · rw [pw_even x a n h0 h1]
        refine (ih _ (by omega) _ _).trans ((Cong.mul (Cong.refl _) hp).trans (Cong.of_eq ?_))
        have e : 2 * (n / 2) = n := by omega
        rw [e]
theorem one_small : Small one := ⟨by simp [one], by simp [one], by simp [one], by simp [one]⟩
theorem pw_eq (a : Z) (n : Nat) : pw one a n = red (pow a n) := by
  have h := pw_cong n one a
  rw [one_mul] at h
  rw [← red_eq h, red_id (pw_small n _ _ one_small)]

/-- The inverse of the program. -/
def ginv (a : Z) : Z := gmul (gconj a) (ofInt (pw one (ofInt (gnorm a)) 8189).re)
theorem nz_of {x : Z} (h : Small x) (k : x ≠ zero) : Nz x := fun g => k (small_eq h ⟨by simp [zero], by simp [zero], by simp [zero], by simp [zero]⟩ g)
theorem gnorm_zero {x : Z} (h : Small x) : gnorm x = 0 ↔ x = zero := by
  constructor
  · intro g
    by_cases k : x = zero
    · exact k
    · exact absurd (Int.dvd_of_emod_eq_zero g) (nz_of h k).norm
  · rintro rfl; rfl
theorem ginv_cong (x : Z) : Cong (ginv x) (mul (conj x) (ofInt (norm x ^ 8189))) := by
  refine (red_cong _).trans (Cong.mul (red_cong _) ?_)
  have h := pw_cong 8189 one (ofInt (gnorm x))
  rw [one_mul] at h
  have k : Cong (ofInt (gnorm x)) (ofInt (norm x)) := by
    refine ⟨⟨-(norm x / 8191), ?_⟩, 0, by simp [ofInt]⟩
    simp only [ofInt, gnorm]; omega
  have l := h.trans (Cong.pow k 8189)
  rw [pow_ofInt] at l
  exact ⟨l.1, by simp [ofInt]⟩
theorem ginv_mul {x : Z} (h : Small x) (k : x ≠ zero) : gmul x (ginv x) = one := by
  rw [← red_id one_small]
  exact red_eq ((Cong.mul (Cong.refl x) (ginv_cong x)).trans (inv_norm (nz_of h k)))
theorem ginv_eq {x : Z} (h : Small x) (k : x ≠ zero) : ginv x = pw one x 67092479 := by
  have g : red (ginv x) = ginv x := red_id (red_small _)
  rw [pw_eq, ← g]
  exact red_eq ((ginv_cong x).trans (inv_inv (nz_of h k)))
theorem ginv_unique {x y : Z} (hx : Small x) (hz : x ≠ zero) (hy : Small y) (h : gmul x y = one) : ginv x = y := by
  have h1 := ginv_mul hx hz
  have c : Cong (mul x (ginv x)) (mul x y) := cong_of_red (by show gmul x (ginv x) = gmul x y; rw [h1, h])
  exact small_eq (red_small _) hy (cancel (nz_of hx hz) c)
theorem pw_zero_base (n : Nat) (h : 0 < n) : pw one zero n = zero := by
  rw [pw_eq]
  obtain ⟨m, rfl⟩ : ∃ m, n = m + 1 := ⟨n - 1, by omega⟩
  show red (mul (pow zero m) zero) = zero
  rw [mul_zero]; rfl
theorem pw_turn (a : Z) : pw one a 8191 = gconj a := by rw [pw_eq]; exact red_eq (pow_P a)
theorem pw_mul (a b : Z) (n : Nat) : pw one (gmul a b) n = gmul (pw one a n) (pw one b n) := by
  rw [pw_eq, pw_eq, pw_eq]
  refine red_eq ?_
  refine (Cong.pow (red_cong _) n).trans ?_
  rw [mul_pow]
  exact Cong.mul (red_cong _).symm (red_cong _).symm

/- A field. -/
theorem g_dist (a b c : Z) : gmul a (gadd b c) = gadd (gmul a b) (gmul a c) := by
  refine red_eq ((Cong.mul (Cong.refl a) (red_cong _)).trans ?_)
  rw [mul_add]
  exact Cong.add (red_cong _).symm (red_cong _).symm
theorem g_assoc (a b c : Z) : gmul (gmul a b) c = gmul a (gmul c b) := by
  refine red_eq ((Cong.mul (red_cong _) (Cong.refl c)).trans ?_)
  rw [mul_assoc, mul_comm b c]
  exact Cong.mul (Cong.refl a) (red_cong _).symm
theorem g_sub_add {a b : Z} (h : Small a) : gadd (gsub a b) b = a := by
  rw [← red_id h]
  refine red_eq ((Cong.add (red_cong _) (Cong.refl b)).trans ?_)
  rw [red_id h]
  exact Cong.of_eq (ext' (by simp [add]) (by simp [add]))
end Z
end Go.GaussM
