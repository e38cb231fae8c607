/- Marks of bytes, in plain Lean: no power of 4 + i up to the 8191st is real; two lists that part at one place or two have unlike marks. No program is named here. -/
import Derived.Test.YtdpcfamgmicboaaGaussM
namespace Go.GaussM
namespace Z
def base : Z := ⟨4, 1⟩
theorem base_small : Small base := ⟨by decide, by decide, by decide, by decide⟩
theorem b0 : Cong (pow base 1) ⟨4, 1⟩ := Cong.of_eq (pow_one _)
theorem b1 : Cong (pow base 2) ⟨15, 8⟩ := by
  rw [show (2 : Nat) = 1 + 1 from rfl, pow_add]
  exact (Cong.mul b0 b0).trans ⟨by decide, by decide⟩
theorem b2 : Cong (pow base 4) ⟨161, 240⟩ := by
  rw [show (4 : Nat) = 2 + 2 from rfl, pow_add]
  exact (Cong.mul b1 b1).trans ⟨by decide, by decide⟩
theorem b3 : Cong (pow base 8) ⟨1085, 3561⟩ := by
  rw [show (8 : Nat) = 4 + 4 from rfl, pow_add]
  exact (Cong.mul b2 b2).trans ⟨by decide, by decide⟩
theorem b4 : Cong (pow base 16) ⟨4859, 3257⟩ := by
  rw [show (16 : Nat) = 8 + 8 from rfl, pow_add]
  exact (Cong.mul b3 b3).trans ⟨by decide, by decide⟩
theorem b5 : Cong (pow base 32) ⟨2715, 1502⟩ := by
  rw [show (32 : Nat) = 16 + 16 from rfl, pow_add]
  exact (Cong.mul b4 b4).trans ⟨by decide, by decide⟩
theorem b6 : Cong (pow base 64) ⟨4037, 5815⟩ := by
  rw [show (64 : Nat) = 32 + 32 from rfl, pow_add]
  exact (Cong.mul b5 b5).trans ⟨by decide, by decide⟩
theorem b7 : Cong (pow base 128) ⟨3693, 7689⟩ := by
  rw [show (128 : Nat) = 64 + 64 from rfl, pow_add]
  exact (Cong.mul b6 b6).trans ⟨by decide, by decide⟩
theorem b8 : Cong (pow base 256) ⟨2151, 2751⟩ := by
  rw [show (256 : Nat) = 128 + 128 from rfl, pow_add]
  exact (Cong.mul b7 b7).trans ⟨by decide, by decide⟩
theorem b9 : Cong (pow base 512) ⟨7560, 6998⟩ := by
  rw [show (512 : Nat) = 256 + 256 from rfl, pow_add]
  exact (Cong.mul b8 b8).trans ⟨by decide, by decide⟩
theorem b10 : Cong (pow base 1024) ⟨6978, 6613⟩ := by
  rw [show (1024 : Nat) = 512 + 512 from rfl, pow_add]
  exact (Cong.mul b9 b9).trans ⟨by decide, by decide⟩
theorem b11 : Cong (pow base 2048) ⟨5160, 3031⟩ := by
  rw [show (2048 : Nat) = 1024 + 1024 from rfl, pow_add]
  exact (Cong.mul b10 b10).trans ⟨by decide, by decide⟩
theorem b12 : Cong (pow base 4096) ⟨0, 6682⟩ := by
  rw [show (4096 : Nat) = 2048 + 2048 from rfl, pow_add]
  exact (Cong.mul b11 b11).trans ⟨by decide, by decide⟩
theorem b13 : Cong (pow base 8192) ⟨17, 0⟩ := by
  rw [show (8192 : Nat) = 4096 + 4096 from rfl, pow_add]
  exact (Cong.mul b12 b12).trans ⟨by decide, by decide⟩

theorem half : ∀ (k n : Nat), 0 < n → n < 2 ^ (k + 1) → ∃ t, n * t % 2 ^ (k + 1) = 2 ^ k
  | 0, n, h0, h => ⟨1, by
    obtain rfl : n = 1 := by simp at h; omega
    rfl⟩
  | k + 1, n, h0, h => by
    by_cases he : n % 2 = 0
    · obtain ⟨m, rfl⟩ : ∃ m, n = 2 * m := ⟨n / 2, by omega⟩
      obtain ⟨t, ht⟩ := half k m (by omega) (by rw [Nat.pow_succ] at h; omega)
      refine ⟨t, ?_⟩
      rw [Nat.mul_assoc, Nat.pow_succ 2 (k + 1), Nat.mul_comm (2 ^ (k + 1)) 2, Nat.mul_mod_mul_left, ht, Nat.pow_succ, Nat.mul_comm]
    · refine ⟨2 ^ (k + 1), ?_⟩
      obtain ⟨m, rfl⟩ : ∃ m, n = 2 * m + 1 := ⟨n / 2, by omega⟩
      have e : (2 * m + 1) * 2 ^ (k + 1) = 2 ^ (k + 1) + 2 ^ (k + 1 + 1) * m := by rw [Nat.pow_succ 2 (k + 1)]; grind
      rw [e, Nat.add_mul_mod_self_left]
      exact Nat.mod_eq_of_lt (by rw [Nat.pow_succ 2 (k + 1)]; have := Nat.two_pow_pos (k + 1); omega)

/-- A number whose second part is 0 has powers whose second part is 0. -/
theorem real_pow {x : Z} (h : (8191 : Int) ∣ x.im) (n : Nat) : (8191 : Int) ∣ (pow x n).im := by
  have c : Cong x (ofInt x.re) := ⟨by simp [ofInt], by simpa [ofInt] using h⟩
  have := (Cong.pow c n).2
  rw [pow_ofInt] at this
  simpa [ofInt] using this

theorem base_im (n : Nat) (h0 : 0 < n) (h : n < 8192) : ¬ (8191 : Int) ∣ (pow base n).im := by
  intro hd
  obtain ⟨t, ht⟩ := half 12 n h0 (by simpa using h)
  have h1 := real_pow hd t
  rw [← pow_mul] at h1
  have e : n * t = 8192 * (n * t / 8192) + 4096 := by
    have := Nat.div_add_mod (n * t) 8192
    have ht' : n * t % 8192 = 4096 := ht
    omega
  rw [e, pow_add, pow_mul] at h1
  have c : Cong (mul (pow (pow base 8192) (n * t / 8192)) (pow base 4096)) (mul (ofInt ((17 : Int) ^ (n * t / 8192))) ⟨0, 6682⟩) := by
    refine Cong.mul ?_ b12
    rw [← pow_ofInt]
    exact Cong.pow b13 _
  have h2 : (8191 : Int) ∣ (mul (ofInt ((17 : Int) ^ (n * t / 8192))) ⟨0, 6682⟩).im := by
    obtain ⟨a, ha⟩ := h1
    obtain ⟨b, hb⟩ := c.2
    exact ⟨a - b, by omega⟩
  simp only [mul, ofInt, Int.zero_mul, Int.add_zero] at h2
  rcases dvd_mul_P h2 with h3 | h3
  · have hz : Nz (ofInt 17) := fun g => by
      have := g.1
      simp only [ofInt, zero] at this
      exact absurd this (by decide)
    have := hz.pow (n * t / 8192)
    rw [pow_ofInt] at this
    exact this ⟨by simpa [ofInt, zero] using h3, by simp [ofInt, zero]⟩
  · exact absurd h3 (by decide)

/-- The mark, from a number on. -/
def mkm (z : Z) (l : List Int) : Z := l.foldl (fun z c => gadd (gmul z base) (red ⟨c + 1, 0⟩)) z
theorem mkm_cons (z : Z) (c : Int) (l : List Int) : mkm z (c :: l) = mkm (gadd (gmul z base) (red ⟨c + 1, 0⟩)) l := rfl
theorem mkm_nil (z : Z) : mkm z [] = z := rfl
theorem mk_small {z : Z} (h : Small z) : ∀ l, Small (mkm z l) := by
  intro l
  induction l generalizing z with
  | nil => exact h
  | cons c l ih => exact ih (red_small _)
theorem mk_append (z : Z) (l m : List Int) : mkm z (l ++ m) = mkm (mkm z l) m := List.foldl_append ..
/-- The sum that a mark is. -/
def sm : List Int → Z
  | [] => zero
  | c :: l => add (mul (ofInt (c + 1)) (pow base l.length)) (sm l)
theorem mk_sm (l : List Int) : ∀ z, Cong (mkm z l) (add (mul z (pow base l.length)) (sm l)) := by
  induction l with
  | nil => intro z; exact Cong.of_eq (ext' (by simp [mkm, add, mul, pow, one, sm, zero]) (by simp [mkm, add, mul, pow, one, sm, zero]))
  | cons c l ih =>
    intro z
    refine (ih _).trans ?_
    have h1 : Cong (gadd (gmul z base) (red ⟨c + 1, 0⟩)) (add (mul z base) (ofInt (c + 1))) := (red_cong _).trans (Cong.add (red_cong _) (red_cong _))
    refine (Cong.add (Cong.mul h1 (Cong.refl _)) (Cong.refl _)).trans (Cong.of_eq ?_)
    simp only [List.length_cons, sm]
    rw [show pow base (l.length + 1) = mul (pow base l.length) base from rfl, add_mul, add_assoc, mul_assoc, mul_comm base]

/-- How many places part. -/
def nd : List Int → List Int → Nat
  | a :: l, b :: m => (if a = b then 0 else 1) + nd l m
  | _, _ => 0
theorem nd_self : ∀ l, nd l l = 0
  | [] => rfl
  | a :: l => by simp [nd, nd_self l]
theorem nd_set : ∀ (l m : List Int) (j : Nat) (w : Int), nd l (m.set j w) ≤ nd l m + 1
  | [], m, j, w => by cases m <;> simp [nd]
  | a :: l, [], j, w => by simp [nd]
  | a :: l, b :: m, 0, w => by
    simp only [List.set_cons_zero, nd]
    split <;> split <;> omega
  | a :: l, b :: m, j + 1, w => by
    simp only [List.set_cons_succ, nd]
    have := nd_set l m j w
    omega
theorem nd_zero : ∀ {l m : List Int}, l.length = m.length → nd l m = 0 → l = m
  | [], [], _, _ => rfl
  | a :: l, b :: m, hl, h => by
    simp only [nd] at h
    by_cases hab : a = b
    · rw [if_pos hab] at h
      have e : l = m := nd_zero (by simpa using hl) (by omega)
      rw [hab, e]
    · rw [if_neg hab] at h
      omega
theorem one_place : ∀ {l m : List Int}, l.length = m.length → nd l m ≤ 1 → (∀ x ∈ l, 0 ≤ x ∧ x < 256) → (∀ x ∈ m, 0 ≤ x ∧ x < 256) →
    ∃ (d : Int) (e : Nat), sm l = add (sm m) (mul (ofInt d) (pow base e)) ∧ -256 < d ∧ d < 256 ∧ (e < l.length ∨ d = 0) ∧ (d = 0 → l = m)
  | [], [], _, _, _, _ => ⟨0, 0, ext' (by simp [sm, add, mul, ofInt, zero]) (by simp [sm, add, mul, ofInt, zero]), by omega, by omega, .inr rfl, fun _ => rfl⟩
  | a :: l, b :: m, hl, h, h1, h2 => by
    have hl' : l.length = m.length := by simpa using hl
    simp only [nd] at h
    by_cases hab : a = b
    · rw [if_pos hab] at h
      obtain ⟨d, e, hs, g1, g2, g3, g4⟩ := one_place hl' (by omega) (fun x hx => h1 x (List.mem_cons_of_mem _ hx)) (fun x hx => h2 x (List.mem_cons_of_mem _ hx))
      refine ⟨d, e, ?_, g1, g2, ?_, fun hd => by rw [hab, g4 hd]⟩
      · simp only [sm]; rw [hs, hab, hl', ← add_assoc]
      · rcases g3 with g | g
        · exact .inl (by simp; omega)
        · exact .inr g
    · rw [if_neg hab] at h
      have e := nd_zero hl' (by omega)
      subst e
      have ha := h1 a (List.mem_cons_self ..)
      have hb := h2 b (List.mem_cons_self ..)
      refine ⟨a - b, l.length, ?_, by omega, by omega, .inl (by simp), fun hd => absurd (by omega) hab⟩
      simp only [sm]
      refine ext' ?_ ?_ <;> simp only [add, mul, ofInt] <;> grind
theorem two_places : ∀ {l m : List Int}, l.length = m.length → nd l m ≤ 2 → (∀ x ∈ l, 0 ≤ x ∧ x < 256) → (∀ x ∈ m, 0 ≤ x ∧ x < 256) →
    ∃ (d1 d2 : Int) (e1 e2 : Nat), sm l = add (sm m) (add (mul (ofInt d1) (pow base e1)) (mul (ofInt d2) (pow base e2))) ∧ -256 < d1 ∧ d1 < 256 ∧ -256 < d2 ∧ d2 < 256 ∧
      (e2 < e1 ∨ d2 = 0) ∧ (e1 < l.length ∨ d1 = 0) ∧ (d1 = 0 → d2 = 0 → l = m)
  | [], [], _, _, _, _ => ⟨0, 0, 0, 0, ext' (by simp [sm, add, mul, ofInt, zero]) (by simp [sm, add, mul, ofInt, zero]), by omega, by omega, by omega, by omega, .inr rfl, .inr rfl, fun _ _ => rfl⟩
  | a :: l, b :: m, hl, h, h1, h2 => by
    have hl' : l.length = m.length := by simpa using hl
    simp only [nd] at h
    by_cases hab : a = b
    · rw [if_pos hab] at h
      obtain ⟨d1, d2, e1, e2, hs, g1, g2, g3, g4, g5, g6, g7⟩ := two_places hl' (by omega) (fun x hx => h1 x (List.mem_cons_of_mem _ hx)) (fun x hx => h2 x (List.mem_cons_of_mem _ hx))
      refine ⟨d1, d2, e1, e2, ?_, g1, g2, g3, g4, g5, ?_, fun hd hd' => by rw [hab, g7 hd hd']⟩
      · simp only [sm]; rw [hs, hab, hl', ← add_assoc]
      · rcases g6 with g | g
        · exact .inl (by simp; omega)
        · exact .inr g
    · rw [if_neg hab] at h
      obtain ⟨d, e, hs, g1, g2, g3, g4⟩ := one_place hl' (by omega) (fun x hx => h1 x (List.mem_cons_of_mem _ hx)) (fun x hx => h2 x (List.mem_cons_of_mem _ hx))
      have ha := h1 a (List.mem_cons_self ..)
      have hb := h2 b (List.mem_cons_self ..)
      refine ⟨a - b, d, l.length, e, ?_, by omega, by omega, g1, g2, g3, .inl (by simp), fun hd _ => absurd (by omega) hab⟩
      simp only [sm]
      rw [hs, hl']
      refine ext' ?_ ?_ <;> simp only [add, mul, ofInt] <;> grind

/-- Two lists that part at two places at the most have one sum only if they are one. -/
theorem tells {l m : List Int} (hl : l.length = m.length) (hn : nd l m ≤ 2) (h1 : ∀ x ∈ l, 0 ≤ x ∧ x < 256) (h2 : ∀ x ∈ m, 0 ≤ x ∧ x < 256) (hlen : l.length < 8192) (hc : Cong (sm l) (sm m)) : l = m := by
  obtain ⟨d1, d2, e1, e2, hs, g1, g2, g3, g4, g5, g6, g7⟩ := two_places hl hn h1 h2
  rw [hs] at hc
  have hz : Cong (add (mul (ofInt d1) (pow base e1)) (mul (ofInt d2) (pow base e2))) zero := by
    obtain ⟨⟨a, ha⟩, b, hb⟩ := hc
    exact ⟨⟨a, by simp only [add, zero] at ha ⊢; omega⟩, b, by simp only [add, zero] at hb ⊢; omega⟩
  have nb : Nz base := fun g => by have := g.2; simp [base, zero] at this
  have small_d : ∀ d : Int, -256 < d → d < 256 → (8191 : Int) ∣ d → d = 0 := fun d a b ⟨c, hc⟩ => by omega
  have one_of : ∀ (d : Int) (e : Nat), -256 < d → d < 256 → Cong (mul (ofInt d) (pow base e)) zero → d = 0 := by
    intro d e a b c
    have n := c.zero_norm
    rw [norm_mul] at n
    rcases dvd_mul_P n with k | k
    · have : norm (ofInt d) = d * d := by simp [norm, ofInt]
      rw [this] at k
      exact small_d d a b ((dvd_mul_P k).elim id id)
    · exact absurd k (nb.pow e).norm
  by_cases hd2 : d2 = 0
  · subst hd2
    have hz' : Cong (mul (ofInt d1) (pow base e1)) zero := by
      refine (Cong.of_eq ?_).trans hz
      exact ext' (by simp [add, mul, ofInt]) (by simp [add, mul, ofInt])
    exact g7 (one_of d1 e1 g1 g2 hz') rfl
  · have he : e2 < e1 := g5.resolve_right hd2
    have hd1 : d1 = 0 := by
      rcases g6 with hlt | h0
      · -- divide by the lower power
        obtain ⟨k, rfl⟩ : ∃ k, e1 = e2 + (k + 1) := ⟨e1 - e2 - 1, by omega⟩
        have hf : mul (pow base e2) (add (mul (ofInt d1) (pow base (k + 1))) (ofInt d2)) = add (mul (ofInt d1) (pow base (e2 + (k + 1)))) (mul (ofInt d2) (pow base e2)) := by
          rw [pow_add base e2 (k + 1), mul_add, ← mul_assoc, mul_comm (pow base e2) (ofInt d1), mul_assoc, mul_comm (pow base e2) (ofInt d2)]
        rw [← hf] at hz
        have hq : Cong (add (mul (ofInt d1) (pow base (k + 1))) (ofInt d2)) zero := cancel (nb.pow e2) (hz.trans (Cong.of_eq (mul_zero _).symm))
        have hi := hq.2
        have e : (add (mul (ofInt d1) (pow base (k + 1))) (ofInt d2)).im - zero.im = d1 * (pow base (k + 1)).im := by simp [add, mul, ofInt, zero]
        rw [e] at hi
        rcases dvd_mul_P hi with h | h
        · exact small_d d1 g1 g2 h
        · exact absurd h (base_im (k + 1) (by omega) (by omega))
      · exact h0
    subst hd1
    have hz' : Cong (mul (ofInt d2) (pow base e2)) zero := by
      refine (Cong.of_eq ?_).trans hz
      exact ext' (by simp [add, mul, ofInt]) (by simp [add, mul, ofInt])
    exact absurd (one_of d2 e2 g3 g4 hz') hd2

theorem mk_eq {l m : List Int} (hl : l.length = m.length) (hn : nd l m ≤ 2) (h1 : ∀ x ∈ l, 0 ≤ x ∧ x < 256) (h2 : ∀ x ∈ m, 0 ≤ x ∧ x < 256) (hlen : l.length < 8192) (he : mkm zero l = mkm zero m) : l = m := by
  refine tells hl hn h1 h2 hlen ?_
  have a := mk_sm l zero
  have b := mk_sm m zero
  have z : ∀ t : Z, ∀ n, add (mul zero (pow base n)) t = t := fun t n => ext' (by simp [add, mul, zero]) (by simp [add, mul, zero])
  rw [z] at a b
  exact a.symm.trans ((Cong.of_eq he).trans b)

/-- The mark of two lists, one behind the other. -/
theorem mk_join (l m : List Int) : mkm zero (l ++ m) = gadd (gmul (mkm zero l) (pw one base m.length)) (mkm zero m) := by
  rw [mk_append]
  have s1 : Small (mkm (mkm zero l) m) := mk_small (mk_small ⟨by decide, by decide, by decide, by decide⟩ l) m
  refine small_eq s1 (red_small _) ?_
  refine (mk_sm m _).trans (Cong.trans ?_ (red_cong _).symm)
  have b := mk_sm m zero
  have z : ∀ t : Z, ∀ n, add (mul zero (pow base n)) t = t := fun t n => ext' (by simp [add, mul, zero]) (by simp [add, mul, zero])
  rw [z] at b
  refine Cong.add ?_ b.symm
  refine Cong.trans (Cong.mul (Cong.refl _) ?_) (red_cong _).symm
  rw [pw_eq]
  exact (red_cong _).symm
end Z
end Go.GaussM
