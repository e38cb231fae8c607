/- The queue's list as a heap: what is put and what is popped, in plain lists; no condition beyond each theorem its own. -/
import Derived.Test.YtdpcfamgmicboaeQueueF
import Derived.Test.YtdpcfamgmicboaeQExt
namespace Go.Proofs.Ytdpcfamgmicboae
set_option linter.unusedVariables false
/-! the order -/
theorem bl_irr : ∀ a : List UInt8, Op.bytesLess a a = false
  | [] => rfl
  | x :: xs => by
    have h2 : ¬ x < x := fun g => absurd (show x.toNat < x.toNat from g) (by omega)
    simp [Op.bytesLess, h2, bl_irr xs]
theorem bl_trans : ∀ a b c : List UInt8, Op.bytesLess a b = true → Op.bytesLess b c = true → Op.bytesLess a c = true
  | _, [], _, h, _ => by simp [Op.bytesLess] at h
  | _, _ :: _, [], _, h => by simp [Op.bytesLess] at h
  | [], _ :: _, _ :: _, _, _ => by simp [Op.bytesLess]
  | x :: xs, y :: ys, z :: zs, h1, h2 => by
    simp only [Op.bytesLess, Bool.or_eq_true, decide_eq_true_eq, Bool.and_eq_true, beq_iff_eq] at h1 h2 ⊢
    rcases h1 with h1 | ⟨h1, h1'⟩
    · have k1 : x.toNat < y.toNat := h1
      rcases h2 with h2 | ⟨h2, h2'⟩
      · have k2 : y.toNat < z.toNat := h2
        exact .inl (show x.toNat < z.toNat by omega)
      · subst h2; exact .inl h1
    · subst h1
      rcases h2 with h2 | ⟨h2, h2'⟩
      · exact .inl h2
      · exact .inr ⟨h2, bl_trans xs ys zs h1' h2'⟩
/-- a comes ahead of b. -/
def ltI (a b : It) : Prop := a.f1 < b.f1 ∨ a.f1 = b.f1 ∧ (a.f2 < b.f2 ∨ a.f2 = b.f2 ∧ Op.bytesLess a.f0.toList b.f0.toList = true)
theorem bl_gt (a b : List UInt8) (h1 : ¬ Op.bytesLess a b = true) (h2 : ¬ Op.bytesLess b a = true) : a = b := by
  have h := bytes_gtr a b
  simp only [Bool.not_eq_true] at h1 h2
  rw [h1, h2] at h
  simpa using h
theorem lt_asymm {a b : It} (h : ltI a b) : ¬ ltI b a := by
  intro k
  unfold ltI at h k
  rcases h with h | ⟨h, h | ⟨h', h''⟩⟩ <;> rcases k with k | ⟨k, k | ⟨k', k''⟩⟩ <;> try omega
  have := bl_trans _ _ _ h'' k''
  rw [bl_irr] at this
  cases this
theorem lt_trans {a b c : It} (h : ltI a b) (k : ltI b c) : ltI a c := by
  unfold ltI at h k ⊢
  rcases h with h | ⟨h, h | ⟨h', h''⟩⟩ <;> rcases k with k | ⟨k, k | ⟨k', k''⟩⟩ <;> try (left; omega)
  · right; exact ⟨by omega, .inl (by omega)⟩
  · right; exact ⟨by omega, .inl (by omega)⟩
  · right; exact ⟨by omega, .inl (by omega)⟩
  · right; exact ⟨by omega, .inr ⟨by omega, bl_trans _ _ _ h'' k''⟩⟩
/-- Where neither comes ahead, all is the same. -/
theorem lt_tri {a b : It} (h : ¬ ltI a b) (k : ¬ ltI b a) : a.f1 = b.f1 ∧ a.f2 = b.f2 ∧ a.f0.toList = b.f0.toList := by
  unfold ltI at h k
  have e1 : a.f1 = b.f1 := by omega
  have e2 : a.f2 = b.f2 := by omega
  exact ⟨e1, e2, bl_gt _ _ (fun g => h (.inr ⟨e1, .inr ⟨e2, g⟩⟩)) (fun g => k (.inr ⟨e1.symm, .inr ⟨e2.symm, g⟩⟩))⟩
/-- lt a b, and not lt c b: then lt a c. -/
theorem lt_nlt {a b c : It} (h : ltI a b) (k : ¬ ltI c b) : ltI a c := by
  by_cases h1 : ltI b c
  · exact lt_trans h h1
  · obtain ⟨e1, e2, e3⟩ := lt_tri k h1
    unfold ltI at h ⊢
    rw [e1, e2, e3]
    exact h
theorem cI_cases (a b : Int) : cI a b = -1 ∧ a < b ∨ cI a b = 0 ∧ a = b ∨ cI a b = 1 ∧ b < a := by
  unfold cI
  split
  · exact .inl ⟨rfl, by omega⟩
  · split
    · exact .inr (.inr ⟨rfl, by omega⟩)
    · exact .inr (.inl ⟨rfl, by omega⟩)
theorem ord_gt (a b : It) : ¬ ordI a b ≤ 0 ↔ ltI b a := by
  unfold ordI ltI
  rcases cI_cases a.f1 b.f1 with ⟨e, h⟩ | ⟨e, h⟩ | ⟨e, h⟩
  · rw [e, if_pos (by decide)]; constructor
    · intro k; exact absurd (by decide) k
    · intro k; omega
  · rw [e, if_neg (by decide)]
    rcases cI_cases a.f2 b.f2 with ⟨e2, h2⟩ | ⟨e2, h2⟩ | ⟨e2, h2⟩
    · rw [e2, if_pos (by decide)]; constructor
      · intro k; exact absurd (by decide) k
      · intro k; omega
    · rw [e2, if_neg (by decide)]
      unfold cS
      by_cases c1 : Op.bytesLess a.f0.toList b.f0.toList = true
      · rw [if_pos c1]; constructor
        · intro k; exact absurd (by decide) k
        · intro k
          have k3 : Op.bytesLess b.f0.toList a.f0.toList = true := by
            rcases k with k | ⟨_, k | ⟨_, k⟩⟩
            · omega
            · omega
            · exact k
          have := bl_trans _ _ _ c1 k3
          rw [bl_irr] at this
          cases this
      · rw [if_neg c1]
        by_cases c2 : Op.bytesLess b.f0.toList a.f0.toList = true
        · rw [if_pos c2]; exact ⟨fun _ => .inr ⟨h.symm, .inr ⟨h2.symm, c2⟩⟩, fun _ => by decide⟩
        · rw [if_neg c2]; constructor
          · intro k; exact absurd (by decide) k
          · intro k
            rcases k with k | ⟨_, k | ⟨_, k⟩⟩
            · omega
            · omega
            · exact absurd k c2
    · rw [e2, if_pos (by decide)]; exact ⟨fun _ => .inr ⟨h.symm, .inl h2⟩, fun _ => by decide⟩
  · rw [e, if_pos (by decide)]; exact ⟨fun _ => .inl h, fun _ => by decide⟩
theorem ord_le (a b : It) : ordI a b ≤ 0 ↔ ¬ ltI b a := by
  rw [← ord_gt]
  exact Decidable.not_not.symm
theorem ord_lt (a b : It) : ordI a b < 0 ↔ ltI a b := by
  unfold ordI ltI
  rcases cI_cases a.f1 b.f1 with ⟨e, h⟩ | ⟨e, h⟩ | ⟨e, h⟩
  · rw [e, if_pos (by decide)]; exact ⟨fun _ => .inl h, fun _ => by decide⟩
  · rw [e, if_neg (by decide)]
    rcases cI_cases a.f2 b.f2 with ⟨e2, h2⟩ | ⟨e2, h2⟩ | ⟨e2, h2⟩
    · rw [e2, if_pos (by decide)]; exact ⟨fun _ => .inr ⟨h, .inl h2⟩, fun _ => by decide⟩
    · rw [e2, if_neg (by decide)]
      unfold cS
      by_cases c1 : Op.bytesLess a.f0.toList b.f0.toList = true
      · rw [if_pos c1]; exact ⟨fun _ => .inr ⟨h, .inr ⟨h2, c1⟩⟩, fun _ => by decide⟩
      · rw [if_neg c1]
        constructor
        · intro k
          split at k <;> exact absurd k (by decide)
        · intro k
          rcases k with k | ⟨_, k | ⟨_, k⟩⟩
          · omega
          · omega
          · exact absurd k c1
    · rw [e2, if_pos (by decide)]; constructor
      · intro k; exact absurd k (by decide)
      · intro k; omega
  · rw [e, if_pos (by decide)]; constructor
    · intro k; exact absurd k (by decide)
    · intro k; omega
/-! places -/
abbrev gx (xs : List It) (j : Nat) : It := xs.getD j PQ.z28
theorem set_gx (xs : List It) (i j : Nat) (v : It) (h : i < xs.length) : gx (xs.set i v) j = if j = i then v else gx xs j := by
  unfold gx
  rw [List.getD_eq_getElem?_getD, List.getD_eq_getElem?_getD]
  by_cases e : j = i
  · subst e; rw [List.getElem?_set_self h, if_pos rfl]; rfl
  · rw [List.getElem?_set_ne (fun g => e g.symm), if_neg e]
theorem swap_gx (xs : List It) (i k j : Nat) (hi : i < xs.length) (hk : k < xs.length) : gx (swapL xs i k) j = if j = k then gx xs i else if j = i then gx xs k else gx xs j := by
  unfold swapL
  rw [set_gx _ _ _ _ (by rw [List.length_set]; exact hk), set_gx _ _ _ _ hi]
noncomputable instance : DecidableEq It := fun a b => Classical.propDecidable (a = b)
theorem swap_perm (xs : List It) (i k : Nat) (hi : i < xs.length) (hk : k < xs.length) : (swapL xs i k).Perm xs := by
  rw [List.perm_iff_count]
  intro a
  unfold swapL
  rw [List.count_set (by rw [List.length_set]; exact hk), List.count_set hi]
  have e1 : xs.getD k PQ.z28 = xs[k] := by simp [List.getD_eq_getElem?_getD, List.getElem?_eq_getElem hk]
  have e2 : xs.getD i PQ.z28 = xs[i] := by simp [List.getD_eq_getElem?_getD, List.getElem?_eq_getElem hi]
  rw [e1, e2]
  have c1 : xs[i] = a → 0 < xs.count a := fun e => List.count_pos_iff.2 (by rw [← e]; exact List.getElem_mem hi)
  by_cases hik : i = k
  · subst hik
    simp only [List.getElem_set_self]
    by_cases h1 : xs[i] = a
    · have := c1 h1
      simp [h1]; omega
    · simp [h1]
  · rw [List.getElem_set_ne hik]
    have c2 : xs[k] = a → 0 < xs.count a := fun e => List.count_pos_iff.2 (by rw [← e]; exact List.getElem_mem hk)
    by_cases h1 : xs[i] = a
    · by_cases h2 : xs[k] = a
      · have := c1 h1; simp [h1, h2]; omega
      · have := c1 h1; simp [h1, h2]; omega
    · by_cases h2 : xs[k] = a
      · have := c2 h2; simp [h1, h2]
      · simp [h1, h2]
theorem up_perm : ∀ (f : Nat) (xs : List It) (i : Nat), i < xs.length → (upF f xs i).Perm xs
  | 0, xs, _, _ => List.Perm.refl _
  | f + 1, xs, i, hi => by
    unfold upF
    split
    · split
      · exact List.Perm.refl _
      · exact (up_perm f _ _ (by rw [swapL_len]; omega)).trans (swap_perm xs _ _ (by omega) hi)
    · exact List.Perm.refl _
theorem down_perm : ∀ (f : Nat) (xs : List It) (i : Nat), i < xs.length ∨ xs.length = 0 → (downF f xs i).Perm xs
  | 0, xs, _, _ => List.Perm.refl _
  | f + 1, xs, i, hi => by
    unfold downF
    split
    · exact List.Perm.refl _
    · rename_i hne
      rcases pkF_lt xs i 2 with e | ⟨h1, h2⟩
      · exact absurd e hne
      · exact (down_perm f _ _ (by rw [swapL_len]; exact .inl h2)).trans (swap_perm xs _ _ (by omega) h2)
/-! the heap -/
def Heap (xs : List It) : Prop := ∀ j, 0 < j → j < xs.length → ¬ ltI (gx xs j) (gx xs ((j - 1) / 2))
theorem heap_root {xs : List It} (h : Heap xs) : ∀ (n j : Nat), j ≤ n → j < xs.length → ¬ ltI (gx xs j) (gx xs 0)
  | 0, j, hn, hj => by
    obtain rfl : j = 0 := by omega
    exact fun g => lt_asymm g g
  | n + 1, j, hn, hj => by
    by_cases h0 : j = 0
    · subst h0; exact fun g => lt_asymm g g
    · have h1 := h j (by omega) hj
      have h2 := heap_root h n ((j - 1) / 2) (by omega) (by omega)
      exact fun g => h1 (lt_nlt g h2)
theorem up_heap : ∀ (f : Nat) (xs : List It) (i : Nat), i < xs.length → i ≤ f →
    (∀ j, 0 < j → j < xs.length → j ≠ i → ¬ ltI (gx xs j) (gx xs ((j - 1) / 2))) → (∀ j, 0 < j → j < xs.length → (j - 1) / 2 = i → 0 < i → ¬ ltI (gx xs j) (gx xs ((i - 1) / 2))) → Heap (upF f xs i)
  | 0, xs, i, hi, hf, h1, h2 => fun j h0 hj => h1 j h0 hj (by omega)
  | f + 1, xs, i, hi, hf, h1, h2 => by
    unfold upF
    by_cases h0 : 0 < i
    · rw [if_pos h0]
      by_cases ho : ordI (xs.getD ((i - 1) / 2) PQ.z28) (xs.getD i PQ.z28) ≤ 0
      · rw [if_pos ho]
        intro j hj0 hj
        by_cases e : j = i
        · subst e; exact (ord_le _ _).1 ho
        · exact h1 j hj0 hj e
      · rw [if_neg ho]
        have hlt : ltI (gx xs i) (gx xs ((i - 1) / 2)) := (ord_gt _ _).1 ho
        have hm : (i - 1) / 2 < i := by omega
        generalize hme : (i - 1) / 2 = m at *
        have hml : m < xs.length := by omega
        have G := fun j => swap_gx xs m i j hml hi
        refine up_heap f _ m (by rw [swapL_len]; omega) (by omega) ?_ ?_
        · intro j hj0 hj hjm
          rw [swapL_len] at hj
          have hpj : (j - 1) / 2 < j := by omega
          rw [G, G]
          by_cases e1 : j = i
          · subst e1
            rw [if_pos rfl, hme, if_neg (by omega), if_pos rfl]
            exact lt_asymm hlt
          · rw [if_neg e1, if_neg hjm]
            by_cases e2 : (j - 1) / 2 = i
            · rw [if_pos e2]
              exact h2 j hj0 hj e2 h0
            · rw [if_neg e2]
              by_cases e3 : (j - 1) / 2 = m
              · rw [if_pos e3]
                have := h1 j hj0 hj e1
                rw [e3] at this
                exact fun g => this (lt_trans g hlt)
              · rw [if_neg e3]
                exact h1 j hj0 hj e1
        · intro j hj0 hj hpj hm0
          rw [swapL_len] at hj
          have hpm : (m - 1) / 2 < m := by omega
          rw [G, G, if_neg (show ¬ (m - 1) / 2 = i by omega), if_neg (show ¬ (m - 1) / 2 = m by omega)]
          have hmp := h1 m hm0 hml (by omega)
          by_cases e1 : j = i
          · rw [if_pos e1]; exact hmp
          · rw [if_neg e1, if_neg (show ¬ j = m by omega)]
            have hjp := h1 j hj0 hj e1
            rw [hpj] at hjp
            exact fun g => hjp (lt_nlt g hmp)
    · rw [if_neg h0]
      intro j hj0 hj
      exact h1 j hj0 hj (by omega)
theorem pk_spec (xs : List It) (i : Nat) : (pkF xs i 2 = i ∨ pkF xs i 2 = 2 * i + 1 ∨ pkF xs i 2 = 2 * i + 2) ∧ ¬ ltI (gx xs i) (gx xs (pkF xs i 2)) ∧
    (2 * i + 1 < xs.length → ¬ ltI (gx xs (2 * i + 1)) (gx xs (pkF xs i 2))) ∧ (2 * i + 2 < xs.length → ¬ ltI (gx xs (2 * i + 2)) (gx xs (pkF xs i 2))) := by
  have irr : ∀ a : It, ¬ ltI a a := fun a g => lt_asymm g g
  have e1 : pkF xs i 1 = if 2 * i + 1 < xs.length ∧ ordI (gx xs (2 * i + 1)) (gx xs i) < 0 then 2 * i + 1 else i := rfl
  have e2 : pkF xs i 2 = if 2 * i + 1 + 1 < xs.length ∧ ordI (gx xs (2 * i + 1 + 1)) (gx xs (pkF xs i 1)) < 0 then 2 * i + 1 + 1 else pkF xs i 1 := rfl
  have h1 : (pkF xs i 1 = i ∨ pkF xs i 1 = 2 * i + 1) ∧ ¬ ltI (gx xs i) (gx xs (pkF xs i 1)) ∧ (2 * i + 1 < xs.length → ¬ ltI (gx xs (2 * i + 1)) (gx xs (pkF xs i 1))) := by
    rw [e1]
    by_cases c : 2 * i + 1 < xs.length ∧ ordI (gx xs (2 * i + 1)) (gx xs i) < 0
    · rw [if_pos c]
      exact ⟨.inr rfl, lt_asymm ((ord_lt _ _).1 c.2), fun _ => irr _⟩
    · rw [if_neg c]
      exact ⟨.inl rfl, irr _, fun h g => c ⟨h, (ord_lt _ _).2 g⟩⟩
  rw [e2]
  by_cases c : 2 * i + 1 + 1 < xs.length ∧ ordI (gx xs (2 * i + 1 + 1)) (gx xs (pkF xs i 1)) < 0
  · rw [if_pos c]
    have hlt := (ord_lt _ _).1 c.2
    exact ⟨.inr (.inr rfl), fun g => h1.2.1 (lt_trans g hlt), fun h g => h1.2.2 h (lt_trans g hlt), fun _ => irr _⟩
  · rw [if_neg c]
    refine ⟨h1.1.elim .inl (fun e => .inr (.inl e)), h1.2.1, h1.2.2, fun h g => c ⟨h, (ord_lt _ _).2 g⟩⟩
theorem down_heap : ∀ (f : Nat) (xs : List It) (i : Nat), xs.length + 1 ≤ f + i →
    (∀ j, 0 < j → j < xs.length → (j - 1) / 2 ≠ i → ¬ ltI (gx xs j) (gx xs ((j - 1) / 2))) → (∀ j, 0 < j → j < xs.length → (j - 1) / 2 = i → 0 < i → ¬ ltI (gx xs j) (gx xs ((i - 1) / 2))) → Heap (downF f xs i)
  | 0, xs, i, hf, h1, h2 => fun j h0 hj => h1 j h0 hj (by have hj' : j < xs.length := hj; omega)
  | f + 1, xs, i, hf, h1, h2 => by
    obtain ⟨hq, q0, q1, q2⟩ := pk_spec xs i
    have hlt := pkF_lt xs i 2
    unfold downF
    generalize pkF xs i 2 = q at *
    by_cases e : q = i
    · rw [if_pos e]
      subst e
      intro j hj0 hj
      by_cases e2 : (j - 1) / 2 = q
      · rw [e2]
        have : j = 2 * q + 1 ∨ j = 2 * q + 2 := by omega
        rcases this with rfl | rfl
        · exact q1 hj
        · exact q2 hj
      · exact h1 j hj0 hj e2
    · rw [if_neg e]
      have hiq : i < q ∧ q < xs.length := by
        rcases hlt with h | h
        · exact absurd h e
        · exact h
      have hpq : (q - 1) / 2 = i := by omega
      have hql : q < xs.length := hiq.2
      have hil : i < xs.length := by omega
      have G := fun j => swap_gx xs i q j hil hql
      refine down_heap f _ q (by rw [swapL_len]; omega) ?_ ?_
      · intro j hj0 hj hpj
        rw [swapL_len] at hj
        rw [G, G]
        by_cases e1 : j = q
        · subst e1
          rw [if_pos rfl, hpq, if_neg (by omega), if_pos rfl]
          exact q0
        · rw [if_neg e1, if_neg hpj]
          by_cases e2 : j = i
          · subst e2
            rw [if_pos rfl, if_neg (show ¬ (j - 1) / 2 = j by omega)]
            exact h2 q (by omega) hql hpq hj0
          · rw [if_neg e2]
            by_cases e3 : (j - 1) / 2 = i
            · rw [if_pos e3]
              have : j = 2 * i + 1 ∨ j = 2 * i + 2 := by omega
              rcases this with rfl | rfl
              · exact q1 hj
              · exact q2 hj
            · rw [if_neg e3]
              exact h1 j hj0 hj e3
      · intro j hj0 hj hpj hq0
        rw [swapL_len] at hj
        rw [G, G, hpq, if_neg (show ¬ j = q by omega), if_neg (show ¬ j = i by omega), if_neg (show ¬ i = q by omega), if_pos rfl]
        have := h1 j hj0 hj (by omega)
        rw [hpj] at this
        exact this
/-! what is put, what is popped -/
structure Inv (xs : List It) (S : ByteArray → Bool) : Prop where
  heap : Heap xs
  apart : (xs.map (·.f0)).Nodup
  names : ∀ t, S t = true ↔ t ∈ xs.map (·.f0)
theorem Inv.nil : Inv [] (fun _ => false) := ⟨fun j _ hj => by simp at hj, List.nodup_nil, fun t => by simp⟩
theorem snoc_gx (xs : List It) (x : It) (j : Nat) (hj : j < xs.length) : gx (xs ++ [x]) j = gx xs j := by
  unfold gx
  rw [List.getD_eq_getElem?_getD, List.getElem?_append_left hj, ← List.getD_eq_getElem?_getD]
theorem put_perm (xs : List It) (x : It) : (upF xs.length (xs ++ [x]) xs.length).Perm (x :: xs) :=
  (up_perm _ _ _ (by simp)).trans (List.perm_append_singleton x xs)
theorem Inv.put {xs : List It} {S : ByteArray → Bool} (h : Inv xs S) (x : It) (hS : S x.f0 = false) : Inv (upF xs.length (xs ++ [x]) xs.length) (fun t => decide (t = x.f0) || S t) := by
  have hp := put_perm xs x
  have hm := hp.map (·.f0)
  have hn : x.f0 ∉ xs.map (·.f0) := fun e => by have := (h.names x.f0).2 e; rw [hS] at this; cases this
  refine ⟨?_, ?_, fun t => ?_⟩
  · refine up_heap _ _ _ (by simp) (Nat.le_refl _) (fun j h0 hj hne => ?_) (fun j h0 hj hpj _ => ?_)
    · rw [List.length_append, List.length_singleton] at hj
      rw [snoc_gx _ _ _ (by omega), snoc_gx _ _ _ (by omega)]
      exact h.heap j h0 (by omega)
    · rw [List.length_append, List.length_singleton] at hj
      omega
  · exact hm.nodup_iff.2 (List.nodup_cons.2 ⟨hn, h.apart⟩)
  · rw [hm.mem_iff]
    simp only [List.map_cons, List.mem_cons, Bool.or_eq_true, decide_eq_true_eq]
    rw [h.names t]
theorem swap_last (xs : List It) (h : 0 < xs.length) : swapL xs 0 (xs.length - 1) = (swapL xs 0 (xs.length - 1)).take (xs.length - 1) ++ [gx xs 0] := by
  have hl : (swapL xs 0 (xs.length - 1)).length = xs.length := swapL_len _ _ _
  have e := List.take_succ_eq_append_getElem (l := swapL xs 0 (xs.length - 1)) (i := xs.length - 1) (by omega)
  have e2 : (swapL xs 0 (xs.length - 1)).take (xs.length - 1 + 1) = swapL xs 0 (xs.length - 1) := List.take_of_length_le (by omega)
  rw [e2] at e
  have e3 : (swapL xs 0 (xs.length - 1))[xs.length - 1]'(by omega) = gx xs 0 := by
    have := swap_gx xs 0 (xs.length - 1) (xs.length - 1) h (by omega)
    rw [if_pos rfl] at this
    rw [← this]
    unfold gx
    rw [List.getD_eq_getElem?_getD, List.getElem?_eq_getElem (by omega)]; rfl
  rw [e3] at e
  exact e
abbrev popL (xs : List It) : List It := downF (xs.length - 1 + 1) ((swapL xs 0 (xs.length - 1)).take (xs.length - 1)) 0
theorem take_len (xs : List It) (h : 0 < xs.length) : ((swapL xs 0 (xs.length - 1)).take (xs.length - 1)).length = xs.length - 1 := by rw [List.length_take, swapL_len]; omega
theorem pop_len (xs : List It) (h : 0 < xs.length) : (popL xs).length = xs.length - 1 := by rw [popL, downF_len, take_len xs h]
theorem pop_perm (xs : List It) (h : 0 < xs.length) : (gx xs 0 :: popL xs).Perm xs := by
  have h1 : (popL xs).Perm ((swapL xs 0 (xs.length - 1)).take (xs.length - 1)) := down_perm _ _ _ (by rw [take_len xs h]; omega)
  refine (List.Perm.cons _ h1).trans ?_
  refine (List.perm_append_singleton _ _).symm.trans ?_
  rw [← swap_last xs h]
  exact swap_perm xs 0 _ h (by omega)
theorem Inv.pop {xs : List It} {S : ByteArray → Bool} (h : Inv xs S) (h0 : 0 < xs.length) : Inv (popL xs) (fun t => !decide (t = (gx xs 0).f0) && S t) ∧ ∀ y ∈ popL xs, ltI (gx xs 0) y := by
  have hp := pop_perm xs h0
  have hm := hp.map (·.f0)
  have hnd := hm.nodup_iff.2 h.apart
  rw [List.map_cons, List.nodup_cons] at hnd
  refine ⟨⟨?_, hnd.2, fun t => ?_⟩, fun y hy => ?_⟩
  · have hl := take_len xs h0
    refine down_heap _ _ 0 (by rw [hl]; omega) (fun j hj0 hj hne => ?_) (fun j hj0 hj hpj hh => absurd hh (by omega))
    rw [hl] at hj
    have g : ∀ q, 0 < q → q < xs.length - 1 → gx ((swapL xs 0 (xs.length - 1)).take (xs.length - 1)) q = gx xs q := fun q hq0 hq => by
      have := swap_gx xs 0 (xs.length - 1) q h0 (by omega)
      rw [if_neg (by omega), if_neg (by omega)] at this
      rw [← this]
      unfold gx
      rw [List.getD_eq_getElem?_getD, List.getElem?_take_of_lt hq, ← List.getD_eq_getElem?_getD]
    rw [g j hj0 hj, g ((j - 1) / 2) (by omega) (by omega)]
    exact h.heap j hj0 (by omega)
  · have e := (h.names t).trans hm.mem_iff.symm
    rw [List.map_cons, List.mem_cons] at e
    simp only [Bool.and_eq_true, Bool.not_eq_true', decide_eq_false_iff_not]
    constructor
    · rintro ⟨h1, h2⟩
      exact (e.1 h2).resolve_left h1
    · intro h1
      exact ⟨fun e2 => hnd.1 (by rw [← e2]; exact h1), e.2 (.inr h1)⟩
  · have hyx : y ∈ xs := hp.mem_iff.1 (List.mem_cons.2 (.inr hy))
    obtain ⟨j, hj, rfl⟩ := List.getElem_of_mem hyx
    have e : gx xs j = xs[j] := by unfold gx; rw [List.getD_eq_getElem?_getD, List.getElem?_eq_getElem hj]; rfl
    have hr := heap_root h.heap j j (Nat.le_refl _) hj
    rw [e] at hr
    by_cases hlt : ltI (gx xs 0) xs[j]
    · exact hlt
    · obtain ⟨_, _, e3⟩ := lt_tri hlt hr
      exfalso
      apply hnd.1
      have e4 : (gx xs 0).f0 = xs[j].f0 := by
        have : (gx xs 0).f0.data = xs[j].f0.data := by
          have h5 := e3
          rw [ByteArray.toList_eq, ByteArray.toList_eq] at h5
          exact Array.toList_inj.1 h5
        cases h6 : (gx xs 0).f0
        cases h7 : xs[j].f0
        rw [h6, h7] at this
        simp only at this
        rw [this]
      rw [e4]
      exact List.mem_map_of_mem hy
end Go.Proofs.Ytdpcfamgmicboae
