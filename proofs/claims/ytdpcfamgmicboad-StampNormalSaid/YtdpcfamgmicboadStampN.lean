/- Points as they are normally: turned, mirrored or shifted they come to the same; plain lists of whole numbers, no program; no condition beyond each theorem its own. -/
import Derived.Test.YtdpcfamgmicboadStampI
namespace Go.Proofs.Ytdpcfamgmicboad
/-! the order of rows -/
theorem cmpI_anti (a b : Int) : cmpI b a = -cmpI a b := by unfold cmpI; split <;> split <;> (try split) <;> (try split) <;> omega
theorem cmpI_cases (a b : Int) : cmpI a b = -1 ∧ a < b ∨ cmpI a b = 0 ∧ a = b ∨ cmpI a b = 1 ∧ b < a := by
  unfold cmpI
  split
  · exact .inl ⟨rfl, by omega⟩
  · split
    · exact .inr (.inr ⟨rfl, by omega⟩)
    · exact .inr (.inl ⟨rfl, by omega⟩)
/-- x comes ahead of y. -/
def ltz (x y : CX) : Prop := x.re < y.re ∨ x.re = y.re ∧ x.im < y.im
theorem cmpz_cases (x y : CX) : cmpz x y = -1 ∧ ltz x y ∨ cmpz x y = 0 ∧ x = y ∨ cmpz x y = 1 ∧ ltz y x := by
  obtain ⟨a, b⟩ := x
  obtain ⟨c, d⟩ := y
  unfold cmpz ltz
  simp only
  rcases cmpI_cases a c with ⟨e, h⟩ | ⟨e, h⟩ | ⟨e, h⟩
  · rw [e, if_pos (by decide)]; exact .inl ⟨rfl, .inl h⟩
  · rw [e, if_neg (by decide)]
    rcases cmpI_cases b d with ⟨e2, h2⟩ | ⟨e2, h2⟩ | ⟨e2, h2⟩
    · exact .inl ⟨e2, .inr ⟨h, h2⟩⟩
    · exact .inr (.inl ⟨e2, by rw [h, h2]⟩)
    · exact .inr (.inr ⟨e2, .inr ⟨h.symm, h2⟩⟩)
  · rw [e, if_pos (by decide)]; exact .inr (.inr ⟨rfl, .inl h⟩)
theorem cmpL_self : ∀ a : List CX, cmpL a a = 0
  | [] => rfl
  | x :: xs => by
    unfold cmpL
    have : cmpz x x = 0 := by
      rcases cmpz_cases x x with ⟨_, h⟩ | ⟨h, _⟩ | ⟨_, h⟩
      · unfold ltz at h; omega
      · exact h
      · unfold ltz at h; omega
    rw [this, if_neg (by simp)]
    exact cmpL_self xs
theorem cmpL_anti : ∀ a b : List CX, cmpL b a = -cmpL a b
  | [], [] => rfl
  | [], _ :: _ => rfl
  | _ :: _, [] => rfl
  | x :: xs, y :: ys => by
    have ih := cmpL_anti xs ys
    unfold cmpL
    rcases cmpz_cases x y with ⟨e, h⟩ | ⟨e, h⟩ | ⟨e, h⟩
    · have : cmpz y x = 1 := by
        rcases cmpz_cases y x with ⟨e2, h2⟩ | ⟨e2, h2⟩ | ⟨e2, h2⟩
        · unfold ltz at h h2; omega
        · subst h2; unfold ltz at h; omega
        · exact e2
      rw [e, this]; rfl
    · subst h; rw [e]; simpa using ih
    · have : cmpz y x = -1 := by
        rcases cmpz_cases y x with ⟨e2, h2⟩ | ⟨e2, h2⟩ | ⟨e2, h2⟩
        · exact e2
        · subst h2; unfold ltz at h; omega
        · unfold ltz at h h2; omega
      rw [e, this]; rfl
theorem cmpL_zero : ∀ a b : List CX, cmpL a b = 0 → a = b
  | [], [], _ => rfl
  | [], _ :: _, h => by simp [cmpL] at h
  | _ :: _, [], h => by simp [cmpL] at h
  | x :: xs, y :: ys, h => by
    unfold cmpL at h
    rcases cmpz_cases x y with ⟨e, _⟩ | ⟨e, h2⟩ | ⟨e, _⟩
    · rw [e] at h; simp at h
    · rw [e] at h
      subst h2
      rw [cmpL_zero xs ys (by simpa using h)]
    · rw [e] at h; simp at h
theorem cmpL_trans : ∀ a b c : List CX, cmpL a b ≤ 0 → cmpL b c ≤ 0 → cmpL a c ≤ 0
  | [], [], [], _, _ => by decide
  | [], [], _ :: _, _, _ => by simp [cmpL]
  | [], _ :: _, [], _, h => by simp [cmpL] at h
  | [], _ :: _, _ :: _, _, _ => by simp [cmpL]
  | _ :: _, [], _, h, _ => by simp [cmpL] at h
  | _ :: _, _ :: _, [], _, h => by simp [cmpL] at h
  | x :: xs, y :: ys, z :: zs, h1, h2 => by
    unfold cmpL at h1 h2 ⊢
    rcases cmpz_cases x y with ⟨e1, g1⟩ | ⟨e1, g1⟩ | ⟨e1, g1⟩
    · rcases cmpz_cases y z with ⟨e2, g2⟩ | ⟨e2, g2⟩ | ⟨e2, g2⟩
      · have : cmpz x z = -1 := by
          rcases cmpz_cases x z with ⟨e, g⟩ | ⟨e, g⟩ | ⟨e, g⟩
          · exact e
          · subst g; unfold ltz at g1 g2; omega
          · unfold ltz at g1 g2 g; omega
        rw [this]; simp
      · subst g2; rw [e1]; simp
      · rw [e2] at h2; simp at h2
    · subst g1
      rcases cmpz_cases x z with ⟨e2, g2⟩ | ⟨e2, g2⟩ | ⟨e2, g2⟩
      · rw [e2]; simp
      · rw [e2] at h2 ⊢
        rw [e1] at h1
        simp only [ne_eq, not_true_eq_false, ↓reduceIte] at h1 h2 ⊢
        exact cmpL_trans xs ys zs h1 h2
      · rw [e2] at h2; simp at h2
    · rw [e1] at h1; simp at h1
/-! the least of several -/
theorem least_le (zss : List (List CX)) : ∀ n j, j ≤ n → cmpL (rowOf zss (leastAt zss n)) (rowOf zss j) ≤ 0
  | 0, j, hj => by
    obtain rfl : j = 0 := by omega
    unfold leastAt
    rw [cmpL_self]; decide
  | n + 1, j, hj => by
    unfold leastAt
    by_cases h : cmpL (rowOf zss (n + 1)) (rowOf zss (leastAt zss n)) < 0
    · rw [if_pos h]
      by_cases hjn : j ≤ n
      · exact cmpL_trans _ _ _ (by omega) (least_le zss n j hjn)
      · obtain rfl : j = n + 1 := by omega
        rw [cmpL_self]; decide
    · rw [if_neg h]
      by_cases hjn : j ≤ n
      · exact least_le zss n j hjn
      · obtain rfl : j = n + 1 := by omega
        rw [cmpL_anti] ; omega
theorem norm_le (zs : List CX) (j : Nat) (hj : j < 8) : cmpL (normZ zs) (wayZ zs j) ≤ 0 := by
  have h := least_le (waysZ zs) 7 j (by omega)
  have h7 : leastAt (waysZ zs) 7 < 8 := by have := leastAt_le (waysZ zs) 7; omega
  rw [rowOf_ways zs _ h7, rowOf_ways zs j hj] at h
  exact h
theorem norm_way (zs : List CX) : ∃ j, j < 8 ∧ normZ zs = wayZ zs j := ⟨leastAt (waysZ zs) 7, by have := leastAt_le (waysZ zs) 7; omega, rfl⟩
theorem norm_eq {zs ys : List CX} (h1 : ∀ j, j < 8 → ∃ i, i < 8 ∧ wayZ ys j = wayZ zs i) (h2 : ∀ j, j < 8 → ∃ i, i < 8 ∧ wayZ zs j = wayZ ys i) : normZ zs = normZ ys := by
  obtain ⟨j, hj, ej⟩ := norm_way ys
  obtain ⟨i, hi, ei⟩ := h1 j hj
  obtain ⟨j2, hj2, ej2⟩ := norm_way zs
  obtain ⟨i2, hi2, ei2⟩ := h2 j2 hj2
  have a := norm_le zs i hi
  have b := norm_le ys i2 hi2
  rw [← ei, ← ej] at a
  rw [← ei2, ← ej2] at b
  rw [cmpL_anti] at b
  exact cmpL_zero _ _ (by omega)
/-! the eight ways -/
def Lj (j : Nat) (z : CX) : CX := mulz (if j % 2 = 0 then z else conjz z) (qn (j / 2))
theorem way_L (zs : List CX) (j : Nat) : wayZ zs j = cornerZ (zs.map (Lj j)) := by
  unfold wayZ
  by_cases h : j % 2 = 0
  · rw [if_pos h]
    congr 1
    exact List.map_congr_left fun z _ => by unfold Lj; rw [if_pos h]
  · rw [if_neg h, List.map_map]
    congr 1
    exact List.map_congr_left fun z _ => by unfold Lj; rw [if_neg h]; rfl
theorem Lj_add (j : Nat) (z c : CX) : Lj j (addz z c) = addz (Lj j z) (Lj j c) := by
  unfold Lj
  by_cases h : j % 2 = 0
  · rw [if_pos h, if_pos h, if_pos h]
    unfold mulz addz
    simp only [CX.mk.injEq, Int.add_mul]
    omega
  · rw [if_neg h, if_neg h, if_neg h]
    unfold mulz addz conjz
    simp only [CX.mk.injEq, Int.add_mul, Int.neg_add]
    omega
theorem Lj_8 : ∀ z : CX, Lj 0 z = z ∧ Lj 1 z = ⟨z.re, -z.im⟩ ∧ Lj 2 z = ⟨-z.im, z.re⟩ ∧ Lj 3 z = ⟨z.im, z.re⟩ ∧ Lj 4 z = ⟨-z.re, -z.im⟩ ∧ Lj 5 z = ⟨-z.re, z.im⟩ ∧ Lj 6 z = ⟨z.im, -z.re⟩ ∧ Lj 7 z = ⟨-z.im, -z.re⟩ := by
  intro z
  obtain ⟨a, b⟩ := z
  simp [Lj, mulz, conjz, qn]
def compJ (a b : Nat) : Nat := if a % 2 = 0 then (b + a) % 8 else ((a / 2 + 4 - b / 2) % 4) * 2 + (1 - b % 2)
theorem Lj_comp (a b : Nat) (ha : a < 8) (hb : b < 8) : compJ a b < 8 ∧ ∀ z, Lj a (Lj b z) = Lj (compJ a b) z := by
  have ha' : a = 0 ∨ a = 1 ∨ a = 2 ∨ a = 3 ∨ a = 4 ∨ a = 5 ∨ a = 6 ∨ a = 7 := by omega
  have hb' : b = 0 ∨ b = 1 ∨ b = 2 ∨ b = 3 ∨ b = 4 ∨ b = 5 ∨ b = 6 ∨ b = 7 := by omega
  rcases ha' with rfl | rfl | rfl | rfl | rfl | rfl | rfl | rfl <;> rcases hb' with rfl | rfl | rfl | rfl | rfl | rfl | rfl | rfl <;> refine ⟨by decide, fun z => ?_⟩ <;> simp [compJ, Lj_8]
def invJ (b : Nat) : Nat := if b % 2 = 0 then (8 - b) % 8 else b
theorem Lj_inv (b : Nat) (hb : b < 8) : invJ b < 8 ∧ ∀ z, Lj (invJ b) (Lj b z) = z := by
  have hb' : b = 0 ∨ b = 1 ∨ b = 2 ∨ b = 3 ∨ b = 4 ∨ b = 5 ∨ b = 6 ∨ b = 7 := by omega
  rcases hb' with rfl | rfl | rfl | rfl | rfl | rfl | rfl | rfl <;> refine ⟨by decide, fun z => ?_⟩ <;> simp [invJ, Lj_8]
/-! the corner -/
theorem low_shift (zs : List CX) (c : CX) : ∀ i, i ≤ zs.length → 0 < zs.length → lowR (zs.map fun z => addz z c) i = lowR zs i + c.re ∧ lowI (zs.map fun z => addz z c) i = lowI zs i + c.im
  | 0, _, h0 => by
    unfold lowR lowI
    simp [List.getD_eq_getElem?_getD, List.getElem?_eq_getElem h0, addz]
  | i + 1, h, h0 => by
    obtain ⟨h1, h2⟩ := low_shift zs c i (by omega) h0
    have e : (zs.map fun z => addz z c).getD i cxZero = addz (zs.getD i cxZero) c := by
      simp [List.getD_eq_getElem?_getD, List.getElem?_eq_getElem (show i < zs.length by omega)]
    unfold lowR lowI
    rw [e, h1, h2]
    unfold addz
    simp only
    constructor <;> split <;> split <;> omega
theorem corner_shift (zs : List CX) (c : CX) : cornerZ (zs.map fun z => addz z c) = cornerZ zs := by
  by_cases h0 : 0 < zs.length
  · obtain ⟨h1, h2⟩ := low_shift zs c zs.length (Nat.le_refl _) h0
    unfold cornerZ
    rw [List.length_map, h1, h2, List.map_map]
    refine List.map_congr_left fun z _ => ?_
    unfold addz
    simp only [Function.comp, CX.mk.injEq]
    omega
  · obtain rfl : zs = [] := List.eq_nil_of_length_eq_zero (by omega)
    rfl
/-! one seal, however it lies -/
def Sim (zs ys : List CX) : Prop := ∃ b c, b < 8 ∧ ys = zs.map fun z => addz (Lj b z) c
theorem Sim.sub {zs ys : List CX} (h : Sim zs ys) : ∀ j, j < 8 → ∃ i, i < 8 ∧ wayZ ys j = wayZ zs i := by
  obtain ⟨b, c, hb, rfl⟩ := h
  intro j hj
  obtain ⟨h1, h2⟩ := Lj_comp j b hj hb
  refine ⟨compJ j b, h1, ?_⟩
  rw [way_L, way_L, List.map_map]
  have e : (zs.map (Lj j ∘ fun z => addz (Lj b z) c)) = (zs.map (Lj (compJ j b))).map fun z => addz z (Lj j c) := by
    rw [List.map_map]
    exact List.map_congr_left fun z _ => by simp only [Function.comp]; rw [Lj_add, h2]
  rw [e, corner_shift]
theorem Sim.symm {zs ys : List CX} (h : Sim zs ys) : Sim ys zs := by
  obtain ⟨b, c, hb, rfl⟩ := h
  obtain ⟨h1, h2⟩ := Lj_inv b hb
  refine ⟨invJ b, ⟨-(Lj (invJ b) c).re, -(Lj (invJ b) c).im⟩, h1, ?_⟩
  rw [List.map_map]
  have : ∀ z ∈ zs, id z = ((fun z => addz (Lj (invJ b) z) ⟨-(Lj (invJ b) c).re, -(Lj (invJ b) c).im⟩) ∘ fun z => addz (Lj b z) c) z := fun z _ => by
    simp only [Function.comp, id]
    rw [Lj_add, h2]
    obtain ⟨p, q⟩ := z
    unfold addz
    simp only [CX.mk.injEq]
    omega
  rw [← List.map_congr_left this, List.map_id]
theorem Sim.norm {zs ys : List CX} (h : Sim zs ys) : normZ zs = normZ ys := norm_eq h.sub h.symm.sub
theorem Sim.turn (zs : List CX) (k : Nat) (hk : k < 4) : Sim zs (zs.map fun z => mulz z (qn k)) := by
  refine ⟨2 * k, ⟨0, 0⟩, by omega, List.map_congr_left fun z _ => ?_⟩
  unfold Lj
  rw [if_pos (by omega), show 2 * k / 2 = k by omega]
  unfold addz
  simp
theorem Sim.mirror (zs : List CX) : Sim zs (zs.map conjz) := by
  refine ⟨1, ⟨0, 0⟩, by omega, List.map_congr_left fun z _ => ?_⟩
  rw [(Lj_8 z).2.1]
  unfold addz conjz
  simp
theorem Sim.shift (zs : List CX) (c : CX) : Sim zs (zs.map fun z => addz z c) := by
  refine ⟨0, c, by omega, List.map_congr_left fun z _ => ?_⟩
  rw [(Lj_8 z).1]
theorem Sim.normal (zs : List CX) : Sim zs (normZ zs) := by
  obtain ⟨j, hj, e⟩ := norm_way zs
  rw [e, way_L]
  refine ⟨j, ⟨-lowR (zs.map (Lj j)) (zs.map (Lj j)).length, -lowI (zs.map (Lj j)) (zs.map (Lj j)).length⟩, hj, ?_⟩
  unfold cornerZ
  rw [List.map_map]
  rfl
theorem way_len_norm (zs : List CX) : (normZ zs).length = zs.length := way_len _ _
theorem norm_norm (zs : List CX) : normZ (normZ zs) = normZ zs := (Sim.normal zs).norm.symm
/-! how great the parts are -/
theorem low_bdB {B : Nat} {zs : List CX} (h : ∀ z ∈ zs, sm B z) : ∀ i, (lowR zs i).natAbs ≤ B ∧ (lowI zs i).natAbs ≤ B := by
  have g : ∀ i, sm B (zs.getD i cxZero) := fun i => by
    rw [List.getD_eq_getElem?_getD]
    by_cases hi : i < zs.length
    · rw [List.getElem?_eq_getElem hi]; exact h _ (List.getElem_mem hi)
    · rw [List.getElem?_eq_none (by omega)]; exact ⟨Nat.zero_le _, Nat.zero_le _⟩
  intro i
  induction i with
  | zero => exact g 0
  | succ i ih =>
    have h2 := g i
    unfold lowR lowI
    constructor
    · split
      · exact h2.1
      · exact ih.1
    · split
      · exact h2.2
      · exact ih.2
theorem norm_sm {B : Nat} {zs : List CX} (h : ∀ z ∈ zs, sm B z) : ∀ z ∈ normZ zs, sm (2 * B) z := by
  obtain ⟨j, hj, e⟩ := norm_way zs
  rw [e, way_L]
  have h2 : ∀ z ∈ zs.map (Lj j), sm B z := map_sm (Lj j) h fun z hz => by
    obtain ⟨h1, h2⟩ := hz
    obtain ⟨e0, e1, e2, e3, e4, e5, e6, e7⟩ := Lj_8 z
    have hj' : j = 0 ∨ j = 1 ∨ j = 2 ∨ j = 3 ∨ j = 4 ∨ j = 5 ∨ j = 6 ∨ j = 7 := by omega
    rcases hj' with rfl | rfl | rfl | rfl | rfl | rfl | rfl | rfl <;> simp only [e0, e1, e2, e3, e4, e5, e6, e7] <;> exact ⟨by (try simp only [Int.natAbs_neg]); omega, by (try simp only [Int.natAbs_neg]); omega⟩
  have hb := low_bdB h2 (zs.map (Lj j)).length
  unfold cornerZ
  refine map_sm _ h2 (fun z hz => ?_)
  obtain ⟨h1, h2⟩ := hz
  unfold addz sm
  simp only
  omega
end Go.Proofs.Ytdpcfamgmicboad
