/- Dates in order: what a sort is made of. slices.insertionSortCmpFunc at dates. symMerge with one element on a side. symMerge, the middle before the second half's start; no condition beyond each theorem its own. -/
import Derived.Test.YtafigkikblpbnaaGreatDoorZC09
import Derived.Test.YtafigkikblpbnaaGreatDoorZC15
import Derived.Deep.Cut
namespace Go.Proofs.YtafigkikblpbnaaGreatDoor.PG
open Go.RowKit Go.Proofs.YtafigkikblpbnaaGreatDoorW.PrintWords Go.Proofs.YtafigkikblpbnaaGreatDoorW.PrintLast Go.Proofs.YtafigkikblpbnaaGreatDoorW.PrintMore
set_option linter.unusedVariables false
set_option linter.unusedSimpArgs false
set_option maxRecDepth 100000
/-- A date: its tick, its text, and where it stood. -/
structure Dt where
  t : Int
  x : ByteArray
  g : Nat
def Dt.lt (a b : Dt) : Prop := a.t < b.t ∨ (a.t = b.t ∧ a.g < b.g)
theorem Dt.lt_trans {a b c : Dt} (h1 : a.lt b) (h2 : b.lt c) : a.lt c := by
  unfold Dt.lt at *
  omega
/-- A part in order. -/
def Srt (D : Nat → Dt) (a b : Nat) : Prop := ∀ i j, a ≤ i → i < j → j < b → (D i).lt (D j)
/-- A part holds the same, and all else is as it was. -/
structure Sm (D E : Nat → Dt) (a b : Nat) : Prop where
  out : ∀ i, ¬ (a ≤ i ∧ i < b) → E i = D i
  fwd : ∀ i, a ≤ i → i < b → ∃ j, a ≤ j ∧ j < b ∧ E i = D j
  bwd : ∀ i, a ≤ i → i < b → ∃ j, a ≤ j ∧ j < b ∧ D i = E j
theorem Sm.refl (D : Nat → Dt) (a b : Nat) : Sm D D a b := ⟨fun _ _ => rfl, fun i h1 h2 => ⟨i, h1, h2, rfl⟩, fun i h1 h2 => ⟨i, h1, h2, rfl⟩⟩
theorem Sm.trans {D E F : Nat → Dt} {a b : Nat} (h1 : Sm D E a b) (h2 : Sm E F a b) : Sm D F a b := by
  refine ⟨fun i h => (h2.out i h).trans (h1.out i h), fun i ha hb => ?_, fun i ha hb => ?_⟩
  · obtain ⟨j, j1, j2, e⟩ := h2.fwd i ha hb
    obtain ⟨k, k1, k2, e2⟩ := h1.fwd j j1 j2
    exact ⟨k, k1, k2, e.trans e2⟩
  · obtain ⟨j, j1, j2, e⟩ := h1.bwd i ha hb
    obtain ⟨k, k1, k2, e2⟩ := h2.bwd j j1 j2
    exact ⟨k, k1, k2, e.trans e2⟩
theorem Sm.wider {D E : Nat → Dt} {a b a' b' : Nat} (h : Sm D E a b) (h1 : a' ≤ a) (h2 : b ≤ b') : Sm D E a' b' := by
  refine ⟨fun i hi => h.out i (by omega), fun i ha hb => ?_, fun i ha hb => ?_⟩
  · by_cases c : a ≤ i ∧ i < b
    · obtain ⟨j, j1, j2, e⟩ := h.fwd i c.1 c.2
      exact ⟨j, by omega, by omega, e⟩
    · exact ⟨i, ha, hb, h.out i c⟩
  · by_cases c : a ≤ i ∧ i < b
    · obtain ⟨j, j1, j2, e⟩ := h.bwd i c.1 c.2
      exact ⟨j, by omega, by omega, e⟩
    · exact ⟨i, ha, hb, (h.out i c).symm⟩
/-- Two parts, one behind the other, in the other order. -/
def rot (D : Nat → Dt) (a m b : Nat) : Nat → Dt := fun i => if a ≤ i ∧ i < a + (b - m) then D (i + (m - a)) else if a + (b - m) ≤ i ∧ i < b then D (i - (b - m)) else D i
theorem rot_lo {D : Nat → Dt} {a m b i : Nat} (h1 : a ≤ i) (h2 : i < a + (b - m)) : rot D a m b i = D (i + (m - a)) := if_pos ⟨h1, h2⟩
theorem rot_hi {D : Nat → Dt} {a m b i : Nat} (h1 : a + (b - m) ≤ i) (h2 : i < b) : rot D a m b i = D (i - (b - m)) := (if_neg (by omega)).trans (if_pos ⟨h1, h2⟩)
theorem rot_out {D : Nat → Dt} {a m b i : Nat} (hm : a ≤ m) (hb : m ≤ b) (h : ¬ (a ≤ i ∧ i < b)) : rot D a m b i = D i := (if_neg (by omega)).trans (if_neg (by omega))
theorem rot_sm (D : Nat → Dt) (a m b : Nat) (hm : a ≤ m) (hb : m ≤ b) : Sm D (rot D a m b) a b := by
  refine ⟨fun i h => rot_out hm hb h, fun i h1 h2 => ?_, fun i h1 h2 => ?_⟩
  · by_cases c : i < a + (b - m)
    · exact ⟨i + (m - a), by omega, by omega, rot_lo h1 c⟩
    · exact ⟨i - (b - m), by omega, by omega, rot_hi (by omega) h2⟩
  · by_cases c : i < m
    · exact ⟨i + (b - m), by omega, by omega, by rw [rot_hi (by omega) (by omega)]; congr 1; omega⟩
    · exact ⟨i - (m - a), by omega, by omega, by rw [rot_lo (by omega) (by omega)]; congr 1; omega⟩
theorem rot_id (D : Nat → Dt) (a b : Nat) : rot D a b b = D := by
  funext i
  unfold rot
  split
  · omega
  · split
    · congr 1; omega
    · rfl
theorem rot_id' (D : Nat → Dt) (a b : Nat) : rot D a a b = D := by
  funext i
  unfold rot
  split
  · congr 1; omega
  · split
    · omega
    · rfl
/-- Two parts of one length, each in the other's place. -/
def swp (D : Nat → Dt) (x y k : Nat) : Nat → Dt := fun i => if x ≤ i ∧ i < x + k then D (i + (y - x)) else if y ≤ i ∧ i < y + k then D (i - (y - x)) else D i
theorem swp_zero (D : Nat → Dt) (x y : Nat) : swp D x y 0 = D := by
  funext i
  unfold swp
  rw [if_neg (by omega), if_neg (by omega)]
/-- One pair more. -/
theorem swp_succ (D : Nat → Dt) (x y k : Nat) (h : x + k < y) : swp D x y (k + 1) = fun i => if i = x + k then swp D x y k (y + k) else if i = y + k then swp D x y k (x + k) else swp D x y k i := by
  funext i
  unfold swp
  by_cases h1 : i = x + k
  · subst h1
    rw [if_pos rfl, if_pos (by omega), if_neg (by omega), if_neg (by omega)]
    congr 1
    omega
  rw [if_neg h1]
  by_cases h2 : i = y + k
  · subst h2
    rw [if_pos rfl, if_neg (by omega), if_pos (by omega), if_neg (by omega), if_neg (by omega)]
    congr 1
    omega
  rw [if_neg h2]
  by_cases h3 : x ≤ i ∧ i < x + k
  · rw [if_pos h3, if_pos (by omega)]
  · rw [if_neg h3, if_neg (by omega)]
    by_cases h4 : y ≤ i ∧ i < y + k
    · rw [if_pos h4, if_pos (by omega)]
    · rw [if_neg h4, if_neg (by omega)]
theorem rot_swp_gt (D : Nat → Dt) (m i j : Nat) (hi : i ≤ m) (h : j < i) : rot (swp D (m - i) m j) (m - (i - j)) m (m + j) = rot D (m - i) m (m + j) := by
  funext k
  unfold rot
  by_cases c1 : m - (i - j) ≤ k ∧ k < m - (i - j) + (m + j - m)
  · rw [if_pos c1]
    by_cases c2 : m - i ≤ k ∧ k < m - i + (m + j - m)
    · omega
    rw [if_neg c2, if_pos (by omega)]
    unfold swp
    rw [if_neg (by omega), if_pos (by omega)]
    congr 1
    omega
  rw [if_neg c1]
  by_cases c3 : m - (i - j) + (m + j - m) ≤ k ∧ k < m + j
  · rw [if_pos c3, if_neg (by omega), if_pos (by omega)]
    unfold swp
    by_cases c4 : m - i ≤ k - (m + j - m) ∧ k - (m + j - m) < m - i + j
    · omega
    rw [if_neg c4]
    by_cases c5 : m ≤ k - (m + j - m) ∧ k - (m + j - m) < m + j
    · omega
    rw [if_neg c5]
  rw [if_neg c3]
  unfold swp
  by_cases c6 : m - i ≤ k ∧ k < m - i + j
  · rw [if_pos c6, if_pos (by omega)]
  rw [if_neg c6]
  by_cases c7 : m ≤ k ∧ k < m + j
  · omega
  rw [if_neg c7, if_neg (by omega)]
  by_cases c8 : m - i + (m + j - m) ≤ k ∧ k < m + j
  · omega
  rw [if_neg c8]
theorem rot_swp_lt (D : Nat → Dt) (m i j : Nat) (hi : i ≤ m) (h : i < j) : rot (swp D (m - i) (m + j - i) i) (m - i) m (m + (j - i)) = rot D (m - i) m (m + j) := by
  funext k
  unfold rot swp
  by_cases c1 : m - i ≤ k ∧ k < m - i + (m + j - m)
  · by_cases c2 : m - i ≤ k ∧ k < m - i + (m + (j - i) - m)
    · rw [if_pos c2, if_pos c1, if_neg (by omega), if_neg (by omega)]
    · rw [if_neg c2, if_pos c1]
      by_cases c3 : m - i + (m + (j - i) - m) ≤ k ∧ k < m + (j - i)
      · rw [if_pos c3, if_pos (by omega)]
        congr 1
        omega
      · omega
  · rw [if_neg c1, if_neg (by omega)]
    by_cases c2 : m - i + (m + j - m) ≤ k ∧ k < m + j
    · rw [if_pos c2, if_neg (by omega), if_neg (by omega), if_pos (by omega)]
      congr 1
      omega
    · rw [if_neg c2, if_neg (by omega), if_neg (by omega), if_neg (by omega)]
theorem rot_swp_eq (D : Nat → Dt) (m i : Nat) (hi : i ≤ m) : swp D (m - i) m i = rot D (m - i) m (m + i) := by
  funext k
  unfold rot swp
  by_cases c1 : m - i ≤ k ∧ k < m - i + i
  · rw [if_pos c1, if_pos (by omega)]
  · rw [if_neg c1]
    by_cases c2 : m ≤ k ∧ k < m + i
    · rw [if_pos c2, if_neg (by omega), if_pos (by omega)]
      congr 1
      omega
    · rw [if_neg c2, if_neg (by omega), if_neg (by omega)]
/-- What stands in the first part stood ahead of what stands in the second. -/
def Tg (D : Nat → Dt) (a m b : Nat) : Prop := ∀ i j, a ≤ i → i < m → m ≤ j → j < b → (D i).g < (D j).g
/-- One put into a part that is in order. -/
theorem ins_srt {D : Nat → Dt} {a m i : Nat} (hs : Srt D a m) (ht : Tg D a m (m + 1)) (h1 : a ≤ i) (h2 : i ≤ m) (hlo : ∀ h, a ≤ h → h < i → ¬ (D m).t < (D h).t) (hhi : ∀ h, i ≤ h → h < m → (D m).t < (D h).t) : Srt (rot D i m (m + 1)) a (m + 1) := by
  have hlo' : ∀ h, a ≤ h → h < i → (D h).lt (D m) := fun h g1 g2 => by
    have := hlo h g1 g2
    have := ht h m g1 (by omega) (Nat.le_refl _) (by omega)
    unfold Dt.lt
    omega
  have hhi' : ∀ h, i ≤ h → h < m → (D m).lt (D h) := fun h g1 g2 => .inl (hhi h g1 g2)
  have e1 : ∀ k, k < i → rot D i m (m + 1) k = D k := fun k hk => rot_out h2 (by omega) (by omega)
  have e2 : rot D i m (m + 1) i = D m := by rw [rot_lo (Nat.le_refl _) (by omega)]; congr 1; omega
  have e3 : ∀ k, i < k → k ≤ m → rot D i m (m + 1) k = D (k - 1) := fun k g1 g2 => by rw [rot_hi (by omega) (by omega)]; congr 1; omega
  intro x y hx hxy hy
  rcases Nat.lt_trichotomy x i with c | c | c
  · rw [e1 x c]
    rcases Nat.lt_trichotomy y i with d | d | d
    · rw [e1 y d]; exact hs x y hx hxy (by omega)
    · subst d; rw [e2]; exact hlo' x hx c
    · rw [e3 y d (by omega)]
      exact hs x (y - 1) hx (by omega) (by omega)
  · subst c
    rw [e2, e3 y hxy (by omega)]
    exact hhi' _ (by omega) (by omega)
  · rw [e3 x c (by omega), e3 y (by omega) (by omega)]
    exact hs _ _ (by omega) (by omega) (by omega)
/-- The first of a part put into the rest. -/
theorem ins_srt' {D : Nat → Dt} {a b i : Nat} (hs : Srt D (a + 1) b) (ht : Tg D a (a + 1) b) (h1 : a + 1 ≤ i) (h2 : i ≤ b) (hlo : ∀ h, a + 1 ≤ h → h < i → (D h).t < (D a).t) (hhi : ∀ h, i ≤ h → h < b → ¬ (D h).t < (D a).t) : Srt (rot D a (a + 1) i) a b := by
  have hhi' : ∀ h, i ≤ h → h < b → (D a).lt (D h) := fun h g1 g2 => by
    have := hhi h g1 g2
    have := ht a h (Nat.le_refl _) (by omega) (by omega) g2
    unfold Dt.lt
    omega
  have hlo' : ∀ h, a + 1 ≤ h → h < i → (D h).lt (D a) := fun h g1 g2 => .inl (hlo h g1 g2)
  have e1 : ∀ k, i ≤ k → rot D a (a + 1) i k = D k := fun k hk => rot_out (by omega) h1 (by omega)
  have e2 : rot D a (a + 1) i (i - 1) = D a := by rw [rot_hi (by omega) (by omega)]; congr 1; omega
  have e3 : ∀ k, a ≤ k → k < i - 1 → rot D a (a + 1) i k = D (k + 1) := fun k g1 g2 => by rw [rot_lo (by omega) (by omega)]; congr 1; omega
  intro x y hx hxy hy
  rcases Nat.lt_trichotomy y (i - 1) with d | d | d
  · rw [e3 y (by omega) d, e3 x hx (by omega)]
    exact hs _ _ (by omega) (by omega) (by omega)
  · subst d
    rw [e2, e3 x hx hxy]
    exact hlo' _ (by omega) (by omega)
  · rw [e1 y (by omega)]
    rcases Nat.lt_trichotomy x (i - 1) with c | c | c
    · rw [e3 x hx c]
      exact hs _ _ (by omega) (by omega) hy
    · subst c; rw [e2]; exact hhi' y (by omega) hy
    · rw [e1 x (by omega)]
      exact hs x y (by omega) hxy hy
/-- What the search finds: where to part both halves. -/
structure Cut (D : Nat → Dt) (a m b s e : Nat) : Prop where
  sa : a ≤ s
  sm : s ≤ m
  me : m ≤ e
  eb : e ≤ b
  lo : ∀ i j, a ≤ i → i < s → e ≤ j → j < b → ¬ (D j).t < (D i).t
  hi : ∀ i j, s ≤ i → i < m → m ≤ j → j < e → (D j).t < (D i).t
theorem Srt.t {D : Nat → Dt} {a b i j : Nat} (h : Srt D a b) (h1 : a ≤ i) (h2 : i ≤ j) (h3 : j < b) : (D i).t ≤ (D j).t := by
  rcases Nat.lt_or_ge i j with c | c
  · have := h i j h1 c h3
    unfold Dt.lt at this
    omega
  · have : i = j := by omega
    subst this
    omega
theorem cut_of {D : Nat → Dt} {a m b s : Nat} (hA : Srt D a m) (hB : Srt D m b) (ham : a < m) (hmb : m < b) (h0 : if (a + b) / 2 < m then (a + b) / 2 + m - b ≤ s ∧ s ≤ (a + b) / 2 else a ≤ s ∧ s ≤ m)
    (hlo : (if (a + b) / 2 < m then (a + b) / 2 + m - b else a) < s → ¬ (D ((a + b) / 2 + m - 1 - (s - 1))).t < (D (s - 1)).t) (hhi : s < (if (a + b) / 2 < m then (a + b) / 2 else m) → (D ((a + b) / 2 + m - 1 - s)).t < (D s).t) :
    Cut D a m b s ((a + b) / 2 + m - s) := by
  generalize hmid : (a + b) / 2 = mid at *
  have hm1 : 2 * mid ≤ a + b := by omega
  have hm2 : a + b ≤ 2 * mid + 1 := by omega
  clear hmid
  by_cases c : mid < m
  · rw [if_pos c] at h0 hlo hhi
    refine ⟨by omega, by omega, by omega, by omega, fun i j i1 i2 j1 j2 => ?_, fun i j i1 i2 j1 j2 => ?_⟩
    · have h := hlo (by omega)
      have g1 := hA.t i1 (show i ≤ s - 1 by omega) (by omega)
      have g2 := hB.t (show m ≤ mid + m - 1 - (s - 1) by omega) (show mid + m - 1 - (s - 1) ≤ j by omega) j2
      omega
    · have h := hhi (by omega)
      have g1 := hA.t (show a ≤ s by omega) i1 i2
      have g2 := hB.t j1 (show j ≤ mid + m - 1 - s by omega) (by omega)
      omega
  · rw [if_neg c] at h0 hlo hhi
    refine ⟨by omega, by omega, by omega, by omega, fun i j i1 i2 j1 j2 => ?_, fun i j i1 i2 j1 j2 => ?_⟩
    · have h := hlo (by omega)
      have g1 := hA.t i1 (show i ≤ s - 1 by omega) (by omega)
      have g2 := hB.t (show m ≤ mid + m - 1 - (s - 1) by omega) (show mid + m - 1 - (s - 1) ≤ j by omega) j2
      omega
    · have h := hhi (by omega)
      have g1 := hA.t (show a ≤ s by omega) i1 i2
      have g2 := hB.t j1 (show j ≤ mid + m - 1 - s by omega) (by omega)
      omega
/-- What a merge is to bring about. -/
structure Mg (D E : Nat → Dt) (a b : Nat) : Prop where
  srt : Srt E a b
  sm : Sm D E a b
/-- Parted, turned, each half merged by itself: the whole. -/
theorem merged {D E F : Nat → Dt} {a m b s mid : Nat} (hA : Srt D a m) (hB : Srt D m b) (hT : Tg D a m b) (hc : Cut D a m b s (mid + m - s)) (hs : s ≤ mid) (hmid : a ≤ mid) (hmb : mid ≤ b) (hme : mid ≤ mid + m - s)
    (h1 : Mg (rot D s m (mid + m - s)) E a mid) (h2 : Mg E F mid b) : Mg D F a b := by
  have e1 : ∀ i, i < s → rot D s m (mid + m - s) i = D i := fun i hi => rot_out hc.sm hc.me (by omega)
  have e2 : ∀ i, s ≤ i → i < mid → rot D s m (mid + m - s) i = D (i + (m - s)) := fun i g1 g2 => rot_lo g1 (by have := hc.sm; omega)
  have e3 : ∀ i, mid ≤ i → i < mid + m - s → rot D s m (mid + m - s) i = D (i - (mid - s)) := fun i g1 g2 => by rw [rot_hi (by have := hc.sm; omega) (by omega)]; congr 1; have := hc.sm; omega
  have e4 : ∀ i, mid + m - s ≤ i → rot D s m (mid + m - s) i = D i := fun i g1 => rot_out hc.sm hc.me (by omega)
  have hcs := hc.sm
  have hce := hc.eb
  have hca := hc.sa
  refine ⟨?_, (rot_sm D s m _ hc.sm hc.me).wider hc.sa hc.eb |>.trans (h1.sm.wider (Nat.le_refl _) hmb) |>.trans (h2.sm.wider hmid (Nat.le_refl _))⟩
  intro x y hx hxy hy
  by_cases cx : x < mid
  · by_cases cy : y < mid
    · rw [h2.sm.out x (by omega), h2.sm.out y (by omega)]
      exact h1.srt x y hx hxy cy
    · rw [h2.sm.out x (by omega)]
      obtain ⟨x', x1, x2, ex⟩ := h1.sm.fwd x hx cx
      obtain ⟨y', y1, y2, ey⟩ := h2.sm.fwd y (by omega) hy
      rw [ex, ey, h1.sm.out y' (by omega)]
      by_cases c1 : x' < s
      · rw [e1 x' c1]
        by_cases c2 : y' < mid + m - s
        · rw [e3 y' y1 c2]
          exact hA _ _ x1 (by omega) (by omega)
        · rw [e4 y' (by omega)]
          have := hc.lo x' y' x1 c1 (by omega) y2
          have := hT x' y' x1 (by omega) (by have := hc.me; omega) y2
          unfold Dt.lt
          omega
      · rw [e2 x' (by omega) x2]
        by_cases c2 : y' < mid + m - s
        · rw [e3 y' y1 c2]
          exact .inl (hc.hi _ _ (by omega) (by omega) (by omega) (by omega))
        · rw [e4 y' (by omega)]
          exact hB _ _ (by omega) (by omega) y2
  · exact h2.srt x y (by omega) hxy hy
theorem merged_lo {D : Nat → Dt} {a m b s mid : Nat} (hA : Srt D a m) (hB : Srt D m b) (hT : Tg D a m b) (hc : Cut D a m b s (mid + m - s)) (hs : s ≤ mid) (hmb : mid ≤ b) (hme : mid ≤ mid + m - s) :
    Srt (rot D s m (mid + m - s)) a s ∧ Srt (rot D s m (mid + m - s)) s mid ∧ Tg (rot D s m (mid + m - s)) a s mid := by
  have e1 : ∀ i, i < s → rot D s m (mid + m - s) i = D i := fun i hi => rot_out hc.sm hc.me (by omega)
  have e2 : ∀ i, s ≤ i → i < mid → rot D s m (mid + m - s) i = D (i + (m - s)) := fun i g1 g2 => rot_lo g1 (by have := hc.sm; omega)
  have hcs := hc.sm
  have hce := hc.eb
  have hca := hc.sa
  refine ⟨fun i j i1 i2 i3 => ?_, fun i j i1 i2 i3 => ?_, fun i j i1 i2 i3 i4 => ?_⟩
  · rw [e1 i (by omega), e1 j i3]; exact hA i j i1 i2 (by omega)
  · rw [e2 i i1 (by omega), e2 j (by omega) i3]; exact hB _ _ (by omega) (by omega) (by omega)
  · rw [e1 i i2, e2 j i3 i4]; exact hT _ _ i1 (by omega) (by omega) (by omega)
theorem merged_hi {D E : Nat → Dt} {a m b s mid : Nat} (hA : Srt D a m) (hB : Srt D m b) (hT : Tg D a m b) (hc : Cut D a m b s (mid + m - s)) (hs : s ≤ mid) (hmb : mid ≤ b) (hme : mid ≤ mid + m - s) (h1 : Sm (rot D s m (mid + m - s)) E a mid) :
    Srt E mid (mid + m - s) ∧ Srt E (mid + m - s) b ∧ Tg E mid (mid + m - s) b := by
  have e3 : ∀ i, mid ≤ i → i < mid + m - s → E i = D (i - (mid - s)) := fun i g1 g2 => by rw [h1.out i (by omega), rot_hi (by have := hc.sm; omega) (by omega)]; congr 1; have := hc.sm; omega
  have e4 : ∀ i, mid + m - s ≤ i → E i = D i := fun i g1 => by rw [h1.out i (by omega)]; exact rot_out hc.sm hc.me (by omega)
  have hcs := hc.sm
  have hce := hc.eb
  have hca := hc.sa
  have hcm := hc.me
  refine ⟨fun i j i1 i2 i3 => ?_, fun i j i1 i2 i3 => ?_, fun i j i1 i2 i3 i4 => ?_⟩
  · rw [e3 i i1 (by omega), e3 j (by omega) i3]; exact hA _ _ (by omega) (by omega) (by omega)
  · rw [e4 i i1, e4 j (by omega)]; exact hB _ _ (by omega) (by omega) (by omega)
  · rw [e3 i i1 i2, e4 j i3]; exact hT _ _ (by omega) (by omega) (by omega) (by omega)

section
variable {P : Program} {ops : Array Oper} {Q : Exit → Act → World → Prop}
/-- A call of a function value. -/
theorem goesV_ {oi : Oper} {N : Option Tmp} {a : Act} {w : World} {K : Act → World → Prop} {f : FuncId} {fn : Func} {x : Operand} {as_ : Array Operand} {ts : Array TypeId} (hf : P.funcs[f]? = some fn) (hname : (fn.name == "runtime.NumGoroutine") = false) (hb : fn.body.isSome = true) (args : Array Value)
    (hw : Region.wanted oi (yielded ops a.tmps) = true) (hN : oi.dst = N) (hop : oi.op = .call { callee := .value x, args := as_, argTypes := ts }) (hx : a.eval x = .func (.func f) #[] #[]) (hargs : as_.map a.eval = args)
    (h : Calls P f args w fun e w' => ∃ v, e = .returned v ∧ K (a.put N v) w') : if Region.wanted oi (yielded ops a.tmps) = true then Oper.wp P oi a w K Q else K (a.put N undef) w := by
  refine call_ f args hw hN ?_ h
  have he := enters_ hf hname hb args w
  unfold execOp
  simp [hop, resolve, Deferred.ofValue, invoke, hx, hargs, he]
end
/-- How two ticks compare. -/
def cI (a b : Int) : Int := if a < b then -1 else if a > b then 1 else 0
theorem nanI (x : Int) (w : World) : Calls Tryz.prog 49 #[.int .i64 x] w fun e w' => e = .returned (.bool false) ∧ w' = w := Tryz.cmp_isNaN_int2 x w
theorem cmpI_eq (a b : Int) (w : World) : Calls Tryz.prog 23 #[.int .i64 a, .int .i64 b] w fun e w' => e = .returned (.int .i64 (cI a b)) ∧ w' = w := by
  have h1 := fun w => Lib.hid (nanI a w)
  have h2 := fun w => Lib.hid (nanI b w)
  unfold cI
  by_cases c1 : a < b
  · rw [if_pos c1]
    go_enter Tryz.func23, Tryz.ntmps23
    go_wp2_with (go_at_call 49; first | ((with_reducible refine (h1 _).out.mono ?_); rintro e w2 ⟨rfl, rfl⟩) | ((with_reducible refine (h2 _).out.mono ?_); rintro e w2 ⟨rfl, rfl⟩))
    go_ret
    exact ⟨rfl, rfl⟩
  · rw [if_neg c1]
    by_cases c2 : a > b
    · rw [if_pos c2]
      have c3 : b < a := c2
      go_enter Tryz.func23, Tryz.ntmps23
      go_wp2_with (go_at_call 49; first | ((with_reducible refine (h1 _).out.mono ?_); rintro e w2 ⟨rfl, rfl⟩) | ((with_reducible refine (h2 _).out.mono ?_); rintro e w2 ⟨rfl, rfl⟩))
      go_ret
      exact ⟨rfl, rfl⟩
    · rw [if_neg c2]
      have c3 : ¬ b < a := c2
      go_enter Tryz.func23, Tryz.ntmps23
      go_wp2_with (go_at_call 49; first | ((with_reducible refine (h1 _).out.mono ?_); rintro e w2 ⟨rfl, rfl⟩) | ((with_reducible refine (h2 _).out.mono ?_); rintro e w2 ⟨rfl, rfl⟩))
      go_ret
      exact ⟨rfl, rfl⟩
/-- The order of the dates. -/
theorem cmpD_eq (a b : Int) (x y : ByteArray) (w : World) : Calls Tryz.prog 22 #[.agg #[.int .i64 a, .string x], .agg #[.int .i64 b, .string y]] w fun e w' => e = .returned (.int .i64 (cI a b)) ∧ Below w.heap.size w w' := by
  have hz : (w.alloc (.cells #[.int .i64 a, .string x] 50 (0, 0))).heap.size = w.heap.size + 1 := by show (w.heap.push _).size = _; rw [Array.size_push]
  obtain ⟨w2, hw2⟩ : ∃ w2, (w.alloc (.cells #[.int .i64 a, .string x] 50 (0, 0))).alloc (.cells #[.int .i64 b, .string y] 50 (0, 0)) = w2 := ⟨_, rfl⟩
  have HB := Lib.hid (show Below w.heap.size w w2 by rw [← hw2]; exact below_alloc (below_alloc (Below.refl _ _) _) _)
  have h1 := (show w2.heap[w.heap.size]? = some (.cells #[.int .i64 a, .string x] 50 (0, 0)) by rw [← hw2]; exact blk_alloc (new_blk w _) _)
  have h2 := (show w2.heap[w.heap.size + 1]? = some (.cells #[.int .i64 b, .string y] 50 (0, 0)) by rw [← hw2, ← hz]; exact new_blk _ _)
  have q1 : ((w.alloc (.cells #[.int .i64 a, .string x] 50 (0, 0))).alloc (.cells #[.int .i64 b, .string y] 50 (0, 0))).cell? ⟨w.heap.size, 0, none⟩ = some (.int .i64 a) := by rw [hw2]; exact (blk_cell h1 0).trans rfl
  have q2 : ((w.alloc (.cells #[.int .i64 a, .string x] 50 (0, 0))).alloc (.cells #[.int .i64 b, .string y] 50 (0, 0))).cell? ⟨w.heap.size + 1, 0, none⟩ = some (.int .i64 b) := by rw [hw2]; exact (blk_cell h2 0).trans rfl
  have HC := Lib.hid (cmpI_eq a b w2)
  have HW := Lib.hid hw2
  clear h1 h2 hz hw2
  go_enter Tryz.func22, Tryz.ntmps22
  go_wp2_with fail
  rw [HW.out]
  refine HC.out.mono ?_
  rintro e w3 ⟨rfl, rfl⟩
  clear q1 q2
  go_wp2
  go_ret
  exact ⟨rfl, HB.out⟩
/-- A row of dates lies in a block. -/
def Hd (w : World) (g n : Nat) (D : Nat → Dt) : Prop :=
  ∃ cs : Array Value, w.heap[g]? = some (.cells cs 50 (0, 0)) ∧ n * 2 ≤ cs.size ∧ ∀ j, j < n → cs[j * 2]? = some (.int .i64 (D j).t) ∧ cs[j * 2 + 1]? = some (.string (D j).x)
theorem Hd.cell {w : World} {g n : Nat} {D : Nat → Dt} (h : Hd w g n D) {j : Nat} (hj : j < n) : (w.cell? ⟨g, j * 2, none⟩ = some (.int .i64 (D j).t) ∧ w.frozen? ⟨g, j * 2, none⟩ = false) ∧ w.cell? ⟨g, j * 2 + 1, none⟩ = some (.string (D j).x) ∧ w.frozen? ⟨g, j * 2 + 1, none⟩ = false := by
  obtain ⟨cs, hb, _, hc⟩ := h
  exact ⟨⟨(blk_cell hb _).trans (hc j hj).1, blk_frozen hb _⟩, (blk_cell hb _).trans (hc j hj).2, blk_frozen hb _⟩
theorem Hd.move {w w' : World} {g n : Nat} {D : Nat → Dt} (h : Hd w g n D) (hm : w'.heap[g]? = w.heap[g]?) : Hd w' g n D := by
  obtain ⟨cs, hb, hs, hc⟩ := h
  exact ⟨cs, hm.trans hb, hs, hc⟩
theorem Hd.lt {w : World} {g n : Nat} {D : Nat → Dt} (h : Hd w g n D) : g < w.heap.size := by
  obtain ⟨cs, hb, _⟩ := h
  exact blk_lt hb
theorem Hd.below {w w' : World} {g n : Nat} {D : Nat → Dt} (h : Hd w g n D) (hb : Below w.heap.size w w') : Hd w' g n D := h.move (hb.block g h.lt)
/-- One date put. -/
def setD (w : World) (g j : Nat) (d : Dt) : World := (w.setCell ⟨g, j * 2, none⟩ (.int .i64 d.t)).setCell ⟨g, j * 2 + 1, none⟩ (.string d.x)
theorem Hd.set {w : World} {g n : Nat} {D : Nat → Dt} (h : Hd w g n D) {j : Nat} (hj : j < n) (d : Dt) : Hd (setD w g j d) g n (fun i => if i = j then d else D i) := by
  obtain ⟨cs, hb, hs, hc⟩ := h
  have b1 := blk_put hb (j * 2) (.int .i64 d.t) rfl
  have b2 := blk_put b1 (j * 2 + 1) (.string d.x) rfl
  refine ⟨_, b2, by simpa using hs, fun i hi => ?_⟩
  simp only [Array.getElem?_setIfInBounds, Array.size_setIfInBounds]
  by_cases e : i = j
  · subst e
    simp [show i * 2 < cs.size by omega, show i * 2 + 1 < cs.size by omega]
  · have n1 : ¬ j * 2 = i * 2 := by omega
    have n2 : ¬ j * 2 + 1 = i * 2 := by omega
    have n3 : ¬ j * 2 = i * 2 + 1 := by omega
    have n4 : ¬ j * 2 + 1 = i * 2 + 1 := by omega
    simpa [e, n1, n2, n3, n4] using hc i hi
theorem grown_setD (w : World) (g j : Nat) (d : Dt) : w.grownBy (setD w g j d) (some g) :=
  ⟨rfl, rfl, rfl, by simp [setD, World.setCell], fun k _ hne => (Below.heap_setCell _ _ _ _ (fun e => hne (congrArg some e))).trans (Below.heap_setCell _ _ _ _ (fun e => hne (congrArg some e)))⟩
theorem exec_setD {ρ : Operand → Value} {o : Oper} {p x : Operand} {w : World} {g n : Nat} {D : Nat → Dt} {j : Nat} {d : Dt} (ho : o.op = .store 50 p x) (hp : ρ p = .pointer (some ⟨g, j * 2, none⟩)) (hx : ρ x = .agg #[.int .i64 d.t, .string d.x]) (h : Hd w g n D) (hj : j < n) :
    Sem.run Tryz.prog (execOp ρ o) w = .ok .skip (setD w g j d) := by
  obtain ⟨cs, hb, hs, _⟩ := h
  have h := run_store_run (P := Tryz.prog) (o := j * 2) 50 (.agg #[.int .i64 d.t, .string d.x]) [.int .i64 d.t, .string d.x] hb (by simp [Value.cells]) (by kernel_rfl) (by simp; omega) (by
    intro q hq
    simp only [List.mem_cons, List.not_mem_nil, or_false] at hq
    rcases hq with rfl | rfl
    · rfl
    · rfl)
  unfold execOp
  rw [ho]
  simp only [hp, hx]
  rw [Sem.run_bind, h]
  rfl
theorem Hd.congr {w : World} {g n : Nat} {D E : Nat → Dt} (h : Hd w g n D) (he : ∀ i, i < n → D i = E i) : Hd w g n E := by
  obtain ⟨cs, hb, hs, hc⟩ := h
  exact ⟨cs, hb, hs, fun j hj => by rw [← he j hj]; exact hc j hj⟩
theorem Hd.drew {w : World} {g n : Nat} {D : Nat → Dt} (h : Hd w g n D) : Hd w.drew g n D := h.move rfl
/-- Two dates in each other's place. -/
theorem Hd.swap {w : World} {g n : Nat} {D : Nat → Dt} (h : Hd w g n D) {x y : Nat} (hx : x < n) (hy : y < n) : Hd (setD (setD w g x (D y)) g y (D x)) g n (fun i => if i = y then D x else if i = x then D y else D i) := (h.set hx (D y)).set hy (D x)
theorem tab140_3 : rtab .any (opsOf Tryz.f140 3) = (true, [([], []), ([], []), ([], []), ([1, 2], [1, 2]), ([], []), ([], []), ([], []), ([5, 6], [5, 6]), ([], []), ([], []), ([], []), ([9, 10], [9, 10]), ([8, 11], [8, 11]), ([12], [12]), ([], []), ([], []), ([], []), ([15, 16], [15, 16]), ([14, 17], [14, 17]), ([18], [18]), ([0, 3, 0, 1, 2, 3, 8, 9, 10, 11, 12, 13, 19], [0, 3]), ([20, 13, 0, 1, 2, 3, 8, 9, 10, 11, 12, 13, 19], [13, 20]), ([4, 7, 0, 1, 2, 3, 4, 5, 6, 7, 8, 9, 10, 11, 12, 13, 14, 15, 16, 17, 18, 19, 20, 21], [4, 7]), ([22, 19, 21, 0, 1, 2, 3, 4, 5, 6, 7, 8, 9, 10, 11, 12, 13, 14, 15, 16, 17, 18, 19, 20, 21], [19, 22])]) := by kernel_rfl

set_option maxHeartbeats 2000000 in
/-- slices.swapRangeCmpFunc at dates. -/
theorem swapRange_any (g n cap : Nat) (hn : n ≤ 1000) (D : Nat → Dt) (a b k : Nat) (h1 : a + k ≤ b) (h2 : b + k ≤ n) (W : World) (h : Hd W g n D) :
    Calls Tryz.prog 140 #[.slice (some ⟨g, 0, none⟩) n cap, .int .i64 a, .int .i64 b, .int .i64 k, .func (.func 22) #[] #[]] W fun e w' => e = .returned (.tuple #[]) ∧ Hd w' g n (swp D a b k) ∧ W.grownBy w' (some g) := by
  have H0 := Lib.hid h
  clear h
  go_enter Tryz.func140, Tryz.ntmps140
  go_wp2
  go_loopw [10] (fun v10 wr => ∃ i : Nat, v10 = .int .i64 i ∧ i ≤ k ∧ Aside0 (Hd wr g n (swp D a b i)) ∧ Aside0 (W.grownBy wr (some g))) (fun v10 _ => k - (intOf v10).toNat)
  case atStart => exact ⟨0, rfl, Nat.zero_le _, ⟨by rw [swp_zero]; exact H0.out⟩, ⟨World.grownBy.refl _ _⟩⟩
  case round =>
    obtain ⟨i, rfl, hi, HD, HG⟩ := hrel
    by_cases hlt : i < k
    · have hlt2 : (i : Int) < (k : Int) := by omega
      have hxn : a + i < n := by omega
      have hyn : b + i < n := by omega
      have HDR := Lib.hid (Hd.drew HD.out)
      have HSC := Lib.hid (swp_succ D a b i (by omega))
      generalize hE : swp D a b i = E at *
      have kw1 : IntKind.i64.wrap ((a : Int) + (i : Int)) = (a : Int) + (i : Int) := by rw [IntKind.wrap_i64]; omega
      have kw2 : IntKind.i64.wrap ((b : Int) + (i : Int)) = (b : Int) + (i : Int) := by rw [IntKind.wrap_i64]; omega
      have kt1 : ((a : Int) + (i : Int)).toNat = a + i := by omega
      have kt2 : ((b : Int) + (i : Int)).toNat = b + i := by omega
      have kp1 : (0 : Int) ≤ (a : Int) + (i : Int) := by omega
      have kp2 : (0 : Int) ≤ (b : Int) + (i : Int) := by omega
      have kl1 : (a : Int) + (i : Int) < (n : Int) := by omega
      have kl2 : (b : Int) + (i : Int) < (n : Int) := by omega
      have cx := HDR.out.cell hxn
      have cy := HDR.out.cell hyn
      have HDS := Lib.hid (HDR.out.set hxn (E (b + i)))
      have HFN := Lib.hid (show Hd (setD (setD wr.drew g (a + i) (E (b + i))) g (b + i) (E (a + i))) g n (swp D a b (i + 1)) from (HDR.out.swap hxn hyn).congr (fun j _ => by
        rw [HSC.out]
        dsimp only
        by_cases e1 : j = b + i
        · rw [if_pos e1, if_neg (by omega), if_pos e1]
        · rw [if_neg e1]
          by_cases e2 : j = a + i
          · rw [if_pos e2, if_pos e2]
          · rw [if_neg e2, if_neg e2, if_neg e1]))
      have HGN := Lib.hid (show W.grownBy (setD (setD wr.drew g (a + i) (E (b + i))) g (b + i) (E (a + i))) (some g) from ((HG.out.trans (show wr.grownBy wr.drew (some g) from ⟨rfl, rfl, rfl, Nat.le_refl _, fun _ _ _ => rfl⟩)).trans (grown_setD _ _ _ _)).trans (grown_setD _ _ _ _))
      generalize E (a + i) = p at *
      generalize E (b + i) = q at *
      obtain ⟨⟨x0, _⟩, x1, _⟩ := cx
      obtain ⟨⟨y0, _⟩, y1, _⟩ := cy
      clear hE
      go_wp2_with fail
      refine WL.start (n := 24) (S := fun w' => w'.cell? ⟨g, (b + i) * 2, none⟩ = some (.int .i64 q.t) ∧ w'.cell? ⟨g, (b + i) * 2 + 1, none⟩ = some (.string q.x) ∧ w'.cell? ⟨g, (a + i) * 2, none⟩ = some (.int .i64 p.t) ∧ w'.cell? ⟨g, (a + i) * 2 + 1, none⟩ = some (.string p.x)) (ds := [21, 23]) [false, false, false, false, false, false, false, false, false, false, false, false, false, false, false, false, false, false, false, false, false, false, false, false] (by kernel_rfl) rfl rfl ⟨y0, y1, x0, x1⟩ (fun hHeld => ?_)
      refine WL.tab tab140_3 (fun HT_ => ?_)
      refine WL.more [0, 1, 2, 3, 4, 5, 6, 7, 8, 9, 10, 11, 12, 14, 15, 16, 17, 18, 13, 19, 20] ?_
      repeat (first
        | (refine WL.off (lb' := ?_) (ys := ?_) rfl rfl (by rfl) ?_ HT_.out ?_ (fun _ _ _ h => h) ?_ ?_; rotate_left 2; (focus dsimp only [List.set_cons_zero, List.set_cons_succ]; rfl); (focus kernel_rfl); (focus dsimp only [List.set_cons_zero, List.set_cons_succ]; rfl))
        | (refine WL.pure (lb' := ?_) (v := ?_) (ys := ?_) rfl rfl (by rfl) ?_ HT_.out ?_ (fun _ _ _ h => h) ?_ ?_ ?_; rotate_left 3; (focus dsimp only [List.set_cons_zero, List.set_cons_succ]; rfl); (focus kernel_rfl); (focus intro w'; go_simp; with_reducible rfl); (focus dsimp only [List.set_cons_zero, List.set_cons_succ]; rfl))
        | (refine WL.take (lb' := ?_) (v := ?_) (ys := ?_) rfl rfl (by rfl) ?_ HT_.out ?_ (fun _ _ _ h => h) hHeld ?_ ?_ ?_; rotate_left 3; (focus dsimp only [List.set_cons_zero, List.set_cons_succ]; rfl); (focus kernel_rfl); (focus rintro w' ⟨s0, s1, s2, s3⟩; go_simp; with_reducible rfl); (focus dsimp only [List.set_cons_zero, List.set_cons_succ]; rfl)))
      refine WL.more [21] ?_
      refine WL.last (lb' := ?_) rfl rfl ?_ HT_.out ?_ (by decide) (fun K hK => ?_); rotate_left; (focus dsimp only [List.set_cons_zero, List.set_cons_succ]; rfl); (focus kernel_rfl)
      refine skip_ (w1 := ?_) (by rfl) rfl ?_ ?_
      rotate_left
      (focus refine exec_setD (p := .tmp 36) (x := .tmp 29) (d := q) ?_ ?_ ?_ HDR.out hxn; rfl; rfl; rfl)
      refine hK.out _ _ ?_
      clear hK K
      refine WL.more [22] ?_
      repeat (first
        | (refine WL.off (lb' := ?_) (ys := ?_) rfl rfl (by rfl) ?_ HT_.out ?_ (fun _ _ _ h => h) ?_ ?_; rotate_left 2; (focus dsimp only [List.set_cons_zero, List.set_cons_succ]; rfl); (focus kernel_rfl); (focus dsimp only [List.set_cons_zero, List.set_cons_succ]; rfl))
        | (refine WL.pure (lb' := ?_) (v := ?_) (ys := ?_) rfl rfl (by rfl) ?_ HT_.out ?_ (fun _ _ _ h => h) ?_ ?_ ?_; rotate_left 3; (focus dsimp only [List.set_cons_zero, List.set_cons_succ]; rfl); (focus kernel_rfl); (focus intro w'; go_simp; with_reducible rfl); (focus dsimp only [List.set_cons_zero, List.set_cons_succ]; rfl))
        | (refine WL.take (lb' := ?_) (v := ?_) (ys := ?_) rfl rfl (by rfl) ?_ HT_.out ?_ (fun _ _ _ h => h) hHeld ?_ ?_ ?_; rotate_left 3; (focus dsimp only [List.set_cons_zero, List.set_cons_succ]; rfl); (focus kernel_rfl); (focus rintro w' ⟨s0, s1, s2, s3⟩; go_simp; with_reducible rfl); (focus dsimp only [List.set_cons_zero, List.set_cons_succ]; rfl)))
      refine WL.more [23] ?_
      refine WL.last (lb' := ?_) rfl rfl ?_ HT_.out ?_ (by decide) (fun K hK => ?_); rotate_left; (focus dsimp only [List.set_cons_zero, List.set_cons_succ]; rfl); (focus kernel_rfl)
      refine skip_ (w1 := ?_) (by rfl) rfl ?_ ?_
      rotate_left
      (focus refine exec_setD (p := .tmp 37) (x := .tmp 35) (d := p) ?_ ?_ ?_ HDS.out hyn; rfl; rfl; rfl)
      refine hK.out _ _ ?_
      clear hK K
      refine WL.done HT_.out (by kernel_rfl) ?_
      clear x0 x1 y0 y1
      go_wp2
      go_roundw
      case rel => exact ⟨i + 1, by go_num, by omega, ⟨HFN.out⟩, ⟨HGN.out⟩⟩
      case measure => simp [intOf]; omega
    · have hi2 : i = k := by omega
      subst hi2
      have hq : ¬ (i : Int) < (i : Int) := by omega
      go_wp2
      exact ⟨rfl, _, results_none (by kernel_rfl) _ _ _, rfl, HD.out, HG.out⟩

set_option maxHeartbeats 2000000 in
/-- slices.rotateCmpFunc at dates. -/
theorem rotate_any (g n cap : Nat) (hn : n ≤ 1000) (D : Nat → Dt) (a m b : Nat) (h1 : a < m) (h2 : m < b) (h3 : b ≤ n) (W : World) (h : Hd W g n D) :
    Calls Tryz.prog 118 #[.slice (some ⟨g, 0, none⟩) n cap, .int .i64 a, .int .i64 m, .int .i64 b, .func (.func 22) #[] #[]] W fun e w' => e = .returned (.tuple #[]) ∧ Hd w' g n (rot D a m b) ∧ W.grownBy w' (some g) := by
  have H0 := Lib.hid h
  clear h
  have kw1 : IntKind.i64.wrap ((m : Int) - (a : Int)) = ((m - a : Nat) : Int) := by rw [IntKind.wrap_i64]; omega
  have kw2 : IntKind.i64.wrap ((b : Int) - (m : Int)) = ((b - m : Nat) : Int) := by rw [IntKind.wrap_i64]; omega
  go_enter Tryz.func118, Tryz.ntmps118
  go_wp2
  go_loopw [10, 11] (fun v10 v11 wr => ∃ (i j : Nat) (E : Nat → Dt), v10 = .int .i64 i ∧ v11 = .int .i64 j ∧ 0 < i ∧ 0 < j ∧ i ≤ m ∧ m + j ≤ n ∧ Aside0 (Hd wr g n E) ∧ Aside0 (rot E (m - i) m (m + j) = rot D a m b) ∧ Aside0 (W.grownBy wr (some g))) (fun v10 v11 _ => (intOf v10).toNat + (intOf v11).toNat)
  case atStart => exact ⟨m - a, b - m, D, by first | rfl | go_num, by first | rfl | go_num, by omega, by omega, by omega, by omega, ⟨H0.out⟩, ⟨by rw [show m - (m - a) = a by omega, show m + (b - m) = b by omega]⟩, ⟨World.grownBy.refl _ _⟩⟩
  case round =>
    clear kw1 kw2
    obtain ⟨i, j, E, rfl, rfl, hi, hj, him, hjn, HD, HE, HG⟩ := hrel
    have kw1 : IntKind.i64.wrap ((m : Int) - (i : Int)) = ((m - i : Nat) : Int) := by rw [IntKind.wrap_i64]; omega
    rcases Nat.lt_trichotomy i j with hij | hij | hij
    · have hne : ((i : Int) != (j : Int)) = true := by simp; omega
      have hgt : ¬ (j : Int) < (i : Int) := by omega
      have kw2 : IntKind.i64.wrap ((m : Int) + (j : Int)) = (m : Int) + (j : Int) := by rw [IntKind.wrap_i64]; omega
      have kw3 : IntKind.i64.wrap ((m : Int) + (j : Int) - (i : Int)) = ((m + j - i : Nat) : Int) := by rw [IntKind.wrap_i64]; omega
      have kw4 : IntKind.i64.wrap ((j : Int) - (i : Int)) = ((j - i : Nat) : Int) := by rw [IntKind.wrap_i64]; omega
      have HSW := Lib.hid (swapRange_any g n cap hn E (m - i) (m + j - i) i (by omega) (by omega) wr HD.out)
      have HE2 := Lib.hid ((rot_swp_lt E m i j him hij).trans HE.out)
      go_wp2_with (go_at_call 140; refine HSW.out.mono ?_; rintro e w2 ⟨rfl, hd2, hg2⟩)
      go_roundw
      case rel => exact ⟨i, j - i, _, rfl, by first | rfl | go_num, hi, by omega, him, by omega, ⟨hd2⟩, ⟨HE2.out⟩, ⟨HG.out.trans hg2⟩⟩
      case measure => simp [intOf]; omega
    · subst hij
      have hne : ((i : Int) != (i : Int)) = false := by simp
      have HSW := Lib.hid (swapRange_any g n cap hn E (m - i) m i (by omega) (by omega) wr HD.out)
      have HE2 := Lib.hid ((rot_swp_eq E m i him).trans HE.out)
      go_wp2_with (go_at_call 140; refine HSW.out.mono ?_; rintro e w2 ⟨rfl, hd2, hg2⟩)
      exact ⟨rfl, _, results_none (by kernel_rfl) _ _ _, rfl, by rw [← HE2.out]; exact hd2, HG.out.trans hg2⟩
    · have hne : ((i : Int) != (j : Int)) = true := by simp; omega
      have hgt : (j : Int) < (i : Int) := by omega
      have kw4 : IntKind.i64.wrap ((i : Int) - (j : Int)) = ((i - j : Nat) : Int) := by rw [IntKind.wrap_i64]; omega
      have HSW := Lib.hid (swapRange_any g n cap hn E (m - i) m j (by omega) (by omega) wr HD.out)
      have HE2 := Lib.hid ((rot_swp_gt E m i j him hij).trans HE.out)
      go_wp2_with (go_at_call 140; refine HSW.out.mono ?_; rintro e w2 ⟨rfl, hd2, hg2⟩)
      go_roundw
      case rel => exact ⟨i - j, j, _, by first | rfl | go_num, rfl, by omega, hj, by omega, hjn, ⟨hd2⟩, ⟨HE2.out⟩, ⟨HG.out.trans hg2⟩⟩
      case measure => simp [intOf]; omega
end Go.Proofs.YtafigkikblpbnaaGreatDoor.PG
namespace Go.Proofs.YtafigkikblpbnaaGreatDoor.PG
open Go.RowKit Go.Proofs.YtafigkikblpbnaaGreatDoorW.PrintWords Go.Proofs.YtafigkikblpbnaaGreatDoorW.PrintLast Go.Proofs.YtafigkikblpbnaaGreatDoorW.PrintMore
set_option linter.unusedVariables false
set_option linter.unusedSimpArgs false
set_option maxRecDepth 100000
theorem tab83_4 : rtab .any (opsOf Tryz.f83 4) = (true, [([], []), ([], []), ([0, 1], [0, 1]), ([2], [2]), ([3], [3]), ([3], [3]), ([3], [3]), ([5, 6, 3], [3, 5, 6]), ([7, 3], [3, 7]), ([3], [3]), ([3], [3]), ([10, 3], [3, 10]), ([9, 11, 3], [3, 9, 11]), ([12, 3], [3, 12]), ([4, 8, 13, 3, 3], [3, 4, 8, 13]), ([14, 3], [3, 14]), ([3, 15], [3, 15])]) := by kernel_rfl
theorem tab83_6 : rtab .any (opsOf Tryz.f83 6) = (true, [([], []), ([], []), ([], []), ([], []), ([3], [3]), ([], []), ([], []), ([6], [6]), ([5, 7], [5, 7]), ([8], [8]), ([], []), ([], []), ([10, 11], [10, 11]), ([12], [12]), ([0, 1, 0, 1, 5, 6, 7, 8, 9, 13], [0, 1]), ([14, 9, 0, 1, 5, 6, 7, 8, 9, 13], [9, 14]), ([2, 4, 0, 1, 2, 3, 4, 5, 6, 7, 8, 9, 10, 11, 12, 13, 14, 15], [2, 4]), ([16, 13, 15, 0, 1, 2, 3, 4, 5, 6, 7, 8, 9, 10, 11, 12, 13, 14, 15], [13, 16])]) := by kernel_rfl

theorem cI_lt {a b : Int} (h : a < b) : cI a b = -1 := if_pos h
theorem cI_ge {a b : Int} (h : ¬ a < b) : decide (cI a b < 0) = false := by
  unfold cI
  rw [if_neg h]
  split <;> rfl
theorem rot_step (E : Nat → Dt) (q i : Nat) (h : q + 1 ≤ i) : (fun k => if k = q then rot E (q + 1) i (i + 1) (q + 1) else if k = q + 1 then rot E (q + 1) i (i + 1) q else rot E (q + 1) i (i + 1) k) = rot E q i (i + 1) := by
  funext k
  have e0 : ∀ x, x < q + 1 → rot E (q + 1) i (i + 1) x = E x := fun x hx => rot_out (by omega) (by omega) (by omega)
  have e1 : rot E (q + 1) i (i + 1) (q + 1) = E i := by rw [rot_lo (Nat.le_refl _) (by omega)]; congr 1; omega
  by_cases c1 : k = q
  · subst c1
    rw [if_pos rfl, e1, rot_lo (Nat.le_refl _) (by omega)]
    congr 1; omega
  rw [if_neg c1]
  by_cases c2 : k = q + 1
  · subst c2
    rw [if_pos rfl, e0 q (by omega), rot_hi (by omega) (by omega)]
    congr 1; omega
  rw [if_neg c2]
  by_cases c3 : k < q
  · rw [e0 k (by omega), rot_out (by omega) (by omega) (by omega)]
  by_cases c4 : k < i + 1
  · rw [rot_hi (by omega) c4, rot_hi (by omega) c4]
  · rw [rot_out (by omega) (by omega) (by omega), rot_out (by omega) (by omega) (by omega)]
/-- It leaves a part in order, with the same in it. -/
def RMg (D : Nat → Dt) (g n a b : Nat) (W : World) (e : Ending) (w' : World) : Prop := e = .returned (.tuple #[]) ∧ ∃ E, Hd w' g n E ∧ Mg D E a b ∧ W.grownBy w' (some g)
theorem grown_drew_ (w : World) (r : Option Nat) : w.grownBy w.drew r := ⟨rfl, rfl, rfl, Nat.le_refl _, fun _ _ _ => rfl⟩
theorem grown_bel {w w' : World} (h : Below w.heap.size w w') (r : Option Nat) : w.grownBy w' r := ⟨h.os, h.tape, h.output, h.size, fun k hk _ => h.block k hk⟩
set_option maxHeartbeats 8000000 in
/-- slices.insertionSortCmpFunc at dates. -/
theorem insertion_any (g n cap : Nat) (hn : n ≤ 1000) (D : Nat → Dt) (a b : Nat) (h1 : a ≤ b) (h2 : b ≤ n) (htag : ∀ i j, a ≤ i → i < j → j < b → (D i).g < (D j).g) (W : World) (h : Hd W g n D) :
    Calls Tryz.prog 83 #[.slice (some ⟨g, 0, none⟩) n cap, .int .i64 a, .int .i64 b, .func (.func 22) #[] #[]] W (RMg D g n a b W) := by
  have H0 := Lib.hid h
  have HTG := Lib.hid htag
  clear h htag
  have kw1 : IntKind.i64.wrap ((a : Int) + 1) = ((a + 1 : Nat) : Int) := by rw [IntKind.wrap_i64]; omega
  go_enter Tryz.func83, Tryz.ntmps83
  go_wp2
  go_loopw [8] (fun v8 wr => ∃ (i : Nat) (E : Nat → Dt), v8 = .int .i64 i ∧ a + 1 ≤ i ∧ (i ≤ b ∨ i = a + 1) ∧ Aside0 (Hd wr g n E) ∧ Aside0 (Srt E a i) ∧ Aside0 (Sm D E a i) ∧ Aside0 (i = a + 1 → E = D) ∧ Aside0 (W.grownBy wr (some g))) (fun v8 _ => n + 2 - (intOf v8).toNat)
  case atStart => exact ⟨a + 1, D, by first | rfl | go_num, Nat.le_refl _, .inr rfl, ⟨H0.out⟩, ⟨fun x y h1 h2 h3 => by omega⟩, ⟨Sm.refl _ _ _⟩, ⟨fun _ => rfl⟩, ⟨World.grownBy.refl _ _⟩⟩
  case round =>
    clear kw1
    obtain ⟨i, E, rfl, hi1, hi2, HD, HS, HM, HE, HG⟩ := hrel
    by_cases hlt : i < b
    · have hlt2 : (i : Int) < (b : Int) := by omega
      have kw9 : IntKind.i64.wrap ((i : Int) + 1) = ((i + 1 : Nat) : Int) := by rw [IntKind.wrap_i64]; omega
      have HTI := Lib.hid (show Tg E a i (i + 1) from fun x y hx1 hx2 hy1 hy2 => by
        obtain ⟨z, z1, z2, ez⟩ := HM.out.fwd x hx1 hx2
        rw [ez, show E y = D y from HM.out.out y (by omega)]
        exact HTG.out z y z1 (by omega) (by omega))
      go_wp2
      generalize wr = wq at *
      go_loopw [9] (fun v9 wr => ∃ j : Nat, v9 = .int .i64 j ∧ a ≤ j ∧ j ≤ i ∧ Aside0 (Hd wr g n (rot E j i (i + 1))) ∧ Aside0 (∀ h, j ≤ h → h < i → (E i).t < (E h).t) ∧ Aside0 (W.grownBy wr (some g))) (fun v9 _ => (intOf v9).toNat)
      case atStart => exact ⟨i, rfl, by omega, Nat.le_refl _, ⟨by rw [rot_id']; exact HD.out⟩, ⟨fun h g1 g2 => by omega⟩, ⟨HG.out⟩⟩
      case round =>
        obtain ⟨j, rfl, hj1, hj2, HDJ, HHI, HGJ⟩ := hrel
        rcases Nat.lt_or_ge a j with hja | hja
        · obtain ⟨q, rfl⟩ : ∃ q, j = q + 1 := ⟨j - 1, by omega⟩
          have hgt : (a : Int) < ((q + 1 : Nat) : Int) := by omega
          have hgt1 : (a : Int) ≤ (q : Int) := by omega
          have hgt2 : (a : Int) < (q : Int) + 1 := by omega
          have hgt3 : a < q + 1 := hja
          have hxn : q + 1 < n := by omega
          have hyn : q < n := by omega
          have hds : ((q + 1 : Nat) : Int) - 1 = (q : Int) := by omega
          have kp1 : (0 : Int) ≤ (q : Int) + 1 := by omega
          have kl1 : (q : Int) + 1 < (n : Int) := by omega
          have kl2 : (q : Int) < (n : Int) := by omega
          have kwq : IntKind.i64.wrap (q : Int) = (q : Int) := by rw [IntKind.wrap_i64]; omega
          have er1 : rot E (q + 1) i (i + 1) (q + 1) = E i := by rw [rot_lo (Nat.le_refl _) (by omega)]; congr 1; omega
          have er2 : rot E (q + 1) i (i + 1) q = E q := rot_out (by omega) (by omega) (by omega)
          have cx := HDJ.out.cell hxn
          have cy := HDJ.out.cell hyn
          rw [er1] at cx
          rw [er2] at cy
          have HER := Lib.hid (And.intro er1 er2)
          have HCM := Lib.hid (fun w => Lib.hid (cmpD_eq (E i).t (E q).t (E i).x (E q).x w))
          clear er1 er2
          obtain ⟨⟨x0, _⟩, x1, _⟩ := cx
          obtain ⟨⟨y0, _⟩, y1, _⟩ := cy
          by_cases hcm : (E i).t < (E q).t
          · rw [cI_lt hcm] at HCM
            have HCL := Lib.hid hcm
            obtain ⟨p, hp⟩ : ∃ p, E i = p := ⟨_, rfl⟩
            obtain ⟨r, hr⟩ : ∃ r, E q = r := ⟨_, rfl⟩
            rw [hp] at x0 x1 HCM
            rw [hr] at y0 y1 HCM
            have HPR := Lib.hid (And.intro hp hr)
            clear hp hr hcm
            go_wp2_with fail
            refine WL.start (n := 17) (S := fun w' => Aside0 (Below wr.heap.size wr w') ∧ w'.cell? ⟨g, (q + 1) * 2, none⟩ = some (.int .i64 p.t) ∧ w'.cell? ⟨g, (q + 1) * 2 + 1, none⟩ = some (.string p.x) ∧ w'.cell? ⟨g, q * 2, none⟩ = some (.int .i64 r.t) ∧ w'.cell? ⟨g, q * 2 + 1, none⟩ = some (.string r.x)) (ds := []) [false, false, false, false, false, false, false, false, false, false, false, false, false, false, false, false, false] (by kernel_rfl) rfl rfl ⟨⟨below_drew (Below.refl _ _)⟩, x0, x1, y0, y1⟩ (fun hHeld => ?_)
            refine WL.tab tab83_4 (fun HT_ => ?_)
            refine WL.more [0, 1, 2, 3, 4, 5, 6, 7, 9, 10, 11, 12, 8, 13, 14, 15, 16] ?_
            repeat (first
              | (refine WL.off (lb' := ?_) (ys := ?_) rfl rfl (by rfl) ?_ HT_.out ?_ (fun _ _ _ h => h) ?_ ?_; rotate_left 2; (focus dsimp only [List.set_cons_zero, List.set_cons_succ]; rfl); (focus kernel_rfl); (focus dsimp only [List.set_cons_zero, List.set_cons_succ]; rfl))
              | (refine WL.pure (lb' := ?_) (v := ?_) (ys := ?_) rfl rfl (by rfl) ?_ HT_.out ?_ (fun _ _ _ h => h) ?_ ?_ ?_; rotate_left 3; (focus dsimp only [List.set_cons_zero, List.set_cons_succ]; rfl); (focus kernel_rfl); (focus intro w'; go_simp; with_reducible rfl); (focus dsimp only [List.set_cons_zero, List.set_cons_succ]; rfl))
              | (refine WL.take (lb' := ?_) (v := ?_) (ys := ?_) rfl rfl (by rfl) ?_ HT_.out ?_ (fun _ _ _ h => h) hHeld ?_ ?_ ?_; rotate_left 3; (focus dsimp only [List.set_cons_zero, List.set_cons_succ]; rfl); (focus kernel_rfl); (focus rintro w' ⟨s0, s1, s2, s3, s4⟩; go_simp; with_reducible rfl); (focus dsimp only [List.set_cons_zero, List.set_cons_succ]; rfl))
              | (refine WL.one (lb' := ?_) rfl rfl ?_ HT_.out ?_ (by decide) (fun K hK => ?_); rotate_left; (focus dsimp only [List.set_cons_zero, List.set_cons_succ]; rfl); (focus kernel_rfl); first
                  | (refine goesV_ Tryz.func22 (by kernel_rfl) rfl #[.agg #[.int .i64 p.t, .string p.x], .agg #[.int .i64 r.t, .string r.x]] (by rfl) rfl rfl rfl (by simp only [List.map_toArray, List.map_cons, List.map_nil]; rfl) ?_; (with_reducible refine ((HCM.out _).out).mono ?_); rintro e w5 ⟨rfl, hb⟩; refine ⟨_, rfl, ?_⟩; refine hK.out _ _ (by have h_ := hHeld.2; refine ⟨⟨below_tr hHeld.1.out hb⟩, ?_⟩; repeat (first | exact below_cell hb h_ | (refine ⟨below_cell hb h_.1, ?_⟩; replace h_ := h_.2))) (fun hHeld => ?_); clear hK K; refine WL.put (ys := ?_) ?_ ?_; rotate_left; (focus dsimp only [List.set_cons_zero, List.set_cons_succ]; rfl))))
            refine WL.done HT_.out (by kernel_rfl) ?_
            clear x0 x1 y0 y1
            have HDC := Lib.hid (HDJ.out.below hHeld.1.out)
            have HGC := Lib.hid (HGJ.out.trans (grown_bel hHeld.1.out (some g)))
            obtain ⟨_, x0, x1, y0, y1⟩ := hHeld
            have HDR := Lib.hid (Hd.drew HDC.out)
            have HDS := Lib.hid (HDR.out.set hxn r)
            have HFN := Lib.hid (show Hd (setD (setD w5.drew g (q + 1) r) g q p) g n (rot E q i (i + 1)) by
              have h_ := HDR.out.swap hxn hyn
              rw [HER.out.1, HER.out.2, HPR.out.1, HPR.out.2] at h_
              refine h_.congr (fun k _ => ?_)
              rw [← rot_step E q i hj2, HER.out.1, HER.out.2, HPR.out.1, HPR.out.2])
            have HGN := Lib.hid (show W.grownBy (setD (setD w5.drew g (q + 1) r) g q p) (some g) from ((HGC.out.trans (grown_drew_ _ _)).trans (grown_setD _ _ _ _)).trans (grown_setD _ _ _ _))
            go_wp2_with fail
            have m0 : w5.drew.cell? ⟨g, (q + 1) * 2, none⟩ = some (.int .i64 p.t) := x0
            have m1 : w5.drew.cell? ⟨g, (q + 1) * 2 + 1, none⟩ = some (.string p.x) := x1
            have m2 : w5.drew.cell? ⟨g, q * 2, none⟩ = some (.int .i64 r.t) := y0
            have m3 : w5.drew.cell? ⟨g, q * 2 + 1, none⟩ = some (.string r.x) := y1
            clear x0 x1 y0 y1
            refine WL.start (n := 18) (S := fun w' => w'.cell? ⟨g, q * 2, none⟩ = some (.int .i64 r.t) ∧ w'.cell? ⟨g, q * 2 + 1, none⟩ = some (.string r.x) ∧ w'.cell? ⟨g, (q + 1) * 2, none⟩ = some (.int .i64 p.t) ∧ w'.cell? ⟨g, (q + 1) * 2 + 1, none⟩ = some (.string p.x)) (ds := [15, 17]) [false, false, false, false, false, false, false, false, false, false, false, false, false, false, false, false, false, false] (by kernel_rfl) rfl rfl ⟨m2, m3, m0, m1⟩ (fun hHeld => ?_)
            refine WL.tab tab83_6 (fun HT_ => ?_)
            refine WL.more [0, 1, 2, 3, 4, 5, 6, 7, 8, 10, 11, 12, 9, 13, 14] ?_
            repeat (first
              | (refine WL.off (lb' := ?_) (ys := ?_) rfl rfl (by rfl) ?_ HT_.out ?_ (fun _ _ _ h => h) ?_ ?_; rotate_left 2; (focus dsimp only [List.set_cons_zero, List.set_cons_succ]; rfl); (focus kernel_rfl); (focus dsimp only [List.set_cons_zero, List.set_cons_succ]; rfl))
              | (refine WL.pure (lb' := ?_) (v := ?_) (ys := ?_) rfl rfl (by rfl) ?_ HT_.out ?_ (fun _ _ _ h => h) ?_ ?_ ?_; rotate_left 3; (focus dsimp only [List.set_cons_zero, List.set_cons_succ]; rfl); (focus kernel_rfl); (focus intro w'; go_simp; with_reducible rfl); (focus dsimp only [List.set_cons_zero, List.set_cons_succ]; rfl))
              | (refine WL.take (lb' := ?_) (v := ?_) (ys := ?_) rfl rfl (by rfl) ?_ HT_.out ?_ (fun _ _ _ h => h) hHeld ?_ ?_ ?_; rotate_left 3; (focus dsimp only [List.set_cons_zero, List.set_cons_succ]; rfl); (focus kernel_rfl); (focus rintro w' ⟨s0, s1, s2, s3⟩; go_simp; with_reducible rfl); (focus dsimp only [List.set_cons_zero, List.set_cons_succ]; rfl)))
            refine WL.more [15] ?_
            refine WL.last (lb' := ?_) rfl rfl ?_ HT_.out ?_ (by decide) (fun K hK => ?_); rotate_left; (focus dsimp only [List.set_cons_zero, List.set_cons_succ]; rfl); (focus kernel_rfl)
            refine skip_ (w1 := ?_) (by rfl) rfl ?_ ?_
            rotate_left
            (focus refine exec_setD (p := .tmp 51) (x := .tmp 46) (d := r) ?_ ?_ ?_ HDR.out hxn; rfl; rfl; rfl)
            refine hK.out _ _ ?_
            clear hK K
            refine WL.more [16] ?_
            repeat (first
              | (refine WL.off (lb' := ?_) (ys := ?_) rfl rfl (by rfl) ?_ HT_.out ?_ (fun _ _ _ h => h) ?_ ?_; rotate_left 2; (focus dsimp only [List.set_cons_zero, List.set_cons_succ]; rfl); (focus kernel_rfl); (focus dsimp only [List.set_cons_zero, List.set_cons_succ]; rfl))
              | (refine WL.pure (lb' := ?_) (v := ?_) (ys := ?_) rfl rfl (by rfl) ?_ HT_.out ?_ (fun _ _ _ h => h) ?_ ?_ ?_; rotate_left 3; (focus dsimp only [List.set_cons_zero, List.set_cons_succ]; rfl); (focus kernel_rfl); (focus intro w'; go_simp; with_reducible rfl); (focus dsimp only [List.set_cons_zero, List.set_cons_succ]; rfl))
              | (refine WL.take (lb' := ?_) (v := ?_) (ys := ?_) rfl rfl (by rfl) ?_ HT_.out ?_ (fun _ _ _ h => h) hHeld ?_ ?_ ?_; rotate_left 3; (focus dsimp only [List.set_cons_zero, List.set_cons_succ]; rfl); (focus kernel_rfl); (focus rintro w' ⟨s0, s1, s2, s3⟩; go_simp; with_reducible rfl); (focus dsimp only [List.set_cons_zero, List.set_cons_succ]; rfl)))
            refine WL.more [17] ?_
            refine WL.last (lb' := ?_) rfl rfl ?_ HT_.out ?_ (by decide) (fun K hK => ?_); rotate_left; (focus dsimp only [List.set_cons_zero, List.set_cons_succ]; rfl); (focus kernel_rfl)
            refine skip_ (w1 := ?_) (by rfl) rfl ?_ ?_
            rotate_left
            (focus refine exec_setD (p := .tmp 52) (x := .tmp 50) (d := p) ?_ ?_ ?_ HDS.out hyn; rfl; rfl; rfl)
            refine hK.out _ _ ?_
            clear hK K
            refine WL.done HT_.out (by kernel_rfl) ?_
            clear m0 m1 m2 m3
            go_wp2
            go_roundw
            case rel => exact ⟨q, by go_num, by omega, by omega, ⟨HFN.out⟩, ⟨fun h g1 g2 => by
              rcases Nat.lt_or_ge q h with c | c
              · exact HHI.out h (by omega) g2
              · have e_ : h = q := by omega
                rw [e_]; exact HCL.out⟩, ⟨HGN.out⟩⟩
            case measure => simp [intOf]
          · have hcg := cI_ge hcm
            have HCL := Lib.hid hcm
            generalize cI (E i).t (E q).t = c at *
            obtain ⟨p, hp⟩ : ∃ p, E i = p := ⟨_, rfl⟩
            obtain ⟨r, hr⟩ : ∃ r, E q = r := ⟨_, rfl⟩
            rw [hp] at x0 x1 HCM
            rw [hr] at y0 y1 HCM
            clear hp hr hcm
            go_wp2_with fail
            refine WL.start (n := 17) (S := fun w' => Aside0 (Below wr.heap.size wr w') ∧ w'.cell? ⟨g, (q + 1) * 2, none⟩ = some (.int .i64 p.t) ∧ w'.cell? ⟨g, (q + 1) * 2 + 1, none⟩ = some (.string p.x) ∧ w'.cell? ⟨g, q * 2, none⟩ = some (.int .i64 r.t) ∧ w'.cell? ⟨g, q * 2 + 1, none⟩ = some (.string r.x)) (ds := []) [false, false, false, false, false, false, false, false, false, false, false, false, false, false, false, false, false] (by kernel_rfl) rfl rfl ⟨⟨below_drew (Below.refl _ _)⟩, x0, x1, y0, y1⟩ (fun hHeld => ?_)
            refine WL.tab tab83_4 (fun HT_ => ?_)
            refine WL.more [0, 1, 2, 3, 4, 5, 6, 7, 9, 10, 11, 12, 8, 13, 14, 15, 16] ?_
            repeat (first
              | (refine WL.off (lb' := ?_) (ys := ?_) rfl rfl (by rfl) ?_ HT_.out ?_ (fun _ _ _ h => h) ?_ ?_; rotate_left 2; (focus dsimp only [List.set_cons_zero, List.set_cons_succ]; rfl); (focus kernel_rfl); (focus dsimp only [List.set_cons_zero, List.set_cons_succ]; rfl))
              | (refine WL.pure (lb' := ?_) (v := ?_) (ys := ?_) rfl rfl (by rfl) ?_ HT_.out ?_ (fun _ _ _ h => h) ?_ ?_ ?_; rotate_left 3; (focus dsimp only [List.set_cons_zero, List.set_cons_succ]; rfl); (focus kernel_rfl); (focus intro w'; go_simp; with_reducible rfl); (focus dsimp only [List.set_cons_zero, List.set_cons_succ]; rfl))
              | (refine WL.take (lb' := ?_) (v := ?_) (ys := ?_) rfl rfl (by rfl) ?_ HT_.out ?_ (fun _ _ _ h => h) hHeld ?_ ?_ ?_; rotate_left 3; (focus dsimp only [List.set_cons_zero, List.set_cons_succ]; rfl); (focus kernel_rfl); (focus rintro w' ⟨s0, s1, s2, s3, s4⟩; go_simp; with_reducible rfl); (focus dsimp only [List.set_cons_zero, List.set_cons_succ]; rfl))
              | (refine WL.one (lb' := ?_) rfl rfl ?_ HT_.out ?_ (by decide) (fun K hK => ?_); rotate_left; (focus dsimp only [List.set_cons_zero, List.set_cons_succ]; rfl); (focus kernel_rfl); first
                  | (refine goesV_ Tryz.func22 (by kernel_rfl) rfl #[.agg #[.int .i64 p.t, .string p.x], .agg #[.int .i64 r.t, .string r.x]] (by rfl) rfl rfl rfl (by simp only [List.map_toArray, List.map_cons, List.map_nil]; rfl) ?_; (with_reducible refine ((HCM.out _).out).mono ?_); rintro e w5 ⟨rfl, hb⟩; refine ⟨_, rfl, ?_⟩; refine hK.out _ _ (by have h_ := hHeld.2; refine ⟨⟨below_tr hHeld.1.out hb⟩, ?_⟩; repeat (first | exact below_cell hb h_ | (refine ⟨below_cell hb h_.1, ?_⟩; replace h_ := h_.2))) (fun hHeld => ?_); clear hK K; refine WL.put (ys := ?_) ?_ ?_; rotate_left; (focus dsimp only [List.set_cons_zero, List.set_cons_succ]; rfl))))
            refine WL.done HT_.out (by kernel_rfl) ?_
            clear x0 x1 y0 y1
            have HDC := Lib.hid (HDJ.out.below hHeld.1.out)
            have HGC := Lib.hid (HGJ.out.trans (grown_bel hHeld.1.out (some g)))
            clear hHeld
            have HSN := Lib.hid (ins_srt HS.out HTI.out hj1 hj2 (fun h g1 g2 => by
              have h1_ := HCL.out
              have h2_ := HS.out.t g1 (show h ≤ q by omega) (by omega)
              omega) HHI.out)
            have HMN := Lib.hid (show Sm D (rot E (q + 1) i (i + 1)) a (i + 1) from (HM.out.wider (Nat.le_refl _) (Nat.le_succ _)).trans ((rot_sm E (q + 1) i (i + 1) hj2 (Nat.le_succ _)).wider hj1 (Nat.le_refl _)))
            go_wp2
            go_roundw
            case rel => exact ⟨i + 1, _, by first | rfl | go_num, by omega, .inl (by omega), ⟨HDC.out⟩, ⟨HSN.out⟩, ⟨HMN.out⟩, ⟨fun e_ => by omega⟩, ⟨HGC.out⟩⟩
            case measure => simp [intOf]; omega
        · have hje : j = a := by omega
          subst hje
          have hng : ¬ (j : Int) < (j : Int) := by omega
          have HSN := Lib.hid (ins_srt HS.out HTI.out (Nat.le_refl _) hj2 (fun h g1 g2 => by omega) HHI.out)
          have HMN := Lib.hid (show Sm D (rot E j i (i + 1)) j (i + 1) from (HM.out.wider (Nat.le_refl _) (Nat.le_succ _)).trans (rot_sm E j i (i + 1) hj2 (Nat.le_succ _)))
          go_wp2_with fail
          refine WL.start (n := 17) (S := fun w' => True) (ds := []) [false, false, false, false, false, false, false, false, false, false, false, false, false, false, false, false, false] (by kernel_rfl) rfl rfl trivial (fun hHeld => ?_)
          refine WL.tab tab83_4 (fun HT_ => ?_)
          refine WL.more [0, 1, 2, 3, 4, 5, 6, 7, 9, 10, 11, 12, 8, 13, 14, 15, 16] ?_
          repeat (first
            | (refine WL.off (lb' := ?_) (ys := ?_) rfl rfl (by rfl) ?_ HT_.out ?_ (fun _ _ _ h => h) ?_ ?_; rotate_left 2; (focus dsimp only [List.set_cons_zero, List.set_cons_succ]; rfl); (focus kernel_rfl); (focus dsimp only [List.set_cons_zero, List.set_cons_succ]; rfl))
            | (refine WL.pure (lb' := ?_) (v := ?_) (ys := ?_) rfl rfl (by rfl) ?_ HT_.out ?_ (fun _ _ _ h => h) ?_ ?_ ?_; rotate_left 3; (focus dsimp only [List.set_cons_zero, List.set_cons_succ]; rfl); (focus kernel_rfl); (focus intro w'; go_simp; with_reducible rfl); (focus dsimp only [List.set_cons_zero, List.set_cons_succ]; rfl))
            | (refine WL.take (lb' := ?_) (v := ?_) (ys := ?_) rfl rfl (by rfl) ?_ HT_.out ?_ (fun _ _ _ h => h) hHeld ?_ ?_ ?_; rotate_left 3; (focus dsimp only [List.set_cons_zero, List.set_cons_succ]; rfl); (focus kernel_rfl); (focus intro w' _; go_simp; with_reducible rfl); (focus dsimp only [List.set_cons_zero, List.set_cons_succ]; rfl)))
          refine WL.done HT_.out (by kernel_rfl) ?_
          clear hHeld
          go_wp2
          go_roundw
          case rel => exact ⟨i + 1, _, by first | rfl | go_num, by omega, .inl (by omega), ⟨Hd.drew HDJ.out⟩, ⟨HSN.out⟩, ⟨HMN.out⟩, ⟨fun e_ => by omega⟩, ⟨HGJ.out.trans (grown_drew_ _ _)⟩⟩
          case measure => simp [intOf]; omega
    · have hMG := Lib.hid (show Mg D E a b from by
        rcases hi2 with hi2 | hi2
        · have e_ : i = b := by omega
          rw [e_] at HS HM
          exact ⟨HS.out, HM.out⟩
        · have e2_ := HE.out hi2
          by_cases hb : b = a + 1
          · rw [hb, ← hi2]
            exact ⟨HS.out, HM.out⟩
          · rw [e2_]
            exact ⟨fun x y g1 g2 g3 => by omega, Sm.refl _ _ _⟩)
      have hng : ¬ (i : Int) < (b : Int) := by omega
      go_wp2
      exact ⟨rfl, _, results_none (by kernel_rfl) _ _ _, rfl, E, HD.out, hMG.out, HG.out⟩
end Go.Proofs.YtafigkikblpbnaaGreatDoor.PG
namespace Go.Proofs.YtafigkikblpbnaaGreatDoor.PG
open Go.RowKit Go.Proofs.YtafigkikblpbnaaGreatDoorW.PrintWords Go.Proofs.YtafigkikblpbnaaGreatDoorW.PrintLast Go.Proofs.YtafigkikblpbnaaGreatDoorW.PrintMore
set_option linter.unusedVariables false
set_option linter.unusedSimpArgs false
set_option maxRecDepth 100000
theorem tab84_5 : rtab .any (opsOf Tryz.f84 5) = (true, [([], []), ([], []), ([], []), ([1, 2], [1, 2]), ([3], [3]), ([], []), ([], []), ([5, 6], [5, 6]), ([7], [7]), ([0, 4, 8], [0, 4, 8]), ([9], [9])]) := by kernel_rfl
theorem tab84_11 : rtab .any (opsOf Tryz.f84 11) = (true, [([], []), ([], []), ([], []), ([], []), ([3], [3]), ([], []), ([], []), ([6], [6]), ([5, 7], [5, 7]), ([8], [8]), ([], []), ([], []), ([10, 11], [10, 11]), ([12], [12]), ([0, 1, 0, 1, 5, 6, 7, 8, 9, 13], [0, 1]), ([14, 9, 0, 1, 5, 6, 7, 8, 9, 13], [9, 14]), ([2, 4, 0, 1, 2, 3, 4, 5, 6, 7, 8, 9, 10, 11, 12, 13, 14, 15], [2, 4]), ([16, 13, 15, 0, 1, 2, 3, 4, 5, 6, 7, 8, 9, 10, 11, 12, 13, 14, 15], [13, 16])]) := by kernel_rfl

theorem rot_step2 (D : Nat → Dt) (a k : Nat) (h : a ≤ k) : (fun x => if x = k + 1 then rot D a (a + 1) (k + 1) k else if x = k then rot D a (a + 1) (k + 1) (k + 1) else rot D a (a + 1) (k + 1) x) = rot D a (a + 1) (k + 2) := by
  funext x
  have e0 : rot D a (a + 1) (k + 1) k = D a := by rw [rot_hi (by omega) (by omega)]; congr 1; omega
  have e1 : rot D a (a + 1) (k + 1) (k + 1) = D (k + 1) := rot_out (by omega) (by omega) (by omega)
  by_cases c1 : x = k + 1
  · subst c1
    rw [if_pos rfl, e0, rot_hi (by omega) (by omega)]
    congr 1; omega
  rw [if_neg c1]
  by_cases c2 : x = k
  · subst c2
    rw [if_pos rfl, e1, rot_lo h (by omega)]
    congr 1; omega
  rw [if_neg c2]
  by_cases c3 : a ≤ x ∧ x < k
  · rw [rot_lo c3.1 (by omega), rot_lo c3.1 (by omega)]
  · rw [rot_out (by omega) (by omega) (by omega), rot_out (by omega) (by omega) (by omega)]
set_option maxHeartbeats 8000000 in
theorem sym1 (g n cap : Nat) (hn : n ≤ 1000) (D : Nat → Dt) (a b : Nat) (h1 : a + 1 < b) (h2 : b ≤ n) (hs : Srt D (a + 1) b) (ht : Tg D a (a + 1) b) (W : World) (h : Hd W g n D) :
    Calls Tryz.prog 84 #[.slice (some ⟨g, 0, none⟩) n cap, .int .i64 a, .int .i64 (a + 1 : Nat), .int .i64 b, .func (.func 22) #[] #[]] W (RMg D g n a b W) := by
  have H0 := Lib.hid h
  have HS := Lib.hid hs
  have HT := Lib.hid ht
  clear h hs ht
  have kw0 : IntKind.i64.wrap (((a + 1 : Nat) : Int) - (a : Int)) = 1 := by rw [IntKind.wrap_i64]; omega
  have kw1 : ((a : Int) + 1 - (a : Int)) = 1 := by omega
  go_enter Tryz.func84, Tryz.ntmps84
  go_wp2
  go_loopw [10, 11] (fun v10 v11 wr => ∃ i j : Nat, v10 = .int .i64 i ∧ v11 = .int .i64 j ∧ a + 1 ≤ i ∧ i ≤ j ∧ j ≤ b ∧ Aside0 (∀ h, a + 1 ≤ h → h < i → (D h).t < (D a).t) ∧ Aside0 (∀ h, j ≤ h → h < b → ¬ (D h).t < (D a).t) ∧ Aside0 (Hd wr g n D) ∧ Aside0 (W.grownBy wr (some g))) (fun v10 v11 _ => (intOf v11).toNat - (intOf v10).toNat)
  case atStart => exact ⟨a + 1, b, by first | rfl | go_num, rfl, Nat.le_refl _, by omega, Nat.le_refl _, ⟨fun h g1 g2 => by omega⟩, ⟨fun h g1 g2 => by omega⟩, ⟨H0.out⟩, ⟨World.grownBy.refl _ _⟩⟩
  case round =>
    obtain ⟨i, j, rfl, rfl, hi, hij, hj, HLO, HHI, HD, HG⟩ := hrel
    by_cases hlt : i < j
    · have hlt2 : (i : Int) < (j : Int) := by omega
      obtain ⟨h, hh⟩ : ∃ h : Nat, (i + j) / 2 = h := ⟨_, rfl⟩
      have hh1 : i ≤ h := by omega
      have hh2 : h < j := by omega
      have kh : ((i : Int) + (j : Int)) / 2 = (h : Int) := by omega
      have khn : ((i : Int) + (j : Int)) / 2 < (n : Int) := by omega
      have khn2 : (h : Int) < (n : Int) := by omega
      have kan : (a : Int) < (n : Int) := by omega
      have kwh : IntKind.i64.wrap ((h : Int) + 1) = ((h + 1 : Nat) : Int) := by rw [IntKind.wrap_i64]; omega
      have cx := (HD.out.cell (show h < n by omega))
      have cy := (HD.out.cell (show a < n by omega))
      have HCM := Lib.hid (fun w => Lib.hid (cmpD_eq (D h).t (D a).t (D h).x (D a).x w))
      obtain ⟨⟨x0, _⟩, x1, _⟩ := cx
      obtain ⟨⟨y0, _⟩, y1, _⟩ := cy
      clear hh
      by_cases hcm : (D h).t < (D a).t
      · rw [cI_lt hcm] at HCM
        have HLN := Lib.hid (show ∀ x, a + 1 ≤ x → x < h + 1 → (D x).t < (D a).t from fun x g1 g2 => by
          have := HS.out.t g1 (show x ≤ h by omega) (by omega)
          omega)
        clear hcm
        obtain ⟨p, hp⟩ : ∃ p, D h = p := ⟨_, rfl⟩
        obtain ⟨r, hr⟩ : ∃ r, D a = r := ⟨_, rfl⟩
        rw [hp] at x0 x1 HCM
        rw [hr] at y0 y1 HCM
        clear hp hr
        go_wp2_with fail
        refine WL.start (n := 11) (S := fun w' => Aside0 (Below wr.heap.size wr w') ∧ w'.cell? ⟨g, h * 2, none⟩ = some (.int .i64 p.t) ∧ w'.cell? ⟨g, h * 2 + 1, none⟩ = some (.string p.x) ∧ w'.cell? ⟨g, a * 2, none⟩ = some (.int .i64 r.t) ∧ w'.cell? ⟨g, a * 2 + 1, none⟩ = some (.string r.x)) (ds := []) [false, false, false, false, false, false, false, false, false, false, false] (by kernel_rfl) rfl rfl ⟨⟨below_drew (Below.refl _ _)⟩, x0, x1, y0, y1⟩ (fun hHeld => ?_)
        refine WL.tab tab84_5 (fun HT_ => ?_)
        refine WL.more [0, 1, 2, 3, 5, 6, 7, 4, 8, 9, 10] ?_
        repeat (first
          | (refine WL.off (lb' := ?_) (ys := ?_) rfl rfl (by rfl) ?_ HT_.out ?_ (fun _ _ _ h => h) ?_ ?_; rotate_left 2; (focus dsimp only [List.set_cons_zero, List.set_cons_succ]; rfl); (focus kernel_rfl); (focus dsimp only [List.set_cons_zero, List.set_cons_succ]; rfl))
          | (refine WL.pure (lb' := ?_) (v := ?_) (ys := ?_) rfl rfl (by rfl) ?_ HT_.out ?_ (fun _ _ _ h => h) ?_ ?_ ?_; rotate_left 3; (focus dsimp only [List.set_cons_zero, List.set_cons_succ]; rfl); (focus kernel_rfl); (focus intro w'; go_simp; with_reducible rfl); (focus dsimp only [List.set_cons_zero, List.set_cons_succ]; rfl))
          | (refine WL.take (lb' := ?_) (v := ?_) (ys := ?_) rfl rfl (by rfl) ?_ HT_.out ?_ (fun _ _ _ h => h) hHeld ?_ ?_ ?_; rotate_left 3; (focus dsimp only [List.set_cons_zero, List.set_cons_succ]; rfl); (focus kernel_rfl); (focus rintro w' ⟨s0, s1, s2, s3, s4⟩; go_simp; with_reducible rfl); (focus dsimp only [List.set_cons_zero, List.set_cons_succ]; rfl))
          | (refine WL.one (lb' := ?_) rfl rfl ?_ HT_.out ?_ (by decide) (fun K hK => ?_); rotate_left; (focus dsimp only [List.set_cons_zero, List.set_cons_succ]; rfl); (focus kernel_rfl); first
              | (refine goesV_ Tryz.func22 (by kernel_rfl) rfl #[.agg #[.int .i64 p.t, .string p.x], .agg #[.int .i64 r.t, .string r.x]] (by rfl) rfl rfl rfl (by simp only [List.map_toArray, List.map_cons, List.map_nil]; rfl) ?_; (with_reducible refine ((HCM.out _).out).mono ?_); rintro e w5 ⟨rfl, hb⟩; refine ⟨_, rfl, ?_⟩; refine hK.out _ _ (by have h_ := hHeld.2; refine ⟨⟨below_tr hHeld.1.out hb⟩, ?_⟩; repeat (first | exact below_cell hb h_ | (refine ⟨below_cell hb h_.1, ?_⟩; replace h_ := h_.2))) (fun hHeld => ?_); clear hK K; refine WL.put (ys := ?_) ?_ ?_; rotate_left; (focus dsimp only [List.set_cons_zero, List.set_cons_succ]; rfl))))
        refine WL.done HT_.out (by kernel_rfl) ?_
        clear x0 x1 y0 y1
        have HDC := Lib.hid (HD.out.below hHeld.1.out)
        have HGC := Lib.hid (HG.out.trans (grown_bel hHeld.1.out (some g)))
        clear hHeld
        go_wp2
        go_roundw
        case rel => first | exact ⟨h + 1, j, by first | rfl | go_num, rfl, by omega, by omega, hj, ⟨HLN.out⟩, ⟨HHI.out⟩, ⟨HDC.out⟩, ⟨HGC.out⟩⟩ | exact ⟨h + 1, by first | rfl | go_num, j, rfl, by omega, by omega, hj, ⟨HLN.out⟩, ⟨HHI.out⟩, ⟨HDC.out⟩, ⟨HGC.out⟩⟩
        case measure => simp [intOf]; omega
      · have hcg := cI_ge hcm
        have HHN := Lib.hid (show ∀ x, h ≤ x → x < b → ¬ (D x).t < (D a).t from fun x g1 g2 => by
          have := HS.out.t (show a + 1 ≤ h by omega) g1 g2
          omega)
        generalize cI (D h).t (D a).t = c at *
        clear hcm
        obtain ⟨p, hp⟩ : ∃ p, D h = p := ⟨_, rfl⟩
        obtain ⟨r, hr⟩ : ∃ r, D a = r := ⟨_, rfl⟩
        rw [hp] at x0 x1 HCM
        rw [hr] at y0 y1 HCM
        clear hp hr
        go_wp2_with fail
        refine WL.start (n := 11) (S := fun w' => Aside0 (Below wr.heap.size wr w') ∧ w'.cell? ⟨g, h * 2, none⟩ = some (.int .i64 p.t) ∧ w'.cell? ⟨g, h * 2 + 1, none⟩ = some (.string p.x) ∧ w'.cell? ⟨g, a * 2, none⟩ = some (.int .i64 r.t) ∧ w'.cell? ⟨g, a * 2 + 1, none⟩ = some (.string r.x)) (ds := []) [false, false, false, false, false, false, false, false, false, false, false] (by kernel_rfl) rfl rfl ⟨⟨below_drew (Below.refl _ _)⟩, x0, x1, y0, y1⟩ (fun hHeld => ?_)
        refine WL.tab tab84_5 (fun HT_ => ?_)
        refine WL.more [0, 1, 2, 3, 5, 6, 7, 4, 8, 9, 10] ?_
        repeat (first
          | (refine WL.off (lb' := ?_) (ys := ?_) rfl rfl (by rfl) ?_ HT_.out ?_ (fun _ _ _ h => h) ?_ ?_; rotate_left 2; (focus dsimp only [List.set_cons_zero, List.set_cons_succ]; rfl); (focus kernel_rfl); (focus dsimp only [List.set_cons_zero, List.set_cons_succ]; rfl))
          | (refine WL.pure (lb' := ?_) (v := ?_) (ys := ?_) rfl rfl (by rfl) ?_ HT_.out ?_ (fun _ _ _ h => h) ?_ ?_ ?_; rotate_left 3; (focus dsimp only [List.set_cons_zero, List.set_cons_succ]; rfl); (focus kernel_rfl); (focus intro w'; go_simp; with_reducible rfl); (focus dsimp only [List.set_cons_zero, List.set_cons_succ]; rfl))
          | (refine WL.take (lb' := ?_) (v := ?_) (ys := ?_) rfl rfl (by rfl) ?_ HT_.out ?_ (fun _ _ _ h => h) hHeld ?_ ?_ ?_; rotate_left 3; (focus dsimp only [List.set_cons_zero, List.set_cons_succ]; rfl); (focus kernel_rfl); (focus rintro w' ⟨s0, s1, s2, s3, s4⟩; go_simp; with_reducible rfl); (focus dsimp only [List.set_cons_zero, List.set_cons_succ]; rfl))
          | (refine WL.one (lb' := ?_) rfl rfl ?_ HT_.out ?_ (by decide) (fun K hK => ?_); rotate_left; (focus dsimp only [List.set_cons_zero, List.set_cons_succ]; rfl); (focus kernel_rfl); first
              | (refine goesV_ Tryz.func22 (by kernel_rfl) rfl #[.agg #[.int .i64 p.t, .string p.x], .agg #[.int .i64 r.t, .string r.x]] (by rfl) rfl rfl rfl (by simp only [List.map_toArray, List.map_cons, List.map_nil]; rfl) ?_; (with_reducible refine ((HCM.out _).out).mono ?_); rintro e w5 ⟨rfl, hb⟩; refine ⟨_, rfl, ?_⟩; refine hK.out _ _ (by have h_ := hHeld.2; refine ⟨⟨below_tr hHeld.1.out hb⟩, ?_⟩; repeat (first | exact below_cell hb h_ | (refine ⟨below_cell hb h_.1, ?_⟩; replace h_ := h_.2))) (fun hHeld => ?_); clear hK K; refine WL.put (ys := ?_) ?_ ?_; rotate_left; (focus dsimp only [List.set_cons_zero, List.set_cons_succ]; rfl))))
        refine WL.done HT_.out (by kernel_rfl) ?_
        clear x0 x1 y0 y1
        have HDC := Lib.hid (HD.out.below hHeld.1.out)
        have HGC := Lib.hid (HG.out.trans (grown_bel hHeld.1.out (some g)))
        clear hHeld
        go_wp2
        go_roundw
        case rel => first | exact ⟨i, h, rfl, by first | rfl | go_num, hi, by omega, by omega, ⟨HLO.out⟩, ⟨HHN.out⟩, ⟨HDC.out⟩, ⟨HGC.out⟩⟩ | exact ⟨i, rfl, h, by first | rfl | go_num, hi, by omega, by omega, ⟨HLO.out⟩, ⟨HHN.out⟩, ⟨HDC.out⟩, ⟨HGC.out⟩⟩
        case measure => simp [intOf]; omega
    · have hije : i = j := by omega
      subst hije
      have HSN := Lib.hid (ins_srt' HS.out HT.out hi hj HLO.out HHI.out)
      have HMN := Lib.hid (show Sm D (rot D a (a + 1) i) a b from (rot_sm D a (a + 1) i (Nat.le_succ _) hi).wider (Nat.le_refl _) hj)
      have hng : ¬ (i : Int) < (i : Int) := by omega
      have kwi : IntKind.i64.wrap ((i : Int) - 1) = (i : Int) - 1 := by rw [IntKind.wrap_i64]; omega
      go_wp2
      generalize wr = wq at *
      go_loopw [13] (fun v13 wr => ∃ k : Nat, v13 = .int .i64 k ∧ a ≤ k ∧ k + 1 ≤ i ∧ Aside0 (Hd wr g n (rot D a (a + 1) (k + 1))) ∧ Aside0 (W.grownBy wr (some g))) (fun v13 _ => n + 1 - (intOf v13).toNat)
      case atStart => exact ⟨a, rfl, Nat.le_refl _, hi, ⟨by rw [rot_id]; exact HD.out⟩, ⟨HG.out⟩⟩
      case round =>
        obtain ⟨k, rfl, hk1, hk2, HDK, HGK⟩ := hrel
        by_cases hlt3 : k + 1 < i
        · have hlt4 : (k : Int) < (i : Int) - 1 := by omega
          have hxn : k < n := by omega
          have hyn : k + 1 < n := by omega
          have kwk : IntKind.i64.wrap ((k : Int) + 1) = (k : Int) + 1 := by rw [IntKind.wrap_i64]; omega
          have kp1 : (0 : Int) ≤ (k : Int) + 1 := by omega
          have kp2 : ((k : Int) + 1).toNat = k + 1 := by omega
          have kl1 : (k : Int) + 1 < (n : Int) := by omega
          have kl2 : (k : Int) < (n : Int) := by omega
          have HDR := Lib.hid (Hd.drew HDK.out)
          have HR2 := Lib.hid (rot_step2 D a k hk1)
          generalize rot D a (a + 1) (k + 1) = E at *
          have cx := HDR.out.cell hxn
          have cy := HDR.out.cell hyn
          have HDS := Lib.hid (HDR.out.set hxn (E (k + 1)))
          have HFN := Lib.hid (show Hd (setD (setD wr.drew g k (E (k + 1))) g (k + 1) (E k)) g n (rot D a (a + 1) (k + 2)) from (HDR.out.swap hxn hyn).congr (fun x _ => by rw [← HR2.out]))
          have HGN := Lib.hid (show W.grownBy (setD (setD wr.drew g k (E (k + 1))) g (k + 1) (E k)) (some g) from ((HGK.out.trans (grown_drew_ _ _)).trans (grown_setD _ _ _ _)).trans (grown_setD _ _ _ _))
          generalize E k = p at *
          generalize E (k + 1) = r at *
          obtain ⟨⟨x0, _⟩, x1, _⟩ := cx
          obtain ⟨⟨y0, _⟩, y1, _⟩ := cy
          go_wp2_with fail
          refine WL.start (n := 18) (S := fun w' => w'.cell? ⟨g, (k + 1) * 2, none⟩ = some (.int .i64 r.t) ∧ w'.cell? ⟨g, (k + 1) * 2 + 1, none⟩ = some (.string r.x) ∧ w'.cell? ⟨g, k * 2, none⟩ = some (.int .i64 p.t) ∧ w'.cell? ⟨g, k * 2 + 1, none⟩ = some (.string p.x)) (ds := [15, 17]) [false, false, false, false, false, false, false, false, false, false, false, false, false, false, false, false, false, false] (by kernel_rfl) rfl rfl ⟨y0, y1, x0, x1⟩ (fun hHeld => ?_)
          refine WL.tab tab84_11 (fun HT_ => ?_)
          refine WL.more [0, 1, 2, 3, 4, 5, 6, 7, 8, 10, 11, 12, 9, 13, 14] ?_
          repeat (first
            | (refine WL.off (lb' := ?_) (ys := ?_) rfl rfl (by rfl) ?_ HT_.out ?_ (fun _ _ _ h => h) ?_ ?_; rotate_left 2; (focus dsimp only [List.set_cons_zero, List.set_cons_succ]; rfl); (focus kernel_rfl); (focus dsimp only [List.set_cons_zero, List.set_cons_succ]; rfl))
            | (refine WL.pure (lb' := ?_) (v := ?_) (ys := ?_) rfl rfl (by rfl) ?_ HT_.out ?_ (fun _ _ _ h => h) ?_ ?_ ?_; rotate_left 3; (focus dsimp only [List.set_cons_zero, List.set_cons_succ]; rfl); (focus kernel_rfl); (focus intro w'; go_simp; with_reducible rfl); (focus dsimp only [List.set_cons_zero, List.set_cons_succ]; rfl))
            | (refine WL.take (lb' := ?_) (v := ?_) (ys := ?_) rfl rfl (by rfl) ?_ HT_.out ?_ (fun _ _ _ h => h) hHeld ?_ ?_ ?_; rotate_left 3; (focus dsimp only [List.set_cons_zero, List.set_cons_succ]; rfl); (focus kernel_rfl); (focus rintro w' ⟨s0, s1, s2, s3⟩; go_simp; with_reducible rfl); (focus dsimp only [List.set_cons_zero, List.set_cons_succ]; rfl)))
          refine WL.more [15] ?_
          refine WL.last (lb' := ?_) rfl rfl ?_ HT_.out ?_ (by decide) (fun K hK => ?_); rotate_left; (focus dsimp only [List.set_cons_zero, List.set_cons_succ]; rfl); (focus kernel_rfl)
          refine skip_ (w1 := ?_) (by rfl) rfl ?_ ?_
          rotate_left
          (focus refine exec_setD (p := .tmp 75) (x := .tmp 70) (d := r) ?_ ?_ ?_ HDR.out hxn; rfl; rfl; rfl)
          refine hK.out _ _ ?_
          clear hK K
          refine WL.more [16] ?_
          repeat (first
            | (refine WL.off (lb' := ?_) (ys := ?_) rfl rfl (by rfl) ?_ HT_.out ?_ (fun _ _ _ h => h) ?_ ?_; rotate_left 2; (focus dsimp only [List.set_cons_zero, List.set_cons_succ]; rfl); (focus kernel_rfl); (focus dsimp only [List.set_cons_zero, List.set_cons_succ]; rfl))
            | (refine WL.pure (lb' := ?_) (v := ?_) (ys := ?_) rfl rfl (by rfl) ?_ HT_.out ?_ (fun _ _ _ h => h) ?_ ?_ ?_; rotate_left 3; (focus dsimp only [List.set_cons_zero, List.set_cons_succ]; rfl); (focus kernel_rfl); (focus intro w'; go_simp; with_reducible rfl); (focus dsimp only [List.set_cons_zero, List.set_cons_succ]; rfl))
            | (refine WL.take (lb' := ?_) (v := ?_) (ys := ?_) rfl rfl (by rfl) ?_ HT_.out ?_ (fun _ _ _ h => h) hHeld ?_ ?_ ?_; rotate_left 3; (focus dsimp only [List.set_cons_zero, List.set_cons_succ]; rfl); (focus kernel_rfl); (focus rintro w' ⟨s0, s1, s2, s3⟩; go_simp; with_reducible rfl); (focus dsimp only [List.set_cons_zero, List.set_cons_succ]; rfl)))
          refine WL.more [17] ?_
          refine WL.last (lb' := ?_) rfl rfl ?_ HT_.out ?_ (by decide) (fun K hK => ?_); rotate_left; (focus dsimp only [List.set_cons_zero, List.set_cons_succ]; rfl); (focus kernel_rfl)
          refine skip_ (w1 := ?_) (by rfl) rfl ?_ ?_
          rotate_left
          (focus refine exec_setD (p := .tmp 76) (x := .tmp 74) (d := p) ?_ ?_ ?_ HDS.out hyn; rfl; rfl; rfl)
          refine hK.out _ _ ?_
          clear hK K
          refine WL.done HT_.out (by kernel_rfl) ?_
          clear x0 x1 y0 y1
          go_wp2
          go_roundw
          case rel => exact ⟨k + 1, by go_num, by omega, by omega, ⟨HFN.out⟩, ⟨HGN.out⟩⟩
          case measure => simp [intOf]; omega
        · have hke : k + 1 = i := by omega
          rw [hke] at HDK
          have hnk : ¬ (k : Int) < (i : Int) - 1 := by omega
          go_wp2
          exact ⟨rfl, _, results_none (by kernel_rfl) _ _ _, rfl, _, HDK.out, ⟨HSN.out, HMN.out⟩, HGK.out⟩
theorem tab84_17 : rtab .any (opsOf Tryz.f84 17) = (true, [([], []), ([], []), ([], []), ([1, 2], [1, 2]), ([3], [3]), ([], []), ([], []), ([5, 6], [5, 6]), ([7], [7]), ([0, 4, 8], [0, 4, 8]), ([9], [9]), ([10], [10])]) := by kernel_rfl
theorem tab84_23 : rtab .any (opsOf Tryz.f84 23) = (true, [([], []), ([], []), ([], []), ([], []), ([3], [3]), ([], []), ([], []), ([6], [6]), ([5, 7], [5, 7]), ([8], [8]), ([], []), ([], []), ([10, 11], [10, 11]), ([12], [12]), ([0, 1, 0, 1, 5, 6, 7, 8, 9, 13], [0, 1]), ([14, 9, 0, 1, 5, 6, 7, 8, 9, 13], [9, 14]), ([2, 4, 0, 1, 2, 3, 4, 5, 6, 7, 8, 9, 10, 11, 12, 13, 14, 15], [2, 4]), ([16, 13, 15, 0, 1, 2, 3, 4, 5, 6, 7, 8, 9, 10, 11, 12, 13, 14, 15], [13, 16])]) := by kernel_rfl

set_option maxHeartbeats 8000000 in
theorem sym2 (g n cap : Nat) (hn : n ≤ 1000) (D : Nat → Dt) (a m : Nat) (h1 : a + 1 < m) (h2 : m + 1 ≤ n) (hs : Srt D a m) (ht : Tg D a m (m + 1)) (W : World) (h : Hd W g n D) :
    Calls Tryz.prog 84 #[.slice (some ⟨g, 0, none⟩) n cap, .int .i64 a, .int .i64 m, .int .i64 (m + 1 : Nat), .func (.func 22) #[] #[]] W (RMg D g n a (m + 1) W) := by
  have H0 := Lib.hid h
  have HS := Lib.hid hs
  have HT := Lib.hid ht
  clear h hs ht
  have kw0 : IntKind.i64.wrap ((m : Int) - (a : Int)) = (m : Int) - (a : Int) := by rw [IntKind.wrap_i64]; omega
  have kq0 : ((m : Int) - (a : Int) == 1) = false := by rw [beq_eq_false_iff_ne]; omega
  have kw1 : IntKind.i64.wrap (((m + 1 : Nat) : Int) - (m : Int)) = 1 := by rw [IntKind.wrap_i64]; omega
  have kw2 : ((m : Int) + 1 - (m : Int)) = 1 := by omega
  go_enter Tryz.func84, Tryz.ntmps84
  go_wp2
  go_loopw [14, 15] (fun v10 v11 wr => ∃ i j : Nat, v10 = .int .i64 i ∧ v11 = .int .i64 j ∧ a ≤ i ∧ i ≤ j ∧ j ≤ m ∧ Aside0 (∀ h, a ≤ h → h < i → ¬ (D m).t < (D h).t) ∧ Aside0 (∀ h, j ≤ h → h < m → (D m).t < (D h).t) ∧ Aside0 (Hd wr g n D) ∧ Aside0 (W.grownBy wr (some g))) (fun v10 v11 _ => (intOf v11).toNat - (intOf v10).toNat)
  case atStart => exact ⟨a, m, rfl, rfl, Nat.le_refl _, by omega, Nat.le_refl _, ⟨fun h g1 g2 => by omega⟩, ⟨fun h g1 g2 => by omega⟩, ⟨H0.out⟩, ⟨World.grownBy.refl _ _⟩⟩
  case round =>
    obtain ⟨i, j, rfl, rfl, hi, hij, hj, HLO, HHI, HD, HG⟩ := hrel
    by_cases hlt : i < j
    · have hlt2 : (i : Int) < (j : Int) := by omega
      obtain ⟨h, hh⟩ : ∃ h : Nat, (i + j) / 2 = h := ⟨_, rfl⟩
      have hh1 : i ≤ h := by omega
      have hh2 : h < j := by omega
      have kh : ((i : Int) + (j : Int)) / 2 = (h : Int) := by omega
      have khn2 : (h : Int) < (n : Int) := by omega
      have kan : (m : Int) < (n : Int) := by omega
      have kwh : IntKind.i64.wrap ((h : Int) + 1) = ((h + 1 : Nat) : Int) := by rw [IntKind.wrap_i64]; omega
      have cx := (HD.out.cell (show m < n by omega))
      have cy := (HD.out.cell (show h < n by omega))
      have HCM := Lib.hid (fun w => Lib.hid (cmpD_eq (D m).t (D h).t (D m).x (D h).x w))
      obtain ⟨⟨x0, _⟩, x1, _⟩ := cx
      obtain ⟨⟨y0, _⟩, y1, _⟩ := cy
      clear hh
      by_cases hcm : (D m).t < (D h).t
      · rw [cI_lt hcm] at HCM
        have HHN := Lib.hid (show ∀ x, h ≤ x → x < m → (D m).t < (D x).t from fun x g1 g2 => by
          have := HS.out.t (show a ≤ h by omega) g1 g2
          omega)
        clear hcm
        obtain ⟨p, hp⟩ : ∃ p, D m = p := ⟨_, rfl⟩
        obtain ⟨r, hr⟩ : ∃ r, D h = r := ⟨_, rfl⟩
        rw [hp] at x0 x1 HCM
        rw [hr] at y0 y1 HCM
        clear hp hr
        go_wp2_with fail
        refine WL.start (n := 12) (S := fun w' => Aside0 (Below wr.heap.size wr w') ∧ w'.cell? ⟨g, m * 2, none⟩ = some (.int .i64 p.t) ∧ w'.cell? ⟨g, m * 2 + 1, none⟩ = some (.string p.x) ∧ w'.cell? ⟨g, h * 2, none⟩ = some (.int .i64 r.t) ∧ w'.cell? ⟨g, h * 2 + 1, none⟩ = some (.string r.x)) (ds := []) [false, false, false, false, false, false, false, false, false, false, false, false] (by kernel_rfl) rfl rfl ⟨⟨below_drew (Below.refl _ _)⟩, x0, x1, y0, y1⟩ (fun hHeld => ?_)
        refine WL.tab tab84_17 (fun HT_ => ?_)
        refine WL.more [0, 1, 2, 3, 5, 6, 7, 4, 8, 9, 10, 11] ?_
        repeat (first
          | (refine WL.off (lb' := ?_) (ys := ?_) rfl rfl (by rfl) ?_ HT_.out ?_ (fun _ _ _ h => h) ?_ ?_; rotate_left 2; (focus dsimp only [List.set_cons_zero, List.set_cons_succ]; rfl); (focus kernel_rfl); (focus dsimp only [List.set_cons_zero, List.set_cons_succ]; rfl))
          | (refine WL.pure (lb' := ?_) (v := ?_) (ys := ?_) rfl rfl (by rfl) ?_ HT_.out ?_ (fun _ _ _ h => h) ?_ ?_ ?_; rotate_left 3; (focus dsimp only [List.set_cons_zero, List.set_cons_succ]; rfl); (focus kernel_rfl); (focus intro w'; go_simp; with_reducible rfl); (focus dsimp only [List.set_cons_zero, List.set_cons_succ]; rfl))
          | (refine WL.take (lb' := ?_) (v := ?_) (ys := ?_) rfl rfl (by rfl) ?_ HT_.out ?_ (fun _ _ _ h => h) hHeld ?_ ?_ ?_; rotate_left 3; (focus dsimp only [List.set_cons_zero, List.set_cons_succ]; rfl); (focus kernel_rfl); (focus rintro w' ⟨s0, s1, s2, s3, s4⟩; go_simp; with_reducible rfl); (focus dsimp only [List.set_cons_zero, List.set_cons_succ]; rfl))
          | (refine WL.one (lb' := ?_) rfl rfl ?_ HT_.out ?_ (by decide) (fun K hK => ?_); rotate_left; (focus dsimp only [List.set_cons_zero, List.set_cons_succ]; rfl); (focus kernel_rfl); first
              | (refine goesV_ Tryz.func22 (by kernel_rfl) rfl #[.agg #[.int .i64 p.t, .string p.x], .agg #[.int .i64 r.t, .string r.x]] (by rfl) rfl rfl rfl (by simp only [List.map_toArray, List.map_cons, List.map_nil]; rfl) ?_; (with_reducible refine ((HCM.out _).out).mono ?_); rintro e w5 ⟨rfl, hb⟩; refine ⟨_, rfl, ?_⟩; refine hK.out _ _ (by have h_ := hHeld.2; refine ⟨⟨below_tr hHeld.1.out hb⟩, ?_⟩; repeat (first | exact below_cell hb h_ | (refine ⟨below_cell hb h_.1, ?_⟩; replace h_ := h_.2))) (fun hHeld => ?_); clear hK K; refine WL.put (ys := ?_) ?_ ?_; rotate_left; (focus dsimp only [List.set_cons_zero, List.set_cons_succ]; rfl))))
        refine WL.done HT_.out (by kernel_rfl) ?_
        clear x0 x1 y0 y1
        have HDC := Lib.hid (HD.out.below hHeld.1.out)
        have HGC := Lib.hid (HG.out.trans (grown_bel hHeld.1.out (some g)))
        clear hHeld
        go_wp2
        go_roundw
        case rel => first | exact ⟨i, h, rfl, by first | rfl | go_num, hi, by omega, by omega, ⟨HLO.out⟩, ⟨HHN.out⟩, ⟨HDC.out⟩, ⟨HGC.out⟩⟩ | exact ⟨i, rfl, h, by first | rfl | go_num, hi, by omega, by omega, ⟨HLO.out⟩, ⟨HHN.out⟩, ⟨HDC.out⟩, ⟨HGC.out⟩⟩
        case measure => simp [intOf]; omega
      · have hcg := cI_ge hcm
        have HLN := Lib.hid (show ∀ x, a ≤ x → x < h + 1 → ¬ (D m).t < (D x).t from fun x g1 g2 => by
          have := HS.out.t g1 (show x ≤ h by omega) (by omega)
          omega)
        generalize cI (D m).t (D h).t = c at *
        clear hcm
        obtain ⟨p, hp⟩ : ∃ p, D m = p := ⟨_, rfl⟩
        obtain ⟨r, hr⟩ : ∃ r, D h = r := ⟨_, rfl⟩
        rw [hp] at x0 x1 HCM
        rw [hr] at y0 y1 HCM
        clear hp hr
        go_wp2_with fail
        refine WL.start (n := 12) (S := fun w' => Aside0 (Below wr.heap.size wr w') ∧ w'.cell? ⟨g, m * 2, none⟩ = some (.int .i64 p.t) ∧ w'.cell? ⟨g, m * 2 + 1, none⟩ = some (.string p.x) ∧ w'.cell? ⟨g, h * 2, none⟩ = some (.int .i64 r.t) ∧ w'.cell? ⟨g, h * 2 + 1, none⟩ = some (.string r.x)) (ds := []) [false, false, false, false, false, false, false, false, false, false, false, false] (by kernel_rfl) rfl rfl ⟨⟨below_drew (Below.refl _ _)⟩, x0, x1, y0, y1⟩ (fun hHeld => ?_)
        refine WL.tab tab84_17 (fun HT_ => ?_)
        refine WL.more [0, 1, 2, 3, 5, 6, 7, 4, 8, 9, 10, 11] ?_
        repeat (first
          | (refine WL.off (lb' := ?_) (ys := ?_) rfl rfl (by rfl) ?_ HT_.out ?_ (fun _ _ _ h => h) ?_ ?_; rotate_left 2; (focus dsimp only [List.set_cons_zero, List.set_cons_succ]; rfl); (focus kernel_rfl); (focus dsimp only [List.set_cons_zero, List.set_cons_succ]; rfl))
          | (refine WL.pure (lb' := ?_) (v := ?_) (ys := ?_) rfl rfl (by rfl) ?_ HT_.out ?_ (fun _ _ _ h => h) ?_ ?_ ?_; rotate_left 3; (focus dsimp only [List.set_cons_zero, List.set_cons_succ]; rfl); (focus kernel_rfl); (focus intro w'; go_simp; with_reducible rfl); (focus dsimp only [List.set_cons_zero, List.set_cons_succ]; rfl))
          | (refine WL.take (lb' := ?_) (v := ?_) (ys := ?_) rfl rfl (by rfl) ?_ HT_.out ?_ (fun _ _ _ h => h) hHeld ?_ ?_ ?_; rotate_left 3; (focus dsimp only [List.set_cons_zero, List.set_cons_succ]; rfl); (focus kernel_rfl); (focus rintro w' ⟨s0, s1, s2, s3, s4⟩; go_simp; with_reducible rfl); (focus dsimp only [List.set_cons_zero, List.set_cons_succ]; rfl))
          | (refine WL.one (lb' := ?_) rfl rfl ?_ HT_.out ?_ (by decide) (fun K hK => ?_); rotate_left; (focus dsimp only [List.set_cons_zero, List.set_cons_succ]; rfl); (focus kernel_rfl); first
              | (refine goesV_ Tryz.func22 (by kernel_rfl) rfl #[.agg #[.int .i64 p.t, .string p.x], .agg #[.int .i64 r.t, .string r.x]] (by rfl) rfl rfl rfl (by simp only [List.map_toArray, List.map_cons, List.map_nil]; rfl) ?_; (with_reducible refine ((HCM.out _).out).mono ?_); rintro e w5 ⟨rfl, hb⟩; refine ⟨_, rfl, ?_⟩; refine hK.out _ _ (by have h_ := hHeld.2; refine ⟨⟨below_tr hHeld.1.out hb⟩, ?_⟩; repeat (first | exact below_cell hb h_ | (refine ⟨below_cell hb h_.1, ?_⟩; replace h_ := h_.2))) (fun hHeld => ?_); clear hK K; refine WL.put (ys := ?_) ?_ ?_; rotate_left; (focus dsimp only [List.set_cons_zero, List.set_cons_succ]; rfl))))
        refine WL.done HT_.out (by kernel_rfl) ?_
        clear x0 x1 y0 y1
        have HDC := Lib.hid (HD.out.below hHeld.1.out)
        have HGC := Lib.hid (HG.out.trans (grown_bel hHeld.1.out (some g)))
        clear hHeld
        go_wp2
        go_roundw
        case rel => first | exact ⟨h + 1, j, by first | rfl | go_num, rfl, by omega, by omega, hj, ⟨HLN.out⟩, ⟨HHI.out⟩, ⟨HDC.out⟩, ⟨HGC.out⟩⟩ | exact ⟨h + 1, by first | rfl | go_num, j, rfl, by omega, by omega, hj, ⟨HLN.out⟩, ⟨HHI.out⟩, ⟨HDC.out⟩, ⟨HGC.out⟩⟩
        case measure => simp [intOf]; omega
    · have hije : i = j := by omega
      subst hije
      have HSN := Lib.hid (ins_srt HS.out HT.out hi hj HLO.out HHI.out)
      have HMN := Lib.hid (show Sm D (rot D i m (m + 1)) a (m + 1) from (rot_sm D i m (m + 1) hj (Nat.le_succ _)).wider hi (Nat.le_refl _))
      have hng : ¬ (i : Int) < (i : Int) := by omega
      go_wp2
      generalize wr = wq at *
      go_loopw [17] (fun v17 wr => ∃ k : Nat, v17 = .int .i64 k ∧ i ≤ k ∧ k ≤ m ∧ Aside0 (Hd wr g n (rot D k m (m + 1))) ∧ Aside0 (W.grownBy wr (some g))) (fun v17 _ => (intOf v17).toNat)
      case atStart => exact ⟨m, rfl, hj, Nat.le_refl _, ⟨by rw [rot_id']; exact HD.out⟩, ⟨HG.out⟩⟩
      case round =>
        obtain ⟨k, rfl, hk1, hk2, HDK, HGK⟩ := hrel
        rcases Nat.lt_or_ge i k with hik | hik
        · obtain ⟨q, rfl⟩ : ∃ q, k = q + 1 := ⟨k - 1, by omega⟩
          have hgt1 : (i : Int) ≤ (q : Int) := by omega
          have hgt2 : (i : Int) < (q : Int) + 1 := by omega
          have hgt3 : i < q + 1 := hik
          have hgt4 : (i : Int) < ((q + 1 : Nat) : Int) := by omega
          have hxn : q + 1 < n := by omega
          have hyn : q < n := by omega
          have hds : ((q + 1 : Nat) : Int) - 1 = (q : Int) := by omega
          have kp1 : (0 : Int) ≤ (q : Int) + 1 := by omega
          have kl1 : (q : Int) + 1 < (n : Int) := by omega
          have kl2 : (q : Int) < (n : Int) := by omega
          have kwq : IntKind.i64.wrap (q : Int) = (q : Int) := by rw [IntKind.wrap_i64]; omega
          have HDR := Lib.hid (Hd.drew HDK.out)
          have HR2 := Lib.hid (rot_step D q m hk2)
          generalize rot D (q + 1) m (m + 1) = E at *
          have cx := HDR.out.cell hxn
          have cy := HDR.out.cell hyn
          have HDS := Lib.hid (HDR.out.set hxn (E q))
          have HFN := Lib.hid (show Hd (setD (setD wr.drew g (q + 1) (E q)) g q (E (q + 1))) g n (rot D q m (m + 1)) from (HDR.out.swap hxn hyn).congr (fun x _ => by rw [← HR2.out]))
          have HGN := Lib.hid (show W.grownBy (setD (setD wr.drew g (q + 1) (E q)) g q (E (q + 1))) (some g) from ((HGK.out.trans (grown_drew_ _ _)).trans (grown_setD _ _ _ _)).trans (grown_setD _ _ _ _))
          generalize E (q + 1) = p at *
          generalize E q = r at *
          obtain ⟨⟨x0, _⟩, x1, _⟩ := cx
          obtain ⟨⟨y0, _⟩, y1, _⟩ := cy
          go_wp2_with fail
          refine WL.start (n := 18) (S := fun w' => w'.cell? ⟨g, q * 2, none⟩ = some (.int .i64 r.t) ∧ w'.cell? ⟨g, q * 2 + 1, none⟩ = some (.string r.x) ∧ w'.cell? ⟨g, (q + 1) * 2, none⟩ = some (.int .i64 p.t) ∧ w'.cell? ⟨g, (q + 1) * 2 + 1, none⟩ = some (.string p.x)) (ds := [15, 17]) [false, false, false, false, false, false, false, false, false, false, false, false, false, false, false, false, false, false] (by kernel_rfl) rfl rfl ⟨y0, y1, x0, x1⟩ (fun hHeld => ?_)
          refine WL.tab tab84_23 (fun HT_ => ?_)
          refine WL.more [0, 1, 2, 3, 4, 5, 6, 7, 8, 10, 11, 12, 9, 13, 14] ?_
          repeat (first
            | (refine WL.off (lb' := ?_) (ys := ?_) rfl rfl (by rfl) ?_ HT_.out ?_ (fun _ _ _ h => h) ?_ ?_; rotate_left 2; (focus dsimp only [List.set_cons_zero, List.set_cons_succ]; rfl); (focus kernel_rfl); (focus dsimp only [List.set_cons_zero, List.set_cons_succ]; rfl))
            | (refine WL.pure (lb' := ?_) (v := ?_) (ys := ?_) rfl rfl (by rfl) ?_ HT_.out ?_ (fun _ _ _ h => h) ?_ ?_ ?_; rotate_left 3; (focus dsimp only [List.set_cons_zero, List.set_cons_succ]; rfl); (focus kernel_rfl); (focus intro w'; go_simp; with_reducible rfl); (focus dsimp only [List.set_cons_zero, List.set_cons_succ]; rfl))
            | (refine WL.take (lb' := ?_) (v := ?_) (ys := ?_) rfl rfl (by rfl) ?_ HT_.out ?_ (fun _ _ _ h => h) hHeld ?_ ?_ ?_; rotate_left 3; (focus dsimp only [List.set_cons_zero, List.set_cons_succ]; rfl); (focus kernel_rfl); (focus rintro w' ⟨s0, s1, s2, s3⟩; go_simp; with_reducible rfl); (focus dsimp only [List.set_cons_zero, List.set_cons_succ]; rfl)))
          refine WL.more [15] ?_
          refine WL.last (lb' := ?_) rfl rfl ?_ HT_.out ?_ (by decide) (fun K hK => ?_); rotate_left; (focus dsimp only [List.set_cons_zero, List.set_cons_succ]; rfl); (focus kernel_rfl)
          refine skip_ (w1 := ?_) (by rfl) rfl ?_ ?_
          rotate_left
          (focus refine exec_setD (p := .tmp 127) (x := .tmp 122) (d := r) ?_ ?_ ?_ HDR.out hxn; rfl; rfl; rfl)
          refine hK.out _ _ ?_
          clear hK K
          refine WL.more [16] ?_
          repeat (first
            | (refine WL.off (lb' := ?_) (ys := ?_) rfl rfl (by rfl) ?_ HT_.out ?_ (fun _ _ _ h => h) ?_ ?_; rotate_left 2; (focus dsimp only [List.set_cons_zero, List.set_cons_succ]; rfl); (focus kernel_rfl); (focus dsimp only [List.set_cons_zero, List.set_cons_succ]; rfl))
            | (refine WL.pure (lb' := ?_) (v := ?_) (ys := ?_) rfl rfl (by rfl) ?_ HT_.out ?_ (fun _ _ _ h => h) ?_ ?_ ?_; rotate_left 3; (focus dsimp only [List.set_cons_zero, List.set_cons_succ]; rfl); (focus kernel_rfl); (focus intro w'; go_simp; with_reducible rfl); (focus dsimp only [List.set_cons_zero, List.set_cons_succ]; rfl))
            | (refine WL.take (lb' := ?_) (v := ?_) (ys := ?_) rfl rfl (by rfl) ?_ HT_.out ?_ (fun _ _ _ h => h) hHeld ?_ ?_ ?_; rotate_left 3; (focus dsimp only [List.set_cons_zero, List.set_cons_succ]; rfl); (focus kernel_rfl); (focus rintro w' ⟨s0, s1, s2, s3⟩; go_simp; with_reducible rfl); (focus dsimp only [List.set_cons_zero, List.set_cons_succ]; rfl)))
          refine WL.more [17] ?_
          refine WL.last (lb' := ?_) rfl rfl ?_ HT_.out ?_ (by decide) (fun K hK => ?_); rotate_left; (focus dsimp only [List.set_cons_zero, List.set_cons_succ]; rfl); (focus kernel_rfl)
          refine skip_ (w1 := ?_) (by rfl) rfl ?_ ?_
          rotate_left
          (focus refine exec_setD (p := .tmp 128) (x := .tmp 126) (d := p) ?_ ?_ ?_ HDS.out hyn; rfl; rfl; rfl)
          refine hK.out _ _ ?_
          clear hK K
          refine WL.done HT_.out (by kernel_rfl) ?_
          clear x0 x1 y0 y1
          go_wp2
          go_roundw
          case rel => exact ⟨q, by go_num, by omega, by omega, ⟨HFN.out⟩, ⟨HGN.out⟩⟩
          case measure => simp [intOf]
        · have hke : k = i := by omega
          subst hke
          have hnk : ¬ (k : Int) < (k : Int) := by omega
          go_wp2
          exact ⟨rfl, _, results_none (by kernel_rfl) _ _ _, rfl, _, HDK.out, ⟨HSN.out, HMN.out⟩, HGK.out⟩
end Go.Proofs.YtafigkikblpbnaaGreatDoor.PG
namespace Go.Proofs.YtafigkikblpbnaaGreatDoor.PG
open Go.RowKit Go.Proofs.YtafigkikblpbnaaGreatDoorW.PrintWords Go.Proofs.YtafigkikblpbnaaGreatDoorW.PrintLast Go.Proofs.YtafigkikblpbnaaGreatDoorW.PrintMore
set_option linter.unusedVariables false
set_option linter.unusedSimpArgs false
set_option maxRecDepth 100000
theorem tab84_35 : rtab .any (opsOf Tryz.f84 35) = (true, [([], []), ([], []), ([], []), ([], []), ([2, 3], [2, 3]), ([1, 4], [1, 4]), ([5], [5]), ([], []), ([], []), ([7, 8], [7, 8]), ([9], [9]), ([0, 6, 10], [0, 6, 10]), ([11], [11]), ([12], [12])]) := by kernel_rfl

set_option maxHeartbeats 0 in
theorem sym3t (g n cap : Nat) (hn : n ≤ 1000) (q : Nat)
    (ih : ∀ (D : Nat → Dt) (a m b : Nat) (W : World), b - a ≤ q → a < m → m < b → b ≤ n → Srt D a m → Srt D m b → Tg D a m b → Hd W g n D → Calls Tryz.prog 84 #[.slice (some ⟨g, 0, none⟩) n cap, .int .i64 a, .int .i64 m, .int .i64 b, .func (.func 22) #[] #[]] W (RMg D g n a b W))
    (D : Nat → Dt) (a m b : Nat) (hq : b - a ≤ q + 1) (ham : a + 1 < m) (hmb : m + 1 < b) (hmm_ : (a + b) / 2 < m) (hbn : b ≤ n) (hA : Srt D a m) (hB : Srt D m b) (hT : Tg D a m b) (W : World) (h : Hd W g n D) :
    Calls Tryz.prog 84 #[.slice (some ⟨g, 0, none⟩) n cap, .int .i64 a, .int .i64 m, .int .i64 b, .func (.func 22) #[] #[]] W (RMg D g n a b W) := by
  have H0 := Lib.hid h
  have HA := Lib.hid hA
  have HB := Lib.hid hB
  have HT := Lib.hid hT
  have IH := Lib.hid ih
  clear h hA hB hT ih
  obtain ⟨mid, hmid⟩ : ∃ mid : Nat, (a + b) / 2 = mid := ⟨_, rfl⟩
  have HMID := Lib.hid hmid
  have hm1 : 2 * mid ≤ a + b := by omega
  have hm2 : a + b ≤ 2 * mid + 1 := by omega
  have kmid : ((a : Int) + (b : Int)) / 2 = (mid : Int) := by omega
  clear hmid
  have kw0 : IntKind.i64.wrap ((m : Int) - (a : Int)) = (m : Int) - (a : Int) := by rw [IntKind.wrap_i64]; omega
  have kq0 : ((m : Int) - (a : Int) == 1) = false := by rw [beq_eq_false_iff_ne]; omega
  have kw1 : IntKind.i64.wrap ((b : Int) - (m : Int)) = (b : Int) - (m : Int) := by rw [IntKind.wrap_i64]; omega
  have kq1 : ((b : Int) - (m : Int) == 1) = false := by rw [beq_eq_false_iff_ne]; omega
  have kw2 : IntKind.i64.wrap ((mid : Int) + (m : Int)) = (mid : Int) + (m : Int) := by rw [IntKind.wrap_i64]; omega
  have kw3 : IntKind.i64.wrap ((mid : Int) + (m : Int) - 1) = (mid : Int) + (m : Int) - 1 := by rw [IntKind.wrap_i64]; omega
  go_enter Tryz.func84, Tryz.ntmps84
  have hmm : mid < m := by omega
  have hmm2 : (mid : Int) < (m : Int) := by omega
  have kw4 : IntKind.i64.wrap ((mid : Int) + (m : Int) - (b : Int)) = ((mid + m - b : Nat) : Int) := by rw [IntKind.wrap_i64]; omega
  go_wp2

  go_loopw [20, 21] (fun v20 v21 wr => ∃ i j : Nat, v20 = .int .i64 i ∧ v21 = .int .i64 j ∧ (mid + m - b) ≤ i ∧ i ≤ j ∧ j ≤ mid ∧ Aside0 ((mid + m - b) < i → (D (i - 1)).t ≤ (D (mid + m - 1 - (i - 1))).t) ∧ Aside0 (j < mid → (D (mid + m - 1 - j)).t < (D j).t) ∧ Aside0 (Hd wr g n D) ∧ Aside0 (W.grownBy wr (some g))) (fun v20 v21 _ => (intOf v21).toNat - (intOf v20).toNat)
  case atStart => exact ⟨(mid + m - b), mid, by first | rfl | go_num, by first | rfl | go_num, Nat.le_refl _, by omega, Nat.le_refl _, ⟨fun h_ => absurd h_ (Nat.lt_irrefl _)⟩, ⟨fun h_ => absurd h_ (Nat.lt_irrefl _)⟩, ⟨H0.out⟩, ⟨World.grownBy.refl _ _⟩⟩
  case round =>
    obtain ⟨i, j, rfl, rfl, hi, hij, hj, HLO, HHI, HD, HG⟩ := hrel
    by_cases hlt : i < j
    · have hlt2 : (i : Int) < (j : Int) := by omega
      obtain ⟨h, hh⟩ : ∃ h : Nat, (i + j) / 2 = h := ⟨_, rfl⟩
      have hh1 : i ≤ h := by omega
      have hh2 : h < j := by omega
      have kh : ((i : Int) + (j : Int)) / 2 = (h : Int) := by omega
      obtain ⟨u, hu⟩ : ∃ u : Nat, mid + m - 1 - h = u := ⟨_, rfl⟩
      have kwu : IntKind.i64.wrap ((mid : Int) + (m : Int) - 1 - (h : Int)) = (u : Int) := by rw [IntKind.wrap_i64]; omega
      have kun : (u : Int) < (n : Int) := by omega
      have khn2 : (h : Int) < (n : Int) := by omega
      have kwh : IntKind.i64.wrap ((h : Int) + 1) = ((h + 1 : Nat) : Int) := by rw [IntKind.wrap_i64]; omega
      have cx := (HD.out.cell (show u < n by omega))
      have cy := (HD.out.cell (show h < n by omega))
      have HCM := Lib.hid (fun w => Lib.hid (cmpD_eq (D u).t (D h).t (D u).x (D h).x w))
      obtain ⟨⟨x0, _⟩, x1, _⟩ := cx
      obtain ⟨⟨y0, _⟩, y1, _⟩ := cy
      have HU := Lib.hid hu
      clear hh hu
      by_cases hcm : (D u).t < (D h).t
      · rw [cI_lt hcm] at HCM
        have HHN := Lib.hid (show h < mid → (D (mid + m - 1 - h)).t < (D h).t from fun _ => by rw [HU.out]; exact hcm)
        clear hcm
        obtain ⟨p, hp⟩ : ∃ p, D u = p := ⟨_, rfl⟩
        obtain ⟨r, hr⟩ : ∃ r, D h = r := ⟨_, rfl⟩
        rw [hp] at x0 x1 HCM
        rw [hr] at y0 y1 HCM
        clear hp hr
        as_aux_lemma =>
        go_wp2_with fail
        refine WL.start (n := 14) (S := fun w' => Aside0 (Below wr.heap.size wr w') ∧ w'.cell? ⟨g, u * 2, none⟩ = some (.int .i64 p.t) ∧ w'.cell? ⟨g, u * 2 + 1, none⟩ = some (.string p.x) ∧ w'.cell? ⟨g, h * 2, none⟩ = some (.int .i64 r.t) ∧ w'.cell? ⟨g, h * 2 + 1, none⟩ = some (.string r.x)) (ds := []) [false, false, false, false, false, false, false, false, false, false, false, false, false, false] (by kernel_rfl) rfl rfl ⟨⟨below_drew (Below.refl _ _)⟩, x0, x1, y0, y1⟩ (fun hHeld => ?_)
        refine WL.tab tab84_35 (fun HT_ => ?_)
        refine WL.more [0, 1, 2, 3, 4, 5, 7, 8, 9, 6, 10, 11, 12, 13] ?_
        repeat (first
          | (refine WL.off (lb' := ?_) (ys := ?_) rfl rfl (by rfl) ?_ HT_.out ?_ (fun _ _ _ h => h) ?_ ?_; rotate_left 2; (focus dsimp only [List.set_cons_zero, List.set_cons_succ]; rfl); (focus kernel_rfl); (focus dsimp only [List.set_cons_zero, List.set_cons_succ]; rfl))
          | (refine WL.pure (lb' := ?_) (v := ?_) (ys := ?_) rfl rfl (by rfl) ?_ HT_.out ?_ (fun _ _ _ h => h) ?_ ?_ ?_; rotate_left 3; (focus dsimp only [List.set_cons_zero, List.set_cons_succ]; rfl); (focus kernel_rfl); (focus intro w'; go_simp; with_reducible rfl); (focus dsimp only [List.set_cons_zero, List.set_cons_succ]; rfl))
          | (refine WL.take (lb' := ?_) (v := ?_) (ys := ?_) rfl rfl (by rfl) ?_ HT_.out ?_ (fun _ _ _ h => h) hHeld ?_ ?_ ?_; rotate_left 3; (focus dsimp only [List.set_cons_zero, List.set_cons_succ]; rfl); (focus kernel_rfl); (focus rintro w' ⟨s0, s1, s2, s3, s4⟩; go_simp; with_reducible rfl); (focus dsimp only [List.set_cons_zero, List.set_cons_succ]; rfl))
          | (refine WL.one (lb' := ?_) rfl rfl ?_ HT_.out ?_ (by decide) (fun K hK => ?_); rotate_left; (focus dsimp only [List.set_cons_zero, List.set_cons_succ]; rfl); (focus kernel_rfl); first
              | (refine goesV_ Tryz.func22 (by kernel_rfl) rfl #[.agg #[.int .i64 p.t, .string p.x], .agg #[.int .i64 r.t, .string r.x]] (by rfl) rfl rfl rfl (by simp only [List.map_toArray, List.map_cons, List.map_nil]; rfl) ?_; (with_reducible refine ((HCM.out _).out).mono ?_); rintro e w5 ⟨rfl, hb⟩; refine ⟨_, rfl, ?_⟩; refine hK.out _ _ (by have h_ := hHeld.2; refine ⟨⟨below_tr hHeld.1.out hb⟩, ?_⟩; repeat (first | exact below_cell hb h_ | (refine ⟨below_cell hb h_.1, ?_⟩; replace h_ := h_.2))) (fun hHeld => ?_); clear hK K; refine WL.put (ys := ?_) ?_ ?_; rotate_left; (focus dsimp only [List.set_cons_zero, List.set_cons_succ]; rfl))))
        refine WL.done HT_.out (by kernel_rfl) ?_
        clear x0 x1 y0 y1
        have HDC := Lib.hid (HD.out.below hHeld.1.out)
        have HGC := Lib.hid (HG.out.trans (grown_bel hHeld.1.out (some g)))
        clear hHeld
        go_wp2
        go_roundw
        case rel => first | exact ⟨i, h, rfl, by first | rfl | go_num, hi, by omega, by omega, ⟨HLO.out⟩, ⟨HHN.out⟩, ⟨HDC.out⟩, ⟨HGC.out⟩⟩ | exact ⟨i, rfl, h, by first | rfl | go_num, hi, by omega, by omega, ⟨HLO.out⟩, ⟨HHN.out⟩, ⟨HDC.out⟩, ⟨HGC.out⟩⟩
        case measure => simp [intOf]; omega
      · have hcg := cI_ge hcm
        have HLN := Lib.hid (show (mid + m - b) < h + 1 → (D (h + 1 - 1)).t ≤ (D (mid + m - 1 - (h + 1 - 1))).t from fun _ => by rw [Nat.add_sub_cancel, HU.out]; exact Int.not_lt.mp hcm)
        generalize cI (D u).t (D h).t = c at *
        clear hcm
        obtain ⟨p, hp⟩ : ∃ p, D u = p := ⟨_, rfl⟩
        obtain ⟨r, hr⟩ : ∃ r, D h = r := ⟨_, rfl⟩
        rw [hp] at x0 x1 HCM
        rw [hr] at y0 y1 HCM
        clear hp hr
        as_aux_lemma =>
        go_wp2_with fail
        refine WL.start (n := 14) (S := fun w' => Aside0 (Below wr.heap.size wr w') ∧ w'.cell? ⟨g, u * 2, none⟩ = some (.int .i64 p.t) ∧ w'.cell? ⟨g, u * 2 + 1, none⟩ = some (.string p.x) ∧ w'.cell? ⟨g, h * 2, none⟩ = some (.int .i64 r.t) ∧ w'.cell? ⟨g, h * 2 + 1, none⟩ = some (.string r.x)) (ds := []) [false, false, false, false, false, false, false, false, false, false, false, false, false, false] (by kernel_rfl) rfl rfl ⟨⟨below_drew (Below.refl _ _)⟩, x0, x1, y0, y1⟩ (fun hHeld => ?_)
        refine WL.tab tab84_35 (fun HT_ => ?_)
        refine WL.more [0, 1, 2, 3, 4, 5, 7, 8, 9, 6, 10, 11, 12, 13] ?_
        repeat (first
          | (refine WL.off (lb' := ?_) (ys := ?_) rfl rfl (by rfl) ?_ HT_.out ?_ (fun _ _ _ h => h) ?_ ?_; rotate_left 2; (focus dsimp only [List.set_cons_zero, List.set_cons_succ]; rfl); (focus kernel_rfl); (focus dsimp only [List.set_cons_zero, List.set_cons_succ]; rfl))
          | (refine WL.pure (lb' := ?_) (v := ?_) (ys := ?_) rfl rfl (by rfl) ?_ HT_.out ?_ (fun _ _ _ h => h) ?_ ?_ ?_; rotate_left 3; (focus dsimp only [List.set_cons_zero, List.set_cons_succ]; rfl); (focus kernel_rfl); (focus intro w'; go_simp; with_reducible rfl); (focus dsimp only [List.set_cons_zero, List.set_cons_succ]; rfl))
          | (refine WL.take (lb' := ?_) (v := ?_) (ys := ?_) rfl rfl (by rfl) ?_ HT_.out ?_ (fun _ _ _ h => h) hHeld ?_ ?_ ?_; rotate_left 3; (focus dsimp only [List.set_cons_zero, List.set_cons_succ]; rfl); (focus kernel_rfl); (focus rintro w' ⟨s0, s1, s2, s3, s4⟩; go_simp; with_reducible rfl); (focus dsimp only [List.set_cons_zero, List.set_cons_succ]; rfl))
          | (refine WL.one (lb' := ?_) rfl rfl ?_ HT_.out ?_ (by decide) (fun K hK => ?_); rotate_left; (focus dsimp only [List.set_cons_zero, List.set_cons_succ]; rfl); (focus kernel_rfl); first
              | (refine goesV_ Tryz.func22 (by kernel_rfl) rfl #[.agg #[.int .i64 p.t, .string p.x], .agg #[.int .i64 r.t, .string r.x]] (by rfl) rfl rfl rfl (by simp only [List.map_toArray, List.map_cons, List.map_nil]; rfl) ?_; (with_reducible refine ((HCM.out _).out).mono ?_); rintro e w5 ⟨rfl, hb⟩; refine ⟨_, rfl, ?_⟩; refine hK.out _ _ (by have h_ := hHeld.2; refine ⟨⟨below_tr hHeld.1.out hb⟩, ?_⟩; repeat (first | exact below_cell hb h_ | (refine ⟨below_cell hb h_.1, ?_⟩; replace h_ := h_.2))) (fun hHeld => ?_); clear hK K; refine WL.put (ys := ?_) ?_ ?_; rotate_left; (focus dsimp only [List.set_cons_zero, List.set_cons_succ]; rfl))))
        refine WL.done HT_.out (by kernel_rfl) ?_
        clear x0 x1 y0 y1
        have HDC := Lib.hid (HD.out.below hHeld.1.out)
        have HGC := Lib.hid (HG.out.trans (grown_bel hHeld.1.out (some g)))
        clear hHeld
        go_wp2
        go_roundw
        case rel => first | exact ⟨h + 1, j, by first | rfl | go_num, rfl, by omega, by omega, hj, ⟨HLN.out⟩, ⟨HHI.out⟩, ⟨HDC.out⟩, ⟨HGC.out⟩⟩ | exact ⟨h + 1, by first | rfl | go_num, j, rfl, by omega, by omega, hj, ⟨HLN.out⟩, ⟨HHI.out⟩, ⟨HDC.out⟩, ⟨HGC.out⟩⟩
        case measure => simp [intOf]; omega
    · have hije : i = j := by omega
      subst hije
      have hng : ¬ (i : Int) < (i : Int) := by omega
      have HCUT := Lib.hid (show Cut D a m b i (mid + m - i) from by
        have hc_ := cut_of (s := i) HA.out HB.out (by omega) (by omega) (by rw [HMID.out]; rw [if_pos (by omega)]; exact ⟨hi, hj⟩) (by rw [HMID.out]; rw [if_pos (by omega)]; exact fun h_ => Int.not_lt.mpr (HLO.out h_)) (by rw [HMID.out]; rw [if_pos (by omega)]; exact HHI.out)
        rw [HMID.out] at hc_
        exact hc_)
      clear HLO HHI
      obtain ⟨e, he⟩ : ∃ e : Nat, mid + m - i = e := ⟨_, rfl⟩
      have kwe : IntKind.i64.wrap ((mid : Int) + (m : Int) - (i : Int)) = (e : Int) := by rw [IntKind.wrap_i64]; omega
      have HEE := Lib.hid he
      have c1_ : i ≤ m := HCUT.out.sm
      have c2_ : m ≤ e := by have := HCUT.out.me; omega
      have c3_ : e ≤ b := by have := HCUT.out.eb; omega
      have c4_ : a ≤ i := HCUT.out.sa
      have c5_ : i ≤ mid := by omega
      have c6_ : mid ≤ e := by have := HEE.out; omega
      have HL := Lib.hid (show Srt (rot D i m e) a i ∧ Srt (rot D i m e) i mid ∧ Tg (rot D i m e) a i mid from by
        have q_ := merged_lo HA.out HB.out HT.out HCUT.out (by omega) (by omega) (by omega)
        rw [HEE.out] at q_
        exact q_)
      clear he hij hj hi hlt hng
      have hng : ¬ (i : Int) < (i : Int) := by omega
      as_aux_lemma =>
      go_upto_region 39 with fail
      go_cut [185] from 25 (fun v w => v = .bool (decide (i < m ∧ m < e)) ∧ Aside0 (Hd w g n D) ∧ Aside0 (W.grownBy w (some g)))
      case first => as_aux_lemma =>
        by_cases p1a : i < m
        · have p1x : (i : Int) < (m : Int) := by omega
          by_cases p1b : m < e
          · have p1y : (m : Int) < (e : Int) := by omega
            go_wp2
            go_meet
            case rel => exact ⟨by rw [decide_eq_true (show i < m ∧ m < e from ⟨p1a, p1b⟩)], ⟨HD.out⟩, ⟨HG.out⟩⟩
          · have p1y : ¬ (m : Int) < (e : Int) := by omega
            go_wp2
            go_meet
            case rel => exact ⟨by rw [decide_eq_false (show ¬ (i < m ∧ m < e) from fun h_ => p1b h_.2)], ⟨HD.out⟩, ⟨HG.out⟩⟩
        · have p1x : ¬ (i : Int) < (m : Int) := by omega
          go_wp2
          go_meet
          case rel => exact ⟨by rw [decide_eq_false (show ¬ (i < m ∧ m < e) from fun h_ => p1a h_.1)], ⟨HD.out⟩, ⟨HG.out⟩⟩
      clear HD HG
      obtain ⟨rfl, HD, HG⟩ := hcut
      obtain ⟨bp1, hbp1⟩ : ∃ q_ : Bool, decide (i < m ∧ m < e) = q_ := ⟨_, rfl⟩
      rw [hbp1]
      have HBp1 := Lib.hid hbp1
      clear hbp1
      go_upto_if 185 with fail
      go_cut [] from 25 (fun w => Aside0 (Hd w g n (rot D i m e)) ∧ Aside0 (W.grownBy w (some g)))
      case first => as_aux_lemma =>
        cases bp1 with
        | true =>
          have q1 := of_decide_eq_true HBp1.out
          have HRO := Lib.hid (rotate_any g n cap hn D i m e q1.1 q1.2 (by omega) wc HD.out)
          go_wp2_with (go_at_call 118; refine HRO.out.mono ?_; rintro ee w2 ⟨rfl, hd2, hg2⟩)
          go_meet
          case rel => exact ⟨⟨hd2⟩, ⟨HG.out.trans hg2⟩⟩
        | false =>
          have HD1 := Lib.hid (show Hd wc g n (rot D i m e) from by
            have q1 := of_decide_eq_false HBp1.out
            rcases (show i = m ∨ e = m by omega) with q_ | q_
            · rw [q_, rot_id']; exact HD.out
            · rw [q_, rot_id]; exact HD.out)
          go_wp2
          go_meet
          case rel => exact ⟨⟨HD1.out⟩, ⟨HG.out⟩⟩
      clear HD HG HBp1
      obtain ⟨HD, HG⟩ := hcut
      go_upto_region 41 with fail
      go_cut [199] from 25 (fun v w => v = .bool (decide (a < i ∧ i < mid)) ∧ Aside0 (Hd w g n (rot D i m e)) ∧ Aside0 (W.grownBy w (some g)))
      case first => as_aux_lemma =>
        by_cases p2a : a < i
        · have p2x : (a : Int) < (i : Int) := by omega
          by_cases p2b : i < mid
          · have p2y : (i : Int) < (mid : Int) := by omega
            go_wp2
            go_meet
            case rel => exact ⟨by rw [decide_eq_true (show a < i ∧ i < mid from ⟨p2a, p2b⟩)], ⟨HD.out⟩, ⟨HG.out⟩⟩
          · have p2y : ¬ (i : Int) < (mid : Int) := by omega
            go_wp2
            go_meet
            case rel => exact ⟨by rw [decide_eq_false (show ¬ (a < i ∧ i < mid) from fun h_ => p2b h_.2)], ⟨HD.out⟩, ⟨HG.out⟩⟩
        · have p2x : ¬ (a : Int) < (i : Int) := by omega
          go_wp2
          go_meet
          case rel => exact ⟨by rw [decide_eq_false (show ¬ (a < i ∧ i < mid) from fun h_ => p2a h_.1)], ⟨HD.out⟩, ⟨HG.out⟩⟩
      clear HD HG
      obtain ⟨rfl, HD, HG⟩ := hcut
      obtain ⟨bp2, hbp2⟩ : ∃ q_ : Bool, decide (a < i ∧ i < mid) = q_ := ⟨_, rfl⟩
      rw [hbp2]
      have HBp2 := Lib.hid hbp2
      clear hbp2
      go_upto_if 199 with fail
      go_cut [] from 25 (fun w => ∃ E, Aside0 (Hd w g n E) ∧ Aside0 (Mg (rot D i m e) E a mid) ∧ Aside0 (W.grownBy w (some g)))
      case first => as_aux_lemma =>
        cases bp2 with
        | true =>
          have q1 := of_decide_eq_true HBp2.out
          have HCA := Lib.hid (IH.out (rot D i m e) a i mid wc (by omega) q1.1 q1.2 (by omega) HL.out.1 HL.out.2.1 HL.out.2.2 HD.out)
          go_wp2_with (go_at_call 84; refine HCA.out.mono ?_; rintro ee w3 ⟨rfl, E, hd3, hm3, hg3⟩)
          go_meet
          case rel => exact ⟨E, ⟨hd3⟩, ⟨hm3⟩, ⟨HG.out.trans hg3⟩⟩
        | false =>
          have HM2 := Lib.hid (show Mg (rot D i m e) (rot D i m e) a mid from by
            have q1 := of_decide_eq_false HBp2.out
            refine ⟨?_, Sm.refl _ _ _⟩
            rcases (show i = a ∨ i = mid by omega) with q_ | q_
            · have := HL.out.2.1; rw [q_] at this ⊢; exact this
            · have := HL.out.1; rw [q_] at this ⊢; exact this)
          go_wp2
          go_meet
          case rel => exact ⟨_, ⟨HD.out⟩, ⟨HM2.out⟩, ⟨HG.out⟩⟩
      clear HD HG HBp2
      obtain ⟨E, HD, HM, HG⟩ := hcut
      have HH := Lib.hid (show Srt E mid e ∧ Srt E e b ∧ Tg E mid e b from by
        have q_ := merged_hi HA.out HB.out HT.out HCUT.out (by omega) (by omega) (by omega) (by rw [HEE.out]; exact HM.out.sm)
        rw [HEE.out] at q_
        exact q_)
      go_upto_region 43 with fail
      go_cut [213] from 25 (fun v w => v = .bool (decide (mid < e ∧ e < b)) ∧ Aside0 (Hd w g n E) ∧ Aside0 (W.grownBy w (some g)))
      case first => as_aux_lemma =>
        by_cases p3a : mid < e
        · have p3x : (mid : Int) < (e : Int) := by omega
          by_cases p3b : e < b
          · have p3y : (e : Int) < (b : Int) := by omega
            go_wp2
            go_meet
            case rel => exact ⟨by rw [decide_eq_true (show mid < e ∧ e < b from ⟨p3a, p3b⟩)], ⟨HD.out⟩, ⟨HG.out⟩⟩
          · have p3y : ¬ (e : Int) < (b : Int) := by omega
            go_wp2
            go_meet
            case rel => exact ⟨by rw [decide_eq_false (show ¬ (mid < e ∧ e < b) from fun h_ => p3b h_.2)], ⟨HD.out⟩, ⟨HG.out⟩⟩
        · have p3x : ¬ (mid : Int) < (e : Int) := by omega
          go_wp2
          go_meet
          case rel => exact ⟨by rw [decide_eq_false (show ¬ (mid < e ∧ e < b) from fun h_ => p3a h_.1)], ⟨HD.out⟩, ⟨HG.out⟩⟩
      clear HD HG
      obtain ⟨rfl, HD, HG⟩ := hcut
      obtain ⟨bp3, hbp3⟩ : ∃ q_ : Bool, decide (mid < e ∧ e < b) = q_ := ⟨_, rfl⟩
      rw [hbp3]
      have HBp3 := Lib.hid hbp3
      clear hbp3
      cases bp3 with
      | true =>
        as_aux_lemma =>
        have q1 := of_decide_eq_true HBp3.out
        have HCB := Lib.hid (IH.out E mid e b wc (by omega) q1.1 q1.2 (by omega) HH.out.1 HH.out.2.1 HH.out.2.2 HD.out)
        go_wp2_with (go_at_call 84; refine HCB.out.mono ?_; rintro ee w4 ⟨rfl, F, hd4, hm4, hg4⟩)
        exact ⟨rfl, _, results_none (by kernel_rfl) _ _ _, rfl, F, hd4, merged HA.out HB.out HT.out HCUT.out (by omega) (by omega) (by omega) (by omega) (by rw [HEE.out]; exact HM.out) hm4, HG.out.trans hg4⟩
      | false =>
        as_aux_lemma =>
        have HM2 := Lib.hid (show Mg E E mid b from by
          have q1 := of_decide_eq_false HBp3.out
          refine ⟨?_, Sm.refl _ _ _⟩
          rcases (show e = mid ∨ e = b by omega) with q_ | q_
          · have := HH.out.2.1; rw [q_] at this; exact this
          · have := HH.out.1; rw [q_] at this; exact this)
        go_wp2
        exact ⟨rfl, _, results_none (by kernel_rfl) _ _ _, rfl, E, HD.out, merged HA.out HB.out HT.out HCUT.out (by omega) (by omega) (by omega) (by omega) (by rw [HEE.out]; exact HM.out) HM2.out, HG.out⟩
  end Go.Proofs.YtafigkikblpbnaaGreatDoor.PG
