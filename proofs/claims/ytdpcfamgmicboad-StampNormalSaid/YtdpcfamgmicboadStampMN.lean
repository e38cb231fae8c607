/- What the document's functions over points compute, and the law's own, in plain lists; bounds are the law's own, no condition else. -/
import Derived.Test.YtdpcfamgmicboadPStampNx2
import Derived.Test.YtdpcfamgmicboadPStampNx3
import Derived.Test.YtdpcfamgmicboadPStampNx4
import Derived.Test.YtdpcfamgmicboadStampKN
namespace Go.Proofs.Ytdpcfamgmicboad.PStampN
open Go.RowKit Go.Proofs.YtdpcfamgmicboadW.PrintWords
set_option linter.unusedVariables false
theorem w64 {x : Int} (h : x.natAbs ≤ 9000000000000000000) : wrap64 x = x := by unfold wrap64; omega
/-- The law's small points. -/
def Sm (l : List S24) : Prop := l.length ≤ 60 ∧ ∀ x ∈ l, x.f0.natAbs ≤ 1000 ∧ x.f1.natAbs ≤ 1000
/-- Points with parts up to B. -/
def Pb (B : Nat) (l : List S24) : Prop := l.length ≤ 60 ∧ ∀ x ∈ l, x.f0.natAbs ≤ B ∧ x.f1.natAbs ≤ B
theorem Sm.pb {l : List S24} (h : Sm l) : Pb 1000 l := h
theorem Pb.le {B C : Nat} {l : List S24} (h : Pb B l) (hBC : B ≤ C) : Pb C l := ⟨h.1, fun x hx => by have := h.2 x hx; omega⟩
theorem rd_in {l : List S24} {i : Nat} (h : i < l.length) : rd_T24 l (i : Int) ∈ l := by
  unfold rd_T24
  simp only [Int.toNat_natCast, List.getD_eq_getElem?_getD, List.getElem?_eq_getElem h, Option.getD_some]
  exact List.getElem_mem h
theorem snocP {β : Type} (f : S24 → β) {l : List S24} {i : Nat} (h : i < l.length) : (l.take (i + 1)).map f = (l.take i).map f ++ [f (rd_T24 l (i : Int))] := by
  unfold rd_T24
  rw [List.take_succ_eq_append_getElem h, List.map_append]
  simp [List.getD_eq_getElem?_getD, List.getElem?_eq_getElem h]
theorem Pb.sm {B : Nat} {l : List S24} (h : Pb B l) : ∀ z ∈ ofZ l, sm B z := by
  intro z hz
  obtain ⟨x, hx, rfl⟩ := List.mem_map.1 hz
  exact h.2 x hx
theorem Pb.okB {B C : Nat} {l : List S24} (h : Pb B l) (hBC : B ≤ C) : okB C (ofZ l) = true := by
  unfold Ytdpcfamgmicboad.okB
  simp only [Bool.and_eq_true, decide_eq_true_eq]
  refine ⟨by rw [ofZ_len]; have := h.1; omega, List.all_eq_true.2 fun z hz => ?_⟩
  have := h.sm z hz
  unfold smB
  simp only [Bool.and_eq_true, decide_eq_true_eq]
  exact ⟨by have := this.1; omega, by have := this.2; omega⟩
/-! small -/
theorem small_l (l : List S24) (hlen : l.length ≤ 100000000000000) : ∀ (d k i : Nat), i + d = 101 → 2 * d < k → (∀ j, j < i → (rd_T24 l (j : Int)).f0.natAbs ≤ 1000 ∧ (rd_T24 l (j : Int)).f1.natAbs ≤ 1000) → i ≤ l.length → i ≤ 100 →
    ∃ r, hanaperlaw27_small.l0 k l (i : Int) = some r ∧ (r = true → Sm l)
  | 0, k, i, hd, hk, hj, hil, hi => by omega
  | d + 1, k, i, hd, hk, hj, hil, hi => by
    obtain ⟨k, rfl⟩ : ∃ m, k = m + 1 + 1 := ⟨k - 2, by omega⟩
    have hend : l.length ≤ i ∨ i = 100 → ∀ b : Bool, b = false → ∃ r, hanaperlaw27_small.j1 (k + 1) l (i : Int) b = some r ∧ (r = true → Sm l) := fun he b hb => by
      subst hb
      refine ⟨_, by simp only [hanaperlaw27_small.j1]; rw [if_neg (by decide)], fun h => ?_⟩
      have h60 : l.length ≤ 60 := by have := of_decide_eq_true h; omega
      refine ⟨h60, fun x hx => ?_⟩
      obtain ⟨n, hn, rfl⟩ := List.getElem_of_mem hx
      have := hj n (by omega)
      unfold rd_T24 at this
      simpa [List.getD_eq_getElem?_getD, List.getElem?_eq_getElem hn] using this
    simp only [hanaperlaw27_small.l0]
    by_cases h1 : i < l.length
    · rw [if_pos (by omega)]
      by_cases h2 : i = 100
      · exact hend (.inr h2) _ (by rw [decide_eq_false_iff_not]; omega)
      · have hb : decide ((i : Int) < 100) = true := by rw [decide_eq_true_iff]; omega
        rw [hb]
        simp only [hanaperlaw27_small.j1]
        rw [if_pos trivial, if_pos (by omega), if_pos (by omega)]
        by_cases c1 : (rd_T24 l (i : Int)).f0 < -1000
        · rw [if_pos c1]; exact ⟨false, rfl, fun h => by cases h⟩
        rw [if_neg c1]
        by_cases c2 : (rd_T24 l (i : Int)).f0 > 1000
        · rw [if_pos c2]; exact ⟨false, rfl, fun h => by cases h⟩
        rw [if_neg c2]
        by_cases c3 : (rd_T24 l (i : Int)).f1 < -1000
        · rw [if_pos c3]; exact ⟨false, rfl, fun h => by cases h⟩
        rw [if_neg c3]
        by_cases c4 : (rd_T24 l (i : Int)).f1 > 1000
        · rw [if_pos c4]; exact ⟨false, rfl, fun h => by cases h⟩
        rw [if_neg c4, w64 (by omega), show (i : Int) + 1 = ((i + 1 : Nat) : Int) by omega]
        refine small_l l hlen d k (i + 1) (by omega) (by omega) (fun j hj' => ?_) (by omega) (by omega)
        by_cases hji : j < i
        · exact hj j hji
        · obtain rfl : j = i := by omega
          omega
    · rw [if_neg (by omega)]
      exact hend (.inl (by omega)) _ rfl
theorem small_f (l : List S24) (hlen : l.length ≤ 100000000000000) (k : Nat) (hk : 300 ≤ k) : ∃ r, hanaperlaw27_small.f k l = some r ∧ (r = true → Sm l) :=
  small_l l hlen 101 k 0 (by omega) (by omega) (fun j hj => by omega) (by omega) (by omega)
/-! of -/
theorem of_l (l : List S24) (hlen : l.length ≤ 100000) : ∀ d k i, l.length = i + d → d < k → hanaperlaw27_of.l0 k l (ofZ (l.take i)) (i : Int) = some (ofZ l)
  | 0, k, i, hd, hk => by
    obtain ⟨k, rfl⟩ : ∃ m, k = m + 1 := ⟨k - 1, by omega⟩
    simp only [hanaperlaw27_of.l0]
    rw [if_neg (by omega), List.take_of_length_le (by omega)]
  | d + 1, k, i, hd, hk => by
    obtain ⟨k, rfl⟩ : ∃ m, k = m + 1 := ⟨k - 1, by omega⟩
    simp only [hanaperlaw27_of.l0]
    rw [if_pos (by omega), if_pos (by omega), if_pos (by rw [ofZ_len, List.length_take]; omega), w64 (by omega), show (i : Int) + 1 = ((i + 1 : Nat) : Int) by omega]
    have e : ofZ (l.take i) ++ [(⟨(rd_T24 l (i : Int)).f0, (rd_T24 l (i : Int)).f1⟩ : CX)] = ofZ (l.take (i + 1)) := (snocP toZ (by omega)).symm
    rw [e]
    exact of_l l hlen d k (i + 1) (by omega) (by omega)
theorem of_f (l : List S24) (hlen : l.length ≤ 100000) (k : Nat) (hk : l.length < k) : hanaperlaw27_of.f k l = some (ofZ l) := of_l l hlen l.length k 0 (by omega) hk
/-! Mirror -/
def mirP (p : S24) : S24 := ⟨p.f0, -p.f1⟩
theorem mir_l (l : List S24) {B : Nat} (h : Pb B l) (hB : B ≤ 1000000000) : ∀ d k i, l.length = i + d → d < k → hanaperref27_Mirror.l0 k l ((l.take i).map mirP) (i : Int) = some (l.map mirP)
  | 0, k, i, hd, hk => by
    obtain ⟨k, rfl⟩ : ∃ m, k = m + 1 := ⟨k - 1, by omega⟩
    simp only [hanaperref27_Mirror.l0]
    rw [if_neg (by omega), List.take_of_length_le (by omega)]
  | d + 1, k, i, hd, hk => by
    have hl := h.1
    obtain ⟨k, rfl⟩ : ∃ m, k = m + 1 := ⟨k - 1, by omega⟩
    have hx := h.2 _ (rd_in (l := l) (i := i) (by omega))
    simp only [hanaperref27_Mirror.l0]
    rw [if_pos (by omega), if_pos (by omega), if_pos (by rw [List.length_map, List.length_take]; omega), w64 (x := (i : Int) + 1) (by omega), w64 (by omega), show (i : Int) + 1 = ((i + 1 : Nat) : Int) by omega]
    have e : (l.take i).map mirP ++ [(⟨(rd_T24 l (i : Int)).f0, -(rd_T24 l (i : Int)).f1⟩ : S24)] = (l.take (i + 1)).map mirP := (snocP mirP (by omega)).symm
    rw [e]
    exact mir_l l h hB d k (i + 1) (by omega) (by omega)
theorem mir_f (l : List S24) {B : Nat} (h : Pb B l) (hB : B ≤ 1000000000) (k : Nat) (hk : 60 < k) : hanaperref27_Mirror.f k l = some (l.map mirP) := mir_l l h hB l.length k 0 (by omega) (by have := h.1; omega)
theorem mir_Z (l : List S24) : ofZ (l.map mirP) = (ofZ l).map conjz := by
  unfold ofZ; rw [List.map_map, List.map_map]; rfl
/-! Shift -/
def shP (a b : Int) (p : S24) : S24 := ⟨p.f0 + a, p.f1 + b⟩
theorem sh_l (l : List S24) {B : Nat} (h : Pb B l) (hB : B ≤ 1000000000) (a b : Int) (ha : a.natAbs ≤ 1000000000) (hb : b.natAbs ≤ 1000000000) : ∀ d k i, l.length = i + d → d < k → hanaperref27_Shift.l0 k l ((l.take i).map (shP a b)) (i : Int) a b = some (l.map (shP a b))
  | 0, k, i, hd, hk => by
    obtain ⟨k, rfl⟩ : ∃ m, k = m + 1 := ⟨k - 1, by omega⟩
    simp only [hanaperref27_Shift.l0]
    rw [if_neg (by omega), List.take_of_length_le (by omega)]
  | d + 1, k, i, hd, hk => by
    have hl := h.1
    obtain ⟨k, rfl⟩ : ∃ m, k = m + 1 := ⟨k - 1, by omega⟩
    have hx := h.2 _ (rd_in (l := l) (i := i) (by omega))
    simp only [hanaperref27_Shift.l0]
    rw [if_pos (by omega), if_pos (by omega), if_pos (by rw [List.length_map, List.length_take]; omega), w64 (x := (i : Int) + 1) (by omega), w64 (by omega), w64 (by omega), show (i : Int) + 1 = ((i + 1 : Nat) : Int) by omega]
    have e : (l.take i).map (shP a b) ++ [(⟨(rd_T24 l (i : Int)).f0 + a, (rd_T24 l (i : Int)).f1 + b⟩ : S24)] = (l.take (i + 1)).map (shP a b) := (snocP (shP a b) (by omega)).symm
    rw [e]
    exact sh_l l h hB a b ha hb d k (i + 1) (by omega) (by omega)
theorem sh_f (l : List S24) {B : Nat} (h : Pb B l) (hB : B ≤ 1000000000) (a b : Int) (ha : a.natAbs ≤ 1000000000) (hb : b.natAbs ≤ 1000000000) (k : Nat) (hk : 60 < k) : hanaperref27_Shift.f k l a b = some (l.map (shP a b)) := sh_l l h hB a b ha hb l.length k 0 (by omega) (by have := h.1; omega)
theorem sh_Z (l : List S24) (a b : Int) : ofZ (l.map (shP a b)) = (ofZ l).map (fun z => addz z ⟨a, b⟩) := by
  unfold ofZ; rw [List.map_map, List.map_map]; rfl
/-! Turn -/
def tnP : Nat → S24 → S24
  | 0, p => p
  | n + 1, p => tnP n ⟨-p.f1, p.f0⟩
theorem turned_l : ∀ d k i a b n, n = i + d → d < k → n ≤ 4 → a.natAbs ≤ 1000000000 → b.natAbs ≤ 1000000000 → hanaperref27_turned.l0 k ((n : Nat) : Int) (i : Nat) a b = some ((tnP d ⟨a, b⟩).f0, (tnP d ⟨a, b⟩).f1)
  | 0, k, i, a, b, n, hd, hk, hn, ha, hb => by
    obtain ⟨k, rfl⟩ : ∃ m, k = m + 1 := ⟨k - 1, by omega⟩
    simp only [hanaperref27_turned.l0]
    rw [if_neg (by omega)]
    rfl
  | d + 1, k, i, a, b, n, hd, hk, hn, ha, hb => by
    obtain ⟨k, rfl⟩ : ∃ m, k = m + 1 := ⟨k - 1, by omega⟩
    simp only [hanaperref27_turned.l0]
    rw [if_pos (by omega), w64 (by omega), w64 (by omega), show (i : Int) + 1 = ((i + 1 : Nat) : Int) by omega, turned_l d k (i + 1) (-b) a n (by omega) (by omega) hn (by omega) ha]
    rfl
theorem turned_f (k n : Nat) (a b : Int) (hn : n ≤ 4) (hk : 5 ≤ k) (ha : a.natAbs ≤ 1000000000) (hb : b.natAbs ≤ 1000000000) : hanaperref27_turned.f k a b (n : Int) = some ((tnP n ⟨a, b⟩).f0, (tnP n ⟨a, b⟩).f1) :=
  turned_l n k 0 a b n (by omega) (by omega) hn ha hb
theorem mod4 (k : Int) : Int.tmod (wrap64 ((Int.tmod k 4) + 4)) 4 = (((k % 4).toNat : Nat) : Int) := by
  have h1 := Int.tmod_lt_of_pos k (show (0 : Int) < 4 by omega)
  have h2 := Int.lt_tmod_of_pos k (show (0 : Int) < 4 by omega)
  have h3 : wrap64 (Int.tmod k 4 + 4) = Int.tmod k 4 + 4 := by unfold wrap64; omega
  rw [h3, Int.tmod_eq_emod_of_nonneg (by omega)]
  have h4 := Int.tmod_eq_emod (a := k) (b := 4)
  split at h4 <;> simp at h4 <;> omega
theorem tn_l (l : List S24) {B : Nat} (h : Pb B l) (hB : B ≤ 1000000000) (x : Int) : ∀ d k i, l.length = i + d → d + 5 < k → hanaperref27_Turn.l0 k l x ((l.take i).map (tnP (x % 4).toNat)) (i : Int) = some (l.map (tnP (x % 4).toNat))
  | 0, k, i, hd, hk => by
    obtain ⟨k, rfl⟩ : ∃ m, k = m + 1 := ⟨k - 1, by omega⟩
    simp only [hanaperref27_Turn.l0]
    rw [if_neg (by omega), List.take_of_length_le (by omega)]
  | d + 1, k, i, hd, hk => by
    have hl := h.1
    obtain ⟨k, rfl⟩ : ∃ m, k = m + 1 := ⟨k - 1, by omega⟩
    have hx := h.2 _ (rd_in (l := l) (i := i) (by omega))
    simp only [hanaperref27_Turn.l0]
    rw [if_pos (by omega), if_pos (by omega), mod4, turned_f k _ _ _ (by omega) (by omega) (by omega) (by omega), Option.bind_some, if_pos (by rw [List.length_map, List.length_take]; omega), w64 (x := (i : Int) + 1) (by omega), show (i : Int) + 1 = ((i + 1 : Nat) : Int) by omega]
    have e : (l.take i).map (tnP (x % 4).toNat) ++ [tnP (x % 4).toNat (rd_T24 l (i : Int))] = (l.take (i + 1)).map (tnP (x % 4).toNat) := (snocP _ (by omega)).symm
    have e2 : ∀ p : S24, (⟨p.f0, p.f1⟩ : S24) = p := fun p => rfl
    simp only [e2]
    rw [e]
    exact tn_l l h hB x d k (i + 1) (by omega) (by omega)
theorem tn_f (l : List S24) {B : Nat} (h : Pb B l) (hB : B ≤ 1000000000) (x : Int) (k : Nat) (hk : 70 < k) : hanaperref27_Turn.f k l x = some (l.map (tnP (x % 4).toNat)) := tn_l l h hB x l.length k 0 (by omega) (by have := h.1; omega)
theorem tn_mul : ∀ n p, toZ (tnP n p) = mulz (toZ p) (qn n)
  | 0, p => by unfold tnP qn mulz; simp
  | n + 1, p => by
    unfold tnP qn
    rw [tn_mul n]
    unfold mulz
    simp only [CX.mk.injEq]
    constructor <;> simp [Int.neg_mul, Int.mul_neg] <;> omega
theorem tn_Z (l : List S24) (n : Nat) : ofZ (l.map (tnP n)) = (ofZ l).map (fun z => mulz z (qn n)) := by
  unfold ofZ; rw [List.map_map, List.map_map]
  exact List.map_congr_left fun p _ => tn_mul n p
end Go.Proofs.Ytdpcfamgmicboad.PStampN
