import Derived.Test.YtdpcfamgmicboacDueExtOf
import Derived.Test.YtdpcfamgmicboacDueFind
import Derived.Test.YtdpcfamgmicboacPDueOfx2
import Derived.Test.YtdpcfamgmicboacPDueOfx3
import Derived.Test.YtdpcfamgmicboacPDueOfx4
import Derived.Test.YtdpcfamgmicboacPDueOfx5
import Derived.Test.YtdpcfamgmicboacPDueOfx6
import Derived.Test.YtdpcfamgmicboacPDueOfx7
import Derived.Test.YtdpcfamgmicboacPDueOfx8
namespace Go.Proofs.Ytdpcfamgmicboac.PDueOf
open Go.RowKit Go.Proofs.YtdpcfamgmicboacW.PrintWords Go.Proofs.YtdpcfamgmicboacW.PrintLast Go.Proofs.YtdpcfamgmicboacW.PrintMore
set_option linter.unusedSimpArgs false
set_option linter.unusedVariables false
theorem w64 {n : Int} (h1 : -9223372036854775808 ≤ n) (h2 : n ≤ 9223372036854775807) : wrap64 n = n := by unfold wrap64; omega
def aft (a b : Int) : Int × Bool := if a < 0 then (0, false) else if a > 1099511627776 then (0, false) else if b < 0 then (0, false) else if b > 1048576 then (0, false) else if a + b > 1099511627776 then (0, false) else (a + b, true)
theorem sAfter (a b : Int) : span_After.f a b = some (aft a b) := by
  unfold span_After.f aft
  by_cases h1 : a < 0; · rw [if_pos h1, if_pos h1]
  by_cases h2 : a > 1099511627776; · rw [if_neg h1, if_neg h1, if_pos h2, if_pos h2]
  by_cases h3 : b < 0; · rw [if_neg h1, if_neg h1, if_neg h2, if_neg h2, if_pos h3, if_pos h3]
  by_cases h4 : b > 1048576; · rw [if_neg h1, if_neg h1, if_neg h2, if_neg h2, if_neg h3, if_neg h3, if_pos h4, if_pos h4]
  rw [if_neg h1, if_neg h1, if_neg h2, if_neg h2, if_neg h3, if_neg h3, if_neg h4, if_neg h4, w64 (n := 1099511627776 - a) (by omega) (by omega), w64 (n := a + b) (by omega) (by omega)]
  by_cases h5 : a + b > 1099511627776
  · rw [if_pos h5, if_pos (by omega)]
  · rw [if_neg h5, if_neg (by omega)]
theorem qAfter (a b : Int) : Q.span_After.f a b = some (aft a b) := sAfter a b
theorem rAfter (a b : Int) : hanaperref15_After.f a b = some (aft a b) := by
  unfold hanaperref15_After.f aft
  by_cases h1 : a < 0; · rw [if_pos h1, if_pos h1]
  by_cases h2 : a > 1099511627776; · rw [if_neg h1, if_neg h1, if_pos h2, if_pos h2]
  by_cases h3 : b < 0; · rw [if_neg h1, if_neg h1, if_neg h2, if_neg h2, if_pos h3, if_pos h3]
  by_cases h4 : b > 1048576; · rw [if_neg h1, if_neg h1, if_neg h2, if_neg h2, if_neg h3, if_neg h3, if_pos h4, if_pos h4]
  rw [if_neg h1, if_neg h1, if_neg h2, if_neg h2, if_neg h3, if_neg h3, if_neg h4, if_neg h4, w64 (n := a + b) (by omega) (by omega)]
  by_cases h5 : a + b > 1099511627776
  · rw [if_pos h5, if_pos h5]
  · rw [if_neg h5, if_neg h5]

/-! what the milestones say of a name -/
def fnd (nm : ByteArray) : List S33 → Option Int
  | [] => none
  | x :: xs => if x.f0.toList = nm.toList then some x.f1 else fnd nm xs
def fndB (nm : ByteArray) (l : List S33) : Int × Bool := match fnd nm l with | none => (0, false) | some t => (t, true)
theorem ix_fnd (nm : ByteArray) : ∀ (l : List S33) (i : Nat), (ix (fun x : S33 => x.f0.toList == nm.toList) l i = -1 ∧ fnd nm l = none) ∨ ∃ j, j < l.length ∧ ix (fun x : S33 => x.f0.toList == nm.toList) l i = (i + j : Nat) ∧ fnd nm l = some (l.getD j z33).f1
  | [], i => .inl ⟨rfl, rfl⟩
  | x :: xs, i => by
    unfold ix fnd
    by_cases h : x.f0.toList = nm.toList
    · rw [if_pos (beq_iff_eq.2 h), if_pos h]
      exact .inr ⟨0, by simp, rfl, rfl⟩
    · rw [if_neg (fun g => h (beq_iff_eq.1 g)), if_neg h]
      rcases ix_fnd nm xs (i + 1) with ⟨h1, h2⟩ | ⟨j, h0, h1, h2⟩
      · exact .inl ⟨h1, h2⟩
      · exact .inr ⟨j + 1, by simp; omega, by rw [h1]; omega, by rw [h2]; rfl⟩
theorem at_f (nm : ByteArray) (l : List S33) : due_at.f nm l = some (fndB nm l) := by
  unfold due_at.f fndB
  rcases ix_fnd nm l 0 with ⟨h1, h2⟩ | ⟨j, h0, h1, h2⟩
  · rw [h1, h2, if_pos (by omega)]
  · rw [h1, h2, if_neg (by omega)]
    simp [rd_T33]

/-! least and greatest -/
def mnl : List Int → Int
  | [] => 0
  | x :: xs => xs.foldl mn x
def mxl : List Int → Int
  | [] => 0
  | x :: xs => xs.foldl mx x
theorem drop_rdI {l : List Int} {i : Nat} (h : i < l.length) : l.drop i = rd l (i : Int) :: l.drop (i + 1) := by
  rw [List.drop_eq_getElem_cons h]
  simp [rd, List.getElem?_eq_getElem h, List.getD_eq_getElem?_getD]
theorem drop_rd24 {l : List S24} {i : Nat} (h : i < l.length) : l.drop i = rd_T24 l (i : Int) :: l.drop (i + 1) := by
  rw [List.drop_eq_getElem_cons h]
  simp [rd_T24, List.getElem?_eq_getElem h, List.getD_eq_getElem?_getD]
theorem minQ (l : List Int) (hl : l.length ≤ 1000000) : ∀ n k i a, l.length - i = n → i ≤ l.length → n < k → Q.slices_Min_int_int.l0 k l a (i : Int) = some ((l.drop i).foldl mn a)
  | 0, k + 1, i, a, h, hi, hk => by
    unfold Q.slices_Min_int_int.l0
    rw [if_neg (by omega), List.drop_of_length_le (by omega)]; rfl
  | n + 1, k + 1, i, a, h, hi, hk => by
    unfold Q.slices_Min_int_int.l0
    rw [if_pos (by omega), if_pos (by omega), w64 (by omega) (by omega), drop_rdI (show i < l.length by omega)]
    exact minQ l hl n k (i + 1) _ (by omega) (by omega) (by omega)
theorem maxQ (l : List Int) (hl : l.length ≤ 1000000) : ∀ n k i a, l.length - i = n → i ≤ l.length → n < k → Q.slices_Max_int_int.l0 k l a (i : Int) = some ((l.drop i).foldl mx a)
  | 0, k + 1, i, a, h, hi, hk => by
    unfold Q.slices_Max_int_int.l0
    rw [if_neg (by omega), List.drop_of_length_le (by omega)]; rfl
  | n + 1, k + 1, i, a, h, hi, hk => by
    unfold Q.slices_Max_int_int.l0
    rw [if_pos (by omega), if_pos (by omega), w64 (by omega) (by omega), drop_rdI (show i < l.length by omega)]
    exact maxQ l hl n k (i + 1) _ (by omega) (by omega) (by omega)
theorem min_f (l : List Int) (hl : l.length ≤ 1000000) (h0 : l ≠ []) (k : Nat) (hk : l.length < k) : Q.slices_Min_int_int.f k l = some (mnl l) := by
  cases l with
  | nil => exact absurd rfl h0
  | cons x xs =>
    unfold Q.slices_Min_int_int.f
    rw [if_neg (by simp only [List.length_cons]; omega), if_pos (by simp only [List.length_cons]; omega)]
    exact minQ (x :: xs) hl xs.length k 1 x (by simp) (by simp) (by simp at hk; omega)
theorem max_f (l : List Int) (hl : l.length ≤ 1000000) (h0 : l ≠ []) (k : Nat) (hk : l.length < k) : Q.slices_Max_int_int.f k l = some (mxl l) := by
  cases l with
  | nil => exact absurd rfl h0
  | cons x xs =>
    unfold Q.slices_Max_int_int.f
    rw [if_neg (by simp only [List.length_cons]; omega), if_pos (by simp only [List.length_cons]; omega)]
    exact maxQ (x :: xs) hl xs.length k 1 x (by simp) (by simp) (by simp at hk; omega)

/-! what a condition says -/
def knw (l : List (Int × Bool)) : List Int := (l.filter (·.2)).map (·.1)
def comb (op : Int) (l : List (Int × Bool)) : Int × Bool :=
  if knw l = [] then (0, false) else if op = 2 then (mnl (knw l), true) else if op = 3 then (if (knw l).length = l.length then (mxl (knw l), true) else (0, false)) else (0, false)
mutual
def wh (m : List S33) : S24 → Int × Bool
  | ⟨op, d, n, kids⟩ => if op = 1 then (if (fndB n m).2 = true then aft (fndB n m).1 d else (0, false)) else comb op (ks m kids)
def ks (m : List S33) : List S24 → List (Int × Bool)
  | [] => []
  | x :: xs => wh m x :: ks m xs
end
theorem ks_map (m : List S33) : ∀ l, ks m l = l.map (wh m)
  | [] => by simp [ks]
  | x :: xs => by simp [ks, ks_map m xs]
theorem wh_eq (m : List S33) (op d : Int) (n : ByteArray) (kids : List S24) : wh m ⟨op, d, n, kids⟩ = if op = 1 then (if (fndB n m).2 = true then aft (fndB n m).1 d else (0, false)) else comb op (kids.map (wh m)) := by
  rw [← ks_map]; simp only [wh]

theorem knw_len (l : List (Int × Bool)) : (knw l).length ≤ l.length := by simp [knw]; exact List.length_filter_le _ _
theorem When_q (kf : List S24 → List S33 → Option (List Int)) (k : Nat) (a b : Int) (c : ByteArray) (l : List S24) (m : List S33) (hl : l.length ≤ 60) (hk : 60 < k) (h : kf l m = some (knw (l.map (wh m)))) :
    Q.due_When.f kf k a b c l m = some (wh m ⟨a, b, c, l⟩) := by
  rw [wh_eq]
  unfold Q.due_When.f
  by_cases h1 : a = 1
  · rw [if_pos h1, if_pos h1, at_f, Option.bind_some]
    by_cases h2 : (fndB c m).2 = true
    · rw [if_pos h2, if_pos h2, qAfter, Option.bind_some]
    · rw [if_neg h2, if_neg h2]
  · rw [if_neg h1, if_neg h1, h, Option.bind_some]
    have hle := knw_len (l.map (wh m))
    have hll : (l.map (wh m)).length = l.length := by simp
    unfold comb
    generalize hK : knw (l.map (wh m)) = K at *
    by_cases h2 : K = []
    · rw [if_pos (by rw [h2]; rfl), if_pos h2]
    · have h2' : 0 < K.length := List.length_pos_iff.2 h2
      rw [if_neg (by omega), if_neg h2]
      by_cases h3 : a = 2
      · rw [if_pos h3, if_pos h3, min_f K (by omega) h2 k (by omega), Option.bind_some]
      · rw [if_neg h3, if_neg h3]
        by_cases h4 : a = 3
        · rw [if_pos h4, if_pos h4, hll]
          by_cases h5 : K.length = l.length
          · rw [if_pos (by omega), if_pos h5, max_f K (by omega) h2 k (by omega), Option.bind_some]
          · rw [if_neg (by omega), if_neg h5]
        · rw [if_neg h4, if_neg h4]
theorem known_q (wf : Int → Int → ByteArray → List S24 → List S33 → Option (Int × Bool)) (l : List S24) (m : List S33) (hl : l.length ≤ 60) (h : ∀ x ∈ l, wf x.f0 x.f1 x.f2 x.f3 m = some (wh m x)) :
    ∀ n k i acc, l.length - i = n → i ≤ l.length → n < k → acc.length ≤ i → Q.due_known.l0 wf k m acc l (l.length : Int) (i : Int) = some (acc ++ knw ((l.drop i).map (wh m)))
  | 0, k + 1, i, acc, hn, hi, hk, ha => by
    unfold Q.due_known.l0
    rw [if_neg (by omega), List.drop_of_length_le (by omega)]
    simp [knw]
  | n + 1, k + 1, i, acc, hn, hi, hk, ha => by
    have hlt : i < l.length := by omega
    have hd := drop_rd24 hlt
    have hm : rd_T24 l (i : Int) ∈ l := List.drop_subset i l (by rw [hd]; exact List.mem_cons_self)
    unfold Q.due_known.l0
    rw [if_pos (by omega), if_pos (by omega), if_pos (by omega), h _ hm, Option.bind_some, hd, w64 (by omega) (by omega)]
    by_cases hb : (wh m (rd_T24 l (i : Int))).2 = true
    · rw [if_pos hb, if_pos (by omega)]
      have := known_q wf l m hl h n k (i + 1) (acc ++ [(wh m (rd_T24 l (i : Int))).1]) (by omega) (by omega) (by omega) (by simp; omega)
      rw [show ((i : Int) + 1) = ((i + 1 : Nat) : Int) by omega, this]
      simp [knw, List.filter_cons, hb]
    · rw [if_neg hb]
      have := known_q wf l m hl h n k (i + 1) acc (by omega) (by omega) (by omega) (by omega)
      rw [show ((i : Int) + 1) = ((i + 1 : Nat) : Int) by omega, this]
      simp [knw, List.filter_cons, hb]
/-- A condition of so many levels at most, none with more than 60 kids. -/
def lim : Nat → S24 → Prop
  | 0, _ => False
  | d + 1, x => x.f3.length ≤ 60 ∧ ∀ y ∈ x.f3, lim d y
theorem lim_up : ∀ d x, lim d x → lim (d + 1) x
  | 0, x, h => h.elim
  | d + 1, x, h => ⟨h.1, fun y hy => lim_up d y (h.2 y hy)⟩
theorem W_q (m : List S33) : ∀ d e x, lim d x → d + 61 < e → Q.W e x.f0 x.f1 x.f2 x.f3 m = some (wh m x)
  | 0, e, x, h, he => h.elim
  | d + 1, e + 1, x, h, he => by
    have hk : Q.due_known.f (Q.W e) e x.f3 m = some (knw (x.f3.map (wh m))) := by
      have := known_q (Q.W e) x.f3 m h.1 (fun y hy => W_q m d e y (h.2 y hy) (by omega)) x.f3.length e 0 [] (by omega) (by omega) (by have := h.1; omega) (by simp)
      simpa [Q.due_known.f] using this
    have h2 := When_q _ e x.f0 x.f1 x.f2 x.f3 m h.1 (by omega) hk
    cases x; exact h2
theorem known_f (m : List S33) (l : List S24) (hl : l.length ≤ 60) (h : ∀ x ∈ l, lim 100 x) : due_known.f l m = some (knw (l.map (wh m))) := by
  have := known_q (Q.W 200) l m hl (fun y hy => W_q m 100 200 y (h y hy) (by omega)) l.length 200 0 [] (by omega) (by omega) (by omega) (by simp)
  simpa [due_known.f, Q.due_known.f] using this
theorem min_same : ∀ k l a i, slices_Min_int_int.l0 k l a i = Q.slices_Min_int_int.l0 k l a i
  | 0, _, _, _ => rfl
  | k + 1, l, a, i => by unfold slices_Min_int_int.l0 Q.slices_Min_int_int.l0; simp only [min_same k]
theorem max_same : ∀ k l a i, slices_Max_int_int.l0 k l a i = Q.slices_Max_int_int.l0 k l a i
  | 0, _, _, _ => rfl
  | k + 1, l, a, i => by unfold slices_Max_int_int.l0 Q.slices_Max_int_int.l0; simp only [max_same k]
theorem When_same (k : Nat) (a b : Int) (c : ByteArray) (l : List S24) (m : List S33) : due_When.f k a b c l m = Q.due_When.f due_known.f k a b c l m := by
  unfold due_When.f Q.due_When.f slices_Min_int_int.f slices_Max_int_int.f Q.slices_Min_int_int.f Q.slices_Max_int_int.f
  simp only [min_same, max_same]; rfl
theorem When_f (m : List S33) (x : S24) (h : lim 100 x) (k : Nat) (hk : 60 < k) : due_When.f k x.f0 x.f1 x.f2 x.f3 m = some (wh m x) := by
  rw [When_same]
  have h2 := When_q _ k x.f0 x.f1 x.f2 x.f3 m h.1 hk (known_f m _ h.1 (fun y hy => lim_up 99 y (h.2 y hy)))
  cases x; exact h2
theorem fndB_one (n : ByteArray) (t : Int) : fndB n [⟨n, t⟩] = (t, true) := by simp [fndB, fnd]
theorem live_f (k : Nat) (hk : 60 < k) : hanaperlaw19_live.f k = some true := by
  have h : ∀ n : ByteArray, due_When.f k 1 730 n [] [⟨n, 10⟩] = some (740, true) := fun n => by
    have h := When_f [⟨n, 10⟩] ⟨1, 730, n, []⟩ ⟨by simp, by simp⟩ k hk
    rw [wh_eq, if_pos rfl, fndB_one, if_pos rfl] at h
    exact h
  unfold hanaperlaw19_live.f
  rw [h, Option.bind_some, if_pos rfl]
theorem Ev.at {α : Type} {g : Nat → Option α} {r : α} (h : ∀ k, 60 < k → g k = some r) : Ev g r := ⟨61, fun k hk => h k (by omega)⟩
/-! the document's answer -/
theorem ref_at (m : List S33) (hm : m.length ≤ 1000000) (op d : Int) (n : ByteArray) (l : List S24) : ∀ j i, m.length - i = j → i ≤ m.length → Ev (fun k => hanaperref19_When.l0 k m (i : Int) op d n l) (if (fndB n (m.drop i)).2 = true then aft (fndB n (m.drop i)).1 d else (0, false))
  | 0, i, h, hi => by
    refine ⟨1, fun k hk => ?_⟩
    obtain ⟨k, rfl⟩ : ∃ q, k = q + 1 := ⟨k - 1, by omega⟩
    show hanaperref19_When.l0 (k + 1) m (i : Int) op d n l = _
    unfold hanaperref19_When.l0
    rw [if_neg (by omega), List.drop_of_length_le (by omega)]; rfl
  | j + 1, i, h, hi => by
    have hlt : i < m.length := by omega
    have hd := drop_rd hlt
    obtain ⟨K, ih⟩ := ref_at m hm op d n l j (i + 1) (by omega) (by omega)
    refine ⟨K + 1, fun k hk => ?_⟩
    obtain ⟨k, rfl⟩ : ∃ q, k = q + 1 := ⟨k - 1, by omega⟩
    show hanaperref19_When.l0 (k + 1) m (i : Int) op d n l = _
    unfold hanaperref19_When.l0
    rw [if_pos (by omega), if_pos (by omega), hd]
    by_cases hn : (rd_T33 m (i : Int)).f0.toList = n.toList
    · rw [if_pos hn, rAfter, Option.bind_some]
      have : fndB n (rd_T33 m (i : Int) :: m.drop (i + 1)) = ((rd_T33 m (i : Int)).f1, true) := by unfold fndB fnd; rw [if_pos hn]
      rw [this, if_pos rfl]
    · rw [if_neg hn, w64 (by omega) (by omega), show ((i : Int) + 1) = ((i + 1 : Nat) : Int) by omega]
      have : fndB n (rd_T33 m (i : Int) :: m.drop (i + 1)) = fndB n (m.drop (i + 1)) := by unfold fndB; conv => lhs; unfold fnd; rw [if_neg hn]
      rw [this]
      exact ih k (by omega)
/-- The document's walk over the kids. -/
def rc (op : Int) : Int → Bool → List (Int × Bool) → Int × Bool
  | b, k, [] => (b, k)
  | b, k, x :: xs =>
    if op = 2 then (if x.2 = true then (if k = true then (if x.1 < b then rc op x.1 true xs else rc op b k xs) else rc op x.1 true xs) else rc op b k xs)
    else if op = 3 then (if x.2 = true then (if k = true then (if x.1 > b then rc op x.1 true xs else rc op b k xs) else rc op x.1 true xs) else (0, false))
    else rc op b k xs
theorem rc2 : ∀ (l : List (Int × Bool)) (b : Int), rc 2 b true l = ((knw l).foldl mn b, true)
  | [], b => rfl
  | (t, false) :: xs, b => by simp [rc, rc2 xs, knw]
  | (t, true) :: xs, b => by
    have : knw ((t, true) :: xs) = t :: knw xs := rfl
    rw [this, List.foldl_cons]
    unfold rc
    rw [if_pos rfl, if_pos rfl, if_pos rfl, rc2 xs, rc2 xs]
    unfold mn
    split <;> rfl
theorem rc20 : ∀ (l : List (Int × Bool)), rc 2 0 false l = comb 2 l
  | [] => rfl
  | (t, false) :: xs => by
    have h1 : knw ((t, false) :: xs) = knw xs := rfl
    have h2 : rc 2 0 false ((t, false) :: xs) = rc 2 0 false xs := by simp [rc]
    rw [h2, rc20 xs]; unfold comb; rw [h1]; simp
  | (t, true) :: xs => by
    have h1 : knw ((t, true) :: xs) = t :: knw xs := rfl
    have h2 : rc 2 0 false ((t, true) :: xs) = rc 2 t true xs := by simp [rc]
    rw [h2, rc2]; unfold comb; rw [h1]; simp [mnl]
theorem rc3 : ∀ (l : List (Int × Bool)) (b : Int), rc 3 b true l = if (knw l).length = l.length then ((knw l).foldl mx b, true) else (0, false)
  | [], b => rfl
  | (t, false) :: xs, b => by
    have h1 : knw ((t, false) :: xs) = knw xs := rfl
    have := knw_len xs
    rw [h1, if_neg (by simp; omega)]; simp [rc]
  | (t, true) :: xs, b => by
    have h1 : knw ((t, true) :: xs) = t :: knw xs := rfl
    rw [h1, List.foldl_cons]
    unfold rc
    rw [if_neg (by decide), if_pos rfl, if_pos rfl, if_pos rfl, rc3 xs, rc3 xs]
    unfold mx
    simp only [List.length_cons, Nat.add_right_cancel_iff, gt_iff_lt]
    split <;> rfl
theorem rc30 (l : List (Int × Bool)) : rc 3 0 false l = comb 3 l := by
  cases l with
  | nil => rfl
  | cons x xs =>
    obtain ⟨t, b⟩ := x
    cases b with
    | false =>
      have h1 : knw ((t, false) :: xs) = knw xs := rfl
      have := knw_len xs
      have h2 : rc 3 0 false ((t, false) :: xs) = (0, false) := by simp [rc]
      rw [h2]
      unfold comb
      rw [h1]
      by_cases h : knw xs = []
      · rw [if_pos h]
      · rw [if_neg h, if_neg (show ¬ (3 : Int) = 2 by decide), if_pos rfl, if_neg (by simp; omega)]
    | true =>
      have h1 : knw ((t, true) :: xs) = t :: knw xs := rfl
      have h2 : rc 3 0 false ((t, true) :: xs) = rc 3 t true xs := by simp [rc]
      rw [h2, rc3]; unfold comb; rw [h1]; simp [mxl]
theorem rcn (op : Int) (h2 : op ≠ 2) (h3 : op ≠ 3) : ∀ l : List (Int × Bool), rc op 0 false l = (0, false)
  | [] => rfl
  | x :: xs => by unfold rc; rw [if_neg h2, if_neg h3, rcn op h2 h3 xs]
theorem rc_comb (op : Int) (l : List (Int × Bool)) : rc op 0 false l = comb op l := by
  by_cases h2 : op = 2; · subst h2; exact rc20 l
  by_cases h3 : op = 3; · subst h3; exact rc30 l
  rw [rcn op h2 h3]; unfold comb; rw [if_neg h2, if_neg h3]; split <;> rfl
theorem j3_ev (m : List S33) (b : Int) (kn : Bool) (i : Int) (x : Int × Bool) (op d : Int) (n : ByteArray) (l : List S24) (xs : List (Int × Bool)) (h2 : op ≠ 2)
    (ih : ∀ b kn, Ev (fun k => hanaperref19_When.l1 k m b kn (wrap64 (i + 1)) op d n l) (rc op b kn xs)) : Ev (fun k => hanaperref19_When.j3 k m b kn i x.1 x.2 op d n l) (rc op b kn (x :: xs)) := by
  refine Ev.step (f := fun k => _) (fun k => by unfold hanaperref19_When.j3; rfl) ?_
  unfold rc
  rw [if_neg h2]
  by_cases h3 : op = 3
  · simp only [if_pos h3]
    by_cases hx : x.2 = true
    · simp only [if_pos hx]
      by_cases hk : kn = true
      · simp only [if_pos hk]
        by_cases hg : x.1 > b
        · simp only [if_pos hg]; exact ih _ _
        · simp only [if_neg hg]; exact ih _ _
      · simp only [if_neg hk]; exact ih _ _
    · simp only [if_neg hx]; exact Ev.now _
  · simp only [if_neg h3]; exact ih _ _
theorem j3_ev2 (m : List S33) (b : Int) (kn : Bool) (i : Int) (x : Int × Bool) (d : Int) (n : ByteArray) (l : List S24) (r : Int × Bool)
    (ih : Ev (fun k => hanaperref19_When.l1 k m b kn (wrap64 (i + 1)) 2 d n l) r) : Ev (fun k => hanaperref19_When.j3 k m b kn i x.1 x.2 2 d n l) r := by
  refine Ev.step (f := fun k => _) (fun k => by unfold hanaperref19_When.j3; rfl) ?_
  simp only [if_neg (show ¬ (2 : Int) = 3 by decide)]; exact ih
theorem j2_ev (m : List S33) (b : Int) (kn : Bool) (i : Int) (x : Int × Bool) (q : Bool) (op d : Int) (n : ByteArray) (l : List S24) (r : Int × Bool)
    (ih : Ev (fun k => if q = true then hanaperref19_When.j3 k m x.1 true i x.1 x.2 op d n l else hanaperref19_When.j3 k m b kn i x.1 x.2 op d n l) r) : Ev (fun k => hanaperref19_When.j2 k m b kn i x.1 x.2 q op d n l) r := by
  refine Ev.step (f := fun k => _) (fun k => by unfold hanaperref19_When.j2; rfl) ?_
  exact ih
theorem ref_kids (m : List S33) (op d : Int) (n : ByteArray) (l : List S24) (hl : l.length ≤ 60) (h : ∀ x ∈ l, Ev (fun k => hanaperref19_When.f k x.f0 x.f1 x.f2 x.f3 m) (wh m x)) :
    ∀ j i b kn, l.length - i = j → i ≤ l.length → Ev (fun k => hanaperref19_When.l1 k m b kn (i : Int) op d n l) (rc op b kn ((l.drop i).map (wh m)))
  | 0, i, b, kn, hj, hi => by
    refine Ev.step (f := fun k => _) (fun k => by unfold hanaperref19_When.l1; rfl) ?_
    simp only [if_neg (show ¬ (i : Int) < l.length by omega), List.drop_of_length_le (show l.length ≤ i by omega)]
    exact Ev.now _
  | j + 1, i, b, kn, hj, hi => by
    have hlt : i < l.length := by omega
    have hd := drop_rd24 hlt
    have hm : rd_T24 l (i : Int) ∈ l := List.drop_subset i l (by rw [hd]; exact List.mem_cons_self)
    have ih := fun b kn => ref_kids m op d n l hl h j (i + 1) b kn (by omega) (by omega)
    rw [show ((i + 1 : Nat) : Int) = wrap64 ((i : Int) + 1) by rw [w64 (by omega) (by omega)]; omega] at ih
    refine Ev.step (f := fun k => _) (fun k => by unfold hanaperref19_When.l1; rfl) ?_
    simp only [if_pos (show (i : Int) < l.length by omega), if_pos (show 0 ≤ (i : Int) by omega), hd, List.map_cons]
    refine Ev.bind (f := fun k (bt137 : Int × Bool) => _) (h _ hm) ?_
    generalize wh m (rd_T24 l (i : Int)) = x at *
    by_cases h2 : op = 2
    · subst h2
      simp only [if_pos (show (2 : Int) = 2 from rfl)]
      unfold rc
      rw [if_pos rfl]
      by_cases hx : x.2 = true
      · simp only [if_pos hx]
        by_cases hk : kn = true
        · simp only [if_pos hk]
          by_cases hg : x.1 < b
          · rw [if_pos hg]
            refine j2_ev m b kn i x _ 2 d n l _ ?_
            simp only [decide_eq_true hg, if_true]
            exact j3_ev2 _ _ _ _ _ _ _ _ _ (ih _ _)
          · rw [if_neg hg]
            refine j2_ev m b kn i x _ 2 d n l _ ?_
            simp only [decide_eq_false hg, Bool.false_eq_true, if_false]
            exact j3_ev2 _ _ _ _ _ _ _ _ _ (ih _ _)
        · simp only [if_neg hk]
          refine j2_ev m b kn i x _ 2 d n l _ ?_
          simp only [if_true]
          exact j3_ev2 _ _ _ _ _ _ _ _ _ (ih _ _)
      · simp only [if_neg hx]
        refine j2_ev m b kn i x _ 2 d n l _ ?_
        simp only [Bool.false_eq_true, if_false]
        exact j3_ev2 _ _ _ _ _ _ _ _ _ (ih _ _)
    · simp only [if_neg h2]
      refine j2_ev m b kn i x _ op d n l _ ?_
      simp only [Bool.false_eq_true, if_false]
      exact j3_ev m b kn i x op d n l _ h2 ih
theorem ref_When (m : List S33) (hm : m.length ≤ 1000000) : ∀ d x, lim d x → Ev (fun k => hanaperref19_When.f k x.f0 x.f1 x.f2 x.f3 m) (wh m x)
  | 0, x, h => h.elim
  | d + 1, ⟨op, dd, n, l⟩, h => by
    refine Ev.step (f := fun k => _) (fun k => by unfold hanaperref19_When.f; rfl) ?_
    rw [wh_eq]
    by_cases h1 : op = 1
    · simp only [if_pos h1]
      have := ref_at m hm op dd n l m.length 0 (by omega) (by omega)
      simpa using this
    · simp only [if_neg h1]
      have := ref_kids m op dd n l h.1 (fun y hy => ref_When m hm d y (h.2 y hy)) l.length 0 0 false (by omega) (by omega)
      rw [rc_comb] at this
      simpa using this
/-! the law's guard -/
theorem small_ok : ∀ (d : Nat) (x : S24) (a1 a2 : Int), d ≤ 30 → a1 ≤ 60 → -1 ≤ a2 → a2 ≤ d → ∃ v : Int, Ev (fun k => hanaperref17_small.f k x.f0 x.f1 x.f2 x.f3 a1 a2) v ∧ v ≤ 60 ∧ (0 ≤ v → lim d x)
  | d, ⟨op, dd, n, l⟩, a1, a2, h0, h1, h2, h3 => by
    have bad : Ev (fun k => hanaperref17_small.j0 k a1 a2 true op dd n l) (-1) := by
      refine Ev.step (f := fun k => _) (fun k => by unfold hanaperref17_small.j0; rfl) ?_
      simp only [if_true]; exact Ev.now _
    by_cases c1 : a1 < 1
    · refine ⟨-1, ?_, by omega, fun h => by omega⟩
      refine Ev.step (f := fun k => _) (fun k => by unfold hanaperref17_small.f; rfl) ?_
      simp only [if_pos c1]; exact bad
    by_cases c2 : a2 < 1
    · refine ⟨-1, ?_, by omega, fun h => by omega⟩
      refine Ev.step (f := fun k => _) (fun k => by unfold hanaperref17_small.f; rfl) ?_
      simp only [if_neg c1, if_pos c2]; exact bad
    by_cases c3 : (l.length : Int) > a1
    · refine ⟨-1, ?_, by omega, fun h => by omega⟩
      refine Ev.step (f := fun k => _) (fun k => by unfold hanaperref17_small.f; rfl) ?_
      simp only [if_neg c1, if_neg c2, if_pos c3]; exact bad
    by_cases c4 : (n.size : Int) > 100
    · refine ⟨-1, ?_, by omega, fun h => by omega⟩
      refine Ev.step (f := fun k => _) (fun k => by unfold hanaperref17_small.f; rfl) ?_
      simp only [if_neg c1, if_neg c2, if_neg c3, decide_eq_true c4]; exact bad
    match d, h3, h0 with
    | 0, h3, h0 => exact absurd h3 (by omega)
    | d + 1, h3, h0 =>
    have kids : ∀ (j i : Nat) (a : Int), l.length - i = j → i ≤ l.length → a ≤ 60 → ∃ v : Int, Ev (fun k => hanaperref17_small.l0 k a a2 (i : Int) op dd n l) v ∧ v ≤ 60 ∧ (0 ≤ v → ∀ y ∈ l.drop i, lim d y) := by
      intro j
      induction j with
      | zero =>
        intro i a hj hi ha
        refine ⟨a, ?_, ha, fun _ y hy => by rw [List.drop_of_length_le (by omega)] at hy; cases hy⟩
        refine Ev.step (f := fun k => _) (fun k => by unfold hanaperref17_small.l0; rfl) ?_
        simp only [if_neg (show ¬ (i : Int) < l.length by omega)]; exact Ev.now _
      | succ j ih =>
        intro i a hj hi ha
        have hlt : i < l.length := by omega
        have hd := drop_rd24 hlt
        by_cases c0 : a ≥ 0
        · obtain ⟨v, e1, b1, g1⟩ := small_ok d (rd_T24 l (i : Int)) a (a2 - 1) (by omega) ha (by omega) (by omega)
          obtain ⟨u, e2, b2, g2⟩ := ih (i + 1) v (by omega) (by omega) b1
          have hu : u < 0 ∨ 0 ≤ v := by
            by_cases hv : 0 ≤ v
            · exact .inr hv
            · left
              -- the walk ends at once
              by_cases hlt2 : i + 1 < l.length
              · obtain ⟨K, hK⟩ := e2
                have := hK (K + 1) (by omega)
                simp only [hanaperref17_small.l0, if_pos (show ((i + 1 : Nat) : Int) < l.length by omega), if_neg (show ¬ v ≥ 0 by omega)] at this
                have := Option.some.inj this; omega
              · obtain ⟨K, hK⟩ := e2
                have := hK (K + 1) (by omega)
                simp only [hanaperref17_small.l0, if_neg (show ¬ ((i + 1 : Nat) : Int) < l.length by omega)] at this
                have := Option.some.inj this; omega
          refine ⟨u, ?_, b2, fun hu2 y hy => ?_⟩
          · refine Ev.step (f := fun k => _) (fun k => by unfold hanaperref17_small.l0; rfl) ?_
            simp only [if_pos (show (i : Int) < l.length by omega), if_pos c0, if_pos (show 0 ≤ (i : Int) by omega), w64 (n := a2 - 1) (by omega) (by omega), w64 (n := (i : Int) + 1) (by omega) (by omega)]
            exact Ev.bind (f := fun k t => _) e1 e2
          · rw [hd] at hy
            rcases List.mem_cons.1 hy with rfl | hy
            · exact g1 (by omega)
            · exact g2 hu2 y hy
        · refine ⟨a, ?_, ha, fun h => absurd h c0⟩
          refine Ev.step (f := fun k => _) (fun k => by unfold hanaperref17_small.l0; rfl) ?_
          simp only [if_pos (show (i : Int) < l.length by omega), if_neg c0]; exact Ev.now _
    obtain ⟨v, e1, b1, g1⟩ := kids l.length 0 (a1 - 1) (by omega) (by omega) (by omega)
    refine ⟨v, ?_, b1, fun hv => ⟨by show l.length ≤ 60; omega, fun y hy => g1 hv y (by simpa using hy)⟩⟩
    refine Ev.step (f := fun k => _) (fun k => by unfold hanaperref17_small.f; rfl) ?_
    simp only [if_neg c1, if_neg c2, if_neg c3, decide_eq_false c4]
    refine Ev.step (f := fun k => _) (fun k => by unfold hanaperref17_small.j0; rfl) ?_
    simp only [Bool.false_eq_true, if_false, w64 (n := a1 - 1) (by omega) (by omega)]
    exact e1
theorem w01 : wrap64 (0 + 1) = 1 := by unfold wrap64; omega
theorem w12 : wrap64 (1 + 1) = 2 := by unfold wrap64; omega
theorem grow0 (n : Int) (h0 : 0 ≤ n) (h1 : n ≤ 1000000) : api_Mile_32.f [] n = some [] := by unfold api_Mile_32.f; rw [if_pos ⟨rfl, h0, h1⟩]
theorem concat2 (a b : List S33) (ha : a.length ≤ 50) (hb : b.length ≤ 50) : Ev (fun k => api_Mile_26.f k [a, b]) (a ++ b) := by
  unfold api_Mile_26.f
  simp only [List.length_cons, List.length_nil]
  have r0 : rd_L7 [a, b] 0 = a := rfl
  have r1 : rd_L7 [a, b] 1 = b := rfl
  refine Ev.step (f := fun k => _) (fun k => by unfold api_Mile_26.l0; rfl) ?_
  simp only [List.length_cons, List.length_nil, r0, if_pos (show (0 : Int) < ((0 + 1 + 1 : Nat) : Int) by decide), if_pos (show (0 : Int) ≤ 0 by decide), w64 (n := 0 + (a.length : Int)) (by omega) (by omega), if_neg (show ¬ 0 + (a.length : Int) < 0 by omega), w01]
  refine Ev.step (f := fun k => _) (fun k => by unfold api_Mile_26.l0; rfl) ?_
  simp only [List.length_cons, List.length_nil, r1, if_pos (show (1 : Int) < ((0 + 1 + 1 : Nat) : Int) by decide), if_pos (show (0 : Int) ≤ 1 by decide), w64 (n := 0 + (a.length : Int) + (b.length : Int)) (by omega) (by omega), if_neg (show ¬ 0 + (a.length : Int) + (b.length : Int) < 0 by omega), w12]
  refine Ev.step (f := fun k => _) (fun k => by unfold api_Mile_26.l0; rfl) ?_
  simp only [List.length_cons, List.length_nil, if_neg (show ¬ (2 : Int) < ((0 + 1 + 1 : Nat) : Int) by decide)]
  simp only [grow0 (0 + (a.length : Int) + (b.length : Int)) (by omega) (by omega), Option.bind_some]
  refine Ev.step (f := fun k => _) (fun k => by unfold api_Mile_26.l1; rfl) ?_
  simp only [List.length_cons, List.length_nil, r0, if_pos (show (0 : Int) < ((0 + 1 + 1 : Nat) : Int) by decide), if_pos (show (0 : Int) ≤ 0 by decide), if_pos (show 0 + a.length < 5864062014805 by omega), w01, List.nil_append]
  refine Ev.step (f := fun k => _) (fun k => by unfold api_Mile_26.l1; rfl) ?_
  simp only [List.length_cons, List.length_nil, r1, if_pos (show (1 : Int) < ((0 + 1 + 1 : Nat) : Int) by decide), if_pos (show (0 : Int) ≤ 1 by decide), if_pos (show a.length + b.length < 5864062014805 by omega), w12]
  refine Ev.step (f := fun k => _) (fun k => by unfold api_Mile_26.l1; rfl) ?_
  simp only [List.length_cons, List.length_nil, if_neg (show ¬ (2 : Int) < ((0 + 1 + 1 : Nat) : Int) by decide)]
  exact Ev.now _
theorem same_l (l : List S33) (hl : l.length ≤ 1000000) : ∀ j i, l.length - i = j → i ≤ l.length → Ev (fun k => hanaperref19_SameMiles.l0 k l l (i : Int)) true
  | 0, i, hj, hi => by
    refine Ev.step (f := fun k => _) (fun k => by unfold hanaperref19_SameMiles.l0; rfl) ?_
    simp only [if_neg (show ¬ (i : Int) < l.length by omega)]
    exact Ev.now _
  | j + 1, i, hj, hi => by
    refine Ev.step (f := fun k => _) (fun k => by unfold hanaperref19_SameMiles.l0; rfl) ?_
    simp only [if_pos (show (i : Int) < l.length by omega), if_pos (show 0 ≤ (i : Int) by omega), beq_self_eq_true, Bool.not_true, Bool.or_false, Bool.false_eq_true, if_false, w64 (n := (i : Int) + 1) (by omega) (by omega)]
    exact same_l l hl j (i + 1) (by omega) (by omega)
theorem same_ev (l : List S33) (hl : l.length ≤ 1000000) : Ev (fun k => hanaperref19_SameMiles.f k l l) true := by
  unfold hanaperref19_SameMiles.f
  simp only [if_true]
  exact same_l l hl l.length 0 (by omega) (by omega)

theorem Small_l (l : List S49) : ∀ (j i : Nat), 40 - i = j → i ≤ 40 → ∃ b : Bool, Ev (fun k => hanaperref17_Small.l0 k l (i : Int)) b ∧ (b = true → l.length ≤ 20 ∧ ∀ x ∈ l.drop i, lim 100 x.f1) := by
  have up : ∀ x n d, lim d x → lim (d + n) x := fun x n => by
    induction n with
    | zero => exact fun d h => h
    | succ n ih => exact fun d h => lim_up _ _ (ih d h)
  have done : ∀ i : Nat, Ev (fun k => hanaperref17_Small.j1 k l (i : Int) false) (decide ((l.length : Int) ≤ 20)) := fun i => by
    refine Ev.step (f := fun k => _) (fun k => by unfold hanaperref17_Small.j1; rfl) ?_
    simp only [Bool.false_eq_true, if_false]; exact Ev.now _
  intro j
  induction j with
  | zero =>
    intro i hj hi
    obtain rfl : i = 40 := by omega
    refine ⟨decide ((l.length : Int) ≤ 20), ?_, fun h => ?_⟩
    · refine Ev.step (f := fun k => _) (fun k => by unfold hanaperref17_Small.l0; rfl) ?_
      by_cases hl : ((40 : Nat) : Int) < l.length
      · simp only [if_pos hl, show decide (((40 : Nat) : Int) < 40) = false from rfl]; exact done 40
      · simp only [if_neg hl]; exact done 40
    · have := of_decide_eq_true h
      exact ⟨by omega, fun x hx => by rw [List.drop_of_length_le (by omega)] at hx; cases hx⟩
  | succ j ih =>
    intro i hj hi
    by_cases hl : (i : Int) < l.length
    · have hd := drop_rd49 (show i < l.length by omega)
      have e0 : ∀ b, Ev (fun k => hanaperref17_Small.j1 k l (i : Int) true) b → Ev (fun k => hanaperref17_Small.l0 k l (i : Int)) b := fun b h => by
        refine Ev.step (f := fun k => _) (fun k => by unfold hanaperref17_Small.l0; rfl) ?_
        simp only [if_pos hl, decide_eq_true (show (i : Int) < 40 by omega)]; exact h
      by_cases hc : (((rd_T49 l (i : Int)).f0).size : Int) > 100
      · refine ⟨false, e0 _ ?_, fun h => by cases h⟩
        refine Ev.step (f := fun k => _) (fun k => by unfold hanaperref17_Small.j1; rfl) ?_
        simp only [if_true, if_pos (show 0 ≤ (i : Int) by omega), if_pos hl, if_pos hc]; exact Ev.now _
      · obtain ⟨v, e, _, g⟩ := small_ok 30 (rd_T49 l (i : Int)).f1 60 30 (by omega) (by omega) (by omega) (by omega)
        by_cases hv : v < 0
        · refine ⟨false, e0 _ ?_, fun h => by cases h⟩
          refine Ev.step (f := fun k => _) (fun k => by unfold hanaperref17_Small.j1; rfl) ?_
          simp only [if_true, if_pos (show 0 ≤ (i : Int) by omega), if_pos hl, if_neg hc]
          refine Ev.bind (f := fun k t => _) e ?_
          simp only [if_pos hv]; exact Ev.now _
        · obtain ⟨b, e2, g2⟩ := ih (i + 1) (by omega) (by omega)
          refine ⟨b, e0 _ ?_, fun h => ⟨(g2 h).1, fun x hx => ?_⟩⟩
          · refine Ev.step (f := fun k => _) (fun k => by unfold hanaperref17_Small.j1; rfl) ?_
            simp only [if_true, if_pos (show 0 ≤ (i : Int) by omega), if_pos hl, if_neg hc]
            refine Ev.bind (f := fun k t => _) e ?_
            simp only [if_neg hv, w64 (n := (i : Int) + 1) (by omega) (by omega)]; exact e2
          · rw [hd] at hx
            rcases List.mem_cons.1 hx with rfl | hx
            · exact up _ 70 30 (g (by omega))
            · exact (g2 h).2 x hx
    · refine ⟨decide ((l.length : Int) ≤ 20), ?_, fun h => ?_⟩
      · refine Ev.step (f := fun k => _) (fun k => by unfold hanaperref17_Small.l0; rfl) ?_
        simp only [if_neg hl]; exact done i
      · have := of_decide_eq_true h
        exact ⟨by omega, fun x hx => by rw [List.drop_of_length_le (by omega)] at hx; cases hx⟩
theorem Small_ev (l : List S49) : ∃ b : Bool, Ev (fun k => hanaperref17_Small.f k l) b ∧ (b = true → l.length ≤ 20 ∧ ∀ x ∈ l, lim 100 x.f1) := by
  obtain ⟨b, e, g⟩ := Small_l l 40 0 (by omega) (by omega)
  exact ⟨b, e, fun h => ⟨(g h).1, fun x hx => (g h).2 x (by simpa using hx)⟩⟩
theorem nil_toList : (⟨#[]⟩ : ByteArray).toList = [] := by unfold ByteArray.toList; unfold ByteArray.toList.loop; rfl
abbrev trip (p : S49 × Bool) : ByteArray × Int × Int × ByteArray × (List (S24)) × Int × Bool := (p.1.f0, p.1.f1.f0, p.1.f1.f1, p.1.f1.f2, p.1.f1.f3, p.1.f2, p.2)
theorem find_l1 (l : List S49) (hl : l.length ≤ 20) : ∀ (j i : Nat), l.length - i = j → i ≤ l.length → Ev (fun k => hanaperref17_Find.l1 k l (i : Int)) (trip (if 0 ≤ ix (isN ⟨#[]⟩) (l.drop i) i then (rd_T49 l (ix (isN ⟨#[]⟩) (l.drop i) i), true) else (z49, false)))
  | 0, i, hj, hi => by
    refine Ev.step (f := fun k => _) (fun k => by unfold hanaperref17_Find.l1; rfl) ?_
    simp only [if_neg (show ¬ (i : Int) < l.length by omega), List.drop_of_length_le (show l.length ≤ i by omega)]
    exact Ev.now _
  | j + 1, i, hj, hi => by
    have hd := drop_rd49 (show i < l.length by omega)
    refine Ev.step (f := fun k => _) (fun k => by unfold hanaperref17_Find.l1; rfl) ?_
    simp only [if_pos (show (i : Int) < l.length by omega), if_pos (show 0 ≤ (i : Int) by omega)]
    rw [hd]
    unfold ix
    by_cases hc : (rd_T49 l (i : Int)).f0.toList = []
    · have hn : isN ⟨#[]⟩ (rd_T49 l (i : Int)) = true := by unfold isN; rw [nil_toList]; exact beq_iff_eq.2 hc
      simp only [if_pos hc, if_pos hn, if_pos (show 0 ≤ (i : Int) by omega)]; exact Ev.now _
    · have hn : ¬ isN ⟨#[]⟩ (rd_T49 l (i : Int)) = true := by unfold isN; rw [nil_toList]; exact fun h => hc (beq_iff_eq.1 h)
      simp only [if_neg hc, if_neg hn, w64 (n := (i : Int) + 1) (by omega) (by omega)]
      exact find_l1 l hl j (i + 1) (by omega) (by omega)
theorem find_l0 (l : List S49) (hl : l.length ≤ 20) (a : ByteArray) : ∀ (j i : Nat), l.length - i = j → i ≤ l.length → Ev (fun k => hanaperref17_Find.l0 k l a (i : Int)) (trip (if 0 ≤ ix (isN a) (l.drop i) i then (rd_T49 l (ix (isN a) (l.drop i) i), true) else if 0 ≤ ix (isN ⟨#[]⟩) l 0 then (rd_T49 l (ix (isN ⟨#[]⟩) l 0), true) else (z49, false)))
  | 0, i, hj, hi => by
    refine Ev.step (f := fun k => _) (fun k => by unfold hanaperref17_Find.l0; rfl) ?_
    simp only [if_neg (show ¬ (i : Int) < l.length by omega), List.drop_of_length_le (show l.length ≤ i by omega)]
    simp only [ix, if_neg (show ¬ (0 : Int) ≤ -1 by omega)]
    have := find_l1 l hl l.length 0 (by omega) (by omega)
    simpa using this
  | j + 1, i, hj, hi => by
    have hd := drop_rd49 (show i < l.length by omega)
    refine Ev.step (f := fun k => _) (fun k => by unfold hanaperref17_Find.l0; rfl) ?_
    simp only [if_pos (show (i : Int) < l.length by omega), if_pos (show 0 ≤ (i : Int) by omega)]
    rw [hd]
    conv => rhs; rw [ix]
    by_cases hc : (rd_T49 l (i : Int)).f0.toList = a.toList
    · have hn : isN a (rd_T49 l (i : Int)) = true := beq_iff_eq.2 hc
      simp only [if_pos hc, if_pos hn, if_pos (show 0 ≤ (i : Int) by omega)]; exact Ev.now _
    · have hn : ¬ isN a (rd_T49 l (i : Int)) = true := fun h => hc (beq_iff_eq.1 h)
      simp only [if_neg hc, if_neg hn, w64 (n := (i : Int) + 1) (by omega) (by omega)]
      exact find_l0 l hl a j (i + 1) (by omega) (by omega)
theorem find_ref (l : List S49) (hl : l.length ≤ 20) (a : ByteArray) : Ev (fun k => hanaperref17_Find.f k l a) (trip (find2 l a)) := by
  have := find_l0 l hl a l.length 0 (by omega) (by omega)
  simpa [find2, hanaperref17_Find.f] using this
theorem find2_mem (l : List S49) (a : ByteArray) (h : (find2 l a).2 = true) : (find2 l a).1 ∈ l := by
  have key : ∀ i : Int, 0 ≤ i → i < l.length → rd_T49 l i ∈ l := fun i h0 h1 => by
    obtain ⟨n, rfl⟩ := Int.eq_ofNat_of_zero_le h0
    have hd := drop_rd49 (show n < l.length by omega)
    exact List.drop_subset n l (by rw [hd]; exact List.mem_cons_self)
  unfold find2 at h ⊢
  split
  · have := ix_range (isN a) l 0
    exact key _ (by assumption) (by omega)
  · rw [if_neg (by assumption)] at h
    split
    · have := ix_range (isN ⟨#[]⟩) l 0
      exact key _ (by assumption) (by omega)
    · rw [if_neg (by assumption)] at h; cases h
/-- A record's milestones. -/
def ms (t : Int) (m : List S33) : List S33 := [⟨⟨#[105, 110, 103, 101, 115, 116]⟩, t⟩] ++ m
def ofM (l : List S49) (a : ByteArray) (t : Int) (m : List S33) : Int × Int × Bool :=
  if (find2 l a).2 = true then (if (wh (ms t m) (find2 l a).1.f1).2 = true then ((wh (ms t m) (find2 l a).1.f1).1, (find2 l a).1.f2, true) else (0, 0, false)) else (0, 0, false)
end Go.Proofs.Ytdpcfamgmicboac.PDueOf
