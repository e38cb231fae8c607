/- When a condition is due, in plain lists. The program's When. Days later. The document's When over a milestone. The document's When. The document's milestones of a record (written by the print). When a record is due, in the program and in the document; no condition beyond each theorem its own. -/
import Derived.Test.YtafigkikblpbnaaGreatJ02
import Derived.Test.YtafigkikblpbnaaGreatJ05
import Derived.Test.YtafigkikblpbnaaGreatJ18
import Derived.Test.YtafigkikblpbnaaGreatJ11
import Derived.Test.YtafigkikblpbnaaGreatJ04
namespace Go.Proofs.YtafigkikblpbnaaGreat.PG
open Go.RowKit Go.Proofs.YtafigkikblpbnaaGreatW.PrintWords Go.Proofs.YtafigkikblpbnaaGreatW.PrintLast Go.Proofs.YtafigkikblpbnaaGreatW.PrintMore
set_option linter.unusedVariables false
set_option linter.unusedSimpArgs false
set_option maxRecDepth 100000
theorem w64 {n : Int} (h1 : -9223372036854775808 ≤ n) (h2 : n ≤ 9223372036854775807) : wrap64 n = n := by unfold wrap64; omega
def aft (a b : Int) : Int × Bool := if a < 0 then (0, false) else if a > 1099511627776 then (0, false) else if b < 0 then (0, false) else if b > 1048576 then (0, false) else if a + b > 1099511627776 then (0, false) else (a + b, true)
theorem qAfter (a b : Int) : Q.span_After.f a b = some (aft a b) := by
  unfold Q.span_After.f aft
  by_cases h1 : a < 0; · rw [if_pos h1, if_pos h1]
  by_cases h2 : a > 1099511627776; · rw [if_neg h1, if_neg h1, if_pos h2, if_pos h2]
  by_cases h3 : b < 0; · rw [if_neg h1, if_neg h1, if_neg h2, if_neg h2, if_pos h3, if_pos h3]
  by_cases h4 : b > 1048576; · rw [if_neg h1, if_neg h1, if_neg h2, if_neg h2, if_neg h3, if_neg h3, if_pos h4, if_pos h4]
  rw [if_neg h1, if_neg h1, if_neg h2, if_neg h2, if_neg h3, if_neg h3, if_neg h4, if_neg h4, w64 (n := 1099511627776 - a) (by omega) (by omega), w64 (n := a + b) (by omega) (by omega)]
  by_cases h5 : a + b > 1099511627776
  · rw [if_pos h5, if_pos (by omega)]
  · rw [if_neg h5, if_neg (by omega)]
def fnd (nm : ByteArray) : List S134 → Option Int
  | [] => none
  | x :: xs => if x.f0.toList = nm.toList then some x.f1 else fnd nm xs
def fndB (nm : ByteArray) (l : List S134) : Int × Bool := match fnd nm l with | none => (0, false) | some t => (t, true)
theorem ix_fnd (nm : ByteArray) : ∀ (l : List S134) (i : Nat), (ix (fun x : S134 => x.f0.toList == nm.toList) l i = -1 ∧ fnd nm l = none) ∨ ∃ j, j < l.length ∧ ix (fun x : S134 => x.f0.toList == nm.toList) l i = (i + j : Nat) ∧ fnd nm l = some (l.getD j z134).f1
  | [], i => .inl ⟨rfl, rfl⟩
  | x :: xs, i => by
    unfold ix fnd
    by_cases h : x.f0.toList = nm.toList
    · rw [if_pos (beq_iff_eq.2 h), if_pos h]
      exact .inr ⟨0, by simp, rfl, rfl⟩
    · rw [if_neg (fun g => h (beq_iff_eq.1 g)), if_neg h]
      rcases ix_fnd nm xs (i + 1) with ⟨h1, h2⟩ | ⟨j, h0, h1, h2⟩
      · exact .inl ⟨h1, h2⟩
      · exact .inr ⟨j + 1, by simp; omega, by rw [h1]; omega, by rw [h2]; rfl⟩
theorem at_f (nm : ByteArray) (l : List S134) : due_at.f nm l = some (fndB nm l) := by
  unfold due_at.f fndB
  rcases ix_fnd nm l 0 with ⟨h1, h2⟩ | ⟨j, h0, h1, h2⟩
  · rw [h1, h2, if_pos (by omega)]
  · rw [h1, h2, if_neg (by omega)]
    simp [rd_T134]

/-! least and greatest -/
def mnl : List Int → Int
  | [] => 0
  | x :: xs => xs.foldl mn x
def mxl : List Int → Int
  | [] => 0
  | x :: xs => xs.foldl mx x
theorem drop_rdI {l : List Int} {i : Nat} (h : i < l.length) : l.drop i = rd l (i : Int) :: l.drop (i + 1) := by
  rw [List.drop_eq_getElem_cons h]
  simp [rd, List.getElem?_eq_getElem h, List.getD_eq_getElem?_getD]
theorem drop_rd24 {l : List S95} {i : Nat} (h : i < l.length) : l.drop i = rd_T95 l (i : Int) :: l.drop (i + 1) := by
  rw [List.drop_eq_getElem_cons h]
  simp [rd_T95, List.getElem?_eq_getElem h, List.getD_eq_getElem?_getD]
theorem minQ (l : List Int) (hl : l.length ≤ 1000000) : ∀ n k i a, l.length - i = n → i ≤ l.length → n < k → Q.slices_Min_int_int.l0 k l a (i : Int) = some ((l.drop i).foldl mn a)
  | 0, k + 1, i, a, h, hi, hk => by
    unfold Q.slices_Min_int_int.l0
    rw [if_neg (by omega), List.drop_of_length_le (by omega)]; rfl
  | n + 1, k + 1, i, a, h, hi, hk => by
    unfold Q.slices_Min_int_int.l0
    rw [if_pos (by omega), if_pos (by omega), w64 (by omega) (by omega), drop_rdI (show i < l.length by omega)]
    exact minQ l hl n k (i + 1) _ (by omega) (by omega) (by omega)
theorem maxQ (l : List Int) (hl : l.length ≤ 1000000) : ∀ n k i a, l.length - i = n → i ≤ l.length → n < k → Q.slices_Max_int_int.l0 k l a (i : Int) = some ((l.drop i).foldl mx a)
  | 0, k + 1, i, a, h, hi, hk => by
    unfold Q.slices_Max_int_int.l0
    rw [if_neg (by omega), List.drop_of_length_le (by omega)]; rfl
  | n + 1, k + 1, i, a, h, hi, hk => by
    unfold Q.slices_Max_int_int.l0
    rw [if_pos (by omega), if_pos (by omega), w64 (by omega) (by omega), drop_rdI (show i < l.length by omega)]
    exact maxQ l hl n k (i + 1) _ (by omega) (by omega) (by omega)
theorem min_f (l : List Int) (hl : l.length ≤ 1000000) (h0 : l ≠ []) (k : Nat) (hk : l.length < k) : Q.slices_Min_int_int.f k l = some (mnl l) := by
  cases l with
  | nil => exact absurd rfl h0
  | cons x xs =>
    unfold Q.slices_Min_int_int.f
    rw [if_neg (by simp only [List.length_cons]; omega), if_pos (by simp only [List.length_cons]; omega)]
    exact minQ (x :: xs) hl xs.length k 1 x (by simp) (by simp) (by simp at hk; omega)
theorem max_f (l : List Int) (hl : l.length ≤ 1000000) (h0 : l ≠ []) (k : Nat) (hk : l.length < k) : Q.slices_Max_int_int.f k l = some (mxl l) := by
  cases l with
  | nil => exact absurd rfl h0
  | cons x xs =>
    unfold Q.slices_Max_int_int.f
    rw [if_neg (by simp only [List.length_cons]; omega), if_pos (by simp only [List.length_cons]; omega)]
    exact maxQ (x :: xs) hl xs.length k 1 x (by simp) (by simp) (by simp at hk; omega)

/-! what a condition says -/
def knw (l : List (Int × Bool)) : List Int := (l.filter (·.2)).map (·.1)
def comb (op : Int) (l : List (Int × Bool)) : Int × Bool :=
  if knw l = [] then (0, false) else if op = 2 then (mnl (knw l), true) else if op = 3 then (if (knw l).length = l.length then (mxl (knw l), true) else (0, false)) else (0, false)
mutual
def wh (m : List S134) : S95 → Int × Bool
  | ⟨op, d, n, kids⟩ => if op = 1 then (if (fndB n m).2 = true then aft (fndB n m).1 d else (0, false)) else comb op (ks m kids)
def ks (m : List S134) : List S95 → List (Int × Bool)
  | [] => []
  | x :: xs => wh m x :: ks m xs
end
theorem ks_map (m : List S134) : ∀ l, ks m l = l.map (wh m)
  | [] => by simp [ks]
  | x :: xs => by simp [ks, ks_map m xs]
theorem wh_eq (m : List S134) (op d : Int) (n : ByteArray) (kids : List S95) : wh m ⟨op, d, n, kids⟩ = if op = 1 then (if (fndB n m).2 = true then aft (fndB n m).1 d else (0, false)) else comb op (kids.map (wh m)) := by
  rw [← ks_map]; simp only [wh]

theorem knw_len (l : List (Int × Bool)) : (knw l).length ≤ l.length := by simp [knw]; exact List.length_filter_le _ _
theorem When_q (kf : List S95 → List S134 → Option (List Int)) (k : Nat) (a b : Int) (c : ByteArray) (l : List S95) (m : List S134) (hl : l.length ≤ 60) (hk : 60 < k) (h : kf l m = some (knw (l.map (wh m)))) :
    Q.due_When.f kf k a b c l m = some (wh m ⟨a, b, c, l⟩) := by
  rw [wh_eq]
  unfold Q.due_When.f
  by_cases h1 : a = 1
  · rw [if_pos h1, if_pos h1, at_f, Option.bind_some]
    by_cases h2 : (fndB c m).2 = true
    · rw [if_pos h2, if_pos h2, qAfter, Option.bind_some]
    · rw [if_neg h2, if_neg h2]
  · rw [if_neg h1, if_neg h1, h, Option.bind_some]
    have hle := knw_len (l.map (wh m))
    have hll : (l.map (wh m)).length = l.length := by simp
    unfold comb
    generalize hK : knw (l.map (wh m)) = K at *
    by_cases h2 : K = []
    · rw [if_pos (by rw [h2]; rfl), if_pos h2]
    · have h2' : 0 < K.length := List.length_pos_iff.2 h2
      rw [if_neg (by omega), if_neg h2]
      by_cases h3 : a = 2
      · rw [if_pos h3, if_pos h3, min_f K (by omega) h2 k (by omega), Option.bind_some]
      · rw [if_neg h3, if_neg h3]
        by_cases h4 : a = 3
        · rw [if_pos h4, if_pos h4, hll]
          by_cases h5 : K.length = l.length
          · rw [if_pos (by omega), if_pos h5, max_f K (by omega) h2 k (by omega), Option.bind_some]
          · rw [if_neg (by omega), if_neg h5]
        · rw [if_neg h4, if_neg h4]
theorem known_q (wf : Int → Int → ByteArray → List S95 → List S134 → Option (Int × Bool)) (l : List S95) (m : List S134) (hl : l.length ≤ 60) (h : ∀ x ∈ l, wf x.f0 x.f1 x.f2 x.f3 m = some (wh m x)) :
    ∀ n k i acc, l.length - i = n → i ≤ l.length → n < k → acc.length ≤ i → Q.due_known.l0 wf k m acc l (l.length : Int) (i : Int) = some (acc ++ knw ((l.drop i).map (wh m)))
  | 0, k + 1, i, acc, hn, hi, hk, ha => by
    unfold Q.due_known.l0
    rw [if_neg (by omega), List.drop_of_length_le (by omega)]
    simp [knw]
  | n + 1, k + 1, i, acc, hn, hi, hk, ha => by
    have hlt : i < l.length := by omega
    have hd := drop_rd24 hlt
    have hm : rd_T95 l (i : Int) ∈ l := List.drop_subset i l (by rw [hd]; exact List.mem_cons_self)
    unfold Q.due_known.l0
    rw [if_pos (by omega), if_pos (by omega), if_pos (by omega), h _ hm, Option.bind_some, hd, w64 (by omega) (by omega)]
    by_cases hb : (wh m (rd_T95 l (i : Int))).2 = true
    · rw [if_pos hb, if_pos (by omega)]
      have := known_q wf l m hl h n k (i + 1) (acc ++ [(wh m (rd_T95 l (i : Int))).1]) (by omega) (by omega) (by omega) (by simp; omega)
      rw [show ((i : Int) + 1) = ((i + 1 : Nat) : Int) by omega, this]
      simp [knw, List.filter_cons, hb]
    · rw [if_neg hb]
      have := known_q wf l m hl h n k (i + 1) acc (by omega) (by omega) (by omega) (by omega)
      rw [show ((i : Int) + 1) = ((i + 1 : Nat) : Int) by omega, this]
      simp [knw, List.filter_cons, hb]
/-- A condition of so many levels at most, none with more than 60 kids. -/
def lim : Nat → S95 → Prop
  | 0, _ => False
  | d + 1, x => x.f3.length ≤ 60 ∧ ∀ y ∈ x.f3, lim d y
theorem W_q (m : List S134) : ∀ d e x, lim d x → d + 61 < e → Q.W e x.f0 x.f1 x.f2 x.f3 m = some (wh m x)
  | 0, e, x, h, he => h.elim
  | d + 1, e + 1, x, h, he => by
    have hk : Q.due_known.f (Q.W e) e x.f3 m = some (knw (x.f3.map (wh m))) := by
      have := known_q (Q.W e) x.f3 m h.1 (fun y hy => W_q m d e y (h.2 y hy) (by omega)) x.f3.length e 0 [] (by omega) (by omega) (by have := h.1; omega) (by simp)
      simpa [Q.due_known.f] using this
    have h2 := When_q _ e x.f0 x.f1 x.f2 x.f3 m h.1 (by omega) hk
    cases x; exact h2
def rc (op : Int) : Int → Bool → List (Int × Bool) → Int × Bool
  | b, k, [] => (b, k)
  | b, k, x :: xs =>
    if op = 2 then (if x.2 = true then (if k = true then (if x.1 < b then rc op x.1 true xs else rc op b k xs) else rc op x.1 true xs) else rc op b k xs)
    else if op = 3 then (if x.2 = true then (if k = true then (if x.1 > b then rc op x.1 true xs else rc op b k xs) else rc op x.1 true xs) else (0, false))
    else rc op b k xs
theorem rc2 : ∀ (l : List (Int × Bool)) (b : Int), rc 2 b true l = ((knw l).foldl mn b, true)
  | [], b => rfl
  | (t, false) :: xs, b => by simp [rc, rc2 xs, knw]
  | (t, true) :: xs, b => by
    have : knw ((t, true) :: xs) = t :: knw xs := rfl
    rw [this, List.foldl_cons]
    unfold rc
    rw [if_pos rfl, if_pos rfl, if_pos rfl, rc2 xs, rc2 xs]
    unfold mn
    split <;> rfl
theorem rc20 : ∀ (l : List (Int × Bool)), rc 2 0 false l = comb 2 l
  | [] => rfl
  | (t, false) :: xs => by
    have h1 : knw ((t, false) :: xs) = knw xs := rfl
    have h2 : rc 2 0 false ((t, false) :: xs) = rc 2 0 false xs := by simp [rc]
    rw [h2, rc20 xs]; unfold comb; rw [h1]; simp
  | (t, true) :: xs => by
    have h1 : knw ((t, true) :: xs) = t :: knw xs := rfl
    have h2 : rc 2 0 false ((t, true) :: xs) = rc 2 t true xs := by simp [rc]
    rw [h2, rc2]; unfold comb; rw [h1]; simp [mnl]
theorem rc3 : ∀ (l : List (Int × Bool)) (b : Int), rc 3 b true l = if (knw l).length = l.length then ((knw l).foldl mx b, true) else (0, false)
  | [], b => rfl
  | (t, false) :: xs, b => by
    have h1 : knw ((t, false) :: xs) = knw xs := rfl
    have := knw_len xs
    rw [h1, if_neg (by simp; omega)]; simp [rc]
  | (t, true) :: xs, b => by
    have h1 : knw ((t, true) :: xs) = t :: knw xs := rfl
    rw [h1, List.foldl_cons]
    unfold rc
    rw [if_neg (by decide), if_pos rfl, if_pos rfl, if_pos rfl, rc3 xs, rc3 xs]
    unfold mx
    simp only [List.length_cons, Nat.add_right_cancel_iff, gt_iff_lt]
    split <;> rfl
theorem rc30 (l : List (Int × Bool)) : rc 3 0 false l = comb 3 l := by
  cases l with
  | nil => rfl
  | cons x xs =>
    obtain ⟨t, b⟩ := x
    cases b with
    | false =>
      have h1 : knw ((t, false) :: xs) = knw xs := rfl
      have := knw_len xs
      have h2 : rc 3 0 false ((t, false) :: xs) = (0, false) := by simp [rc]
      rw [h2]
      unfold comb
      rw [h1]
      by_cases h : knw xs = []
      · rw [if_pos h]
      · rw [if_neg h, if_neg (show ¬ (3 : Int) = 2 by decide), if_pos rfl, if_neg (by simp; omega)]
    | true =>
      have h1 : knw ((t, true) :: xs) = t :: knw xs := rfl
      have h2 : rc 3 0 false ((t, true) :: xs) = rc 3 t true xs := by simp [rc]
      rw [h2, rc3]; unfold comb; rw [h1]; simp [mxl]
theorem rcn (op : Int) (h2 : op ≠ 2) (h3 : op ≠ 3) : ∀ l : List (Int × Bool), rc op 0 false l = (0, false)
  | [] => rfl
  | x :: xs => by unfold rc; rw [if_neg h2, if_neg h3, rcn op h2 h3 xs]
theorem rc_comb (op : Int) (l : List (Int × Bool)) : rc op 0 false l = comb op l := by
  by_cases h2 : op = 2; · subst h2; exact rc20 l
  by_cases h3 : op = 3; · subst h3; exact rc30 l
  rw [rcn op h2 h3]; unfold comb; rw [if_neg h2, if_neg h3]; split <;> rfl
end Go.Proofs.YtafigkikblpbnaaGreat.PG
namespace Go.Proofs.YtafigkikblpbnaaGreat.PG
open Go.RowKit Go.Proofs.YtafigkikblpbnaaGreatW.PrintWords Go.Proofs.YtafigkikblpbnaaGreatW.PrintLast Go.Proofs.YtafigkikblpbnaaGreatW.PrintMore
set_option linter.unusedVariables false
set_option linter.unusedSimpArgs false
set_option maxRecDepth 100000
/-- The program's When is wh, for a condition with few parts. -/
theorem When_any (d : Nat) (x : S95) (hlim : lim d x) (A : Option Addr) (c : Nat) (m : List S134) (Am : Option Addr) (cm : Nat) (w : World) (h1 : Kd.C k95 w A x.f3.length x.f3) (h2 : x.f3.length ≤ c) (h3 : Kd.C k134 w Am m.length m) (h4 : m.length ≤ cm) :
    Calls Tryz.prog 82 #[.agg #[.int .i64 x.f0, .int .i64 x.f1, .string x.f2, .slice A x.f3.length c], .slice Am m.length cm] w fun e w' => e = .returned (.tuple #[.int .i64 (wh m x).1, .bool (wh m x).2]) ∧ Below w.heap.size w w' :=
  Q.W_calls (d + 62) x.f0 x.f1 x.f2 A c x.f3 Am cm m (wh m x).1 (wh m x).2 w h1 h2 h3 h4 (W_q m d (d + 62) x hlim (by omega))
/-- A condition that may be has few parts. -/
theorem lim_H : ∀ d x, H95 d x → lim d x
  | 0, _, h => h
  | d + 1, x, h => ⟨Nat.le_trans h.2.1 (by omega), fun y hy => lim_H d y (h.2.2 y hy)⟩
end Go.Proofs.YtafigkikblpbnaaGreat.PG
namespace Go.Proofs.YtafigkikblpbnaaGreat.PG
open Go.RowKit Go.Proofs.YtafigkikblpbnaaGreatW.PrintWords Go.Proofs.YtafigkikblpbnaaGreatW.PrintLast Go.Proofs.YtafigkikblpbnaaGreatW.PrintMore
set_option linter.unusedVariables false
set_option linter.unusedSimpArgs false
set_option maxRecDepth 100000

/-- A day so much later. -/
def aftR (a b : Int) : Int × Bool := if a < 0 ∨ 1099511627776 < a ∨ b < 0 ∨ 1048576 < b ∨ 1099511627776 < a + b then (0, false) else (a + b, true)
theorem After_eq (a b : Int) (w : World) : Calls Tryz.prog 97 #[.int .i64 a, .int .i64 b] w fun e w' => e = .returned (.tuple #[.int .i64 (aftR a b).1, .bool (aftR a b).2]) ∧ w' = w := by
  by_cases h : a < 0 ∨ 1099511627776 < a ∨ b < 0 ∨ 1048576 < b ∨ 1099511627776 < a + b
  · have e : aftR a b = (0, false) := by unfold aftR; rw [if_pos h]
    rw [e]
    have HX := Lib.hid h
    clear h
    go_enter Tryz.func97, Tryz.ntmps97
    go_wp2
    all_goals first
      | (go_ret2; exact ⟨rfl, rfl⟩)
      | (exfalso; have h := HX.out; omega)
  · have e : aftR a b = (a + b, true) := by unfold aftR; rw [if_neg h]
    rw [e]
    have h1 : ¬ a < 0 := by omega
    have h2 : ¬ 1099511627776 < a := by omega
    have h3 : ¬ b < 0 := by omega
    have h4 : ¬ 1048576 < b := by omega
    have h5 : ¬ 1099511627776 < a + b := by omega
    clear h
    go_enter Tryz.func97, Tryz.ntmps97
    go_wp2
    all_goals first
      | (exfalso; omega)
      | (go_ret2; exact ⟨rfl, rfl⟩)
end Go.Proofs.YtafigkikblpbnaaGreat.PG
namespace Go.Proofs.YtafigkikblpbnaaGreat.PG
open Go.RowKit Go.Proofs.YtafigkikblpbnaaGreatW.PrintWords Go.Proofs.YtafigkikblpbnaaGreatW.PrintLast Go.Proofs.YtafigkikblpbnaaGreatW.PrintMore
set_option linter.unusedVariables false
set_option linter.unusedSimpArgs false
set_option maxRecDepth 100000

theorem drop_T134 {l : List S134} {i : Nat} (h : i < l.length) : l.drop i = rd_T134 l (i : Int) :: l.drop (i + 1) := by
  rw [List.drop_eq_getElem_cons h]
  simp [rd_T134, List.getElem?_eq_getElem h, List.getD_eq_getElem?_getD]
theorem aft_eq (a b : Int) : aftR a b = aft a b := by
  unfold aftR aft
  by_cases h1 : a < 0
  · rw [if_pos (.inl h1), if_pos h1]
  by_cases h2 : a > 1099511627776
  · rw [if_pos (.inr (.inl h2)), if_neg h1, if_pos h2]
  by_cases h3 : b < 0
  · rw [if_pos (.inr (.inr (.inl h3))), if_neg h1, if_neg h2, if_pos h3]
  by_cases h4 : b > 1048576
  · rw [if_pos (.inr (.inr (.inr (.inl h4)))), if_neg h1, if_neg h2, if_neg h3, if_pos h4]
  by_cases h5 : a + b > 1099511627776
  · rw [if_pos (.inr (.inr (.inr (.inr h5)))), if_neg h1, if_neg h2, if_neg h3, if_neg h4, if_pos h5]
  · rw [if_neg (by omega), if_neg h1, if_neg h2, if_neg h3, if_neg h4, if_neg h5]
set_option maxHeartbeats 4000000 in
theorem WhenR_1 (dd : Int) (nm : ByteArray) (ks : List S95) (A : Option Addr) (c : Nat) (m : List S134) (Am : Option Addr) (cm : Nat) (W : World) (hm : Kd.C k134 W Am m.length m) :
    Calls Tryz.prog 58 #[.agg #[.int .i64 1, .int .i64 dd, .string nm, .slice A ks.length c], .slice Am m.length cm] W fun e w' => e = .returned (.tuple #[.int .i64 (wh m ⟨1, dd, nm, ks⟩).1, .bool (wh m ⟨1, dd, nm, ks⟩).2]) ∧ Below W.heap.size W w' := by
  have hw : wh m ⟨1, dd, nm, ks⟩ = if (fndB nm m).2 = true then aft (fndB nm m).1 dd else (0, false) := by rw [wh_eq, if_pos rfl]
  have HB := Lib.hid (show Below W.heap.size W (W.alloc (.cells #[.int .i64 1, .int .i64 dd, .string nm, .slice A ks.length c] 95 (0, 0))) from below_alloc (Below.refl _ _) _)
  have HY := Lib.hid (new_blk W (.cells #[.int .i64 1, .int .i64 dd, .string nm, .slice A ks.length c] 95 (0, 0)))
  have HC := Lib.hid (Kd.C_below hm HB.out)
  have hml : m.length ≤ 9223372036854775807 := hm.2.1
  clear hm
  rw [hw]
  clear hw
  generalize hR : (if (fndB nm m).2 = true then aft (fndB nm m).1 dd else (0, false)) = R
  have HR := Lib.hid hR
  clear hR
  obtain ⟨R1, R2⟩ := R
  go_enter Tryz.func58, Tryz.ntmps58
  go_wp2
  generalize W.alloc (.cells #[.int .i64 1, .int .i64 dd, .string nm, .slice A ks.length c] 95 (0, 0)) = W1 at *
  go_loopw [6] (fun v6 wr => ∃ k : Nat, v6 = .int .i64 k ∧ k ≤ m.length ∧ Aside0 (fndB nm m = fndB nm (m.drop k)) ∧ Aside0 (Below W1.heap.size W1 wr)) (fun v6 _ => m.length - (intOf v6).toNat)
  case atStart => exact ⟨0, rfl, Nat.zero_le _, ⟨by rw [List.drop_zero]⟩, ⟨Below.refl _ _⟩⟩
  case round =>
    obtain ⟨k, rfl, hk, HI, HBW⟩ := hrel
    have HY2 := Lib.hid ((HBW.out.block W.heap.size (blk_lt HY.out)).trans HY.out)
    have q1 : wr.cell? ⟨W.heap.size, 1, none⟩ = some (.int .i64 dd) := (blk_cell HY2.out 1).trans rfl
    have q2 : wr.cell? ⟨W.heap.size, 2, none⟩ = some (.string nm) := (blk_cell HY2.out 2).trans rfl
    by_cases hlt : k < m.length
    · have hlt2 : (k : Int) < (m.length : Int) := by omega
      obtain ⟨ad, e, h0, h1⟩ := at_T134 (Kd.C_below HC.out HBW.out) (k : Int) (by omega) (by omega)
      subst e
      simp only [Int.toNat_natCast] at h0 h1
      have HDR := Lib.hid (drop_T134 hlt)
      generalize rd_T134 m (k : Int) = y at *
      by_cases hn : y.f0.toList = nm.toList
      · have hnb : (y.f0.toList == nm.toList) = true := by simp [hn]
        have HE := Lib.hid (show aft y.f1 dd = (R1, R2) from by rw [← HR.out, HI.out, HDR.out]; simp [fndB, fnd, hn])
        have HA := fun w => Lib.hid (show Calls Tryz.prog 97 #[.int .i64 y.f1, .int .i64 dd] w fun e w' => e = .returned (.tuple #[.int .i64 R1, .bool R2]) ∧ w' = w by
          have := After_eq y.f1 dd w
          rw [aft_eq, HE.out] at this
          exact this)
        clear hn
        go_wp2_with fail
        go_quiet (fail)
        have HBN := Lib.hid (pw_below_drewN HBW.out nq)
        have g1 : (wr.drewN nq).cell? ⟨(ad.add (k * 2)).block, (ad.add (k * 2)).off + 1, none⟩ = some (.int .i64 y.f1) := h1
        have g2 : (wr.drewN nq).cell? ⟨W.heap.size, 1, none⟩ = some (.int .i64 dd) := q1
        clear h0 h1 q1 q2
        generalize wr.drewN nq = w5 at *
        go_wp2_with fail
        go_quiet (first | (go_at_call 97; refine Calls.quiet_of_same (HA _).out))
        go_wp2
        go_ret2
        exact ⟨rfl, below_tr HB.out (pw_below_drewN HBN.out _)⟩
      · have hnb : (y.f0.toList == nm.toList) = false := by simp [hn]
        have HF := Lib.hid (show fndB nm m = fndB nm (m.drop (k + 1)) from by rw [HI.out, HDR.out]; simp [fndB, fnd, hn])
        clear hn
        go_wp2_with fail
        go_quiet (fail)
        have HBN := Lib.hid (pw_below_drewN HBW.out nq)
        go_wp2
        go_roundw
        case rel => exact ⟨k + 1, by go_num, by omega, ⟨HF.out⟩, ⟨HBN.out⟩⟩
        case measure => simp [intOf]; omega
    · have HE := Lib.hid (show (R1, R2) = (0, false) from by rw [← HR.out, HI.out, List.drop_of_length_le (by omega)]; rfl)
      have e1 := (Prod.mk.inj HE.out).1
      have e2 := (Prod.mk.inj HE.out).2
      subst e1
      subst e2
      go_wp2
      go_ret2
      exact ⟨rfl, below_tr HB.out HBW.out⟩
end Go.Proofs.YtafigkikblpbnaaGreat.PG
namespace Go.Proofs.YtafigkikblpbnaaGreat.PG
open Go.RowKit Go.Proofs.YtafigkikblpbnaaGreatW.PrintWords Go.Proofs.YtafigkikblpbnaaGreatW.PrintLast Go.Proofs.YtafigkikblpbnaaGreatW.PrintMore
set_option linter.unusedVariables false
set_option linter.unusedSimpArgs false
set_option maxRecDepth 100000

def WhenR (d : Nat) : Prop := ∀ (x : S95) (A : Option Addr) (c : Nat) (m : List S134) (Am : Option Addr) (cm : Nat) (W : World), lim d x → Kd.C k95 W A x.f3.length x.f3 → x.f3.length ≤ c → Kd.C k134 W Am m.length m → m.length ≤ cm →
  Calls Tryz.prog 58 #[.agg #[.int .i64 x.f0, .int .i64 x.f1, .string x.f2, .slice A x.f3.length c], .slice Am m.length cm] W fun e w' => e = .returned (.tuple #[.int .i64 (wh m x).1, .bool (wh m x).2]) ∧ Below W.heap.size W w'

set_option maxHeartbeats 8000000 in
theorem WhenR_k2 (d : Nat) (IH : WhenR d) (dd : Int) (nm : ByteArray) (ks : List S95) (hlim : ∀ y ∈ ks, lim d y) (A : Option Addr) (c : Nat) (m : List S134) (Am : Option Addr) (cm : Nat) (W : World) (hC : Kd.C k95 W A ks.length ks) (hm : Kd.C k134 W Am m.length m) (hcm : m.length ≤ cm) :
    Calls Tryz.prog 58 #[.agg #[.int .i64 2, .int .i64 dd, .string nm, .slice A ks.length c], .slice Am m.length cm] W fun e w' => e = .returned (.tuple #[.int .i64 (rc 2 0 false (ks.map (wh m))).1, .bool (rc 2 0 false (ks.map (wh m))).2]) ∧ Below W.heap.size W w' := by
  have HB := Lib.hid (show Below W.heap.size W (W.alloc (.cells #[.int .i64 2, .int .i64 dd, .string nm, .slice A ks.length c] 95 (0, 0))) from below_alloc (Below.refl _ _) _)
  have HY := Lib.hid (new_blk W (.cells #[.int .i64 2, .int .i64 dd, .string nm, .slice A ks.length c] 95 (0, 0)))
  have HM := Lib.hid (Kd.C_below hm HB.out)
  have HC := Lib.hid (Kd.C_below hC HB.out)
  have hkl : ks.length ≤ 9223372036854775807 := hC.2.1
  have HL := Lib.hid hlim
  have HIH := Lib.hid IH
  clear hm hC hlim IH
  generalize hR : rc 2 0 false (ks.map (wh m)) = R
  have HR := Lib.hid hR
  clear hR
  obtain ⟨R1, R2⟩ := R
  go_enter Tryz.func58, Tryz.ntmps58
  go_wp2
  generalize W.alloc (.cells #[.int .i64 2, .int .i64 dd, .string nm, .slice A ks.length c] 95 (0, 0)) = W1 at *
  go_loopw [7, 8, 9] (fun v7 v8 v9 wr => ∃ (k : Nat) (b : Int) (q : Bool), v9 = .int .i64 k ∧ k ≤ ks.length ∧ v7 = .int .i64 b ∧ v8 = .bool q ∧ Aside0 ((R1, R2) = rc 2 b q ((ks.drop k).map (wh m))) ∧ Aside0 (Below W1.heap.size W1 wr)) (fun v7 v8 v9 _ => ks.length - (intOf v9).toNat)
  case atStart => exact ⟨0, 0, false, rfl, Nat.zero_le _, rfl, rfl, ⟨by rw [List.drop_zero]; exact HR.out.symm⟩, ⟨Below.refl _ _⟩⟩
  case round =>
    obtain ⟨k, b, q, rfl, hk, rfl, rfl, HI, HBW⟩ := hrel
    have HY2 := Lib.hid ((HBW.out.block W.heap.size (blk_lt HY.out)).trans HY.out)
    have q0 : wr.cell? ⟨W.heap.size, 0, none⟩ = some (.int .i64 2) := (blk_cell HY2.out 0).trans rfl
    have q3 : wr.cell? ⟨W.heap.size, 3, none⟩ = some (.slice A ks.length c) := (blk_cell HY2.out 3).trans rfl
    by_cases hlt : k < ks.length
    · have hlt2 : (k : Int) < (ks.length : Int) := by omega
      obtain ⟨ad, A4, c4, e, h0, h1, h2, h3, hl4, hC4⟩ := at_T95 (Kd.C_below HC.out HBW.out) (k : Int) (by omega) (by omega)
      subst e
      simp only [Int.toNat_natCast] at h0 h1 h2 h3
      have HDR := Lib.hid (show ks.drop k = rd_T95 ks (k : Int) :: ks.drop (k + 1) from drop_rd24 hlt)
      have hly := HL.out _ (rd_mem95 hlt)
      generalize rd_T95 ks (k : Int) = y at *
      have HCALL := Lib.hid (HIH.out y A4 c4 m Am cm wr hly hC4 hl4 (Kd.C_below HM.out HBW.out) hcm)
      clear hC4 hl4 hly
      have HI2 := Lib.hid (show (R1, R2) = rc 2 b q (wh m y :: (ks.drop (k + 1)).map (wh m)) from by rw [HI.out, HDR.out]; rfl)
      generalize wh m y = z at *
      obtain ⟨z1, z2⟩ := z
      go_wp2_with fail
      refine HCALL.out.mono ?_
      rintro e w2 ⟨rfl, hb⟩
      have HB2 := Lib.hid (below_tr HBW.out hb)
      have HY3 := Lib.hid ((hb.block W.heap.size (blk_lt HY2.out)).trans HY2.out)
      clear hb q0 q3 h0 h1 h2 h3
      have q0 : w2.cell? ⟨W.heap.size, 0, none⟩ = some (.int .i64 2) := (blk_cell HY3.out 0).trans rfl
      cases z2
      · have hcb : True := trivial
        cases q
        · go_wp2
          all_goals first
            | (go_roundw
               case rel => exact ⟨k + 1, _, _, by go_num, by omega, rfl, rfl, ⟨by rw [HI2.out]; simp [rc]⟩, ⟨HB2.out⟩⟩
               case measure => simp [intOf]; omega)
            | (have HE := Lib.hid (show (R1, R2) = (0, false) from by rw [HI2.out]; simp [rc])
               have e1 := (Prod.mk.inj HE.out).1
               have e2 := (Prod.mk.inj HE.out).2
               subst e1
               subst e2
               go_ret2
               exact ⟨rfl, below_tr HB.out HB2.out⟩)
        · go_wp2
          all_goals first
            | (go_roundw
               case rel => exact ⟨k + 1, _, _, by go_num, by omega, rfl, rfl, ⟨by rw [HI2.out]; simp [rc]⟩, ⟨HB2.out⟩⟩
               case measure => simp [intOf]; omega)
            | (have HE := Lib.hid (show (R1, R2) = (0, false) from by rw [HI2.out]; simp [rc])
               have e1 := (Prod.mk.inj HE.out).1
               have e2 := (Prod.mk.inj HE.out).2
               subst e1
               subst e2
               go_ret2
               exact ⟨rfl, below_tr HB.out HB2.out⟩)
      · cases q
        · go_wp2
          all_goals first
            | (go_roundw
               case rel => exact ⟨k + 1, _, _, by go_num, by omega, rfl, rfl, ⟨by rw [HI2.out]; simp [rc]⟩, ⟨HB2.out⟩⟩
               case measure => simp [intOf]; omega)
            | (have HE := Lib.hid (show (R1, R2) = (0, false) from by rw [HI2.out]; simp [rc])
               have e1 := (Prod.mk.inj HE.out).1
               have e2 := (Prod.mk.inj HE.out).2
               subst e1
               subst e2
               go_ret2
               exact ⟨rfl, below_tr HB.out HB2.out⟩)
        · by_cases hcb : z1 < b
          · go_wp2
            all_goals first
              | (go_roundw
                 case rel => exact ⟨k + 1, _, _, by go_num, by omega, rfl, rfl, ⟨by rw [HI2.out]; (first | (simp [rc, hcb]; done) | (simp [rc]; intro h; exfalso; omega))⟩, ⟨HB2.out⟩⟩
                 case measure => simp [intOf]; omega)
              | (have HE := Lib.hid (show (R1, R2) = (0, false) from by rw [HI2.out]; (first | (simp [rc, hcb]; done) | (simp [rc]; intro h; exfalso; omega)))
                 have e1 := (Prod.mk.inj HE.out).1
                 have e2 := (Prod.mk.inj HE.out).2
                 subst e1
                 subst e2
                 go_ret2
                 exact ⟨rfl, below_tr HB.out HB2.out⟩)
          · go_wp2
            all_goals first
              | (go_roundw
                 case rel => exact ⟨k + 1, _, _, by go_num, by omega, rfl, rfl, ⟨by rw [HI2.out]; (first | (simp [rc, hcb]; done) | (simp [rc]; intro h; exfalso; omega))⟩, ⟨HB2.out⟩⟩
                 case measure => simp [intOf]; omega)
              | (have HE := Lib.hid (show (R1, R2) = (0, false) from by rw [HI2.out]; (first | (simp [rc, hcb]; done) | (simp [rc]; intro h; exfalso; omega)))
                 have e1 := (Prod.mk.inj HE.out).1
                 have e2 := (Prod.mk.inj HE.out).2
                 subst e1
                 subst e2
                 go_ret2
                 exact ⟨rfl, below_tr HB.out HB2.out⟩)
    · have HE := Lib.hid (show (R1, R2) = (b, q) from by rw [HI.out, List.drop_of_length_le (by omega)]; rfl)
      have e1 := (Prod.mk.inj HE.out).1
      have e2 := (Prod.mk.inj HE.out).2
      subst e1
      subst e2
      go_wp2
      go_ret2
      exact ⟨rfl, below_tr HB.out HBW.out⟩

set_option maxHeartbeats 8000000 in
theorem WhenR_k3 (d : Nat) (IH : WhenR d) (dd : Int) (nm : ByteArray) (ks : List S95) (hlim : ∀ y ∈ ks, lim d y) (A : Option Addr) (c : Nat) (m : List S134) (Am : Option Addr) (cm : Nat) (W : World) (hC : Kd.C k95 W A ks.length ks) (hm : Kd.C k134 W Am m.length m) (hcm : m.length ≤ cm) :
    Calls Tryz.prog 58 #[.agg #[.int .i64 3, .int .i64 dd, .string nm, .slice A ks.length c], .slice Am m.length cm] W fun e w' => e = .returned (.tuple #[.int .i64 (rc 3 0 false (ks.map (wh m))).1, .bool (rc 3 0 false (ks.map (wh m))).2]) ∧ Below W.heap.size W w' := by
  have HB := Lib.hid (show Below W.heap.size W (W.alloc (.cells #[.int .i64 3, .int .i64 dd, .string nm, .slice A ks.length c] 95 (0, 0))) from below_alloc (Below.refl _ _) _)
  have HY := Lib.hid (new_blk W (.cells #[.int .i64 3, .int .i64 dd, .string nm, .slice A ks.length c] 95 (0, 0)))
  have HM := Lib.hid (Kd.C_below hm HB.out)
  have HC := Lib.hid (Kd.C_below hC HB.out)
  have hkl : ks.length ≤ 9223372036854775807 := hC.2.1
  have HL := Lib.hid hlim
  have HIH := Lib.hid IH
  clear hm hC hlim IH
  generalize hR : rc 3 0 false (ks.map (wh m)) = R
  have HR := Lib.hid hR
  clear hR
  obtain ⟨R1, R2⟩ := R
  go_enter Tryz.func58, Tryz.ntmps58
  go_wp2
  generalize W.alloc (.cells #[.int .i64 3, .int .i64 dd, .string nm, .slice A ks.length c] 95 (0, 0)) = W1 at *
  go_loopw [7, 8, 9] (fun v7 v8 v9 wr => ∃ (k : Nat) (b : Int) (q : Bool), v9 = .int .i64 k ∧ k ≤ ks.length ∧ v7 = .int .i64 b ∧ v8 = .bool q ∧ Aside0 ((R1, R2) = rc 3 b q ((ks.drop k).map (wh m))) ∧ Aside0 (Below W1.heap.size W1 wr)) (fun v7 v8 v9 _ => ks.length - (intOf v9).toNat)
  case atStart => exact ⟨0, 0, false, rfl, Nat.zero_le _, rfl, rfl, ⟨by rw [List.drop_zero]; exact HR.out.symm⟩, ⟨Below.refl _ _⟩⟩
  case round =>
    obtain ⟨k, b, q, rfl, hk, rfl, rfl, HI, HBW⟩ := hrel
    have HY2 := Lib.hid ((HBW.out.block W.heap.size (blk_lt HY.out)).trans HY.out)
    have q0 : wr.cell? ⟨W.heap.size, 0, none⟩ = some (.int .i64 3) := (blk_cell HY2.out 0).trans rfl
    have q3 : wr.cell? ⟨W.heap.size, 3, none⟩ = some (.slice A ks.length c) := (blk_cell HY2.out 3).trans rfl
    by_cases hlt : k < ks.length
    · have hlt2 : (k : Int) < (ks.length : Int) := by omega
      obtain ⟨ad, A4, c4, e, h0, h1, h2, h3, hl4, hC4⟩ := at_T95 (Kd.C_below HC.out HBW.out) (k : Int) (by omega) (by omega)
      subst e
      simp only [Int.toNat_natCast] at h0 h1 h2 h3
      have HDR := Lib.hid (show ks.drop k = rd_T95 ks (k : Int) :: ks.drop (k + 1) from drop_rd24 hlt)
      have hly := HL.out _ (rd_mem95 hlt)
      generalize rd_T95 ks (k : Int) = y at *
      have HCALL := Lib.hid (HIH.out y A4 c4 m Am cm wr hly hC4 hl4 (Kd.C_below HM.out HBW.out) hcm)
      clear hC4 hl4 hly
      have HI2 := Lib.hid (show (R1, R2) = rc 3 b q (wh m y :: (ks.drop (k + 1)).map (wh m)) from by rw [HI.out, HDR.out]; rfl)
      generalize wh m y = z at *
      obtain ⟨z1, z2⟩ := z
      go_wp2_with fail
      refine HCALL.out.mono ?_
      rintro e w2 ⟨rfl, hb⟩
      have HB2 := Lib.hid (below_tr HBW.out hb)
      have HY3 := Lib.hid ((hb.block W.heap.size (blk_lt HY2.out)).trans HY2.out)
      clear hb q0 q3 h0 h1 h2 h3
      have q0 : w2.cell? ⟨W.heap.size, 0, none⟩ = some (.int .i64 3) := (blk_cell HY3.out 0).trans rfl
      cases z2
      · have hcb : True := trivial
        cases q
        · go_wp2
          all_goals first
            | (go_roundw
               case rel => exact ⟨k + 1, _, _, by go_num, by omega, rfl, rfl, ⟨by rw [HI2.out]; simp [rc]⟩, ⟨HB2.out⟩⟩
               case measure => simp [intOf]; omega)
            | (have HE := Lib.hid (show (R1, R2) = (0, false) from by rw [HI2.out]; simp [rc])
               have e1 := (Prod.mk.inj HE.out).1
               have e2 := (Prod.mk.inj HE.out).2
               subst e1
               subst e2
               go_ret2
               exact ⟨rfl, below_tr HB.out HB2.out⟩)
        · go_wp2
          all_goals first
            | (go_roundw
               case rel => exact ⟨k + 1, _, _, by go_num, by omega, rfl, rfl, ⟨by rw [HI2.out]; simp [rc]⟩, ⟨HB2.out⟩⟩
               case measure => simp [intOf]; omega)
            | (have HE := Lib.hid (show (R1, R2) = (0, false) from by rw [HI2.out]; simp [rc])
               have e1 := (Prod.mk.inj HE.out).1
               have e2 := (Prod.mk.inj HE.out).2
               subst e1
               subst e2
               go_ret2
               exact ⟨rfl, below_tr HB.out HB2.out⟩)
      · cases q
        · go_wp2
          all_goals first
            | (go_roundw
               case rel => exact ⟨k + 1, _, _, by go_num, by omega, rfl, rfl, ⟨by rw [HI2.out]; simp [rc]⟩, ⟨HB2.out⟩⟩
               case measure => simp [intOf]; omega)
            | (have HE := Lib.hid (show (R1, R2) = (0, false) from by rw [HI2.out]; simp [rc])
               have e1 := (Prod.mk.inj HE.out).1
               have e2 := (Prod.mk.inj HE.out).2
               subst e1
               subst e2
               go_ret2
               exact ⟨rfl, below_tr HB.out HB2.out⟩)
        · by_cases hcb : b < z1
          · go_wp2
            all_goals first
              | (go_roundw
                 case rel => exact ⟨k + 1, _, _, by go_num, by omega, rfl, rfl, ⟨by rw [HI2.out]; (first | (simp [rc, hcb]; done) | (simp [rc]; intro h; exfalso; omega))⟩, ⟨HB2.out⟩⟩
                 case measure => simp [intOf]; omega)
              | (have HE := Lib.hid (show (R1, R2) = (0, false) from by rw [HI2.out]; (first | (simp [rc, hcb]; done) | (simp [rc]; intro h; exfalso; omega)))
                 have e1 := (Prod.mk.inj HE.out).1
                 have e2 := (Prod.mk.inj HE.out).2
                 subst e1
                 subst e2
                 go_ret2
                 exact ⟨rfl, below_tr HB.out HB2.out⟩)
          · go_wp2
            all_goals first
              | (go_roundw
                 case rel => exact ⟨k + 1, _, _, by go_num, by omega, rfl, rfl, ⟨by rw [HI2.out]; (first | (simp [rc, hcb]; done) | (simp [rc]; intro h; exfalso; omega))⟩, ⟨HB2.out⟩⟩
                 case measure => simp [intOf]; omega)
              | (have HE := Lib.hid (show (R1, R2) = (0, false) from by rw [HI2.out]; (first | (simp [rc, hcb]; done) | (simp [rc]; intro h; exfalso; omega)))
                 have e1 := (Prod.mk.inj HE.out).1
                 have e2 := (Prod.mk.inj HE.out).2
                 subst e1
                 subst e2
                 go_ret2
                 exact ⟨rfl, below_tr HB.out HB2.out⟩)
    · have HE := Lib.hid (show (R1, R2) = (b, q) from by rw [HI.out, List.drop_of_length_le (by omega)]; rfl)
      have e1 := (Prod.mk.inj HE.out).1
      have e2 := (Prod.mk.inj HE.out).2
      subst e1
      subst e2
      go_wp2
      go_ret2
      exact ⟨rfl, below_tr HB.out HBW.out⟩

set_option maxHeartbeats 8000000 in
theorem WhenR_k (d : Nat) (IH : WhenR d) (o : Int) (ho1 : o ≠ 1) (ho2 : o ≠ 2) (ho3 : o ≠ 3) (dd : Int) (nm : ByteArray) (ks : List S95) (hlim : ∀ y ∈ ks, lim d y) (A : Option Addr) (c : Nat) (m : List S134) (Am : Option Addr) (cm : Nat) (W : World) (hC : Kd.C k95 W A ks.length ks) (hm : Kd.C k134 W Am m.length m) (hcm : m.length ≤ cm) :
    Calls Tryz.prog 58 #[.agg #[.int .i64 o, .int .i64 dd, .string nm, .slice A ks.length c], .slice Am m.length cm] W fun e w' => e = .returned (.tuple #[.int .i64 (rc o 0 false (ks.map (wh m))).1, .bool (rc o 0 false (ks.map (wh m))).2]) ∧ Below W.heap.size W w' := by
  have HB := Lib.hid (show Below W.heap.size W (W.alloc (.cells #[.int .i64 o, .int .i64 dd, .string nm, .slice A ks.length c] 95 (0, 0))) from below_alloc (Below.refl _ _) _)
  have HY := Lib.hid (new_blk W (.cells #[.int .i64 o, .int .i64 dd, .string nm, .slice A ks.length c] 95 (0, 0)))
  have HM := Lib.hid (Kd.C_below hm HB.out)
  have HC := Lib.hid (Kd.C_below hC HB.out)
  have hkl : ks.length ≤ 9223372036854775807 := hC.2.1
  have HL := Lib.hid hlim
  have HIH := Lib.hid IH
  have b1 : (o == 1) = false := by simp [ho1]
  have b2 : (o == 2) = false := by simp [ho2]
  have b3 : (o == 3) = false := by simp [ho3]
  clear hm hC hlim IH
  generalize hR : rc o 0 false (ks.map (wh m)) = R
  have HR := Lib.hid hR
  clear hR
  obtain ⟨R1, R2⟩ := R
  go_enter Tryz.func58, Tryz.ntmps58
  go_wp2
  generalize W.alloc (.cells #[.int .i64 o, .int .i64 dd, .string nm, .slice A ks.length c] 95 (0, 0)) = W1 at *
  go_loopw [7, 8, 9] (fun v7 v8 v9 wr => ∃ (k : Nat) (b : Int) (q : Bool), v9 = .int .i64 k ∧ k ≤ ks.length ∧ v7 = .int .i64 b ∧ v8 = .bool q ∧ Aside0 ((R1, R2) = rc o b q ((ks.drop k).map (wh m))) ∧ Aside0 (Below W1.heap.size W1 wr)) (fun v7 v8 v9 _ => ks.length - (intOf v9).toNat)
  case atStart => exact ⟨0, 0, false, rfl, Nat.zero_le _, rfl, rfl, ⟨by rw [List.drop_zero]; exact HR.out.symm⟩, ⟨Below.refl _ _⟩⟩
  case round =>
    obtain ⟨k, b, q, rfl, hk, rfl, rfl, HI, HBW⟩ := hrel
    have HY2 := Lib.hid ((HBW.out.block W.heap.size (blk_lt HY.out)).trans HY.out)
    have q0 : wr.cell? ⟨W.heap.size, 0, none⟩ = some (.int .i64 o) := (blk_cell HY2.out 0).trans rfl
    have q3 : wr.cell? ⟨W.heap.size, 3, none⟩ = some (.slice A ks.length c) := (blk_cell HY2.out 3).trans rfl
    by_cases hlt : k < ks.length
    · have hlt2 : (k : Int) < (ks.length : Int) := by omega
      obtain ⟨ad, A4, c4, e, h0, h1, h2, h3, hl4, hC4⟩ := at_T95 (Kd.C_below HC.out HBW.out) (k : Int) (by omega) (by omega)
      subst e
      simp only [Int.toNat_natCast] at h0 h1 h2 h3
      have HDR := Lib.hid (show ks.drop k = rd_T95 ks (k : Int) :: ks.drop (k + 1) from drop_rd24 hlt)
      have hly := HL.out _ (rd_mem95 hlt)
      generalize rd_T95 ks (k : Int) = y at *
      have HCALL := Lib.hid (HIH.out y A4 c4 m Am cm wr hly hC4 hl4 (Kd.C_below HM.out HBW.out) hcm)
      clear hC4 hl4 hly
      have HI2 := Lib.hid (show (R1, R2) = rc o b q (wh m y :: (ks.drop (k + 1)).map (wh m)) from by rw [HI.out, HDR.out]; rfl)
      generalize wh m y = z at *
      obtain ⟨z1, z2⟩ := z
      go_wp2_with fail
      refine HCALL.out.mono ?_
      rintro e w2 ⟨rfl, hb⟩
      have HB2 := Lib.hid (below_tr HBW.out hb)
      have HY3 := Lib.hid ((hb.block W.heap.size (blk_lt HY2.out)).trans HY2.out)
      clear hb q0 q3 h0 h1 h2 h3
      have q0 : w2.cell? ⟨W.heap.size, 0, none⟩ = some (.int .i64 o) := (blk_cell HY3.out 0).trans rfl
      go_wp2
      all_goals first
        | (go_roundw
           case rel => exact ⟨k + 1, _, _, by go_num, by omega, rfl, rfl, ⟨by rw [HI2.out]; simp [rc, ho2, ho3]⟩, ⟨HB2.out⟩⟩
           case measure => simp [intOf]; omega)
        | (have HE := Lib.hid (show (R1, R2) = (0, false) from by rw [HI2.out]; simp [rc, ho2, ho3])
           have e1 := (Prod.mk.inj HE.out).1
           have e2 := (Prod.mk.inj HE.out).2
           subst e1
           subst e2
           go_ret2
           exact ⟨rfl, below_tr HB.out HB2.out⟩)
    · have HE := Lib.hid (show (R1, R2) = (b, q) from by rw [HI.out, List.drop_of_length_le (by omega)]; rfl)
      have e1 := (Prod.mk.inj HE.out).1
      have e2 := (Prod.mk.inj HE.out).2
      subst e1
      subst e2
      go_wp2
      go_ret2
      exact ⟨rfl, below_tr HB.out HBW.out⟩

/-- The document's When is wh too. -/
theorem WhenR_any : ∀ d, WhenR d
  | 0 => fun x A c m Am cm W h => absurd h id
  | d + 1 => by
    intro x A c m Am cm W hlim hC hl hm hcm
    obtain ⟨o, dd, nm, ks⟩ := x
    have hl2 : ∀ y ∈ ks, lim d y := hlim.2
    simp only at hC hl
    by_cases h1 : o = 1
    · subst h1; exact WhenR_1 dd nm ks A c m Am cm W hm
    have e : wh m ⟨o, dd, nm, ks⟩ = rc o 0 false (ks.map (wh m)) := by rw [wh_eq, if_neg h1, rc_comb]
    rw [e]
    by_cases h2 : o = 2
    · subst h2; exact WhenR_k2 d (WhenR_any d) dd nm ks hl2 A c m Am cm W hC hm hcm
    by_cases h3 : o = 3
    · subst h3; exact WhenR_k3 d (WhenR_any d) dd nm ks hl2 A c m Am cm W hC hm hcm
    exact WhenR_k d (WhenR_any d) o h1 h2 h3 dd nm ks hl2 A c m Am cm W hC hm hcm
end Go.Proofs.YtafigkikblpbnaaGreat.PG
namespace Go.Proofs.YtafigkikblpbnaaGreat.PG
open Go.RowKit Go.Proofs.YtafigkikblpbnaaGreatW.PrintWords Go.Proofs.YtafigkikblpbnaaGreatW.PrintLast Go.Proofs.YtafigkikblpbnaaGreatW.PrintMore
set_option linter.unusedVariables false
set_option linter.unusedSimpArgs false
set_option maxRecDepth 100000
/-! ### hanaperref19_Miles: function 59 -/
def hanaperref19_Miles.f (a0_0 : ByteArray) (a0_1 : ByteArray) (a0_2 : ByteArray) (a0_3 : ByteArray) (a0_4 : Int) (a0_5 : Int) (a1_0 : ByteArray) (l1_1 : List (S134)) : Option ((List (S134))) := (some (([(⟨(⟨#[105, 110, 103, 101, 115, 116]⟩ : ByteArray), a0_4⟩ : S134)] : List (S134)) : List (S134))).bind fun y363 => (if y363.length + l1_1.length < 5864062014805 then (some (y363 ++ l1_1)) else (none))
set_option maxHeartbeats 8000000 in
set_option maxRecDepth 100000 in
theorem hanaperref19_Miles.calls (a0_0 : ByteArray) (a0_1 : ByteArray) (a0_2 : ByteArray) (a0_3 : ByteArray) (a0_4 : Int) (a0_5 : Int) (a1_0 : ByteArray) (A1_1 : Option Addr) (c1_1 : Nat) (l1_1 : List (S134)) (r : List (S134)) (w : World) (hr1_1 : Kd.C k134 w A1_1 l1_1.length l1_1) (hc1_1 : l1_1.length ≤ c1_1) (h : hanaperref19_Miles.f a0_0 a0_1 a0_2 a0_3 a0_4 a0_5 a1_0 l1_1 = some r) :
    Calls Tryz.prog 59 #[.agg #[.string a0_0, .string a0_1, .string a0_2, .string a0_3, .int .i64 a0_4, .int .i64 a0_5], .agg #[.string a1_0, .slice A1_1 l1_1.length c1_1]] w fun e w' => ∃ v0_ : Value, e = .returned (v0_) ∧ Kd.R k134 134 w' w.heap.size (fun _ => True) v0_ r ∧ Below w.heap.size w w' := by
  have hu73 := Tryz.underlying73
  have hu59 := Tryz.underlying59
  have hu134 := Tryz.underlying134
  have HR1_1 := Aside0.mk hr1_1
  have HC1_1 := Aside0.mk hc1_1
  clear hr1_1 hc1_1
  have HB := Aside0.mk (Below.refl w.heap.size w)
  have H : ((some (([(⟨(⟨#[105, 110, 103, 101, 115, 116]⟩ : ByteArray), a0_4⟩ : S134)] : List (S134)) : List (S134))).bind fun y363 => (if y363.length + l1_1.length < 5864062014805 then (some (y363 ++ l1_1)) else (none))) = some r := h
  clear h
  obtain ⟨y363, hy363⟩ : ∃ y_ : List (S134), y_ = (([(⟨(⟨#[105, 110, 103, 101, 115, 116]⟩ : ByteArray), a0_4⟩ : S134)] : List (S134))) := ⟨_, rfl⟩
  replace H : (if y363.length + l1_1.length < 5864062014805 then (some (y363 ++ l1_1)) else (none)) = some r := by first | (rw [hy363]; with_reducible exact H) | (have H2_ := (Option.bind_some _ _).symm.trans H; rw [hy363]; with_reducible exact H2_) | (have H2_ := (Option.bind_some _ _).symm.trans H; with_reducible exact H2_) | with_reducible exact H | (rw [hy363]; exact H) | exact H
  have Ny363 := Aside0.mk hy363
  clear hy363
  by_cases c3 : y363.length + l1_1.length < 5864062014805
  · rw [if_pos c3] at H
    have LMc3 := Aside0.mk c3
    clear c3
    obtain ⟨y366, hy366⟩ : ∃ y_ : List (S134), y_ = (y363 ++ l1_1) := ⟨_, rfl⟩
    replace H : (some y366) = some r := by first | (rw [hy366]; with_reducible exact H) | (have H2_ := (Option.bind_some _ _).symm.trans H; rw [hy366]; with_reducible exact H2_) | (have H2_ := (Option.bind_some _ _).symm.trans H; with_reducible exact H2_) | with_reducible exact H | (rw [hy366]; exact H) | exact H
    have Ny366 := Aside0.mk hy366
    clear hy366
    obtain rfl := Option.some.inj H
    go_enter Tryz.func59, Tryz.ntmps59
    go_wp2_with (first | ((with_reducible refine gate_dst (N := 2) rfl ?_); refine box_event ?hg (N := 2) ?hd (cs := #[.string a0_0, .string a0_1, .string a0_2, .string a0_3, .int .i64 a0_4, .int .i64 a0_5]) (t := 73) ?hr ?_; (case hd => rfl); (case hg => rfl); (case hr => first | (go_simp; done) | (go_simp; rfl)); intro gb361 hg w4 hbox hb; have n0_ := Aside0.mk (below_step (by repeat (first | (with_reducible first | exact HB.out | apply below_alloc | apply pw_below_drewN | apply below_drew1) | exact HB.out)) hb); have n1_ := Aside0.mk (hbox); have n2_ := Aside0.mk ((by rw [hg]; exact (below_size (by repeat (first | (with_reducible first | exact HB.out | apply below_alloc | apply pw_below_drewN | apply below_drew1) | exact HB.out))) : w.heap.size ≤ gb361)); have n3_ := Aside0.mk ((by rw [hg]; exact (below_size (by repeat (first | (with_reducible first | exact HB.out | apply below_alloc | apply pw_below_drewN | apply below_drew1) | exact HB.out))) : w.heap.size ≤ gb361)); clear HB; have HB := n0_; have BK361 := n1_; have GW361 := n2_; have GE361 := n3_; clear n0_ n1_ n2_ n3_; clear hb hbox hg) | ((with_reducible refine gate_dst (N := 3) rfl ?_); refine box_event ?hg (N := 3) ?hd (cs := #[.string a1_0, .slice A1_1 l1_1.length c1_1]) (t := 59) ?hr ?_; (case hd => rfl); (case hg => rfl); (case hr => first | (go_simp; done) | (go_simp; rfl)); intro gb362 hg w5 hbox hb; have n0_ := Aside0.mk (blk_below (g := gb361) (o := .cells #[.string a0_0, .string a0_1, .string a0_2, .string a0_3, .int .i64 a0_4, .int .i64 a0_5] 73 (0, 0)) (by (with_reducible repeat (first | refine blk_drewN ?_ _ | refine blk_drew ?_ | refine blk_alloc ?_ _)); exact BK361.out) hb); have n1_ := Aside0.mk (below_step (by repeat (first | (with_reducible first | exact HB.out | apply below_alloc | apply pw_below_drewN | apply below_drew1 | refine below_set ?_ GE361.out) | exact HB.out)) hb); have n2_ := Aside0.mk (hbox); have n3_ := Aside0.mk ((by rw [hg]; exact (below_size (by repeat (first | (with_reducible first | exact HB.out | apply below_alloc | apply pw_below_drewN | apply below_drew1 | refine below_set ?_ GE361.out) | exact HB.out))) : w.heap.size ≤ gb362)); have n4_ := Aside0.mk ((by rw [hg]; exact (below_size (by repeat (first | (with_reducible first | exact HB.out | apply below_alloc | apply pw_below_drewN | apply below_drew1 | refine below_set ?_ GE361.out) | exact HB.out))) : w.heap.size ≤ gb362)); have n5_ := Aside0.mk ((by rw [hg]; exact Nat.ne_of_lt (blk_lt (g := gb361) (o := .cells #[.string a0_0, .string a0_1, .string a0_2, .string a0_3, .int .i64 a0_4, .int .i64 a0_5] 73 (0, 0)) (by (with_reducible repeat (first | refine blk_drewN ?_ _ | refine blk_drew ?_ | refine blk_alloc ?_ _)); exact BK361.out)) : gb361 ≠ gb362)); have n6_ := Aside0.mk ((by rw [hg]; exact Nat.ne_of_gt (blk_lt (g := gb361) (o := .cells #[.string a0_0, .string a0_1, .string a0_2, .string a0_3, .int .i64 a0_4, .int .i64 a0_5] 73 (0, 0)) (by (with_reducible repeat (first | refine blk_drewN ?_ _ | refine blk_drew ?_ | refine blk_alloc ?_ _)); exact BK361.out)) : gb362 ≠ gb361)); clear BK361; clear HB; have BK361 := n0_; have HB := n1_; have BK362 := n2_; have GW362 := n3_; have GE362 := n4_; have NB361_362 := n5_; have NB362_361 := n6_; clear n0_ n1_ n2_ n3_ n4_ n5_ n6_; clear hb hbox hg; have hnb6 := NB361_362.out; have hnc6 := NB362_361.out; have hcz7_0 : w5.cell? ⟨gb361, 0, none⟩ = some (.string a0_0) := (blk_cell BK361.out 0).trans rfl; have hcz7_1 : w5.cell? ⟨gb361, 1, none⟩ = some (.string a0_1) := (blk_cell BK361.out 1).trans rfl; have hcz7_2 : w5.cell? ⟨gb361, 2, none⟩ = some (.string a0_2) := (blk_cell BK361.out 2).trans rfl; have hcz7_3 : w5.cell? ⟨gb361, 3, none⟩ = some (.string a0_3) := (blk_cell BK361.out 3).trans rfl; have hcz7_4 : w5.cell? ⟨gb361, 4, none⟩ = some (.int .i64 a0_4) := (blk_cell BK361.out 4).trans rfl; have hcz7_5 : w5.cell? ⟨gb361, 5, none⟩ = some (.int .i64 a0_5) := (blk_cell BK361.out 5).trans rfl; have hfz7_0 := blk_frozen BK361.out 0; have hfz7_1 := blk_frozen BK361.out 1; have hfz7_2 := blk_frozen BK361.out 2; have hfz7_3 := blk_frozen BK361.out 3; have hfz7_4 := blk_frozen BK361.out 4; have hfz7_5 := blk_frozen BK361.out 5) | ((with_reducible refine gate_dst (N := 8) rfl ?_); refine Kd.R_lit k134 _ 134 ?hg (N := 8) ?hd (xs := ([(⟨(⟨#[105, 110, 103, 101, 115, 116]⟩ : ByteArray), a0_4⟩ : S134)] : List (S134))) (inner := [.string (⟨#[105, 110, 103, 101, 115, 116]⟩ : ByteArray), .int .i64 a0_4]) (ok := fun _ => True) (okp := fun _ => True) ?hr ?hp (fun _ hk => hk) trivial (Below.refl _ _) (Nat.le_refl _) (by simp) ?_; (case hd => rfl); (case hg => rfl); (case hr => first | (go_simp; done) | (go_simp; rfl)); (case hp => exact (Reps.c2 (show Kd.M k134 _ _ _ (⟨(⟨#[105, 110, 103, 101, 115, 116]⟩ : ByteArray), a0_4⟩ : S134) [.string (⟨#[105, 110, 103, 101, 115, 116]⟩ : ByteArray), .int .i64 a0_4] from (k134_mkM _ _ _ (⟨(⟨#[105, 110, 103, 101, 115, 116]⟩ : ByteArray), a0_4⟩ : S134) )) (Reps.none _ _))); intro v364 w8 ho9 hb hg_ hnew_; clear hg_ hnew_; (first | rw [← Ny363.out] at ho9 | (simp only [Int.reduceToNat] at ho9; rw [← Ny363.out] at ho9)); have n0_ := Aside0.mk (Kd.R_lower ho9 (below_size (by repeat (first | (with_reducible first | exact HB.out | apply below_alloc | apply pw_below_drewN | apply below_drew1 | refine below_set ?_ GE361.out | refine below_set ?_ GE362.out) | exact HB.out)))); have n1_ := Aside0.mk (blk_below (g := gb361) (o := .cells #[.string a0_0, .string a0_1, .string a0_2, .string a0_3, .int .i64 a0_4, .int .i64 a0_5] 73 (0, 0)) (by (with_reducible repeat (first | refine blk_drewN ?_ _ | refine blk_drew ?_ | refine blk_alloc ?_ _)); exact BK361.out) hb); have n2_ := Aside0.mk (blk_below (g := gb362) (o := .cells #[.string a1_0, .slice A1_1 l1_1.length c1_1] 59 (0, 0)) (by (with_reducible repeat (first | refine blk_drewN ?_ _ | refine blk_drew ?_ | refine blk_alloc ?_ _)); exact BK362.out) hb); have n3_ := Aside0.mk (below_step (by repeat (first | (with_reducible first | exact HB.out | apply below_alloc | apply pw_below_drewN | apply below_drew1 | refine below_set ?_ GE361.out | refine below_set ?_ GE362.out) | exact HB.out)) hb); clear BK361; clear BK362; clear HB; have HO365 := n0_; have BK361 := n1_; have BK362 := n2_; have HB := n3_; clear n0_ n1_ n2_ n3_; clear hb ho9; have hcz10_0 : w8.cell? ⟨gb362, 0, none⟩ = some (.string a1_0) := (blk_cell BK362.out 0).trans rfl; have hcz10_1 : w8.cell? ⟨gb362, 1, none⟩ = some (.slice A1_1 l1_1.length c1_1) := (blk_cell BK362.out 1).trans rfl; have hfz10_0 := blk_frozen BK362.out 0; have hfz10_1 := blk_frozen BK362.out 1) | ((with_reducible refine gate_builtin (b := .append) (xs := #[.tmp 8, .tmp 10]) rfl ?_); at_builtin; refine Kd.R_append_rows k134 (w0 := w) w.heap.size rfl (.tmp 8) (.tmp 10) 57 134 (.agg #[(.string ⟨#[]⟩), (.int .i64 0)]) 24 rfl Tryz.underlying57 info134 rfl (by decide) (by omega) v364 y363 l1_1 _ _ _ (fun _ => True) (fun _ => False) rfl rfl ?aO ?aR (fun _ _ h => h) (fun _ h => h.elim) ?aF ?aB ?aS ?aL ?_; (case aR => repeat (first | exact (Kd.C_below HR1_1.out HB.out) | (with_reducible refine Kd.C_alloc ?_ _) | (with_reducible refine Kd.C_drewN ?_ _) | (with_reducible refine Kd.C_drew ?_))); (case aB => exact (by repeat (first | (with_reducible first | exact HB.out | apply below_alloc | apply pw_below_drewN | apply below_drew1 | refine below_set ?_ GE361.out | refine below_set ?_ GE362.out) | exact HB.out))); (case aF => exact (fun _ _ => trivial)); (case aO => exact (by (with_reducible repeat (first | apply Kd.R_alloc | apply Kd.R_drewN | apply Kd.R_drew)); exact HO365.out)); (case aS => exact (below_size (by repeat (first | (with_reducible first | exact HB.out | apply below_alloc | apply pw_below_drewN | apply below_drew1 | refine below_set ?_ GE361.out | refine below_set ?_ GE362.out) | exact HB.out)))); (case aL => have := LMc3.out; omega); intro v367 w11 ho hb hg hat; rw [← Ny366.out] at ho; have n0_ := Aside0.mk (blk_grown (g := gb361) (o := .cells #[.string a0_0, .string a0_1, .string a0_2, .string a0_3, .int .i64 a0_4, .int .i64 a0_5] 73 (0, 0)) (by (with_reducible repeat (first | refine blk_drewN ?_ _ | refine blk_drew ?_ | refine blk_alloc ?_ _)); exact BK361.out) hg (Kd.R_ne HO365.out BK361.out (by decide))); have n1_ := Aside0.mk (blk_grown (g := gb362) (o := .cells #[.string a1_0, .slice A1_1 l1_1.length c1_1] 59 (0, 0)) (by (with_reducible repeat (first | refine blk_drewN ?_ _ | refine blk_drew ?_ | refine blk_alloc ?_ _)); exact BK362.out) hg (Kd.R_ne HO365.out BK362.out (by decide))); have n2_ := Aside0.mk (hb); have n3_ := Aside0.mk (ho); clear BK361; clear BK362; clear HB; clear HO365; have BK361 := n0_; have BK362 := n1_; have HB := n2_; have HO368 := n3_; clear n0_ n1_ n2_ n3_; clear ho hb hg hat))
    go_ret
    exact ⟨_, by first | rfl | (simp [errW_none, errW_some] <;> rfl) | (simp [*, errW_none, errW_some] <;> rfl), by (with_reducible repeat (first | apply Kd.R_alloc | apply Kd.R_drewN | apply Kd.R_drew)); exact HO368.out, by repeat (first | (with_reducible first | exact HB.out | apply below_alloc | apply pw_below_drewN | apply below_drew1 | refine below_set ?_ GE361.out | refine below_set ?_ GE362.out) | exact HB.out)⟩
  · rw [if_neg c3] at H
    exact absurd H (by simp)

end Go.Proofs.YtafigkikblpbnaaGreat.PG
namespace Go.Proofs.YtafigkikblpbnaaGreat.PG
open Go.RowKit Go.Proofs.YtafigkikblpbnaaGreatW.PrintWords Go.Proofs.YtafigkikblpbnaaGreatW.PrintLast Go.Proofs.YtafigkikblpbnaaGreatW.PrintMore
set_option linter.unusedVariables false
set_option linter.unusedSimpArgs false
set_option maxRecDepth 100000

theorem nil_list : (⟨#[]⟩ : ByteArray).toList = [] := by rw [ByteArray.toList_eq]
/-- It answers a rule, and whether there is one. -/
def RFind (r : S97 × Bool) (W : World) (e : Ending) (w' : World) : Prop := ∃ (A : Option Addr) (c : Nat), e = .returned (.tuple #[.agg #[.string r.1.f0, .int .i64 r.1.f1.f0, .int .i64 r.1.f1.f1, .string r.1.f1.f2, .slice A r.1.f1.f3.length c, .int .i64 r.1.f2], .bool r.2]) ∧ r.1.f1.f3.length ≤ c ∧ Kd.C k95 w' A r.1.f1.f3.length r.1.f1.f3 ∧ Below W.heap.size W w'
set_option maxHeartbeats 4000000 in
theorem FindR_any (l : List S97) (A : Option Addr) (c : Nat) (a : ByteArray) (W : World) (hC : Kd.C k97 W A l.length l) : Calls Tryz.prog 57 #[.slice A l.length c, .string a] W (RFind (find2 l a) W) := by
  have HB := Lib.hid (show Below W.heap.size W (W.alloc (.cells #[.string (⟨#[]⟩ : ByteArray), .int .i64 0, .int .i64 0, .string (⟨#[]⟩ : ByteArray), .slice none 0 0, .int .i64 0] 97 (0, 0))) from below_alloc (Below.refl _ _) _)
  have HY := Lib.hid (new_blk W (.cells #[.string (⟨#[]⟩ : ByteArray), .int .i64 0, .int .i64 0, .string (⟨#[]⟩ : ByteArray), .slice none 0 0, .int .i64 0] 97 (0, 0)))
  have HC := Lib.hid hC
  have hm : l.length ≤ 9223372036854775807 := hC.2.1
  clear hC
  go_enter Tryz.func57, Tryz.ntmps57
  go_wp2
  generalize W.alloc (.cells #[.string (⟨#[]⟩ : ByteArray), .int .i64 0, .int .i64 0, .string (⟨#[]⟩ : ByteArray), .slice none 0 0, .int .i64 0] 97 (0, 0)) = W1 at *

  go_loopw [6] (fun v wr => ∃ k : Nat, v = .int .i64 k ∧ k ≤ l.length ∧ Aside0 (wr = W1) ∧ Aside0 (ix (isN a) l 0 = ix (isN a) (l.drop k) k)) (fun v _ => l.length - (intOf v).toNat)
  case atStart => exact ⟨0, rfl, Nat.zero_le _, ⟨rfl⟩, ⟨by rw [List.drop_zero]⟩⟩
  case round =>
    obtain ⟨k, rfl, hk, HW, HI⟩ := hrel
    obtain rfl := HW.out.symm
    by_cases hlt : k < l.length
    · have hlt2 : (k : Int) < (l.length : Int) := by omega
      obtain ⟨ad, A4, c4, e, h0, h1, h2, h3, h4, h5, hl4, hC4⟩ := at_T97 HC.out (k : Int) (by omega) (by omega)
      subst e
      simp only [Int.toNat_natCast] at h0 h1 h2 h3 h4 h5
      replace h0 := below_cell HB.out h0
      replace h1 := below_cell HB.out h1
      replace h2 := below_cell HB.out h2
      replace h3 := below_cell HB.out h3
      replace h4 := below_cell HB.out h4
      replace h5 := below_cell HB.out h5
      have HI2 := Lib.hid (show ix (isN a) l 0 = if isN a (rd_T97 l (k : Int)) = true then (k : Int) else ix (isN a) (l.drop (k + 1)) (k + 1) by rw [HI.out, drop_rd49 hlt]; rfl)
      cases hnm : isN a (rd_T97 l (k : Int))
      · have hnm2 : ((rd_T97 l (k : Int)).f0.toList == (a : ByteArray).toList) = false := hnm
        have HI3 := Lib.hid (show ix (isN a) l 0 = ix (isN a) (l.drop (k + 1)) (k + 1) by rw [HI2.out, if_neg (by rw [hnm]; decide)])
        clear hnm hC4 hl4 h1 h2 h3 h4 h5
        generalize rd_T97 l (k : Int) = y at *
        go_wp2
        go_roundw
        case rel => exact ⟨k + 1, by go_num, by omega, ⟨by first | rfl | trivial⟩, ⟨HI3.out⟩⟩
        case measure => simp [intOf]; omega
      · have hnm2 : ((rd_T97 l (k : Int)).f0.toList == (a : ByteArray).toList) = true := hnm
        have HI3 := Lib.hid (show ix (isN a) l 0 = (k : Int) by rw [HI2.out, if_pos hnm])
        have HX := Lib.hid (show find2 l a = (rd_T97 l (k : Int), true) from by unfold find2; rw [HI3.out, if_pos (by omega)])
        obtain ⟨x, hx⟩ : ∃ x, x = rd_T97 l (k : Int) := ⟨_, rfl⟩
        rw [HX.out, ← hx]
        rw [← hx] at h0 h1 h2 h3 h4 h5 hl4 hC4 hnm2
        have HC4 := Lib.hid hC4
        have HL4 := Lib.hid hl4
        clear hx hC4 hl4 hnm
        have q0 := (blk_cell HY.out 0).trans rfl; have z0 := blk_frozen HY.out 0; have q1 := (blk_cell HY.out 1).trans rfl; have z1 := blk_frozen HY.out 1; have q2 := (blk_cell HY.out 2).trans rfl; have z2 := blk_frozen HY.out 2; have q3 := (blk_cell HY.out 3).trans rfl; have z3 := blk_frozen HY.out 3; have q4 := (blk_cell HY.out 4).trans rfl; have z4 := blk_frozen HY.out 4; have q5 := (blk_cell HY.out 5).trans rfl; have z5 := blk_frozen HY.out 5
        go_wp2
        refine bodyPost_ret (results_ct rfl _ _ W.heap.size 97 #[.string x.f0, .int .i64 x.f1.f0, .int .i64 x.f1.f1, .string x.f1.f2, .slice A4 x.f1.f3.length c4, .int .i64 x.f2] (0, 0) _ rfl (by refine blk_put (cs := #[.string x.f0, .int .i64 x.f1.f0, .int .i64 x.f1.f1, .string x.f1.f2, .slice A4 x.f1.f3.length c4, .int .i64 0]) ?_ 5 _ rfl; refine blk_put (cs := #[.string x.f0, .int .i64 x.f1.f0, .int .i64 x.f1.f1, .string x.f1.f2, .slice none 0 0, .int .i64 0]) ?_ 4 _ rfl; refine blk_put (cs := #[.string x.f0, .int .i64 x.f1.f0, .int .i64 x.f1.f1, .string (⟨#[]⟩ : ByteArray), .slice none 0 0, .int .i64 0]) ?_ 3 _ rfl; refine blk_put (cs := #[.string x.f0, .int .i64 x.f1.f0, .int .i64 0, .string (⟨#[]⟩ : ByteArray), .slice none 0 0, .int .i64 0]) ?_ 2 _ rfl; refine blk_put (cs := #[.string x.f0, .int .i64 0, .int .i64 0, .string (⟨#[]⟩ : ByteArray), .slice none 0 0, .int .i64 0]) ?_ 1 _ rfl; refine blk_put (cs := #[.string (⟨#[]⟩ : ByteArray), .int .i64 0, .int .i64 0, .string (⟨#[]⟩ : ByteArray), .slice none 0 0, .int .i64 0]) ?_ 0 _ rfl; exact HY.out) Tryz.underlying97 rfl (by kernel_rfl)) rfl ?_
        exact ⟨A4, c4, rfl, HL4.out, Kd.C_below HC4.out (below_set (below_set (below_set (below_set (below_set (below_set HB.out (Nat.le_refl _)) (Nat.le_refl _)) (Nat.le_refl _)) (Nat.le_refl _)) (Nat.le_refl _)) (Nat.le_refl _)), (below_set (below_set (below_set (below_set (below_set (below_set HB.out (Nat.le_refl _)) (Nat.le_refl _)) (Nat.le_refl _)) (Nat.le_refl _)) (Nat.le_refl _)) (Nat.le_refl _))⟩
    · have hk2 : k = l.length := by omega
      have HN1 := Lib.hid (show ix (isN a) l 0 = -1 from by rw [HI.out, hk2, List.drop_of_length_le (Nat.le_refl _)]; rfl)
      clear hk2
      go_wp2
      go_loopw [7] (fun v wr => ∃ k : Nat, v = .int .i64 k ∧ k ≤ l.length ∧ Aside0 (wr = W1) ∧ Aside0 (ix (isN ⟨#[]⟩) l 0 = ix (isN ⟨#[]⟩) (l.drop k) k)) (fun v _ => l.length - (intOf v).toNat)
      case atStart => exact ⟨0, rfl, Nat.zero_le _, ⟨rfl⟩, ⟨by rw [List.drop_zero]⟩⟩
      case round =>
        obtain ⟨k, rfl, hk, HW, HI⟩ := hrel
        obtain rfl := HW.out.symm
        by_cases hlt : k < l.length
        · have hlt2 : (k : Int) < (l.length : Int) := by omega
          obtain ⟨ad, A4, c4, e, h0, h1, h2, h3, h4, h5, hl4, hC4⟩ := at_T97 HC.out (k : Int) (by omega) (by omega)
          subst e
          simp only [Int.toNat_natCast] at h0 h1 h2 h3 h4 h5
          replace h0 := below_cell HB.out h0
          replace h1 := below_cell HB.out h1
          replace h2 := below_cell HB.out h2
          replace h3 := below_cell HB.out h3
          replace h4 := below_cell HB.out h4
          replace h5 := below_cell HB.out h5
          have HI2 := Lib.hid (show ix (isN ⟨#[]⟩) l 0 = if isN ⟨#[]⟩ (rd_T97 l (k : Int)) = true then (k : Int) else ix (isN ⟨#[]⟩) (l.drop (k + 1)) (k + 1) by rw [HI.out, drop_rd49 hlt]; rfl)
          cases hnm : isN ⟨#[]⟩ (rd_T97 l (k : Int))
          · have hnm2 : ((rd_T97 l (k : Int)).f0.toList == (⟨#[]⟩ : ByteArray).toList) = false := hnm
            have hnm4 : ((rd_T97 l (k : Int)).f0.toList == []) = false := by rw [← hnm]; unfold isN; rw [nil_list]
            have hnm3 : (rd_T97 l (k : Int)).f0.toList.isEmpty = false := by rw [← hnm4]; cases (rd_T97 l (k : Int)).f0.toList <;> rfl
            have HI3 := Lib.hid (show ix (isN ⟨#[]⟩) l 0 = ix (isN ⟨#[]⟩) (l.drop (k + 1)) (k + 1) by rw [HI2.out, if_neg (by rw [hnm]; decide)])
            clear hnm hC4 hl4 h1 h2 h3 h4 h5
            generalize rd_T97 l (k : Int) = y at *
            go_wp2
            go_roundw
            case rel => exact ⟨k + 1, by go_num, by omega, ⟨by first | rfl | trivial⟩, ⟨HI3.out⟩⟩
            case measure => simp [intOf]; omega
          · have hnm2 : ((rd_T97 l (k : Int)).f0.toList == (⟨#[]⟩ : ByteArray).toList) = true := hnm
            have hnm4 : ((rd_T97 l (k : Int)).f0.toList == []) = true := by rw [← hnm]; unfold isN; rw [nil_list]
            have hnm3 : (rd_T97 l (k : Int)).f0.toList.isEmpty = true := by rw [← hnm4]; cases (rd_T97 l (k : Int)).f0.toList <;> rfl
            have HI3 := Lib.hid (show ix (isN ⟨#[]⟩) l 0 = (k : Int) by rw [HI2.out, if_pos hnm])
            have HX := Lib.hid (show find2 l a = (rd_T97 l (k : Int), true) from by unfold find2; rw [HN1.out, if_neg (by decide), HI3.out, if_pos (by omega)])
            obtain ⟨x, hx⟩ : ∃ x, x = rd_T97 l (k : Int) := ⟨_, rfl⟩
            rw [HX.out, ← hx]
            rw [← hx] at h0 h1 h2 h3 h4 h5 hl4 hC4 hnm2 hnm3 hnm4
            have HC4 := Lib.hid hC4
            have HL4 := Lib.hid hl4
            clear hx hC4 hl4 hnm
            have q0 := (blk_cell HY.out 0).trans rfl; have z0 := blk_frozen HY.out 0; have q1 := (blk_cell HY.out 1).trans rfl; have z1 := blk_frozen HY.out 1; have q2 := (blk_cell HY.out 2).trans rfl; have z2 := blk_frozen HY.out 2; have q3 := (blk_cell HY.out 3).trans rfl; have z3 := blk_frozen HY.out 3; have q4 := (blk_cell HY.out 4).trans rfl; have z4 := blk_frozen HY.out 4; have q5 := (blk_cell HY.out 5).trans rfl; have z5 := blk_frozen HY.out 5
            go_wp2
            refine bodyPost_ret (results_ct rfl _ _ W.heap.size 97 #[.string x.f0, .int .i64 x.f1.f0, .int .i64 x.f1.f1, .string x.f1.f2, .slice A4 x.f1.f3.length c4, .int .i64 x.f2] (0, 0) _ rfl (by refine blk_put (cs := #[.string x.f0, .int .i64 x.f1.f0, .int .i64 x.f1.f1, .string x.f1.f2, .slice A4 x.f1.f3.length c4, .int .i64 0]) ?_ 5 _ rfl; refine blk_put (cs := #[.string x.f0, .int .i64 x.f1.f0, .int .i64 x.f1.f1, .string x.f1.f2, .slice none 0 0, .int .i64 0]) ?_ 4 _ rfl; refine blk_put (cs := #[.string x.f0, .int .i64 x.f1.f0, .int .i64 x.f1.f1, .string (⟨#[]⟩ : ByteArray), .slice none 0 0, .int .i64 0]) ?_ 3 _ rfl; refine blk_put (cs := #[.string x.f0, .int .i64 x.f1.f0, .int .i64 0, .string (⟨#[]⟩ : ByteArray), .slice none 0 0, .int .i64 0]) ?_ 2 _ rfl; refine blk_put (cs := #[.string x.f0, .int .i64 0, .int .i64 0, .string (⟨#[]⟩ : ByteArray), .slice none 0 0, .int .i64 0]) ?_ 1 _ rfl; refine blk_put (cs := #[.string (⟨#[]⟩ : ByteArray), .int .i64 0, .int .i64 0, .string (⟨#[]⟩ : ByteArray), .slice none 0 0, .int .i64 0]) ?_ 0 _ rfl; exact HY.out) Tryz.underlying97 rfl (by kernel_rfl)) rfl ?_
            exact ⟨A4, c4, rfl, HL4.out, Kd.C_below HC4.out (below_set (below_set (below_set (below_set (below_set (below_set HB.out (Nat.le_refl _)) (Nat.le_refl _)) (Nat.le_refl _)) (Nat.le_refl _)) (Nat.le_refl _)) (Nat.le_refl _)), (below_set (below_set (below_set (below_set (below_set (below_set HB.out (Nat.le_refl _)) (Nat.le_refl _)) (Nat.le_refl _)) (Nat.le_refl _)) (Nat.le_refl _)) (Nat.le_refl _))⟩
        · have hk2 : k = l.length := by omega
          have HN2 := Lib.hid (show ix (isN ⟨#[]⟩) l 0 = -1 from by rw [HI.out, hk2, List.drop_of_length_le (Nat.le_refl _)]; rfl)
          clear hk2
          have q0 := (blk_cell HY.out 0).trans rfl; have z0 := blk_frozen HY.out 0; have q1 := (blk_cell HY.out 1).trans rfl; have z1 := blk_frozen HY.out 1; have q2 := (blk_cell HY.out 2).trans rfl; have z2 := blk_frozen HY.out 2; have q3 := (blk_cell HY.out 3).trans rfl; have z3 := blk_frozen HY.out 3; have q4 := (blk_cell HY.out 4).trans rfl; have z4 := blk_frozen HY.out 4; have q5 := (blk_cell HY.out 5).trans rfl; have z5 := blk_frozen HY.out 5
          have HX := Lib.hid (show find2 l a = (z97, false) from by unfold find2; rw [HN1.out, if_neg (by decide), HN2.out, if_neg (by decide)])
          go_wp2
          rw [HX.out]
          refine bodyPost_ret (results_ct rfl _ _ W.heap.size 97 #[.string (⟨#[]⟩ : ByteArray), .int .i64 0, .int .i64 0, .string (⟨#[]⟩ : ByteArray), .slice none 0 0, .int .i64 0] (0, 0) _ rfl (by refine blk_put (cs := #[.string (⟨#[]⟩ : ByteArray), .int .i64 0, .int .i64 0, .string (⟨#[]⟩ : ByteArray), .slice none 0 0, .int .i64 0]) ?_ 5 _ rfl; refine blk_put (cs := #[.string (⟨#[]⟩ : ByteArray), .int .i64 0, .int .i64 0, .string (⟨#[]⟩ : ByteArray), .slice none 0 0, .int .i64 0]) ?_ 4 _ rfl; refine blk_put (cs := #[.string (⟨#[]⟩ : ByteArray), .int .i64 0, .int .i64 0, .string (⟨#[]⟩ : ByteArray), .slice none 0 0, .int .i64 0]) ?_ 3 _ rfl; refine blk_put (cs := #[.string (⟨#[]⟩ : ByteArray), .int .i64 0, .int .i64 0, .string (⟨#[]⟩ : ByteArray), .slice none 0 0, .int .i64 0]) ?_ 2 _ rfl; refine blk_put (cs := #[.string (⟨#[]⟩ : ByteArray), .int .i64 0, .int .i64 0, .string (⟨#[]⟩ : ByteArray), .slice none 0 0, .int .i64 0]) ?_ 1 _ rfl; refine blk_put (cs := #[.string (⟨#[]⟩ : ByteArray), .int .i64 0, .int .i64 0, .string (⟨#[]⟩ : ByteArray), .slice none 0 0, .int .i64 0]) ?_ 0 _ rfl; exact HY.out) Tryz.underlying97 rfl (by kernel_rfl)) rfl ?_
          exact ⟨none, 0, rfl, Nat.le_refl _, Kd.C_nil _ _, (below_set (below_set (below_set (below_set (below_set (below_set HB.out (Nat.le_refl _)) (Nat.le_refl _)) (Nat.le_refl _)) (Nat.le_refl _)) (Nat.le_refl _)) (Nat.le_refl _))⟩

theorem FindP_any (l : List S97) (A : Option Addr) (c : Nat) (a : ByteArray) (W : World) (hC : Kd.C k97 W A l.length l) (hl : l.length ≤ c) : Calls Tryz.prog 81 #[.slice A l.length c, .string a] W (RFind (find2 l a) W) := by
  refine (find_any (fun k => k < W.heap.size) A c l a W (Kd.V_mk hl (Kd.C_F k97_heap hC)) (find2 l a).1 (find2 l a).2 rfl).mono ?_
  rintro e w' ⟨v, rfl, hv, hb⟩
  obtain ⟨A', c', rfl, hc', hf'⟩ := hv
  exact ⟨A', c', rfl, hc', Kd.F_now hf', hb⟩
/-- It answers a list of milestones. -/
def RMi (l : List S134) (W : World) (e : Ending) (w' : World) : Prop := ∃ (A : Option Addr) (c : Nat), e = .returned (.slice A l.length c) ∧ l.length ≤ c ∧ Kd.C k134 w' A l.length l ∧ Below W.heap.size W w'
set_option maxHeartbeats 2000000 in
theorem Concat_any (b : Nat) (xs ys : List S134) (A1 A2 : Option Addr) (c1 c2 : Nat) (W : World) (hb : W.heap[b]? = some (.cells #[.slice A1 xs.length c1, .slice A2 ys.length c2] 57 (0, 0))) (hC1 : Kd.C k134 W A1 xs.length xs) (hC2 : Kd.C k134 W A2 ys.length ys) (hx : xs.length ≤ 1000) (hy : ys.length ≤ 1000) :
    Calls Tryz.prog 128 #[.slice (some ⟨b, 0, none⟩) 2 2] W (RMi (xs ++ ys) W) := by
  have HBK := Lib.hid hb
  have HC1 := Lib.hid hC1
  have HC2 := Lib.hid hC2
  have HX := Lib.hid hx
  have HY := Lib.hid hy
  have hx2 : (xs.length : Int) ≤ 1000 := by omega
  have hy2 : (ys.length : Int) ≤ 1000 := by omega
  have hx3 : (0 : Int) ≤ (xs.length : Int) := by omega
  have hy3 : (0 : Int) ≤ (ys.length : Int) := by omega
  have q0 : W.cell? ⟨b, 0, none⟩ = some (.slice A1 xs.length c1) := (blk_cell hb 0).trans rfl
  have q1 : W.cell? ⟨b, 1, none⟩ = some (.slice A2 ys.length c2) := (blk_cell hb 1).trans rfl
  clear hb hC1 hC2 hx hy
  have hs0 : ¬ ((xs.length : Int) < 0) := by omega
  have hs1 : ¬ ((xs.length : Int) + (ys.length : Int) < 0) := by omega
  have hw2 : IntKind.i64.wrap ((xs.length : Int) + (ys.length : Int)) = (xs.length : Int) + (ys.length : Int) := by rw [i64_w]; unfold wrap64; omega
  have hw3 : IntKind.i64.wrap (xs.length : Int) = (xs.length : Int) := by rw [i64_w]; unfold wrap64; omega
  have HG := Lib.hid (grow_any ((xs.length : Int) + (ys.length : Int)) W (by omega) (by omega))
  clear hx2 hy2 hx3 hy3
  go_enter Tryz.func128, Tryz.ntmps128
  go_wp2
  go_loopw [3, 11] (fun v3 v11 wr => ∃ k : Nat, v11 = .int .i64 k ∧ k ≤ 2 ∧ v3 = .int .i64 (if k = 0 then 0 else if k = 1 then (xs.length : Int) else (xs.length : Int) + (ys.length : Int)) ∧ Aside0 (wr = W)) (fun _ v11 _ => 2 - (intOf v11).toNat)
  case atStart => exact ⟨0, rfl, by omega, rfl, ⟨rfl⟩⟩
  case round =>
    obtain ⟨k, rfl, hk, rfl, HW⟩ := hrel
    obtain rfl := HW.out.symm
    have hk3 : k = 0 ∨ k = 1 ∨ k = 2 := by omega
    rcases hk3 with rfl | rfl | rfl
    · go_wp2
      go_roundw
      case rel => exact ⟨1, by go_num, by omega, by simp, ⟨by first | rfl | trivial⟩⟩
      case measure => simp [intOf]
    · go_wp2
      go_roundw
      case rel => exact ⟨2, by go_num, by omega, by simp, ⟨by first | rfl | trivial⟩⟩
      case measure => simp [intOf]
    · go_wp2_with fail
      refine HG.out.mono ?_
      rintro e w2 ⟨v0, rfl, hR, hb⟩
      have HR := Lib.hid hR
      have HB2 := Lib.hid hb
      clear hR hb q0 q1
      go_wp2
      go_loopw [6, 27] (fun v6 v27 wr => ∃ k : Nat, v27 = .int .i64 k ∧ k ≤ 2 ∧ Aside0 (Kd.R k134 134 wr W.heap.size (fun _ => True) v6 (if k = 0 then [] else if k = 1 then xs else xs ++ ys)) ∧ Aside0 (Below W.heap.size W wr)) (fun _ v27 _ => 2 - (intOf v27).toNat)
      case atStart => exact ⟨0, rfl, by omega, ⟨HR.out⟩, ⟨HB2.out⟩⟩
      case round =>
        obtain ⟨k, rfl, hk, HO, HB⟩ := hrel
        have hk3 : k = 0 ∨ k = 1 ∨ k = 2 := by omega
        have HBK2 := Lib.hid ((HB.out.block b (blk_lt HBK.out)).trans HBK.out)
        have q0 : wr.cell? ⟨b, 0, none⟩ = some (.slice A1 xs.length c1) := (blk_cell HBK2.out 0).trans rfl
        have q1 : wr.cell? ⟨b, 1, none⟩ = some (.slice A2 ys.length c2) := (blk_cell HBK2.out 1).trans rfl
        rcases hk3 with rfl | rfl | rfl
        · replace HO := Lib.hid (show Kd.R k134 134 wr W.heap.size (fun _ => True) u6 [] from HO.out)
          go_wp2_with ((with_reducible refine gate_builtin (b := .append) (xs := #[.tmp 31, .tmp 32]) rfl ?_); at_builtin; refine Kd.R_append_rows k134 (w0 := W) W.heap.size rfl (.tmp 31) (.tmp 32) 57 134 (.agg #[(.string ⟨#[]⟩), (.int .i64 0)]) 24 rfl Tryz.underlying57 info134 rfl (by decide) (by omega) u6 (([] : List S134)) (xs) _ _ _ (fun _ => True) (fun _ => False) rfl rfl HO.out (Kd.C_below HC1.out HB.out) (fun _ _ h => h) (fun _ h => h.elim) (fun _ _ => trivial) HB.out HB.out.size (by have := HX.out; have := HY.out; (try simp only [List.length_append, List.length_nil]); omega) ?_; intro v9 w4 ho hb hg hat; clear hg hat)
          go_roundw
          case rel => exact ⟨1, by go_num, by omega, ⟨ho⟩, ⟨hb⟩⟩
          case measure => simp [intOf]
        · replace HO := Lib.hid (show Kd.R k134 134 wr W.heap.size (fun _ => True) u6 xs from HO.out)
          go_wp2_with ((with_reducible refine gate_builtin (b := .append) (xs := #[.tmp 31, .tmp 32]) rfl ?_); at_builtin; refine Kd.R_append_rows k134 (w0 := W) W.heap.size rfl (.tmp 31) (.tmp 32) 57 134 (.agg #[(.string ⟨#[]⟩), (.int .i64 0)]) 24 rfl Tryz.underlying57 info134 rfl (by decide) (by omega) u6 (xs) (ys) _ _ _ (fun _ => True) (fun _ => False) rfl rfl HO.out (Kd.C_below HC2.out HB.out) (fun _ _ h => h) (fun _ h => h.elim) (fun _ _ => trivial) HB.out HB.out.size (by have := HX.out; have := HY.out; (try simp only [List.length_append, List.length_nil]); omega) ?_; intro v9 w4 ho hb hg hat; clear hg hat)
          go_roundw
          case rel => exact ⟨2, by go_num, by omega, ⟨ho⟩, ⟨hb⟩⟩
          case measure => simp [intOf]
        · obtain ⟨A6, c6, rfl, hl6, hC6⟩ := Kd.R_reads (show Kd.R k134 134 wr W.heap.size (fun _ => True) u6 (xs ++ ys) from HO.out)
          have HF := Lib.hid (And.intro hl6 (And.intro hC6 HB.out))
          clear hl6 hC6
          generalize xs ++ ys = zs at *
          go_wp2
          go_ret
          exact ⟨A6, c6, rfl, HF.out⟩
theorem one134 (x : S134) (W : World) (b : Nat) (hb : W.heap[b]? = some (.cells #[.string x.f0, .int .i64 x.f1] 134 (0, 0))) : Kd.C k134 W (some ⟨b, 0, none⟩) 1 [x] := by
  refine ⟨rfl, by omega, fun _ => ⟨⟨b, 0, none⟩, rfl, fun j p hj => ?_⟩⟩
  cases j with
  | succ j => simp at hj
  | zero =>
    have hj : x = p := Option.some.inj hj
    subst hj
    refine ⟨[.string x.f0, .int .i64 x.f1], rfl, Kd.K_of_M k134 (k134_mkM W 0 (fun _ => True) x), fun i u hu => ?_⟩
    have h0 := blk_cell hb 0
    have h1 := blk_cell hb 1
    cases i with
    | zero => exact (h0.trans rfl).trans hu
    | succ i =>
      cases i with
      | zero => exact (h1.trans rfl).trans hu
      | succ i => simp at hu
/-- The milestones of a record. -/
def ing (r : S73) (c : S59) : List S134 := ⟨(⟨#[105, 110, 103, 101, 115, 116]⟩ : ByteArray), r.f4⟩ :: c.f1
theorem MilesR_any (r : S73) (c : S59) (A : Option Addr) (cc : Nat) (W : World) (hC : Kd.C k134 W A c.f1.length c.f1) (hl : c.f1.length ≤ cc) (hn : c.f1.length ≤ 1000) :
    Calls Tryz.prog 59 #[.agg #[.string r.f0, .string r.f1, .string r.f2, .string r.f3, .int .i64 r.f4, .int .i64 r.f5], .agg #[.string c.f0, .slice A c.f1.length cc]] W (RMi (ing r c) W) := by
  refine (hanaperref19_Miles.calls r.f0 r.f1 r.f2 r.f3 r.f4 r.f5 c.f0 A cc c.f1 (ing r c) W hC hl (by
    unfold hanaperref19_Miles.f
    rw [Option.bind_some, if_pos (by simp; omega)]
    rfl)).mono ?_
  rintro e w' ⟨v, rfl, hR, hb⟩
  obtain ⟨A', c', rfl, hl', hC'⟩ := Kd.R_reads hR
  exact ⟨A', c', rfl, hl', hC', hb⟩
set_option maxHeartbeats 1000000 in
theorem MilesP_any (r : S73) (c : S59) (A : Option Addr) (cc : Nat) (W : World) (hC : Kd.C k134 W A c.f1.length c.f1) (hl : c.f1.length ≤ cc) (hn : c.f1.length ≤ 1000) :
    Calls Tryz.prog 83 #[.agg #[.string r.f0, .string r.f1, .string r.f2, .string r.f3, .int .i64 r.f4, .int .i64 r.f5], .agg #[.string c.f0, .slice A c.f1.length cc]] W (RMi (ing r c) W) := by
  have key := Lib.hid (show ∀ (W3 : World) (n : Nat), W3.heap.size = n → Below W.heap.size W W3 → Calls Tryz.prog 128 #[.slice (some ⟨n + 1, 0, none⟩) 2 2] ((W3.alloc (.cells #[.string (⟨#[105, 110, 103, 101, 115, 116]⟩ : ByteArray), .int .i64 r.f4] 134 (0, 0))).alloc (.cells #[.slice (some ⟨n, 0, none⟩) 1 1, .slice A c.f1.length cc] 57 (0, 0))) (RMi (ing r c) W) by
    intro W3 n hz hb
    subst hz
    have hz4 : (W3.alloc (.cells #[.string (⟨#[105, 110, 103, 101, 115, 116]⟩ : ByteArray), .int .i64 r.f4] 134 (0, 0))).heap.size = W3.heap.size + 1 := by show (W3.heap.push _).size = _; rw [Array.size_push]
    have hy3 := new_blk W3 (.cells #[.string (⟨#[105, 110, 103, 101, 115, 116]⟩ : ByteArray), .int .i64 r.f4] 134 (0, 0))
    have hy4 := new_blk (W3.alloc (.cells #[.string (⟨#[105, 110, 103, 101, 115, 116]⟩ : ByteArray), .int .i64 r.f4] 134 (0, 0))) (.cells #[.slice (some ⟨W3.heap.size, 0, none⟩) 1 1, .slice A c.f1.length cc] 57 (0, 0))
    rw [hz4] at hy4
    have hb4 := below_alloc (Below.refl (W3.alloc (.cells #[.string (⟨#[105, 110, 103, 101, 115, 116]⟩ : ByteArray), .int .i64 r.f4] 134 (0, 0))).heap.size _) (.cells #[.slice (some ⟨W3.heap.size, 0, none⟩) 1 1, .slice A c.f1.length cc] 57 (0, 0))
    have hb34 := below_tr hb (below_tr (below_alloc (Below.refl _ _) _) hb4)
    have h1 := Kd.C_below (one134 ⟨(⟨#[105, 110, 103, 101, 115, 116]⟩ : ByteArray), r.f4⟩ _ _ hy3) hb4
    refine (Concat_any (W3.heap.size + 1) [⟨(⟨#[105, 110, 103, 101, 115, 116]⟩ : ByteArray), r.f4⟩] c.f1 _ A 1 cc _ hy4 h1 (Kd.C_below hC hb34) (by simp) hn).mono ?_
    rintro e w' ⟨A', c', rfl, hl', hC', hb'⟩
    exact ⟨A', c', rfl, hl', hC', below_tr hb34 hb'⟩)
  have hz : ((W.alloc (.cells #[.string r.f0, .string r.f1, .string r.f2, .string r.f3, .int .i64 r.f4, .int .i64 r.f5] 73 (0, 0))).alloc (.cells #[.string c.f0, .slice A c.f1.length cc] 59 (0, 0))).heap.size = W.heap.size + 1 + 1 := by
    show ((W.heap.push _).push _).size = _
    rw [Array.size_push, Array.size_push]
  have HK := Lib.hid (key.out _ _ hz (below_alloc (below_alloc (Below.refl _ _) _) _))
  clear hC hl hn hz key
  go_enter Tryz.func83, Tryz.ntmps83
  go_wp2_with fail
  refine HK.out.mono ?_
  rintro e w2 ⟨A', c', rfl, hl', hC', hb'⟩
  have HF := Lib.hid (And.intro hl' (And.intro hC' hb'))
  clear hl' hC' hb'
  generalize ing r c = zs at *
  go_wp2
  go_ret
  exact ⟨A', c', rfl, HF.out⟩
theorem tab26_4 : rtab .any (opsOf Tryz.f26 4) = (true, [([], []), ([0], [0]), ([], []), ([], []), ([2, 3], [2, 3]), ([1, 4, 4], [1, 4]), ([5], [5]), ([6], [6]), ([6], [6]), ([7, 5, 0, 1, 2, 3, 4, 5, 6, 7], [7]), ([8, 9, 0, 1, 2, 3, 4, 5, 6, 7, 8, 9], [8])]) := by kernel_rfl
theorem tab50_4 : rtab .any (opsOf Tryz.f50 4) = (true, [([], []), ([0], [0]), ([], []), ([], []), ([2, 3], [2, 3]), ([1, 4, 4], [1, 4]), ([5], [5]), ([6], [6]), ([6], [6]), ([7, 5, 0, 1, 2, 3, 4, 5, 6, 7], [7]), ([8, 9, 0, 1, 2, 3, 4, 5, 6, 7, 8, 9], [8])]) := by kernel_rfl

theorem find2_mem (l : List S97) (a : ByteArray) (h : (find2 l a).2 = true) : (find2 l a).1 ∈ l := by
  have key : ∀ p : S97 → Bool, 0 ≤ ix p l 0 → rd_T97 l (ix p l 0) ∈ l := fun p hp => by
    have := ix_range p l 0
    obtain ⟨k, hk⟩ : ∃ k : Nat, ix p l 0 = (k : Int) := ⟨(ix p l 0).toNat, by omega⟩
    rw [hk]
    exact rd_mem97 (by omega)
  unfold find2 at h ⊢
  split
  · exact key _ (by assumption)
  · split
    · exact key _ (by assumption)
    · rename_i h1 h2
      rw [if_neg h1, if_neg h2] at h
      cases h
/-- When a record is due, and for what. -/
def dueL (l : List S97) (r : S73) (c : S59) : Int × Int × Bool := if (find2 l r.f3).2 = true then (if (wh (ing r c) (find2 l r.f3).1.f1).2 = true then ((wh (ing r c) (find2 l r.f3).1.f1).1, (find2 l r.f3).1.f2, true) else (0, 0, false)) else (0, 0, false)
/-- It answers a tick, an act, and whether they are known. -/
def RDue (v : Int × Int × Bool) (W : World) (e : Ending) (w' : World) : Prop := e = .returned (.tuple #[.int .i64 v.1, .int .i64 v.2.1, .bool v.2.2]) ∧ Below W.heap.size W w'
theorem lim8_find (l : List S97) (a : ByteArray) (hx : ∀ x ∈ l, lim 8 x.f1) (h : (find2 l a).2 = true) : lim 8 (find2 l a).1.f1 := hx _ (find2_mem l a h)

set_option maxHeartbeats 4000000 in
theorem OfR_any (l : List S97) (r : S73) (c : S59) (A : Option Addr) (ca : Nat) (Am : Option Addr) (cm : Nat) (W : World) (hC : Kd.C k97 W A l.length l) (hl : l.length ≤ ca) (hx : ∀ x ∈ l, lim 8 x.f1) (hM : Kd.C k134 W Am c.f1.length c.f1) (hm : c.f1.length ≤ cm) (hn : c.f1.length ≤ 1000) :
    Calls Tryz.prog 26 #[.slice A l.length ca, .agg #[.string r.f0, .string r.f1, .string r.f2, .string r.f3, .int .i64 r.f4, .int .i64 r.f5], .agg #[.string c.f0, .slice Am c.f1.length cm]] W (RDue (dueL l r c) W) := by
  have HB := Lib.hid (show Below W.heap.size W ((W.alloc (.cells #[.string r.f0, .string r.f1, .string r.f2, .string r.f3, .int .i64 r.f4, .int .i64 r.f5] 73 (0, 0))).alloc (.cells #[.string c.f0, .slice Am c.f1.length cm] 59 (0, 0))) from below_alloc (below_alloc (Below.refl _ _) _) _)
  have hz : (W.alloc (.cells #[.string r.f0, .string r.f1, .string r.f2, .string r.f3, .int .i64 r.f4, .int .i64 r.f5] 73 (0, 0))).heap.size = W.heap.size + 1 := by show (W.heap.push _).size = _; rw [Array.size_push]
  have hy1 := new_blk W (.cells #[.string r.f0, .string r.f1, .string r.f2, .string r.f3, .int .i64 r.f4, .int .i64 r.f5] 73 (0, 0))
  have hy2 := new_blk (W.alloc (.cells #[.string r.f0, .string r.f1, .string r.f2, .string r.f3, .int .i64 r.f4, .int .i64 r.f5] 73 (0, 0))) (.cells #[.string c.f0, .slice Am c.f1.length cm] 59 (0, 0))
  rw [hz] at hy2
  have HY1 := Lib.hid (((below_alloc (Below.refl (W.alloc (.cells #[.string r.f0, .string r.f1, .string r.f2, .string r.f3, .int .i64 r.f4, .int .i64 r.f5] 73 (0, 0))).heap.size _) (.cells #[.string c.f0, .slice Am c.f1.length cm] 59 (0, 0))).block W.heap.size (by rw [hz]; omega)).trans hy1)
  have HY2 := Lib.hid hy2
  have HMC := Lib.hid (And.intro hM (And.intro hm hn))
  have HLX := Lib.hid (fun h => lim8_find l r.f3 hx h)
  have HF := Lib.hid (FindR_any l A ca r.f3 _ (Kd.C_below hC HB.out))
  have HD := Lib.hid (show dueL l r c = dueL l r c from rfl)
  have r3 : ((W.alloc (.cells #[.string r.f0, .string r.f1, .string r.f2, .string r.f3, .int .i64 r.f4, .int .i64 r.f5] 73 (0, 0))).alloc (.cells #[.string c.f0, .slice Am c.f1.length cm] 59 (0, 0))).cell? ⟨W.heap.size, 3, none⟩ = some (.string r.f3) := (blk_cell HY1.out 3).trans rfl
  clear hC hl hx hM hm hn hz hy1 hy2
  obtain ⟨D, hD⟩ : ∃ D, D = dueL l r c := ⟨_, rfl⟩
  rw [← hD]
  replace HD := Lib.hid hD
  clear hD
  go_enter Tryz.func26, Tryz.ntmps26
  go_wp2_with fail
  generalize (W.alloc (.cells #[.string r.f0, .string r.f1, .string r.f2, .string r.f3, .int .i64 r.f4, .int .i64 r.f5] 73 (0, 0))).alloc (.cells #[.string c.f0, .slice Am c.f1.length cm] 59 (0, 0)) = W2 at *
  refine HF.out.mono ?_
  rintro e w3 ⟨A4, c4, rfl, hl4, hC4, hb⟩
  generalize hxb : find2 l r.f3 = xb at *
  obtain ⟨x, b⟩ := xb
  have HB3 := Lib.hid (below_tr HB.out hb)
  have HY13 := Lib.hid ((hb.block _ (blk_lt HY1.out)).trans HY1.out)
  have HY23 := Lib.hid ((hb.block _ (blk_lt HY2.out)).trans HY2.out)
  have HC4 := Lib.hid (And.intro hl4 hC4)
  have HXB := Lib.hid hxb
  clear hl4 hC4 hb hxb r3
  cases b
  · obtain rfl : D = (0, 0, false) := by rw [HD.out]; unfold dueL; rw [HXB.out]; rfl
    go_wp2
    go_ret3
    exact ⟨rfl, below_tr HB3.out (below_alloc (Below.refl _ _) _)⟩
  · have HW := Lib.hid (show D = if (wh (ing r c) x.f1).2 = true then ((wh (ing r c) x.f1).1, x.f2, true) else (0, 0, false) by rw [HD.out]; unfold dueL; rw [HXB.out]; rfl)
    have HLI := Lib.hid (HLX.out (by first | rfl | trivial))
    obtain ⟨w4, hw4⟩ : ∃ w4, w3.alloc (.cells #[.string x.f0, .int .i64 x.f1.f0, .int .i64 x.f1.f1, .string x.f1.f2, .slice A4 x.f1.f3.length c4, .int .i64 x.f2] 97 (0, 0)) = w4 := ⟨_, rfl⟩
    have HB4 := Lib.hid (show Below w3.heap.size w3 w4 by rw [← hw4]; exact below_alloc (Below.refl _ _) _)
    have HY4 := Lib.hid (show w4.heap[w3.heap.size]? = some (.cells #[.string x.f0, .int .i64 x.f1.f0, .int .i64 x.f1.f1, .string x.f1.f2, .slice A4 x.f1.f3.length c4, .int .i64 x.f2] 97 (0, 0)) by rw [← hw4]; exact new_blk w3 _)
    have HW4 := Lib.hid hw4
    clear hw4
    have HY14 := Lib.hid ((HB4.out.block _ (blk_lt HY13.out)).trans HY13.out)
    have HY24 := Lib.hid ((HB4.out.block _ (blk_lt HY23.out)).trans HY23.out)
    have r0 : w4.cell? ⟨W.heap.size, 0, none⟩ = some (.string r.f0) := (blk_cell HY14.out 0).trans rfl
    have r1 : w4.cell? ⟨W.heap.size, 1, none⟩ = some (.string r.f1) := (blk_cell HY14.out 1).trans rfl
    have r2 : w4.cell? ⟨W.heap.size, 2, none⟩ = some (.string r.f2) := (blk_cell HY14.out 2).trans rfl
    have r3 : w4.cell? ⟨W.heap.size, 3, none⟩ = some (.string r.f3) := (blk_cell HY14.out 3).trans rfl
    have r4 : w4.cell? ⟨W.heap.size, 4, none⟩ = some (.int .i64 r.f4) := (blk_cell HY14.out 4).trans rfl
    have r5 : w4.cell? ⟨W.heap.size, 5, none⟩ = some (.int .i64 r.f5) := (blk_cell HY14.out 5).trans rfl
    have c0 : w4.cell? ⟨W.heap.size + 1, 0, none⟩ = some (.string c.f0) := (blk_cell HY24.out 0).trans rfl
    have c1 : w4.cell? ⟨W.heap.size + 1, 1, none⟩ = some (.slice Am c.f1.length cm) := (blk_cell HY24.out 1).trans rfl
    have x0 : w4.cell? ⟨w3.heap.size, 0, none⟩ = some (.string x.f0) := (blk_cell HY4.out 0).trans rfl
    have x1 : w4.cell? ⟨w3.heap.size, 1, none⟩ = some (.int .i64 x.f1.f0) := (blk_cell HY4.out 1).trans rfl
    have x2 : w4.cell? ⟨w3.heap.size, 2, none⟩ = some (.int .i64 x.f1.f1) := (blk_cell HY4.out 2).trans rfl
    have x3 : w4.cell? ⟨w3.heap.size, 3, none⟩ = some (.string x.f1.f2) := (blk_cell HY4.out 3).trans rfl
    have x4 : w4.cell? ⟨w3.heap.size, 4, none⟩ = some (.slice A4 x.f1.f3.length c4) := (blk_cell HY4.out 4).trans rfl
    have x5 : w4.cell? ⟨w3.heap.size, 5, none⟩ = some (.int .i64 x.f2) := (blk_cell HY4.out 5).trans rfl
    have HMI := fun w' (h : Below w4.heap.size w4 w') => Lib.hid (MilesR_any r c Am cm w' (Kd.C_below HMC.out.1 (below_tr HB3.out (below_tr HB4.out h))) HMC.out.2.1 HMC.out.2.2)
    have HWH := fun w' (h : Below w4.heap.size w4 w') A5 c5 (h1 : (ing r c).length ≤ c5) (h2 : Kd.C k134 w' A5 (ing r c).length (ing r c)) => Lib.hid (WhenR_any 8 x.f1 A4 c4 (ing r c) A5 c5 w' HLI.out (Kd.C_below HC4.out.2 (below_tr HB4.out h)) HC4.out.1 h2 h1)
    generalize wh (ing r c) x.f1 = q at *
    obtain ⟨tv, tb⟩ := q
    go_wp2_with fail
    rw [HW4.out]
    refine WL.start (n := 11) (S := fun w' => Aside0 (Below w4.heap.size w4 w') ∧ w'.cell? ⟨W.heap.size, 0, none⟩ = some (.string r.f0) ∧ w'.cell? ⟨W.heap.size, 1, none⟩ = some (.string r.f1) ∧ w'.cell? ⟨W.heap.size, 2, none⟩ = some (.string r.f2) ∧ w'.cell? ⟨W.heap.size, 3, none⟩ = some (.string r.f3) ∧ w'.cell? ⟨W.heap.size, 4, none⟩ = some (.int .i64 r.f4) ∧ w'.cell? ⟨W.heap.size, 5, none⟩ = some (.int .i64 r.f5) ∧ w'.cell? ⟨W.heap.size + 1, 0, none⟩ = some (.string c.f0) ∧ w'.cell? ⟨W.heap.size + 1, 1, none⟩ = some (.slice Am c.f1.length cm) ∧ w'.cell? ⟨w3.heap.size, 1, none⟩ = some (.int .i64 x.f1.f0) ∧ w'.cell? ⟨w3.heap.size, 2, none⟩ = some (.int .i64 x.f1.f1) ∧ w'.cell? ⟨w3.heap.size, 3, none⟩ = some (.string x.f1.f2) ∧ w'.cell? ⟨w3.heap.size, 4, none⟩ = some (.slice A4 x.f1.f3.length c4) ∧ w'.cell? ⟨w3.heap.size, 5, none⟩ = some (.int .i64 x.f2)) (ds := []) [false, false, false, false, false, false, false, false, false, false, false] (by kernel_rfl) rfl rfl ⟨⟨below_drew (Below.refl _ _)⟩, r0, r1, r2, r3, r4, r5, c0, c1, x1, x2, x3, x4, x5⟩ (fun hHeld => ?_)
    refine WL.tab tab26_4 (fun HT_ => ?_)
    refine WL.more [0, 1, 2, 3, 4] ?_
    repeat (first
      | (refine WL.off (lb' := ?_) (ys := ?_) rfl rfl (by rfl) ?_ HT_.out ?_ (fun _ _ _ h => h) ?_ ?_; rotate_left 2; (focus dsimp only [List.set_cons_zero, List.set_cons_succ]; rfl); (focus kernel_rfl); (focus dsimp only [List.set_cons_zero, List.set_cons_succ]; rfl))
      | (refine WL.pure (lb' := ?_) (v := ?_) (ys := ?_) rfl rfl (by rfl) ?_ HT_.out ?_ (fun _ _ _ h => h) ?_ ?_ ?_; rotate_left 3; (focus dsimp only [List.set_cons_zero, List.set_cons_succ]; rfl); (focus kernel_rfl); (focus intro w'; go_simp; with_reducible rfl); (focus dsimp only [List.set_cons_zero, List.set_cons_succ]; rfl))
      | (refine WL.take (lb' := ?_) (v := ?_) (ys := ?_) rfl rfl (by rfl) ?_ HT_.out ?_ (fun _ _ _ h => h) hHeld ?_ ?_ ?_; rotate_left 3; (focus dsimp only [List.set_cons_zero, List.set_cons_succ]; rfl); (focus kernel_rfl); (focus rintro w' ⟨s0, s1, s2, s3, s4, s5, s6, s7, s8, s9, s10, s11, s12, s13⟩; go_simp; with_reducible rfl); (focus dsimp only [List.set_cons_zero, List.set_cons_succ]; rfl))
      | (refine WL.one (lb' := ?_) rfl rfl ?_ HT_.out ?_ (by decide) (fun K hK => ?_); rotate_left; (focus dsimp only [List.set_cons_zero, List.set_cons_succ]; rfl); (focus kernel_rfl); first
          | (refine goes_ Tryz.func59 (by kernel_rfl) rfl #[.agg #[.string r.f0, .string r.f1, .string r.f2, .string r.f3, .int .i64 r.f4, .int .i64 r.f5], .agg #[.string c.f0, .slice Am c.f1.length cm]] (by rfl) rfl rfl (by simp only [List.map_toArray, List.map_cons, List.map_nil]; rfl) ?_; (with_reducible refine ((HMI _ hHeld.1.out).out).mono ?_); rintro e w5 ⟨A5, c5, rfl, hl5, hC5, hb⟩; refine ⟨_, rfl, ?_⟩; have HM5 := Lib.hid (And.intro hl5 hC5); clear hl5 hC5; refine hK.out _ _ (by have h_ := hHeld.2; refine ⟨⟨below_tr hHeld.1.out hb⟩, ?_⟩; repeat (first | exact below_cell hb h_ | (refine ⟨below_cell hb h_.1, ?_⟩; replace h_ := h_.2))) (fun hHeld => ?_); clear hK K; refine WL.put (ys := ?_) ?_ ?_; rotate_left; (focus dsimp only [List.set_cons_zero, List.set_cons_succ]; rfl))))
    refine WL.more [5, 6, 7, 8, 9, 10] ?_
    repeat (first
      | (refine WL.off (lb' := ?_) (ys := ?_) rfl rfl (by rfl) ?_ HT_.out ?_ (fun _ _ _ h => h) ?_ ?_; rotate_left 2; (focus dsimp only [List.set_cons_zero, List.set_cons_succ]; rfl); (focus kernel_rfl); (focus dsimp only [List.set_cons_zero, List.set_cons_succ]; rfl))
      | (refine WL.pure (lb' := ?_) (v := ?_) (ys := ?_) rfl rfl (by rfl) ?_ HT_.out ?_ (fun _ _ _ h => h) ?_ ?_ ?_; rotate_left 3; (focus dsimp only [List.set_cons_zero, List.set_cons_succ]; rfl); (focus kernel_rfl); (focus intro w'; go_simp; with_reducible rfl); (focus dsimp only [List.set_cons_zero, List.set_cons_succ]; rfl))
      | (refine WL.take (lb' := ?_) (v := ?_) (ys := ?_) rfl rfl (by rfl) ?_ HT_.out ?_ (fun _ _ _ h => h) hHeld ?_ ?_ ?_; rotate_left 3; (focus dsimp only [List.set_cons_zero, List.set_cons_succ]; rfl); (focus kernel_rfl); (focus rintro w' ⟨s0, s1, s2, s3, s4, s5, s6, s7, s8, s9, s10, s11, s12, s13⟩; go_simp; with_reducible rfl); (focus dsimp only [List.set_cons_zero, List.set_cons_succ]; rfl))
      | (refine WL.one (lb' := ?_) rfl rfl ?_ HT_.out ?_ (by decide) (fun K hK => ?_); rotate_left; (focus dsimp only [List.set_cons_zero, List.set_cons_succ]; rfl); (focus kernel_rfl); first
          | (refine goes_ Tryz.func58 (by kernel_rfl) rfl #[.agg #[.int .i64 x.f1.f0, .int .i64 x.f1.f1, .string x.f1.f2, .slice A4 x.f1.f3.length c4], .slice A5 (ing r c).length c5] (by rfl) rfl rfl (by simp only [List.map_toArray, List.map_cons, List.map_nil]; rfl) ?_; (with_reducible refine ((HWH _ hHeld.1.out A5 c5 HM5.out.1 HM5.out.2).out).mono ?_); rintro e w6 ⟨rfl, hb⟩; refine ⟨_, rfl, ?_⟩; refine hK.out _ _ (by have h_ := hHeld.2; refine ⟨⟨below_tr hHeld.1.out hb⟩, ?_⟩; repeat (first | exact below_cell hb h_ | (refine ⟨below_cell hb h_.1, ?_⟩; replace h_ := h_.2))) (fun hHeld => ?_); clear hK K; refine WL.put (ys := ?_) ?_ ?_; rotate_left; (focus dsimp only [List.set_cons_zero, List.set_cons_succ]; rfl))))
    refine WL.done HT_.out (by kernel_rfl) ?_
    have HB6 := Lib.hid (below_tr HB3.out (below_tr HB4.out hHeld.1.out))
    obtain ⟨_, r0, r1, r2, r3, r4, r5, c0, c1, x1, x2, x3, x4, x5⟩ := hHeld
    cases tb
    · obtain rfl : D = (0, 0, false) := by rw [HW.out]; rfl
      go_wp2
      go_ret3
      exact ⟨rfl, HB6.out⟩
    · obtain rfl : D = (tv, x.f2, true) := by rw [HW.out]; rfl
      go_wp2_with fail
      go_quiet (fail)
      have HB7 := Lib.hid (pw_below_drewN HB6.out nq)
      go_wp2
      go_ret3
      exact ⟨rfl, HB7.out⟩

set_option maxHeartbeats 4000000 in
theorem OfP_any (l : List S97) (r : S73) (c : S59) (A : Option Addr) (ca : Nat) (Am : Option Addr) (cm : Nat) (W : World) (hC : Kd.C k97 W A l.length l) (hl : l.length ≤ ca) (hx : ∀ x ∈ l, lim 8 x.f1) (hM : Kd.C k134 W Am c.f1.length c.f1) (hm : c.f1.length ≤ cm) (hn : c.f1.length ≤ 1000) :
    Calls Tryz.prog 50 #[.slice A l.length ca, .agg #[.string r.f0, .string r.f1, .string r.f2, .string r.f3, .int .i64 r.f4, .int .i64 r.f5], .agg #[.string c.f0, .slice Am c.f1.length cm]] W (RDue (dueL l r c) W) := by
  have HB := Lib.hid (show Below W.heap.size W ((W.alloc (.cells #[.string r.f0, .string r.f1, .string r.f2, .string r.f3, .int .i64 r.f4, .int .i64 r.f5] 73 (0, 0))).alloc (.cells #[.string c.f0, .slice Am c.f1.length cm] 59 (0, 0))) from below_alloc (below_alloc (Below.refl _ _) _) _)
  have hz : (W.alloc (.cells #[.string r.f0, .string r.f1, .string r.f2, .string r.f3, .int .i64 r.f4, .int .i64 r.f5] 73 (0, 0))).heap.size = W.heap.size + 1 := by show (W.heap.push _).size = _; rw [Array.size_push]
  have hy1 := new_blk W (.cells #[.string r.f0, .string r.f1, .string r.f2, .string r.f3, .int .i64 r.f4, .int .i64 r.f5] 73 (0, 0))
  have hy2 := new_blk (W.alloc (.cells #[.string r.f0, .string r.f1, .string r.f2, .string r.f3, .int .i64 r.f4, .int .i64 r.f5] 73 (0, 0))) (.cells #[.string c.f0, .slice Am c.f1.length cm] 59 (0, 0))
  rw [hz] at hy2
  have HY1 := Lib.hid (((below_alloc (Below.refl (W.alloc (.cells #[.string r.f0, .string r.f1, .string r.f2, .string r.f3, .int .i64 r.f4, .int .i64 r.f5] 73 (0, 0))).heap.size _) (.cells #[.string c.f0, .slice Am c.f1.length cm] 59 (0, 0))).block W.heap.size (by rw [hz]; omega)).trans hy1)
  have HY2 := Lib.hid hy2
  have HMC := Lib.hid (And.intro hM (And.intro hm hn))
  have HLX := Lib.hid (fun h => lim8_find l r.f3 hx h)
  have HF := Lib.hid (FindP_any l A ca r.f3 _ (Kd.C_below hC HB.out) hl)
  have HD := Lib.hid (show dueL l r c = dueL l r c from rfl)
  have r3 : ((W.alloc (.cells #[.string r.f0, .string r.f1, .string r.f2, .string r.f3, .int .i64 r.f4, .int .i64 r.f5] 73 (0, 0))).alloc (.cells #[.string c.f0, .slice Am c.f1.length cm] 59 (0, 0))).cell? ⟨W.heap.size, 3, none⟩ = some (.string r.f3) := (blk_cell HY1.out 3).trans rfl
  clear hC hl hx hM hm hn hz hy1 hy2
  obtain ⟨D, hD⟩ : ∃ D, D = dueL l r c := ⟨_, rfl⟩
  rw [← hD]
  replace HD := Lib.hid hD
  clear hD
  go_enter Tryz.func50, Tryz.ntmps50
  go_wp2_with fail
  generalize (W.alloc (.cells #[.string r.f0, .string r.f1, .string r.f2, .string r.f3, .int .i64 r.f4, .int .i64 r.f5] 73 (0, 0))).alloc (.cells #[.string c.f0, .slice Am c.f1.length cm] 59 (0, 0)) = W2 at *
  refine HF.out.mono ?_
  rintro e w3 ⟨A4, c4, rfl, hl4, hC4, hb⟩
  generalize hxb : find2 l r.f3 = xb at *
  obtain ⟨x, b⟩ := xb
  have HB3 := Lib.hid (below_tr HB.out hb)
  have HY13 := Lib.hid ((hb.block _ (blk_lt HY1.out)).trans HY1.out)
  have HY23 := Lib.hid ((hb.block _ (blk_lt HY2.out)).trans HY2.out)
  have HC4 := Lib.hid (And.intro hl4 hC4)
  have HXB := Lib.hid hxb
  clear hl4 hC4 hb hxb r3
  cases b
  · obtain rfl : D = (0, 0, false) := by rw [HD.out]; unfold dueL; rw [HXB.out]; rfl
    go_wp2
    go_ret3
    exact ⟨rfl, below_tr HB3.out (below_alloc (Below.refl _ _) _)⟩
  · have HW := Lib.hid (show D = if (wh (ing r c) x.f1).2 = true then ((wh (ing r c) x.f1).1, x.f2, true) else (0, 0, false) by rw [HD.out]; unfold dueL; rw [HXB.out]; rfl)
    have HLI := Lib.hid (HLX.out (by first | rfl | trivial))
    obtain ⟨w4, hw4⟩ : ∃ w4, w3.alloc (.cells #[.string x.f0, .int .i64 x.f1.f0, .int .i64 x.f1.f1, .string x.f1.f2, .slice A4 x.f1.f3.length c4, .int .i64 x.f2] 97 (0, 0)) = w4 := ⟨_, rfl⟩
    have HB4 := Lib.hid (show Below w3.heap.size w3 w4 by rw [← hw4]; exact below_alloc (Below.refl _ _) _)
    have HY4 := Lib.hid (show w4.heap[w3.heap.size]? = some (.cells #[.string x.f0, .int .i64 x.f1.f0, .int .i64 x.f1.f1, .string x.f1.f2, .slice A4 x.f1.f3.length c4, .int .i64 x.f2] 97 (0, 0)) by rw [← hw4]; exact new_blk w3 _)
    have HW4 := Lib.hid hw4
    clear hw4
    have HY14 := Lib.hid ((HB4.out.block _ (blk_lt HY13.out)).trans HY13.out)
    have HY24 := Lib.hid ((HB4.out.block _ (blk_lt HY23.out)).trans HY23.out)
    have r0 : w4.cell? ⟨W.heap.size, 0, none⟩ = some (.string r.f0) := (blk_cell HY14.out 0).trans rfl
    have r1 : w4.cell? ⟨W.heap.size, 1, none⟩ = some (.string r.f1) := (blk_cell HY14.out 1).trans rfl
    have r2 : w4.cell? ⟨W.heap.size, 2, none⟩ = some (.string r.f2) := (blk_cell HY14.out 2).trans rfl
    have r3 : w4.cell? ⟨W.heap.size, 3, none⟩ = some (.string r.f3) := (blk_cell HY14.out 3).trans rfl
    have r4 : w4.cell? ⟨W.heap.size, 4, none⟩ = some (.int .i64 r.f4) := (blk_cell HY14.out 4).trans rfl
    have r5 : w4.cell? ⟨W.heap.size, 5, none⟩ = some (.int .i64 r.f5) := (blk_cell HY14.out 5).trans rfl
    have c0 : w4.cell? ⟨W.heap.size + 1, 0, none⟩ = some (.string c.f0) := (blk_cell HY24.out 0).trans rfl
    have c1 : w4.cell? ⟨W.heap.size + 1, 1, none⟩ = some (.slice Am c.f1.length cm) := (blk_cell HY24.out 1).trans rfl
    have x0 : w4.cell? ⟨w3.heap.size, 0, none⟩ = some (.string x.f0) := (blk_cell HY4.out 0).trans rfl
    have x1 : w4.cell? ⟨w3.heap.size, 1, none⟩ = some (.int .i64 x.f1.f0) := (blk_cell HY4.out 1).trans rfl
    have x2 : w4.cell? ⟨w3.heap.size, 2, none⟩ = some (.int .i64 x.f1.f1) := (blk_cell HY4.out 2).trans rfl
    have x3 : w4.cell? ⟨w3.heap.size, 3, none⟩ = some (.string x.f1.f2) := (blk_cell HY4.out 3).trans rfl
    have x4 : w4.cell? ⟨w3.heap.size, 4, none⟩ = some (.slice A4 x.f1.f3.length c4) := (blk_cell HY4.out 4).trans rfl
    have x5 : w4.cell? ⟨w3.heap.size, 5, none⟩ = some (.int .i64 x.f2) := (blk_cell HY4.out 5).trans rfl
    have HMI := fun w' (h : Below w4.heap.size w4 w') => Lib.hid (MilesP_any r c Am cm w' (Kd.C_below HMC.out.1 (below_tr HB3.out (below_tr HB4.out h))) HMC.out.2.1 HMC.out.2.2)
    have HWH := fun w' (h : Below w4.heap.size w4 w') A5 c5 (h1 : (ing r c).length ≤ c5) (h2 : Kd.C k134 w' A5 (ing r c).length (ing r c)) => Lib.hid (When_any 8 x.f1 HLI.out A4 c4 (ing r c) A5 c5 w' (Kd.C_below HC4.out.2 (below_tr HB4.out h)) HC4.out.1 h2 h1)
    generalize wh (ing r c) x.f1 = q at *
    obtain ⟨tv, tb⟩ := q
    go_wp2_with fail
    rw [HW4.out]
    refine WL.start (n := 11) (S := fun w' => Aside0 (Below w4.heap.size w4 w') ∧ w'.cell? ⟨W.heap.size, 0, none⟩ = some (.string r.f0) ∧ w'.cell? ⟨W.heap.size, 1, none⟩ = some (.string r.f1) ∧ w'.cell? ⟨W.heap.size, 2, none⟩ = some (.string r.f2) ∧ w'.cell? ⟨W.heap.size, 3, none⟩ = some (.string r.f3) ∧ w'.cell? ⟨W.heap.size, 4, none⟩ = some (.int .i64 r.f4) ∧ w'.cell? ⟨W.heap.size, 5, none⟩ = some (.int .i64 r.f5) ∧ w'.cell? ⟨W.heap.size + 1, 0, none⟩ = some (.string c.f0) ∧ w'.cell? ⟨W.heap.size + 1, 1, none⟩ = some (.slice Am c.f1.length cm) ∧ w'.cell? ⟨w3.heap.size, 1, none⟩ = some (.int .i64 x.f1.f0) ∧ w'.cell? ⟨w3.heap.size, 2, none⟩ = some (.int .i64 x.f1.f1) ∧ w'.cell? ⟨w3.heap.size, 3, none⟩ = some (.string x.f1.f2) ∧ w'.cell? ⟨w3.heap.size, 4, none⟩ = some (.slice A4 x.f1.f3.length c4) ∧ w'.cell? ⟨w3.heap.size, 5, none⟩ = some (.int .i64 x.f2)) (ds := []) [false, false, false, false, false, false, false, false, false, false, false] (by kernel_rfl) rfl rfl ⟨⟨below_drew (Below.refl _ _)⟩, r0, r1, r2, r3, r4, r5, c0, c1, x1, x2, x3, x4, x5⟩ (fun hHeld => ?_)
    refine WL.tab tab50_4 (fun HT_ => ?_)
    refine WL.more [0, 1, 2, 3, 4] ?_
    repeat (first
      | (refine WL.off (lb' := ?_) (ys := ?_) rfl rfl (by rfl) ?_ HT_.out ?_ (fun _ _ _ h => h) ?_ ?_; rotate_left 2; (focus dsimp only [List.set_cons_zero, List.set_cons_succ]; rfl); (focus kernel_rfl); (focus dsimp only [List.set_cons_zero, List.set_cons_succ]; rfl))
      | (refine WL.pure (lb' := ?_) (v := ?_) (ys := ?_) rfl rfl (by rfl) ?_ HT_.out ?_ (fun _ _ _ h => h) ?_ ?_ ?_; rotate_left 3; (focus dsimp only [List.set_cons_zero, List.set_cons_succ]; rfl); (focus kernel_rfl); (focus intro w'; go_simp; with_reducible rfl); (focus dsimp only [List.set_cons_zero, List.set_cons_succ]; rfl))
      | (refine WL.take (lb' := ?_) (v := ?_) (ys := ?_) rfl rfl (by rfl) ?_ HT_.out ?_ (fun _ _ _ h => h) hHeld ?_ ?_ ?_; rotate_left 3; (focus dsimp only [List.set_cons_zero, List.set_cons_succ]; rfl); (focus kernel_rfl); (focus rintro w' ⟨s0, s1, s2, s3, s4, s5, s6, s7, s8, s9, s10, s11, s12, s13⟩; go_simp; with_reducible rfl); (focus dsimp only [List.set_cons_zero, List.set_cons_succ]; rfl))
      | (refine WL.one (lb' := ?_) rfl rfl ?_ HT_.out ?_ (by decide) (fun K hK => ?_); rotate_left; (focus dsimp only [List.set_cons_zero, List.set_cons_succ]; rfl); (focus kernel_rfl); first
          | (refine goes_ Tryz.func83 (by kernel_rfl) rfl #[.agg #[.string r.f0, .string r.f1, .string r.f2, .string r.f3, .int .i64 r.f4, .int .i64 r.f5], .agg #[.string c.f0, .slice Am c.f1.length cm]] (by rfl) rfl rfl (by simp only [List.map_toArray, List.map_cons, List.map_nil]; rfl) ?_; (with_reducible refine ((HMI _ hHeld.1.out).out).mono ?_); rintro e w5 ⟨A5, c5, rfl, hl5, hC5, hb⟩; refine ⟨_, rfl, ?_⟩; have HM5 := Lib.hid (And.intro hl5 hC5); clear hl5 hC5; refine hK.out _ _ (by have h_ := hHeld.2; refine ⟨⟨below_tr hHeld.1.out hb⟩, ?_⟩; repeat (first | exact below_cell hb h_ | (refine ⟨below_cell hb h_.1, ?_⟩; replace h_ := h_.2))) (fun hHeld => ?_); clear hK K; refine WL.put (ys := ?_) ?_ ?_; rotate_left; (focus dsimp only [List.set_cons_zero, List.set_cons_succ]; rfl))))
    refine WL.more [5, 6, 7, 8, 9, 10] ?_
    repeat (first
      | (refine WL.off (lb' := ?_) (ys := ?_) rfl rfl (by rfl) ?_ HT_.out ?_ (fun _ _ _ h => h) ?_ ?_; rotate_left 2; (focus dsimp only [List.set_cons_zero, List.set_cons_succ]; rfl); (focus kernel_rfl); (focus dsimp only [List.set_cons_zero, List.set_cons_succ]; rfl))
      | (refine WL.pure (lb' := ?_) (v := ?_) (ys := ?_) rfl rfl (by rfl) ?_ HT_.out ?_ (fun _ _ _ h => h) ?_ ?_ ?_; rotate_left 3; (focus dsimp only [List.set_cons_zero, List.set_cons_succ]; rfl); (focus kernel_rfl); (focus intro w'; go_simp; with_reducible rfl); (focus dsimp only [List.set_cons_zero, List.set_cons_succ]; rfl))
      | (refine WL.take (lb' := ?_) (v := ?_) (ys := ?_) rfl rfl (by rfl) ?_ HT_.out ?_ (fun _ _ _ h => h) hHeld ?_ ?_ ?_; rotate_left 3; (focus dsimp only [List.set_cons_zero, List.set_cons_succ]; rfl); (focus kernel_rfl); (focus rintro w' ⟨s0, s1, s2, s3, s4, s5, s6, s7, s8, s9, s10, s11, s12, s13⟩; go_simp; with_reducible rfl); (focus dsimp only [List.set_cons_zero, List.set_cons_succ]; rfl))
      | (refine WL.one (lb' := ?_) rfl rfl ?_ HT_.out ?_ (by decide) (fun K hK => ?_); rotate_left; (focus dsimp only [List.set_cons_zero, List.set_cons_succ]; rfl); (focus kernel_rfl); first
          | (refine goes_ Tryz.func82 (by kernel_rfl) rfl #[.agg #[.int .i64 x.f1.f0, .int .i64 x.f1.f1, .string x.f1.f2, .slice A4 x.f1.f3.length c4], .slice A5 (ing r c).length c5] (by rfl) rfl rfl (by simp only [List.map_toArray, List.map_cons, List.map_nil]; rfl) ?_; (with_reducible refine ((HWH _ hHeld.1.out A5 c5 HM5.out.1 HM5.out.2).out).mono ?_); rintro e w6 ⟨rfl, hb⟩; refine ⟨_, rfl, ?_⟩; refine hK.out _ _ (by have h_ := hHeld.2; refine ⟨⟨below_tr hHeld.1.out hb⟩, ?_⟩; repeat (first | exact below_cell hb h_ | (refine ⟨below_cell hb h_.1, ?_⟩; replace h_ := h_.2))) (fun hHeld => ?_); clear hK K; refine WL.put (ys := ?_) ?_ ?_; rotate_left; (focus dsimp only [List.set_cons_zero, List.set_cons_succ]; rfl))))
    refine WL.done HT_.out (by kernel_rfl) ?_
    have HB6 := Lib.hid (below_tr HB3.out (below_tr HB4.out hHeld.1.out))
    obtain ⟨_, r0, r1, r2, r3, r4, r5, c0, c1, x1, x2, x3, x4, x5⟩ := hHeld
    cases tb
    · obtain rfl : D = (0, 0, false) := by rw [HW.out]; rfl
      go_wp2
      go_ret3
      exact ⟨rfl, HB6.out⟩
    · obtain rfl : D = (tv, x.f2, true) := by rw [HW.out]; rfl
      go_wp2_with fail
      go_quiet (fail)
      have HB7 := Lib.hid (pw_below_drewN HB6.out nq)
      go_wp2
      go_ret3
      exact ⟨rfl, HB7.out⟩
end Go.Proofs.YtafigkikblpbnaaGreat.PG
