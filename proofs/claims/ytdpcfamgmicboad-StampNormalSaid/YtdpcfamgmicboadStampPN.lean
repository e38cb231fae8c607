/- What the document's Normal and Same compute, in plain lists; bounds are the law's own, no condition else. -/
import Derived.Test.YtdpcfamgmicboadPStampNx4
import Derived.Test.YtdpcfamgmicboadStampMN
import Derived.Test.YtdpcfamgmicboadStampN
namespace Go.Proofs.Ytdpcfamgmicboad.PStampN
open Go.RowKit Go.Proofs.YtdpcfamgmicboadW.PrintWords
set_option linter.unusedVariables false
theorem ofZ_inj : ∀ {a b : List S24}, ofZ a = ofZ b → a = b
  | [], [], _ => rfl
  | [], _ :: _, h => by simp [ofZ] at h
  | _ :: _, [], h => by simp [ofZ] at h
  | x :: a, y :: b, h => by
    unfold ofZ at h
    rw [List.map_cons, List.map_cons] at h
    injection h with h1 h2
    obtain ⟨p, q⟩ := x
    obtain ⟨r, s⟩ := y
    injection h1 with h3 h4
    rw [ofZ_inj (show ofZ a = ofZ b from h2)]
    simp only at h3 h4
    rw [h3, h4]
theorem pb_of {B : Nat} {l : List S24} (h : l.length ≤ 60) (hz : ∀ z ∈ ofZ l, sm B z) : Pb B l := ⟨h, fun x hx => hz (toZ x) (List.mem_map_of_mem hx)⟩
theorem rd_Zn (l : List S24) {i : Nat} (h : i < l.length) : (ofZ l).getD i cxZero = toZ (rd_T24 l (i : Int)) := by
  unfold ofZ rd_T24
  simp [List.getD_eq_getElem?_getD, List.getElem?_eq_getElem h]
theorem corner_l (l : List S24) {B : Nat} (h : Pb B l) (hB : B ≤ 100000000) : ∀ d k i, l.length = i + d → d + 62 < k →
    hanaperref27_corner.l0 k l (i : Int) (lowR (ofZ l) i) (lowI (ofZ l) i) = some (l.map (shP (-lowR (ofZ l) l.length) (-lowI (ofZ l) l.length)))
  | 0, k, i, hd, hk => by
    obtain ⟨k, rfl⟩ : ∃ m, k = m + 1 := ⟨k - 1, by omega⟩
    have hb := low_bdB h.sm l.length
    have e : i = l.length := by omega
    subst e
    simp only [hanaperref27_corner.l0]
    rw [if_neg (by omega), w64 (by omega), w64 (by omega), sh_f l h (by omega) _ _ (by omega) (by omega) k (by omega)]
    rfl
  | d + 1, k, i, hd, hk => by
    obtain ⟨k, rfl⟩ : ∃ m, k = m + 1 := ⟨k - 1, by omega⟩
    have hl := h.1
    have ez := rd_Zn l (i := i) (by omega)
    have e1 : lowR (ofZ l) (i + 1) = if (rd_T24 l (i : Int)).f0 < lowR (ofZ l) i then (rd_T24 l (i : Int)).f0 else lowR (ofZ l) i := by
      show (if ((ofZ l).getD i cxZero).re < lowR (ofZ l) i then _ else _) = _
      rw [ez]
    have e2 : lowI (ofZ l) (i + 1) = if (rd_T24 l (i : Int)).f1 < lowI (ofZ l) i then (rd_T24 l (i : Int)).f1 else lowI (ofZ l) i := by
      show (if ((ofZ l).getD i cxZero).im < lowI (ofZ l) i then _ else _) = _
      rw [ez]
    have ih := corner_l l h hB d k (i + 1) (by omega) (by omega)
    rw [e1, e2] at ih
    simp only [hanaperref27_corner.l0]
    rw [if_pos (by omega), if_pos (by omega), w64 (x := (i : Int) + 1) (by omega), show (i : Int) + 1 = ((i + 1 : Nat) : Int) by omega]
    by_cases c1 : (rd_T24 l (i : Int)).f0 < lowR (ofZ l) i
    · rw [if_pos c1] at ih
      rw [if_pos c1]
      by_cases c2 : (rd_T24 l (i : Int)).f1 < lowI (ofZ l) i
      · rw [if_pos c2] at ih; rw [if_pos c2]; exact ih
      · rw [if_neg c2] at ih; rw [if_neg c2]; exact ih
    · rw [if_neg c1] at ih
      rw [if_neg c1]
      by_cases c2 : (rd_T24 l (i : Int)).f1 < lowI (ofZ l) i
      · rw [if_pos c2] at ih; rw [if_pos c2]; exact ih
      · rw [if_neg c2] at ih; rw [if_neg c2]; exact ih
theorem corner_f (l : List S24) {B : Nat} (h : Pb B l) (hB : B ≤ 100000000) (k : Nat) (hk : 130 ≤ k) : ∃ c, hanaperref27_corner.f k l = some c ∧ ofZ c = cornerZ (ofZ l) ∧ c.length = l.length := by
  have hl := h.1
  unfold hanaperref27_corner.f
  by_cases h0 : l.length = 0
  · obtain rfl : l = [] := List.eq_nil_of_length_eq_zero h0
    exact ⟨[], by rw [if_pos (by simp)], rfl, rfl⟩
  · rw [if_neg (by omega), if_pos (by omega)]
    have e := rd_Zn l (i := 0) (by omega)
    have h1 : (rd_T24 l 0).f0 = lowR (ofZ l) 0 := by show _ = ((ofZ l).getD 0 cxZero).re; rw [e]; rfl
    have h2 : (rd_T24 l 0).f1 = lowI (ofZ l) 0 := by show _ = ((ofZ l).getD 0 cxZero).im; rw [e]; rfl
    rw [h1, h2]
    have := corner_l l h hB l.length k 0 (by omega) (by omega)
    refine ⟨_, this, ?_, List.length_map _⟩
    rw [sh_Z]
    unfold cornerZ
    rw [ofZ_len]
theorem less_l (a b : List S24) (hl : a.length = b.length) (h60 : a.length ≤ 60) : ∀ d k i, a.length = i + d → d < k →
    hanaperref27_less.l0 k a b (i : Int) = some (decide (cmpL ((ofZ a).drop i) ((ofZ b).drop i) < 0))
  | 0, k, i, hd, hk => by
    obtain ⟨k, rfl⟩ : ∃ m, k = m + 1 := ⟨k - 1, by omega⟩
    simp only [hanaperref27_less.l0]
    rw [if_neg (by omega), List.drop_of_length_le (by rw [ofZ_len]; omega), List.drop_of_length_le (by rw [ofZ_len]; omega)]
    simp [cmpL]
  | d + 1, k, i, hd, hk => by
    obtain ⟨k, rfl⟩ : ∃ m, k = m + 1 := ⟨k - 1, by omega⟩
    have e1 : (ofZ a).drop i = toZ (rd_T24 a (i : Int)) :: (ofZ a).drop (i + 1) := by rw [drop_z (by rw [ofZ_len]; omega), rd_Zn a (by omega)]
    have e2 : (ofZ b).drop i = toZ (rd_T24 b (i : Int)) :: (ofZ b).drop (i + 1) := by rw [drop_z (by rw [ofZ_len]; omega), rd_Zn b (by omega)]
    have ih := less_l a b hl h60 d k (i + 1) (by omega) (by omega)
    rw [e1, e2]
    simp only [hanaperref27_less.l0]
    rw [if_pos (by omega), if_pos (by omega), if_pos (by omega), w64 (by omega), show (i : Int) + 1 = ((i + 1 : Nat) : Int) by omega, ih]
    generalize rd_T24 a (i : Int) = x
    generalize rd_T24 b (i : Int) = y
    have ec : cmpL (toZ x :: (ofZ a).drop (i + 1)) (toZ y :: (ofZ b).drop (i + 1)) = if cmpz (toZ x) (toZ y) ≠ 0 then cmpz (toZ x) (toZ y) else cmpL ((ofZ a).drop (i + 1)) ((ofZ b).drop (i + 1)) := rfl
    rw [ec]
    by_cases c1 : x.f0 = y.f0
    · rw [if_pos c1]
      have z0 : cmpI x.f0 y.f0 = 0 := by rw [c1]; unfold cmpI; simp
      have z1 : cmpz (toZ x) (toZ y) = cmpI x.f1 y.f1 := by unfold cmpz; simp only; rw [z0]; simp
      rw [z1]
      by_cases c2 : x.f1 = y.f1
      · rw [if_pos c2]
        have z2 : cmpI x.f1 y.f1 = 0 := by rw [c2]; unfold cmpI; simp
        rw [z2]
        simp
      · rw [if_neg c2]
        rcases cmpI_cases x.f1 y.f1 with ⟨e, g⟩ | ⟨e, g⟩ | ⟨e, g⟩
        · rw [e]; simp [g]
        · exact absurd g c2
        · rw [e]; simp; omega
    · rw [if_neg c1]
      rcases cmpI_cases x.f0 y.f0 with ⟨e, g⟩ | ⟨e, g⟩ | ⟨e, g⟩
      · have z1 : cmpz (toZ x) (toZ y) = -1 := by unfold cmpz; simp only; rw [e]; simp
        rw [z1]; simp [g]
      · exact absurd g c1
      · have z1 : cmpz (toZ x) (toZ y) = 1 := by unfold cmpz; simp only; rw [e]; simp
        rw [z1]; simp; omega
theorem less_f (a b : List S24) (hl : a.length = b.length) (h60 : a.length ≤ 60) (k : Nat) (hk : 60 < k) : hanaperref27_less.f k a b = some (decide (cmpL (ofZ a) (ofZ b) < 0)) := by
  have := less_l a b hl h60 a.length k 0 (by omega) (by omega)
  rw [List.drop_zero, List.drop_zero] at this
  exact this
/-! Normal -/
def Bst (zs : List CX) (n : Nat) : List CX := wayZ zs (leastAt (waysZ zs) n)
theorem Bst_step (zs : List CX) (n : Nat) (hn : n + 1 < 8) : Bst zs (n + 1) = if cmpL (wayZ zs (n + 1)) (Bst zs n) < 0 then wayZ zs (n + 1) else Bst zs n := by
  have h7 : leastAt (waysZ zs) n < 8 := by have := leastAt_le (waysZ zs) n; omega
  unfold Bst
  show wayZ zs (if cmpL (rowOf (waysZ zs) (n + 1)) (rowOf (waysZ zs) (leastAt (waysZ zs) n)) < 0 then n + 1 else leastAt (waysZ zs) n) = _
  rw [rowOf_ways zs _ hn, rowOf_ways zs _ h7]
  by_cases c : cmpL (wayZ zs (n + 1)) (wayZ zs (leastAt (waysZ zs) n)) < 0
  · rw [if_pos c, if_pos c]
  · rw [if_neg c, if_neg c]
theorem Bst_a (zs : List CX) (i : Nat) (hi : i < 4) : (if cmpL (wayZ zs (2 * i)) (Bst zs (2 * i - 1)) < 0 then wayZ zs (2 * i) else Bst zs (2 * i - 1)) = Bst zs (2 * i) := by
  by_cases h0 : i = 0
  · subst h0
    have : Bst zs (2 * 0 - 1) = wayZ zs (2 * 0) := rfl
    rw [this, cmpL_self, if_neg (by decide)]
  · have := Bst_step zs (2 * i - 1) (by omega)
    rw [show 2 * i - 1 + 1 = 2 * i by omega] at this
    exact this.symm
theorem nrm_l (l : List S24) (h : Pb 1000 l) : ∀ d k i (x : List S24), i + d = 4 → d + 200 < k → ofZ x = Bst (ofZ l) (2 * i - 1) →
    ∃ m, hanaperref27_Normal.l0 k l x (i : Int) = some m ∧ ofZ m = normZ (ofZ l)
  | 0, k, i, x, hd, hk, hx => by
    obtain ⟨k, rfl⟩ : ∃ m, k = m + 1 := ⟨k - 1, by omega⟩
    obtain rfl : i = 4 := by omega
    simp only [hanaperref27_Normal.l0]
    rw [if_neg (by omega)]
    exact ⟨x, rfl, hx⟩
  | d + 1, k, i, x, hd, hk, hx => by
    obtain ⟨k, rfl⟩ : ∃ m, k = m + 1 := ⟨k - 1, by omega⟩
    have hl := h.1
    have him : ((i : Int) % 4).toNat = i := by omega
    have hxl : x.length = l.length := by
      have := congrArg List.length hx
      unfold Bst at this
      rw [ofZ_len, way_len, ofZ_len] at this
      exact this
    have hT : Pb 2000 (l.map (tnP i)) := pb_of (by rw [List.length_map]; exact hl) (by rw [tn_Z]; exact map_sm (B := 1000) _ h.sm (fun z hz => turn_sm hz _))
    obtain ⟨a, ea, za, la⟩ := corner_f (l.map (tnP i)) hT (by omega) k (by omega)
    have hM : Pb 1000 (l.map mirP) := pb_of (by rw [List.length_map]; exact hl) (by rw [mir_Z]; exact map_sm conjz h.sm (fun z hz => conj_sm hz))
    have hMT : Pb 2000 ((l.map mirP).map (tnP i)) := pb_of (by rw [List.length_map, List.length_map]; exact hl) (by rw [tn_Z]; exact map_sm (B := 1000) _ hM.sm (fun z hz => turn_sm hz _))
    obtain ⟨b, eb, zb, lb⟩ := corner_f ((l.map mirP).map (tnP i)) hMT (by omega) k (by omega)
    have za2 : ofZ a = wayZ (ofZ l) (2 * i) := by rw [za, tn_Z, way_even]
    have zb2 : ofZ b = wayZ (ofZ l) (2 * i + 1) := by rw [zb, tn_Z, mir_Z, way_odd]
    rw [List.length_map] at la
    rw [List.length_map, List.length_map] at lb
    have fT := tn_f l h (by omega) (i : Int) k (by omega)
    have fMT := tn_f (l.map mirP) hM (by omega) (i : Int) k (by omega)
    rw [him] at fT fMT
    have sa := Bst_a (ofZ l) i (by omega)
    have sb := Bst_step (ofZ l) (2 * i) (by omega)
    rw [← hx, ← za2] at sa
    rw [← zb2] at sb
    simp only [hanaperref27_Normal.l0]
    rw [if_pos (by omega), fT, Option.bind_some, ea, Option.bind_some, mir_f l h (by omega) k (by omega), Option.bind_some, fMT, Option.bind_some, eb, Option.bind_some,
      less_f a x (by omega) (by omega) k (by omega), Option.bind_some, w64 (by omega), show (i : Int) + 1 = ((i + 1 : Nat) : Int) by omega]
    have nx : ∀ y : List S24, ofZ y = Bst (ofZ l) (2 * i + 1) → ∃ m, hanaperref27_Normal.l0 k l y ((i + 1 : Nat) : Int) = some m ∧ ofZ m = normZ (ofZ l) := fun y hy =>
      nrm_l l h d k (i + 1) y (by omega) (by omega) (by rw [hy]; congr 1)
    by_cases c1 : cmpL (ofZ a) (ofZ x) < 0
    · rw [if_pos (by simpa using c1), less_f b a (by omega) (by omega) k (by omega), Option.bind_some]
      rw [if_pos c1] at sa
      rw [← sa] at sb
      by_cases c2 : cmpL (ofZ b) (ofZ a) < 0
      · rw [if_pos c2] at sb
        rw [if_pos (by simpa using c2)]
        exact nx b sb.symm
      · rw [if_neg c2] at sb
        rw [if_neg (by simpa using c2)]
        exact nx a sb.symm
    · rw [if_neg (by simpa using c1), less_f b x (by omega) (by omega) k (by omega), Option.bind_some]
      rw [if_neg c1] at sa
      rw [← sa] at sb
      by_cases c2 : cmpL (ofZ b) (ofZ x) < 0
      · rw [if_pos c2] at sb
        rw [if_pos (by simpa using c2)]
        exact nx b sb.symm
      · rw [if_neg c2] at sb
        rw [if_neg (by simpa using c2)]
        exact nx x sb.symm
theorem nrm_f (l : List S24) (h : Pb 1000 l) (k : Nat) (hk : 300 ≤ k) : ∃ m, hanaperref27_Normal.f k l = some m ∧ ofZ m = normZ (ofZ l) := by
  obtain ⟨c, ec, zc, lc⟩ := corner_f l h (by omega) k (by omega)
  unfold hanaperref27_Normal.f
  rw [ec, Option.bind_some]
  refine nrm_l l h 4 k 0 c (by omega) (by omega) ?_
  rw [zc]
  show cornerZ (ofZ l) = wayZ (ofZ l) (2 * 0)
  rw [way_even]
  congr 1
  have : ∀ z ∈ ofZ l, id z = (fun z => mulz z (qn 0)) z := fun z _ => by unfold qn mulz; simp
  rw [← List.map_congr_left this, List.map_id]
/-! Same -/
theorem same_l (a b : List S24) (hl : a.length = b.length) (h60 : a.length ≤ 60) : ∀ d k i, a.length = i + d → d < k →
    hanaperref27_Same.l0 k a b (i : Int) = some (decide ((ofZ a).drop i = (ofZ b).drop i))
  | 0, k, i, hd, hk => by
    obtain ⟨k, rfl⟩ : ∃ m, k = m + 1 := ⟨k - 1, by omega⟩
    simp only [hanaperref27_Same.l0]
    rw [if_neg (by omega), List.drop_of_length_le (by rw [ofZ_len]; omega), List.drop_of_length_le (by rw [ofZ_len]; omega)]
    simp
  | d + 1, k, i, hd, hk => by
    obtain ⟨k, rfl⟩ : ∃ m, k = m + 1 := ⟨k - 1, by omega⟩
    have e1 : (ofZ a).drop i = toZ (rd_T24 a (i : Int)) :: (ofZ a).drop (i + 1) := by rw [drop_z (by rw [ofZ_len]; omega), rd_Zn a (by omega)]
    have e2 : (ofZ b).drop i = toZ (rd_T24 b (i : Int)) :: (ofZ b).drop (i + 1) := by rw [drop_z (by rw [ofZ_len]; omega), rd_Zn b (by omega)]
    have ih := same_l a b hl h60 d k (i + 1) (by omega) (by omega)
    rw [e1, e2]
    simp only [hanaperref27_Same.l0]
    rw [if_pos (by omega), if_pos (by omega), if_pos (by omega), w64 (by omega), show (i : Int) + 1 = ((i + 1 : Nat) : Int) by omega, ih]
    generalize rd_T24 a (i : Int) = x
    generalize rd_T24 b (i : Int) = y
    by_cases c1 : x.f0 = y.f0
    · by_cases c2 : x.f1 = y.f1
      · simp [c1, c2]
      · simp [c1, c2]
    · simp [c1]
theorem same_f (a b : List S24) (h60 : a.length ≤ 60) (k : Nat) (hk : 60 < k) : hanaperref27_Same.f k a b = some (decide (ofZ a = ofZ b)) := by
  unfold hanaperref27_Same.f
  by_cases hl : a.length = b.length
  · rw [if_pos (by omega)]
    have := same_l a b hl h60 a.length k 0 (by omega) (by omega)
    rw [List.drop_zero, List.drop_zero] at this
    exact this
  · rw [if_neg (by omega)]
    have : ofZ a ≠ ofZ b := fun e => hl (by rw [← ofZ_len a, e, ofZ_len])
    simp [this]
end Go.Proofs.Ytdpcfamgmicboad.PStampN
