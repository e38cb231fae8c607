/- The pure statement of the law StampArea: turning and shifting leave the area, mirroring turns it about; else the page's examples; no condition. -/
import Derived.Test.YtdpcfamgmicboadStatStampArea
import Derived.Test.YtdpcfamgmicboadStampM
namespace Go.Proofs.Ytdpcfamgmicboad.Pure
open Go.RowKit Go.Proofs.Ytdpcfamgmicboad.PStamp Go.Proofs.YtdpcfamgmicboadW.PrintWords

theorem okB_map2 {C : Nat} (l : List PStamp.S24) (f : CX → CX) (hl : l.length ≤ 60) (h : ∀ z ∈ ofZ l, sm C (f z)) : okB C ((ofZ l).map f) = true := by
  unfold okB
  simp only [Bool.and_eq_true, decide_eq_true_eq]
  refine ⟨by rw [List.length_map, ofZ_len]; omega, List.all_eq_true.2 fun z hz => ?_⟩
  obtain ⟨y, hy, rfl⟩ := List.mem_map.1 hz
  have := h y hy
  unfold smB
  simp only [Bool.and_eq_true, decide_eq_true_eq]
  exact ⟨this.1, this.2⟩
theorem side_map {zs : List CX} (f : CX → CX) {i : Nat} (h : i < zs.length) : side (zs.map f) i = (mulz (conjz (f (zs.getD i cxZero))) (f (zs.getD ((i + 1) % zs.length) cxZero))).im := by
  have hn : (i + 1) % zs.length < zs.length := Nat.mod_lt _ (by omega)
  unfold side
  rw [List.length_map]
  simp [List.getD_eq_getElem?_getD, List.getElem?_eq_getElem h, List.getElem?_eq_getElem hn]
theorem area_sides {zs zs' : List CX} {c : Int} {g : Nat → Int} (h : ∀ i, i < zs.length → side zs' i = c * side zs i + (g (i + 1) - g i)) : ∀ n, n ≤ zs.length → areaN zs' n = c * areaN zs n + (g n - g 0)
  | 0, _ => by unfold areaN; omega
  | n + 1, hn => by
    have ih := area_sides h n (by omega)
    have hs := h n (by omega)
    show areaN zs' n + side zs' n = c * (areaN zs n + side zs n) + _
    rw [ih, hs, Int.mul_add]
    omega
theorem area_turn (zs : List CX) (n : Nat) : areaN (zs.map fun z => mulz z (qn n)) zs.length = areaN zs zs.length := by
  have key : (qn n).re * (qn n).re + (qn n).im * (qn n).im = 1 := by
    induction n with
    | zero => rfl
    | succ n ih =>
      unfold qn mulz
      simp only [Int.mul_zero, Int.mul_one, Int.zero_sub, Int.add_zero, Int.neg_mul_neg]
      omega
  have h := area_sides (zs := zs) (zs' := zs.map fun z => mulz z (qn n)) (c := 1) (g := fun _ => 0) (fun i hi => by
    rw [side_map _ hi]
    unfold side
    generalize zs.getD i cxZero = x
    generalize zs.getD ((i + 1) % zs.length) cxZero = y
    generalize qn n = q at key
    obtain ⟨a, b⟩ := x
    obtain ⟨c, d⟩ := y
    obtain ⟨p, r⟩ := q
    unfold mulz conjz
    simp only at key ⊢
    have e : (a * p - b * r) * (c * r + d * p) + -(a * r + b * p) * (c * p - d * r) = (a * d + -b * c) * (p * p + r * r) := by
      simp only [Int.add_mul, Int.mul_add, Int.sub_mul, Int.mul_sub, Int.neg_mul, Int.neg_add]
      have m1 : ∀ a b c d : Int, a * b * (c * d) = a * c * (b * d) := fun a b c d => by rw [Int.mul_assoc, Int.mul_assoc]; congr 1; rw [← Int.mul_assoc, ← Int.mul_assoc, Int.mul_comm b c]
      simp only [m1]
      simp only [Int.mul_comm r p]
      simp only [Int.mul_comm b c]
      omega
    rw [e, key]
    omega) zs.length (by omega)
  omega
theorem area_conj (zs : List CX) : areaN (zs.map conjz) zs.length = -areaN zs zs.length := by
  have h := area_sides (zs := zs) (zs' := zs.map conjz) (c := -1) (g := fun _ => 0) (fun i hi => by
    rw [side_map _ hi]
    unfold side
    generalize zs.getD i cxZero = x
    generalize zs.getD ((i + 1) % zs.length) cxZero = y
    obtain ⟨a, b⟩ := x
    obtain ⟨c, d⟩ := y
    unfold mulz conjz
    simp only [Int.mul_neg, Int.neg_mul, Int.neg_neg]
    omega) zs.length (by omega)
  omega
theorem area_shift (zs : List CX) (q : CX) : areaN (zs.map fun z => addz z q) zs.length = areaN zs zs.length := by
  have h := area_sides (zs := zs) (zs' := zs.map fun z => addz z q) (c := 1) (g := fun i => q.re * (zs.getD (i % zs.length) cxZero).im - q.im * (zs.getD (i % zs.length) cxZero).re) (fun i hi => by
    rw [side_map _ hi]
    unfold side
    rw [Nat.mod_eq_of_lt hi]
    generalize zs.getD i cxZero = x
    generalize zs.getD ((i + 1) % zs.length) cxZero = y
    obtain ⟨a, b⟩ := x
    obtain ⟨c, d⟩ := y
    obtain ⟨p, r⟩ := q
    unfold mulz conjz addz
    simp only [Int.add_mul, Int.mul_add, Int.neg_mul, Int.neg_add, Int.one_mul]
    rw [Int.mul_comm a r, Int.mul_comm b p, Int.mul_comm p r]
    omega) zs.length (by omega)
  simp only [Nat.mod_self, Nat.zero_mod] at h
  omega
theorem StampArea : hanaperlaw27_StampArea.Pure := by
  intro x0 x1 x2 h0 h1 h2
  refine ⟨400, ?_⟩
  have hlen : x0.length ≤ 100000000000000 := by omega
  obtain ⟨r1, e1, s1⟩ := small_f x0 hlen 400 (by omega)
  obtain ⟨r2, e2, s2⟩ := small_f [⟨x2.f0, x2.f1⟩] (by simp) 400 (by omega)
  have hno : ∀ a b : Int, hanaperlaw27_StampArea.j0 400 x0 x1 true a b = some true := fun a b => by
    simp only [hanaperlaw27_StampArea.j0]
    rfl
  unfold hanaperlaw27_StampArea.f
  rw [e1, Option.bind_some]
  cases r1 with
  | false => rw [if_neg (by decide)]; exact hno _ _
  | true =>
    rw [if_pos rfl, e2, Option.bind_some]
    cases r2 with
    | false => exact hno _ _
    | true =>
      have S := s1 rfl
      have Q := (s2 rfl).2 _ (List.mem_singleton.2 rfl)
      have P : Pb 1000 x0 := S
      have ok : okB 1000000 (ofZ x0) = true := P.okB (by omega)
      have q1 : x2.f0.natAbs ≤ 1000 := Q.1
      have q2 : x2.f1.natAbs ≤ 1000 := Q.2
      have hq : smB 1000000 ⟨x2.f0, x2.f1⟩ = true := by
        unfold smB
        simp only [Bool.and_eq_true, decide_eq_true_eq]
        omega
      have hl := P.1
      have hbd := area_bd (P.le (show 1000 ≤ 1000000 by omega)).sm x0.length
      have ok1 := okB_map2 (C := 1000000) x0 (fun z => mulz z (qn (x1 % 4).toNat)) hl (fun z hz => sm_le (turn_sm (P.sm z hz) _) (by omega))
      have ok2 := okB_map2 (C := 1000000) x0 conjz hl (fun z hz => sm_le (conj_sm (P.sm z hz)) (by omega))
      have ok3 := okB_map2 (C := 1000000) x0 (fun z => addz z ⟨x2.f0, x2.f1⟩) hl (fun z hz => by have := P.sm z hz; unfold addz sm at *; simp only; omega)
      have w : wrap64 (-areaN (ofZ x0) (ofZ x0).length) = -areaN (ofZ x0) (ofZ x0).length := w64 (by rw [ofZ_len]; omega)
      show hanaperlaw27_StampArea.j0 400 x0 x1 false _ _ = _
      simp only [hanaperlaw27_StampArea.j0]
      rw [if_neg (by decide), of_f x0 (by omega) _ (by omega), Option.bind_some]
      unfold stamp_Turn.f stamp_Mirror.f stamp_Shift.f stamp_Area.f
      rw [if_pos ok, Option.bind_some, if_pos ok, Option.bind_some, if_pos ok1, Option.bind_some, List.length_map, area_turn, if_pos rfl,
        if_pos ok, if_pos hq, Option.bind_some, if_pos ok3, Option.bind_some, List.length_map, area_shift, if_pos rfl,
        if_pos ok, Option.bind_some, if_pos ok2, Option.bind_some, List.length_map, area_conj, w, if_pos rfl]
      rfl

end Go.Proofs.Ytdpcfamgmicboad.Pure
