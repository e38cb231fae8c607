/- The pure statement of the law StampMoves: with small points what the program answers is what the document answers; else the page's examples; no condition. -/
import Derived.Test.YtdpcfamgmicboadStatStampMoves
import Derived.Test.YtdpcfamgmicboadStampM
namespace Go.Proofs.Ytdpcfamgmicboad.Pure
open Go.RowKit Go.Proofs.Ytdpcfamgmicboad.PStamp Go.Proofs.YtdpcfamgmicboadW.PrintWords

theorem okB_map {C : Nat} (l : List PStamp.S24) (f : CX → CX) (hl : l.length ≤ 60) (h : ∀ z ∈ ofZ l, sm C (f z)) : okB C ((ofZ l).map f) = true := by
  unfold okB
  simp only [Bool.and_eq_true, decide_eq_true_eq]
  refine ⟨by rw [List.length_map, ofZ_len]; omega, List.all_eq_true.2 fun z hz => ?_⟩
  obtain ⟨y, hy, rfl⟩ := List.mem_map.1 hz
  have := h y hy
  unfold smB
  simp only [Bool.and_eq_true, decide_eq_true_eq]
  exact ⟨this.1, this.2⟩
theorem told_map {l l' : List PStamp.S24} (f : CX → CX) (hl : l.length ≤ 60) (h : ∀ z ∈ ofZ l, sm 1000000 (f z)) (e : ofZ l' = (ofZ l).map f) : hanaperlaw27_told.f ((ofZ l).map f) l' = some true := by
  have h1 := okB_map l f hl h
  unfold hanaperlaw27_told.f
  rw [if_pos h1, e, if_pos h1]
  simp
theorem StampMoves : hanaperlaw27_StampMoves.Pure := by
  intro x0 x1 x2 h0 h1 h2
  refine ⟨400, ?_⟩
  have hlen : x0.length ≤ 100000000000000 := by omega
  obtain ⟨r1, e1, s1⟩ := small_f x0 hlen 400 (by omega)
  obtain ⟨r2, e2, s2⟩ := small_f [⟨x2.f0, x2.f1⟩] (by simp) 400 (by omega)
  have hno : ∀ a b : Int, hanaperlaw27_StampMoves.j0 400 x0 x1 true a b = some true := fun a b => by
    simp only [hanaperlaw27_StampMoves.j0]
    rfl
  unfold hanaperlaw27_StampMoves.f
  rw [e1, Option.bind_some]
  cases r1 with
  | false => rw [if_neg (by decide)]; exact hno _ _
  | true =>
    rw [if_pos rfl, e2, Option.bind_some]
    cases r2 with
    | false => exact hno _ _
    | true =>
      have S := s1 rfl
      have Q := (s2 rfl).2 _ (List.mem_singleton.2 rfl)
      have P : Pb 1000 x0 := S
      have ok : okB 1000000 (ofZ x0) = true := P.okB (by omega)
      have hq : smB 1000000 ⟨x2.f0, x2.f1⟩ = true := by
        unfold smB
        simp only [Bool.and_eq_true, decide_eq_true_eq]
        have q1 : x2.f0.natAbs ≤ 1000 := Q.1
        have q2 : x2.f1.natAbs ≤ 1000 := Q.2
        omega
      have q1 : x2.f0.natAbs ≤ 1000 := Q.1
      have q2 : x2.f1.natAbs ≤ 1000 := Q.2
      have hl := P.1
      show hanaperlaw27_StampMoves.j0 400 x0 x1 false _ _ = _
      simp only [hanaperlaw27_StampMoves.j0]
      rw [if_neg (by decide), of_f x0 (by omega) _ (by omega), Option.bind_some]
      unfold stamp_Turn.f stamp_Mirror.f stamp_Shift.f stamp_Area.f
      rw [if_pos ok, Option.bind_some, tn_f x0 P (by omega) x1 _ (by omega), Option.bind_some,
        told_map _ hl (fun z hz => sm_le (turn_sm (P.sm z hz) _) (by omega)) (tn_Z x0 _), Option.bind_some, if_pos rfl,
        if_pos ok, Option.bind_some, mir_f x0 P (by omega) _ (by omega), Option.bind_some,
        told_map conjz hl (fun z hz => sm_le (conj_sm (P.sm z hz)) (by omega)) (mir_Z x0), Option.bind_some, if_pos rfl,
        if_pos ok, if_pos hq, Option.bind_some, sh_f x0 P (by omega) _ _ (by omega) (by omega) _ (by omega), Option.bind_some,
        told_map _ hl (fun z hz => by have := P.sm z hz; unfold addz sm at *; simp only; omega) (sh_Z x0 _ _), Option.bind_some, if_pos rfl,
        if_pos ok, Option.bind_some, ar_f x0 (P.le (by omega)) _ (by omega), Option.bind_some, ofZ_len, if_pos rfl]
      rfl

end Go.Proofs.Ytdpcfamgmicboad.Pure
