/- The pure statement of the law StampNormal: small points as they are normally, whether two are the same, and every sum's points are the document's; else the page's examples; no condition. -/
import Derived.Test.YtdpcfamgmicboadStatStampNormal
import Derived.Test.YtdpcfamgmicboadStampPN
namespace Go.Proofs.Ytdpcfamgmicboad.Pure
open Go.RowKit Go.Proofs.Ytdpcfamgmicboad.PStampN Go.Proofs.YtdpcfamgmicboadW.PrintWords

theorem u8b {n : Int} (h : (Lit.int .u8 n).wf = true) : (decide (0 ≤ n) && decide (n < 256)) = true := by
  have h2 : 0 ≤ n ∧ n < 256 := by
    simp [Lit.wf] at h
    rw [show IntKind.u8.min = 0 from rfl, show IntKind.u8.max = 255 from rfl] at h
    omega
  simp [h2.1, h2.2]
theorem okB_of {C : Nat} {zs : List CX} (hl : zs.length ≤ 60) (h : ∀ z ∈ zs, sm C z) : okB C zs = true := by
  unfold okB
  simp only [Bool.and_eq_true, decide_eq_true_eq]
  refine ⟨by omega, List.all_eq_true.2 fun z hz => ?_⟩
  have := h z hz
  unfold smB
  simp only [Bool.and_eq_true, decide_eq_true_eq]
  exact ⟨this.1, this.2⟩
theorem told_of (l : List Int) (h : inB l = true) : hanaperlaw27_told.f ((List.range 16).map (zOf l)) ((List.range 16).map (ptOf l)) = some true := by
  have e : ofZ ((List.range 16).map (ptOf l)) = (List.range 16).map (zOf l) := by unfold ofZ; rw [List.map_map]; rfl
  have ok : okB 1000000 ((List.range 16).map (zOf l)) = true := okB_of (by simp) (fun z hz => by
    obtain ⟨j, _, rfl⟩ := List.mem_map.1 hz
    have h1 := inB_get h (2 * j)
    have h2 := inB_get h (2 * j + 1)
    unfold zOf sm
    simp only
    omega)
  unfold hanaperlaw27_told.f
  rw [if_pos ok, e, if_pos ok]
  simp
theorem StampNormal : hanaperlaw27_StampNormal.Pure := by
  intro x0 x1 x2 h0 h1 h2
  obtain ⟨h0, h1, h2, h3, h4, h5, h6, h7, h8, h9, h10, h11, h12, h13, h14, h15, h16, h17, h18, h19, h20, h21, h22, h23, h24, h25, h26, h27, h28, h29, h30, h31⟩ := h2
  have hin : inB [x2.f0, x2.f1, x2.f2, x2.f3, x2.f4, x2.f5, x2.f6, x2.f7, x2.f8, x2.f9, x2.f10, x2.f11, x2.f12, x2.f13, x2.f14, x2.f15, x2.f16, x2.f17, x2.f18, x2.f19, x2.f20, x2.f21, x2.f22, x2.f23, x2.f24, x2.f25, x2.f26, x2.f27, x2.f28, x2.f29, x2.f30, x2.f31] = true := by
    unfold inB
    simp only [List.all_cons, List.all_nil, u8b h0, u8b h1, u8b h2, u8b h3, u8b h4, u8b h5, u8b h6, u8b h7, u8b h8, u8b h9, u8b h10, u8b h11, u8b h12, u8b h13, u8b h14, u8b h15, u8b h16, u8b h17, u8b h18, u8b h19, u8b h20, u8b h21, u8b h22, u8b h23, u8b h24, u8b h25, u8b h26, u8b h27, u8b h28, u8b h29, u8b h30, u8b h31, Bool.and_self]
  have hof : stamp_Of.f x2.f0 x2.f1 x2.f2 x2.f3 x2.f4 x2.f5 x2.f6 x2.f7 x2.f8 x2.f9 x2.f10 x2.f11 x2.f12 x2.f13 x2.f14 x2.f15 x2.f16 x2.f17 x2.f18 x2.f19 x2.f20 x2.f21 x2.f22 x2.f23 x2.f24 x2.f25 x2.f26 x2.f27 x2.f28 x2.f29 x2.f30 x2.f31 = some ((List.range 16).map (zOf [x2.f0, x2.f1, x2.f2, x2.f3, x2.f4, x2.f5, x2.f6, x2.f7, x2.f8, x2.f9, x2.f10, x2.f11, x2.f12, x2.f13, x2.f14, x2.f15, x2.f16, x2.f17, x2.f18, x2.f19, x2.f20, x2.f21, x2.f22, x2.f23, x2.f24, x2.f25, x2.f26, x2.f27, x2.f28, x2.f29, x2.f30, x2.f31])) := if_pos hin
  have hrf : hanaperref27_Of.f x2.f0 x2.f1 x2.f2 x2.f3 x2.f4 x2.f5 x2.f6 x2.f7 x2.f8 x2.f9 x2.f10 x2.f11 x2.f12 x2.f13 x2.f14 x2.f15 x2.f16 x2.f17 x2.f18 x2.f19 x2.f20 x2.f21 x2.f22 x2.f23 x2.f24 x2.f25 x2.f26 x2.f27 x2.f28 x2.f29 x2.f30 x2.f31 = some ((List.range 16).map (ptOf [x2.f0, x2.f1, x2.f2, x2.f3, x2.f4, x2.f5, x2.f6, x2.f7, x2.f8, x2.f9, x2.f10, x2.f11, x2.f12, x2.f13, x2.f14, x2.f15, x2.f16, x2.f17, x2.f18, x2.f19, x2.f20, x2.f21, x2.f22, x2.f23, x2.f24, x2.f25, x2.f26, x2.f27, x2.f28, x2.f29, x2.f30, x2.f31])) := if_pos hin
  have htl := told_of [x2.f0, x2.f1, x2.f2, x2.f3, x2.f4, x2.f5, x2.f6, x2.f7, x2.f8, x2.f9, x2.f10, x2.f11, x2.f12, x2.f13, x2.f14, x2.f15, x2.f16, x2.f17, x2.f18, x2.f19, x2.f20, x2.f21, x2.f22, x2.f23, x2.f24, x2.f25, x2.f26, x2.f27, x2.f28, x2.f29, x2.f30, x2.f31] hin
  refine ⟨400, ?_⟩
  obtain ⟨r1, e1, s1⟩ := small_f x0 (by omega) 400 (by omega)
  obtain ⟨r2, e2, s2⟩ := small_f x1 (by omega) 400 (by omega)
  generalize (List.range 16).map (zOf [x2.f0, x2.f1, x2.f2, x2.f3, x2.f4, x2.f5, x2.f6, x2.f7, x2.f8, x2.f9, x2.f10, x2.f11, x2.f12, x2.f13, x2.f14, x2.f15, x2.f16, x2.f17, x2.f18, x2.f19, x2.f20, x2.f21, x2.f22, x2.f23, x2.f24, x2.f25, x2.f26, x2.f27, x2.f28, x2.f29, x2.f30, x2.f31]) = tz at *
  generalize (List.range 16).map (ptOf [x2.f0, x2.f1, x2.f2, x2.f3, x2.f4, x2.f5, x2.f6, x2.f7, x2.f8, x2.f9, x2.f10, x2.f11, x2.f12, x2.f13, x2.f14, x2.f15, x2.f16, x2.f17, x2.f18, x2.f19, x2.f20, x2.f21, x2.f22, x2.f23, x2.f24, x2.f25, x2.f26, x2.f27, x2.f28, x2.f29, x2.f30, x2.f31]) = tp at *
  unfold hanaperlaw27_StampNormal.f
  rw [e1, Option.bind_some]
  cases r1 with
  | false =>
    rw [if_neg (by decide)]
    simp only [hanaperlaw27_StampNormal.j0]
    rfl
  | true =>
    rw [if_pos rfl, e2, Option.bind_some]
    cases r2 with
    | false =>
      simp only [hanaperlaw27_StampNormal.j0]
      rfl
    | true =>
      have P : Pb 1000 x0 := s1 rfl
      have Q : Pb 1000 x1 := s2 rfl
      have hl := P.1
      have hl2 := Q.1
      obtain ⟨m0, em0, zm0⟩ := nrm_f x0 P 399 (by omega)
      obtain ⟨m1, em1, zm1⟩ := nrm_f x1 Q 399 (by omega)
      have hof0 := of_f x0 (by omega) 399 (by omega)
      have hof1 := of_f x1 (by omega) 399 (by omega)
      have k0 := okB_of (C := 100000) (zs := ofZ x0) (by rw [ofZ_len]; exact hl) (fun z hz => sm_le (P.sm z hz) (by omega))
      have k1 := okB_of (C := 100000) (zs := ofZ x1) (by rw [ofZ_len]; exact hl2) (fun z hz => sm_le (Q.sm z hz) (by omega))
      have kn : okB 1000000 (normZ (ofZ x0)) = true := okB_of (by rw [way_len_norm, ofZ_len]; exact hl) (fun z hz => sm_le (norm_sm P.sm z hz) (by omega))
      have fN : stamp_Normal.f (ofZ x0) = some (normZ (ofZ x0)) := if_pos k0
      have fT : hanaperlaw27_told.f (normZ (ofZ x0)) m0 = some true := by
        unfold hanaperlaw27_told.f
        rw [zm0, if_pos kn, if_pos kn]
        simp
      have fS : stamp_Same.f (ofZ x0) (ofZ x1) = some (decide (normZ (ofZ x0) = normZ (ofZ x1))) := by
        unfold stamp_Same.f
        rw [if_pos k0, if_pos k1]
      have l0 : m0.length ≤ 60 := by
        have := congrArg List.length zm0
        rw [way_len_norm, ofZ_len, ofZ_len] at this
        omega
      have fR : hanaperref27_Same.f 399 m0 m1 = some (decide (normZ (ofZ x0) = normZ (ofZ x1))) := by rw [same_f m0 m1 l0 399 (by omega), zm0, zm1]
      simp only [hanaperlaw27_StampNormal.j0]
      rw [if_neg (by decide), em0, Option.bind_some, em1, Option.bind_some, hof0, Option.bind_some, fN, Option.bind_some, fT, Option.bind_some, if_pos rfl, Option.bind_some, hof1, Option.bind_some,
        fS, Option.bind_some, fR, Option.bind_some, if_pos (by simp), hof, Option.bind_some, hrf, Option.bind_some, htl, Option.bind_some, if_pos rfl]
      rfl

end Go.Proofs.Ytdpcfamgmicboad.Pure
