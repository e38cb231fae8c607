/- The pure statement of the law StampLies: however small points lie, it is the same seal, and what is normal is so again; else the page's examples; no condition. -/
import Derived.Test.YtdpcfamgmicboadStatStampLies
import Derived.Test.YtdpcfamgmicboadStampML
import Derived.Test.YtdpcfamgmicboadStampN
namespace Go.Proofs.Ytdpcfamgmicboad.Pure
open Go.RowKit Go.Proofs.Ytdpcfamgmicboad.PStampL Go.Proofs.YtdpcfamgmicboadW.PrintWords

theorem okB_of {C : Nat} {zs : List CX} (hl : zs.length ≤ 60) (h : ∀ z ∈ zs, sm C z) : okB C zs = true := by
  unfold okB
  simp only [Bool.and_eq_true, decide_eq_true_eq]
  refine ⟨by omega, List.all_eq_true.2 fun z hz => ?_⟩
  have := h z hz
  unfold smB
  simp only [Bool.and_eq_true, decide_eq_true_eq]
  exact ⟨this.1, this.2⟩
theorem same_true {zs ys : List CX} (h1 : okB 100000 zs = true) (h2 : okB 100000 ys = true) (h : normZ zs = normZ ys) : stamp_Same.f zs ys = some true := by
  unfold stamp_Same.f
  rw [if_pos h1, if_pos h2, h]
  simp
theorem rd_sm {B : Nat} {zs : List CX} (h : ∀ z ∈ zs, sm B z) (i : Int) : sm B (rdOf cxZero zs i) := by
  show sm B (zs.getD i.toNat cxZero)
  rw [List.getD_eq_getElem?_getD]
  by_cases hi : i.toNat < zs.length
  · rw [List.getElem?_eq_getElem hi]; exact h _ (List.getElem_mem hi)
  · rw [List.getElem?_eq_none (by omega)]; exact ⟨Nat.zero_le _, Nat.zero_le _⟩
theorem lies_l (x y n : List CX) (hn : ∀ z ∈ n, sm 100000 z) (hl : n.length ≤ 60)
    (hx : okB 100000 x = true) (hx2 : okB 1000000 x = true) (hy : okB 100000 y = true) (hy2 : okB 1000000 y = true) (hmx : okB 100000 (x.map conjz) = true) (hmy : okB 100000 (y.map conjz) = true) (he : normZ x = normZ y) :
    ∀ (d k i : Nat), n.length = i + d → d < k → hanaperlaw27_StampLies.l0 k x y n n (i : Int) = some true
  | 0, k, i, hd, hk => by
    obtain ⟨k, rfl⟩ : ∃ m, k = m + 1 := ⟨k - 1, by omega⟩
    simp only [hanaperlaw27_StampLies.l0]
    have m1 : stamp_Mirror.f y = some (y.map conjz) := by unfold stamp_Mirror.f; rw [if_pos hy2]
    have m2 : stamp_Mirror.f x = some (x.map conjz) := by unfold stamp_Mirror.f; rw [if_pos hx2]
    rw [if_neg (by omega), same_true hx hy he, Option.bind_some, if_pos rfl, m1, Option.bind_some, same_true hx hmy (he.trans (Sim.mirror y).norm), Option.bind_some, if_pos rfl,
      m2, Option.bind_some, same_true hmx hy ((Sim.mirror x).norm.symm.trans he), Option.bind_some, if_pos rfl]
    rfl
  | d + 1, k, i, hd, hk => by
    obtain ⟨k, rfl⟩ : ∃ m, k = m + 1 := ⟨k - 1, by omega⟩
    have hz : zokN (rdOf cxZero n (i : Int)) = 1 := by
      have := rd_sm hn (i : Int)
      unfold zokN
      rw [if_pos ⟨by have := this.1; omega, by have := this.2; omega⟩]
    have hc : ¬ cneqN (rdOf cxZero n (i : Int)) (rdOf cxZero n (i : Int)) = 1 := by unfold cneqN; rw [if_pos rfl]; decide
    simp only [hanaperlaw27_StampLies.l0]
    rw [if_pos (by omega), if_pos (by omega), if_pos (by omega), if_pos hz, if_pos hz, if_neg hc, w64 (by omega), show (i : Int) + 1 = ((i + 1 : Nat) : Int) by omega]
    exact lies_l x y n hn hl hx hx2 hy hy2 hmx hmy he d k (i + 1) (by omega) (by omega)
theorem StampLies : hanaperlaw27_StampLies.Pure := by
  intro x0 x1 x2 h0 h1 h2
  refine ⟨400, ?_⟩
  have hlen : x0.length ≤ 100000000000000 := by omega
  obtain ⟨r1, e1, s1⟩ := small_f x0 hlen 400 (by omega)
  obtain ⟨r2, e2, s2⟩ := small_f [⟨x2.f0, x2.f1⟩] (by simp) 400 (by omega)
  have hno : ∀ a b : Int, hanaperlaw27_StampLies.j0 400 x0 x1 true a b = some true := fun a b => by
    simp only [hanaperlaw27_StampLies.j0]
    rfl
  unfold hanaperlaw27_StampLies.f
  rw [e1, Option.bind_some]
  cases r1 with
  | false => rw [if_neg (by decide)]; exact hno _ _
  | true =>
    rw [if_pos rfl, e2, Option.bind_some]
    cases r2 with
    | false => exact hno _ _
    | true =>
      have S := s1 rfl
      have Q := (s2 rfl).2 _ (List.mem_singleton.2 rfl)
      have P : Pb 1000 x0 := S
      have q1 : x2.f0.natAbs ≤ 1000 := Q.1
      have q2 : x2.f1.natAbs ≤ 1000 := Q.2
      have hl := P.1
      have hq : smB 1000000 ⟨x2.f0, x2.f1⟩ = true := by
        unfold smB
        simp only [Bool.and_eq_true, decide_eq_true_eq]
        omega
      have hk : (x1 % 4).toNat < 4 := by omega
      have hof := of_f x0 (by omega) 399 (by omega)
      have hX := P.sm
      have hL : (ofZ x0).length ≤ 60 := by rw [ofZ_len]; exact hl
      generalize ofZ x0 = x at hof hX hL
      have hT := map_sm (B := 1000) (C := 2000) (fun z => mulz z (qn (x1 % 4).toNat)) hX (fun z hz => turn_sm hz _)
      have sT := Sim.turn x (x1 % 4).toNat hk
      have lT : (x.map fun z => mulz z (qn (x1 % 4).toNat)).length ≤ 60 := by rw [List.length_map]; exact hL
      have fT : stamp_Turn.f x x1 = some (x.map fun z => mulz z (qn (x1 % 4).toNat)) := by unfold stamp_Turn.f; rw [if_pos (okB_of hL (fun z hz => sm_le (hX z hz) (by omega)))]
      generalize (x.map fun z => mulz z (qn (x1 % 4).toNat)) = t at hT sT lT fT
      have hY := map_sm (B := 2000) (C := 3000) (fun z => addz z ⟨x2.f0, x2.f1⟩) hT (fun z hz => by unfold addz sm at *; simp only; omega)
      have sY := Sim.shift t ⟨x2.f0, x2.f1⟩
      have lY : (t.map fun z => addz z ⟨x2.f0, x2.f1⟩).length ≤ 60 := by rw [List.length_map]; exact lT
      have fY : stamp_Shift.f t ⟨x2.f0, x2.f1⟩ = some (t.map fun z => addz z ⟨x2.f0, x2.f1⟩) := by unfold stamp_Shift.f; rw [if_pos (okB_of lT (fun z hz => sm_le (hT z hz) (by omega))), if_pos hq]
      generalize (t.map fun z => addz z ⟨x2.f0, x2.f1⟩) = y at hY sY lY fY
      have hN := norm_sm hX
      have lN : (normZ x).length ≤ 60 := by rw [way_len_norm]; exact hL
      have fN : stamp_Normal.f x = some (normZ x) := by unfold stamp_Normal.f; rw [if_pos (okB_of hL (fun z hz => sm_le (hX z hz) (by omega)))]
      have fM : stamp_Normal.f (normZ x) = some (normZ x) := by unfold stamp_Normal.f; rw [if_pos (okB_of lN (fun z hz => sm_le (hN z hz) (by omega))), norm_norm]
      have eY : normZ x = normZ y := sT.norm.trans sY.norm
      have lNx : (normZ x).length = x.length := way_len_norm x
      show hanaperlaw27_StampLies.j0 400 x0 x1 false _ _ = _
      simp only [hanaperlaw27_StampLies.j0]
      rw [if_neg (by decide), hof, Option.bind_some, fT, Option.bind_some, fY, Option.bind_some, fN, Option.bind_some, fM, Option.bind_some, if_pos (by rw [lNx])]
      have hb : (((normZ x).length : Int) != ((normZ x).length : Int)) = false := by simp
      rw [hb]
      simp only [hanaperlaw27_StampLies.j1]
      rw [if_neg (by decide)]
      exact lies_l x y (normZ x) (fun z hz => sm_le (hN z hz) (by omega)) lN (okB_of hL (fun z hz => sm_le (hX z hz) (by omega))) (okB_of hL (fun z hz => sm_le (hX z hz) (by omega)))
        (okB_of lY (fun z hz => sm_le (hY z hz) (by omega))) (okB_of lY (fun z hz => sm_le (hY z hz) (by omega)))
        (okB_of (by rw [List.length_map]; exact hL) (map_sm conjz hX (fun z hz => sm_le (conj_sm hz) (by omega)))) (okB_of (by rw [List.length_map]; exact lY) (map_sm conjz hY (fun z hz => sm_le (conj_sm hz) (by omega)))) eY (normZ x).length 398 0 (by omega) (by omega)

end Go.Proofs.Ytdpcfamgmicboad.Pure
