/- The statement StampNormal of the given program: the law answers true for every input, and its arguments read as before; no condition. (Written by a program of this session.) -/
import Derived.Test.YtdpcfamgmicboadRows
import Derived.Test.YtdpcfamgmicboadStatStampNormal
import Derived.Test.YtdpcfamgmicboadPureStampNormal
import Derived.WalkKit
import Derived.ProofKit
import Derived.OpenShut
import Derived.ShutString
import Derived.ChangeOld
import Derived.Below
import Derived.SizedLaws
import Derived.Carry
namespace Go.Proofs.Ytdpcfamgmicboad.stampNormal
open Go.ChangeShapes Go.WideShapes Go.ChangeAt Go.RowKit Go.Proofs.YtdpcfamgmicboadW.PrintWords Go.Proofs.Ytdpcfamgmicboad.Open Go.Proofs.Ytdpcfamgmicboad.PStampN
open Go.ChangeMaps (open_string shut_string)
set_option linter.unusedVariables false
theorem own : ownKnob Try.prog.godebug = none := by kernel_rfl
theorem laidOut : laidOutB Try.prog = true := by kernel_rfl
set_option maxRecDepth 100000 in
theorem lifted (os : Os) (started : os.Started) (H : Type) (enc : TypeId × Value → H) :
    ReturnsInHanded {} Try.checked os 6 .any (Rows.stampNormalSpec.pre6 enc Try.prog Try.f6 Rows.stampNormalRow.domain false) (Rows.stampNormalSpec.post enc Try.prog Try.f6 false true false false) := by
  refine returnsInHanded_of_change_sized (C := Try.checked) own started (by kernel_rfl) Try.func6
    (ChangeSpec.witness6 (enc := enc) (C := Try.checked) false ⟨#[], #[.slice none 0 0, .slice none 0 0, .agg #[.int .u8 0, .int .u8 0, .int .u8 0, .int .u8 0, .int .u8 0, .int .u8 0, .int .u8 0, .int .u8 0, .int .u8 0, .int .u8 0, .int .u8 0, .int .u8 0, .int .u8 0, .int .u8 0, .int .u8 0, .int .u8 0, .int .u8 0, .int .u8 0, .int .u8 0, .int .u8 0, .int .u8 0, .int .u8 0, .int .u8 0, .int .u8 0, .int .u8 0, .int .u8 0, .int .u8 0, .int .u8 0, .int .u8 0, .int .u8 0, .int .u8 0, .int .u8 0]], []⟩ 8 (by kernel_rfl) (by kernel_rfl) (by kernel_rfl) (by kernel_rfl)) ?_
  intro W base args ds gs before hval0 hW hcnd hsz0 _
  have hsz : (DataW.weightsEach Try.prog (Try.f6.params.toList ++ Rows.stampNormalSpec.plain.varTypes Try.prog) (ds ++ gs)).all (· ≤ reachBytes) = true := hsz0
  have hval : ∀ (j : Nat) t v, Try.f6.params[j]? = some t → args[j]? = some v → Value.okWide Try.prog W .any base t v := hval0
  have hW' := hW
  obtain ⟨p, q, hA0, hV, rfl, hfz, hnd⟩ := hW
  have hA : DataW.TrodAll enc Try.prog W 0 (fun _ => true) true Try.f6.params.toList args.toList ds p := hA0
  rw [Try.params6] at hA hval hsz
  obtain ⟨v0, vs0, d0, ds0, p0, q0, hargs, rfl, rfl, h0, r0⟩ := trodAll_cons hA
  obtain ⟨v1, vs1, d1, ds1, p1, q1, rfl, rfl, rfl, h1, r1⟩ := trodAll_cons r0
  obtain ⟨v2, vs2, d2, ds2, p2, q2, rfl, rfl, rfl, h2, r2⟩ := trodAll_cons r1
  obtain ⟨rfl, rfl, rfl⟩ := trodAll_nil r2
  obtain rfl : args = #[v0, v1, v2] := by cases args; simp_all
  obtain ⟨rfl, rfl⟩ := trodVars_none hV
  have lt0 : ∀ x ∈ p0, x.block < W.heap.size := by obtain ⟨m, hm⟩ := h0; exact DataW.trod_lt m _ _ _ hm
  obtain ⟨x0, hk0, ok0_⟩ := opened (j := 0) (fun f => (op_slice Try.underlying22 (by kernel_rfl) (by kernel_rfl) 24 (fun g _ => (op24 _)))) h0 hsz rfl rfl
  obtain ⟨a0, len0, cap0, rfl⟩ := okWide_slice Try.underlying22 (hval 0 22 v0 rfl rfl)
  obtain ⟨A0, c0, hk0, l0, g0⟩ := hk0
  obtain ⟨rfl, rfl, rfl⟩ : a0 = A0 ∧ len0 = x0.length ∧ cap0 = c0 := by simpa [Value.cells] using hk0
  have lt1 : ∀ x ∈ p1, x.block < W.heap.size := by obtain ⟨m, hm⟩ := h1; exact DataW.trod_lt m _ _ _ hm
  obtain ⟨x1, hk1, ok1_⟩ := opened (j := 1) (fun f => (op_slice Try.underlying22 (by kernel_rfl) (by kernel_rfl) 24 (fun g _ => (op24 _)))) h1 hsz rfl rfl
  obtain ⟨a1, len1, cap1, rfl⟩ := okWide_slice Try.underlying22 (hval 1 22 v1 rfl rfl)
  obtain ⟨A1, c1, hk1, l1, g1⟩ := hk1
  obtain ⟨rfl, rfl, rfl⟩ : a1 = A1 ∧ len1 = x1.length ∧ cap1 = c1 := by simpa [Value.cells] using hk1
  have lt2 : ∀ x ∈ p2, x.block < W.heap.size := by obtain ⟨m, hm⟩ := h2; exact DataW.trod_lt m _ _ _ hm
  obtain ⟨x2, hk2, ok2_⟩ := opened (j := 2) op42 h2 hsz rfl rfl
  obtain ⟨cs2, rfl, hcs2⟩ := okWide_arr Try.underlying42 (hval 2 42 v2 rfl rfl)
  have hk2 := k42_open hk2
  obtain rfl : cs2 = #[.int .u8 x2.f0, .int .u8 x2.f1, .int .u8 x2.f2, .int .u8 x2.f3, .int .u8 x2.f4, .int .u8 x2.f5, .int .u8 x2.f6, .int .u8 x2.f7, .int .u8 x2.f8, .int .u8 x2.f9, .int .u8 x2.f10, .int .u8 x2.f11, .int .u8 x2.f12, .int .u8 x2.f13, .int .u8 x2.f14, .int .u8 x2.f15, .int .u8 x2.f16, .int .u8 x2.f17, .int .u8 x2.f18, .int .u8 x2.f19, .int .u8 x2.f20, .int .u8 x2.f21, .int .u8 x2.f22, .int .u8 x2.f23, .int .u8 x2.f24, .int .u8 x2.f25, .int .u8 x2.f26, .int .u8 x2.f27, .int .u8 x2.f28, .int .u8 x2.f29, .int .u8 x2.f30, .int .u8 x2.f31] := Array.toList_inj.1 hk2
  obtain ⟨k, h⟩ := Pure.StampNormal x0 x1 x2 ok0_ ok1_ ok2_
  refine (PStampN.hanaperlaw27_StampNormal.calls (k := k) (A0 := a0) (c0 := cap0) (l0 := x0) (hr0 := g0) (hc0 := l0) (A1 := a1) (c1 := cap1) (l1 := x1) (hr1 := g1) (hc1 := l1) (a2_0 := x2.f0) (a2_1 := x2.f1) (a2_2 := x2.f2) (a2_3 := x2.f3) (a2_4 := x2.f4) (a2_5 := x2.f5) (a2_6 := x2.f6) (a2_7 := x2.f7) (a2_8 := x2.f8) (a2_9 := x2.f9) (a2_10 := x2.f10) (a2_11 := x2.f11) (a2_12 := x2.f12) (a2_13 := x2.f13) (a2_14 := x2.f14) (a2_15 := x2.f15) (a2_16 := x2.f16) (a2_17 := x2.f17) (a2_18 := x2.f18) (a2_19 := x2.f19) (a2_20 := x2.f20) (a2_21 := x2.f21) (a2_22 := x2.f22) (a2_23 := x2.f23) (a2_24 := x2.f24) (a2_25 := x2.f25) (a2_26 := x2.f26) (a2_27 := x2.f27) (a2_28 := x2.f28) (a2_29 := x2.f29) (a2_30 := x2.f30) (a2_31 := x2.f31) (r := true) (w := W) (h := h) (hr_ := rfl)).mono fun e W' ⟨he, hb⟩ => ?_
  have bel : Below W.heap.size W W' := hb
  subst he
  exact ⟨_, rfl, _, _, _, [], _, [], hW', trodAll_mk1 (shut_bool Try.underlying4 _), (trodAll_cons_mk (Below.trod laidOut (by kernel_rfl) (of_decide_eq_true (by kernel_rfl)) h0 bel lt0) (trodAll_cons_mk (Below.trod laidOut (by kernel_rfl) (of_decide_eq_true (by kernel_rfl)) h1 bel lt1) (trodAll_cons_mk (Below.trod laidOut (by kernel_rfl) (of_decide_eq_true (by kernel_rfl)) h2 bel lt2) trodAll_mk0))), rfl, bel.frame _, fun h => by cases h⟩
theorem over : Rows.stampNormalRow.holds Try.pinned (OpenSpec.ofChange Rows.stampNormalSpec) :=
  OpenClaim.holds_of_wide 6 Try.f6 rfl rfl rfl rfl rfl rfl rfl ⟨rfl, rfl, rfl, rfl, rfl⟩ rfl rfl rfl rfl rfl (by kernel_rfl) Try.func6 (by kernel_rfl)
    (of_decide_eq_true (by kernel_rfl)) (by unfold Func.isWrapper; first | (rw [if_pos (by decide +kernel)]; kernel_rfl) | (rw [if_neg (by decide +kernel)]; exact ⟨rfl, rfl⟩))
    (fun os started H enc _ => lifted os started H enc)
theorem proved : Rows.StampNormalSaid := over
#print axioms proved
end Go.Proofs.Ytdpcfamgmicboad.stampNormal
namespace Go.Proofs.Ytdpcfamgmicboad
/-- The row, under a short name, for the claim. -/
theorem stampNormal_holds : Rows.StampNormalSaid := stampNormal.proved
end Go.Proofs.Ytdpcfamgmicboad
