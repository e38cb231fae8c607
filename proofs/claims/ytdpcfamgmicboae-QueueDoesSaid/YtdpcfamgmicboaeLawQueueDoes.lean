/- The statement QueueDoes of the given program: the law answers true for every input, and its arguments read as before; no condition. (Written by a program of this session.) -/
import Derived.Test.YtdpcfamgmicboaeRows
import Derived.Test.YtdpcfamgmicboaeQueueJ
import Derived.Test.YtdpcfamgmicboaeOpen
import Derived.WalkKit
import Derived.ProofKit
import Derived.OpenShut
import Derived.ShutString
import Derived.ChangeOld
import Derived.Below
import Derived.SizedLaws
import Derived.Carry
namespace Go.Proofs.Ytdpcfamgmicboae.queueDoes
open Go.ChangeShapes Go.WideShapes Go.ChangeAt Go.RowKit Go.Proofs.YtdpcfamgmicboaeW.PrintWords Go.Proofs.Ytdpcfamgmicboae.Open Go.Proofs.Ytdpcfamgmicboae
open Go.ChangeMaps (open_string shut_string)
set_option linter.unusedVariables false
def ok28 (x : PQ.S28) : Prop := (x.f0.size ≤ 140737488351232) ∧ ((Lit.int .i64 x.f1).wf = true) ∧ ((Lit.int .i64 x.f2).wf = true)
theorem op28 {H : Type} {enc : TypeId × Value → H} {W : World} {sp : Nat → Bool} : ∀ f, OpAt enc Try.prog W sp 28 PQ.k28 ok28 f :=
  op_all fun f => op_iso (op_struct Try.underlying28 (by kernel_rfl) (opf_pair rfl (by kernel_rfl) rfl (op_string Try.underlying9 _) (opf_pair rfl (by kernel_rfl) rfl (op_int Try.underlying3 _) (opf_one rfl (by kernel_rfl) (op_int Try.underlying3 _))))) _ _ (fun y hy => ⟨⟨y.1, y.2.1, y.2.2⟩, rfl, hy⟩)
def ok30 (x : PQ.S30) : Prop := True ∧ ok28 x.f1
theorem op30 {H : Type} {enc : TypeId × Value → H} {W : World} {sp : Nat → Bool} : ∀ f, OpAt enc Try.prog W sp 30 PQ.k30 ok30 f :=
  op_all fun f => op_iso (op_struct Try.underlying30 (by kernel_rfl) (opf_pair rfl (by kernel_rfl) rfl (op_bool Try.underlying4 _) (opf_one rfl (by kernel_rfl) (op28 _)))) _ _ (fun y hy => ⟨⟨y.1, y.2⟩, rfl, hy⟩)
theorem own : ownKnob Try.prog.godebug = none := by kernel_rfl
theorem laidOut : laidOutB Try.prog = true := by kernel_rfl
set_option maxRecDepth 100000 in
theorem lifted (os : Os) (started : os.Started) (H : Type) (enc : TypeId × Value → H) :
    ReturnsInHanded {} Try.checked os 3 .any (Rows.queueDoesSpec.pre6 enc Try.prog Try.f3 Rows.queueDoesRow.domain false) (Rows.queueDoesSpec.post enc Try.prog Try.f3 false true false false) := by
  refine returnsInHanded_of_change_sized (C := Try.checked) own started (by kernel_rfl) Try.func3
    (ChangeSpec.witness6 (enc := enc) (C := Try.checked) false ⟨#[], #[.slice none 0 0], []⟩ 8 (by kernel_rfl) (by kernel_rfl) (by kernel_rfl) (by kernel_rfl)) ?_
  intro W base args ds gs before hval0 hW hcnd hsz0 _
  have hsz : (DataW.weightsEach Try.prog (Try.f3.params.toList ++ Rows.queueDoesSpec.plain.varTypes Try.prog) (ds ++ gs)).all (· ≤ reachBytes) = true := hsz0
  have hval : ∀ (j : Nat) t v, Try.f3.params[j]? = some t → args[j]? = some v → Value.okWide Try.prog W .any base t v := hval0
  have hW' := hW
  obtain ⟨p, q, hA0, hV, rfl, hfz, hnd⟩ := hW
  have hA : DataW.TrodAll enc Try.prog W 0 (fun _ => true) true Try.f3.params.toList args.toList ds p := hA0
  rw [Try.params3] at hA hval hsz
  obtain ⟨v0, vs0, d0, ds0, p0, q0, hargs, rfl, rfl, h0, r0⟩ := trodAll_cons hA
  obtain ⟨rfl, rfl, rfl⟩ := trodAll_nil r0
  obtain rfl : args = #[v0] := by cases args; simp_all
  obtain ⟨rfl, rfl⟩ := trodVars_none hV
  have lt0 : ∀ x ∈ p0, x.block < W.heap.size := by obtain ⟨m, hm⟩ := h0; exact DataW.trod_lt m _ _ _ hm
  obtain ⟨x0, hk0, ok0_⟩ := opened (j := 0) (fun f => (op_slice (B := 40) Try.underlying22 (by kernel_rfl) (by kernel_rfl) 30 (fun g _ => (op30 _)))) h0 hsz rfl rfl
  obtain ⟨a0, len0, cap0, rfl⟩ := okWide_slice Try.underlying22 (hval 0 22 v0 rfl rfl)
  obtain ⟨A0, c0, hk0, l0, g0⟩ := hk0
  obtain ⟨rfl, rfl, rfl⟩ : a0 = A0 ∧ len0 = x0.length ∧ cap0 = c0 := by simpa [Value.cells] using hk0
  refine (does_law a0 cap0 x0 W g0 (fun y hy => Nat.le_trans (ok0_.2.2 y hy).2.1 (by unfold maxLen; omega))).mono fun e W' ⟨he, hb⟩ => ?_
  have bel : Below W.heap.size W W' := hb
  subst he
  exact ⟨_, rfl, _, _, _, [], _, [], hW', trodAll_mk1 (shut_bool Try.underlying4 _), (trodAll_cons_mk (Below.trod laidOut (by kernel_rfl) (of_decide_eq_true (by kernel_rfl)) h0 bel lt0) trodAll_mk0), rfl, bel.frame _, fun h => by cases h⟩
theorem over : Rows.queueDoesRow.holds Try.pinned (OpenSpec.ofChange Rows.queueDoesSpec) :=
  OpenClaim.holds_of_wide 3 Try.f3 rfl rfl rfl rfl rfl rfl rfl ⟨rfl, rfl, rfl, rfl, rfl⟩ rfl rfl rfl rfl rfl (by kernel_rfl) Try.func3 (by kernel_rfl)
    (of_decide_eq_true (by kernel_rfl)) (by unfold Func.isWrapper; first | (rw [if_pos (by decide +kernel)]; kernel_rfl) | (rw [if_neg (by decide +kernel)]; exact ⟨rfl, rfl⟩))
    (fun os started H enc _ => lifted os started H enc)
theorem proved : Rows.QueueDoesSaid := over
#print axioms proved
end Go.Proofs.Ytdpcfamgmicboae.queueDoes
namespace Go.Proofs.Ytdpcfamgmicboae
/-- The row, under a short name, for the claim. -/
theorem queueDoes_holds : Rows.QueueDoesSaid := queueDoes.proved
end Go.Proofs.Ytdpcfamgmicboae
