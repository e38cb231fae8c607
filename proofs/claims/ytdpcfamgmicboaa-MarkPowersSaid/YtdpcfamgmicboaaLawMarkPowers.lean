/- The statement MarkPowers of the given program: the law answers true for every input, and its arguments read as before; no condition. (Written by a program of this session.) -/
import Derived.Test.YtdpcfamgmicboaaRows
import Derived.Test.YtdpcfamgmicboaaStatMarkPowers
import Derived.Test.YtdpcfamgmicboaaPureMarkPowers
import Derived.WalkKit
import Derived.ProofKit
import Derived.OpenShut
import Derived.ShutString
import Derived.ChangeOld
import Derived.Below
import Derived.SizedLaws
import Derived.Carry
namespace Go.Proofs.Ytdpcfamgmicboaa.markPowers
open Go.ChangeShapes Go.WideShapes Go.ChangeAt Go.RowKit Go.Proofs.YtdpcfamgmicboaaW.PrintWords Go.Proofs.Ytdpcfamgmicboaa.Open Go.Proofs.Ytdpcfamgmicboaa.PMarkPowers
open Go.ChangeMaps (open_string shut_string)
set_option linter.unusedVariables false
theorem own : ownKnob Try.prog.godebug = none := by kernel_rfl
theorem laidOut : laidOutB Try.prog = true := by kernel_rfl
set_option maxRecDepth 100000 in
theorem lifted (os : Os) (started : os.Started) (H : Type) (enc : TypeId × Value → H) :
    ReturnsInHanded {} Try.checked os 5 .any (Rows.markPowersSpec.pre6 enc Try.prog Try.f5 Rows.markPowersRow.domain false) (Rows.markPowersSpec.post enc Try.prog Try.f5 false true false false) := by
  refine returnsInHanded_of_change_sized (C := Try.checked) own started (by kernel_rfl) Try.func5
    (ChangeSpec.witness6 (enc := enc) (C := Try.checked) false ⟨#[], #[.int .i64 0], []⟩ 8 (by kernel_rfl) (by kernel_rfl) (by kernel_rfl) (by kernel_rfl)) ?_
  intro W base args ds gs before hval0 hW hcnd hsz0 _
  have hsz : (DataW.weightsEach Try.prog (Try.f5.params.toList ++ Rows.markPowersSpec.plain.varTypes Try.prog) (ds ++ gs)).all (· ≤ reachBytes) = true := hsz0
  have hval : ∀ (j : Nat) t v, Try.f5.params[j]? = some t → args[j]? = some v → Value.okWide Try.prog W .any base t v := hval0
  have hW' := hW
  obtain ⟨p, q, hA0, hV, rfl, hfz, hnd⟩ := hW
  have hA : DataW.TrodAll enc Try.prog W 0 (fun _ => true) true Try.f5.params.toList args.toList ds p := hA0
  rw [Try.params5] at hA hval hsz
  obtain ⟨v0, vs0, d0, ds0, p0, q0, hargs, rfl, rfl, h0, r0⟩ := trodAll_cons hA
  obtain ⟨rfl, rfl, rfl⟩ := trodAll_nil r0
  obtain rfl : args = #[v0] := by cases args; simp_all
  obtain ⟨rfl, rfl⟩ := trodVars_none hV
  have lt0 : ∀ x ∈ p0, x.block < W.heap.size := by obtain ⟨m, hm⟩ := h0; exact DataW.trod_lt m _ _ _ hm
  obtain ⟨x0, hk0, ok0_⟩ := opened (j := 0) (fun f => (op_int Try.underlying3 _)) h0 hsz rfl rfl
  obtain ⟨z0, rfl, _, _, _⟩ := open_int Try.underlying3 (hval 0 3 v0 rfl rfl) h0
  obtain rfl : z0 = x0 := by have e : [Value.int .i64 z0] = [Value.int .i64 x0] := hk0; simpa using e
  clear hA0 hval0 hsz0 hsz
  obtain ⟨k, h⟩ := Pure.MarkPowers z0 ok0_
  refine (PMarkPowers.hanaperlaw04_MarkPowers.calls (k := k) (a0 := z0) (r := true) (w := W) (h := h) (hr_ := rfl)).mono fun e W' ⟨he, hb⟩ => ?_
  have bel : Below W.heap.size W W' := hb
  subst he
  exact ⟨_, rfl, _, _, _, [], _, [], hW', trodAll_mk1 (shut_bool Try.underlying4 _), (trodAll_cons_mk (Below.trod laidOut (by kernel_rfl) (of_decide_eq_true (by kernel_rfl)) h0 bel lt0) trodAll_mk0), rfl, bel.frame _, fun h => by cases h⟩
theorem over : Rows.markPowersRow.holds Try.pinned (OpenSpec.ofChange Rows.markPowersSpec) :=
  OpenClaim.holds_of_wide 5 Try.f5 rfl rfl rfl rfl rfl rfl rfl ⟨rfl, rfl, rfl, rfl, rfl⟩ rfl rfl rfl rfl rfl (by kernel_rfl) Try.func5 (by kernel_rfl)
    (of_decide_eq_true (by kernel_rfl)) (by unfold Func.isWrapper; first | (rw [if_pos (by decide +kernel)]; kernel_rfl) | (rw [if_neg (by decide +kernel)]; exact ⟨rfl, rfl⟩))
    (fun os started H enc _ => lifted os started H enc)
theorem proved : Rows.MarkPowersSaid := over
#print axioms proved
end Go.Proofs.Ytdpcfamgmicboaa.markPowers
namespace Go.Proofs.Ytdpcfamgmicboaa
/-- The row, under a short name, for the claim. -/
theorem markPowers_holds : Rows.MarkPowersSaid := markPowers.proved
end Go.Proofs.Ytdpcfamgmicboaa
