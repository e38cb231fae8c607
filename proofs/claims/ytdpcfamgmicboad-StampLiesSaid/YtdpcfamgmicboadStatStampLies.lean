/- The pure statement of the law StampLies, and how its arguments read; no condition. (Written by a program of this session.) -/
import Derived.Test.YtdpcfamgmicboadPStampLx2
import Derived.Test.YtdpcfamgmicboadOpen
import Derived.KernelRfl
namespace Go.Proofs.Ytdpcfamgmicboad.PStampL
open Go.RowKit Go.Proofs.YtdpcfamgmicboadW.PrintWords Go.Proofs.Ytdpcfamgmicboad.Open
set_option linter.unusedVariables false

def ok24 (x : S24) : Prop := ((Lit.int .i64 x.f0).wf = true) ∧ ((Lit.int .i64 x.f1).wf = true)
theorem op24 {H : Type} {enc : TypeId × Value → H} {W : World} {sp : Nat → Bool} : ∀ f, OpAt enc Try.prog W sp 24 k24 ok24 f :=
  op_all fun f => op_iso (op_struct Try.underlying24 (by kernel_rfl) (opf_pair rfl (by kernel_rfl) rfl (op_int Try.underlying3 _) (opf_one rfl (by kernel_rfl) (op_int Try.underlying3 _)))) _ _ (fun y hy => ⟨⟨y.1, y.2⟩, rfl, hy⟩)
def hanaperlaw27_StampLies.Pure : Prop := ∀ (x0 : List (S24)) (x1 : Int) (x2 : S24), (x0.length * 16 ≤ 140737488351232 ∧ x0.length ≤ maxLen ∧ ∀ y ∈ x0, ok24 y) → ((Lit.int .i64 x1).wf = true) → (ok24 x2) → ∃ k, hanaperlaw27_StampLies.f k x0 x1 x2.f0 x2.f1 = some true
end Go.Proofs.Ytdpcfamgmicboad.PStampL
