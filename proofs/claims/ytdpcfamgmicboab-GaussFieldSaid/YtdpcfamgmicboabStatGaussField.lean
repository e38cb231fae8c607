/- The pure statement of the law GaussField, and how its arguments read; no condition. (Written by a program of this session.) -/
import Derived.Test.YtdpcfamgmicboabPGaussFieldx2
import Derived.Test.YtdpcfamgmicboabOpen
import Derived.KernelRfl
namespace Go.Proofs.Ytdpcfamgmicboab.PGaussField
open Go.RowKit Go.Proofs.YtdpcfamgmicboabW.PrintWords Go.Proofs.Ytdpcfamgmicboab.Open
set_option linter.unusedVariables false

def ok23 (x : S23) : Prop := ((Lit.int .i64 x.f0).wf = true) ∧ ((Lit.int .i64 x.f1).wf = true)
theorem op23 {H : Type} {enc : TypeId × Value → H} {W : World} {sp : Nat → Bool} : ∀ f, OpAt enc Try.prog W sp 23 k23 ok23 f :=
  op_all fun f => op_iso (op_struct Try.underlying23 (by kernel_rfl) (opf_pair rfl (by kernel_rfl) rfl (op_int Try.underlying3 _) (opf_one rfl (by kernel_rfl) (op_int Try.underlying3 _)))) _ _ (fun y hy => ⟨⟨y.1, y.2⟩, rfl, hy⟩)
def hanaperlaw03_GaussField.Pure : Prop := ∀ (x0 : S23) (x1 : S23) (x2 : S23), (ok23 x0) → (ok23 x1) → (ok23 x2) → ∃ k, hanaperlaw03_GaussField.f k x0.f0 x0.f1 x1.f0 x1.f1 x2.f0 x2.f1 = some true
end Go.Proofs.Ytdpcfamgmicboab.PGaussField
