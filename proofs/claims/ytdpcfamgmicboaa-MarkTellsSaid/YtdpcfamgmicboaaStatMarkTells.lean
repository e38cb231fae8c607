/- The pure statement of the law MarkTells, and how its arguments read; no condition. (Written by a program of this session.) -/
import Derived.Test.YtdpcfamgmicboaaPMarkTellsx2
import Derived.Test.YtdpcfamgmicboaaOpen
import Derived.KernelRfl
namespace Go.Proofs.Ytdpcfamgmicboaa.PMarkTells
open Go.RowKit Go.Proofs.YtdpcfamgmicboaaW.PrintWords Go.Proofs.Ytdpcfamgmicboaa.Open
set_option linter.unusedVariables false

def ok35 (x : S35) : Prop := ((Lit.int .i64 x.f0).wf = true) ∧ ((Lit.int .u8 x.f1).wf = true)
theorem op35 {H : Type} {enc : TypeId × Value → H} {W : World} {sp : Nat → Bool} : ∀ f, OpAt enc Try.prog W sp 35 k35 ok35 f :=
  op_all fun f => op_iso (op_struct Try.underlying35 (by kernel_rfl) (opf_pair rfl (by kernel_rfl) rfl (op_int Try.underlying3 _) (opf_one rfl (by kernel_rfl) (op_int Try.underlying5 _)))) _ _ (fun y hy => ⟨⟨y.1, y.2⟩, rfl, hy⟩)
def hanaperlaw04_MarkTells.Pure : Prop := ∀ (x0 : List Int) (x1 : S35) (x2 : S35), (x0.length * 1 ≤ 140737488351232 ∧ x0.length ≤ maxLen ∧ ∀ y ∈ x0, (Lit.int .u8 y).wf = true) → (ok35 x1) → (ok35 x2) → ∃ k, hanaperlaw04_MarkTells.f k x0 x1.f0 x1.f1 x2.f0 x2.f1 = some true
end Go.Proofs.Ytdpcfamgmicboaa.PMarkTells
