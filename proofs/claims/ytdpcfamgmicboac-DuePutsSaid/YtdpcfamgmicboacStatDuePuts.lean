/- The pure statement of the law DuePuts, and how its arguments read; no condition. (Written by a program of this session.) -/
import Derived.Test.YtdpcfamgmicboacPDuex8
import Derived.Test.YtdpcfamgmicboacOpen
import Derived.KernelRfl
namespace Go.Proofs.Ytdpcfamgmicboac.PDue
open Go.RowKit Go.Proofs.YtdpcfamgmicboacW.PrintWords Go.Proofs.Ytdpcfamgmicboac.Open
set_option linter.unusedVariables false

def ok33 (x : S33) : Prop := (x.f0.size ≤ 140737488351232) ∧ ((Lit.int .i64 x.f1).wf = true)
theorem op33 {H : Type} {enc : TypeId × Value → H} {W : World} {sp : Nat → Bool} : ∀ f, OpAt enc Try.prog W sp 33 k33 ok33 f :=
  op_all fun f => op_iso (op_struct Try.underlying33 (by kernel_rfl) (opf_pair rfl (by kernel_rfl) rfl (op_string Try.underlying9 _) (opf_one rfl (by kernel_rfl) (op_int Try.underlying3 _)))) _ _ (fun y hy => ⟨⟨y.1, y.2⟩, rfl, hy⟩)
def hanaperlaw19_DuePuts.Pure : Prop := ∀ (x0 : List (S33)) (x1 : S33), (x0.length * 24 ≤ 140737488351232 ∧ x0.length ≤ maxLen ∧ ∀ y ∈ x0, ok33 y) → (ok33 x1) → ∃ k, hanaperlaw19_DuePuts.f k x0 x1.f0 x1.f1 = some true
end Go.Proofs.Ytdpcfamgmicboac.PDue
