/- The pure statement of the law DueGrows, and how its arguments read; no condition. (Written by a program of this session.) -/
import Derived.Test.YtdpcfamgmicboacPDuex6
import Derived.Test.YtdpcfamgmicboacOpen
import Derived.KernelRfl
namespace Go.Proofs.Ytdpcfamgmicboac.PDue
open Go.RowKit Go.Proofs.YtdpcfamgmicboacW.PrintWords Go.Proofs.Ytdpcfamgmicboac.Open
set_option linter.unusedVariables false

inductive ok24 : S24 → Prop
  | mk (x : S24) (h0 : (Lit.int .i64 x.f0).wf = true) (h1 : (Lit.int .i64 x.f1).wf = true) (h2 : x.f2.size ≤ 140737488351232) (h3a : x.f3.length * 56 ≤ 140737488351232) (h3b : x.f3.length ≤ maxLen) (h3c : ∀ y ∈ x.f3, ok24 y) : ok24 x
theorem op24 {H : Type} {enc : TypeId × Value → H} {W : World} {sp : Nat → Bool} : ∀ f, OpAt enc Try.prog W sp 24 k24 ok24 f :=
  op_fix mono24 (fun d f hs hd => op_iso (op_struct Try.underlying24 (by kernel_rfl) (opf_pair rfl (by kernel_rfl) rfl (op_int Try.underlying3 _) (opf_pair rfl (by kernel_rfl) rfl (op_int Try.underlying3 _) (opf_pair rfl (by kernel_rfl) rfl (op_string Try.underlying9 _) (opf_one rfl (by kernel_rfl) (op_slice Try.underlying22 (by rw [hs]; kernel_rfl) (by kernel_rfl) _ (fun g hg => hd g (Nat.le_of_lt hg)))))))) _ _ (fun y hy => ⟨⟨y.1, y.2.1, y.2.2.1, y.2.2.2⟩, rfl, .mk _ hy.1 hy.2.1 hy.2.2.1 hy.2.2.2.1 hy.2.2.2.2.1 hy.2.2.2.2.2⟩))
def ok33 (x : S33) : Prop := (x.f0.size ≤ 140737488351232) ∧ ((Lit.int .i64 x.f1).wf = true)
theorem op33 {H : Type} {enc : TypeId × Value → H} {W : World} {sp : Nat → Bool} : ∀ f, OpAt enc Try.prog W sp 33 k33 ok33 f :=
  op_all fun f => op_iso (op_struct Try.underlying33 (by kernel_rfl) (opf_pair rfl (by kernel_rfl) rfl (op_string Try.underlying9 _) (opf_one rfl (by kernel_rfl) (op_int Try.underlying3 _)))) _ _ (fun y hy => ⟨⟨y.1, y.2⟩, rfl, hy⟩)
def hanaperlaw19_DueGrows.Pure : Prop := ∀ (x0 : S24) (x1 : List (S33)) (x2 : List (S33)), (ok24 x0) → (x1.length * 24 ≤ 140737488351232 ∧ x1.length ≤ maxLen ∧ ∀ y ∈ x1, ok33 y) → (x2.length * 24 ≤ 140737488351232 ∧ x2.length ≤ maxLen ∧ ∀ y ∈ x2, ok33 y) → ∃ k, hanaperlaw19_DueGrows.f k x0.f0 x0.f1 x0.f2 x0.f3 x1 x2 = some true
end Go.Proofs.Ytdpcfamgmicboac.PDue
