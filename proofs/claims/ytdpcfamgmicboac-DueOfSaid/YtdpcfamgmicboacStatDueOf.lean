/- The pure statement of the law DueOf, and how its arguments read; no condition. (Written by a program of this session.) -/
import Derived.Test.YtdpcfamgmicboacPDueOfx8
import Derived.Test.YtdpcfamgmicboacOpen
import Derived.KernelRfl
namespace Go.Proofs.Ytdpcfamgmicboac.PDueOf
open Go.RowKit Go.Proofs.YtdpcfamgmicboacW.PrintWords Go.Proofs.Ytdpcfamgmicboac.Open
set_option linter.unusedVariables false

inductive ok24 : S24 → Prop
  | mk (x : S24) (h0 : (Lit.int .i64 x.f0).wf = true) (h1 : (Lit.int .i64 x.f1).wf = true) (h2 : x.f2.size ≤ 140737488351232) (h3a : x.f3.length * 56 ≤ 140737488351232) (h3b : x.f3.length ≤ maxLen) (h3c : ∀ y ∈ x.f3, ok24 y) : ok24 x
theorem op24 {H : Type} {enc : TypeId × Value → H} {W : World} {sp : Nat → Bool} : ∀ f, OpAt enc Try.prog W sp 24 k24 ok24 f :=
  op_fix mono24 (fun d f hs hd => op_iso (op_struct Try.underlying24 (by kernel_rfl) (opf_pair rfl (by kernel_rfl) rfl (op_int Try.underlying3 _) (opf_pair rfl (by kernel_rfl) rfl (op_int Try.underlying3 _) (opf_pair rfl (by kernel_rfl) rfl (op_string Try.underlying9 _) (opf_one rfl (by kernel_rfl) (op_slice Try.underlying22 (by rw [hs]; kernel_rfl) (by kernel_rfl) _ (fun g hg => hd g (Nat.le_of_lt hg)))))))) _ _ (fun y hy => ⟨⟨y.1, y.2.1, y.2.2.1, y.2.2.2⟩, rfl, .mk _ hy.1 hy.2.1 hy.2.2.1 hy.2.2.2.1 hy.2.2.2.2.1 hy.2.2.2.2.2⟩))
def ok49 (x : S49) : Prop := (x.f0.size ≤ 140737488351232) ∧ (ok24 x.f1) ∧ ((Lit.int .i64 x.f2).wf = true)
theorem op49 {H : Type} {enc : TypeId × Value → H} {W : World} {sp : Nat → Bool} : ∀ f, OpAt enc Try.prog W sp 49 k49 ok49 f :=
  op_all fun f => op_iso (op_struct Try.underlying49 (by kernel_rfl) (opf_pair rfl (by kernel_rfl) rfl (op_string Try.underlying9 _) (opf_pair rfl (by kernel_rfl) rfl (op24 _) (opf_one rfl (by kernel_rfl) (op_int Try.underlying3 _))))) _ _ (fun y hy => ⟨⟨y.1, y.2.1, y.2.2⟩, rfl, hy⟩)
def ok40 (x : S40) : Prop := (x.f0.size ≤ 140737488351232) ∧ (x.f1.size ≤ 140737488351232) ∧ (x.f2.size ≤ 140737488351232) ∧ (x.f3.size ≤ 140737488351232) ∧ ((Lit.int .i64 x.f4).wf = true) ∧ ((Lit.int .i64 x.f5).wf = true)
theorem op40 {H : Type} {enc : TypeId × Value → H} {W : World} {sp : Nat → Bool} : ∀ f, OpAt enc Try.prog W sp 40 k40 ok40 f :=
  op_all fun f => op_iso (op_struct Try.underlying40 (by kernel_rfl) (opf_pair rfl (by kernel_rfl) rfl (op_string Try.underlying9 _) (opf_pair rfl (by kernel_rfl) rfl (op_string Try.underlying9 _) (opf_pair rfl (by kernel_rfl) rfl (op_string Try.underlying9 _) (opf_pair rfl (by kernel_rfl) rfl (op_string Try.underlying9 _) (opf_pair rfl (by kernel_rfl) rfl (op_int Try.underlying3 _) (opf_one rfl (by kernel_rfl) (op_int Try.underlying3 _)))))))) _ _ (fun y hy => ⟨⟨y.1, y.2.1, y.2.2.1, y.2.2.2.1, y.2.2.2.2.1, y.2.2.2.2.2⟩, rfl, hy⟩)
def ok33 (x : S33) : Prop := (x.f0.size ≤ 140737488351232) ∧ ((Lit.int .i64 x.f1).wf = true)
theorem op33 {H : Type} {enc : TypeId × Value → H} {W : World} {sp : Nat → Bool} : ∀ f, OpAt enc Try.prog W sp 33 k33 ok33 f :=
  op_all fun f => op_iso (op_struct Try.underlying33 (by kernel_rfl) (opf_pair rfl (by kernel_rfl) rfl (op_string Try.underlying9 _) (opf_one rfl (by kernel_rfl) (op_int Try.underlying3 _)))) _ _ (fun y hy => ⟨⟨y.1, y.2⟩, rfl, hy⟩)
def ok42 (x : S42) : Prop := (x.f0.size ≤ 140737488351232) ∧ (x.f1.length * 24 ≤ 140737488351232 ∧ x.f1.length ≤ maxLen ∧ ∀ y ∈ x.f1, ok33 y)
theorem op42 {H : Type} {enc : TypeId × Value → H} {W : World} {sp : Nat → Bool} : ∀ f, OpAt enc Try.prog W sp 42 k42 ok42 f :=
  op_all fun f => op_iso (op_struct Try.underlying42 (by kernel_rfl) (opf_pair rfl (by kernel_rfl) rfl (op_string Try.underlying9 _) (opf_one rfl (by kernel_rfl) (op_slice Try.underlying25 (by kernel_rfl) (by kernel_rfl) 33 (fun g _ => (op33 _)))))) _ _ (fun y hy => ⟨⟨y.1, y.2⟩, rfl, hy⟩)
def hanaperlaw19_DueOf.Pure : Prop := ∀ (x0 : List (S49)) (x1 : S40) (x2 : S42), (x0.length * 80 ≤ 140737488351232 ∧ x0.length ≤ maxLen ∧ ∀ y ∈ x0, ok49 y) → (ok40 x1) → (ok42 x2) → ∃ k, hanaperlaw19_DueOf.f k x0 x1.f0 x1.f1 x1.f2 x1.f3 x1.f4 x1.f5 x2.f0 x2.f1 = some true
end Go.Proofs.Ytdpcfamgmicboac.PDueOf
