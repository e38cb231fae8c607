/- How the arguments of the law QueueOf read; no condition beyond each theorem its own. -/
import Derived.Test.YtafigkikblpbnaaGreatJ02
import Derived.Test.YtafigkikblpbnaaGreatHandS
import Derived.Test.YtafigkikblpbnaaGreatOpen
import Derived.KernelRfl
namespace Go.Proofs.YtafigkikblpbnaaGreat.PG
open Go.RowKit Go.Proofs.YtafigkikblpbnaaGreatW.PrintWords Go.Proofs.YtafigkikblpbnaaGreat.Open
set_option linter.unusedVariables false

inductive ok95 : S95 → Prop
  | mk (x : S95) (h0 : (Lit.int .i64 x.f0).wf = true) (h1 : (Lit.int .i64 x.f1).wf = true) (h2 : x.f2.size ≤ 140737488351232) (h3a : x.f3.length * 56 ≤ 140737488351232) (h3b : x.f3.length ≤ maxLen) (h3c : ∀ y ∈ x.f3, ok95 y) : ok95 x
theorem op95 {H : Type} {enc : TypeId × Value → H} {W : World} {sp : Nat → Bool} : ∀ f, OpAt enc Tryz.prog W sp 95 k95 ok95 f :=
  op_fix mono95 (fun d f hs hd => op_iso (op_struct Tryz.underlying95 (by kernel_rfl) (opf_pair rfl (by kernel_rfl) rfl (op_int Tryz.underlying3 _) (opf_pair rfl (by kernel_rfl) rfl (op_int Tryz.underlying3 _) (opf_pair rfl (by kernel_rfl) rfl (op_string Tryz.underlying9 _) (opf_one rfl (by kernel_rfl) (op_slice Tryz.underlying93 (by rw [hs]; kernel_rfl) (by kernel_rfl) _ (fun g hg => hd g (Nat.le_of_lt hg)))))))) _ _ (fun y hy => ⟨⟨y.1, y.2.1, y.2.2.1, y.2.2.2⟩, rfl, .mk _ hy.1 hy.2.1 hy.2.2.1 hy.2.2.2.1 hy.2.2.2.2.1 hy.2.2.2.2.2⟩))
def ok97 (x : S97) : Prop := (x.f0.size ≤ 140737488351232) ∧ (ok95 x.f1) ∧ ((Lit.int .i64 x.f2).wf = true)
theorem op97 {H : Type} {enc : TypeId × Value → H} {W : World} {sp : Nat → Bool} : ∀ f, OpAt enc Tryz.prog W sp 97 k97 ok97 f :=
  op_all fun f => op_iso (op_struct Tryz.underlying97 (by kernel_rfl) (opf_pair rfl (by kernel_rfl) rfl (op_string Tryz.underlying9 _) (opf_pair rfl (by kernel_rfl) rfl (op95 _) (opf_one rfl (by kernel_rfl) (op_int Tryz.underlying3 _))))) _ _ (fun y hy => ⟨⟨y.1, y.2.1, y.2.2⟩, rfl, hy⟩)
def ok134 (x : S134) : Prop := (x.f0.size ≤ 140737488351232) ∧ ((Lit.int .i64 x.f1).wf = true)
theorem op134 {H : Type} {enc : TypeId × Value → H} {W : World} {sp : Nat → Bool} : ∀ f, OpAt enc Tryz.prog W sp 134 k134 ok134 f :=
  op_all fun f => op_iso (op_struct Tryz.underlying134 (by kernel_rfl) (opf_pair rfl (by kernel_rfl) rfl (op_string Tryz.underlying9 _) (opf_one rfl (by kernel_rfl) (op_int Tryz.underlying3 _)))) _ _ (fun y hy => ⟨⟨y.1, y.2⟩, rfl, hy⟩)
def ok59 (x : S59) : Prop := (x.f0.size ≤ 140737488351232) ∧ (x.f1.length * 24 ≤ 140737488351232 ∧ x.f1.length ≤ maxLen ∧ ∀ y ∈ x.f1, ok134 y)
theorem op59 {H : Type} {enc : TypeId × Value → H} {W : World} {sp : Nat → Bool} : ∀ f, OpAt enc Tryz.prog W sp 59 k59 ok59 f :=
  op_all fun f => op_iso (op_struct Tryz.underlying59 (by kernel_rfl) (opf_pair rfl (by kernel_rfl) rfl (op_string Tryz.underlying9 _) (opf_one rfl (by kernel_rfl) (op_slice Tryz.underlying57 (by kernel_rfl) (by kernel_rfl) 134 (fun g _ => (op134 _)))))) _ _ (fun y hy => ⟨⟨y.1, y.2⟩, rfl, hy⟩)
def ok108 (x : S108) : Prop := (x.f0.size ≤ 140737488351232) ∧ ((Lit.int .i64 x.f1).wf = true) ∧ (True)
theorem op108 {H : Type} {enc : TypeId × Value → H} {W : World} {sp : Nat → Bool} : ∀ f, OpAt enc Tryz.prog W sp 108 k108 ok108 f :=
  op_all fun f => op_iso (op_struct Tryz.underlying108 (by kernel_rfl) (opf_pair rfl (by kernel_rfl) rfl (op_string Tryz.underlying9 _) (opf_pair rfl (by kernel_rfl) rfl (op_int Tryz.underlying3 _) (opf_one rfl (by kernel_rfl) (op_bool Tryz.underlying4 _))))) _ _ (fun y hy => ⟨⟨y.1, y.2.1, y.2.2⟩, rfl, hy⟩)
def ok73 (x : S73) : Prop := (x.f0.size ≤ 140737488351232) ∧ (x.f1.size ≤ 140737488351232) ∧ (x.f2.size ≤ 140737488351232) ∧ (x.f3.size ≤ 140737488351232) ∧ ((Lit.int .i64 x.f4).wf = true) ∧ ((Lit.int .i64 x.f5).wf = true)
theorem op73 {H : Type} {enc : TypeId × Value → H} {W : World} {sp : Nat → Bool} : ∀ f, OpAt enc Tryz.prog W sp 73 k73 ok73 f :=
  op_all fun f => op_iso (op_struct Tryz.underlying73 (by kernel_rfl) (opf_pair rfl (by kernel_rfl) rfl (op_string Tryz.underlying9 _) (opf_pair rfl (by kernel_rfl) rfl (op_string Tryz.underlying9 _) (opf_pair rfl (by kernel_rfl) rfl (op_string Tryz.underlying9 _) (opf_pair rfl (by kernel_rfl) rfl (op_string Tryz.underlying9 _) (opf_pair rfl (by kernel_rfl) rfl (op_int Tryz.underlying3 _) (opf_one rfl (by kernel_rfl) (op_int Tryz.underlying3 _)))))))) _ _ (fun y hy => ⟨⟨y.1, y.2.1, y.2.2.1, y.2.2.2.1, y.2.2.2.2.1, y.2.2.2.2.2⟩, rfl, hy⟩)
inductive ok52 : S52 → Prop
  | mk (x : S52) (h0 : (Lit.int .i64 x.f0).wf = true) (h1 : x.f1.size ≤ 140737488351232) (h2 : (Lit.int .i64 x.f2).wf = true) (h3 : (Lit.int .i64 x.f3).wf = true) (h4a : x.f4.length * 64 ≤ 140737488351232) (h4b : x.f4.length ≤ maxLen) (h4c : ∀ y ∈ x.f4, ok52 y) : ok52 x
theorem op52 {H : Type} {enc : TypeId × Value → H} {W : World} {sp : Nat → Bool} : ∀ f, OpAt enc Tryz.prog W sp 52 k52 ok52 f :=
  op_fix mono52 (fun d f hs hd => op_iso (op_struct Tryz.underlying52 (by kernel_rfl) (opf_pair rfl (by kernel_rfl) rfl (op_int Tryz.underlying3 _) (opf_pair rfl (by kernel_rfl) rfl (op_string Tryz.underlying9 _) (opf_pair rfl (by kernel_rfl) rfl (op_int Tryz.underlying3 _) (opf_pair rfl (by kernel_rfl) rfl (op_int Tryz.underlying3 _) (opf_one rfl (by kernel_rfl) (op_slice Tryz.underlying50 (by rw [hs]; kernel_rfl) (by kernel_rfl) _ (fun g hg => hd g (Nat.le_of_lt hg))))))))) _ _ (fun y hy => ⟨⟨y.1, y.2.1, y.2.2.1, y.2.2.2.1, y.2.2.2.2⟩, rfl, .mk _ hy.1 hy.2.1 hy.2.2.1 hy.2.2.2.1 hy.2.2.2.2.1 hy.2.2.2.2.2.1 hy.2.2.2.2.2.2⟩))
def ok100 (x : S100) : Prop := (x.f0.size ≤ 140737488351232) ∧ (ok52 x.f1) ∧ (True)
theorem op100 {H : Type} {enc : TypeId × Value → H} {W : World} {sp : Nat → Bool} : ∀ f, OpAt enc Tryz.prog W sp 100 k100 ok100 f :=
  op_all fun f => op_iso (op_struct Tryz.underlying100 (by kernel_rfl) (opf_pair rfl (by kernel_rfl) rfl (op_string Tryz.underlying9 _) (opf_pair rfl (by kernel_rfl) rfl (op52 _) (opf_one rfl (by kernel_rfl) (op_bool Tryz.underlying4 _))))) _ _ (fun y hy => ⟨⟨y.1, y.2.1, y.2.2⟩, rfl, hy⟩)
def ok61 (x : S61) : Prop := (x.f0.size ≤ 140737488351232) ∧ ((Lit.int .i64 x.f1).wf = true) ∧ ((Lit.int .u64 x.f2).wf = true) ∧ (x.f3.length * 1 ≤ 140737488351232 ∧ x.f3.length ≤ maxLen ∧ ∀ y ∈ x.f3, (Lit.int .u8 y).wf = true)
theorem op61 {H : Type} {enc : TypeId × Value → H} {W : World} {sp : Nat → Bool} : ∀ f, OpAt enc Tryz.prog W sp 61 k61 ok61 f :=
  op_all fun f => op_iso (op_struct Tryz.underlying61 (by kernel_rfl) (opf_pair rfl (by kernel_rfl) rfl (op_string Tryz.underlying9 _) (opf_pair rfl (by kernel_rfl) rfl (op_int Tryz.underlying3 _) (opf_pair rfl (by kernel_rfl) rfl (op_int Tryz.underlying22 _) (opf_one rfl (by kernel_rfl) (op_slice Tryz.underlying49 (by kernel_rfl) (by kernel_rfl) 5 (fun g _ => (op_int Tryz.underlying5 _)))))))) _ _ (fun y hy => ⟨⟨y.1, y.2.1, y.2.2.1, y.2.2.2⟩, rfl, hy⟩)
def ok31 (x : S31) : Prop := ((Lit.int .i64 x.f0).wf = true) ∧ ((Lit.int .u64 x.f1).wf = true) ∧ (x.f2.length * 80 ≤ 140737488351232 ∧ x.f2.length ≤ maxLen ∧ ∀ y ∈ x.f2, ok97 y) ∧ (x.f3.length * 40 ≤ 140737488351232 ∧ x.f3.length ≤ maxLen ∧ ∀ y ∈ x.f3, ok59 y) ∧ (x.f4.length * 32 ≤ 140737488351232 ∧ x.f4.length ≤ maxLen ∧ ∀ y ∈ x.f4, ok108 y) ∧ (x.f5.length * 80 ≤ 140737488351232 ∧ x.f5.length ≤ maxLen ∧ ∀ y ∈ x.f5, ok73 y) ∧ (x.f6.length * 88 ≤ 140737488351232 ∧ x.f6.length ≤ maxLen ∧ ∀ y ∈ x.f6, ok100 y) ∧ (x.f7.length * 56 ≤ 140737488351232 ∧ x.f7.length ≤ maxLen ∧ ∀ y ∈ x.f7, ok61 y) ∧ (x.f8.length * 8 ≤ 140737488351232 ∧ x.f8.length ≤ maxLen ∧ ∀ y ∈ x.f8, (Lit.int .i64 y).wf = true) ∧ ((Lit.int .i64 x.f9).wf = true)
theorem op31 {H : Type} {enc : TypeId × Value → H} {W : World} {sp : Nat → Bool} : ∀ f, OpAt enc Tryz.prog W sp 31 k31 ok31 f :=
  op_all fun f => op_iso (op_struct Tryz.underlying31 (by kernel_rfl) (opf_pair rfl (by kernel_rfl) rfl (op_int Tryz.underlying3 _) (opf_pair rfl (by kernel_rfl) rfl (op_int Tryz.underlying22 _) (opf_pair rfl (by kernel_rfl) rfl (op_slice Tryz.underlying23 (by kernel_rfl) (by kernel_rfl) 97 (fun g _ => (op97 _))) (opf_pair rfl (by kernel_rfl) rfl (op_slice Tryz.underlying24 (by kernel_rfl) (by kernel_rfl) 59 (fun g _ => (op59 _))) (opf_pair rfl (by kernel_rfl) rfl (op_slice Tryz.underlying25 (by kernel_rfl) (by kernel_rfl) 108 (fun g _ => (op108 _))) (opf_pair rfl (by kernel_rfl) rfl (op_slice Tryz.underlying26 (by kernel_rfl) (by kernel_rfl) 73 (fun g _ => (op73 _))) (opf_pair rfl (by kernel_rfl) rfl (op_slice Tryz.underlying27 (by kernel_rfl) (by kernel_rfl) 100 (fun g _ => (op100 _))) (opf_pair rfl (by kernel_rfl) rfl (op_slice Tryz.underlying28 (by kernel_rfl) (by kernel_rfl) 61 (fun g _ => (op61 _))) (opf_pair rfl (by kernel_rfl) rfl (op_slice Tryz.underlying29 (by kernel_rfl) (by kernel_rfl) 3 (fun g _ => (op_int Tryz.underlying3 _))) (opf_one rfl (by kernel_rfl) (op_int Tryz.underlying3 _)))))))))))) _ _ (fun y hy => ⟨⟨y.1, y.2.1, y.2.2.1, y.2.2.2.1, y.2.2.2.2.1, y.2.2.2.2.2.1, y.2.2.2.2.2.2.1, y.2.2.2.2.2.2.2.1, y.2.2.2.2.2.2.2.2.1, y.2.2.2.2.2.2.2.2.2⟩, rfl, hy⟩)
theorem z95_ok : ∀ {x : S95}, ok95 x → Z95 x := by
  intro x h
  induction h with
  | mk x h0 h1 h2 h3a h3b h3c ih => exact .mk x h2 ih
theorem z52_ok : ∀ {x : S52}, ok52 x → Z52 x := by
  intro x h
  induction h with
  | mk x h0 h1 h2 h3 h4a h4b h4c ih => exact .mk x h1 ih
theorem zs_ok {s : S31} (h : ok31 s) : Zs s := by
  obtain ⟨_, _, h2, h3, h4, h5, h6, h7, _⟩ := h
  exact ⟨fun x hx => ⟨(h2.2.2 x hx).1, z95_ok (h2.2.2 x hx).2.1⟩, fun x hx => ⟨(h3.2.2 x hx).1, fun y hy => ((h3.2.2 x hx).2.2.2 y hy).1⟩, fun x hx => (h4.2.2 x hx).1,
    fun x hx => ⟨(h5.2.2 x hx).1, (h5.2.2 x hx).2.1, (h5.2.2 x hx).2.2.1, (h5.2.2 x hx).2.2.2.1⟩, fun x hx => ⟨(h6.2.2 x hx).1, z52_ok (h6.2.2 x hx).2.1⟩, fun x hx => ⟨(h7.2.2 x hx).1, by have := (h7.2.2 x hx).2.2.2.1; omega⟩⟩
end Go.Proofs.YtafigkikblpbnaaGreat.PG
