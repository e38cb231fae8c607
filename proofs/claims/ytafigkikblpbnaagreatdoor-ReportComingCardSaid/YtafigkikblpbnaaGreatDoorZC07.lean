/- How the arguments of the law ReportLines read. The steps of a region that draws its order, told by a list of places; no condition beyond each theorem its own. -/
import Derived.Test.YtafigkikblpbnaaGreatDoorZC02
import Derived.Test.YtafigkikblpbnaaGreatDoorZC05
import Derived.Test.YtafigkikblpbnaaGreatDoorZC06
import Derived.KernelRfl
import Derived.Test.YtafigkikblpbnaaGreatDoorZC03
import Derived.Deep.RegionHeld3
import Derived.BigQuiet
namespace Go.Proofs.YtafigkikblpbnaaGreatDoor.PG
open Go.RowKit Go.Proofs.YtafigkikblpbnaaGreatDoorW.PrintWords Go.Proofs.YtafigkikblpbnaaGreatDoor.Open
set_option linter.unusedVariables false

inductive ok94 : S94 → Prop
  | mk (x : S94) (h0 : (Lit.int .i64 x.f0).wf = true) (h1 : (Lit.int .i64 x.f1).wf = true) (h2 : x.f2.size ≤ 140737488351232) (h3a : x.f3.length * 56 ≤ 140737488351232) (h3b : x.f3.length ≤ maxLen) (h3c : ∀ y ∈ x.f3, ok94 y) : ok94 x
theorem op94 {H : Type} {enc : TypeId × Value → H} {W : World} {sp : Nat → Bool} : ∀ f, OpAt enc Tryz.prog W sp 94 k94 ok94 f :=
  op_fix mono94 (fun d f hs hd => op_iso (op_struct Tryz.underlying94 (by kernel_rfl) (opf_pair rfl (by kernel_rfl) rfl (op_int Tryz.underlying3 _) (opf_pair rfl (by kernel_rfl) rfl (op_int Tryz.underlying3 _) (opf_pair rfl (by kernel_rfl) rfl (op_string Tryz.underlying9 _) (opf_one rfl (by kernel_rfl) (op_slice Tryz.underlying92 (by rw [hs]; kernel_rfl) (by kernel_rfl) _ (fun g hg => hd g (Nat.le_of_lt hg)))))))) _ _ (fun y hy => ⟨⟨y.1, y.2.1, y.2.2.1, y.2.2.2⟩, rfl, .mk _ hy.1 hy.2.1 hy.2.2.1 hy.2.2.2.1 hy.2.2.2.2.1 hy.2.2.2.2.2⟩))
def ok96 (x : S96) : Prop := (x.f0.size ≤ 140737488351232) ∧ (ok94 x.f1) ∧ ((Lit.int .i64 x.f2).wf = true)
theorem op96 {H : Type} {enc : TypeId × Value → H} {W : World} {sp : Nat → Bool} : ∀ f, OpAt enc Tryz.prog W sp 96 k96 ok96 f :=
  op_all fun f => op_iso (op_struct Tryz.underlying96 (by kernel_rfl) (opf_pair rfl (by kernel_rfl) rfl (op_string Tryz.underlying9 _) (opf_pair rfl (by kernel_rfl) rfl (op94 _) (opf_one rfl (by kernel_rfl) (op_int Tryz.underlying3 _))))) _ _ (fun y hy => ⟨⟨y.1, y.2.1, y.2.2⟩, rfl, hy⟩)
def ok126 (x : S126) : Prop := (x.f0.size ≤ 140737488351232) ∧ ((Lit.int .i64 x.f1).wf = true)
theorem op126 {H : Type} {enc : TypeId × Value → H} {W : World} {sp : Nat → Bool} : ∀ f, OpAt enc Tryz.prog W sp 126 k126 ok126 f :=
  op_all fun f => op_iso (op_struct Tryz.underlying126 (by kernel_rfl) (opf_pair rfl (by kernel_rfl) rfl (op_string Tryz.underlying9 _) (opf_one rfl (by kernel_rfl) (op_int Tryz.underlying3 _)))) _ _ (fun y hy => ⟨⟨y.1, y.2⟩, rfl, hy⟩)
def ok61 (x : S61) : Prop := (x.f0.size ≤ 140737488351232) ∧ (x.f1.length * 24 ≤ 140737488351232 ∧ x.f1.length ≤ maxLen ∧ ∀ y ∈ x.f1, ok126 y)
theorem op61 {H : Type} {enc : TypeId × Value → H} {W : World} {sp : Nat → Bool} : ∀ f, OpAt enc Tryz.prog W sp 61 k61 ok61 f :=
  op_all fun f => op_iso (op_struct Tryz.underlying61 (by kernel_rfl) (opf_pair rfl (by kernel_rfl) rfl (op_string Tryz.underlying9 _) (opf_one rfl (by kernel_rfl) (op_slice Tryz.underlying59 (by kernel_rfl) (by kernel_rfl) 126 (fun g _ => (op126 _)))))) _ _ (fun y hy => ⟨⟨y.1, y.2⟩, rfl, hy⟩)
def ok115 (x : S115) : Prop := (x.f0.size ≤ 140737488351232) ∧ ((Lit.int .i64 x.f1).wf = true) ∧ (True)
theorem op115 {H : Type} {enc : TypeId × Value → H} {W : World} {sp : Nat → Bool} : ∀ f, OpAt enc Tryz.prog W sp 115 k115 ok115 f :=
  op_all fun f => op_iso (op_struct Tryz.underlying115 (by kernel_rfl) (opf_pair rfl (by kernel_rfl) rfl (op_string Tryz.underlying9 _) (opf_pair rfl (by kernel_rfl) rfl (op_int Tryz.underlying3 _) (opf_one rfl (by kernel_rfl) (op_bool Tryz.underlying4 _))))) _ _ (fun y hy => ⟨⟨y.1, y.2.1, y.2.2⟩, rfl, hy⟩)
def ok48 (x : S48) : Prop := (x.f0.size ≤ 140737488351232) ∧ (x.f1.size ≤ 140737488351232) ∧ (x.f2.size ≤ 140737488351232) ∧ (x.f3.size ≤ 140737488351232) ∧ ((Lit.int .i64 x.f4).wf = true) ∧ ((Lit.int .i64 x.f5).wf = true)
theorem op48 {H : Type} {enc : TypeId × Value → H} {W : World} {sp : Nat → Bool} : ∀ f, OpAt enc Tryz.prog W sp 48 k48 ok48 f :=
  op_all fun f => op_iso (op_struct Tryz.underlying48 (by kernel_rfl) (opf_pair rfl (by kernel_rfl) rfl (op_string Tryz.underlying9 _) (opf_pair rfl (by kernel_rfl) rfl (op_string Tryz.underlying9 _) (opf_pair rfl (by kernel_rfl) rfl (op_string Tryz.underlying9 _) (opf_pair rfl (by kernel_rfl) rfl (op_string Tryz.underlying9 _) (opf_pair rfl (by kernel_rfl) rfl (op_int Tryz.underlying3 _) (opf_one rfl (by kernel_rfl) (op_int Tryz.underlying3 _)))))))) _ _ (fun y hy => ⟨⟨y.1, y.2.1, y.2.2.1, y.2.2.2.1, y.2.2.2.2.1, y.2.2.2.2.2⟩, rfl, hy⟩)
inductive ok76 : S76 → Prop
  | mk (x : S76) (h0 : (Lit.int .i64 x.f0).wf = true) (h1 : x.f1.size ≤ 140737488351232) (h2 : (Lit.int .i64 x.f2).wf = true) (h3 : (Lit.int .i64 x.f3).wf = true) (h4a : x.f4.length * 64 ≤ 140737488351232) (h4b : x.f4.length ≤ maxLen) (h4c : ∀ y ∈ x.f4, ok76 y) : ok76 x
theorem op76 {H : Type} {enc : TypeId × Value → H} {W : World} {sp : Nat → Bool} : ∀ f, OpAt enc Tryz.prog W sp 76 k76 ok76 f :=
  op_fix mono76 (fun d f hs hd => op_iso (op_struct Tryz.underlying76 (by kernel_rfl) (opf_pair rfl (by kernel_rfl) rfl (op_int Tryz.underlying3 _) (opf_pair rfl (by kernel_rfl) rfl (op_string Tryz.underlying9 _) (opf_pair rfl (by kernel_rfl) rfl (op_int Tryz.underlying3 _) (opf_pair rfl (by kernel_rfl) rfl (op_int Tryz.underlying3 _) (opf_one rfl (by kernel_rfl) (op_slice Tryz.underlying74 (by rw [hs]; kernel_rfl) (by kernel_rfl) _ (fun g hg => hd g (Nat.le_of_lt hg))))))))) _ _ (fun y hy => ⟨⟨y.1, y.2.1, y.2.2.1, y.2.2.2.1, y.2.2.2.2⟩, rfl, .mk _ hy.1 hy.2.1 hy.2.2.1 hy.2.2.2.1 hy.2.2.2.2.1 hy.2.2.2.2.2.1 hy.2.2.2.2.2.2⟩))
def ok78 (x : S78) : Prop := (x.f0.size ≤ 140737488351232) ∧ (ok76 x.f1) ∧ (True)
theorem op78 {H : Type} {enc : TypeId × Value → H} {W : World} {sp : Nat → Bool} : ∀ f, OpAt enc Tryz.prog W sp 78 k78 ok78 f :=
  op_all fun f => op_iso (op_struct Tryz.underlying78 (by kernel_rfl) (opf_pair rfl (by kernel_rfl) rfl (op_string Tryz.underlying9 _) (opf_pair rfl (by kernel_rfl) rfl (op76 _) (opf_one rfl (by kernel_rfl) (op_bool Tryz.underlying4 _))))) _ _ (fun y hy => ⟨⟨y.1, y.2.1, y.2.2⟩, rfl, hy⟩)
def ok84 (x : S84) : Prop := (x.f0.size ≤ 140737488351232) ∧ ((Lit.int .i64 x.f1).wf = true) ∧ ((Lit.int .u64 x.f2).wf = true) ∧ (x.f3.length * 1 ≤ 140737488351232 ∧ x.f3.length ≤ maxLen ∧ ∀ y ∈ x.f3, (Lit.int .u8 y).wf = true)
theorem op84 {H : Type} {enc : TypeId × Value → H} {W : World} {sp : Nat → Bool} : ∀ f, OpAt enc Tryz.prog W sp 84 k84 ok84 f :=
  op_all fun f => op_iso (op_struct Tryz.underlying84 (by kernel_rfl) (opf_pair rfl (by kernel_rfl) rfl (op_string Tryz.underlying9 _) (opf_pair rfl (by kernel_rfl) rfl (op_int Tryz.underlying3 _) (opf_pair rfl (by kernel_rfl) rfl (op_int Tryz.underlying22 _) (opf_one rfl (by kernel_rfl) (op_slice Tryz.underlying82 (by kernel_rfl) (by kernel_rfl) 5 (fun g _ => (op_int Tryz.underlying5 _)))))))) _ _ (fun y hy => ⟨⟨y.1, y.2.1, y.2.2.1, y.2.2.2⟩, rfl, hy⟩)
def ok31 (x : S31) : Prop := ((Lit.int .i64 x.f0).wf = true) ∧ ((Lit.int .u64 x.f1).wf = true) ∧ (x.f2.length * 80 ≤ 140737488351232 ∧ x.f2.length ≤ maxLen ∧ ∀ y ∈ x.f2, ok96 y) ∧ (x.f3.length * 40 ≤ 140737488351232 ∧ x.f3.length ≤ maxLen ∧ ∀ y ∈ x.f3, ok61 y) ∧ (x.f4.length * 32 ≤ 140737488351232 ∧ x.f4.length ≤ maxLen ∧ ∀ y ∈ x.f4, ok115 y) ∧ (x.f5.length * 80 ≤ 140737488351232 ∧ x.f5.length ≤ maxLen ∧ ∀ y ∈ x.f5, ok48 y) ∧ (x.f6.length * 88 ≤ 140737488351232 ∧ x.f6.length ≤ maxLen ∧ ∀ y ∈ x.f6, ok78 y) ∧ (x.f7.length * 56 ≤ 140737488351232 ∧ x.f7.length ≤ maxLen ∧ ∀ y ∈ x.f7, ok84 y) ∧ (x.f8.length * 8 ≤ 140737488351232 ∧ x.f8.length ≤ maxLen ∧ ∀ y ∈ x.f8, (Lit.int .i64 y).wf = true) ∧ ((Lit.int .i64 x.f9).wf = true)
theorem op31 {H : Type} {enc : TypeId × Value → H} {W : World} {sp : Nat → Bool} : ∀ f, OpAt enc Tryz.prog W sp 31 k31 ok31 f :=
  op_all fun f => op_iso (op_struct Tryz.underlying31 (by kernel_rfl) (opf_pair rfl (by kernel_rfl) rfl (op_int Tryz.underlying3 _) (opf_pair rfl (by kernel_rfl) rfl (op_int Tryz.underlying22 _) (opf_pair rfl (by kernel_rfl) rfl (op_slice Tryz.underlying23 (by kernel_rfl) (by kernel_rfl) 96 (fun g _ => (op96 _))) (opf_pair rfl (by kernel_rfl) rfl (op_slice Tryz.underlying24 (by kernel_rfl) (by kernel_rfl) 61 (fun g _ => (op61 _))) (opf_pair rfl (by kernel_rfl) rfl (op_slice Tryz.underlying25 (by kernel_rfl) (by kernel_rfl) 115 (fun g _ => (op115 _))) (opf_pair rfl (by kernel_rfl) rfl (op_slice Tryz.underlying26 (by kernel_rfl) (by kernel_rfl) 48 (fun g _ => (op48 _))) (opf_pair rfl (by kernel_rfl) rfl (op_slice Tryz.underlying27 (by kernel_rfl) (by kernel_rfl) 78 (fun g _ => (op78 _))) (opf_pair rfl (by kernel_rfl) rfl (op_slice Tryz.underlying28 (by kernel_rfl) (by kernel_rfl) 84 (fun g _ => (op84 _))) (opf_pair rfl (by kernel_rfl) rfl (op_slice Tryz.underlying29 (by kernel_rfl) (by kernel_rfl) 3 (fun g _ => (op_int Tryz.underlying3 _))) (opf_one rfl (by kernel_rfl) (op_int Tryz.underlying3 _)))))))))))) _ _ (fun y hy => ⟨⟨y.1, y.2.1, y.2.2.1, y.2.2.2.1, y.2.2.2.2.1, y.2.2.2.2.2.1, y.2.2.2.2.2.2.1, y.2.2.2.2.2.2.2.1, y.2.2.2.2.2.2.2.2.1, y.2.2.2.2.2.2.2.2.2⟩, rfl, hy⟩)
theorem z94_ok : ∀ {x : S94}, ok94 x → Z95 x := by
  intro x h
  induction h with
  | mk x h0 h1 h2 h3a h3b h3c ih => exact .mk x h2 ih
theorem z76_ok : ∀ {x : S76}, ok76 x → Z52 x := by
  intro x h
  induction h with
  | mk x h0 h1 h2 h3 h4a h4b h4c ih => exact .mk x h1 ih
theorem zs_ok {s : S31} (h : ok31 s) : Zs s := by
  obtain ⟨_, _, h2, h3, h4, h5, h6, h7, _⟩ := h
  exact ⟨fun x hx => ⟨(h2.2.2 x hx).1, z94_ok (h2.2.2 x hx).2.1⟩, fun x hx => ⟨(h3.2.2 x hx).1, fun y hy => ((h3.2.2 x hx).2.2.2 y hy).1⟩, fun x hx => (h4.2.2 x hx).1,
    fun x hx => ⟨(h5.2.2 x hx).1, (h5.2.2 x hx).2.1, (h5.2.2 x hx).2.2.1, (h5.2.2 x hx).2.2.2.1⟩, fun x hx => ⟨(h6.2.2 x hx).1, z76_ok (h6.2.2 x hx).2.1⟩, fun x hx => ⟨(h7.2.2 x hx).1, by have := (h7.2.2 x hx).2.2.2.1; omega⟩⟩
end Go.Proofs.YtafigkikblpbnaaGreatDoor.PG
namespace Go.Proofs.YtafigkikblpbnaaGreatDoor.PG
open Go.RowKit Go.Proofs.YtafigkikblpbnaaGreatDoorW.PrintWords Go.Proofs.YtafigkikblpbnaaGreatDoorW.PrintLast Go.Proofs.YtafigkikblpbnaaGreatDoorW.PrintMore
set_option linter.unusedVariables false
set_option linter.unusedSimpArgs false
set_option maxRecDepth 100000
/-! A region that draws its order, walked by a list of places: what is done at each step is alike, so that it may stand in a 'repeat'. -/
section
variable {P : Program} {ops : Array Oper} {Q : Exit → Act → World → Prop} {md : Region.Mode} {S : World → Prop} {ds : List Nat} {T : Bool × List (List Nat × List Nat)}
/-- What is still to be walked stands ahead of the goal. -/
structure WL (is : List Nat) (X : Prop) : Prop where
  out : X
theorem at_drop {i : Nat} {oi : Oper} {rest : List Oper} (h : ops.toList.drop i = oi :: rest) : ops[i]? = some oi := by
  have h2 : (ops.toList.drop i)[0]? = some oi := by rw [h]; rfl
  rw [List.getElem?_drop] at h2
  simpa using h2
theorem put_list {xs ys : List Value} {df} {N : Nat} {v : Value} (hx : xs.set N v = ys) : (Act.mk xs.toArray df).put (some N) v = Act.mk ys.toArray df := by
  subst hx
  simp [Act.put]
theorem WL.start {id n : Nat} {a : Act} {w : World} (lb : List Bool) (hm : P.follows .mixedOrders = true) (hn : ops.size = n) (hl : Array.replicate n false = lb.toArray) (hS : S w.drew)
    (h : S w.drew → WL [] (wpAnyLast P .any ops Q S ds n lb.toArray a w.drew)) : (Code.region id ops true).wp P Q a w :=
  start_ _ hm hn hl hS (fun hs => (h hs).out)
theorem WL.off {i : Nat} {is : List Nat} {rest : List Oper} {N : Tmp} {oi : Oper} {fuel : Nat} {lb lb' : List Bool} {xs ys : List Value} {df} {w : World} (hi : ops.toList.drop i = oi :: rest) (hN : oi.dst = some N) (hw : Region.wanted oi (yielded ops xs.toArray) = false) (hl : lb.set i true = lb') (hT : rtab md ops = T) (hc : anyT T lb lb' i = true)
    (hQ : ∀ c a w, Q (.panic c) (a.put oi.dst undef) w → Q (.panic c) a w) (ha : xs.set N undef = ys) (h : WL is (wpAnyLast P md ops Q S ds fuel lb'.toArray (Act.mk ys.toArray df) w)) : WL (i :: is) (wpAnyLast P md ops Q S ds (fuel + 1) lb.toArray (Act.mk xs.toArray df) w) :=
  ⟨pure_ _ (at_drop hi) hN (any_of hT (by simpa using hc)) hQ (Or.inr ⟨hw, rfl⟩) (put_list ha) h.out⟩
theorem WL.pure {i : Nat} {is : List Nat} {rest : List Oper} {N : Tmp} {oi : Oper} {v : Value} {fuel : Nat} {lb lb' : List Bool} {xs ys : List Value} {df} {w : World} (hi : ops.toList.drop i = oi :: rest) (hN : oi.dst = some N) (hw : Region.wanted oi (yielded ops xs.toArray) = true) (hl : lb.set i true = lb') (hT : rtab md ops = T) (hc : anyT T lb lb' i = true)
    (hQ : ∀ c a w, Q (.panic c) (a.put oi.dst v) w → Q (.panic c) a w) (hy : ∀ w, (execOp (Act.mk xs.toArray df).eval oi).run P w = .ok (.value v) w) (ha : xs.set N v = ys) (h : WL is (wpAnyLast P md ops Q S ds fuel lb'.toArray (Act.mk ys.toArray df) w)) : WL (i :: is) (wpAnyLast P md ops Q S ds (fuel + 1) lb.toArray (Act.mk xs.toArray df) w) :=
  ⟨pure_ _ (at_drop hi) hN (any_of hT (by simpa using hc)) hQ (Or.inl ⟨hw, hy⟩) (put_list ha) h.out⟩
theorem WL.take {i : Nat} {is : List Nat} {rest : List Oper} {N : Tmp} {oi : Oper} {v : Value} {fuel : Nat} {lb lb' : List Bool} {xs ys : List Value} {df} {w : World} (hi : ops.toList.drop i = oi :: rest) (hN : oi.dst = some N) (hw : Region.wanted oi (yielded ops xs.toArray) = true) (hl : lb.set i true = lb') (hT : rtab md ops = T) (hc : takeT T ds lb lb' i = true)
    (hQ : ∀ c a w, Q (.panic c) (a.put oi.dst v) w → Q (.panic c) a w) (hS : S w) (hy : ∀ w, S w → (execOp (Act.mk xs.toArray df).eval oi).run P w = .ok (.value v) w) (ha : xs.set N v = ys) (h : WL is (wpAnyLast P md ops Q S ds fuel lb'.toArray (Act.mk ys.toArray df) w)) : WL (i :: is) (wpAnyLast P md ops Q S ds (fuel + 1) lb.toArray (Act.mk xs.toArray df) w) :=
  ⟨take_ _ (at_drop hi) hN (take_of hT (by simpa using hc)) hQ (Or.inl ⟨hw, hy⟩) hS (put_list ha) h.out⟩
theorem WL.one {i : Nat} {is : List Nat} {rest : List Oper} {N : Option Tmp} {oi : Oper} {fuel : Nat} {lb lb' : List Bool} {a : Act} {w : World} (hi : ops.toList.drop i = oi :: rest) (hN : oi.dst = N) (hl : lb.set i true = lb') (hT : rtab md ops = T) (hc : (readyT T.2 lb == [i] && lb.set i true == lb') = true) (hd : i ∉ ds)
    (h : ∀ K : Act → World → Prop, Shut (∀ a' w', S w' → (S w' → WL is (wpAnyLast P md ops Q S ds fuel lb'.toArray a' w')) → K a' w') → if Region.wanted oi (yielded ops a.tmps) = true then Oper.wp P oi a w K Q else K (a.put N undef) w) :
    WL (i :: is) (wpAnyLast P md ops Q S ds (fuel + 1) lb.toArray a w) :=
  ⟨one_ _ (at_drop hi) hN (one_of hT (by simpa using hc)) hd (fun K hK => h K (fun a' w' hs hn => hK a' w' hs (fun hs => (hn hs).out)))⟩
theorem WL.tab {is : List Nat} {n : Nat} {l : Array Bool} {a : Act} {w : World} (hT : rtab md ops = T) (h : Aside0 (rtab md ops = T) → WL is (wpAnyLast P md ops Q S ds n l a w)) : WL is (wpAnyLast P md ops Q S ds n l a w) := h ⟨hT⟩
theorem WL.more {X : Prop} (is : List Nat) (h : WL is X) : WL [] X := ⟨h.out⟩
theorem WL.put {is : List Nat} {fuel : Nat} {l : Array Bool} {N : Tmp} {v : Value} {xs ys : List Value} {df} {w : World} (ha : xs.set N v = ys) (h : WL is (wpAnyLast P md ops Q S ds fuel l (Act.mk ys.toArray df) w)) : WL is (wpAnyLast P md ops Q S ds fuel l ((Act.mk xs.toArray df).put (some N) v) w) := by
  rw [put_list ha]
  exact h
theorem WL.done {lb : List Bool} {a : Act} {w : World} {n : Nat} (hT : rtab md ops = T) (hr : (readyT T.2 lb == []) = true) (h : Q .normal a w) : WL [] (wpAnyLast P md ops Q S ds n lb.toArray a w) := ⟨done_ (done_of hT hr) h⟩
end
end Go.Proofs.YtafigkikblpbnaaGreatDoor.PG
