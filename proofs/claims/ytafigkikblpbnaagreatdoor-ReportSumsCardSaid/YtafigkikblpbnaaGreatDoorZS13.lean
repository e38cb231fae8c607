/- The item of a record that is to be reviewed. The document's numbers of records by their states; no condition beyond each theorem its own. -/
import Derived.Test.YtafigkikblpbnaaGreatDoorZS09
import Derived.Test.YtafigkikblpbnaaGreatDoorZS04
import Derived.Test.YtafigkikblpbnaaGreatDoorZS05
import Derived.Test.YtafigkikblpbnaaGreatDoorZS07
import Derived.Test.YtafigkikblpbnaaGreatDoorZS11
import Derived.Test.YtafigkikblpbnaaGreatDoorZS12
import Derived.Test.YtafigkikblpbnaaGreatDoorZS03
namespace Go.Proofs.YtafigkikblpbnaaGreatDoor.PG
open Go.RowKit Go.Proofs.YtafigkikblpbnaaGreatDoorW.PrintWords Go.Proofs.YtafigkikblpbnaaGreatDoorW.PrintLast Go.Proofs.YtafigkikblpbnaaGreatDoorW.PrintMore
set_option linter.unusedVariables false
set_option linter.unusedSimpArgs false
set_option maxRecDepth 100000
section
variable {P : Program} {ops : Array Oper} {Q : Exit → Act → World → Prop} {md : Region.Mode} {S : World → Prop} {ds : List Nat} {T : Bool × List (List Nat × List Nat)}
theorem WL.last {i : Nat} {is : List Nat} {rest : List Oper} {N : Option Tmp} {oi : Oper} {fuel : Nat} {lb lb' : List Bool} {a : Act} {w : World} (hi : ops.toList.drop i = oi :: rest) (hN : oi.dst = N) (hl : lb.set i true = lb') (hT : rtab md ops = T) (hc : (readyT T.2 lb == [i] && lb.set i true == lb') = true) (hd : i ∈ ds)
    (h : ∀ K : Act → World → Prop, Shut (∀ a' w', WL is (wpAnyLast P md ops Q S ds fuel lb'.toArray a' w') → K a' w') → if Region.wanted oi (yielded ops a.tmps) = true then Oper.wp P oi a w K Q else K (a.put N undef) w) :
    WL (i :: is) (wpAnyLast P md ops Q S ds (fuel + 1) lb.toArray a w) :=
  ⟨last_ _ (at_drop hi) hN (one_of hT (by simpa using hc)) hd (fun K hK => h K (fun a' w' hn => hK a' w' hn.out))⟩
end

/-- What is known of a state that can be asked. -/
structure Ask (d : Nat) (s : S31) : Prop where
  rules : ∀ x ∈ s.f2, lim 8 x.f1
  miles : ∀ y ∈ s.f3, y.f1.length ≤ 1000
  holds : ∀ x ∈ s.f6, dp d x.f1
  few : s.f6.length ≤ 1000000
end Go.Proofs.YtafigkikblpbnaaGreatDoor.PG
namespace Go.Proofs.YtafigkikblpbnaaGreatDoor.PG
open Go.RowKit Go.Proofs.YtafigkikblpbnaaGreatDoorW.PrintWords Go.Proofs.YtafigkikblpbnaaGreatDoorW.PrintLast Go.Proofs.YtafigkikblpbnaaGreatDoorW.PrintMore
set_option linter.unusedVariables false
set_option linter.unusedSimpArgs false
set_option maxRecDepth 100000
/-- How many records of a kind are in a state. -/
def stN (P : S48 → Bool) (l : List S48) (j : Int) : Nat := (l.filter fun r => P r && decide (r.f5 = j)).length
theorem stN_le (P : S48 → Bool) (l : List S48) (j : Int) : stN P l j ≤ l.length := List.length_filter_le _ _
theorem stN_snoc (P : S48 → Bool) (l : List S48) (y : S48) (j : Int) : stN P (l ++ [y]) j = stN P l j + (if (P y && decide (y.f5 = j)) = true then 1 else 0) := by
  unfold stN
  rw [List.filter_append, List.length_append, List.filter_cons]
  split <;> simp [*]
theorem take_rd48 {l : List S48} {k : Nat} (h : k < l.length) : l.take (k + 1) = l.take k ++ [rd_T48 l (k : Int)] := by
  have : rd_T48 l (k : Int) = l[k] := by unfold rd_T48; rw [Int.toNat_natCast, List.getD_eq_getElem?_getD, List.getElem?_eq_getElem h]; rfl
  rw [this, List.take_succ_eq_append_getElem h]
/-- Four numbers, a blank between. -/
def tx4 (f : Int → Nat) : ByteArray := tellS (f 1) ++ ⟨#[32]⟩ ++ tellS (f 2) ++ ⟨#[32]⟩ ++ tellS (f 3) ++ ⟨#[32]⟩ ++ tellS (f 4)
/-- A record's kind: its class, or any. -/
def cls (all : Bool) (cl : ByteArray) (r : S48) : Bool := all || (r.f3.toList == cl.toList)
end Go.Proofs.YtafigkikblpbnaaGreatDoor.PG
