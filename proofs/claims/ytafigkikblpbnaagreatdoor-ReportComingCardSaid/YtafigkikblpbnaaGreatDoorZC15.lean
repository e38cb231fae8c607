/- The item of a record that is to be reviewed; no condition beyond each theorem its own. -/
import Derived.Test.YtafigkikblpbnaaGreatDoorZC11
import Derived.Test.YtafigkikblpbnaaGreatDoorZC13
import Derived.Test.YtafigkikblpbnaaGreatDoorZC14
import Derived.Test.YtafigkikblpbnaaGreatDoorZC12
import Derived.Test.YtafigkikblpbnaaGreatDoorZC05
namespace Go.Proofs.YtafigkikblpbnaaGreatDoor.PG
open Go.RowKit Go.Proofs.YtafigkikblpbnaaGreatDoorW.PrintWords Go.Proofs.YtafigkikblpbnaaGreatDoorW.PrintLast Go.Proofs.YtafigkikblpbnaaGreatDoorW.PrintMore
set_option linter.unusedVariables false
set_option linter.unusedSimpArgs false
set_option maxRecDepth 100000
section
variable {P : Program} {ops : Array Oper} {Q : Exit → Act → World → Prop} {md : Region.Mode} {S : World → Prop} {ds : List Nat} {T : Bool × List (List Nat × List Nat)}
theorem WL.last {i : Nat} {is : List Nat} {rest : List Oper} {N : Option Tmp} {oi : Oper} {fuel : Nat} {lb lb' : List Bool} {a : Act} {w : World} (hi : ops.toList.drop i = oi :: rest) (hN : oi.dst = N) (hl : lb.set i true = lb') (hT : rtab md ops = T) (hc : (readyT T.2 lb == [i] && lb.set i true == lb') = true) (hd : i ∈ ds)
    (h : ∀ K : Act → World → Prop, Shut (∀ a' w', WL is (wpAnyLast P md ops Q S ds fuel lb'.toArray a' w') → K a' w') → if Region.wanted oi (yielded ops a.tmps) = true then Oper.wp P oi a w K Q else K (a.put N undef) w) :
    WL (i :: is) (wpAnyLast P md ops Q S ds (fuel + 1) lb.toArray a w) :=
  ⟨last_ _ (at_drop hi) hN (one_of hT (by simpa using hc)) hd (fun K hK => h K (fun a' w' hn => hK a' w' hn.out))⟩
end

/-- What is known of a state that can be asked. -/
structure Ask (d : Nat) (s : S31) : Prop where
  rules : ∀ x ∈ s.f2, lim 8 x.f1
  miles : ∀ y ∈ s.f3, y.f1.length ≤ 1000
  holds : ∀ x ∈ s.f6, dp d x.f1
  few : s.f6.length ≤ 1000000
/-- Where a record's case stands. -/
def csI (s : S31) (r : S48) : Int := ix (nm59 r.f1) s.f3 0
end Go.Proofs.YtafigkikblpbnaaGreatDoor.PG
