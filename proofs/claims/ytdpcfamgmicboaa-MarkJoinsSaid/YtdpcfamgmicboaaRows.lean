/-
  No cell of these rows narrows 'for every input' (looked for: loops, veiled, ifaces, maps, wideKeys, modest, calm, conditions, laid).
  DERIVED. THE GIVEN ROWS OF THIS SEAT. 4 by the template 'for every input the law returns true; each argument reads behind the call as it read before'; 0 by the template 'total and deterministic' (their statements: YtdpcfamgmicboaaTotals.lean).
  GIVEN WITH THE SEED: the statements are not yours to turn. If you find one false, say at which input.
  Laid BY PROGRAM, IN A SANDBOX (cutbox-rows.mjs): the forced cells as the released guide's own fill.sh prints them over the translation 9bb65612ce19ef4e… (all of the seat's roots in one cut). By AI agents, Wed Nov 11 2026. No macro, syntax, notation, axiom, sorry.
-/
import Derived.Test.YtdpcfamgmicboaaChecked
import GoSem.Claim
import GoSem.ClaimJoined
import GoSem.ClaimMapViews
import Derived.JoinedTies
import Derived.KernelRfl
namespace Go.Proofs.Ytdpcfamgmicboaa
/- THE CELL 'sum', in the pinned program and in every row, IS THE sha256 OF THE DUMP (.gsa) THAT YtdpcfamgmicboaaProg.lean LOADS. Nothing in Lean hashes anything: it is a label: what it is worth is what the hold of that sum in a sandbox is worth. -/
noncomputable def Try.pinned : Pinned := { name := "ytdpcfamgmicboaa", sum := "9bb65612ce19ef4e6b1e7bf78354b7d76c5b44efe80608102a4a164aedafbe7c", checked := Try.checked }
namespace Rows
def none {H : Type} : Left H := { results := [], args := [] }

/-- 'hanaperlaw04.MarkOf': WHATEVER THE INPUT: true; the input reads as it did. -/
def markOfSpec : ChangeSpec := { name := "markOf", fn := fun _ => fun
  | [d1, d2] => { results := [.lit (.bool true)], args := [d1, d2] }
  | _ => none }
def markOfRow : OpenClaim := { program := "ytdpcfamgmicboaa", sum := "9bb65612ce19ef4e6b1e7bf78354b7d76c5b44efe80608102a4a164aedafbe7c", func := "hanaper/hanaperlaw04.MarkOf", spec := "markOf", apart := false }
def MarkOfSaid : Prop := markOfRow.holds Try.pinned (OpenSpec.ofChange markOfSpec)

/-- ITS FALSE NEIGHBOUR: 'it returns false'. Refute it at one input. -/
def markOfWrong : ChangeSpec := { name := "markOf", fn := fun _ => fun
  | [d1, d2] => { results := [.lit (.bool false)], args := [d1, d2] }
  | _ => none }
def MarkOfWrongFalsely : Prop := markOfRow.holds Try.pinned (OpenSpec.ofChange markOfWrong)

/-- 'hanaperlaw04.MarkTells': WHATEVER THE INPUT: true; the input reads as it did. -/
def markTellsSpec : ChangeSpec := { name := "markTells", fn := fun _ => fun
  | [d1, d2, d3] => { results := [.lit (.bool true)], args := [d1, d2, d3] }
  | _ => none }
def markTellsRow : OpenClaim := { program := "ytdpcfamgmicboaa", sum := "9bb65612ce19ef4e6b1e7bf78354b7d76c5b44efe80608102a4a164aedafbe7c", func := "hanaper/hanaperlaw04.MarkTells", spec := "markTells", apart := false }
def MarkTellsSaid : Prop := markTellsRow.holds Try.pinned (OpenSpec.ofChange markTellsSpec)

/-- ITS FALSE NEIGHBOUR: 'it returns false'. Refute it at one input. -/
def markTellsWrong : ChangeSpec := { name := "markTells", fn := fun _ => fun
  | [d1, d2, d3] => { results := [.lit (.bool false)], args := [d1, d2, d3] }
  | _ => none }
def MarkTellsWrongFalsely : Prop := markTellsRow.holds Try.pinned (OpenSpec.ofChange markTellsWrong)

/-- 'hanaperlaw04.MarkPowers': WHATEVER THE INPUT: true; the input reads as it did. -/
def markPowersSpec : ChangeSpec := { name := "markPowers", fn := fun _ => fun
  | [d] => { results := [.lit (.bool true)], args := [d] }
  | _ => none }
def markPowersRow : OpenClaim := { program := "ytdpcfamgmicboaa", sum := "9bb65612ce19ef4e6b1e7bf78354b7d76c5b44efe80608102a4a164aedafbe7c", func := "hanaper/hanaperlaw04.MarkPowers", spec := "markPowers", apart := false }
def MarkPowersSaid : Prop := markPowersRow.holds Try.pinned (OpenSpec.ofChange markPowersSpec)

/-- ITS FALSE NEIGHBOUR: 'it returns false'. Refute it at one input. -/
def markPowersWrong : ChangeSpec := { name := "markPowers", fn := fun _ => fun
  | [d] => { results := [.lit (.bool false)], args := [d] }
  | _ => none }
def MarkPowersWrongFalsely : Prop := markPowersRow.holds Try.pinned (OpenSpec.ofChange markPowersWrong)

/-- 'hanaperlaw04.MarkJoins': WHATEVER THE INPUT: true; the input reads as it did. -/
def markJoinsSpec : ChangeSpec := { name := "markJoins", fn := fun _ => fun
  | [d1, d2, d3] => { results := [.lit (.bool true)], args := [d1, d2, d3] }
  | _ => none }
def markJoinsRow : OpenClaim := { program := "ytdpcfamgmicboaa", sum := "9bb65612ce19ef4e6b1e7bf78354b7d76c5b44efe80608102a4a164aedafbe7c", func := "hanaper/hanaperlaw04.MarkJoins", spec := "markJoins", apart := false }
def MarkJoinsSaid : Prop := markJoinsRow.holds Try.pinned (OpenSpec.ofChange markJoinsSpec)

/-- ITS FALSE NEIGHBOUR: 'it returns false'. Refute it at one input. -/
def markJoinsWrong : ChangeSpec := { name := "markJoins", fn := fun _ => fun
  | [d1, d2, d3] => { results := [.lit (.bool false)], args := [d1, d2, d3] }
  | _ => none }
def MarkJoinsWrongFalsely : Prop := markJoinsRow.holds Try.pinned (OpenSpec.ofChange markJoinsWrong)

/- THE SECOND FORM. 'bulk': how many values and letters a reading holds, each counted each time it is reached (what is shared counts as often as it is met; a slice's spare places count too). A statement '..UptoSaid' is the law's where the arguments, and the package variables that the reading takes, are together of bulk at most 1048576: NARROWER than '..Said'. Prove '..Said' where nothing that the law and all that it calls make is longer than what came in: it says more and counts as full. Else prove '..UptoSaid'. A law counts once. -/
mutual
def uptoBulk {H : Type} : DataW H → Nat
  | .lit (.string bytes) => bytes.length + 1
  | .lit _ => 1
  | .nil => 1
  | .ptr d => uptoBulk d + 1
  | .slice elems spare => uptoBulkAll elems + uptoBulkAll spare + 1
  | .agg parts => uptoBulkAll parts + 1
  | .iface _ d => uptoBulk d + 1
  | .map entries => uptoBulkEntries entries + 1
  | .held _ => 1
def uptoBulkAll {H : Type} : List (DataW H) → Nat
  | [] => 0
  | d :: r => uptoBulk d + uptoBulkAll r
def uptoBulkEntries {H : Type} : List (Lit × DataW H) → Nat
  | [] => 0
  | x :: r => uptoBulkEntry x + uptoBulkEntries r
def uptoBulkEntry {H : Type} : Lit × DataW H → Nat
  | (.string bytes, d) => bytes.length + uptoBulk d + 1
  | (_, d) => uptoBulk d + 1
 end
def uptoSmall : (H : Type) → List (DataW H) → Bool := fun _ ds => decide (uptoBulkAll ds ≤ 1048576)
def OpenSpec.upto (s : _root_.Go.ChangeSpec) : _root_.Go.OpenSpec := { _root_.Go.OpenSpec.ofChange s with cond := some uptoSmall }

/-- 'hanaperlaw04.MarkOf', WHERE WHAT IT READS IS OF BULK AT MOST 1048576: true; the input reads as it did. -/
def markOfUptoRow : OpenClaim := { program := "ytdpcfamgmicboaa", sum := "9bb65612ce19ef4e6b1e7bf78354b7d76c5b44efe80608102a4a164aedafbe7c", func := "hanaper/hanaperlaw04.MarkOf", spec := "markOf", apart := false, narrowed := true }
def MarkOfUptoSaid : Prop := markOfUptoRow.holds Try.pinned (OpenSpec.upto markOfSpec)

/-- 'hanaperlaw04.MarkTells', WHERE WHAT IT READS IS OF BULK AT MOST 1048576: true; the input reads as it did. -/
def markTellsUptoRow : OpenClaim := { program := "ytdpcfamgmicboaa", sum := "9bb65612ce19ef4e6b1e7bf78354b7d76c5b44efe80608102a4a164aedafbe7c", func := "hanaper/hanaperlaw04.MarkTells", spec := "markTells", apart := false, narrowed := true }
def MarkTellsUptoSaid : Prop := markTellsUptoRow.holds Try.pinned (OpenSpec.upto markTellsSpec)

/-- 'hanaperlaw04.MarkPowers', WHERE WHAT IT READS IS OF BULK AT MOST 1048576: true; the input reads as it did. -/
def markPowersUptoRow : OpenClaim := { program := "ytdpcfamgmicboaa", sum := "9bb65612ce19ef4e6b1e7bf78354b7d76c5b44efe80608102a4a164aedafbe7c", func := "hanaper/hanaperlaw04.MarkPowers", spec := "markPowers", apart := false, narrowed := true }
def MarkPowersUptoSaid : Prop := markPowersUptoRow.holds Try.pinned (OpenSpec.upto markPowersSpec)

/-- 'hanaperlaw04.MarkJoins', WHERE WHAT IT READS IS OF BULK AT MOST 1048576: true; the input reads as it did. -/
def markJoinsUptoRow : OpenClaim := { program := "ytdpcfamgmicboaa", sum := "9bb65612ce19ef4e6b1e7bf78354b7d76c5b44efe80608102a4a164aedafbe7c", func := "hanaper/hanaperlaw04.MarkJoins", spec := "markJoins", apart := false, narrowed := true }
def MarkJoinsUptoSaid : Prop := markJoinsUptoRow.holds Try.pinned (OpenSpec.upto markJoinsSpec)

end Rows
end Go.Proofs.Ytdpcfamgmicboaa
