/-
  No cell of these rows narrows 'for every input' (looked for: loops, veiled, ifaces, maps, wideKeys, modest, calm, conditions, laid).
  DERIVED. THE GIVEN ROWS OF THIS SEAT. 4 by the template 'for every input the law returns true; each argument reads behind the call as it read before'; 0 by the template 'total and deterministic' (their statements: YtdpcfamgmicboabTotals.lean).
  GIVEN WITH THE SEED: the statements are not yours to turn. If you find one false, say at which input.
  Laid BY PROGRAM, IN A SANDBOX (cutbox-rows.mjs): the forced cells as the released guide's own fill.sh prints them over the translation 610fc0bf2bd8d1ae… (all of the seat's roots in one cut). By AI agents, Wed Nov 11 2026. No macro, syntax, notation, axiom, sorry.
-/
import Derived.Test.YtdpcfamgmicboabChecked
import GoSem.Claim
import GoSem.ClaimJoined
import GoSem.ClaimMapViews
import Derived.JoinedTies
import Derived.KernelRfl
namespace Go.Proofs.Ytdpcfamgmicboab
/- THE CELL 'sum', in the pinned program and in every row, IS THE sha256 OF THE DUMP (.gsa) THAT YtdpcfamgmicboabProg.lean LOADS. Nothing in Lean hashes anything: it is a label: what it is worth is what the hold of that sum in a sandbox is worth. -/
noncomputable def Try.pinned : Pinned := { name := "ytdpcfamgmicboab", sum := "610fc0bf2bd8d1ae976ca3c095dc433a04c8e5792e822b36b3a11372e08ede67", checked := Try.checked }
namespace Rows
def none {H : Type} : Left H := { results := [], args := [] }

/-- 'hanaperlaw03.GaussAdds': WHATEVER THE INPUT: true; the input reads as it did. -/
def gaussAddsSpec : ChangeSpec := { name := "gaussAdds", fn := fun _ => fun
  | [d1, d2] => { results := [.lit (.bool true)], args := [d1, d2] }
  | _ => none }
def gaussAddsRow : OpenClaim := { program := "ytdpcfamgmicboab", sum := "610fc0bf2bd8d1ae976ca3c095dc433a04c8e5792e822b36b3a11372e08ede67", func := "hanaper/hanaperlaw03.GaussAdds", spec := "gaussAdds", apart := false }
def GaussAddsSaid : Prop := gaussAddsRow.holds Try.pinned (OpenSpec.ofChange gaussAddsSpec)

/-- ITS FALSE NEIGHBOUR: 'it returns false'. Refute it at one input. -/
def gaussAddsWrong : ChangeSpec := { name := "gaussAdds", fn := fun _ => fun
  | [d1, d2] => { results := [.lit (.bool false)], args := [d1, d2] }
  | _ => none }
def GaussAddsWrongFalsely : Prop := gaussAddsRow.holds Try.pinned (OpenSpec.ofChange gaussAddsWrong)

/-- 'hanaperlaw03.GaussField': WHATEVER THE INPUT: true; the input reads as it did. -/
def gaussFieldSpec : ChangeSpec := { name := "gaussField", fn := fun _ => fun
  | [d1, d2, d3] => { results := [.lit (.bool true)], args := [d1, d2, d3] }
  | _ => none }
def gaussFieldRow : OpenClaim := { program := "ytdpcfamgmicboab", sum := "610fc0bf2bd8d1ae976ca3c095dc433a04c8e5792e822b36b3a11372e08ede67", func := "hanaper/hanaperlaw03.GaussField", spec := "gaussField", apart := false }
def GaussFieldSaid : Prop := gaussFieldRow.holds Try.pinned (OpenSpec.ofChange gaussFieldSpec)

/-- ITS FALSE NEIGHBOUR: 'it returns false'. Refute it at one input. -/
def gaussFieldWrong : ChangeSpec := { name := "gaussField", fn := fun _ => fun
  | [d1, d2, d3] => { results := [.lit (.bool false)], args := [d1, d2, d3] }
  | _ => none }
def GaussFieldWrongFalsely : Prop := gaussFieldRow.holds Try.pinned (OpenSpec.ofChange gaussFieldWrong)

/-- 'hanaperlaw03.GaussPowers': WHATEVER THE INPUT: true; the input reads as it did. -/
def gaussPowersSpec : ChangeSpec := { name := "gaussPowers", fn := fun _ => fun
  | [d1, d2] => { results := [.lit (.bool true)], args := [d1, d2] }
  | _ => none }
def gaussPowersRow : OpenClaim := { program := "ytdpcfamgmicboab", sum := "610fc0bf2bd8d1ae976ca3c095dc433a04c8e5792e822b36b3a11372e08ede67", func := "hanaper/hanaperlaw03.GaussPowers", spec := "gaussPowers", apart := false }
def GaussPowersSaid : Prop := gaussPowersRow.holds Try.pinned (OpenSpec.ofChange gaussPowersSpec)

/-- ITS FALSE NEIGHBOUR: 'it returns false'. Refute it at one input. -/
def gaussPowersWrong : ChangeSpec := { name := "gaussPowers", fn := fun _ => fun
  | [d1, d2] => { results := [.lit (.bool false)], args := [d1, d2] }
  | _ => none }
def GaussPowersWrongFalsely : Prop := gaussPowersRow.holds Try.pinned (OpenSpec.ofChange gaussPowersWrong)

/-- 'hanaperlaw03.GaussTurned': WHATEVER THE INPUT: true; the input reads as it did. -/
def gaussTurnedSpec : ChangeSpec := { name := "gaussTurned", fn := fun _ => fun
  | [d1, d2, d3] => { results := [.lit (.bool true)], args := [d1, d2, d3] }
  | _ => none }
def gaussTurnedRow : OpenClaim := { program := "ytdpcfamgmicboab", sum := "610fc0bf2bd8d1ae976ca3c095dc433a04c8e5792e822b36b3a11372e08ede67", func := "hanaper/hanaperlaw03.GaussTurned", spec := "gaussTurned", apart := false }
def GaussTurnedSaid : Prop := gaussTurnedRow.holds Try.pinned (OpenSpec.ofChange gaussTurnedSpec)

/-- ITS FALSE NEIGHBOUR: 'it returns false'. Refute it at one input. -/
def gaussTurnedWrong : ChangeSpec := { name := "gaussTurned", fn := fun _ => fun
  | [d1, d2, d3] => { results := [.lit (.bool false)], args := [d1, d2, d3] }
  | _ => none }
def GaussTurnedWrongFalsely : Prop := gaussTurnedRow.holds Try.pinned (OpenSpec.ofChange gaussTurnedWrong)

/- THE SECOND FORM. 'bulk': how many values and letters a reading holds, each counted each time it is reached (what is shared counts as often as it is met; a slice's spare places count too). A statement '..UptoSaid' is the law's where the arguments, and the package variables that the reading takes, are together of bulk at most 1048576: NARROWER than '..Said'. Prove '..Said' where nothing that the law and all that it calls make is longer than what came in: it says more and counts as full. Else prove '..UptoSaid'. A law counts once. -/
mutual
def uptoBulk {H : Type} : DataW H → Nat
  | .lit (.string bytes) => bytes.length + 1
  | .lit _ => 1
  | .nil => 1
  | .ptr d => uptoBulk d + 1
  | .slice elems spare => uptoBulkAll elems + uptoBulkAll spare + 1
  | .agg parts => uptoBulkAll parts + 1
  | .iface _ d => uptoBulk d + 1
  | .map entries => uptoBulkEntries entries + 1
  | .held _ => 1
def uptoBulkAll {H : Type} : List (DataW H) → Nat
  | [] => 0
  | d :: r => uptoBulk d + uptoBulkAll r
def uptoBulkEntries {H : Type} : List (Lit × DataW H) → Nat
  | [] => 0
  | x :: r => uptoBulkEntry x + uptoBulkEntries r
def uptoBulkEntry {H : Type} : Lit × DataW H → Nat
  | (.string bytes, d) => bytes.length + uptoBulk d + 1
  | (_, d) => uptoBulk d + 1
 end
def uptoSmall : (H : Type) → List (DataW H) → Bool := fun _ ds => decide (uptoBulkAll ds ≤ 1048576)
def OpenSpec.upto (s : _root_.Go.ChangeSpec) : _root_.Go.OpenSpec := { _root_.Go.OpenSpec.ofChange s with cond := some uptoSmall }

/-- 'hanaperlaw03.GaussAdds', WHERE WHAT IT READS IS OF BULK AT MOST 1048576: true; the input reads as it did. -/
def gaussAddsUptoRow : OpenClaim := { program := "ytdpcfamgmicboab", sum := "610fc0bf2bd8d1ae976ca3c095dc433a04c8e5792e822b36b3a11372e08ede67", func := "hanaper/hanaperlaw03.GaussAdds", spec := "gaussAdds", apart := false, narrowed := true }
def GaussAddsUptoSaid : Prop := gaussAddsUptoRow.holds Try.pinned (OpenSpec.upto gaussAddsSpec)

/-- 'hanaperlaw03.GaussField', WHERE WHAT IT READS IS OF BULK AT MOST 1048576: true; the input reads as it did. -/
def gaussFieldUptoRow : OpenClaim := { program := "ytdpcfamgmicboab", sum := "610fc0bf2bd8d1ae976ca3c095dc433a04c8e5792e822b36b3a11372e08ede67", func := "hanaper/hanaperlaw03.GaussField", spec := "gaussField", apart := false, narrowed := true }
def GaussFieldUptoSaid : Prop := gaussFieldUptoRow.holds Try.pinned (OpenSpec.upto gaussFieldSpec)

/-- 'hanaperlaw03.GaussPowers', WHERE WHAT IT READS IS OF BULK AT MOST 1048576: true; the input reads as it did. -/
def gaussPowersUptoRow : OpenClaim := { program := "ytdpcfamgmicboab", sum := "610fc0bf2bd8d1ae976ca3c095dc433a04c8e5792e822b36b3a11372e08ede67", func := "hanaper/hanaperlaw03.GaussPowers", spec := "gaussPowers", apart := false, narrowed := true }
def GaussPowersUptoSaid : Prop := gaussPowersUptoRow.holds Try.pinned (OpenSpec.upto gaussPowersSpec)

/-- 'hanaperlaw03.GaussTurned', WHERE WHAT IT READS IS OF BULK AT MOST 1048576: true; the input reads as it did. -/
def gaussTurnedUptoRow : OpenClaim := { program := "ytdpcfamgmicboab", sum := "610fc0bf2bd8d1ae976ca3c095dc433a04c8e5792e822b36b3a11372e08ede67", func := "hanaper/hanaperlaw03.GaussTurned", spec := "gaussTurned", apart := false, narrowed := true }
def GaussTurnedUptoSaid : Prop := gaussTurnedUptoRow.holds Try.pinned (OpenSpec.upto gaussTurnedSpec)

end Rows
end Go.Proofs.Ytdpcfamgmicboab
