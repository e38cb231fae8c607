/-
  No cell of these rows narrows 'for every input' (looked for: loops, veiled, ifaces, maps, wideKeys, modest, calm, conditions, laid).
  DERIVED. THE GIVEN ROWS OF THIS SEAT. 4 by the template 'for every input the law returns true; each argument reads behind the call as it read before'; 0 by the template 'total and deterministic' (their statements: YtdpcfamgmicboadTotals.lean).
  GIVEN WITH THE SEED: the statements are not yours to turn. If you find one false, say at which input.
  Laid BY PROGRAM, IN A SANDBOX (cutbox-rows.mjs): the forced cells as the released guide's own fill.sh prints them over the translation 7a1b544f9151a80b… (all of the seat's roots in one cut). By AI agents, Wed Nov 11 2026. No macro, syntax, notation, axiom, sorry.
-/
import Derived.Test.YtdpcfamgmicboadChecked
import GoSem.Claim
import GoSem.ClaimJoined
import GoSem.ClaimMapViews
import Derived.JoinedTies
import Derived.KernelRfl
namespace Go.Proofs.Ytdpcfamgmicboad
/- THE CELL 'sum', in the pinned program and in every row, IS THE sha256 OF THE DUMP (.gsa) THAT YtdpcfamgmicboadProg.lean LOADS. Nothing in Lean hashes anything: it is a label: what it is worth is what the hold of that sum in a sandbox is worth. -/
noncomputable def Try.pinned : Pinned := { name := "ytdpcfamgmicboad", sum := "7a1b544f9151a80b7693821fec54e81c0b00175ad296babc8ecdf71abbc92ebd", checked := Try.checked }
namespace Rows
def none {H : Type} : Left H := { results := [], args := [] }

/-- 'hanaperlaw27.StampMoves': WHATEVER THE INPUT: true; the input reads as it did. -/
def stampMovesSpec : ChangeSpec := { name := "stampMoves", fn := fun _ => fun
  | [d1, d2, d3] => { results := [.lit (.bool true)], args := [d1, d2, d3] }
  | _ => none }
def stampMovesRow : OpenClaim := { program := "ytdpcfamgmicboad", sum := "7a1b544f9151a80b7693821fec54e81c0b00175ad296babc8ecdf71abbc92ebd", func := "hanaper/hanaperlaw27.StampMoves", spec := "stampMoves", unfollowed := true, recurses := true, apart := false }
def StampMovesSaid : Prop := stampMovesRow.holds Try.pinned (OpenSpec.ofChange stampMovesSpec)

/-- ITS FALSE NEIGHBOUR: 'it returns false'. Refute it at one input. -/
def stampMovesWrong : ChangeSpec := { name := "stampMoves", fn := fun _ => fun
  | [d1, d2, d3] => { results := [.lit (.bool false)], args := [d1, d2, d3] }
  | _ => none }
def StampMovesWrongFalsely : Prop := stampMovesRow.holds Try.pinned (OpenSpec.ofChange stampMovesWrong)

/-- 'hanaperlaw27.StampArea': WHATEVER THE INPUT: true; the input reads as it did. -/
def stampAreaSpec : ChangeSpec := { name := "stampArea", fn := fun _ => fun
  | [d1, d2, d3] => { results := [.lit (.bool true)], args := [d1, d2, d3] }
  | _ => none }
def stampAreaRow : OpenClaim := { program := "ytdpcfamgmicboad", sum := "7a1b544f9151a80b7693821fec54e81c0b00175ad296babc8ecdf71abbc92ebd", func := "hanaper/hanaperlaw27.StampArea", spec := "stampArea", unfollowed := true, recurses := true, apart := false }
def StampAreaSaid : Prop := stampAreaRow.holds Try.pinned (OpenSpec.ofChange stampAreaSpec)

/-- ITS FALSE NEIGHBOUR: 'it returns false'. Refute it at one input. -/
def stampAreaWrong : ChangeSpec := { name := "stampArea", fn := fun _ => fun
  | [d1, d2, d3] => { results := [.lit (.bool false)], args := [d1, d2, d3] }
  | _ => none }
def StampAreaWrongFalsely : Prop := stampAreaRow.holds Try.pinned (OpenSpec.ofChange stampAreaWrong)

/-- 'hanaperlaw27.StampLies': WHATEVER THE INPUT: true; the input reads as it did. -/
def stampLiesSpec : ChangeSpec := { name := "stampLies", fn := fun _ => fun
  | [d1, d2, d3] => { results := [.lit (.bool true)], args := [d1, d2, d3] }
  | _ => none }
def stampLiesRow : OpenClaim := { program := "ytdpcfamgmicboad", sum := "7a1b544f9151a80b7693821fec54e81c0b00175ad296babc8ecdf71abbc92ebd", func := "hanaper/hanaperlaw27.StampLies", spec := "stampLies", unfollowed := true, recurses := true, apart := false }
def StampLiesSaid : Prop := stampLiesRow.holds Try.pinned (OpenSpec.ofChange stampLiesSpec)

/-- ITS FALSE NEIGHBOUR: 'it returns false'. Refute it at one input. -/
def stampLiesWrong : ChangeSpec := { name := "stampLies", fn := fun _ => fun
  | [d1, d2, d3] => { results := [.lit (.bool false)], args := [d1, d2, d3] }
  | _ => none }
def StampLiesWrongFalsely : Prop := stampLiesRow.holds Try.pinned (OpenSpec.ofChange stampLiesWrong)

/-- 'hanaperlaw27.StampNormal': WHATEVER THE INPUT: true; the input reads as it did. -/
def stampNormalSpec : ChangeSpec := { name := "stampNormal", fn := fun _ => fun
  | [d1, d2, d3] => { results := [.lit (.bool true)], args := [d1, d2, d3] }
  | _ => none }
def stampNormalRow : OpenClaim := { program := "ytdpcfamgmicboad", sum := "7a1b544f9151a80b7693821fec54e81c0b00175ad296babc8ecdf71abbc92ebd", func := "hanaper/hanaperlaw27.StampNormal", spec := "stampNormal", unfollowed := true, recurses := true, apart := false }
def StampNormalSaid : Prop := stampNormalRow.holds Try.pinned (OpenSpec.ofChange stampNormalSpec)

/-- ITS FALSE NEIGHBOUR: 'it returns false'. Refute it at one input. -/
def stampNormalWrong : ChangeSpec := { name := "stampNormal", fn := fun _ => fun
  | [d1, d2, d3] => { results := [.lit (.bool false)], args := [d1, d2, d3] }
  | _ => none }
def StampNormalWrongFalsely : Prop := stampNormalRow.holds Try.pinned (OpenSpec.ofChange stampNormalWrong)

/- THE SECOND FORM. 'bulk': how many values and letters a reading holds, each counted each time it is reached (what is shared counts as often as it is met; a slice's spare places count too). A statement '..UptoSaid' is the law's where the arguments, and the package variables that the reading takes, are together of bulk at most 1048576: NARROWER than '..Said'. Prove '..Said' where nothing that the law and all that it calls make is longer than what came in: it says more and counts as full. Else prove '..UptoSaid'. A law counts once. -/
mutual
def uptoBulk {H : Type} : DataW H → Nat
  | .lit (.string bytes) => bytes.length + 1
  | .lit _ => 1
  | .nil => 1
  | .ptr d => uptoBulk d + 1
  | .slice elems spare => uptoBulkAll elems + uptoBulkAll spare + 1
  | .agg parts => uptoBulkAll parts + 1
  | .iface _ d => uptoBulk d + 1
  | .map entries => uptoBulkEntries entries + 1
  | .held _ => 1
def uptoBulkAll {H : Type} : List (DataW H) → Nat
  | [] => 0
  | d :: r => uptoBulk d + uptoBulkAll r
def uptoBulkEntries {H : Type} : List (Lit × DataW H) → Nat
  | [] => 0
  | x :: r => uptoBulkEntry x + uptoBulkEntries r
def uptoBulkEntry {H : Type} : Lit × DataW H → Nat
  | (.string bytes, d) => bytes.length + uptoBulk d + 1
  | (_, d) => uptoBulk d + 1
 end
def uptoSmall : (H : Type) → List (DataW H) → Bool := fun _ ds => decide (uptoBulkAll ds ≤ 1048576)
def OpenSpec.upto (s : _root_.Go.ChangeSpec) : _root_.Go.OpenSpec := { _root_.Go.OpenSpec.ofChange s with cond := some uptoSmall }

/-- 'hanaperlaw27.StampMoves', WHERE WHAT IT READS IS OF BULK AT MOST 1048576: true; the input reads as it did. -/
def stampMovesUptoRow : OpenClaim := { program := "ytdpcfamgmicboad", sum := "7a1b544f9151a80b7693821fec54e81c0b00175ad296babc8ecdf71abbc92ebd", func := "hanaper/hanaperlaw27.StampMoves", spec := "stampMoves", unfollowed := true, recurses := true, apart := false, narrowed := true }
def StampMovesUptoSaid : Prop := stampMovesUptoRow.holds Try.pinned (OpenSpec.upto stampMovesSpec)

/-- 'hanaperlaw27.StampArea', WHERE WHAT IT READS IS OF BULK AT MOST 1048576: true; the input reads as it did. -/
def stampAreaUptoRow : OpenClaim := { program := "ytdpcfamgmicboad", sum := "7a1b544f9151a80b7693821fec54e81c0b00175ad296babc8ecdf71abbc92ebd", func := "hanaper/hanaperlaw27.StampArea", spec := "stampArea", unfollowed := true, recurses := true, apart := false, narrowed := true }
def StampAreaUptoSaid : Prop := stampAreaUptoRow.holds Try.pinned (OpenSpec.upto stampAreaSpec)

/-- 'hanaperlaw27.StampLies', WHERE WHAT IT READS IS OF BULK AT MOST 1048576: true; the input reads as it did. -/
def stampLiesUptoRow : OpenClaim := { program := "ytdpcfamgmicboad", sum := "7a1b544f9151a80b7693821fec54e81c0b00175ad296babc8ecdf71abbc92ebd", func := "hanaper/hanaperlaw27.StampLies", spec := "stampLies", unfollowed := true, recurses := true, apart := false, narrowed := true }
def StampLiesUptoSaid : Prop := stampLiesUptoRow.holds Try.pinned (OpenSpec.upto stampLiesSpec)

/-- 'hanaperlaw27.StampNormal', WHERE WHAT IT READS IS OF BULK AT MOST 1048576: true; the input reads as it did. -/
def stampNormalUptoRow : OpenClaim := { program := "ytdpcfamgmicboad", sum := "7a1b544f9151a80b7693821fec54e81c0b00175ad296babc8ecdf71abbc92ebd", func := "hanaper/hanaperlaw27.StampNormal", spec := "stampNormal", unfollowed := true, recurses := true, apart := false, narrowed := true }
def StampNormalUptoSaid : Prop := stampNormalUptoRow.holds Try.pinned (OpenSpec.upto stampNormalSpec)

end Rows
end Go.Proofs.Ytdpcfamgmicboad
