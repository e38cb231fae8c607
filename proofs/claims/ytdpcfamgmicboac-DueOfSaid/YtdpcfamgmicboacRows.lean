/-
  NARROWER THAN 'FOR EVERY INPUT', by the rows' own cells (each row's printed sentence says how): DueWhen: loops · DueGrows: loops · DueOf: loops.
  DERIVED. THE GIVEN ROWS OF THIS SEAT. 4 by the template 'for every input the law returns true; each argument reads behind the call as it read before'; 0 by the template 'total and deterministic' (their statements: YtdpcfamgmicboacTotals.lean).
  GIVEN WITH THE SEED: the statements are not yours to turn. If you find one false, say at which input.
  Laid BY PROGRAM, IN A SANDBOX (cutbox-rows.mjs): the forced cells as the released guide's own fill.sh prints them over the translation 1238ce3e02c05913… (all of the seat's roots in one cut). By AI agents, Wed Nov 11 2026. No macro, syntax, notation, axiom, sorry.
-/
import Derived.Test.YtdpcfamgmicboacChecked
import GoSem.Claim
import GoSem.ClaimJoined
import GoSem.ClaimMapViews
import Derived.JoinedTies
import Derived.KernelRfl
namespace Go.Proofs.Ytdpcfamgmicboac
/- THE CELL 'sum', in the pinned program and in every row, IS THE sha256 OF THE DUMP (.gsa) THAT YtdpcfamgmicboacProg.lean LOADS. Nothing in Lean hashes anything: it is a label: what it is worth is what the hold of that sum in a sandbox is worth. -/
noncomputable def Try.pinned : Pinned := { name := "ytdpcfamgmicboac", sum := "1238ce3e02c05913f61105b4b9c007f7266903a84824d6e02a4f5a46781aec97", checked := Try.checked }
namespace Rows
def none {H : Type} : Left H := { results := [], args := [] }

/-- 'hanaperlaw19.DueWhen': WHATEVER THE INPUT: true; the input reads as it did. -/
def dueWhenSpec : ChangeSpec := { name := "dueWhen", fn := fun _ => fun
  | [d1, d2] => { results := [.lit (.bool true)], args := [d1, d2] }
  | _ => none }
def dueWhenRow : OpenClaim := { program := "ytdpcfamgmicboac", sum := "1238ce3e02c05913f61105b4b9c007f7266903a84824d6e02a4f5a46781aec97", func := "hanaper/hanaperlaw19.DueWhen", spec := "dueWhen", unfollowed := true, recurses := true, loops := true, apart := false }
def DueWhenSaid : Prop := dueWhenRow.holds Try.pinned (OpenSpec.ofChange dueWhenSpec)

/-- ITS FALSE NEIGHBOUR: 'it returns false'. Refute it at one input. -/
def dueWhenWrong : ChangeSpec := { name := "dueWhen", fn := fun _ => fun
  | [d1, d2] => { results := [.lit (.bool false)], args := [d1, d2] }
  | _ => none }
def DueWhenWrongFalsely : Prop := dueWhenRow.holds Try.pinned (OpenSpec.ofChange dueWhenWrong)

/-- 'hanaperlaw19.DueGrows': WHATEVER THE INPUT: true; the input reads as it did. -/
def dueGrowsSpec : ChangeSpec := { name := "dueGrows", fn := fun _ => fun
  | [d1, d2, d3] => { results := [.lit (.bool true)], args := [d1, d2, d3] }
  | _ => none }
def dueGrowsRow : OpenClaim := { program := "ytdpcfamgmicboac", sum := "1238ce3e02c05913f61105b4b9c007f7266903a84824d6e02a4f5a46781aec97", func := "hanaper/hanaperlaw19.DueGrows", spec := "dueGrows", unfollowed := true, recurses := true, loops := true, apart := false }
def DueGrowsSaid : Prop := dueGrowsRow.holds Try.pinned (OpenSpec.ofChange dueGrowsSpec)

/-- ITS FALSE NEIGHBOUR: 'it returns false'. Refute it at one input. -/
def dueGrowsWrong : ChangeSpec := { name := "dueGrows", fn := fun _ => fun
  | [d1, d2, d3] => { results := [.lit (.bool false)], args := [d1, d2, d3] }
  | _ => none }
def DueGrowsWrongFalsely : Prop := dueGrowsRow.holds Try.pinned (OpenSpec.ofChange dueGrowsWrong)

/-- 'hanaperlaw19.DuePuts': WHATEVER THE INPUT: true; the input reads as it did. -/
def duePutsSpec : ChangeSpec := { name := "duePuts", fn := fun _ => fun
  | [d1, d2] => { results := [.lit (.bool true)], args := [d1, d2] }
  | _ => none }
def duePutsRow : OpenClaim := { program := "ytdpcfamgmicboac", sum := "1238ce3e02c05913f61105b4b9c007f7266903a84824d6e02a4f5a46781aec97", func := "hanaper/hanaperlaw19.DuePuts", spec := "duePuts", unfollowed := true, recurses := true, apart := false }
def DuePutsSaid : Prop := duePutsRow.holds Try.pinned (OpenSpec.ofChange duePutsSpec)

/-- ITS FALSE NEIGHBOUR: 'it returns false'. Refute it at one input. -/
def duePutsWrong : ChangeSpec := { name := "duePuts", fn := fun _ => fun
  | [d1, d2] => { results := [.lit (.bool false)], args := [d1, d2] }
  | _ => none }
def DuePutsWrongFalsely : Prop := duePutsRow.holds Try.pinned (OpenSpec.ofChange duePutsWrong)

/-- 'hanaperlaw19.DueOf': WHATEVER THE INPUT: true; the input reads as it did. -/
def dueOfSpec : ChangeSpec := { name := "dueOf", fn := fun _ => fun
  | [d1, d2, d3] => { results := [.lit (.bool true)], args := [d1, d2, d3] }
  | _ => none }
def dueOfRow : OpenClaim := { program := "ytdpcfamgmicboac", sum := "1238ce3e02c05913f61105b4b9c007f7266903a84824d6e02a4f5a46781aec97", func := "hanaper/hanaperlaw19.DueOf", spec := "dueOf", unfollowed := true, recurses := true, loops := true, apart := false }
def DueOfSaid : Prop := dueOfRow.holds Try.pinned (OpenSpec.ofChange dueOfSpec)

/-- ITS FALSE NEIGHBOUR: 'it returns false'. Refute it at one input. -/
def dueOfWrong : ChangeSpec := { name := "dueOf", fn := fun _ => fun
  | [d1, d2, d3] => { results := [.lit (.bool false)], args := [d1, d2, d3] }
  | _ => none }
def DueOfWrongFalsely : Prop := dueOfRow.holds Try.pinned (OpenSpec.ofChange dueOfWrong)

/- THE SECOND FORM. 'bulk': how many values and letters a reading holds, each counted each time it is reached (what is shared counts as often as it is met; a slice's spare places count too). A statement '..UptoSaid' is the law's where the arguments, and the package variables that the reading takes, are together of bulk at most 1048576: NARROWER than '..Said'. Prove '..Said' where nothing that the law and all that it calls make is longer than what came in: it says more and counts as full. Else prove '..UptoSaid'. A law counts once. -/
mutual
def uptoBulk {H : Type} : DataW H → Nat
  | .lit (.string bytes) => bytes.length + 1
  | .lit _ => 1
  | .nil => 1
  | .ptr d => uptoBulk d + 1
  | .slice elems spare => uptoBulkAll elems + uptoBulkAll spare + 1
  | .agg parts => uptoBulkAll parts + 1
  | .iface _ d => uptoBulk d + 1
  | .map entries => uptoBulkEntries entries + 1
  | .held _ => 1
def uptoBulkAll {H : Type} : List (DataW H) → Nat
  | [] => 0
  | d :: r => uptoBulk d + uptoBulkAll r
def uptoBulkEntries {H : Type} : List (Lit × DataW H) → Nat
  | [] => 0
  | x :: r => uptoBulkEntry x + uptoBulkEntries r
def uptoBulkEntry {H : Type} : Lit × DataW H → Nat
  | (.string bytes, d) => bytes.length + uptoBulk d + 1
  | (_, d) => uptoBulk d + 1
 end
def uptoSmall : (H : Type) → List (DataW H) → Bool := fun _ ds => decide (uptoBulkAll ds ≤ 1048576)
def OpenSpec.upto (s : _root_.Go.ChangeSpec) : _root_.Go.OpenSpec := { _root_.Go.OpenSpec.ofChange s with cond := some uptoSmall }

/-- 'hanaperlaw19.DueWhen', WHERE WHAT IT READS IS OF BULK AT MOST 1048576: true; the input reads as it did. -/
def dueWhenUptoRow : OpenClaim := { program := "ytdpcfamgmicboac", sum := "1238ce3e02c05913f61105b4b9c007f7266903a84824d6e02a4f5a46781aec97", func := "hanaper/hanaperlaw19.DueWhen", spec := "dueWhen", unfollowed := true, recurses := true, loops := true, apart := false, narrowed := true }
def DueWhenUptoSaid : Prop := dueWhenUptoRow.holds Try.pinned (OpenSpec.upto dueWhenSpec)

/-- 'hanaperlaw19.DueGrows', WHERE WHAT IT READS IS OF BULK AT MOST 1048576: true; the input reads as it did. -/
def dueGrowsUptoRow : OpenClaim := { program := "ytdpcfamgmicboac", sum := "1238ce3e02c05913f61105b4b9c007f7266903a84824d6e02a4f5a46781aec97", func := "hanaper/hanaperlaw19.DueGrows", spec := "dueGrows", unfollowed := true, recurses := true, loops := true, apart := false, narrowed := true }
def DueGrowsUptoSaid : Prop := dueGrowsUptoRow.holds Try.pinned (OpenSpec.upto dueGrowsSpec)

/-- 'hanaperlaw19.DuePuts', WHERE WHAT IT READS IS OF BULK AT MOST 1048576: true; the input reads as it did. -/
def duePutsUptoRow : OpenClaim := { program := "ytdpcfamgmicboac", sum := "1238ce3e02c05913f61105b4b9c007f7266903a84824d6e02a4f5a46781aec97", func := "hanaper/hanaperlaw19.DuePuts", spec := "duePuts", unfollowed := true, recurses := true, apart := false, narrowed := true }
def DuePutsUptoSaid : Prop := duePutsUptoRow.holds Try.pinned (OpenSpec.upto duePutsSpec)

/-- 'hanaperlaw19.DueOf', WHERE WHAT IT READS IS OF BULK AT MOST 1048576: true; the input reads as it did. -/
def dueOfUptoRow : OpenClaim := { program := "ytdpcfamgmicboac", sum := "1238ce3e02c05913f61105b4b9c007f7266903a84824d6e02a4f5a46781aec97", func := "hanaper/hanaperlaw19.DueOf", spec := "dueOf", unfollowed := true, recurses := true, loops := true, apart := false, narrowed := true }
def DueOfUptoSaid : Prop := dueOfUptoRow.holds Try.pinned (OpenSpec.upto dueOfSpec)

end Rows
end Go.Proofs.Ytdpcfamgmicboac
