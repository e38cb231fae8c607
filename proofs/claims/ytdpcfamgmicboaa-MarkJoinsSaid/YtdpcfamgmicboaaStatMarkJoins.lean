/- The pure statement of the law MarkJoins, and how its arguments read; no condition. (Written by a program of this session.) -/
import Derived.Test.YtdpcfamgmicboaaPMarkJoinsx3
import Derived.Test.YtdpcfamgmicboaaOpen
import Derived.KernelRfl
namespace Go.Proofs.Ytdpcfamgmicboaa.PMarkJoins
open Go.RowKit Go.Proofs.YtdpcfamgmicboaaW.PrintWords Go.Proofs.Ytdpcfamgmicboaa.Open
set_option linter.unusedVariables false

def hanaperlaw04_MarkJoins.Pure : Prop := ∀ (x0 : List Int) (x1 : List Int) (x2 : Int), (x0.length * 1 ≤ 140737488351232 ∧ x0.length ≤ maxLen ∧ ∀ y ∈ x0, (Lit.int .u8 y).wf = true) → (x1.length * 1 ≤ 140737488351232 ∧ x1.length ≤ maxLen ∧ ∀ y ∈ x1, (Lit.int .u8 y).wf = true) → ((Lit.int .i64 x2).wf = true) → ∃ k, hanaperlaw04_MarkJoins.f k x0 x1 x2 = some true
end Go.Proofs.Ytdpcfamgmicboaa.PMarkJoins
