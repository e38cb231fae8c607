/- The pure statement of the law MarkPowers, and how its arguments read; no condition. (Written by a program of this session.) -/
import Derived.Test.YtdpcfamgmicboaaPMarkPowersx1
import Derived.Test.YtdpcfamgmicboaaOpen
import Derived.KernelRfl
namespace Go.Proofs.Ytdpcfamgmicboaa.PMarkPowers
open Go.RowKit Go.Proofs.YtdpcfamgmicboaaW.PrintWords Go.Proofs.Ytdpcfamgmicboaa.Open
set_option linter.unusedVariables false

def hanaperlaw04_MarkPowers.Pure : Prop := ∀ (x0 : Int), ((Lit.int .i64 x0).wf = true) → ∃ k, hanaperlaw04_MarkPowers.f k x0 = some true
end Go.Proofs.Ytdpcfamgmicboaa.PMarkPowers
