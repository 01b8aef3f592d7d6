/- What the walk of the law ClosingNil says. -/
-- Written by a program of this session (wip/tools/genrow.py).
import Derived.Test.YtbcjifadcljkeaaPAllx0
namespace Go.Proofs.Ytbcjifadcljkeaa.Says
open Go.RowKit Go.Proofs.YtbcjifadcljkeaaW.PrintWords Go.Proofs.Ytbcjifadcljkeaa.PAll
set_option linter.unusedVariables false
def ClosingNil : Prop := ∀ (x0 : Int) (w : World) (o0 : (Lit.int .u32 x0).wf = true), Calls Try.prog 6 #[.int .u32 x0] w fun e w' => e = .returned (.bool true) ∧ Below w.heap.size w w'
end Go.Proofs.Ytbcjifadcljkeaa.Says
