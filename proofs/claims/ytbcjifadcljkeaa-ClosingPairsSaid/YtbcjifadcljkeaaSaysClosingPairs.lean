/- What the walk of the law ClosingPairs says. -/
-- Written by a program of this session (wip/tools/genrow.py).
import Derived.Test.YtbcjifadcljkeaaPAllx0
namespace Go.Proofs.Ytbcjifadcljkeaa.Says
open Go.RowKit Go.Proofs.YtbcjifadcljkeaaW.PrintWords Go.Proofs.Ytbcjifadcljkeaa.PAll
set_option linter.unusedVariables false
def ClosingPairs : Prop := ∀ (x0 : Int) (x1 : Int) (x2 : Bool) (w : World) (o0 : (Lit.int .u32 x0).wf = true) (o1 : (Lit.int .u32 x1).wf = true), Calls Try.prog 3 #[.int .u32 x0, .int .u32 x1, .bool x2] w fun e w' => e = .returned (.bool true) ∧ Below w.heap.size w w'
end Go.Proofs.Ytbcjifadcljkeaa.Says
