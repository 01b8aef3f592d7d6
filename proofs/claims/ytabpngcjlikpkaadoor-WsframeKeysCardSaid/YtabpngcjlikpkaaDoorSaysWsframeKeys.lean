/- What the walk of the law WsframeKeys says. -/
-- Written by a program of this session (wip/tools/genrow.py).
import Derived.Test.YtabpngcjlikpkaaDoorPAllx0
import Derived.Test.YtabpngcjlikpkaaDoorFault
namespace Go.Proofs.YtabpngcjlikpkaaDoor.Says
open Go.RowKit Go.Proofs.YtabpngcjlikpkaaDoorW.PrintWords Go.Proofs.YtabpngcjlikpkaaDoor.PAll
set_option linter.unusedVariables false
def WsframeKeys : Prop := ∀ (c0 : List Value) (x0 : S37) (x1 : Int) (x2 : Int) (w : World) (r0 : k37.K w x0 c0) (o0 : (True) ∧ ((Lit.int .u8 x0.f1).wf = true) ∧ (True) ∧ ((Lit.int .u32 x0.f3).wf = true) ∧ ((∀ x_ ∈ x0.f4, (Lit.int .u8 x_).wf = true) ∧ x0.f4.length * 1 ≤ 140737488351232 ∧ x0.f4.length ≤ 9223372036854775807)) (o1 : (Lit.int .u32 x1).wf = true) (o2 : (Lit.int .u32 x2).wf = true) (hg : Cond w), Calls Tryd.prog 6 #[.agg c0.toArray, .int .u32 x1, .int .u32 x2] w fun e w' => e = .returned (.bool true) ∧ Below w.heap.size w w'
end Go.Proofs.YtabpngcjlikpkaaDoor.Says
