/- What the walk of the law WsframeHead says. -/
-- Written by a program of this session (wip/tools/genrow.py).
import Derived.Test.YtabpngcjlikpkaaDoorPAllx0
import Derived.Test.YtabpngcjlikpkaaDoorFault
namespace Go.Proofs.YtabpngcjlikpkaaDoor.Says
open Go.RowKit Go.Proofs.YtabpngcjlikpkaaDoorW.PrintWords Go.Proofs.YtabpngcjlikpkaaDoor.PAll
set_option linter.unusedVariables false
def WsframeHead : Prop := ∀ (x0 : Int) (x1 : Int) (x2 : Int) (x3 : Int) (x4 : Bool) (w : World) (o0 : (Lit.int .u8 x0).wf = true) (o1 : (Lit.int .u8 x1).wf = true) (o2 : (Lit.int .u64 x2).wf = true) (o3 : (Lit.int .u8 x3).wf = true) (hg : Cond w), Calls Tryd.prog 3 #[.int .u8 x0, .int .u8 x1, .int .u64 x2, .int .u8 x3, .bool x4] w fun e w' => e = .returned (.bool true) ∧ Below w.heap.size w w'
end Go.Proofs.YtabpngcjlikpkaaDoor.Says
