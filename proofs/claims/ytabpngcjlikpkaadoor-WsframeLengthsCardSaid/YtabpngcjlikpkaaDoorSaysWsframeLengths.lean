/- What the walk of the law WsframeLengths says. -/
-- Written by a program of this session (wip/tools/genrow.py).
import Derived.Test.YtabpngcjlikpkaaDoorPAllx0
import Derived.Test.YtabpngcjlikpkaaDoorFault
namespace Go.Proofs.YtabpngcjlikpkaaDoor.Says
open Go.RowKit Go.Proofs.YtabpngcjlikpkaaDoorW.PrintWords Go.Proofs.YtabpngcjlikpkaaDoor.PAll
set_option linter.unusedVariables false
def WsframeLengths : Prop := ∀ (x0 : Int) (x1 : Bool) (x2 : Int) (w : World) (o0 : (Lit.int .u16 x0).wf = true) (o2 : (Lit.int .u8 x2).wf = true) (hg : Cond w), Calls Tryd.prog 4 #[.int .u16 x0, .bool x1, .int .u8 x2] w fun e w' => e = .returned (.bool true) ∧ Below w.heap.size w w'
end Go.Proofs.YtabpngcjlikpkaaDoor.Says
