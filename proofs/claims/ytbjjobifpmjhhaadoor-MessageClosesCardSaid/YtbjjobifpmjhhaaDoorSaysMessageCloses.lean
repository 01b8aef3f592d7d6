/- What the walk of the law MessageCloses says. -/
-- Written by a program of this session (wip/tools/genrow.py).
import Derived.Test.YtbjjobifpmjhhaaDoorPAllx0
import Derived.Test.YtbjjobifpmjhhaaDoorFault
namespace Go.Proofs.YtbjjobifpmjhhaaDoor.Says
open Go.RowKit Go.Proofs.YtbjjobifpmjhhaaDoorW.PrintWords Go.Proofs.YtbjjobifpmjhhaaDoor.PAll
set_option linter.unusedVariables false
def MessageCloses : Prop := ∀ (x0 : Int) (x1 : ByteArray) (w : World) (o0 : (Lit.int .u32 x0).wf = true) (o1 : x1.size ≤ 140737488351232) (hg : Cond w), Calls Tryd.prog 3 #[.int .u32 x0, .string x1] w fun e w' => e = .returned (.bool true) ∧ Below w.heap.size w w'
end Go.Proofs.YtbjjobifpmjhhaaDoor.Says
