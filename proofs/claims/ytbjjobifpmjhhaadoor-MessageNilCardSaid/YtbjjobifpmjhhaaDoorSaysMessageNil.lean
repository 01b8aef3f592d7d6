/- What the walk of the law MessageNil says. -/
-- Written by a program of this session (wip/tools/genrow.py).
import Derived.Test.YtbjjobifpmjhhaaDoorPAllx0
import Derived.Test.YtbjjobifpmjhhaaDoorFault
namespace Go.Proofs.YtbjjobifpmjhhaaDoor.Says
open Go.RowKit Go.Proofs.YtbjjobifpmjhhaaDoorW.PrintWords Go.Proofs.YtbjjobifpmjhhaaDoor.PAll
set_option linter.unusedVariables false
def MessageNil : Prop := ∀ (c0 : List Value) (x0 : S26) (w : World) (r0 : k26.K w x0 c0) (o0 : (True) ∧ ((Lit.int .u8 x0.f1).wf = true) ∧ (True) ∧ ((Lit.int .u32 x0.f3).wf = true) ∧ ((∀ x_ ∈ x0.f4, (Lit.int .u8 x_).wf = true) ∧ x0.f4.length * 1 ≤ 140737488351232 ∧ x0.f4.length ≤ 9223372036854775807)) (hg : Cond w), Calls Tryd.prog 5 #[.agg c0.toArray] w fun e w' => e = .returned (.bool true) ∧ Below w.heap.size w w'
end Go.Proofs.YtbjjobifpmjhhaaDoor.Says
