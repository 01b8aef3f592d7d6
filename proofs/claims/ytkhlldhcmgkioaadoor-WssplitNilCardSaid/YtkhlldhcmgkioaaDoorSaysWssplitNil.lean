/- What the walk of the law WssplitNil says. -/
-- Written by a program of this session (wip/tools/genrow.py).
import Derived.Test.YtkhlldhcmgkioaaDoorPAllx0
import Derived.Test.YtkhlldhcmgkioaaDoorFault
namespace Go.Proofs.YtkhlldhcmgkioaaDoor.Says
open Go.RowKit Go.Proofs.YtkhlldhcmgkioaaDoorW.PrintWords Go.Proofs.YtkhlldhcmgkioaaDoor.PAll
set_option linter.unusedVariables false
def WssplitNil : Prop := ∀ (A0 : Option Addr) (c0 : Nat) (x0 : (List Int)) (w : World) (l0 : x0.length ≤ c0) (r0 : Kd.C (Kd.int .u8) w A0 x0.length x0) (o0 : (∀ x_ ∈ x0, (Lit.int .u8 x_).wf = true) ∧ x0.length * 1 ≤ 140737488351232 ∧ x0.length ≤ 9223372036854775807) (hg : Cond w), Calls Tryd.prog 5 #[.slice A0 x0.length c0] w fun e w' => e = .returned (.bool true) ∧ Below w.heap.size w w'
end Go.Proofs.YtkhlldhcmgkioaaDoor.Says
