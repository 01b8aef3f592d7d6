/- What the walk of the law ClosingPlays says. -/
-- Written by a program of this session (wip/tools/genrow.py).
import Derived.Test.YtbcjifadcljkeaaPAllx0
namespace Go.Proofs.Ytbcjifadcljkeaa.Says
open Go.RowKit Go.Proofs.YtbcjifadcljkeaaW.PrintWords Go.Proofs.Ytbcjifadcljkeaa.PAll
set_option linter.unusedVariables false
def ClosingPlays : Prop := ∀ (A0 : Option Addr) (c0 : Nat) (x0 : (List S39)) (w : World) (l0 : x0.length ≤ c0) (r0 : Kd.C k39 w A0 x0.length x0) (o0 : (∀ x_ ∈ x0, ((Lit.int .i64 x_.f0).wf = true) ∧ ((Lit.int .u32 x_.f1).wf = true) ∧ (x_.f2.size ≤ 140737488351232)) ∧ x0.length * 32 ≤ 140737488351232 ∧ x0.length ≤ 9223372036854775807), Calls Try.prog 5 #[.slice A0 x0.length c0] w fun e w' => e = .returned (.bool true) ∧ Below w.heap.size w w'
end Go.Proofs.Ytbcjifadcljkeaa.Says
