/- What the walk of the law ClosingLate says. -/
-- Written by a program of this session (wip/tools/genrow.py).
import Derived.Test.YtbcjifadcljkeaaPAllx0
namespace Go.Proofs.Ytbcjifadcljkeaa.Says
open Go.RowKit Go.Proofs.YtbcjifadcljkeaaW.PrintWords Go.Proofs.Ytbcjifadcljkeaa.PAll
set_option linter.unusedVariables false
def ClosingLate : Prop := ∀ (c0 : List Value) (x0 : S39) (A1 : Option Addr) (c1 : Nat) (x1 : (List S39)) (w : World) (r0 : k39.K w x0 c0) (o0 : ((Lit.int .i64 x0.f0).wf = true) ∧ ((Lit.int .u32 x0.f1).wf = true) ∧ (x0.f2.size ≤ 140737488351232)) (l1 : x1.length ≤ c1) (r1 : Kd.C k39 w A1 x1.length x1) (o1 : (∀ x_ ∈ x1, ((Lit.int .i64 x_.f0).wf = true) ∧ ((Lit.int .u32 x_.f1).wf = true) ∧ (x_.f2.size ≤ 140737488351232)) ∧ x1.length * 32 ≤ 140737488351232 ∧ x1.length ≤ 9223372036854775807), Calls Try.prog 4 #[.agg c0.toArray, .slice A1 x1.length c1] w fun e w' => e = .returned (.bool true) ∧ Below w.heap.size w w'
end Go.Proofs.Ytbcjifadcljkeaa.Says
