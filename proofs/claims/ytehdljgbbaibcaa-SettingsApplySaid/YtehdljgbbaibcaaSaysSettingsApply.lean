/- What the walk of the law SettingsApply says. -/
-- Written by a program of this session (wip/tools/genrow.py).
import Derived.Test.YtehdljgbbaibcaaPAllx0
namespace Go.Proofs.Ytehdljgbbaibcaa.Says
open Go.RowKit Go.Proofs.YtehdljgbbaibcaaW.PrintWords Go.Proofs.Ytehdljgbbaibcaa.PAll
set_option linter.unusedVariables false
def SettingsApply : Prop := ∀ (c0 : List Value) (x0 : S24) (A1 : Option Addr) (c1 : Nat) (x1 : (List S39)) (w : World) (r0 : k24.K w x0 c0) (o0 : ((Lit.int .u32 x0.f0).wf = true) ∧ (True) ∧ ((Lit.int .u32 x0.f2).wf = true) ∧ ((Lit.int .u32 x0.f3).wf = true) ∧ ((Lit.int .u32 x0.f4).wf = true) ∧ ((Lit.int .u32 x0.f5).wf = true) ∧ (True)) (l1 : x1.length ≤ c1) (r1 : Kd.C k39 w A1 x1.length x1) (o1 : (∀ x_ ∈ x1, ((Lit.int .u16 x_.f0).wf = true) ∧ ((Lit.int .u32 x_.f1).wf = true)) ∧ x1.length * 8 ≤ 140737488351232 ∧ x1.length ≤ 9223372036854775807), Calls Try.prog 3 #[.agg c0.toArray, .slice A1 x1.length c1] w fun e w' => e = .returned (.bool true) ∧ Below w.heap.size w w'
end Go.Proofs.Ytehdljgbbaibcaa.Says
