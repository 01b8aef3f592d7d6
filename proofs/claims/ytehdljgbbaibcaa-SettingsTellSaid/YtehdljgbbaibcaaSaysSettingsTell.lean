/- What the walk of the law SettingsTell says. -/
-- Written by a program of this session (wip/tools/genrow.py).
import Derived.Test.YtehdljgbbaibcaaPAllx0
namespace Go.Proofs.Ytehdljgbbaibcaa.Says
open Go.RowKit Go.Proofs.YtehdljgbbaibcaaW.PrintWords Go.Proofs.Ytehdljgbbaibcaa.PAll
set_option linter.unusedVariables false
def SettingsTell : Prop := ∀ (c0 : List Value) (x0 : S24) (c1 : List Value) (x1 : S24) (w : World) (r0 : k24.K w x0 c0) (o0 : ((Lit.int .u32 x0.f0).wf = true) ∧ (True) ∧ ((Lit.int .u32 x0.f2).wf = true) ∧ ((Lit.int .u32 x0.f3).wf = true) ∧ ((Lit.int .u32 x0.f4).wf = true) ∧ ((Lit.int .u32 x0.f5).wf = true) ∧ (True)) (r1 : k24.K w x1 c1) (o1 : ((Lit.int .u32 x1.f0).wf = true) ∧ (True) ∧ ((Lit.int .u32 x1.f2).wf = true) ∧ ((Lit.int .u32 x1.f3).wf = true) ∧ ((Lit.int .u32 x1.f4).wf = true) ∧ ((Lit.int .u32 x1.f5).wf = true) ∧ (True)), Calls Try.prog 4 #[.agg c0.toArray, .agg c1.toArray] w fun e w' => e = .returned (.bool true) ∧ Below w.heap.size w w'
end Go.Proofs.Ytehdljgbbaibcaa.Says
