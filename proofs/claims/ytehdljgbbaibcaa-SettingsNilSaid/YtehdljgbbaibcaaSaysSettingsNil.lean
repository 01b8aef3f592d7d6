/- What the walk of the law SettingsNil says. -/
-- Written by a program of this session (wip/tools/genrow.py).
import Derived.Test.YtehdljgbbaibcaaPAllx0
namespace Go.Proofs.Ytehdljgbbaibcaa.Says
open Go.RowKit Go.Proofs.YtehdljgbbaibcaaW.PrintWords Go.Proofs.Ytehdljgbbaibcaa.PAll
set_option linter.unusedVariables false
def SettingsNil : Prop := ∀ (A0 : Option Addr) (c0 : Nat) (x0 : (List S39)) (w : World) (l0 : x0.length ≤ c0) (r0 : Kd.C k39 w A0 x0.length x0) (o0 : (∀ x_ ∈ x0, ((Lit.int .u16 x_.f0).wf = true) ∧ ((Lit.int .u32 x_.f1).wf = true)) ∧ x0.length * 8 ≤ 140737488351232 ∧ x0.length ≤ 9223372036854775807), Calls Try.prog 5 #[.slice A0 x0.length c0] w fun e w' => e = .returned (.bool true) ∧ Below w.heap.size w w'
end Go.Proofs.Ytehdljgbbaibcaa.Says
