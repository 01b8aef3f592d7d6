import Derived.Test.YtehdljgbbaibcaaSaysSettingsApply
import Derived.Test.YtehdljgbbaibcaaSet2
import Derived.Test.YtehdljgbbaibcaaPAllx6
import Derived.Test.YtehdljgbbaibcaaPAllx5
namespace Go.Proofs.Ytehdljgbbaibcaa
open Go.RowKit Go.Proofs.YtehdljgbbaibcaaW.PrintWords Go.Proofs.YtehdljgbbaibcaaW.PrintLast Go.Proofs.YtehdljgbbaibcaaW.PrintMore Go.Proofs.Ytehdljgbbaibcaa.PAll
set_option linter.unusedVariables false
def toldC : Except Int S24 → Int × Int
  | .ok _ => (0, 0)
  | .error c => (1, c)
theorem apply_f (s : S24) (l : List S39) : settings_Apply.f s.f0 s.f1 s.f2 s.f3 s.f4 s.f5 s.f6 l = some ((refC s l).1.f0, (refC s l).1.f1, (refC s l).1.f2, (refC s l).1.f3, (refC s l).1.f4, (refC s l).1.f5, (refC s l).1.f6, (toldC (applyC s l)).1, (toldC (applyC s l)).2) := by
  unfold settings_Apply.f refC
  rw [show (⟨s.f0, s.f1, s.f2, s.f3, s.f4, s.f5, s.f6⟩ : S24) = s from rfl]
  cases applyC s l <;> rfl
theorem told_f (s : S24) (l : List S39) : louverlaw09_told.f (refC s l).2 = some ((toldC (applyC s l)).1, (toldC (applyC s l)).2) := by
  unfold louverlaw09_told.f refC
  cases h : applyC s l with
  | ok t => rfl
  | error c => rcases applyC_code l s c h with h | h <;> subst h <;> rfl
theorem settingsApply_true (s : S24) (l : List S39) (hl : l.length ≤ 9223372036854775807) (ho : ∀ x ∈ l, Okay x) : louverlaw09_SettingsApply.f (l.length + 2) s.f0 s.f1 s.f2 s.f3 s.f4 s.f5 s.f6 l = some true := by
  unfold louverlaw09_SettingsApply.f
  rw [apply_f, ref_apply s l hl ho]
  by_cases h : (l.length : Int) > 5000
  · rw [if_pos h]; rfl
  · rw [if_neg h]
    simp [told_f, louverlaw09_fixed.f, settings_Begin.f, louverref09_Begin.f]
theorem okay_of {x : List S39} (h : ∀ x_ ∈ x, ((Lit.int .u16 x_.f0).wf = true) ∧ ((Lit.int .u32 x_.f1).wf = true)) : ∀ y ∈ x, Okay y := fun y hy => by
  have : 0 ≤ y.f1 ∧ y.f1 ≤ 4294967295 := by simpa [Lit.wf, IntKind.min, IntKind.max, IntKind.signed, IntKind.bits] using (h y hy).2
  exact this.1
theorem Pure.SettingsApply : Says.SettingsApply := by
  intro c0 x0 A1 c1 x1 w r0 o0 hc1 r1 o1
  obtain rfl := k24_open r0
  exact louverlaw09_SettingsApply.calls _ _ _ _ _ _ _ _ A1 c1 x1 true w r1 hc1 (settingsApply_true x0 x1 o1.2.2 (okay_of o1.1))
end Go.Proofs.Ytehdljgbbaibcaa
