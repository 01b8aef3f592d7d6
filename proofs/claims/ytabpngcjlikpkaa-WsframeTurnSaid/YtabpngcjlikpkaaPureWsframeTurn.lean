import Derived.Test.YtabpngcjlikpkaaPAllx4
import Derived.Test.YtabpngcjlikpkaaTurn
namespace Go.Proofs.Ytabpngcjlikpkaa.Pure
open Go.RowKit Go.Proofs.Ytabpngcjlikpkaa.PAll Go.Proofs.YtabpngcjlikpkaaW.PrintWords Go.Proofs.YtabpngcjlikpkaaW.PrintLast
theorem WsframeTurn : louverlaw16_WsframeTurn.Pure := by
  intro l a1 hm hz hwf ha
  have hl : ∀ x ∈ l, Byte x := fun x hx => by
    have : 0 ≤ x ∧ x ≤ 255 := by simpa [Lit.wf, IntKind.min, IntKind.max, IntKind.signed, IntKind.bits] using hwf x hx
    exact this
  have hk : 0 ≤ a1 ∧ a1 ≤ 4294967295 := by simpa [Lit.wf, IntKind.min, IntKind.max, IntKind.signed, IntKind.bits] using ha
  refine ⟨l.length + 1 + (0 + 9), ?_⟩
  unfold louverlaw16_WsframeTurn.f
  by_cases h : (l.length : Int) > 9000
  · rw [if_pos h]; rfl
  · have h2 := turn_f (turned l a1) a1 (by rw [turned_len]; omega) (0 + 9)
    rw [turned_len, turned_twice l a1 hl] at h2
    rw [if_neg h, turn_f l a1 (by omega) (0 + 9), Option.bind_some]
    rw [show louverlaw16_fixed.f = some true from rfl, Option.bind_some, if_pos rfl, refTurn_f l a1 hl (by omega) hk.1 hk.2 0, Option.bind_some, if_pos rfl, h2, Option.bind_some, if_pos rfl]
    simp
end Go.Proofs.Ytabpngcjlikpkaa.Pure
