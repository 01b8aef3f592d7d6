import Derived.Test.YtbcjifadcljkeaaSaysClosingLate
import Derived.Test.YtbcjifadcljkeaaClose
import Derived.Test.YtbcjifadcljkeaaPAllx5
namespace Go.Proofs.Ytbcjifadcljkeaa
open Go.RowKit Go.Proofs.YtbcjifadcljkeaaW.PrintWords Go.Proofs.YtbcjifadcljkeaaW.PrintLast Go.Proofs.YtbcjifadcljkeaaW.PrintMore Go.Proofs.Ytbcjifadcljkeaa.PAll
set_option linter.unusedVariables false
theorem late_loop (l : List S39) (hl : l.length ≤ 9223372036854775807) (s0 s1 : Bool) (c e ec : Int) (he : e ≠ 0) (x : Nat) : ∀ (m j : Nat), j + m = l.length → louverlaw19_ClosingLate.l0 (m + m + 1 + x) l (l.length : Int) (j : Int) s0 s1 c e ec e ec = some true := by
  intro m
  induction m with
  | zero =>
    intro j hj
    rw [show 0 + 0 + 1 + x = x + 1 by omega]
    unfold louverlaw19_ClosingLate.l0
    rw [if_neg (by omega)]
    simp [louverlaw19_fixed.f, he]
  | succ m ih =>
    intro j hj
    have hlt : j < l.length := by omega
    have hw : wrap64 ((j : Int) + 1) = ((j + 1 : Nat) : Int) := by unfold wrap64; omega
    have hn : louverlaw19_ClosingLate.j3 (m + m + 1 + x + 1) false l (l.length : Int) (j : Int) s0 s1 c e ec e ec = some true := by
      unfold louverlaw19_ClosingLate.j3
      rw [if_neg (by decide), show closing_Door_End.f s0 s1 c e ec = some (e, ec, s0, s1, c, e, ec) from rfl, Option.bind_some, if_neg (by simp), through_f, Option.bind_some, if_pos (by simp [he]), hw]
      exact ih (j + 1) (by omega)
    rw [show m + 1 + (m + 1) + 1 + x = (m + m + 1 + x + 1) + 1 by omega]
    unfold louverlaw19_ClosingLate.l0
    rw [if_pos (by omega), if_pos (by omega), if_pos (by omega), late_close he, late_got he, late_bad he, late_cut he]
    simp only [Option.bind_some, hn, ite_self]
theorem late_one (l : List S39) (hl : l.length ≤ 9223372036854775807) (s0 s1 : Bool) (c e ec : Int) (he : e ≠ 0) (x : Nat) : louverlaw19_ClosingLate.j1 (l.length + l.length + 1 + x + 1) l s0 s1 c e ec = some true := by
  unfold louverlaw19_ClosingLate.j1
  dsimp only
  rw [show closing_Door_End.f s0 s1 c e ec = some (e, ec, s0, s1, c, e, ec) from rfl, Option.bind_some]
  exact late_loop l hl s0 s1 c e ec he x l.length 0 (by omega)
theorem closingLate_true (a0 a1 : Int) (a2 : ByteArray) (l : List S39) (hl : l.length ≤ 9223372036854775807) : louverlaw19_ClosingLate.f (l.length + l.length + 1 + 0 + 1 + 1) a0 a1 a2 l = some true := by
  have hj : ∀ b, louverlaw19_ClosingLate.j0 (l.length + l.length + 1 + 0 + 1 + 1) l b a0 a1 a2 = some true := by
    intro b
    unfold louverlaw19_ClosingLate.j0
    cases b with
    | true => rfl
    | false =>
      dsimp only
      rw [if_neg (by decide), show closing_New.f = some (false, false, 0, 0, 0) from rfl, Option.bind_some]
      simp only [got_first (bears_empty _ a1), bad_first (bears_empty _ a1), cut_first, Option.bind_some, late_one l hl _ _ _ 1 _ (by decide) 0, late_one l hl _ _ _ 2 _ (by decide) 0, late_one l hl _ _ _ 3 _ (by decide) 0, ite_self]
  unfold louverlaw19_ClosingLate.f
  simp only [hj, ite_self]
theorem Pure.ClosingLate : Says.ClosingLate := by
  intro c0 x0 A1 c1 x1 w r0 o0 hc1 r1 o1
  obtain rfl := k39_open r0
  exact louverlaw19_ClosingLate.calls _ _ _ _ A1 c1 x1 true w r1 hc1 (closingLate_true _ _ _ x1 o1.2.2)
end Go.Proofs.Ytbcjifadcljkeaa
