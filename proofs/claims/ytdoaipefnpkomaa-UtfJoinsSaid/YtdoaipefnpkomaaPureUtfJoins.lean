/- Two texts, one behind the other, are a text; a text, and what isn't one, aren't: for all byte slices, by the machine over bytes. -/
import Derived.Test.YtdoaipefnpkomaaPAllx4
import Derived.Test.YtdoaipefnpkomaaUtf1
namespace Go.Proofs.Ytdoaipefnpkomaa.Pure
open Go.RowKit Go.Proofs.Ytdoaipefnpkomaa.PAll Go.Proofs.YtdoaipefnpkomaaW.PrintWords Go.Proofs.YtdoaipefnpkomaaW.PrintLast Go.Proofs.Ytdoaipefnpkomaa.U

theorem UtfJoins : louverlaw15_UtfJoins.Pure := by
  intro l0 l1 _ h0 _ _ h1 _
  refine ⟨l0.length + l1.length + 20, ?_⟩
  unfold louverlaw15_UtfJoins.f
  by_cases a : (l0.length : Int) > 3000
  · rw [if_pos a]
    simp [louverlaw15_UtfJoins.j0, louverlaw15_fixed.f]
  by_cases b : (l1.length : Int) > 3000
  · rw [if_neg a, if_pos b]
    simp [louverlaw15_UtfJoins.j0, louverlaw15_fixed.f]
  rw [if_neg a, if_neg b, valid_f l0 (by omega) _ (by omega)]
  simp only [Option.bind_some]
  cases hv : validC l0 with
  | false => simp [louverlaw15_UtfJoins.j0, louverlaw15_fixed.f]
  | true =>
    simp only [louverlaw15_UtfJoins.j0, louverlaw15_fixed.f, Bool.not_true, Bool.false_eq_true, if_false, if_true, Option.bind_some, List.nil_append]
    rw [if_pos (by simp; omega), if_pos (by omega), valid_f (l0 ++ l1) (by simp; omega) _ (by simp), valid_f l1 (by omega) _ (by omega), validC_append hv]
    simp
end Go.Proofs.Ytdoaipefnpkomaa.Pure
