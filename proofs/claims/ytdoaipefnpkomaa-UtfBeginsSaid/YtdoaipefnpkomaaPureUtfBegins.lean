/- No beginning of a text is bad; it is whole just if it is one: for all byte slices and places, by the machine over bytes. -/
import Derived.Test.YtdoaipefnpkomaaPAllx5
import Derived.Test.YtdoaipefnpkomaaUtf1
namespace Go.Proofs.Ytdoaipefnpkomaa.Pure
open Go.RowKit Go.Proofs.Ytdoaipefnpkomaa.PAll Go.Proofs.YtdoaipefnpkomaaW.PrintWords Go.Proofs.YtdoaipefnpkomaaW.PrintLast Go.Proofs.Ytdoaipefnpkomaa.U

theorem place (l : List Int) (a : Int) (h : l.length ≤ 3000) (h0 : 0 ≤ a) (h1 : a ≤ 65535) : ∃ n : Nat, n ≤ l.length ∧ Int.tmod (wrap64 a) (wrap64 ((l.length : Int) + 1)) = (n : Int) := by
  have e1 : wrap64 a = a := by unfold wrap64; omega
  have e2 : wrap64 ((l.length : Int) + 1) = (l.length : Int) + 1 := by unfold wrap64; omega
  refine ⟨(a % ((l.length : Int) + 1)).toNat, ?_, ?_⟩
  · have := Int.emod_lt_of_pos a (show (0 : Int) < (l.length : Int) + 1 by omega)
    omega
  · rw [e1, e2, Int.tmod_eq_emod_of_nonneg h0, Int.toNat_of_nonneg (Int.emod_nonneg _ (by omega))]
theorem UtfBegins : louverlaw15_UtfBegins.Pure := by
  intro l0 a1 _ h0 _ ha
  refine ⟨l0.length + 20, ?_⟩
  unfold louverlaw15_UtfBegins.f
  by_cases a : (l0.length : Int) > 3000
  · rw [if_pos a]
    simp [louverlaw15_UtfBegins.j0, louverlaw15_fixed.f]
  rw [if_neg a, valid_f l0 (by omega) _ (by omega)]
  simp only [Option.bind_some]
  cases hv : validC l0 with
  | false => simp [louverlaw15_UtfBegins.j0, louverlaw15_fixed.f]
  | true =>
    have hb : 0 ≤ a1 ∧ a1 ≤ 65535 := by simpa [Lit.wf, IntKind.min, IntKind.max, IntKind.signed, IntKind.bits] using ha
    obtain ⟨n, hn, e⟩ := place l0 a1 (by omega) hb.1 hb.2
    obtain ⟨g1, g2⟩ := (validC_iff l0).1 hv
    have split := List.take_append_drop n l0
    have hgt : (feedC s0 (l0.take n)).2.2 = false := by rw [← split] at g1; exact feedC_left g1
    have hap := feedC_append_good hgt (l0.drop n)
    rw [split] at hap
    have htl : (l0.take n).length = n := by simp; omega
    have hdl : (l0.drop n).length = l0.length - n := by simp
    have hgd : (feedC (feedC s0 (l0.take n)).2.1 (l0.drop n)).2.2 = false := by rw [hap] at g1; exact g1
    have hwd : (feedC (feedC s0 (l0.take n)).2.1 (l0.drop n)).2.1.1 = 0 := by rw [hap] at g2; exact g2
    have e0 : ¬ wrap64 ((l0.length : Int) + 1) = 0 := by unfold wrap64; omega
    have f1 := feed_f (l0.take n) (by omega) (l0.length + 19) (by omega) s0 okS0
    have f2 := feed_f (l0.drop n) (by omega) (l0.length + 18) (by omega) (feedC s0 (l0.take n)).2.1 (feedC_ok okS0 _)
    have v1 := valid_f (l0.take n) (by omega) (l0.length + 19) (by omega)
    have ew : wrap64 ((l0.length : Int) - (n : Int)) = ((l0.length - n : Nat) : Int) := by unfold wrap64; omega
    simp only [louverlaw15_UtfBegins.j0, louverlaw15_fixed.f, utf_New.f, Bool.not_true, Bool.false_eq_true, if_false, Option.bind_some, e, if_neg e0, Int.toNat_natCast]
    rw [if_pos (by omega), if_pos (by omega), show utf_Checker_Feed.f (l0.length + 19) 0 128 191 false (l0.take n) = _ from f1]
    simp only [Option.bind_some]
    rw [if_pos (by rw [feedC_good hgt, htl])]
    simp only [utf_Checker_Bad.f, Option.bind_some, hgt, Bool.false_eq_true, if_false, whole_f, v1]
    have ev : (!false && (feedC s0 (l0.take n)).2.1.1 == 0) = validC (l0.take n) := by unfold validC; rw [hgt]
    rw [ev]
    simp only [bne_self_eq_false, louverlaw15_UtfBegins.j1, Bool.false_eq_true, if_false, louverlaw15_fixed.f, Option.bind_some, if_true, Int.toNat_natCast]
    rw [if_pos (by omega), if_pos (by omega), f2]
    simp only [Option.bind_some, ew]
    rw [if_pos (by rw [feedC_good hgd, hdl]), whole_f]
    simp only [Option.bind_some, hgd, hwd]
    rfl
end Go.Proofs.Ytdoaipefnpkomaa.Pure
