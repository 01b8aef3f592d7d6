/- The printed functions of the checker tell what the machine over bytes tells. -/
import Derived.Test.YtbjjobifpmjhhaaDoorPAllx2
import Derived.Test.YtbjjobifpmjhhaaDoorUtf0
namespace Go.Proofs.YtbjjobifpmjhhaaDoor.U
open Go.RowKit Go.Proofs.YtbjjobifpmjhhaaDoorW.PrintWords Go.Proofs.YtbjjobifpmjhhaaDoorW.PrintLast Go.Proofs.YtbjjobifpmjhhaaDoor.PAll
set_option linter.unusedVariables false

theorem first_f (k : Nat) (hk : 4 ≤ k) (s1 s2 b : Int) : utf_Checker_first.f k 0 s1 s2 false b = some ((firstC b).1, (firstC b).2.1, (firstC b).2.2.1, (firstC b).2.2.2, false) := by
  obtain ⟨n, rfl⟩ : ∃ m, k = m + 4 := ⟨k - 4, by omega⟩
  unfold firstC
  simp only [utf_Checker_first.f, utf_Checker_first.j0, utf_Checker_first.j1, utf_Checker_first.j2, decide_eq_true_eq, Bool.false_eq_true, if_false]
  have hc : b < 128 ∨ (128 ≤ b ∧ b < 194) ∨ (194 ≤ b ∧ b ≤ 223) ∨ b = 224 ∨ (225 ≤ b ∧ b ≤ 236) ∨ b = 237 ∨ (238 ≤ b ∧ b ≤ 239) ∨ b = 240 ∨ (241 ≤ b ∧ b ≤ 243) ∨ b = 244 ∨ 244 < b := by omega
  rcases hc with h | h | h | h | h | h | h | h | h | h | h
  all_goals simp (disch := omega) only [if_pos, if_neg]
theorem one_f (k : Nat) (hk : 4 ≤ k) (s : St) (hs : okS s) (b : Int) : utf_Checker_one.f k s.1 s.2.1 s.2.2 false b = some ((oneC s b).1, (oneC s b).2.1, (oneC s b).2.2.1, (oneC s b).2.2.2, false) := by
  obtain ⟨m, lo, hi⟩ := s
  unfold utf_Checker_one.f oneC
  by_cases h : m = 0
  · subst h
    simp only [if_true, first_f k hk, Option.bind_some]
  · simp only [if_neg h]
    by_cases h1 : b < lo
    · rw [if_pos h1, if_pos (Or.inl h1)]
    · rw [if_neg h1]
      by_cases h2 : b > hi
      · rw [if_pos h2, if_pos (Or.inr h2)]
      · rw [if_neg h2, if_neg (by omega)]
        unfold okS at hs
        simp only at hs
        have e : wrap64 (m - 1) = m - 1 := by unfold wrap64; omega
        rw [e]
theorem feed_l0 (l : List Int) (hl : l.length ≤ 140737488351232) (d : Nat) : ∀ (i : Nat) (k : Nat) (s : St), okS s → l.length - i = d → i ≤ l.length → d + 5 ≤ k →
    utf_Checker_Feed.l0 k l l (l.length : Int) (i : Int) s.1 s.2.1 s.2.2 false =
      some (((i + (feedC s (l.drop i)).1 : Nat) : Int), (feedC s (l.drop i)).2.1.1, (feedC s (l.drop i)).2.1.2.1, (feedC s (l.drop i)).2.1.2.2, (feedC s (l.drop i)).2.2) := by
  induction d with
  | zero =>
    intro i k s hs hd hi hk
    obtain ⟨k, rfl⟩ : ∃ m, k = m + 1 := ⟨k - 1, by omega⟩
    have hil : i = l.length := by omega
    subst hil
    simp only [utf_Checker_Feed.l0]
    rw [if_neg (by omega), List.drop_length]
    simp [feedC]
  | succ d ih =>
    intro i k s hs hd hi hk
    obtain ⟨k, rfl⟩ : ∃ m, k = m + 1 := ⟨k - 1, by omega⟩
    have hlt : i < l.length := by omega
    have e : rd l (i : Int) = l[i] := by simp [rd, hlt]
    have ew : wrap64 ((i : Int) + 1) = ((i + 1 : Nat) : Int) := by unfold wrap64; omega
    have ed : l.drop i = l[i] :: l.drop (i + 1) := (List.getElem_cons_drop hlt).symm
    simp only [utf_Checker_Feed.l0]
    rw [if_pos (by omega), if_pos (by omega), if_pos (by omega), e, one_f k (by omega) s hs, ew, ed]
    simp only [Option.bind_some]
    by_cases h : (oneC s l[i]).1 = true
    · rw [if_pos h, feedC_pos h, ih (i + 1) k (oneC s l[i]).2 (oneC_ok hs _) (by omega) (by omega) (by omega)]
      simp only [Nat.add_assoc, Nat.add_comm 1]
    · rw [if_neg h, feedC_neg h]
      rfl
theorem feed_f (l : List Int) (hl : l.length ≤ 140737488351232) (k : Nat) (hk : l.length + 5 ≤ k) (s : St) (hs : okS s) :
    utf_Checker_Feed.f k s.1 s.2.1 s.2.2 false l = some (((feedC s l).1 : Int), (feedC s l).2.1.1, (feedC s l).2.1.2.1, (feedC s l).2.1.2.2, (feedC s l).2.2) := by
  unfold utf_Checker_Feed.f utf_Checker_Bad.f
  simp only [Option.bind_some, Bool.false_eq_true, if_false]
  have := feed_l0 l hl l.length 0 k s hs (by omega) (by omega) (by omega)
  simpa using this
theorem feed_bad (l : List Int) (k : Nat) (m lo hi : Int) : utf_Checker_Feed.f k m lo hi true l = some (0, m, lo, hi, true) := by
  unfold utf_Checker_Feed.f utf_Checker_Bad.f
  simp
theorem whole_f (m lo hi : Int) (bad : Bool) : utf_Checker_Whole.f m lo hi bad = some (!bad && m == 0, m, lo, hi, bad) := by
  unfold utf_Checker_Whole.f utf_Checker_Bad.f
  cases bad <;> simp
theorem okS0 : okS s0 := by unfold okS s0; decide
theorem valid_f (l : List Int) (hl : l.length ≤ 140737488351232) (k : Nat) (hk : l.length + 5 ≤ k) : utf_Valid.f k l = some (validC l) := by
  unfold utf_Valid.f utf_New.f
  simp only [Option.bind_some]
  have := feed_f l hl k hk s0 okS0
  rw [show utf_Checker_Feed.f k 0 128 191 false l = utf_Checker_Feed.f k s0.1 s0.2.1 s0.2.2 false l from rfl, this]
  simp only [Option.bind_some, whole_f]
  rfl
end Go.Proofs.YtbjjobifpmjhhaaDoor.U
