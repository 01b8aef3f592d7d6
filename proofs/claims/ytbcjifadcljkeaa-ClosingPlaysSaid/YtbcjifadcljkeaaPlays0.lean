/- The document's answers for a row of what happens at a door, in plain words. -/
import Derived.Test.YtbcjifadcljkeaaPAllx6
namespace Go.Proofs.Ytbcjifadcljkeaa.PAll
open Go.RowKit Go.Proofs.YtbcjifadcljkeaaW.PrintWords Go.Proofs.YtbcjifadcljkeaaW.PrintLast Go.Proofs.YtbcjifadcljkeaaW.PrintMore
set_option linter.unusedVariables false
def endP : List S39 → Int × Int
  | [] => (0, 0)
  | o :: r => if o.f0 = 0 then endP r else if o.f0 = 1 then (1, o.f1) else if o.f0 = 2 then (2, o.f1) else (3, 1006)
theorem endP_cons (o : S39) (r : List S39) : endP (o :: r) = if o.f0 = 0 then endP r else if o.f0 = 1 then (1, o.f1) else if o.f0 = 2 then (2, o.f1) else (3, 1006) := rfl
def sendsP : List S39 → Int
  | [] => -1
  | o :: r => if 0 ≤ o.f0 ∧ o.f0 < 3 then 0 else -1
theorem sendsP_cons (o : S39) (r : List S39) : sendsP (o :: r) = if 0 ≤ o.f0 ∧ o.f0 < 3 then 0 else -1 := rfl
theorem rd_nat39 (l : List S39) (i : Nat) (h : i < l.length) : rd_T39 l (i : Int) = l[i] := by simp [rd_T39, h]
theorem end_l (l : List S39) (hl : l.length ≤ 9223372036854775807) (x : Nat) : ∀ (m j : Nat), j + m = l.length → louverref19_End.l0 (m + 1 + x) l (l.length : Int) (j : Int) = some (endP (l.drop j)) := by
  intro m
  induction m with
  | zero =>
    intro j hj
    obtain rfl : j = l.length := by omega
    rw [show 0 + 1 + x = x + 1 by omega]
    unfold louverref19_End.l0
    rw [if_neg (by omega), List.drop_length]
    rfl
  | succ m ih =>
    intro j hj
    have hlt : j < l.length := by omega
    have hw : wrap64 ((j : Int) + 1) = ((j + 1 : Nat) : Int) := by unfold wrap64; omega
    rw [show m + 1 + 1 + x = (m + 1 + x) + 1 by omega]
    unfold louverref19_End.l0
    rw [if_pos (by omega), if_pos (by omega), if_pos (by omega), rd_nat39 l j hlt, hw, ih (j + 1) (by omega), ← List.getElem_cons_drop hlt, endP_cons]
    split
    · rfl
    · split
      · rfl
      · split <;> rfl
theorem end_f (l : List S39) (hl : l.length ≤ 9223372036854775807) (k : Nat) (hk : l.length + 1 ≤ k) : louverref19_End.f k l = some (endP l) := by
  have := end_l l hl (k - l.length - 1) l.length 0 (by omega)
  rw [show l.length + 1 + (k - l.length - 1) = k by omega] at this
  exact this
theorem sends_on (o : S39) (r : List S39) (hl : (o :: r).length ≤ 9223372036854775807) (k : Nat) (hk : (o :: r).length + 10 ≤ k + 1) (h : o.f0 < 0 ∨ 3 ≤ o.f0) : louverref19_Sends.l0 k (o :: r) ((o :: r).length : Int) (wrap64 (0 + 1)) = some (-1) := by
  obtain ⟨k, rfl⟩ : ∃ m, k = m + 1 := ⟨k - 1, by simp at hk; omega⟩
  rw [show wrap64 (0 + 1) = 1 by unfold wrap64; omega]
  unfold louverref19_Sends.l0
  by_cases h1 : (1 : Int) < ((o :: r).length : Int)
  · rw [if_pos h1, if_pos (by omega), if_pos (by omega), show (1 : Int).toNat = 1 from rfl, show (o :: r).take 1 = [o] from rfl, end_f [o] (by simp) k (by simp at hk ⊢; omega), Option.bind_some]
    rw [if_neg]
    unfold endP
    rw [if_neg (by omega), if_neg (by omega), if_neg (by omega)]
    simp
  · rw [if_neg h1]
theorem sends_f (l : List S39) (hl : l.length ≤ 9223372036854775807) (k : Nat) (hk : l.length + 10 ≤ k) : louverref19_Sends.f k l = some (sendsP l) := by
  unfold louverref19_Sends.f
  obtain ⟨k, rfl⟩ : ∃ m, k = m + 1 := ⟨k - 1, by omega⟩
  unfold louverref19_Sends.l0
  cases l with
  | nil => rfl
  | cons o r =>
    have hc : (0 : Int) < ((o :: r).length : Int) := by simp only [List.length_cons]; omega
    rw [if_pos hc, if_pos (Int.le_refl 0), if_pos (Int.le_of_lt hc), show (0 : Int).toNat = 0 from rfl, List.take_zero, end_f [] (by simp) k (by simp at hk ⊢; omega), Option.bind_some, if_pos (show (endP []).1 = 0 from rfl), if_pos hc, show rd_T39 (o :: r) 0 = o from rfl, sendsP_cons]
    by_cases h1 : o.f0 ≥ 0
    · by_cases h2 : o.f0 < 3
      · rw [if_pos h1, if_pos h2, if_pos ⟨h1, h2⟩]
      · have hn : ¬ (0 ≤ o.f0 ∧ o.f0 < 3) := fun h => h2 h.2
        rw [if_pos h1, if_neg h2, if_neg hn]
        exact sends_on o r hl k hk (by omega)
    · have hn : ¬ (0 ≤ o.f0 ∧ o.f0 < 3) := fun h => h1 h.1
      rw [if_neg h1, if_neg hn]
      exact sends_on o r hl k hk (by omega)
/-- What a prefix grown by one ends in. -/
theorem endP_snoc (p : List S39) (o : S39) : endP (p ++ [o]) = if (endP p).1 = 0 then endP [o] else endP p := by
  induction p with
  | nil => rfl
  | cons a r ih =>
    show endP (a :: (r ++ [o])) = _
    unfold endP
    by_cases h0 : a.f0 = 0
    · rw [if_pos h0, if_pos h0, ih]
      rfl
    · rw [if_neg h0, if_neg h0]
      by_cases h1 : a.f0 = 1
      · rw [if_pos h1, if_neg (by simp)]
      · rw [if_neg h1]
        by_cases h2 : a.f0 = 2
        · rw [if_pos h2, if_neg (by simp)]
        · rw [if_neg h2, if_neg (by simp)]
theorem endP_open (p : List S39) (h : (endP p).1 = 0) : endP p = (0, 0) := by
  induction p with
  | nil => rfl
  | cons a r ih =>
    unfold endP at h ⊢
    by_cases h0 : a.f0 = 0
    · rw [if_pos h0] at h ⊢; exact ih h
    · rw [if_neg h0] at h
      by_cases h1 : a.f0 = 1
      · rw [if_pos h1] at h; simp at h
      · rw [if_neg h1] at h
        by_cases h2 : a.f0 = 2
        · rw [if_pos h2] at h; simp at h
        · rw [if_neg h2] at h; simp at h
end Go.Proofs.Ytbcjifadcljkeaa.PAll
