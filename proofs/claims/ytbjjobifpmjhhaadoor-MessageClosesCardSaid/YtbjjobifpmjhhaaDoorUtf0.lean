/- The checker of texts as a machine over bytes: plain Lean, no program in sight. -/
namespace Go.Proofs.YtbjjobifpmjhhaaDoor.U
set_option linter.unusedVariables false

/-- A state: how many bytes are to come, and between which the next one must be. -/
abbrev St := Int × Int × Int
def s0 : St := (0, 128, 191)
def firstC (b : Int) : Bool × St :=
  if b < 128 then (true, 0, 128, 191)
  else if 194 ≤ b ∧ b ≤ 223 then (true, 1, 128, 191)
  else if b = 224 then (true, 2, 160, 191)
  else if b = 237 then (true, 2, 128, 159)
  else if 225 ≤ b ∧ b ≤ 239 then (true, 2, 128, 191)
  else if b = 240 then (true, 3, 144, 191)
  else if b = 244 then (true, 3, 128, 143)
  else if 241 ≤ b ∧ b ≤ 243 then (true, 3, 128, 191)
  else (false, 0, 128, 191)
def oneC (s : St) (b : Int) : Bool × St :=
  if s.1 = 0 then firstC b else if b < s.2.1 ∨ s.2.2 < b then (false, s) else (true, s.1 - 1, 128, 191)
/-- How many bytes are taken, the state behind them, is it bad. -/
def feedC (s : St) : List Int → Nat × St × Bool
  | [] => (0, s, false)
  | b :: r => if (oneC s b).1 then ((feedC (oneC s b).2 r).1 + 1, (feedC (oneC s b).2 r).2) else (0, (oneC s b).2, true)
def validC (l : List Int) : Bool := !(feedC s0 l).2.2 && (feedC s0 l).2.1.1 == 0
def okS (s : St) : Prop := 0 ≤ s.1 ∧ s.1 ≤ 3

theorem firstC_ok (b : Int) : okS (firstC b).2 := by
  unfold firstC okS
  repeat' split
  all_goals (constructor <;> decide)
theorem oneC_ok {s : St} (h : okS s) (b : Int) : okS (oneC s b).2 := by
  unfold oneC
  split
  · exact firstC_ok b
  · split
    · exact h
    · unfold okS at *
      simp only
      omega
theorem feedC_ok {s : St} (h : okS s) (l : List Int) : okS (feedC s l).2.1 := by
  induction l generalizing s with
  | nil => exact h
  | cons b r ih =>
    unfold feedC
    split
    · exact ih (oneC_ok h b)
    · exact oneC_ok h b
theorem feedC_le (s : St) (l : List Int) : (feedC s l).1 ≤ l.length := by
  induction l generalizing s with
  | nil => exact Nat.le_refl _
  | cons b r ih =>
    unfold feedC
    split
    · simpa using ih _
    · exact Nat.zero_le _
/-- All is taken just if it isn't bad. -/
theorem feedC_all (s : St) (l : List Int) : (feedC s l).2.2 = false ↔ (feedC s l).1 = l.length := by
  induction l generalizing s with
  | nil => simp [feedC]
  | cons b r ih =>
    unfold feedC
    split
    · simpa using ih _
    · simp
theorem feedC_good {s : St} {l : List Int} (h : (feedC s l).2.2 = false) : (feedC s l).1 = l.length := (feedC_all s l).1 h
theorem feedC_pos {s : St} {b : Int} (h : (oneC s b).1 = true) (r : List Int) : feedC s (b :: r) = ((feedC (oneC s b).2 r).1 + 1, (feedC (oneC s b).2 r).2) := by
  rw [feedC, if_pos h]
theorem feedC_neg {s : St} {b : Int} (h : ¬ (oneC s b).1 = true) (r : List Int) : feedC s (b :: r) = (0, (oneC s b).2, true) := by
  rw [feedC, if_neg h]
theorem feedC_append (s : St) (a b : List Int) : feedC s (a ++ b) = if (feedC s a).2.2 then feedC s a else ((feedC s a).1 + (feedC (feedC s a).2.1 b).1, (feedC (feedC s a).2.1 b).2) := by
  induction a generalizing s with
  | nil => simp [feedC]
  | cons x r ih =>
    rw [List.cons_append]
    by_cases h : (oneC s x).1 = true
    · rw [feedC_pos h, feedC_pos h, ih]
      by_cases h2 : (feedC (oneC s x).2 r).2.2 = true
      · rw [if_pos h2, if_pos h2]
      · rw [if_neg h2, if_neg h2]
        simp only [Nat.add_right_comm]
    · rw [feedC_neg h, feedC_neg h, if_pos rfl]
theorem feedC_append_good {s : St} {a : List Int} (h : (feedC s a).2.2 = false) (b : List Int) : feedC s (a ++ b) = (a.length + (feedC (feedC s a).2.1 b).1, (feedC (feedC s a).2.1 b).2) := by
  rw [feedC_append, if_neg (by simp [h]), feedC_good h]
theorem feedC_append_bad {s : St} {a : List Int} (h : (feedC s a).2.2 = true) (b : List Int) : feedC s (a ++ b) = feedC s a := by
  rw [feedC_append, if_pos h]
theorem feedC_left {s : St} {a b : List Int} (h : (feedC s (a ++ b)).2.2 = false) : (feedC s a).2.2 = false := by
  cases h2 : (feedC s a).2.2 with
  | false => rfl
  | true => rw [feedC_append_bad h2, h2] at h; exact h
/-- A state with nothing to come takes bytes as the first one does. -/
theorem oneC_zero {s : St} (h : s.1 = 0) (b : Int) : oneC s b = oneC s0 b := by
  unfold oneC
  rw [if_pos h, if_pos (show s0.1 = 0 from rfl)]
theorem feedC_zero {s : St} (h : s.1 = 0) {l : List Int} (hl : l ≠ []) : feedC s l = feedC s0 l := by
  cases l with
  | nil => exact absurd rfl hl
  | cons b r => unfold feedC; rw [oneC_zero h]
theorem validC_iff (l : List Int) : validC l = true ↔ (feedC s0 l).2.2 = false ∧ (feedC s0 l).2.1.1 = 0 := by
  unfold validC; simp
theorem validC_append {a : List Int} (h : validC a = true) (b : List Int) : validC (a ++ b) = validC b := by
  obtain ⟨h1, h2⟩ := (validC_iff a).1 h
  cases b with
  | nil => rw [List.append_nil, h]; rfl
  | cons x r =>
    have e := feedC_append_good h1 (x :: r)
    rw [feedC_zero h2 (by simp)] at e
    unfold validC
    rw [e]
end Go.Proofs.YtbjjobifpmjhhaaDoor.U
