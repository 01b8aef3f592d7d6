import Derived.Test.YtehdljgbbaibcaaPAllx3
import Derived.Test.YtehdljgbbaibcaaPAllx4
import Derived.Test.YtehdljgbbaibcaaPAllx5
namespace Go.Proofs.Ytehdljgbbaibcaa.PAll
open Go.RowKit Go.Proofs.YtehdljgbbaibcaaW.PrintWords Go.Proofs.YtehdljgbbaibcaaW.PrintLast Go.Proofs.YtehdljgbbaibcaaW.PrintMore
set_option linter.unusedVariables false
/-- A setting that a program reads: its numbers are no less than zero. -/
def Okay (x : S39) : Prop := 0 ≤ x.f1
theorem oneC_eq (s : S24) (x : S39) : settings_one.f s.f0 s.f1 s.f2 s.f3 s.f4 s.f5 s.f6 x.f0 x.f1 = some ((oneC s x).1, (oneC s x).2.1, (oneC s x).2.2.f0, (oneC s x).2.2.f1, (oneC s x).2.2.f2, (oneC s x).2.2.f3, (oneC s x).2.2.f4, (oneC s x).2.2.f5, (oneC s x).2.2.f6) := one_some s x
theorem ref_wrong (k : Nat) (s : S24) (x : S39) (h : Okay x) : louverref09_wrong.f (k + 1) s.f0 s.f1 s.f2 s.f3 s.f4 s.f5 s.f6 x.f0 x.f1 = some (if (oneC s x).2.1 then 99 else (oneC s x).1) := by
  obtain ⟨s0, s1, s2, s3, s4, s5, s6⟩ := s
  obtain ⟨i, v⟩ := x
  simp only [Okay] at h
  unfold louverref09_wrong.f louverref09_wrong.j0 oneC settings_one.f
  simp only
  by_cases h1 : i = 1
  · subst h1; simp
  by_cases h2 : i = 2
  · subst h2; by_cases hv : v ≤ 1 <;> simp [hv] <;> omega
  by_cases h3 : i = 3
  · subst h3; simp
  by_cases h4 : i = 4
  · subst h4; by_cases hv : v ≤ 2147483647 <;> simp [hv] <;> omega
  by_cases h5 : i = 5
  · subst h5
    by_cases hv : v ≥ 16384
    · have a : ¬ v < 16384 := by omega
      by_cases hw : v ≤ 16777215
      · have b : ¬ v > 16777215 := by omega
        simp [hv, hw, a, b]
      · have b : v > 16777215 := by omega
        simp [hv, hw, a, b]
    · have a : v < 16384 := by omega
      simp [hv, a]
  by_cases h6 : i = 6
  · subst h6; simp
  by_cases h8 : i = 8
  · subst h8
    by_cases hv : v ≤ 1
    · have a : ¬ v > 1 := by omega
      by_cases hw : v = 1
      · subst hw; simp
      · have b : v = 0 := by omega
        subst b
        cases s6 <;> simp
    · have a : v > 1 := by omega
      simp [hv, a]
  simp [h1, h2, h3, h4, h5, h6, h8]
theorem ref_with (s : S24) (x : S39) : louverref09_with.f s.f0 s.f1 s.f2 s.f3 s.f4 s.f5 s.f6 x.f0 x.f1 = some ((oneC s x).2.2.f0, (oneC s x).2.2.f1, (oneC s x).2.2.f2, (oneC s x).2.2.f3, (oneC s x).2.2.f4, (oneC s x).2.2.f5, (oneC s x).2.2.f6) := by
  obtain ⟨s0, s1, s2, s3, s4, s5, s6⟩ := s
  obtain ⟨i, v⟩ := x
  unfold louverref09_with.f oneC settings_one.f
  simp only
  by_cases h1 : i = 1
  · subst h1; simp
  by_cases h2 : i = 2
  · subst h2; simp
  by_cases h3 : i = 3
  · subst h3; simp
  by_cases h4 : i = 4
  · subst h4; simp
  by_cases h5 : i = 5
  · subst h5; by_cases hv : v ≥ 16384 <;> simp [hv]
  by_cases h6 : i = 6
  · subst h6; simp
  by_cases h8 : i = 8
  · subst h8
    by_cases hv : v ≤ 1
    · by_cases hw : v = 1 <;> simp [hv, hw]
    · simp [hv]
  simp [h1, h2, h3, h4, h5, h6, h8]
theorem oneC_code (s : S24) (x : S39) (h : (oneC s x).2.1 = false) : (oneC s x).1 = 1 ∨ (oneC s x).1 = 3 := by
  obtain ⟨s0, s1, s2, s3, s4, s5, s6⟩ := s
  obtain ⟨i, v⟩ := x
  revert h
  unfold oneC settings_one.f
  simp only
  by_cases h1 : i = 1
  · subst h1; simp
  by_cases h2 : i = 2
  · subst h2; simp
  by_cases h3 : i = 3
  · subst h3; simp
  by_cases h4 : i = 4
  · subst h4; simp
  by_cases h5 : i = 5
  · subst h5; by_cases hv : v ≥ 16384 <;> simp [hv]
  by_cases h6 : i = 6
  · subst h6; simp
  by_cases h8 : i = 8
  · subst h8
    by_cases hv : v ≤ 1
    · by_cases hw : v = 1 <;> simp [hv, hw]
    · simp [hv]
  simp [h1, h2, h3, h4, h5, h6, h8]
/-- What the document's Apply answers. -/
def refC (s : S24) (l : List S39) : S24 × Int :=
  match applyC s l with
  | .ok t => (t, 99)
  | .error c => (s, c)
theorem applyC_code : ∀ (l : List S39) (s : S24) (c : Int), applyC s l = .error c → c = 1 ∨ c = 3
  | [], s, c, h => by simp [applyC] at h
  | x :: r, s, c, h => by
    unfold applyC at h
    by_cases ho : (oneC s x).2.1 = true
    · rw [if_pos ho] at h
      exact applyC_code r _ c h
    · rw [if_neg ho] at h
      have := oneC_code s x (by simpa using ho)
      injection h with h
      rw [← h]; exact this
theorem ref_loop (l : List S39) (s0 : S24) (hl : l.length ≤ 9223372036854775807) (ho : ∀ x ∈ l, Okay x) : ∀ (m j : Nat) (t : S24), j + m = l.length → louverref09_Apply.l0 (m + 2) l (l.length : Int) (j : Int) s0.f0 s0.f1 s0.f2 s0.f3 s0.f4 s0.f5 s0.f6 t.f0 t.f1 t.f2 t.f3 t.f4 t.f5 t.f6 =
    some (match applyC t (l.drop j) with
    | .ok t => (t.f0, t.f1, t.f2, t.f3, t.f4, t.f5, t.f6, 99)
    | .error c => (s0.f0, s0.f1, s0.f2, s0.f3, s0.f4, s0.f5, s0.f6, c)) := by
  intro m
  induction m with
  | zero =>
    intro j t hj
    obtain rfl : j = l.length := by omega
    unfold louverref09_Apply.l0
    rw [if_neg (by omega), List.drop_length]
    rfl
  | succ m ih =>
    intro j t hj
    have hlt : j < l.length := by omega
    have hx : rd_T39 l (j : Int) = l[j] := by simp [rd_T39, hlt]
    unfold louverref09_Apply.l0
    rw [if_pos (by omega), if_pos (by omega), if_pos (by omega), hx, ref_wrong (m + 1) t l[j] (ho _ (List.getElem_mem hlt)), Option.bind_some, ← List.getElem_cons_drop hlt]
    generalize ho' : oneC t l[j] = o
    unfold applyC
    rw [ho']
    obtain ⟨c, ok, t'⟩ := o
    cases ok with
    | true =>
      have hw : wrap64 ((j : Int) + 1) = ((j + 1 : Nat) : Int) := by
        unfold wrap64; omega
      simp only [if_true]
      rw [ref_with, ho', Option.bind_some, hw]
      exact ih (j + 1) t' (by omega)
    | false =>
      have hc := oneC_code t l[j] (by rw [ho'])
      rw [ho'] at hc
      have h99 : ¬ c = 99 := by rcases hc with h | h <;> simp only at h <;> omega
      simp [h99]
theorem ref_apply (s : S24) (l : List S39) (hl : l.length ≤ 9223372036854775807) (ho : ∀ x ∈ l, Okay x) : louverref09_Apply.f (l.length + 2) s.f0 s.f1 s.f2 s.f3 s.f4 s.f5 s.f6 l = some ((refC s l).1.f0, (refC s l).1.f1, (refC s l).1.f2, (refC s l).1.f3, (refC s l).1.f4, (refC s l).1.f5, (refC s l).1.f6, (refC s l).2) := by
  unfold louverref09_Apply.f
  have := ref_loop l s hl ho l.length 0 s (by omega)
  simp only [Int.natCast_zero, List.drop_zero] at this
  rw [show (0 : Int) = ((0 : Nat) : Int) from rfl] at *
  rw [this]
  unfold refC
  cases applyC s l <;> rfl
end Go.Proofs.Ytehdljgbbaibcaa.PAll
