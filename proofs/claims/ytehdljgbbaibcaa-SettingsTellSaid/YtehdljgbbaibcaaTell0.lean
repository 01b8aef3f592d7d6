/- The list that is told: what it is like, and what it makes; plain Lean, no program in sight. -/
import Derived.Test.YtehdljgbbaibcaaSet2
import Derived.Test.YtehdljgbbaibcaaPAllx7
import Derived.Test.YtehdljgbbaibcaaPAllx1
namespace Go.Proofs.Ytehdljgbbaibcaa.PAll
open Go.RowKit Go.Proofs.YtehdljgbbaibcaaW.PrintWords Go.Proofs.YtehdljgbbaibcaaW.PrintLast Go.Proofs.YtehdljgbbaibcaaW.PrintMore
set_option linter.unusedVariables false
theorem tellL_cons (r : Int × Int × Int) (l : List (Int × Int × Int)) : tellL (r :: l) = tellOne r ++ tellL l := rfl
theorem tell_mem (l : List (Int × Int × Int)) (x : S39) (h : x ∈ tellL l) : ∃ r ∈ l, x = ⟨r.1, r.2.2⟩ ∧ r.2.1 ≠ r.2.2 := by
  unfold tellL at h
  obtain ⟨r, hr, hx⟩ := List.mem_flatMap.1 h
  unfold tellOne at hx
  split at hx
  · simp at hx
  · rename_i hne
    exact ⟨r, hr, by simpa using hx, hne⟩
theorem tell_pw : ∀ l : List (Int × Int × Int), l.Pairwise (fun r s => r.1 < s.1) → (tellL l).Pairwise (fun x y => x.f0 < y.f0)
  | [], _ => List.Pairwise.nil
  | r :: l, h => by
    rw [List.pairwise_cons] at h
    rw [tellL_cons, List.pairwise_append]
    refine ⟨?_, tell_pw l h.2, ?_⟩
    · unfold tellOne
      split <;> simp
    · intro x hx y hy
      obtain ⟨s, hs, rfl, _⟩ := tell_mem l y hy
      have hx2 : x ∈ tellL [r] := by rw [tellL_cons]; simpa [tellL] using hx
      obtain ⟨q, hq, rfl, _⟩ := tell_mem [r] x hx2
      have : q = r := by simpa using hq
      subst this
      exact h.1 s hs
theorem tell_inc (a b : S24) (j : Nat) (h0 : 0 < j) (h : j < (tellL (tellRows a b)).length) : ((tellL (tellRows a b))[j - 1]).f0 < ((tellL (tellRows a b))[j]).f0 := by
  have hp := tell_pw (tellRows a b) (by unfold tellRows; simp)
  exact List.pairwise_iff_getElem.1 hp (j - 1) j (by omega) h (by omega)
theorem tell_seven (a b : S24) : (tellL (tellRows a b)).length ≤ 7 := by
  have := tell_len (tellRows a b) 7
  rw [List.take_of_length_le (by show 7 ≤ 7; omega)] at this
  exact this
theorem bitC_cases (b : Bool) : bitC b = 0 ∨ bitC b = 1 := by cases b <;> simp [bitC]
structure Fine (s : S24) : Prop where
  a0 : 0 ≤ s.f0
  a2 : 0 ≤ s.f2
  a3 : 0 ≤ s.f3
  a4 : 0 ≤ s.f4
  a5 : 0 ≤ s.f5
theorem tell_okay (a b : S24) (hb : Fine b) : ∀ x ∈ tellL (tellRows a b), Okay x := by
  intro x hx
  obtain ⟨r, hr, rfl, _⟩ := tell_mem _ x hx
  obtain ⟨h0, h2, h3, h4, h5⟩ := hb
  have c1 := bitC_cases b.f1
  have c6 := bitC_cases b.f6
  simp only [tellRows, List.mem_cons, List.not_mem_nil, or_false] at hr
  show 0 ≤ r.2.2
  rcases hr with rfl | rfl | rfl | rfl | rfl | rfl | rfl <;> simp only <;> omega
/-- One told setting by itself, applied to nothing: it is a fault, or it changes something, or it is none. -/
theorem tell_alone (a b : S24) (x : S39) (hx : x ∈ tellL (tellRows a b)) : ¬ ((refC z24 [x]).2 = 99 ∧ (refC z24 [x]).1 = z24 ∧ x.f1 ≠ 0) := by
  obtain ⟨r, hr, rfl, _⟩ := tell_mem _ x hx
  rintro ⟨h1, h2, h3⟩
  have c1 := bitC_cases b.f1
  have c6 := bitC_cases b.f6
  simp only [tellRows, List.mem_cons, List.not_mem_nil, or_false] at hr
  rcases hr with rfl | rfl | rfl | rfl | rfl | rfl | rfl
  · simp [refC, applyC, oneC, settings_one.f, z24] at h2
    exact h3 h2
  · rcases c1 with c | c
    · exact h3 c
    · simp [refC, applyC, oneC, settings_one.f, z24, c] at h2
  · simp [refC, applyC, oneC, settings_one.f, z24] at h2
    exact h3 h2
  · by_cases hv : b.f3 ≤ 2147483647
    · simp [refC, applyC, oneC, settings_one.f, z24, hv] at h2
      exact h3 h2
    · simp [refC, applyC, oneC, settings_one.f, z24, hv] at h1
  · by_cases hv : b.f4 ≥ 16384
    · by_cases hw : b.f4 ≤ 16777215
      · simp [refC, applyC, oneC, settings_one.f, z24, hv, hw] at h2
        exact h3 h2
      · simp [refC, applyC, oneC, settings_one.f, z24, hv, hw] at h1
    · simp [refC, applyC, oneC, settings_one.f, z24, hv] at h1
  · simp [refC, applyC, oneC, settings_one.f, z24] at h2
    exact h3 h2
  · rcases c6 with c | c
    · exact h3 c
    · simp [refC, applyC, oneC, settings_one.f, z24, c] at h2
section
variable (x0 : Int) (x1 : Bool) (x2 x3 x4 x5 : Int) (x6 : Bool) (l : List S39)
theorem row1 (y : Int) : applyC ⟨x0, x1, x2, x3, x4, x5, x6⟩ (tellOne (1, x0, y) ++ l) = applyC ⟨y, x1, x2, x3, x4, x5, x6⟩ l := by
  unfold tellOne
  by_cases h : x0 = y
  · subst h; simp
  · simp [h, applyC, oneC, settings_one.f]
theorem row2 (y : Bool) : applyC ⟨x0, x1, x2, x3, x4, x5, x6⟩ (tellOne (2, bitC x1, bitC y) ++ l) = applyC ⟨x0, y, x2, x3, x4, x5, x6⟩ l := by
  unfold tellOne
  cases x1 <;> cases y <;> simp [bitC, applyC, oneC, settings_one.f]
theorem row3 (y : Int) : applyC ⟨x0, x1, x2, x3, x4, x5, x6⟩ (tellOne (3, x2, y) ++ l) = applyC ⟨x0, x1, y, x3, x4, x5, x6⟩ l := by
  unfold tellOne
  by_cases h : x2 = y
  · subst h; simp
  · simp [h, applyC, oneC, settings_one.f]
theorem row4 (y : Int) (hy : y ≤ 2147483647) : applyC ⟨x0, x1, x2, x3, x4, x5, x6⟩ (tellOne (4, x3, y) ++ l) = applyC ⟨x0, x1, x2, y, x4, x5, x6⟩ l := by
  unfold tellOne
  by_cases h : x3 = y
  · subst h; simp
  · simp [h, applyC, oneC, settings_one.f, hy]
theorem row5 (y : Int) (h1 : 16384 ≤ y) (h2 : y ≤ 16777215) : applyC ⟨x0, x1, x2, x3, x4, x5, x6⟩ (tellOne (5, x4, y) ++ l) = applyC ⟨x0, x1, x2, x3, y, x5, x6⟩ l := by
  unfold tellOne
  by_cases h : x4 = y
  · subst h; simp
  · have h1' : y ≥ 16384 := h1
    simp [h, applyC, oneC, settings_one.f, h1', h2]
theorem row6 (y : Int) : applyC ⟨x0, x1, x2, x3, x4, x5, x6⟩ (tellOne (6, x5, y) ++ l) = applyC ⟨x0, x1, x2, x3, x4, y, x6⟩ l := by
  unfold tellOne
  by_cases h : x5 = y
  · subst h; simp
  · simp [h, applyC, oneC, settings_one.f]
theorem row8 (y : Bool) (hy : y = true ∨ x6 = false) : applyC ⟨x0, x1, x2, x3, x4, x5, x6⟩ (tellOne (8, bitC x6, bitC y) ++ l) = applyC ⟨x0, x1, x2, x3, x4, x5, y⟩ l := by
  unfold tellOne
  cases x6 <;> cases y <;> simp [bitC, applyC, oneC, settings_one.f] at hy ⊢
end
theorem tell_makes (a b : S24) (h3 : b.f3 ≤ 2147483647) (h4 : 16384 ≤ b.f4) (h5 : b.f4 ≤ 16777215) (h6 : b.f6 = true ∨ a.f6 = false) : refC a (tellL (tellRows a b)) = (b, 99) := by
  have : applyC a (tellL (tellRows a b)) = .ok b := by
    obtain ⟨x0, x1, x2, x3, x4, x5, x6⟩ := a
    obtain ⟨y0, y1, y2, y3, y4, y5, y6⟩ := b
    simp only at h3 h4 h5 h6
    unfold tellRows
    rw [tellL_cons, row1, tellL_cons, row2, tellL_cons, row3, tellL_cons, row4 _ _ _ _ _ _ _ _ _ h3, tellL_cons, row5 _ _ _ _ _ _ _ _ _ h4 h5, tellL_cons, row6, tellL_cons, row8 _ _ _ _ _ _ _ _ _ h6]
    rfl
  unfold refC
  rw [this]
theorem bitC_inj {x y : Bool} (h : bitC x = bitC y) : x = y := by cases x <;> cases y <;> simp [bitC] at h <;> rfl
theorem tell_none (a b : S24) : tellL (tellRows a b) = [] ↔ a = b := by
  obtain ⟨x0, x1, x2, x3, x4, x5, x6⟩ := a
  obtain ⟨y0, y1, y2, y3, y4, y5, y6⟩ := b
  have one : ∀ r : Int × Int × Int, tellOne r = [] ↔ r.2.1 = r.2.2 := by
    intro r
    unfold tellOne
    split <;> simp [*]
  constructor
  · intro h
    unfold tellRows at h
    simp only [tellL_cons, List.append_eq_nil_iff, one] at h
    obtain ⟨h0, h1, h2, h3, h4, h5, h6, _⟩ := h
    obtain rfl := bitC_inj h1
    obtain rfl := bitC_inj h6
    simp_all
  · intro h
    injection h with h0 h1 h2 h3 h4 h5 h6
    subst h0; subst h1; subst h2; subst h3; subst h4; subst h5; subst h6
    simp [tellRows, tellL, tellOne]
/-- Fields alike, as one truth that no rule looks into. -/
def eq14 (x0 y0 : Int) (x1 y1 : Bool) (x2 y2 : Int) (x3 y3 : Int) (x4 y4 : Int) (x5 y5 : Int) (x6 y6 : Bool) : Bool := x0 == y0 && (x1 == y1 && (x2 == y2 && (x3 == y3 && (x4 == y4 && (x5 == y5 && (x6 == y6))))))
theorem eq14_iff (s t : S24) : eq14 s.f0 t.f0 s.f1 t.f1 s.f2 t.f2 s.f3 t.f3 s.f4 t.f4 s.f5 t.f5 s.f6 t.f6 = true ↔ s = t := by
  obtain ⟨x0, x1, x2, x3, x4, x5, x6⟩ := s
  obtain ⟨y0, y1, y2, y3, y4, y5, y6⟩ := t
  simp [eq14]
theorem eq14_yes {s t : S24} (h : s = t) : eq14 s.f0 t.f0 s.f1 t.f1 s.f2 t.f2 s.f3 t.f3 s.f4 t.f4 s.f5 t.f5 s.f6 t.f6 = true := (eq14_iff s t).2 h
theorem eq14_no {s t : S24} (h : ¬ s = t) : eq14 s.f0 t.f0 s.f1 t.f1 s.f2 t.f2 s.f3 t.f3 s.f4 t.f4 s.f5 t.f5 s.f6 t.f6 = false := by
  rw [Bool.eq_false_iff]
  exact fun e => h ((eq14_iff s t).1 e)
theorem eqB24 (d : Nat) (w : World) (x0 y0 : Int) (x1 y1 : Bool) (x2 y2 : Int) (x3 y3 : Int) (x4 y4 : Int) (x5 y5 : Int) (x6 y6 : Bool) :
    (Op.equalIn (d + 2) 24 (.agg #[.int .u32 x0, .bool x1, .int .u32 x2, .int .u32 x3, .int .u32 x4, .int .u32 x5, .bool x6]) (.agg #[.int .u32 y0, .bool y1, .int .u32 y2, .int .u32 y3, .int .u32 y4, .int .u32 y5, .bool y6])).run Try.prog w = .ok (eq14 x0 y0 x1 y1 x2 y2 x3 y3 x4 y4 x5 y5 x6 y6) w := eqA24 d w x0 y0 x1 y1 x2 y2 x3 y3 x4 y4 x5 y5 x6 y6
end Go.Proofs.Ytehdljgbbaibcaa.PAll
