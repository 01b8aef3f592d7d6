/- One thing more happens at a door: what it does, and what stands behind it. -/
import Derived.Test.YtbcjifadcljkeaaWhole
import Derived.Test.YtbcjifadcljkeaaPlays0
import Derived.Test.YtbcjifadcljkeaaPAllx8
namespace Go.Proofs.Ytbcjifadcljkeaa.U
open Go.RowKit Go.Proofs.YtbcjifadcljkeaaW.PrintWords Go.Proofs.YtbcjifadcljkeaaW.PrintLast Go.Proofs.Ytbcjifadcljkeaa.PAll
set_option linter.unusedVariables false
theorem data_f (c : Int) (s : ByteArray) (hs : s.size ≤ 3000) (k : Nat) (hk : 7000 ≤ k) : louverlaw19_data.f k c s = some (dataS c s) := by
  unfold louverlaw19_data.f dataS
  rw [told_f, Option.bind_some, Option.bind_some, reason_f s hs k hk, Option.bind_some]
  by_cases h : toldB c = true
  · rw [if_pos h, if_pos h]
    have := wholeC_size s
    rw [if_pos]
    have h2 : (strOfNums [c / 256 % 256, c % 256]).size = 2 := by
      rw [← bs_length, bs_str _ (two_bytes c)]
      rfl
    omega
  · rw [if_neg h, if_neg h]
/-- The door behind the first j things of a row. -/
def DoorAt (l : List S39) (j : Nat) (s0 s1 : Bool) (c e ec : Int) : Prop := (e, ec) = endP (l.take j) ∧ s0 = decide (0 < j ∧ sendsP l = 0) ∧ (e = 0 → s1 = false ∧ c = 0 ∧ ec = 0)
theorem take_snoc (l : List S39) (j : Nat) (h : j < l.length) : l.take (j + 1) = l.take j ++ [l[j]] := List.take_succ_eq_append_getElem h
theorem end_next (l : List S39) (j : Nat) (h : j < l.length) : endP (l.take (j + 1)) = if (endP (l.take j)).1 = 0 then endP [l[j]] else endP (l.take j) := by rw [take_snoc l j h, endP_snoc]
theorem sends_cases (l : List S39) : sendsP l = 0 ∨ sendsP l = -1 := by
  cases l with
  | nil => exact .inr rfl
  | cons o r => rw [sendsP_cons]; split <;> simp
theorem sends_first (l : List S39) (h : 0 < l.length) : sendsP l = if 0 ≤ (l[0]).f0 ∧ (l[0]).f0 < 3 then 0 else -1 := by
  cases l with
  | nil => simp at h
  | cons o r => rfl
/-- No end yet behind the first thing: it was one that sends. -/
theorem open_sent (l : List S39) (j : Nat) (hj : 0 < j) (hl : j ≤ l.length) (h : (endP (l.take j)).1 = 0) : sendsP l = 0 := by
  cases l with
  | nil => simp at hl; omega
  | cons o r =>
    obtain ⟨j, rfl⟩ : ∃ m, j = m + 1 := ⟨j - 1, by omega⟩
    rw [List.take_succ_cons, endP_cons] at h
    rw [sendsP_cons]
    by_cases h0 : o.f0 = 0
    · rw [if_pos (by omega)]
    · rw [if_neg h0] at h
      by_cases h1 : o.f0 = 1
      · rw [if_pos (by omega)]
      · rw [if_neg h1] at h
        by_cases h2 : o.f0 = 2
        · rw [if_pos (by omega)]
        · rw [if_neg h2] at h
          simp at h
section
variable {l : List S39} {j : Nat} {s0 s1 : Bool} {c e ec : Int}
/-- The three ways of a door: at its end; it has sent; nothing has happened. -/
theorem door_ways (hD : DoorAt l j s0 s1 c e ec) (hj : j ≤ l.length) : e ≠ 0 ∨ (e = 0 ∧ ec = 0 ∧ s0 = true ∧ s1 = false ∧ c = 0 ∧ 0 < j ∧ sendsP l = 0) ∨ (e = 0 ∧ ec = 0 ∧ s0 = false ∧ s1 = false ∧ c = 0 ∧ j = 0) := by
  obtain ⟨h1, h2, h3⟩ := hD
  by_cases he : e = 0
  · obtain ⟨a, b, d⟩ := h3 he
    rcases Nat.eq_zero_or_pos j with hj0 | hj0
    · exact .inr (.inr ⟨he, d, by rw [h2]; simp [hj0], a, b, hj0⟩)
    · have := open_sent l j hj0 hj (by rw [← h1]; exact he)
      exact .inr (.inl ⟨he, d, by rw [h2]; simp [hj0, this], a, b, hj0, this⟩)
  · exact .inl he
/-- At its end: nothing changes, nothing is sent. -/
theorem door_late (hD : DoorAt l j s0 s1 c e ec) (hj : j < l.length) (he : e ≠ 0) : DoorAt l (j + 1) s0 s1 c e ec ∧ (j : Int) ≠ sendsP l := by
  obtain ⟨h1, h2, h3⟩ := hD
  have hj0 : 0 < j := by
    rcases Nat.eq_zero_or_pos j with h | h
    · subst h
      rw [List.take_zero] at h1
      exact absurd (congrArg Prod.fst h1) he
    · exact h
  refine ⟨⟨?_, ?_, h3⟩, by rcases sends_cases l with h | h <;> omega⟩
  · rw [end_next l j hj, ← h1, if_neg he]
  · rw [h2]
    congr 1
    simp [hj0]
theorem end_one (o : S39) : endP [o] = if o.f0 = 0 then (0, 0) else if o.f0 = 1 then (1, o.f1) else if o.f0 = 2 then (2, o.f1) else (3, 1006) := by
  rw [endP_cons]
  rfl
/-- Not at its end: what the next thing ends it with. -/
theorem door_next {e' ec' : Int} {t0 t1 : Bool} {c' : Int} (hD : DoorAt l j s0 s1 c e ec) (hj : j < l.length) (he : e = 0) (hn : (e', ec') = endP [l[j]]) (ht : t0 = decide (sendsP l = 0)) (h3 : e' = 0 → t1 = false ∧ c' = 0 ∧ ec' = 0) : DoorAt l (j + 1) t0 t1 c' e' ec' := by
  obtain ⟨h1, h2, _⟩ := hD
  refine ⟨?_, ?_, h3⟩
  · rw [end_next l j hj, ← h1, if_pos he, hn]
  · rw [ht]
    congr 1
    simp
end
section
variable {l : List S39} {j : Nat} {s0 s1 : Bool} {c e ec : Int} (hD : DoorAt l j s0 s1 c e ec) (hj : j < l.length)
include hD hj
/-- What a call at a door may answer, and what stands behind it: a close that bears d, or nothing. -/
def Way (l : List S39) (j : Nat) (d : List Int) (r : Option (Bool × Int × Bool × Int × List Int × Bool × Bool × Bool × Int × Int × Int)) : Prop :=
  (∃ t0 t1 c' e' ec', r = some (true, 8, false, 0, d, true, t0, t1, c', e', ec') ∧ DoorAt l (j + 1) t0 t1 c' e' ec' ∧ j = 0 ∧ sendsP l = 0) ∨
  (∃ t0 t1 c' e' ec', r = some (false, 0, false, 0, [], false, t0, t1, c', e', ec') ∧ DoorAt l (j + 1) t0 t1 c' e' ec' ∧ (j : Int) ≠ sendsP l)
theorem way_close (ho : (l[j]).f0 = 0) (k : Nat) (hk : 7000 ≤ k) (hs : (l[j]).f2.size ≤ 3000) : Way l j (dataC (l[j]).f1 (l[j]).f2) (closing_Door_Close.f k s0 s1 c e ec (l[j]).f1 (l[j]).f2) := by
  have hn : (0, 0) = endP [l[j]] := by rw [end_one, if_pos ho]
  rcases door_ways hD (by omega) with he | ⟨rfl, rfl, rfl, rfl, rfl, h0, hs0⟩ | ⟨rfl, rfl, rfl, rfl, rfl, rfl⟩
  · obtain ⟨h1, h2⟩ := door_late hD hj he
    exact .inr ⟨_, _, _, _, _, late_close he _ _ _, h1, h2⟩
  · exact .inr ⟨_, _, _, _, _, close_again _ _ _, door_next hD hj rfl hn (by simp [hs0]) (fun _ => ⟨rfl, rfl, rfl⟩), by omega⟩
  · have hs0 : sendsP l = 0 := by rw [sends_first l hj, if_pos (by omega)]
    exact .inl ⟨_, _, _, _, _, close_first (bears _ _ hs k hk), door_next hD hj rfl hn (by simp [hs0]) (fun _ => ⟨rfl, rfl, rfl⟩), rfl, hs0⟩
theorem way_got (ho : (l[j]).f0 = 1) (k : Nat) (hk : 7000 ≤ k) : Way l j (dataC (l[j]).f1 (⟨#[]⟩ : ByteArray)) (closing_Door_Got.f k s0 s1 c e ec (l[j]).f1) := by
  have hn : (1, (l[j]).f1) = endP [l[j]] := by rw [end_one, if_neg (by omega), if_pos ho]
  rcases door_ways hD (by omega) with he | ⟨rfl, rfl, rfl, rfl, rfl, h0, hs0⟩ | ⟨rfl, rfl, rfl, rfl, rfl, rfl⟩
  · obtain ⟨h1, h2⟩ := door_late hD hj he
    exact .inr ⟨_, _, _, _, _, late_got he _ _, h1, h2⟩
  · exact .inr ⟨_, _, _, _, _, got_again _ _, door_next hD hj rfl hn (by simp [hs0]) (fun h => by cases h), by omega⟩
  · have hs0 : sendsP l = 0 := by rw [sends_first l hj, if_pos (by omega)]
    exact .inl ⟨_, _, _, _, _, got_first (bears _ _ (by decide) k hk), door_next hD hj rfl hn (by simp [hs0]) (fun h => by cases h), rfl, hs0⟩
theorem way_bad (ho : (l[j]).f0 = 2) (k : Nat) (hk : 7000 ≤ k) : Way l j (dataC (l[j]).f1 (⟨#[]⟩ : ByteArray)) (closing_Door_Bad.f k s0 s1 c e ec (l[j]).f1) := by
  have hn : (2, (l[j]).f1) = endP [l[j]] := by rw [end_one, if_neg (by omega), if_neg (by omega), if_pos ho]
  rcases door_ways hD (by omega) with he | ⟨rfl, rfl, rfl, rfl, rfl, h0, hs0⟩ | ⟨rfl, rfl, rfl, rfl, rfl, rfl⟩
  · obtain ⟨h1, h2⟩ := door_late hD hj he
    exact .inr ⟨_, _, _, _, _, late_bad he _ _, h1, h2⟩
  · exact .inr ⟨_, _, _, _, _, bad_again _ _, door_next hD hj rfl hn (by simp [hs0]) (fun h => by cases h), by omega⟩
  · have hs0 : sendsP l = 0 := by rw [sends_first l hj, if_pos (by omega)]
    exact .inl ⟨_, _, _, _, _, bad_first (bears _ _ (by decide) k hk), door_next hD hj rfl hn (by simp [hs0]) (fun h => by cases h), rfl, hs0⟩
theorem way_cut (h0 : (l[j]).f0 ≠ 0) (h1 : (l[j]).f0 ≠ 1) (h2 : (l[j]).f0 ≠ 2) : ∃ t0 t1 c' e' ec', closing_Door_Cut.f s0 s1 c e ec = some (t0, t1, c', e', ec') ∧ DoorAt l (j + 1) t0 t1 c' e' ec' ∧ (j : Int) ≠ sendsP l := by
  have hn : (3, 1006) = endP [l[j]] := by rw [end_one, if_neg h0, if_neg h1, if_neg h2]
  rcases door_ways hD (by omega) with he | ⟨rfl, rfl, rfl, rfl, rfl, h0, hs0⟩ | ⟨rfl, rfl, rfl, rfl, rfl, rfl⟩
  · obtain ⟨h1, h2⟩ := door_late hD hj he
    exact ⟨_, _, _, _, _, late_cut he, h1, h2⟩
  · exact ⟨_, _, _, _, _, cut_first true, door_next hD hj rfl hn (by simp [hs0]) (fun h => by cases h), by omega⟩
  · have hs0 : sendsP l = -1 := by rw [sends_first l hj, if_neg (by omega)]
    exact ⟨_, _, _, _, _, cut_first false, door_next hD hj rfl hn (by simp [hs0]) (fun h => by cases h), by omega⟩
end
end Go.Proofs.Ytbcjifadcljkeaa.U
