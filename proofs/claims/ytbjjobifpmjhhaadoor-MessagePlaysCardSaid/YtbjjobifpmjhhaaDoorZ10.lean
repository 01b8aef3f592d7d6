/- What the law's row rests on, part 10. -/
import Derived.Test.YtbjjobifpmjhhaaDoorZ9
/- The document's letters (candidates, written out) against the machine over bytes: plain Lean. -/
namespace Go.Proofs.YtbjjobifpmjhhaaDoor.U
set_option linter.unusedVariables false

def sizeC (b : Int) : Nat := if b < 128 then 1 else if 192 ≤ b ∧ b < 224 then 2 else if 224 ≤ b ∧ b < 240 then 3 else if 240 ≤ b ∧ b < 248 then 4 else 0
def writeC (c : Int) : List Int :=
  if c < 128 then [c] else if c < 2048 then [192 + c / 64, 128 + c % 64] else if c < 65536 then [224 + c / 4096, 128 + c / 64 % 64, 128 + c % 64]
  else [240 + c / 262144, 128 + c / 4096 % 64, 128 + c / 64 % 64, 128 + c % 64]
def testC (w : List Int) (n : Nat) (lo hi c : Int) : Bool :=
  decide (lo ≤ c) && (decide (c ≤ hi) && (decide (c < 1114112) && ((decide (c < 55296) || decide (57343 < c)) && (decide ((writeC c).length = n) && decide ((writeC c).take w.length = w)))))
def mnC (a b : Int) : Int := if b < a then b else a
def mxC (a b : Int) : Int := if a < b then b else a
def candsC (lo hi : Int) : List Int := [lo, hi, mnC hi 1114111, mxC lo 2048, mxC lo 65536, mxC lo 128, mnC hi 55295, mxC lo 57344]
def spreadC : Nat → List Int → Int → Int → Option (Int × Int)
  | 0, _, lo, hi => some (lo, hi)
  | n + 1, [], lo, hi => spreadC n [] (64 * lo) (64 * hi + 63)
  | n + 1, b :: r, lo, hi => if b < 128 ∨ 191 < b then none else spreadC n r (64 * lo + b - 128) (64 * hi + b - 128)
def baseC (b : Int) : Int := if sizeC b = 2 then b - 192 else if sizeC b = 3 then b - 224 else if sizeC b = 4 then b - 240 else b
def anyC (w : List Int) (n : Nat) : Option (Int × Int) → Bool
  | none => false
  | some p => (candsC p.1 p.2).any (testC w n p.1 p.2)
def beginsC : List Int → Bool
  | [] => false
  | b :: r => if sizeC b < r.length + 1 then false else anyC (b :: r) (sizeC b) (spreadC (sizeC b - 1) r (baseC b) (baseC b))

theorem test_iff (w : List Int) (n : Nat) (lo hi c : Int) : testC w n lo hi c = true ↔ lo ≤ c ∧ c ≤ hi ∧ c < 1114112 ∧ (c < 55296 ∨ 57343 < c) ∧ (writeC c).length = n ∧ (writeC c).take w.length = w := by
  simp [testC]
theorem len1 (c : Int) : (writeC c).length = 1 ↔ c < 128 := by
  unfold writeC; repeat' split
  all_goals simp; try omega
theorem len2 (c : Int) : (writeC c).length = 2 ↔ 128 ≤ c ∧ c < 2048 := by
  unfold writeC; repeat' split
  all_goals simp; try omega
theorem len3 (c : Int) : (writeC c).length = 3 ↔ 2048 ≤ c ∧ c < 65536 := by
  unfold writeC; repeat' split
  all_goals simp; try omega
theorem len4 (c : Int) : (writeC c).length = 4 ↔ 65536 ≤ c := by
  unfold writeC; repeat' split
  all_goals simp; try omega
theorem write2 {c : Int} (h : 128 ≤ c ∧ c < 2048) : writeC c = [192 + c / 64, 128 + c % 64] := by
  unfold writeC; rw [if_neg (by omega), if_pos (by omega)]
theorem write3 {c : Int} (h : 2048 ≤ c ∧ c < 65536) : writeC c = [224 + c / 4096, 128 + c / 64 % 64, 128 + c % 64] := by
  unfold writeC; rw [if_neg (by omega), if_neg (by omega), if_pos (by omega)]
theorem write4 {c : Int} (h : 65536 ≤ c) : writeC c = [240 + c / 262144, 128 + c / 4096 % 64, 128 + c / 64 % 64, 128 + c % 64] := by
  unfold writeC; rw [if_neg (by omega), if_neg (by omega), if_neg (by omega)]
theorem any2 {w : List Int} {lo hi : Int} (hpre : ∀ c, lo ≤ c → c ≤ hi → 128 ≤ c → c < 2048 → (writeC c).take w.length = w) (h0 : 0 ≤ lo) (hl : lo ≤ hi) :
    (candsC lo hi).any (testC w 2 lo hi) = true ↔ lo ≤ 2047 ∧ 128 ≤ hi := by
  rw [List.any_eq_true]
  constructor
  · rintro ⟨c, _, h⟩
    obtain ⟨a1, a2, _, _, a5, _⟩ := (test_iff ..).1 h
    rw [len2] at a5
    omega
  · rintro ⟨a, b⟩
    refine ⟨mxC lo 128, by simp [candsC], (test_iff ..).2 ?_⟩
    have e : lo ≤ mxC lo 128 ∧ mxC lo 128 ≤ hi ∧ 128 ≤ mxC lo 128 ∧ mxC lo 128 < 2048 := by unfold mxC; split <;> omega
    exact ⟨e.1, e.2.1, by omega, by omega, (len2 _).2 ⟨e.2.2.1, e.2.2.2⟩, hpre _ e.1 e.2.1 e.2.2.1 e.2.2.2⟩
theorem any3 {w : List Int} {lo hi : Int} (hpre : ∀ c, lo ≤ c → c ≤ hi → 2048 ≤ c → c < 65536 → (writeC c).take w.length = w) (h0 : 0 ≤ lo) (hl : lo ≤ hi) (hh : hi < 65536) :
    (candsC lo hi).any (testC w 3 lo hi) = true ↔ 2048 ≤ hi ∧ (lo < 55296 ∨ 57343 < hi) := by
  rw [List.any_eq_true]
  constructor
  · rintro ⟨c, _, h⟩
    obtain ⟨a1, a2, _, a4, a5, _⟩ := (test_iff ..).1 h
    rw [len3] at a5
    omega
  · rintro ⟨a, b⟩
    have key : ∃ c, c ∈ candsC lo hi ∧ lo ≤ c ∧ c ≤ hi ∧ 2048 ≤ c ∧ (c < 55296 ∨ 57343 < c) := by
      by_cases p : lo < 55296
      · exact ⟨mxC lo 2048, by simp [candsC], by unfold mxC; split <;> omega, by unfold mxC; split <;> omega, by unfold mxC; split <;> omega, by unfold mxC; split <;> omega⟩
      · exact ⟨mxC lo 57344, by simp [candsC], by unfold mxC; split <;> omega, by unfold mxC; split <;> omega, by unfold mxC; split <;> omega, by unfold mxC; split <;> omega⟩
    obtain ⟨c, hc, c1, c2, c3, c4⟩ := key
    exact ⟨c, hc, (test_iff ..).2 ⟨c1, c2, by omega, c4, (len3 _).2 ⟨c3, by omega⟩, hpre _ c1 c2 c3 (by omega)⟩⟩
theorem any4 {w : List Int} {lo hi : Int} (hpre : ∀ c, lo ≤ c → c ≤ hi → 65536 ≤ c → c < 1114112 → (writeC c).take w.length = w) (h0 : 0 ≤ lo) (hl : lo ≤ hi) :
    (candsC lo hi).any (testC w 4 lo hi) = true ↔ 65536 ≤ hi ∧ lo < 1114112 := by
  rw [List.any_eq_true]
  constructor
  · rintro ⟨c, _, h⟩
    obtain ⟨a1, a2, a3, a4, a5, _⟩ := (test_iff ..).1 h
    rw [len4] at a5
    omega
  · rintro ⟨a, b⟩
    have e : lo ≤ mxC lo 65536 ∧ mxC lo 65536 ≤ hi ∧ 65536 ≤ mxC lo 65536 ∧ mxC lo 65536 < 1114112 := by unfold mxC; split <;> omega
    exact ⟨mxC lo 65536, by simp [candsC], (test_iff ..).2 ⟨e.1, e.2.1, by omega, by omega, (len4 _).2 e.2.2.1, hpre _ e.1 e.2.1 e.2.2.1 e.2.2.2⟩⟩
theorem sizeC_1 {b : Int} (h : b < 128) : sizeC b = 1 := by unfold sizeC; rw [if_pos h]
theorem sizeC_2 {b : Int} (h : 192 ≤ b ∧ b < 224) : sizeC b = 2 := by unfold sizeC; rw [if_neg (by omega), if_pos h]
theorem sizeC_3 {b : Int} (h : 224 ≤ b ∧ b < 240) : sizeC b = 3 := by unfold sizeC; rw [if_neg (by omega), if_neg (by omega), if_pos h]
theorem sizeC_4 {b : Int} (h : 240 ≤ b ∧ b < 248) : sizeC b = 4 := by unfold sizeC; rw [if_neg (by omega), if_neg (by omega), if_neg (by omega), if_pos h]
theorem sizeC_0 {b : Int} (h : (128 ≤ b ∧ b < 192) ∨ 248 ≤ b) : sizeC b = 0 := by unfold sizeC; rw [if_neg (by omega), if_neg (by omega), if_neg (by omega), if_neg (by omega)]
/-- The machine's first byte, by sizes. -/
theorem first_2 {b : Int} (h : 194 ≤ b ∧ b ≤ 223) : firstC b = (true, 1, 128, 191) := by
  unfold firstC; rw [if_neg (by omega), if_pos (by omega)]
def lo3 (b : Int) : Int := if b = 224 then 160 else 128
def hi3 (b : Int) : Int := if b = 237 then 159 else 191
def lo4 (b : Int) : Int := if b = 240 then 144 else 128
def hi4 (b : Int) : Int := if b = 244 then 143 else 191
theorem first_3 {b : Int} (h : 224 ≤ b ∧ b < 240) : firstC b = (true, 2, lo3 b, hi3 b) := by
  unfold firstC lo3 hi3
  have hc : b = 224 ∨ (225 ≤ b ∧ b ≤ 236) ∨ b = 237 ∨ (238 ≤ b ∧ b ≤ 239) := by omega
  rcases hc with h | h | h | h
  all_goals simp (disch := omega) only [if_pos, if_neg]
theorem first_4 {b : Int} (h : 240 ≤ b ∧ b < 245) : firstC b = (true, 3, lo4 b, hi4 b) := by
  unfold firstC lo4 hi4
  have hc : b = 240 ∨ (241 ≤ b ∧ b ≤ 243) ∨ b = 244 := by omega
  rcases hc with h | h | h
  all_goals simp (disch := omega) only [if_pos, if_neg]
theorem first_1 {b : Int} (h : b < 128) : firstC b = (true, 0, 128, 191) := by unfold firstC; rw [if_pos h]
theorem first_0 {b : Int} (h : (128 ≤ b ∧ b < 194) ∨ 245 ≤ b) : firstC b = (false, 0, 128, 191) := by
  unfold firstC
  simp (disch := omega) only [if_neg]

theorem begins1 (x : Int) (h0 : 0 ≤ x) (h1 : x ≤ 255) : beginsC [x] = (firstC x).1 ∧ ((firstC x).1 = true → (firstC x).2.1 + 1 = (sizeC x : Int)) := by
  have hc : x < 128 ∨ (128 ≤ x ∧ x < 192) ∨ (192 ≤ x ∧ x < 224) ∨ (224 ≤ x ∧ x < 240) ∨ (240 ≤ x ∧ x < 248) ∨ 248 ≤ x := by omega
  rcases hc with h | h | h | h | h | h
  · refine ⟨?_, by rw [first_1 h, sizeC_1 h]; decide⟩
    rw [first_1 h]
    have e : testC [x] 1 x x x = true := by
      refine (test_iff ..).2 ⟨by omega, by omega, by omega, by omega, (len1 _).2 h, ?_⟩
      unfold writeC; rw [if_pos h]; rfl
    simp [beginsC, sizeC_1 h, spreadC, baseC, anyC, candsC, e]
  · rw [first_0 (.inl ⟨by omega, by omega⟩)]
    simp [beginsC, sizeC_0 (.inl h)]
  · have e := any2 (w := [x]) (lo := 64 * (x - 192)) (hi := 64 * (x - 192) + 63) (fun c a b d f => by rw [write2 ⟨d, f⟩]; simp; omega) (by omega) (by omega)
    have eb : beginsC [x] = (candsC (64 * (x - 192)) (64 * (x - 192) + 63)).any (testC [x] 2 (64 * (x - 192)) (64 * (x - 192) + 63)) := by
      simp [beginsC, sizeC_2 h, spreadC, baseC, anyC]
    rw [eb]
    by_cases p : 194 ≤ x
    · rw [first_2 ⟨p, by omega⟩, sizeC_2 h]
      exact ⟨e.2 (by omega), by decide⟩
    · rw [first_0 (.inl ⟨by omega, by omega⟩)]
      refine ⟨?_, by simp⟩
      rw [Bool.eq_false_iff]
      intro q
      have := e.1 q
      omega
  · have e := any3 (w := [x]) (lo := 64 * (64 * (x - 224))) (hi := 64 * (64 * (x - 224) + 63) + 63) (fun c a b d f => by rw [write3 ⟨d, f⟩]; simp; omega) (by omega) (by omega) (by omega)
    have eb : beginsC [x] = (candsC (64 * (64 * (x - 224))) (64 * (64 * (x - 224) + 63) + 63)).any (testC [x] 3 (64 * (64 * (x - 224))) (64 * (64 * (x - 224) + 63) + 63)) := by
      simp [beginsC, sizeC_3 h, spreadC, baseC, anyC]
    rw [eb, first_3 h, sizeC_3 h]
    exact ⟨e.2 (by omega), fun _ => rfl⟩
  · have e := any4 (w := [x]) (lo := 64 * (64 * (64 * (x - 240)))) (hi := 64 * (64 * (64 * (x - 240) + 63) + 63) + 63) (fun c a b d f => by rw [write4 d]; simp; omega) (by omega) (by omega)
    have eb : beginsC [x] = (candsC (64 * (64 * (64 * (x - 240)))) (64 * (64 * (64 * (x - 240) + 63) + 63) + 63)).any (testC [x] 4 (64 * (64 * (64 * (x - 240)))) (64 * (64 * (64 * (x - 240) + 63) + 63) + 63)) := by
      simp [beginsC, sizeC_4 h, spreadC, baseC, anyC]
    rw [eb]
    by_cases p : x < 245
    · rw [first_4 ⟨by omega, p⟩, sizeC_4 h]
      exact ⟨e.2 (by omega), fun _ => rfl⟩
    · rw [first_0 (.inr (by omega))]
      refine ⟨?_, by simp⟩
      rw [Bool.eq_false_iff]
      intro q
      have := e.1 q
      omega
  · rw [first_0 (.inr (by omega))]
    simp [beginsC, sizeC_0 (.inr h)]
theorem one_in {m lo hi x : Int} (hm : m ≠ 0) (h : lo ≤ x ∧ x ≤ hi) : oneC (m, lo, hi) x = (true, m - 1, 128, 191) := by
  unfold oneC; rw [if_neg hm, if_neg (by simp only; omega)]
theorem one_out {m lo hi x : Int} (hm : m ≠ 0) (h : x < lo ∨ hi < x) : oneC (m, lo, hi) x = (false, m, lo, hi) := by
  unfold oneC; rw [if_neg hm, if_pos h]
theorem lohi3 (b : Int) : 128 ≤ lo3 b ∧ hi3 b ≤ 191 := by unfold lo3 hi3; constructor <;> split <;> omega
theorem lohi4 (b : Int) : 128 ≤ lo4 b ∧ hi4 b ≤ 191 := by unfold lo4 hi4; constructor <;> split <;> omega
/-- A following byte that is none. -/
theorem spread_bad (n : Nat) {x : Int} (h : x < 128 ∨ 191 < x) (r : List Int) (lo hi : Int) : spreadC (n + 1) (x :: r) lo hi = none := by
  simp only [spreadC]; rw [if_pos h]
theorem spread_ok (n : Nat) {x : Int} (h : 128 ≤ x ∧ x ≤ 191) (r : List Int) (lo hi : Int) : spreadC (n + 1) (x :: r) lo hi = spreadC n r (64 * lo + x - 128) (64 * hi + x - 128) := by
  simp only [spreadC]; rw [if_neg (by omega)]
theorem begins_cons (b : Int) (r : List Int) (h : r.length + 1 ≤ sizeC b) : beginsC (b :: r) = anyC (b :: r) (sizeC b) (spreadC (sizeC b - 1) r (baseC b) (baseC b)) := by
  simp only [beginsC]; rw [if_neg (by omega)]
theorem base2 {b : Int} (h : 192 ≤ b ∧ b < 224) : baseC b = b - 192 := by unfold baseC; rw [sizeC_2 h]; rfl
theorem base3 {b : Int} (h : 224 ≤ b ∧ b < 240) : baseC b = b - 224 := by unfold baseC; rw [sizeC_3 h]; rfl
theorem base4 {b : Int} (h : 240 ≤ b ∧ b < 248) : baseC b = b - 240 := by unfold baseC; rw [sizeC_4 h]; rfl
/-- What the two say of a letter's next byte: the same. -/
def Same (w : List Int) (b0 : Int) (s : St) (x : Int) : Prop := beginsC w = (oneC s x).1 ∧ ((oneC s x).1 = true → (oneC s x).2.1 + w.length = (sizeC b0 : Int))
theorem same_of {w : List Int} {b0 x m lo hi : Int} (hm : m ≠ 0) (h : beginsC w = true ↔ (lo ≤ x ∧ x ≤ hi)) (hs : m - 1 + w.length = (sizeC b0 : Int)) : Same w b0 (m, lo, hi) x := by
  by_cases c : lo ≤ x ∧ x ≤ hi
  · unfold Same; rw [one_in hm c]; exact ⟨h.2 c, fun _ => hs⟩
  · unfold Same; rw [one_out hm (by omega)]
    refine ⟨?_, by simp⟩
    rw [Bool.eq_false_iff]; exact fun q => c (h.1 q)

theorem begins2 (b x : Int) (hb : 194 ≤ b ∧ b < 245) (h0 : 0 ≤ x) (h1 : x ≤ 255) : Same [b, x] b (firstC b).2 x := by
  have hc : b < 224 ∨ (224 ≤ b ∧ b < 240) ∨ 240 ≤ b := by omega
  rcases hc with h | h | h
  · rw [first_2 ⟨by omega, by omega⟩]
    refine same_of (by decide) ?_ (by rw [sizeC_2 ⟨by omega, by omega⟩]; simp)
    rw [begins_cons _ _ (by rw [sizeC_2 ⟨by omega, by omega⟩]; simp), sizeC_2 ⟨by omega, by omega⟩, base2 ⟨by omega, by omega⟩]
    by_cases c : 128 ≤ x ∧ x ≤ 191
    · rw [show 2 - 1 = 0 + 1 from rfl, spread_ok 0 c]
      have e := any2 (w := [b, x]) (lo := 64 * (b - 192) + x - 128) (hi := 64 * (b - 192) + x - 128) (fun c a b d f => by rw [write2 ⟨d, f⟩]; simp; omega) (by omega) (by omega)
      exact ⟨fun _ => c, fun _ => e.2 (by omega)⟩
    · rw [show 2 - 1 = 0 + 1 from rfl, spread_bad 0 (by omega)]
      exact ⟨fun q => by simp [anyC] at q, fun q => absurd q c⟩
  · rw [first_3 h]
    refine same_of (by decide) ?_ (by rw [sizeC_3 h]; simp)
    rw [begins_cons _ _ (by rw [sizeC_3 h]; simp), sizeC_3 h, base3 h]
    have hl := lohi3 b
    by_cases c : 128 ≤ x ∧ x ≤ 191
    · rw [show 3 - 1 = 1 + 1 from rfl, spread_ok 1 c]
      have e := any3 (w := [b, x]) (lo := 64 * (64 * (b - 224) + x - 128)) (hi := 64 * (64 * (b - 224) + x - 128) + 63) (fun c a b d f => by rw [write3 ⟨d, f⟩]; simp; omega) (by omega) (by omega) (by omega)
      refine Iff.trans e ?_
      unfold lo3 hi3
      split <;> split <;> omega
    · rw [show 3 - 1 = 1 + 1 from rfl, spread_bad 1 (by omega)]
      exact ⟨fun q => by simp [anyC] at q, fun q => by omega⟩
  · rw [first_4 ⟨h, by omega⟩]
    have h' : 240 ≤ b ∧ b < 248 := ⟨h, by omega⟩
    refine same_of (by decide) ?_ (by rw [sizeC_4 h']; simp)
    rw [begins_cons _ _ (by rw [sizeC_4 h']; simp), sizeC_4 h', base4 h']
    have hl := lohi4 b
    by_cases c : 128 ≤ x ∧ x ≤ 191
    · rw [show 4 - 1 = 2 + 1 from rfl, spread_ok 2 c]
      have e := any4 (w := [b, x]) (lo := 64 * (64 * (64 * (b - 240) + x - 128))) (hi := 64 * (64 * (64 * (b - 240) + x - 128) + 63) + 63) (fun c a b d f => by rw [write4 d]; simp; omega) (by omega) (by omega)
      refine Iff.trans e ?_
      unfold lo4 hi4
      split <;> split <;> omega
    · rw [show 4 - 1 = 2 + 1 from rfl, spread_bad 2 (by omega)]
      exact ⟨fun q => by simp [anyC] at q, fun q => by omega⟩
theorem begins3 (b b1 x : Int) (hb : 224 ≤ b ∧ b < 245) (hb1 : (oneC (firstC b).2 b1).1 = true) (h0 : 0 ≤ x) (h1 : x ≤ 255) : Same [b, b1, x] b (oneC (firstC b).2 b1).2 x := by
  have hc : (224 ≤ b ∧ b < 240) ∨ 240 ≤ b := by omega
  rcases hc with h | h
  · rw [first_3 h] at hb1 ⊢
    have c1 : lo3 b ≤ b1 ∧ b1 ≤ hi3 b := by
      by_cases q : lo3 b ≤ b1 ∧ b1 ≤ hi3 b
      · exact q
      · rw [one_out (by decide) (by omega)] at hb1; exact absurd hb1 (by simp)
    rw [one_in (by decide) c1]
    have hl := lohi3 b
    refine same_of (by decide) ?_ (by rw [sizeC_3 h]; simp)
    rw [begins_cons _ _ (by rw [sizeC_3 h]; simp), sizeC_3 h, base3 h, show 3 - 1 = 1 + 1 from rfl, spread_ok 1 (by omega)]
    by_cases c : 128 ≤ x ∧ x ≤ 191
    · rw [show 1 = 0 + 1 from rfl, spread_ok 0 c]
      have e := any3 (w := [b, b1, x]) (lo := 64 * (64 * (b - 224) + b1 - 128) + x - 128) (hi := 64 * (64 * (b - 224) + b1 - 128) + x - 128) (fun c a b d f => by rw [write3 ⟨d, f⟩]; simp; omega) (by omega) (by omega) (by omega)
      refine ⟨fun _ => c, fun _ => e.2 ?_⟩
      unfold lo3 hi3 at c1
      split at c1 <;> split at c1 <;> omega
    · rw [show 1 = 0 + 1 from rfl, spread_bad 0 (by omega)]
      exact ⟨fun q => by simp [anyC] at q, fun q => absurd q c⟩
  · have h4 : 240 ≤ b ∧ b < 245 := ⟨h, hb.2⟩
    rw [first_4 h4] at hb1 ⊢
    have h' : 240 ≤ b ∧ b < 248 := ⟨h, by omega⟩
    have c1 : lo4 b ≤ b1 ∧ b1 ≤ hi4 b := by
      by_cases q : lo4 b ≤ b1 ∧ b1 ≤ hi4 b
      · exact q
      · rw [one_out (by decide) (by omega)] at hb1; exact absurd hb1 (by simp)
    rw [one_in (by decide) c1]
    have hl := lohi4 b
    refine same_of (by decide) ?_ (by rw [sizeC_4 h']; simp)
    rw [begins_cons _ _ (by rw [sizeC_4 h']; simp), sizeC_4 h', base4 h', show 4 - 1 = 2 + 1 from rfl, spread_ok 2 (by omega)]
    by_cases c : 128 ≤ x ∧ x ≤ 191
    · rw [show 2 = 1 + 1 from rfl, spread_ok 1 c]
      have e := any4 (w := [b, b1, x]) (lo := 64 * (64 * (64 * (b - 240) + b1 - 128) + x - 128)) (hi := 64 * (64 * (64 * (b - 240) + b1 - 128) + x - 128) + 63) (fun c a b d f => by rw [write4 d]; simp; omega) (by omega) (by omega)
      refine ⟨fun _ => c, fun _ => e.2 ?_⟩
      unfold lo4 hi4 at c1
      split at c1 <;> split at c1 <;> omega
    · rw [show 2 = 1 + 1 from rfl, spread_bad 1 (by omega)]
      exact ⟨fun q => by simp [anyC] at q, fun q => absurd q c⟩
theorem begins4 (b b1 b2 x : Int) (hb : 240 ≤ b ∧ b < 245) (hb1 : (oneC (firstC b).2 b1).1 = true) (hb2 : (oneC (oneC (firstC b).2 b1).2 b2).1 = true) (h0 : 0 ≤ x) (h1 : x ≤ 255) :
    Same [b, b1, b2, x] b (oneC (oneC (firstC b).2 b1).2 b2).2 x := by
  rw [first_4 hb] at hb1 hb2 ⊢
  have h' : 240 ≤ b ∧ b < 248 := ⟨hb.1, by omega⟩
  have c1 : lo4 b ≤ b1 ∧ b1 ≤ hi4 b := by
    by_cases q : lo4 b ≤ b1 ∧ b1 ≤ hi4 b
    · exact q
    · rw [one_out (by decide) (by omega)] at hb1; exact absurd hb1 (by simp)
  rw [one_in (by decide) c1] at hb2 ⊢
  have c2 : 128 ≤ b2 ∧ b2 ≤ 191 := by
    by_cases q : 128 ≤ b2 ∧ b2 ≤ 191
    · exact q
    · rw [one_out (by decide) (by omega)] at hb2; exact absurd hb2 (by simp)
  simp only at hb2 ⊢
  rw [one_in (by decide) c2]
  have hl := lohi4 b
  refine same_of (by decide) ?_ (by rw [sizeC_4 h']; simp)
  rw [begins_cons _ _ (by rw [sizeC_4 h']; simp), sizeC_4 h', base4 h', show 4 - 1 = 2 + 1 from rfl, spread_ok 2 (by omega), show 2 = 1 + 1 from rfl, spread_ok 1 c2]
  by_cases c : 128 ≤ x ∧ x ≤ 191
  · rw [show 1 = 0 + 1 from rfl, spread_ok 0 c]
    have e := any4 (w := [b, b1, b2, x]) (lo := 64 * (64 * (64 * (b - 240) + b1 - 128) + b2 - 128) + x - 128) (hi := 64 * (64 * (64 * (b - 240) + b1 - 128) + b2 - 128) + x - 128) (fun c a b d f => by rw [write4 d]; simp; omega) (by omega) (by omega)
    refine ⟨fun _ => c, fun _ => e.2 ?_⟩
    unfold lo4 hi4 at c1
    split at c1 <;> split at c1 <;> omega
  · rw [show 1 = 0 + 1 from rfl, spread_bad 0 (by omega)]
    exact ⟨fun q => by simp [anyC] at q, fun q => absurd q c⟩
end Go.Proofs.YtbjjobifpmjhhaaDoor.U

/- The printed functions of the document's letters tell what the machine over bytes tells. -/
namespace Go.Proofs.YtbjjobifpmjhhaaDoor.U
open Go.RowKit Go.Proofs.YtbjjobifpmjhhaaDoorW.PrintWords Go.Proofs.YtbjjobifpmjhhaaDoorW.PrintLast Go.Proofs.YtbjjobifpmjhhaaDoor.PAll
set_option linter.unusedVariables false

/-- A string's bytes as numbers. -/
def bs (s : ByteArray) : List Int := s.data.toList.map fun b => (b.toNat : Int)
theorem bs_length (s : ByteArray) : (bs s).length = s.size := by
  show (s.data.toList.map _).length = s.data.size
  rw [List.length_map, Array.length_toList]
theorem bs_byte (s : ByteArray) : ∀ x ∈ bs s, 0 ≤ x ∧ x ≤ 255 := by
  intro x hx
  obtain ⟨b, _, rfl⟩ := List.mem_map.1 hx
  have := b.toNat_lt
  omega
theorem bt_bs (s : ByteArray) (i : Nat) (h : i < (bs s).length) : bt s (i : Int) = (bs s)[i] := by
  have h' : i < s.size := by rw [← bs_length]; exact h
  unfold bt
  rw [dif_pos (by simpa using h')]
  simp [bs, ByteArray.getElem_eq_getElem_data]
theorem bs_extract (s : ByteArray) (a b : Nat) : bs (s.extract a b) = ((bs s).drop a).take (b - a) := by
  unfold bs
  obtain ⟨⟨l⟩⟩ := s
  rw [ByteArray.extract_mk]
  simp
theorem bs_str (xs : List Int) (h : ∀ x ∈ xs, 0 ≤ x ∧ x ≤ 255) : bs (strOfNums xs) = xs := by
  unfold bs
  rw [strOfNums_data, List.map_map]
  conv => rhs; rw [← List.map_id xs]
  refine List.map_congr_left fun x hx => ?_
  have := h x hx
  simp only [Function.comp, UInt8.toNat_ofNat', id]
  omega
theorem bs_inj {a b : ByteArray} (h : bs a = bs b) : a.toList = b.toList := by
  rw [ByteArray.toList_eq, ByteArray.toList_eq]
  unfold bs at h
  refine List.map_inj_right (f := fun b : UInt8 => (b.toNat : Int)) ?_ |>.1 h
  intro x y hxy
  have hxy' : (x.toNat : Int) = (y.toNat : Int) := hxy
  exact UInt8.toNat_inj.1 (Int.ofNat_inj.1 hxy')
theorem bs_of_toList {a b : ByteArray} (h : a.toList = b.toList) : bs a = bs b := by
  rw [ByteArray.toList_eq, ByteArray.toList_eq] at h
  unfold bs
  rw [h]
theorem bs_eq_iff (a b : ByteArray) : a.toList = b.toList ↔ bs a = bs b := ⟨bs_of_toList, bs_inj⟩

theorem size_f (k : Nat) (hk : 3 ≤ k) (b : Int) : louverref15_size.f k b = some (sizeC b : Int) := by
  obtain ⟨n, rfl⟩ : ∃ m, k = m + 3 := ⟨k - 3, by omega⟩
  unfold sizeC
  simp only [louverref15_size.f, louverref15_size.j0, louverref15_size.j1, decide_eq_true_eq, Bool.false_eq_true, if_false]
  have hc : b < 128 ∨ (128 ≤ b ∧ b < 192) ∨ (192 ≤ b ∧ b < 224) ∨ (224 ≤ b ∧ b < 240) ∨ (240 ≤ b ∧ b < 248) ∨ 248 ≤ b := by omega
  rcases hc with h | h | h | h | h | h
  all_goals simp (disch := omega) only [if_pos, if_neg]
  all_goals rfl
theorem write_byte {c : Int} (h0 : 0 ≤ c) (h1 : c < 1114112) : ∀ x ∈ writeC c, 0 ≤ x ∧ x ≤ 255 := by
  unfold writeC
  repeat' split
  all_goals
    intro x hx
    simp only [List.mem_cons, List.not_mem_nil, or_false] at hx
    omega
theorem write_f {c : Int} (h0 : 0 ≤ c) (h1 : c < 1114112) : louverref15_write.f c = some (strOfNums (writeC c)) := by
  unfold louverref15_write.f writeC
  have e1 : ∀ d : Int, 0 < d → Int.tdiv c d = c / d := fun d hd => Int.tdiv_eq_ediv_of_nonneg h0
  have w1 : ∀ x : Int, 0 ≤ x → x ≤ 1200000 → wrap64 x = x := fun x a b => by unfold wrap64; omega
  have d64 : wrap64 (Int.tdiv c 64) = c / 64 := by rw [e1 64 (by decide), w1 _ (by omega) (by omega)]
  have d4 : wrap64 (Int.tdiv c 4096) = c / 4096 := by rw [e1 4096 (by decide), w1 _ (by omega) (by omega)]
  have d2 : wrap64 (Int.tdiv c 262144) = c / 262144 := by rw [e1 262144 (by decide), w1 _ (by omega) (by omega)]
  have t : ∀ x : Int, 0 ≤ x → Int.tmod x 64 = x % 64 := fun x hx => Int.tmod_eq_emod_of_nonneg hx
  rw [d64, d4, d2, t c h0, t (c / 64) (by omega), t (c / 4096) (by omega)]
  split
  · rw [show c % 256 = c by omega]
  · split
    · rw [w1 (192 + c / 64) (by omega) (by omega), w1 (128 + c % 64) (by omega) (by omega), show (192 + c / 64) % 256 = 192 + c / 64 by omega, show (128 + c % 64) % 256 = 128 + c % 64 by omega]
    · split
      · rw [w1 (224 + c / 4096) (by omega) (by omega), w1 (128 + c / 64 % 64) (by omega) (by omega), w1 (128 + c % 64) (by omega) (by omega), show (224 + c / 4096) % 256 = 224 + c / 4096 by omega, show (128 + c / 64 % 64) % 256 = 128 + c / 64 % 64 by omega, show (128 + c % 64) % 256 = 128 + c % 64 by omega]
      · rw [w1 (240 + c / 262144) (by omega) (by omega), w1 (128 + c / 4096 % 64) (by omega) (by omega), w1 (128 + c / 64 % 64) (by omega) (by omega), w1 (128 + c % 64) (by omega) (by omega), show (240 + c / 262144) % 256 = 240 + c / 262144 by omega, show (128 + c / 4096 % 64) % 256 = 128 + c / 4096 % 64 by omega, show (128 + c / 64 % 64) % 256 = 128 + c / 64 % 64 by omega, show (128 + c % 64) % 256 = 128 + c % 64 by omega]
/-- One candidate, as the printed loop asks it. -/
theorem cands_loop (s : ByteArray) (n : Nat) (lo hi : Int) (h0 : 0 ≤ lo) (hn : s.size ≤ n) (y : List Int) (hy : y.length ≤ 100) (d : Nat) : ∀ (j k : Nat), y.length - j = d → j ≤ y.length → d + 1 ≤ k →
    louverref15_begins.l1 k s (n : Int) lo hi y (y.length : Int) (j : Int) = some ((y.drop j).any (testC (bs s) n lo hi)) := by
  induction d with
  | zero =>
    intro j k hd hj hk
    obtain ⟨k, rfl⟩ : ∃ m, k = m + 1 := ⟨k - 1, by omega⟩
    obtain rfl : j = y.length := by omega
    simp only [louverref15_begins.l1]
    rw [if_neg (by omega), List.drop_length]
    rfl
  | succ d ih =>
    intro j k hd hj hk
    obtain ⟨k, rfl⟩ : ∃ m, k = m + 1 := ⟨k - 1, by omega⟩
    have hlt : j < y.length := by omega
    have q1 : (j : Int) < (y.length : Int) := by omega
    have q0 : 0 ≤ (j : Int) := by omega
    have IH := ih (j + 1) k (by omega) (by omega) (by omega)
    have ew : wrap64 ((j : Int) + 1) = ((j + 1 : Nat) : Int) := by unfold wrap64; omega
    have e : rd y (j : Int) = y[j] := by simp [rd, hlt]
    have ed : y.drop j = y[j] :: y.drop (j + 1) := (List.getElem_cons_drop hlt).symm
    rw [ed, List.any_cons, louverref15_begins.l1, if_pos q1, if_pos q0, if_pos q1, e, ew, IH]
    clear e ew ed IH q1 q0
    generalize y[j] = c
    generalize (y.drop (j + 1)).any (testC (bs s) n lo hi) = rest
    by_cases a1' : c < lo
    · rw [if_neg (by omega)]
      have : testC (bs s) n lo hi c = false := by unfold testC; rw [decide_eq_false (by omega)]; rfl
      rw [this]; rfl
    rw [if_pos (show c ≥ lo by omega)]
    by_cases a2' : hi < c
    · rw [if_neg (by omega)]
      have : testC (bs s) n lo hi c = false := by unfold testC; rw [decide_eq_false (show ¬ c ≤ hi by omega)]; simp
      rw [this]; rfl
    have a2 : c ≤ hi := by omega
    rw [if_pos a2]
    by_cases a3' : 1114112 ≤ c
    · rw [if_neg (by omega)]
      have : testC (bs s) n lo hi c = false := by unfold testC; rw [decide_eq_false (show ¬ c < 1114112 by omega)]; simp
      rw [this]; rfl
    have a3 : c < 1114112 := by omega
    rw [if_pos a3, write_f (by omega) a3]
    simp only [Option.bind_some, strOfNums_size]
    have key : (if ((writeC c).length : Int) = (n : Int) then (if 0 ≤ (s.size : Int) then (if (s.size : Int) ≤ ((writeC c).length : Int) then (if ((strOfNums (writeC c)).extract 0 s.size).toList = s.toList then (some true) else some rest) else none) else none) else some rest) = some ((decide ((writeC c).length = n) && decide ((writeC c).take (bs s).length = bs s)) || rest) := by
      by_cases b1 : (writeC c).length = n
      · rw [if_pos (by omega), if_pos (by omega), if_pos (by omega), decide_eq_true b1, Bool.true_and]
        have q : ((strOfNums (writeC c)).extract 0 s.size).toList = s.toList ↔ (writeC c).take (bs s).length = bs s := by
          rw [bs_eq_iff, bs_extract, bs_str _ (write_byte (by omega) a3), bs_length]
          simp
        by_cases b2 : (writeC c).take (bs s).length = bs s
        · rw [if_pos (q.2 b2), decide_eq_true b2]; rfl
        · rw [if_neg (fun z => b2 (q.1 z)), decide_eq_false b2]; rfl
      · rw [if_neg (by omega), decide_eq_false b1]; rfl
    have tt : testC (bs s) n lo hi c = ((decide (c < 55296) || decide (57343 < c)) && (decide ((writeC c).length = n) && decide ((writeC c).take (bs s).length = bs s))) := by
      unfold testC
      rw [decide_eq_true (show lo ≤ c by omega), decide_eq_true a2, decide_eq_true a3]; simp
    rw [tt]
    by_cases a4 : c < 55296
    · rw [if_pos a4, decide_eq_true a4, Bool.true_or, Bool.true_and]
      exact key
    · rw [if_neg a4, decide_eq_false a4, Bool.false_or]
      by_cases a5 : c > 57343
      · rw [if_pos a5, decide_eq_true (show 57343 < c by omega), Bool.true_and]
        exact key
      · rw [if_neg a5, decide_eq_false (show ¬ 57343 < c by omega)]; rfl
end Go.Proofs.YtbjjobifpmjhhaaDoor.U

/- The document's answer for texts (printed) is the machine's: how many bytes stand ahead of the bad one, and whether all is a text. -/
namespace Go.Proofs.YtbjjobifpmjhhaaDoor.U
open Go.RowKit Go.Proofs.YtbjjobifpmjhhaaDoorW.PrintWords Go.Proofs.YtbjjobifpmjhhaaDoorW.PrintLast Go.Proofs.YtbjjobifpmjhhaaDoor.PAll
set_option linter.unusedVariables false

/-- What lo and hi may be with d bytes to come. -/
def capC : Nat → Int
  | 0 => 300000000
  | 1 => 3000000
  | 2 => 30000
  | _ => 300
theorem capC_step (d : Nat) (hd : d ≤ 2) (x : Int) (h : x ≤ capC (d + 1)) : 64 * x + 255 ≤ capC d := by
  match d, hd with
  | 0, _ => simp only [capC] at *; omega
  | 1, _ => simp only [capC] at *; omega
  | 2, _ => simp only [capC] at *; omega
theorem capC_le (d : Nat) : capC (d + 1) ≤ 3000000 := by
  match d with
  | 0 => simp [capC]
  | 1 => simp [capC]
  | n + 2 => simp [capC]
theorem mn_C (a b : Int) : mn a b = mnC a b := by unfold mn mnC; rfl
theorem mx_C (a b : Int) : mx a b = mxC a b := by unfold mx mxC; rfl
theorem w_in (x : Int) (h0 : -9223372036854775808 ≤ x) (h1 : x ≤ 9223372036854775807) : wrap64 x = x := by unfold wrap64; omega
theorem step_w {lo x : Int} (h0 : 0 ≤ lo) (h1 : lo ≤ 3000000) (hx : 0 ≤ x ∧ x ≤ 255) : wrap64 (wrap64 (wrap64 (64 * lo) + wrap64 x) - 128) = 64 * lo + x - 128 := by
  rw [w_in (64 * lo) (by omega) (by omega), w_in x (by omega) (by omega), w_in (64 * lo + x) (by omega) (by omega), w_in _ (by omega) (by omega)]
theorem step_z {lo : Int} (h0 : 0 ≤ lo) (h1 : lo ≤ 3000000) : wrap64 (64 * lo) = 64 * lo := w_in _ (by omega) (by omega)
theorem step_h {hi : Int} (h0 : 0 ≤ hi) (h1 : hi ≤ 3000000) : wrap64 (wrap64 (64 * hi) + 63) = 64 * hi + 63 := by
  rw [w_in (64 * hi) (by omega) (by omega), w_in _ (by omega) (by omega)]
theorem step_i {i : Nat} (h : i ≤ 1000000000000000000) : wrap64 ((i : Int) + 1) = ((i + 1 : Nat) : Int) := by unfold wrap64; omega
theorem spread_loop (s : ByteArray) (n : Nat) (hn : s.size ≤ n) (hn4 : n ≤ 4) (d : Nat) (hd4 : d ≤ 3) : ∀ (i k : Nat) (lo hi : Int), n - i = d → i ≤ n → 0 ≤ lo → lo ≤ hi → hi ≤ capC d → d + 20 ≤ k →
    louverref15_begins.l0 k s (n : Int) lo hi (i : Int) = some (anyC (bs s) n (spreadC d ((bs s).drop i) lo hi)) := by
  have hsl := bs_length s
  induction d with
  | zero =>
    intro i k lo hi hd hi' h0 hle hc hk
    obtain ⟨k, rfl⟩ : ∃ m, k = m + 1 := ⟨k - 1, by omega⟩
    obtain rfl : i = n := by omega
    have q : ¬ (i : Int) < (i : Int) := by omega
    have hl : ([lo, hi, mnC hi 1114111, mxC lo 2048, mxC lo 65536, mxC lo 128, mnC hi 55295, mxC lo 57344] : List Int) = candsC lo hi := rfl
    have L := cands_loop s i lo hi h0 hn (candsC lo hi) (by simp [candsC]) 8 0 k (by simp [candsC]) (by simp) (by omega)
    rw [show ((0 : Nat) : Int) = 0 from rfl] at L
    rw [louverref15_begins.l0, if_neg q]
    simp only [Option.bind_some, mn_C, mx_C]
    rw [hl, L]
    simp [anyC, spreadC]
  | succ d ih =>
    intro i k lo hi hd hi' h0 hle hc hk
    obtain ⟨k, rfl⟩ : ∃ m, k = m + 1 := ⟨k - 1, by omega⟩
    have q : (i : Int) < (n : Int) := by omega
    have q0 : 0 ≤ (i : Int) := by omega
    have c1 := capC_step d (by omega) hi hc
    have c2 : hi ≤ 3000000 := Int.le_trans hc (capC_le d)
    have hlo : lo ≤ 3000000 := Int.le_trans hle c2
    have hhi : 0 ≤ hi := Int.le_trans h0 hle
    have hi1 : n - (i + 1) = d := by omega
    have hi2 : i + 1 ≤ n := by omega
    have hk2 : d + 20 ≤ k := by omega
    have hd3 : d ≤ 3 := by omega
    have h18 : i ≤ 1000000000000000000 := by omega
    generalize hC : capC d = C at c1
    by_cases p : i < (bs s).length
    · have p' : (i : Int) < (s.size : Int) := by omega
      have hbyte := bs_byte s _ (List.getElem_mem p)
      have eb := bt_bs s i p
      have ed : (bs s).drop i = (bs s)[i] :: (bs s).drop (i + 1) := (List.getElem_cons_drop p).symm
      rw [louverref15_begins.l0, if_pos q, if_pos p', if_pos q0, eb, ed]
      clear eb ed hsl hn q q0 p'
      generalize (bs s)[i] = x at hbyte
      by_cases a : x < 128
      · rw [if_pos a, spread_bad d (.inl a)]; rfl
      · rw [if_neg a]
        by_cases b : 191 < x
        · rw [if_pos (show x > 191 from b), spread_bad d (.inr b)]; rfl
        · have m1 : 0 ≤ 64 * lo + x - 128 := by omega
          have m2 : 64 * lo + x - 128 ≤ 64 * hi + x - 128 := by omega
          have m3 : 64 * hi + x - 128 ≤ C := by omega
          have m4 : 128 ≤ x ∧ x ≤ 191 := by omega
          rw [if_neg (show ¬ x > 191 from b), step_w h0 hlo hbyte, step_w hhi c2 hbyte, step_i h18, spread_ok d m4]
          exact ih hd3 (i + 1) k _ _ hi1 hi2 m1 m2 (by rw [hC]; exact m3) hk2
    · have p' : ¬ (i : Int) < (s.size : Int) := by omega
      have ed : (bs s).drop i = [] := List.drop_eq_nil_of_le (by omega)
      have ed2 : (bs s).drop (i + 1) = [] := List.drop_eq_nil_of_le (by omega)
      have L := ih hd3 (i + 1) k (64 * lo) (64 * hi + 63) hi1 hi2 (by omega) (by omega) (by rw [hC]; omega) hk2
      rw [louverref15_begins.l0, if_pos q, if_neg p', ed, step_z h0 hlo, step_h hhi c2, step_i h18]
      rw [ed2] at L
      rw [L]
      rfl
theorem begins_f (s : ByteArray) (hs : 0 < s.size) (k : Nat) (hk : 30 ≤ k) : louverref15_begins.f k s = some (beginsC (bs s)) := by
  have hl := bs_length s
  have h0 : 0 < (bs s).length := by omega
  obtain ⟨b, r, er⟩ : ∃ b r, bs s = b :: r := by
    cases e : bs s with
    | nil => rw [e] at h0; simp at h0
    | cons b r => exact ⟨b, r, rfl⟩
  have eb : bt s 0 = b := by
    have := bt_bs s 0 h0
    rw [show ((0 : Nat) : Int) = 0 from rfl] at this
    rw [this]; simp [er]
  have hb : 0 ≤ b ∧ b ≤ 255 := bs_byte s b (by rw [er]; simp)
  have hsz : s.size = r.length + 1 := by rw [← hl, er]; rfl
  have q : 0 < (s.size : Int) := by omega
  have ed : (bs s).drop 1 = r := by rw [er]; rfl
  unfold louverref15_begins.f
  rw [if_pos q, eb, size_f k (by omega)]
  simp only [Option.bind_some]
  by_cases c : sizeC b < r.length + 1
  · rw [if_pos (by omega), er]
    simp only [beginsC]
    rw [if_pos c]
  · rw [if_neg (by omega), er, begins_cons b r (by omega)]
    have w0 : wrap64 b = b := w_in _ (by omega) (by omega)
    have go : ∀ (n : Nat) (x : Int), sizeC b = n → 1 ≤ n → n ≤ 4 → 0 ≤ x → x ≤ 300 → louverref15_begins.j0 k s (sizeC b : Int) x = some (anyC (b :: r) n (spreadC (n - 1) r x x)) := by
      intro n x hn h1 h4 hx0 hx1
      obtain ⟨k, rfl⟩ : ∃ m, k = m + 1 := ⟨k - 1, by omega⟩
      rw [louverref15_begins.j0, hn]
      have cc : (300 : Int) ≤ capC (n - 1) := by
        have : n - 1 = 0 ∨ n - 1 = 1 ∨ n - 1 = 2 ∨ n - 1 = 3 := by omega
        rcases this with e | e | e | e <;> rw [e] <;> decide
      have := spread_loop s n (by omega) h4 (n - 1) (by omega) 1 k x x (by omega) (by omega) hx0 (Int.le_refl _) (by omega) (by omega)
      rw [show ((1 : Nat) : Int) = 1 from rfl, ed, er] at this
      exact this
    have hcases : b < 128 ∨ (192 ≤ b ∧ b < 224) ∨ (224 ≤ b ∧ b < 240) ∨ (240 ≤ b ∧ b < 248) := by
      by_cases z : sizeC b = 0
      · omega
      · by_cases y : (128 ≤ b ∧ b < 192) ∨ 248 ≤ b
        · exact absurd (sizeC_0 y) z
        · omega
    rw [w0]
    rcases hcases with h | h | h | h
    · have e := sizeC_1 h
      have g := go 1 b e (by decide) (by decide) (by omega) (by omega)
      have eb2 : baseC b = b := by unfold baseC; rw [e]; rfl
      rw [eb2]
      rw [e] at g ⊢
      simp only [show ¬ ((1 : Nat) : Int) = 2 by decide, show ¬ ((1 : Nat) : Int) = 3 by decide, show ¬ ((1 : Nat) : Int) = 4 by decide, if_false]
      exact g
    · have e := sizeC_2 h
      have g := go 2 (b - 192) e (by decide) (by decide) (by omega) (by omega)
      rw [base2 h, w_in (b - 192) (by omega) (by omega)]
      rw [e] at g ⊢
      rw [if_pos (by decide)]
      exact g
    · have e := sizeC_3 h
      have g := go 3 (b - 224) e (by decide) (by decide) (by omega) (by omega)
      rw [base3 h, w_in (b - 224) (by omega) (by omega)]
      rw [e] at g ⊢
      rw [if_neg (by decide), if_pos (by decide)]
      exact g
    · have e := sizeC_4 h
      have g := go 4 (b - 240) e (by decide) (by decide) (by omega) (by omega)
      rw [base4 h, w_in (b - 240) (by omega) (by omega)]
      rw [e] at g ⊢
      rw [if_neg (by decide), if_neg (by decide), if_pos (by decide)]
      exact g
end Go.Proofs.YtbjjobifpmjhhaaDoor.U

/- The document's answer for texts (printed) is the machine's: the walk over letters. -/
namespace Go.Proofs.YtbjjobifpmjhhaaDoor.U
open Go.RowKit Go.Proofs.YtbjjobifpmjhhaaDoorW.PrintWords Go.Proofs.YtbjjobifpmjhhaaDoorW.PrintLast Go.Proofs.YtbjjobifpmjhhaaDoor.PAll
set_option linter.unusedVariables false

theorem oneC_s0 (x : Int) : oneC s0 x = firstC x := if_pos rfl
theorem sizeC_le (b : Int) : sizeC b ≤ 4 := by unfold sizeC; repeat' split
                                               all_goals omega
theorem feed_one (s : St) (b : Int) (h : (feedC s [b]).2.2 = false) : (oneC s b).1 = true ∧ (feedC s [b]).2.1 = (oneC s b).2 := by
  by_cases c : (oneC s b).1 = true
  · rw [feedC_pos c]; exact ⟨c, rfl⟩
  · rw [feedC_neg c] at h; simp at h
theorem feed_cons (s : St) (b : Int) (r : List Int) (h : (feedC s (b :: r)).2.2 = false) : (oneC s b).1 = true ∧ (feedC (oneC s b).2 r).2.2 = false ∧ (feedC s (b :: r)).2.1 = (feedC (oneC s b).2 r).2.1 := by
  by_cases c : (oneC s b).1 = true
  · rw [feedC_pos c] at h ⊢; exact ⟨c, h, rfl⟩
  · rw [feedC_neg c] at h; simp at h
theorem first_more {b : Int} (h : (firstC b).1 = true) (hm : (firstC b).2.1 ≠ 0) (h0 : 0 ≤ b) : 194 ≤ b ∧ b < 245 := by
  by_cases c : b < 128
  · rw [first_1 c] at hm; exact absurd rfl hm
  · by_cases d : (128 ≤ b ∧ b < 194) ∨ 245 ≤ b
    · rw [first_0 d] at h; simp at h
    · omega
theorem begins_step (p : List Int) (x : Int) (hp : (feedC s0 p).2.2 = false) (hb : ∀ y ∈ p ++ [x], 0 ≤ y ∧ y ≤ 255)
    (hm : ∀ b r, p = b :: r → (feedC s0 p).2.1.1 ≠ 0 ∧ (feedC s0 p).2.1.1 + p.length = (sizeC b : Int)) : ∀ b r, p ++ [x] = b :: r → Same (p ++ [x]) b (feedC s0 p).2.1 x := by
  have hx := hb x (by simp)
  match p, hp, hb, hm with
  | [], _, _, _ =>
    intro b r e
    obtain ⟨rfl, rfl⟩ : x = b ∧ [] = r := by simpa using e
    have := begins1 x hx.1 hx.2
    unfold Same
    rw [show (feedC s0 []).2.1 = s0 from rfl, oneC_s0]
    exact ⟨this.1, fun q => by simpa using this.2 q⟩
  | [b0], hp, hb, hm =>
    intro b r e
    obtain ⟨rfl, _⟩ : b0 = b ∧ [x] = r := by simpa using e
    obtain ⟨o1, e1⟩ := feed_one s0 b0 hp
    rw [oneC_s0] at o1 e1
    have m1 := hm b0 [] rfl
    rw [e1] at m1 ⊢
    exact begins2 b0 x (first_more o1 m1.1 (hb b0 (by simp)).1) hx.1 hx.2
  | [b0, b1], hp, hb, hm =>
    intro b r e
    obtain ⟨rfl, _⟩ : b0 = b ∧ [b1, x] = r := by simpa using e
    obtain ⟨o1, h1, e1⟩ := feed_cons s0 b0 [b1] hp
    obtain ⟨o2, e2⟩ := feed_one _ b1 h1
    rw [oneC_s0] at o1 o2 e1 e2
    have m1 := hm b0 [b1] rfl
    rw [e1, e2] at m1 ⊢
    have b0b := (hb b0 (by simp)).1
    have hmore : (firstC b0).2.1 ≠ 0 := by
      intro z
      by_cases c : b0 < 128
      · rw [sizeC_1 c] at m1
        have := oneC_ok (firstC_ok b0) b1
        unfold okS at this
        simp only [List.length_cons, List.length_nil] at m1
        omega
      · by_cases d : (128 ≤ b0 ∧ b0 < 194) ∨ 245 ≤ b0
        · rw [first_0 d] at o1; simp at o1
        · by_cases f : b0 < 224
          · rw [first_2 ⟨by omega, by omega⟩] at z; exact absurd z (by decide)
          · by_cases g : b0 < 240
            · rw [first_3 ⟨by omega, g⟩] at z; exact absurd z (show ¬ (2 : Int) = 0 by decide)
            · rw [first_4 ⟨by omega, by omega⟩] at z; exact absurd z (show ¬ (3 : Int) = 0 by decide)
    have hr := first_more o1 hmore b0b
    have h224 : 224 ≤ b0 := by
      by_cases f : b0 < 224
      · rw [first_2 ⟨by omega, by omega⟩] at m1 o2
        by_cases c : 128 ≤ b1 ∧ b1 ≤ 191
        · rw [one_in (by decide) c] at m1; exact absurd rfl m1.1
        · rw [one_out (by decide) (by omega)] at o2; simp at o2
      · omega
    exact begins3 b0 b1 x ⟨h224, hr.2⟩ o2 hx.1 hx.2
  | [b0, b1, b2], hp, hb, hm =>
    intro b r e
    obtain ⟨rfl, _⟩ : b0 = b ∧ [b1, b2, x] = r := by simpa using e
    obtain ⟨o1, h1, e1⟩ := feed_cons s0 b0 [b1, b2] hp
    obtain ⟨o2, h2, e2⟩ := feed_cons _ b1 [b2] h1
    obtain ⟨o3, e3⟩ := feed_one _ b2 h2
    rw [oneC_s0] at o1 o2 o3 e1 e2 e3
    have m1 := hm b0 [b1, b2] rfl
    rw [e1, e2, e3] at m1 ⊢
    have hok := oneC_ok (oneC_ok (firstC_ok b0) b1) b2
    have hs4 : sizeC b0 = 4 := by
      have := sizeC_le b0
      unfold okS at hok
      simp only [List.length_cons, List.length_nil] at m1
      omega
    have h240 : 240 ≤ b0 ∧ b0 < 248 := by
      unfold sizeC at hs4
      split at hs4
      · omega
      · split at hs4
        · omega
        · split at hs4
          · omega
          · split at hs4 <;> omega
    have h245 : b0 < 245 := by
      by_cases d : 245 ≤ b0
      · rw [first_0 (.inr d)] at o1; simp at o1
      · omega
    exact begins4 b0 b1 b2 x ⟨h240.1, h245⟩ o2 o3 hx.1 hx.2
  | b0 :: b1 :: b2 :: b3 :: q, hp, hb, hm =>
    have m1 := hm b0 _ rfl
    have hok := feedC_ok (s := s0) (by unfold okS s0; decide) (b0 :: b1 :: b2 :: b3 :: q)
    have := sizeC_le b0
    unfold okS at hok
    simp only [List.length_cons] at m1
    omega

theorem w_add (a b : Nat) (h : a + b ≤ 1000000000000000000) : wrap64 ((a : Int) + (b : Int)) = ((a + b : Nat) : Int) := by unfold wrap64; omega
theorem w_sub1 (a : Nat) (h0 : 1 ≤ a) (h : a ≤ 1000000000000000000) : wrap64 ((a : Int) - 1) = ((a - 1 : Nat) : Int) := by unfold wrap64; omega
/-- What is told from byte 'pos' on, in state st. -/
def resC (pos : Nat) (st : St) (rest : List Int) : Option (Int × Bool) := some (((pos + (feedC st rest).1 : Nat) : Int), !(feedC st rest).2.2 && (feedC st rest).2.1.1 == 0)
theorem good_loops (s : ByteArray) (hs : s.size ≤ 140737488351232) (d : Nat) :
    (∀ pos k : Nat, s.size - pos = d → pos ≤ s.size → 2 * d + 41 ≤ k → louverref15_Good.l0 k s (pos : Int) = resC pos s0 ((bs s).drop pos)) ∧
    (∀ at_ n k : Nat, s.size - (at_ + n - 1) = d → 1 ≤ n → at_ + n ≤ s.size → 2 * d + 40 ≤ k → (feedC s0 (((bs s).drop at_).take (n - 1))).2.2 = false →
      (∀ b r, ((bs s).drop at_).take (n - 1) = b :: r → (feedC s0 (((bs s).drop at_).take (n - 1))).2.1.1 ≠ 0 ∧ (feedC s0 (((bs s).drop at_).take (n - 1))).2.1.1 + (n - 1 : Nat) = (sizeC b : Int)) →
      louverref15_Good.l1 k s (at_ : Int) (n : Int) = resC (at_ + n - 1) (feedC s0 (((bs s).drop at_).take (n - 1))).2.1 ((bs s).drop (at_ + n - 1))) := by
  have hl := bs_length s
  induction d with
  | zero =>
    constructor
    · intro pos k hd hp hk
      obtain ⟨k, rfl⟩ : ∃ m, k = m + 1 := ⟨k - 1, by omega⟩
      obtain rfl : pos = s.size := by omega
      have q : ¬ (s.size : Int) < (s.size : Int) := by omega
      rw [louverref15_Good.l0, if_neg q, List.drop_eq_nil_of_le (by omega)]
      rfl
    · intro at_ n k hd hn hp; omega
  | succ d ih =>
    have B : ∀ at_ n k : Nat, s.size - (at_ + n - 1) = d + 1 → 1 ≤ n → at_ + n ≤ s.size → 2 * (d + 1) + 40 ≤ k → (feedC s0 (((bs s).drop at_).take (n - 1))).2.2 = false →
        (∀ b r, ((bs s).drop at_).take (n - 1) = b :: r → (feedC s0 (((bs s).drop at_).take (n - 1))).2.1.1 ≠ 0 ∧ (feedC s0 (((bs s).drop at_).take (n - 1))).2.1.1 + (n - 1 : Nat) = (sizeC b : Int)) →
        louverref15_Good.l1 k s (at_ : Int) (n : Int) = resC (at_ + n - 1) (feedC s0 (((bs s).drop at_).take (n - 1))).2.1 ((bs s).drop (at_ + n - 1)) := by
      intro at_ n k hd hn hp hk hgood hm
      obtain ⟨k, rfl⟩ : ∃ m, k = m + 1 := ⟨k - 1, by omega⟩
      have hpos : at_ + n - 1 < (bs s).length := by omega
      obtain ⟨pos, epos⟩ : ∃ pos, pos = at_ + n - 1 := ⟨_, rfl⟩
      have hsplit : ((bs s).drop at_).take n = ((bs s).drop at_).take (n - 1) ++ [(bs s)[at_ + n - 1]] := by
        have e : n = (n - 1) + 1 := by omega
        have hlt : n - 1 < ((bs s).drop at_).length := by rw [List.length_drop]; omega
        conv => lhs; rw [e]
        rw [List.take_succ_eq_append_getElem hlt]
        congr 2
        rw [List.getElem_drop]
        congr 1
        omega
      have hdrop : (bs s).drop (at_ + n - 1) = (bs s)[at_ + n - 1] :: (bs s).drop (at_ + n) := by
        rw [(List.getElem_cons_drop hpos).symm, show at_ + n - 1 + 1 = at_ + n by omega]
      have hbytes : ∀ y ∈ ((bs s).drop at_).take (n - 1) ++ [(bs s)[at_ + n - 1]], 0 ≤ y ∧ y ≤ 255 := by
        rw [← hsplit]
        exact fun y hy => bs_byte s y (List.drop_subset _ _ (List.take_subset _ _ hy))
      have hlenp : (((bs s).drop at_).take (n - 1)).length = n - 1 := by rw [List.length_take, List.length_drop]; omega
      have hat : at_ < (bs s).length := by omega
      have hhead : ∃ r, ((bs s).drop at_).take n = (bs s)[at_] :: r := by
        rw [(List.getElem_cons_drop hat).symm]
        obtain ⟨m, rfl⟩ : ∃ m, n = m + 1 := ⟨n - 1, by omega⟩
        exact ⟨_, List.take_succ_cons⟩
      obtain ⟨r, hr⟩ := hhead
      have key := begins_step _ _ hgood hbytes (fun b r e => by rw [hlenp]; exact hm b r e) (bs s)[at_] r (by rw [← hsplit]; exact hr)
      have hsz : (s.extract at_ (at_ + n)).size = n := by rw [← bs_length, bs_extract, List.length_take, List.length_drop]; omega
      have hbe := begins_f (s.extract at_ (at_ + n)) (by omega) k (by omega)
      rw [bs_extract, show at_ + n - at_ = n by omega, hsplit] at hbe
      have hbt := bt_bs s at_ hat
      obtain ⟨IA, IB⟩ := ih
      have IA' := IA (at_ + n) k (by omega) (by omega) (by omega)
      have q0 : 0 ≤ (at_ : Int) := by omega
      have q1 : (at_ : Int) ≤ ((at_ + n : Nat) : Int) := by omega
      have q2 : ((at_ + n : Nat) : Int) ≤ (s.size : Int) := by omega
      have q3 : (at_ : Int) < (s.size : Int) := by omega
      have hcase : at_ + n = s.size ∨ at_ + n < s.size := by omega
      have hsize2 : at_ + n = s.size → (bs s).drop (at_ + n) = [] := fun h => List.drop_eq_nil_of_le (by omega)
      have hne2 : at_ + n < s.size → (bs s).drop (at_ + n) ≠ [] := by
        intro h e
        have := congrArg List.length e
        rw [List.length_drop] at this
        simp at this
        omega
      have b1 : at_ + n ≤ 1000000000000000000 := by omega
      have b2 : 1 ≤ at_ + n := by omega
      have b3 : n ≤ 1000000000000000000 := by omega
      have b4 : 3 ≤ k := by omega
      have IB' := fun h1 h2 => IB at_ (n + 1) k (by omega) (by omega) (show at_ + (n + 1) ≤ s.size from h1) (by omega) h2
      have hn1 : n + 1 - 1 = n := by omega
      have hpn : at_ + (n + 1) - 1 = at_ + n := by omega
      have hcast : ∀ m : Nat, ((n : Int) = (m : Int)) ↔ n = m := fun m => by omega
      have hcast2 : (((at_ + n : Nat) : Int) = (s.size : Int)) ↔ at_ + n = s.size := by omega
      have hpl : ∀ m : Nat, at_ + n - 1 + (m + 1) = at_ + n + m := fun m => by omega
      have hlen1 : (n - 1) + 1 = n := by omega
      clear IA IB hk hd
      rw [louverref15_Good.l1]
      simp only [w_add at_ n b1, Int.toNat_natCast]
      rw [if_pos q0, if_pos q1, if_pos q2, hbe]
      simp only [Option.bind_some]
      rw [key.1, hdrop]
      clear hbe q0 q1 q2
      generalize hst : (feedC s0 (((bs s).drop at_).take (n - 1))).2.1 = st at *
      generalize hx : (bs s)[at_ + n - 1] = x at *
      by_cases c : (oneC st x).1 = true
      · rw [if_pos c, if_pos q3, hbt, size_f k b4]
        simp only [Option.bind_some]
        have hm2 := key.2 c
        have hlen2 : (((bs s).drop at_).take (n - 1) ++ [x]).length = n := by rw [List.length_append, hlenp]; exact hlen1
        rw [hlen2] at hm2
        have hfeed : resC (at_ + n - 1) st (x :: (bs s).drop (at_ + n)) = resC (at_ + n) (oneC st x).2 ((bs s).drop (at_ + n)) := by
          unfold resC
          rw [feedC_pos c, hpl]
        rw [hfeed]
        by_cases z : n = sizeC (bs s)[at_]
        · rw [if_pos ((hcast _).2 z), IA']
          have z0 : (oneC st x).2.1 = 0 := by
            rw [← z] at hm2
            clear hbt
            omega
          rcases hcase with h | h
          · rw [hsize2 h]
            unfold resC
            simp [feedC, z0, s0]
          · unfold resC
            rw [feedC_zero z0 (hne2 h)]
        · have znz : ¬ (oneC st x).2.1 = 0 := by
            intro e
            rw [e] at hm2
            exact z ((hcast _).1 (by rw [← hm2]; exact (Int.zero_add _).symm))
          rw [if_neg (fun e => z ((hcast _).1 e))]
          rcases hcase with h | h
          · rw [if_pos (hcast2.2 h), hsize2 h]
            unfold resC
            simp [feedC, znz, h]
          · rw [if_neg (fun e => Nat.ne_of_lt h (hcast2.1 e)), step_i b3]
            have hst2 : (feedC s0 (((bs s).drop at_).take (n + 1 - 1))).2.1 = (oneC st x).2 ∧ (feedC s0 (((bs s).drop at_).take (n + 1 - 1))).2.2 = false := by
              rw [hn1, hsplit, feedC_append_good hgood, hst, feedC_pos c]
              exact ⟨rfl, rfl⟩
            have L := IB' h hst2.2 (fun b r2 e => by
              rw [hn1, hr] at e
              injection e with e1 _
              rw [hst2.1, ← e1, hn1]
              exact ⟨znz, hm2⟩)
            rw [hst2.1, hpn] at L
            exact L
      · rw [if_neg c, w_sub1 (at_ + n) b2 b1]
        unfold resC
        rw [feedC_neg c]
        simp
    refine ⟨?_, B⟩
    intro pos k hd hp hk
    obtain ⟨k, rfl⟩ : ∃ m, k = m + 1 := ⟨k - 1, by omega⟩
    have q : (pos : Int) < (s.size : Int) := by omega
    have L := B pos 1 k (by omega) (by omega) (by omega) (by omega) rfl (by intro b r e; exact absurd e (by simp))
    rw [louverref15_Good.l0, if_pos q, show (1 : Int) = ((1 : Nat) : Int) from rfl, L]
    rfl
/-- The document's answer. -/
theorem good_f (s : ByteArray) (hs : s.size ≤ 140737488351232) (k : Nat) (hk : 2 * s.size + 41 ≤ k) : louverref15_Good.f k s = some (((feedC s0 (bs s)).1 : Int), validC (bs s)) := by
  unfold louverref15_Good.f
  have := (good_loops s hs s.size).1 0 k (by omega) (by omega) hk
  rw [show ((0 : Nat) : Int) = 0 from rfl] at this
  rw [this]
  unfold resC validC
  simp
end Go.Proofs.YtbjjobifpmjhhaaDoor.U

/- As many whole letters of a reason as there is room for: the program's and the document's are the same; what a close bears. -/
namespace Go.Proofs.YtbjjobifpmjhhaaDoor.U
open Go.RowKit Go.Proofs.YtbjjobifpmjhhaaDoorW.PrintWords Go.Proofs.YtbjjobifpmjhhaaDoorW.PrintLast Go.Proofs.YtbjjobifpmjhhaaDoor.PAll
set_option linter.unusedVariables false
theorem told_f (c : Int) : louverref18_Told.f c = some (toldB c) := by
  unfold louverref18_Told.f toldB
  by_cases h1 : c ≥ 1000
  · by_cases h2 : c < 5000
    · by_cases h3 : c = 1004
      · subst h3; rfl
      · by_cases h4 : c = 1005
        · subst h4; rfl
        · by_cases h5 : c = 1006
          · subst h5; rfl
          · rw [if_pos h1, if_pos h2, if_neg h3, if_neg h4, if_neg h5]
            by_cases h6 : c < 1015
            · rw [if_pos h6]
              congr 1
              simp
              omega
            · rw [if_neg h6]
              congr 1
              rw [Bool.eq_iff_iff]
              simp
              omega
    · rw [if_pos h1, if_neg h2]
      congr 1
      simp
      omega
  · rw [if_neg h1]
    congr 1
    simp
    omega
end Go.Proofs.YtbjjobifpmjhhaaDoor.U

