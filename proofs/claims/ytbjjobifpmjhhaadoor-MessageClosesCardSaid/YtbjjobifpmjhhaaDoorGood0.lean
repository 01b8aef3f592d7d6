/- The document's letters (candidates, written out) against the machine over bytes: plain Lean. -/
import Derived.Test.YtbjjobifpmjhhaaDoorUtf0
namespace Go.Proofs.YtbjjobifpmjhhaaDoor.U
set_option linter.unusedVariables false

def sizeC (b : Int) : Nat := if b < 128 then 1 else if 192 ≤ b ∧ b < 224 then 2 else if 224 ≤ b ∧ b < 240 then 3 else if 240 ≤ b ∧ b < 248 then 4 else 0
def writeC (c : Int) : List Int :=
  if c < 128 then [c] else if c < 2048 then [192 + c / 64, 128 + c % 64] else if c < 65536 then [224 + c / 4096, 128 + c / 64 % 64, 128 + c % 64]
  else [240 + c / 262144, 128 + c / 4096 % 64, 128 + c / 64 % 64, 128 + c % 64]
def testC (w : List Int) (n : Nat) (lo hi c : Int) : Bool :=
  decide (lo ≤ c) && (decide (c ≤ hi) && (decide (c < 1114112) && ((decide (c < 55296) || decide (57343 < c)) && (decide ((writeC c).length = n) && decide ((writeC c).take w.length = w)))))
def mnC (a b : Int) : Int := if b < a then b else a
def mxC (a b : Int) : Int := if a < b then b else a
def candsC (lo hi : Int) : List Int := [lo, hi, mnC hi 1114111, mxC lo 2048, mxC lo 65536, mxC lo 128, mnC hi 55295, mxC lo 57344]
def spreadC : Nat → List Int → Int → Int → Option (Int × Int)
  | 0, _, lo, hi => some (lo, hi)
  | n + 1, [], lo, hi => spreadC n [] (64 * lo) (64 * hi + 63)
  | n + 1, b :: r, lo, hi => if b < 128 ∨ 191 < b then none else spreadC n r (64 * lo + b - 128) (64 * hi + b - 128)
def baseC (b : Int) : Int := if sizeC b = 2 then b - 192 else if sizeC b = 3 then b - 224 else if sizeC b = 4 then b - 240 else b
def anyC (w : List Int) (n : Nat) : Option (Int × Int) → Bool
  | none => false
  | some p => (candsC p.1 p.2).any (testC w n p.1 p.2)
def beginsC : List Int → Bool
  | [] => false
  | b :: r => if sizeC b < r.length + 1 then false else anyC (b :: r) (sizeC b) (spreadC (sizeC b - 1) r (baseC b) (baseC b))

theorem test_iff (w : List Int) (n : Nat) (lo hi c : Int) : testC w n lo hi c = true ↔ lo ≤ c ∧ c ≤ hi ∧ c < 1114112 ∧ (c < 55296 ∨ 57343 < c) ∧ (writeC c).length = n ∧ (writeC c).take w.length = w := by
  simp [testC]
theorem len1 (c : Int) : (writeC c).length = 1 ↔ c < 128 := by
  unfold writeC; repeat' split
  all_goals simp; try omega
theorem len2 (c : Int) : (writeC c).length = 2 ↔ 128 ≤ c ∧ c < 2048 := by
  unfold writeC; repeat' split
  all_goals simp; try omega
theorem len3 (c : Int) : (writeC c).length = 3 ↔ 2048 ≤ c ∧ c < 65536 := by
  unfold writeC; repeat' split
  all_goals simp; try omega
theorem len4 (c : Int) : (writeC c).length = 4 ↔ 65536 ≤ c := by
  unfold writeC; repeat' split
  all_goals simp; try omega
theorem write2 {c : Int} (h : 128 ≤ c ∧ c < 2048) : writeC c = [192 + c / 64, 128 + c % 64] := by
  unfold writeC; rw [if_neg (by omega), if_pos (by omega)]
theorem write3 {c : Int} (h : 2048 ≤ c ∧ c < 65536) : writeC c = [224 + c / 4096, 128 + c / 64 % 64, 128 + c % 64] := by
  unfold writeC; rw [if_neg (by omega), if_neg (by omega), if_pos (by omega)]
theorem write4 {c : Int} (h : 65536 ≤ c) : writeC c = [240 + c / 262144, 128 + c / 4096 % 64, 128 + c / 64 % 64, 128 + c % 64] := by
  unfold writeC; rw [if_neg (by omega), if_neg (by omega), if_neg (by omega)]
theorem any2 {w : List Int} {lo hi : Int} (hpre : ∀ c, lo ≤ c → c ≤ hi → 128 ≤ c → c < 2048 → (writeC c).take w.length = w) (h0 : 0 ≤ lo) (hl : lo ≤ hi) :
    (candsC lo hi).any (testC w 2 lo hi) = true ↔ lo ≤ 2047 ∧ 128 ≤ hi := by
  rw [List.any_eq_true]
  constructor
  · rintro ⟨c, _, h⟩
    obtain ⟨a1, a2, _, _, a5, _⟩ := (test_iff ..).1 h
    rw [len2] at a5
    omega
  · rintro ⟨a, b⟩
    refine ⟨mxC lo 128, by simp [candsC], (test_iff ..).2 ?_⟩
    have e : lo ≤ mxC lo 128 ∧ mxC lo 128 ≤ hi ∧ 128 ≤ mxC lo 128 ∧ mxC lo 128 < 2048 := by unfold mxC; split <;> omega
    exact ⟨e.1, e.2.1, by omega, by omega, (len2 _).2 ⟨e.2.2.1, e.2.2.2⟩, hpre _ e.1 e.2.1 e.2.2.1 e.2.2.2⟩
theorem any3 {w : List Int} {lo hi : Int} (hpre : ∀ c, lo ≤ c → c ≤ hi → 2048 ≤ c → c < 65536 → (writeC c).take w.length = w) (h0 : 0 ≤ lo) (hl : lo ≤ hi) (hh : hi < 65536) :
    (candsC lo hi).any (testC w 3 lo hi) = true ↔ 2048 ≤ hi ∧ (lo < 55296 ∨ 57343 < hi) := by
  rw [List.any_eq_true]
  constructor
  · rintro ⟨c, _, h⟩
    obtain ⟨a1, a2, _, a4, a5, _⟩ := (test_iff ..).1 h
    rw [len3] at a5
    omega
  · rintro ⟨a, b⟩
    have key : ∃ c, c ∈ candsC lo hi ∧ lo ≤ c ∧ c ≤ hi ∧ 2048 ≤ c ∧ (c < 55296 ∨ 57343 < c) := by
      by_cases p : lo < 55296
      · exact ⟨mxC lo 2048, by simp [candsC], by unfold mxC; split <;> omega, by unfold mxC; split <;> omega, by unfold mxC; split <;> omega, by unfold mxC; split <;> omega⟩
      · exact ⟨mxC lo 57344, by simp [candsC], by unfold mxC; split <;> omega, by unfold mxC; split <;> omega, by unfold mxC; split <;> omega, by unfold mxC; split <;> omega⟩
    obtain ⟨c, hc, c1, c2, c3, c4⟩ := key
    exact ⟨c, hc, (test_iff ..).2 ⟨c1, c2, by omega, c4, (len3 _).2 ⟨c3, by omega⟩, hpre _ c1 c2 c3 (by omega)⟩⟩
theorem any4 {w : List Int} {lo hi : Int} (hpre : ∀ c, lo ≤ c → c ≤ hi → 65536 ≤ c → c < 1114112 → (writeC c).take w.length = w) (h0 : 0 ≤ lo) (hl : lo ≤ hi) :
    (candsC lo hi).any (testC w 4 lo hi) = true ↔ 65536 ≤ hi ∧ lo < 1114112 := by
  rw [List.any_eq_true]
  constructor
  · rintro ⟨c, _, h⟩
    obtain ⟨a1, a2, a3, a4, a5, _⟩ := (test_iff ..).1 h
    rw [len4] at a5
    omega
  · rintro ⟨a, b⟩
    have e : lo ≤ mxC lo 65536 ∧ mxC lo 65536 ≤ hi ∧ 65536 ≤ mxC lo 65536 ∧ mxC lo 65536 < 1114112 := by unfold mxC; split <;> omega
    exact ⟨mxC lo 65536, by simp [candsC], (test_iff ..).2 ⟨e.1, e.2.1, by omega, by omega, (len4 _).2 e.2.2.1, hpre _ e.1 e.2.1 e.2.2.1 e.2.2.2⟩⟩
theorem bool_iff {a b : Bool} (h : a = true ↔ b = true) : a = b := by cases a <;> cases b <;> simp_all

theorem sizeC_1 {b : Int} (h : b < 128) : sizeC b = 1 := by unfold sizeC; rw [if_pos h]
theorem sizeC_2 {b : Int} (h : 192 ≤ b ∧ b < 224) : sizeC b = 2 := by unfold sizeC; rw [if_neg (by omega), if_pos h]
theorem sizeC_3 {b : Int} (h : 224 ≤ b ∧ b < 240) : sizeC b = 3 := by unfold sizeC; rw [if_neg (by omega), if_neg (by omega), if_pos h]
theorem sizeC_4 {b : Int} (h : 240 ≤ b ∧ b < 248) : sizeC b = 4 := by unfold sizeC; rw [if_neg (by omega), if_neg (by omega), if_neg (by omega), if_pos h]
theorem sizeC_0 {b : Int} (h : (128 ≤ b ∧ b < 192) ∨ 248 ≤ b) : sizeC b = 0 := by unfold sizeC; rw [if_neg (by omega), if_neg (by omega), if_neg (by omega), if_neg (by omega)]
/-- The machine's first byte, by sizes. -/
theorem first_2 {b : Int} (h : 194 ≤ b ∧ b ≤ 223) : firstC b = (true, 1, 128, 191) := by
  unfold firstC; rw [if_neg (by omega), if_pos (by omega)]
def lo3 (b : Int) : Int := if b = 224 then 160 else 128
def hi3 (b : Int) : Int := if b = 237 then 159 else 191
def lo4 (b : Int) : Int := if b = 240 then 144 else 128
def hi4 (b : Int) : Int := if b = 244 then 143 else 191
theorem first_3 {b : Int} (h : 224 ≤ b ∧ b < 240) : firstC b = (true, 2, lo3 b, hi3 b) := by
  unfold firstC lo3 hi3
  have hc : b = 224 ∨ (225 ≤ b ∧ b ≤ 236) ∨ b = 237 ∨ (238 ≤ b ∧ b ≤ 239) := by omega
  rcases hc with h | h | h | h
  all_goals simp (disch := omega) only [if_pos, if_neg]
theorem first_4 {b : Int} (h : 240 ≤ b ∧ b < 245) : firstC b = (true, 3, lo4 b, hi4 b) := by
  unfold firstC lo4 hi4
  have hc : b = 240 ∨ (241 ≤ b ∧ b ≤ 243) ∨ b = 244 := by omega
  rcases hc with h | h | h
  all_goals simp (disch := omega) only [if_pos, if_neg]
theorem first_1 {b : Int} (h : b < 128) : firstC b = (true, 0, 128, 191) := by unfold firstC; rw [if_pos h]
theorem first_0 {b : Int} (h : (128 ≤ b ∧ b < 194) ∨ 245 ≤ b) : firstC b = (false, 0, 128, 191) := by
  unfold firstC
  simp (disch := omega) only [if_neg]

theorem begins1 (x : Int) (h0 : 0 ≤ x) (h1 : x ≤ 255) : beginsC [x] = (firstC x).1 ∧ ((firstC x).1 = true → (firstC x).2.1 + 1 = (sizeC x : Int)) := by
  have hc : x < 128 ∨ (128 ≤ x ∧ x < 192) ∨ (192 ≤ x ∧ x < 224) ∨ (224 ≤ x ∧ x < 240) ∨ (240 ≤ x ∧ x < 248) ∨ 248 ≤ x := by omega
  rcases hc with h | h | h | h | h | h
  · refine ⟨?_, by rw [first_1 h, sizeC_1 h]; decide⟩
    rw [first_1 h]
    have e : testC [x] 1 x x x = true := by
      refine (test_iff ..).2 ⟨by omega, by omega, by omega, by omega, (len1 _).2 h, ?_⟩
      unfold writeC; rw [if_pos h]; rfl
    simp [beginsC, sizeC_1 h, spreadC, baseC, anyC, candsC, e]
  · rw [first_0 (.inl ⟨by omega, by omega⟩)]
    simp [beginsC, sizeC_0 (.inl h)]
  · have e := any2 (w := [x]) (lo := 64 * (x - 192)) (hi := 64 * (x - 192) + 63) (fun c a b d f => by rw [write2 ⟨d, f⟩]; simp; omega) (by omega) (by omega)
    have eb : beginsC [x] = (candsC (64 * (x - 192)) (64 * (x - 192) + 63)).any (testC [x] 2 (64 * (x - 192)) (64 * (x - 192) + 63)) := by
      simp [beginsC, sizeC_2 h, spreadC, baseC, anyC]
    rw [eb]
    by_cases p : 194 ≤ x
    · rw [first_2 ⟨p, by omega⟩, sizeC_2 h]
      exact ⟨e.2 (by omega), by decide⟩
    · rw [first_0 (.inl ⟨by omega, by omega⟩)]
      refine ⟨?_, by simp⟩
      rw [Bool.eq_false_iff]
      intro q
      have := e.1 q
      omega
  · have e := any3 (w := [x]) (lo := 64 * (64 * (x - 224))) (hi := 64 * (64 * (x - 224) + 63) + 63) (fun c a b d f => by rw [write3 ⟨d, f⟩]; simp; omega) (by omega) (by omega) (by omega)
    have eb : beginsC [x] = (candsC (64 * (64 * (x - 224))) (64 * (64 * (x - 224) + 63) + 63)).any (testC [x] 3 (64 * (64 * (x - 224))) (64 * (64 * (x - 224) + 63) + 63)) := by
      simp [beginsC, sizeC_3 h, spreadC, baseC, anyC]
    rw [eb, first_3 h, sizeC_3 h]
    exact ⟨e.2 (by omega), fun _ => rfl⟩
  · have e := any4 (w := [x]) (lo := 64 * (64 * (64 * (x - 240)))) (hi := 64 * (64 * (64 * (x - 240) + 63) + 63) + 63) (fun c a b d f => by rw [write4 d]; simp; omega) (by omega) (by omega)
    have eb : beginsC [x] = (candsC (64 * (64 * (64 * (x - 240)))) (64 * (64 * (64 * (x - 240) + 63) + 63) + 63)).any (testC [x] 4 (64 * (64 * (64 * (x - 240)))) (64 * (64 * (64 * (x - 240) + 63) + 63) + 63)) := by
      simp [beginsC, sizeC_4 h, spreadC, baseC, anyC]
    rw [eb]
    by_cases p : x < 245
    · rw [first_4 ⟨by omega, p⟩, sizeC_4 h]
      exact ⟨e.2 (by omega), fun _ => rfl⟩
    · rw [first_0 (.inr (by omega))]
      refine ⟨?_, by simp⟩
      rw [Bool.eq_false_iff]
      intro q
      have := e.1 q
      omega
  · rw [first_0 (.inr (by omega))]
    simp [beginsC, sizeC_0 (.inr h)]
theorem one_in {m lo hi x : Int} (hm : m ≠ 0) (h : lo ≤ x ∧ x ≤ hi) : oneC (m, lo, hi) x = (true, m - 1, 128, 191) := by
  unfold oneC; rw [if_neg hm, if_neg (by simp only; omega)]
theorem one_out {m lo hi x : Int} (hm : m ≠ 0) (h : x < lo ∨ hi < x) : oneC (m, lo, hi) x = (false, m, lo, hi) := by
  unfold oneC; rw [if_neg hm, if_pos h]
theorem lohi3 (b : Int) : 128 ≤ lo3 b ∧ hi3 b ≤ 191 := by unfold lo3 hi3; constructor <;> split <;> omega
theorem lohi4 (b : Int) : 128 ≤ lo4 b ∧ hi4 b ≤ 191 := by unfold lo4 hi4; constructor <;> split <;> omega
/-- A following byte that is none. -/
theorem spread_bad (n : Nat) {x : Int} (h : x < 128 ∨ 191 < x) (r : List Int) (lo hi : Int) : spreadC (n + 1) (x :: r) lo hi = none := by
  simp only [spreadC]; rw [if_pos h]
theorem spread_ok (n : Nat) {x : Int} (h : 128 ≤ x ∧ x ≤ 191) (r : List Int) (lo hi : Int) : spreadC (n + 1) (x :: r) lo hi = spreadC n r (64 * lo + x - 128) (64 * hi + x - 128) := by
  simp only [spreadC]; rw [if_neg (by omega)]
theorem begins_cons (b : Int) (r : List Int) (h : r.length + 1 ≤ sizeC b) : beginsC (b :: r) = anyC (b :: r) (sizeC b) (spreadC (sizeC b - 1) r (baseC b) (baseC b)) := by
  simp only [beginsC]; rw [if_neg (by omega)]
theorem base2 {b : Int} (h : 192 ≤ b ∧ b < 224) : baseC b = b - 192 := by unfold baseC; rw [sizeC_2 h]; rfl
theorem base3 {b : Int} (h : 224 ≤ b ∧ b < 240) : baseC b = b - 224 := by unfold baseC; rw [sizeC_3 h]; rfl
theorem base4 {b : Int} (h : 240 ≤ b ∧ b < 248) : baseC b = b - 240 := by unfold baseC; rw [sizeC_4 h]; rfl
/-- What the two say of a letter's next byte: the same. -/
def Same (w : List Int) (b0 : Int) (s : St) (x : Int) : Prop := beginsC w = (oneC s x).1 ∧ ((oneC s x).1 = true → (oneC s x).2.1 + w.length = (sizeC b0 : Int))
theorem same_of {w : List Int} {b0 x m lo hi : Int} (hm : m ≠ 0) (h : beginsC w = true ↔ (lo ≤ x ∧ x ≤ hi)) (hs : m - 1 + w.length = (sizeC b0 : Int)) : Same w b0 (m, lo, hi) x := by
  by_cases c : lo ≤ x ∧ x ≤ hi
  · unfold Same; rw [one_in hm c]; exact ⟨h.2 c, fun _ => hs⟩
  · unfold Same; rw [one_out hm (by omega)]
    refine ⟨?_, by simp⟩
    rw [Bool.eq_false_iff]; exact fun q => c (h.1 q)

theorem begins2 (b x : Int) (hb : 194 ≤ b ∧ b < 245) (h0 : 0 ≤ x) (h1 : x ≤ 255) : Same [b, x] b (firstC b).2 x := by
  have hc : b < 224 ∨ (224 ≤ b ∧ b < 240) ∨ 240 ≤ b := by omega
  rcases hc with h | h | h
  · rw [first_2 ⟨by omega, by omega⟩]
    refine same_of (by decide) ?_ (by rw [sizeC_2 ⟨by omega, by omega⟩]; simp)
    rw [begins_cons _ _ (by rw [sizeC_2 ⟨by omega, by omega⟩]; simp), sizeC_2 ⟨by omega, by omega⟩, base2 ⟨by omega, by omega⟩]
    by_cases c : 128 ≤ x ∧ x ≤ 191
    · rw [show 2 - 1 = 0 + 1 from rfl, spread_ok 0 c]
      have e := any2 (w := [b, x]) (lo := 64 * (b - 192) + x - 128) (hi := 64 * (b - 192) + x - 128) (fun c a b d f => by rw [write2 ⟨d, f⟩]; simp; omega) (by omega) (by omega)
      exact ⟨fun _ => c, fun _ => e.2 (by omega)⟩
    · rw [show 2 - 1 = 0 + 1 from rfl, spread_bad 0 (by omega)]
      exact ⟨fun q => by simp [anyC] at q, fun q => absurd q c⟩
  · rw [first_3 h]
    refine same_of (by decide) ?_ (by rw [sizeC_3 h]; simp)
    rw [begins_cons _ _ (by rw [sizeC_3 h]; simp), sizeC_3 h, base3 h]
    have hl := lohi3 b
    by_cases c : 128 ≤ x ∧ x ≤ 191
    · rw [show 3 - 1 = 1 + 1 from rfl, spread_ok 1 c]
      have e := any3 (w := [b, x]) (lo := 64 * (64 * (b - 224) + x - 128)) (hi := 64 * (64 * (b - 224) + x - 128) + 63) (fun c a b d f => by rw [write3 ⟨d, f⟩]; simp; omega) (by omega) (by omega) (by omega)
      refine Iff.trans e ?_
      unfold lo3 hi3
      split <;> split <;> omega
    · rw [show 3 - 1 = 1 + 1 from rfl, spread_bad 1 (by omega)]
      exact ⟨fun q => by simp [anyC] at q, fun q => by omega⟩
  · rw [first_4 ⟨h, by omega⟩]
    have h' : 240 ≤ b ∧ b < 248 := ⟨h, by omega⟩
    refine same_of (by decide) ?_ (by rw [sizeC_4 h']; simp)
    rw [begins_cons _ _ (by rw [sizeC_4 h']; simp), sizeC_4 h', base4 h']
    have hl := lohi4 b
    by_cases c : 128 ≤ x ∧ x ≤ 191
    · rw [show 4 - 1 = 2 + 1 from rfl, spread_ok 2 c]
      have e := any4 (w := [b, x]) (lo := 64 * (64 * (64 * (b - 240) + x - 128))) (hi := 64 * (64 * (64 * (b - 240) + x - 128) + 63) + 63) (fun c a b d f => by rw [write4 d]; simp; omega) (by omega) (by omega)
      refine Iff.trans e ?_
      unfold lo4 hi4
      split <;> split <;> omega
    · rw [show 4 - 1 = 2 + 1 from rfl, spread_bad 2 (by omega)]
      exact ⟨fun q => by simp [anyC] at q, fun q => by omega⟩
theorem begins3 (b b1 x : Int) (hb : 224 ≤ b ∧ b < 245) (hb1 : (oneC (firstC b).2 b1).1 = true) (h0 : 0 ≤ x) (h1 : x ≤ 255) : Same [b, b1, x] b (oneC (firstC b).2 b1).2 x := by
  have hc : (224 ≤ b ∧ b < 240) ∨ 240 ≤ b := by omega
  rcases hc with h | h
  · rw [first_3 h] at hb1 ⊢
    have c1 : lo3 b ≤ b1 ∧ b1 ≤ hi3 b := by
      by_cases q : lo3 b ≤ b1 ∧ b1 ≤ hi3 b
      · exact q
      · rw [one_out (by decide) (by omega)] at hb1; exact absurd hb1 (by simp)
    rw [one_in (by decide) c1]
    have hl := lohi3 b
    refine same_of (by decide) ?_ (by rw [sizeC_3 h]; simp)
    rw [begins_cons _ _ (by rw [sizeC_3 h]; simp), sizeC_3 h, base3 h, show 3 - 1 = 1 + 1 from rfl, spread_ok 1 (by omega)]
    by_cases c : 128 ≤ x ∧ x ≤ 191
    · rw [show 1 = 0 + 1 from rfl, spread_ok 0 c]
      have e := any3 (w := [b, b1, x]) (lo := 64 * (64 * (b - 224) + b1 - 128) + x - 128) (hi := 64 * (64 * (b - 224) + b1 - 128) + x - 128) (fun c a b d f => by rw [write3 ⟨d, f⟩]; simp; omega) (by omega) (by omega) (by omega)
      refine ⟨fun _ => c, fun _ => e.2 ?_⟩
      unfold lo3 hi3 at c1
      split at c1 <;> split at c1 <;> omega
    · rw [show 1 = 0 + 1 from rfl, spread_bad 0 (by omega)]
      exact ⟨fun q => by simp [anyC] at q, fun q => absurd q c⟩
  · have h4 : 240 ≤ b ∧ b < 245 := ⟨h, hb.2⟩
    rw [first_4 h4] at hb1 ⊢
    have h' : 240 ≤ b ∧ b < 248 := ⟨h, by omega⟩
    have c1 : lo4 b ≤ b1 ∧ b1 ≤ hi4 b := by
      by_cases q : lo4 b ≤ b1 ∧ b1 ≤ hi4 b
      · exact q
      · rw [one_out (by decide) (by omega)] at hb1; exact absurd hb1 (by simp)
    rw [one_in (by decide) c1]
    have hl := lohi4 b
    refine same_of (by decide) ?_ (by rw [sizeC_4 h']; simp)
    rw [begins_cons _ _ (by rw [sizeC_4 h']; simp), sizeC_4 h', base4 h', show 4 - 1 = 2 + 1 from rfl, spread_ok 2 (by omega)]
    by_cases c : 128 ≤ x ∧ x ≤ 191
    · rw [show 2 = 1 + 1 from rfl, spread_ok 1 c]
      have e := any4 (w := [b, b1, x]) (lo := 64 * (64 * (64 * (b - 240) + b1 - 128) + x - 128)) (hi := 64 * (64 * (64 * (b - 240) + b1 - 128) + x - 128) + 63) (fun c a b d f => by rw [write4 d]; simp; omega) (by omega) (by omega)
      refine ⟨fun _ => c, fun _ => e.2 ?_⟩
      unfold lo4 hi4 at c1
      split at c1 <;> split at c1 <;> omega
    · rw [show 2 = 1 + 1 from rfl, spread_bad 1 (by omega)]
      exact ⟨fun q => by simp [anyC] at q, fun q => absurd q c⟩
theorem begins4 (b b1 b2 x : Int) (hb : 240 ≤ b ∧ b < 245) (hb1 : (oneC (firstC b).2 b1).1 = true) (hb2 : (oneC (oneC (firstC b).2 b1).2 b2).1 = true) (h0 : 0 ≤ x) (h1 : x ≤ 255) :
    Same [b, b1, b2, x] b (oneC (oneC (firstC b).2 b1).2 b2).2 x := by
  rw [first_4 hb] at hb1 hb2 ⊢
  have h' : 240 ≤ b ∧ b < 248 := ⟨hb.1, by omega⟩
  have c1 : lo4 b ≤ b1 ∧ b1 ≤ hi4 b := by
    by_cases q : lo4 b ≤ b1 ∧ b1 ≤ hi4 b
    · exact q
    · rw [one_out (by decide) (by omega)] at hb1; exact absurd hb1 (by simp)
  rw [one_in (by decide) c1] at hb2 ⊢
  have c2 : 128 ≤ b2 ∧ b2 ≤ 191 := by
    by_cases q : 128 ≤ b2 ∧ b2 ≤ 191
    · exact q
    · rw [one_out (by decide) (by omega)] at hb2; exact absurd hb2 (by simp)
  simp only at hb2 ⊢
  rw [one_in (by decide) c2]
  have hl := lohi4 b
  refine same_of (by decide) ?_ (by rw [sizeC_4 h']; simp)
  rw [begins_cons _ _ (by rw [sizeC_4 h']; simp), sizeC_4 h', base4 h', show 4 - 1 = 2 + 1 from rfl, spread_ok 2 (by omega), show 2 = 1 + 1 from rfl, spread_ok 1 c2]
  by_cases c : 128 ≤ x ∧ x ≤ 191
  · rw [show 1 = 0 + 1 from rfl, spread_ok 0 c]
    have e := any4 (w := [b, b1, b2, x]) (lo := 64 * (64 * (64 * (b - 240) + b1 - 128) + b2 - 128) + x - 128) (hi := 64 * (64 * (64 * (b - 240) + b1 - 128) + b2 - 128) + x - 128) (fun c a b d f => by rw [write4 d]; simp; omega) (by omega) (by omega)
    refine ⟨fun _ => c, fun _ => e.2 ?_⟩
    unfold lo4 hi4 at c1
    split at c1 <;> split at c1 <;> omega
  · rw [show 1 = 0 + 1 from rfl, spread_bad 0 (by omega)]
    exact ⟨fun q => by simp [anyC] at q, fun q => absurd q c⟩
end Go.Proofs.YtbjjobifpmjhhaaDoor.U
