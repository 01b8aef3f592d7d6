/- The document's answer for texts (printed) is the machine's: how many bytes stand ahead of the bad one, and whether all is a text. -/
import Derived.Test.YtbjjobifpmjhhaaDoorGood1
namespace Go.Proofs.YtbjjobifpmjhhaaDoor.U
open Go.RowKit Go.Proofs.YtbjjobifpmjhhaaDoorW.PrintWords Go.Proofs.YtbjjobifpmjhhaaDoorW.PrintLast Go.Proofs.YtbjjobifpmjhhaaDoor.PAll
set_option linter.unusedVariables false

/-- What lo and hi may be with d bytes to come. -/
def capC : Nat → Int
  | 0 => 300000000
  | 1 => 3000000
  | 2 => 30000
  | _ => 300
theorem capC_step (d : Nat) (hd : d ≤ 2) (x : Int) (h : x ≤ capC (d + 1)) : 64 * x + 255 ≤ capC d := by
  match d, hd with
  | 0, _ => simp only [capC] at *; omega
  | 1, _ => simp only [capC] at *; omega
  | 2, _ => simp only [capC] at *; omega
theorem capC_le (d : Nat) : capC (d + 1) ≤ 3000000 := by
  match d with
  | 0 => simp [capC]
  | 1 => simp [capC]
  | n + 2 => simp [capC]
theorem mn_C (a b : Int) : mn a b = mnC a b := by unfold mn mnC; rfl
theorem mx_C (a b : Int) : mx a b = mxC a b := by unfold mx mxC; rfl
theorem w_in (x : Int) (h0 : -9223372036854775808 ≤ x) (h1 : x ≤ 9223372036854775807) : wrap64 x = x := by unfold wrap64; omega
theorem step_w {lo x : Int} (h0 : 0 ≤ lo) (h1 : lo ≤ 3000000) (hx : 0 ≤ x ∧ x ≤ 255) : wrap64 (wrap64 (wrap64 (64 * lo) + wrap64 x) - 128) = 64 * lo + x - 128 := by
  rw [w_in (64 * lo) (by omega) (by omega), w_in x (by omega) (by omega), w_in (64 * lo + x) (by omega) (by omega), w_in _ (by omega) (by omega)]
theorem step_z {lo : Int} (h0 : 0 ≤ lo) (h1 : lo ≤ 3000000) : wrap64 (64 * lo) = 64 * lo := w_in _ (by omega) (by omega)
theorem step_h {hi : Int} (h0 : 0 ≤ hi) (h1 : hi ≤ 3000000) : wrap64 (wrap64 (64 * hi) + 63) = 64 * hi + 63 := by
  rw [w_in (64 * hi) (by omega) (by omega), w_in _ (by omega) (by omega)]
theorem step_i {i : Nat} (h : i ≤ 1000000000000000000) : wrap64 ((i : Int) + 1) = ((i + 1 : Nat) : Int) := by unfold wrap64; omega
theorem spread_loop (s : ByteArray) (n : Nat) (hn : s.size ≤ n) (hn4 : n ≤ 4) (d : Nat) (hd4 : d ≤ 3) : ∀ (i k : Nat) (lo hi : Int), n - i = d → i ≤ n → 0 ≤ lo → lo ≤ hi → hi ≤ capC d → d + 20 ≤ k →
    louverref15_begins.l0 k s (n : Int) lo hi (i : Int) = some (anyC (bs s) n (spreadC d ((bs s).drop i) lo hi)) := by
  have hsl := bs_length s
  induction d with
  | zero =>
    intro i k lo hi hd hi' h0 hle hc hk
    obtain ⟨k, rfl⟩ : ∃ m, k = m + 1 := ⟨k - 1, by omega⟩
    obtain rfl : i = n := by omega
    have q : ¬ (i : Int) < (i : Int) := by omega
    have hl : ([lo, hi, mnC hi 1114111, mxC lo 2048, mxC lo 65536, mxC lo 128, mnC hi 55295, mxC lo 57344] : List Int) = candsC lo hi := rfl
    have L := cands_loop s i lo hi h0 hn (candsC lo hi) (by simp [candsC]) 8 0 k (by simp [candsC]) (by simp) (by omega)
    rw [show ((0 : Nat) : Int) = 0 from rfl] at L
    rw [louverref15_begins.l0, if_neg q]
    simp only [Option.bind_some, mn_C, mx_C]
    rw [hl, L]
    simp [anyC, spreadC]
  | succ d ih =>
    intro i k lo hi hd hi' h0 hle hc hk
    obtain ⟨k, rfl⟩ : ∃ m, k = m + 1 := ⟨k - 1, by omega⟩
    have q : (i : Int) < (n : Int) := by omega
    have q0 : 0 ≤ (i : Int) := by omega
    have c1 := capC_step d (by omega) hi hc
    have c2 : hi ≤ 3000000 := Int.le_trans hc (capC_le d)
    have hlo : lo ≤ 3000000 := Int.le_trans hle c2
    have hhi : 0 ≤ hi := Int.le_trans h0 hle
    have hi1 : n - (i + 1) = d := by omega
    have hi2 : i + 1 ≤ n := by omega
    have hk2 : d + 20 ≤ k := by omega
    have hd3 : d ≤ 3 := by omega
    have h18 : i ≤ 1000000000000000000 := by omega
    generalize hC : capC d = C at c1
    by_cases p : i < (bs s).length
    · have p' : (i : Int) < (s.size : Int) := by omega
      have hbyte := bs_byte s _ (List.getElem_mem p)
      have eb := bt_bs s i p
      have ed : (bs s).drop i = (bs s)[i] :: (bs s).drop (i + 1) := (List.getElem_cons_drop p).symm
      rw [louverref15_begins.l0, if_pos q, if_pos p', if_pos q0, eb, ed]
      clear eb ed hsl hn q q0 p'
      generalize (bs s)[i] = x at hbyte
      by_cases a : x < 128
      · rw [if_pos a, spread_bad d (.inl a)]; rfl
      · rw [if_neg a]
        by_cases b : 191 < x
        · rw [if_pos (show x > 191 from b), spread_bad d (.inr b)]; rfl
        · have m1 : 0 ≤ 64 * lo + x - 128 := by omega
          have m2 : 64 * lo + x - 128 ≤ 64 * hi + x - 128 := by omega
          have m3 : 64 * hi + x - 128 ≤ C := by omega
          have m4 : 128 ≤ x ∧ x ≤ 191 := by omega
          rw [if_neg (show ¬ x > 191 from b), step_w h0 hlo hbyte, step_w hhi c2 hbyte, step_i h18, spread_ok d m4]
          exact ih hd3 (i + 1) k _ _ hi1 hi2 m1 m2 (by rw [hC]; exact m3) hk2
    · have p' : ¬ (i : Int) < (s.size : Int) := by omega
      have ed : (bs s).drop i = [] := List.drop_eq_nil_of_le (by omega)
      have ed2 : (bs s).drop (i + 1) = [] := List.drop_eq_nil_of_le (by omega)
      have L := ih hd3 (i + 1) k (64 * lo) (64 * hi + 63) hi1 hi2 (by omega) (by omega) (by rw [hC]; omega) hk2
      rw [louverref15_begins.l0, if_pos q, if_neg p', ed, step_z h0 hlo, step_h hhi c2, step_i h18]
      rw [ed2] at L
      rw [L]
      rfl
theorem begins_f (s : ByteArray) (hs : 0 < s.size) (k : Nat) (hk : 30 ≤ k) : louverref15_begins.f k s = some (beginsC (bs s)) := by
  have hl := bs_length s
  have h0 : 0 < (bs s).length := by omega
  obtain ⟨b, r, er⟩ : ∃ b r, bs s = b :: r := by
    cases e : bs s with
    | nil => rw [e] at h0; simp at h0
    | cons b r => exact ⟨b, r, rfl⟩
  have eb : bt s 0 = b := by
    have := bt_bs s 0 h0
    rw [show ((0 : Nat) : Int) = 0 from rfl] at this
    rw [this]; simp [er]
  have hb : 0 ≤ b ∧ b ≤ 255 := bs_byte s b (by rw [er]; simp)
  have hsz : s.size = r.length + 1 := by rw [← hl, er]; rfl
  have q : 0 < (s.size : Int) := by omega
  have ed : (bs s).drop 1 = r := by rw [er]; rfl
  unfold louverref15_begins.f
  rw [if_pos q, eb, size_f k (by omega)]
  simp only [Option.bind_some]
  by_cases c : sizeC b < r.length + 1
  · rw [if_pos (by omega), er]
    simp only [beginsC]
    rw [if_pos c]
  · rw [if_neg (by omega), er, begins_cons b r (by omega)]
    have w0 : wrap64 b = b := w_in _ (by omega) (by omega)
    have go : ∀ (n : Nat) (x : Int), sizeC b = n → 1 ≤ n → n ≤ 4 → 0 ≤ x → x ≤ 300 → louverref15_begins.j0 k s (sizeC b : Int) x = some (anyC (b :: r) n (spreadC (n - 1) r x x)) := by
      intro n x hn h1 h4 hx0 hx1
      obtain ⟨k, rfl⟩ : ∃ m, k = m + 1 := ⟨k - 1, by omega⟩
      rw [louverref15_begins.j0, hn]
      have cc : (300 : Int) ≤ capC (n - 1) := by
        have : n - 1 = 0 ∨ n - 1 = 1 ∨ n - 1 = 2 ∨ n - 1 = 3 := by omega
        rcases this with e | e | e | e <;> rw [e] <;> decide
      have := spread_loop s n (by omega) h4 (n - 1) (by omega) 1 k x x (by omega) (by omega) hx0 (Int.le_refl _) (by omega) (by omega)
      rw [show ((1 : Nat) : Int) = 1 from rfl, ed, er] at this
      exact this
    have hcases : b < 128 ∨ (192 ≤ b ∧ b < 224) ∨ (224 ≤ b ∧ b < 240) ∨ (240 ≤ b ∧ b < 248) := by
      by_cases z : sizeC b = 0
      · omega
      · by_cases y : (128 ≤ b ∧ b < 192) ∨ 248 ≤ b
        · exact absurd (sizeC_0 y) z
        · omega
    rw [w0]
    rcases hcases with h | h | h | h
    · have e := sizeC_1 h
      have g := go 1 b e (by decide) (by decide) (by omega) (by omega)
      have eb2 : baseC b = b := by unfold baseC; rw [e]; rfl
      rw [eb2]
      rw [e] at g ⊢
      simp only [show ¬ ((1 : Nat) : Int) = 2 by decide, show ¬ ((1 : Nat) : Int) = 3 by decide, show ¬ ((1 : Nat) : Int) = 4 by decide, if_false]
      exact g
    · have e := sizeC_2 h
      have g := go 2 (b - 192) e (by decide) (by decide) (by omega) (by omega)
      rw [base2 h, w_in (b - 192) (by omega) (by omega)]
      rw [e] at g ⊢
      rw [if_pos (by decide)]
      exact g
    · have e := sizeC_3 h
      have g := go 3 (b - 224) e (by decide) (by decide) (by omega) (by omega)
      rw [base3 h, w_in (b - 224) (by omega) (by omega)]
      rw [e] at g ⊢
      rw [if_neg (by decide), if_pos (by decide)]
      exact g
    · have e := sizeC_4 h
      have g := go 4 (b - 240) e (by decide) (by decide) (by omega) (by omega)
      rw [base4 h, w_in (b - 240) (by omega) (by omega)]
      rw [e] at g ⊢
      rw [if_neg (by decide), if_neg (by decide), if_pos (by decide)]
      exact g
end Go.Proofs.YtbjjobifpmjhhaaDoor.U
