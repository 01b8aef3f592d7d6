import Derived.Test.YtabpngcjlikpkaaDoorPAllx6
import Derived.Test.YtabpngcjlikpkaaDoorPAllx4
namespace Go.Proofs.YtabpngcjlikpkaaDoor.PAll
open Go.RowKit Go.Proofs.YtabpngcjlikpkaaDoorW.PrintWords Go.Proofs.YtabpngcjlikpkaaDoorW.PrintLast Go.Proofs.YtabpngcjlikpkaaDoorW.PrintMore
set_option linter.unusedVariables false
set_option linter.unusedSimpArgs false
/-! Two bytes, bit by bit; a key's bytes; a row turned by a key -/
def xb (x y : Int) : Int := Go.bits .xor .u8 x y
theorem xb_nat (a b : Nat) (ha : a < 256) (hb : b < 256) : xb (a : Int) (b : Int) = ((a ^^^ b : Nat) : Int) := by
  have hx : a ^^^ b < 2 ^ 8 := Nat.xor_lt_two_pow (by omega) (by omega)
  have h1 : (BitVec.ofInt 8 (a : Int)).toNat = a := by
    rw [BitVec.ofInt_natCast, BitVec.toNat_ofNat]; exact Nat.mod_eq_of_lt (by omega)
  have h2 : (BitVec.ofInt 8 (b : Int)).toNat = b := by
    rw [BitVec.ofInt_natCast, BitVec.toNat_ofNat]; exact Nat.mod_eq_of_lt (by omega)
  show IntKind.u8.wrap ((BitVec.ofInt 8 (a : Int) ^^^ BitVec.ofInt 8 (b : Int)).toNat : Int) = _
  have hw : ∀ n : Int, IntKind.u8.wrap n = n % 256 := fun n => by simp [IntKind.wrap, IntKind.bits, IntKind.signed]
  rw [BitVec.toNat_xor, h1, h2, hw]
  omega
def Byte (x : Int) : Prop := 0 ≤ x ∧ x ≤ 255
theorem byte_nat {x : Int} (h : Byte x) : ∃ a : Nat, a < 256 ∧ x = (a : Int) := ⟨x.toNat, by have := h.1; have := h.2; omega, by have := h.1; omega⟩
theorem xb_byte {x y : Int} (hx : Byte x) (hy : Byte y) : Byte (xb x y) := by
  obtain ⟨a, ha, rfl⟩ := byte_nat hx
  obtain ⟨b, hb, rfl⟩ := byte_nat hy
  rw [xb_nat a b ha hb]
  have hx : a ^^^ b < 2 ^ 8 := Nat.xor_lt_two_pow (by omega) (by omega)
  exact ⟨by omega, by omega⟩
theorem xb_twice {x y : Int} (hx : Byte x) (hy : Byte y) : xb (xb x y) y = x := by
  obtain ⟨a, ha, rfl⟩ := byte_nat hx
  obtain ⟨b, hb, rfl⟩ := byte_nat hy
  have hx : a ^^^ b < 2 ^ 8 := Nat.xor_lt_two_pow (by omega) (by omega)
  rw [xb_nat a b ha hb, xb_nat _ b (by omega) hb, Nat.xor_assoc, Nat.xor_self, Nat.xor_zero]
theorem xor_step (a b : Nat) : a ^^^ b = 2 * ((a / 2) ^^^ (b / 2)) + (if a % 2 = b % 2 then 0 else 1) := by
  have h1 : (a ^^^ b) / 2 = (a / 2) ^^^ (b / 2) := Nat.xor_div_two
  have h2 : (a ^^^ b) % 2 = if a % 2 = b % 2 then 0 else 1 := by
    have h := Nat.xor_mod_two_pow (a := a) (b := b) (n := 1)
    rw [show 2 ^ 1 = 2 from rfl] at h
    rw [h]
    have ha : a % 2 = 0 ∨ a % 2 = 1 := by omega
    have hb : b % 2 = 0 ∨ b % 2 = 1 := by omega
    rcases ha with ha | ha <;> rcases hb with hb | hb <;> rw [ha, hb] <;> rfl
  rw [← h1, ← h2]
  omega
theorem xor_loop (c : Nat) : ∀ (m i a b n : Nat), i + m = 8 → a < 2 ^ m → b < 2 ^ m → n < 2 ^ i → louverref16_xor.l0 (m + 1 + c) (a : Int) (b : Int) (n : Int) (((2 ^ i % 256 : Nat)) : Int) (i : Int) = some ((n + 2 ^ i * (a ^^^ b) : Nat) : Int) := by
  intro m
  induction m with
  | zero =>
    intro i a b n hi ha hb hn
    obtain rfl : i = 8 := by omega
    obtain rfl : a = 0 := by simpa using ha
    obtain rfl : b = 0 := by simpa using hb
    rw [show 0 + 1 + c = c + 1 by omega]
    unfold louverref16_xor.l0
    rw [if_neg (by omega)]
    simp
  | succ m ih =>
    intro i a b n hi ha hb hn
    have hp : 2 ^ (m + 1) = 2 * 2 ^ m := by rw [Nat.pow_succ]; omega
    have hq : 2 ^ (i + 1) = 2 * 2 ^ i := by rw [Nat.pow_succ]; omega
    have hle : 2 ^ i ≤ 128 := by
      have := Nat.pow_le_pow_right (n := 2) (by omega) (show i ≤ 7 by omega)
      omega
    have hm8 : 2 ^ m ≤ 128 := by
      have := Nat.pow_le_pow_right (n := 2) (by omega) (show m ≤ 7 by omega)
      omega
    rw [show m + 1 + 1 + c = (m + 1 + c) + 1 by omega]
    unfold louverref16_xor.l0
    have hi1 : wrap64 ((i : Int) + 1) = ((i + 1 : Nat) : Int) := by unfold wrap64; omega
    have hb2 : (((2 ^ i % 256 : Nat) : Int) * 2) % 256 = ((2 ^ (i + 1) % 256 : Nat) : Int) := by rw [hq]; omega
    have ha2 : (Int.tdiv (a : Int) 2) % 256 = ((a / 2 : Nat) : Int) := by
      rw [Int.tdiv_eq_ediv_of_nonneg (by omega)]; omega
    have hb3 : (Int.tdiv (b : Int) 2) % 256 = ((b / 2 : Nat) : Int) := by
      rw [Int.tdiv_eq_ediv_of_nonneg (by omega)]; omega
    have ham : Int.tmod (a : Int) 2 = ((a % 2 : Nat) : Int) := by rw [Int.tmod_eq_emod_of_nonneg (by omega)]; omega
    have hbm : Int.tmod (b : Int) 2 = ((b % 2 : Nat) : Int) := by rw [Int.tmod_eq_emod_of_nonneg (by omega)]; omega
    rw [if_pos (by omega), hi1, hb2, ha2, hb3, ham, hbm]
    have hs := xor_step a b
    by_cases h : a % 2 = b % 2
    · rw [if_pos (by omega), ih (i + 1) (a / 2) (b / 2) n (by omega) (by omega) (by omega) (by omega)]
      rw [if_pos h] at hs
      rw [hs, hq, Nat.add_zero, Nat.mul_right_comm 2, Nat.mul_assoc, Nat.mul_comm 2 (_ ^^^ _), ← Nat.mul_assoc, ← Nat.mul_assoc]
      congr 2
      simp only [Nat.mul_comm, Nat.mul_left_comm, Nat.mul_assoc]
    · have hn2 : ((n : Int) + ((2 ^ i % 256 : Nat) : Int)) % 256 = ((n + 2 ^ i : Nat) : Int) := by omega
      rw [if_neg (by omega), hn2, ih (i + 1) (a / 2) (b / 2) (n + 2 ^ i) (by omega) (by omega) (by omega) (by omega)]
      rw [if_neg h] at hs
      rw [hs, hq, Nat.mul_add, Nat.mul_one]
      congr 2
      simp only [Nat.mul_comm, Nat.mul_left_comm, Nat.mul_assoc]
      omega
theorem ref_xor (c : Nat) {x y : Int} (hx : Byte x) (hy : Byte y) : louverref16_xor.f (c + 9) x y = some (xb x y) := by
  obtain ⟨a, ha, rfl⟩ := byte_nat hx
  obtain ⟨b, hb, rfl⟩ := byte_nat hy
  rw [xb_nat a b ha hb]
  have := xor_loop c 8 0 a b 0 rfl (by omega) (by omega) (by decide)
  unfold louverref16_xor.f
  rw [show c + 9 = 8 + 1 + c by omega]
  simpa using this
def keyOf (k : Int) : List Int := [(k / 16777216) % 256, (k / 65536) % 256, (k / 256) % 256, k % 256]
theorem key_f (k : Int) : wsframe_key.f k = some (keyOf k) := rfl
theorem key_byte (k : Int) (i : Nat) : Byte (rd (keyOf k) ((i % 4 : Nat) : Int)) := by
  have h : i % 4 = 0 ∨ i % 4 = 1 ∨ i % 4 = 2 ∨ i % 4 = 3 := by omega
  rcases h with h | h | h | h <;> rw [h] <;> refine ⟨?_, ?_⟩ <;> simp [rd, keyOf] <;> omega
/-- A row turned by a key. -/
def turned (l : List Int) (k : Int) : List Int := (List.range l.length).map fun (i : Nat) => xb (rd l (i : Int)) (rd (keyOf k) ((i % 4 : Nat) : Int))
theorem turned_len (l : List Int) (k : Int) : (turned l k).length = l.length := by simp [turned]
theorem rd_nat (l : List Int) (i : Nat) (h : i < l.length) : rd l (i : Int) = l[i] := by simp [rd, h]
theorem turned_at (l : List Int) (k : Int) (i : Nat) (h : i < l.length) : (turned l k)[i]'(by rw [turned_len]; exact h) = xb l[i] (rd (keyOf k) ((i % 4 : Nat) : Int)) := by
  simp [turned, rd_nat l i h]
theorem turned_byte (l : List Int) (k : Int) (hl : ∀ x ∈ l, Byte x) : ∀ x ∈ turned l k, Byte x := by
  intro x hx
  obtain ⟨i, hi, rfl⟩ := List.getElem_of_mem hx
  rw [turned_len] at hi
  rw [turned_at l k i hi]
  exact xb_byte (hl _ (List.getElem_mem hi)) (key_byte k i)
theorem turned_twice (l : List Int) (k : Int) (hl : ∀ x ∈ l, Byte x) : turned (turned l k) k = l := by
  apply List.ext_getElem
  · rw [turned_len, turned_len]
  · intro i h1 h2
    rw [turned_at _ k i (by rw [turned_len]; exact h2), turned_at l k i h2]
    exact xb_twice (hl _ (List.getElem_mem h2)) (key_byte k i)
theorem set_mid (A l : List Int) (i : Nat) (h : i < l.length) (hA : A.length = l.length) : (A.take i ++ l.drop i).set i (A[i]'(by omega)) = A.take (i + 1) ++ l.drop (i + 1) := by
  rw [List.set_append_right _ _ (by simp; omega), ← List.getElem_cons_drop h]
  simp only [List.length_take]
  rw [show i - min i A.length = 0 by omega, List.set_cons_zero, List.take_succ_eq_append_getElem (by omega), List.append_assoc]
  rfl
theorem rd_mid (A l : List Int) (i : Nat) (h : i < l.length) (hA : A.length = l.length) : rd (A.take i ++ l.drop i) (i : Int) = l[i] := by
  rw [rd_nat _ i (by simp; omega), List.getElem_append_right (by simp; omega)]
  simp only [List.length_take, List.getElem_drop]
  congr 1
  omega
theorem turn_loop (l : List Int) (k : Int) (hm : l.length ≤ 9223372036854775807) (c : Nat) : ∀ (m i : Nat), i + m = l.length → wsframe_Turn.l0 (m + 1 + c) ((turned l k).take i ++ l.drop i) (keyOf k) (l.length : Int) (i : Int) = some (turned l k) := by
  intro m
  induction m with
  | zero =>
    intro i hi
    obtain rfl : i = l.length := by omega
    rw [show 0 + 1 + c = c + 1 by omega]
    unfold wsframe_Turn.l0
    rw [if_neg (by omega), List.drop_length, List.append_nil, List.take_of_length_le (by rw [turned_len]; omega)]
  | succ m ih =>
    intro i hi
    have hlt : i < l.length := by omega
    have hlen : ((turned l k).take i ++ l.drop i).length = l.length := by simp [turned_len]; omega
    rw [show m + 1 + 1 + c = (m + 1 + c) + 1 by omega]
    unfold wsframe_Turn.l0
    have hw : wrap64 ((i : Int) + 1) = ((i + 1 : Nat) : Int) := by unfold wrap64; omega
    have h4 : ((keyOf k).length : Int) = 4 := rfl
    have ht : Int.tmod (i : Int) 4 = ((i % 4 : Nat) : Int) := by rw [Int.tmod_eq_emod_of_nonneg (by omega)]; omega
    rw [if_pos (by omega), if_pos (by omega), if_pos (by rw [hlen]; omega), h4, if_neg (by omega), ht, if_pos (by omega), if_pos (by omega), rd_mid _ l i hlt (turned_len l k), hw, Int.toNat_natCast]
    have hat := turned_at l k i hlt
    unfold xb at hat
    rw [← hat, set_mid _ l i hlt (turned_len l k)]
    exact ih (i + 1) (by omega)
theorem turn_f (l : List Int) (k : Int) (hm : l.length ≤ 140737488355328) (c : Nat) : wsframe_Turn.f (l.length + 1 + c) l k = some (turned l k) := by
  unfold wsframe_Turn.f bytes_Clone.f
  rw [if_pos (by omega), key_f]
  have := turn_loop l k (by omega) c l.length 0 (by omega)
  simpa using this
theorem bt_str (l : List Int) (i : Nat) (hi : i < l.length) (hb : Byte l[i]) : bt (strOfNums l) (i : Int) = l[i] := by
  have h1 := hb.1
  have h2 := hb.2
  have hs : (Int.toNat (i : Int)) < (strOfNums l).size := by simp [strOfNums, ByteArray.size]; exact hi
  unfold bt
  rw [dif_pos hs]
  show (((strOfNums l).data[i]'_).toNat : Int) = l[i]
  simp [strOfNums]
  omega
theorem str_size (l : List Int) : (strOfNums l).size = l.length := by simp [strOfNums, ByteArray.size]
/-- The document's bytes of a key. -/
def keyStr (k : Int) : ByteArray := strOfNums (keyOf k)
theorem str_append (a b : List Int) : strOfNums a ++ strOfNums b = strOfNums (a ++ b) := by
  apply ByteArray.ext
  simp [strOfNums, ByteArray.data_append]
theorem number_f (k : Int) (h0 : 0 ≤ k) (h1 : k ≤ 4294967295) (c : Nat) : louverref07_Number.f (c + 5) (IntKind.u64.wrap k) 4 = some (keyStr k) := by
  have hw : ∀ n : Int, IntKind.u64.wrap n = n % 18446744073709551616 := fun n => by simp [IntKind.wrap, IntKind.bits, IntKind.signed]
  have hd : ∀ n : Int, 0 ≤ n → n ≤ 4294967295 → IntKind.u64.wrap (Int.tdiv n 256) = n / 256 := fun n a b => by
    rw [hw, Int.tdiv_eq_ediv_of_nonneg a]; omega
  have hm : ∀ n : Int, 0 ≤ n → (Int.tmod n 256) % 256 = n % 256 := fun n a => by
    rw [Int.tmod_eq_emod_of_nonneg a]; omega
  have step : ∀ (c : Nat) (n i : Int) (s : List Int), 0 ≤ n → n ≤ 4294967295 → 0 ≤ i → i < 4 → s.length ≤ 4 → louverref07_Number.l0 (c + 1) n 4 (strOfNums s) i = louverref07_Number.l0 c (n / 256) 4 (strOfNums ((n % 256) :: s)) (i + 1) := by
    intro c n i s a b d e f
    conv => lhs; unfold louverref07_Number.l0
    rw [if_pos e, Option.bind_some, if_pos (by rw [str_size, str_size]; simp only [List.length_cons, List.length_nil]; omega), str_append, hd n a b, hm n a]
    have : wrap64 (i + 1) = i + 1 := by unfold wrap64; omega
    rw [this]
    rfl
  unfold louverref07_Number.f
  rw [show IntKind.u64.wrap k = k by rw [hw]; omega, show (⟨#[]⟩ : ByteArray) = strOfNums [] from rfl]
  rw [step _ k 0 [] h0 h1 (by omega) (by omega) (by decide), step _ _ (0 + 1) _ (by omega) (by omega) (by omega) (by omega) (by simp), step _ _ (0 + 1 + 1) _ (by omega) (by omega) (by omega) (by omega) (by simp), step _ _ (0 + 1 + 1 + 1) _ (by omega) (by omega) (by omega) (by omega) (by simp)]
  unfold louverref07_Number.l0
  rw [if_neg (by omega)]
  unfold keyStr keyOf
  congr 2
  congr 1
  · omega
  · congr 1
    omega
theorem keyStr_at (k : Int) (i : Nat) : bt (keyStr k) ((i % 4 : Nat) : Int) = rd (keyOf k) ((i % 4 : Nat) : Int) := by
  have hlt : i % 4 < (keyOf k).length := by show i % 4 < 4; omega
  have hb := key_byte k i
  rw [rd_nat _ _ hlt] at hb ⊢
  exact bt_str _ _ hlt hb
theorem ref_loop (l : List Int) (k : Int) (hl : ∀ x ∈ l, Byte x) (hm : l.length ≤ 140737488355327) (c : Nat) : ∀ (m i : Nat), i + m = l.length → louverref16_Turn.l0 (m + 1 + (c + 9)) (strOfNums l) (keyStr k) ((turned l k).take i) (i : Int) = some (strOfNums (turned l k)) := by
  intro m
  induction m with
  | zero =>
    intro i hi
    obtain rfl : i = l.length := by omega
    rw [show 0 + 1 + (c + 9) = (c + 9) + 1 by omega]
    unfold louverref16_Turn.l0
    rw [if_neg (by rw [str_size]; omega), List.take_of_length_le (by rw [turned_len]; omega)]
  | succ m ih =>
    intro i hi
    have hlt : i < l.length := by omega
    rw [show m + 1 + 1 + (c + 9) = (m + 1 + (c + 9)) + 1 by omega]
    unfold louverref16_Turn.l0
    have hw : wrap64 ((i : Int) + 1) = ((i + 1 : Nat) : Int) := by unfold wrap64; omega
    have h4 : ((keyStr k).size : Int) = 4 := by rw [keyStr, str_size]; rfl
    have ht : Int.tmod (i : Int) 4 = ((i % 4 : Nat) : Int) := by rw [Int.tmod_eq_emod_of_nonneg (by omega)]; omega
    have hbyte := hl _ (List.getElem_mem hlt)
    rw [if_pos (by rw [str_size]; omega), if_pos (by omega), ht, if_pos (by omega), if_pos (by rw [h4]; omega), bt_str l i hlt hbyte, keyStr_at, show m + 1 + (c + 9) = (m + 1 + c) + 9 by omega, ref_xor (m + 1 + c) hbyte (key_byte k i), Option.bind_some, if_pos (by simp only [List.length_take]; omega), hw]
    rw [← turned_at l k i hlt, ← List.take_succ_eq_append_getElem (by rw [turned_len]; exact hlt), show m + 1 + c + 9 = m + 1 + (c + 9) by omega]
    exact ih (i + 1) (by omega)
theorem refTurn_f (l : List Int) (k : Int) (hl : ∀ x ∈ l, Byte x) (hm : l.length ≤ 140737488355327) (h0 : 0 ≤ k) (h1 : k ≤ 4294967295) (c : Nat) : louverref16_Turn.f (l.length + 1 + (c + 9)) (strOfNums l) k = some (strOfNums (turned l k)) := by
  unfold louverref16_Turn.f
  rw [show l.length + 1 + (c + 9) = (l.length + 5 + c) + 5 by omega, number_f k h0 h1, Option.bind_some]
  have := ref_loop l k hl hm c l.length 0 (by omega)
  rw [show (l.length + 5 + c) + 5 = l.length + 1 + (c + 9) by omega]
  simpa using this
end Go.Proofs.YtabpngcjlikpkaaDoor.PAll
