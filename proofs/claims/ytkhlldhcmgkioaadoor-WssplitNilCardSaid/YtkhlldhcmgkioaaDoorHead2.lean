/- What wsframe.head answers at any bytes, in plain words. -/
import Derived.Test.YtkhlldhcmgkioaaDoorHead1
namespace Go.Proofs.YtkhlldhcmgkioaaDoor
open Go.RowKit Go.Proofs.YtkhlldhcmgkioaaDoorW.PrintWords Go.Proofs.YtkhlldhcmgkioaaDoorW.PrintLast Go.Proofs.YtkhlldhcmgkioaaDoorW.PrintMore
set_option linter.unusedVariables false
def isByte (x : Int) : Bool := decide (0 ≤ x) && decide (x ≤ 255)
theorem isByte_iff {x : Int} : isByte x = true ↔ 0 ≤ x ∧ x ≤ 255 := by simp [isByte]
theorem all_byte {l : List Int} (h : l.all isByte = true) {x : Int} (hx : x ∈ l) : 0 ≤ x ∧ x ≤ 255 := isByte_iff.1 (List.all_eq_true.1 h x hx)
theorem rd_byte {l : List Int} (h : l.all isByte = true) (i : Int) : 0 ≤ rd l i ∧ rd l i ≤ 255 := by
  unfold rd
  by_cases hi : i.toNat < l.length
  · rw [List.getD_eq_getElem?_getD, List.getElem?_eq_getElem hi]
    exact all_byte h (List.getElem_mem hi)
  · rw [List.getD_eq_getElem?_getD, List.getElem?_eq_none (by omega)]
    exact ⟨by decide, by decide⟩
theorem byte_cases (p : Int → Prop) (h : ∀ n : Fin 256, p (n.val : Int)) {x : Int} (hx : 0 ≤ x ∧ x ≤ 255) : p x := by
  have := h ⟨x.toNat, by omega⟩
  rwa [show ((⟨x.toNat, by omega⟩ : Fin 256).val : Int) = x by show (x.toNat : Int) = x; omega] at this
theorem and15 {x : Int} (hx : 0 ≤ x ∧ x ≤ 255) : Go.bits .and .u8 x 15 = x % 16 := byte_cases (fun x => Go.bits .and .u8 x 15 = x % 16) (by decide +kernel) hx
theorem and112 {x : Int} (hx : 0 ≤ x ∧ x ≤ 255) : Go.bits .and .u8 x 112 = (x / 16 % 8) * 16 := byte_cases (fun x => Go.bits .and .u8 x 112 = (x / 16 % 8) * 16) (by decide +kernel) hx
theorem andNot128 {x : Int} (hx : 0 ≤ x ∧ x ≤ 255) : Go.bits .andNot .u8 x 128 = x % 128 := byte_cases (fun x => Go.bits .andNot .u8 x 128 = x % 128) (by decide +kernel) hx
theorem wrap_u64 {x : Int} (h0 : 0 ≤ x) (h1 : x ≤ 18446744073709551615) : IntKind.u64.wrap x = x := by
  have : IntKind.u64.wrap x = x % 18446744073709551616 := by simp [IntKind.wrap, IntKind.bits, IntKind.signed]
  rw [this]; omega
theorem wrap_u32 {x : Int} (h0 : 0 ≤ x) (h1 : x ≤ 4294967295) : IntKind.u32.wrap x = x := by
  have : IntKind.u32.wrap x = x % 4294967296 := by simp [IntKind.wrap, IntKind.bits, IntKind.signed]
  rw [this]; omega
theorem nat_or (s b : Nat) (hb : b < 256) : s * 256 ||| b = s * 256 + b := by
  have := Nat.two_pow_add_eq_or_of_lt (show b < 2 ^ 8 from hb) s
  rw [show (2 : Nat) ^ 8 = 256 from rfl, Nat.mul_comm] at this
  exact this.symm
theorem or_byte64 {s b : Int} (h0 : 0 ≤ s) (h1 : s < 72057594037927936) (hb : 0 ≤ b ∧ b ≤ 255) : Go.bits .or .u64 (s * 256) b = s * 256 + b := by
  obtain ⟨n, rfl⟩ : ∃ n : Nat, s = (n : Int) := ⟨s.toNat, by omega⟩
  obtain ⟨m, rfl⟩ : ∃ m : Nat, b = (m : Int) := ⟨b.toNat, by omega⟩
  have e1 : (BitVec.ofInt 64 ((n : Int) * 256)).toNat = n * 256 := by
    rw [show ((n : Int) * 256) = ((n * 256 : Nat) : Int) by omega, BitVec.ofInt_natCast, BitVec.toNat_ofNat]; exact Nat.mod_eq_of_lt (by omega)
  have e2 : (BitVec.ofInt 64 (m : Int)).toNat = m := by
    rw [BitVec.ofInt_natCast, BitVec.toNat_ofNat]; exact Nat.mod_eq_of_lt (by omega)
  show IntKind.u64.wrap ((BitVec.ofInt 64 ((n : Int) * 256) ||| BitVec.ofInt 64 (m : Int)).toNat : Int) = _
  rw [BitVec.toNat_or, e1, e2, nat_or n m (by omega), wrap_u64 (by omega) (by omega)]
  omega
theorem or_zero64 {b : Int} (hb : 0 ≤ b ∧ b ≤ 255) : Go.bits .or .u64 0 b = b := by
  have := or_byte64 (s := 0) (b := b) (by omega) (by omega) hb
  simpa using this
/-- Bytes i, i + 1, .. of l as a number. -/
def val (l : List Int) (i : Nat) : Nat → Int
  | 0 => 0
  | n + 1 => val l i n * 256 + rd l ((i + n : Nat) : Int)
theorem val_bounds {l : List Int} (h : l.all isByte = true) (i : Nat) : ∀ n, 0 ≤ val l i n ∧ val l i n < 256 ^ n
  | 0 => ⟨by simp [val], by simp [val]⟩
  | n + 1 => by
    have := val_bounds h i n
    have := rd_byte h ((i + n : Nat) : Int)
    have e : val l i (n + 1) = val l i n * 256 + rd l ((i + n : Nat) : Int) := rfl
    rw [e, Int.pow_succ]
    omega
def lenF (l : List Int) : Int × Int × Bool × Int :=
  if rd l 1 % 128 = 126 then (if l.length < 4 then (0, 0, true, 0) else if val l 2 2 < 126 then (0, 0, false, 1002) else (val l 2 2, 4, false, 0))
  else if rd l 1 % 128 = 127 then (if l.length < 10 then (0, 0, true, 0) else if val l 2 8 < 65536 ∨ 9223372036854775808 ≤ val l 2 8 then (0, 0, false, 1002) else (val l 2 8, 10, false, 0))
  else (rd l 1 % 128, 2, false, 0)
def headF (l : List Int) (m : Bool) : Int × Int × Bool × Int :=
  if l.length = 0 then (0, 0, true, 0)
  else if rd l 0 / 16 % 8 ≠ 0 ∨ knownB (rd l 0 % 16) = false ∨ (8 ≤ rd l 0 % 16 ∧ rd l 0 < 128) then (0, 0, false, 1002)
  else if l.length = 1 then (0, 0, true, 0)
  else if decide (128 ≤ rd l 1) ≠ m ∨ (8 ≤ rd l 0 % 16 ∧ 126 ≤ rd l 1 % 128) then (0, 0, false, 1002)
  else if (lenF l).2.2.1 = true then (0, 0, true, 0)
  else if (lenF l).2.2.2 ≠ 0 then (0, 0, false, 1002)
  else if 4096 < (lenF l).1 then (0, 0, false, 1009)
  else ((lenF l).2.1 + (if m = true then 4 else 0), (lenF l).1, false, 0)
/-- What length answers, at this world. -/
def LenNil (ad : Addr) (len c : Nat) (w : World) (n used : Int) (more : Bool) : Prop := Aside0 (Calls Tryd.prog 35 #[.slice (some ad) len c] w fun e w' => e = .returned (.tuple #[.int .u64 n, .int .i64 used, .bool more, .nilIface]) ∧ w' = w)
def LenBad (ad : Addr) (len c : Nat) (w : World) : Prop := Aside0 (Calls Tryd.prog 35 #[.slice (some ad) len c] w fun e w' => ∃ v, e = .returned (.tuple #[.int .u64 0, .int .i64 0, .bool false, v]) ∧ IsBad w' v 1002 ∧ Below w.heap.size w w')
theorem beq_false {a b : Int} (h : a ≠ b) : (a == b) = false := beq_eq_false_iff_ne.mpr h
theorem length_to {l : List Int} (hl : l.all isByte = true) {ad : Addr} {c : Nat} {w : World} (h2 : 2 ≤ l.length) (hc : l.length ≤ c) (hx : ∀ i : Nat, 0 < i → i < l.length → w.cell? ⟨ad.block, ad.off + i, none⟩ = some (.int .u8 (rd l (i : Int)))) :
    ((lenF l).2.2.2 = 0 ∧ ((lenF l).2.2.1 = true → (lenF l).1 = 0 ∧ (lenF l).2.1 = 0) ∧ LenNil ad l.length c w (lenF l).1 (lenF l).2.1 (lenF l).2.2.1) ∨ ((lenF l).2.2.2 ≠ 0 ∧ (lenF l).2.2.1 = false ∧ LenBad ad l.length c w) := by
  have x1 := hx 1 (by omega) (by omega)
  have b1 := rd_byte hl 1
  unfold lenF
  by_cases h6 : rd l 1 % 128 = 126
  · rw [if_pos h6]
    by_cases h4 : l.length < 4
    · rw [if_pos h4]
      exact .inl ⟨rfl, fun _ => ⟨rfl, rfl⟩, ⟨length_two_more _ _ _ _ _ x1 ((andNot128 b1).trans h6) h2 h4⟩⟩
    · rw [if_neg h4]
      have v2 : val l 2 1 = rd l 2 := by simp [val]
      have v3 : val l 2 2 = val l 2 1 * 256 + rd l 3 := rfl
      have g2 := rd_byte hl 2
      have g3 := rd_byte hl 3
      have key := fun t => length_two_ok (rd l 1) (rd l 2) (rd l 3) (val l 2 1) (val l 2 2) ad l.length c w x1 ((andNot128 b1).trans h6) (hx 2 (by omega) (by omega)) (hx 3 (by omega) (by omega)) (wrap_u64 (by omega) (by omega)) (wrap_u64 (by omega) (by omega)) ((or_zero64 g2).trans v2.symm) ((or_byte64 (by omega) (by omega) g3).trans v3.symm) (wrap_u64 (by omega) (by omega)) t (by omega) hc
      have keb := fun t => length_two_bad (rd l 1) (rd l 2) (rd l 3) (val l 2 1) (val l 2 2) ad l.length c w x1 ((andNot128 b1).trans h6) (hx 2 (by omega) (by omega)) (hx 3 (by omega) (by omega)) (wrap_u64 (by omega) (by omega)) (wrap_u64 (by omega) (by omega)) ((or_zero64 g2).trans v2.symm) ((or_byte64 (by omega) (by omega) g3).trans v3.symm) (wrap_u64 (by omega) (by omega)) t (by omega) hc
      by_cases hv : val l 2 2 < 126
      · rw [if_pos hv]
        exact .inr ⟨by decide, rfl, ⟨keb (decide_eq_true hv)⟩⟩
      · rw [if_neg hv]
        exact .inl ⟨rfl, (fun h => by cases h), ⟨key (decide_eq_false hv)⟩⟩
  · rw [if_neg h6]
    by_cases h7 : rd l 1 % 128 = 127
    · rw [if_pos h7]
      by_cases h4 : l.length < 10
      · rw [if_pos h4]
        exact .inl ⟨rfl, fun _ => ⟨rfl, rfl⟩, ⟨length_eight_more _ _ _ _ _ x1 ((andNot128 b1).trans h7) h2 h4⟩⟩
      · rw [if_neg h4]
        have v2 : val l 2 1 = rd l 2 := by simp [val]
        have v3 : val l 2 2 = val l 2 1 * 256 + rd l 3 := rfl
        have v4 : val l 2 3 = val l 2 2 * 256 + rd l 4 := rfl
        have v5 : val l 2 4 = val l 2 3 * 256 + rd l 5 := rfl
        have v6 : val l 2 5 = val l 2 4 * 256 + rd l 6 := rfl
        have v7 : val l 2 6 = val l 2 5 * 256 + rd l 7 := rfl
        have v8 : val l 2 7 = val l 2 6 * 256 + rd l 8 := rfl
        have v9 : val l 2 8 = val l 2 7 * 256 + rd l 9 := rfl
        have g2 := rd_byte hl 2
        have g3 := rd_byte hl 3
        have g4 := rd_byte hl 4
        have g5 := rd_byte hl 5
        have g6 := rd_byte hl 6
        have g7 := rd_byte hl 7
        have g8 := rd_byte hl 8
        have g9 := rd_byte hl 9
        have ke0 := fun t1 t2 t3 => length_eight_ok (rd l 1) (rd l 2) (rd l 3) (rd l 4) (rd l 5) (rd l 6) (rd l 7) (rd l 8) (rd l 9) (val l 2 1) (val l 2 2) (val l 2 3) (val l 2 4) (val l 2 5) (val l 2 6) (val l 2 7) (val l 2 8) ad l.length c w x1 ((andNot128 b1).trans h7) (hx 2 (by omega) (by omega)) (hx 3 (by omega) (by omega)) (hx 4 (by omega) (by omega)) (hx 5 (by omega) (by omega)) (hx 6 (by omega) (by omega)) (hx 7 (by omega) (by omega)) (hx 8 (by omega) (by omega)) (hx 9 (by omega) (by omega)) (wrap_u64 (by omega) (by omega)) (wrap_u64 (by omega) (by omega)) (wrap_u64 (by omega) (by omega)) (wrap_u64 (by omega) (by omega)) (wrap_u64 (by omega) (by omega)) (wrap_u64 (by omega) (by omega)) (wrap_u64 (by omega) (by omega)) (wrap_u64 (by omega) (by omega)) ((or_zero64 g2).trans v2.symm) ((or_byte64 (by omega) (by omega) g3).trans v3.symm) ((or_byte64 (by omega) (by omega) g4).trans v4.symm) ((or_byte64 (by omega) (by omega) g5).trans v5.symm) ((or_byte64 (by omega) (by omega) g6).trans v6.symm) ((or_byte64 (by omega) (by omega) g7).trans v7.symm) ((or_byte64 (by omega) (by omega) g8).trans v8.symm) ((or_byte64 (by omega) (by omega) g9).trans v9.symm) (wrap_u64 (by omega) (by omega)) (wrap_u64 (by omega) (by omega)) (wrap_u64 (by omega) (by omega)) (wrap_u64 (by omega) (by omega)) (wrap_u64 (by omega) (by omega)) (wrap_u64 (by omega) (by omega)) (wrap_u64 (by omega) (by omega)) t1 t2 t3 (by omega) hc
        have ke1 := fun t1 => length_eight_bad1 (rd l 1) (rd l 2) (rd l 3) (rd l 4) (rd l 5) (rd l 6) (rd l 7) (rd l 8) (rd l 9) (val l 2 1) (val l 2 2) (val l 2 3) (val l 2 4) (val l 2 5) (val l 2 6) (val l 2 7) (val l 2 8) ad l.length c w x1 ((andNot128 b1).trans h7) (hx 2 (by omega) (by omega)) (hx 3 (by omega) (by omega)) (hx 4 (by omega) (by omega)) (hx 5 (by omega) (by omega)) (hx 6 (by omega) (by omega)) (hx 7 (by omega) (by omega)) (hx 8 (by omega) (by omega)) (hx 9 (by omega) (by omega)) (wrap_u64 (by omega) (by omega)) (wrap_u64 (by omega) (by omega)) (wrap_u64 (by omega) (by omega)) (wrap_u64 (by omega) (by omega)) (wrap_u64 (by omega) (by omega)) (wrap_u64 (by omega) (by omega)) (wrap_u64 (by omega) (by omega)) (wrap_u64 (by omega) (by omega)) ((or_zero64 g2).trans v2.symm) ((or_byte64 (by omega) (by omega) g3).trans v3.symm) ((or_byte64 (by omega) (by omega) g4).trans v4.symm) ((or_byte64 (by omega) (by omega) g5).trans v5.symm) ((or_byte64 (by omega) (by omega) g6).trans v6.symm) ((or_byte64 (by omega) (by omega) g7).trans v7.symm) ((or_byte64 (by omega) (by omega) g8).trans v8.symm) ((or_byte64 (by omega) (by omega) g9).trans v9.symm) (wrap_u64 (by omega) (by omega)) (wrap_u64 (by omega) (by omega)) (wrap_u64 (by omega) (by omega)) (wrap_u64 (by omega) (by omega)) (wrap_u64 (by omega) (by omega)) (wrap_u64 (by omega) (by omega)) (wrap_u64 (by omega) (by omega)) t1 (by omega) hc
        have ke2 := fun t1 t2 => length_eight_bad2 (rd l 1) (rd l 2) (rd l 3) (rd l 4) (rd l 5) (rd l 6) (rd l 7) (rd l 8) (rd l 9) (val l 2 1) (val l 2 2) (val l 2 3) (val l 2 4) (val l 2 5) (val l 2 6) (val l 2 7) (val l 2 8) ad l.length c w x1 ((andNot128 b1).trans h7) (hx 2 (by omega) (by omega)) (hx 3 (by omega) (by omega)) (hx 4 (by omega) (by omega)) (hx 5 (by omega) (by omega)) (hx 6 (by omega) (by omega)) (hx 7 (by omega) (by omega)) (hx 8 (by omega) (by omega)) (hx 9 (by omega) (by omega)) (wrap_u64 (by omega) (by omega)) (wrap_u64 (by omega) (by omega)) (wrap_u64 (by omega) (by omega)) (wrap_u64 (by omega) (by omega)) (wrap_u64 (by omega) (by omega)) (wrap_u64 (by omega) (by omega)) (wrap_u64 (by omega) (by omega)) (wrap_u64 (by omega) (by omega)) ((or_zero64 g2).trans v2.symm) ((or_byte64 (by omega) (by omega) g3).trans v3.symm) ((or_byte64 (by omega) (by omega) g4).trans v4.symm) ((or_byte64 (by omega) (by omega) g5).trans v5.symm) ((or_byte64 (by omega) (by omega) g6).trans v6.symm) ((or_byte64 (by omega) (by omega) g7).trans v7.symm) ((or_byte64 (by omega) (by omega) g8).trans v8.symm) ((or_byte64 (by omega) (by omega) g9).trans v9.symm) (wrap_u64 (by omega) (by omega)) (wrap_u64 (by omega) (by omega)) (wrap_u64 (by omega) (by omega)) (wrap_u64 (by omega) (by omega)) (wrap_u64 (by omega) (by omega)) (wrap_u64 (by omega) (by omega)) (wrap_u64 (by omega) (by omega)) t1 t2 (by omega) hc
        have ke3 := fun t1 t2 t3 => length_eight_bad3 (rd l 1) (rd l 2) (rd l 3) (rd l 4) (rd l 5) (rd l 6) (rd l 7) (rd l 8) (rd l 9) (val l 2 1) (val l 2 2) (val l 2 3) (val l 2 4) (val l 2 5) (val l 2 6) (val l 2 7) (val l 2 8) ad l.length c w x1 ((andNot128 b1).trans h7) (hx 2 (by omega) (by omega)) (hx 3 (by omega) (by omega)) (hx 4 (by omega) (by omega)) (hx 5 (by omega) (by omega)) (hx 6 (by omega) (by omega)) (hx 7 (by omega) (by omega)) (hx 8 (by omega) (by omega)) (hx 9 (by omega) (by omega)) (wrap_u64 (by omega) (by omega)) (wrap_u64 (by omega) (by omega)) (wrap_u64 (by omega) (by omega)) (wrap_u64 (by omega) (by omega)) (wrap_u64 (by omega) (by omega)) (wrap_u64 (by omega) (by omega)) (wrap_u64 (by omega) (by omega)) (wrap_u64 (by omega) (by omega)) ((or_zero64 g2).trans v2.symm) ((or_byte64 (by omega) (by omega) g3).trans v3.symm) ((or_byte64 (by omega) (by omega) g4).trans v4.symm) ((or_byte64 (by omega) (by omega) g5).trans v5.symm) ((or_byte64 (by omega) (by omega) g6).trans v6.symm) ((or_byte64 (by omega) (by omega) g7).trans v7.symm) ((or_byte64 (by omega) (by omega) g8).trans v8.symm) ((or_byte64 (by omega) (by omega) g9).trans v9.symm) (wrap_u64 (by omega) (by omega)) (wrap_u64 (by omega) (by omega)) (wrap_u64 (by omega) (by omega)) (wrap_u64 (by omega) (by omega)) (wrap_u64 (by omega) (by omega)) (wrap_u64 (by omega) (by omega)) (wrap_u64 (by omega) (by omega)) t1 t2 t3 (by omega) hc
        by_cases hv : val l 2 8 < 65536 ∨ 9223372036854775808 ≤ val l 2 8
        · rw [if_pos hv]
          refine .inr ⟨by decide, rfl, ⟨?_⟩⟩
          by_cases hs : val l 2 8 < 126
          · exact ke1 (decide_eq_true hs)
          · by_cases ht : val l 2 8 < 65536
            · exact ke2 (decide_eq_false hs) (decide_eq_true ht)
            · exact ke3 (decide_eq_false hs) (decide_eq_false ht) (decide_eq_true (by omega))
        · rw [if_neg hv]
          exact .inl ⟨rfl, (fun h => by cases h), ⟨ke0 (decide_eq_false (by omega)) (decide_eq_false (by omega)) (decide_eq_false (by omega))⟩⟩
    · rw [if_neg h7]
      exact .inl ⟨rfl, (fun h => by cases h), ⟨length_small _ _ _ _ _ _ x1 (andNot128 b1) h2 (beq_false h6) (beq_false h7) (wrap_u64 (by omega) (by omega))⟩⟩
theorem lenF_bounds {l : List Int} (hl : l.all isByte = true) : 0 ≤ (lenF l).1 ∧ (lenF l).1 ≤ 18446744073709551615 ∧ 0 ≤ (lenF l).2.1 ∧ (lenF l).2.1 ≤ 10 := by
  have b1 := rd_byte hl 1
  have v2 := val_bounds hl 2 2
  have v8 := val_bounds hl 2 8
  have e2 : (256 : Int) ^ 2 = 65536 := by decide
  have e8 : (256 : Int) ^ 8 = 18446744073709551616 := by decide
  rw [e2] at v2
  rw [e8] at v8
  unfold lenF
  split
  · split
    · refine ⟨?_, ?_, ?_, ?_⟩ <;> decide
    · split
      · refine ⟨?_, ?_, ?_, ?_⟩ <;> decide
      · refine ⟨?_, ?_, ?_, ?_⟩ <;> dsimp only <;> omega
  · split
    · split
      · refine ⟨?_, ?_, ?_, ?_⟩ <;> decide
      · split
        · refine ⟨?_, ?_, ?_, ?_⟩ <;> decide
        · refine ⟨?_, ?_, ?_, ?_⟩ <;> dsimp only <;> omega
    · refine ⟨?_, ?_, ?_, ?_⟩ <;> dsimp only <;> omega
/-- wsframe.head at any bytes. -/
theorem head_to {l : List Int} (hl : l.all isByte = true) (m : Bool) {A : Option Addr} {c : Nat} {w : World} (hC : Kd.C (Kd.int .u8) w A l.length l) (hc : l.length ≤ c) : HeadTo A l.length c m w (headF l m).1 (headF l m).2.1 (headF l m).2.2.1 (headF l m).2.2.2 := by
  unfold headF
  by_cases h0 : l.length = 0
  · rw [if_pos h0, h0]
    exact head_none c m w A
  · rw [if_neg h0]
    obtain ⟨ad, rfl, x0'⟩ := Kd.at_int hC 0 (by decide) (by omega)
    have hx : ∀ i : Nat, i < l.length → w.cell? (ad.add i) = some (.int .u8 (rd l (i : Int))) := fun i hi => by
      obtain ⟨ad2, e2, hh⟩ := Kd.at_int hC (i : Int) (by omega) (by omega)
      injection e2 with e2
      subst e2
      simpa using hh
    have x0 : w.cell? ad = some (.int .u8 (rd l 0)) := x0'
    have hy : ∀ i : Nat, 0 < i → i < l.length → w.cell? ⟨ad.block, ad.off + i, none⟩ = some (.int .u8 (rd l (i : Int))) := fun i h hi => by
      have := hx i hi
      obtain ⟨j, rfl⟩ : ∃ j, i = j + 1 := ⟨i - 1, by omega⟩
      exact this
    have b0 := rd_byte hl 0
    have b1 := rd_byte hl 1
    have ho := and15 b0
    have hz := and112 b0
    have hz0 : rd l 0 / 16 % 8 ≠ 0 → ((rd l 0 / 16 % 8 * 16) != 0) = true := fun h => bne_iff_ne.mpr (by omega)
    have hz1 : ¬ rd l 0 / 16 % 8 ≠ 0 → ((rd l 0 / 16 % 8 * 16) != 0) = false := fun h => bne_eq_false_iff_eq.mpr (by omega)
    by_cases hF : rd l 0 / 16 % 8 ≠ 0 ∨ knownB (rd l 0 % 16) = false ∨ (8 ≤ rd l 0 % 16 ∧ rd l 0 < 128)
    · rw [if_pos hF]
      by_cases ha : rd l 0 / 16 % 8 ≠ 0
      · exact head_first_bits _ _ _ m ad l.length c w (by omega) x0 ho hz (hz0 ha)
      · by_cases hk : knownB (rd l 0 % 16) = false
        · exact head_first_unknown _ _ _ m ad l.length c w (by omega) x0 ho hz (hz1 ha) hk
        · have hcf : 8 ≤ rd l 0 % 16 ∧ rd l 0 < 128 := (hF.resolve_left ha).resolve_left hk
          exact head_first_unfin _ _ _ m ad l.length c w (by omega) x0 ho hz (hz1 ha) (by simpa using hk) (decide_eq_true hcf.1) (decide_eq_true hcf.2)
    · rw [if_neg hF]
      have ha : ¬ rd l 0 / 16 % 8 ≠ 0 := fun h => hF (.inl h)
      have hk : knownB (rd l 0 % 16) = true := by
        cases h : knownB (rd l 0 % 16)
        · exact absurd (.inr (.inl h)) hF
        · rfl
      have hcf : ¬ (8 ≤ rd l 0 % 16 ∧ rd l 0 < 128) := fun h => hF (.inr (.inr h))
      by_cases h1 : l.length = 1
      · rw [if_pos h1, h1]
        by_cases h8 : 8 ≤ rd l 0 % 16
        · exact head_one_c _ _ _ m ad c w x0 ho hz (hz1 ha) hk (decide_eq_true h8) (decide_eq_false (fun h => hcf ⟨h8, h⟩))
        · exact head_one_d _ _ _ m ad c w x0 ho hz (hz1 ha) hk (decide_eq_false h8)
      · rw [if_neg h1]
        have h2 : 2 ≤ l.length := by omega
        have x1 := hy 1 (by omega) (by omega)
        have hn := andNot128 b1
        have LT := length_to hl h2 hc hy
        have lb := lenF_bounds hl
        by_cases hS : decide (128 ≤ rd l 1) ≠ m ∨ (8 ≤ rd l 0 % 16 ∧ 126 ≤ rd l 1 % 128)
        · rw [if_pos hS]
          by_cases hm : decide (128 ≤ rd l 1) ≠ m
          · by_cases h8 : 8 ≤ rd l 0 % 16
            · cases m with
              | false => exact head_mask_c_false _ _ _ _ ad l.length c w h2 x0 ho hz x1 (hz1 ha) hk (decide_eq_true h8) (decide_eq_false (fun h => hcf ⟨h8, h⟩)) (by simpa using hm)
              | true => exact head_mask_c_true _ _ _ _ ad l.length c w h2 x0 ho hz x1 (hz1 ha) hk (decide_eq_true h8) (decide_eq_false (fun h => hcf ⟨h8, h⟩)) (by simpa using hm)
            · cases m with
              | false => exact head_mask_d_false _ _ _ _ ad l.length c w h2 x0 ho hz x1 (hz1 ha) hk (decide_eq_false h8) (by simpa using hm)
              | true => exact head_mask_d_true _ _ _ _ ad l.length c w h2 x0 ho hz x1 (hz1 ha) hk (decide_eq_false h8) (by simpa using hm)
          · have hm' : decide (128 ≤ rd l 1) = m := by simpa using hm
            have h8 := hS.resolve_left hm
            cases m with
            | false => exact head_long_c_false _ _ _ _ _ ad l.length c w h2 x0 ho hz x1 (hz1 ha) hk (decide_eq_true h8.1) (decide_eq_false (fun h => hcf ⟨h8.1, h⟩)) hm' hn (decide_eq_true h8.2)
            | true => exact head_long_c_true _ _ _ _ _ ad l.length c w h2 x0 ho hz x1 (hz1 ha) hk (decide_eq_true h8.1) (decide_eq_false (fun h => hcf ⟨h8.1, h⟩)) hm' hn (decide_eq_true h8.2)
        · rw [if_neg hS]
          have hm : decide (128 ≤ rd l 1) = m := by
            by_cases h : decide (128 ≤ rd l 1) = m
            · exact h
            · exact absurd (.inl h) hS
          have hlong : ¬ (8 ≤ rd l 0 % 16 ∧ 126 ≤ rd l 1 % 128) := fun h => hS (.inr h)
          clear hS hF
          rcases LT with ⟨e1, e2, HL⟩ | ⟨e1, e2, HL⟩
          · by_cases hmore : (lenF l).2.2.1 = true
            · obtain ⟨z1, z2⟩ := e2 hmore
              rw [if_pos hmore]
              rw [z1, z2, hmore] at HL
              by_cases h8 : 8 ≤ rd l 0 % 16
              · cases m with
                | false => exact head_more_c_false _ _ _ _ _ ad l.length c w h2 x0 ho hz x1 (hz1 ha) hk (decide_eq_true h8) (decide_eq_false (fun h => hcf ⟨h8, h⟩)) hm hn (decide_eq_false (fun h => hlong ⟨h8, h⟩)) HL
                | true => exact head_more_c_true _ _ _ _ _ ad l.length c w h2 x0 ho hz x1 (hz1 ha) hk (decide_eq_true h8) (decide_eq_false (fun h => hcf ⟨h8, h⟩)) hm hn (decide_eq_false (fun h => hlong ⟨h8, h⟩)) HL
              · cases m with
                | false => exact head_more_d_false _ _ _ _ ad l.length c w h2 x0 ho hz x1 (hz1 ha) hk (decide_eq_false h8) hm HL
                | true => exact head_more_d_true _ _ _ _ ad l.length c w h2 x0 ho hz x1 (hz1 ha) hk (decide_eq_false h8) hm HL
            · rw [if_neg hmore, if_neg (by rw [e1]; decide)]
              have hmf : (lenF l).2.2.1 = false := by simpa using hmore
              rw [hmf] at HL
              by_cases hg : 4096 < (lenF l).1
              · rw [if_pos hg]
                by_cases h8 : 8 ≤ rd l 0 % 16
                · cases m with
                  | false => exact head_great_c_false _ _ _ _ _ _ _ ad l.length c w h2 x0 ho hz x1 (hz1 ha) hk (decide_eq_true h8) (decide_eq_false (fun h => hcf ⟨h8, h⟩)) hm hn (decide_eq_false (fun h => hlong ⟨h8, h⟩)) HL (decide_eq_true hg)
                  | true => exact head_great_c_true _ _ _ _ _ _ _ ad l.length c w h2 x0 ho hz x1 (hz1 ha) hk (decide_eq_true h8) (decide_eq_false (fun h => hcf ⟨h8, h⟩)) hm hn (decide_eq_false (fun h => hlong ⟨h8, h⟩)) HL (decide_eq_true hg)
                · cases m with
                  | false => exact head_great_d_false _ _ _ _ _ _ ad l.length c w h2 x0 ho hz x1 (hz1 ha) hk (decide_eq_false h8) hm HL (decide_eq_true hg)
                  | true => exact head_great_d_true _ _ _ _ _ _ ad l.length c w h2 x0 ho hz x1 (hz1 ha) hk (decide_eq_false h8) hm HL (decide_eq_true hg)
              · rw [if_neg hg]
                have wn : IntKind.i64.wrap (lenF l).1 = (lenF l).1 := by rw [i64_w]; unfold wrap64; omega
                have wu : IntKind.i64.wrap ((lenF l).2.1 + 4) = (lenF l).2.1 + 4 := by rw [i64_w]; unfold wrap64; omega
                by_cases h8 : 8 ≤ rd l 0 % 16
                · cases m with
                  | false =>
                    rw [if_neg (by decide), show (lenF l).2.1 + 0 = (lenF l).2.1 by omega]
                    exact head_ok_c_false _ _ _ _ _ _ _ ad l.length c w h2 x0 ho hz x1 (hz1 ha) hk (decide_eq_true h8) (decide_eq_false (fun h => hcf ⟨h8, h⟩)) hm hn (decide_eq_false (fun h => hlong ⟨h8, h⟩)) HL (decide_eq_false hg) wn
                  | true =>
                    rw [if_pos rfl]
                    exact head_ok_c_true _ _ _ _ _ _ _ ad l.length c w h2 x0 ho hz x1 (hz1 ha) hk (decide_eq_true h8) (decide_eq_false (fun h => hcf ⟨h8, h⟩)) hm hn (decide_eq_false (fun h => hlong ⟨h8, h⟩)) HL (decide_eq_false hg) wn wu
                · cases m with
                  | false =>
                    rw [if_neg (by decide), show (lenF l).2.1 + 0 = (lenF l).2.1 by omega]
                    exact head_ok_d_false _ _ _ _ _ _ ad l.length c w h2 x0 ho hz x1 (hz1 ha) hk (decide_eq_false h8) hm HL (decide_eq_false hg) wn
                  | true =>
                    rw [if_pos rfl]
                    exact head_ok_d_true _ _ _ _ _ _ ad l.length c w h2 x0 ho hz x1 (hz1 ha) hk (decide_eq_false h8) hm HL (decide_eq_false hg) wn wu
          · rw [if_neg (by rw [e2]; decide), if_pos e1]
            by_cases h8 : 8 ≤ rd l 0 % 16
            · cases m with
              | false => exact head_bad_c_false _ _ _ _ _ ad l.length c w h2 x0 ho hz x1 (hz1 ha) hk (decide_eq_true h8) (decide_eq_false (fun h => hcf ⟨h8, h⟩)) hm hn (decide_eq_false (fun h => hlong ⟨h8, h⟩)) HL
              | true => exact head_bad_c_true _ _ _ _ _ ad l.length c w h2 x0 ho hz x1 (hz1 ha) hk (decide_eq_true h8) (decide_eq_false (fun h => hcf ⟨h8, h⟩)) hm hn (decide_eq_false (fun h => hlong ⟨h8, h⟩)) HL
            · cases m with
              | false => exact head_bad_d_false _ _ _ _ ad l.length c w h2 x0 ho hz x1 (hz1 ha) hk (decide_eq_false h8) hm HL
              | true => exact head_bad_d_true _ _ _ _ ad l.length c w h2 x0 ho hz x1 (hz1 ha) hk (decide_eq_false h8) hm HL
end Go.Proofs.YtkhlldhcmgkioaaDoor
