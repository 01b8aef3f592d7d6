/- A frame's bytes, in plain words: what the program and the document put, and what a head of them tells. -/
import Derived.Test.YtabpngcjlikpkaaDoorTurn
import Derived.Test.YtabpngcjlikpkaaDoorHead6
import Derived.Test.YtabpngcjlikpkaaDoorPAllx5
import Derived.Test.YtabpngcjlikpkaaDoorPAllx7
import Derived.Test.YtabpngcjlikpkaaDoorPAllx7
namespace Go.Proofs.YtabpngcjlikpkaaDoor.PAll
open Go.RowKit Go.Proofs.YtabpngcjlikpkaaDoorW.PrintWords Go.Proofs.YtabpngcjlikpkaaDoorW.PrintLast Go.Proofs.YtabpngcjlikpkaaDoorW.PrintMore
set_option linter.unusedVariables false
set_option linter.unusedSimpArgs false
def putL (fin : Bool) (op : Int) (mask : Bool) (key : Int) (d : List Int) : List Int :=
  (op + (if fin = true then 128 else 0)) :: ((if mask = true then 128 else 0) + (if d.length < 126 then (d.length : Int) else 126)) :: ((if d.length < 126 then [] else [(d.length : Int) / 256 % 256, (d.length : Int) % 256]) ++ (if mask = true then keyOf key ++ turned d key else d))
def mayB (fin : Bool) (op : Int) (mask : Bool) (key : Int) (d : List Int) : Bool := knownB op && (mask || decide (key = 0)) && decide ((d.length : Int) ≤ 4096) && (decide (op < 8) || (fin && decide ((d.length : Int) ≤ 125)))
theorem knownB_iff (a : Int) : knownB a = true ↔ a ≤ 2 ∨ (8 ≤ a ∧ a ≤ 10) := by simp [knownB]
theorem mayB_iff (fin : Bool) (op : Int) (mask : Bool) (key : Int) (d : List Int) : mayB fin op mask key d = true ↔ (op ≤ 2 ∨ (8 ≤ op ∧ op ≤ 10)) ∧ (mask = true ∨ key = 0) ∧ (d.length : Int) ≤ 4096 ∧ (op < 8 ∨ (fin = true ∧ (d.length : Int) ≤ 125)) := by
  simp [mayB, knownB_iff, and_assoc]
theorem wknown_f (a : Int) : wsframe_known.f a = some (knownB a) := by
  unfold wsframe_known.f knownB
  by_cases h : a ≤ 2
  · rw [if_pos h]; simp [h]
  · rw [if_neg h]
    by_cases h8 : a ≥ 8
    · rw [if_pos h8]; simp [h]; omega
    · rw [if_neg h8]; simp [h]; omega
theorem rknown_f (a : Int) : louverref16_known.f a = some (knownB a) := by
  unfold louverref16_known.f knownB
  by_cases h : a < 3
  · rw [if_pos h]; have : a ≤ 2 := by omega
    simp [this]
  · rw [if_neg h]
    have h2 : ¬ a ≤ 2 := by omega
    by_cases h8 : a > 7
    · rw [if_pos h8]; have : 8 ≤ a := by omega
      simp [h2, this]; omega
    · rw [if_neg h8]; have : ¬ 8 ≤ a := by omega
      simp [h2, this]
theorem wmay_f (k : Nat) (hk : 1 ≤ k) (fin : Bool) (op : Int) (mask : Bool) (key : Int) (d : List Int) : wsframe_May.f k fin op mask key d = some (mayB fin op mask key d) := by
  obtain ⟨k, rfl⟩ : ∃ m, k = m + 1 := ⟨k - 1, by omega⟩
  unfold wsframe_May.f
  rw [wknown_f, Option.bind_some]
  have hc : wsframe_control.f op = some (decide (op ≥ 8)) := rfl
  simp only [wsframe_May.j0]
  unfold mayB
  cases hk : knownB op
  · rw [if_neg (by decide), if_pos (by rfl)]; simp
  · rw [if_pos rfl]
    have tail : ∀ b : Bool, b = decide ((d.length : Int) > 4096) → (if b = true then some false else (wsframe_control.f op).bind fun t121 => if t121 = true then (if fin = true then (if (d.length : Int) > 125 then some false else some true) else some false) else some true) = some (decide ((d.length : Int) ≤ 4096) && (decide (op < 8) || (fin && decide ((d.length : Int) ≤ 125)))) := by
      intro b hb
      subst hb
      by_cases h : (d.length : Int) > 4096
      · rw [if_pos (decide_eq_true h)]; have : ¬ (d.length : Int) ≤ 4096 := by omega
        simp [this]
      · rw [if_neg (by simpa using h), hc, Option.bind_some]
        have h1 : (d.length : Int) ≤ 4096 := by omega
        by_cases h8 : op ≥ 8
        · rw [if_pos (decide_eq_true h8)]
          have h9 : ¬ op < 8 := by omega
          cases fin
          · simp [h1, h9]
          · by_cases h5 : (d.length : Int) > 125
            · rw [if_pos rfl, if_pos h5]; have : ¬ (d.length : Int) ≤ 125 := by omega
              simp [h1, h9, this]
            · rw [if_pos rfl, if_neg h5]; have : (d.length : Int) ≤ 125 := by omega
              simp [h1, h9, this]
        · rw [if_neg (by simpa using h8)]; have : op < 8 := by omega
          simp [h1, this]
    cases mask
    · rw [if_neg (by decide)]
      by_cases h0 : key = 0
      · rw [if_pos h0, tail _ rfl]; simp [h0]
      · rw [if_neg h0, if_pos (bne_iff_ne.mpr h0)]; simp [h0]
    · rw [if_pos rfl, tail _ rfl]; simp
theorem rmay_f (fin : Bool) (op : Int) (mask : Bool) (key : Int) (d : List Int) : louverref16_May.f fin op mask key d = some (mayB fin op mask key d) := by
  unfold louverref16_May.f mayB
  rw [rknown_f, Option.bind_some]
  cases hk : knownB op
  · rw [if_neg (by decide)]; simp
  · rw [if_pos rfl]
    have tail : (if (d.length : Int) > 4096 then some false else if op < 8 then some true else if fin = true then some (decide ((d.length : Int) ≤ 125)) else some false) = some (decide ((d.length : Int) ≤ 4096) && (decide (op < 8) || (fin && decide ((d.length : Int) ≤ 125)))) := by
      by_cases h : (d.length : Int) > 4096
      · rw [if_pos h]; have : ¬ (d.length : Int) ≤ 4096 := by omega
        simp [this]
      · rw [if_neg h]; have h1 : (d.length : Int) ≤ 4096 := by omega
        by_cases h8 : op < 8
        · rw [if_pos h8]; simp [h1, h8]
        · rw [if_neg h8]
          cases fin
          · simp [h1, h8]
          · rw [if_pos rfl]; simp [h1, h8]
    by_cases h0 : key = 0
    · rw [if_pos h0, tail]; simp [h0]
    · rw [if_neg h0]
      cases mask
      · rw [if_neg (by decide)]; simp [h0]
      · rw [if_pos rfl, tail]; simp
theorem or128 {x : Int} (h0 : 0 ≤ x) (h1 : x ≤ 127) : Go.bits .or .u8 x 128 = x + 128 := by
  have := (by decide +kernel : ∀ n : Fin 128, Go.bits .or .u8 (n.val : Int) 128 = (n.val : Int) + 128) ⟨x.toNat, by omega⟩
  rwa [show ((⟨x.toNat, by omega⟩ : Fin 128).val : Int) = x by show (x.toNat : Int) = x; omega] at this
theorem zeroOr {x : Int} (h0 : 0 ≤ x) (h1 : x ≤ 127) : Go.bits .or .u8 0 x = x := by
  have := (by decide +kernel : ∀ n : Fin 128, Go.bits .or .u8 0 (n.val : Int) = (n.val : Int)) ⟨x.toNat, by omega⟩
  rwa [show ((⟨x.toNat, by omega⟩ : Fin 128).val : Int) = x by show (x.toNat : Int) = x; omega] at this
theorem topOr {x : Int} (h0 : 0 ≤ x) (h1 : x ≤ 127) : Go.bits .or .u8 128 x = 128 + x := by
  have := (by decide +kernel : ∀ n : Fin 128, Go.bits .or .u8 128 (n.val : Int) = 128 + (n.val : Int)) ⟨x.toNat, by omega⟩
  rwa [show ((⟨x.toNat, by omega⟩ : Fin 128).val : Int) = x by show (x.toNat : Int) = x; omega] at this
theorem turn_k (l : List Int) (key : Int) (hm : l.length ≤ 140737488355328) (k : Nat) (hk : l.length + 1 ≤ k) : wsframe_Turn.f k l key = some (turned l key) := by
  have := turn_f l key hm (k - (l.length + 1))
  rwa [show l.length + 1 + (k - (l.length + 1)) = k by omega] at this
theorem refTurn_k (l : List Int) (key : Int) (hl : ∀ x ∈ l, Byte x) (hm : l.length ≤ 140737488355327) (h0 : 0 ≤ key) (h1 : key ≤ 4294967295) (k : Nat) (hk : l.length + 10 ≤ k) : louverref16_Turn.f k (strOfNums l) key = some (strOfNums (turned l key)) := by
  have := refTurn_f l key hl hm h0 h1 (k - (l.length + 10))
  rwa [show l.length + 1 + (k - (l.length + 10) + 9) = k by omega] at this
theorem put_f (fin : Bool) (op : Int) (mask : Bool) (key : Int) (d : List Int) (h0 : 0 ≤ op) (hM : mayB fin op mask key d = true) (k : Nat) (hk : d.length + 10 ≤ k) : wsframe_Put.f k fin op mask key d = some (putL fin op mask key d) := by
  obtain ⟨k, rfl⟩ : ∃ m, k = m + 3 := ⟨k - 3, by omega⟩
  obtain ⟨hop, hmk, hlen, hctl⟩ := (mayB_iff ..).1 hM
  have hop2 : op ≤ 10 := by omega
  unfold wsframe_Put.f
  rw [wmay_f _ (by omega), hM, Option.bind_some, if_pos rfl, Option.bind_some]
  have e1 : ∀ x y : Int, rd [x, y] 0 = x := fun _ _ => rfl
  have e2 : ∀ x y : Int, rd [x, y] 1 = y := fun _ _ => rfl
  have s0 : ∀ x y z : Int, [x, y].set (0 : Int).toNat z = [z, y] := fun _ _ _ => rfl
  have s1 : ∀ x y z : Int, [x, y].set (1 : Int).toNat z = [x, z] := fun _ _ _ => rfl
  have j2 : ∀ x y : List Int, x.length + y.length ≤ 4 → wsframe_Put.j2 (k + 1) (x ++ y) fin op mask key d = some (x ++ y ++ (if mask = true then keyOf key ++ turned d key else d)) := by
    intro x y hxy
    rw [wsframe_Put.j2]
    cases mask
    · rw [if_neg (by decide), if_pos (by simp only [List.length_append]; omega), if_neg (by decide)]
    · rw [if_pos rfl, key_f, Option.bind_some, if_pos (by rw [List.length_append, show (keyOf key).length = 4 from rfl]; omega), Option.bind_some, turn_k d key (by omega) k (by omega), Option.bind_some, if_pos (by rw [List.length_append, List.length_append, turned_len, show (keyOf key).length = 4 from rfl]; omega), if_pos rfl]
      simp
  have j1 : ∀ x b : Int, (b = 0 ∨ b = 128) → wsframe_Put.j1 (k + 2) [x, b] fin op mask key d = some (x :: (b + (if d.length < 126 then (d.length : Int) else 126)) :: ((if d.length < 126 then [] else [(d.length : Int) / 256 % 256, (d.length : Int) % 256]) ++ (if mask = true then keyOf key ++ turned d key else d))) := by
    intro x b hb
    unfold wsframe_Put.j1
    dsimp only
    by_cases hs : d.length < 126
    · rw [if_pos (by omega), if_pos (by simp), e2, s1, if_pos hs, if_pos hs]
      have hm : ((d.length : Int)) % 256 = (d.length : Int) := by omega
      have : Go.bits .or .u8 b ((d.length : Int) % 256) = b + (d.length : Int) := by
        rw [hm]
        rcases hb with rfl | rfl
        · rw [zeroOr (by omega) (by omega)]; omega
        · exact topOr (by omega) (by omega)
      rw [this]
      have := j2 [x, b + (d.length : Int)] [] (by simp)
      simpa using this
    · rw [if_neg (by omega), if_pos (by simp), e2, s1, Option.bind_some, Option.bind_some, if_pos (by simp), if_neg hs, if_neg hs]
      have : Go.bits .or .u8 b 126 = b + 126 := by
        rcases hb with rfl | rfl
        · exact zeroOr (by omega) (by omega)
        · exact topOr (by omega) (by omega)
      rw [this]
      have := j2 [x, b + 126] [(d.length : Int) / 256 % 256, (d.length : Int) % 256] (by simp)
      simpa using this
  have j0 : ∀ x : Int, wsframe_Put.j0 (k + 3) [x, 0] fin op mask key d = some (x :: ((if mask = true then 128 else 0) + (if d.length < 126 then (d.length : Int) else 126)) :: ((if d.length < 126 then [] else [(d.length : Int) / 256 % 256, (d.length : Int) % 256]) ++ (if mask = true then keyOf key ++ turned d key else d))) := by
    intro x
    rw [wsframe_Put.j0]
    cases hm : mask
    · subst hm
      rw [if_neg (by decide), j1 x 0 (.inl rfl)]; simp
    · subst hm
      rw [if_pos rfl, if_pos (by simp), e2, s1, or128 (by omega) (by omega), j1 x (0 + 128) (.inr rfl)]; simp
  unfold putL
  cases hf : fin
  · subst hf
    rw [if_neg (by decide), j0]; simp
  · subst hf
    rw [if_pos rfl, if_pos (by simp), e1, s0, or128 h0 (by omega), j0, if_pos rfl]
theorem put_none (fin : Bool) (op : Int) (mask : Bool) (key : Int) (d : List Int) (hM : mayB fin op mask key d = false) (k : Nat) (hk : 1 ≤ k) : wsframe_Put.f k fin op mask key d = some [] := by
  unfold wsframe_Put.f
  rw [wmay_f _ hk, hM, Option.bind_some, if_neg (by decide)]
theorem number2_f (n : Int) (h0 : 0 ≤ n) (h1 : n ≤ 65535) (k : Nat) (hk : 3 ≤ k) : louverref07_Number.f k (IntKind.u64.wrap n) 2 = some (strOfNums [n / 256 % 256, n % 256]) := by
  obtain ⟨c, rfl⟩ : ∃ c, k = c + 3 := ⟨k - 3, by omega⟩
  have hw : ∀ n : Int, IntKind.u64.wrap n = n % 18446744073709551616 := fun n => by simp [IntKind.wrap, IntKind.bits, IntKind.signed]
  have hd : ∀ n : Int, 0 ≤ n → n ≤ 4294967295 → IntKind.u64.wrap (Int.tdiv n 256) = n / 256 := fun n a b => by
    rw [hw, Int.tdiv_eq_ediv_of_nonneg a]; omega
  have hm : ∀ n : Int, 0 ≤ n → (Int.tmod n 256) % 256 = n % 256 := fun n a => by
    rw [Int.tmod_eq_emod_of_nonneg a]; omega
  have step : ∀ (c : Nat) (n i : Int) (s : List Int), 0 ≤ n → n ≤ 4294967295 → 0 ≤ i → i < 2 → s.length ≤ 4 → louverref07_Number.l0 (c + 1) n 2 (strOfNums s) i = louverref07_Number.l0 c (n / 256) 2 (strOfNums ((n % 256) :: s)) (i + 1) := by
    intro c n i s a b d e f
    conv => lhs; unfold louverref07_Number.l0
    rw [if_pos e, Option.bind_some, if_pos (by rw [str_size, str_size]; simp only [List.length_cons, List.length_nil]; omega), str_append, hd n a b, hm n a]
    have : wrap64 (i + 1) = i + 1 := by unfold wrap64; omega
    rw [this]
    rfl
  unfold louverref07_Number.f
  rw [show IntKind.u64.wrap n = n by rw [hw]; omega, show (⟨#[]⟩ : ByteArray) = strOfNums [] from rfl]
  rw [step _ n 0 [] h0 (by omega) (by omega) (by omega) (by decide), step _ _ (0 + 1) _ (by omega) (by omega) (by omega) (by omega) (by simp)]
  unfold louverref07_Number.l0
  rw [if_neg (by omega)]
theorem refPut_f (fin : Bool) (op : Int) (mask : Bool) (key : Int) (d : List Int) (hd : ∀ x ∈ d, Byte x) (h0 : 0 ≤ op) (k0 : 0 ≤ key) (k1 : key ≤ 4294967295) (hM : mayB fin op mask key d = true) (k : Nat) (hk : d.length + 20 ≤ k) : louverref16_Put.f k fin op mask key d = some (strOfNums (putL fin op mask key d)) := by
  obtain ⟨k, rfl⟩ : ∃ m, k = m + 3 := ⟨k - 3, by omega⟩
  obtain ⟨hop, hmk, hlen, hctl⟩ := (mayB_iff ..).1 hM
  have hop2 : op ≤ 10 := by omega
  unfold louverref16_Put.f
  have j2 : ∀ (x b : Int) (y : List Int), y.length ≤ 2 → louverref16_Put.j2 (k + 1) x b (strOfNums y) fin op mask key d = some (strOfNums (x :: b :: (y ++ (if mask = true then keyOf key ++ turned d key else d)))) := by
    intro x b y hy
    rw [louverref16_Put.j2]
    have e : strOfNums [x, b] ++ strOfNums y = strOfNums (x :: b :: y) := str_append _ _
    rw [Option.bind_some, if_pos (by rw [str_size, str_size]; simp only [List.length_cons, List.length_nil]; omega), e]
    cases mask
    · rw [if_neg (by decide), str_append, if_pos (by rw [str_size, str_size]; simp only [List.length_cons]; omega), if_neg (by decide)]
      simp
    · have hn := number_f key k0 k1 (k - 5)
      rw [show k - 5 + 5 = k by omega] at hn
      rw [if_pos rfl, hn, Option.bind_some]
      unfold keyStr
      rw [str_append, if_pos (by rw [str_size, str_size, show (keyOf key).length = 4 from rfl]; simp only [List.length_cons]; omega), refTurn_k d key hd (by omega) k0 k1 k (by omega), Option.bind_some, str_append, if_pos (by rw [str_size, str_size, turned_len, List.length_append, show (keyOf key).length = 4 from rfl]; simp only [List.length_cons]; omega), if_pos rfl]
      simp
  have j1 : ∀ x b : Int, (b = 0 ∨ b = 128) → louverref16_Put.j1 (k + 2) x b fin op mask key d = some (strOfNums (x :: (b + (if d.length < 126 then (d.length : Int) else 126)) :: ((if d.length < 126 then [] else [(d.length : Int) / 256 % 256, (d.length : Int) % 256]) ++ (if mask = true then keyOf key ++ turned d key else d)))) := by
    intro x b hb
    unfold louverref16_Put.j1
    dsimp only
    by_cases hs : d.length < 126
    · rw [if_pos (by omega), if_pos hs, if_pos hs, show (⟨#[]⟩ : ByteArray) = strOfNums [] from rfl, j2 _ _ [] (by simp), show (b + (d.length : Int) % 256) % 256 = b + (d.length : Int) by omega]
    · rw [if_neg (by omega), if_neg hs, if_neg hs, number2_f _ (by omega) (by omega) _ (by omega), Option.bind_some, j2 _ _ _ (by simp), show (b + 126) % 256 = b + 126 by omega]
  have j0 : ∀ x : Int, louverref16_Put.j0 (k + 3) x fin op mask key d = some (strOfNums (x :: ((if mask = true then 128 else 0) + (if d.length < 126 then (d.length : Int) else 126)) :: ((if d.length < 126 then [] else [(d.length : Int) / 256 % 256, (d.length : Int) % 256]) ++ (if mask = true then keyOf key ++ turned d key else d)))) := by
    intro x
    rw [louverref16_Put.j0]
    cases hm : mask
    · subst hm
      rw [if_neg (by decide), j1 x 0 (.inl rfl)]; simp
    · subst hm
      rw [if_pos rfl, j1 x 128 (.inr rfl)]; simp
  unfold putL
  cases hf : fin
  · subst hf
    rw [if_neg (by decide), j0]; simp
  · subst hf
    rw [if_pos rfl, show (op + 128) % 256 = op + 128 by omega, j0, if_pos rfl]
end Go.Proofs.YtabpngcjlikpkaaDoor.PAll
