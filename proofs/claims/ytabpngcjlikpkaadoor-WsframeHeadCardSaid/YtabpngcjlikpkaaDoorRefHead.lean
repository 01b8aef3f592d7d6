/- What the document tells of a head is what the program tells. -/
import Derived.Test.YtabpngcjlikpkaaDoorPutHead
import Derived.Test.YtabpngcjlikpkaaDoorPAllx3
namespace Go.Proofs.YtabpngcjlikpkaaDoor.PAll
open Go.RowKit Go.Proofs.YtabpngcjlikpkaaDoorW.PrintWords Go.Proofs.YtabpngcjlikpkaaDoorW.PrintLast Go.Proofs.YtabpngcjlikpkaaDoorW.PrintMore
set_option linter.unusedVariables false
set_option linter.unusedSimpArgs false
/-- The document's answer, out of the program's. -/
def refH (l : List Int) (m : Bool) : Int × Int × Int × Bool :=
  if (headF l m).2.2.2 ≠ 0 then (0, 0, (headF l m).2.2.2, false) else if (headF l m).2.2.1 = true then (0, 0, 0, true) else ((headF l m).1, (headF l m).2.1, 0, false)
theorem bt_rd {l : List Int} (hl : l.all isByte = true) (i : Nat) (hi : i < l.length) : bt (strOfNums l) (i : Int) = rd l (i : Int) := by
  have := all_byte hl (List.getElem_mem hi)
  rw [bt_str l i hi this, rd_nat l i hi]
theorem str_cut (l : List Int) (a b : Nat) : (strOfNums l).extract a b = strOfNums ((l.take b).drop a) := by
  apply ByteArray.ext
  rw [ByteArray.data_extract]
  simp [strOfNums, List.map_drop, List.map_take, List.extract_toArray, List.extract_eq_take_drop, List.drop_take]
theorem rd_cut (l : List Int) (a b i : Nat) (h : a + i < b) : rd ((l.take b).drop a) (i : Int) = rd l ((a + i : Nat) : Int) := by
  unfold rd
  rw [Int.toNat_natCast, Int.toNat_natCast, List.getD_eq_getElem?_getD, List.getD_eq_getElem?_getD, List.getElem?_drop, List.getElem?_take_of_lt h]
theorem val_cut (l : List Int) (a b : Nat) : ∀ n, a + n ≤ b → val ((l.take b).drop a) 0 n = val l a n
  | 0, _ => rfl
  | n + 1, h => by
    have e1 : val ((l.take b).drop a) 0 (n + 1) = val ((l.take b).drop a) 0 n * 256 + rd ((l.take b).drop a) ((0 + n : Nat) : Int) := rfl
    have e2 : val l a (n + 1) = val l a n * 256 + rd l ((a + n : Nat) : Int) := rfl
    rw [e1, e2, val_cut l a b n (by omega), Nat.zero_add, rd_cut l a b n (by omega)]
theorem value_loop {x : List Int} (hx : x.all isByte = true) (h4 : x.length ≤ 4) : ∀ (m i k : Nat), i + m = x.length → m + 1 ≤ k → louverref07_Value.l0 k (strOfNums x) (val x 0 i) (i : Int) = some (val x 0 x.length)
  | 0, i, k, hi, hk => by
    obtain ⟨k, rfl⟩ : ∃ c, k = c + 1 := ⟨k - 1, by omega⟩
    obtain rfl : i = x.length := by omega
    unfold louverref07_Value.l0
    rw [if_neg (by rw [str_size]; omega)]
  | m + 1, i, k, hi, hk => by
    obtain ⟨k, rfl⟩ : ∃ c, k = c + 1 := ⟨k - 1, by omega⟩
    have hb := val_bounds hx 0 i
    have hr := rd_byte hx (i : Int)
    have h256 : (256 : Int) ^ i ≤ 16777216 := by
      have : i = 0 ∨ i = 1 ∨ i = 2 ∨ i = 3 := by omega
      rcases this with h | h | h | h <;> rw [h] <;> decide
    have e : val x 0 (i + 1) = val x 0 i * 256 + rd x ((0 + i : Nat) : Int) := rfl
    rw [Nat.zero_add] at e
    have hw : wrap64 ((i : Int) + 1) = ((i + 1 : Nat) : Int) := by unfold wrap64; omega
    unfold louverref07_Value.l0
    rw [if_pos (by rw [str_size]; omega), if_pos (by omega), bt_rd hx i (by omega), hw, show (256 * val x 0 i % 4294967296 + rd x (i : Int) % 4294967296) % 4294967296 = val x 0 (i + 1) by rw [e]; omega]
    exact value_loop hx h4 m (i + 1) k (by omega) (by omega)
theorem value_f {x : List Int} (hx : x.all isByte = true) (h4 : x.length ≤ 4) (k : Nat) (hk : 5 ≤ k) : louverref07_Value.f k (strOfNums x) = some (val x 0 x.length) := by
  unfold louverref07_Value.f
  exact value_loop hx h4 x.length 0 k (by omega) (by omega)
theorem all_cut {l : List Int} (hl : l.all isByte = true) (a b : Nat) : ((l.take b).drop a).all isByte = true := by
  rw [List.all_eq_true] at hl ⊢
  intro x hx
  exact hl x (List.mem_of_mem_take (List.mem_of_mem_drop hx))
theorem value_cut {l : List Int} (hl : l.all isByte = true) (a b : Nat) (hab : a ≤ b) (hb : b ≤ l.length) (h4 : b - a ≤ 4) (k : Nat) (hk : 5 ≤ k) : louverref07_Value.f k ((strOfNums l).extract a b) = some (val l a (b - a)) := by
  have hlen : ((l.take b).drop a).length = b - a := by simp; omega
  rw [str_cut, value_f (all_cut hl a b) (by omega) k hk, hlen, val_cut l a b (b - a) (by omega)]
theorem val_split (l : List Int) (i : Nat) : val l i 8 = val l i 4 * 4294967296 + val l (i + 4) 4 := by
  have e : val l i 8 = (((val l i 4 * 256 + rd l ((i + 4 : Nat) : Int)) * 256 + rd l ((i + 5 : Nat) : Int)) * 256 + rd l ((i + 6 : Nat) : Int)) * 256 + rd l ((i + 7 : Nat) : Int) := rfl
  have f : val l (i + 4) 4 = (((0 * 256 + rd l ((i + 4 : Nat) : Int)) * 256 + rd l ((i + 4 + 1 : Nat) : Int)) * 256 + rd l ((i + 4 + 2 : Nat) : Int)) * 256 + rd l ((i + 4 + 3 : Nat) : Int) := rfl
  rw [show i + 4 + 1 = i + 5 by omega, show i + 4 + 2 = i + 6 by omega, show i + 4 + 3 = i + 7 by omega] at f
  omega
theorem str_nil (l : List Int) : ((strOfNums l).toList = []) ↔ l.length = 0 := by
  constructor
  · intro h
    have h2 := congrArg List.length h
    rw [ByteArray.toList_eq, Array.length_toList] at h2
    have h3 := str_size l
    unfold ByteArray.size at h3
    simp at h2
    rw [h2] at h3
    simpa using h3.symm
  · intro h
    rw [List.eq_nil_of_length_eq_zero h]
    rw [ByteArray.toList_eq]
    rfl
/-- The document's head. -/
theorem refHead_f {l : List Int} (hl : l.all isByte = true) (m : Bool) (k : Nat) (hk : 20 ≤ k) : louverref16_Head.f k (strOfNums l) m = some (refH l m) := by
  obtain ⟨k, rfl⟩ : ∃ c, k = c + 3 := ⟨k - 3, by omega⟩
  have b0 := rd_byte hl 0
  have b1 := rd_byte hl 1
  have lb := lenF_bounds hl
  unfold refH
  by_cases h0 : l.length = 0
  · unfold louverref16_Head.f headF
    rw [if_pos ((str_nil l).2 h0), if_pos h0]
    rfl
  · have hsz := str_size l
    have e0 : bt (strOfNums l) 0 = rd l 0 := bt_rd hl 0 (by omega)
    unfold louverref16_Head.f
    have ht : Int.tdiv (rd l 0) 16 % 256 % 8 = rd l 0 / 16 % 8 := by rw [Int.tdiv_eq_ediv_of_nonneg b0.1]; omega
    have hm16 : Int.tmod (rd l 0) 16 = rd l 0 % 16 := Int.tmod_eq_emod_of_nonneg b0.1
    rw [if_neg (fun h => h0 ((str_nil l).1 h)), if_pos (by omega), e0, ht, hm16]
    have j0t : ∀ x : Int, louverref16_Head.j0 (k + 3) (strOfNums l) m x true = some (0, 0, 1002, false) := fun x => by
      rw [louverref16_Head.j0, if_pos rfl]
    have hH : headF l m = headF l m := rfl
    conv at hH => rhs; unfold headF
    rw [if_neg h0] at hH
    by_cases hF : rd l 0 / 16 % 8 ≠ 0 ∨ knownB (rd l 0 % 16) = false ∨ (8 ≤ rd l 0 % 16 ∧ rd l 0 < 128)
    · rw [if_pos hF] at hH
      rw [hH]
      show _ = some (0, 0, 1002, false)
      by_cases ha : rd l 0 / 16 % 8 = 0
      · rw [if_pos ha, rknown_f, Option.bind_some]
        rcases hF with h | h | h
        · exact absurd ha h
        · rw [h, if_neg (by decide), j0t]
        · cases hkb : knownB (rd l 0 % 16)
          · rw [if_neg (by decide), j0t]
          · rw [if_pos rfl, if_pos (by omega), decide_eq_true h.2, j0t]
      · rw [if_neg ha, j0t]
    · rw [if_neg hF] at hH
      have ha : rd l 0 / 16 % 8 = 0 := by
        by_cases h : rd l 0 / 16 % 8 = 0
        · exact h
        · exact absurd (.inl h) hF
      have hkb : knownB (rd l 0 % 16) = true := by
        cases h : knownB (rd l 0 % 16)
        · exact absurd (.inr (.inl h)) hF
        · rfl
      have hcf : ¬ (8 ≤ rd l 0 % 16 ∧ rd l 0 < 128) := fun h => hF (.inr (.inr h))
      have hj0 : (if rd l 0 % 16 > 7 then louverref16_Head.j0 (k + 3) (strOfNums l) m (rd l 0 % 16) (decide (rd l 0 < 128)) else louverref16_Head.j0 (k + 3) (strOfNums l) m (rd l 0 % 16) false) = louverref16_Head.j0 (k + 3) (strOfNums l) m (rd l 0 % 16) false := by
        by_cases h8 : rd l 0 % 16 > 7
        · rw [if_pos h8, decide_eq_false (by omega)]
        · rw [if_neg h8]
      rw [if_pos ha, rknown_f, Option.bind_some, hkb, if_pos rfl, hj0, louverref16_Head.j0, if_neg (by decide)]
      by_cases h1 : l.length = 1
      · rw [if_pos h1] at hH
        rw [hH, if_pos (by omega)]
        rfl
      · rw [if_neg h1] at hH
        have e1 : bt (strOfNums l) 1 = rd l 1 := bt_rd hl 1 (by omega)
        have hm128 : wrap64 (Int.tmod (rd l 1) 128) = rd l 1 % 128 := by rw [Int.tmod_eq_emod_of_nonneg b1.1]; unfold wrap64; omega
        have hdec : decide (rd l 1 > 127) = decide (128 ≤ rd l 1) := decide_eq_decide.mpr (by omega)
        have j1t : ∀ x : Int, louverref16_Head.j1 (k + 2) (strOfNums l) m x true = some (0, 0, 1002, false) := fun x => by
          rw [louverref16_Head.j1, if_pos rfl]
        rw [if_neg (by omega), if_pos (by omega), e1, hm128, hdec]
        by_cases hS : decide (128 ≤ rd l 1) ≠ m ∨ (8 ≤ rd l 0 % 16 ∧ 126 ≤ rd l 1 % 128)
        · rw [if_pos hS] at hH
          rw [hH]
          show _ = some (0, 0, 1002, false)
          by_cases hm : decide (128 ≤ rd l 1) = m
          · have h8 : 8 ≤ rd l 0 % 16 ∧ 126 ≤ rd l 1 % 128 := hS.resolve_left (fun h => h hm)
            rw [if_neg (by rw [hm]; simp), if_pos (by omega), decide_eq_true (by omega), j1t]
          · rw [if_pos (bne_iff_ne.mpr hm), j1t]
        · rw [if_neg hS] at hH
          have hm : decide (128 ≤ rd l 1) = m := by
            by_cases h : decide (128 ≤ rd l 1) = m
            · exact h
            · exact absurd (.inl h) hS
          have hlong : ¬ (8 ≤ rd l 0 % 16 ∧ 126 ≤ rd l 1 % 128) := fun h => hS (.inr h)
          have hj1 : (if rd l 0 % 16 > 7 then louverref16_Head.j1 (k + 2) (strOfNums l) m (rd l 1 % 128) (decide (rd l 1 % 128 > 125)) else louverref16_Head.j1 (k + 2) (strOfNums l) m (rd l 1 % 128) false) = louverref16_Head.j1 (k + 2) (strOfNums l) m (rd l 1 % 128) false := by
            by_cases h8 : rd l 0 % 16 > 7
            · rw [if_pos h8, decide_eq_false (by omega)]
            · rw [if_neg h8]
          rw [if_neg (by rw [hm]; simp), hj1]
          have j2 : ∀ n f : Int, 0 ≤ f → f ≤ 100 → louverref16_Head.j2 (k + 1) m n f = some (if 4096 < n then (0, 0, 1009, false) else (f + (if m = true then 4 else 0), n, 0, false)) := by
            intro n f f0 f1
            rw [louverref16_Head.j2]
            by_cases hn : n > 4096
            · rw [if_pos hn, if_pos hn]
            · rw [if_neg hn, if_neg hn]
              cases m
              · rw [if_neg (by decide), if_neg (by decide), Int.add_zero]
              · rw [if_pos rfl, if_pos rfl, show wrap64 (f + 4) = f + 4 by unfold wrap64; omega]
          rw [louverref16_Head.j1, if_neg (by decide)]
          unfold lenF at hH
          by_cases h6 : rd l 1 % 128 = 126
          · rw [if_pos h6]
            simp only [if_pos h6] at hH
            by_cases h4 : l.length < 4
            · simp only [if_pos h4] at hH
              rw [if_pos (by omega), hH]
              rfl
            · simp only [if_neg h4] at hH
              have hv := val_bounds hl 2 2
              rw [show (256 : Int) ^ 2 = 65536 from rfl] at hv
              rw [if_neg (by omega), if_pos (by omega), if_pos (by omega), value_cut hl 2 4 (by omega) (by omega) (by omega) _ (by omega), Option.bind_some, show (4 : Nat) - 2 = 2 from rfl, show wrap64 (val l 2 2) = val l 2 2 by unfold wrap64; omega]
              by_cases hn : val l 2 2 < 126
              · simp only [if_pos hn] at hH
                rw [if_pos hn, hH]
                rfl
              · simp only [if_neg hn] at hH
                rw [if_neg hn, j2 _ _ (by omega) (by omega), hH]
                by_cases hg : 4096 < val l 2 2
                · rw [if_pos hg]; simp [hg]
                · rw [if_neg hg]; simp [hg]
          · rw [if_neg h6]
            simp only [if_neg h6] at hH
            by_cases h7 : rd l 1 % 128 = 127
            · rw [if_pos h7]
              simp only [if_pos h7] at hH
              by_cases h10 : l.length < 10
              · simp only [if_pos h10] at hH
                rw [if_pos (by omega), hH]
                rfl
              · simp only [if_neg h10] at hH
                have hv := val_bounds hl 2 4
                have hw := val_bounds hl 6 4
                rw [show (256 : Int) ^ 4 = 4294967296 from rfl] at hv hw
                have hsp := val_split l 2
                rw [show (2 : Nat) + 4 = 6 from rfl] at hsp
                rw [if_neg (by omega), if_pos (by omega), if_pos (by omega), value_cut hl 2 6 (by omega) (by omega) (by omega) _ (by omega), Option.bind_some, if_pos (by omega), if_pos (by omega), value_cut hl 6 10 (by omega) (by omega) (by omega) _ (by omega), Option.bind_some, show (6 : Nat) - 2 = 4 from rfl]
                by_cases hbad : val l 2 8 < 65536 ∨ 9223372036854775808 ≤ val l 2 8
                · simp only [if_pos hbad] at hH
                  rw [hH]
                  by_cases hz : val l 2 4 = 0
                  · rw [if_pos hz]
                    by_cases hlow : val l 6 4 < 65536
                    · rw [if_pos hlow]; rfl
                    · omega
                  · rw [if_neg hz, if_pos (by omega)]; rfl
                · simp only [if_neg hbad] at hH
                  have hg : 4096 < val l 2 8 := by omega
                  rw [hH]
                  by_cases hz : val l 2 4 = 0
                  · rw [if_pos hz, if_neg (by omega), if_neg (by omega)]; simp [hg]
                  · rw [if_neg hz, if_neg (by omega)]; simp [hg]
            · rw [if_neg h7, j2 _ _ (by omega) (by omega)]
              simp only [if_neg h7] at hH
              rw [hH]
              have hg : ¬ 4096 < rd l 1 % 128 := by omega
              rw [if_neg hg]; simp [hg]
/-- What the program's Head answers, out of the document's. -/
theorem HeadF_ref (l : List Int) (m : Bool) : HeadF l m = (if (refH l m).2.2.2 = true then 0 else (refH l m).1 + (refH l m).2.1, if (refH l m).2.2.1 = 0 then 0 else 3, (refH l m).2.2.1, !(refH l m).2.2.2) := by
  unfold HeadF refH
  by_cases h : (headF l m).2.2.2 ≠ 0
  · rw [if_pos h, if_pos h]; simp [h]
  · rw [if_neg h, if_neg h]
    by_cases h2 : (headF l m).2.2.1 = true
    · rw [if_pos h2, if_pos h2]; simp
    · rw [if_neg h2, if_neg h2]; simp
end Go.Proofs.YtabpngcjlikpkaaDoor.PAll
