/- The printed functions of the document's letters tell what the machine over bytes tells. -/
import Derived.Test.YtbjjobifpmjhhaaDoorPAllx4
import Derived.Test.YtbjjobifpmjhhaaDoorGood0
namespace Go.Proofs.YtbjjobifpmjhhaaDoor.U
open Go.RowKit Go.Proofs.YtbjjobifpmjhhaaDoorW.PrintWords Go.Proofs.YtbjjobifpmjhhaaDoorW.PrintLast Go.Proofs.YtbjjobifpmjhhaaDoor.PAll
set_option linter.unusedVariables false

/-- A string's bytes as numbers. -/
def bs (s : ByteArray) : List Int := s.data.toList.map fun b => (b.toNat : Int)
theorem bs_length (s : ByteArray) : (bs s).length = s.size := by
  show (s.data.toList.map _).length = s.data.size
  rw [List.length_map, Array.length_toList]
theorem bs_byte (s : ByteArray) : ∀ x ∈ bs s, 0 ≤ x ∧ x ≤ 255 := by
  intro x hx
  obtain ⟨b, _, rfl⟩ := List.mem_map.1 hx
  have := b.toNat_lt
  omega
theorem bt_bs (s : ByteArray) (i : Nat) (h : i < (bs s).length) : bt s (i : Int) = (bs s)[i] := by
  have h' : i < s.size := by rw [← bs_length]; exact h
  unfold bt
  rw [dif_pos (by simpa using h')]
  simp [bs, ByteArray.getElem_eq_getElem_data]
theorem bs_extract (s : ByteArray) (a b : Nat) : bs (s.extract a b) = ((bs s).drop a).take (b - a) := by
  unfold bs
  obtain ⟨⟨l⟩⟩ := s
  rw [ByteArray.extract_mk]
  simp
theorem bs_str (xs : List Int) (h : ∀ x ∈ xs, 0 ≤ x ∧ x ≤ 255) : bs (strOfNums xs) = xs := by
  unfold bs
  rw [strOfNums_data, List.map_map]
  conv => rhs; rw [← List.map_id xs]
  refine List.map_congr_left fun x hx => ?_
  have := h x hx
  simp only [Function.comp, UInt8.toNat_ofNat', id]
  omega
theorem bs_inj {a b : ByteArray} (h : bs a = bs b) : a.toList = b.toList := by
  rw [ByteArray.toList_eq, ByteArray.toList_eq]
  unfold bs at h
  refine List.map_inj_right (f := fun b : UInt8 => (b.toNat : Int)) ?_ |>.1 h
  intro x y hxy
  have hxy' : (x.toNat : Int) = (y.toNat : Int) := hxy
  exact UInt8.toNat_inj.1 (Int.ofNat_inj.1 hxy')
theorem bs_of_toList {a b : ByteArray} (h : a.toList = b.toList) : bs a = bs b := by
  rw [ByteArray.toList_eq, ByteArray.toList_eq] at h
  unfold bs
  rw [h]
theorem bs_eq_iff (a b : ByteArray) : a.toList = b.toList ↔ bs a = bs b := ⟨bs_of_toList, bs_inj⟩

theorem size_f (k : Nat) (hk : 3 ≤ k) (b : Int) : louverref15_size.f k b = some (sizeC b : Int) := by
  obtain ⟨n, rfl⟩ : ∃ m, k = m + 3 := ⟨k - 3, by omega⟩
  unfold sizeC
  simp only [louverref15_size.f, louverref15_size.j0, louverref15_size.j1, decide_eq_true_eq, Bool.false_eq_true, if_false]
  have hc : b < 128 ∨ (128 ≤ b ∧ b < 192) ∨ (192 ≤ b ∧ b < 224) ∨ (224 ≤ b ∧ b < 240) ∨ (240 ≤ b ∧ b < 248) ∨ 248 ≤ b := by omega
  rcases hc with h | h | h | h | h | h
  all_goals simp (disch := omega) only [if_pos, if_neg]
  all_goals rfl
theorem write_byte {c : Int} (h0 : 0 ≤ c) (h1 : c < 1114112) : ∀ x ∈ writeC c, 0 ≤ x ∧ x ≤ 255 := by
  unfold writeC
  repeat' split
  all_goals
    intro x hx
    simp only [List.mem_cons, List.not_mem_nil, or_false] at hx
    omega
theorem write_f {c : Int} (h0 : 0 ≤ c) (h1 : c < 1114112) : louverref15_write.f c = some (strOfNums (writeC c)) := by
  unfold louverref15_write.f writeC
  have e1 : ∀ d : Int, 0 < d → Int.tdiv c d = c / d := fun d hd => Int.tdiv_eq_ediv_of_nonneg h0
  have w1 : ∀ x : Int, 0 ≤ x → x ≤ 1200000 → wrap64 x = x := fun x a b => by unfold wrap64; omega
  have d64 : wrap64 (Int.tdiv c 64) = c / 64 := by rw [e1 64 (by decide), w1 _ (by omega) (by omega)]
  have d4 : wrap64 (Int.tdiv c 4096) = c / 4096 := by rw [e1 4096 (by decide), w1 _ (by omega) (by omega)]
  have d2 : wrap64 (Int.tdiv c 262144) = c / 262144 := by rw [e1 262144 (by decide), w1 _ (by omega) (by omega)]
  have t : ∀ x : Int, 0 ≤ x → Int.tmod x 64 = x % 64 := fun x hx => Int.tmod_eq_emod_of_nonneg hx
  rw [d64, d4, d2, t c h0, t (c / 64) (by omega), t (c / 4096) (by omega)]
  split
  · rw [show c % 256 = c by omega]
  · split
    · rw [w1 (192 + c / 64) (by omega) (by omega), w1 (128 + c % 64) (by omega) (by omega), show (192 + c / 64) % 256 = 192 + c / 64 by omega, show (128 + c % 64) % 256 = 128 + c % 64 by omega]
    · split
      · rw [w1 (224 + c / 4096) (by omega) (by omega), w1 (128 + c / 64 % 64) (by omega) (by omega), w1 (128 + c % 64) (by omega) (by omega), show (224 + c / 4096) % 256 = 224 + c / 4096 by omega, show (128 + c / 64 % 64) % 256 = 128 + c / 64 % 64 by omega, show (128 + c % 64) % 256 = 128 + c % 64 by omega]
      · rw [w1 (240 + c / 262144) (by omega) (by omega), w1 (128 + c / 4096 % 64) (by omega) (by omega), w1 (128 + c / 64 % 64) (by omega) (by omega), w1 (128 + c % 64) (by omega) (by omega), show (240 + c / 262144) % 256 = 240 + c / 262144 by omega, show (128 + c / 4096 % 64) % 256 = 128 + c / 4096 % 64 by omega, show (128 + c / 64 % 64) % 256 = 128 + c / 64 % 64 by omega, show (128 + c % 64) % 256 = 128 + c % 64 by omega]
/-- One candidate, as the printed loop asks it. -/
theorem cands_loop (s : ByteArray) (n : Nat) (lo hi : Int) (h0 : 0 ≤ lo) (hn : s.size ≤ n) (y : List Int) (hy : y.length ≤ 100) (d : Nat) : ∀ (j k : Nat), y.length - j = d → j ≤ y.length → d + 1 ≤ k →
    louverref15_begins.l1 k s (n : Int) lo hi y (y.length : Int) (j : Int) = some ((y.drop j).any (testC (bs s) n lo hi)) := by
  induction d with
  | zero =>
    intro j k hd hj hk
    obtain ⟨k, rfl⟩ : ∃ m, k = m + 1 := ⟨k - 1, by omega⟩
    obtain rfl : j = y.length := by omega
    simp only [louverref15_begins.l1]
    rw [if_neg (by omega), List.drop_length]
    rfl
  | succ d ih =>
    intro j k hd hj hk
    obtain ⟨k, rfl⟩ : ∃ m, k = m + 1 := ⟨k - 1, by omega⟩
    have hlt : j < y.length := by omega
    have q1 : (j : Int) < (y.length : Int) := by omega
    have q0 : 0 ≤ (j : Int) := by omega
    have IH := ih (j + 1) k (by omega) (by omega) (by omega)
    have ew : wrap64 ((j : Int) + 1) = ((j + 1 : Nat) : Int) := by unfold wrap64; omega
    have e : rd y (j : Int) = y[j] := by simp [rd, hlt]
    have ed : y.drop j = y[j] :: y.drop (j + 1) := (List.getElem_cons_drop hlt).symm
    rw [ed, List.any_cons, louverref15_begins.l1, if_pos q1, if_pos q0, if_pos q1, e, ew, IH]
    clear e ew ed IH q1 q0
    generalize y[j] = c
    generalize (y.drop (j + 1)).any (testC (bs s) n lo hi) = rest
    by_cases a1' : c < lo
    · rw [if_neg (by omega)]
      have : testC (bs s) n lo hi c = false := by unfold testC; rw [decide_eq_false (by omega)]; rfl
      rw [this]; rfl
    rw [if_pos (show c ≥ lo by omega)]
    by_cases a2' : hi < c
    · rw [if_neg (by omega)]
      have : testC (bs s) n lo hi c = false := by unfold testC; rw [decide_eq_false (show ¬ c ≤ hi by omega)]; simp
      rw [this]; rfl
    have a2 : c ≤ hi := by omega
    rw [if_pos a2]
    by_cases a3' : 1114112 ≤ c
    · rw [if_neg (by omega)]
      have : testC (bs s) n lo hi c = false := by unfold testC; rw [decide_eq_false (show ¬ c < 1114112 by omega)]; simp
      rw [this]; rfl
    have a3 : c < 1114112 := by omega
    rw [if_pos a3, write_f (by omega) a3]
    simp only [Option.bind_some, strOfNums_size]
    have key : (if ((writeC c).length : Int) = (n : Int) then (if 0 ≤ (s.size : Int) then (if (s.size : Int) ≤ ((writeC c).length : Int) then (if ((strOfNums (writeC c)).extract 0 s.size).toList = s.toList then (some true) else some rest) else none) else none) else some rest) = some ((decide ((writeC c).length = n) && decide ((writeC c).take (bs s).length = bs s)) || rest) := by
      by_cases b1 : (writeC c).length = n
      · rw [if_pos (by omega), if_pos (by omega), if_pos (by omega), decide_eq_true b1, Bool.true_and]
        have q : ((strOfNums (writeC c)).extract 0 s.size).toList = s.toList ↔ (writeC c).take (bs s).length = bs s := by
          rw [bs_eq_iff, bs_extract, bs_str _ (write_byte (by omega) a3), bs_length]
          simp
        by_cases b2 : (writeC c).take (bs s).length = bs s
        · rw [if_pos (q.2 b2), decide_eq_true b2]; rfl
        · rw [if_neg (fun z => b2 (q.1 z)), decide_eq_false b2]; rfl
      · rw [if_neg (by omega), decide_eq_false b1]; rfl
    have tt : testC (bs s) n lo hi c = ((decide (c < 55296) || decide (57343 < c)) && (decide ((writeC c).length = n) && decide ((writeC c).take (bs s).length = bs s))) := by
      unfold testC
      rw [decide_eq_true (show lo ≤ c by omega), decide_eq_true a2, decide_eq_true a3]; simp
    rw [tt]
    by_cases a4 : c < 55296
    · rw [if_pos a4, decide_eq_true a4, Bool.true_or, Bool.true_and]
      exact key
    · rw [if_neg a4, decide_eq_false a4, Bool.false_or]
      by_cases a5 : c > 57343
      · rw [if_pos a5, decide_eq_true (show 57343 < c by omega), Bool.true_and]
        exact key
      · rw [if_neg a5, decide_eq_false (show ¬ 57343 < c by omega)]; rfl
end Go.Proofs.YtbjjobifpmjhhaaDoor.U
