/- As many whole letters of a reason as there is room for: the program's and the document's are the same; what a close bears. -/
import Derived.Test.YtbjjobifpmjhhaaDoorGood3
import Derived.Test.YtbjjobifpmjhhaaDoorUtf1
import Derived.Test.YtbjjobifpmjhhaaDoorPAllx2
import Derived.Test.YtbjjobifpmjhhaaDoorPAllx2
import Derived.Test.YtbjjobifpmjhhaaDoorPAllx4
import Derived.Test.YtbjjobifpmjhhaaDoorPAllx4
namespace Go.Proofs.YtbjjobifpmjhhaaDoor.U
open Go.RowKit Go.Proofs.YtbjjobifpmjhhaaDoorW.PrintWords Go.Proofs.YtbjjobifpmjhhaaDoorW.PrintLast Go.Proofs.YtbjjobifpmjhhaaDoor.PAll
set_option linter.unusedVariables false
/-- What a close of a code and a reason bears, by so many rounds. -/
def Bears (k : Nat) (c : Int) (s : ByteArray) (d : List Int) : Prop := message_Close.f k c s = some (true, 8, false, 0, d)
theorem bytes_bs (s : ByteArray) : bytesOf s = bs s := by
  unfold bytesOf bs
  rfl
def wholeL (s : ByteArray) : Nat → ByteArray
  | 0 => ByteArray.empty
  | n + 1 => if validC (bs (s.extract 0 (n + 1))) = true then s.extract 0 (n + 1) else wholeL s n
theorem wholeL_succ (s : ByteArray) (n : Nat) : wholeL s (n + 1) = if validC (bs (s.extract 0 (n + 1))) = true then s.extract 0 (n + 1) else wholeL s n := rfl
def wholeC (s : ByteArray) : ByteArray := if validC (bs s) = true then wholeL s (min s.size 123) else ByteArray.empty
theorem cut_size (s : ByteArray) (n : Nat) (h : n ≤ s.size) : (s.extract 0 n).size = n := by rw [ByteArray.size_extract]; omega
theorem wholeL_size (s : ByteArray) : ∀ n, n ≤ s.size → (wholeL s n).size ≤ n
  | 0, _ => by show (0 : Nat) ≤ 0; omega
  | n + 1, h => by
    unfold wholeL
    split
    · rw [cut_size s _ h]; omega
    · have := wholeL_size s n (by omega); omega
theorem wholeC_size (s : ByteArray) : (wholeC s).size ≤ 123 := by
  unfold wholeC
  split
  · have := wholeL_size s (min s.size 123) (by omega); omega
  · show (0 : Nat) ≤ 123; omega
theorem whole_l (s : ByteArray) : ∀ (n k : Nat), n ≤ s.size → n ≤ 123 → n + 200 ≤ k → message_whole.l0 k s (n : Int) = some (wholeL s n)
  | 0, k, _, _, hk => by
    obtain ⟨k, rfl⟩ : ∃ m, k = m + 1 := ⟨k - 1, by omega⟩
    unfold message_whole.l0
    rw [if_neg (by omega)]
    rfl
  | n + 1, k, hn, h1, hk => by
    obtain ⟨k, rfl⟩ : ∃ m, k = m + 1 := ⟨k - 1, by omega⟩
    unfold message_whole.l0
    rw [if_pos (by omega), if_pos (by omega), Int.toNat_natCast, bytes_bs, valid_f _ (by rw [bs_length, cut_size s _ hn]; omega) k (by rw [bs_length, cut_size s _ hn]; omega), Option.bind_some, show ((n + 1 : Nat) : Int) - 1 = (n : Int) by omega, whole_l s n k (by omega) (by omega) (by omega), wholeL_succ]
    split <;> rfl
theorem whole_f2 (s : ByteArray) (hs : s.size ≤ 3000) (k : Nat) (hk : 7000 ≤ k) : message_whole.f k s 123 = some (wholeC s) := by
  unfold message_whole.f wholeC
  rw [if_pos (by omega), bytes_bs, valid_f _ (by rw [bs_length]; omega) k (by rw [bs_length]; omega), Option.bind_some]
  have hm : min (s.size : Int) 123 = ((min s.size 123 : Nat) : Int) := by omega
  rw [hm, whole_l s (min s.size 123) k (by omega) (by omega) (by omega)]
  split <;> rfl
theorem reason_l (s : ByteArray) : ∀ (n k : Nat), n ≤ s.size → n ≤ 123 → n + 400 ≤ k → louverref18_Reason.l0 k s (n : Int) = some (wholeL s n)
  | 0, k, _, _, hk => by
    obtain ⟨k, rfl⟩ : ∃ m, k = m + 1 := ⟨k - 1, by omega⟩
    unfold louverref18_Reason.l0
    rw [if_neg (by omega)]
    rfl
  | n + 1, k, hn, h1, hk => by
    obtain ⟨k, rfl⟩ : ∃ m, k = m + 1 := ⟨k - 1, by omega⟩
    unfold louverref18_Reason.l0
    rw [if_pos (by omega), if_pos (by omega), if_pos (by omega), Int.toNat_natCast, good_f _ (by rw [cut_size s _ hn]; omega) k (by rw [cut_size s _ hn]; omega), Option.bind_some, show wrap64 (((n + 1 : Nat) : Int) - 1) = (n : Int) by unfold wrap64; omega, reason_l s n k (by omega) (by omega) (by omega), wholeL_succ]
    split <;> rfl
theorem reason_f (s : ByteArray) (hs : s.size ≤ 3000) (k : Nat) (hk : 7000 ≤ k) : louverref18_Reason.f k s = some (wholeC s) := by
  unfold louverref18_Reason.f wholeC
  rw [good_f _ (by omega) k (by omega), Option.bind_some]
  have hm : mn (s.size : Int) 123 = ((min s.size 123 : Nat) : Int) := by unfold mn; omega
  rw [hm, reason_l s (min s.size 123) k (by omega) (by omega) (by omega)]
  split <;> rfl
theorem told_f (c : Int) : louverref18_Told.f c = some (toldB c) := by
  unfold louverref18_Told.f toldB
  by_cases h1 : c ≥ 1000
  · by_cases h2 : c < 5000
    · by_cases h3 : c = 1004
      · subst h3; rfl
      · by_cases h4 : c = 1005
        · subst h4; rfl
        · by_cases h5 : c = 1006
          · subst h5; rfl
          · rw [if_pos h1, if_pos h2, if_neg h3, if_neg h4, if_neg h5]
            by_cases h6 : c < 1015
            · rw [if_pos h6]
              congr 1
              simp
              omega
            · rw [if_neg h6]
              congr 1
              rw [Bool.eq_iff_iff]
              simp
              omega
    · rw [if_pos h1, if_neg h2]
      congr 1
      simp
      omega
  · rw [if_neg h1]
    congr 1
    simp
    omega
/-- What a close of a code and a reason bears. -/
def dataC (c : Int) (s : ByteArray) : List Int := if toldB c = true then [(c / 256) % 256, c % 256] ++ bs (wholeC s) else []
theorem bears (c : Int) (s : ByteArray) (hs : s.size ≤ 3000) (k : Nat) (hk : 7000 ≤ k) : Bears k c s (dataC c s) := by
  unfold Bears message_Close.f dataC
  rw [show message_Told.f c = some (toldB c) from rfl, Option.bind_some, whole_f2 s hs k hk]
  by_cases h : toldB c = true
  · rw [if_pos h, if_pos h, Option.bind_some, Option.bind_some]
    have := wholeC_size s
    rw [if_pos (by simp only [List.length_cons, List.length_nil]; omega), bytes_bs]
  · rw [if_neg h, if_neg h]
def dataS (c : Int) (s : ByteArray) : ByteArray := if toldB c = true then strOfNums [(c / 256) % 256, c % 256] ++ wholeC s else (⟨#[]⟩ : ByteArray)
theorem bs_append (a b : ByteArray) : bs (a ++ b) = bs a ++ bs b := by
  unfold bs
  rw [ByteArray.data_append, Array.toList_append, List.map_append]
theorem two_bytes (c : Int) : ∀ x ∈ [c / 256 % 256, c % 256], 0 ≤ x ∧ x ≤ 255 := by
  intro x hx
  simp only [List.mem_cons, List.not_mem_nil, or_false] at hx
  rcases hx with rfl | rfl <;> omega
theorem data_same (c : Int) (s : ByteArray) : (strOfNums (dataC c s)).toList = (dataS c s).toList := by
  apply bs_inj
  unfold dataC dataS
  by_cases h : toldB c = true
  · rw [if_pos h, if_pos h, bs_append, bs_str [c / 256 % 256, c % 256] (two_bytes c), bs_str]
    intro x hx
    rcases List.mem_append.1 hx with hx | hx
    · exact two_bytes c x hx
    · exact bs_byte _ x hx
  · rw [if_neg h, if_neg h]
    rfl
end Go.Proofs.YtbjjobifpmjhhaaDoor.U
