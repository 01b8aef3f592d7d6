/- What a head of a frame's bytes tells, and what is got of them, in plain words. -/
import Derived.Test.YtabpngcjlikpkaaDoorPut
namespace Go.Proofs.YtabpngcjlikpkaaDoor.PAll
open Go.RowKit Go.Proofs.YtabpngcjlikpkaaDoorW.PrintWords Go.Proofs.YtabpngcjlikpkaaDoorW.PrintLast Go.Proofs.YtabpngcjlikpkaaDoorW.PrintMore
set_option linter.unusedVariables false
set_option linter.unusedSimpArgs false
theorem rd0 (x : Int) (l : List Int) : rd (x :: l) 0 = x := rfl
theorem rd1 (x y : Int) (l : List Int) : rd (x :: y :: l) 1 = y := rfl
theorem rd2 (x y a : Int) (l : List Int) : rd (x :: y :: a :: l) 2 = a := rfl
theorem rd3 (x y a b : Int) (l : List Int) : rd (x :: y :: a :: b :: l) 3 = b := rfl
def lenB (n : Nat) : Int := if n < 126 then (n : Int) else 126
def frontOf (mask : Bool) (n : Nat) : Int := (if n < 126 then 2 else 4) + (if mask = true then 4 else 0)
theorem turned_bytes {d : List Int} (hd : ∀ x ∈ d, Byte x) (key : Int) : ∀ x ∈ turned d key, Byte x := turned_byte d key hd
theorem keyOf_bytes (key : Int) : ∀ x ∈ keyOf key, Byte x := by
  intro x hx
  simp only [keyOf, List.mem_cons, List.not_mem_nil, or_false] at hx
  rcases hx with rfl | rfl | rfl | rfl <;> exact ⟨by omega, by omega⟩
theorem body_bytes {d : List Int} (hd : ∀ x ∈ d, Byte x) (mask : Bool) (key : Int) : ∀ x ∈ (if mask = true then keyOf key ++ turned d key else d), Byte x := by
  intro x hx
  cases mask
  · exact hd x (by simpa using hx)
  · rw [if_pos rfl] at hx
    rcases List.mem_append.1 hx with h | h
    · exact keyOf_bytes key x h
    · exact turned_bytes hd key x h
section
variable {fin : Bool} {op : Int} {mask : Bool} {key : Int} {d : List Int} (h0 : 0 ≤ op) (hd : ∀ x ∈ d, Byte x) (hM : mayB fin op mask key d = true)
include h0 hd hM
theorem putL_bytes : (putL fin op mask key d).all isByte = true := by
  obtain ⟨hop, hmk, hlen, hctl⟩ := (mayB_iff ..).1 hM
  rw [List.all_eq_true]
  intro x hx
  rw [isByte_iff]
  unfold putL at hx
  rcases List.mem_cons.1 hx with rfl | hx
  · cases fin <;> simp <;> omega
  · rcases List.mem_cons.1 hx with rfl | hx
    · by_cases hn : d.length < 126
      · rw [if_pos hn]; cases mask <;> simp <;> omega
      · rw [if_neg hn]; cases mask <;> simp
    · rcases List.mem_append.1 hx with hx | hx
      · by_cases hn : d.length < 126
        · rw [if_pos hn] at hx; cases hx
        · rw [if_neg hn] at hx
          simp only [List.mem_cons, List.not_mem_nil, or_false] at hx
          rcases hx with rfl | rfl <;> exact ⟨by omega, by omega⟩
      · exact body_bytes hd mask key x hx
theorem putL_len : ((putL fin op mask key d).length : Int) = frontOf mask d.length + d.length := by
  have _u := h0
  have _v := hd
  unfold putL frontOf
  simp only [List.length_cons, List.length_append]
  by_cases hn : d.length < 126
  · rw [if_pos hn, if_pos hn]
    cases mask
    · simp; omega
    · simp [keyOf, turned_len]; omega
  · rw [if_neg hn, if_neg hn]
    cases mask
    · simp; omega
    · simp [keyOf, turned_len]; omega
theorem lenF_put : lenF (putL fin op mask key d) = ((d.length : Int), (if d.length < 126 then 2 else 4), false, 0) := by
  obtain ⟨hop, hmk, hlen, hctl⟩ := (mayB_iff ..).1 hM
  have h1 : rd (putL fin op mask key d) 1 % 128 = lenB d.length := by
    unfold putL lenB
    rw [rd1]
    by_cases hn : d.length < 126
    · rw [if_pos hn]; cases mask <;> simp <;> omega
    · rw [if_neg hn]; cases mask <;> simp
  unfold lenF
  rw [h1]
  by_cases hn : d.length < 126
  · have e : lenB d.length = (d.length : Int) := if_pos hn
    rw [e, if_neg (by omega), if_neg (by omega), if_pos hn]
  · have e : lenB d.length = 126 := if_neg hn
    have hl : ¬ (putL fin op mask key d).length < 4 := by
      have := putL_len h0 hd hM
      unfold frontOf at this
      rw [if_neg hn] at this
      cases mask <;> simp at this <;> omega
    have hv : val (putL fin op mask key d) 2 2 = (d.length : Int) := by
      have e2 : val (putL fin op mask key d) 2 2 = (0 * 256 + rd (putL fin op mask key d) 2) * 256 + rd (putL fin op mask key d) 3 := rfl
      rw [e2]
      unfold putL
      rw [if_neg hn, if_neg hn]
      show (0 * 256 + (d.length : Int) / 256 % 256) * 256 + (d.length : Int) % 256 = _
      omega
    rw [if_pos e, if_neg hl, hv, if_neg (by omega), if_neg hn]
theorem putL_first : rd (putL fin op mask key d) 0 / 16 % 8 = 0 ∧ rd (putL fin op mask key d) 0 % 16 = op ∧ decide (128 ≤ rd (putL fin op mask key d) 0) = fin ∧ decide (128 ≤ rd (putL fin op mask key d) 1) = mask ∧ rd (putL fin op mask key d) 1 % 128 = lenB d.length := by
  have _v := hd
  obtain ⟨hop, hmk, hlen, hctl⟩ := (mayB_iff ..).1 hM
  unfold putL lenB
  rw [rd0, rd1]
  refine ⟨?_, ?_, ?_, ?_, ?_⟩
  · cases fin <;> simp <;> omega
  · cases fin <;> simp <;> omega
  · cases fin <;> simp <;> omega
  · by_cases hn : d.length < 126
    · rw [if_pos hn]; cases mask <;> simp <;> omega
    · rw [if_neg hn]; cases mask <;> simp
  · by_cases hn : d.length < 126
    · rw [if_pos hn]; cases mask <;> simp <;> omega
    · rw [if_neg hn]; cases mask <;> simp
theorem headF_put (m : Bool) : headF (putL fin op mask key d) m = if m = mask then (frontOf mask d.length, (d.length : Int), false, 0) else (0, 0, false, 1002) := by
  obtain ⟨hop, hmk, hlen, hctl⟩ := (mayB_iff ..).1 hM
  obtain ⟨e1, e2, e3, e4, e5⟩ := putL_first h0 hd hM
  have hl := putL_len h0 hd hM
  have hf : 2 ≤ frontOf mask d.length := by unfold frontOf; cases mask <;> split <;> simp
  have hk : knownB op = true := (knownB_iff op).2 hop
  unfold headF
  rw [if_neg (by omega), e1, e2, e4, e5, hk, if_neg (by
    rintro (h | h | h)
    · exact h rfl
    · cases h
    · have hft : fin = true := by
        rcases hctl with h8 | h8
        · omega
        · exact h8.1
      have := of_decide_eq_true (e3.trans hft)
      omega), if_neg (by omega)]
  by_cases hmm : m = mask
  · subst hmm
    rw [if_neg (by
      rintro (h | h)
      · exact h rfl
      · unfold lenB at h
        have h5 : (d.length : Int) ≤ 125 := by
          rcases hctl with h8 | h8
          · omega
          · exact h8.2
        rw [if_pos (by omega)] at h
        omega), lenF_put h0 hd hM, if_neg (by simp), if_neg (by simp), if_neg (by dsimp only; omega), if_pos rfl]
    unfold frontOf
    rfl
  · rw [if_pos (.inl (fun h => hmm h.symm)), if_neg hmm]
theorem getBad_put (m : Bool) : getBad (putL fin op mask key d) m = if m = mask then 0 else 1002 := by
  have hl := putL_len h0 hd hM
  unfold getBad
  rw [headF_put h0 hd hM]
  by_cases hmm : m = mask
  · rw [if_pos hmm, if_pos hmm, if_neg (by simp), if_neg (by simp), if_neg (by dsimp only; omega)]
  · rw [if_neg hmm, if_neg hmm, if_pos (by decide)]
theorem HeadF_put (m : Bool) : HeadF (putL fin op mask key d) m = if m = mask then (((putL fin op mask key d).length : Int), 0, 0, true) else (0, 3, 1002, true) := by
  have hl := putL_len h0 hd hM
  unfold HeadF
  rw [headF_put h0 hd hM]
  by_cases hmm : m = mask
  · rw [if_pos hmm, if_pos hmm, if_neg (by simp), if_neg (by simp), hl]
  · rw [if_neg hmm, if_neg hmm, if_pos (by decide)]
theorem raw_put : rawOf (putL fin op mask key d) mask = (if mask = true then turned d key else d) := by
  unfold rawOf
  rw [headF_put h0 hd hM, if_pos rfl]
  unfold putL frontOf
  by_cases hn : d.length < 126
  · rw [if_pos hn, if_pos hn, if_pos hn]
    cases mask <;> rfl
  · rw [if_neg hn, if_neg hn, if_neg hn]
    cases mask <;> rfl
theorem keyIn_put (k0 : 0 ≤ key) (k1 : key ≤ 4294967295) : keyIn (putL fin op mask key d) mask = key := by
  obtain ⟨hop, hmk, hlen, hctl⟩ := (mayB_iff ..).1 hM
  unfold keyIn
  rw [headF_put h0 hd hM, if_pos rfl]
  cases mask
  · rw [if_neg (by decide)]
    rcases hmk with h | h
    · cases h
    · exact h.symm
  · rw [if_pos rfl]
    have hk : (((key / 16777216 % 256) * 256 + key / 65536 % 256) * 256 + key / 256 % 256) * 256 + key % 256 = key := by omega
    unfold frontOf putL
    by_cases hn : d.length < 126
    · rw [if_pos hn, if_pos hn, if_pos hn]
      refine Eq.trans ?_ hk
      show (((0 * 256 + key / 16777216 % 256) * 256 + key / 65536 % 256) * 256 + key / 256 % 256) * 256 + key % 256 = _
      rw [Int.zero_mul, Int.zero_add]
    · rw [if_neg hn, if_neg hn, if_neg hn]
      refine Eq.trans ?_ hk
      show (((0 * 256 + key / 16777216 % 256) * 256 + key / 65536 % 256) * 256 + key / 256 % 256) * 256 + key % 256 = _
      rw [Int.zero_mul, Int.zero_add]
/-- A frame is got as it was put. -/
theorem get_put (k0 : 0 ≤ key) (k1 : key ≤ 4294967295) (k : Nat) (hk : d.length + 1 ≤ k) : wsframe_Get.f k (putL fin op mask key d) mask = some (fin, op, mask, key, d, 0, 0) := by
  obtain ⟨hop, hmk, hlen, hctl⟩ := (mayB_iff ..).1 hM
  obtain ⟨e1, e2, e3, e4, e5⟩ := putL_first h0 hd hM
  unfold wsframe_Get.f
  rw [if_pos (putL_bytes h0 hd hM), getBad_put h0 hd hM, if_pos rfl, if_pos rfl, raw_put h0 hd hM, keyIn_put h0 hd hM k0 k1, e2, e3]
  cases mask
  · rw [if_neg (by decide), if_neg (by decide), Option.bind_some, if_pos (by omega)]
  · rw [if_pos rfl, if_pos rfl, turn_k _ _ (by rw [turned_len]; omega) k (by rw [turned_len]; omega), Option.bind_some, turned_twice d key hd, if_pos (by rw [turned_len]; omega)]
theorem get_other (m : Bool) (hm : m ≠ mask) (k : Nat) : wsframe_Get.f k (putL fin op mask key d) m = some (false, 0, false, 0, [], 3, 1002) := by
  unfold wsframe_Get.f
  rw [if_pos (putL_bytes h0 hd hM), getBad_put h0 hd hM, if_neg hm, if_neg (by decide)]
theorem head_put (m : Bool) (hm : m = mask) : wsframe_Head.f (putL fin op mask key d) m = some (((putL fin op mask key d).length : Int), 0, 0, true) := by
  unfold wsframe_Head.f
  rw [if_pos (putL_bytes h0 hd hM), HeadF_put h0 hd hM, if_pos hm]
end
end Go.Proofs.YtabpngcjlikpkaaDoor.PAll
