/- wsframe.Get at any bytes. -/
import Derived.Test.YtkhlldhcmgkioaaDoorHead5
namespace Go.Proofs.YtkhlldhcmgkioaaDoor
open Go.RowKit Go.Proofs.YtkhlldhcmgkioaaDoorW.PrintWords Go.Proofs.YtkhlldhcmgkioaaDoorW.PrintLast Go.Proofs.YtkhlldhcmgkioaaDoorW.PrintMore
set_option linter.unusedVariables false
theorem cond_of {w W : World} (h : Aside0 (Cond w)) (hb : Aside0 (Below w.heap.size w W)) : Cond W := h.out.below hb.out
theorem or_byte32 {s b : Int} (h0 : 0 ≤ s) (h1 : s < 16777216) (hb : 0 ≤ b ∧ b ≤ 255) : Go.bits .or .u32 (s * 256) b = s * 256 + b := by
  obtain ⟨n, rfl⟩ : ∃ n : Nat, s = (n : Int) := ⟨s.toNat, by omega⟩
  obtain ⟨m, rfl⟩ : ∃ m : Nat, b = (m : Int) := ⟨b.toNat, by omega⟩
  have e1 : (BitVec.ofInt 32 ((n : Int) * 256)).toNat = n * 256 := by
    rw [show ((n : Int) * 256) = ((n * 256 : Nat) : Int) by omega, BitVec.ofInt_natCast, BitVec.toNat_ofNat]; exact Nat.mod_eq_of_lt (by omega)
  have e2 : (BitVec.ofInt 32 (m : Int)).toNat = m := by
    rw [BitVec.ofInt_natCast, BitVec.toNat_ofNat]; exact Nat.mod_eq_of_lt (by omega)
  show IntKind.u32.wrap ((BitVec.ofInt 32 ((n : Int) * 256) ||| BitVec.ofInt 32 (m : Int)).toNat : Int) = _
  rw [BitVec.toNat_or, e1, e2, nat_or n m (by omega), wrap_u32 (by omega) (by omega)]
  omega
theorem or_zero32 {b : Int} (hb : 0 ≤ b ∧ b ≤ 255) : Go.bits .or .u32 0 b = b := by
  have := or_byte32 (s := 0) (b := b) (by omega) (by omega) hb
  simpa using this
/-- Where a head is told, how many bytes it has. -/
theorem headF_front {l : List Int} (hl : l.all isByte = true) (m : Bool) (hc : (headF l m).2.2.2 = 0) (hm : (headF l m).2.2.1 = false) : ((m = false ∧ ((headF l m).1 = 2 ∨ (headF l m).1 = 4)) ∨ (m = true ∧ ((headF l m).1 = 6 ∨ (headF l m).1 = 8))) ∧ l.length ≠ 0 := by
  have hu : (lenF l).2.1 = 2 ∨ (lenF l).2.1 = 4 ∨ 4096 < (lenF l).1 ∨ (lenF l).2.2.1 = true ∨ (lenF l).2.2.2 ≠ 0 := by
    unfold lenF
    split
    · split
      · exact .inr (.inr (.inr (.inl rfl)))
      · split
        · exact .inr (.inr (.inr (.inr (by decide))))
        · exact .inr (.inl rfl)
    · split
      · split
        · exact .inr (.inr (.inr (.inl rfl)))
        · split
          · exact .inr (.inr (.inr (.inr (by decide))))
          · exact .inr (.inr (.inl (by dsimp only; omega)))
      · exact .inl rfl
  unfold headF at hc hm ⊢
  by_cases h0 : l.length = 0
  · rw [if_pos h0] at hm; cases hm
  · rw [if_neg h0] at hc hm ⊢
    split at hc
    · cases hc
    · rename_i h1
      rw [if_neg h1] at hm ⊢
      split at hc
      · rename_i h2
        rw [if_pos h2] at hm; cases hm
      · rename_i h2
        rw [if_neg h2] at hm ⊢
        split at hc
        · cases hc
        · rename_i h3
          rw [if_neg h3] at hm ⊢
          split at hc
          · rename_i h4
            rw [if_pos h4] at hm; cases hm
          · rename_i h4
            rw [if_neg h4] at hm ⊢
            split at hc
            · cases hc
            · rename_i h5
              rw [if_neg h5] at hm ⊢
              split at hc
              · cases hc
              · rename_i h6
                rw [if_neg h6]
                refine ⟨?_, h0⟩
                have hu2 : (lenF l).2.1 = 2 ∨ (lenF l).2.1 = 4 := by
                  rcases hu with h | h | h | h | h
                  · exact .inl h
                  · exact .inr h
                  · exact absurd h h6
                  · exact absurd h h4
                  · exact absurd h h5
                cases m with
                | false => refine .inl ⟨rfl, ?_⟩; simp; omega
                | true => refine .inr ⟨rfl, ?_⟩; simp; omega
/-- The fault that wsframe.Get tells; 0: none. -/
def getBad (l : List Int) (m : Bool) : Int :=
  if (headF l m).2.2.2 ≠ 0 then (headF l m).2.2.2 else if (headF l m).2.2.1 = true then 1002 else if (l.length : Int) ≠ (headF l m).1 + (headF l m).2.1 then 1002 else 0
theorem getBad_ok {l : List Int} {m : Bool} (h : getBad l m = 0) : (headF l m).2.2.2 = 0 ∧ (headF l m).2.2.1 = false ∧ (l.length : Int) = (headF l m).1 + (headF l m).2.1 := by
  unfold getBad at h
  split at h
  · rename_i h1; exact absurd h h1
  · rename_i h1
    split at h
    · cases h
    · rename_i h2
      split at h
      · cases h
      · rename_i h3
        exact ⟨by omega, by simpa using h2, by omega⟩
/-- The frame's data, as they stand. -/
def rawOf (l : List Int) (m : Bool) : List Int := l.drop (headF l m).1.toNat
def keyIn (l : List Int) (m : Bool) : Int := if m = true then val l ((headF l m).1.toNat - 4) 4 else 0
theorem Get_fault {l : List Int} (hl : l.all isByte = true) (m : Bool) {A : Option Addr} {c : Nat} {w : World} (hC : Kd.C (Kd.int .u8) w A l.length l) (hc : l.length ≤ c) (hg : Cond w) (hb : getBad l m ≠ 0) : Calls Tryd.prog 18 #[.slice A l.length c, .bool m] w (GetPost false 0 false 0 [] 3 (getBad l m) w) := by
  have hh : HeadAt A l.length c m w (headF l m).1 (headF l m).2.1 (headF l m).2.2.1 (headF l m).2.2.2 := fun W hb => head_to hl m (Kd.C_below hC hb) hc
  have hbd := headF_bounds hl m
  unfold getBad at hb ⊢
  by_cases h1 : (headF l m).2.2.2 ≠ 0
  · rw [if_pos h1]
    exact Get_bad1 A l.length c m w hg _ _ _ _ h1 hh
  · rw [if_neg h1] at hb ⊢
    rw [show (headF l m).2.2.2 = 0 by omega] at hh
    by_cases h2 : (headF l m).2.2.1 = true
    · rw [if_pos h2]
      rw [h2] at hh
      exact Get_bad2 A l.length c m w hg _ _ hh
    · rw [if_neg h2] at hb ⊢
      rw [show (headF l m).2.2.1 = false by simpa using h2] at hh
      by_cases h3 : (l.length : Int) ≠ (headF l m).1 + (headF l m).2.1
      · rw [if_pos h3]
        exact Get_bad3 A l.length c m w hg _ _ _ (by rw [i64_w]; unfold wrap64; omega) (bne_iff_ne.mpr h3) hh
      · rw [if_neg h3] at hb; exact absurd rfl hb
theorem Get_fine {l : List Int} (hl : l.all isByte = true) (m : Bool) {A : Option Addr} {c : Nat} {w : World} (hC : Kd.C (Kd.int .u8) w A l.length l) (hc : l.length ≤ c) (hg : Cond w) (hb : getBad l m = 0) (hcl : CloneTo (rawOf l m)) (r : List Int) (hr : (m = false ∧ r = rawOf l m) ∨ (m = true ∧ TurnTo (rawOf l m) (keyIn l m) r)) :
    Calls Tryd.prog 18 #[.slice A l.length c, .bool m] w (GetPost (decide (128 ≤ rd l 0)) (rd l 0 % 16) m (keyIn l m) r 0 0 w) := by
  obtain ⟨e1, e2, e3⟩ := getBad_ok hb
  have hh : HeadAt A l.length c m w (headF l m).1 (headF l m).2.1 (headF l m).2.2.1 (headF l m).2.2.2 := fun W hb => head_to hl m (Kd.C_below hC hb) hc
  obtain ⟨hf, h0⟩ := headF_front hl m e1 e2
  have hbd := headF_bounds hl m
  rw [e1, e2] at hh
  obtain ⟨ad, rfl, x0'⟩ := Kd.at_int hC 0 (by decide) (by omega)
  have x0 : w.cell? ad = some (.int .u8 (rd l 0)) := x0'
  have hy : ∀ i : Nat, 0 < i → i < l.length → w.cell? ⟨ad.block, ad.off + i, none⟩ = some (.int .u8 (rd l (i : Int))) := fun i h hi => by
    obtain ⟨ad2, q2, hh⟩ := Kd.at_int hC (i : Int) (by omega) (by omega)
    injection q2 with q2
    subst q2
    obtain ⟨j, rfl⟩ : ∃ j, i = j + 1 := ⟨i - 1, by omega⟩
    rw [Int.toNat_natCast] at hh
    exact hh
  have ho := and15 (rd_byte hl 0)
  have hs : IntKind.i64.wrap ((headF l m).1 + (headF l m).2.1) = (headF l m).1 + (headF l m).2.1 := by rw [i64_w]; unfold wrap64; omega
  have hne : ((l.length : Int) != (headF l m).1 + (headF l m).2.1) = false := bne_eq_false_iff_eq.mpr e3
  unfold rawOf at hcl hr
  unfold keyIn at hr ⊢
  rcases hf with ⟨rfl, hf⟩ | ⟨rfl, hf⟩
  · rcases hr with ⟨_, rfl⟩ | ⟨h, _⟩
    · rw [if_neg (by decide)]
      rcases hf with hf | hf
      · rw [hf] at hh hs hne hcl ⊢
        exact Get_ok_2 l _ ad c w _ _ _ _ hg x0 ho hC hc (by omega) hs hne rfl hcl hh
      · rw [hf] at hh hs hne hcl ⊢
        exact Get_ok_4 l _ ad c w _ _ _ _ hg x0 ho hC hc (by omega) hs hne rfl hcl hh
    · cases h
  · rcases hr with ⟨h, _⟩ | ⟨_, htu⟩
    · cases h
    · rw [if_pos rfl] at htu ⊢
      rcases hf with hf | hf
      · rw [hf] at hh hs hne hcl htu ⊢
        simp only [show ((6 : Int).toNat - 4) = 2 from rfl] at htu ⊢
        have v1 : val l 2 1 = rd l 2 := by simp [val]
        have v2 : val l 2 2 = val l 2 1 * 256 + rd l 3 := rfl
        have v3 : val l 2 3 = val l 2 2 * 256 + rd l 4 := rfl
        have v4 : val l 2 4 = val l 2 3 * 256 + rd l 5 := rfl
        have g2 := rd_byte hl 2
        have g3 := rd_byte hl 3
        have g4 := rd_byte hl 4
        have g5 := rd_byte hl 5
        exact Get_ok_6 l _ ad c w _ _ _ _ (rd l 2) (rd l 3) (rd l 4) (rd l 5) (val l 2 1) (val l 2 2) (val l 2 3) (val l 2 4) _ hg x0 ho hC hc (by omega) hs hne rfl hcl (hy 2 (by omega) (by omega)) (hy 3 (by omega) (by omega)) (hy 4 (by omega) (by omega)) (hy 5 (by omega) (by omega)) (wrap_u32 (by omega) (by omega)) (wrap_u32 (by omega) (by omega)) (wrap_u32 (by omega) (by omega)) (wrap_u32 (by omega) (by omega)) ((or_zero32 g2).trans v1.symm) ((or_byte32 (by omega) (by omega) g3).trans v2.symm) ((or_byte32 (by omega) (by omega) g4).trans v3.symm) ((or_byte32 (by omega) (by omega) g5).trans v4.symm) (wrap_u32 (by omega) (by omega)) (wrap_u32 (by omega) (by omega)) (wrap_u32 (by omega) (by omega)) htu hh
      · rw [hf] at hh hs hne hcl htu ⊢
        simp only [show ((8 : Int).toNat - 4) = 4 from rfl] at htu ⊢
        have v1 : val l 4 1 = rd l 4 := by simp [val]
        have v2 : val l 4 2 = val l 4 1 * 256 + rd l 5 := rfl
        have v3 : val l 4 3 = val l 4 2 * 256 + rd l 6 := rfl
        have v4 : val l 4 4 = val l 4 3 * 256 + rd l 7 := rfl
        have g4 := rd_byte hl 4
        have g5 := rd_byte hl 5
        have g6 := rd_byte hl 6
        have g7 := rd_byte hl 7
        exact Get_ok_8 l _ ad c w _ _ _ _ (rd l 4) (rd l 5) (rd l 6) (rd l 7) (val l 4 1) (val l 4 2) (val l 4 3) (val l 4 4) _ hg x0 ho hC hc (by omega) hs hne rfl hcl (hy 4 (by omega) (by omega)) (hy 5 (by omega) (by omega)) (hy 6 (by omega) (by omega)) (hy 7 (by omega) (by omega)) (wrap_u32 (by omega) (by omega)) (wrap_u32 (by omega) (by omega)) (wrap_u32 (by omega) (by omega)) (wrap_u32 (by omega) (by omega)) ((or_zero32 g4).trans v1.symm) ((or_byte32 (by omega) (by omega) g5).trans v2.symm) ((or_byte32 (by omega) (by omega) g6).trans v3.symm) ((or_byte32 (by omega) (by omega) g7).trans v4.symm) (wrap_u32 (by omega) (by omega)) (wrap_u32 (by omega) (by omega)) (wrap_u32 (by omega) (by omega)) htu hh
end Go.Proofs.YtkhlldhcmgkioaaDoor
