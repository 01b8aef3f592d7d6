/- louverref16.Get at any bytes. -/
import Derived.Test.YtabpngcjlikpkaaDoorRefGet0
namespace Go.Proofs.YtabpngcjlikpkaaDoor
open Go.RowKit Go.Proofs.YtabpngcjlikpkaaDoorW.PrintWords Go.Proofs.YtabpngcjlikpkaaDoorW.PrintLast Go.Proofs.YtabpngcjlikpkaaDoorW.PrintMore Go.Proofs.YtabpngcjlikpkaaDoor.PAll
set_option linter.unusedVariables false
theorem bytesOf_str (l : List Int) (hl : ∀ x ∈ l, Byte x) : bytesOf (strOfNums l) = l := by
  apply List.ext_getElem
  · rw [bytesOf_length, str_size]
  · intro i h1 h2
    have := bt_str l i h2 (hl _ (List.getElem_mem h2))
    rw [← rd_bytesOf, rd_nat _ i h1] at this
    exact this
theorem all_Byte {l : List Int} (hl : l.all isByte = true) : ∀ x ∈ l, Byte x := fun x hx => all_byte hl hx
theorem raw_Byte {l : List Int} (hl : l.all isByte = true) (m : Bool) : ∀ x ∈ rawOf l m, Byte x := fun x hx => all_byte hl (List.mem_of_mem_drop hx)
theorem RGet_fault {l : List Int} (hl : l.all isByte = true) (m : Bool) (w : World) (hb : getBad l m ≠ 0) : Calls Tryd.prog 18 #[.string (strOfNums l), .bool m] w (RGetPost false 0 false 0 [] (getBad l m) w) := by
  have hR := refHead_f hl m 20000 (by omega)
  have hbd := headF_bounds hl m
  have hsz := str_size l
  unfold getBad at hb ⊢
  unfold refH at hR
  by_cases h1 : (headF l m).2.2.2 ≠ 0
  · rw [if_pos h1]
    rw [if_pos h1] at hR
    exact rget_code 20000 _ m w 0 0 _ false (bne_iff_ne.mpr h1) ⟨hR⟩
  · rw [if_neg h1] at hb hR ⊢
    by_cases h2 : (headF l m).2.2.1 = true
    · rw [if_pos h2]
      rw [if_pos h2] at hR
      exact rget_short 20000 _ m w 0 0 ⟨hR⟩
    · rw [if_neg h2] at hb hR ⊢
      by_cases h3 : (l.length : Int) ≠ (headF l m).1 + (headF l m).2.1
      · rw [if_pos h3]
        exact rget_other 20000 _ m w _ _ _ (show _ = (headF l m).1 + (headF l m).2.1 by rw [i64_w]; unfold wrap64; omega) (bne_iff_ne.mpr (by rw [hsz]; exact h3)) ⟨hR⟩
      · rw [if_neg h3] at hb; exact absurd rfl hb
theorem RGet_fine {l : List Int} (hl : l.all isByte = true) (m : Bool) (w : World) (hlen : l.length ≤ 9000) (hb : getBad l m = 0) : Calls Tryd.prog 18 #[.string (strOfNums l), .bool m] w (RGetPost (decide (128 ≤ rd l 0)) (rd l 0 % 16) m (keyIn l m) (if m = true then turned (rawOf l m) (keyIn l m) else rawOf l m) 0 w) := by
  obtain ⟨e1, e2, e3⟩ := getBad_ok hb
  have hR := refHead_f hl m 20000 (by omega)
  have hbd := headF_bounds hl m
  have hsz := str_size l
  obtain ⟨hf, h0⟩ := headF_front hl m e1 e2
  have b0 := rd_byte hl 0
  have e0 : bt (strOfNums l) 0 = rd l 0 := bt_rd hl 0 (by omega)
  unfold refH at hR
  rw [if_neg (by omega), if_neg (by rw [e2]; decide)] at hR
  have hs : IntKind.i64.wrap ((headF l m).1 + (headF l m).2.1) = (l.length : Int) := by rw [i64_w]; unfold wrap64; omega
  have hne : (((strOfNums l).size : Int) != (l.length : Int)) = false := bne_eq_false_iff_eq.mpr (by rw [hsz])
  have hfin : decide (127 < bt (strOfNums l) 0) = decide (128 ≤ rd l 0) := by rw [e0]; exact decide_eq_decide.mpr (by omega)
  have hop : Int.tmod (bt (strOfNums l) 0) 16 = rd l 0 % 16 := by rw [e0]; exact Int.tmod_eq_emod_of_nonneg b0.1
  have hraw := raw_Byte hl m
  have hrl : (rawOf l m).length ≤ 9000 := by unfold rawOf; rw [List.length_drop]; omega
  have hcut : ∀ F : Nat, (strOfNums l).extract F (strOfNums l).size = strOfNums (l.drop F) := fun F => by rw [hsz, str_cut, List.take_length]
  unfold rawOf at hraw hrl
  unfold rawOf keyIn
  rcases hf with ⟨rfl, hf⟩ | ⟨rfl, hf⟩
  · rw [if_neg (by decide), if_neg (by decide)]
    rcases hf with hf | hf
    · rw [hf] at hR hs hraw hrl e3 ⊢
      exact rget_ok_2 20000 _ (strOfNums (l.drop 2)) w _ _ _ _ _ _ (by omega) hs hne hfin hop (str_size _) (bytesOf_str _ hraw) (by exact Nat.le_trans hrl (by omega)) ⟨hR⟩ (hcut 2) rfl
    · rw [hf] at hR hs hraw hrl e3 ⊢
      exact rget_ok_4 20000 _ (strOfNums (l.drop 4)) w _ _ _ _ _ _ (by omega) hs hne hfin hop (str_size _) (bytesOf_str _ hraw) (by exact Nat.le_trans hrl (by omega)) ⟨hR⟩ (hcut 4) rfl
  · rw [if_pos rfl, if_pos rfl]
    rcases hf with hf | hf
    · rw [hf] at hR hs hraw hrl e3 ⊢
      simp only [show ((6 : Int).toNat) = 6 from rfl, show (6 : Nat) - 4 = 2 from rfl] at hraw hrl ⊢
      have hv := value_cut hl 2 6 (by omega) (by omega) (by omega) 20000 (by omega)
      have hkb := val_bounds hl 2 4
      rw [show (256 : Int) ^ 4 = 4294967296 from rfl] at hkb
      have hT := refTurn_k (l.drop 6) (val l 2 4) hraw (by omega) hkb.1 (by omega) 20000 (by omega)
      exact rget_ok_6 20000 _ (strOfNums (turned (l.drop 6) (val l 2 4))) w _ _ _ _ _ _ (by omega) hs hne hfin hop (str_size _) (bytesOf_str _ (turned_byte _ _ hraw)) (by rw [turned_len]; omega) ⟨hR⟩ _ (hcut 6) ⟨hv⟩ ⟨hT⟩
    · rw [hf] at hR hs hraw hrl e3 ⊢
      simp only [show ((8 : Int).toNat) = 8 from rfl, show (8 : Nat) - 4 = 4 from rfl] at hraw hrl ⊢
      have hv := value_cut hl 4 8 (by omega) (by omega) (by omega) 20000 (by omega)
      have hkb := val_bounds hl 4 4
      rw [show (256 : Int) ^ 4 = 4294967296 from rfl] at hkb
      have hT := refTurn_k (l.drop 8) (val l 4 4) hraw (by omega) hkb.1 (by omega) 20000 (by omega)
      exact rget_ok_8 20000 _ (strOfNums (turned (l.drop 8) (val l 4 4))) w _ _ _ _ _ _ (by omega) hs hne hfin hop (str_size _) (bytesOf_str _ (turned_byte _ _ hraw)) (by rw [turned_len]; omega) ⟨hR⟩ _ (hcut 8) ⟨hv⟩ ⟨hT⟩
end Go.Proofs.YtabpngcjlikpkaaDoor
