import Derived.Test.YtbjjobifpmjhhaaDoorMsgC
import Derived.Test.YtbjjobifpmjhhaaDoorPAllx2
import Derived.Test.YtbjjobifpmjhhaaDoorPAllx2
import Derived.Test.YtbjjobifpmjhhaaDoorPAllx2
import Derived.Test.YtbjjobifpmjhhaaDoorPAllx1
import Derived.Deep.RegionHeld3
namespace Go.Proofs.YtbjjobifpmjhhaaDoor
open Go.RowKit Go.Proofs.YtbjjobifpmjhhaaDoorW.PrintWords Go.Proofs.YtbjjobifpmjhhaaDoorW.PrintLast Go.Proofs.YtbjjobifpmjhhaaDoorW.PrintMore Go.Proofs.YtbjjobifpmjhhaaDoor.PAll
set_option linter.unusedVariables false
set_option maxHeartbeats 4000000 in
set_option maxRecDepth 100000 in
theorem closes_ok (h0 h1 : Int) (r : List Int) (code : Int) (k : Nat) (b0 : 0 ≤ h0) (b0' : h0 ≤ 255) (b1 : 0 ≤ h1) (b1' : h1 ≤ 255) (hcode : Go.bits .or .u32 (h0 * 256) h1 = code) (ht : toldB code = true) (hv : utf_Valid.f k r = some true) (hrl : r.length ≤ 140737488351232) : ClosesTo (h0 :: h1 :: r) r code := by
  intro A c w hC hc
  have hu30 := Tryd.underlying30
  have hlen : (h0 :: h1 :: r).length = r.length + 2 := by simp
  obtain ⟨ad, rfl, hx0⟩ := Kd.at_int hC 0 (by decide) (by simp; omega)
  obtain ⟨ad2, e2, hx1⟩ := Kd.at_int hC 1 (by decide) (by simp; omega)
  injection e2 with e2
  subst e2
  have y0 : w.cell? ad = some (.int .u8 h0) := hx0
  have y1 : w.cell? ⟨ad.block, ad.off + 1, none⟩ = some (.int .u8 h1) := hx1
  clear hx0 hx1
  have HC := Aside0.mk hC
  clear hC
  have e0 : IntKind.u32.wrap h0 = h0 := by simp [IntKind.wrap, IntKind.bits, IntKind.signed]; omega
  have e1 : IntKind.u32.wrap h1 = h1 := by simp [IntKind.wrap, IntKind.bits, IntKind.signed]; omega
  have e3 : IntKind.u32.wrap (h0 * 256) = h0 * 256 := by simp [IntKind.wrap, IntKind.bits, IntKind.signed]; omega
  have p0 : (0 : Int) < (r.length : Int) + 1 + 1 := by omega
  have p1 : (1 : Int) < (r.length : Int) + 1 + 1 := by omega
  have p2 : (2 : Int) ≤ (r.length : Int) + 1 + 1 := by omega
  have z0 : (((r.length : Int) + 1 + 1) == 0) = false := beq_eq_false_iff_ne.mpr (by omega)
  have z1 : (((r.length : Int) + 1 + 1) == 1) = false := beq_eq_false_iff_ne.mpr (by omega)
  go_enter Tryd.func35, Tryd.ntmps35
  go_wp2_with fail
  refine wp_region_noPanic ?_
  refine wp_region_held_drew (S := fun w' => Aside0 (Below w.heap.size w w') ∧ w'.cell? ad = some (.int .u8 h0) ∧ w'.cell? ⟨ad.block, ad.off + 1, none⟩ = some (.int .u8 h1)) (by kernel_rfl) (⟨⟨below_drew (below_alloc (Below.refl _ _) _)⟩, ((below_drew (below_alloc (Below.refl w.heap.size w) _)).cell (World.block_lt_of_cell? _ _ y0)).trans y0, ((below_drew (below_alloc (Below.refl w.heap.size w) _)).cell (World.block_lt_of_cell? _ _ y1)).trans y1⟩) (fun hHeld => ?_)
  refine takeN (i := 0) (N := (some 14)) (v := ?v12) (a' := ?a12) rfl rfl (by kernel_rfl) (by kernel_rfl) (by kernel_rfl) (fun _ _ _ h => h) (Or.inl ⟨by rfl, ?hy12⟩) ?ha12 (by assumption) ?rest12
  case hy12 =>
    intro w_ hSw_
    go_simp
    first | done | (with_reducible rfl)
  case ha12 =>
    simp only [Act.put, List.setIfInBounds_toArray, List.set_cons_zero, List.set_cons_succ]
    rfl
  refine takeN (i := 1) (N := (some 15)) (v := ?v13) (a' := ?a13) rfl rfl (by kernel_rfl) (by kernel_rfl) (by kernel_rfl) (fun _ _ _ h => h) (Or.inl ⟨by rfl, ?hy13⟩) ?ha13 (by assumption) ?rest13
  case hy13 =>
    intro w_ hSw_
    go_simp
    first | done | (with_reducible rfl)
  case ha13 =>
    simp only [Act.put, List.setIfInBounds_toArray, List.set_cons_zero, List.set_cons_succ]
    rfl
  refine takeN (i := 2) (N := (some 16)) (v := ?v14) (a' := ?a14) rfl rfl (by kernel_rfl) (by kernel_rfl) (by kernel_rfl) (fun _ _ _ h => h) (Or.inl ⟨by rfl, ?hy14⟩) ?ha14 (by assumption) ?rest14
  case hy14 =>
    intro w_ hSw_
    go_simp
    first | done | (with_reducible rfl)
  case ha14 =>
    simp only [Act.put, List.setIfInBounds_toArray, List.set_cons_zero, List.set_cons_succ]
    rfl
  refine takeN (i := 3) (N := (some 17)) (v := ?v15) (a' := ?a15) rfl rfl (by kernel_rfl) (by kernel_rfl) (by kernel_rfl) (fun _ _ _ h => h) (Or.inl ⟨by rfl, ?hy15⟩) ?ha15 (by assumption) ?rest15
  case hy15 =>
    intro w_ hSw_
    go_simp
    first | done | (with_reducible rfl)
  case ha15 =>
    simp only [Act.put, List.setIfInBounds_toArray, List.set_cons_zero, List.set_cons_succ]
    rfl
  refine takeN (i := 4) (N := (some 18)) (v := ?v16) (a' := ?a16) rfl rfl (by kernel_rfl) (by kernel_rfl) (by kernel_rfl) (fun _ _ _ h => h) (Or.inl ⟨by rfl, ?hy16⟩) ?ha16 (by assumption) ?rest16
  case hy16 =>
    intro w_ hSw_
    go_simp
    first | done | (with_reducible rfl)
  case ha16 =>
    simp only [Act.put, List.setIfInBounds_toArray, List.set_cons_zero, List.set_cons_succ]
    rfl
  refine takeN (i := 5) (N := (some 19)) (v := ?v17) (a' := ?a17) rfl rfl (by kernel_rfl) (by kernel_rfl) (by kernel_rfl) (fun _ _ _ h => h) (Or.inl ⟨by rfl, ?hy17⟩) ?ha17 (by assumption) ?rest17
  case hy17 =>
    intro w_ hSw_
    go_simp
    first | done | (with_reducible rfl)
  case ha17 =>
    simp only [Act.put, List.setIfInBounds_toArray, List.set_cons_zero, List.set_cons_succ]
    rfl
  refine takeN (i := 6) (N := (some 20)) (v := ?v18) (a' := ?a18) rfl rfl (by kernel_rfl) (by kernel_rfl) (by kernel_rfl) (fun _ _ _ h => h) (Or.inl ⟨by rfl, ?hy18⟩) ?ha18 (by assumption) ?rest18
  case hy18 =>
    intro w_ hSw_
    go_simp
    first | done | (with_reducible rfl)
  case ha18 =>
    simp only [Act.put, List.setIfInBounds_toArray, List.set_cons_zero, List.set_cons_succ]
    rfl
  refine takeN (i := 7) (N := (some 21)) (v := ?v19) (a' := ?a19) rfl rfl (by kernel_rfl) (by kernel_rfl) (by kernel_rfl) (fun _ _ _ h => h) (Or.inl ⟨by rfl, ?hy19⟩) ?ha19 (by assumption) ?rest19
  case hy19 =>
    intro w_ hSw_
    go_simp
    first | done | (with_reducible rfl)
  case ha19 =>
    simp only [Act.put, List.setIfInBounds_toArray, List.set_cons_zero, List.set_cons_succ]
    rfl
  refine takeN (i := 8) (N := (some 22)) (v := ?v20) (a' := ?a20) rfl rfl (by kernel_rfl) (by kernel_rfl) (by kernel_rfl) (fun _ _ _ h => h) (Or.inl ⟨by rfl, ?hy20⟩) ?ha20 (by assumption) ?rest20
  case hy20 =>
    intro w_ hSw_
    go_simp
    first | done | (with_reducible rfl)
  case ha20 =>
    simp only [Act.put, List.setIfInBounds_toArray, List.set_cons_zero, List.set_cons_succ]
    rfl
  refine takeN (i := 9) (N := (some 23)) (v := ?v21) (a' := ?a21) rfl rfl (by kernel_rfl) (by kernel_rfl) (by kernel_rfl) (fun _ _ _ h => h) (Or.inl ⟨by rfl, ?hy21⟩) ?ha21 (by assumption) ?rest21
  case hy21 =>
    intro w_ hSw_
    go_simp
    first | done | (with_reducible rfl)
  case ha21 =>
    simp only [Act.put, List.setIfInBounds_toArray, List.set_cons_zero, List.set_cons_succ]
    rfl
  refine takeN (i := 10) (N := (some 4)) (v := ?v22) (a' := ?a22) rfl rfl (by kernel_rfl) (by kernel_rfl) (by kernel_rfl) (fun _ _ _ h => h) (Or.inl ⟨by rfl, ?hy22⟩) ?ha22 (by assumption) ?rest22
  case hy22 =>
    intro w_ hSw_
    go_simp
    first | done | (with_reducible rfl)
  case ha22 =>
    simp only [Act.put, List.setIfInBounds_toArray, List.set_cons_zero, List.set_cons_succ]
    rfl
  refine wpAnyH_done (by kernel_rfl) ?_ _
  refine NoPanic.normal ?_
  have HB := Aside0.mk hHeld.1.out
  clear hHeld
  have hr : ((w.alloc (.cells #[.int .u8 0, .bool false, .slice none 0 0, .int .u32 0] 30)).drew).heap[w.heap.size]? = some (.cells #[.int .u8 0, .bool false, .slice none 0 0, .int .u32 0] 30 (0, 0)) := blk_drew (last_at _ _ _ rfl)
  generalize (w.alloc (.cells #[.int .u8 0, .bool false, .slice none 0 0, .int .u32 0] 30)).drew = w1 at HB hr ⊢
  have hc' : r.length + 2 ≤ c := by rw [hlen] at hc; exact hc
  clear hc
  by_cases hc2 : c = 2
  · subst hc2
    have HC2 : Aside0 ((Kd.int .u8).C w (some ad) r.length r) := ⟨by
      have h := Kd.C_drop (m := 2) (c := 2) HC.out (by simp) (by rw [hlen]; omega)
      rw [if_pos rfl] at h
      exact h⟩
    have hc3 : r.length ≤ 0 := by omega
    have hr0 : r.length = 0 := by omega
    go_wp2_with fail
    refine (message_Told.calls code true _ (by show some (toldB code) = some true; rw [ht])).mono ?_
    rintro e w2 ⟨rfl, hb⟩
    have hr2 : w2.heap[w.heap.size]? = _ := blk_below hr hb
    replace HB := Aside0.mk (below_step HB.out hb)
    clear hb hr
    go_wp2_with fail
    refine (calls_of_args (by rw [hr0]) (utf_Valid.calls k (some ad) (0) r true _ (Kd.C_below HC2.out HB.out) hc3 hv)).mono ?_
    rintro e w3 ⟨rfl, hb⟩
    have hr3 : w3.heap[w.heap.size]? = _ := blk_below hr2 hb
    replace HB := Aside0.mk (below_step HB.out hb)
    clear hb hr2
    go_wp2_with fail
    refine (calls_of_args (by rw [hr0]) (bytes_Clone.calls (some ad) (0) r r _ (Kd.C_below HC2.out HB.out) hc3 (by unfold bytes_Clone.f; rw [if_pos (by omega)]))).mono ?_
    rintro e w4 ⟨v, rfl, ho, hb⟩
    have hr4 : w4.heap[w.heap.size]? = some (.cells #[.int .u8 0, .bool false, .slice none 0 0, .int .u32 0] 30 (0, 0)) := blk_below hr3 hb
    have hR := Kd.R_types (Kd.R_lower ho HB.out.size) hr4 (by intro q hq; simp [Kd.int, Kd.scalar] at hq; omega)
    obtain ⟨Av, cv, rfl⟩ := Kd.R_slice hR
    have HR := Aside0.mk hR
    replace HB := Aside0.mk (below_step HB.out hb)
    clear hb hr3 ho hR
    have rc0 : w4.cell? ⟨w.heap.size, 0, none⟩ = some (.int .u8 0) := (blk_cell hr4 0).trans rfl
    have rf0 := blk_frozen hr4 0
    have rc1 : w4.cell? ⟨w.heap.size, 1, none⟩ = some (.bool false) := (blk_cell hr4 1).trans rfl
    have rf1 := blk_frozen hr4 1
    have rc2 : w4.cell? ⟨w.heap.size, 2, none⟩ = some (.slice none 0 0) := (blk_cell hr4 2).trans rfl
    have rf2 := blk_frozen hr4 2
    have rc3 : w4.cell? ⟨w.heap.size, 3, none⟩ = some (.int .u32 0) := (blk_cell hr4 3).trans rfl
    have rf3 := blk_frozen hr4 3
    have rl : w.heap.size < w4.heap.size := blk_lt hr4
    have hle : w.heap.size ≤ w.heap.size := Nat.le_refl _
    go_wp2_with fail
    exact bodyPost_ret (v := .tuple #[.agg #[.int .u8 4, .bool false, .slice Av r.length cv, .int .u32 code], .nilIface]) (by simp [results, Tryd.results35, go_sem, rc0, rc1, rc2, rc3, hr0]) rfl ⟨_, rfl, Kd.R_mono (Kd.R_far (Kd.R_far (Kd.R_far (Kd.R_far HR.out (fun k hk => hk.2) _) (fun k hk => hk.2) _) (fun k hk => hk.2) _) (fun k hk => hk.2) _) (fun _ _ => trivial), (Below.setCell (Below.setCell (Below.setCell (Below.setCell HB.out hle _) hle _) hle _) hle _)⟩
  · have hc5 : (2 : Int) ≤ (c : Int) := by omega
    have hc6 : (c == 2) = false := beq_eq_false_iff_ne.mpr hc2
    have HC2 : Aside0 ((Kd.int .u8).C w (some ⟨ad.block, ad.off + 2, none⟩) r.length r) := ⟨by
      have h := Kd.C_drop (m := 2) (c := c) HC.out (by simp) (by rw [hlen]; omega)
      rw [if_neg hc2] at h
      exact h⟩
    have hc3 : r.length ≤ c - 2 := by omega
    go_wp2_with fail
    refine (message_Told.calls code true _ (by show some (toldB code) = some true; rw [ht])).mono ?_
    rintro e w2 ⟨rfl, hb⟩
    have hr2 : w2.heap[w.heap.size]? = _ := blk_below hr hb
    replace HB := Aside0.mk (below_step HB.out hb)
    clear hb hr
    go_wp2_with fail
    refine ((utf_Valid.calls k (some ⟨ad.block, ad.off + 2, none⟩) (c - 2) r true _ (Kd.C_below HC2.out HB.out) hc3 hv)).mono ?_
    rintro e w3 ⟨rfl, hb⟩
    have hr3 : w3.heap[w.heap.size]? = _ := blk_below hr2 hb
    replace HB := Aside0.mk (below_step HB.out hb)
    clear hb hr2
    go_wp2_with fail
    refine ((bytes_Clone.calls (some ⟨ad.block, ad.off + 2, none⟩) (c - 2) r r _ (Kd.C_below HC2.out HB.out) hc3 (by unfold bytes_Clone.f; rw [if_pos (by omega)]))).mono ?_
    rintro e w4 ⟨v, rfl, ho, hb⟩
    have hr4 : w4.heap[w.heap.size]? = some (.cells #[.int .u8 0, .bool false, .slice none 0 0, .int .u32 0] 30 (0, 0)) := blk_below hr3 hb
    have hR := Kd.R_types (Kd.R_lower ho HB.out.size) hr4 (by intro q hq; simp [Kd.int, Kd.scalar] at hq; omega)
    obtain ⟨Av, cv, rfl⟩ := Kd.R_slice hR
    have HR := Aside0.mk hR
    replace HB := Aside0.mk (below_step HB.out hb)
    clear hb hr3 ho hR
    have rc0 : w4.cell? ⟨w.heap.size, 0, none⟩ = some (.int .u8 0) := (blk_cell hr4 0).trans rfl
    have rf0 := blk_frozen hr4 0
    have rc1 : w4.cell? ⟨w.heap.size, 1, none⟩ = some (.bool false) := (blk_cell hr4 1).trans rfl
    have rf1 := blk_frozen hr4 1
    have rc2 : w4.cell? ⟨w.heap.size, 2, none⟩ = some (.slice none 0 0) := (blk_cell hr4 2).trans rfl
    have rf2 := blk_frozen hr4 2
    have rc3 : w4.cell? ⟨w.heap.size, 3, none⟩ = some (.int .u32 0) := (blk_cell hr4 3).trans rfl
    have rf3 := blk_frozen hr4 3
    have rl : w.heap.size < w4.heap.size := blk_lt hr4
    have hle : w.heap.size ≤ w.heap.size := Nat.le_refl _
    go_wp2_with fail
    exact bodyPost_ret (v := .tuple #[.agg #[.int .u8 4, .bool false, .slice Av r.length cv, .int .u32 code], .nilIface]) (by simp [results, Tryd.results35, go_sem, rc0, rc1, rc2, rc3]) rfl ⟨_, rfl, Kd.R_mono (Kd.R_far (Kd.R_far (Kd.R_far (Kd.R_far HR.out (fun k hk => hk.2) _) (fun k hk => hk.2) _) (fun k hk => hk.2) _) (fun k hk => hk.2) _) (fun _ _ => trivial), (Below.setCell (Below.setCell (Below.setCell (Below.setCell HB.out hle _) hle _) hle _) hle _)⟩
end Go.Proofs.YtbjjobifpmjhhaaDoor
