import Derived.Test.YtabpngcjlikpkaaDoorSaysWsframePuts
import Derived.Test.YtabpngcjlikpkaaDoorPutHead
import Derived.Test.YtabpngcjlikpkaaDoorPAllx6
import Derived.Test.YtabpngcjlikpkaaDoorPAllx6
import Derived.Test.YtabpngcjlikpkaaDoorPAllx7
namespace Go.Proofs.YtabpngcjlikpkaaDoor
open Go.RowKit Go.Proofs.YtabpngcjlikpkaaDoorW.PrintWords Go.Proofs.YtabpngcjlikpkaaDoorW.PrintLast Go.Proofs.YtabpngcjlikpkaaDoorW.PrintMore Go.Proofs.YtabpngcjlikpkaaDoor.PAll
set_option linter.unusedVariables false
/-- What stands throughout: the box of the argument, and the bytes that were put. -/
structure Pt (fin : Bool) (op : Int) (mask : Bool) (key : Int) (A : Option Addr) (d : List Int) (cA : Nat) (Ab : Option Addr) (cb : Nat) (L : List Int) (w W : World) : Prop where
  bel : Below w.heap.size w W
  box : W.heap[w.heap.size]? = some (.cells #[.bool fin, .int .u8 op, .bool mask, .int .u32 key, .slice A d.length cA] 37 (0, 0))
  row : Kd.R (Kd.int .u8) 5 W w.heap.size (fun _ => True) (.slice Ab L.length cb) L
theorem Pt.below {fin : Bool} {op : Int} {mask : Bool} {key : Int} {A : Option Addr} {d : List Int} {cA : Nat} {Ab : Option Addr} {cb : Nat} {L : List Int} {w W W' : World} (h : Pt fin op mask key A d cA Ab cb L w W) (hb : Below W.heap.size W W') : Pt fin op mask key A d cA Ab cb L w W' := ⟨below_step h.bel hb, blk_below h.box hb, Kd.R_below h.row hb⟩
theorem Pt.S {fin : Bool} {op : Int} {mask : Bool} {key : Int} {A : Option Addr} {d : List Int} {cA : Nat} {Ab : Option Addr} {cb : Nat} {L : List Int} {w W : World} (h : Pt fin op mask key A d cA Ab cb L w W) : Aside0 (Pt fin op mask key A d cA Ab cb L w W) ∧ W.cell? ⟨w.heap.size, 0, none⟩ = some (.bool fin) ∧ W.cell? ⟨w.heap.size, 1, none⟩ = some (.int .u8 op) ∧ W.cell? ⟨w.heap.size, 2, none⟩ = some (.bool mask) ∧ W.cell? ⟨w.heap.size, 3, none⟩ = some (.int .u32 key) ∧ W.cell? ⟨w.heap.size, 4, none⟩ = some (.slice A d.length cA) := ⟨⟨h⟩, (blk_cell h.box 0).trans rfl, (blk_cell h.box 1).trans rfl, (blk_cell h.box 2).trans rfl, (blk_cell h.box 3).trans rfl, (blk_cell h.box 4).trans rfl⟩
set_option maxHeartbeats 8000000 in
set_option maxRecDepth 100000 in
theorem Puts_great (fin : Bool) (op : Int) (mask : Bool) (key : Int) (A : Option Addr) (d : List Int) (cA : Nat) (m : Bool) (w : World) (hg : Cond w) (hC : Kd.C (Kd.int .u8) w A d.length d) (hl : d.length ≤ cA) (hn : 9000 < (d.length : Int)) : Calls Tryd.prog 5 #[.agg #[.bool fin, .int .u8 op, .bool mask, .int .u32 key, .slice A d.length cA], .bool m] w fun e w' => e = .returned (.bool true) ∧ Below w.heap.size w w' := by
  have HG := Aside0.mk hg
  have HC := Aside0.mk hC
  clear hg hC
  have hu37 := Tryd.underlying37
  have hu26 := Tryd.underlying26
  have t0 : decide (9000 < (d.length : Int)) = true := decide_eq_true hn
  have t1 : 9000 < d.length := by omega
  go_enter Tryd.func5, Tryd.ntmps5
  go_wp2_with fail
  refine (louverlaw16_fixed.calls true _ rfl).mono ?_
  rintro e w1 ⟨rfl, hb⟩
  have HB := Aside0.mk (below_step (below_alloc (Below.refl w.heap.size w) (.cells #[.bool fin, .int .u8 op, .bool mask, .int .u32 key, .slice A d.length cA] 37)) hb)
  clear hb
  go_wp2_with fail
  go_ret
  exact ⟨rfl, HB.out⟩
set_option maxHeartbeats 8000000 in
set_option maxRecDepth 100000 in
theorem Puts_no (fin : Bool) (op : Int) (mask : Bool) (key : Int) (A : Option Addr) (d : List Int) (cA : Nat) (m : Bool) (w : World) (hg : Cond w) (hC : Kd.C (Kd.int .u8) w A d.length d) (hl : d.length ≤ cA) (L : List Int) (hn : (d.length : Int) ≤ 9000) (HP : Aside0 (wsframe_Put.f 20000 fin op mask key d = some L)) (HM : Aside0 (wsframe_May.f 20000 fin op mask key d = some false)) (HRM : Aside0 (louverref16_May.f fin op mask key d = some false)) (z0 : ((L.length : Int) == 0) = true) : Calls Tryd.prog 5 #[.agg #[.bool fin, .int .u8 op, .bool mask, .int .u32 key, .slice A d.length cA], .bool m] w fun e w' => e = .returned (.bool true) ∧ Below w.heap.size w w' := by
  have HG := Aside0.mk hg
  have HC := Aside0.mk hC
  clear hg hC
  have hu37 := Tryd.underlying37
  have hu26 := Tryd.underlying26
  have t0 : decide (9000 < (d.length : Int)) = false := decide_eq_false (by omega)
  have t1 : ¬ 9000 < d.length := by omega
  go_enter Tryd.func5, Tryd.ntmps5
  go_wp2_with fail
  refine (wsframe_Put.calls 20000 fin op mask key A cA d L _ (Kd.C_below HC.out (below_alloc (Below.refl _ _) _)) hl HP.out).mono ?_
  rintro e w1 ⟨vb, rfl, ho, hb⟩
  obtain ⟨Ab, cb, rfl⟩ := Kd.R_slice ho
  have HX1 : Aside0 (Pt fin op mask key A d cA Ab cb L w w1) := ⟨⟨below_step (below_alloc (Below.refl w.heap.size w) _) hb, blk_below (last_at _ _ _ rfl) hb, Kd.R_lower ho (by simp)⟩⟩
  clear ho hb
  have b0 : w1.cell? ⟨w.heap.size, 0, none⟩ = some (.bool fin) := (blk_cell HX1.out.box 0).trans rfl
  have b1 : w1.cell? ⟨w.heap.size, 1, none⟩ = some (.int .u8 op) := (blk_cell HX1.out.box 1).trans rfl
  have b2 : w1.cell? ⟨w.heap.size, 2, none⟩ = some (.bool mask) := (blk_cell HX1.out.box 2).trans rfl
  have b3 : w1.cell? ⟨w.heap.size, 3, none⟩ = some (.int .u32 key) := (blk_cell HX1.out.box 3).trans rfl
  have b4 : w1.cell? ⟨w.heap.size, 4, none⟩ = some (.slice A d.length cA) := (blk_cell HX1.out.box 4).trans rfl
  have bl := blk_lt HX1.out.box
  go_wp2_with fail
  clear b0 b1 b2 b3 b4 bl
  refine wp_region_noPanic ?_
  refine wp_region_held_drew (S := fun w' => Aside0 (Pt fin op mask key A d cA Ab cb L w w') ∧ w'.cell? ⟨w.heap.size, 0, none⟩ = some (.bool fin) ∧ w'.cell? ⟨w.heap.size, 1, none⟩ = some (.int .u8 op) ∧ w'.cell? ⟨w.heap.size, 2, none⟩ = some (.bool mask) ∧ w'.cell? ⟨w.heap.size, 3, none⟩ = some (.int .u32 key) ∧ w'.cell? ⟨w.heap.size, 4, none⟩ = some (.slice A d.length cA)) (by kernel_rfl) (Pt.S (HX1.out.below (below_drew (Below.refl _ _)))) (fun hHeld => ?_)
  refine takeN (i := 0) (N := (some 16)) (v := ?v1) (a' := ?a1) rfl rfl (by kernel_rfl) (by kernel_rfl) (by kernel_rfl) (fun _ _ _ h => h) (Or.inl ⟨by rfl, ?hy1⟩) ?ha1 (by assumption) ?rest1
  case hy1 =>
    intro w_ hSw_
    go_simp
    first | done | (with_reducible rfl)
  case ha1 =>
    simp only [Act.put, List.setIfInBounds_toArray, List.set_cons_zero, List.set_cons_succ]
    rfl
  refine takeN (i := 2) (N := (some 18)) (v := ?v2) (a' := ?a2) rfl rfl (by kernel_rfl) (by kernel_rfl) (by kernel_rfl) (fun _ _ _ h => h) (Or.inl ⟨by rfl, ?hy2⟩) ?ha2 (by assumption) ?rest2
  case hy2 =>
    intro w_ hSw_
    go_simp
    first | done | (with_reducible rfl)
  case ha2 =>
    simp only [Act.put, List.setIfInBounds_toArray, List.set_cons_zero, List.set_cons_succ]
    rfl
  refine wpAnyH_ready (rs := [1]) (by kernel_rfl) (by simp) ?_
  refine AllReadyH.cons rfl (fun K hK => ?_) AllReadyH.nil
  go_simp
  go_at_call 13
  with_reducible refine (wsframe_May.calls 20000 fin op mask key A cA d false _ (Kd.C_below HC.out hHeld.1.out.bel) hl HM.out).mono ?_
  rintro e w' ⟨rfl, hb⟩
  refine hK.out _ _ (Pt.S (hHeld.1.out.below hb)) (fun hHeld => ?_)
  clear hK K
  try simp only [Act.put, List.setIfInBounds_toArray, List.set_cons_zero, List.set_cons_succ]
  refine wpAnyH_ready (rs := [3]) (by kernel_rfl) (by simp) ?_
  refine AllReadyH.cons rfl (fun K hK => ?_) AllReadyH.nil
  go_simp
  go_at_call 14
  with_reducible refine (louverref16_May.calls fin op mask key A cA d false _ (Kd.C_below HC.out hHeld.1.out.bel) hl HRM.out).mono ?_
  rintro e w' ⟨rfl, hb⟩
  refine hK.out _ _ (Pt.S (hHeld.1.out.below hb)) (fun hHeld => ?_)
  clear hK K
  try simp only [Act.put, List.setIfInBounds_toArray, List.set_cons_zero, List.set_cons_succ]
  refine takeN (i := 4) (N := (some 20)) (v := ?v3) (a' := ?a3) rfl rfl (by kernel_rfl) (by kernel_rfl) (by kernel_rfl) (fun _ _ _ h => h) (Or.inl ⟨by rfl, ?hy3⟩) ?ha3 (by assumption) ?rest3
  case hy3 =>
    intro w_ hSw_
    go_simp
    first | done | (with_reducible rfl)
  case ha3 =>
    simp only [Act.put, List.setIfInBounds_toArray, List.set_cons_zero, List.set_cons_succ]
    rfl
  refine wpAnyH_done (by kernel_rfl) ?_ _
  refine NoPanic.normal ?_
  have HX2 := Aside0.mk hHeld.1.out
  clear hHeld HX1
  have b0 : w'.cell? ⟨w.heap.size, 0, none⟩ = some (.bool fin) := (blk_cell HX2.out.box 0).trans rfl
  have b1 : w'.cell? ⟨w.heap.size, 1, none⟩ = some (.int .u8 op) := (blk_cell HX2.out.box 1).trans rfl
  have b2 : w'.cell? ⟨w.heap.size, 2, none⟩ = some (.bool mask) := (blk_cell HX2.out.box 2).trans rfl
  have b3 : w'.cell? ⟨w.heap.size, 3, none⟩ = some (.int .u32 key) := (blk_cell HX2.out.box 3).trans rfl
  have b4 : w'.cell? ⟨w.heap.size, 4, none⟩ = some (.slice A d.length cA) := (blk_cell HX2.out.box 4).trans rfl
  have bl := blk_lt HX2.out.box
  go_wp2_with fail
  clear b0 b1 b2 b3 b4 bl
  refine (louverref16_May.calls fin op mask key A cA d false _ (Kd.C_below HC.out HX2.out.bel) hl HRM.out).mono ?_
  rintro e w3 ⟨rfl, hb⟩
  have HX3 := Aside0.mk (HX2.out.below hb)
  clear hb HX2
  go_wp2_with fail
  refine (louverlaw16_fixed.calls true _ rfl).mono ?_
  rintro e w4 ⟨rfl, hb⟩
  have HB := Aside0.mk (HX3.out.below hb).bel
  clear hb
  go_wp2_with fail
  go_ret
  exact ⟨rfl, HB.out⟩
set_option maxHeartbeats 8000000 in
set_option maxRecDepth 100000 in
theorem Puts_same (fin : Bool) (op : Int) (mask : Bool) (key : Int) (A : Option Addr) (d : List Int) (cA : Nat) (m : Bool) (w : World) (hg : Cond w) (hC : Kd.C (Kd.int .u8) w A d.length d) (hl : d.length ≤ cA) (L : List Int) (hn : (d.length : Int) ≤ 9000) (HP : Aside0 (wsframe_Put.f 20000 fin op mask key d = some L)) (HM : Aside0 (wsframe_May.f 20000 fin op mask key d = some true)) (HRM : Aside0 (louverref16_May.f fin op mask key d = some true)) (HRP : Aside0 (louverref16_Put.f 20000 fin op mask key d = some (strOfNums L))) (HGT : Aside0 (wsframe_Get.f 20000 L m = some (fin, op, mask, key, d, 0, 0))) (hmm : mask = m) (HS : Aside0 (louverref16_Same.f fin op mask key d fin op mask key d = some true)) : Calls Tryd.prog 5 #[.agg #[.bool fin, .int .u8 op, .bool mask, .int .u32 key, .slice A d.length cA], .bool m] w fun e w' => e = .returned (.bool true) ∧ Below w.heap.size w w' := by
  subst hmm
  have HG := Aside0.mk hg
  have HC := Aside0.mk hC
  clear hg hC
  have hu37 := Tryd.underlying37
  have hu26 := Tryd.underlying26
  have t0 : decide (9000 < (d.length : Int)) = false := decide_eq_false (by omega)
  have t1 : ¬ 9000 < d.length := by omega
  go_enter Tryd.func5, Tryd.ntmps5
  go_wp2_with fail
  refine (wsframe_Put.calls 20000 fin op mask key A cA d L _ (Kd.C_below HC.out (below_alloc (Below.refl _ _) _)) hl HP.out).mono ?_
  rintro e w1 ⟨vb, rfl, ho, hb⟩
  obtain ⟨Ab, cb, rfl⟩ := Kd.R_slice ho
  have HX1 : Aside0 (Pt fin op mask key A d cA Ab cb L w w1) := ⟨⟨below_step (below_alloc (Below.refl w.heap.size w) _) hb, blk_below (last_at _ _ _ rfl) hb, Kd.R_lower ho (by simp)⟩⟩
  clear ho hb
  have b0 : w1.cell? ⟨w.heap.size, 0, none⟩ = some (.bool fin) := (blk_cell HX1.out.box 0).trans rfl
  have b1 : w1.cell? ⟨w.heap.size, 1, none⟩ = some (.int .u8 op) := (blk_cell HX1.out.box 1).trans rfl
  have b2 : w1.cell? ⟨w.heap.size, 2, none⟩ = some (.bool mask) := (blk_cell HX1.out.box 2).trans rfl
  have b3 : w1.cell? ⟨w.heap.size, 3, none⟩ = some (.int .u32 key) := (blk_cell HX1.out.box 3).trans rfl
  have b4 : w1.cell? ⟨w.heap.size, 4, none⟩ = some (.slice A d.length cA) := (blk_cell HX1.out.box 4).trans rfl
  have bl := blk_lt HX1.out.box
  go_wp2_with fail
  clear b0 b1 b2 b3 b4 bl
  refine wp_region_noPanic ?_
  refine wp_region_held_drew (S := fun w' => Aside0 (Pt fin op mask key A d cA Ab cb L w w') ∧ w'.cell? ⟨w.heap.size, 0, none⟩ = some (.bool fin) ∧ w'.cell? ⟨w.heap.size, 1, none⟩ = some (.int .u8 op) ∧ w'.cell? ⟨w.heap.size, 2, none⟩ = some (.bool mask) ∧ w'.cell? ⟨w.heap.size, 3, none⟩ = some (.int .u32 key) ∧ w'.cell? ⟨w.heap.size, 4, none⟩ = some (.slice A d.length cA)) (by kernel_rfl) (Pt.S (HX1.out.below (below_drew (Below.refl _ _)))) (fun hHeld => ?_)
  refine takeN (i := 0) (N := (some 16)) (v := ?v4) (a' := ?a4) rfl rfl (by kernel_rfl) (by kernel_rfl) (by kernel_rfl) (fun _ _ _ h => h) (Or.inl ⟨by rfl, ?hy4⟩) ?ha4 (by assumption) ?rest4
  case hy4 =>
    intro w_ hSw_
    go_simp
    first | done | (with_reducible rfl)
  case ha4 =>
    simp only [Act.put, List.setIfInBounds_toArray, List.set_cons_zero, List.set_cons_succ]
    rfl
  refine takeN (i := 2) (N := (some 18)) (v := ?v5) (a' := ?a5) rfl rfl (by kernel_rfl) (by kernel_rfl) (by kernel_rfl) (fun _ _ _ h => h) (Or.inl ⟨by rfl, ?hy5⟩) ?ha5 (by assumption) ?rest5
  case hy5 =>
    intro w_ hSw_
    go_simp
    first | done | (with_reducible rfl)
  case ha5 =>
    simp only [Act.put, List.setIfInBounds_toArray, List.set_cons_zero, List.set_cons_succ]
    rfl
  refine wpAnyH_ready (rs := [1]) (by kernel_rfl) (by simp) ?_
  refine AllReadyH.cons rfl (fun K hK => ?_) AllReadyH.nil
  go_simp
  go_at_call 13
  with_reducible refine (wsframe_May.calls 20000 fin op mask key A cA d true _ (Kd.C_below HC.out hHeld.1.out.bel) hl HM.out).mono ?_
  rintro e w' ⟨rfl, hb⟩
  refine hK.out _ _ (Pt.S (hHeld.1.out.below hb)) (fun hHeld => ?_)
  clear hK K
  try simp only [Act.put, List.setIfInBounds_toArray, List.set_cons_zero, List.set_cons_succ]
  refine wpAnyH_ready (rs := [3]) (by kernel_rfl) (by simp) ?_
  refine AllReadyH.cons rfl (fun K hK => ?_) AllReadyH.nil
  go_simp
  go_at_call 14
  with_reducible refine (louverref16_May.calls fin op mask key A cA d true _ (Kd.C_below HC.out hHeld.1.out.bel) hl HRM.out).mono ?_
  rintro e w' ⟨rfl, hb⟩
  refine hK.out _ _ (Pt.S (hHeld.1.out.below hb)) (fun hHeld => ?_)
  clear hK K
  try simp only [Act.put, List.setIfInBounds_toArray, List.set_cons_zero, List.set_cons_succ]
  refine takeN (i := 4) (N := (some 20)) (v := ?v6) (a' := ?a6) rfl rfl (by kernel_rfl) (by kernel_rfl) (by kernel_rfl) (fun _ _ _ h => h) (Or.inl ⟨by rfl, ?hy6⟩) ?ha6 (by assumption) ?rest6
  case hy6 =>
    intro w_ hSw_
    go_simp
    first | done | (with_reducible rfl)
  case ha6 =>
    simp only [Act.put, List.setIfInBounds_toArray, List.set_cons_zero, List.set_cons_succ]
    rfl
  refine wpAnyH_done (by kernel_rfl) ?_ _
  refine NoPanic.normal ?_
  have HX2 := Aside0.mk hHeld.1.out
  clear hHeld HX1
  have b0 : w'.cell? ⟨w.heap.size, 0, none⟩ = some (.bool fin) := (blk_cell HX2.out.box 0).trans rfl
  have b1 : w'.cell? ⟨w.heap.size, 1, none⟩ = some (.int .u8 op) := (blk_cell HX2.out.box 1).trans rfl
  have b2 : w'.cell? ⟨w.heap.size, 2, none⟩ = some (.bool mask) := (blk_cell HX2.out.box 2).trans rfl
  have b3 : w'.cell? ⟨w.heap.size, 3, none⟩ = some (.int .u32 key) := (blk_cell HX2.out.box 3).trans rfl
  have b4 : w'.cell? ⟨w.heap.size, 4, none⟩ = some (.slice A d.length cA) := (blk_cell HX2.out.box 4).trans rfl
  have bl := blk_lt HX2.out.box
  go_wp2_with fail
  clear b0 b1 b2 b3 b4 bl
  refine (louverref16_May.calls fin op mask key A cA d true _ (Kd.C_below HC.out HX2.out.bel) hl HRM.out).mono ?_
  rintro e w3 ⟨rfl, hb⟩
  have HX3 := Aside0.mk (HX2.out.below hb)
  clear hb HX2
  have b0 : w3.cell? ⟨w.heap.size, 0, none⟩ = some (.bool fin) := (blk_cell HX3.out.box 0).trans rfl
  have b1 : w3.cell? ⟨w.heap.size, 1, none⟩ = some (.int .u8 op) := (blk_cell HX3.out.box 1).trans rfl
  have b2 : w3.cell? ⟨w.heap.size, 2, none⟩ = some (.bool mask) := (blk_cell HX3.out.box 2).trans rfl
  have b3 : w3.cell? ⟨w.heap.size, 3, none⟩ = some (.int .u32 key) := (blk_cell HX3.out.box 3).trans rfl
  have b4 : w3.cell? ⟨w.heap.size, 4, none⟩ = some (.slice A d.length cA) := (blk_cell HX3.out.box 4).trans rfl
  have bl := blk_lt HX3.out.box
  go_wp2_with fail
  clear b0 b1 b2 b3 b4 bl
  refine (louverref16_Put.calls 20000 fin op mask key A cA d (strOfNums L) _ (Kd.C_below HC.out HX3.out.bel) hl HRP.out).mono ?_
  rintro e w4 ⟨rfl, hb⟩
  have HX4 := Aside0.mk (HX3.out.below hb)
  clear hb HX3
  go_wp2_with fail
  refine (wsframe_Get.calls 20000 Ab cb L _ fin op mask key d 0 0 _ (Kd.R_reads' HX4.out.row).2.2 (Kd.R_reads' HX4.out.row).2.1 HGT.out (HG.out.below HX4.out.bel)).mono ?_
  rintro e w5 ⟨vq, rfl, hq, hb⟩
  obtain ⟨Aq, cq, rfl⟩ := Kd.R_slice hq
  have HX5 := Aside0.mk (HX4.out.below hb)
  have HQ := Aside0.mk (Kd.C_below (Kd.R_reads' hq).2.2 (Below.refl _ _))
  have hcq := (Kd.R_reads' hq).2.1
  clear hq hb HX4
  go_upto_region 10 with fail
  have HX6 := HX5.out.below (below_alloc (below_alloc (Below.refl _ _) (.cells #[.bool fin, .int .u8 op, .bool mask, .int .u32 key, .slice Aq d.length cq] 37)) (.cells #[.int .u8 0, .int .u32 0] 26))
  have hQ6 := Kd.C_below HQ.out (below_alloc (below_alloc (Below.refl _ _) (.cells #[.bool fin, .int .u8 op, .bool mask, .int .u32 key, .slice Aq d.length cq] 37)) (.cells #[.int .u8 0, .int .u32 0] 26))
  have hq6 : ((w5.alloc (.cells #[.bool fin, .int .u8 op, .bool mask, .int .u32 key, .slice Aq d.length cq] 37)).alloc (.cells #[.int .u8 0, .int .u32 0] 26)).heap[w5.heap.size]? = some (.cells #[.bool fin, .int .u8 op, .bool mask, .int .u32 key, .slice Aq d.length cq] 37 (0, 0)) := blk_alloc (last_at _ _ _ rfl) _
  have hb6 : ((w5.alloc (.cells #[.bool fin, .int .u8 op, .bool mask, .int .u32 key, .slice Aq d.length cq] 37)).alloc (.cells #[.int .u8 0, .int .u32 0] 26)).heap[w5.heap.size + 1]? = some (.cells #[.int .u8 0, .int .u32 0] 26 (0, 0)) := last_at _ _ _ (by simp)
  generalize (w5.alloc (.cells #[.bool fin, .int .u8 op, .bool mask, .int .u32 key, .slice Aq d.length cq] 37)).alloc (.cells #[.int .u8 0, .int .u32 0] 26) = W6 at HX6 hQ6 hq6 hb6 ⊢
  generalize w5.heap.size = g at hq6 hb6 ⊢
  clear HX5 HQ
  have HX6 := Aside0.mk HX6
  have HQ6 := Aside0.mk hQ6
  have Hq6 := Aside0.mk hq6
  have Hb6 := Aside0.mk hb6
  clear hQ6 hq6 hb6
  have b0 : W6.cell? ⟨w.heap.size, 0, none⟩ = some (.bool fin) := (blk_cell HX6.out.box 0).trans rfl
  have b1 : W6.cell? ⟨w.heap.size, 1, none⟩ = some (.int .u8 op) := (blk_cell HX6.out.box 1).trans rfl
  have b2 : W6.cell? ⟨w.heap.size, 2, none⟩ = some (.bool mask) := (blk_cell HX6.out.box 2).trans rfl
  have b3 : W6.cell? ⟨w.heap.size, 3, none⟩ = some (.int .u32 key) := (blk_cell HX6.out.box 3).trans rfl
  have b4 : W6.cell? ⟨w.heap.size, 4, none⟩ = some (.slice A d.length cA) := (blk_cell HX6.out.box 4).trans rfl
  have bl := blk_lt HX6.out.box
  have q0 : W6.cell? ⟨g, 0, none⟩ = some (.bool fin) := (blk_cell Hq6.out 0).trans rfl
  have q1 : W6.cell? ⟨g, 1, none⟩ = some (.int .u8 op) := (blk_cell Hq6.out 1).trans rfl
  have q2 : W6.cell? ⟨g, 2, none⟩ = some (.bool mask) := (blk_cell Hq6.out 2).trans rfl
  have q3 : W6.cell? ⟨g, 3, none⟩ = some (.int .u32 key) := (blk_cell Hq6.out 3).trans rfl
  have q4 : W6.cell? ⟨g, 4, none⟩ = some (.slice Aq d.length cq) := (blk_cell Hq6.out 4).trans rfl
  have ql := blk_lt Hq6.out
  have d0 : W6.cell? ⟨g + 1, 0, none⟩ = some (.int .u8 0) := (blk_cell Hb6.out 0).trans rfl
  have d1 : W6.cell? ⟨g + 1, 1, none⟩ = some (.int .u32 0) := (blk_cell Hb6.out 1).trans rfl
  have dl := blk_lt Hb6.out
  have hcv : (convert 23 9 (.slice Ab L.length cb)).run Tryd.prog W6 = .ok (.string (strOfNums L)) W6 := own_string (P := Tryd.prog) Tryd.underlying23 Tryd.underlying5 Tryd.underlying9 (Kd.own_of_R HX6.out.row)
  go_wp2_with fail
  clear hcv
  clear b0 b1 b2 b3 b4 bl q0 q1 q2 q3 q4 ql d0 d1 dl
  refine (louverlaw16_fixed.calls true _ rfl).mono ?_
  rintro e w7 ⟨rfl, hb⟩
  have HX7 := Aside0.mk (HX6.out.below hb)
  have HQ7 := Aside0.mk (Kd.C_below HQ6.out hb)
  have Hq7 := Aside0.mk (blk_below Hq6.out hb)
  have Hb7 := Aside0.mk (blk_below Hb6.out hb)
  clear hb HX6 HQ6 Hq6 Hb6
  have b0 : w7.cell? ⟨w.heap.size, 0, none⟩ = some (.bool fin) := (blk_cell HX7.out.box 0).trans rfl
  have b1 : w7.cell? ⟨w.heap.size, 1, none⟩ = some (.int .u8 op) := (blk_cell HX7.out.box 1).trans rfl
  have b2 : w7.cell? ⟨w.heap.size, 2, none⟩ = some (.bool mask) := (blk_cell HX7.out.box 2).trans rfl
  have b3 : w7.cell? ⟨w.heap.size, 3, none⟩ = some (.int .u32 key) := (blk_cell HX7.out.box 3).trans rfl
  have b4 : w7.cell? ⟨w.heap.size, 4, none⟩ = some (.slice A d.length cA) := (blk_cell HX7.out.box 4).trans rfl
  have bl := blk_lt HX7.out.box
  have q0 : w7.cell? ⟨g, 0, none⟩ = some (.bool fin) := (blk_cell Hq7.out 0).trans rfl
  have q1 : w7.cell? ⟨g, 1, none⟩ = some (.int .u8 op) := (blk_cell Hq7.out 1).trans rfl
  have q2 : w7.cell? ⟨g, 2, none⟩ = some (.bool mask) := (blk_cell Hq7.out 2).trans rfl
  have q3 : w7.cell? ⟨g, 3, none⟩ = some (.int .u32 key) := (blk_cell Hq7.out 3).trans rfl
  have q4 : w7.cell? ⟨g, 4, none⟩ = some (.slice Aq d.length cq) := (blk_cell Hq7.out 4).trans rfl
  have ql := blk_lt Hq7.out
  have d0 : w7.cell? ⟨g + 1, 0, none⟩ = some (.int .u8 0) := (blk_cell Hb7.out 0).trans rfl
  have d1 : w7.cell? ⟨g + 1, 1, none⟩ = some (.int .u32 0) := (blk_cell Hb7.out 1).trans rfl
  have dl := blk_lt Hb7.out
  go_wp2_with fail
  clear b0 b1 b2 b3 b4 bl q0 q1 q2 q3 q4 ql d0 d1 dl
  refine (louverref16_Same.calls fin op mask key A cA d fin op mask key Aq cq d true _ (Kd.C_below HC.out HX7.out.bel) hl HQ7.out hcq HS.out).mono ?_
  rintro e w8 ⟨rfl, hb⟩
  have HB := Aside0.mk (HX7.out.below hb).bel
  clear hb
  go_wp2_with fail
  go_ret
  exact ⟨rfl, HB.out⟩
set_option maxHeartbeats 8000000 in
set_option maxRecDepth 100000 in
theorem Puts_other (fin : Bool) (op : Int) (mask : Bool) (key : Int) (A : Option Addr) (d : List Int) (cA : Nat) (m : Bool) (w : World) (hg : Cond w) (hC : Kd.C (Kd.int .u8) w A d.length d) (hl : d.length ≤ cA) (L : List Int) (hn : (d.length : Int) ≤ 9000) (HP : Aside0 (wsframe_Put.f 20000 fin op mask key d = some L)) (HM : Aside0 (wsframe_May.f 20000 fin op mask key d = some true)) (HRM : Aside0 (louverref16_May.f fin op mask key d = some true)) (HRP : Aside0 (louverref16_Put.f 20000 fin op mask key d = some (strOfNums L))) (HGT : Aside0 (wsframe_Get.f 20000 L m = some (false, 0, false, 0, [], 3, 1002))) (hm1 : (m != mask) = true) (hm2 : (m == mask) = false) (hm3 : ¬ m = mask) : Calls Tryd.prog 5 #[.agg #[.bool fin, .int .u8 op, .bool mask, .int .u32 key, .slice A d.length cA], .bool m] w fun e w' => e = .returned (.bool true) ∧ Below w.heap.size w w' := by
  have HG := Aside0.mk hg
  have HC := Aside0.mk hC
  clear hg hC
  have hu37 := Tryd.underlying37
  have hu26 := Tryd.underlying26
  have t0 : decide (9000 < (d.length : Int)) = false := decide_eq_false (by omega)
  have t1 : ¬ 9000 < d.length := by omega
  go_enter Tryd.func5, Tryd.ntmps5
  go_wp2_with fail
  refine (wsframe_Put.calls 20000 fin op mask key A cA d L _ (Kd.C_below HC.out (below_alloc (Below.refl _ _) _)) hl HP.out).mono ?_
  rintro e w1 ⟨vb, rfl, ho, hb⟩
  obtain ⟨Ab, cb, rfl⟩ := Kd.R_slice ho
  have HX1 : Aside0 (Pt fin op mask key A d cA Ab cb L w w1) := ⟨⟨below_step (below_alloc (Below.refl w.heap.size w) _) hb, blk_below (last_at _ _ _ rfl) hb, Kd.R_lower ho (by simp)⟩⟩
  clear ho hb
  have b0 : w1.cell? ⟨w.heap.size, 0, none⟩ = some (.bool fin) := (blk_cell HX1.out.box 0).trans rfl
  have b1 : w1.cell? ⟨w.heap.size, 1, none⟩ = some (.int .u8 op) := (blk_cell HX1.out.box 1).trans rfl
  have b2 : w1.cell? ⟨w.heap.size, 2, none⟩ = some (.bool mask) := (blk_cell HX1.out.box 2).trans rfl
  have b3 : w1.cell? ⟨w.heap.size, 3, none⟩ = some (.int .u32 key) := (blk_cell HX1.out.box 3).trans rfl
  have b4 : w1.cell? ⟨w.heap.size, 4, none⟩ = some (.slice A d.length cA) := (blk_cell HX1.out.box 4).trans rfl
  have bl := blk_lt HX1.out.box
  go_wp2_with fail
  clear b0 b1 b2 b3 b4 bl
  refine wp_region_noPanic ?_
  refine wp_region_held_drew (S := fun w' => Aside0 (Pt fin op mask key A d cA Ab cb L w w') ∧ w'.cell? ⟨w.heap.size, 0, none⟩ = some (.bool fin) ∧ w'.cell? ⟨w.heap.size, 1, none⟩ = some (.int .u8 op) ∧ w'.cell? ⟨w.heap.size, 2, none⟩ = some (.bool mask) ∧ w'.cell? ⟨w.heap.size, 3, none⟩ = some (.int .u32 key) ∧ w'.cell? ⟨w.heap.size, 4, none⟩ = some (.slice A d.length cA)) (by kernel_rfl) (Pt.S (HX1.out.below (below_drew (Below.refl _ _)))) (fun hHeld => ?_)
  refine takeN (i := 0) (N := (some 16)) (v := ?v7) (a' := ?a7) rfl rfl (by kernel_rfl) (by kernel_rfl) (by kernel_rfl) (fun _ _ _ h => h) (Or.inl ⟨by rfl, ?hy7⟩) ?ha7 (by assumption) ?rest7
  case hy7 =>
    intro w_ hSw_
    go_simp
    first | done | (with_reducible rfl)
  case ha7 =>
    simp only [Act.put, List.setIfInBounds_toArray, List.set_cons_zero, List.set_cons_succ]
    rfl
  refine takeN (i := 2) (N := (some 18)) (v := ?v8) (a' := ?a8) rfl rfl (by kernel_rfl) (by kernel_rfl) (by kernel_rfl) (fun _ _ _ h => h) (Or.inl ⟨by rfl, ?hy8⟩) ?ha8 (by assumption) ?rest8
  case hy8 =>
    intro w_ hSw_
    go_simp
    first | done | (with_reducible rfl)
  case ha8 =>
    simp only [Act.put, List.setIfInBounds_toArray, List.set_cons_zero, List.set_cons_succ]
    rfl
  refine wpAnyH_ready (rs := [1]) (by kernel_rfl) (by simp) ?_
  refine AllReadyH.cons rfl (fun K hK => ?_) AllReadyH.nil
  go_simp
  go_at_call 13
  with_reducible refine (wsframe_May.calls 20000 fin op mask key A cA d true _ (Kd.C_below HC.out hHeld.1.out.bel) hl HM.out).mono ?_
  rintro e w' ⟨rfl, hb⟩
  refine hK.out _ _ (Pt.S (hHeld.1.out.below hb)) (fun hHeld => ?_)
  clear hK K
  try simp only [Act.put, List.setIfInBounds_toArray, List.set_cons_zero, List.set_cons_succ]
  refine wpAnyH_ready (rs := [3]) (by kernel_rfl) (by simp) ?_
  refine AllReadyH.cons rfl (fun K hK => ?_) AllReadyH.nil
  go_simp
  go_at_call 14
  with_reducible refine (louverref16_May.calls fin op mask key A cA d true _ (Kd.C_below HC.out hHeld.1.out.bel) hl HRM.out).mono ?_
  rintro e w' ⟨rfl, hb⟩
  refine hK.out _ _ (Pt.S (hHeld.1.out.below hb)) (fun hHeld => ?_)
  clear hK K
  try simp only [Act.put, List.setIfInBounds_toArray, List.set_cons_zero, List.set_cons_succ]
  refine takeN (i := 4) (N := (some 20)) (v := ?v9) (a' := ?a9) rfl rfl (by kernel_rfl) (by kernel_rfl) (by kernel_rfl) (fun _ _ _ h => h) (Or.inl ⟨by rfl, ?hy9⟩) ?ha9 (by assumption) ?rest9
  case hy9 =>
    intro w_ hSw_
    go_simp
    first | done | (with_reducible rfl)
  case ha9 =>
    simp only [Act.put, List.setIfInBounds_toArray, List.set_cons_zero, List.set_cons_succ]
    rfl
  refine wpAnyH_done (by kernel_rfl) ?_ _
  refine NoPanic.normal ?_
  have HX2 := Aside0.mk hHeld.1.out
  clear hHeld HX1
  have b0 : w'.cell? ⟨w.heap.size, 0, none⟩ = some (.bool fin) := (blk_cell HX2.out.box 0).trans rfl
  have b1 : w'.cell? ⟨w.heap.size, 1, none⟩ = some (.int .u8 op) := (blk_cell HX2.out.box 1).trans rfl
  have b2 : w'.cell? ⟨w.heap.size, 2, none⟩ = some (.bool mask) := (blk_cell HX2.out.box 2).trans rfl
  have b3 : w'.cell? ⟨w.heap.size, 3, none⟩ = some (.int .u32 key) := (blk_cell HX2.out.box 3).trans rfl
  have b4 : w'.cell? ⟨w.heap.size, 4, none⟩ = some (.slice A d.length cA) := (blk_cell HX2.out.box 4).trans rfl
  have bl := blk_lt HX2.out.box
  go_wp2_with fail
  clear b0 b1 b2 b3 b4 bl
  refine (louverref16_May.calls fin op mask key A cA d true _ (Kd.C_below HC.out HX2.out.bel) hl HRM.out).mono ?_
  rintro e w3 ⟨rfl, hb⟩
  have HX3 := Aside0.mk (HX2.out.below hb)
  clear hb HX2
  have b0 : w3.cell? ⟨w.heap.size, 0, none⟩ = some (.bool fin) := (blk_cell HX3.out.box 0).trans rfl
  have b1 : w3.cell? ⟨w.heap.size, 1, none⟩ = some (.int .u8 op) := (blk_cell HX3.out.box 1).trans rfl
  have b2 : w3.cell? ⟨w.heap.size, 2, none⟩ = some (.bool mask) := (blk_cell HX3.out.box 2).trans rfl
  have b3 : w3.cell? ⟨w.heap.size, 3, none⟩ = some (.int .u32 key) := (blk_cell HX3.out.box 3).trans rfl
  have b4 : w3.cell? ⟨w.heap.size, 4, none⟩ = some (.slice A d.length cA) := (blk_cell HX3.out.box 4).trans rfl
  have bl := blk_lt HX3.out.box
  go_wp2_with fail
  clear b0 b1 b2 b3 b4 bl
  refine (louverref16_Put.calls 20000 fin op mask key A cA d (strOfNums L) _ (Kd.C_below HC.out HX3.out.bel) hl HRP.out).mono ?_
  rintro e w4 ⟨rfl, hb⟩
  have HX4 := Aside0.mk (HX3.out.below hb)
  clear hb HX3
  go_wp2_with fail
  refine (wsframe_Get.calls 20000 Ab cb L _ false 0 false 0 [] 3 1002 _ (Kd.R_reads' HX4.out.row).2.2 (Kd.R_reads' HX4.out.row).2.1 HGT.out (HG.out.below HX4.out.bel)).mono ?_
  rintro e w5 ⟨vq, rfl, hq, hb⟩
  obtain ⟨Aq, cq, rfl⟩ := Kd.R_slice hq
  have HX5 := Aside0.mk (HX4.out.below hb)
  have HQ := Aside0.mk (Kd.C_below (Kd.R_reads' hq).2.2 (Below.refl _ _))
  have hcq := (Kd.R_reads' hq).2.1
  clear hq hb HX4
  go_upto_region 10 with fail
  have HX6 := HX5.out.below (below_alloc (below_alloc (Below.refl _ _) (.cells #[.bool false, .int .u8 0, .bool false, .int .u32 0, .slice Aq 0 cq] 37)) (.cells #[.int .u8 3, .int .u32 1002] 26))
  have hQ6 := Kd.C_below HQ.out (below_alloc (below_alloc (Below.refl _ _) (.cells #[.bool false, .int .u8 0, .bool false, .int .u32 0, .slice Aq 0 cq] 37)) (.cells #[.int .u8 3, .int .u32 1002] 26))
  have hq6 : ((w5.alloc (.cells #[.bool false, .int .u8 0, .bool false, .int .u32 0, .slice Aq 0 cq] 37)).alloc (.cells #[.int .u8 3, .int .u32 1002] 26)).heap[w5.heap.size]? = some (.cells #[.bool false, .int .u8 0, .bool false, .int .u32 0, .slice Aq 0 cq] 37 (0, 0)) := blk_alloc (last_at _ _ _ rfl) _
  have hb6 : ((w5.alloc (.cells #[.bool false, .int .u8 0, .bool false, .int .u32 0, .slice Aq 0 cq] 37)).alloc (.cells #[.int .u8 3, .int .u32 1002] 26)).heap[w5.heap.size + 1]? = some (.cells #[.int .u8 3, .int .u32 1002] 26 (0, 0)) := last_at _ _ _ (by simp)
  generalize (w5.alloc (.cells #[.bool false, .int .u8 0, .bool false, .int .u32 0, .slice Aq 0 cq] 37)).alloc (.cells #[.int .u8 3, .int .u32 1002] 26) = W6 at HX6 hQ6 hq6 hb6 ⊢
  generalize w5.heap.size = g at hq6 hb6 ⊢
  clear HX5 HQ
  have HX6 := Aside0.mk HX6
  have HQ6 := Aside0.mk hQ6
  have Hq6 := Aside0.mk hq6
  have Hb6 := Aside0.mk hb6
  clear hQ6 hq6 hb6
  have b0 : W6.cell? ⟨w.heap.size, 0, none⟩ = some (.bool fin) := (blk_cell HX6.out.box 0).trans rfl
  have b1 : W6.cell? ⟨w.heap.size, 1, none⟩ = some (.int .u8 op) := (blk_cell HX6.out.box 1).trans rfl
  have b2 : W6.cell? ⟨w.heap.size, 2, none⟩ = some (.bool mask) := (blk_cell HX6.out.box 2).trans rfl
  have b3 : W6.cell? ⟨w.heap.size, 3, none⟩ = some (.int .u32 key) := (blk_cell HX6.out.box 3).trans rfl
  have b4 : W6.cell? ⟨w.heap.size, 4, none⟩ = some (.slice A d.length cA) := (blk_cell HX6.out.box 4).trans rfl
  have bl := blk_lt HX6.out.box
  have q0 : W6.cell? ⟨g, 0, none⟩ = some (.bool false) := (blk_cell Hq6.out 0).trans rfl
  have q1 : W6.cell? ⟨g, 1, none⟩ = some (.int .u8 0) := (blk_cell Hq6.out 1).trans rfl
  have q2 : W6.cell? ⟨g, 2, none⟩ = some (.bool false) := (blk_cell Hq6.out 2).trans rfl
  have q3 : W6.cell? ⟨g, 3, none⟩ = some (.int .u32 0) := (blk_cell Hq6.out 3).trans rfl
  have q4 : W6.cell? ⟨g, 4, none⟩ = some (.slice Aq 0 cq) := (blk_cell Hq6.out 4).trans rfl
  have ql := blk_lt Hq6.out
  have d0 : W6.cell? ⟨g + 1, 0, none⟩ = some (.int .u8 3) := (blk_cell Hb6.out 0).trans rfl
  have d1 : W6.cell? ⟨g + 1, 1, none⟩ = some (.int .u32 1002) := (blk_cell Hb6.out 1).trans rfl
  have dl := blk_lt Hb6.out
  have hcv : (convert 23 9 (.slice Ab L.length cb)).run Tryd.prog W6 = .ok (.string (strOfNums L)) W6 := own_string (P := Tryd.prog) Tryd.underlying23 Tryd.underlying5 Tryd.underlying9 (Kd.own_of_R HX6.out.row)
  go_wp2_with fail
  clear hcv
  clear b0 b1 b2 b3 b4 bl q0 q1 q2 q3 q4 ql d0 d1 dl
  refine wp_region_noPanic ?_
  refine wp_region_held_drew (S := fun w' => Aside0 (Below w.heap.size w w' ∧ w'.heap[g + 1]? = some (.cells #[.int .u8 3, .int .u32 1002] 26 (0, 0))) ∧ w'.cell? ⟨g + 1, 0, none⟩ = some (.int .u8 3) ∧ w'.cell? ⟨g + 1, 1, none⟩ = some (.int .u32 1002)) (by kernel_rfl) (⟨⟨below_step HX6.out.bel (below_drew (Below.refl _ _)), blk_drew Hb6.out⟩, (blk_cell (blk_drew Hb6.out) 0).trans rfl, (blk_cell (blk_drew Hb6.out) 1).trans rfl⟩) (fun hHeld => ?_)
  refine wpAnyH_ready (rs := [0]) (by kernel_rfl) (by simp) ?_
  refine AllReadyH.cons rfl (fun K hK => ?_) AllReadyH.nil
  go_simp
  go_at_call 10
  with_reducible refine (louverlaw16_fixed.calls true _ rfl).mono ?_
  rintro e w' ⟨rfl, hb⟩
  refine hK.out _ _ (⟨⟨below_step hHeld.1.out.1 hb, blk_below hHeld.1.out.2 hb⟩, (blk_cell (blk_below hHeld.1.out.2 hb) 0).trans rfl, (blk_cell (blk_below hHeld.1.out.2 hb) 1).trans rfl⟩) (fun hHeld => ?_)
  clear hK K
  try simp only [Act.put, List.setIfInBounds_toArray, List.set_cons_zero, List.set_cons_succ]
  refine takeN (i := 1) (N := (some 47)) (v := ?v10) (a' := ?a10) rfl rfl (by kernel_rfl) (by kernel_rfl) (by kernel_rfl) (fun _ _ _ h => h) (Or.inl ⟨by rfl, ?hy10⟩) ?ha10 (by assumption) ?rest10
  case hy10 =>
    intro w_ hSw_
    go_simp
    first | done | (with_reducible rfl)
  case ha10 =>
    simp only [Act.put, List.setIfInBounds_toArray, List.set_cons_zero, List.set_cons_succ]
    rfl
  refine takeN (i := 2) (N := (some 48)) (v := ?v11) (a' := ?a11) rfl rfl (by kernel_rfl) (by kernel_rfl) (by kernel_rfl) (fun _ _ _ h => h) (Or.inl ⟨by rfl, ?hy11⟩) ?ha11 (by assumption) ?rest11
  case hy11 =>
    intro w_ hSw_
    go_simp
    first | done | (with_reducible rfl)
  case ha11 =>
    simp only [Act.put, List.setIfInBounds_toArray, List.set_cons_zero, List.set_cons_succ]
    rfl
  refine wpAnyH_ready (rs := [3]) (by kernel_rfl) (by simp) ?_
  refine AllReadyH.cons rfl (fun K hK => ?_) AllReadyH.nil
  go_simp
  go_at_call 11
  with_reducible refine (louverlaw16_told.calls 1002 3 1002 _ rfl).mono ?_
  rintro e w' ⟨rfl, hb⟩
  refine hK.out _ _ (⟨⟨below_step hHeld.1.out.1 hb, blk_below hHeld.1.out.2 hb⟩, (blk_cell (blk_below hHeld.1.out.2 hb) 0).trans rfl, (blk_cell (blk_below hHeld.1.out.2 hb) 1).trans rfl⟩) (fun hHeld => ?_)
  clear hK K
  try simp only [Act.put, List.setIfInBounds_toArray, List.set_cons_zero, List.set_cons_succ]
  refine takeN (i := 4) (N := (some 50)) (v := ?v12) (a' := ?a12) rfl rfl (by kernel_rfl) (by kernel_rfl) (by kernel_rfl) (fun _ _ _ h => h) (Or.inl ⟨by rfl, ?hy12⟩) ?ha12 (by assumption) ?rest12
  case hy12 =>
    intro w_ hSw_
    go_simp
    first | done | (with_reducible rfl)
  case ha12 =>
    simp only [Act.put, List.setIfInBounds_toArray, List.set_cons_zero, List.set_cons_succ]
    rfl
  refine takeN (i := 5) (N := (some 51)) (v := ?v13) (a' := ?a13) rfl rfl (by kernel_rfl) (by kernel_rfl) (by kernel_rfl) (fun _ _ _ h => h) (Or.inl ⟨by rfl, ?hy13⟩) ?ha13 (by assumption) ?rest13
  case hy13 =>
    intro w_ hSw_
    go_simp
    first | done | (with_reducible rfl)
  case ha13 =>
    simp only [Act.put, List.setIfInBounds_toArray, List.set_cons_zero, List.set_cons_succ]
    rfl
  refine takeN (i := 6) (N := (some 4)) (v := ?v14) (a' := ?a14) rfl rfl (by kernel_rfl) (by kernel_rfl) (by kernel_rfl) (fun _ _ _ h => h) (Or.inl ⟨by rfl, ?hy14⟩) ?ha14 (by assumption) ?rest14
  case hy14 =>
    intro w_ hSw_
    go_simp
    first | done | (with_reducible rfl)
  case ha14 =>
    simp only [Act.put, List.setIfInBounds_toArray, List.set_cons_zero, List.set_cons_succ]
    rfl
  refine wpAnyH_done (by kernel_rfl) ?_ _
  refine NoPanic.normal ?_
  have HB := Aside0.mk hHeld.1.out.1
  clear hHeld
  go_wp2_with fail
  go_ret
  exact ⟨rfl, HB.out⟩
theorem wf8 {x : Int} (h : (Lit.int .u8 x).wf = true) : 0 ≤ x ∧ x ≤ 255 := by simpa [Lit.wf, IntKind.min, IntKind.max, IntKind.signed, IntKind.bits] using h
theorem wf32 {x : Int} (h : (Lit.int .u32 x).wf = true) : 0 ≤ x ∧ x ≤ 4294967295 := by simpa [Lit.wf, IntKind.min, IntKind.max, IntKind.signed, IntKind.bits] using h
theorem same_f (fin : Bool) (op : Int) (mask : Bool) (key : Int) (d : List Int) : louverref16_Same.f fin op mask key d fin op mask key d = some true := by
  unfold louverref16_Same.f
  simp
theorem Pure.WsframePuts : Says.WsframePuts := by
  intro cs x m w r0 o0 hg
  obtain ⟨A, cA, rfl, hl, hC⟩ := k37_open r0
  obtain ⟨_, w1, _, w3, w4, _, _⟩ := o0
  have h1 := wf8 w1
  have h3 := wf32 w3
  have hd : ∀ y ∈ x.f4, Byte y := fun y hy => wf8 (w4 y hy)
  by_cases hn : 9000 < (x.f4.length : Int)
  · exact Puts_great _ _ _ _ A _ cA m w hg hC hl hn
  · have hn2 : (x.f4.length : Int) ≤ 9000 := by omega
    cases hM : mayB x.f0 x.f1 x.f2 x.f3 x.f4
    · exact Puts_no _ _ _ _ A _ cA m w hg hC hl [] hn2 ⟨put_none _ _ _ _ _ hM _ (by omega)⟩ ⟨hM ▸ wmay_f _ (by omega) _ _ _ _ _⟩ ⟨hM ▸ rmay_f _ _ _ _ _⟩ rfl
    · have hP : wsframe_Put.f 20000 x.f0 x.f1 x.f2 x.f3 x.f4 = some (putL x.f0 x.f1 x.f2 x.f3 x.f4) := put_f _ _ _ _ _ h1.1 hM _ (by omega)
      have hR : louverref16_Put.f 20000 x.f0 x.f1 x.f2 x.f3 x.f4 = some (strOfNums (putL x.f0 x.f1 x.f2 x.f3 x.f4)) := refPut_f _ _ _ _ _ hd h1.1 h3.1 h3.2 hM _ (by omega)
      have m1 : wsframe_May.f 20000 x.f0 x.f1 x.f2 x.f3 x.f4 = some true := hM ▸ wmay_f _ (by omega) _ _ _ _ _
      have m2 : louverref16_May.f x.f0 x.f1 x.f2 x.f3 x.f4 = some true := hM ▸ rmay_f _ _ _ _ _
      by_cases hmm : m = x.f2
      · subst hmm
        exact Puts_same _ _ _ _ A _ cA _ w hg hC hl _ hn2 ⟨hP⟩ ⟨m1⟩ ⟨m2⟩ ⟨hR⟩ ⟨get_put h1.1 hd hM h3.1 h3.2 _ (by omega)⟩ rfl ⟨same_f _ _ _ _ _⟩
      · exact Puts_other _ _ _ _ A _ cA m w hg hC hl _ hn2 ⟨hP⟩ ⟨m1⟩ ⟨m2⟩ ⟨hR⟩ ⟨get_other h1.1 hd hM m hmm _⟩ (by simpa using hmm) (by simpa using hmm) hmm
end Go.Proofs.YtabpngcjlikpkaaDoor
