import Derived.Test.YtabpngcjlikpkaaDoorSaysWsframeKeys
import Derived.Test.YtabpngcjlikpkaaDoorPutHead
import Derived.Test.YtabpngcjlikpkaaDoorPAllx6
namespace Go.Proofs.YtabpngcjlikpkaaDoor
open Go.RowKit Go.Proofs.YtabpngcjlikpkaaDoorW.PrintWords Go.Proofs.YtabpngcjlikpkaaDoorW.PrintLast Go.Proofs.YtabpngcjlikpkaaDoorW.PrintMore Go.Proofs.YtabpngcjlikpkaaDoor.PAll
set_option linter.unusedVariables false
set_option maxHeartbeats 8000000 in
set_option maxRecDepth 100000 in
theorem Keys_great (fin : Bool) (op : Int) (mask : Bool) (key : Int) (A : Option Addr) (d : List Int) (cA : Nat) (a b : Int) (w : World) (hg : Cond w) (hC : Kd.C (Kd.int .u8) w A d.length d) (hl : d.length ≤ cA) (hn : 9000 < (d.length : Int)) : Calls Tryd.prog 6 #[.agg #[.bool fin, .int .u8 op, .bool mask, .int .u32 key, .slice A d.length cA], .int .u32 a, .int .u32 b] w fun e w' => e = .returned (.bool true) ∧ Below w.heap.size w w' := by
  have HG := Aside0.mk hg
  have HC := Aside0.mk hC
  clear hg hC
  have hu37 := Tryd.underlying37
  have hu26 := Tryd.underlying26
  have t0 : decide (9000 < (d.length : Int)) = true := decide_eq_true hn
  have t1 : 9000 < d.length := by omega
  go_enter Tryd.func6, Tryd.ntmps6
  go_wp2_with fail
  refine (louverlaw16_fixed.calls true _ rfl).mono ?_
  rintro e w1 ⟨rfl, hb⟩
  have HB := Aside0.mk (below_step (below_alloc (Below.refl w.heap.size w) (.cells #[.bool fin, .int .u8 op, .bool mask, .int .u32 key, .slice A d.length cA] 37)) hb)
  clear hb
  go_wp2_with fail
  go_ret
  exact ⟨rfl, HB.out⟩
set_option maxHeartbeats 8000000 in
set_option maxRecDepth 100000 in
theorem Keys_no (fin : Bool) (op : Int) (mask : Bool) (key : Int) (A : Option Addr) (d : List Int) (cA : Nat) (a b : Int) (w : World) (hg : Cond w) (hC : Kd.C (Kd.int .u8) w A d.length d) (hl : d.length ≤ cA) (X : List Int) (hn : (d.length : Int) ≤ 9000) (HPX : Aside0 (wsframe_Put.f 20000 fin op false 0 d = some X)) (HRM : Aside0 (louverref16_May.f fin op false 0 d = some false)) (z0 : ((X.length : Int) == 0) = true) : Calls Tryd.prog 6 #[.agg #[.bool fin, .int .u8 op, .bool mask, .int .u32 key, .slice A d.length cA], .int .u32 a, .int .u32 b] w fun e w' => e = .returned (.bool true) ∧ Below w.heap.size w w' := by
  have HG := Aside0.mk hg
  have HC := Aside0.mk hC
  clear hg hC
  have hu37 := Tryd.underlying37
  have hu26 := Tryd.underlying26
  have t0 : decide (9000 < (d.length : Int)) = false := decide_eq_false (by omega)
  have t1 : ¬ 9000 < d.length := by omega
  go_enter Tryd.func6, Tryd.ntmps6
  go_wp2_with fail
  have HBo := Aside0.mk (below_alloc (Below.refl w.heap.size w) (.cells #[.bool fin, .int .u8 op, .bool false, .int .u32 0, .slice A d.length cA] 37))
  refine (wsframe_Put.calls 20000 fin op false 0 A cA d X _ (Kd.C_below HC.out HBo.out) hl HPX.out).mono ?_
  rintro e w1 ⟨vX, rfl, ho, hb⟩
  have HB1 := Aside0.mk (below_step HBo.out hb)
  have HK1 : Aside0 (w1.heap[w.heap.size]? = some (.cells #[.bool fin, .int .u8 op, .bool false, .int .u32 0, .slice A d.length cA] 37 (0, 0))) := ⟨blk_below (last_at _ _ _ rfl) hb⟩
  have hRX := Kd.R_types (Kd.R_lower ho (show w.heap.size ≤ _ from by first | exact HBo.out.size | (simp; done) | (have := HBo.out.size; simp; omega))) HK1.out (by intro q hq; simp [Kd.int, Kd.scalar] at hq; omega)
  obtain ⟨AX, cX, rfl⟩ := Kd.R_slice hRX
  have HRX1 := Aside0.mk hRX
  clear ho hb hRX HBo
  have b0 : w1.cell? ⟨w.heap.size, 0, none⟩ = some (.bool fin) := (blk_cell HK1.out 0).trans rfl
  have bf0 := blk_frozen HK1.out 0
  have b1 : w1.cell? ⟨w.heap.size, 1, none⟩ = some (.int .u8 op) := (blk_cell HK1.out 1).trans rfl
  have bf1 := blk_frozen HK1.out 1
  have b2 : w1.cell? ⟨w.heap.size, 2, none⟩ = some (.bool false) := (blk_cell HK1.out 2).trans rfl
  have bf2 := blk_frozen HK1.out 2
  have b3 : w1.cell? ⟨w.heap.size, 3, none⟩ = some (.int .u32 0) := (blk_cell HK1.out 3).trans rfl
  have bf3 := blk_frozen HK1.out 3
  have b4 : w1.cell? ⟨w.heap.size, 4, none⟩ = some (.slice A d.length cA) := (blk_cell HK1.out 4).trans rfl
  have bf4 := blk_frozen HK1.out 4
  have bl := blk_lt HK1.out
  go_wp2_with fail
  clear b0 bf0 b1 bf1 b2 bf2 b3 bf3 b4 bf4 bl
  refine (louverref16_May.calls fin op false 0 A cA d false _ (Kd.C_below HC.out HB1.out) hl HRM.out).mono ?_
  rintro e w2 ⟨rfl, hb⟩
  have hK2 : w2.heap[w.heap.size]? = some (.cells #[.bool fin, .int .u8 op, .bool false, .int .u32 0, .slice A d.length cA] 37 (0, 0)) := blk_below HK1.out hb
  have HB2 := Aside0.mk (below_step HB1.out hb)
  have HK2 := Aside0.mk hK2
  have HRX2 := Aside0.mk (Kd.R_below HRX1.out hb)
  clear hK2 HB1 HK1 HRX1
  clear hb
  have b0 : w2.cell? ⟨w.heap.size, 0, none⟩ = some (.bool fin) := (blk_cell HK2.out 0).trans rfl
  have bf0 := blk_frozen HK2.out 0
  have b1 : w2.cell? ⟨w.heap.size, 1, none⟩ = some (.int .u8 op) := (blk_cell HK2.out 1).trans rfl
  have bf1 := blk_frozen HK2.out 1
  have b2 : w2.cell? ⟨w.heap.size, 2, none⟩ = some (.bool false) := (blk_cell HK2.out 2).trans rfl
  have bf2 := blk_frozen HK2.out 2
  have b3 : w2.cell? ⟨w.heap.size, 3, none⟩ = some (.int .u32 0) := (blk_cell HK2.out 3).trans rfl
  have bf3 := blk_frozen HK2.out 3
  have b4 : w2.cell? ⟨w.heap.size, 4, none⟩ = some (.slice A d.length cA) := (blk_cell HK2.out 4).trans rfl
  have bf4 := blk_frozen HK2.out 4
  have bl := blk_lt HK2.out
  go_wp2_with fail
  clear b0 bf0 b1 bf1 b2 bf2 b3 bf3 b4 bf4 bl
  refine (louverlaw16_fixed.calls true _ rfl).mono ?_
  rintro e w3 ⟨rfl, hb⟩
  have HB3 := Aside0.mk (below_step HB2.out hb)
  clear hb
  go_wp2_with fail
  go_ret
  exact ⟨rfl, HB3.out⟩
set_option maxHeartbeats 8000000 in
set_option maxRecDepth 100000 in
theorem Keys_ok (fin : Bool) (op : Int) (mask : Bool) (key : Int) (A : Option Addr) (d : List Int) (cA : Nat) (a b : Int) (w : World) (hg : Cond w) (hC : Kd.C (Kd.int .u8) w A d.length d) (hl : d.length ≤ cA) (X : List Int) (hn : (d.length : Int) ≤ 9000) (HPX : Aside0 (wsframe_Put.f 20000 fin op false 0 d = some X)) (HRM : Aside0 (louverref16_May.f fin op false 0 d = some true)) (Y Z : List Int) (HPY : Aside0 (wsframe_Put.f 20000 fin op true a d = some Y)) (HGY : Aside0 (wsframe_Get.f 20000 Y true = some (fin, op, true, a, d, 0, 0))) (HPZ : Aside0 (wsframe_Put.f 20000 fin op true b d = some Z)) (HGZ : Aside0 (wsframe_Get.f 20000 Z true = some (fin, op, true, b, d, 0, 0))) (n1 : ((Z.length : Int) == (Y.length : Int)) = true) (n2 : (Z.length == Y.length) = true) (hab : (a != b) = true) (s : Int) (n3 : IntKind.i64.wrap ((X.length : Int) + 4) = s) (n4 : ((Y.length : Int) == s) = true) : Calls Tryd.prog 6 #[.agg #[.bool fin, .int .u8 op, .bool mask, .int .u32 key, .slice A d.length cA], .int .u32 a, .int .u32 b] w fun e w' => e = .returned (.bool true) ∧ Below w.heap.size w w' := by
  have HG := Aside0.mk hg
  have HC := Aside0.mk hC
  clear hg hC
  have hu37 := Tryd.underlying37
  have hu26 := Tryd.underlying26
  have t0 : decide (9000 < (d.length : Int)) = false := decide_eq_false (by omega)
  have t1 : ¬ 9000 < d.length := by omega
  go_enter Tryd.func6, Tryd.ntmps6
  go_wp2_with fail
  have HBo := Aside0.mk (below_alloc (Below.refl w.heap.size w) (.cells #[.bool fin, .int .u8 op, .bool false, .int .u32 0, .slice A d.length cA] 37))
  refine (wsframe_Put.calls 20000 fin op false 0 A cA d X _ (Kd.C_below HC.out HBo.out) hl HPX.out).mono ?_
  rintro e w1 ⟨vX, rfl, ho, hb⟩
  have HB1 := Aside0.mk (below_step HBo.out hb)
  have HK1 : Aside0 (w1.heap[w.heap.size]? = some (.cells #[.bool fin, .int .u8 op, .bool false, .int .u32 0, .slice A d.length cA] 37 (0, 0))) := ⟨blk_below (last_at _ _ _ rfl) hb⟩
  have hRX := Kd.R_types (Kd.R_lower ho (show w.heap.size ≤ _ from by first | exact HBo.out.size | (simp; done) | (have := HBo.out.size; simp; omega))) HK1.out (by intro q hq; simp [Kd.int, Kd.scalar] at hq; omega)
  obtain ⟨AX, cX, rfl⟩ := Kd.R_slice hRX
  have HRX1 := Aside0.mk hRX
  clear ho hb hRX HBo
  have b0 : w1.cell? ⟨w.heap.size, 0, none⟩ = some (.bool fin) := (blk_cell HK1.out 0).trans rfl
  have bf0 := blk_frozen HK1.out 0
  have b1 : w1.cell? ⟨w.heap.size, 1, none⟩ = some (.int .u8 op) := (blk_cell HK1.out 1).trans rfl
  have bf1 := blk_frozen HK1.out 1
  have b2 : w1.cell? ⟨w.heap.size, 2, none⟩ = some (.bool false) := (blk_cell HK1.out 2).trans rfl
  have bf2 := blk_frozen HK1.out 2
  have b3 : w1.cell? ⟨w.heap.size, 3, none⟩ = some (.int .u32 0) := (blk_cell HK1.out 3).trans rfl
  have bf3 := blk_frozen HK1.out 3
  have b4 : w1.cell? ⟨w.heap.size, 4, none⟩ = some (.slice A d.length cA) := (blk_cell HK1.out 4).trans rfl
  have bf4 := blk_frozen HK1.out 4
  have bl := blk_lt HK1.out
  go_wp2_with fail
  clear b0 bf0 b1 bf1 b2 bf2 b3 bf3 b4 bf4 bl
  refine (louverref16_May.calls fin op false 0 A cA d true _ (Kd.C_below HC.out HB1.out) hl HRM.out).mono ?_
  rintro e w2 ⟨rfl, hb⟩
  have hK2 : w2.heap[w.heap.size]? = some (.cells #[.bool fin, .int .u8 op, .bool false, .int .u32 0, .slice A d.length cA] 37 (0, 0)) := blk_below HK1.out hb
  have HB2 := Aside0.mk (below_step HB1.out hb)
  have HK2 := Aside0.mk hK2
  have HRX2 := Aside0.mk (Kd.R_below HRX1.out hb)
  clear hK2 HB1 HK1 HRX1
  clear hb
  have b0 : w2.cell? ⟨w.heap.size, 0, none⟩ = some (.bool fin) := (blk_cell HK2.out 0).trans rfl
  have bf0 := blk_frozen HK2.out 0
  have b1 : w2.cell? ⟨w.heap.size, 1, none⟩ = some (.int .u8 op) := (blk_cell HK2.out 1).trans rfl
  have bf1 := blk_frozen HK2.out 1
  have b2 : w2.cell? ⟨w.heap.size, 2, none⟩ = some (.bool false) := (blk_cell HK2.out 2).trans rfl
  have bf2 := blk_frozen HK2.out 2
  have b3 : w2.cell? ⟨w.heap.size, 3, none⟩ = some (.int .u32 0) := (blk_cell HK2.out 3).trans rfl
  have bf3 := blk_frozen HK2.out 3
  have b4 : w2.cell? ⟨w.heap.size, 4, none⟩ = some (.slice A d.length cA) := (blk_cell HK2.out 4).trans rfl
  have bf4 := blk_frozen HK2.out 4
  have bl := blk_lt HK2.out
  go_wp2_with fail
  clear b0 bf0 b1 bf1 b2 bf2 b3 bf3 b4 bf4 bl
  have hB3 : Below w.heap.size w ((w2.setCell ⟨w.heap.size, 2, none⟩ (.bool true)).setCell ⟨w.heap.size, 3, none⟩ (.int .u32 a)) := (Below.setCell (Below.setCell HB2.out (Nat.le_refl _) _) (Nat.le_refl _) _)
  have hK3 : ((w2.setCell ⟨w.heap.size, 2, none⟩ (.bool true)).setCell ⟨w.heap.size, 3, none⟩ (.int .u32 a)).heap[w.heap.size]? = some (.cells #[.bool fin, .int .u8 op, .bool true, .int .u32 a, .slice A d.length cA] 37 (0, 0)) := (blk_put (blk_put HK2.out 2 (.bool true) rfl) 3 (.int .u32 a) rfl)
  have hRX3 := (Kd.R_far (Kd.R_far HRX2.out (p := ⟨w.heap.size, 2, none⟩) (fun k hk => hk.2) (.bool true)) (p := ⟨w.heap.size, 3, none⟩) (fun k hk => hk.2) (.int .u32 a))
  generalize ((w2.setCell ⟨w.heap.size, 2, none⟩ (.bool true)).setCell ⟨w.heap.size, 3, none⟩ (.int .u32 a)) = w3 at hB3 hK3 hRX3 ⊢
  have HB3 := Aside0.mk hB3
  have HK3 := Aside0.mk hK3
  have HRX3 := Aside0.mk hRX3
  clear hB3 hK3 hRX3 HB2 HK2 HRX2
  have HBo := HB3
  refine (wsframe_Put.calls 20000 fin op true a A cA d Y _ (Kd.C_below HC.out HB3.out) hl HPY.out).mono ?_
  rintro e w4 ⟨vY, rfl, ho, hb⟩
  have hK4 : w4.heap[w.heap.size]? = some (.cells #[.bool fin, .int .u8 op, .bool true, .int .u32 a, .slice A d.length cA] 37 (0, 0)) := blk_below HK3.out hb
  have HB4 := Aside0.mk (below_step HB3.out hb)
  have HK4 := Aside0.mk hK4
  have HRX4 := Aside0.mk (Kd.R_below HRX3.out hb)
  clear hK4 HB3 HK3 HRX3
  have hRY := Kd.R_types (Kd.R_lower ho (show w.heap.size ≤ _ from by first | exact HBo.out.size | (simp; done) | (have := HBo.out.size; simp; omega))) HK4.out (by intro q hq; simp [Kd.int, Kd.scalar] at hq; omega)
  obtain ⟨AY, cY, rfl⟩ := Kd.R_slice hRY
  have HRY4 := Aside0.mk hRY
  clear ho hb hRY HBo
  have b0 : w4.cell? ⟨w.heap.size, 0, none⟩ = some (.bool fin) := (blk_cell HK4.out 0).trans rfl
  have bf0 := blk_frozen HK4.out 0
  have b1 : w4.cell? ⟨w.heap.size, 1, none⟩ = some (.int .u8 op) := (blk_cell HK4.out 1).trans rfl
  have bf1 := blk_frozen HK4.out 1
  have b2 : w4.cell? ⟨w.heap.size, 2, none⟩ = some (.bool true) := (blk_cell HK4.out 2).trans rfl
  have bf2 := blk_frozen HK4.out 2
  have b3 : w4.cell? ⟨w.heap.size, 3, none⟩ = some (.int .u32 a) := (blk_cell HK4.out 3).trans rfl
  have bf3 := blk_frozen HK4.out 3
  have b4 : w4.cell? ⟨w.heap.size, 4, none⟩ = some (.slice A d.length cA) := (blk_cell HK4.out 4).trans rfl
  have bf4 := blk_frozen HK4.out 4
  have bl := blk_lt HK4.out
  go_wp2_with fail
  clear b0 bf0 b1 bf1 b2 bf2 b3 bf3 b4 bf4 bl
  have hB5 : Below w.heap.size w (w4.setCell ⟨w.heap.size, 3, none⟩ (.int .u32 b)) := (Below.setCell HB4.out (Nat.le_refl _) _)
  have hK5 : (w4.setCell ⟨w.heap.size, 3, none⟩ (.int .u32 b)).heap[w.heap.size]? = some (.cells #[.bool fin, .int .u8 op, .bool true, .int .u32 b, .slice A d.length cA] 37 (0, 0)) := (blk_put HK4.out 3 (.int .u32 b) rfl)
  have hRX5 := (Kd.R_far HRX4.out (p := ⟨w.heap.size, 3, none⟩) (fun k hk => hk.2) (.int .u32 b))
  have hRY5 := (Kd.R_far HRY4.out (p := ⟨w.heap.size, 3, none⟩) (fun k hk => hk.2) (.int .u32 b))
  generalize (w4.setCell ⟨w.heap.size, 3, none⟩ (.int .u32 b)) = w5 at hB5 hK5 hRX5 hRY5 ⊢
  have HB5 := Aside0.mk hB5
  have HK5 := Aside0.mk hK5
  have HRX5 := Aside0.mk hRX5
  have HRY5 := Aside0.mk hRY5
  clear hB5 hK5 hRX5 hRY5 HB4 HK4 HRX4 HRY4
  have HBo := HB5
  refine (wsframe_Put.calls 20000 fin op true b A cA d Z _ (Kd.C_below HC.out HB5.out) hl HPZ.out).mono ?_
  rintro e w6 ⟨vZ, rfl, ho, hb⟩
  have hK6 : w6.heap[w.heap.size]? = some (.cells #[.bool fin, .int .u8 op, .bool true, .int .u32 b, .slice A d.length cA] 37 (0, 0)) := blk_below HK5.out hb
  have HB6 := Aside0.mk (below_step HB5.out hb)
  have HK6 := Aside0.mk hK6
  have HRX6 := Aside0.mk (Kd.R_below HRX5.out hb)
  have HRY6 := Aside0.mk (Kd.R_below HRY5.out hb)
  clear hK6 HB5 HK5 HRX5 HRY5
  have hRZ := Kd.R_types (Kd.R_lower ho (show w.heap.size ≤ _ from by first | exact HBo.out.size | (simp; done) | (have := HBo.out.size; simp; omega))) HK6.out (by intro q hq; simp [Kd.int, Kd.scalar] at hq; omega)
  obtain ⟨AZ, cZ, rfl⟩ := Kd.R_slice hRZ
  have HRZ6 := Aside0.mk hRZ
  clear ho hb hRZ HBo
  go_wp2_with fail
  refine (wsframe_Get.calls 20000 AY cY Y _ fin op true a d 0 0 _ (Kd.R_reads' HRY6.out).2.2 (Kd.R_reads' HRY6.out).2.1 HGY.out (HG.out.below HB6.out)).mono ?_
  rintro e w7 ⟨vq, rfl, hq, hb⟩
  obtain ⟨Aq7, cq7, rfl⟩ := Kd.R_slice hq
  have hK7 : w7.heap[w.heap.size]? = some (.cells #[.bool fin, .int .u8 op, .bool true, .int .u32 b, .slice A d.length cA] 37 (0, 0)) := blk_below HK6.out hb
  have HB7 := Aside0.mk (below_step HB6.out hb)
  have HK7 := Aside0.mk hK7
  have HRX7 := Aside0.mk (Kd.R_below HRX6.out hb)
  have HRY7 := Aside0.mk (Kd.R_below HRY6.out hb)
  have HRZ7 := Aside0.mk (Kd.R_below HRZ6.out hb)
  clear hK7 HB6 HK6 HRX6 HRY6 HRZ6
  go_wp2_with fail
  have hB8 : Below w.heap.size w ((w7.alloc (.cells #[.bool fin, .int .u8 op, .bool true, .int .u32 a, .slice Aq7 d.length cq7] 37)).alloc (.cells #[.int .u8 0, .int .u32 0] 26)) := below_step HB7.out (below_alloc (below_alloc (Below.refl _ _) (.cells #[.bool fin, .int .u8 op, .bool true, .int .u32 a, .slice Aq7 d.length cq7] 37)) (.cells #[.int .u8 0, .int .u32 0] 26))
  have hK8 : ((w7.alloc (.cells #[.bool fin, .int .u8 op, .bool true, .int .u32 a, .slice Aq7 d.length cq7] 37)).alloc (.cells #[.int .u8 0, .int .u32 0] 26)).heap[w.heap.size]? = some (.cells #[.bool fin, .int .u8 op, .bool true, .int .u32 b, .slice A d.length cA] 37 (0, 0)) := blk_below HK7.out (below_alloc (below_alloc (Below.refl _ _) (.cells #[.bool fin, .int .u8 op, .bool true, .int .u32 a, .slice Aq7 d.length cq7] 37)) (.cells #[.int .u8 0, .int .u32 0] 26))
  have hD7 : Kd.C (Kd.int .u8) ((w7.alloc (.cells #[.bool fin, .int .u8 op, .bool true, .int .u32 a, .slice Aq7 d.length cq7] 37)).alloc (.cells #[.int .u8 0, .int .u32 0] 26)) Aq7 d.length d := Kd.C_below (Kd.R_reads' hq).2.2 (below_alloc (below_alloc (Below.refl _ _) (.cells #[.bool fin, .int .u8 op, .bool true, .int .u32 a, .slice Aq7 d.length cq7] 37)) (.cells #[.int .u8 0, .int .u32 0] 26))
  have hq7 : ((w7.alloc (.cells #[.bool fin, .int .u8 op, .bool true, .int .u32 a, .slice Aq7 d.length cq7] 37)).alloc (.cells #[.int .u8 0, .int .u32 0] 26)).heap[w7.heap.size]? = some (.cells #[.bool fin, .int .u8 op, .bool true, .int .u32 a, .slice Aq7 d.length cq7] 37 (0, 0)) := blk_alloc (last_at _ _ _ rfl) _
  have hb7 : ((w7.alloc (.cells #[.bool fin, .int .u8 op, .bool true, .int .u32 a, .slice Aq7 d.length cq7] 37)).alloc (.cells #[.int .u8 0, .int .u32 0] 26)).heap[w7.heap.size + 1]? = some (.cells #[.int .u8 0, .int .u32 0] 26 (0, 0)) := last_at _ _ _ (by simp)
  have hRX8 := Kd.R_below HRX7.out (below_alloc (below_alloc (Below.refl _ _) (.cells #[.bool fin, .int .u8 op, .bool true, .int .u32 a, .slice Aq7 d.length cq7] 37)) (.cells #[.int .u8 0, .int .u32 0] 26))
  have hRY8 := Kd.R_below HRY7.out (below_alloc (below_alloc (Below.refl _ _) (.cells #[.bool fin, .int .u8 op, .bool true, .int .u32 a, .slice Aq7 d.length cq7] 37)) (.cells #[.int .u8 0, .int .u32 0] 26))
  have hRZ8 := Kd.R_below HRZ7.out (below_alloc (below_alloc (Below.refl _ _) (.cells #[.bool fin, .int .u8 op, .bool true, .int .u32 a, .slice Aq7 d.length cq7] 37)) (.cells #[.int .u8 0, .int .u32 0] 26))
  generalize ((w7.alloc (.cells #[.bool fin, .int .u8 op, .bool true, .int .u32 a, .slice Aq7 d.length cq7] 37)).alloc (.cells #[.int .u8 0, .int .u32 0] 26)) = w8 at hB8 hK8 hD7 hq7 hb7 hRX8 hRY8 hRZ8 ⊢
  generalize w7.heap.size = g7 at hq7 hb7 ⊢
  clear HB7 HK7 HRX7 HRY7 HRZ7 
  have HB8 := Aside0.mk hB8
  have HK8 := Aside0.mk hK8
  have HD7 := Aside0.mk hD7
  have Hq7 := Aside0.mk hq7
  have Hb7 := Aside0.mk hb7
  have HRX8 := Aside0.mk hRX8
  have HRY8 := Aside0.mk hRY8
  have HRZ8 := Aside0.mk hRZ8
  clear hB8 hK8 hD7 hq7 hb7 hRX8 hRY8 hRZ8 hq hb
  refine (wsframe_Get.calls 20000 AZ cZ Z _ fin op true b d 0 0 _ (Kd.R_reads' HRZ8.out).2.2 (Kd.R_reads' HRZ8.out).2.1 HGZ.out (HG.out.below HB8.out)).mono ?_
  rintro e w9 ⟨vq, rfl, hq, hb⟩
  obtain ⟨Aq9, cq9, rfl⟩ := Kd.R_slice hq
  have hK9 : w9.heap[w.heap.size]? = some (.cells #[.bool fin, .int .u8 op, .bool true, .int .u32 b, .slice A d.length cA] 37 (0, 0)) := blk_below HK8.out hb
  have HB9 := Aside0.mk (below_step HB8.out hb)
  have HK9 := Aside0.mk hK9
  have HRX9 := Aside0.mk (Kd.R_below HRX8.out hb)
  have HRY9 := Aside0.mk (Kd.R_below HRY8.out hb)
  have HRZ9 := Aside0.mk (Kd.R_below HRZ8.out hb)
  clear hK9 HB8 HK8 HRX8 HRY8 HRZ8
  have HD7b := Aside0.mk (Kd.C_below HD7.out hb)
  have Hq7b := Aside0.mk (blk_below Hq7.out hb)
  have Hb7b := Aside0.mk (blk_below Hb7.out hb)
  clear HD7 Hq7 Hb7
  go_upto_region 13 with fail
  have hB10 : Below w.heap.size w ((w9.alloc (.cells #[.bool fin, .int .u8 op, .bool true, .int .u32 b, .slice Aq9 d.length cq9] 37)).alloc (.cells #[.int .u8 0, .int .u32 0] 26)) := below_step HB9.out (below_alloc (below_alloc (Below.refl _ _) (.cells #[.bool fin, .int .u8 op, .bool true, .int .u32 b, .slice Aq9 d.length cq9] 37)) (.cells #[.int .u8 0, .int .u32 0] 26))
  have hK10 : ((w9.alloc (.cells #[.bool fin, .int .u8 op, .bool true, .int .u32 b, .slice Aq9 d.length cq9] 37)).alloc (.cells #[.int .u8 0, .int .u32 0] 26)).heap[w.heap.size]? = some (.cells #[.bool fin, .int .u8 op, .bool true, .int .u32 b, .slice A d.length cA] 37 (0, 0)) := blk_below HK9.out (below_alloc (below_alloc (Below.refl _ _) (.cells #[.bool fin, .int .u8 op, .bool true, .int .u32 b, .slice Aq9 d.length cq9] 37)) (.cells #[.int .u8 0, .int .u32 0] 26))
  have hD9 : Kd.C (Kd.int .u8) ((w9.alloc (.cells #[.bool fin, .int .u8 op, .bool true, .int .u32 b, .slice Aq9 d.length cq9] 37)).alloc (.cells #[.int .u8 0, .int .u32 0] 26)) Aq9 d.length d := Kd.C_below (Kd.R_reads' hq).2.2 (below_alloc (below_alloc (Below.refl _ _) (.cells #[.bool fin, .int .u8 op, .bool true, .int .u32 b, .slice Aq9 d.length cq9] 37)) (.cells #[.int .u8 0, .int .u32 0] 26))
  have hq9 : ((w9.alloc (.cells #[.bool fin, .int .u8 op, .bool true, .int .u32 b, .slice Aq9 d.length cq9] 37)).alloc (.cells #[.int .u8 0, .int .u32 0] 26)).heap[w9.heap.size]? = some (.cells #[.bool fin, .int .u8 op, .bool true, .int .u32 b, .slice Aq9 d.length cq9] 37 (0, 0)) := blk_alloc (last_at _ _ _ rfl) _
  have hb9 : ((w9.alloc (.cells #[.bool fin, .int .u8 op, .bool true, .int .u32 b, .slice Aq9 d.length cq9] 37)).alloc (.cells #[.int .u8 0, .int .u32 0] 26)).heap[w9.heap.size + 1]? = some (.cells #[.int .u8 0, .int .u32 0] 26 (0, 0)) := last_at _ _ _ (by simp)
  have hRX10 := Kd.R_below HRX9.out (below_alloc (below_alloc (Below.refl _ _) (.cells #[.bool fin, .int .u8 op, .bool true, .int .u32 b, .slice Aq9 d.length cq9] 37)) (.cells #[.int .u8 0, .int .u32 0] 26))
  have hRY10 := Kd.R_below HRY9.out (below_alloc (below_alloc (Below.refl _ _) (.cells #[.bool fin, .int .u8 op, .bool true, .int .u32 b, .slice Aq9 d.length cq9] 37)) (.cells #[.int .u8 0, .int .u32 0] 26))
  have hRZ10 := Kd.R_below HRZ9.out (below_alloc (below_alloc (Below.refl _ _) (.cells #[.bool fin, .int .u8 op, .bool true, .int .u32 b, .slice Aq9 d.length cq9] 37)) (.cells #[.int .u8 0, .int .u32 0] 26))
  have hD7b := Kd.C_below HD7b.out (below_alloc (below_alloc (Below.refl _ _) (.cells #[.bool fin, .int .u8 op, .bool true, .int .u32 b, .slice Aq9 d.length cq9] 37)) (.cells #[.int .u8 0, .int .u32 0] 26))
  have hq7b := blk_below Hq7b.out (below_alloc (below_alloc (Below.refl _ _) (.cells #[.bool fin, .int .u8 op, .bool true, .int .u32 b, .slice Aq9 d.length cq9] 37)) (.cells #[.int .u8 0, .int .u32 0] 26))
  have hb7b := blk_below Hb7b.out (below_alloc (below_alloc (Below.refl _ _) (.cells #[.bool fin, .int .u8 op, .bool true, .int .u32 b, .slice Aq9 d.length cq9] 37)) (.cells #[.int .u8 0, .int .u32 0] 26))
  generalize ((w9.alloc (.cells #[.bool fin, .int .u8 op, .bool true, .int .u32 b, .slice Aq9 d.length cq9] 37)).alloc (.cells #[.int .u8 0, .int .u32 0] 26)) = w10 at hB10 hK10 hD9 hq9 hb9 hRX10 hRY10 hRZ10 hD7b hq7b hb7b ⊢
  generalize w9.heap.size = g9 at hq9 hb9 ⊢
  clear HB9 HK9 HRX9 HRY9 HRZ9 HD7b Hq7b Hb7b
  have HB10 := Aside0.mk hB10
  have HK10 := Aside0.mk hK10
  have HD9 := Aside0.mk hD9
  have Hq9 := Aside0.mk hq9
  have Hb9 := Aside0.mk hb9
  have HRX10 := Aside0.mk hRX10
  have HRY10 := Aside0.mk hRY10
  have HRZ10 := Aside0.mk hRZ10
  have HD7b := Aside0.mk hD7b
  have Hq7b := Aside0.mk hq7b
  have Hb7b := Aside0.mk hb7b
  clear hB10 hK10 hD9 hq9 hb9 hRX10 hRY10 hRZ10 hD7b hq7b hb7b hq hb
  go_wp2_with fail
  refine (louverlaw16_fixed.calls true _ rfl).mono ?_
  rintro e w11 ⟨rfl, hb⟩
  have hK11 : w11.heap[w.heap.size]? = some (.cells #[.bool fin, .int .u8 op, .bool true, .int .u32 b, .slice A d.length cA] 37 (0, 0)) := blk_below HK10.out hb
  have HB11 := Aside0.mk (below_step HB10.out hb)
  have HK11 := Aside0.mk hK11
  have HRX11 := Aside0.mk (Kd.R_below HRX10.out hb)
  have HRY11 := Aside0.mk (Kd.R_below HRY10.out hb)
  have HRZ11 := Aside0.mk (Kd.R_below HRZ10.out hb)
  clear hK11 HB10 HK10 HRX10 HRY10 HRZ10
  have HD7c := Kd.C_below HD7b.out hb
  have HD9c := Kd.C_below HD9.out hb
  have hq7c := blk_below Hq7b.out hb
  have hb7c := blk_below Hb7b.out hb
  have hq9c := blk_below Hq9.out hb
  have hb9c := blk_below Hb9.out hb
  clear HD7b Hq7b Hb7b HD9 Hq9 Hb9 hb
  have b0 : w11.cell? ⟨w.heap.size, 0, none⟩ = some (.bool fin) := (blk_cell HK11.out 0).trans rfl
  have b1 : w11.cell? ⟨w.heap.size, 1, none⟩ = some (.int .u8 op) := (blk_cell HK11.out 1).trans rfl
  have b2 : w11.cell? ⟨w.heap.size, 2, none⟩ = some (.bool true) := (blk_cell HK11.out 2).trans rfl
  have b3 : w11.cell? ⟨w.heap.size, 3, none⟩ = some (.int .u32 b) := (blk_cell HK11.out 3).trans rfl
  have b4 : w11.cell? ⟨w.heap.size, 4, none⟩ = some (.slice A d.length cA) := (blk_cell HK11.out 4).trans rfl
  have bl := blk_lt HK11.out
  have p0 : w11.cell? ⟨g7, 0, none⟩ = some (.bool fin) := (blk_cell hq7c 0).trans rfl
  have p1 : w11.cell? ⟨g7, 1, none⟩ = some (.int .u8 op) := (blk_cell hq7c 1).trans rfl
  have p2 : w11.cell? ⟨g7, 2, none⟩ = some (.bool true) := (blk_cell hq7c 2).trans rfl
  have p3 : w11.cell? ⟨g7, 3, none⟩ = some (.int .u32 a) := (blk_cell hq7c 3).trans rfl
  have p4 : w11.cell? ⟨g7, 4, none⟩ = some (.slice Aq7 d.length cq7) := (blk_cell hq7c 4).trans rfl
  have pl := blk_lt hq7c
  have r0 : w11.cell? ⟨(g7 + 1), 0, none⟩ = some (.int .u8 0) := (blk_cell hb7c 0).trans rfl
  have r1 : w11.cell? ⟨(g7 + 1), 1, none⟩ = some (.int .u32 0) := (blk_cell hb7c 1).trans rfl
  have rl := blk_lt hb7c
  have s0 : w11.cell? ⟨g9, 0, none⟩ = some (.bool fin) := (blk_cell hq9c 0).trans rfl
  have s1 : w11.cell? ⟨g9, 1, none⟩ = some (.int .u8 op) := (blk_cell hq9c 1).trans rfl
  have s2 : w11.cell? ⟨g9, 2, none⟩ = some (.bool true) := (blk_cell hq9c 2).trans rfl
  have s3 : w11.cell? ⟨g9, 3, none⟩ = some (.int .u32 b) := (blk_cell hq9c 3).trans rfl
  have s4 : w11.cell? ⟨g9, 4, none⟩ = some (.slice Aq9 d.length cq9) := (blk_cell hq9c 4).trans rfl
  have sl := blk_lt hq9c
  have u0 : w11.cell? ⟨(g9 + 1), 0, none⟩ = some (.int .u8 0) := (blk_cell hb9c 0).trans rfl
  have u1 : w11.cell? ⟨(g9 + 1), 1, none⟩ = some (.int .u32 0) := (blk_cell hb9c 1).trans rfl
  have ul := blk_lt hb9c
  have hvA : (convert 23 9 (.slice A d.length cA)).run Tryd.prog w11 = .ok (.string (strOfNums d)) w11 := Kd.C_string (P := Tryd.prog) Tryd.underlying23 Tryd.underlying5 Tryd.underlying9 (Kd.C_below HC.out HB11.out)
  have hvAq7 : (convert 23 9 (.slice Aq7 d.length cq7)).run Tryd.prog w11 = .ok (.string (strOfNums d)) w11 := Kd.C_string (P := Tryd.prog) Tryd.underlying23 Tryd.underlying5 Tryd.underlying9 HD7c
  have hvAq9 : (convert 23 9 (.slice Aq9 d.length cq9)).run Tryd.prog w11 = .ok (.string (strOfNums d)) w11 := Kd.C_string (P := Tryd.prog) Tryd.underlying23 Tryd.underlying5 Tryd.underlying9 HD9c
  have hvY : (convert 23 9 (.slice AY Y.length cY)).run Tryd.prog w11 = .ok (.string (strOfNums Y)) w11 := own_string (P := Tryd.prog) Tryd.underlying23 Tryd.underlying5 Tryd.underlying9 (Kd.own_of_R HRY11.out)
  have hvZ : (convert 23 9 (.slice AZ Z.length cZ)).run Tryd.prog w11 = .ok (.string (strOfNums Z)) w11 := own_string (P := Tryd.prog) Tryd.underlying23 Tryd.underlying5 Tryd.underlying9 (Kd.own_of_R HRZ11.out)
  clear HD7c HD9c hq7c hb7c hq9c hb9c
  go_wp2_with fail
  go_ret
  exact ⟨rfl, HB11.out⟩
set_option maxHeartbeats 8000000 in
set_option maxRecDepth 100000 in
theorem Keys_same (fin : Bool) (op : Int) (mask : Bool) (key : Int) (A : Option Addr) (d : List Int) (cA : Nat) (a : Int) (w : World) (hg : Cond w) (hC : Kd.C (Kd.int .u8) w A d.length d) (hl : d.length ≤ cA) (X : List Int) (hn : (d.length : Int) ≤ 9000) (HPX : Aside0 (wsframe_Put.f 20000 fin op false 0 d = some X)) (HRM : Aside0 (louverref16_May.f fin op false 0 d = some true)) (Y : List Int) (HPY : Aside0 (wsframe_Put.f 20000 fin op true a d = some Y)) (HGY : Aside0 (wsframe_Get.f 20000 Y true = some (fin, op, true, a, d, 0, 0))) (s : Int) (n3 : IntKind.i64.wrap ((X.length : Int) + 4) = s) (n4 : ((Y.length : Int) == s) = true) : Calls Tryd.prog 6 #[.agg #[.bool fin, .int .u8 op, .bool mask, .int .u32 key, .slice A d.length cA], .int .u32 a, .int .u32 a] w fun e w' => e = .returned (.bool true) ∧ Below w.heap.size w w' := by
  have HG := Aside0.mk hg
  have HC := Aside0.mk hC
  clear hg hC
  have hu37 := Tryd.underlying37
  have hu26 := Tryd.underlying26
  have t0 : decide (9000 < (d.length : Int)) = false := decide_eq_false (by omega)
  have t1 : ¬ 9000 < d.length := by omega
  go_enter Tryd.func6, Tryd.ntmps6
  go_wp2_with fail
  have HBo := Aside0.mk (below_alloc (Below.refl w.heap.size w) (.cells #[.bool fin, .int .u8 op, .bool false, .int .u32 0, .slice A d.length cA] 37))
  refine (wsframe_Put.calls 20000 fin op false 0 A cA d X _ (Kd.C_below HC.out HBo.out) hl HPX.out).mono ?_
  rintro e w1 ⟨vX, rfl, ho, hb⟩
  have HB1 := Aside0.mk (below_step HBo.out hb)
  have HK1 : Aside0 (w1.heap[w.heap.size]? = some (.cells #[.bool fin, .int .u8 op, .bool false, .int .u32 0, .slice A d.length cA] 37 (0, 0))) := ⟨blk_below (last_at _ _ _ rfl) hb⟩
  have hRX := Kd.R_types (Kd.R_lower ho (show w.heap.size ≤ _ from by first | exact HBo.out.size | (simp; done) | (have := HBo.out.size; simp; omega))) HK1.out (by intro q hq; simp [Kd.int, Kd.scalar] at hq; omega)
  obtain ⟨AX, cX, rfl⟩ := Kd.R_slice hRX
  have HRX1 := Aside0.mk hRX
  clear ho hb hRX HBo
  have b0 : w1.cell? ⟨w.heap.size, 0, none⟩ = some (.bool fin) := (blk_cell HK1.out 0).trans rfl
  have bf0 := blk_frozen HK1.out 0
  have b1 : w1.cell? ⟨w.heap.size, 1, none⟩ = some (.int .u8 op) := (blk_cell HK1.out 1).trans rfl
  have bf1 := blk_frozen HK1.out 1
  have b2 : w1.cell? ⟨w.heap.size, 2, none⟩ = some (.bool false) := (blk_cell HK1.out 2).trans rfl
  have bf2 := blk_frozen HK1.out 2
  have b3 : w1.cell? ⟨w.heap.size, 3, none⟩ = some (.int .u32 0) := (blk_cell HK1.out 3).trans rfl
  have bf3 := blk_frozen HK1.out 3
  have b4 : w1.cell? ⟨w.heap.size, 4, none⟩ = some (.slice A d.length cA) := (blk_cell HK1.out 4).trans rfl
  have bf4 := blk_frozen HK1.out 4
  have bl := blk_lt HK1.out
  go_wp2_with fail
  clear b0 bf0 b1 bf1 b2 bf2 b3 bf3 b4 bf4 bl
  refine (louverref16_May.calls fin op false 0 A cA d true _ (Kd.C_below HC.out HB1.out) hl HRM.out).mono ?_
  rintro e w2 ⟨rfl, hb⟩
  have hK2 : w2.heap[w.heap.size]? = some (.cells #[.bool fin, .int .u8 op, .bool false, .int .u32 0, .slice A d.length cA] 37 (0, 0)) := blk_below HK1.out hb
  have HB2 := Aside0.mk (below_step HB1.out hb)
  have HK2 := Aside0.mk hK2
  have HRX2 := Aside0.mk (Kd.R_below HRX1.out hb)
  clear hK2 HB1 HK1 HRX1
  clear hb
  have b0 : w2.cell? ⟨w.heap.size, 0, none⟩ = some (.bool fin) := (blk_cell HK2.out 0).trans rfl
  have bf0 := blk_frozen HK2.out 0
  have b1 : w2.cell? ⟨w.heap.size, 1, none⟩ = some (.int .u8 op) := (blk_cell HK2.out 1).trans rfl
  have bf1 := blk_frozen HK2.out 1
  have b2 : w2.cell? ⟨w.heap.size, 2, none⟩ = some (.bool false) := (blk_cell HK2.out 2).trans rfl
  have bf2 := blk_frozen HK2.out 2
  have b3 : w2.cell? ⟨w.heap.size, 3, none⟩ = some (.int .u32 0) := (blk_cell HK2.out 3).trans rfl
  have bf3 := blk_frozen HK2.out 3
  have b4 : w2.cell? ⟨w.heap.size, 4, none⟩ = some (.slice A d.length cA) := (blk_cell HK2.out 4).trans rfl
  have bf4 := blk_frozen HK2.out 4
  have bl := blk_lt HK2.out
  go_wp2_with fail
  clear b0 bf0 b1 bf1 b2 bf2 b3 bf3 b4 bf4 bl
  have hB3 : Below w.heap.size w ((w2.setCell ⟨w.heap.size, 2, none⟩ (.bool true)).setCell ⟨w.heap.size, 3, none⟩ (.int .u32 a)) := (Below.setCell (Below.setCell HB2.out (Nat.le_refl _) _) (Nat.le_refl _) _)
  have hK3 : ((w2.setCell ⟨w.heap.size, 2, none⟩ (.bool true)).setCell ⟨w.heap.size, 3, none⟩ (.int .u32 a)).heap[w.heap.size]? = some (.cells #[.bool fin, .int .u8 op, .bool true, .int .u32 a, .slice A d.length cA] 37 (0, 0)) := (blk_put (blk_put HK2.out 2 (.bool true) rfl) 3 (.int .u32 a) rfl)
  have hRX3 := (Kd.R_far (Kd.R_far HRX2.out (p := ⟨w.heap.size, 2, none⟩) (fun k hk => hk.2) (.bool true)) (p := ⟨w.heap.size, 3, none⟩) (fun k hk => hk.2) (.int .u32 a))
  generalize ((w2.setCell ⟨w.heap.size, 2, none⟩ (.bool true)).setCell ⟨w.heap.size, 3, none⟩ (.int .u32 a)) = w3 at hB3 hK3 hRX3 ⊢
  have HB3 := Aside0.mk hB3
  have HK3 := Aside0.mk hK3
  have HRX3 := Aside0.mk hRX3
  clear hB3 hK3 hRX3 HB2 HK2 HRX2
  have HBo := HB3
  refine (wsframe_Put.calls 20000 fin op true a A cA d Y _ (Kd.C_below HC.out HB3.out) hl HPY.out).mono ?_
  rintro e w4 ⟨vY, rfl, ho, hb⟩
  have hK4 : w4.heap[w.heap.size]? = some (.cells #[.bool fin, .int .u8 op, .bool true, .int .u32 a, .slice A d.length cA] 37 (0, 0)) := blk_below HK3.out hb
  have HB4 := Aside0.mk (below_step HB3.out hb)
  have HK4 := Aside0.mk hK4
  have HRX4 := Aside0.mk (Kd.R_below HRX3.out hb)
  clear hK4 HB3 HK3 HRX3
  have hRY := Kd.R_types (Kd.R_lower ho (show w.heap.size ≤ _ from by first | exact HBo.out.size | (simp; done) | (have := HBo.out.size; simp; omega))) HK4.out (by intro q hq; simp [Kd.int, Kd.scalar] at hq; omega)
  obtain ⟨AY, cY, rfl⟩ := Kd.R_slice hRY
  have HRY4 := Aside0.mk hRY
  clear ho hb hRY HBo
  have b0 : w4.cell? ⟨w.heap.size, 0, none⟩ = some (.bool fin) := (blk_cell HK4.out 0).trans rfl
  have bf0 := blk_frozen HK4.out 0
  have b1 : w4.cell? ⟨w.heap.size, 1, none⟩ = some (.int .u8 op) := (blk_cell HK4.out 1).trans rfl
  have bf1 := blk_frozen HK4.out 1
  have b2 : w4.cell? ⟨w.heap.size, 2, none⟩ = some (.bool true) := (blk_cell HK4.out 2).trans rfl
  have bf2 := blk_frozen HK4.out 2
  have b3 : w4.cell? ⟨w.heap.size, 3, none⟩ = some (.int .u32 a) := (blk_cell HK4.out 3).trans rfl
  have bf3 := blk_frozen HK4.out 3
  have b4 : w4.cell? ⟨w.heap.size, 4, none⟩ = some (.slice A d.length cA) := (blk_cell HK4.out 4).trans rfl
  have bf4 := blk_frozen HK4.out 4
  have bl := blk_lt HK4.out
  go_wp2_with fail
  clear b0 bf0 b1 bf1 b2 bf2 b3 bf3 b4 bf4 bl
  have hB5 : Below w.heap.size w (w4.setCell ⟨w.heap.size, 3, none⟩ (.int .u32 a)) := (Below.setCell HB4.out (Nat.le_refl _) _)
  have hK5 : (w4.setCell ⟨w.heap.size, 3, none⟩ (.int .u32 a)).heap[w.heap.size]? = some (.cells #[.bool fin, .int .u8 op, .bool true, .int .u32 a, .slice A d.length cA] 37 (0, 0)) := (blk_put HK4.out 3 (.int .u32 a) rfl)
  have hRX5 := (Kd.R_far HRX4.out (p := ⟨w.heap.size, 3, none⟩) (fun k hk => hk.2) (.int .u32 a))
  have hRY5 := (Kd.R_far HRY4.out (p := ⟨w.heap.size, 3, none⟩) (fun k hk => hk.2) (.int .u32 a))
  generalize (w4.setCell ⟨w.heap.size, 3, none⟩ (.int .u32 a)) = w5 at hB5 hK5 hRX5 hRY5 ⊢
  have HB5 := Aside0.mk hB5
  have HK5 := Aside0.mk hK5
  have HRX5 := Aside0.mk hRX5
  have HRY5 := Aside0.mk hRY5
  clear hB5 hK5 hRX5 hRY5 HB4 HK4 HRX4 HRY4
  have HBo := HB5
  refine (wsframe_Put.calls 20000 fin op true a A cA d Y _ (Kd.C_below HC.out HB5.out) hl HPY.out).mono ?_
  rintro e w6 ⟨vZ, rfl, ho, hb⟩
  have hK6 : w6.heap[w.heap.size]? = some (.cells #[.bool fin, .int .u8 op, .bool true, .int .u32 a, .slice A d.length cA] 37 (0, 0)) := blk_below HK5.out hb
  have HB6 := Aside0.mk (below_step HB5.out hb)
  have HK6 := Aside0.mk hK6
  have HRX6 := Aside0.mk (Kd.R_below HRX5.out hb)
  have HRY6 := Aside0.mk (Kd.R_below HRY5.out hb)
  clear hK6 HB5 HK5 HRX5 HRY5
  have hRZ := Kd.R_types (Kd.R_lower ho (show w.heap.size ≤ _ from by first | exact HBo.out.size | (simp; done) | (have := HBo.out.size; simp; omega))) HK6.out (by intro q hq; simp [Kd.int, Kd.scalar] at hq; omega)
  obtain ⟨AZ, cZ, rfl⟩ := Kd.R_slice hRZ
  have HRZ6 := Aside0.mk hRZ
  clear ho hb hRZ HBo
  go_wp2_with fail
  refine (wsframe_Get.calls 20000 AY cY Y _ fin op true a d 0 0 _ (Kd.R_reads' HRY6.out).2.2 (Kd.R_reads' HRY6.out).2.1 HGY.out (HG.out.below HB6.out)).mono ?_
  rintro e w7 ⟨vq, rfl, hq, hb⟩
  obtain ⟨Aq7, cq7, rfl⟩ := Kd.R_slice hq
  have hK7 : w7.heap[w.heap.size]? = some (.cells #[.bool fin, .int .u8 op, .bool true, .int .u32 a, .slice A d.length cA] 37 (0, 0)) := blk_below HK6.out hb
  have HB7 := Aside0.mk (below_step HB6.out hb)
  have HK7 := Aside0.mk hK7
  have HRX7 := Aside0.mk (Kd.R_below HRX6.out hb)
  have HRY7 := Aside0.mk (Kd.R_below HRY6.out hb)
  have HRZ7 := Aside0.mk (Kd.R_below HRZ6.out hb)
  clear hK7 HB6 HK6 HRX6 HRY6 HRZ6
  go_wp2_with fail
  have hB8 : Below w.heap.size w ((w7.alloc (.cells #[.bool fin, .int .u8 op, .bool true, .int .u32 a, .slice Aq7 d.length cq7] 37)).alloc (.cells #[.int .u8 0, .int .u32 0] 26)) := below_step HB7.out (below_alloc (below_alloc (Below.refl _ _) (.cells #[.bool fin, .int .u8 op, .bool true, .int .u32 a, .slice Aq7 d.length cq7] 37)) (.cells #[.int .u8 0, .int .u32 0] 26))
  have hK8 : ((w7.alloc (.cells #[.bool fin, .int .u8 op, .bool true, .int .u32 a, .slice Aq7 d.length cq7] 37)).alloc (.cells #[.int .u8 0, .int .u32 0] 26)).heap[w.heap.size]? = some (.cells #[.bool fin, .int .u8 op, .bool true, .int .u32 a, .slice A d.length cA] 37 (0, 0)) := blk_below HK7.out (below_alloc (below_alloc (Below.refl _ _) (.cells #[.bool fin, .int .u8 op, .bool true, .int .u32 a, .slice Aq7 d.length cq7] 37)) (.cells #[.int .u8 0, .int .u32 0] 26))
  have hD7 : Kd.C (Kd.int .u8) ((w7.alloc (.cells #[.bool fin, .int .u8 op, .bool true, .int .u32 a, .slice Aq7 d.length cq7] 37)).alloc (.cells #[.int .u8 0, .int .u32 0] 26)) Aq7 d.length d := Kd.C_below (Kd.R_reads' hq).2.2 (below_alloc (below_alloc (Below.refl _ _) (.cells #[.bool fin, .int .u8 op, .bool true, .int .u32 a, .slice Aq7 d.length cq7] 37)) (.cells #[.int .u8 0, .int .u32 0] 26))
  have hq7 : ((w7.alloc (.cells #[.bool fin, .int .u8 op, .bool true, .int .u32 a, .slice Aq7 d.length cq7] 37)).alloc (.cells #[.int .u8 0, .int .u32 0] 26)).heap[w7.heap.size]? = some (.cells #[.bool fin, .int .u8 op, .bool true, .int .u32 a, .slice Aq7 d.length cq7] 37 (0, 0)) := blk_alloc (last_at _ _ _ rfl) _
  have hb7 : ((w7.alloc (.cells #[.bool fin, .int .u8 op, .bool true, .int .u32 a, .slice Aq7 d.length cq7] 37)).alloc (.cells #[.int .u8 0, .int .u32 0] 26)).heap[w7.heap.size + 1]? = some (.cells #[.int .u8 0, .int .u32 0] 26 (0, 0)) := last_at _ _ _ (by simp)
  have hRX8 := Kd.R_below HRX7.out (below_alloc (below_alloc (Below.refl _ _) (.cells #[.bool fin, .int .u8 op, .bool true, .int .u32 a, .slice Aq7 d.length cq7] 37)) (.cells #[.int .u8 0, .int .u32 0] 26))
  have hRY8 := Kd.R_below HRY7.out (below_alloc (below_alloc (Below.refl _ _) (.cells #[.bool fin, .int .u8 op, .bool true, .int .u32 a, .slice Aq7 d.length cq7] 37)) (.cells #[.int .u8 0, .int .u32 0] 26))
  have hRZ8 := Kd.R_below HRZ7.out (below_alloc (below_alloc (Below.refl _ _) (.cells #[.bool fin, .int .u8 op, .bool true, .int .u32 a, .slice Aq7 d.length cq7] 37)) (.cells #[.int .u8 0, .int .u32 0] 26))
  generalize ((w7.alloc (.cells #[.bool fin, .int .u8 op, .bool true, .int .u32 a, .slice Aq7 d.length cq7] 37)).alloc (.cells #[.int .u8 0, .int .u32 0] 26)) = w8 at hB8 hK8 hD7 hq7 hb7 hRX8 hRY8 hRZ8 ⊢
  generalize w7.heap.size = g7 at hq7 hb7 ⊢
  clear HB7 HK7 HRX7 HRY7 HRZ7 
  have HB8 := Aside0.mk hB8
  have HK8 := Aside0.mk hK8
  have HD7 := Aside0.mk hD7
  have Hq7 := Aside0.mk hq7
  have Hb7 := Aside0.mk hb7
  have HRX8 := Aside0.mk hRX8
  have HRY8 := Aside0.mk hRY8
  have HRZ8 := Aside0.mk hRZ8
  clear hB8 hK8 hD7 hq7 hb7 hRX8 hRY8 hRZ8 hq hb
  refine (wsframe_Get.calls 20000 AZ cZ Y _ fin op true a d 0 0 _ (Kd.R_reads' HRZ8.out).2.2 (Kd.R_reads' HRZ8.out).2.1 HGY.out (HG.out.below HB8.out)).mono ?_
  rintro e w9 ⟨vq, rfl, hq, hb⟩
  obtain ⟨Aq9, cq9, rfl⟩ := Kd.R_slice hq
  have hK9 : w9.heap[w.heap.size]? = some (.cells #[.bool fin, .int .u8 op, .bool true, .int .u32 a, .slice A d.length cA] 37 (0, 0)) := blk_below HK8.out hb
  have HB9 := Aside0.mk (below_step HB8.out hb)
  have HK9 := Aside0.mk hK9
  have HRX9 := Aside0.mk (Kd.R_below HRX8.out hb)
  have HRY9 := Aside0.mk (Kd.R_below HRY8.out hb)
  have HRZ9 := Aside0.mk (Kd.R_below HRZ8.out hb)
  clear hK9 HB8 HK8 HRX8 HRY8 HRZ8
  have HD7b := Aside0.mk (Kd.C_below HD7.out hb)
  have Hq7b := Aside0.mk (blk_below Hq7.out hb)
  have Hb7b := Aside0.mk (blk_below Hb7.out hb)
  clear HD7 Hq7 Hb7
  go_upto_region 13 with fail
  have hB10 : Below w.heap.size w ((w9.alloc (.cells #[.bool fin, .int .u8 op, .bool true, .int .u32 a, .slice Aq9 d.length cq9] 37)).alloc (.cells #[.int .u8 0, .int .u32 0] 26)) := below_step HB9.out (below_alloc (below_alloc (Below.refl _ _) (.cells #[.bool fin, .int .u8 op, .bool true, .int .u32 a, .slice Aq9 d.length cq9] 37)) (.cells #[.int .u8 0, .int .u32 0] 26))
  have hK10 : ((w9.alloc (.cells #[.bool fin, .int .u8 op, .bool true, .int .u32 a, .slice Aq9 d.length cq9] 37)).alloc (.cells #[.int .u8 0, .int .u32 0] 26)).heap[w.heap.size]? = some (.cells #[.bool fin, .int .u8 op, .bool true, .int .u32 a, .slice A d.length cA] 37 (0, 0)) := blk_below HK9.out (below_alloc (below_alloc (Below.refl _ _) (.cells #[.bool fin, .int .u8 op, .bool true, .int .u32 a, .slice Aq9 d.length cq9] 37)) (.cells #[.int .u8 0, .int .u32 0] 26))
  have hD9 : Kd.C (Kd.int .u8) ((w9.alloc (.cells #[.bool fin, .int .u8 op, .bool true, .int .u32 a, .slice Aq9 d.length cq9] 37)).alloc (.cells #[.int .u8 0, .int .u32 0] 26)) Aq9 d.length d := Kd.C_below (Kd.R_reads' hq).2.2 (below_alloc (below_alloc (Below.refl _ _) (.cells #[.bool fin, .int .u8 op, .bool true, .int .u32 a, .slice Aq9 d.length cq9] 37)) (.cells #[.int .u8 0, .int .u32 0] 26))
  have hq9 : ((w9.alloc (.cells #[.bool fin, .int .u8 op, .bool true, .int .u32 a, .slice Aq9 d.length cq9] 37)).alloc (.cells #[.int .u8 0, .int .u32 0] 26)).heap[w9.heap.size]? = some (.cells #[.bool fin, .int .u8 op, .bool true, .int .u32 a, .slice Aq9 d.length cq9] 37 (0, 0)) := blk_alloc (last_at _ _ _ rfl) _
  have hb9 : ((w9.alloc (.cells #[.bool fin, .int .u8 op, .bool true, .int .u32 a, .slice Aq9 d.length cq9] 37)).alloc (.cells #[.int .u8 0, .int .u32 0] 26)).heap[w9.heap.size + 1]? = some (.cells #[.int .u8 0, .int .u32 0] 26 (0, 0)) := last_at _ _ _ (by simp)
  have hRX10 := Kd.R_below HRX9.out (below_alloc (below_alloc (Below.refl _ _) (.cells #[.bool fin, .int .u8 op, .bool true, .int .u32 a, .slice Aq9 d.length cq9] 37)) (.cells #[.int .u8 0, .int .u32 0] 26))
  have hRY10 := Kd.R_below HRY9.out (below_alloc (below_alloc (Below.refl _ _) (.cells #[.bool fin, .int .u8 op, .bool true, .int .u32 a, .slice Aq9 d.length cq9] 37)) (.cells #[.int .u8 0, .int .u32 0] 26))
  have hRZ10 := Kd.R_below HRZ9.out (below_alloc (below_alloc (Below.refl _ _) (.cells #[.bool fin, .int .u8 op, .bool true, .int .u32 a, .slice Aq9 d.length cq9] 37)) (.cells #[.int .u8 0, .int .u32 0] 26))
  have hD7b := Kd.C_below HD7b.out (below_alloc (below_alloc (Below.refl _ _) (.cells #[.bool fin, .int .u8 op, .bool true, .int .u32 a, .slice Aq9 d.length cq9] 37)) (.cells #[.int .u8 0, .int .u32 0] 26))
  have hq7b := blk_below Hq7b.out (below_alloc (below_alloc (Below.refl _ _) (.cells #[.bool fin, .int .u8 op, .bool true, .int .u32 a, .slice Aq9 d.length cq9] 37)) (.cells #[.int .u8 0, .int .u32 0] 26))
  have hb7b := blk_below Hb7b.out (below_alloc (below_alloc (Below.refl _ _) (.cells #[.bool fin, .int .u8 op, .bool true, .int .u32 a, .slice Aq9 d.length cq9] 37)) (.cells #[.int .u8 0, .int .u32 0] 26))
  generalize ((w9.alloc (.cells #[.bool fin, .int .u8 op, .bool true, .int .u32 a, .slice Aq9 d.length cq9] 37)).alloc (.cells #[.int .u8 0, .int .u32 0] 26)) = w10 at hB10 hK10 hD9 hq9 hb9 hRX10 hRY10 hRZ10 hD7b hq7b hb7b ⊢
  generalize w9.heap.size = g9 at hq9 hb9 ⊢
  clear HB9 HK9 HRX9 HRY9 HRZ9 HD7b Hq7b Hb7b
  have HB10 := Aside0.mk hB10
  have HK10 := Aside0.mk hK10
  have HD9 := Aside0.mk hD9
  have Hq9 := Aside0.mk hq9
  have Hb9 := Aside0.mk hb9
  have HRX10 := Aside0.mk hRX10
  have HRY10 := Aside0.mk hRY10
  have HRZ10 := Aside0.mk hRZ10
  have HD7b := Aside0.mk hD7b
  have Hq7b := Aside0.mk hq7b
  have Hb7b := Aside0.mk hb7b
  clear hB10 hK10 hD9 hq9 hb9 hRX10 hRY10 hRZ10 hD7b hq7b hb7b hq hb
  go_wp2_with fail
  refine (louverlaw16_fixed.calls true _ rfl).mono ?_
  rintro e w11 ⟨rfl, hb⟩
  have hK11 : w11.heap[w.heap.size]? = some (.cells #[.bool fin, .int .u8 op, .bool true, .int .u32 a, .slice A d.length cA] 37 (0, 0)) := blk_below HK10.out hb
  have HB11 := Aside0.mk (below_step HB10.out hb)
  have HK11 := Aside0.mk hK11
  have HRX11 := Aside0.mk (Kd.R_below HRX10.out hb)
  have HRY11 := Aside0.mk (Kd.R_below HRY10.out hb)
  have HRZ11 := Aside0.mk (Kd.R_below HRZ10.out hb)
  clear hK11 HB10 HK10 HRX10 HRY10 HRZ10
  have HD7c := Kd.C_below HD7b.out hb
  have HD9c := Kd.C_below HD9.out hb
  have hq7c := blk_below Hq7b.out hb
  have hb7c := blk_below Hb7b.out hb
  have hq9c := blk_below Hq9.out hb
  have hb9c := blk_below Hb9.out hb
  clear HD7b Hq7b Hb7b HD9 Hq9 Hb9 hb
  have b0 : w11.cell? ⟨w.heap.size, 0, none⟩ = some (.bool fin) := (blk_cell HK11.out 0).trans rfl
  have b1 : w11.cell? ⟨w.heap.size, 1, none⟩ = some (.int .u8 op) := (blk_cell HK11.out 1).trans rfl
  have b2 : w11.cell? ⟨w.heap.size, 2, none⟩ = some (.bool true) := (blk_cell HK11.out 2).trans rfl
  have b3 : w11.cell? ⟨w.heap.size, 3, none⟩ = some (.int .u32 a) := (blk_cell HK11.out 3).trans rfl
  have b4 : w11.cell? ⟨w.heap.size, 4, none⟩ = some (.slice A d.length cA) := (blk_cell HK11.out 4).trans rfl
  have bl := blk_lt HK11.out
  have p0 : w11.cell? ⟨g7, 0, none⟩ = some (.bool fin) := (blk_cell hq7c 0).trans rfl
  have p1 : w11.cell? ⟨g7, 1, none⟩ = some (.int .u8 op) := (blk_cell hq7c 1).trans rfl
  have p2 : w11.cell? ⟨g7, 2, none⟩ = some (.bool true) := (blk_cell hq7c 2).trans rfl
  have p3 : w11.cell? ⟨g7, 3, none⟩ = some (.int .u32 a) := (blk_cell hq7c 3).trans rfl
  have p4 : w11.cell? ⟨g7, 4, none⟩ = some (.slice Aq7 d.length cq7) := (blk_cell hq7c 4).trans rfl
  have pl := blk_lt hq7c
  have r0 : w11.cell? ⟨(g7 + 1), 0, none⟩ = some (.int .u8 0) := (blk_cell hb7c 0).trans rfl
  have r1 : w11.cell? ⟨(g7 + 1), 1, none⟩ = some (.int .u32 0) := (blk_cell hb7c 1).trans rfl
  have rl := blk_lt hb7c
  have s0 : w11.cell? ⟨g9, 0, none⟩ = some (.bool fin) := (blk_cell hq9c 0).trans rfl
  have s1 : w11.cell? ⟨g9, 1, none⟩ = some (.int .u8 op) := (blk_cell hq9c 1).trans rfl
  have s2 : w11.cell? ⟨g9, 2, none⟩ = some (.bool true) := (blk_cell hq9c 2).trans rfl
  have s3 : w11.cell? ⟨g9, 3, none⟩ = some (.int .u32 a) := (blk_cell hq9c 3).trans rfl
  have s4 : w11.cell? ⟨g9, 4, none⟩ = some (.slice Aq9 d.length cq9) := (blk_cell hq9c 4).trans rfl
  have sl := blk_lt hq9c
  have u0 : w11.cell? ⟨(g9 + 1), 0, none⟩ = some (.int .u8 0) := (blk_cell hb9c 0).trans rfl
  have u1 : w11.cell? ⟨(g9 + 1), 1, none⟩ = some (.int .u32 0) := (blk_cell hb9c 1).trans rfl
  have ul := blk_lt hb9c
  have hvA : (convert 23 9 (.slice A d.length cA)).run Tryd.prog w11 = .ok (.string (strOfNums d)) w11 := Kd.C_string (P := Tryd.prog) Tryd.underlying23 Tryd.underlying5 Tryd.underlying9 (Kd.C_below HC.out HB11.out)
  have hvAq7 : (convert 23 9 (.slice Aq7 d.length cq7)).run Tryd.prog w11 = .ok (.string (strOfNums d)) w11 := Kd.C_string (P := Tryd.prog) Tryd.underlying23 Tryd.underlying5 Tryd.underlying9 HD7c
  have hvAq9 : (convert 23 9 (.slice Aq9 d.length cq9)).run Tryd.prog w11 = .ok (.string (strOfNums d)) w11 := Kd.C_string (P := Tryd.prog) Tryd.underlying23 Tryd.underlying5 Tryd.underlying9 HD9c
  have hvY : (convert 23 9 (.slice AY Y.length cY)).run Tryd.prog w11 = .ok (.string (strOfNums Y)) w11 := own_string (P := Tryd.prog) Tryd.underlying23 Tryd.underlying5 Tryd.underlying9 (Kd.own_of_R HRY11.out)
  have hvZ : (convert 23 9 (.slice AZ Y.length cZ)).run Tryd.prog w11 = .ok (.string (strOfNums Y)) w11 := own_string (P := Tryd.prog) Tryd.underlying23 Tryd.underlying5 Tryd.underlying9 (Kd.own_of_R HRZ11.out)
  clear HD7c HD9c hq7c hb7c hq9c hb9c
  go_wp2_with fail
  go_ret
  exact ⟨rfl, HB11.out⟩
theorem wf8k {x : Int} (h : (Lit.int .u8 x).wf = true) : 0 ≤ x ∧ x ≤ 255 := by simpa [Lit.wf, IntKind.min, IntKind.max, IntKind.signed, IntKind.bits] using h
theorem wf32k {x : Int} (h : (Lit.int .u32 x).wf = true) : 0 ≤ x ∧ x ≤ 4294967295 := by simpa [Lit.wf, IntKind.min, IntKind.max, IntKind.signed, IntKind.bits] using h
theorem Pure.WsframeKeys : Says.WsframeKeys := by
  intro cs x a b w r0 o0 o1 o2 hg
  obtain ⟨A, cA, rfl, hl, hC⟩ := k37_open r0
  obtain ⟨_, w1, _, w3, w4, _, _⟩ := o0
  have h1 := wf8k w1
  have ha := wf32k o1
  have hb := wf32k o2
  have hd : ∀ y ∈ x.f4, Byte y := fun y hy => wf8k (w4 y hy)
  by_cases hn : 9000 < (x.f4.length : Int)
  · exact Keys_great _ _ _ _ A _ cA a b w hg hC hl hn
  · have hn2 : (x.f4.length : Int) ≤ 9000 := by omega
    cases hM : mayB x.f0 x.f1 false 0 x.f4
    · exact Keys_no _ _ _ _ A _ cA a b w hg hC hl [] hn2 ⟨put_none _ _ _ _ _ hM _ (by omega)⟩ ⟨(rmay_f _ _ _ _ _).trans (congrArg some hM)⟩ rfl
    · obtain ⟨hop, hmk, hlen, hctl⟩ := (mayB_iff ..).1 hM
      have hMa : ∀ k : Int, mayB x.f0 x.f1 true k x.f4 = true := fun k => (mayB_iff ..).2 ⟨hop, .inl rfl, hlen, hctl⟩
      have hX : wsframe_Put.f 20000 x.f0 x.f1 false 0 x.f4 = some (putL x.f0 x.f1 false 0 x.f4) := put_f _ _ _ _ _ h1.1 hM _ (by omega)
      have hY : ∀ k : Int, wsframe_Put.f 20000 x.f0 x.f1 true k x.f4 = some (putL x.f0 x.f1 true k x.f4) := fun k => put_f _ _ _ _ _ h1.1 (hMa k) _ (by omega)
      have m2 : louverref16_May.f x.f0 x.f1 false 0 x.f4 = some true := (rmay_f _ _ _ _ _).trans (congrArg some hM)
      have lX := putL_len h1.1 hd hM
      have lY := fun k : Int => putL_len h1.1 hd (hMa k)
      have lYa := lY a
      have lYb := lY b
      have hf : frontOf true x.f4.length = frontOf false x.f4.length + 4 := by unfold frontOf; simp
      have hf2 : frontOf false x.f4.length ≤ 4 := by unfold frontOf; split <;> simp
      by_cases hab : a = b
      · subst hab
        exact Keys_same _ _ _ _ A _ cA a w hg hC hl _ hn2 ⟨hX⟩ ⟨m2⟩ _ ⟨hY a⟩ ⟨get_put h1.1 hd (hMa a) ha.1 ha.2 _ (by omega)⟩ _ (show _ = ((putL x.f0 x.f1 false 0 x.f4).length : Int) + 4 by rw [i64_w]; unfold wrap64; omega) (beq_iff_eq.mpr (by omega))
      · exact Keys_ok _ _ _ _ A _ cA a b w hg hC hl _ hn2 ⟨hX⟩ ⟨m2⟩ _ _ ⟨hY a⟩ ⟨get_put h1.1 hd (hMa a) ha.1 ha.2 _ (by omega)⟩ ⟨hY b⟩ ⟨get_put h1.1 hd (hMa b) hb.1 hb.2 _ (by omega)⟩ (beq_iff_eq.mpr (by omega)) (beq_iff_eq.mpr (by omega)) (bne_iff_ne.mpr hab) _ (show _ = ((putL x.f0 x.f1 false 0 x.f4).length : Int) + 4 by rw [i64_w]; unfold wrap64; omega) (beq_iff_eq.mpr (by omega))
end Go.Proofs.YtabpngcjlikpkaaDoor
