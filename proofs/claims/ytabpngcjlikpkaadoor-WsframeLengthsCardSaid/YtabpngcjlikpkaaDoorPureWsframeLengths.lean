import Derived.Test.YtabpngcjlikpkaaDoorSaysWsframeLengths
import Derived.Test.YtabpngcjlikpkaaDoorPutHead
import Derived.Test.YtabpngcjlikpkaaDoorPAllx6
import Derived.Test.YtabpngcjlikpkaaDoorPAllx2
namespace Go.Proofs.YtabpngcjlikpkaaDoor
open Go.RowKit Go.Proofs.YtabpngcjlikpkaaDoorW.PrintWords Go.Proofs.YtabpngcjlikpkaaDoorW.PrintLast Go.Proofs.YtabpngcjlikpkaaDoorW.PrintMore Go.Proofs.YtabpngcjlikpkaaDoor.PAll
set_option linter.unusedVariables false
attribute [local go_sem] max2_int min2_int max_two min_two
set_option maxHeartbeats 8000000 in
set_option maxRecDepth 100000 in
theorem Lengths_false_false (n op o1 op2 s : Int) (D L : List Int) (w : World) (hg : Cond w) (hz : D = List.replicate D.length 0) (hD : D.length ≤ 4096) (a1 : IntKind.i64.wrap n = n) (a2 : Int.tmod n 4097 = (D.length : Int)) (a3 : n % 4097 = (D.length : Int)) (a4 : Int.tmod op 2 = o1) (a5 : op % 2 = o1) (a6 : IntKind.u8.wrap (1 + o1) = op2) (t0 : decide (126 ≤ (D.length : Int)) = false) (t1 : decide (126 ≤ D.length) = false) (HP : Aside0 (wsframe_Put.f 20000 true op2 false 0 D = some L)) (HH : Aside0 (wsframe_Head.f L false = some ((L.length : Int), 0, 0, true))) (HH1 : Aside0 (wsframe_Head.f (L.take 1) false = some (0, 0, 0, false))) (l1 : 1 < L.length) (n3 : IntKind.i64.wrap (2 + (D.length : Int)) = s) (n4 : ((L.length : Int) == s) = true) : Calls Tryd.prog 4 #[.int .u16 n, .bool false, .int .u8 op] w fun e w' => e = .returned (.bool true) ∧ Below w.heap.size w w' := by
  have HG := Aside0.mk hg
  clear hg
  have l2 : (1 : Int) < (L.length : Int) := by omega
  have l3 : (1 : Int) ≤ (L.length : Int) := by omega
  have l4 : 1 ≤ L.length := by omega
  have k0 : (0 : Int) ≤ (D.length : Int) := by omega
  have hu37 := Tryd.underlying37
  have hu26 := Tryd.underlying26
  have hmk := print_make (P := Tryd.prog) 23 5 .u8 1 Tryd.underlying23 (by kernel_rfl) (by decide) D.length (by omega)
  have HM : Aside0 (Kd.R (Kd.int .u8) 5 (w.alloc (.cells (madeCells #[.int .u8 0] D.length) 5)) w.heap.size (fun _ => True) (.slice (some ⟨w.heap.size, 0, none⟩) D.length D.length) D) := ⟨by
    have h := own_made' w w.heap.size 5 .u8 D.length (Nat.le_refl _) (by omega)
    rw [← hz] at h
    exact Kd.R_of_own (enc := Value.int .u8) (h1 := fun _ => rfl) h (fun _ _ => trivial)⟩
  have HDZ := Aside0.mk hz
  clear hz
  go_enter Tryd.func4, Tryd.ntmps4
  go_wp2_with fail
  have hK1 : ((w.alloc (.cells (madeCells #[.int .u8 0] D.length) 5)).alloc (.cells #[.bool true, .int .u8 op2, .bool false, .int .u32 0, .slice (some ⟨w.heap.size, 0, none⟩) D.length D.length] 37)).heap[w.heap.size + 1]? = some (.cells #[.bool true, .int .u8 op2, .bool false, .int .u32 0, .slice (some ⟨w.heap.size, 0, none⟩) D.length D.length] 37 (0, 0)) := last_at _ _ _ (by simp)
  have hC1 := Kd.C_alloc (Kd.R_reads' HM.out).2.2 (.cells #[.bool true, .int .u8 op2, .bool false, .int .u32 0, .slice (some ⟨w.heap.size, 0, none⟩) D.length D.length] 37)
  have hB1 : Below w.heap.size w ((w.alloc (.cells (madeCells #[.int .u8 0] D.length) 5)).alloc (.cells #[.bool true, .int .u8 op2, .bool false, .int .u32 0, .slice (some ⟨w.heap.size, 0, none⟩) D.length D.length] 37)) := below_alloc (below_alloc (Below.refl _ _) _) _
  generalize (w.alloc (.cells (madeCells #[.int .u8 0] D.length) 5)).alloc (.cells #[.bool true, .int .u8 op2, .bool false, .int .u32 0, .slice (some ⟨w.heap.size, 0, none⟩) D.length D.length] 37) = w1 at hK1 hC1 hB1 ⊢
  have HB1 := Aside0.mk hB1
  have HC1 := Aside0.mk hC1
  clear hB1 hC1 hK1 hmk HM
  refine (wsframe_Put.calls 20000 true op2 false 0 (some ⟨w.heap.size, 0, none⟩) D.length D L _ HC1.out (Nat.le_refl _) HP.out).mono ?_
  rintro e w2 ⟨vb, rfl, ho, hb⟩
  obtain ⟨Ab, cb, rfl⟩ := Kd.R_slice ho
  have HR2 := Aside0.mk ho
  have HB2 := Aside0.mk (below_step HB1.out hb)
  have lc : L.length ≤ cb := (Kd.R_reads' ho).2.1
  have lc1 : 1 ≤ cb := by omega
  have lc2 : (1 : Int) ≤ (cb : Int) := by omega
  clear ho hb HC1 HB1
  go_wp2_with fail
  refine (wsframe_Head.calls Ab cb L _ _ 0 0 true _ (Kd.R_reads' HR2.out).2.2 lc HH.out (HG.out.below HB2.out)).mono ?_
  rintro e w3 ⟨rfl, hb⟩
  have HR3 := Aside0.mk (Kd.R_below HR2.out hb)
  have HB3 := Aside0.mk (below_step HB2.out hb)
  clear hb HR2 HB2
  go_wp2_with fail
  have hB4 : Below w.heap.size w (w3.alloc (.cells #[.int .u8 0, .int .u32 0] 26)) := below_alloc HB3.out _
  have hb4 : (w3.alloc (.cells #[.int .u8 0, .int .u32 0] 26)).heap[w3.heap.size]? = some (.cells #[.int .u8 0, .int .u32 0] 26 (0, 0)) := last_at _ _ _ rfl
  have hR4 := Kd.R_alloc HR3.out (.cells #[.int .u8 0, .int .u32 0] 26)
  generalize w3.alloc (.cells #[.int .u8 0, .int .u32 0] 26) = w4 at hB4 hb4 hR4 ⊢
  generalize w3.heap.size = g3 at hb4 ⊢
  have HB4 := Aside0.mk hB4
  have Hb4 := Aside0.mk hb4
  have HR4 := Aside0.mk hR4
  clear hB4 hb4 hR4 HB3 HR3
  have hT : (L.take 1).length = 1 := by rw [List.length_take]; omega
  refine (calls_of_args (by rw [hT]) (wsframe_Head.calls Ab cb (L.take 1) _ 0 0 0 false _ (Kd.C_take (Kd.R_reads' HR4.out).2.2 (by omega)) (by rw [hT]; omega) HH1.out (HG.out.below HB4.out))).mono ?_
  rintro e w5 ⟨rfl, hb⟩
  clear hT
  have HB5 := Aside0.mk (below_step HB4.out hb)
  have Hb5 := Aside0.mk (blk_below Hb4.out hb)
  clear hb HB4 Hb4 HR4
  go_wp2_with fail
  have hB6 : Below w.heap.size w (w5.alloc (.cells #[.int .u8 0, .int .u32 0] 26)) := below_alloc HB5.out _
  have hb6 : (w5.alloc (.cells #[.int .u8 0, .int .u32 0] 26)).heap[g3]? = some (.cells #[.int .u8 0, .int .u32 0] 26 (0, 0)) := blk_alloc Hb5.out _
  have hc6 : (w5.alloc (.cells #[.int .u8 0, .int .u32 0] 26)).heap[w5.heap.size]? = some (.cells #[.int .u8 0, .int .u32 0] 26 (0, 0)) := last_at _ _ _ rfl
  generalize w5.alloc (.cells #[.int .u8 0, .int .u32 0] 26) = w6 at hB6 hb6 hc6 ⊢
  generalize w5.heap.size = g5 at hc6 ⊢
  clear HB5 Hb5
  refine (louverlaw16_fixed.calls true _ rfl).mono ?_
  rintro e w7 ⟨rfl, hb⟩
  have HB7 := Aside0.mk (below_step hB6 hb)
  have hb7 := blk_below hb6 hb
  have hc7 := blk_below hc6 hb
  clear hb hB6 hb6 hc6
  have p0 : w7.cell? ⟨g3, 0, none⟩ = some (.int .u8 0) := (blk_cell hb7 0).trans rfl
  have p1 : w7.cell? ⟨g3, 1, none⟩ = some (.int .u32 0) := (blk_cell hb7 1).trans rfl
  have pl := blk_lt hb7
  have q0 : w7.cell? ⟨g5, 0, none⟩ = some (.int .u8 0) := (blk_cell hc7 0).trans rfl
  have q1 : w7.cell? ⟨g5, 1, none⟩ = some (.int .u32 0) := (blk_cell hc7 1).trans rfl
  have ql := blk_lt hc7
  clear hb7 hc7
  go_wp2_with fail
  go_ret
  exact ⟨rfl, HB7.out⟩
set_option maxHeartbeats 8000000 in
set_option maxRecDepth 100000 in
theorem Lengths_false_true (n op o1 op2 s : Int) (D L : List Int) (w : World) (hg : Cond w) (hz : D = List.replicate D.length 0) (hD : D.length ≤ 4096) (a1 : IntKind.i64.wrap n = n) (a2 : Int.tmod n 4097 = (D.length : Int)) (a3 : n % 4097 = (D.length : Int)) (a4 : Int.tmod op 2 = o1) (a5 : op % 2 = o1) (a6 : IntKind.u8.wrap (1 + o1) = op2) (t0 : decide (126 ≤ (D.length : Int)) = false) (t1 : decide (126 ≤ D.length) = false) (HP : Aside0 (wsframe_Put.f 20000 true op2 true 0 D = some L)) (HH : Aside0 (wsframe_Head.f L true = some ((L.length : Int), 0, 0, true))) (HH1 : Aside0 (wsframe_Head.f (L.take 1) true = some (0, 0, 0, false))) (l1 : 1 < L.length) (n3 : IntKind.i64.wrap (6 + (D.length : Int)) = s) (n4 : ((L.length : Int) == s) = true) : Calls Tryd.prog 4 #[.int .u16 n, .bool true, .int .u8 op] w fun e w' => e = .returned (.bool true) ∧ Below w.heap.size w w' := by
  have HG := Aside0.mk hg
  clear hg
  have l2 : (1 : Int) < (L.length : Int) := by omega
  have l3 : (1 : Int) ≤ (L.length : Int) := by omega
  have l4 : 1 ≤ L.length := by omega
  have k0 : (0 : Int) ≤ (D.length : Int) := by omega
  have hu37 := Tryd.underlying37
  have hu26 := Tryd.underlying26
  have hmk := print_make (P := Tryd.prog) 23 5 .u8 1 Tryd.underlying23 (by kernel_rfl) (by decide) D.length (by omega)
  have HM : Aside0 (Kd.R (Kd.int .u8) 5 (w.alloc (.cells (madeCells #[.int .u8 0] D.length) 5)) w.heap.size (fun _ => True) (.slice (some ⟨w.heap.size, 0, none⟩) D.length D.length) D) := ⟨by
    have h := own_made' w w.heap.size 5 .u8 D.length (Nat.le_refl _) (by omega)
    rw [← hz] at h
    exact Kd.R_of_own (enc := Value.int .u8) (h1 := fun _ => rfl) h (fun _ _ => trivial)⟩
  have HDZ := Aside0.mk hz
  clear hz
  go_enter Tryd.func4, Tryd.ntmps4
  go_wp2_with fail
  have hK1 : ((w.alloc (.cells (madeCells #[.int .u8 0] D.length) 5)).alloc (.cells #[.bool true, .int .u8 op2, .bool true, .int .u32 0, .slice (some ⟨w.heap.size, 0, none⟩) D.length D.length] 37)).heap[w.heap.size + 1]? = some (.cells #[.bool true, .int .u8 op2, .bool true, .int .u32 0, .slice (some ⟨w.heap.size, 0, none⟩) D.length D.length] 37 (0, 0)) := last_at _ _ _ (by simp)
  have hC1 := Kd.C_alloc (Kd.R_reads' HM.out).2.2 (.cells #[.bool true, .int .u8 op2, .bool true, .int .u32 0, .slice (some ⟨w.heap.size, 0, none⟩) D.length D.length] 37)
  have hB1 : Below w.heap.size w ((w.alloc (.cells (madeCells #[.int .u8 0] D.length) 5)).alloc (.cells #[.bool true, .int .u8 op2, .bool true, .int .u32 0, .slice (some ⟨w.heap.size, 0, none⟩) D.length D.length] 37)) := below_alloc (below_alloc (Below.refl _ _) _) _
  generalize (w.alloc (.cells (madeCells #[.int .u8 0] D.length) 5)).alloc (.cells #[.bool true, .int .u8 op2, .bool true, .int .u32 0, .slice (some ⟨w.heap.size, 0, none⟩) D.length D.length] 37) = w1 at hK1 hC1 hB1 ⊢
  have HB1 := Aside0.mk hB1
  have HC1 := Aside0.mk hC1
  clear hB1 hC1 hK1 hmk HM
  refine (wsframe_Put.calls 20000 true op2 true 0 (some ⟨w.heap.size, 0, none⟩) D.length D L _ HC1.out (Nat.le_refl _) HP.out).mono ?_
  rintro e w2 ⟨vb, rfl, ho, hb⟩
  obtain ⟨Ab, cb, rfl⟩ := Kd.R_slice ho
  have HR2 := Aside0.mk ho
  have HB2 := Aside0.mk (below_step HB1.out hb)
  have lc : L.length ≤ cb := (Kd.R_reads' ho).2.1
  have lc1 : 1 ≤ cb := by omega
  have lc2 : (1 : Int) ≤ (cb : Int) := by omega
  clear ho hb HC1 HB1
  go_wp2_with fail
  refine (wsframe_Head.calls Ab cb L _ _ 0 0 true _ (Kd.R_reads' HR2.out).2.2 lc HH.out (HG.out.below HB2.out)).mono ?_
  rintro e w3 ⟨rfl, hb⟩
  have HR3 := Aside0.mk (Kd.R_below HR2.out hb)
  have HB3 := Aside0.mk (below_step HB2.out hb)
  clear hb HR2 HB2
  go_wp2_with fail
  have hB4 : Below w.heap.size w (w3.alloc (.cells #[.int .u8 0, .int .u32 0] 26)) := below_alloc HB3.out _
  have hb4 : (w3.alloc (.cells #[.int .u8 0, .int .u32 0] 26)).heap[w3.heap.size]? = some (.cells #[.int .u8 0, .int .u32 0] 26 (0, 0)) := last_at _ _ _ rfl
  have hR4 := Kd.R_alloc HR3.out (.cells #[.int .u8 0, .int .u32 0] 26)
  generalize w3.alloc (.cells #[.int .u8 0, .int .u32 0] 26) = w4 at hB4 hb4 hR4 ⊢
  generalize w3.heap.size = g3 at hb4 ⊢
  have HB4 := Aside0.mk hB4
  have Hb4 := Aside0.mk hb4
  have HR4 := Aside0.mk hR4
  clear hB4 hb4 hR4 HB3 HR3
  have hT : (L.take 1).length = 1 := by rw [List.length_take]; omega
  refine (calls_of_args (by rw [hT]) (wsframe_Head.calls Ab cb (L.take 1) _ 0 0 0 false _ (Kd.C_take (Kd.R_reads' HR4.out).2.2 (by omega)) (by rw [hT]; omega) HH1.out (HG.out.below HB4.out))).mono ?_
  rintro e w5 ⟨rfl, hb⟩
  clear hT
  have HB5 := Aside0.mk (below_step HB4.out hb)
  have Hb5 := Aside0.mk (blk_below Hb4.out hb)
  clear hb HB4 Hb4 HR4
  go_wp2_with fail
  have hB6 : Below w.heap.size w (w5.alloc (.cells #[.int .u8 0, .int .u32 0] 26)) := below_alloc HB5.out _
  have hb6 : (w5.alloc (.cells #[.int .u8 0, .int .u32 0] 26)).heap[g3]? = some (.cells #[.int .u8 0, .int .u32 0] 26 (0, 0)) := blk_alloc Hb5.out _
  have hc6 : (w5.alloc (.cells #[.int .u8 0, .int .u32 0] 26)).heap[w5.heap.size]? = some (.cells #[.int .u8 0, .int .u32 0] 26 (0, 0)) := last_at _ _ _ rfl
  generalize w5.alloc (.cells #[.int .u8 0, .int .u32 0] 26) = w6 at hB6 hb6 hc6 ⊢
  generalize w5.heap.size = g5 at hc6 ⊢
  clear HB5 Hb5
  refine (louverlaw16_fixed.calls true _ rfl).mono ?_
  rintro e w7 ⟨rfl, hb⟩
  have HB7 := Aside0.mk (below_step hB6 hb)
  have hb7 := blk_below hb6 hb
  have hc7 := blk_below hc6 hb
  clear hb hB6 hb6 hc6
  have p0 : w7.cell? ⟨g3, 0, none⟩ = some (.int .u8 0) := (blk_cell hb7 0).trans rfl
  have p1 : w7.cell? ⟨g3, 1, none⟩ = some (.int .u32 0) := (blk_cell hb7 1).trans rfl
  have pl := blk_lt hb7
  have q0 : w7.cell? ⟨g5, 0, none⟩ = some (.int .u8 0) := (blk_cell hc7 0).trans rfl
  have q1 : w7.cell? ⟨g5, 1, none⟩ = some (.int .u32 0) := (blk_cell hc7 1).trans rfl
  have ql := blk_lt hc7
  clear hb7 hc7
  go_wp2_with fail
  go_ret
  exact ⟨rfl, HB7.out⟩
set_option maxHeartbeats 8000000 in
set_option maxRecDepth 100000 in
theorem Lengths_true_false (n op o1 op2 s : Int) (D L : List Int) (w : World) (hg : Cond w) (hz : D = List.replicate D.length 0) (hD : D.length ≤ 4096) (a1 : IntKind.i64.wrap n = n) (a2 : Int.tmod n 4097 = (D.length : Int)) (a3 : n % 4097 = (D.length : Int)) (a4 : Int.tmod op 2 = o1) (a5 : op % 2 = o1) (a6 : IntKind.u8.wrap (1 + o1) = op2) (t0 : decide (126 ≤ (D.length : Int)) = true) (t1 : decide (126 ≤ D.length) = true) (HP : Aside0 (wsframe_Put.f 20000 true op2 false 0 D = some L)) (HH : Aside0 (wsframe_Head.f L false = some ((L.length : Int), 0, 0, true))) (HH1 : Aside0 (wsframe_Head.f (L.take 1) false = some (0, 0, 0, false))) (l1 : 1 < L.length) (n3 : IntKind.i64.wrap (4 + (D.length : Int)) = s) (n4 : ((L.length : Int) == s) = true) : Calls Tryd.prog 4 #[.int .u16 n, .bool false, .int .u8 op] w fun e w' => e = .returned (.bool true) ∧ Below w.heap.size w w' := by
  have HG := Aside0.mk hg
  clear hg
  have l2 : (1 : Int) < (L.length : Int) := by omega
  have l3 : (1 : Int) ≤ (L.length : Int) := by omega
  have l4 : 1 ≤ L.length := by omega
  have k0 : (0 : Int) ≤ (D.length : Int) := by omega
  have hu37 := Tryd.underlying37
  have hu26 := Tryd.underlying26
  have hmk := print_make (P := Tryd.prog) 23 5 .u8 1 Tryd.underlying23 (by kernel_rfl) (by decide) D.length (by omega)
  have HM : Aside0 (Kd.R (Kd.int .u8) 5 (w.alloc (.cells (madeCells #[.int .u8 0] D.length) 5)) w.heap.size (fun _ => True) (.slice (some ⟨w.heap.size, 0, none⟩) D.length D.length) D) := ⟨by
    have h := own_made' w w.heap.size 5 .u8 D.length (Nat.le_refl _) (by omega)
    rw [← hz] at h
    exact Kd.R_of_own (enc := Value.int .u8) (h1 := fun _ => rfl) h (fun _ _ => trivial)⟩
  have HDZ := Aside0.mk hz
  clear hz
  go_enter Tryd.func4, Tryd.ntmps4
  go_wp2_with fail
  have hK1 : ((w.alloc (.cells (madeCells #[.int .u8 0] D.length) 5)).alloc (.cells #[.bool true, .int .u8 op2, .bool false, .int .u32 0, .slice (some ⟨w.heap.size, 0, none⟩) D.length D.length] 37)).heap[w.heap.size + 1]? = some (.cells #[.bool true, .int .u8 op2, .bool false, .int .u32 0, .slice (some ⟨w.heap.size, 0, none⟩) D.length D.length] 37 (0, 0)) := last_at _ _ _ (by simp)
  have hC1 := Kd.C_alloc (Kd.R_reads' HM.out).2.2 (.cells #[.bool true, .int .u8 op2, .bool false, .int .u32 0, .slice (some ⟨w.heap.size, 0, none⟩) D.length D.length] 37)
  have hB1 : Below w.heap.size w ((w.alloc (.cells (madeCells #[.int .u8 0] D.length) 5)).alloc (.cells #[.bool true, .int .u8 op2, .bool false, .int .u32 0, .slice (some ⟨w.heap.size, 0, none⟩) D.length D.length] 37)) := below_alloc (below_alloc (Below.refl _ _) _) _
  generalize (w.alloc (.cells (madeCells #[.int .u8 0] D.length) 5)).alloc (.cells #[.bool true, .int .u8 op2, .bool false, .int .u32 0, .slice (some ⟨w.heap.size, 0, none⟩) D.length D.length] 37) = w1 at hK1 hC1 hB1 ⊢
  have HB1 := Aside0.mk hB1
  have HC1 := Aside0.mk hC1
  clear hB1 hC1 hK1 hmk HM
  refine (wsframe_Put.calls 20000 true op2 false 0 (some ⟨w.heap.size, 0, none⟩) D.length D L _ HC1.out (Nat.le_refl _) HP.out).mono ?_
  rintro e w2 ⟨vb, rfl, ho, hb⟩
  obtain ⟨Ab, cb, rfl⟩ := Kd.R_slice ho
  have HR2 := Aside0.mk ho
  have HB2 := Aside0.mk (below_step HB1.out hb)
  have lc : L.length ≤ cb := (Kd.R_reads' ho).2.1
  have lc1 : 1 ≤ cb := by omega
  have lc2 : (1 : Int) ≤ (cb : Int) := by omega
  clear ho hb HC1 HB1
  go_wp2_with fail
  refine (wsframe_Head.calls Ab cb L _ _ 0 0 true _ (Kd.R_reads' HR2.out).2.2 lc HH.out (HG.out.below HB2.out)).mono ?_
  rintro e w3 ⟨rfl, hb⟩
  have HR3 := Aside0.mk (Kd.R_below HR2.out hb)
  have HB3 := Aside0.mk (below_step HB2.out hb)
  clear hb HR2 HB2
  go_wp2_with fail
  have hB4 : Below w.heap.size w (w3.alloc (.cells #[.int .u8 0, .int .u32 0] 26)) := below_alloc HB3.out _
  have hb4 : (w3.alloc (.cells #[.int .u8 0, .int .u32 0] 26)).heap[w3.heap.size]? = some (.cells #[.int .u8 0, .int .u32 0] 26 (0, 0)) := last_at _ _ _ rfl
  have hR4 := Kd.R_alloc HR3.out (.cells #[.int .u8 0, .int .u32 0] 26)
  generalize w3.alloc (.cells #[.int .u8 0, .int .u32 0] 26) = w4 at hB4 hb4 hR4 ⊢
  generalize w3.heap.size = g3 at hb4 ⊢
  have HB4 := Aside0.mk hB4
  have Hb4 := Aside0.mk hb4
  have HR4 := Aside0.mk hR4
  clear hB4 hb4 hR4 HB3 HR3
  have hT : (L.take 1).length = 1 := by rw [List.length_take]; omega
  refine (calls_of_args (by rw [hT]) (wsframe_Head.calls Ab cb (L.take 1) _ 0 0 0 false _ (Kd.C_take (Kd.R_reads' HR4.out).2.2 (by omega)) (by rw [hT]; omega) HH1.out (HG.out.below HB4.out))).mono ?_
  rintro e w5 ⟨rfl, hb⟩
  clear hT
  have HB5 := Aside0.mk (below_step HB4.out hb)
  have Hb5 := Aside0.mk (blk_below Hb4.out hb)
  clear hb HB4 Hb4 HR4
  go_wp2_with fail
  have hB6 : Below w.heap.size w (w5.alloc (.cells #[.int .u8 0, .int .u32 0] 26)) := below_alloc HB5.out _
  have hb6 : (w5.alloc (.cells #[.int .u8 0, .int .u32 0] 26)).heap[g3]? = some (.cells #[.int .u8 0, .int .u32 0] 26 (0, 0)) := blk_alloc Hb5.out _
  have hc6 : (w5.alloc (.cells #[.int .u8 0, .int .u32 0] 26)).heap[w5.heap.size]? = some (.cells #[.int .u8 0, .int .u32 0] 26 (0, 0)) := last_at _ _ _ rfl
  generalize w5.alloc (.cells #[.int .u8 0, .int .u32 0] 26) = w6 at hB6 hb6 hc6 ⊢
  generalize w5.heap.size = g5 at hc6 ⊢
  clear HB5 Hb5
  refine (louverlaw16_fixed.calls true _ rfl).mono ?_
  rintro e w7 ⟨rfl, hb⟩
  have HB7 := Aside0.mk (below_step hB6 hb)
  have hb7 := blk_below hb6 hb
  have hc7 := blk_below hc6 hb
  clear hb hB6 hb6 hc6
  have p0 : w7.cell? ⟨g3, 0, none⟩ = some (.int .u8 0) := (blk_cell hb7 0).trans rfl
  have p1 : w7.cell? ⟨g3, 1, none⟩ = some (.int .u32 0) := (blk_cell hb7 1).trans rfl
  have pl := blk_lt hb7
  have q0 : w7.cell? ⟨g5, 0, none⟩ = some (.int .u8 0) := (blk_cell hc7 0).trans rfl
  have q1 : w7.cell? ⟨g5, 1, none⟩ = some (.int .u32 0) := (blk_cell hc7 1).trans rfl
  have ql := blk_lt hc7
  clear hb7 hc7
  go_wp2_with fail
  go_ret
  exact ⟨rfl, HB7.out⟩
set_option maxHeartbeats 8000000 in
set_option maxRecDepth 100000 in
theorem Lengths_true_true (n op o1 op2 s : Int) (D L : List Int) (w : World) (hg : Cond w) (hz : D = List.replicate D.length 0) (hD : D.length ≤ 4096) (a1 : IntKind.i64.wrap n = n) (a2 : Int.tmod n 4097 = (D.length : Int)) (a3 : n % 4097 = (D.length : Int)) (a4 : Int.tmod op 2 = o1) (a5 : op % 2 = o1) (a6 : IntKind.u8.wrap (1 + o1) = op2) (t0 : decide (126 ≤ (D.length : Int)) = true) (t1 : decide (126 ≤ D.length) = true) (HP : Aside0 (wsframe_Put.f 20000 true op2 true 0 D = some L)) (HH : Aside0 (wsframe_Head.f L true = some ((L.length : Int), 0, 0, true))) (HH1 : Aside0 (wsframe_Head.f (L.take 1) true = some (0, 0, 0, false))) (l1 : 1 < L.length) (n3 : IntKind.i64.wrap (8 + (D.length : Int)) = s) (n4 : ((L.length : Int) == s) = true) : Calls Tryd.prog 4 #[.int .u16 n, .bool true, .int .u8 op] w fun e w' => e = .returned (.bool true) ∧ Below w.heap.size w w' := by
  have HG := Aside0.mk hg
  clear hg
  have l2 : (1 : Int) < (L.length : Int) := by omega
  have l3 : (1 : Int) ≤ (L.length : Int) := by omega
  have l4 : 1 ≤ L.length := by omega
  have k0 : (0 : Int) ≤ (D.length : Int) := by omega
  have hu37 := Tryd.underlying37
  have hu26 := Tryd.underlying26
  have hmk := print_make (P := Tryd.prog) 23 5 .u8 1 Tryd.underlying23 (by kernel_rfl) (by decide) D.length (by omega)
  have HM : Aside0 (Kd.R (Kd.int .u8) 5 (w.alloc (.cells (madeCells #[.int .u8 0] D.length) 5)) w.heap.size (fun _ => True) (.slice (some ⟨w.heap.size, 0, none⟩) D.length D.length) D) := ⟨by
    have h := own_made' w w.heap.size 5 .u8 D.length (Nat.le_refl _) (by omega)
    rw [← hz] at h
    exact Kd.R_of_own (enc := Value.int .u8) (h1 := fun _ => rfl) h (fun _ _ => trivial)⟩
  have HDZ := Aside0.mk hz
  clear hz
  go_enter Tryd.func4, Tryd.ntmps4
  go_wp2_with fail
  have hK1 : ((w.alloc (.cells (madeCells #[.int .u8 0] D.length) 5)).alloc (.cells #[.bool true, .int .u8 op2, .bool true, .int .u32 0, .slice (some ⟨w.heap.size, 0, none⟩) D.length D.length] 37)).heap[w.heap.size + 1]? = some (.cells #[.bool true, .int .u8 op2, .bool true, .int .u32 0, .slice (some ⟨w.heap.size, 0, none⟩) D.length D.length] 37 (0, 0)) := last_at _ _ _ (by simp)
  have hC1 := Kd.C_alloc (Kd.R_reads' HM.out).2.2 (.cells #[.bool true, .int .u8 op2, .bool true, .int .u32 0, .slice (some ⟨w.heap.size, 0, none⟩) D.length D.length] 37)
  have hB1 : Below w.heap.size w ((w.alloc (.cells (madeCells #[.int .u8 0] D.length) 5)).alloc (.cells #[.bool true, .int .u8 op2, .bool true, .int .u32 0, .slice (some ⟨w.heap.size, 0, none⟩) D.length D.length] 37)) := below_alloc (below_alloc (Below.refl _ _) _) _
  generalize (w.alloc (.cells (madeCells #[.int .u8 0] D.length) 5)).alloc (.cells #[.bool true, .int .u8 op2, .bool true, .int .u32 0, .slice (some ⟨w.heap.size, 0, none⟩) D.length D.length] 37) = w1 at hK1 hC1 hB1 ⊢
  have HB1 := Aside0.mk hB1
  have HC1 := Aside0.mk hC1
  clear hB1 hC1 hK1 hmk HM
  refine (wsframe_Put.calls 20000 true op2 true 0 (some ⟨w.heap.size, 0, none⟩) D.length D L _ HC1.out (Nat.le_refl _) HP.out).mono ?_
  rintro e w2 ⟨vb, rfl, ho, hb⟩
  obtain ⟨Ab, cb, rfl⟩ := Kd.R_slice ho
  have HR2 := Aside0.mk ho
  have HB2 := Aside0.mk (below_step HB1.out hb)
  have lc : L.length ≤ cb := (Kd.R_reads' ho).2.1
  have lc1 : 1 ≤ cb := by omega
  have lc2 : (1 : Int) ≤ (cb : Int) := by omega
  clear ho hb HC1 HB1
  go_wp2_with fail
  refine (wsframe_Head.calls Ab cb L _ _ 0 0 true _ (Kd.R_reads' HR2.out).2.2 lc HH.out (HG.out.below HB2.out)).mono ?_
  rintro e w3 ⟨rfl, hb⟩
  have HR3 := Aside0.mk (Kd.R_below HR2.out hb)
  have HB3 := Aside0.mk (below_step HB2.out hb)
  clear hb HR2 HB2
  go_wp2_with fail
  have hB4 : Below w.heap.size w (w3.alloc (.cells #[.int .u8 0, .int .u32 0] 26)) := below_alloc HB3.out _
  have hb4 : (w3.alloc (.cells #[.int .u8 0, .int .u32 0] 26)).heap[w3.heap.size]? = some (.cells #[.int .u8 0, .int .u32 0] 26 (0, 0)) := last_at _ _ _ rfl
  have hR4 := Kd.R_alloc HR3.out (.cells #[.int .u8 0, .int .u32 0] 26)
  generalize w3.alloc (.cells #[.int .u8 0, .int .u32 0] 26) = w4 at hB4 hb4 hR4 ⊢
  generalize w3.heap.size = g3 at hb4 ⊢
  have HB4 := Aside0.mk hB4
  have Hb4 := Aside0.mk hb4
  have HR4 := Aside0.mk hR4
  clear hB4 hb4 hR4 HB3 HR3
  have hT : (L.take 1).length = 1 := by rw [List.length_take]; omega
  refine (calls_of_args (by rw [hT]) (wsframe_Head.calls Ab cb (L.take 1) _ 0 0 0 false _ (Kd.C_take (Kd.R_reads' HR4.out).2.2 (by omega)) (by rw [hT]; omega) HH1.out (HG.out.below HB4.out))).mono ?_
  rintro e w5 ⟨rfl, hb⟩
  clear hT
  have HB5 := Aside0.mk (below_step HB4.out hb)
  have Hb5 := Aside0.mk (blk_below Hb4.out hb)
  clear hb HB4 Hb4 HR4
  go_wp2_with fail
  have hB6 : Below w.heap.size w (w5.alloc (.cells #[.int .u8 0, .int .u32 0] 26)) := below_alloc HB5.out _
  have hb6 : (w5.alloc (.cells #[.int .u8 0, .int .u32 0] 26)).heap[g3]? = some (.cells #[.int .u8 0, .int .u32 0] 26 (0, 0)) := blk_alloc Hb5.out _
  have hc6 : (w5.alloc (.cells #[.int .u8 0, .int .u32 0] 26)).heap[w5.heap.size]? = some (.cells #[.int .u8 0, .int .u32 0] 26 (0, 0)) := last_at _ _ _ rfl
  generalize w5.alloc (.cells #[.int .u8 0, .int .u32 0] 26) = w6 at hB6 hb6 hc6 ⊢
  generalize w5.heap.size = g5 at hc6 ⊢
  clear HB5 Hb5
  refine (louverlaw16_fixed.calls true _ rfl).mono ?_
  rintro e w7 ⟨rfl, hb⟩
  have HB7 := Aside0.mk (below_step hB6 hb)
  have hb7 := blk_below hb6 hb
  have hc7 := blk_below hc6 hb
  clear hb hB6 hb6 hc6
  have p0 : w7.cell? ⟨g3, 0, none⟩ = some (.int .u8 0) := (blk_cell hb7 0).trans rfl
  have p1 : w7.cell? ⟨g3, 1, none⟩ = some (.int .u32 0) := (blk_cell hb7 1).trans rfl
  have pl := blk_lt hb7
  have q0 : w7.cell? ⟨g5, 0, none⟩ = some (.int .u8 0) := (blk_cell hc7 0).trans rfl
  have q1 : w7.cell? ⟨g5, 1, none⟩ = some (.int .u32 0) := (blk_cell hc7 1).trans rfl
  have ql := blk_lt hc7
  clear hb7 hc7
  go_wp2_with fail
  go_ret
  exact ⟨rfl, HB7.out⟩
theorem wf8' {x : Int} (h : (Lit.int .u8 x).wf = true) : 0 ≤ x ∧ x ≤ 255 := by simpa [Lit.wf, IntKind.min, IntKind.max, IntKind.signed, IntKind.bits] using h
theorem wf16 {x : Int} (h : (Lit.int .u16 x).wf = true) : 0 ≤ x ∧ x ≤ 65535 := by simpa [Lit.wf, IntKind.min, IntKind.max, IntKind.signed, IntKind.bits] using h
/-- One byte of a frame tells that more is to come. -/
theorem head_one {fin : Bool} {op : Int} {mask : Bool} {key : Int} {d : List Int} (h0 : 0 ≤ op) (hd : ∀ x ∈ d, Byte x) (hM : mayB fin op mask key d = true) (m : Bool) : wsframe_Head.f ((putL fin op mask key d).take 1) m = some (0, 0, 0, false) := by
  obtain ⟨hop, hmk, hlen, hctl⟩ := (mayB_iff ..).1 hM
  obtain ⟨e1, e2, e3, e4, e5⟩ := putL_first h0 hd hM
  have hb := putL_bytes h0 hd hM
  have hb1 : ((putL fin op mask key d).take 1).all isByte = true := by
    rw [List.all_eq_true] at hb ⊢
    exact fun x hx => hb x (List.mem_of_mem_take hx)
  have hr : rd ((putL fin op mask key d).take 1) 0 = rd (putL fin op mask key d) 0 := rfl
  have hk : knownB op = true := (knownB_iff op).2 hop
  have hl1 : ((putL fin op mask key d).take 1).length = 1 := rfl
  have hh : headF ((putL fin op mask key d).take 1) m = (0, 0, true, 0) := by
    unfold headF
    rw [hl1, hr, e1, e2, hk, if_neg (by decide), if_neg (by
      rintro (h | h | h)
      · exact h rfl
      · cases h
      · have hft : fin = true := by
          rcases hctl with h8 | h8
          · omega
          · exact h8.1
        have := of_decide_eq_true (e3.trans hft)
        omega), if_pos rfl]
  unfold wsframe_Head.f HeadF
  rw [if_pos hb1, hh]
  rfl
theorem Pure.WsframeLengths : Says.WsframeLengths := by
  intro n m op w o0 o2 hg
  have hn := wf16 o0
  have hop := wf8' o2
  obtain ⟨D, hDl, hDz⟩ : ∃ D : List Int, (D.length : Int) = n % 4097 ∧ D = List.replicate D.length 0 := ⟨List.replicate (n % 4097).toNat 0, by simp; omega, by simp⟩
  have hDb : ∀ x ∈ D, Byte x := fun x hx => by
    rw [hDz] at hx
    obtain rfl := (List.mem_replicate.1 hx).2
    exact ⟨by decide, by decide⟩
  have hD : D.length ≤ 4096 := by omega
  have a1 : IntKind.i64.wrap n = n := by rw [i64_w]; unfold wrap64; omega
  have a2 : Int.tmod n 4097 = (D.length : Int) := by rw [Int.tmod_eq_emod_of_nonneg hn.1]; omega
  have a4 : Int.tmod op 2 = op % 2 := Int.tmod_eq_emod_of_nonneg hop.1
  have a6 : IntKind.u8.wrap (1 + op % 2) = 1 + op % 2 := by
    have : IntKind.u8.wrap (1 + op % 2) = (1 + op % 2) % 256 := by simp [IntKind.wrap, IntKind.bits, IntKind.signed]
    rw [this]; omega
  have h0 : 0 ≤ 1 + op % 2 := by omega
  have hM : mayB true (1 + op % 2) m 0 D = true := (mayB_iff ..).2 ⟨.inl (by omega), .inr rfl, by omega, .inl (by omega)⟩
  have hP : wsframe_Put.f 20000 true (1 + op % 2) m 0 D = some (putL true (1 + op % 2) m 0 D) := put_f _ _ _ _ _ h0 hM _ (by omega)
  have hl := putL_len h0 hDb hM
  have hH := head_put h0 hDb hM m rfl
  have h1 := head_one h0 hDb hM m
  by_cases hbig : 126 ≤ (D.length : Int)
  · have hf : frontOf m D.length = 4 + (if m = true then 4 else 0) := by unfold frontOf; rw [if_neg (by omega)]
    rw [hf] at hl
    cases m
    · rw [if_neg (by decide)] at hl
      exact Lengths_true_false n op _ _ _ D _ w hg hDz hD a1 a2 hDl.symm a4 rfl a6 (decide_eq_true hbig) (decide_eq_true (by omega)) ⟨hP⟩ ⟨hH⟩ ⟨h1⟩ (by omega) (show _ = (4 + (D.length : Int)) by rw [i64_w]; unfold wrap64; omega) (beq_iff_eq.mpr (by omega))
    · rw [if_pos rfl] at hl
      exact Lengths_true_true n op _ _ _ D _ w hg hDz hD a1 a2 hDl.symm a4 rfl a6 (decide_eq_true hbig) (decide_eq_true (by omega)) ⟨hP⟩ ⟨hH⟩ ⟨h1⟩ (by omega) (show _ = (8 + (D.length : Int)) by rw [i64_w]; unfold wrap64; omega) (beq_iff_eq.mpr (by omega))
  · have hf : frontOf m D.length = 2 + (if m = true then 4 else 0) := by unfold frontOf; rw [if_pos (by omega)]
    rw [hf] at hl
    cases m
    · rw [if_neg (by decide)] at hl
      exact Lengths_false_false n op _ _ _ D _ w hg hDz hD a1 a2 hDl.symm a4 rfl a6 (decide_eq_false hbig) (decide_eq_false (by omega)) ⟨hP⟩ ⟨hH⟩ ⟨h1⟩ (by omega) (show _ = (2 + (D.length : Int)) by rw [i64_w]; unfold wrap64; omega) (beq_iff_eq.mpr (by omega))
    · rw [if_pos rfl] at hl
      exact Lengths_false_true n op _ _ _ D _ w hg hDz hD a1 a2 hDl.symm a4 rfl a6 (decide_eq_false hbig) (decide_eq_false (by omega)) ⟨hP⟩ ⟨hH⟩ ⟨h1⟩ (by omega) (show _ = (6 + (D.length : Int)) by rw [i64_w]; unfold wrap64; omega) (beq_iff_eq.mpr (by omega))
end Go.Proofs.YtabpngcjlikpkaaDoor
