/- What the law's row rests on, part 12. -/
import Derived.Test.YtbjjobifpmjhhaaDoorZ11
/- The document's gatherer: what its Take answers. -/
namespace Go.Proofs.YtbjjobifpmjhhaaDoor
open Go.RowKit Go.Proofs.YtbjjobifpmjhhaaDoorW.PrintWords Go.Proofs.YtbjjobifpmjhhaaDoorW.PrintLast Go.Proofs.YtbjjobifpmjhhaaDoorW.PrintMore Go.Proofs.YtbjjobifpmjhhaaDoor.PAll Go.Proofs.YtbjjobifpmjhhaaDoor.U
set_option linter.unusedVariables false
set_option linter.unusedSimpArgs false
theorem Rd.drew {B : Nat} {w : World} {A : Option Addr} {d : List Int} (h : Rd B w A d) : Rd B w.drew A d := h
theorem heap_sets4d {W : World} {q k : Nat} {x0 x1 x2 x3 : Value} (h : q ≠ k) : ((((W.setCell ⟨k, 0, none⟩ x0).setCell ⟨k, 1, none⟩ x1).setCell ⟨k, 2, none⟩ x2).setCell ⟨k, 3, none⟩ x3).drew.heap[q]? = W.heap[q]? := heap_sets4 h
set_option maxHeartbeats 8000000 in
set_option maxRecDepth 100000 in
theorem reft_over {b : List Int} {busy text fin mk : Bool} {op key : Int} {A : Option Addr} {c : Nat} {d : List Int} {w : World} {B : Nat} (hBw : B ≤ w.heap.size) (hC : Rd B w A d) (hc : d.length ≤ c) : Calls Tryd.prog 17 #[gmV b busy text true, .agg #[.bool fin, .int .u8 op, .bool mk, .int .u32 key, .slice A d.length c]] w (RefPost B b busy text true 0 false [] 0 false w) := by
  have hug := Tryd.underlying40
  have hu30 := Tryd.underlying30
  have hu26 := Tryd.underlying26
  have HC := Aside0.mk hC
  clear hC
  have hle0 : w.heap.size ≤ w.heap.size := by omega
  have hle1 : w.heap.size ≤ w.heap.size + 1 := by omega
  have hle2 : w.heap.size ≤ w.heap.size + 1 + 1 := by omega
  have hle3 : w.heap.size ≤ w.heap.size + 1 + 1 + 1 := by omega
  have hle4 : w.heap.size ≤ w.heap.size + 1 + 1 + 1 + 1 := by omega
  have hb1 : Below w.heap.size w (((((w.alloc (.cells #[.string (strOfNums b), .bool busy, .bool text, .bool true] 40)).alloc (.cells #[.bool fin, .int .u8 op, .bool mk, .int .u32 key, .slice A d.length c] 26)).alloc (.cells #[.string (⟨#[]⟩ : ByteArray), .bool false, .bool false, .bool false] 40)).alloc (.cells #[.int .u8 0, .bool false, .slice none 0 0, .int .u32 0] 30)).alloc (.cells #[.int .u8 0, .bool false, .slice none 0 0, .int .u32 0] 30)) := below_alloc (below_alloc (below_alloc (below_alloc (below_alloc (Below.refl _ _) _) _) _) _) _
  have hgb : (((((w.alloc (.cells #[.string (strOfNums b), .bool busy, .bool text, .bool true] 40)).alloc (.cells #[.bool fin, .int .u8 op, .bool mk, .int .u32 key, .slice A d.length c] 26)).alloc (.cells #[.string (⟨#[]⟩ : ByteArray), .bool false, .bool false, .bool false] 40)).alloc (.cells #[.int .u8 0, .bool false, .slice none 0 0, .int .u32 0] 30)).alloc (.cells #[.int .u8 0, .bool false, .slice none 0 0, .int .u32 0] 30)).heap[w.heap.size]? = some (.cells #[.string (strOfNums b), .bool busy, .bool text, .bool true] 40 (0, 0)) := blk_alloc (blk_alloc (blk_alloc (blk_alloc (last_at _ _ _ (by simp)) _) _) _) _
  have hpb : (((((w.alloc (.cells #[.string (strOfNums b), .bool busy, .bool text, .bool true] 40)).alloc (.cells #[.bool fin, .int .u8 op, .bool mk, .int .u32 key, .slice A d.length c] 26)).alloc (.cells #[.string (⟨#[]⟩ : ByteArray), .bool false, .bool false, .bool false] 40)).alloc (.cells #[.int .u8 0, .bool false, .slice none 0 0, .int .u32 0] 30)).alloc (.cells #[.int .u8 0, .bool false, .slice none 0 0, .int .u32 0] 30)).heap[w.heap.size + 1]? = some (.cells #[.bool fin, .int .u8 op, .bool mk, .int .u32 key, .slice A d.length c] 26 (0, 0)) := blk_alloc (blk_alloc (blk_alloc (last_at _ _ _ (by simp)) _) _) _
  have hrg : (((((w.alloc (.cells #[.string (strOfNums b), .bool busy, .bool text, .bool true] 40)).alloc (.cells #[.bool fin, .int .u8 op, .bool mk, .int .u32 key, .slice A d.length c] 26)).alloc (.cells #[.string (⟨#[]⟩ : ByteArray), .bool false, .bool false, .bool false] 40)).alloc (.cells #[.int .u8 0, .bool false, .slice none 0 0, .int .u32 0] 30)).alloc (.cells #[.int .u8 0, .bool false, .slice none 0 0, .int .u32 0] 30)).heap[w.heap.size + 1 + 1]? = some (.cells #[.string (⟨#[]⟩ : ByteArray), .bool false, .bool false, .bool false] 40 (0, 0)) := blk_alloc (blk_alloc (last_at _ _ _ (by simp)) _) _
  have hrn : (((((w.alloc (.cells #[.string (strOfNums b), .bool busy, .bool text, .bool true] 40)).alloc (.cells #[.bool fin, .int .u8 op, .bool mk, .int .u32 key, .slice A d.length c] 26)).alloc (.cells #[.string (⟨#[]⟩ : ByteArray), .bool false, .bool false, .bool false] 40)).alloc (.cells #[.int .u8 0, .bool false, .slice none 0 0, .int .u32 0] 30)).alloc (.cells #[.int .u8 0, .bool false, .slice none 0 0, .int .u32 0] 30)).heap[w.heap.size + 1 + 1 + 1]? = some (.cells #[.int .u8 0, .bool false, .slice none 0 0, .int .u32 0] 30 (0, 0)) := blk_alloc (last_at _ _ _ (by simp)) _
  have hnn : (((((w.alloc (.cells #[.string (strOfNums b), .bool busy, .bool text, .bool true] 40)).alloc (.cells #[.bool fin, .int .u8 op, .bool mk, .int .u32 key, .slice A d.length c] 26)).alloc (.cells #[.string (⟨#[]⟩ : ByteArray), .bool false, .bool false, .bool false] 40)).alloc (.cells #[.int .u8 0, .bool false, .slice none 0 0, .int .u32 0] 30)).alloc (.cells #[.int .u8 0, .bool false, .slice none 0 0, .int .u32 0] 30)).heap[w.heap.size + 1 + 1 + 1 + 1]? = some (.cells #[.int .u8 0, .bool false, .slice none 0 0, .int .u32 0] 30 (0, 0)) := last_at _ _ _ (by simp)
  go_enter Tryd.func17, Tryd.ntmps17
  go_upto_region 2 with fail
  generalize (((((w.alloc (.cells #[.string (strOfNums b), .bool busy, .bool text, .bool true] 40)).alloc (.cells #[.bool fin, .int .u8 op, .bool mk, .int .u32 key, .slice A d.length c] 26)).alloc (.cells #[.string (⟨#[]⟩ : ByteArray), .bool false, .bool false, .bool false] 40)).alloc (.cells #[.int .u8 0, .bool false, .slice none 0 0, .int .u32 0] 30)).alloc (.cells #[.int .u8 0, .bool false, .slice none 0 0, .int .u32 0] 30)) = W1 at hb1 hgb hpb hrg hrn hnn ⊢
  have HB1 := Aside0.mk hb1
  have HGB := Aside0.mk hgb
  have HPB := Aside0.mk hpb
  have HRG := Aside0.mk hrg
  have HRN := Aside0.mk hrn
  have HNN := Aside0.mk hnn
  clear hb1 hgb hpb hrg hrn hnn
  have g0 : W1.cell? ⟨w.heap.size, 0, none⟩ = some (.string (strOfNums b)) := (blk_cell HGB.out 0).trans rfl
  have gf0 := blk_frozen HGB.out 0
  have g1 : W1.cell? ⟨w.heap.size, 1, none⟩ = some (.bool busy) := (blk_cell HGB.out 1).trans rfl
  have gf1 := blk_frozen HGB.out 1
  have g2 : W1.cell? ⟨w.heap.size, 2, none⟩ = some (.bool text) := (blk_cell HGB.out 2).trans rfl
  have gf2 := blk_frozen HGB.out 2
  have g3 : W1.cell? ⟨w.heap.size, 3, none⟩ = some (.bool true) := (blk_cell HGB.out 3).trans rfl
  have gf3 := blk_frozen HGB.out 3
  have gl := blk_lt HGB.out
  have p0 : W1.cell? ⟨(w.heap.size + 1), 0, none⟩ = some (.bool fin) := (blk_cell HPB.out 0).trans rfl
  have pf0 := blk_frozen HPB.out 0
  have p1 : W1.cell? ⟨(w.heap.size + 1), 1, none⟩ = some (.int .u8 op) := (blk_cell HPB.out 1).trans rfl
  have pf1 := blk_frozen HPB.out 1
  have p2 : W1.cell? ⟨(w.heap.size + 1), 2, none⟩ = some (.bool mk) := (blk_cell HPB.out 2).trans rfl
  have pf2 := blk_frozen HPB.out 2
  have p3 : W1.cell? ⟨(w.heap.size + 1), 3, none⟩ = some (.int .u32 key) := (blk_cell HPB.out 3).trans rfl
  have pf3 := blk_frozen HPB.out 3
  have p4 : W1.cell? ⟨(w.heap.size + 1), 4, none⟩ = some (.slice A d.length c) := (blk_cell HPB.out 4).trans rfl
  have pf4 := blk_frozen HPB.out 4
  have pl := blk_lt HPB.out
  have r0 : W1.cell? ⟨(w.heap.size + 1 + 1), 0, none⟩ = some (.string (⟨#[]⟩ : ByteArray)) := (blk_cell HRG.out 0).trans rfl
  have rf0 := blk_frozen HRG.out 0
  have r1 : W1.cell? ⟨(w.heap.size + 1 + 1), 1, none⟩ = some (.bool false) := (blk_cell HRG.out 1).trans rfl
  have rf1 := blk_frozen HRG.out 1
  have r2 : W1.cell? ⟨(w.heap.size + 1 + 1), 2, none⟩ = some (.bool false) := (blk_cell HRG.out 2).trans rfl
  have rf2 := blk_frozen HRG.out 2
  have r3 : W1.cell? ⟨(w.heap.size + 1 + 1), 3, none⟩ = some (.bool false) := (blk_cell HRG.out 3).trans rfl
  have rf3 := blk_frozen HRG.out 3
  have rl := blk_lt HRG.out
  have n0 : W1.cell? ⟨(w.heap.size + 1 + 1 + 1), 0, none⟩ = some (.int .u8 0) := (blk_cell HRN.out 0).trans rfl
  have nf0 := blk_frozen HRN.out 0
  have n1 : W1.cell? ⟨(w.heap.size + 1 + 1 + 1), 1, none⟩ = some (.bool false) := (blk_cell HRN.out 1).trans rfl
  have nf1 := blk_frozen HRN.out 1
  have n2 : W1.cell? ⟨(w.heap.size + 1 + 1 + 1), 2, none⟩ = some (.slice none 0 0) := (blk_cell HRN.out 2).trans rfl
  have nf2 := blk_frozen HRN.out 2
  have n3 : W1.cell? ⟨(w.heap.size + 1 + 1 + 1), 3, none⟩ = some (.int .u32 0) := (blk_cell HRN.out 3).trans rfl
  have nf3 := blk_frozen HRN.out 3
  have nl := blk_lt HRN.out
  have z0 : W1.cell? ⟨(w.heap.size + 1 + 1 + 1 + 1), 0, none⟩ = some (.int .u8 0) := (blk_cell HNN.out 0).trans rfl
  have zf0 := blk_frozen HNN.out 0
  have z1 : W1.cell? ⟨(w.heap.size + 1 + 1 + 1 + 1), 1, none⟩ = some (.bool false) := (blk_cell HNN.out 1).trans rfl
  have zf1 := blk_frozen HNN.out 1
  have z2 : W1.cell? ⟨(w.heap.size + 1 + 1 + 1 + 1), 2, none⟩ = some (.slice none 0 0) := (blk_cell HNN.out 2).trans rfl
  have zf2 := blk_frozen HNN.out 2
  have z3 : W1.cell? ⟨(w.heap.size + 1 + 1 + 1 + 1), 3, none⟩ = some (.int .u32 0) := (blk_cell HNN.out 3).trans rfl
  have zf3 := blk_frozen HNN.out 3
  have zl := blk_lt HNN.out
  go_upto_region 3 with fail
  refine wp_region_noPanic ?_
  refine wp_region_held_drew (S := fun w' => Aside0 True ∧ w'.cell? ⟨w.heap.size, 0, none⟩ = some (.string (strOfNums b)) ∧ w'.cell? ⟨w.heap.size, 1, none⟩ = some (.bool busy) ∧ w'.cell? ⟨w.heap.size, 2, none⟩ = some (.bool text) ∧ w'.cell? ⟨w.heap.size, 3, none⟩ = some (.bool true) ∧ w'.cell? ⟨w.heap.size + 1 + 1 + 1 + 1, 0, none⟩ = some (.int .u8 0) ∧ w'.cell? ⟨w.heap.size + 1 + 1 + 1 + 1, 1, none⟩ = some (.bool false) ∧ w'.cell? ⟨w.heap.size + 1 + 1 + 1 + 1, 2, none⟩ = some (.slice none 0 0) ∧ w'.cell? ⟨w.heap.size + 1 + 1 + 1 + 1, 3, none⟩ = some (.int .u32 0)) (by kernel_rfl) ⟨⟨trivial⟩, (blk_cell (blk_drew HGB.out) 0).trans rfl, (blk_cell (blk_drew HGB.out) 1).trans rfl, (blk_cell (blk_drew HGB.out) 2).trans rfl, (blk_cell (blk_drew HGB.out) 3).trans rfl, (blk_cell (blk_drew HNN.out) 0).trans rfl, (blk_cell (blk_drew HNN.out) 1).trans rfl, (blk_cell (blk_drew HNN.out) 2).trans rfl, (blk_cell (blk_drew HNN.out) 3).trans rfl⟩ (fun hHeld => ?_)
  refine takeN (i := 0) (N := (some 13)) (v := ?v18) (a' := ?a18) rfl rfl (by kernel_rfl) (by kernel_rfl) (by kernel_rfl) (fun _ _ _ h => h) (Or.inl ⟨by rfl, ?hy18⟩) ?ha18 (by assumption) ?rest18
  case hy18 =>
    intro w_ hSw_
    go_simp
    first | done | (with_reducible rfl)
  case ha18 =>
    simp only [Act.put, List.setIfInBounds_toArray, List.set_cons_zero, List.set_cons_succ]
    rfl
  refine takeN (i := 1) (N := (some 14)) (v := ?v19) (a' := ?a19) rfl rfl (by kernel_rfl) (by kernel_rfl) (by kernel_rfl) (fun _ _ _ h => h) (Or.inl ⟨by rfl, ?hy19⟩) ?ha19 (by assumption) ?rest19
  case hy19 =>
    intro w_ hSw_
    go_simp
    first | done | (with_reducible rfl)
  case ha19 =>
    simp only [Act.put, List.setIfInBounds_toArray, List.set_cons_zero, List.set_cons_succ]
    rfl
  refine wpAnyH_ready (rs := [2]) (by kernel_rfl) (by simp) ?_
  refine AllReadyH.cons rfl (fun K hK => ?_) AllReadyH.nil
  go_simp
  refine hK.out _ _ ⟨⟨trivial⟩, (blk_cell ((heap_sets4d (show w.heap.size ≠ w.heap.size + 1 + 1 by omega)).trans HGB.out) 0).trans rfl, (blk_cell ((heap_sets4d (show w.heap.size ≠ w.heap.size + 1 + 1 by omega)).trans HGB.out) 1).trans rfl, (blk_cell ((heap_sets4d (show w.heap.size ≠ w.heap.size + 1 + 1 by omega)).trans HGB.out) 2).trans rfl, (blk_cell ((heap_sets4d (show w.heap.size ≠ w.heap.size + 1 + 1 by omega)).trans HGB.out) 3).trans rfl, (blk_cell ((heap_sets4d (show w.heap.size + 1 + 1 + 1 + 1 ≠ w.heap.size + 1 + 1 by omega)).trans HNN.out) 0).trans rfl, (blk_cell ((heap_sets4d (show w.heap.size + 1 + 1 + 1 + 1 ≠ w.heap.size + 1 + 1 by omega)).trans HNN.out) 1).trans rfl, (blk_cell ((heap_sets4d (show w.heap.size + 1 + 1 + 1 + 1 ≠ w.heap.size + 1 + 1 by omega)).trans HNN.out) 2).trans rfl, (blk_cell ((heap_sets4d (show w.heap.size + 1 + 1 + 1 + 1 ≠ w.heap.size + 1 + 1 by omega)).trans HNN.out) 3).trans rfl⟩ (fun hHeld => ?_)
  clear hK K
  try simp only [Act.put, List.setIfInBounds_toArray, List.set_cons_zero, List.set_cons_succ]
  refine wpAnyH_ready (rs := [3]) (by kernel_rfl) (by simp) ?_
  refine AllReadyH.cons rfl (fun K hK => ?_) AllReadyH.nil
  go_simp
  refine hK.out _ _ ⟨⟨trivial⟩, (blk_cell ((heap_sets4d (show w.heap.size ≠ w.heap.size + 1 + 1 + 1 by omega)).trans ((heap_sets4 (show w.heap.size ≠ w.heap.size + 1 + 1 by omega)).trans HGB.out)) 0).trans rfl, (blk_cell ((heap_sets4d (show w.heap.size ≠ w.heap.size + 1 + 1 + 1 by omega)).trans ((heap_sets4 (show w.heap.size ≠ w.heap.size + 1 + 1 by omega)).trans HGB.out)) 1).trans rfl, (blk_cell ((heap_sets4d (show w.heap.size ≠ w.heap.size + 1 + 1 + 1 by omega)).trans ((heap_sets4 (show w.heap.size ≠ w.heap.size + 1 + 1 by omega)).trans HGB.out)) 2).trans rfl, (blk_cell ((heap_sets4d (show w.heap.size ≠ w.heap.size + 1 + 1 + 1 by omega)).trans ((heap_sets4 (show w.heap.size ≠ w.heap.size + 1 + 1 by omega)).trans HGB.out)) 3).trans rfl, (blk_cell ((heap_sets4d (show w.heap.size + 1 + 1 + 1 + 1 ≠ w.heap.size + 1 + 1 + 1 by omega)).trans ((heap_sets4 (show w.heap.size + 1 + 1 + 1 + 1 ≠ w.heap.size + 1 + 1 by omega)).trans HNN.out)) 0).trans rfl, (blk_cell ((heap_sets4d (show w.heap.size + 1 + 1 + 1 + 1 ≠ w.heap.size + 1 + 1 + 1 by omega)).trans ((heap_sets4 (show w.heap.size + 1 + 1 + 1 + 1 ≠ w.heap.size + 1 + 1 by omega)).trans HNN.out)) 1).trans rfl, (blk_cell ((heap_sets4d (show w.heap.size + 1 + 1 + 1 + 1 ≠ w.heap.size + 1 + 1 + 1 by omega)).trans ((heap_sets4 (show w.heap.size + 1 + 1 + 1 + 1 ≠ w.heap.size + 1 + 1 by omega)).trans HNN.out)) 2).trans rfl, (blk_cell ((heap_sets4d (show w.heap.size + 1 + 1 + 1 + 1 ≠ w.heap.size + 1 + 1 + 1 by omega)).trans ((heap_sets4 (show w.heap.size + 1 + 1 + 1 + 1 ≠ w.heap.size + 1 + 1 by omega)).trans HNN.out)) 3).trans rfl⟩ (fun hHeld => ?_)
  clear hK K
  try simp only [Act.put, List.setIfInBounds_toArray, List.set_cons_zero, List.set_cons_succ]
  refine takeN (i := 4) (N := (some 6)) (v := ?v20) (a' := ?a20) rfl rfl (by kernel_rfl) (by kernel_rfl) (by kernel_rfl) (fun _ _ _ h => h) (Or.inl ⟨by rfl, ?hy20⟩) ?ha20 (by assumption) ?rest20
  case hy20 =>
    intro w_ hSw_
    go_simp
    first | done | (with_reducible rfl)
  case ha20 =>
    simp only [Act.put, List.setIfInBounds_toArray, List.set_cons_zero, List.set_cons_succ]
    rfl
  refine wpAnyH_done (by kernel_rfl) ?_ _
  refine NoPanic.normal ?_
  go_wp2_with fail
  exact bodyPost_ret (v := .tuple #[.agg #[.string (strOfNums b), .bool busy, .bool text, .bool true], .agg #[.int .u8 0, .bool false, .slice none 0 0, .int .u32 0], .bool false]) (by simp [results, Tryd.results17, go_sem, show strOfNums [] = (⟨#[]⟩ : ByteArray) from rfl, r0, r1, r2, r3, n0, n1, n2, n3]) rfl ⟨none, 0, rfl, Nat.le_refl _, Rd.zero _ _ _, below_drew (sets4 (sets4 HB1.out hle2) hle3)⟩
set_option maxHeartbeats 8000000 in
set_option maxRecDepth 100000 in
theorem reft_ping {b : List Int} {busy text fin mk : Bool} {key : Int} {A : Option Addr} {c : Nat} {d : List Int} {w : World} {B : Nat} (hBw : B ≤ w.heap.size) (hC : Rd B w A d) (hc : d.length ≤ c) : Calls Tryd.prog 17 #[gmV b busy text false, .agg #[.bool fin, .int .u8 9, .bool mk, .int .u32 key, .slice A d.length c]] w (RefPost B b busy text false 2 false d 0 true w) := by
  have hug := Tryd.underlying40
  have hu30 := Tryd.underlying30
  have hu26 := Tryd.underlying26
  have HC := Aside0.mk hC
  clear hC
  have hle0 : w.heap.size ≤ w.heap.size := by omega
  have hle1 : w.heap.size ≤ w.heap.size + 1 := by omega
  have hle2 : w.heap.size ≤ w.heap.size + 1 + 1 := by omega
  have hle3 : w.heap.size ≤ w.heap.size + 1 + 1 + 1 := by omega
  have hle4 : w.heap.size ≤ w.heap.size + 1 + 1 + 1 + 1 := by omega
  have hb1 : Below w.heap.size w (((((w.alloc (.cells #[.string (strOfNums b), .bool busy, .bool text, .bool false] 40)).alloc (.cells #[.bool fin, .int .u8 9, .bool mk, .int .u32 key, .slice A d.length c] 26)).alloc (.cells #[.string (⟨#[]⟩ : ByteArray), .bool false, .bool false, .bool false] 40)).alloc (.cells #[.int .u8 0, .bool false, .slice none 0 0, .int .u32 0] 30)).alloc (.cells #[.int .u8 0, .bool false, .slice none 0 0, .int .u32 0] 30)) := below_alloc (below_alloc (below_alloc (below_alloc (below_alloc (Below.refl _ _) _) _) _) _) _
  have hgb : (((((w.alloc (.cells #[.string (strOfNums b), .bool busy, .bool text, .bool false] 40)).alloc (.cells #[.bool fin, .int .u8 9, .bool mk, .int .u32 key, .slice A d.length c] 26)).alloc (.cells #[.string (⟨#[]⟩ : ByteArray), .bool false, .bool false, .bool false] 40)).alloc (.cells #[.int .u8 0, .bool false, .slice none 0 0, .int .u32 0] 30)).alloc (.cells #[.int .u8 0, .bool false, .slice none 0 0, .int .u32 0] 30)).heap[w.heap.size]? = some (.cells #[.string (strOfNums b), .bool busy, .bool text, .bool false] 40 (0, 0)) := blk_alloc (blk_alloc (blk_alloc (blk_alloc (last_at _ _ _ (by simp)) _) _) _) _
  have hpb : (((((w.alloc (.cells #[.string (strOfNums b), .bool busy, .bool text, .bool false] 40)).alloc (.cells #[.bool fin, .int .u8 9, .bool mk, .int .u32 key, .slice A d.length c] 26)).alloc (.cells #[.string (⟨#[]⟩ : ByteArray), .bool false, .bool false, .bool false] 40)).alloc (.cells #[.int .u8 0, .bool false, .slice none 0 0, .int .u32 0] 30)).alloc (.cells #[.int .u8 0, .bool false, .slice none 0 0, .int .u32 0] 30)).heap[w.heap.size + 1]? = some (.cells #[.bool fin, .int .u8 9, .bool mk, .int .u32 key, .slice A d.length c] 26 (0, 0)) := blk_alloc (blk_alloc (blk_alloc (last_at _ _ _ (by simp)) _) _) _
  have hrg : (((((w.alloc (.cells #[.string (strOfNums b), .bool busy, .bool text, .bool false] 40)).alloc (.cells #[.bool fin, .int .u8 9, .bool mk, .int .u32 key, .slice A d.length c] 26)).alloc (.cells #[.string (⟨#[]⟩ : ByteArray), .bool false, .bool false, .bool false] 40)).alloc (.cells #[.int .u8 0, .bool false, .slice none 0 0, .int .u32 0] 30)).alloc (.cells #[.int .u8 0, .bool false, .slice none 0 0, .int .u32 0] 30)).heap[w.heap.size + 1 + 1]? = some (.cells #[.string (⟨#[]⟩ : ByteArray), .bool false, .bool false, .bool false] 40 (0, 0)) := blk_alloc (blk_alloc (last_at _ _ _ (by simp)) _) _
  have hrn : (((((w.alloc (.cells #[.string (strOfNums b), .bool busy, .bool text, .bool false] 40)).alloc (.cells #[.bool fin, .int .u8 9, .bool mk, .int .u32 key, .slice A d.length c] 26)).alloc (.cells #[.string (⟨#[]⟩ : ByteArray), .bool false, .bool false, .bool false] 40)).alloc (.cells #[.int .u8 0, .bool false, .slice none 0 0, .int .u32 0] 30)).alloc (.cells #[.int .u8 0, .bool false, .slice none 0 0, .int .u32 0] 30)).heap[w.heap.size + 1 + 1 + 1]? = some (.cells #[.int .u8 0, .bool false, .slice none 0 0, .int .u32 0] 30 (0, 0)) := blk_alloc (last_at _ _ _ (by simp)) _
  have hnn : (((((w.alloc (.cells #[.string (strOfNums b), .bool busy, .bool text, .bool false] 40)).alloc (.cells #[.bool fin, .int .u8 9, .bool mk, .int .u32 key, .slice A d.length c] 26)).alloc (.cells #[.string (⟨#[]⟩ : ByteArray), .bool false, .bool false, .bool false] 40)).alloc (.cells #[.int .u8 0, .bool false, .slice none 0 0, .int .u32 0] 30)).alloc (.cells #[.int .u8 0, .bool false, .slice none 0 0, .int .u32 0] 30)).heap[w.heap.size + 1 + 1 + 1 + 1]? = some (.cells #[.int .u8 0, .bool false, .slice none 0 0, .int .u32 0] 30 (0, 0)) := last_at _ _ _ (by simp)
  go_enter Tryd.func17, Tryd.ntmps17
  go_upto_region 2 with fail
  generalize (((((w.alloc (.cells #[.string (strOfNums b), .bool busy, .bool text, .bool false] 40)).alloc (.cells #[.bool fin, .int .u8 9, .bool mk, .int .u32 key, .slice A d.length c] 26)).alloc (.cells #[.string (⟨#[]⟩ : ByteArray), .bool false, .bool false, .bool false] 40)).alloc (.cells #[.int .u8 0, .bool false, .slice none 0 0, .int .u32 0] 30)).alloc (.cells #[.int .u8 0, .bool false, .slice none 0 0, .int .u32 0] 30)) = W1 at hb1 hgb hpb hrg hrn hnn ⊢
  have HB1 := Aside0.mk hb1
  have HGB := Aside0.mk hgb
  have HPB := Aside0.mk hpb
  have HRG := Aside0.mk hrg
  have HRN := Aside0.mk hrn
  have HNN := Aside0.mk hnn
  clear hb1 hgb hpb hrg hrn hnn
  have g0 : W1.cell? ⟨w.heap.size, 0, none⟩ = some (.string (strOfNums b)) := (blk_cell HGB.out 0).trans rfl
  have gf0 := blk_frozen HGB.out 0
  have g1 : W1.cell? ⟨w.heap.size, 1, none⟩ = some (.bool busy) := (blk_cell HGB.out 1).trans rfl
  have gf1 := blk_frozen HGB.out 1
  have g2 : W1.cell? ⟨w.heap.size, 2, none⟩ = some (.bool text) := (blk_cell HGB.out 2).trans rfl
  have gf2 := blk_frozen HGB.out 2
  have g3 : W1.cell? ⟨w.heap.size, 3, none⟩ = some (.bool false) := (blk_cell HGB.out 3).trans rfl
  have gf3 := blk_frozen HGB.out 3
  have gl := blk_lt HGB.out
  have p0 : W1.cell? ⟨(w.heap.size + 1), 0, none⟩ = some (.bool fin) := (blk_cell HPB.out 0).trans rfl
  have pf0 := blk_frozen HPB.out 0
  have p1 : W1.cell? ⟨(w.heap.size + 1), 1, none⟩ = some (.int .u8 9) := (blk_cell HPB.out 1).trans rfl
  have pf1 := blk_frozen HPB.out 1
  have p2 : W1.cell? ⟨(w.heap.size + 1), 2, none⟩ = some (.bool mk) := (blk_cell HPB.out 2).trans rfl
  have pf2 := blk_frozen HPB.out 2
  have p3 : W1.cell? ⟨(w.heap.size + 1), 3, none⟩ = some (.int .u32 key) := (blk_cell HPB.out 3).trans rfl
  have pf3 := blk_frozen HPB.out 3
  have p4 : W1.cell? ⟨(w.heap.size + 1), 4, none⟩ = some (.slice A d.length c) := (blk_cell HPB.out 4).trans rfl
  have pf4 := blk_frozen HPB.out 4
  have pl := blk_lt HPB.out
  have r0 : W1.cell? ⟨(w.heap.size + 1 + 1), 0, none⟩ = some (.string (⟨#[]⟩ : ByteArray)) := (blk_cell HRG.out 0).trans rfl
  have rf0 := blk_frozen HRG.out 0
  have r1 : W1.cell? ⟨(w.heap.size + 1 + 1), 1, none⟩ = some (.bool false) := (blk_cell HRG.out 1).trans rfl
  have rf1 := blk_frozen HRG.out 1
  have r2 : W1.cell? ⟨(w.heap.size + 1 + 1), 2, none⟩ = some (.bool false) := (blk_cell HRG.out 2).trans rfl
  have rf2 := blk_frozen HRG.out 2
  have r3 : W1.cell? ⟨(w.heap.size + 1 + 1), 3, none⟩ = some (.bool false) := (blk_cell HRG.out 3).trans rfl
  have rf3 := blk_frozen HRG.out 3
  have rl := blk_lt HRG.out
  have n0 : W1.cell? ⟨(w.heap.size + 1 + 1 + 1), 0, none⟩ = some (.int .u8 0) := (blk_cell HRN.out 0).trans rfl
  have nf0 := blk_frozen HRN.out 0
  have n1 : W1.cell? ⟨(w.heap.size + 1 + 1 + 1), 1, none⟩ = some (.bool false) := (blk_cell HRN.out 1).trans rfl
  have nf1 := blk_frozen HRN.out 1
  have n2 : W1.cell? ⟨(w.heap.size + 1 + 1 + 1), 2, none⟩ = some (.slice none 0 0) := (blk_cell HRN.out 2).trans rfl
  have nf2 := blk_frozen HRN.out 2
  have n3 : W1.cell? ⟨(w.heap.size + 1 + 1 + 1), 3, none⟩ = some (.int .u32 0) := (blk_cell HRN.out 3).trans rfl
  have nf3 := blk_frozen HRN.out 3
  have nl := blk_lt HRN.out
  have z0 : W1.cell? ⟨(w.heap.size + 1 + 1 + 1 + 1), 0, none⟩ = some (.int .u8 0) := (blk_cell HNN.out 0).trans rfl
  have zf0 := blk_frozen HNN.out 0
  have z1 : W1.cell? ⟨(w.heap.size + 1 + 1 + 1 + 1), 1, none⟩ = some (.bool false) := (blk_cell HNN.out 1).trans rfl
  have zf1 := blk_frozen HNN.out 1
  have z2 : W1.cell? ⟨(w.heap.size + 1 + 1 + 1 + 1), 2, none⟩ = some (.slice none 0 0) := (blk_cell HNN.out 2).trans rfl
  have zf2 := blk_frozen HNN.out 2
  have z3 : W1.cell? ⟨(w.heap.size + 1 + 1 + 1 + 1), 3, none⟩ = some (.int .u32 0) := (blk_cell HNN.out 3).trans rfl
  have zf3 := blk_frozen HNN.out 3
  have zl := blk_lt HNN.out
  go_upto_region 7 with fail
  refine wp_region_noPanic ?_
  refine wp_region_held_drew (S := fun w' => Aside0 True ∧ w'.cell? ⟨w.heap.size, 0, none⟩ = some (.string (strOfNums b)) ∧ w'.cell? ⟨w.heap.size, 1, none⟩ = some (.bool busy) ∧ w'.cell? ⟨w.heap.size, 2, none⟩ = some (.bool text) ∧ w'.cell? ⟨w.heap.size, 3, none⟩ = some (.bool false) ∧ w'.cell? ⟨w.heap.size + 1, 0, none⟩ = some (.bool fin) ∧ w'.cell? ⟨w.heap.size + 1, 1, none⟩ = some (.int .u8 9) ∧ w'.cell? ⟨w.heap.size + 1, 2, none⟩ = some (.bool mk) ∧ w'.cell? ⟨w.heap.size + 1, 3, none⟩ = some (.int .u32 key) ∧ w'.cell? ⟨w.heap.size + 1, 4, none⟩ = some (.slice A d.length c)) (by kernel_rfl) ⟨⟨trivial⟩, (blk_cell (blk_drew HGB.out) 0).trans rfl, (blk_cell (blk_drew HGB.out) 1).trans rfl, (blk_cell (blk_drew HGB.out) 2).trans rfl, (blk_cell (blk_drew HGB.out) 3).trans rfl, (blk_cell (blk_drew HPB.out) 0).trans rfl, (blk_cell (blk_drew HPB.out) 1).trans rfl, (blk_cell (blk_drew HPB.out) 2).trans rfl, (blk_cell (blk_drew HPB.out) 3).trans rfl, (blk_cell (blk_drew HPB.out) 4).trans rfl⟩ (fun hHeld => ?_)
  refine takeN (i := 0) (N := (some 23)) (v := ?v21) (a' := ?a21) rfl rfl (by kernel_rfl) (by kernel_rfl) (by kernel_rfl) (fun _ _ _ h => h) (Or.inl ⟨by rfl, ?hy21⟩) ?ha21 (by assumption) ?rest21
  case hy21 =>
    intro w_ hSw_
    go_simp
    first | done | (with_reducible rfl)
  case ha21 =>
    simp only [Act.put, List.setIfInBounds_toArray, List.set_cons_zero, List.set_cons_succ]
    rfl
  refine takeN (i := 1) (N := (some 24)) (v := ?v22) (a' := ?a22) rfl rfl (by kernel_rfl) (by kernel_rfl) (by kernel_rfl) (fun _ _ _ h => h) (Or.inl ⟨by rfl, ?hy22⟩) ?ha22 (by assumption) ?rest22
  case hy22 =>
    intro w_ hSw_
    go_simp
    first | done | (with_reducible rfl)
  case ha22 =>
    simp only [Act.put, List.setIfInBounds_toArray, List.set_cons_zero, List.set_cons_succ]
    rfl
  refine takeN (i := 2) (N := (some 25)) (v := ?v23) (a' := ?a23) rfl rfl (by kernel_rfl) (by kernel_rfl) (by kernel_rfl) (fun _ _ _ h => h) (Or.inl ⟨by rfl, ?hy23⟩) ?ha23 (by assumption) ?rest23
  case hy23 =>
    intro w_ hSw_
    go_simp
    first | done | (with_reducible rfl)
  case ha23 =>
    simp only [Act.put, List.setIfInBounds_toArray, List.set_cons_zero, List.set_cons_succ]
    rfl
  refine takeN (i := 3) (N := (some 26)) (v := ?v24) (a' := ?a24) rfl rfl (by kernel_rfl) (by kernel_rfl) (by kernel_rfl) (fun _ _ _ h => h) (Or.inl ⟨by rfl, ?hy24⟩) ?ha24 (by assumption) ?rest24
  case hy24 =>
    intro w_ hSw_
    go_simp
    first | done | (with_reducible rfl)
  case ha24 =>
    simp only [Act.put, List.setIfInBounds_toArray, List.set_cons_zero, List.set_cons_succ]
    rfl
  refine wpAnyH_ready (rs := [4]) (by kernel_rfl) (by simp) ?_
  refine AllReadyH.cons rfl (fun K hK => ?_) AllReadyH.nil
  go_simp
  refine hK.out _ _ ⟨⟨trivial⟩, (blk_cell ((heap_sets4d (show w.heap.size ≠ w.heap.size + 1 + 1 by omega)).trans HGB.out) 0).trans rfl, (blk_cell ((heap_sets4d (show w.heap.size ≠ w.heap.size + 1 + 1 by omega)).trans HGB.out) 1).trans rfl, (blk_cell ((heap_sets4d (show w.heap.size ≠ w.heap.size + 1 + 1 by omega)).trans HGB.out) 2).trans rfl, (blk_cell ((heap_sets4d (show w.heap.size ≠ w.heap.size + 1 + 1 by omega)).trans HGB.out) 3).trans rfl, (blk_cell ((heap_sets4d (show w.heap.size + 1 ≠ w.heap.size + 1 + 1 by omega)).trans HPB.out) 0).trans rfl, (blk_cell ((heap_sets4d (show w.heap.size + 1 ≠ w.heap.size + 1 + 1 by omega)).trans HPB.out) 1).trans rfl, (blk_cell ((heap_sets4d (show w.heap.size + 1 ≠ w.heap.size + 1 + 1 by omega)).trans HPB.out) 2).trans rfl, (blk_cell ((heap_sets4d (show w.heap.size + 1 ≠ w.heap.size + 1 + 1 by omega)).trans HPB.out) 3).trans rfl, (blk_cell ((heap_sets4d (show w.heap.size + 1 ≠ w.heap.size + 1 + 1 by omega)).trans HPB.out) 4).trans rfl⟩ (fun hHeld => ?_)
  clear hK K
  try simp only [Act.put, List.setIfInBounds_toArray, List.set_cons_zero, List.set_cons_succ]
  refine wpAnyH_ready (rs := [5]) (by kernel_rfl) (by simp) ?_
  refine AllReadyH.cons rfl (fun K hK => ?_) AllReadyH.nil
  go_simp
  refine hK.out _ _ ⟨⟨trivial⟩, (blk_cell ((heap_sets4d (show w.heap.size ≠ w.heap.size + 1 + 1 + 1 by omega)).trans ((heap_sets4 (show w.heap.size ≠ w.heap.size + 1 + 1 by omega)).trans HGB.out)) 0).trans rfl, (blk_cell ((heap_sets4d (show w.heap.size ≠ w.heap.size + 1 + 1 + 1 by omega)).trans ((heap_sets4 (show w.heap.size ≠ w.heap.size + 1 + 1 by omega)).trans HGB.out)) 1).trans rfl, (blk_cell ((heap_sets4d (show w.heap.size ≠ w.heap.size + 1 + 1 + 1 by omega)).trans ((heap_sets4 (show w.heap.size ≠ w.heap.size + 1 + 1 by omega)).trans HGB.out)) 2).trans rfl, (blk_cell ((heap_sets4d (show w.heap.size ≠ w.heap.size + 1 + 1 + 1 by omega)).trans ((heap_sets4 (show w.heap.size ≠ w.heap.size + 1 + 1 by omega)).trans HGB.out)) 3).trans rfl, (blk_cell ((heap_sets4d (show w.heap.size + 1 ≠ w.heap.size + 1 + 1 + 1 by omega)).trans ((heap_sets4 (show w.heap.size + 1 ≠ w.heap.size + 1 + 1 by omega)).trans HPB.out)) 0).trans rfl, (blk_cell ((heap_sets4d (show w.heap.size + 1 ≠ w.heap.size + 1 + 1 + 1 by omega)).trans ((heap_sets4 (show w.heap.size + 1 ≠ w.heap.size + 1 + 1 by omega)).trans HPB.out)) 1).trans rfl, (blk_cell ((heap_sets4d (show w.heap.size + 1 ≠ w.heap.size + 1 + 1 + 1 by omega)).trans ((heap_sets4 (show w.heap.size + 1 ≠ w.heap.size + 1 + 1 by omega)).trans HPB.out)) 2).trans rfl, (blk_cell ((heap_sets4d (show w.heap.size + 1 ≠ w.heap.size + 1 + 1 + 1 by omega)).trans ((heap_sets4 (show w.heap.size + 1 ≠ w.heap.size + 1 + 1 by omega)).trans HPB.out)) 3).trans rfl, (blk_cell ((heap_sets4d (show w.heap.size + 1 ≠ w.heap.size + 1 + 1 + 1 by omega)).trans ((heap_sets4 (show w.heap.size + 1 ≠ w.heap.size + 1 + 1 by omega)).trans HPB.out)) 4).trans rfl⟩ (fun hHeld => ?_)
  clear hK K
  try simp only [Act.put, List.setIfInBounds_toArray, List.set_cons_zero, List.set_cons_succ]
  refine takeN (i := 6) (N := (some 6)) (v := ?v25) (a' := ?a25) rfl rfl (by kernel_rfl) (by kernel_rfl) (by kernel_rfl) (fun _ _ _ h => h) (Or.inl ⟨by rfl, ?hy25⟩) ?ha25 (by assumption) ?rest25
  case hy25 =>
    intro w_ hSw_
    go_simp
    first | done | (with_reducible rfl)
  case ha25 =>
    simp only [Act.put, List.setIfInBounds_toArray, List.set_cons_zero, List.set_cons_succ]
    rfl
  refine wpAnyH_done (by kernel_rfl) ?_ _
  refine NoPanic.normal ?_
  go_wp2_with fail
  exact bodyPost_ret (v := .tuple #[.agg #[.string (strOfNums b), .bool busy, .bool text, .bool false], .agg #[.int .u8 2, .bool false, .slice A d.length c, .int .u32 0], .bool true]) (by simp [results, Tryd.results17, go_sem, show strOfNums [] = (⟨#[]⟩ : ByteArray) from rfl, r0, r1, r2, r3, n0, n1, n2, n3]) rfl ⟨A, c, rfl, hc, Rd.drew (Rd.off4 (Rd.off4 (HC.out.below HB1.out hBw) HRG.out (by decide) (by omega)) ((heap_sets4 (by omega)).trans HRN.out) (by decide) (by omega)), below_drew (sets4 (sets4 HB1.out hle2) hle3)⟩
set_option maxHeartbeats 8000000 in
set_option maxRecDepth 100000 in
theorem reft_pong {b : List Int} {busy text fin mk : Bool} {key : Int} {A : Option Addr} {c : Nat} {d : List Int} {w : World} {B : Nat} (hBw : B ≤ w.heap.size) (hC : Rd B w A d) (hc : d.length ≤ c) : Calls Tryd.prog 17 #[gmV b busy text false, .agg #[.bool fin, .int .u8 10, .bool mk, .int .u32 key, .slice A d.length c]] w (RefPost B b busy text false 3 false d 0 true w) := by
  have hug := Tryd.underlying40
  have hu30 := Tryd.underlying30
  have hu26 := Tryd.underlying26
  have HC := Aside0.mk hC
  clear hC
  have hle0 : w.heap.size ≤ w.heap.size := by omega
  have hle1 : w.heap.size ≤ w.heap.size + 1 := by omega
  have hle2 : w.heap.size ≤ w.heap.size + 1 + 1 := by omega
  have hle3 : w.heap.size ≤ w.heap.size + 1 + 1 + 1 := by omega
  have hle4 : w.heap.size ≤ w.heap.size + 1 + 1 + 1 + 1 := by omega
  have hb1 : Below w.heap.size w (((((w.alloc (.cells #[.string (strOfNums b), .bool busy, .bool text, .bool false] 40)).alloc (.cells #[.bool fin, .int .u8 10, .bool mk, .int .u32 key, .slice A d.length c] 26)).alloc (.cells #[.string (⟨#[]⟩ : ByteArray), .bool false, .bool false, .bool false] 40)).alloc (.cells #[.int .u8 0, .bool false, .slice none 0 0, .int .u32 0] 30)).alloc (.cells #[.int .u8 0, .bool false, .slice none 0 0, .int .u32 0] 30)) := below_alloc (below_alloc (below_alloc (below_alloc (below_alloc (Below.refl _ _) _) _) _) _) _
  have hgb : (((((w.alloc (.cells #[.string (strOfNums b), .bool busy, .bool text, .bool false] 40)).alloc (.cells #[.bool fin, .int .u8 10, .bool mk, .int .u32 key, .slice A d.length c] 26)).alloc (.cells #[.string (⟨#[]⟩ : ByteArray), .bool false, .bool false, .bool false] 40)).alloc (.cells #[.int .u8 0, .bool false, .slice none 0 0, .int .u32 0] 30)).alloc (.cells #[.int .u8 0, .bool false, .slice none 0 0, .int .u32 0] 30)).heap[w.heap.size]? = some (.cells #[.string (strOfNums b), .bool busy, .bool text, .bool false] 40 (0, 0)) := blk_alloc (blk_alloc (blk_alloc (blk_alloc (last_at _ _ _ (by simp)) _) _) _) _
  have hpb : (((((w.alloc (.cells #[.string (strOfNums b), .bool busy, .bool text, .bool false] 40)).alloc (.cells #[.bool fin, .int .u8 10, .bool mk, .int .u32 key, .slice A d.length c] 26)).alloc (.cells #[.string (⟨#[]⟩ : ByteArray), .bool false, .bool false, .bool false] 40)).alloc (.cells #[.int .u8 0, .bool false, .slice none 0 0, .int .u32 0] 30)).alloc (.cells #[.int .u8 0, .bool false, .slice none 0 0, .int .u32 0] 30)).heap[w.heap.size + 1]? = some (.cells #[.bool fin, .int .u8 10, .bool mk, .int .u32 key, .slice A d.length c] 26 (0, 0)) := blk_alloc (blk_alloc (blk_alloc (last_at _ _ _ (by simp)) _) _) _
  have hrg : (((((w.alloc (.cells #[.string (strOfNums b), .bool busy, .bool text, .bool false] 40)).alloc (.cells #[.bool fin, .int .u8 10, .bool mk, .int .u32 key, .slice A d.length c] 26)).alloc (.cells #[.string (⟨#[]⟩ : ByteArray), .bool false, .bool false, .bool false] 40)).alloc (.cells #[.int .u8 0, .bool false, .slice none 0 0, .int .u32 0] 30)).alloc (.cells #[.int .u8 0, .bool false, .slice none 0 0, .int .u32 0] 30)).heap[w.heap.size + 1 + 1]? = some (.cells #[.string (⟨#[]⟩ : ByteArray), .bool false, .bool false, .bool false] 40 (0, 0)) := blk_alloc (blk_alloc (last_at _ _ _ (by simp)) _) _
  have hrn : (((((w.alloc (.cells #[.string (strOfNums b), .bool busy, .bool text, .bool false] 40)).alloc (.cells #[.bool fin, .int .u8 10, .bool mk, .int .u32 key, .slice A d.length c] 26)).alloc (.cells #[.string (⟨#[]⟩ : ByteArray), .bool false, .bool false, .bool false] 40)).alloc (.cells #[.int .u8 0, .bool false, .slice none 0 0, .int .u32 0] 30)).alloc (.cells #[.int .u8 0, .bool false, .slice none 0 0, .int .u32 0] 30)).heap[w.heap.size + 1 + 1 + 1]? = some (.cells #[.int .u8 0, .bool false, .slice none 0 0, .int .u32 0] 30 (0, 0)) := blk_alloc (last_at _ _ _ (by simp)) _
  have hnn : (((((w.alloc (.cells #[.string (strOfNums b), .bool busy, .bool text, .bool false] 40)).alloc (.cells #[.bool fin, .int .u8 10, .bool mk, .int .u32 key, .slice A d.length c] 26)).alloc (.cells #[.string (⟨#[]⟩ : ByteArray), .bool false, .bool false, .bool false] 40)).alloc (.cells #[.int .u8 0, .bool false, .slice none 0 0, .int .u32 0] 30)).alloc (.cells #[.int .u8 0, .bool false, .slice none 0 0, .int .u32 0] 30)).heap[w.heap.size + 1 + 1 + 1 + 1]? = some (.cells #[.int .u8 0, .bool false, .slice none 0 0, .int .u32 0] 30 (0, 0)) := last_at _ _ _ (by simp)
  go_enter Tryd.func17, Tryd.ntmps17
  go_upto_region 2 with fail
  generalize (((((w.alloc (.cells #[.string (strOfNums b), .bool busy, .bool text, .bool false] 40)).alloc (.cells #[.bool fin, .int .u8 10, .bool mk, .int .u32 key, .slice A d.length c] 26)).alloc (.cells #[.string (⟨#[]⟩ : ByteArray), .bool false, .bool false, .bool false] 40)).alloc (.cells #[.int .u8 0, .bool false, .slice none 0 0, .int .u32 0] 30)).alloc (.cells #[.int .u8 0, .bool false, .slice none 0 0, .int .u32 0] 30)) = W1 at hb1 hgb hpb hrg hrn hnn ⊢
  have HB1 := Aside0.mk hb1
  have HGB := Aside0.mk hgb
  have HPB := Aside0.mk hpb
  have HRG := Aside0.mk hrg
  have HRN := Aside0.mk hrn
  have HNN := Aside0.mk hnn
  clear hb1 hgb hpb hrg hrn hnn
  have g0 : W1.cell? ⟨w.heap.size, 0, none⟩ = some (.string (strOfNums b)) := (blk_cell HGB.out 0).trans rfl
  have gf0 := blk_frozen HGB.out 0
  have g1 : W1.cell? ⟨w.heap.size, 1, none⟩ = some (.bool busy) := (blk_cell HGB.out 1).trans rfl
  have gf1 := blk_frozen HGB.out 1
  have g2 : W1.cell? ⟨w.heap.size, 2, none⟩ = some (.bool text) := (blk_cell HGB.out 2).trans rfl
  have gf2 := blk_frozen HGB.out 2
  have g3 : W1.cell? ⟨w.heap.size, 3, none⟩ = some (.bool false) := (blk_cell HGB.out 3).trans rfl
  have gf3 := blk_frozen HGB.out 3
  have gl := blk_lt HGB.out
  have p0 : W1.cell? ⟨(w.heap.size + 1), 0, none⟩ = some (.bool fin) := (blk_cell HPB.out 0).trans rfl
  have pf0 := blk_frozen HPB.out 0
  have p1 : W1.cell? ⟨(w.heap.size + 1), 1, none⟩ = some (.int .u8 10) := (blk_cell HPB.out 1).trans rfl
  have pf1 := blk_frozen HPB.out 1
  have p2 : W1.cell? ⟨(w.heap.size + 1), 2, none⟩ = some (.bool mk) := (blk_cell HPB.out 2).trans rfl
  have pf2 := blk_frozen HPB.out 2
  have p3 : W1.cell? ⟨(w.heap.size + 1), 3, none⟩ = some (.int .u32 key) := (blk_cell HPB.out 3).trans rfl
  have pf3 := blk_frozen HPB.out 3
  have p4 : W1.cell? ⟨(w.heap.size + 1), 4, none⟩ = some (.slice A d.length c) := (blk_cell HPB.out 4).trans rfl
  have pf4 := blk_frozen HPB.out 4
  have pl := blk_lt HPB.out
  have r0 : W1.cell? ⟨(w.heap.size + 1 + 1), 0, none⟩ = some (.string (⟨#[]⟩ : ByteArray)) := (blk_cell HRG.out 0).trans rfl
  have rf0 := blk_frozen HRG.out 0
  have r1 : W1.cell? ⟨(w.heap.size + 1 + 1), 1, none⟩ = some (.bool false) := (blk_cell HRG.out 1).trans rfl
  have rf1 := blk_frozen HRG.out 1
  have r2 : W1.cell? ⟨(w.heap.size + 1 + 1), 2, none⟩ = some (.bool false) := (blk_cell HRG.out 2).trans rfl
  have rf2 := blk_frozen HRG.out 2
  have r3 : W1.cell? ⟨(w.heap.size + 1 + 1), 3, none⟩ = some (.bool false) := (blk_cell HRG.out 3).trans rfl
  have rf3 := blk_frozen HRG.out 3
  have rl := blk_lt HRG.out
  have n0 : W1.cell? ⟨(w.heap.size + 1 + 1 + 1), 0, none⟩ = some (.int .u8 0) := (blk_cell HRN.out 0).trans rfl
  have nf0 := blk_frozen HRN.out 0
  have n1 : W1.cell? ⟨(w.heap.size + 1 + 1 + 1), 1, none⟩ = some (.bool false) := (blk_cell HRN.out 1).trans rfl
  have nf1 := blk_frozen HRN.out 1
  have n2 : W1.cell? ⟨(w.heap.size + 1 + 1 + 1), 2, none⟩ = some (.slice none 0 0) := (blk_cell HRN.out 2).trans rfl
  have nf2 := blk_frozen HRN.out 2
  have n3 : W1.cell? ⟨(w.heap.size + 1 + 1 + 1), 3, none⟩ = some (.int .u32 0) := (blk_cell HRN.out 3).trans rfl
  have nf3 := blk_frozen HRN.out 3
  have nl := blk_lt HRN.out
  have z0 : W1.cell? ⟨(w.heap.size + 1 + 1 + 1 + 1), 0, none⟩ = some (.int .u8 0) := (blk_cell HNN.out 0).trans rfl
  have zf0 := blk_frozen HNN.out 0
  have z1 : W1.cell? ⟨(w.heap.size + 1 + 1 + 1 + 1), 1, none⟩ = some (.bool false) := (blk_cell HNN.out 1).trans rfl
  have zf1 := blk_frozen HNN.out 1
  have z2 : W1.cell? ⟨(w.heap.size + 1 + 1 + 1 + 1), 2, none⟩ = some (.slice none 0 0) := (blk_cell HNN.out 2).trans rfl
  have zf2 := blk_frozen HNN.out 2
  have z3 : W1.cell? ⟨(w.heap.size + 1 + 1 + 1 + 1), 3, none⟩ = some (.int .u32 0) := (blk_cell HNN.out 3).trans rfl
  have zf3 := blk_frozen HNN.out 3
  have zl := blk_lt HNN.out
  go_upto_region 9 with fail
  refine wp_region_noPanic ?_
  refine wp_region_held_drew (S := fun w' => Aside0 True ∧ w'.cell? ⟨w.heap.size, 0, none⟩ = some (.string (strOfNums b)) ∧ w'.cell? ⟨w.heap.size, 1, none⟩ = some (.bool busy) ∧ w'.cell? ⟨w.heap.size, 2, none⟩ = some (.bool text) ∧ w'.cell? ⟨w.heap.size, 3, none⟩ = some (.bool false) ∧ w'.cell? ⟨w.heap.size + 1, 0, none⟩ = some (.bool fin) ∧ w'.cell? ⟨w.heap.size + 1, 1, none⟩ = some (.int .u8 10) ∧ w'.cell? ⟨w.heap.size + 1, 2, none⟩ = some (.bool mk) ∧ w'.cell? ⟨w.heap.size + 1, 3, none⟩ = some (.int .u32 key) ∧ w'.cell? ⟨w.heap.size + 1, 4, none⟩ = some (.slice A d.length c)) (by kernel_rfl) ⟨⟨trivial⟩, (blk_cell (blk_drew HGB.out) 0).trans rfl, (blk_cell (blk_drew HGB.out) 1).trans rfl, (blk_cell (blk_drew HGB.out) 2).trans rfl, (blk_cell (blk_drew HGB.out) 3).trans rfl, (blk_cell (blk_drew HPB.out) 0).trans rfl, (blk_cell (blk_drew HPB.out) 1).trans rfl, (blk_cell (blk_drew HPB.out) 2).trans rfl, (blk_cell (blk_drew HPB.out) 3).trans rfl, (blk_cell (blk_drew HPB.out) 4).trans rfl⟩ (fun hHeld => ?_)
  refine takeN (i := 0) (N := (some 29)) (v := ?v26) (a' := ?a26) rfl rfl (by kernel_rfl) (by kernel_rfl) (by kernel_rfl) (fun _ _ _ h => h) (Or.inl ⟨by rfl, ?hy26⟩) ?ha26 (by assumption) ?rest26
  case hy26 =>
    intro w_ hSw_
    go_simp
    first | done | (with_reducible rfl)
  case ha26 =>
    simp only [Act.put, List.setIfInBounds_toArray, List.set_cons_zero, List.set_cons_succ]
    rfl
  refine takeN (i := 1) (N := (some 30)) (v := ?v27) (a' := ?a27) rfl rfl (by kernel_rfl) (by kernel_rfl) (by kernel_rfl) (fun _ _ _ h => h) (Or.inl ⟨by rfl, ?hy27⟩) ?ha27 (by assumption) ?rest27
  case hy27 =>
    intro w_ hSw_
    go_simp
    first | done | (with_reducible rfl)
  case ha27 =>
    simp only [Act.put, List.setIfInBounds_toArray, List.set_cons_zero, List.set_cons_succ]
    rfl
  refine takeN (i := 2) (N := (some 31)) (v := ?v28) (a' := ?a28) rfl rfl (by kernel_rfl) (by kernel_rfl) (by kernel_rfl) (fun _ _ _ h => h) (Or.inl ⟨by rfl, ?hy28⟩) ?ha28 (by assumption) ?rest28
  case hy28 =>
    intro w_ hSw_
    go_simp
    first | done | (with_reducible rfl)
  case ha28 =>
    simp only [Act.put, List.setIfInBounds_toArray, List.set_cons_zero, List.set_cons_succ]
    rfl
  refine takeN (i := 3) (N := (some 32)) (v := ?v29) (a' := ?a29) rfl rfl (by kernel_rfl) (by kernel_rfl) (by kernel_rfl) (fun _ _ _ h => h) (Or.inl ⟨by rfl, ?hy29⟩) ?ha29 (by assumption) ?rest29
  case hy29 =>
    intro w_ hSw_
    go_simp
    first | done | (with_reducible rfl)
  case ha29 =>
    simp only [Act.put, List.setIfInBounds_toArray, List.set_cons_zero, List.set_cons_succ]
    rfl
  refine wpAnyH_ready (rs := [4]) (by kernel_rfl) (by simp) ?_
  refine AllReadyH.cons rfl (fun K hK => ?_) AllReadyH.nil
  go_simp
  refine hK.out _ _ ⟨⟨trivial⟩, (blk_cell ((heap_sets4d (show w.heap.size ≠ w.heap.size + 1 + 1 by omega)).trans HGB.out) 0).trans rfl, (blk_cell ((heap_sets4d (show w.heap.size ≠ w.heap.size + 1 + 1 by omega)).trans HGB.out) 1).trans rfl, (blk_cell ((heap_sets4d (show w.heap.size ≠ w.heap.size + 1 + 1 by omega)).trans HGB.out) 2).trans rfl, (blk_cell ((heap_sets4d (show w.heap.size ≠ w.heap.size + 1 + 1 by omega)).trans HGB.out) 3).trans rfl, (blk_cell ((heap_sets4d (show w.heap.size + 1 ≠ w.heap.size + 1 + 1 by omega)).trans HPB.out) 0).trans rfl, (blk_cell ((heap_sets4d (show w.heap.size + 1 ≠ w.heap.size + 1 + 1 by omega)).trans HPB.out) 1).trans rfl, (blk_cell ((heap_sets4d (show w.heap.size + 1 ≠ w.heap.size + 1 + 1 by omega)).trans HPB.out) 2).trans rfl, (blk_cell ((heap_sets4d (show w.heap.size + 1 ≠ w.heap.size + 1 + 1 by omega)).trans HPB.out) 3).trans rfl, (blk_cell ((heap_sets4d (show w.heap.size + 1 ≠ w.heap.size + 1 + 1 by omega)).trans HPB.out) 4).trans rfl⟩ (fun hHeld => ?_)
  clear hK K
  try simp only [Act.put, List.setIfInBounds_toArray, List.set_cons_zero, List.set_cons_succ]
  refine wpAnyH_ready (rs := [5]) (by kernel_rfl) (by simp) ?_
  refine AllReadyH.cons rfl (fun K hK => ?_) AllReadyH.nil
  go_simp
  refine hK.out _ _ ⟨⟨trivial⟩, (blk_cell ((heap_sets4d (show w.heap.size ≠ w.heap.size + 1 + 1 + 1 by omega)).trans ((heap_sets4 (show w.heap.size ≠ w.heap.size + 1 + 1 by omega)).trans HGB.out)) 0).trans rfl, (blk_cell ((heap_sets4d (show w.heap.size ≠ w.heap.size + 1 + 1 + 1 by omega)).trans ((heap_sets4 (show w.heap.size ≠ w.heap.size + 1 + 1 by omega)).trans HGB.out)) 1).trans rfl, (blk_cell ((heap_sets4d (show w.heap.size ≠ w.heap.size + 1 + 1 + 1 by omega)).trans ((heap_sets4 (show w.heap.size ≠ w.heap.size + 1 + 1 by omega)).trans HGB.out)) 2).trans rfl, (blk_cell ((heap_sets4d (show w.heap.size ≠ w.heap.size + 1 + 1 + 1 by omega)).trans ((heap_sets4 (show w.heap.size ≠ w.heap.size + 1 + 1 by omega)).trans HGB.out)) 3).trans rfl, (blk_cell ((heap_sets4d (show w.heap.size + 1 ≠ w.heap.size + 1 + 1 + 1 by omega)).trans ((heap_sets4 (show w.heap.size + 1 ≠ w.heap.size + 1 + 1 by omega)).trans HPB.out)) 0).trans rfl, (blk_cell ((heap_sets4d (show w.heap.size + 1 ≠ w.heap.size + 1 + 1 + 1 by omega)).trans ((heap_sets4 (show w.heap.size + 1 ≠ w.heap.size + 1 + 1 by omega)).trans HPB.out)) 1).trans rfl, (blk_cell ((heap_sets4d (show w.heap.size + 1 ≠ w.heap.size + 1 + 1 + 1 by omega)).trans ((heap_sets4 (show w.heap.size + 1 ≠ w.heap.size + 1 + 1 by omega)).trans HPB.out)) 2).trans rfl, (blk_cell ((heap_sets4d (show w.heap.size + 1 ≠ w.heap.size + 1 + 1 + 1 by omega)).trans ((heap_sets4 (show w.heap.size + 1 ≠ w.heap.size + 1 + 1 by omega)).trans HPB.out)) 3).trans rfl, (blk_cell ((heap_sets4d (show w.heap.size + 1 ≠ w.heap.size + 1 + 1 + 1 by omega)).trans ((heap_sets4 (show w.heap.size + 1 ≠ w.heap.size + 1 + 1 by omega)).trans HPB.out)) 4).trans rfl⟩ (fun hHeld => ?_)
  clear hK K
  try simp only [Act.put, List.setIfInBounds_toArray, List.set_cons_zero, List.set_cons_succ]
  refine takeN (i := 6) (N := (some 6)) (v := ?v30) (a' := ?a30) rfl rfl (by kernel_rfl) (by kernel_rfl) (by kernel_rfl) (fun _ _ _ h => h) (Or.inl ⟨by rfl, ?hy30⟩) ?ha30 (by assumption) ?rest30
  case hy30 =>
    intro w_ hSw_
    go_simp
    first | done | (with_reducible rfl)
  case ha30 =>
    simp only [Act.put, List.setIfInBounds_toArray, List.set_cons_zero, List.set_cons_succ]
    rfl
  refine wpAnyH_done (by kernel_rfl) ?_ _
  refine NoPanic.normal ?_
  go_wp2_with fail
  exact bodyPost_ret (v := .tuple #[.agg #[.string (strOfNums b), .bool busy, .bool text, .bool false], .agg #[.int .u8 3, .bool false, .slice A d.length c, .int .u32 0], .bool true]) (by simp [results, Tryd.results17, go_sem, show strOfNums [] = (⟨#[]⟩ : ByteArray) from rfl, r0, r1, r2, r3, n0, n1, n2, n3]) rfl ⟨A, c, rfl, hc, Rd.drew (Rd.off4 (Rd.off4 (HC.out.below HB1.out hBw) HRG.out (by decide) (by omega)) ((heap_sets4 (by omega)).trans HRN.out) (by decide) (by omega)), below_drew (sets4 (sets4 HB1.out hle2) hle3)⟩
set_option maxHeartbeats 8000000 in
set_option maxRecDepth 100000 in
theorem reft_other {b : List Int} {busy text fin mk : Bool} {op key : Int} {A : Option Addr} {c : Nat} {d : List Int} {w : World} {B : Nat} (hBw : B ≤ w.heap.size) (hC : Rd B w A d) (hc : d.length ≤ c) (hop : op ≠ 0 ∧ op ≠ 1 ∧ op ≠ 2 ∧ op ≠ 8 ∧ op ≠ 9 ∧ op ≠ 10) : Calls Tryd.prog 17 #[gmV b busy text false, .agg #[.bool fin, .int .u8 op, .bool mk, .int .u32 key, .slice A d.length c]] w (RefPost B [] false false true 5 false [] 1002 true w) := by
  have k0 : (op == 0) = false := beq_eq_false_iff_ne.mpr (by omega)
  have k1 : (op == 1) = false := beq_eq_false_iff_ne.mpr (by omega)
  have k2 : (op == 2) = false := beq_eq_false_iff_ne.mpr (by omega)
  have k8 : (op == 8) = false := beq_eq_false_iff_ne.mpr (by omega)
  have k9 : (op == 9) = false := beq_eq_false_iff_ne.mpr (by omega)
  have k10 : (op == 10) = false := beq_eq_false_iff_ne.mpr (by omega)
  have hug := Tryd.underlying40
  have hu30 := Tryd.underlying30
  have hu26 := Tryd.underlying26
  have HC := Aside0.mk hC
  clear hC
  have hle0 : w.heap.size ≤ w.heap.size := by omega
  have hle1 : w.heap.size ≤ w.heap.size + 1 := by omega
  have hle2 : w.heap.size ≤ w.heap.size + 1 + 1 := by omega
  have hle3 : w.heap.size ≤ w.heap.size + 1 + 1 + 1 := by omega
  have hle4 : w.heap.size ≤ w.heap.size + 1 + 1 + 1 + 1 := by omega
  have hb1 : Below w.heap.size w (((((w.alloc (.cells #[.string (strOfNums b), .bool busy, .bool text, .bool false] 40)).alloc (.cells #[.bool fin, .int .u8 op, .bool mk, .int .u32 key, .slice A d.length c] 26)).alloc (.cells #[.string (⟨#[]⟩ : ByteArray), .bool false, .bool false, .bool false] 40)).alloc (.cells #[.int .u8 0, .bool false, .slice none 0 0, .int .u32 0] 30)).alloc (.cells #[.int .u8 0, .bool false, .slice none 0 0, .int .u32 0] 30)) := below_alloc (below_alloc (below_alloc (below_alloc (below_alloc (Below.refl _ _) _) _) _) _) _
  have hgb : (((((w.alloc (.cells #[.string (strOfNums b), .bool busy, .bool text, .bool false] 40)).alloc (.cells #[.bool fin, .int .u8 op, .bool mk, .int .u32 key, .slice A d.length c] 26)).alloc (.cells #[.string (⟨#[]⟩ : ByteArray), .bool false, .bool false, .bool false] 40)).alloc (.cells #[.int .u8 0, .bool false, .slice none 0 0, .int .u32 0] 30)).alloc (.cells #[.int .u8 0, .bool false, .slice none 0 0, .int .u32 0] 30)).heap[w.heap.size]? = some (.cells #[.string (strOfNums b), .bool busy, .bool text, .bool false] 40 (0, 0)) := blk_alloc (blk_alloc (blk_alloc (blk_alloc (last_at _ _ _ (by simp)) _) _) _) _
  have hpb : (((((w.alloc (.cells #[.string (strOfNums b), .bool busy, .bool text, .bool false] 40)).alloc (.cells #[.bool fin, .int .u8 op, .bool mk, .int .u32 key, .slice A d.length c] 26)).alloc (.cells #[.string (⟨#[]⟩ : ByteArray), .bool false, .bool false, .bool false] 40)).alloc (.cells #[.int .u8 0, .bool false, .slice none 0 0, .int .u32 0] 30)).alloc (.cells #[.int .u8 0, .bool false, .slice none 0 0, .int .u32 0] 30)).heap[w.heap.size + 1]? = some (.cells #[.bool fin, .int .u8 op, .bool mk, .int .u32 key, .slice A d.length c] 26 (0, 0)) := blk_alloc (blk_alloc (blk_alloc (last_at _ _ _ (by simp)) _) _) _
  have hrg : (((((w.alloc (.cells #[.string (strOfNums b), .bool busy, .bool text, .bool false] 40)).alloc (.cells #[.bool fin, .int .u8 op, .bool mk, .int .u32 key, .slice A d.length c] 26)).alloc (.cells #[.string (⟨#[]⟩ : ByteArray), .bool false, .bool false, .bool false] 40)).alloc (.cells #[.int .u8 0, .bool false, .slice none 0 0, .int .u32 0] 30)).alloc (.cells #[.int .u8 0, .bool false, .slice none 0 0, .int .u32 0] 30)).heap[w.heap.size + 1 + 1]? = some (.cells #[.string (⟨#[]⟩ : ByteArray), .bool false, .bool false, .bool false] 40 (0, 0)) := blk_alloc (blk_alloc (last_at _ _ _ (by simp)) _) _
  have hrn : (((((w.alloc (.cells #[.string (strOfNums b), .bool busy, .bool text, .bool false] 40)).alloc (.cells #[.bool fin, .int .u8 op, .bool mk, .int .u32 key, .slice A d.length c] 26)).alloc (.cells #[.string (⟨#[]⟩ : ByteArray), .bool false, .bool false, .bool false] 40)).alloc (.cells #[.int .u8 0, .bool false, .slice none 0 0, .int .u32 0] 30)).alloc (.cells #[.int .u8 0, .bool false, .slice none 0 0, .int .u32 0] 30)).heap[w.heap.size + 1 + 1 + 1]? = some (.cells #[.int .u8 0, .bool false, .slice none 0 0, .int .u32 0] 30 (0, 0)) := blk_alloc (last_at _ _ _ (by simp)) _
  have hnn : (((((w.alloc (.cells #[.string (strOfNums b), .bool busy, .bool text, .bool false] 40)).alloc (.cells #[.bool fin, .int .u8 op, .bool mk, .int .u32 key, .slice A d.length c] 26)).alloc (.cells #[.string (⟨#[]⟩ : ByteArray), .bool false, .bool false, .bool false] 40)).alloc (.cells #[.int .u8 0, .bool false, .slice none 0 0, .int .u32 0] 30)).alloc (.cells #[.int .u8 0, .bool false, .slice none 0 0, .int .u32 0] 30)).heap[w.heap.size + 1 + 1 + 1 + 1]? = some (.cells #[.int .u8 0, .bool false, .slice none 0 0, .int .u32 0] 30 (0, 0)) := last_at _ _ _ (by simp)
  go_enter Tryd.func17, Tryd.ntmps17
  go_upto_region 2 with fail
  generalize (((((w.alloc (.cells #[.string (strOfNums b), .bool busy, .bool text, .bool false] 40)).alloc (.cells #[.bool fin, .int .u8 op, .bool mk, .int .u32 key, .slice A d.length c] 26)).alloc (.cells #[.string (⟨#[]⟩ : ByteArray), .bool false, .bool false, .bool false] 40)).alloc (.cells #[.int .u8 0, .bool false, .slice none 0 0, .int .u32 0] 30)).alloc (.cells #[.int .u8 0, .bool false, .slice none 0 0, .int .u32 0] 30)) = W1 at hb1 hgb hpb hrg hrn hnn ⊢
  have HB1 := Aside0.mk hb1
  have HGB := Aside0.mk hgb
  have HPB := Aside0.mk hpb
  have HRG := Aside0.mk hrg
  have HRN := Aside0.mk hrn
  have HNN := Aside0.mk hnn
  clear hb1 hgb hpb hrg hrn hnn
  have g0 : W1.cell? ⟨w.heap.size, 0, none⟩ = some (.string (strOfNums b)) := (blk_cell HGB.out 0).trans rfl
  have gf0 := blk_frozen HGB.out 0
  have g1 : W1.cell? ⟨w.heap.size, 1, none⟩ = some (.bool busy) := (blk_cell HGB.out 1).trans rfl
  have gf1 := blk_frozen HGB.out 1
  have g2 : W1.cell? ⟨w.heap.size, 2, none⟩ = some (.bool text) := (blk_cell HGB.out 2).trans rfl
  have gf2 := blk_frozen HGB.out 2
  have g3 : W1.cell? ⟨w.heap.size, 3, none⟩ = some (.bool false) := (blk_cell HGB.out 3).trans rfl
  have gf3 := blk_frozen HGB.out 3
  have gl := blk_lt HGB.out
  have p0 : W1.cell? ⟨(w.heap.size + 1), 0, none⟩ = some (.bool fin) := (blk_cell HPB.out 0).trans rfl
  have pf0 := blk_frozen HPB.out 0
  have p1 : W1.cell? ⟨(w.heap.size + 1), 1, none⟩ = some (.int .u8 op) := (blk_cell HPB.out 1).trans rfl
  have pf1 := blk_frozen HPB.out 1
  have p2 : W1.cell? ⟨(w.heap.size + 1), 2, none⟩ = some (.bool mk) := (blk_cell HPB.out 2).trans rfl
  have pf2 := blk_frozen HPB.out 2
  have p3 : W1.cell? ⟨(w.heap.size + 1), 3, none⟩ = some (.int .u32 key) := (blk_cell HPB.out 3).trans rfl
  have pf3 := blk_frozen HPB.out 3
  have p4 : W1.cell? ⟨(w.heap.size + 1), 4, none⟩ = some (.slice A d.length c) := (blk_cell HPB.out 4).trans rfl
  have pf4 := blk_frozen HPB.out 4
  have pl := blk_lt HPB.out
  go_wp2_with fail
  refine (ref_bad 1002 B _).mono ?_
  rintro e w7 ⟨An, cn, rfl, hcn, hCn, hb⟩
  have HB7 := Aside0.mk (below_step HB1.out hb)
  have HRG7 := Aside0.mk (blk_below HRG.out hb)
  have HRN7 := Aside0.mk (blk_below HRN.out hb)
  have HCN := Aside0.mk hCn
  clear hb hCn
  clear g0 gf0 g1 gf1 g2 gf2 g3 gf3 gl
  clear p0 pf0 p1 pf1 p2 pf2 p3 pf3 p4 pf4 pl
  have r0 : w7.cell? ⟨(w.heap.size + 1 + 1), 0, none⟩ = some (.string (⟨#[]⟩ : ByteArray)) := (blk_cell HRG7.out 0).trans rfl
  have rf0 := blk_frozen HRG7.out 0
  have r1 : w7.cell? ⟨(w.heap.size + 1 + 1), 1, none⟩ = some (.bool false) := (blk_cell HRG7.out 1).trans rfl
  have rf1 := blk_frozen HRG7.out 1
  have r2 : w7.cell? ⟨(w.heap.size + 1 + 1), 2, none⟩ = some (.bool false) := (blk_cell HRG7.out 2).trans rfl
  have rf2 := blk_frozen HRG7.out 2
  have r3 : w7.cell? ⟨(w.heap.size + 1 + 1), 3, none⟩ = some (.bool false) := (blk_cell HRG7.out 3).trans rfl
  have rf3 := blk_frozen HRG7.out 3
  have rl := blk_lt HRG7.out
  have n0 : w7.cell? ⟨(w.heap.size + 1 + 1 + 1), 0, none⟩ = some (.int .u8 0) := (blk_cell HRN7.out 0).trans rfl
  have nf0 := blk_frozen HRN7.out 0
  have n1 : w7.cell? ⟨(w.heap.size + 1 + 1 + 1), 1, none⟩ = some (.bool false) := (blk_cell HRN7.out 1).trans rfl
  have nf1 := blk_frozen HRN7.out 1
  have n2 : w7.cell? ⟨(w.heap.size + 1 + 1 + 1), 2, none⟩ = some (.slice none 0 0) := (blk_cell HRN7.out 2).trans rfl
  have nf2 := blk_frozen HRN7.out 2
  have n3 : w7.cell? ⟨(w.heap.size + 1 + 1 + 1), 3, none⟩ = some (.int .u32 0) := (blk_cell HRN7.out 3).trans rfl
  have nf3 := blk_frozen HRN7.out 3
  have nl := blk_lt HRN7.out
  go_wp2_with fail
  exact bodyPost_ret (v := .tuple #[.agg #[.string (⟨#[]⟩ : ByteArray), .bool false, .bool false, .bool true], .agg #[.int .u8 5, .bool false, .slice An 0 cn, .int .u32 1002], .bool true]) (by simp [results, Tryd.results17, go_sem, show strOfNums [] = (⟨#[]⟩ : ByteArray) from rfl, r0, r1, r2, r3, n0, n1, n2, n3]) rfl ⟨An, cn, rfl, Nat.zero_le _, Rd.zero _ _ _, sets4 (sets4 HB7.out hle2) hle3⟩
set_option maxHeartbeats 8000000 in
set_option maxRecDepth 100000 in
theorem reft_close {b : List Int} {busy text fin mk : Bool} {key : Int} {A : Option Addr} {c : Nat} {d : List Int} {w : World} {B : Nat} (hBw : B ≤ w.heap.size) (hC : Rd B w A d) (hc : d.length ≤ c) (hd8 : ∀ x ∈ d, 0 ≤ x ∧ x ≤ 255) (hdl : d.length ≤ 140737488351232) : Calls Tryd.prog 17 #[gmV b busy text false, .agg #[.bool fin, .int .u8 8, .bool mk, .int .u32 key, .slice A d.length c]] w (RefPost B [] false false true (closeM d).1 false (closeM d).2.1 (closeM d).2.2 true w) := by
  have HD8 := Aside0.mk hd8
  clear hd8
  have hug := Tryd.underlying40
  have hu30 := Tryd.underlying30
  have hu26 := Tryd.underlying26
  have HC := Aside0.mk hC
  clear hC
  have hle0 : w.heap.size ≤ w.heap.size := by omega
  have hle1 : w.heap.size ≤ w.heap.size + 1 := by omega
  have hle2 : w.heap.size ≤ w.heap.size + 1 + 1 := by omega
  have hle3 : w.heap.size ≤ w.heap.size + 1 + 1 + 1 := by omega
  have hle4 : w.heap.size ≤ w.heap.size + 1 + 1 + 1 + 1 := by omega
  have hb1 : Below w.heap.size w (((((w.alloc (.cells #[.string (strOfNums b), .bool busy, .bool text, .bool false] 40)).alloc (.cells #[.bool fin, .int .u8 8, .bool mk, .int .u32 key, .slice A d.length c] 26)).alloc (.cells #[.string (⟨#[]⟩ : ByteArray), .bool false, .bool false, .bool false] 40)).alloc (.cells #[.int .u8 0, .bool false, .slice none 0 0, .int .u32 0] 30)).alloc (.cells #[.int .u8 0, .bool false, .slice none 0 0, .int .u32 0] 30)) := below_alloc (below_alloc (below_alloc (below_alloc (below_alloc (Below.refl _ _) _) _) _) _) _
  have hgb : (((((w.alloc (.cells #[.string (strOfNums b), .bool busy, .bool text, .bool false] 40)).alloc (.cells #[.bool fin, .int .u8 8, .bool mk, .int .u32 key, .slice A d.length c] 26)).alloc (.cells #[.string (⟨#[]⟩ : ByteArray), .bool false, .bool false, .bool false] 40)).alloc (.cells #[.int .u8 0, .bool false, .slice none 0 0, .int .u32 0] 30)).alloc (.cells #[.int .u8 0, .bool false, .slice none 0 0, .int .u32 0] 30)).heap[w.heap.size]? = some (.cells #[.string (strOfNums b), .bool busy, .bool text, .bool false] 40 (0, 0)) := blk_alloc (blk_alloc (blk_alloc (blk_alloc (last_at _ _ _ (by simp)) _) _) _) _
  have hpb : (((((w.alloc (.cells #[.string (strOfNums b), .bool busy, .bool text, .bool false] 40)).alloc (.cells #[.bool fin, .int .u8 8, .bool mk, .int .u32 key, .slice A d.length c] 26)).alloc (.cells #[.string (⟨#[]⟩ : ByteArray), .bool false, .bool false, .bool false] 40)).alloc (.cells #[.int .u8 0, .bool false, .slice none 0 0, .int .u32 0] 30)).alloc (.cells #[.int .u8 0, .bool false, .slice none 0 0, .int .u32 0] 30)).heap[w.heap.size + 1]? = some (.cells #[.bool fin, .int .u8 8, .bool mk, .int .u32 key, .slice A d.length c] 26 (0, 0)) := blk_alloc (blk_alloc (blk_alloc (last_at _ _ _ (by simp)) _) _) _
  have hrg : (((((w.alloc (.cells #[.string (strOfNums b), .bool busy, .bool text, .bool false] 40)).alloc (.cells #[.bool fin, .int .u8 8, .bool mk, .int .u32 key, .slice A d.length c] 26)).alloc (.cells #[.string (⟨#[]⟩ : ByteArray), .bool false, .bool false, .bool false] 40)).alloc (.cells #[.int .u8 0, .bool false, .slice none 0 0, .int .u32 0] 30)).alloc (.cells #[.int .u8 0, .bool false, .slice none 0 0, .int .u32 0] 30)).heap[w.heap.size + 1 + 1]? = some (.cells #[.string (⟨#[]⟩ : ByteArray), .bool false, .bool false, .bool false] 40 (0, 0)) := blk_alloc (blk_alloc (last_at _ _ _ (by simp)) _) _
  have hrn : (((((w.alloc (.cells #[.string (strOfNums b), .bool busy, .bool text, .bool false] 40)).alloc (.cells #[.bool fin, .int .u8 8, .bool mk, .int .u32 key, .slice A d.length c] 26)).alloc (.cells #[.string (⟨#[]⟩ : ByteArray), .bool false, .bool false, .bool false] 40)).alloc (.cells #[.int .u8 0, .bool false, .slice none 0 0, .int .u32 0] 30)).alloc (.cells #[.int .u8 0, .bool false, .slice none 0 0, .int .u32 0] 30)).heap[w.heap.size + 1 + 1 + 1]? = some (.cells #[.int .u8 0, .bool false, .slice none 0 0, .int .u32 0] 30 (0, 0)) := blk_alloc (last_at _ _ _ (by simp)) _
  have hnn : (((((w.alloc (.cells #[.string (strOfNums b), .bool busy, .bool text, .bool false] 40)).alloc (.cells #[.bool fin, .int .u8 8, .bool mk, .int .u32 key, .slice A d.length c] 26)).alloc (.cells #[.string (⟨#[]⟩ : ByteArray), .bool false, .bool false, .bool false] 40)).alloc (.cells #[.int .u8 0, .bool false, .slice none 0 0, .int .u32 0] 30)).alloc (.cells #[.int .u8 0, .bool false, .slice none 0 0, .int .u32 0] 30)).heap[w.heap.size + 1 + 1 + 1 + 1]? = some (.cells #[.int .u8 0, .bool false, .slice none 0 0, .int .u32 0] 30 (0, 0)) := last_at _ _ _ (by simp)
  go_enter Tryd.func17, Tryd.ntmps17
  go_upto_region 2 with fail
  generalize (((((w.alloc (.cells #[.string (strOfNums b), .bool busy, .bool text, .bool false] 40)).alloc (.cells #[.bool fin, .int .u8 8, .bool mk, .int .u32 key, .slice A d.length c] 26)).alloc (.cells #[.string (⟨#[]⟩ : ByteArray), .bool false, .bool false, .bool false] 40)).alloc (.cells #[.int .u8 0, .bool false, .slice none 0 0, .int .u32 0] 30)).alloc (.cells #[.int .u8 0, .bool false, .slice none 0 0, .int .u32 0] 30)) = W1 at hb1 hgb hpb hrg hrn hnn ⊢
  have HB1 := Aside0.mk hb1
  have HGB := Aside0.mk hgb
  have HPB := Aside0.mk hpb
  have HRG := Aside0.mk hrg
  have HRN := Aside0.mk hrn
  have HNN := Aside0.mk hnn
  clear hb1 hgb hpb hrg hrn hnn
  have g0 : W1.cell? ⟨w.heap.size, 0, none⟩ = some (.string (strOfNums b)) := (blk_cell HGB.out 0).trans rfl
  have gf0 := blk_frozen HGB.out 0
  have g1 : W1.cell? ⟨w.heap.size, 1, none⟩ = some (.bool busy) := (blk_cell HGB.out 1).trans rfl
  have gf1 := blk_frozen HGB.out 1
  have g2 : W1.cell? ⟨w.heap.size, 2, none⟩ = some (.bool text) := (blk_cell HGB.out 2).trans rfl
  have gf2 := blk_frozen HGB.out 2
  have g3 : W1.cell? ⟨w.heap.size, 3, none⟩ = some (.bool false) := (blk_cell HGB.out 3).trans rfl
  have gf3 := blk_frozen HGB.out 3
  have gl := blk_lt HGB.out
  have p0 : W1.cell? ⟨(w.heap.size + 1), 0, none⟩ = some (.bool fin) := (blk_cell HPB.out 0).trans rfl
  have pf0 := blk_frozen HPB.out 0
  have p1 : W1.cell? ⟨(w.heap.size + 1), 1, none⟩ = some (.int .u8 8) := (blk_cell HPB.out 1).trans rfl
  have pf1 := blk_frozen HPB.out 1
  have p2 : W1.cell? ⟨(w.heap.size + 1), 2, none⟩ = some (.bool mk) := (blk_cell HPB.out 2).trans rfl
  have pf2 := blk_frozen HPB.out 2
  have p3 : W1.cell? ⟨(w.heap.size + 1), 3, none⟩ = some (.int .u32 key) := (blk_cell HPB.out 3).trans rfl
  have pf3 := blk_frozen HPB.out 3
  have p4 : W1.cell? ⟨(w.heap.size + 1), 4, none⟩ = some (.slice A d.length c) := (blk_cell HPB.out 4).trans rfl
  have pf4 := blk_frozen HPB.out 4
  have pl := blk_lt HPB.out
  have hcs : (convert 24 9 (.slice A d.length c)).run Tryd.prog W1 = .ok (.string (strOfNums d)) W1 := Kd.C_string Tryd.underlying24 Tryd.underlying5 Tryd.underlying9 (HC.out.below HB1.out hBw).C
  go_wp2_with fail
  refine (ref_closes B d HD8.out hdl _ (Nat.le_trans hBw HB1.out.size)).mono ?_
  rintro e w7 ⟨An, cn, rfl, hcn, hCn, hb⟩
  have HB7 := Aside0.mk (below_step HB1.out hb)
  have HRG7 := Aside0.mk (blk_below HRG.out hb)
  have HRN7 := Aside0.mk (blk_below HRN.out hb)
  have HCN := Aside0.mk hCn
  clear hb hCn
  clear g0 gf0 g1 gf1 g2 gf2 g3 gf3 gl
  clear p0 pf0 p1 pf1 p2 pf2 p3 pf3 p4 pf4 pl
  have r0 : w7.cell? ⟨(w.heap.size + 1 + 1), 0, none⟩ = some (.string (⟨#[]⟩ : ByteArray)) := (blk_cell HRG7.out 0).trans rfl
  have rf0 := blk_frozen HRG7.out 0
  have r1 : w7.cell? ⟨(w.heap.size + 1 + 1), 1, none⟩ = some (.bool false) := (blk_cell HRG7.out 1).trans rfl
  have rf1 := blk_frozen HRG7.out 1
  have r2 : w7.cell? ⟨(w.heap.size + 1 + 1), 2, none⟩ = some (.bool false) := (blk_cell HRG7.out 2).trans rfl
  have rf2 := blk_frozen HRG7.out 2
  have r3 : w7.cell? ⟨(w.heap.size + 1 + 1), 3, none⟩ = some (.bool false) := (blk_cell HRG7.out 3).trans rfl
  have rf3 := blk_frozen HRG7.out 3
  have rl := blk_lt HRG7.out
  have n0 : w7.cell? ⟨(w.heap.size + 1 + 1 + 1), 0, none⟩ = some (.int .u8 0) := (blk_cell HRN7.out 0).trans rfl
  have nf0 := blk_frozen HRN7.out 0
  have n1 : w7.cell? ⟨(w.heap.size + 1 + 1 + 1), 1, none⟩ = some (.bool false) := (blk_cell HRN7.out 1).trans rfl
  have nf1 := blk_frozen HRN7.out 1
  have n2 : w7.cell? ⟨(w.heap.size + 1 + 1 + 1), 2, none⟩ = some (.slice none 0 0) := (blk_cell HRN7.out 2).trans rfl
  have nf2 := blk_frozen HRN7.out 2
  have n3 : w7.cell? ⟨(w.heap.size + 1 + 1 + 1), 3, none⟩ = some (.int .u32 0) := (blk_cell HRN7.out 3).trans rfl
  have nf3 := blk_frozen HRN7.out 3
  have nl := blk_lt HRN7.out
  go_wp2_with fail
  exact bodyPost_ret (v := .tuple #[.agg #[.string (⟨#[]⟩ : ByteArray), .bool false, .bool false, .bool true], .agg #[.int .u8 (closeM d).1, .bool false, .slice An (closeM d).2.1.length cn, .int .u32 (closeM d).2.2], .bool true]) (by simp [results, Tryd.results17, go_sem, show strOfNums [] = (⟨#[]⟩ : ByteArray) from rfl, r0, r1, r2, r3, n0, n1, n2, n3]) rfl ⟨An, cn, rfl, hcn, Rd.off4 (Rd.off4 HCN.out HRG7.out (by decide) (by omega)) ((heap_sets4 (by omega)).trans HRN7.out) (by decide) (by omega), sets4 (sets4 HB7.out hle2) hle3⟩
def PartR (B : Nat) (busy text fin : Bool) (op : Int) (b d : List Int) (w : World) (e : Ending) (w' : World) : Prop := (partC busy text fin op b d ≠ 0 ∧ RefPost B [] false false true 5 false [] (partC busy text fin op b d) true w e w') ∨ (partC busy text fin op b d = 0 ∧ fin = false ∧ RefPost B (b ++ d) true (textN busy text op) false 0 false [] 0 false w e w') ∨ (partC busy text fin op b d = 0 ∧ fin = true ∧ RefPost B [] false false false 1 (textN busy text op) (b ++ d) 0 true w e w')
theorem partC_val {busy text fin : Bool} {op : Int} {b d l : List Int} {tn : Bool} (hl : l = b ++ d) (hm : ((op == 0) != busy) = false) (h4 : ¬ 4096 < b.length + d.length) (htn : textN busy text op = tn) : partC busy text fin op b d = if tn = true ∧ ((feedC s0 l).2.2 = true ∨ (fin = true ∧ validC l = false)) then 1007 else 0 := by
  unfold partC
  rw [if_neg (by rw [hm]; decide), if_neg h4, htn, hl]
theorem strx_append (a b : List Int) : strOfNums a ++ strOfNums b = strOfNums (a ++ b) := by
  apply ByteArray.ext
  simp [strOfNums, ByteArray.data_append]
set_option maxHeartbeats 8000000 in
set_option maxRecDepth 100000 in
theorem reft_part_0 {b : List Int} {busy text fin mk : Bool} {key : Int} {A : Option Addr} {c : Nat} {d : List Int} {w : World} {B : Nat} (hBw : B ≤ w.heap.size) (hC : Rd B w A d) (hc : d.length ≤ c) (hbf : busy = false → b = []) (hb8 : ∀ x ∈ b, 0 ≤ x ∧ x ≤ 255) (hd8 : ∀ x ∈ d, 0 ≤ x ∧ x ≤ 255) (hbl : b.length ≤ 4096) (hdl : d.length ≤ 1000000000) : Calls Tryd.prog 17 #[gmV b busy text false, .agg #[.bool fin, .int .u8 0, .bool mk, .int .u32 key, .slice A d.length c]] w (PartR B busy text fin 0 b d w) := by
  have HB8 := Aside0.mk hb8
  have HD8 := Aside0.mk hd8
  have HBB := Aside0.mk (bs_str b hb8)
  have HBD := Aside0.mk (bs_str d hd8)
  have HBF := Aside0.mk hbf
  clear hb8 hd8 hbf
  cases busy with
  | false =>
    have hug := Tryd.underlying40
    have hu30 := Tryd.underlying30
    have hu26 := Tryd.underlying26
    have HC := Aside0.mk hC
    clear hC
    have hle0 : w.heap.size ≤ w.heap.size := by omega
    have hle1 : w.heap.size ≤ w.heap.size + 1 := by omega
    have hle2 : w.heap.size ≤ w.heap.size + 1 + 1 := by omega
    have hle3 : w.heap.size ≤ w.heap.size + 1 + 1 + 1 := by omega
    have hle4 : w.heap.size ≤ w.heap.size + 1 + 1 + 1 + 1 := by omega
    have hb1 : Below w.heap.size w (((((w.alloc (.cells #[.string (strOfNums b), .bool false, .bool text, .bool false] 40)).alloc (.cells #[.bool fin, .int .u8 0, .bool mk, .int .u32 key, .slice A d.length c] 26)).alloc (.cells #[.string (⟨#[]⟩ : ByteArray), .bool false, .bool false, .bool false] 40)).alloc (.cells #[.int .u8 0, .bool false, .slice none 0 0, .int .u32 0] 30)).alloc (.cells #[.int .u8 0, .bool false, .slice none 0 0, .int .u32 0] 30)) := below_alloc (below_alloc (below_alloc (below_alloc (below_alloc (Below.refl _ _) _) _) _) _) _
    have hgb : (((((w.alloc (.cells #[.string (strOfNums b), .bool false, .bool text, .bool false] 40)).alloc (.cells #[.bool fin, .int .u8 0, .bool mk, .int .u32 key, .slice A d.length c] 26)).alloc (.cells #[.string (⟨#[]⟩ : ByteArray), .bool false, .bool false, .bool false] 40)).alloc (.cells #[.int .u8 0, .bool false, .slice none 0 0, .int .u32 0] 30)).alloc (.cells #[.int .u8 0, .bool false, .slice none 0 0, .int .u32 0] 30)).heap[w.heap.size]? = some (.cells #[.string (strOfNums b), .bool false, .bool text, .bool false] 40 (0, 0)) := blk_alloc (blk_alloc (blk_alloc (blk_alloc (last_at _ _ _ (by simp)) _) _) _) _
    have hpb : (((((w.alloc (.cells #[.string (strOfNums b), .bool false, .bool text, .bool false] 40)).alloc (.cells #[.bool fin, .int .u8 0, .bool mk, .int .u32 key, .slice A d.length c] 26)).alloc (.cells #[.string (⟨#[]⟩ : ByteArray), .bool false, .bool false, .bool false] 40)).alloc (.cells #[.int .u8 0, .bool false, .slice none 0 0, .int .u32 0] 30)).alloc (.cells #[.int .u8 0, .bool false, .slice none 0 0, .int .u32 0] 30)).heap[w.heap.size + 1]? = some (.cells #[.bool fin, .int .u8 0, .bool mk, .int .u32 key, .slice A d.length c] 26 (0, 0)) := blk_alloc (blk_alloc (blk_alloc (last_at _ _ _ (by simp)) _) _) _
    have hrg : (((((w.alloc (.cells #[.string (strOfNums b), .bool false, .bool text, .bool false] 40)).alloc (.cells #[.bool fin, .int .u8 0, .bool mk, .int .u32 key, .slice A d.length c] 26)).alloc (.cells #[.string (⟨#[]⟩ : ByteArray), .bool false, .bool false, .bool false] 40)).alloc (.cells #[.int .u8 0, .bool false, .slice none 0 0, .int .u32 0] 30)).alloc (.cells #[.int .u8 0, .bool false, .slice none 0 0, .int .u32 0] 30)).heap[w.heap.size + 1 + 1]? = some (.cells #[.string (⟨#[]⟩ : ByteArray), .bool false, .bool false, .bool false] 40 (0, 0)) := blk_alloc (blk_alloc (last_at _ _ _ (by simp)) _) _
    have hrn : (((((w.alloc (.cells #[.string (strOfNums b), .bool false, .bool text, .bool false] 40)).alloc (.cells #[.bool fin, .int .u8 0, .bool mk, .int .u32 key, .slice A d.length c] 26)).alloc (.cells #[.string (⟨#[]⟩ : ByteArray), .bool false, .bool false, .bool false] 40)).alloc (.cells #[.int .u8 0, .bool false, .slice none 0 0, .int .u32 0] 30)).alloc (.cells #[.int .u8 0, .bool false, .slice none 0 0, .int .u32 0] 30)).heap[w.heap.size + 1 + 1 + 1]? = some (.cells #[.int .u8 0, .bool false, .slice none 0 0, .int .u32 0] 30 (0, 0)) := blk_alloc (last_at _ _ _ (by simp)) _
    have hnn : (((((w.alloc (.cells #[.string (strOfNums b), .bool false, .bool text, .bool false] 40)).alloc (.cells #[.bool fin, .int .u8 0, .bool mk, .int .u32 key, .slice A d.length c] 26)).alloc (.cells #[.string (⟨#[]⟩ : ByteArray), .bool false, .bool false, .bool false] 40)).alloc (.cells #[.int .u8 0, .bool false, .slice none 0 0, .int .u32 0] 30)).alloc (.cells #[.int .u8 0, .bool false, .slice none 0 0, .int .u32 0] 30)).heap[w.heap.size + 1 + 1 + 1 + 1]? = some (.cells #[.int .u8 0, .bool false, .slice none 0 0, .int .u32 0] 30 (0, 0)) := last_at _ _ _ (by simp)
    go_enter Tryd.func17, Tryd.ntmps17
    go_upto_region 2 with fail
    generalize (((((w.alloc (.cells #[.string (strOfNums b), .bool false, .bool text, .bool false] 40)).alloc (.cells #[.bool fin, .int .u8 0, .bool mk, .int .u32 key, .slice A d.length c] 26)).alloc (.cells #[.string (⟨#[]⟩ : ByteArray), .bool false, .bool false, .bool false] 40)).alloc (.cells #[.int .u8 0, .bool false, .slice none 0 0, .int .u32 0] 30)).alloc (.cells #[.int .u8 0, .bool false, .slice none 0 0, .int .u32 0] 30)) = W1 at hb1 hgb hpb hrg hrn hnn ⊢
    have HB1 := Aside0.mk hb1
    have HGB := Aside0.mk hgb
    have HPB := Aside0.mk hpb
    have HRG := Aside0.mk hrg
    have HRN := Aside0.mk hrn
    have HNN := Aside0.mk hnn
    clear hb1 hgb hpb hrg hrn hnn
    have g0 : W1.cell? ⟨w.heap.size, 0, none⟩ = some (.string (strOfNums b)) := (blk_cell HGB.out 0).trans rfl
    have gf0 := blk_frozen HGB.out 0
    have g1 : W1.cell? ⟨w.heap.size, 1, none⟩ = some (.bool false) := (blk_cell HGB.out 1).trans rfl
    have gf1 := blk_frozen HGB.out 1
    have g2 : W1.cell? ⟨w.heap.size, 2, none⟩ = some (.bool text) := (blk_cell HGB.out 2).trans rfl
    have gf2 := blk_frozen HGB.out 2
    have g3 : W1.cell? ⟨w.heap.size, 3, none⟩ = some (.bool false) := (blk_cell HGB.out 3).trans rfl
    have gf3 := blk_frozen HGB.out 3
    have gl := blk_lt HGB.out
    have p0 : W1.cell? ⟨(w.heap.size + 1), 0, none⟩ = some (.bool fin) := (blk_cell HPB.out 0).trans rfl
    have pf0 := blk_frozen HPB.out 0
    have p1 : W1.cell? ⟨(w.heap.size + 1), 1, none⟩ = some (.int .u8 0) := (blk_cell HPB.out 1).trans rfl
    have pf1 := blk_frozen HPB.out 1
    have p2 : W1.cell? ⟨(w.heap.size + 1), 2, none⟩ = some (.bool mk) := (blk_cell HPB.out 2).trans rfl
    have pf2 := blk_frozen HPB.out 2
    have p3 : W1.cell? ⟨(w.heap.size + 1), 3, none⟩ = some (.int .u32 key) := (blk_cell HPB.out 3).trans rfl
    have pf3 := blk_frozen HPB.out 3
    have p4 : W1.cell? ⟨(w.heap.size + 1), 4, none⟩ = some (.slice A d.length c) := (blk_cell HPB.out 4).trans rfl
    have pf4 := blk_frozen HPB.out 4
    have pl := blk_lt HPB.out
    have HPC : Aside0 (partC false text fin 0 b d = 1002) := ⟨by unfold partC; rw [if_pos (by decide)]⟩
    go_wp2_with fail
    refine (ref_bad 1002 B _).mono ?_
    rintro e w7 ⟨An, cn, rfl, _, _, hb⟩
    have HB7 := Aside0.mk (below_step HB1.out hb)
    have HRG7 := Aside0.mk (blk_below HRG.out hb)
    have HRN7 := Aside0.mk (blk_below HRN.out hb)
    clear hb
    have r0 : w7.cell? ⟨(w.heap.size + 1 + 1), 0, none⟩ = some (.string (⟨#[]⟩ : ByteArray)) := (blk_cell HRG7.out 0).trans rfl
    have rf0 := blk_frozen HRG7.out 0
    have r1 : w7.cell? ⟨(w.heap.size + 1 + 1), 1, none⟩ = some (.bool false) := (blk_cell HRG7.out 1).trans rfl
    have rf1 := blk_frozen HRG7.out 1
    have r2 : w7.cell? ⟨(w.heap.size + 1 + 1), 2, none⟩ = some (.bool false) := (blk_cell HRG7.out 2).trans rfl
    have rf2 := blk_frozen HRG7.out 2
    have r3 : w7.cell? ⟨(w.heap.size + 1 + 1), 3, none⟩ = some (.bool false) := (blk_cell HRG7.out 3).trans rfl
    have rf3 := blk_frozen HRG7.out 3
    have rl := blk_lt HRG7.out
    have n0 : w7.cell? ⟨(w.heap.size + 1 + 1 + 1), 0, none⟩ = some (.int .u8 0) := (blk_cell HRN7.out 0).trans rfl
    have nf0 := blk_frozen HRN7.out 0
    have n1 : w7.cell? ⟨(w.heap.size + 1 + 1 + 1), 1, none⟩ = some (.bool false) := (blk_cell HRN7.out 1).trans rfl
    have nf1 := blk_frozen HRN7.out 1
    have n2 : w7.cell? ⟨(w.heap.size + 1 + 1 + 1), 2, none⟩ = some (.slice none 0 0) := (blk_cell HRN7.out 2).trans rfl
    have nf2 := blk_frozen HRN7.out 2
    have n3 : w7.cell? ⟨(w.heap.size + 1 + 1 + 1), 3, none⟩ = some (.int .u32 0) := (blk_cell HRN7.out 3).trans rfl
    have nf3 := blk_frozen HRN7.out 3
    have nl := blk_lt HRN7.out
    go_wp2_with fail
    exact bodyPost_ret (v := .tuple #[.agg #[.string (⟨#[]⟩ : ByteArray), .bool false, .bool false, .bool true], .agg #[.int .u8 5, .bool false, .slice An 0 cn, .int .u32 1002], .bool true]) (by simp [results, Tryd.results17, go_sem, show strOfNums [] = (⟨#[]⟩ : ByteArray) from rfl, r0, r1, r2, r3, n0, n1, n2, n3]) rfl (.inl ⟨by rw [HPC.out]; decide, HPC.out ▸ ⟨An, cn, rfl, Nat.zero_le _, Rd.zero _ _ _, sets4 (sets4 HB7.out hle2) hle3⟩⟩)
  | true =>
    have hug := Tryd.underlying40
    have hu30 := Tryd.underlying30
    have hu26 := Tryd.underlying26
    have HC := Aside0.mk hC
    clear hC
    have hle0 : w.heap.size ≤ w.heap.size := by omega
    have hle1 : w.heap.size ≤ w.heap.size + 1 := by omega
    have hle2 : w.heap.size ≤ w.heap.size + 1 + 1 := by omega
    have hle3 : w.heap.size ≤ w.heap.size + 1 + 1 + 1 := by omega
    have hle4 : w.heap.size ≤ w.heap.size + 1 + 1 + 1 + 1 := by omega
    have hb1 : Below w.heap.size w (((((w.alloc (.cells #[.string (strOfNums b), .bool true, .bool text, .bool false] 40)).alloc (.cells #[.bool fin, .int .u8 0, .bool mk, .int .u32 key, .slice A d.length c] 26)).alloc (.cells #[.string (⟨#[]⟩ : ByteArray), .bool false, .bool false, .bool false] 40)).alloc (.cells #[.int .u8 0, .bool false, .slice none 0 0, .int .u32 0] 30)).alloc (.cells #[.int .u8 0, .bool false, .slice none 0 0, .int .u32 0] 30)) := below_alloc (below_alloc (below_alloc (below_alloc (below_alloc (Below.refl _ _) _) _) _) _) _
    have hgb : (((((w.alloc (.cells #[.string (strOfNums b), .bool true, .bool text, .bool false] 40)).alloc (.cells #[.bool fin, .int .u8 0, .bool mk, .int .u32 key, .slice A d.length c] 26)).alloc (.cells #[.string (⟨#[]⟩ : ByteArray), .bool false, .bool false, .bool false] 40)).alloc (.cells #[.int .u8 0, .bool false, .slice none 0 0, .int .u32 0] 30)).alloc (.cells #[.int .u8 0, .bool false, .slice none 0 0, .int .u32 0] 30)).heap[w.heap.size]? = some (.cells #[.string (strOfNums b), .bool true, .bool text, .bool false] 40 (0, 0)) := blk_alloc (blk_alloc (blk_alloc (blk_alloc (last_at _ _ _ (by simp)) _) _) _) _
    have hpb : (((((w.alloc (.cells #[.string (strOfNums b), .bool true, .bool text, .bool false] 40)).alloc (.cells #[.bool fin, .int .u8 0, .bool mk, .int .u32 key, .slice A d.length c] 26)).alloc (.cells #[.string (⟨#[]⟩ : ByteArray), .bool false, .bool false, .bool false] 40)).alloc (.cells #[.int .u8 0, .bool false, .slice none 0 0, .int .u32 0] 30)).alloc (.cells #[.int .u8 0, .bool false, .slice none 0 0, .int .u32 0] 30)).heap[w.heap.size + 1]? = some (.cells #[.bool fin, .int .u8 0, .bool mk, .int .u32 key, .slice A d.length c] 26 (0, 0)) := blk_alloc (blk_alloc (blk_alloc (last_at _ _ _ (by simp)) _) _) _
    have hrg : (((((w.alloc (.cells #[.string (strOfNums b), .bool true, .bool text, .bool false] 40)).alloc (.cells #[.bool fin, .int .u8 0, .bool mk, .int .u32 key, .slice A d.length c] 26)).alloc (.cells #[.string (⟨#[]⟩ : ByteArray), .bool false, .bool false, .bool false] 40)).alloc (.cells #[.int .u8 0, .bool false, .slice none 0 0, .int .u32 0] 30)).alloc (.cells #[.int .u8 0, .bool false, .slice none 0 0, .int .u32 0] 30)).heap[w.heap.size + 1 + 1]? = some (.cells #[.string (⟨#[]⟩ : ByteArray), .bool false, .bool false, .bool false] 40 (0, 0)) := blk_alloc (blk_alloc (last_at _ _ _ (by simp)) _) _
    have hrn : (((((w.alloc (.cells #[.string (strOfNums b), .bool true, .bool text, .bool false] 40)).alloc (.cells #[.bool fin, .int .u8 0, .bool mk, .int .u32 key, .slice A d.length c] 26)).alloc (.cells #[.string (⟨#[]⟩ : ByteArray), .bool false, .bool false, .bool false] 40)).alloc (.cells #[.int .u8 0, .bool false, .slice none 0 0, .int .u32 0] 30)).alloc (.cells #[.int .u8 0, .bool false, .slice none 0 0, .int .u32 0] 30)).heap[w.heap.size + 1 + 1 + 1]? = some (.cells #[.int .u8 0, .bool false, .slice none 0 0, .int .u32 0] 30 (0, 0)) := blk_alloc (last_at _ _ _ (by simp)) _
    have hnn : (((((w.alloc (.cells #[.string (strOfNums b), .bool true, .bool text, .bool false] 40)).alloc (.cells #[.bool fin, .int .u8 0, .bool mk, .int .u32 key, .slice A d.length c] 26)).alloc (.cells #[.string (⟨#[]⟩ : ByteArray), .bool false, .bool false, .bool false] 40)).alloc (.cells #[.int .u8 0, .bool false, .slice none 0 0, .int .u32 0] 30)).alloc (.cells #[.int .u8 0, .bool false, .slice none 0 0, .int .u32 0] 30)).heap[w.heap.size + 1 + 1 + 1 + 1]? = some (.cells #[.int .u8 0, .bool false, .slice none 0 0, .int .u32 0] 30 (0, 0)) := last_at _ _ _ (by simp)
    go_enter Tryd.func17, Tryd.ntmps17
    go_upto_region 2 with fail
    generalize (((((w.alloc (.cells #[.string (strOfNums b), .bool true, .bool text, .bool false] 40)).alloc (.cells #[.bool fin, .int .u8 0, .bool mk, .int .u32 key, .slice A d.length c] 26)).alloc (.cells #[.string (⟨#[]⟩ : ByteArray), .bool false, .bool false, .bool false] 40)).alloc (.cells #[.int .u8 0, .bool false, .slice none 0 0, .int .u32 0] 30)).alloc (.cells #[.int .u8 0, .bool false, .slice none 0 0, .int .u32 0] 30)) = W1 at hb1 hgb hpb hrg hrn hnn ⊢
    have HB1 := Aside0.mk hb1
    have HGB := Aside0.mk hgb
    have HPB := Aside0.mk hpb
    have HRG := Aside0.mk hrg
    have HRN := Aside0.mk hrn
    have HNN := Aside0.mk hnn
    clear hb1 hgb hpb hrg hrn hnn
    have HTN := Aside0.mk (show textN true text 0 = text from rfl)
    have g0 : W1.cell? ⟨w.heap.size, 0, none⟩ = some (.string (strOfNums b)) := (blk_cell HGB.out 0).trans rfl
    have gf0 := blk_frozen HGB.out 0
    have g1 : W1.cell? ⟨w.heap.size, 1, none⟩ = some (.bool true) := (blk_cell HGB.out 1).trans rfl
    have gf1 := blk_frozen HGB.out 1
    have g2 : W1.cell? ⟨w.heap.size, 2, none⟩ = some (.bool text) := (blk_cell HGB.out 2).trans rfl
    have gf2 := blk_frozen HGB.out 2
    have g3 : W1.cell? ⟨w.heap.size, 3, none⟩ = some (.bool false) := (blk_cell HGB.out 3).trans rfl
    have gf3 := blk_frozen HGB.out 3
    have gl := blk_lt HGB.out
    have p0 : W1.cell? ⟨(w.heap.size + 1), 0, none⟩ = some (.bool fin) := (blk_cell HPB.out 0).trans rfl
    have pf0 := blk_frozen HPB.out 0
    have p1 : W1.cell? ⟨(w.heap.size + 1), 1, none⟩ = some (.int .u8 0) := (blk_cell HPB.out 1).trans rfl
    have pf1 := blk_frozen HPB.out 1
    have p2 : W1.cell? ⟨(w.heap.size + 1), 2, none⟩ = some (.bool mk) := (blk_cell HPB.out 2).trans rfl
    have pf2 := blk_frozen HPB.out 2
    have p3 : W1.cell? ⟨(w.heap.size + 1), 3, none⟩ = some (.int .u32 key) := (blk_cell HPB.out 3).trans rfl
    have pf3 := blk_frozen HPB.out 3
    have p4 : W1.cell? ⟨(w.heap.size + 1), 4, none⟩ = some (.slice A d.length c) := (blk_cell HPB.out 4).trans rfl
    have pf4 := blk_frozen HPB.out 4
    have pl := blk_lt HPB.out
    have hcs : (convert 24 9 (.slice A d.length c)).run Tryd.prog W1 = .ok (.string (strOfNums d)) W1 := Kd.C_string Tryd.underlying24 Tryd.underlying5 Tryd.underlying9 (HC.out.below HB1.out hBw).C
    have hsa : strOfNums b ++ strOfNums d = strOfNums (b ++ d) := strx_append _ _
    have hz1 : (strOfNums b).size = b.length := by rw [← bs_length, HBB.out]
    have hz2 : (strOfNums d).size = d.length := by rw [← bs_length, HBD.out]
    have hz3 : b.length + d.length ≤ 1000005000 := by omega
    go_upto_region 20 with fail
    have HGB3 := Aside0.mk (show (W1.setCell ⟨w.heap.size, 0, none⟩ (.string (strOfNums (b ++ d)))).heap[w.heap.size]? = some (.cells #[.string (strOfNums (b ++ d)), .bool true, .bool text, .bool false] 40 (0, 0)) from blk_put HGB.out 0 (.string (strOfNums (b ++ d))) rfl)
    have HPB3 := Aside0.mk (show (W1.setCell ⟨w.heap.size, 0, none⟩ (.string (strOfNums (b ++ d)))).heap[w.heap.size + 1]? = some (.cells #[.bool fin, .int .u8 0, .bool mk, .int .u32 key, .slice A d.length c] 26 (0, 0)) from (Below.heap_setCell _ ⟨w.heap.size, 0, none⟩ _ _ (show w.heap.size + 1 ≠ w.heap.size by omega)).trans HPB.out)
    have HRG3 := Aside0.mk (show (W1.setCell ⟨w.heap.size, 0, none⟩ (.string (strOfNums (b ++ d)))).heap[w.heap.size + 1 + 1]? = some (.cells #[.string (⟨#[]⟩ : ByteArray), .bool false, .bool false, .bool false] 40 (0, 0)) from (Below.heap_setCell _ ⟨w.heap.size, 0, none⟩ _ _ (show w.heap.size + 1 + 1 ≠ w.heap.size by omega)).trans HRG.out)
    have HRN3 := Aside0.mk (show (W1.setCell ⟨w.heap.size, 0, none⟩ (.string (strOfNums (b ++ d)))).heap[w.heap.size + 1 + 1 + 1]? = some (.cells #[.int .u8 0, .bool false, .slice none 0 0, .int .u32 0] 30 (0, 0)) from (Below.heap_setCell _ ⟨w.heap.size, 0, none⟩ _ _ (show w.heap.size + 1 + 1 + 1 ≠ w.heap.size by omega)).trans HRN.out)
    have HNN3 := Aside0.mk (show (W1.setCell ⟨w.heap.size, 0, none⟩ (.string (strOfNums (b ++ d)))).heap[w.heap.size + 1 + 1 + 1 + 1]? = some (.cells #[.int .u8 0, .bool false, .slice none 0 0, .int .u32 0] 30 (0, 0)) from (Below.heap_setCell _ ⟨w.heap.size, 0, none⟩ _ _ (show w.heap.size + 1 + 1 + 1 + 1 ≠ w.heap.size by omega)).trans HNN.out)
    have HB3 := Aside0.mk (Below.setCell (p := ⟨w.heap.size, 0, none⟩) HB1.out hle0 (.string (strOfNums (b ++ d))))
    generalize (W1.setCell ⟨w.heap.size, 0, none⟩ (.string (strOfNums (b ++ d)))) = W3 at HGB3 HPB3 HRG3 HRN3 HNN3 HB3 ⊢
    clear hcs hsa hz1 hz2
    clear g0 gf0 g1 gf1 g2 gf2 g3 gf3 gl
    clear p0 pf0 p1 pf1 p2 pf2 p3 pf3 p4 pf4 pl
    obtain ⟨l, hl⟩ : ∃ l, l = b ++ d := ⟨_, rfl⟩
    rw [← hl] at HGB3
    have HLL := Aside0.mk hl
    have hlen : l.length = b.length + d.length := by rw [hl, List.length_append]
    have HBS := Aside0.mk (show bs (strOfNums l) = l from bs_str l (fun x hx => by rw [hl] at hx; exact (List.mem_append.1 hx).elim (HB8.out x) (HD8.out x)))
    have hzl : (strOfNums l).size = l.length := by rw [← bs_length, HBS.out]
    clear hl
    have HLEN := Aside0.mk hlen
    clear hlen
    have g0 : W3.cell? ⟨w.heap.size, 0, none⟩ = some (.string (strOfNums l)) := (blk_cell HGB3.out 0).trans rfl
    have gf0 := blk_frozen HGB3.out 0
    have g1 : W3.cell? ⟨w.heap.size, 1, none⟩ = some (.bool true) := (blk_cell HGB3.out 1).trans rfl
    have gf1 := blk_frozen HGB3.out 1
    have g2 : W3.cell? ⟨w.heap.size, 2, none⟩ = some (.bool text) := (blk_cell HGB3.out 2).trans rfl
    have gf2 := blk_frozen HGB3.out 2
    have g3 : W3.cell? ⟨w.heap.size, 3, none⟩ = some (.bool false) := (blk_cell HGB3.out 3).trans rfl
    have gf3 := blk_frozen HGB3.out 3
    have gl := blk_lt HGB3.out
    have p0 : W3.cell? ⟨(w.heap.size + 1), 0, none⟩ = some (.bool fin) := (blk_cell HPB3.out 0).trans rfl
    have pf0 := blk_frozen HPB3.out 0
    have p1 : W3.cell? ⟨(w.heap.size + 1), 1, none⟩ = some (.int .u8 0) := (blk_cell HPB3.out 1).trans rfl
    have pf1 := blk_frozen HPB3.out 1
    have p2 : W3.cell? ⟨(w.heap.size + 1), 2, none⟩ = some (.bool mk) := (blk_cell HPB3.out 2).trans rfl
    have pf2 := blk_frozen HPB3.out 2
    have p3 : W3.cell? ⟨(w.heap.size + 1), 3, none⟩ = some (.int .u32 key) := (blk_cell HPB3.out 3).trans rfl
    have pf3 := blk_frozen HPB3.out 3
    have p4 : W3.cell? ⟨(w.heap.size + 1), 4, none⟩ = some (.slice A d.length c) := (blk_cell HPB3.out 4).trans rfl
    have pf4 := blk_frozen HPB3.out 4
    have pl := blk_lt HPB3.out
    by_cases h4 : (4096 : Int) < (l.length : Int)
    · have HPC : Aside0 (partC true text fin 0 b d = 1009) := ⟨by unfold partC; rw [if_neg (by first | decide | (simp; done)), if_pos (by have := HLEN.out; omega)]⟩
      have h4n : 4096 < l.length := by omega
      go_wp2_with fail
      refine (ref_bad 1009 B _).mono ?_
      rintro e w7 ⟨An, cn, rfl, _, _, hb⟩
      have HB7 := Aside0.mk (below_step HB3.out hb)
      have HRG7 := Aside0.mk (blk_below HRG3.out hb)
      have HRN7 := Aside0.mk (blk_below HRN3.out hb)
      clear hb
      have r0 : w7.cell? ⟨(w.heap.size + 1 + 1), 0, none⟩ = some (.string (⟨#[]⟩ : ByteArray)) := (blk_cell HRG7.out 0).trans rfl
      have rf0 := blk_frozen HRG7.out 0
      have r1 : w7.cell? ⟨(w.heap.size + 1 + 1), 1, none⟩ = some (.bool false) := (blk_cell HRG7.out 1).trans rfl
      have rf1 := blk_frozen HRG7.out 1
      have r2 : w7.cell? ⟨(w.heap.size + 1 + 1), 2, none⟩ = some (.bool false) := (blk_cell HRG7.out 2).trans rfl
      have rf2 := blk_frozen HRG7.out 2
      have r3 : w7.cell? ⟨(w.heap.size + 1 + 1), 3, none⟩ = some (.bool false) := (blk_cell HRG7.out 3).trans rfl
      have rf3 := blk_frozen HRG7.out 3
      have rl := blk_lt HRG7.out
      have n0 : w7.cell? ⟨(w.heap.size + 1 + 1 + 1), 0, none⟩ = some (.int .u8 0) := (blk_cell HRN7.out 0).trans rfl
      have nf0 := blk_frozen HRN7.out 0
      have n1 : w7.cell? ⟨(w.heap.size + 1 + 1 + 1), 1, none⟩ = some (.bool false) := (blk_cell HRN7.out 1).trans rfl
      have nf1 := blk_frozen HRN7.out 1
      have n2 : w7.cell? ⟨(w.heap.size + 1 + 1 + 1), 2, none⟩ = some (.slice none 0 0) := (blk_cell HRN7.out 2).trans rfl
      have nf2 := blk_frozen HRN7.out 2
      have n3 : w7.cell? ⟨(w.heap.size + 1 + 1 + 1), 3, none⟩ = some (.int .u32 0) := (blk_cell HRN7.out 3).trans rfl
      have nf3 := blk_frozen HRN7.out 3
      have nl := blk_lt HRN7.out
      go_wp2_with fail
      exact bodyPost_ret (v := .tuple #[.agg #[.string (⟨#[]⟩ : ByteArray), .bool false, .bool false, .bool true], .agg #[.int .u8 5, .bool false, .slice An 0 cn, .int .u32 1009], .bool true]) (by simp [results, Tryd.results17, go_sem, show strOfNums [] = (⟨#[]⟩ : ByteArray) from rfl, r0, r1, r2, r3, n0, n1, n2, n3]) rfl (.inl ⟨by rw [HPC.out]; decide, HPC.out ▸ ⟨An, cn, rfl, Nat.zero_le _, Rd.zero _ _ _, sets4 (sets4 HB7.out hle2) hle3⟩⟩)
    · have h4n : ¬ 4096 < l.length := by omega
      go_wp2_with fail
      have hgd := louverref15_Good.calls (2 * (strOfNums l).size + 41) (strOfNums l) _ _ W3 (good_f (strOfNums l) (by rw [hzl]; omega) _ (Nat.le_refl _))
      rw [HBS.out] at hgd
      refine hgd.mono ?_
      clear hgd
      rintro e w4 ⟨rfl, hb⟩
      have HGB4 := Aside0.mk (blk_below HGB3.out hb)
      have HPB4 := Aside0.mk (blk_below HPB3.out hb)
      have HRG4 := Aside0.mk (blk_below HRG3.out hb)
      have HRN4 := Aside0.mk (blk_below HRN3.out hb)
      have HNN4 := Aside0.mk (blk_below HNN3.out hb)
      have HB4 := Aside0.mk (below_step HB3.out hb)
      obtain ⟨gd, hgd⟩ : ∃ gd, gd = (feedC s0 l).1 := ⟨_, rfl⟩
      obtain ⟨vl, hvl⟩ : ∃ vl, vl = validC l := ⟨_, rfl⟩
      have HGD := Aside0.mk (show gd < l.length ↔ (feedC s0 l).2.2 = true from by
        rw [hgd]
        have h1 := feedC_le s0 l
        have h2 := feedC_all s0 l
        cases h3 : (feedC s0 l).2.2
        · have := h2.1 h3
          constructor
          · intro h; omega
          · intro h; cases h
        · constructor
          · intro _; rfl
          · intro _
            rcases Nat.lt_or_ge (feedC s0 l).1 l.length with h | h
            · exact h
            · have := h2.2 (by omega)
              rw [this] at h3; cases h3)
      have HVL := Aside0.mk hvl
      rw [← hgd, ← hvl]
      clear hb hgd hvl
      clear g0 gf0 g1 gf1 g2 gf2 g3 gf3 gl
      clear p0 pf0 p1 pf1 p2 pf2 p3 pf3 p4 pf4 pl
      have g0 : w4.cell? ⟨w.heap.size, 0, none⟩ = some (.string (strOfNums l)) := (blk_cell HGB4.out 0).trans rfl
      have gf0 := blk_frozen HGB4.out 0
      have g1 : w4.cell? ⟨w.heap.size, 1, none⟩ = some (.bool true) := (blk_cell HGB4.out 1).trans rfl
      have gf1 := blk_frozen HGB4.out 1
      have g2 : w4.cell? ⟨w.heap.size, 2, none⟩ = some (.bool text) := (blk_cell HGB4.out 2).trans rfl
      have gf2 := blk_frozen HGB4.out 2
      have g3 : w4.cell? ⟨w.heap.size, 3, none⟩ = some (.bool false) := (blk_cell HGB4.out 3).trans rfl
      have gf3 := blk_frozen HGB4.out 3
      have gl := blk_lt HGB4.out
      have p0 : w4.cell? ⟨(w.heap.size + 1), 0, none⟩ = some (.bool fin) := (blk_cell HPB4.out 0).trans rfl
      have pf0 := blk_frozen HPB4.out 0
      have p1 : w4.cell? ⟨(w.heap.size + 1), 1, none⟩ = some (.int .u8 0) := (blk_cell HPB4.out 1).trans rfl
      have pf1 := blk_frozen HPB4.out 1
      have p2 : w4.cell? ⟨(w.heap.size + 1), 2, none⟩ = some (.bool mk) := (blk_cell HPB4.out 2).trans rfl
      have pf2 := blk_frozen HPB4.out 2
      have p3 : w4.cell? ⟨(w.heap.size + 1), 3, none⟩ = some (.int .u32 key) := (blk_cell HPB4.out 3).trans rfl
      have pf3 := blk_frozen HPB4.out 3
      have p4 : w4.cell? ⟨(w.heap.size + 1), 4, none⟩ = some (.slice A d.length c) := (blk_cell HPB4.out 4).trans rfl
      have pf4 := blk_frozen HPB4.out 4
      have pl := blk_lt HPB4.out
      have z0 : w4.cell? ⟨(w.heap.size + 1 + 1 + 1 + 1), 0, none⟩ = some (.int .u8 0) := (blk_cell HNN4.out 0).trans rfl
      have zf0 := blk_frozen HNN4.out 0
      have z1 : w4.cell? ⟨(w.heap.size + 1 + 1 + 1 + 1), 1, none⟩ = some (.bool false) := (blk_cell HNN4.out 1).trans rfl
      have zf1 := blk_frozen HNN4.out 1
      have z2 : w4.cell? ⟨(w.heap.size + 1 + 1 + 1 + 1), 2, none⟩ = some (.slice none 0 0) := (blk_cell HNN4.out 2).trans rfl
      have zf2 := blk_frozen HNN4.out 2
      have z3 : w4.cell? ⟨(w.heap.size + 1 + 1 + 1 + 1), 3, none⟩ = some (.int .u32 0) := (blk_cell HNN4.out 3).trans rfl
      have zf3 := blk_frozen HNN4.out 3
      have zl := blk_lt HNN4.out
      cases text with
      | false =>
        cases fin with
        | false =>
          have HPC : Aside0 (partC true false false 0 b d = 0) := ⟨by rw [partC_val HLL.out (by rfl) (by have := HLEN.out; omega) HTN.out, if_neg (fun h => by cases h.1)]⟩
          have r0 : w4.cell? ⟨(w.heap.size + 1 + 1), 0, none⟩ = some (.string (⟨#[]⟩ : ByteArray)) := (blk_cell HRG4.out 0).trans rfl
          have rf0 := blk_frozen HRG4.out 0
          have r1 : w4.cell? ⟨(w.heap.size + 1 + 1), 1, none⟩ = some (.bool false) := (blk_cell HRG4.out 1).trans rfl
          have rf1 := blk_frozen HRG4.out 1
          have r2 : w4.cell? ⟨(w.heap.size + 1 + 1), 2, none⟩ = some (.bool false) := (blk_cell HRG4.out 2).trans rfl
          have rf2 := blk_frozen HRG4.out 2
          have r3 : w4.cell? ⟨(w.heap.size + 1 + 1), 3, none⟩ = some (.bool false) := (blk_cell HRG4.out 3).trans rfl
          have rf3 := blk_frozen HRG4.out 3
          have rl := blk_lt HRG4.out
          have n0 : w4.cell? ⟨(w.heap.size + 1 + 1 + 1), 0, none⟩ = some (.int .u8 0) := (blk_cell HRN4.out 0).trans rfl
          have nf0 := blk_frozen HRN4.out 0
          have n1 : w4.cell? ⟨(w.heap.size + 1 + 1 + 1), 1, none⟩ = some (.bool false) := (blk_cell HRN4.out 1).trans rfl
          have nf1 := blk_frozen HRN4.out 1
          have n2 : w4.cell? ⟨(w.heap.size + 1 + 1 + 1), 2, none⟩ = some (.slice none 0 0) := (blk_cell HRN4.out 2).trans rfl
          have nf2 := blk_frozen HRN4.out 2
          have n3 : w4.cell? ⟨(w.heap.size + 1 + 1 + 1), 3, none⟩ = some (.int .u32 0) := (blk_cell HRN4.out 3).trans rfl
          have nf3 := blk_frozen HRN4.out 3
          have nl := blk_lt HRN4.out
          go_upto_region 26 with fail
          refine wp_region_noPanic ?_
          refine wp_region_held_drew (S := fun w' => Aside0 True ∧ w'.cell? ⟨w.heap.size, 0, none⟩ = some (.string (strOfNums l)) ∧ w'.cell? ⟨w.heap.size, 1, none⟩ = some (.bool true) ∧ w'.cell? ⟨w.heap.size, 2, none⟩ = some (.bool false) ∧ w'.cell? ⟨w.heap.size, 3, none⟩ = some (.bool false) ∧ w'.cell? ⟨w.heap.size + 1 + 1 + 1 + 1, 0, none⟩ = some (.int .u8 0) ∧ w'.cell? ⟨w.heap.size + 1 + 1 + 1 + 1, 1, none⟩ = some (.bool false) ∧ w'.cell? ⟨w.heap.size + 1 + 1 + 1 + 1, 2, none⟩ = some (.slice none 0 0) ∧ w'.cell? ⟨w.heap.size + 1 + 1 + 1 + 1, 3, none⟩ = some (.int .u32 0)) (by kernel_rfl) ⟨⟨trivial⟩, (blk_cell (blk_drew HGB4.out) 0).trans rfl, (blk_cell (blk_drew HGB4.out) 1).trans rfl, (blk_cell (blk_drew HGB4.out) 2).trans rfl, (blk_cell (blk_drew HGB4.out) 3).trans rfl, (blk_cell (blk_drew HNN4.out) 0).trans rfl, (blk_cell (blk_drew HNN4.out) 1).trans rfl, (blk_cell (blk_drew HNN4.out) 2).trans rfl, (blk_cell (blk_drew HNN4.out) 3).trans rfl⟩ (fun hHeld => ?_)
          refine takeN (i := 0) (N := (some 119)) (v := ?v31) (a' := ?a31) rfl rfl (by kernel_rfl) (by kernel_rfl) (by kernel_rfl) (fun _ _ _ h => h) (Or.inl ⟨by rfl, ?hy31⟩) ?ha31 (by assumption) ?rest31
          case hy31 =>
            intro w_ hSw_
            go_simp
            first | done | (with_reducible rfl)
          case ha31 =>
            simp only [Act.put, List.setIfInBounds_toArray, List.set_cons_zero, List.set_cons_succ]
            rfl
          refine takeN (i := 1) (N := (some 120)) (v := ?v32) (a' := ?a32) rfl rfl (by kernel_rfl) (by kernel_rfl) (by kernel_rfl) (fun _ _ _ h => h) (Or.inl ⟨by rfl, ?hy32⟩) ?ha32 (by assumption) ?rest32
          case hy32 =>
            intro w_ hSw_
            go_simp
            first | done | (with_reducible rfl)
          case ha32 =>
            simp only [Act.put, List.setIfInBounds_toArray, List.set_cons_zero, List.set_cons_succ]
            rfl
          refine wpAnyH_ready (rs := [2]) (by kernel_rfl) (by simp) ?_
          refine AllReadyH.cons rfl (fun K hK => ?_) AllReadyH.nil
          go_simp
          refine hK.out _ _ ⟨⟨trivial⟩, (blk_cell ((heap_sets4d (show w.heap.size ≠ w.heap.size + 1 + 1 by omega)).trans HGB4.out) 0).trans rfl, (blk_cell ((heap_sets4d (show w.heap.size ≠ w.heap.size + 1 + 1 by omega)).trans HGB4.out) 1).trans rfl, (blk_cell ((heap_sets4d (show w.heap.size ≠ w.heap.size + 1 + 1 by omega)).trans HGB4.out) 2).trans rfl, (blk_cell ((heap_sets4d (show w.heap.size ≠ w.heap.size + 1 + 1 by omega)).trans HGB4.out) 3).trans rfl, (blk_cell ((heap_sets4d (show w.heap.size + 1 + 1 + 1 + 1 ≠ w.heap.size + 1 + 1 by omega)).trans HNN4.out) 0).trans rfl, (blk_cell ((heap_sets4d (show w.heap.size + 1 + 1 + 1 + 1 ≠ w.heap.size + 1 + 1 by omega)).trans HNN4.out) 1).trans rfl, (blk_cell ((heap_sets4d (show w.heap.size + 1 + 1 + 1 + 1 ≠ w.heap.size + 1 + 1 by omega)).trans HNN4.out) 2).trans rfl, (blk_cell ((heap_sets4d (show w.heap.size + 1 + 1 + 1 + 1 ≠ w.heap.size + 1 + 1 by omega)).trans HNN4.out) 3).trans rfl⟩ (fun hHeld => ?_)
          clear hK K
          try simp only [Act.put, List.setIfInBounds_toArray, List.set_cons_zero, List.set_cons_succ]
          refine wpAnyH_ready (rs := [3]) (by kernel_rfl) (by simp) ?_
          refine AllReadyH.cons rfl (fun K hK => ?_) AllReadyH.nil
          go_simp
          refine hK.out _ _ ⟨⟨trivial⟩, (blk_cell ((heap_sets4d (show w.heap.size ≠ w.heap.size + 1 + 1 + 1 by omega)).trans ((heap_sets4 (show w.heap.size ≠ w.heap.size + 1 + 1 by omega)).trans HGB4.out)) 0).trans rfl, (blk_cell ((heap_sets4d (show w.heap.size ≠ w.heap.size + 1 + 1 + 1 by omega)).trans ((heap_sets4 (show w.heap.size ≠ w.heap.size + 1 + 1 by omega)).trans HGB4.out)) 1).trans rfl, (blk_cell ((heap_sets4d (show w.heap.size ≠ w.heap.size + 1 + 1 + 1 by omega)).trans ((heap_sets4 (show w.heap.size ≠ w.heap.size + 1 + 1 by omega)).trans HGB4.out)) 2).trans rfl, (blk_cell ((heap_sets4d (show w.heap.size ≠ w.heap.size + 1 + 1 + 1 by omega)).trans ((heap_sets4 (show w.heap.size ≠ w.heap.size + 1 + 1 by omega)).trans HGB4.out)) 3).trans rfl, (blk_cell ((heap_sets4d (show w.heap.size + 1 + 1 + 1 + 1 ≠ w.heap.size + 1 + 1 + 1 by omega)).trans ((heap_sets4 (show w.heap.size + 1 + 1 + 1 + 1 ≠ w.heap.size + 1 + 1 by omega)).trans HNN4.out)) 0).trans rfl, (blk_cell ((heap_sets4d (show w.heap.size + 1 + 1 + 1 + 1 ≠ w.heap.size + 1 + 1 + 1 by omega)).trans ((heap_sets4 (show w.heap.size + 1 + 1 + 1 + 1 ≠ w.heap.size + 1 + 1 by omega)).trans HNN4.out)) 1).trans rfl, (blk_cell ((heap_sets4d (show w.heap.size + 1 + 1 + 1 + 1 ≠ w.heap.size + 1 + 1 + 1 by omega)).trans ((heap_sets4 (show w.heap.size + 1 + 1 + 1 + 1 ≠ w.heap.size + 1 + 1 by omega)).trans HNN4.out)) 2).trans rfl, (blk_cell ((heap_sets4d (show w.heap.size + 1 + 1 + 1 + 1 ≠ w.heap.size + 1 + 1 + 1 by omega)).trans ((heap_sets4 (show w.heap.size + 1 + 1 + 1 + 1 ≠ w.heap.size + 1 + 1 by omega)).trans HNN4.out)) 3).trans rfl⟩ (fun hHeld => ?_)
          clear hK K
          try simp only [Act.put, List.setIfInBounds_toArray, List.set_cons_zero, List.set_cons_succ]
          refine takeN (i := 4) (N := (some 6)) (v := ?v33) (a' := ?a33) rfl rfl (by kernel_rfl) (by kernel_rfl) (by kernel_rfl) (fun _ _ _ h => h) (Or.inl ⟨by rfl, ?hy33⟩) ?ha33 (by assumption) ?rest33
          case hy33 =>
            intro w_ hSw_
            go_simp
            first | done | (with_reducible rfl)
          case ha33 =>
            simp only [Act.put, List.setIfInBounds_toArray, List.set_cons_zero, List.set_cons_succ]
            rfl
          refine wpAnyH_done (by kernel_rfl) ?_ _
          refine NoPanic.normal ?_
          go_wp2_with fail
          exact bodyPost_ret (v := .tuple #[.agg #[.string (strOfNums l), .bool true, .bool false, .bool false], .agg #[.int .u8 0, .bool false, .slice none 0 0, .int .u32 0], .bool false]) (by simp [results, Tryd.results17, go_sem, show strOfNums [] = (⟨#[]⟩ : ByteArray) from rfl, r0, r1, r2, r3, n0, n1, n2, n3]) rfl (.inr (.inl ⟨HPC.out, rfl, by rw [HTN.out, ← HLL.out]; exact ⟨none, 0, rfl, Nat.le_refl _, Rd.zero _ _ _, below_drew (sets4 (sets4 HB4.out hle2) hle3)⟩⟩))
        | true =>
          have HPC : Aside0 (partC true false true 0 b d = 0) := ⟨by rw [partC_val HLL.out (by rfl) (by have := HLEN.out; omega) HTN.out, if_neg (fun h => by cases h.1)]⟩
          obtain ⟨capf, bw, kb, hcv⟩ := bytes_conv (strOfNums l) (by rw [hzl]; omega) l.length (by rw [HBS.out])
          rw [HBS.out] at hcv
          have HCV := Aside0.mk hcv
          clear hcv
          go_upto_region 27 with fail
          have HBd := Aside0.mk (below_step HB4.out (below_drew (Below.refl _ _)))
          have HGBd := Aside0.mk (blk_drew HGB4.out)
          have HRGd := Aside0.mk (blk_drew HRG4.out)
          have HRNd := Aside0.mk (blk_drew HRN4.out)
          refine wp_region_noPanic ?_
          refine wp_region_held_drew (S := fun w' => Aside0 True ∧ w'.cell? ⟨w.heap.size, 0, none⟩ = some (.string (strOfNums l)) ∧ w'.cell? ⟨w.heap.size, 1, none⟩ = some (.bool true) ∧ w'.cell? ⟨w.heap.size, 2, none⟩ = some (.bool false) ∧ w'.cell? ⟨w.heap.size, 3, none⟩ = some (.bool false)) (by kernel_rfl) ⟨⟨trivial⟩, (blk_cell (HGBd.out) 0).trans rfl, (blk_cell (HGBd.out) 1).trans rfl, (blk_cell (HGBd.out) 2).trans rfl, (blk_cell (HGBd.out) 3).trans rfl⟩ (fun hHeld => ?_)
          refine takeN (i := 0) (N := (some 121)) (v := ?v34) (a' := ?a34) rfl rfl (by kernel_rfl) (by kernel_rfl) (by kernel_rfl) (fun _ _ _ h => h) (Or.inl ⟨by rfl, ?hy34⟩) ?ha34 (by assumption) ?rest34
          case hy34 =>
            intro w_ hSw_
            go_simp
            first | done | (with_reducible rfl)
          case ha34 =>
            simp only [Act.put, List.setIfInBounds_toArray, List.set_cons_zero, List.set_cons_succ]
            rfl
          refine takeN (i := 1) (N := (some 122)) (v := ?v35) (a' := ?a35) rfl rfl (by kernel_rfl) (by kernel_rfl) (by kernel_rfl) (fun _ _ _ h => h) (Or.inl ⟨by rfl, ?hy35⟩) ?ha35 (by assumption) ?rest35
          case hy35 =>
            intro w_ hSw_
            go_simp
            first | done | (with_reducible rfl)
          case ha35 =>
            simp only [Act.put, List.setIfInBounds_toArray, List.set_cons_zero, List.set_cons_succ]
            rfl
          refine takeN (i := 2) (N := (some 123)) (v := ?v36) (a' := ?a36) rfl rfl (by kernel_rfl) (by kernel_rfl) (by kernel_rfl) (fun _ _ _ h => h) (Or.inl ⟨by rfl, ?hy36⟩) ?ha36 (by assumption) ?rest36
          case hy36 =>
            intro w_ hSw_
            go_simp
            first | done | (with_reducible rfl)
          case ha36 =>
            simp only [Act.put, List.setIfInBounds_toArray, List.set_cons_zero, List.set_cons_succ]
            rfl
          refine takeN (i := 3) (N := (some 124)) (v := ?v37) (a' := ?a37) rfl rfl (by kernel_rfl) (by kernel_rfl) (by kernel_rfl) (fun _ _ _ h => h) (Or.inl ⟨by rfl, ?hy37⟩) ?ha37 (by assumption) ?rest37
          case hy37 =>
            intro w_ hSw_
            go_simp
            first | done | (with_reducible rfl)
          case ha37 =>
            simp only [Act.put, List.setIfInBounds_toArray, List.set_cons_zero, List.set_cons_succ]
            rfl
          refine takeN (i := 4) (N := (some 125)) (v := ?v38) (a' := ?a38) rfl rfl (by kernel_rfl) (by kernel_rfl) (by kernel_rfl) (fun _ _ _ h => h) (Or.inl ⟨by rfl, ?hy38⟩) ?ha38 (by assumption) ?rest38
          case hy38 =>
            intro w_ hSw_
            go_simp
            first | done | (with_reducible rfl)
          case ha38 =>
            simp only [Act.put, List.setIfInBounds_toArray, List.set_cons_zero, List.set_cons_succ]
            rfl
          generalize w4.drew = Wd at hHeld HBd HGBd HRGd HRNd ⊢
          refine wpAnyH_ready (rs := [5, 7]) (by kernel_rfl) (by simp) ?_
          refine AllReadyH.cons rfl (fun K hK => ?_) (AllReadyH.cons rfl (fun K hK => ?_) AllReadyH.nil)
          · go_simp
            refine hK.out _ _ ⟨⟨trivial⟩, (blk_cell (blk_below HGBd.out (HCV.out.1 Wd)) 0).trans rfl, (blk_cell (blk_below HGBd.out (HCV.out.1 Wd)) 1).trans rfl, (blk_cell (blk_below HGBd.out (HCV.out.1 Wd)) 2).trans rfl, (blk_cell (blk_below HGBd.out (HCV.out.1 Wd)) 3).trans rfl⟩ (fun hHeld => ?_)
            clear hK K
            try simp only [Act.put, List.setIfInBounds_toArray, List.set_cons_zero, List.set_cons_succ]
            have hbb := HCV.out.1 Wd
            have HB5 := Aside0.mk (below_step HBd.out hbb)
            have HGB5 := Aside0.mk (blk_below HGBd.out hbb)
            have HRG5 := Aside0.mk (blk_below HRGd.out hbb)
            have HRN5 := Aside0.mk (blk_below HRNd.out hbb)
            have HCQ := Aside0.mk (HCV.out.2.2.1 Wd)
            have HC5 := Aside0.mk (HCV.out.2.1 Wd)
            have HQ5 := Aside0.mk (blk_lt HRNd.out)
            obtain ⟨csq, frq, htq⟩ := HCV.out.2.2.2 Wd
            have HRD5 : Aside0 (Rd B (bw Wd) (some ⟨Wd.heap.size, 0, none⟩) l) := ⟨Rd.of_new HC5.out htq⟩
            generalize bw Wd = w5 at hHeld hbb HC5 HRD5 htq HB5 HGB5 HRG5 HRN5 ⊢
            generalize capf Wd = cq at HCQ ⊢
            generalize Wd.heap.size = q at HC5 HQ5 HRD5 htq ⊢
            clear hbb htq
            refine takeN (i := 6) (N := (some 127)) (v := ?v39) (a' := ?a39) rfl rfl (by kernel_rfl) (by kernel_rfl) (by kernel_rfl) (fun _ _ _ h => h) (Or.inl ⟨by rfl, ?hy39⟩) ?ha39 (by assumption) ?rest39
            case hy39 =>
              intro w_ hSw_
              go_simp
              first | done | (with_reducible rfl)
            case ha39 =>
              simp only [Act.put, List.setIfInBounds_toArray, List.set_cons_zero, List.set_cons_succ]
              rfl
            have r0 : w5.cell? ⟨(w.heap.size + 1 + 1), 0, none⟩ = some (.string (⟨#[]⟩ : ByteArray)) := (blk_cell HRG5.out 0).trans rfl
            have rf0 := blk_frozen HRG5.out 0
            have r1 : w5.cell? ⟨(w.heap.size + 1 + 1), 1, none⟩ = some (.bool false) := (blk_cell HRG5.out 1).trans rfl
            have rf1 := blk_frozen HRG5.out 1
            have r2 : w5.cell? ⟨(w.heap.size + 1 + 1), 2, none⟩ = some (.bool false) := (blk_cell HRG5.out 2).trans rfl
            have rf2 := blk_frozen HRG5.out 2
            have r3 : w5.cell? ⟨(w.heap.size + 1 + 1), 3, none⟩ = some (.bool false) := (blk_cell HRG5.out 3).trans rfl
            have rf3 := blk_frozen HRG5.out 3
            have rl := blk_lt HRG5.out
            have n0 : w5.cell? ⟨(w.heap.size + 1 + 1 + 1), 0, none⟩ = some (.int .u8 0) := (blk_cell HRN5.out 0).trans rfl
            have nf0 := blk_frozen HRN5.out 0
            have n1 : w5.cell? ⟨(w.heap.size + 1 + 1 + 1), 1, none⟩ = some (.bool false) := (blk_cell HRN5.out 1).trans rfl
            have nf1 := blk_frozen HRN5.out 1
            have n2 : w5.cell? ⟨(w.heap.size + 1 + 1 + 1), 2, none⟩ = some (.slice none 0 0) := (blk_cell HRN5.out 2).trans rfl
            have nf2 := blk_frozen HRN5.out 2
            have n3 : w5.cell? ⟨(w.heap.size + 1 + 1 + 1), 3, none⟩ = some (.int .u32 0) := (blk_cell HRN5.out 3).trans rfl
            have nf3 := blk_frozen HRN5.out 3
            have nl := blk_lt HRN5.out
            refine wpAnyH_ready (rs := [7]) (by kernel_rfl) (by simp) ?_
            refine AllReadyH.cons rfl (fun K hK => ?_) AllReadyH.nil
            go_simp
            refine hK.out _ _ ⟨⟨trivial⟩, (blk_cell ((heap_sets4 (show w.heap.size ≠ w.heap.size + 1 + 1 by omega)).trans HGB5.out) 0).trans rfl, (blk_cell ((heap_sets4 (show w.heap.size ≠ w.heap.size + 1 + 1 by omega)).trans HGB5.out) 1).trans rfl, (blk_cell ((heap_sets4 (show w.heap.size ≠ w.heap.size + 1 + 1 by omega)).trans HGB5.out) 2).trans rfl, (blk_cell ((heap_sets4 (show w.heap.size ≠ w.heap.size + 1 + 1 by omega)).trans HGB5.out) 3).trans rfl⟩ (fun hHeld => ?_)
            clear hK K
            try simp only [Act.put, List.setIfInBounds_toArray, List.set_cons_zero, List.set_cons_succ]
            refine wpAnyH_ready (rs := [8]) (by kernel_rfl) (by simp) ?_
            refine AllReadyH.cons rfl (fun K hK => ?_) AllReadyH.nil
            go_simp
            refine hK.out _ _ ⟨⟨trivial⟩, (blk_cell ((heap_sets4 (show w.heap.size ≠ w.heap.size + 1 + 1 + 1 by omega)).trans ((heap_sets4 (show w.heap.size ≠ w.heap.size + 1 + 1 by omega)).trans HGB5.out)) 0).trans rfl, (blk_cell ((heap_sets4 (show w.heap.size ≠ w.heap.size + 1 + 1 + 1 by omega)).trans ((heap_sets4 (show w.heap.size ≠ w.heap.size + 1 + 1 by omega)).trans HGB5.out)) 1).trans rfl, (blk_cell ((heap_sets4 (show w.heap.size ≠ w.heap.size + 1 + 1 + 1 by omega)).trans ((heap_sets4 (show w.heap.size ≠ w.heap.size + 1 + 1 by omega)).trans HGB5.out)) 2).trans rfl, (blk_cell ((heap_sets4 (show w.heap.size ≠ w.heap.size + 1 + 1 + 1 by omega)).trans ((heap_sets4 (show w.heap.size ≠ w.heap.size + 1 + 1 by omega)).trans HGB5.out)) 3).trans rfl⟩ (fun hHeld => ?_)
            clear hK K
            try simp only [Act.put, List.setIfInBounds_toArray, List.set_cons_zero, List.set_cons_succ]
            refine takeN (i := 9) (N := (some 6)) (v := ?v40) (a' := ?a40) rfl rfl (by kernel_rfl) (by kernel_rfl) (by kernel_rfl) (fun _ _ _ h => h) (Or.inl ⟨by rfl, ?hy40⟩) ?ha40 (by assumption) ?rest40
            case hy40 =>
              intro w_ hSw_
              go_simp
              first | done | (with_reducible rfl)
            case ha40 =>
              simp only [Act.put, List.setIfInBounds_toArray, List.set_cons_zero, List.set_cons_succ]
              rfl
            refine wpAnyH_done (by kernel_rfl) ?_ _
            refine NoPanic.normal ?_
            go_wp2_with fail
            exact bodyPost_ret (v := .tuple #[.agg #[.string (⟨#[]⟩ : ByteArray), .bool false, .bool false, .bool false], .agg #[.int .u8 1, .bool false, .slice (some ⟨q, 0, none⟩) l.length cq, .int .u32 0], .bool true]) (by simp [results, Tryd.results17, go_sem, show strOfNums [] = (⟨#[]⟩ : ByteArray) from rfl, r0, r1, r2, r3, n0, n1, n2, n3]) rfl (.inr (.inr ⟨HPC.out, rfl, by rw [HTN.out, ← HLL.out]; exact ⟨some ⟨q, 0, none⟩, cq, rfl, HCQ.out, Rd.off4 (Rd.off4 HRD5.out HRG5.out (by decide) (by omega)) ((heap_sets4 (show w.heap.size + 1 + 1 + 1 ≠ w.heap.size + 1 + 1 by omega)).trans HRN5.out) (by decide) (by omega), sets4 (sets4 HB5.out hle2) hle3⟩⟩))
          · have r0 : Wd.cell? ⟨(w.heap.size + 1 + 1), 0, none⟩ = some (.string (⟨#[]⟩ : ByteArray)) := (blk_cell HRGd.out 0).trans rfl
            have rf0 := blk_frozen HRGd.out 0
            have r1 : Wd.cell? ⟨(w.heap.size + 1 + 1), 1, none⟩ = some (.bool false) := (blk_cell HRGd.out 1).trans rfl
            have rf1 := blk_frozen HRGd.out 1
            have r2 : Wd.cell? ⟨(w.heap.size + 1 + 1), 2, none⟩ = some (.bool false) := (blk_cell HRGd.out 2).trans rfl
            have rf2 := blk_frozen HRGd.out 2
            have r3 : Wd.cell? ⟨(w.heap.size + 1 + 1), 3, none⟩ = some (.bool false) := (blk_cell HRGd.out 3).trans rfl
            have rf3 := blk_frozen HRGd.out 3
            have rl := blk_lt HRGd.out
            go_simp
            refine hK.out _ _ ⟨⟨trivial⟩, (blk_cell ((heap_sets4 (show w.heap.size ≠ w.heap.size + 1 + 1 by omega)).trans HGBd.out) 0).trans rfl, (blk_cell ((heap_sets4 (show w.heap.size ≠ w.heap.size + 1 + 1 by omega)).trans HGBd.out) 1).trans rfl, (blk_cell ((heap_sets4 (show w.heap.size ≠ w.heap.size + 1 + 1 by omega)).trans HGBd.out) 2).trans rfl, (blk_cell ((heap_sets4 (show w.heap.size ≠ w.heap.size + 1 + 1 by omega)).trans HGBd.out) 3).trans rfl⟩ (fun hHeld => ?_)
            clear hK K
            try simp only [Act.put, List.setIfInBounds_toArray, List.set_cons_zero, List.set_cons_succ]
            have HBe := Aside0.mk (show Below w.heap.size w ((((Wd.setCell ⟨(w.heap.size + 1 + 1), 0, none⟩ (.string (⟨#[]⟩ : ByteArray))).setCell ⟨(w.heap.size + 1 + 1), 1, none⟩ (.bool false)).setCell ⟨(w.heap.size + 1 + 1), 2, none⟩ (.bool false)).setCell ⟨(w.heap.size + 1 + 1), 3, none⟩ (.bool false)) from sets4 HBd.out hle2)
            have HGBe := Aside0.mk (show ((((Wd.setCell ⟨(w.heap.size + 1 + 1), 0, none⟩ (.string (⟨#[]⟩ : ByteArray))).setCell ⟨(w.heap.size + 1 + 1), 1, none⟩ (.bool false)).setCell ⟨(w.heap.size + 1 + 1), 2, none⟩ (.bool false)).setCell ⟨(w.heap.size + 1 + 1), 3, none⟩ (.bool false)).heap[w.heap.size]? = some (.cells #[.string (strOfNums l), .bool true, .bool false, .bool false] 40 (0, 0)) from (heap_sets4 (by omega)).trans HGBd.out)
            have HRGe := Aside0.mk (show ((((Wd.setCell ⟨(w.heap.size + 1 + 1), 0, none⟩ (.string (⟨#[]⟩ : ByteArray))).setCell ⟨(w.heap.size + 1 + 1), 1, none⟩ (.bool false)).setCell ⟨(w.heap.size + 1 + 1), 2, none⟩ (.bool false)).setCell ⟨(w.heap.size + 1 + 1), 3, none⟩ (.bool false)).heap[w.heap.size + 1 + 1]? = some (.cells #[.string (⟨#[]⟩ : ByteArray), .bool false, .bool false, .bool false] 40 (0, 0)) from (blk_put (blk_put (blk_put (blk_put HRGd.out 0 (.string (⟨#[]⟩ : ByteArray)) rfl) 1 (.bool false) rfl) 2 (.bool false) rfl) 3 (.bool false) rfl))
            have HRNe := Aside0.mk (show ((((Wd.setCell ⟨(w.heap.size + 1 + 1), 0, none⟩ (.string (⟨#[]⟩ : ByteArray))).setCell ⟨(w.heap.size + 1 + 1), 1, none⟩ (.bool false)).setCell ⟨(w.heap.size + 1 + 1), 2, none⟩ (.bool false)).setCell ⟨(w.heap.size + 1 + 1), 3, none⟩ (.bool false)).heap[w.heap.size + 1 + 1 + 1]? = some (.cells #[.int .u8 0, .bool false, .slice none 0 0, .int .u32 0] 30 (0, 0)) from (heap_sets4 (by omega)).trans HRNd.out)
            generalize ((((Wd.setCell ⟨(w.heap.size + 1 + 1), 0, none⟩ (.string (⟨#[]⟩ : ByteArray))).setCell ⟨(w.heap.size + 1 + 1), 1, none⟩ (.bool false)).setCell ⟨(w.heap.size + 1 + 1), 2, none⟩ (.bool false)).setCell ⟨(w.heap.size + 1 + 1), 3, none⟩ (.bool false)) = We at hHeld HBe HGBe HRGe HRNe ⊢
            clear r0 rf0 r1 rf1 r2 rf2 r3 rf3 rl
            refine wpAnyH_ready (rs := [5]) (by kernel_rfl) (by simp) ?_
            refine AllReadyH.cons rfl (fun K hK => ?_) AllReadyH.nil
            go_simp
            refine hK.out _ _ ⟨⟨trivial⟩, (blk_cell (blk_below HGBe.out (HCV.out.1 We)) 0).trans rfl, (blk_cell (blk_below HGBe.out (HCV.out.1 We)) 1).trans rfl, (blk_cell (blk_below HGBe.out (HCV.out.1 We)) 2).trans rfl, (blk_cell (blk_below HGBe.out (HCV.out.1 We)) 3).trans rfl⟩ (fun hHeld => ?_)
            clear hK K
            try simp only [Act.put, List.setIfInBounds_toArray, List.set_cons_zero, List.set_cons_succ]
            have hbb := HCV.out.1 We
            have HB5 := Aside0.mk (below_step HBe.out hbb)
            have HGB5 := Aside0.mk (blk_below HGBe.out hbb)
            have HRG5 := Aside0.mk (blk_below HRGe.out hbb)
            have HRN5 := Aside0.mk (blk_below HRNe.out hbb)
            have HCQ := Aside0.mk (HCV.out.2.2.1 We)
            have HC5 := Aside0.mk (HCV.out.2.1 We)
            have HQ5 := Aside0.mk (blk_lt HRNe.out)
            obtain ⟨csq, frq, htq⟩ := HCV.out.2.2.2 We
            have HRD5 : Aside0 (Rd B (bw We) (some ⟨We.heap.size, 0, none⟩) l) := ⟨Rd.of_new HC5.out htq⟩
            generalize bw We = w5 at hHeld hbb HC5 HRD5 htq HB5 HGB5 HRG5 HRN5 ⊢
            generalize capf We = cq at HCQ ⊢
            generalize We.heap.size = q at HC5 HQ5 HRD5 htq ⊢
            clear hbb htq
            refine takeN (i := 6) (N := (some 127)) (v := ?v41) (a' := ?a41) rfl rfl (by kernel_rfl) (by kernel_rfl) (by kernel_rfl) (fun _ _ _ h => h) (Or.inl ⟨by rfl, ?hy41⟩) ?ha41 (by assumption) ?rest41
            case hy41 =>
              intro w_ hSw_
              go_simp
              first | done | (with_reducible rfl)
            case ha41 =>
              simp only [Act.put, List.setIfInBounds_toArray, List.set_cons_zero, List.set_cons_succ]
              rfl
            have r0 : w5.cell? ⟨(w.heap.size + 1 + 1), 0, none⟩ = some (.string (⟨#[]⟩ : ByteArray)) := (blk_cell HRG5.out 0).trans rfl
            have rf0 := blk_frozen HRG5.out 0
            have r1 : w5.cell? ⟨(w.heap.size + 1 + 1), 1, none⟩ = some (.bool false) := (blk_cell HRG5.out 1).trans rfl
            have rf1 := blk_frozen HRG5.out 1
            have r2 : w5.cell? ⟨(w.heap.size + 1 + 1), 2, none⟩ = some (.bool false) := (blk_cell HRG5.out 2).trans rfl
            have rf2 := blk_frozen HRG5.out 2
            have r3 : w5.cell? ⟨(w.heap.size + 1 + 1), 3, none⟩ = some (.bool false) := (blk_cell HRG5.out 3).trans rfl
            have rf3 := blk_frozen HRG5.out 3
            have rl := blk_lt HRG5.out
            have n0 : w5.cell? ⟨(w.heap.size + 1 + 1 + 1), 0, none⟩ = some (.int .u8 0) := (blk_cell HRN5.out 0).trans rfl
            have nf0 := blk_frozen HRN5.out 0
            have n1 : w5.cell? ⟨(w.heap.size + 1 + 1 + 1), 1, none⟩ = some (.bool false) := (blk_cell HRN5.out 1).trans rfl
            have nf1 := blk_frozen HRN5.out 1
            have n2 : w5.cell? ⟨(w.heap.size + 1 + 1 + 1), 2, none⟩ = some (.slice none 0 0) := (blk_cell HRN5.out 2).trans rfl
            have nf2 := blk_frozen HRN5.out 2
            have n3 : w5.cell? ⟨(w.heap.size + 1 + 1 + 1), 3, none⟩ = some (.int .u32 0) := (blk_cell HRN5.out 3).trans rfl
            have nf3 := blk_frozen HRN5.out 3
            have nl := blk_lt HRN5.out
            refine wpAnyH_ready (rs := [8]) (by kernel_rfl) (by simp) ?_
            refine AllReadyH.cons rfl (fun K hK => ?_) AllReadyH.nil
            go_simp
            refine hK.out _ _ ⟨⟨trivial⟩, (blk_cell ((heap_sets4 (show w.heap.size ≠ w.heap.size + 1 + 1 + 1 by omega)).trans HGB5.out) 0).trans rfl, (blk_cell ((heap_sets4 (show w.heap.size ≠ w.heap.size + 1 + 1 + 1 by omega)).trans HGB5.out) 1).trans rfl, (blk_cell ((heap_sets4 (show w.heap.size ≠ w.heap.size + 1 + 1 + 1 by omega)).trans HGB5.out) 2).trans rfl, (blk_cell ((heap_sets4 (show w.heap.size ≠ w.heap.size + 1 + 1 + 1 by omega)).trans HGB5.out) 3).trans rfl⟩ (fun hHeld => ?_)
            clear hK K
            try simp only [Act.put, List.setIfInBounds_toArray, List.set_cons_zero, List.set_cons_succ]
            refine takeN (i := 9) (N := (some 6)) (v := ?v42) (a' := ?a42) rfl rfl (by kernel_rfl) (by kernel_rfl) (by kernel_rfl) (fun _ _ _ h => h) (Or.inl ⟨by rfl, ?hy42⟩) ?ha42 (by assumption) ?rest42
            case hy42 =>
              intro w_ hSw_
              go_simp
              first | done | (with_reducible rfl)
            case ha42 =>
              simp only [Act.put, List.setIfInBounds_toArray, List.set_cons_zero, List.set_cons_succ]
              rfl
            refine wpAnyH_done (by kernel_rfl) ?_ _
            refine NoPanic.normal ?_
            go_wp2_with fail
            exact bodyPost_ret (v := .tuple #[.agg #[.string (⟨#[]⟩ : ByteArray), .bool false, .bool false, .bool false], .agg #[.int .u8 1, .bool false, .slice (some ⟨q, 0, none⟩) l.length cq, .int .u32 0], .bool true]) (by simp [results, Tryd.results17, go_sem, show strOfNums [] = (⟨#[]⟩ : ByteArray) from rfl, r0, r1, r2, r3, n0, n1, n2, n3]) rfl (.inr (.inr ⟨HPC.out, rfl, by rw [HTN.out, ← HLL.out]; exact ⟨some ⟨q, 0, none⟩, cq, rfl, HCQ.out, Rd.off4 (HRD5.out) HRN5.out (by decide) (by omega), sets4 HB5.out hle3⟩⟩))
      | true =>
        by_cases hgb : gd < l.length
        · have hgb2 : (gd : Int) < (l.length : Int) := by omega
          have HPC : Aside0 (partC true true fin 0 b d = 1007) := ⟨by rw [partC_val HLL.out (by rfl) (by have := HLEN.out; omega) HTN.out, if_pos ⟨rfl, .inl (HGD.out.1 hgb)⟩]⟩
          go_wp2_with fail
          refine (ref_bad 1007 B _).mono ?_
          rintro e w7 ⟨An, cn, rfl, _, _, hb⟩
          have HB7 := Aside0.mk (below_step HB4.out hb)
          have HRG7 := Aside0.mk (blk_below HRG4.out hb)
          have HRN7 := Aside0.mk (blk_below HRN4.out hb)
          clear hb
          have r0 : w7.cell? ⟨(w.heap.size + 1 + 1), 0, none⟩ = some (.string (⟨#[]⟩ : ByteArray)) := (blk_cell HRG7.out 0).trans rfl
          have rf0 := blk_frozen HRG7.out 0
          have r1 : w7.cell? ⟨(w.heap.size + 1 + 1), 1, none⟩ = some (.bool false) := (blk_cell HRG7.out 1).trans rfl
          have rf1 := blk_frozen HRG7.out 1
          have r2 : w7.cell? ⟨(w.heap.size + 1 + 1), 2, none⟩ = some (.bool false) := (blk_cell HRG7.out 2).trans rfl
          have rf2 := blk_frozen HRG7.out 2
          have r3 : w7.cell? ⟨(w.heap.size + 1 + 1), 3, none⟩ = some (.bool false) := (blk_cell HRG7.out 3).trans rfl
          have rf3 := blk_frozen HRG7.out 3
          have rl := blk_lt HRG7.out
          have n0 : w7.cell? ⟨(w.heap.size + 1 + 1 + 1), 0, none⟩ = some (.int .u8 0) := (blk_cell HRN7.out 0).trans rfl
          have nf0 := blk_frozen HRN7.out 0
          have n1 : w7.cell? ⟨(w.heap.size + 1 + 1 + 1), 1, none⟩ = some (.bool false) := (blk_cell HRN7.out 1).trans rfl
          have nf1 := blk_frozen HRN7.out 1
          have n2 : w7.cell? ⟨(w.heap.size + 1 + 1 + 1), 2, none⟩ = some (.slice none 0 0) := (blk_cell HRN7.out 2).trans rfl
          have nf2 := blk_frozen HRN7.out 2
          have n3 : w7.cell? ⟨(w.heap.size + 1 + 1 + 1), 3, none⟩ = some (.int .u32 0) := (blk_cell HRN7.out 3).trans rfl
          have nf3 := blk_frozen HRN7.out 3
          have nl := blk_lt HRN7.out
          go_wp2_with fail
          exact bodyPost_ret (v := .tuple #[.agg #[.string (⟨#[]⟩ : ByteArray), .bool false, .bool false, .bool true], .agg #[.int .u8 5, .bool false, .slice An 0 cn, .int .u32 1007], .bool true]) (by simp [results, Tryd.results17, go_sem, show strOfNums [] = (⟨#[]⟩ : ByteArray) from rfl, r0, r1, r2, r3, n0, n1, n2, n3]) rfl (.inl ⟨by rw [HPC.out]; decide, HPC.out ▸ ⟨An, cn, rfl, Nat.zero_le _, Rd.zero _ _ _, sets4 (sets4 HB7.out hle2) hle3⟩⟩)
        · have hgb2 : ¬ (gd : Int) < (l.length : Int) := by omega
          cases fin with
          | false =>
            have HPC : Aside0 (partC true true false 0 b d = 0) := ⟨by rw [partC_val HLL.out (by rfl) (by have := HLEN.out; omega) HTN.out, if_neg (fun h => h.2.elim (fun h => hgb (HGD.out.2 h)) (fun h => by cases h.1))]⟩
            have r0 : w4.cell? ⟨(w.heap.size + 1 + 1), 0, none⟩ = some (.string (⟨#[]⟩ : ByteArray)) := (blk_cell HRG4.out 0).trans rfl
            have rf0 := blk_frozen HRG4.out 0
            have r1 : w4.cell? ⟨(w.heap.size + 1 + 1), 1, none⟩ = some (.bool false) := (blk_cell HRG4.out 1).trans rfl
            have rf1 := blk_frozen HRG4.out 1
            have r2 : w4.cell? ⟨(w.heap.size + 1 + 1), 2, none⟩ = some (.bool false) := (blk_cell HRG4.out 2).trans rfl
            have rf2 := blk_frozen HRG4.out 2
            have r3 : w4.cell? ⟨(w.heap.size + 1 + 1), 3, none⟩ = some (.bool false) := (blk_cell HRG4.out 3).trans rfl
            have rf3 := blk_frozen HRG4.out 3
            have rl := blk_lt HRG4.out
            have n0 : w4.cell? ⟨(w.heap.size + 1 + 1 + 1), 0, none⟩ = some (.int .u8 0) := (blk_cell HRN4.out 0).trans rfl
            have nf0 := blk_frozen HRN4.out 0
            have n1 : w4.cell? ⟨(w.heap.size + 1 + 1 + 1), 1, none⟩ = some (.bool false) := (blk_cell HRN4.out 1).trans rfl
            have nf1 := blk_frozen HRN4.out 1
            have n2 : w4.cell? ⟨(w.heap.size + 1 + 1 + 1), 2, none⟩ = some (.slice none 0 0) := (blk_cell HRN4.out 2).trans rfl
            have nf2 := blk_frozen HRN4.out 2
            have n3 : w4.cell? ⟨(w.heap.size + 1 + 1 + 1), 3, none⟩ = some (.int .u32 0) := (blk_cell HRN4.out 3).trans rfl
            have nf3 := blk_frozen HRN4.out 3
            have nl := blk_lt HRN4.out
            go_upto_region 26 with fail
            refine wp_region_noPanic ?_
            refine wp_region_held_drew (S := fun w' => Aside0 True ∧ w'.cell? ⟨w.heap.size, 0, none⟩ = some (.string (strOfNums l)) ∧ w'.cell? ⟨w.heap.size, 1, none⟩ = some (.bool true) ∧ w'.cell? ⟨w.heap.size, 2, none⟩ = some (.bool true) ∧ w'.cell? ⟨w.heap.size, 3, none⟩ = some (.bool false) ∧ w'.cell? ⟨w.heap.size + 1 + 1 + 1 + 1, 0, none⟩ = some (.int .u8 0) ∧ w'.cell? ⟨w.heap.size + 1 + 1 + 1 + 1, 1, none⟩ = some (.bool false) ∧ w'.cell? ⟨w.heap.size + 1 + 1 + 1 + 1, 2, none⟩ = some (.slice none 0 0) ∧ w'.cell? ⟨w.heap.size + 1 + 1 + 1 + 1, 3, none⟩ = some (.int .u32 0)) (by kernel_rfl) ⟨⟨trivial⟩, (blk_cell (blk_drew HGB4.out) 0).trans rfl, (blk_cell (blk_drew HGB4.out) 1).trans rfl, (blk_cell (blk_drew HGB4.out) 2).trans rfl, (blk_cell (blk_drew HGB4.out) 3).trans rfl, (blk_cell (blk_drew HNN4.out) 0).trans rfl, (blk_cell (blk_drew HNN4.out) 1).trans rfl, (blk_cell (blk_drew HNN4.out) 2).trans rfl, (blk_cell (blk_drew HNN4.out) 3).trans rfl⟩ (fun hHeld => ?_)
            refine takeN (i := 0) (N := (some 119)) (v := ?v43) (a' := ?a43) rfl rfl (by kernel_rfl) (by kernel_rfl) (by kernel_rfl) (fun _ _ _ h => h) (Or.inl ⟨by rfl, ?hy43⟩) ?ha43 (by assumption) ?rest43
            case hy43 =>
              intro w_ hSw_
              go_simp
              first | done | (with_reducible rfl)
            case ha43 =>
              simp only [Act.put, List.setIfInBounds_toArray, List.set_cons_zero, List.set_cons_succ]
              rfl
            refine takeN (i := 1) (N := (some 120)) (v := ?v44) (a' := ?a44) rfl rfl (by kernel_rfl) (by kernel_rfl) (by kernel_rfl) (fun _ _ _ h => h) (Or.inl ⟨by rfl, ?hy44⟩) ?ha44 (by assumption) ?rest44
            case hy44 =>
              intro w_ hSw_
              go_simp
              first | done | (with_reducible rfl)
            case ha44 =>
              simp only [Act.put, List.setIfInBounds_toArray, List.set_cons_zero, List.set_cons_succ]
              rfl
            refine wpAnyH_ready (rs := [2]) (by kernel_rfl) (by simp) ?_
            refine AllReadyH.cons rfl (fun K hK => ?_) AllReadyH.nil
            go_simp
            refine hK.out _ _ ⟨⟨trivial⟩, (blk_cell ((heap_sets4d (show w.heap.size ≠ w.heap.size + 1 + 1 by omega)).trans HGB4.out) 0).trans rfl, (blk_cell ((heap_sets4d (show w.heap.size ≠ w.heap.size + 1 + 1 by omega)).trans HGB4.out) 1).trans rfl, (blk_cell ((heap_sets4d (show w.heap.size ≠ w.heap.size + 1 + 1 by omega)).trans HGB4.out) 2).trans rfl, (blk_cell ((heap_sets4d (show w.heap.size ≠ w.heap.size + 1 + 1 by omega)).trans HGB4.out) 3).trans rfl, (blk_cell ((heap_sets4d (show w.heap.size + 1 + 1 + 1 + 1 ≠ w.heap.size + 1 + 1 by omega)).trans HNN4.out) 0).trans rfl, (blk_cell ((heap_sets4d (show w.heap.size + 1 + 1 + 1 + 1 ≠ w.heap.size + 1 + 1 by omega)).trans HNN4.out) 1).trans rfl, (blk_cell ((heap_sets4d (show w.heap.size + 1 + 1 + 1 + 1 ≠ w.heap.size + 1 + 1 by omega)).trans HNN4.out) 2).trans rfl, (blk_cell ((heap_sets4d (show w.heap.size + 1 + 1 + 1 + 1 ≠ w.heap.size + 1 + 1 by omega)).trans HNN4.out) 3).trans rfl⟩ (fun hHeld => ?_)
            clear hK K
            try simp only [Act.put, List.setIfInBounds_toArray, List.set_cons_zero, List.set_cons_succ]
            refine wpAnyH_ready (rs := [3]) (by kernel_rfl) (by simp) ?_
            refine AllReadyH.cons rfl (fun K hK => ?_) AllReadyH.nil
            go_simp
            refine hK.out _ _ ⟨⟨trivial⟩, (blk_cell ((heap_sets4d (show w.heap.size ≠ w.heap.size + 1 + 1 + 1 by omega)).trans ((heap_sets4 (show w.heap.size ≠ w.heap.size + 1 + 1 by omega)).trans HGB4.out)) 0).trans rfl, (blk_cell ((heap_sets4d (show w.heap.size ≠ w.heap.size + 1 + 1 + 1 by omega)).trans ((heap_sets4 (show w.heap.size ≠ w.heap.size + 1 + 1 by omega)).trans HGB4.out)) 1).trans rfl, (blk_cell ((heap_sets4d (show w.heap.size ≠ w.heap.size + 1 + 1 + 1 by omega)).trans ((heap_sets4 (show w.heap.size ≠ w.heap.size + 1 + 1 by omega)).trans HGB4.out)) 2).trans rfl, (blk_cell ((heap_sets4d (show w.heap.size ≠ w.heap.size + 1 + 1 + 1 by omega)).trans ((heap_sets4 (show w.heap.size ≠ w.heap.size + 1 + 1 by omega)).trans HGB4.out)) 3).trans rfl, (blk_cell ((heap_sets4d (show w.heap.size + 1 + 1 + 1 + 1 ≠ w.heap.size + 1 + 1 + 1 by omega)).trans ((heap_sets4 (show w.heap.size + 1 + 1 + 1 + 1 ≠ w.heap.size + 1 + 1 by omega)).trans HNN4.out)) 0).trans rfl, (blk_cell ((heap_sets4d (show w.heap.size + 1 + 1 + 1 + 1 ≠ w.heap.size + 1 + 1 + 1 by omega)).trans ((heap_sets4 (show w.heap.size + 1 + 1 + 1 + 1 ≠ w.heap.size + 1 + 1 by omega)).trans HNN4.out)) 1).trans rfl, (blk_cell ((heap_sets4d (show w.heap.size + 1 + 1 + 1 + 1 ≠ w.heap.size + 1 + 1 + 1 by omega)).trans ((heap_sets4 (show w.heap.size + 1 + 1 + 1 + 1 ≠ w.heap.size + 1 + 1 by omega)).trans HNN4.out)) 2).trans rfl, (blk_cell ((heap_sets4d (show w.heap.size + 1 + 1 + 1 + 1 ≠ w.heap.size + 1 + 1 + 1 by omega)).trans ((heap_sets4 (show w.heap.size + 1 + 1 + 1 + 1 ≠ w.heap.size + 1 + 1 by omega)).trans HNN4.out)) 3).trans rfl⟩ (fun hHeld => ?_)
            clear hK K
            try simp only [Act.put, List.setIfInBounds_toArray, List.set_cons_zero, List.set_cons_succ]
            refine takeN (i := 4) (N := (some 6)) (v := ?v45) (a' := ?a45) rfl rfl (by kernel_rfl) (by kernel_rfl) (by kernel_rfl) (fun _ _ _ h => h) (Or.inl ⟨by rfl, ?hy45⟩) ?ha45 (by assumption) ?rest45
            case hy45 =>
              intro w_ hSw_
              go_simp
              first | done | (with_reducible rfl)
            case ha45 =>
              simp only [Act.put, List.setIfInBounds_toArray, List.set_cons_zero, List.set_cons_succ]
              rfl
            refine wpAnyH_done (by kernel_rfl) ?_ _
            refine NoPanic.normal ?_
            go_wp2_with fail
            exact bodyPost_ret (v := .tuple #[.agg #[.string (strOfNums l), .bool true, .bool true, .bool false], .agg #[.int .u8 0, .bool false, .slice none 0 0, .int .u32 0], .bool false]) (by simp [results, Tryd.results17, go_sem, show strOfNums [] = (⟨#[]⟩ : ByteArray) from rfl, r0, r1, r2, r3, n0, n1, n2, n3]) rfl (.inr (.inl ⟨HPC.out, rfl, by rw [HTN.out, ← HLL.out]; exact ⟨none, 0, rfl, Nat.le_refl _, Rd.zero _ _ _, below_drew (sets4 (sets4 HB4.out hle2) hle3)⟩⟩))
          | true =>
            cases vl with
            | false =>
              have HPC : Aside0 (partC true true true 0 b d = 1007) := ⟨by rw [partC_val HLL.out (by rfl) (by have := HLEN.out; omega) HTN.out, if_pos ⟨rfl, .inr ⟨rfl, HVL.out.symm⟩⟩]⟩
              go_wp2_with fail
              refine (ref_bad 1007 B _).mono ?_
              rintro e w7 ⟨An, cn, rfl, _, _, hb⟩
              have HB7 := Aside0.mk (below_step HB4.out hb)
              have HRG7 := Aside0.mk (blk_below HRG4.out hb)
              have HRN7 := Aside0.mk (blk_below HRN4.out hb)
              clear hb
              have r0 : w7.cell? ⟨(w.heap.size + 1 + 1), 0, none⟩ = some (.string (⟨#[]⟩ : ByteArray)) := (blk_cell HRG7.out 0).trans rfl
              have rf0 := blk_frozen HRG7.out 0
              have r1 : w7.cell? ⟨(w.heap.size + 1 + 1), 1, none⟩ = some (.bool false) := (blk_cell HRG7.out 1).trans rfl
              have rf1 := blk_frozen HRG7.out 1
              have r2 : w7.cell? ⟨(w.heap.size + 1 + 1), 2, none⟩ = some (.bool false) := (blk_cell HRG7.out 2).trans rfl
              have rf2 := blk_frozen HRG7.out 2
              have r3 : w7.cell? ⟨(w.heap.size + 1 + 1), 3, none⟩ = some (.bool false) := (blk_cell HRG7.out 3).trans rfl
              have rf3 := blk_frozen HRG7.out 3
              have rl := blk_lt HRG7.out
              have n0 : w7.cell? ⟨(w.heap.size + 1 + 1 + 1), 0, none⟩ = some (.int .u8 0) := (blk_cell HRN7.out 0).trans rfl
              have nf0 := blk_frozen HRN7.out 0
              have n1 : w7.cell? ⟨(w.heap.size + 1 + 1 + 1), 1, none⟩ = some (.bool false) := (blk_cell HRN7.out 1).trans rfl
              have nf1 := blk_frozen HRN7.out 1
              have n2 : w7.cell? ⟨(w.heap.size + 1 + 1 + 1), 2, none⟩ = some (.slice none 0 0) := (blk_cell HRN7.out 2).trans rfl
              have nf2 := blk_frozen HRN7.out 2
              have n3 : w7.cell? ⟨(w.heap.size + 1 + 1 + 1), 3, none⟩ = some (.int .u32 0) := (blk_cell HRN7.out 3).trans rfl
              have nf3 := blk_frozen HRN7.out 3
              have nl := blk_lt HRN7.out
              go_wp2_with fail
              exact bodyPost_ret (v := .tuple #[.agg #[.string (⟨#[]⟩ : ByteArray), .bool false, .bool false, .bool true], .agg #[.int .u8 5, .bool false, .slice An 0 cn, .int .u32 1007], .bool true]) (by simp [results, Tryd.results17, go_sem, show strOfNums [] = (⟨#[]⟩ : ByteArray) from rfl, r0, r1, r2, r3, n0, n1, n2, n3]) rfl (.inl ⟨by rw [HPC.out]; decide, HPC.out ▸ ⟨An, cn, rfl, Nat.zero_le _, Rd.zero _ _ _, sets4 (sets4 HB7.out hle2) hle3⟩⟩)
            | true =>
              have HPC : Aside0 (partC true true true 0 b d = 0) := ⟨by rw [partC_val HLL.out (by rfl) (by have := HLEN.out; omega) HTN.out, if_neg (fun h => h.2.elim (fun h => hgb (HGD.out.2 h)) (fun h => by rw [← HVL.out] at h; cases h.2))]⟩
              obtain ⟨capf, bw, kb, hcv⟩ := bytes_conv (strOfNums l) (by rw [hzl]; omega) l.length (by rw [HBS.out])
              rw [HBS.out] at hcv
              have HCV := Aside0.mk hcv
              clear hcv
              go_upto_region 27 with fail
              have HBd := Aside0.mk (below_step HB4.out (below_drew (Below.refl _ _)))
              have HGBd := Aside0.mk (blk_drew HGB4.out)
              have HRGd := Aside0.mk (blk_drew HRG4.out)
              have HRNd := Aside0.mk (blk_drew HRN4.out)
              refine wp_region_noPanic ?_
              refine wp_region_held_drew (S := fun w' => Aside0 True ∧ w'.cell? ⟨w.heap.size, 0, none⟩ = some (.string (strOfNums l)) ∧ w'.cell? ⟨w.heap.size, 1, none⟩ = some (.bool true) ∧ w'.cell? ⟨w.heap.size, 2, none⟩ = some (.bool true) ∧ w'.cell? ⟨w.heap.size, 3, none⟩ = some (.bool false)) (by kernel_rfl) ⟨⟨trivial⟩, (blk_cell (HGBd.out) 0).trans rfl, (blk_cell (HGBd.out) 1).trans rfl, (blk_cell (HGBd.out) 2).trans rfl, (blk_cell (HGBd.out) 3).trans rfl⟩ (fun hHeld => ?_)
              refine takeN (i := 0) (N := (some 121)) (v := ?v46) (a' := ?a46) rfl rfl (by kernel_rfl) (by kernel_rfl) (by kernel_rfl) (fun _ _ _ h => h) (Or.inl ⟨by rfl, ?hy46⟩) ?ha46 (by assumption) ?rest46
              case hy46 =>
                intro w_ hSw_
                go_simp
                first | done | (with_reducible rfl)
              case ha46 =>
                simp only [Act.put, List.setIfInBounds_toArray, List.set_cons_zero, List.set_cons_succ]
                rfl
              refine takeN (i := 1) (N := (some 122)) (v := ?v47) (a' := ?a47) rfl rfl (by kernel_rfl) (by kernel_rfl) (by kernel_rfl) (fun _ _ _ h => h) (Or.inl ⟨by rfl, ?hy47⟩) ?ha47 (by assumption) ?rest47
              case hy47 =>
                intro w_ hSw_
                go_simp
                first | done | (with_reducible rfl)
              case ha47 =>
                simp only [Act.put, List.setIfInBounds_toArray, List.set_cons_zero, List.set_cons_succ]
                rfl
              refine takeN (i := 2) (N := (some 123)) (v := ?v48) (a' := ?a48) rfl rfl (by kernel_rfl) (by kernel_rfl) (by kernel_rfl) (fun _ _ _ h => h) (Or.inl ⟨by rfl, ?hy48⟩) ?ha48 (by assumption) ?rest48
              case hy48 =>
                intro w_ hSw_
                go_simp
                first | done | (with_reducible rfl)
              case ha48 =>
                simp only [Act.put, List.setIfInBounds_toArray, List.set_cons_zero, List.set_cons_succ]
                rfl
              refine takeN (i := 3) (N := (some 124)) (v := ?v49) (a' := ?a49) rfl rfl (by kernel_rfl) (by kernel_rfl) (by kernel_rfl) (fun _ _ _ h => h) (Or.inl ⟨by rfl, ?hy49⟩) ?ha49 (by assumption) ?rest49
              case hy49 =>
                intro w_ hSw_
                go_simp
                first | done | (with_reducible rfl)
              case ha49 =>
                simp only [Act.put, List.setIfInBounds_toArray, List.set_cons_zero, List.set_cons_succ]
                rfl
              refine takeN (i := 4) (N := (some 125)) (v := ?v50) (a' := ?a50) rfl rfl (by kernel_rfl) (by kernel_rfl) (by kernel_rfl) (fun _ _ _ h => h) (Or.inl ⟨by rfl, ?hy50⟩) ?ha50 (by assumption) ?rest50
              case hy50 =>
                intro w_ hSw_
                go_simp
                first | done | (with_reducible rfl)
              case ha50 =>
                simp only [Act.put, List.setIfInBounds_toArray, List.set_cons_zero, List.set_cons_succ]
                rfl
              generalize w4.drew = Wd at hHeld HBd HGBd HRGd HRNd ⊢
              refine wpAnyH_ready (rs := [5, 7]) (by kernel_rfl) (by simp) ?_
              refine AllReadyH.cons rfl (fun K hK => ?_) (AllReadyH.cons rfl (fun K hK => ?_) AllReadyH.nil)
              · go_simp
                refine hK.out _ _ ⟨⟨trivial⟩, (blk_cell (blk_below HGBd.out (HCV.out.1 Wd)) 0).trans rfl, (blk_cell (blk_below HGBd.out (HCV.out.1 Wd)) 1).trans rfl, (blk_cell (blk_below HGBd.out (HCV.out.1 Wd)) 2).trans rfl, (blk_cell (blk_below HGBd.out (HCV.out.1 Wd)) 3).trans rfl⟩ (fun hHeld => ?_)
                clear hK K
                try simp only [Act.put, List.setIfInBounds_toArray, List.set_cons_zero, List.set_cons_succ]
                have hbb := HCV.out.1 Wd
                have HB5 := Aside0.mk (below_step HBd.out hbb)
                have HGB5 := Aside0.mk (blk_below HGBd.out hbb)
                have HRG5 := Aside0.mk (blk_below HRGd.out hbb)
                have HRN5 := Aside0.mk (blk_below HRNd.out hbb)
                have HCQ := Aside0.mk (HCV.out.2.2.1 Wd)
                have HC5 := Aside0.mk (HCV.out.2.1 Wd)
                have HQ5 := Aside0.mk (blk_lt HRNd.out)
                obtain ⟨csq, frq, htq⟩ := HCV.out.2.2.2 Wd
                have HRD5 : Aside0 (Rd B (bw Wd) (some ⟨Wd.heap.size, 0, none⟩) l) := ⟨Rd.of_new HC5.out htq⟩
                generalize bw Wd = w5 at hHeld hbb HC5 HRD5 htq HB5 HGB5 HRG5 HRN5 ⊢
                generalize capf Wd = cq at HCQ ⊢
                generalize Wd.heap.size = q at HC5 HQ5 HRD5 htq ⊢
                clear hbb htq
                refine takeN (i := 6) (N := (some 127)) (v := ?v51) (a' := ?a51) rfl rfl (by kernel_rfl) (by kernel_rfl) (by kernel_rfl) (fun _ _ _ h => h) (Or.inl ⟨by rfl, ?hy51⟩) ?ha51 (by assumption) ?rest51
                case hy51 =>
                  intro w_ hSw_
                  go_simp
                  first | done | (with_reducible rfl)
                case ha51 =>
                  simp only [Act.put, List.setIfInBounds_toArray, List.set_cons_zero, List.set_cons_succ]
                  rfl
                have r0 : w5.cell? ⟨(w.heap.size + 1 + 1), 0, none⟩ = some (.string (⟨#[]⟩ : ByteArray)) := (blk_cell HRG5.out 0).trans rfl
                have rf0 := blk_frozen HRG5.out 0
                have r1 : w5.cell? ⟨(w.heap.size + 1 + 1), 1, none⟩ = some (.bool false) := (blk_cell HRG5.out 1).trans rfl
                have rf1 := blk_frozen HRG5.out 1
                have r2 : w5.cell? ⟨(w.heap.size + 1 + 1), 2, none⟩ = some (.bool false) := (blk_cell HRG5.out 2).trans rfl
                have rf2 := blk_frozen HRG5.out 2
                have r3 : w5.cell? ⟨(w.heap.size + 1 + 1), 3, none⟩ = some (.bool false) := (blk_cell HRG5.out 3).trans rfl
                have rf3 := blk_frozen HRG5.out 3
                have rl := blk_lt HRG5.out
                have n0 : w5.cell? ⟨(w.heap.size + 1 + 1 + 1), 0, none⟩ = some (.int .u8 0) := (blk_cell HRN5.out 0).trans rfl
                have nf0 := blk_frozen HRN5.out 0
                have n1 : w5.cell? ⟨(w.heap.size + 1 + 1 + 1), 1, none⟩ = some (.bool false) := (blk_cell HRN5.out 1).trans rfl
                have nf1 := blk_frozen HRN5.out 1
                have n2 : w5.cell? ⟨(w.heap.size + 1 + 1 + 1), 2, none⟩ = some (.slice none 0 0) := (blk_cell HRN5.out 2).trans rfl
                have nf2 := blk_frozen HRN5.out 2
                have n3 : w5.cell? ⟨(w.heap.size + 1 + 1 + 1), 3, none⟩ = some (.int .u32 0) := (blk_cell HRN5.out 3).trans rfl
                have nf3 := blk_frozen HRN5.out 3
                have nl := blk_lt HRN5.out
                refine wpAnyH_ready (rs := [7]) (by kernel_rfl) (by simp) ?_
                refine AllReadyH.cons rfl (fun K hK => ?_) AllReadyH.nil
                go_simp
                refine hK.out _ _ ⟨⟨trivial⟩, (blk_cell ((heap_sets4 (show w.heap.size ≠ w.heap.size + 1 + 1 by omega)).trans HGB5.out) 0).trans rfl, (blk_cell ((heap_sets4 (show w.heap.size ≠ w.heap.size + 1 + 1 by omega)).trans HGB5.out) 1).trans rfl, (blk_cell ((heap_sets4 (show w.heap.size ≠ w.heap.size + 1 + 1 by omega)).trans HGB5.out) 2).trans rfl, (blk_cell ((heap_sets4 (show w.heap.size ≠ w.heap.size + 1 + 1 by omega)).trans HGB5.out) 3).trans rfl⟩ (fun hHeld => ?_)
                clear hK K
                try simp only [Act.put, List.setIfInBounds_toArray, List.set_cons_zero, List.set_cons_succ]
                refine wpAnyH_ready (rs := [8]) (by kernel_rfl) (by simp) ?_
                refine AllReadyH.cons rfl (fun K hK => ?_) AllReadyH.nil
                go_simp
                refine hK.out _ _ ⟨⟨trivial⟩, (blk_cell ((heap_sets4 (show w.heap.size ≠ w.heap.size + 1 + 1 + 1 by omega)).trans ((heap_sets4 (show w.heap.size ≠ w.heap.size + 1 + 1 by omega)).trans HGB5.out)) 0).trans rfl, (blk_cell ((heap_sets4 (show w.heap.size ≠ w.heap.size + 1 + 1 + 1 by omega)).trans ((heap_sets4 (show w.heap.size ≠ w.heap.size + 1 + 1 by omega)).trans HGB5.out)) 1).trans rfl, (blk_cell ((heap_sets4 (show w.heap.size ≠ w.heap.size + 1 + 1 + 1 by omega)).trans ((heap_sets4 (show w.heap.size ≠ w.heap.size + 1 + 1 by omega)).trans HGB5.out)) 2).trans rfl, (blk_cell ((heap_sets4 (show w.heap.size ≠ w.heap.size + 1 + 1 + 1 by omega)).trans ((heap_sets4 (show w.heap.size ≠ w.heap.size + 1 + 1 by omega)).trans HGB5.out)) 3).trans rfl⟩ (fun hHeld => ?_)
                clear hK K
                try simp only [Act.put, List.setIfInBounds_toArray, List.set_cons_zero, List.set_cons_succ]
                refine takeN (i := 9) (N := (some 6)) (v := ?v52) (a' := ?a52) rfl rfl (by kernel_rfl) (by kernel_rfl) (by kernel_rfl) (fun _ _ _ h => h) (Or.inl ⟨by rfl, ?hy52⟩) ?ha52 (by assumption) ?rest52
                case hy52 =>
                  intro w_ hSw_
                  go_simp
                  first | done | (with_reducible rfl)
                case ha52 =>
                  simp only [Act.put, List.setIfInBounds_toArray, List.set_cons_zero, List.set_cons_succ]
                  rfl
                refine wpAnyH_done (by kernel_rfl) ?_ _
                refine NoPanic.normal ?_
                go_wp2_with fail
                exact bodyPost_ret (v := .tuple #[.agg #[.string (⟨#[]⟩ : ByteArray), .bool false, .bool false, .bool false], .agg #[.int .u8 1, .bool true, .slice (some ⟨q, 0, none⟩) l.length cq, .int .u32 0], .bool true]) (by simp [results, Tryd.results17, go_sem, show strOfNums [] = (⟨#[]⟩ : ByteArray) from rfl, r0, r1, r2, r3, n0, n1, n2, n3]) rfl (.inr (.inr ⟨HPC.out, rfl, by rw [HTN.out, ← HLL.out]; exact ⟨some ⟨q, 0, none⟩, cq, rfl, HCQ.out, Rd.off4 (Rd.off4 HRD5.out HRG5.out (by decide) (by omega)) ((heap_sets4 (show w.heap.size + 1 + 1 + 1 ≠ w.heap.size + 1 + 1 by omega)).trans HRN5.out) (by decide) (by omega), sets4 (sets4 HB5.out hle2) hle3⟩⟩))
              · have r0 : Wd.cell? ⟨(w.heap.size + 1 + 1), 0, none⟩ = some (.string (⟨#[]⟩ : ByteArray)) := (blk_cell HRGd.out 0).trans rfl
                have rf0 := blk_frozen HRGd.out 0
                have r1 : Wd.cell? ⟨(w.heap.size + 1 + 1), 1, none⟩ = some (.bool false) := (blk_cell HRGd.out 1).trans rfl
                have rf1 := blk_frozen HRGd.out 1
                have r2 : Wd.cell? ⟨(w.heap.size + 1 + 1), 2, none⟩ = some (.bool false) := (blk_cell HRGd.out 2).trans rfl
                have rf2 := blk_frozen HRGd.out 2
                have r3 : Wd.cell? ⟨(w.heap.size + 1 + 1), 3, none⟩ = some (.bool false) := (blk_cell HRGd.out 3).trans rfl
                have rf3 := blk_frozen HRGd.out 3
                have rl := blk_lt HRGd.out
                go_simp
                refine hK.out _ _ ⟨⟨trivial⟩, (blk_cell ((heap_sets4 (show w.heap.size ≠ w.heap.size + 1 + 1 by omega)).trans HGBd.out) 0).trans rfl, (blk_cell ((heap_sets4 (show w.heap.size ≠ w.heap.size + 1 + 1 by omega)).trans HGBd.out) 1).trans rfl, (blk_cell ((heap_sets4 (show w.heap.size ≠ w.heap.size + 1 + 1 by omega)).trans HGBd.out) 2).trans rfl, (blk_cell ((heap_sets4 (show w.heap.size ≠ w.heap.size + 1 + 1 by omega)).trans HGBd.out) 3).trans rfl⟩ (fun hHeld => ?_)
                clear hK K
                try simp only [Act.put, List.setIfInBounds_toArray, List.set_cons_zero, List.set_cons_succ]
                have HBe := Aside0.mk (show Below w.heap.size w ((((Wd.setCell ⟨(w.heap.size + 1 + 1), 0, none⟩ (.string (⟨#[]⟩ : ByteArray))).setCell ⟨(w.heap.size + 1 + 1), 1, none⟩ (.bool false)).setCell ⟨(w.heap.size + 1 + 1), 2, none⟩ (.bool false)).setCell ⟨(w.heap.size + 1 + 1), 3, none⟩ (.bool false)) from sets4 HBd.out hle2)
                have HGBe := Aside0.mk (show ((((Wd.setCell ⟨(w.heap.size + 1 + 1), 0, none⟩ (.string (⟨#[]⟩ : ByteArray))).setCell ⟨(w.heap.size + 1 + 1), 1, none⟩ (.bool false)).setCell ⟨(w.heap.size + 1 + 1), 2, none⟩ (.bool false)).setCell ⟨(w.heap.size + 1 + 1), 3, none⟩ (.bool false)).heap[w.heap.size]? = some (.cells #[.string (strOfNums l), .bool true, .bool true, .bool false] 40 (0, 0)) from (heap_sets4 (by omega)).trans HGBd.out)
                have HRGe := Aside0.mk (show ((((Wd.setCell ⟨(w.heap.size + 1 + 1), 0, none⟩ (.string (⟨#[]⟩ : ByteArray))).setCell ⟨(w.heap.size + 1 + 1), 1, none⟩ (.bool false)).setCell ⟨(w.heap.size + 1 + 1), 2, none⟩ (.bool false)).setCell ⟨(w.heap.size + 1 + 1), 3, none⟩ (.bool false)).heap[w.heap.size + 1 + 1]? = some (.cells #[.string (⟨#[]⟩ : ByteArray), .bool false, .bool false, .bool false] 40 (0, 0)) from (blk_put (blk_put (blk_put (blk_put HRGd.out 0 (.string (⟨#[]⟩ : ByteArray)) rfl) 1 (.bool false) rfl) 2 (.bool false) rfl) 3 (.bool false) rfl))
                have HRNe := Aside0.mk (show ((((Wd.setCell ⟨(w.heap.size + 1 + 1), 0, none⟩ (.string (⟨#[]⟩ : ByteArray))).setCell ⟨(w.heap.size + 1 + 1), 1, none⟩ (.bool false)).setCell ⟨(w.heap.size + 1 + 1), 2, none⟩ (.bool false)).setCell ⟨(w.heap.size + 1 + 1), 3, none⟩ (.bool false)).heap[w.heap.size + 1 + 1 + 1]? = some (.cells #[.int .u8 0, .bool false, .slice none 0 0, .int .u32 0] 30 (0, 0)) from (heap_sets4 (by omega)).trans HRNd.out)
                generalize ((((Wd.setCell ⟨(w.heap.size + 1 + 1), 0, none⟩ (.string (⟨#[]⟩ : ByteArray))).setCell ⟨(w.heap.size + 1 + 1), 1, none⟩ (.bool false)).setCell ⟨(w.heap.size + 1 + 1), 2, none⟩ (.bool false)).setCell ⟨(w.heap.size + 1 + 1), 3, none⟩ (.bool false)) = We at hHeld HBe HGBe HRGe HRNe ⊢
                clear r0 rf0 r1 rf1 r2 rf2 r3 rf3 rl
                refine wpAnyH_ready (rs := [5]) (by kernel_rfl) (by simp) ?_
                refine AllReadyH.cons rfl (fun K hK => ?_) AllReadyH.nil
                go_simp
                refine hK.out _ _ ⟨⟨trivial⟩, (blk_cell (blk_below HGBe.out (HCV.out.1 We)) 0).trans rfl, (blk_cell (blk_below HGBe.out (HCV.out.1 We)) 1).trans rfl, (blk_cell (blk_below HGBe.out (HCV.out.1 We)) 2).trans rfl, (blk_cell (blk_below HGBe.out (HCV.out.1 We)) 3).trans rfl⟩ (fun hHeld => ?_)
                clear hK K
                try simp only [Act.put, List.setIfInBounds_toArray, List.set_cons_zero, List.set_cons_succ]
                have hbb := HCV.out.1 We
                have HB5 := Aside0.mk (below_step HBe.out hbb)
                have HGB5 := Aside0.mk (blk_below HGBe.out hbb)
                have HRG5 := Aside0.mk (blk_below HRGe.out hbb)
                have HRN5 := Aside0.mk (blk_below HRNe.out hbb)
                have HCQ := Aside0.mk (HCV.out.2.2.1 We)
                have HC5 := Aside0.mk (HCV.out.2.1 We)
                have HQ5 := Aside0.mk (blk_lt HRNe.out)
                obtain ⟨csq, frq, htq⟩ := HCV.out.2.2.2 We
                have HRD5 : Aside0 (Rd B (bw We) (some ⟨We.heap.size, 0, none⟩) l) := ⟨Rd.of_new HC5.out htq⟩
                generalize bw We = w5 at hHeld hbb HC5 HRD5 htq HB5 HGB5 HRG5 HRN5 ⊢
                generalize capf We = cq at HCQ ⊢
                generalize We.heap.size = q at HC5 HQ5 HRD5 htq ⊢
                clear hbb htq
                refine takeN (i := 6) (N := (some 127)) (v := ?v53) (a' := ?a53) rfl rfl (by kernel_rfl) (by kernel_rfl) (by kernel_rfl) (fun _ _ _ h => h) (Or.inl ⟨by rfl, ?hy53⟩) ?ha53 (by assumption) ?rest53
                case hy53 =>
                  intro w_ hSw_
                  go_simp
                  first | done | (with_reducible rfl)
                case ha53 =>
                  simp only [Act.put, List.setIfInBounds_toArray, List.set_cons_zero, List.set_cons_succ]
                  rfl
                have r0 : w5.cell? ⟨(w.heap.size + 1 + 1), 0, none⟩ = some (.string (⟨#[]⟩ : ByteArray)) := (blk_cell HRG5.out 0).trans rfl
                have rf0 := blk_frozen HRG5.out 0
                have r1 : w5.cell? ⟨(w.heap.size + 1 + 1), 1, none⟩ = some (.bool false) := (blk_cell HRG5.out 1).trans rfl
                have rf1 := blk_frozen HRG5.out 1
                have r2 : w5.cell? ⟨(w.heap.size + 1 + 1), 2, none⟩ = some (.bool false) := (blk_cell HRG5.out 2).trans rfl
                have rf2 := blk_frozen HRG5.out 2
                have r3 : w5.cell? ⟨(w.heap.size + 1 + 1), 3, none⟩ = some (.bool false) := (blk_cell HRG5.out 3).trans rfl
                have rf3 := blk_frozen HRG5.out 3
                have rl := blk_lt HRG5.out
                have n0 : w5.cell? ⟨(w.heap.size + 1 + 1 + 1), 0, none⟩ = some (.int .u8 0) := (blk_cell HRN5.out 0).trans rfl
                have nf0 := blk_frozen HRN5.out 0
                have n1 : w5.cell? ⟨(w.heap.size + 1 + 1 + 1), 1, none⟩ = some (.bool false) := (blk_cell HRN5.out 1).trans rfl
                have nf1 := blk_frozen HRN5.out 1
                have n2 : w5.cell? ⟨(w.heap.size + 1 + 1 + 1), 2, none⟩ = some (.slice none 0 0) := (blk_cell HRN5.out 2).trans rfl
                have nf2 := blk_frozen HRN5.out 2
                have n3 : w5.cell? ⟨(w.heap.size + 1 + 1 + 1), 3, none⟩ = some (.int .u32 0) := (blk_cell HRN5.out 3).trans rfl
                have nf3 := blk_frozen HRN5.out 3
                have nl := blk_lt HRN5.out
                refine wpAnyH_ready (rs := [8]) (by kernel_rfl) (by simp) ?_
                refine AllReadyH.cons rfl (fun K hK => ?_) AllReadyH.nil
                go_simp
                refine hK.out _ _ ⟨⟨trivial⟩, (blk_cell ((heap_sets4 (show w.heap.size ≠ w.heap.size + 1 + 1 + 1 by omega)).trans HGB5.out) 0).trans rfl, (blk_cell ((heap_sets4 (show w.heap.size ≠ w.heap.size + 1 + 1 + 1 by omega)).trans HGB5.out) 1).trans rfl, (blk_cell ((heap_sets4 (show w.heap.size ≠ w.heap.size + 1 + 1 + 1 by omega)).trans HGB5.out) 2).trans rfl, (blk_cell ((heap_sets4 (show w.heap.size ≠ w.heap.size + 1 + 1 + 1 by omega)).trans HGB5.out) 3).trans rfl⟩ (fun hHeld => ?_)
                clear hK K
                try simp only [Act.put, List.setIfInBounds_toArray, List.set_cons_zero, List.set_cons_succ]
                refine takeN (i := 9) (N := (some 6)) (v := ?v54) (a' := ?a54) rfl rfl (by kernel_rfl) (by kernel_rfl) (by kernel_rfl) (fun _ _ _ h => h) (Or.inl ⟨by rfl, ?hy54⟩) ?ha54 (by assumption) ?rest54
                case hy54 =>
                  intro w_ hSw_
                  go_simp
                  first | done | (with_reducible rfl)
                case ha54 =>
                  simp only [Act.put, List.setIfInBounds_toArray, List.set_cons_zero, List.set_cons_succ]
                  rfl
                refine wpAnyH_done (by kernel_rfl) ?_ _
                refine NoPanic.normal ?_
                go_wp2_with fail
                exact bodyPost_ret (v := .tuple #[.agg #[.string (⟨#[]⟩ : ByteArray), .bool false, .bool false, .bool false], .agg #[.int .u8 1, .bool true, .slice (some ⟨q, 0, none⟩) l.length cq, .int .u32 0], .bool true]) (by simp [results, Tryd.results17, go_sem, show strOfNums [] = (⟨#[]⟩ : ByteArray) from rfl, r0, r1, r2, r3, n0, n1, n2, n3]) rfl (.inr (.inr ⟨HPC.out, rfl, by rw [HTN.out, ← HLL.out]; exact ⟨some ⟨q, 0, none⟩, cq, rfl, HCQ.out, Rd.off4 (HRD5.out) HRN5.out (by decide) (by omega), sets4 HB5.out hle3⟩⟩))
set_option maxHeartbeats 8000000 in
set_option maxRecDepth 100000 in
theorem reft_part_1 {b : List Int} {busy text fin mk : Bool} {key : Int} {A : Option Addr} {c : Nat} {d : List Int} {w : World} {B : Nat} (hBw : B ≤ w.heap.size) (hC : Rd B w A d) (hc : d.length ≤ c) (hbf : busy = false → b = []) (hb8 : ∀ x ∈ b, 0 ≤ x ∧ x ≤ 255) (hd8 : ∀ x ∈ d, 0 ≤ x ∧ x ≤ 255) (hbl : b.length ≤ 4096) (hdl : d.length ≤ 1000000000) : Calls Tryd.prog 17 #[gmV b busy text false, .agg #[.bool fin, .int .u8 1, .bool mk, .int .u32 key, .slice A d.length c]] w (PartR B busy text fin 1 b d w) := by
  have HB8 := Aside0.mk hb8
  have HD8 := Aside0.mk hd8
  have HBB := Aside0.mk (bs_str b hb8)
  have HBD := Aside0.mk (bs_str d hd8)
  have HBF := Aside0.mk hbf
  clear hb8 hd8 hbf
  cases busy with
  | false =>
    obtain rfl := HBF.out rfl
    have hug := Tryd.underlying40
    have hu30 := Tryd.underlying30
    have hu26 := Tryd.underlying26
    have HC := Aside0.mk hC
    clear hC
    have hle0 : w.heap.size ≤ w.heap.size := by omega
    have hle1 : w.heap.size ≤ w.heap.size + 1 := by omega
    have hle2 : w.heap.size ≤ w.heap.size + 1 + 1 := by omega
    have hle3 : w.heap.size ≤ w.heap.size + 1 + 1 + 1 := by omega
    have hle4 : w.heap.size ≤ w.heap.size + 1 + 1 + 1 + 1 := by omega
    have hb1 : Below w.heap.size w (((((w.alloc (.cells #[.string (strOfNums []), .bool false, .bool text, .bool false] 40)).alloc (.cells #[.bool fin, .int .u8 1, .bool mk, .int .u32 key, .slice A d.length c] 26)).alloc (.cells #[.string (⟨#[]⟩ : ByteArray), .bool false, .bool false, .bool false] 40)).alloc (.cells #[.int .u8 0, .bool false, .slice none 0 0, .int .u32 0] 30)).alloc (.cells #[.int .u8 0, .bool false, .slice none 0 0, .int .u32 0] 30)) := below_alloc (below_alloc (below_alloc (below_alloc (below_alloc (Below.refl _ _) _) _) _) _) _
    have hgb : (((((w.alloc (.cells #[.string (strOfNums []), .bool false, .bool text, .bool false] 40)).alloc (.cells #[.bool fin, .int .u8 1, .bool mk, .int .u32 key, .slice A d.length c] 26)).alloc (.cells #[.string (⟨#[]⟩ : ByteArray), .bool false, .bool false, .bool false] 40)).alloc (.cells #[.int .u8 0, .bool false, .slice none 0 0, .int .u32 0] 30)).alloc (.cells #[.int .u8 0, .bool false, .slice none 0 0, .int .u32 0] 30)).heap[w.heap.size]? = some (.cells #[.string (strOfNums []), .bool false, .bool text, .bool false] 40 (0, 0)) := blk_alloc (blk_alloc (blk_alloc (blk_alloc (last_at _ _ _ (by simp)) _) _) _) _
    have hpb : (((((w.alloc (.cells #[.string (strOfNums []), .bool false, .bool text, .bool false] 40)).alloc (.cells #[.bool fin, .int .u8 1, .bool mk, .int .u32 key, .slice A d.length c] 26)).alloc (.cells #[.string (⟨#[]⟩ : ByteArray), .bool false, .bool false, .bool false] 40)).alloc (.cells #[.int .u8 0, .bool false, .slice none 0 0, .int .u32 0] 30)).alloc (.cells #[.int .u8 0, .bool false, .slice none 0 0, .int .u32 0] 30)).heap[w.heap.size + 1]? = some (.cells #[.bool fin, .int .u8 1, .bool mk, .int .u32 key, .slice A d.length c] 26 (0, 0)) := blk_alloc (blk_alloc (blk_alloc (last_at _ _ _ (by simp)) _) _) _
    have hrg : (((((w.alloc (.cells #[.string (strOfNums []), .bool false, .bool text, .bool false] 40)).alloc (.cells #[.bool fin, .int .u8 1, .bool mk, .int .u32 key, .slice A d.length c] 26)).alloc (.cells #[.string (⟨#[]⟩ : ByteArray), .bool false, .bool false, .bool false] 40)).alloc (.cells #[.int .u8 0, .bool false, .slice none 0 0, .int .u32 0] 30)).alloc (.cells #[.int .u8 0, .bool false, .slice none 0 0, .int .u32 0] 30)).heap[w.heap.size + 1 + 1]? = some (.cells #[.string (⟨#[]⟩ : ByteArray), .bool false, .bool false, .bool false] 40 (0, 0)) := blk_alloc (blk_alloc (last_at _ _ _ (by simp)) _) _
    have hrn : (((((w.alloc (.cells #[.string (strOfNums []), .bool false, .bool text, .bool false] 40)).alloc (.cells #[.bool fin, .int .u8 1, .bool mk, .int .u32 key, .slice A d.length c] 26)).alloc (.cells #[.string (⟨#[]⟩ : ByteArray), .bool false, .bool false, .bool false] 40)).alloc (.cells #[.int .u8 0, .bool false, .slice none 0 0, .int .u32 0] 30)).alloc (.cells #[.int .u8 0, .bool false, .slice none 0 0, .int .u32 0] 30)).heap[w.heap.size + 1 + 1 + 1]? = some (.cells #[.int .u8 0, .bool false, .slice none 0 0, .int .u32 0] 30 (0, 0)) := blk_alloc (last_at _ _ _ (by simp)) _
    have hnn : (((((w.alloc (.cells #[.string (strOfNums []), .bool false, .bool text, .bool false] 40)).alloc (.cells #[.bool fin, .int .u8 1, .bool mk, .int .u32 key, .slice A d.length c] 26)).alloc (.cells #[.string (⟨#[]⟩ : ByteArray), .bool false, .bool false, .bool false] 40)).alloc (.cells #[.int .u8 0, .bool false, .slice none 0 0, .int .u32 0] 30)).alloc (.cells #[.int .u8 0, .bool false, .slice none 0 0, .int .u32 0] 30)).heap[w.heap.size + 1 + 1 + 1 + 1]? = some (.cells #[.int .u8 0, .bool false, .slice none 0 0, .int .u32 0] 30 (0, 0)) := last_at _ _ _ (by simp)
    go_enter Tryd.func17, Tryd.ntmps17
    go_upto_region 2 with fail
    generalize (((((w.alloc (.cells #[.string (strOfNums []), .bool false, .bool text, .bool false] 40)).alloc (.cells #[.bool fin, .int .u8 1, .bool mk, .int .u32 key, .slice A d.length c] 26)).alloc (.cells #[.string (⟨#[]⟩ : ByteArray), .bool false, .bool false, .bool false] 40)).alloc (.cells #[.int .u8 0, .bool false, .slice none 0 0, .int .u32 0] 30)).alloc (.cells #[.int .u8 0, .bool false, .slice none 0 0, .int .u32 0] 30)) = W1 at hb1 hgb hpb hrg hrn hnn ⊢
    have HB1 := Aside0.mk hb1
    have HGB := Aside0.mk hgb
    have HPB := Aside0.mk hpb
    have HRG := Aside0.mk hrg
    have HRN := Aside0.mk hrn
    have HNN := Aside0.mk hnn
    clear hb1 hgb hpb hrg hrn hnn
    have HTN := Aside0.mk (show textN false text 1 = true from rfl)
    have g0 : W1.cell? ⟨w.heap.size, 0, none⟩ = some (.string (strOfNums [])) := (blk_cell HGB.out 0).trans rfl
    have gf0 := blk_frozen HGB.out 0
    have g1 : W1.cell? ⟨w.heap.size, 1, none⟩ = some (.bool false) := (blk_cell HGB.out 1).trans rfl
    have gf1 := blk_frozen HGB.out 1
    have g2 : W1.cell? ⟨w.heap.size, 2, none⟩ = some (.bool text) := (blk_cell HGB.out 2).trans rfl
    have gf2 := blk_frozen HGB.out 2
    have g3 : W1.cell? ⟨w.heap.size, 3, none⟩ = some (.bool false) := (blk_cell HGB.out 3).trans rfl
    have gf3 := blk_frozen HGB.out 3
    have gl := blk_lt HGB.out
    have p0 : W1.cell? ⟨(w.heap.size + 1), 0, none⟩ = some (.bool fin) := (blk_cell HPB.out 0).trans rfl
    have pf0 := blk_frozen HPB.out 0
    have p1 : W1.cell? ⟨(w.heap.size + 1), 1, none⟩ = some (.int .u8 1) := (blk_cell HPB.out 1).trans rfl
    have pf1 := blk_frozen HPB.out 1
    have p2 : W1.cell? ⟨(w.heap.size + 1), 2, none⟩ = some (.bool mk) := (blk_cell HPB.out 2).trans rfl
    have pf2 := blk_frozen HPB.out 2
    have p3 : W1.cell? ⟨(w.heap.size + 1), 3, none⟩ = some (.int .u32 key) := (blk_cell HPB.out 3).trans rfl
    have pf3 := blk_frozen HPB.out 3
    have p4 : W1.cell? ⟨(w.heap.size + 1), 4, none⟩ = some (.slice A d.length c) := (blk_cell HPB.out 4).trans rfl
    have pf4 := blk_frozen HPB.out 4
    have pl := blk_lt HPB.out
    go_upto_region 19 with fail
    have HGB2 := Aside0.mk (show ((((W1.setCell ⟨w.heap.size, 0, none⟩ (.string (⟨#[]⟩ : ByteArray))).setCell ⟨w.heap.size, 1, none⟩ (.bool true)).setCell ⟨w.heap.size, 2, none⟩ (.bool true)).setCell ⟨w.heap.size, 3, none⟩ (.bool false)).heap[w.heap.size]? = some (.cells #[.string (strOfNums []), .bool true, .bool true, .bool false] 40 (0, 0)) from (blk_put (blk_put (blk_put (blk_put HGB.out 0 (.string (⟨#[]⟩ : ByteArray)) rfl) 1 (.bool true) rfl) 2 (.bool true) rfl) 3 (.bool false) rfl))
    have HPB2 := Aside0.mk (show ((((W1.setCell ⟨w.heap.size, 0, none⟩ (.string (⟨#[]⟩ : ByteArray))).setCell ⟨w.heap.size, 1, none⟩ (.bool true)).setCell ⟨w.heap.size, 2, none⟩ (.bool true)).setCell ⟨w.heap.size, 3, none⟩ (.bool false)).heap[w.heap.size + 1]? = some (.cells #[.bool fin, .int .u8 1, .bool mk, .int .u32 key, .slice A d.length c] 26 (0, 0)) from (heap_sets4 (show w.heap.size + 1 ≠ w.heap.size by omega)).trans HPB.out)
    have HRG2 := Aside0.mk (show ((((W1.setCell ⟨w.heap.size, 0, none⟩ (.string (⟨#[]⟩ : ByteArray))).setCell ⟨w.heap.size, 1, none⟩ (.bool true)).setCell ⟨w.heap.size, 2, none⟩ (.bool true)).setCell ⟨w.heap.size, 3, none⟩ (.bool false)).heap[w.heap.size + 1 + 1]? = some (.cells #[.string (⟨#[]⟩ : ByteArray), .bool false, .bool false, .bool false] 40 (0, 0)) from (heap_sets4 (show w.heap.size + 1 + 1 ≠ w.heap.size by omega)).trans HRG.out)
    have HRN2 := Aside0.mk (show ((((W1.setCell ⟨w.heap.size, 0, none⟩ (.string (⟨#[]⟩ : ByteArray))).setCell ⟨w.heap.size, 1, none⟩ (.bool true)).setCell ⟨w.heap.size, 2, none⟩ (.bool true)).setCell ⟨w.heap.size, 3, none⟩ (.bool false)).heap[w.heap.size + 1 + 1 + 1]? = some (.cells #[.int .u8 0, .bool false, .slice none 0 0, .int .u32 0] 30 (0, 0)) from (heap_sets4 (show w.heap.size + 1 + 1 + 1 ≠ w.heap.size by omega)).trans HRN.out)
    have HNN2 := Aside0.mk (show ((((W1.setCell ⟨w.heap.size, 0, none⟩ (.string (⟨#[]⟩ : ByteArray))).setCell ⟨w.heap.size, 1, none⟩ (.bool true)).setCell ⟨w.heap.size, 2, none⟩ (.bool true)).setCell ⟨w.heap.size, 3, none⟩ (.bool false)).heap[w.heap.size + 1 + 1 + 1 + 1]? = some (.cells #[.int .u8 0, .bool false, .slice none 0 0, .int .u32 0] 30 (0, 0)) from (heap_sets4 (show w.heap.size + 1 + 1 + 1 + 1 ≠ w.heap.size by omega)).trans HNN.out)
    have HB2 := Aside0.mk (show Below w.heap.size w ((((W1.setCell ⟨w.heap.size, 0, none⟩ (.string (⟨#[]⟩ : ByteArray))).setCell ⟨w.heap.size, 1, none⟩ (.bool true)).setCell ⟨w.heap.size, 2, none⟩ (.bool true)).setCell ⟨w.heap.size, 3, none⟩ (.bool false)) from sets4 HB1.out hle0)
    generalize ((((W1.setCell ⟨w.heap.size, 0, none⟩ (.string (⟨#[]⟩ : ByteArray))).setCell ⟨w.heap.size, 1, none⟩ (.bool true)).setCell ⟨w.heap.size, 2, none⟩ (.bool true)).setCell ⟨w.heap.size, 3, none⟩ (.bool false)) = W2 at HGB2 HPB2 HRG2 HRN2 HNN2 HB2 ⊢
    clear g0 gf0 g1 gf1 g2 gf2 g3 gf3 gl
    clear p0 pf0 p1 pf1 p2 pf2 p3 pf3 p4 pf4 pl
    have g0 : W2.cell? ⟨w.heap.size, 0, none⟩ = some (.string (strOfNums [])) := (blk_cell HGB2.out 0).trans rfl
    have gf0 := blk_frozen HGB2.out 0
    have g1 : W2.cell? ⟨w.heap.size, 1, none⟩ = some (.bool true) := (blk_cell HGB2.out 1).trans rfl
    have gf1 := blk_frozen HGB2.out 1
    have g2 : W2.cell? ⟨w.heap.size, 2, none⟩ = some (.bool true) := (blk_cell HGB2.out 2).trans rfl
    have gf2 := blk_frozen HGB2.out 2
    have g3 : W2.cell? ⟨w.heap.size, 3, none⟩ = some (.bool false) := (blk_cell HGB2.out 3).trans rfl
    have gf3 := blk_frozen HGB2.out 3
    have gl := blk_lt HGB2.out
    have p0 : W2.cell? ⟨(w.heap.size + 1), 0, none⟩ = some (.bool fin) := (blk_cell HPB2.out 0).trans rfl
    have pf0 := blk_frozen HPB2.out 0
    have p1 : W2.cell? ⟨(w.heap.size + 1), 1, none⟩ = some (.int .u8 1) := (blk_cell HPB2.out 1).trans rfl
    have pf1 := blk_frozen HPB2.out 1
    have p2 : W2.cell? ⟨(w.heap.size + 1), 2, none⟩ = some (.bool mk) := (blk_cell HPB2.out 2).trans rfl
    have pf2 := blk_frozen HPB2.out 2
    have p3 : W2.cell? ⟨(w.heap.size + 1), 3, none⟩ = some (.int .u32 key) := (blk_cell HPB2.out 3).trans rfl
    have pf3 := blk_frozen HPB2.out 3
    have p4 : W2.cell? ⟨(w.heap.size + 1), 4, none⟩ = some (.slice A d.length c) := (blk_cell HPB2.out 4).trans rfl
    have pf4 := blk_frozen HPB2.out 4
    have pl := blk_lt HPB2.out
    have hcs : (convert 24 9 (.slice A d.length c)).run Tryd.prog W2 = .ok (.string (strOfNums d)) W2 := Kd.C_string Tryd.underlying24 Tryd.underlying5 Tryd.underlying9 (HC.out.below HB2.out hBw).C
    have hsa : strOfNums [] ++ strOfNums d = strOfNums (d) := strx_append _ _
    have hz1 : (strOfNums []).size = ([] : List Int).length := by rw [← bs_length, HBB.out]
    have hz2 : (strOfNums d).size = d.length := by rw [← bs_length, HBD.out]
    have hz3 : ([] : List Int).length + d.length ≤ 1000005000 := by omega
    go_upto_region 20 with fail
    have HGB3 := Aside0.mk (show (W2.setCell ⟨w.heap.size, 0, none⟩ (.string (strOfNums (d)))).heap[w.heap.size]? = some (.cells #[.string (strOfNums (d)), .bool true, .bool true, .bool false] 40 (0, 0)) from blk_put HGB2.out 0 (.string (strOfNums (d))) rfl)
    have HPB3 := Aside0.mk (show (W2.setCell ⟨w.heap.size, 0, none⟩ (.string (strOfNums (d)))).heap[w.heap.size + 1]? = some (.cells #[.bool fin, .int .u8 1, .bool mk, .int .u32 key, .slice A d.length c] 26 (0, 0)) from (Below.heap_setCell _ ⟨w.heap.size, 0, none⟩ _ _ (show w.heap.size + 1 ≠ w.heap.size by omega)).trans HPB2.out)
    have HRG3 := Aside0.mk (show (W2.setCell ⟨w.heap.size, 0, none⟩ (.string (strOfNums (d)))).heap[w.heap.size + 1 + 1]? = some (.cells #[.string (⟨#[]⟩ : ByteArray), .bool false, .bool false, .bool false] 40 (0, 0)) from (Below.heap_setCell _ ⟨w.heap.size, 0, none⟩ _ _ (show w.heap.size + 1 + 1 ≠ w.heap.size by omega)).trans HRG2.out)
    have HRN3 := Aside0.mk (show (W2.setCell ⟨w.heap.size, 0, none⟩ (.string (strOfNums (d)))).heap[w.heap.size + 1 + 1 + 1]? = some (.cells #[.int .u8 0, .bool false, .slice none 0 0, .int .u32 0] 30 (0, 0)) from (Below.heap_setCell _ ⟨w.heap.size, 0, none⟩ _ _ (show w.heap.size + 1 + 1 + 1 ≠ w.heap.size by omega)).trans HRN2.out)
    have HNN3 := Aside0.mk (show (W2.setCell ⟨w.heap.size, 0, none⟩ (.string (strOfNums (d)))).heap[w.heap.size + 1 + 1 + 1 + 1]? = some (.cells #[.int .u8 0, .bool false, .slice none 0 0, .int .u32 0] 30 (0, 0)) from (Below.heap_setCell _ ⟨w.heap.size, 0, none⟩ _ _ (show w.heap.size + 1 + 1 + 1 + 1 ≠ w.heap.size by omega)).trans HNN2.out)
    have HB3 := Aside0.mk (Below.setCell (p := ⟨w.heap.size, 0, none⟩) HB2.out hle0 (.string (strOfNums (d))))
    generalize (W2.setCell ⟨w.heap.size, 0, none⟩ (.string (strOfNums (d)))) = W3 at HGB3 HPB3 HRG3 HRN3 HNN3 HB3 ⊢
    clear hcs hsa hz1 hz2
    clear g0 gf0 g1 gf1 g2 gf2 g3 gf3 gl
    clear p0 pf0 p1 pf1 p2 pf2 p3 pf3 p4 pf4 pl
    obtain ⟨l, hl⟩ : ∃ l, l = d := ⟨_, rfl⟩
    rw [← hl] at HGB3
    have HLL := Aside0.mk hl
    have hlen : l.length = ([] : List Int).length + d.length := by rw [hl]; simp
    have HBS := Aside0.mk (show bs (strOfNums l) = l from bs_str l (fun x hx => by rw [hl] at hx; exact HD8.out x hx))
    have hzl : (strOfNums l).size = l.length := by rw [← bs_length, HBS.out]
    clear hl
    have HLEN := Aside0.mk hlen
    clear hlen
    have g0 : W3.cell? ⟨w.heap.size, 0, none⟩ = some (.string (strOfNums l)) := (blk_cell HGB3.out 0).trans rfl
    have gf0 := blk_frozen HGB3.out 0
    have g1 : W3.cell? ⟨w.heap.size, 1, none⟩ = some (.bool true) := (blk_cell HGB3.out 1).trans rfl
    have gf1 := blk_frozen HGB3.out 1
    have g2 : W3.cell? ⟨w.heap.size, 2, none⟩ = some (.bool true) := (blk_cell HGB3.out 2).trans rfl
    have gf2 := blk_frozen HGB3.out 2
    have g3 : W3.cell? ⟨w.heap.size, 3, none⟩ = some (.bool false) := (blk_cell HGB3.out 3).trans rfl
    have gf3 := blk_frozen HGB3.out 3
    have gl := blk_lt HGB3.out
    have p0 : W3.cell? ⟨(w.heap.size + 1), 0, none⟩ = some (.bool fin) := (blk_cell HPB3.out 0).trans rfl
    have pf0 := blk_frozen HPB3.out 0
    have p1 : W3.cell? ⟨(w.heap.size + 1), 1, none⟩ = some (.int .u8 1) := (blk_cell HPB3.out 1).trans rfl
    have pf1 := blk_frozen HPB3.out 1
    have p2 : W3.cell? ⟨(w.heap.size + 1), 2, none⟩ = some (.bool mk) := (blk_cell HPB3.out 2).trans rfl
    have pf2 := blk_frozen HPB3.out 2
    have p3 : W3.cell? ⟨(w.heap.size + 1), 3, none⟩ = some (.int .u32 key) := (blk_cell HPB3.out 3).trans rfl
    have pf3 := blk_frozen HPB3.out 3
    have p4 : W3.cell? ⟨(w.heap.size + 1), 4, none⟩ = some (.slice A d.length c) := (blk_cell HPB3.out 4).trans rfl
    have pf4 := blk_frozen HPB3.out 4
    have pl := blk_lt HPB3.out
    by_cases h4 : (4096 : Int) < (l.length : Int)
    · have HPC : Aside0 (partC false text fin 1 [] d = 1009) := ⟨by unfold partC; rw [if_neg (by first | decide | (simp; done)), if_pos (by have := HLEN.out; omega)]⟩
      have h4n : 4096 < l.length := by omega
      go_wp2_with fail
      refine (ref_bad 1009 B _).mono ?_
      rintro e w7 ⟨An, cn, rfl, _, _, hb⟩
      have HB7 := Aside0.mk (below_step HB3.out hb)
      have HRG7 := Aside0.mk (blk_below HRG3.out hb)
      have HRN7 := Aside0.mk (blk_below HRN3.out hb)
      clear hb
      have r0 : w7.cell? ⟨(w.heap.size + 1 + 1), 0, none⟩ = some (.string (⟨#[]⟩ : ByteArray)) := (blk_cell HRG7.out 0).trans rfl
      have rf0 := blk_frozen HRG7.out 0
      have r1 : w7.cell? ⟨(w.heap.size + 1 + 1), 1, none⟩ = some (.bool false) := (blk_cell HRG7.out 1).trans rfl
      have rf1 := blk_frozen HRG7.out 1
      have r2 : w7.cell? ⟨(w.heap.size + 1 + 1), 2, none⟩ = some (.bool false) := (blk_cell HRG7.out 2).trans rfl
      have rf2 := blk_frozen HRG7.out 2
      have r3 : w7.cell? ⟨(w.heap.size + 1 + 1), 3, none⟩ = some (.bool false) := (blk_cell HRG7.out 3).trans rfl
      have rf3 := blk_frozen HRG7.out 3
      have rl := blk_lt HRG7.out
      have n0 : w7.cell? ⟨(w.heap.size + 1 + 1 + 1), 0, none⟩ = some (.int .u8 0) := (blk_cell HRN7.out 0).trans rfl
      have nf0 := blk_frozen HRN7.out 0
      have n1 : w7.cell? ⟨(w.heap.size + 1 + 1 + 1), 1, none⟩ = some (.bool false) := (blk_cell HRN7.out 1).trans rfl
      have nf1 := blk_frozen HRN7.out 1
      have n2 : w7.cell? ⟨(w.heap.size + 1 + 1 + 1), 2, none⟩ = some (.slice none 0 0) := (blk_cell HRN7.out 2).trans rfl
      have nf2 := blk_frozen HRN7.out 2
      have n3 : w7.cell? ⟨(w.heap.size + 1 + 1 + 1), 3, none⟩ = some (.int .u32 0) := (blk_cell HRN7.out 3).trans rfl
      have nf3 := blk_frozen HRN7.out 3
      have nl := blk_lt HRN7.out
      go_wp2_with fail
      exact bodyPost_ret (v := .tuple #[.agg #[.string (⟨#[]⟩ : ByteArray), .bool false, .bool false, .bool true], .agg #[.int .u8 5, .bool false, .slice An 0 cn, .int .u32 1009], .bool true]) (by simp [results, Tryd.results17, go_sem, show strOfNums [] = (⟨#[]⟩ : ByteArray) from rfl, r0, r1, r2, r3, n0, n1, n2, n3]) rfl (.inl ⟨by rw [HPC.out]; decide, HPC.out ▸ ⟨An, cn, rfl, Nat.zero_le _, Rd.zero _ _ _, sets4 (sets4 HB7.out hle2) hle3⟩⟩)
    · have h4n : ¬ 4096 < l.length := by omega
      go_wp2_with fail
      have hgd := louverref15_Good.calls (2 * (strOfNums l).size + 41) (strOfNums l) _ _ W3 (good_f (strOfNums l) (by rw [hzl]; omega) _ (Nat.le_refl _))
      rw [HBS.out] at hgd
      refine hgd.mono ?_
      clear hgd
      rintro e w4 ⟨rfl, hb⟩
      have HGB4 := Aside0.mk (blk_below HGB3.out hb)
      have HPB4 := Aside0.mk (blk_below HPB3.out hb)
      have HRG4 := Aside0.mk (blk_below HRG3.out hb)
      have HRN4 := Aside0.mk (blk_below HRN3.out hb)
      have HNN4 := Aside0.mk (blk_below HNN3.out hb)
      have HB4 := Aside0.mk (below_step HB3.out hb)
      obtain ⟨gd, hgd⟩ : ∃ gd, gd = (feedC s0 l).1 := ⟨_, rfl⟩
      obtain ⟨vl, hvl⟩ : ∃ vl, vl = validC l := ⟨_, rfl⟩
      have HGD := Aside0.mk (show gd < l.length ↔ (feedC s0 l).2.2 = true from by
        rw [hgd]
        have h1 := feedC_le s0 l
        have h2 := feedC_all s0 l
        cases h3 : (feedC s0 l).2.2
        · have := h2.1 h3
          constructor
          · intro h; omega
          · intro h; cases h
        · constructor
          · intro _; rfl
          · intro _
            rcases Nat.lt_or_ge (feedC s0 l).1 l.length with h | h
            · exact h
            · have := h2.2 (by omega)
              rw [this] at h3; cases h3)
      have HVL := Aside0.mk hvl
      rw [← hgd, ← hvl]
      clear hb hgd hvl
      clear g0 gf0 g1 gf1 g2 gf2 g3 gf3 gl
      clear p0 pf0 p1 pf1 p2 pf2 p3 pf3 p4 pf4 pl
      have g0 : w4.cell? ⟨w.heap.size, 0, none⟩ = some (.string (strOfNums l)) := (blk_cell HGB4.out 0).trans rfl
      have gf0 := blk_frozen HGB4.out 0
      have g1 : w4.cell? ⟨w.heap.size, 1, none⟩ = some (.bool true) := (blk_cell HGB4.out 1).trans rfl
      have gf1 := blk_frozen HGB4.out 1
      have g2 : w4.cell? ⟨w.heap.size, 2, none⟩ = some (.bool true) := (blk_cell HGB4.out 2).trans rfl
      have gf2 := blk_frozen HGB4.out 2
      have g3 : w4.cell? ⟨w.heap.size, 3, none⟩ = some (.bool false) := (blk_cell HGB4.out 3).trans rfl
      have gf3 := blk_frozen HGB4.out 3
      have gl := blk_lt HGB4.out
      have p0 : w4.cell? ⟨(w.heap.size + 1), 0, none⟩ = some (.bool fin) := (blk_cell HPB4.out 0).trans rfl
      have pf0 := blk_frozen HPB4.out 0
      have p1 : w4.cell? ⟨(w.heap.size + 1), 1, none⟩ = some (.int .u8 1) := (blk_cell HPB4.out 1).trans rfl
      have pf1 := blk_frozen HPB4.out 1
      have p2 : w4.cell? ⟨(w.heap.size + 1), 2, none⟩ = some (.bool mk) := (blk_cell HPB4.out 2).trans rfl
      have pf2 := blk_frozen HPB4.out 2
      have p3 : w4.cell? ⟨(w.heap.size + 1), 3, none⟩ = some (.int .u32 key) := (blk_cell HPB4.out 3).trans rfl
      have pf3 := blk_frozen HPB4.out 3
      have p4 : w4.cell? ⟨(w.heap.size + 1), 4, none⟩ = some (.slice A d.length c) := (blk_cell HPB4.out 4).trans rfl
      have pf4 := blk_frozen HPB4.out 4
      have pl := blk_lt HPB4.out
      have z0 : w4.cell? ⟨(w.heap.size + 1 + 1 + 1 + 1), 0, none⟩ = some (.int .u8 0) := (blk_cell HNN4.out 0).trans rfl
      have zf0 := blk_frozen HNN4.out 0
      have z1 : w4.cell? ⟨(w.heap.size + 1 + 1 + 1 + 1), 1, none⟩ = some (.bool false) := (blk_cell HNN4.out 1).trans rfl
      have zf1 := blk_frozen HNN4.out 1
      have z2 : w4.cell? ⟨(w.heap.size + 1 + 1 + 1 + 1), 2, none⟩ = some (.slice none 0 0) := (blk_cell HNN4.out 2).trans rfl
      have zf2 := blk_frozen HNN4.out 2
      have z3 : w4.cell? ⟨(w.heap.size + 1 + 1 + 1 + 1), 3, none⟩ = some (.int .u32 0) := (blk_cell HNN4.out 3).trans rfl
      have zf3 := blk_frozen HNN4.out 3
      have zl := blk_lt HNN4.out
      by_cases hgb : gd < l.length
      · have hgb2 : (gd : Int) < (l.length : Int) := by omega
        have HPC : Aside0 (partC false text fin 1 [] d = 1007) := ⟨by rw [partC_val HLL.out (by rfl) (by have := HLEN.out; omega) HTN.out, if_pos ⟨rfl, .inl (HGD.out.1 hgb)⟩]⟩
        go_wp2_with fail
        refine (ref_bad 1007 B _).mono ?_
        rintro e w7 ⟨An, cn, rfl, _, _, hb⟩
        have HB7 := Aside0.mk (below_step HB4.out hb)
        have HRG7 := Aside0.mk (blk_below HRG4.out hb)
        have HRN7 := Aside0.mk (blk_below HRN4.out hb)
        clear hb
        have r0 : w7.cell? ⟨(w.heap.size + 1 + 1), 0, none⟩ = some (.string (⟨#[]⟩ : ByteArray)) := (blk_cell HRG7.out 0).trans rfl
        have rf0 := blk_frozen HRG7.out 0
        have r1 : w7.cell? ⟨(w.heap.size + 1 + 1), 1, none⟩ = some (.bool false) := (blk_cell HRG7.out 1).trans rfl
        have rf1 := blk_frozen HRG7.out 1
        have r2 : w7.cell? ⟨(w.heap.size + 1 + 1), 2, none⟩ = some (.bool false) := (blk_cell HRG7.out 2).trans rfl
        have rf2 := blk_frozen HRG7.out 2
        have r3 : w7.cell? ⟨(w.heap.size + 1 + 1), 3, none⟩ = some (.bool false) := (blk_cell HRG7.out 3).trans rfl
        have rf3 := blk_frozen HRG7.out 3
        have rl := blk_lt HRG7.out
        have n0 : w7.cell? ⟨(w.heap.size + 1 + 1 + 1), 0, none⟩ = some (.int .u8 0) := (blk_cell HRN7.out 0).trans rfl
        have nf0 := blk_frozen HRN7.out 0
        have n1 : w7.cell? ⟨(w.heap.size + 1 + 1 + 1), 1, none⟩ = some (.bool false) := (blk_cell HRN7.out 1).trans rfl
        have nf1 := blk_frozen HRN7.out 1
        have n2 : w7.cell? ⟨(w.heap.size + 1 + 1 + 1), 2, none⟩ = some (.slice none 0 0) := (blk_cell HRN7.out 2).trans rfl
        have nf2 := blk_frozen HRN7.out 2
        have n3 : w7.cell? ⟨(w.heap.size + 1 + 1 + 1), 3, none⟩ = some (.int .u32 0) := (blk_cell HRN7.out 3).trans rfl
        have nf3 := blk_frozen HRN7.out 3
        have nl := blk_lt HRN7.out
        go_wp2_with fail
        exact bodyPost_ret (v := .tuple #[.agg #[.string (⟨#[]⟩ : ByteArray), .bool false, .bool false, .bool true], .agg #[.int .u8 5, .bool false, .slice An 0 cn, .int .u32 1007], .bool true]) (by simp [results, Tryd.results17, go_sem, show strOfNums [] = (⟨#[]⟩ : ByteArray) from rfl, r0, r1, r2, r3, n0, n1, n2, n3]) rfl (.inl ⟨by rw [HPC.out]; decide, HPC.out ▸ ⟨An, cn, rfl, Nat.zero_le _, Rd.zero _ _ _, sets4 (sets4 HB7.out hle2) hle3⟩⟩)
      · have hgb2 : ¬ (gd : Int) < (l.length : Int) := by omega
        cases fin with
        | false =>
          have HPC : Aside0 (partC false text false 1 [] d = 0) := ⟨by rw [partC_val HLL.out (by rfl) (by have := HLEN.out; omega) HTN.out, if_neg (fun h => h.2.elim (fun h => hgb (HGD.out.2 h)) (fun h => by cases h.1))]⟩
          have r0 : w4.cell? ⟨(w.heap.size + 1 + 1), 0, none⟩ = some (.string (⟨#[]⟩ : ByteArray)) := (blk_cell HRG4.out 0).trans rfl
          have rf0 := blk_frozen HRG4.out 0
          have r1 : w4.cell? ⟨(w.heap.size + 1 + 1), 1, none⟩ = some (.bool false) := (blk_cell HRG4.out 1).trans rfl
          have rf1 := blk_frozen HRG4.out 1
          have r2 : w4.cell? ⟨(w.heap.size + 1 + 1), 2, none⟩ = some (.bool false) := (blk_cell HRG4.out 2).trans rfl
          have rf2 := blk_frozen HRG4.out 2
          have r3 : w4.cell? ⟨(w.heap.size + 1 + 1), 3, none⟩ = some (.bool false) := (blk_cell HRG4.out 3).trans rfl
          have rf3 := blk_frozen HRG4.out 3
          have rl := blk_lt HRG4.out
          have n0 : w4.cell? ⟨(w.heap.size + 1 + 1 + 1), 0, none⟩ = some (.int .u8 0) := (blk_cell HRN4.out 0).trans rfl
          have nf0 := blk_frozen HRN4.out 0
          have n1 : w4.cell? ⟨(w.heap.size + 1 + 1 + 1), 1, none⟩ = some (.bool false) := (blk_cell HRN4.out 1).trans rfl
          have nf1 := blk_frozen HRN4.out 1
          have n2 : w4.cell? ⟨(w.heap.size + 1 + 1 + 1), 2, none⟩ = some (.slice none 0 0) := (blk_cell HRN4.out 2).trans rfl
          have nf2 := blk_frozen HRN4.out 2
          have n3 : w4.cell? ⟨(w.heap.size + 1 + 1 + 1), 3, none⟩ = some (.int .u32 0) := (blk_cell HRN4.out 3).trans rfl
          have nf3 := blk_frozen HRN4.out 3
          have nl := blk_lt HRN4.out
          go_upto_region 26 with fail
          refine wp_region_noPanic ?_
          refine wp_region_held_drew (S := fun w' => Aside0 True ∧ w'.cell? ⟨w.heap.size, 0, none⟩ = some (.string (strOfNums l)) ∧ w'.cell? ⟨w.heap.size, 1, none⟩ = some (.bool true) ∧ w'.cell? ⟨w.heap.size, 2, none⟩ = some (.bool true) ∧ w'.cell? ⟨w.heap.size, 3, none⟩ = some (.bool false) ∧ w'.cell? ⟨w.heap.size + 1 + 1 + 1 + 1, 0, none⟩ = some (.int .u8 0) ∧ w'.cell? ⟨w.heap.size + 1 + 1 + 1 + 1, 1, none⟩ = some (.bool false) ∧ w'.cell? ⟨w.heap.size + 1 + 1 + 1 + 1, 2, none⟩ = some (.slice none 0 0) ∧ w'.cell? ⟨w.heap.size + 1 + 1 + 1 + 1, 3, none⟩ = some (.int .u32 0)) (by kernel_rfl) ⟨⟨trivial⟩, (blk_cell (blk_drew HGB4.out) 0).trans rfl, (blk_cell (blk_drew HGB4.out) 1).trans rfl, (blk_cell (blk_drew HGB4.out) 2).trans rfl, (blk_cell (blk_drew HGB4.out) 3).trans rfl, (blk_cell (blk_drew HNN4.out) 0).trans rfl, (blk_cell (blk_drew HNN4.out) 1).trans rfl, (blk_cell (blk_drew HNN4.out) 2).trans rfl, (blk_cell (blk_drew HNN4.out) 3).trans rfl⟩ (fun hHeld => ?_)
          refine takeN (i := 0) (N := (some 119)) (v := ?v55) (a' := ?a55) rfl rfl (by kernel_rfl) (by kernel_rfl) (by kernel_rfl) (fun _ _ _ h => h) (Or.inl ⟨by rfl, ?hy55⟩) ?ha55 (by assumption) ?rest55
          case hy55 =>
            intro w_ hSw_
            go_simp
            first | done | (with_reducible rfl)
          case ha55 =>
            simp only [Act.put, List.setIfInBounds_toArray, List.set_cons_zero, List.set_cons_succ]
            rfl
          refine takeN (i := 1) (N := (some 120)) (v := ?v56) (a' := ?a56) rfl rfl (by kernel_rfl) (by kernel_rfl) (by kernel_rfl) (fun _ _ _ h => h) (Or.inl ⟨by rfl, ?hy56⟩) ?ha56 (by assumption) ?rest56
          case hy56 =>
            intro w_ hSw_
            go_simp
            first | done | (with_reducible rfl)
          case ha56 =>
            simp only [Act.put, List.setIfInBounds_toArray, List.set_cons_zero, List.set_cons_succ]
            rfl
          refine wpAnyH_ready (rs := [2]) (by kernel_rfl) (by simp) ?_
          refine AllReadyH.cons rfl (fun K hK => ?_) AllReadyH.nil
          go_simp
          refine hK.out _ _ ⟨⟨trivial⟩, (blk_cell ((heap_sets4d (show w.heap.size ≠ w.heap.size + 1 + 1 by omega)).trans HGB4.out) 0).trans rfl, (blk_cell ((heap_sets4d (show w.heap.size ≠ w.heap.size + 1 + 1 by omega)).trans HGB4.out) 1).trans rfl, (blk_cell ((heap_sets4d (show w.heap.size ≠ w.heap.size + 1 + 1 by omega)).trans HGB4.out) 2).trans rfl, (blk_cell ((heap_sets4d (show w.heap.size ≠ w.heap.size + 1 + 1 by omega)).trans HGB4.out) 3).trans rfl, (blk_cell ((heap_sets4d (show w.heap.size + 1 + 1 + 1 + 1 ≠ w.heap.size + 1 + 1 by omega)).trans HNN4.out) 0).trans rfl, (blk_cell ((heap_sets4d (show w.heap.size + 1 + 1 + 1 + 1 ≠ w.heap.size + 1 + 1 by omega)).trans HNN4.out) 1).trans rfl, (blk_cell ((heap_sets4d (show w.heap.size + 1 + 1 + 1 + 1 ≠ w.heap.size + 1 + 1 by omega)).trans HNN4.out) 2).trans rfl, (blk_cell ((heap_sets4d (show w.heap.size + 1 + 1 + 1 + 1 ≠ w.heap.size + 1 + 1 by omega)).trans HNN4.out) 3).trans rfl⟩ (fun hHeld => ?_)
          clear hK K
          try simp only [Act.put, List.setIfInBounds_toArray, List.set_cons_zero, List.set_cons_succ]
          refine wpAnyH_ready (rs := [3]) (by kernel_rfl) (by simp) ?_
          refine AllReadyH.cons rfl (fun K hK => ?_) AllReadyH.nil
          go_simp
          refine hK.out _ _ ⟨⟨trivial⟩, (blk_cell ((heap_sets4d (show w.heap.size ≠ w.heap.size + 1 + 1 + 1 by omega)).trans ((heap_sets4 (show w.heap.size ≠ w.heap.size + 1 + 1 by omega)).trans HGB4.out)) 0).trans rfl, (blk_cell ((heap_sets4d (show w.heap.size ≠ w.heap.size + 1 + 1 + 1 by omega)).trans ((heap_sets4 (show w.heap.size ≠ w.heap.size + 1 + 1 by omega)).trans HGB4.out)) 1).trans rfl, (blk_cell ((heap_sets4d (show w.heap.size ≠ w.heap.size + 1 + 1 + 1 by omega)).trans ((heap_sets4 (show w.heap.size ≠ w.heap.size + 1 + 1 by omega)).trans HGB4.out)) 2).trans rfl, (blk_cell ((heap_sets4d (show w.heap.size ≠ w.heap.size + 1 + 1 + 1 by omega)).trans ((heap_sets4 (show w.heap.size ≠ w.heap.size + 1 + 1 by omega)).trans HGB4.out)) 3).trans rfl, (blk_cell ((heap_sets4d (show w.heap.size + 1 + 1 + 1 + 1 ≠ w.heap.size + 1 + 1 + 1 by omega)).trans ((heap_sets4 (show w.heap.size + 1 + 1 + 1 + 1 ≠ w.heap.size + 1 + 1 by omega)).trans HNN4.out)) 0).trans rfl, (blk_cell ((heap_sets4d (show w.heap.size + 1 + 1 + 1 + 1 ≠ w.heap.size + 1 + 1 + 1 by omega)).trans ((heap_sets4 (show w.heap.size + 1 + 1 + 1 + 1 ≠ w.heap.size + 1 + 1 by omega)).trans HNN4.out)) 1).trans rfl, (blk_cell ((heap_sets4d (show w.heap.size + 1 + 1 + 1 + 1 ≠ w.heap.size + 1 + 1 + 1 by omega)).trans ((heap_sets4 (show w.heap.size + 1 + 1 + 1 + 1 ≠ w.heap.size + 1 + 1 by omega)).trans HNN4.out)) 2).trans rfl, (blk_cell ((heap_sets4d (show w.heap.size + 1 + 1 + 1 + 1 ≠ w.heap.size + 1 + 1 + 1 by omega)).trans ((heap_sets4 (show w.heap.size + 1 + 1 + 1 + 1 ≠ w.heap.size + 1 + 1 by omega)).trans HNN4.out)) 3).trans rfl⟩ (fun hHeld => ?_)
          clear hK K
          try simp only [Act.put, List.setIfInBounds_toArray, List.set_cons_zero, List.set_cons_succ]
          refine takeN (i := 4) (N := (some 6)) (v := ?v57) (a' := ?a57) rfl rfl (by kernel_rfl) (by kernel_rfl) (by kernel_rfl) (fun _ _ _ h => h) (Or.inl ⟨by rfl, ?hy57⟩) ?ha57 (by assumption) ?rest57
          case hy57 =>
            intro w_ hSw_
            go_simp
            first | done | (with_reducible rfl)
          case ha57 =>
            simp only [Act.put, List.setIfInBounds_toArray, List.set_cons_zero, List.set_cons_succ]
            rfl
          refine wpAnyH_done (by kernel_rfl) ?_ _
          refine NoPanic.normal ?_
          go_wp2_with fail
          exact bodyPost_ret (v := .tuple #[.agg #[.string (strOfNums l), .bool true, .bool true, .bool false], .agg #[.int .u8 0, .bool false, .slice none 0 0, .int .u32 0], .bool false]) (by simp [results, Tryd.results17, go_sem, show strOfNums [] = (⟨#[]⟩ : ByteArray) from rfl, r0, r1, r2, r3, n0, n1, n2, n3]) rfl (.inr (.inl ⟨HPC.out, rfl, by rw [HTN.out, ← HLL.out]; exact ⟨none, 0, rfl, Nat.le_refl _, Rd.zero _ _ _, below_drew (sets4 (sets4 HB4.out hle2) hle3)⟩⟩))
        | true =>
          cases vl with
          | false =>
            have HPC : Aside0 (partC false text true 1 [] d = 1007) := ⟨by rw [partC_val HLL.out (by rfl) (by have := HLEN.out; omega) HTN.out, if_pos ⟨rfl, .inr ⟨rfl, HVL.out.symm⟩⟩]⟩
            go_wp2_with fail
            refine (ref_bad 1007 B _).mono ?_
            rintro e w7 ⟨An, cn, rfl, _, _, hb⟩
            have HB7 := Aside0.mk (below_step HB4.out hb)
            have HRG7 := Aside0.mk (blk_below HRG4.out hb)
            have HRN7 := Aside0.mk (blk_below HRN4.out hb)
            clear hb
            have r0 : w7.cell? ⟨(w.heap.size + 1 + 1), 0, none⟩ = some (.string (⟨#[]⟩ : ByteArray)) := (blk_cell HRG7.out 0).trans rfl
            have rf0 := blk_frozen HRG7.out 0
            have r1 : w7.cell? ⟨(w.heap.size + 1 + 1), 1, none⟩ = some (.bool false) := (blk_cell HRG7.out 1).trans rfl
            have rf1 := blk_frozen HRG7.out 1
            have r2 : w7.cell? ⟨(w.heap.size + 1 + 1), 2, none⟩ = some (.bool false) := (blk_cell HRG7.out 2).trans rfl
            have rf2 := blk_frozen HRG7.out 2
            have r3 : w7.cell? ⟨(w.heap.size + 1 + 1), 3, none⟩ = some (.bool false) := (blk_cell HRG7.out 3).trans rfl
            have rf3 := blk_frozen HRG7.out 3
            have rl := blk_lt HRG7.out
            have n0 : w7.cell? ⟨(w.heap.size + 1 + 1 + 1), 0, none⟩ = some (.int .u8 0) := (blk_cell HRN7.out 0).trans rfl
            have nf0 := blk_frozen HRN7.out 0
            have n1 : w7.cell? ⟨(w.heap.size + 1 + 1 + 1), 1, none⟩ = some (.bool false) := (blk_cell HRN7.out 1).trans rfl
            have nf1 := blk_frozen HRN7.out 1
            have n2 : w7.cell? ⟨(w.heap.size + 1 + 1 + 1), 2, none⟩ = some (.slice none 0 0) := (blk_cell HRN7.out 2).trans rfl
            have nf2 := blk_frozen HRN7.out 2
            have n3 : w7.cell? ⟨(w.heap.size + 1 + 1 + 1), 3, none⟩ = some (.int .u32 0) := (blk_cell HRN7.out 3).trans rfl
            have nf3 := blk_frozen HRN7.out 3
            have nl := blk_lt HRN7.out
            go_wp2_with fail
            exact bodyPost_ret (v := .tuple #[.agg #[.string (⟨#[]⟩ : ByteArray), .bool false, .bool false, .bool true], .agg #[.int .u8 5, .bool false, .slice An 0 cn, .int .u32 1007], .bool true]) (by simp [results, Tryd.results17, go_sem, show strOfNums [] = (⟨#[]⟩ : ByteArray) from rfl, r0, r1, r2, r3, n0, n1, n2, n3]) rfl (.inl ⟨by rw [HPC.out]; decide, HPC.out ▸ ⟨An, cn, rfl, Nat.zero_le _, Rd.zero _ _ _, sets4 (sets4 HB7.out hle2) hle3⟩⟩)
          | true =>
            have HPC : Aside0 (partC false text true 1 [] d = 0) := ⟨by rw [partC_val HLL.out (by rfl) (by have := HLEN.out; omega) HTN.out, if_neg (fun h => h.2.elim (fun h => hgb (HGD.out.2 h)) (fun h => by rw [← HVL.out] at h; cases h.2))]⟩
            obtain ⟨capf, bw, kb, hcv⟩ := bytes_conv (strOfNums l) (by rw [hzl]; omega) l.length (by rw [HBS.out])
            rw [HBS.out] at hcv
            have HCV := Aside0.mk hcv
            clear hcv
            go_upto_region 27 with fail
            have HBd := Aside0.mk (below_step HB4.out (below_drew (Below.refl _ _)))
            have HGBd := Aside0.mk (blk_drew HGB4.out)
            have HRGd := Aside0.mk (blk_drew HRG4.out)
            have HRNd := Aside0.mk (blk_drew HRN4.out)
            refine wp_region_noPanic ?_
            refine wp_region_held_drew (S := fun w' => Aside0 True ∧ w'.cell? ⟨w.heap.size, 0, none⟩ = some (.string (strOfNums l)) ∧ w'.cell? ⟨w.heap.size, 1, none⟩ = some (.bool true) ∧ w'.cell? ⟨w.heap.size, 2, none⟩ = some (.bool true) ∧ w'.cell? ⟨w.heap.size, 3, none⟩ = some (.bool false)) (by kernel_rfl) ⟨⟨trivial⟩, (blk_cell (HGBd.out) 0).trans rfl, (blk_cell (HGBd.out) 1).trans rfl, (blk_cell (HGBd.out) 2).trans rfl, (blk_cell (HGBd.out) 3).trans rfl⟩ (fun hHeld => ?_)
            refine takeN (i := 0) (N := (some 121)) (v := ?v58) (a' := ?a58) rfl rfl (by kernel_rfl) (by kernel_rfl) (by kernel_rfl) (fun _ _ _ h => h) (Or.inl ⟨by rfl, ?hy58⟩) ?ha58 (by assumption) ?rest58
            case hy58 =>
              intro w_ hSw_
              go_simp
              first | done | (with_reducible rfl)
            case ha58 =>
              simp only [Act.put, List.setIfInBounds_toArray, List.set_cons_zero, List.set_cons_succ]
              rfl
            refine takeN (i := 1) (N := (some 122)) (v := ?v59) (a' := ?a59) rfl rfl (by kernel_rfl) (by kernel_rfl) (by kernel_rfl) (fun _ _ _ h => h) (Or.inl ⟨by rfl, ?hy59⟩) ?ha59 (by assumption) ?rest59
            case hy59 =>
              intro w_ hSw_
              go_simp
              first | done | (with_reducible rfl)
            case ha59 =>
              simp only [Act.put, List.setIfInBounds_toArray, List.set_cons_zero, List.set_cons_succ]
              rfl
            refine takeN (i := 2) (N := (some 123)) (v := ?v60) (a' := ?a60) rfl rfl (by kernel_rfl) (by kernel_rfl) (by kernel_rfl) (fun _ _ _ h => h) (Or.inl ⟨by rfl, ?hy60⟩) ?ha60 (by assumption) ?rest60
            case hy60 =>
              intro w_ hSw_
              go_simp
              first | done | (with_reducible rfl)
            case ha60 =>
              simp only [Act.put, List.setIfInBounds_toArray, List.set_cons_zero, List.set_cons_succ]
              rfl
            refine takeN (i := 3) (N := (some 124)) (v := ?v61) (a' := ?a61) rfl rfl (by kernel_rfl) (by kernel_rfl) (by kernel_rfl) (fun _ _ _ h => h) (Or.inl ⟨by rfl, ?hy61⟩) ?ha61 (by assumption) ?rest61
            case hy61 =>
              intro w_ hSw_
              go_simp
              first | done | (with_reducible rfl)
            case ha61 =>
              simp only [Act.put, List.setIfInBounds_toArray, List.set_cons_zero, List.set_cons_succ]
              rfl
            refine takeN (i := 4) (N := (some 125)) (v := ?v62) (a' := ?a62) rfl rfl (by kernel_rfl) (by kernel_rfl) (by kernel_rfl) (fun _ _ _ h => h) (Or.inl ⟨by rfl, ?hy62⟩) ?ha62 (by assumption) ?rest62
            case hy62 =>
              intro w_ hSw_
              go_simp
              first | done | (with_reducible rfl)
            case ha62 =>
              simp only [Act.put, List.setIfInBounds_toArray, List.set_cons_zero, List.set_cons_succ]
              rfl
            generalize w4.drew = Wd at hHeld HBd HGBd HRGd HRNd ⊢
            refine wpAnyH_ready (rs := [5, 7]) (by kernel_rfl) (by simp) ?_
            refine AllReadyH.cons rfl (fun K hK => ?_) (AllReadyH.cons rfl (fun K hK => ?_) AllReadyH.nil)
            · go_simp
              refine hK.out _ _ ⟨⟨trivial⟩, (blk_cell (blk_below HGBd.out (HCV.out.1 Wd)) 0).trans rfl, (blk_cell (blk_below HGBd.out (HCV.out.1 Wd)) 1).trans rfl, (blk_cell (blk_below HGBd.out (HCV.out.1 Wd)) 2).trans rfl, (blk_cell (blk_below HGBd.out (HCV.out.1 Wd)) 3).trans rfl⟩ (fun hHeld => ?_)
              clear hK K
              try simp only [Act.put, List.setIfInBounds_toArray, List.set_cons_zero, List.set_cons_succ]
              have hbb := HCV.out.1 Wd
              have HB5 := Aside0.mk (below_step HBd.out hbb)
              have HGB5 := Aside0.mk (blk_below HGBd.out hbb)
              have HRG5 := Aside0.mk (blk_below HRGd.out hbb)
              have HRN5 := Aside0.mk (blk_below HRNd.out hbb)
              have HCQ := Aside0.mk (HCV.out.2.2.1 Wd)
              have HC5 := Aside0.mk (HCV.out.2.1 Wd)
              have HQ5 := Aside0.mk (blk_lt HRNd.out)
              obtain ⟨csq, frq, htq⟩ := HCV.out.2.2.2 Wd
              have HRD5 : Aside0 (Rd B (bw Wd) (some ⟨Wd.heap.size, 0, none⟩) l) := ⟨Rd.of_new HC5.out htq⟩
              generalize bw Wd = w5 at hHeld hbb HC5 HRD5 htq HB5 HGB5 HRG5 HRN5 ⊢
              generalize capf Wd = cq at HCQ ⊢
              generalize Wd.heap.size = q at HC5 HQ5 HRD5 htq ⊢
              clear hbb htq
              refine takeN (i := 6) (N := (some 127)) (v := ?v63) (a' := ?a63) rfl rfl (by kernel_rfl) (by kernel_rfl) (by kernel_rfl) (fun _ _ _ h => h) (Or.inl ⟨by rfl, ?hy63⟩) ?ha63 (by assumption) ?rest63
              case hy63 =>
                intro w_ hSw_
                go_simp
                first | done | (with_reducible rfl)
              case ha63 =>
                simp only [Act.put, List.setIfInBounds_toArray, List.set_cons_zero, List.set_cons_succ]
                rfl
              have r0 : w5.cell? ⟨(w.heap.size + 1 + 1), 0, none⟩ = some (.string (⟨#[]⟩ : ByteArray)) := (blk_cell HRG5.out 0).trans rfl
              have rf0 := blk_frozen HRG5.out 0
              have r1 : w5.cell? ⟨(w.heap.size + 1 + 1), 1, none⟩ = some (.bool false) := (blk_cell HRG5.out 1).trans rfl
              have rf1 := blk_frozen HRG5.out 1
              have r2 : w5.cell? ⟨(w.heap.size + 1 + 1), 2, none⟩ = some (.bool false) := (blk_cell HRG5.out 2).trans rfl
              have rf2 := blk_frozen HRG5.out 2
              have r3 : w5.cell? ⟨(w.heap.size + 1 + 1), 3, none⟩ = some (.bool false) := (blk_cell HRG5.out 3).trans rfl
              have rf3 := blk_frozen HRG5.out 3
              have rl := blk_lt HRG5.out
              have n0 : w5.cell? ⟨(w.heap.size + 1 + 1 + 1), 0, none⟩ = some (.int .u8 0) := (blk_cell HRN5.out 0).trans rfl
              have nf0 := blk_frozen HRN5.out 0
              have n1 : w5.cell? ⟨(w.heap.size + 1 + 1 + 1), 1, none⟩ = some (.bool false) := (blk_cell HRN5.out 1).trans rfl
              have nf1 := blk_frozen HRN5.out 1
              have n2 : w5.cell? ⟨(w.heap.size + 1 + 1 + 1), 2, none⟩ = some (.slice none 0 0) := (blk_cell HRN5.out 2).trans rfl
              have nf2 := blk_frozen HRN5.out 2
              have n3 : w5.cell? ⟨(w.heap.size + 1 + 1 + 1), 3, none⟩ = some (.int .u32 0) := (blk_cell HRN5.out 3).trans rfl
              have nf3 := blk_frozen HRN5.out 3
              have nl := blk_lt HRN5.out
              refine wpAnyH_ready (rs := [7]) (by kernel_rfl) (by simp) ?_
              refine AllReadyH.cons rfl (fun K hK => ?_) AllReadyH.nil
              go_simp
              refine hK.out _ _ ⟨⟨trivial⟩, (blk_cell ((heap_sets4 (show w.heap.size ≠ w.heap.size + 1 + 1 by omega)).trans HGB5.out) 0).trans rfl, (blk_cell ((heap_sets4 (show w.heap.size ≠ w.heap.size + 1 + 1 by omega)).trans HGB5.out) 1).trans rfl, (blk_cell ((heap_sets4 (show w.heap.size ≠ w.heap.size + 1 + 1 by omega)).trans HGB5.out) 2).trans rfl, (blk_cell ((heap_sets4 (show w.heap.size ≠ w.heap.size + 1 + 1 by omega)).trans HGB5.out) 3).trans rfl⟩ (fun hHeld => ?_)
              clear hK K
              try simp only [Act.put, List.setIfInBounds_toArray, List.set_cons_zero, List.set_cons_succ]
              refine wpAnyH_ready (rs := [8]) (by kernel_rfl) (by simp) ?_
              refine AllReadyH.cons rfl (fun K hK => ?_) AllReadyH.nil
              go_simp
              refine hK.out _ _ ⟨⟨trivial⟩, (blk_cell ((heap_sets4 (show w.heap.size ≠ w.heap.size + 1 + 1 + 1 by omega)).trans ((heap_sets4 (show w.heap.size ≠ w.heap.size + 1 + 1 by omega)).trans HGB5.out)) 0).trans rfl, (blk_cell ((heap_sets4 (show w.heap.size ≠ w.heap.size + 1 + 1 + 1 by omega)).trans ((heap_sets4 (show w.heap.size ≠ w.heap.size + 1 + 1 by omega)).trans HGB5.out)) 1).trans rfl, (blk_cell ((heap_sets4 (show w.heap.size ≠ w.heap.size + 1 + 1 + 1 by omega)).trans ((heap_sets4 (show w.heap.size ≠ w.heap.size + 1 + 1 by omega)).trans HGB5.out)) 2).trans rfl, (blk_cell ((heap_sets4 (show w.heap.size ≠ w.heap.size + 1 + 1 + 1 by omega)).trans ((heap_sets4 (show w.heap.size ≠ w.heap.size + 1 + 1 by omega)).trans HGB5.out)) 3).trans rfl⟩ (fun hHeld => ?_)
              clear hK K
              try simp only [Act.put, List.setIfInBounds_toArray, List.set_cons_zero, List.set_cons_succ]
              refine takeN (i := 9) (N := (some 6)) (v := ?v64) (a' := ?a64) rfl rfl (by kernel_rfl) (by kernel_rfl) (by kernel_rfl) (fun _ _ _ h => h) (Or.inl ⟨by rfl, ?hy64⟩) ?ha64 (by assumption) ?rest64
              case hy64 =>
                intro w_ hSw_
                go_simp
                first | done | (with_reducible rfl)
              case ha64 =>
                simp only [Act.put, List.setIfInBounds_toArray, List.set_cons_zero, List.set_cons_succ]
                rfl
              refine wpAnyH_done (by kernel_rfl) ?_ _
              refine NoPanic.normal ?_
              go_wp2_with fail
              exact bodyPost_ret (v := .tuple #[.agg #[.string (⟨#[]⟩ : ByteArray), .bool false, .bool false, .bool false], .agg #[.int .u8 1, .bool true, .slice (some ⟨q, 0, none⟩) l.length cq, .int .u32 0], .bool true]) (by simp [results, Tryd.results17, go_sem, show strOfNums [] = (⟨#[]⟩ : ByteArray) from rfl, r0, r1, r2, r3, n0, n1, n2, n3]) rfl (.inr (.inr ⟨HPC.out, rfl, by rw [HTN.out, ← HLL.out]; exact ⟨some ⟨q, 0, none⟩, cq, rfl, HCQ.out, Rd.off4 (Rd.off4 HRD5.out HRG5.out (by decide) (by omega)) ((heap_sets4 (show w.heap.size + 1 + 1 + 1 ≠ w.heap.size + 1 + 1 by omega)).trans HRN5.out) (by decide) (by omega), sets4 (sets4 HB5.out hle2) hle3⟩⟩))
            · have r0 : Wd.cell? ⟨(w.heap.size + 1 + 1), 0, none⟩ = some (.string (⟨#[]⟩ : ByteArray)) := (blk_cell HRGd.out 0).trans rfl
              have rf0 := blk_frozen HRGd.out 0
              have r1 : Wd.cell? ⟨(w.heap.size + 1 + 1), 1, none⟩ = some (.bool false) := (blk_cell HRGd.out 1).trans rfl
              have rf1 := blk_frozen HRGd.out 1
              have r2 : Wd.cell? ⟨(w.heap.size + 1 + 1), 2, none⟩ = some (.bool false) := (blk_cell HRGd.out 2).trans rfl
              have rf2 := blk_frozen HRGd.out 2
              have r3 : Wd.cell? ⟨(w.heap.size + 1 + 1), 3, none⟩ = some (.bool false) := (blk_cell HRGd.out 3).trans rfl
              have rf3 := blk_frozen HRGd.out 3
              have rl := blk_lt HRGd.out
              go_simp
              refine hK.out _ _ ⟨⟨trivial⟩, (blk_cell ((heap_sets4 (show w.heap.size ≠ w.heap.size + 1 + 1 by omega)).trans HGBd.out) 0).trans rfl, (blk_cell ((heap_sets4 (show w.heap.size ≠ w.heap.size + 1 + 1 by omega)).trans HGBd.out) 1).trans rfl, (blk_cell ((heap_sets4 (show w.heap.size ≠ w.heap.size + 1 + 1 by omega)).trans HGBd.out) 2).trans rfl, (blk_cell ((heap_sets4 (show w.heap.size ≠ w.heap.size + 1 + 1 by omega)).trans HGBd.out) 3).trans rfl⟩ (fun hHeld => ?_)
              clear hK K
              try simp only [Act.put, List.setIfInBounds_toArray, List.set_cons_zero, List.set_cons_succ]
              have HBe := Aside0.mk (show Below w.heap.size w ((((Wd.setCell ⟨(w.heap.size + 1 + 1), 0, none⟩ (.string (⟨#[]⟩ : ByteArray))).setCell ⟨(w.heap.size + 1 + 1), 1, none⟩ (.bool false)).setCell ⟨(w.heap.size + 1 + 1), 2, none⟩ (.bool false)).setCell ⟨(w.heap.size + 1 + 1), 3, none⟩ (.bool false)) from sets4 HBd.out hle2)
              have HGBe := Aside0.mk (show ((((Wd.setCell ⟨(w.heap.size + 1 + 1), 0, none⟩ (.string (⟨#[]⟩ : ByteArray))).setCell ⟨(w.heap.size + 1 + 1), 1, none⟩ (.bool false)).setCell ⟨(w.heap.size + 1 + 1), 2, none⟩ (.bool false)).setCell ⟨(w.heap.size + 1 + 1), 3, none⟩ (.bool false)).heap[w.heap.size]? = some (.cells #[.string (strOfNums l), .bool true, .bool true, .bool false] 40 (0, 0)) from (heap_sets4 (by omega)).trans HGBd.out)
              have HRGe := Aside0.mk (show ((((Wd.setCell ⟨(w.heap.size + 1 + 1), 0, none⟩ (.string (⟨#[]⟩ : ByteArray))).setCell ⟨(w.heap.size + 1 + 1), 1, none⟩ (.bool false)).setCell ⟨(w.heap.size + 1 + 1), 2, none⟩ (.bool false)).setCell ⟨(w.heap.size + 1 + 1), 3, none⟩ (.bool false)).heap[w.heap.size + 1 + 1]? = some (.cells #[.string (⟨#[]⟩ : ByteArray), .bool false, .bool false, .bool false] 40 (0, 0)) from (blk_put (blk_put (blk_put (blk_put HRGd.out 0 (.string (⟨#[]⟩ : ByteArray)) rfl) 1 (.bool false) rfl) 2 (.bool false) rfl) 3 (.bool false) rfl))
              have HRNe := Aside0.mk (show ((((Wd.setCell ⟨(w.heap.size + 1 + 1), 0, none⟩ (.string (⟨#[]⟩ : ByteArray))).setCell ⟨(w.heap.size + 1 + 1), 1, none⟩ (.bool false)).setCell ⟨(w.heap.size + 1 + 1), 2, none⟩ (.bool false)).setCell ⟨(w.heap.size + 1 + 1), 3, none⟩ (.bool false)).heap[w.heap.size + 1 + 1 + 1]? = some (.cells #[.int .u8 0, .bool false, .slice none 0 0, .int .u32 0] 30 (0, 0)) from (heap_sets4 (by omega)).trans HRNd.out)
              generalize ((((Wd.setCell ⟨(w.heap.size + 1 + 1), 0, none⟩ (.string (⟨#[]⟩ : ByteArray))).setCell ⟨(w.heap.size + 1 + 1), 1, none⟩ (.bool false)).setCell ⟨(w.heap.size + 1 + 1), 2, none⟩ (.bool false)).setCell ⟨(w.heap.size + 1 + 1), 3, none⟩ (.bool false)) = We at hHeld HBe HGBe HRGe HRNe ⊢
              clear r0 rf0 r1 rf1 r2 rf2 r3 rf3 rl
              refine wpAnyH_ready (rs := [5]) (by kernel_rfl) (by simp) ?_
              refine AllReadyH.cons rfl (fun K hK => ?_) AllReadyH.nil
              go_simp
              refine hK.out _ _ ⟨⟨trivial⟩, (blk_cell (blk_below HGBe.out (HCV.out.1 We)) 0).trans rfl, (blk_cell (blk_below HGBe.out (HCV.out.1 We)) 1).trans rfl, (blk_cell (blk_below HGBe.out (HCV.out.1 We)) 2).trans rfl, (blk_cell (blk_below HGBe.out (HCV.out.1 We)) 3).trans rfl⟩ (fun hHeld => ?_)
              clear hK K
              try simp only [Act.put, List.setIfInBounds_toArray, List.set_cons_zero, List.set_cons_succ]
              have hbb := HCV.out.1 We
              have HB5 := Aside0.mk (below_step HBe.out hbb)
              have HGB5 := Aside0.mk (blk_below HGBe.out hbb)
              have HRG5 := Aside0.mk (blk_below HRGe.out hbb)
              have HRN5 := Aside0.mk (blk_below HRNe.out hbb)
              have HCQ := Aside0.mk (HCV.out.2.2.1 We)
              have HC5 := Aside0.mk (HCV.out.2.1 We)
              have HQ5 := Aside0.mk (blk_lt HRNe.out)
              obtain ⟨csq, frq, htq⟩ := HCV.out.2.2.2 We
              have HRD5 : Aside0 (Rd B (bw We) (some ⟨We.heap.size, 0, none⟩) l) := ⟨Rd.of_new HC5.out htq⟩
              generalize bw We = w5 at hHeld hbb HC5 HRD5 htq HB5 HGB5 HRG5 HRN5 ⊢
              generalize capf We = cq at HCQ ⊢
              generalize We.heap.size = q at HC5 HQ5 HRD5 htq ⊢
              clear hbb htq
              refine takeN (i := 6) (N := (some 127)) (v := ?v65) (a' := ?a65) rfl rfl (by kernel_rfl) (by kernel_rfl) (by kernel_rfl) (fun _ _ _ h => h) (Or.inl ⟨by rfl, ?hy65⟩) ?ha65 (by assumption) ?rest65
              case hy65 =>
                intro w_ hSw_
                go_simp
                first | done | (with_reducible rfl)
              case ha65 =>
                simp only [Act.put, List.setIfInBounds_toArray, List.set_cons_zero, List.set_cons_succ]
                rfl
              have r0 : w5.cell? ⟨(w.heap.size + 1 + 1), 0, none⟩ = some (.string (⟨#[]⟩ : ByteArray)) := (blk_cell HRG5.out 0).trans rfl
              have rf0 := blk_frozen HRG5.out 0
              have r1 : w5.cell? ⟨(w.heap.size + 1 + 1), 1, none⟩ = some (.bool false) := (blk_cell HRG5.out 1).trans rfl
              have rf1 := blk_frozen HRG5.out 1
              have r2 : w5.cell? ⟨(w.heap.size + 1 + 1), 2, none⟩ = some (.bool false) := (blk_cell HRG5.out 2).trans rfl
              have rf2 := blk_frozen HRG5.out 2
              have r3 : w5.cell? ⟨(w.heap.size + 1 + 1), 3, none⟩ = some (.bool false) := (blk_cell HRG5.out 3).trans rfl
              have rf3 := blk_frozen HRG5.out 3
              have rl := blk_lt HRG5.out
              have n0 : w5.cell? ⟨(w.heap.size + 1 + 1 + 1), 0, none⟩ = some (.int .u8 0) := (blk_cell HRN5.out 0).trans rfl
              have nf0 := blk_frozen HRN5.out 0
              have n1 : w5.cell? ⟨(w.heap.size + 1 + 1 + 1), 1, none⟩ = some (.bool false) := (blk_cell HRN5.out 1).trans rfl
              have nf1 := blk_frozen HRN5.out 1
              have n2 : w5.cell? ⟨(w.heap.size + 1 + 1 + 1), 2, none⟩ = some (.slice none 0 0) := (blk_cell HRN5.out 2).trans rfl
              have nf2 := blk_frozen HRN5.out 2
              have n3 : w5.cell? ⟨(w.heap.size + 1 + 1 + 1), 3, none⟩ = some (.int .u32 0) := (blk_cell HRN5.out 3).trans rfl
              have nf3 := blk_frozen HRN5.out 3
              have nl := blk_lt HRN5.out
              refine wpAnyH_ready (rs := [8]) (by kernel_rfl) (by simp) ?_
              refine AllReadyH.cons rfl (fun K hK => ?_) AllReadyH.nil
              go_simp
              refine hK.out _ _ ⟨⟨trivial⟩, (blk_cell ((heap_sets4 (show w.heap.size ≠ w.heap.size + 1 + 1 + 1 by omega)).trans HGB5.out) 0).trans rfl, (blk_cell ((heap_sets4 (show w.heap.size ≠ w.heap.size + 1 + 1 + 1 by omega)).trans HGB5.out) 1).trans rfl, (blk_cell ((heap_sets4 (show w.heap.size ≠ w.heap.size + 1 + 1 + 1 by omega)).trans HGB5.out) 2).trans rfl, (blk_cell ((heap_sets4 (show w.heap.size ≠ w.heap.size + 1 + 1 + 1 by omega)).trans HGB5.out) 3).trans rfl⟩ (fun hHeld => ?_)
              clear hK K
              try simp only [Act.put, List.setIfInBounds_toArray, List.set_cons_zero, List.set_cons_succ]
              refine takeN (i := 9) (N := (some 6)) (v := ?v66) (a' := ?a66) rfl rfl (by kernel_rfl) (by kernel_rfl) (by kernel_rfl) (fun _ _ _ h => h) (Or.inl ⟨by rfl, ?hy66⟩) ?ha66 (by assumption) ?rest66
              case hy66 =>
                intro w_ hSw_
                go_simp
                first | done | (with_reducible rfl)
              case ha66 =>
                simp only [Act.put, List.setIfInBounds_toArray, List.set_cons_zero, List.set_cons_succ]
                rfl
              refine wpAnyH_done (by kernel_rfl) ?_ _
              refine NoPanic.normal ?_
              go_wp2_with fail
              exact bodyPost_ret (v := .tuple #[.agg #[.string (⟨#[]⟩ : ByteArray), .bool false, .bool false, .bool false], .agg #[.int .u8 1, .bool true, .slice (some ⟨q, 0, none⟩) l.length cq, .int .u32 0], .bool true]) (by simp [results, Tryd.results17, go_sem, show strOfNums [] = (⟨#[]⟩ : ByteArray) from rfl, r0, r1, r2, r3, n0, n1, n2, n3]) rfl (.inr (.inr ⟨HPC.out, rfl, by rw [HTN.out, ← HLL.out]; exact ⟨some ⟨q, 0, none⟩, cq, rfl, HCQ.out, Rd.off4 (HRD5.out) HRN5.out (by decide) (by omega), sets4 HB5.out hle3⟩⟩))
  | true =>
    have hug := Tryd.underlying40
    have hu30 := Tryd.underlying30
    have hu26 := Tryd.underlying26
    have HC := Aside0.mk hC
    clear hC
    have hle0 : w.heap.size ≤ w.heap.size := by omega
    have hle1 : w.heap.size ≤ w.heap.size + 1 := by omega
    have hle2 : w.heap.size ≤ w.heap.size + 1 + 1 := by omega
    have hle3 : w.heap.size ≤ w.heap.size + 1 + 1 + 1 := by omega
    have hle4 : w.heap.size ≤ w.heap.size + 1 + 1 + 1 + 1 := by omega
    have hb1 : Below w.heap.size w (((((w.alloc (.cells #[.string (strOfNums b), .bool true, .bool text, .bool false] 40)).alloc (.cells #[.bool fin, .int .u8 1, .bool mk, .int .u32 key, .slice A d.length c] 26)).alloc (.cells #[.string (⟨#[]⟩ : ByteArray), .bool false, .bool false, .bool false] 40)).alloc (.cells #[.int .u8 0, .bool false, .slice none 0 0, .int .u32 0] 30)).alloc (.cells #[.int .u8 0, .bool false, .slice none 0 0, .int .u32 0] 30)) := below_alloc (below_alloc (below_alloc (below_alloc (below_alloc (Below.refl _ _) _) _) _) _) _
    have hgb : (((((w.alloc (.cells #[.string (strOfNums b), .bool true, .bool text, .bool false] 40)).alloc (.cells #[.bool fin, .int .u8 1, .bool mk, .int .u32 key, .slice A d.length c] 26)).alloc (.cells #[.string (⟨#[]⟩ : ByteArray), .bool false, .bool false, .bool false] 40)).alloc (.cells #[.int .u8 0, .bool false, .slice none 0 0, .int .u32 0] 30)).alloc (.cells #[.int .u8 0, .bool false, .slice none 0 0, .int .u32 0] 30)).heap[w.heap.size]? = some (.cells #[.string (strOfNums b), .bool true, .bool text, .bool false] 40 (0, 0)) := blk_alloc (blk_alloc (blk_alloc (blk_alloc (last_at _ _ _ (by simp)) _) _) _) _
    have hpb : (((((w.alloc (.cells #[.string (strOfNums b), .bool true, .bool text, .bool false] 40)).alloc (.cells #[.bool fin, .int .u8 1, .bool mk, .int .u32 key, .slice A d.length c] 26)).alloc (.cells #[.string (⟨#[]⟩ : ByteArray), .bool false, .bool false, .bool false] 40)).alloc (.cells #[.int .u8 0, .bool false, .slice none 0 0, .int .u32 0] 30)).alloc (.cells #[.int .u8 0, .bool false, .slice none 0 0, .int .u32 0] 30)).heap[w.heap.size + 1]? = some (.cells #[.bool fin, .int .u8 1, .bool mk, .int .u32 key, .slice A d.length c] 26 (0, 0)) := blk_alloc (blk_alloc (blk_alloc (last_at _ _ _ (by simp)) _) _) _
    have hrg : (((((w.alloc (.cells #[.string (strOfNums b), .bool true, .bool text, .bool false] 40)).alloc (.cells #[.bool fin, .int .u8 1, .bool mk, .int .u32 key, .slice A d.length c] 26)).alloc (.cells #[.string (⟨#[]⟩ : ByteArray), .bool false, .bool false, .bool false] 40)).alloc (.cells #[.int .u8 0, .bool false, .slice none 0 0, .int .u32 0] 30)).alloc (.cells #[.int .u8 0, .bool false, .slice none 0 0, .int .u32 0] 30)).heap[w.heap.size + 1 + 1]? = some (.cells #[.string (⟨#[]⟩ : ByteArray), .bool false, .bool false, .bool false] 40 (0, 0)) := blk_alloc (blk_alloc (last_at _ _ _ (by simp)) _) _
    have hrn : (((((w.alloc (.cells #[.string (strOfNums b), .bool true, .bool text, .bool false] 40)).alloc (.cells #[.bool fin, .int .u8 1, .bool mk, .int .u32 key, .slice A d.length c] 26)).alloc (.cells #[.string (⟨#[]⟩ : ByteArray), .bool false, .bool false, .bool false] 40)).alloc (.cells #[.int .u8 0, .bool false, .slice none 0 0, .int .u32 0] 30)).alloc (.cells #[.int .u8 0, .bool false, .slice none 0 0, .int .u32 0] 30)).heap[w.heap.size + 1 + 1 + 1]? = some (.cells #[.int .u8 0, .bool false, .slice none 0 0, .int .u32 0] 30 (0, 0)) := blk_alloc (last_at _ _ _ (by simp)) _
    have hnn : (((((w.alloc (.cells #[.string (strOfNums b), .bool true, .bool text, .bool false] 40)).alloc (.cells #[.bool fin, .int .u8 1, .bool mk, .int .u32 key, .slice A d.length c] 26)).alloc (.cells #[.string (⟨#[]⟩ : ByteArray), .bool false, .bool false, .bool false] 40)).alloc (.cells #[.int .u8 0, .bool false, .slice none 0 0, .int .u32 0] 30)).alloc (.cells #[.int .u8 0, .bool false, .slice none 0 0, .int .u32 0] 30)).heap[w.heap.size + 1 + 1 + 1 + 1]? = some (.cells #[.int .u8 0, .bool false, .slice none 0 0, .int .u32 0] 30 (0, 0)) := last_at _ _ _ (by simp)
    go_enter Tryd.func17, Tryd.ntmps17
    go_upto_region 2 with fail
    generalize (((((w.alloc (.cells #[.string (strOfNums b), .bool true, .bool text, .bool false] 40)).alloc (.cells #[.bool fin, .int .u8 1, .bool mk, .int .u32 key, .slice A d.length c] 26)).alloc (.cells #[.string (⟨#[]⟩ : ByteArray), .bool false, .bool false, .bool false] 40)).alloc (.cells #[.int .u8 0, .bool false, .slice none 0 0, .int .u32 0] 30)).alloc (.cells #[.int .u8 0, .bool false, .slice none 0 0, .int .u32 0] 30)) = W1 at hb1 hgb hpb hrg hrn hnn ⊢
    have HB1 := Aside0.mk hb1
    have HGB := Aside0.mk hgb
    have HPB := Aside0.mk hpb
    have HRG := Aside0.mk hrg
    have HRN := Aside0.mk hrn
    have HNN := Aside0.mk hnn
    clear hb1 hgb hpb hrg hrn hnn
    have g0 : W1.cell? ⟨w.heap.size, 0, none⟩ = some (.string (strOfNums b)) := (blk_cell HGB.out 0).trans rfl
    have gf0 := blk_frozen HGB.out 0
    have g1 : W1.cell? ⟨w.heap.size, 1, none⟩ = some (.bool true) := (blk_cell HGB.out 1).trans rfl
    have gf1 := blk_frozen HGB.out 1
    have g2 : W1.cell? ⟨w.heap.size, 2, none⟩ = some (.bool text) := (blk_cell HGB.out 2).trans rfl
    have gf2 := blk_frozen HGB.out 2
    have g3 : W1.cell? ⟨w.heap.size, 3, none⟩ = some (.bool false) := (blk_cell HGB.out 3).trans rfl
    have gf3 := blk_frozen HGB.out 3
    have gl := blk_lt HGB.out
    have p0 : W1.cell? ⟨(w.heap.size + 1), 0, none⟩ = some (.bool fin) := (blk_cell HPB.out 0).trans rfl
    have pf0 := blk_frozen HPB.out 0
    have p1 : W1.cell? ⟨(w.heap.size + 1), 1, none⟩ = some (.int .u8 1) := (blk_cell HPB.out 1).trans rfl
    have pf1 := blk_frozen HPB.out 1
    have p2 : W1.cell? ⟨(w.heap.size + 1), 2, none⟩ = some (.bool mk) := (blk_cell HPB.out 2).trans rfl
    have pf2 := blk_frozen HPB.out 2
    have p3 : W1.cell? ⟨(w.heap.size + 1), 3, none⟩ = some (.int .u32 key) := (blk_cell HPB.out 3).trans rfl
    have pf3 := blk_frozen HPB.out 3
    have p4 : W1.cell? ⟨(w.heap.size + 1), 4, none⟩ = some (.slice A d.length c) := (blk_cell HPB.out 4).trans rfl
    have pf4 := blk_frozen HPB.out 4
    have pl := blk_lt HPB.out
    have HPC : Aside0 (partC true text fin 1 b d = 1002) := ⟨by unfold partC; rw [if_pos (by decide)]⟩
    go_wp2_with fail
    refine (ref_bad 1002 B _).mono ?_
    rintro e w7 ⟨An, cn, rfl, _, _, hb⟩
    have HB7 := Aside0.mk (below_step HB1.out hb)
    have HRG7 := Aside0.mk (blk_below HRG.out hb)
    have HRN7 := Aside0.mk (blk_below HRN.out hb)
    clear hb
    have r0 : w7.cell? ⟨(w.heap.size + 1 + 1), 0, none⟩ = some (.string (⟨#[]⟩ : ByteArray)) := (blk_cell HRG7.out 0).trans rfl
    have rf0 := blk_frozen HRG7.out 0
    have r1 : w7.cell? ⟨(w.heap.size + 1 + 1), 1, none⟩ = some (.bool false) := (blk_cell HRG7.out 1).trans rfl
    have rf1 := blk_frozen HRG7.out 1
    have r2 : w7.cell? ⟨(w.heap.size + 1 + 1), 2, none⟩ = some (.bool false) := (blk_cell HRG7.out 2).trans rfl
    have rf2 := blk_frozen HRG7.out 2
    have r3 : w7.cell? ⟨(w.heap.size + 1 + 1), 3, none⟩ = some (.bool false) := (blk_cell HRG7.out 3).trans rfl
    have rf3 := blk_frozen HRG7.out 3
    have rl := blk_lt HRG7.out
    have n0 : w7.cell? ⟨(w.heap.size + 1 + 1 + 1), 0, none⟩ = some (.int .u8 0) := (blk_cell HRN7.out 0).trans rfl
    have nf0 := blk_frozen HRN7.out 0
    have n1 : w7.cell? ⟨(w.heap.size + 1 + 1 + 1), 1, none⟩ = some (.bool false) := (blk_cell HRN7.out 1).trans rfl
    have nf1 := blk_frozen HRN7.out 1
    have n2 : w7.cell? ⟨(w.heap.size + 1 + 1 + 1), 2, none⟩ = some (.slice none 0 0) := (blk_cell HRN7.out 2).trans rfl
    have nf2 := blk_frozen HRN7.out 2
    have n3 : w7.cell? ⟨(w.heap.size + 1 + 1 + 1), 3, none⟩ = some (.int .u32 0) := (blk_cell HRN7.out 3).trans rfl
    have nf3 := blk_frozen HRN7.out 3
    have nl := blk_lt HRN7.out
    go_wp2_with fail
    exact bodyPost_ret (v := .tuple #[.agg #[.string (⟨#[]⟩ : ByteArray), .bool false, .bool false, .bool true], .agg #[.int .u8 5, .bool false, .slice An 0 cn, .int .u32 1002], .bool true]) (by simp [results, Tryd.results17, go_sem, show strOfNums [] = (⟨#[]⟩ : ByteArray) from rfl, r0, r1, r2, r3, n0, n1, n2, n3]) rfl (.inl ⟨by rw [HPC.out]; decide, HPC.out ▸ ⟨An, cn, rfl, Nat.zero_le _, Rd.zero _ _ _, sets4 (sets4 HB7.out hle2) hle3⟩⟩)
set_option maxHeartbeats 8000000 in
set_option maxRecDepth 100000 in
theorem reft_part_2 {b : List Int} {busy text fin mk : Bool} {key : Int} {A : Option Addr} {c : Nat} {d : List Int} {w : World} {B : Nat} (hBw : B ≤ w.heap.size) (hC : Rd B w A d) (hc : d.length ≤ c) (hbf : busy = false → b = []) (hb8 : ∀ x ∈ b, 0 ≤ x ∧ x ≤ 255) (hd8 : ∀ x ∈ d, 0 ≤ x ∧ x ≤ 255) (hbl : b.length ≤ 4096) (hdl : d.length ≤ 1000000000) : Calls Tryd.prog 17 #[gmV b busy text false, .agg #[.bool fin, .int .u8 2, .bool mk, .int .u32 key, .slice A d.length c]] w (PartR B busy text fin 2 b d w) := by
  have HB8 := Aside0.mk hb8
  have HD8 := Aside0.mk hd8
  have HBB := Aside0.mk (bs_str b hb8)
  have HBD := Aside0.mk (bs_str d hd8)
  have HBF := Aside0.mk hbf
  clear hb8 hd8 hbf
  cases busy with
  | false =>
    obtain rfl := HBF.out rfl
    have hug := Tryd.underlying40
    have hu30 := Tryd.underlying30
    have hu26 := Tryd.underlying26
    have HC := Aside0.mk hC
    clear hC
    have hle0 : w.heap.size ≤ w.heap.size := by omega
    have hle1 : w.heap.size ≤ w.heap.size + 1 := by omega
    have hle2 : w.heap.size ≤ w.heap.size + 1 + 1 := by omega
    have hle3 : w.heap.size ≤ w.heap.size + 1 + 1 + 1 := by omega
    have hle4 : w.heap.size ≤ w.heap.size + 1 + 1 + 1 + 1 := by omega
    have hb1 : Below w.heap.size w (((((w.alloc (.cells #[.string (strOfNums []), .bool false, .bool text, .bool false] 40)).alloc (.cells #[.bool fin, .int .u8 2, .bool mk, .int .u32 key, .slice A d.length c] 26)).alloc (.cells #[.string (⟨#[]⟩ : ByteArray), .bool false, .bool false, .bool false] 40)).alloc (.cells #[.int .u8 0, .bool false, .slice none 0 0, .int .u32 0] 30)).alloc (.cells #[.int .u8 0, .bool false, .slice none 0 0, .int .u32 0] 30)) := below_alloc (below_alloc (below_alloc (below_alloc (below_alloc (Below.refl _ _) _) _) _) _) _
    have hgb : (((((w.alloc (.cells #[.string (strOfNums []), .bool false, .bool text, .bool false] 40)).alloc (.cells #[.bool fin, .int .u8 2, .bool mk, .int .u32 key, .slice A d.length c] 26)).alloc (.cells #[.string (⟨#[]⟩ : ByteArray), .bool false, .bool false, .bool false] 40)).alloc (.cells #[.int .u8 0, .bool false, .slice none 0 0, .int .u32 0] 30)).alloc (.cells #[.int .u8 0, .bool false, .slice none 0 0, .int .u32 0] 30)).heap[w.heap.size]? = some (.cells #[.string (strOfNums []), .bool false, .bool text, .bool false] 40 (0, 0)) := blk_alloc (blk_alloc (blk_alloc (blk_alloc (last_at _ _ _ (by simp)) _) _) _) _
    have hpb : (((((w.alloc (.cells #[.string (strOfNums []), .bool false, .bool text, .bool false] 40)).alloc (.cells #[.bool fin, .int .u8 2, .bool mk, .int .u32 key, .slice A d.length c] 26)).alloc (.cells #[.string (⟨#[]⟩ : ByteArray), .bool false, .bool false, .bool false] 40)).alloc (.cells #[.int .u8 0, .bool false, .slice none 0 0, .int .u32 0] 30)).alloc (.cells #[.int .u8 0, .bool false, .slice none 0 0, .int .u32 0] 30)).heap[w.heap.size + 1]? = some (.cells #[.bool fin, .int .u8 2, .bool mk, .int .u32 key, .slice A d.length c] 26 (0, 0)) := blk_alloc (blk_alloc (blk_alloc (last_at _ _ _ (by simp)) _) _) _
    have hrg : (((((w.alloc (.cells #[.string (strOfNums []), .bool false, .bool text, .bool false] 40)).alloc (.cells #[.bool fin, .int .u8 2, .bool mk, .int .u32 key, .slice A d.length c] 26)).alloc (.cells #[.string (⟨#[]⟩ : ByteArray), .bool false, .bool false, .bool false] 40)).alloc (.cells #[.int .u8 0, .bool false, .slice none 0 0, .int .u32 0] 30)).alloc (.cells #[.int .u8 0, .bool false, .slice none 0 0, .int .u32 0] 30)).heap[w.heap.size + 1 + 1]? = some (.cells #[.string (⟨#[]⟩ : ByteArray), .bool false, .bool false, .bool false] 40 (0, 0)) := blk_alloc (blk_alloc (last_at _ _ _ (by simp)) _) _
    have hrn : (((((w.alloc (.cells #[.string (strOfNums []), .bool false, .bool text, .bool false] 40)).alloc (.cells #[.bool fin, .int .u8 2, .bool mk, .int .u32 key, .slice A d.length c] 26)).alloc (.cells #[.string (⟨#[]⟩ : ByteArray), .bool false, .bool false, .bool false] 40)).alloc (.cells #[.int .u8 0, .bool false, .slice none 0 0, .int .u32 0] 30)).alloc (.cells #[.int .u8 0, .bool false, .slice none 0 0, .int .u32 0] 30)).heap[w.heap.size + 1 + 1 + 1]? = some (.cells #[.int .u8 0, .bool false, .slice none 0 0, .int .u32 0] 30 (0, 0)) := blk_alloc (last_at _ _ _ (by simp)) _
    have hnn : (((((w.alloc (.cells #[.string (strOfNums []), .bool false, .bool text, .bool false] 40)).alloc (.cells #[.bool fin, .int .u8 2, .bool mk, .int .u32 key, .slice A d.length c] 26)).alloc (.cells #[.string (⟨#[]⟩ : ByteArray), .bool false, .bool false, .bool false] 40)).alloc (.cells #[.int .u8 0, .bool false, .slice none 0 0, .int .u32 0] 30)).alloc (.cells #[.int .u8 0, .bool false, .slice none 0 0, .int .u32 0] 30)).heap[w.heap.size + 1 + 1 + 1 + 1]? = some (.cells #[.int .u8 0, .bool false, .slice none 0 0, .int .u32 0] 30 (0, 0)) := last_at _ _ _ (by simp)
    go_enter Tryd.func17, Tryd.ntmps17
    go_upto_region 2 with fail
    generalize (((((w.alloc (.cells #[.string (strOfNums []), .bool false, .bool text, .bool false] 40)).alloc (.cells #[.bool fin, .int .u8 2, .bool mk, .int .u32 key, .slice A d.length c] 26)).alloc (.cells #[.string (⟨#[]⟩ : ByteArray), .bool false, .bool false, .bool false] 40)).alloc (.cells #[.int .u8 0, .bool false, .slice none 0 0, .int .u32 0] 30)).alloc (.cells #[.int .u8 0, .bool false, .slice none 0 0, .int .u32 0] 30)) = W1 at hb1 hgb hpb hrg hrn hnn ⊢
    have HB1 := Aside0.mk hb1
    have HGB := Aside0.mk hgb
    have HPB := Aside0.mk hpb
    have HRG := Aside0.mk hrg
    have HRN := Aside0.mk hrn
    have HNN := Aside0.mk hnn
    clear hb1 hgb hpb hrg hrn hnn
    have HTN := Aside0.mk (show textN false text 2 = false from rfl)
    have g0 : W1.cell? ⟨w.heap.size, 0, none⟩ = some (.string (strOfNums [])) := (blk_cell HGB.out 0).trans rfl
    have gf0 := blk_frozen HGB.out 0
    have g1 : W1.cell? ⟨w.heap.size, 1, none⟩ = some (.bool false) := (blk_cell HGB.out 1).trans rfl
    have gf1 := blk_frozen HGB.out 1
    have g2 : W1.cell? ⟨w.heap.size, 2, none⟩ = some (.bool text) := (blk_cell HGB.out 2).trans rfl
    have gf2 := blk_frozen HGB.out 2
    have g3 : W1.cell? ⟨w.heap.size, 3, none⟩ = some (.bool false) := (blk_cell HGB.out 3).trans rfl
    have gf3 := blk_frozen HGB.out 3
    have gl := blk_lt HGB.out
    have p0 : W1.cell? ⟨(w.heap.size + 1), 0, none⟩ = some (.bool fin) := (blk_cell HPB.out 0).trans rfl
    have pf0 := blk_frozen HPB.out 0
    have p1 : W1.cell? ⟨(w.heap.size + 1), 1, none⟩ = some (.int .u8 2) := (blk_cell HPB.out 1).trans rfl
    have pf1 := blk_frozen HPB.out 1
    have p2 : W1.cell? ⟨(w.heap.size + 1), 2, none⟩ = some (.bool mk) := (blk_cell HPB.out 2).trans rfl
    have pf2 := blk_frozen HPB.out 2
    have p3 : W1.cell? ⟨(w.heap.size + 1), 3, none⟩ = some (.int .u32 key) := (blk_cell HPB.out 3).trans rfl
    have pf3 := blk_frozen HPB.out 3
    have p4 : W1.cell? ⟨(w.heap.size + 1), 4, none⟩ = some (.slice A d.length c) := (blk_cell HPB.out 4).trans rfl
    have pf4 := blk_frozen HPB.out 4
    have pl := blk_lt HPB.out
    go_upto_region 19 with fail
    have HGB2 := Aside0.mk (show ((((W1.setCell ⟨w.heap.size, 0, none⟩ (.string (⟨#[]⟩ : ByteArray))).setCell ⟨w.heap.size, 1, none⟩ (.bool true)).setCell ⟨w.heap.size, 2, none⟩ (.bool false)).setCell ⟨w.heap.size, 3, none⟩ (.bool false)).heap[w.heap.size]? = some (.cells #[.string (strOfNums []), .bool true, .bool false, .bool false] 40 (0, 0)) from (blk_put (blk_put (blk_put (blk_put HGB.out 0 (.string (⟨#[]⟩ : ByteArray)) rfl) 1 (.bool true) rfl) 2 (.bool false) rfl) 3 (.bool false) rfl))
    have HPB2 := Aside0.mk (show ((((W1.setCell ⟨w.heap.size, 0, none⟩ (.string (⟨#[]⟩ : ByteArray))).setCell ⟨w.heap.size, 1, none⟩ (.bool true)).setCell ⟨w.heap.size, 2, none⟩ (.bool false)).setCell ⟨w.heap.size, 3, none⟩ (.bool false)).heap[w.heap.size + 1]? = some (.cells #[.bool fin, .int .u8 2, .bool mk, .int .u32 key, .slice A d.length c] 26 (0, 0)) from (heap_sets4 (show w.heap.size + 1 ≠ w.heap.size by omega)).trans HPB.out)
    have HRG2 := Aside0.mk (show ((((W1.setCell ⟨w.heap.size, 0, none⟩ (.string (⟨#[]⟩ : ByteArray))).setCell ⟨w.heap.size, 1, none⟩ (.bool true)).setCell ⟨w.heap.size, 2, none⟩ (.bool false)).setCell ⟨w.heap.size, 3, none⟩ (.bool false)).heap[w.heap.size + 1 + 1]? = some (.cells #[.string (⟨#[]⟩ : ByteArray), .bool false, .bool false, .bool false] 40 (0, 0)) from (heap_sets4 (show w.heap.size + 1 + 1 ≠ w.heap.size by omega)).trans HRG.out)
    have HRN2 := Aside0.mk (show ((((W1.setCell ⟨w.heap.size, 0, none⟩ (.string (⟨#[]⟩ : ByteArray))).setCell ⟨w.heap.size, 1, none⟩ (.bool true)).setCell ⟨w.heap.size, 2, none⟩ (.bool false)).setCell ⟨w.heap.size, 3, none⟩ (.bool false)).heap[w.heap.size + 1 + 1 + 1]? = some (.cells #[.int .u8 0, .bool false, .slice none 0 0, .int .u32 0] 30 (0, 0)) from (heap_sets4 (show w.heap.size + 1 + 1 + 1 ≠ w.heap.size by omega)).trans HRN.out)
    have HNN2 := Aside0.mk (show ((((W1.setCell ⟨w.heap.size, 0, none⟩ (.string (⟨#[]⟩ : ByteArray))).setCell ⟨w.heap.size, 1, none⟩ (.bool true)).setCell ⟨w.heap.size, 2, none⟩ (.bool false)).setCell ⟨w.heap.size, 3, none⟩ (.bool false)).heap[w.heap.size + 1 + 1 + 1 + 1]? = some (.cells #[.int .u8 0, .bool false, .slice none 0 0, .int .u32 0] 30 (0, 0)) from (heap_sets4 (show w.heap.size + 1 + 1 + 1 + 1 ≠ w.heap.size by omega)).trans HNN.out)
    have HB2 := Aside0.mk (show Below w.heap.size w ((((W1.setCell ⟨w.heap.size, 0, none⟩ (.string (⟨#[]⟩ : ByteArray))).setCell ⟨w.heap.size, 1, none⟩ (.bool true)).setCell ⟨w.heap.size, 2, none⟩ (.bool false)).setCell ⟨w.heap.size, 3, none⟩ (.bool false)) from sets4 HB1.out hle0)
    generalize ((((W1.setCell ⟨w.heap.size, 0, none⟩ (.string (⟨#[]⟩ : ByteArray))).setCell ⟨w.heap.size, 1, none⟩ (.bool true)).setCell ⟨w.heap.size, 2, none⟩ (.bool false)).setCell ⟨w.heap.size, 3, none⟩ (.bool false)) = W2 at HGB2 HPB2 HRG2 HRN2 HNN2 HB2 ⊢
    clear g0 gf0 g1 gf1 g2 gf2 g3 gf3 gl
    clear p0 pf0 p1 pf1 p2 pf2 p3 pf3 p4 pf4 pl
    have g0 : W2.cell? ⟨w.heap.size, 0, none⟩ = some (.string (strOfNums [])) := (blk_cell HGB2.out 0).trans rfl
    have gf0 := blk_frozen HGB2.out 0
    have g1 : W2.cell? ⟨w.heap.size, 1, none⟩ = some (.bool true) := (blk_cell HGB2.out 1).trans rfl
    have gf1 := blk_frozen HGB2.out 1
    have g2 : W2.cell? ⟨w.heap.size, 2, none⟩ = some (.bool false) := (blk_cell HGB2.out 2).trans rfl
    have gf2 := blk_frozen HGB2.out 2
    have g3 : W2.cell? ⟨w.heap.size, 3, none⟩ = some (.bool false) := (blk_cell HGB2.out 3).trans rfl
    have gf3 := blk_frozen HGB2.out 3
    have gl := blk_lt HGB2.out
    have p0 : W2.cell? ⟨(w.heap.size + 1), 0, none⟩ = some (.bool fin) := (blk_cell HPB2.out 0).trans rfl
    have pf0 := blk_frozen HPB2.out 0
    have p1 : W2.cell? ⟨(w.heap.size + 1), 1, none⟩ = some (.int .u8 2) := (blk_cell HPB2.out 1).trans rfl
    have pf1 := blk_frozen HPB2.out 1
    have p2 : W2.cell? ⟨(w.heap.size + 1), 2, none⟩ = some (.bool mk) := (blk_cell HPB2.out 2).trans rfl
    have pf2 := blk_frozen HPB2.out 2
    have p3 : W2.cell? ⟨(w.heap.size + 1), 3, none⟩ = some (.int .u32 key) := (blk_cell HPB2.out 3).trans rfl
    have pf3 := blk_frozen HPB2.out 3
    have p4 : W2.cell? ⟨(w.heap.size + 1), 4, none⟩ = some (.slice A d.length c) := (blk_cell HPB2.out 4).trans rfl
    have pf4 := blk_frozen HPB2.out 4
    have pl := blk_lt HPB2.out
    have hcs : (convert 24 9 (.slice A d.length c)).run Tryd.prog W2 = .ok (.string (strOfNums d)) W2 := Kd.C_string Tryd.underlying24 Tryd.underlying5 Tryd.underlying9 (HC.out.below HB2.out hBw).C
    have hsa : strOfNums [] ++ strOfNums d = strOfNums (d) := strx_append _ _
    have hz1 : (strOfNums []).size = ([] : List Int).length := by rw [← bs_length, HBB.out]
    have hz2 : (strOfNums d).size = d.length := by rw [← bs_length, HBD.out]
    have hz3 : ([] : List Int).length + d.length ≤ 1000005000 := by omega
    go_upto_region 20 with fail
    have HGB3 := Aside0.mk (show (W2.setCell ⟨w.heap.size, 0, none⟩ (.string (strOfNums (d)))).heap[w.heap.size]? = some (.cells #[.string (strOfNums (d)), .bool true, .bool false, .bool false] 40 (0, 0)) from blk_put HGB2.out 0 (.string (strOfNums (d))) rfl)
    have HPB3 := Aside0.mk (show (W2.setCell ⟨w.heap.size, 0, none⟩ (.string (strOfNums (d)))).heap[w.heap.size + 1]? = some (.cells #[.bool fin, .int .u8 2, .bool mk, .int .u32 key, .slice A d.length c] 26 (0, 0)) from (Below.heap_setCell _ ⟨w.heap.size, 0, none⟩ _ _ (show w.heap.size + 1 ≠ w.heap.size by omega)).trans HPB2.out)
    have HRG3 := Aside0.mk (show (W2.setCell ⟨w.heap.size, 0, none⟩ (.string (strOfNums (d)))).heap[w.heap.size + 1 + 1]? = some (.cells #[.string (⟨#[]⟩ : ByteArray), .bool false, .bool false, .bool false] 40 (0, 0)) from (Below.heap_setCell _ ⟨w.heap.size, 0, none⟩ _ _ (show w.heap.size + 1 + 1 ≠ w.heap.size by omega)).trans HRG2.out)
    have HRN3 := Aside0.mk (show (W2.setCell ⟨w.heap.size, 0, none⟩ (.string (strOfNums (d)))).heap[w.heap.size + 1 + 1 + 1]? = some (.cells #[.int .u8 0, .bool false, .slice none 0 0, .int .u32 0] 30 (0, 0)) from (Below.heap_setCell _ ⟨w.heap.size, 0, none⟩ _ _ (show w.heap.size + 1 + 1 + 1 ≠ w.heap.size by omega)).trans HRN2.out)
    have HNN3 := Aside0.mk (show (W2.setCell ⟨w.heap.size, 0, none⟩ (.string (strOfNums (d)))).heap[w.heap.size + 1 + 1 + 1 + 1]? = some (.cells #[.int .u8 0, .bool false, .slice none 0 0, .int .u32 0] 30 (0, 0)) from (Below.heap_setCell _ ⟨w.heap.size, 0, none⟩ _ _ (show w.heap.size + 1 + 1 + 1 + 1 ≠ w.heap.size by omega)).trans HNN2.out)
    have HB3 := Aside0.mk (Below.setCell (p := ⟨w.heap.size, 0, none⟩) HB2.out hle0 (.string (strOfNums (d))))
    generalize (W2.setCell ⟨w.heap.size, 0, none⟩ (.string (strOfNums (d)))) = W3 at HGB3 HPB3 HRG3 HRN3 HNN3 HB3 ⊢
    clear hcs hsa hz1 hz2
    clear g0 gf0 g1 gf1 g2 gf2 g3 gf3 gl
    clear p0 pf0 p1 pf1 p2 pf2 p3 pf3 p4 pf4 pl
    obtain ⟨l, hl⟩ : ∃ l, l = d := ⟨_, rfl⟩
    rw [← hl] at HGB3
    have HLL := Aside0.mk hl
    have hlen : l.length = ([] : List Int).length + d.length := by rw [hl]; simp
    have HBS := Aside0.mk (show bs (strOfNums l) = l from bs_str l (fun x hx => by rw [hl] at hx; exact HD8.out x hx))
    have hzl : (strOfNums l).size = l.length := by rw [← bs_length, HBS.out]
    clear hl
    have HLEN := Aside0.mk hlen
    clear hlen
    have g0 : W3.cell? ⟨w.heap.size, 0, none⟩ = some (.string (strOfNums l)) := (blk_cell HGB3.out 0).trans rfl
    have gf0 := blk_frozen HGB3.out 0
    have g1 : W3.cell? ⟨w.heap.size, 1, none⟩ = some (.bool true) := (blk_cell HGB3.out 1).trans rfl
    have gf1 := blk_frozen HGB3.out 1
    have g2 : W3.cell? ⟨w.heap.size, 2, none⟩ = some (.bool false) := (blk_cell HGB3.out 2).trans rfl
    have gf2 := blk_frozen HGB3.out 2
    have g3 : W3.cell? ⟨w.heap.size, 3, none⟩ = some (.bool false) := (blk_cell HGB3.out 3).trans rfl
    have gf3 := blk_frozen HGB3.out 3
    have gl := blk_lt HGB3.out
    have p0 : W3.cell? ⟨(w.heap.size + 1), 0, none⟩ = some (.bool fin) := (blk_cell HPB3.out 0).trans rfl
    have pf0 := blk_frozen HPB3.out 0
    have p1 : W3.cell? ⟨(w.heap.size + 1), 1, none⟩ = some (.int .u8 2) := (blk_cell HPB3.out 1).trans rfl
    have pf1 := blk_frozen HPB3.out 1
    have p2 : W3.cell? ⟨(w.heap.size + 1), 2, none⟩ = some (.bool mk) := (blk_cell HPB3.out 2).trans rfl
    have pf2 := blk_frozen HPB3.out 2
    have p3 : W3.cell? ⟨(w.heap.size + 1), 3, none⟩ = some (.int .u32 key) := (blk_cell HPB3.out 3).trans rfl
    have pf3 := blk_frozen HPB3.out 3
    have p4 : W3.cell? ⟨(w.heap.size + 1), 4, none⟩ = some (.slice A d.length c) := (blk_cell HPB3.out 4).trans rfl
    have pf4 := blk_frozen HPB3.out 4
    have pl := blk_lt HPB3.out
    by_cases h4 : (4096 : Int) < (l.length : Int)
    · have HPC : Aside0 (partC false text fin 2 [] d = 1009) := ⟨by unfold partC; rw [if_neg (by first | decide | (simp; done)), if_pos (by have := HLEN.out; omega)]⟩
      have h4n : 4096 < l.length := by omega
      go_wp2_with fail
      refine (ref_bad 1009 B _).mono ?_
      rintro e w7 ⟨An, cn, rfl, _, _, hb⟩
      have HB7 := Aside0.mk (below_step HB3.out hb)
      have HRG7 := Aside0.mk (blk_below HRG3.out hb)
      have HRN7 := Aside0.mk (blk_below HRN3.out hb)
      clear hb
      have r0 : w7.cell? ⟨(w.heap.size + 1 + 1), 0, none⟩ = some (.string (⟨#[]⟩ : ByteArray)) := (blk_cell HRG7.out 0).trans rfl
      have rf0 := blk_frozen HRG7.out 0
      have r1 : w7.cell? ⟨(w.heap.size + 1 + 1), 1, none⟩ = some (.bool false) := (blk_cell HRG7.out 1).trans rfl
      have rf1 := blk_frozen HRG7.out 1
      have r2 : w7.cell? ⟨(w.heap.size + 1 + 1), 2, none⟩ = some (.bool false) := (blk_cell HRG7.out 2).trans rfl
      have rf2 := blk_frozen HRG7.out 2
      have r3 : w7.cell? ⟨(w.heap.size + 1 + 1), 3, none⟩ = some (.bool false) := (blk_cell HRG7.out 3).trans rfl
      have rf3 := blk_frozen HRG7.out 3
      have rl := blk_lt HRG7.out
      have n0 : w7.cell? ⟨(w.heap.size + 1 + 1 + 1), 0, none⟩ = some (.int .u8 0) := (blk_cell HRN7.out 0).trans rfl
      have nf0 := blk_frozen HRN7.out 0
      have n1 : w7.cell? ⟨(w.heap.size + 1 + 1 + 1), 1, none⟩ = some (.bool false) := (blk_cell HRN7.out 1).trans rfl
      have nf1 := blk_frozen HRN7.out 1
      have n2 : w7.cell? ⟨(w.heap.size + 1 + 1 + 1), 2, none⟩ = some (.slice none 0 0) := (blk_cell HRN7.out 2).trans rfl
      have nf2 := blk_frozen HRN7.out 2
      have n3 : w7.cell? ⟨(w.heap.size + 1 + 1 + 1), 3, none⟩ = some (.int .u32 0) := (blk_cell HRN7.out 3).trans rfl
      have nf3 := blk_frozen HRN7.out 3
      have nl := blk_lt HRN7.out
      go_wp2_with fail
      exact bodyPost_ret (v := .tuple #[.agg #[.string (⟨#[]⟩ : ByteArray), .bool false, .bool false, .bool true], .agg #[.int .u8 5, .bool false, .slice An 0 cn, .int .u32 1009], .bool true]) (by simp [results, Tryd.results17, go_sem, show strOfNums [] = (⟨#[]⟩ : ByteArray) from rfl, r0, r1, r2, r3, n0, n1, n2, n3]) rfl (.inl ⟨by rw [HPC.out]; decide, HPC.out ▸ ⟨An, cn, rfl, Nat.zero_le _, Rd.zero _ _ _, sets4 (sets4 HB7.out hle2) hle3⟩⟩)
    · have h4n : ¬ 4096 < l.length := by omega
      go_wp2_with fail
      have hgd := louverref15_Good.calls (2 * (strOfNums l).size + 41) (strOfNums l) _ _ W3 (good_f (strOfNums l) (by rw [hzl]; omega) _ (Nat.le_refl _))
      rw [HBS.out] at hgd
      refine hgd.mono ?_
      clear hgd
      rintro e w4 ⟨rfl, hb⟩
      have HGB4 := Aside0.mk (blk_below HGB3.out hb)
      have HPB4 := Aside0.mk (blk_below HPB3.out hb)
      have HRG4 := Aside0.mk (blk_below HRG3.out hb)
      have HRN4 := Aside0.mk (blk_below HRN3.out hb)
      have HNN4 := Aside0.mk (blk_below HNN3.out hb)
      have HB4 := Aside0.mk (below_step HB3.out hb)
      obtain ⟨gd, hgd⟩ : ∃ gd, gd = (feedC s0 l).1 := ⟨_, rfl⟩
      obtain ⟨vl, hvl⟩ : ∃ vl, vl = validC l := ⟨_, rfl⟩
      have HGD := Aside0.mk (show gd < l.length ↔ (feedC s0 l).2.2 = true from by
        rw [hgd]
        have h1 := feedC_le s0 l
        have h2 := feedC_all s0 l
        cases h3 : (feedC s0 l).2.2
        · have := h2.1 h3
          constructor
          · intro h; omega
          · intro h; cases h
        · constructor
          · intro _; rfl
          · intro _
            rcases Nat.lt_or_ge (feedC s0 l).1 l.length with h | h
            · exact h
            · have := h2.2 (by omega)
              rw [this] at h3; cases h3)
      have HVL := Aside0.mk hvl
      rw [← hgd, ← hvl]
      clear hb hgd hvl
      clear g0 gf0 g1 gf1 g2 gf2 g3 gf3 gl
      clear p0 pf0 p1 pf1 p2 pf2 p3 pf3 p4 pf4 pl
      have g0 : w4.cell? ⟨w.heap.size, 0, none⟩ = some (.string (strOfNums l)) := (blk_cell HGB4.out 0).trans rfl
      have gf0 := blk_frozen HGB4.out 0
      have g1 : w4.cell? ⟨w.heap.size, 1, none⟩ = some (.bool true) := (blk_cell HGB4.out 1).trans rfl
      have gf1 := blk_frozen HGB4.out 1
      have g2 : w4.cell? ⟨w.heap.size, 2, none⟩ = some (.bool false) := (blk_cell HGB4.out 2).trans rfl
      have gf2 := blk_frozen HGB4.out 2
      have g3 : w4.cell? ⟨w.heap.size, 3, none⟩ = some (.bool false) := (blk_cell HGB4.out 3).trans rfl
      have gf3 := blk_frozen HGB4.out 3
      have gl := blk_lt HGB4.out
      have p0 : w4.cell? ⟨(w.heap.size + 1), 0, none⟩ = some (.bool fin) := (blk_cell HPB4.out 0).trans rfl
      have pf0 := blk_frozen HPB4.out 0
      have p1 : w4.cell? ⟨(w.heap.size + 1), 1, none⟩ = some (.int .u8 2) := (blk_cell HPB4.out 1).trans rfl
      have pf1 := blk_frozen HPB4.out 1
      have p2 : w4.cell? ⟨(w.heap.size + 1), 2, none⟩ = some (.bool mk) := (blk_cell HPB4.out 2).trans rfl
      have pf2 := blk_frozen HPB4.out 2
      have p3 : w4.cell? ⟨(w.heap.size + 1), 3, none⟩ = some (.int .u32 key) := (blk_cell HPB4.out 3).trans rfl
      have pf3 := blk_frozen HPB4.out 3
      have p4 : w4.cell? ⟨(w.heap.size + 1), 4, none⟩ = some (.slice A d.length c) := (blk_cell HPB4.out 4).trans rfl
      have pf4 := blk_frozen HPB4.out 4
      have pl := blk_lt HPB4.out
      have z0 : w4.cell? ⟨(w.heap.size + 1 + 1 + 1 + 1), 0, none⟩ = some (.int .u8 0) := (blk_cell HNN4.out 0).trans rfl
      have zf0 := blk_frozen HNN4.out 0
      have z1 : w4.cell? ⟨(w.heap.size + 1 + 1 + 1 + 1), 1, none⟩ = some (.bool false) := (blk_cell HNN4.out 1).trans rfl
      have zf1 := blk_frozen HNN4.out 1
      have z2 : w4.cell? ⟨(w.heap.size + 1 + 1 + 1 + 1), 2, none⟩ = some (.slice none 0 0) := (blk_cell HNN4.out 2).trans rfl
      have zf2 := blk_frozen HNN4.out 2
      have z3 : w4.cell? ⟨(w.heap.size + 1 + 1 + 1 + 1), 3, none⟩ = some (.int .u32 0) := (blk_cell HNN4.out 3).trans rfl
      have zf3 := blk_frozen HNN4.out 3
      have zl := blk_lt HNN4.out
      cases fin with
      | false =>
        have HPC : Aside0 (partC false text false 2 [] d = 0) := ⟨by rw [partC_val HLL.out (by rfl) (by have := HLEN.out; omega) HTN.out, if_neg (fun h => by cases h.1)]⟩
        have r0 : w4.cell? ⟨(w.heap.size + 1 + 1), 0, none⟩ = some (.string (⟨#[]⟩ : ByteArray)) := (blk_cell HRG4.out 0).trans rfl
        have rf0 := blk_frozen HRG4.out 0
        have r1 : w4.cell? ⟨(w.heap.size + 1 + 1), 1, none⟩ = some (.bool false) := (blk_cell HRG4.out 1).trans rfl
        have rf1 := blk_frozen HRG4.out 1
        have r2 : w4.cell? ⟨(w.heap.size + 1 + 1), 2, none⟩ = some (.bool false) := (blk_cell HRG4.out 2).trans rfl
        have rf2 := blk_frozen HRG4.out 2
        have r3 : w4.cell? ⟨(w.heap.size + 1 + 1), 3, none⟩ = some (.bool false) := (blk_cell HRG4.out 3).trans rfl
        have rf3 := blk_frozen HRG4.out 3
        have rl := blk_lt HRG4.out
        have n0 : w4.cell? ⟨(w.heap.size + 1 + 1 + 1), 0, none⟩ = some (.int .u8 0) := (blk_cell HRN4.out 0).trans rfl
        have nf0 := blk_frozen HRN4.out 0
        have n1 : w4.cell? ⟨(w.heap.size + 1 + 1 + 1), 1, none⟩ = some (.bool false) := (blk_cell HRN4.out 1).trans rfl
        have nf1 := blk_frozen HRN4.out 1
        have n2 : w4.cell? ⟨(w.heap.size + 1 + 1 + 1), 2, none⟩ = some (.slice none 0 0) := (blk_cell HRN4.out 2).trans rfl
        have nf2 := blk_frozen HRN4.out 2
        have n3 : w4.cell? ⟨(w.heap.size + 1 + 1 + 1), 3, none⟩ = some (.int .u32 0) := (blk_cell HRN4.out 3).trans rfl
        have nf3 := blk_frozen HRN4.out 3
        have nl := blk_lt HRN4.out
        go_upto_region 26 with fail
        refine wp_region_noPanic ?_
        refine wp_region_held_drew (S := fun w' => Aside0 True ∧ w'.cell? ⟨w.heap.size, 0, none⟩ = some (.string (strOfNums l)) ∧ w'.cell? ⟨w.heap.size, 1, none⟩ = some (.bool true) ∧ w'.cell? ⟨w.heap.size, 2, none⟩ = some (.bool false) ∧ w'.cell? ⟨w.heap.size, 3, none⟩ = some (.bool false) ∧ w'.cell? ⟨w.heap.size + 1 + 1 + 1 + 1, 0, none⟩ = some (.int .u8 0) ∧ w'.cell? ⟨w.heap.size + 1 + 1 + 1 + 1, 1, none⟩ = some (.bool false) ∧ w'.cell? ⟨w.heap.size + 1 + 1 + 1 + 1, 2, none⟩ = some (.slice none 0 0) ∧ w'.cell? ⟨w.heap.size + 1 + 1 + 1 + 1, 3, none⟩ = some (.int .u32 0)) (by kernel_rfl) ⟨⟨trivial⟩, (blk_cell (blk_drew HGB4.out) 0).trans rfl, (blk_cell (blk_drew HGB4.out) 1).trans rfl, (blk_cell (blk_drew HGB4.out) 2).trans rfl, (blk_cell (blk_drew HGB4.out) 3).trans rfl, (blk_cell (blk_drew HNN4.out) 0).trans rfl, (blk_cell (blk_drew HNN4.out) 1).trans rfl, (blk_cell (blk_drew HNN4.out) 2).trans rfl, (blk_cell (blk_drew HNN4.out) 3).trans rfl⟩ (fun hHeld => ?_)
        refine takeN (i := 0) (N := (some 119)) (v := ?v67) (a' := ?a67) rfl rfl (by kernel_rfl) (by kernel_rfl) (by kernel_rfl) (fun _ _ _ h => h) (Or.inl ⟨by rfl, ?hy67⟩) ?ha67 (by assumption) ?rest67
        case hy67 =>
          intro w_ hSw_
          go_simp
          first | done | (with_reducible rfl)
        case ha67 =>
          simp only [Act.put, List.setIfInBounds_toArray, List.set_cons_zero, List.set_cons_succ]
          rfl
        refine takeN (i := 1) (N := (some 120)) (v := ?v68) (a' := ?a68) rfl rfl (by kernel_rfl) (by kernel_rfl) (by kernel_rfl) (fun _ _ _ h => h) (Or.inl ⟨by rfl, ?hy68⟩) ?ha68 (by assumption) ?rest68
        case hy68 =>
          intro w_ hSw_
          go_simp
          first | done | (with_reducible rfl)
        case ha68 =>
          simp only [Act.put, List.setIfInBounds_toArray, List.set_cons_zero, List.set_cons_succ]
          rfl
        refine wpAnyH_ready (rs := [2]) (by kernel_rfl) (by simp) ?_
        refine AllReadyH.cons rfl (fun K hK => ?_) AllReadyH.nil
        go_simp
        refine hK.out _ _ ⟨⟨trivial⟩, (blk_cell ((heap_sets4d (show w.heap.size ≠ w.heap.size + 1 + 1 by omega)).trans HGB4.out) 0).trans rfl, (blk_cell ((heap_sets4d (show w.heap.size ≠ w.heap.size + 1 + 1 by omega)).trans HGB4.out) 1).trans rfl, (blk_cell ((heap_sets4d (show w.heap.size ≠ w.heap.size + 1 + 1 by omega)).trans HGB4.out) 2).trans rfl, (blk_cell ((heap_sets4d (show w.heap.size ≠ w.heap.size + 1 + 1 by omega)).trans HGB4.out) 3).trans rfl, (blk_cell ((heap_sets4d (show w.heap.size + 1 + 1 + 1 + 1 ≠ w.heap.size + 1 + 1 by omega)).trans HNN4.out) 0).trans rfl, (blk_cell ((heap_sets4d (show w.heap.size + 1 + 1 + 1 + 1 ≠ w.heap.size + 1 + 1 by omega)).trans HNN4.out) 1).trans rfl, (blk_cell ((heap_sets4d (show w.heap.size + 1 + 1 + 1 + 1 ≠ w.heap.size + 1 + 1 by omega)).trans HNN4.out) 2).trans rfl, (blk_cell ((heap_sets4d (show w.heap.size + 1 + 1 + 1 + 1 ≠ w.heap.size + 1 + 1 by omega)).trans HNN4.out) 3).trans rfl⟩ (fun hHeld => ?_)
        clear hK K
        try simp only [Act.put, List.setIfInBounds_toArray, List.set_cons_zero, List.set_cons_succ]
        refine wpAnyH_ready (rs := [3]) (by kernel_rfl) (by simp) ?_
        refine AllReadyH.cons rfl (fun K hK => ?_) AllReadyH.nil
        go_simp
        refine hK.out _ _ ⟨⟨trivial⟩, (blk_cell ((heap_sets4d (show w.heap.size ≠ w.heap.size + 1 + 1 + 1 by omega)).trans ((heap_sets4 (show w.heap.size ≠ w.heap.size + 1 + 1 by omega)).trans HGB4.out)) 0).trans rfl, (blk_cell ((heap_sets4d (show w.heap.size ≠ w.heap.size + 1 + 1 + 1 by omega)).trans ((heap_sets4 (show w.heap.size ≠ w.heap.size + 1 + 1 by omega)).trans HGB4.out)) 1).trans rfl, (blk_cell ((heap_sets4d (show w.heap.size ≠ w.heap.size + 1 + 1 + 1 by omega)).trans ((heap_sets4 (show w.heap.size ≠ w.heap.size + 1 + 1 by omega)).trans HGB4.out)) 2).trans rfl, (blk_cell ((heap_sets4d (show w.heap.size ≠ w.heap.size + 1 + 1 + 1 by omega)).trans ((heap_sets4 (show w.heap.size ≠ w.heap.size + 1 + 1 by omega)).trans HGB4.out)) 3).trans rfl, (blk_cell ((heap_sets4d (show w.heap.size + 1 + 1 + 1 + 1 ≠ w.heap.size + 1 + 1 + 1 by omega)).trans ((heap_sets4 (show w.heap.size + 1 + 1 + 1 + 1 ≠ w.heap.size + 1 + 1 by omega)).trans HNN4.out)) 0).trans rfl, (blk_cell ((heap_sets4d (show w.heap.size + 1 + 1 + 1 + 1 ≠ w.heap.size + 1 + 1 + 1 by omega)).trans ((heap_sets4 (show w.heap.size + 1 + 1 + 1 + 1 ≠ w.heap.size + 1 + 1 by omega)).trans HNN4.out)) 1).trans rfl, (blk_cell ((heap_sets4d (show w.heap.size + 1 + 1 + 1 + 1 ≠ w.heap.size + 1 + 1 + 1 by omega)).trans ((heap_sets4 (show w.heap.size + 1 + 1 + 1 + 1 ≠ w.heap.size + 1 + 1 by omega)).trans HNN4.out)) 2).trans rfl, (blk_cell ((heap_sets4d (show w.heap.size + 1 + 1 + 1 + 1 ≠ w.heap.size + 1 + 1 + 1 by omega)).trans ((heap_sets4 (show w.heap.size + 1 + 1 + 1 + 1 ≠ w.heap.size + 1 + 1 by omega)).trans HNN4.out)) 3).trans rfl⟩ (fun hHeld => ?_)
        clear hK K
        try simp only [Act.put, List.setIfInBounds_toArray, List.set_cons_zero, List.set_cons_succ]
        refine takeN (i := 4) (N := (some 6)) (v := ?v69) (a' := ?a69) rfl rfl (by kernel_rfl) (by kernel_rfl) (by kernel_rfl) (fun _ _ _ h => h) (Or.inl ⟨by rfl, ?hy69⟩) ?ha69 (by assumption) ?rest69
        case hy69 =>
          intro w_ hSw_
          go_simp
          first | done | (with_reducible rfl)
        case ha69 =>
          simp only [Act.put, List.setIfInBounds_toArray, List.set_cons_zero, List.set_cons_succ]
          rfl
        refine wpAnyH_done (by kernel_rfl) ?_ _
        refine NoPanic.normal ?_
        go_wp2_with fail
        exact bodyPost_ret (v := .tuple #[.agg #[.string (strOfNums l), .bool true, .bool false, .bool false], .agg #[.int .u8 0, .bool false, .slice none 0 0, .int .u32 0], .bool false]) (by simp [results, Tryd.results17, go_sem, show strOfNums [] = (⟨#[]⟩ : ByteArray) from rfl, r0, r1, r2, r3, n0, n1, n2, n3]) rfl (.inr (.inl ⟨HPC.out, rfl, by rw [HTN.out, ← HLL.out]; exact ⟨none, 0, rfl, Nat.le_refl _, Rd.zero _ _ _, below_drew (sets4 (sets4 HB4.out hle2) hle3)⟩⟩))
      | true =>
        have HPC : Aside0 (partC false text true 2 [] d = 0) := ⟨by rw [partC_val HLL.out (by rfl) (by have := HLEN.out; omega) HTN.out, if_neg (fun h => by cases h.1)]⟩
        obtain ⟨capf, bw, kb, hcv⟩ := bytes_conv (strOfNums l) (by rw [hzl]; omega) l.length (by rw [HBS.out])
        rw [HBS.out] at hcv
        have HCV := Aside0.mk hcv
        clear hcv
        go_upto_region 27 with fail
        have HBd := Aside0.mk (below_step HB4.out (below_drew (Below.refl _ _)))
        have HGBd := Aside0.mk (blk_drew HGB4.out)
        have HRGd := Aside0.mk (blk_drew HRG4.out)
        have HRNd := Aside0.mk (blk_drew HRN4.out)
        refine wp_region_noPanic ?_
        refine wp_region_held_drew (S := fun w' => Aside0 True ∧ w'.cell? ⟨w.heap.size, 0, none⟩ = some (.string (strOfNums l)) ∧ w'.cell? ⟨w.heap.size, 1, none⟩ = some (.bool true) ∧ w'.cell? ⟨w.heap.size, 2, none⟩ = some (.bool false) ∧ w'.cell? ⟨w.heap.size, 3, none⟩ = some (.bool false)) (by kernel_rfl) ⟨⟨trivial⟩, (blk_cell (HGBd.out) 0).trans rfl, (blk_cell (HGBd.out) 1).trans rfl, (blk_cell (HGBd.out) 2).trans rfl, (blk_cell (HGBd.out) 3).trans rfl⟩ (fun hHeld => ?_)
        refine takeN (i := 0) (N := (some 121)) (v := ?v70) (a' := ?a70) rfl rfl (by kernel_rfl) (by kernel_rfl) (by kernel_rfl) (fun _ _ _ h => h) (Or.inl ⟨by rfl, ?hy70⟩) ?ha70 (by assumption) ?rest70
        case hy70 =>
          intro w_ hSw_
          go_simp
          first | done | (with_reducible rfl)
        case ha70 =>
          simp only [Act.put, List.setIfInBounds_toArray, List.set_cons_zero, List.set_cons_succ]
          rfl
        refine takeN (i := 1) (N := (some 122)) (v := ?v71) (a' := ?a71) rfl rfl (by kernel_rfl) (by kernel_rfl) (by kernel_rfl) (fun _ _ _ h => h) (Or.inl ⟨by rfl, ?hy71⟩) ?ha71 (by assumption) ?rest71
        case hy71 =>
          intro w_ hSw_
          go_simp
          first | done | (with_reducible rfl)
        case ha71 =>
          simp only [Act.put, List.setIfInBounds_toArray, List.set_cons_zero, List.set_cons_succ]
          rfl
        refine takeN (i := 2) (N := (some 123)) (v := ?v72) (a' := ?a72) rfl rfl (by kernel_rfl) (by kernel_rfl) (by kernel_rfl) (fun _ _ _ h => h) (Or.inl ⟨by rfl, ?hy72⟩) ?ha72 (by assumption) ?rest72
        case hy72 =>
          intro w_ hSw_
          go_simp
          first | done | (with_reducible rfl)
        case ha72 =>
          simp only [Act.put, List.setIfInBounds_toArray, List.set_cons_zero, List.set_cons_succ]
          rfl
        refine takeN (i := 3) (N := (some 124)) (v := ?v73) (a' := ?a73) rfl rfl (by kernel_rfl) (by kernel_rfl) (by kernel_rfl) (fun _ _ _ h => h) (Or.inl ⟨by rfl, ?hy73⟩) ?ha73 (by assumption) ?rest73
        case hy73 =>
          intro w_ hSw_
          go_simp
          first | done | (with_reducible rfl)
        case ha73 =>
          simp only [Act.put, List.setIfInBounds_toArray, List.set_cons_zero, List.set_cons_succ]
          rfl
        refine takeN (i := 4) (N := (some 125)) (v := ?v74) (a' := ?a74) rfl rfl (by kernel_rfl) (by kernel_rfl) (by kernel_rfl) (fun _ _ _ h => h) (Or.inl ⟨by rfl, ?hy74⟩) ?ha74 (by assumption) ?rest74
        case hy74 =>
          intro w_ hSw_
          go_simp
          first | done | (with_reducible rfl)
        case ha74 =>
          simp only [Act.put, List.setIfInBounds_toArray, List.set_cons_zero, List.set_cons_succ]
          rfl
        generalize w4.drew = Wd at hHeld HBd HGBd HRGd HRNd ⊢
        refine wpAnyH_ready (rs := [5, 7]) (by kernel_rfl) (by simp) ?_
        refine AllReadyH.cons rfl (fun K hK => ?_) (AllReadyH.cons rfl (fun K hK => ?_) AllReadyH.nil)
        · go_simp
          refine hK.out _ _ ⟨⟨trivial⟩, (blk_cell (blk_below HGBd.out (HCV.out.1 Wd)) 0).trans rfl, (blk_cell (blk_below HGBd.out (HCV.out.1 Wd)) 1).trans rfl, (blk_cell (blk_below HGBd.out (HCV.out.1 Wd)) 2).trans rfl, (blk_cell (blk_below HGBd.out (HCV.out.1 Wd)) 3).trans rfl⟩ (fun hHeld => ?_)
          clear hK K
          try simp only [Act.put, List.setIfInBounds_toArray, List.set_cons_zero, List.set_cons_succ]
          have hbb := HCV.out.1 Wd
          have HB5 := Aside0.mk (below_step HBd.out hbb)
          have HGB5 := Aside0.mk (blk_below HGBd.out hbb)
          have HRG5 := Aside0.mk (blk_below HRGd.out hbb)
          have HRN5 := Aside0.mk (blk_below HRNd.out hbb)
          have HCQ := Aside0.mk (HCV.out.2.2.1 Wd)
          have HC5 := Aside0.mk (HCV.out.2.1 Wd)
          have HQ5 := Aside0.mk (blk_lt HRNd.out)
          obtain ⟨csq, frq, htq⟩ := HCV.out.2.2.2 Wd
          have HRD5 : Aside0 (Rd B (bw Wd) (some ⟨Wd.heap.size, 0, none⟩) l) := ⟨Rd.of_new HC5.out htq⟩
          generalize bw Wd = w5 at hHeld hbb HC5 HRD5 htq HB5 HGB5 HRG5 HRN5 ⊢
          generalize capf Wd = cq at HCQ ⊢
          generalize Wd.heap.size = q at HC5 HQ5 HRD5 htq ⊢
          clear hbb htq
          refine takeN (i := 6) (N := (some 127)) (v := ?v75) (a' := ?a75) rfl rfl (by kernel_rfl) (by kernel_rfl) (by kernel_rfl) (fun _ _ _ h => h) (Or.inl ⟨by rfl, ?hy75⟩) ?ha75 (by assumption) ?rest75
          case hy75 =>
            intro w_ hSw_
            go_simp
            first | done | (with_reducible rfl)
          case ha75 =>
            simp only [Act.put, List.setIfInBounds_toArray, List.set_cons_zero, List.set_cons_succ]
            rfl
          have r0 : w5.cell? ⟨(w.heap.size + 1 + 1), 0, none⟩ = some (.string (⟨#[]⟩ : ByteArray)) := (blk_cell HRG5.out 0).trans rfl
          have rf0 := blk_frozen HRG5.out 0
          have r1 : w5.cell? ⟨(w.heap.size + 1 + 1), 1, none⟩ = some (.bool false) := (blk_cell HRG5.out 1).trans rfl
          have rf1 := blk_frozen HRG5.out 1
          have r2 : w5.cell? ⟨(w.heap.size + 1 + 1), 2, none⟩ = some (.bool false) := (blk_cell HRG5.out 2).trans rfl
          have rf2 := blk_frozen HRG5.out 2
          have r3 : w5.cell? ⟨(w.heap.size + 1 + 1), 3, none⟩ = some (.bool false) := (blk_cell HRG5.out 3).trans rfl
          have rf3 := blk_frozen HRG5.out 3
          have rl := blk_lt HRG5.out
          have n0 : w5.cell? ⟨(w.heap.size + 1 + 1 + 1), 0, none⟩ = some (.int .u8 0) := (blk_cell HRN5.out 0).trans rfl
          have nf0 := blk_frozen HRN5.out 0
          have n1 : w5.cell? ⟨(w.heap.size + 1 + 1 + 1), 1, none⟩ = some (.bool false) := (blk_cell HRN5.out 1).trans rfl
          have nf1 := blk_frozen HRN5.out 1
          have n2 : w5.cell? ⟨(w.heap.size + 1 + 1 + 1), 2, none⟩ = some (.slice none 0 0) := (blk_cell HRN5.out 2).trans rfl
          have nf2 := blk_frozen HRN5.out 2
          have n3 : w5.cell? ⟨(w.heap.size + 1 + 1 + 1), 3, none⟩ = some (.int .u32 0) := (blk_cell HRN5.out 3).trans rfl
          have nf3 := blk_frozen HRN5.out 3
          have nl := blk_lt HRN5.out
          refine wpAnyH_ready (rs := [7]) (by kernel_rfl) (by simp) ?_
          refine AllReadyH.cons rfl (fun K hK => ?_) AllReadyH.nil
          go_simp
          refine hK.out _ _ ⟨⟨trivial⟩, (blk_cell ((heap_sets4 (show w.heap.size ≠ w.heap.size + 1 + 1 by omega)).trans HGB5.out) 0).trans rfl, (blk_cell ((heap_sets4 (show w.heap.size ≠ w.heap.size + 1 + 1 by omega)).trans HGB5.out) 1).trans rfl, (blk_cell ((heap_sets4 (show w.heap.size ≠ w.heap.size + 1 + 1 by omega)).trans HGB5.out) 2).trans rfl, (blk_cell ((heap_sets4 (show w.heap.size ≠ w.heap.size + 1 + 1 by omega)).trans HGB5.out) 3).trans rfl⟩ (fun hHeld => ?_)
          clear hK K
          try simp only [Act.put, List.setIfInBounds_toArray, List.set_cons_zero, List.set_cons_succ]
          refine wpAnyH_ready (rs := [8]) (by kernel_rfl) (by simp) ?_
          refine AllReadyH.cons rfl (fun K hK => ?_) AllReadyH.nil
          go_simp
          refine hK.out _ _ ⟨⟨trivial⟩, (blk_cell ((heap_sets4 (show w.heap.size ≠ w.heap.size + 1 + 1 + 1 by omega)).trans ((heap_sets4 (show w.heap.size ≠ w.heap.size + 1 + 1 by omega)).trans HGB5.out)) 0).trans rfl, (blk_cell ((heap_sets4 (show w.heap.size ≠ w.heap.size + 1 + 1 + 1 by omega)).trans ((heap_sets4 (show w.heap.size ≠ w.heap.size + 1 + 1 by omega)).trans HGB5.out)) 1).trans rfl, (blk_cell ((heap_sets4 (show w.heap.size ≠ w.heap.size + 1 + 1 + 1 by omega)).trans ((heap_sets4 (show w.heap.size ≠ w.heap.size + 1 + 1 by omega)).trans HGB5.out)) 2).trans rfl, (blk_cell ((heap_sets4 (show w.heap.size ≠ w.heap.size + 1 + 1 + 1 by omega)).trans ((heap_sets4 (show w.heap.size ≠ w.heap.size + 1 + 1 by omega)).trans HGB5.out)) 3).trans rfl⟩ (fun hHeld => ?_)
          clear hK K
          try simp only [Act.put, List.setIfInBounds_toArray, List.set_cons_zero, List.set_cons_succ]
          refine takeN (i := 9) (N := (some 6)) (v := ?v76) (a' := ?a76) rfl rfl (by kernel_rfl) (by kernel_rfl) (by kernel_rfl) (fun _ _ _ h => h) (Or.inl ⟨by rfl, ?hy76⟩) ?ha76 (by assumption) ?rest76
          case hy76 =>
            intro w_ hSw_
            go_simp
            first | done | (with_reducible rfl)
          case ha76 =>
            simp only [Act.put, List.setIfInBounds_toArray, List.set_cons_zero, List.set_cons_succ]
            rfl
          refine wpAnyH_done (by kernel_rfl) ?_ _
          refine NoPanic.normal ?_
          go_wp2_with fail
          exact bodyPost_ret (v := .tuple #[.agg #[.string (⟨#[]⟩ : ByteArray), .bool false, .bool false, .bool false], .agg #[.int .u8 1, .bool false, .slice (some ⟨q, 0, none⟩) l.length cq, .int .u32 0], .bool true]) (by simp [results, Tryd.results17, go_sem, show strOfNums [] = (⟨#[]⟩ : ByteArray) from rfl, r0, r1, r2, r3, n0, n1, n2, n3]) rfl (.inr (.inr ⟨HPC.out, rfl, by rw [HTN.out, ← HLL.out]; exact ⟨some ⟨q, 0, none⟩, cq, rfl, HCQ.out, Rd.off4 (Rd.off4 HRD5.out HRG5.out (by decide) (by omega)) ((heap_sets4 (show w.heap.size + 1 + 1 + 1 ≠ w.heap.size + 1 + 1 by omega)).trans HRN5.out) (by decide) (by omega), sets4 (sets4 HB5.out hle2) hle3⟩⟩))
        · have r0 : Wd.cell? ⟨(w.heap.size + 1 + 1), 0, none⟩ = some (.string (⟨#[]⟩ : ByteArray)) := (blk_cell HRGd.out 0).trans rfl
          have rf0 := blk_frozen HRGd.out 0
          have r1 : Wd.cell? ⟨(w.heap.size + 1 + 1), 1, none⟩ = some (.bool false) := (blk_cell HRGd.out 1).trans rfl
          have rf1 := blk_frozen HRGd.out 1
          have r2 : Wd.cell? ⟨(w.heap.size + 1 + 1), 2, none⟩ = some (.bool false) := (blk_cell HRGd.out 2).trans rfl
          have rf2 := blk_frozen HRGd.out 2
          have r3 : Wd.cell? ⟨(w.heap.size + 1 + 1), 3, none⟩ = some (.bool false) := (blk_cell HRGd.out 3).trans rfl
          have rf3 := blk_frozen HRGd.out 3
          have rl := blk_lt HRGd.out
          go_simp
          refine hK.out _ _ ⟨⟨trivial⟩, (blk_cell ((heap_sets4 (show w.heap.size ≠ w.heap.size + 1 + 1 by omega)).trans HGBd.out) 0).trans rfl, (blk_cell ((heap_sets4 (show w.heap.size ≠ w.heap.size + 1 + 1 by omega)).trans HGBd.out) 1).trans rfl, (blk_cell ((heap_sets4 (show w.heap.size ≠ w.heap.size + 1 + 1 by omega)).trans HGBd.out) 2).trans rfl, (blk_cell ((heap_sets4 (show w.heap.size ≠ w.heap.size + 1 + 1 by omega)).trans HGBd.out) 3).trans rfl⟩ (fun hHeld => ?_)
          clear hK K
          try simp only [Act.put, List.setIfInBounds_toArray, List.set_cons_zero, List.set_cons_succ]
          have HBe := Aside0.mk (show Below w.heap.size w ((((Wd.setCell ⟨(w.heap.size + 1 + 1), 0, none⟩ (.string (⟨#[]⟩ : ByteArray))).setCell ⟨(w.heap.size + 1 + 1), 1, none⟩ (.bool false)).setCell ⟨(w.heap.size + 1 + 1), 2, none⟩ (.bool false)).setCell ⟨(w.heap.size + 1 + 1), 3, none⟩ (.bool false)) from sets4 HBd.out hle2)
          have HGBe := Aside0.mk (show ((((Wd.setCell ⟨(w.heap.size + 1 + 1), 0, none⟩ (.string (⟨#[]⟩ : ByteArray))).setCell ⟨(w.heap.size + 1 + 1), 1, none⟩ (.bool false)).setCell ⟨(w.heap.size + 1 + 1), 2, none⟩ (.bool false)).setCell ⟨(w.heap.size + 1 + 1), 3, none⟩ (.bool false)).heap[w.heap.size]? = some (.cells #[.string (strOfNums l), .bool true, .bool false, .bool false] 40 (0, 0)) from (heap_sets4 (by omega)).trans HGBd.out)
          have HRGe := Aside0.mk (show ((((Wd.setCell ⟨(w.heap.size + 1 + 1), 0, none⟩ (.string (⟨#[]⟩ : ByteArray))).setCell ⟨(w.heap.size + 1 + 1), 1, none⟩ (.bool false)).setCell ⟨(w.heap.size + 1 + 1), 2, none⟩ (.bool false)).setCell ⟨(w.heap.size + 1 + 1), 3, none⟩ (.bool false)).heap[w.heap.size + 1 + 1]? = some (.cells #[.string (⟨#[]⟩ : ByteArray), .bool false, .bool false, .bool false] 40 (0, 0)) from (blk_put (blk_put (blk_put (blk_put HRGd.out 0 (.string (⟨#[]⟩ : ByteArray)) rfl) 1 (.bool false) rfl) 2 (.bool false) rfl) 3 (.bool false) rfl))
          have HRNe := Aside0.mk (show ((((Wd.setCell ⟨(w.heap.size + 1 + 1), 0, none⟩ (.string (⟨#[]⟩ : ByteArray))).setCell ⟨(w.heap.size + 1 + 1), 1, none⟩ (.bool false)).setCell ⟨(w.heap.size + 1 + 1), 2, none⟩ (.bool false)).setCell ⟨(w.heap.size + 1 + 1), 3, none⟩ (.bool false)).heap[w.heap.size + 1 + 1 + 1]? = some (.cells #[.int .u8 0, .bool false, .slice none 0 0, .int .u32 0] 30 (0, 0)) from (heap_sets4 (by omega)).trans HRNd.out)
          generalize ((((Wd.setCell ⟨(w.heap.size + 1 + 1), 0, none⟩ (.string (⟨#[]⟩ : ByteArray))).setCell ⟨(w.heap.size + 1 + 1), 1, none⟩ (.bool false)).setCell ⟨(w.heap.size + 1 + 1), 2, none⟩ (.bool false)).setCell ⟨(w.heap.size + 1 + 1), 3, none⟩ (.bool false)) = We at hHeld HBe HGBe HRGe HRNe ⊢
          clear r0 rf0 r1 rf1 r2 rf2 r3 rf3 rl
          refine wpAnyH_ready (rs := [5]) (by kernel_rfl) (by simp) ?_
          refine AllReadyH.cons rfl (fun K hK => ?_) AllReadyH.nil
          go_simp
          refine hK.out _ _ ⟨⟨trivial⟩, (blk_cell (blk_below HGBe.out (HCV.out.1 We)) 0).trans rfl, (blk_cell (blk_below HGBe.out (HCV.out.1 We)) 1).trans rfl, (blk_cell (blk_below HGBe.out (HCV.out.1 We)) 2).trans rfl, (blk_cell (blk_below HGBe.out (HCV.out.1 We)) 3).trans rfl⟩ (fun hHeld => ?_)
          clear hK K
          try simp only [Act.put, List.setIfInBounds_toArray, List.set_cons_zero, List.set_cons_succ]
          have hbb := HCV.out.1 We
          have HB5 := Aside0.mk (below_step HBe.out hbb)
          have HGB5 := Aside0.mk (blk_below HGBe.out hbb)
          have HRG5 := Aside0.mk (blk_below HRGe.out hbb)
          have HRN5 := Aside0.mk (blk_below HRNe.out hbb)
          have HCQ := Aside0.mk (HCV.out.2.2.1 We)
          have HC5 := Aside0.mk (HCV.out.2.1 We)
          have HQ5 := Aside0.mk (blk_lt HRNe.out)
          obtain ⟨csq, frq, htq⟩ := HCV.out.2.2.2 We
          have HRD5 : Aside0 (Rd B (bw We) (some ⟨We.heap.size, 0, none⟩) l) := ⟨Rd.of_new HC5.out htq⟩
          generalize bw We = w5 at hHeld hbb HC5 HRD5 htq HB5 HGB5 HRG5 HRN5 ⊢
          generalize capf We = cq at HCQ ⊢
          generalize We.heap.size = q at HC5 HQ5 HRD5 htq ⊢
          clear hbb htq
          refine takeN (i := 6) (N := (some 127)) (v := ?v77) (a' := ?a77) rfl rfl (by kernel_rfl) (by kernel_rfl) (by kernel_rfl) (fun _ _ _ h => h) (Or.inl ⟨by rfl, ?hy77⟩) ?ha77 (by assumption) ?rest77
          case hy77 =>
            intro w_ hSw_
            go_simp
            first | done | (with_reducible rfl)
          case ha77 =>
            simp only [Act.put, List.setIfInBounds_toArray, List.set_cons_zero, List.set_cons_succ]
            rfl
          have r0 : w5.cell? ⟨(w.heap.size + 1 + 1), 0, none⟩ = some (.string (⟨#[]⟩ : ByteArray)) := (blk_cell HRG5.out 0).trans rfl
          have rf0 := blk_frozen HRG5.out 0
          have r1 : w5.cell? ⟨(w.heap.size + 1 + 1), 1, none⟩ = some (.bool false) := (blk_cell HRG5.out 1).trans rfl
          have rf1 := blk_frozen HRG5.out 1
          have r2 : w5.cell? ⟨(w.heap.size + 1 + 1), 2, none⟩ = some (.bool false) := (blk_cell HRG5.out 2).trans rfl
          have rf2 := blk_frozen HRG5.out 2
          have r3 : w5.cell? ⟨(w.heap.size + 1 + 1), 3, none⟩ = some (.bool false) := (blk_cell HRG5.out 3).trans rfl
          have rf3 := blk_frozen HRG5.out 3
          have rl := blk_lt HRG5.out
          have n0 : w5.cell? ⟨(w.heap.size + 1 + 1 + 1), 0, none⟩ = some (.int .u8 0) := (blk_cell HRN5.out 0).trans rfl
          have nf0 := blk_frozen HRN5.out 0
          have n1 : w5.cell? ⟨(w.heap.size + 1 + 1 + 1), 1, none⟩ = some (.bool false) := (blk_cell HRN5.out 1).trans rfl
          have nf1 := blk_frozen HRN5.out 1
          have n2 : w5.cell? ⟨(w.heap.size + 1 + 1 + 1), 2, none⟩ = some (.slice none 0 0) := (blk_cell HRN5.out 2).trans rfl
          have nf2 := blk_frozen HRN5.out 2
          have n3 : w5.cell? ⟨(w.heap.size + 1 + 1 + 1), 3, none⟩ = some (.int .u32 0) := (blk_cell HRN5.out 3).trans rfl
          have nf3 := blk_frozen HRN5.out 3
          have nl := blk_lt HRN5.out
          refine wpAnyH_ready (rs := [8]) (by kernel_rfl) (by simp) ?_
          refine AllReadyH.cons rfl (fun K hK => ?_) AllReadyH.nil
          go_simp
          refine hK.out _ _ ⟨⟨trivial⟩, (blk_cell ((heap_sets4 (show w.heap.size ≠ w.heap.size + 1 + 1 + 1 by omega)).trans HGB5.out) 0).trans rfl, (blk_cell ((heap_sets4 (show w.heap.size ≠ w.heap.size + 1 + 1 + 1 by omega)).trans HGB5.out) 1).trans rfl, (blk_cell ((heap_sets4 (show w.heap.size ≠ w.heap.size + 1 + 1 + 1 by omega)).trans HGB5.out) 2).trans rfl, (blk_cell ((heap_sets4 (show w.heap.size ≠ w.heap.size + 1 + 1 + 1 by omega)).trans HGB5.out) 3).trans rfl⟩ (fun hHeld => ?_)
          clear hK K
          try simp only [Act.put, List.setIfInBounds_toArray, List.set_cons_zero, List.set_cons_succ]
          refine takeN (i := 9) (N := (some 6)) (v := ?v78) (a' := ?a78) rfl rfl (by kernel_rfl) (by kernel_rfl) (by kernel_rfl) (fun _ _ _ h => h) (Or.inl ⟨by rfl, ?hy78⟩) ?ha78 (by assumption) ?rest78
          case hy78 =>
            intro w_ hSw_
            go_simp
            first | done | (with_reducible rfl)
          case ha78 =>
            simp only [Act.put, List.setIfInBounds_toArray, List.set_cons_zero, List.set_cons_succ]
            rfl
          refine wpAnyH_done (by kernel_rfl) ?_ _
          refine NoPanic.normal ?_
          go_wp2_with fail
          exact bodyPost_ret (v := .tuple #[.agg #[.string (⟨#[]⟩ : ByteArray), .bool false, .bool false, .bool false], .agg #[.int .u8 1, .bool false, .slice (some ⟨q, 0, none⟩) l.length cq, .int .u32 0], .bool true]) (by simp [results, Tryd.results17, go_sem, show strOfNums [] = (⟨#[]⟩ : ByteArray) from rfl, r0, r1, r2, r3, n0, n1, n2, n3]) rfl (.inr (.inr ⟨HPC.out, rfl, by rw [HTN.out, ← HLL.out]; exact ⟨some ⟨q, 0, none⟩, cq, rfl, HCQ.out, Rd.off4 (HRD5.out) HRN5.out (by decide) (by omega), sets4 HB5.out hle3⟩⟩))
  | true =>
    have hug := Tryd.underlying40
    have hu30 := Tryd.underlying30
    have hu26 := Tryd.underlying26
    have HC := Aside0.mk hC
    clear hC
    have hle0 : w.heap.size ≤ w.heap.size := by omega
    have hle1 : w.heap.size ≤ w.heap.size + 1 := by omega
    have hle2 : w.heap.size ≤ w.heap.size + 1 + 1 := by omega
    have hle3 : w.heap.size ≤ w.heap.size + 1 + 1 + 1 := by omega
    have hle4 : w.heap.size ≤ w.heap.size + 1 + 1 + 1 + 1 := by omega
    have hb1 : Below w.heap.size w (((((w.alloc (.cells #[.string (strOfNums b), .bool true, .bool text, .bool false] 40)).alloc (.cells #[.bool fin, .int .u8 2, .bool mk, .int .u32 key, .slice A d.length c] 26)).alloc (.cells #[.string (⟨#[]⟩ : ByteArray), .bool false, .bool false, .bool false] 40)).alloc (.cells #[.int .u8 0, .bool false, .slice none 0 0, .int .u32 0] 30)).alloc (.cells #[.int .u8 0, .bool false, .slice none 0 0, .int .u32 0] 30)) := below_alloc (below_alloc (below_alloc (below_alloc (below_alloc (Below.refl _ _) _) _) _) _) _
    have hgb : (((((w.alloc (.cells #[.string (strOfNums b), .bool true, .bool text, .bool false] 40)).alloc (.cells #[.bool fin, .int .u8 2, .bool mk, .int .u32 key, .slice A d.length c] 26)).alloc (.cells #[.string (⟨#[]⟩ : ByteArray), .bool false, .bool false, .bool false] 40)).alloc (.cells #[.int .u8 0, .bool false, .slice none 0 0, .int .u32 0] 30)).alloc (.cells #[.int .u8 0, .bool false, .slice none 0 0, .int .u32 0] 30)).heap[w.heap.size]? = some (.cells #[.string (strOfNums b), .bool true, .bool text, .bool false] 40 (0, 0)) := blk_alloc (blk_alloc (blk_alloc (blk_alloc (last_at _ _ _ (by simp)) _) _) _) _
    have hpb : (((((w.alloc (.cells #[.string (strOfNums b), .bool true, .bool text, .bool false] 40)).alloc (.cells #[.bool fin, .int .u8 2, .bool mk, .int .u32 key, .slice A d.length c] 26)).alloc (.cells #[.string (⟨#[]⟩ : ByteArray), .bool false, .bool false, .bool false] 40)).alloc (.cells #[.int .u8 0, .bool false, .slice none 0 0, .int .u32 0] 30)).alloc (.cells #[.int .u8 0, .bool false, .slice none 0 0, .int .u32 0] 30)).heap[w.heap.size + 1]? = some (.cells #[.bool fin, .int .u8 2, .bool mk, .int .u32 key, .slice A d.length c] 26 (0, 0)) := blk_alloc (blk_alloc (blk_alloc (last_at _ _ _ (by simp)) _) _) _
    have hrg : (((((w.alloc (.cells #[.string (strOfNums b), .bool true, .bool text, .bool false] 40)).alloc (.cells #[.bool fin, .int .u8 2, .bool mk, .int .u32 key, .slice A d.length c] 26)).alloc (.cells #[.string (⟨#[]⟩ : ByteArray), .bool false, .bool false, .bool false] 40)).alloc (.cells #[.int .u8 0, .bool false, .slice none 0 0, .int .u32 0] 30)).alloc (.cells #[.int .u8 0, .bool false, .slice none 0 0, .int .u32 0] 30)).heap[w.heap.size + 1 + 1]? = some (.cells #[.string (⟨#[]⟩ : ByteArray), .bool false, .bool false, .bool false] 40 (0, 0)) := blk_alloc (blk_alloc (last_at _ _ _ (by simp)) _) _
    have hrn : (((((w.alloc (.cells #[.string (strOfNums b), .bool true, .bool text, .bool false] 40)).alloc (.cells #[.bool fin, .int .u8 2, .bool mk, .int .u32 key, .slice A d.length c] 26)).alloc (.cells #[.string (⟨#[]⟩ : ByteArray), .bool false, .bool false, .bool false] 40)).alloc (.cells #[.int .u8 0, .bool false, .slice none 0 0, .int .u32 0] 30)).alloc (.cells #[.int .u8 0, .bool false, .slice none 0 0, .int .u32 0] 30)).heap[w.heap.size + 1 + 1 + 1]? = some (.cells #[.int .u8 0, .bool false, .slice none 0 0, .int .u32 0] 30 (0, 0)) := blk_alloc (last_at _ _ _ (by simp)) _
    have hnn : (((((w.alloc (.cells #[.string (strOfNums b), .bool true, .bool text, .bool false] 40)).alloc (.cells #[.bool fin, .int .u8 2, .bool mk, .int .u32 key, .slice A d.length c] 26)).alloc (.cells #[.string (⟨#[]⟩ : ByteArray), .bool false, .bool false, .bool false] 40)).alloc (.cells #[.int .u8 0, .bool false, .slice none 0 0, .int .u32 0] 30)).alloc (.cells #[.int .u8 0, .bool false, .slice none 0 0, .int .u32 0] 30)).heap[w.heap.size + 1 + 1 + 1 + 1]? = some (.cells #[.int .u8 0, .bool false, .slice none 0 0, .int .u32 0] 30 (0, 0)) := last_at _ _ _ (by simp)
    go_enter Tryd.func17, Tryd.ntmps17
    go_upto_region 2 with fail
    generalize (((((w.alloc (.cells #[.string (strOfNums b), .bool true, .bool text, .bool false] 40)).alloc (.cells #[.bool fin, .int .u8 2, .bool mk, .int .u32 key, .slice A d.length c] 26)).alloc (.cells #[.string (⟨#[]⟩ : ByteArray), .bool false, .bool false, .bool false] 40)).alloc (.cells #[.int .u8 0, .bool false, .slice none 0 0, .int .u32 0] 30)).alloc (.cells #[.int .u8 0, .bool false, .slice none 0 0, .int .u32 0] 30)) = W1 at hb1 hgb hpb hrg hrn hnn ⊢
    have HB1 := Aside0.mk hb1
    have HGB := Aside0.mk hgb
    have HPB := Aside0.mk hpb
    have HRG := Aside0.mk hrg
    have HRN := Aside0.mk hrn
    have HNN := Aside0.mk hnn
    clear hb1 hgb hpb hrg hrn hnn
    have g0 : W1.cell? ⟨w.heap.size, 0, none⟩ = some (.string (strOfNums b)) := (blk_cell HGB.out 0).trans rfl
    have gf0 := blk_frozen HGB.out 0
    have g1 : W1.cell? ⟨w.heap.size, 1, none⟩ = some (.bool true) := (blk_cell HGB.out 1).trans rfl
    have gf1 := blk_frozen HGB.out 1
    have g2 : W1.cell? ⟨w.heap.size, 2, none⟩ = some (.bool text) := (blk_cell HGB.out 2).trans rfl
    have gf2 := blk_frozen HGB.out 2
    have g3 : W1.cell? ⟨w.heap.size, 3, none⟩ = some (.bool false) := (blk_cell HGB.out 3).trans rfl
    have gf3 := blk_frozen HGB.out 3
    have gl := blk_lt HGB.out
    have p0 : W1.cell? ⟨(w.heap.size + 1), 0, none⟩ = some (.bool fin) := (blk_cell HPB.out 0).trans rfl
    have pf0 := blk_frozen HPB.out 0
    have p1 : W1.cell? ⟨(w.heap.size + 1), 1, none⟩ = some (.int .u8 2) := (blk_cell HPB.out 1).trans rfl
    have pf1 := blk_frozen HPB.out 1
    have p2 : W1.cell? ⟨(w.heap.size + 1), 2, none⟩ = some (.bool mk) := (blk_cell HPB.out 2).trans rfl
    have pf2 := blk_frozen HPB.out 2
    have p3 : W1.cell? ⟨(w.heap.size + 1), 3, none⟩ = some (.int .u32 key) := (blk_cell HPB.out 3).trans rfl
    have pf3 := blk_frozen HPB.out 3
    have p4 : W1.cell? ⟨(w.heap.size + 1), 4, none⟩ = some (.slice A d.length c) := (blk_cell HPB.out 4).trans rfl
    have pf4 := blk_frozen HPB.out 4
    have pl := blk_lt HPB.out
    have HPC : Aside0 (partC true text fin 2 b d = 1002) := ⟨by unfold partC; rw [if_pos (by decide)]⟩
    go_wp2_with fail
    refine (ref_bad 1002 B _).mono ?_
    rintro e w7 ⟨An, cn, rfl, _, _, hb⟩
    have HB7 := Aside0.mk (below_step HB1.out hb)
    have HRG7 := Aside0.mk (blk_below HRG.out hb)
    have HRN7 := Aside0.mk (blk_below HRN.out hb)
    clear hb
    have r0 : w7.cell? ⟨(w.heap.size + 1 + 1), 0, none⟩ = some (.string (⟨#[]⟩ : ByteArray)) := (blk_cell HRG7.out 0).trans rfl
    have rf0 := blk_frozen HRG7.out 0
    have r1 : w7.cell? ⟨(w.heap.size + 1 + 1), 1, none⟩ = some (.bool false) := (blk_cell HRG7.out 1).trans rfl
    have rf1 := blk_frozen HRG7.out 1
    have r2 : w7.cell? ⟨(w.heap.size + 1 + 1), 2, none⟩ = some (.bool false) := (blk_cell HRG7.out 2).trans rfl
    have rf2 := blk_frozen HRG7.out 2
    have r3 : w7.cell? ⟨(w.heap.size + 1 + 1), 3, none⟩ = some (.bool false) := (blk_cell HRG7.out 3).trans rfl
    have rf3 := blk_frozen HRG7.out 3
    have rl := blk_lt HRG7.out
    have n0 : w7.cell? ⟨(w.heap.size + 1 + 1 + 1), 0, none⟩ = some (.int .u8 0) := (blk_cell HRN7.out 0).trans rfl
    have nf0 := blk_frozen HRN7.out 0
    have n1 : w7.cell? ⟨(w.heap.size + 1 + 1 + 1), 1, none⟩ = some (.bool false) := (blk_cell HRN7.out 1).trans rfl
    have nf1 := blk_frozen HRN7.out 1
    have n2 : w7.cell? ⟨(w.heap.size + 1 + 1 + 1), 2, none⟩ = some (.slice none 0 0) := (blk_cell HRN7.out 2).trans rfl
    have nf2 := blk_frozen HRN7.out 2
    have n3 : w7.cell? ⟨(w.heap.size + 1 + 1 + 1), 3, none⟩ = some (.int .u32 0) := (blk_cell HRN7.out 3).trans rfl
    have nf3 := blk_frozen HRN7.out 3
    have nl := blk_lt HRN7.out
    go_wp2_with fail
    exact bodyPost_ret (v := .tuple #[.agg #[.string (⟨#[]⟩ : ByteArray), .bool false, .bool false, .bool true], .agg #[.int .u8 5, .bool false, .slice An 0 cn, .int .u32 1002], .bool true]) (by simp [results, Tryd.results17, go_sem, show strOfNums [] = (⟨#[]⟩ : ByteArray) from rfl, r0, r1, r2, r3, n0, n1, n2, n3]) rfl (.inl ⟨by rw [HPC.out]; decide, HPC.out ▸ ⟨An, cn, rfl, Nat.zero_le _, Rd.zero _ _ _, sets4 (sets4 HB7.out hle2) hle3⟩⟩)
end Go.Proofs.YtbjjobifpmjhhaaDoor

