/- The package fault by its contracts: an error with a socket's fault, one that wraps it, and the fault that errors.As finds. -/
import Derived.Test.YtkhlldhcmgkioaaDoorAsWrap
import Derived.Test.YtkhlldhcmgkioaaDoorWMore
namespace Go.Proofs.YtkhlldhcmgkioaaDoor
open Go.RowKit Go.Proofs.YtkhlldhcmgkioaaDoorW.PrintWords Go.Proofs.YtkhlldhcmgkioaaDoorW.PrintLast Go.Proofs.YtkhlldhcmgkioaaDoorW.PrintMore
set_option linter.unusedVariables false
/-- What the rows' condition gives: the variable errors.errorType. -/
def Cond (w : World) : Prop := w.cell? ⟨0, 0, none⟩ = some (.iface 100 (.agg #[.pointer (some ⟨1, 64, none⟩)]))
theorem Cond.below {w W : World} (h : Cond w) (hb : Below w.heap.size w W) : Cond W := (hb.cell (World.block_lt_of_cell? _ _ h)).trans h
/-- v is an error with a socket's fault of this code. -/
def IsBad (W : World) (v : Value) (code : Int) : Prop := ∃ g : Nat, v = .iface 77 (.pointer (some ⟨g, 0, none⟩)) ∧ W.heap[g]? = some (.cells #[.int .u8 3, .int .u32 code] 81 (0, 0))
/-- v wraps one. -/
def IsWr (W : World) (v : Value) (code : Int) : Prop := ∃ (g : Nat) (s : ByteArray) (v' : Value), v = .iface 82 (.pointer (some ⟨g, 0, none⟩)) ∧ W.heap[g]? = some (.cells #[.string s, v'] 84 (0, 0)) ∧ IsBad W v' code
theorem IsBad.below {w W : World} {v : Value} {c : Int} (h : IsBad w v c) (hb : Below w.heap.size w W) : IsBad W v c := by
  obtain ⟨g, e, h⟩ := h
  exact ⟨g, e, blk_below h hb⟩
theorem IsWr.below {w W : World} {v : Value} {c : Int} (h : IsWr w v c) (hb : Below w.heap.size w W) : IsWr W v c := by
  obtain ⟨g, s, v', e, h, h'⟩ := h
  exact ⟨g, s, v', e, blk_below h hb, h'.below hb⟩
theorem last_at (W : World) (o : Obj) (k : Nat) (h : k = W.heap.size) : (W.alloc o).heap[k]? = some o := by
  rw [h]
  show (W.heap.push o)[W.heap.size]? = some o
  simp
set_option maxHeartbeats 2000000 in
theorem new_any (code : Int) (w : World) : Calls Tryd.prog 39 #[.agg #[.int .u8 3, .int .u32 code]] w fun e w' => ∃ v, e = .returned v ∧ IsBad w' v code ∧ Below w.heap.size w w' := by
  go_enter Tryd.func39, Tryd.ntmps39
  go_wp2
  go_ret
  exact ⟨_, rfl, ⟨_, rfl, last_at _ _ _ (by simp)⟩, below_alloc (below_alloc (Below.refl _ _) _) _⟩
set_option maxHeartbeats 2000000 in
theorem socket_any (code : Int) (w : World) : Calls Tryd.prog 36 #[.int .u32 code] w fun e w' => ∃ v, e = .returned v ∧ IsBad w' v code ∧ Below w.heap.size w w' := by
  go_enter Tryd.func36, Tryd.ntmps36
  go_wp2_with fail
  refine (new_any code _).mono ?_
  rintro e w1 ⟨v, rfl, hv, hb⟩
  go_wp2_with fail
  go_ret
  exact ⟨_, rfl, hv, hb⟩
theorem wrap_nil (s : ByteArray) (w : World) : Calls Tryd.prog 28 #[.string s, .nilIface] w fun e w' => e = .returned .nilIface ∧ w' = w := by
  go_enter Tryd.func28, Tryd.ntmps28
  go_wp2
  go_ret
  exact ⟨rfl, rfl⟩
theorem wrap_any (s : ByteArray) (v : Value) (code : Int) (w : World) (h : IsBad w v code) : Calls Tryd.prog 28 #[.string s, v] w fun e w' => ∃ v', e = .returned v' ∧ IsWr w' v' code ∧ Below w.heap.size w w' := by
  obtain ⟨g, rfl, hg⟩ := h
  have HG := Aside0.mk hg
  clear hg
  go_enter Tryd.func28, Tryd.ntmps28
  go_wp2
  go_ret
  exact ⟨_, rfl, ⟨_, s, _, rfl, last_at _ _ _ rfl, g, rfl, blk_alloc HG.out _⟩, below_alloc (Below.refl _ _) _⟩
/-- What stands behind errors.As: the target is set, all else is as it was. -/
theorem as_world {w : World} {t : Addr} {old : Value} (ht : w.cell? t = some old) (o1 o2 o3 o4 : Obj) (v : Value) :
    let W := ((((w.alloc o1).alloc o2).alloc o3).alloc o4).setCell t v
    W.cell? t = some v ∧ (∀ k, k < w.heap.size → k ≠ t.block → W.heap[k]? = w.heap[k]?) ∧ (∀ w0 : World, w0.heap.size ≤ t.block → Below w0.heap.size w0 w → Below w0.heap.size w0 W) := by
  have hl : t.block < w.heap.size := World.block_lt_of_cell? _ _ ht
  have hb : Below w.heap.size w ((((w.alloc o1).alloc o2).alloc o3).alloc o4) := below_alloc (below_alloc (below_alloc (below_alloc (Below.refl _ _) _) _) _) _
  refine ⟨World.cell?_setCell_same _ t v ((hb.cell hl).trans ht), fun k hk hne => ?_, fun w0 h0 hw => ?_⟩
  · rw [Below.heap_setCell _ _ _ k hne]
    exact hb.block k hk
  · exact Below.setCell (below_step hw hb) h0 _
set_option maxHeartbeats 4000000 in
theorem of_wr (v : Value) (code : Int) (w : World) (h : IsWr w v code) (hc : Cond w) : Calls Tryd.prog 27 #[v] w fun e w' => e = .returned (.agg #[.int .u8 3, .int .u32 code]) ∧ Below w.heap.size w w' := by
  obtain ⟨g, s, v', rfl, hg, g', rfl, hg'⟩ := h
  have HG := Aside0.mk hg
  have HG' := Aside0.mk hg'
  have HC := Aside0.mk hc
  clear hg hg' hc
  go_enter Tryd.func27, Tryd.ntmps27
  go_wp2_with fail
  have hV : Below w.heap.size w ((w.alloc (.cells #[.int .u8 0, .int .u32 0] 33)).alloc (.cells #[.pointer none] 77)) := below_alloc (below_alloc (Below.refl _ _) _) _
  have hr : ((w.alloc (.cells #[.int .u8 0, .int .u32 0] 33)).alloc (.cells #[.pointer none] 77)).heap[w.heap.size]? = some (.cells #[.int .u8 0, .int .u32 0] 33 (0, 0)) := blk_alloc (last_at _ _ _ rfl) _
  have ht : ((w.alloc (.cells #[.int .u8 0, .int .u32 0] 33)).alloc (.cells #[.pointer none] 77)).heap[w.heap.size + 1]? = some (.cells #[.pointer none] 77 (0, 0)) := last_at _ _ _ (by simp)
  generalize (w.alloc (.cells #[.int .u8 0, .int .u32 0] 33)).alloc (.cells #[.pointer none] 77) = V at hV hr ht ⊢
  have hT : V.cell? ⟨w.heap.size + 1, 0, none⟩ = some (.pointer none) := (blk_cell ht 0).trans rfl
  have hgl' : g' < w.heap.size := blk_lt HG'.out
  have hl := blk_lt ht
  refine (as_wrap ⟨g', 0, none⟩ ⟨w.heap.size + 1, 0, none⟩ g (.pointer none) V ((blk_cell (blk_below HG.out hV) 1).trans rfl) (HC.out.below hV) hT (blk_frozen ht 0)).mono ?_
  rintro e W ⟨rfl, hW⟩
  obtain ⟨a1, a2, a3⟩ : W.cell? ⟨w.heap.size + 1, 0, none⟩ = some (.pointer (some ⟨g', 0, none⟩)) ∧ (∀ k, k < V.heap.size → k ≠ w.heap.size + 1 → W.heap[k]? = V.heap[k]?) ∧ (∀ w0 : World, w0.heap.size ≤ w.heap.size + 1 → Below w0.heap.size w0 V → Below w0.heap.size w0 W) := by
    rw [hW]
    exact as_world hT _ _ _ _ _
  have HB := Aside0.mk (a3 w (by omega) hV)
  have hbb : W.heap[g']? = some (.cells #[.int .u8 3, .int .u32 code] 81 (0, 0)) := (a2 g' (by omega) (by omega)).trans (blk_below HG'.out hV)
  have hrr : W.heap[w.heap.size]? = some (.cells #[.int .u8 0, .int .u32 0] 33 (0, 0)) := (a2 w.heap.size (by omega) (by omega)).trans hr
  clear a2 a3 hW hT ht hr hV
  have b0 : W.cell? ⟨g', 0, none⟩ = some (.int .u8 3) := (blk_cell hbb 0).trans rfl
  have b1 : W.cell? ⟨g', 1, none⟩ = some (.int .u32 code) := (blk_cell hbb 1).trans rfl
  have r0 : W.cell? ⟨w.heap.size, 0, none⟩ = some (.int .u8 0) := (blk_cell hrr 0).trans rfl
  have r1 : W.cell? ⟨w.heap.size, 1, none⟩ = some (.int .u32 0) := (blk_cell hrr 1).trans rfl
  have f0 := blk_frozen hrr 0
  have f1 := blk_frozen hrr 1
  have hle : w.heap.size ≤ w.heap.size := Nat.le_refl _
  go_wp2_with fail
  exact bodyPost_ret (v := .agg #[.int .u8 3, .int .u32 code]) (by simp [results, Tryd.results27, go_sem, r0, r1]) rfl ⟨rfl, Below.setCell (Below.setCell HB.out hle _) hle _⟩
set_option maxHeartbeats 4000000 in
theorem of_bad (v : Value) (code : Int) (w : World) (h : IsBad w v code) (hc : Cond w) : Calls Tryd.prog 27 #[v] w fun e w' => e = .returned (.agg #[.int .u8 3, .int .u32 code]) ∧ Below w.heap.size w w' := by
  obtain ⟨g', rfl, hg'⟩ := h
  have HG' := Aside0.mk hg'
  have HC := Aside0.mk hc
  clear hg' hc
  go_enter Tryd.func27, Tryd.ntmps27
  go_wp2_with fail
  have hV : Below w.heap.size w ((w.alloc (.cells #[.int .u8 0, .int .u32 0] 33)).alloc (.cells #[.pointer none] 77)) := below_alloc (below_alloc (Below.refl _ _) _) _
  have hr : ((w.alloc (.cells #[.int .u8 0, .int .u32 0] 33)).alloc (.cells #[.pointer none] 77)).heap[w.heap.size]? = some (.cells #[.int .u8 0, .int .u32 0] 33 (0, 0)) := blk_alloc (last_at _ _ _ rfl) _
  have ht : ((w.alloc (.cells #[.int .u8 0, .int .u32 0] 33)).alloc (.cells #[.pointer none] 77)).heap[w.heap.size + 1]? = some (.cells #[.pointer none] 77 (0, 0)) := last_at _ _ _ (by simp)
  generalize (w.alloc (.cells #[.int .u8 0, .int .u32 0] 33)).alloc (.cells #[.pointer none] 77) = V at hV hr ht ⊢
  have hT : V.cell? ⟨w.heap.size + 1, 0, none⟩ = some (.pointer none) := (blk_cell ht 0).trans rfl
  have hgl' : g' < w.heap.size := blk_lt HG'.out
  have hl := blk_lt ht
  refine (as_hit ⟨g', 0, none⟩ ⟨w.heap.size + 1, 0, none⟩ (.pointer none) V (HC.out.below hV) hT (blk_frozen ht 0)).mono ?_
  rintro e W ⟨rfl, hW⟩
  obtain ⟨a1, a2, a3⟩ : W.cell? ⟨w.heap.size + 1, 0, none⟩ = some (.pointer (some ⟨g', 0, none⟩)) ∧ (∀ k, k < V.heap.size → k ≠ w.heap.size + 1 → W.heap[k]? = V.heap[k]?) ∧ (∀ w0 : World, w0.heap.size ≤ w.heap.size + 1 → Below w0.heap.size w0 V → Below w0.heap.size w0 W) := by
    rw [hW]
    exact as_world hT _ _ _ _ _
  have HB := Aside0.mk (a3 w (by omega) hV)
  have hbb : W.heap[g']? = some (.cells #[.int .u8 3, .int .u32 code] 81 (0, 0)) := (a2 g' (by omega) (by omega)).trans (blk_below HG'.out hV)
  have hrr : W.heap[w.heap.size]? = some (.cells #[.int .u8 0, .int .u32 0] 33 (0, 0)) := (a2 w.heap.size (by omega) (by omega)).trans hr
  clear a2 a3 hW hT ht hr hV
  have b0 : W.cell? ⟨g', 0, none⟩ = some (.int .u8 3) := (blk_cell hbb 0).trans rfl
  have b1 : W.cell? ⟨g', 1, none⟩ = some (.int .u32 code) := (blk_cell hbb 1).trans rfl
  have r0 : W.cell? ⟨w.heap.size, 0, none⟩ = some (.int .u8 0) := (blk_cell hrr 0).trans rfl
  have r1 : W.cell? ⟨w.heap.size, 1, none⟩ = some (.int .u32 0) := (blk_cell hrr 1).trans rfl
  have f0 := blk_frozen hrr 0
  have f1 := blk_frozen hrr 1
  have hle : w.heap.size ≤ w.heap.size := Nat.le_refl _
  go_wp2_with fail
  exact bodyPost_ret (v := .agg #[.int .u8 3, .int .u32 code]) (by simp [results, Tryd.results27, go_sem, r0, r1]) rfl ⟨rfl, Below.setCell (Below.setCell HB.out hle _) hle _⟩
end Go.Proofs.YtkhlldhcmgkioaaDoor
