import Derived.Test.YtbjjobifpmjhhaaDoorMsg1
import Derived.Test.YtbjjobifpmjhhaaDoorPAllx2
import Derived.Test.YtbjjobifpmjhhaaDoorPAllx2
import Derived.Test.YtbjjobifpmjhhaaDoorPAllx2
import Derived.Test.YtbjjobifpmjhhaaDoorPAllx1
import Derived.Deep.RegionHeld3
namespace Go.Proofs.YtbjjobifpmjhhaaDoor
open Go.RowKit Go.Proofs.YtbjjobifpmjhhaaDoorW.PrintWords Go.Proofs.YtbjjobifpmjhhaaDoorW.PrintLast Go.Proofs.YtbjjobifpmjhhaaDoorW.PrintMore Go.Proofs.YtbjjobifpmjhhaaDoor.PAll
set_option linter.unusedVariables false
set_option maxHeartbeats 4000000 in
set_option maxRecDepth 100000 in
theorem Take_bye (g : Nat) (v u : Value) (busy text : Bool) (A : Option Addr) (c : Nat) (w : World) (hv : v.oneCell' = true) (hG : IsG w g v busy text u false) (hC : Kd.C (Kd.int .u8) w A 5 [3, 232, 98, 121, 101]) (hc : 5 ≤ c) : Calls Tryd.prog 14 #[.pointer (some ⟨g, 0, none⟩), .agg #[.bool true, .int .u8 8, .bool false, .int .u32 0, .slice A 5 c]] w fun e w' => ∃ vn, e = .returned (.tuple #[.agg #[.int .u8 4, .bool false, vn, .int .u32 1000], .bool true]) ∧ Kd.R (Kd.int .u8) 5 w' w.heap.size (fun _ => True) vn [98, 121, 101] ∧ IsG w' g (.slice none 0 0) busy text u true ∧ (∀ w0 : World, w0.heap.size ≤ g → Below w0.heap.size w0 w → Below w0.heap.size w0 w') := by
  have hu30 := Tryd.underlying30
  have hu26 := Tryd.underlying26
  have hgl : g < w.heap.size := blk_lt hG
  have HG := Aside0.mk hG
  have HC := Aside0.mk hC
  clear hG hC
  go_enter Tryd.func14, Tryd.ntmps14
  go_wp2_with fail
  refine (over_any g v u busy text false _ (show IsG _ g v busy text u false from blk_alloc (blk_alloc HG.out _) _)).mono ?_
  rintro e w1 ⟨rfl, hw1⟩
  have hres : w1.heap[w.heap.size + 1]? = some (.cells #[.int .u8 0, .bool false, .slice none 0 0, .int .u32 0] 30 (0, 0)) := by rw [hw1]; exact last_at _ _ _ (by simp)
  have hbox : w1.heap[w.heap.size]? = some (.cells #[.bool true, .int .u8 8, .bool false, .int .u32 0, .slice A 5 c] 26 (0, 0)) := by rw [hw1]; exact blk_alloc (last_at _ _ _ rfl) _
  have hB1 : Below w.heap.size w w1 := by rw [hw1]; exact below_alloc (below_alloc (Below.refl _ _) _) _
  have hG1 : IsG w1 g v busy text u false := by rw [hw1]; exact blk_alloc (blk_alloc HG.out _) _
  clear hw1
  have bc0 : w1.cell? ⟨w.heap.size, 0, none⟩ = some (.bool true) := (blk_cell hbox 0).trans rfl
  have bf0 := blk_frozen hbox 0
  have bc1 : w1.cell? ⟨w.heap.size, 1, none⟩ = some (.int .u8 8) := (blk_cell hbox 1).trans rfl
  have bf1 := blk_frozen hbox 1
  have bc2 : w1.cell? ⟨w.heap.size, 2, none⟩ = some (.bool false) := (blk_cell hbox 2).trans rfl
  have bf2 := blk_frozen hbox 2
  have bc3 : w1.cell? ⟨w.heap.size, 3, none⟩ = some (.int .u32 0) := (blk_cell hbox 3).trans rfl
  have bf3 := blk_frozen hbox 3
  have bc4 : w1.cell? ⟨w.heap.size, 4, none⟩ = some (.slice A 5 c) := (blk_cell hbox 4).trans rfl
  have bf4 := blk_frozen hbox 4
  have bl : w.heap.size < w1.heap.size := blk_lt hbox
  have HB1 := Aside0.mk hB1
  have HR1 := Aside0.mk hres
  have HG1 := Aside0.mk hG1
  have hl1 : w.heap.size + 1 < w1.heap.size := blk_lt hres
  clear hB1 hres hG1 hbox
  go_wp2_with fail
  refine (take_bye g v u busy text A c _ HG1.out (Kd.C_below HC.out HB1.out) hc).mono ?_
  rintro e w2 ⟨vn, rfl, ho, hG2, hk, hB0⟩
  have hr2 : w2.heap[w.heap.size + 1]? = some (.cells #[.int .u8 0, .bool false, .slice none 0 0, .int .u32 0] 30 (0, 0)) := hk.blk HR1.out (by omega) (by simp)
  have hl2 : w1.heap.size ≤ w2.heap.size := hk.1
  have ho2 := Kd.R_types (Kd.R_types (Kd.R_lower ho HB1.out.size) hG2 (by intro q hq; simp [Kd.int, Kd.scalar] at hq; omega)) hr2 (by intro q hq; simp [Kd.int, Kd.scalar] at hq; omega)
  obtain ⟨Av, cv, rfl⟩ := Kd.R_slice ho2
  have HO := Aside0.mk ho2
  have HG2 := Aside0.mk hG2
  have HR2 := Aside0.mk hr2
  have HB0 := Aside0.mk (fun (w0 : World) (h0 : w0.heap.size ≤ g) (hw : Below w0.heap.size w0 w) => hB0 w0 h0 (below_step hw HB1.out))
  have gc0 : w2.cell? ⟨g, 0, none⟩ = some v := (blk_cell hG2 0).trans rfl
  have gf0 := blk_frozen hG2 0
  have gc4 : w2.cell? ⟨g, 4, none⟩ = some (.bool true) := (blk_cell hG2 4).trans rfl
  have gl := blk_lt hG2
  have rc0 : w2.cell? ⟨w.heap.size + 1, 0, none⟩ = some (.int .u8 0) := (blk_cell hr2 0).trans rfl
  have rf0 := blk_frozen hr2 0
  have rc1 : w2.cell? ⟨w.heap.size + 1, 1, none⟩ = some (.bool false) := (blk_cell hr2 1).trans rfl
  have rf1 := blk_frozen hr2 1
  have rc2 : w2.cell? ⟨w.heap.size + 1, 2, none⟩ = some (.slice none 0 0) := (blk_cell hr2 2).trans rfl
  have rf2 := blk_frozen hr2 2
  have rc3 : w2.cell? ⟨w.heap.size + 1, 3, none⟩ = some (.int .u32 0) := (blk_cell hr2 3).trans rfl
  have rf3 := blk_frozen hr2 3
  have rl : w.heap.size + 1 < w2.heap.size := blk_lt hr2
  clear ho ho2 hG2 hr2 hk hB0 bc0 bc1 bc2 bc3 bc4 bf0 bf1 bf2 bf3 bf4 bl
  go_wp2_with fail
  have hne : g ≠ w.heap.size + 1 := by omega
  have hR := Kd.R_alloc (Kd.R_far (Kd.R_far (Kd.R_far (Kd.R_far (Kd.R_far HO.out (p := ⟨g, 0, none⟩) (fun k hk => hk.1.2) (.slice none 0 0)) (p := ⟨w.heap.size + 1, 0, none⟩) (fun k hk => hk.2) (.int .u8 4)) (p := ⟨w.heap.size + 1, 1, none⟩) (fun k hk => hk.2) (.bool false)) (p := ⟨w.heap.size + 1, 2, none⟩) (fun k hk => hk.2) (.slice Av 3 cv)) (p := ⟨w.heap.size + 1, 3, none⟩) (fun k hk => hk.2) (.int .u32 1000)) (.cells #[.int .u8 4, .bool false, .slice Av 3 cv, .int .u32 1000] 30)
  have hR2 := Kd.R_mono hR (ok' := fun _ => True) (fun _ _ => trivial)
  have hGa : IsG (w2.setCell ⟨g, 0, none⟩ (.slice none 0 0)) g (.slice none 0 0) busy text u true := blk_put HG2.out 0 (.slice none 0 0) rfl
  have hG3 := IsG.far (IsG.far (IsG.far (IsG.far hGa (p := ⟨w.heap.size + 1, 0, none⟩) (x := .int .u8 4) hne) (p := ⟨w.heap.size + 1, 1, none⟩) (x := .bool false) hne) (p := ⟨w.heap.size + 1, 2, none⟩) (x := .slice Av 3 cv) hne) (p := ⟨w.heap.size + 1, 3, none⟩) (x := .int .u32 1000) hne
  refine bodyPost_ret (v := .tuple #[.agg #[.int .u8 4, .bool false, .slice Av [98, 121, 101].length cv, .int .u32 1000], .bool true]) (by simp [results, Tryd.results14, go_sem, rc0, rc1, rc2, rc3, rl]) rfl ⟨_, rfl, hR2, blk_alloc hG3 _, fun w0 h0 hw => ?_⟩
  have hl0 : w0.heap.size ≤ w.heap.size + 1 := by have := hw.size; omega
  exact below_alloc (Below.setCell (Below.setCell (Below.setCell (Below.setCell (Below.setCell (HB0.out w0 h0 hw) h0 _) hl0 _) hl0 _) hl0 _) hl0 _) _
end Go.Proofs.YtbjjobifpmjhhaaDoor
