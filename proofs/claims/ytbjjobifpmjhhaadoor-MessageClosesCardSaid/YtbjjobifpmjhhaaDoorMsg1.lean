import Derived.Test.YtbjjobifpmjhhaaDoorMsg0
import Derived.Test.YtbjjobifpmjhhaaDoorPAllx2
import Derived.Test.YtbjjobifpmjhhaaDoorPAllx2
import Derived.Test.YtbjjobifpmjhhaaDoorPAllx2
import Derived.Test.YtbjjobifpmjhhaaDoorPAllx1
import Derived.Deep.RegionHeld3
namespace Go.Proofs.YtbjjobifpmjhhaaDoor
open Go.RowKit Go.Proofs.YtbjjobifpmjhhaaDoorW.PrintWords Go.Proofs.YtbjjobifpmjhhaaDoorW.PrintLast Go.Proofs.YtbjjobifpmjhhaaDoorW.PrintMore Go.Proofs.YtbjjobifpmjhhaaDoor.PAll
set_option linter.unusedVariables false
set_option maxHeartbeats 4000000 in
set_option maxRecDepth 100000 in
theorem take_bye (g : Nat) (v u : Value) (busy text : Bool) (A : Option Addr) (c : Nat) (w : World) (hG : IsG w g v busy text u false) (hC : Kd.C (Kd.int .u8) w A 5 [3, 232, 98, 121, 101]) (hc : 5 ≤ c) : Calls Tryd.prog 25 #[.pointer (some ⟨g, 0, none⟩), .agg #[.bool true, .int .u8 8, .bool false, .int .u32 0, .slice A 5 c]] w fun e w' => ∃ vn, e = .returned (.tuple #[.agg #[.int .u8 4, .bool false, vn, .int .u32 1000], .bool true, .nilIface]) ∧ Kd.R (Kd.int .u8) 5 w' w.heap.size (fun _ => True) vn [98, 121, 101] ∧ IsG w' g v busy text u true ∧ KeepBut w w' g none ∧ (∀ w0 : World, w0.heap.size ≤ g → Below w0.heap.size w0 w → Below w0.heap.size w0 w') := by
  have hu30 := Tryd.underlying30
  have hu26 := Tryd.underlying26
  have hgl : g < w.heap.size := blk_lt hG
  have HG := Aside0.mk hG
  have HC := Aside0.mk hC
  clear hG hC
  go_enter Tryd.func25, Tryd.ntmps25
  go_wp2_with fail
  refine (closes_bye A c _ (Kd.C_below HC.out (below_alloc (below_alloc (Below.refl _ _) _) _)) hc).mono ?_
  rintro e w1 ⟨vn, rfl, ho, hb⟩
  have hr : w1.heap[w.heap.size + 1]? = some (.cells #[.int .u8 0, .bool false, .slice none 0 0, .int .u32 0] 30 (0, 0)) := blk_below (last_at _ _ _ (by simp)) hb
  have hB := below_step (below_alloc (below_alloc (Below.refl w.heap.size w) _) _) hb
  have hG1 : IsG w1 g v busy text u false := blk_below HG.out hB
  have gc4 : w1.cell? ⟨g, 4, none⟩ = some (.bool false) := (blk_cell hG1 4).trans rfl
  have gf4 := blk_frozen hG1 4
  have gl := blk_lt hG1
  obtain ⟨Av, cv, rfl⟩ := Kd.R_slice ho
  have ho2 := Kd.R_types (Kd.R_types (Kd.R_lower ho (show w.heap.size ≤ _ by simp; omega)) hG1 (by intro q hq; simp [Kd.int, Kd.scalar] at hq; omega)) hr (by intro q hq; simp [Kd.int, Kd.scalar] at hq; omega)
  have HO := Aside0.mk ho2
  have HB := Aside0.mk hB
  have HR := Aside0.mk hr
  have HG1 := Aside0.mk hG1
  have hl1 : w.heap.size + 1 < w1.heap.size := blk_lt hr
  clear ho ho2 hb hB hG1 hr
  go_wp2_with fail
  clear gc4 gf4 gl
  have hbox : (((w1.setCell ⟨g, 4, none⟩ (.bool true)).alloc (.cells #[.int .u8 4, .bool false, .slice Av 3 cv, .int .u32 1000] 30))).heap[w1.heap.size]? = some (.cells #[.int .u8 4, .bool false, .slice Av 3 cv, .int .u32 1000] 30 (0, 0)) := last_at _ _ _ (by simp)
  have hres : (((w1.setCell ⟨g, 4, none⟩ (.bool true)).alloc (.cells #[.int .u8 4, .bool false, .slice Av 3 cv, .int .u32 1000] 30))).heap[w.heap.size + 1]? = some (.cells #[.int .u8 0, .bool false, .slice none 0 0, .int .u32 0] 30 (0, 0)) := blk_alloc ((Below.heap_setCell _ _ _ _ (by show w.heap.size + 1 ≠ g; omega)).trans HR.out) _
  have hG2 : IsG (((w1.setCell ⟨g, 4, none⟩ (.bool true)).alloc (.cells #[.int .u8 4, .bool false, .slice Av 3 cv, .int .u32 1000] 30))) g v busy text u true := blk_alloc (blk_put HG1.out 4 (.bool true) rfl) _
  have hO2 : Kd.R (Kd.int .u8) 5 (((w1.setCell ⟨g, 4, none⟩ (.bool true)).alloc (.cells #[.int .u8 4, .bool false, .slice Av 3 cv, .int .u32 1000] 30))) w.heap.size _ (.slice Av [98, 121, 101].length cv) [98, 121, 101] := Kd.R_alloc (Kd.R_far HO.out (fun k hk => hk.1.2) _) _
  have hK2 : KeepBut w (((w1.setCell ⟨g, 4, none⟩ (.bool true)).alloc (.cells #[.int .u8 4, .bool false, .slice Av 3 cv, .int .u32 1000] 30))) g none := keep_alloc ((KeepBut.of_below HB.out g none).set_ 4 _) _
  have hW2 : ∀ w0 : World, w0.heap.size ≤ g → Below w0.heap.size w0 w → Below w0.heap.size w0 (((w1.setCell ⟨g, 4, none⟩ (.bool true)).alloc (.cells #[.int .u8 4, .bool false, .slice Av 3 cv, .int .u32 1000] 30))) := fun w0 h0 hw => below_alloc (Below.setCell (below_step hw HB.out) h0 _) _
  generalize ((w1.setCell ⟨g, 4, none⟩ (.bool true)).alloc (.cells #[.int .u8 4, .bool false, .slice Av 3 cv, .int .u32 1000] 30)) = W2 at hbox hres hG2 hO2 hK2 hW2 ⊢
  have HG2 := Aside0.mk hG2
  have HO2 := Aside0.mk hO2
  have HK2 := Aside0.mk hK2
  have HW2 := Aside0.mk hW2
  clear hG2 hO2 hK2 hW2 HO HB HR HG1 HG
  have bc0 : W2.cell? ⟨w1.heap.size, 0, none⟩ = some (.int .u8 4) := (blk_cell hbox 0).trans rfl
  have bc1 : W2.cell? ⟨w1.heap.size, 1, none⟩ = some (.bool false) := (blk_cell hbox 1).trans rfl
  have bc2 : W2.cell? ⟨w1.heap.size, 2, none⟩ = some (.slice Av 3 cv) := (blk_cell hbox 2).trans rfl
  have bc3 : W2.cell? ⟨w1.heap.size, 3, none⟩ = some (.int .u32 1000) := (blk_cell hbox 3).trans rfl
  have rc0 : W2.cell? ⟨w.heap.size + 1, 0, none⟩ = some (.int .u8 0) := (blk_cell hres 0).trans rfl
  have rc1 : W2.cell? ⟨w.heap.size + 1, 1, none⟩ = some (.bool false) := (blk_cell hres 1).trans rfl
  have rc2 : W2.cell? ⟨w.heap.size + 1, 2, none⟩ = some (.slice none 0 0) := (blk_cell hres 2).trans rfl
  have rc3 : W2.cell? ⟨w.heap.size + 1, 3, none⟩ = some (.int .u32 0) := (blk_cell hres 3).trans rfl
  have rf0 := blk_frozen hres 0
  have rf1 := blk_frozen hres 1
  have rf2 := blk_frozen hres 2
  have rf3 := blk_frozen hres 3
  have rl := blk_lt hres
  have bl := blk_lt hbox
  go_region_with (go_at_call 34; with_reducible refine (wrap_nil _ _).mono ?_; rintro e w' ⟨rfl, rfl⟩)
  all_goals (simp only [Act.put, List.getElem_toArray, List.getElem_cons_zero, List.getElem_cons_succ, List.setIfInBounds_toArray, List.set_cons_zero, List.set_cons_succ]; go_wp2_with fail)
  all_goals
    have hne : g ≠ w.heap.size + 1 := by omega
    have hle : w.heap.size ≤ w.heap.size + 1 := by omega
    have hR := Kd.R_drew (Kd.R_far (Kd.R_far (Kd.R_far (Kd.R_far HO2.out (p := ⟨w.heap.size + 1, 0, none⟩) (fun k hk => hk.2) (.int .u8 4)) (p := ⟨w.heap.size + 1, 1, none⟩) (fun k hk => hk.2) (.bool false)) (p := ⟨w.heap.size + 1, 2, none⟩) (fun k hk => hk.2) (.slice Av 3 cv)) (p := ⟨w.heap.size + 1, 3, none⟩) (fun k hk => hk.2) (.int .u32 1000))
    have hR2 := Kd.R_mono hR (ok' := fun _ => True) (fun _ _ => trivial)
    have hG3 := IsG.far (IsG.far (IsG.far (IsG.far HG2.out (p := ⟨w.heap.size + 1, 0, none⟩) (x := .int .u8 4) hne) (p := ⟨w.heap.size + 1, 1, none⟩) (x := .bool false) hne) (p := ⟨w.heap.size + 1, 2, none⟩) (x := .slice Av 3 cv) hne) (p := ⟨w.heap.size + 1, 3, none⟩) (x := .int .u32 1000) hne
    have hK3 := keep_drew (keep_far (keep_far (keep_far (keep_far HK2.out (p := ⟨w.heap.size + 1, 0, none⟩) hle (.int .u8 4)) (p := ⟨w.heap.size + 1, 1, none⟩) hle (.bool false)) (p := ⟨w.heap.size + 1, 2, none⟩) hle (.slice Av 3 cv)) (p := ⟨w.heap.size + 1, 3, none⟩) hle (.int .u32 1000))
    refine bodyPost_ret (v := .tuple #[.agg #[.int .u8 4, .bool false, .slice Av [98, 121, 101].length cv, .int .u32 1000], .bool true, .nilIface]) (by simp [results, Tryd.results25, go_sem, rc0, rc1, rc2, rc3]) rfl ⟨_, rfl, hR2, hG3, hK3, fun w0 h0 hw => ?_⟩
    have hl0 : w0.heap.size ≤ w.heap.size + 1 := by have := hw.size; omega
    exact below_drew (Below.setCell (Below.setCell (Below.setCell (Below.setCell (HW2.out w0 h0 hw) hl0 _) hl0 _) hl0 _) hl0 _)
end Go.Proofs.YtbjjobifpmjhhaaDoor
