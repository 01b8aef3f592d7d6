/- What the law's row rests on, part 8. -/
import Derived.Test.YtbjjobifpmjhhaaDoorZ7
import Derived.Deep.RegionHeld3
namespace Go.Proofs.YtbjjobifpmjhhaaDoor
open Go.RowKit Go.Proofs.YtbjjobifpmjhhaaDoorW.PrintWords Go.Proofs.YtbjjobifpmjhhaaDoorW.PrintLast Go.Proofs.YtbjjobifpmjhhaaDoorW.PrintMore Go.Proofs.YtbjjobifpmjhhaaDoor.PAll
set_option linter.unusedVariables false
/-- What closes answers at these bytes: a note with this code and these bytes. -/
def ClosesTo (l d : List Int) (code : Int) : Prop := ∀ (A : Option Addr) (c : Nat) (w : World), Kd.C (Kd.int .u8) w A l.length l → l.length ≤ c → Calls Tryd.prog 35 #[.slice A l.length c] w fun e w' => ∃ v, e = .returned (.tuple #[.agg #[.int .u8 4, .bool false, v, .int .u32 code], .nilIface]) ∧ Kd.R (Kd.int .u8) 5 w' w.heap.size (fun _ => True) v d ∧ Below w.heap.size w w'
set_option maxHeartbeats 4000000 in
set_option maxRecDepth 100000 in
theorem take_close (l d : List Int) (code : Int) (hcl : ClosesTo l d code) (g : Nat) (v u : Value) (busy text : Bool) (A : Option Addr) (c : Nat) (w : World) (hG : IsG w g v busy text u false) (hC : Kd.C (Kd.int .u8) w A l.length l) (hc : l.length ≤ c) : Calls Tryd.prog 25 #[.pointer (some ⟨g, 0, none⟩), .agg #[.bool true, .int .u8 8, .bool false, .int .u32 0, .slice A l.length c]] w fun e w' => ∃ vn, e = .returned (.tuple #[.agg #[.int .u8 4, .bool false, vn, .int .u32 code], .bool true, .nilIface]) ∧ Kd.R (Kd.int .u8) 5 w' w.heap.size (fun _ => True) vn d ∧ IsG w' g v busy text u true ∧ KeepBut w w' g none ∧ (∀ w0 : World, w0.heap.size ≤ g → Below w0.heap.size w0 w → Below w0.heap.size w0 w') := by
  have hu30 := Tryd.underlying30
  have hu26 := Tryd.underlying26
  have hgl : g < w.heap.size := blk_lt hG
  have HG := Aside0.mk hG
  have HC := Aside0.mk hC
  clear hG hC
  go_enter Tryd.func25, Tryd.ntmps25
  go_wp2_with fail
  refine (hcl A c _ (Kd.C_below HC.out (below_alloc (below_alloc (Below.refl _ _) _) _)) hc).mono ?_
  rintro e w1 ⟨vn, rfl, ho, hb⟩
  have hr : w1.heap[w.heap.size + 1]? = some (.cells #[.int .u8 0, .bool false, .slice none 0 0, .int .u32 0] 30 (0, 0)) := blk_below (last_at _ _ _ (by simp)) hb
  have hB := below_step (below_alloc (below_alloc (Below.refl w.heap.size w) _) _) hb
  have hG1 : IsG w1 g v busy text u false := blk_below HG.out hB
  have gc4 : w1.cell? ⟨g, 4, none⟩ = some (.bool false) := (blk_cell hG1 4).trans rfl
  have gf4 := blk_frozen hG1 4
  have gl := blk_lt hG1
  obtain ⟨Av, cv, rfl⟩ := Kd.R_slice ho
  have ho2 := Kd.R_types (Kd.R_types (Kd.R_lower ho (show w.heap.size ≤ _ by simp; omega)) hG1 (by intro q hq; simp [Kd.int, Kd.scalar] at hq; omega)) hr (by intro q hq; simp [Kd.int, Kd.scalar] at hq; omega)
  have HO := Aside0.mk ho2
  have HB := Aside0.mk hB
  have HR := Aside0.mk hr
  have HG1 := Aside0.mk hG1
  have hl1 : w.heap.size + 1 < w1.heap.size := blk_lt hr
  clear ho ho2 hb hB hG1 hr
  go_wp2_with fail
  clear gc4 gf4 gl
  have hbox : (((w1.setCell ⟨g, 4, none⟩ (.bool true)).alloc (.cells #[.int .u8 4, .bool false, .slice Av d.length cv, .int .u32 code] 30))).heap[w1.heap.size]? = some (.cells #[.int .u8 4, .bool false, .slice Av d.length cv, .int .u32 code] 30 (0, 0)) := last_at _ _ _ (by simp)
  have hres : (((w1.setCell ⟨g, 4, none⟩ (.bool true)).alloc (.cells #[.int .u8 4, .bool false, .slice Av d.length cv, .int .u32 code] 30))).heap[w.heap.size + 1]? = some (.cells #[.int .u8 0, .bool false, .slice none 0 0, .int .u32 0] 30 (0, 0)) := blk_alloc ((Below.heap_setCell _ _ _ _ (by show w.heap.size + 1 ≠ g; omega)).trans HR.out) _
  have hG2 : IsG (((w1.setCell ⟨g, 4, none⟩ (.bool true)).alloc (.cells #[.int .u8 4, .bool false, .slice Av d.length cv, .int .u32 code] 30))) g v busy text u true := blk_alloc (blk_put HG1.out 4 (.bool true) rfl) _
  have hO2 : Kd.R (Kd.int .u8) 5 (((w1.setCell ⟨g, 4, none⟩ (.bool true)).alloc (.cells #[.int .u8 4, .bool false, .slice Av d.length cv, .int .u32 code] 30))) w.heap.size _ (.slice Av d.length cv) d := Kd.R_alloc (Kd.R_far HO.out (fun k hk => hk.1.2) _) _
  have hK2 : KeepBut w (((w1.setCell ⟨g, 4, none⟩ (.bool true)).alloc (.cells #[.int .u8 4, .bool false, .slice Av d.length cv, .int .u32 code] 30))) g none := keep_alloc ((KeepBut.of_below HB.out g none).set_ 4 _) _
  have hW2 : ∀ w0 : World, w0.heap.size ≤ g → Below w0.heap.size w0 w → Below w0.heap.size w0 (((w1.setCell ⟨g, 4, none⟩ (.bool true)).alloc (.cells #[.int .u8 4, .bool false, .slice Av d.length cv, .int .u32 code] 30))) := fun w0 h0 hw => below_alloc (Below.setCell (below_step hw HB.out) h0 _) _
  generalize ((w1.setCell ⟨g, 4, none⟩ (.bool true)).alloc (.cells #[.int .u8 4, .bool false, .slice Av d.length cv, .int .u32 code] 30)) = W2 at hbox hres hG2 hO2 hK2 hW2 ⊢
  have HG2 := Aside0.mk hG2
  have HO2 := Aside0.mk hO2
  have HK2 := Aside0.mk hK2
  have HW2 := Aside0.mk hW2
  clear hG2 hO2 hK2 hW2 HO HB HR HG1 HG
  have bc0 : W2.cell? ⟨w1.heap.size, 0, none⟩ = some (.int .u8 4) := (blk_cell hbox 0).trans rfl
  have bc1 : W2.cell? ⟨w1.heap.size, 1, none⟩ = some (.bool false) := (blk_cell hbox 1).trans rfl
  have bc2 : W2.cell? ⟨w1.heap.size, 2, none⟩ = some (.slice Av d.length cv) := (blk_cell hbox 2).trans rfl
  have bc3 : W2.cell? ⟨w1.heap.size, 3, none⟩ = some (.int .u32 code) := (blk_cell hbox 3).trans rfl
  have rc0 : W2.cell? ⟨w.heap.size + 1, 0, none⟩ = some (.int .u8 0) := (blk_cell hres 0).trans rfl
  have rc1 : W2.cell? ⟨w.heap.size + 1, 1, none⟩ = some (.bool false) := (blk_cell hres 1).trans rfl
  have rc2 : W2.cell? ⟨w.heap.size + 1, 2, none⟩ = some (.slice none 0 0) := (blk_cell hres 2).trans rfl
  have rc3 : W2.cell? ⟨w.heap.size + 1, 3, none⟩ = some (.int .u32 0) := (blk_cell hres 3).trans rfl
  have rf0 := blk_frozen hres 0
  have rf1 := blk_frozen hres 1
  have rf2 := blk_frozen hres 2
  have rf3 := blk_frozen hres 3
  have rl := blk_lt hres
  have bl := blk_lt hbox
  go_region_with (go_at_call 34; with_reducible refine (wrap_nil _ _).mono ?_; rintro e w' ⟨rfl, rfl⟩)
  all_goals (simp only [Act.put, List.getElem_toArray, List.getElem_cons_zero, List.getElem_cons_succ, List.setIfInBounds_toArray, List.set_cons_zero, List.set_cons_succ]; go_wp2_with fail)
  all_goals
    have hne : g ≠ w.heap.size + 1 := by omega
    have hle : w.heap.size ≤ w.heap.size + 1 := by omega
    have hR := Kd.R_drew (Kd.R_far (Kd.R_far (Kd.R_far (Kd.R_far HO2.out (p := ⟨w.heap.size + 1, 0, none⟩) (fun k hk => hk.2) (.int .u8 4)) (p := ⟨w.heap.size + 1, 1, none⟩) (fun k hk => hk.2) (.bool false)) (p := ⟨w.heap.size + 1, 2, none⟩) (fun k hk => hk.2) (.slice Av d.length cv)) (p := ⟨w.heap.size + 1, 3, none⟩) (fun k hk => hk.2) (.int .u32 code))
    have hR2 := Kd.R_mono hR (ok' := fun _ => True) (fun _ _ => trivial)
    have hG3 := IsG.far (IsG.far (IsG.far (IsG.far HG2.out (p := ⟨w.heap.size + 1, 0, none⟩) (x := .int .u8 4) hne) (p := ⟨w.heap.size + 1, 1, none⟩) (x := .bool false) hne) (p := ⟨w.heap.size + 1, 2, none⟩) (x := .slice Av d.length cv) hne) (p := ⟨w.heap.size + 1, 3, none⟩) (x := .int .u32 code) hne
    have hK3 := keep_drew (keep_far (keep_far (keep_far (keep_far HK2.out (p := ⟨w.heap.size + 1, 0, none⟩) hle (.int .u8 4)) (p := ⟨w.heap.size + 1, 1, none⟩) hle (.bool false)) (p := ⟨w.heap.size + 1, 2, none⟩) hle (.slice Av d.length cv)) (p := ⟨w.heap.size + 1, 3, none⟩) hle (.int .u32 code))
    refine bodyPost_ret (v := .tuple #[.agg #[.int .u8 4, .bool false, .slice Av d.length cv, .int .u32 code], .bool true, .nilIface]) (by simp [results, Tryd.results25, go_sem, rc0, rc1, rc2, rc3]) rfl ⟨_, rfl, hR2, hG3, hK3, fun w0 h0 hw => ?_⟩
    have hl0 : w0.heap.size ≤ w.heap.size + 1 := by have := hw.size; omega
    exact below_drew (Below.setCell (Below.setCell (Below.setCell (Below.setCell (HW2.out w0 h0 hw) hl0 _) hl0 _) hl0 _) hl0 _)
set_option maxHeartbeats 4000000 in
set_option maxRecDepth 100000 in
theorem Take_close (l d : List Int) (code : Int) (hcl : ClosesTo l d code) (g : Nat) (v u : Value) (busy text : Bool) (A : Option Addr) (c : Nat) (w : World) (hv : v.oneCell' = true) (hG : IsG w g v busy text u false) (hC : Kd.C (Kd.int .u8) w A l.length l) (hc : l.length ≤ c) : Calls Tryd.prog 14 #[.pointer (some ⟨g, 0, none⟩), .agg #[.bool true, .int .u8 8, .bool false, .int .u32 0, .slice A l.length c]] w fun e w' => ∃ vn, e = .returned (.tuple #[.agg #[.int .u8 4, .bool false, vn, .int .u32 code], .bool true]) ∧ Kd.R (Kd.int .u8) 5 w' w.heap.size (fun _ => True) vn d ∧ IsG w' g (.slice none 0 0) busy text u true ∧ KeepBut w w' g none ∧ (∀ w0 : World, w0.heap.size ≤ g → Below w0.heap.size w0 w → Below w0.heap.size w0 w') := by
  have hu30 := Tryd.underlying30
  have hu26 := Tryd.underlying26
  have hgl : g < w.heap.size := blk_lt hG
  have HG := Aside0.mk hG
  have HC := Aside0.mk hC
  clear hG hC
  go_enter Tryd.func14, Tryd.ntmps14
  go_wp2_with fail
  refine (over_any g v u busy text false _ (show IsG _ g v busy text u false from blk_alloc (blk_alloc HG.out _) _)).mono ?_
  rintro e w1 ⟨rfl, hw1⟩
  have hres : w1.heap[w.heap.size + 1]? = some (.cells #[.int .u8 0, .bool false, .slice none 0 0, .int .u32 0] 30 (0, 0)) := by rw [hw1]; exact last_at _ _ _ (by simp)
  have hbox : w1.heap[w.heap.size]? = some (.cells #[.bool true, .int .u8 8, .bool false, .int .u32 0, .slice A l.length c] 26 (0, 0)) := by rw [hw1]; exact blk_alloc (last_at _ _ _ rfl) _
  have hB1 : Below w.heap.size w w1 := by rw [hw1]; exact below_alloc (below_alloc (Below.refl _ _) _) _
  have hG1 : IsG w1 g v busy text u false := by rw [hw1]; exact blk_alloc (blk_alloc HG.out _) _
  clear hw1
  have bc0 : w1.cell? ⟨w.heap.size, 0, none⟩ = some (.bool true) := (blk_cell hbox 0).trans rfl
  have bf0 := blk_frozen hbox 0
  have bc1 : w1.cell? ⟨w.heap.size, 1, none⟩ = some (.int .u8 8) := (blk_cell hbox 1).trans rfl
  have bf1 := blk_frozen hbox 1
  have bc2 : w1.cell? ⟨w.heap.size, 2, none⟩ = some (.bool false) := (blk_cell hbox 2).trans rfl
  have bf2 := blk_frozen hbox 2
  have bc3 : w1.cell? ⟨w.heap.size, 3, none⟩ = some (.int .u32 0) := (blk_cell hbox 3).trans rfl
  have bf3 := blk_frozen hbox 3
  have bc4 : w1.cell? ⟨w.heap.size, 4, none⟩ = some (.slice A l.length c) := (blk_cell hbox 4).trans rfl
  have bf4 := blk_frozen hbox 4
  have bl : w.heap.size < w1.heap.size := blk_lt hbox
  have HB1 := Aside0.mk hB1
  have HR1 := Aside0.mk hres
  have HG1 := Aside0.mk hG1
  have hl1 : w.heap.size + 1 < w1.heap.size := blk_lt hres
  clear hB1 hres hG1 hbox
  go_wp2_with fail
  refine (take_close l d code hcl g v u busy text A c _ HG1.out (Kd.C_below HC.out HB1.out) hc).mono ?_
  rintro e w2 ⟨vn, rfl, ho, hG2, hk, hB0⟩
  have hr2 : w2.heap[w.heap.size + 1]? = some (.cells #[.int .u8 0, .bool false, .slice none 0 0, .int .u32 0] 30 (0, 0)) := hk.blk HR1.out (by omega) (by simp)
  have hl2 : w1.heap.size ≤ w2.heap.size := hk.1
  have ho2 := Kd.R_types (Kd.R_types (Kd.R_lower ho HB1.out.size) hG2 (by intro q hq; simp [Kd.int, Kd.scalar] at hq; omega)) hr2 (by intro q hq; simp [Kd.int, Kd.scalar] at hq; omega)
  obtain ⟨Av, cv, rfl⟩ := Kd.R_slice ho2
  have HO := Aside0.mk ho2
  have HG2 := Aside0.mk hG2
  have HR2 := Aside0.mk hr2
  have HKB := Aside0.mk ((KeepBut.of_below HB1.out g none).trans hk (.inl rfl))
  have HB0 := Aside0.mk (fun (w0 : World) (h0 : w0.heap.size ≤ g) (hw : Below w0.heap.size w0 w) => hB0 w0 h0 (below_step hw HB1.out))
  have gc0 : w2.cell? ⟨g, 0, none⟩ = some v := (blk_cell hG2 0).trans rfl
  have gf0 := blk_frozen hG2 0
  have gc4 : w2.cell? ⟨g, 4, none⟩ = some (.bool true) := (blk_cell hG2 4).trans rfl
  have gl := blk_lt hG2
  have rc0 : w2.cell? ⟨w.heap.size + 1, 0, none⟩ = some (.int .u8 0) := (blk_cell hr2 0).trans rfl
  have rf0 := blk_frozen hr2 0
  have rc1 : w2.cell? ⟨w.heap.size + 1, 1, none⟩ = some (.bool false) := (blk_cell hr2 1).trans rfl
  have rf1 := blk_frozen hr2 1
  have rc2 : w2.cell? ⟨w.heap.size + 1, 2, none⟩ = some (.slice none 0 0) := (blk_cell hr2 2).trans rfl
  have rf2 := blk_frozen hr2 2
  have rc3 : w2.cell? ⟨w.heap.size + 1, 3, none⟩ = some (.int .u32 0) := (blk_cell hr2 3).trans rfl
  have rf3 := blk_frozen hr2 3
  have rl : w.heap.size + 1 < w2.heap.size := blk_lt hr2
  clear ho ho2 hG2 hr2 hk hB0 bc0 bc1 bc2 bc3 bc4 bf0 bf1 bf2 bf3 bf4 bl
  go_wp2_with fail
  have hne : g ≠ w.heap.size + 1 := by omega
  have hR := Kd.R_alloc (Kd.R_far (Kd.R_far (Kd.R_far (Kd.R_far (Kd.R_far HO.out (p := ⟨g, 0, none⟩) (fun k hk => hk.1.2) (.slice none 0 0)) (p := ⟨w.heap.size + 1, 0, none⟩) (fun k hk => hk.2) (.int .u8 4)) (p := ⟨w.heap.size + 1, 1, none⟩) (fun k hk => hk.2) (.bool false)) (p := ⟨w.heap.size + 1, 2, none⟩) (fun k hk => hk.2) (.slice Av d.length cv)) (p := ⟨w.heap.size + 1, 3, none⟩) (fun k hk => hk.2) (.int .u32 code)) (.cells #[.int .u8 4, .bool false, .slice Av d.length cv, .int .u32 code] 30)
  have hR2 := Kd.R_mono hR (ok' := fun _ => True) (fun _ _ => trivial)
  have hGa : IsG (w2.setCell ⟨g, 0, none⟩ (.slice none 0 0)) g (.slice none 0 0) busy text u true := blk_put HG2.out 0 (.slice none 0 0) rfl
  have hG3 := IsG.far (IsG.far (IsG.far (IsG.far hGa (p := ⟨w.heap.size + 1, 0, none⟩) (x := .int .u8 4) hne) (p := ⟨w.heap.size + 1, 1, none⟩) (x := .bool false) hne) (p := ⟨w.heap.size + 1, 2, none⟩) (x := .slice Av d.length cv) hne) (p := ⟨w.heap.size + 1, 3, none⟩) (x := .int .u32 code) hne
  refine bodyPost_ret (v := .tuple #[.agg #[.int .u8 4, .bool false, .slice Av d.length cv, .int .u32 code], .bool true]) (by simp [results, Tryd.results14, go_sem, rc0, rc1, rc2, rc3, rl]) rfl ⟨_, rfl, hR2, blk_alloc hG3 _, keep_alloc (keep_far (keep_far (keep_far (keep_far (HKB.out.set_ 0 (.slice none 0 0)) (p := ⟨w.heap.size + 1, 0, none⟩) (Nat.le_succ _) _) (p := ⟨w.heap.size + 1, 1, none⟩) (Nat.le_succ _) _) (p := ⟨w.heap.size + 1, 2, none⟩) (Nat.le_succ _) _) (p := ⟨w.heap.size + 1, 3, none⟩) (Nat.le_succ _) _) _, fun w0 h0 hw => ?_⟩
  have hl0 : w0.heap.size ≤ w.heap.size + 1 := by have := hw.size; omega
  exact below_alloc (Below.setCell (Below.setCell (Below.setCell (Below.setCell (Below.setCell (HB0.out w0 h0 hw) h0 _) hl0 _) hl0 _) hl0 _) hl0 _) _
set_option maxHeartbeats 2000000 in
theorem closes_none : ClosesTo [] [] 1005 := by
  intro A c w hC hc
  have hu30 := Tryd.underlying30
  go_enter Tryd.func35, Tryd.ntmps35
  go_wp2_with fail
  exact bodyPost_ret (v := .tuple #[.agg #[.int .u8 4, .bool false, .slice none 0 0, .int .u32 1005], .nilIface]) (by simp [results, Tryd.results35, go_sem]) rfl ⟨_, rfl, Kd.R_nil _ _ _ _ _, by repeat (first | exact Below.refl _ _ | apply below_alloc | refine Below.setCell ?_ (Nat.le_refl _) _)⟩
end Go.Proofs.YtbjjobifpmjhhaaDoor

namespace Go.Proofs.YtbjjobifpmjhhaaDoor
open Go.RowKit Go.Proofs.YtbjjobifpmjhhaaDoorW.PrintWords Go.Proofs.YtbjjobifpmjhhaaDoorW.PrintLast Go.Proofs.YtbjjobifpmjhhaaDoorW.PrintMore Go.Proofs.YtbjjobifpmjhhaaDoor.PAll
set_option linter.unusedVariables false
set_option maxHeartbeats 4000000 in
set_option maxRecDepth 100000 in
theorem closes_ok (h0 h1 : Int) (r : List Int) (code : Int) (k : Nat) (b0 : 0 ≤ h0) (b0' : h0 ≤ 255) (b1 : 0 ≤ h1) (b1' : h1 ≤ 255) (hcode : Go.bits .or .u32 (h0 * 256) h1 = code) (ht : toldB code = true) (hv : utf_Valid.f k r = some true) (hrl : r.length ≤ 140737488351232) : ClosesTo (h0 :: h1 :: r) r code := by
  intro A c w hC hc
  have hu30 := Tryd.underlying30
  have hlen : (h0 :: h1 :: r).length = r.length + 2 := by simp
  obtain ⟨ad, rfl, hx0⟩ := Kd.at_int hC 0 (by decide) (by simp; omega)
  obtain ⟨ad2, e2, hx1⟩ := Kd.at_int hC 1 (by decide) (by simp; omega)
  injection e2 with e2
  subst e2
  have y0 : w.cell? ad = some (.int .u8 h0) := hx0
  have y1 : w.cell? ⟨ad.block, ad.off + 1, none⟩ = some (.int .u8 h1) := hx1
  clear hx0 hx1
  have HC := Aside0.mk hC
  clear hC
  have e0 : IntKind.u32.wrap h0 = h0 := by simp [IntKind.wrap, IntKind.bits, IntKind.signed]; omega
  have e1 : IntKind.u32.wrap h1 = h1 := by simp [IntKind.wrap, IntKind.bits, IntKind.signed]; omega
  have e3 : IntKind.u32.wrap (h0 * 256) = h0 * 256 := by simp [IntKind.wrap, IntKind.bits, IntKind.signed]; omega
  have p0 : (0 : Int) < (r.length : Int) + 1 + 1 := by omega
  have p1 : (1 : Int) < (r.length : Int) + 1 + 1 := by omega
  have p2 : (2 : Int) ≤ (r.length : Int) + 1 + 1 := by omega
  have z0 : (((r.length : Int) + 1 + 1) == 0) = false := beq_eq_false_iff_ne.mpr (by omega)
  have z1 : (((r.length : Int) + 1 + 1) == 1) = false := beq_eq_false_iff_ne.mpr (by omega)
  go_enter Tryd.func35, Tryd.ntmps35
  go_wp2_with fail
  refine wp_region_noPanic ?_
  refine wp_region_held_drew (S := fun w' => Aside0 (Below w.heap.size w w') ∧ w'.cell? ad = some (.int .u8 h0) ∧ w'.cell? ⟨ad.block, ad.off + 1, none⟩ = some (.int .u8 h1)) (by kernel_rfl) (⟨⟨below_drew (below_alloc (Below.refl _ _) _)⟩, ((below_drew (below_alloc (Below.refl w.heap.size w) _)).cell (World.block_lt_of_cell? _ _ y0)).trans y0, ((below_drew (below_alloc (Below.refl w.heap.size w) _)).cell (World.block_lt_of_cell? _ _ y1)).trans y1⟩) (fun hHeld => ?_)
  refine takeN (i := 0) (N := (some 14)) (v := ?v12) (a' := ?a12) rfl rfl (by kernel_rfl) (by kernel_rfl) (by kernel_rfl) (fun _ _ _ h => h) (Or.inl ⟨by rfl, ?hy12⟩) ?ha12 (by assumption) ?rest12
  case hy12 =>
    intro w_ hSw_
    go_simp
    first | done | (with_reducible rfl)
  case ha12 =>
    simp only [Act.put, List.setIfInBounds_toArray, List.set_cons_zero, List.set_cons_succ]
    rfl
  refine takeN (i := 1) (N := (some 15)) (v := ?v13) (a' := ?a13) rfl rfl (by kernel_rfl) (by kernel_rfl) (by kernel_rfl) (fun _ _ _ h => h) (Or.inl ⟨by rfl, ?hy13⟩) ?ha13 (by assumption) ?rest13
  case hy13 =>
    intro w_ hSw_
    go_simp
    first | done | (with_reducible rfl)
  case ha13 =>
    simp only [Act.put, List.setIfInBounds_toArray, List.set_cons_zero, List.set_cons_succ]
    rfl
  refine takeN (i := 2) (N := (some 16)) (v := ?v14) (a' := ?a14) rfl rfl (by kernel_rfl) (by kernel_rfl) (by kernel_rfl) (fun _ _ _ h => h) (Or.inl ⟨by rfl, ?hy14⟩) ?ha14 (by assumption) ?rest14
  case hy14 =>
    intro w_ hSw_
    go_simp
    first | done | (with_reducible rfl)
  case ha14 =>
    simp only [Act.put, List.setIfInBounds_toArray, List.set_cons_zero, List.set_cons_succ]
    rfl
  refine takeN (i := 3) (N := (some 17)) (v := ?v15) (a' := ?a15) rfl rfl (by kernel_rfl) (by kernel_rfl) (by kernel_rfl) (fun _ _ _ h => h) (Or.inl ⟨by rfl, ?hy15⟩) ?ha15 (by assumption) ?rest15
  case hy15 =>
    intro w_ hSw_
    go_simp
    first | done | (with_reducible rfl)
  case ha15 =>
    simp only [Act.put, List.setIfInBounds_toArray, List.set_cons_zero, List.set_cons_succ]
    rfl
  refine takeN (i := 4) (N := (some 18)) (v := ?v16) (a' := ?a16) rfl rfl (by kernel_rfl) (by kernel_rfl) (by kernel_rfl) (fun _ _ _ h => h) (Or.inl ⟨by rfl, ?hy16⟩) ?ha16 (by assumption) ?rest16
  case hy16 =>
    intro w_ hSw_
    go_simp
    first | done | (with_reducible rfl)
  case ha16 =>
    simp only [Act.put, List.setIfInBounds_toArray, List.set_cons_zero, List.set_cons_succ]
    rfl
  refine takeN (i := 5) (N := (some 19)) (v := ?v17) (a' := ?a17) rfl rfl (by kernel_rfl) (by kernel_rfl) (by kernel_rfl) (fun _ _ _ h => h) (Or.inl ⟨by rfl, ?hy17⟩) ?ha17 (by assumption) ?rest17
  case hy17 =>
    intro w_ hSw_
    go_simp
    first | done | (with_reducible rfl)
  case ha17 =>
    simp only [Act.put, List.setIfInBounds_toArray, List.set_cons_zero, List.set_cons_succ]
    rfl
  refine takeN (i := 6) (N := (some 20)) (v := ?v18) (a' := ?a18) rfl rfl (by kernel_rfl) (by kernel_rfl) (by kernel_rfl) (fun _ _ _ h => h) (Or.inl ⟨by rfl, ?hy18⟩) ?ha18 (by assumption) ?rest18
  case hy18 =>
    intro w_ hSw_
    go_simp
    first | done | (with_reducible rfl)
  case ha18 =>
    simp only [Act.put, List.setIfInBounds_toArray, List.set_cons_zero, List.set_cons_succ]
    rfl
  refine takeN (i := 7) (N := (some 21)) (v := ?v19) (a' := ?a19) rfl rfl (by kernel_rfl) (by kernel_rfl) (by kernel_rfl) (fun _ _ _ h => h) (Or.inl ⟨by rfl, ?hy19⟩) ?ha19 (by assumption) ?rest19
  case hy19 =>
    intro w_ hSw_
    go_simp
    first | done | (with_reducible rfl)
  case ha19 =>
    simp only [Act.put, List.setIfInBounds_toArray, List.set_cons_zero, List.set_cons_succ]
    rfl
  refine takeN (i := 8) (N := (some 22)) (v := ?v20) (a' := ?a20) rfl rfl (by kernel_rfl) (by kernel_rfl) (by kernel_rfl) (fun _ _ _ h => h) (Or.inl ⟨by rfl, ?hy20⟩) ?ha20 (by assumption) ?rest20
  case hy20 =>
    intro w_ hSw_
    go_simp
    first | done | (with_reducible rfl)
  case ha20 =>
    simp only [Act.put, List.setIfInBounds_toArray, List.set_cons_zero, List.set_cons_succ]
    rfl
  refine takeN (i := 9) (N := (some 23)) (v := ?v21) (a' := ?a21) rfl rfl (by kernel_rfl) (by kernel_rfl) (by kernel_rfl) (fun _ _ _ h => h) (Or.inl ⟨by rfl, ?hy21⟩) ?ha21 (by assumption) ?rest21
  case hy21 =>
    intro w_ hSw_
    go_simp
    first | done | (with_reducible rfl)
  case ha21 =>
    simp only [Act.put, List.setIfInBounds_toArray, List.set_cons_zero, List.set_cons_succ]
    rfl
  refine takeN (i := 10) (N := (some 4)) (v := ?v22) (a' := ?a22) rfl rfl (by kernel_rfl) (by kernel_rfl) (by kernel_rfl) (fun _ _ _ h => h) (Or.inl ⟨by rfl, ?hy22⟩) ?ha22 (by assumption) ?rest22
  case hy22 =>
    intro w_ hSw_
    go_simp
    first | done | (with_reducible rfl)
  case ha22 =>
    simp only [Act.put, List.setIfInBounds_toArray, List.set_cons_zero, List.set_cons_succ]
    rfl
  refine wpAnyH_done (by kernel_rfl) ?_ _
  refine NoPanic.normal ?_
  have HB := Aside0.mk hHeld.1.out
  clear hHeld
  have hr : ((w.alloc (.cells #[.int .u8 0, .bool false, .slice none 0 0, .int .u32 0] 30)).drew).heap[w.heap.size]? = some (.cells #[.int .u8 0, .bool false, .slice none 0 0, .int .u32 0] 30 (0, 0)) := blk_drew (last_at _ _ _ rfl)
  generalize (w.alloc (.cells #[.int .u8 0, .bool false, .slice none 0 0, .int .u32 0] 30)).drew = w1 at HB hr ⊢
  have hc' : r.length + 2 ≤ c := by rw [hlen] at hc; exact hc
  clear hc
  by_cases hc2 : c = 2
  · subst hc2
    have HC2 : Aside0 ((Kd.int .u8).C w (some ad) r.length r) := ⟨by
      have h := Kd.C_drop (m := 2) (c := 2) HC.out (by simp) (by rw [hlen]; omega)
      rw [if_pos rfl] at h
      exact h⟩
    have hc3 : r.length ≤ 0 := by omega
    have hr0 : r.length = 0 := by omega
    go_wp2_with fail
    refine (message_Told.calls code true _ (by show some (toldB code) = some true; rw [ht])).mono ?_
    rintro e w2 ⟨rfl, hb⟩
    have hr2 : w2.heap[w.heap.size]? = _ := blk_below hr hb
    replace HB := Aside0.mk (below_step HB.out hb)
    clear hb hr
    go_wp2_with fail
    refine (calls_of_args (by rw [hr0]) (utf_Valid.calls k (some ad) (0) r true _ (Kd.C_below HC2.out HB.out) hc3 hv)).mono ?_
    rintro e w3 ⟨rfl, hb⟩
    have hr3 : w3.heap[w.heap.size]? = _ := blk_below hr2 hb
    replace HB := Aside0.mk (below_step HB.out hb)
    clear hb hr2
    go_wp2_with fail
    refine (calls_of_args (by rw [hr0]) (bytes_Clone.calls (some ad) (0) r r _ (Kd.C_below HC2.out HB.out) hc3 (by unfold bytes_Clone.f; rw [if_pos (by omega)]))).mono ?_
    rintro e w4 ⟨v, rfl, ho, hb⟩
    have hr4 : w4.heap[w.heap.size]? = some (.cells #[.int .u8 0, .bool false, .slice none 0 0, .int .u32 0] 30 (0, 0)) := blk_below hr3 hb
    have hR := Kd.R_types (Kd.R_lower ho HB.out.size) hr4 (by intro q hq; simp [Kd.int, Kd.scalar] at hq; omega)
    obtain ⟨Av, cv, rfl⟩ := Kd.R_slice hR
    have HR := Aside0.mk hR
    replace HB := Aside0.mk (below_step HB.out hb)
    clear hb hr3 ho hR
    have rc0 : w4.cell? ⟨w.heap.size, 0, none⟩ = some (.int .u8 0) := (blk_cell hr4 0).trans rfl
    have rf0 := blk_frozen hr4 0
    have rc1 : w4.cell? ⟨w.heap.size, 1, none⟩ = some (.bool false) := (blk_cell hr4 1).trans rfl
    have rf1 := blk_frozen hr4 1
    have rc2 : w4.cell? ⟨w.heap.size, 2, none⟩ = some (.slice none 0 0) := (blk_cell hr4 2).trans rfl
    have rf2 := blk_frozen hr4 2
    have rc3 : w4.cell? ⟨w.heap.size, 3, none⟩ = some (.int .u32 0) := (blk_cell hr4 3).trans rfl
    have rf3 := blk_frozen hr4 3
    have rl : w.heap.size < w4.heap.size := blk_lt hr4
    have hle : w.heap.size ≤ w.heap.size := Nat.le_refl _
    go_wp2_with fail
    exact bodyPost_ret (v := .tuple #[.agg #[.int .u8 4, .bool false, .slice Av r.length cv, .int .u32 code], .nilIface]) (by simp [results, Tryd.results35, go_sem, rc0, rc1, rc2, rc3, hr0]) rfl ⟨_, rfl, Kd.R_mono (Kd.R_far (Kd.R_far (Kd.R_far (Kd.R_far HR.out (fun k hk => hk.2) _) (fun k hk => hk.2) _) (fun k hk => hk.2) _) (fun k hk => hk.2) _) (fun _ _ => trivial), (Below.setCell (Below.setCell (Below.setCell (Below.setCell HB.out hle _) hle _) hle _) hle _)⟩
  · have hc5 : (2 : Int) ≤ (c : Int) := by omega
    have hc6 : (c == 2) = false := beq_eq_false_iff_ne.mpr hc2
    have HC2 : Aside0 ((Kd.int .u8).C w (some ⟨ad.block, ad.off + 2, none⟩) r.length r) := ⟨by
      have h := Kd.C_drop (m := 2) (c := c) HC.out (by simp) (by rw [hlen]; omega)
      rw [if_neg hc2] at h
      exact h⟩
    have hc3 : r.length ≤ c - 2 := by omega
    go_wp2_with fail
    refine (message_Told.calls code true _ (by show some (toldB code) = some true; rw [ht])).mono ?_
    rintro e w2 ⟨rfl, hb⟩
    have hr2 : w2.heap[w.heap.size]? = _ := blk_below hr hb
    replace HB := Aside0.mk (below_step HB.out hb)
    clear hb hr
    go_wp2_with fail
    refine ((utf_Valid.calls k (some ⟨ad.block, ad.off + 2, none⟩) (c - 2) r true _ (Kd.C_below HC2.out HB.out) hc3 hv)).mono ?_
    rintro e w3 ⟨rfl, hb⟩
    have hr3 : w3.heap[w.heap.size]? = _ := blk_below hr2 hb
    replace HB := Aside0.mk (below_step HB.out hb)
    clear hb hr2
    go_wp2_with fail
    refine ((bytes_Clone.calls (some ⟨ad.block, ad.off + 2, none⟩) (c - 2) r r _ (Kd.C_below HC2.out HB.out) hc3 (by unfold bytes_Clone.f; rw [if_pos (by omega)]))).mono ?_
    rintro e w4 ⟨v, rfl, ho, hb⟩
    have hr4 : w4.heap[w.heap.size]? = some (.cells #[.int .u8 0, .bool false, .slice none 0 0, .int .u32 0] 30 (0, 0)) := blk_below hr3 hb
    have hR := Kd.R_types (Kd.R_lower ho HB.out.size) hr4 (by intro q hq; simp [Kd.int, Kd.scalar] at hq; omega)
    obtain ⟨Av, cv, rfl⟩ := Kd.R_slice hR
    have HR := Aside0.mk hR
    replace HB := Aside0.mk (below_step HB.out hb)
    clear hb hr3 ho hR
    have rc0 : w4.cell? ⟨w.heap.size, 0, none⟩ = some (.int .u8 0) := (blk_cell hr4 0).trans rfl
    have rf0 := blk_frozen hr4 0
    have rc1 : w4.cell? ⟨w.heap.size, 1, none⟩ = some (.bool false) := (blk_cell hr4 1).trans rfl
    have rf1 := blk_frozen hr4 1
    have rc2 : w4.cell? ⟨w.heap.size, 2, none⟩ = some (.slice none 0 0) := (blk_cell hr4 2).trans rfl
    have rf2 := blk_frozen hr4 2
    have rc3 : w4.cell? ⟨w.heap.size, 3, none⟩ = some (.int .u32 0) := (blk_cell hr4 3).trans rfl
    have rf3 := blk_frozen hr4 3
    have rl : w.heap.size < w4.heap.size := blk_lt hr4
    have hle : w.heap.size ≤ w.heap.size := Nat.le_refl _
    go_wp2_with fail
    exact bodyPost_ret (v := .tuple #[.agg #[.int .u8 4, .bool false, .slice Av r.length cv, .int .u32 code], .nilIface]) (by simp [results, Tryd.results35, go_sem, rc0, rc1, rc2, rc3]) rfl ⟨_, rfl, Kd.R_mono (Kd.R_far (Kd.R_far (Kd.R_far (Kd.R_far HR.out (fun k hk => hk.2) _) (fun k hk => hk.2) _) (fun k hk => hk.2) _) (fun k hk => hk.2) _) (fun _ _ => trivial), (Below.setCell (Below.setCell (Below.setCell (Below.setCell HB.out hle _) hle _) hle _) hle _)⟩
end Go.Proofs.YtbjjobifpmjhhaaDoor

namespace Go.Proofs.YtbjjobifpmjhhaaDoor
open Go.RowKit Go.Proofs.YtbjjobifpmjhhaaDoorW.PrintWords Go.Proofs.YtbjjobifpmjhhaaDoorW.PrintLast Go.Proofs.YtbjjobifpmjhhaaDoorW.PrintMore Go.Proofs.YtbjjobifpmjhhaaDoor.PAll
set_option linter.unusedVariables false
set_option maxHeartbeats 4000000 in
set_option maxRecDepth 100000 in
theorem take_bye (g : Nat) (v u : Value) (busy text : Bool) (A : Option Addr) (c : Nat) (w : World) (hG : IsG w g v busy text u false) (hC : Kd.C (Kd.int .u8) w A 5 [3, 232, 98, 121, 101]) (hc : 5 ≤ c) : Calls Tryd.prog 25 #[.pointer (some ⟨g, 0, none⟩), .agg #[.bool true, .int .u8 8, .bool false, .int .u32 0, .slice A 5 c]] w fun e w' => ∃ vn, e = .returned (.tuple #[.agg #[.int .u8 4, .bool false, vn, .int .u32 1000], .bool true, .nilIface]) ∧ Kd.R (Kd.int .u8) 5 w' w.heap.size (fun _ => True) vn [98, 121, 101] ∧ IsG w' g v busy text u true ∧ KeepBut w w' g none ∧ (∀ w0 : World, w0.heap.size ≤ g → Below w0.heap.size w0 w → Below w0.heap.size w0 w') := by
  have hu30 := Tryd.underlying30
  have hu26 := Tryd.underlying26
  have hgl : g < w.heap.size := blk_lt hG
  have HG := Aside0.mk hG
  have HC := Aside0.mk hC
  clear hG hC
  go_enter Tryd.func25, Tryd.ntmps25
  go_wp2_with fail
  refine (closes_bye A c _ (Kd.C_below HC.out (below_alloc (below_alloc (Below.refl _ _) _) _)) hc).mono ?_
  rintro e w1 ⟨vn, rfl, ho, hb⟩
  have hr : w1.heap[w.heap.size + 1]? = some (.cells #[.int .u8 0, .bool false, .slice none 0 0, .int .u32 0] 30 (0, 0)) := blk_below (last_at _ _ _ (by simp)) hb
  have hB := below_step (below_alloc (below_alloc (Below.refl w.heap.size w) _) _) hb
  have hG1 : IsG w1 g v busy text u false := blk_below HG.out hB
  have gc4 : w1.cell? ⟨g, 4, none⟩ = some (.bool false) := (blk_cell hG1 4).trans rfl
  have gf4 := blk_frozen hG1 4
  have gl := blk_lt hG1
  obtain ⟨Av, cv, rfl⟩ := Kd.R_slice ho
  have ho2 := Kd.R_types (Kd.R_types (Kd.R_lower ho (show w.heap.size ≤ _ by simp; omega)) hG1 (by intro q hq; simp [Kd.int, Kd.scalar] at hq; omega)) hr (by intro q hq; simp [Kd.int, Kd.scalar] at hq; omega)
  have HO := Aside0.mk ho2
  have HB := Aside0.mk hB
  have HR := Aside0.mk hr
  have HG1 := Aside0.mk hG1
  have hl1 : w.heap.size + 1 < w1.heap.size := blk_lt hr
  clear ho ho2 hb hB hG1 hr
  go_wp2_with fail
  clear gc4 gf4 gl
  have hbox : (((w1.setCell ⟨g, 4, none⟩ (.bool true)).alloc (.cells #[.int .u8 4, .bool false, .slice Av 3 cv, .int .u32 1000] 30))).heap[w1.heap.size]? = some (.cells #[.int .u8 4, .bool false, .slice Av 3 cv, .int .u32 1000] 30 (0, 0)) := last_at _ _ _ (by simp)
  have hres : (((w1.setCell ⟨g, 4, none⟩ (.bool true)).alloc (.cells #[.int .u8 4, .bool false, .slice Av 3 cv, .int .u32 1000] 30))).heap[w.heap.size + 1]? = some (.cells #[.int .u8 0, .bool false, .slice none 0 0, .int .u32 0] 30 (0, 0)) := blk_alloc ((Below.heap_setCell _ _ _ _ (by show w.heap.size + 1 ≠ g; omega)).trans HR.out) _
  have hG2 : IsG (((w1.setCell ⟨g, 4, none⟩ (.bool true)).alloc (.cells #[.int .u8 4, .bool false, .slice Av 3 cv, .int .u32 1000] 30))) g v busy text u true := blk_alloc (blk_put HG1.out 4 (.bool true) rfl) _
  have hO2 : Kd.R (Kd.int .u8) 5 (((w1.setCell ⟨g, 4, none⟩ (.bool true)).alloc (.cells #[.int .u8 4, .bool false, .slice Av 3 cv, .int .u32 1000] 30))) w.heap.size _ (.slice Av [98, 121, 101].length cv) [98, 121, 101] := Kd.R_alloc (Kd.R_far HO.out (fun k hk => hk.1.2) _) _
  have hK2 : KeepBut w (((w1.setCell ⟨g, 4, none⟩ (.bool true)).alloc (.cells #[.int .u8 4, .bool false, .slice Av 3 cv, .int .u32 1000] 30))) g none := keep_alloc ((KeepBut.of_below HB.out g none).set_ 4 _) _
  have hW2 : ∀ w0 : World, w0.heap.size ≤ g → Below w0.heap.size w0 w → Below w0.heap.size w0 (((w1.setCell ⟨g, 4, none⟩ (.bool true)).alloc (.cells #[.int .u8 4, .bool false, .slice Av 3 cv, .int .u32 1000] 30))) := fun w0 h0 hw => below_alloc (Below.setCell (below_step hw HB.out) h0 _) _
  generalize ((w1.setCell ⟨g, 4, none⟩ (.bool true)).alloc (.cells #[.int .u8 4, .bool false, .slice Av 3 cv, .int .u32 1000] 30)) = W2 at hbox hres hG2 hO2 hK2 hW2 ⊢
  have HG2 := Aside0.mk hG2
  have HO2 := Aside0.mk hO2
  have HK2 := Aside0.mk hK2
  have HW2 := Aside0.mk hW2
  clear hG2 hO2 hK2 hW2 HO HB HR HG1 HG
  have bc0 : W2.cell? ⟨w1.heap.size, 0, none⟩ = some (.int .u8 4) := (blk_cell hbox 0).trans rfl
  have bc1 : W2.cell? ⟨w1.heap.size, 1, none⟩ = some (.bool false) := (blk_cell hbox 1).trans rfl
  have bc2 : W2.cell? ⟨w1.heap.size, 2, none⟩ = some (.slice Av 3 cv) := (blk_cell hbox 2).trans rfl
  have bc3 : W2.cell? ⟨w1.heap.size, 3, none⟩ = some (.int .u32 1000) := (blk_cell hbox 3).trans rfl
  have rc0 : W2.cell? ⟨w.heap.size + 1, 0, none⟩ = some (.int .u8 0) := (blk_cell hres 0).trans rfl
  have rc1 : W2.cell? ⟨w.heap.size + 1, 1, none⟩ = some (.bool false) := (blk_cell hres 1).trans rfl
  have rc2 : W2.cell? ⟨w.heap.size + 1, 2, none⟩ = some (.slice none 0 0) := (blk_cell hres 2).trans rfl
  have rc3 : W2.cell? ⟨w.heap.size + 1, 3, none⟩ = some (.int .u32 0) := (blk_cell hres 3).trans rfl
  have rf0 := blk_frozen hres 0
  have rf1 := blk_frozen hres 1
  have rf2 := blk_frozen hres 2
  have rf3 := blk_frozen hres 3
  have rl := blk_lt hres
  have bl := blk_lt hbox
  go_region_with (go_at_call 34; with_reducible refine (wrap_nil _ _).mono ?_; rintro e w' ⟨rfl, rfl⟩)
  all_goals (simp only [Act.put, List.getElem_toArray, List.getElem_cons_zero, List.getElem_cons_succ, List.setIfInBounds_toArray, List.set_cons_zero, List.set_cons_succ]; go_wp2_with fail)
  all_goals
    have hne : g ≠ w.heap.size + 1 := by omega
    have hle : w.heap.size ≤ w.heap.size + 1 := by omega
    have hR := Kd.R_drew (Kd.R_far (Kd.R_far (Kd.R_far (Kd.R_far HO2.out (p := ⟨w.heap.size + 1, 0, none⟩) (fun k hk => hk.2) (.int .u8 4)) (p := ⟨w.heap.size + 1, 1, none⟩) (fun k hk => hk.2) (.bool false)) (p := ⟨w.heap.size + 1, 2, none⟩) (fun k hk => hk.2) (.slice Av 3 cv)) (p := ⟨w.heap.size + 1, 3, none⟩) (fun k hk => hk.2) (.int .u32 1000))
    have hR2 := Kd.R_mono hR (ok' := fun _ => True) (fun _ _ => trivial)
    have hG3 := IsG.far (IsG.far (IsG.far (IsG.far HG2.out (p := ⟨w.heap.size + 1, 0, none⟩) (x := .int .u8 4) hne) (p := ⟨w.heap.size + 1, 1, none⟩) (x := .bool false) hne) (p := ⟨w.heap.size + 1, 2, none⟩) (x := .slice Av 3 cv) hne) (p := ⟨w.heap.size + 1, 3, none⟩) (x := .int .u32 1000) hne
    have hK3 := keep_drew (keep_far (keep_far (keep_far (keep_far HK2.out (p := ⟨w.heap.size + 1, 0, none⟩) hle (.int .u8 4)) (p := ⟨w.heap.size + 1, 1, none⟩) hle (.bool false)) (p := ⟨w.heap.size + 1, 2, none⟩) hle (.slice Av 3 cv)) (p := ⟨w.heap.size + 1, 3, none⟩) hle (.int .u32 1000))
    refine bodyPost_ret (v := .tuple #[.agg #[.int .u8 4, .bool false, .slice Av [98, 121, 101].length cv, .int .u32 1000], .bool true, .nilIface]) (by simp [results, Tryd.results25, go_sem, rc0, rc1, rc2, rc3]) rfl ⟨_, rfl, hR2, hG3, hK3, fun w0 h0 hw => ?_⟩
    have hl0 : w0.heap.size ≤ w.heap.size + 1 := by have := hw.size; omega
    exact below_drew (Below.setCell (Below.setCell (Below.setCell (Below.setCell (HW2.out w0 h0 hw) hl0 _) hl0 _) hl0 _) hl0 _)
end Go.Proofs.YtbjjobifpmjhhaaDoor

namespace Go.Proofs.YtbjjobifpmjhhaaDoor
open Go.RowKit Go.Proofs.YtbjjobifpmjhhaaDoorW.PrintWords Go.Proofs.YtbjjobifpmjhhaaDoorW.PrintLast Go.Proofs.YtbjjobifpmjhhaaDoorW.PrintMore Go.Proofs.YtbjjobifpmjhhaaDoor.PAll
set_option linter.unusedVariables false
set_option maxHeartbeats 4000000 in
set_option maxRecDepth 100000 in
theorem Take_bye (g : Nat) (v u : Value) (busy text : Bool) (A : Option Addr) (c : Nat) (w : World) (hv : v.oneCell' = true) (hG : IsG w g v busy text u false) (hC : Kd.C (Kd.int .u8) w A 5 [3, 232, 98, 121, 101]) (hc : 5 ≤ c) : Calls Tryd.prog 14 #[.pointer (some ⟨g, 0, none⟩), .agg #[.bool true, .int .u8 8, .bool false, .int .u32 0, .slice A 5 c]] w fun e w' => ∃ vn, e = .returned (.tuple #[.agg #[.int .u8 4, .bool false, vn, .int .u32 1000], .bool true]) ∧ Kd.R (Kd.int .u8) 5 w' w.heap.size (fun _ => True) vn [98, 121, 101] ∧ IsG w' g (.slice none 0 0) busy text u true ∧ (∀ w0 : World, w0.heap.size ≤ g → Below w0.heap.size w0 w → Below w0.heap.size w0 w') := by
  have hu30 := Tryd.underlying30
  have hu26 := Tryd.underlying26
  have hgl : g < w.heap.size := blk_lt hG
  have HG := Aside0.mk hG
  have HC := Aside0.mk hC
  clear hG hC
  go_enter Tryd.func14, Tryd.ntmps14
  go_wp2_with fail
  refine (over_any g v u busy text false _ (show IsG _ g v busy text u false from blk_alloc (blk_alloc HG.out _) _)).mono ?_
  rintro e w1 ⟨rfl, hw1⟩
  have hres : w1.heap[w.heap.size + 1]? = some (.cells #[.int .u8 0, .bool false, .slice none 0 0, .int .u32 0] 30 (0, 0)) := by rw [hw1]; exact last_at _ _ _ (by simp)
  have hbox : w1.heap[w.heap.size]? = some (.cells #[.bool true, .int .u8 8, .bool false, .int .u32 0, .slice A 5 c] 26 (0, 0)) := by rw [hw1]; exact blk_alloc (last_at _ _ _ rfl) _
  have hB1 : Below w.heap.size w w1 := by rw [hw1]; exact below_alloc (below_alloc (Below.refl _ _) _) _
  have hG1 : IsG w1 g v busy text u false := by rw [hw1]; exact blk_alloc (blk_alloc HG.out _) _
  clear hw1
  have bc0 : w1.cell? ⟨w.heap.size, 0, none⟩ = some (.bool true) := (blk_cell hbox 0).trans rfl
  have bf0 := blk_frozen hbox 0
  have bc1 : w1.cell? ⟨w.heap.size, 1, none⟩ = some (.int .u8 8) := (blk_cell hbox 1).trans rfl
  have bf1 := blk_frozen hbox 1
  have bc2 : w1.cell? ⟨w.heap.size, 2, none⟩ = some (.bool false) := (blk_cell hbox 2).trans rfl
  have bf2 := blk_frozen hbox 2
  have bc3 : w1.cell? ⟨w.heap.size, 3, none⟩ = some (.int .u32 0) := (blk_cell hbox 3).trans rfl
  have bf3 := blk_frozen hbox 3
  have bc4 : w1.cell? ⟨w.heap.size, 4, none⟩ = some (.slice A 5 c) := (blk_cell hbox 4).trans rfl
  have bf4 := blk_frozen hbox 4
  have bl : w.heap.size < w1.heap.size := blk_lt hbox
  have HB1 := Aside0.mk hB1
  have HR1 := Aside0.mk hres
  have HG1 := Aside0.mk hG1
  have hl1 : w.heap.size + 1 < w1.heap.size := blk_lt hres
  clear hB1 hres hG1 hbox
  go_wp2_with fail
  refine (take_bye g v u busy text A c _ HG1.out (Kd.C_below HC.out HB1.out) hc).mono ?_
  rintro e w2 ⟨vn, rfl, ho, hG2, hk, hB0⟩
  have hr2 : w2.heap[w.heap.size + 1]? = some (.cells #[.int .u8 0, .bool false, .slice none 0 0, .int .u32 0] 30 (0, 0)) := hk.blk HR1.out (by omega) (by simp)
  have hl2 : w1.heap.size ≤ w2.heap.size := hk.1
  have ho2 := Kd.R_types (Kd.R_types (Kd.R_lower ho HB1.out.size) hG2 (by intro q hq; simp [Kd.int, Kd.scalar] at hq; omega)) hr2 (by intro q hq; simp [Kd.int, Kd.scalar] at hq; omega)
  obtain ⟨Av, cv, rfl⟩ := Kd.R_slice ho2
  have HO := Aside0.mk ho2
  have HG2 := Aside0.mk hG2
  have HR2 := Aside0.mk hr2
  have HB0 := Aside0.mk (fun (w0 : World) (h0 : w0.heap.size ≤ g) (hw : Below w0.heap.size w0 w) => hB0 w0 h0 (below_step hw HB1.out))
  have gc0 : w2.cell? ⟨g, 0, none⟩ = some v := (blk_cell hG2 0).trans rfl
  have gf0 := blk_frozen hG2 0
  have gc4 : w2.cell? ⟨g, 4, none⟩ = some (.bool true) := (blk_cell hG2 4).trans rfl
  have gl := blk_lt hG2
  have rc0 : w2.cell? ⟨w.heap.size + 1, 0, none⟩ = some (.int .u8 0) := (blk_cell hr2 0).trans rfl
  have rf0 := blk_frozen hr2 0
  have rc1 : w2.cell? ⟨w.heap.size + 1, 1, none⟩ = some (.bool false) := (blk_cell hr2 1).trans rfl
  have rf1 := blk_frozen hr2 1
  have rc2 : w2.cell? ⟨w.heap.size + 1, 2, none⟩ = some (.slice none 0 0) := (blk_cell hr2 2).trans rfl
  have rf2 := blk_frozen hr2 2
  have rc3 : w2.cell? ⟨w.heap.size + 1, 3, none⟩ = some (.int .u32 0) := (blk_cell hr2 3).trans rfl
  have rf3 := blk_frozen hr2 3
  have rl : w.heap.size + 1 < w2.heap.size := blk_lt hr2
  clear ho ho2 hG2 hr2 hk hB0 bc0 bc1 bc2 bc3 bc4 bf0 bf1 bf2 bf3 bf4 bl
  go_wp2_with fail
  have hne : g ≠ w.heap.size + 1 := by omega
  have hR := Kd.R_alloc (Kd.R_far (Kd.R_far (Kd.R_far (Kd.R_far (Kd.R_far HO.out (p := ⟨g, 0, none⟩) (fun k hk => hk.1.2) (.slice none 0 0)) (p := ⟨w.heap.size + 1, 0, none⟩) (fun k hk => hk.2) (.int .u8 4)) (p := ⟨w.heap.size + 1, 1, none⟩) (fun k hk => hk.2) (.bool false)) (p := ⟨w.heap.size + 1, 2, none⟩) (fun k hk => hk.2) (.slice Av 3 cv)) (p := ⟨w.heap.size + 1, 3, none⟩) (fun k hk => hk.2) (.int .u32 1000)) (.cells #[.int .u8 4, .bool false, .slice Av 3 cv, .int .u32 1000] 30)
  have hR2 := Kd.R_mono hR (ok' := fun _ => True) (fun _ _ => trivial)
  have hGa : IsG (w2.setCell ⟨g, 0, none⟩ (.slice none 0 0)) g (.slice none 0 0) busy text u true := blk_put HG2.out 0 (.slice none 0 0) rfl
  have hG3 := IsG.far (IsG.far (IsG.far (IsG.far hGa (p := ⟨w.heap.size + 1, 0, none⟩) (x := .int .u8 4) hne) (p := ⟨w.heap.size + 1, 1, none⟩) (x := .bool false) hne) (p := ⟨w.heap.size + 1, 2, none⟩) (x := .slice Av 3 cv) hne) (p := ⟨w.heap.size + 1, 3, none⟩) (x := .int .u32 1000) hne
  refine bodyPost_ret (v := .tuple #[.agg #[.int .u8 4, .bool false, .slice Av [98, 121, 101].length cv, .int .u32 1000], .bool true]) (by simp [results, Tryd.results14, go_sem, rc0, rc1, rc2, rc3, rl]) rfl ⟨_, rfl, hR2, blk_alloc hG3 _, fun w0 h0 hw => ?_⟩
  have hl0 : w0.heap.size ≤ w.heap.size + 1 := by have := hw.size; omega
  exact below_alloc (Below.setCell (Below.setCell (Below.setCell (Below.setCell (Below.setCell (HB0.out w0 h0 hw) h0 _) hl0 _) hl0 _) hl0 _) hl0 _) _
end Go.Proofs.YtbjjobifpmjhhaaDoor

namespace Go.Proofs.YtbjjobifpmjhhaaDoor
open Go.RowKit Go.Proofs.YtbjjobifpmjhhaaDoorW.PrintWords Go.Proofs.YtbjjobifpmjhhaaDoorW.PrintLast Go.Proofs.YtbjjobifpmjhhaaDoorW.PrintMore Go.Proofs.YtbjjobifpmjhhaaDoor.PAll
set_option linter.unusedVariables false
theorem bye_same : (strOfNums [98, 121, 101]).toList = [98, 121, 101] := by
  have : ∀ b : ByteArray, b.data.toList = [98, 121, 101] → b.toList = [98, 121, 101] := fun b h => by
    rw [ByteArray.toList_eq, h]
  exact this _ (by decide +kernel)
set_option maxHeartbeats 4000000 in
set_option maxRecDepth 100000 in
theorem fixed_yes (w : World) : Calls Tryd.prog 9 #[] w fun e w' => e = .returned (.bool true) ∧ Below w.heap.size w w' := by
  go_enter Tryd.func9, Tryd.ntmps9
  go_wp2_with fail
  refine (gnew_any _).mono ?_
  rintro e w1 ⟨rfl, hG, hb⟩
  have HG := Aside0.mk hG
  have HB := Aside0.mk hb
  clear hG hb
  go_wp2_with fail
  refine (message_Close.calls 400 1000 (⟨#[98, 121, 101]⟩ : ByteArray) true 8 false 0 [3, 232, 98, 121, 101] _ (by kernel_rfl)).mono ?_
  rintro e w2 ⟨vc, rfl, ho, hb⟩
  obtain ⟨A, c, rfl⟩ := Kd.R_slice ho
  have hC := (Kd.R_reads' ho).2.2
  have hc := (Kd.R_reads' ho).2.1
  have hG2 : IsG w2 w.heap.size (.slice none 0 0) false false (.pointer none) false := blk_below HG.out hb
  replace HB := Aside0.mk (below_step HB.out hb)
  clear ho hb
  go_wp2_with fail
  refine (calls_of_args rfl (Take_bye w.heap.size (.slice none 0 0) (.pointer none) false false A c _ rfl hG2 hC hc)).mono ?_
  rintro e w3 ⟨vn, rfl, hR, hG3, hB3⟩
  replace HB := Aside0.mk (hB3 w (Nat.le_refl _) HB.out)
  obtain ⟨Av, cv, rfl⟩ := Kd.R_slice hR
  have HR := Aside0.mk hR
  have HG3 := Aside0.mk hG3
  clear hG2 hC hc hR hG3 hB3 HG
  have hcv : ∀ o : Obj, (convert 24 9 (.slice Av 3 cv)).run Tryd.prog (w3.alloc o) = .ok (.string (strOfNums [98, 121, 101])) (w3.alloc o) := fun o => own_string (P := Tryd.prog) Tryd.underlying24 Tryd.underlying5 Tryd.underlying9 (Kd.own_of_R (Kd.R_alloc HR.out o))
  have hst := bye_same
  go_wp2_with fail
  refine (over_any w.heap.size (.slice none 0 0) (.pointer none) false false true _ (blk_alloc HG3.out _)).mono ?_
  rintro e w4 ⟨rfl, rfl⟩
  clear hcv
  go_wp2_with fail
  go_ret
  exact ⟨rfl, below_alloc HB.out _⟩
end Go.Proofs.YtbjjobifpmjhhaaDoor

-- Written by a program of this session (wip/patchprint.py, wip/myprint.sh tell how).
namespace Go.Proofs.YtbjjobifpmjhhaaDoor.PAll
open Go.RowKit Go.Proofs.YtbjjobifpmjhhaaDoorW.PrintWords Go.Proofs.YtbjjobifpmjhhaaDoorW.PrintLast Go.Proofs.YtbjjobifpmjhhaaDoorW.PrintMore
attribute [local go_sem] max2_int min2_int max_two min_two max_three min_three max_four min_four   -- for this text's walks alone
set_option linter.unusedVariables false
set_option linter.unusedSimpArgs false

def louverref15_write.f (a0 : Int) : Option (ByteArray) := if a0 < 128 then (some (strOfNums (([(a0) % 256] : List Int)))) else (if a0 < 2048 then (some (strOfNums (([(wrap64 (192 + (wrap64 (Int.tdiv a0 64)))) % 256, (wrap64 (128 + (Int.tmod a0 64))) % 256] : List Int)))) else (if a0 < 65536 then (some (strOfNums (([(wrap64 (224 + (wrap64 (Int.tdiv a0 4096)))) % 256, (wrap64 (128 + (Int.tmod (wrap64 (Int.tdiv a0 64)) 64))) % 256, (wrap64 (128 + (Int.tmod a0 64))) % 256] : List Int)))) else (some (strOfNums (([(wrap64 (240 + (wrap64 (Int.tdiv a0 262144)))) % 256, (wrap64 (128 + (Int.tmod (wrap64 (Int.tdiv a0 4096)) 64))) % 256, (wrap64 (128 + (Int.tmod (wrap64 (Int.tdiv a0 64)) 64))) % 256, (wrap64 (128 + (Int.tmod a0 64))) % 256] : List Int))))))
set_option maxHeartbeats 8000000 in
set_option maxRecDepth 100000 in
theorem louverref15_write.calls (a0 : Int) (r : ByteArray) (w : World) (h : louverref15_write.f a0 = some r) :
    Calls Tryd.prog 38 #[.int .i64 a0] w fun e w' => e = .returned (.string r) ∧ Below w.heap.size w w' := by
  have hf66_1 := field66_1
  have HB := Aside0.mk (Below.refl w.heap.size w)
  have H : (if a0 < 128 then (some (strOfNums (([(a0) % 256] : List Int)))) else (if a0 < 2048 then (some (strOfNums (([(wrap64 (192 + (wrap64 (Int.tdiv a0 64)))) % 256, (wrap64 (128 + (Int.tmod a0 64))) % 256] : List Int)))) else (if a0 < 65536 then (some (strOfNums (([(wrap64 (224 + (wrap64 (Int.tdiv a0 4096)))) % 256, (wrap64 (128 + (Int.tmod (wrap64 (Int.tdiv a0 64)) 64))) % 256, (wrap64 (128 + (Int.tmod a0 64))) % 256] : List Int)))) else (some (strOfNums (([(wrap64 (240 + (wrap64 (Int.tdiv a0 262144)))) % 256, (wrap64 (128 + (Int.tmod (wrap64 (Int.tdiv a0 4096)) 64))) % 256, (wrap64 (128 + (Int.tmod (wrap64 (Int.tdiv a0 64)) 64))) % 256, (wrap64 (128 + (Int.tmod a0 64))) % 256] : List Int))))))) = some r := h
  clear h
  by_cases c2 : a0 < 128
  · rw [if_pos c2] at H
    have c2b0 : decide (a0 < 128) = true := decide_eq_true c2
    clear c2
    obtain ⟨y155, hy155⟩ : ∃ y_ : List Int, y_ = (([(a0) % 256] : List Int)) := ⟨_, rfl⟩
    replace H : (some (strOfNums y155)) = some r := by first | (rw [hy155]; with_reducible exact H) | (have H2_ := (Option.bind_some _ _).symm.trans H; rw [hy155]; with_reducible exact H2_) | (have H2_ := (Option.bind_some _ _).symm.trans H; with_reducible exact H2_) | with_reducible exact H | (rw [hy155]; exact H) | exact H
    have Ny155 := Aside0.mk hy155
    clear hy155
    obtain rfl := Option.some.inj H
    go_enter Tryd.func38, Tryd.ntmps38
    go_wp2_with (first | ((with_reducible refine gate_dst (N := 7) rfl ?_); refine Kd.R_lit (Kd.int .u8) _ 5 ?hg (N := 7) ?hd (xs := ([(a0) % 256] : List Int)) (inner := [.int .u8 ((a0) % 256)]) (ok := fun _ => True) (okp := fun _ => True) ?hr ?hp (fun _ hk => hk) trivial (Below.refl _ _) (Nat.le_refl _) (by simp) ?_; (case hd => rfl); (case hg => rfl); (case hr => first | (go_simp; done) | (go_simp; rfl)); (case hp => exact (Reps.one (show Kd.M (Kd.int .u8) _ _ _ ((a0) % 256) [.int .u8 ((a0) % 256)] from rfl) (Reps.none _ _))); intro v156 w3 ho4 hb hg_ hnew_; clear hg_ hnew_; (first | rw [← Ny155.out] at ho4 | (simp only [Int.reduceToNat] at ho4; rw [← Ny155.out] at ho4)); have n0_ := Aside0.mk (Kd.R_lower ho4 (below_size (by repeat (first | (with_reducible first | exact HB.out | apply below_alloc | apply pw_below_drewN | apply below_drew1) | exact HB.out)))); have n1_ := Aside0.mk (below_step (by repeat (first | (with_reducible first | exact HB.out | apply below_alloc | apply pw_below_drewN | apply below_drew1) | exact HB.out)) hb); clear HB; have HO157 := n0_; have HB := n1_; clear n0_ n1_; clear hb ho4; have hcv5 := own_string (P := Tryd.prog) Tryd.underlying24 Tryd.underlying5 Tryd.underlying9 (Kd.own_of_R HO157.out)))
    go_ret
    exact ⟨by first | rfl | (simp [errW_none, errW_some] <;> rfl) | (simp [*, errW_none, errW_some] <;> rfl), by repeat (first | (with_reducible first | exact HB.out | apply below_alloc | apply pw_below_drewN | apply below_drew1) | exact HB.out)⟩
  · rw [if_neg c2] at H
    have c2b0 : decide (a0 < 128) = false := decide_eq_false c2
    clear c2
    by_cases c6 : a0 < 2048
    · rw [if_pos c6] at H
      have c6b0 : decide (a0 < 2048) = true := decide_eq_true c6
      clear c6
      obtain ⟨y158, hy158⟩ : ∃ y_ : List Int, y_ = (([(wrap64 (192 + (wrap64 (Int.tdiv a0 64)))) % 256, (wrap64 (128 + (Int.tmod a0 64))) % 256] : List Int)) := ⟨_, rfl⟩
      replace H : (some (strOfNums y158)) = some r := by first | (rw [hy158]; with_reducible exact H) | (have H2_ := (Option.bind_some _ _).symm.trans H; rw [hy158]; with_reducible exact H2_) | (have H2_ := (Option.bind_some _ _).symm.trans H; with_reducible exact H2_) | with_reducible exact H | (rw [hy158]; exact H) | exact H
      have Ny158 := Aside0.mk hy158
      clear hy158
      obtain rfl := Option.some.inj H
      go_enter Tryd.func38, Tryd.ntmps38
      go_wp2_with (first | ((with_reducible refine gate_dst (N := 19) rfl ?_); refine Kd.R_lit (Kd.int .u8) _ 5 ?hg (N := 19) ?hd (xs := ([(wrap64 (192 + (wrap64 (Int.tdiv a0 64)))) % 256, (wrap64 (128 + (Int.tmod a0 64))) % 256] : List Int)) (inner := [.int .u8 ((wrap64 (192 + (wrap64 (Int.tdiv a0 64)))) % 256), .int .u8 ((wrap64 (128 + (Int.tmod a0 64))) % 256)]) (ok := fun _ => True) (okp := fun _ => True) ?hr ?hp (fun _ hk => hk) trivial (Below.refl _ _) (Nat.le_refl _) (by simp) ?_; (case hd => rfl); (case hg => rfl); (case hr => first | (go_simp; done) | (go_simp; rfl)); (case hp => exact (Reps.one (show Kd.M (Kd.int .u8) _ _ _ ((wrap64 (192 + (wrap64 (Int.tdiv a0 64)))) % 256) [.int .u8 ((wrap64 (192 + (wrap64 (Int.tdiv a0 64)))) % 256)] from rfl) (Reps.one (show Kd.M (Kd.int .u8) _ _ _ ((wrap64 (128 + (Int.tmod a0 64))) % 256) [.int .u8 ((wrap64 (128 + (Int.tmod a0 64))) % 256)] from rfl) (Reps.none _ _)))); intro v159 w7 ho8 hb hg_ hnew_; clear hg_ hnew_; (first | rw [← Ny158.out] at ho8 | (simp only [Int.reduceToNat] at ho8; rw [← Ny158.out] at ho8)); have n0_ := Aside0.mk (Kd.R_lower ho8 (below_size (by repeat (first | (with_reducible first | exact HB.out | apply below_alloc | apply pw_below_drewN | apply below_drew1) | exact HB.out)))); have n1_ := Aside0.mk (below_step (by repeat (first | (with_reducible first | exact HB.out | apply below_alloc | apply pw_below_drewN | apply below_drew1) | exact HB.out)) hb); clear HB; have HO160 := n0_; have HB := n1_; clear n0_ n1_; clear hb ho8; have hcv9 := own_string (P := Tryd.prog) Tryd.underlying24 Tryd.underlying5 Tryd.underlying9 (Kd.own_of_R HO160.out)))
      go_ret
      exact ⟨by first | rfl | (simp [errW_none, errW_some] <;> rfl) | (simp [*, errW_none, errW_some] <;> rfl), by repeat (first | (with_reducible first | exact HB.out | apply below_alloc | apply pw_below_drewN | apply below_drew1) | exact HB.out)⟩
    · rw [if_neg c6] at H
      have c6b0 : decide (a0 < 2048) = false := decide_eq_false c6
      clear c6
      by_cases c10 : a0 < 65536
      · rw [if_pos c10] at H
        have c10b0 : decide (a0 < 65536) = true := decide_eq_true c10
        clear c10
        obtain ⟨y161, hy161⟩ : ∃ y_ : List Int, y_ = (([(wrap64 (224 + (wrap64 (Int.tdiv a0 4096)))) % 256, (wrap64 (128 + (Int.tmod (wrap64 (Int.tdiv a0 64)) 64))) % 256, (wrap64 (128 + (Int.tmod a0 64))) % 256] : List Int)) := ⟨_, rfl⟩
        replace H : (some (strOfNums y161)) = some r := by first | (rw [hy161]; with_reducible exact H) | (have H2_ := (Option.bind_some _ _).symm.trans H; rw [hy161]; with_reducible exact H2_) | (have H2_ := (Option.bind_some _ _).symm.trans H; with_reducible exact H2_) | with_reducible exact H | (rw [hy161]; exact H) | exact H
        have Ny161 := Aside0.mk hy161
        clear hy161
        obtain rfl := Option.some.inj H
        go_enter Tryd.func38, Tryd.ntmps38
        go_wp2_with (first | ((with_reducible refine gate_dst (N := 36) rfl ?_); refine Kd.R_lit (Kd.int .u8) _ 5 ?hg (N := 36) ?hd (xs := ([(wrap64 (224 + (wrap64 (Int.tdiv a0 4096)))) % 256, (wrap64 (128 + (Int.tmod (wrap64 (Int.tdiv a0 64)) 64))) % 256, (wrap64 (128 + (Int.tmod a0 64))) % 256] : List Int)) (inner := [.int .u8 ((wrap64 (224 + (wrap64 (Int.tdiv a0 4096)))) % 256), .int .u8 ((wrap64 (128 + (Int.tmod (wrap64 (Int.tdiv a0 64)) 64))) % 256), .int .u8 ((wrap64 (128 + (Int.tmod a0 64))) % 256)]) (ok := fun _ => True) (okp := fun _ => True) ?hr ?hp (fun _ hk => hk) trivial (Below.refl _ _) (Nat.le_refl _) (by simp) ?_; (case hd => rfl); (case hg => rfl); (case hr => first | (go_simp; done) | (go_simp; rfl)); (case hp => exact (Reps.one (show Kd.M (Kd.int .u8) _ _ _ ((wrap64 (224 + (wrap64 (Int.tdiv a0 4096)))) % 256) [.int .u8 ((wrap64 (224 + (wrap64 (Int.tdiv a0 4096)))) % 256)] from rfl) (Reps.one (show Kd.M (Kd.int .u8) _ _ _ ((wrap64 (128 + (Int.tmod (wrap64 (Int.tdiv a0 64)) 64))) % 256) [.int .u8 ((wrap64 (128 + (Int.tmod (wrap64 (Int.tdiv a0 64)) 64))) % 256)] from rfl) (Reps.one (show Kd.M (Kd.int .u8) _ _ _ ((wrap64 (128 + (Int.tmod a0 64))) % 256) [.int .u8 ((wrap64 (128 + (Int.tmod a0 64))) % 256)] from rfl) (Reps.none _ _))))); intro v162 w11 ho12 hb hg_ hnew_; clear hg_ hnew_; (first | rw [← Ny161.out] at ho12 | (simp only [Int.reduceToNat] at ho12; rw [← Ny161.out] at ho12)); have n0_ := Aside0.mk (Kd.R_lower ho12 (below_size (by repeat (first | (with_reducible first | exact HB.out | apply below_alloc | apply pw_below_drewN | apply below_drew1) | exact HB.out)))); have n1_ := Aside0.mk (below_step (by repeat (first | (with_reducible first | exact HB.out | apply below_alloc | apply pw_below_drewN | apply below_drew1) | exact HB.out)) hb); clear HB; have HO163 := n0_; have HB := n1_; clear n0_ n1_; clear hb ho12; have hcv13 := own_string (P := Tryd.prog) Tryd.underlying24 Tryd.underlying5 Tryd.underlying9 (Kd.own_of_R HO163.out)))
        go_ret
        exact ⟨by first | rfl | (simp [errW_none, errW_some] <;> rfl) | (simp [*, errW_none, errW_some] <;> rfl), by repeat (first | (with_reducible first | exact HB.out | apply below_alloc | apply pw_below_drewN | apply below_drew1) | exact HB.out)⟩
      · rw [if_neg c10] at H
        have c10b0 : decide (a0 < 65536) = false := decide_eq_false c10
        clear c10
        obtain ⟨y164, hy164⟩ : ∃ y_ : List Int, y_ = (([(wrap64 (240 + (wrap64 (Int.tdiv a0 262144)))) % 256, (wrap64 (128 + (Int.tmod (wrap64 (Int.tdiv a0 4096)) 64))) % 256, (wrap64 (128 + (Int.tmod (wrap64 (Int.tdiv a0 64)) 64))) % 256, (wrap64 (128 + (Int.tmod a0 64))) % 256] : List Int)) := ⟨_, rfl⟩
        replace H : (some (strOfNums y164)) = some r := by first | (rw [hy164]; with_reducible exact H) | (have H2_ := (Option.bind_some _ _).symm.trans H; rw [hy164]; with_reducible exact H2_) | (have H2_ := (Option.bind_some _ _).symm.trans H; with_reducible exact H2_) | with_reducible exact H | (rw [hy164]; exact H) | exact H
        have Ny164 := Aside0.mk hy164
        clear hy164
        obtain rfl := Option.some.inj H
        go_enter Tryd.func38, Tryd.ntmps38
        go_wp2_with (first | ((with_reducible refine gate_dst (N := 56) rfl ?_); refine Kd.R_lit (Kd.int .u8) _ 5 ?hg (N := 56) ?hd (xs := ([(wrap64 (240 + (wrap64 (Int.tdiv a0 262144)))) % 256, (wrap64 (128 + (Int.tmod (wrap64 (Int.tdiv a0 4096)) 64))) % 256, (wrap64 (128 + (Int.tmod (wrap64 (Int.tdiv a0 64)) 64))) % 256, (wrap64 (128 + (Int.tmod a0 64))) % 256] : List Int)) (inner := [.int .u8 ((wrap64 (240 + (wrap64 (Int.tdiv a0 262144)))) % 256), .int .u8 ((wrap64 (128 + (Int.tmod (wrap64 (Int.tdiv a0 4096)) 64))) % 256), .int .u8 ((wrap64 (128 + (Int.tmod (wrap64 (Int.tdiv a0 64)) 64))) % 256), .int .u8 ((wrap64 (128 + (Int.tmod a0 64))) % 256)]) (ok := fun _ => True) (okp := fun _ => True) ?hr ?hp (fun _ hk => hk) trivial (Below.refl _ _) (Nat.le_refl _) (by simp) ?_; (case hd => rfl); (case hg => rfl); (case hr => first | (go_simp; done) | (go_simp; rfl)); (case hp => exact (Reps.one (show Kd.M (Kd.int .u8) _ _ _ ((wrap64 (240 + (wrap64 (Int.tdiv a0 262144)))) % 256) [.int .u8 ((wrap64 (240 + (wrap64 (Int.tdiv a0 262144)))) % 256)] from rfl) (Reps.one (show Kd.M (Kd.int .u8) _ _ _ ((wrap64 (128 + (Int.tmod (wrap64 (Int.tdiv a0 4096)) 64))) % 256) [.int .u8 ((wrap64 (128 + (Int.tmod (wrap64 (Int.tdiv a0 4096)) 64))) % 256)] from rfl) (Reps.one (show Kd.M (Kd.int .u8) _ _ _ ((wrap64 (128 + (Int.tmod (wrap64 (Int.tdiv a0 64)) 64))) % 256) [.int .u8 ((wrap64 (128 + (Int.tmod (wrap64 (Int.tdiv a0 64)) 64))) % 256)] from rfl) (Reps.one (show Kd.M (Kd.int .u8) _ _ _ ((wrap64 (128 + (Int.tmod a0 64))) % 256) [.int .u8 ((wrap64 (128 + (Int.tmod a0 64))) % 256)] from rfl) (Reps.none _ _)))))); intro v165 w14 ho15 hb hg_ hnew_; clear hg_ hnew_; (first | rw [← Ny164.out] at ho15 | (simp only [Int.reduceToNat] at ho15; rw [← Ny164.out] at ho15)); have n0_ := Aside0.mk (Kd.R_lower ho15 (below_size (by repeat (first | (with_reducible first | exact HB.out | apply below_alloc | apply pw_below_drewN | apply below_drew1) | exact HB.out)))); have n1_ := Aside0.mk (below_step (by repeat (first | (with_reducible first | exact HB.out | apply below_alloc | apply pw_below_drewN | apply below_drew1) | exact HB.out)) hb); clear HB; have HO166 := n0_; have HB := n1_; clear n0_ n1_; clear hb ho15; have hcv16 := own_string (P := Tryd.prog) Tryd.underlying24 Tryd.underlying5 Tryd.underlying9 (Kd.own_of_R HO166.out)))
        go_ret
        exact ⟨by first | rfl | (simp [errW_none, errW_some] <;> rfl) | (simp [*, errW_none, errW_some] <;> rfl), by repeat (first | (with_reducible first | exact HB.out | apply below_alloc | apply pw_below_drewN | apply below_drew1) | exact HB.out)⟩

mutual
def louverref15_begins.j0 : Nat → ByteArray → Int → Int → Option (Bool)
  | 0, _, _, _ => none
  | k + 1, x0, x3, x4 => louverref15_begins.l0 k x0 x3 x4 x4 1
def louverref15_begins.l0 : Nat → ByteArray → Int → Int → Int → Int → Option (Bool)
  | 0, _, _, _, _, _ => none
  | k + 1, x0, x3, x4, x5, x6 => if x6 < x3 then (if x6 < (x0.size : Int) then (if 0 ≤ x6 then (if (bt x0 x6) < 128 then (some false) else (if (bt x0 x6) > 191 then (some false) else (louverref15_begins.l0 k x0 x3 (wrap64 ((wrap64 ((wrap64 (64 * x4)) + (wrap64 (bt x0 x6)))) - 128)) (wrap64 ((wrap64 ((wrap64 (64 * x5)) + (wrap64 (bt x0 x6)))) - 128)) (wrap64 (x6 + 1))))) else (none)) else (louverref15_begins.l0 k x0 x3 (wrap64 (64 * x4)) (wrap64 ((wrap64 (64 * x5)) + 63)) (wrap64 (x6 + 1)))) else ((some (([x4, x5, mn x5 1114111, mx x4 2048, mx x4 65536, mx x4 128, mn x5 55295, mx x4 57344] : List Int) : List Int)).bind fun y168 => (louverref15_begins.l1 k x0 x3 x4 x5 y168 (y168.length : Int) 0))
def louverref15_begins.l1 : Nat → ByteArray → Int → Int → Int → List Int → Int → Int → Option (Bool)
  | 0, _, _, _, _, _, _, _ => none
  | k + 1, x0, x3, x4, x5, x87, x88, x89 => if x89 < x88 then (if 0 ≤ x89 then (if x89 < (x87.length : Int) then (if (rd x87 x89) ≥ x4 then (if (rd x87 x89) ≤ x5 then (if (rd x87 x89) < 1114112 then (if (rd x87 x89) < 55296 then ((louverref15_write.f (rd x87 x89)).bind fun t172 => (if (t172.size : Int) = x3 then ((louverref15_write.f (rd x87 x89)).bind fun t173 => (if 0 ≤ (x0.size : Int) then (if (x0.size : Int) ≤ (t173.size : Int) then (if (t173.extract 0 x0.size).toList = x0.toList then (some true) else (louverref15_begins.l1 k x0 x3 x4 x5 x87 x88 (wrap64 (x89 + 1)))) else (none)) else (none))) else (louverref15_begins.l1 k x0 x3 x4 x5 x87 x88 (wrap64 (x89 + 1))))) else (if (rd x87 x89) > 57343 then ((louverref15_write.f (rd x87 x89)).bind fun t174 => (if (t174.size : Int) = x3 then ((louverref15_write.f (rd x87 x89)).bind fun t175 => (if 0 ≤ (x0.size : Int) then (if (x0.size : Int) ≤ (t175.size : Int) then (if (t175.extract 0 x0.size).toList = x0.toList then (some true) else (louverref15_begins.l1 k x0 x3 x4 x5 x87 x88 (wrap64 (x89 + 1)))) else (none)) else (none))) else (louverref15_begins.l1 k x0 x3 x4 x5 x87 x88 (wrap64 (x89 + 1))))) else (louverref15_begins.l1 k x0 x3 x4 x5 x87 x88 (wrap64 (x89 + 1))))) else (louverref15_begins.l1 k x0 x3 x4 x5 x87 x88 (wrap64 (x89 + 1)))) else (louverref15_begins.l1 k x0 x3 x4 x5 x87 x88 (wrap64 (x89 + 1)))) else (louverref15_begins.l1 k x0 x3 x4 x5 x87 x88 (wrap64 (x89 + 1)))) else (none)) else (none)) else (some false)
end
def louverref15_begins.f (k : Nat) (a0 : ByteArray) : Option (Bool) := if 0 < (a0.size : Int) then ((louverref15_size.f k (bt a0 0)).bind fun t167 => (if t167 < (a0.size : Int) then (some false) else (if t167 = 2 then (louverref15_begins.j0 k a0 t167 (wrap64 ((wrap64 (bt a0 0)) - 192))) else (if t167 = 3 then (louverref15_begins.j0 k a0 t167 (wrap64 ((wrap64 (bt a0 0)) - 224))) else (if t167 = 4 then (louverref15_begins.j0 k a0 t167 (wrap64 ((wrap64 (bt a0 0)) - 240))) else (louverref15_begins.j0 k a0 t167 (wrap64 (bt a0 0)))))))) else (none)
set_option maxRecDepth 100000 in
theorem louverref15_begins.mono_l : ∀ k, (∀ y0 y1 y2, LeO (louverref15_begins.j0 k y0 y1 y2) (louverref15_begins.j0 (k + 1) y0 y1 y2)) ∧ (∀ y0 y1 y2 y3 y4, LeO (louverref15_begins.l0 k y0 y1 y2 y3 y4) (louverref15_begins.l0 (k + 1) y0 y1 y2 y3 y4)) ∧ (∀ y0 y1 y2 y3 y4 y5 y6, LeO (louverref15_begins.l1 k y0 y1 y2 y3 y4 y5 y6) (louverref15_begins.l1 (k + 1) y0 y1 y2 y3 y4 y5 y6))
  | 0 => ⟨fun _ _ _ r h => by (unfold louverref15_begins.j0 at h; cases h), fun _ _ _ _ _ r h => by (unfold louverref15_begins.l0 at h; cases h), fun _ _ _ _ _ _ _ r h => by (unfold louverref15_begins.l1 at h; cases h)⟩
  | k + 1 => by
    obtain ⟨ih0, ih1, ih2⟩ := louverref15_begins.mono_l k
    refine ⟨?_, ?_, ?_⟩
    · intro y0 y1 y2
      unfold louverref15_begins.j0
      repeat' first
      | (with_reducible exact ih0 _ _ _)
      | (with_reducible exact ih1 _ _ _ _ _)
      | (with_reducible exact ih2 _ _ _ _ _ _ _)
      | (with_reducible exact louverref15_size.mono _ _)
      | (with_reducible exact LeO.refl _)
      | (with_reducible exact LeO.none _)
      | (with_reducible refine LeO.ite ?_ ?_)
      | (with_reducible refine LeO.bind ?_ (fun _ => ?_))
      | exact ih0 _ _ _
      | exact ih1 _ _ _ _ _
      | exact ih2 _ _ _ _ _ _ _
      | exact louverref15_size.mono _ _
      | exact LeO.none _
      | refine LeO.ite ?_ ?_
      | refine LeO.bind ?_ (fun _ => ?_)
    · intro y0 y1 y2 y3 y4
      unfold louverref15_begins.l0
      repeat' first
      | (with_reducible exact ih0 _ _ _)
      | (with_reducible exact ih1 _ _ _ _ _)
      | (with_reducible exact ih2 _ _ _ _ _ _ _)
      | (with_reducible exact louverref15_size.mono _ _)
      | (with_reducible exact LeO.refl _)
      | (with_reducible exact LeO.none _)
      | (with_reducible refine LeO.ite ?_ ?_)
      | (with_reducible refine LeO.bind ?_ (fun _ => ?_))
      | exact ih0 _ _ _
      | exact ih1 _ _ _ _ _
      | exact ih2 _ _ _ _ _ _ _
      | exact louverref15_size.mono _ _
      | exact LeO.none _
      | refine LeO.ite ?_ ?_
      | refine LeO.bind ?_ (fun _ => ?_)
    · intro y0 y1 y2 y3 y4 y5 y6
      unfold louverref15_begins.l1
      repeat' first
      | (with_reducible exact ih0 _ _ _)
      | (with_reducible exact ih1 _ _ _ _ _)
      | (with_reducible exact ih2 _ _ _ _ _ _ _)
      | (with_reducible exact louverref15_size.mono _ _)
      | (with_reducible exact LeO.refl _)
      | (with_reducible exact LeO.none _)
      | (with_reducible refine LeO.ite ?_ ?_)
      | (with_reducible refine LeO.bind ?_ (fun _ => ?_))
      | exact ih0 _ _ _
      | exact ih1 _ _ _ _ _
      | exact ih2 _ _ _ _ _ _ _
      | exact louverref15_size.mono _ _
      | exact LeO.none _
      | refine LeO.ite ?_ ?_
      | refine LeO.bind ?_ (fun _ => ?_)
set_option maxRecDepth 100000 in
theorem louverref15_begins.mono : ∀ a0 k, LeO (louverref15_begins.f k a0) (louverref15_begins.f (k + 1) a0) := by
  intro a0 k
  obtain ⟨ih0, ih1, ih2⟩ := louverref15_begins.mono_l k
  unfold louverref15_begins.f
  repeat' first
      | (with_reducible exact ih0 _ _ _)
      | (with_reducible exact ih1 _ _ _ _ _)
      | (with_reducible exact ih2 _ _ _ _ _ _ _)
      | (with_reducible exact louverref15_size.mono _ _)
      | (with_reducible exact LeO.refl _)
      | (with_reducible exact LeO.none _)
      | (with_reducible refine LeO.ite ?_ ?_)
      | (with_reducible refine LeO.bind ?_ (fun _ => ?_))
      | exact ih0 _ _ _
      | exact ih1 _ _ _ _ _
      | exact ih2 _ _ _ _ _ _ _
      | exact louverref15_size.mono _ _
      | exact LeO.none _
      | refine LeO.ite ?_ ?_
      | refine LeO.bind ?_ (fun _ => ?_)
set_option maxHeartbeats 8000000 in
set_option maxRecDepth 100000 in
theorem louverref15_begins.calls (k : Nat) (a0 : ByteArray) (r : Bool) (w : World) (h : louverref15_begins.f k a0 = some r) :
    Calls Tryd.prog 30 #[.string a0] w fun e w' => e = .returned (.bool r) ∧ Below w.heap.size w w' := by
  have hf66_1 := field66_1
  have HB := Aside0.mk (Below.refl w.heap.size w)
  have H : (if 0 < (a0.size : Int) then ((louverref15_size.f k (bt a0 0)).bind fun t167 => (if t167 < (a0.size : Int) then (some false) else (if t167 = 2 then (louverref15_begins.j0 k a0 t167 (wrap64 ((wrap64 (bt a0 0)) - 192))) else (if t167 = 3 then (louverref15_begins.j0 k a0 t167 (wrap64 ((wrap64 (bt a0 0)) - 224))) else (if t167 = 4 then (louverref15_begins.j0 k a0 t167 (wrap64 ((wrap64 (bt a0 0)) - 240))) else (louverref15_begins.j0 k a0 t167 (wrap64 (bt a0 0)))))))) else (none)) = some r := h
  clear h
  by_cases c2 : 0 < (a0.size : Int)
  · rw [if_pos c2] at H
    have c2b0 : decide (0 < (a0.size : Int)) = true := decide_eq_true c2
    have c2b1 : decide (0 < a0.size) = true := decide_eq_true (by omega)
    clear c2
    replace H := Option.bind_eq_some_iff.mp H
    obtain ⟨t167, A40, H⟩ := H
    replace H : (if t167 < (a0.size : Int) then (some false) else (if t167 = 2 then (louverref15_begins.j0 k a0 t167 (wrap64 ((wrap64 (bt a0 0)) - 192))) else (if t167 = 3 then (louverref15_begins.j0 k a0 t167 (wrap64 ((wrap64 (bt a0 0)) - 224))) else (if t167 = 4 then (louverref15_begins.j0 k a0 t167 (wrap64 ((wrap64 (bt a0 0)) - 240))) else (louverref15_begins.j0 k a0 t167 (wrap64 (bt a0 0))))))) = some r := H
    have A4 := Aside0.mk A40
    clear A40
    by_cases c5 : t167 < (a0.size : Int)
    · rw [if_pos c5] at H
      have c5b0 : decide (t167 < (a0.size : Int)) = true := decide_eq_true c5
      clear c5
      obtain rfl := Option.some.inj H
      have p3 : 0 ≤ (0 : Int) := (by omega)
      have q3 : 0 < a0.size := (by have : (0 : Int) < (a0.size : Int) := of_decide_eq_true (by first | (with_reducible assumption) | assumption); omega)
      have hx3 : ∀ h : 0 < a0.size, ((a0[0]'h).toNat : Int) = bt a0 0 := bt_at a0 0
      clear p3
      have qi3 : (0 < (a0.size : Int)) = True := eq_true (of_decide_eq_true (by first | (with_reducible assumption) | assumption))
      replace q3 := eq_true q3
      go_enter Tryd.func30, Tryd.ntmps30
      go_wp2_with (first | ((with_reducible refine gate_callee (f := 31) rfl ?_); refine goesL_ (some 11) rfl rfl Tryd.func31 (by kernel_rfl) rfl #[.int .u8 (bt a0 0)] rfl (by (try simp only [List.map_toArray, List.map_cons, List.map_nil]); first | done | rfl | (simp only [List.length_drop, List.length_take]; rfl)) ?_; (with_reducible refine (louverref15_size.calls k (bt a0 0) t167 _ A4.out).mono ?_); rintro e w' ⟨rfl, ⟨nd, rfl⟩⟩; refine ⟨_, rfl, ?_⟩))
      go_ret
      exact ⟨by first | rfl | (simp [errW_none, errW_some] <;> rfl) | (simp [*, errW_none, errW_some] <;> rfl), by repeat (first | (with_reducible first | exact HB.out | apply below_alloc | apply pw_below_drewN | apply below_drew1) | exact HB.out)⟩
    · rw [if_neg c5] at H
      have c5b0 : decide (t167 < (a0.size : Int)) = false := decide_eq_false c5
      clear c5
      have HC7 := Aside0.mk H
      clear H
      have p3 : 0 ≤ (0 : Int) := (by omega)
      have q3 : 0 < a0.size := (by have : (0 : Int) < (a0.size : Int) := of_decide_eq_true (by first | (with_reducible assumption) | assumption); omega)
      have hx3 : ∀ h : 0 < a0.size, ((a0[0]'h).toNat : Int) = bt a0 0 := bt_at a0 0
      clear p3
      have qi3 : (0 < (a0.size : Int)) = True := eq_true (of_decide_eq_true (by first | (with_reducible assumption) | assumption))
      replace q3 := eq_true q3
      go_enter Tryd.func30, Tryd.ntmps30
      go_upto_block 0 with (first | ((with_reducible refine gate_callee (f := 31) rfl ?_); refine goesL_ (some 11) rfl rfl Tryd.func31 (by kernel_rfl) rfl #[.int .u8 (bt a0 0)] rfl (by (try simp only [List.map_toArray, List.map_cons, List.map_nil]); first | done | rfl | (simp only [List.length_drop, List.length_take]; rfl)) ?_; (with_reducible refine (louverref15_size.calls k (bt a0 0) t167 _ A4.out).mono ?_); rintro e w' ⟨rfl, ⟨nd, rfl⟩⟩; refine ⟨_, rfl, ?_⟩; have p6 : 0 ≤ (0 : Int) := (by omega); have q6 : 0 < a0.size := (by have : (0 : Int) < (a0.size : Int) := of_decide_eq_true (by first | (with_reducible assumption) | assumption); omega); have hx6 : ∀ h : 0 < a0.size, ((a0[0]'h).toNat : Int) = bt a0 0 := bt_at a0 0; clear p6; have qi6 : (0 < (a0.size : Int)) = True := eq_true (of_decide_eq_true (by first | (with_reducible assumption) | assumption)); replace q6 := eq_true q6))
      (try simp only [Act.put, List.setIfInBounds_toArray, List.set_cons_zero, List.set_cons_succ])
      go_cut [4] (fun v4 wc => ∃ (kq : Nat) (x4_6 : Int), v4 = .int .i64 x4_6 ∧ Aside0 (louverref15_begins.j0 kq a0 t167 x4_6 = some r) ∧ Aside0 (kq ≤ k) ∧ Aside0 (Below w.heap.size w wc))
      case first =>
        have H := HC7.out
        clear HC7
        by_cases c8 : t167 = 2
        · rw [if_pos c8] at H
          have c8b0 : (t167 == 2) = true := beq_iff_eq.mpr c8
          have c8b1 : (t167 != 2) = false := bne_eq_false_iff_eq.mpr c8
          clear c8
          (first | rw [c8b0] | (simp only [i64_w, i32_w]; rw [c8b0]) | skip)
          have H' := Aside0.mk H
          clear H
          go_wp2
          go_meet
          case rel => exact ⟨_, (wrap64 ((wrap64 (bt a0 0)) - 192)), (by first | rfl | (simp; done) | (simp [*]; done)), H', ⟨by first | omega | exact Nat.le_refl _⟩, ⟨by repeat (first | (with_reducible first | exact HB.out | apply below_alloc | apply pw_below_drewN | apply below_drew1) | exact HB.out)⟩⟩
        · rw [if_neg c8] at H
          have c8b0 : (t167 == 2) = false := beq_eq_false_iff_ne.mpr c8
          have c8b1 : (t167 != 2) = true := bne_iff_ne.mpr c8
          (first | rw [c8b0] | (simp only [i64_w, i32_w]; rw [c8b0]) | skip)
          by_cases c9 : t167 = 3
          · rw [if_pos c9] at H
            have c9b0 : (t167 == 3) = true := beq_iff_eq.mpr c9
            have c9b1 : (t167 != 3) = false := bne_eq_false_iff_eq.mpr c9
            clear c9
            have H' := Aside0.mk H
            clear H
            go_wp2
            go_meet
            case rel => exact ⟨_, (wrap64 ((wrap64 (bt a0 0)) - 224)), (by first | rfl | (simp; done) | (simp [*]; done)), H', ⟨by first | omega | exact Nat.le_refl _⟩, ⟨by repeat (first | (with_reducible first | exact HB.out | apply below_alloc | apply pw_below_drewN | apply below_drew1) | exact HB.out)⟩⟩
          · rw [if_neg c9] at H
            have c9b0 : (t167 == 3) = false := beq_eq_false_iff_ne.mpr c9
            have c9b1 : (t167 != 3) = true := bne_iff_ne.mpr c9
            by_cases c10 : t167 = 4
            · rw [if_pos c10] at H
              have c10b0 : (t167 == 4) = true := beq_iff_eq.mpr c10
              have c10b1 : (t167 != 4) = false := bne_eq_false_iff_eq.mpr c10
              clear c10
              have H' := Aside0.mk H
              clear H
              go_wp2
              go_meet
              case rel => exact ⟨_, (wrap64 ((wrap64 (bt a0 0)) - 240)), (by first | rfl | (simp; done) | (simp [*]; done)), H', ⟨by first | omega | exact Nat.le_refl _⟩, ⟨by repeat (first | (with_reducible first | exact HB.out | apply below_alloc | apply pw_below_drewN | apply below_drew1) | exact HB.out)⟩⟩
            · rw [if_neg c10] at H
              have c10b0 : (t167 == 4) = false := beq_eq_false_iff_ne.mpr c10
              have c10b1 : (t167 != 4) = true := bne_iff_ne.mpr c10
              have H' := Aside0.mk H
              clear H
              go_wp2
              go_meet
              case rel => exact ⟨_, (wrap64 (bt a0 0)), (by first | rfl | (simp; done) | (simp [*]; done)), H', ⟨by first | omega | exact Nat.le_refl _⟩, ⟨by repeat (first | (with_reducible first | exact HB.out | apply below_alloc | apply pw_below_drewN | apply below_drew1) | exact HB.out)⟩⟩
      case rest =>
        clear HC7
        try clear c1
        try clear c2
        try clear c2b0
        try clear c2b1
        try clear p2
        try clear c3
        try clear p3
        try clear q3
        try clear hx3
        try clear qi3
        try clear c5
        try clear c5b0
        try clear p6
        try clear q6
        try clear hx6
        try clear qi6
        try clear c8
        try clear c8b0
        try clear c8b1
        try clear c9
        try clear c9b0
        try clear c9b1
        try clear c10
        try clear c10b0
        try clear c10b1
        try clear p3
        try clear p6
        try clear q3
        try clear q6
        obtain ⟨kq, x4_6, rfl, HA, HJ6, HB⟩ := hcut
        cases kq with
        | zero => exact absurd HA.out (by simp [louverref15_begins.j0])
        | succ kj6 =>
          have H := HA.out
          clear HA
          simp only [louverref15_begins.j0] at H
          have H' := Aside0.mk H
          clear H
          go_wp2
          go_loopg [4, 5, 6] kj6 (fun kq v4 v5 v6 w' => ∃ (x4_2 : Int) (x5_2 : Int) (x6_2 : Int), v4 = .int .i64 x4_2 ∧ v5 = .int .i64 x5_2 ∧ v6 = .int .i64 x6_2 ∧ Aside0 (louverref15_begins.l0 kq a0 t167 x4_2 x5_2 x6_2 = some r) ∧ Aside0 (kq ≤ kj6) ∧ Aside0 (Below w.heap.size w w'))
          case atStart => exact ⟨(x4_6), (x4_6), (1), (by first | rfl | (simp; done) | (simp [*]; done)), (by first | rfl | (simp; done) | (simp [*]; done)), (by first | rfl | (simp; done) | (simp [*]; done)), H', ⟨Nat.le_refl _⟩, ⟨by repeat (first | (with_reducible first | exact HB.out | apply below_alloc | apply pw_below_drewN | apply below_drew1) | exact HB.out)⟩⟩
          case round =>
            clear H'
            try clear c1
            try clear c2
            try clear c2b0
            try clear c2b1
            try clear p2
            try clear c3
            try clear p3
            try clear q3
            try clear hx3
            try clear qi3
            try clear c5
            try clear c5b0
            try clear p6
            try clear q6
            try clear hx6
            try clear qi6
            try clear c8
            try clear c8b0
            try clear c8b1
            try clear c9
            try clear c9b0
            try clear c9b1
            try clear c10
            try clear c10b0
            try clear c10b1
            try clear p2
            try clear p3
            try clear p6
            try clear q3
            try clear q6
            obtain ⟨x4_2, x5_2, x6_2, rfl, rfl, rfl, HA, HK2, HB⟩ := hrel
            cases gk with
            | zero => exact absurd HA.out (by simp [louverref15_begins.l0])
            | succ k2 =>
              have H := HA.out
              clear HA
              simp only [louverref15_begins.l0] at H
              by_cases c11 : x6_2 < t167
              · rw [if_pos c11] at H
                have c11b0 : decide (x6_2 < t167) = true := decide_eq_true c11
                clear c11
                by_cases c12 : x6_2 < (a0.size : Int)
                · rw [if_pos c12] at H
                  have c12b0 : decide (x6_2 < (a0.size : Int)) = true := decide_eq_true c12
                  clear c12
                  by_cases c13 : 0 ≤ x6_2
                  · rw [if_pos c13] at H
                    have c13b0 : decide (0 ≤ x6_2) = true := decide_eq_true c13
                    clear c13
                    by_cases c15 : (bt a0 x6_2) < 128
                    · rw [if_pos c15] at H
                      have c15b0 : decide ((bt a0 x6_2) < 128) = true := decide_eq_true c15
                      clear c15
                      obtain rfl := Option.some.inj H
                      have p14 : 0 ≤ (x6_2 : Int) := of_decide_eq_true (by first | (with_reducible assumption) | assumption)
                      have q14 : x6_2 < (a0.size : Int) := of_decide_eq_true (by first | (with_reducible assumption) | assumption)
                      have hx14 := bt_at a0 x6_2
                      replace p14 := eq_true p14
                      replace q14 := eq_true q14
                      go_wp2
                      go_ret
                      exact ⟨by first | rfl | (simp [errW_none, errW_some] <;> rfl) | (simp [*, errW_none, errW_some] <;> rfl), by repeat (first | (with_reducible first | exact HB.out | apply below_alloc | apply pw_below_drewN | apply below_drew1) | exact HB.out)⟩
                    · rw [if_neg c15] at H
                      have c15b0 : decide ((bt a0 x6_2) < 128) = false := decide_eq_false c15
                      clear c15
                      by_cases c17 : (bt a0 x6_2) > 191
                      · rw [if_pos c17] at H
                        have c17b0 : decide (191 < (bt a0 x6_2)) = true := decide_eq_true c17
                        clear c17
                        obtain rfl := Option.some.inj H
                        have p14 : 0 ≤ (x6_2 : Int) := of_decide_eq_true (by first | (with_reducible assumption) | assumption)
                        have q14 : x6_2 < (a0.size : Int) := of_decide_eq_true (by first | (with_reducible assumption) | assumption)
                        have hx14 := bt_at a0 x6_2
                        replace p14 := eq_true p14
                        replace q14 := eq_true q14
                        have p16 : 0 ≤ (x6_2 : Int) := of_decide_eq_true (by first | (with_reducible assumption) | assumption)
                        have q16 : x6_2 < (a0.size : Int) := of_decide_eq_true (by first | (with_reducible assumption) | assumption)
                        have hx16 := bt_at a0 x6_2
                        replace p16 := eq_true p16
                        replace q16 := eq_true q16
                        go_wp2
                        go_ret
                        exact ⟨by first | rfl | (simp [errW_none, errW_some] <;> rfl) | (simp [*, errW_none, errW_some] <;> rfl), by repeat (first | (with_reducible first | exact HB.out | apply below_alloc | apply pw_below_drewN | apply below_drew1) | exact HB.out)⟩
                      · rw [if_neg c17] at H
                        have c17b0 : decide (191 < (bt a0 x6_2)) = false := decide_eq_false c17
                        clear c17
                        have H' := Aside0.mk H
                        clear H
                        have p14 : 0 ≤ (x6_2 : Int) := of_decide_eq_true (by first | (with_reducible assumption) | assumption)
                        have q14 : x6_2 < (a0.size : Int) := of_decide_eq_true (by first | (with_reducible assumption) | assumption)
                        have hx14 := bt_at a0 x6_2
                        replace p14 := eq_true p14
                        replace q14 := eq_true q14
                        have p16 : 0 ≤ (x6_2 : Int) := of_decide_eq_true (by first | (with_reducible assumption) | assumption)
                        have q16 : x6_2 < (a0.size : Int) := of_decide_eq_true (by first | (with_reducible assumption) | assumption)
                        have hx16 := bt_at a0 x6_2
                        replace p16 := eq_true p16
                        replace q16 := eq_true q16
                        have p18 : 0 ≤ (x6_2 : Int) := of_decide_eq_true (by first | (with_reducible assumption) | assumption)
                        have q18 : x6_2 < (a0.size : Int) := of_decide_eq_true (by first | (with_reducible assumption) | assumption)
                        have hx18 := bt_at a0 x6_2
                        replace p18 := eq_true p18
                        replace q18 := eq_true q18
                        have p19 : 0 ≤ (x6_2 : Int) := of_decide_eq_true (by first | (with_reducible assumption) | assumption)
                        have q19 : x6_2 < (a0.size : Int) := of_decide_eq_true (by first | (with_reducible assumption) | assumption)
                        have hx19 := bt_at a0 x6_2
                        replace p19 := eq_true p19
                        replace q19 := eq_true q19
                        go_wp2
                        go_roundg k2
                        case measure => have := HJ6.out; have := HK2.out; omega
                        case rel => exact ⟨(wrap64 ((wrap64 ((wrap64 (64 * x4_2)) + (wrap64 (bt a0 x6_2)))) - 128)), (wrap64 ((wrap64 ((wrap64 (64 * x5_2)) + (wrap64 (bt a0 x6_2)))) - 128)), (wrap64 (x6_2 + 1)), (by first | rfl | (simp; done) | (simp [*]; done)), (by first | rfl | (simp; done) | (simp [*]; done)), (by first | rfl | (simp; done) | (simp [*]; done)), H', ⟨by have := HJ6.out; have := HK2.out; omega⟩, ⟨by repeat (first | (with_reducible first | exact HB.out | apply below_alloc | apply pw_below_drewN | apply below_drew1) | exact HB.out)⟩⟩
                  · rw [if_neg c13] at H
                    exact absurd H (by simp)
                · rw [if_neg c12] at H
                  have c12b0 : decide (x6_2 < (a0.size : Int)) = false := decide_eq_false c12
                  clear c12
                  have H' := Aside0.mk H
                  clear H
                  go_wp2
                  go_roundg k2
                  case measure => have := HJ6.out; have := HK2.out; omega
                  case rel => exact ⟨(wrap64 (64 * x4_2)), (wrap64 ((wrap64 (64 * x5_2)) + 63)), (wrap64 (x6_2 + 1)), (by first | rfl | (simp; done) | (simp [*]; done)), (by first | rfl | (simp; done) | (simp [*]; done)), (by first | rfl | (simp; done) | (simp [*]; done)), H', ⟨by have := HJ6.out; have := HK2.out; omega⟩, ⟨by repeat (first | (with_reducible first | exact HB.out | apply below_alloc | apply pw_below_drewN | apply below_drew1) | exact HB.out)⟩⟩
              · rw [if_neg c11] at H
                have c11b0 : decide (x6_2 < t167) = false := decide_eq_false c11
                clear c11
                obtain ⟨ji20, hji20⟩ : ∃ j_ : Int, (mn x5_2 1114111) = j_ := ⟨_, rfl⟩
                replace H : ((some (([x4_2, x5_2, ji20, mx x4_2 2048, mx x4_2 65536, mx x4_2 128, mn x5_2 55295, mx x4_2 57344] : List Int) : List Int)).bind fun y168 => (louverref15_begins.l1 k2 a0 t167 x4_2 x5_2 y168 (y168.length : Int) 0)) = some r := by first | (rw [hji20] at H; exact H) | (simp only [hji20] at H ⊢; exact H)
                have hji20_ : (if 1114111 < x5_2 then 1114111 else x5_2) = ji20 := hji20
                obtain ⟨ji21, hji21⟩ : ∃ j_ : Int, (mx x4_2 2048) = j_ := ⟨_, rfl⟩
                replace H : ((some (([x4_2, x5_2, ji20, ji21, mx x4_2 65536, mx x4_2 128, mn x5_2 55295, mx x4_2 57344] : List Int) : List Int)).bind fun y168 => (louverref15_begins.l1 k2 a0 t167 x4_2 x5_2 y168 (y168.length : Int) 0)) = some r := by first | (rw [hji21] at H; exact H) | (simp only [hji21] at H ⊢; exact H)
                have hji21_ : (if x4_2 < 2048 then 2048 else x4_2) = ji21 := hji21
                obtain ⟨ji22, hji22⟩ : ∃ j_ : Int, (mx x4_2 65536) = j_ := ⟨_, rfl⟩
                replace H : ((some (([x4_2, x5_2, ji20, ji21, ji22, mx x4_2 128, mn x5_2 55295, mx x4_2 57344] : List Int) : List Int)).bind fun y168 => (louverref15_begins.l1 k2 a0 t167 x4_2 x5_2 y168 (y168.length : Int) 0)) = some r := by first | (rw [hji22] at H; exact H) | (simp only [hji22] at H ⊢; exact H)
                have hji22_ : (if x4_2 < 65536 then 65536 else x4_2) = ji22 := hji22
                obtain ⟨ji23, hji23⟩ : ∃ j_ : Int, (mx x4_2 128) = j_ := ⟨_, rfl⟩
                replace H : ((some (([x4_2, x5_2, ji20, ji21, ji22, ji23, mn x5_2 55295, mx x4_2 57344] : List Int) : List Int)).bind fun y168 => (louverref15_begins.l1 k2 a0 t167 x4_2 x5_2 y168 (y168.length : Int) 0)) = some r := by first | (rw [hji23] at H; exact H) | (simp only [hji23] at H ⊢; exact H)
                have hji23_ : (if x4_2 < 128 then 128 else x4_2) = ji23 := hji23
                obtain ⟨ji24, hji24⟩ : ∃ j_ : Int, (mn x5_2 55295) = j_ := ⟨_, rfl⟩
                replace H : ((some (([x4_2, x5_2, ji20, ji21, ji22, ji23, ji24, mx x4_2 57344] : List Int) : List Int)).bind fun y168 => (louverref15_begins.l1 k2 a0 t167 x4_2 x5_2 y168 (y168.length : Int) 0)) = some r := by first | (rw [hji24] at H; exact H) | (simp only [hji24] at H ⊢; exact H)
                have hji24_ : (if 55295 < x5_2 then 55295 else x5_2) = ji24 := hji24
                obtain ⟨ji25, hji25⟩ : ∃ j_ : Int, (mx x4_2 57344) = j_ := ⟨_, rfl⟩
                replace H : ((some (([x4_2, x5_2, ji20, ji21, ji22, ji23, ji24, ji25] : List Int) : List Int)).bind fun y168 => (louverref15_begins.l1 k2 a0 t167 x4_2 x5_2 y168 (y168.length : Int) 0)) = some r := by first | (rw [hji25] at H; exact H) | (simp only [hji25] at H ⊢; exact H)
                have hji25_ : (if x4_2 < 57344 then 57344 else x4_2) = ji25 := hji25
                obtain ⟨y168, hy168⟩ : ∃ y_ : List Int, y_ = (([x4_2, x5_2, ji20, ji21, ji22, ji23, ji24, ji25] : List Int)) := ⟨_, rfl⟩
                replace H : (louverref15_begins.l1 k2 a0 t167 x4_2 x5_2 y168 (y168.length : Int) 0) = some r := by first | (rw [hy168]; with_reducible exact H) | (have H2_ := (Option.bind_some _ _).symm.trans H; rw [hy168]; with_reducible exact H2_) | (have H2_ := (Option.bind_some _ _).symm.trans H; with_reducible exact H2_) | with_reducible exact H | (rw [hy168]; exact H) | exact H
                have Ny168 := Aside0.mk hy168
                clear hy168
                have H' := Aside0.mk H
                clear H
                go_wp2_with (first | ((with_reducible refine gate_dst (N := 87) rfl ?_); (try (refine gate_guard (by rfl) ?_; dsimp only)); refine Kd.R_lit (Kd.int .i64) _ 3 ?hg (N := 87) ?hd (xs := ([x4_2, x5_2, ji20, ji21, ji22, ji23, ji24, ji25] : List Int)) (inner := [.int .i64 x4_2, .int .i64 x5_2, .int .i64 ji20, .int .i64 ji21, .int .i64 ji22, .int .i64 ji23, .int .i64 ji24, .int .i64 ji25]) (ok := fun _ => True) (okp := fun _ => True) ?hr ?hp (fun _ hk => hk) trivial (Below.refl _ _) (Nat.le_refl _) (by simp) ?_; (case hd => rfl); (case hg => rfl); (case hr => first | (go_simp; done) | (go_simp; rfl)); (case hp => exact (Reps.one (show Kd.M (Kd.int .i64) _ _ _ x4_2 [.int .i64 x4_2] from rfl) (Reps.one (show Kd.M (Kd.int .i64) _ _ _ x5_2 [.int .i64 x5_2] from rfl) (Reps.one (show Kd.M (Kd.int .i64) _ _ _ ji20 [.int .i64 ji20] from rfl) (Reps.one (show Kd.M (Kd.int .i64) _ _ _ ji21 [.int .i64 ji21] from rfl) (Reps.one (show Kd.M (Kd.int .i64) _ _ _ ji22 [.int .i64 ji22] from rfl) (Reps.one (show Kd.M (Kd.int .i64) _ _ _ ji23 [.int .i64 ji23] from rfl) (Reps.one (show Kd.M (Kd.int .i64) _ _ _ ji24 [.int .i64 ji24] from rfl) (Reps.one (show Kd.M (Kd.int .i64) _ _ _ ji25 [.int .i64 ji25] from rfl) (Reps.none _ _)))))))))); intro v169 w26 ho27 hb hg_ hnew_; clear hg_ hnew_; (first | rw [← Ny168.out] at ho27 | (simp only [Int.reduceToNat] at ho27; rw [← Ny168.out] at ho27)); have n0_ := Aside0.mk (Kd.R_lower ho27 (below_size (by repeat (first | (with_reducible first | exact HB.out | apply below_alloc | apply pw_below_drewN | apply below_drew1) | exact HB.out)))); have n1_ := Aside0.mk (below_step (by repeat (first | (with_reducible first | exact HB.out | apply below_alloc | apply pw_below_drewN | apply below_drew1) | exact HB.out)) hb); clear HB; have HO170 := n0_; have HB := n1_; clear n0_ n1_; clear hb ho27; obtain ⟨Ao28, co28, eo28⟩ := Kd.R_slice HO170.out; subst eo28))
                go_loopg [89] k2 (fun kq v89 w' => ∃ (x89_3 : Int), v89 = .int .i64 x89_3 ∧ Aside0 (louverref15_begins.l1 kq a0 t167 x4_2 x5_2 y168 (y168.length : Int) x89_3 = some r) ∧ Aside0 (kq ≤ k2) ∧ Aside0 (Kd.R (Kd.int .i64) 3 w' w.heap.size (fun _ => True) (.slice Ao28 y168.length co28) y168) ∧ Aside0 (Below w.heap.size w w'))
                case atStart => exact ⟨(0), (by first | rfl | (simp; done) | (simp [*]; done)), H', ⟨Nat.le_refl _⟩, ⟨by (with_reducible repeat (first | apply Kd.R_alloc | apply Kd.R_drewN | apply Kd.R_drew)); exact HO170.out⟩, ⟨by repeat (first | (with_reducible first | exact HB.out | apply below_alloc | apply pw_below_drewN | apply below_drew1) | exact HB.out)⟩⟩
                case round =>
                  clear H'
                  try clear c1
                  try clear p1
                  try clear q1
                  try clear hx1
                  try clear c2
                  try clear c2b0
                  try clear c2b1
                  try clear p2
                  try clear c3
                  try clear p3
                  try clear q3
                  try clear hx3
                  try clear qi3
                  try clear c5
                  try clear c5b0
                  try clear p6
                  try clear q6
                  try clear hx6
                  try clear qi6
                  try clear c8
                  try clear c8b0
                  try clear c8b1
                  try clear c9
                  try clear c9b0
                  try clear c9b1
                  try clear c10
                  try clear c10b0
                  try clear c10b1
                  try clear c11
                  try clear c11b0
                  try clear c12
                  try clear c12b0
                  try clear c13
                  try clear c13b0
                  try clear p14
                  try clear q14
                  try clear hx14
                  try clear c15
                  try clear c15b0
                  try clear p16
                  try clear q16
                  try clear hx16
                  try clear c17
                  try clear c17b0
                  try clear p18
                  try clear q18
                  try clear hx18
                  try clear p19
                  try clear q19
                  try clear hx19
                  try clear p14
                  try clear p16
                  try clear p18
                  try clear p19
                  try clear p2
                  try clear p3
                  try clear p6
                  try clear q14
                  try clear q16
                  try clear q18
                  try clear q19
                  try clear q3
                  try clear q6
                  obtain ⟨x89_3, rfl, HA, HK3, HO_87, HB⟩ := hrel
                  cases gk with
                  | zero => exact absurd HA.out (by simp [louverref15_begins.l1])
                  | succ k3 =>
                    have H := HA.out
                    clear HA
                    simp only [louverref15_begins.l1] at H
                    by_cases c29 : x89_3 < (y168.length : Int)
                    · rw [if_pos c29] at H
                      have c29b0 : decide (x89_3 < (y168.length : Int)) = true := decide_eq_true c29
                      clear c29
                      by_cases c30 : 0 ≤ x89_3
                      · rw [if_pos c30] at H
                        have c30b0 : decide (0 ≤ x89_3) = true := decide_eq_true c30
                        clear c30
                        by_cases c31 : x89_3 < (y168.length : Int)
                        · rw [if_pos c31] at H
                          have c31b0 : decide (x89_3 < (y168.length : Int)) = true := decide_eq_true c31
                          clear c31
                          by_cases c32 : (rd y168 x89_3) ≥ x4_2
                          · rw [if_pos c32] at H
                            have c32b0 : decide (x4_2 ≤ (rd y168 x89_3)) = true := decide_eq_true c32
                            clear c32
                            by_cases c33 : (rd y168 x89_3) ≤ x5_2
                            · rw [if_pos c33] at H
                              have c33b0 : decide ((rd y168 x89_3) ≤ x5_2) = true := decide_eq_true c33
                              clear c33
                              by_cases c34 : (rd y168 x89_3) < 1114112
                              · rw [if_pos c34] at H
                                have c34b0 : decide ((rd y168 x89_3) < 1114112) = true := decide_eq_true c34
                                clear c34
                                by_cases c35 : (rd y168 x89_3) < 55296
                                · rw [if_pos c35] at H
                                  have c35b0 : decide ((rd y168 x89_3) < 55296) = true := decide_eq_true c35
                                  clear c35
                                  replace H := Option.bind_eq_some_iff.mp H
                                  obtain ⟨t172, A360, H⟩ := H
                                  replace H : (if (t172.size : Int) = t167 then ((louverref15_write.f (rd y168 x89_3)).bind fun t173 => (if 0 ≤ (a0.size : Int) then (if (a0.size : Int) ≤ (t173.size : Int) then (if (t173.extract 0 a0.size).toList = a0.toList then (some true) else (louverref15_begins.l1 k3 a0 t167 x4_2 x5_2 y168 (y168.length : Int) (wrap64 (x89_3 + 1)))) else (none)) else (none))) else (louverref15_begins.l1 k3 a0 t167 x4_2 x5_2 y168 (y168.length : Int) (wrap64 (x89_3 + 1)))) = some r := H
                                  have A36 := Aside0.mk A360
                                  clear A360
                                  by_cases c37 : (t172.size : Int) = t167
                                  · rw [if_pos c37] at H
                                    have c37b0 : ((t172.size : Int) == t167) = true := beq_iff_eq.mpr c37
                                    have c37b1 : ((t172.size : Int) != t167) = false := bne_eq_false_iff_eq.mpr c37
                                    clear c37
                                    replace H := Option.bind_eq_some_iff.mp H
                                    obtain ⟨t173, A380, H⟩ := H
                                    replace H : (if 0 ≤ (a0.size : Int) then (if (a0.size : Int) ≤ (t173.size : Int) then (if (t173.extract 0 a0.size).toList = a0.toList then (some true) else (louverref15_begins.l1 k3 a0 t167 x4_2 x5_2 y168 (y168.length : Int) (wrap64 (x89_3 + 1)))) else (none)) else (none)) = some r := H
                                    have A38 := Aside0.mk A380
                                    clear A380
                                    (try (have E_ := Option.some.inj (A38.out.symm.trans A36.out); subst E_))
                                    by_cases c39 : 0 ≤ (a0.size : Int)
                                    · rw [if_pos c39] at H
                                      have c39b0 := eq_true c39
                                      have c39b1 : decide (0 ≤ (a0.size : Int)) = true := decide_eq_true c39
                                      clear c39
                                      by_cases c40 : (a0.size : Int) ≤ (t173.size : Int)
                                      · rw [if_pos c40] at H
                                        have c40b0 := eq_true c40
                                        have c40b1 : decide ((a0.size : Int) ≤ (t173.size : Int)) = true := decide_eq_true c40
                                        clear c40
                                        by_cases c41 : (t173.extract 0 a0.size).toList = a0.toList
                                        · rw [if_pos c41] at H
                                          have c41b0 : ((t173.extract 0 a0.size).toList == a0.toList) = true := beq_iff_eq.mpr c41
                                          have c41b1 : ((t173.extract 0 a0.size).toList != a0.toList) = false := bne_eq_false_iff_eq.mpr c41
                                          clear c41
                                          obtain rfl := Option.some.inj H
                                          have p171 : 0 ≤ (x89_3 : Int) := of_decide_eq_true (by first | (with_reducible assumption) | assumption)
                                          have q171 : x89_3 < (y168.length : Int) := of_decide_eq_true (by first | (with_reducible assumption) | assumption)
                                          obtain ⟨ad171, e171, hx171_0⟩ := Kd.at_int (Kd.R_reads' HO_87.out).2.2 x89_3 p171 q171
                                          cases e171
                                          replace p171 := eq_true p171
                                          replace q171 := eq_true q171
                                          go_wp2_with (first | (go_at_call 38; (with_reducible refine (louverref15_write.calls (rd y168 x89_3) t172 _ A36.out).mono ?_); rintro e w42 ⟨rfl, hb⟩; have n0_ := Aside0.mk (Kd.R_below (by (with_reducible repeat (first | apply Kd.R_alloc | apply Kd.R_drewN | apply Kd.R_drew)); exact HO_87.out) hb); have n1_ := Aside0.mk (below_step (by repeat (first | (with_reducible first | exact HB.out | apply below_alloc | apply pw_below_drewN | apply below_drew1) | exact HB.out)) hb); clear HO_87; clear HB; have HO_87 := n0_; have HB := n1_; clear n0_ n1_; (try clear hb); (try clear hb2); (try clear hk); (try clear hi)) | (go_at_call 38; (with_reducible refine (louverref15_write.calls (rd y168 x89_3) t173 _ A38.out).mono ?_); rintro e w43 ⟨rfl, hb⟩; have n0_ := Aside0.mk (Kd.R_below (by (with_reducible repeat (first | apply Kd.R_alloc | apply Kd.R_drewN | apply Kd.R_drew)); exact HO_87.out) hb); have n1_ := Aside0.mk (below_step (by repeat (first | (with_reducible first | exact HB.out | apply below_alloc | apply pw_below_drewN | apply below_drew1) | exact HB.out)) hb); clear HO_87; clear HB; have HO_87 := n0_; have HB := n1_; clear n0_ n1_; (try clear hb); (try clear hb2); (try clear hk); (try clear hi)))
                                          go_ret
                                          exact ⟨by first | rfl | (simp [errW_none, errW_some] <;> rfl) | (simp only [← hji20, ← hji21, ← hji22, ← hji23, ← hji24, ← hji25]; first | rfl | (simp [errW_none, errW_some] <;> rfl)) | (simp [*, errW_none, errW_some] <;> rfl), by repeat (first | (with_reducible first | exact HB.out | apply below_alloc | apply pw_below_drewN | apply below_drew1) | exact HB.out)⟩
                                        · rw [if_neg c41] at H
                                          have c41b0 : ((t173.extract 0 a0.size).toList == a0.toList) = false := beq_eq_false_iff_ne.mpr c41
                                          have c41b1 : ((t173.extract 0 a0.size).toList != a0.toList) = true := bne_iff_ne.mpr c41
                                          have H' := Aside0.mk H
                                          clear H
                                          have p171 : 0 ≤ (x89_3 : Int) := of_decide_eq_true (by first | (with_reducible assumption) | assumption)
                                          have q171 : x89_3 < (y168.length : Int) := of_decide_eq_true (by first | (with_reducible assumption) | assumption)
                                          obtain ⟨ad171, e171, hx171_0⟩ := Kd.at_int (Kd.R_reads' HO_87.out).2.2 x89_3 p171 q171
                                          cases e171
                                          replace p171 := eq_true p171
                                          replace q171 := eq_true q171
                                          go_wp2_with (first | (go_at_call 38; (with_reducible refine (louverref15_write.calls (rd y168 x89_3) t172 _ A36.out).mono ?_); rintro e w44 ⟨rfl, hb⟩; have n0_ := Aside0.mk (Kd.R_below (by (with_reducible repeat (first | apply Kd.R_alloc | apply Kd.R_drewN | apply Kd.R_drew)); exact HO_87.out) hb); have n1_ := Aside0.mk (below_step (by repeat (first | (with_reducible first | exact HB.out | apply below_alloc | apply pw_below_drewN | apply below_drew1) | exact HB.out)) hb); clear HO_87; clear HB; have HO_87 := n0_; have HB := n1_; clear n0_ n1_; (try clear hb); (try clear hb2); (try clear hk); (try clear hi)) | (go_at_call 38; (with_reducible refine (louverref15_write.calls (rd y168 x89_3) t173 _ A38.out).mono ?_); rintro e w45 ⟨rfl, hb⟩; have n0_ := Aside0.mk (Kd.R_below (by (with_reducible repeat (first | apply Kd.R_alloc | apply Kd.R_drewN | apply Kd.R_drew)); exact HO_87.out) hb); have n1_ := Aside0.mk (below_step (by repeat (first | (with_reducible first | exact HB.out | apply below_alloc | apply pw_below_drewN | apply below_drew1) | exact HB.out)) hb); clear HO_87; clear HB; have HO_87 := n0_; have HB := n1_; clear n0_ n1_; (try clear hb); (try clear hb2); (try clear hk); (try clear hi)))
                                          go_roundg k3
                                          case measure => have := HJ6.out; have := HK2.out; have := HK3.out; omega
                                          case rel => exact ⟨(wrap64 (x89_3 + 1)), (by first | rfl | (simp; done) | (simp [*]; done)), H', ⟨by have := HJ6.out; have := HK2.out; have := HK3.out; omega⟩, ⟨by (with_reducible repeat (first | apply Kd.R_alloc | apply Kd.R_drewN | apply Kd.R_drew)); exact HO_87.out⟩, ⟨by repeat (first | (with_reducible first | exact HB.out | apply below_alloc | apply pw_below_drewN | apply below_drew1) | exact HB.out)⟩⟩
                                      · rw [if_neg c40] at H
                                        exact absurd H (by simp)
                                    · rw [if_neg c39] at H
                                      exact absurd H (by simp)
                                  · rw [if_neg c37] at H
                                    have c37b0 : ((t172.size : Int) == t167) = false := beq_eq_false_iff_ne.mpr c37
                                    have c37b1 : ((t172.size : Int) != t167) = true := bne_iff_ne.mpr c37
                                    have H' := Aside0.mk H
                                    clear H
                                    have p171 : 0 ≤ (x89_3 : Int) := of_decide_eq_true (by first | (with_reducible assumption) | assumption)
                                    have q171 : x89_3 < (y168.length : Int) := of_decide_eq_true (by first | (with_reducible assumption) | assumption)
                                    obtain ⟨ad171, e171, hx171_0⟩ := Kd.at_int (Kd.R_reads' HO_87.out).2.2 x89_3 p171 q171
                                    cases e171
                                    replace p171 := eq_true p171
                                    replace q171 := eq_true q171
                                    go_wp2_with (first | (go_at_call 38; (with_reducible refine (louverref15_write.calls (rd y168 x89_3) t172 _ A36.out).mono ?_); rintro e w46 ⟨rfl, hb⟩; have n0_ := Aside0.mk (Kd.R_below (by (with_reducible repeat (first | apply Kd.R_alloc | apply Kd.R_drewN | apply Kd.R_drew)); exact HO_87.out) hb); have n1_ := Aside0.mk (below_step (by repeat (first | (with_reducible first | exact HB.out | apply below_alloc | apply pw_below_drewN | apply below_drew1) | exact HB.out)) hb); clear HO_87; clear HB; have HO_87 := n0_; have HB := n1_; clear n0_ n1_; (try clear hb); (try clear hb2); (try clear hk); (try clear hi)))
                                    go_roundg k3
                                    case measure => have := HJ6.out; have := HK2.out; have := HK3.out; omega
                                    case rel => exact ⟨(wrap64 (x89_3 + 1)), (by first | rfl | (simp; done) | (simp [*]; done)), H', ⟨by have := HJ6.out; have := HK2.out; have := HK3.out; omega⟩, ⟨by (with_reducible repeat (first | apply Kd.R_alloc | apply Kd.R_drewN | apply Kd.R_drew)); exact HO_87.out⟩, ⟨by repeat (first | (with_reducible first | exact HB.out | apply below_alloc | apply pw_below_drewN | apply below_drew1) | exact HB.out)⟩⟩
                                · rw [if_neg c35] at H
                                  have c35b0 : decide ((rd y168 x89_3) < 55296) = false := decide_eq_false c35
                                  clear c35
                                  by_cases c47 : (rd y168 x89_3) > 57343
                                  · rw [if_pos c47] at H
                                    have c47b0 : decide (57343 < (rd y168 x89_3)) = true := decide_eq_true c47
                                    clear c47
                                    replace H := Option.bind_eq_some_iff.mp H
                                    obtain ⟨t174, A480, H⟩ := H
                                    replace H : (if (t174.size : Int) = t167 then ((louverref15_write.f (rd y168 x89_3)).bind fun t175 => (if 0 ≤ (a0.size : Int) then (if (a0.size : Int) ≤ (t175.size : Int) then (if (t175.extract 0 a0.size).toList = a0.toList then (some true) else (louverref15_begins.l1 k3 a0 t167 x4_2 x5_2 y168 (y168.length : Int) (wrap64 (x89_3 + 1)))) else (none)) else (none))) else (louverref15_begins.l1 k3 a0 t167 x4_2 x5_2 y168 (y168.length : Int) (wrap64 (x89_3 + 1)))) = some r := H
                                    have A48 := Aside0.mk A480
                                    clear A480
                                    by_cases c49 : (t174.size : Int) = t167
                                    · rw [if_pos c49] at H
                                      have c49b0 : ((t174.size : Int) == t167) = true := beq_iff_eq.mpr c49
                                      have c49b1 : ((t174.size : Int) != t167) = false := bne_eq_false_iff_eq.mpr c49
                                      clear c49
                                      replace H := Option.bind_eq_some_iff.mp H
                                      obtain ⟨t175, A500, H⟩ := H
                                      replace H : (if 0 ≤ (a0.size : Int) then (if (a0.size : Int) ≤ (t175.size : Int) then (if (t175.extract 0 a0.size).toList = a0.toList then (some true) else (louverref15_begins.l1 k3 a0 t167 x4_2 x5_2 y168 (y168.length : Int) (wrap64 (x89_3 + 1)))) else (none)) else (none)) = some r := H
                                      have A50 := Aside0.mk A500
                                      clear A500
                                      (try (have E_ := Option.some.inj (A50.out.symm.trans A48.out); subst E_))
                                      by_cases c51 : 0 ≤ (a0.size : Int)
                                      · rw [if_pos c51] at H
                                        have c51b0 := eq_true c51
                                        have c51b1 : decide (0 ≤ (a0.size : Int)) = true := decide_eq_true c51
                                        clear c51
                                        by_cases c52 : (a0.size : Int) ≤ (t175.size : Int)
                                        · rw [if_pos c52] at H
                                          have c52b0 := eq_true c52
                                          have c52b1 : decide ((a0.size : Int) ≤ (t175.size : Int)) = true := decide_eq_true c52
                                          clear c52
                                          by_cases c53 : (t175.extract 0 a0.size).toList = a0.toList
                                          · rw [if_pos c53] at H
                                            have c53b0 : ((t175.extract 0 a0.size).toList == a0.toList) = true := beq_iff_eq.mpr c53
                                            have c53b1 : ((t175.extract 0 a0.size).toList != a0.toList) = false := bne_eq_false_iff_eq.mpr c53
                                            clear c53
                                            obtain rfl := Option.some.inj H
                                            have p171 : 0 ≤ (x89_3 : Int) := of_decide_eq_true (by first | (with_reducible assumption) | assumption)
                                            have q171 : x89_3 < (y168.length : Int) := of_decide_eq_true (by first | (with_reducible assumption) | assumption)
                                            obtain ⟨ad171, e171, hx171_0⟩ := Kd.at_int (Kd.R_reads' HO_87.out).2.2 x89_3 p171 q171
                                            cases e171
                                            replace p171 := eq_true p171
                                            replace q171 := eq_true q171
                                            go_wp2_with (first | (go_at_call 38; (with_reducible refine (louverref15_write.calls (rd y168 x89_3) t174 _ A48.out).mono ?_); rintro e w54 ⟨rfl, hb⟩; have n0_ := Aside0.mk (Kd.R_below (by (with_reducible repeat (first | apply Kd.R_alloc | apply Kd.R_drewN | apply Kd.R_drew)); exact HO_87.out) hb); have n1_ := Aside0.mk (below_step (by repeat (first | (with_reducible first | exact HB.out | apply below_alloc | apply pw_below_drewN | apply below_drew1) | exact HB.out)) hb); clear HO_87; clear HB; have HO_87 := n0_; have HB := n1_; clear n0_ n1_; (try clear hb); (try clear hb2); (try clear hk); (try clear hi)) | (go_at_call 38; (with_reducible refine (louverref15_write.calls (rd y168 x89_3) t175 _ A50.out).mono ?_); rintro e w55 ⟨rfl, hb⟩; have n0_ := Aside0.mk (Kd.R_below (by (with_reducible repeat (first | apply Kd.R_alloc | apply Kd.R_drewN | apply Kd.R_drew)); exact HO_87.out) hb); have n1_ := Aside0.mk (below_step (by repeat (first | (with_reducible first | exact HB.out | apply below_alloc | apply pw_below_drewN | apply below_drew1) | exact HB.out)) hb); clear HO_87; clear HB; have HO_87 := n0_; have HB := n1_; clear n0_ n1_; (try clear hb); (try clear hb2); (try clear hk); (try clear hi)))
                                            go_ret
                                            exact ⟨by first | rfl | (simp [errW_none, errW_some] <;> rfl) | (simp only [← hji20, ← hji21, ← hji22, ← hji23, ← hji24, ← hji25]; first | rfl | (simp [errW_none, errW_some] <;> rfl)) | (simp [*, errW_none, errW_some] <;> rfl), by repeat (first | (with_reducible first | exact HB.out | apply below_alloc | apply pw_below_drewN | apply below_drew1) | exact HB.out)⟩
                                          · rw [if_neg c53] at H
                                            have c53b0 : ((t175.extract 0 a0.size).toList == a0.toList) = false := beq_eq_false_iff_ne.mpr c53
                                            have c53b1 : ((t175.extract 0 a0.size).toList != a0.toList) = true := bne_iff_ne.mpr c53
                                            have H' := Aside0.mk H
                                            clear H
                                            have p171 : 0 ≤ (x89_3 : Int) := of_decide_eq_true (by first | (with_reducible assumption) | assumption)
                                            have q171 : x89_3 < (y168.length : Int) := of_decide_eq_true (by first | (with_reducible assumption) | assumption)
                                            obtain ⟨ad171, e171, hx171_0⟩ := Kd.at_int (Kd.R_reads' HO_87.out).2.2 x89_3 p171 q171
                                            cases e171
                                            replace p171 := eq_true p171
                                            replace q171 := eq_true q171
                                            go_wp2_with (first | (go_at_call 38; (with_reducible refine (louverref15_write.calls (rd y168 x89_3) t174 _ A48.out).mono ?_); rintro e w56 ⟨rfl, hb⟩; have n0_ := Aside0.mk (Kd.R_below (by (with_reducible repeat (first | apply Kd.R_alloc | apply Kd.R_drewN | apply Kd.R_drew)); exact HO_87.out) hb); have n1_ := Aside0.mk (below_step (by repeat (first | (with_reducible first | exact HB.out | apply below_alloc | apply pw_below_drewN | apply below_drew1) | exact HB.out)) hb); clear HO_87; clear HB; have HO_87 := n0_; have HB := n1_; clear n0_ n1_; (try clear hb); (try clear hb2); (try clear hk); (try clear hi)) | (go_at_call 38; (with_reducible refine (louverref15_write.calls (rd y168 x89_3) t175 _ A50.out).mono ?_); rintro e w57 ⟨rfl, hb⟩; have n0_ := Aside0.mk (Kd.R_below (by (with_reducible repeat (first | apply Kd.R_alloc | apply Kd.R_drewN | apply Kd.R_drew)); exact HO_87.out) hb); have n1_ := Aside0.mk (below_step (by repeat (first | (with_reducible first | exact HB.out | apply below_alloc | apply pw_below_drewN | apply below_drew1) | exact HB.out)) hb); clear HO_87; clear HB; have HO_87 := n0_; have HB := n1_; clear n0_ n1_; (try clear hb); (try clear hb2); (try clear hk); (try clear hi)))
                                            go_roundg k3
                                            case measure => have := HJ6.out; have := HK2.out; have := HK3.out; omega
                                            case rel => exact ⟨(wrap64 (x89_3 + 1)), (by first | rfl | (simp; done) | (simp [*]; done)), H', ⟨by have := HJ6.out; have := HK2.out; have := HK3.out; omega⟩, ⟨by (with_reducible repeat (first | apply Kd.R_alloc | apply Kd.R_drewN | apply Kd.R_drew)); exact HO_87.out⟩, ⟨by repeat (first | (with_reducible first | exact HB.out | apply below_alloc | apply pw_below_drewN | apply below_drew1) | exact HB.out)⟩⟩
                                        · rw [if_neg c52] at H
                                          exact absurd H (by simp)
                                      · rw [if_neg c51] at H
                                        exact absurd H (by simp)
                                    · rw [if_neg c49] at H
                                      have c49b0 : ((t174.size : Int) == t167) = false := beq_eq_false_iff_ne.mpr c49
                                      have c49b1 : ((t174.size : Int) != t167) = true := bne_iff_ne.mpr c49
                                      have H' := Aside0.mk H
                                      clear H
                                      have p171 : 0 ≤ (x89_3 : Int) := of_decide_eq_true (by first | (with_reducible assumption) | assumption)
                                      have q171 : x89_3 < (y168.length : Int) := of_decide_eq_true (by first | (with_reducible assumption) | assumption)
                                      obtain ⟨ad171, e171, hx171_0⟩ := Kd.at_int (Kd.R_reads' HO_87.out).2.2 x89_3 p171 q171
                                      cases e171
                                      replace p171 := eq_true p171
                                      replace q171 := eq_true q171
                                      go_wp2_with (first | (go_at_call 38; (with_reducible refine (louverref15_write.calls (rd y168 x89_3) t174 _ A48.out).mono ?_); rintro e w58 ⟨rfl, hb⟩; have n0_ := Aside0.mk (Kd.R_below (by (with_reducible repeat (first | apply Kd.R_alloc | apply Kd.R_drewN | apply Kd.R_drew)); exact HO_87.out) hb); have n1_ := Aside0.mk (below_step (by repeat (first | (with_reducible first | exact HB.out | apply below_alloc | apply pw_below_drewN | apply below_drew1) | exact HB.out)) hb); clear HO_87; clear HB; have HO_87 := n0_; have HB := n1_; clear n0_ n1_; (try clear hb); (try clear hb2); (try clear hk); (try clear hi)))
                                      go_roundg k3
                                      case measure => have := HJ6.out; have := HK2.out; have := HK3.out; omega
                                      case rel => exact ⟨(wrap64 (x89_3 + 1)), (by first | rfl | (simp; done) | (simp [*]; done)), H', ⟨by have := HJ6.out; have := HK2.out; have := HK3.out; omega⟩, ⟨by (with_reducible repeat (first | apply Kd.R_alloc | apply Kd.R_drewN | apply Kd.R_drew)); exact HO_87.out⟩, ⟨by repeat (first | (with_reducible first | exact HB.out | apply below_alloc | apply pw_below_drewN | apply below_drew1) | exact HB.out)⟩⟩
                                  · rw [if_neg c47] at H
                                    have c47b0 : decide (57343 < (rd y168 x89_3)) = false := decide_eq_false c47
                                    clear c47
                                    have H' := Aside0.mk H
                                    clear H
                                    have p171 : 0 ≤ (x89_3 : Int) := of_decide_eq_true (by first | (with_reducible assumption) | assumption)
                                    have q171 : x89_3 < (y168.length : Int) := of_decide_eq_true (by first | (with_reducible assumption) | assumption)
                                    obtain ⟨ad171, e171, hx171_0⟩ := Kd.at_int (Kd.R_reads' HO_87.out).2.2 x89_3 p171 q171
                                    cases e171
                                    replace p171 := eq_true p171
                                    replace q171 := eq_true q171
                                    go_wp2
                                    go_roundg k3
                                    case measure => have := HJ6.out; have := HK2.out; have := HK3.out; omega
                                    case rel => exact ⟨(wrap64 (x89_3 + 1)), (by first | rfl | (simp; done) | (simp [*]; done)), H', ⟨by have := HJ6.out; have := HK2.out; have := HK3.out; omega⟩, ⟨by (with_reducible repeat (first | apply Kd.R_alloc | apply Kd.R_drewN | apply Kd.R_drew)); exact HO_87.out⟩, ⟨by repeat (first | (with_reducible first | exact HB.out | apply below_alloc | apply pw_below_drewN | apply below_drew1) | exact HB.out)⟩⟩
                              · rw [if_neg c34] at H
                                have c34b0 : decide ((rd y168 x89_3) < 1114112) = false := decide_eq_false c34
                                clear c34
                                have H' := Aside0.mk H
                                clear H
                                have p171 : 0 ≤ (x89_3 : Int) := of_decide_eq_true (by first | (with_reducible assumption) | assumption)
                                have q171 : x89_3 < (y168.length : Int) := of_decide_eq_true (by first | (with_reducible assumption) | assumption)
                                obtain ⟨ad171, e171, hx171_0⟩ := Kd.at_int (Kd.R_reads' HO_87.out).2.2 x89_3 p171 q171
                                cases e171
                                replace p171 := eq_true p171
                                replace q171 := eq_true q171
                                go_wp2
                                go_roundg k3
                                case measure => have := HJ6.out; have := HK2.out; have := HK3.out; omega
                                case rel => exact ⟨(wrap64 (x89_3 + 1)), (by first | rfl | (simp; done) | (simp [*]; done)), H', ⟨by have := HJ6.out; have := HK2.out; have := HK3.out; omega⟩, ⟨by (with_reducible repeat (first | apply Kd.R_alloc | apply Kd.R_drewN | apply Kd.R_drew)); exact HO_87.out⟩, ⟨by repeat (first | (with_reducible first | exact HB.out | apply below_alloc | apply pw_below_drewN | apply below_drew1) | exact HB.out)⟩⟩
                            · rw [if_neg c33] at H
                              have c33b0 : decide ((rd y168 x89_3) ≤ x5_2) = false := decide_eq_false c33
                              clear c33
                              have H' := Aside0.mk H
                              clear H
                              have p171 : 0 ≤ (x89_3 : Int) := of_decide_eq_true (by first | (with_reducible assumption) | assumption)
                              have q171 : x89_3 < (y168.length : Int) := of_decide_eq_true (by first | (with_reducible assumption) | assumption)
                              obtain ⟨ad171, e171, hx171_0⟩ := Kd.at_int (Kd.R_reads' HO_87.out).2.2 x89_3 p171 q171
                              cases e171
                              replace p171 := eq_true p171
                              replace q171 := eq_true q171
                              go_wp2
                              go_roundg k3
                              case measure => have := HJ6.out; have := HK2.out; have := HK3.out; omega
                              case rel => exact ⟨(wrap64 (x89_3 + 1)), (by first | rfl | (simp; done) | (simp [*]; done)), H', ⟨by have := HJ6.out; have := HK2.out; have := HK3.out; omega⟩, ⟨by (with_reducible repeat (first | apply Kd.R_alloc | apply Kd.R_drewN | apply Kd.R_drew)); exact HO_87.out⟩, ⟨by repeat (first | (with_reducible first | exact HB.out | apply below_alloc | apply pw_below_drewN | apply below_drew1) | exact HB.out)⟩⟩
                          · rw [if_neg c32] at H
                            have c32b0 : decide (x4_2 ≤ (rd y168 x89_3)) = false := decide_eq_false c32
                            clear c32
                            have H' := Aside0.mk H
                            clear H
                            have p171 : 0 ≤ (x89_3 : Int) := of_decide_eq_true (by first | (with_reducible assumption) | assumption)
                            have q171 : x89_3 < (y168.length : Int) := of_decide_eq_true (by first | (with_reducible assumption) | assumption)
                            obtain ⟨ad171, e171, hx171_0⟩ := Kd.at_int (Kd.R_reads' HO_87.out).2.2 x89_3 p171 q171
                            cases e171
                            replace p171 := eq_true p171
                            replace q171 := eq_true q171
                            go_wp2
                            go_roundg k3
                            case measure => have := HJ6.out; have := HK2.out; have := HK3.out; omega
                            case rel => exact ⟨(wrap64 (x89_3 + 1)), (by first | rfl | (simp; done) | (simp [*]; done)), H', ⟨by have := HJ6.out; have := HK2.out; have := HK3.out; omega⟩, ⟨by (with_reducible repeat (first | apply Kd.R_alloc | apply Kd.R_drewN | apply Kd.R_drew)); exact HO_87.out⟩, ⟨by repeat (first | (with_reducible first | exact HB.out | apply below_alloc | apply pw_below_drewN | apply below_drew1) | exact HB.out)⟩⟩
                        · rw [if_neg c31] at H
                          exact absurd H (by simp)
                      · rw [if_neg c30] at H
                        exact absurd H (by simp)
                    · rw [if_neg c29] at H
                      have c29b0 : decide (x89_3 < (y168.length : Int)) = false := decide_eq_false c29
                      clear c29
                      obtain rfl := Option.some.inj H
                      go_wp2
                      go_ret
                      exact ⟨by first | rfl | (simp [errW_none, errW_some] <;> rfl) | (simp only [← hji20, ← hji21, ← hji22, ← hji23, ← hji24, ← hji25]; first | rfl | (simp [errW_none, errW_some] <;> rfl)) | (simp [*, errW_none, errW_some] <;> rfl), by repeat (first | (with_reducible first | exact HB.out | apply below_alloc | apply pw_below_drewN | apply below_drew1) | exact HB.out)⟩
  · rw [if_neg c2] at H
    exact absurd H (by simp)

end Go.Proofs.YtbjjobifpmjhhaaDoor.PAll

-- Written by a program of this session (wip/patchprint.py, wip/myprint.sh tell how).
namespace Go.Proofs.YtbjjobifpmjhhaaDoor.PAll
open Go.RowKit Go.Proofs.YtbjjobifpmjhhaaDoorW.PrintWords Go.Proofs.YtbjjobifpmjhhaaDoorW.PrintLast Go.Proofs.YtbjjobifpmjhhaaDoorW.PrintMore
attribute [local go_sem] max2_int min2_int max_two min_two max_three min_three max_four min_four   -- for this text's walks alone
set_option linter.unusedVariables false
set_option linter.unusedSimpArgs false

mutual
def louverref15_Good.l0 : Nat → ByteArray → Int → Option (Int × Bool)
  | 0, _, _ => none
  | k + 1, x0, x4 => if x4 < (x0.size : Int) then (louverref15_Good.l1 k x0 x4 1) else (some ((x0.size : Int), true))
def louverref15_Good.l1 : Nat → ByteArray → Int → Int → Option (Int × Bool)
  | 0, _, _, _ => none
  | k + 1, x0, x4, x5 => if 0 ≤ x4 then (if x4 ≤ (wrap64 (x4 + x5)) then (if (wrap64 (x4 + x5)) ≤ (x0.size : Int) then ((louverref15_begins.f k (x0.extract (x4 : Int).toNat ((wrap64 (x4 + x5)) : Int).toNat)).bind fun t176 => (if t176 = true then (if x4 < (x0.size : Int) then ((louverref15_size.f k (bt x0 x4)).bind fun t177 => (if x5 = t177 then (louverref15_Good.l0 k x0 (wrap64 (x4 + x5))) else (if (wrap64 (x4 + x5)) = (x0.size : Int) then (some ((x0.size : Int), false)) else (louverref15_Good.l1 k x0 x4 (wrap64 (x5 + 1)))))) else (none)) else (some (wrap64 ((wrap64 (x4 + x5)) - 1), false)))) else (none)) else (none)) else (none)
end
def louverref15_Good.f (k : Nat) (a0 : ByteArray) : Option (Int × Bool) := louverref15_Good.l0 k a0 0
set_option maxRecDepth 100000 in
theorem louverref15_Good.mono_l : ∀ k, (∀ y0 y1, LeO (louverref15_Good.l0 k y0 y1) (louverref15_Good.l0 (k + 1) y0 y1)) ∧ (∀ y0 y1 y2, LeO (louverref15_Good.l1 k y0 y1 y2) (louverref15_Good.l1 (k + 1) y0 y1 y2))
  | 0 => ⟨fun _ _ r h => by (unfold louverref15_Good.l0 at h; cases h), fun _ _ _ r h => by (unfold louverref15_Good.l1 at h; cases h)⟩
  | k + 1 => by
    obtain ⟨ih0, ih1⟩ := louverref15_Good.mono_l k
    refine ⟨?_, ?_⟩
    · intro y0 y1
      unfold louverref15_Good.l0
      repeat' first
      | (with_reducible exact ih0 _ _)
      | (with_reducible exact ih1 _ _ _)
      | (with_reducible exact louverref15_begins.mono _ _)
      | (with_reducible exact louverref15_size.mono _ _)
      | (with_reducible exact LeO.refl _)
      | (with_reducible exact LeO.none _)
      | (with_reducible refine LeO.ite ?_ ?_)
      | (with_reducible refine LeO.bind ?_ (fun _ => ?_))
      | exact ih0 _ _
      | exact ih1 _ _ _
      | exact louverref15_begins.mono _ _
      | exact louverref15_size.mono _ _
      | exact LeO.none _
      | refine LeO.ite ?_ ?_
      | refine LeO.bind ?_ (fun _ => ?_)
    · intro y0 y1 y2
      unfold louverref15_Good.l1
      repeat' first
      | (with_reducible exact ih0 _ _)
      | (with_reducible exact ih1 _ _ _)
      | (with_reducible exact louverref15_begins.mono _ _)
      | (with_reducible exact louverref15_size.mono _ _)
      | (with_reducible exact LeO.refl _)
      | (with_reducible exact LeO.none _)
      | (with_reducible refine LeO.ite ?_ ?_)
      | (with_reducible refine LeO.bind ?_ (fun _ => ?_))
      | exact ih0 _ _
      | exact ih1 _ _ _
      | exact louverref15_begins.mono _ _
      | exact louverref15_size.mono _ _
      | exact LeO.none _
      | refine LeO.ite ?_ ?_
      | refine LeO.bind ?_ (fun _ => ?_)
set_option maxRecDepth 100000 in
theorem louverref15_Good.mono : ∀ a0 k, LeO (louverref15_Good.f k a0) (louverref15_Good.f (k + 1) a0) := by
  intro a0 k
  obtain ⟨ih0, ih1⟩ := louverref15_Good.mono_l k
  unfold louverref15_Good.f
  repeat' first
      | (with_reducible exact ih0 _ _)
      | (with_reducible exact ih1 _ _ _)
      | (with_reducible exact louverref15_begins.mono _ _)
      | (with_reducible exact louverref15_size.mono _ _)
      | (with_reducible exact LeO.refl _)
      | (with_reducible exact LeO.none _)
      | (with_reducible refine LeO.ite ?_ ?_)
      | (with_reducible refine LeO.bind ?_ (fun _ => ?_))
      | exact ih0 _ _
      | exact ih1 _ _ _
      | exact louverref15_begins.mono _ _
      | exact louverref15_size.mono _ _
      | exact LeO.none _
      | refine LeO.ite ?_ ?_
      | refine LeO.bind ?_ (fun _ => ?_)
set_option maxHeartbeats 8000000 in
set_option maxRecDepth 100000 in
theorem louverref15_Good.calls (k : Nat) (a0 : ByteArray) (r1 : Int) (r2 : Bool) (w : World) (h : louverref15_Good.f k a0 = some (r1, r2)) :
    Calls Tryd.prog 22 #[.string a0] w fun e w' => e = .returned (.tuple #[.int .i64 r1, .bool r2]) ∧ Below w.heap.size w w' := by
  have hf66_1 := field66_1
  have HB := Aside0.mk (Below.refl w.heap.size w)
  have H : (louverref15_Good.l0 k a0 0) = some (r1, r2) := h
  clear h
  have H' := Aside0.mk H
  clear H
  go_enter Tryd.func22, Tryd.ntmps22
  go_wp2
  go_loopg [4] k (fun kq v4 w' => ∃ (x4_1 : Int), v4 = .int .i64 x4_1 ∧ Aside0 (louverref15_Good.l0 kq a0 x4_1 = some (r1, r2)) ∧ Aside0 (kq ≤ k) ∧ Aside0 (Below w.heap.size w w'))
  case atStart => exact ⟨(0), (by first | rfl | (simp; done) | (simp [*]; done)), H', ⟨Nat.le_refl _⟩, ⟨by repeat (first | (with_reducible first | exact HB.out | apply below_alloc | apply pw_below_drewN | apply below_drew1) | exact HB.out)⟩⟩
  case round =>
    clear H'
    obtain ⟨x4_1, rfl, HA, HK1, HB⟩ := hrel
    cases gk with
    | zero => exact absurd HA.out (by simp [louverref15_Good.l0])
    | succ k1 =>
      have H := HA.out
      clear HA
      simp only [louverref15_Good.l0] at H
      by_cases c2 : x4_1 < (a0.size : Int)
      · rw [if_pos c2] at H
        have c2b0 : decide (x4_1 < (a0.size : Int)) = true := decide_eq_true c2
        clear c2
        have H' := Aside0.mk H
        clear H
        go_wp2
        go_loopg [5] k1 (fun kq v5 w' => ∃ (x5_2 : Int), v5 = .int .i64 x5_2 ∧ Aside0 (louverref15_Good.l1 kq a0 x4_1 x5_2 = some (r1, r2)) ∧ Aside0 (kq ≤ k1) ∧ Aside0 (Below w.heap.size w w'))
        case atStart => exact ⟨(1), (by first | rfl | (simp; done) | (simp [*]; done)), H', ⟨Nat.le_refl _⟩, ⟨by repeat (first | (with_reducible first | exact HB.out | apply below_alloc | apply pw_below_drewN | apply below_drew1) | exact HB.out)⟩⟩
        case round =>
          clear H'
          try clear c2
          try clear c2b0
          try clear p2
          obtain ⟨x5_2, rfl, HA, HK2, HB⟩ := hrel
          cases gk with
          | zero => exact absurd HA.out (by simp [louverref15_Good.l1])
          | succ k2 =>
            have H := HA.out
            clear HA
            simp only [louverref15_Good.l1] at H
            by_cases c3 : 0 ≤ x4_1
            · rw [if_pos c3] at H
              have c3b0 := eq_true c3
              have c3b1 : decide (0 ≤ x4_1) = true := decide_eq_true c3
              clear c3
              by_cases c4 : x4_1 ≤ (wrap64 (x4_1 + x5_2))
              · rw [if_pos c4] at H
                have c4b0 := eq_true c4
                have c4b1 : decide (x4_1 ≤ (wrap64 (x4_1 + x5_2))) = true := decide_eq_true c4
                by_cases c5 : (wrap64 (x4_1 + x5_2)) ≤ (a0.size : Int)
                · rw [if_pos c5] at H
                  have c5b0 := eq_true c5
                  have c5b1 : decide ((wrap64 (x4_1 + x5_2)) ≤ (a0.size : Int)) = true := decide_eq_true c5
                  replace H := Option.bind_eq_some_iff.mp H
                  obtain ⟨t176, A60, H⟩ := H
                  replace H : (if t176 = true then (if x4_1 < (a0.size : Int) then ((louverref15_size.f k2 (bt a0 x4_1)).bind fun t177 => (if x5_2 = t177 then (louverref15_Good.l0 k2 a0 (wrap64 (x4_1 + x5_2))) else (if (wrap64 (x4_1 + x5_2)) = (a0.size : Int) then (some ((a0.size : Int), false)) else (louverref15_Good.l1 k2 a0 x4_1 (wrap64 (x5_2 + 1)))))) else (none)) else (some (wrap64 ((wrap64 (x4_1 + x5_2)) - 1), false))) = some (r1, r2) := H
                  have A6 := Aside0.mk A60
                  clear A60
                  by_cases c7 : t176 = true
                  · subst c7
                    have H1 : (if x4_1 < (a0.size : Int) then ((louverref15_size.f k2 (bt a0 x4_1)).bind fun t177 => (if x5_2 = t177 then (louverref15_Good.l0 k2 a0 (wrap64 (x4_1 + x5_2))) else (if (wrap64 (x4_1 + x5_2)) = (a0.size : Int) then (some ((a0.size : Int), false)) else (louverref15_Good.l1 k2 a0 x4_1 (wrap64 (x5_2 + 1)))))) else (none)) = some (r1, r2) := by rw [if_pos rfl] at H; exact H
                    clear H
                    have H := H1
                    clear H1
                    by_cases c8 : x4_1 < (a0.size : Int)
                    · rw [if_pos c8] at H
                      have c8b0 : decide (x4_1 < (a0.size : Int)) = true := decide_eq_true c8
                      clear c8
                      replace H := Option.bind_eq_some_iff.mp H
                      obtain ⟨t177, A100, H⟩ := H
                      replace H : (if x5_2 = t177 then (louverref15_Good.l0 k2 a0 (wrap64 (x4_1 + x5_2))) else (if (wrap64 (x4_1 + x5_2)) = (a0.size : Int) then (some ((a0.size : Int), false)) else (louverref15_Good.l1 k2 a0 x4_1 (wrap64 (x5_2 + 1))))) = some (r1, r2) := H
                      have A10 := Aside0.mk A100
                      clear A100
                      by_cases c11 : x5_2 = t177
                      · rw [if_pos c11] at H
                        have c11b0 : (x5_2 == t177) = true := beq_iff_eq.mpr c11
                        have c11b1 : (x5_2 != t177) = false := bne_eq_false_iff_eq.mpr c11
                        clear c11
                        have H' := Aside0.mk H
                        clear H
                        go_wp2_with (first | ((with_reducible refine gate_callee (f := 30) rfl ?_); refine goesL_ (some 16) rfl rfl Tryd.func30 (by kernel_rfl) rfl #[.string (a0.extract (x4_1 : Int).toNat ((wrap64 (x4_1 + x5_2)) : Int).toNat)] rfl (by (try simp only [List.map_toArray, List.map_cons, List.map_nil]); first | done | rfl | (simp only [List.length_drop, List.length_take]; rfl)) ?_; (with_reducible refine (louverref15_begins.calls k2 (a0.extract (x4_1 : Int).toNat ((wrap64 (x4_1 + x5_2)) : Int).toNat) true _ A6.out).mono ?_); rintro e w12 ⟨rfl, hb⟩; refine ⟨_, rfl, ?_⟩; have n0_ := Aside0.mk (below_step (by repeat (first | (with_reducible first | exact HB.out | apply below_alloc | apply pw_below_drewN | apply below_drew1) | exact HB.out)) hb); clear HB; have HB := n0_; clear n0_; (try clear hb); (try clear hb2); (try clear hk); (try clear hi); have p9 : 0 ≤ (x4_1 : Int) := of_decide_eq_true (by first | (with_reducible assumption) | assumption); have q9 : x4_1 < (a0.size : Int) := of_decide_eq_true (by first | (with_reducible assumption) | assumption); have hx9 := bt_at a0 x4_1; replace p9 := eq_true p9; replace q9 := eq_true q9) | ((with_reducible refine gate_callee (f := 31) rfl ?_); refine goesL_ (some 26) rfl rfl Tryd.func31 (by kernel_rfl) rfl #[.int .u8 (bt a0 x4_1)] rfl (by (try simp only [List.map_toArray, List.map_cons, List.map_nil]); first | done | rfl | (simp only [List.length_drop, List.length_take]; rfl)) ?_; (with_reducible refine (louverref15_size.calls k2 (bt a0 x4_1) t177 _ A10.out).mono ?_); rintro e w' ⟨rfl, ⟨nd, rfl⟩⟩; refine ⟨_, rfl, ?_⟩))
                        go_roundg k2
                        case measure => have := HK1.out; have := HK2.out; omega
                        case rel => exact ⟨(wrap64 (x4_1 + x5_2)), (by first | rfl | (simp; done) | (simp [*]; done)), H', ⟨by have := HK1.out; have := HK2.out; omega⟩, ⟨by repeat (first | (with_reducible first | exact HB.out | apply below_alloc | apply pw_below_drewN | apply below_drew1) | exact HB.out)⟩⟩
                      · rw [if_neg c11] at H
                        have c11b0 : (x5_2 == t177) = false := beq_eq_false_iff_ne.mpr c11
                        have c11b1 : (x5_2 != t177) = true := bne_iff_ne.mpr c11
                        by_cases c13 : (wrap64 (x4_1 + x5_2)) = (a0.size : Int)
                        · rw [if_pos c13] at H
                          have c13b0 : ((wrap64 (x4_1 + x5_2)) == (a0.size : Int)) = true := beq_iff_eq.mpr c13
                          have c13b1 : ((wrap64 (x4_1 + x5_2)) != (a0.size : Int)) = false := bne_eq_false_iff_eq.mpr c13
                          clear c13
                          simp only [Option.some.injEq, Prod.mk.injEq] at H
                          obtain ⟨rfl, rfl⟩ := H
                          go_wp2_with (first | ((with_reducible refine gate_callee (f := 30) rfl ?_); refine goesL_ (some 16) rfl rfl Tryd.func30 (by kernel_rfl) rfl #[.string (a0.extract (x4_1 : Int).toNat ((wrap64 (x4_1 + x5_2)) : Int).toNat)] rfl (by (try simp only [List.map_toArray, List.map_cons, List.map_nil]); first | done | rfl | (simp only [List.length_drop, List.length_take]; rfl)) ?_; (with_reducible refine (louverref15_begins.calls k2 (a0.extract (x4_1 : Int).toNat ((wrap64 (x4_1 + x5_2)) : Int).toNat) true _ A6.out).mono ?_); rintro e w14 ⟨rfl, hb⟩; refine ⟨_, rfl, ?_⟩; have n0_ := Aside0.mk (below_step (by repeat (first | (with_reducible first | exact HB.out | apply below_alloc | apply pw_below_drewN | apply below_drew1) | exact HB.out)) hb); clear HB; have HB := n0_; clear n0_; (try clear hb); (try clear hb2); (try clear hk); (try clear hi); have p9 : 0 ≤ (x4_1 : Int) := of_decide_eq_true (by first | (with_reducible assumption) | assumption); have q9 : x4_1 < (a0.size : Int) := of_decide_eq_true (by first | (with_reducible assumption) | assumption); have hx9 := bt_at a0 x4_1; replace p9 := eq_true p9; replace q9 := eq_true q9) | ((with_reducible refine gate_callee (f := 31) rfl ?_); refine goesL_ (some 26) rfl rfl Tryd.func31 (by kernel_rfl) rfl #[.int .u8 (bt a0 x4_1)] rfl (by (try simp only [List.map_toArray, List.map_cons, List.map_nil]); first | done | rfl | (simp only [List.length_drop, List.length_take]; rfl)) ?_; (with_reducible refine (louverref15_size.calls k2 (bt a0 x4_1) t177 _ A10.out).mono ?_); rintro e w' ⟨rfl, ⟨nd, rfl⟩⟩; refine ⟨_, rfl, ?_⟩))
                          go_ret2
                          exact ⟨by first | rfl | (simp [errW_none, errW_some] <;> rfl) | (simp [*, errW_none, errW_some] <;> rfl), by repeat (first | (with_reducible first | exact HB.out | apply below_alloc | apply pw_below_drewN | apply below_drew1) | exact HB.out)⟩
                        · rw [if_neg c13] at H
                          have c13b0 : ((wrap64 (x4_1 + x5_2)) == (a0.size : Int)) = false := beq_eq_false_iff_ne.mpr c13
                          have c13b1 : ((wrap64 (x4_1 + x5_2)) != (a0.size : Int)) = true := bne_iff_ne.mpr c13
                          have H' := Aside0.mk H
                          clear H
                          go_wp2_with (first | ((with_reducible refine gate_callee (f := 30) rfl ?_); refine goesL_ (some 16) rfl rfl Tryd.func30 (by kernel_rfl) rfl #[.string (a0.extract (x4_1 : Int).toNat ((wrap64 (x4_1 + x5_2)) : Int).toNat)] rfl (by (try simp only [List.map_toArray, List.map_cons, List.map_nil]); first | done | rfl | (simp only [List.length_drop, List.length_take]; rfl)) ?_; (with_reducible refine (louverref15_begins.calls k2 (a0.extract (x4_1 : Int).toNat ((wrap64 (x4_1 + x5_2)) : Int).toNat) true _ A6.out).mono ?_); rintro e w15 ⟨rfl, hb⟩; refine ⟨_, rfl, ?_⟩; have n0_ := Aside0.mk (below_step (by repeat (first | (with_reducible first | exact HB.out | apply below_alloc | apply pw_below_drewN | apply below_drew1) | exact HB.out)) hb); clear HB; have HB := n0_; clear n0_; (try clear hb); (try clear hb2); (try clear hk); (try clear hi); have p9 : 0 ≤ (x4_1 : Int) := of_decide_eq_true (by first | (with_reducible assumption) | assumption); have q9 : x4_1 < (a0.size : Int) := of_decide_eq_true (by first | (with_reducible assumption) | assumption); have hx9 := bt_at a0 x4_1; replace p9 := eq_true p9; replace q9 := eq_true q9) | ((with_reducible refine gate_callee (f := 31) rfl ?_); refine goesL_ (some 26) rfl rfl Tryd.func31 (by kernel_rfl) rfl #[.int .u8 (bt a0 x4_1)] rfl (by (try simp only [List.map_toArray, List.map_cons, List.map_nil]); first | done | rfl | (simp only [List.length_drop, List.length_take]; rfl)) ?_; (with_reducible refine (louverref15_size.calls k2 (bt a0 x4_1) t177 _ A10.out).mono ?_); rintro e w' ⟨rfl, ⟨nd, rfl⟩⟩; refine ⟨_, rfl, ?_⟩))
                          go_roundg k2
                          case measure => have := HK1.out; have := HK2.out; omega
                          case rel => exact ⟨(wrap64 (x5_2 + 1)), (by first | rfl | (simp; done) | (simp [*]; done)), H', ⟨by have := HK1.out; have := HK2.out; omega⟩, ⟨by repeat (first | (with_reducible first | exact HB.out | apply below_alloc | apply pw_below_drewN | apply below_drew1) | exact HB.out)⟩⟩
                    · rw [if_neg c8] at H
                      exact absurd H (by simp)
                  · replace c7 := Bool.eq_false_iff.mpr c7
                    subst c7
                    have H1 : (some (wrap64 ((wrap64 (x4_1 + x5_2)) - 1), false)) = some (r1, r2) := by rw [if_neg (show ¬ (false = true) by decide)] at H; exact H
                    clear H
                    have H := H1
                    clear H1
                    simp only [Option.some.injEq, Prod.mk.injEq] at H
                    obtain ⟨rfl, rfl⟩ := H
                    go_wp2_with (first | ((with_reducible refine gate_callee (f := 30) rfl ?_); refine goesL_ (some 16) rfl rfl Tryd.func30 (by kernel_rfl) rfl #[.string (a0.extract (x4_1 : Int).toNat ((wrap64 (x4_1 + x5_2)) : Int).toNat)] rfl (by (try simp only [List.map_toArray, List.map_cons, List.map_nil]); first | done | rfl | (simp only [List.length_drop, List.length_take]; rfl)) ?_; (with_reducible refine (louverref15_begins.calls k2 (a0.extract (x4_1 : Int).toNat ((wrap64 (x4_1 + x5_2)) : Int).toNat) false _ A6.out).mono ?_); rintro e w16 ⟨rfl, hb⟩; refine ⟨_, rfl, ?_⟩; have n0_ := Aside0.mk (below_step (by repeat (first | (with_reducible first | exact HB.out | apply below_alloc | apply pw_below_drewN | apply below_drew1) | exact HB.out)) hb); clear HB; have HB := n0_; clear n0_; (try clear hb); (try clear hb2); (try clear hk); (try clear hi)))
                    go_ret2
                    exact ⟨by first | rfl | (simp [errW_none, errW_some] <;> rfl) | (simp [*, errW_none, errW_some] <;> rfl), by repeat (first | (with_reducible first | exact HB.out | apply below_alloc | apply pw_below_drewN | apply below_drew1) | exact HB.out)⟩
                · rw [if_neg c5] at H
                  exact absurd H (by simp)
              · rw [if_neg c4] at H
                exact absurd H (by simp)
            · rw [if_neg c3] at H
              exact absurd H (by simp)
      · rw [if_neg c2] at H
        have c2b0 : decide (x4_1 < (a0.size : Int)) = false := decide_eq_false c2
        clear c2
        simp only [Option.some.injEq, Prod.mk.injEq] at H
        obtain ⟨rfl, rfl⟩ := H
        go_wp2
        go_ret2
        exact ⟨by first | rfl | (simp [errW_none, errW_some] <;> rfl) | (simp [*, errW_none, errW_some] <;> rfl), by repeat (first | (with_reducible first | exact HB.out | apply below_alloc | apply pw_below_drewN | apply below_drew1) | exact HB.out)⟩

def louverref18_Told.f (a0 : Int) : Option (Bool) := if a0 ≥ 1000 then (if a0 < 5000 then (if a0 = 1004 then (some false) else (if a0 = 1005 then (some false) else (if a0 = 1006 then (some false) else (if a0 < 1015 then (some true) else (some (decide (a0 ≥ 3000))))))) else (some false)) else (some false)
def louverref18_bad.f (a0 : Int) : Option (ByteArray × Bool × Bool × Bool × Int × Bool × List Int × Int × Bool) := some ((⟨#[]⟩ : ByteArray), false, false, true, 5, false, ([] : List Int), a0, true)
def louverref18_Same.f (a0_0 : Int) (a0_1 : Bool) (l0_2 : List Int) (a0_3 : Int) (a1_0 : Int) (a1_1 : Bool) (l1_2 : List Int) (a1_3 : Int) : Option (Bool) := if a0_0 = a1_0 then (if (a0_1 == a1_1) = true then (if a0_3 = a1_3 then (some ((strOfNums l0_2).toList == (strOfNums l1_2).toList)) else (some false)) else (some false)) else (some false)
def louverref18_Reason.l0 : Nat → ByteArray → Int → Option (ByteArray)
  | 0, _, _ => none
  | k + 1, x0, x5 => if x5 > 0 then (if 0 ≤ x5 then (if x5 ≤ (x0.size : Int) then ((louverref15_Good.f k (x0.extract 0 (x5 : Int).toNat)).bind fun bt233 => (if bt233.2 = true then (some (x0.extract 0 (x5 : Int).toNat)) else (louverref18_Reason.l0 k x0 (wrap64 (x5 - 1))))) else (none)) else (none)) else (some (⟨#[]⟩ : ByteArray))
def louverref18_Reason.f (k : Nat) (a0 : ByteArray) : Option (ByteArray) := (louverref15_Good.f k a0).bind fun bt231 => (if bt231.2 = true then (louverref18_Reason.l0 k a0 (mn (a0.size : Int) 123)) else (some (⟨#[]⟩ : ByteArray)))
set_option maxRecDepth 100000 in
theorem louverref18_Reason.mono_l : ∀ k, (∀ y0 y1, LeO (louverref18_Reason.l0 k y0 y1) (louverref18_Reason.l0 (k + 1) y0 y1))
  | 0 => fun _ _ r h => by (unfold louverref18_Reason.l0 at h; cases h)
  | k + 1 => by
    have ih0 := louverref18_Reason.mono_l k
    · intro y0 y1
      unfold louverref18_Reason.l0
      repeat' first
      | (with_reducible exact ih0 _ _)
      | (with_reducible exact louverref15_Good.mono _ _)
      | (with_reducible exact LeO.refl _)
      | (with_reducible exact LeO.none _)
      | (with_reducible refine LeO.ite ?_ ?_)
      | (with_reducible refine LeO.bind ?_ (fun _ => ?_))
      | exact ih0 _ _
      | exact louverref15_Good.mono _ _
      | exact LeO.none _
      | refine LeO.ite ?_ ?_
      | refine LeO.bind ?_ (fun _ => ?_)
set_option maxRecDepth 100000 in
theorem louverref18_Reason.mono : ∀ a0 k, LeO (louverref18_Reason.f k a0) (louverref18_Reason.f (k + 1) a0) := by
  intro a0 k
  have ih0 := louverref18_Reason.mono_l k
  unfold louverref18_Reason.f
  repeat' first
      | (with_reducible exact ih0 _ _)
      | (with_reducible exact louverref15_Good.mono _ _)
      | (with_reducible exact LeO.refl _)
      | (with_reducible exact LeO.none _)
      | (with_reducible refine LeO.ite ?_ ?_)
      | (with_reducible refine LeO.bind ?_ (fun _ => ?_))
      | exact ih0 _ _
      | exact louverref15_Good.mono _ _
      | exact LeO.none _
      | refine LeO.ite ?_ ?_
      | refine LeO.bind ?_ (fun _ => ?_)
end Go.Proofs.YtbjjobifpmjhhaaDoor.PAll

