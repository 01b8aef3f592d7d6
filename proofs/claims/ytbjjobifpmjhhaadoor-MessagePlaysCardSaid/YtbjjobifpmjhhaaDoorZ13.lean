/- What the law's row rests on, part 13. -/
import Derived.Test.YtbjjobifpmjhhaaDoorZ12
import Derived.Deep.RegionHeld3
/- A close taken, whatever its flags. -/
namespace Go.Proofs.YtbjjobifpmjhhaaDoor
open Go.RowKit Go.Proofs.YtbjjobifpmjhhaaDoorW.PrintWords Go.Proofs.YtbjjobifpmjhhaaDoorW.PrintLast Go.Proofs.YtbjjobifpmjhhaaDoorW.PrintMore Go.Proofs.YtbjjobifpmjhhaaDoor.PAll
set_option linter.unusedVariables false
set_option maxHeartbeats 4000000 in
set_option maxRecDepth 100000 in
theorem take_close_any {fin mk : Bool} {key : Int} (l d : List Int) (code : Int) (hcl : ClosesTo l d code) (g : Nat) (v u : Value) (busy text : Bool) (A : Option Addr) (c : Nat) (w : World) (hG : IsG w g v busy text u false) (hC : Kd.C (Kd.int .u8) w A l.length l) (hc : l.length ≤ c) : Calls Tryd.prog 25 #[.pointer (some ⟨g, 0, none⟩), .agg #[.bool fin, .int .u8 8, .bool mk, .int .u32 key, .slice A l.length c]] w fun e w' => ∃ vn, e = .returned (.tuple #[.agg #[.int .u8 4, .bool false, vn, .int .u32 code], .bool true, .nilIface]) ∧ Kd.R (Kd.int .u8) 5 w' w.heap.size (fun _ => True) vn d ∧ IsG w' g v busy text u true ∧ KeepBut w w' g none ∧ (∀ w0 : World, w0.heap.size ≤ g → Below w0.heap.size w0 w → Below w0.heap.size w0 w') := by
  have hu30 := Tryd.underlying30
  have hu26 := Tryd.underlying26
  have hgl : g < w.heap.size := blk_lt hG
  have HG := Aside0.mk hG
  have HC := Aside0.mk hC
  clear hG hC
  go_enter Tryd.func25, Tryd.ntmps25
  go_wp2_with fail
  refine (hcl A c _ (Kd.C_below HC.out (below_alloc (below_alloc (Below.refl _ _) _) _)) hc).mono ?_
  rintro e w1 ⟨vn, rfl, ho, hb⟩
  have hr : w1.heap[w.heap.size + 1]? = some (.cells #[.int .u8 0, .bool false, .slice none 0 0, .int .u32 0] 30 (0, 0)) := blk_below (last_at _ _ _ (by simp)) hb
  have hB := below_step (below_alloc (below_alloc (Below.refl w.heap.size w) _) _) hb
  have hG1 : IsG w1 g v busy text u false := blk_below HG.out hB
  have gc4 : w1.cell? ⟨g, 4, none⟩ = some (.bool false) := (blk_cell hG1 4).trans rfl
  have gf4 := blk_frozen hG1 4
  have gl := blk_lt hG1
  obtain ⟨Av, cv, rfl⟩ := Kd.R_slice ho
  have ho2 := Kd.R_types (Kd.R_types (Kd.R_lower ho (show w.heap.size ≤ _ by simp; omega)) hG1 (by intro q hq; simp [Kd.int, Kd.scalar] at hq; omega)) hr (by intro q hq; simp [Kd.int, Kd.scalar] at hq; omega)
  have HO := Aside0.mk ho2
  have HB := Aside0.mk hB
  have HR := Aside0.mk hr
  have HG1 := Aside0.mk hG1
  have hl1 : w.heap.size + 1 < w1.heap.size := blk_lt hr
  clear ho ho2 hb hB hG1 hr
  go_wp2_with fail
  clear gc4 gf4 gl
  have hbox : (((w1.setCell ⟨g, 4, none⟩ (.bool true)).alloc (.cells #[.int .u8 4, .bool false, .slice Av d.length cv, .int .u32 code] 30))).heap[w1.heap.size]? = some (.cells #[.int .u8 4, .bool false, .slice Av d.length cv, .int .u32 code] 30 (0, 0)) := last_at _ _ _ (by simp)
  have hres : (((w1.setCell ⟨g, 4, none⟩ (.bool true)).alloc (.cells #[.int .u8 4, .bool false, .slice Av d.length cv, .int .u32 code] 30))).heap[w.heap.size + 1]? = some (.cells #[.int .u8 0, .bool false, .slice none 0 0, .int .u32 0] 30 (0, 0)) := blk_alloc ((Below.heap_setCell _ _ _ _ (by show w.heap.size + 1 ≠ g; omega)).trans HR.out) _
  have hG2 : IsG (((w1.setCell ⟨g, 4, none⟩ (.bool true)).alloc (.cells #[.int .u8 4, .bool false, .slice Av d.length cv, .int .u32 code] 30))) g v busy text u true := blk_alloc (blk_put HG1.out 4 (.bool true) rfl) _
  have hO2 : Kd.R (Kd.int .u8) 5 (((w1.setCell ⟨g, 4, none⟩ (.bool true)).alloc (.cells #[.int .u8 4, .bool false, .slice Av d.length cv, .int .u32 code] 30))) w.heap.size _ (.slice Av d.length cv) d := Kd.R_alloc (Kd.R_far HO.out (fun k hk => hk.1.2) _) _
  have hK2 : KeepBut w (((w1.setCell ⟨g, 4, none⟩ (.bool true)).alloc (.cells #[.int .u8 4, .bool false, .slice Av d.length cv, .int .u32 code] 30))) g none := keep_alloc ((KeepBut.of_below HB.out g none).set_ 4 _) _
  have hW2 : ∀ w0 : World, w0.heap.size ≤ g → Below w0.heap.size w0 w → Below w0.heap.size w0 (((w1.setCell ⟨g, 4, none⟩ (.bool true)).alloc (.cells #[.int .u8 4, .bool false, .slice Av d.length cv, .int .u32 code] 30))) := fun w0 h0 hw => below_alloc (Below.setCell (below_step hw HB.out) h0 _) _
  generalize ((w1.setCell ⟨g, 4, none⟩ (.bool true)).alloc (.cells #[.int .u8 4, .bool false, .slice Av d.length cv, .int .u32 code] 30)) = W2 at hbox hres hG2 hO2 hK2 hW2 ⊢
  have HG2 := Aside0.mk hG2
  have HO2 := Aside0.mk hO2
  have HK2 := Aside0.mk hK2
  have HW2 := Aside0.mk hW2
  clear hG2 hO2 hK2 hW2 HO HB HR HG1 HG
  have bc0 : W2.cell? ⟨w1.heap.size, 0, none⟩ = some (.int .u8 4) := (blk_cell hbox 0).trans rfl
  have bc1 : W2.cell? ⟨w1.heap.size, 1, none⟩ = some (.bool false) := (blk_cell hbox 1).trans rfl
  have bc2 : W2.cell? ⟨w1.heap.size, 2, none⟩ = some (.slice Av d.length cv) := (blk_cell hbox 2).trans rfl
  have bc3 : W2.cell? ⟨w1.heap.size, 3, none⟩ = some (.int .u32 code) := (blk_cell hbox 3).trans rfl
  have rc0 : W2.cell? ⟨w.heap.size + 1, 0, none⟩ = some (.int .u8 0) := (blk_cell hres 0).trans rfl
  have rc1 : W2.cell? ⟨w.heap.size + 1, 1, none⟩ = some (.bool false) := (blk_cell hres 1).trans rfl
  have rc2 : W2.cell? ⟨w.heap.size + 1, 2, none⟩ = some (.slice none 0 0) := (blk_cell hres 2).trans rfl
  have rc3 : W2.cell? ⟨w.heap.size + 1, 3, none⟩ = some (.int .u32 0) := (blk_cell hres 3).trans rfl
  have rf0 := blk_frozen hres 0
  have rf1 := blk_frozen hres 1
  have rf2 := blk_frozen hres 2
  have rf3 := blk_frozen hres 3
  have rl := blk_lt hres
  have bl := blk_lt hbox
  go_region_with (go_at_call 34; with_reducible refine (wrap_nil _ _).mono ?_; rintro e w' ⟨rfl, rfl⟩)
  all_goals (simp only [Act.put, List.getElem_toArray, List.getElem_cons_zero, List.getElem_cons_succ, List.setIfInBounds_toArray, List.set_cons_zero, List.set_cons_succ]; go_wp2_with fail)
  all_goals
    have hne : g ≠ w.heap.size + 1 := by omega
    have hle : w.heap.size ≤ w.heap.size + 1 := by omega
    have hR := Kd.R_drew (Kd.R_far (Kd.R_far (Kd.R_far (Kd.R_far HO2.out (p := ⟨w.heap.size + 1, 0, none⟩) (fun k hk => hk.2) (.int .u8 4)) (p := ⟨w.heap.size + 1, 1, none⟩) (fun k hk => hk.2) (.bool false)) (p := ⟨w.heap.size + 1, 2, none⟩) (fun k hk => hk.2) (.slice Av d.length cv)) (p := ⟨w.heap.size + 1, 3, none⟩) (fun k hk => hk.2) (.int .u32 code))
    have hR2 := Kd.R_mono hR (ok' := fun _ => True) (fun _ _ => trivial)
    have hG3 := IsG.far (IsG.far (IsG.far (IsG.far HG2.out (p := ⟨w.heap.size + 1, 0, none⟩) (x := .int .u8 4) hne) (p := ⟨w.heap.size + 1, 1, none⟩) (x := .bool false) hne) (p := ⟨w.heap.size + 1, 2, none⟩) (x := .slice Av d.length cv) hne) (p := ⟨w.heap.size + 1, 3, none⟩) (x := .int .u32 code) hne
    have hK3 := keep_drew (keep_far (keep_far (keep_far (keep_far HK2.out (p := ⟨w.heap.size + 1, 0, none⟩) hle (.int .u8 4)) (p := ⟨w.heap.size + 1, 1, none⟩) hle (.bool false)) (p := ⟨w.heap.size + 1, 2, none⟩) hle (.slice Av d.length cv)) (p := ⟨w.heap.size + 1, 3, none⟩) hle (.int .u32 code))
    refine bodyPost_ret (v := .tuple #[.agg #[.int .u8 4, .bool false, .slice Av d.length cv, .int .u32 code], .bool true, .nilIface]) (by simp [results, Tryd.results25, go_sem, rc0, rc1, rc2, rc3]) rfl ⟨_, rfl, hR2, hG3, hK3, fun w0 h0 hw => ?_⟩
    have hl0 : w0.heap.size ≤ w.heap.size + 1 := by have := hw.size; omega
    exact below_drew (Below.setCell (Below.setCell (Below.setCell (Below.setCell (HW2.out w0 h0 hw) hl0 _) hl0 _) hl0 _) hl0 _)
set_option maxHeartbeats 4000000 in
set_option maxRecDepth 100000 in
theorem Take_close_any {fin mk : Bool} {key : Int} (l d : List Int) (code : Int) (hcl : ClosesTo l d code) (g : Nat) (v u : Value) (busy text : Bool) (A : Option Addr) (c : Nat) (w : World) (hv : v.oneCell' = true) (hG : IsG w g v busy text u false) (hC : Kd.C (Kd.int .u8) w A l.length l) (hc : l.length ≤ c) : Calls Tryd.prog 14 #[.pointer (some ⟨g, 0, none⟩), .agg #[.bool fin, .int .u8 8, .bool mk, .int .u32 key, .slice A l.length c]] w fun e w' => ∃ vn, e = .returned (.tuple #[.agg #[.int .u8 4, .bool false, vn, .int .u32 code], .bool true]) ∧ Kd.R (Kd.int .u8) 5 w' w.heap.size (fun _ => True) vn d ∧ IsG w' g (.slice none 0 0) busy text u true ∧ KeepBut w w' g none ∧ (∀ w0 : World, w0.heap.size ≤ g → Below w0.heap.size w0 w → Below w0.heap.size w0 w') := by
  have hu30 := Tryd.underlying30
  have hu26 := Tryd.underlying26
  have hgl : g < w.heap.size := blk_lt hG
  have HG := Aside0.mk hG
  have HC := Aside0.mk hC
  clear hG hC
  go_enter Tryd.func14, Tryd.ntmps14
  go_wp2_with fail
  refine (over_any g v u busy text false _ (show IsG _ g v busy text u false from blk_alloc (blk_alloc HG.out _) _)).mono ?_
  rintro e w1 ⟨rfl, hw1⟩
  have hres : w1.heap[w.heap.size + 1]? = some (.cells #[.int .u8 0, .bool false, .slice none 0 0, .int .u32 0] 30 (0, 0)) := by rw [hw1]; exact last_at _ _ _ (by simp)
  have hbox : w1.heap[w.heap.size]? = some (.cells #[.bool fin, .int .u8 8, .bool mk, .int .u32 key, .slice A l.length c] 26 (0, 0)) := by rw [hw1]; exact blk_alloc (last_at _ _ _ rfl) _
  have hB1 : Below w.heap.size w w1 := by rw [hw1]; exact below_alloc (below_alloc (Below.refl _ _) _) _
  have hG1 : IsG w1 g v busy text u false := by rw [hw1]; exact blk_alloc (blk_alloc HG.out _) _
  clear hw1
  have bc0 : w1.cell? ⟨w.heap.size, 0, none⟩ = some (.bool fin) := (blk_cell hbox 0).trans rfl
  have bf0 := blk_frozen hbox 0
  have bc1 : w1.cell? ⟨w.heap.size, 1, none⟩ = some (.int .u8 8) := (blk_cell hbox 1).trans rfl
  have bf1 := blk_frozen hbox 1
  have bc2 : w1.cell? ⟨w.heap.size, 2, none⟩ = some (.bool mk) := (blk_cell hbox 2).trans rfl
  have bf2 := blk_frozen hbox 2
  have bc3 : w1.cell? ⟨w.heap.size, 3, none⟩ = some (.int .u32 key) := (blk_cell hbox 3).trans rfl
  have bf3 := blk_frozen hbox 3
  have bc4 : w1.cell? ⟨w.heap.size, 4, none⟩ = some (.slice A l.length c) := (blk_cell hbox 4).trans rfl
  have bf4 := blk_frozen hbox 4
  have bl : w.heap.size < w1.heap.size := blk_lt hbox
  have HB1 := Aside0.mk hB1
  have HR1 := Aside0.mk hres
  have HG1 := Aside0.mk hG1
  have hl1 : w.heap.size + 1 < w1.heap.size := blk_lt hres
  clear hB1 hres hG1 hbox
  go_wp2_with fail
  refine (take_close_any l d code hcl g v u busy text A c _ HG1.out (Kd.C_below HC.out HB1.out) hc).mono ?_
  rintro e w2 ⟨vn, rfl, ho, hG2, hk, hB0⟩
  have hr2 : w2.heap[w.heap.size + 1]? = some (.cells #[.int .u8 0, .bool false, .slice none 0 0, .int .u32 0] 30 (0, 0)) := hk.blk HR1.out (by omega) (by simp)
  have hl2 : w1.heap.size ≤ w2.heap.size := hk.1
  have ho2 := Kd.R_types (Kd.R_types (Kd.R_lower ho HB1.out.size) hG2 (by intro q hq; simp [Kd.int, Kd.scalar] at hq; omega)) hr2 (by intro q hq; simp [Kd.int, Kd.scalar] at hq; omega)
  obtain ⟨Av, cv, rfl⟩ := Kd.R_slice ho2
  have HO := Aside0.mk ho2
  have HG2 := Aside0.mk hG2
  have HR2 := Aside0.mk hr2
  have HKB := Aside0.mk ((KeepBut.of_below HB1.out g none).trans hk (.inl rfl))
  have HB0 := Aside0.mk (fun (w0 : World) (h0 : w0.heap.size ≤ g) (hw : Below w0.heap.size w0 w) => hB0 w0 h0 (below_step hw HB1.out))
  have gc0 : w2.cell? ⟨g, 0, none⟩ = some v := (blk_cell hG2 0).trans rfl
  have gf0 := blk_frozen hG2 0
  have gc4 : w2.cell? ⟨g, 4, none⟩ = some (.bool true) := (blk_cell hG2 4).trans rfl
  have gl := blk_lt hG2
  have rc0 : w2.cell? ⟨w.heap.size + 1, 0, none⟩ = some (.int .u8 0) := (blk_cell hr2 0).trans rfl
  have rf0 := blk_frozen hr2 0
  have rc1 : w2.cell? ⟨w.heap.size + 1, 1, none⟩ = some (.bool false) := (blk_cell hr2 1).trans rfl
  have rf1 := blk_frozen hr2 1
  have rc2 : w2.cell? ⟨w.heap.size + 1, 2, none⟩ = some (.slice none 0 0) := (blk_cell hr2 2).trans rfl
  have rf2 := blk_frozen hr2 2
  have rc3 : w2.cell? ⟨w.heap.size + 1, 3, none⟩ = some (.int .u32 0) := (blk_cell hr2 3).trans rfl
  have rf3 := blk_frozen hr2 3
  have rl : w.heap.size + 1 < w2.heap.size := blk_lt hr2
  clear ho ho2 hG2 hr2 hk hB0 bc0 bc1 bc2 bc3 bc4 bf0 bf1 bf2 bf3 bf4 bl
  go_wp2_with fail
  have hne : g ≠ w.heap.size + 1 := by omega
  have hR := Kd.R_alloc (Kd.R_far (Kd.R_far (Kd.R_far (Kd.R_far (Kd.R_far HO.out (p := ⟨g, 0, none⟩) (fun k hk => hk.1.2) (.slice none 0 0)) (p := ⟨w.heap.size + 1, 0, none⟩) (fun k hk => hk.2) (.int .u8 4)) (p := ⟨w.heap.size + 1, 1, none⟩) (fun k hk => hk.2) (.bool false)) (p := ⟨w.heap.size + 1, 2, none⟩) (fun k hk => hk.2) (.slice Av d.length cv)) (p := ⟨w.heap.size + 1, 3, none⟩) (fun k hk => hk.2) (.int .u32 code)) (.cells #[.int .u8 4, .bool false, .slice Av d.length cv, .int .u32 code] 30)
  have hR2 := Kd.R_mono hR (ok' := fun _ => True) (fun _ _ => trivial)
  have hGa : IsG (w2.setCell ⟨g, 0, none⟩ (.slice none 0 0)) g (.slice none 0 0) busy text u true := blk_put HG2.out 0 (.slice none 0 0) rfl
  have hG3 := IsG.far (IsG.far (IsG.far (IsG.far hGa (p := ⟨w.heap.size + 1, 0, none⟩) (x := .int .u8 4) hne) (p := ⟨w.heap.size + 1, 1, none⟩) (x := .bool false) hne) (p := ⟨w.heap.size + 1, 2, none⟩) (x := .slice Av d.length cv) hne) (p := ⟨w.heap.size + 1, 3, none⟩) (x := .int .u32 code) hne
  refine bodyPost_ret (v := .tuple #[.agg #[.int .u8 4, .bool false, .slice Av d.length cv, .int .u32 code], .bool true]) (by simp [results, Tryd.results14, go_sem, rc0, rc1, rc2, rc3, rl]) rfl ⟨_, rfl, hR2, blk_alloc hG3 _, keep_alloc (keep_far (keep_far (keep_far (keep_far (HKB.out.set_ 0 (.slice none 0 0)) (p := ⟨w.heap.size + 1, 0, none⟩) (Nat.le_succ _) _) (p := ⟨w.heap.size + 1, 1, none⟩) (Nat.le_succ _) _) (p := ⟨w.heap.size + 1, 2, none⟩) (Nat.le_succ _) _) (p := ⟨w.heap.size + 1, 3, none⟩) (Nat.le_succ _) _) _, fun w0 h0 hw => ?_⟩
  have hl0 : w0.heap.size ≤ w.heap.size + 1 := by have := hw.size; omega
  exact below_alloc (Below.setCell (Below.setCell (Below.setCell (Below.setCell (Below.setCell (HB0.out w0 h0 hw) h0 _) hl0 _) hl0 _) hl0 _) hl0 _) _
end Go.Proofs.YtbjjobifpmjhhaaDoor

/- MessagePlays: what 'great' answers; what stands in the law's loop. -/
namespace Go.Proofs.YtbjjobifpmjhhaaDoor
open Go.RowKit Go.Proofs.YtbjjobifpmjhhaaDoorW.PrintWords Go.Proofs.YtbjjobifpmjhhaaDoorW.PrintLast Go.Proofs.YtbjjobifpmjhhaaDoorW.PrintMore Go.Proofs.YtbjjobifpmjhhaaDoor.PAll Go.Proofs.YtbjjobifpmjhhaaDoor.U
set_option linter.unusedVariables false
set_option linter.unusedSimpArgs false
theorem mn_bounds (n : Nat) : 0 ≤ mn (n : Int) 20000 ∧ mn (n : Int) 20000 ≤ 20000 ∧ (mn (n : Int) 20000 ≤ 19999 → n ≤ 19999) := by
  unfold mn
  split <;> omega
theorem great_loop (l : List S26) (hl : l.length ≤ 5000000000000) : ∀ (m j : Nat) (n : Int), j + m = l.length → 0 ≤ n → n ≤ (j : Int) * 20001 → ∃ r, louverlaw18_great.l0 (m + 1) l n l (l.length : Int) (j : Int) = some r ∧ (r = false → l.length ≤ 100 ∧ n ≤ 20000 ∧ ∀ i (h : i < l.length), j ≤ i → l[i].f4.length ≤ 20000) := by
  intro m
  induction m with
  | zero =>
    intro j n hj h0 h1
    unfold louverlaw18_great.l0
    rw [if_neg (by omega)]
    by_cases hb : (l.length : Int) > 100
    · rw [if_pos hb]
      exact ⟨true, rfl, fun h => by cases h⟩
    · rw [if_neg hb]
      refine ⟨_, rfl, fun h => ⟨by omega, ?_, fun i hi hji => by omega⟩⟩
      have := of_decide_eq_false h
      omega
  | succ m ih =>
    intro j n hj h0 h1
    have hlt : j < l.length := by omega
    have hm := mn_bounds (l[j].f4.length)
    have hx : rd_T26 l (j : Int) = l[j] := by
      unfold rd_T26
      rw [Int.toNat_natCast, List.getD_eq_getElem?_getD, List.getElem?_eq_getElem hlt]
      rfl
    unfold louverlaw18_great.l0
    rw [if_pos (by omega), if_pos (by omega), if_pos (by omega), hx]
    generalize mn (l[j].f4.length : Int) 20000 = q at hm ⊢
    have hw1 : wrap64 (n + (1 + q)) = n + (1 + q) := by
      unfold wrap64
      omega
    have hw2 : wrap64 ((j : Int) + 1) = ((j + 1 : Nat) : Int) := by unfold wrap64; omega
    rw [hw1, hw2]
    obtain ⟨r, hr, hp⟩ := ih (j + 1) (n + (1 + q)) (by omega) (by omega) (by omega)
    refine ⟨r, hr, fun h => ?_⟩
    obtain ⟨p1, p2, p3⟩ := hp h
    refine ⟨p1, by omega, fun i hi hji => ?_⟩
    by_cases e : i = j
    · subst e
      have := hm.2.2 (by omega)
      omega
    · exact p3 i hi (by omega)
theorem great_any (l : List S26) (hl : l.length ≤ 5000000000000) : ∃ r, louverlaw18_great.f (l.length + 1) l = some r ∧ (r = false → l.length ≤ 100 ∧ ∀ p ∈ l, p.f4.length ≤ 20000) := by
  obtain ⟨r, hr, hp⟩ := great_loop l hl l.length 0 0 (by omega) (by omega) (by omega)
  refine ⟨r, hr, fun h => ⟨(hp h).1, fun p hpm => ?_⟩⟩
  obtain ⟨i, hi, rfl⟩ := List.getElem_of_mem hpm
  exact (hp h).2.2 i hi (by omega)
theorem wrap_u32p {x : Int} (h0 : 0 ≤ x) (h1 : x ≤ 4294967295) : IntKind.u32.wrap x = x := by
  have : IntKind.u32.wrap x = x % 4294967296 := by simp [IntKind.wrap, IntKind.bits, IntKind.signed]
  rw [this]; omega
theorem nat_orp (s b : Nat) (hb : b < 256) : s * 256 ||| b = s * 256 + b := by
  have := Nat.two_pow_add_eq_or_of_lt (show b < 2 ^ 8 from hb) s
  rw [show (2 : Nat) ^ 8 = 256 from rfl, Nat.mul_comm] at this
  exact this.symm
theorem or_byte32p {s b : Int} (h0 : 0 ≤ s) (h1 : s < 16777216) (hb : 0 ≤ b ∧ b ≤ 255) : Go.bits .or .u32 (s * 256) b = s * 256 + b := by
  obtain ⟨n, rfl⟩ : ∃ n : Nat, s = (n : Int) := ⟨s.toNat, by omega⟩
  obtain ⟨m, rfl⟩ : ∃ m : Nat, b = (m : Int) := ⟨b.toNat, by omega⟩
  have e1 : (BitVec.ofInt 32 ((n : Int) * 256)).toNat = n * 256 := by
    rw [show ((n : Int) * 256) = ((n * 256 : Nat) : Int) by omega, BitVec.ofInt_natCast, BitVec.toNat_ofNat]; exact Nat.mod_eq_of_lt (by omega)
  have e2 : (BitVec.ofInt 32 (m : Int)).toNat = m := by
    rw [BitVec.ofInt_natCast, BitVec.toNat_ofNat]; exact Nat.mod_eq_of_lt (by omega)
  show IntKind.u32.wrap ((BitVec.ofInt 32 ((n : Int) * 256) ||| BitVec.ofInt 32 (m : Int)).toNat : Int) = _
  rw [BitVec.toNat_or, e1, e2, nat_orp n m (by omega), wrap_u32p (by omega) (by omega)]
  omega
/-- What the gatherer's closes answers at any bytes. -/
theorem close_to (d : List Int) (hd : ∀ x ∈ d, 0 ≤ x ∧ x ≤ 255) (hl : d.length ≤ 1000000000) : ((closeM d).1 = 4 ∧ ClosesTo d (closeM d).2.1 (closeM d).2.2) ∨ ((closeM d).1 = 5 ∧ (closeM d).2.1 = [] ∧ ClosesBad d (closeM d).2.2) := by
  match d, hd, hl with
  | [], _, _ => exact .inl ⟨rfl, closes_none⟩
  | [x], _, _ => exact .inr ⟨rfl, rfl, closes_bad_one x⟩
  | a :: b :: r, hd, hl =>
    have ha := hd a (by simp)
    have hb := hd b (by simp)
    have hrl : r.length ≤ 999999998 := by simp at hl; omega
    have hcode : Go.bits .or .u32 (a * 256) b = 256 * a + b := by rw [or_byte32p ha.1 (by omega) hb]; omega
    have hv := valid_f r (by omega) (r.length + 5) (by omega)
    cases ht : toldB (256 * a + b) with
    | false =>
      have hc : closeM (a :: b :: r) = (5, [], 1002) := by show (if toldB (256 * a + b) = true then _ else _) = _; rw [ht]; rfl
      rw [hc]
      exact .inr ⟨rfl, rfl, closes_bad_code a b r _ ha.1 ha.2 hb.1 hb.2 hcode ht (by omega)⟩
    | true =>
      cases hw : validC r with
      | false =>
        have hc : closeM (a :: b :: r) = (5, [], 1007) := by show (if toldB (256 * a + b) = true then (if validC r = true then _ else _) else _) = _; rw [ht, hw]; rfl
        rw [hc]
        exact .inr ⟨rfl, rfl, closes_bad_text a b r _ _ ha.1 ha.2 hb.1 hb.2 hcode ht (hw ▸ hv) (by omega)⟩
      | true =>
        have hc : closeM (a :: b :: r) = (4, r, 256 * a + b) := by show (if toldB (256 * a + b) = true then (if validC r = true then _ else _) else _) = _; rw [ht, hw]; rfl
        rw [hc]
        exact .inl ⟨rfl, closes_ok a b r _ _ ha.1 ha.2 hb.1 hb.2 hcode ht (hw ▸ hv) (by omega)⟩
end Go.Proofs.YtbjjobifpmjhhaaDoor

