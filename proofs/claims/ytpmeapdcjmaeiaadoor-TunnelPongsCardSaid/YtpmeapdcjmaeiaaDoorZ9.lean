/- What the law's row rests on, part 9. -/
import Derived.Test.YtpmeapdcjmaeiaaDoorZ8
import Derived.Deep.RegionHeld3
import Derived.Lib.ConvBytes
import Derived.Laws.AppendOwn
import Derived.Deep.LoopGhost
import Derived.Deep.DeepCutAuto
set_option linter.unusedVariables false
set_option linter.unusedSimpArgs false
namespace Go.Proofs.YtpmeapdcjmaeiaaDoor
open Go.RowKit Go.Proofs.YtpmeapdcjmaeiaaDoorW.PrintWords Go.Proofs.YtpmeapdcjmaeiaaDoorW.PrintLast Go.Proofs.YtpmeapdcjmaeiaaDoorW.PrintMore Go.Proofs.YtpmeapdcjmaeiaaDoor.PAll Go.Proofs.YtpmeapdcjmaeiaaDoor.U
def closeM (d : List Int) : Int × List Int × Int :=
 match d with
 | [] => (4, [], 1005)
 | [_] => (5, [], 1002)
 | a :: b :: r => if toldB (256 * a + b) = true then (if validC r = true then (4, r, 256 * a + b) else (5, [], 1007)) else (5, [], 1002)
def Rd (B : Nat) (w : World) (A : Option Addr) (d : List Int) : Prop := ∀ W', (∀ k, (k < B ∨ ∃ cs fr, w.heap[k]? = some (.cells cs 5 fr)) → W'.heap[k]? = w.heap[k]?) → Kd.C (Kd.int .u8) W' A d.length d
theorem Rd.C {B : Nat} {w : World} {A : Option Addr} {d : List Int} (h : Rd B w A d) : Kd.C (Kd.int .u8) w A d.length d := h w (fun _ _ => rfl)
theorem Rd.move {B : Nat} {w W : World} {A : Option Addr} {d : List Int} (h : Rd B w A d) (hm : ∀ k, (k < B ∨ ∃ cs fr, w.heap[k]? = some (.cells cs 5 fr)) → W.heap[k]? = w.heap[k]?) : Rd B W A d := fun W' hW => h W' (fun k hk => by
 have e := hm k hk
 rw [← e]
 refine hW k ?_
 rcases hk with hk | ⟨cs, fr, hk⟩
 ·exact .inl hk
 ·exact .inr ⟨cs, fr, e.trans hk⟩)
theorem Rd.below {B : Nat} {w W : World} {A : Option Addr} {d : List Int} (h : Rd B w A d) (hb : Below w.heap.size w W) (hB : B ≤ w.heap.size) : Rd B W A d := h.move (fun k hk => hb.block k (by
 rcases hk with hk | ⟨cs, fr, hk⟩
 ·omega
 ·exact (Array.getElem?_eq_some_iff.1 hk).1))
theorem C_zero (A : Option Addr) (w : World) : Kd.C (Kd.int .u8) w A 0 [] := Kd.C_of_reads (d := (0 : Int)) ⟨rfl, Nat.zero_le _, fun hp => absurd hp (by decide)⟩
theorem Rd.zero (B : Nat) (w : World) (A : Option Addr) : Rd B w A [] := fun W' _ => C_zero A W'
theorem heap_sets4 {W : World} {q k : Nat} {x0 x1 x2 x3 : Value} (h : q ≠ k) : ((((W.setCell ⟨k, 0, none⟩ x0).setCell ⟨k, 1, none⟩ x1).setCell ⟨k, 2, none⟩ x2).setCell ⟨k, 3, none⟩ x3).heap[q]? = W.heap[q]? := by
 rw [Below.heap_setCell _ ⟨k, 3, none⟩ _ q h, Below.heap_setCell _ ⟨k, 2, none⟩ _ q h, Below.heap_setCell _ ⟨k, 1, none⟩ _ q h, Below.heap_setCell _ ⟨k, 0, none⟩ _ q h]
theorem sets4 {w W : World} {B k : Nat} {x0 x1 x2 x3 : Value} (h : Below B w W) (hk : B ≤ k) : Below B w ((((W.setCell ⟨k, 0, none⟩ x0).setCell ⟨k, 1, none⟩ x1).setCell ⟨k, 2, none⟩ x2).setCell ⟨k, 3, none⟩ x3) := Below.setCell (Below.setCell (Below.setCell (Below.setCell h hk _) hk _) hk _) hk _
theorem C_nil (w : World) : Kd.C (Kd.int .u8) w none 0 [] := (Kd.R_reads' (Kd.R_nil (Kd.int .u8) 5 w 0 (fun _ => True))).2.2
end Go.Proofs.YtpmeapdcjmaeiaaDoor
namespace Go.Proofs.YtpmeapdcjmaeiaaDoor
open Go.RowKit Go.Proofs.YtpmeapdcjmaeiaaDoorW.PrintWords Go.Proofs.YtpmeapdcjmaeiaaDoorW.PrintLast Go.Proofs.YtpmeapdcjmaeiaaDoorW.PrintMore Go.Proofs.YtpmeapdcjmaeiaaDoor.PAll
set_option maxHeartbeats 4000000 in
set_option maxRecDepth 100000 in
theorem take_close_any {fin mk : Bool} {key : Int} (l d : List Int) (code : Int) (hcl : ClosesTo l d code) (g : Nat) (v u : Value) (busy text : Bool) (A : Option Addr) (c : Nat) (w : World) (hG : IsG w g v busy text u false) (hC : Kd.C (Kd.int .u8) w A l.length l) (hc : l.length ≤ c) : Calls Tryd.prog 39 #[.pointer (some ⟨g, 0, none⟩), .agg #[.bool fin, .int .u8 8, .bool mk, .int .u32 key, .slice A l.length c]] w fun e w' => ∃ vn, e = .returned (.tuple #[.agg #[.int .u8 4, .bool false, vn, .int .u32 code], .bool true, .nilIface]) ∧ Kd.R (Kd.int .u8) 5 w' w.heap.size (fun _ => True) vn d ∧ IsG w' g v busy text u true ∧ KeepBut w w' g none ∧ (∀ w0 : World, w0.heap.size ≤ g → Below w0.heap.size w0 w → Below w0.heap.size w0 w') := by
 have hu30 := Tryd.underlying35
 have hu26 := Tryd.underlying52
 have hgl : g < w.heap.size := blk_lt hG
 have HG := Aside0.mk hG
 have HC := Aside0.mk hC
 clear hG hC
 go_enter Tryd.func39, Tryd.ntmps39
 go_wp2_with fail
 refine (hcl A c _ (Kd.C_below HC.out (below_alloc (below_alloc (Below.refl _ _) _) _)) hc).mono ?_
 rintro e w1 ⟨vn, rfl, ho, hb⟩
 have hr : w1.heap[w.heap.size + 1]? = some (.cells #[.int .u8 0, .bool false, .slice none 0 0, .int .u32 0] 35 (0, 0)) := blk_below (last_at _ _ _ (by simp)) hb
 have hB := below_step (below_alloc (below_alloc (Below.refl w.heap.size w) _) _) hb
 have hG1 : IsG w1 g v busy text u false := blk_below HG.out hB
 have gc4 : w1.cell? ⟨g, 4, none⟩ = some (.bool false) := (blk_cell hG1 4).trans rfl
 have gf4 := blk_frozen hG1 4
 have gl := blk_lt hG1
 obtain ⟨Av, cv, rfl⟩ := Kd.R_slice ho
 have ho2 := Kd.R_types (Kd.R_types (Kd.R_lower ho (show w.heap.size ≤ _ by simp; omega)) hG1 (by intro q hq; simp [Kd.int, Kd.scalar] at hq; omega)) hr (by intro q hq; simp [Kd.int, Kd.scalar] at hq; omega)
 have HO := Aside0.mk ho2
 have HB := Aside0.mk hB
 have HR := Aside0.mk hr
 have HG1 := Aside0.mk hG1
 have hl1 : w.heap.size + 1 < w1.heap.size := blk_lt hr
 clear ho ho2 hb hB hG1 hr
 go_wp2_with fail
 clear gc4 gf4 gl
 have hbox : (((w1.setCell ⟨g, 4, none⟩ (.bool true)).alloc (.cells #[.int .u8 4, .bool false, .slice Av d.length cv, .int .u32 code] 35))).heap[w1.heap.size]? = some (.cells #[.int .u8 4, .bool false, .slice Av d.length cv, .int .u32 code] 35 (0, 0)) := last_at _ _ _ (by simp)
 have hres : (((w1.setCell ⟨g, 4, none⟩ (.bool true)).alloc (.cells #[.int .u8 4, .bool false, .slice Av d.length cv, .int .u32 code] 35))).heap[w.heap.size + 1]? = some (.cells #[.int .u8 0, .bool false, .slice none 0 0, .int .u32 0] 35 (0, 0)) := blk_alloc ((Below.heap_setCell _ _ _ _ (by show w.heap.size + 1 ≠ g; omega)).trans HR.out) _
 have hG2 : IsG (((w1.setCell ⟨g, 4, none⟩ (.bool true)).alloc (.cells #[.int .u8 4, .bool false, .slice Av d.length cv, .int .u32 code] 35))) g v busy text u true := blk_alloc (blk_put HG1.out 4 (.bool true) rfl) _
 have hO2 : Kd.R (Kd.int .u8) 5 (((w1.setCell ⟨g, 4, none⟩ (.bool true)).alloc (.cells #[.int .u8 4, .bool false, .slice Av d.length cv, .int .u32 code] 35))) w.heap.size _ (.slice Av d.length cv) d := Kd.R_alloc (Kd.R_far HO.out (fun k hk => hk.1.2) _) _
 have hK2 : KeepBut w (((w1.setCell ⟨g, 4, none⟩ (.bool true)).alloc (.cells #[.int .u8 4, .bool false, .slice Av d.length cv, .int .u32 code] 35))) g none := keep_alloc ((KeepBut.of_below HB.out g none).set_ 4 _) _
 have hW2 : ∀ w0 : World, w0.heap.size ≤ g → Below w0.heap.size w0 w → Below w0.heap.size w0 (((w1.setCell ⟨g, 4, none⟩ (.bool true)).alloc (.cells #[.int .u8 4, .bool false, .slice Av d.length cv, .int .u32 code] 35))) := fun w0 h0 hw => below_alloc (Below.setCell (below_step hw HB.out) h0 _) _
 generalize ((w1.setCell ⟨g, 4, none⟩ (.bool true)).alloc (.cells #[.int .u8 4, .bool false, .slice Av d.length cv, .int .u32 code] 35)) = W2 at hbox hres hG2 hO2 hK2 hW2 ⊢
 have HG2 := Aside0.mk hG2
 have HO2 := Aside0.mk hO2
 have HK2 := Aside0.mk hK2
 have HW2 := Aside0.mk hW2
 clear hG2 hO2 hK2 hW2 HO HB HR HG1 HG
 have bc0 : W2.cell? ⟨w1.heap.size, 0, none⟩ = some (.int .u8 4) := (blk_cell hbox 0).trans rfl
 have bc1 : W2.cell? ⟨w1.heap.size, 1, none⟩ = some (.bool false) := (blk_cell hbox 1).trans rfl
 have bc2 : W2.cell? ⟨w1.heap.size, 2, none⟩ = some (.slice Av d.length cv) := (blk_cell hbox 2).trans rfl
 have bc3 : W2.cell? ⟨w1.heap.size, 3, none⟩ = some (.int .u32 code) := (blk_cell hbox 3).trans rfl
 have rc0 : W2.cell? ⟨w.heap.size + 1, 0, none⟩ = some (.int .u8 0) := (blk_cell hres 0).trans rfl
 have rc1 : W2.cell? ⟨w.heap.size + 1, 1, none⟩ = some (.bool false) := (blk_cell hres 1).trans rfl
 have rc2 : W2.cell? ⟨w.heap.size + 1, 2, none⟩ = some (.slice none 0 0) := (blk_cell hres 2).trans rfl
 have rc3 : W2.cell? ⟨w.heap.size + 1, 3, none⟩ = some (.int .u32 0) := (blk_cell hres 3).trans rfl
 have rf0 := blk_frozen hres 0
 have rf1 := blk_frozen hres 1
 have rf2 := blk_frozen hres 2
 have rf3 := blk_frozen hres 3
 have rl := blk_lt hres
 have bl := blk_lt hbox
 go_region_with (go_at_call 50; with_reducible refine (wrap_nil _ _).mono ?_; rintro e w' ⟨rfl, rfl⟩)
 all_goals (simp only [Act.put, List.getElem_toArray, List.getElem_cons_zero, List.getElem_cons_succ, z1_, z2_, z3_]; go_wp2_with fail)
 all_goals
  have hne : g ≠ w.heap.size + 1 := by omega
  have hle : w.heap.size ≤ w.heap.size + 1 := by omega
  have hR := Kd.R_drew (Kd.R_far (Kd.R_far (Kd.R_far (Kd.R_far HO2.out (p := ⟨w.heap.size + 1, 0, none⟩) (fun k hk => hk.2) (.int .u8 4)) (p := ⟨w.heap.size + 1, 1, none⟩) (fun k hk => hk.2) (.bool false)) (p := ⟨w.heap.size + 1, 2, none⟩) (fun k hk => hk.2) (.slice Av d.length cv)) (p := ⟨w.heap.size + 1, 3, none⟩) (fun k hk => hk.2) (.int .u32 code))
  have hR2 := Kd.R_mono hR (ok' := fun _ => True) (fun _ _ => trivial)
  have hG3 := IsG.far (IsG.far (IsG.far (IsG.far HG2.out (p := ⟨w.heap.size + 1, 0, none⟩) (x := .int .u8 4) hne) (p := ⟨w.heap.size + 1, 1, none⟩) (x := .bool false) hne) (p := ⟨w.heap.size + 1, 2, none⟩) (x := .slice Av d.length cv) hne) (p := ⟨w.heap.size + 1, 3, none⟩) (x := .int .u32 code) hne
  have hK3 := keep_drew (keep_far (keep_far (keep_far (keep_far HK2.out (p := ⟨w.heap.size + 1, 0, none⟩) hle (.int .u8 4)) (p := ⟨w.heap.size + 1, 1, none⟩) hle (.bool false)) (p := ⟨w.heap.size + 1, 2, none⟩) hle (.slice Av d.length cv)) (p := ⟨w.heap.size + 1, 3, none⟩) hle (.int .u32 code))
  refine bodyPost_ret (v := .tuple #[.agg #[.int .u8 4, .bool false, .slice Av d.length cv, .int .u32 code], .bool true, .nilIface]) (by simp [results, Tryd.results39, go_sem, rc0, rc1, rc2, rc3]) rfl ⟨_, rfl, hR2, hG3, hK3, fun w0 h0 hw => ?_⟩
  have hl0 : w0.heap.size ≤ w.heap.size + 1 := by have := hw.size; omega
  exact below_drew (Below.setCell (Below.setCell (Below.setCell (Below.setCell (HW2.out w0 h0 hw) hl0 _) hl0 _) hl0 _) hl0 _)
set_option maxHeartbeats 4000000 in
set_option maxRecDepth 100000 in
theorem Take_close_any {fin mk : Bool} {key : Int} (l d : List Int) (code : Int) (hcl : ClosesTo l d code) (g : Nat) (v u : Value) (busy text : Bool) (A : Option Addr) (c : Nat) (w : World) (hv : v.oneCell' = true) (hG : IsG w g v busy text u false) (hC : Kd.C (Kd.int .u8) w A l.length l) (hc : l.length ≤ c) : Calls Tryd.prog 23 #[.pointer (some ⟨g, 0, none⟩), .agg #[.bool fin, .int .u8 8, .bool mk, .int .u32 key, .slice A l.length c]] w fun e w' => ∃ vn, e = .returned (.tuple #[.agg #[.int .u8 4, .bool false, vn, .int .u32 code], .bool true]) ∧ Kd.R (Kd.int .u8) 5 w' w.heap.size (fun _ => True) vn d ∧ IsG w' g (.slice none 0 0) busy text u true ∧ KeepBut w w' g none ∧ (∀ w0 : World, w0.heap.size ≤ g → Below w0.heap.size w0 w → Below w0.heap.size w0 w') := by
 have hu30 := Tryd.underlying35
 have hu26 := Tryd.underlying52
 have hgl : g < w.heap.size := blk_lt hG
 have HG := Aside0.mk hG
 have HC := Aside0.mk hC
 clear hG hC
 go_enter Tryd.func23, Tryd.ntmps23
 go_wp2_with fail
 refine (over_any g v u busy text false _ (show IsG _ g v busy text u false from blk_alloc (blk_alloc HG.out _) _)).mono ?_
 rintro e w1 ⟨rfl, hw1⟩
 have hres : w1.heap[w.heap.size + 1]? = some (.cells #[.int .u8 0, .bool false, .slice none 0 0, .int .u32 0] 35 (0, 0)) := by rw [hw1]; exact last_at _ _ _ (by simp)
 have hbox : w1.heap[w.heap.size]? = some (.cells #[.bool fin, .int .u8 8, .bool mk, .int .u32 key, .slice A l.length c] 52 (0, 0)) := by rw [hw1]; exact blk_alloc (last_at _ _ _ rfl) _
 have hB1 : Below w.heap.size w w1 := by rw [hw1]; exact below_alloc (below_alloc (Below.refl _ _) _) _
 have hG1 : IsG w1 g v busy text u false := by rw [hw1]; exact blk_alloc (blk_alloc HG.out _) _
 clear hw1
 have bc0 : w1.cell? ⟨w.heap.size, 0, none⟩ = some (.bool fin) := (blk_cell hbox 0).trans rfl
 have bf0 := blk_frozen hbox 0
 have bc1 : w1.cell? ⟨w.heap.size, 1, none⟩ = some (.int .u8 8) := (blk_cell hbox 1).trans rfl
 have bf1 := blk_frozen hbox 1
 have bc2 : w1.cell? ⟨w.heap.size, 2, none⟩ = some (.bool mk) := (blk_cell hbox 2).trans rfl
 have bf2 := blk_frozen hbox 2
 have bc3 : w1.cell? ⟨w.heap.size, 3, none⟩ = some (.int .u32 key) := (blk_cell hbox 3).trans rfl
 have bf3 := blk_frozen hbox 3
 have bc4 : w1.cell? ⟨w.heap.size, 4, none⟩ = some (.slice A l.length c) := (blk_cell hbox 4).trans rfl
 have bf4 := blk_frozen hbox 4
 have bl : w.heap.size < w1.heap.size := blk_lt hbox
 have HB1 := Aside0.mk hB1
 have HR1 := Aside0.mk hres
 have HG1 := Aside0.mk hG1
 have hl1 : w.heap.size + 1 < w1.heap.size := blk_lt hres
 clear hB1 hres hG1 hbox
 go_wp2_with fail
 refine (take_close_any l d code hcl g v u busy text A c _ HG1.out (Kd.C_below HC.out HB1.out) hc).mono ?_
 rintro e w2 ⟨vn, rfl, ho, hG2, hk, hB0⟩
 have hr2 : w2.heap[w.heap.size + 1]? = some (.cells #[.int .u8 0, .bool false, .slice none 0 0, .int .u32 0] 35 (0, 0)) := hk.blk HR1.out (by omega) (by simp)
 have hl2 : w1.heap.size ≤ w2.heap.size := hk.1
 have ho2 := Kd.R_types (Kd.R_types (Kd.R_lower ho HB1.out.size) hG2 (by intro q hq; simp [Kd.int, Kd.scalar] at hq; omega)) hr2 (by intro q hq; simp [Kd.int, Kd.scalar] at hq; omega)
 obtain ⟨Av, cv, rfl⟩ := Kd.R_slice ho2
 have HO := Aside0.mk ho2
 have HG2 := Aside0.mk hG2
 have HR2 := Aside0.mk hr2
 have HKB := Aside0.mk ((KeepBut.of_below HB1.out g none).trans hk (.inl rfl))
 have HB0 := Aside0.mk (fun (w0 : World) (h0 : w0.heap.size ≤ g) (hw : Below w0.heap.size w0 w) => hB0 w0 h0 (below_step hw HB1.out))
 have gc0 : w2.cell? ⟨g, 0, none⟩ = some v := (blk_cell hG2 0).trans rfl
 have gf0 := blk_frozen hG2 0
 have gc4 : w2.cell? ⟨g, 4, none⟩ = some (.bool true) := (blk_cell hG2 4).trans rfl
 have gl := blk_lt hG2
 have rc0 : w2.cell? ⟨w.heap.size + 1, 0, none⟩ = some (.int .u8 0) := (blk_cell hr2 0).trans rfl
 have rf0 := blk_frozen hr2 0
 have rc1 : w2.cell? ⟨w.heap.size + 1, 1, none⟩ = some (.bool false) := (blk_cell hr2 1).trans rfl
 have rf1 := blk_frozen hr2 1
 have rc2 : w2.cell? ⟨w.heap.size + 1, 2, none⟩ = some (.slice none 0 0) := (blk_cell hr2 2).trans rfl
 have rf2 := blk_frozen hr2 2
 have rc3 : w2.cell? ⟨w.heap.size + 1, 3, none⟩ = some (.int .u32 0) := (blk_cell hr2 3).trans rfl
 have rf3 := blk_frozen hr2 3
 have rl : w.heap.size + 1 < w2.heap.size := blk_lt hr2
 clear ho ho2 hG2 hr2 hk hB0 bc0 bc1 bc2 bc3 bc4 bf0 bf1 bf2 bf3 bf4 bl
 go_wp2_with fail
 have hne : g ≠ w.heap.size + 1 := by omega
 have hR := Kd.R_alloc (Kd.R_far (Kd.R_far (Kd.R_far (Kd.R_far (Kd.R_far HO.out (p := ⟨g, 0, none⟩) (fun k hk => hk.1.2) (.slice none 0 0)) (p := ⟨w.heap.size + 1, 0, none⟩) (fun k hk => hk.2) (.int .u8 4)) (p := ⟨w.heap.size + 1, 1, none⟩) (fun k hk => hk.2) (.bool false)) (p := ⟨w.heap.size + 1, 2, none⟩) (fun k hk => hk.2) (.slice Av d.length cv)) (p := ⟨w.heap.size + 1, 3, none⟩) (fun k hk => hk.2) (.int .u32 code)) (.cells #[.int .u8 4, .bool false, .slice Av d.length cv, .int .u32 code] 35)
 have hR2 := Kd.R_mono hR (ok' := fun _ => True) (fun _ _ => trivial)
 have hGa : IsG (w2.setCell ⟨g, 0, none⟩ (.slice none 0 0)) g (.slice none 0 0) busy text u true := blk_put HG2.out 0 (.slice none 0 0) rfl
 have hG3 := IsG.far (IsG.far (IsG.far (IsG.far hGa (p := ⟨w.heap.size + 1, 0, none⟩) (x := .int .u8 4) hne) (p := ⟨w.heap.size + 1, 1, none⟩) (x := .bool false) hne) (p := ⟨w.heap.size + 1, 2, none⟩) (x := .slice Av d.length cv) hne) (p := ⟨w.heap.size + 1, 3, none⟩) (x := .int .u32 code) hne
 refine bodyPost_ret (v := .tuple #[.agg #[.int .u8 4, .bool false, .slice Av d.length cv, .int .u32 code], .bool true]) (by simp [results, Tryd.results23, go_sem, rc0, rc1, rc2, rc3, rl]) rfl ⟨_, rfl, hR2, blk_alloc hG3 _, keep_alloc (keep_far (keep_far (keep_far (keep_far (HKB.out.set_ 0 (.slice none 0 0)) (p := ⟨w.heap.size + 1, 0, none⟩) (Nat.le_succ _) _) (p := ⟨w.heap.size + 1, 1, none⟩) (Nat.le_succ _) _) (p := ⟨w.heap.size + 1, 2, none⟩) (Nat.le_succ _) _) (p := ⟨w.heap.size + 1, 3, none⟩) (Nat.le_succ _) _) _, fun w0 h0 hw => ?_⟩
 have hl0 : w0.heap.size ≤ w.heap.size + 1 := by have := hw.size; omega
 exact below_alloc (Below.setCell (Below.setCell (Below.setCell (Below.setCell (Below.setCell (HB0.out w0 h0 hw) h0 _) hl0 _) hl0 _) hl0 _) hl0 _) _
end Go.Proofs.YtpmeapdcjmaeiaaDoor
namespace Go.Proofs.YtpmeapdcjmaeiaaDoor
open Go.RowKit Go.Proofs.YtpmeapdcjmaeiaaDoorW.PrintWords Go.Proofs.YtpmeapdcjmaeiaaDoorW.PrintLast Go.Proofs.YtpmeapdcjmaeiaaDoorW.PrintMore Go.Proofs.YtpmeapdcjmaeiaaDoor.PAll Go.Proofs.YtpmeapdcjmaeiaaDoor.U
theorem wrap_u32p {x : Int} (h0 : 0 ≤ x) (h1 : x ≤ 4294967295) : IntKind.u32.wrap x = x := by
 have : IntKind.u32.wrap x = x % 4294967296 := by simp [IntKind.wrap, IntKind.bits, IntKind.signed]
 rw [this]; omega
theorem nat_orp (s b : Nat) (hb : b < 256) : s * 256 ||| b = s * 256 + b := by
 have := Nat.two_pow_add_eq_or_of_lt (show b < 2 ^ 8 from hb) s
 rw [show (2 : Nat) ^ 8 = 256 from rfl, Nat.mul_comm] at this
 exact this.symm
theorem or_byte32p {s b : Int} (h0 : 0 ≤ s) (h1 : s < 16777216) (hb : 0 ≤ b ∧ b ≤ 255) : Go.bits .or .u32 (s * 256) b = s * 256 + b := by
 obtain ⟨n, rfl⟩ : ∃ n : Nat, s = (n : Int) := ⟨s.toNat, by omega⟩
 obtain ⟨m, rfl⟩ : ∃ m : Nat, b = (m : Int) := ⟨b.toNat, by omega⟩
 have e1 : (BitVec.ofInt 32 ((n : Int) * 256)).toNat = n * 256 := by
  rw [show ((n : Int) * 256) = ((n * 256 : Nat) : Int) by omega, BitVec.ofInt_natCast, BitVec.toNat_ofNat]; exact Nat.mod_eq_of_lt (by omega)
 have e2 : (BitVec.ofInt 32 (m : Int)).toNat = m := by
  rw [BitVec.ofInt_natCast, BitVec.toNat_ofNat]; exact Nat.mod_eq_of_lt (by omega)
 show IntKind.u32.wrap ((BitVec.ofInt 32 ((n : Int) * 256) ||| BitVec.ofInt 32 (m : Int)).toNat : Int) = _
 rw [BitVec.toNat_or, e1, e2, nat_orp n m (by omega), wrap_u32p (by omega) (by omega)]
 omega
theorem close_to (d : List Int) (hd : ∀ x ∈ d, 0 ≤ x ∧ x ≤ 255) (hl : d.length ≤ 1000000000) : ((closeM d).1 = 4 ∧ ClosesTo d (closeM d).2.1 (closeM d).2.2) ∨ ((closeM d).1 = 5 ∧ (closeM d).2.1 = [] ∧ ClosesBad d (closeM d).2.2) := by
 match d, hd, hl with
 | [], _, _ => exact .inl ⟨rfl, closes_none⟩
 | [x], _, _ => exact .inr ⟨rfl, rfl, closes_bad_one x⟩
 | a :: b :: r, hd, hl =>
  have ha := hd a (by simp)
  have hb := hd b (by simp)
  have hrl : r.length ≤ 999999998 := by simp at hl; omega
  have hcode : Go.bits .or .u32 (a * 256) b = 256 * a + b := by rw [or_byte32p ha.1 (by omega) hb]; omega
  have hv := valid_f r (by omega) (r.length + 5) (by omega)
  cases ht : toldB (256 * a + b) with
  | false =>
   have hc : closeM (a :: b :: r) = (5, [], 1002) := by show (if toldB (256 * a + b) = true then _ else _) = _; rw [ht]; rfl
   rw [hc]
   exact .inr ⟨rfl, rfl, closes_bad_code a b r _ ha.1 ha.2 hb.1 hb.2 hcode ht (by omega)⟩
  | true =>
   cases hw : validC r with
   | false =>
    have hc : closeM (a :: b :: r) = (5, [], 1007) := by show (if toldB (256 * a + b) = true then (if validC r = true then _ else _) else _) = _; rw [ht, hw]; rfl
    rw [hc]
    exact .inr ⟨rfl, rfl, closes_bad_text a b r _ _ ha.1 ha.2 hb.1 hb.2 hcode ht (hw ▸ hv) (by omega)⟩
   | true =>
    have hc : closeM (a :: b :: r) = (4, r, 256 * a + b) := by show (if toldB (256 * a + b) = true then (if validC r = true then _ else _) else _) = _; rw [ht, hw]; rfl
    rw [hc]
    exact .inl ⟨rfl, closes_ok a b r _ _ ha.1 ha.2 hb.1 hb.2 hcode ht (hw ▸ hv) (by omega)⟩
end Go.Proofs.YtpmeapdcjmaeiaaDoor
namespace Go.Proofs.YtpmeapdcjmaeiaaDoor
open Go.RowKit Go.Proofs.YtpmeapdcjmaeiaaDoorW.PrintWords Go.Proofs.YtpmeapdcjmaeiaaDoorW.PrintLast Go.Proofs.YtpmeapdcjmaeiaaDoorW.PrintMore Go.Proofs.YtpmeapdcjmaeiaaDoor.PAll Go.Proofs.YtpmeapdcjmaeiaaDoor.U
theorem Rd.drew {B : Nat} {w : World} {A : Option Addr} {d : List Int} (h : Rd B w A d) : Rd B w.drew A d := h
end Go.Proofs.YtpmeapdcjmaeiaaDoor
namespace Go.Proofs.YtpmeapdcjmaeiaaDoor
open Go.RowKit Go.Proofs.YtpmeapdcjmaeiaaDoorW.PrintWords Go.Proofs.YtpmeapdcjmaeiaaDoorW.PrintLast Go.Proofs.YtpmeapdcjmaeiaaDoorW.PrintMore Go.Proofs.YtpmeapdcjmaeiaaDoor.PAll Go.Proofs.YtpmeapdcjmaeiaaDoor.U
def TkNote (w0 : World) (g : Nat) (v u : Value) (b : List Int) (busy text : Bool) (gu : Nat) (f : List Int) (k : Int) (d : List Int) (w : World) (e : Ending) (w' : World) : Prop := ∃ vn, e = .returned (.tuple #[.agg #[.int .u8 k, .bool false, vn, .int .u32 0], .bool true, .nilIface]) ∧ Gs w0 w' g v u b busy text false gu f ∧ Kd.R (Kd.int .u8) 5 w' w.heap.size (fun _ => True) vn d ∧ Fr w w' g v u
def TMore (w0 : World) (g : Nat) (v u : Value) (b : List Int) (tn : Bool) (w : World) (e : Ending) (w' : World) : Prop := e = .returned (.tuple #[.agg #[.int .u8 0, .bool false, .slice none 0 0, .int .u32 0], .bool false]) ∧ ∃ v' u' gu', Gs w0 w' g v' u' b true tn false gu' (if tn = true then b else []) ∧ Fr w w' g v u ∧ Nw w v v' u u'
def TTold (w0 : World) (g : Nat) (v u : Value) (b : List Int) (tn : Bool) (w : World) (e : Ending) (w' : World) : Prop := ∃ vn u', e = .returned (.tuple #[.agg #[.int .u8 1, .bool tn, vn, .int .u32 0], .bool true]) ∧ Gw w0 w' g (.slice none 0 0) u' [] false tn false ∧ Kd.R (Kd.int .u8) 5 w' w0.heap.size (fun _ => True) vn b ∧ Fr w w' g v u ∧ Nw w v vn u u'
def TNote (w0 : World) (g : Nat) (v u : Value) (b : List Int) (busy text : Bool) (gu : Nat) (f : List Int) (k : Int) (d : List Int) (w : World) (e : Ending) (w' : World) : Prop := ∃ vn, e = .returned (.tuple #[.agg #[.int .u8 k, .bool false, vn, .int .u32 0], .bool true]) ∧ Gs w0 w' g v u b busy text false gu f ∧ Kd.R (Kd.int .u8) 5 w' w.heap.size (fun _ => True) vn d ∧ Fr w w' g v u
def TBad (w0 : World) (g : Nat) (v u : Value) (code : Int) (w : World) (e : Ending) (w' : World) : Prop := e = .returned (.tuple #[.agg #[.int .u8 5, .bool false, .slice none 0 0, .int .u32 code], .bool true]) ∧ ∃ u' te, Gw w0 w' g (.slice none 0 0) u' [] false te true ∧ Fr w w' g v u
set_option maxHeartbeats 8000000 in
set_option maxRecDepth 100000 in
theorem take_ping {w0 w : World} {g : Nat} {v u : Value} {b : List Int} {busy text : Bool} {gu : Nat} {f : List Int} {fin : Bool} {mk : Bool} {key : Int} {A : Option Addr} {c : Nat} {d : List Int} (h : Gs w0 w g v u b busy text false gu f) (hd : Dat w (.slice A d.length c) d) (hdl : d.length ≤ 1000000000) : Calls Tryd.prog 39 #[.pointer (some ⟨g, 0, none⟩), .agg #[.bool fin, .int .u8 9, .bool mk, .int .u32 key, .slice A d.length c]] w (TkNote w0 g v u b busy text gu f 2 d w) := by
 have HDL := Aside0.mk hdl
 clear hdl
 have HU0 := Aside0.mk h.gw.ulow
 have HLO := Aside0.mk h.gw.bel.size
 have hgl := blk_lt h.gw.blk
 have hw1 : Below w.heap.size w ((w.alloc (.cells #[.bool fin, .int .u8 9, .bool mk, .int .u32 key, .slice A d.length c] 52)).alloc (.cells #[.int .u8 0, .bool false, .slice none 0 0, .int .u32 0] 35)) := below_alloc (below_alloc (Below.refl _ _) _) _
 have hg1 := h.below hw1
 have hd1 := hd.below hw1
 have hr1 : ((w.alloc (.cells #[.bool fin, .int .u8 9, .bool mk, .int .u32 key, .slice A d.length c] 52)).alloc (.cells #[.int .u8 0, .bool false, .slice none 0 0, .int .u32 0] 35)).heap[w.heap.size + 1]? = some (.cells #[.int .u8 0, .bool false, .slice none 0 0, .int .u32 0] 35 (0, 0)) := last_at _ _ _ (by simp)
 have hp1 : ((w.alloc (.cells #[.bool fin, .int .u8 9, .bool mk, .int .u32 key, .slice A d.length c] 52)).alloc (.cells #[.int .u8 0, .bool false, .slice none 0 0, .int .u32 0] 35)).heap[w.heap.size]? = some (.cells #[.bool fin, .int .u8 9, .bool mk, .int .u32 key, .slice A d.length c] 52 (0, 0)) := blk_alloc (last_at _ _ _ rfl) _
 have hf1 := (Fr.refl w g v u).below hw1
 have hu30 := Tryd.underlying35
 have hu26 := Tryd.underlying52
 have HW1 := Aside0.mk hw1
 clear h hd hw1
 go_enter Tryd.func39, Tryd.ntmps39
 go_upto_region 1 with fail
 generalize (w.alloc (.cells #[.bool fin, .int .u8 9, .bool mk, .int .u32 key, .slice A d.length c] 52)).alloc (.cells #[.int .u8 0, .bool false, .slice none 0 0, .int .u32 0] 35) = w1 at hg1 hd1 hr1 hp1 hf1 HW1 ⊢
 have HG1 := Aside0.mk hg1
 have HD1 := Aside0.mk hd1
 have HR1 := Aside0.mk hr1
 have HF1 := Aside0.mk hf1
 have pc0 : w1.cell? ⟨w.heap.size, 0, none⟩ = some (.bool fin) := (blk_cell hp1 0).trans rfl
 have pc1 : w1.cell? ⟨w.heap.size, 1, none⟩ = some (.int .u8 9) := (blk_cell hp1 1).trans rfl
 have pc2 : w1.cell? ⟨w.heap.size, 2, none⟩ = some (.bool mk) := (blk_cell hp1 2).trans rfl
 have pc3 : w1.cell? ⟨w.heap.size, 3, none⟩ = some (.int .u32 key) := (blk_cell hp1 3).trans rfl
 have pc4 : w1.cell? ⟨w.heap.size, 4, none⟩ = some (.slice A d.length c) := (blk_cell hp1 4).trans rfl
 have pl_ := blk_lt hp1
 clear hg1 hd1 hr1 hp1 hf1
 go_wp2_with fail
 refine (bytes_Clone.calls A c d d _ (Dat.C HD1.out) (Dat.le HD1.out) (by unfold bytes_Clone.f; rw [if_pos (by have := HDL.out; omega)])).mono ?_
 rintro e w2 ⟨vn, rfl, ho, hb⟩
 obtain ⟨Av, cv, rfl⟩ := Kd.R_slice ho
 have hr2 := blk_below HR1.out hb
 have HG2 := Aside0.mk (HG1.out.below hb)
 have HF2 := Aside0.mk (HF1.out.below hb)
 have HR2 := Aside0.mk hr2
 have HO2 := Aside0.mk (Kd.R_lower ho HW1.out.size)
 have rc0 : w2.cell? ⟨w.heap.size + 1, 0, none⟩ = some (.int .u8 0) := (blk_cell hr2 0).trans rfl
 have rf0 := blk_frozen hr2 0
 have rc1 : w2.cell? ⟨w.heap.size + 1, 1, none⟩ = some (.bool false) := (blk_cell hr2 1).trans rfl
 have rf1 := blk_frozen hr2 1
 have rc2 : w2.cell? ⟨w.heap.size + 1, 2, none⟩ = some (.slice none 0 0) := (blk_cell hr2 2).trans rfl
 have rf2 := blk_frozen hr2 2
 have rc3 : w2.cell? ⟨w.heap.size + 1, 3, none⟩ = some (.int .u32 0) := (blk_cell hr2 3).trans rfl
 have rf3 := blk_frozen hr2 3
 have rl := blk_lt hr2
 clear ho hb hr2 HG1 HF1 HR1 HD1 pc0 pc1 pc2 pc3 pc4 pl_
 have hle : w0.heap.size ≤ w.heap.size + 1 := Nat.le_succ_of_le HLO.out
 go_wp2_with fail
 exact bodyPost_ret (v := .tuple #[.agg #[.int .u8 2, .bool false, .slice Av d.length cv, .int .u32 0], .bool true, .nilIface]) (by simp [results, Tryd.results39, go_sem, rc0, rc1, rc2, rc3]) rfl ⟨_, rfl, HG2.out.off4 HR2.out hle _ _ _ _, row_off4 HO2.out HR2.out _ _ _ _, HF2.out.off4 (Nat.le_succ _) _ _ _ _⟩
set_option maxHeartbeats 8000000 in
set_option maxRecDepth 100000 in
theorem take_pong {w0 w : World} {g : Nat} {v u : Value} {b : List Int} {busy text : Bool} {gu : Nat} {f : List Int} {fin : Bool} {mk : Bool} {key : Int} {A : Option Addr} {c : Nat} {d : List Int} (h : Gs w0 w g v u b busy text false gu f) (hd : Dat w (.slice A d.length c) d) (hdl : d.length ≤ 1000000000) : Calls Tryd.prog 39 #[.pointer (some ⟨g, 0, none⟩), .agg #[.bool fin, .int .u8 10, .bool mk, .int .u32 key, .slice A d.length c]] w (TkNote w0 g v u b busy text gu f 3 d w) := by
 have HDL := Aside0.mk hdl
 clear hdl
 have HU0 := Aside0.mk h.gw.ulow
 have HLO := Aside0.mk h.gw.bel.size
 have hgl := blk_lt h.gw.blk
 have hw1 : Below w.heap.size w ((w.alloc (.cells #[.bool fin, .int .u8 10, .bool mk, .int .u32 key, .slice A d.length c] 52)).alloc (.cells #[.int .u8 0, .bool false, .slice none 0 0, .int .u32 0] 35)) := below_alloc (below_alloc (Below.refl _ _) _) _
 have hg1 := h.below hw1
 have hd1 := hd.below hw1
 have hr1 : ((w.alloc (.cells #[.bool fin, .int .u8 10, .bool mk, .int .u32 key, .slice A d.length c] 52)).alloc (.cells #[.int .u8 0, .bool false, .slice none 0 0, .int .u32 0] 35)).heap[w.heap.size + 1]? = some (.cells #[.int .u8 0, .bool false, .slice none 0 0, .int .u32 0] 35 (0, 0)) := last_at _ _ _ (by simp)
 have hp1 : ((w.alloc (.cells #[.bool fin, .int .u8 10, .bool mk, .int .u32 key, .slice A d.length c] 52)).alloc (.cells #[.int .u8 0, .bool false, .slice none 0 0, .int .u32 0] 35)).heap[w.heap.size]? = some (.cells #[.bool fin, .int .u8 10, .bool mk, .int .u32 key, .slice A d.length c] 52 (0, 0)) := blk_alloc (last_at _ _ _ rfl) _
 have hf1 := (Fr.refl w g v u).below hw1
 have hu30 := Tryd.underlying35
 have hu26 := Tryd.underlying52
 have HW1 := Aside0.mk hw1
 clear h hd hw1
 go_enter Tryd.func39, Tryd.ntmps39
 go_upto_region 1 with fail
 generalize (w.alloc (.cells #[.bool fin, .int .u8 10, .bool mk, .int .u32 key, .slice A d.length c] 52)).alloc (.cells #[.int .u8 0, .bool false, .slice none 0 0, .int .u32 0] 35) = w1 at hg1 hd1 hr1 hp1 hf1 HW1 ⊢
 have HG1 := Aside0.mk hg1
 have HD1 := Aside0.mk hd1
 have HR1 := Aside0.mk hr1
 have HF1 := Aside0.mk hf1
 have pc0 : w1.cell? ⟨w.heap.size, 0, none⟩ = some (.bool fin) := (blk_cell hp1 0).trans rfl
 have pc1 : w1.cell? ⟨w.heap.size, 1, none⟩ = some (.int .u8 10) := (blk_cell hp1 1).trans rfl
 have pc2 : w1.cell? ⟨w.heap.size, 2, none⟩ = some (.bool mk) := (blk_cell hp1 2).trans rfl
 have pc3 : w1.cell? ⟨w.heap.size, 3, none⟩ = some (.int .u32 key) := (blk_cell hp1 3).trans rfl
 have pc4 : w1.cell? ⟨w.heap.size, 4, none⟩ = some (.slice A d.length c) := (blk_cell hp1 4).trans rfl
 have pl_ := blk_lt hp1
 clear hg1 hd1 hr1 hp1 hf1
 go_wp2_with fail
 refine (bytes_Clone.calls A c d d _ (Dat.C HD1.out) (Dat.le HD1.out) (by unfold bytes_Clone.f; rw [if_pos (by have := HDL.out; omega)])).mono ?_
 rintro e w2 ⟨vn, rfl, ho, hb⟩
 obtain ⟨Av, cv, rfl⟩ := Kd.R_slice ho
 have hr2 := blk_below HR1.out hb
 have HG2 := Aside0.mk (HG1.out.below hb)
 have HF2 := Aside0.mk (HF1.out.below hb)
 have HR2 := Aside0.mk hr2
 have HO2 := Aside0.mk (Kd.R_lower ho HW1.out.size)
 have rc0 : w2.cell? ⟨w.heap.size + 1, 0, none⟩ = some (.int .u8 0) := (blk_cell hr2 0).trans rfl
 have rf0 := blk_frozen hr2 0
 have rc1 : w2.cell? ⟨w.heap.size + 1, 1, none⟩ = some (.bool false) := (blk_cell hr2 1).trans rfl
 have rf1 := blk_frozen hr2 1
 have rc2 : w2.cell? ⟨w.heap.size + 1, 2, none⟩ = some (.slice none 0 0) := (blk_cell hr2 2).trans rfl
 have rf2 := blk_frozen hr2 2
 have rc3 : w2.cell? ⟨w.heap.size + 1, 3, none⟩ = some (.int .u32 0) := (blk_cell hr2 3).trans rfl
 have rf3 := blk_frozen hr2 3
 have rl := blk_lt hr2
 clear ho hb hr2 HG1 HF1 HR1 HD1 pc0 pc1 pc2 pc3 pc4 pl_
 have hle : w0.heap.size ≤ w.heap.size + 1 := Nat.le_succ_of_le HLO.out
 go_wp2_with fail
 exact bodyPost_ret (v := .tuple #[.agg #[.int .u8 3, .bool false, .slice Av d.length cv, .int .u32 0], .bool true, .nilIface]) (by simp [results, Tryd.results39, go_sem, rc0, rc1, rc2, rc3]) rfl ⟨_, rfl, HG2.out.off4 HR2.out hle _ _ _ _, row_off4 HO2.out HR2.out _ _ _ _, HF2.out.off4 (Nat.le_succ _) _ _ _ _⟩
set_option maxHeartbeats 8000000 in
set_option maxRecDepth 100000 in
theorem take_other {w0 w : World} {g : Nat} {v u : Value} {b : List Int} {busy text : Bool} {gu : Nat} {f : List Int} {fin : Bool} {op : Int} {mk : Bool} {key : Int} {A : Option Addr} {c : Nat} {d : List Int} (h : Gs w0 w g v u b busy text false gu f) (hd : Dat w (.slice A d.length c) d) (hop : op ≠ 0 ∧ op ≠ 1 ∧ op ≠ 2 ∧ op ≠ 8 ∧ op ≠ 9 ∧ op ≠ 10) : Calls Tryd.prog 39 #[.pointer (some ⟨g, 0, none⟩), .agg #[.bool fin, .int .u8 op, .bool mk, .int .u32 key, .slice A d.length c]] w (TkBad w0 g v u 1002 w) := by
 have k0 : (op == 0) = false := beq_eq_false_iff_ne.mpr (by omega)
 have k1 : (op == 1) = false := beq_eq_false_iff_ne.mpr (by omega)
 have k2 : (op == 2) = false := beq_eq_false_iff_ne.mpr (by omega)
 have k8 : (op == 8) = false := beq_eq_false_iff_ne.mpr (by omega)
 have k9 : (op == 9) = false := beq_eq_false_iff_ne.mpr (by omega)
 have k10 : (op == 10) = false := beq_eq_false_iff_ne.mpr (by omega)
 clear hop
 have HU0 := Aside0.mk h.gw.ulow
 have HLO := Aside0.mk h.gw.bel.size
 have hgl := blk_lt h.gw.blk
 have hw1 : Below w.heap.size w ((w.alloc (.cells #[.bool fin, .int .u8 op, .bool mk, .int .u32 key, .slice A d.length c] 52)).alloc (.cells #[.int .u8 0, .bool false, .slice none 0 0, .int .u32 0] 35)) := below_alloc (below_alloc (Below.refl _ _) _) _
 have hg1 := h.below hw1
 have hd1 := hd.below hw1
 have hr1 : ((w.alloc (.cells #[.bool fin, .int .u8 op, .bool mk, .int .u32 key, .slice A d.length c] 52)).alloc (.cells #[.int .u8 0, .bool false, .slice none 0 0, .int .u32 0] 35)).heap[w.heap.size + 1]? = some (.cells #[.int .u8 0, .bool false, .slice none 0 0, .int .u32 0] 35 (0, 0)) := last_at _ _ _ (by simp)
 have hp1 : ((w.alloc (.cells #[.bool fin, .int .u8 op, .bool mk, .int .u32 key, .slice A d.length c] 52)).alloc (.cells #[.int .u8 0, .bool false, .slice none 0 0, .int .u32 0] 35)).heap[w.heap.size]? = some (.cells #[.bool fin, .int .u8 op, .bool mk, .int .u32 key, .slice A d.length c] 52 (0, 0)) := blk_alloc (last_at _ _ _ rfl) _
 have hf1 := (Fr.refl w g v u).below hw1
 have hu30 := Tryd.underlying35
 have hu26 := Tryd.underlying52
 have HW1 := Aside0.mk hw1
 clear h hd hw1
 go_enter Tryd.func39, Tryd.ntmps39
 go_upto_region 1 with fail
 generalize (w.alloc (.cells #[.bool fin, .int .u8 op, .bool mk, .int .u32 key, .slice A d.length c] 52)).alloc (.cells #[.int .u8 0, .bool false, .slice none 0 0, .int .u32 0] 35) = w1 at hg1 hd1 hr1 hp1 hf1 HW1 ⊢
 have HG1 := Aside0.mk hg1
 have HD1 := Aside0.mk hd1
 have HR1 := Aside0.mk hr1
 have HF1 := Aside0.mk hf1
 have pc0 : w1.cell? ⟨w.heap.size, 0, none⟩ = some (.bool fin) := (blk_cell hp1 0).trans rfl
 have pc1 : w1.cell? ⟨w.heap.size, 1, none⟩ = some (.int .u8 op) := (blk_cell hp1 1).trans rfl
 have pc2 : w1.cell? ⟨w.heap.size, 2, none⟩ = some (.bool mk) := (blk_cell hp1 2).trans rfl
 have pc3 : w1.cell? ⟨w.heap.size, 3, none⟩ = some (.int .u32 key) := (blk_cell hp1 3).trans rfl
 have pc4 : w1.cell? ⟨w.heap.size, 4, none⟩ = some (.slice A d.length c) := (blk_cell hp1 4).trans rfl
 have pl_ := blk_lt hp1
 clear hg1 hd1 hr1 hp1 hf1
 go_wp2_with fail
 refine (socket_any 1002 _).mono ?_
 rintro e w3 ⟨v3, rfl, hbad, hb3⟩
 obtain ⟨q3, rfl, hq3⟩ := hbad
 have hbad : IsBad w3 _ 1002 := ⟨q3, rfl, hq3⟩
 have hr3 := blk_below HR1.out hb3
 have HG3 := Aside0.mk (HG1.out.below hb3)
 have HF3 := Aside0.mk (HF1.out.below hb3)
 have HW3 := Aside0.mk hbad
 have HR3 := Aside0.mk hr3
 clear hbad hq3 hb3 HG1 HF1 HR1 HD1 pc0 pc1 pc2 pc3 pc4 pl_
 have rc0 : w3.cell? ⟨w.heap.size + 1, 0, none⟩ = some (.int .u8 0) := (blk_cell HR3.out 0).trans rfl
 have rf0 := blk_frozen HR3.out 0
 have rc1 : w3.cell? ⟨w.heap.size + 1, 1, none⟩ = some (.bool false) := (blk_cell HR3.out 1).trans rfl
 have rf1 := blk_frozen HR3.out 1
 have rc2 : w3.cell? ⟨w.heap.size + 1, 2, none⟩ = some (.slice none 0 0) := (blk_cell HR3.out 2).trans rfl
 have rf2 := blk_frozen HR3.out 2
 have rc3 : w3.cell? ⟨w.heap.size + 1, 3, none⟩ = some (.int .u32 0) := (blk_cell HR3.out 3).trans rfl
 have rf3 := blk_frozen HR3.out 3
 have rl := blk_lt HR3.out
 clear hr3
 have hle : w0.heap.size ≤ w.heap.size + 1 := Nat.le_succ_of_le HLO.out
 go_wp2_with fail
 exact bodyPost_ret (v := .tuple #[.agg #[.int .u8 0, .bool false, .slice none 0 0, .int .u32 0], .bool false, .iface _ _]) (by simp [results, Tryd.results39, go_sem, rc0, rc1, rc2, rc3]) rfl ⟨_, _, _, _, _, _, _, _, rfl, .inr (bad_off4 HW3.out HR3.out _ _ _ _), (HG3.out.off4 HR3.out hle _ _ _ _).gw, HF3.out.off4 (Nat.le_succ _) _ _ _ _⟩
set_option maxHeartbeats 8000000 in
set_option maxRecDepth 100000 in
theorem Take_more {w0 w : World} {g : Nat} {v u : Value} {b : List Int} {busy text : Bool} {gu : Nat} {f : List Int} {fin : Bool} {op : Int} {mk : Bool} {key : Int} {A : Option Addr} {c : Nat} {d : List Int} (h : Gs w0 w g v u b busy text false gu f) (hd : Dat w (.slice A d.length c) d) {b2 : List Int} {tn : Bool} (hT : ∀ W, Below w.heap.size w W → Gs w0 W g v u b busy text false gu f → Dat W (.slice A d.length c) d → Calls Tryd.prog 39 #[.pointer (some ⟨g, 0, none⟩), .agg #[.bool fin, .int .u8 op, .bool mk, .int .u32 key, .slice A d.length c]] W (TkMore w0 g v u b2 tn W)) : Calls Tryd.prog 23 #[.pointer (some ⟨g, 0, none⟩), .agg #[.bool fin, .int .u8 op, .bool mk, .int .u32 key, .slice A d.length c]] w (TMore w0 g v u b2 tn w) := by
 have HT := Aside0.mk hT
 clear hT
 have HU0 := Aside0.mk h.gw.ulow
 have HLO := Aside0.mk h.gw.bel.size
 have hgl := blk_lt h.gw.blk
 have hw1 : Below w.heap.size w ((w.alloc (.cells #[.bool fin, .int .u8 op, .bool mk, .int .u32 key, .slice A d.length c] 52)).alloc (.cells #[.int .u8 0, .bool false, .slice none 0 0, .int .u32 0] 35)) := below_alloc (below_alloc (Below.refl _ _) _) _
 have hg1 := h.below hw1
 have hd1 := hd.below hw1
 have hr1 : ((w.alloc (.cells #[.bool fin, .int .u8 op, .bool mk, .int .u32 key, .slice A d.length c] 52)).alloc (.cells #[.int .u8 0, .bool false, .slice none 0 0, .int .u32 0] 35)).heap[w.heap.size + 1]? = some (.cells #[.int .u8 0, .bool false, .slice none 0 0, .int .u32 0] 35 (0, 0)) := last_at _ _ _ (by simp)
 have hp1 : ((w.alloc (.cells #[.bool fin, .int .u8 op, .bool mk, .int .u32 key, .slice A d.length c] 52)).alloc (.cells #[.int .u8 0, .bool false, .slice none 0 0, .int .u32 0] 35)).heap[w.heap.size]? = some (.cells #[.bool fin, .int .u8 op, .bool mk, .int .u32 key, .slice A d.length c] 52 (0, 0)) := blk_alloc (last_at _ _ _ rfl) _
 have hf1 := (Fr.refl w g v u).below hw1
 have hu30 := Tryd.underlying35
 have hu26 := Tryd.underlying52
 have HW1 := Aside0.mk hw1
 clear h hd hw1
 go_enter Tryd.func23, Tryd.ntmps23
 go_upto_region 1 with fail
 generalize (w.alloc (.cells #[.bool fin, .int .u8 op, .bool mk, .int .u32 key, .slice A d.length c] 52)).alloc (.cells #[.int .u8 0, .bool false, .slice none 0 0, .int .u32 0] 35) = w1 at hg1 hd1 hr1 hp1 hf1 HW1 ⊢
 have HG1 := Aside0.mk hg1
 have HD1 := Aside0.mk hd1
 have HR1 := Aside0.mk hr1
 have HF1 := Aside0.mk hf1
 have pc0 : w1.cell? ⟨w.heap.size, 0, none⟩ = some (.bool fin) := (blk_cell hp1 0).trans rfl
 have pc1 : w1.cell? ⟨w.heap.size, 1, none⟩ = some (.int .u8 op) := (blk_cell hp1 1).trans rfl
 have pc2 : w1.cell? ⟨w.heap.size, 2, none⟩ = some (.bool mk) := (blk_cell hp1 2).trans rfl
 have pc3 : w1.cell? ⟨w.heap.size, 3, none⟩ = some (.int .u32 key) := (blk_cell hp1 3).trans rfl
 have pc4 : w1.cell? ⟨w.heap.size, 4, none⟩ = some (.slice A d.length c) := (blk_cell hp1 4).trans rfl
 have pl_ := blk_lt hp1
 clear hg1 hd1 hr1 hp1 hf1
 go_wp2_with fail
 refine (over_any g v u busy text false _ HG1.out.gw.blk).mono ?_
 rintro e w1' ⟨rfl, hw1'⟩
 subst hw1'
 go_wp2_with fail
 refine (HT.out w1' HW1.out HG1.out HD1.out).mono ?_
 rintro e w2 hp
 obtain ⟨rfl, v', u', gu', hG, hF, hN⟩ := hp
 have HN2 := Aside0.mk (hN.mono HF1.out.size)
 have HG2 := Aside0.mk hG
 have hr2 : w2.heap[w.heap.size + 1]? = some (.cells #[.int .u8 0, .bool false, .slice none 0 0, .int .u32 0] 35 (0, 0)) := (hF.same _ (blk_lt HR1.out) (fun e => by have := hgl; omega) (fun e => by have := Kd.R_ne HG1.out.gw.row HR1.out (by decide); exact this e) (fun e => by have := HU0.out _ e; omega)).trans HR1.out
 have hF2 : Fr w w2 g v u := ⟨Nat.le_trans HF1.out.size hF.size, fun k hk h1 h2 h3 => (hF.same k (Nat.lt_of_lt_of_le hk HF1.out.size) h1 h2 h3).trans (HF1.out.same k hk h1 h2 h3)⟩
 have HR2 := Aside0.mk hr2
 have HF2 := Aside0.mk hF2
 have hle : w0.heap.size ≤ w.heap.size + 1 := Nat.le_succ_of_le HLO.out
 clear hr2 hF2 HG1 HF1 HR1 HD1 pc0 pc1 pc2 pc3 pc4 pl_
 clear hG hF hN
 go_upto_region 4 with fail
 have hb3 : Below w2.heap.size w2 (w2.alloc (.cells #[.int .u8 0, .bool false, .slice none 0 0, .int .u32 0] 35)) := below_alloc (Below.refl _ _) _
 have hn3 : (w2.alloc (.cells #[.int .u8 0, .bool false, .slice none 0 0, .int .u32 0] 35)).heap[w2.heap.size]? = some (.cells #[.int .u8 0, .bool false, .slice none 0 0, .int .u32 0] 35 (0, 0)) := last_at _ _ _ rfl
 generalize w2.alloc (.cells #[.int .u8 0, .bool false, .slice none 0 0, .int .u32 0] 35) = w3 at hb3 hn3 ⊢
 generalize w2.heap.size = gn at hn3 ⊢
 have HR3 := Aside0.mk (blk_below HR2.out hb3)
 have HF3 := Aside0.mk (HF2.out.below hb3)
 have nc0 : w3.cell? ⟨gn, 0, none⟩ = some (.int .u8 0) := (blk_cell hn3 0).trans rfl
 have nc1 : w3.cell? ⟨gn, 1, none⟩ = some (.bool false) := (blk_cell hn3 1).trans rfl
 have nc2 : w3.cell? ⟨gn, 2, none⟩ = some (.slice none 0 0) := (blk_cell hn3 2).trans rfl
 have nc3 : w3.cell? ⟨gn, 3, none⟩ = some (.int .u32 0) := (blk_cell hn3 3).trans rfl
 have nl := blk_lt hn3
 have rc0 : w3.cell? ⟨w.heap.size + 1, 0, none⟩ = some (.int .u8 0) := (blk_cell HR3.out 0).trans rfl
 have rf0 := blk_frozen HR3.out 0
 have rc1 : w3.cell? ⟨w.heap.size + 1, 1, none⟩ = some (.bool false) := (blk_cell HR3.out 1).trans rfl
 have rf1 := blk_frozen HR3.out 1
 have rc2 : w3.cell? ⟨w.heap.size + 1, 2, none⟩ = some (.slice none 0 0) := (blk_cell HR3.out 2).trans rfl
 have rf2 := blk_frozen HR3.out 2
 have rc3 : w3.cell? ⟨w.heap.size + 1, 3, none⟩ = some (.int .u32 0) := (blk_cell HR3.out 3).trans rfl
 have rf3 := blk_frozen HR3.out 3
 have rl := blk_lt HR3.out
 have HG3 := Aside0.mk (HG2.out.below hb3)
 have go4 : w3.cell? ⟨g, 4, none⟩ = some (.bool false) := (blk_cell HG3.out.gw.blk 4).trans rfl
 clear hb3 hn3 HG2
 go_wp2_with fail
 exact bodyPost_ret (v := .tuple #[.agg #[.int .u8 0, .bool false, .slice none 0 0, .int .u32 0], .bool false]) (by simp [results, Tryd.results23, go_sem, rc0, rc1, rc2, rc3]) rfl ⟨rfl, _, _, _, HG3.out.off4 HR3.out hle _ _ _ _, HF3.out.off4 (Nat.le_succ _) _ _ _ _, HN2.out⟩
set_option maxHeartbeats 8000000 in
set_option maxRecDepth 100000 in
theorem Take_told {w0 w : World} {g : Nat} {v u : Value} {b : List Int} {busy text : Bool} {gu : Nat} {f : List Int} {fin : Bool} {op : Int} {mk : Bool} {key : Int} {A : Option Addr} {c : Nat} {d : List Int} (h : Gs w0 w g v u b busy text false gu f) (hd : Dat w (.slice A d.length c) d) {b2 : List Int} {tn : Bool} (hT : ∀ W, Below w.heap.size w W → Gs w0 W g v u b busy text false gu f → Dat W (.slice A d.length c) d → Calls Tryd.prog 39 #[.pointer (some ⟨g, 0, none⟩), .agg #[.bool fin, .int .u8 op, .bool mk, .int .u32 key, .slice A d.length c]] W (TkTold w0 g v u b2 tn W)) : Calls Tryd.prog 23 #[.pointer (some ⟨g, 0, none⟩), .agg #[.bool fin, .int .u8 op, .bool mk, .int .u32 key, .slice A d.length c]] w (TTold w0 g v u b2 tn w) := by
 have HT := Aside0.mk hT
 clear hT
 have HU0 := Aside0.mk h.gw.ulow
 have HLO := Aside0.mk h.gw.bel.size
 have hgl := blk_lt h.gw.blk
 have hw1 : Below w.heap.size w ((w.alloc (.cells #[.bool fin, .int .u8 op, .bool mk, .int .u32 key, .slice A d.length c] 52)).alloc (.cells #[.int .u8 0, .bool false, .slice none 0 0, .int .u32 0] 35)) := below_alloc (below_alloc (Below.refl _ _) _) _
 have hg1 := h.below hw1
 have hd1 := hd.below hw1
 have hr1 : ((w.alloc (.cells #[.bool fin, .int .u8 op, .bool mk, .int .u32 key, .slice A d.length c] 52)).alloc (.cells #[.int .u8 0, .bool false, .slice none 0 0, .int .u32 0] 35)).heap[w.heap.size + 1]? = some (.cells #[.int .u8 0, .bool false, .slice none 0 0, .int .u32 0] 35 (0, 0)) := last_at _ _ _ (by simp)
 have hp1 : ((w.alloc (.cells #[.bool fin, .int .u8 op, .bool mk, .int .u32 key, .slice A d.length c] 52)).alloc (.cells #[.int .u8 0, .bool false, .slice none 0 0, .int .u32 0] 35)).heap[w.heap.size]? = some (.cells #[.bool fin, .int .u8 op, .bool mk, .int .u32 key, .slice A d.length c] 52 (0, 0)) := blk_alloc (last_at _ _ _ rfl) _
 have hf1 := (Fr.refl w g v u).below hw1
 have hu30 := Tryd.underlying35
 have hu26 := Tryd.underlying52
 have HW1 := Aside0.mk hw1
 clear h hd hw1
 go_enter Tryd.func23, Tryd.ntmps23
 go_upto_region 1 with fail
 generalize (w.alloc (.cells #[.bool fin, .int .u8 op, .bool mk, .int .u32 key, .slice A d.length c] 52)).alloc (.cells #[.int .u8 0, .bool false, .slice none 0 0, .int .u32 0] 35) = w1 at hg1 hd1 hr1 hp1 hf1 HW1 ⊢
 have HG1 := Aside0.mk hg1
 have HD1 := Aside0.mk hd1
 have HR1 := Aside0.mk hr1
 have HF1 := Aside0.mk hf1
 have pc0 : w1.cell? ⟨w.heap.size, 0, none⟩ = some (.bool fin) := (blk_cell hp1 0).trans rfl
 have pc1 : w1.cell? ⟨w.heap.size, 1, none⟩ = some (.int .u8 op) := (blk_cell hp1 1).trans rfl
 have pc2 : w1.cell? ⟨w.heap.size, 2, none⟩ = some (.bool mk) := (blk_cell hp1 2).trans rfl
 have pc3 : w1.cell? ⟨w.heap.size, 3, none⟩ = some (.int .u32 key) := (blk_cell hp1 3).trans rfl
 have pc4 : w1.cell? ⟨w.heap.size, 4, none⟩ = some (.slice A d.length c) := (blk_cell hp1 4).trans rfl
 have pl_ := blk_lt hp1
 clear hg1 hd1 hr1 hp1 hf1
 go_wp2_with fail
 refine (over_any g v u busy text false _ HG1.out.gw.blk).mono ?_
 rintro e w1' ⟨rfl, hw1'⟩
 subst hw1'
 go_wp2_with fail
 refine (HT.out w1' HW1.out HG1.out HD1.out).mono ?_
 rintro e w2 hp
 obtain ⟨vn, u', rfl, hG, hR, hF, hN⟩ := hp
 obtain ⟨An, cn, rfl⟩ := Kd.R_slice hR
 have HN2 := Aside0.mk (hN.mono HF1.out.size)
 have HG2 := Aside0.mk hG
 have HRW2 := Aside0.mk hR
 have hr2 : w2.heap[w.heap.size + 1]? = some (.cells #[.int .u8 0, .bool false, .slice none 0 0, .int .u32 0] 35 (0, 0)) := (hF.same _ (blk_lt HR1.out) (fun e => by have := hgl; omega) (fun e => by have := Kd.R_ne HG1.out.gw.row HR1.out (by decide); exact this e) (fun e => by have := HU0.out _ e; omega)).trans HR1.out
 have hF2 : Fr w w2 g v u := ⟨Nat.le_trans HF1.out.size hF.size, fun k hk h1 h2 h3 => (hF.same k (Nat.lt_of_lt_of_le hk HF1.out.size) h1 h2 h3).trans (HF1.out.same k hk h1 h2 h3)⟩
 have HR2 := Aside0.mk hr2
 have HF2 := Aside0.mk hF2
 have hle : w0.heap.size ≤ w.heap.size + 1 := Nat.le_succ_of_le HLO.out
 clear hr2 hF2 HG1 HF1 HR1 HD1 pc0 pc1 pc2 pc3 pc4 pl_
 clear hG hF hN hR
 go_upto_region 4 with fail
 have hb3 : Below w2.heap.size w2 (w2.alloc (.cells #[.int .u8 1, .bool tn, .slice An b2.length cn, .int .u32 0] 35)) := below_alloc (Below.refl _ _) _
 have hn3 : (w2.alloc (.cells #[.int .u8 1, .bool tn, .slice An b2.length cn, .int .u32 0] 35)).heap[w2.heap.size]? = some (.cells #[.int .u8 1, .bool tn, .slice An b2.length cn, .int .u32 0] 35 (0, 0)) := last_at _ _ _ rfl
 generalize w2.alloc (.cells #[.int .u8 1, .bool tn, .slice An b2.length cn, .int .u32 0] 35) = w3 at hb3 hn3 ⊢
 generalize w2.heap.size = gn at hn3 ⊢
 have HR3 := Aside0.mk (blk_below HR2.out hb3)
 have HF3 := Aside0.mk (HF2.out.below hb3)
 have nc0 : w3.cell? ⟨gn, 0, none⟩ = some (.int .u8 1) := (blk_cell hn3 0).trans rfl
 have nc1 : w3.cell? ⟨gn, 1, none⟩ = some (.bool tn) := (blk_cell hn3 1).trans rfl
 have nc2 : w3.cell? ⟨gn, 2, none⟩ = some (.slice An b2.length cn) := (blk_cell hn3 2).trans rfl
 have nc3 : w3.cell? ⟨gn, 3, none⟩ = some (.int .u32 0) := (blk_cell hn3 3).trans rfl
 have nl := blk_lt hn3
 have rc0 : w3.cell? ⟨w.heap.size + 1, 0, none⟩ = some (.int .u8 0) := (blk_cell HR3.out 0).trans rfl
 have rf0 := blk_frozen HR3.out 0
 have rc1 : w3.cell? ⟨w.heap.size + 1, 1, none⟩ = some (.bool false) := (blk_cell HR3.out 1).trans rfl
 have rf1 := blk_frozen HR3.out 1
 have rc2 : w3.cell? ⟨w.heap.size + 1, 2, none⟩ = some (.slice none 0 0) := (blk_cell HR3.out 2).trans rfl
 have rf2 := blk_frozen HR3.out 2
 have rc3 : w3.cell? ⟨w.heap.size + 1, 3, none⟩ = some (.int .u32 0) := (blk_cell HR3.out 3).trans rfl
 have rf3 := blk_frozen HR3.out 3
 have rl := blk_lt HR3.out
 have HG3 := Aside0.mk (HG2.out.below hb3)
 have HRW3 := Aside0.mk (Kd.R_below HRW2.out hb3)
 have go4 : w3.cell? ⟨g, 4, none⟩ = some (.bool false) := (blk_cell HG3.out.blk 4).trans rfl
 clear hb3 hn3 HG2 HRW2
 go_wp2_with fail
 exact bodyPost_ret (v := .tuple #[.agg #[.int .u8 1, .bool tn, .slice An b2.length cn, .int .u32 0], .bool true]) (by simp [results, Tryd.results23, go_sem, rc0, rc1, rc2, rc3]) rfl ⟨_, _, rfl, HG3.out.off4 HR3.out hle _ _ _ _, row_off4 HRW3.out HR3.out _ _ _ _, HF3.out.off4 (Nat.le_succ _) _ _ _ _, HN2.out⟩
set_option maxHeartbeats 8000000 in
set_option maxRecDepth 100000 in
theorem Take_note {w0 w : World} {g : Nat} {v u : Value} {b : List Int} {busy text : Bool} {gu : Nat} {f : List Int} {fin : Bool} {op : Int} {mk : Bool} {key : Int} {A : Option Addr} {c : Nat} {d : List Int} (h : Gs w0 w g v u b busy text false gu f) (hd : Dat w (.slice A d.length c) d) {kk : Int} (hT : ∀ W, Below w.heap.size w W → Gs w0 W g v u b busy text false gu f → Dat W (.slice A d.length c) d → Calls Tryd.prog 39 #[.pointer (some ⟨g, 0, none⟩), .agg #[.bool fin, .int .u8 op, .bool mk, .int .u32 key, .slice A d.length c]] W (TkNote w0 g v u b busy text gu f kk d W)) : Calls Tryd.prog 23 #[.pointer (some ⟨g, 0, none⟩), .agg #[.bool fin, .int .u8 op, .bool mk, .int .u32 key, .slice A d.length c]] w (TNote w0 g v u b busy text gu f kk d w) := by
 have HT := Aside0.mk hT
 clear hT
 have HU0 := Aside0.mk h.gw.ulow
 have HLO := Aside0.mk h.gw.bel.size
 have hgl := blk_lt h.gw.blk
 have hw1 : Below w.heap.size w ((w.alloc (.cells #[.bool fin, .int .u8 op, .bool mk, .int .u32 key, .slice A d.length c] 52)).alloc (.cells #[.int .u8 0, .bool false, .slice none 0 0, .int .u32 0] 35)) := below_alloc (below_alloc (Below.refl _ _) _) _
 have hg1 := h.below hw1
 have hd1 := hd.below hw1
 have hr1 : ((w.alloc (.cells #[.bool fin, .int .u8 op, .bool mk, .int .u32 key, .slice A d.length c] 52)).alloc (.cells #[.int .u8 0, .bool false, .slice none 0 0, .int .u32 0] 35)).heap[w.heap.size + 1]? = some (.cells #[.int .u8 0, .bool false, .slice none 0 0, .int .u32 0] 35 (0, 0)) := last_at _ _ _ (by simp)
 have hp1 : ((w.alloc (.cells #[.bool fin, .int .u8 op, .bool mk, .int .u32 key, .slice A d.length c] 52)).alloc (.cells #[.int .u8 0, .bool false, .slice none 0 0, .int .u32 0] 35)).heap[w.heap.size]? = some (.cells #[.bool fin, .int .u8 op, .bool mk, .int .u32 key, .slice A d.length c] 52 (0, 0)) := blk_alloc (last_at _ _ _ rfl) _
 have hf1 := (Fr.refl w g v u).below hw1
 have hu30 := Tryd.underlying35
 have hu26 := Tryd.underlying52
 have HW1 := Aside0.mk hw1
 clear h hd hw1
 go_enter Tryd.func23, Tryd.ntmps23
 go_upto_region 1 with fail
 generalize (w.alloc (.cells #[.bool fin, .int .u8 op, .bool mk, .int .u32 key, .slice A d.length c] 52)).alloc (.cells #[.int .u8 0, .bool false, .slice none 0 0, .int .u32 0] 35) = w1 at hg1 hd1 hr1 hp1 hf1 HW1 ⊢
 have HG1 := Aside0.mk hg1
 have HD1 := Aside0.mk hd1
 have HR1 := Aside0.mk hr1
 have HF1 := Aside0.mk hf1
 have pc0 : w1.cell? ⟨w.heap.size, 0, none⟩ = some (.bool fin) := (blk_cell hp1 0).trans rfl
 have pc1 : w1.cell? ⟨w.heap.size, 1, none⟩ = some (.int .u8 op) := (blk_cell hp1 1).trans rfl
 have pc2 : w1.cell? ⟨w.heap.size, 2, none⟩ = some (.bool mk) := (blk_cell hp1 2).trans rfl
 have pc3 : w1.cell? ⟨w.heap.size, 3, none⟩ = some (.int .u32 key) := (blk_cell hp1 3).trans rfl
 have pc4 : w1.cell? ⟨w.heap.size, 4, none⟩ = some (.slice A d.length c) := (blk_cell hp1 4).trans rfl
 have pl_ := blk_lt hp1
 clear hg1 hd1 hr1 hp1 hf1
 go_wp2_with fail
 refine (over_any g v u busy text false _ HG1.out.gw.blk).mono ?_
 rintro e w1' ⟨rfl, hw1'⟩
 subst hw1'
 go_wp2_with fail
 refine (HT.out w1' HW1.out HG1.out HD1.out).mono ?_
 rintro e w2 hp
 obtain ⟨vn, rfl, hG, hR, hF⟩ := hp
 obtain ⟨An, cn, rfl⟩ := Kd.R_slice hR
 have HG2 := Aside0.mk hG
 have HRW2 := Aside0.mk (Kd.R_lower hR HW1.out.size)
 have hr2 : w2.heap[w.heap.size + 1]? = some (.cells #[.int .u8 0, .bool false, .slice none 0 0, .int .u32 0] 35 (0, 0)) := (hF.same _ (blk_lt HR1.out) (fun e => by have := hgl; omega) (fun e => by have := Kd.R_ne HG1.out.gw.row HR1.out (by decide); exact this e) (fun e => by have := HU0.out _ e; omega)).trans HR1.out
 have hF2 : Fr w w2 g v u := ⟨Nat.le_trans HF1.out.size hF.size, fun k hk h1 h2 h3 => (hF.same k (Nat.lt_of_lt_of_le hk HF1.out.size) h1 h2 h3).trans (HF1.out.same k hk h1 h2 h3)⟩
 have HR2 := Aside0.mk hr2
 have HF2 := Aside0.mk hF2
 have hle : w0.heap.size ≤ w.heap.size + 1 := Nat.le_succ_of_le HLO.out
 clear hr2 hF2 HG1 HF1 HR1 HD1 pc0 pc1 pc2 pc3 pc4 pl_
 clear hG hF hR
 go_upto_region 4 with fail
 have hb3 : Below w2.heap.size w2 (w2.alloc (.cells #[.int .u8 kk, .bool false, .slice An d.length cn, .int .u32 0] 35)) := below_alloc (Below.refl _ _) _
 have hn3 : (w2.alloc (.cells #[.int .u8 kk, .bool false, .slice An d.length cn, .int .u32 0] 35)).heap[w2.heap.size]? = some (.cells #[.int .u8 kk, .bool false, .slice An d.length cn, .int .u32 0] 35 (0, 0)) := last_at _ _ _ rfl
 generalize w2.alloc (.cells #[.int .u8 kk, .bool false, .slice An d.length cn, .int .u32 0] 35) = w3 at hb3 hn3 ⊢
 generalize w2.heap.size = gn at hn3 ⊢
 have HR3 := Aside0.mk (blk_below HR2.out hb3)
 have HF3 := Aside0.mk (HF2.out.below hb3)
 have nc0 : w3.cell? ⟨gn, 0, none⟩ = some (.int .u8 kk) := (blk_cell hn3 0).trans rfl
 have nc1 : w3.cell? ⟨gn, 1, none⟩ = some (.bool false) := (blk_cell hn3 1).trans rfl
 have nc2 : w3.cell? ⟨gn, 2, none⟩ = some (.slice An d.length cn) := (blk_cell hn3 2).trans rfl
 have nc3 : w3.cell? ⟨gn, 3, none⟩ = some (.int .u32 0) := (blk_cell hn3 3).trans rfl
 have nl := blk_lt hn3
 have rc0 : w3.cell? ⟨w.heap.size + 1, 0, none⟩ = some (.int .u8 0) := (blk_cell HR3.out 0).trans rfl
 have rf0 := blk_frozen HR3.out 0
 have rc1 : w3.cell? ⟨w.heap.size + 1, 1, none⟩ = some (.bool false) := (blk_cell HR3.out 1).trans rfl
 have rf1 := blk_frozen HR3.out 1
 have rc2 : w3.cell? ⟨w.heap.size + 1, 2, none⟩ = some (.slice none 0 0) := (blk_cell HR3.out 2).trans rfl
 have rf2 := blk_frozen HR3.out 2
 have rc3 : w3.cell? ⟨w.heap.size + 1, 3, none⟩ = some (.int .u32 0) := (blk_cell HR3.out 3).trans rfl
 have rf3 := blk_frozen HR3.out 3
 have rl := blk_lt HR3.out
 have HG3 := Aside0.mk (HG2.out.below hb3)
 have HRW3 := Aside0.mk (Kd.R_below HRW2.out hb3)
 have go4 : w3.cell? ⟨g, 4, none⟩ = some (.bool false) := (blk_cell HG3.out.gw.blk 4).trans rfl
 clear hb3 hn3 HG2 HRW2
 go_wp2_with fail
 exact bodyPost_ret (v := .tuple #[.agg #[.int .u8 kk, .bool false, .slice An d.length cn, .int .u32 0], .bool true]) (by simp [results, Tryd.results23, go_sem, rc0, rc1, rc2, rc3]) rfl ⟨_, rfl, HG3.out.off4 HR3.out hle _ _ _ _, row_off4 HRW3.out HR3.out _ _ _ _, HF3.out.off4 (Nat.le_succ _) _ _ _ _⟩
set_option maxHeartbeats 8000000 in
set_option maxRecDepth 100000 in
theorem Take_bad {w0 w : World} {g : Nat} {v u : Value} {b : List Int} {busy text : Bool} {gu : Nat} {f : List Int} {fin : Bool} {op : Int} {mk : Bool} {key : Int} {A : Option Addr} {c : Nat} {d : List Int} (h : Gs w0 w g v u b busy text false gu f) (hd : Dat w (.slice A d.length c) d) {code : Int} (hg : Cond w0) (hT : ∀ W, Below w.heap.size w W → Gs w0 W g v u b busy text false gu f → Dat W (.slice A d.length c) d → Calls Tryd.prog 39 #[.pointer (some ⟨g, 0, none⟩), .agg #[.bool fin, .int .u8 op, .bool mk, .int .u32 key, .slice A d.length c]] W (TkBad w0 g v u code W)) : Calls Tryd.prog 23 #[.pointer (some ⟨g, 0, none⟩), .agg #[.bool fin, .int .u8 op, .bool mk, .int .u32 key, .slice A d.length c]] w (TBad w0 g v u code w) := by
 have HT := Aside0.mk hT
 clear hT
 have HCN := Aside0.mk hg
 clear hg
 have HU0 := Aside0.mk h.gw.ulow
 have HLO := Aside0.mk h.gw.bel.size
 have hgl := blk_lt h.gw.blk
 have hw1 : Below w.heap.size w ((w.alloc (.cells #[.bool fin, .int .u8 op, .bool mk, .int .u32 key, .slice A d.length c] 52)).alloc (.cells #[.int .u8 0, .bool false, .slice none 0 0, .int .u32 0] 35)) := below_alloc (below_alloc (Below.refl _ _) _) _
 have hg1 := h.below hw1
 have hd1 := hd.below hw1
 have hr1 : ((w.alloc (.cells #[.bool fin, .int .u8 op, .bool mk, .int .u32 key, .slice A d.length c] 52)).alloc (.cells #[.int .u8 0, .bool false, .slice none 0 0, .int .u32 0] 35)).heap[w.heap.size + 1]? = some (.cells #[.int .u8 0, .bool false, .slice none 0 0, .int .u32 0] 35 (0, 0)) := last_at _ _ _ (by simp)
 have hp1 : ((w.alloc (.cells #[.bool fin, .int .u8 op, .bool mk, .int .u32 key, .slice A d.length c] 52)).alloc (.cells #[.int .u8 0, .bool false, .slice none 0 0, .int .u32 0] 35)).heap[w.heap.size]? = some (.cells #[.bool fin, .int .u8 op, .bool mk, .int .u32 key, .slice A d.length c] 52 (0, 0)) := blk_alloc (last_at _ _ _ rfl) _
 have hf1 := (Fr.refl w g v u).below hw1
 have hu30 := Tryd.underlying35
 have hu26 := Tryd.underlying52
 have HW1 := Aside0.mk hw1
 clear h hd hw1
 go_enter Tryd.func23, Tryd.ntmps23
 go_upto_region 1 with fail
 generalize (w.alloc (.cells #[.bool fin, .int .u8 op, .bool mk, .int .u32 key, .slice A d.length c] 52)).alloc (.cells #[.int .u8 0, .bool false, .slice none 0 0, .int .u32 0] 35) = w1 at hg1 hd1 hr1 hp1 hf1 HW1 ⊢
 have HG1 := Aside0.mk hg1
 have HD1 := Aside0.mk hd1
 have HR1 := Aside0.mk hr1
 have HF1 := Aside0.mk hf1
 have pc0 : w1.cell? ⟨w.heap.size, 0, none⟩ = some (.bool fin) := (blk_cell hp1 0).trans rfl
 have pc1 : w1.cell? ⟨w.heap.size, 1, none⟩ = some (.int .u8 op) := (blk_cell hp1 1).trans rfl
 have pc2 : w1.cell? ⟨w.heap.size, 2, none⟩ = some (.bool mk) := (blk_cell hp1 2).trans rfl
 have pc3 : w1.cell? ⟨w.heap.size, 3, none⟩ = some (.int .u32 key) := (blk_cell hp1 3).trans rfl
 have pc4 : w1.cell? ⟨w.heap.size, 4, none⟩ = some (.slice A d.length c) := (blk_cell hp1 4).trans rfl
 have pl_ := blk_lt hp1
 clear hg1 hd1 hr1 hp1 hf1
 go_wp2_with fail
 refine (over_any g v u busy text false _ HG1.out.gw.blk).mono ?_
 rintro e w1' ⟨rfl, hw1'⟩
 subst hw1'
 go_wp2_with fail
 refine (HT.out w1' HW1.out HG1.out HD1.out).mono ?_
 rintro e w2 hp
 obtain ⟨ok, ve, v', u', b', bu, te, ov, rfl, hve, hG, hF⟩ := hp
 obtain ⟨Av', cv', rfl⟩ := Kd.R_slice hG.row
 have HG2 := Aside0.mk hG
 have HVE := Aside0.mk hve
 have hvi : ∃ t q, ve = .iface t q := by
  rcases hve with ⟨q, s, v2, e, _, _⟩ | ⟨q, e, _⟩
  ·exact ⟨_, _, e⟩
  ·exact ⟨_, _, e⟩
 obtain ⟨tve, qve, rfl⟩ := hvi
 have hr2 : w2.heap[w.heap.size + 1]? = some (.cells #[.int .u8 0, .bool false, .slice none 0 0, .int .u32 0] 35 (0, 0)) := (hF.same _ (blk_lt HR1.out) (fun e => by have := hgl; omega) (fun e => by have := Kd.R_ne HG1.out.gw.row HR1.out (by decide); exact this e) (fun e => by have := HU0.out _ e; omega)).trans HR1.out
 have hF2 : Fr w w2 g v u := ⟨Nat.le_trans HF1.out.size hF.size, fun k hk h1 h2 h3 => (hF.same k (Nat.lt_of_lt_of_le hk HF1.out.size) h1 h2 h3).trans (HF1.out.same k hk h1 h2 h3)⟩
 have HR2 := Aside0.mk hr2
 have HF2 := Aside0.mk hF2
 have hle : w0.heap.size ≤ w.heap.size + 1 := Nat.le_succ_of_le HLO.out
 clear hr2 hF2 HG1 HF1 HR1 HD1 pc0 pc1 pc2 pc3 pc4 pl_
 clear hG hF hve
 go_upto_region 4 with fail
 have hb3 : Below w2.heap.size w2 (w2.alloc (.cells #[.int .u8 0, .bool false, .slice none 0 0, .int .u32 0] 35)) := below_alloc (Below.refl _ _) _
 generalize w2.alloc (.cells #[.int .u8 0, .bool false, .slice none 0 0, .int .u32 0] 35) = w3 at hb3 ⊢
 generalize w2.heap.size = gn
 have HR3 := Aside0.mk (blk_below HR2.out hb3)
 have HF3 := Aside0.mk (HF2.out.below hb3)
 have HG3 := Aside0.mk (HG2.out.below hb3)
 have HV3 : Aside0 (IsWr w3 (.iface tve qve) code ∨ IsBad w3 (.iface tve qve) code) := ⟨HVE.out.imp (fun h => h.below hb3) (fun h => h.below hb3)⟩
 clear hb3 HG2 HF2 HR2 HVE
 have gc0 : w3.cell? ⟨g, 0, none⟩ = some (.slice Av' b'.length cv') := (blk_cell HG3.out.blk 0).trans rfl
 have gf0 := blk_frozen HG3.out.blk 0
 have gc1 : w3.cell? ⟨g, 1, none⟩ = some (.bool bu) := (blk_cell HG3.out.blk 1).trans rfl
 have gf1 := blk_frozen HG3.out.blk 1
 have gc4 : w3.cell? ⟨g, 4, none⟩ = some (.bool ov) := (blk_cell HG3.out.blk 4).trans rfl
 have gf4 := blk_frozen HG3.out.blk 4
 have gl := blk_lt HG3.out.blk
 go_upto_region 6 with fail
 have hgr : w.heap.size + 1 ≠ g := blk_ne HR3.out HG3.out.blk (by decide)
 have hst : ∀ (W : World) (j : Nat) (x : Value) (q : Nat), q ≠ g → (W.setCell ⟨g, j, none⟩ x).heap[q]? = W.heap[q]? := fun W j x q hq => Below.heap_setCell W ⟨g, j, none⟩ x q hq
 have hG5 : Gw w0 (((w3.setCell ⟨g, 4, none⟩ (.bool true)).setCell ⟨g, 0, none⟩ (.slice none 0 0)).setCell ⟨g, 1, none⟩ (.bool false)) g (.slice none 0 0) u' [] false te true := ((HG3.out.setOver true).setNil).setBusy false
 have hF5 : Fr w (((w3.setCell ⟨g, 4, none⟩ (.bool true)).setCell ⟨g, 0, none⟩ (.slice none 0 0)).setCell ⟨g, 1, none⟩ (.bool false)) g v u := ((HF3.out.set 4 _).set 0 _).set 1 _
 have hr5 : (((w3.setCell ⟨g, 4, none⟩ (.bool true)).setCell ⟨g, 0, none⟩ (.slice none 0 0)).setCell ⟨g, 1, none⟩ (.bool false)).heap[w.heap.size + 1]? = some (.cells #[.int .u8 0, .bool false, .slice none 0 0, .int .u32 0] 35 (0, 0)) := (hst _ _ _ _ hgr).trans ((hst _ _ _ _ hgr).trans ((hst _ _ _ _ hgr).trans HR3.out))
 have hst3 : ∀ (q : Nat) (o : Obj), w3.heap[q]? = some o → (∀ cs, o ≠ .cells cs 74 (0, 0)) → (((w3.setCell ⟨g, 4, none⟩ (.bool true)).setCell ⟨g, 0, none⟩ (.slice none 0 0)).setCell ⟨g, 1, none⟩ (.bool false)).heap[q]? = some o := fun q o hq ho => by
  have hqg : q ≠ g := fun e => by
   rw [e, show w3.heap[g]? = _ from HG3.out.blk] at hq
   injection hq with hq
   exact ho _ hq.symm
  exact (hst _ _ _ _ hqg).trans ((hst _ _ _ _ hqg).trans ((hst _ _ _ _ hqg).trans hq))
 have hv5 : IsWr (((w3.setCell ⟨g, 4, none⟩ (.bool true)).setCell ⟨g, 0, none⟩ (.slice none 0 0)).setCell ⟨g, 1, none⟩ (.bool false)) (.iface tve qve) code ∨ IsBad (((w3.setCell ⟨g, 4, none⟩ (.bool true)).setCell ⟨g, 0, none⟩ (.slice none 0 0)).setCell ⟨g, 1, none⟩ (.bool false)) (.iface tve qve) code := by
  have hbb : ∀ (z : Value), IsBad w3 z code → IsBad (((w3.setCell ⟨g, 4, none⟩ (.bool true)).setCell ⟨g, 0, none⟩ (.slice none 0 0)).setCell ⟨g, 1, none⟩ (.bool false)) z code := fun z hz => by
   obtain ⟨q, e, hq⟩ := hz
   exact ⟨q, e, hst3 _ _ hq (fun cs e => by injection e with _ e _; exact absurd e (by decide))⟩
  rcases HV3.out with ⟨q, s, v2, e, hq, hb⟩ | hb
  ·exact .inl ⟨q, s, v2, e, hst3 _ _ hq (fun cs e => by injection e with _ e _; exact absurd e (by decide)), hbb _ hb⟩
  ·exact .inr (hbb _ hb)
 have hc5 : Cond (((w3.setCell ⟨g, 4, none⟩ (.bool true)).setCell ⟨g, 0, none⟩ (.slice none 0 0)).setCell ⟨g, 1, none⟩ (.bool false)) := HCN.out.below hG5.bel
 generalize (((w3.setCell ⟨g, 4, none⟩ (.bool true)).setCell ⟨g, 0, none⟩ (.slice none 0 0)).setCell ⟨g, 1, none⟩ (.bool false)) = w5 at hG5 hF5 hr5 hv5 hc5 ⊢
 clear gc0 gc1 gc4 gf0 gf1 gf4 gl HG3 HF3 HR3 HV3 hst hst3
 have HG5 := Aside0.mk hG5
 have HF5 := Aside0.mk hF5
 have HR5 := Aside0.mk hr5
 have HC5 := Aside0.mk hc5
 clear hG5 hF5 hr5 hc5
 have hof : Calls Tryd.prog 40 #[.iface tve qve] w5 fun e w' => e = .returned (.agg #[.int .u8 3, .int .u32 code]) ∧ Below w5.heap.size w5 w' := by
  rcases hv5 with h | h
  ·exact of_wr _ _ _ h HC5.out
  ·exact of_bad _ _ _ h HC5.out
 clear hv5
 go_wp2_with fail
 refine hof.mono ?_
 rintro e w6 ⟨rfl, hb6⟩
 have HG6 := Aside0.mk (HG5.out.below hb6)
 have HF6 := Aside0.mk (HF5.out.below hb6)
 have HR6 := Aside0.mk (blk_below HR5.out hb6)
 have rc0 : w6.cell? ⟨w.heap.size + 1, 0, none⟩ = some (.int .u8 0) := (blk_cell HR6.out 0).trans rfl
 have rf0 := blk_frozen HR6.out 0
 have rc1 : w6.cell? ⟨w.heap.size + 1, 1, none⟩ = some (.bool false) := (blk_cell HR6.out 1).trans rfl
 have rf1 := blk_frozen HR6.out 1
 have rc2 : w6.cell? ⟨w.heap.size + 1, 2, none⟩ = some (.slice none 0 0) := (blk_cell HR6.out 2).trans rfl
 have rf2 := blk_frozen HR6.out 2
 have rc3 : w6.cell? ⟨w.heap.size + 1, 3, none⟩ = some (.int .u32 0) := (blk_cell HR6.out 3).trans rfl
 have rf3 := blk_frozen HR6.out 3
 have rl := blk_lt HR6.out
 clear hb6 HG5 HF5 HR5 HC5 hof
 have hff_ := field58_1
 go_wp2_with fail
 exact bodyPost_ret (v := .tuple #[.agg #[.int .u8 5, .bool false, .slice none 0 0, .int .u32 code], .bool true]) (by simp [results, Tryd.results23, go_sem, rc0, rc1, rc2, rc3]) rfl ⟨rfl, _, _, HG6.out.off4 HR6.out hle _ _ _ _, HF6.out.off4 (Nat.le_succ _) _ _ _ _⟩
end Go.Proofs.YtpmeapdcjmaeiaaDoor
namespace Go.Proofs.YtpmeapdcjmaeiaaDoor
open Go.RowKit Go.Proofs.YtpmeapdcjmaeiaaDoorW.PrintWords Go.Proofs.YtpmeapdcjmaeiaaDoorW.PrintLast Go.Proofs.YtpmeapdcjmaeiaaDoorW.PrintMore Go.Proofs.YtpmeapdcjmaeiaaDoor.PAll
attribute [local go_sem] max2_int min2_int max_two min_two
abbrev Pm := PAll.S52
inductive CutP (most : Nat) : Int → List Int → List Pm → Prop
 | last {op : Int} {b : List Int} : b.length ≤ most → CutP most op b [⟨true, op, false, 0, b⟩]
 | more {op : Int} {b : List Int} {ps : List Pm} : most < b.length → CutP most 0 (b.drop most) ps → CutP most op b (⟨false, op, false, 0, b.take most⟩ :: ps)
end Go.Proofs.YtpmeapdcjmaeiaaDoor
namespace Go.Proofs.YtpmeapdcjmaeiaaDoor
open Go.RowKit Go.Proofs.YtpmeapdcjmaeiaaDoorW.PrintWords Go.Proofs.YtpmeapdcjmaeiaaDoorW.PrintLast Go.Proofs.YtpmeapdcjmaeiaaDoorW.PrintMore Go.Proofs.YtpmeapdcjmaeiaaDoor.PAll Go.Proofs.YtpmeapdcjmaeiaaDoor.U
set_option maxHeartbeats 4000000 in
set_option maxRecDepth 100000 in
theorem Take_over {w0 w : World} {g : Nat} {v u : Value} {b : List Int} {busy text : Bool} {fin : Bool} {op : Int} {mk : Bool} {key : Int} {A : Option Addr} {c : Nat} {n : Nat} (h : Gw w0 w g v u b busy text true) : Calls Tryd.prog 23 #[.pointer (some ⟨g, 0, none⟩), .agg #[.bool fin, .int .u8 op, .bool mk, .int .u32 key, .slice A n c]] w fun e w' => e = .returned (.tuple #[.agg #[.int .u8 0, .bool false, .slice none 0 0, .int .u32 0], .bool false]) ∧ Below w.heap.size w w' := by
 have hu30 := Tryd.underlying35
 have hu26 := Tryd.underlying52
 have HG := Aside0.mk h
 clear h
 go_enter Tryd.func23, Tryd.ntmps23
 go_wp2_with fail
 refine (over_any g v u busy text true _ (HG.out.below (below_alloc (below_alloc (Below.refl _ _) _) _)).blk).mono ?_
 rintro e w1 ⟨rfl, hw1⟩
 subst hw1
 have hle : w.heap.size ≤ w.heap.size + 1 := by omega
 go_wp2_with fail
 exact bodyPost_ret (v := .tuple #[.agg #[.int .u8 0, .bool false, .slice none 0 0, .int .u32 0], .bool false]) (by simp [results, Tryd.results23, go_sem]) rfl ⟨rfl, by repeat (first | exact Below.refl _ _ | apply below_alloc | refine Below.setCell ?_ hle _)⟩
set_option maxHeartbeats 4000000 in
set_option maxRecDepth 100000 in
theorem Take_overI {w : World} {g : Nat} {v u : Value} {busy text : Bool} {fin : Bool} {op : Int} {mk : Bool} {key : Int} {A : Option Addr} {c : Nat} {n : Nat} (h : IsG w g v busy text u true) : Calls Tryd.prog 23 #[.pointer (some ⟨g, 0, none⟩), .agg #[.bool fin, .int .u8 op, .bool mk, .int .u32 key, .slice A n c]] w fun e w' => e = .returned (.tuple #[.agg #[.int .u8 0, .bool false, .slice none 0 0, .int .u32 0], .bool false]) ∧ Below w.heap.size w w' := by
 have hu30 := Tryd.underlying35
 have hu26 := Tryd.underlying52
 have HG := Aside0.mk h
 clear h
 go_enter Tryd.func23, Tryd.ntmps23
 go_wp2_with fail
 refine (over_any g v u busy text true _ (blk_below HG.out (below_alloc (below_alloc (Below.refl _ _) _) _))).mono ?_
 rintro e w1 ⟨rfl, hw1⟩
 subst hw1
 have hle : w.heap.size ≤ w.heap.size + 1 := by omega
 go_wp2_with fail
 exact bodyPost_ret (v := .tuple #[.agg #[.int .u8 0, .bool false, .slice none 0 0, .int .u32 0], .bool false]) (by simp [results, Tryd.results23, go_sem]) rfl ⟨rfl, by repeat (first | exact Below.refl _ _ | apply below_alloc | refine Below.setCell ?_ hle _)⟩
theorem Fr.rows {α : Type} {d : Kd α} {e : Nat} {w0 w W : World} {g base : Nat} {v v' u pv : Value} {b : List Int} {busy text over : Bool} {ps : List α} (hg : Gw w0 w g v u b busy text over) (hf : Fr w W g v u) (hn : NewOr w v v') (he : ∀ q, q ∈ e :: d.E → q ≠ 74 ∧ q ≠ 144) (h : d.R e w base (fun q => some q ≠ v.ownBlock) pv ps) : d.R e W base (fun q => some q ≠ v'.ownBlock) pv ps := by
 have h1 := Kd.R_bound (Kd.R_types h hg.blk (fun q hq => (he q hq).1))
 have h2 := Kd.R_step h1 (w1 := W) (fun k hk hlt => hf.same k hlt hk.1.2 hk.1.1 (fun eu => by
  obtain ⟨_, _, _, q, hq, cs, hc⟩ := hk
  obtain ⟨cu, hcu⟩ := hg.uty k eu
  rw [hcu] at hc
  injection hc with hc
  injection hc with _ hc _
  exact (he q hq).2 hc.symm))
 refine Kd.R_mono h2 (fun k hk ek => ?_)
 rcases hn with e1 | e1 | ⟨j, e1, hj⟩
 ·exact hk.1.1 (ek.trans e1)
 ·rw [e1] at ek; cases ek
 ·rw [e1] at ek
  injection ek with ek
  have := hk.2.2.1
  omega
theorem TakeMore {w0 w : World} {g : Nat} {v u : Value} {b : List Int} {busy text : Bool} {gu : Nat} {f : List Int} {fin : Bool} {op : Int} {mk : Bool} {key : Int} {A : Option Addr} {c : Nat} {d : List Int} (h : Gs w0 w g v u b busy text false gu f) (hff : (busy = true → f = if text = true then b else []) ∧ (busy = false → b = [])) (hd : Dat w (.slice A d.length c) d) (hdn : ∀ k, (Value.slice A d.length c).ownBlock = some k → v.ownBlock ≠ some k) (hbl : b.length ≤ 4096) (hdl : d.length ≤ 1000000000) (hop : op = 0 ∨ op = 1 ∨ op = 2) (hc : partC busy text fin op b d = 0) (hfin : fin = false) : Calls Tryd.prog 23 #[.pointer (some ⟨g, 0, none⟩), .agg #[.bool fin, .int .u8 op, .bool mk, .int .u32 key, .slice A d.length c]] w (TMore w0 g v u (b ++ d) (textN busy text op) w) := by
 refine Take_more h hd (fun W hb hG hD => ?_)
 rcases hop with rfl | rfl | rfl
 ·exact take_more_0 hG hff hD hdn hbl hdl hc hfin
 ·exact take_more_1 hG hff hD hdn hbl hdl hc hfin
 ·exact take_more_2 hG hff hD hdn hbl hdl hc hfin
theorem TakeTold {w0 w : World} {g : Nat} {v u : Value} {b : List Int} {busy text : Bool} {gu : Nat} {f : List Int} {fin : Bool} {op : Int} {mk : Bool} {key : Int} {A : Option Addr} {c : Nat} {d : List Int} (h : Gs w0 w g v u b busy text false gu f) (hff : (busy = true → f = if text = true then b else []) ∧ (busy = false → b = [])) (hd : Dat w (.slice A d.length c) d) (hdn : ∀ k, (Value.slice A d.length c).ownBlock = some k → v.ownBlock ≠ some k) (hbl : b.length ≤ 4096) (hdl : d.length ≤ 1000000000) (hop : op = 0 ∨ op = 1 ∨ op = 2) (hc : partC busy text fin op b d = 0) (hfin : fin = true) : Calls Tryd.prog 23 #[.pointer (some ⟨g, 0, none⟩), .agg #[.bool fin, .int .u8 op, .bool mk, .int .u32 key, .slice A d.length c]] w (TTold w0 g v u (b ++ d) (textN busy text op) w) := by
 refine Take_told h hd (fun W hb hG hD => ?_)
 rcases hop with rfl | rfl | rfl
 ·exact take_told_0 hG hff hD hdn hbl hdl hc hfin
 ·exact take_told_1 hG hff hD hdn hbl hdl hc hfin
 ·exact take_told_2 hG hff hD hdn hbl hdl hc hfin
theorem TakeBadPart {w0 w : World} {g : Nat} {v u : Value} {b : List Int} {busy text : Bool} {gu : Nat} {f : List Int} {fin : Bool} {op : Int} {mk : Bool} {key : Int} {A : Option Addr} {c : Nat} {d : List Int} (h : Gs w0 w g v u b busy text false gu f) (hff : (busy = true → f = if text = true then b else []) ∧ (busy = false → b = [])) (hd : Dat w (.slice A d.length c) d) (hdn : ∀ k, (Value.slice A d.length c).ownBlock = some k → v.ownBlock ≠ some k) (hbl : b.length ≤ 4096) (hdl : d.length ≤ 1000000000) (hop : op = 0 ∨ op = 1 ∨ op = 2) (hg : Cond w0) (hc : partC busy text fin op b d ≠ 0) : Calls Tryd.prog 23 #[.pointer (some ⟨g, 0, none⟩), .agg #[.bool fin, .int .u8 op, .bool mk, .int .u32 key, .slice A d.length c]] w (TBad w0 g v u (partC busy text fin op b d) w) := by
 refine Take_bad h hd hg (fun W hb hG hD => ?_)
 rcases hop with rfl | rfl | rfl
 ·exact take_bad_0 hG hff hD hdn hbl hdl hc
 ·exact take_bad_1 hG hff hD hdn hbl hdl hc
 ·exact take_bad_2 hG hff hD hdn hbl hdl hc
theorem CutP.ne {M : Nat} {op : Int} {l : List Int} {ps : List Pm} (h : CutP M op l ps) : ps ≠ [] := by cases h <;> simp
end Go.Proofs.YtpmeapdcjmaeiaaDoor
