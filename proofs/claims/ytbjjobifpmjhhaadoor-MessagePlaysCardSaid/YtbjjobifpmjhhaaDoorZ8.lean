/- What the law's row rests on, part 8. -/
import Derived.Test.YtbjjobifpmjhhaaDoorZ7
import Derived.Deep.LoopGhost
import Derived.Deep.DeepCutAuto
import Derived.Deep.RegionHeld3
/- The gatherer's take of pings and of what may not be; Take. -/
namespace Go.Proofs.YtbjjobifpmjhhaaDoor
open Go.RowKit Go.Proofs.YtbjjobifpmjhhaaDoorW.PrintWords Go.Proofs.YtbjjobifpmjhhaaDoorW.PrintLast Go.Proofs.YtbjjobifpmjhhaaDoorW.PrintMore Go.Proofs.YtbjjobifpmjhhaaDoor.PAll Go.Proofs.YtbjjobifpmjhhaaDoor.U
set_option linter.unusedVariables false
set_option linter.unusedSimpArgs false
/-- A ping or a pong is told as it came. -/
def TkNote (w0 : World) (g : Nat) (v u : Value) (b : List Int) (busy text : Bool) (gu : Nat) (f : List Int) (k : Int) (d : List Int) (w : World) (e : Ending) (w' : World) : Prop := ∃ vn, e = .returned (.tuple #[.agg #[.int .u8 k, .bool false, vn, .int .u32 0], .bool true, .nilIface]) ∧ Gs w0 w' g v u b busy text false gu f ∧ Kd.R (Kd.int .u8) 5 w' w.heap.size (fun _ => True) vn d ∧ Fr w w' g v u
/-- The same of Take. -/
def TMore (w0 : World) (g : Nat) (v u : Value) (b : List Int) (tn : Bool) (w : World) (e : Ending) (w' : World) : Prop := e = .returned (.tuple #[.agg #[.int .u8 0, .bool false, .slice none 0 0, .int .u32 0], .bool false]) ∧ ∃ v' u' gu', Gs w0 w' g v' u' b true tn false gu' (if tn = true then b else []) ∧ Fr w w' g v u ∧ NewOr w v v'
def TTold (w0 : World) (g : Nat) (v u : Value) (b : List Int) (tn : Bool) (w : World) (e : Ending) (w' : World) : Prop := ∃ vn u', e = .returned (.tuple #[.agg #[.int .u8 1, .bool tn, vn, .int .u32 0], .bool true]) ∧ Gw w0 w' g (.slice none 0 0) u' [] false tn false ∧ Kd.R (Kd.int .u8) 5 w' w0.heap.size (fun _ => True) vn b ∧ Fr w w' g v u ∧ NewOr w v vn
def TNote (w0 : World) (g : Nat) (v u : Value) (b : List Int) (busy text : Bool) (gu : Nat) (f : List Int) (k : Int) (d : List Int) (w : World) (e : Ending) (w' : World) : Prop := ∃ vn, e = .returned (.tuple #[.agg #[.int .u8 k, .bool false, vn, .int .u32 0], .bool true]) ∧ Gs w0 w' g v u b busy text false gu f ∧ Kd.R (Kd.int .u8) 5 w' w.heap.size (fun _ => True) vn d ∧ Fr w w' g v u
def TBad (w0 : World) (g : Nat) (v u : Value) (code : Int) (w : World) (e : Ending) (w' : World) : Prop := e = .returned (.tuple #[.agg #[.int .u8 5, .bool false, .slice none 0 0, .int .u32 code], .bool true]) ∧ ∃ u' te, Gw w0 w' g (.slice none 0 0) u' [] false te true ∧ Fr w w' g v u
set_option maxHeartbeats 8000000 in
set_option maxRecDepth 100000 in
theorem take_ping {w0 w : World} {g : Nat} {v u : Value} {b : List Int} {busy text : Bool} {gu : Nat} {f : List Int} {fin : Bool} {mk : Bool} {key : Int} {A : Option Addr} {c : Nat} {d : List Int} (h : Gs w0 w g v u b busy text false gu f) (hd : Dat w (.slice A d.length c) d) (hdl : d.length ≤ 1000000000) : Calls Tryd.prog 25 #[.pointer (some ⟨g, 0, none⟩), .agg #[.bool fin, .int .u8 9, .bool mk, .int .u32 key, .slice A d.length c]] w (TkNote w0 g v u b busy text gu f 2 d w) := by
  have HDL := Aside0.mk hdl
  clear hdl
  have HU0 := Aside0.mk h.gw.ulow
  have HLO := Aside0.mk h.gw.bel.size
  have hgl := blk_lt h.gw.blk
  have hw1 : Below w.heap.size w ((w.alloc (.cells #[.bool fin, .int .u8 9, .bool mk, .int .u32 key, .slice A d.length c] 26)).alloc (.cells #[.int .u8 0, .bool false, .slice none 0 0, .int .u32 0] 30)) := below_alloc (below_alloc (Below.refl _ _) _) _
  have hg1 := h.below hw1
  have hd1 := hd.below hw1
  have hr1 : ((w.alloc (.cells #[.bool fin, .int .u8 9, .bool mk, .int .u32 key, .slice A d.length c] 26)).alloc (.cells #[.int .u8 0, .bool false, .slice none 0 0, .int .u32 0] 30)).heap[w.heap.size + 1]? = some (.cells #[.int .u8 0, .bool false, .slice none 0 0, .int .u32 0] 30 (0, 0)) := last_at _ _ _ (by simp)
  have hp1 : ((w.alloc (.cells #[.bool fin, .int .u8 9, .bool mk, .int .u32 key, .slice A d.length c] 26)).alloc (.cells #[.int .u8 0, .bool false, .slice none 0 0, .int .u32 0] 30)).heap[w.heap.size]? = some (.cells #[.bool fin, .int .u8 9, .bool mk, .int .u32 key, .slice A d.length c] 26 (0, 0)) := blk_alloc (last_at _ _ _ rfl) _
  have hf1 := (Fr.refl w g v u).below hw1
  have hu30 := Tryd.underlying30
  have hu26 := Tryd.underlying26
  have HW1 := Aside0.mk hw1
  clear h hd hw1
  go_enter Tryd.func25, Tryd.ntmps25
  go_upto_region 1 with fail
  generalize (w.alloc (.cells #[.bool fin, .int .u8 9, .bool mk, .int .u32 key, .slice A d.length c] 26)).alloc (.cells #[.int .u8 0, .bool false, .slice none 0 0, .int .u32 0] 30) = w1 at hg1 hd1 hr1 hp1 hf1 HW1 ⊢
  have HG1 := Aside0.mk hg1
  have HD1 := Aside0.mk hd1
  have HR1 := Aside0.mk hr1
  have HF1 := Aside0.mk hf1
  have pc0 : w1.cell? ⟨w.heap.size, 0, none⟩ = some (.bool fin) := (blk_cell hp1 0).trans rfl
  have pc1 : w1.cell? ⟨w.heap.size, 1, none⟩ = some (.int .u8 9) := (blk_cell hp1 1).trans rfl
  have pc2 : w1.cell? ⟨w.heap.size, 2, none⟩ = some (.bool mk) := (blk_cell hp1 2).trans rfl
  have pc3 : w1.cell? ⟨w.heap.size, 3, none⟩ = some (.int .u32 key) := (blk_cell hp1 3).trans rfl
  have pc4 : w1.cell? ⟨w.heap.size, 4, none⟩ = some (.slice A d.length c) := (blk_cell hp1 4).trans rfl
  have pl_ := blk_lt hp1
  clear hg1 hd1 hr1 hp1 hf1
  go_wp2_with fail
  refine (bytes_Clone.calls A c d d _ (Dat.C HD1.out) (Dat.le HD1.out) (by unfold bytes_Clone.f; rw [if_pos (by have := HDL.out; omega)])).mono ?_
  rintro e w2 ⟨vn, rfl, ho, hb⟩
  obtain ⟨Av, cv, rfl⟩ := Kd.R_slice ho
  have hr2 := blk_below HR1.out hb
  have HG2 := Aside0.mk (HG1.out.below hb)
  have HF2 := Aside0.mk (HF1.out.below hb)
  have HR2 := Aside0.mk hr2
  have HO2 := Aside0.mk (Kd.R_lower ho HW1.out.size)
  have rc0 : w2.cell? ⟨w.heap.size + 1, 0, none⟩ = some (.int .u8 0) := (blk_cell hr2 0).trans rfl
  have rf0 := blk_frozen hr2 0
  have rc1 : w2.cell? ⟨w.heap.size + 1, 1, none⟩ = some (.bool false) := (blk_cell hr2 1).trans rfl
  have rf1 := blk_frozen hr2 1
  have rc2 : w2.cell? ⟨w.heap.size + 1, 2, none⟩ = some (.slice none 0 0) := (blk_cell hr2 2).trans rfl
  have rf2 := blk_frozen hr2 2
  have rc3 : w2.cell? ⟨w.heap.size + 1, 3, none⟩ = some (.int .u32 0) := (blk_cell hr2 3).trans rfl
  have rf3 := blk_frozen hr2 3
  have rl := blk_lt hr2
  clear ho hb hr2 HG1 HF1 HR1 HD1 pc0 pc1 pc2 pc3 pc4 pl_
  have hle : w0.heap.size ≤ w.heap.size + 1 := Nat.le_succ_of_le HLO.out
  go_wp2_with fail
  exact bodyPost_ret (v := .tuple #[.agg #[.int .u8 2, .bool false, .slice Av d.length cv, .int .u32 0], .bool true, .nilIface]) (by simp [results, Tryd.results25, go_sem, rc0, rc1, rc2, rc3]) rfl ⟨_, rfl, HG2.out.off4 HR2.out hle _ _ _ _, row_off4 HO2.out HR2.out _ _ _ _, HF2.out.off4 (Nat.le_succ _) _ _ _ _⟩
set_option maxHeartbeats 8000000 in
set_option maxRecDepth 100000 in
theorem take_pong {w0 w : World} {g : Nat} {v u : Value} {b : List Int} {busy text : Bool} {gu : Nat} {f : List Int} {fin : Bool} {mk : Bool} {key : Int} {A : Option Addr} {c : Nat} {d : List Int} (h : Gs w0 w g v u b busy text false gu f) (hd : Dat w (.slice A d.length c) d) (hdl : d.length ≤ 1000000000) : Calls Tryd.prog 25 #[.pointer (some ⟨g, 0, none⟩), .agg #[.bool fin, .int .u8 10, .bool mk, .int .u32 key, .slice A d.length c]] w (TkNote w0 g v u b busy text gu f 3 d w) := by
  have HDL := Aside0.mk hdl
  clear hdl
  have HU0 := Aside0.mk h.gw.ulow
  have HLO := Aside0.mk h.gw.bel.size
  have hgl := blk_lt h.gw.blk
  have hw1 : Below w.heap.size w ((w.alloc (.cells #[.bool fin, .int .u8 10, .bool mk, .int .u32 key, .slice A d.length c] 26)).alloc (.cells #[.int .u8 0, .bool false, .slice none 0 0, .int .u32 0] 30)) := below_alloc (below_alloc (Below.refl _ _) _) _
  have hg1 := h.below hw1
  have hd1 := hd.below hw1
  have hr1 : ((w.alloc (.cells #[.bool fin, .int .u8 10, .bool mk, .int .u32 key, .slice A d.length c] 26)).alloc (.cells #[.int .u8 0, .bool false, .slice none 0 0, .int .u32 0] 30)).heap[w.heap.size + 1]? = some (.cells #[.int .u8 0, .bool false, .slice none 0 0, .int .u32 0] 30 (0, 0)) := last_at _ _ _ (by simp)
  have hp1 : ((w.alloc (.cells #[.bool fin, .int .u8 10, .bool mk, .int .u32 key, .slice A d.length c] 26)).alloc (.cells #[.int .u8 0, .bool false, .slice none 0 0, .int .u32 0] 30)).heap[w.heap.size]? = some (.cells #[.bool fin, .int .u8 10, .bool mk, .int .u32 key, .slice A d.length c] 26 (0, 0)) := blk_alloc (last_at _ _ _ rfl) _
  have hf1 := (Fr.refl w g v u).below hw1
  have hu30 := Tryd.underlying30
  have hu26 := Tryd.underlying26
  have HW1 := Aside0.mk hw1
  clear h hd hw1
  go_enter Tryd.func25, Tryd.ntmps25
  go_upto_region 1 with fail
  generalize (w.alloc (.cells #[.bool fin, .int .u8 10, .bool mk, .int .u32 key, .slice A d.length c] 26)).alloc (.cells #[.int .u8 0, .bool false, .slice none 0 0, .int .u32 0] 30) = w1 at hg1 hd1 hr1 hp1 hf1 HW1 ⊢
  have HG1 := Aside0.mk hg1
  have HD1 := Aside0.mk hd1
  have HR1 := Aside0.mk hr1
  have HF1 := Aside0.mk hf1
  have pc0 : w1.cell? ⟨w.heap.size, 0, none⟩ = some (.bool fin) := (blk_cell hp1 0).trans rfl
  have pc1 : w1.cell? ⟨w.heap.size, 1, none⟩ = some (.int .u8 10) := (blk_cell hp1 1).trans rfl
  have pc2 : w1.cell? ⟨w.heap.size, 2, none⟩ = some (.bool mk) := (blk_cell hp1 2).trans rfl
  have pc3 : w1.cell? ⟨w.heap.size, 3, none⟩ = some (.int .u32 key) := (blk_cell hp1 3).trans rfl
  have pc4 : w1.cell? ⟨w.heap.size, 4, none⟩ = some (.slice A d.length c) := (blk_cell hp1 4).trans rfl
  have pl_ := blk_lt hp1
  clear hg1 hd1 hr1 hp1 hf1
  go_wp2_with fail
  refine (bytes_Clone.calls A c d d _ (Dat.C HD1.out) (Dat.le HD1.out) (by unfold bytes_Clone.f; rw [if_pos (by have := HDL.out; omega)])).mono ?_
  rintro e w2 ⟨vn, rfl, ho, hb⟩
  obtain ⟨Av, cv, rfl⟩ := Kd.R_slice ho
  have hr2 := blk_below HR1.out hb
  have HG2 := Aside0.mk (HG1.out.below hb)
  have HF2 := Aside0.mk (HF1.out.below hb)
  have HR2 := Aside0.mk hr2
  have HO2 := Aside0.mk (Kd.R_lower ho HW1.out.size)
  have rc0 : w2.cell? ⟨w.heap.size + 1, 0, none⟩ = some (.int .u8 0) := (blk_cell hr2 0).trans rfl
  have rf0 := blk_frozen hr2 0
  have rc1 : w2.cell? ⟨w.heap.size + 1, 1, none⟩ = some (.bool false) := (blk_cell hr2 1).trans rfl
  have rf1 := blk_frozen hr2 1
  have rc2 : w2.cell? ⟨w.heap.size + 1, 2, none⟩ = some (.slice none 0 0) := (blk_cell hr2 2).trans rfl
  have rf2 := blk_frozen hr2 2
  have rc3 : w2.cell? ⟨w.heap.size + 1, 3, none⟩ = some (.int .u32 0) := (blk_cell hr2 3).trans rfl
  have rf3 := blk_frozen hr2 3
  have rl := blk_lt hr2
  clear ho hb hr2 HG1 HF1 HR1 HD1 pc0 pc1 pc2 pc3 pc4 pl_
  have hle : w0.heap.size ≤ w.heap.size + 1 := Nat.le_succ_of_le HLO.out
  go_wp2_with fail
  exact bodyPost_ret (v := .tuple #[.agg #[.int .u8 3, .bool false, .slice Av d.length cv, .int .u32 0], .bool true, .nilIface]) (by simp [results, Tryd.results25, go_sem, rc0, rc1, rc2, rc3]) rfl ⟨_, rfl, HG2.out.off4 HR2.out hle _ _ _ _, row_off4 HO2.out HR2.out _ _ _ _, HF2.out.off4 (Nat.le_succ _) _ _ _ _⟩
set_option maxHeartbeats 8000000 in
set_option maxRecDepth 100000 in
theorem take_other {w0 w : World} {g : Nat} {v u : Value} {b : List Int} {busy text : Bool} {gu : Nat} {f : List Int} {fin : Bool} {op : Int} {mk : Bool} {key : Int} {A : Option Addr} {c : Nat} {d : List Int} (h : Gs w0 w g v u b busy text false gu f) (hd : Dat w (.slice A d.length c) d) (hop : op ≠ 0 ∧ op ≠ 1 ∧ op ≠ 2 ∧ op ≠ 8 ∧ op ≠ 9 ∧ op ≠ 10) : Calls Tryd.prog 25 #[.pointer (some ⟨g, 0, none⟩), .agg #[.bool fin, .int .u8 op, .bool mk, .int .u32 key, .slice A d.length c]] w (TkBad w0 g v u 1002 w) := by
  have k0 : (op == 0) = false := beq_eq_false_iff_ne.mpr (by omega)
  have k1 : (op == 1) = false := beq_eq_false_iff_ne.mpr (by omega)
  have k2 : (op == 2) = false := beq_eq_false_iff_ne.mpr (by omega)
  have k8 : (op == 8) = false := beq_eq_false_iff_ne.mpr (by omega)
  have k9 : (op == 9) = false := beq_eq_false_iff_ne.mpr (by omega)
  have k10 : (op == 10) = false := beq_eq_false_iff_ne.mpr (by omega)
  clear hop
  have HU0 := Aside0.mk h.gw.ulow
  have HLO := Aside0.mk h.gw.bel.size
  have hgl := blk_lt h.gw.blk
  have hw1 : Below w.heap.size w ((w.alloc (.cells #[.bool fin, .int .u8 op, .bool mk, .int .u32 key, .slice A d.length c] 26)).alloc (.cells #[.int .u8 0, .bool false, .slice none 0 0, .int .u32 0] 30)) := below_alloc (below_alloc (Below.refl _ _) _) _
  have hg1 := h.below hw1
  have hd1 := hd.below hw1
  have hr1 : ((w.alloc (.cells #[.bool fin, .int .u8 op, .bool mk, .int .u32 key, .slice A d.length c] 26)).alloc (.cells #[.int .u8 0, .bool false, .slice none 0 0, .int .u32 0] 30)).heap[w.heap.size + 1]? = some (.cells #[.int .u8 0, .bool false, .slice none 0 0, .int .u32 0] 30 (0, 0)) := last_at _ _ _ (by simp)
  have hp1 : ((w.alloc (.cells #[.bool fin, .int .u8 op, .bool mk, .int .u32 key, .slice A d.length c] 26)).alloc (.cells #[.int .u8 0, .bool false, .slice none 0 0, .int .u32 0] 30)).heap[w.heap.size]? = some (.cells #[.bool fin, .int .u8 op, .bool mk, .int .u32 key, .slice A d.length c] 26 (0, 0)) := blk_alloc (last_at _ _ _ rfl) _
  have hf1 := (Fr.refl w g v u).below hw1
  have hu30 := Tryd.underlying30
  have hu26 := Tryd.underlying26
  have HW1 := Aside0.mk hw1
  clear h hd hw1
  go_enter Tryd.func25, Tryd.ntmps25
  go_upto_region 1 with fail
  generalize (w.alloc (.cells #[.bool fin, .int .u8 op, .bool mk, .int .u32 key, .slice A d.length c] 26)).alloc (.cells #[.int .u8 0, .bool false, .slice none 0 0, .int .u32 0] 30) = w1 at hg1 hd1 hr1 hp1 hf1 HW1 ⊢
  have HG1 := Aside0.mk hg1
  have HD1 := Aside0.mk hd1
  have HR1 := Aside0.mk hr1
  have HF1 := Aside0.mk hf1
  have pc0 : w1.cell? ⟨w.heap.size, 0, none⟩ = some (.bool fin) := (blk_cell hp1 0).trans rfl
  have pc1 : w1.cell? ⟨w.heap.size, 1, none⟩ = some (.int .u8 op) := (blk_cell hp1 1).trans rfl
  have pc2 : w1.cell? ⟨w.heap.size, 2, none⟩ = some (.bool mk) := (blk_cell hp1 2).trans rfl
  have pc3 : w1.cell? ⟨w.heap.size, 3, none⟩ = some (.int .u32 key) := (blk_cell hp1 3).trans rfl
  have pc4 : w1.cell? ⟨w.heap.size, 4, none⟩ = some (.slice A d.length c) := (blk_cell hp1 4).trans rfl
  have pl_ := blk_lt hp1
  clear hg1 hd1 hr1 hp1 hf1
  go_wp2_with fail
  refine (socket_any 1002 _).mono ?_
  rintro e w3 ⟨v3, rfl, hbad, hb3⟩
  obtain ⟨q3, rfl, hq3⟩ := hbad
  have hbad : IsBad w3 _ 1002 := ⟨q3, rfl, hq3⟩
  have hr3 := blk_below HR1.out hb3
  have HG3 := Aside0.mk (HG1.out.below hb3)
  have HF3 := Aside0.mk (HF1.out.below hb3)
  have HW3 := Aside0.mk hbad
  have HR3 := Aside0.mk hr3
  clear hbad hq3 hb3 HG1 HF1 HR1 HD1 pc0 pc1 pc2 pc3 pc4 pl_
  have rc0 : w3.cell? ⟨w.heap.size + 1, 0, none⟩ = some (.int .u8 0) := (blk_cell HR3.out 0).trans rfl
  have rf0 := blk_frozen HR3.out 0
  have rc1 : w3.cell? ⟨w.heap.size + 1, 1, none⟩ = some (.bool false) := (blk_cell HR3.out 1).trans rfl
  have rf1 := blk_frozen HR3.out 1
  have rc2 : w3.cell? ⟨w.heap.size + 1, 2, none⟩ = some (.slice none 0 0) := (blk_cell HR3.out 2).trans rfl
  have rf2 := blk_frozen HR3.out 2
  have rc3 : w3.cell? ⟨w.heap.size + 1, 3, none⟩ = some (.int .u32 0) := (blk_cell HR3.out 3).trans rfl
  have rf3 := blk_frozen HR3.out 3
  have rl := blk_lt HR3.out
  clear hr3
  have hle : w0.heap.size ≤ w.heap.size + 1 := Nat.le_succ_of_le HLO.out
  go_wp2_with fail
  exact bodyPost_ret (v := .tuple #[.agg #[.int .u8 0, .bool false, .slice none 0 0, .int .u32 0], .bool false, .iface _ _]) (by simp [results, Tryd.results25, go_sem, rc0, rc1, rc2, rc3]) rfl ⟨_, _, _, _, _, _, _, _, rfl, .inr (bad_off4 HW3.out HR3.out _ _ _ _), (HG3.out.off4 HR3.out hle _ _ _ _).gw, HF3.out.off4 (Nat.le_succ _) _ _ _ _⟩
set_option maxHeartbeats 8000000 in
set_option maxRecDepth 100000 in
theorem Take_more {w0 w : World} {g : Nat} {v u : Value} {b : List Int} {busy text : Bool} {gu : Nat} {f : List Int} {fin : Bool} {op : Int} {mk : Bool} {key : Int} {A : Option Addr} {c : Nat} {d : List Int} (h : Gs w0 w g v u b busy text false gu f) (hd : Dat w (.slice A d.length c) d) {b2 : List Int} {tn : Bool} (hT : ∀ W, Below w.heap.size w W → Gs w0 W g v u b busy text false gu f → Dat W (.slice A d.length c) d → Calls Tryd.prog 25 #[.pointer (some ⟨g, 0, none⟩), .agg #[.bool fin, .int .u8 op, .bool mk, .int .u32 key, .slice A d.length c]] W (TkMore w0 g v u b2 tn W)) : Calls Tryd.prog 14 #[.pointer (some ⟨g, 0, none⟩), .agg #[.bool fin, .int .u8 op, .bool mk, .int .u32 key, .slice A d.length c]] w (TMore w0 g v u b2 tn w) := by
  have HT := Aside0.mk hT
  clear hT
  have HU0 := Aside0.mk h.gw.ulow
  have HLO := Aside0.mk h.gw.bel.size
  have hgl := blk_lt h.gw.blk
  have hw1 : Below w.heap.size w ((w.alloc (.cells #[.bool fin, .int .u8 op, .bool mk, .int .u32 key, .slice A d.length c] 26)).alloc (.cells #[.int .u8 0, .bool false, .slice none 0 0, .int .u32 0] 30)) := below_alloc (below_alloc (Below.refl _ _) _) _
  have hg1 := h.below hw1
  have hd1 := hd.below hw1
  have hr1 : ((w.alloc (.cells #[.bool fin, .int .u8 op, .bool mk, .int .u32 key, .slice A d.length c] 26)).alloc (.cells #[.int .u8 0, .bool false, .slice none 0 0, .int .u32 0] 30)).heap[w.heap.size + 1]? = some (.cells #[.int .u8 0, .bool false, .slice none 0 0, .int .u32 0] 30 (0, 0)) := last_at _ _ _ (by simp)
  have hp1 : ((w.alloc (.cells #[.bool fin, .int .u8 op, .bool mk, .int .u32 key, .slice A d.length c] 26)).alloc (.cells #[.int .u8 0, .bool false, .slice none 0 0, .int .u32 0] 30)).heap[w.heap.size]? = some (.cells #[.bool fin, .int .u8 op, .bool mk, .int .u32 key, .slice A d.length c] 26 (0, 0)) := blk_alloc (last_at _ _ _ rfl) _
  have hf1 := (Fr.refl w g v u).below hw1
  have hu30 := Tryd.underlying30
  have hu26 := Tryd.underlying26
  have HW1 := Aside0.mk hw1
  clear h hd hw1
  go_enter Tryd.func14, Tryd.ntmps14
  go_upto_region 1 with fail
  generalize (w.alloc (.cells #[.bool fin, .int .u8 op, .bool mk, .int .u32 key, .slice A d.length c] 26)).alloc (.cells #[.int .u8 0, .bool false, .slice none 0 0, .int .u32 0] 30) = w1 at hg1 hd1 hr1 hp1 hf1 HW1 ⊢
  have HG1 := Aside0.mk hg1
  have HD1 := Aside0.mk hd1
  have HR1 := Aside0.mk hr1
  have HF1 := Aside0.mk hf1
  have pc0 : w1.cell? ⟨w.heap.size, 0, none⟩ = some (.bool fin) := (blk_cell hp1 0).trans rfl
  have pc1 : w1.cell? ⟨w.heap.size, 1, none⟩ = some (.int .u8 op) := (blk_cell hp1 1).trans rfl
  have pc2 : w1.cell? ⟨w.heap.size, 2, none⟩ = some (.bool mk) := (blk_cell hp1 2).trans rfl
  have pc3 : w1.cell? ⟨w.heap.size, 3, none⟩ = some (.int .u32 key) := (blk_cell hp1 3).trans rfl
  have pc4 : w1.cell? ⟨w.heap.size, 4, none⟩ = some (.slice A d.length c) := (blk_cell hp1 4).trans rfl
  have pl_ := blk_lt hp1
  clear hg1 hd1 hr1 hp1 hf1
  go_wp2_with fail
  refine (over_any g v u busy text false _ HG1.out.gw.blk).mono ?_
  rintro e w1' ⟨rfl, hw1'⟩
  subst hw1'
  go_wp2_with fail
  refine (HT.out w1' HW1.out HG1.out HD1.out).mono ?_
  rintro e w2 hp
  obtain ⟨rfl, v', u', gu', hG, hF, hN⟩ := hp
  have HN2 := Aside0.mk (hN.mono HF1.out.size)
  have HG2 := Aside0.mk hG
  have hr2 : w2.heap[w.heap.size + 1]? = some (.cells #[.int .u8 0, .bool false, .slice none 0 0, .int .u32 0] 30 (0, 0)) := (hF.same _ (blk_lt HR1.out) (fun e => by have := hgl; omega) (fun e => by have := Kd.R_ne HG1.out.gw.row HR1.out (by decide); exact this e) (fun e => by have := HU0.out _ e; omega)).trans HR1.out
  have hF2 : Fr w w2 g v u := ⟨Nat.le_trans HF1.out.size hF.size, fun k hk h1 h2 h3 => (hF.same k (Nat.lt_of_lt_of_le hk HF1.out.size) h1 h2 h3).trans (HF1.out.same k hk h1 h2 h3)⟩
  have HR2 := Aside0.mk hr2
  have HF2 := Aside0.mk hF2
  have hle : w0.heap.size ≤ w.heap.size + 1 := Nat.le_succ_of_le HLO.out
  clear hr2 hF2 HG1 HF1 HR1 HD1 pc0 pc1 pc2 pc3 pc4 pl_
  clear hG hF hN
  go_upto_region 4 with fail
  have hb3 : Below w2.heap.size w2 (w2.alloc (.cells #[.int .u8 0, .bool false, .slice none 0 0, .int .u32 0] 30)) := below_alloc (Below.refl _ _) _
  have hn3 : (w2.alloc (.cells #[.int .u8 0, .bool false, .slice none 0 0, .int .u32 0] 30)).heap[w2.heap.size]? = some (.cells #[.int .u8 0, .bool false, .slice none 0 0, .int .u32 0] 30 (0, 0)) := last_at _ _ _ rfl
  generalize w2.alloc (.cells #[.int .u8 0, .bool false, .slice none 0 0, .int .u32 0] 30) = w3 at hb3 hn3 ⊢
  generalize w2.heap.size = gn at hn3 ⊢
  have HR3 := Aside0.mk (blk_below HR2.out hb3)
  have HF3 := Aside0.mk (HF2.out.below hb3)
  have nc0 : w3.cell? ⟨gn, 0, none⟩ = some (.int .u8 0) := (blk_cell hn3 0).trans rfl
  have nc1 : w3.cell? ⟨gn, 1, none⟩ = some (.bool false) := (blk_cell hn3 1).trans rfl
  have nc2 : w3.cell? ⟨gn, 2, none⟩ = some (.slice none 0 0) := (blk_cell hn3 2).trans rfl
  have nc3 : w3.cell? ⟨gn, 3, none⟩ = some (.int .u32 0) := (blk_cell hn3 3).trans rfl
  have nl := blk_lt hn3
  have rc0 : w3.cell? ⟨w.heap.size + 1, 0, none⟩ = some (.int .u8 0) := (blk_cell HR3.out 0).trans rfl
  have rf0 := blk_frozen HR3.out 0
  have rc1 : w3.cell? ⟨w.heap.size + 1, 1, none⟩ = some (.bool false) := (blk_cell HR3.out 1).trans rfl
  have rf1 := blk_frozen HR3.out 1
  have rc2 : w3.cell? ⟨w.heap.size + 1, 2, none⟩ = some (.slice none 0 0) := (blk_cell HR3.out 2).trans rfl
  have rf2 := blk_frozen HR3.out 2
  have rc3 : w3.cell? ⟨w.heap.size + 1, 3, none⟩ = some (.int .u32 0) := (blk_cell HR3.out 3).trans rfl
  have rf3 := blk_frozen HR3.out 3
  have rl := blk_lt HR3.out
  have HG3 := Aside0.mk (HG2.out.below hb3)
  have go4 : w3.cell? ⟨g, 4, none⟩ = some (.bool false) := (blk_cell HG3.out.gw.blk 4).trans rfl
  clear hb3 hn3 HG2
  go_wp2_with fail
  exact bodyPost_ret (v := .tuple #[.agg #[.int .u8 0, .bool false, .slice none 0 0, .int .u32 0], .bool false]) (by simp [results, Tryd.results14, go_sem, rc0, rc1, rc2, rc3]) rfl ⟨rfl, _, _, _, HG3.out.off4 HR3.out hle _ _ _ _, HF3.out.off4 (Nat.le_succ _) _ _ _ _, HN2.out⟩
set_option maxHeartbeats 8000000 in
set_option maxRecDepth 100000 in
theorem Take_told {w0 w : World} {g : Nat} {v u : Value} {b : List Int} {busy text : Bool} {gu : Nat} {f : List Int} {fin : Bool} {op : Int} {mk : Bool} {key : Int} {A : Option Addr} {c : Nat} {d : List Int} (h : Gs w0 w g v u b busy text false gu f) (hd : Dat w (.slice A d.length c) d) {b2 : List Int} {tn : Bool} (hT : ∀ W, Below w.heap.size w W → Gs w0 W g v u b busy text false gu f → Dat W (.slice A d.length c) d → Calls Tryd.prog 25 #[.pointer (some ⟨g, 0, none⟩), .agg #[.bool fin, .int .u8 op, .bool mk, .int .u32 key, .slice A d.length c]] W (TkTold w0 g v u b2 tn W)) : Calls Tryd.prog 14 #[.pointer (some ⟨g, 0, none⟩), .agg #[.bool fin, .int .u8 op, .bool mk, .int .u32 key, .slice A d.length c]] w (TTold w0 g v u b2 tn w) := by
  have HT := Aside0.mk hT
  clear hT
  have HU0 := Aside0.mk h.gw.ulow
  have HLO := Aside0.mk h.gw.bel.size
  have hgl := blk_lt h.gw.blk
  have hw1 : Below w.heap.size w ((w.alloc (.cells #[.bool fin, .int .u8 op, .bool mk, .int .u32 key, .slice A d.length c] 26)).alloc (.cells #[.int .u8 0, .bool false, .slice none 0 0, .int .u32 0] 30)) := below_alloc (below_alloc (Below.refl _ _) _) _
  have hg1 := h.below hw1
  have hd1 := hd.below hw1
  have hr1 : ((w.alloc (.cells #[.bool fin, .int .u8 op, .bool mk, .int .u32 key, .slice A d.length c] 26)).alloc (.cells #[.int .u8 0, .bool false, .slice none 0 0, .int .u32 0] 30)).heap[w.heap.size + 1]? = some (.cells #[.int .u8 0, .bool false, .slice none 0 0, .int .u32 0] 30 (0, 0)) := last_at _ _ _ (by simp)
  have hp1 : ((w.alloc (.cells #[.bool fin, .int .u8 op, .bool mk, .int .u32 key, .slice A d.length c] 26)).alloc (.cells #[.int .u8 0, .bool false, .slice none 0 0, .int .u32 0] 30)).heap[w.heap.size]? = some (.cells #[.bool fin, .int .u8 op, .bool mk, .int .u32 key, .slice A d.length c] 26 (0, 0)) := blk_alloc (last_at _ _ _ rfl) _
  have hf1 := (Fr.refl w g v u).below hw1
  have hu30 := Tryd.underlying30
  have hu26 := Tryd.underlying26
  have HW1 := Aside0.mk hw1
  clear h hd hw1
  go_enter Tryd.func14, Tryd.ntmps14
  go_upto_region 1 with fail
  generalize (w.alloc (.cells #[.bool fin, .int .u8 op, .bool mk, .int .u32 key, .slice A d.length c] 26)).alloc (.cells #[.int .u8 0, .bool false, .slice none 0 0, .int .u32 0] 30) = w1 at hg1 hd1 hr1 hp1 hf1 HW1 ⊢
  have HG1 := Aside0.mk hg1
  have HD1 := Aside0.mk hd1
  have HR1 := Aside0.mk hr1
  have HF1 := Aside0.mk hf1
  have pc0 : w1.cell? ⟨w.heap.size, 0, none⟩ = some (.bool fin) := (blk_cell hp1 0).trans rfl
  have pc1 : w1.cell? ⟨w.heap.size, 1, none⟩ = some (.int .u8 op) := (blk_cell hp1 1).trans rfl
  have pc2 : w1.cell? ⟨w.heap.size, 2, none⟩ = some (.bool mk) := (blk_cell hp1 2).trans rfl
  have pc3 : w1.cell? ⟨w.heap.size, 3, none⟩ = some (.int .u32 key) := (blk_cell hp1 3).trans rfl
  have pc4 : w1.cell? ⟨w.heap.size, 4, none⟩ = some (.slice A d.length c) := (blk_cell hp1 4).trans rfl
  have pl_ := blk_lt hp1
  clear hg1 hd1 hr1 hp1 hf1
  go_wp2_with fail
  refine (over_any g v u busy text false _ HG1.out.gw.blk).mono ?_
  rintro e w1' ⟨rfl, hw1'⟩
  subst hw1'
  go_wp2_with fail
  refine (HT.out w1' HW1.out HG1.out HD1.out).mono ?_
  rintro e w2 hp
  obtain ⟨vn, u', rfl, hG, hR, hF, hN⟩ := hp
  obtain ⟨An, cn, rfl⟩ := Kd.R_slice hR
  have HN2 := Aside0.mk (hN.mono HF1.out.size)
  have HG2 := Aside0.mk hG
  have HRW2 := Aside0.mk hR
  have hr2 : w2.heap[w.heap.size + 1]? = some (.cells #[.int .u8 0, .bool false, .slice none 0 0, .int .u32 0] 30 (0, 0)) := (hF.same _ (blk_lt HR1.out) (fun e => by have := hgl; omega) (fun e => by have := Kd.R_ne HG1.out.gw.row HR1.out (by decide); exact this e) (fun e => by have := HU0.out _ e; omega)).trans HR1.out
  have hF2 : Fr w w2 g v u := ⟨Nat.le_trans HF1.out.size hF.size, fun k hk h1 h2 h3 => (hF.same k (Nat.lt_of_lt_of_le hk HF1.out.size) h1 h2 h3).trans (HF1.out.same k hk h1 h2 h3)⟩
  have HR2 := Aside0.mk hr2
  have HF2 := Aside0.mk hF2
  have hle : w0.heap.size ≤ w.heap.size + 1 := Nat.le_succ_of_le HLO.out
  clear hr2 hF2 HG1 HF1 HR1 HD1 pc0 pc1 pc2 pc3 pc4 pl_
  clear hG hF hN hR
  go_upto_region 4 with fail
  have hb3 : Below w2.heap.size w2 (w2.alloc (.cells #[.int .u8 1, .bool tn, .slice An b2.length cn, .int .u32 0] 30)) := below_alloc (Below.refl _ _) _
  have hn3 : (w2.alloc (.cells #[.int .u8 1, .bool tn, .slice An b2.length cn, .int .u32 0] 30)).heap[w2.heap.size]? = some (.cells #[.int .u8 1, .bool tn, .slice An b2.length cn, .int .u32 0] 30 (0, 0)) := last_at _ _ _ rfl
  generalize w2.alloc (.cells #[.int .u8 1, .bool tn, .slice An b2.length cn, .int .u32 0] 30) = w3 at hb3 hn3 ⊢
  generalize w2.heap.size = gn at hn3 ⊢
  have HR3 := Aside0.mk (blk_below HR2.out hb3)
  have HF3 := Aside0.mk (HF2.out.below hb3)
  have nc0 : w3.cell? ⟨gn, 0, none⟩ = some (.int .u8 1) := (blk_cell hn3 0).trans rfl
  have nc1 : w3.cell? ⟨gn, 1, none⟩ = some (.bool tn) := (blk_cell hn3 1).trans rfl
  have nc2 : w3.cell? ⟨gn, 2, none⟩ = some (.slice An b2.length cn) := (blk_cell hn3 2).trans rfl
  have nc3 : w3.cell? ⟨gn, 3, none⟩ = some (.int .u32 0) := (blk_cell hn3 3).trans rfl
  have nl := blk_lt hn3
  have rc0 : w3.cell? ⟨w.heap.size + 1, 0, none⟩ = some (.int .u8 0) := (blk_cell HR3.out 0).trans rfl
  have rf0 := blk_frozen HR3.out 0
  have rc1 : w3.cell? ⟨w.heap.size + 1, 1, none⟩ = some (.bool false) := (blk_cell HR3.out 1).trans rfl
  have rf1 := blk_frozen HR3.out 1
  have rc2 : w3.cell? ⟨w.heap.size + 1, 2, none⟩ = some (.slice none 0 0) := (blk_cell HR3.out 2).trans rfl
  have rf2 := blk_frozen HR3.out 2
  have rc3 : w3.cell? ⟨w.heap.size + 1, 3, none⟩ = some (.int .u32 0) := (blk_cell HR3.out 3).trans rfl
  have rf3 := blk_frozen HR3.out 3
  have rl := blk_lt HR3.out
  have HG3 := Aside0.mk (HG2.out.below hb3)
  have HRW3 := Aside0.mk (Kd.R_below HRW2.out hb3)
  have go4 : w3.cell? ⟨g, 4, none⟩ = some (.bool false) := (blk_cell HG3.out.blk 4).trans rfl
  clear hb3 hn3 HG2 HRW2
  go_wp2_with fail
  exact bodyPost_ret (v := .tuple #[.agg #[.int .u8 1, .bool tn, .slice An b2.length cn, .int .u32 0], .bool true]) (by simp [results, Tryd.results14, go_sem, rc0, rc1, rc2, rc3]) rfl ⟨_, _, rfl, HG3.out.off4 HR3.out hle _ _ _ _, row_off4 HRW3.out HR3.out _ _ _ _, HF3.out.off4 (Nat.le_succ _) _ _ _ _, HN2.out⟩
set_option maxHeartbeats 8000000 in
set_option maxRecDepth 100000 in
theorem Take_note {w0 w : World} {g : Nat} {v u : Value} {b : List Int} {busy text : Bool} {gu : Nat} {f : List Int} {fin : Bool} {op : Int} {mk : Bool} {key : Int} {A : Option Addr} {c : Nat} {d : List Int} (h : Gs w0 w g v u b busy text false gu f) (hd : Dat w (.slice A d.length c) d) {kk : Int} (hT : ∀ W, Below w.heap.size w W → Gs w0 W g v u b busy text false gu f → Dat W (.slice A d.length c) d → Calls Tryd.prog 25 #[.pointer (some ⟨g, 0, none⟩), .agg #[.bool fin, .int .u8 op, .bool mk, .int .u32 key, .slice A d.length c]] W (TkNote w0 g v u b busy text gu f kk d W)) : Calls Tryd.prog 14 #[.pointer (some ⟨g, 0, none⟩), .agg #[.bool fin, .int .u8 op, .bool mk, .int .u32 key, .slice A d.length c]] w (TNote w0 g v u b busy text gu f kk d w) := by
  have HT := Aside0.mk hT
  clear hT
  have HU0 := Aside0.mk h.gw.ulow
  have HLO := Aside0.mk h.gw.bel.size
  have hgl := blk_lt h.gw.blk
  have hw1 : Below w.heap.size w ((w.alloc (.cells #[.bool fin, .int .u8 op, .bool mk, .int .u32 key, .slice A d.length c] 26)).alloc (.cells #[.int .u8 0, .bool false, .slice none 0 0, .int .u32 0] 30)) := below_alloc (below_alloc (Below.refl _ _) _) _
  have hg1 := h.below hw1
  have hd1 := hd.below hw1
  have hr1 : ((w.alloc (.cells #[.bool fin, .int .u8 op, .bool mk, .int .u32 key, .slice A d.length c] 26)).alloc (.cells #[.int .u8 0, .bool false, .slice none 0 0, .int .u32 0] 30)).heap[w.heap.size + 1]? = some (.cells #[.int .u8 0, .bool false, .slice none 0 0, .int .u32 0] 30 (0, 0)) := last_at _ _ _ (by simp)
  have hp1 : ((w.alloc (.cells #[.bool fin, .int .u8 op, .bool mk, .int .u32 key, .slice A d.length c] 26)).alloc (.cells #[.int .u8 0, .bool false, .slice none 0 0, .int .u32 0] 30)).heap[w.heap.size]? = some (.cells #[.bool fin, .int .u8 op, .bool mk, .int .u32 key, .slice A d.length c] 26 (0, 0)) := blk_alloc (last_at _ _ _ rfl) _
  have hf1 := (Fr.refl w g v u).below hw1
  have hu30 := Tryd.underlying30
  have hu26 := Tryd.underlying26
  have HW1 := Aside0.mk hw1
  clear h hd hw1
  go_enter Tryd.func14, Tryd.ntmps14
  go_upto_region 1 with fail
  generalize (w.alloc (.cells #[.bool fin, .int .u8 op, .bool mk, .int .u32 key, .slice A d.length c] 26)).alloc (.cells #[.int .u8 0, .bool false, .slice none 0 0, .int .u32 0] 30) = w1 at hg1 hd1 hr1 hp1 hf1 HW1 ⊢
  have HG1 := Aside0.mk hg1
  have HD1 := Aside0.mk hd1
  have HR1 := Aside0.mk hr1
  have HF1 := Aside0.mk hf1
  have pc0 : w1.cell? ⟨w.heap.size, 0, none⟩ = some (.bool fin) := (blk_cell hp1 0).trans rfl
  have pc1 : w1.cell? ⟨w.heap.size, 1, none⟩ = some (.int .u8 op) := (blk_cell hp1 1).trans rfl
  have pc2 : w1.cell? ⟨w.heap.size, 2, none⟩ = some (.bool mk) := (blk_cell hp1 2).trans rfl
  have pc3 : w1.cell? ⟨w.heap.size, 3, none⟩ = some (.int .u32 key) := (blk_cell hp1 3).trans rfl
  have pc4 : w1.cell? ⟨w.heap.size, 4, none⟩ = some (.slice A d.length c) := (blk_cell hp1 4).trans rfl
  have pl_ := blk_lt hp1
  clear hg1 hd1 hr1 hp1 hf1
  go_wp2_with fail
  refine (over_any g v u busy text false _ HG1.out.gw.blk).mono ?_
  rintro e w1' ⟨rfl, hw1'⟩
  subst hw1'
  go_wp2_with fail
  refine (HT.out w1' HW1.out HG1.out HD1.out).mono ?_
  rintro e w2 hp
  obtain ⟨vn, rfl, hG, hR, hF⟩ := hp
  obtain ⟨An, cn, rfl⟩ := Kd.R_slice hR
  have HG2 := Aside0.mk hG
  have HRW2 := Aside0.mk (Kd.R_lower hR HW1.out.size)
  have hr2 : w2.heap[w.heap.size + 1]? = some (.cells #[.int .u8 0, .bool false, .slice none 0 0, .int .u32 0] 30 (0, 0)) := (hF.same _ (blk_lt HR1.out) (fun e => by have := hgl; omega) (fun e => by have := Kd.R_ne HG1.out.gw.row HR1.out (by decide); exact this e) (fun e => by have := HU0.out _ e; omega)).trans HR1.out
  have hF2 : Fr w w2 g v u := ⟨Nat.le_trans HF1.out.size hF.size, fun k hk h1 h2 h3 => (hF.same k (Nat.lt_of_lt_of_le hk HF1.out.size) h1 h2 h3).trans (HF1.out.same k hk h1 h2 h3)⟩
  have HR2 := Aside0.mk hr2
  have HF2 := Aside0.mk hF2
  have hle : w0.heap.size ≤ w.heap.size + 1 := Nat.le_succ_of_le HLO.out
  clear hr2 hF2 HG1 HF1 HR1 HD1 pc0 pc1 pc2 pc3 pc4 pl_
  clear hG hF hR
  go_upto_region 4 with fail
  have hb3 : Below w2.heap.size w2 (w2.alloc (.cells #[.int .u8 kk, .bool false, .slice An d.length cn, .int .u32 0] 30)) := below_alloc (Below.refl _ _) _
  have hn3 : (w2.alloc (.cells #[.int .u8 kk, .bool false, .slice An d.length cn, .int .u32 0] 30)).heap[w2.heap.size]? = some (.cells #[.int .u8 kk, .bool false, .slice An d.length cn, .int .u32 0] 30 (0, 0)) := last_at _ _ _ rfl
  generalize w2.alloc (.cells #[.int .u8 kk, .bool false, .slice An d.length cn, .int .u32 0] 30) = w3 at hb3 hn3 ⊢
  generalize w2.heap.size = gn at hn3 ⊢
  have HR3 := Aside0.mk (blk_below HR2.out hb3)
  have HF3 := Aside0.mk (HF2.out.below hb3)
  have nc0 : w3.cell? ⟨gn, 0, none⟩ = some (.int .u8 kk) := (blk_cell hn3 0).trans rfl
  have nc1 : w3.cell? ⟨gn, 1, none⟩ = some (.bool false) := (blk_cell hn3 1).trans rfl
  have nc2 : w3.cell? ⟨gn, 2, none⟩ = some (.slice An d.length cn) := (blk_cell hn3 2).trans rfl
  have nc3 : w3.cell? ⟨gn, 3, none⟩ = some (.int .u32 0) := (blk_cell hn3 3).trans rfl
  have nl := blk_lt hn3
  have rc0 : w3.cell? ⟨w.heap.size + 1, 0, none⟩ = some (.int .u8 0) := (blk_cell HR3.out 0).trans rfl
  have rf0 := blk_frozen HR3.out 0
  have rc1 : w3.cell? ⟨w.heap.size + 1, 1, none⟩ = some (.bool false) := (blk_cell HR3.out 1).trans rfl
  have rf1 := blk_frozen HR3.out 1
  have rc2 : w3.cell? ⟨w.heap.size + 1, 2, none⟩ = some (.slice none 0 0) := (blk_cell HR3.out 2).trans rfl
  have rf2 := blk_frozen HR3.out 2
  have rc3 : w3.cell? ⟨w.heap.size + 1, 3, none⟩ = some (.int .u32 0) := (blk_cell HR3.out 3).trans rfl
  have rf3 := blk_frozen HR3.out 3
  have rl := blk_lt HR3.out
  have HG3 := Aside0.mk (HG2.out.below hb3)
  have HRW3 := Aside0.mk (Kd.R_below HRW2.out hb3)
  have go4 : w3.cell? ⟨g, 4, none⟩ = some (.bool false) := (blk_cell HG3.out.gw.blk 4).trans rfl
  clear hb3 hn3 HG2 HRW2
  go_wp2_with fail
  exact bodyPost_ret (v := .tuple #[.agg #[.int .u8 kk, .bool false, .slice An d.length cn, .int .u32 0], .bool true]) (by simp [results, Tryd.results14, go_sem, rc0, rc1, rc2, rc3]) rfl ⟨_, rfl, HG3.out.off4 HR3.out hle _ _ _ _, row_off4 HRW3.out HR3.out _ _ _ _, HF3.out.off4 (Nat.le_succ _) _ _ _ _⟩
set_option maxHeartbeats 8000000 in
set_option maxRecDepth 100000 in
theorem Take_bad {w0 w : World} {g : Nat} {v u : Value} {b : List Int} {busy text : Bool} {gu : Nat} {f : List Int} {fin : Bool} {op : Int} {mk : Bool} {key : Int} {A : Option Addr} {c : Nat} {d : List Int} (h : Gs w0 w g v u b busy text false gu f) (hd : Dat w (.slice A d.length c) d) {code : Int} (hg : Cond w0) (hT : ∀ W, Below w.heap.size w W → Gs w0 W g v u b busy text false gu f → Dat W (.slice A d.length c) d → Calls Tryd.prog 25 #[.pointer (some ⟨g, 0, none⟩), .agg #[.bool fin, .int .u8 op, .bool mk, .int .u32 key, .slice A d.length c]] W (TkBad w0 g v u code W)) : Calls Tryd.prog 14 #[.pointer (some ⟨g, 0, none⟩), .agg #[.bool fin, .int .u8 op, .bool mk, .int .u32 key, .slice A d.length c]] w (TBad w0 g v u code w) := by
  have HT := Aside0.mk hT
  clear hT
  have HCN := Aside0.mk hg
  clear hg
  have HU0 := Aside0.mk h.gw.ulow
  have HLO := Aside0.mk h.gw.bel.size
  have hgl := blk_lt h.gw.blk
  have hw1 : Below w.heap.size w ((w.alloc (.cells #[.bool fin, .int .u8 op, .bool mk, .int .u32 key, .slice A d.length c] 26)).alloc (.cells #[.int .u8 0, .bool false, .slice none 0 0, .int .u32 0] 30)) := below_alloc (below_alloc (Below.refl _ _) _) _
  have hg1 := h.below hw1
  have hd1 := hd.below hw1
  have hr1 : ((w.alloc (.cells #[.bool fin, .int .u8 op, .bool mk, .int .u32 key, .slice A d.length c] 26)).alloc (.cells #[.int .u8 0, .bool false, .slice none 0 0, .int .u32 0] 30)).heap[w.heap.size + 1]? = some (.cells #[.int .u8 0, .bool false, .slice none 0 0, .int .u32 0] 30 (0, 0)) := last_at _ _ _ (by simp)
  have hp1 : ((w.alloc (.cells #[.bool fin, .int .u8 op, .bool mk, .int .u32 key, .slice A d.length c] 26)).alloc (.cells #[.int .u8 0, .bool false, .slice none 0 0, .int .u32 0] 30)).heap[w.heap.size]? = some (.cells #[.bool fin, .int .u8 op, .bool mk, .int .u32 key, .slice A d.length c] 26 (0, 0)) := blk_alloc (last_at _ _ _ rfl) _
  have hf1 := (Fr.refl w g v u).below hw1
  have hu30 := Tryd.underlying30
  have hu26 := Tryd.underlying26
  have HW1 := Aside0.mk hw1
  clear h hd hw1
  go_enter Tryd.func14, Tryd.ntmps14
  go_upto_region 1 with fail
  generalize (w.alloc (.cells #[.bool fin, .int .u8 op, .bool mk, .int .u32 key, .slice A d.length c] 26)).alloc (.cells #[.int .u8 0, .bool false, .slice none 0 0, .int .u32 0] 30) = w1 at hg1 hd1 hr1 hp1 hf1 HW1 ⊢
  have HG1 := Aside0.mk hg1
  have HD1 := Aside0.mk hd1
  have HR1 := Aside0.mk hr1
  have HF1 := Aside0.mk hf1
  have pc0 : w1.cell? ⟨w.heap.size, 0, none⟩ = some (.bool fin) := (blk_cell hp1 0).trans rfl
  have pc1 : w1.cell? ⟨w.heap.size, 1, none⟩ = some (.int .u8 op) := (blk_cell hp1 1).trans rfl
  have pc2 : w1.cell? ⟨w.heap.size, 2, none⟩ = some (.bool mk) := (blk_cell hp1 2).trans rfl
  have pc3 : w1.cell? ⟨w.heap.size, 3, none⟩ = some (.int .u32 key) := (blk_cell hp1 3).trans rfl
  have pc4 : w1.cell? ⟨w.heap.size, 4, none⟩ = some (.slice A d.length c) := (blk_cell hp1 4).trans rfl
  have pl_ := blk_lt hp1
  clear hg1 hd1 hr1 hp1 hf1
  go_wp2_with fail
  refine (over_any g v u busy text false _ HG1.out.gw.blk).mono ?_
  rintro e w1' ⟨rfl, hw1'⟩
  subst hw1'
  go_wp2_with fail
  refine (HT.out w1' HW1.out HG1.out HD1.out).mono ?_
  rintro e w2 hp
  obtain ⟨ok, ve, v', u', b', bu, te, ov, rfl, hve, hG, hF⟩ := hp
  obtain ⟨Av', cv', rfl⟩ := Kd.R_slice hG.row
  have HG2 := Aside0.mk hG
  have HVE := Aside0.mk hve
  have hvi : ∃ t q, ve = .iface t q := by
    rcases hve with ⟨q, s, v2, e, _, _⟩ | ⟨q, e, _⟩
    · exact ⟨_, _, e⟩
    · exact ⟨_, _, e⟩
  obtain ⟨tve, qve, rfl⟩ := hvi
  have hr2 : w2.heap[w.heap.size + 1]? = some (.cells #[.int .u8 0, .bool false, .slice none 0 0, .int .u32 0] 30 (0, 0)) := (hF.same _ (blk_lt HR1.out) (fun e => by have := hgl; omega) (fun e => by have := Kd.R_ne HG1.out.gw.row HR1.out (by decide); exact this e) (fun e => by have := HU0.out _ e; omega)).trans HR1.out
  have hF2 : Fr w w2 g v u := ⟨Nat.le_trans HF1.out.size hF.size, fun k hk h1 h2 h3 => (hF.same k (Nat.lt_of_lt_of_le hk HF1.out.size) h1 h2 h3).trans (HF1.out.same k hk h1 h2 h3)⟩
  have HR2 := Aside0.mk hr2
  have HF2 := Aside0.mk hF2
  have hle : w0.heap.size ≤ w.heap.size + 1 := Nat.le_succ_of_le HLO.out
  clear hr2 hF2 HG1 HF1 HR1 HD1 pc0 pc1 pc2 pc3 pc4 pl_
  clear hG hF hve
  go_upto_region 4 with fail
  have hb3 : Below w2.heap.size w2 (w2.alloc (.cells #[.int .u8 0, .bool false, .slice none 0 0, .int .u32 0] 30)) := below_alloc (Below.refl _ _) _
  generalize w2.alloc (.cells #[.int .u8 0, .bool false, .slice none 0 0, .int .u32 0] 30) = w3 at hb3 ⊢
  generalize w2.heap.size = gn
  have HR3 := Aside0.mk (blk_below HR2.out hb3)
  have HF3 := Aside0.mk (HF2.out.below hb3)
  have HG3 := Aside0.mk (HG2.out.below hb3)
  have HV3 : Aside0 (IsWr w3 (.iface tve qve) code ∨ IsBad w3 (.iface tve qve) code) := ⟨HVE.out.imp (fun h => h.below hb3) (fun h => h.below hb3)⟩
  clear hb3 HG2 HF2 HR2 HVE
  have gc0 : w3.cell? ⟨g, 0, none⟩ = some (.slice Av' b'.length cv') := (blk_cell HG3.out.blk 0).trans rfl
  have gf0 := blk_frozen HG3.out.blk 0
  have gc1 : w3.cell? ⟨g, 1, none⟩ = some (.bool bu) := (blk_cell HG3.out.blk 1).trans rfl
  have gf1 := blk_frozen HG3.out.blk 1
  have gc4 : w3.cell? ⟨g, 4, none⟩ = some (.bool ov) := (blk_cell HG3.out.blk 4).trans rfl
  have gf4 := blk_frozen HG3.out.blk 4
  have gl := blk_lt HG3.out.blk
  go_upto_region 6 with fail
  have hgr : w.heap.size + 1 ≠ g := blk_ne HR3.out HG3.out.blk (by decide)
  have hst : ∀ (W : World) (j : Nat) (x : Value) (q : Nat), q ≠ g → (W.setCell ⟨g, j, none⟩ x).heap[q]? = W.heap[q]? := fun W j x q hq => Below.heap_setCell W ⟨g, j, none⟩ x q hq
  have hG5 : Gw w0 (((w3.setCell ⟨g, 4, none⟩ (.bool true)).setCell ⟨g, 0, none⟩ (.slice none 0 0)).setCell ⟨g, 1, none⟩ (.bool false)) g (.slice none 0 0) u' [] false te true := ((HG3.out.setOver true).setNil).setBusy false
  have hF5 : Fr w (((w3.setCell ⟨g, 4, none⟩ (.bool true)).setCell ⟨g, 0, none⟩ (.slice none 0 0)).setCell ⟨g, 1, none⟩ (.bool false)) g v u := ((HF3.out.set 4 _).set 0 _).set 1 _
  have hr5 : (((w3.setCell ⟨g, 4, none⟩ (.bool true)).setCell ⟨g, 0, none⟩ (.slice none 0 0)).setCell ⟨g, 1, none⟩ (.bool false)).heap[w.heap.size + 1]? = some (.cells #[.int .u8 0, .bool false, .slice none 0 0, .int .u32 0] 30 (0, 0)) := (hst _ _ _ _ hgr).trans ((hst _ _ _ _ hgr).trans ((hst _ _ _ _ hgr).trans HR3.out))
  have hst3 : ∀ (q : Nat) (o : Obj), w3.heap[q]? = some o → (∀ cs, o ≠ .cells cs 60 (0, 0)) → (((w3.setCell ⟨g, 4, none⟩ (.bool true)).setCell ⟨g, 0, none⟩ (.slice none 0 0)).setCell ⟨g, 1, none⟩ (.bool false)).heap[q]? = some o := fun q o hq ho => by
    have hqg : q ≠ g := fun e => by
      rw [e, show w3.heap[g]? = _ from HG3.out.blk] at hq
      injection hq with hq
      exact ho _ hq.symm
    exact (hst _ _ _ _ hqg).trans ((hst _ _ _ _ hqg).trans ((hst _ _ _ _ hqg).trans hq))
  have hv5 : IsWr (((w3.setCell ⟨g, 4, none⟩ (.bool true)).setCell ⟨g, 0, none⟩ (.slice none 0 0)).setCell ⟨g, 1, none⟩ (.bool false)) (.iface tve qve) code ∨ IsBad (((w3.setCell ⟨g, 4, none⟩ (.bool true)).setCell ⟨g, 0, none⟩ (.slice none 0 0)).setCell ⟨g, 1, none⟩ (.bool false)) (.iface tve qve) code := by
    have hbb : ∀ (z : Value), IsBad w3 z code → IsBad (((w3.setCell ⟨g, 4, none⟩ (.bool true)).setCell ⟨g, 0, none⟩ (.slice none 0 0)).setCell ⟨g, 1, none⟩ (.bool false)) z code := fun z hz => by
      obtain ⟨q, e, hq⟩ := hz
      exact ⟨q, e, hst3 _ _ hq (fun cs e => by injection e with _ e _; exact absurd e (by decide))⟩
    rcases HV3.out with ⟨q, s, v2, e, hq, hb⟩ | hb
    · exact .inl ⟨q, s, v2, e, hst3 _ _ hq (fun cs e => by injection e with _ e _; exact absurd e (by decide)), hbb _ hb⟩
    · exact .inr (hbb _ hb)
  have hc5 : Cond (((w3.setCell ⟨g, 4, none⟩ (.bool true)).setCell ⟨g, 0, none⟩ (.slice none 0 0)).setCell ⟨g, 1, none⟩ (.bool false)) := HCN.out.below hG5.bel
  generalize (((w3.setCell ⟨g, 4, none⟩ (.bool true)).setCell ⟨g, 0, none⟩ (.slice none 0 0)).setCell ⟨g, 1, none⟩ (.bool false)) = w5 at hG5 hF5 hr5 hv5 hc5 ⊢
  clear gc0 gc1 gc4 gf0 gf1 gf4 gl HG3 HF3 HR3 HV3 hst hst3
  have HG5 := Aside0.mk hG5
  have HF5 := Aside0.mk hF5
  have HR5 := Aside0.mk hr5
  have HC5 := Aside0.mk hc5
  clear hG5 hF5 hr5 hc5
  have hof : Calls Tryd.prog 26 #[.iface tve qve] w5 fun e w' => e = .returned (.agg #[.int .u8 3, .int .u32 code]) ∧ Below w5.heap.size w5 w' := by
    rcases hv5 with h | h
    · exact of_wr _ _ _ h HC5.out
    · exact of_bad _ _ _ h HC5.out
  clear hv5
  go_wp2_with fail
  refine hof.mono ?_
  rintro e w6 ⟨rfl, hb6⟩
  have HG6 := Aside0.mk (HG5.out.below hb6)
  have HF6 := Aside0.mk (HF5.out.below hb6)
  have HR6 := Aside0.mk (blk_below HR5.out hb6)
  have rc0 : w6.cell? ⟨w.heap.size + 1, 0, none⟩ = some (.int .u8 0) := (blk_cell HR6.out 0).trans rfl
  have rf0 := blk_frozen HR6.out 0
  have rc1 : w6.cell? ⟨w.heap.size + 1, 1, none⟩ = some (.bool false) := (blk_cell HR6.out 1).trans rfl
  have rf1 := blk_frozen HR6.out 1
  have rc2 : w6.cell? ⟨w.heap.size + 1, 2, none⟩ = some (.slice none 0 0) := (blk_cell HR6.out 2).trans rfl
  have rf2 := blk_frozen HR6.out 2
  have rc3 : w6.cell? ⟨w.heap.size + 1, 3, none⟩ = some (.int .u32 0) := (blk_cell HR6.out 3).trans rfl
  have rf3 := blk_frozen HR6.out 3
  have rl := blk_lt HR6.out
  clear hb6 HG5 HF5 HR5 HC5 hof
  have hff_ := field66_1
  go_wp2_with fail
  exact bodyPost_ret (v := .tuple #[.agg #[.int .u8 5, .bool false, .slice none 0 0, .int .u32 code], .bool true]) (by simp [results, Tryd.results14, go_sem, rc0, rc1, rc2, rc3]) rfl ⟨rfl, _, _, HG6.out.off4 HR6.out hle _ _ _ _, HF6.out.off4 (Nat.le_succ _) _ _ _ _⟩
end Go.Proofs.YtbjjobifpmjhhaaDoor

/- message.Cut: a message's frames. -/

/- Take of an over gatherer; rows beside a gatherer. -/
namespace Go.Proofs.YtbjjobifpmjhhaaDoor
open Go.RowKit Go.Proofs.YtbjjobifpmjhhaaDoorW.PrintWords Go.Proofs.YtbjjobifpmjhhaaDoorW.PrintLast Go.Proofs.YtbjjobifpmjhhaaDoorW.PrintMore Go.Proofs.YtbjjobifpmjhhaaDoor.PAll Go.Proofs.YtbjjobifpmjhhaaDoor.U
set_option linter.unusedVariables false
set_option linter.unusedSimpArgs false
set_option maxHeartbeats 4000000 in
set_option maxRecDepth 100000 in
theorem Take_over {w0 w : World} {g : Nat} {v u : Value} {b : List Int} {busy text : Bool} {fin : Bool} {op : Int} {mk : Bool} {key : Int} {A : Option Addr} {c : Nat} {n : Nat} (h : Gw w0 w g v u b busy text true) : Calls Tryd.prog 14 #[.pointer (some ⟨g, 0, none⟩), .agg #[.bool fin, .int .u8 op, .bool mk, .int .u32 key, .slice A n c]] w fun e w' => e = .returned (.tuple #[.agg #[.int .u8 0, .bool false, .slice none 0 0, .int .u32 0], .bool false]) ∧ Below w.heap.size w w' := by
  have hu30 := Tryd.underlying30
  have hu26 := Tryd.underlying26
  have HG := Aside0.mk h
  clear h
  go_enter Tryd.func14, Tryd.ntmps14
  go_wp2_with fail
  refine (over_any g v u busy text true _ (HG.out.below (below_alloc (below_alloc (Below.refl _ _) _) _)).blk).mono ?_
  rintro e w1 ⟨rfl, hw1⟩
  subst hw1
  have hle : w.heap.size ≤ w.heap.size + 1 := by omega
  go_wp2_with fail
  exact bodyPost_ret (v := .tuple #[.agg #[.int .u8 0, .bool false, .slice none 0 0, .int .u32 0], .bool false]) (by simp [results, Tryd.results14, go_sem]) rfl ⟨rfl, by repeat (first | exact Below.refl _ _ | apply below_alloc | refine Below.setCell ?_ hle _)⟩
/-- A row apart from the gatherer stays as it is. -/
theorem Fr.rows {α : Type} {d : Kd α} {e : Nat} {w0 w W : World} {g base : Nat} {v v' u pv : Value} {b : List Int} {busy text over : Bool} {ps : List α} (hg : Gw w0 w g v u b busy text over) (hf : Fr w W g v u) (hn : NewOr w v v') (he : ∀ q, q ∈ e :: d.E → q ≠ 60 ∧ q ≠ 107) (h : d.R e w base (fun q => some q ≠ v.ownBlock) pv ps) : d.R e W base (fun q => some q ≠ v'.ownBlock) pv ps := by
  have h1 := Kd.R_bound (Kd.R_types h hg.blk (fun q hq => (he q hq).1))
  have h2 := Kd.R_step h1 (w1 := W) (fun k hk hlt => hf.same k hlt hk.1.2 hk.1.1 (fun eu => by
    obtain ⟨_, _, _, q, hq, cs, hc⟩ := hk
    obtain ⟨cu, hcu⟩ := hg.uty k eu
    rw [hcu] at hc
    injection hc with hc
    injection hc with _ hc _
    exact (he q hq).2 hc.symm))
  refine Kd.R_mono h2 (fun k hk ek => ?_)
  rcases hn with e1 | e1 | ⟨j, e1, hj⟩
  · exact hk.1.1 (ek.trans e1)
  · rw [e1] at ek; cases ek
  · rw [e1] at ek
    injection ek with ek
    have := hk.2.2.1
    omega
theorem TakeMore {w0 w : World} {g : Nat} {v u : Value} {b : List Int} {busy text : Bool} {gu : Nat} {f : List Int} {fin : Bool} {op : Int} {mk : Bool} {key : Int} {A : Option Addr} {c : Nat} {d : List Int} (h : Gs w0 w g v u b busy text false gu f) (hff : (busy = true → f = if text = true then b else []) ∧ (busy = false → b = [])) (hd : Dat w (.slice A d.length c) d) (hdn : ∀ k, (Value.slice A d.length c).ownBlock = some k → v.ownBlock ≠ some k) (hbl : b.length ≤ 4096) (hdl : d.length ≤ 1000000000) (hop : op = 0 ∨ op = 1 ∨ op = 2) (hc : partC busy text fin op b d = 0) (hfin : fin = false) : Calls Tryd.prog 14 #[.pointer (some ⟨g, 0, none⟩), .agg #[.bool fin, .int .u8 op, .bool mk, .int .u32 key, .slice A d.length c]] w (TMore w0 g v u (b ++ d) (textN busy text op) w) := by
  refine Take_more h hd (fun W hb hG hD => ?_)
  rcases hop with rfl | rfl | rfl
  · exact take_more_0 hG hff hD hdn hbl hdl hc hfin
  · exact take_more_1 hG hff hD hdn hbl hdl hc hfin
  · exact take_more_2 hG hff hD hdn hbl hdl hc hfin
theorem TakeTold {w0 w : World} {g : Nat} {v u : Value} {b : List Int} {busy text : Bool} {gu : Nat} {f : List Int} {fin : Bool} {op : Int} {mk : Bool} {key : Int} {A : Option Addr} {c : Nat} {d : List Int} (h : Gs w0 w g v u b busy text false gu f) (hff : (busy = true → f = if text = true then b else []) ∧ (busy = false → b = [])) (hd : Dat w (.slice A d.length c) d) (hdn : ∀ k, (Value.slice A d.length c).ownBlock = some k → v.ownBlock ≠ some k) (hbl : b.length ≤ 4096) (hdl : d.length ≤ 1000000000) (hop : op = 0 ∨ op = 1 ∨ op = 2) (hc : partC busy text fin op b d = 0) (hfin : fin = true) : Calls Tryd.prog 14 #[.pointer (some ⟨g, 0, none⟩), .agg #[.bool fin, .int .u8 op, .bool mk, .int .u32 key, .slice A d.length c]] w (TTold w0 g v u (b ++ d) (textN busy text op) w) := by
  refine Take_told h hd (fun W hb hG hD => ?_)
  rcases hop with rfl | rfl | rfl
  · exact take_told_0 hG hff hD hdn hbl hdl hc hfin
  · exact take_told_1 hG hff hD hdn hbl hdl hc hfin
  · exact take_told_2 hG hff hD hdn hbl hdl hc hfin
theorem TakeBadPart {w0 w : World} {g : Nat} {v u : Value} {b : List Int} {busy text : Bool} {gu : Nat} {f : List Int} {fin : Bool} {op : Int} {mk : Bool} {key : Int} {A : Option Addr} {c : Nat} {d : List Int} (h : Gs w0 w g v u b busy text false gu f) (hff : (busy = true → f = if text = true then b else []) ∧ (busy = false → b = [])) (hd : Dat w (.slice A d.length c) d) (hdn : ∀ k, (Value.slice A d.length c).ownBlock = some k → v.ownBlock ≠ some k) (hbl : b.length ≤ 4096) (hdl : d.length ≤ 1000000000) (hop : op = 0 ∨ op = 1 ∨ op = 2) (hg : Cond w0) (hc : partC busy text fin op b d ≠ 0) : Calls Tryd.prog 14 #[.pointer (some ⟨g, 0, none⟩), .agg #[.bool fin, .int .u8 op, .bool mk, .int .u32 key, .slice A d.length c]] w (TBad w0 g v u (partC busy text fin op b d) w) := by
  refine Take_bad h hd hg (fun W hb hG hD => ?_)
  rcases hop with rfl | rfl | rfl
  · exact take_bad_0 hG hff hD hdn hbl hdl hc
  · exact take_bad_1 hG hff hD hdn hbl hdl hc
  · exact take_bad_2 hG hff hD hdn hbl hdl hc
end Go.Proofs.YtbjjobifpmjhhaaDoor

namespace Go.Proofs.YtbjjobifpmjhhaaDoor
open Go.RowKit Go.Proofs.YtbjjobifpmjhhaaDoorW.PrintWords Go.Proofs.YtbjjobifpmjhhaaDoorW.PrintLast Go.Proofs.YtbjjobifpmjhhaaDoorW.PrintMore Go.Proofs.YtbjjobifpmjhhaaDoor.PAll
set_option linter.unusedVariables false
/-- What closes answers at these bytes: a note with this code and these bytes. -/
def ClosesTo (l d : List Int) (code : Int) : Prop := ∀ (A : Option Addr) (c : Nat) (w : World), Kd.C (Kd.int .u8) w A l.length l → l.length ≤ c → Calls Tryd.prog 35 #[.slice A l.length c] w fun e w' => ∃ v, e = .returned (.tuple #[.agg #[.int .u8 4, .bool false, v, .int .u32 code], .nilIface]) ∧ Kd.R (Kd.int .u8) 5 w' w.heap.size (fun _ => True) v d ∧ Below w.heap.size w w'
set_option maxHeartbeats 2000000 in
theorem closes_none : ClosesTo [] [] 1005 := by
  intro A c w hC hc
  have hu30 := Tryd.underlying30
  go_enter Tryd.func35, Tryd.ntmps35
  go_wp2_with fail
  exact bodyPost_ret (v := .tuple #[.agg #[.int .u8 4, .bool false, .slice none 0 0, .int .u32 1005], .nilIface]) (by simp [results, Tryd.results35, go_sem]) rfl ⟨_, rfl, Kd.R_nil _ _ _ _ _, by repeat (first | exact Below.refl _ _ | apply below_alloc | refine Below.setCell ?_ (Nat.le_refl _) _)⟩
end Go.Proofs.YtbjjobifpmjhhaaDoor

namespace Go.Proofs.YtbjjobifpmjhhaaDoor
open Go.RowKit Go.Proofs.YtbjjobifpmjhhaaDoorW.PrintWords Go.Proofs.YtbjjobifpmjhhaaDoorW.PrintLast Go.Proofs.YtbjjobifpmjhhaaDoorW.PrintMore Go.Proofs.YtbjjobifpmjhhaaDoor.PAll
set_option linter.unusedVariables false
set_option maxHeartbeats 4000000 in
set_option maxRecDepth 100000 in
theorem closes_ok (h0 h1 : Int) (r : List Int) (code : Int) (k : Nat) (b0 : 0 ≤ h0) (b0' : h0 ≤ 255) (b1 : 0 ≤ h1) (b1' : h1 ≤ 255) (hcode : Go.bits .or .u32 (h0 * 256) h1 = code) (ht : toldB code = true) (hv : utf_Valid.f k r = some true) (hrl : r.length ≤ 140737488351232) : ClosesTo (h0 :: h1 :: r) r code := by
  intro A c w hC hc
  have hu30 := Tryd.underlying30
  have hlen : (h0 :: h1 :: r).length = r.length + 2 := by simp
  obtain ⟨ad, rfl, hx0⟩ := Kd.at_int hC 0 (by decide) (by simp; omega)
  obtain ⟨ad2, e2, hx1⟩ := Kd.at_int hC 1 (by decide) (by simp; omega)
  injection e2 with e2
  subst e2
  have y0 : w.cell? ad = some (.int .u8 h0) := hx0
  have y1 : w.cell? ⟨ad.block, ad.off + 1, none⟩ = some (.int .u8 h1) := hx1
  clear hx0 hx1
  have HC := Aside0.mk hC
  clear hC
  have e0 : IntKind.u32.wrap h0 = h0 := by simp [IntKind.wrap, IntKind.bits, IntKind.signed]; omega
  have e1 : IntKind.u32.wrap h1 = h1 := by simp [IntKind.wrap, IntKind.bits, IntKind.signed]; omega
  have e3 : IntKind.u32.wrap (h0 * 256) = h0 * 256 := by simp [IntKind.wrap, IntKind.bits, IntKind.signed]; omega
  have p0 : (0 : Int) < (r.length : Int) + 1 + 1 := by omega
  have p1 : (1 : Int) < (r.length : Int) + 1 + 1 := by omega
  have p2 : (2 : Int) ≤ (r.length : Int) + 1 + 1 := by omega
  have z0 : (((r.length : Int) + 1 + 1) == 0) = false := beq_eq_false_iff_ne.mpr (by omega)
  have z1 : (((r.length : Int) + 1 + 1) == 1) = false := beq_eq_false_iff_ne.mpr (by omega)
  go_enter Tryd.func35, Tryd.ntmps35
  go_wp2_with fail
  refine wp_region_noPanic ?_
  refine wp_region_held_drew (S := fun w' => Aside0 (Below w.heap.size w w') ∧ w'.cell? ad = some (.int .u8 h0) ∧ w'.cell? ⟨ad.block, ad.off + 1, none⟩ = some (.int .u8 h1)) (by kernel_rfl) (⟨⟨below_drew (below_alloc (Below.refl _ _) _)⟩, ((below_drew (below_alloc (Below.refl w.heap.size w) _)).cell (World.block_lt_of_cell? _ _ y0)).trans y0, ((below_drew (below_alloc (Below.refl w.heap.size w) _)).cell (World.block_lt_of_cell? _ _ y1)).trans y1⟩) (fun hHeld => ?_)
  refine takeN (i := 0) (N := (some 14)) (v := ?v12) (a' := ?a12) rfl rfl (by kernel_rfl) (by kernel_rfl) (by kernel_rfl) (fun _ _ _ h => h) (Or.inl ⟨by rfl, ?hy12⟩) ?ha12 (by assumption) ?rest12
  case hy12 =>
    intro w_ hSw_
    go_simp
    first | done | (with_reducible rfl)
  case ha12 =>
    simp only [Act.put, List.setIfInBounds_toArray, List.set_cons_zero, List.set_cons_succ]
    rfl
  refine takeN (i := 1) (N := (some 15)) (v := ?v13) (a' := ?a13) rfl rfl (by kernel_rfl) (by kernel_rfl) (by kernel_rfl) (fun _ _ _ h => h) (Or.inl ⟨by rfl, ?hy13⟩) ?ha13 (by assumption) ?rest13
  case hy13 =>
    intro w_ hSw_
    go_simp
    first | done | (with_reducible rfl)
  case ha13 =>
    simp only [Act.put, List.setIfInBounds_toArray, List.set_cons_zero, List.set_cons_succ]
    rfl
  refine takeN (i := 2) (N := (some 16)) (v := ?v14) (a' := ?a14) rfl rfl (by kernel_rfl) (by kernel_rfl) (by kernel_rfl) (fun _ _ _ h => h) (Or.inl ⟨by rfl, ?hy14⟩) ?ha14 (by assumption) ?rest14
  case hy14 =>
    intro w_ hSw_
    go_simp
    first | done | (with_reducible rfl)
  case ha14 =>
    simp only [Act.put, List.setIfInBounds_toArray, List.set_cons_zero, List.set_cons_succ]
    rfl
  refine takeN (i := 3) (N := (some 17)) (v := ?v15) (a' := ?a15) rfl rfl (by kernel_rfl) (by kernel_rfl) (by kernel_rfl) (fun _ _ _ h => h) (Or.inl ⟨by rfl, ?hy15⟩) ?ha15 (by assumption) ?rest15
  case hy15 =>
    intro w_ hSw_
    go_simp
    first | done | (with_reducible rfl)
  case ha15 =>
    simp only [Act.put, List.setIfInBounds_toArray, List.set_cons_zero, List.set_cons_succ]
    rfl
  refine takeN (i := 4) (N := (some 18)) (v := ?v16) (a' := ?a16) rfl rfl (by kernel_rfl) (by kernel_rfl) (by kernel_rfl) (fun _ _ _ h => h) (Or.inl ⟨by rfl, ?hy16⟩) ?ha16 (by assumption) ?rest16
  case hy16 =>
    intro w_ hSw_
    go_simp
    first | done | (with_reducible rfl)
  case ha16 =>
    simp only [Act.put, List.setIfInBounds_toArray, List.set_cons_zero, List.set_cons_succ]
    rfl
  refine takeN (i := 5) (N := (some 19)) (v := ?v17) (a' := ?a17) rfl rfl (by kernel_rfl) (by kernel_rfl) (by kernel_rfl) (fun _ _ _ h => h) (Or.inl ⟨by rfl, ?hy17⟩) ?ha17 (by assumption) ?rest17
  case hy17 =>
    intro w_ hSw_
    go_simp
    first | done | (with_reducible rfl)
  case ha17 =>
    simp only [Act.put, List.setIfInBounds_toArray, List.set_cons_zero, List.set_cons_succ]
    rfl
  refine takeN (i := 6) (N := (some 20)) (v := ?v18) (a' := ?a18) rfl rfl (by kernel_rfl) (by kernel_rfl) (by kernel_rfl) (fun _ _ _ h => h) (Or.inl ⟨by rfl, ?hy18⟩) ?ha18 (by assumption) ?rest18
  case hy18 =>
    intro w_ hSw_
    go_simp
    first | done | (with_reducible rfl)
  case ha18 =>
    simp only [Act.put, List.setIfInBounds_toArray, List.set_cons_zero, List.set_cons_succ]
    rfl
  refine takeN (i := 7) (N := (some 21)) (v := ?v19) (a' := ?a19) rfl rfl (by kernel_rfl) (by kernel_rfl) (by kernel_rfl) (fun _ _ _ h => h) (Or.inl ⟨by rfl, ?hy19⟩) ?ha19 (by assumption) ?rest19
  case hy19 =>
    intro w_ hSw_
    go_simp
    first | done | (with_reducible rfl)
  case ha19 =>
    simp only [Act.put, List.setIfInBounds_toArray, List.set_cons_zero, List.set_cons_succ]
    rfl
  refine takeN (i := 8) (N := (some 22)) (v := ?v20) (a' := ?a20) rfl rfl (by kernel_rfl) (by kernel_rfl) (by kernel_rfl) (fun _ _ _ h => h) (Or.inl ⟨by rfl, ?hy20⟩) ?ha20 (by assumption) ?rest20
  case hy20 =>
    intro w_ hSw_
    go_simp
    first | done | (with_reducible rfl)
  case ha20 =>
    simp only [Act.put, List.setIfInBounds_toArray, List.set_cons_zero, List.set_cons_succ]
    rfl
  refine takeN (i := 9) (N := (some 23)) (v := ?v21) (a' := ?a21) rfl rfl (by kernel_rfl) (by kernel_rfl) (by kernel_rfl) (fun _ _ _ h => h) (Or.inl ⟨by rfl, ?hy21⟩) ?ha21 (by assumption) ?rest21
  case hy21 =>
    intro w_ hSw_
    go_simp
    first | done | (with_reducible rfl)
  case ha21 =>
    simp only [Act.put, List.setIfInBounds_toArray, List.set_cons_zero, List.set_cons_succ]
    rfl
  refine takeN (i := 10) (N := (some 4)) (v := ?v22) (a' := ?a22) rfl rfl (by kernel_rfl) (by kernel_rfl) (by kernel_rfl) (fun _ _ _ h => h) (Or.inl ⟨by rfl, ?hy22⟩) ?ha22 (by assumption) ?rest22
  case hy22 =>
    intro w_ hSw_
    go_simp
    first | done | (with_reducible rfl)
  case ha22 =>
    simp only [Act.put, List.setIfInBounds_toArray, List.set_cons_zero, List.set_cons_succ]
    rfl
  refine wpAnyH_done (by kernel_rfl) ?_ _
  refine NoPanic.normal ?_
  have HB := Aside0.mk hHeld.1.out
  clear hHeld
  have hr : ((w.alloc (.cells #[.int .u8 0, .bool false, .slice none 0 0, .int .u32 0] 30)).drew).heap[w.heap.size]? = some (.cells #[.int .u8 0, .bool false, .slice none 0 0, .int .u32 0] 30 (0, 0)) := blk_drew (last_at _ _ _ rfl)
  generalize (w.alloc (.cells #[.int .u8 0, .bool false, .slice none 0 0, .int .u32 0] 30)).drew = w1 at HB hr ⊢
  have hc' : r.length + 2 ≤ c := by rw [hlen] at hc; exact hc
  clear hc
  by_cases hc2 : c = 2
  · subst hc2
    have HC2 : Aside0 ((Kd.int .u8).C w (some ad) r.length r) := ⟨by
      have h := Kd.C_drop (m := 2) (c := 2) HC.out (by simp) (by rw [hlen]; omega)
      rw [if_pos rfl] at h
      exact h⟩
    have hc3 : r.length ≤ 0 := by omega
    have hr0 : r.length = 0 := by omega
    go_wp2_with fail
    refine (message_Told.calls code true _ (by show some (toldB code) = some true; rw [ht])).mono ?_
    rintro e w2 ⟨rfl, hb⟩
    have hr2 : w2.heap[w.heap.size]? = _ := blk_below hr hb
    replace HB := Aside0.mk (below_step HB.out hb)
    clear hb hr
    go_wp2_with fail
    refine (calls_of_args (by rw [hr0]) (utf_Valid.calls k (some ad) (0) r true _ (Kd.C_below HC2.out HB.out) hc3 hv)).mono ?_
    rintro e w3 ⟨rfl, hb⟩
    have hr3 : w3.heap[w.heap.size]? = _ := blk_below hr2 hb
    replace HB := Aside0.mk (below_step HB.out hb)
    clear hb hr2
    go_wp2_with fail
    refine (calls_of_args (by rw [hr0]) (bytes_Clone.calls (some ad) (0) r r _ (Kd.C_below HC2.out HB.out) hc3 (by unfold bytes_Clone.f; rw [if_pos (by omega)]))).mono ?_
    rintro e w4 ⟨v, rfl, ho, hb⟩
    have hr4 : w4.heap[w.heap.size]? = some (.cells #[.int .u8 0, .bool false, .slice none 0 0, .int .u32 0] 30 (0, 0)) := blk_below hr3 hb
    have hR := Kd.R_types (Kd.R_lower ho HB.out.size) hr4 (by intro q hq; simp [Kd.int, Kd.scalar] at hq; omega)
    obtain ⟨Av, cv, rfl⟩ := Kd.R_slice hR
    have HR := Aside0.mk hR
    replace HB := Aside0.mk (below_step HB.out hb)
    clear hb hr3 ho hR
    have rc0 : w4.cell? ⟨w.heap.size, 0, none⟩ = some (.int .u8 0) := (blk_cell hr4 0).trans rfl
    have rf0 := blk_frozen hr4 0
    have rc1 : w4.cell? ⟨w.heap.size, 1, none⟩ = some (.bool false) := (blk_cell hr4 1).trans rfl
    have rf1 := blk_frozen hr4 1
    have rc2 : w4.cell? ⟨w.heap.size, 2, none⟩ = some (.slice none 0 0) := (blk_cell hr4 2).trans rfl
    have rf2 := blk_frozen hr4 2
    have rc3 : w4.cell? ⟨w.heap.size, 3, none⟩ = some (.int .u32 0) := (blk_cell hr4 3).trans rfl
    have rf3 := blk_frozen hr4 3
    have rl : w.heap.size < w4.heap.size := blk_lt hr4
    have hle : w.heap.size ≤ w.heap.size := Nat.le_refl _
    go_wp2_with fail
    exact bodyPost_ret (v := .tuple #[.agg #[.int .u8 4, .bool false, .slice Av r.length cv, .int .u32 code], .nilIface]) (by simp [results, Tryd.results35, go_sem, rc0, rc1, rc2, rc3, hr0]) rfl ⟨_, rfl, Kd.R_mono (Kd.R_far (Kd.R_far (Kd.R_far (Kd.R_far HR.out (fun k hk => hk.2) _) (fun k hk => hk.2) _) (fun k hk => hk.2) _) (fun k hk => hk.2) _) (fun _ _ => trivial), (Below.setCell (Below.setCell (Below.setCell (Below.setCell HB.out hle _) hle _) hle _) hle _)⟩
  · have hc5 : (2 : Int) ≤ (c : Int) := by omega
    have hc6 : (c == 2) = false := beq_eq_false_iff_ne.mpr hc2
    have HC2 : Aside0 ((Kd.int .u8).C w (some ⟨ad.block, ad.off + 2, none⟩) r.length r) := ⟨by
      have h := Kd.C_drop (m := 2) (c := c) HC.out (by simp) (by rw [hlen]; omega)
      rw [if_neg hc2] at h
      exact h⟩
    have hc3 : r.length ≤ c - 2 := by omega
    go_wp2_with fail
    refine (message_Told.calls code true _ (by show some (toldB code) = some true; rw [ht])).mono ?_
    rintro e w2 ⟨rfl, hb⟩
    have hr2 : w2.heap[w.heap.size]? = _ := blk_below hr hb
    replace HB := Aside0.mk (below_step HB.out hb)
    clear hb hr
    go_wp2_with fail
    refine ((utf_Valid.calls k (some ⟨ad.block, ad.off + 2, none⟩) (c - 2) r true _ (Kd.C_below HC2.out HB.out) hc3 hv)).mono ?_
    rintro e w3 ⟨rfl, hb⟩
    have hr3 : w3.heap[w.heap.size]? = _ := blk_below hr2 hb
    replace HB := Aside0.mk (below_step HB.out hb)
    clear hb hr2
    go_wp2_with fail
    refine ((bytes_Clone.calls (some ⟨ad.block, ad.off + 2, none⟩) (c - 2) r r _ (Kd.C_below HC2.out HB.out) hc3 (by unfold bytes_Clone.f; rw [if_pos (by omega)]))).mono ?_
    rintro e w4 ⟨v, rfl, ho, hb⟩
    have hr4 : w4.heap[w.heap.size]? = some (.cells #[.int .u8 0, .bool false, .slice none 0 0, .int .u32 0] 30 (0, 0)) := blk_below hr3 hb
    have hR := Kd.R_types (Kd.R_lower ho HB.out.size) hr4 (by intro q hq; simp [Kd.int, Kd.scalar] at hq; omega)
    obtain ⟨Av, cv, rfl⟩ := Kd.R_slice hR
    have HR := Aside0.mk hR
    replace HB := Aside0.mk (below_step HB.out hb)
    clear hb hr3 ho hR
    have rc0 : w4.cell? ⟨w.heap.size, 0, none⟩ = some (.int .u8 0) := (blk_cell hr4 0).trans rfl
    have rf0 := blk_frozen hr4 0
    have rc1 : w4.cell? ⟨w.heap.size, 1, none⟩ = some (.bool false) := (blk_cell hr4 1).trans rfl
    have rf1 := blk_frozen hr4 1
    have rc2 : w4.cell? ⟨w.heap.size, 2, none⟩ = some (.slice none 0 0) := (blk_cell hr4 2).trans rfl
    have rf2 := blk_frozen hr4 2
    have rc3 : w4.cell? ⟨w.heap.size, 3, none⟩ = some (.int .u32 0) := (blk_cell hr4 3).trans rfl
    have rf3 := blk_frozen hr4 3
    have rl : w.heap.size < w4.heap.size := blk_lt hr4
    have hle : w.heap.size ≤ w.heap.size := Nat.le_refl _
    go_wp2_with fail
    exact bodyPost_ret (v := .tuple #[.agg #[.int .u8 4, .bool false, .slice Av r.length cv, .int .u32 code], .nilIface]) (by simp [results, Tryd.results35, go_sem, rc0, rc1, rc2, rc3]) rfl ⟨_, rfl, Kd.R_mono (Kd.R_far (Kd.R_far (Kd.R_far (Kd.R_far HR.out (fun k hk => hk.2) _) (fun k hk => hk.2) _) (fun k hk => hk.2) _) (fun k hk => hk.2) _) (fun _ _ => trivial), (Below.setCell (Below.setCell (Below.setCell (Below.setCell HB.out hle _) hle _) hle _) hle _)⟩
end Go.Proofs.YtbjjobifpmjhhaaDoor

namespace Go.Proofs.YtbjjobifpmjhhaaDoor
open Go.RowKit Go.Proofs.YtbjjobifpmjhhaaDoorW.PrintWords Go.Proofs.YtbjjobifpmjhhaaDoorW.PrintLast Go.Proofs.YtbjjobifpmjhhaaDoorW.PrintMore Go.Proofs.YtbjjobifpmjhhaaDoor.PAll Go.Proofs.YtbjjobifpmjhhaaDoor.U
set_option linter.unusedVariables false
/-- What closes answers at bytes that are no close: the fault with this code. -/
def ClosesBad (l : List Int) (code : Int) : Prop := ∀ (A : Option Addr) (c : Nat) (w : World), Kd.C (Kd.int .u8) w A l.length l → l.length ≤ c → Calls Tryd.prog 35 #[.slice A l.length c] w fun e w' => ∃ vb, e = .returned (.tuple #[.agg #[.int .u8 0, .bool false, .slice none 0 0, .int .u32 0], vb]) ∧ IsBad w' vb code ∧ Below w.heap.size w w'
set_option maxHeartbeats 4000000 in
set_option maxRecDepth 100000 in
theorem closes_bad_one (x : Int) : ClosesBad [x] 1002 := by
  intro A c w hC hc
  have hu30 := Tryd.underlying30
  have hr : (w.alloc (.cells #[.int .u8 0, .bool false, .slice none 0 0, .int .u32 0] 30)).heap[w.heap.size]? = some (.cells #[.int .u8 0, .bool false, .slice none 0 0, .int .u32 0] 30 (0, 0)) := last_at _ _ _ rfl
  have HB := Aside0.mk (below_alloc (Below.refl w.heap.size w) (.cells #[.int .u8 0, .bool false, .slice none 0 0, .int .u32 0] 30))
  clear hC
  go_enter Tryd.func35, Tryd.ntmps35
  go_wp2_with fail
  refine (socket_any 1002 _).mono ?_
  rintro e w9 ⟨vb, rfl, hbad, hb9⟩
  have hr9 : w9.heap[w.heap.size]? = some (.cells #[.int .u8 0, .bool false, .slice none 0 0, .int .u32 0] 30 (0, 0)) := blk_below hr hb9
  obtain ⟨qb, rfl, hqb⟩ := hbad
  have HBD := Aside0.mk (show IsBad w9 _ 1002 from ⟨qb, rfl, hqb⟩)
  have HB9 := Aside0.mk (below_step HB.out hb9)
  clear hqb hb9
  have rc0 : w9.cell? ⟨w.heap.size, 0, none⟩ = some (.int .u8 0) := (blk_cell hr9 0).trans rfl
  have rf0 := blk_frozen hr9 0
  have rc1 : w9.cell? ⟨w.heap.size, 1, none⟩ = some (.bool false) := (blk_cell hr9 1).trans rfl
  have rf1 := blk_frozen hr9 1
  have rc2 : w9.cell? ⟨w.heap.size, 2, none⟩ = some (.slice none 0 0) := (blk_cell hr9 2).trans rfl
  have rf2 := blk_frozen hr9 2
  have rc3 : w9.cell? ⟨w.heap.size, 3, none⟩ = some (.int .u32 0) := (blk_cell hr9 3).trans rfl
  have rf3 := blk_frozen hr9 3
  have rl : w.heap.size < w9.heap.size := blk_lt hr9
  have HR9 := Aside0.mk hr9
  clear hr9
  have hle : w.heap.size ≤ w.heap.size := Nat.le_refl _
  go_wp2_with fail
  exact bodyPost_ret (v := .tuple #[.agg #[.int .u8 0, .bool false, .slice none 0 0, .int .u32 0], .iface _ _]) (by simp [results, Tryd.results35, go_sem, rc0, rc1, rc2, rc3]) rfl ⟨_, rfl, bad_off4 HBD.out HR9.out _ _ _ _, Below.setCell (Below.setCell (Below.setCell (Below.setCell HB9.out hle _) hle _) hle _) hle _⟩
set_option maxHeartbeats 4000000 in
set_option maxRecDepth 100000 in
theorem closes_bad_code (h0 h1 : Int) (r : List Int) (code : Int) (b0 : 0 ≤ h0) (b0' : h0 ≤ 255) (b1 : 0 ≤ h1) (b1' : h1 ≤ 255) (hcode : Go.bits .or .u32 (h0 * 256) h1 = code) (ht : toldB code = false) (hrl : r.length ≤ 140737488351232) : ClosesBad (h0 :: h1 :: r) 1002 := by
  intro A c w hC hc
  have hu30 := Tryd.underlying30
  have hlen : (h0 :: h1 :: r).length = r.length + 2 := by simp
  obtain ⟨ad, rfl, hx0⟩ := Kd.at_int hC 0 (by decide) (by simp; omega)
  obtain ⟨ad2, e2, hx1⟩ := Kd.at_int hC 1 (by decide) (by simp; omega)
  injection e2 with e2
  subst e2
  have y0 : w.cell? ad = some (.int .u8 h0) := hx0
  have y1 : w.cell? ⟨ad.block, ad.off + 1, none⟩ = some (.int .u8 h1) := hx1
  clear hx0 hx1
  have HC := Aside0.mk hC
  clear hC
  have e0 : IntKind.u32.wrap h0 = h0 := by simp [IntKind.wrap, IntKind.bits, IntKind.signed]; omega
  have e1 : IntKind.u32.wrap h1 = h1 := by simp [IntKind.wrap, IntKind.bits, IntKind.signed]; omega
  have e3 : IntKind.u32.wrap (h0 * 256) = h0 * 256 := by simp [IntKind.wrap, IntKind.bits, IntKind.signed]; omega
  have p0 : (0 : Int) < (r.length : Int) + 1 + 1 := by omega
  have p1 : (1 : Int) < (r.length : Int) + 1 + 1 := by omega
  have p2 : (2 : Int) ≤ (r.length : Int) + 1 + 1 := by omega
  have z0 : (((r.length : Int) + 1 + 1) == 0) = false := beq_eq_false_iff_ne.mpr (by omega)
  have z1 : (((r.length : Int) + 1 + 1) == 1) = false := beq_eq_false_iff_ne.mpr (by omega)
  go_enter Tryd.func35, Tryd.ntmps35
  go_wp2_with fail
  refine wp_region_noPanic ?_
  refine wp_region_held_drew (S := fun w' => Aside0 (Below w.heap.size w w') ∧ w'.cell? ad = some (.int .u8 h0) ∧ w'.cell? ⟨ad.block, ad.off + 1, none⟩ = some (.int .u8 h1)) (by kernel_rfl) (⟨⟨below_drew (below_alloc (Below.refl _ _) _)⟩, ((below_drew (below_alloc (Below.refl w.heap.size w) _)).cell (World.block_lt_of_cell? _ _ y0)).trans y0, ((below_drew (below_alloc (Below.refl w.heap.size w) _)).cell (World.block_lt_of_cell? _ _ y1)).trans y1⟩) (fun hHeld => ?_)
  refine takeN (i := 0) (N := (some 14)) (v := ?v12) (a' := ?a12) rfl rfl (by kernel_rfl) (by kernel_rfl) (by kernel_rfl) (fun _ _ _ h => h) (Or.inl ⟨by rfl, ?hy12⟩) ?ha12 (by assumption) ?rest12
  case hy12 =>
    intro w_ hSw_
    go_simp
    first | done | (with_reducible rfl)
  case ha12 =>
    simp only [Act.put, List.setIfInBounds_toArray, List.set_cons_zero, List.set_cons_succ]
    rfl
  refine takeN (i := 1) (N := (some 15)) (v := ?v13) (a' := ?a13) rfl rfl (by kernel_rfl) (by kernel_rfl) (by kernel_rfl) (fun _ _ _ h => h) (Or.inl ⟨by rfl, ?hy13⟩) ?ha13 (by assumption) ?rest13
  case hy13 =>
    intro w_ hSw_
    go_simp
    first | done | (with_reducible rfl)
  case ha13 =>
    simp only [Act.put, List.setIfInBounds_toArray, List.set_cons_zero, List.set_cons_succ]
    rfl
  refine takeN (i := 2) (N := (some 16)) (v := ?v14) (a' := ?a14) rfl rfl (by kernel_rfl) (by kernel_rfl) (by kernel_rfl) (fun _ _ _ h => h) (Or.inl ⟨by rfl, ?hy14⟩) ?ha14 (by assumption) ?rest14
  case hy14 =>
    intro w_ hSw_
    go_simp
    first | done | (with_reducible rfl)
  case ha14 =>
    simp only [Act.put, List.setIfInBounds_toArray, List.set_cons_zero, List.set_cons_succ]
    rfl
  refine takeN (i := 3) (N := (some 17)) (v := ?v15) (a' := ?a15) rfl rfl (by kernel_rfl) (by kernel_rfl) (by kernel_rfl) (fun _ _ _ h => h) (Or.inl ⟨by rfl, ?hy15⟩) ?ha15 (by assumption) ?rest15
  case hy15 =>
    intro w_ hSw_
    go_simp
    first | done | (with_reducible rfl)
  case ha15 =>
    simp only [Act.put, List.setIfInBounds_toArray, List.set_cons_zero, List.set_cons_succ]
    rfl
  refine takeN (i := 4) (N := (some 18)) (v := ?v16) (a' := ?a16) rfl rfl (by kernel_rfl) (by kernel_rfl) (by kernel_rfl) (fun _ _ _ h => h) (Or.inl ⟨by rfl, ?hy16⟩) ?ha16 (by assumption) ?rest16
  case hy16 =>
    intro w_ hSw_
    go_simp
    first | done | (with_reducible rfl)
  case ha16 =>
    simp only [Act.put, List.setIfInBounds_toArray, List.set_cons_zero, List.set_cons_succ]
    rfl
  refine takeN (i := 5) (N := (some 19)) (v := ?v17) (a' := ?a17) rfl rfl (by kernel_rfl) (by kernel_rfl) (by kernel_rfl) (fun _ _ _ h => h) (Or.inl ⟨by rfl, ?hy17⟩) ?ha17 (by assumption) ?rest17
  case hy17 =>
    intro w_ hSw_
    go_simp
    first | done | (with_reducible rfl)
  case ha17 =>
    simp only [Act.put, List.setIfInBounds_toArray, List.set_cons_zero, List.set_cons_succ]
    rfl
  refine takeN (i := 6) (N := (some 20)) (v := ?v18) (a' := ?a18) rfl rfl (by kernel_rfl) (by kernel_rfl) (by kernel_rfl) (fun _ _ _ h => h) (Or.inl ⟨by rfl, ?hy18⟩) ?ha18 (by assumption) ?rest18
  case hy18 =>
    intro w_ hSw_
    go_simp
    first | done | (with_reducible rfl)
  case ha18 =>
    simp only [Act.put, List.setIfInBounds_toArray, List.set_cons_zero, List.set_cons_succ]
    rfl
  refine takeN (i := 7) (N := (some 21)) (v := ?v19) (a' := ?a19) rfl rfl (by kernel_rfl) (by kernel_rfl) (by kernel_rfl) (fun _ _ _ h => h) (Or.inl ⟨by rfl, ?hy19⟩) ?ha19 (by assumption) ?rest19
  case hy19 =>
    intro w_ hSw_
    go_simp
    first | done | (with_reducible rfl)
  case ha19 =>
    simp only [Act.put, List.setIfInBounds_toArray, List.set_cons_zero, List.set_cons_succ]
    rfl
  refine takeN (i := 8) (N := (some 22)) (v := ?v20) (a' := ?a20) rfl rfl (by kernel_rfl) (by kernel_rfl) (by kernel_rfl) (fun _ _ _ h => h) (Or.inl ⟨by rfl, ?hy20⟩) ?ha20 (by assumption) ?rest20
  case hy20 =>
    intro w_ hSw_
    go_simp
    first | done | (with_reducible rfl)
  case ha20 =>
    simp only [Act.put, List.setIfInBounds_toArray, List.set_cons_zero, List.set_cons_succ]
    rfl
  refine takeN (i := 9) (N := (some 23)) (v := ?v21) (a' := ?a21) rfl rfl (by kernel_rfl) (by kernel_rfl) (by kernel_rfl) (fun _ _ _ h => h) (Or.inl ⟨by rfl, ?hy21⟩) ?ha21 (by assumption) ?rest21
  case hy21 =>
    intro w_ hSw_
    go_simp
    first | done | (with_reducible rfl)
  case ha21 =>
    simp only [Act.put, List.setIfInBounds_toArray, List.set_cons_zero, List.set_cons_succ]
    rfl
  refine takeN (i := 10) (N := (some 4)) (v := ?v22) (a' := ?a22) rfl rfl (by kernel_rfl) (by kernel_rfl) (by kernel_rfl) (fun _ _ _ h => h) (Or.inl ⟨by rfl, ?hy22⟩) ?ha22 (by assumption) ?rest22
  case hy22 =>
    intro w_ hSw_
    go_simp
    first | done | (with_reducible rfl)
  case ha22 =>
    simp only [Act.put, List.setIfInBounds_toArray, List.set_cons_zero, List.set_cons_succ]
    rfl
  refine wpAnyH_done (by kernel_rfl) ?_ _
  refine NoPanic.normal ?_
  have HB := Aside0.mk hHeld.1.out
  clear hHeld
  have hr : ((w.alloc (.cells #[.int .u8 0, .bool false, .slice none 0 0, .int .u32 0] 30)).drew).heap[w.heap.size]? = some (.cells #[.int .u8 0, .bool false, .slice none 0 0, .int .u32 0] 30 (0, 0)) := blk_drew (last_at _ _ _ rfl)
  generalize (w.alloc (.cells #[.int .u8 0, .bool false, .slice none 0 0, .int .u32 0] 30)).drew = w1 at HB hr ⊢
  go_wp2_with fail
  refine (message_Told.calls code false _ (by show some (toldB code) = some false; rw [ht])).mono ?_
  rintro e w2 ⟨rfl, hb⟩
  have hr2 : w2.heap[w.heap.size]? = _ := blk_below hr hb
  replace HB := Aside0.mk (below_step HB.out hb)
  clear hb hr
  go_wp2_with fail
  refine (socket_any 1002 _).mono ?_
  rintro e w9 ⟨vb, rfl, hbad, hb9⟩
  have hr9 : w9.heap[w.heap.size]? = some (.cells #[.int .u8 0, .bool false, .slice none 0 0, .int .u32 0] 30 (0, 0)) := blk_below hr2 hb9
  obtain ⟨qb, rfl, hqb⟩ := hbad
  have HBD := Aside0.mk (show IsBad w9 _ 1002 from ⟨qb, rfl, hqb⟩)
  have HB9 := Aside0.mk (below_step HB.out hb9)
  clear hqb hb9
  have rc0 : w9.cell? ⟨w.heap.size, 0, none⟩ = some (.int .u8 0) := (blk_cell hr9 0).trans rfl
  have rf0 := blk_frozen hr9 0
  have rc1 : w9.cell? ⟨w.heap.size, 1, none⟩ = some (.bool false) := (blk_cell hr9 1).trans rfl
  have rf1 := blk_frozen hr9 1
  have rc2 : w9.cell? ⟨w.heap.size, 2, none⟩ = some (.slice none 0 0) := (blk_cell hr9 2).trans rfl
  have rf2 := blk_frozen hr9 2
  have rc3 : w9.cell? ⟨w.heap.size, 3, none⟩ = some (.int .u32 0) := (blk_cell hr9 3).trans rfl
  have rf3 := blk_frozen hr9 3
  have rl : w.heap.size < w9.heap.size := blk_lt hr9
  have HR9 := Aside0.mk hr9
  clear hr9
  have hle : w.heap.size ≤ w.heap.size := Nat.le_refl _
  go_wp2_with fail
  exact bodyPost_ret (v := .tuple #[.agg #[.int .u8 0, .bool false, .slice none 0 0, .int .u32 0], .iface _ _]) (by simp [results, Tryd.results35, go_sem, rc0, rc1, rc2, rc3]) rfl ⟨_, rfl, bad_off4 HBD.out HR9.out _ _ _ _, Below.setCell (Below.setCell (Below.setCell (Below.setCell HB9.out hle _) hle _) hle _) hle _⟩
set_option maxHeartbeats 4000000 in
set_option maxRecDepth 100000 in
theorem closes_bad_text (h0 h1 : Int) (r : List Int) (code : Int) (k : Nat) (b0 : 0 ≤ h0) (b0' : h0 ≤ 255) (b1 : 0 ≤ h1) (b1' : h1 ≤ 255) (hcode : Go.bits .or .u32 (h0 * 256) h1 = code) (ht : toldB code = true) (hv : utf_Valid.f k r = some false) (hrl : r.length ≤ 140737488351232) : ClosesBad (h0 :: h1 :: r) 1007 := by
  intro A c w hC hc
  have hu30 := Tryd.underlying30
  have hlen : (h0 :: h1 :: r).length = r.length + 2 := by simp
  obtain ⟨ad, rfl, hx0⟩ := Kd.at_int hC 0 (by decide) (by simp; omega)
  obtain ⟨ad2, e2, hx1⟩ := Kd.at_int hC 1 (by decide) (by simp; omega)
  injection e2 with e2
  subst e2
  have y0 : w.cell? ad = some (.int .u8 h0) := hx0
  have y1 : w.cell? ⟨ad.block, ad.off + 1, none⟩ = some (.int .u8 h1) := hx1
  clear hx0 hx1
  have HC := Aside0.mk hC
  clear hC
  have e0 : IntKind.u32.wrap h0 = h0 := by simp [IntKind.wrap, IntKind.bits, IntKind.signed]; omega
  have e1 : IntKind.u32.wrap h1 = h1 := by simp [IntKind.wrap, IntKind.bits, IntKind.signed]; omega
  have e3 : IntKind.u32.wrap (h0 * 256) = h0 * 256 := by simp [IntKind.wrap, IntKind.bits, IntKind.signed]; omega
  have p0 : (0 : Int) < (r.length : Int) + 1 + 1 := by omega
  have p1 : (1 : Int) < (r.length : Int) + 1 + 1 := by omega
  have p2 : (2 : Int) ≤ (r.length : Int) + 1 + 1 := by omega
  have z0 : (((r.length : Int) + 1 + 1) == 0) = false := beq_eq_false_iff_ne.mpr (by omega)
  have z1 : (((r.length : Int) + 1 + 1) == 1) = false := beq_eq_false_iff_ne.mpr (by omega)
  go_enter Tryd.func35, Tryd.ntmps35
  go_wp2_with fail
  refine wp_region_noPanic ?_
  refine wp_region_held_drew (S := fun w' => Aside0 (Below w.heap.size w w') ∧ w'.cell? ad = some (.int .u8 h0) ∧ w'.cell? ⟨ad.block, ad.off + 1, none⟩ = some (.int .u8 h1)) (by kernel_rfl) (⟨⟨below_drew (below_alloc (Below.refl _ _) _)⟩, ((below_drew (below_alloc (Below.refl w.heap.size w) _)).cell (World.block_lt_of_cell? _ _ y0)).trans y0, ((below_drew (below_alloc (Below.refl w.heap.size w) _)).cell (World.block_lt_of_cell? _ _ y1)).trans y1⟩) (fun hHeld => ?_)
  refine takeN (i := 0) (N := (some 14)) (v := ?v12) (a' := ?a12) rfl rfl (by kernel_rfl) (by kernel_rfl) (by kernel_rfl) (fun _ _ _ h => h) (Or.inl ⟨by rfl, ?hy12⟩) ?ha12 (by assumption) ?rest12
  case hy12 =>
    intro w_ hSw_
    go_simp
    first | done | (with_reducible rfl)
  case ha12 =>
    simp only [Act.put, List.setIfInBounds_toArray, List.set_cons_zero, List.set_cons_succ]
    rfl
  refine takeN (i := 1) (N := (some 15)) (v := ?v13) (a' := ?a13) rfl rfl (by kernel_rfl) (by kernel_rfl) (by kernel_rfl) (fun _ _ _ h => h) (Or.inl ⟨by rfl, ?hy13⟩) ?ha13 (by assumption) ?rest13
  case hy13 =>
    intro w_ hSw_
    go_simp
    first | done | (with_reducible rfl)
  case ha13 =>
    simp only [Act.put, List.setIfInBounds_toArray, List.set_cons_zero, List.set_cons_succ]
    rfl
  refine takeN (i := 2) (N := (some 16)) (v := ?v14) (a' := ?a14) rfl rfl (by kernel_rfl) (by kernel_rfl) (by kernel_rfl) (fun _ _ _ h => h) (Or.inl ⟨by rfl, ?hy14⟩) ?ha14 (by assumption) ?rest14
  case hy14 =>
    intro w_ hSw_
    go_simp
    first | done | (with_reducible rfl)
  case ha14 =>
    simp only [Act.put, List.setIfInBounds_toArray, List.set_cons_zero, List.set_cons_succ]
    rfl
  refine takeN (i := 3) (N := (some 17)) (v := ?v15) (a' := ?a15) rfl rfl (by kernel_rfl) (by kernel_rfl) (by kernel_rfl) (fun _ _ _ h => h) (Or.inl ⟨by rfl, ?hy15⟩) ?ha15 (by assumption) ?rest15
  case hy15 =>
    intro w_ hSw_
    go_simp
    first | done | (with_reducible rfl)
  case ha15 =>
    simp only [Act.put, List.setIfInBounds_toArray, List.set_cons_zero, List.set_cons_succ]
    rfl
  refine takeN (i := 4) (N := (some 18)) (v := ?v16) (a' := ?a16) rfl rfl (by kernel_rfl) (by kernel_rfl) (by kernel_rfl) (fun _ _ _ h => h) (Or.inl ⟨by rfl, ?hy16⟩) ?ha16 (by assumption) ?rest16
  case hy16 =>
    intro w_ hSw_
    go_simp
    first | done | (with_reducible rfl)
  case ha16 =>
    simp only [Act.put, List.setIfInBounds_toArray, List.set_cons_zero, List.set_cons_succ]
    rfl
  refine takeN (i := 5) (N := (some 19)) (v := ?v17) (a' := ?a17) rfl rfl (by kernel_rfl) (by kernel_rfl) (by kernel_rfl) (fun _ _ _ h => h) (Or.inl ⟨by rfl, ?hy17⟩) ?ha17 (by assumption) ?rest17
  case hy17 =>
    intro w_ hSw_
    go_simp
    first | done | (with_reducible rfl)
  case ha17 =>
    simp only [Act.put, List.setIfInBounds_toArray, List.set_cons_zero, List.set_cons_succ]
    rfl
  refine takeN (i := 6) (N := (some 20)) (v := ?v18) (a' := ?a18) rfl rfl (by kernel_rfl) (by kernel_rfl) (by kernel_rfl) (fun _ _ _ h => h) (Or.inl ⟨by rfl, ?hy18⟩) ?ha18 (by assumption) ?rest18
  case hy18 =>
    intro w_ hSw_
    go_simp
    first | done | (with_reducible rfl)
  case ha18 =>
    simp only [Act.put, List.setIfInBounds_toArray, List.set_cons_zero, List.set_cons_succ]
    rfl
  refine takeN (i := 7) (N := (some 21)) (v := ?v19) (a' := ?a19) rfl rfl (by kernel_rfl) (by kernel_rfl) (by kernel_rfl) (fun _ _ _ h => h) (Or.inl ⟨by rfl, ?hy19⟩) ?ha19 (by assumption) ?rest19
  case hy19 =>
    intro w_ hSw_
    go_simp
    first | done | (with_reducible rfl)
  case ha19 =>
    simp only [Act.put, List.setIfInBounds_toArray, List.set_cons_zero, List.set_cons_succ]
    rfl
  refine takeN (i := 8) (N := (some 22)) (v := ?v20) (a' := ?a20) rfl rfl (by kernel_rfl) (by kernel_rfl) (by kernel_rfl) (fun _ _ _ h => h) (Or.inl ⟨by rfl, ?hy20⟩) ?ha20 (by assumption) ?rest20
  case hy20 =>
    intro w_ hSw_
    go_simp
    first | done | (with_reducible rfl)
  case ha20 =>
    simp only [Act.put, List.setIfInBounds_toArray, List.set_cons_zero, List.set_cons_succ]
    rfl
  refine takeN (i := 9) (N := (some 23)) (v := ?v21) (a' := ?a21) rfl rfl (by kernel_rfl) (by kernel_rfl) (by kernel_rfl) (fun _ _ _ h => h) (Or.inl ⟨by rfl, ?hy21⟩) ?ha21 (by assumption) ?rest21
  case hy21 =>
    intro w_ hSw_
    go_simp
    first | done | (with_reducible rfl)
  case ha21 =>
    simp only [Act.put, List.setIfInBounds_toArray, List.set_cons_zero, List.set_cons_succ]
    rfl
  refine takeN (i := 10) (N := (some 4)) (v := ?v22) (a' := ?a22) rfl rfl (by kernel_rfl) (by kernel_rfl) (by kernel_rfl) (fun _ _ _ h => h) (Or.inl ⟨by rfl, ?hy22⟩) ?ha22 (by assumption) ?rest22
  case hy22 =>
    intro w_ hSw_
    go_simp
    first | done | (with_reducible rfl)
  case ha22 =>
    simp only [Act.put, List.setIfInBounds_toArray, List.set_cons_zero, List.set_cons_succ]
    rfl
  refine wpAnyH_done (by kernel_rfl) ?_ _
  refine NoPanic.normal ?_
  have HB := Aside0.mk hHeld.1.out
  clear hHeld
  have hr : ((w.alloc (.cells #[.int .u8 0, .bool false, .slice none 0 0, .int .u32 0] 30)).drew).heap[w.heap.size]? = some (.cells #[.int .u8 0, .bool false, .slice none 0 0, .int .u32 0] 30 (0, 0)) := blk_drew (last_at _ _ _ rfl)
  generalize (w.alloc (.cells #[.int .u8 0, .bool false, .slice none 0 0, .int .u32 0] 30)).drew = w1 at HB hr ⊢
  have hc' : r.length + 2 ≤ c := by rw [hlen] at hc; exact hc
  clear hc
  by_cases hc2 : c = 2
  · subst hc2
    have HC2 : Aside0 ((Kd.int .u8).C w (some ad) r.length r) := ⟨by
      have h := Kd.C_drop (m := 2) (c := 2) HC.out (by simp) (by rw [hlen]; omega)
      rw [if_pos rfl] at h
      exact h⟩
    have hc3 : r.length ≤ 0 := by omega
    have hr0 : r.length = 0 := by omega
    go_wp2_with fail
    refine (message_Told.calls code true _ (by show some (toldB code) = some true; rw [ht])).mono ?_
    rintro e w2 ⟨rfl, hb⟩
    have hr2 : w2.heap[w.heap.size]? = _ := blk_below hr hb
    replace HB := Aside0.mk (below_step HB.out hb)
    clear hb hr
    go_wp2_with fail
    refine (calls_of_args (by rw [hr0]) (utf_Valid.calls k (some ad) (0) r false _ (Kd.C_below HC2.out HB.out) hc3 hv)).mono ?_
    rintro e w3 ⟨rfl, hb⟩
    have hr3 : w3.heap[w.heap.size]? = _ := blk_below hr2 hb
    replace HB := Aside0.mk (below_step HB.out hb)
    clear hb hr2
    go_wp2_with fail
    refine (socket_any 1007 _).mono ?_
    rintro e w9 ⟨vb, rfl, hbad, hb9⟩
    have hr9 : w9.heap[w.heap.size]? = some (.cells #[.int .u8 0, .bool false, .slice none 0 0, .int .u32 0] 30 (0, 0)) := blk_below hr3 hb9
    obtain ⟨qb, rfl, hqb⟩ := hbad
    have HBD := Aside0.mk (show IsBad w9 _ 1007 from ⟨qb, rfl, hqb⟩)
    have HB9 := Aside0.mk (below_step HB.out hb9)
    clear hqb hb9
    have rc0 : w9.cell? ⟨w.heap.size, 0, none⟩ = some (.int .u8 0) := (blk_cell hr9 0).trans rfl
    have rf0 := blk_frozen hr9 0
    have rc1 : w9.cell? ⟨w.heap.size, 1, none⟩ = some (.bool false) := (blk_cell hr9 1).trans rfl
    have rf1 := blk_frozen hr9 1
    have rc2 : w9.cell? ⟨w.heap.size, 2, none⟩ = some (.slice none 0 0) := (blk_cell hr9 2).trans rfl
    have rf2 := blk_frozen hr9 2
    have rc3 : w9.cell? ⟨w.heap.size, 3, none⟩ = some (.int .u32 0) := (blk_cell hr9 3).trans rfl
    have rf3 := blk_frozen hr9 3
    have rl : w.heap.size < w9.heap.size := blk_lt hr9
    have HR9 := Aside0.mk hr9
    clear hr9
    have hle : w.heap.size ≤ w.heap.size := Nat.le_refl _
    go_wp2_with fail
    exact bodyPost_ret (v := .tuple #[.agg #[.int .u8 0, .bool false, .slice none 0 0, .int .u32 0], .iface _ _]) (by simp [results, Tryd.results35, go_sem, rc0, rc1, rc2, rc3]) rfl ⟨_, rfl, bad_off4 HBD.out HR9.out _ _ _ _, Below.setCell (Below.setCell (Below.setCell (Below.setCell HB9.out hle _) hle _) hle _) hle _⟩
  · have hc5 : (2 : Int) ≤ (c : Int) := by omega
    have hc6 : (c == 2) = false := beq_eq_false_iff_ne.mpr hc2
    have HC2 : Aside0 ((Kd.int .u8).C w (some ⟨ad.block, ad.off + 2, none⟩) r.length r) := ⟨by
      have h := Kd.C_drop (m := 2) (c := c) HC.out (by simp) (by rw [hlen]; omega)
      rw [if_neg hc2] at h
      exact h⟩
    have hc3 : r.length ≤ c - 2 := by omega
    go_wp2_with fail
    refine (message_Told.calls code true _ (by show some (toldB code) = some true; rw [ht])).mono ?_
    rintro e w2 ⟨rfl, hb⟩
    have hr2 : w2.heap[w.heap.size]? = _ := blk_below hr hb
    replace HB := Aside0.mk (below_step HB.out hb)
    clear hb hr
    go_wp2_with fail
    refine ((utf_Valid.calls k (some ⟨ad.block, ad.off + 2, none⟩) (c - 2) r false _ (Kd.C_below HC2.out HB.out) hc3 hv)).mono ?_
    rintro e w3 ⟨rfl, hb⟩
    have hr3 : w3.heap[w.heap.size]? = _ := blk_below hr2 hb
    replace HB := Aside0.mk (below_step HB.out hb)
    clear hb hr2
    go_wp2_with fail
    refine (socket_any 1007 _).mono ?_
    rintro e w9 ⟨vb, rfl, hbad, hb9⟩
    have hr9 : w9.heap[w.heap.size]? = some (.cells #[.int .u8 0, .bool false, .slice none 0 0, .int .u32 0] 30 (0, 0)) := blk_below hr3 hb9
    obtain ⟨qb, rfl, hqb⟩ := hbad
    have HBD := Aside0.mk (show IsBad w9 _ 1007 from ⟨qb, rfl, hqb⟩)
    have HB9 := Aside0.mk (below_step HB.out hb9)
    clear hqb hb9
    have rc0 : w9.cell? ⟨w.heap.size, 0, none⟩ = some (.int .u8 0) := (blk_cell hr9 0).trans rfl
    have rf0 := blk_frozen hr9 0
    have rc1 : w9.cell? ⟨w.heap.size, 1, none⟩ = some (.bool false) := (blk_cell hr9 1).trans rfl
    have rf1 := blk_frozen hr9 1
    have rc2 : w9.cell? ⟨w.heap.size, 2, none⟩ = some (.slice none 0 0) := (blk_cell hr9 2).trans rfl
    have rf2 := blk_frozen hr9 2
    have rc3 : w9.cell? ⟨w.heap.size, 3, none⟩ = some (.int .u32 0) := (blk_cell hr9 3).trans rfl
    have rf3 := blk_frozen hr9 3
    have rl : w.heap.size < w9.heap.size := blk_lt hr9
    have HR9 := Aside0.mk hr9
    clear hr9
    have hle : w.heap.size ≤ w.heap.size := Nat.le_refl _
    go_wp2_with fail
    exact bodyPost_ret (v := .tuple #[.agg #[.int .u8 0, .bool false, .slice none 0 0, .int .u32 0], .iface _ _]) (by simp [results, Tryd.results35, go_sem, rc0, rc1, rc2, rc3]) rfl ⟨_, rfl, bad_off4 HBD.out HR9.out _ _ _ _, Below.setCell (Below.setCell (Below.setCell (Below.setCell HB9.out hle _) hle _) hle _) hle _⟩
structure TCb (w0 w : World) (g : Nat) (v u : Value) (b : List Int) (busy text : Bool) (vb : Value) (code : Int) (bx : Nat) (W : World) : Prop where
  gw : Gw w0 W g v u b busy text true
  fr : Fr w W g v u
  bad : IsBad W vb code
  box : W.heap[bx]? = some (.cells #[.int .u8 0, .bool false, .slice none 0 0, .int .u32 0] 30 (0, 0))
theorem TCb.below {w0 w W W' : World} {g bx : Nat} {v u vb : Value} {b : List Int} {busy text : Bool} {code : Int} (h : TCb w0 w g v u b busy text vb code bx W) (hb : Below W.heap.size W W') : TCb w0 w g v u b busy text vb code bx W' := ⟨h.gw.below hb, h.fr.below hb, h.bad.below hb, blk_below h.box hb⟩
theorem TCb.off4 {w0 w W : World} {g bx k : Nat} {v u vb a0 a1 a2 a3 : Value} {b : List Int} {busy text : Bool} {code : Int} (h : TCb w0 w g v u b busy text vb code bx W) (hk : W.heap[k]? = some (.cells #[a0, a1, a2, a3] 30 (0, 0))) (hne : bx ≠ k) (hlo : w0.heap.size ≤ k) (hlo2 : w.heap.size ≤ k) (x0 x1 x2 x3 : Value) : TCb w0 w g v u b busy text vb code bx ((((W.setCell ⟨k, 0, none⟩ x0).setCell ⟨k, 1, none⟩ x1).setCell ⟨k, 2, none⟩ x2).setCell ⟨k, 3, none⟩ x3) := ⟨h.gw.off4 hk hlo _ _ _ _, h.fr.off4 hlo2 _ _ _ _, bad_off4 h.bad hk _ _ _ _, blk_off4 h.box hne _ _ _ _⟩
theorem CSb {w0 w W : World} {g bx : Nat} {v u vb : Value} {b : List Int} {busy text : Bool} {code : Int} (h : TCb w0 w g v u b busy text vb code bx W) : Aside0 (TCb w0 w g v u b busy text vb code bx W) ∧ W.cell? ⟨bx, 0, none⟩ = some (.int .u8 0) ∧ W.cell? ⟨bx, 1, none⟩ = some (.bool false) ∧ W.cell? ⟨bx, 2, none⟩ = some (.slice none 0 0) ∧ W.cell? ⟨bx, 3, none⟩ = some (.int .u32 0) := ⟨⟨h⟩, (blk_cell h.box 0).trans rfl, (blk_cell h.box 1).trans rfl, (blk_cell h.box 2).trans rfl, (blk_cell h.box 3).trans rfl⟩
set_option maxHeartbeats 4000000 in
set_option maxRecDepth 100000 in
theorem take_close_bad {w0 w : World} {g : Nat} {v u : Value} {b : List Int} {busy text : Bool} {gu : Nat} {f : List Int} {fin mk : Bool} {key : Int} {A : Option Addr} {c : Nat} {l : List Int} {code : Int} (h : Gs w0 w g v u b busy text false gu f) (hd : Dat w (.slice A l.length c) l) (hcb : ClosesBad l code) : Calls Tryd.prog 25 #[.pointer (some ⟨g, 0, none⟩), .agg #[.bool fin, .int .u8 8, .bool mk, .int .u32 key, .slice A l.length c]] w (TkBad w0 g v u code w) := by
  have HU0 := Aside0.mk h.gw.ulow
  have HLO := Aside0.mk h.gw.bel.size
  have hgl := blk_lt h.gw.blk
  have hw1 : Below w.heap.size w ((w.alloc (.cells #[.bool fin, .int .u8 8, .bool mk, .int .u32 key, .slice A l.length c] 26)).alloc (.cells #[.int .u8 0, .bool false, .slice none 0 0, .int .u32 0] 30)) := below_alloc (below_alloc (Below.refl _ _) _) _
  have hg1 := h.below hw1
  have hd1 := hd.below hw1
  have hr1 : ((w.alloc (.cells #[.bool fin, .int .u8 8, .bool mk, .int .u32 key, .slice A l.length c] 26)).alloc (.cells #[.int .u8 0, .bool false, .slice none 0 0, .int .u32 0] 30)).heap[w.heap.size + 1]? = some (.cells #[.int .u8 0, .bool false, .slice none 0 0, .int .u32 0] 30 (0, 0)) := last_at _ _ _ (by simp)
  have hp1 : ((w.alloc (.cells #[.bool fin, .int .u8 8, .bool mk, .int .u32 key, .slice A l.length c] 26)).alloc (.cells #[.int .u8 0, .bool false, .slice none 0 0, .int .u32 0] 30)).heap[w.heap.size]? = some (.cells #[.bool fin, .int .u8 8, .bool mk, .int .u32 key, .slice A l.length c] 26 (0, 0)) := blk_alloc (last_at _ _ _ rfl) _
  have hf1 := (Fr.refl w g v u).below hw1
  have hu30 := Tryd.underlying30
  have hu26 := Tryd.underlying26
  have HCB := Aside0.mk hcb
  clear h hd hw1 hcb
  go_enter Tryd.func25, Tryd.ntmps25
  go_upto_region 1 with fail
  generalize (w.alloc (.cells #[.bool fin, .int .u8 8, .bool mk, .int .u32 key, .slice A l.length c] 26)).alloc (.cells #[.int .u8 0, .bool false, .slice none 0 0, .int .u32 0] 30) = w1 at hg1 hd1 hr1 hp1 hf1 ⊢
  have HG1 := Aside0.mk hg1
  have HD1 := Aside0.mk hd1
  have HR1 := Aside0.mk hr1
  have HF1 := Aside0.mk hf1
  have pc1 : w1.cell? ⟨w.heap.size, 1, none⟩ = some (.int .u8 8) := (blk_cell hp1 1).trans rfl
  have pc4 : w1.cell? ⟨w.heap.size, 4, none⟩ = some (.slice A l.length c) := (blk_cell hp1 4).trans rfl
  have pl_ := blk_lt hp1
  clear hg1 hd1 hr1 hp1 hf1
  go_wp2_with fail
  refine (HCB.out A c _ HD1.out.C HD1.out.le).mono ?_
  rintro e w2 ⟨vb, rfl, hbad, hb2⟩
  obtain ⟨qb, rfl, hqb⟩ := hbad
  have HBD := Aside0.mk (show IsBad w2 _ code from ⟨qb, rfl, hqb⟩)
  have HG2 := Aside0.mk (HG1.out.below hb2)
  have HF2 := Aside0.mk (HF1.out.below hb2)
  have HR2 := Aside0.mk (blk_below HR1.out hb2)
  clear hqb hb2 HG1 HD1 HR1 HF1 pc1 pc4 pl_
  have gc4 : w2.cell? ⟨g, 4, none⟩ = some (.bool false) := (blk_cell HG2.out.gw.blk 4).trans rfl
  have gf4 := blk_frozen HG2.out.gw.blk 4
  have gl := blk_lt HG2.out.gw.blk
  go_upto_region 18 with fail
  have HGX := Aside0.mk ((HG2.out.gw.setOver true).below (below_alloc (Below.refl _ _) (.cells #[.int .u8 0, .bool false, .slice none 0 0, .int .u32 0] 30)))
  have HFX := Aside0.mk ((HF2.out.set 4 (.bool true)).below (below_alloc (Below.refl _ _) (.cells #[.int .u8 0, .bool false, .slice none 0 0, .int .u32 0] 30)))
  have hng2 : w.heap.size + 1 ≠ g := by omega
  have HRX := Aside0.mk (show ((w2.setCell ⟨g, 4, none⟩ (.bool true)).alloc (.cells #[.int .u8 0, .bool false, .slice none 0 0, .int .u32 0] 30)).heap[w.heap.size + 1]? = some (.cells #[.int .u8 0, .bool false, .slice none 0 0, .int .u32 0] 30 (0, 0)) from blk_alloc ((Below.heap_setCell _ _ _ _ hng2).trans HR2.out) _)
  have HBX := Aside0.mk (show ((w2.setCell ⟨g, 4, none⟩ (.bool true)).alloc (.cells #[.int .u8 0, .bool false, .slice none 0 0, .int .u32 0] 30)).heap[w2.heap.size]? = some (.cells #[.int .u8 0, .bool false, .slice none 0 0, .int .u32 0] 30 (0, 0)) from last_at _ _ _ (by simp))
  have HBDX : Aside0 (IsBad ((w2.setCell ⟨g, 4, none⟩ (.bool true)).alloc (.cells #[.int .u8 0, .bool false, .slice none 0 0, .int .u32 0] 30)) (.iface 81 (.pointer (some ⟨qb, 0, none⟩))) code) := ⟨by
    obtain ⟨q, e, hq⟩ := HBD.out
    injection e with _ e
    injection e with e
    injection e with e
    injection e with e
    subst e
    have hgb := HG2.out.gw.blk
    unfold IsG at hgb
    exact ⟨_, rfl, blk_alloc ((Below.heap_setCell _ _ _ _ (show qb ≠ g from blk_ne hq hgb (by decide))).trans hq) _⟩⟩
  generalize (w2.setCell ⟨g, 4, none⟩ (.bool true)).alloc (.cells #[.int .u8 0, .bool false, .slice none 0 0, .int .u32 0] 30) = Wx at HGX HFX HRX HBX HBDX ⊢
  have hbl := HG2.out.gw.bel.size
  have hbx1 : w.heap.size + 1 < w2.heap.size := blk_lt HR2.out
  obtain ⟨bx, hbx⟩ : ∃ bx, bx = w2.heap.size := ⟨_, rfl⟩
  rw [← hbx] at HBX hbx1 ⊢
  have HTX := Aside0.mk (show TCb w0 w g v u b busy text (.iface 81 (.pointer (some ⟨qb, 0, none⟩))) code bx Wx from ⟨HGX.out, HFX.out, HBDX.out, HBX.out⟩)
  clear hbx hbl
  clear HG2 HF2 HR2 HBD hng2 gc4 gf4 gl
  clear HGX HFX HBDX HBX
  refine wp_region_noPanic ?_
  refine wp_region_held_drew (S := fun w' => Aside0 (TCb w0 w g v u b busy text (.iface 81 (.pointer (some ⟨qb, 0, none⟩))) code bx w') ∧ w'.cell? ⟨bx, 0, none⟩ = some (.int .u8 0) ∧ w'.cell? ⟨bx, 1, none⟩ = some (.bool false) ∧ w'.cell? ⟨bx, 2, none⟩ = some (.slice none 0 0) ∧ w'.cell? ⟨bx, 3, none⟩ = some (.int .u32 0)) (by kernel_rfl) (CSb (HTX.out.below (below_drew (Below.refl _ _)))) (fun hHeld => ?_)
  refine takeN (i := 0) (N := (some 72)) (v := ?v1) (a' := ?a1) rfl rfl (by kernel_rfl) (by kernel_rfl) (by kernel_rfl) (fun _ _ _ h => h) (Or.inl ⟨by rfl, ?hy1⟩) ?ha1 (by assumption) ?rest1
  case hy1 =>
    intro w_ hSw_
    go_simp
    first | done | (with_reducible rfl)
  case ha1 =>
    simp only [Act.put, List.setIfInBounds_toArray, List.set_cons_zero, List.set_cons_succ]
    rfl
  refine takeN (i := 1) (N := (some 73)) (v := ?v2) (a' := ?a2) rfl rfl (by kernel_rfl) (by kernel_rfl) (by kernel_rfl) (fun _ _ _ h => h) (Or.inl ⟨by rfl, ?hy2⟩) ?ha2 (by assumption) ?rest2
  case hy2 =>
    intro w_ hSw_
    go_simp
    first | done | (with_reducible rfl)
  case ha2 =>
    simp only [Act.put, List.setIfInBounds_toArray, List.set_cons_zero, List.set_cons_succ]
    rfl
  refine wpAnyH_ready (rs := [2]) (by kernel_rfl) (by simp) ?_
  refine AllReadyH.cons rfl (fun K hK => ?_) AllReadyH.nil
  go_simp
  go_at_call 34
  with_reducible refine (wrap_any _ _ _ _ hHeld.1.out.bad).mono ?_
  rintro e w' ⟨v3, rfl, hwr, hb⟩
  obtain ⟨q3, s3, v3', rfl, hq3, hq3b⟩ := hwr
  have HW3 := Aside0.mk (show IsWr w' _ code from ⟨q3, s3, v3', rfl, hq3, hq3b⟩)
  have HR3 := Aside0.mk (blk_below (blk_drew HRX.out) hb)
  have HT3 := Aside0.mk (hHeld.1.out.below hb)
  refine hK.out _ _ (CSb HT3.out) (fun hHeld => ?_)
  clear hK K
  try simp only [Act.put, List.setIfInBounds_toArray, List.set_cons_zero, List.set_cons_succ]
  have rc0 : w'.cell? ⟨w.heap.size + 1, 0, none⟩ = some (.int .u8 0) := (blk_cell HR3.out 0).trans rfl
  have rf0 := blk_frozen HR3.out 0
  have rc1 : w'.cell? ⟨w.heap.size + 1, 1, none⟩ = some (.bool false) := (blk_cell HR3.out 1).trans rfl
  have rf1 := blk_frozen HR3.out 1
  have rc2 : w'.cell? ⟨w.heap.size + 1, 2, none⟩ = some (.slice none 0 0) := (blk_cell HR3.out 2).trans rfl
  have rf2 := blk_frozen HR3.out 2
  have rc3 : w'.cell? ⟨w.heap.size + 1, 3, none⟩ = some (.int .u32 0) := (blk_cell HR3.out 3).trans rfl
  have rf3 := blk_frozen HR3.out 3
  have rl := blk_lt HR3.out
  refine wpAnyH_ready (rs := [3]) (by kernel_rfl) (by simp) ?_
  refine AllReadyH.cons rfl (fun K hK => ?_) AllReadyH.nil
  go_simp
  refine hK.out _ _ (CSb (HT3.out.off4 HR3.out (by omega) (Nat.le_succ_of_le HLO.out) (Nat.le_succ _) _ _ _ _)) (fun hHeld => ?_)
  clear hK K
  try simp only [Act.put, List.setIfInBounds_toArray, List.set_cons_zero, List.set_cons_succ]
  refine takeN (i := 4) (N := (some 5)) (v := ?v3) (a' := ?a3) rfl rfl (by kernel_rfl) (by kernel_rfl) (by kernel_rfl) (fun _ _ _ h => h) (Or.inl ⟨by rfl, ?hy3⟩) ?ha3 (by assumption) ?rest3
  case hy3 =>
    intro w_ hSw_
    go_simp
    first | done | (with_reducible rfl)
  case ha3 =>
    simp only [Act.put, List.setIfInBounds_toArray, List.set_cons_zero, List.set_cons_succ]
    rfl
  refine takeN (i := 5) (N := (some 6)) (v := ?v4) (a' := ?a4) rfl rfl (by kernel_rfl) (by kernel_rfl) (by kernel_rfl) (fun _ _ _ h => h) (Or.inl ⟨by rfl, ?hy4⟩) ?ha4 (by assumption) ?rest4
  case hy4 =>
    intro w_ hSw_
    go_simp
    first | done | (with_reducible rfl)
  case ha4 =>
    simp only [Act.put, List.setIfInBounds_toArray, List.set_cons_zero, List.set_cons_succ]
    rfl
  refine wpAnyH_done (by kernel_rfl) ?_ _
  refine NoPanic.normal ?_
  have HW4 := Aside0.mk (wr_off4 HW3.out HR3.out (.int .u8 0) (.bool false) (.slice none 0 0) (.int .u32 0))
  have HT4 := Aside0.mk hHeld.1.out
  clear hHeld
  go_wp2_with fail
  exact bodyPost_ret (v := .tuple #[.agg #[.int .u8 0, .bool false, .slice none 0 0, .int .u32 0], .bool true, .iface _ _]) (by simp [results, Tryd.results25, go_sem, rc0, rc1, rc2, rc3]) rfl ⟨_, _, _, _, _, _, _, _, rfl, .inl HW4.out, HT4.out.gw, HT4.out.fr⟩
end Go.Proofs.YtbjjobifpmjhhaaDoor

