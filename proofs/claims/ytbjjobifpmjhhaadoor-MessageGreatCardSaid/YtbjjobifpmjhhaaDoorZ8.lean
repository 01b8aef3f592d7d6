/- What the law's row rests on, part 8. -/
import Derived.Test.YtbjjobifpmjhhaaDoorZ7
import Derived.Deep.LoopGhost
import Derived.Deep.DeepCutAuto
import Derived.Deep.RegionHeld3
/- The gatherer's take of pings and of what may not be; Take. -/
namespace Go.Proofs.YtbjjobifpmjhhaaDoor
open Go.RowKit Go.Proofs.YtbjjobifpmjhhaaDoorW.PrintWords Go.Proofs.YtbjjobifpmjhhaaDoorW.PrintLast Go.Proofs.YtbjjobifpmjhhaaDoorW.PrintMore Go.Proofs.YtbjjobifpmjhhaaDoor.PAll Go.Proofs.YtbjjobifpmjhhaaDoor.U
set_option linter.unusedVariables false
set_option linter.unusedSimpArgs false
/-- A ping or a pong is told as it came. -/
def TkNote (w0 : World) (g : Nat) (v u : Value) (b : List Int) (busy text : Bool) (gu : Nat) (f : List Int) (k : Int) (d : List Int) (w : World) (e : Ending) (w' : World) : Prop := ∃ vn, e = .returned (.tuple #[.agg #[.int .u8 k, .bool false, vn, .int .u32 0], .bool true, .nilIface]) ∧ Gs w0 w' g v u b busy text false gu f ∧ Kd.R (Kd.int .u8) 5 w' w.heap.size (fun _ => True) vn d ∧ Fr w w' g v u
/-- The same of Take. -/
def TMore (w0 : World) (g : Nat) (v u : Value) (b : List Int) (tn : Bool) (w : World) (e : Ending) (w' : World) : Prop := e = .returned (.tuple #[.agg #[.int .u8 0, .bool false, .slice none 0 0, .int .u32 0], .bool false]) ∧ ∃ v' u' gu', Gs w0 w' g v' u' b true tn false gu' (if tn = true then b else []) ∧ Fr w w' g v u ∧ NewOr w v v'
def TTold (w0 : World) (g : Nat) (v u : Value) (b : List Int) (tn : Bool) (w : World) (e : Ending) (w' : World) : Prop := ∃ vn u', e = .returned (.tuple #[.agg #[.int .u8 1, .bool tn, vn, .int .u32 0], .bool true]) ∧ Gw w0 w' g (.slice none 0 0) u' [] false tn false ∧ Kd.R (Kd.int .u8) 5 w' w0.heap.size (fun _ => True) vn b ∧ Fr w w' g v u ∧ NewOr w v vn
def TBad (w0 : World) (g : Nat) (v u : Value) (code : Int) (w : World) (e : Ending) (w' : World) : Prop := e = .returned (.tuple #[.agg #[.int .u8 5, .bool false, .slice none 0 0, .int .u32 code], .bool true]) ∧ ∃ u' te, Gw w0 w' g (.slice none 0 0) u' [] false te true ∧ Fr w w' g v u
set_option maxHeartbeats 8000000 in
set_option maxRecDepth 100000 in
theorem take_ping {w0 w : World} {g : Nat} {v u : Value} {b : List Int} {busy text : Bool} {gu : Nat} {f : List Int} {fin : Bool} {mk : Bool} {key : Int} {A : Option Addr} {c : Nat} {d : List Int} (h : Gs w0 w g v u b busy text false gu f) (hd : Dat w (.slice A d.length c) d) (hdl : d.length ≤ 1000000000) : Calls Tryd.prog 25 #[.pointer (some ⟨g, 0, none⟩), .agg #[.bool fin, .int .u8 9, .bool mk, .int .u32 key, .slice A d.length c]] w (TkNote w0 g v u b busy text gu f 2 d w) := by
  have HDL := Aside0.mk hdl
  clear hdl
  have HU0 := Aside0.mk h.gw.ulow
  have HLO := Aside0.mk h.gw.bel.size
  have hgl := blk_lt h.gw.blk
  have hw1 : Below w.heap.size w ((w.alloc (.cells #[.bool fin, .int .u8 9, .bool mk, .int .u32 key, .slice A d.length c] 26)).alloc (.cells #[.int .u8 0, .bool false, .slice none 0 0, .int .u32 0] 30)) := below_alloc (below_alloc (Below.refl _ _) _) _
  have hg1 := h.below hw1
  have hd1 := hd.below hw1
  have hr1 : ((w.alloc (.cells #[.bool fin, .int .u8 9, .bool mk, .int .u32 key, .slice A d.length c] 26)).alloc (.cells #[.int .u8 0, .bool false, .slice none 0 0, .int .u32 0] 30)).heap[w.heap.size + 1]? = some (.cells #[.int .u8 0, .bool false, .slice none 0 0, .int .u32 0] 30 (0, 0)) := last_at _ _ _ (by simp)
  have hp1 : ((w.alloc (.cells #[.bool fin, .int .u8 9, .bool mk, .int .u32 key, .slice A d.length c] 26)).alloc (.cells #[.int .u8 0, .bool false, .slice none 0 0, .int .u32 0] 30)).heap[w.heap.size]? = some (.cells #[.bool fin, .int .u8 9, .bool mk, .int .u32 key, .slice A d.length c] 26 (0, 0)) := blk_alloc (last_at _ _ _ rfl) _
  have hf1 := (Fr.refl w g v u).below hw1
  have hu30 := Tryd.underlying30
  have hu26 := Tryd.underlying26
  have HW1 := Aside0.mk hw1
  clear h hd hw1
  go_enter Tryd.func25, Tryd.ntmps25
  go_upto_region 1 with fail
  generalize (w.alloc (.cells #[.bool fin, .int .u8 9, .bool mk, .int .u32 key, .slice A d.length c] 26)).alloc (.cells #[.int .u8 0, .bool false, .slice none 0 0, .int .u32 0] 30) = w1 at hg1 hd1 hr1 hp1 hf1 HW1 ⊢
  have HG1 := Aside0.mk hg1
  have HD1 := Aside0.mk hd1
  have HR1 := Aside0.mk hr1
  have HF1 := Aside0.mk hf1
  have pc0 : w1.cell? ⟨w.heap.size, 0, none⟩ = some (.bool fin) := (blk_cell hp1 0).trans rfl
  have pc1 : w1.cell? ⟨w.heap.size, 1, none⟩ = some (.int .u8 9) := (blk_cell hp1 1).trans rfl
  have pc2 : w1.cell? ⟨w.heap.size, 2, none⟩ = some (.bool mk) := (blk_cell hp1 2).trans rfl
  have pc3 : w1.cell? ⟨w.heap.size, 3, none⟩ = some (.int .u32 key) := (blk_cell hp1 3).trans rfl
  have pc4 : w1.cell? ⟨w.heap.size, 4, none⟩ = some (.slice A d.length c) := (blk_cell hp1 4).trans rfl
  have pl_ := blk_lt hp1
  clear hg1 hd1 hr1 hp1 hf1
  go_wp2_with fail
  refine (bytes_Clone.calls A c d d _ (Dat.C HD1.out) (Dat.le HD1.out) (by unfold bytes_Clone.f; rw [if_pos (by have := HDL.out; omega)])).mono ?_
  rintro e w2 ⟨vn, rfl, ho, hb⟩
  obtain ⟨Av, cv, rfl⟩ := Kd.R_slice ho
  have hr2 := blk_below HR1.out hb
  have HG2 := Aside0.mk (HG1.out.below hb)
  have HF2 := Aside0.mk (HF1.out.below hb)
  have HR2 := Aside0.mk hr2
  have HO2 := Aside0.mk (Kd.R_lower ho HW1.out.size)
  have rc0 : w2.cell? ⟨w.heap.size + 1, 0, none⟩ = some (.int .u8 0) := (blk_cell hr2 0).trans rfl
  have rf0 := blk_frozen hr2 0
  have rc1 : w2.cell? ⟨w.heap.size + 1, 1, none⟩ = some (.bool false) := (blk_cell hr2 1).trans rfl
  have rf1 := blk_frozen hr2 1
  have rc2 : w2.cell? ⟨w.heap.size + 1, 2, none⟩ = some (.slice none 0 0) := (blk_cell hr2 2).trans rfl
  have rf2 := blk_frozen hr2 2
  have rc3 : w2.cell? ⟨w.heap.size + 1, 3, none⟩ = some (.int .u32 0) := (blk_cell hr2 3).trans rfl
  have rf3 := blk_frozen hr2 3
  have rl := blk_lt hr2
  clear ho hb hr2 HG1 HF1 HR1 HD1 pc0 pc1 pc2 pc3 pc4 pl_
  have hle : w0.heap.size ≤ w.heap.size + 1 := Nat.le_succ_of_le HLO.out
  go_wp2_with fail
  exact bodyPost_ret (v := .tuple #[.agg #[.int .u8 2, .bool false, .slice Av d.length cv, .int .u32 0], .bool true, .nilIface]) (by simp [results, Tryd.results25, go_sem, rc0, rc1, rc2, rc3]) rfl ⟨_, rfl, HG2.out.off4 HR2.out hle _ _ _ _, row_off4 HO2.out HR2.out _ _ _ _, HF2.out.off4 (Nat.le_succ _) _ _ _ _⟩
set_option maxHeartbeats 8000000 in
set_option maxRecDepth 100000 in
theorem Take_more {w0 w : World} {g : Nat} {v u : Value} {b : List Int} {busy text : Bool} {gu : Nat} {f : List Int} {fin : Bool} {op : Int} {mk : Bool} {key : Int} {A : Option Addr} {c : Nat} {d : List Int} (h : Gs w0 w g v u b busy text false gu f) (hd : Dat w (.slice A d.length c) d) {b2 : List Int} {tn : Bool} (hT : ∀ W, Below w.heap.size w W → Gs w0 W g v u b busy text false gu f → Dat W (.slice A d.length c) d → Calls Tryd.prog 25 #[.pointer (some ⟨g, 0, none⟩), .agg #[.bool fin, .int .u8 op, .bool mk, .int .u32 key, .slice A d.length c]] W (TkMore w0 g v u b2 tn W)) : Calls Tryd.prog 14 #[.pointer (some ⟨g, 0, none⟩), .agg #[.bool fin, .int .u8 op, .bool mk, .int .u32 key, .slice A d.length c]] w (TMore w0 g v u b2 tn w) := by
  have HT := Aside0.mk hT
  clear hT
  have HU0 := Aside0.mk h.gw.ulow
  have HLO := Aside0.mk h.gw.bel.size
  have hgl := blk_lt h.gw.blk
  have hw1 : Below w.heap.size w ((w.alloc (.cells #[.bool fin, .int .u8 op, .bool mk, .int .u32 key, .slice A d.length c] 26)).alloc (.cells #[.int .u8 0, .bool false, .slice none 0 0, .int .u32 0] 30)) := below_alloc (below_alloc (Below.refl _ _) _) _
  have hg1 := h.below hw1
  have hd1 := hd.below hw1
  have hr1 : ((w.alloc (.cells #[.bool fin, .int .u8 op, .bool mk, .int .u32 key, .slice A d.length c] 26)).alloc (.cells #[.int .u8 0, .bool false, .slice none 0 0, .int .u32 0] 30)).heap[w.heap.size + 1]? = some (.cells #[.int .u8 0, .bool false, .slice none 0 0, .int .u32 0] 30 (0, 0)) := last_at _ _ _ (by simp)
  have hp1 : ((w.alloc (.cells #[.bool fin, .int .u8 op, .bool mk, .int .u32 key, .slice A d.length c] 26)).alloc (.cells #[.int .u8 0, .bool false, .slice none 0 0, .int .u32 0] 30)).heap[w.heap.size]? = some (.cells #[.bool fin, .int .u8 op, .bool mk, .int .u32 key, .slice A d.length c] 26 (0, 0)) := blk_alloc (last_at _ _ _ rfl) _
  have hf1 := (Fr.refl w g v u).below hw1
  have hu30 := Tryd.underlying30
  have hu26 := Tryd.underlying26
  have HW1 := Aside0.mk hw1
  clear h hd hw1
  go_enter Tryd.func14, Tryd.ntmps14
  go_upto_region 1 with fail
  generalize (w.alloc (.cells #[.bool fin, .int .u8 op, .bool mk, .int .u32 key, .slice A d.length c] 26)).alloc (.cells #[.int .u8 0, .bool false, .slice none 0 0, .int .u32 0] 30) = w1 at hg1 hd1 hr1 hp1 hf1 HW1 ⊢
  have HG1 := Aside0.mk hg1
  have HD1 := Aside0.mk hd1
  have HR1 := Aside0.mk hr1
  have HF1 := Aside0.mk hf1
  have pc0 : w1.cell? ⟨w.heap.size, 0, none⟩ = some (.bool fin) := (blk_cell hp1 0).trans rfl
  have pc1 : w1.cell? ⟨w.heap.size, 1, none⟩ = some (.int .u8 op) := (blk_cell hp1 1).trans rfl
  have pc2 : w1.cell? ⟨w.heap.size, 2, none⟩ = some (.bool mk) := (blk_cell hp1 2).trans rfl
  have pc3 : w1.cell? ⟨w.heap.size, 3, none⟩ = some (.int .u32 key) := (blk_cell hp1 3).trans rfl
  have pc4 : w1.cell? ⟨w.heap.size, 4, none⟩ = some (.slice A d.length c) := (blk_cell hp1 4).trans rfl
  have pl_ := blk_lt hp1
  clear hg1 hd1 hr1 hp1 hf1
  go_wp2_with fail
  refine (over_any g v u busy text false _ HG1.out.gw.blk).mono ?_
  rintro e w1' ⟨rfl, hw1'⟩
  subst hw1'
  go_wp2_with fail
  refine (HT.out w1' HW1.out HG1.out HD1.out).mono ?_
  rintro e w2 hp
  obtain ⟨rfl, v', u', gu', hG, hF, hN⟩ := hp
  have HN2 := Aside0.mk (hN.mono HF1.out.size)
  have HG2 := Aside0.mk hG
  have hr2 : w2.heap[w.heap.size + 1]? = some (.cells #[.int .u8 0, .bool false, .slice none 0 0, .int .u32 0] 30 (0, 0)) := (hF.same _ (blk_lt HR1.out) (fun e => by have := hgl; omega) (fun e => by have := Kd.R_ne HG1.out.gw.row HR1.out (by decide); exact this e) (fun e => by have := HU0.out _ e; omega)).trans HR1.out
  have hF2 : Fr w w2 g v u := ⟨Nat.le_trans HF1.out.size hF.size, fun k hk h1 h2 h3 => (hF.same k (Nat.lt_of_lt_of_le hk HF1.out.size) h1 h2 h3).trans (HF1.out.same k hk h1 h2 h3)⟩
  have HR2 := Aside0.mk hr2
  have HF2 := Aside0.mk hF2
  have hle : w0.heap.size ≤ w.heap.size + 1 := Nat.le_succ_of_le HLO.out
  clear hr2 hF2 HG1 HF1 HR1 HD1 pc0 pc1 pc2 pc3 pc4 pl_
  clear hG hF hN
  go_upto_region 4 with fail
  have hb3 : Below w2.heap.size w2 (w2.alloc (.cells #[.int .u8 0, .bool false, .slice none 0 0, .int .u32 0] 30)) := below_alloc (Below.refl _ _) _
  have hn3 : (w2.alloc (.cells #[.int .u8 0, .bool false, .slice none 0 0, .int .u32 0] 30)).heap[w2.heap.size]? = some (.cells #[.int .u8 0, .bool false, .slice none 0 0, .int .u32 0] 30 (0, 0)) := last_at _ _ _ rfl
  generalize w2.alloc (.cells #[.int .u8 0, .bool false, .slice none 0 0, .int .u32 0] 30) = w3 at hb3 hn3 ⊢
  generalize w2.heap.size = gn at hn3 ⊢
  have HR3 := Aside0.mk (blk_below HR2.out hb3)
  have HF3 := Aside0.mk (HF2.out.below hb3)
  have nc0 : w3.cell? ⟨gn, 0, none⟩ = some (.int .u8 0) := (blk_cell hn3 0).trans rfl
  have nc1 : w3.cell? ⟨gn, 1, none⟩ = some (.bool false) := (blk_cell hn3 1).trans rfl
  have nc2 : w3.cell? ⟨gn, 2, none⟩ = some (.slice none 0 0) := (blk_cell hn3 2).trans rfl
  have nc3 : w3.cell? ⟨gn, 3, none⟩ = some (.int .u32 0) := (blk_cell hn3 3).trans rfl
  have nl := blk_lt hn3
  have rc0 : w3.cell? ⟨w.heap.size + 1, 0, none⟩ = some (.int .u8 0) := (blk_cell HR3.out 0).trans rfl
  have rf0 := blk_frozen HR3.out 0
  have rc1 : w3.cell? ⟨w.heap.size + 1, 1, none⟩ = some (.bool false) := (blk_cell HR3.out 1).trans rfl
  have rf1 := blk_frozen HR3.out 1
  have rc2 : w3.cell? ⟨w.heap.size + 1, 2, none⟩ = some (.slice none 0 0) := (blk_cell HR3.out 2).trans rfl
  have rf2 := blk_frozen HR3.out 2
  have rc3 : w3.cell? ⟨w.heap.size + 1, 3, none⟩ = some (.int .u32 0) := (blk_cell HR3.out 3).trans rfl
  have rf3 := blk_frozen HR3.out 3
  have rl := blk_lt HR3.out
  have HG3 := Aside0.mk (HG2.out.below hb3)
  have go4 : w3.cell? ⟨g, 4, none⟩ = some (.bool false) := (blk_cell HG3.out.gw.blk 4).trans rfl
  clear hb3 hn3 HG2
  go_wp2_with fail
  exact bodyPost_ret (v := .tuple #[.agg #[.int .u8 0, .bool false, .slice none 0 0, .int .u32 0], .bool false]) (by simp [results, Tryd.results14, go_sem, rc0, rc1, rc2, rc3]) rfl ⟨rfl, _, _, _, HG3.out.off4 HR3.out hle _ _ _ _, HF3.out.off4 (Nat.le_succ _) _ _ _ _, HN2.out⟩
set_option maxHeartbeats 8000000 in
set_option maxRecDepth 100000 in
theorem Take_told {w0 w : World} {g : Nat} {v u : Value} {b : List Int} {busy text : Bool} {gu : Nat} {f : List Int} {fin : Bool} {op : Int} {mk : Bool} {key : Int} {A : Option Addr} {c : Nat} {d : List Int} (h : Gs w0 w g v u b busy text false gu f) (hd : Dat w (.slice A d.length c) d) {b2 : List Int} {tn : Bool} (hT : ∀ W, Below w.heap.size w W → Gs w0 W g v u b busy text false gu f → Dat W (.slice A d.length c) d → Calls Tryd.prog 25 #[.pointer (some ⟨g, 0, none⟩), .agg #[.bool fin, .int .u8 op, .bool mk, .int .u32 key, .slice A d.length c]] W (TkTold w0 g v u b2 tn W)) : Calls Tryd.prog 14 #[.pointer (some ⟨g, 0, none⟩), .agg #[.bool fin, .int .u8 op, .bool mk, .int .u32 key, .slice A d.length c]] w (TTold w0 g v u b2 tn w) := by
  have HT := Aside0.mk hT
  clear hT
  have HU0 := Aside0.mk h.gw.ulow
  have HLO := Aside0.mk h.gw.bel.size
  have hgl := blk_lt h.gw.blk
  have hw1 : Below w.heap.size w ((w.alloc (.cells #[.bool fin, .int .u8 op, .bool mk, .int .u32 key, .slice A d.length c] 26)).alloc (.cells #[.int .u8 0, .bool false, .slice none 0 0, .int .u32 0] 30)) := below_alloc (below_alloc (Below.refl _ _) _) _
  have hg1 := h.below hw1
  have hd1 := hd.below hw1
  have hr1 : ((w.alloc (.cells #[.bool fin, .int .u8 op, .bool mk, .int .u32 key, .slice A d.length c] 26)).alloc (.cells #[.int .u8 0, .bool false, .slice none 0 0, .int .u32 0] 30)).heap[w.heap.size + 1]? = some (.cells #[.int .u8 0, .bool false, .slice none 0 0, .int .u32 0] 30 (0, 0)) := last_at _ _ _ (by simp)
  have hp1 : ((w.alloc (.cells #[.bool fin, .int .u8 op, .bool mk, .int .u32 key, .slice A d.length c] 26)).alloc (.cells #[.int .u8 0, .bool false, .slice none 0 0, .int .u32 0] 30)).heap[w.heap.size]? = some (.cells #[.bool fin, .int .u8 op, .bool mk, .int .u32 key, .slice A d.length c] 26 (0, 0)) := blk_alloc (last_at _ _ _ rfl) _
  have hf1 := (Fr.refl w g v u).below hw1
  have hu30 := Tryd.underlying30
  have hu26 := Tryd.underlying26
  have HW1 := Aside0.mk hw1
  clear h hd hw1
  go_enter Tryd.func14, Tryd.ntmps14
  go_upto_region 1 with fail
  generalize (w.alloc (.cells #[.bool fin, .int .u8 op, .bool mk, .int .u32 key, .slice A d.length c] 26)).alloc (.cells #[.int .u8 0, .bool false, .slice none 0 0, .int .u32 0] 30) = w1 at hg1 hd1 hr1 hp1 hf1 HW1 ⊢
  have HG1 := Aside0.mk hg1
  have HD1 := Aside0.mk hd1
  have HR1 := Aside0.mk hr1
  have HF1 := Aside0.mk hf1
  have pc0 : w1.cell? ⟨w.heap.size, 0, none⟩ = some (.bool fin) := (blk_cell hp1 0).trans rfl
  have pc1 : w1.cell? ⟨w.heap.size, 1, none⟩ = some (.int .u8 op) := (blk_cell hp1 1).trans rfl
  have pc2 : w1.cell? ⟨w.heap.size, 2, none⟩ = some (.bool mk) := (blk_cell hp1 2).trans rfl
  have pc3 : w1.cell? ⟨w.heap.size, 3, none⟩ = some (.int .u32 key) := (blk_cell hp1 3).trans rfl
  have pc4 : w1.cell? ⟨w.heap.size, 4, none⟩ = some (.slice A d.length c) := (blk_cell hp1 4).trans rfl
  have pl_ := blk_lt hp1
  clear hg1 hd1 hr1 hp1 hf1
  go_wp2_with fail
  refine (over_any g v u busy text false _ HG1.out.gw.blk).mono ?_
  rintro e w1' ⟨rfl, hw1'⟩
  subst hw1'
  go_wp2_with fail
  refine (HT.out w1' HW1.out HG1.out HD1.out).mono ?_
  rintro e w2 hp
  obtain ⟨vn, u', rfl, hG, hR, hF, hN⟩ := hp
  obtain ⟨An, cn, rfl⟩ := Kd.R_slice hR
  have HN2 := Aside0.mk (hN.mono HF1.out.size)
  have HG2 := Aside0.mk hG
  have HRW2 := Aside0.mk hR
  have hr2 : w2.heap[w.heap.size + 1]? = some (.cells #[.int .u8 0, .bool false, .slice none 0 0, .int .u32 0] 30 (0, 0)) := (hF.same _ (blk_lt HR1.out) (fun e => by have := hgl; omega) (fun e => by have := Kd.R_ne HG1.out.gw.row HR1.out (by decide); exact this e) (fun e => by have := HU0.out _ e; omega)).trans HR1.out
  have hF2 : Fr w w2 g v u := ⟨Nat.le_trans HF1.out.size hF.size, fun k hk h1 h2 h3 => (hF.same k (Nat.lt_of_lt_of_le hk HF1.out.size) h1 h2 h3).trans (HF1.out.same k hk h1 h2 h3)⟩
  have HR2 := Aside0.mk hr2
  have HF2 := Aside0.mk hF2
  have hle : w0.heap.size ≤ w.heap.size + 1 := Nat.le_succ_of_le HLO.out
  clear hr2 hF2 HG1 HF1 HR1 HD1 pc0 pc1 pc2 pc3 pc4 pl_
  clear hG hF hN hR
  go_upto_region 4 with fail
  have hb3 : Below w2.heap.size w2 (w2.alloc (.cells #[.int .u8 1, .bool tn, .slice An b2.length cn, .int .u32 0] 30)) := below_alloc (Below.refl _ _) _
  have hn3 : (w2.alloc (.cells #[.int .u8 1, .bool tn, .slice An b2.length cn, .int .u32 0] 30)).heap[w2.heap.size]? = some (.cells #[.int .u8 1, .bool tn, .slice An b2.length cn, .int .u32 0] 30 (0, 0)) := last_at _ _ _ rfl
  generalize w2.alloc (.cells #[.int .u8 1, .bool tn, .slice An b2.length cn, .int .u32 0] 30) = w3 at hb3 hn3 ⊢
  generalize w2.heap.size = gn at hn3 ⊢
  have HR3 := Aside0.mk (blk_below HR2.out hb3)
  have HF3 := Aside0.mk (HF2.out.below hb3)
  have nc0 : w3.cell? ⟨gn, 0, none⟩ = some (.int .u8 1) := (blk_cell hn3 0).trans rfl
  have nc1 : w3.cell? ⟨gn, 1, none⟩ = some (.bool tn) := (blk_cell hn3 1).trans rfl
  have nc2 : w3.cell? ⟨gn, 2, none⟩ = some (.slice An b2.length cn) := (blk_cell hn3 2).trans rfl
  have nc3 : w3.cell? ⟨gn, 3, none⟩ = some (.int .u32 0) := (blk_cell hn3 3).trans rfl
  have nl := blk_lt hn3
  have rc0 : w3.cell? ⟨w.heap.size + 1, 0, none⟩ = some (.int .u8 0) := (blk_cell HR3.out 0).trans rfl
  have rf0 := blk_frozen HR3.out 0
  have rc1 : w3.cell? ⟨w.heap.size + 1, 1, none⟩ = some (.bool false) := (blk_cell HR3.out 1).trans rfl
  have rf1 := blk_frozen HR3.out 1
  have rc2 : w3.cell? ⟨w.heap.size + 1, 2, none⟩ = some (.slice none 0 0) := (blk_cell HR3.out 2).trans rfl
  have rf2 := blk_frozen HR3.out 2
  have rc3 : w3.cell? ⟨w.heap.size + 1, 3, none⟩ = some (.int .u32 0) := (blk_cell HR3.out 3).trans rfl
  have rf3 := blk_frozen HR3.out 3
  have rl := blk_lt HR3.out
  have HG3 := Aside0.mk (HG2.out.below hb3)
  have HRW3 := Aside0.mk (Kd.R_below HRW2.out hb3)
  have go4 : w3.cell? ⟨g, 4, none⟩ = some (.bool false) := (blk_cell HG3.out.blk 4).trans rfl
  clear hb3 hn3 HG2 HRW2
  go_wp2_with fail
  exact bodyPost_ret (v := .tuple #[.agg #[.int .u8 1, .bool tn, .slice An b2.length cn, .int .u32 0], .bool true]) (by simp [results, Tryd.results14, go_sem, rc0, rc1, rc2, rc3]) rfl ⟨_, _, rfl, HG3.out.off4 HR3.out hle _ _ _ _, row_off4 HRW3.out HR3.out _ _ _ _, HF3.out.off4 (Nat.le_succ _) _ _ _ _, HN2.out⟩
set_option maxHeartbeats 8000000 in
set_option maxRecDepth 100000 in
theorem Take_bad {w0 w : World} {g : Nat} {v u : Value} {b : List Int} {busy text : Bool} {gu : Nat} {f : List Int} {fin : Bool} {op : Int} {mk : Bool} {key : Int} {A : Option Addr} {c : Nat} {d : List Int} (h : Gs w0 w g v u b busy text false gu f) (hd : Dat w (.slice A d.length c) d) {code : Int} (hg : Cond w0) (hT : ∀ W, Below w.heap.size w W → Gs w0 W g v u b busy text false gu f → Dat W (.slice A d.length c) d → Calls Tryd.prog 25 #[.pointer (some ⟨g, 0, none⟩), .agg #[.bool fin, .int .u8 op, .bool mk, .int .u32 key, .slice A d.length c]] W (TkBad w0 g v u code W)) : Calls Tryd.prog 14 #[.pointer (some ⟨g, 0, none⟩), .agg #[.bool fin, .int .u8 op, .bool mk, .int .u32 key, .slice A d.length c]] w (TBad w0 g v u code w) := by
  have HT := Aside0.mk hT
  clear hT
  have HCN := Aside0.mk hg
  clear hg
  have HU0 := Aside0.mk h.gw.ulow
  have HLO := Aside0.mk h.gw.bel.size
  have hgl := blk_lt h.gw.blk
  have hw1 : Below w.heap.size w ((w.alloc (.cells #[.bool fin, .int .u8 op, .bool mk, .int .u32 key, .slice A d.length c] 26)).alloc (.cells #[.int .u8 0, .bool false, .slice none 0 0, .int .u32 0] 30)) := below_alloc (below_alloc (Below.refl _ _) _) _
  have hg1 := h.below hw1
  have hd1 := hd.below hw1
  have hr1 : ((w.alloc (.cells #[.bool fin, .int .u8 op, .bool mk, .int .u32 key, .slice A d.length c] 26)).alloc (.cells #[.int .u8 0, .bool false, .slice none 0 0, .int .u32 0] 30)).heap[w.heap.size + 1]? = some (.cells #[.int .u8 0, .bool false, .slice none 0 0, .int .u32 0] 30 (0, 0)) := last_at _ _ _ (by simp)
  have hp1 : ((w.alloc (.cells #[.bool fin, .int .u8 op, .bool mk, .int .u32 key, .slice A d.length c] 26)).alloc (.cells #[.int .u8 0, .bool false, .slice none 0 0, .int .u32 0] 30)).heap[w.heap.size]? = some (.cells #[.bool fin, .int .u8 op, .bool mk, .int .u32 key, .slice A d.length c] 26 (0, 0)) := blk_alloc (last_at _ _ _ rfl) _
  have hf1 := (Fr.refl w g v u).below hw1
  have hu30 := Tryd.underlying30
  have hu26 := Tryd.underlying26
  have HW1 := Aside0.mk hw1
  clear h hd hw1
  go_enter Tryd.func14, Tryd.ntmps14
  go_upto_region 1 with fail
  generalize (w.alloc (.cells #[.bool fin, .int .u8 op, .bool mk, .int .u32 key, .slice A d.length c] 26)).alloc (.cells #[.int .u8 0, .bool false, .slice none 0 0, .int .u32 0] 30) = w1 at hg1 hd1 hr1 hp1 hf1 HW1 ⊢
  have HG1 := Aside0.mk hg1
  have HD1 := Aside0.mk hd1
  have HR1 := Aside0.mk hr1
  have HF1 := Aside0.mk hf1
  have pc0 : w1.cell? ⟨w.heap.size, 0, none⟩ = some (.bool fin) := (blk_cell hp1 0).trans rfl
  have pc1 : w1.cell? ⟨w.heap.size, 1, none⟩ = some (.int .u8 op) := (blk_cell hp1 1).trans rfl
  have pc2 : w1.cell? ⟨w.heap.size, 2, none⟩ = some (.bool mk) := (blk_cell hp1 2).trans rfl
  have pc3 : w1.cell? ⟨w.heap.size, 3, none⟩ = some (.int .u32 key) := (blk_cell hp1 3).trans rfl
  have pc4 : w1.cell? ⟨w.heap.size, 4, none⟩ = some (.slice A d.length c) := (blk_cell hp1 4).trans rfl
  have pl_ := blk_lt hp1
  clear hg1 hd1 hr1 hp1 hf1
  go_wp2_with fail
  refine (over_any g v u busy text false _ HG1.out.gw.blk).mono ?_
  rintro e w1' ⟨rfl, hw1'⟩
  subst hw1'
  go_wp2_with fail
  refine (HT.out w1' HW1.out HG1.out HD1.out).mono ?_
  rintro e w2 hp
  obtain ⟨ok, ve, v', u', b', bu, te, ov, rfl, hve, hG, hF⟩ := hp
  obtain ⟨Av', cv', rfl⟩ := Kd.R_slice hG.row
  have HG2 := Aside0.mk hG
  have HVE := Aside0.mk hve
  have hvi : ∃ t q, ve = .iface t q := by
    rcases hve with ⟨q, s, v2, e, _, _⟩ | ⟨q, e, _⟩
    · exact ⟨_, _, e⟩
    · exact ⟨_, _, e⟩
  obtain ⟨tve, qve, rfl⟩ := hvi
  have hr2 : w2.heap[w.heap.size + 1]? = some (.cells #[.int .u8 0, .bool false, .slice none 0 0, .int .u32 0] 30 (0, 0)) := (hF.same _ (blk_lt HR1.out) (fun e => by have := hgl; omega) (fun e => by have := Kd.R_ne HG1.out.gw.row HR1.out (by decide); exact this e) (fun e => by have := HU0.out _ e; omega)).trans HR1.out
  have hF2 : Fr w w2 g v u := ⟨Nat.le_trans HF1.out.size hF.size, fun k hk h1 h2 h3 => (hF.same k (Nat.lt_of_lt_of_le hk HF1.out.size) h1 h2 h3).trans (HF1.out.same k hk h1 h2 h3)⟩
  have HR2 := Aside0.mk hr2
  have HF2 := Aside0.mk hF2
  have hle : w0.heap.size ≤ w.heap.size + 1 := Nat.le_succ_of_le HLO.out
  clear hr2 hF2 HG1 HF1 HR1 HD1 pc0 pc1 pc2 pc3 pc4 pl_
  clear hG hF hve
  go_upto_region 4 with fail
  have hb3 : Below w2.heap.size w2 (w2.alloc (.cells #[.int .u8 0, .bool false, .slice none 0 0, .int .u32 0] 30)) := below_alloc (Below.refl _ _) _
  generalize w2.alloc (.cells #[.int .u8 0, .bool false, .slice none 0 0, .int .u32 0] 30) = w3 at hb3 ⊢
  generalize w2.heap.size = gn
  have HR3 := Aside0.mk (blk_below HR2.out hb3)
  have HF3 := Aside0.mk (HF2.out.below hb3)
  have HG3 := Aside0.mk (HG2.out.below hb3)
  have HV3 : Aside0 (IsWr w3 (.iface tve qve) code ∨ IsBad w3 (.iface tve qve) code) := ⟨HVE.out.imp (fun h => h.below hb3) (fun h => h.below hb3)⟩
  clear hb3 HG2 HF2 HR2 HVE
  have gc0 : w3.cell? ⟨g, 0, none⟩ = some (.slice Av' b'.length cv') := (blk_cell HG3.out.blk 0).trans rfl
  have gf0 := blk_frozen HG3.out.blk 0
  have gc1 : w3.cell? ⟨g, 1, none⟩ = some (.bool bu) := (blk_cell HG3.out.blk 1).trans rfl
  have gf1 := blk_frozen HG3.out.blk 1
  have gc4 : w3.cell? ⟨g, 4, none⟩ = some (.bool ov) := (blk_cell HG3.out.blk 4).trans rfl
  have gf4 := blk_frozen HG3.out.blk 4
  have gl := blk_lt HG3.out.blk
  go_upto_region 6 with fail
  have hgr : w.heap.size + 1 ≠ g := blk_ne HR3.out HG3.out.blk (by decide)
  have hst : ∀ (W : World) (j : Nat) (x : Value) (q : Nat), q ≠ g → (W.setCell ⟨g, j, none⟩ x).heap[q]? = W.heap[q]? := fun W j x q hq => Below.heap_setCell W ⟨g, j, none⟩ x q hq
  have hG5 : Gw w0 (((w3.setCell ⟨g, 4, none⟩ (.bool true)).setCell ⟨g, 0, none⟩ (.slice none 0 0)).setCell ⟨g, 1, none⟩ (.bool false)) g (.slice none 0 0) u' [] false te true := ((HG3.out.setOver true).setNil).setBusy false
  have hF5 : Fr w (((w3.setCell ⟨g, 4, none⟩ (.bool true)).setCell ⟨g, 0, none⟩ (.slice none 0 0)).setCell ⟨g, 1, none⟩ (.bool false)) g v u := ((HF3.out.set 4 _).set 0 _).set 1 _
  have hr5 : (((w3.setCell ⟨g, 4, none⟩ (.bool true)).setCell ⟨g, 0, none⟩ (.slice none 0 0)).setCell ⟨g, 1, none⟩ (.bool false)).heap[w.heap.size + 1]? = some (.cells #[.int .u8 0, .bool false, .slice none 0 0, .int .u32 0] 30 (0, 0)) := (hst _ _ _ _ hgr).trans ((hst _ _ _ _ hgr).trans ((hst _ _ _ _ hgr).trans HR3.out))
  have hst3 : ∀ (q : Nat) (o : Obj), w3.heap[q]? = some o → (∀ cs, o ≠ .cells cs 60 (0, 0)) → (((w3.setCell ⟨g, 4, none⟩ (.bool true)).setCell ⟨g, 0, none⟩ (.slice none 0 0)).setCell ⟨g, 1, none⟩ (.bool false)).heap[q]? = some o := fun q o hq ho => by
    have hqg : q ≠ g := fun e => by
      rw [e, show w3.heap[g]? = _ from HG3.out.blk] at hq
      injection hq with hq
      exact ho _ hq.symm
    exact (hst _ _ _ _ hqg).trans ((hst _ _ _ _ hqg).trans ((hst _ _ _ _ hqg).trans hq))
  have hv5 : IsWr (((w3.setCell ⟨g, 4, none⟩ (.bool true)).setCell ⟨g, 0, none⟩ (.slice none 0 0)).setCell ⟨g, 1, none⟩ (.bool false)) (.iface tve qve) code ∨ IsBad (((w3.setCell ⟨g, 4, none⟩ (.bool true)).setCell ⟨g, 0, none⟩ (.slice none 0 0)).setCell ⟨g, 1, none⟩ (.bool false)) (.iface tve qve) code := by
    have hbb : ∀ (z : Value), IsBad w3 z code → IsBad (((w3.setCell ⟨g, 4, none⟩ (.bool true)).setCell ⟨g, 0, none⟩ (.slice none 0 0)).setCell ⟨g, 1, none⟩ (.bool false)) z code := fun z hz => by
      obtain ⟨q, e, hq⟩ := hz
      exact ⟨q, e, hst3 _ _ hq (fun cs e => by injection e with _ e _; exact absurd e (by decide))⟩
    rcases HV3.out with ⟨q, s, v2, e, hq, hb⟩ | hb
    · exact .inl ⟨q, s, v2, e, hst3 _ _ hq (fun cs e => by injection e with _ e _; exact absurd e (by decide)), hbb _ hb⟩
    · exact .inr (hbb _ hb)
  have hc5 : Cond (((w3.setCell ⟨g, 4, none⟩ (.bool true)).setCell ⟨g, 0, none⟩ (.slice none 0 0)).setCell ⟨g, 1, none⟩ (.bool false)) := HCN.out.below hG5.bel
  generalize (((w3.setCell ⟨g, 4, none⟩ (.bool true)).setCell ⟨g, 0, none⟩ (.slice none 0 0)).setCell ⟨g, 1, none⟩ (.bool false)) = w5 at hG5 hF5 hr5 hv5 hc5 ⊢
  clear gc0 gc1 gc4 gf0 gf1 gf4 gl HG3 HF3 HR3 HV3 hst hst3
  have HG5 := Aside0.mk hG5
  have HF5 := Aside0.mk hF5
  have HR5 := Aside0.mk hr5
  have HC5 := Aside0.mk hc5
  clear hG5 hF5 hr5 hc5
  have hof : Calls Tryd.prog 26 #[.iface tve qve] w5 fun e w' => e = .returned (.agg #[.int .u8 3, .int .u32 code]) ∧ Below w5.heap.size w5 w' := by
    rcases hv5 with h | h
    · exact of_wr _ _ _ h HC5.out
    · exact of_bad _ _ _ h HC5.out
  clear hv5
  go_wp2_with fail
  refine hof.mono ?_
  rintro e w6 ⟨rfl, hb6⟩
  have HG6 := Aside0.mk (HG5.out.below hb6)
  have HF6 := Aside0.mk (HF5.out.below hb6)
  have HR6 := Aside0.mk (blk_below HR5.out hb6)
  have rc0 : w6.cell? ⟨w.heap.size + 1, 0, none⟩ = some (.int .u8 0) := (blk_cell HR6.out 0).trans rfl
  have rf0 := blk_frozen HR6.out 0
  have rc1 : w6.cell? ⟨w.heap.size + 1, 1, none⟩ = some (.bool false) := (blk_cell HR6.out 1).trans rfl
  have rf1 := blk_frozen HR6.out 1
  have rc2 : w6.cell? ⟨w.heap.size + 1, 2, none⟩ = some (.slice none 0 0) := (blk_cell HR6.out 2).trans rfl
  have rf2 := blk_frozen HR6.out 2
  have rc3 : w6.cell? ⟨w.heap.size + 1, 3, none⟩ = some (.int .u32 0) := (blk_cell HR6.out 3).trans rfl
  have rf3 := blk_frozen HR6.out 3
  have rl := blk_lt HR6.out
  clear hb6 HG5 HF5 HR5 HC5 hof
  have hff_ := field66_1
  go_wp2_with fail
  exact bodyPost_ret (v := .tuple #[.agg #[.int .u8 5, .bool false, .slice none 0 0, .int .u32 code], .bool true]) (by simp [results, Tryd.results14, go_sem, rc0, rc1, rc2, rc3]) rfl ⟨rfl, _, _, HG6.out.off4 HR6.out hle _ _ _ _, HF6.out.off4 (Nat.le_succ _) _ _ _ _⟩
end Go.Proofs.YtbjjobifpmjhhaaDoor

/- message.Cut: a message's frames. -/
namespace Go.Proofs.YtbjjobifpmjhhaaDoor
open Go.RowKit Go.Proofs.YtbjjobifpmjhhaaDoorW.PrintWords Go.Proofs.YtbjjobifpmjhhaaDoorW.PrintLast Go.Proofs.YtbjjobifpmjhhaaDoorW.PrintMore Go.Proofs.YtbjjobifpmjhhaaDoor.PAll
set_option linter.unusedVariables false
set_option linter.unusedSimpArgs false
attribute [local go_sem] max2_int min2_int max_two min_two
abbrev Pm := PAll.S26
/-- A message's frames: none has more than so many bytes. -/
inductive CutP (most : Nat) : Int → List Int → List Pm → Prop
  | last {op : Int} {b : List Int} : b.length ≤ most → CutP most op b [⟨true, op, false, 0, b⟩]
  | more {op : Int} {b : List Int} {ps : List Pm} : most < b.length → CutP most 0 (b.drop most) ps → CutP most op b (⟨false, op, false, 0, b.take most⟩ :: ps)
def mostC (m : Int) : Nat := if m < 1 then 1 else if 4096 < m then 4096 else m.toNat
theorem mostC_pos (m : Int) : 1 ≤ mostC m ∧ mostC m ≤ 4096 := by
  unfold mostC
  split
  · omega
  · split <;> omega
def CutPost (most : Nat) (op : Int) (b : List Int) (w : World) (e : Ending) (w' : World) : Prop := ∃ v ps, e = .returned v ∧ CutP most op b ps ∧ ps.length ≤ b.length + 1 ∧ Kd.R k26 26 w' w.heap.size (fun _ => True) v ps ∧ Below w.heap.size w w'
/-- In the loop: so many rounds are to come, at most. -/
def CutR (w : World) (most : Nat) (op0 : Int) (b : List Int) (mu : Nat) (bv ov rv : Value) (wr : World) : Prop :=
  ∃ (l : List Int) (done : List Pm) (A : Option Addr) (c : Nat) (op : Int), bv = .slice A l.length c ∧ ov = .int .u8 op ∧ l.length ≤ c ∧ Kd.C (Kd.int .u8) w A l.length l ∧ (∀ ps, CutP most op l ps → CutP most op0 b (done ++ ps)) ∧ Kd.R k26 26 wr w.heap.size (fun _ => True) rv done ∧ done.length + l.length ≤ b.length ∧ Below w.heap.size w wr ∧ mu = l.length
set_option maxHeartbeats 8000000 in
set_option maxRecDepth 100000 in
theorem cut_any (text : Bool) (A0 : Option Addr) (c0 : Nat) (b : List Int) (m : Int) (w : World) (hC : Kd.C (Kd.int .u8) w A0 b.length b) (hc : b.length ≤ c0) (hn : b.length ≤ 100000000) : Calls Tryd.prog 21 #[.bool text, .slice A0 b.length c0, .int .i64 m] w (CutPost (mostC m) (if text = true then 1 else 2) b w) := by
  have hu26 := Tryd.underlying26
  have hinfo : (Tryd.prog.info? 26).map (fun i => (i.zero, i.size, i.bytes)) = some (some (.agg #[.bool false, .int .u8 0, .bool false, .int .u32 0, .slice none 0 0]), 5, 32) := by kernel_rfl
  have HI := Aside0.mk hinfo
  have HC := Aside0.mk hC
  have HN := Aside0.mk hn
  clear hinfo hC hn
  obtain ⟨M, hM⟩ : ∃ M, M = mostC m := ⟨_, rfl⟩
  have hMp := mostC_pos m
  rw [← hM] at hMp ⊢
  obtain ⟨op0, hop0⟩ : ∃ op0 : Int, op0 = if text = true then 1 else 2 := ⟨_, rfl⟩
  have HOP := Aside0.mk hop0
  rw [← hop0]
  clear hop0
  go_enter Tryd.func21, Tryd.ntmps21
  go_upto_region 1 with fail
  go_cut [2] (fun v wc => v = .int .i64 (M : Int) ∧ wc = w)
  case first =>
    unfold mostC at hM
    by_cases h1 : m < 1
    · rw [if_pos h1] at hM
      have h2 : ¬ (m > 1) := by omega
      subst hM
      go_wp2_with fail
      go_meet
      case rel => exact ⟨rfl, rfl⟩
    · rw [if_neg h1] at hM
      by_cases h2 : 4096 < m
      · rw [if_pos h2] at hM
        subst hM
        have h3 : m > 1 := by omega
        go_wp2_with fail
        go_meet
        case rel => exact ⟨rfl, rfl⟩
      · rw [if_neg h2] at hM
        have hm : m = (M : Int) := by omega
        clear h1 h2
        subst hm
        by_cases h3 : M = 1
        · subst h3
          clear hM
          go_wp2_with fail
          go_meet
          case rel => exact ⟨rfl, rfl⟩
        · have h4 : 1 < M := by omega
          have h5 : ¬ (4096 < M) := by omega
          clear hM h3
          go_wp2_with fail
          go_meet
          case rel => exact ⟨rfl, rfl⟩
  case rest =>
    obtain ⟨rfl, rfl⟩ := hcut
    clear hM
    go_upto_if 13 with fail
    go_cut [7] (fun v wc2 => v = .int .u8 op0 ∧ wc2 = wc)
    case first =>
      cases text with
      | true =>
        go_wp2_with fail
        go_meet
        case rel => exact ⟨by rw [HOP.out]; rfl, rfl⟩
      | false =>
        go_wp2_with fail
        go_meet
        case rel => exact ⟨by rw [HOP.out]; rfl, rfl⟩
    case rest =>
      obtain ⟨rfl, rfl⟩ := hcut
      clear HOP
      go_wp2_with fail
      go_loopg [1, 7, 8] b.length (fun mu bv ov rv wr => CutR wc M op0 b mu bv ov rv wr)
      case atStart => exact ⟨b, [], A0, c0, op0, rfl, rfl, hc, HC.out, fun _ h => h, Kd.R_nil _ _ _ _ _, by simp, Below.refl _ _, rfl⟩
      case round =>
        obtain ⟨l, done, A, c, op, rfl, rfl, hlc, hCl, hst, hR, hlen, hB, hmu⟩ := hrel
        have HCl := Aside0.mk hCl
        have HST := Aside0.mk hst
        have HR := Aside0.mk hR
        have HB := Aside0.mk hB
        clear hCl hst hR hB
        by_cases hle : l.length ≤ M
        · have hlt : ¬ M < l.length := by omega
          go_wp2_with fail
          refine (bytes_Clone.calls A c l l _ (Kd.C_below HCl.out HB.out) hlc (by unfold bytes_Clone.f; rw [if_pos (by have := HN.out; omega)])).mono ?_
          rintro e w2 ⟨v0, rfl, ho, hb⟩
          obtain ⟨Av, cv, rfl⟩ := Kd.R_slice ho
          have hul : ∀ k, u8.ownBlock = some k → k < wr.heap.size := fun k e => Kd.R_lt HR.out k e
          have ho2 : Kd.R (Kd.int .u8) 5 w2 wc.heap.size (fun k => some k ≠ u8.ownBlock) (.slice Av (l).length cv) (l) := Kd.R_mono (Kd.R_lower (Kd.R_bound ho) HB.out.size) (fun k hk e => by have := hul k e.symm; have := hk.2.1; omega)
          have HO2 := Aside0.mk ho2
          have HR2 := Aside0.mk (Kd.R_below HR.out hb)
          have HB2 := Aside0.mk (below_step HB.out hb)
          have HGL := Aside0.mk (show (done.length + 1) * 32 ≤ 140737488355328 by have := HN.out; omega)
          clear ho ho2 hb hul HR HB
          go_wp2_with (at_builtin; refine Kd.R_append k26 (w0 := wc) wc.heap.size rfl (.tmp 18) (.tmp 29) 37 26 (.agg #[.bool false, .int .u8 0, .bool false, .int .u32 0, .slice none 0 0]) 32 rfl Tryd.underlying37 HI.out rfl (by decide) (by decide) u8 done (⟨true, op, false, 0, l⟩ : Pm) [.bool true, .int .u8 op, .bool false, .int .u32 0, .slice Av (l).length cv] (fun _ => True) (fun k => some k ≠ u8.ownBlock) rfl rfl ?aP (fun _ h => ⟨trivial, h⟩) (fun _ _ => trivial) HR2.out HB2.out HB2.out.size HGL.out ?_; (case aP => exact k26_mkM _ _ _ (⟨true, op, false, 0, l⟩ : Pm) HO2.out); intro v1 w3 hR1 hB1 hg1 hat1; have HR3 := Aside0.mk hR1; have HB3 := Aside0.mk hB1; clear hR1 hB1 hg1 hat1)
          go_ret
          exact ⟨_, _, rfl, HST.out _ (.last hle), by simp; omega, HR3.out, HB3.out⟩
        · have hlt : M < l.length := by omega
          have hne : ((M : Int) == (l.length : Int)) = false := beq_eq_false_iff_ne.mpr (by omega)
          have p0 : (0 : Int) ≤ (M : Int) := by omega
          have p1 : (M : Int) ≤ (l.length : Int) := by omega
          have p2 : (M : Int) ≤ (c : Int) := by omega
          have hne2 : ¬ (M = l.length) := by omega
          have htk : (l.take M).length = M := by rw [List.length_take]; omega
          obtain ⟨A3, c3, hcut3, hC3, hc3⟩ := cut_left A c M l (by omega) hlc
          have HC3 := Aside0.mk (hC3 _ HCl.out)
          obtain ⟨lt, hlt2⟩ : ∃ lt, lt = l.take M := ⟨_, rfl⟩
          obtain ⟨ld, hld⟩ : ∃ ld, ld = l.drop M := ⟨_, rfl⟩
          have HLD := Aside0.mk (show ld.length + M = l.length by rw [hld, List.length_drop]; omega)
          have hCt : Kd.C (Kd.int .u8) wr A M lt := by
            have h := Kd.C_take (m := M) (Kd.C_below HCl.out HB.out) (by omega)
            rw [htk, ← hlt2] at h
            exact h
          have HCt := Aside0.mk hCt
          rw [← hlt2] at htk
          rw [← hld] at hcut3 hc3 HC3
          have HTK := Aside0.mk htk
          have HST2 : Aside0 (∀ ps, CutP M 0 ld ps → CutP M op0 b ((done ++ [⟨false, op, false, 0, lt⟩]) ++ ps)) := ⟨fun ps h => by
            rw [List.append_assoc]
            refine HST.out _ ?_
            rw [hlt2]
            exact .more hlt (hld ▸ h)⟩
          clear hC3 hCt hlt2 hld htk HST HCl
          go_wp2_with fail
          refine (calls_of_args (by rw [HTK.out]) (bytes_Clone.calls A c lt lt _ (HTK.out ▸ HCt.out) (by rw [HTK.out]; omega) (by unfold bytes_Clone.f; rw [if_pos (by have := HN.out; have := HTK.out; omega)]))).mono ?_
          rintro e w2 ⟨v0, rfl, ho, hb⟩
          obtain ⟨Av, cv, rfl⟩ := Kd.R_slice ho
          have hul : ∀ k, u8.ownBlock = some k → k < wr.heap.size := fun k e => Kd.R_lt HR.out k e
          have ho2 : Kd.R (Kd.int .u8) 5 w2 wc.heap.size (fun k => some k ≠ u8.ownBlock) (.slice Av (lt).length cv) (lt) := Kd.R_mono (Kd.R_lower (Kd.R_bound ho) HB.out.size) (fun k hk e => by have := hul k e.symm; have := hk.2.1; omega)
          have HO2 := Aside0.mk ho2
          have HR2 := Aside0.mk (Kd.R_below HR.out hb)
          have HB2 := Aside0.mk (below_step HB.out hb)
          have HGL := Aside0.mk (show (done.length + 1) * 32 ≤ 140737488355328 by have := HN.out; omega)
          clear ho ho2 hb hul HR HB
          go_wp2_with (at_builtin; refine Kd.R_append k26 (w0 := wc) wc.heap.size rfl (.tmp 18) (.tmp 29) 37 26 (.agg #[.bool false, .int .u8 0, .bool false, .int .u32 0, .slice none 0 0]) 32 rfl Tryd.underlying37 HI.out rfl (by decide) (by decide) u8 done (⟨false, op, false, 0, lt⟩ : Pm) [.bool false, .int .u8 op, .bool false, .int .u32 0, .slice Av (lt).length cv] (fun _ => True) (fun k => some k ≠ u8.ownBlock) rfl rfl ?aP (fun _ h => ⟨trivial, h⟩) (fun _ _ => trivial) HR2.out HB2.out HB2.out.size HGL.out ?_; (case aP => exact k26_mkM _ _ _ (⟨false, op, false, 0, lt⟩ : Pm) HO2.out); intro v1 w3 hR1 hB1 hg1 hat1; have HR3 := Aside0.mk hR1; have HB3 := Aside0.mk hB1; clear hR1 hB1 hg1 hat1)
          go_roundg ld.length
          case measure => have := HLD.out; omega
          case rel => exact ⟨ld, done ++ [⟨false, op, false, 0, lt⟩], A3, c3, 0, rfl, rfl, hc3, HC3.out, HST2.out, HR3.out, by have := HLD.out; simp; omega, HB3.out, rfl⟩
end Go.Proofs.YtbjjobifpmjhhaaDoor

/- Take of an over gatherer; rows beside a gatherer. -/
namespace Go.Proofs.YtbjjobifpmjhhaaDoor
open Go.RowKit Go.Proofs.YtbjjobifpmjhhaaDoorW.PrintWords Go.Proofs.YtbjjobifpmjhhaaDoorW.PrintLast Go.Proofs.YtbjjobifpmjhhaaDoorW.PrintMore Go.Proofs.YtbjjobifpmjhhaaDoor.PAll Go.Proofs.YtbjjobifpmjhhaaDoor.U
set_option linter.unusedVariables false
set_option linter.unusedSimpArgs false
set_option maxHeartbeats 4000000 in
set_option maxRecDepth 100000 in
theorem Take_over {w0 w : World} {g : Nat} {v u : Value} {b : List Int} {busy text : Bool} {fin : Bool} {op : Int} {mk : Bool} {key : Int} {A : Option Addr} {c : Nat} {n : Nat} (h : Gw w0 w g v u b busy text true) : Calls Tryd.prog 14 #[.pointer (some ⟨g, 0, none⟩), .agg #[.bool fin, .int .u8 op, .bool mk, .int .u32 key, .slice A n c]] w fun e w' => e = .returned (.tuple #[.agg #[.int .u8 0, .bool false, .slice none 0 0, .int .u32 0], .bool false]) ∧ Below w.heap.size w w' := by
  have hu30 := Tryd.underlying30
  have hu26 := Tryd.underlying26
  have HG := Aside0.mk h
  clear h
  go_enter Tryd.func14, Tryd.ntmps14
  go_wp2_with fail
  refine (over_any g v u busy text true _ (HG.out.below (below_alloc (below_alloc (Below.refl _ _) _) _)).blk).mono ?_
  rintro e w1 ⟨rfl, hw1⟩
  subst hw1
  have hle : w.heap.size ≤ w.heap.size + 1 := by omega
  go_wp2_with fail
  exact bodyPost_ret (v := .tuple #[.agg #[.int .u8 0, .bool false, .slice none 0 0, .int .u32 0], .bool false]) (by simp [results, Tryd.results14, go_sem]) rfl ⟨rfl, by repeat (first | exact Below.refl _ _ | apply below_alloc | refine Below.setCell ?_ hle _)⟩
/-- A row apart from the gatherer stays as it is. -/
theorem Fr.rows {α : Type} {d : Kd α} {e : Nat} {w0 w W : World} {g base : Nat} {v v' u pv : Value} {b : List Int} {busy text over : Bool} {ps : List α} (hg : Gw w0 w g v u b busy text over) (hf : Fr w W g v u) (hn : NewOr w v v') (he : ∀ q, q ∈ e :: d.E → q ≠ 60 ∧ q ≠ 107) (h : d.R e w base (fun q => some q ≠ v.ownBlock) pv ps) : d.R e W base (fun q => some q ≠ v'.ownBlock) pv ps := by
  have h1 := Kd.R_bound (Kd.R_types h hg.blk (fun q hq => (he q hq).1))
  have h2 := Kd.R_step h1 (w1 := W) (fun k hk hlt => hf.same k hlt hk.1.2 hk.1.1 (fun eu => by
    obtain ⟨_, _, _, q, hq, cs, hc⟩ := hk
    obtain ⟨cu, hcu⟩ := hg.uty k eu
    rw [hcu] at hc
    injection hc with hc
    injection hc with _ hc _
    exact (he q hq).2 hc.symm))
  refine Kd.R_mono h2 (fun k hk ek => ?_)
  rcases hn with e1 | e1 | ⟨j, e1, hj⟩
  · exact hk.1.1 (ek.trans e1)
  · rw [e1] at ek; cases ek
  · rw [e1] at ek
    injection ek with ek
    have := hk.2.2.1
    omega
theorem pm_types {q : Nat} (hq : q ∈ 26 :: (k26).E) : q ≠ 60 ∧ q ≠ 107 := by
  simp [k26, Kd.iso, Kd.pair, Kd.int, Kd.bool, Kd.scalar, Kd.slice] at hq
  omega
/-- A new row of the law's own, in whose blocks the gatherer's row is not. -/
theorem rows_new {α : Type} {d : Kd α} {e : Nat} {w w1 : World} {pv v : Value} {ps : List α} (h : d.R e w1 w.heap.size (fun _ => True) pv ps) (hv : ∀ k, v.ownBlock = some k → k < w.heap.size) : d.R e w1 w.heap.size (fun q => some q ≠ v.ownBlock) pv ps :=
  Kd.R_mono (Kd.R_bound h) (fun k hk ek => by
    have := hv k ek.symm
    have := hk.2.1
    omega)
/-- The frame at a place of a row. -/
theorem row_at {w : World} {base : Nat} {ok : Nat → Prop} {A : Option Addr} {n c : Nat} {ps : List Pm} (h : Kd.R k26 26 w base ok (.slice A n c) ps) (i : Nat) (hi : i < ps.length) :
    ∃ g A4 c4, A = some ⟨g, 0, none⟩ ∧ w.cell? ⟨g, i * 5, none⟩ = some (.bool ps[i].f0) ∧ w.cell? ⟨g, i * 5 + 1, none⟩ = some (.int .u8 ps[i].f1) ∧ w.cell? ⟨g, i * 5 + 2, none⟩ = some (.bool ps[i].f2) ∧ w.cell? ⟨g, i * 5 + 3, none⟩ = some (.int .u32 ps[i].f3) ∧ w.cell? ⟨g, i * 5 + 4, none⟩ = some (.slice A4 ps[i].f4.length c4) ∧
      Kd.R (Kd.int .u8) 5 w base ok (.slice A4 ps[i].f4.length c4) ps[i].f4 := by
  obtain ⟨g, cap, e, hb, hl, cells, hc⟩ := Kd.R_form h (by omega)
  injection e with e1 e2 e3
  subst e1; subst e2; subst e3
  obtain ⟨cs, hlen, hM, hcell, _⟩ := Kd.R_elem h z26 (i : Int) (by omega) (by omega)
  rw [Int.toNat_natCast] at hM hcell
  rw [List.getD_eq_getElem?_getD, List.getElem?_eq_getElem hi, Option.getD_some] at hM
  obtain ⟨v4, rfl, hR⟩ := k26_openM hM
  obtain ⟨A4, c4, rfl⟩ := Kd.R_slice hR
  exact ⟨g, A4, c4, rfl, hcell 0 _ rfl, hcell 1 _ rfl, hcell 2 _ rfl, hcell 3 _ rfl, hcell 4 _ rfl, Kd.R_mono hR (fun k hk => hk.1)⟩
theorem TakeMore {w0 w : World} {g : Nat} {v u : Value} {b : List Int} {busy text : Bool} {gu : Nat} {f : List Int} {fin : Bool} {op : Int} {mk : Bool} {key : Int} {A : Option Addr} {c : Nat} {d : List Int} (h : Gs w0 w g v u b busy text false gu f) (hff : (busy = true → f = if text = true then b else []) ∧ (busy = false → b = [])) (hd : Dat w (.slice A d.length c) d) (hdn : ∀ k, (Value.slice A d.length c).ownBlock = some k → v.ownBlock ≠ some k) (hbl : b.length ≤ 4096) (hdl : d.length ≤ 1000000000) (hop : op = 0 ∨ op = 1 ∨ op = 2) (hc : partC busy text fin op b d = 0) (hfin : fin = false) : Calls Tryd.prog 14 #[.pointer (some ⟨g, 0, none⟩), .agg #[.bool fin, .int .u8 op, .bool mk, .int .u32 key, .slice A d.length c]] w (TMore w0 g v u (b ++ d) (textN busy text op) w) := by
  refine Take_more h hd (fun W hb hG hD => ?_)
  rcases hop with rfl | rfl | rfl
  · exact take_more_0 hG hff hD hdn hbl hdl hc hfin
  · exact take_more_1 hG hff hD hdn hbl hdl hc hfin
  · exact take_more_2 hG hff hD hdn hbl hdl hc hfin
theorem TakeTold {w0 w : World} {g : Nat} {v u : Value} {b : List Int} {busy text : Bool} {gu : Nat} {f : List Int} {fin : Bool} {op : Int} {mk : Bool} {key : Int} {A : Option Addr} {c : Nat} {d : List Int} (h : Gs w0 w g v u b busy text false gu f) (hff : (busy = true → f = if text = true then b else []) ∧ (busy = false → b = [])) (hd : Dat w (.slice A d.length c) d) (hdn : ∀ k, (Value.slice A d.length c).ownBlock = some k → v.ownBlock ≠ some k) (hbl : b.length ≤ 4096) (hdl : d.length ≤ 1000000000) (hop : op = 0 ∨ op = 1 ∨ op = 2) (hc : partC busy text fin op b d = 0) (hfin : fin = true) : Calls Tryd.prog 14 #[.pointer (some ⟨g, 0, none⟩), .agg #[.bool fin, .int .u8 op, .bool mk, .int .u32 key, .slice A d.length c]] w (TTold w0 g v u (b ++ d) (textN busy text op) w) := by
  refine Take_told h hd (fun W hb hG hD => ?_)
  rcases hop with rfl | rfl | rfl
  · exact take_told_0 hG hff hD hdn hbl hdl hc hfin
  · exact take_told_1 hG hff hD hdn hbl hdl hc hfin
  · exact take_told_2 hG hff hD hdn hbl hdl hc hfin
theorem TakeBadPart {w0 w : World} {g : Nat} {v u : Value} {b : List Int} {busy text : Bool} {gu : Nat} {f : List Int} {fin : Bool} {op : Int} {mk : Bool} {key : Int} {A : Option Addr} {c : Nat} {d : List Int} (h : Gs w0 w g v u b busy text false gu f) (hff : (busy = true → f = if text = true then b else []) ∧ (busy = false → b = [])) (hd : Dat w (.slice A d.length c) d) (hdn : ∀ k, (Value.slice A d.length c).ownBlock = some k → v.ownBlock ≠ some k) (hbl : b.length ≤ 4096) (hdl : d.length ≤ 1000000000) (hop : op = 0 ∨ op = 1 ∨ op = 2) (hg : Cond w0) (hc : partC busy text fin op b d ≠ 0) : Calls Tryd.prog 14 #[.pointer (some ⟨g, 0, none⟩), .agg #[.bool fin, .int .u8 op, .bool mk, .int .u32 key, .slice A d.length c]] w (TBad w0 g v u (partC busy text fin op b d) w) := by
  refine Take_bad h hd hg (fun W hb hG hD => ?_)
  rcases hop with rfl | rfl | rfl
  · exact take_bad_0 hG hff hD hdn hbl hdl hc
  · exact take_bad_1 hG hff hD hdn hbl hdl hc
  · exact take_bad_2 hG hff hD hdn hbl hdl hc
theorem CutP.head {M : Nat} {op : Int} {l : List Int} {p : Pm} {rem : List Pm} (h : CutP M op l (p :: rem)) : ∃ l', p = ⟨p.f0, op, false, 0, p.f4⟩ ∧ l = p.f4 ++ l' ∧ p.f4.length ≤ M ∧ ((p.f0 = true ∧ rem = [] ∧ l' = []) ∨ (p.f0 = false ∧ CutP M 0 l' rem ∧ p.f4.length = M ∧ l'.length ≠ 0)) := by
  cases h with
  | last h => exact ⟨[], rfl, (List.append_nil _).symm, h, .inl ⟨rfl, rfl, rfl⟩⟩
  | more h h2 =>
    have h3 : (l.take M).length = M := by rw [List.length_take]; omega
    exact ⟨l.drop M, rfl, (List.take_append_drop M l).symm, Nat.le_of_eq h3, .inr ⟨rfl, h2, h3, by rw [List.length_drop]; omega⟩⟩
theorem CutP.ne {M : Nat} {op : Int} {l : List Int} {ps : List Pm} (h : CutP M op l ps) : ps ≠ [] := by cases h <;> simp
end Go.Proofs.YtbjjobifpmjhhaaDoor

namespace Go.Proofs.YtbjjobifpmjhhaaDoor
open Go.RowKit Go.Proofs.YtbjjobifpmjhhaaDoorW.PrintWords Go.Proofs.YtbjjobifpmjhhaaDoorW.PrintLast Go.Proofs.YtbjjobifpmjhhaaDoorW.PrintMore Go.Proofs.YtbjjobifpmjhhaaDoor.PAll
set_option linter.unusedVariables false
set_option maxHeartbeats 4000000 in
set_option maxRecDepth 100000 in
theorem take_bye (g : Nat) (v u : Value) (busy text : Bool) (A : Option Addr) (c : Nat) (w : World) (hG : IsG w g v busy text u false) (hC : Kd.C (Kd.int .u8) w A 5 [3, 232, 98, 121, 101]) (hc : 5 ≤ c) : Calls Tryd.prog 25 #[.pointer (some ⟨g, 0, none⟩), .agg #[.bool true, .int .u8 8, .bool false, .int .u32 0, .slice A 5 c]] w fun e w' => ∃ vn, e = .returned (.tuple #[.agg #[.int .u8 4, .bool false, vn, .int .u32 1000], .bool true, .nilIface]) ∧ Kd.R (Kd.int .u8) 5 w' w.heap.size (fun _ => True) vn [98, 121, 101] ∧ IsG w' g v busy text u true ∧ KeepBut w w' g none ∧ (∀ w0 : World, w0.heap.size ≤ g → Below w0.heap.size w0 w → Below w0.heap.size w0 w') := by
  have hu30 := Tryd.underlying30
  have hu26 := Tryd.underlying26
  have hgl : g < w.heap.size := blk_lt hG
  have HG := Aside0.mk hG
  have HC := Aside0.mk hC
  clear hG hC
  go_enter Tryd.func25, Tryd.ntmps25
  go_wp2_with fail
  refine (closes_bye A c _ (Kd.C_below HC.out (below_alloc (below_alloc (Below.refl _ _) _) _)) hc).mono ?_
  rintro e w1 ⟨vn, rfl, ho, hb⟩
  have hr : w1.heap[w.heap.size + 1]? = some (.cells #[.int .u8 0, .bool false, .slice none 0 0, .int .u32 0] 30 (0, 0)) := blk_below (last_at _ _ _ (by simp)) hb
  have hB := below_step (below_alloc (below_alloc (Below.refl w.heap.size w) _) _) hb
  have hG1 : IsG w1 g v busy text u false := blk_below HG.out hB
  have gc4 : w1.cell? ⟨g, 4, none⟩ = some (.bool false) := (blk_cell hG1 4).trans rfl
  have gf4 := blk_frozen hG1 4
  have gl := blk_lt hG1
  obtain ⟨Av, cv, rfl⟩ := Kd.R_slice ho
  have ho2 := Kd.R_types (Kd.R_types (Kd.R_lower ho (show w.heap.size ≤ _ by simp; omega)) hG1 (by intro q hq; simp [Kd.int, Kd.scalar] at hq; omega)) hr (by intro q hq; simp [Kd.int, Kd.scalar] at hq; omega)
  have HO := Aside0.mk ho2
  have HB := Aside0.mk hB
  have HR := Aside0.mk hr
  have HG1 := Aside0.mk hG1
  have hl1 : w.heap.size + 1 < w1.heap.size := blk_lt hr
  clear ho ho2 hb hB hG1 hr
  go_wp2_with fail
  clear gc4 gf4 gl
  have hbox : (((w1.setCell ⟨g, 4, none⟩ (.bool true)).alloc (.cells #[.int .u8 4, .bool false, .slice Av 3 cv, .int .u32 1000] 30))).heap[w1.heap.size]? = some (.cells #[.int .u8 4, .bool false, .slice Av 3 cv, .int .u32 1000] 30 (0, 0)) := last_at _ _ _ (by simp)
  have hres : (((w1.setCell ⟨g, 4, none⟩ (.bool true)).alloc (.cells #[.int .u8 4, .bool false, .slice Av 3 cv, .int .u32 1000] 30))).heap[w.heap.size + 1]? = some (.cells #[.int .u8 0, .bool false, .slice none 0 0, .int .u32 0] 30 (0, 0)) := blk_alloc ((Below.heap_setCell _ _ _ _ (by show w.heap.size + 1 ≠ g; omega)).trans HR.out) _
  have hG2 : IsG (((w1.setCell ⟨g, 4, none⟩ (.bool true)).alloc (.cells #[.int .u8 4, .bool false, .slice Av 3 cv, .int .u32 1000] 30))) g v busy text u true := blk_alloc (blk_put HG1.out 4 (.bool true) rfl) _
  have hO2 : Kd.R (Kd.int .u8) 5 (((w1.setCell ⟨g, 4, none⟩ (.bool true)).alloc (.cells #[.int .u8 4, .bool false, .slice Av 3 cv, .int .u32 1000] 30))) w.heap.size _ (.slice Av [98, 121, 101].length cv) [98, 121, 101] := Kd.R_alloc (Kd.R_far HO.out (fun k hk => hk.1.2) _) _
  have hK2 : KeepBut w (((w1.setCell ⟨g, 4, none⟩ (.bool true)).alloc (.cells #[.int .u8 4, .bool false, .slice Av 3 cv, .int .u32 1000] 30))) g none := keep_alloc ((KeepBut.of_below HB.out g none).set_ 4 _) _
  have hW2 : ∀ w0 : World, w0.heap.size ≤ g → Below w0.heap.size w0 w → Below w0.heap.size w0 (((w1.setCell ⟨g, 4, none⟩ (.bool true)).alloc (.cells #[.int .u8 4, .bool false, .slice Av 3 cv, .int .u32 1000] 30))) := fun w0 h0 hw => below_alloc (Below.setCell (below_step hw HB.out) h0 _) _
  generalize ((w1.setCell ⟨g, 4, none⟩ (.bool true)).alloc (.cells #[.int .u8 4, .bool false, .slice Av 3 cv, .int .u32 1000] 30)) = W2 at hbox hres hG2 hO2 hK2 hW2 ⊢
  have HG2 := Aside0.mk hG2
  have HO2 := Aside0.mk hO2
  have HK2 := Aside0.mk hK2
  have HW2 := Aside0.mk hW2
  clear hG2 hO2 hK2 hW2 HO HB HR HG1 HG
  have bc0 : W2.cell? ⟨w1.heap.size, 0, none⟩ = some (.int .u8 4) := (blk_cell hbox 0).trans rfl
  have bc1 : W2.cell? ⟨w1.heap.size, 1, none⟩ = some (.bool false) := (blk_cell hbox 1).trans rfl
  have bc2 : W2.cell? ⟨w1.heap.size, 2, none⟩ = some (.slice Av 3 cv) := (blk_cell hbox 2).trans rfl
  have bc3 : W2.cell? ⟨w1.heap.size, 3, none⟩ = some (.int .u32 1000) := (blk_cell hbox 3).trans rfl
  have rc0 : W2.cell? ⟨w.heap.size + 1, 0, none⟩ = some (.int .u8 0) := (blk_cell hres 0).trans rfl
  have rc1 : W2.cell? ⟨w.heap.size + 1, 1, none⟩ = some (.bool false) := (blk_cell hres 1).trans rfl
  have rc2 : W2.cell? ⟨w.heap.size + 1, 2, none⟩ = some (.slice none 0 0) := (blk_cell hres 2).trans rfl
  have rc3 : W2.cell? ⟨w.heap.size + 1, 3, none⟩ = some (.int .u32 0) := (blk_cell hres 3).trans rfl
  have rf0 := blk_frozen hres 0
  have rf1 := blk_frozen hres 1
  have rf2 := blk_frozen hres 2
  have rf3 := blk_frozen hres 3
  have rl := blk_lt hres
  have bl := blk_lt hbox
  go_region_with (go_at_call 34; with_reducible refine (wrap_nil _ _).mono ?_; rintro e w' ⟨rfl, rfl⟩)
  all_goals (simp only [Act.put, List.getElem_toArray, List.getElem_cons_zero, List.getElem_cons_succ, List.setIfInBounds_toArray, List.set_cons_zero, List.set_cons_succ]; go_wp2_with fail)
  all_goals
    have hne : g ≠ w.heap.size + 1 := by omega
    have hle : w.heap.size ≤ w.heap.size + 1 := by omega
    have hR := Kd.R_drew (Kd.R_far (Kd.R_far (Kd.R_far (Kd.R_far HO2.out (p := ⟨w.heap.size + 1, 0, none⟩) (fun k hk => hk.2) (.int .u8 4)) (p := ⟨w.heap.size + 1, 1, none⟩) (fun k hk => hk.2) (.bool false)) (p := ⟨w.heap.size + 1, 2, none⟩) (fun k hk => hk.2) (.slice Av 3 cv)) (p := ⟨w.heap.size + 1, 3, none⟩) (fun k hk => hk.2) (.int .u32 1000))
    have hR2 := Kd.R_mono hR (ok' := fun _ => True) (fun _ _ => trivial)
    have hG3 := IsG.far (IsG.far (IsG.far (IsG.far HG2.out (p := ⟨w.heap.size + 1, 0, none⟩) (x := .int .u8 4) hne) (p := ⟨w.heap.size + 1, 1, none⟩) (x := .bool false) hne) (p := ⟨w.heap.size + 1, 2, none⟩) (x := .slice Av 3 cv) hne) (p := ⟨w.heap.size + 1, 3, none⟩) (x := .int .u32 1000) hne
    have hK3 := keep_drew (keep_far (keep_far (keep_far (keep_far HK2.out (p := ⟨w.heap.size + 1, 0, none⟩) hle (.int .u8 4)) (p := ⟨w.heap.size + 1, 1, none⟩) hle (.bool false)) (p := ⟨w.heap.size + 1, 2, none⟩) hle (.slice Av 3 cv)) (p := ⟨w.heap.size + 1, 3, none⟩) hle (.int .u32 1000))
    refine bodyPost_ret (v := .tuple #[.agg #[.int .u8 4, .bool false, .slice Av [98, 121, 101].length cv, .int .u32 1000], .bool true, .nilIface]) (by simp [results, Tryd.results25, go_sem, rc0, rc1, rc2, rc3]) rfl ⟨_, rfl, hR2, hG3, hK3, fun w0 h0 hw => ?_⟩
    have hl0 : w0.heap.size ≤ w.heap.size + 1 := by have := hw.size; omega
    exact below_drew (Below.setCell (Below.setCell (Below.setCell (Below.setCell (HW2.out w0 h0 hw) hl0 _) hl0 _) hl0 _) hl0 _)
end Go.Proofs.YtbjjobifpmjhhaaDoor

namespace Go.Proofs.YtbjjobifpmjhhaaDoor
open Go.RowKit Go.Proofs.YtbjjobifpmjhhaaDoorW.PrintWords Go.Proofs.YtbjjobifpmjhhaaDoorW.PrintLast Go.Proofs.YtbjjobifpmjhhaaDoorW.PrintMore Go.Proofs.YtbjjobifpmjhhaaDoor.PAll
set_option linter.unusedVariables false
set_option maxHeartbeats 4000000 in
set_option maxRecDepth 100000 in
theorem Take_bye (g : Nat) (v u : Value) (busy text : Bool) (A : Option Addr) (c : Nat) (w : World) (hv : v.oneCell' = true) (hG : IsG w g v busy text u false) (hC : Kd.C (Kd.int .u8) w A 5 [3, 232, 98, 121, 101]) (hc : 5 ≤ c) : Calls Tryd.prog 14 #[.pointer (some ⟨g, 0, none⟩), .agg #[.bool true, .int .u8 8, .bool false, .int .u32 0, .slice A 5 c]] w fun e w' => ∃ vn, e = .returned (.tuple #[.agg #[.int .u8 4, .bool false, vn, .int .u32 1000], .bool true]) ∧ Kd.R (Kd.int .u8) 5 w' w.heap.size (fun _ => True) vn [98, 121, 101] ∧ IsG w' g (.slice none 0 0) busy text u true ∧ (∀ w0 : World, w0.heap.size ≤ g → Below w0.heap.size w0 w → Below w0.heap.size w0 w') := by
  have hu30 := Tryd.underlying30
  have hu26 := Tryd.underlying26
  have hgl : g < w.heap.size := blk_lt hG
  have HG := Aside0.mk hG
  have HC := Aside0.mk hC
  clear hG hC
  go_enter Tryd.func14, Tryd.ntmps14
  go_wp2_with fail
  refine (over_any g v u busy text false _ (show IsG _ g v busy text u false from blk_alloc (blk_alloc HG.out _) _)).mono ?_
  rintro e w1 ⟨rfl, hw1⟩
  have hres : w1.heap[w.heap.size + 1]? = some (.cells #[.int .u8 0, .bool false, .slice none 0 0, .int .u32 0] 30 (0, 0)) := by rw [hw1]; exact last_at _ _ _ (by simp)
  have hbox : w1.heap[w.heap.size]? = some (.cells #[.bool true, .int .u8 8, .bool false, .int .u32 0, .slice A 5 c] 26 (0, 0)) := by rw [hw1]; exact blk_alloc (last_at _ _ _ rfl) _
  have hB1 : Below w.heap.size w w1 := by rw [hw1]; exact below_alloc (below_alloc (Below.refl _ _) _) _
  have hG1 : IsG w1 g v busy text u false := by rw [hw1]; exact blk_alloc (blk_alloc HG.out _) _
  clear hw1
  have bc0 : w1.cell? ⟨w.heap.size, 0, none⟩ = some (.bool true) := (blk_cell hbox 0).trans rfl
  have bf0 := blk_frozen hbox 0
  have bc1 : w1.cell? ⟨w.heap.size, 1, none⟩ = some (.int .u8 8) := (blk_cell hbox 1).trans rfl
  have bf1 := blk_frozen hbox 1
  have bc2 : w1.cell? ⟨w.heap.size, 2, none⟩ = some (.bool false) := (blk_cell hbox 2).trans rfl
  have bf2 := blk_frozen hbox 2
  have bc3 : w1.cell? ⟨w.heap.size, 3, none⟩ = some (.int .u32 0) := (blk_cell hbox 3).trans rfl
  have bf3 := blk_frozen hbox 3
  have bc4 : w1.cell? ⟨w.heap.size, 4, none⟩ = some (.slice A 5 c) := (blk_cell hbox 4).trans rfl
  have bf4 := blk_frozen hbox 4
  have bl : w.heap.size < w1.heap.size := blk_lt hbox
  have HB1 := Aside0.mk hB1
  have HR1 := Aside0.mk hres
  have HG1 := Aside0.mk hG1
  have hl1 : w.heap.size + 1 < w1.heap.size := blk_lt hres
  clear hB1 hres hG1 hbox
  go_wp2_with fail
  refine (take_bye g v u busy text A c _ HG1.out (Kd.C_below HC.out HB1.out) hc).mono ?_
  rintro e w2 ⟨vn, rfl, ho, hG2, hk, hB0⟩
  have hr2 : w2.heap[w.heap.size + 1]? = some (.cells #[.int .u8 0, .bool false, .slice none 0 0, .int .u32 0] 30 (0, 0)) := hk.blk HR1.out (by omega) (by simp)
  have hl2 : w1.heap.size ≤ w2.heap.size := hk.1
  have ho2 := Kd.R_types (Kd.R_types (Kd.R_lower ho HB1.out.size) hG2 (by intro q hq; simp [Kd.int, Kd.scalar] at hq; omega)) hr2 (by intro q hq; simp [Kd.int, Kd.scalar] at hq; omega)
  obtain ⟨Av, cv, rfl⟩ := Kd.R_slice ho2
  have HO := Aside0.mk ho2
  have HG2 := Aside0.mk hG2
  have HR2 := Aside0.mk hr2
  have HB0 := Aside0.mk (fun (w0 : World) (h0 : w0.heap.size ≤ g) (hw : Below w0.heap.size w0 w) => hB0 w0 h0 (below_step hw HB1.out))
  have gc0 : w2.cell? ⟨g, 0, none⟩ = some v := (blk_cell hG2 0).trans rfl
  have gf0 := blk_frozen hG2 0
  have gc4 : w2.cell? ⟨g, 4, none⟩ = some (.bool true) := (blk_cell hG2 4).trans rfl
  have gl := blk_lt hG2
  have rc0 : w2.cell? ⟨w.heap.size + 1, 0, none⟩ = some (.int .u8 0) := (blk_cell hr2 0).trans rfl
  have rf0 := blk_frozen hr2 0
  have rc1 : w2.cell? ⟨w.heap.size + 1, 1, none⟩ = some (.bool false) := (blk_cell hr2 1).trans rfl
  have rf1 := blk_frozen hr2 1
  have rc2 : w2.cell? ⟨w.heap.size + 1, 2, none⟩ = some (.slice none 0 0) := (blk_cell hr2 2).trans rfl
  have rf2 := blk_frozen hr2 2
  have rc3 : w2.cell? ⟨w.heap.size + 1, 3, none⟩ = some (.int .u32 0) := (blk_cell hr2 3).trans rfl
  have rf3 := blk_frozen hr2 3
  have rl : w.heap.size + 1 < w2.heap.size := blk_lt hr2
  clear ho ho2 hG2 hr2 hk hB0 bc0 bc1 bc2 bc3 bc4 bf0 bf1 bf2 bf3 bf4 bl
  go_wp2_with fail
  have hne : g ≠ w.heap.size + 1 := by omega
  have hR := Kd.R_alloc (Kd.R_far (Kd.R_far (Kd.R_far (Kd.R_far (Kd.R_far HO.out (p := ⟨g, 0, none⟩) (fun k hk => hk.1.2) (.slice none 0 0)) (p := ⟨w.heap.size + 1, 0, none⟩) (fun k hk => hk.2) (.int .u8 4)) (p := ⟨w.heap.size + 1, 1, none⟩) (fun k hk => hk.2) (.bool false)) (p := ⟨w.heap.size + 1, 2, none⟩) (fun k hk => hk.2) (.slice Av 3 cv)) (p := ⟨w.heap.size + 1, 3, none⟩) (fun k hk => hk.2) (.int .u32 1000)) (.cells #[.int .u8 4, .bool false, .slice Av 3 cv, .int .u32 1000] 30)
  have hR2 := Kd.R_mono hR (ok' := fun _ => True) (fun _ _ => trivial)
  have hGa : IsG (w2.setCell ⟨g, 0, none⟩ (.slice none 0 0)) g (.slice none 0 0) busy text u true := blk_put HG2.out 0 (.slice none 0 0) rfl
  have hG3 := IsG.far (IsG.far (IsG.far (IsG.far hGa (p := ⟨w.heap.size + 1, 0, none⟩) (x := .int .u8 4) hne) (p := ⟨w.heap.size + 1, 1, none⟩) (x := .bool false) hne) (p := ⟨w.heap.size + 1, 2, none⟩) (x := .slice Av 3 cv) hne) (p := ⟨w.heap.size + 1, 3, none⟩) (x := .int .u32 1000) hne
  refine bodyPost_ret (v := .tuple #[.agg #[.int .u8 4, .bool false, .slice Av [98, 121, 101].length cv, .int .u32 1000], .bool true]) (by simp [results, Tryd.results14, go_sem, rc0, rc1, rc2, rc3, rl]) rfl ⟨_, rfl, hR2, blk_alloc hG3 _, fun w0 h0 hw => ?_⟩
  have hl0 : w0.heap.size ≤ w.heap.size + 1 := by have := hw.size; omega
  exact below_alloc (Below.setCell (Below.setCell (Below.setCell (Below.setCell (Below.setCell (HB0.out w0 h0 hw) h0 _) hl0 _) hl0 _) hl0 _) hl0 _) _
end Go.Proofs.YtbjjobifpmjhhaaDoor

namespace Go.Proofs.YtbjjobifpmjhhaaDoor
open Go.RowKit Go.Proofs.YtbjjobifpmjhhaaDoorW.PrintWords Go.Proofs.YtbjjobifpmjhhaaDoorW.PrintLast Go.Proofs.YtbjjobifpmjhhaaDoorW.PrintMore Go.Proofs.YtbjjobifpmjhhaaDoor.PAll
set_option linter.unusedVariables false
theorem bye_same : (strOfNums [98, 121, 101]).toList = [98, 121, 101] := by
  have : ∀ b : ByteArray, b.data.toList = [98, 121, 101] → b.toList = [98, 121, 101] := fun b h => by
    rw [ByteArray.toList_eq, h]
  exact this _ (by decide +kernel)
set_option maxHeartbeats 4000000 in
set_option maxRecDepth 100000 in
theorem fixed_yes (w : World) : Calls Tryd.prog 9 #[] w fun e w' => e = .returned (.bool true) ∧ Below w.heap.size w w' := by
  go_enter Tryd.func9, Tryd.ntmps9
  go_wp2_with fail
  refine (gnew_any _).mono ?_
  rintro e w1 ⟨rfl, hG, hb⟩
  have HG := Aside0.mk hG
  have HB := Aside0.mk hb
  clear hG hb
  go_wp2_with fail
  refine (message_Close.calls 400 1000 (⟨#[98, 121, 101]⟩ : ByteArray) true 8 false 0 [3, 232, 98, 121, 101] _ (by kernel_rfl)).mono ?_
  rintro e w2 ⟨vc, rfl, ho, hb⟩
  obtain ⟨A, c, rfl⟩ := Kd.R_slice ho
  have hC := (Kd.R_reads' ho).2.2
  have hc := (Kd.R_reads' ho).2.1
  have hG2 : IsG w2 w.heap.size (.slice none 0 0) false false (.pointer none) false := blk_below HG.out hb
  replace HB := Aside0.mk (below_step HB.out hb)
  clear ho hb
  go_wp2_with fail
  refine (calls_of_args rfl (Take_bye w.heap.size (.slice none 0 0) (.pointer none) false false A c _ rfl hG2 hC hc)).mono ?_
  rintro e w3 ⟨vn, rfl, hR, hG3, hB3⟩
  replace HB := Aside0.mk (hB3 w (Nat.le_refl _) HB.out)
  obtain ⟨Av, cv, rfl⟩ := Kd.R_slice hR
  have HR := Aside0.mk hR
  have HG3 := Aside0.mk hG3
  clear hG2 hC hc hR hG3 hB3 HG
  have hcv : ∀ o : Obj, (convert 24 9 (.slice Av 3 cv)).run Tryd.prog (w3.alloc o) = .ok (.string (strOfNums [98, 121, 101])) (w3.alloc o) := fun o => own_string (P := Tryd.prog) Tryd.underlying24 Tryd.underlying5 Tryd.underlying9 (Kd.own_of_R (Kd.R_alloc HR.out o))
  have hst := bye_same
  go_wp2_with fail
  refine (over_any w.heap.size (.slice none 0 0) (.pointer none) false false true _ (blk_alloc HG3.out _)).mono ?_
  rintro e w4 ⟨rfl, rfl⟩
  clear hcv
  go_wp2_with fail
  go_ret
  exact ⟨rfl, below_alloc HB.out _⟩
end Go.Proofs.YtbjjobifpmjhhaaDoor

/- A message of any number of bytes is told just if it isn't too great. -/
namespace Go.Proofs.YtbjjobifpmjhhaaDoor
open Go.RowKit Go.Proofs.YtbjjobifpmjhhaaDoorW.PrintWords Go.Proofs.YtbjjobifpmjhhaaDoorW.PrintLast Go.Proofs.YtbjjobifpmjhhaaDoorW.PrintMore Go.Proofs.YtbjjobifpmjhhaaDoor.PAll Go.Proofs.YtbjjobifpmjhhaaDoor.U
set_option linter.unusedVariables false
set_option linter.unusedSimpArgs false
theorem wf16 {x : Int} (h : (Lit.int .u16 x).wf = true) : 0 ≤ x ∧ x ≤ 65535 := by simpa [Lit.wf, IntKind.min, IntKind.max, IntKind.signed, IntKind.bits] using h
abbrev Prow (w : World) (base : Nat) (v pv : Value) (ps : List Pm) : Prop := Kd.R k26 26 w base (fun q => some q ≠ v.ownBlock) pv ps
/-- In the loop over the frames. -/
def GreatR (w0 w : World) (base g k M : Nat) (pv : Value) (ps : List Pm) (mu : Nat) (hv iv : Value) (wr : World) : Prop :=
  ∃ (i had : Nat) (l : List Int) (op : Int) (rem : List Pm), hv = .int .i64 (had : Nat) ∧ iv = .int .i64 (i : Nat) ∧ i + rem.length = ps.length ∧ ps.drop i = rem ∧ had + l.length = k ∧ mu = rem.length ∧ Below w.heap.size w wr ∧ ((rem = [] ∧ l = []) ∨ (CutP M op l rem ∧ (op = 0 ∨ op = 2))) ∧
    ((had ≤ 4096 ∧ ∃ v u b busy te gu f, Gs w0 wr g v u b busy te false gu f ∧ Prow wr base v pv ps ∧ (rem ≠ [] → b.length = had ∧ busy = (op == 0)) ∧ (busy = true → te = false ∧ f = []) ∧ (busy = false → b = [])) ∨
     (4096 < had ∧ ∃ u te, Gw w0 wr g (.slice none 0 0) u [] false te true ∧ Prow wr base (.slice none 0 0) pv ps))
theorem Fr.box {w0 w W : World} {o : Obj} {g : Nat} {v u pv : Value} {b : List Int} {busy text over : Bool} {e base : Nat} {ps : List Pm} (hg : Gw w0 w g v u b busy text over) (hf : Fr (w.alloc o) W g v u) : W.heap[w.heap.size]? = some o := by
  have h := hf.same w.heap.size (by simp) (fun e => by have := blk_lt hg.blk; omega) (fun e => by have := Kd.R_lt hg.row _ e.symm; omega) (fun e => by have := hg.ulow _ e; omega)
  refine h.trans ?_
  show (w.heap.push o)[w.heap.size]? = some o
  simp
set_option maxHeartbeats 16000000 in
set_option maxRecDepth 100000 in
theorem Pure.MessageGreat : Says.MessageGreat := by
  intro x0 x1 w o0 o1 hg
  have b0 := wf16 o0
  have b1 := wf16 o1
  have hu26 := Tryd.underlying26
  have hu30 := Tryd.underlying30
  have HC := Aside0.mk hg
  clear hg o0 o1
  obtain ⟨k, hk⟩ : ∃ k : Nat, (k : Int) = x0 % 9001 := ⟨(x0 % 9001).toNat, by omega⟩
  obtain ⟨sz, hsz⟩ : ∃ sz : Nat, (sz : Int) = x1 % 4096 := ⟨(x1 % 4096).toNat, by omega⟩
  have hk1 : k < 9001 := by omega
  have hs1 : sz < 4096 := by omega
  go_enter Tryd.func8, Tryd.ntmps8
  have hmk := print_make (P := Tryd.prog) 24 5 .u8 1 Tryd.underlying24 rfl (by decide) k (by omega)
  go_upto_region 3 with fail
  simp only [← hk, ← hsz]
  clear hk hsz b0 b1
  go_wp2_with fail
  refine (gnew_any _).mono ?_
  rintro e w1 ⟨rfl, hG, hb⟩
  have HG := Aside0.mk (show Gs w w1 w.heap.size (.slice none 0 0) (.pointer none) [] false false false 0 [] from ⟨⟨hG, Kd.R_nil _ _ _ _ _, hb, Nat.le_refl _, rfl, fun k e => by cases e⟩, fun h => by cases h⟩)
  clear hG hb
  go_wp2_with fail
  have HG1 := Aside0.mk (HG.out.below (below_alloc (Below.refl _ _) (.cells (madeCells #[.int .u8 0] k) 5)))
  clear HG
  have hR0 : Kd.R (Kd.int .u8) 5 (w1.alloc (.cells (madeCells #[.int .u8 0] k) 5)) w1.heap.size (fun _ => True) (.slice (some ⟨w1.heap.size, 0, none⟩) k k) (List.replicate k 0) := Kd.R_of_own (h1 := fun _ => rfl) (by simpa [nums, encs] using own_made w1 w1.heap.size 5 .u8 k (Nat.le_refl _) (by omega)) (fun _ _ => trivial)
  obtain ⟨h0, hle, hCz⟩ := Kd.R_reads' hR0
  have hct := cut_any false (some ⟨w1.heap.size, 0, none⟩) k (List.replicate k 0) (1 + (sz : Int)) _ hCz (by simp) (by simp; omega)
  obtain ⟨Z, hZ⟩ : ∃ Z, Z = List.replicate k (0 : Int) := ⟨_, rfl⟩
  have hZl : Z.length = k := by rw [hZ, List.length_replicate]
  rw [← hZ, hZl] at hct
  obtain ⟨M, hM⟩ : ∃ M, M = mostC (1 + (sz : Int)) := ⟨_, rfl⟩
  rw [← hM] at hct
  have HM := Aside0.mk (show 1 ≤ M ∧ M ≤ 4096 by rw [hM]; exact mostC_pos _)
  clear hM
  clear hR0 h0 hle hCz hmk hZ
  obtain ⟨W1, hW1⟩ : ∃ W1, W1 = w1.alloc (.cells (madeCells #[.int .u8 0] k) 5) := ⟨_, rfl⟩
  rw [← hW1] at hct HG1 ⊢
  clear hW1
  refine hct.mono ?_
  rintro e w2 ⟨pv, ps, rfl, hcp, hpl, hR, hb⟩
  have HG2 := Aside0.mk (HG1.out.below hb)
  have HCP := Aside0.mk hcp
  have HR2 := Aside0.mk (rows_new (v := .slice none 0 0) hR (fun k e => by cases e))
  have HZ := Aside0.mk hZl
  obtain ⟨Ap, cp, rfl⟩ := Kd.R_slice hR
  clear hct hR hb HG1 hcp hZl
  have HPL := Aside0.mk (show ps.length ≤ k + 1 by have := HZ.out; omega)
  clear hpl
  go_wp2_with fail
  go_loopg [8, 27] ps.length (fun mu hv iv wr => GreatR w w W1.heap.size w.heap.size k M (.slice Ap ps.length cp) ps mu hv iv wr)
  case atStart =>
    exact ⟨0, 0, Z, 2, ps, rfl, rfl, by omega, rfl, by have := HZ.out; omega, rfl, HG2.out.gw.bel, .inr ⟨HCP.out, .inr rfl⟩, .inl ⟨by omega, _, _, _, _, _, _, _, HG2.out, HR2.out, fun _ => ⟨rfl, rfl⟩, ⟨fun h => absurd h (by decide), fun _ => rfl⟩⟩⟩
  case round =>
    clear HG2 HCP HR2
    obtain ⟨i, had, l, op, rem, rfl, rfl, hi, hdr, hhad, hmu, hB, hcut, hst⟩ := hrel
    by_cases hlt : i < ps.length
    · rcases hcut with ⟨e, _⟩ | ⟨hcp, hop⟩
      · rw [e] at hi
        simp only [List.length_nil] at hi
        omega
      obtain ⟨p, rem', rfl⟩ : ∃ p r, rem = p :: r := by
        cases rem with
        | nil => exact absurd rfl hcp.ne
        | cons p r => exact ⟨p, r, rfl⟩
      obtain ⟨l', hp, hl, hpl, htail⟩ := hcp.head
      have hpi : ps[i] = p := by
        have h := congrArg (·[0]?) hdr
        simpa [hlt] using h
      have hdr' : ps.drop (i + 1) = rem' := by
        have h := congrArg List.tail hdr
        simpa [List.tail_drop] using h
      have HP := Aside0.mk (show p.f1 = op ∧ p.f2 = false ∧ p.f3 = 0 by rw [hp]; exact ⟨rfl, rfl, rfl⟩)
      have HL := Aside0.mk (show had + p.f4.length ≤ k by have := congrArg List.length hl; simp only [List.length_append] at this; omega)
      have HT := Aside0.mk htail
      have HDR := Aside0.mk hdr'
      have HE := Aside0.mk (show i + (rem'.length + 1) = ps.length by simpa using hi)
      have HH := Aside0.mk (show had + p.f4.length + l'.length = k by have := congrArg List.length hl; simp only [List.length_append] at this; omega)
      have HMU := Aside0.mk (show gk = rem'.length + 1 by simpa using hmu)
      have HOP := Aside0.mk hop
      have HPL2 := Aside0.mk hpl
      have HB := Aside0.mk hB
      clear hi hdr hhad hmu hB hcp hop hp hl hpl htail hdr'
      have HN := Aside0.mk (show (rem' = [] ∧ l' = []) ∨ CutP M 0 l' rem' from HT.out.elim (fun h => .inl ⟨h.2.1, h.2.2⟩) (fun h => .inr h.2.1))
      obtain ⟨d, hd⟩ : ∃ d, d = p.f4 := ⟨_, rfl⟩
      have HIJ := Aside0.mk (show ((had + d.length : Nat) : Int) = (had : Int) + (d.length : Int) by omega)
      have HII := Aside0.mk (show ((i + 1 : Nat) : Int) = (i : Int) + 1 by omega)
      have hi9 : i ≤ 9001 := by have := HPL.out; omega
      have h10 : ¬ (10000 < i) := by omega
      have h11 : ¬ ((10000 : Int) < (i : Int)) := by omega
      have hup : (had : Int) + (d.length : Int) ≤ 9001 := by have := HL.out; have := congrArg List.length hd; omega
      rcases hst with ⟨hh, v, u, b, busy, te, gu, f, hG, hR, hr1, hr2, hr3⟩ | ⟨hh, u, te, hG, hR⟩
      · obtain ⟨gp, A4, c4, rfl, e0, e1, e2, e3, e4, hR4⟩ := row_at hR i hlt
        rw [hpi] at e0 e1 e2 e3 e4 hR4
        rw [HP.out.1] at e1
        rw [HP.out.2.1] at e2
        rw [HP.out.2.2] at e3
        rw [← hd] at e4 hR4
        have HD := Aside0.mk hd
        clear hd
        have HG := Aside0.mk hG
        have HRR := Aside0.mk hR
        have HR4 := Aside0.mk hR4
        have htn : textN busy te op = false := by
          unfold textN
          cases busy with
          | true => simpa using (hr2 rfl).1
          | false => rcases HOP.out with rfl | rfl <;> rfl
        have hbz : ((op == 0) != busy) = false := by rw [(hr1 (by simp)).2]; cases op == 0 <;> rfl
        have hbl := (hr1 (by simp)).1
        have hff : (busy = true → f = if te = true then b else []) ∧ (busy = false → b = []) := ⟨fun h => by rw [(hr2 h).1, (hr2 h).2]; rfl, hr3⟩
        have HTN := Aside0.mk htn
        have HBZ := Aside0.mk hbz
        have HBL := Aside0.mk hbl
        have HFF := Aside0.mk hff
        clear hG hR hR4 hr1 hr2 hr3 htn hbz hbl hff hpi
        have hdM : d.length ≤ M := by rw [HD.out]; exact HPL2.out
        have h4096 : ¬ (4096 < had) := by omega
        have h4096i : ¬ ((4096 : Int) < (had : Int)) := by omega
        by_cases hgr : had + d.length ≤ 4096
        · have h8 : ¬ ((4096 : Int) < (had : Int) + (d.length : Int)) := by omega
          have h9 : ¬ (4096 < had + d.length) := by omega
          have hpc : ∀ fin, partC busy te fin op b d = 0 := fun fin => by
            unfold partC
            rw [if_neg (by rw [HBZ.out]; decide), if_neg (by have := HBL.out; omega), if_neg (by rw [HTN.out]; simp)]
          rcases HT.out with ⟨hf0, hr, hl⟩ | ⟨hf0, hcp, hM, hl⟩
          · rw [hf0] at e0
            have HPC := Aside0.mk (hpc true)
            clear hpc hf0
            go_wp2_with fail
            refine (TakeTold (HG.out.below (below_alloc (Below.refl _ _) _)) HFF.out (Dat.of_row (Kd.R_below HR4.out (below_alloc (Below.refl _ _) _))) (fun k e => (HR4.out.1 k e).symm) (by have := HBL.out; omega) (by have := HM.out; omega) (HOP.out.elim .inl (fun h => .inr (.inr h))) HPC.out rfl).mono ?_
            rintro e w5 ⟨vn, u', rfl, hG5, hRn, hF5, hn5⟩
            have hb5 := Fr.box (pv := .pointer none) (e := 0) (base := 0) (ps := []) HG.out.gw hF5
            have hlt5 := blk_lt hb5
            have c50 := (blk_cell hb5 0).trans rfl
            have HG5 := Aside0.mk hG5
            have HP5 := Aside0.mk (Fr.rows (HG.out.gw.below (below_alloc (Below.refl _ _) _)) hF5 (v' := .slice none 0 0) (.inr (.inl rfl)) (fun q hq => pm_types hq) (Kd.R_below HRR.out (below_alloc (Below.refl _ _) _)))
            obtain ⟨An, cn, rfl⟩ := Kd.R_slice hRn
            have hbd : (b ++ d).length = k := by have := HBL.out; have := HH.out; rw [hl] at this; simp at this; have := congrArg List.length HD.out; rw [List.length_append]; omega
            rw [hbd]
            clear hG5 hRn hF5 hn5 hbd hb5
            go_wp2_with fail
            go_roundg rem'.length
            case measure => have := HMU.out; omega
            case rel => exact ⟨i + 1, had + d.length, l', 0, rem', by rw [HIJ.out], by rw [HII.out], by have := HE.out; omega, HDR.out, (by have := HH.out; have := congrArg List.length HD.out; omega), rfl, below_alloc HG5.out.bel _, HN.out.elim .inl (fun h => .inr ⟨h, .inl rfl⟩), .inl ⟨hgr, .slice none 0 0, _, [], false, _, 0, [], ⟨HG5.out.below (below_alloc (Below.refl _ _) _), fun h => by cases h⟩, Kd.R_below HP5.out (below_alloc (Below.refl _ _) _), fun h => absurd hr h, ⟨fun h => absurd h (by decide), fun _ => rfl⟩⟩⟩
          · rw [hf0] at e0
            have HPC := Aside0.mk (hpc false)
            clear hpc hf0 hcp hM hl
            go_wp2_with fail
            refine (TakeMore (HG.out.below (below_alloc (Below.refl _ _) _)) HFF.out (Dat.of_row (Kd.R_below HR4.out (below_alloc (Below.refl _ _) _))) (fun k e => (HR4.out.1 k e).symm) (by have := HBL.out; omega) (by have := HM.out; omega) (HOP.out.elim .inl (fun h => .inr (.inr h))) HPC.out rfl).mono ?_
            rintro e w5 ⟨rfl, v', u', gu', hG5, hF5, hn5⟩
            have hb5 := Fr.box (pv := .pointer none) (e := 0) (base := 0) (ps := []) HG.out.gw hF5
            have hlt5 := blk_lt hb5
            have c50 := (blk_cell hb5 0).trans rfl
            have HG5 := Aside0.mk hG5
            have HP5 := Aside0.mk (Fr.rows (HG.out.gw.below (below_alloc (Below.refl _ _) _)) hF5 (v' := v') hn5 (fun q hq => pm_types hq) (Kd.R_below HRR.out (below_alloc (Below.refl _ _) _)))
            clear hG5 hF5 hn5 hb5
            go_wp2_with fail
            go_roundg rem'.length
            case measure => have := HMU.out; omega
            case rel => exact ⟨i + 1, had + d.length, l', 0, rem', by rw [HIJ.out], by rw [HII.out], by have := HE.out; omega, HDR.out, (by have := HH.out; have := congrArg List.length HD.out; omega), rfl, below_alloc HG5.out.gw.bel _, HN.out.elim .inl (fun h => .inr ⟨h, .inl rfl⟩), .inl ⟨hgr, _, _, _, _, _, _, _, HG5.out.below (below_alloc (Below.refl _ _) _), Kd.R_below HP5.out (below_alloc (Below.refl _ _) _), fun h => ⟨by rw [List.length_append, HBL.out], rfl⟩, ⟨fun h => ⟨HTN.out, by rw [HTN.out]; rfl⟩, fun h => by cases h⟩⟩⟩
        · have h8 : (4096 : Int) < (had : Int) + (d.length : Int) := by omega
          have h9 : 4096 < had + d.length := by omega
          have HPC := Aside0.mk (show partC busy te p.f0 op b d = 1009 by
            unfold partC
            rw [if_neg (by rw [HBZ.out]; decide), if_pos (by have := HBL.out; omega)])
          go_wp2_with fail
          refine (TakeBadPart (HG.out.below (below_alloc (Below.refl _ _) _)) HFF.out (Dat.of_row (Kd.R_below HR4.out (below_alloc (Below.refl _ _) _))) (fun k e => (HR4.out.1 k e).symm) (by have := HBL.out; omega) (by have := HM.out; omega) (HOP.out.elim .inl (fun h => .inr (.inr h))) HC.out (by rw [HPC.out]; decide)).mono ?_
          rw [HPC.out]
          rintro e w5 ⟨rfl, u', te', hG5, hF5⟩
          have hb5 := Fr.box (pv := .pointer none) (e := 0) (base := 0) (ps := []) HG.out.gw hF5
          have hlt5 := blk_lt hb5
          have c50 := (blk_cell hb5 0).trans rfl
          have HG5 := Aside0.mk hG5
          have HP5 := Aside0.mk (Fr.rows (HG.out.gw.below (below_alloc (Below.refl _ _) _)) hF5 (v' := .slice none 0 0) (.inr (.inl rfl)) (fun q hq => pm_types hq) (Kd.R_below HRR.out (below_alloc (Below.refl _ _) _)))
          clear hG5 hF5 hb5
          go_wp2_with fail
          go_roundg rem'.length
          case measure => have := HMU.out; omega
          case rel => exact ⟨i + 1, had + d.length, l', 0, rem', by rw [HIJ.out], by rw [HII.out], by have := HE.out; omega, HDR.out, (by have := HH.out; have := congrArg List.length HD.out; omega), rfl, below_alloc HG5.out.bel _, HN.out.elim .inl (fun h => .inr ⟨h, .inl rfl⟩), .inr ⟨by omega, _, _, HG5.out.below (below_alloc (Below.refl _ _) _), Kd.R_below HP5.out (below_alloc (Below.refl _ _) _)⟩⟩
      · obtain ⟨gp, A4, c4, rfl, e0, e1, e2, e3, e4, hR4⟩ := row_at hR i hlt
        rw [hpi] at e0 e1 e2 e3 e4
        rw [HP.out.1] at e1
        rw [HP.out.2.1] at e2
        rw [HP.out.2.2] at e3
        rw [← hd] at e4
        have HD := Aside0.mk hd
        have HG := Aside0.mk hG
        have HRR := Aside0.mk hR
        clear hG hR hR4 hpi hd
        have h4096i : (4096 : Int) < (had : Int) := by omega
        go_wp2_with fail
        refine (Take_over (HG.out.below (below_alloc (Below.refl _ _) _))).mono ?_
        rintro e w5 ⟨rfl, hb5⟩
        have HG5 := Aside0.mk ((HG.out.below (below_alloc (Below.refl _ _) _)).below hb5)
        have HP5 := Aside0.mk (Kd.R_below (Kd.R_below HRR.out (below_alloc (Below.refl _ _) _)) hb5)
        clear hb5
        go_wp2_with fail
        go_roundg rem'.length
        case measure => have := HMU.out; omega
        case rel => exact ⟨i + 1, had + d.length, l', 0, rem', by rw [HIJ.out], by rw [HII.out], by have := HE.out; omega, HDR.out, (by have := HH.out; have := congrArg List.length HD.out; omega), rfl, below_alloc HG5.out.bel _, HN.out.elim .inl (fun h => .inr ⟨h, .inl rfl⟩), .inr ⟨by omega, _, _, HG5.out.below (below_alloc (Below.refl _ _) _), Kd.R_below HP5.out (below_alloc (Below.refl _ _) _)⟩⟩
    · have hrem : rem = [] := by
        cases rem with
        | nil => rfl
        | cons a r => exfalso; simp only [List.length_cons] at hi; omega
      have hl0 : l = [] := hcut.elim (fun h => h.2) (fun h => absurd hrem h.1.ne)
      have hk : had = k := by rw [hl0] at hhad; simpa using hhad
      subst hk
      have hdone : (i : Int) = (ps.length : Int) := by rw [hrem] at hi; simp only [List.length_nil] at hi; omega
      clear hi hdr hhad hmu hB hcut hrem hl0
      rcases hst with ⟨hh, v, u, b, busy, te, gu, f, hG, hR, hr1, hr2, hr3⟩ | ⟨hh, u, te, hG, hR⟩
      · have HG := Aside0.mk hG.gw
        clear hG hR hr1 hr2 hr3
        have h8 : ¬ ((4096 : Int) < (had : Int)) := by omega
        go_wp2_with fail
        refine (fixed_yes _).mono ?_
        rintro e w5 ⟨rfl, hb5⟩
        have HG5 := Aside0.mk (HG.out.below hb5)
        clear hb5
        go_wp2_with fail
        refine (over_any _ _ _ _ _ _ _ HG5.out.blk).mono ?_
        rintro e w6 ⟨rfl, rfl⟩
        go_wp2_with fail
        go_ret
        exact ⟨by show Ending.returned (Value.bool (!decide ((4096 : Int) < (had : Int)))) = _; rw [decide_eq_false (by omega)]; rfl, HG5.out.bel⟩
      · have HG := Aside0.mk hG
        clear hG hR
        have h8 : (4096 : Int) < (had : Int) := by omega
        go_wp2_with fail
        refine (fixed_yes _).mono ?_
        rintro e w5 ⟨rfl, hb5⟩
        have HG5 := Aside0.mk (HG.out.below hb5)
        clear hb5
        go_wp2_with fail
        refine (over_any _ _ _ _ _ _ _ HG5.out.blk).mono ?_
        rintro e w6 ⟨rfl, rfl⟩
        go_wp2_with fail
        go_ret
        exact ⟨rfl, HG5.out.bel⟩
end Go.Proofs.YtbjjobifpmjhhaaDoor

