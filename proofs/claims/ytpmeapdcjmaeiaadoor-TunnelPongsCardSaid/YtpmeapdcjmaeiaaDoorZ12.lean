/- What the law's row rests on, part 12. -/
import Derived.Test.YtpmeapdcjmaeiaaDoorZ11
import Derived.Deep.RegionHeld3
import Derived.Deep.LoopGhost
import Derived.Deep.DeepCutAuto
import Derived.Deep.CutBlock
set_option linter.unusedVariables false
set_option linter.unusedSimpArgs false

namespace Go.Proofs.YtpmeapdcjmaeiaaDoor.PAll
open Go.RowKit Go.Proofs.YtpmeapdcjmaeiaaDoorW.PrintWords Go.Proofs.YtpmeapdcjmaeiaaDoorW.PrintLast Go.Proofs.YtpmeapdcjmaeiaaDoorW.PrintMore
attribute [local go_sem] max2_int min2_int max_two min_two max_three min_three max_four min_four
mutual
def wsframe_Put.j0 : Nat → List Int → Bool → Int → Bool → Int → List Int → Option (List Int)
 | 0, _, _, _, _, _, _ => none
 | k + 1, x3, x151000, x151001, x151002, x151003, x151004 => if x151002 = true then (if 1 < (x3.length : Int) then (wsframe_Put.j1 k (x3.set (1 : Int).toNat (Go.bits .or .u8 (rd x3 1) 128)) x151000 x151001 x151002 x151003 x151004) else (none)) else (wsframe_Put.j1 k x3 x151000 x151001 x151002 x151003 x151004)
def wsframe_Put.j1 : Nat → List Int → Bool → Int → Bool → Int → List Int → Option (List Int)
 | 0, _, _, _, _, _, _ => none
 | k + 1, x3, x151000, x151001, x151002, x151003, x151004 => if (x151004.length : Int) < 126 then (if 1 < (x3.length : Int) then (wsframe_Put.j2 k (x3.set (1 : Int).toNat (Go.bits .or .u8 (rd x3 1) (((x151004.length : Int)) % 256))) x151000 x151001 x151002 x151003 x151004) else (none)) else (if 1 < (x3.length : Int) then ((some (x3.set (1 : Int).toNat (Go.bits .or .u8 (rd x3 1) 126) : List Int)).bind fun y162 => ((some (([((x151004.length : Int) / 256) % 256, ((x151004.length : Int)) % 256] : List Int) : List Int)).bind fun y163 => (if y162.length + y163.length < 140737488355328 then (wsframe_Put.j2 k (y162 ++ y163) x151000 x151001 x151002 x151003 x151004) else (none)))) else (none))
def wsframe_Put.j2 : Nat → List Int → Bool → Int → Bool → Int → List Int → Option (List Int)
 | 0, _, _, _, _, _, _ => none
 | k + 1, x3, x151000, x151001, x151002, x151003, x151004 => if x151002 = true then ((wsframe_key.f x151003).bind fun t169 => (if x3.length + t169.length < 140737488355328 then ((some (x3 ++ t169 : List Int)).bind fun y172 => ((wsframe_Turn.f k x151004 x151003).bind fun t175 => (if y172.length + t175.length < 140737488355328 then (some (y172 ++ t175)) else (none)))) else (none))) else (if x3.length + x151004.length < 140737488355328 then (some (x3 ++ x151004)) else (none))
end
def wsframe_Put.f (k : Nat) (a0_0 : Bool) (a0_1 : Int) (a0_2 : Bool) (a0_3 : Int) (l0_4 : List Int) : Option (List Int) := (wsframe_May.f k a0_0 a0_1 a0_2 a0_3 l0_4).bind fun t151 => (if t151 = true then ((some (([a0_1, 0] : List Int) : List Int)).bind fun y152 => (if a0_0 = true then (if 0 < (y152.length : Int) then (wsframe_Put.j0 k (y152.set (0 : Int).toNat (Go.bits .or .u8 (rd y152 0) 128)) a0_0 a0_1 a0_2 a0_3 l0_4) else (none)) else (wsframe_Put.j0 k y152 a0_0 a0_1 a0_2 a0_3 l0_4))) else (some ([] : List Int)))
set_option maxRecDepth 100000 in
theorem wsframe_Put.mono_l : ∀ k, (∀ y0 y1 y2 y3 y4 y5, LeO (wsframe_Put.j0 k y0 y1 y2 y3 y4 y5) (wsframe_Put.j0 (k + 1) y0 y1 y2 y3 y4 y5)) ∧ (∀ y0 y1 y2 y3 y4 y5, LeO (wsframe_Put.j1 k y0 y1 y2 y3 y4 y5) (wsframe_Put.j1 (k + 1) y0 y1 y2 y3 y4 y5)) ∧ (∀ y0 y1 y2 y3 y4 y5, LeO (wsframe_Put.j2 k y0 y1 y2 y3 y4 y5) (wsframe_Put.j2 (k + 1) y0 y1 y2 y3 y4 y5))
 | 0 => ⟨fun _ _ _ _ _ _ r h => by (unfold wsframe_Put.j0 at h; cases h), fun _ _ _ _ _ _ r h => by (unfold wsframe_Put.j1 at h; cases h), fun _ _ _ _ _ _ r h => by (unfold wsframe_Put.j2 at h; cases h)⟩
 | k + 1 => by
  obtain ⟨ih0, ih1, ih2⟩ := wsframe_Put.mono_l k
  refine ⟨?_, ?_, ?_⟩
  ·intro y0 y1 y2 y3 y4 y5
   unfold wsframe_Put.j0
   repeat' first
   | (with_reducible exact ih0 _ _ _ _ _ _)
   | (with_reducible exact ih1 _ _ _ _ _ _)
   | (with_reducible exact ih2 _ _ _ _ _ _)
   | (with_reducible exact wsframe_May.mono _ _ _ _ _ _)
   | (with_reducible exact wsframe_Turn.mono _ _ _)
   | (with_reducible exact LeO.refl _)
   | (with_reducible exact LeO.none _)
   | (with_reducible refine LeO.ite ?_ ?_)
   | (with_reducible refine LeO.bind ?_ (fun _ => ?_))
   | exact ih0 _ _ _ _ _ _
   | exact ih1 _ _ _ _ _ _
   | exact ih2 _ _ _ _ _ _
   | exact wsframe_May.mono _ _ _ _ _ _
   | exact wsframe_Turn.mono _ _ _
   | exact LeO.none _
   | refine LeO.ite ?_ ?_
   | refine LeO.bind ?_ (fun _ => ?_)
  ·intro y0 y1 y2 y3 y4 y5
   unfold wsframe_Put.j1
   repeat' first
   | (with_reducible exact ih0 _ _ _ _ _ _)
   | (with_reducible exact ih1 _ _ _ _ _ _)
   | (with_reducible exact ih2 _ _ _ _ _ _)
   | (with_reducible exact wsframe_May.mono _ _ _ _ _ _)
   | (with_reducible exact wsframe_Turn.mono _ _ _)
   | (with_reducible exact LeO.refl _)
   | (with_reducible exact LeO.none _)
   | (with_reducible refine LeO.ite ?_ ?_)
   | (with_reducible refine LeO.bind ?_ (fun _ => ?_))
   | exact ih0 _ _ _ _ _ _
   | exact ih1 _ _ _ _ _ _
   | exact ih2 _ _ _ _ _ _
   | exact wsframe_May.mono _ _ _ _ _ _
   | exact wsframe_Turn.mono _ _ _
   | exact LeO.none _
   | refine LeO.ite ?_ ?_
   | refine LeO.bind ?_ (fun _ => ?_)
  ·intro y0 y1 y2 y3 y4 y5
   unfold wsframe_Put.j2
   repeat' first
   | (with_reducible exact ih0 _ _ _ _ _ _)
   | (with_reducible exact ih1 _ _ _ _ _ _)
   | (with_reducible exact ih2 _ _ _ _ _ _)
   | (with_reducible exact wsframe_May.mono _ _ _ _ _ _)
   | (with_reducible exact wsframe_Turn.mono _ _ _)
   | (with_reducible exact LeO.refl _)
   | (with_reducible exact LeO.none _)
   | (with_reducible refine LeO.ite ?_ ?_)
   | (with_reducible refine LeO.bind ?_ (fun _ => ?_))
   | exact ih0 _ _ _ _ _ _
   | exact ih1 _ _ _ _ _ _
   | exact ih2 _ _ _ _ _ _
   | exact wsframe_May.mono _ _ _ _ _ _
   | exact wsframe_Turn.mono _ _ _
   | exact LeO.none _
   | refine LeO.ite ?_ ?_
   | refine LeO.bind ?_ (fun _ => ?_)
set_option maxRecDepth 100000 in
theorem wsframe_Put.mono : ∀ a0 a1 a2 a3 a4 k, LeO (wsframe_Put.f k a0 a1 a2 a3 a4) (wsframe_Put.f (k + 1) a0 a1 a2 a3 a4) := by
 intro a0 a1 a2 a3 a4 k
 obtain ⟨ih0, ih1, ih2⟩ := wsframe_Put.mono_l k
 unfold wsframe_Put.f
 repeat' first
   | (with_reducible exact ih0 _ _ _ _ _ _)
   | (with_reducible exact ih1 _ _ _ _ _ _)
   | (with_reducible exact ih2 _ _ _ _ _ _)
   | (with_reducible exact wsframe_May.mono _ _ _ _ _ _)
   | (with_reducible exact wsframe_Turn.mono _ _ _)
   | (with_reducible exact LeO.refl _)
   | (with_reducible exact LeO.none _)
   | (with_reducible refine LeO.ite ?_ ?_)
   | (with_reducible refine LeO.bind ?_ (fun _ => ?_))
   | exact ih0 _ _ _ _ _ _
   | exact ih1 _ _ _ _ _ _
   | exact ih2 _ _ _ _ _ _
   | exact wsframe_May.mono _ _ _ _ _ _
   | exact wsframe_Turn.mono _ _ _
   | exact LeO.none _
   | refine LeO.ite ?_ ?_
   | refine LeO.bind ?_ (fun _ => ?_)
def wsframe_Put.T15 : Bool × List (List Nat × List Nat) := (true, [([], []), ([], []), ([1], [1]), ([2], [2]), ([0, 3, 3], [0, 3]), ([], []), ([5], [5]), ([], []), ([7], [7]), ([6, 8, 4], [6, 8]), ([4, 9, 9], [4, 9]), ([10, 10, 0, 1, 2, 3, 4, 5, 6, 7, 8, 9, 10], [10])])
def wsframe_Put.B15 : List Nat := [0, 0, 2, 6, 15, 0, 32, 0, 128, 511, 1023, 2047]
theorem wsframe_Put.tab15 : rtab .any (opsOf Tryd.f16 15) = wsframe_Put.T15 := by kernel_rfl
theorem wsframe_Put.bits15 : waitsOk wsframe_Put.T15.2 wsframe_Put.B15 = true := by kernel_rfl
set_option maxHeartbeats 8000000 in
set_option maxRecDepth 100000 in
theorem wsframe_Put.calls (k : Nat) (a0_0 : Bool) (a0_1 : Int) (a0_2 : Bool) (a0_3 : Int) (A0_4 : Option Addr) (c0_4 : Nat) (l0_4 : List Int) (r : List Int) (w : World) (hr0_4 : Kd.C (Kd.int .u8) w A0_4 l0_4.length l0_4) (hc0_4 : l0_4.length ≤ c0_4) (h : wsframe_Put.f k a0_0 a0_1 a0_2 a0_3 l0_4 = some r) :
  Calls Tryd.prog 16 #[.agg #[.bool a0_0, .int .u8 a0_1, .bool a0_2, .int .u32 a0_3, .slice A0_4 l0_4.length c0_4]] w fun e w' => ∃ v0_ : Value, e = .returned (v0_) ∧ Kd.R (Kd.int .u8) 5 w' w.heap.size (fun _ => True) v0_ r ∧ Below w.heap.size w w' := by
 have hf58_1 := field58_1
 have hf76_0 := field76_0
 have hu52 := Tryd.underlying52
 have HR0_4 := Aside0.mk hr0_4
 have HC0_4 := Aside0.mk hc0_4
 clear hr0_4 hc0_4
 have HB := Aside0.mk (Below.refl w.heap.size w)
 have H : ((wsframe_May.f k a0_0 a0_1 a0_2 a0_3 l0_4).bind fun t151 => (if t151 = true then ((some (([a0_1, 0] : List Int) : List Int)).bind fun y152 => (if a0_0 = true then (if 0 < (y152.length : Int) then (wsframe_Put.j0 k (y152.set (0 : Int).toNat (Go.bits .or .u8 (rd y152 0) 128)) a0_0 a0_1 a0_2 a0_3 l0_4) else (none)) else (wsframe_Put.j0 k y152 a0_0 a0_1 a0_2 a0_3 l0_4))) else (some ([] : List Int)))) = some r := h
 clear h
 replace H := Option.bind_eq_some_iff.mp H
 obtain ⟨t151, A20, H⟩ := H
 replace H : (if t151 = true then ((some (([a0_1, 0] : List Int) : List Int)).bind fun y152 => (if a0_0 = true then (if 0 < (y152.length : Int) then (wsframe_Put.j0 k (y152.set (0 : Int).toNat (Go.bits .or .u8 (rd y152 0) 128)) a0_0 a0_1 a0_2 a0_3 l0_4) else (none)) else (wsframe_Put.j0 k y152 a0_0 a0_1 a0_2 a0_3 l0_4))) else (some ([] : List Int))) = some r := H
 have A2 := Aside0.mk A20
 clear A20
 by_cases c3 : t151 = true
 ·subst c3
  have H1 : ((some (([a0_1, 0] : List Int) : List Int)).bind fun y152 => (if a0_0 = true then (if 0 < (y152.length : Int) then (wsframe_Put.j0 k (y152.set (0 : Int).toNat (Go.bits .or .u8 (rd y152 0) 128)) a0_0 a0_1 a0_2 a0_3 l0_4) else (none)) else (wsframe_Put.j0 k y152 a0_0 a0_1 a0_2 a0_3 l0_4))) = some r := by rw [if_pos rfl] at H; exact H
  clear H
  have H := H1
  clear H1
  obtain ⟨y152, hy152⟩ : ∃ y_ : List Int, y_ = (([a0_1, 0] : List Int)) := ⟨_, rfl⟩
  replace H : (if a0_0 = true then (if 0 < (y152.length : Int) then (wsframe_Put.j0 k (y152.set (0 : Int).toNat (Go.bits .or .u8 (rd y152 0) 128)) a0_0 a0_1 a0_2 a0_3 l0_4) else (none)) else (wsframe_Put.j0 k y152 a0_0 a0_1 a0_2 a0_3 l0_4)) = some r := by first | (rw [hy152]; with_reducible exact H) | (have H2_ := (Option.bind_some _ _).symm.trans H; rw [hy152]; with_reducible exact H2_) | (have H2_ := (Option.bind_some _ _).symm.trans H; with_reducible exact H2_) | with_reducible exact H | (rw [hy152]; exact H) | exact H
  have Ny152 := Aside0.mk hy152
  clear hy152
  have HC4 := Aside0.mk H
  clear H
  go_enter Tryd.func16, Tryd.ntmps16
  go_upto_if 12 with (first | ((with_reducible refine gate_dst (N := 1) rfl ?_); refine box_event ?hg (N := 1) ?hd (cs := #[.bool a0_0, .int .u8 a0_1, .bool a0_2, .int .u32 a0_3, .slice A0_4 l0_4.length c0_4]) (t := 52) ?hr ?_; (case hd => rfl); (case hg => rfl); (case hr => first | (go_simp; done) | (go_simp; rfl)); intro gb150 hg w5 hbox hb; have n0_ := Aside0.mk (below_step (by exact q2_ HB.out) hb); have n1_ := Aside0.mk (hbox); have n2_ := Aside0.mk ((by rw [hg]; exact (below_size (by exact q2_ HB.out)) : w.heap.size ≤ gb150)); have n3_ := Aside0.mk ((by rw [hg]; exact (below_size (by exact q2_ HB.out)) : w.heap.size ≤ gb150)); clear HB; have HB := n0_; have BK150 := n1_; have GW150 := n2_; have GE150 := n3_; clear n0_ n1_ n2_ n3_; clear hb hbox hg; have hcz6_0 : w5.cell? ⟨gb150, 0, none⟩ = some (.bool a0_0) := (blk_cell BK150.out 0).trans rfl; have hcz6_1 : w5.cell? ⟨gb150, 1, none⟩ = some (.int .u8 a0_1) := (blk_cell BK150.out 1).trans rfl; have hcz6_2 : w5.cell? ⟨gb150, 2, none⟩ = some (.bool a0_2) := (blk_cell BK150.out 2).trans rfl; have hcz6_3 : w5.cell? ⟨gb150, 3, none⟩ = some (.int .u32 a0_3) := (blk_cell BK150.out 3).trans rfl; have hcz6_4 : w5.cell? ⟨gb150, 4, none⟩ = some (.slice A0_4 l0_4.length c0_4) := (blk_cell BK150.out 4).trans rfl; have hfz6_0 := blk_frozen BK150.out 0; have hfz6_1 := blk_frozen BK150.out 1; have hfz6_2 := blk_frozen BK150.out 2; have hfz6_3 := blk_frozen BK150.out 3; have hfz6_4 := blk_frozen BK150.out 4) | ((with_reducible refine gate_callee (f := 28) rfl ?_); refine goesL_ (some 6) rfl rfl Tryd.func28 (by kernel_rfl) rfl #[.agg #[.bool a0_0, .int .u8 a0_1, .bool a0_2, .int .u32 a0_3, .slice A0_4 l0_4.length c0_4]] rfl (by exact q1_) ?_; (with_reducible refine (wsframe_May.calls k a0_0 a0_1 a0_2 a0_3 _ _ l0_4 true _ ?side1 ?side2 A2.out).mono ?_); (case side1 => repeat (first | exact (Kd.C_below HR0_4.out HB.out) | (with_reducible refine Kd.C_alloc ?_ _) | (with_reducible refine Kd.C_drewN ?_ _) | (with_reducible refine Kd.C_drew ?_))); (case side2 => exact HC0_4.out); rintro e w7 ⟨rfl, hb⟩; refine ⟨_, rfl, ?_⟩; have n0_ := Aside0.mk (blk_below (g := gb150) (o := .cells #[.bool a0_0, .int .u8 a0_1, .bool a0_2, .int .u32 a0_3, .slice A0_4 l0_4.length c0_4] 52 (0, 0)) (by exact q9_ BK150.out) hb); have n1_ := Aside0.mk (below_step (by exact q3_ HB.out GE150.out) hb); clear BK150; clear HB; have BK150 := n0_; have HB := n1_; clear n0_ n1_; (try clear hb); (try clear hb2); (try clear hk); (try clear hi); have hcz8_0 : w7.cell? ⟨gb150, 0, none⟩ = some (.bool a0_0) := (blk_cell BK150.out 0).trans rfl; have hcz8_1 : w7.cell? ⟨gb150, 1, none⟩ = some (.int .u8 a0_1) := (blk_cell BK150.out 1).trans rfl; have hcz8_2 : w7.cell? ⟨gb150, 2, none⟩ = some (.bool a0_2) := (blk_cell BK150.out 2).trans rfl; have hcz8_3 : w7.cell? ⟨gb150, 3, none⟩ = some (.int .u32 a0_3) := (blk_cell BK150.out 3).trans rfl; have hcz8_4 : w7.cell? ⟨gb150, 4, none⟩ = some (.slice A0_4 l0_4.length c0_4) := (blk_cell BK150.out 4).trans rfl; have hfz8_0 := blk_frozen BK150.out 0; have hfz8_1 := blk_frozen BK150.out 1; have hfz8_2 := blk_frozen BK150.out 2; have hfz8_3 := blk_frozen BK150.out 3; have hfz8_4 := blk_frozen BK150.out 4) | ((with_reducible refine gate_dst (N := 10) rfl ?_); refine Kd.R_lit (Kd.int .u8) _ 5 ?hg (N := 10) ?hd (xs := ([a0_1, 0] : List Int)) (inner := [.int .u8 a0_1, .int .u8 0]) (ok := fun _ => True) (okp := fun _ => True) ?hr ?hp (fun _ hk => hk) trivial (Below.refl _ _) (Nat.le_refl _) (by simp) ?_; (case hd => rfl); (case hg => rfl); (case hr => first | (go_simp; done) | (go_simp; rfl)); (case hp => exact (Reps.one (show Kd.M (Kd.int .u8) _ _ _ a0_1 [.int .u8 a0_1] from rfl) (Reps.one (show Kd.M (Kd.int .u8) _ _ _ 0 [.int .u8 0] from rfl) (Reps.none _ _)))); intro v153 w9 ho10 hb hg_ hnew_; clear hg_ hnew_; (first | rw [← Ny152.out] at ho10 | (simp only [Int.reduceToNat] at ho10; rw [← Ny152.out] at ho10)); have n0_ := Aside0.mk (Kd.R_lower ho10 (below_size (by exact q3_ HB.out GE150.out))); have n1_ := Aside0.mk (blk_below (g := gb150) (o := .cells #[.bool a0_0, .int .u8 a0_1, .bool a0_2, .int .u32 a0_3, .slice A0_4 l0_4.length c0_4] 52 (0, 0)) (by exact q9_ BK150.out) hb); have n2_ := Aside0.mk (below_step (by exact q3_ HB.out GE150.out) hb); clear BK150; clear HB; have HO154 := n0_; have BK150 := n1_; have HB := n2_; clear n0_ n1_ n2_; clear hb ho10; have hcz11_0 : w9.cell? ⟨gb150, 0, none⟩ = some (.bool a0_0) := (blk_cell BK150.out 0).trans rfl; have hcz11_1 : w9.cell? ⟨gb150, 1, none⟩ = some (.int .u8 a0_1) := (blk_cell BK150.out 1).trans rfl; have hcz11_2 : w9.cell? ⟨gb150, 2, none⟩ = some (.bool a0_2) := (blk_cell BK150.out 2).trans rfl; have hcz11_3 : w9.cell? ⟨gb150, 3, none⟩ = some (.int .u32 a0_3) := (blk_cell BK150.out 3).trans rfl; have hcz11_4 : w9.cell? ⟨gb150, 4, none⟩ = some (.slice A0_4 l0_4.length c0_4) := (blk_cell BK150.out 4).trans rfl; have hfz11_0 := blk_frozen BK150.out 0; have hfz11_1 := blk_frozen BK150.out 1; have hfz11_2 := blk_frozen BK150.out 2; have hfz11_3 := blk_frozen BK150.out 3; have hfz11_4 := blk_frozen BK150.out 4))
  (try simp only [Act.put, z1_, z2_, z3_])
  go_cut [] (fun wc => ∃ (kq : Nat) (x3_3 : List Int), Aside0 (wsframe_Put.j0 kq x3_3 a0_0 a0_1 a0_2 a0_3 l0_4 = some r) ∧ Aside0 (kq ≤ k) ∧ Aside0 (Kd.R (Kd.int .u8) 5 wc w.heap.size (fun _ => True) v153 x3_3) ∧ Aside0 (wc.heap[gb150]? = some (.cells #[.bool a0_0, .int .u8 a0_1, .bool a0_2, .int .u32 a0_3, (.slice A0_4 l0_4.length c0_4)] 52 (0, 0))) ∧ Aside0 (Below w.heap.size w wc))
  case first =>
   have H := HC4.out
   clear HC4
   by_cases c12 : a0_0 = true
   ·subst c12
    have H1 : (if 0 < (y152.length : Int) then (wsframe_Put.j0 k (y152.set (0 : Int).toNat (Go.bits .or .u8 (rd y152 0) 128)) true a0_1 a0_2 a0_3 l0_4) else (none)) = some r := by rw [if_pos rfl] at H; exact H
    clear H
    have H := H1
    clear H1
    by_cases c13 : 0 < (y152.length : Int)
    ·rw [if_pos c13] at H
     have c13b0 : decide (0 < (y152.length : Int)) = true := decide_eq_true c13
     have c13b1 : decide (0 < y152.length) = true := decide_eq_true (by omega)
     clear c13
     (first | rw [c13b0] | (simp only [i64_w, i32_w]; rw [c13b0]) | skip)
     obtain ⟨y156, hy156⟩ : ∃ y_ : List Int, y_ = (y152.set (0 : Int).toNat (Go.bits .or .u8 (rd y152 0) 128)) := ⟨_, rfl⟩
     replace H : (wsframe_Put.j0 k y156 true a0_1 a0_2 a0_3 l0_4) = some r := by first | (rw [hy156]; with_reducible exact H) | (have H2_ := (Option.bind_some _ _).symm.trans H; rw [hy156]; with_reducible exact H2_) | (have H2_ := (Option.bind_some _ _).symm.trans H; with_reducible exact H2_) | with_reducible exact H | (rw [hy156]; exact H) | exact H
     have Ny156 := Aside0.mk hy156
     clear hy156
     have H' := Aside0.mk H
     clear H
     obtain ⟨Ao15, co15, eo15⟩ := Kd.R_slice HO154.out
     subst eo15
     have p155 : 0 ≤ (0 : Int) := (by omega)
     have q155 : 0 < (y152.length : Int) := of_decide_eq_true (by assumption)
     obtain ⟨ad155, e155, hx155_0⟩ := Kd.at_int (Kd.R_reads' HO154.out).2.2 0 p155 q155
     cases e155
     have qi155 : (0 < y152.length) = True := eq_true (by omega)
     (try rw [show ((0 : Int)).toNat = 0 from rfl] at hx155_0)
     (try rw [Addr.add_zero'] at hx155_0)
     replace p155 := eq_true p155
     replace q155 := eq_true q155
     have p14 : 0 ≤ (0 : Int) := (by omega)
     have q14 : (0 : Int) < ((y152.length : Int) : Int) := of_decide_eq_true (by assumption)
     have qi14 : (0 < y152.length) = True := eq_true (by omega)
     obtain ⟨go14, co14, eo14, gb14, gl14, cl14, HG14⟩ := Kd.R_form HO154.out (by omega)
     (first | cases eo14 | (injection eo14 with ea_ en_ ec_; (first | subst ea_ | (injection ea_ with ea_; subst ea_)); subst ec_; clear en_))
     have GB14 := Aside0.mk gb14
     have GG14 := Aside0.mk HG14
     clear gb14 gl14 HG14
     (first | simp only [add_plain] at hx155_0 | skip)
     obtain ⟨hx14_0, hf14_0⟩ := Kd.R_celln 0 HO154.out (0 : Int) p14 q14
     (try rw [show ((0 : Int)).toNat = 0 from rfl] at hx14_0)
     (try simp only [Nat.reduceMul, Nat.zero_mul, Nat.zero_add, Nat.reduceAdd] at hx14_0)
     (try rw [show ((0 : Int)).toNat = 0 from rfl] at hf14_0)
     (try simp only [Nat.reduceMul, Nat.zero_mul, Nat.zero_add, Nat.reduceAdd] at hf14_0)
     replace p14 := eq_true p14
     replace q14 := eq_true q14
     have HP16 := Kd.R_putg HO154.out (0 : Int) (Go.bits .or .u8 (rd y152 0) 128)
     go_wp2_with (first | ((with_reducible refine gate_store (t := 5) (p := 17) rfl ?_); refine store_event (t := 5) (p := 17) (v := ?vo_w17) (w1 := (w9.setCell ⟨go14, (0 : Int).toNat, none⟩ (.int .u8 (Go.bits .or .u8 (rd y152 0) 128)))) ?hg ?ho ?hn ?hr ?_; (case ho => rfl); (case hg => rfl); (case hn => rfl); (case hr => first | (go_simp; done) | (go_simp; rfl)); intro w17 hw; have hg : w9.grownBy w17 (some go14) := (by rw [hw]; exact HP16.2); have hp_ : Kd.R (Kd.int .u8) 5 w17 w.heap.size (fun _ => True) (.slice (some ⟨go14, 0, none⟩) y152.length co15) y156 := (by rw [hw, Ny156.out]; exact HP16.1); clear HP16; have n0_ := Aside0.mk (blk_grown (g := gb150) (o := .cells #[.bool true, .int .u8 a0_1, .bool a0_2, .int .u32 a0_3, .slice A0_4 l0_4.length c0_4] 52 (0, 0)) (by exact q9_ BK150.out) hg (Kd.R_ne HO154.out BK150.out (by decide))); have n1_ := Aside0.mk (hp_); have n2_ := Aside0.mk ((by rw [hw]; exact below_set (HB.out) GB14.out : Below w.heap.size w w17)); clear BK150; clear HO154; clear HB; have BK150 := n0_; have HO154 := n1_; have HB := n2_; clear n0_ n1_ n2_; clear hg hw hp_))
     go_meet
     case rel => exact ⟨_, (y156), H', ⟨by first | omega | exact Nat.le_refl _⟩, ⟨by (with_reducible repeat (first | apply Kd.R_alloc | apply Kd.R_drewN | apply Kd.R_drew)); exact HO154.out⟩, ⟨by (with_reducible repeat (first | refine blk_drewN ?_ _ | refine blk_drew ?_ | refine blk_alloc ?_ _)); exact BK150.out⟩, ⟨by exact q3_ HB.out GE150.out⟩⟩
    ·rw [if_neg c13] at H
     exact absurd H (by simp)
   ·replace c12 := Bool.eq_false_iff.mpr c12
    subst c12
    have H1 : (wsframe_Put.j0 k y152 false a0_1 a0_2 a0_3 l0_4) = some r := by rw [if_neg (show ¬ (false = true) by decide)] at H; exact H
    clear H
    have H := H1
    clear H1
    have H' := Aside0.mk H
    clear H
    go_wp2
    go_meet
    case rel => exact ⟨_, (y152), H', ⟨by first | omega | exact Nat.le_refl _⟩, ⟨by (with_reducible repeat (first | apply Kd.R_alloc | apply Kd.R_drewN | apply Kd.R_drew)); exact HO154.out⟩, ⟨by (with_reducible repeat (first | refine blk_drewN ?_ _ | refine blk_drew ?_ | refine blk_alloc ?_ _)); exact BK150.out⟩, ⟨by exact q3_ HB.out GE150.out⟩⟩
  case rest =>
   clear HC4
   try clear c1
   try clear p1
   try clear q1
   try clear hx1
   try clear qi1
   try clear hf1
   try clear c2
   try clear p2
   try clear c3
   try clear c12
   try clear c13
   try clear c13b0
   try clear c13b1
   try clear p14
   try clear q14
   try clear hx14
   try clear qi14
   try clear hf14
   try clear p15
   try clear q15
   try clear hx15
   try clear qi15
   try clear c16
   try clear hcz11_0
   try clear hcz11_1
   try clear hcz11_2
   try clear hcz11_3
   try clear hcz11_4
   try clear hcz6_0
   try clear hcz6_1
   try clear hcz6_2
   try clear hcz6_3
   try clear hcz6_4
   try clear hcz8_0
   try clear hcz8_1
   try clear hcz8_2
   try clear hcz8_3
   try clear hcz8_4
   try clear hfz11_0
   try clear hfz11_1
   try clear hfz11_2
   try clear hfz11_3
   try clear hfz11_4
   try clear hfz6_0
   try clear hfz6_1
   try clear hfz6_2
   try clear hfz6_3
   try clear hfz6_4
   try clear hfz8_0
   try clear hfz8_1
   try clear hfz8_2
   try clear hfz8_3
   try clear hfz8_4
   try clear hx14_0
   try clear hx155_0
   try clear p14
   try clear p155
   try clear q14
   try clear q155
   obtain ⟨kq, x3_3, HA, HJ3, HO_3, BK150, HB⟩ := hcut
   cases kq with
   | zero => exact absurd HA.out (by simp [wsframe_Put.j0])
   | succ kj3 =>
    have H := HA.out
    clear HA
    simp only [wsframe_Put.j0] at H
    have HC18 := Aside0.mk H
    clear H
    have hcz19_0 : wc.cell? ⟨gb150, 0, none⟩ = some (.bool a0_0) := (blk_cell BK150.out 0).trans rfl
    have hcz19_1 : wc.cell? ⟨gb150, 1, none⟩ = some (.int .u8 a0_1) := (blk_cell BK150.out 1).trans rfl
    have hcz19_2 : wc.cell? ⟨gb150, 2, none⟩ = some (.bool a0_2) := (blk_cell BK150.out 2).trans rfl
    have hcz19_3 : wc.cell? ⟨gb150, 3, none⟩ = some (.int .u32 a0_3) := (blk_cell BK150.out 3).trans rfl
    have hcz19_4 : wc.cell? ⟨gb150, 4, none⟩ = some (.slice A0_4 l0_4.length c0_4) := (blk_cell BK150.out 4).trans rfl
    have hfz19_0 := blk_frozen BK150.out 0
    have hfz19_1 := blk_frozen BK150.out 1
    have hfz19_2 := blk_frozen BK150.out 2
    have hfz19_3 := blk_frozen BK150.out 3
    have hfz19_4 := blk_frozen BK150.out 4
    go_upto_if 19 with (fail)
    go_cut [] (fun wc => ∃ (kq : Nat) (x3_17 : List Int), Aside0 (wsframe_Put.j1 kq x3_17 a0_0 a0_1 a0_2 a0_3 l0_4 = some r) ∧ Aside0 (kq ≤ kj3) ∧ Aside0 (Kd.R (Kd.int .u8) 5 wc w.heap.size (fun _ => True) v153 x3_17) ∧ Aside0 (wc.heap[gb150]? = some (.cells #[.bool a0_0, .int .u8 a0_1, .bool a0_2, .int .u32 a0_3, (.slice A0_4 l0_4.length c0_4)] 52 (0, 0))) ∧ Aside0 (Below w.heap.size w wc))
    case first =>
     have H := HC18.out
     clear HC18
     by_cases c20 : a0_2 = true
     ·subst c20
      have H1 : (if 1 < (x3_3.length : Int) then (wsframe_Put.j1 kj3 (x3_3.set (1 : Int).toNat (Go.bits .or .u8 (rd x3_3 1) 128)) a0_0 a0_1 true a0_3 l0_4) else (none)) = some r := by rw [if_pos rfl] at H; exact H
      clear H
      have H := H1
      clear H1
      by_cases c21 : 1 < (x3_3.length : Int)
      ·rw [if_pos c21] at H
       have c21b0 : decide (1 < (x3_3.length : Int)) = true := decide_eq_true c21
       have c21b1 : decide (1 < x3_3.length) = true := decide_eq_true (by omega)
       clear c21
       (first | rw [c21b0] | (simp only [i64_w, i32_w]; rw [c21b0]) | skip)
       obtain ⟨y158, hy158⟩ : ∃ y_ : List Int, y_ = (x3_3.set (1 : Int).toNat (Go.bits .or .u8 (rd x3_3 1) 128)) := ⟨_, rfl⟩
       replace H : (wsframe_Put.j1 kj3 y158 a0_0 a0_1 true a0_3 l0_4) = some r := by first | (rw [hy158]; with_reducible exact H) | (have H2_ := (Option.bind_some _ _).symm.trans H; rw [hy158]; with_reducible exact H2_) | (have H2_ := (Option.bind_some _ _).symm.trans H; with_reducible exact H2_) | with_reducible exact H | (rw [hy158]; exact H) | exact H
       have Ny158 := Aside0.mk hy158
       clear hy158
       have H' := Aside0.mk H
       clear H
       obtain ⟨Ao23, co23, eo23⟩ := Kd.R_slice HO_3.out
       subst eo23
       have p157 : 0 ≤ (1 : Int) := (by omega)
       have q157 : 1 < (x3_3.length : Int) := of_decide_eq_true (by assumption)
       obtain ⟨ad157, e157, hx157_0⟩ := Kd.at_int (Kd.R_reads' HO_3.out).2.2 1 p157 q157
       cases e157
       (try simp only [show (1 : Int).toNat = 1 from rfl, Nat.reduceMul, Nat.reduceEqDiff, Go.Addr.add, ↓reduceIte] at hx157_0)
       have qi157 : (1 < x3_3.length) = True := eq_true (by omega)
       (try rw [show ((1 : Int)).toNat = 1 from rfl] at hx157_0)
       replace p157 := eq_true p157
       replace q157 := eq_true q157
       have p22 : 0 ≤ (1 : Int) := (by omega)
       have q22 : (1 : Int) < ((x3_3.length : Int) : Int) := of_decide_eq_true (by assumption)
       have qi22 : (1 < x3_3.length) = True := eq_true (by omega)
       obtain ⟨go22, co22, eo22, gb22, gl22, cl22, HG22⟩ := Kd.R_form HO_3.out (by omega)
       (first | cases eo22 | (injection eo22 with ea_ en_ ec_; (first | subst ea_ | (injection ea_ with ea_; subst ea_)); subst ec_; clear en_))
       have GB22 := Aside0.mk gb22
       have GG22 := Aside0.mk HG22
       clear gb22 gl22 HG22
       (first | simp only [add_plain] at hx157_0 | skip)
       obtain ⟨hx22_0, hf22_0⟩ := Kd.R_celln 0 HO_3.out (1 : Int) p22 q22
       (try rw [show ((1 : Int)).toNat = 1 from rfl] at hx22_0)
       (try simp only [Nat.reduceMul, Nat.zero_mul, Nat.zero_add, Nat.reduceAdd] at hx22_0)
       (try rw [show ((1 : Int)).toNat = 1 from rfl] at hf22_0)
       (try simp only [Nat.reduceMul, Nat.zero_mul, Nat.zero_add, Nat.reduceAdd] at hf22_0)
       replace p22 := eq_true p22
       replace q22 := eq_true q22
       have HP24 := Kd.R_putg HO_3.out (1 : Int) (Go.bits .or .u8 (rd x3_3 1) 128)
       go_wp2_with (first | ((with_reducible refine gate_store (t := 5) (p := 24) rfl ?_); refine store_event (t := 5) (p := 24) (v := ?vo_w25) (w1 := (wc.setCell ⟨go22, (1 : Int).toNat, none⟩ (.int .u8 (Go.bits .or .u8 (rd x3_3 1) 128)))) ?hg ?ho ?hn ?hr ?_; (case ho => rfl); (case hg => rfl); (case hn => rfl); (case hr => first | (go_simp; done) | (go_simp; rfl)); intro w25 hw; have hg : wc.grownBy w25 (some go22) := (by rw [hw]; exact HP24.2); have hp_ : Kd.R (Kd.int .u8) 5 w25 w.heap.size (fun _ => True) (.slice (some ⟨go22, 0, none⟩) x3_3.length co23) y158 := (by rw [hw, Ny158.out]; exact HP24.1); clear HP24; have n0_ := Aside0.mk (hp_); have n1_ := Aside0.mk (blk_grown (g := gb150) (o := .cells #[.bool a0_0, .int .u8 a0_1, .bool true, .int .u32 a0_3, .slice A0_4 l0_4.length c0_4] 52 (0, 0)) (by exact q9_ BK150.out) hg (Kd.R_ne HO_3.out BK150.out (by decide))); have n2_ := Aside0.mk ((by rw [hw]; exact below_set (HB.out) GB22.out : Below w.heap.size w w25)); clear HO_3; clear BK150; clear HB; have HO_3 := n0_; have BK150 := n1_; have HB := n2_; clear n0_ n1_ n2_; clear hg hw hp_))
       go_meet
       case rel => exact ⟨_, (y158), H', ⟨by have := HJ3.out; first | omega | exact Nat.le_refl _⟩, ⟨by (with_reducible repeat (first | apply Kd.R_alloc | apply Kd.R_drewN | apply Kd.R_drew)); exact HO_3.out⟩, ⟨by (with_reducible repeat (first | refine blk_drewN ?_ _ | refine blk_drew ?_ | refine blk_alloc ?_ _)); exact BK150.out⟩, ⟨by exact q3_ HB.out GE150.out⟩⟩
      ·rw [if_neg c21] at H
       exact absurd H (by simp)
     ·replace c20 := Bool.eq_false_iff.mpr c20
      subst c20
      have H1 : (wsframe_Put.j1 kj3 x3_3 a0_0 a0_1 false a0_3 l0_4) = some r := by rw [if_neg (show ¬ (false = true) by decide)] at H; exact H
      clear H
      have H := H1
      clear H1
      have H' := Aside0.mk H
      clear H
      go_wp2
      go_meet
      case rel => exact ⟨_, (x3_3), H', ⟨by have := HJ3.out; first | omega | exact Nat.le_refl _⟩, ⟨by (with_reducible repeat (first | apply Kd.R_alloc | apply Kd.R_drewN | apply Kd.R_drew)); exact HO_3.out⟩, ⟨by (with_reducible repeat (first | refine blk_drewN ?_ _ | refine blk_drew ?_ | refine blk_alloc ?_ _)); exact BK150.out⟩, ⟨by exact q3_ HB.out GE150.out⟩⟩
    case rest =>
     clear HC18
     try clear c1
     try clear p1
     try clear q1
     try clear hx1
     try clear qi1
     try clear hf1
     try clear c2
     try clear p2
     try clear q2
     try clear hx2
     try clear qi2
     try clear hf2
     try clear c3
     try clear c12
     try clear c13
     try clear c13b0
     try clear c13b1
     try clear p14
     try clear q14
     try clear hx14
     try clear qi14
     try clear hf14
     try clear p15
     try clear q15
     try clear hx15
     try clear qi15
     try clear c16
     try clear c20
     try clear c21
     try clear c21b0
     try clear c21b1
     try clear p22
     try clear q22
     try clear hx22
     try clear qi22
     try clear hf22
     try clear hcz11_0
     try clear hcz11_1
     try clear hcz11_2
     try clear hcz11_3
     try clear hcz11_4
     try clear hcz19_0
     try clear hcz19_1
     try clear hcz19_2
     try clear hcz19_3
     try clear hcz19_4
     try clear hcz6_0
     try clear hcz6_1
     try clear hcz6_2
     try clear hcz6_3
     try clear hcz6_4
     try clear hcz8_0
     try clear hcz8_1
     try clear hcz8_2
     try clear hcz8_3
     try clear hcz8_4
     try clear hfz11_0
     try clear hfz11_1
     try clear hfz11_2
     try clear hfz11_3
     try clear hfz11_4
     try clear hfz19_0
     try clear hfz19_1
     try clear hfz19_2
     try clear hfz19_3
     try clear hfz19_4
     try clear hfz6_0
     try clear hfz6_1
     try clear hfz6_2
     try clear hfz6_3
     try clear hfz6_4
     try clear hfz8_0
     try clear hfz8_1
     try clear hfz8_2
     try clear hfz8_3
     try clear hfz8_4
     try clear hx14_0
     try clear hx155_0
     try clear hx157_0
     try clear hx22_0
     try clear p1
     try clear p14
     try clear p15
     try clear p155
     try clear p157
     try clear p2
     try clear p22
     try clear q1
     try clear q14
     try clear q15
     try clear q155
     try clear q157
     try clear q22
     obtain ⟨kq, x3_17, HA, HJ17, HO_3, BK150, HB⟩ := hcut
     cases kq with
     | zero => exact absurd HA.out (by unfold wsframe_Put.j1; simp)
     | succ kj17 =>
      have H := HA.out
      clear HA
      unfold wsframe_Put.j1 at H; dsimp only at H
      have HC26 := Aside0.mk H
      clear H
      have hcz27_0 : wc.cell? ⟨gb150, 0, none⟩ = some (.bool a0_0) := (blk_cell BK150.out 0).trans rfl
      have hcz27_1 : wc.cell? ⟨gb150, 1, none⟩ = some (.int .u8 a0_1) := (blk_cell BK150.out 1).trans rfl
      have hcz27_2 : wc.cell? ⟨gb150, 2, none⟩ = some (.bool a0_2) := (blk_cell BK150.out 2).trans rfl
      have hcz27_3 : wc.cell? ⟨gb150, 3, none⟩ = some (.int .u32 a0_3) := (blk_cell BK150.out 3).trans rfl
      have hcz27_4 : wc.cell? ⟨gb150, 4, none⟩ = some (.slice A0_4 l0_4.length c0_4) := (blk_cell BK150.out 4).trans rfl
      have hfz27_0 := blk_frozen BK150.out 0
      have hfz27_1 := blk_frozen BK150.out 1
      have hfz27_2 := blk_frozen BK150.out 2
      have hfz27_3 := blk_frozen BK150.out 3
      have hfz27_4 := blk_frozen BK150.out 4
      go_upto_if 29 with (fail)
      go_cut [3] (fun v3 wc => ∃ (kq : Nat) (x3_25 : List Int), Aside0 (wsframe_Put.j2 kq x3_25 a0_0 a0_1 a0_2 a0_3 l0_4 = some r) ∧ Aside0 (kq ≤ kj17) ∧ Aside0 (Kd.R (Kd.int .u8) 5 wc w.heap.size (fun _ => True) v3 x3_25) ∧ Aside0 (wc.heap[gb150]? = some (.cells #[.bool a0_0, .int .u8 a0_1, .bool a0_2, .int .u32 a0_3, (.slice A0_4 l0_4.length c0_4)] 52 (0, 0))) ∧ Aside0 (Below w.heap.size w wc))
      case first =>
       have H := HC26.out
       clear HC26
       by_cases c28 : (l0_4.length : Int) < 126
       ·rw [if_pos c28] at H
        have c28b0 : decide ((l0_4.length : Int) < 126) = true := decide_eq_true c28
        have c28b1 : decide (l0_4.length < 126) = true := decide_eq_true (by omega)
        clear c28
        (first | rw [c28b0] | (simp only [i64_w, i32_w]; rw [c28b0]) | skip)
        by_cases c29 : 1 < (x3_17.length : Int)
        ·rw [if_pos c29] at H
         have c29b0 : decide (1 < (x3_17.length : Int)) = true := decide_eq_true c29
         have c29b1 : decide (1 < x3_17.length) = true := decide_eq_true (by omega)
         clear c29
         obtain ⟨y160, hy160⟩ : ∃ y_ : List Int, y_ = (x3_17.set (1 : Int).toNat (Go.bits .or .u8 (rd x3_17 1) (((l0_4.length : Int)) % 256))) := ⟨_, rfl⟩
         replace H : (wsframe_Put.j2 kj17 y160 a0_0 a0_1 a0_2 a0_3 l0_4) = some r := by first | (rw [hy160]; with_reducible exact H) | (have H2_ := (Option.bind_some _ _).symm.trans H; rw [hy160]; with_reducible exact H2_) | (have H2_ := (Option.bind_some _ _).symm.trans H; with_reducible exact H2_) | with_reducible exact H | (rw [hy160]; exact H) | exact H
         have Ny160 := Aside0.mk hy160
         clear hy160
         have H' := Aside0.mk H
         clear H
         obtain ⟨Ao31, co31, eo31⟩ := Kd.R_slice HO_3.out
         subst eo31
         have p159 : 0 ≤ (1 : Int) := (by omega)
         have q159 : 1 < (x3_17.length : Int) := of_decide_eq_true (by assumption)
         obtain ⟨ad159, e159, hx159_0⟩ := Kd.at_int (Kd.R_reads' HO_3.out).2.2 1 p159 q159
         cases e159
         (try simp only [show (1 : Int).toNat = 1 from rfl, Nat.reduceMul, Nat.reduceEqDiff, Go.Addr.add, ↓reduceIte] at hx159_0)
         have qi159 : (1 < x3_17.length) = True := eq_true (by omega)
         (try rw [show ((1 : Int)).toNat = 1 from rfl] at hx159_0)
         replace p159 := eq_true p159
         replace q159 := eq_true q159
         have p30 : 0 ≤ (1 : Int) := (by omega)
         have q30 : (1 : Int) < ((x3_17.length : Int) : Int) := of_decide_eq_true (by assumption)
         have qi30 : (1 < x3_17.length) = True := eq_true (by omega)
         obtain ⟨go30, co30, eo30, gb30, gl30, cl30, HG30⟩ := Kd.R_form HO_3.out (by omega)
         (first | cases eo30 | (injection eo30 with ea_ en_ ec_; (first | subst ea_ | (injection ea_ with ea_; subst ea_)); subst ec_; clear en_))
         have GB30 := Aside0.mk gb30
         have GG30 := Aside0.mk HG30
         clear gb30 gl30 HG30
         (first | simp only [add_plain] at hx159_0 | skip)
         obtain ⟨hx30_0, hf30_0⟩ := Kd.R_celln 0 HO_3.out (1 : Int) p30 q30
         (try rw [show ((1 : Int)).toNat = 1 from rfl] at hx30_0)
         (try simp only [Nat.reduceMul, Nat.zero_mul, Nat.zero_add, Nat.reduceAdd] at hx30_0)
         (try rw [show ((1 : Int)).toNat = 1 from rfl] at hf30_0)
         (try simp only [Nat.reduceMul, Nat.zero_mul, Nat.zero_add, Nat.reduceAdd] at hf30_0)
         replace p30 := eq_true p30
         replace q30 := eq_true q30
         have HP32 := Kd.R_putg HO_3.out (1 : Int) (Go.bits .or .u8 (rd x3_17 1) (((l0_4.length : Int)) % 256))
         go_wp2_with (first | ((with_reducible refine gate_store (t := 5) (p := 36) rfl ?_); refine store_event (t := 5) (p := 36) (v := ?vo_w33) (w1 := (wc.setCell ⟨go30, (1 : Int).toNat, none⟩ (.int .u8 (Go.bits .or .u8 (rd x3_17 1) (((l0_4.length : Int)) % 256))))) ?hg ?ho ?hn ?hr ?_; (case ho => rfl); (case hg => rfl); (case hn => rfl); (case hr => first | (go_simp; done) | (go_simp; rfl)); intro w33 hw; have hg : wc.grownBy w33 (some go30) := (by rw [hw]; exact HP32.2); have hp_ : Kd.R (Kd.int .u8) 5 w33 w.heap.size (fun _ => True) (.slice (some ⟨go30, 0, none⟩) x3_17.length co31) y160 := (by rw [hw, Ny160.out]; exact HP32.1); clear HP32; have n0_ := Aside0.mk (hp_); have n1_ := Aside0.mk (blk_grown (g := gb150) (o := .cells #[.bool a0_0, .int .u8 a0_1, .bool a0_2, .int .u32 a0_3, .slice A0_4 l0_4.length c0_4] 52 (0, 0)) (by exact q9_ BK150.out) hg (Kd.R_ne HO_3.out BK150.out (by decide))); have n2_ := Aside0.mk ((by rw [hw]; exact below_set (HB.out) GB30.out : Below w.heap.size w w33)); clear HO_3; clear BK150; clear HB; have HO_3 := n0_; have BK150 := n1_; have HB := n2_; clear n0_ n1_ n2_; clear hg hw hp_))
         go_meet
         case rel => exact ⟨_, (y160), H', ⟨by have := HJ3.out; have := HJ17.out; first | omega | exact Nat.le_refl _⟩, ⟨by (with_reducible repeat (first | apply Kd.R_alloc | apply Kd.R_drewN | apply Kd.R_drew)); exact HO_3.out⟩, ⟨by (with_reducible repeat (first | refine blk_drewN ?_ _ | refine blk_drew ?_ | refine blk_alloc ?_ _)); exact BK150.out⟩, ⟨by exact q3_ HB.out GE150.out⟩⟩
        ·rw [if_neg c29] at H
         exact absurd H (by simp)
       ·rw [if_neg c28] at H
        have c28b0 : decide ((l0_4.length : Int) < 126) = false := decide_eq_false c28
        have c28b1 : decide (l0_4.length < 126) = false := decide_eq_false (by omega)
        clear c28
        (first | rw [c28b0] | (simp only [i64_w, i32_w]; rw [c28b0]) | skip)
        by_cases c34 : 1 < (x3_17.length : Int)
        ·rw [if_pos c34] at H
         have c34b0 : decide (1 < (x3_17.length : Int)) = true := decide_eq_true c34
         have c34b1 : decide (1 < x3_17.length) = true := decide_eq_true (by omega)
         clear c34
         obtain ⟨y162, hy162⟩ : ∃ y_ : List Int, y_ = (x3_17.set (1 : Int).toNat (Go.bits .or .u8 (rd x3_17 1) 126)) := ⟨_, rfl⟩
         replace H : ((some (([((l0_4.length : Int) / 256) % 256, ((l0_4.length : Int)) % 256] : List Int) : List Int)).bind fun y163 => (if y162.length + y163.length < 140737488355328 then (wsframe_Put.j2 kj17 (y162 ++ y163) a0_0 a0_1 a0_2 a0_3 l0_4) else (none))) = some r := by first | (rw [hy162]; with_reducible exact H) | (have H2_ := (Option.bind_some _ _).symm.trans H; rw [hy162]; with_reducible exact H2_) | (have H2_ := (Option.bind_some _ _).symm.trans H; with_reducible exact H2_) | with_reducible exact H | (rw [hy162]; exact H) | exact H
         have Ny162 := Aside0.mk hy162
         clear hy162
         obtain ⟨y163, hy163⟩ : ∃ y_ : List Int, y_ = (([((l0_4.length : Int) / 256) % 256, ((l0_4.length : Int)) % 256] : List Int)) := ⟨_, rfl⟩
         replace H : (if y162.length + y163.length < 140737488355328 then (wsframe_Put.j2 kj17 (y162 ++ y163) a0_0 a0_1 a0_2 a0_3 l0_4) else (none)) = some r := by first | (rw [hy163]; with_reducible exact H) | (have H2_ := (Option.bind_some _ _).symm.trans H; rw [hy163]; with_reducible exact H2_) | (have H2_ := (Option.bind_some _ _).symm.trans H; with_reducible exact H2_) | with_reducible exact H | (rw [hy163]; exact H) | exact H
         have Ny163 := Aside0.mk hy163
         clear hy163
         by_cases c36 : y162.length + y163.length < 140737488355328
         ·rw [if_pos c36] at H
          have LMc36 := Aside0.mk c36
          clear c36
          obtain ⟨y166, hy166⟩ : ∃ y_ : List Int, y_ = (y162 ++ y163) := ⟨_, rfl⟩
          replace H : (wsframe_Put.j2 kj17 y166 a0_0 a0_1 a0_2 a0_3 l0_4) = some r := by first | (rw [hy166]; with_reducible exact H) | (have H2_ := (Option.bind_some _ _).symm.trans H; rw [hy166]; with_reducible exact H2_) | (have H2_ := (Option.bind_some _ _).symm.trans H; with_reducible exact H2_) | with_reducible exact H | (rw [hy166]; exact H) | exact H
          have Ny166 := Aside0.mk hy166
          clear hy166
          have H' := Aside0.mk H
          clear H
          obtain ⟨Ao37, co37, eo37⟩ := Kd.R_slice HO_3.out
          subst eo37
          have p161 : 0 ≤ (1 : Int) := (by omega)
          have q161 : 1 < (x3_17.length : Int) := of_decide_eq_true (by assumption)
          obtain ⟨ad161, e161, hx161_0⟩ := Kd.at_int (Kd.R_reads' HO_3.out).2.2 1 p161 q161
          cases e161
          (try simp only [show (1 : Int).toNat = 1 from rfl, Nat.reduceMul, Nat.reduceEqDiff, Go.Addr.add, ↓reduceIte] at hx161_0)
          have qi161 : (1 < x3_17.length) = True := eq_true (by omega)
          (try rw [show ((1 : Int)).toNat = 1 from rfl] at hx161_0)
          replace p161 := eq_true p161
          replace q161 := eq_true q161
          have p35 : 0 ≤ (1 : Int) := (by omega)
          have q35 : (1 : Int) < ((x3_17.length : Int) : Int) := of_decide_eq_true (by assumption)
          have qi35 : (1 < x3_17.length) = True := eq_true (by omega)
          obtain ⟨go35, co35, eo35, gb35, gl35, cl35, HG35⟩ := Kd.R_form HO_3.out (by omega)
          (first | cases eo35 | (injection eo35 with ea_ en_ ec_; (first | subst ea_ | (injection ea_ with ea_; subst ea_)); subst ec_; clear en_))
          have GB35 := Aside0.mk gb35
          have GG35 := Aside0.mk HG35
          clear gb35 gl35 HG35
          (first | simp only [add_plain] at hx161_0 | skip)
          obtain ⟨hx35_0, hf35_0⟩ := Kd.R_celln 0 HO_3.out (1 : Int) p35 q35
          (try rw [show ((1 : Int)).toNat = 1 from rfl] at hx35_0)
          (try simp only [Nat.reduceMul, Nat.zero_mul, Nat.zero_add, Nat.reduceAdd] at hx35_0)
          (try rw [show ((1 : Int)).toNat = 1 from rfl] at hf35_0)
          (try simp only [Nat.reduceMul, Nat.zero_mul, Nat.zero_add, Nat.reduceAdd] at hf35_0)
          replace p35 := eq_true p35
          replace q35 := eq_true q35
          have HP38 := Kd.R_putg HO_3.out (1 : Int) (Go.bits .or .u8 (rd x3_17 1) 126)
          go_wp2_with (first | ((with_reducible refine gate_store (t := 5) (p := 41) rfl ?_); refine store_event (t := 5) (p := 41) (v := ?vo_w39) (w1 := (wc.setCell ⟨go35, (1 : Int).toNat, none⟩ (.int .u8 (Go.bits .or .u8 (rd x3_17 1) 126)))) ?hg ?ho ?hn ?hr ?_; (case ho => rfl); (case hg => rfl); (case hn => rfl); (case hr => first | (go_simp; done) | (go_simp; rfl)); intro w39 hw; have hg : wc.grownBy w39 (some go35) := (by rw [hw]; exact HP38.2); have hp_ : Kd.R (Kd.int .u8) 5 w39 w.heap.size (fun _ => True) (.slice (some ⟨go35, 0, none⟩) x3_17.length co37) y162 := (by rw [hw, Ny162.out]; exact HP38.1); clear HP38; have n0_ := Aside0.mk (hp_); have n1_ := Aside0.mk (blk_grown (g := gb150) (o := .cells #[.bool a0_0, .int .u8 a0_1, .bool a0_2, .int .u32 a0_3, .slice A0_4 l0_4.length c0_4] 52 (0, 0)) (by exact q9_ BK150.out) hg (Kd.R_ne HO_3.out BK150.out (by decide))); have n2_ := Aside0.mk ((by rw [hw]; exact below_set (HB.out) GB35.out : Below w.heap.size w w39)); clear HO_3; clear BK150; clear HB; have HO_3 := n0_; have BK150 := n1_; have HB := n2_; clear n0_ n1_ n2_; clear hg hw hp_) | ((with_reducible refine gate_dst (N := 48) rfl ?_); refine Kd.R_lit (Kd.int .u8) _ 5 ?hg (N := 48) ?hd (xs := ([((l0_4.length : Int) / 256) % 256, ((l0_4.length : Int)) % 256] : List Int)) (inner := [.int .u8 (((l0_4.length : Int) / 256) % 256), .int .u8 (((l0_4.length : Int)) % 256)]) (ok := fun _ => True) (okp := fun _ => True) ?hr ?hp (fun _ hk => hk) trivial (Below.refl _ _) (Nat.le_refl _) (by simp) ?_; (case hd => rfl); (case hg => rfl); (case hr => first | (go_simp; done) | (go_simp; rfl)); (case hp => exact (Reps.one (show Kd.M (Kd.int .u8) _ _ _ (((l0_4.length : Int) / 256) % 256) [.int .u8 (((l0_4.length : Int) / 256) % 256)] from rfl) (Reps.one (show Kd.M (Kd.int .u8) _ _ _ (((l0_4.length : Int)) % 256) [.int .u8 (((l0_4.length : Int)) % 256)] from rfl) (Reps.none _ _)))); intro v164 w40 ho41 hb hg_ hnew_; clear hg_ hnew_; (first | rw [← Ny163.out] at ho41 | (simp only [Int.reduceToNat] at ho41; rw [← Ny163.out] at ho41)); have n0_ := Aside0.mk (Kd.R_elder' (by exact q10_ HO_3.out) (Kd.R_base ho41) hb); have n1_ := Aside0.mk (Kd.R_lower (Kd.R_new' ho41 (Kd.R_lt (by exact q10_ HO_3.out))) (below_size (by exact q3_ HB.out GE150.out))); have n2_ := Aside0.mk (blk_below (g := gb150) (o := .cells #[.bool a0_0, .int .u8 a0_1, .bool a0_2, .int .u32 a0_3, .slice A0_4 l0_4.length c0_4] 52 (0, 0)) (by exact q9_ BK150.out) hb); have n3_ := Aside0.mk (below_step (by exact q3_ HB.out GE150.out) hb); clear HO_3; clear BK150; clear HB; have HO_3 := n0_; have HO165 := n1_; have BK150 := n2_; have HB := n3_; clear n0_ n1_ n2_ n3_; clear hb ho41; obtain ⟨Ao43, co43, eo43⟩ := Kd.R_slice HO165.out; subst eo43) | ((with_reducible refine gate_builtin (b := .append) (xs := #[.tmp 42, .tmp 48]) rfl ?_); at_builtin; refine Kd.R_append_rows (Kd.int .u8) (w0 := w) w.heap.size rfl (.tmp 42) (.tmp 48) 26 5 (.int .u8 0) 1 rfl Tryd.underlying26 info5 rfl (by decide) (by omega) (.slice (some ⟨go35, 0, none⟩) x3_17.length co37) y162 y163 _ _ _ (fun k_ => some k_ ≠ (.slice Ao43 y163.length co43 : Value).ownBlock) (fun _ => False) rfl rfl ?aO ?aR (fun _ _ h => h) (fun _ h => h.elim) ?aF ?aB ?aS ?aL ?_; (case aR => repeat (first | exact (Kd.R_reads' HO165.out).2.2 | (with_reducible refine Kd.C_alloc ?_ _) | (with_reducible refine Kd.C_drewN ?_ _) | (with_reducible refine Kd.C_drew ?_))); (case aB => exact (by exact q3_ HB.out GE150.out)); (case aF => exact (fun k_ hk => Kd.fresh' (Kd.R_lt (by exact q10_ HO165.out)) k_ hk)); (case aO => exact (by (with_reducible repeat (first | apply Kd.R_alloc | apply Kd.R_drewN | apply Kd.R_drew)); exact Kd.R_mono HO_3.out (fun _ hk => hk.2))); (case aS => exact (below_size (by exact q3_ HB.out GE150.out))); (case aL => have := LMc36.out; omega); intro v167 w42 ho hb hg hat; rw [← Ny166.out] at ho; have n0_ := Aside0.mk (blk_grown (g := gb150) (o := .cells #[.bool a0_0, .int .u8 a0_1, .bool a0_2, .int .u32 a0_3, .slice A0_4 l0_4.length c0_4] 52 (0, 0)) (by exact q9_ BK150.out) hg (Kd.R_ne HO_3.out BK150.out (by decide))); have n1_ := Aside0.mk (Kd.R_after (ok := (fun _ => True)) (by exact q10_ HO165.out) hg hat); have n2_ := Aside0.mk (hb); have n3_ := Aside0.mk (ho); clear BK150; clear HO165; clear HB; clear HO_3; have BK150 := n0_; have HO165 := n1_; have HB := n2_; have HO168 := n3_; clear n0_ n1_ n2_ n3_; clear ho hb hg hat))
          go_meet
          case rel => exact ⟨_, (y166), H', ⟨by have := HJ3.out; have := HJ17.out; first | omega | exact Nat.le_refl _⟩, ⟨by (with_reducible repeat (first | apply Kd.R_alloc | apply Kd.R_drewN | apply Kd.R_drew)); exact Kd.R_mono HO168.out (fun _ hk => trivial)⟩, ⟨by (with_reducible repeat (first | refine blk_drewN ?_ _ | refine blk_drew ?_ | refine blk_alloc ?_ _)); exact BK150.out⟩, ⟨by exact q3_ HB.out GE150.out⟩⟩
         ·rw [if_neg c36] at H
          exact absurd H (by simp)
        ·rw [if_neg c34] at H
         exact absurd H (by simp)
      case rest =>
       clear HC26
       try clear c1
       try clear p1
       try clear q1
       try clear hx1
       try clear qi1
       try clear hf1
       try clear c2
       try clear p2
       try clear q2
       try clear hx2
       try clear qi2
       try clear hf2
       try clear c3
       try clear p3
       try clear q3
       try clear hx3
       try clear qi3
       try clear hf3
       try clear c12
       try clear c13
       try clear c13b0
       try clear c13b1
       try clear p14
       try clear q14
       try clear hx14
       try clear qi14
       try clear hf14
       try clear p15
       try clear q15
       try clear hx15
       try clear qi15
       try clear c16
       try clear p16
       try clear q16
       try clear hx16
       try clear qi16
       try clear c20
       try clear c21
       try clear c21b0
       try clear c21b1
       try clear p22
       try clear q22
       try clear hx22
       try clear qi22
       try clear hf22
       try clear c28
       try clear c28b0
       try clear c28b1
       try clear c29
       try clear c29b0
       try clear c29b1
       try clear p30
       try clear q30
       try clear hx30
       try clear qi30
       try clear hf30
       try clear c34
       try clear c34b0
       try clear c34b1
       try clear p35
       try clear q35
       try clear hx35
       try clear qi35
       try clear hf35
       try clear c36
       try clear hcz11_0
       try clear hcz11_1
       try clear hcz11_2
       try clear hcz11_3
       try clear hcz11_4
       try clear hcz19_0
       try clear hcz19_1
       try clear hcz19_2
       try clear hcz19_3
       try clear hcz19_4
       try clear hcz27_0
       try clear hcz27_1
       try clear hcz27_2
       try clear hcz27_3
       try clear hcz27_4
       try clear hcz6_0
       try clear hcz6_1
       try clear hcz6_2
       try clear hcz6_3
       try clear hcz6_4
       try clear hcz8_0
       try clear hcz8_1
       try clear hcz8_2
       try clear hcz8_3
       try clear hcz8_4
       try clear hfz11_0
       try clear hfz11_1
       try clear hfz11_2
       try clear hfz11_3
       try clear hfz11_4
       try clear hfz19_0
       try clear hfz19_1
       try clear hfz19_2
       try clear hfz19_3
       try clear hfz19_4
       try clear hfz27_0
       try clear hfz27_1
       try clear hfz27_2
       try clear hfz27_3
       try clear hfz27_4
       try clear hfz6_0
       try clear hfz6_1
       try clear hfz6_2
       try clear hfz6_3
       try clear hfz6_4
       try clear hfz8_0
       try clear hfz8_1
       try clear hfz8_2
       try clear hfz8_3
       try clear hfz8_4
       try clear hx14_0
       try clear hx155_0
       try clear hx157_0
       try clear hx159_0
       try clear hx161_0
       try clear hx22_0
       try clear hx30_0
       try clear hx35_0
       try clear p1
       try clear p14
       try clear p15
       try clear p155
       try clear p157
       try clear p159
       try clear p161
       try clear p2
       try clear p22
       try clear p30
       try clear p35
       try clear q1
       try clear q14
       try clear q15
       try clear q155
       try clear q157
       try clear q159
       try clear q161
       try clear q2
       try clear q22
       try clear q30
       try clear q35
       obtain ⟨kq, x3_25, HA, HJ25, HO_3, BK150, HB⟩ := hcut
       cases kq with
       | zero => exact absurd HA.out (by simp [wsframe_Put.j2])
       | succ kj25 =>
        have H := HA.out
        clear HA
        simp only [wsframe_Put.j2] at H
        by_cases c44 : a0_2 = true
        ·subst c44
         have H1 : ((wsframe_key.f a0_3).bind fun t169 => (if x3_25.length + t169.length < 140737488355328 then ((some (x3_25 ++ t169 : List Int)).bind fun y172 => ((wsframe_Turn.f kj25 l0_4 a0_3).bind fun t175 => (if y172.length + t175.length < 140737488355328 then (some (y172 ++ t175)) else (none)))) else (none))) = some r := by rw [if_pos rfl] at H; exact H
         clear H
         have H := H1
         clear H1
         replace H := Option.bind_eq_some_iff.mp H
         obtain ⟨t169, A450, H⟩ := H
         replace H : (if x3_25.length + t169.length < 140737488355328 then ((some (x3_25 ++ t169 : List Int)).bind fun y172 => ((wsframe_Turn.f kj25 l0_4 a0_3).bind fun t175 => (if y172.length + t175.length < 140737488355328 then (some (y172 ++ t175)) else (none)))) else (none)) = some r := H
         have A45 := Aside0.mk A450
         clear A450
         by_cases c46 : x3_25.length + t169.length < 140737488355328
         ·rw [if_pos c46] at H
          have LMc46 := Aside0.mk c46
          clear c46
          obtain ⟨y172, hy172⟩ : ∃ y_ : List Int, y_ = (x3_25 ++ t169) := ⟨_, rfl⟩
          replace H : ((wsframe_Turn.f kj25 l0_4 a0_3).bind fun t175 => (if y172.length + t175.length < 140737488355328 then (some (y172 ++ t175)) else (none))) = some r := by first | (rw [hy172]; with_reducible exact H) | (have H2_ := (Option.bind_some _ _).symm.trans H; rw [hy172]; with_reducible exact H2_) | (have H2_ := (Option.bind_some _ _).symm.trans H; with_reducible exact H2_) | with_reducible exact H | (rw [hy172]; exact H) | exact H
          have Ny172 := Aside0.mk hy172
          clear hy172
          replace H := Option.bind_eq_some_iff.mp H
          obtain ⟨t175, A470, H⟩ := H
          replace H : (if y172.length + t175.length < 140737488355328 then (some (y172 ++ t175)) else (none)) = some r := H
          have A47 := Aside0.mk A470
          clear A470
          by_cases c48 : y172.length + t175.length < 140737488355328
          ·rw [if_pos c48] at H
           have LMc48 := Aside0.mk c48
           clear c48
           obtain ⟨y178, hy178⟩ : ∃ y_ : List Int, y_ = (y172 ++ t175) := ⟨_, rfl⟩
           replace H : (some y178) = some r := by first | (rw [hy178]; with_reducible exact H) | (have H2_ := (Option.bind_some _ _).symm.trans H; rw [hy178]; with_reducible exact H2_) | (have H2_ := (Option.bind_some _ _).symm.trans H; with_reducible exact H2_) | with_reducible exact H | (rw [hy178]; exact H) | exact H
           have Ny178 := Aside0.mk hy178
           clear hy178
           obtain rfl := Option.some.inj H
           have hcz49_0 : wc.cell? ⟨gb150, 0, none⟩ = some (.bool a0_0) := (blk_cell BK150.out 0).trans rfl
           have hcz49_1 : wc.cell? ⟨gb150, 1, none⟩ = some (.int .u8 a0_1) := (blk_cell BK150.out 1).trans rfl
           have hcz49_2 : wc.cell? ⟨gb150, 2, none⟩ = some (.bool true) := (blk_cell BK150.out 2).trans rfl
           have hcz49_3 : wc.cell? ⟨gb150, 3, none⟩ = some (.int .u32 a0_3) := (blk_cell BK150.out 3).trans rfl
           have hcz49_4 : wc.cell? ⟨gb150, 4, none⟩ = some (.slice A0_4 l0_4.length c0_4) := (blk_cell BK150.out 4).trans rfl
           have hfz49_0 := blk_frozen BK150.out 0
           have hfz49_1 := blk_frozen BK150.out 1
           have hfz49_2 := blk_frozen BK150.out 2
           have hfz49_3 := blk_frozen BK150.out 3
           have hfz49_4 := blk_frozen BK150.out 4
           try go_wp2
           have n0_ := Aside0.mk (Kd.R_drew HO_3.out)
           have n1_ := Aside0.mk (blk_drew BK150.out)
           have n2_ := Aside0.mk (below_drew1 HB.out)
           clear HO_3
           clear BK150
           clear HB
           have HO_3 := n0_
           have BK150 := n1_
           have HB := n2_
           clear n0_ n1_ n2_
           refine start_ (n := 12) (S := fun w' => w'.cell? ⟨gb150, 0, none⟩ = some (.bool a0_0) ∧ w'.cell? ⟨gb150, 1, none⟩ = some (.int .u8 a0_1) ∧ w'.cell? ⟨gb150, 2, none⟩ = some (.bool true) ∧ w'.cell? ⟨gb150, 3, none⟩ = some (.int .u32 a0_3) ∧ w'.cell? ⟨gb150, 4, none⟩ = some (.slice A0_4 l0_4.length c0_4)) (ds := []) #[false, false, false, false, false, false, false, false, false, false, false, false] (by kernel_rfl) rfl rfl ⟨(blk_cell BK150.out 0).trans rfl, (blk_cell BK150.out 1).trans rfl, (blk_cell BK150.out 2).trans rfl, (blk_cell BK150.out 3).trans rfl, (blk_cell BK150.out 4).trans rfl⟩ (fun hHeld => ?_); refine with_tabW wsframe_Put.tab15 wsframe_Put.bits15 (fun HT_ HW_ => ?_)
           generalize wc.drew = w50 at HO_3 BK150 HB hHeld ⊢
           refine pure_ (i := 0) (N := some 57) (v := ?_) (a' := ?_) #[true, false, false, false, false, false, false, false, false, false, false, false] rfl rfl (any_of HT_.out (by kernel_rfl)) (fun _ _ _ h => h) (Or.inl ⟨by rfl, ?_⟩) ?_ ?_
           rotate_left
           ·intro w'
            go_simp
            with_reducible rfl
           rotate_left
           ·simp only [Act.put, z1_, z2_, z3_, i64_w, i32_w]
            rfl
           refine pure_ (i := 1) (N := some 58) (v := ?_) (a' := ?_) #[true, true, false, false, false, false, false, false, false, false, false, false] rfl rfl (any_of HT_.out (by kernel_rfl)) (fun _ _ _ h => h) (Or.inl ⟨by rfl, ?_⟩) ?_ ?_
           rotate_left
           ·intro w'
            go_simp
            with_reducible rfl
           rotate_left
           ·simp only [Act.put, z1_, z2_, z3_, i64_w, i32_w]
            rfl
           refine pure_ (i := 5) (N := some 62) (v := ?_) (a' := ?_) #[true, true, false, false, false, true, false, false, false, false, false, false] rfl rfl (any_of HT_.out (by kernel_rfl)) (fun _ _ _ h => h) (Or.inl ⟨by rfl, ?_⟩) ?_ ?_
           rotate_left
           ·intro w'
            go_simp
            with_reducible rfl
           rotate_left
           ·simp only [Act.put, z1_, z2_, z3_, i64_w, i32_w]
            rfl
           refine pure_ (i := 7) (N := some 64) (v := ?_) (a' := ?_) #[true, true, false, false, false, true, false, true, false, false, false, false] rfl rfl (any_of HT_.out (by kernel_rfl)) (fun _ _ _ h => h) (Or.inl ⟨by rfl, ?_⟩) ?_ ?_
           rotate_left
           ·intro w'
            go_simp
            with_reducible rfl
           rotate_left
           ·simp only [Act.put, z1_, z2_, z3_, i64_w, i32_w]
            rfl
           refine take_ (i := 2) (N := some 59) (v := ?_) (a' := ?_) #[true, true, true, false, false, true, false, true, false, false, false, false] rfl rfl (take_ofW HT_.out HW_.out (by kernel_rfl)) (fun _ _ _ h => h) (Or.inl ⟨by rfl, ?_⟩) hHeld ?_ ?_
           rotate_left
           ·rintro w' ⟨s0, s1, s2, s3, s4⟩
            go_simp
            with_reducible rfl
           rotate_left
           ·simp only [Act.put, z1_, z2_, z3_, i64_w, i32_w]
            rfl
           refine take_ (i := 6) (N := some 63) (v := ?_) (a' := ?_) #[true, true, true, false, false, true, true, true, false, false, false, false] rfl rfl (take_ofW HT_.out HW_.out (by kernel_rfl)) (fun _ _ _ h => h) (Or.inl ⟨by rfl, ?_⟩) hHeld ?_ ?_
           rotate_left
           ·rintro w' ⟨s0, s1, s2, s3, s4⟩
            go_simp
            with_reducible rfl
           rotate_left
           ·simp only [Act.put, z1_, z2_, z3_, i64_w, i32_w]
            rfl
           refine take_ (i := 8) (N := some 65) (v := ?_) (a' := ?_) #[true, true, true, false, false, true, true, true, true, false, false, false] rfl rfl (take_ofW HT_.out HW_.out (by kernel_rfl)) (fun _ _ _ h => h) (Or.inl ⟨by rfl, ?_⟩) hHeld ?_ ?_
           rotate_left
           ·rintro w' ⟨s0, s1, s2, s3, s4⟩
            go_simp
            with_reducible rfl
           rotate_left
           ·simp only [Act.put, z1_, z2_, z3_, i64_w, i32_w]
            rfl
           refine one_ (i := 3) (N := some 60) #[true, true, true, true, false, true, true, true, true, false, false, false] rfl rfl (one_of HT_.out (by kernel_rfl)) (by decide) (fun K hK => ?_)
           refine goes_ Tryd.func29 (by kernel_rfl) rfl #[.int .u32 a0_3] (by rfl) rfl rfl (by exact q1_) ?_
           with_reducible refine (wsframe_key.calls a0_3 t169 _ A45.out).mono ?_
           rintro e w51 ⟨v170, rfl, ho0, hb⟩
           refine ⟨_, rfl, ?_⟩
           have n0_ := Aside0.mk (Kd.R_elder' (by exact q10_ HO_3.out) (Kd.R_base ho0) hb)
           have n1_ := Aside0.mk (Kd.R_lower (Kd.R_new' ho0 (Kd.R_lt (by exact q10_ HO_3.out))) (below_size (by exact q3_ HB.out GE150.out)))
           have n2_ := Aside0.mk (blk_below (g := gb150) (o := .cells #[.bool a0_0, .int .u8 a0_1, .bool true, .int .u32 a0_3, .slice A0_4 l0_4.length c0_4] 52 (0, 0)) (by exact q9_ BK150.out) hb)
           have n3_ := Aside0.mk (below_step (by exact q3_ HB.out GE150.out) hb)
           clear HO_3
           clear BK150
           clear HB
           have HO_3 := n0_
           have HO171 := n1_
           have BK150 := n2_
           have HB := n3_
           clear n0_ n1_ n2_ n3_
           (try clear hb)
           (try clear hb2)
           (try clear hk)
           (try clear hi)
           (try clear ho0)
           obtain ⟨Ao53, co53, eo53⟩ := Kd.R_slice HO171.out
           (first | subst eo53 | (injection eo53 with f1_ f2_ f3_; have f4_ := f1_.symm; have f5_ := f3_.symm; clear f1_ f2_ f3_; subst f4_; subst f5_))
           refine hK.out _ _ ⟨(blk_cell BK150.out 0).trans rfl, (blk_cell BK150.out 1).trans rfl, (blk_cell BK150.out 2).trans rfl, (blk_cell BK150.out 3).trans rfl, (blk_cell BK150.out 4).trans rfl⟩ (fun hHeld => ?_)
           clear hK K
           refine norm_ (a' := ?_) ?_ ?_
           rotate_left
           ·show Act.put _ (some 60) _ = _
            simp only [Act.put, z1_, z2_, z3_, i64_w, i32_w]
            rfl
           refine one_ (i := 4) (N := some 61) #[true, true, true, true, true, true, true, true, true, false, false, false] rfl rfl (one_of HT_.out (by kernel_rfl)) (by decide) (fun K hK => ?_)
           refine Kd.R_append_rows_step (Kd.int .u8) (w0 := w) w.heap.size (by rfl) (.tmp 57) (.tmp 60) 26 5 (.int .u8 0) 1 rfl Tryd.underlying26 info5 rfl (by decide) (by omega) u3 x3_25 t169 _ _ _ (fun k_ => some k_ ≠ (.slice Ao53 t169.length co53 : Value).ownBlock) (fun _ => False) rfl rfl ?aO ?aR (fun _ _ h => h) (fun _ h => h.elim) ?aF ?aB ?aS ?aL ?_
           (case aR => repeat (first | exact (Kd.R_reads' HO171.out).2.2 | (with_reducible refine Kd.C_alloc ?_ _) | (with_reducible refine Kd.C_drewN ?_ _) | (with_reducible refine Kd.C_drew ?_)))
           (case aB => exact (by exact q3_ HB.out GE150.out))
           (case aF => exact (fun k_ hk => Kd.fresh' (Kd.R_lt (by exact q10_ HO171.out)) k_ hk))
           (case aO => exact (by (with_reducible repeat (first | apply Kd.R_alloc | apply Kd.R_drewN | apply Kd.R_drew)); exact Kd.R_mono HO_3.out (fun _ hk => hk.2)))
           (case aS => exact (below_size (by exact q3_ HB.out GE150.out)))
           (case aL => have := LMc46.out; omega)
           intro v173 w52 ho hb hg hat
           rw [← Ny172.out] at ho
           have n0_ := Aside0.mk (blk_grown (g := gb150) (o := .cells #[.bool a0_0, .int .u8 a0_1, .bool true, .int .u32 a0_3, .slice A0_4 l0_4.length c0_4] 52 (0, 0)) (by exact q9_ BK150.out) hg (Kd.R_ne HO_3.out BK150.out (by decide)))
           have n1_ := Aside0.mk (Kd.R_after (ok := (fun _ => True)) (by exact q10_ HO171.out) hg hat)
           have n2_ := Aside0.mk (hb)
           have n3_ := Aside0.mk (ho)
           clear BK150
           clear HO171
           clear HB
           clear HO_3
           have BK150 := n0_
           have HO171 := n1_
           have HB := n2_
           have HO174 := n3_
           clear n0_ n1_ n2_ n3_
           clear ho hb hg hat
           refine hK.out _ _ ⟨(blk_cell BK150.out 0).trans rfl, (blk_cell BK150.out 1).trans rfl, (blk_cell BK150.out 2).trans rfl, (blk_cell BK150.out 3).trans rfl, (blk_cell BK150.out 4).trans rfl⟩ (fun hHeld => ?_)
           clear hK K
           refine norm_ (a' := ?_) ?_ ?_
           rotate_left
           ·show Act.put _ (some 61) _ = _
            simp only [Act.put, z1_, z2_, z3_, i64_w, i32_w]
            rfl
           refine one_ (i := 9) (N := some 66) #[true, true, true, true, true, true, true, true, true, true, false, false] rfl rfl (one_of HT_.out (by kernel_rfl)) (by decide) (fun K hK => ?_)
           refine goes_ Tryd.func30 (by kernel_rfl) rfl #[.slice A0_4 l0_4.length c0_4, .int .u32 a0_3] (by rfl) rfl rfl (by exact q1_) ?_
           with_reducible refine (wsframe_Turn.calls kj25 _ _ l0_4 a0_3 t175 _ ?side1 ?side2 A47.out).mono ?_
           (case side1 => repeat (first | exact (Kd.C_below HR0_4.out HB.out) | (with_reducible refine Kd.C_alloc ?_ _) | (with_reducible refine Kd.C_drewN ?_ _) | (with_reducible refine Kd.C_drew ?_)))
           (case side2 => exact HC0_4.out)
           rintro e w54 ⟨v176, rfl, ho0, hb⟩
           refine ⟨_, rfl, ?_⟩
           have n0_ := Aside0.mk (Kd.R_elder' (by exact q10_ HO171.out) (Kd.R_base ho0) hb)
           have n1_ := Aside0.mk (Kd.R_elder' (by exact q10_ HO174.out) (Kd.R_base ho0) hb)
           have n2_ := Aside0.mk (Kd.R_lower (Kd.R_new' (Kd.R_new' ho0 (Kd.R_lt (by exact q10_ HO171.out))) (Kd.R_lt (by exact q10_ HO174.out))) (below_size (by exact q3_ HB.out GE150.out)))
           have n3_ := Aside0.mk (blk_below (g := gb150) (o := .cells #[.bool a0_0, .int .u8 a0_1, .bool true, .int .u32 a0_3, .slice A0_4 l0_4.length c0_4] 52 (0, 0)) (by exact q9_ BK150.out) hb)
           have n4_ := Aside0.mk (below_step (by exact q3_ HB.out GE150.out) hb)
           clear HO171
           clear HO174
           clear BK150
           clear HB
           have HO171 := n0_
           have HO174 := n1_
           have HO177 := n2_
           have BK150 := n3_
           have HB := n4_
           clear n0_ n1_ n2_ n3_ n4_
           (try clear hb)
           (try clear hb2)
           (try clear hk)
           (try clear hi)
           (try clear ho0)
           obtain ⟨Ao56, co56, eo56⟩ := Kd.R_slice HO177.out
           (first | subst eo56 | (injection eo56 with f1_ f2_ f3_; have f4_ := f1_.symm; have f5_ := f3_.symm; clear f1_ f2_ f3_; subst f4_; subst f5_))
           refine hK.out _ _ ⟨(blk_cell BK150.out 0).trans rfl, (blk_cell BK150.out 1).trans rfl, (blk_cell BK150.out 2).trans rfl, (blk_cell BK150.out 3).trans rfl, (blk_cell BK150.out 4).trans rfl⟩ (fun hHeld => ?_)
           clear hK K
           refine norm_ (a' := ?_) ?_ ?_
           rotate_left
           ·show Act.put _ (some 66) _ = _
            simp only [Act.put, z1_, z2_, z3_, i64_w, i32_w]
            rfl
           refine one_ (i := 10) (N := some 67) #[true, true, true, true, true, true, true, true, true, true, true, false] rfl rfl (one_of HT_.out (by kernel_rfl)) (by decide) (fun K hK => ?_)
           refine Kd.R_append_rows_step (Kd.int .u8) (w0 := w) w.heap.size (by rfl) (.tmp 61) (.tmp 66) 26 5 (.int .u8 0) 1 rfl Tryd.underlying26 info5 rfl (by decide) (by omega) v173 y172 t175 _ _ _ (fun k_ => some k_ ≠ (.slice Ao53 t169.length co53 : Value).ownBlock ∧ some k_ ≠ (.slice Ao56 t175.length co56 : Value).ownBlock) (fun _ => False) rfl rfl ?aO ?aR (fun _ _ h => h) (fun _ h => h.elim) ?aF ?aB ?aS ?aL ?_
           (case aR => repeat (first | exact (Kd.R_reads' HO177.out).2.2 | (with_reducible refine Kd.C_alloc ?_ _) | (with_reducible refine Kd.C_drewN ?_ _) | (with_reducible refine Kd.C_drew ?_)))
           (case aB => exact (by exact q3_ HB.out GE150.out))
           (case aF => exact (fun k_ hk => ⟨Kd.fresh' (Kd.R_lt (by exact q10_ HO171.out)) k_ hk, Kd.fresh' (Kd.R_lt (by exact q10_ HO177.out)) k_ hk⟩))
           (case aO => exact (by exact q10_ HO174.out))
           (case aS => exact (below_size (by exact q3_ HB.out GE150.out)))
           (case aL => have := LMc48.out; omega)
           intro v179 w55 ho hb hg hat
           rw [← Ny178.out] at ho
           have n0_ := Aside0.mk (blk_grown (g := gb150) (o := .cells #[.bool a0_0, .int .u8 a0_1, .bool true, .int .u32 a0_3, .slice A0_4 l0_4.length c0_4] 52 (0, 0)) (by exact q9_ BK150.out) hg (Kd.R_ne HO174.out BK150.out (by decide)))
           have n1_ := Aside0.mk (Kd.R_after (ok := (fun k_ => some k_ ≠ (.slice Ao56 t175.length co56 : Value).ownBlock)) (by (with_reducible repeat (first | apply Kd.R_alloc | apply Kd.R_drewN | apply Kd.R_drew)); exact Kd.R_mono HO171.out (fun _ hk => ⟨hk.2, hk.1.2⟩)) hg hat)
           have n2_ := Aside0.mk (Kd.R_after (ok := (fun k_ => some k_ ≠ (.slice Ao53 t169.length co53 : Value).ownBlock)) (by (with_reducible repeat (first | apply Kd.R_alloc | apply Kd.R_drewN | apply Kd.R_drew)); exact Kd.R_mono HO177.out (fun _ hk => ⟨hk.1.2, hk.2⟩)) hg hat)
           have n3_ := Aside0.mk (hb)
           have n4_ := Aside0.mk (ho)
           clear BK150
           clear HO171
           clear HO177
           clear HB
           clear HO174
           have BK150 := n0_
           have HO171 := n1_
           have HO177 := n2_
           have HB := n3_
           have HO180 := n4_
           clear n0_ n1_ n2_ n3_ n4_
           clear ho hb hg hat
           refine hK.out _ _ ⟨(blk_cell BK150.out 0).trans rfl, (blk_cell BK150.out 1).trans rfl, (blk_cell BK150.out 2).trans rfl, (blk_cell BK150.out 3).trans rfl, (blk_cell BK150.out 4).trans rfl⟩ (fun hHeld => ?_)
           clear hK K
           refine norm_ (a' := ?_) ?_ ?_
           rotate_left
           ·show Act.put _ (some 67) _ = _
            simp only [Act.put, z1_, z2_, z3_, i64_w, i32_w]
            rfl
           refine pure_ (i := 11) (N := some 2) (v := ?_) (a' := ?_) #[true, true, true, true, true, true, true, true, true, true, true, true] rfl rfl (any_of HT_.out (by kernel_rfl)) (fun _ _ _ h => h) (Or.inl ⟨by rfl, ?_⟩) ?_ ?_
           rotate_left
           ·intro w'
            go_simp
            with_reducible rfl
           rotate_left
           ·simp only [Act.put, z1_, z2_, z3_, i64_w, i32_w]
            rfl
           refine done_ (done_of HT_.out (by kernel_rfl)) ?_
           try go_wp2
           go_ret
           exact ⟨_, by exact q11_, by (with_reducible repeat (first | apply Kd.R_alloc | apply Kd.R_drewN | apply Kd.R_drew)); exact Kd.R_mono HO180.out (fun _ hk => trivial), by exact q3_ HB.out GE150.out⟩
          ·rw [if_neg c48] at H
           exact absurd H (by simp)
         ·rw [if_neg c46] at H
          exact absurd H (by simp)
        ·replace c44 := Bool.eq_false_iff.mpr c44
         subst c44
         have H1 : (if x3_25.length + l0_4.length < 140737488355328 then (some (x3_25 ++ l0_4)) else (none)) = some r := by rw [if_neg (show ¬ (false = true) by decide)] at H; exact H
         clear H
         have H := H1
         clear H1
         by_cases c57 : x3_25.length + l0_4.length < 140737488355328
         ·rw [if_pos c57] at H
          have LMc57 := Aside0.mk c57
          clear c57
          obtain ⟨y181, hy181⟩ : ∃ y_ : List Int, y_ = (x3_25 ++ l0_4) := ⟨_, rfl⟩
          replace H : (some y181) = some r := by first | (rw [hy181]; with_reducible exact H) | (have H2_ := (Option.bind_some _ _).symm.trans H; rw [hy181]; with_reducible exact H2_) | (have H2_ := (Option.bind_some _ _).symm.trans H; with_reducible exact H2_) | with_reducible exact H | (rw [hy181]; exact H) | exact H
          have Ny181 := Aside0.mk hy181
          clear hy181
          obtain rfl := Option.some.inj H
          have hcz58_0 : wc.cell? ⟨gb150, 0, none⟩ = some (.bool a0_0) := (blk_cell BK150.out 0).trans rfl
          have hcz58_1 : wc.cell? ⟨gb150, 1, none⟩ = some (.int .u8 a0_1) := (blk_cell BK150.out 1).trans rfl
          have hcz58_2 : wc.cell? ⟨gb150, 2, none⟩ = some (.bool false) := (blk_cell BK150.out 2).trans rfl
          have hcz58_3 : wc.cell? ⟨gb150, 3, none⟩ = some (.int .u32 a0_3) := (blk_cell BK150.out 3).trans rfl
          have hcz58_4 : wc.cell? ⟨gb150, 4, none⟩ = some (.slice A0_4 l0_4.length c0_4) := (blk_cell BK150.out 4).trans rfl
          have hfz58_0 := blk_frozen BK150.out 0
          have hfz58_1 := blk_frozen BK150.out 1
          have hfz58_2 := blk_frozen BK150.out 2
          have hfz58_3 := blk_frozen BK150.out 3
          have hfz58_4 := blk_frozen BK150.out 4
          go_wp2_with (first | ((with_reducible refine gate_builtin (b := .append) (xs := #[.tmp 53, .tmp 55]) rfl ?_); at_builtin; refine Kd.R_append_rows (Kd.int .u8) (w0 := w) w.heap.size rfl (.tmp 53) (.tmp 55) 26 5 (.int .u8 0) 1 rfl Tryd.underlying26 info5 rfl (by decide) (by omega) u3 x3_25 l0_4 _ _ _ (fun _ => True) (fun _ => False) rfl rfl ?aO ?aR (fun _ _ h => h) (fun _ h => h.elim) ?aF ?aB ?aS ?aL ?_; (case aR => repeat (first | exact (Kd.C_below HR0_4.out HB.out) | (with_reducible refine Kd.C_alloc ?_ _) | (with_reducible refine Kd.C_drewN ?_ _) | (with_reducible refine Kd.C_drew ?_))); (case aB => exact (by exact q3_ HB.out GE150.out)); (case aF => exact (fun _ _ => trivial)); (case aO => exact (by exact q10_ HO_3.out)); (case aS => exact (below_size (by exact q3_ HB.out GE150.out))); (case aL => have := LMc57.out; omega); intro v182 w59 ho hb hg hat; rw [← Ny181.out] at ho; have n0_ := Aside0.mk (blk_grown (g := gb150) (o := .cells #[.bool a0_0, .int .u8 a0_1, .bool false, .int .u32 a0_3, .slice A0_4 l0_4.length c0_4] 52 (0, 0)) (by exact q9_ BK150.out) hg (Kd.R_ne HO_3.out BK150.out (by decide))); have n1_ := Aside0.mk (hb); have n2_ := Aside0.mk (ho); clear BK150; clear HB; clear HO_3; have BK150 := n0_; have HB := n1_; have HO183 := n2_; clear n0_ n1_ n2_; clear ho hb hg hat))
          go_ret
          exact ⟨_, by exact q11_, by (with_reducible repeat (first | apply Kd.R_alloc | apply Kd.R_drewN | apply Kd.R_drew)); exact HO183.out, by exact q3_ HB.out GE150.out⟩
         ·rw [if_neg c57] at H
          exact absurd H (by simp)
 ·replace c3 := Bool.eq_false_iff.mpr c3
  subst c3
  have H1 : (some ([] : List Int)) = some r := by rw [if_neg (show ¬ (false = true) by decide)] at H; exact H
  clear H
  have H := H1
  clear H1
  obtain rfl := Option.some.inj H
  go_enter Tryd.func16, Tryd.ntmps16
  go_wp2_with (first | ((with_reducible refine gate_dst (N := 1) rfl ?_); refine box_event ?hg (N := 1) ?hd (cs := #[.bool a0_0, .int .u8 a0_1, .bool a0_2, .int .u32 a0_3, .slice A0_4 l0_4.length c0_4]) (t := 52) ?hr ?_; (case hd => rfl); (case hg => rfl); (case hr => first | (go_simp; done) | (go_simp; rfl)); intro gb150 hg w60 hbox hb; have n0_ := Aside0.mk (below_step (by exact q2_ HB.out) hb); have n1_ := Aside0.mk (hbox); have n2_ := Aside0.mk ((by rw [hg]; exact (below_size (by exact q2_ HB.out)) : w.heap.size ≤ gb150)); have n3_ := Aside0.mk ((by rw [hg]; exact (below_size (by exact q2_ HB.out)) : w.heap.size ≤ gb150)); clear HB; have HB := n0_; have BK150 := n1_; have GW150 := n2_; have GE150 := n3_; clear n0_ n1_ n2_ n3_; clear hb hbox hg; have hcz61_0 : w60.cell? ⟨gb150, 0, none⟩ = some (.bool a0_0) := (blk_cell BK150.out 0).trans rfl; have hcz61_1 : w60.cell? ⟨gb150, 1, none⟩ = some (.int .u8 a0_1) := (blk_cell BK150.out 1).trans rfl; have hcz61_2 : w60.cell? ⟨gb150, 2, none⟩ = some (.bool a0_2) := (blk_cell BK150.out 2).trans rfl; have hcz61_3 : w60.cell? ⟨gb150, 3, none⟩ = some (.int .u32 a0_3) := (blk_cell BK150.out 3).trans rfl; have hcz61_4 : w60.cell? ⟨gb150, 4, none⟩ = some (.slice A0_4 l0_4.length c0_4) := (blk_cell BK150.out 4).trans rfl; have hfz61_0 := blk_frozen BK150.out 0; have hfz61_1 := blk_frozen BK150.out 1; have hfz61_2 := blk_frozen BK150.out 2; have hfz61_3 := blk_frozen BK150.out 3; have hfz61_4 := blk_frozen BK150.out 4) | ((with_reducible refine gate_callee (f := 28) rfl ?_); refine goesL_ (some 6) rfl rfl Tryd.func28 (by kernel_rfl) rfl #[.agg #[.bool a0_0, .int .u8 a0_1, .bool a0_2, .int .u32 a0_3, .slice A0_4 l0_4.length c0_4]] rfl (by exact q1_) ?_; (with_reducible refine (wsframe_May.calls k a0_0 a0_1 a0_2 a0_3 _ _ l0_4 false _ ?side1 ?side2 A2.out).mono ?_); (case side1 => repeat (first | exact (Kd.C_below HR0_4.out HB.out) | (with_reducible refine Kd.C_alloc ?_ _) | (with_reducible refine Kd.C_drewN ?_ _) | (with_reducible refine Kd.C_drew ?_))); (case side2 => exact HC0_4.out); rintro e w62 ⟨rfl, hb⟩; refine ⟨_, rfl, ?_⟩; have n0_ := Aside0.mk (blk_below (g := gb150) (o := .cells #[.bool a0_0, .int .u8 a0_1, .bool a0_2, .int .u32 a0_3, .slice A0_4 l0_4.length c0_4] 52 (0, 0)) (by exact q9_ BK150.out) hb); have n1_ := Aside0.mk (below_step (by exact q3_ HB.out GE150.out) hb); clear BK150; clear HB; have BK150 := n0_; have HB := n1_; clear n0_ n1_; (try clear hb); (try clear hb2); (try clear hk); (try clear hi)))
  go_ret
  exact ⟨_, by exact q11_, by first | exact Kd.R_nil _ _ _ _ _ | exact Kd.N_nil _ _ _ _ _ | exact Kd.V_nil _ _ _ _ _ | exact Kd.Q_nil _ _ _ _ _ | exact Kd.S_nil _ _ _ _ _, by exact q3_ HB.out GE150.out⟩
end Go.Proofs.YtpmeapdcjmaeiaaDoor.PAll
namespace Go.Proofs.YtpmeapdcjmaeiaaDoor.PAll
open Go.RowKit Go.Proofs.YtpmeapdcjmaeiaaDoorW.PrintWords Go.Proofs.YtpmeapdcjmaeiaaDoorW.PrintLast Go.Proofs.YtpmeapdcjmaeiaaDoorW.PrintMore
def putL (fin : Bool) (op : Int) (mask : Bool) (key : Int) (d : List Int) : List Int :=
 (op + (if fin = true then 128 else 0)) :: ((if mask = true then 128 else 0) + (if d.length < 126 then (d.length : Int) else 126)) :: ((if d.length < 126 then [] else [(d.length : Int) / 256 % 256, (d.length : Int) % 256]) ++ (if mask = true then keyOf key ++ turned d key else d))
def mayB (fin : Bool) (op : Int) (mask : Bool) (key : Int) (d : List Int) : Bool := knownB op && (mask || decide (key = 0)) && decide ((d.length : Int) ≤ 4096) && (decide (op < 8) || (fin && decide ((d.length : Int) ≤ 125)))
theorem knownB_iff (a : Int) : knownB a = true ↔ a ≤ 2 ∨ (8 ≤ a ∧ a ≤ 10) := by simp [knownB]
theorem mayB_iff (fin : Bool) (op : Int) (mask : Bool) (key : Int) (d : List Int) : mayB fin op mask key d = true ↔ (op ≤ 2 ∨ (8 ≤ op ∧ op ≤ 10)) ∧ (mask = true ∨ key = 0) ∧ (d.length : Int) ≤ 4096 ∧ (op < 8 ∨ (fin = true ∧ (d.length : Int) ≤ 125)) := by
 simp [mayB, knownB_iff, and_assoc]
theorem wknown_f (a : Int) : wsframe_known.f a = some (knownB a) := by
 unfold wsframe_known.f knownB
 by_cases h : a ≤ 2
 ·rw [if_pos h]; simp [h]
 ·rw [if_neg h]
  by_cases h8 : a ≥ 8
  ·rw [if_pos h8]; simp [h]; omega
  ·rw [if_neg h8]; simp [h]; omega
theorem wmay_f (k : Nat) (hk : 1 ≤ k) (fin : Bool) (op : Int) (mask : Bool) (key : Int) (d : List Int) : wsframe_May.f k fin op mask key d = some (mayB fin op mask key d) := by
 obtain ⟨k, rfl⟩ : ∃ m, k = m + 1 := ⟨k - 1, by omega⟩
 unfold wsframe_May.f
 rw [wknown_f, Option.bind_some]
 have hc : wsframe_control.f op = some (decide (op ≥ 8)) := rfl
 simp only [wsframe_May.j0]
 unfold mayB
 cases hk : knownB op
 ·rw [if_neg (by decide), if_pos (by rfl)]; simp
 ·rw [if_pos rfl]
  have tail : ∀ b : Bool, b = decide ((d.length : Int) > 4096) → (if b = true then some false else (wsframe_control.f op).bind fun t121 => if t121 = true then (if fin = true then (if (d.length : Int) > 125 then some false else some true) else some false) else some true) = some (decide ((d.length : Int) ≤ 4096) && (decide (op < 8) || (fin && decide ((d.length : Int) ≤ 125)))) := by
   intro b hb
   subst hb
   by_cases h : (d.length : Int) > 4096
   ·rw [if_pos (decide_eq_true h)]; have : ¬ (d.length : Int) ≤ 4096 := by omega
    simp [this]
   ·rw [if_neg (by simpa using h), hc, Option.bind_some]
    have h1 : (d.length : Int) ≤ 4096 := by omega
    by_cases h8 : op ≥ 8
    ·rw [if_pos (decide_eq_true h8)]
     have h9 : ¬ op < 8 := by omega
     cases fin
     ·simp [h1, h9]
     ·by_cases h5 : (d.length : Int) > 125
      ·rw [if_pos rfl, if_pos h5]; have : ¬ (d.length : Int) ≤ 125 := by omega
       simp [h1, h9, this]
      ·rw [if_pos rfl, if_neg h5]; have : (d.length : Int) ≤ 125 := by omega
       simp [h1, h9, this]
    ·rw [if_neg (by simpa using h8)]; have : op < 8 := by omega
     simp [h1, this]
  cases mask
  ·rw [if_neg (by decide)]
   by_cases h0 : key = 0
   ·rw [if_pos h0, tail _ rfl]; simp [h0]
   ·rw [if_neg h0, if_pos (bne_iff_ne.mpr h0)]; simp [h0]
  ·rw [if_pos rfl, tail _ rfl]; simp
theorem or128 {x : Int} (h0 : 0 ≤ x) (h1 : x ≤ 127) : Go.bits .or .u8 x 128 = x + 128 := by
 have := (by decide +kernel : ∀ n : Fin 128, Go.bits .or .u8 (n.val : Int) 128 = (n.val : Int) + 128) ⟨x.toNat, by omega⟩
 rwa [show ((⟨x.toNat, by omega⟩ : Fin 128).val : Int) = x by show (x.toNat : Int) = x; omega] at this
theorem zeroOr {x : Int} (h0 : 0 ≤ x) (h1 : x ≤ 127) : Go.bits .or .u8 0 x = x := by
 have := (by decide +kernel : ∀ n : Fin 128, Go.bits .or .u8 0 (n.val : Int) = (n.val : Int)) ⟨x.toNat, by omega⟩
 rwa [show ((⟨x.toNat, by omega⟩ : Fin 128).val : Int) = x by show (x.toNat : Int) = x; omega] at this
theorem topOr {x : Int} (h0 : 0 ≤ x) (h1 : x ≤ 127) : Go.bits .or .u8 128 x = 128 + x := by
 have := (by decide +kernel : ∀ n : Fin 128, Go.bits .or .u8 128 (n.val : Int) = 128 + (n.val : Int)) ⟨x.toNat, by omega⟩
 rwa [show ((⟨x.toNat, by omega⟩ : Fin 128).val : Int) = x by show (x.toNat : Int) = x; omega] at this
theorem turn_k (l : List Int) (key : Int) (hm : l.length ≤ 140737488355328) (k : Nat) (hk : l.length + 1 ≤ k) : wsframe_Turn.f k l key = some (turned l key) := by
 have := turn_f l key hm (k - (l.length + 1))
 rwa [show l.length + 1 + (k - (l.length + 1)) = k by omega] at this
theorem put_f (fin : Bool) (op : Int) (mask : Bool) (key : Int) (d : List Int) (h0 : 0 ≤ op) (hM : mayB fin op mask key d = true) (k : Nat) (hk : d.length + 10 ≤ k) : wsframe_Put.f k fin op mask key d = some (putL fin op mask key d) := by
 obtain ⟨k, rfl⟩ : ∃ m, k = m + 3 := ⟨k - 3, by omega⟩
 obtain ⟨hop, hmk, hlen, hctl⟩ := (mayB_iff ..).1 hM
 have hop2 : op ≤ 10 := by omega
 unfold wsframe_Put.f
 rw [wmay_f _ (by omega), hM, Option.bind_some, if_pos rfl, Option.bind_some]
 have e1 : ∀ x y : Int, rd [x, y] 0 = x := fun _ _ => rfl
 have e2 : ∀ x y : Int, rd [x, y] 1 = y := fun _ _ => rfl
 have s0 : ∀ x y z : Int, [x, y].set (0 : Int).toNat z = [z, y] := fun _ _ _ => rfl
 have s1 : ∀ x y z : Int, [x, y].set (1 : Int).toNat z = [x, z] := fun _ _ _ => rfl
 have j2 : ∀ x y : List Int, x.length + y.length ≤ 4 → wsframe_Put.j2 (k + 1) (x ++ y) fin op mask key d = some (x ++ y ++ (if mask = true then keyOf key ++ turned d key else d)) := by
  intro x y hxy
  rw [wsframe_Put.j2]
  cases mask
  ·rw [if_neg (by decide), if_pos (by simp only [List.length_append]; omega), if_neg (by decide)]
  ·rw [if_pos rfl, key_f, Option.bind_some, if_pos (by rw [List.length_append, show (keyOf key).length = 4 from rfl]; omega), Option.bind_some, turn_k d key (by omega) k (by omega), Option.bind_some, if_pos (by rw [List.length_append, List.length_append, turned_len, show (keyOf key).length = 4 from rfl]; omega), if_pos rfl]
   simp
 have j1 : ∀ x b : Int, (b = 0 ∨ b = 128) → wsframe_Put.j1 (k + 2) [x, b] fin op mask key d = some (x :: (b + (if d.length < 126 then (d.length : Int) else 126)) :: ((if d.length < 126 then [] else [(d.length : Int) / 256 % 256, (d.length : Int) % 256]) ++ (if mask = true then keyOf key ++ turned d key else d))) := by
  intro x b hb
  unfold wsframe_Put.j1
  dsimp only
  by_cases hs : d.length < 126
  ·rw [if_pos (by omega), if_pos (by simp), e2, s1, if_pos hs, if_pos hs]
   have hm : ((d.length : Int)) % 256 = (d.length : Int) := by omega
   have : Go.bits .or .u8 b ((d.length : Int) % 256) = b + (d.length : Int) := by
    rw [hm]
    rcases hb with rfl | rfl
    ·rw [zeroOr (by omega) (by omega)]; omega
    ·exact topOr (by omega) (by omega)
   rw [this]
   have := j2 [x, b + (d.length : Int)] [] (by simp)
   simpa using this
  ·rw [if_neg (by omega), if_pos (by simp), e2, s1, Option.bind_some, Option.bind_some, if_pos (by simp), if_neg hs, if_neg hs]
   have : Go.bits .or .u8 b 126 = b + 126 := by
    rcases hb with rfl | rfl
    ·exact zeroOr (by omega) (by omega)
    ·exact topOr (by omega) (by omega)
   rw [this]
   have := j2 [x, b + 126] [(d.length : Int) / 256 % 256, (d.length : Int) % 256] (by simp)
   simpa using this
 have j0 : ∀ x : Int, wsframe_Put.j0 (k + 3) [x, 0] fin op mask key d = some (x :: ((if mask = true then 128 else 0) + (if d.length < 126 then (d.length : Int) else 126)) :: ((if d.length < 126 then [] else [(d.length : Int) / 256 % 256, (d.length : Int) % 256]) ++ (if mask = true then keyOf key ++ turned d key else d))) := by
  intro x
  rw [wsframe_Put.j0]
  cases hm : mask
  ·subst hm
   rw [if_neg (by decide), j1 x 0 (.inl rfl)]; simp
  ·subst hm
   rw [if_pos rfl, if_pos (by simp), e2, s1, or128 (by omega) (by omega), j1 x (0 + 128) (.inr rfl)]; simp
 unfold putL
 cases hf : fin
 ·subst hf
  rw [if_neg (by decide), j0]; simp
 ·subst hf
  rw [if_pos rfl, if_pos (by simp), e1, s0, or128 h0 (by omega), j0, if_pos rfl]
end Go.Proofs.YtpmeapdcjmaeiaaDoor.PAll
namespace Go.Proofs.YtpmeapdcjmaeiaaDoor.PAll
open Go.RowKit Go.Proofs.YtpmeapdcjmaeiaaDoorW.PrintWords Go.Proofs.YtpmeapdcjmaeiaaDoorW.PrintLast Go.Proofs.YtpmeapdcjmaeiaaDoorW.PrintMore
theorem rd0 (x : Int) (l : List Int) : rd (x :: l) 0 = x := rfl
theorem rd1 (x y : Int) (l : List Int) : rd (x :: y :: l) 1 = y := rfl
def lenB (n : Nat) : Int := if n < 126 then (n : Int) else 126
def frontOf (mask : Bool) (n : Nat) : Int := (if n < 126 then 2 else 4) + (if mask = true then 4 else 0)
theorem turned_bytes {d : List Int} (hd : ∀ x ∈ d, Byte x) (key : Int) : ∀ x ∈ turned d key, Byte x := turned_byte d key hd
theorem keyOf_bytes (key : Int) : ∀ x ∈ keyOf key, Byte x := by
 intro x hx
 simp only [keyOf, List.mem_cons, List.not_mem_nil, or_false] at hx
 rcases hx with rfl | rfl | rfl | rfl <;> exact ⟨by omega, by omega⟩
theorem body_bytes {d : List Int} (hd : ∀ x ∈ d, Byte x) (mask : Bool) (key : Int) : ∀ x ∈ (if mask = true then keyOf key ++ turned d key else d), Byte x := by
 intro x hx
 cases mask
 ·exact hd x (by simpa using hx)
 ·rw [if_pos rfl] at hx
  rcases List.mem_append.1 hx with h | h
  ·exact keyOf_bytes key x h
  ·exact turned_bytes hd key x h
section
variable {fin : Bool} {op : Int} {mask : Bool} {key : Int} {d : List Int} (h0 : 0 ≤ op) (hd : ∀ x ∈ d, Byte x) (hM : mayB fin op mask key d = true)
include h0 hd hM
theorem putL_bytes : (putL fin op mask key d).all isByte = true := by
 obtain ⟨hop, hmk, hlen, hctl⟩ := (mayB_iff ..).1 hM
 rw [List.all_eq_true]
 intro x hx
 rw [isByte_iff]
 unfold putL at hx
 rcases List.mem_cons.1 hx with rfl | hx
 ·cases fin <;> simp <;> omega
 ·rcases List.mem_cons.1 hx with rfl | hx
  ·by_cases hn : d.length < 126
   ·rw [if_pos hn]; cases mask <;> simp <;> omega
   ·rw [if_neg hn]; cases mask <;> simp
  ·rcases List.mem_append.1 hx with hx | hx
   ·by_cases hn : d.length < 126
    ·rw [if_pos hn] at hx; cases hx
    ·rw [if_neg hn] at hx
     simp only [List.mem_cons, List.not_mem_nil, or_false] at hx
     rcases hx with rfl | rfl <;> exact ⟨by omega, by omega⟩
   ·exact body_bytes hd mask key x hx
theorem putL_len : ((putL fin op mask key d).length : Int) = frontOf mask d.length + d.length := by
 have _u := h0
 have _v := hd
 unfold putL frontOf
 simp only [List.length_cons, List.length_append]
 by_cases hn : d.length < 126
 ·rw [if_pos hn, if_pos hn]
  cases mask
  ·simp; omega
  ·simp [keyOf, turned_len]; omega
 ·rw [if_neg hn, if_neg hn]
  cases mask
  ·simp; omega
  ·simp [keyOf, turned_len]; omega
theorem lenF_put : lenF (putL fin op mask key d) = ((d.length : Int), (if d.length < 126 then 2 else 4), false, 0) := by
 obtain ⟨hop, hmk, hlen, hctl⟩ := (mayB_iff ..).1 hM
 have h1 : rd (putL fin op mask key d) 1 % 128 = lenB d.length := by
  unfold putL lenB
  rw [rd1]
  by_cases hn : d.length < 126
  ·rw [if_pos hn]; cases mask <;> simp <;> omega
  ·rw [if_neg hn]; cases mask <;> simp
 unfold lenF
 rw [h1]
 by_cases hn : d.length < 126
 ·have e : lenB d.length = (d.length : Int) := if_pos hn
  rw [e, if_neg (by omega), if_neg (by omega), if_pos hn]
 ·have e : lenB d.length = 126 := if_neg hn
  have hl : ¬ (putL fin op mask key d).length < 4 := by
   have := putL_len h0 hd hM
   unfold frontOf at this
   rw [if_neg hn] at this
   cases mask <;> simp at this <;> omega
  have hv : val (putL fin op mask key d) 2 2 = (d.length : Int) := by
   have e2 : val (putL fin op mask key d) 2 2 = (0 * 256 + rd (putL fin op mask key d) 2) * 256 + rd (putL fin op mask key d) 3 := rfl
   rw [e2]
   unfold putL
   rw [if_neg hn, if_neg hn]
   show (0 * 256 + (d.length : Int) / 256 % 256) * 256 + (d.length : Int) % 256 = _
   omega
  rw [if_pos e, if_neg hl, hv, if_neg (by omega), if_neg hn]
theorem putL_first : rd (putL fin op mask key d) 0 / 16 % 8 = 0 ∧ rd (putL fin op mask key d) 0 % 16 = op ∧ decide (128 ≤ rd (putL fin op mask key d) 0) = fin ∧ decide (128 ≤ rd (putL fin op mask key d) 1) = mask ∧ rd (putL fin op mask key d) 1 % 128 = lenB d.length := by
 have _v := hd
 obtain ⟨hop, hmk, hlen, hctl⟩ := (mayB_iff ..).1 hM
 unfold putL lenB
 rw [rd0, rd1]
 refine ⟨?_, ?_, ?_, ?_, ?_⟩
 ·cases fin <;> simp <;> omega
 ·cases fin <;> simp <;> omega
 ·cases fin <;> simp <;> omega
 ·by_cases hn : d.length < 126
  ·rw [if_pos hn]; cases mask <;> simp <;> omega
  ·rw [if_neg hn]; cases mask <;> simp
 ·by_cases hn : d.length < 126
  ·rw [if_pos hn]; cases mask <;> simp <;> omega
  ·rw [if_neg hn]; cases mask <;> simp
theorem headF_put (m : Bool) : headF (putL fin op mask key d) m = if m = mask then (frontOf mask d.length, (d.length : Int), false, 0) else (0, 0, false, 1002) := by
 obtain ⟨hop, hmk, hlen, hctl⟩ := (mayB_iff ..).1 hM
 obtain ⟨e1, e2, e3, e4, e5⟩ := putL_first h0 hd hM
 have hl := putL_len h0 hd hM
 have hf : 2 ≤ frontOf mask d.length := by unfold frontOf; cases mask <;> split <;> simp
 have hk : knownB op = true := (knownB_iff op).2 hop
 unfold headF
 rw [if_neg (by omega), e1, e2, e4, e5, hk, if_neg (by
  rintro (h | h | h)
  ·exact h rfl
  ·cases h
  ·have hft : fin = true := by
    rcases hctl with h8 | h8
    ·omega
    ·exact h8.1
   have := of_decide_eq_true (e3.trans hft)
   omega), if_neg (by omega)]
 by_cases hmm : m = mask
 ·subst hmm
  rw [if_neg (by
   rintro (h | h)
   ·exact h rfl
   ·unfold lenB at h
    have h5 : (d.length : Int) ≤ 125 := by
     rcases hctl with h8 | h8
     ·omega
     ·exact h8.2
    rw [if_pos (by omega)] at h
    omega), lenF_put h0 hd hM, if_neg (by simp), if_neg (by simp), if_neg (by dsimp only; omega), if_pos rfl]
  unfold frontOf
  rfl
 ·rw [if_pos (.inl (fun h => hmm h.symm)), if_neg hmm]
theorem raw_put : rawOf (putL fin op mask key d) mask = (if mask = true then turned d key else d) := by
 unfold rawOf
 rw [headF_put h0 hd hM, if_pos rfl]
 unfold putL frontOf
 by_cases hn : d.length < 126
 ·rw [if_pos hn, if_pos hn, if_pos hn]
  cases mask <;> rfl
 ·rw [if_neg hn, if_neg hn, if_neg hn]
  cases mask <;> rfl
theorem keyIn_put (k0 : 0 ≤ key) (k1 : key ≤ 4294967295) : keyIn (putL fin op mask key d) mask = key := by
 obtain ⟨hop, hmk, hlen, hctl⟩ := (mayB_iff ..).1 hM
 unfold keyIn
 rw [headF_put h0 hd hM, if_pos rfl]
 cases mask
 ·rw [if_neg (by decide)]
  rcases hmk with h | h
  ·cases h
  ·exact h.symm
 ·rw [if_pos rfl]
  have hk : (((key / 16777216 % 256) * 256 + key / 65536 % 256) * 256 + key / 256 % 256) * 256 + key % 256 = key := by omega
  unfold frontOf putL
  by_cases hn : d.length < 126
  ·rw [if_pos hn, if_pos hn, if_pos hn]
   refine Eq.trans ?_ hk
   show (((0 * 256 + key / 16777216 % 256) * 256 + key / 65536 % 256) * 256 + key / 256 % 256) * 256 + key % 256 = _
   rw [Int.zero_mul, Int.zero_add]
  ·rw [if_neg hn, if_neg hn, if_neg hn]
   refine Eq.trans ?_ hk
   show (((0 * 256 + key / 16777216 % 256) * 256 + key / 65536 % 256) * 256 + key / 256 % 256) * 256 + key % 256 = _
   rw [Int.zero_mul, Int.zero_add]
end
end Go.Proofs.YtpmeapdcjmaeiaaDoor.PAll
namespace Go.Proofs.YtpmeapdcjmaeiaaDoor
open Go.RowKit Go.Proofs.YtpmeapdcjmaeiaaDoorW.PrintWords Go.Proofs.YtpmeapdcjmaeiaaDoorW.PrintLast Go.Proofs.YtpmeapdcjmaeiaaDoorW.PrintMore Go.Proofs.YtpmeapdcjmaeiaaDoor.PAll
theorem head_f {l : List Int} (hl : l.all isByte = true) (m : Bool) : wsframe_Head.f l m = some (HeadF l m) := by
 unfold wsframe_Head.f
 rw [if_pos hl]
theorem Next_none {wb w : World} {g : Nat} {v : Value} {m : Bool} {l : List Int} (h : Sp wb w g v m false l) (hg : Cond w) (hl : l.all isByte = true) (hc : code1 l m = 0) (hf : ¬ IsFr l m) :
  Calls Tryd.prog 21 #[.pointer (some ⟨g, 0, none⟩)] w fun e w' => e = .returned (.tuple #[.agg #[.bool false, .int .u8 0, .bool false, .int .u32 0, .slice none 0 0], .agg #[.int .u8 0, .int .u32 0], .bool false]) ∧ Below w.heap.size w w' := by
 have hh := head_f hl m
 rcases HeadF_not hl hc hf with e | ⟨r1, e, h1⟩
 ·rw [e] at hh
  exact split_next_none wb w g v m l 0 0 0 false h hg hh rfl
 ·rw [e] at hh
  exact split_next_more wb w g v m l r1 0 0 true h hg hh rfl rfl rfl (decide_eq_true h1)
theorem Next_frame {wb w : World} {g : Nat} {v : Value} {m : Bool} {l : List Int} (h : Sp wb w g v m false l) (hB : Below wb.heap.size wb w) (hgb : wb.heap.size ≤ g) (hg : Cond w) (hl : l.all isByte = true) (hf : IsFr l m) (hn : l.length ≤ 100000) {p : Pc} (hp : p = pieceOf (l.take (size1 l m)) m) :
  Calls Tryd.prog 21 #[.pointer (some ⟨g, 0, none⟩)] w (NextPost wb g m (l.drop (size1 l m)) p.f0 p.f1 p.f2 p.f3 p.f4 w) := by
 subst hp
 have hh := head_f hl m
 rw [HeadF_fr hl hf] at hh
 have hr := hf.room
 have hbt := take_byte hl (size1 l m)
 have hlt : (l.take (size1 l m)).length ≤ 100000 := by rw [List.length_take]; omega
 have hraw : (rawOf (l.take (size1 l m)) m).length ≤ 100000 := by unfold rawOf; rw [List.length_drop]; omega
 refine split_next_frame wb w g v m l (l.take (size1 l m)) (l.drop (size1 l m)) 200000 (size1 l m : Nat) _ _ _ _ _ 0 0 h hB hgb hg hh (by omega) (by omega) (by simp) (by simp) ?_ (by unfold bytes_Clone.f; rw [if_pos (by rw [List.length_drop]; omega)])
 unfold wsframe_Get.f pieceOf dataOf
 rw [if_pos hbt, if_pos (hf.bad hl)]
 cases m with
 | false => rw [if_neg (by decide), if_neg (by decide), Option.bind_some, if_pos (by omega)]
 | true => rw [if_pos rfl, if_pos rfl, turn_k _ _ (by omega) _ (by omega), Option.bind_some, if_pos (by omega)]
theorem Next_bad {wb w : World} {g : Nat} {v : Value} {m : Bool} {l : List Int} (h : Sp wb w g v m false l) (hB : Below wb.heap.size wb w) (hgb : wb.heap.size ≤ g) (hg : Cond w) (hl : l.all isByte = true) (hc : code1 l m ≠ 0) :
  Calls Tryd.prog 21 #[.pointer (some ⟨g, 0, none⟩)] w (NextBad wb g m (code1 l m) w) := by
 have hh := head_f hl m
 rw [HeadF_bad hc] at hh
 exact split_next_bad wb w g v m l 0 (code1 l m) h hB hgb hg hh
theorem Feed_any {wb w : World} {g : Nat} {v : Value} {m : Bool} {l xs : List Int} {A : Option Addr} {c k : Nat} (h : Sp wb w g v m false l) (hB : Below wb.heap.size wb w) (hgb : wb.heap.size ≤ g) (hC : Kd.C (Kd.int .u8) w A xs.length xs) (hc : xs.length ≤ c) (hl : l.length ≤ 4110) (hk : k = min xs.length (4110 - l.length)) :
  Calls Tryd.prog 20 #[.pointer (some ⟨g, 0, none⟩), .slice A xs.length c] w (FeedPost wb g v m (l ++ xs.take k) k w) := by
 by_cases hfit : l.length + xs.length ≤ 4110
 ·rw [show k = xs.length by omega, List.take_length]
  exact split_feed_fit wb w g v m l xs A c h hB hgb hC hc hfit
 ·have e : (xs.take k).length = k := by rw [List.length_take]; omega
  have := split_feed_less wb w g v m l xs (xs.take k) A c h hB hgb hC hc hl (by omega) (by rw [show 4110 - l.length = k by omega])
  rwa [e] at this
structure Wp (w0 W : World) (g : Nat) (m bad : Bool) (l : List Int) (v gv : Value) (got : List Pc) : Prop where
 sp : Sp w0 W g v m bad l
 bel : Below w0.heap.size w0 W
 base : w0.heap.size ≤ g
 got : Kd.R k52 52 W w0.heap.size (fun k => some k ≠ v.ownBlock) gv got
theorem Wp.below {w0 W W' : World} {g : Nat} {m bad : Bool} {l : List Int} {v gv : Value} {got : List Pc} (h : Wp w0 W g m bad l v gv got) (hb : Below W.heap.size W W') : Wp w0 W' g m bad l v gv got := ⟨h.sp.below hb, below_step h.bel hb, h.base, Kd.R_below h.got hb⟩
theorem Wp.c0 {w0 W : World} {g : Nat} {m bad : Bool} {l : List Int} {v gv : Value} {got : List Pc} (h : Wp w0 W g m bad l v gv got) : W.cell? ⟨g, 0, none⟩ = some v := (blk_cell h.sp.blk 0).trans rfl
theorem Wp.c2 {w0 W : World} {g : Nat} {m bad : Bool} {l : List Int} {v gv : Value} {got : List Pc} (h : Wp w0 W g m bad l v gv got) : W.cell? ⟨g, 2, none⟩ = some (.bool bad) := (blk_cell h.sp.blk 2).trans rfl
end Go.Proofs.YtpmeapdcjmaeiaaDoor
namespace Go.Proofs.YtpmeapdcjmaeiaaDoor
open Go.RowKit Go.Proofs.YtpmeapdcjmaeiaaDoorW.PrintWords Go.Proofs.YtpmeapdcjmaeiaaDoorW.PrintLast Go.Proofs.YtpmeapdcjmaeiaaDoorW.PrintMore Go.Proofs.YtpmeapdcjmaeiaaDoor.PAll
def RGetPost (r1 : Bool) (r2 : Int) (r3 : Bool) (r4 : Int) (r5 : List Int) (code : Int) (w : World) (e : Ending) (w' : World) : Prop := ∃ A c, e = .returned (.tuple #[.agg #[.bool r1, .int .u8 r2, .bool r3, .int .u32 r4, .slice A r5.length c], .int .i64 code]) ∧ Kd.C (Kd.int .u8) w' A r5.length r5 ∧ r5.length ≤ c ∧ Below w.heap.size w w' ∧ ∀ ad, A = some ad → ∃ cells fr, w'.heap[ad.block]? = some (.cells cells 5 fr)
theorem RGetPost.zero {code : Int} {w w' : World} (hb : Below w.heap.size w w') : RGetPost false 0 false 0 [] code w (.returned (.tuple #[.agg #[.bool false, .int .u8 0, .bool false, .int .u32 0, .slice none 0 0], .int .i64 code])) w' := ⟨none, 0, rfl, ⟨rfl, by decide, fun h => by simp at h⟩, Nat.le_refl _, hb, fun ad e => by cases e⟩
end Go.Proofs.YtpmeapdcjmaeiaaDoor

namespace Go.Proofs.YtpmeapdcjmaeiaaDoor
open Go.RowKit Go.Proofs.YtpmeapdcjmaeiaaDoorW.PrintWords Go.Proofs.YtpmeapdcjmaeiaaDoorW.PrintLast Go.Proofs.YtpmeapdcjmaeiaaDoorW.PrintMore Go.Proofs.YtpmeapdcjmaeiaaDoor.PAll
def AllPost (ps : List Pc) (c : Int) (n : Nat) (w : World) (e : Ending) (w' : World) : Prop := ∃ A cp, e = .returned (.tuple #[.slice A ps.length cp, .int .i64 c, .int .i64 n]) ∧ ps.length ≤ cp ∧ Kd.C k52 w' A ps.length ps ∧ Below w.heap.size w w'
theorem AllPost.mk {ps done : List Pc} {c c' : Int} {n : Nat} {w w' : World} {A : Option Addr} {cp : Nat} {r : List Int} (h : ps = done ++ [] ∧ c = c' ∧ r = r) (hc : done.length ≤ cp) (hC : Kd.C k52 w' A done.length done) (hb : Below w.heap.size w w') : AllPost ps c n w (.returned (.tuple #[.slice A done.length cp, .int .i64 c', .int .i64 n])) w' := by
 obtain ⟨h1, rfl, _⟩ := h
 rw [List.append_nil] at h1
 subst h1
 exact ⟨A, cp, rfl, hc, hC, hb⟩
end Go.Proofs.YtpmeapdcjmaeiaaDoor
namespace Go.Proofs.YtpmeapdcjmaeiaaDoor
open Go.RowKit Go.Proofs.YtpmeapdcjmaeiaaDoorW.PrintWords Go.Proofs.YtpmeapdcjmaeiaaDoorW.PrintLast Go.Proofs.YtpmeapdcjmaeiaaDoorW.PrintMore Go.Proofs.YtpmeapdcjmaeiaaDoor.PAll
def Inv (x0 : List Int) (m : Bool) (l lx : List Int) (got : List Pc) (bad : Bool) (cd : Int) : Prop :=
 (bad = false ∧ cd = 0 ∧ ∀ ps c r, AllP m (l ++ lx) ps c r → AllP m x0 (got ++ ps) c r) ∨ (bad = true ∧ cd ≠ 0 ∧ l = [] ∧ AllP m x0 got cd [])
theorem none_nil (m : Bool) : code1 [] m = 0 ∧ ¬ IsFr [] m := by
 have h : headF [] m = (0, 0, true, 0) := by unfold headF; rfl
 refine ⟨by unfold code1; rw [h], fun hf => ?_⟩
 have := hf.told
 rw [h] at this
 cases this
structure In (x0 : List Int) (m : Bool) (w wr : World) (g : Nat) (l lx : List Int) (v gv : Value) (got : List Pc) (bad : Bool) (cd : Int) : Prop where
 wp : Wp w wr g m bad l v gv got
 len : l.length ≤ 4110
 byte : l.all isByte = true
 inv : Inv x0 m l lx got bad cd
 room : got.length + l.length + lx.length ≤ x0.length
theorem In.below {x0 : List Int} {m : Bool} {w wr W : World} {g : Nat} {l lx : List Int} {v gv : Value} {got : List Pc} {bad : Bool} {cd : Int} (h : In x0 m w wr g l lx v gv got bad cd) (hb : Below wr.heap.size wr W) : In x0 m w W g l lx v gv got bad cd := ⟨h.wp.below hb, h.len, h.byte, h.inv, h.room⟩
theorem In.nil {x0 : List Int} {m : Bool} {w wr : World} {g : Nat} {l lx : List Int} {v gv : Value} {got : List Pc} {cd : Int} (h : In x0 m w wr g l lx v gv got true cd) : l = [] := by
 rcases h.inv with ⟨h1, _⟩ | ⟨_, _, h1, _⟩
 ·cases h1
 ·exact h1
theorem In.zero {x0 : List Int} {m : Bool} {w wr : World} {g : Nat} {l lx : List Int} {v gv : Value} {got : List Pc} {cd : Int} (h : In x0 m w wr g l lx v gv got false cd) : cd = 0 := by
 rcases h.inv with ⟨_, h1, _⟩ | ⟨h1, _⟩
 ·exact h1
 ·cases h1
end Go.Proofs.YtpmeapdcjmaeiaaDoor
namespace Go.Proofs.YtpmeapdcjmaeiaaDoor
open Go.RowKit Go.Proofs.YtpmeapdcjmaeiaaDoorW.PrintWords Go.Proofs.YtpmeapdcjmaeiaaDoorW.PrintLast Go.Proofs.YtpmeapdcjmaeiaaDoorW.PrintMore Go.Proofs.YtpmeapdcjmaeiaaDoor.PAll
def putP (p : Pc) : List Int := putL p.f0 p.f1 p.f2 p.f3 p.f4
structure OkP (m : Bool) (p : Pc) : Prop where
 may : mayB p.f0 p.f1 p.f2 p.f3 p.f4 = true
 mask : p.f2 = m
 op : 0 ≤ p.f1
 key0 : 0 ≤ p.f3
 key1 : p.f3 ≤ 4294967295
 data : ∀ x ∈ p.f4, Byte x
theorem OkP.bytes {m : Bool} {p : Pc} (h : OkP m p) : (putP p).all isByte = true := putL_bytes h.op h.data h.may
theorem OkP.len {m : Bool} {p : Pc} (h : OkP m p) : (putP p).length ≤ 4104 := by
 have h1 := putL_len h.op h.data h.may
 have h2 := ((mayB_iff ..).1 h.may).2.2.1
 have h3 : frontOf p.f2 p.f4.length ≤ 8 := by unfold frontOf; cases p.f2 <;> split <;> simp
 unfold putP
 omega
theorem OkP.head {m : Bool} {p : Pc} (h : OkP m p) (rest : List Int) : headF (putP p ++ rest) m = (frontOf p.f2 p.f4.length, (p.f4.length : Int), false, 0) := by
 have h1 := headF_put h.op h.data h.may m
 rw [if_pos h.mask.symm] at h1
 unfold putP
 rw [headF_app _ _ _ (by rw [h1]), h1]
theorem OkP.size {m : Bool} {p : Pc} (h : OkP m p) (rest : List Int) : size1 (putP p ++ rest) m = (putP p).length := by
 unfold size1
 rw [h.head rest]
 have h1 := putL_len h.op h.data h.may
 show (frontOf p.f2 p.f4.length + (p.f4.length : Int)).toNat = (putL p.f0 p.f1 p.f2 p.f3 p.f4).length
 omega
theorem OkP.fr {m : Bool} {p : Pc} (h : OkP m p) (rest : List Int) : IsFr (putP p ++ rest) m := by
 refine ⟨?_, ?_, ?_⟩
 ·unfold code1; rw [h.head rest]
 ·rw [h.head rest]
 ·rw [h.size rest, List.length_append]; omega
theorem OkP.piece {m : Bool} {p : Pc} (h : OkP m p) : pieceOf (putP p) m = p := by
 obtain ⟨e1, e2, e3, e4, e5⟩ := putL_first h.op h.data h.may
 have hr := raw_put h.op h.data h.may
 have hk := keyIn_put h.op h.data h.may h.key0 h.key1
 have hm := h.mask
 obtain ⟨f0, f1, f2, f3, f4⟩ := p
 dsimp only at hm hr hk e1 e2 e3 e4 e5
 subst hm
 unfold pieceOf dataOf putP
 dsimp only
 rw [e2, e3, hk, hr]
 cases f2 with
 | true => rw [if_pos rfl, if_pos rfl, turned_twice f4 f3 h.data]
 | false => rw [if_neg (by decide), if_neg (by decide)]
theorem AllP.put {m : Bool} {p : Pc} (h : OkP m p) {rest : List Int} {ps : List Pc} {c : Int} {r : List Int} (ha : AllP m rest ps c r) : AllP m (putP p ++ rest) (p :: ps) c r := by
 have e := AllP.frame (h.fr rest) (ps := ps) (c := c) (r := r)
 rw [h.size rest, List.drop_left, List.take_left, h.piece] at e
 exact e ha
def putAll (ps : List Pc) : List Int := ps.flatMap putP
theorem AllP.puts {m : Bool} : ∀ ps : List Pc, (∀ p ∈ ps, OkP m p) → AllP m (putAll ps) ps 0 []
 | [], _ => .stop (none_nil m).1 (none_nil m).2
 | p :: ps, h => by
  show AllP m (putP p ++ putAll ps) (p :: ps) 0 []
  exact AllP.put (h p List.mem_cons_self) (AllP.puts ps (fun q hq => h q (List.mem_cons_of_mem _ hq)))
theorem putAll_bytes {m : Bool} : ∀ ps : List Pc, (∀ p ∈ ps, OkP m p) → (putAll ps).all isByte = true
 | [], _ => rfl
 | p :: ps, h => by
  show (putP p ++ putAll ps).all isByte = true
  exact app_byte (h p List.mem_cons_self).bytes (putAll_bytes ps (fun q hq => h q (List.mem_cons_of_mem _ hq)))
theorem putAll_snoc (ps : List Pc) (p : Pc) : putAll (ps ++ [p]) = putAll ps ++ putP p := by
 unfold putAll
 simp
end Go.Proofs.YtpmeapdcjmaeiaaDoor
namespace Go.Proofs.YtpmeapdcjmaeiaaDoor.PAll
open Go.RowKit Go.Proofs.YtpmeapdcjmaeiaaDoorW.PrintWords Go.Proofs.YtpmeapdcjmaeiaaDoorW.PrintLast Go.Proofs.YtpmeapdcjmaeiaaDoorW.PrintMore
structure S35 where
 f0 : Int
 f1 : Bool
 f2 : (List Int)
 f3 : Int
def z35 : S35 := ⟨(0 : Int), false, ([] : List Int), (0 : Int)⟩
def k35 : Kd S35 := Kd.iso (Kd.pair (Kd.int .u8) (Kd.pair Kd.bool (Kd.pair (Kd.slice 5 (Kd.int .u8)) (Kd.int .u32)))) (fun x : S35 => (x.f0, x.f1, x.f2, x.f3))
theorem k35_open {w : World} {x : S35} {cs : List Value} (h : k35.K w x cs) : ∃ A2 c2, cs = [.int .u8 x.f0, .bool x.f1, .slice A2 x.f2.length c2, .int .u32 x.f3] ∧ x.f2.length ≤ c2 ∧ (Kd.int .u8).C w A2 x.f2.length x.f2 := by
 obtain ⟨_, _, rfl, rfl, ⟨_, _, rfl, rfl, ⟨_, _, rfl, ⟨A2, c2, rfl, l2, g2⟩, rfl⟩⟩⟩ := h
 exact ⟨A2, c2, rfl, l2, g2⟩
theorem k35_mkM (w : World) (base : Nat) (ok : Nat → Prop) (x : S35) {v2 : Value} (g2 : (Kd.int .u8).R 5 w base ok v2 x.f2) : k35.M w base ok x [.int .u8 x.f0, .bool x.f1, v2, .int .u32 x.f3] := ⟨[.int .u8 x.f0], [.bool x.f1, v2, .int .u32 x.f3], rfl, rfl, ⟨[.bool x.f1], [v2, .int .u32 x.f3], rfl, rfl, ⟨[v2], [.int .u32 x.f3], rfl, ⟨v2, rfl, g2⟩, rfl⟩⟩⟩
def rd_T35 (xs : List S35) (i : Int) : S35 := xs.getD i.toNat z35
theorem at_T35 {w : World} {A : Option Addr} {n : Nat} {xs : List S35} (h : Kd.C k35 w A n xs) (i : Int) (h0 : 0 ≤ i) (h1 : i < n) : ∃ ad A2 c2, A = some ad ∧ w.cell? (ad.add (i.toNat * 4)) = some (.int .u8 (rd_T35 xs i).f0) ∧ w.cell? ⟨(ad.add (i.toNat * 4)).block, (ad.add (i.toNat * 4)).off + 1, none⟩ = some (.bool (rd_T35 xs i).f1) ∧ w.cell? ⟨(ad.add (i.toNat * 4)).block, (ad.add (i.toNat * 4)).off + 2, none⟩ = some (.slice A2 (rd_T35 xs i).f2.length c2) ∧ w.cell? ⟨(ad.add (i.toNat * 4)).block, (ad.add (i.toNat * 4)).off + 3, none⟩ = some (.int .u32 (rd_T35 xs i).f3) ∧ (rd_T35 xs i).f2.length ≤ c2 ∧ (Kd.int .u8).C w A2 (rd_T35 xs i).f2.length (rd_T35 xs i).f2 := by
 obtain ⟨ad, c, e, _, hK, hc0⟩ := Kd.C_get h z35 i h0 h1
 have hc : ∀ j u, c[j]? = some u → w.cell? (ad.add (i.toNat * 4 + j)) = some u := hc0
 obtain ⟨A2, c2, rfl, l2, g2⟩ := k35_open hK
 exact ⟨ad, A2, c2, e, hc 0 _ rfl, by rw [← add_field _ _ 1 (by omega)]; exact hc 1 _ rfl, by rw [← add_field _ _ 2 (by omega)]; exact hc 2 _ rfl, by rw [← add_field _ _ 3 (by omega)]; exact hc 3 _ rfl, l2, g2⟩
end Go.Proofs.YtpmeapdcjmaeiaaDoor.PAll
namespace Go.Proofs.YtpmeapdcjmaeiaaDoor
open Go.RowKit Go.Proofs.YtpmeapdcjmaeiaaDoorW.PrintWords Go.Proofs.YtpmeapdcjmaeiaaDoorW.PrintLast Go.Proofs.YtpmeapdcjmaeiaaDoorW.PrintMore Go.Proofs.YtpmeapdcjmaeiaaDoor.PAll Go.Proofs.YtpmeapdcjmaeiaaDoor.U
abbrev Nt := PAll.S35
structure TM where
 cl : Bool
 keys : List Int
 key : Int
 l : List Int
 sbad : Bool
 b : List Int
 busy : Bool
 te : Bool
 over : Bool
 sent : Bool
 got : Bool
 code : Int
 cause : Int
 ecode : Int
 out : List Int
 pongs : Int
 ended : Bool
def TM.nkey (M : TM) : Int := if M.cl = true then (if 0 < M.keys.length then rd M.keys (Int.tmod M.key (M.keys.length : Int)) else 0) else 0
def TM.key' (M : TM) : Int := if M.cl = true then (if 0 < M.keys.length then M.key + 1 else M.key) else M.key
def putM (M : TM) (fin : Bool) (op : Int) (d : List Int) : TM := { M with key := M.key', out := M.out ++ putL fin op M.cl M.nkey d }
def sendM (M : TM) (d : List Int) : TM := if M.sent = true then M else putM { M with sent := true } true 8 d
def badM (M : TM) (code : Int) : TM := if M.cause ≠ 0 then M else sendM { M with cause := 2, ecode := code } (dataC code (⟨#[]⟩ : ByteArray))
def gotM (M : TM) (code : Int) : TM := if M.cause ≠ 0 then M else { sendM { M with got := true, code := code } (dataC code (⟨#[]⟩ : ByteArray)) with cause := 1, ecode := code }
def bNote (code : Int) : Nt := ⟨5, false, [], code⟩
def takesM (M : TM) (n : Nt) : TM × Nt :=
 if n.f0 = 5 then (badM M n.f3, bNote n.f3)
 else if n.f0 = 4 then (gotM M n.f3, n)
 else if n.f0 = 2 then (if M.sent = true then (M, n) else if M.pongs = 16 then (badM M 1008, bNote 1008) else (putM { M with pongs := M.pongs + 1 } true 10 n.f2, n))
 else (M, n)
def gF (b : List Int) (busy te over fin : Bool) (op : Int) (d : List Int) : List Int × Bool × Bool × Bool × Nt × Bool :=
 if over = true then (b, busy, te, true, ⟨0, false, [], 0⟩, false)
 else if op = 0 ∨ op = 1 ∨ op = 2 then
  (if partC busy te fin op b d ≠ 0 then ([], false, te, true, bNote (partC busy te fin op b d), true)
   else if fin = true then ([], false, textN busy te op, false, ⟨1, textN busy te op, b ++ d, 0⟩, true)
   else (b ++ d, true, textN busy te op, false, ⟨0, false, [], 0⟩, false))
 else if op = 8 then ([], false, te, true, ⟨(closeM d).1, false, (closeM d).2.1, (closeM d).2.2⟩, true)
 else if op = 9 then (b, busy, te, false, ⟨2, false, d, 0⟩, true)
 else if op = 10 then (b, busy, te, false, ⟨3, false, d, 0⟩, true)
 else ([], false, te, true, bNote 1002, true)
theorem Stp.fn {b b' nd d : List Int} {busy te over fin busy' te' over' tx ok : Bool} {op kind code : Int} (hs : Stp b busy te over fin op d b' busy' te' over' kind tx code nd ok) : ∃ te2, gF b busy te over fin op d = (b', busy', te2, over', ⟨kind, tx, nd, code⟩, ok) ∧ (over' = false → te2 = te') := by
 unfold gF
 cases hs with
 | over h => rw [if_pos h]; exact ⟨_, rfl, fun h => by cases h⟩
 | more h ho hc hf => rw [if_neg (by rw [h]; decide), if_pos ho, if_neg (by rw [hc]; simp), if_neg (by rw [hf]; decide)]; exact ⟨_, rfl, fun _ => rfl⟩
 | told h ho hc hf => rw [if_neg (by rw [h]; decide), if_pos ho, if_neg (by rw [hc]; simp), if_pos hf]; exact ⟨_, rfl, fun _ => rfl⟩
 | part h ho hc tn => rw [if_neg (by rw [h]; decide), if_pos ho, if_pos hc]; exact ⟨_, rfl, fun h => by cases h⟩
 | ping h ho => subst ho; rw [if_neg (by rw [h]; decide), if_neg (by decide), if_neg (by decide), if_pos rfl]; exact ⟨_, rfl, fun _ => rfl⟩
 | pong h ho => subst ho; rw [if_neg (by rw [h]; decide), if_neg (by decide), if_neg (by decide), if_neg (by decide), if_pos rfl]; exact ⟨_, rfl, fun _ => rfl⟩
 | other h ho tn => rw [if_neg (by rw [h]; decide), if_neg (by omega), if_neg (by omega), if_neg (by omega), if_neg (by omega)]; exact ⟨_, rfl, fun h => by cases h⟩
 | close h ho tn => subst ho; rw [if_neg (by rw [h]; decide), if_neg (by decide), if_pos rfl]; exact ⟨_, rfl, fun h => by cases h⟩
def TM.wg (M : TM) (p : Pc) : TM := { M with b := (gF M.b M.busy M.te M.over p.f0 p.f1 p.f4).1, busy := (gF M.b M.busy M.te M.over p.f0 p.f1 p.f4).2.1, te := (gF M.b M.busy M.te M.over p.f0 p.f1 p.f4).2.2.1, over := (gF M.b M.busy M.te M.over p.f0 p.f1 p.f4).2.2.2.1 }
def TM.tells (M : TM) (p : Pc) : Bool := (gF M.b M.busy M.te M.over p.f0 p.f1 p.f4).2.2.2.2.2
def TM.note (M : TM) (p : Pc) : Nt := (gF M.b M.busy M.te M.over p.f0 p.f1 p.f4).2.2.2.2.1
def takeM (M : TM) (p : Pc) : TM × List Nt := if M.tells p = true then ((takesM (M.wg p) (M.note p)).1, [(takesM (M.wg p) (M.note p)).2]) else (M.wg p, [])
def runM : TM → List Pc → Int → TM × List Nt
 | M, [], cd => if M.cause ≠ 0 then (M, []) else if cd ≠ 0 then (badM M cd, [bNote cd]) else (M, [])
 | M, p :: ps, cd => if M.cause ≠ 0 then (M, []) else ((runM (takeM M p).1 ps cd).1, (takeM M p).2 ++ (runM (takeM M p).1 ps cd).2)
structure TM.Ok (M : TM) : Prop where
 nob : M.busy = false → M.b = []
 blen : M.b.length ≤ 4096
 byt : ∀ x ∈ M.b, 0 ≤ x ∧ x ≤ 255
 llen : M.l.length ≤ 4110
 lbyt : M.l.all isByte = true
 key0 : 0 ≤ M.key
 keys : ∀ x ∈ M.keys, 0 ≤ x ∧ x ≤ 4294967295
 klen : M.keys.length ≤ 1000
 obyt : ∀ x ∈ M.out, 0 ≤ x ∧ x ≤ 255
 pong : 0 ≤ M.pongs ∧ M.pongs ≤ 16
end Go.Proofs.YtpmeapdcjmaeiaaDoor
namespace Go.Proofs.YtpmeapdcjmaeiaaDoor
open Go.RowKit Go.Proofs.YtpmeapdcjmaeiaaDoorW.PrintWords Go.Proofs.YtpmeapdcjmaeiaaDoorW.PrintLast Go.Proofs.YtpmeapdcjmaeiaaDoorW.PrintMore Go.Proofs.YtpmeapdcjmaeiaaDoor.PAll Go.Proofs.YtpmeapdcjmaeiaaDoor.U
structure TI where
 vk : Value
 sg : Nat
 gg : Nat
 dg : Nat
 vs : Value
 v : Value
 u : Value
 vo : Value
 gu : Nat
 f : List Int
def TF (M : TM) (I : TI) (t k : Nat) : Prop := k = t ∨ k = I.sg ∨ k = I.dg ∨ GF I.v I.u M.over I.gg k ∨ I.vs.ownBlock = some k ∨ I.vo.ownBlock = some k ∨ I.vk.ownBlock = some k
abbrev tcells (M : TM) (I : TI) : Array Value := #[.bool M.cl, I.vk, .int .i64 M.key, .pointer (some ⟨I.sg, 0, none⟩), .pointer (some ⟨I.gg, 0, none⟩), .pointer (some ⟨I.dg, 0, none⟩), I.vo, .int .i64 M.pongs, .bool M.ended]
structure Tn (w0 W : World) (t : Nat) (M : TM) (I : TI) : Prop where
 bel : Below w0.heap.size w0 W
 blk : W.heap[t]? = some (.cells (tcells M I) 49 (0, 0))
 base : w0.heap.size ≤ t
 ks : Kd.R (Kd.int .u32) 33 W w0.heap.size (fun _ => True) I.vk M.keys
 sp : Sp w0 W I.sg I.vs (!M.cl) M.sbad M.l
 sbase : w0.heap.size ≤ I.sg
 gt : Imq w0 W I.gg I.v I.u M.b M.busy M.te M.over I.gu I.f
 dr : IsS78 w0 W I.dg M.sent M.got M.code M.cause M.ecode
 out : Kd.R (Kd.int .u8) 5 W w0.heap.size (fun _ => True) I.vo M.out
 a1 : ∀ k, I.vs.ownBlock = some k → I.vo.ownBlock ≠ some k
 a2 : M.over = false → ∀ k, I.v.ownBlock = some k → I.vo.ownBlock ≠ some k ∧ I.vs.ownBlock ≠ some k
 ok : M.Ok
section
variable {w0 W W' : World} {t : Nat} {M : TM} {I : TI}
theorem row_own32 {v : Value} {xs : List Int} {base : Nat} {ok : Nat → Prop} (h : Kd.R (Kd.int .u32) 33 W base ok v xs) : Kd.R (Kd.int .u32) 33 W base (fun k => v.ownBlock = some k) v xs := by
 obtain ⟨_, inner, ho, hr⟩ := h
 exact ⟨fun _ hk => hk, inner, ho, hr.imp_ (fun _ _ hp => hp)⟩
theorem row_keep32 {v : Value} {xs : List Int} {base : Nat} {ok : Nat → Prop} (h : Kd.R (Kd.int .u32) 33 W base ok v xs) (hk : ∀ k, v.ownBlock = some k → W'.heap[k]? = W.heap[k]?) : Kd.R (Kd.int .u32) 33 W' base (fun _ => True) v xs := Kd.R_mono (Kd.R_step (row_own32 h) (fun k e _ => hk k e)) (fun _ _ => trivial)
theorem row_keep8 {v : Value} {xs : List Int} {base : Nat} {ok : Nat → Prop} (h : Kd.R (Kd.int .u8) 5 W base ok v xs) (hk : ∀ k, v.ownBlock = some k → W'.heap[k]? = W.heap[k]?) : Kd.R (Kd.int .u8) 5 W' base (fun _ => True) v xs := Kd.R_mono (row_keep h hk) (fun _ _ => trivial)
theorem Tn.lt (h : Tn w0 W t M I) {k : Nat} (hk : TF M I t k) : k < W.heap.size := by
 rcases hk with rfl | rfl | rfl | hk | hk | hk | hk
 ·exact blk_lt h.blk
 ·exact blk_lt h.sp.blk
 ·exact blk_lt h.dr.1
 ·exact h.gt.lt hk
 ·exact Kd.R_lt h.sp.row k hk
 ·exact Kd.R_lt h.out k hk
 ·exact Kd.R_lt h.ks k hk
theorem Tn.move (h : Tn w0 W t M I) (hB : Below w0.heap.size w0 W') (hk : ∀ k, TF M I t k → W'.heap[k]? = W.heap[k]?) : Tn w0 W' t M I :=
 ⟨hB, (hk t (.inl rfl)).trans h.blk, h.base, row_keep32 h.ks (fun k e => hk k (.inr (.inr (.inr (.inr (.inr (.inr e))))))),
  ⟨(hk I.sg (.inr (.inl rfl))).trans h.sp.blk, row_keep8 h.sp.row (fun k e => hk k (.inr (.inr (.inr (.inr (.inl e))))))⟩, h.sbase,
  h.gt.move hB (fun k e => hk k (.inr (.inr (.inr (.inl e))))), ⟨(hk I.dg (.inr (.inr (.inl rfl)))).trans h.dr.1, h.dr.2⟩,
  row_keep8 h.out (fun k e => hk k (.inr (.inr (.inr (.inr (.inr (.inl e))))))), h.a1, h.a2, h.ok⟩
theorem Tn.below (h : Tn w0 W t M I) (hb : Below W.heap.size W W') : Tn w0 W' t M I := h.move (below_step h.bel hb) (fun k hk => hb.block k (h.lt hk))
structure Kf (W W' : World) (F F' : Nat → Prop) : Prop where
 size : W.heap.size ≤ W'.heap.size
 keep : ∀ k, k < W.heap.size → ¬ F k → W'.heap[k]? = W.heap[k]?
 new : ∀ k, F' k → F k ∨ W.heap.size ≤ k
theorem Kf.refl (W : World) (F : Nat → Prop) : Kf W W F F := ⟨Nat.le_refl _, fun _ _ _ => rfl, fun _ h => .inl h⟩
theorem Kf.trans {W2 : World} {F F' F2 : Nat → Prop} (h : Kf W W' F F') (h2 : Kf W' W2 F' F2) : Kf W W2 F F2 :=
 ⟨Nat.le_trans h.size h2.size, fun k hk hn => (h2.keep k (Nat.lt_of_lt_of_le hk h.size) (fun e => (h.new k e).elim hn (fun h => by omega))).trans (h.keep k hk hn), fun k hk => (h2.new k hk).elim (fun e => h.new k e) (fun e => .inr (Nat.le_trans h.size e))⟩
theorem Kf.below {F F' : Nat → Prop} {W2 : World} (h : Kf W W' F F') (hb : Below W'.heap.size W' W2) : Kf W W2 F F' := ⟨Nat.le_trans h.size hb.size, fun k hk hn => (hb.block k (Nat.lt_of_lt_of_le hk h.size)).trans (h.keep k hk hn), h.new⟩
theorem Kf.from {F F' : Nat → Prop} {W2 : World} (hb : Below W.heap.size W W') (h : Kf W' W2 F F') : Kf W W2 F F' := ⟨Nat.le_trans hb.size h.size, fun k hk hn => (h.keep k (Nat.lt_of_lt_of_le hk hb.size) hn).trans (hb.block k hk), fun k hk => (h.new k hk).imp_right (fun e => Nat.le_trans hb.size e)⟩
theorem Kf.other {F F' G : Nat → Prop} (h : Kf W W' F F') (hG : ∀ k, G k → k < W.heap.size) (hd : ∀ k, G k → ¬ F k) : (∀ k, G k → W'.heap[k]? = W.heap[k]?) ∧ (∀ k, G k → ¬ F' k) :=
 ⟨fun k hk => h.keep k (hG k hk) (hd k hk), fun k hk hf => (h.new k hf).elim (hd k hk) (fun e => by have := hG k hk; omega)⟩
theorem Tn.ts (h : Tn w0 W t M I) : t ≠ I.sg := blk_ne h.blk h.sp.blk (by decide)
theorem Tn.td (h : Tn w0 W t M I) : t ≠ I.dg := blk_ne h.blk h.dr.1 (by decide)
theorem Tn.sd (h : Tn w0 W t M I) : I.sg ≠ I.dg := blk_ne h.sp.blk h.dr.1 (by decide)
theorem row_at_ne {d : Nat} {α : Type} {kd : Kd α} {v : Value} {xs : List α} {base : Nat} {ok : Nat → Prop} {e : TypeId} (h : kd.R e W base ok v xs) {g : Nat} {cs : Array Value} {ty : TypeId} (hb : W.heap[g]? = some (.cells cs ty (0, 0))) (hne : e ≠ ty) {k : Nat} (hk : v.ownBlock = some k) : k ≠ g := by
 obtain ⟨c, hc⟩ := Kd.R_typed h k hk
 exact blk_ne hc hb hne
theorem Tn.gf_ne (h : Tn w0 W t M I) {k : Nat} {cs : Array Value} {ty : TypeId} (hb : W.heap[k]? = some (.cells cs ty (0, 0))) (h1 : ty ≠ 74) (h2 : ty ≠ 144) (h3 : ty ≠ 5) : ¬ GF I.v I.u M.over I.gg k := by
 rintro (rfl | ⟨ho, e | e⟩)
 ·obtain ⟨_, _, _, _, _, hb'⟩ := h.gt.blk
  exact blk_ne hb hb' h1 rfl
 ·rcases h.gt.st with ⟨_, h4, _⟩ | ⟨h4, _⟩
  ·exact row_at_ne (d := 0) h4.gw.row hb (fun e => h3 e.symm) e rfl
  ·rw [ho] at h4; cases h4
 ·rcases h.gt.st with ⟨_, h4, _⟩ | ⟨h4, _⟩
  ·obtain ⟨c, hc⟩ := h4.gw.uty k e
   exact blk_ne hb hc h2 rfl
  ·rw [ho] at h4; cases h4
theorem Tn.set (h : Tn w0 W t M I) {M' : TM} {I' : TI} (j : Nat) (x : Value) (hc : (tcells M I).setIfInBounds j x = tcells M' I') (hM : M' = { M with key := M'.key, pongs := M'.pongs, ended := M'.ended }) (hI : I' = I) (hok : M'.Ok) : Tn w0 (W.setCell ⟨t, j, none⟩ x) t M' I' := by
 subst hI
 have hne : ∀ k, k ≠ t → (W.setCell ⟨t, j, none⟩ x).heap[k]? = W.heap[k]? := fun k e => Below.heap_setCell W ⟨t, j, none⟩ x k e
 have e1 : M'.cl = M.cl := by rw [hM]
 have e2 : M'.keys = M.keys := by rw [hM]
 have e3 : M'.l = M.l := by rw [hM]
 have e4 : M'.sbad = M.sbad := by rw [hM]
 have e5 : M'.b = M.b := by rw [hM]
 have e6 : M'.busy = M.busy := by rw [hM]
 have e7 : M'.te = M.te := by rw [hM]
 have e8 : M'.over = M.over := by rw [hM]
 have e9 : M'.sent = M.sent := by rw [hM]
 have e10 : M'.got = M.got := by rw [hM]
 have e11 : M'.code = M.code := by rw [hM]
 have e12 : M'.cause = M.cause := by rw [hM]
 have e13 : M'.ecode = M.ecode := by rw [hM]
 have e14 : M'.out = M.out := by rw [hM]
 have hB := Below.setCell h.bel (p := ⟨t, j, none⟩) h.base x
 refine ⟨hB, blk_put h.blk j x hc, h.base, ?_, ?_, h.sbase, ?_, ?_, ?_, h.a1, by rw [e8]; exact h.a2, hok⟩
 ·rw [e2]; exact row_keep32 h.ks (fun k e => hne k (row_at_ne (d := 0) h.ks h.blk (by decide) e))
 ·rw [e1, e4, e3]; exact ⟨(hne _ h.ts.symm).trans h.sp.blk, row_keep8 h.sp.row (fun k e => hne k (row_at_ne (d := 0) h.sp.row h.blk (by decide) e))⟩
 ·rw [e5, e6, e7, e8]; exact h.gt.move hB (fun k e => hne k (fun e2 => h.gf_ne h.blk (by decide) (by decide) (by decide) (e2 ▸ e)))
 ·rw [e9, e10, e11, e12, e13]; exact ⟨(hne _ h.td.symm).trans h.dr.1, h.dr.2⟩
 ·rw [e14]; exact row_keep8 h.out (fun k e => hne k (row_at_ne (d := 0) h.out h.blk (by decide) e))
theorem Tn.setOut (h : Tn w0 W t M I) {v1 : Value} {l1 : List Int} (hr : Kd.R (Kd.int .u8) 5 W w0.heap.size (fun _ => True) v1 l1) (hn : ∀ k, v1.ownBlock = some k → I.vs.ownBlock ≠ some k ∧ (M.over = false → I.v.ownBlock ≠ some k)) (hb : ∀ x ∈ l1, 0 ≤ x ∧ x ≤ 255) : Tn w0 (W.setCell ⟨t, 6, none⟩ v1) t { M with out := l1 } { I with vo := v1 } := by
 have hne : ∀ k, k ≠ t → (W.setCell ⟨t, 6, none⟩ v1).heap[k]? = W.heap[k]? := fun k e => Below.heap_setCell W ⟨t, 6, none⟩ v1 k e
 have hB := Below.setCell h.bel (p := ⟨t, 6, none⟩) h.base v1
 refine ⟨hB, blk_put h.blk 6 v1 rfl, h.base, row_keep32 h.ks (fun k e => hne k (row_at_ne (d := 0) h.ks h.blk (by decide) e)), ⟨(hne _ h.ts.symm).trans h.sp.blk, row_keep8 h.sp.row (fun k e => hne k (row_at_ne (d := 0) h.sp.row h.blk (by decide) e))⟩, h.sbase, h.gt.move hB (fun k e => hne k (fun e2 => h.gf_ne h.blk (by decide) (by decide) (by decide) (e2 ▸ e))), ⟨(hne _ h.td.symm).trans h.dr.1, h.dr.2⟩, row_keep8 hr (fun k e => hne k (row_at_ne (d := 0) hr h.blk (by decide) e)), fun k e e2 => (hn k e2).1 e, fun ho k e => ⟨fun e2 => (hn k e2).2 ho e, (h.a2 ho k e).2⟩, { h.ok with obyt := hb }⟩
theorem Tn.appOut (h : Tn w0 W t M I) {v1 : Value} {l1 : List Int} (hg : W.grownBy W' I.vo.ownBlock) (hB' : Below w0.heap.size w0 W') (hr : Kd.R (Kd.int .u8) 5 W' w0.heap.size (fun _ => True) v1 l1) (hat : v1.ownBlock = I.vo.ownBlock ∨ ∃ k, v1.ownBlock = some k ∧ W.heap.size ≤ k) (hby : ∀ x ∈ l1, 0 ≤ x ∧ x ≤ 255) : Tn w0 (W'.setCell ⟨t, 6, none⟩ v1) t { M with out := l1 } { I with vo := v1 } ∧ Kf W (W'.setCell ⟨t, 6, none⟩ v1) (TF M I t) (TF { M with out := l1 } { I with vo := v1 } t) := by
 have hsame : ∀ k, k < W.heap.size → I.vo.ownBlock ≠ some k → W'.heap[k]? = W.heap[k]? := fun k hk hn => hg.block k hk (fun e => hn e.symm)
 have hvt : I.vo.ownBlock ≠ some t := fun e => row_at_ne (d := 0) h.out h.blk (by decide) e rfl
 have hbt : W'.heap[t]? = some (.cells (tcells M I) 49 (0, 0)) := (hsame t (blk_lt h.blk) hvt).trans h.blk
 have hne : ∀ k, k ≠ t → (W'.setCell ⟨t, 6, none⟩ v1).heap[k]? = W'.heap[k]? := fun k e => Below.heap_setCell W' ⟨t, 6, none⟩ v1 k e
 have hst : ∀ k, k < W.heap.size → k ≠ t → I.vo.ownBlock ≠ some k → (W'.setCell ⟨t, 6, none⟩ v1).heap[k]? = W.heap[k]? := fun k hk h1 h2 => (hne k h1).trans (hsame k hk h2)
 have hB := Below.setCell hB' (p := ⟨t, 6, none⟩) h.base v1
 have hks : ∀ k, I.vk.ownBlock = some k → I.vo.ownBlock ≠ some k := fun k e e2 => by
  obtain ⟨c, hc⟩ := Kd.R_typed h.out k e2
  exact row_at_ne (d := 0) h.ks hc (by decide) e rfl
 have hsg : I.vo.ownBlock ≠ some I.sg := fun e => row_at_ne (d := 0) h.out h.sp.blk (by decide) e rfl
 have hdg : I.vo.ownBlock ≠ some I.dg := fun e => row_at_ne (d := 0) h.out h.dr.1 (by decide) e rfl
 have hgf : ∀ k, GF I.v I.u M.over I.gg k → I.vo.ownBlock ≠ some k := fun k hk e => by
  obtain ⟨c, hc⟩ := Kd.R_typed h.out k e
  rcases hk with rfl | ⟨ho, e2 | e2⟩
  ·obtain ⟨_, _, _, _, _, hb'⟩ := h.gt.blk
   exact blk_ne hc hb' (by decide) rfl
  ·exact (h.a2 ho k e2).1 e
  ·rcases h.gt.st with ⟨_, h4, _⟩ | ⟨h4, _⟩
   ·obtain ⟨c2, hc2⟩ := h4.gw.uty k e2
    exact blk_ne hc hc2 (by decide) rfl
   ·rw [ho] at h4; cases h4
 have hv1 : ∀ k, k < W.heap.size → v1.ownBlock = some k → I.vo.ownBlock = some k := fun k hk e => by
  rcases hat with e1 | ⟨j, e1, hj⟩
  ·rw [← e1]; exact e
  ·rw [e1] at e; injection e with e; omega
 refine ⟨⟨hB, blk_put hbt 6 v1 rfl, h.base, row_keep32 h.ks (fun k e => hst k (Kd.R_lt h.ks k e) (row_at_ne (d := 0) h.ks h.blk (by decide) e) (hks k e)), ⟨(hst _ (blk_lt h.sp.blk) h.ts.symm hsg).trans h.sp.blk, row_keep8 h.sp.row (fun k e => hst k (Kd.R_lt h.sp.row k e) (row_at_ne (d := 0) h.sp.row h.blk (by decide) e) (h.a1 k e))⟩, h.sbase, h.gt.move hB (fun k e => hst k (h.gt.lt e) (fun e2 => h.gf_ne h.blk (by decide) (by decide) (by decide) (e2 ▸ e)) (hgf k e)), ⟨(hst _ (blk_lt h.dr.1) h.td.symm hdg).trans h.dr.1, h.dr.2⟩, row_keep8 hr (fun k e => hne k (row_at_ne (d := 0) hr hbt (by decide) e)), fun k e e2 => h.a1 k e (hv1 k (Kd.R_lt h.sp.row k e) e2), fun ho k e => ⟨fun e2 => (h.a2 ho k e).1 (hv1 k (h.gt.lt (.inr ⟨ho, .inl e⟩)) e2), (h.a2 ho k e).2⟩, { h.ok with obyt := hby }⟩, ⟨Nat.le_trans hg.size (by simp [World.setCell]), fun k hk hn => hst k hk (fun e => hn (.inl e)) (fun e => hn (.inr (.inr (.inr (.inr (.inr (.inl e))))))), fun k hk => ?_⟩⟩
 rcases hk with hk | hk | hk | hk | hk | hk | hk
 ·exact .inl (.inl hk)
 ·exact .inl (.inr (.inl hk))
 ·exact .inl (.inr (.inr (.inl hk)))
 ·exact .inl (.inr (.inr (.inr (.inl hk))))
 ·exact .inl (.inr (.inr (.inr (.inr (.inl hk)))))
 ·rcases Nat.lt_or_ge k W.heap.size with hl | hl
  ·exact .inl (.inr (.inr (.inr (.inr (.inr (.inl (hv1 k hl hk)))))))
  ·exact .inr hl
 ·exact .inl (.inr (.inr (.inr (.inr (.inr (.inr hk))))))
theorem Tn.setDoor (h : Tn w0 W t M I) {s g : Bool} {c ca ec : Int} (hI : IsS78 w0 W' I.dg s g c ca ec) (hB : Below w0.heap.size w0 W') (hK : KeepBut W W' I.dg none) : Tn w0 W' t { M with sent := s, got := g, code := c, cause := ca, ecode := ec } I ∧ Kf W W' (TF M I t) (TF { M with sent := s, got := g, code := c, cause := ca, ecode := ec } I t) := by
 have hst : ∀ k, k < W.heap.size → k ≠ I.dg → W'.heap[k]? = W.heap[k]? := fun k hk hn => hK.2 k hk hn (by simp)
 have hd := h.dr.1
 have hgf : ∀ k, GF I.v I.u M.over I.gg k → k ≠ I.dg := fun k hk e => h.gf_ne hd (by decide) (by decide) (by decide) (e ▸ hk)
 refine ⟨⟨hB, (hst t (blk_lt h.blk) h.td).trans h.blk, h.base, row_keep32 h.ks (fun k e => hst k (Kd.R_lt h.ks k e) (row_at_ne (d := 0) h.ks hd (by decide) e)), ⟨(hst _ (blk_lt h.sp.blk) h.sd).trans h.sp.blk, row_keep8 h.sp.row (fun k e => hst k (Kd.R_lt h.sp.row k e) (row_at_ne (d := 0) h.sp.row hd (by decide) e))⟩, h.sbase, h.gt.move hB (fun k e => hst k (h.gt.lt e) (hgf k e)), hI, row_keep8 h.out (fun k e => hst k (Kd.R_lt h.out k e) (row_at_ne (d := 0) h.out hd (by decide) e)), h.a1, h.a2, { h.ok with }⟩, ⟨hK.1, fun k hk hn => hst k hk (fun e => hn (.inr (.inr (.inl e)))), fun k hk => .inl hk⟩⟩
end
end Go.Proofs.YtpmeapdcjmaeiaaDoor
