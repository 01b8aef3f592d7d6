/- What the law's row rests on, part 6. -/
import Derived.Test.YtpmeapdcjmaeiaaDoorZ5
set_option linter.unusedVariables false
set_option linter.unusedSimpArgs false

namespace Go.Proofs.YtpmeapdcjmaeiaaDoor.PAll
open Go.RowKit Go.Proofs.YtpmeapdcjmaeiaaDoorW.PrintWords Go.Proofs.YtpmeapdcjmaeiaaDoorW.PrintLast Go.Proofs.YtpmeapdcjmaeiaaDoorW.PrintMore
attribute [local go_sem] max2_int min2_int max_two min_two max_three min_three max_four min_four
def wsframe_May.j0 : Nat → Bool → Bool → Int → Bool → Int → List Int → Option (Bool)
 | 0, _, _, _, _, _, _ => none
 | k + 1, x3, x136000, x136001, x136002, x136003, x136004 => if x3 = true then (some false) else ((wsframe_control.f x136001).bind fun t137 => (if t137 = true then (if x136000 = true then (if (x136004.length : Int) > 125 then (some false) else (some true)) else (some false)) else (some true)))
def wsframe_May.f (k : Nat) (a0_0 : Bool) (a0_1 : Int) (a0_2 : Bool) (a0_3 : Int) (l0_4 : List Int) : Option (Bool) := (wsframe_known.f a0_1).bind fun t136 => (if t136 = true then (if a0_2 = true then (wsframe_May.j0 k (decide ((l0_4.length : Int) > 4096)) a0_0 a0_1 a0_2 a0_3 l0_4) else (if a0_3 = 0 then (wsframe_May.j0 k (decide ((l0_4.length : Int) > 4096)) a0_0 a0_1 a0_2 a0_3 l0_4) else (wsframe_May.j0 k (a0_3 != 0) a0_0 a0_1 a0_2 a0_3 l0_4))) else (wsframe_May.j0 k (!t136) a0_0 a0_1 a0_2 a0_3 l0_4))
set_option maxRecDepth 100000 in
theorem wsframe_May.mono_l : ∀ k, (∀ y0 y1 y2 y3 y4 y5, LeO (wsframe_May.j0 k y0 y1 y2 y3 y4 y5) (wsframe_May.j0 (k + 1) y0 y1 y2 y3 y4 y5))
 | 0 => fun _ _ _ _ _ _ r h => by (unfold wsframe_May.j0 at h; cases h)
 | k + 1 => by
  have ih0 := wsframe_May.mono_l k
  ·intro y0 y1 y2 y3 y4 y5
   unfold wsframe_May.j0
   repeat' first
   | (with_reducible exact ih0 _ _ _ _ _ _)
   | (with_reducible exact LeO.refl _)
   | (with_reducible exact LeO.none _)
   | (with_reducible refine LeO.ite ?_ ?_)
   | (with_reducible refine LeO.bind ?_ (fun _ => ?_))
   | exact ih0 _ _ _ _ _ _
   | exact LeO.none _
   | refine LeO.ite ?_ ?_
   | refine LeO.bind ?_ (fun _ => ?_)
set_option maxRecDepth 100000 in
theorem wsframe_May.mono : ∀ a0 a1 a2 a3 a4 k, LeO (wsframe_May.f k a0 a1 a2 a3 a4) (wsframe_May.f (k + 1) a0 a1 a2 a3 a4) := by
 intro a0 a1 a2 a3 a4 k
 have ih0 := wsframe_May.mono_l k
 unfold wsframe_May.f
 repeat' first
   | (with_reducible exact ih0 _ _ _ _ _ _)
   | (with_reducible exact LeO.refl _)
   | (with_reducible exact LeO.none _)
   | (with_reducible refine LeO.ite ?_ ?_)
   | (with_reducible refine LeO.bind ?_ (fun _ => ?_))
   | exact ih0 _ _ _ _ _ _
   | exact LeO.none _
   | refine LeO.ite ?_ ?_
   | refine LeO.bind ?_ (fun _ => ?_)
set_option maxHeartbeats 8000000 in
set_option maxRecDepth 100000 in
theorem wsframe_May.calls (k : Nat) (a0_0 : Bool) (a0_1 : Int) (a0_2 : Bool) (a0_3 : Int) (A0_4 : Option Addr) (c0_4 : Nat) (l0_4 : List Int) (r : Bool) (w : World) (hr0_4 : Kd.C (Kd.int .u8) w A0_4 l0_4.length l0_4) (hc0_4 : l0_4.length ≤ c0_4) (h : wsframe_May.f k a0_0 a0_1 a0_2 a0_3 l0_4 = some r) :
  Calls Tryd.prog 28 #[.agg #[.bool a0_0, .int .u8 a0_1, .bool a0_2, .int .u32 a0_3, .slice A0_4 l0_4.length c0_4]] w fun e w' => e = .returned (.bool r) ∧ Below w.heap.size w w' := by
 have hf58_1 := field58_1
 have hf76_0 := field76_0
 have hu52 := Tryd.underlying52
 have HR0_4 := Aside0.mk hr0_4
 have HC0_4 := Aside0.mk hc0_4
 clear hr0_4 hc0_4
 have HB := Aside0.mk (Below.refl w.heap.size w)
 have H : ((wsframe_known.f a0_1).bind fun t136 => (if t136 = true then (if a0_2 = true then (wsframe_May.j0 k (decide ((l0_4.length : Int) > 4096)) a0_0 a0_1 a0_2 a0_3 l0_4) else (if a0_3 = 0 then (wsframe_May.j0 k (decide ((l0_4.length : Int) > 4096)) a0_0 a0_1 a0_2 a0_3 l0_4) else (wsframe_May.j0 k (a0_3 != 0) a0_0 a0_1 a0_2 a0_3 l0_4))) else (wsframe_May.j0 k (!t136) a0_0 a0_1 a0_2 a0_3 l0_4))) = some r := h
 clear h
 replace H := Option.bind_eq_some_iff.mp H
 obtain ⟨t136, A20, H⟩ := H
 replace H : (if t136 = true then (if a0_2 = true then (wsframe_May.j0 k (decide ((l0_4.length : Int) > 4096)) a0_0 a0_1 a0_2 a0_3 l0_4) else (if a0_3 = 0 then (wsframe_May.j0 k (decide ((l0_4.length : Int) > 4096)) a0_0 a0_1 a0_2 a0_3 l0_4) else (wsframe_May.j0 k (a0_3 != 0) a0_0 a0_1 a0_2 a0_3 l0_4))) else (wsframe_May.j0 k (!t136) a0_0 a0_1 a0_2 a0_3 l0_4)) = some r := H
 have A2 := Aside0.mk A20
 clear A20
 have HC3 := Aside0.mk H
 clear H
 go_enter Tryd.func28, Tryd.ntmps28
 go_upto_if 3 with (first | ((with_reducible refine gate_dst (N := 1) rfl ?_); (try (refine gate_guard (by rfl) ?_; dsimp only)); refine box_event ?hg (N := 1) ?hd (cs := #[.bool a0_0, .int .u8 a0_1, .bool a0_2, .int .u32 a0_3, .slice A0_4 l0_4.length c0_4]) (t := 52) ?hr ?_; (case hd => rfl); (case hg => rfl); (case hr => first | (go_simp; done) | (go_simp; rfl)); intro gb135 hg w4 hbox hb; have n0_ := Aside0.mk (below_step (by exact q2_ HB.out) hb); have n1_ := Aside0.mk (hbox); have n2_ := Aside0.mk ((by rw [hg]; exact (below_size (by exact q2_ HB.out)) : w.heap.size ≤ gb135)); have n3_ := Aside0.mk ((by rw [hg]; exact (below_size (by exact q2_ HB.out)) : w.heap.size ≤ gb135)); clear HB; have HB := n0_; have BK135 := n1_; have GW135 := n2_; have GE135 := n3_; clear n0_ n1_ n2_ n3_; clear hb hbox hg; have hcz5_0 : w4.cell? ⟨gb135, 0, none⟩ = some (.bool a0_0) := (blk_cell BK135.out 0).trans rfl; have hcz5_1 : w4.cell? ⟨gb135, 1, none⟩ = some (.int .u8 a0_1) := (blk_cell BK135.out 1).trans rfl; have hcz5_2 : w4.cell? ⟨gb135, 2, none⟩ = some (.bool a0_2) := (blk_cell BK135.out 2).trans rfl; have hcz5_3 : w4.cell? ⟨gb135, 3, none⟩ = some (.int .u32 a0_3) := (blk_cell BK135.out 3).trans rfl; have hcz5_4 : w4.cell? ⟨gb135, 4, none⟩ = some (.slice A0_4 l0_4.length c0_4) := (blk_cell BK135.out 4).trans rfl; have hfz5_0 := blk_frozen BK135.out 0; have hfz5_1 := blk_frozen BK135.out 1; have hfz5_2 := blk_frozen BK135.out 2; have hfz5_3 := blk_frozen BK135.out 3; have hfz5_4 := blk_frozen BK135.out 4) | ((with_reducible refine gate_callee (f := 47) rfl ?_); refine goesL_ (some 6) rfl rfl Tryd.func47 (by kernel_rfl) rfl #[.int .u8 a0_1] rfl (by exact q1_) ?_; (with_reducible refine (wsframe_known.calls a0_1 t136 _ A2.out).mono ?_); rintro e w' ⟨rfl, ⟨nd, rfl⟩⟩; refine ⟨_, rfl, ?_⟩))
 (try simp only [Act.put, z1_, z2_, z3_])
 go_cut [3] (fun v3 wc => ∃ (kq : Nat) (x3_2 : Bool), v3 = .bool x3_2 ∧ Aside0 (wsframe_May.j0 kq x3_2 a0_0 a0_1 a0_2 a0_3 l0_4 = some r) ∧ Aside0 (kq ≤ k) ∧ Aside0 (wc.heap[gb135]? = some (.cells #[.bool a0_0, .int .u8 a0_1, .bool a0_2, .int .u32 a0_3, (.slice A0_4 l0_4.length c0_4)] 52 (0, 0))) ∧ Aside0 (Below w.heap.size w wc))
 case first =>
  have H := HC3.out
  clear HC3
  by_cases c6 : t136 = true
  ·subst c6
   have H1 : (if a0_2 = true then (wsframe_May.j0 k (decide ((l0_4.length : Int) > 4096)) a0_0 a0_1 a0_2 a0_3 l0_4) else (if a0_3 = 0 then (wsframe_May.j0 k (decide ((l0_4.length : Int) > 4096)) a0_0 a0_1 a0_2 a0_3 l0_4) else (wsframe_May.j0 k (a0_3 != 0) a0_0 a0_1 a0_2 a0_3 l0_4))) = some r := by rw [if_pos rfl] at H; exact H
   clear H
   have H := H1
   clear H1
   by_cases c7 : a0_2 = true
   ·subst c7
    have H1 : (wsframe_May.j0 k (decide ((l0_4.length : Int) > 4096)) a0_0 a0_1 true a0_3 l0_4) = some r := by rw [if_pos rfl] at H; exact H
    clear H
    have H := H1
    clear H1
    have H' := Aside0.mk H
    clear H
    have hcz8_0 : w4.cell? ⟨gb135, 0, none⟩ = some (.bool a0_0) := (blk_cell BK135.out 0).trans rfl
    have hcz8_1 : w4.cell? ⟨gb135, 1, none⟩ = some (.int .u8 a0_1) := (blk_cell BK135.out 1).trans rfl
    have hcz8_2 : w4.cell? ⟨gb135, 2, none⟩ = some (.bool true) := (blk_cell BK135.out 2).trans rfl
    have hcz8_3 : w4.cell? ⟨gb135, 3, none⟩ = some (.int .u32 a0_3) := (blk_cell BK135.out 3).trans rfl
    have hcz8_4 : w4.cell? ⟨gb135, 4, none⟩ = some (.slice A0_4 l0_4.length c0_4) := (blk_cell BK135.out 4).trans rfl
    have hfz8_0 := blk_frozen BK135.out 0
    have hfz8_1 := blk_frozen BK135.out 1
    have hfz8_2 := blk_frozen BK135.out 2
    have hfz8_3 := blk_frozen BK135.out 3
    have hfz8_4 := blk_frozen BK135.out 4
    go_wp2
    go_meet
    case rel => exact ⟨_, (decide ((l0_4.length : Int) > 4096)), (by first | rfl | (simp; done) | (simp [*]; done)), H', ⟨by first | omega | exact Nat.le_refl _⟩, ⟨by (with_reducible repeat (first | refine blk_drewN ?_ _ | refine blk_drew ?_ | refine blk_alloc ?_ _)); exact BK135.out⟩, ⟨by exact q3_ HB.out GE135.out⟩⟩
   ·replace c7 := Bool.eq_false_iff.mpr c7
    subst c7
    have H1 : (if a0_3 = 0 then (wsframe_May.j0 k (decide ((l0_4.length : Int) > 4096)) a0_0 a0_1 false a0_3 l0_4) else (wsframe_May.j0 k (a0_3 != 0) a0_0 a0_1 false a0_3 l0_4)) = some r := by rw [if_neg (show ¬ (false = true) by decide)] at H; exact H
    clear H
    have H := H1
    clear H1
    by_cases c9 : a0_3 = 0
    ·rw [if_pos c9] at H
     have c9b0 : (a0_3 == 0) = true := beq_iff_eq.mpr c9
     have c9b1 : (a0_3 != 0) = false := bne_eq_false_iff_eq.mpr c9
     clear c9
     (first | rw [c9b0] | (simp only [i64_w, i32_w]; rw [c9b0]) | skip)
     have H' := Aside0.mk H
     clear H
     have hcz10_0 : w4.cell? ⟨gb135, 0, none⟩ = some (.bool a0_0) := (blk_cell BK135.out 0).trans rfl
     have hcz10_1 : w4.cell? ⟨gb135, 1, none⟩ = some (.int .u8 a0_1) := (blk_cell BK135.out 1).trans rfl
     have hcz10_2 : w4.cell? ⟨gb135, 2, none⟩ = some (.bool false) := (blk_cell BK135.out 2).trans rfl
     have hcz10_3 : w4.cell? ⟨gb135, 3, none⟩ = some (.int .u32 a0_3) := (blk_cell BK135.out 3).trans rfl
     have hcz10_4 : w4.cell? ⟨gb135, 4, none⟩ = some (.slice A0_4 l0_4.length c0_4) := (blk_cell BK135.out 4).trans rfl
     have hfz10_0 := blk_frozen BK135.out 0
     have hfz10_1 := blk_frozen BK135.out 1
     have hfz10_2 := blk_frozen BK135.out 2
     have hfz10_3 := blk_frozen BK135.out 3
     have hfz10_4 := blk_frozen BK135.out 4
     go_wp2
     go_meet
     case rel => exact ⟨_, (decide ((l0_4.length : Int) > 4096)), (by first | rfl | (simp; done) | (simp [*]; done)), H', ⟨by first | omega | exact Nat.le_refl _⟩, ⟨by (with_reducible repeat (first | refine blk_drewN ?_ _ | refine blk_drew ?_ | refine blk_alloc ?_ _)); exact BK135.out⟩, ⟨by exact q3_ HB.out GE135.out⟩⟩
    ·rw [if_neg c9] at H
     have c9b0 : (a0_3 == 0) = false := beq_eq_false_iff_ne.mpr c9
     have c9b1 : (a0_3 != 0) = true := bne_iff_ne.mpr c9
     (first | rw [c9b0] | (simp only [i64_w, i32_w]; rw [c9b0]) | skip)
     have H' := Aside0.mk H
     clear H
     have hcz11_0 : w4.cell? ⟨gb135, 0, none⟩ = some (.bool a0_0) := (blk_cell BK135.out 0).trans rfl
     have hcz11_1 : w4.cell? ⟨gb135, 1, none⟩ = some (.int .u8 a0_1) := (blk_cell BK135.out 1).trans rfl
     have hcz11_2 : w4.cell? ⟨gb135, 2, none⟩ = some (.bool false) := (blk_cell BK135.out 2).trans rfl
     have hcz11_3 : w4.cell? ⟨gb135, 3, none⟩ = some (.int .u32 a0_3) := (blk_cell BK135.out 3).trans rfl
     have hcz11_4 : w4.cell? ⟨gb135, 4, none⟩ = some (.slice A0_4 l0_4.length c0_4) := (blk_cell BK135.out 4).trans rfl
     have hfz11_0 := blk_frozen BK135.out 0
     have hfz11_1 := blk_frozen BK135.out 1
     have hfz11_2 := blk_frozen BK135.out 2
     have hfz11_3 := blk_frozen BK135.out 3
     have hfz11_4 := blk_frozen BK135.out 4
     go_wp2
     go_meet
     case rel => exact ⟨_, ((a0_3 != 0)), (by first | rfl | (simp; done) | (simp [*]; done)), H', ⟨by first | omega | exact Nat.le_refl _⟩, ⟨by (with_reducible repeat (first | refine blk_drewN ?_ _ | refine blk_drew ?_ | refine blk_alloc ?_ _)); exact BK135.out⟩, ⟨by exact q3_ HB.out GE135.out⟩⟩
  ·replace c6 := Bool.eq_false_iff.mpr c6
   subst c6
   have H1 : (wsframe_May.j0 k (!false) a0_0 a0_1 a0_2 a0_3 l0_4) = some r := by rw [if_neg (show ¬ (false = true) by decide)] at H; exact H
   clear H
   have H := H1
   clear H1
   have H' := Aside0.mk H
   clear H
   go_wp2
   go_meet
   case rel => exact ⟨_, (!false), (by first | rfl | (simp; done) | (simp [*]; done)), H', ⟨by first | omega | exact Nat.le_refl _⟩, ⟨by (with_reducible repeat (first | refine blk_drewN ?_ _ | refine blk_drew ?_ | refine blk_alloc ?_ _)); exact BK135.out⟩, ⟨by exact q3_ HB.out GE135.out⟩⟩
 case rest =>
  clear HC3
  try clear c2
  try clear p2
  try clear c4
  try clear c6
  try clear c7
  try clear c9
  try clear c9b0
  try clear c9b1
  try clear hcz10_0
  try clear hcz10_1
  try clear hcz10_2
  try clear hcz10_3
  try clear hcz10_4
  try clear hcz11_0
  try clear hcz11_1
  try clear hcz11_2
  try clear hcz11_3
  try clear hcz11_4
  try clear hcz5_0
  try clear hcz5_1
  try clear hcz5_2
  try clear hcz5_3
  try clear hcz5_4
  try clear hcz8_0
  try clear hcz8_1
  try clear hcz8_2
  try clear hcz8_3
  try clear hcz8_4
  try clear hfz10_0
  try clear hfz10_1
  try clear hfz10_2
  try clear hfz10_3
  try clear hfz10_4
  try clear hfz11_0
  try clear hfz11_1
  try clear hfz11_2
  try clear hfz11_3
  try clear hfz11_4
  try clear hfz5_0
  try clear hfz5_1
  try clear hfz5_2
  try clear hfz5_3
  try clear hfz5_4
  try clear hfz8_0
  try clear hfz8_1
  try clear hfz8_2
  try clear hfz8_3
  try clear hfz8_4
  obtain ⟨kq, x3_2, rfl, HA, HJ2, BK135, HB⟩ := hcut
  cases kq with
  | zero => exact absurd HA.out (by simp [wsframe_May.j0])
  | succ kj2 =>
   have H := HA.out
   clear HA
   simp only [wsframe_May.j0] at H
   by_cases c12 : x3_2 = true
   ·subst c12
    have H1 : (some false) = some r := by rw [if_pos rfl] at H; exact H
    clear H
    have H := H1
    clear H1
    obtain rfl := Option.some.inj H
    go_wp2
    go_ret
    exact ⟨by exact q11_, by exact q3_ HB.out GE135.out⟩
   ·replace c12 := Bool.eq_false_iff.mpr c12
    subst c12
    have H1 : ((wsframe_control.f a0_1).bind fun t137 => (if t137 = true then (if a0_0 = true then (if (l0_4.length : Int) > 125 then (some false) else (some true)) else (some false)) else (some true))) = some r := by rw [if_neg (show ¬ (false = true) by decide)] at H; exact H
    clear H
    have H := H1
    clear H1
    replace H := Option.bind_eq_some_iff.mp H
    obtain ⟨t137, A130, H⟩ := H
    replace H : (if t137 = true then (if a0_0 = true then (if (l0_4.length : Int) > 125 then (some false) else (some true)) else (some false)) else (some true)) = some r := H
    have A13 := Aside0.mk A130
    clear A130
    by_cases c14 : t137 = true
    ·subst c14
     have H1 : (if a0_0 = true then (if (l0_4.length : Int) > 125 then (some false) else (some true)) else (some false)) = some r := by rw [if_pos rfl] at H; exact H
     clear H
     have H := H1
     clear H1
     by_cases c15 : a0_0 = true
     ·subst c15
      have H1 : (if (l0_4.length : Int) > 125 then (some false) else (some true)) = some r := by rw [if_pos rfl] at H; exact H
      clear H
      have H := H1
      clear H1
      by_cases c16 : (l0_4.length : Int) > 125
      ·rw [if_pos c16] at H
       have c16b0 : decide (125 < (l0_4.length : Int)) = true := decide_eq_true c16
       have c16b1 : decide (125 < l0_4.length) = true := decide_eq_true (by omega)
       clear c16
       obtain rfl := Option.some.inj H
       have hcz17_0 : wc.cell? ⟨gb135, 0, none⟩ = some (.bool true) := (blk_cell BK135.out 0).trans rfl
       have hcz17_1 : wc.cell? ⟨gb135, 1, none⟩ = some (.int .u8 a0_1) := (blk_cell BK135.out 1).trans rfl
       have hcz17_2 : wc.cell? ⟨gb135, 2, none⟩ = some (.bool a0_2) := (blk_cell BK135.out 2).trans rfl
       have hcz17_3 : wc.cell? ⟨gb135, 3, none⟩ = some (.int .u32 a0_3) := (blk_cell BK135.out 3).trans rfl
       have hcz17_4 : wc.cell? ⟨gb135, 4, none⟩ = some (.slice A0_4 l0_4.length c0_4) := (blk_cell BK135.out 4).trans rfl
       have hfz17_0 := blk_frozen BK135.out 0
       have hfz17_1 := blk_frozen BK135.out 1
       have hfz17_2 := blk_frozen BK135.out 2
       have hfz17_3 := blk_frozen BK135.out 3
       have hfz17_4 := blk_frozen BK135.out 4
       go_wp2_with (first | ((with_reducible refine gate_callee (f := 48) rfl ?_); refine goesL_ (some 23) rfl rfl Tryd.func48 (by kernel_rfl) rfl #[.int .u8 a0_1] rfl (by exact q1_) ?_; (with_reducible refine (wsframe_control.calls a0_1 true _ A13.out).mono ?_); rintro e w' ⟨rfl, ⟨nd, rfl⟩⟩; refine ⟨_, rfl, ?_⟩))
       go_ret
       exact ⟨by exact q11_, by exact q3_ HB.out GE135.out⟩
      ·rw [if_neg c16] at H
       have c16b0 : decide (125 < (l0_4.length : Int)) = false := decide_eq_false c16
       have c16b1 : decide (125 < l0_4.length) = false := decide_eq_false (by omega)
       clear c16
       obtain rfl := Option.some.inj H
       have hcz18_0 : wc.cell? ⟨gb135, 0, none⟩ = some (.bool true) := (blk_cell BK135.out 0).trans rfl
       have hcz18_1 : wc.cell? ⟨gb135, 1, none⟩ = some (.int .u8 a0_1) := (blk_cell BK135.out 1).trans rfl
       have hcz18_2 : wc.cell? ⟨gb135, 2, none⟩ = some (.bool a0_2) := (blk_cell BK135.out 2).trans rfl
       have hcz18_3 : wc.cell? ⟨gb135, 3, none⟩ = some (.int .u32 a0_3) := (blk_cell BK135.out 3).trans rfl
       have hcz18_4 : wc.cell? ⟨gb135, 4, none⟩ = some (.slice A0_4 l0_4.length c0_4) := (blk_cell BK135.out 4).trans rfl
       have hfz18_0 := blk_frozen BK135.out 0
       have hfz18_1 := blk_frozen BK135.out 1
       have hfz18_2 := blk_frozen BK135.out 2
       have hfz18_3 := blk_frozen BK135.out 3
       have hfz18_4 := blk_frozen BK135.out 4
       go_wp2_with (first | ((with_reducible refine gate_callee (f := 48) rfl ?_); refine goesL_ (some 23) rfl rfl Tryd.func48 (by kernel_rfl) rfl #[.int .u8 a0_1] rfl (by exact q1_) ?_; (with_reducible refine (wsframe_control.calls a0_1 true _ A13.out).mono ?_); rintro e w' ⟨rfl, ⟨nd, rfl⟩⟩; refine ⟨_, rfl, ?_⟩))
       go_ret
       exact ⟨by exact q11_, by exact q3_ HB.out GE135.out⟩
     ·replace c15 := Bool.eq_false_iff.mpr c15
      subst c15
      have H1 : (some false) = some r := by rw [if_neg (show ¬ (false = true) by decide)] at H; exact H
      clear H
      have H := H1
      clear H1
      obtain rfl := Option.some.inj H
      have hcz19_0 : wc.cell? ⟨gb135, 0, none⟩ = some (.bool false) := (blk_cell BK135.out 0).trans rfl
      have hcz19_1 : wc.cell? ⟨gb135, 1, none⟩ = some (.int .u8 a0_1) := (blk_cell BK135.out 1).trans rfl
      have hcz19_2 : wc.cell? ⟨gb135, 2, none⟩ = some (.bool a0_2) := (blk_cell BK135.out 2).trans rfl
      have hcz19_3 : wc.cell? ⟨gb135, 3, none⟩ = some (.int .u32 a0_3) := (blk_cell BK135.out 3).trans rfl
      have hcz19_4 : wc.cell? ⟨gb135, 4, none⟩ = some (.slice A0_4 l0_4.length c0_4) := (blk_cell BK135.out 4).trans rfl
      have hfz19_0 := blk_frozen BK135.out 0
      have hfz19_1 := blk_frozen BK135.out 1
      have hfz19_2 := blk_frozen BK135.out 2
      have hfz19_3 := blk_frozen BK135.out 3
      have hfz19_4 := blk_frozen BK135.out 4
      go_wp2_with (first | ((with_reducible refine gate_callee (f := 48) rfl ?_); refine goesL_ (some 23) rfl rfl Tryd.func48 (by kernel_rfl) rfl #[.int .u8 a0_1] rfl (by exact q1_) ?_; (with_reducible refine (wsframe_control.calls a0_1 true _ A13.out).mono ?_); rintro e w' ⟨rfl, ⟨nd, rfl⟩⟩; refine ⟨_, rfl, ?_⟩))
      go_ret
      exact ⟨by exact q11_, by exact q3_ HB.out GE135.out⟩
    ·replace c14 := Bool.eq_false_iff.mpr c14
     subst c14
     have H1 : (some true) = some r := by rw [if_neg (show ¬ (false = true) by decide)] at H; exact H
     clear H
     have H := H1
     clear H1
     obtain rfl := Option.some.inj H
     have hcz20_0 : wc.cell? ⟨gb135, 0, none⟩ = some (.bool a0_0) := (blk_cell BK135.out 0).trans rfl
     have hcz20_1 : wc.cell? ⟨gb135, 1, none⟩ = some (.int .u8 a0_1) := (blk_cell BK135.out 1).trans rfl
     have hcz20_2 : wc.cell? ⟨gb135, 2, none⟩ = some (.bool a0_2) := (blk_cell BK135.out 2).trans rfl
     have hcz20_3 : wc.cell? ⟨gb135, 3, none⟩ = some (.int .u32 a0_3) := (blk_cell BK135.out 3).trans rfl
     have hcz20_4 : wc.cell? ⟨gb135, 4, none⟩ = some (.slice A0_4 l0_4.length c0_4) := (blk_cell BK135.out 4).trans rfl
     have hfz20_0 := blk_frozen BK135.out 0
     have hfz20_1 := blk_frozen BK135.out 1
     have hfz20_2 := blk_frozen BK135.out 2
     have hfz20_3 := blk_frozen BK135.out 3
     have hfz20_4 := blk_frozen BK135.out 4
     go_wp2_with (first | ((with_reducible refine gate_callee (f := 48) rfl ?_); refine goesL_ (some 23) rfl rfl Tryd.func48 (by kernel_rfl) rfl #[.int .u8 a0_1] rfl (by exact q1_) ?_; (with_reducible refine (wsframe_control.calls a0_1 false _ A13.out).mono ?_); rintro e w' ⟨rfl, ⟨nd, rfl⟩⟩; refine ⟨_, rfl, ?_⟩))
     go_ret
     exact ⟨by exact q11_, by exact q3_ HB.out GE135.out⟩
def wsframe_key.f (a0 : Int) : Option (List Int) := some (([(a0 / 16777216) % 256, (a0 / 65536) % 256, (a0 / 256) % 256, (a0) % 256] : List Int))
set_option maxHeartbeats 8000000 in
set_option maxRecDepth 100000 in
theorem wsframe_key.calls (a0 : Int) (r : List Int) (w : World) (h : wsframe_key.f a0 = some r) :
  Calls Tryd.prog 29 #[.int .u32 a0] w fun e w' => ∃ v0_ : Value, e = .returned (v0_) ∧ Kd.R (Kd.int .u8) 5 w' w.heap.size (fun _ => True) v0_ r ∧ Below w.heap.size w w' := by
 have hf58_1 := field58_1
 have hf76_0 := field76_0
 have HB := Aside0.mk (Below.refl w.heap.size w)
 have H : (some (([(a0 / 16777216) % 256, (a0 / 65536) % 256, (a0 / 256) % 256, (a0) % 256] : List Int))) = some r := h
 clear h
 obtain ⟨y138, hy138⟩ : ∃ y_ : List Int, y_ = (([(a0 / 16777216) % 256, (a0 / 65536) % 256, (a0 / 256) % 256, (a0) % 256] : List Int)) := ⟨_, rfl⟩
 replace H : (some y138) = some r := by first | (rw [hy138]; with_reducible exact H) | (have H2_ := (Option.bind_some _ _).symm.trans H; rw [hy138]; with_reducible exact H2_) | (have H2_ := (Option.bind_some _ _).symm.trans H; with_reducible exact H2_) | with_reducible exact H | (rw [hy138]; exact H) | exact H
 have Ny138 := Aside0.mk hy138
 clear hy138
 obtain rfl := Option.some.inj H
 go_enter Tryd.func29, Tryd.ntmps29
 go_wp2_with (first | ((with_reducible refine gate_dst (N := 14) rfl ?_); refine Kd.R_lit (Kd.int .u8) _ 5 ?hg (N := 14) ?hd (xs := ([(a0 / 16777216) % 256, (a0 / 65536) % 256, (a0 / 256) % 256, (a0) % 256] : List Int)) (inner := [.int .u8 ((a0 / 16777216) % 256), .int .u8 ((a0 / 65536) % 256), .int .u8 ((a0 / 256) % 256), .int .u8 ((a0) % 256)]) (ok := fun _ => True) (okp := fun _ => True) ?hr ?hp (fun _ hk => hk) trivial (Below.refl _ _) (Nat.le_refl _) (by simp) ?_; (case hd => rfl); (case hg => rfl); (case hr => first | (go_simp; done) | (go_simp; rfl)); (case hp => exact (Reps.one (show Kd.M (Kd.int .u8) _ _ _ ((a0 / 16777216) % 256) [.int .u8 ((a0 / 16777216) % 256)] from rfl) (Reps.one (show Kd.M (Kd.int .u8) _ _ _ ((a0 / 65536) % 256) [.int .u8 ((a0 / 65536) % 256)] from rfl) (Reps.one (show Kd.M (Kd.int .u8) _ _ _ ((a0 / 256) % 256) [.int .u8 ((a0 / 256) % 256)] from rfl) (Reps.one (show Kd.M (Kd.int .u8) _ _ _ ((a0) % 256) [.int .u8 ((a0) % 256)] from rfl) (Reps.none _ _)))))); intro v139 w2 ho3 hb hg_ hnew_; clear hg_ hnew_; (first | rw [← Ny138.out] at ho3 | (simp only [Int.reduceToNat] at ho3; rw [← Ny138.out] at ho3)); have n0_ := Aside0.mk (Kd.R_lower ho3 (below_size (by exact q2_ HB.out))); have n1_ := Aside0.mk (below_step (by exact q2_ HB.out) hb); clear HB; have HO140 := n0_; have HB := n1_; clear n0_ n1_; clear hb ho3))
 go_ret
 exact ⟨_, by exact q11_, by (with_reducible repeat (first | apply Kd.R_alloc | apply Kd.R_drewN | apply Kd.R_drew)); exact HO140.out, by exact q2_ HB.out⟩
theorem eqlNil (w : World) (A : Option Addr) (n c : Nat) : (binOp .eql 26 (.slice A n c) (.slice none 0 0)).run Tryd.prog w = .ok (.bool A.isNone) w := by
 have h : ∀ d : Nat, (Op.equalIn (d + 1) 26 (.slice A n c) (.slice none 0 0)).run Tryd.prog w = .ok A.isNone w := fun d => by
  cases A <;> simp [Op.equalIn, run_underlying Tryd.underlying26]
 simp only [binOp]
 simp [Op.equal, Op.maxDepth, h 9999]
def bytes_Clone.f (l0 : List Int) : Option (List Int) := if (l0.length : Int) ≤ 140737488355328 then some l0 else none
set_option maxHeartbeats 4000000 in
theorem bytes_Clone.calls (A0 : Option Addr) (c0 : Nat) (l0 : List Int) (r : List Int) (w : World) (hr0 : Kd.C (Kd.int .u8) w A0 l0.length l0) (hc0 : l0.length ≤ c0) (h : bytes_Clone.f l0 = some r) :
  Calls Tryd.prog 35 #[.slice A0 l0.length c0] w fun e w' => ∃ v0_ : Value, e = .returned (v0_) ∧ Kd.R (Kd.int .u8) 5 w' w.heap.size (fun _ => True) v0_ r ∧ Below w.heap.size w w' := by
 have hf58_1 := field58_1
 have hf76_0 := field76_0
 unfold bytes_Clone.f at h
 have hlen : (l0.length : Int) ≤ 140737488355328 := by
  by_cases hb : (l0.length : Int) ≤ 140737488355328
  ·exact hb
  ·rw [if_neg hb] at h; cases h
 rw [if_pos hlen] at h
 obtain rfl := Option.some.inj h
 have huS := Tryd.underlying26
 have huB := Tryd.underlying5
 have HR := Aside0.mk hr0
 have hinfo : (Tryd.prog.info? 5).map (fun i => (i.zero, i.size, i.bytes)) = some (some (.int .u8 0), 1, 1) := by kernel_rfl
 rcases A0 with _ | ad
 ·have h0 : l0 = [] := by
   cases l0 with
   | nil => rfl
   | cons a t => obtain ⟨_, h, _⟩ := HR.out.2.2 (by simp); cases h
  subst h0
  clear hr0 HR
  have hnil : ∀ W, (binOp .eql 26 (.slice none 0 c0) (.slice none 0 0)).run Tryd.prog W = .ok (.bool true) W := fun W => eqlNil W none 0 c0
  go_enter Tryd.func35, Tryd.ntmps35
  go_wp2_with fail
  go_ret
  exact ⟨_, rfl, Kd.R_nil _ _ _ _ _, Below.refl _ _⟩
 ·have HL := Aside0.mk hlen
  clear hr0 hlen
  have hnil : ∀ W, (binOp .eql 26 (.slice (some ad) l0.length c0) (.slice none 0 0)).run Tryd.prog W = .ok (.bool false) W := fun W => eqlNil W (some ad) l0.length c0
  go_enter Tryd.func35, Tryd.ntmps35
  have HO : Aside0 ((w.alloc (.cells #[] 5)).ownsRow w.heap.size 5 1 (.slice (some ⟨w.heap.size, 0, none⟩) 0 0) 0 []) := ⟨⟨rfl, .inr ⟨w.heap.size, 0, #[], rfl, Nat.le_refl _, blk_new w _, Nat.le_refl _, by decide, rfl, rfl⟩⟩⟩
  have HS : Aside0 (ReadsInt (w.alloc (.cells #[] 5)) .u8 (some ad) l0.length l0) := ⟨Kd.reads_of_C (Kd.C_alloc HR.out _)⟩
  go_wp2_with (at_builtin; refine print_append_row (w0 := w) w.heap.size rfl (.tmp 5) (.tmp 6) 26 5 .u8 1 rfl Tryd.underlying26 info5 (by decide) (.slice (some ⟨w.heap.size, 0, none⟩) 0 0) [] l0 (some ad) l0.length c0 rfl rfl HO.out HS.out ((Below.refl _ _).alloc (Nat.le_refl _) _) (by simp) (by have := HL.out; simp; omega) ?_; intro v1 w1 ho hb hg hat)
  go_ret
  exact ⟨_, rfl, Kd.R_of_own (show w1.ownsRow w.heap.size 5 1 v1 l0.length (nums .u8 l0) by simpa using ho) (fun _ _ => trivial), hb⟩
def wsframe_Turn.l0 : Nat → List Int → List Int → Int → Int → Option (List Int)
 | 0, _, _, _, _ => none
 | k + 1, x5, x6, x13, x14 => if x14 < x13 then (if 0 ≤ x14 then (if x14 < (x5.length : Int) then (if (x6.length : Int) = 0 then (none) else (if 0 ≤ (Int.tmod x14 (x6.length : Int)) then (if (Int.tmod x14 (x6.length : Int)) < (x6.length : Int) then (wsframe_Turn.l0 k (x5.set (x14 : Int).toNat (Go.bits .xor .u8 (rd x5 x14) (rd x6 (Int.tmod x14 (x6.length : Int))))) x6 x13 (wrap64 (x14 + 1))) else (none)) else (none))) else (none)) else (none)) else (some x5)
def wsframe_Turn.f (k : Nat) (l0 : List Int) (a1 : Int) : Option (List Int) := (bytes_Clone.f l0).bind fun t141 => ((wsframe_key.f a1).bind fun t144 => (wsframe_Turn.l0 k t141 t144 (t141.length : Int) 0))
set_option maxRecDepth 100000 in
theorem wsframe_Turn.mono_l : ∀ k, (∀ y0 y1 y2 y3, LeO (wsframe_Turn.l0 k y0 y1 y2 y3) (wsframe_Turn.l0 (k + 1) y0 y1 y2 y3))
 | 0 => fun _ _ _ _ r h => by (unfold wsframe_Turn.l0 at h; cases h)
 | k + 1 => by
  have ih0 := wsframe_Turn.mono_l k
  ·intro y0 y1 y2 y3
   unfold wsframe_Turn.l0
   repeat' first
   | (with_reducible exact ih0 _ _ _ _)
   | (with_reducible exact LeO.refl _)
   | (with_reducible exact LeO.none _)
   | (with_reducible refine LeO.ite ?_ ?_)
   | (with_reducible refine LeO.bind ?_ (fun _ => ?_))
   | exact ih0 _ _ _ _
   | exact LeO.none _
   | refine LeO.ite ?_ ?_
   | refine LeO.bind ?_ (fun _ => ?_)
set_option maxRecDepth 100000 in
theorem wsframe_Turn.mono : ∀ a0 a1 k, LeO (wsframe_Turn.f k a0 a1) (wsframe_Turn.f (k + 1) a0 a1) := by
 intro a0 a1 k
 have ih0 := wsframe_Turn.mono_l k
 unfold wsframe_Turn.f
 repeat' first
   | (with_reducible exact ih0 _ _ _ _)
   | (with_reducible exact LeO.refl _)
   | (with_reducible exact LeO.none _)
   | (with_reducible refine LeO.ite ?_ ?_)
   | (with_reducible refine LeO.bind ?_ (fun _ => ?_))
   | exact ih0 _ _ _ _
   | exact LeO.none _
   | refine LeO.ite ?_ ?_
   | refine LeO.bind ?_ (fun _ => ?_)
def wsframe_Turn.T6 : Bool × List (List Nat × List Nat) := (true, [([], []), ([], []), ([0, 1], [0, 1]), ([2], [2]), ([], []), ([], []), ([], []), ([6], [6]), ([5, 7], [5, 7]), ([4, 8], [4, 8]), ([9], [9]), ([3, 10], [3, 10]), ([0, 1, 0, 1, 2, 3, 4, 5, 6, 7, 8, 9, 10, 11], [0, 1]), ([12, 11, 0, 1, 2, 3, 4, 5, 6, 7, 8, 9, 10, 11], [11, 12])])
def wsframe_Turn.B6 : List Nat := [0, 0, 3, 7, 0, 0, 0, 64, 224, 496, 1008, 2047, 4095, 8191]
theorem wsframe_Turn.tab6 : rtab .any (opsOf Tryd.f30 6) = wsframe_Turn.T6 := by kernel_rfl
theorem wsframe_Turn.bits6 : waitsOk wsframe_Turn.T6.2 wsframe_Turn.B6 = true := by kernel_rfl
set_option maxHeartbeats 8000000 in
set_option maxRecDepth 100000 in
theorem wsframe_Turn.calls (k : Nat) (A0 : Option Addr) (c0 : Nat) (l0 : List Int) (a1 : Int) (r : List Int) (w : World) (hr0 : Kd.C (Kd.int .u8) w A0 l0.length l0) (hc0 : l0.length ≤ c0) (h : wsframe_Turn.f k l0 a1 = some r) :
  Calls Tryd.prog 30 #[.slice A0 l0.length c0, .int .u32 a1] w fun e w' => ∃ v0_ : Value, e = .returned (v0_) ∧ Kd.R (Kd.int .u8) 5 w' w.heap.size (fun _ => True) v0_ r ∧ Below w.heap.size w w' := by
 have hf58_1 := field58_1
 have hf76_0 := field76_0
 have HR0 := Aside0.mk hr0
 have HC0 := Aside0.mk hc0
 clear hr0 hc0
 have HB := Aside0.mk (Below.refl w.heap.size w)
 have H : ((bytes_Clone.f l0).bind fun t141 => ((wsframe_key.f a1).bind fun t144 => (wsframe_Turn.l0 k t141 t144 (t141.length : Int) 0))) = some r := h
 clear h
 replace H := Option.bind_eq_some_iff.mp H
 obtain ⟨t141, A30, H⟩ := H
 replace H : ((wsframe_key.f a1).bind fun t144 => (wsframe_Turn.l0 k t141 t144 (t141.length : Int) 0)) = some r := H
 have A3 := Aside0.mk A30
 clear A30
 replace H := Option.bind_eq_some_iff.mp H
 obtain ⟨t144, A40, H⟩ := H
 replace H : (wsframe_Turn.l0 k t141 t144 (t141.length : Int) 0) = some r := H
 have A4 := Aside0.mk A40
 clear A40
 have H' := Aside0.mk H
 clear H
 go_enter Tryd.func30, Tryd.ntmps30
 go_wp2_with (first | ((with_reducible refine gate_callee (f := 35) rfl ?_); refine goesL_ (some 9) rfl rfl Tryd.func35 (by kernel_rfl) rfl #[.slice A0 l0.length c0] rfl (by exact q1_) ?_; (with_reducible refine (bytes_Clone.calls _ _ l0 t141 _ ?side1 ?side2 A3.out).mono ?_); (case side1 => repeat (first | exact HR0.out | (with_reducible refine Kd.C_alloc ?_ _) | (with_reducible refine Kd.C_drewN ?_ _) | (with_reducible refine Kd.C_drew ?_))); (case side2 => exact HC0.out); rintro e w5 ⟨v142, rfl, ho0, hb⟩; refine ⟨_, rfl, ?_⟩; have n0_ := Aside0.mk (Kd.R_lower ho0 (below_size (by exact q2_ HB.out))); have n1_ := Aside0.mk (below_step (by exact q2_ HB.out) hb); clear HB; have HO143 := n0_; have HB := n1_; clear n0_ n1_; (try clear hb); (try clear hb2); (try clear hk); (try clear hi); (try clear ho0)) | ((with_reducible refine gate_callee (f := 29) rfl ?_); refine goesL_ (some 11) rfl rfl Tryd.func29 (by kernel_rfl) rfl #[.int .u32 a1] rfl (by exact q1_) ?_; (with_reducible refine (wsframe_key.calls a1 t144 _ A4.out).mono ?_); rintro e w6 ⟨v145, rfl, ho0, hb⟩; refine ⟨_, rfl, ?_⟩; have n0_ := Aside0.mk (Kd.R_elder' (by exact q10_ HO143.out) (Kd.R_base ho0) hb); have n1_ := Aside0.mk (Kd.R_lower (Kd.R_new' ho0 (Kd.R_lt (by exact q10_ HO143.out))) (below_size (by exact q2_ HB.out))); have n2_ := Aside0.mk (below_step (by exact q2_ HB.out) hb); clear HO143; clear HB; have HO143 := n0_; have HO146 := n1_; have HB := n2_; clear n0_ n1_ n2_; (try clear hb); (try clear hb2); (try clear hk); (try clear hi); (try clear ho0); obtain ⟨Ao7, co7, eo7⟩ := Kd.R_slice HO143.out; subst eo7))
 go_loopg [14] k (fun kq v14 w' => ∃ (x5_1 : List Int) (x14_1 : Int), v14 = .int .i64 x14_1 ∧ Aside0 (wsframe_Turn.l0 kq x5_1 t144 (t141.length : Int) x14_1 = some r) ∧ Aside0 (kq ≤ k) ∧ Aside0 (Kd.R (Kd.int .u8) 5 w' w.heap.size (fun k_ => some k_ ≠ (v145 : Value).ownBlock) (.slice Ao7 t141.length co7) x5_1) ∧ Aside0 (Kd.R (Kd.int .u8) 5 w' w.heap.size (fun k_ => some k_ ≠ ((.slice Ao7 t141.length co7) : Value).ownBlock) v145 t144) ∧ Aside0 (Below w.heap.size w w'))
 case atStart => exact ⟨(t141), (0), (by first | rfl | (simp; done) | (simp [*]; done)), H', ⟨Nat.le_refl _⟩, ⟨by (with_reducible repeat (first | apply Kd.R_alloc | apply Kd.R_drewN | apply Kd.R_drew)); exact Kd.R_mono HO143.out (fun _ hk => hk.2)⟩, ⟨by (with_reducible repeat (first | apply Kd.R_alloc | apply Kd.R_drewN | apply Kd.R_drew)); exact Kd.R_mono HO146.out (fun _ hk => hk.2)⟩, ⟨by exact q2_ HB.out⟩⟩
 case round =>
  clear H'
  try clear c2
  try clear p2
  try clear c3
  obtain ⟨x5_1, x14_1, rfl, HA, HK1, HO_5, HO_6, HB⟩ := hrel
  have hl5_1 := (Kd.R_reads' HO_5.out).1
  rw [hl5_1] at HO_5
  (try simp only [hl5_1])
  (try simp only [hl5_1] at HO_6)
  cases gk with
  | zero => exact absurd HA.out (by simp [wsframe_Turn.l0])
  | succ k1 =>
   have H := HA.out
   clear HA
   simp only [wsframe_Turn.l0] at H
   by_cases c8 : x14_1 < (t141.length : Int)
   ·rw [if_pos c8] at H
    have c8b0 : decide (x14_1 < (t141.length : Int)) = true := decide_eq_true c8
    have c8b0q := c8b0; (try simp only [hl5_1] at c8b0q)
    clear c8
    by_cases c9 : 0 ≤ x14_1
    ·rw [if_pos c9] at H
     have c9b0 : decide (0 ≤ x14_1) = true := decide_eq_true c9
     clear c9
     by_cases c10 : x14_1 < (x5_1.length : Int)
     ·rw [if_pos c10] at H
      have c10b0 : decide (x14_1 < (x5_1.length : Int)) = true := decide_eq_true c10
      have c10b0q := c10b0; (try simp only [hl5_1] at c10b0q)
      clear c10
      by_cases c11 : (t144.length : Int) = 0
      ·rw [if_pos c11] at H
       exact absurd H (by simp)
      ·rw [if_neg c11] at H
       have c11b0 : ((t144.length : Int) == 0) = false := beq_eq_false_iff_ne.mpr c11
       have c11b1 : ((t144.length : Int) != 0) = true := bne_iff_ne.mpr c11
       have c11b2 : ¬ (t144 = []) := fun h_ => c11 (by rw [h_]; rfl)
       obtain ⟨ji12, hji12⟩ : ∃ j_ : Int, (Int.tmod x14_1 (t144.length : Int)) = j_ := ⟨_, rfl⟩
       replace H : (if 0 ≤ (ji12) then (if (ji12) < (t144.length : Int) then (wsframe_Turn.l0 k1 (x5_1.set (x14_1 : Int).toNat (Go.bits .xor .u8 (rd x5_1 x14_1) (rd t144 (ji12)))) t144 (t141.length : Int) (wrap64 (x14_1 + 1))) else (none)) else (none)) = some r := by first | (rw [hji12] at H; exact H) | (simp only [hji12] at H ⊢; exact H)
       by_cases c13 : 0 ≤ (ji12)
       ·rw [if_pos c13] at H
        have c13b0 : decide (0 ≤ (ji12)) = true := decide_eq_true c13
        clear c13
        by_cases c14 : (ji12) < (t144.length : Int)
        ·rw [if_pos c14] at H
         have c14b0 : decide ((ji12) < (t144.length : Int)) = true := decide_eq_true c14
         have c14b0q := c14b0; (try simp only [hl5_1] at c14b0q)
         clear c14
         obtain ⟨y149, hy149⟩ : ∃ y_ : List Int, y_ = (x5_1.set (x14_1 : Int).toNat (Go.bits .xor .u8 (rd x5_1 x14_1) (rd t144 (ji12)))) := ⟨_, rfl⟩
         replace H : (wsframe_Turn.l0 k1 y149 t144 (t141.length : Int) (wrap64 (x14_1 + 1))) = some r := by first | (rw [hy149]; with_reducible exact H) | (have H2_ := (Option.bind_some _ _).symm.trans H; rw [hy149]; with_reducible exact H2_) | (have H2_ := (Option.bind_some _ _).symm.trans H; with_reducible exact H2_) | with_reducible exact H | (rw [hy149]; exact H) | exact H
         have Ny149 := Aside0.mk hy149
         clear hy149
         have H' := Aside0.mk H
         clear H
         try go_wp2
         have n0_ := Aside0.mk (Kd.R_drew HO_5.out)
         have n1_ := Aside0.mk (Kd.R_drew HO_6.out)
         have n2_ := Aside0.mk (below_drew1 HB.out)
         clear HO_5
         clear HO_6
         clear HB
         have HO_5 := n0_
         have HO_6 := n1_
         have HB := n2_
         clear n0_ n1_ n2_
         have p147 : 0 ≤ (x14_1 : Int) := of_decide_eq_true (by assumption)
         have q147 : x14_1 < (x5_1.length : Int) := of_decide_eq_true (by assumption)
         obtain ⟨ad147, e147, hx147_0⟩ := Kd.at_int (Kd.R_reads' HO_5.out).2.2 x14_1 p147 q147
         cases e147
         replace p147 := eq_true p147
         replace q147 := eq_true q147
         obtain ⟨Ao17, co17, eo17⟩ := Kd.R_slice HO_6.out
         (first | subst eo17 | (injection eo17 with f1_ f2_ f3_; have f4_ := f1_.symm; have f5_ := f3_.symm; clear f1_ f2_ f3_; subst f4_; subst f5_))
         have p148 : 0 ≤ ((ji12) : Int) := of_decide_eq_true (by assumption)
         have q148 : (ji12) < (t144.length : Int) := of_decide_eq_true (by assumption)
         obtain ⟨ad148, e148, hx148_0⟩ := Kd.at_int (Kd.R_reads' HO_6.out).2.2 (ji12) p148 q148
         cases e148
         replace p148 := eq_true p148
         replace q148 := eq_true q148
         have p15 : 0 ≤ (x14_1 : Int) := of_decide_eq_true (by assumption)
         have q15 : (x14_1 : Int) < ((x5_1.length : Int) : Int) := of_decide_eq_true (by assumption)
         obtain ⟨go15, co15, eo15, gb15, gl15, cl15, HG15⟩ := Kd.R_form HO_5.out (by omega)
         (first | cases eo15 | (injection eo15 with ea_ en_ ec_; (first | subst ea_ | (injection ea_ with ea_; subst ea_)); subst ec_; clear en_))
         have GB15 := Aside0.mk gb15
         have GG15 := Aside0.mk HG15
         clear gb15 gl15 HG15
         (first | simp only [add_plain] at hx147_0 | skip)
         obtain ⟨hx15_0, hf15_0⟩ := Kd.R_celln 0 HO_5.out (x14_1 : Int) p15 q15
         replace p15 := eq_true p15
         replace q15 := eq_true q15
         have HP18 := Kd.R_putn HO_5.out (x14_1 : Int) (Go.bits .xor .u8 (rd x5_1 x14_1) (rd t144 (ji12)))
         rw [← Ny149.out] at HP18
         have HQ18 := Aside0.mk HP18
         clear HP18
         refine start_ (n := 14) (S := fun w' => w'.cell? ⟨go15, (x14_1).toNat, none⟩ = some (.int .u8 (rd x5_1 x14_1)) ∧ w'.cell? (ad148.add ((ji12)).toNat) = some (.int .u8 (rd t144 (ji12)))) (ds := [13]) #[false, false, false, false, false, false, false, false, false, false, false, false, false, false] (by kernel_rfl) rfl rfl ⟨hx147_0, hx148_0⟩ (fun hHeld => ?_); refine with_tabW wsframe_Turn.tab6 wsframe_Turn.bits6 (fun HT_ HW_ => ?_)
         generalize wr.drew = w16 at HO_5 HO_6 HB GG15 HQ18 hf15_0 hx147_0 hx148_0 hx15_0 hHeld ⊢
         refine pure_ (i := 0) (N := some 17) (v := ?_) (a' := ?_) #[true, false, false, false, false, false, false, false, false, false, false, false, false, false] rfl rfl (any_of HT_.out (by kernel_rfl)) (fun _ _ _ h => h) (Or.inl ⟨by rfl, ?_⟩) ?_ ?_
         rotate_left
         ·intro w'
          go_simp
          with_reducible rfl
         rotate_left
         ·simp only [Act.put, z1_, z2_, z3_, i64_w, i32_w]
          rfl
         refine pure_ (i := 1) (N := some 18) (v := ?_) (a' := ?_) #[true, true, false, false, false, false, false, false, false, false, false, false, false, false] rfl rfl (any_of HT_.out (by kernel_rfl)) (fun _ _ _ h => h) (Or.inl ⟨by rfl, ?_⟩) ?_ ?_
         rotate_left
         ·intro w'
          go_simp
          with_reducible rfl
         rotate_left
         ·simp only [Act.put, z1_, z2_, z3_, i64_w, i32_w]
          rfl
         refine pure_ (i := 2) (N := some 19) (v := ?_) (a' := ?_) #[true, true, true, false, false, false, false, false, false, false, false, false, false, false] rfl rfl (any_of HT_.out (by kernel_rfl)) (fun _ _ _ h => h) (Or.inl ⟨by rfl, ?_⟩) ?_ ?_
         rotate_left
         ·intro w'
          go_simp
          with_reducible rfl
         rotate_left
         ·simp only [Act.put, z1_, z2_, z3_, i64_w, i32_w]
          rfl
         refine pure_ (i := 4) (N := some 21) (v := ?_) (a' := ?_) #[true, true, true, false, true, false, false, false, false, false, false, false, false, false] rfl rfl (any_of HT_.out (by kernel_rfl)) (fun _ _ _ h => h) (Or.inl ⟨by rfl, ?_⟩) ?_ ?_
         rotate_left
         ·intro w'
          go_simp
          with_reducible rfl
         rotate_left
         ·simp only [Act.put, z1_, z2_, z3_, i64_w, i32_w]
          rfl
         refine pure_ (i := 5) (N := some 22) (v := ?_) (a' := ?_) #[true, true, true, false, true, true, false, false, false, false, false, false, false, false] rfl rfl (any_of HT_.out (by kernel_rfl)) (fun _ _ _ h => h) (Or.inl ⟨by rfl, ?_⟩) ?_ ?_
         rotate_left
         ·intro w'
          go_simp
          with_reducible rfl
         rotate_left
         ·simp only [Act.put, z1_, z2_, z3_, i64_w, i32_w]
          rfl
         refine pure_ (i := 6) (N := some 23) (v := ?_) (a' := ?_) #[true, true, true, false, true, true, true, false, false, false, false, false, false, false] rfl rfl (any_of HT_.out (by kernel_rfl)) (fun _ _ _ h => h) (Or.inl ⟨by rfl, ?_⟩) ?_ ?_
         rotate_left
         ·intro w'
          go_simp
          with_reducible rfl
         rotate_left
         ·simp only [Act.put, z1_, z2_, z3_, i64_w, i32_w]
          rfl
         refine pure_ (i := 7) (N := some 24) (v := ?_) (a' := ?_) #[true, true, true, false, true, true, true, true, false, false, false, false, false, false] rfl rfl (any_of HT_.out (by kernel_rfl)) (fun _ _ _ h => h) (Or.inl ⟨by rfl, ?_⟩) ?_ ?_
         rotate_left
         ·intro w'
          go_simp
          with_reducible rfl
         rotate_left
         ·simp only [Act.put, z1_, z2_, z3_, i64_w, i32_w]
          rfl
         refine pure_ (i := 8) (N := some 25) (v := ?_) (a' := ?_) #[true, true, true, false, true, true, true, true, true, false, false, false, false, false] rfl rfl (any_of HT_.out (by kernel_rfl)) (fun _ _ _ h => h) (Or.inl ⟨by rfl, ?_⟩) ?_ ?_
         rotate_left
         ·intro w'
          go_simp
          with_reducible rfl
         rotate_left
         ·simp only [Act.put, z1_, z2_, z3_, i64_w, i32_w]
          rfl
         refine pure_ (i := 9) (N := some 26) (v := ?_) (a' := ?_) #[true, true, true, false, true, true, true, true, true, true, false, false, false, false] rfl rfl (any_of HT_.out (by kernel_rfl)) (fun _ _ _ h => h) (Or.inl ⟨by rfl, ?_⟩) ?_ ?_
         rotate_left
         ·intro w'
          go_simp
          with_reducible rfl
         rotate_left
         ·simp only [Act.put, z1_, z2_, z3_, i64_w, i32_w]
          rfl
         refine take_ (i := 3) (N := some 20) (v := ?_) (a' := ?_) #[true, true, true, true, true, true, true, true, true, true, false, false, false, false] rfl rfl (take_ofW HT_.out HW_.out (by kernel_rfl)) (fun _ _ _ h => h) (Or.inl ⟨by rfl, ?_⟩) hHeld ?_ ?_
         rotate_left
         ·rintro w' ⟨s0, s1⟩
          go_simp
          with_reducible rfl
         rotate_left
         ·simp only [Act.put, z1_, z2_, z3_, i64_w, i32_w]
          rfl
         refine take_ (i := 10) (N := some 27) (v := ?_) (a' := ?_) #[true, true, true, true, true, true, true, true, true, true, true, false, false, false] rfl rfl (take_ofW HT_.out HW_.out (by kernel_rfl)) (fun _ _ _ h => h) (Or.inl ⟨by rfl, ?_⟩) hHeld ?_ ?_
         rotate_left
         ·rintro w' ⟨s0, s1⟩
          go_simp
          with_reducible rfl
         rotate_left
         ·simp only [Act.put, z1_, z2_, z3_, i64_w, i32_w]
          rfl
         refine pure_ (i := 11) (N := some 28) (v := ?_) (a' := ?_) #[true, true, true, true, true, true, true, true, true, true, true, true, false, false] rfl rfl (any_of HT_.out (by kernel_rfl)) (fun _ _ _ h => h) (Or.inl ⟨by rfl, ?_⟩) ?_ ?_
         rotate_left
         ·intro w'
          go_simp
          with_reducible rfl
         rotate_left
         ·simp only [Act.put, z1_, z2_, z3_, i64_w, i32_w]
          rfl
         refine pure_ (i := 12) (N := some 29) (v := ?_) (a' := ?_) #[true, true, true, true, true, true, true, true, true, true, true, true, true, false] rfl rfl (any_of HT_.out (by kernel_rfl)) (fun _ _ _ h => h) (Or.inl ⟨by rfl, ?_⟩) ?_ ?_
         rotate_left
         ·intro w'
          go_simp
          with_reducible rfl
         rotate_left
         ·simp only [Act.put, z1_, z2_, z3_, i64_w, i32_w]
          rfl
         refine last_ (i := 13) (N := none) #[true, true, true, true, true, true, true, true, true, true, true, true, true, true] rfl rfl (one_of HT_.out (by kernel_rfl)) (by decide) (fun K hK => ?_)
         refine skip_ (w1 := ?_) (by rfl) rfl ?_ ?_
         rotate_left
         ·go_simp
          rfl
         refine hK.out _ _ ?_
         clear hK K
         refine done_ (done_of HT_.out (by kernel_rfl)) ?_
         try go_wp2
         (try simp only [← hl5_1])
         go_roundg k1
         case measure => have := HK1.out; omega
         case rel => exact ⟨(y149), (wrap64 (x14_1 + 1)), (by first | rfl | (simp; done) | (simp [*]; done)), H', ⟨by have := HK1.out; omega⟩, ⟨by (try simp only [hl5_1]); (with_reducible repeat (first | apply Kd.R_alloc | apply Kd.R_drewN | apply Kd.R_drew)); exact HQ18.out⟩, ⟨by (try simp only [hl5_1]); (with_reducible repeat (first | apply Kd.R_alloc | apply Kd.R_drewN | apply Kd.R_drew)); exact Kd.R_mono (Kd.R_far (p := ⟨go15, (x14_1 : Int).toNat, none⟩) (Kd.R_mono HO_6.out (fun k_ hk => (⟨hk, fun e_ => hk (by rw [e_]; rfl)⟩ : _ ∧ k_ ≠ go15))) (fun _ hk => hk.2) (.int .u8 (Go.bits .xor .u8 (rd x5_1 x14_1) (rd t144 (ji12))))) (fun _ hk => hk.1)⟩, ⟨by exact q3_ HB.out GB15.out⟩⟩
        ·rw [if_neg c14] at H
         exact absurd H (by simp)
       ·rw [if_neg c13] at H
        exact absurd H (by simp)
     ·rw [if_neg c10] at H
      exact absurd H (by simp)
    ·rw [if_neg c9] at H
     exact absurd H (by simp)
   ·rw [if_neg c8] at H
    have c8b0 : decide (x14_1 < (t141.length : Int)) = false := decide_eq_false c8
    have c8b0q := c8b0; (try simp only [hl5_1] at c8b0q)
    clear c8
    obtain rfl := Option.some.inj H
    go_wp2
    go_ret
    exact ⟨_, by exact q11_, by (with_reducible repeat (first | apply Kd.R_alloc | apply Kd.R_drewN | apply Kd.R_drew)); exact Kd.R_mono HO_5.out (fun _ hk => trivial), by exact q2_ HB.out⟩
end Go.Proofs.YtpmeapdcjmaeiaaDoor.PAll

namespace Go.Proofs.YtpmeapdcjmaeiaaDoor.PAll
open Go.RowKit Go.Proofs.YtpmeapdcjmaeiaaDoorW.PrintWords Go.Proofs.YtpmeapdcjmaeiaaDoorW.PrintLast Go.Proofs.YtpmeapdcjmaeiaaDoorW.PrintMore
attribute [local go_sem] max2_int min2_int max_two min_two max_three min_three max_four min_four
def wssplit_Splitter_Bad.f (s0_0 : List Int) (s0_1 : Bool) (s0_2 : Bool) : Option (Bool × Bool × Bool) := some (s0_2, s0_1, s0_2)
def wsframe_Head.f (l0 : List Int) (a1 : Bool) : Option (Int × Int × Int × Bool) := if l0.all isByte = true then some (HeadF l0 a1) else none
theorem wsframe_Head.calls (A0 : Option Addr) (c0 : Nat) (l0 : List Int) (a1 : Bool) (r1 : Int) (r2 : Int) (r3 : Int) (r4 : Bool) (w : World) (hr0 : Kd.C (Kd.int .u8) w A0 l0.length l0) (hc0 : l0.length ≤ c0) (h : wsframe_Head.f l0 a1 = some (r1, r2, r3, r4)) (hg : Cond w := by first | assumption | exact cond_of (by assumption) (by assumption) | exact Cond.below (Aside0.out (by assumption)) (by repeat (first | (with_reducible first | exact Aside0.out (by assumption) | apply below_alloc | apply pw_below_drewN | apply below_drew1 | refine below_set ?_ (Aside0.out (by assumption))) | exact Aside0.out (by assumption))) | (repeat (first | (with_reducible refine Cond.alloc ?_ _) | (with_reducible refine Cond.drewN ?_ _) | (with_reducible refine Cond.drew ?_) | exact cond_of (by assumption) (by assumption) | exact Aside0.out (by assumption)))) :
  Calls Tryd.prog 33 #[.slice A0 l0.length c0, .bool a1] w fun e w' => e = .returned (.tuple #[.int .i64 r1, .agg #[.int .u8 r2, .int .u32 r3], .bool r4]) ∧ Below w.heap.size w w' := by
 have hf58_1 := field58_1
 have hf76_0 := field76_0
 unfold wsframe_Head.f at h
 by_cases hl : l0.all isByte = true
 ·rw [if_pos hl] at h
  have h := Option.some.inj h
  have := Head_any hl a1 hr0 hc0 hg
  rw [h] at this
  exact this
 ·rw [if_neg hl] at h; cases h
def wsframe_Get.f (k : Nat) (l0 : List Int) (a1 : Bool) : Option (Bool × Int × Bool × Int × List Int × Int × Int) :=
 if l0.all isByte = true then (if getBad l0 a1 = 0 then ((if a1 = true then wsframe_Turn.f k (rawOf l0 a1) (keyIn l0 a1) else some (rawOf l0 a1)).bind fun r => if ((rawOf l0 a1).length : Int) ≤ 140737488355328 then some (decide (128 ≤ rd l0 0), rd l0 0 % 16, a1, keyIn l0 a1, r, 0, 0) else none) else some (false, 0, false, 0, [], 3, getBad l0 a1)) else none
set_option maxRecDepth 100000 in
theorem wsframe_Get.mono : ∀ a0 a1 k, LeO (wsframe_Get.f k a0 a1) (wsframe_Get.f (k + 1) a0 a1) := by
 intro a0 a1 k
 unfold wsframe_Get.f
 repeat' first
   | (with_reducible exact wsframe_Turn.mono _ _ _)
   | (with_reducible exact LeO.refl _)
   | (with_reducible exact LeO.none _)
   | (with_reducible refine LeO.ite ?_ ?_)
   | (with_reducible refine LeO.bind ?_ (fun _ => ?_))
theorem wsframe_Get.calls (k : Nat) (A0 : Option Addr) (c0 : Nat) (l0 : List Int) (a1 : Bool) (r1 : Bool) (r2 : Int) (r3 : Bool) (r4 : Int) (r5 : List Int) (r6 : Int) (r7 : Int) (w : World) (hr0 : Kd.C (Kd.int .u8) w A0 l0.length l0) (hc0 : l0.length ≤ c0) (h : wsframe_Get.f k l0 a1 = some (r1, r2, r3, r4, r5, r6, r7)) (hg : Cond w := by first | assumption | exact cond_of (by assumption) (by assumption) | exact Cond.below (Aside0.out (by assumption)) (by repeat (first | (with_reducible first | exact Aside0.out (by assumption) | apply below_alloc | apply pw_below_drewN | apply below_drew1 | refine below_set ?_ (Aside0.out (by assumption))) | exact Aside0.out (by assumption))) | (repeat (first | (with_reducible refine Cond.alloc ?_ _) | (with_reducible refine Cond.drewN ?_ _) | (with_reducible refine Cond.drew ?_) | exact cond_of (by assumption) (by assumption) | exact Aside0.out (by assumption)))) :
  Calls Tryd.prog 34 #[.slice A0 l0.length c0, .bool a1] w fun e w' => ∃ v4_ : Value, e = .returned (.tuple #[.agg #[.bool r1, .int .u8 r2, .bool r3, .int .u32 r4, v4_], .agg #[.int .u8 r6, .int .u32 r7]]) ∧ Kd.R (Kd.int .u8) 5 w' w.heap.size (fun _ => True) v4_ r5 ∧ Below w.heap.size w w' := by
 have hf58_1 := field58_1
 have hf76_0 := field76_0
 unfold wsframe_Get.f at h
 by_cases hl : l0.all isByte = true
 ·rw [if_pos hl] at h
  by_cases hb : getBad l0 a1 = 0
  ·rw [if_pos hb] at h
   obtain ⟨r, hr, h⟩ := Option.bind_eq_some_iff.mp h
   by_cases hn : ((rawOf l0 a1).length : Int) ≤ 140737488355328
   ·rw [if_pos hn] at h
    have h := Option.some.inj h
    simp only [Prod.mk.injEq] at h
    obtain ⟨rfl, rfl, rfl, rfl, rfl, rfl, rfl⟩ := h
    have hcl : CloneTo (rawOf l0 a1) := fun A c W hC hc => bytes_Clone.calls A c _ _ W hC hc (by unfold bytes_Clone.f; rw [if_pos hn])
    refine Get_fine hl a1 hr0 hc0 hg hb hcl r ?_
    cases a1 with
    | false => rw [if_neg (by decide)] at hr; exact .inl ⟨rfl, (Option.some.inj hr).symm⟩
    | true => rw [if_pos rfl] at hr; exact .inr ⟨rfl, fun A c W hC hc => wsframe_Turn.calls k A c _ _ r W hC hc hr⟩
   ·rw [if_neg hn] at h; cases h
  ·rw [if_neg hb] at h
   have h := Option.some.inj h
   simp only [Prod.mk.injEq] at h
   obtain ⟨rfl, rfl, rfl, rfl, rfl, rfl, rfl⟩ := h
   exact Get_fault hl a1 hr0 hc0 hg hb
 ·rw [if_neg hl] at h; cases h
def toldRow : Array Value := #[.int .u32 1000, .int .u32 1003, .int .u32 1007, .int .u32 1014, .int .u32 3000, .int .u32 4999]
def toldLo : Nat → Int
 | 0 => 1000
 | 1 => 1007
 | _ => 3000
def toldHi : Nat → Int
 | 0 => 1003
 | 1 => 1014
 | _ => 4999
def toldB (n : Int) : Bool := (decide (1000 ≤ n) && decide (n ≤ 1003)) || (decide (1007 ≤ n) && decide (n ≤ 1014)) || (decide (3000 ≤ n) && decide (n ≤ 4999))
def Amongs (n : Int) (g : Nat) (w : World) (i : Value) (wr : World) : Prop :=
 ∃ j : Nat, i = .int .i64 (j : Int) ∧ j ≤ 3 ∧ (∀ k, k < j → ¬ (toldLo k ≤ n ∧ n ≤ toldHi k)) ∧ Below w.heap.size w wr
theorem row_cell {w : World} {g : Nat} (h : w.heap[g]? = some (.cells toldRow 146 (0, 0))) (j : Nat) (hj : j < 3) : w.cell? ⟨g, j * 2, none⟩ = some (.int .u32 (toldLo j)) ∧ w.cell? ⟨g, j * 2 + 1, none⟩ = some (.int .u32 (toldHi j)) := by
 refine ⟨(blk_cell h _).trans ?_, (blk_cell h _).trans ?_⟩ <;> (have h3 : j = 0 ∨ j = 1 ∨ j = 2 := by omega) <;> rcases h3 with rfl | rfl | rfl <;> rfl
theorem told_true {n : Int} {j : Nat} (hj : j < 3) (h1 : toldLo j ≤ n) (h2 : n ≤ toldHi j) : toldB n = true := by
 have h3 : j = 0 ∨ j = 1 ∨ j = 2 := by omega
 rcases h3 with rfl | rfl | rfl <;> simp only [toldLo, toldHi] at h1 h2 <;> simp [toldB, h1, h2]
theorem told_false {n : Int} (h : ∀ k, k < 3 → ¬ (toldLo k ≤ n ∧ n ≤ toldHi k)) : toldB n = false := by
 have h0 := h 0 (by omega)
 have h1 := h 1 (by omega)
 have h2 := h 2 (by omega)
 simp only [toldLo, toldHi] at h0 h1 h2
 simp [toldB]
 omega
set_option maxHeartbeats 4000000 in
set_option maxRecDepth 100000 in
theorem among_any (n : Int) (g : Nat) (w : World) (hb : w.heap[g]? = some (.cells toldRow 146 (0, 0))) :
  Calls Tryd.prog 76 #[.int .u32 n, .slice (some ⟨g, 0, none⟩) 3 3] w fun e w' => e = .returned (.bool (toldB n)) ∧ Below w.heap.size w w' := by
 have HG := Aside0.mk hb
 clear hb
 have huTa9 := Tryd.underlying146
 have huTa11 := Tryd.underlying160
 have huTu6 := Tryd.underlying33
 go_enter Tryd.func76, Tryd.ntmps76
 go_wp2_with fail
 go_loopw [9] (fun i wr => Amongs n g w i wr) (fun i _ => 3 - (intOf i).toNat)
 case atStart => exact ⟨0, rfl, by omega, fun k hk => by omega, Below.refl _ _⟩
 case round =>
  obtain ⟨j, rfl, hj, hno, hB⟩ := hrel
  have HN := Aside0.mk hno
  have HB := Aside0.mk hB
  clear hno hB
  by_cases hlt : j < 3
  ·obtain ⟨hc0, hc1⟩ := row_cell (blk_below HG.out HB.out) j hlt
   have hgl : g < wr.heap.size := blk_lt (blk_below HG.out HB.out)
   have hnext : ∀ W, Below w.heap.size w W → ¬ (toldLo j ≤ n ∧ n ≤ toldHi j) → Amongs n g w (.int .i64 ((j : Int) + 1)) W ∧ 3 - (intOf (.int .i64 ((j : Int) + 1))).toNat < 3 - (intOf (.int .i64 (j : Int))).toNat := fun W hW hn =>
    ⟨⟨j + 1, by go_num, by omega, fun k hk => by
     rcases Nat.lt_or_ge k j with h | h
     ·exact HN.out k h
     ·obtain rfl : k = j := by omega
      exact hn, hW⟩, by simp [intOf]; omega⟩
   have HX := Aside0.mk hnext
   clear hnext
   go_wp2_with fail
   ·go_ret
    refine ⟨?_, below_alloc HB.out _⟩
    rename_i h1 h2
    rw [told_true hlt h1 h2]
    rfl
   ·rename_i h1 h2
    exact HX.out _ (below_alloc HB.out _) (fun h => by omega)
   ·rename_i h1
    exact HX.out _ (below_alloc HB.out _) (fun h => h1 h.1)
  ·obtain rfl : j = 3 := by omega
   go_wp2_with fail
   go_ret
   refine ⟨?_, HB.out⟩
   rw [told_false HN.out]
   rfl
set_option maxHeartbeats 4000000 in
set_option maxRecDepth 100000 in
theorem told_any (n : Int) (w : World) : Calls Tryd.prog 66 #[.int .u32 n] w fun e w' => e = .returned (.bool (toldB n)) ∧ Below w.heap.size w w' := by
 have huTa9 := Tryd.underlying146
 have huTa11 := Tryd.underlying160
 go_enter Tryd.func66, Tryd.ntmps66
 go_wp2_with fail
 refine (among_any n w.heap.size _ (heap_alloc_new _ _)).mono ?_
 rintro e w1 ⟨rfl, hb⟩
 go_wp2_with fail
 go_ret
 exact ⟨rfl, below_step (below_alloc (Below.refl _ _) _) hb⟩
def message_Told.f (a0 : Int) : Option Bool := some (toldB a0)
theorem message_Told.calls (a0 : Int) (r : Bool) (w : World) (h : message_Told.f a0 = some r) : Calls Tryd.prog 66 #[.int .u32 a0] w fun e w' => e = .returned (.bool r) ∧ Below w.heap.size w w' := by
 have hf58_1 := field58_1
 have hf76_0 := field76_0
 obtain rfl := Option.some.inj h
 exact told_any a0 w
def IsS144 (w0 W : World) (g : Nat) (f0 : Int) (f1 : Int) (f2 : Int) (f3 : Bool) : Prop := W.heap[g]? = some (.cells #[.int .i64 f0, .int .u8 f1, .int .u8 f2, .bool f3] 144 (0, 0)) ∧ w0.heap.size ≤ g
theorem IsS144.grown {w0 W : World} {g : Nat} {f0 : Int} {f1 : Int} {f2 : Int} {f3 : Bool} {W1 : World} {row : Option Nat} (h : IsS144 w0 W g f0 f1 f2 f3) (hw : W.grownBy W1 row) (hne : some g ≠ row) : IsS144 w0 W1 g f0 f1 f2 f3 := by
 obtain ⟨hb, hg⟩ := h
 exact ⟨blk_grown hb hw hne, hg⟩
theorem IsS144.below {w0 W : World} {g : Nat} {f0 : Int} {f1 : Int} {f2 : Int} {f3 : Bool} {W1 : World} (h : IsS144 w0 W g f0 f1 f2 f3) (hw : Below W.heap.size W W1) : IsS144 w0 W1 g f0 f1 f2 f3 := h.grown (grown_of_below hw none) (by simp)
theorem IsS144.alloc {w0 W : World} {g : Nat} {f0 : Int} {f1 : Int} {f2 : Int} {f3 : Bool} (h : IsS144 w0 W g f0 f1 f2 f3) (o : Obj) : IsS144 w0 (W.alloc o) g f0 f1 f2 f3 := h.below (below_alloc (Below.refl _ _) o)
theorem IsS144.drewN {w0 W : World} {g : Nat} {f0 : Int} {f1 : Int} {f2 : Int} {f3 : Bool} (h : IsS144 w0 W g f0 f1 f2 f3) (m : Nat) : IsS144 w0 (W.drewN m) g f0 f1 f2 f3 := h
theorem IsS144.drew {w0 W : World} {g : Nat} {f0 : Int} {f1 : Int} {f2 : Int} {f3 : Bool} (h : IsS144 w0 W g f0 f1 f2 f3) : IsS144 w0 W.drew g f0 f1 f2 f3 := h
theorem IsS144.at_ {w0 W : World} {g : Nat} {f0 : Int} {f1 : Int} {f2 : Int} {f3 : Bool} {w' : World} {m : Nat} (hq : W.drewN m = w') (h : IsS144 w0 W g f0 f1 f2 f3) : IsS144 w0 w' g f0 f1 f2 f3 := by subst hq; exact IsS144.drewN h m
theorem IsS144.own_ne {w0 W : World} {g : Nat} {f0 : Int} {f1 : Int} {f2 : Int} {f3 : Bool} {α : Type} {d : Kd α} {e : Nat} {base : Nat} {ok : Nat → Prop} {v : Value} {xs : List α} (h : IsS144 w0 W g f0 f1 f2 f3) (ho : d.R e W base ok v xs) (ht : e ≠ 144) : some g ≠ v.ownBlock := by
 obtain ⟨hb, hg⟩ := h
 exact Kd.R_ne ho hb ht
theorem IsS144.lt {w0 W : World} {g : Nat} {f0 : Int} {f1 : Int} {f2 : Int} {f3 : Bool} (h : IsS144 w0 W g f0 f1 f2 f3) : g < W.heap.size := by
 obtain ⟨hb, hg⟩ := h
 exact blk_lt hb
theorem IsS144.ge {w0 W : World} {g : Nat} {f0 : Int} {f1 : Int} {f2 : Int} {f3 : Bool} (h : IsS144 w0 W g f0 f1 f2 f3) : w0.heap.size ≤ g := by
 obtain ⟨hb, hg⟩ := h
 exact hg
theorem IsS144.far {w0 W : World} {g : Nat} {f0 : Int} {f1 : Int} {f2 : Int} {f3 : Bool} {p : Addr} (h : IsS144 w0 W g f0 f1 f2 f3) (hne : g ≠ p.block) (u : Value) : IsS144 w0 (W.setCell p u) g f0 f1 f2 f3 := by
 obtain ⟨hb, hg⟩ := h
 exact ⟨blk_far hb hne u, hg⟩
theorem cellS144_0 {W : World} {g : Nat} {f0 : Int} {f1 : Int} {f2 : Int} {f3 : Bool} (h : W.heap[g]? = some (.cells #[.int .i64 f0, .int .u8 f1, .int .u8 f2, .bool f3] 144 (0, 0))) : W.cell? ⟨g, 0, none⟩ = some (.int .i64 f0) := (blk_cell h 0).trans rfl
theorem IsS144.set_0 {w0 W : World} {g : Nat} {f0 : Int} {f1 : Int} {f2 : Int} {f3 : Bool} (h : IsS144 w0 W g f0 f1 f2 f3) (x : Int) : IsS144 w0 (W.setCell ⟨g, 0, none⟩ (.int .i64 x)) g x f1 f2 f3 := by
 obtain ⟨hb, hg⟩ := h
 exact ⟨by simpa using blk_set hb 0 (.int .i64 x), hg⟩
theorem cellS144_1 {W : World} {g : Nat} {f0 : Int} {f1 : Int} {f2 : Int} {f3 : Bool} (h : W.heap[g]? = some (.cells #[.int .i64 f0, .int .u8 f1, .int .u8 f2, .bool f3] 144 (0, 0))) : W.cell? ⟨g, 1, none⟩ = some (.int .u8 f1) := (blk_cell h 1).trans rfl
theorem IsS144.set_1 {w0 W : World} {g : Nat} {f0 : Int} {f1 : Int} {f2 : Int} {f3 : Bool} (h : IsS144 w0 W g f0 f1 f2 f3) (x : Int) : IsS144 w0 (W.setCell ⟨g, 1, none⟩ (.int .u8 x)) g f0 x f2 f3 := by
 obtain ⟨hb, hg⟩ := h
 exact ⟨by simpa using blk_set hb 1 (.int .u8 x), hg⟩
theorem cellS144_2 {W : World} {g : Nat} {f0 : Int} {f1 : Int} {f2 : Int} {f3 : Bool} (h : W.heap[g]? = some (.cells #[.int .i64 f0, .int .u8 f1, .int .u8 f2, .bool f3] 144 (0, 0))) : W.cell? ⟨g, 2, none⟩ = some (.int .u8 f2) := (blk_cell h 2).trans rfl
theorem IsS144.set_2 {w0 W : World} {g : Nat} {f0 : Int} {f1 : Int} {f2 : Int} {f3 : Bool} (h : IsS144 w0 W g f0 f1 f2 f3) (x : Int) : IsS144 w0 (W.setCell ⟨g, 2, none⟩ (.int .u8 x)) g f0 f1 x f3 := by
 obtain ⟨hb, hg⟩ := h
 exact ⟨by simpa using blk_set hb 2 (.int .u8 x), hg⟩
theorem cellS144_3 {W : World} {g : Nat} {f0 : Int} {f1 : Int} {f2 : Int} {f3 : Bool} (h : W.heap[g]? = some (.cells #[.int .i64 f0, .int .u8 f1, .int .u8 f2, .bool f3] 144 (0, 0))) : W.cell? ⟨g, 3, none⟩ = some (.bool f3) := (blk_cell h 3).trans rfl
theorem IsS144.set_3 {w0 W : World} {g : Nat} {f0 : Int} {f1 : Int} {f2 : Int} {f3 : Bool} (h : IsS144 w0 W g f0 f1 f2 f3) (x : Bool) : IsS144 w0 (W.setCell ⟨g, 3, none⟩ (.bool x)) g f0 f1 f2 x := by
 obtain ⟨hb, hg⟩ := h
 exact ⟨by simpa using blk_set hb 3 (.bool x), hg⟩
theorem IsS144.new (w0 W : World) (f0 : Int) (f1 : Int) (f2 : Int) (f3 : Bool) (hB : Below w0.heap.size w0 W) : IsS144 w0 (W.alloc (.cells #[.int .i64 f0, .int .u8 f1, .int .u8 f2, .bool f3] 144)) W.heap.size f0 f1 f2 f3 := ⟨by simpa using heap_alloc_new W _, hB.size⟩
def utf_New.f  : Option (Int × Int × Int × Bool) := some (0, 128, 191, false)
set_option maxHeartbeats 8000000 in
set_option maxRecDepth 100000 in
theorem utf_New.calls  (r1 : Int) (r2 : Int) (r3 : Int) (r4 : Bool) (w0 w : World) (hB : Below w0.heap.size w0 w) (h : utf_New.f  = some (r1, r2, r3, r4)) :
  Calls Tryd.prog 62 #[] w fun e w' => ∃ g_ : Nat, e = .returned (.pointer (some ⟨g_, 0, none⟩)) ∧ IsS144 w0 w' g_ r1 r2 r3 r4 ∧ Below w0.heap.size w0 w' ∧ Below w.heap.size w w' := by
 have hf58_1 := field58_1
 have hf76_0 := field76_0
 have hu144 := Tryd.underlying144
 have HBW := Aside0.mk (Below.refl w.heap.size w)
 have HW0 := Aside0.mk hB.size
 have HB := Aside0.mk hB
 clear hB
 have H : (some (0, 128, 191, false)) = some (r1, r2, r3, r4) := h
 clear h
 simp only [Option.some.injEq, Prod.mk.injEq] at H
 obtain ⟨rfl, rfl, rfl, rfl⟩ := H
 go_enter Tryd.func62, Tryd.ntmps62
 go_wp2_with (first | ((with_reducible refine gate_dst (N := 2) rfl ?_); refine box_event ?hg (N := 2) ?hd (cs := #[.int .i64 0, .int .u8 128, .int .u8 191, .bool false]) (t := 144) ?hr ?_; (case hd => rfl); (case hg => rfl); (case hr => first | (go_simp; done) | (go_simp; rfl)); intro gb211 hg w1 hbox hb; have n0_ := Aside0.mk (below_step HBW.out hb); have n1_ := Aside0.mk (below_step (by exact q2_ HB.out) hb); have n2_ := Aside0.mk (hbox); have n3_ := Aside0.mk ((by rw [hg]; exact (below_size (by exact q2_ HBW.out)) : w.heap.size ≤ gb211)); have n4_ := Aside0.mk ((Nat.le_trans HW0.out (by rw [hg]; exact (below_size (by exact q2_ HBW.out)) : w.heap.size ≤ gb211) : w0.heap.size ≤ gb211)); clear HBW; clear HB; have HBW := n0_; have HB := n1_; have BK211 := n2_; have GW211 := n3_; have GE211 := n4_; clear n0_ n1_ n2_ n3_ n4_; clear hb hbox hg))
 go_ret
 exact ⟨_, rfl, (show IsS144 w0 _ gb211 0 128 191 false from ⟨by (with_reducible repeat (first | refine blk_drewN ?_ _ | refine blk_drew ?_ | refine blk_alloc ?_ _)); exact BK211.out, GE211.out⟩), by exact q3_ HB.out GE211.out, by exact q3_ HBW.out GW211.out⟩
def utf_Checker_Bad.f (s0_0 : Int) (s0_1 : Int) (s0_2 : Int) (s0_3 : Bool) : Option (Bool × Int × Int × Int × Bool) := some (s0_3, s0_0, s0_1, s0_2, s0_3)
set_option maxHeartbeats 8000000 in
set_option maxRecDepth 100000 in
theorem utf_Checker_Bad.calls (g : Nat) (s0_0 : Int) (s0_1 : Int) (s0_2 : Int) (s0_3 : Bool) (r1 : Bool) (r2 : Int) (r3 : Int) (r4 : Int) (r5 : Bool) (w0 w : World) (hI : IsS144 w0 w g s0_0 s0_1 s0_2 s0_3) (hB : Below w0.heap.size w0 w) (h : utf_Checker_Bad.f s0_0 s0_1 s0_2 s0_3 = some (r1, r2, r3, r4, r5)) :
  Calls Tryd.prog 64 #[.pointer (some ⟨g, 0, none⟩)] w fun e w' => e = .returned (.bool r1) ∧ IsS144 w0 w' g r2 r3 r4 r5 ∧ Below w0.heap.size w0 w' ∧ KeepBut w w' g none := by
 have hf58_1 := field58_1
 have hf76_0 := field76_0
 have HI0 := Aside0.mk hI
 have HK := Aside0.mk (KeepBut.refl w g none)
 have HL := Aside0.mk hB.size
 clear hI
 have HW0 := Aside0.mk hB.size
 have HB := Aside0.mk hB
 clear hB
 have H : (some (s0_3, s0_0, s0_1, s0_2, s0_3)) = some (r1, r2, r3, r4, r5) := h
 clear h
 simp only [Option.some.injEq, Prod.mk.injEq] at H
 obtain ⟨rfl, rfl, rfl, rfl, rfl⟩ := H
 obtain ⟨HGz2, hgz2⟩ := HI0.out
 have hcz2_0 := cellS144_0 HGz2
 have hcz2_1 := cellS144_1 HGz2
 have hcz2_2 := cellS144_2 HGz2
 have hcz2_3 := cellS144_3 HGz2
 have hfz2_0 := blk_frozen HGz2 0
 have hfz2_1 := blk_frozen HGz2 1
 have hfz2_2 := blk_frozen HGz2 2
 have hfz2_3 := blk_frozen HGz2 3
 clear HGz2 hgz2
 go_enter Tryd.func64, Tryd.ntmps64
 go_wp2
 go_ret
 exact ⟨by exact q11_, by first | ((exact q12_ HI0.out); done) | (rw [‹((_ : Int) == _) = _›]; ((exact q12_ HI0.out); done)) | (exact q12_ HI0.out), by exact q3_ HB.out (IsS144.ge HI0.out), by exact q5_ HK.out⟩
mutual
def utf_Checker_first.j2 : Nat → Int → Int → Int → Int → Bool → Option (Bool × Int × Int × Int × Bool)
 | 0, _, _, _, _, _ => none
 | k + 1, x1, x1000, x1001, x1002, x1003 => if x1 = 237 then (some (true, 2, x1001, 159, x1003)) else (some (true, 2, x1001, x1002, x1003))
def utf_Checker_first.j0 : Nat → Int → Bool → Int → Int → Int → Bool → Option (Bool × Int × Int × Int × Bool)
 | 0, _, _, _, _, _, _ => none
 | k + 1, x1, x14, x1000, x1001, x1002, x1003 => if x14 = true then (some (true, 1, x1001, x1002, x1003)) else (if x1 = 224 then (utf_Checker_first.j2 k x1 x1000 160 x1002 x1003) else (if x1 > 224 then (utf_Checker_first.j1 k x1 (decide (x1 ≤ 239)) x1000 x1001 x1002 x1003) else (utf_Checker_first.j1 k x1 false x1000 x1001 x1002 x1003)))
def utf_Checker_first.j1 : Nat → Int → Bool → Int → Int → Int → Bool → Option (Bool × Int × Int × Int × Bool)
 | 0, _, _, _, _, _, _ => none
 | k + 1, x1, x24, x1000, x1001, x1002, x1003 => if x24 = true then (utf_Checker_first.j2 k x1 x1000 x1001 x1002 x1003) else (if x1 = 240 then (if x1 = 244 then (some (true, 3, 144, 143, x1003)) else (some (true, 3, 144, x1002, x1003))) else (if x1 > 240 then (if x1 ≤ 244 then (if x1 = 244 then (some (true, 3, x1001, 143, x1003)) else (some (true, 3, x1001, x1002, x1003))) else (some (false, x1000, x1001, x1002, x1003))) else (some (false, x1000, x1001, x1002, x1003))))
end
def utf_Checker_first.f (k : Nat) (s0_0 : Int) (s0_1 : Int) (s0_2 : Int) (s0_3 : Bool) (a1 : Int) : Option (Bool × Int × Int × Int × Bool) := if a1 < 128 then (some (true, s0_0, 128, 191, s0_3)) else (if a1 ≥ 194 then (utf_Checker_first.j0 k a1 (decide (a1 ≤ 223)) s0_0 128 191 s0_3) else (utf_Checker_first.j0 k a1 false s0_0 128 191 s0_3))
set_option maxRecDepth 100000 in
theorem utf_Checker_first.mono_l : ∀ k, (∀ y0 y1 y2 y3 y4, LeO (utf_Checker_first.j2 k y0 y1 y2 y3 y4) (utf_Checker_first.j2 (k + 1) y0 y1 y2 y3 y4)) ∧ (∀ y0 y1 y2 y3 y4 y5, LeO (utf_Checker_first.j0 k y0 y1 y2 y3 y4 y5) (utf_Checker_first.j0 (k + 1) y0 y1 y2 y3 y4 y5)) ∧ (∀ y0 y1 y2 y3 y4 y5, LeO (utf_Checker_first.j1 k y0 y1 y2 y3 y4 y5) (utf_Checker_first.j1 (k + 1) y0 y1 y2 y3 y4 y5))
 | 0 => ⟨fun _ _ _ _ _ r h => by (unfold utf_Checker_first.j2 at h; cases h), fun _ _ _ _ _ _ r h => by (unfold utf_Checker_first.j0 at h; cases h), fun _ _ _ _ _ _ r h => by (unfold utf_Checker_first.j1 at h; cases h)⟩
 | k + 1 => by
  obtain ⟨ih0, ih1, ih2⟩ := utf_Checker_first.mono_l k
  refine ⟨?_, ?_, ?_⟩
  ·intro y0 y1 y2 y3 y4
   unfold utf_Checker_first.j2
   repeat' first
   | (with_reducible exact ih0 _ _ _ _ _)
   | (with_reducible exact ih1 _ _ _ _ _ _)
   | (with_reducible exact ih2 _ _ _ _ _ _)
   | (with_reducible exact LeO.refl _)
   | (with_reducible exact LeO.none _)
   | (with_reducible refine LeO.ite ?_ ?_)
   | (with_reducible refine LeO.bind ?_ (fun _ => ?_))
   | exact ih0 _ _ _ _ _
   | exact ih1 _ _ _ _ _ _
   | exact ih2 _ _ _ _ _ _
   | exact LeO.none _
   | refine LeO.ite ?_ ?_
   | refine LeO.bind ?_ (fun _ => ?_)
  ·intro y0 y1 y2 y3 y4 y5
   unfold utf_Checker_first.j0
   repeat' first
   | (with_reducible exact ih0 _ _ _ _ _)
   | (with_reducible exact ih1 _ _ _ _ _ _)
   | (with_reducible exact ih2 _ _ _ _ _ _)
   | (with_reducible exact LeO.refl _)
   | (with_reducible exact LeO.none _)
   | (with_reducible refine LeO.ite ?_ ?_)
   | (with_reducible refine LeO.bind ?_ (fun _ => ?_))
   | exact ih0 _ _ _ _ _
   | exact ih1 _ _ _ _ _ _
   | exact ih2 _ _ _ _ _ _
   | exact LeO.none _
   | refine LeO.ite ?_ ?_
   | refine LeO.bind ?_ (fun _ => ?_)
  ·intro y0 y1 y2 y3 y4 y5
   unfold utf_Checker_first.j1
   repeat' first
   | (with_reducible exact ih0 _ _ _ _ _)
   | (with_reducible exact ih1 _ _ _ _ _ _)
   | (with_reducible exact ih2 _ _ _ _ _ _)
   | (with_reducible exact LeO.refl _)
   | (with_reducible exact LeO.none _)
   | (with_reducible refine LeO.ite ?_ ?_)
   | (with_reducible refine LeO.bind ?_ (fun _ => ?_))
   | exact ih0 _ _ _ _ _
   | exact ih1 _ _ _ _ _ _
   | exact ih2 _ _ _ _ _ _
   | exact LeO.none _
   | refine LeO.ite ?_ ?_
   | refine LeO.bind ?_ (fun _ => ?_)
set_option maxRecDepth 100000 in
theorem utf_Checker_first.mono : ∀ a0 a1 a2 a3 a4 k, LeO (utf_Checker_first.f k a0 a1 a2 a3 a4) (utf_Checker_first.f (k + 1) a0 a1 a2 a3 a4) := by
 intro a0 a1 a2 a3 a4 k
 obtain ⟨ih0, ih1, ih2⟩ := utf_Checker_first.mono_l k
 unfold utf_Checker_first.f
 repeat' first
   | (with_reducible exact ih0 _ _ _ _ _)
   | (with_reducible exact ih1 _ _ _ _ _ _)
   | (with_reducible exact ih2 _ _ _ _ _ _)
   | (with_reducible exact LeO.refl _)
   | (with_reducible exact LeO.none _)
   | (with_reducible refine LeO.ite ?_ ?_)
   | (with_reducible refine LeO.bind ?_ (fun _ => ?_))
   | exact ih0 _ _ _ _ _
   | exact ih1 _ _ _ _ _ _
   | exact ih2 _ _ _ _ _ _
   | exact LeO.none _
   | refine LeO.ite ?_ ?_
   | refine LeO.bind ?_ (fun _ => ?_)
set_option maxHeartbeats 8000000 in
set_option maxRecDepth 100000 in
theorem utf_Checker_first.calls (k : Nat) (g : Nat) (s0_0 : Int) (s0_1 : Int) (s0_2 : Int) (s0_3 : Bool) (a1 : Int) (r1 : Bool) (r2 : Int) (r3 : Int) (r4 : Int) (r5 : Bool) (w0 w : World) (hI : IsS144 w0 w g s0_0 s0_1 s0_2 s0_3) (hB : Below w0.heap.size w0 w) (h : utf_Checker_first.f k s0_0 s0_1 s0_2 s0_3 a1 = some (r1, r2, r3, r4, r5)) :
  Calls Tryd.prog 80 #[.pointer (some ⟨g, 0, none⟩), .int .u8 a1] w fun e w' => e = .returned (.bool r1) ∧ IsS144 w0 w' g r2 r3 r4 r5 ∧ Below w0.heap.size w0 w' ∧ KeepBut w w' g none := by
 have hf58_1 := field58_1
 have hf76_0 := field76_0
 have HI0 := Aside0.mk hI
 have HK := Aside0.mk (KeepBut.refl w g none)
 have HL := Aside0.mk hB.size
 clear hI
 have HW0 := Aside0.mk hB.size
 have HB := Aside0.mk hB
 clear hB
 have H : (if a1 < 128 then (some (true, s0_0, 128, 191, s0_3)) else (if a1 ≥ 194 then (utf_Checker_first.j0 k a1 (decide (a1 ≤ 223)) s0_0 128 191 s0_3) else (utf_Checker_first.j0 k a1 false s0_0 128 191 s0_3))) = some (r1, r2, r3, r4, r5) := h
 clear h
 have HC3 := Aside0.mk H
 clear H
 obtain ⟨HGz4, hgz4⟩ := HI0.out
 have hcz4_0 := cellS144_0 HGz4
 have hcz4_1 := cellS144_1 HGz4
 have hcz4_2 := cellS144_2 HGz4
 have hcz4_3 := cellS144_3 HGz4
 have hfz4_0 := blk_frozen HGz4 0
 have hfz4_1 := blk_frozen HGz4 1
 have hfz4_2 := blk_frozen HGz4 2
 have hfz4_3 := blk_frozen HGz4 3
 clear HGz4 hgz4
 go_enter Tryd.func80, Tryd.ntmps80
 go_upto_block 4 with (fail)
 go_cut [] (fun wc => ∃ (kq : Nat) (x1000_2 : Int) (x1001_2 : Int), Aside0 (utf_Checker_first.j2 kq a1 x1000_2 x1001_2 191 s0_3 = some (r1, r2, r3, r4, r5)) ∧ Aside0 (kq ≤ k) ∧ Aside0 (IsS144 w0 wc g x1000_2 x1001_2 191 s0_3) ∧ Aside0 (KeepBut w wc g none) ∧ Aside0 (Below w0.heap.size w0 wc))
 case first =>
  have H := HC3.out
  clear HC3
  by_cases c5 : a1 < 128
  ·rw [if_pos c5] at H
   have c5b0 : decide (a1 < 128) = true := decide_eq_true c5
   clear c5
   (first | rw [c5b0] | (simp only [i64_w, i32_w]; rw [c5b0]) | skip)
   simp only [Option.some.injEq, Prod.mk.injEq] at H
   obtain ⟨rfl, rfl, rfl, rfl, rfl⟩ := H
   go_wp2
   go_ret
   exact ⟨by exact q11_, by first | ((exact q12_ HI0.out); done) | (rw [‹((_ : Int) == _) = _›]; ((exact q12_ HI0.out); done)) | (exact q12_ HI0.out), by exact q3_ HB.out (IsS144.ge HI0.out), by exact q5_ HK.out⟩
  ·rw [if_neg c5] at H
   have c5b0 : decide (a1 < 128) = false := decide_eq_false c5
   clear c5
   (first | rw [c5b0] | (simp only [i64_w, i32_w]; rw [c5b0]) | skip)
   have HC6 := Aside0.mk H
   clear H
   go_upto_region 3 with (fail)
   go_cut [14] (fun v14 wc => ∃ (kq : Nat) (x14_5 : Bool), v14 = .bool x14_5 ∧ Aside0 (utf_Checker_first.j0 kq a1 x14_5 s0_0 128 191 s0_3 = some (r1, r2, r3, r4, r5)) ∧ Aside0 (kq ≤ k) ∧ Aside0 (IsS144 w0 wc g s0_0 128 191 s0_3) ∧ Aside0 (KeepBut w wc g none) ∧ Aside0 (Below w0.heap.size w0 wc))
   case first =>
    have H := HC6.out
    clear HC6
    by_cases c7 : a1 ≥ 194
    ·rw [if_pos c7] at H
     have c7b0 : decide (194 ≤ a1) = true := decide_eq_true c7
     clear c7
     (first | rw [c7b0] | (simp only [i64_w, i32_w]; rw [c7b0]) | skip)
     have H' := Aside0.mk H
     clear H
     go_wp2
     go_meet
     case rel => exact ⟨_, (decide (a1 ≤ 223)), (by first | rfl | (simp; done) | (simp [*]; done)), H', ⟨by first | omega | exact Nat.le_refl _⟩, ⟨by exact q12_ HI0.out⟩, ⟨by exact q5_ HK.out⟩, ⟨by exact q3_ HB.out (IsS144.ge HI0.out)⟩⟩
    ·rw [if_neg c7] at H
     have c7b0 : decide (194 ≤ a1) = false := decide_eq_false c7
     clear c7
     (first | rw [c7b0] | (simp only [i64_w, i32_w]; rw [c7b0]) | skip)
     have H' := Aside0.mk H
     clear H
     go_wp2
     go_meet
     case rel => exact ⟨_, (false), (by first | rfl | (simp; done) | (simp [*]; done)), H', ⟨by first | omega | exact Nat.le_refl _⟩, ⟨by exact q12_ HI0.out⟩, ⟨by exact q5_ HK.out⟩, ⟨by exact q3_ HB.out (IsS144.ge HI0.out)⟩⟩
   case rest =>
    clear HC6
    try clear p2
    try clear c5
    try clear c5b0
    try clear c7
    try clear c7b0
    try clear hcz4_0
    try clear hcz4_1
    try clear hcz4_2
    try clear hcz4_3
    try clear hfz4_0
    try clear hfz4_1
    try clear hfz4_2
    try clear hfz4_3
    obtain ⟨kq, x14_5, rfl, HA, HJ5, HI0, HK, HB⟩ := hcut
    cases kq with
    | zero => exact absurd HA.out (by simp [utf_Checker_first.j0])
    | succ kj5 =>
     have H := HA.out
     clear HA
     simp only [utf_Checker_first.j0] at H
     by_cases c8 : x14_5 = true
     ·subst c8
      have H1 : (some (true, 1, 128, 191, s0_3)) = some (r1, r2, r3, r4, r5) := by rw [if_pos rfl] at H; exact H
      clear H
      have H := H1
      clear H1
      simp only [Option.some.injEq, Prod.mk.injEq] at H
      obtain ⟨rfl, rfl, rfl, rfl, rfl⟩ := H
      obtain ⟨HGz9, hgz9⟩ := HI0.out
      have hcz9_0 := cellS144_0 HGz9
      have hcz9_1 := cellS144_1 HGz9
      have hcz9_2 := cellS144_2 HGz9
      have hcz9_3 := cellS144_3 HGz9
      have hfz9_0 := blk_frozen HGz9 0
      have hfz9_1 := blk_frozen HGz9 1
      have hfz9_2 := blk_frozen HGz9 2
      have hfz9_3 := blk_frozen HGz9 3
      clear HGz9 hgz9
      go_wp2
      go_ret
      exact ⟨by exact q11_, by first | ((exact q12_ HI0.out); done) | (rw [‹((_ : Int) == _) = _›]; ((exact q12_ HI0.out); done)) | (exact q12_ HI0.out), by exact q3_ HB.out (IsS144.ge HI0.out), by exact q5_ HK.out⟩
     ·replace c8 := Bool.eq_false_iff.mpr c8
      subst c8
      have H1 : (if a1 = 224 then (utf_Checker_first.j2 kj5 a1 s0_0 160 191 s0_3) else (if a1 > 224 then (utf_Checker_first.j1 kj5 a1 (decide (a1 ≤ 239)) s0_0 128 191 s0_3) else (utf_Checker_first.j1 kj5 a1 false s0_0 128 191 s0_3))) = some (r1, r2, r3, r4, r5) := by rw [if_neg (show ¬ (false = true) by decide)] at H; exact H
      clear H
      have H := H1
      clear H1
      by_cases c10 : a1 = 224
      ·rw [if_pos c10] at H
       have c10b0 : (a1 == 224) = true := beq_iff_eq.mpr c10
       have c10b1 : (a1 != 224) = false := bne_eq_false_iff_eq.mpr c10
       clear c10
       have H' := Aside0.mk H
       clear H
       obtain ⟨HGz11, hgz11⟩ := HI0.out
       have hcz11_0 := cellS144_0 HGz11
       have hcz11_1 := cellS144_1 HGz11
       have hcz11_2 := cellS144_2 HGz11
       have hcz11_3 := cellS144_3 HGz11
       have hfz11_0 := blk_frozen HGz11 0
       have hfz11_1 := blk_frozen HGz11 1
       have hfz11_2 := blk_frozen HGz11 2
       have hfz11_3 := blk_frozen HGz11 3
       clear HGz11 hgz11
       go_wp2
       go_meet
       case rel => exact ⟨_, (s0_0), (160), H', ⟨by have := HJ5.out; first | omega | exact Nat.le_refl _⟩, ⟨by exact q12_ HI0.out⟩, ⟨by exact q5_ HK.out⟩, ⟨by exact q3_ HB.out (IsS144.ge HI0.out)⟩⟩
      ·rw [if_neg c10] at H
       have c10b0 : (a1 == 224) = false := beq_eq_false_iff_ne.mpr c10
       have c10b1 : (a1 != 224) = true := bne_iff_ne.mpr c10
       have HC12 := Aside0.mk H
       clear H
       go_upto_region 5 with (fail)
       go_cut [24] (fun v24 wc => ∃ (kq : Nat) (x24_11 : Bool), v24 = .bool x24_11 ∧ Aside0 (utf_Checker_first.j1 kq a1 x24_11 s0_0 128 191 s0_3 = some (r1, r2, r3, r4, r5)) ∧ Aside0 (kq ≤ kj5) ∧ Aside0 (IsS144 w0 wc g s0_0 128 191 s0_3) ∧ Aside0 (KeepBut w wc g none) ∧ Aside0 (Below w0.heap.size w0 wc))
       case first =>
        have H := HC12.out
        clear HC12
        by_cases c13 : a1 > 224
        ·rw [if_pos c13] at H
         have c13b0 : decide (224 < a1) = true := decide_eq_true c13
         clear c13
         (first | rw [c13b0] | (simp only [i64_w, i32_w]; rw [c13b0]) | skip)
         have H' := Aside0.mk H
         clear H
         go_wp2
         go_meet
         case rel => exact ⟨_, (decide (a1 ≤ 239)), (by first | rfl | (simp; done) | (simp [*]; done)), H', ⟨by have := HJ5.out; first | omega | exact Nat.le_refl _⟩, ⟨by exact q12_ HI0.out⟩, ⟨by exact q5_ HK.out⟩, ⟨by exact q3_ HB.out (IsS144.ge HI0.out)⟩⟩
        ·rw [if_neg c13] at H
         have c13b0 : decide (224 < a1) = false := decide_eq_false c13
         clear c13
         (first | rw [c13b0] | (simp only [i64_w, i32_w]; rw [c13b0]) | skip)
         have H' := Aside0.mk H
         clear H
         go_wp2
         go_meet
         case rel => exact ⟨_, (false), (by first | rfl | (simp; done) | (simp [*]; done)), H', ⟨by have := HJ5.out; first | omega | exact Nat.le_refl _⟩, ⟨by exact q12_ HI0.out⟩, ⟨by exact q5_ HK.out⟩, ⟨by exact q3_ HB.out (IsS144.ge HI0.out)⟩⟩
       case rest =>
        clear HC12
        try clear c1
        try clear p2
        try clear c5
        try clear c5b0
        try clear c7
        try clear c7b0
        try clear c8
        try clear c10
        try clear c10b0
        try clear c10b1
        try clear c13
        try clear c13b0
        try clear hcz11_0
        try clear hcz11_1
        try clear hcz11_2
        try clear hcz11_3
        try clear hcz4_0
        try clear hcz4_1
        try clear hcz4_2
        try clear hcz4_3
        try clear hcz9_0
        try clear hcz9_1
        try clear hcz9_2
        try clear hcz9_3
        try clear hfz11_0
        try clear hfz11_1
        try clear hfz11_2
        try clear hfz11_3
        try clear hfz4_0
        try clear hfz4_1
        try clear hfz4_2
        try clear hfz4_3
        try clear hfz9_0
        try clear hfz9_1
        try clear hfz9_2
        try clear hfz9_3
        try clear p2
        obtain ⟨kq, x24_11, rfl, HA, HJ11, HI0, HK, HB⟩ := hcut
        cases kq with
        | zero => exact absurd HA.out (by simp [utf_Checker_first.j1])
        | succ kj11 =>
         have H := HA.out
         clear HA
         simp only [utf_Checker_first.j1] at H
         by_cases c14 : x24_11 = true
         ·subst c14
          have H1 : (utf_Checker_first.j2 kj11 a1 s0_0 128 191 s0_3) = some (r1, r2, r3, r4, r5) := by rw [if_pos rfl] at H; exact H
          clear H
          have H := H1
          clear H1
          have H' := Aside0.mk H
          clear H
          go_wp2
          go_meet
          case rel => exact ⟨_, (s0_0), (128), H', ⟨by have := HJ5.out; have := HJ11.out; first | omega | exact Nat.le_refl _⟩, ⟨by exact q12_ HI0.out⟩, ⟨by exact q5_ HK.out⟩, ⟨by exact q3_ HB.out (IsS144.ge HI0.out)⟩⟩
         ·replace c14 := Bool.eq_false_iff.mpr c14
          subst c14
          have H1 : (if a1 = 240 then (if a1 = 244 then (some (true, 3, 144, 143, s0_3)) else (some (true, 3, 144, 191, s0_3))) else (if a1 > 240 then (if a1 ≤ 244 then (if a1 = 244 then (some (true, 3, 128, 143, s0_3)) else (some (true, 3, 128, 191, s0_3))) else (some (false, s0_0, 128, 191, s0_3))) else (some (false, s0_0, 128, 191, s0_3)))) = some (r1, r2, r3, r4, r5) := by rw [if_neg (show ¬ (false = true) by decide)] at H; exact H
          clear H
          have H := H1
          clear H1
          by_cases c15 : a1 = 240
          ·rw [if_pos c15] at H
           have c15b0 : (a1 == 240) = true := beq_iff_eq.mpr c15
           have c15b1 : (a1 != 240) = false := bne_eq_false_iff_eq.mpr c15
           clear c15
           by_cases c16 : a1 = 244
           ·rw [if_pos c16] at H
            have c16b0 : (a1 == 244) = true := beq_iff_eq.mpr c16
            have c16b1 : (a1 != 244) = false := bne_eq_false_iff_eq.mpr c16
            clear c16
            simp only [Option.some.injEq, Prod.mk.injEq] at H
            obtain ⟨rfl, rfl, rfl, rfl, rfl⟩ := H
            obtain ⟨HGz17, hgz17⟩ := HI0.out
            have hcz17_0 := cellS144_0 HGz17
            have hcz17_1 := cellS144_1 HGz17
            have hcz17_2 := cellS144_2 HGz17
            have hcz17_3 := cellS144_3 HGz17
            have hfz17_0 := blk_frozen HGz17 0
            have hfz17_1 := blk_frozen HGz17 1
            have hfz17_2 := blk_frozen HGz17 2
            have hfz17_3 := blk_frozen HGz17 3
            clear HGz17 hgz17
            go_wp2
            go_ret
            exact ⟨by exact q11_, by first | ((exact q12_ HI0.out); done) | (rw [‹((_ : Int) == _) = _›]; ((exact q12_ HI0.out); done)) | (exact q12_ HI0.out), by exact q3_ HB.out (IsS144.ge HI0.out), by exact q5_ HK.out⟩
           ·rw [if_neg c16] at H
            have c16b0 : (a1 == 244) = false := beq_eq_false_iff_ne.mpr c16
            have c16b1 : (a1 != 244) = true := bne_iff_ne.mpr c16
            simp only [Option.some.injEq, Prod.mk.injEq] at H
            obtain ⟨rfl, rfl, rfl, rfl, rfl⟩ := H
            obtain ⟨HGz18, hgz18⟩ := HI0.out
            have hcz18_0 := cellS144_0 HGz18
            have hcz18_1 := cellS144_1 HGz18
            have hcz18_2 := cellS144_2 HGz18
            have hcz18_3 := cellS144_3 HGz18
            have hfz18_0 := blk_frozen HGz18 0
            have hfz18_1 := blk_frozen HGz18 1
            have hfz18_2 := blk_frozen HGz18 2
            have hfz18_3 := blk_frozen HGz18 3
            clear HGz18 hgz18
            go_wp2
            go_ret
            exact ⟨by exact q11_, by first | ((exact q12_ HI0.out); done) | (rw [‹((_ : Int) == _) = _›]; ((exact q12_ HI0.out); done)) | (exact q12_ HI0.out), by exact q3_ HB.out (IsS144.ge HI0.out), by exact q5_ HK.out⟩
          ·rw [if_neg c15] at H
           have c15b0 : (a1 == 240) = false := beq_eq_false_iff_ne.mpr c15
           have c15b1 : (a1 != 240) = true := bne_iff_ne.mpr c15
           by_cases c19 : a1 > 240
           ·rw [if_pos c19] at H
            have c19b0 : decide (240 < a1) = true := decide_eq_true c19
            clear c19
            by_cases c20 : a1 ≤ 244
            ·rw [if_pos c20] at H
             have c20b0 : decide (a1 ≤ 244) = true := decide_eq_true c20
             clear c20
             by_cases c21 : a1 = 244
             ·rw [if_pos c21] at H
              have c21b0 : (a1 == 244) = true := beq_iff_eq.mpr c21
              have c21b1 : (a1 != 244) = false := bne_eq_false_iff_eq.mpr c21
              clear c21
              simp only [Option.some.injEq, Prod.mk.injEq] at H
              obtain ⟨rfl, rfl, rfl, rfl, rfl⟩ := H
              obtain ⟨HGz22, hgz22⟩ := HI0.out
              have hcz22_0 := cellS144_0 HGz22
              have hcz22_1 := cellS144_1 HGz22
              have hcz22_2 := cellS144_2 HGz22
              have hcz22_3 := cellS144_3 HGz22
              have hfz22_0 := blk_frozen HGz22 0
              have hfz22_1 := blk_frozen HGz22 1
              have hfz22_2 := blk_frozen HGz22 2
              have hfz22_3 := blk_frozen HGz22 3
              clear HGz22 hgz22
              go_wp2
              go_ret
              exact ⟨by exact q11_, by first | ((exact q12_ HI0.out); done) | (rw [‹((_ : Int) == _) = _›]; ((exact q12_ HI0.out); done)) | (exact q12_ HI0.out), by exact q3_ HB.out (IsS144.ge HI0.out), by exact q5_ HK.out⟩
             ·rw [if_neg c21] at H
              have c21b0 : (a1 == 244) = false := beq_eq_false_iff_ne.mpr c21
              have c21b1 : (a1 != 244) = true := bne_iff_ne.mpr c21
              simp only [Option.some.injEq, Prod.mk.injEq] at H
              obtain ⟨rfl, rfl, rfl, rfl, rfl⟩ := H
              obtain ⟨HGz23, hgz23⟩ := HI0.out
              have hcz23_0 := cellS144_0 HGz23
              have hcz23_1 := cellS144_1 HGz23
              have hcz23_2 := cellS144_2 HGz23
              have hcz23_3 := cellS144_3 HGz23
              have hfz23_0 := blk_frozen HGz23 0
              have hfz23_1 := blk_frozen HGz23 1
              have hfz23_2 := blk_frozen HGz23 2
              have hfz23_3 := blk_frozen HGz23 3
              clear HGz23 hgz23
              go_wp2
              go_ret
              exact ⟨by exact q11_, by first | ((exact q12_ HI0.out); done) | (rw [‹((_ : Int) == _) = _›]; ((exact q12_ HI0.out); done)) | (exact q12_ HI0.out), by exact q3_ HB.out (IsS144.ge HI0.out), by exact q5_ HK.out⟩
            ·rw [if_neg c20] at H
             have c20b0 : decide (a1 ≤ 244) = false := decide_eq_false c20
             clear c20
             simp only [Option.some.injEq, Prod.mk.injEq] at H
             obtain ⟨rfl, rfl, rfl, rfl, rfl⟩ := H
             go_wp2
             go_ret
             exact ⟨by exact q11_, by first | ((exact q12_ HI0.out); done) | (rw [‹((_ : Int) == _) = _›]; ((exact q12_ HI0.out); done)) | (exact q12_ HI0.out), by exact q3_ HB.out (IsS144.ge HI0.out), by exact q5_ HK.out⟩
           ·rw [if_neg c19] at H
            have c19b0 : decide (240 < a1) = false := decide_eq_false c19
            clear c19
            simp only [Option.some.injEq, Prod.mk.injEq] at H
            obtain ⟨rfl, rfl, rfl, rfl, rfl⟩ := H
            go_wp2
            go_ret
            exact ⟨by exact q11_, by first | ((exact q12_ HI0.out); done) | (rw [‹((_ : Int) == _) = _›]; ((exact q12_ HI0.out); done)) | (exact q12_ HI0.out), by exact q3_ HB.out (IsS144.ge HI0.out), by exact q5_ HK.out⟩
 case rest =>
  clear HC3
  try clear c1
  try clear c2
  try clear p2
  try clear c5
  try clear c5b0
  try clear c7
  try clear c7b0
  try clear c8
  try clear c10
  try clear c10b0
  try clear c10b1
  try clear c13
  try clear c13b0
  try clear c14
  try clear c15
  try clear c15b0
  try clear c15b1
  try clear c16
  try clear c16b0
  try clear c16b1
  try clear c19
  try clear c19b0
  try clear c20
  try clear c20b0
  try clear c21
  try clear c21b0
  try clear c21b1
  try clear hcz11_0
  try clear hcz11_1
  try clear hcz11_2
  try clear hcz11_3
  try clear hcz17_0
  try clear hcz17_1
  try clear hcz17_2
  try clear hcz17_3
  try clear hcz18_0
  try clear hcz18_1
  try clear hcz18_2
  try clear hcz18_3
  try clear hcz22_0
  try clear hcz22_1
  try clear hcz22_2
  try clear hcz22_3
  try clear hcz23_0
  try clear hcz23_1
  try clear hcz23_2
  try clear hcz23_3
  try clear hcz4_0
  try clear hcz4_1
  try clear hcz4_2
  try clear hcz4_3
  try clear hcz9_0
  try clear hcz9_1
  try clear hcz9_2
  try clear hcz9_3
  try clear hfz11_0
  try clear hfz11_1
  try clear hfz11_2
  try clear hfz11_3
  try clear hfz17_0
  try clear hfz17_1
  try clear hfz17_2
  try clear hfz17_3
  try clear hfz18_0
  try clear hfz18_1
  try clear hfz18_2
  try clear hfz18_3
  try clear hfz22_0
  try clear hfz22_1
  try clear hfz22_2
  try clear hfz22_3
  try clear hfz23_0
  try clear hfz23_1
  try clear hfz23_2
  try clear hfz23_3
  try clear hfz4_0
  try clear hfz4_1
  try clear hfz4_2
  try clear hfz4_3
  try clear hfz9_0
  try clear hfz9_1
  try clear hfz9_2
  try clear hfz9_3
  try clear p2
  obtain ⟨kq, x1000_2, x1001_2, HA, HJ2, HI0, HK, HB⟩ := hcut
  cases kq with
  | zero => exact absurd HA.out (by simp [utf_Checker_first.j2])
  | succ kj2 =>
   have H := HA.out
   clear HA
   simp only [utf_Checker_first.j2] at H
   by_cases c24 : a1 = 237
   ·rw [if_pos c24] at H
    have c24b0 : (a1 == 237) = true := beq_iff_eq.mpr c24
    have c24b1 : (a1 != 237) = false := bne_eq_false_iff_eq.mpr c24
    clear c24
    simp only [Option.some.injEq, Prod.mk.injEq] at H
    obtain ⟨rfl, rfl, rfl, rfl, rfl⟩ := H
    obtain ⟨HGz25, hgz25⟩ := HI0.out
    have hcz25_0 := cellS144_0 HGz25
    have hcz25_1 := cellS144_1 HGz25
    have hcz25_2 := cellS144_2 HGz25
    have hcz25_3 := cellS144_3 HGz25
    have hfz25_0 := blk_frozen HGz25 0
    have hfz25_1 := blk_frozen HGz25 1
    have hfz25_2 := blk_frozen HGz25 2
    have hfz25_3 := blk_frozen HGz25 3
    clear HGz25 hgz25
    go_wp2
    go_ret
    exact ⟨by exact q11_, by first | ((exact q12_ HI0.out); done) | (rw [‹((_ : Int) == _) = _›]; ((exact q12_ HI0.out); done)) | (exact q12_ HI0.out), by exact q3_ HB.out (IsS144.ge HI0.out), by exact q5_ HK.out⟩
   ·rw [if_neg c24] at H
    have c24b0 : (a1 == 237) = false := beq_eq_false_iff_ne.mpr c24
    have c24b1 : (a1 != 237) = true := bne_iff_ne.mpr c24
    simp only [Option.some.injEq, Prod.mk.injEq] at H
    obtain ⟨rfl, rfl, rfl, rfl, rfl⟩ := H
    obtain ⟨HGz26, hgz26⟩ := HI0.out
    have hcz26_0 := cellS144_0 HGz26
    have hcz26_1 := cellS144_1 HGz26
    have hcz26_2 := cellS144_2 HGz26
    have hcz26_3 := cellS144_3 HGz26
    have hfz26_0 := blk_frozen HGz26 0
    have hfz26_1 := blk_frozen HGz26 1
    have hfz26_2 := blk_frozen HGz26 2
    have hfz26_3 := blk_frozen HGz26 3
    clear HGz26 hgz26
    go_wp2
    go_ret
    exact ⟨by exact q11_, by first | ((exact q12_ HI0.out); done) | (rw [‹((_ : Int) == _) = _›]; ((exact q12_ HI0.out); done)) | (exact q12_ HI0.out), by exact q3_ HB.out (IsS144.ge HI0.out), by exact q5_ HK.out⟩
end Go.Proofs.YtpmeapdcjmaeiaaDoor.PAll
