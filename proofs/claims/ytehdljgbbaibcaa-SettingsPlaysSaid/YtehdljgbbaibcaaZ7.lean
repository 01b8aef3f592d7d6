/- What the law's row rests on, part 7. -/
import Derived.Test.YtehdljgbbaibcaaZ6
import Derived.Test.YtehdljgbbaibcaaProg
import Derived.Deep.RegionHeld3
-- Written by a program of this session (wip/patchprint.py, wip/myprint.sh tell how).
namespace Go.Proofs.Ytehdljgbbaibcaa.PAll
open Go.RowKit Go.Proofs.YtehdljgbbaibcaaW.PrintWords Go.Proofs.YtehdljgbbaibcaaW.PrintLast Go.Proofs.YtehdljgbbaibcaaW.PrintMore
attribute [local go_sem] max2_int min2_int max_two min_two max_three min_three max_four min_four   -- for this text's walks alone
set_option linter.unusedVariables false
set_option linter.unusedSimpArgs false

def louverref09_Apply.l0 : Nat → List (S39) → Int → Int → Int → Bool → Int → Int → Int → Int → Bool → Int → Bool → Int → Int → Int → Int → Bool → Option (Int × Bool × Int × Int × Int × Int × Bool × Int)
  | 0, _, _, _, _, _, _, _, _, _, _, _, _, _, _, _, _, _ => none
  | k + 1, x1, x11, x12, x109000, x109001, x109002, x109003, x109004, x109005, x109006, x111000, x111001, x111002, x111003, x111004, x111005, x111006 => if x12 < x11 then (if 0 ≤ x12 then (if x12 < (x1.length : Int) then ((louverref09_wrong.f k x111000 x111001 x111002 x111003 x111004 x111005 x111006 ((rd_T39 x1 x12).f0) ((rd_T39 x1 x12).f1)).bind fun t112 => (if t112 = 99 then ((louverref09_with.f x111000 x111001 x111002 x111003 x111004 x111005 x111006 ((rd_T39 x1 x12).f0) ((rd_T39 x1 x12).f1)).bind fun bt114 => (louverref09_Apply.l0 k x1 x11 (wrap64 (x12 + 1)) x109000 x109001 x109002 x109003 x109004 x109005 x109006 bt114.1 bt114.2.1 bt114.2.2.1 bt114.2.2.2.1 bt114.2.2.2.2.1 bt114.2.2.2.2.2.1 bt114.2.2.2.2.2.2)) else (some (x109000, x109001, x109002, x109003, x109004, x109005, x109006, t112)))) else (none)) else (none)) else (some (x111000, x111001, x111002, x111003, x111004, x111005, x111006, 99))
def louverref09_Apply.f (k : Nat) (a0_0 : Int) (a0_1 : Bool) (a0_2 : Int) (a0_3 : Int) (a0_4 : Int) (a0_5 : Int) (a0_6 : Bool) (l1 : List (S39)) : Option (Int × Bool × Int × Int × Int × Int × Bool × Int) := louverref09_Apply.l0 k l1 (l1.length : Int) 0 a0_0 a0_1 a0_2 a0_3 a0_4 a0_5 a0_6 a0_0 a0_1 a0_2 a0_3 a0_4 a0_5 a0_6
set_option maxRecDepth 100000 in
theorem louverref09_Apply.mono_l : ∀ k, (∀ y0 y1 y2 y3 y4 y5 y6 y7 y8 y9 y10 y11 y12 y13 y14 y15 y16, LeO (louverref09_Apply.l0 k y0 y1 y2 y3 y4 y5 y6 y7 y8 y9 y10 y11 y12 y13 y14 y15 y16) (louverref09_Apply.l0 (k + 1) y0 y1 y2 y3 y4 y5 y6 y7 y8 y9 y10 y11 y12 y13 y14 y15 y16))
  | 0 => fun _ _ _ _ _ _ _ _ _ _ _ _ _ _ _ _ _ r h => by (unfold louverref09_Apply.l0 at h; cases h)
  | k + 1 => by
    have ih0 := louverref09_Apply.mono_l k
    · intro y0 y1 y2 y3 y4 y5 y6 y7 y8 y9 y10 y11 y12 y13 y14 y15 y16
      unfold louverref09_Apply.l0
      repeat' first
      | (with_reducible exact ih0 _ _ _ _ _ _ _ _ _ _ _ _ _ _ _ _ _)
      | (with_reducible exact louverref09_wrong.mono _ _ _ _ _ _ _ _ _ _)
      | (with_reducible exact LeO.refl _)
      | (with_reducible exact LeO.none _)
      | (with_reducible refine LeO.ite ?_ ?_)
      | (with_reducible refine LeO.bind ?_ (fun _ => ?_))
      | exact ih0 _ _ _ _ _ _ _ _ _ _ _ _ _ _ _ _ _
      | exact louverref09_wrong.mono _ _ _ _ _ _ _ _ _ _
      | exact LeO.none _
      | refine LeO.ite ?_ ?_
      | refine LeO.bind ?_ (fun _ => ?_)
set_option maxRecDepth 100000 in
theorem louverref09_Apply.mono : ∀ a0 a1 a2 a3 a4 a5 a6 a7 k, LeO (louverref09_Apply.f k a0 a1 a2 a3 a4 a5 a6 a7) (louverref09_Apply.f (k + 1) a0 a1 a2 a3 a4 a5 a6 a7) := by
  intro a0 a1 a2 a3 a4 a5 a6 a7 k
  have ih0 := louverref09_Apply.mono_l k
  unfold louverref09_Apply.f
  repeat' first
      | (with_reducible exact ih0 _ _ _ _ _ _ _ _ _ _ _ _ _ _ _ _ _)
      | (with_reducible exact louverref09_wrong.mono _ _ _ _ _ _ _ _ _ _)
      | (with_reducible exact LeO.refl _)
      | (with_reducible exact LeO.none _)
      | (with_reducible refine LeO.ite ?_ ?_)
      | (with_reducible refine LeO.bind ?_ (fun _ => ?_))
      | exact ih0 _ _ _ _ _ _ _ _ _ _ _ _ _ _ _ _ _
      | exact louverref09_wrong.mono _ _ _ _ _ _ _ _ _ _
      | exact LeO.none _
      | refine LeO.ite ?_ ?_
      | refine LeO.bind ?_ (fun _ => ?_)
set_option maxHeartbeats 8000000 in
set_option maxRecDepth 100000 in
theorem louverref09_Apply.calls (k : Nat) (a0_0 : Int) (a0_1 : Bool) (a0_2 : Int) (a0_3 : Int) (a0_4 : Int) (a0_5 : Int) (a0_6 : Bool) (A1 : Option Addr) (c1 : Nat) (l1 : List (S39)) (r1 : Int) (r2 : Bool) (r3 : Int) (r4 : Int) (r5 : Int) (r6 : Int) (r7 : Bool) (r8 : Int) (w : World) (hr1 : Kd.C k39 w A1 l1.length l1) (hc1 : l1.length ≤ c1) (h : louverref09_Apply.f k a0_0 a0_1 a0_2 a0_3 a0_4 a0_5 a0_6 l1 = some (r1, r2, r3, r4, r5, r6, r7, r8)) :
    Calls Try.prog 9 #[.agg #[.int .u32 a0_0, .bool a0_1, .int .u32 a0_2, .int .u32 a0_3, .int .u32 a0_4, .int .u32 a0_5, .bool a0_6], .slice A1 l1.length c1] w fun e w' => e = .returned (.tuple #[.agg #[.int .u32 r1, .bool r2, .int .u32 r3, .int .u32 r4, .int .u32 r5, .int .u32 r6, .bool r7], .int .i64 r8]) ∧ Below w.heap.size w w' := by
  have hu24 := Try.underlying24
  have hu39 := Try.underlying39
  have HR1 := Aside0.mk hr1
  have HC1 := Aside0.mk hc1
  clear hr1 hc1
  have HB := Aside0.mk (Below.refl w.heap.size w)
  have H : (louverref09_Apply.l0 k l1 (l1.length : Int) 0 a0_0 a0_1 a0_2 a0_3 a0_4 a0_5 a0_6 a0_0 a0_1 a0_2 a0_3 a0_4 a0_5 a0_6) = some (r1, r2, r3, r4, r5, r6, r7, r8) := h
  clear h
  have H' := Aside0.mk H
  clear H
  go_enter Try.func9, Try.ntmps9
  go_wp2_with (first | ((with_reducible refine gate_dst (N := 2) rfl ?_); refine box_event ?hg (N := 2) ?hd (cs := #[.int .u32 a0_0, .bool a0_1, .int .u32 a0_2, .int .u32 a0_3, .int .u32 a0_4, .int .u32 a0_5, .bool a0_6]) (t := 24) ?hr ?_; (case hd => rfl); (case hg => rfl); (case hr => first | (go_simp; done) | (go_simp; rfl)); intro gb108 hg w3 hbox hb; have n0_ := Aside0.mk (below_step (by repeat (first | (with_reducible first | exact HB.out | apply below_alloc | apply pw_below_drewN | apply below_drew1) | exact HB.out)) hb); have n1_ := Aside0.mk (hbox); have n2_ := Aside0.mk ((by rw [hg]; exact (below_size (by repeat (first | (with_reducible first | exact HB.out | apply below_alloc | apply pw_below_drewN | apply below_drew1) | exact HB.out))) : w.heap.size ≤ gb108)); have n3_ := Aside0.mk ((by rw [hg]; exact (below_size (by repeat (first | (with_reducible first | exact HB.out | apply below_alloc | apply pw_below_drewN | apply below_drew1) | exact HB.out))) : w.heap.size ≤ gb108)); clear HB; have HB := n0_; have BK108 := n1_; have GW108 := n2_; have GE108 := n3_; clear n0_ n1_ n2_ n3_; clear hb hbox hg) | ((with_reducible refine gate_dst (N := 4) rfl ?_); refine box_event ?hg (N := 4) ?hd (cs := #[.int .u32 0, .bool false, .int .u32 0, .int .u32 0, .int .u32 0, .int .u32 0, .bool false]) (t := 24) ?hr ?_; (case hd => rfl); (case hg => rfl); (case hr => first | (go_simp; done) | (go_simp; rfl)); intro gb109 hg w4 hbox hb; have n0_ := Aside0.mk (blk_below (g := gb108) (o := .cells #[.int .u32 a0_0, .bool a0_1, .int .u32 a0_2, .int .u32 a0_3, .int .u32 a0_4, .int .u32 a0_5, .bool a0_6] 24 (0, 0)) (by (with_reducible repeat (first | refine blk_drewN ?_ _ | refine blk_drew ?_ | refine blk_alloc ?_ _)); exact BK108.out) hb); have n1_ := Aside0.mk (below_step (by repeat (first | (with_reducible first | exact HB.out | apply below_alloc | apply pw_below_drewN | apply below_drew1 | refine below_set ?_ GE108.out) | exact HB.out)) hb); have n2_ := Aside0.mk (hbox); have n3_ := Aside0.mk ((by rw [hg]; exact (below_size (by repeat (first | (with_reducible first | exact HB.out | apply below_alloc | apply pw_below_drewN | apply below_drew1 | refine below_set ?_ GE108.out) | exact HB.out))) : w.heap.size ≤ gb109)); have n4_ := Aside0.mk ((by rw [hg]; exact (below_size (by repeat (first | (with_reducible first | exact HB.out | apply below_alloc | apply pw_below_drewN | apply below_drew1 | refine below_set ?_ GE108.out) | exact HB.out))) : w.heap.size ≤ gb109)); have n5_ := Aside0.mk ((by rw [hg]; exact Nat.ne_of_lt (blk_lt (g := gb108) (o := .cells #[.int .u32 a0_0, .bool a0_1, .int .u32 a0_2, .int .u32 a0_3, .int .u32 a0_4, .int .u32 a0_5, .bool a0_6] 24 (0, 0)) (by (with_reducible repeat (first | refine blk_drewN ?_ _ | refine blk_drew ?_ | refine blk_alloc ?_ _)); exact BK108.out)) : gb108 ≠ gb109)); have n6_ := Aside0.mk ((by rw [hg]; exact Nat.ne_of_gt (blk_lt (g := gb108) (o := .cells #[.int .u32 a0_0, .bool a0_1, .int .u32 a0_2, .int .u32 a0_3, .int .u32 a0_4, .int .u32 a0_5, .bool a0_6] 24 (0, 0)) (by (with_reducible repeat (first | refine blk_drewN ?_ _ | refine blk_drew ?_ | refine blk_alloc ?_ _)); exact BK108.out)) : gb109 ≠ gb108)); clear BK108; clear HB; have BK108 := n0_; have HB := n1_; have BK109 := n2_; have GW109 := n3_; have GE109 := n4_; have NB108_109 := n5_; have NB109_108 := n6_; clear n0_ n1_ n2_ n3_ n4_ n5_ n6_; clear hb hbox hg; have hnb5 := NB108_109.out; have hnc5 := NB109_108.out; have hcz6_0 : w4.cell? ⟨gb108, 0, none⟩ = some (.int .u32 a0_0) := (blk_cell BK108.out 0).trans rfl; have hcz6_1 : w4.cell? ⟨gb108, 1, none⟩ = some (.bool a0_1) := (blk_cell BK108.out 1).trans rfl; have hcz6_2 : w4.cell? ⟨gb108, 2, none⟩ = some (.int .u32 a0_2) := (blk_cell BK108.out 2).trans rfl; have hcz6_3 : w4.cell? ⟨gb108, 3, none⟩ = some (.int .u32 a0_3) := (blk_cell BK108.out 3).trans rfl; have hcz6_4 : w4.cell? ⟨gb108, 4, none⟩ = some (.int .u32 a0_4) := (blk_cell BK108.out 4).trans rfl; have hcz6_5 : w4.cell? ⟨gb108, 5, none⟩ = some (.int .u32 a0_5) := (blk_cell BK108.out 5).trans rfl; have hcz6_6 : w4.cell? ⟨gb108, 6, none⟩ = some (.bool a0_6) := (blk_cell BK108.out 6).trans rfl; have hfz6_0 := blk_frozen BK108.out 0; have hfz6_1 := blk_frozen BK108.out 1; have hfz6_2 := blk_frozen BK108.out 2; have hfz6_3 := blk_frozen BK108.out 3; have hfz6_4 := blk_frozen BK108.out 4; have hfz6_5 := blk_frozen BK108.out 5; have hfz6_6 := blk_frozen BK108.out 6) | ((with_reducible refine gate_dst (N := 6) rfl ?_); refine box_event ?hg (N := 6) ?hd (cs := #[.int .u32 0, .bool false, .int .u32 0, .int .u32 0, .int .u32 0, .int .u32 0, .bool false]) (t := 24) ?hr ?_; (case hd => rfl); (case hg => rfl); (case hr => first | (go_simp; done) | (go_simp; rfl)); intro gb110 hg w7 hbox hb; have n0_ := Aside0.mk (blk_below (g := gb108) (o := .cells #[.int .u32 a0_0, .bool a0_1, .int .u32 a0_2, .int .u32 a0_3, .int .u32 a0_4, .int .u32 a0_5, .bool a0_6] 24 (0, 0)) (by (with_reducible repeat (first | refine blk_drewN ?_ _ | refine blk_drew ?_ | refine blk_alloc ?_ _)); exact BK108.out) hb); have n1_ := Aside0.mk (blk_below (g := gb109) (o := .cells #[.int .u32 0, .bool false, .int .u32 0, .int .u32 0, .int .u32 0, .int .u32 0, .bool false] 24 (0, 0)) (by (with_reducible repeat (first | refine blk_drewN ?_ _ | refine blk_drew ?_ | refine blk_alloc ?_ _)); exact BK109.out) hb); have n2_ := Aside0.mk (below_step (by repeat (first | (with_reducible first | exact HB.out | apply below_alloc | apply pw_below_drewN | apply below_drew1 | refine below_set ?_ GE108.out | refine below_set ?_ GE109.out) | exact HB.out)) hb); have n3_ := Aside0.mk (hbox); have n4_ := Aside0.mk ((by rw [hg]; exact (below_size (by repeat (first | (with_reducible first | exact HB.out | apply below_alloc | apply pw_below_drewN | apply below_drew1 | refine below_set ?_ GE108.out | refine below_set ?_ GE109.out) | exact HB.out))) : w.heap.size ≤ gb110)); have n5_ := Aside0.mk ((by rw [hg]; exact (below_size (by repeat (first | (with_reducible first | exact HB.out | apply below_alloc | apply pw_below_drewN | apply below_drew1 | refine below_set ?_ GE108.out | refine below_set ?_ GE109.out) | exact HB.out))) : w.heap.size ≤ gb110)); have n6_ := Aside0.mk ((by rw [hg]; exact Nat.ne_of_lt (blk_lt (g := gb108) (o := .cells #[.int .u32 a0_0, .bool a0_1, .int .u32 a0_2, .int .u32 a0_3, .int .u32 a0_4, .int .u32 a0_5, .bool a0_6] 24 (0, 0)) (by (with_reducible repeat (first | refine blk_drewN ?_ _ | refine blk_drew ?_ | refine blk_alloc ?_ _)); exact BK108.out)) : gb108 ≠ gb110)); have n7_ := Aside0.mk ((by rw [hg]; exact Nat.ne_of_gt (blk_lt (g := gb108) (o := .cells #[.int .u32 a0_0, .bool a0_1, .int .u32 a0_2, .int .u32 a0_3, .int .u32 a0_4, .int .u32 a0_5, .bool a0_6] 24 (0, 0)) (by (with_reducible repeat (first | refine blk_drewN ?_ _ | refine blk_drew ?_ | refine blk_alloc ?_ _)); exact BK108.out)) : gb110 ≠ gb108)); have n8_ := Aside0.mk ((by rw [hg]; exact Nat.ne_of_lt (blk_lt (g := gb109) (o := .cells #[.int .u32 0, .bool false, .int .u32 0, .int .u32 0, .int .u32 0, .int .u32 0, .bool false] 24 (0, 0)) (by (with_reducible repeat (first | refine blk_drewN ?_ _ | refine blk_drew ?_ | refine blk_alloc ?_ _)); exact BK109.out)) : gb109 ≠ gb110)); have n9_ := Aside0.mk ((by rw [hg]; exact Nat.ne_of_gt (blk_lt (g := gb109) (o := .cells #[.int .u32 0, .bool false, .int .u32 0, .int .u32 0, .int .u32 0, .int .u32 0, .bool false] 24 (0, 0)) (by (with_reducible repeat (first | refine blk_drewN ?_ _ | refine blk_drew ?_ | refine blk_alloc ?_ _)); exact BK109.out)) : gb110 ≠ gb109)); clear BK108; clear BK109; clear HB; have BK108 := n0_; have BK109 := n1_; have HB := n2_; have BK110 := n3_; have GW110 := n4_; have GE110 := n5_; have NB108_110 := n6_; have NB110_108 := n7_; have NB109_110 := n8_; have NB110_109 := n9_; clear n0_ n1_ n2_ n3_ n4_ n5_ n6_ n7_ n8_ n9_; clear hb hbox hg; have hnb8 := NB110_108.out; have hnc8 := NB108_110.out; have hnb9 := NB110_109.out; have hnc9 := NB109_110.out; have hcz10_0 : w7.cell? ⟨gb110, 0, none⟩ = some (.int .u32 0) := (blk_cell BK110.out 0).trans rfl; have hcz10_1 : w7.cell? ⟨gb110, 1, none⟩ = some (.bool false) := (blk_cell BK110.out 1).trans rfl; have hcz10_2 : w7.cell? ⟨gb110, 2, none⟩ = some (.int .u32 0) := (blk_cell BK110.out 2).trans rfl; have hcz10_3 : w7.cell? ⟨gb110, 3, none⟩ = some (.int .u32 0) := (blk_cell BK110.out 3).trans rfl; have hcz10_4 : w7.cell? ⟨gb110, 4, none⟩ = some (.int .u32 0) := (blk_cell BK110.out 4).trans rfl; have hcz10_5 : w7.cell? ⟨gb110, 5, none⟩ = some (.int .u32 0) := (blk_cell BK110.out 5).trans rfl; have hcz10_6 : w7.cell? ⟨gb110, 6, none⟩ = some (.bool false) := (blk_cell BK110.out 6).trans rfl; have hfz10_0 := blk_frozen BK110.out 0; have hfz10_1 := blk_frozen BK110.out 1; have hfz10_2 := blk_frozen BK110.out 2; have hfz10_3 := blk_frozen BK110.out 3; have hfz10_4 := blk_frozen BK110.out 4; have hfz10_5 := blk_frozen BK110.out 5; have hfz10_6 := blk_frozen BK110.out 6))
  go_loopg [12] k (fun kq v12 w' => ∃ (x12_1 : Int) (x110000_1 : Int) (x110001_1 : Bool) (x110002_1 : Int) (x110003_1 : Int) (x110004_1 : Int) (x110005_1 : Int) (x110006_1 : Bool) (x111000_1 : Int) (x111001_1 : Bool) (x111002_1 : Int) (x111003_1 : Int) (x111004_1 : Int) (x111005_1 : Int) (x111006_1 : Bool), v12 = .int .i64 x12_1 ∧ Aside0 (louverref09_Apply.l0 kq l1 (l1.length : Int) x12_1 a0_0 a0_1 a0_2 a0_3 a0_4 a0_5 a0_6 x111000_1 x111001_1 x111002_1 x111003_1 x111004_1 x111005_1 x111006_1 = some (r1, r2, r3, r4, r5, r6, r7, r8)) ∧ Aside0 (kq ≤ k) ∧ Aside0 (w'.heap[gb108]? = some (.cells #[.int .u32 a0_0, .bool a0_1, .int .u32 a0_2, .int .u32 a0_3, .int .u32 a0_4, .int .u32 a0_5, .bool a0_6] 24 (0, 0))) ∧ Aside0 (w'.heap[gb109]? = some (.cells #[.int .u32 x110000_1, .bool x110001_1, .int .u32 x110002_1, .int .u32 x110003_1, .int .u32 x110004_1, .int .u32 x110005_1, .bool x110006_1] 24 (0, 0))) ∧ Aside0 (w'.heap[gb110]? = some (.cells #[.int .u32 x111000_1, .bool x111001_1, .int .u32 x111002_1, .int .u32 x111003_1, .int .u32 x111004_1, .int .u32 x111005_1, .bool x111006_1] 24 (0, 0))) ∧ Aside0 (Below w.heap.size w w'))
  case atStart => exact ⟨(0), (0), (false), (0), (0), (0), (0), (false), (a0_0), (a0_1), (a0_2), (a0_3), (a0_4), (a0_5), (a0_6), (by first | rfl | (simp; done) | (simp [*]; done)), H', ⟨Nat.le_refl _⟩, ⟨by (with_reducible repeat (first | refine blk_drewN ?_ _ | refine blk_drew ?_ | refine blk_alloc ?_ _)); refine blk_far ?_ NB108_110.out _; (with_reducible repeat (first | refine blk_drewN ?_ _ | refine blk_drew ?_ | refine blk_alloc ?_ _)); refine blk_far ?_ NB108_110.out _; (with_reducible repeat (first | refine blk_drewN ?_ _ | refine blk_drew ?_ | refine blk_alloc ?_ _)); refine blk_far ?_ NB108_110.out _; (with_reducible repeat (first | refine blk_drewN ?_ _ | refine blk_drew ?_ | refine blk_alloc ?_ _)); refine blk_far ?_ NB108_110.out _; (with_reducible repeat (first | refine blk_drewN ?_ _ | refine blk_drew ?_ | refine blk_alloc ?_ _)); refine blk_far ?_ NB108_110.out _; (with_reducible repeat (first | refine blk_drewN ?_ _ | refine blk_drew ?_ | refine blk_alloc ?_ _)); refine blk_far ?_ NB108_110.out _; (with_reducible repeat (first | refine blk_drewN ?_ _ | refine blk_drew ?_ | refine blk_alloc ?_ _)); refine blk_far ?_ NB108_110.out _; (with_reducible repeat (first | refine blk_drewN ?_ _ | refine blk_drew ?_ | refine blk_alloc ?_ _)); exact BK108.out⟩, ⟨by (with_reducible repeat (first | refine blk_drewN ?_ _ | refine blk_drew ?_ | refine blk_alloc ?_ _)); refine blk_far ?_ NB109_110.out _; (with_reducible repeat (first | refine blk_drewN ?_ _ | refine blk_drew ?_ | refine blk_alloc ?_ _)); refine blk_far ?_ NB109_110.out _; (with_reducible repeat (first | refine blk_drewN ?_ _ | refine blk_drew ?_ | refine blk_alloc ?_ _)); refine blk_far ?_ NB109_110.out _; (with_reducible repeat (first | refine blk_drewN ?_ _ | refine blk_drew ?_ | refine blk_alloc ?_ _)); refine blk_far ?_ NB109_110.out _; (with_reducible repeat (first | refine blk_drewN ?_ _ | refine blk_drew ?_ | refine blk_alloc ?_ _)); refine blk_far ?_ NB109_110.out _; (with_reducible repeat (first | refine blk_drewN ?_ _ | refine blk_drew ?_ | refine blk_alloc ?_ _)); refine blk_far ?_ NB109_110.out _; (with_reducible repeat (first | refine blk_drewN ?_ _ | refine blk_drew ?_ | refine blk_alloc ?_ _)); refine blk_far ?_ NB109_110.out _; (with_reducible repeat (first | refine blk_drewN ?_ _ | refine blk_drew ?_ | refine blk_alloc ?_ _)); exact BK109.out⟩, ⟨by (with_reducible repeat (first | refine blk_drewN ?_ _ | refine blk_drew ?_ | refine blk_alloc ?_ _)); refine blk_put (cs := #[.int .u32 a0_0, .bool a0_1, .int .u32 a0_2, .int .u32 a0_3, .int .u32 a0_4, .int .u32 a0_5, .bool false]) ?_ 6 _ rfl; (with_reducible repeat (first | refine blk_drewN ?_ _ | refine blk_drew ?_ | refine blk_alloc ?_ _)); refine blk_put (cs := #[.int .u32 a0_0, .bool a0_1, .int .u32 a0_2, .int .u32 a0_3, .int .u32 a0_4, .int .u32 0, .bool false]) ?_ 5 _ rfl; (with_reducible repeat (first | refine blk_drewN ?_ _ | refine blk_drew ?_ | refine blk_alloc ?_ _)); refine blk_put (cs := #[.int .u32 a0_0, .bool a0_1, .int .u32 a0_2, .int .u32 a0_3, .int .u32 0, .int .u32 0, .bool false]) ?_ 4 _ rfl; (with_reducible repeat (first | refine blk_drewN ?_ _ | refine blk_drew ?_ | refine blk_alloc ?_ _)); refine blk_put (cs := #[.int .u32 a0_0, .bool a0_1, .int .u32 a0_2, .int .u32 0, .int .u32 0, .int .u32 0, .bool false]) ?_ 3 _ rfl; (with_reducible repeat (first | refine blk_drewN ?_ _ | refine blk_drew ?_ | refine blk_alloc ?_ _)); refine blk_put (cs := #[.int .u32 a0_0, .bool a0_1, .int .u32 0, .int .u32 0, .int .u32 0, .int .u32 0, .bool false]) ?_ 2 _ rfl; (with_reducible repeat (first | refine blk_drewN ?_ _ | refine blk_drew ?_ | refine blk_alloc ?_ _)); refine blk_put (cs := #[.int .u32 a0_0, .bool false, .int .u32 0, .int .u32 0, .int .u32 0, .int .u32 0, .bool false]) ?_ 1 _ rfl; (with_reducible repeat (first | refine blk_drewN ?_ _ | refine blk_drew ?_ | refine blk_alloc ?_ _)); refine blk_put (cs := #[.int .u32 0, .bool false, .int .u32 0, .int .u32 0, .int .u32 0, .int .u32 0, .bool false]) ?_ 0 _ rfl; (with_reducible repeat (first | refine blk_drewN ?_ _ | refine blk_drew ?_ | refine blk_alloc ?_ _)); exact BK110.out⟩, ⟨by repeat (first | (with_reducible first | exact HB.out | apply below_alloc | apply pw_below_drewN | apply below_drew1 | refine below_set ?_ GE108.out | refine below_set ?_ GE109.out | refine below_set ?_ GE110.out) | exact HB.out)⟩⟩
  case round =>
    clear H'
    try clear c1
    try clear p2
    try clear c5
    try clear c8
    try clear c9
    try clear hcz10_0
    try clear hcz10_1
    try clear hcz10_2
    try clear hcz10_3
    try clear hcz10_4
    try clear hcz10_5
    try clear hcz10_6
    try clear hcz6_0
    try clear hcz6_1
    try clear hcz6_2
    try clear hcz6_3
    try clear hcz6_4
    try clear hcz6_5
    try clear hcz6_6
    try clear hfz10_0
    try clear hfz10_1
    try clear hfz10_2
    try clear hfz10_3
    try clear hfz10_4
    try clear hfz10_5
    try clear hfz10_6
    try clear hfz6_0
    try clear hfz6_1
    try clear hfz6_2
    try clear hfz6_3
    try clear hfz6_4
    try clear hfz6_5
    try clear hfz6_6
    obtain ⟨x12_1, x110000_1, x110001_1, x110002_1, x110003_1, x110004_1, x110005_1, x110006_1, x111000_1, x111001_1, x111002_1, x111003_1, x111004_1, x111005_1, x111006_1, rfl, HA, HK1, BK108, BK109, BK110, HB⟩ := hrel
    cases gk with
    | zero => exact absurd HA.out (by simp [louverref09_Apply.l0])
    | succ k1 =>
      have H := HA.out
      clear HA
      simp only [louverref09_Apply.l0] at H
      by_cases c11 : x12_1 < (l1.length : Int)
      · rw [if_pos c11] at H
        have c11b0 : decide (x12_1 < (l1.length : Int)) = true := decide_eq_true c11
        clear c11
        by_cases c12 : 0 ≤ x12_1
        · rw [if_pos c12] at H
          have c12b0 : decide (0 ≤ x12_1) = true := decide_eq_true c12
          clear c12
          by_cases c13 : x12_1 < (l1.length : Int)
          · rw [if_pos c13] at H
            have c13b0 : decide (x12_1 < (l1.length : Int)) = true := decide_eq_true c13
            clear c13
            replace H := Option.bind_eq_some_iff.mp H
            obtain ⟨t112, A140, H⟩ := H
            replace H : (if t112 = 99 then ((louverref09_with.f x111000_1 x111001_1 x111002_1 x111003_1 x111004_1 x111005_1 x111006_1 ((rd_T39 l1 x12_1).f0) ((rd_T39 l1 x12_1).f1)).bind fun bt114 => (louverref09_Apply.l0 k1 l1 (l1.length : Int) (wrap64 (x12_1 + 1)) a0_0 a0_1 a0_2 a0_3 a0_4 a0_5 a0_6 bt114.1 bt114.2.1 bt114.2.2.1 bt114.2.2.2.1 bt114.2.2.2.2.1 bt114.2.2.2.2.2.1 bt114.2.2.2.2.2.2)) else (some (a0_0, a0_1, a0_2, a0_3, a0_4, a0_5, a0_6, t112))) = some (r1, r2, r3, r4, r5, r6, r7, r8) := H
            have A14 := Aside0.mk A140
            clear A140
            by_cases c15 : t112 = 99
            · rw [if_pos c15] at H
              have c15b0 : (t112 == 99) = true := beq_iff_eq.mpr c15
              have c15b1 : (t112 != 99) = false := bne_eq_false_iff_eq.mpr c15
              clear c15
              replace H := Option.bind_eq_some_iff.mp H
              obtain ⟨⟨t114, t115, t116, t117, t118, t119, t120⟩, A160, H⟩ := H
              replace H : (louverref09_Apply.l0 k1 l1 (l1.length : Int) (wrap64 (x12_1 + 1)) a0_0 a0_1 a0_2 a0_3 a0_4 a0_5 a0_6 t114 t115 t116 t117 t118 t119 t120) = some (r1, r2, r3, r4, r5, r6, r7, r8) := H
              have A16 := Aside0.mk A160
              clear A160
              have H' := Aside0.mk H
              clear H
              try go_wp2
              have n0_ := Aside0.mk (blk_drew BK108.out)
              have n1_ := Aside0.mk (blk_drew BK109.out)
              have n2_ := Aside0.mk (blk_drew BK110.out)
              have n3_ := Aside0.mk (below_drew1 HB.out)
              clear BK108
              clear BK109
              clear BK110
              clear HB
              have BK108 := n0_
              have BK109 := n1_
              have BK110 := n2_
              have HB := n3_
              clear n0_ n1_ n2_ n3_
              have p111 : 0 ≤ (x12_1 : Int) := of_decide_eq_true (by first | (with_reducible assumption) | assumption)
              have q111 : x12_1 < (l1.length : Int) := of_decide_eq_true (by first | (with_reducible assumption) | assumption)
              obtain ⟨ad111, e111, hx111_0, hx111_1⟩ := at_T39 HR1.out x12_1 p111 q111
              have hw111_1 := hx111_1
              have hw111_0 := hx111_0
              cases e111
              replace hx111_0 := (HB.out.cell (World.block_lt_of_cell? w _ hx111_0)).trans hx111_0
              replace hx111_1 := (HB.out.cell (World.block_lt_of_cell? w _ hx111_1)).trans hx111_1
              replace p111 := eq_true p111
              replace q111 := eq_true q111
              refine start_ (n := 7) (S := fun w' => w'.cell? ⟨gb110, 0, none⟩ = some (.int .u32 x111000_1) ∧ w'.cell? ⟨gb110, 1, none⟩ = some (.bool x111001_1) ∧ w'.cell? ⟨gb110, 2, none⟩ = some (.int .u32 x111002_1) ∧ w'.cell? ⟨gb110, 3, none⟩ = some (.int .u32 x111003_1) ∧ w'.cell? ⟨gb110, 4, none⟩ = some (.int .u32 x111004_1) ∧ w'.cell? ⟨gb110, 5, none⟩ = some (.int .u32 x111005_1) ∧ w'.cell? ⟨gb110, 6, none⟩ = some (.bool x111006_1) ∧ w'.cell? (ad111.add ((x12_1).toNat * 2)) = some (.int .u16 ((rd_T39 l1 x12_1).f0)) ∧ w'.cell? ⟨(ad111.add ((x12_1).toNat * 2)).block, (ad111.add ((x12_1).toNat * 2)).off + 1, none⟩ = some (.int .u32 ((rd_T39 l1 x12_1).f1))) (ds := []) #[false, false, false, false, false, false, false] (by kernel_rfl) rfl rfl ⟨(blk_cell BK110.out 0).trans rfl, (blk_cell BK110.out 1).trans rfl, (blk_cell BK110.out 2).trans rfl, (blk_cell BK110.out 3).trans rfl, (blk_cell BK110.out 4).trans rfl, (blk_cell BK110.out 5).trans rfl, (blk_cell BK110.out 6).trans rfl, ((HB.out.cell (World.block_lt_of_cell? w _ hw111_0)).trans hw111_0), ((HB.out.cell (World.block_lt_of_cell? w _ hw111_1)).trans hw111_1)⟩ (fun hHeld => ?_)
              generalize wr.drew = w17 at BK108 BK109 BK110 HB hx111_0 hx111_1 hHeld ⊢
              refine pure_ (i := 1) (N := some 16) (v := ?_) (a' := ?_) #[false, true, false, false, false, false, false] rfl rfl (by kernel_rfl) (fun _ _ _ h => h) (Or.inl ⟨by rfl, ?_⟩) ?_ ?_
              rotate_left
              · intro w'
                go_simp
                with_reducible rfl
              rotate_left
              · simp only [Act.put, List.setIfInBounds_toArray, List.set_cons_zero, List.set_cons_succ, i64_w, i32_w]
                rfl
              refine pure_ (i := 2) (N := some 17) (v := ?_) (a' := ?_) #[false, true, true, false, false, false, false] rfl rfl (by kernel_rfl) (fun _ _ _ h => h) (Or.inl ⟨by rfl, ?_⟩) ?_ ?_
              rotate_left
              · intro w'
                go_simp
                with_reducible rfl
              rotate_left
              · simp only [Act.put, List.setIfInBounds_toArray, List.set_cons_zero, List.set_cons_succ, i64_w, i32_w]
                rfl
              refine pure_ (i := 3) (N := some 18) (v := ?_) (a' := ?_) #[false, true, true, true, false, false, false] rfl rfl (by kernel_rfl) (fun _ _ _ h => h) (Or.inl ⟨by rfl, ?_⟩) ?_ ?_
              rotate_left
              · intro w'
                go_simp
                with_reducible rfl
              rotate_left
              · simp only [Act.put, List.setIfInBounds_toArray, List.set_cons_zero, List.set_cons_succ, i64_w, i32_w]
                rfl
              refine take_ (i := 0) (N := some 15) (v := ?_) (a' := ?_) #[true, true, true, true, false, false, false] rfl rfl (by kernel_rfl) (fun _ _ _ h => h) (Or.inl ⟨by rfl, ?_⟩) hHeld ?_ ?_
              rotate_left
              · rintro w' ⟨s0, s1, s2, s3, s4, s5, s6, s7, s8⟩
                go_simp
                with_reducible rfl
              rotate_left
              · simp only [Act.put, List.setIfInBounds_toArray, List.set_cons_zero, List.set_cons_succ, i64_w, i32_w]
                rfl
              refine take_ (i := 4) (N := some 19) (v := ?_) (a' := ?_) #[true, true, true, true, true, false, false] rfl rfl (by kernel_rfl) (fun _ _ _ h => h) (Or.inl ⟨by rfl, ?_⟩) hHeld ?_ ?_
              rotate_left
              · rintro w' ⟨s0, s1, s2, s3, s4, s5, s6, s7, s8⟩
                go_simp
                with_reducible rfl
              rotate_left
              · simp only [Act.put, List.setIfInBounds_toArray, List.set_cons_zero, List.set_cons_succ, i64_w, i32_w]
                rfl
              refine one_ (i := 5) (N := some 20) #[true, true, true, true, true, true, false] rfl rfl (by kernel_rfl) (by decide) (fun K hK => ?_)
              refine goes_ Try.func21 (by kernel_rfl) rfl #[.agg #[.int .u32 x111000_1, .bool x111001_1, .int .u32 x111002_1, .int .u32 x111003_1, .int .u32 x111004_1, .int .u32 x111005_1, .bool x111006_1], .agg #[.int .u16 ((rd_T39 l1 x12_1).f0), .int .u32 ((rd_T39 l1 x12_1).f1)]] (by rfl) rfl rfl (by (try simp only [List.map_toArray, List.map_cons, List.map_nil]); first | done | rfl | (simp only [List.length_drop, List.length_take]; rfl)) ?_
              with_reducible refine (louverref09_wrong.calls k1 x111000_1 x111001_1 x111002_1 x111003_1 x111004_1 x111005_1 x111006_1 ((rd_T39 l1 x12_1).f0) ((rd_T39 l1 x12_1).f1) t112 _ A14.out).mono ?_
              rintro e w18 ⟨rfl, hb⟩
              refine ⟨_, rfl, ?_⟩
              have n0_ := Aside0.mk (blk_below (g := gb108) (o := .cells #[.int .u32 a0_0, .bool a0_1, .int .u32 a0_2, .int .u32 a0_3, .int .u32 a0_4, .int .u32 a0_5, .bool a0_6] 24 (0, 0)) (by (with_reducible repeat (first | refine blk_drewN ?_ _ | refine blk_drew ?_ | refine blk_alloc ?_ _)); exact BK108.out) hb)
              have n1_ := Aside0.mk (blk_below (g := gb109) (o := .cells #[.int .u32 x110000_1, .bool x110001_1, .int .u32 x110002_1, .int .u32 x110003_1, .int .u32 x110004_1, .int .u32 x110005_1, .bool x110006_1] 24 (0, 0)) (by (with_reducible repeat (first | refine blk_drewN ?_ _ | refine blk_drew ?_ | refine blk_alloc ?_ _)); exact BK109.out) hb)
              have n2_ := Aside0.mk (blk_below (g := gb110) (o := .cells #[.int .u32 x111000_1, .bool x111001_1, .int .u32 x111002_1, .int .u32 x111003_1, .int .u32 x111004_1, .int .u32 x111005_1, .bool x111006_1] 24 (0, 0)) (by (with_reducible repeat (first | refine blk_drewN ?_ _ | refine blk_drew ?_ | refine blk_alloc ?_ _)); exact BK110.out) hb)
              have n3_ := Aside0.mk (below_step (by repeat (first | (with_reducible first | exact HB.out | apply below_alloc | apply pw_below_drewN | apply below_drew1 | refine below_set ?_ GE108.out | refine below_set ?_ GE109.out | refine below_set ?_ GE110.out) | exact HB.out)) hb)
              clear BK108
              clear BK109
              clear BK110
              clear HB
              have BK108 := n0_
              have BK109 := n1_
              have BK110 := n2_
              have HB := n3_
              clear n0_ n1_ n2_ n3_
              (try clear hb)
              (try clear hb2)
              (try clear hk)
              (try clear hi)
              refine hK.out _ _ ⟨(blk_cell BK110.out 0).trans rfl, (blk_cell BK110.out 1).trans rfl, (blk_cell BK110.out 2).trans rfl, (blk_cell BK110.out 3).trans rfl, (blk_cell BK110.out 4).trans rfl, (blk_cell BK110.out 5).trans rfl, (blk_cell BK110.out 6).trans rfl, ((HB.out.cell (World.block_lt_of_cell? w _ hw111_0)).trans hw111_0), ((HB.out.cell (World.block_lt_of_cell? w _ hw111_1)).trans hw111_1)⟩ (fun hHeld => ?_)
              clear hK K
              refine norm_ (a' := ?_) ?_ ?_
              rotate_left
              · show Act.put _ (some 20) _ = _
                simp only [Act.put, List.setIfInBounds_toArray, List.set_cons_zero, List.set_cons_succ, i64_w, i32_w]
                rfl
              refine pure_ (i := 6) (N := some 8) (v := ?_) (a' := ?_) #[true, true, true, true, true, true, true] rfl rfl (by kernel_rfl) (fun _ _ _ h => h) (Or.inl ⟨by rfl, ?_⟩) ?_ ?_
              rotate_left
              · intro w'
                go_simp
                with_reducible rfl
              rotate_left
              · simp only [Act.put, List.setIfInBounds_toArray, List.set_cons_zero, List.set_cons_succ, i64_w, i32_w]
                rfl
              refine done_ (by kernel_rfl) ?_
              try go_wp2
              have n0_ := Aside0.mk (blk_drew BK108.out)
              have n1_ := Aside0.mk (blk_drew BK109.out)
              have n2_ := Aside0.mk (blk_drew BK110.out)
              have n3_ := Aside0.mk (below_drew1 HB.out)
              clear BK108
              clear BK109
              clear BK110
              clear HB
              have BK108 := n0_
              have BK109 := n1_
              have BK110 := n2_
              have HB := n3_
              clear n0_ n1_ n2_ n3_
              have p113 : 0 ≤ (x12_1 : Int) := of_decide_eq_true (by first | (with_reducible assumption) | assumption)
              have q113 : x12_1 < (l1.length : Int) := of_decide_eq_true (by first | (with_reducible assumption) | assumption)
              obtain ⟨ad113, e113, hx113_0, hx113_1⟩ := at_T39 HR1.out x12_1 p113 q113
              have hw113_1 := hx113_1
              have hw113_0 := hx113_0
              obtain rfl : ad111 = ad113 := (by injection e113)
              replace hx113_0 := (HB.out.cell (World.block_lt_of_cell? w _ hx113_0)).trans hx113_0
              replace hx113_1 := (HB.out.cell (World.block_lt_of_cell? w _ hx113_1)).trans hx113_1
              replace p113 := eq_true p113
              replace q113 := eq_true q113
              refine start_ (n := 7) (S := fun w' => w'.cell? ⟨gb110, 0, none⟩ = some (.int .u32 x111000_1) ∧ w'.cell? ⟨gb110, 1, none⟩ = some (.bool x111001_1) ∧ w'.cell? ⟨gb110, 2, none⟩ = some (.int .u32 x111002_1) ∧ w'.cell? ⟨gb110, 3, none⟩ = some (.int .u32 x111003_1) ∧ w'.cell? ⟨gb110, 4, none⟩ = some (.int .u32 x111004_1) ∧ w'.cell? ⟨gb110, 5, none⟩ = some (.int .u32 x111005_1) ∧ w'.cell? ⟨gb110, 6, none⟩ = some (.bool x111006_1) ∧ w'.cell? (ad111.add ((x12_1).toNat * 2)) = some (.int .u16 ((rd_T39 l1 x12_1).f0)) ∧ w'.cell? ⟨(ad111.add ((x12_1).toNat * 2)).block, (ad111.add ((x12_1).toNat * 2)).off + 1, none⟩ = some (.int .u32 ((rd_T39 l1 x12_1).f1))) (ds := [6]) #[false, false, false, false, false, false, false] (by kernel_rfl) rfl rfl ⟨(blk_cell BK110.out 0).trans rfl, (blk_cell BK110.out 1).trans rfl, (blk_cell BK110.out 2).trans rfl, (blk_cell BK110.out 3).trans rfl, (blk_cell BK110.out 4).trans rfl, (blk_cell BK110.out 5).trans rfl, (blk_cell BK110.out 6).trans rfl, ((HB.out.cell (World.block_lt_of_cell? w _ hw113_0)).trans hw113_0), ((HB.out.cell (World.block_lt_of_cell? w _ hw113_1)).trans hw113_1)⟩ (fun hHeld => ?_)
              generalize w18.drew = w19 at BK108 BK109 BK110 HB hx113_0 hx113_1 hHeld ⊢
              refine pure_ (i := 1) (N := some 26) (v := ?_) (a' := ?_) #[false, true, false, false, false, false, false] rfl rfl (by kernel_rfl) (fun _ _ _ h => h) (Or.inl ⟨by rfl, ?_⟩) ?_ ?_
              rotate_left
              · intro w'
                go_simp
                with_reducible rfl
              rotate_left
              · simp only [Act.put, List.setIfInBounds_toArray, List.set_cons_zero, List.set_cons_succ, i64_w, i32_w]
                rfl
              refine pure_ (i := 2) (N := some 27) (v := ?_) (a' := ?_) #[false, true, true, false, false, false, false] rfl rfl (by kernel_rfl) (fun _ _ _ h => h) (Or.inl ⟨by rfl, ?_⟩) ?_ ?_
              rotate_left
              · intro w'
                go_simp
                with_reducible rfl
              rotate_left
              · simp only [Act.put, List.setIfInBounds_toArray, List.set_cons_zero, List.set_cons_succ, i64_w, i32_w]
                rfl
              refine pure_ (i := 3) (N := some 28) (v := ?_) (a' := ?_) #[false, true, true, true, false, false, false] rfl rfl (by kernel_rfl) (fun _ _ _ h => h) (Or.inl ⟨by rfl, ?_⟩) ?_ ?_
              rotate_left
              · intro w'
                go_simp
                with_reducible rfl
              rotate_left
              · simp only [Act.put, List.setIfInBounds_toArray, List.set_cons_zero, List.set_cons_succ, i64_w, i32_w]
                rfl
              refine take_ (i := 0) (N := some 25) (v := ?_) (a' := ?_) #[true, true, true, true, false, false, false] rfl rfl (by kernel_rfl) (fun _ _ _ h => h) (Or.inl ⟨by rfl, ?_⟩) hHeld ?_ ?_
              rotate_left
              · rintro w' ⟨s0, s1, s2, s3, s4, s5, s6, s7, s8⟩
                go_simp
                with_reducible rfl
              rotate_left
              · simp only [Act.put, List.setIfInBounds_toArray, List.set_cons_zero, List.set_cons_succ, i64_w, i32_w]
                rfl
              refine take_ (i := 4) (N := some 29) (v := ?_) (a' := ?_) #[true, true, true, true, true, false, false] rfl rfl (by kernel_rfl) (fun _ _ _ h => h) (Or.inl ⟨by rfl, ?_⟩) hHeld ?_ ?_
              rotate_left
              · rintro w' ⟨s0, s1, s2, s3, s4, s5, s6, s7, s8⟩
                go_simp
                with_reducible rfl
              rotate_left
              · simp only [Act.put, List.setIfInBounds_toArray, List.set_cons_zero, List.set_cons_succ, i64_w, i32_w]
                rfl
              refine one_ (i := 5) (N := some 30) #[true, true, true, true, true, true, false] rfl rfl (by kernel_rfl) (by decide) (fun K hK => ?_)
              refine goes_ Try.func22 (by kernel_rfl) rfl #[.agg #[.int .u32 x111000_1, .bool x111001_1, .int .u32 x111002_1, .int .u32 x111003_1, .int .u32 x111004_1, .int .u32 x111005_1, .bool x111006_1], .agg #[.int .u16 ((rd_T39 l1 x12_1).f0), .int .u32 ((rd_T39 l1 x12_1).f1)]] (by rfl) rfl rfl (by (try simp only [List.map_toArray, List.map_cons, List.map_nil]); first | done | rfl | (simp only [List.length_drop, List.length_take]; rfl)) ?_
              with_reducible refine (louverref09_with.calls x111000_1 x111001_1 x111002_1 x111003_1 x111004_1 x111005_1 x111006_1 ((rd_T39 l1 x12_1).f0) ((rd_T39 l1 x12_1).f1) t114 t115 t116 t117 t118 t119 t120 _ A16.out).mono ?_
              rintro e w20 ⟨rfl, hb⟩
              refine ⟨_, rfl, ?_⟩
              have n0_ := Aside0.mk (blk_below (g := gb108) (o := .cells #[.int .u32 a0_0, .bool a0_1, .int .u32 a0_2, .int .u32 a0_3, .int .u32 a0_4, .int .u32 a0_5, .bool a0_6] 24 (0, 0)) (by (with_reducible repeat (first | refine blk_drewN ?_ _ | refine blk_drew ?_ | refine blk_alloc ?_ _)); exact BK108.out) hb)
              have n1_ := Aside0.mk (blk_below (g := gb109) (o := .cells #[.int .u32 x110000_1, .bool x110001_1, .int .u32 x110002_1, .int .u32 x110003_1, .int .u32 x110004_1, .int .u32 x110005_1, .bool x110006_1] 24 (0, 0)) (by (with_reducible repeat (first | refine blk_drewN ?_ _ | refine blk_drew ?_ | refine blk_alloc ?_ _)); exact BK109.out) hb)
              have n2_ := Aside0.mk (blk_below (g := gb110) (o := .cells #[.int .u32 x111000_1, .bool x111001_1, .int .u32 x111002_1, .int .u32 x111003_1, .int .u32 x111004_1, .int .u32 x111005_1, .bool x111006_1] 24 (0, 0)) (by (with_reducible repeat (first | refine blk_drewN ?_ _ | refine blk_drew ?_ | refine blk_alloc ?_ _)); exact BK110.out) hb)
              have n3_ := Aside0.mk (below_step (by repeat (first | (with_reducible first | exact HB.out | apply below_alloc | apply pw_below_drewN | apply below_drew1 | refine below_set ?_ GE108.out | refine below_set ?_ GE109.out | refine below_set ?_ GE110.out) | exact HB.out)) hb)
              clear BK108
              clear BK109
              clear BK110
              clear HB
              have BK108 := n0_
              have BK109 := n1_
              have BK110 := n2_
              have HB := n3_
              clear n0_ n1_ n2_ n3_
              (try clear hb)
              (try clear hb2)
              (try clear hk)
              (try clear hi)
              refine hK.out _ _ ⟨(blk_cell BK110.out 0).trans rfl, (blk_cell BK110.out 1).trans rfl, (blk_cell BK110.out 2).trans rfl, (blk_cell BK110.out 3).trans rfl, (blk_cell BK110.out 4).trans rfl, (blk_cell BK110.out 5).trans rfl, (blk_cell BK110.out 6).trans rfl, ((HB.out.cell (World.block_lt_of_cell? w _ hw113_0)).trans hw113_0), ((HB.out.cell (World.block_lt_of_cell? w _ hw113_1)).trans hw113_1)⟩ (fun hHeld => ?_)
              clear hK K
              refine norm_ (a' := ?_) ?_ ?_
              rotate_left
              · show Act.put _ (some 30) _ = _
                simp only [Act.put, List.setIfInBounds_toArray, List.set_cons_zero, List.set_cons_succ, i64_w, i32_w]
                rfl
              refine last_ (i := 6) (N := none) #[true, true, true, true, true, true, true] rfl rfl (by kernel_rfl) (by decide) (fun K hK => ?_)
              have hs21 : w20.cell? ⟨gb110, 0, none⟩ = some (.int .u32 x111000_1) := (blk_cell BK110.out 0).trans rfl
              have hfs21 := blk_frozen BK110.out 0
              have hns21_0 := NB108_110.out
              have hns21_1 := NB109_110.out
              have hms21_0 := NB110_108.out
              have hms21_1 := NB110_109.out
              have hs22 : w20.cell? ⟨gb110, 1, none⟩ = some (.bool x111001_1) := (blk_cell BK110.out 1).trans rfl
              have hfs22 := blk_frozen BK110.out 1
              have hns22_0 := NB108_110.out
              have hns22_1 := NB109_110.out
              have hms22_0 := NB110_108.out
              have hms22_1 := NB110_109.out
              have hs23 : w20.cell? ⟨gb110, 2, none⟩ = some (.int .u32 x111002_1) := (blk_cell BK110.out 2).trans rfl
              have hfs23 := blk_frozen BK110.out 2
              have hns23_0 := NB108_110.out
              have hns23_1 := NB109_110.out
              have hms23_0 := NB110_108.out
              have hms23_1 := NB110_109.out
              have hs24 : w20.cell? ⟨gb110, 3, none⟩ = some (.int .u32 x111003_1) := (blk_cell BK110.out 3).trans rfl
              have hfs24 := blk_frozen BK110.out 3
              have hns24_0 := NB108_110.out
              have hns24_1 := NB109_110.out
              have hms24_0 := NB110_108.out
              have hms24_1 := NB110_109.out
              have hs25 : w20.cell? ⟨gb110, 4, none⟩ = some (.int .u32 x111004_1) := (blk_cell BK110.out 4).trans rfl
              have hfs25 := blk_frozen BK110.out 4
              have hns25_0 := NB108_110.out
              have hns25_1 := NB109_110.out
              have hms25_0 := NB110_108.out
              have hms25_1 := NB110_109.out
              have hs26 : w20.cell? ⟨gb110, 5, none⟩ = some (.int .u32 x111005_1) := (blk_cell BK110.out 5).trans rfl
              have hfs26 := blk_frozen BK110.out 5
              have hns26_0 := NB108_110.out
              have hns26_1 := NB109_110.out
              have hms26_0 := NB110_108.out
              have hms26_1 := NB110_109.out
              have hs27 : w20.cell? ⟨gb110, 6, none⟩ = some (.bool x111006_1) := (blk_cell BK110.out 6).trans rfl
              have hfs27 := blk_frozen BK110.out 6
              have hns27_0 := NB108_110.out
              have hns27_1 := NB109_110.out
              have hms27_0 := NB110_108.out
              have hms27_1 := NB110_109.out
              refine skip_ (w1 := ?_) (by rfl) rfl ?_ ?_
              rotate_left
              · go_simp
                rfl
              refine hK.out _ _ ?_
              clear hK K
              refine done_ (by kernel_rfl) ?_
              try go_wp2
              go_roundg k1
              case measure => have := HK1.out; omega
              case rel => exact ⟨(wrap64 (x12_1 + 1)), (x110000_1), (x110001_1), (x110002_1), (x110003_1), (x110004_1), (x110005_1), (x110006_1), (t114), (t115), (t116), (t117), (t118), (t119), (t120), (by first | rfl | (simp; done) | (simp [*]; done)), H', ⟨by have := HK1.out; omega⟩, ⟨by (with_reducible repeat (first | refine blk_drewN ?_ _ | refine blk_drew ?_ | refine blk_alloc ?_ _)); refine blk_far ?_ NB108_110.out _; (with_reducible repeat (first | refine blk_drewN ?_ _ | refine blk_drew ?_ | refine blk_alloc ?_ _)); refine blk_far ?_ NB108_110.out _; (with_reducible repeat (first | refine blk_drewN ?_ _ | refine blk_drew ?_ | refine blk_alloc ?_ _)); refine blk_far ?_ NB108_110.out _; (with_reducible repeat (first | refine blk_drewN ?_ _ | refine blk_drew ?_ | refine blk_alloc ?_ _)); refine blk_far ?_ NB108_110.out _; (with_reducible repeat (first | refine blk_drewN ?_ _ | refine blk_drew ?_ | refine blk_alloc ?_ _)); refine blk_far ?_ NB108_110.out _; (with_reducible repeat (first | refine blk_drewN ?_ _ | refine blk_drew ?_ | refine blk_alloc ?_ _)); refine blk_far ?_ NB108_110.out _; (with_reducible repeat (first | refine blk_drewN ?_ _ | refine blk_drew ?_ | refine blk_alloc ?_ _)); refine blk_far ?_ NB108_110.out _; (with_reducible repeat (first | refine blk_drewN ?_ _ | refine blk_drew ?_ | refine blk_alloc ?_ _)); exact BK108.out⟩, ⟨by (with_reducible repeat (first | refine blk_drewN ?_ _ | refine blk_drew ?_ | refine blk_alloc ?_ _)); refine blk_far ?_ NB109_110.out _; (with_reducible repeat (first | refine blk_drewN ?_ _ | refine blk_drew ?_ | refine blk_alloc ?_ _)); refine blk_far ?_ NB109_110.out _; (with_reducible repeat (first | refine blk_drewN ?_ _ | refine blk_drew ?_ | refine blk_alloc ?_ _)); refine blk_far ?_ NB109_110.out _; (with_reducible repeat (first | refine blk_drewN ?_ _ | refine blk_drew ?_ | refine blk_alloc ?_ _)); refine blk_far ?_ NB109_110.out _; (with_reducible repeat (first | refine blk_drewN ?_ _ | refine blk_drew ?_ | refine blk_alloc ?_ _)); refine blk_far ?_ NB109_110.out _; (with_reducible repeat (first | refine blk_drewN ?_ _ | refine blk_drew ?_ | refine blk_alloc ?_ _)); refine blk_far ?_ NB109_110.out _; (with_reducible repeat (first | refine blk_drewN ?_ _ | refine blk_drew ?_ | refine blk_alloc ?_ _)); refine blk_far ?_ NB109_110.out _; (with_reducible repeat (first | refine blk_drewN ?_ _ | refine blk_drew ?_ | refine blk_alloc ?_ _)); exact BK109.out⟩, ⟨by (with_reducible repeat (first | refine blk_drewN ?_ _ | refine blk_drew ?_ | refine blk_alloc ?_ _)); refine blk_put (cs := #[.int .u32 t114, .bool t115, .int .u32 t116, .int .u32 t117, .int .u32 t118, .int .u32 t119, .bool x111006_1]) ?_ 6 _ rfl; (with_reducible repeat (first | refine blk_drewN ?_ _ | refine blk_drew ?_ | refine blk_alloc ?_ _)); refine blk_put (cs := #[.int .u32 t114, .bool t115, .int .u32 t116, .int .u32 t117, .int .u32 t118, .int .u32 x111005_1, .bool x111006_1]) ?_ 5 _ rfl; (with_reducible repeat (first | refine blk_drewN ?_ _ | refine blk_drew ?_ | refine blk_alloc ?_ _)); refine blk_put (cs := #[.int .u32 t114, .bool t115, .int .u32 t116, .int .u32 t117, .int .u32 x111004_1, .int .u32 x111005_1, .bool x111006_1]) ?_ 4 _ rfl; (with_reducible repeat (first | refine blk_drewN ?_ _ | refine blk_drew ?_ | refine blk_alloc ?_ _)); refine blk_put (cs := #[.int .u32 t114, .bool t115, .int .u32 t116, .int .u32 x111003_1, .int .u32 x111004_1, .int .u32 x111005_1, .bool x111006_1]) ?_ 3 _ rfl; (with_reducible repeat (first | refine blk_drewN ?_ _ | refine blk_drew ?_ | refine blk_alloc ?_ _)); refine blk_put (cs := #[.int .u32 t114, .bool t115, .int .u32 x111002_1, .int .u32 x111003_1, .int .u32 x111004_1, .int .u32 x111005_1, .bool x111006_1]) ?_ 2 _ rfl; (with_reducible repeat (first | refine blk_drewN ?_ _ | refine blk_drew ?_ | refine blk_alloc ?_ _)); refine blk_put (cs := #[.int .u32 t114, .bool x111001_1, .int .u32 x111002_1, .int .u32 x111003_1, .int .u32 x111004_1, .int .u32 x111005_1, .bool x111006_1]) ?_ 1 _ rfl; (with_reducible repeat (first | refine blk_drewN ?_ _ | refine blk_drew ?_ | refine blk_alloc ?_ _)); refine blk_put (cs := #[.int .u32 x111000_1, .bool x111001_1, .int .u32 x111002_1, .int .u32 x111003_1, .int .u32 x111004_1, .int .u32 x111005_1, .bool x111006_1]) ?_ 0 _ rfl; (with_reducible repeat (first | refine blk_drewN ?_ _ | refine blk_drew ?_ | refine blk_alloc ?_ _)); exact BK110.out⟩, ⟨by repeat (first | (with_reducible first | exact HB.out | apply below_alloc | apply pw_below_drewN | apply below_drew1 | refine below_set ?_ GE108.out | refine below_set ?_ GE109.out | refine below_set ?_ GE110.out) | exact HB.out)⟩⟩
            · rw [if_neg c15] at H
              have c15b0 : (t112 == 99) = false := beq_eq_false_iff_ne.mpr c15
              have c15b1 : (t112 != 99) = true := bne_iff_ne.mpr c15
              simp only [Option.some.injEq, Prod.mk.injEq] at H
              obtain ⟨rfl, rfl, rfl, rfl, rfl, rfl, rfl, rfl⟩ := H
              try go_wp2
              have n0_ := Aside0.mk (blk_drew BK108.out)
              have n1_ := Aside0.mk (blk_drew BK109.out)
              have n2_ := Aside0.mk (blk_drew BK110.out)
              have n3_ := Aside0.mk (below_drew1 HB.out)
              clear BK108
              clear BK109
              clear BK110
              clear HB
              have BK108 := n0_
              have BK109 := n1_
              have BK110 := n2_
              have HB := n3_
              clear n0_ n1_ n2_ n3_
              have p111 : 0 ≤ (x12_1 : Int) := of_decide_eq_true (by first | (with_reducible assumption) | assumption)
              have q111 : x12_1 < (l1.length : Int) := of_decide_eq_true (by first | (with_reducible assumption) | assumption)
              obtain ⟨ad111, e111, hx111_0, hx111_1⟩ := at_T39 HR1.out x12_1 p111 q111
              have hw111_1 := hx111_1
              have hw111_0 := hx111_0
              cases e111
              replace hx111_0 := (HB.out.cell (World.block_lt_of_cell? w _ hx111_0)).trans hx111_0
              replace hx111_1 := (HB.out.cell (World.block_lt_of_cell? w _ hx111_1)).trans hx111_1
              replace p111 := eq_true p111
              replace q111 := eq_true q111
              refine start_ (n := 7) (S := fun w' => w'.cell? ⟨gb110, 0, none⟩ = some (.int .u32 x111000_1) ∧ w'.cell? ⟨gb110, 1, none⟩ = some (.bool x111001_1) ∧ w'.cell? ⟨gb110, 2, none⟩ = some (.int .u32 x111002_1) ∧ w'.cell? ⟨gb110, 3, none⟩ = some (.int .u32 x111003_1) ∧ w'.cell? ⟨gb110, 4, none⟩ = some (.int .u32 x111004_1) ∧ w'.cell? ⟨gb110, 5, none⟩ = some (.int .u32 x111005_1) ∧ w'.cell? ⟨gb110, 6, none⟩ = some (.bool x111006_1) ∧ w'.cell? (ad111.add ((x12_1).toNat * 2)) = some (.int .u16 ((rd_T39 l1 x12_1).f0)) ∧ w'.cell? ⟨(ad111.add ((x12_1).toNat * 2)).block, (ad111.add ((x12_1).toNat * 2)).off + 1, none⟩ = some (.int .u32 ((rd_T39 l1 x12_1).f1))) (ds := []) #[false, false, false, false, false, false, false] (by kernel_rfl) rfl rfl ⟨(blk_cell BK110.out 0).trans rfl, (blk_cell BK110.out 1).trans rfl, (blk_cell BK110.out 2).trans rfl, (blk_cell BK110.out 3).trans rfl, (blk_cell BK110.out 4).trans rfl, (blk_cell BK110.out 5).trans rfl, (blk_cell BK110.out 6).trans rfl, ((HB.out.cell (World.block_lt_of_cell? w _ hw111_0)).trans hw111_0), ((HB.out.cell (World.block_lt_of_cell? w _ hw111_1)).trans hw111_1)⟩ (fun hHeld => ?_)
              generalize wr.drew = w28 at BK108 BK109 BK110 HB hx111_0 hx111_1 hHeld ⊢
              refine pure_ (i := 1) (N := some 16) (v := ?_) (a' := ?_) #[false, true, false, false, false, false, false] rfl rfl (by kernel_rfl) (fun _ _ _ h => h) (Or.inl ⟨by rfl, ?_⟩) ?_ ?_
              rotate_left
              · intro w'
                go_simp
                with_reducible rfl
              rotate_left
              · simp only [Act.put, List.setIfInBounds_toArray, List.set_cons_zero, List.set_cons_succ, i64_w, i32_w]
                rfl
              refine pure_ (i := 2) (N := some 17) (v := ?_) (a' := ?_) #[false, true, true, false, false, false, false] rfl rfl (by kernel_rfl) (fun _ _ _ h => h) (Or.inl ⟨by rfl, ?_⟩) ?_ ?_
              rotate_left
              · intro w'
                go_simp
                with_reducible rfl
              rotate_left
              · simp only [Act.put, List.setIfInBounds_toArray, List.set_cons_zero, List.set_cons_succ, i64_w, i32_w]
                rfl
              refine pure_ (i := 3) (N := some 18) (v := ?_) (a' := ?_) #[false, true, true, true, false, false, false] rfl rfl (by kernel_rfl) (fun _ _ _ h => h) (Or.inl ⟨by rfl, ?_⟩) ?_ ?_
              rotate_left
              · intro w'
                go_simp
                with_reducible rfl
              rotate_left
              · simp only [Act.put, List.setIfInBounds_toArray, List.set_cons_zero, List.set_cons_succ, i64_w, i32_w]
                rfl
              refine take_ (i := 0) (N := some 15) (v := ?_) (a' := ?_) #[true, true, true, true, false, false, false] rfl rfl (by kernel_rfl) (fun _ _ _ h => h) (Or.inl ⟨by rfl, ?_⟩) hHeld ?_ ?_
              rotate_left
              · rintro w' ⟨s0, s1, s2, s3, s4, s5, s6, s7, s8⟩
                go_simp
                with_reducible rfl
              rotate_left
              · simp only [Act.put, List.setIfInBounds_toArray, List.set_cons_zero, List.set_cons_succ, i64_w, i32_w]
                rfl
              refine take_ (i := 4) (N := some 19) (v := ?_) (a' := ?_) #[true, true, true, true, true, false, false] rfl rfl (by kernel_rfl) (fun _ _ _ h => h) (Or.inl ⟨by rfl, ?_⟩) hHeld ?_ ?_
              rotate_left
              · rintro w' ⟨s0, s1, s2, s3, s4, s5, s6, s7, s8⟩
                go_simp
                with_reducible rfl
              rotate_left
              · simp only [Act.put, List.setIfInBounds_toArray, List.set_cons_zero, List.set_cons_succ, i64_w, i32_w]
                rfl
              refine one_ (i := 5) (N := some 20) #[true, true, true, true, true, true, false] rfl rfl (by kernel_rfl) (by decide) (fun K hK => ?_)
              refine goes_ Try.func21 (by kernel_rfl) rfl #[.agg #[.int .u32 x111000_1, .bool x111001_1, .int .u32 x111002_1, .int .u32 x111003_1, .int .u32 x111004_1, .int .u32 x111005_1, .bool x111006_1], .agg #[.int .u16 ((rd_T39 l1 x12_1).f0), .int .u32 ((rd_T39 l1 x12_1).f1)]] (by rfl) rfl rfl (by (try simp only [List.map_toArray, List.map_cons, List.map_nil]); first | done | rfl | (simp only [List.length_drop, List.length_take]; rfl)) ?_
              with_reducible refine (louverref09_wrong.calls k1 x111000_1 x111001_1 x111002_1 x111003_1 x111004_1 x111005_1 x111006_1 ((rd_T39 l1 x12_1).f0) ((rd_T39 l1 x12_1).f1) t112 _ A14.out).mono ?_
              rintro e w29 ⟨rfl, hb⟩
              refine ⟨_, rfl, ?_⟩
              have n0_ := Aside0.mk (blk_below (g := gb108) (o := .cells #[.int .u32 a0_0, .bool a0_1, .int .u32 a0_2, .int .u32 a0_3, .int .u32 a0_4, .int .u32 a0_5, .bool a0_6] 24 (0, 0)) (by (with_reducible repeat (first | refine blk_drewN ?_ _ | refine blk_drew ?_ | refine blk_alloc ?_ _)); exact BK108.out) hb)
              have n1_ := Aside0.mk (blk_below (g := gb109) (o := .cells #[.int .u32 x110000_1, .bool x110001_1, .int .u32 x110002_1, .int .u32 x110003_1, .int .u32 x110004_1, .int .u32 x110005_1, .bool x110006_1] 24 (0, 0)) (by (with_reducible repeat (first | refine blk_drewN ?_ _ | refine blk_drew ?_ | refine blk_alloc ?_ _)); exact BK109.out) hb)
              have n2_ := Aside0.mk (blk_below (g := gb110) (o := .cells #[.int .u32 x111000_1, .bool x111001_1, .int .u32 x111002_1, .int .u32 x111003_1, .int .u32 x111004_1, .int .u32 x111005_1, .bool x111006_1] 24 (0, 0)) (by (with_reducible repeat (first | refine blk_drewN ?_ _ | refine blk_drew ?_ | refine blk_alloc ?_ _)); exact BK110.out) hb)
              have n3_ := Aside0.mk (below_step (by repeat (first | (with_reducible first | exact HB.out | apply below_alloc | apply pw_below_drewN | apply below_drew1 | refine below_set ?_ GE108.out | refine below_set ?_ GE109.out | refine below_set ?_ GE110.out) | exact HB.out)) hb)
              clear BK108
              clear BK109
              clear BK110
              clear HB
              have BK108 := n0_
              have BK109 := n1_
              have BK110 := n2_
              have HB := n3_
              clear n0_ n1_ n2_ n3_
              (try clear hb)
              (try clear hb2)
              (try clear hk)
              (try clear hi)
              refine hK.out _ _ ⟨(blk_cell BK110.out 0).trans rfl, (blk_cell BK110.out 1).trans rfl, (blk_cell BK110.out 2).trans rfl, (blk_cell BK110.out 3).trans rfl, (blk_cell BK110.out 4).trans rfl, (blk_cell BK110.out 5).trans rfl, (blk_cell BK110.out 6).trans rfl, ((HB.out.cell (World.block_lt_of_cell? w _ hw111_0)).trans hw111_0), ((HB.out.cell (World.block_lt_of_cell? w _ hw111_1)).trans hw111_1)⟩ (fun hHeld => ?_)
              clear hK K
              refine norm_ (a' := ?_) ?_ ?_
              rotate_left
              · show Act.put _ (some 20) _ = _
                simp only [Act.put, List.setIfInBounds_toArray, List.set_cons_zero, List.set_cons_succ, i64_w, i32_w]
                rfl
              refine pure_ (i := 6) (N := some 8) (v := ?_) (a' := ?_) #[true, true, true, true, true, true, true] rfl rfl (by kernel_rfl) (fun _ _ _ h => h) (Or.inl ⟨by rfl, ?_⟩) ?_ ?_
              rotate_left
              · intro w'
                go_simp
                with_reducible rfl
              rotate_left
              · simp only [Act.put, List.setIfInBounds_toArray, List.set_cons_zero, List.set_cons_succ, i64_w, i32_w]
                rfl
              refine done_ (by kernel_rfl) ?_
              have hnb30 := NB108_109.out
              have hnc30 := NB109_108.out
              have hnb31 := NB108_110.out
              have hnc31 := NB110_108.out
              have hcz32_0 : w29.cell? ⟨gb108, 0, none⟩ = some (.int .u32 a0_0) := (blk_cell BK108.out 0).trans rfl
              have hcz32_1 : w29.cell? ⟨gb108, 1, none⟩ = some (.bool a0_1) := (blk_cell BK108.out 1).trans rfl
              have hcz32_2 : w29.cell? ⟨gb108, 2, none⟩ = some (.int .u32 a0_2) := (blk_cell BK108.out 2).trans rfl
              have hcz32_3 : w29.cell? ⟨gb108, 3, none⟩ = some (.int .u32 a0_3) := (blk_cell BK108.out 3).trans rfl
              have hcz32_4 : w29.cell? ⟨gb108, 4, none⟩ = some (.int .u32 a0_4) := (blk_cell BK108.out 4).trans rfl
              have hcz32_5 : w29.cell? ⟨gb108, 5, none⟩ = some (.int .u32 a0_5) := (blk_cell BK108.out 5).trans rfl
              have hcz32_6 : w29.cell? ⟨gb108, 6, none⟩ = some (.bool a0_6) := (blk_cell BK108.out 6).trans rfl
              have hfz32_0 := blk_frozen BK108.out 0
              have hfz32_1 := blk_frozen BK108.out 1
              have hfz32_2 := blk_frozen BK108.out 2
              have hfz32_3 := blk_frozen BK108.out 3
              have hfz32_4 := blk_frozen BK108.out 4
              have hfz32_5 := blk_frozen BK108.out 5
              have hfz32_6 := blk_frozen BK108.out 6
              have hnb33 := NB109_110.out
              have hnc33 := NB110_109.out
              have hcz34_0 : w29.cell? ⟨gb109, 0, none⟩ = some (.int .u32 x110000_1) := (blk_cell BK109.out 0).trans rfl
              have hcz34_1 : w29.cell? ⟨gb109, 1, none⟩ = some (.bool x110001_1) := (blk_cell BK109.out 1).trans rfl
              have hcz34_2 : w29.cell? ⟨gb109, 2, none⟩ = some (.int .u32 x110002_1) := (blk_cell BK109.out 2).trans rfl
              have hcz34_3 : w29.cell? ⟨gb109, 3, none⟩ = some (.int .u32 x110003_1) := (blk_cell BK109.out 3).trans rfl
              have hcz34_4 : w29.cell? ⟨gb109, 4, none⟩ = some (.int .u32 x110004_1) := (blk_cell BK109.out 4).trans rfl
              have hcz34_5 : w29.cell? ⟨gb109, 5, none⟩ = some (.int .u32 x110005_1) := (blk_cell BK109.out 5).trans rfl
              have hcz34_6 : w29.cell? ⟨gb109, 6, none⟩ = some (.bool x110006_1) := (blk_cell BK109.out 6).trans rfl
              have hfz34_0 := blk_frozen BK109.out 0
              have hfz34_1 := blk_frozen BK109.out 1
              have hfz34_2 := blk_frozen BK109.out 2
              have hfz34_3 := blk_frozen BK109.out 3
              have hfz34_4 := blk_frozen BK109.out 4
              have hfz34_5 := blk_frozen BK109.out 5
              have hfz34_6 := blk_frozen BK109.out 6
              try go_wp2
              refine bodyPost_ret (results_ct rfl _ _ gb109 24 #[.int .u32 a0_0, .bool a0_1, .int .u32 a0_2, .int .u32 a0_3, .int .u32 a0_4, .int .u32 a0_5, .bool a0_6] (0, 0) _ rfl (by (with_reducible repeat (first | refine blk_drewN ?_ _ | refine blk_drew ?_ | refine blk_alloc ?_ _)); refine blk_put (cs := #[.int .u32 a0_0, .bool a0_1, .int .u32 a0_2, .int .u32 a0_3, .int .u32 a0_4, .int .u32 a0_5, .bool x110006_1]) ?_ 6 _ rfl; (with_reducible repeat (first | refine blk_drewN ?_ _ | refine blk_drew ?_ | refine blk_alloc ?_ _)); refine blk_put (cs := #[.int .u32 a0_0, .bool a0_1, .int .u32 a0_2, .int .u32 a0_3, .int .u32 a0_4, .int .u32 x110005_1, .bool x110006_1]) ?_ 5 _ rfl; (with_reducible repeat (first | refine blk_drewN ?_ _ | refine blk_drew ?_ | refine blk_alloc ?_ _)); refine blk_put (cs := #[.int .u32 a0_0, .bool a0_1, .int .u32 a0_2, .int .u32 a0_3, .int .u32 x110004_1, .int .u32 x110005_1, .bool x110006_1]) ?_ 4 _ rfl; (with_reducible repeat (first | refine blk_drewN ?_ _ | refine blk_drew ?_ | refine blk_alloc ?_ _)); refine blk_put (cs := #[.int .u32 a0_0, .bool a0_1, .int .u32 a0_2, .int .u32 x110003_1, .int .u32 x110004_1, .int .u32 x110005_1, .bool x110006_1]) ?_ 3 _ rfl; (with_reducible repeat (first | refine blk_drewN ?_ _ | refine blk_drew ?_ | refine blk_alloc ?_ _)); refine blk_put (cs := #[.int .u32 a0_0, .bool a0_1, .int .u32 x110002_1, .int .u32 x110003_1, .int .u32 x110004_1, .int .u32 x110005_1, .bool x110006_1]) ?_ 2 _ rfl; (with_reducible repeat (first | refine blk_drewN ?_ _ | refine blk_drew ?_ | refine blk_alloc ?_ _)); refine blk_put (cs := #[.int .u32 a0_0, .bool x110001_1, .int .u32 x110002_1, .int .u32 x110003_1, .int .u32 x110004_1, .int .u32 x110005_1, .bool x110006_1]) ?_ 1 _ rfl; (with_reducible repeat (first | refine blk_drewN ?_ _ | refine blk_drew ?_ | refine blk_alloc ?_ _)); refine blk_put (cs := #[.int .u32 x110000_1, .bool x110001_1, .int .u32 x110002_1, .int .u32 x110003_1, .int .u32 x110004_1, .int .u32 x110005_1, .bool x110006_1]) ?_ 0 _ rfl; (with_reducible repeat (first | refine blk_drewN ?_ _ | refine blk_drew ?_ | refine blk_alloc ?_ _)); exact BK109.out) Try.underlying24 rfl (by kernel_rfl)) rfl ?_
              exact ⟨by first | rfl | (simp [errW_none, errW_some] <;> rfl) | (simp [*, errW_none, errW_some] <;> rfl), by repeat (first | (with_reducible first | exact HB.out | apply below_alloc | apply pw_below_drewN | apply below_drew1 | refine below_set ?_ GE108.out | refine below_set ?_ GE109.out | refine below_set ?_ GE110.out) | exact HB.out)⟩
          · rw [if_neg c13] at H
            exact absurd H (by simp)
        · rw [if_neg c12] at H
          exact absurd H (by simp)
      · rw [if_neg c11] at H
        have c11b0 : decide (x12_1 < (l1.length : Int)) = false := decide_eq_false c11
        clear c11
        simp only [Option.some.injEq, Prod.mk.injEq] at H
        obtain ⟨rfl, rfl, rfl, rfl, rfl, rfl, rfl, rfl⟩ := H
        have hnb35 := NB110_108.out
        have hnc35 := NB108_110.out
        have hnb36 := NB110_109.out
        have hnc36 := NB109_110.out
        have hcz37_0 : wr.cell? ⟨gb110, 0, none⟩ = some (.int .u32 x111000_1) := (blk_cell BK110.out 0).trans rfl
        have hcz37_1 : wr.cell? ⟨gb110, 1, none⟩ = some (.bool x111001_1) := (blk_cell BK110.out 1).trans rfl
        have hcz37_2 : wr.cell? ⟨gb110, 2, none⟩ = some (.int .u32 x111002_1) := (blk_cell BK110.out 2).trans rfl
        have hcz37_3 : wr.cell? ⟨gb110, 3, none⟩ = some (.int .u32 x111003_1) := (blk_cell BK110.out 3).trans rfl
        have hcz37_4 : wr.cell? ⟨gb110, 4, none⟩ = some (.int .u32 x111004_1) := (blk_cell BK110.out 4).trans rfl
        have hcz37_5 : wr.cell? ⟨gb110, 5, none⟩ = some (.int .u32 x111005_1) := (blk_cell BK110.out 5).trans rfl
        have hcz37_6 : wr.cell? ⟨gb110, 6, none⟩ = some (.bool x111006_1) := (blk_cell BK110.out 6).trans rfl
        have hfz37_0 := blk_frozen BK110.out 0
        have hfz37_1 := blk_frozen BK110.out 1
        have hfz37_2 := blk_frozen BK110.out 2
        have hfz37_3 := blk_frozen BK110.out 3
        have hfz37_4 := blk_frozen BK110.out 4
        have hfz37_5 := blk_frozen BK110.out 5
        have hfz37_6 := blk_frozen BK110.out 6
        have hnb38 := NB109_108.out
        have hnc38 := NB108_109.out
        have hcz39_0 : wr.cell? ⟨gb109, 0, none⟩ = some (.int .u32 x110000_1) := (blk_cell BK109.out 0).trans rfl
        have hcz39_1 : wr.cell? ⟨gb109, 1, none⟩ = some (.bool x110001_1) := (blk_cell BK109.out 1).trans rfl
        have hcz39_2 : wr.cell? ⟨gb109, 2, none⟩ = some (.int .u32 x110002_1) := (blk_cell BK109.out 2).trans rfl
        have hcz39_3 : wr.cell? ⟨gb109, 3, none⟩ = some (.int .u32 x110003_1) := (blk_cell BK109.out 3).trans rfl
        have hcz39_4 : wr.cell? ⟨gb109, 4, none⟩ = some (.int .u32 x110004_1) := (blk_cell BK109.out 4).trans rfl
        have hcz39_5 : wr.cell? ⟨gb109, 5, none⟩ = some (.int .u32 x110005_1) := (blk_cell BK109.out 5).trans rfl
        have hcz39_6 : wr.cell? ⟨gb109, 6, none⟩ = some (.bool x110006_1) := (blk_cell BK109.out 6).trans rfl
        have hfz39_0 := blk_frozen BK109.out 0
        have hfz39_1 := blk_frozen BK109.out 1
        have hfz39_2 := blk_frozen BK109.out 2
        have hfz39_3 := blk_frozen BK109.out 3
        have hfz39_4 := blk_frozen BK109.out 4
        have hfz39_5 := blk_frozen BK109.out 5
        have hfz39_6 := blk_frozen BK109.out 6
        go_wp2
        refine bodyPost_ret (results_ct rfl _ _ gb109 24 #[.int .u32 x111000_1, .bool x111001_1, .int .u32 x111002_1, .int .u32 x111003_1, .int .u32 x111004_1, .int .u32 x111005_1, .bool x111006_1] (0, 0) _ rfl (by (with_reducible repeat (first | refine blk_drewN ?_ _ | refine blk_drew ?_ | refine blk_alloc ?_ _)); refine blk_put (cs := #[.int .u32 x111000_1, .bool x111001_1, .int .u32 x111002_1, .int .u32 x111003_1, .int .u32 x111004_1, .int .u32 x111005_1, .bool x110006_1]) ?_ 6 _ rfl; (with_reducible repeat (first | refine blk_drewN ?_ _ | refine blk_drew ?_ | refine blk_alloc ?_ _)); refine blk_put (cs := #[.int .u32 x111000_1, .bool x111001_1, .int .u32 x111002_1, .int .u32 x111003_1, .int .u32 x111004_1, .int .u32 x110005_1, .bool x110006_1]) ?_ 5 _ rfl; (with_reducible repeat (first | refine blk_drewN ?_ _ | refine blk_drew ?_ | refine blk_alloc ?_ _)); refine blk_put (cs := #[.int .u32 x111000_1, .bool x111001_1, .int .u32 x111002_1, .int .u32 x111003_1, .int .u32 x110004_1, .int .u32 x110005_1, .bool x110006_1]) ?_ 4 _ rfl; (with_reducible repeat (first | refine blk_drewN ?_ _ | refine blk_drew ?_ | refine blk_alloc ?_ _)); refine blk_put (cs := #[.int .u32 x111000_1, .bool x111001_1, .int .u32 x111002_1, .int .u32 x110003_1, .int .u32 x110004_1, .int .u32 x110005_1, .bool x110006_1]) ?_ 3 _ rfl; (with_reducible repeat (first | refine blk_drewN ?_ _ | refine blk_drew ?_ | refine blk_alloc ?_ _)); refine blk_put (cs := #[.int .u32 x111000_1, .bool x111001_1, .int .u32 x110002_1, .int .u32 x110003_1, .int .u32 x110004_1, .int .u32 x110005_1, .bool x110006_1]) ?_ 2 _ rfl; (with_reducible repeat (first | refine blk_drewN ?_ _ | refine blk_drew ?_ | refine blk_alloc ?_ _)); refine blk_put (cs := #[.int .u32 x111000_1, .bool x110001_1, .int .u32 x110002_1, .int .u32 x110003_1, .int .u32 x110004_1, .int .u32 x110005_1, .bool x110006_1]) ?_ 1 _ rfl; (with_reducible repeat (first | refine blk_drewN ?_ _ | refine blk_drew ?_ | refine blk_alloc ?_ _)); refine blk_put (cs := #[.int .u32 x110000_1, .bool x110001_1, .int .u32 x110002_1, .int .u32 x110003_1, .int .u32 x110004_1, .int .u32 x110005_1, .bool x110006_1]) ?_ 0 _ rfl; (with_reducible repeat (first | refine blk_drewN ?_ _ | refine blk_drew ?_ | refine blk_alloc ?_ _)); exact BK109.out) Try.underlying24 rfl (by kernel_rfl)) rfl ?_
        exact ⟨by first | rfl | (simp [errW_none, errW_some] <;> rfl) | (simp [*, errW_none, errW_some] <;> rfl), by repeat (first | (with_reducible first | exact HB.out | apply below_alloc | apply pw_below_drewN | apply below_drew1 | refine below_set ?_ GE108.out | refine below_set ?_ GE109.out | refine below_set ?_ GE110.out) | exact HB.out)⟩

def louverlaw09_told.f (a0 : Int) : Option (Int × Int) := if a0 = 99 then (some (0, 0)) else (some (1, (a0) % 4294967296))
def louverref09_Begin.f  : Option (Int × Bool × Int × Int × Int × Int × Bool) := some (4096, true, 4294967295, 65535, 16384, 4294967295, false)
set_option maxHeartbeats 8000000 in
set_option maxRecDepth 100000 in
theorem louverref09_Begin.calls  (r1 : Int) (r2 : Bool) (r3 : Int) (r4 : Int) (r5 : Int) (r6 : Int) (r7 : Bool) (w : World) (h : louverref09_Begin.f  = some (r1, r2, r3, r4, r5, r6, r7)) :
    Calls Try.prog 12 #[] w fun e w' => e = .returned (.agg #[.int .u32 r1, .bool r2, .int .u32 r3, .int .u32 r4, .int .u32 r5, .int .u32 r6, .bool r7]) ∧ Below w.heap.size w w' := by
  have hu24 := Try.underlying24
  have HB := Aside0.mk (Below.refl w.heap.size w)
  have H : (some (4096, true, 4294967295, 65535, 16384, 4294967295, false)) = some (r1, r2, r3, r4, r5, r6, r7) := h
  clear h
  simp only [Option.some.injEq, Prod.mk.injEq] at H
  obtain ⟨rfl, rfl, rfl, rfl, rfl, rfl, rfl⟩ := H
  go_enter Try.func12, Try.ntmps12
  go_wp2_with (first | ((with_reducible refine gate_dst (N := 0) rfl ?_); refine box_event ?hg (N := 0) ?hd (cs := #[.int .u32 0, .bool false, .int .u32 0, .int .u32 0, .int .u32 0, .int .u32 0, .bool false]) (t := 24) ?hr ?_; (case hd => rfl); (case hg => rfl); (case hr => first | (go_simp; done) | (go_simp; rfl)); intro gb122 hg w1 hbox hb; have n0_ := Aside0.mk (below_step (by repeat (first | (with_reducible first | exact HB.out | apply below_alloc | apply pw_below_drewN | apply below_drew1) | exact HB.out)) hb); have n1_ := Aside0.mk (hbox); have n2_ := Aside0.mk ((by rw [hg]; exact (below_size (by repeat (first | (with_reducible first | exact HB.out | apply below_alloc | apply pw_below_drewN | apply below_drew1) | exact HB.out))) : w.heap.size ≤ gb122)); have n3_ := Aside0.mk ((by rw [hg]; exact (below_size (by repeat (first | (with_reducible first | exact HB.out | apply below_alloc | apply pw_below_drewN | apply below_drew1) | exact HB.out))) : w.heap.size ≤ gb122)); clear HB; have HB := n0_; have BK122 := n1_; have GW122 := n2_; have GE122 := n3_; clear n0_ n1_ n2_ n3_; clear hb hbox hg; have hcz2_0 : w1.cell? ⟨gb122, 0, none⟩ = some (.int .u32 0) := (blk_cell BK122.out 0).trans rfl; have hcz2_1 : w1.cell? ⟨gb122, 1, none⟩ = some (.bool false) := (blk_cell BK122.out 1).trans rfl; have hcz2_2 : w1.cell? ⟨gb122, 2, none⟩ = some (.int .u32 0) := (blk_cell BK122.out 2).trans rfl; have hcz2_3 : w1.cell? ⟨gb122, 3, none⟩ = some (.int .u32 0) := (blk_cell BK122.out 3).trans rfl; have hcz2_4 : w1.cell? ⟨gb122, 4, none⟩ = some (.int .u32 0) := (blk_cell BK122.out 4).trans rfl; have hcz2_5 : w1.cell? ⟨gb122, 5, none⟩ = some (.int .u32 0) := (blk_cell BK122.out 5).trans rfl; have hcz2_6 : w1.cell? ⟨gb122, 6, none⟩ = some (.bool false) := (blk_cell BK122.out 6).trans rfl; have hfz2_0 := blk_frozen BK122.out 0; have hfz2_1 := blk_frozen BK122.out 1; have hfz2_2 := blk_frozen BK122.out 2; have hfz2_3 := blk_frozen BK122.out 3; have hfz2_4 := blk_frozen BK122.out 4; have hfz2_5 := blk_frozen BK122.out 5; have hfz2_6 := blk_frozen BK122.out 6))
  refine bodyPost_ret (results_cell_row rfl _ _ gb122 24 #[.int .u32 4096, .bool true, .int .u32 4294967295, .int .u32 65535, .int .u32 16384, .int .u32 4294967295, .bool false] (0, 0) _ rfl (by (with_reducible repeat (first | refine blk_drewN ?_ _ | refine blk_drew ?_ | refine blk_alloc ?_ _)); refine blk_put (cs := #[.int .u32 4096, .bool true, .int .u32 4294967295, .int .u32 65535, .int .u32 16384, .int .u32 4294967295, .bool false]) ?_ 6 _ rfl; (with_reducible repeat (first | refine blk_drewN ?_ _ | refine blk_drew ?_ | refine blk_alloc ?_ _)); refine blk_put (cs := #[.int .u32 4096, .bool true, .int .u32 4294967295, .int .u32 65535, .int .u32 16384, .int .u32 0, .bool false]) ?_ 5 _ rfl; (with_reducible repeat (first | refine blk_drewN ?_ _ | refine blk_drew ?_ | refine blk_alloc ?_ _)); refine blk_put (cs := #[.int .u32 4096, .bool true, .int .u32 4294967295, .int .u32 65535, .int .u32 0, .int .u32 0, .bool false]) ?_ 4 _ rfl; (with_reducible repeat (first | refine blk_drewN ?_ _ | refine blk_drew ?_ | refine blk_alloc ?_ _)); refine blk_put (cs := #[.int .u32 4096, .bool true, .int .u32 4294967295, .int .u32 0, .int .u32 0, .int .u32 0, .bool false]) ?_ 3 _ rfl; (with_reducible repeat (first | refine blk_drewN ?_ _ | refine blk_drew ?_ | refine blk_alloc ?_ _)); refine blk_put (cs := #[.int .u32 4096, .bool true, .int .u32 0, .int .u32 0, .int .u32 0, .int .u32 0, .bool false]) ?_ 2 _ rfl; (with_reducible repeat (first | refine blk_drewN ?_ _ | refine blk_drew ?_ | refine blk_alloc ?_ _)); refine blk_put (cs := #[.int .u32 4096, .bool false, .int .u32 0, .int .u32 0, .int .u32 0, .int .u32 0, .bool false]) ?_ 1 _ rfl; (with_reducible repeat (first | refine blk_drewN ?_ _ | refine blk_drew ?_ | refine blk_alloc ?_ _)); refine blk_put (cs := #[.int .u32 0, .bool false, .int .u32 0, .int .u32 0, .int .u32 0, .int .u32 0, .bool false]) ?_ 0 _ rfl; (with_reducible repeat (first | refine blk_drewN ?_ _ | refine blk_drew ?_ | refine blk_alloc ?_ _)); exact BK122.out) Try.underlying24 rfl (by kernel_rfl)) rfl ?_
  exact ⟨by first | rfl | (simp [errW_none, errW_some] <;> rfl) | (simp [*, errW_none, errW_some] <;> rfl), by repeat (first | (with_reducible first | exact HB.out | apply below_alloc | apply pw_below_drewN | apply below_drew1 | refine below_set ?_ GE122.out) | exact HB.out)⟩

end Go.Proofs.Ytehdljgbbaibcaa.PAll

namespace Go.Proofs.Ytehdljgbbaibcaa.PAll
open Go.RowKit Go.Proofs.YtehdljgbbaibcaaW.PrintWords Go.Proofs.YtehdljgbbaibcaaW.PrintLast Go.Proofs.YtehdljgbbaibcaaW.PrintMore
set_option linter.unusedVariables false
/-- A setting that a program reads: its numbers are no less than zero. -/
def Okay (x : S39) : Prop := 0 ≤ x.f1
theorem ref_wrong (k : Nat) (s : S24) (x : S39) (h : Okay x) : louverref09_wrong.f (k + 1) s.f0 s.f1 s.f2 s.f3 s.f4 s.f5 s.f6 x.f0 x.f1 = some (if (oneC s x).2.1 then 99 else (oneC s x).1) := by
  obtain ⟨s0, s1, s2, s3, s4, s5, s6⟩ := s
  obtain ⟨i, v⟩ := x
  simp only [Okay] at h
  unfold louverref09_wrong.f louverref09_wrong.j0 oneC settings_one.f
  simp only
  by_cases h1 : i = 1
  · subst h1; simp
  by_cases h2 : i = 2
  · subst h2; by_cases hv : v ≤ 1 <;> simp [hv] <;> omega
  by_cases h3 : i = 3
  · subst h3; simp
  by_cases h4 : i = 4
  · subst h4; by_cases hv : v ≤ 2147483647 <;> simp [hv] <;> omega
  by_cases h5 : i = 5
  · subst h5
    by_cases hv : v ≥ 16384
    · have a : ¬ v < 16384 := by omega
      by_cases hw : v ≤ 16777215
      · have b : ¬ v > 16777215 := by omega
        simp [hv, hw, a, b]
      · have b : v > 16777215 := by omega
        simp [hv, hw, a, b]
    · have a : v < 16384 := by omega
      simp [hv, a]
  by_cases h6 : i = 6
  · subst h6; simp
  by_cases h8 : i = 8
  · subst h8
    by_cases hv : v ≤ 1
    · have a : ¬ v > 1 := by omega
      by_cases hw : v = 1
      · subst hw; simp
      · have b : v = 0 := by omega
        subst b
        cases s6 <;> simp
    · have a : v > 1 := by omega
      simp [hv, a]
  simp [h1, h2, h3, h4, h5, h6, h8]
theorem ref_with (s : S24) (x : S39) : louverref09_with.f s.f0 s.f1 s.f2 s.f3 s.f4 s.f5 s.f6 x.f0 x.f1 = some ((oneC s x).2.2.f0, (oneC s x).2.2.f1, (oneC s x).2.2.f2, (oneC s x).2.2.f3, (oneC s x).2.2.f4, (oneC s x).2.2.f5, (oneC s x).2.2.f6) := by
  obtain ⟨s0, s1, s2, s3, s4, s5, s6⟩ := s
  obtain ⟨i, v⟩ := x
  unfold louverref09_with.f oneC settings_one.f
  simp only
  by_cases h1 : i = 1
  · subst h1; simp
  by_cases h2 : i = 2
  · subst h2; simp
  by_cases h3 : i = 3
  · subst h3; simp
  by_cases h4 : i = 4
  · subst h4; simp
  by_cases h5 : i = 5
  · subst h5; by_cases hv : v ≥ 16384 <;> simp [hv]
  by_cases h6 : i = 6
  · subst h6; simp
  by_cases h8 : i = 8
  · subst h8
    by_cases hv : v ≤ 1
    · by_cases hw : v = 1 <;> simp [hv, hw]
    · simp [hv]
  simp [h1, h2, h3, h4, h5, h6, h8]
theorem oneC_code (s : S24) (x : S39) (h : (oneC s x).2.1 = false) : (oneC s x).1 = 1 ∨ (oneC s x).1 = 3 := by
  obtain ⟨s0, s1, s2, s3, s4, s5, s6⟩ := s
  obtain ⟨i, v⟩ := x
  revert h
  unfold oneC settings_one.f
  simp only
  by_cases h1 : i = 1
  · subst h1; simp
  by_cases h2 : i = 2
  · subst h2; simp
  by_cases h3 : i = 3
  · subst h3; simp
  by_cases h4 : i = 4
  · subst h4; simp
  by_cases h5 : i = 5
  · subst h5; by_cases hv : v ≥ 16384 <;> simp [hv]
  by_cases h6 : i = 6
  · subst h6; simp
  by_cases h8 : i = 8
  · subst h8
    by_cases hv : v ≤ 1
    · by_cases hw : v = 1 <;> simp [hv, hw]
    · simp [hv]
  simp [h1, h2, h3, h4, h5, h6, h8]
/-- What the document's Apply answers. -/
def refC (s : S24) (l : List S39) : S24 × Int :=
  match applyC s l with
  | .ok t => (t, 99)
  | .error c => (s, c)
theorem applyC_code : ∀ (l : List S39) (s : S24) (c : Int), applyC s l = .error c → c = 1 ∨ c = 3
  | [], s, c, h => by simp [applyC] at h
  | x :: r, s, c, h => by
    unfold applyC at h
    by_cases ho : (oneC s x).2.1 = true
    · rw [if_pos ho] at h
      exact applyC_code r _ c h
    · rw [if_neg ho] at h
      have := oneC_code s x (by simpa using ho)
      injection h with h
      rw [← h]; exact this
theorem ref_loop (l : List S39) (s0 : S24) (hl : l.length ≤ 9223372036854775807) (ho : ∀ x ∈ l, Okay x) : ∀ (m j : Nat) (t : S24), j + m = l.length → louverref09_Apply.l0 (m + 2) l (l.length : Int) (j : Int) s0.f0 s0.f1 s0.f2 s0.f3 s0.f4 s0.f5 s0.f6 t.f0 t.f1 t.f2 t.f3 t.f4 t.f5 t.f6 =
    some (match applyC t (l.drop j) with
    | .ok t => (t.f0, t.f1, t.f2, t.f3, t.f4, t.f5, t.f6, 99)
    | .error c => (s0.f0, s0.f1, s0.f2, s0.f3, s0.f4, s0.f5, s0.f6, c)) := by
  intro m
  induction m with
  | zero =>
    intro j t hj
    obtain rfl : j = l.length := by omega
    unfold louverref09_Apply.l0
    rw [if_neg (by omega), List.drop_length]
    rfl
  | succ m ih =>
    intro j t hj
    have hlt : j < l.length := by omega
    have hx : rd_T39 l (j : Int) = l[j] := by simp [rd_T39, hlt]
    unfold louverref09_Apply.l0
    rw [if_pos (by omega), if_pos (by omega), if_pos (by omega), hx, ref_wrong (m + 1) t l[j] (ho _ (List.getElem_mem hlt)), Option.bind_some, ← List.getElem_cons_drop hlt]
    generalize ho' : oneC t l[j] = o
    unfold applyC
    rw [ho']
    obtain ⟨c, ok, t'⟩ := o
    cases ok with
    | true =>
      have hw : wrap64 ((j : Int) + 1) = ((j + 1 : Nat) : Int) := by
        unfold wrap64; omega
      simp only [if_true]
      rw [ref_with, ho', Option.bind_some, hw]
      exact ih (j + 1) t' (by omega)
    | false =>
      have hc := oneC_code t l[j] (by rw [ho'])
      rw [ho'] at hc
      have h99 : ¬ c = 99 := by rcases hc with h | h <;> simp only at h <;> omega
      simp [h99]
theorem ref_apply (s : S24) (l : List S39) (hl : l.length ≤ 9223372036854775807) (ho : ∀ x ∈ l, Okay x) : louverref09_Apply.f (l.length + 2) s.f0 s.f1 s.f2 s.f3 s.f4 s.f5 s.f6 l = some ((refC s l).1.f0, (refC s l).1.f1, (refC s l).1.f2, (refC s l).1.f3, (refC s l).1.f4, (refC s l).1.f5, (refC s l).1.f6, (refC s l).2) := by
  unfold louverref09_Apply.f
  have := ref_loop l s hl ho l.length 0 s (by omega)
  simp only [Int.natCast_zero, List.drop_zero] at this
  rw [show (0 : Int) = ((0 : Nat) : Int) from rfl] at *
  rw [this]
  unfold refC
  cases applyC s l <;> rfl
end Go.Proofs.Ytehdljgbbaibcaa.PAll

namespace Go.Proofs.Ytehdljgbbaibcaa
open Go.RowKit Go.Proofs.YtehdljgbbaibcaaW.PrintWords Go.Proofs.YtehdljgbbaibcaaW.PrintLast Go.Proofs.YtehdljgbbaibcaaW.PrintMore
set_option linter.unusedVariables false
/-- Number i is taken first; what it leaves stands written out. -/
theorem takeN {P : Program} {md : Region.Mode} {ops : Array Oper} {Q : Exit → Act → World → Prop} {S : World → Prop} {i : Nat} {N : Option Tmp} {oi : Oper} {v : Value} {fuel : Nat} {listed : Array Bool} {a a' : Act} {w : World} (hi : ops[i]? = some oi) (hN : oi.dst = N)
    (hs : Region.noSelect ops = true) (hf : Region.free md ops listed i = true) (hr : (Region.ready md ops listed).contains i = true)
    (hQ : ∀ c a w, Q (.panic c) (a.put oi.dst v) w → Q (.panic c) a w) (hy : YieldsIf P ops S oi v a) (ha : a.put N v = a') (hS : S w)
    (h : wpAnyH P md ops Q S fuel (listed.setIfInBounds i true) a' w) : wpAnyH P md ops Q S (fuel + 1) listed a w := by
  subst hN; subst ha
  exact wpAnyH_take hi hs hf hr hQ hy hS h
theorem last_at (W : World) (o : Obj) (k : Nat) (h : k = W.heap.size) : (W.alloc o).heap[k]? = some o := by
  rw [h]
  show (W.heap.push o)[W.heap.size]? = some o
  simp
end Go.Proofs.Ytehdljgbbaibcaa

/- A side of settings: its methods by contracts. -/
namespace Go.Proofs.Ytehdljgbbaibcaa
open Go.RowKit Go.Proofs.YtehdljgbbaibcaaW.PrintWords Go.Proofs.YtehdljgbbaibcaaW.PrintLast Go.Proofs.YtehdljgbbaibcaaW.PrintMore Go.Proofs.Ytehdljgbbaibcaa.PAll
set_option linter.unusedVariables false
set_option linter.unusedSimpArgs false
/-- A side at block g: what is in force, and the row of what waits. -/
structure Sd (w0 W : World) (g : Nat) (v : Value) (now : S24) (ws : List S24) : Prop where
  blk : W.heap[g]? = some (.cells #[.int .u32 now.f0, .bool now.f1, .int .u32 now.f2, .int .u32 now.f3, .int .u32 now.f4, .int .u32 now.f5, .bool now.f6, v] 61 (0, 0))
  row : Kd.Q k24 24 W w0.heap.size (fun _ => True) v ws
  bel : Below w0.heap.size w0 W
  base : w0.heap.size ≤ g
theorem cell_heap {W W' : World} {a : Addr} (h : W'.heap[a.block]? = W.heap[a.block]?) : W'.cell? a = W.cell? a := World.cell?_of_block (w := W) h
theorem cell_alloc2 {W : World} {o o2 : Obj} {a : Addr} (h : a.block < W.heap.size) : ((W.alloc o).alloc o2).cell? a = W.cell? a := cell_heap ((below_alloc (below_alloc (Below.refl _ _) _) _).block _ h)
theorem cell_drew (W : World) (a : Addr) : W.drew.cell? a = W.cell? a := rfl
theorem cell_set {W : World} {a p : Addr} {x : Value} (h : a.block ≠ p.block) : (W.setCell p x).cell? a = W.cell? a := cell_heap (Below.heap_setCell W p x a.block h)
theorem heap_sets7 {W : World} {q k : Nat} {x0 x1 x2 x3 x4 x5 x6 : Value} (h : q ≠ k) : (((((((W.setCell ⟨k, 0, none⟩ x0).setCell ⟨k, 1, none⟩ x1).setCell ⟨k, 2, none⟩ x2).setCell ⟨k, 3, none⟩ x3).setCell ⟨k, 4, none⟩ x4).setCell ⟨k, 5, none⟩ x5).setCell ⟨k, 6, none⟩ x6).heap[q]? = W.heap[q]? := by
  rw [Below.heap_setCell _ ⟨k, 6, none⟩ _ q h, Below.heap_setCell _ ⟨k, 5, none⟩ _ q h, Below.heap_setCell _ ⟨k, 4, none⟩ _ q h, Below.heap_setCell _ ⟨k, 3, none⟩ _ q h, Below.heap_setCell _ ⟨k, 2, none⟩ _ q h, Below.heap_setCell _ ⟨k, 1, none⟩ _ q h, Below.heap_setCell _ ⟨k, 0, none⟩ _ q h]
theorem heap_sets2 {W : World} {q k : Nat} {x0 x1 : Value} (h : q ≠ k) : ((W.setCell ⟨k, 0, none⟩ x0).setCell ⟨k, 1, none⟩ x1).heap[q]? = W.heap[q]? := by
  rw [Below.heap_setCell _ ⟨k, 1, none⟩ _ q h, Below.heap_setCell _ ⟨k, 0, none⟩ _ q h]
theorem cell_sets7 {W : World} {a : Addr} {k : Nat} {x0 x1 x2 x3 x4 x5 x6 : Value} (h : a.block ≠ k) : (((((((W.setCell ⟨k, 0, none⟩ x0).setCell ⟨k, 1, none⟩ x1).setCell ⟨k, 2, none⟩ x2).setCell ⟨k, 3, none⟩ x3).setCell ⟨k, 4, none⟩ x4).setCell ⟨k, 5, none⟩ x5).setCell ⟨k, 6, none⟩ x6).cell? a = W.cell? a := by
  rw [cell_set (p := ⟨k, 6, none⟩) h, cell_set (p := ⟨k, 5, none⟩) h, cell_set (p := ⟨k, 4, none⟩) h, cell_set (p := ⟨k, 3, none⟩) h, cell_set (p := ⟨k, 2, none⟩) h, cell_set (p := ⟨k, 1, none⟩) h, cell_set (p := ⟨k, 0, none⟩) h]
theorem sets7 {w W : World} {B k : Nat} {x0 x1 x2 x3 x4 x5 x6 : Value} (h : Below B w W) (hk : B ≤ k) : Below B w (((((((W.setCell ⟨k, 0, none⟩ x0).setCell ⟨k, 1, none⟩ x1).setCell ⟨k, 2, none⟩ x2).setCell ⟨k, 3, none⟩ x3).setCell ⟨k, 4, none⟩ x4).setCell ⟨k, 5, none⟩ x5).setCell ⟨k, 6, none⟩ x6) := Below.setCell (Below.setCell (Below.setCell (Below.setCell (Below.setCell (Below.setCell (Below.setCell h hk _) hk _) hk _) hk _) hk _) hk _) hk _
theorem Sd.below {w0 W W' : World} {g : Nat} {v : Value} {now : S24} {ws : List S24} (h : Sd w0 W g v now ws) (hb : Below W.heap.size W W') : Sd w0 W' g v now ws := ⟨blk_below h.blk hb, Kd.Q_below h.row hb, below_step h.bel hb, h.base⟩
def begS : S24 := ⟨4096, true, 4294967295, 65535, 16384, 4294967295, false⟩
/-- Those that will be. -/
def lastS (now : S24) (ws : List S24) : S24 := ws.getLastD now
set_option maxHeartbeats 8000000 in
set_option maxRecDepth 100000 in
theorem side_new (w0 w : World) (hB : Below w0.heap.size w0 w) : Calls Try.prog 19 #[] w fun e w' => ∃ g, e = .returned (.pointer (some ⟨g, 0, none⟩)) ∧ Sd w0 w' g (.slice none 0 0) begS [] ∧ Below w.heap.size w w' := by
  have hu24 := Try.underlying24
  have hu28 := Try.underlying28
  have hu61 := Try.underlying61
  have HB := Aside0.mk hB
  clear hB
  go_enter Try.func19, Try.ntmps19
  go_wp2_with fail
  refine (settings_Begin.calls 4096 true 4294967295 65535 16384 4294967295 false _ rfl).mono ?_
  rintro e w1 ⟨rfl, hb⟩
  have HB1 := Aside0.mk hb
  clear hb
  go_wp2_with fail
  go_ret
  exact ⟨_, rfl, ⟨last_at _ _ _ rfl, Kd.Q_nil _ _ _ _ _, below_step HB.out (below_alloc HB1.out _), Nat.le_trans HB.out.size HB1.out.size⟩, below_alloc HB1.out _⟩
set_option maxHeartbeats 8000000 in
set_option maxRecDepth 100000 in
theorem side_waits {w0 w : World} {g : Nat} {v : Value} {now : S24} {ws : List S24} (h : Sd w0 w g v now ws) : Calls Try.prog 18 #[.pointer (some ⟨g, 0, none⟩)] w fun e w' => e = .returned (.int .i64 ws.length) ∧ Below w.heap.size w w' := by
  have hu24 := Try.underlying24
  have hu28 := Try.underlying28
  have hu61 := Try.underlying61
  obtain ⟨A, c, rfl, _⟩ := Kd.Q_slice h.row
  have y7 : w.cell? ⟨g, 7, none⟩ = some (.slice A ws.length c) := (blk_cell h.blk 7).trans rfl
  have gl := blk_lt h.blk
  clear h
  go_enter Try.func18, Try.ntmps18
  go_wp2_with fail
  go_ret
  exact ⟨rfl, Below.refl _ _⟩
set_option maxHeartbeats 8000000 in
set_option maxRecDepth 100000 in
theorem side_now {w0 w : World} {g : Nat} {v : Value} {now : S24} {ws : List S24} (h : Sd w0 w g v now ws) : Calls Try.prog 16 #[.pointer (some ⟨g, 0, none⟩)] w fun e w' => e = .returned (.agg #[.int .u32 now.f0, .bool now.f1, .int .u32 now.f2, .int .u32 now.f3, .int .u32 now.f4, .int .u32 now.f5, .bool now.f6]) ∧ Below w.heap.size w w' := by
  have hu24 := Try.underlying24
  have hu28 := Try.underlying28
  have hu61 := Try.underlying61
  have hg1 := blk_alloc h.blk (.cells #[.int .u32 0, .bool false, .int .u32 0, .int .u32 0, .int .u32 0, .int .u32 0, .bool false] 24)
  have hr1 : (w.alloc (.cells #[.int .u32 0, .bool false, .int .u32 0, .int .u32 0, .int .u32 0, .int .u32 0, .bool false] 24)).heap[w.heap.size]? = some (.cells #[.int .u32 0, .bool false, .int .u32 0, .int .u32 0, .int .u32 0, .int .u32 0, .bool false] 24 (0, 0)) := last_at _ _ _ rfl
  have HB := Aside0.mk (below_alloc (Below.refl w.heap.size w) (.cells #[.int .u32 0, .bool false, .int .u32 0, .int .u32 0, .int .u32 0, .int .u32 0, .bool false] 24))
  have hle : w.heap.size ≤ w.heap.size := Nat.le_refl _
  have hgw : g < w.heap.size := blk_lt h.blk
  have y0 : (w.alloc (.cells #[.int .u32 0, .bool false, .int .u32 0, .int .u32 0, .int .u32 0, .int .u32 0, .bool false] 24)).cell? ⟨g, 0, none⟩ = some (.int .u32 now.f0) := (blk_cell hg1 0).trans rfl
  have yf0 := blk_frozen hg1 0
  have y1 : (w.alloc (.cells #[.int .u32 0, .bool false, .int .u32 0, .int .u32 0, .int .u32 0, .int .u32 0, .bool false] 24)).cell? ⟨g, 1, none⟩ = some (.bool now.f1) := (blk_cell hg1 1).trans rfl
  have yf1 := blk_frozen hg1 1
  have y2 : (w.alloc (.cells #[.int .u32 0, .bool false, .int .u32 0, .int .u32 0, .int .u32 0, .int .u32 0, .bool false] 24)).cell? ⟨g, 2, none⟩ = some (.int .u32 now.f2) := (blk_cell hg1 2).trans rfl
  have yf2 := blk_frozen hg1 2
  have y3 : (w.alloc (.cells #[.int .u32 0, .bool false, .int .u32 0, .int .u32 0, .int .u32 0, .int .u32 0, .bool false] 24)).cell? ⟨g, 3, none⟩ = some (.int .u32 now.f3) := (blk_cell hg1 3).trans rfl
  have yf3 := blk_frozen hg1 3
  have y4 : (w.alloc (.cells #[.int .u32 0, .bool false, .int .u32 0, .int .u32 0, .int .u32 0, .int .u32 0, .bool false] 24)).cell? ⟨g, 4, none⟩ = some (.int .u32 now.f4) := (blk_cell hg1 4).trans rfl
  have yf4 := blk_frozen hg1 4
  have y5 : (w.alloc (.cells #[.int .u32 0, .bool false, .int .u32 0, .int .u32 0, .int .u32 0, .int .u32 0, .bool false] 24)).cell? ⟨g, 5, none⟩ = some (.int .u32 now.f5) := (blk_cell hg1 5).trans rfl
  have yf5 := blk_frozen hg1 5
  have y6 : (w.alloc (.cells #[.int .u32 0, .bool false, .int .u32 0, .int .u32 0, .int .u32 0, .int .u32 0, .bool false] 24)).cell? ⟨g, 6, none⟩ = some (.bool now.f6) := (blk_cell hg1 6).trans rfl
  have yf6 := blk_frozen hg1 6
  have y7 : (w.alloc (.cells #[.int .u32 0, .bool false, .int .u32 0, .int .u32 0, .int .u32 0, .int .u32 0, .bool false] 24)).cell? ⟨g, 7, none⟩ = some (v) := (blk_cell hg1 7).trans rfl
  have yf7 := blk_frozen hg1 7
  have yl := blk_lt hg1
  have z0 : (w.alloc (.cells #[.int .u32 0, .bool false, .int .u32 0, .int .u32 0, .int .u32 0, .int .u32 0, .bool false] 24)).cell? ⟨w.heap.size, 0, none⟩ = some (.int .u32 0) := (blk_cell hr1 0).trans rfl
  have zf0 := blk_frozen hr1 0
  have z1 : (w.alloc (.cells #[.int .u32 0, .bool false, .int .u32 0, .int .u32 0, .int .u32 0, .int .u32 0, .bool false] 24)).cell? ⟨w.heap.size, 1, none⟩ = some (.bool false) := (blk_cell hr1 1).trans rfl
  have zf1 := blk_frozen hr1 1
  have z2 : (w.alloc (.cells #[.int .u32 0, .bool false, .int .u32 0, .int .u32 0, .int .u32 0, .int .u32 0, .bool false] 24)).cell? ⟨w.heap.size, 2, none⟩ = some (.int .u32 0) := (blk_cell hr1 2).trans rfl
  have zf2 := blk_frozen hr1 2
  have z3 : (w.alloc (.cells #[.int .u32 0, .bool false, .int .u32 0, .int .u32 0, .int .u32 0, .int .u32 0, .bool false] 24)).cell? ⟨w.heap.size, 3, none⟩ = some (.int .u32 0) := (blk_cell hr1 3).trans rfl
  have zf3 := blk_frozen hr1 3
  have z4 : (w.alloc (.cells #[.int .u32 0, .bool false, .int .u32 0, .int .u32 0, .int .u32 0, .int .u32 0, .bool false] 24)).cell? ⟨w.heap.size, 4, none⟩ = some (.int .u32 0) := (blk_cell hr1 4).trans rfl
  have zf4 := blk_frozen hr1 4
  have z5 : (w.alloc (.cells #[.int .u32 0, .bool false, .int .u32 0, .int .u32 0, .int .u32 0, .int .u32 0, .bool false] 24)).cell? ⟨w.heap.size, 5, none⟩ = some (.int .u32 0) := (blk_cell hr1 5).trans rfl
  have zf5 := blk_frozen hr1 5
  have z6 : (w.alloc (.cells #[.int .u32 0, .bool false, .int .u32 0, .int .u32 0, .int .u32 0, .int .u32 0, .bool false] 24)).cell? ⟨w.heap.size, 6, none⟩ = some (.bool false) := (blk_cell hr1 6).trans rfl
  have zf6 := blk_frozen hr1 6
  have zl := blk_lt hr1
  clear h hg1 hr1
  go_enter Try.func16, Try.ntmps16
  go_wp2_with fail
  exact bodyPost_ret (v := .agg #[.int .u32 now.f0, .bool now.f1, .int .u32 now.f2, .int .u32 now.f3, .int .u32 now.f4, .int .u32 now.f5, .bool now.f6]) (by simp [results, Try.results16, go_sem, z0, z1, z2, z3, z4, z5, z6]) rfl ⟨rfl, below_alloc (Below.refl _ _) _⟩
set_option maxHeartbeats 8000000 in
set_option maxRecDepth 100000 in
theorem side_last {w0 w : World} {g : Nat} {v : Value} {now : S24} {ws : List S24} (h : Sd w0 w g v now ws) : Calls Try.prog 17 #[.pointer (some ⟨g, 0, none⟩)] w fun e w' => e = .returned (.agg #[.int .u32 (lastS now ws).f0, .bool (lastS now ws).f1, .int .u32 (lastS now ws).f2, .int .u32 (lastS now ws).f3, .int .u32 (lastS now ws).f4, .int .u32 (lastS now ws).f5, .bool (lastS now ws).f6]) ∧ Below w.heap.size w w' := by
  have hu24 := Try.underlying24
  have hu28 := Try.underlying28
  have hu61 := Try.underlying61
  obtain ⟨A, c, rfl, hcl⟩ := Kd.Q_slice h.row
  have y7 : (w.alloc (.cells #[.int .u32 0, .bool false, .int .u32 0, .int .u32 0, .int .u32 0, .int .u32 0, .bool false] 24)).cell? ⟨g, 7, none⟩ = some (.slice A ws.length c) := (blk_cell (blk_alloc h.blk _) 7).trans rfl
  have hr1 : (w.alloc (.cells #[.int .u32 0, .bool false, .int .u32 0, .int .u32 0, .int .u32 0, .int .u32 0, .bool false] 24)).heap[w.heap.size]? = some (.cells #[.int .u32 0, .bool false, .int .u32 0, .int .u32 0, .int .u32 0, .int .u32 0, .bool false] 24 (0, 0)) := last_at _ _ _ rfl
  have HB := Aside0.mk (below_alloc (Below.refl w.heap.size w) (.cells #[.int .u32 0, .bool false, .int .u32 0, .int .u32 0, .int .u32 0, .int .u32 0, .bool false] 24))
  have hle : w.heap.size ≤ w.heap.size := Nat.le_refl _
  have hgw : g < w.heap.size := blk_lt h.blk
  by_cases hws : ws.length = 0
  · have hwe : ws = [] := List.length_eq_zero_iff.mp hws
    have hz : ((ws.length : Int) == 0) = true := by rw [hws]; rfl
    have H := Aside0.mk (h.below (below_alloc (Below.refl _ _) (.cells #[.int .u32 0, .bool false, .int .u32 0, .int .u32 0, .int .u32 0, .int .u32 0, .bool false] 24)))
    have HR1 := Aside0.mk hr1
    have hll : lastS now ws = now := by rw [hwe]; rfl
    rw [hll]
    clear h hr1 hwe hll
    go_enter Try.func17, Try.ntmps17
    go_wp2_with fail
    refine (side_now H.out).mono ?_
    rintro e w1 ⟨rfl, hb⟩
    have hr2 := blk_below HR1.out hb
    have z0 : w1.cell? ⟨w.heap.size, 0, none⟩ = some (.int .u32 0) := (blk_cell hr2 0).trans rfl
    have zf0 := blk_frozen hr2 0
    have z1 : w1.cell? ⟨w.heap.size, 1, none⟩ = some (.bool false) := (blk_cell hr2 1).trans rfl
    have zf1 := blk_frozen hr2 1
    have z2 : w1.cell? ⟨w.heap.size, 2, none⟩ = some (.int .u32 0) := (blk_cell hr2 2).trans rfl
    have zf2 := blk_frozen hr2 2
    have z3 : w1.cell? ⟨w.heap.size, 3, none⟩ = some (.int .u32 0) := (blk_cell hr2 3).trans rfl
    have zf3 := blk_frozen hr2 3
    have z4 : w1.cell? ⟨w.heap.size, 4, none⟩ = some (.int .u32 0) := (blk_cell hr2 4).trans rfl
    have zf4 := blk_frozen hr2 4
    have z5 : w1.cell? ⟨w.heap.size, 5, none⟩ = some (.int .u32 0) := (blk_cell hr2 5).trans rfl
    have zf5 := blk_frozen hr2 5
    have z6 : w1.cell? ⟨w.heap.size, 6, none⟩ = some (.bool false) := (blk_cell hr2 6).trans rfl
    have zf6 := blk_frozen hr2 6
    have zl := blk_lt hr2
    replace HB := Aside0.mk (below_step HB.out hb)
    clear hb hr2 y7
    go_wp2_with fail
    exact bodyPost_ret (v := .agg #[.int .u32 now.f0, .bool now.f1, .int .u32 now.f2, .int .u32 now.f3, .int .u32 now.f4, .int .u32 now.f5, .bool now.f6]) (by simp [results, Try.results17, go_sem, z0, z1, z2, z3, z4, z5, z6]) rfl ⟨rfl, Below.setCell (Below.setCell (Below.setCell (Below.setCell (Below.setCell (Below.setCell (Below.setCell (HB.out) hle _) hle _) hle _) hle _) hle _) hle _) hle _⟩
  · have hn : 0 < ws.length := by omega
    have hz : ((ws.length : Int) == 0) = false := beq_eq_false_iff_ne.mpr (by omega)
    obtain ⟨gq, oq, cap, eq, hbq, hlq, cellsq, hcq⟩ := Kd.Q_form h.row hn
    injection eq with e1 e2 e3
    subst e1; subst e3; clear e2
    obtain ⟨x, hx⟩ : ∃ x, x = lastS now ws := ⟨_, rfl⟩
    rw [← hx]
    obtain ⟨cs, hlen, hM, hcell, hfro⟩ := Kd.Q_elem (Kd.Q_below h.row (below_alloc (Below.refl _ _) (.cells #[.int .u32 0, .bool false, .int .u32 0, .int .u32 0, .int .u32 0, .int .u32 0, .bool false] 24))) z24 ((ws.length : Int) - 1) (by omega) (by omega)
    have hxe : ws.getD ((ws.length : Int) - 1).toNat z24 = x := by
      rw [hx]
      unfold lastS
      rw [show ((ws.length : Int) - 1).toNat = ws.length - 1 by omega, List.getLastD_eq_getLast?, List.getLast?_eq_getElem?, List.getD_eq_getElem?_getD, List.getElem?_eq_getElem (by omega), Option.getD_some, Option.getD_some]
    rw [hxe] at hM
    obtain rfl := k24_openM hM
    obtain ⟨k, hk⟩ : ∃ k : Nat, k = oq + (ws.length - 1) * 7 := ⟨_, rfl⟩
    have hkk : ∀ j : Nat, oq + ((ws.length : Int) - 1).toNat * k24.sz + j = k + j := fun j => by rw [hk, show ((ws.length : Int) - 1).toNat = ws.length - 1 by omega]; rfl
    have q0 := hcell 0 _ rfl
    rw [hkk 0] at q0
    have q1 := hcell 1 _ rfl
    rw [hkk 1] at q1
    have q2 := hcell 2 _ rfl
    rw [hkk 2] at q2
    have q3 := hcell 3 _ rfl
    rw [hkk 3] at q3
    have q4 := hcell 4 _ rfl
    rw [hkk 4] at q4
    have q5 := hcell 5 _ rfl
    rw [hkk 5] at q5
    have q6 := hcell 6 _ rfl
    rw [hkk 6] at q6
    have hmx : ws.length ≤ 9223372036854775807 := (Kd.Q_reads' h.row).2.2.2.1
    have p0 : (0 : Int) ≤ ((ws.length - 1 : Nat) : Int) := by omega
    have p1 : ((ws.length - 1 : Nat) : Int) < (ws.length : Int) := by omega
    have hwr : IntKind.i64.wrap ((ws.length : Int) - 1) = ((ws.length - 1 : Nat) : Int) := by simp [IntKind.wrap, IntKind.bits, IntKind.signed]; omega
    have HR1 := Aside0.mk hr1
    clear h hr1 hcell hfro hM hlen hx hxe
    go_enter Try.func17, Try.ntmps17
    go_upto_region 3 with fail
    generalize w.alloc (.cells #[.int .u32 0, .bool false, .int .u32 0, .int .u32 0, .int .u32 0, .int .u32 0, .bool false] 24) = W1 at HB HR1 y7 q0 q1 q2 q3 q4 q5 q6 ⊢
    have z0 : W1.cell? ⟨w.heap.size, 0, none⟩ = some (.int .u32 0) := (blk_cell HR1.out 0).trans rfl
    have zf0 := blk_frozen HR1.out 0
    have z1 : W1.cell? ⟨w.heap.size, 1, none⟩ = some (.bool false) := (blk_cell HR1.out 1).trans rfl
    have zf1 := blk_frozen HR1.out 1
    have z2 : W1.cell? ⟨w.heap.size, 2, none⟩ = some (.int .u32 0) := (blk_cell HR1.out 2).trans rfl
    have zf2 := blk_frozen HR1.out 2
    have z3 : W1.cell? ⟨w.heap.size, 3, none⟩ = some (.int .u32 0) := (blk_cell HR1.out 3).trans rfl
    have zf3 := blk_frozen HR1.out 3
    have z4 : W1.cell? ⟨w.heap.size, 4, none⟩ = some (.int .u32 0) := (blk_cell HR1.out 4).trans rfl
    have zf4 := blk_frozen HR1.out 4
    have z5 : W1.cell? ⟨w.heap.size, 5, none⟩ = some (.int .u32 0) := (blk_cell HR1.out 5).trans rfl
    have zf5 := blk_frozen HR1.out 5
    have z6 : W1.cell? ⟨w.heap.size, 6, none⟩ = some (.bool false) := (blk_cell HR1.out 6).trans rfl
    have zf6 := blk_frozen HR1.out 6
    have zl := blk_lt HR1.out
    subst hk
    clear hkk
    refine wp_region_noPanic ?_
    refine wp_region_held_drew (S := fun w' => Aside0 (Below w.heap.size w w') ∧ w'.cell? ⟨g, 7, none⟩ = some (.slice (some ⟨gq, oq, none⟩) ws.length c) ∧ w'.cell? ⟨gq, oq + (ws.length - 1) * 7, none⟩ = some (.int .u32 x.f0) ∧ w'.cell? ⟨gq, oq + (ws.length - 1) * 7 + 1, none⟩ = some (.bool x.f1) ∧ w'.cell? ⟨gq, oq + (ws.length - 1) * 7 + 2, none⟩ = some (.int .u32 x.f2) ∧ w'.cell? ⟨gq, oq + (ws.length - 1) * 7 + 3, none⟩ = some (.int .u32 x.f3) ∧ w'.cell? ⟨gq, oq + (ws.length - 1) * 7 + 4, none⟩ = some (.int .u32 x.f4) ∧ w'.cell? ⟨gq, oq + (ws.length - 1) * 7 + 5, none⟩ = some (.int .u32 x.f5) ∧ w'.cell? ⟨gq, oq + (ws.length - 1) * 7 + 6, none⟩ = some (.bool x.f6)) (by kernel_rfl) (⟨⟨below_drew HB.out⟩, y7, q0, q1, q2, q3, q4, q5, q6⟩) (fun hHeld => ?_)
    refine takeN (i := 0) (N := (some 15)) (v := ?v1) (a' := ?a1) rfl rfl (by kernel_rfl) (by kernel_rfl) (by kernel_rfl) (fun _ _ _ h => h) (Or.inl ⟨by rfl, ?hy1⟩) ?ha1 (by assumption) ?rest1
    case hy1 =>
      intro w_ hSw_
      go_simp
      first | done | (with_reducible rfl)
    case ha1 =>
      simp only [Act.put, List.setIfInBounds_toArray, List.set_cons_zero, List.set_cons_succ]
      rfl
    refine takeN (i := 1) (N := (some 16)) (v := ?v2) (a' := ?a2) rfl rfl (by kernel_rfl) (by kernel_rfl) (by kernel_rfl) (fun _ _ _ h => h) (Or.inl ⟨by rfl, ?hy2⟩) ?ha2 (by assumption) ?rest2
    case hy2 =>
      intro w_ hSw_
      go_simp
      first | done | (with_reducible rfl)
    case ha2 =>
      simp only [Act.put, List.setIfInBounds_toArray, List.set_cons_zero, List.set_cons_succ]
      rfl
    refine takeN (i := 2) (N := (some 17)) (v := ?v3) (a' := ?a3) rfl rfl (by kernel_rfl) (by kernel_rfl) (by kernel_rfl) (fun _ _ _ h => h) (Or.inl ⟨by rfl, ?hy3⟩) ?ha3 (by assumption) ?rest3
    case hy3 =>
      intro w_ hSw_
      go_simp
      first | done | (with_reducible rfl)
    case ha3 =>
      simp only [Act.put, List.setIfInBounds_toArray, List.set_cons_zero, List.set_cons_succ]
      rfl
    refine takeN (i := 3) (N := (some 18)) (v := ?v4) (a' := ?a4) rfl rfl (by kernel_rfl) (by kernel_rfl) (by kernel_rfl) (fun _ _ _ h => h) (Or.inl ⟨by rfl, ?hy4⟩) ?ha4 (by assumption) ?rest4
    case hy4 =>
      intro w_ hSw_
      go_simp
      first | done | (with_reducible rfl)
    case ha4 =>
      simp only [Act.put, List.setIfInBounds_toArray, List.set_cons_zero, List.set_cons_succ]
      rfl
    refine takeN (i := 4) (N := (some 19)) (v := ?v5) (a' := ?a5) rfl rfl (by kernel_rfl) (by kernel_rfl) (by kernel_rfl) (fun _ _ _ h => h) (Or.inl ⟨by rfl, ?hy5⟩) ?ha5 (by assumption) ?rest5
    case hy5 =>
      intro w_ hSw_
      go_simp
      first | done | (with_reducible rfl)
    case ha5 =>
      simp only [Act.put, List.setIfInBounds_toArray, List.set_cons_zero, List.set_cons_succ]
      rfl
    refine takeN (i := 5) (N := (some 20)) (v := ?v6) (a' := ?a6) rfl rfl (by kernel_rfl) (by kernel_rfl) (by kernel_rfl) (fun _ _ _ h => h) (Or.inl ⟨by rfl, ?hy6⟩) ?ha6 (by assumption) ?rest6
    case hy6 =>
      intro w_ hSw_
      go_simp
      first | done | (with_reducible rfl)
    case ha6 =>
      simp only [Act.put, List.setIfInBounds_toArray, List.set_cons_zero, List.set_cons_succ]
      rfl
    refine takeN (i := 6) (N := (some 21)) (v := ?v7) (a' := ?a7) rfl rfl (by kernel_rfl) (by kernel_rfl) (by kernel_rfl) (fun _ _ _ h => h) (Or.inl ⟨by rfl, ?hy7⟩) ?ha7 (by assumption) ?rest7
    case hy7 =>
      intro w_ hSw_
      go_simp
      first | done | (with_reducible rfl)
    case ha7 =>
      simp only [Act.put, List.setIfInBounds_toArray, List.set_cons_zero, List.set_cons_succ]
      rfl
    refine takeN (i := 7) (N := (some 22)) (v := ?v8) (a' := ?a8) rfl rfl (by kernel_rfl) (by kernel_rfl) (by kernel_rfl) (fun _ _ _ h => h) (Or.inl ⟨by rfl, ?hy8⟩) ?ha8 (by assumption) ?rest8
    case hy8 =>
      intro w_ hSw_
      go_simp
      first | done | (with_reducible rfl)
    case ha8 =>
      simp only [Act.put, List.setIfInBounds_toArray, List.set_cons_zero, List.set_cons_succ]
      rfl
    refine takeN (i := 8) (N := (some 23)) (v := ?v9) (a' := ?a9) rfl rfl (by kernel_rfl) (by kernel_rfl) (by kernel_rfl) (fun _ _ _ h => h) (Or.inl ⟨by rfl, ?hy9⟩) ?ha9 (by assumption) ?rest9
    case hy9 =>
      intro w_ hSw_
      go_simp
      first | done | (with_reducible rfl)
    case ha9 =>
      simp only [Act.put, List.setIfInBounds_toArray, List.set_cons_zero, List.set_cons_succ]
      rfl
    refine takeN (i := 9) (N := (some 24)) (v := ?v10) (a' := ?a10) rfl rfl (by kernel_rfl) (by kernel_rfl) (by kernel_rfl) (fun _ _ _ h => h) (Or.inl ⟨by rfl, ?hy10⟩) ?ha10 (by assumption) ?rest10
    case hy10 =>
      intro w_ hSw_
      go_simp
      first | done | (with_reducible rfl)
    case ha10 =>
      simp only [Act.put, List.setIfInBounds_toArray, List.set_cons_zero, List.set_cons_succ]
      rfl
    refine takeN (i := 10) (N := (some 25)) (v := ?v11) (a' := ?a11) rfl rfl (by kernel_rfl) (by kernel_rfl) (by kernel_rfl) (fun _ _ _ h => h) (Or.inl ⟨by rfl, ?hy11⟩) ?ha11 (by assumption) ?rest11
    case hy11 =>
      intro w_ hSw_
      go_simp
      first | done | (with_reducible rfl)
    case ha11 =>
      simp only [Act.put, List.setIfInBounds_toArray, List.set_cons_zero, List.set_cons_succ]
      rfl
    refine takeN (i := 11) (N := (some 26)) (v := ?v12) (a' := ?a12) rfl rfl (by kernel_rfl) (by kernel_rfl) (by kernel_rfl) (fun _ _ _ h => h) (Or.inl ⟨by rfl, ?hy12⟩) ?ha12 (by assumption) ?rest12
    case hy12 =>
      intro w_ hSw_
      go_simp
      first | done | (with_reducible rfl)
    case ha12 =>
      simp only [Act.put, List.setIfInBounds_toArray, List.set_cons_zero, List.set_cons_succ]
      rfl
    refine wpAnyH_ready (rs := [12]) (by kernel_rfl) (by simp) ?_
    refine AllReadyH.cons rfl (fun K hK => ?_) AllReadyH.nil
    go_simp
    refine hK.out _ _ (⟨⟨below_drew (sets7 HB.out hle)⟩, (cell_drew _ _).trans ((cell_sets7 (by exact Nat.ne_of_lt hgw)).trans y7), (cell_drew _ _).trans ((cell_sets7 (by exact Nat.ne_of_lt hlq)).trans q0), (cell_drew _ _).trans ((cell_sets7 (by exact Nat.ne_of_lt hlq)).trans q1), (cell_drew _ _).trans ((cell_sets7 (by exact Nat.ne_of_lt hlq)).trans q2), (cell_drew _ _).trans ((cell_sets7 (by exact Nat.ne_of_lt hlq)).trans q3), (cell_drew _ _).trans ((cell_sets7 (by exact Nat.ne_of_lt hlq)).trans q4), (cell_drew _ _).trans ((cell_sets7 (by exact Nat.ne_of_lt hlq)).trans q5), (cell_drew _ _).trans ((cell_sets7 (by exact Nat.ne_of_lt hlq)).trans q6)⟩) (fun hHeld => ?_)
    clear hK K
    try simp only [Act.put, List.setIfInBounds_toArray, List.set_cons_zero, List.set_cons_succ]
    refine wpAnyH_done (by kernel_rfl) ?_ _
    refine NoPanic.normal ?_
    go_wp2_with fail
    exact bodyPost_ret (v := .agg #[.int .u32 x.f0, .bool x.f1, .int .u32 x.f2, .int .u32 x.f3, .int .u32 x.f4, .int .u32 x.f5, .bool x.f6]) (by simp [results, Try.results17, go_sem, z0, z1, z2, z3, z4, z5, z6]) rfl ⟨rfl, below_drew (sets7 HB.out hle)⟩
/-- What stays: all that was there but the side's block. -/
theorem fr_q {w W : World} {g : Nat} {α : Type} {d : Kd α} {e base : Nat} {ok : Nat → Prop} {v : Value} {xs : List α} (h : d.Q e w base (fun k => ok k ∧ k ≠ g ∧ k < w.heap.size) v xs) (hk : KeepBut w W g none) : d.Q e W base ok v xs := Kd.Q_mono (Kd.Q_move h (fun k hok => hk.2 k hok.2.2 hok.2.1 (by simp))) (fun _ h => h.1)
theorem Sd.old {w0 w : World} {g : Nat} {v : Value} {now : S24} {ws : List S24} (h : Sd w0 w g v now ws) : Kd.Q k24 24 w w0.heap.size (fun k => True ∧ k ≠ g ∧ k < w.heap.size) v ws := Kd.Q_mono (Kd.Q_bound (Kd.Q_types h.row h.blk (by intro q hq; simp [k24, Kd.iso, Kd.pair, Kd.int, Kd.bool, Kd.scalar] at hq; omega))) (fun k hk => ⟨trivial, hk.1.2, hk.2.2.1⟩)
set_option maxHeartbeats 8000000 in
set_option maxRecDepth 100000 in
theorem side_ack {w0 w : World} {g : Nat} {v : Value} {now : S24} {ws : List S24} (h : Sd w0 w g v now ws) : Calls Try.prog 14 #[.pointer (some ⟨g, 0, none⟩)] w fun e w' => (ws = [] ∧ e = .returned (.tuple #[.agg #[.int .u32 now.f0, .bool now.f1, .int .u32 now.f2, .int .u32 now.f3, .int .u32 now.f4, .int .u32 now.f5, .bool now.f6], .agg #[.int .u8 1, .int .u32 1]]) ∧ Below w.heap.size w w') ∨ ∃ x r v', ws = x :: r ∧ e = .returned (.tuple #[.agg #[.int .u32 x.f0, .bool x.f1, .int .u32 x.f2, .int .u32 x.f3, .int .u32 x.f4, .int .u32 x.f5, .bool x.f6], .agg #[.int .u8 0, .int .u32 0]]) ∧ Sd w0 w' g v' x r ∧ KeepBut w w' g none ∧ (∀ k, v'.ownBlock = some k → v.ownBlock = some k) := by
  have hu24 := Try.underlying24
  have hu28 := Try.underlying28
  have hu61 := Try.underlying61
  have HS := Aside0.mk h
  have gl := blk_lt h.blk
  have hgn : g ≠ w.heap.size := by omega
  have hgn1 : g ≠ w.heap.size + 1 := by omega
  obtain ⟨A, c, rfl, hcl⟩ := Kd.Q_slice h.row
  have hg1 : ((w.alloc (.cells #[.int .u32 0, .bool false, .int .u32 0, .int .u32 0, .int .u32 0, .int .u32 0, .bool false] 24)).alloc (.cells #[.int .u8 0, .int .u32 0] 28)).heap[g]? = some (.cells #[.int .u32 now.f0, .bool now.f1, .int .u32 now.f2, .int .u32 now.f3, .int .u32 now.f4, .int .u32 now.f5, .bool now.f6, .slice A ws.length c] 61 (0, 0)) := blk_alloc (blk_alloc h.blk _) _
  have hr1 : ((w.alloc (.cells #[.int .u32 0, .bool false, .int .u32 0, .int .u32 0, .int .u32 0, .int .u32 0, .bool false] 24)).alloc (.cells #[.int .u8 0, .int .u32 0] 28)).heap[w.heap.size]? = some (.cells #[.int .u32 0, .bool false, .int .u32 0, .int .u32 0, .int .u32 0, .int .u32 0, .bool false] 24 (0, 0)) := blk_alloc (last_at _ _ _ rfl) _
  have hf1 : ((w.alloc (.cells #[.int .u32 0, .bool false, .int .u32 0, .int .u32 0, .int .u32 0, .int .u32 0, .bool false] 24)).alloc (.cells #[.int .u8 0, .int .u32 0] 28)).heap[w.heap.size + 1]? = some (.cells #[.int .u8 0, .int .u32 0] 28 (0, 0)) := last_at _ _ _ (by simp)
  by_cases hws : ws.length = 0
  · have hwe : ws = [] := List.length_eq_zero_iff.mp hws
    have hz : ((ws.length : Int) == 0) = true := by rw [hws]; rfl
    go_enter Try.func14, Try.ntmps14
    go_upto_region 1 with fail
    have HB1 := Aside0.mk (below_alloc (below_alloc (Below.refl w.heap.size w) (.cells #[.int .u32 0, .bool false, .int .u32 0, .int .u32 0, .int .u32 0, .int .u32 0, .bool false] 24)) (.cells #[.int .u8 0, .int .u32 0] 28))
    generalize ((w.alloc (.cells #[.int .u32 0, .bool false, .int .u32 0, .int .u32 0, .int .u32 0, .int .u32 0, .bool false] 24)).alloc (.cells #[.int .u8 0, .int .u32 0] 28)) = W1 at hg1 hr1 hf1 HB1 ⊢
    have y0 : W1.cell? ⟨g, 0, none⟩ = some (.int .u32 now.f0) := (blk_cell hg1 0).trans rfl
    have yf0 := blk_frozen hg1 0
    have y1 : W1.cell? ⟨g, 1, none⟩ = some (.bool now.f1) := (blk_cell hg1 1).trans rfl
    have yf1 := blk_frozen hg1 1
    have y2 : W1.cell? ⟨g, 2, none⟩ = some (.int .u32 now.f2) := (blk_cell hg1 2).trans rfl
    have yf2 := blk_frozen hg1 2
    have y3 : W1.cell? ⟨g, 3, none⟩ = some (.int .u32 now.f3) := (blk_cell hg1 3).trans rfl
    have yf3 := blk_frozen hg1 3
    have y4 : W1.cell? ⟨g, 4, none⟩ = some (.int .u32 now.f4) := (blk_cell hg1 4).trans rfl
    have yf4 := blk_frozen hg1 4
    have y5 : W1.cell? ⟨g, 5, none⟩ = some (.int .u32 now.f5) := (blk_cell hg1 5).trans rfl
    have yf5 := blk_frozen hg1 5
    have y6 : W1.cell? ⟨g, 6, none⟩ = some (.bool now.f6) := (blk_cell hg1 6).trans rfl
    have yf6 := blk_frozen hg1 6
    have y7 : W1.cell? ⟨g, 7, none⟩ = some (.slice A ws.length c) := (blk_cell hg1 7).trans rfl
    have yf7 := blk_frozen hg1 7
    have yl := blk_lt hg1
    have z0 : W1.cell? ⟨w.heap.size, 0, none⟩ = some (.int .u32 0) := (blk_cell hr1 0).trans rfl
    have zf0 := blk_frozen hr1 0
    have z1 : W1.cell? ⟨w.heap.size, 1, none⟩ = some (.bool false) := (blk_cell hr1 1).trans rfl
    have zf1 := blk_frozen hr1 1
    have z2 : W1.cell? ⟨w.heap.size, 2, none⟩ = some (.int .u32 0) := (blk_cell hr1 2).trans rfl
    have zf2 := blk_frozen hr1 2
    have z3 : W1.cell? ⟨w.heap.size, 3, none⟩ = some (.int .u32 0) := (blk_cell hr1 3).trans rfl
    have zf3 := blk_frozen hr1 3
    have z4 : W1.cell? ⟨w.heap.size, 4, none⟩ = some (.int .u32 0) := (blk_cell hr1 4).trans rfl
    have zf4 := blk_frozen hr1 4
    have z5 : W1.cell? ⟨w.heap.size, 5, none⟩ = some (.int .u32 0) := (blk_cell hr1 5).trans rfl
    have zf5 := blk_frozen hr1 5
    have z6 : W1.cell? ⟨w.heap.size, 6, none⟩ = some (.bool false) := (blk_cell hr1 6).trans rfl
    have zf6 := blk_frozen hr1 6
    have zl := blk_lt hr1
    have x0 : W1.cell? ⟨(w.heap.size + 1), 0, none⟩ = some (.int .u8 0) := (blk_cell hf1 0).trans rfl
    have xf0 := blk_frozen hf1 0
    have x1 : W1.cell? ⟨(w.heap.size + 1), 1, none⟩ = some (.int .u32 0) := (blk_cell hf1 1).trans rfl
    have xf1 := blk_frozen hf1 1
    have xl := blk_lt hf1
    have hle : w.heap.size ≤ w.heap.size := Nat.le_refl _
    have hle1 : w.heap.size ≤ w.heap.size + 1 := Nat.le_succ _
    clear h hg1 hr1 hf1 hws
    go_wp2_with fail
    exact bodyPost_ret (v := .tuple #[.agg #[.int .u32 now.f0, .bool now.f1, .int .u32 now.f2, .int .u32 now.f3, .int .u32 now.f4, .int .u32 now.f5, .bool now.f6], .agg #[.int .u8 1, .int .u32 1]]) (by simp [results, Try.results14, go_sem, z0, z1, z2, z3, z4, z5, z6, x0, x1]) rfl (.inl ⟨hwe, rfl, Below.setCell (p := ⟨w.heap.size + 1, 1, none⟩) (Below.setCell (p := ⟨w.heap.size + 1, 0, none⟩) (sets7 HB1.out hle) hle1 _) hle1 _⟩)
  · obtain ⟨x, r, rfl⟩ : ∃ x r, ws = x :: r := by
      cases ws with
      | nil => exact absurd rfl hws
      | cons x r => exact ⟨x, r, rfl⟩
    have hn : 0 < (x :: r).length := by simp
    have hz : (((x :: r).length : Int) == 0) = false := beq_eq_false_iff_ne.mpr (by simp; omega)
    obtain ⟨gq, oq, cap, eq, hbq, hlq, cellsq, hcq⟩ := Kd.Q_form h.row hn
    injection eq with e1 e2 e3
    subst e1; subst e3; clear e2
    obtain ⟨cs, hlen, hM, hcell, hfro⟩ := Kd.Q_elem h.row z24 0 (by omega) (by simp)
    have hM2 : k24.M w w0.heap.size _ x cs := hM
    obtain rfl := k24_openM hM2
    have hkk : ∀ j : Nat, oq + (0 : Int).toNat * k24.sz + j = oq + j := fun j => by simp
    have q0' := hcell 0 _ rfl
    rw [hkk 0] at q0'
    have q0 : ((w.alloc (.cells #[.int .u32 0, .bool false, .int .u32 0, .int .u32 0, .int .u32 0, .int .u32 0, .bool false] 24)).alloc (.cells #[.int .u8 0, .int .u32 0] 28)).cell? ⟨gq, oq, none⟩ = some (.int .u32 x.f0) := (cell_alloc2 hlq).trans q0'
    have q1' := hcell 1 _ rfl
    rw [hkk 1] at q1'
    have q1 : ((w.alloc (.cells #[.int .u32 0, .bool false, .int .u32 0, .int .u32 0, .int .u32 0, .int .u32 0, .bool false] 24)).alloc (.cells #[.int .u8 0, .int .u32 0] 28)).cell? ⟨gq, oq + 1, none⟩ = some (.bool x.f1) := (cell_alloc2 hlq).trans q1'
    have q2' := hcell 2 _ rfl
    rw [hkk 2] at q2'
    have q2 : ((w.alloc (.cells #[.int .u32 0, .bool false, .int .u32 0, .int .u32 0, .int .u32 0, .int .u32 0, .bool false] 24)).alloc (.cells #[.int .u8 0, .int .u32 0] 28)).cell? ⟨gq, oq + 2, none⟩ = some (.int .u32 x.f2) := (cell_alloc2 hlq).trans q2'
    have q3' := hcell 3 _ rfl
    rw [hkk 3] at q3'
    have q3 : ((w.alloc (.cells #[.int .u32 0, .bool false, .int .u32 0, .int .u32 0, .int .u32 0, .int .u32 0, .bool false] 24)).alloc (.cells #[.int .u8 0, .int .u32 0] 28)).cell? ⟨gq, oq + 3, none⟩ = some (.int .u32 x.f3) := (cell_alloc2 hlq).trans q3'
    have q4' := hcell 4 _ rfl
    rw [hkk 4] at q4'
    have q4 : ((w.alloc (.cells #[.int .u32 0, .bool false, .int .u32 0, .int .u32 0, .int .u32 0, .int .u32 0, .bool false] 24)).alloc (.cells #[.int .u8 0, .int .u32 0] 28)).cell? ⟨gq, oq + 4, none⟩ = some (.int .u32 x.f4) := (cell_alloc2 hlq).trans q4'
    have q5' := hcell 5 _ rfl
    rw [hkk 5] at q5'
    have q5 : ((w.alloc (.cells #[.int .u32 0, .bool false, .int .u32 0, .int .u32 0, .int .u32 0, .int .u32 0, .bool false] 24)).alloc (.cells #[.int .u8 0, .int .u32 0] 28)).cell? ⟨gq, oq + 5, none⟩ = some (.int .u32 x.f5) := (cell_alloc2 hlq).trans q5'
    have q6' := hcell 6 _ rfl
    rw [hkk 6] at q6'
    have q6 : ((w.alloc (.cells #[.int .u32 0, .bool false, .int .u32 0, .int .u32 0, .int .u32 0, .int .u32 0, .bool false] 24)).alloc (.cells #[.int .u8 0, .int .u32 0] 28)).cell? ⟨gq, oq + 6, none⟩ = some (.bool x.f6) := (cell_alloc2 hlq).trans q6'
    have hgq : gq ≠ g := blk_ne hcq h.blk (by decide)
    have hgq2 : g ≠ gq := fun e => hgq e.symm
    have hq1 := HS.out.old
    obtain ⟨nl, hnl⟩ : ∃ nl, nl = (x :: r).length := ⟨_, rfl⟩
    rw [← hnl] at hz hg1 hcl hq1 hn ⊢
    have HNL := Aside0.mk (show nl = r.length + 1 by rw [hnl]; simp)
    have HQ1 := Aside0.mk hq1
    have HCQ := Aside0.mk hcq
    clear h hM hM2 hcell hfro hlen hkk q0' q1' q2' q3' q4' q5' q6' hws hq1 hcq hnl
    go_enter Try.func14, Try.ntmps14
    go_upto_region 1 with fail
    have HK1 := Aside0.mk (keep_alloc (keep_alloc (KeepBut.refl w g none) (.cells #[.int .u32 0, .bool false, .int .u32 0, .int .u32 0, .int .u32 0, .int .u32 0, .bool false] 24)) (.cells #[.int .u8 0, .int .u32 0] 28))
    have HB1 := Aside0.mk (below_step HS.out.bel (below_alloc (below_alloc (Below.refl w.heap.size w) (.cells #[.int .u32 0, .bool false, .int .u32 0, .int .u32 0, .int .u32 0, .int .u32 0, .bool false] 24)) (.cells #[.int .u8 0, .int .u32 0] 28)))
    generalize ((w.alloc (.cells #[.int .u32 0, .bool false, .int .u32 0, .int .u32 0, .int .u32 0, .int .u32 0, .bool false] 24)).alloc (.cells #[.int .u8 0, .int .u32 0] 28)) = W1 at hg1 hr1 hf1 q0 q1 q2 q3 q4 q5 q6 HK1 HB1 ⊢
    have y0 : W1.cell? ⟨g, 0, none⟩ = some (.int .u32 now.f0) := (blk_cell hg1 0).trans rfl
    have yf0 := blk_frozen hg1 0
    have y1 : W1.cell? ⟨g, 1, none⟩ = some (.bool now.f1) := (blk_cell hg1 1).trans rfl
    have yf1 := blk_frozen hg1 1
    have y2 : W1.cell? ⟨g, 2, none⟩ = some (.int .u32 now.f2) := (blk_cell hg1 2).trans rfl
    have yf2 := blk_frozen hg1 2
    have y3 : W1.cell? ⟨g, 3, none⟩ = some (.int .u32 now.f3) := (blk_cell hg1 3).trans rfl
    have yf3 := blk_frozen hg1 3
    have y4 : W1.cell? ⟨g, 4, none⟩ = some (.int .u32 now.f4) := (blk_cell hg1 4).trans rfl
    have yf4 := blk_frozen hg1 4
    have y5 : W1.cell? ⟨g, 5, none⟩ = some (.int .u32 now.f5) := (blk_cell hg1 5).trans rfl
    have yf5 := blk_frozen hg1 5
    have y6 : W1.cell? ⟨g, 6, none⟩ = some (.bool now.f6) := (blk_cell hg1 6).trans rfl
    have yf6 := blk_frozen hg1 6
    have y7 : W1.cell? ⟨g, 7, none⟩ = some (.slice (some ⟨gq, oq, none⟩) nl c) := (blk_cell hg1 7).trans rfl
    have yf7 := blk_frozen hg1 7
    have yl := blk_lt hg1
    have hG1 := Aside0.mk hg1
    have hR1 := Aside0.mk hr1
    have hF1 := Aside0.mk hf1
    clear hg1 hr1 hf1
    go_upto_region 6 with fail
    have HG2 := Aside0.mk (show (((((((W1.setCell ⟨g, 0, none⟩ (.int .u32 x.f0)).setCell ⟨g, 1, none⟩ (.bool x.f1)).setCell ⟨g, 2, none⟩ (.int .u32 x.f2)).setCell ⟨g, 3, none⟩ (.int .u32 x.f3)).setCell ⟨g, 4, none⟩ (.int .u32 x.f4)).setCell ⟨g, 5, none⟩ (.int .u32 x.f5)).setCell ⟨g, 6, none⟩ (.bool x.f6)).heap[g]? = some (.cells #[.int .u32 x.f0, .bool x.f1, .int .u32 x.f2, .int .u32 x.f3, .int .u32 x.f4, .int .u32 x.f5, .bool x.f6, .slice (some ⟨gq, oq, none⟩) nl c] 61 (0, 0)) from (blk_put (blk_put (blk_put (blk_put (blk_put (blk_put (blk_put hG1.out 0 (.int .u32 x.f0) rfl) 1 (.bool x.f1) rfl) 2 (.int .u32 x.f2) rfl) 3 (.int .u32 x.f3) rfl) 4 (.int .u32 x.f4) rfl) 5 (.int .u32 x.f5) rfl) 6 (.bool x.f6) rfl))
    have HK2 := Aside0.mk ((KeepBut.set_ (KeepBut.set_ (KeepBut.set_ (KeepBut.set_ (KeepBut.set_ (KeepBut.set_ (KeepBut.set_ HK1.out 0 (.int .u32 x.f0)) 1 (.bool x.f1)) 2 (.int .u32 x.f2)) 3 (.int .u32 x.f3)) 4 (.int .u32 x.f4)) 5 (.int .u32 x.f5)) 6 (.bool x.f6)))
    have HB2 := Aside0.mk ((Below.setCell (p := ⟨g, 6, none⟩) (Below.setCell (p := ⟨g, 5, none⟩) (Below.setCell (p := ⟨g, 4, none⟩) (Below.setCell (p := ⟨g, 3, none⟩) (Below.setCell (p := ⟨g, 2, none⟩) (Below.setCell (p := ⟨g, 1, none⟩) (Below.setCell (p := ⟨g, 0, none⟩) HB1.out HS.out.base (.int .u32 x.f0)) HS.out.base (.bool x.f1)) HS.out.base (.int .u32 x.f2)) HS.out.base (.int .u32 x.f3)) HS.out.base (.int .u32 x.f4)) HS.out.base (.int .u32 x.f5)) HS.out.base (.bool x.f6)))
    have HR2 := Aside0.mk (show (((((((W1.setCell ⟨g, 0, none⟩ (.int .u32 x.f0)).setCell ⟨g, 1, none⟩ (.bool x.f1)).setCell ⟨g, 2, none⟩ (.int .u32 x.f2)).setCell ⟨g, 3, none⟩ (.int .u32 x.f3)).setCell ⟨g, 4, none⟩ (.int .u32 x.f4)).setCell ⟨g, 5, none⟩ (.int .u32 x.f5)).setCell ⟨g, 6, none⟩ (.bool x.f6)).heap[w.heap.size]? = some (.cells #[.int .u32 0, .bool false, .int .u32 0, .int .u32 0, .int .u32 0, .int .u32 0, .bool false] 24 (0, 0)) from (heap_sets7 (fun e => hgn e.symm)).trans hR1.out)
    have HF2 := Aside0.mk (show (((((((W1.setCell ⟨g, 0, none⟩ (.int .u32 x.f0)).setCell ⟨g, 1, none⟩ (.bool x.f1)).setCell ⟨g, 2, none⟩ (.int .u32 x.f2)).setCell ⟨g, 3, none⟩ (.int .u32 x.f3)).setCell ⟨g, 4, none⟩ (.int .u32 x.f4)).setCell ⟨g, 5, none⟩ (.int .u32 x.f5)).setCell ⟨g, 6, none⟩ (.bool x.f6)).heap[w.heap.size + 1]? = some (.cells #[.int .u8 0, .int .u32 0] 28 (0, 0)) from (heap_sets7 (fun e => hgn1 e.symm)).trans hF1.out)
    generalize (((((((W1.setCell ⟨g, 0, none⟩ (.int .u32 x.f0)).setCell ⟨g, 1, none⟩ (.bool x.f1)).setCell ⟨g, 2, none⟩ (.int .u32 x.f2)).setCell ⟨g, 3, none⟩ (.int .u32 x.f3)).setCell ⟨g, 4, none⟩ (.int .u32 x.f4)).setCell ⟨g, 5, none⟩ (.int .u32 x.f5)).setCell ⟨g, 6, none⟩ (.bool x.f6)) = W2 at HG2 HK2 HB2 HR2 HF2 ⊢
    clear y0 yf0 y1 yf1 y2 yf2 y3 yf3 y4 yf4 y5 yf5 y6 yf6 y7 yf7 yl
    have y0 : W2.cell? ⟨g, 0, none⟩ = some (.int .u32 x.f0) := (blk_cell HG2.out 0).trans rfl
    have yf0 := blk_frozen HG2.out 0
    have y1 : W2.cell? ⟨g, 1, none⟩ = some (.bool x.f1) := (blk_cell HG2.out 1).trans rfl
    have yf1 := blk_frozen HG2.out 1
    have y2 : W2.cell? ⟨g, 2, none⟩ = some (.int .u32 x.f2) := (blk_cell HG2.out 2).trans rfl
    have yf2 := blk_frozen HG2.out 2
    have y3 : W2.cell? ⟨g, 3, none⟩ = some (.int .u32 x.f3) := (blk_cell HG2.out 3).trans rfl
    have yf3 := blk_frozen HG2.out 3
    have y4 : W2.cell? ⟨g, 4, none⟩ = some (.int .u32 x.f4) := (blk_cell HG2.out 4).trans rfl
    have yf4 := blk_frozen HG2.out 4
    have y5 : W2.cell? ⟨g, 5, none⟩ = some (.int .u32 x.f5) := (blk_cell HG2.out 5).trans rfl
    have yf5 := blk_frozen HG2.out 5
    have y6 : W2.cell? ⟨g, 6, none⟩ = some (.bool x.f6) := (blk_cell HG2.out 6).trans rfl
    have yf6 := blk_frozen HG2.out 6
    have y7 : W2.cell? ⟨g, 7, none⟩ = some (.slice (some ⟨gq, oq, none⟩) nl c) := (blk_cell HG2.out 7).trans rfl
    have yf7 := blk_frozen HG2.out 7
    have yl := blk_lt HG2.out
    have z0 : W2.cell? ⟨w.heap.size, 0, none⟩ = some (.int .u32 0) := (blk_cell HR2.out 0).trans rfl
    have zf0 := blk_frozen HR2.out 0
    have z1 : W2.cell? ⟨w.heap.size, 1, none⟩ = some (.bool false) := (blk_cell HR2.out 1).trans rfl
    have zf1 := blk_frozen HR2.out 1
    have z2 : W2.cell? ⟨w.heap.size, 2, none⟩ = some (.int .u32 0) := (blk_cell HR2.out 2).trans rfl
    have zf2 := blk_frozen HR2.out 2
    have z3 : W2.cell? ⟨w.heap.size, 3, none⟩ = some (.int .u32 0) := (blk_cell HR2.out 3).trans rfl
    have zf3 := blk_frozen HR2.out 3
    have z4 : W2.cell? ⟨w.heap.size, 4, none⟩ = some (.int .u32 0) := (blk_cell HR2.out 4).trans rfl
    have zf4 := blk_frozen HR2.out 4
    have z5 : W2.cell? ⟨w.heap.size, 5, none⟩ = some (.int .u32 0) := (blk_cell HR2.out 5).trans rfl
    have zf5 := blk_frozen HR2.out 5
    have z6 : W2.cell? ⟨w.heap.size, 6, none⟩ = some (.bool false) := (blk_cell HR2.out 6).trans rfl
    have zf6 := blk_frozen HR2.out 6
    have zl := blk_lt HR2.out
    have x0 : W2.cell? ⟨(w.heap.size + 1), 0, none⟩ = some (.int .u8 0) := (blk_cell HF2.out 0).trans rfl
    have xf0 := blk_frozen HF2.out 0
    have x1 : W2.cell? ⟨(w.heap.size + 1), 1, none⟩ = some (.int .u32 0) := (blk_cell HF2.out 1).trans rfl
    have xf1 := blk_frozen HF2.out 1
    have xl := blk_lt HF2.out
    clear q0 q1 q2 q3 q4 q5 q6 hG1 hR1 hF1
    have p1 : (1 : Int) ≤ (nl : Int) := by omega
    have p2 : (1 : Int) ≤ (c : Int) := by omega
    have p3 : (nl : Int) ≤ (c : Int) := by omega
    have hle : w.heap.size ≤ w.heap.size := Nat.le_refl _
    have hle1 : w.heap.size ≤ w.heap.size + 1 := Nat.le_succ _
    have hlo : w0.heap.size ≤ w.heap.size := HS.out.bel.size
    have hlo1 : w0.heap.size ≤ w.heap.size + 1 := Nat.le_succ_of_le hlo
    by_cases hc1 : c = 1
    · subst hc1
      go_upto_region 7 with fail
      have HG3 := Aside0.mk (show (W2.setCell ⟨g, 7, none⟩ (.slice (some ⟨gq, oq, none⟩) 0 0)).heap[g]? = some (.cells #[.int .u32 x.f0, .bool x.f1, .int .u32 x.f2, .int .u32 x.f3, .int .u32 x.f4, .int .u32 x.f5, .bool x.f6, .slice (some ⟨gq, oq, none⟩) 0 0] 61 (0, 0)) from blk_put HG2.out 7 (.slice (some ⟨gq, oq, none⟩) 0 0) rfl)
      have HK3 := Aside0.mk (KeepBut.set_ HK2.out 7 (.slice (some ⟨gq, oq, none⟩) 0 0))
      have HB3 := Aside0.mk (Below.setCell (p := ⟨g, 7, none⟩) HB2.out HS.out.base (.slice (some ⟨gq, oq, none⟩) 0 0))
      have HR3 := Aside0.mk ((Below.heap_setCell W2 ⟨g, 7, none⟩ (.slice (some ⟨gq, oq, none⟩) 0 0) _ (fun e => hgn e.symm)).trans HR2.out)
      have HF3 := Aside0.mk ((Below.heap_setCell W2 ⟨g, 7, none⟩ (.slice (some ⟨gq, oq, none⟩) 0 0) _ (fun e => hgn1 e.symm)).trans HF2.out)
      have HQ3 : Aside0 (Kd.Q k24 24 w w0.heap.size (fun k => True ∧ k ≠ g ∧ k < w.heap.size) (.slice (some ⟨gq, oq, none⟩) 0 0) r) := ⟨by
        have hd := Kd.Q_drop (k := 1) HQ1.out (by simp)
        rw [if_pos rfl, show nl - 1 = 0 by omega] at hd
        exact hd⟩
      generalize W2.setCell ⟨g, 7, none⟩ (.slice (some ⟨gq, oq, none⟩) 0 0) = W3 at HG3 HK3 HB3 HR3 HF3 ⊢
      clear y0 yf0 y1 yf1 y2 yf2 y3 yf3 y4 yf4 y5 yf5 y6 yf6 y7 yf7 yl
      clear z0 zf0 z1 zf1 z2 zf2 z3 zf3 z4 zf4 z5 zf5 z6 zf6 zl
      clear x0 xf0 x1 xf1 xl
      have y0 : W3.cell? ⟨g, 0, none⟩ = some (.int .u32 x.f0) := (blk_cell HG3.out 0).trans rfl
      have yf0 := blk_frozen HG3.out 0
      have y1 : W3.cell? ⟨g, 1, none⟩ = some (.bool x.f1) := (blk_cell HG3.out 1).trans rfl
      have yf1 := blk_frozen HG3.out 1
      have y2 : W3.cell? ⟨g, 2, none⟩ = some (.int .u32 x.f2) := (blk_cell HG3.out 2).trans rfl
      have yf2 := blk_frozen HG3.out 2
      have y3 : W3.cell? ⟨g, 3, none⟩ = some (.int .u32 x.f3) := (blk_cell HG3.out 3).trans rfl
      have yf3 := blk_frozen HG3.out 3
      have y4 : W3.cell? ⟨g, 4, none⟩ = some (.int .u32 x.f4) := (blk_cell HG3.out 4).trans rfl
      have yf4 := blk_frozen HG3.out 4
      have y5 : W3.cell? ⟨g, 5, none⟩ = some (.int .u32 x.f5) := (blk_cell HG3.out 5).trans rfl
      have yf5 := blk_frozen HG3.out 5
      have y6 : W3.cell? ⟨g, 6, none⟩ = some (.bool x.f6) := (blk_cell HG3.out 6).trans rfl
      have yf6 := blk_frozen HG3.out 6
      have y7 : W3.cell? ⟨g, 7, none⟩ = some (.slice (some ⟨gq, oq, none⟩) 0 0) := (blk_cell HG3.out 7).trans rfl
      have yf7 := blk_frozen HG3.out 7
      have yl := blk_lt HG3.out
      have z0 : W3.cell? ⟨w.heap.size, 0, none⟩ = some (.int .u32 0) := (blk_cell HR3.out 0).trans rfl
      have zf0 := blk_frozen HR3.out 0
      have z1 : W3.cell? ⟨w.heap.size, 1, none⟩ = some (.bool false) := (blk_cell HR3.out 1).trans rfl
      have zf1 := blk_frozen HR3.out 1
      have z2 : W3.cell? ⟨w.heap.size, 2, none⟩ = some (.int .u32 0) := (blk_cell HR3.out 2).trans rfl
      have zf2 := blk_frozen HR3.out 2
      have z3 : W3.cell? ⟨w.heap.size, 3, none⟩ = some (.int .u32 0) := (blk_cell HR3.out 3).trans rfl
      have zf3 := blk_frozen HR3.out 3
      have z4 : W3.cell? ⟨w.heap.size, 4, none⟩ = some (.int .u32 0) := (blk_cell HR3.out 4).trans rfl
      have zf4 := blk_frozen HR3.out 4
      have z5 : W3.cell? ⟨w.heap.size, 5, none⟩ = some (.int .u32 0) := (blk_cell HR3.out 5).trans rfl
      have zf5 := blk_frozen HR3.out 5
      have z6 : W3.cell? ⟨w.heap.size, 6, none⟩ = some (.bool false) := (blk_cell HR3.out 6).trans rfl
      have zf6 := blk_frozen HR3.out 6
      have zl := blk_lt HR3.out
      have x0 : W3.cell? ⟨(w.heap.size + 1), 0, none⟩ = some (.int .u8 0) := (blk_cell HF3.out 0).trans rfl
      have xf0 := blk_frozen HF3.out 0
      have x1 : W3.cell? ⟨(w.heap.size + 1), 1, none⟩ = some (.int .u32 0) := (blk_cell HF3.out 1).trans rfl
      have xf1 := blk_frozen HF3.out 1
      have xl := blk_lt HF3.out
      go_wp2_with fail
      refine bodyPost_ret (v := .tuple #[.agg #[.int .u32 x.f0, .bool x.f1, .int .u32 x.f2, .int .u32 x.f3, .int .u32 x.f4, .int .u32 x.f5, .bool x.f6], .agg #[.int .u8 0, .int .u32 0]]) (by simp [results, Try.results14, go_sem, z0, z1, z2, z3, z4, z5, z6, x0, x1]) rfl (.inr ⟨x, r, .slice (some ⟨gq, oq, none⟩) 0 0, rfl, rfl, ⟨(heap_sets2 hgn1).trans ((heap_sets7 hgn).trans HG3.out), fr_q HQ3.out (keep_far (keep_far (keep_far (keep_far (keep_far (keep_far (keep_far (keep_far (keep_far HK3.out (p := ⟨w.heap.size, 0, none⟩) hle (.int .u32 x.f0)) (p := ⟨w.heap.size, 1, none⟩) hle (.bool x.f1)) (p := ⟨w.heap.size, 2, none⟩) hle (.int .u32 x.f2)) (p := ⟨w.heap.size, 3, none⟩) hle (.int .u32 x.f3)) (p := ⟨w.heap.size, 4, none⟩) hle (.int .u32 x.f4)) (p := ⟨w.heap.size, 5, none⟩) hle (.int .u32 x.f5)) (p := ⟨w.heap.size, 6, none⟩) hle (.bool x.f6)) (p := ⟨w.heap.size + 1, 0, none⟩) hle1 (.int .u8 0)) (p := ⟨w.heap.size + 1, 1, none⟩) hle1 (.int .u32 0)), (Below.setCell (p := ⟨w.heap.size + 1, 1, none⟩) (Below.setCell (p := ⟨w.heap.size + 1, 0, none⟩) (Below.setCell (p := ⟨w.heap.size, 6, none⟩) (Below.setCell (p := ⟨w.heap.size, 5, none⟩) (Below.setCell (p := ⟨w.heap.size, 4, none⟩) (Below.setCell (p := ⟨w.heap.size, 3, none⟩) (Below.setCell (p := ⟨w.heap.size, 2, none⟩) (Below.setCell (p := ⟨w.heap.size, 1, none⟩) (Below.setCell (p := ⟨w.heap.size, 0, none⟩) HB3.out hlo (.int .u32 x.f0)) hlo (.bool x.f1)) hlo (.int .u32 x.f2)) hlo (.int .u32 x.f3)) hlo (.int .u32 x.f4)) hlo (.int .u32 x.f5)) hlo (.bool x.f6)) hlo1 (.int .u8 0)) hlo1 (.int .u32 0)), HS.out.base⟩, (keep_far (keep_far (keep_far (keep_far (keep_far (keep_far (keep_far (keep_far (keep_far HK3.out (p := ⟨w.heap.size, 0, none⟩) hle (.int .u32 x.f0)) (p := ⟨w.heap.size, 1, none⟩) hle (.bool x.f1)) (p := ⟨w.heap.size, 2, none⟩) hle (.int .u32 x.f2)) (p := ⟨w.heap.size, 3, none⟩) hle (.int .u32 x.f3)) (p := ⟨w.heap.size, 4, none⟩) hle (.int .u32 x.f4)) (p := ⟨w.heap.size, 5, none⟩) hle (.int .u32 x.f5)) (p := ⟨w.heap.size, 6, none⟩) hle (.bool x.f6)) (p := ⟨w.heap.size + 1, 0, none⟩) hle1 (.int .u8 0)) (p := ⟨w.heap.size + 1, 1, none⟩) hle1 (.int .u32 0)), fun k e => e⟩)
    · have hc2 : (c == 1) = false := beq_eq_false_iff_ne.mpr hc1
      go_upto_region 7 with fail
      have HG3 := Aside0.mk (show (W2.setCell ⟨g, 7, none⟩ (.slice (some ⟨gq, oq + 7, none⟩) (nl - 1) (c - 1))).heap[g]? = some (.cells #[.int .u32 x.f0, .bool x.f1, .int .u32 x.f2, .int .u32 x.f3, .int .u32 x.f4, .int .u32 x.f5, .bool x.f6, .slice (some ⟨gq, oq + 7, none⟩) (nl - 1) (c - 1)] 61 (0, 0)) from blk_put HG2.out 7 (.slice (some ⟨gq, oq + 7, none⟩) (nl - 1) (c - 1)) rfl)
      have HK3 := Aside0.mk (KeepBut.set_ HK2.out 7 (.slice (some ⟨gq, oq + 7, none⟩) (nl - 1) (c - 1)))
      have HB3 := Aside0.mk (Below.setCell (p := ⟨g, 7, none⟩) HB2.out HS.out.base (.slice (some ⟨gq, oq + 7, none⟩) (nl - 1) (c - 1)))
      have HR3 := Aside0.mk ((Below.heap_setCell W2 ⟨g, 7, none⟩ (.slice (some ⟨gq, oq + 7, none⟩) (nl - 1) (c - 1)) _ (fun e => hgn e.symm)).trans HR2.out)
      have HF3 := Aside0.mk ((Below.heap_setCell W2 ⟨g, 7, none⟩ (.slice (some ⟨gq, oq + 7, none⟩) (nl - 1) (c - 1)) _ (fun e => hgn1 e.symm)).trans HF2.out)
      have HQ3 : Aside0 (Kd.Q k24 24 w w0.heap.size (fun k => True ∧ k ≠ g ∧ k < w.heap.size) (.slice (some ⟨gq, oq + 7, none⟩) (nl - 1) (c - 1)) r) := ⟨by
        have hd := Kd.Q_drop (k := 1) HQ1.out (by simp)
        rw [if_neg hc1] at hd
        exact hd⟩
      generalize W2.setCell ⟨g, 7, none⟩ (.slice (some ⟨gq, oq + 7, none⟩) (nl - 1) (c - 1)) = W3 at HG3 HK3 HB3 HR3 HF3 ⊢
      clear y0 yf0 y1 yf1 y2 yf2 y3 yf3 y4 yf4 y5 yf5 y6 yf6 y7 yf7 yl
      clear z0 zf0 z1 zf1 z2 zf2 z3 zf3 z4 zf4 z5 zf5 z6 zf6 zl
      clear x0 xf0 x1 xf1 xl
      have y0 : W3.cell? ⟨g, 0, none⟩ = some (.int .u32 x.f0) := (blk_cell HG3.out 0).trans rfl
      have yf0 := blk_frozen HG3.out 0
      have y1 : W3.cell? ⟨g, 1, none⟩ = some (.bool x.f1) := (blk_cell HG3.out 1).trans rfl
      have yf1 := blk_frozen HG3.out 1
      have y2 : W3.cell? ⟨g, 2, none⟩ = some (.int .u32 x.f2) := (blk_cell HG3.out 2).trans rfl
      have yf2 := blk_frozen HG3.out 2
      have y3 : W3.cell? ⟨g, 3, none⟩ = some (.int .u32 x.f3) := (blk_cell HG3.out 3).trans rfl
      have yf3 := blk_frozen HG3.out 3
      have y4 : W3.cell? ⟨g, 4, none⟩ = some (.int .u32 x.f4) := (blk_cell HG3.out 4).trans rfl
      have yf4 := blk_frozen HG3.out 4
      have y5 : W3.cell? ⟨g, 5, none⟩ = some (.int .u32 x.f5) := (blk_cell HG3.out 5).trans rfl
      have yf5 := blk_frozen HG3.out 5
      have y6 : W3.cell? ⟨g, 6, none⟩ = some (.bool x.f6) := (blk_cell HG3.out 6).trans rfl
      have yf6 := blk_frozen HG3.out 6
      have y7 : W3.cell? ⟨g, 7, none⟩ = some (.slice (some ⟨gq, oq + 7, none⟩) (nl - 1) (c - 1)) := (blk_cell HG3.out 7).trans rfl
      have yf7 := blk_frozen HG3.out 7
      have yl := blk_lt HG3.out
      have z0 : W3.cell? ⟨w.heap.size, 0, none⟩ = some (.int .u32 0) := (blk_cell HR3.out 0).trans rfl
      have zf0 := blk_frozen HR3.out 0
      have z1 : W3.cell? ⟨w.heap.size, 1, none⟩ = some (.bool false) := (blk_cell HR3.out 1).trans rfl
      have zf1 := blk_frozen HR3.out 1
      have z2 : W3.cell? ⟨w.heap.size, 2, none⟩ = some (.int .u32 0) := (blk_cell HR3.out 2).trans rfl
      have zf2 := blk_frozen HR3.out 2
      have z3 : W3.cell? ⟨w.heap.size, 3, none⟩ = some (.int .u32 0) := (blk_cell HR3.out 3).trans rfl
      have zf3 := blk_frozen HR3.out 3
      have z4 : W3.cell? ⟨w.heap.size, 4, none⟩ = some (.int .u32 0) := (blk_cell HR3.out 4).trans rfl
      have zf4 := blk_frozen HR3.out 4
      have z5 : W3.cell? ⟨w.heap.size, 5, none⟩ = some (.int .u32 0) := (blk_cell HR3.out 5).trans rfl
      have zf5 := blk_frozen HR3.out 5
      have z6 : W3.cell? ⟨w.heap.size, 6, none⟩ = some (.bool false) := (blk_cell HR3.out 6).trans rfl
      have zf6 := blk_frozen HR3.out 6
      have zl := blk_lt HR3.out
      have x0 : W3.cell? ⟨(w.heap.size + 1), 0, none⟩ = some (.int .u8 0) := (blk_cell HF3.out 0).trans rfl
      have xf0 := blk_frozen HF3.out 0
      have x1 : W3.cell? ⟨(w.heap.size + 1), 1, none⟩ = some (.int .u32 0) := (blk_cell HF3.out 1).trans rfl
      have xf1 := blk_frozen HF3.out 1
      have xl := blk_lt HF3.out
      go_wp2_with fail
      refine bodyPost_ret (v := .tuple #[.agg #[.int .u32 x.f0, .bool x.f1, .int .u32 x.f2, .int .u32 x.f3, .int .u32 x.f4, .int .u32 x.f5, .bool x.f6], .agg #[.int .u8 0, .int .u32 0]]) (by simp [results, Try.results14, go_sem, z0, z1, z2, z3, z4, z5, z6, x0, x1]) rfl (.inr ⟨x, r, .slice (some ⟨gq, oq + 7, none⟩) (nl - 1) (c - 1), rfl, rfl, ⟨(heap_sets2 hgn1).trans ((heap_sets7 hgn).trans HG3.out), fr_q HQ3.out (keep_far (keep_far (keep_far (keep_far (keep_far (keep_far (keep_far (keep_far (keep_far HK3.out (p := ⟨w.heap.size, 0, none⟩) hle (.int .u32 x.f0)) (p := ⟨w.heap.size, 1, none⟩) hle (.bool x.f1)) (p := ⟨w.heap.size, 2, none⟩) hle (.int .u32 x.f2)) (p := ⟨w.heap.size, 3, none⟩) hle (.int .u32 x.f3)) (p := ⟨w.heap.size, 4, none⟩) hle (.int .u32 x.f4)) (p := ⟨w.heap.size, 5, none⟩) hle (.int .u32 x.f5)) (p := ⟨w.heap.size, 6, none⟩) hle (.bool x.f6)) (p := ⟨w.heap.size + 1, 0, none⟩) hle1 (.int .u8 0)) (p := ⟨w.heap.size + 1, 1, none⟩) hle1 (.int .u32 0)), (Below.setCell (p := ⟨w.heap.size + 1, 1, none⟩) (Below.setCell (p := ⟨w.heap.size + 1, 0, none⟩) (Below.setCell (p := ⟨w.heap.size, 6, none⟩) (Below.setCell (p := ⟨w.heap.size, 5, none⟩) (Below.setCell (p := ⟨w.heap.size, 4, none⟩) (Below.setCell (p := ⟨w.heap.size, 3, none⟩) (Below.setCell (p := ⟨w.heap.size, 2, none⟩) (Below.setCell (p := ⟨w.heap.size, 1, none⟩) (Below.setCell (p := ⟨w.heap.size, 0, none⟩) HB3.out hlo (.int .u32 x.f0)) hlo (.bool x.f1)) hlo (.int .u32 x.f2)) hlo (.int .u32 x.f3)) hlo (.int .u32 x.f4)) hlo (.int .u32 x.f5)) hlo (.bool x.f6)) hlo1 (.int .u8 0)) hlo1 (.int .u32 0)), HS.out.base⟩, (keep_far (keep_far (keep_far (keep_far (keep_far (keep_far (keep_far (keep_far (keep_far HK3.out (p := ⟨w.heap.size, 0, none⟩) hle (.int .u32 x.f0)) (p := ⟨w.heap.size, 1, none⟩) hle (.bool x.f1)) (p := ⟨w.heap.size, 2, none⟩) hle (.int .u32 x.f2)) (p := ⟨w.heap.size, 3, none⟩) hle (.int .u32 x.f3)) (p := ⟨w.heap.size, 4, none⟩) hle (.int .u32 x.f4)) (p := ⟨w.heap.size, 5, none⟩) hle (.int .u32 x.f5)) (p := ⟨w.heap.size, 6, none⟩) hle (.bool x.f6)) (p := ⟨w.heap.size + 1, 0, none⟩) hle1 (.int .u8 0)) (p := ⟨w.heap.size + 1, 1, none⟩) hle1 (.int .u32 0)), fun k e => e⟩)
end Go.Proofs.Ytehdljgbbaibcaa

