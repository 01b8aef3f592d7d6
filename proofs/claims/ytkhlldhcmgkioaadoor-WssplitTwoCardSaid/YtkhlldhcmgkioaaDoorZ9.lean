/- What the law's row rests on, part 9. -/
import Derived.Test.YtkhlldhcmgkioaaDoorZ8
-- Written by a program of this session (wip/patchprint.py, wip/myprint.sh tell how).
namespace Go.Proofs.YtkhlldhcmgkioaaDoor.PAll
open Go.RowKit Go.Proofs.YtkhlldhcmgkioaaDoorW.PrintWords Go.Proofs.YtkhlldhcmgkioaaDoorW.PrintLast Go.Proofs.YtkhlldhcmgkioaaDoorW.PrintMore
attribute [local go_sem] max2_int min2_int max_two min_two max_three min_three max_four min_four   -- for this text's walks alone
set_option linter.unusedVariables false
set_option linter.unusedSimpArgs false

mutual
def louverref16_Head.j0 : Nat → ByteArray → Bool → Int → Bool → Option (Int × Int × Int × Bool)
  | 0, _, _, _, _ => none
  | k + 1, x0, x1, x5, x34 => if x34 = true then (some (0, 0, 1002, false)) else (if (x0.size : Int) < 2 then (some (0, 0, 0, true)) else (if 1 < (x0.size : Int) then (if ((decide ((bt x0 1) > 127)) != x1) = true then (louverref16_Head.j1 k x0 x1 (wrap64 (Int.tmod (bt x0 1) 128)) true) else (if x5 > 7 then (louverref16_Head.j1 k x0 x1 (wrap64 (Int.tmod (bt x0 1) 128)) (decide ((wrap64 (Int.tmod (bt x0 1) 128)) > 125))) else (louverref16_Head.j1 k x0 x1 (wrap64 (Int.tmod (bt x0 1) 128)) false))) else (none)))
def louverref16_Head.j1 : Nat → ByteArray → Bool → Int → Bool → Option (Int × Int × Int × Bool)
  | 0, _, _, _, _ => none
  | k + 1, x0, x1, x6, x56 => if x56 = true then (some (0, 0, 1002, false)) else (if x6 = 126 then (if (x0.size : Int) < 4 then (some (0, 0, 0, true)) else (if 2 ≤ 4 then (if 4 ≤ (x0.size : Int) then ((louverref07_Value.f k (x0.extract 2 4)).bind fun t169 => (if (wrap64 (t169)) < 126 then (some (0, 0, 1002, false)) else (louverref16_Head.j2 k x1 (wrap64 (t169)) 4))) else (none)) else (none))) else (if x6 = 127 then (if (x0.size : Int) < 10 then (some (0, 0, 0, true)) else (if 2 ≤ 6 then (if 6 ≤ (x0.size : Int) then ((louverref07_Value.f k (x0.extract 2 6)).bind fun t170 => (if 6 ≤ 10 then (if 10 ≤ (x0.size : Int) then ((louverref07_Value.f k (x0.extract 6 10)).bind fun t171 => (if t170 = 0 then (if t171 < 65536 then (some (0, 0, 1002, false)) else (if t170 > 2147483647 then (some (0, 0, 1002, false)) else (some (0, 0, 1009, false)))) else (if t170 > 2147483647 then (some (0, 0, 1002, false)) else (some (0, 0, 1009, false))))) else (none)) else (none))) else (none)) else (none))) else (louverref16_Head.j2 k x1 x6 2)))
def louverref16_Head.j2 : Nat → Bool → Int → Int → Option (Int × Int × Int × Bool)
  | 0, _, _, _ => none
  | k + 1, x1, x6, x7 => if x6 > 4096 then (some (0, 0, 1009, false)) else (if x1 = true then (some (wrap64 (x7 + 4), x6, 0, false)) else (some (x7, x6, 0, false)))
end
def louverref16_Head.f (k : Nat) (a0 : ByteArray) (a1 : Bool) : Option (Int × Int × Int × Bool) := if a0.toList = ([] : List UInt8) then (some (0, 0, 0, true)) else (if 0 < (a0.size : Int) then (if (((Int.tdiv (bt a0 0) 16) % 256) % 8) = 0 then ((louverref16_known.f (Int.tmod (bt a0 0) 16)).bind fun t168 => (if t168 = true then (if (Int.tmod (bt a0 0) 16) > 7 then (louverref16_Head.j0 k a0 a1 (Int.tmod (bt a0 0) 16) (decide ((bt a0 0) < 128))) else (louverref16_Head.j0 k a0 a1 (Int.tmod (bt a0 0) 16) false)) else (louverref16_Head.j0 k a0 a1 (Int.tmod (bt a0 0) 16) true))) else (louverref16_Head.j0 k a0 a1 (Int.tmod (bt a0 0) 16) true)) else (none))
set_option maxRecDepth 100000 in
theorem louverref16_Head.mono_l : ∀ k, (∀ y0 y1 y2 y3, LeO (louverref16_Head.j0 k y0 y1 y2 y3) (louverref16_Head.j0 (k + 1) y0 y1 y2 y3)) ∧ (∀ y0 y1 y2 y3, LeO (louverref16_Head.j1 k y0 y1 y2 y3) (louverref16_Head.j1 (k + 1) y0 y1 y2 y3)) ∧ (∀ y0 y1 y2, LeO (louverref16_Head.j2 k y0 y1 y2) (louverref16_Head.j2 (k + 1) y0 y1 y2))
  | 0 => ⟨fun _ _ _ _ r h => by (unfold louverref16_Head.j0 at h; cases h), fun _ _ _ _ r h => by (unfold louverref16_Head.j1 at h; cases h), fun _ _ _ r h => by (unfold louverref16_Head.j2 at h; cases h)⟩
  | k + 1 => by
    obtain ⟨ih0, ih1, ih2⟩ := louverref16_Head.mono_l k
    refine ⟨?_, ?_, ?_⟩
    · intro y0 y1 y2 y3
      unfold louverref16_Head.j0
      repeat' first
      | (with_reducible exact ih0 _ _ _ _)
      | (with_reducible exact ih1 _ _ _ _)
      | (with_reducible exact ih2 _ _ _)
      | (with_reducible exact louverref07_Value.mono _ _)
      | (with_reducible exact LeO.refl _)
      | (with_reducible exact LeO.none _)
      | (with_reducible refine LeO.ite ?_ ?_)
      | (with_reducible refine LeO.bind ?_ (fun _ => ?_))
      | exact ih0 _ _ _ _
      | exact ih1 _ _ _ _
      | exact ih2 _ _ _
      | exact louverref07_Value.mono _ _
      | exact LeO.none _
      | refine LeO.ite ?_ ?_
      | refine LeO.bind ?_ (fun _ => ?_)
    · intro y0 y1 y2 y3
      unfold louverref16_Head.j1
      repeat' first
      | (with_reducible exact ih0 _ _ _ _)
      | (with_reducible exact ih1 _ _ _ _)
      | (with_reducible exact ih2 _ _ _)
      | (with_reducible exact louverref07_Value.mono _ _)
      | (with_reducible exact LeO.refl _)
      | (with_reducible exact LeO.none _)
      | (with_reducible refine LeO.ite ?_ ?_)
      | (with_reducible refine LeO.bind ?_ (fun _ => ?_))
      | exact ih0 _ _ _ _
      | exact ih1 _ _ _ _
      | exact ih2 _ _ _
      | exact louverref07_Value.mono _ _
      | exact LeO.none _
      | refine LeO.ite ?_ ?_
      | refine LeO.bind ?_ (fun _ => ?_)
    · intro y0 y1 y2
      unfold louverref16_Head.j2
      repeat' first
      | (with_reducible exact ih0 _ _ _ _)
      | (with_reducible exact ih1 _ _ _ _)
      | (with_reducible exact ih2 _ _ _)
      | (with_reducible exact louverref07_Value.mono _ _)
      | (with_reducible exact LeO.refl _)
      | (with_reducible exact LeO.none _)
      | (with_reducible refine LeO.ite ?_ ?_)
      | (with_reducible refine LeO.bind ?_ (fun _ => ?_))
      | exact ih0 _ _ _ _
      | exact ih1 _ _ _ _
      | exact ih2 _ _ _
      | exact louverref07_Value.mono _ _
      | exact LeO.none _
      | refine LeO.ite ?_ ?_
      | refine LeO.bind ?_ (fun _ => ?_)
set_option maxRecDepth 100000 in
theorem louverref16_Head.mono : ∀ a0 a1 k, LeO (louverref16_Head.f k a0 a1) (louverref16_Head.f (k + 1) a0 a1) := by
  intro a0 a1 k
  obtain ⟨ih0, ih1, ih2⟩ := louverref16_Head.mono_l k
  unfold louverref16_Head.f
  repeat' first
      | (with_reducible exact ih0 _ _ _ _)
      | (with_reducible exact ih1 _ _ _ _)
      | (with_reducible exact ih2 _ _ _)
      | (with_reducible exact louverref07_Value.mono _ _)
      | (with_reducible exact LeO.refl _)
      | (with_reducible exact LeO.none _)
      | (with_reducible refine LeO.ite ?_ ?_)
      | (with_reducible refine LeO.bind ?_ (fun _ => ?_))
      | exact ih0 _ _ _ _
      | exact ih1 _ _ _ _
      | exact ih2 _ _ _
      | exact louverref07_Value.mono _ _
      | exact LeO.none _
      | refine LeO.ite ?_ ?_
      | refine LeO.bind ?_ (fun _ => ?_)
set_option maxHeartbeats 8000000 in
set_option maxRecDepth 100000 in
theorem louverref16_Head.calls (k : Nat) (a0 : ByteArray) (a1 : Bool) (r1 : Int) (r2 : Int) (r3 : Int) (r4 : Bool) (w : World) (h : louverref16_Head.f k a0 a1 = some (r1, r2, r3, r4)) :
    Calls Tryd.prog 20 #[.string a0, .bool a1] w fun e w' => e = .returned (.agg #[.int .i64 r1, .int .i64 r2, .int .i64 r3, .bool r4]) ∧ Below w.heap.size w w' := by
  have hu54 := Tryd.underlying54
  have HB := Aside0.mk (Below.refl w.heap.size w)
  have H : (if a0.toList = ([] : List UInt8) then (some (0, 0, 0, true)) else (if 0 < (a0.size : Int) then (if (((Int.tdiv (bt a0 0) 16) % 256) % 8) = 0 then ((louverref16_known.f (Int.tmod (bt a0 0) 16)).bind fun t168 => (if t168 = true then (if (Int.tmod (bt a0 0) 16) > 7 then (louverref16_Head.j0 k a0 a1 (Int.tmod (bt a0 0) 16) (decide ((bt a0 0) < 128))) else (louverref16_Head.j0 k a0 a1 (Int.tmod (bt a0 0) 16) false)) else (louverref16_Head.j0 k a0 a1 (Int.tmod (bt a0 0) 16) true))) else (louverref16_Head.j0 k a0 a1 (Int.tmod (bt a0 0) 16) true)) else (none))) = some (r1, r2, r3, r4) := h
  clear h
  by_cases c3 : a0.toList = ([] : List UInt8)
  · rw [if_pos c3] at H
    have c3b0 : (a0.toList == ([] : List UInt8)) = true := beq_iff_eq.mpr c3
    have c3b1 : (a0.toList != ([] : List UInt8)) = false := bne_eq_false_iff_eq.mpr c3
    clear c3
    simp only [Option.some.injEq, Prod.mk.injEq] at H
    obtain ⟨rfl, rfl, rfl, rfl⟩ := H
    go_enter Tryd.func20, Tryd.ntmps20
    go_wp2_with (first | ((with_reducible refine gate_dst (N := 4) rfl ?_); refine box_event ?hg (N := 4) ?hd (cs := #[.int .i64 0, .int .i64 0, .int .i64 0, .bool false]) (t := 54) ?hr ?_; (case hd => rfl); (case hg => rfl); (case hr => first | (go_simp; done) | (go_simp; rfl)); intro gb167 hg w4 hbox hb; have n0_ := Aside0.mk (below_step (by repeat (first | (with_reducible first | exact HB.out | apply below_alloc | apply pw_below_drewN | apply below_drew1) | exact HB.out)) hb); have n1_ := Aside0.mk (hbox); have n2_ := Aside0.mk ((by rw [hg]; exact (below_size (by repeat (first | (with_reducible first | exact HB.out | apply below_alloc | apply pw_below_drewN | apply below_drew1) | exact HB.out))) : w.heap.size ≤ gb167)); have n3_ := Aside0.mk ((by rw [hg]; exact (below_size (by repeat (first | (with_reducible first | exact HB.out | apply below_alloc | apply pw_below_drewN | apply below_drew1) | exact HB.out))) : w.heap.size ≤ gb167)); clear HB; have HB := n0_; have BK167 := n1_; have GW167 := n2_; have GE167 := n3_; clear n0_ n1_ n2_ n3_; clear hb hbox hg; have hcz5_0 : w4.cell? ⟨gb167, 0, none⟩ = some (.int .i64 0) := (blk_cell BK167.out 0).trans rfl; have hcz5_1 : w4.cell? ⟨gb167, 1, none⟩ = some (.int .i64 0) := (blk_cell BK167.out 1).trans rfl; have hcz5_2 : w4.cell? ⟨gb167, 2, none⟩ = some (.int .i64 0) := (blk_cell BK167.out 2).trans rfl; have hcz5_3 : w4.cell? ⟨gb167, 3, none⟩ = some (.bool false) := (blk_cell BK167.out 3).trans rfl; have hfz5_0 := blk_frozen BK167.out 0; have hfz5_1 := blk_frozen BK167.out 1; have hfz5_2 := blk_frozen BK167.out 2; have hfz5_3 := blk_frozen BK167.out 3))
    refine bodyPost_ret (results_cell_row rfl _ _ gb167 54 #[.int .i64 0, .int .i64 0, .int .i64 0, .bool true] (0, 0) _ rfl (by (with_reducible repeat (first | refine blk_drewN ?_ _ | refine blk_drew ?_ | refine blk_alloc ?_ _)); refine blk_put (cs := #[.int .i64 0, .int .i64 0, .int .i64 0, .bool false]) ?_ 3 _ rfl; (with_reducible repeat (first | refine blk_drewN ?_ _ | refine blk_drew ?_ | refine blk_alloc ?_ _)); refine blk_put (cs := #[.int .i64 0, .int .i64 0, .int .i64 0, .bool false]) ?_ 2 _ rfl; (with_reducible repeat (first | refine blk_drewN ?_ _ | refine blk_drew ?_ | refine blk_alloc ?_ _)); refine blk_put (cs := #[.int .i64 0, .int .i64 0, .int .i64 0, .bool false]) ?_ 1 _ rfl; (with_reducible repeat (first | refine blk_drewN ?_ _ | refine blk_drew ?_ | refine blk_alloc ?_ _)); refine blk_put (cs := #[.int .i64 0, .int .i64 0, .int .i64 0, .bool false]) ?_ 0 _ rfl; (with_reducible repeat (first | refine blk_drewN ?_ _ | refine blk_drew ?_ | refine blk_alloc ?_ _)); exact BK167.out) Tryd.underlying54 rfl (by kernel_rfl)) rfl ?_
    exact ⟨by first | rfl | (simp [errW_none, errW_some] <;> rfl) | (simp [*, errW_none, errW_some] <;> rfl), by repeat (first | (with_reducible first | exact HB.out | apply below_alloc | apply pw_below_drewN | apply below_drew1 | refine below_set ?_ GE167.out) | exact HB.out)⟩
  · rw [if_neg c3] at H
    have c3b0 : (a0.toList == ([] : List UInt8)) = false := beq_eq_false_iff_ne.mpr c3
    have c3b1 : (a0.toList != ([] : List UInt8)) = true := bne_iff_ne.mpr c3
    by_cases c6 : 0 < (a0.size : Int)
    · rw [if_pos c6] at H
      have c6b0 : decide (0 < (a0.size : Int)) = true := decide_eq_true c6
      have c6b1 : decide (0 < a0.size) = true := decide_eq_true (by omega)
      clear c6
      have HC8 := Aside0.mk H
      clear H
      go_enter Tryd.func20, Tryd.ntmps20
      go_upto_region 4 with (first | ((with_reducible refine gate_dst (N := 4) rfl ?_); refine box_event ?hg (N := 4) ?hd (cs := #[.int .i64 0, .int .i64 0, .int .i64 0, .bool false]) (t := 54) ?hr ?_; (case hd => rfl); (case hg => rfl); (case hr => first | (go_simp; done) | (go_simp; rfl)); intro gb167 hg w9 hbox hb; have n0_ := Aside0.mk (below_step (by repeat (first | (with_reducible first | exact HB.out | apply below_alloc | apply pw_below_drewN | apply below_drew1) | exact HB.out)) hb); have n1_ := Aside0.mk (hbox); have n2_ := Aside0.mk ((by rw [hg]; exact (below_size (by repeat (first | (with_reducible first | exact HB.out | apply below_alloc | apply pw_below_drewN | apply below_drew1) | exact HB.out))) : w.heap.size ≤ gb167)); have n3_ := Aside0.mk ((by rw [hg]; exact (below_size (by repeat (first | (with_reducible first | exact HB.out | apply below_alloc | apply pw_below_drewN | apply below_drew1) | exact HB.out))) : w.heap.size ≤ gb167)); clear HB; have HB := n0_; have BK167 := n1_; have GW167 := n2_; have GE167 := n3_; clear n0_ n1_ n2_ n3_; clear hb hbox hg; have p7 : 0 ≤ (0 : Int) := (by omega); have q7 : 0 < a0.size := (by have : (0 : Int) < (a0.size : Int) := of_decide_eq_true (by first | (with_reducible assumption) | assumption); omega); have hx7 : ∀ h : 0 < a0.size, ((a0[0]'h).toNat : Int) = bt a0 0 := bt_at a0 0; clear p7; have qi7 : (0 < (a0.size : Int)) = True := eq_true (of_decide_eq_true (by first | (with_reducible assumption) | assumption)); replace q7 := eq_true q7))
      (try simp only [Act.put, List.setIfInBounds_toArray, List.set_cons_zero, List.set_cons_succ])
      go_cut [34] (fun v34 wc => ∃ (kq : Nat) (x34_7 : Bool), v34 = .bool x34_7 ∧ Aside0 (louverref16_Head.j0 kq a0 a1 (Int.tmod (bt a0 0) 16) x34_7 = some (r1, r2, r3, r4)) ∧ Aside0 (kq ≤ k) ∧ Aside0 (wc.heap[gb167]? = some (.cells #[.int .i64 0, .int .i64 0, .int .i64 0, .bool false] 54 (0, 0))) ∧ Aside0 (Below w.heap.size w wc))
      case first =>
        have H := HC8.out
        clear HC8
        by_cases c11 : (((Int.tdiv (bt a0 0) 16) % 256) % 8) = 0
        · rw [if_pos c11] at H
          have c11b0 : ((((Int.tdiv (bt a0 0) 16) % 256) % 8) == 0) = true := beq_iff_eq.mpr c11
          have c11b0z : (((Int.tdiv (bt a0 0) 16) % 8) == 0) = true := by have h := c11b0; rwa [Int.emod_emod_of_dvd _ (by decide)] at h
          have c11b1 : ((((Int.tdiv (bt a0 0) 16) % 256) % 8) != 0) = false := bne_eq_false_iff_eq.mpr c11
          have c11b1z : (((Int.tdiv (bt a0 0) 16) % 8) != 0) = false := by have h := c11b1; rwa [Int.emod_emod_of_dvd _ (by decide)] at h
          clear c11
          (first | rw [c11b0] | (simp only [i64_w, i32_w]; rw [c11b0]) | skip)
          replace H := Option.bind_eq_some_iff.mp H
          obtain ⟨t168, A120, H⟩ := H
          replace H : (if t168 = true then (if (Int.tmod (bt a0 0) 16) > 7 then (louverref16_Head.j0 k a0 a1 (Int.tmod (bt a0 0) 16) (decide ((bt a0 0) < 128))) else (louverref16_Head.j0 k a0 a1 (Int.tmod (bt a0 0) 16) false)) else (louverref16_Head.j0 k a0 a1 (Int.tmod (bt a0 0) 16) true)) = some (r1, r2, r3, r4) := H
          have A12 := Aside0.mk A120
          clear A120
          by_cases c13 : t168 = true
          · subst c13
            have H1 : (if (Int.tmod (bt a0 0) 16) > 7 then (louverref16_Head.j0 k a0 a1 (Int.tmod (bt a0 0) 16) (decide ((bt a0 0) < 128))) else (louverref16_Head.j0 k a0 a1 (Int.tmod (bt a0 0) 16) false)) = some (r1, r2, r3, r4) := by rw [if_pos rfl] at H; exact H
            clear H
            have H := H1
            clear H1
            by_cases c14 : (Int.tmod (bt a0 0) 16) > 7
            · rw [if_pos c14] at H
              have c14b0 : decide (7 < (Int.tmod (bt a0 0) 16)) = true := decide_eq_true c14
              clear c14
              have H' := Aside0.mk H
              clear H
              have p10 : 0 ≤ (0 : Int) := (by omega)
              have q10 : 0 < a0.size := (by have : (0 : Int) < (a0.size : Int) := of_decide_eq_true (by first | (with_reducible assumption) | assumption); omega)
              have hx10 : ∀ h : 0 < a0.size, ((a0[0]'h).toNat : Int) = bt a0 0 := bt_at a0 0
              clear p10
              have qi10 : (0 < (a0.size : Int)) = True := eq_true (of_decide_eq_true (by first | (with_reducible assumption) | assumption))
              replace q10 := eq_true q10
              go_wp2_with (first | (go_at_call 23; (with_reducible refine (louverref16_known.calls (Int.tmod (bt a0 0) 16) true _ A12.out).mono ?_); rintro e w' ⟨rfl, ⟨nd, rfl⟩⟩; have p15 : 0 ≤ (0 : Int) := (by omega); have q15 : 0 < a0.size := (by have : (0 : Int) < (a0.size : Int) := of_decide_eq_true (by first | (with_reducible assumption) | assumption); omega); have hx15 : ∀ h : 0 < a0.size, ((a0[0]'h).toNat : Int) = bt a0 0 := bt_at a0 0; clear p15; have qi15 : (0 < (a0.size : Int)) = True := eq_true (of_decide_eq_true (by first | (with_reducible assumption) | assumption)); replace q15 := eq_true q15))
              go_meet
              case rel => exact ⟨_, (decide ((bt a0 0) < 128)), (by first | rfl | (simp; done) | (simp [*]; done)), H', ⟨by first | omega | exact Nat.le_refl _⟩, ⟨by (with_reducible repeat (first | refine blk_drewN ?_ _ | refine blk_drew ?_ | refine blk_alloc ?_ _)); exact BK167.out⟩, ⟨by repeat (first | (with_reducible first | exact HB.out | apply below_alloc | apply pw_below_drewN | apply below_drew1 | refine below_set ?_ GE167.out) | exact HB.out)⟩⟩
            · rw [if_neg c14] at H
              have c14b0 : decide (7 < (Int.tmod (bt a0 0) 16)) = false := decide_eq_false c14
              clear c14
              have H' := Aside0.mk H
              clear H
              have p10 : 0 ≤ (0 : Int) := (by omega)
              have q10 : 0 < a0.size := (by have : (0 : Int) < (a0.size : Int) := of_decide_eq_true (by first | (with_reducible assumption) | assumption); omega)
              have hx10 : ∀ h : 0 < a0.size, ((a0[0]'h).toNat : Int) = bt a0 0 := bt_at a0 0
              clear p10
              have qi10 : (0 < (a0.size : Int)) = True := eq_true (of_decide_eq_true (by first | (with_reducible assumption) | assumption))
              replace q10 := eq_true q10
              go_wp2_with (first | (go_at_call 23; (with_reducible refine (louverref16_known.calls (Int.tmod (bt a0 0) 16) true _ A12.out).mono ?_); rintro e w' ⟨rfl, ⟨nd, rfl⟩⟩))
              go_meet
              case rel => exact ⟨_, (false), (by first | rfl | (simp; done) | (simp [*]; done)), H', ⟨by first | omega | exact Nat.le_refl _⟩, ⟨by (with_reducible repeat (first | refine blk_drewN ?_ _ | refine blk_drew ?_ | refine blk_alloc ?_ _)); exact BK167.out⟩, ⟨by repeat (first | (with_reducible first | exact HB.out | apply below_alloc | apply pw_below_drewN | apply below_drew1 | refine below_set ?_ GE167.out) | exact HB.out)⟩⟩
          · replace c13 := Bool.eq_false_iff.mpr c13
            subst c13
            have H1 : (louverref16_Head.j0 k a0 a1 (Int.tmod (bt a0 0) 16) true) = some (r1, r2, r3, r4) := by rw [if_neg (show ¬ (false = true) by decide)] at H; exact H
            clear H
            have H := H1
            clear H1
            have H' := Aside0.mk H
            clear H
            have p10 : 0 ≤ (0 : Int) := (by omega)
            have q10 : 0 < a0.size := (by have : (0 : Int) < (a0.size : Int) := of_decide_eq_true (by first | (with_reducible assumption) | assumption); omega)
            have hx10 : ∀ h : 0 < a0.size, ((a0[0]'h).toNat : Int) = bt a0 0 := bt_at a0 0
            clear p10
            have qi10 : (0 < (a0.size : Int)) = True := eq_true (of_decide_eq_true (by first | (with_reducible assumption) | assumption))
            replace q10 := eq_true q10
            go_wp2_with (first | (go_at_call 23; (with_reducible refine (louverref16_known.calls (Int.tmod (bt a0 0) 16) false _ A12.out).mono ?_); rintro e w' ⟨rfl, ⟨nd, rfl⟩⟩))
            go_meet
            case rel => exact ⟨_, (true), (by first | rfl | (simp; done) | (simp [*]; done)), H', ⟨by first | omega | exact Nat.le_refl _⟩, ⟨by (with_reducible repeat (first | refine blk_drewN ?_ _ | refine blk_drew ?_ | refine blk_alloc ?_ _)); exact BK167.out⟩, ⟨by repeat (first | (with_reducible first | exact HB.out | apply below_alloc | apply pw_below_drewN | apply below_drew1 | refine below_set ?_ GE167.out) | exact HB.out)⟩⟩
        · rw [if_neg c11] at H
          have c11b0 : ((((Int.tdiv (bt a0 0) 16) % 256) % 8) == 0) = false := beq_eq_false_iff_ne.mpr c11
          have c11b0z : (((Int.tdiv (bt a0 0) 16) % 8) == 0) = false := by have h := c11b0; rwa [Int.emod_emod_of_dvd _ (by decide)] at h
          have c11b1 : ((((Int.tdiv (bt a0 0) 16) % 256) % 8) != 0) = true := bne_iff_ne.mpr c11
          have c11b1z : (((Int.tdiv (bt a0 0) 16) % 8) != 0) = true := by have h := c11b1; rwa [Int.emod_emod_of_dvd _ (by decide)] at h
          (first | rw [c11b0] | (simp only [i64_w, i32_w]; rw [c11b0]) | skip)
          have H' := Aside0.mk H
          clear H
          have p10 : 0 ≤ (0 : Int) := (by omega)
          have q10 : 0 < a0.size := (by have : (0 : Int) < (a0.size : Int) := of_decide_eq_true (by first | (with_reducible assumption) | assumption); omega)
          have hx10 : ∀ h : 0 < a0.size, ((a0[0]'h).toNat : Int) = bt a0 0 := bt_at a0 0
          clear p10
          have qi10 : (0 < (a0.size : Int)) = True := eq_true (of_decide_eq_true (by first | (with_reducible assumption) | assumption))
          replace q10 := eq_true q10
          go_wp2
          go_meet
          case rel => exact ⟨_, (true), (by first | rfl | (simp; done) | (simp [*]; done)), H', ⟨by first | omega | exact Nat.le_refl _⟩, ⟨by (with_reducible repeat (first | refine blk_drewN ?_ _ | refine blk_drew ?_ | refine blk_alloc ?_ _)); exact BK167.out⟩, ⟨by repeat (first | (with_reducible first | exact HB.out | apply below_alloc | apply pw_below_drewN | apply below_drew1 | refine below_set ?_ GE167.out) | exact HB.out)⟩⟩
      case rest =>
        clear HC8
        try clear c1
        try clear p1
        try clear q1
        try clear hx1
        try clear qi1
        try clear c2
        try clear p2
        try clear c3
        try clear c3b0
        try clear c3b1
        try clear c6
        try clear c6b0
        try clear c6b1
        try clear p7
        try clear q7
        try clear hx7
        try clear qi7
        try clear p10
        try clear q10
        try clear hx10
        try clear qi10
        try clear c11
        try clear c11b0
        try clear c11b1
        try clear c13
        try clear c14
        try clear c14b0
        try clear p15
        try clear q15
        try clear hx15
        try clear qi15
        try clear hcz5_0
        try clear hcz5_1
        try clear hcz5_2
        try clear hcz5_3
        try clear hfz5_0
        try clear hfz5_1
        try clear hfz5_2
        try clear hfz5_3
        try clear p10
        try clear p15
        try clear p7
        try clear q10
        try clear q15
        try clear q7
        obtain ⟨kq, x34_7, rfl, HA, HJ7, BK167, HB⟩ := hcut
        cases kq with
        | zero => exact absurd HA.out (by simp [louverref16_Head.j0])
        | succ kj7 =>
          have H := HA.out
          clear HA
          simp only [louverref16_Head.j0] at H
          by_cases c16 : x34_7 = true
          · subst c16
            have H1 : (some (0, 0, 1002, false)) = some (r1, r2, r3, r4) := by rw [if_pos rfl] at H; exact H
            clear H
            have H := H1
            clear H1
            simp only [Option.some.injEq, Prod.mk.injEq] at H
            obtain ⟨rfl, rfl, rfl, rfl⟩ := H
            have hcz17_0 : wc.cell? ⟨gb167, 0, none⟩ = some (.int .i64 0) := (blk_cell BK167.out 0).trans rfl
            have hcz17_1 : wc.cell? ⟨gb167, 1, none⟩ = some (.int .i64 0) := (blk_cell BK167.out 1).trans rfl
            have hcz17_2 : wc.cell? ⟨gb167, 2, none⟩ = some (.int .i64 0) := (blk_cell BK167.out 2).trans rfl
            have hcz17_3 : wc.cell? ⟨gb167, 3, none⟩ = some (.bool false) := (blk_cell BK167.out 3).trans rfl
            have hfz17_0 := blk_frozen BK167.out 0
            have hfz17_1 := blk_frozen BK167.out 1
            have hfz17_2 := blk_frozen BK167.out 2
            have hfz17_3 := blk_frozen BK167.out 3
            go_wp2
            refine bodyPost_ret (results_cell_row rfl _ _ gb167 54 #[.int .i64 0, .int .i64 0, .int .i64 1002, .bool false] (0, 0) _ rfl (by (with_reducible repeat (first | refine blk_drewN ?_ _ | refine blk_drew ?_ | refine blk_alloc ?_ _)); refine blk_put (cs := #[.int .i64 0, .int .i64 0, .int .i64 1002, .bool false]) ?_ 3 _ rfl; (with_reducible repeat (first | refine blk_drewN ?_ _ | refine blk_drew ?_ | refine blk_alloc ?_ _)); refine blk_put (cs := #[.int .i64 0, .int .i64 0, .int .i64 0, .bool false]) ?_ 2 _ rfl; (with_reducible repeat (first | refine blk_drewN ?_ _ | refine blk_drew ?_ | refine blk_alloc ?_ _)); refine blk_put (cs := #[.int .i64 0, .int .i64 0, .int .i64 0, .bool false]) ?_ 1 _ rfl; (with_reducible repeat (first | refine blk_drewN ?_ _ | refine blk_drew ?_ | refine blk_alloc ?_ _)); refine blk_put (cs := #[.int .i64 0, .int .i64 0, .int .i64 0, .bool false]) ?_ 0 _ rfl; (with_reducible repeat (first | refine blk_drewN ?_ _ | refine blk_drew ?_ | refine blk_alloc ?_ _)); exact BK167.out) Tryd.underlying54 rfl (by kernel_rfl)) rfl ?_
            exact ⟨by first | rfl | (simp [errW_none, errW_some] <;> rfl) | (simp [*, errW_none, errW_some] <;> rfl), by repeat (first | (with_reducible first | exact HB.out | apply below_alloc | apply pw_below_drewN | apply below_drew1 | refine below_set ?_ GE167.out) | exact HB.out)⟩
          · replace c16 := Bool.eq_false_iff.mpr c16
            subst c16
            have H1 : (if (a0.size : Int) < 2 then (some (0, 0, 0, true)) else (if 1 < (a0.size : Int) then (if ((decide ((bt a0 1) > 127)) != a1) = true then (louverref16_Head.j1 kj7 a0 a1 (wrap64 (Int.tmod (bt a0 1) 128)) true) else (if (Int.tmod (bt a0 0) 16) > 7 then (louverref16_Head.j1 kj7 a0 a1 (wrap64 (Int.tmod (bt a0 1) 128)) (decide ((wrap64 (Int.tmod (bt a0 1) 128)) > 125))) else (louverref16_Head.j1 kj7 a0 a1 (wrap64 (Int.tmod (bt a0 1) 128)) false))) else (none))) = some (r1, r2, r3, r4) := by rw [if_neg (show ¬ (false = true) by decide)] at H; exact H
            clear H
            have H := H1
            clear H1
            by_cases c18 : (a0.size : Int) < 2
            · rw [if_pos c18] at H
              have c18b0 : decide ((a0.size : Int) < 2) = true := decide_eq_true c18
              have c18b1 : decide (a0.size < 2) = true := decide_eq_true (by omega)
              clear c18
              simp only [Option.some.injEq, Prod.mk.injEq] at H
              obtain ⟨rfl, rfl, rfl, rfl⟩ := H
              have hcz19_0 : wc.cell? ⟨gb167, 0, none⟩ = some (.int .i64 0) := (blk_cell BK167.out 0).trans rfl
              have hcz19_1 : wc.cell? ⟨gb167, 1, none⟩ = some (.int .i64 0) := (blk_cell BK167.out 1).trans rfl
              have hcz19_2 : wc.cell? ⟨gb167, 2, none⟩ = some (.int .i64 0) := (blk_cell BK167.out 2).trans rfl
              have hcz19_3 : wc.cell? ⟨gb167, 3, none⟩ = some (.bool false) := (blk_cell BK167.out 3).trans rfl
              have hfz19_0 := blk_frozen BK167.out 0
              have hfz19_1 := blk_frozen BK167.out 1
              have hfz19_2 := blk_frozen BK167.out 2
              have hfz19_3 := blk_frozen BK167.out 3
              go_wp2
              refine bodyPost_ret (results_cell_row rfl _ _ gb167 54 #[.int .i64 0, .int .i64 0, .int .i64 0, .bool true] (0, 0) _ rfl (by (with_reducible repeat (first | refine blk_drewN ?_ _ | refine blk_drew ?_ | refine blk_alloc ?_ _)); refine blk_put (cs := #[.int .i64 0, .int .i64 0, .int .i64 0, .bool false]) ?_ 3 _ rfl; (with_reducible repeat (first | refine blk_drewN ?_ _ | refine blk_drew ?_ | refine blk_alloc ?_ _)); refine blk_put (cs := #[.int .i64 0, .int .i64 0, .int .i64 0, .bool false]) ?_ 2 _ rfl; (with_reducible repeat (first | refine blk_drewN ?_ _ | refine blk_drew ?_ | refine blk_alloc ?_ _)); refine blk_put (cs := #[.int .i64 0, .int .i64 0, .int .i64 0, .bool false]) ?_ 1 _ rfl; (with_reducible repeat (first | refine blk_drewN ?_ _ | refine blk_drew ?_ | refine blk_alloc ?_ _)); refine blk_put (cs := #[.int .i64 0, .int .i64 0, .int .i64 0, .bool false]) ?_ 0 _ rfl; (with_reducible repeat (first | refine blk_drewN ?_ _ | refine blk_drew ?_ | refine blk_alloc ?_ _)); exact BK167.out) Tryd.underlying54 rfl (by kernel_rfl)) rfl ?_
              exact ⟨by first | rfl | (simp [errW_none, errW_some] <;> rfl) | (simp [*, errW_none, errW_some] <;> rfl), by repeat (first | (with_reducible first | exact HB.out | apply below_alloc | apply pw_below_drewN | apply below_drew1 | refine below_set ?_ GE167.out) | exact HB.out)⟩
            · rw [if_neg c18] at H
              have c18b0 : decide ((a0.size : Int) < 2) = false := decide_eq_false c18
              have c18b1 : decide (a0.size < 2) = false := decide_eq_false (by omega)
              clear c18
              by_cases c20 : 1 < (a0.size : Int)
              · rw [if_pos c20] at H
                have c20b0 : decide (1 < (a0.size : Int)) = true := decide_eq_true c20
                have c20b1 : decide (1 < a0.size) = true := decide_eq_true (by omega)
                clear c20
                have HC22 := Aside0.mk H
                clear H
                have p21 : 0 ≤ (1 : Int) := (by omega)
                have q21 : 1 < a0.size := (by have : (1 : Int) < (a0.size : Int) := of_decide_eq_true (by first | (with_reducible assumption) | assumption); omega)
                have hx21 : ∀ h : 1 < a0.size, ((a0[1]'h).toNat : Int) = bt a0 1 := bt_at a0 1
                clear p21
                have qi21 : (1 < (a0.size : Int)) = True := eq_true (of_decide_eq_true (by first | (with_reducible assumption) | assumption))
                replace q21 := eq_true q21
                go_upto_region 9 with (fail)
                go_cut [56] (fun v56 wc => ∃ (kq : Nat) (x56_21 : Bool), v56 = .bool x56_21 ∧ Aside0 (louverref16_Head.j1 kq a0 a1 (wrap64 (Int.tmod (bt a0 1) 128)) x56_21 = some (r1, r2, r3, r4)) ∧ Aside0 (kq ≤ kj7) ∧ Aside0 (wc.heap[gb167]? = some (.cells #[.int .i64 0, .int .i64 0, .int .i64 0, .bool false] 54 (0, 0))) ∧ Aside0 (Below w.heap.size w wc))
                case first =>
                  have H := HC22.out
                  clear HC22
                  by_cases c24 : ((decide ((bt a0 1) > 127)) != a1) = true
                  · rw [if_pos c24] at H
                    have c24b0 : ((decide ((bt a0 1) > 127)) != a1) = true := c24
                    (try (have c24b1 : decide ((decide ((bt a0 1) > 127)) = a1) = false := by simpa using c24))
                    (try (have c24b2 : ((decide ((bt a0 1) > 127)) == a1) = false := by simpa using c24))
                    (try (have c24b3 : ¬ ((decide ((bt a0 1) > 127)) = a1) := by simpa using c24))
                    clear c24
                    (first | rw [c24b0] | (simp only [i64_w, i32_w]; rw [c24b0]) | skip)
                    have H' := Aside0.mk H
                    clear H
                    have p23 : 0 ≤ (1 : Int) := (by omega)
                    have q23 : 1 < a0.size := (by have : (1 : Int) < (a0.size : Int) := of_decide_eq_true (by first | (with_reducible assumption) | assumption); omega)
                    have hx23 : ∀ h : 1 < a0.size, ((a0[1]'h).toNat : Int) = bt a0 1 := bt_at a0 1
                    clear p23
                    have qi23 : (1 < (a0.size : Int)) = True := eq_true (of_decide_eq_true (by first | (with_reducible assumption) | assumption))
                    replace q23 := eq_true q23
                    go_wp2
                    go_meet
                    case rel => exact ⟨_, (true), (by first | rfl | (simp; done) | (simp [*]; done)), H', ⟨by have := HJ7.out; first | omega | exact Nat.le_refl _⟩, ⟨by (with_reducible repeat (first | refine blk_drewN ?_ _ | refine blk_drew ?_ | refine blk_alloc ?_ _)); exact BK167.out⟩, ⟨by repeat (first | (with_reducible first | exact HB.out | apply below_alloc | apply pw_below_drewN | apply below_drew1 | refine below_set ?_ GE167.out) | exact HB.out)⟩⟩
                  · rw [if_neg c24] at H
                    have c24b0 : ((decide ((bt a0 1) > 127)) != a1) = false := by simpa using c24
                    (try (have c24b1 : decide ((decide ((bt a0 1) > 127)) = a1) = true := by simpa using c24))
                    (try (have c24b2 : ((decide ((bt a0 1) > 127)) == a1) = true := by simpa using c24))
                    clear c24
                    (first | rw [c24b0] | (simp only [i64_w, i32_w]; rw [c24b0]) | skip)
                    by_cases c25 : (Int.tmod (bt a0 0) 16) > 7
                    · rw [if_pos c25] at H
                      have c25b0 : decide (7 < (Int.tmod (bt a0 0) 16)) = true := decide_eq_true c25
                      clear c25
                      have H' := Aside0.mk H
                      clear H
                      have p23 : 0 ≤ (1 : Int) := (by omega)
                      have q23 : 1 < a0.size := (by have : (1 : Int) < (a0.size : Int) := of_decide_eq_true (by first | (with_reducible assumption) | assumption); omega)
                      have hx23 : ∀ h : 1 < a0.size, ((a0[1]'h).toNat : Int) = bt a0 1 := bt_at a0 1
                      clear p23
                      have qi23 : (1 < (a0.size : Int)) = True := eq_true (of_decide_eq_true (by first | (with_reducible assumption) | assumption))
                      replace q23 := eq_true q23
                      go_wp2
                      go_meet
                      case rel => exact ⟨_, (decide ((wrap64 (Int.tmod (bt a0 1) 128)) > 125)), (by first | rfl | (simp; done) | (simp [*]; done)), H', ⟨by have := HJ7.out; first | omega | exact Nat.le_refl _⟩, ⟨by (with_reducible repeat (first | refine blk_drewN ?_ _ | refine blk_drew ?_ | refine blk_alloc ?_ _)); exact BK167.out⟩, ⟨by repeat (first | (with_reducible first | exact HB.out | apply below_alloc | apply pw_below_drewN | apply below_drew1 | refine below_set ?_ GE167.out) | exact HB.out)⟩⟩
                    · rw [if_neg c25] at H
                      have c25b0 : decide (7 < (Int.tmod (bt a0 0) 16)) = false := decide_eq_false c25
                      clear c25
                      have H' := Aside0.mk H
                      clear H
                      have p23 : 0 ≤ (1 : Int) := (by omega)
                      have q23 : 1 < a0.size := (by have : (1 : Int) < (a0.size : Int) := of_decide_eq_true (by first | (with_reducible assumption) | assumption); omega)
                      have hx23 : ∀ h : 1 < a0.size, ((a0[1]'h).toNat : Int) = bt a0 1 := bt_at a0 1
                      clear p23
                      have qi23 : (1 < (a0.size : Int)) = True := eq_true (of_decide_eq_true (by first | (with_reducible assumption) | assumption))
                      replace q23 := eq_true q23
                      go_wp2
                      go_meet
                      case rel => exact ⟨_, (false), (by first | rfl | (simp; done) | (simp [*]; done)), H', ⟨by have := HJ7.out; first | omega | exact Nat.le_refl _⟩, ⟨by (with_reducible repeat (first | refine blk_drewN ?_ _ | refine blk_drew ?_ | refine blk_alloc ?_ _)); exact BK167.out⟩, ⟨by repeat (first | (with_reducible first | exact HB.out | apply below_alloc | apply pw_below_drewN | apply below_drew1 | refine below_set ?_ GE167.out) | exact HB.out)⟩⟩
                case rest =>
                  clear HC22
                  try clear c1
                  try clear p1
                  try clear q1
                  try clear hx1
                  try clear qi1
                  try clear c2
                  try clear p2
                  try clear q2
                  try clear hx2
                  try clear qi2
                  try clear c3
                  try clear c3b0
                  try clear c3b1
                  try clear c6
                  try clear c6b0
                  try clear c6b1
                  try clear p6
                  try clear p7
                  try clear q7
                  try clear hx7
                  try clear qi7
                  try clear p10
                  try clear q10
                  try clear hx10
                  try clear qi10
                  try clear c11
                  try clear c11b0
                  try clear c11b1
                  try clear c13
                  try clear c14
                  try clear c14b0
                  try clear p15
                  try clear q15
                  try clear hx15
                  try clear qi15
                  try clear c16
                  try clear c18
                  try clear c18b0
                  try clear c18b1
                  try clear c20
                  try clear c20b0
                  try clear c20b1
                  try clear p21
                  try clear q21
                  try clear hx21
                  try clear qi21
                  try clear p23
                  try clear q23
                  try clear hx23
                  try clear qi23
                  try clear c24
                  try clear c24b0
                  try clear c24b1
                  try clear c24b2
                  try clear c25
                  try clear c25b0
                  try clear hcz17_0
                  try clear hcz17_1
                  try clear hcz17_2
                  try clear hcz17_3
                  try clear hcz19_0
                  try clear hcz19_1
                  try clear hcz19_2
                  try clear hcz19_3
                  try clear hcz5_0
                  try clear hcz5_1
                  try clear hcz5_2
                  try clear hcz5_3
                  try clear hfz17_0
                  try clear hfz17_1
                  try clear hfz17_2
                  try clear hfz17_3
                  try clear hfz19_0
                  try clear hfz19_1
                  try clear hfz19_2
                  try clear hfz19_3
                  try clear hfz5_0
                  try clear hfz5_1
                  try clear hfz5_2
                  try clear hfz5_3
                  try clear p1
                  try clear p10
                  try clear p15
                  try clear p2
                  try clear p21
                  try clear p23
                  try clear p7
                  try clear q1
                  try clear q10
                  try clear q15
                  try clear q21
                  try clear q23
                  try clear q7
                  obtain ⟨kq, x56_21, rfl, HA, HJ21, BK167, HB⟩ := hcut
                  cases kq with
                  | zero => exact absurd HA.out (by simp [louverref16_Head.j1])
                  | succ kj21 =>
                    have H := HA.out
                    clear HA
                    simp only [louverref16_Head.j1] at H
                    by_cases c26 : x56_21 = true
                    · subst c26
                      have H1 : (some (0, 0, 1002, false)) = some (r1, r2, r3, r4) := by rw [if_pos rfl] at H; exact H
                      clear H
                      have H := H1
                      clear H1
                      simp only [Option.some.injEq, Prod.mk.injEq] at H
                      obtain ⟨rfl, rfl, rfl, rfl⟩ := H
                      have hcz27_0 : wc.cell? ⟨gb167, 0, none⟩ = some (.int .i64 0) := (blk_cell BK167.out 0).trans rfl
                      have hcz27_1 : wc.cell? ⟨gb167, 1, none⟩ = some (.int .i64 0) := (blk_cell BK167.out 1).trans rfl
                      have hcz27_2 : wc.cell? ⟨gb167, 2, none⟩ = some (.int .i64 0) := (blk_cell BK167.out 2).trans rfl
                      have hcz27_3 : wc.cell? ⟨gb167, 3, none⟩ = some (.bool false) := (blk_cell BK167.out 3).trans rfl
                      have hfz27_0 := blk_frozen BK167.out 0
                      have hfz27_1 := blk_frozen BK167.out 1
                      have hfz27_2 := blk_frozen BK167.out 2
                      have hfz27_3 := blk_frozen BK167.out 3
                      go_wp2
                      refine bodyPost_ret (results_cell_row rfl _ _ gb167 54 #[.int .i64 0, .int .i64 0, .int .i64 1002, .bool false] (0, 0) _ rfl (by (with_reducible repeat (first | refine blk_drewN ?_ _ | refine blk_drew ?_ | refine blk_alloc ?_ _)); refine blk_put (cs := #[.int .i64 0, .int .i64 0, .int .i64 1002, .bool false]) ?_ 3 _ rfl; (with_reducible repeat (first | refine blk_drewN ?_ _ | refine blk_drew ?_ | refine blk_alloc ?_ _)); refine blk_put (cs := #[.int .i64 0, .int .i64 0, .int .i64 0, .bool false]) ?_ 2 _ rfl; (with_reducible repeat (first | refine blk_drewN ?_ _ | refine blk_drew ?_ | refine blk_alloc ?_ _)); refine blk_put (cs := #[.int .i64 0, .int .i64 0, .int .i64 0, .bool false]) ?_ 1 _ rfl; (with_reducible repeat (first | refine blk_drewN ?_ _ | refine blk_drew ?_ | refine blk_alloc ?_ _)); refine blk_put (cs := #[.int .i64 0, .int .i64 0, .int .i64 0, .bool false]) ?_ 0 _ rfl; (with_reducible repeat (first | refine blk_drewN ?_ _ | refine blk_drew ?_ | refine blk_alloc ?_ _)); exact BK167.out) Tryd.underlying54 rfl (by kernel_rfl)) rfl ?_
                      exact ⟨by first | rfl | (simp [errW_none, errW_some] <;> rfl) | (simp [*, errW_none, errW_some] <;> rfl), by repeat (first | (with_reducible first | exact HB.out | apply below_alloc | apply pw_below_drewN | apply below_drew1 | refine below_set ?_ GE167.out) | exact HB.out)⟩
                    · replace c26 := Bool.eq_false_iff.mpr c26
                      subst c26
                      have H1 : (if (wrap64 (Int.tmod (bt a0 1) 128)) = 126 then (if (a0.size : Int) < 4 then (some (0, 0, 0, true)) else (if 2 ≤ 4 then (if 4 ≤ (a0.size : Int) then ((louverref07_Value.f kj21 (a0.extract 2 4)).bind fun t169 => (if (wrap64 (t169)) < 126 then (some (0, 0, 1002, false)) else (louverref16_Head.j2 kj21 a1 (wrap64 (t169)) 4))) else (none)) else (none))) else (if (wrap64 (Int.tmod (bt a0 1) 128)) = 127 then (if (a0.size : Int) < 10 then (some (0, 0, 0, true)) else (if 2 ≤ 6 then (if 6 ≤ (a0.size : Int) then ((louverref07_Value.f kj21 (a0.extract 2 6)).bind fun t170 => (if 6 ≤ 10 then (if 10 ≤ (a0.size : Int) then ((louverref07_Value.f kj21 (a0.extract 6 10)).bind fun t171 => (if t170 = 0 then (if t171 < 65536 then (some (0, 0, 1002, false)) else (if t170 > 2147483647 then (some (0, 0, 1002, false)) else (some (0, 0, 1009, false)))) else (if t170 > 2147483647 then (some (0, 0, 1002, false)) else (some (0, 0, 1009, false))))) else (none)) else (none))) else (none)) else (none))) else (louverref16_Head.j2 kj21 a1 (wrap64 (Int.tmod (bt a0 1) 128)) 2))) = some (r1, r2, r3, r4) := by rw [if_neg (show ¬ (false = true) by decide)] at H; exact H
                      clear H
                      have H := H1
                      clear H1
                      have HC28 := Aside0.mk H
                      clear H
                      go_upto_if 59 with (fail)
                      go_cut [6, 7] (fun v6 v7 wc => ∃ (kq : Nat) (x6_27 : Int) (x7_27 : Int) (x168000_27 : Int) (x168001_27 : Int) (x168002_27 : Int) (x168003_27 : Bool), v6 = .int .i64 x6_27 ∧ v7 = .int .i64 x7_27 ∧ Aside0 (louverref16_Head.j2 kq a1 x6_27 x7_27 = some (r1, r2, r3, r4)) ∧ Aside0 (kq ≤ kj21) ∧ Aside0 (wc.heap[gb167]? = some (.cells #[.int .i64 x168000_27, .int .i64 x168001_27, .int .i64 x168002_27, .bool x168003_27] 54 (0, 0))) ∧ Aside0 (Below w.heap.size w wc))
                      case first =>
                        have H := HC28.out
                        clear HC28
                        by_cases c29 : (wrap64 (Int.tmod (bt a0 1) 128)) = 126
                        · rw [if_pos c29] at H
                          have c29b0 : ((wrap64 (Int.tmod (bt a0 1) 128)) == 126) = true := beq_iff_eq.mpr c29
                          have c29b1 : ((wrap64 (Int.tmod (bt a0 1) 128)) != 126) = false := bne_eq_false_iff_eq.mpr c29
                          clear c29
                          (first | rw [c29b0] | (simp only [i64_w, i32_w]; rw [c29b0]) | skip)
                          by_cases c30 : (a0.size : Int) < 4
                          · rw [if_pos c30] at H
                            have c30b0 : decide ((a0.size : Int) < 4) = true := decide_eq_true c30
                            have c30b1 : decide (a0.size < 4) = true := decide_eq_true (by omega)
                            clear c30
                            simp only [Option.some.injEq, Prod.mk.injEq] at H
                            obtain ⟨rfl, rfl, rfl, rfl⟩ := H
                            have hcz31_0 : wc.cell? ⟨gb167, 0, none⟩ = some (.int .i64 0) := (blk_cell BK167.out 0).trans rfl
                            have hcz31_1 : wc.cell? ⟨gb167, 1, none⟩ = some (.int .i64 0) := (blk_cell BK167.out 1).trans rfl
                            have hcz31_2 : wc.cell? ⟨gb167, 2, none⟩ = some (.int .i64 0) := (blk_cell BK167.out 2).trans rfl
                            have hcz31_3 : wc.cell? ⟨gb167, 3, none⟩ = some (.bool false) := (blk_cell BK167.out 3).trans rfl
                            have hfz31_0 := blk_frozen BK167.out 0
                            have hfz31_1 := blk_frozen BK167.out 1
                            have hfz31_2 := blk_frozen BK167.out 2
                            have hfz31_3 := blk_frozen BK167.out 3
                            go_wp2
                            refine bodyPost_ret (results_cell_row rfl _ _ gb167 54 #[.int .i64 0, .int .i64 0, .int .i64 0, .bool true] (0, 0) _ rfl (by (with_reducible repeat (first | refine blk_drewN ?_ _ | refine blk_drew ?_ | refine blk_alloc ?_ _)); refine blk_put (cs := #[.int .i64 0, .int .i64 0, .int .i64 0, .bool false]) ?_ 3 _ rfl; (with_reducible repeat (first | refine blk_drewN ?_ _ | refine blk_drew ?_ | refine blk_alloc ?_ _)); refine blk_put (cs := #[.int .i64 0, .int .i64 0, .int .i64 0, .bool false]) ?_ 2 _ rfl; (with_reducible repeat (first | refine blk_drewN ?_ _ | refine blk_drew ?_ | refine blk_alloc ?_ _)); refine blk_put (cs := #[.int .i64 0, .int .i64 0, .int .i64 0, .bool false]) ?_ 1 _ rfl; (with_reducible repeat (first | refine blk_drewN ?_ _ | refine blk_drew ?_ | refine blk_alloc ?_ _)); refine blk_put (cs := #[.int .i64 0, .int .i64 0, .int .i64 0, .bool false]) ?_ 0 _ rfl; (with_reducible repeat (first | refine blk_drewN ?_ _ | refine blk_drew ?_ | refine blk_alloc ?_ _)); exact BK167.out) Tryd.underlying54 rfl (by kernel_rfl)) rfl ?_
                            exact ⟨by first | rfl | (simp [errW_none, errW_some] <;> rfl) | (simp [*, errW_none, errW_some] <;> rfl), by repeat (first | (with_reducible first | exact HB.out | apply below_alloc | apply pw_below_drewN | apply below_drew1 | refine below_set ?_ GE167.out) | exact HB.out)⟩
                          · rw [if_neg c30] at H
                            have c30b0 : decide ((a0.size : Int) < 4) = false := decide_eq_false c30
                            have c30b1 : decide (a0.size < 4) = false := decide_eq_false (by omega)
                            clear c30
                            by_cases c32 : 2 ≤ 4
                            · rw [if_pos c32] at H
                              have c32b0 := eq_true c32
                              have c32b1 : decide (2 ≤ 4) = true := decide_eq_true c32
                              clear c32
                              by_cases c33 : 4 ≤ (a0.size : Int)
                              · rw [if_pos c33] at H
                                have c33b0 := eq_true c33
                                have c33b1 : decide (4 ≤ (a0.size : Int)) = true := decide_eq_true c33
                                clear c33
                                replace H := Option.bind_eq_some_iff.mp H
                                obtain ⟨t169, A340, H⟩ := H
                                replace H : (if (wrap64 (t169)) < 126 then (some (0, 0, 1002, false)) else (louverref16_Head.j2 kj21 a1 (wrap64 (t169)) 4)) = some (r1, r2, r3, r4) := H
                                have A34 := Aside0.mk A340
                                clear A340
                                by_cases c35 : (wrap64 (t169)) < 126
                                · rw [if_pos c35] at H
                                  have c35b0 : decide ((wrap64 (t169)) < 126) = true := decide_eq_true c35
                                  clear c35
                                  simp only [Option.some.injEq, Prod.mk.injEq] at H
                                  obtain ⟨rfl, rfl, rfl, rfl⟩ := H
                                  go_wp2_with (first | ((with_reducible refine gate_callee (f := 31) rfl ?_); refine goesL_ (some 66) rfl rfl Tryd.func31 (by kernel_rfl) rfl #[.string (a0.extract 2 4)] rfl (by (try simp only [List.map_toArray, List.map_cons, List.map_nil]); first | done | rfl | (simp only [List.length_drop, List.length_take]; rfl)) ?_; (with_reducible refine (louverref07_Value.calls kj21 (a0.extract 2 4) t169 _ A34.out).mono ?_); rintro e w' ⟨rfl, ⟨nd, rfl⟩⟩; refine ⟨_, rfl, ?_⟩; (try (rw [drewN_self wc]; generalize hq_ : World.drewN wc _ = wc; have n0_ : Aside0 (wc.heap[gb167]? = some (.cells #[.int .i64 0, .int .i64 0, .int .i64 0, .bool false] 54 (0, 0))) := ⟨by rw [← hq_]; exact (by (with_reducible repeat (first | refine blk_drewN ?_ _ | refine blk_drew ?_ | refine blk_alloc ?_ _)); exact BK167.out)⟩; have n1_ : Aside0 (Below w.heap.size w wc) := ⟨by rw [← hq_]; exact (by repeat (first | (with_reducible first | exact HB.out | apply below_alloc | apply pw_below_drewN | apply below_drew1 | refine below_set ?_ GE167.out) | exact HB.out))⟩; clear BK167 HB hq_; have BK167 := n0_; have HB := n1_; clear n0_ n1_)); have hcz36_0 : wc.cell? ⟨gb167, 0, none⟩ = some (.int .i64 0) := (blk_cell BK167.out 0).trans rfl; have hcz36_1 : wc.cell? ⟨gb167, 1, none⟩ = some (.int .i64 0) := (blk_cell BK167.out 1).trans rfl; have hcz36_2 : wc.cell? ⟨gb167, 2, none⟩ = some (.int .i64 0) := (blk_cell BK167.out 2).trans rfl; have hcz36_3 : wc.cell? ⟨gb167, 3, none⟩ = some (.bool false) := (blk_cell BK167.out 3).trans rfl; have hfz36_0 := blk_frozen BK167.out 0; have hfz36_1 := blk_frozen BK167.out 1; have hfz36_2 := blk_frozen BK167.out 2; have hfz36_3 := blk_frozen BK167.out 3))
                                  refine bodyPost_ret (results_cell_row rfl _ _ gb167 54 #[.int .i64 0, .int .i64 0, .int .i64 1002, .bool false] (0, 0) _ rfl (by (with_reducible repeat (first | refine blk_drewN ?_ _ | refine blk_drew ?_ | refine blk_alloc ?_ _)); refine blk_put (cs := #[.int .i64 0, .int .i64 0, .int .i64 1002, .bool false]) ?_ 3 _ rfl; (with_reducible repeat (first | refine blk_drewN ?_ _ | refine blk_drew ?_ | refine blk_alloc ?_ _)); refine blk_put (cs := #[.int .i64 0, .int .i64 0, .int .i64 0, .bool false]) ?_ 2 _ rfl; (with_reducible repeat (first | refine blk_drewN ?_ _ | refine blk_drew ?_ | refine blk_alloc ?_ _)); refine blk_put (cs := #[.int .i64 0, .int .i64 0, .int .i64 0, .bool false]) ?_ 1 _ rfl; (with_reducible repeat (first | refine blk_drewN ?_ _ | refine blk_drew ?_ | refine blk_alloc ?_ _)); refine blk_put (cs := #[.int .i64 0, .int .i64 0, .int .i64 0, .bool false]) ?_ 0 _ rfl; (with_reducible repeat (first | refine blk_drewN ?_ _ | refine blk_drew ?_ | refine blk_alloc ?_ _)); exact BK167.out) Tryd.underlying54 rfl (by kernel_rfl)) rfl ?_
                                  exact ⟨by first | rfl | (simp [errW_none, errW_some] <;> rfl) | (simp [*, errW_none, errW_some] <;> rfl), by repeat (first | (with_reducible first | exact HB.out | apply below_alloc | apply pw_below_drewN | apply below_drew1 | refine below_set ?_ GE167.out) | exact HB.out)⟩
                                · rw [if_neg c35] at H
                                  have c35b0 : decide ((wrap64 (t169)) < 126) = false := decide_eq_false c35
                                  clear c35
                                  have H' := Aside0.mk H
                                  clear H
                                  go_wp2_with (first | ((with_reducible refine gate_callee (f := 31) rfl ?_); refine goesL_ (some 66) rfl rfl Tryd.func31 (by kernel_rfl) rfl #[.string (a0.extract 2 4)] rfl (by (try simp only [List.map_toArray, List.map_cons, List.map_nil]); first | done | rfl | (simp only [List.length_drop, List.length_take]; rfl)) ?_; (with_reducible refine (louverref07_Value.calls kj21 (a0.extract 2 4) t169 _ A34.out).mono ?_); rintro e w' ⟨rfl, ⟨nd, rfl⟩⟩; refine ⟨_, rfl, ?_⟩))
                                  go_meet
                                  case rel => exact ⟨_, (wrap64 (t169)), (4), (0), (0), (0), (false), (by first | rfl | (simp; done) | (simp [*]; done)), (by first | rfl | (simp; done) | (simp [*]; done)), H', ⟨by have := HJ7.out; have := HJ21.out; first | omega | exact Nat.le_refl _⟩, ⟨by (with_reducible repeat (first | refine blk_drewN ?_ _ | refine blk_drew ?_ | refine blk_alloc ?_ _)); exact BK167.out⟩, ⟨by repeat (first | (with_reducible first | exact HB.out | apply below_alloc | apply pw_below_drewN | apply below_drew1 | refine below_set ?_ GE167.out) | exact HB.out)⟩⟩
                              · rw [if_neg c33] at H
                                exact absurd H (by simp)
                            · rw [if_neg c32] at H
                              exact absurd H (by simp)
                        · rw [if_neg c29] at H
                          have c29b0 : ((wrap64 (Int.tmod (bt a0 1) 128)) == 126) = false := beq_eq_false_iff_ne.mpr c29
                          have c29b1 : ((wrap64 (Int.tmod (bt a0 1) 128)) != 126) = true := bne_iff_ne.mpr c29
                          (first | rw [c29b0] | (simp only [i64_w, i32_w]; rw [c29b0]) | skip)
                          by_cases c37 : (wrap64 (Int.tmod (bt a0 1) 128)) = 127
                          · rw [if_pos c37] at H
                            have c37b0 : ((wrap64 (Int.tmod (bt a0 1) 128)) == 127) = true := beq_iff_eq.mpr c37
                            have c37b1 : ((wrap64 (Int.tmod (bt a0 1) 128)) != 127) = false := bne_eq_false_iff_eq.mpr c37
                            clear c37
                            by_cases c38 : (a0.size : Int) < 10
                            · rw [if_pos c38] at H
                              have c38b0 : decide ((a0.size : Int) < 10) = true := decide_eq_true c38
                              have c38b1 : decide (a0.size < 10) = true := decide_eq_true (by omega)
                              clear c38
                              simp only [Option.some.injEq, Prod.mk.injEq] at H
                              obtain ⟨rfl, rfl, rfl, rfl⟩ := H
                              have hcz39_0 : wc.cell? ⟨gb167, 0, none⟩ = some (.int .i64 0) := (blk_cell BK167.out 0).trans rfl
                              have hcz39_1 : wc.cell? ⟨gb167, 1, none⟩ = some (.int .i64 0) := (blk_cell BK167.out 1).trans rfl
                              have hcz39_2 : wc.cell? ⟨gb167, 2, none⟩ = some (.int .i64 0) := (blk_cell BK167.out 2).trans rfl
                              have hcz39_3 : wc.cell? ⟨gb167, 3, none⟩ = some (.bool false) := (blk_cell BK167.out 3).trans rfl
                              have hfz39_0 := blk_frozen BK167.out 0
                              have hfz39_1 := blk_frozen BK167.out 1
                              have hfz39_2 := blk_frozen BK167.out 2
                              have hfz39_3 := blk_frozen BK167.out 3
                              go_wp2
                              refine bodyPost_ret (results_cell_row rfl _ _ gb167 54 #[.int .i64 0, .int .i64 0, .int .i64 0, .bool true] (0, 0) _ rfl (by (with_reducible repeat (first | refine blk_drewN ?_ _ | refine blk_drew ?_ | refine blk_alloc ?_ _)); refine blk_put (cs := #[.int .i64 0, .int .i64 0, .int .i64 0, .bool false]) ?_ 3 _ rfl; (with_reducible repeat (first | refine blk_drewN ?_ _ | refine blk_drew ?_ | refine blk_alloc ?_ _)); refine blk_put (cs := #[.int .i64 0, .int .i64 0, .int .i64 0, .bool false]) ?_ 2 _ rfl; (with_reducible repeat (first | refine blk_drewN ?_ _ | refine blk_drew ?_ | refine blk_alloc ?_ _)); refine blk_put (cs := #[.int .i64 0, .int .i64 0, .int .i64 0, .bool false]) ?_ 1 _ rfl; (with_reducible repeat (first | refine blk_drewN ?_ _ | refine blk_drew ?_ | refine blk_alloc ?_ _)); refine blk_put (cs := #[.int .i64 0, .int .i64 0, .int .i64 0, .bool false]) ?_ 0 _ rfl; (with_reducible repeat (first | refine blk_drewN ?_ _ | refine blk_drew ?_ | refine blk_alloc ?_ _)); exact BK167.out) Tryd.underlying54 rfl (by kernel_rfl)) rfl ?_
                              exact ⟨by first | rfl | (simp [errW_none, errW_some] <;> rfl) | (simp [*, errW_none, errW_some] <;> rfl), by repeat (first | (with_reducible first | exact HB.out | apply below_alloc | apply pw_below_drewN | apply below_drew1 | refine below_set ?_ GE167.out) | exact HB.out)⟩
                            · rw [if_neg c38] at H
                              have c38b0 : decide ((a0.size : Int) < 10) = false := decide_eq_false c38
                              have c38b1 : decide (a0.size < 10) = false := decide_eq_false (by omega)
                              clear c38
                              by_cases c40 : 2 ≤ 6
                              · rw [if_pos c40] at H
                                have c40b0 := eq_true c40
                                have c40b1 : decide (2 ≤ 6) = true := decide_eq_true c40
                                clear c40
                                by_cases c41 : 6 ≤ (a0.size : Int)
                                · rw [if_pos c41] at H
                                  have c41b0 := eq_true c41
                                  have c41b1 : decide (6 ≤ (a0.size : Int)) = true := decide_eq_true c41
                                  clear c41
                                  replace H := Option.bind_eq_some_iff.mp H
                                  obtain ⟨t170, A420, H⟩ := H
                                  replace H : (if 6 ≤ 10 then (if 10 ≤ (a0.size : Int) then ((louverref07_Value.f kj21 (a0.extract 6 10)).bind fun t171 => (if t170 = 0 then (if t171 < 65536 then (some (0, 0, 1002, false)) else (if t170 > 2147483647 then (some (0, 0, 1002, false)) else (some (0, 0, 1009, false)))) else (if t170 > 2147483647 then (some (0, 0, 1002, false)) else (some (0, 0, 1009, false))))) else (none)) else (none)) = some (r1, r2, r3, r4) := H
                                  have A42 := Aside0.mk A420
                                  clear A420
                                  by_cases c43 : 6 ≤ 10
                                  · rw [if_pos c43] at H
                                    have c43b0 := eq_true c43
                                    have c43b1 : decide (6 ≤ 10) = true := decide_eq_true c43
                                    clear c43
                                    by_cases c44 : 10 ≤ (a0.size : Int)
                                    · rw [if_pos c44] at H
                                      have c44b0 := eq_true c44
                                      have c44b1 : decide (10 ≤ (a0.size : Int)) = true := decide_eq_true c44
                                      clear c44
                                      replace H := Option.bind_eq_some_iff.mp H
                                      obtain ⟨t171, A450, H⟩ := H
                                      replace H : (if t170 = 0 then (if t171 < 65536 then (some (0, 0, 1002, false)) else (if t170 > 2147483647 then (some (0, 0, 1002, false)) else (some (0, 0, 1009, false)))) else (if t170 > 2147483647 then (some (0, 0, 1002, false)) else (some (0, 0, 1009, false)))) = some (r1, r2, r3, r4) := H
                                      have A45 := Aside0.mk A450
                                      clear A450
                                      by_cases c46 : t170 = 0
                                      · rw [if_pos c46] at H
                                        have c46b0 : (t170 == 0) = true := beq_iff_eq.mpr c46
                                        have c46b1 : (t170 != 0) = false := bne_eq_false_iff_eq.mpr c46
                                        clear c46
                                        by_cases c47 : t171 < 65536
                                        · rw [if_pos c47] at H
                                          have c47b0 : decide (t171 < 65536) = true := decide_eq_true c47
                                          clear c47
                                          simp only [Option.some.injEq, Prod.mk.injEq] at H
                                          obtain ⟨rfl, rfl, rfl, rfl⟩ := H
                                          go_wp2_with (first | ((with_reducible refine gate_callee (f := 31) rfl ?_); refine goesL_ (some 79) rfl rfl Tryd.func31 (by kernel_rfl) rfl #[.string (a0.extract 2 6)] rfl (by (try simp only [List.map_toArray, List.map_cons, List.map_nil]); first | done | rfl | (simp only [List.length_drop, List.length_take]; rfl)) ?_; (with_reducible refine (louverref07_Value.calls kj21 (a0.extract 2 6) t170 _ A42.out).mono ?_); rintro e w' ⟨rfl, ⟨nd, rfl⟩⟩; refine ⟨_, rfl, ?_⟩; (try (rw [drewN_self wc]; generalize hq_ : World.drewN wc _ = wc; have n0_ : Aside0 (wc.heap[gb167]? = some (.cells #[.int .i64 0, .int .i64 0, .int .i64 0, .bool false] 54 (0, 0))) := ⟨by rw [← hq_]; exact (by (with_reducible repeat (first | refine blk_drewN ?_ _ | refine blk_drew ?_ | refine blk_alloc ?_ _)); exact BK167.out)⟩; have n1_ : Aside0 (Below w.heap.size w wc) := ⟨by rw [← hq_]; exact (by repeat (first | (with_reducible first | exact HB.out | apply below_alloc | apply pw_below_drewN | apply below_drew1 | refine below_set ?_ GE167.out) | exact HB.out))⟩; clear BK167 HB hq_; have BK167 := n0_; have HB := n1_; clear n0_ n1_))) | ((with_reducible refine gate_callee (f := 31) rfl ?_); refine goesL_ (some 82) rfl rfl Tryd.func31 (by kernel_rfl) rfl #[.string (a0.extract 6 10)] rfl (by (try simp only [List.map_toArray, List.map_cons, List.map_nil]); first | done | rfl | (simp only [List.length_drop, List.length_take]; rfl)) ?_; (with_reducible refine (louverref07_Value.calls kj21 (a0.extract 6 10) t171 _ A45.out).mono ?_); rintro e w' ⟨rfl, ⟨nd, rfl⟩⟩; refine ⟨_, rfl, ?_⟩; (try (rw [drewN_self wc]; generalize hq_ : World.drewN wc _ = wc; have n0_ : Aside0 (wc.heap[gb167]? = some (.cells #[.int .i64 0, .int .i64 0, .int .i64 0, .bool false] 54 (0, 0))) := ⟨by rw [← hq_]; exact (by (with_reducible repeat (first | refine blk_drewN ?_ _ | refine blk_drew ?_ | refine blk_alloc ?_ _)); exact BK167.out)⟩; have n1_ : Aside0 (Below w.heap.size w wc) := ⟨by rw [← hq_]; exact (by repeat (first | (with_reducible first | exact HB.out | apply below_alloc | apply pw_below_drewN | apply below_drew1 | refine below_set ?_ GE167.out) | exact HB.out))⟩; clear BK167 HB hq_; have BK167 := n0_; have HB := n1_; clear n0_ n1_)); have hcz48_0 : wc.cell? ⟨gb167, 0, none⟩ = some (.int .i64 0) := (blk_cell BK167.out 0).trans rfl; have hcz48_1 : wc.cell? ⟨gb167, 1, none⟩ = some (.int .i64 0) := (blk_cell BK167.out 1).trans rfl; have hcz48_2 : wc.cell? ⟨gb167, 2, none⟩ = some (.int .i64 0) := (blk_cell BK167.out 2).trans rfl; have hcz48_3 : wc.cell? ⟨gb167, 3, none⟩ = some (.bool false) := (blk_cell BK167.out 3).trans rfl; have hfz48_0 := blk_frozen BK167.out 0; have hfz48_1 := blk_frozen BK167.out 1; have hfz48_2 := blk_frozen BK167.out 2; have hfz48_3 := blk_frozen BK167.out 3))
                                          refine bodyPost_ret (results_cell_row rfl _ _ gb167 54 #[.int .i64 0, .int .i64 0, .int .i64 1002, .bool false] (0, 0) _ rfl (by (with_reducible repeat (first | refine blk_drewN ?_ _ | refine blk_drew ?_ | refine blk_alloc ?_ _)); refine blk_put (cs := #[.int .i64 0, .int .i64 0, .int .i64 1002, .bool false]) ?_ 3 _ rfl; (with_reducible repeat (first | refine blk_drewN ?_ _ | refine blk_drew ?_ | refine blk_alloc ?_ _)); refine blk_put (cs := #[.int .i64 0, .int .i64 0, .int .i64 0, .bool false]) ?_ 2 _ rfl; (with_reducible repeat (first | refine blk_drewN ?_ _ | refine blk_drew ?_ | refine blk_alloc ?_ _)); refine blk_put (cs := #[.int .i64 0, .int .i64 0, .int .i64 0, .bool false]) ?_ 1 _ rfl; (with_reducible repeat (first | refine blk_drewN ?_ _ | refine blk_drew ?_ | refine blk_alloc ?_ _)); refine blk_put (cs := #[.int .i64 0, .int .i64 0, .int .i64 0, .bool false]) ?_ 0 _ rfl; (with_reducible repeat (first | refine blk_drewN ?_ _ | refine blk_drew ?_ | refine blk_alloc ?_ _)); exact BK167.out) Tryd.underlying54 rfl (by kernel_rfl)) rfl ?_
                                          exact ⟨by first | rfl | (simp [errW_none, errW_some] <;> rfl) | (simp [*, errW_none, errW_some] <;> rfl), by repeat (first | (with_reducible first | exact HB.out | apply below_alloc | apply pw_below_drewN | apply below_drew1 | refine below_set ?_ GE167.out) | exact HB.out)⟩
                                        · rw [if_neg c47] at H
                                          have c47b0 : decide (t171 < 65536) = false := decide_eq_false c47
                                          clear c47
                                          by_cases c49 : t170 > 2147483647
                                          · rw [if_pos c49] at H
                                            have c49b0 : decide (2147483647 < t170) = true := decide_eq_true c49
                                            clear c49
                                            simp only [Option.some.injEq, Prod.mk.injEq] at H
                                            obtain ⟨rfl, rfl, rfl, rfl⟩ := H
                                            go_wp2_with (first | ((with_reducible refine gate_callee (f := 31) rfl ?_); refine goesL_ (some 79) rfl rfl Tryd.func31 (by kernel_rfl) rfl #[.string (a0.extract 2 6)] rfl (by (try simp only [List.map_toArray, List.map_cons, List.map_nil]); first | done | rfl | (simp only [List.length_drop, List.length_take]; rfl)) ?_; (with_reducible refine (louverref07_Value.calls kj21 (a0.extract 2 6) t170 _ A42.out).mono ?_); rintro e w' ⟨rfl, ⟨nd, rfl⟩⟩; refine ⟨_, rfl, ?_⟩; (try (rw [drewN_self wc]; generalize hq_ : World.drewN wc _ = wc; have n0_ : Aside0 (wc.heap[gb167]? = some (.cells #[.int .i64 0, .int .i64 0, .int .i64 0, .bool false] 54 (0, 0))) := ⟨by rw [← hq_]; exact (by (with_reducible repeat (first | refine blk_drewN ?_ _ | refine blk_drew ?_ | refine blk_alloc ?_ _)); exact BK167.out)⟩; have n1_ : Aside0 (Below w.heap.size w wc) := ⟨by rw [← hq_]; exact (by repeat (first | (with_reducible first | exact HB.out | apply below_alloc | apply pw_below_drewN | apply below_drew1 | refine below_set ?_ GE167.out) | exact HB.out))⟩; clear BK167 HB hq_; have BK167 := n0_; have HB := n1_; clear n0_ n1_))) | ((with_reducible refine gate_callee (f := 31) rfl ?_); refine goesL_ (some 82) rfl rfl Tryd.func31 (by kernel_rfl) rfl #[.string (a0.extract 6 10)] rfl (by (try simp only [List.map_toArray, List.map_cons, List.map_nil]); first | done | rfl | (simp only [List.length_drop, List.length_take]; rfl)) ?_; (with_reducible refine (louverref07_Value.calls kj21 (a0.extract 6 10) t171 _ A45.out).mono ?_); rintro e w' ⟨rfl, ⟨nd, rfl⟩⟩; refine ⟨_, rfl, ?_⟩; (try (rw [drewN_self wc]; generalize hq_ : World.drewN wc _ = wc; have n0_ : Aside0 (wc.heap[gb167]? = some (.cells #[.int .i64 0, .int .i64 0, .int .i64 0, .bool false] 54 (0, 0))) := ⟨by rw [← hq_]; exact (by (with_reducible repeat (first | refine blk_drewN ?_ _ | refine blk_drew ?_ | refine blk_alloc ?_ _)); exact BK167.out)⟩; have n1_ : Aside0 (Below w.heap.size w wc) := ⟨by rw [← hq_]; exact (by repeat (first | (with_reducible first | exact HB.out | apply below_alloc | apply pw_below_drewN | apply below_drew1 | refine below_set ?_ GE167.out) | exact HB.out))⟩; clear BK167 HB hq_; have BK167 := n0_; have HB := n1_; clear n0_ n1_)); have hcz50_0 : wc.cell? ⟨gb167, 0, none⟩ = some (.int .i64 0) := (blk_cell BK167.out 0).trans rfl; have hcz50_1 : wc.cell? ⟨gb167, 1, none⟩ = some (.int .i64 0) := (blk_cell BK167.out 1).trans rfl; have hcz50_2 : wc.cell? ⟨gb167, 2, none⟩ = some (.int .i64 0) := (blk_cell BK167.out 2).trans rfl; have hcz50_3 : wc.cell? ⟨gb167, 3, none⟩ = some (.bool false) := (blk_cell BK167.out 3).trans rfl; have hfz50_0 := blk_frozen BK167.out 0; have hfz50_1 := blk_frozen BK167.out 1; have hfz50_2 := blk_frozen BK167.out 2; have hfz50_3 := blk_frozen BK167.out 3))
                                            refine bodyPost_ret (results_cell_row rfl _ _ gb167 54 #[.int .i64 0, .int .i64 0, .int .i64 1002, .bool false] (0, 0) _ rfl (by (with_reducible repeat (first | refine blk_drewN ?_ _ | refine blk_drew ?_ | refine blk_alloc ?_ _)); refine blk_put (cs := #[.int .i64 0, .int .i64 0, .int .i64 1002, .bool false]) ?_ 3 _ rfl; (with_reducible repeat (first | refine blk_drewN ?_ _ | refine blk_drew ?_ | refine blk_alloc ?_ _)); refine blk_put (cs := #[.int .i64 0, .int .i64 0, .int .i64 0, .bool false]) ?_ 2 _ rfl; (with_reducible repeat (first | refine blk_drewN ?_ _ | refine blk_drew ?_ | refine blk_alloc ?_ _)); refine blk_put (cs := #[.int .i64 0, .int .i64 0, .int .i64 0, .bool false]) ?_ 1 _ rfl; (with_reducible repeat (first | refine blk_drewN ?_ _ | refine blk_drew ?_ | refine blk_alloc ?_ _)); refine blk_put (cs := #[.int .i64 0, .int .i64 0, .int .i64 0, .bool false]) ?_ 0 _ rfl; (with_reducible repeat (first | refine blk_drewN ?_ _ | refine blk_drew ?_ | refine blk_alloc ?_ _)); exact BK167.out) Tryd.underlying54 rfl (by kernel_rfl)) rfl ?_
                                            exact ⟨by first | rfl | (simp [errW_none, errW_some] <;> rfl) | (simp [*, errW_none, errW_some] <;> rfl), by repeat (first | (with_reducible first | exact HB.out | apply below_alloc | apply pw_below_drewN | apply below_drew1 | refine below_set ?_ GE167.out) | exact HB.out)⟩
                                          · rw [if_neg c49] at H
                                            have c49b0 : decide (2147483647 < t170) = false := decide_eq_false c49
                                            clear c49
                                            simp only [Option.some.injEq, Prod.mk.injEq] at H
                                            obtain ⟨rfl, rfl, rfl, rfl⟩ := H
                                            go_wp2_with (first | ((with_reducible refine gate_callee (f := 31) rfl ?_); refine goesL_ (some 79) rfl rfl Tryd.func31 (by kernel_rfl) rfl #[.string (a0.extract 2 6)] rfl (by (try simp only [List.map_toArray, List.map_cons, List.map_nil]); first | done | rfl | (simp only [List.length_drop, List.length_take]; rfl)) ?_; (with_reducible refine (louverref07_Value.calls kj21 (a0.extract 2 6) t170 _ A42.out).mono ?_); rintro e w' ⟨rfl, ⟨nd, rfl⟩⟩; refine ⟨_, rfl, ?_⟩; (try (rw [drewN_self wc]; generalize hq_ : World.drewN wc _ = wc; have n0_ : Aside0 (wc.heap[gb167]? = some (.cells #[.int .i64 0, .int .i64 0, .int .i64 0, .bool false] 54 (0, 0))) := ⟨by rw [← hq_]; exact (by (with_reducible repeat (first | refine blk_drewN ?_ _ | refine blk_drew ?_ | refine blk_alloc ?_ _)); exact BK167.out)⟩; have n1_ : Aside0 (Below w.heap.size w wc) := ⟨by rw [← hq_]; exact (by repeat (first | (with_reducible first | exact HB.out | apply below_alloc | apply pw_below_drewN | apply below_drew1 | refine below_set ?_ GE167.out) | exact HB.out))⟩; clear BK167 HB hq_; have BK167 := n0_; have HB := n1_; clear n0_ n1_))) | ((with_reducible refine gate_callee (f := 31) rfl ?_); refine goesL_ (some 82) rfl rfl Tryd.func31 (by kernel_rfl) rfl #[.string (a0.extract 6 10)] rfl (by (try simp only [List.map_toArray, List.map_cons, List.map_nil]); first | done | rfl | (simp only [List.length_drop, List.length_take]; rfl)) ?_; (with_reducible refine (louverref07_Value.calls kj21 (a0.extract 6 10) t171 _ A45.out).mono ?_); rintro e w' ⟨rfl, ⟨nd, rfl⟩⟩; refine ⟨_, rfl, ?_⟩; (try (rw [drewN_self wc]; generalize hq_ : World.drewN wc _ = wc; have n0_ : Aside0 (wc.heap[gb167]? = some (.cells #[.int .i64 0, .int .i64 0, .int .i64 0, .bool false] 54 (0, 0))) := ⟨by rw [← hq_]; exact (by (with_reducible repeat (first | refine blk_drewN ?_ _ | refine blk_drew ?_ | refine blk_alloc ?_ _)); exact BK167.out)⟩; have n1_ : Aside0 (Below w.heap.size w wc) := ⟨by rw [← hq_]; exact (by repeat (first | (with_reducible first | exact HB.out | apply below_alloc | apply pw_below_drewN | apply below_drew1 | refine below_set ?_ GE167.out) | exact HB.out))⟩; clear BK167 HB hq_; have BK167 := n0_; have HB := n1_; clear n0_ n1_)); have hcz51_0 : wc.cell? ⟨gb167, 0, none⟩ = some (.int .i64 0) := (blk_cell BK167.out 0).trans rfl; have hcz51_1 : wc.cell? ⟨gb167, 1, none⟩ = some (.int .i64 0) := (blk_cell BK167.out 1).trans rfl; have hcz51_2 : wc.cell? ⟨gb167, 2, none⟩ = some (.int .i64 0) := (blk_cell BK167.out 2).trans rfl; have hcz51_3 : wc.cell? ⟨gb167, 3, none⟩ = some (.bool false) := (blk_cell BK167.out 3).trans rfl; have hfz51_0 := blk_frozen BK167.out 0; have hfz51_1 := blk_frozen BK167.out 1; have hfz51_2 := blk_frozen BK167.out 2; have hfz51_3 := blk_frozen BK167.out 3))
                                            refine bodyPost_ret (results_cell_row rfl _ _ gb167 54 #[.int .i64 0, .int .i64 0, .int .i64 1009, .bool false] (0, 0) _ rfl (by (with_reducible repeat (first | refine blk_drewN ?_ _ | refine blk_drew ?_ | refine blk_alloc ?_ _)); refine blk_put (cs := #[.int .i64 0, .int .i64 0, .int .i64 1009, .bool false]) ?_ 3 _ rfl; (with_reducible repeat (first | refine blk_drewN ?_ _ | refine blk_drew ?_ | refine blk_alloc ?_ _)); refine blk_put (cs := #[.int .i64 0, .int .i64 0, .int .i64 0, .bool false]) ?_ 2 _ rfl; (with_reducible repeat (first | refine blk_drewN ?_ _ | refine blk_drew ?_ | refine blk_alloc ?_ _)); refine blk_put (cs := #[.int .i64 0, .int .i64 0, .int .i64 0, .bool false]) ?_ 1 _ rfl; (with_reducible repeat (first | refine blk_drewN ?_ _ | refine blk_drew ?_ | refine blk_alloc ?_ _)); refine blk_put (cs := #[.int .i64 0, .int .i64 0, .int .i64 0, .bool false]) ?_ 0 _ rfl; (with_reducible repeat (first | refine blk_drewN ?_ _ | refine blk_drew ?_ | refine blk_alloc ?_ _)); exact BK167.out) Tryd.underlying54 rfl (by kernel_rfl)) rfl ?_
                                            exact ⟨by first | rfl | (simp [errW_none, errW_some] <;> rfl) | (simp [*, errW_none, errW_some] <;> rfl), by repeat (first | (with_reducible first | exact HB.out | apply below_alloc | apply pw_below_drewN | apply below_drew1 | refine below_set ?_ GE167.out) | exact HB.out)⟩
                                      · rw [if_neg c46] at H
                                        have c46b0 : (t170 == 0) = false := beq_eq_false_iff_ne.mpr c46
                                        have c46b1 : (t170 != 0) = true := bne_iff_ne.mpr c46
                                        by_cases c52 : t170 > 2147483647
                                        · rw [if_pos c52] at H
                                          have c52b0 : decide (2147483647 < t170) = true := decide_eq_true c52
                                          clear c52
                                          simp only [Option.some.injEq, Prod.mk.injEq] at H
                                          obtain ⟨rfl, rfl, rfl, rfl⟩ := H
                                          go_wp2_with (first | ((with_reducible refine gate_callee (f := 31) rfl ?_); refine goesL_ (some 79) rfl rfl Tryd.func31 (by kernel_rfl) rfl #[.string (a0.extract 2 6)] rfl (by (try simp only [List.map_toArray, List.map_cons, List.map_nil]); first | done | rfl | (simp only [List.length_drop, List.length_take]; rfl)) ?_; (with_reducible refine (louverref07_Value.calls kj21 (a0.extract 2 6) t170 _ A42.out).mono ?_); rintro e w' ⟨rfl, ⟨nd, rfl⟩⟩; refine ⟨_, rfl, ?_⟩; (try (rw [drewN_self wc]; generalize hq_ : World.drewN wc _ = wc; have n0_ : Aside0 (wc.heap[gb167]? = some (.cells #[.int .i64 0, .int .i64 0, .int .i64 0, .bool false] 54 (0, 0))) := ⟨by rw [← hq_]; exact (by (with_reducible repeat (first | refine blk_drewN ?_ _ | refine blk_drew ?_ | refine blk_alloc ?_ _)); exact BK167.out)⟩; have n1_ : Aside0 (Below w.heap.size w wc) := ⟨by rw [← hq_]; exact (by repeat (first | (with_reducible first | exact HB.out | apply below_alloc | apply pw_below_drewN | apply below_drew1 | refine below_set ?_ GE167.out) | exact HB.out))⟩; clear BK167 HB hq_; have BK167 := n0_; have HB := n1_; clear n0_ n1_))) | ((with_reducible refine gate_callee (f := 31) rfl ?_); refine goesL_ (some 82) rfl rfl Tryd.func31 (by kernel_rfl) rfl #[.string (a0.extract 6 10)] rfl (by (try simp only [List.map_toArray, List.map_cons, List.map_nil]); first | done | rfl | (simp only [List.length_drop, List.length_take]; rfl)) ?_; (with_reducible refine (louverref07_Value.calls kj21 (a0.extract 6 10) t171 _ A45.out).mono ?_); rintro e w' ⟨rfl, ⟨nd, rfl⟩⟩; refine ⟨_, rfl, ?_⟩; (try (rw [drewN_self wc]; generalize hq_ : World.drewN wc _ = wc; have n0_ : Aside0 (wc.heap[gb167]? = some (.cells #[.int .i64 0, .int .i64 0, .int .i64 0, .bool false] 54 (0, 0))) := ⟨by rw [← hq_]; exact (by (with_reducible repeat (first | refine blk_drewN ?_ _ | refine blk_drew ?_ | refine blk_alloc ?_ _)); exact BK167.out)⟩; have n1_ : Aside0 (Below w.heap.size w wc) := ⟨by rw [← hq_]; exact (by repeat (first | (with_reducible first | exact HB.out | apply below_alloc | apply pw_below_drewN | apply below_drew1 | refine below_set ?_ GE167.out) | exact HB.out))⟩; clear BK167 HB hq_; have BK167 := n0_; have HB := n1_; clear n0_ n1_)); have hcz53_0 : wc.cell? ⟨gb167, 0, none⟩ = some (.int .i64 0) := (blk_cell BK167.out 0).trans rfl; have hcz53_1 : wc.cell? ⟨gb167, 1, none⟩ = some (.int .i64 0) := (blk_cell BK167.out 1).trans rfl; have hcz53_2 : wc.cell? ⟨gb167, 2, none⟩ = some (.int .i64 0) := (blk_cell BK167.out 2).trans rfl; have hcz53_3 : wc.cell? ⟨gb167, 3, none⟩ = some (.bool false) := (blk_cell BK167.out 3).trans rfl; have hfz53_0 := blk_frozen BK167.out 0; have hfz53_1 := blk_frozen BK167.out 1; have hfz53_2 := blk_frozen BK167.out 2; have hfz53_3 := blk_frozen BK167.out 3))
                                          refine bodyPost_ret (results_cell_row rfl _ _ gb167 54 #[.int .i64 0, .int .i64 0, .int .i64 1002, .bool false] (0, 0) _ rfl (by (with_reducible repeat (first | refine blk_drewN ?_ _ | refine blk_drew ?_ | refine blk_alloc ?_ _)); refine blk_put (cs := #[.int .i64 0, .int .i64 0, .int .i64 1002, .bool false]) ?_ 3 _ rfl; (with_reducible repeat (first | refine blk_drewN ?_ _ | refine blk_drew ?_ | refine blk_alloc ?_ _)); refine blk_put (cs := #[.int .i64 0, .int .i64 0, .int .i64 0, .bool false]) ?_ 2 _ rfl; (with_reducible repeat (first | refine blk_drewN ?_ _ | refine blk_drew ?_ | refine blk_alloc ?_ _)); refine blk_put (cs := #[.int .i64 0, .int .i64 0, .int .i64 0, .bool false]) ?_ 1 _ rfl; (with_reducible repeat (first | refine blk_drewN ?_ _ | refine blk_drew ?_ | refine blk_alloc ?_ _)); refine blk_put (cs := #[.int .i64 0, .int .i64 0, .int .i64 0, .bool false]) ?_ 0 _ rfl; (with_reducible repeat (first | refine blk_drewN ?_ _ | refine blk_drew ?_ | refine blk_alloc ?_ _)); exact BK167.out) Tryd.underlying54 rfl (by kernel_rfl)) rfl ?_
                                          exact ⟨by first | rfl | (simp [errW_none, errW_some] <;> rfl) | (simp [*, errW_none, errW_some] <;> rfl), by repeat (first | (with_reducible first | exact HB.out | apply below_alloc | apply pw_below_drewN | apply below_drew1 | refine below_set ?_ GE167.out) | exact HB.out)⟩
                                        · rw [if_neg c52] at H
                                          have c52b0 : decide (2147483647 < t170) = false := decide_eq_false c52
                                          clear c52
                                          simp only [Option.some.injEq, Prod.mk.injEq] at H
                                          obtain ⟨rfl, rfl, rfl, rfl⟩ := H
                                          go_wp2_with (first | ((with_reducible refine gate_callee (f := 31) rfl ?_); refine goesL_ (some 79) rfl rfl Tryd.func31 (by kernel_rfl) rfl #[.string (a0.extract 2 6)] rfl (by (try simp only [List.map_toArray, List.map_cons, List.map_nil]); first | done | rfl | (simp only [List.length_drop, List.length_take]; rfl)) ?_; (with_reducible refine (louverref07_Value.calls kj21 (a0.extract 2 6) t170 _ A42.out).mono ?_); rintro e w' ⟨rfl, ⟨nd, rfl⟩⟩; refine ⟨_, rfl, ?_⟩; (try (rw [drewN_self wc]; generalize hq_ : World.drewN wc _ = wc; have n0_ : Aside0 (wc.heap[gb167]? = some (.cells #[.int .i64 0, .int .i64 0, .int .i64 0, .bool false] 54 (0, 0))) := ⟨by rw [← hq_]; exact (by (with_reducible repeat (first | refine blk_drewN ?_ _ | refine blk_drew ?_ | refine blk_alloc ?_ _)); exact BK167.out)⟩; have n1_ : Aside0 (Below w.heap.size w wc) := ⟨by rw [← hq_]; exact (by repeat (first | (with_reducible first | exact HB.out | apply below_alloc | apply pw_below_drewN | apply below_drew1 | refine below_set ?_ GE167.out) | exact HB.out))⟩; clear BK167 HB hq_; have BK167 := n0_; have HB := n1_; clear n0_ n1_))) | ((with_reducible refine gate_callee (f := 31) rfl ?_); refine goesL_ (some 82) rfl rfl Tryd.func31 (by kernel_rfl) rfl #[.string (a0.extract 6 10)] rfl (by (try simp only [List.map_toArray, List.map_cons, List.map_nil]); first | done | rfl | (simp only [List.length_drop, List.length_take]; rfl)) ?_; (with_reducible refine (louverref07_Value.calls kj21 (a0.extract 6 10) t171 _ A45.out).mono ?_); rintro e w' ⟨rfl, ⟨nd, rfl⟩⟩; refine ⟨_, rfl, ?_⟩; (try (rw [drewN_self wc]; generalize hq_ : World.drewN wc _ = wc; have n0_ : Aside0 (wc.heap[gb167]? = some (.cells #[.int .i64 0, .int .i64 0, .int .i64 0, .bool false] 54 (0, 0))) := ⟨by rw [← hq_]; exact (by (with_reducible repeat (first | refine blk_drewN ?_ _ | refine blk_drew ?_ | refine blk_alloc ?_ _)); exact BK167.out)⟩; have n1_ : Aside0 (Below w.heap.size w wc) := ⟨by rw [← hq_]; exact (by repeat (first | (with_reducible first | exact HB.out | apply below_alloc | apply pw_below_drewN | apply below_drew1 | refine below_set ?_ GE167.out) | exact HB.out))⟩; clear BK167 HB hq_; have BK167 := n0_; have HB := n1_; clear n0_ n1_)); have hcz54_0 : wc.cell? ⟨gb167, 0, none⟩ = some (.int .i64 0) := (blk_cell BK167.out 0).trans rfl; have hcz54_1 : wc.cell? ⟨gb167, 1, none⟩ = some (.int .i64 0) := (blk_cell BK167.out 1).trans rfl; have hcz54_2 : wc.cell? ⟨gb167, 2, none⟩ = some (.int .i64 0) := (blk_cell BK167.out 2).trans rfl; have hcz54_3 : wc.cell? ⟨gb167, 3, none⟩ = some (.bool false) := (blk_cell BK167.out 3).trans rfl; have hfz54_0 := blk_frozen BK167.out 0; have hfz54_1 := blk_frozen BK167.out 1; have hfz54_2 := blk_frozen BK167.out 2; have hfz54_3 := blk_frozen BK167.out 3))
                                          refine bodyPost_ret (results_cell_row rfl _ _ gb167 54 #[.int .i64 0, .int .i64 0, .int .i64 1009, .bool false] (0, 0) _ rfl (by (with_reducible repeat (first | refine blk_drewN ?_ _ | refine blk_drew ?_ | refine blk_alloc ?_ _)); refine blk_put (cs := #[.int .i64 0, .int .i64 0, .int .i64 1009, .bool false]) ?_ 3 _ rfl; (with_reducible repeat (first | refine blk_drewN ?_ _ | refine blk_drew ?_ | refine blk_alloc ?_ _)); refine blk_put (cs := #[.int .i64 0, .int .i64 0, .int .i64 0, .bool false]) ?_ 2 _ rfl; (with_reducible repeat (first | refine blk_drewN ?_ _ | refine blk_drew ?_ | refine blk_alloc ?_ _)); refine blk_put (cs := #[.int .i64 0, .int .i64 0, .int .i64 0, .bool false]) ?_ 1 _ rfl; (with_reducible repeat (first | refine blk_drewN ?_ _ | refine blk_drew ?_ | refine blk_alloc ?_ _)); refine blk_put (cs := #[.int .i64 0, .int .i64 0, .int .i64 0, .bool false]) ?_ 0 _ rfl; (with_reducible repeat (first | refine blk_drewN ?_ _ | refine blk_drew ?_ | refine blk_alloc ?_ _)); exact BK167.out) Tryd.underlying54 rfl (by kernel_rfl)) rfl ?_
                                          exact ⟨by first | rfl | (simp [errW_none, errW_some] <;> rfl) | (simp [*, errW_none, errW_some] <;> rfl), by repeat (first | (with_reducible first | exact HB.out | apply below_alloc | apply pw_below_drewN | apply below_drew1 | refine below_set ?_ GE167.out) | exact HB.out)⟩
                                    · rw [if_neg c44] at H
                                      exact absurd H (by simp)
                                  · rw [if_neg c43] at H
                                    exact absurd H (by simp)
                                · rw [if_neg c41] at H
                                  exact absurd H (by simp)
                              · rw [if_neg c40] at H
                                exact absurd H (by simp)
                          · rw [if_neg c37] at H
                            have c37b0 : ((wrap64 (Int.tmod (bt a0 1) 128)) == 127) = false := beq_eq_false_iff_ne.mpr c37
                            have c37b1 : ((wrap64 (Int.tmod (bt a0 1) 128)) != 127) = true := bne_iff_ne.mpr c37
                            have H' := Aside0.mk H
                            clear H
                            go_wp2
                            go_meet
                            case rel => exact ⟨_, ((wrap64 (Int.tmod (bt a0 1) 128))), (2), (0), (0), (0), (false), (by first | rfl | (simp; done) | (simp [*]; done)), (by first | rfl | (simp; done) | (simp [*]; done)), H', ⟨by have := HJ7.out; have := HJ21.out; first | omega | exact Nat.le_refl _⟩, ⟨by (with_reducible repeat (first | refine blk_drewN ?_ _ | refine blk_drew ?_ | refine blk_alloc ?_ _)); exact BK167.out⟩, ⟨by repeat (first | (with_reducible first | exact HB.out | apply below_alloc | apply pw_below_drewN | apply below_drew1 | refine below_set ?_ GE167.out) | exact HB.out)⟩⟩
                      case rest =>
                        clear HC28
                        try clear c1
                        try clear p1
                        try clear q1
                        try clear hx1
                        try clear qi1
                        try clear c2
                        try clear p2
                        try clear q2
                        try clear hx2
                        try clear qi2
                        try clear c3
                        try clear c3b0
                        try clear c3b1
                        try clear c4
                        try clear c5
                        try clear c6
                        try clear c6b0
                        try clear c6b1
                        try clear p6
                        try clear p7
                        try clear q7
                        try clear hx7
                        try clear qi7
                        try clear p10
                        try clear q10
                        try clear hx10
                        try clear qi10
                        try clear c11
                        try clear c11b0
                        try clear c11b1
                        try clear c13
                        try clear c14
                        try clear c14b0
                        try clear p15
                        try clear q15
                        try clear hx15
                        try clear qi15
                        try clear c16
                        try clear c18
                        try clear c18b0
                        try clear c18b1
                        try clear c20
                        try clear c20b0
                        try clear c20b1
                        try clear p21
                        try clear q21
                        try clear hx21
                        try clear qi21
                        try clear p23
                        try clear q23
                        try clear hx23
                        try clear qi23
                        try clear c24
                        try clear c24b0
                        try clear c24b1
                        try clear c24b2
                        try clear c25
                        try clear c25b0
                        try clear c26
                        try clear c29
                        try clear c29b0
                        try clear c29b1
                        try clear c30
                        try clear c30b0
                        try clear c30b1
                        try clear c31
                        try clear c32
                        try clear c32b0
                        try clear c32b1
                        try clear c33
                        try clear c33b0
                        try clear c33b1
                        try clear c35
                        try clear c35b0
                        try clear c37
                        try clear c37b0
                        try clear c37b1
                        try clear c38
                        try clear c38b0
                        try clear c38b1
                        try clear c40
                        try clear c40b0
                        try clear c40b1
                        try clear c41
                        try clear c41b0
                        try clear c41b1
                        try clear c43
                        try clear c43b0
                        try clear c43b1
                        try clear c44
                        try clear c44b0
                        try clear c44b1
                        try clear c46
                        try clear c46b0
                        try clear c46b1
                        try clear c47
                        try clear c47b0
                        try clear c49
                        try clear c49b0
                        try clear c52
                        try clear c52b0
                        try clear hcz17_0
                        try clear hcz17_1
                        try clear hcz17_2
                        try clear hcz17_3
                        try clear hcz19_0
                        try clear hcz19_1
                        try clear hcz19_2
                        try clear hcz19_3
                        try clear hcz27_0
                        try clear hcz27_1
                        try clear hcz27_2
                        try clear hcz27_3
                        try clear hcz31_0
                        try clear hcz31_1
                        try clear hcz31_2
                        try clear hcz31_3
                        try clear hcz36_0
                        try clear hcz36_1
                        try clear hcz36_2
                        try clear hcz36_3
                        try clear hcz39_0
                        try clear hcz39_1
                        try clear hcz39_2
                        try clear hcz39_3
                        try clear hcz48_0
                        try clear hcz48_1
                        try clear hcz48_2
                        try clear hcz48_3
                        try clear hcz50_0
                        try clear hcz50_1
                        try clear hcz50_2
                        try clear hcz50_3
                        try clear hcz51_0
                        try clear hcz51_1
                        try clear hcz51_2
                        try clear hcz51_3
                        try clear hcz53_0
                        try clear hcz53_1
                        try clear hcz53_2
                        try clear hcz53_3
                        try clear hcz54_0
                        try clear hcz54_1
                        try clear hcz54_2
                        try clear hcz54_3
                        try clear hcz5_0
                        try clear hcz5_1
                        try clear hcz5_2
                        try clear hcz5_3
                        try clear hfz17_0
                        try clear hfz17_1
                        try clear hfz17_2
                        try clear hfz17_3
                        try clear hfz19_0
                        try clear hfz19_1
                        try clear hfz19_2
                        try clear hfz19_3
                        try clear hfz27_0
                        try clear hfz27_1
                        try clear hfz27_2
                        try clear hfz27_3
                        try clear hfz31_0
                        try clear hfz31_1
                        try clear hfz31_2
                        try clear hfz31_3
                        try clear hfz36_0
                        try clear hfz36_1
                        try clear hfz36_2
                        try clear hfz36_3
                        try clear hfz39_0
                        try clear hfz39_1
                        try clear hfz39_2
                        try clear hfz39_3
                        try clear hfz48_0
                        try clear hfz48_1
                        try clear hfz48_2
                        try clear hfz48_3
                        try clear hfz50_0
                        try clear hfz50_1
                        try clear hfz50_2
                        try clear hfz50_3
                        try clear hfz51_0
                        try clear hfz51_1
                        try clear hfz51_2
                        try clear hfz51_3
                        try clear hfz53_0
                        try clear hfz53_1
                        try clear hfz53_2
                        try clear hfz53_3
                        try clear hfz54_0
                        try clear hfz54_1
                        try clear hfz54_2
                        try clear hfz54_3
                        try clear hfz5_0
                        try clear hfz5_1
                        try clear hfz5_2
                        try clear hfz5_3
                        try clear p1
                        try clear p10
                        try clear p15
                        try clear p2
                        try clear p21
                        try clear p23
                        try clear p6
                        try clear p7
                        try clear q1
                        try clear q10
                        try clear q15
                        try clear q2
                        try clear q21
                        try clear q23
                        try clear q7
                        obtain ⟨kq, x6_27, x7_27, x168000_27, x168001_27, x168002_27, x168003_27, rfl, rfl, HA, HJ27, BK167, HB⟩ := hcut
                        cases kq with
                        | zero => exact absurd HA.out (by simp [louverref16_Head.j2])
                        | succ kj27 =>
                          have H := HA.out
                          clear HA
                          simp only [louverref16_Head.j2] at H
                          by_cases c55 : x6_27 > 4096
                          · rw [if_pos c55] at H
                            have c55b0 : decide (4096 < x6_27) = true := decide_eq_true c55
                            clear c55
                            simp only [Option.some.injEq, Prod.mk.injEq] at H
                            obtain ⟨rfl, rfl, rfl, rfl⟩ := H
                            have hcz56_0 : wc.cell? ⟨gb167, 0, none⟩ = some (.int .i64 x168000_27) := (blk_cell BK167.out 0).trans rfl
                            have hcz56_1 : wc.cell? ⟨gb167, 1, none⟩ = some (.int .i64 x168001_27) := (blk_cell BK167.out 1).trans rfl
                            have hcz56_2 : wc.cell? ⟨gb167, 2, none⟩ = some (.int .i64 x168002_27) := (blk_cell BK167.out 2).trans rfl
                            have hcz56_3 : wc.cell? ⟨gb167, 3, none⟩ = some (.bool x168003_27) := (blk_cell BK167.out 3).trans rfl
                            have hfz56_0 := blk_frozen BK167.out 0
                            have hfz56_1 := blk_frozen BK167.out 1
                            have hfz56_2 := blk_frozen BK167.out 2
                            have hfz56_3 := blk_frozen BK167.out 3
                            go_wp2
                            refine bodyPost_ret (results_cell_row rfl _ _ gb167 54 #[.int .i64 0, .int .i64 0, .int .i64 1009, .bool false] (0, 0) _ rfl (by (with_reducible repeat (first | refine blk_drewN ?_ _ | refine blk_drew ?_ | refine blk_alloc ?_ _)); refine blk_put (cs := #[.int .i64 0, .int .i64 0, .int .i64 1009, .bool x168003_27]) ?_ 3 _ rfl; (with_reducible repeat (first | refine blk_drewN ?_ _ | refine blk_drew ?_ | refine blk_alloc ?_ _)); refine blk_put (cs := #[.int .i64 0, .int .i64 0, .int .i64 x168002_27, .bool x168003_27]) ?_ 2 _ rfl; (with_reducible repeat (first | refine blk_drewN ?_ _ | refine blk_drew ?_ | refine blk_alloc ?_ _)); refine blk_put (cs := #[.int .i64 0, .int .i64 x168001_27, .int .i64 x168002_27, .bool x168003_27]) ?_ 1 _ rfl; (with_reducible repeat (first | refine blk_drewN ?_ _ | refine blk_drew ?_ | refine blk_alloc ?_ _)); refine blk_put (cs := #[.int .i64 x168000_27, .int .i64 x168001_27, .int .i64 x168002_27, .bool x168003_27]) ?_ 0 _ rfl; (with_reducible repeat (first | refine blk_drewN ?_ _ | refine blk_drew ?_ | refine blk_alloc ?_ _)); exact BK167.out) Tryd.underlying54 rfl (by kernel_rfl)) rfl ?_
                            exact ⟨by first | rfl | (simp [errW_none, errW_some] <;> rfl) | (simp [*, errW_none, errW_some] <;> rfl), by repeat (first | (with_reducible first | exact HB.out | apply below_alloc | apply pw_below_drewN | apply below_drew1 | refine below_set ?_ GE167.out) | exact HB.out)⟩
                          · rw [if_neg c55] at H
                            have c55b0 : decide (4096 < x6_27) = false := decide_eq_false c55
                            clear c55
                            by_cases c57 : a1 = true
                            · subst c57
                              have H1 : (some (wrap64 (x7_27 + 4), x6_27, 0, false)) = some (r1, r2, r3, r4) := by rw [if_pos rfl] at H; exact H
                              clear H
                              have H := H1
                              clear H1
                              simp only [Option.some.injEq, Prod.mk.injEq] at H
                              obtain ⟨rfl, rfl, rfl, rfl⟩ := H
                              have hcz58_0 : wc.cell? ⟨gb167, 0, none⟩ = some (.int .i64 x168000_27) := (blk_cell BK167.out 0).trans rfl
                              have hcz58_1 : wc.cell? ⟨gb167, 1, none⟩ = some (.int .i64 x168001_27) := (blk_cell BK167.out 1).trans rfl
                              have hcz58_2 : wc.cell? ⟨gb167, 2, none⟩ = some (.int .i64 x168002_27) := (blk_cell BK167.out 2).trans rfl
                              have hcz58_3 : wc.cell? ⟨gb167, 3, none⟩ = some (.bool x168003_27) := (blk_cell BK167.out 3).trans rfl
                              have hfz58_0 := blk_frozen BK167.out 0
                              have hfz58_1 := blk_frozen BK167.out 1
                              have hfz58_2 := blk_frozen BK167.out 2
                              have hfz58_3 := blk_frozen BK167.out 3
                              go_wp2
                              refine bodyPost_ret (results_cell_row rfl _ _ gb167 54 #[.int .i64 (wrap64 (x7_27 + 4)), .int .i64 x6_27, .int .i64 0, .bool false] (0, 0) _ rfl (by (with_reducible repeat (first | refine blk_drewN ?_ _ | refine blk_drew ?_ | refine blk_alloc ?_ _)); refine blk_put (cs := #[.int .i64 (wrap64 (x7_27 + 4)), .int .i64 x6_27, .int .i64 0, .bool x168003_27]) ?_ 3 _ rfl; (with_reducible repeat (first | refine blk_drewN ?_ _ | refine blk_drew ?_ | refine blk_alloc ?_ _)); refine blk_put (cs := #[.int .i64 (wrap64 (x7_27 + 4)), .int .i64 x6_27, .int .i64 x168002_27, .bool x168003_27]) ?_ 2 _ rfl; (with_reducible repeat (first | refine blk_drewN ?_ _ | refine blk_drew ?_ | refine blk_alloc ?_ _)); refine blk_put (cs := #[.int .i64 (wrap64 (x7_27 + 4)), .int .i64 x168001_27, .int .i64 x168002_27, .bool x168003_27]) ?_ 1 _ rfl; (with_reducible repeat (first | refine blk_drewN ?_ _ | refine blk_drew ?_ | refine blk_alloc ?_ _)); refine blk_put (cs := #[.int .i64 x168000_27, .int .i64 x168001_27, .int .i64 x168002_27, .bool x168003_27]) ?_ 0 _ rfl; (with_reducible repeat (first | refine blk_drewN ?_ _ | refine blk_drew ?_ | refine blk_alloc ?_ _)); exact BK167.out) Tryd.underlying54 rfl (by kernel_rfl)) rfl ?_
                              exact ⟨by first | rfl | (simp [errW_none, errW_some] <;> rfl) | (simp [*, errW_none, errW_some] <;> rfl), by repeat (first | (with_reducible first | exact HB.out | apply below_alloc | apply pw_below_drewN | apply below_drew1 | refine below_set ?_ GE167.out) | exact HB.out)⟩
                            · replace c57 := Bool.eq_false_iff.mpr c57
                              subst c57
                              have H1 : (some (x7_27, x6_27, 0, false)) = some (r1, r2, r3, r4) := by rw [if_neg (show ¬ (false = true) by decide)] at H; exact H
                              clear H
                              have H := H1
                              clear H1
                              simp only [Option.some.injEq, Prod.mk.injEq] at H
                              obtain ⟨rfl, rfl, rfl, rfl⟩ := H
                              have hcz59_0 : wc.cell? ⟨gb167, 0, none⟩ = some (.int .i64 x168000_27) := (blk_cell BK167.out 0).trans rfl
                              have hcz59_1 : wc.cell? ⟨gb167, 1, none⟩ = some (.int .i64 x168001_27) := (blk_cell BK167.out 1).trans rfl
                              have hcz59_2 : wc.cell? ⟨gb167, 2, none⟩ = some (.int .i64 x168002_27) := (blk_cell BK167.out 2).trans rfl
                              have hcz59_3 : wc.cell? ⟨gb167, 3, none⟩ = some (.bool x168003_27) := (blk_cell BK167.out 3).trans rfl
                              have hfz59_0 := blk_frozen BK167.out 0
                              have hfz59_1 := blk_frozen BK167.out 1
                              have hfz59_2 := blk_frozen BK167.out 2
                              have hfz59_3 := blk_frozen BK167.out 3
                              go_wp2
                              refine bodyPost_ret (results_cell_row rfl _ _ gb167 54 #[.int .i64 x7_27, .int .i64 x6_27, .int .i64 0, .bool false] (0, 0) _ rfl (by (with_reducible repeat (first | refine blk_drewN ?_ _ | refine blk_drew ?_ | refine blk_alloc ?_ _)); refine blk_put (cs := #[.int .i64 x7_27, .int .i64 x6_27, .int .i64 0, .bool x168003_27]) ?_ 3 _ rfl; (with_reducible repeat (first | refine blk_drewN ?_ _ | refine blk_drew ?_ | refine blk_alloc ?_ _)); refine blk_put (cs := #[.int .i64 x7_27, .int .i64 x6_27, .int .i64 x168002_27, .bool x168003_27]) ?_ 2 _ rfl; (with_reducible repeat (first | refine blk_drewN ?_ _ | refine blk_drew ?_ | refine blk_alloc ?_ _)); refine blk_put (cs := #[.int .i64 x7_27, .int .i64 x168001_27, .int .i64 x168002_27, .bool x168003_27]) ?_ 1 _ rfl; (with_reducible repeat (first | refine blk_drewN ?_ _ | refine blk_drew ?_ | refine blk_alloc ?_ _)); refine blk_put (cs := #[.int .i64 x168000_27, .int .i64 x168001_27, .int .i64 x168002_27, .bool x168003_27]) ?_ 0 _ rfl; (with_reducible repeat (first | refine blk_drewN ?_ _ | refine blk_drew ?_ | refine blk_alloc ?_ _)); exact BK167.out) Tryd.underlying54 rfl (by kernel_rfl)) rfl ?_
                              exact ⟨by first | rfl | (simp [errW_none, errW_some] <;> rfl) | (simp [*, errW_none, errW_some] <;> rfl), by repeat (first | (with_reducible first | exact HB.out | apply below_alloc | apply pw_below_drewN | apply below_drew1 | refine below_set ?_ GE167.out) | exact HB.out)⟩
              · rw [if_neg c20] at H
                exact absurd H (by simp)
    · rw [if_neg c6] at H
      exact absurd H (by simp)

end Go.Proofs.YtkhlldhcmgkioaaDoor.PAll

/- A frame's bytes, in plain words: what the program and the document put, and what a head of them tells. -/
namespace Go.Proofs.YtkhlldhcmgkioaaDoor.PAll
open Go.RowKit Go.Proofs.YtkhlldhcmgkioaaDoorW.PrintWords Go.Proofs.YtkhlldhcmgkioaaDoorW.PrintLast Go.Proofs.YtkhlldhcmgkioaaDoorW.PrintMore
set_option linter.unusedVariables false
set_option linter.unusedSimpArgs false
def mayB (fin : Bool) (op : Int) (mask : Bool) (key : Int) (d : List Int) : Bool := knownB op && (mask || decide (key = 0)) && decide ((d.length : Int) ≤ 4096) && (decide (op < 8) || (fin && decide ((d.length : Int) ≤ 125)))
theorem rknown_f (a : Int) : louverref16_known.f a = some (knownB a) := by
  unfold louverref16_known.f knownB
  by_cases h : a < 3
  · rw [if_pos h]; have : a ≤ 2 := by omega
    simp [this]
  · rw [if_neg h]
    have h2 : ¬ a ≤ 2 := by omega
    by_cases h8 : a > 7
    · rw [if_pos h8]; have : 8 ≤ a := by omega
      simp [h2, this]; omega
    · rw [if_neg h8]; have : ¬ 8 ≤ a := by omega
      simp [h2, this]
theorem turn_k (l : List Int) (key : Int) (hm : l.length ≤ 140737488355328) (k : Nat) (hk : l.length + 1 ≤ k) : wsframe_Turn.f k l key = some (turned l key) := by
  have := turn_f l key hm (k - (l.length + 1))
  rwa [show l.length + 1 + (k - (l.length + 1)) = k by omega] at this
theorem refTurn_k (l : List Int) (key : Int) (hl : ∀ x ∈ l, Byte x) (hm : l.length ≤ 140737488355327) (h0 : 0 ≤ key) (h1 : key ≤ 4294967295) (k : Nat) (hk : l.length + 10 ≤ k) : louverref16_Turn.f k (strOfNums l) key = some (strOfNums (turned l key)) := by
  have := refTurn_f l key hl hm h0 h1 (k - (l.length + 10))
  rwa [show l.length + 1 + (k - (l.length + 10) + 9) = k by omega] at this
end Go.Proofs.YtkhlldhcmgkioaaDoor.PAll
/- What a head of a frame's bytes tells, and what is got of them, in plain words. -/
namespace Go.Proofs.YtkhlldhcmgkioaaDoor.PAll
open Go.RowKit Go.Proofs.YtkhlldhcmgkioaaDoorW.PrintWords Go.Proofs.YtkhlldhcmgkioaaDoorW.PrintLast Go.Proofs.YtkhlldhcmgkioaaDoorW.PrintMore
set_option linter.unusedVariables false
set_option linter.unusedSimpArgs false
section
variable {fin : Bool} {op : Int} {mask : Bool} {key : Int} {d : List Int} (h0 : 0 ≤ op) (hd : ∀ x ∈ d, Byte x) (hM : mayB fin op mask key d = true)
include h0 hd hM
end
end Go.Proofs.YtkhlldhcmgkioaaDoor.PAll
/- What the document tells of a head is what the program tells. -/
namespace Go.Proofs.YtkhlldhcmgkioaaDoor.PAll
open Go.RowKit Go.Proofs.YtkhlldhcmgkioaaDoorW.PrintWords Go.Proofs.YtkhlldhcmgkioaaDoorW.PrintLast Go.Proofs.YtkhlldhcmgkioaaDoorW.PrintMore
set_option linter.unusedVariables false
set_option linter.unusedSimpArgs false
/-- The document's answer, out of the program's. -/
def refH (l : List Int) (m : Bool) : Int × Int × Int × Bool :=
  if (headF l m).2.2.2 ≠ 0 then (0, 0, (headF l m).2.2.2, false) else if (headF l m).2.2.1 = true then (0, 0, 0, true) else ((headF l m).1, (headF l m).2.1, 0, false)
theorem bt_rd {l : List Int} (hl : l.all isByte = true) (i : Nat) (hi : i < l.length) : bt (strOfNums l) (i : Int) = rd l (i : Int) := by
  have := all_byte hl (List.getElem_mem hi)
  rw [bt_str l i hi this, rd_nat l i hi]
theorem str_cut (l : List Int) (a b : Nat) : (strOfNums l).extract a b = strOfNums ((l.take b).drop a) := by
  apply ByteArray.ext
  rw [ByteArray.data_extract]
  simp [strOfNums, List.map_drop, List.map_take, List.extract_toArray, List.extract_eq_take_drop, List.drop_take]
theorem rd_cut (l : List Int) (a b i : Nat) (h : a + i < b) : rd ((l.take b).drop a) (i : Int) = rd l ((a + i : Nat) : Int) := by
  unfold rd
  rw [Int.toNat_natCast, Int.toNat_natCast, List.getD_eq_getElem?_getD, List.getD_eq_getElem?_getD, List.getElem?_drop, List.getElem?_take_of_lt h]
theorem val_cut (l : List Int) (a b : Nat) : ∀ n, a + n ≤ b → val ((l.take b).drop a) 0 n = val l a n
  | 0, _ => rfl
  | n + 1, h => by
    have e1 : val ((l.take b).drop a) 0 (n + 1) = val ((l.take b).drop a) 0 n * 256 + rd ((l.take b).drop a) ((0 + n : Nat) : Int) := rfl
    have e2 : val l a (n + 1) = val l a n * 256 + rd l ((a + n : Nat) : Int) := rfl
    rw [e1, e2, val_cut l a b n (by omega), Nat.zero_add, rd_cut l a b n (by omega)]
theorem value_loop {x : List Int} (hx : x.all isByte = true) (h4 : x.length ≤ 4) : ∀ (m i k : Nat), i + m = x.length → m + 1 ≤ k → louverref07_Value.l0 k (strOfNums x) (val x 0 i) (i : Int) = some (val x 0 x.length)
  | 0, i, k, hi, hk => by
    obtain ⟨k, rfl⟩ : ∃ c, k = c + 1 := ⟨k - 1, by omega⟩
    obtain rfl : i = x.length := by omega
    unfold louverref07_Value.l0
    rw [if_neg (by rw [str_size]; omega)]
  | m + 1, i, k, hi, hk => by
    obtain ⟨k, rfl⟩ : ∃ c, k = c + 1 := ⟨k - 1, by omega⟩
    have hb := val_bounds hx 0 i
    have hr := rd_byte hx (i : Int)
    have h256 : (256 : Int) ^ i ≤ 16777216 := by
      have : i = 0 ∨ i = 1 ∨ i = 2 ∨ i = 3 := by omega
      rcases this with h | h | h | h <;> rw [h] <;> decide
    have e : val x 0 (i + 1) = val x 0 i * 256 + rd x ((0 + i : Nat) : Int) := rfl
    rw [Nat.zero_add] at e
    have hw : wrap64 ((i : Int) + 1) = ((i + 1 : Nat) : Int) := by unfold wrap64; omega
    unfold louverref07_Value.l0
    rw [if_pos (by rw [str_size]; omega), if_pos (by omega), bt_rd hx i (by omega), hw, show (256 * val x 0 i % 4294967296 + rd x (i : Int) % 4294967296) % 4294967296 = val x 0 (i + 1) by rw [e]; omega]
    exact value_loop hx h4 m (i + 1) k (by omega) (by omega)
theorem value_f {x : List Int} (hx : x.all isByte = true) (h4 : x.length ≤ 4) (k : Nat) (hk : 5 ≤ k) : louverref07_Value.f k (strOfNums x) = some (val x 0 x.length) := by
  unfold louverref07_Value.f
  exact value_loop hx h4 x.length 0 k (by omega) (by omega)
theorem all_cut {l : List Int} (hl : l.all isByte = true) (a b : Nat) : ((l.take b).drop a).all isByte = true := by
  rw [List.all_eq_true] at hl ⊢
  intro x hx
  exact hl x (List.mem_of_mem_take (List.mem_of_mem_drop hx))
theorem value_cut {l : List Int} (hl : l.all isByte = true) (a b : Nat) (hab : a ≤ b) (hb : b ≤ l.length) (h4 : b - a ≤ 4) (k : Nat) (hk : 5 ≤ k) : louverref07_Value.f k ((strOfNums l).extract a b) = some (val l a (b - a)) := by
  have hlen : ((l.take b).drop a).length = b - a := by simp; omega
  rw [str_cut, value_f (all_cut hl a b) (by omega) k hk, hlen, val_cut l a b (b - a) (by omega)]
theorem val_split (l : List Int) (i : Nat) : val l i 8 = val l i 4 * 4294967296 + val l (i + 4) 4 := by
  have e : val l i 8 = (((val l i 4 * 256 + rd l ((i + 4 : Nat) : Int)) * 256 + rd l ((i + 5 : Nat) : Int)) * 256 + rd l ((i + 6 : Nat) : Int)) * 256 + rd l ((i + 7 : Nat) : Int) := rfl
  have f : val l (i + 4) 4 = (((0 * 256 + rd l ((i + 4 : Nat) : Int)) * 256 + rd l ((i + 4 + 1 : Nat) : Int)) * 256 + rd l ((i + 4 + 2 : Nat) : Int)) * 256 + rd l ((i + 4 + 3 : Nat) : Int) := rfl
  rw [show i + 4 + 1 = i + 5 by omega, show i + 4 + 2 = i + 6 by omega, show i + 4 + 3 = i + 7 by omega] at f
  omega
theorem str_nil (l : List Int) : ((strOfNums l).toList = []) ↔ l.length = 0 := by
  constructor
  · intro h
    have h2 := congrArg List.length h
    rw [ByteArray.toList_eq, Array.length_toList] at h2
    have h3 := str_size l
    unfold ByteArray.size at h3
    simp at h2
    rw [h2] at h3
    simpa using h3.symm
  · intro h
    rw [List.eq_nil_of_length_eq_zero h]
    rw [ByteArray.toList_eq]
    rfl
/-- The document's head. -/
theorem refHead_f {l : List Int} (hl : l.all isByte = true) (m : Bool) (k : Nat) (hk : 20 ≤ k) : louverref16_Head.f k (strOfNums l) m = some (refH l m) := by
  obtain ⟨k, rfl⟩ : ∃ c, k = c + 3 := ⟨k - 3, by omega⟩
  have b0 := rd_byte hl 0
  have b1 := rd_byte hl 1
  have lb := lenF_bounds hl
  unfold refH
  by_cases h0 : l.length = 0
  · unfold louverref16_Head.f headF
    rw [if_pos ((str_nil l).2 h0), if_pos h0]
    rfl
  · have hsz := str_size l
    have e0 : bt (strOfNums l) 0 = rd l 0 := bt_rd hl 0 (by omega)
    unfold louverref16_Head.f
    have ht : Int.tdiv (rd l 0) 16 % 256 % 8 = rd l 0 / 16 % 8 := by rw [Int.tdiv_eq_ediv_of_nonneg b0.1]; omega
    have hm16 : Int.tmod (rd l 0) 16 = rd l 0 % 16 := Int.tmod_eq_emod_of_nonneg b0.1
    rw [if_neg (fun h => h0 ((str_nil l).1 h)), if_pos (by omega), e0, ht, hm16]
    have j0t : ∀ x : Int, louverref16_Head.j0 (k + 3) (strOfNums l) m x true = some (0, 0, 1002, false) := fun x => by
      rw [louverref16_Head.j0, if_pos rfl]
    have hH : headF l m = headF l m := rfl
    conv at hH => rhs; unfold headF
    rw [if_neg h0] at hH
    by_cases hF : rd l 0 / 16 % 8 ≠ 0 ∨ knownB (rd l 0 % 16) = false ∨ (8 ≤ rd l 0 % 16 ∧ rd l 0 < 128)
    · rw [if_pos hF] at hH
      rw [hH]
      show _ = some (0, 0, 1002, false)
      by_cases ha : rd l 0 / 16 % 8 = 0
      · rw [if_pos ha, rknown_f, Option.bind_some]
        rcases hF with h | h | h
        · exact absurd ha h
        · rw [h, if_neg (by decide), j0t]
        · cases hkb : knownB (rd l 0 % 16)
          · rw [if_neg (by decide), j0t]
          · rw [if_pos rfl, if_pos (by omega), decide_eq_true h.2, j0t]
      · rw [if_neg ha, j0t]
    · rw [if_neg hF] at hH
      have ha : rd l 0 / 16 % 8 = 0 := by
        by_cases h : rd l 0 / 16 % 8 = 0
        · exact h
        · exact absurd (.inl h) hF
      have hkb : knownB (rd l 0 % 16) = true := by
        cases h : knownB (rd l 0 % 16)
        · exact absurd (.inr (.inl h)) hF
        · rfl
      have hcf : ¬ (8 ≤ rd l 0 % 16 ∧ rd l 0 < 128) := fun h => hF (.inr (.inr h))
      have hj0 : (if rd l 0 % 16 > 7 then louverref16_Head.j0 (k + 3) (strOfNums l) m (rd l 0 % 16) (decide (rd l 0 < 128)) else louverref16_Head.j0 (k + 3) (strOfNums l) m (rd l 0 % 16) false) = louverref16_Head.j0 (k + 3) (strOfNums l) m (rd l 0 % 16) false := by
        by_cases h8 : rd l 0 % 16 > 7
        · rw [if_pos h8, decide_eq_false (by omega)]
        · rw [if_neg h8]
      rw [if_pos ha, rknown_f, Option.bind_some, hkb, if_pos rfl, hj0, louverref16_Head.j0, if_neg (by decide)]
      by_cases h1 : l.length = 1
      · rw [if_pos h1] at hH
        rw [hH, if_pos (by omega)]
        rfl
      · rw [if_neg h1] at hH
        have e1 : bt (strOfNums l) 1 = rd l 1 := bt_rd hl 1 (by omega)
        have hm128 : wrap64 (Int.tmod (rd l 1) 128) = rd l 1 % 128 := by rw [Int.tmod_eq_emod_of_nonneg b1.1]; unfold wrap64; omega
        have hdec : decide (rd l 1 > 127) = decide (128 ≤ rd l 1) := decide_eq_decide.mpr (by omega)
        have j1t : ∀ x : Int, louverref16_Head.j1 (k + 2) (strOfNums l) m x true = some (0, 0, 1002, false) := fun x => by
          rw [louverref16_Head.j1, if_pos rfl]
        rw [if_neg (by omega), if_pos (by omega), e1, hm128, hdec]
        by_cases hS : decide (128 ≤ rd l 1) ≠ m ∨ (8 ≤ rd l 0 % 16 ∧ 126 ≤ rd l 1 % 128)
        · rw [if_pos hS] at hH
          rw [hH]
          show _ = some (0, 0, 1002, false)
          by_cases hm : decide (128 ≤ rd l 1) = m
          · have h8 : 8 ≤ rd l 0 % 16 ∧ 126 ≤ rd l 1 % 128 := hS.resolve_left (fun h => h hm)
            rw [if_neg (by rw [hm]; simp), if_pos (by omega), decide_eq_true (by omega), j1t]
          · rw [if_pos (bne_iff_ne.mpr hm), j1t]
        · rw [if_neg hS] at hH
          have hm : decide (128 ≤ rd l 1) = m := by
            by_cases h : decide (128 ≤ rd l 1) = m
            · exact h
            · exact absurd (.inl h) hS
          have hlong : ¬ (8 ≤ rd l 0 % 16 ∧ 126 ≤ rd l 1 % 128) := fun h => hS (.inr h)
          have hj1 : (if rd l 0 % 16 > 7 then louverref16_Head.j1 (k + 2) (strOfNums l) m (rd l 1 % 128) (decide (rd l 1 % 128 > 125)) else louverref16_Head.j1 (k + 2) (strOfNums l) m (rd l 1 % 128) false) = louverref16_Head.j1 (k + 2) (strOfNums l) m (rd l 1 % 128) false := by
            by_cases h8 : rd l 0 % 16 > 7
            · rw [if_pos h8, decide_eq_false (by omega)]
            · rw [if_neg h8]
          rw [if_neg (by rw [hm]; simp), hj1]
          have j2 : ∀ n f : Int, 0 ≤ f → f ≤ 100 → louverref16_Head.j2 (k + 1) m n f = some (if 4096 < n then (0, 0, 1009, false) else (f + (if m = true then 4 else 0), n, 0, false)) := by
            intro n f f0 f1
            rw [louverref16_Head.j2]
            by_cases hn : n > 4096
            · rw [if_pos hn, if_pos hn]
            · rw [if_neg hn, if_neg hn]
              cases m
              · rw [if_neg (by decide), if_neg (by decide), Int.add_zero]
              · rw [if_pos rfl, if_pos rfl, show wrap64 (f + 4) = f + 4 by unfold wrap64; omega]
          rw [louverref16_Head.j1, if_neg (by decide)]
          unfold lenF at hH
          by_cases h6 : rd l 1 % 128 = 126
          · rw [if_pos h6]
            simp only [if_pos h6] at hH
            by_cases h4 : l.length < 4
            · simp only [if_pos h4] at hH
              rw [if_pos (by omega), hH]
              rfl
            · simp only [if_neg h4] at hH
              have hv := val_bounds hl 2 2
              rw [show (256 : Int) ^ 2 = 65536 from rfl] at hv
              rw [if_neg (by omega), if_pos (by omega), if_pos (by omega), value_cut hl 2 4 (by omega) (by omega) (by omega) _ (by omega), Option.bind_some, show (4 : Nat) - 2 = 2 from rfl, show wrap64 (val l 2 2) = val l 2 2 by unfold wrap64; omega]
              by_cases hn : val l 2 2 < 126
              · simp only [if_pos hn] at hH
                rw [if_pos hn, hH]
                rfl
              · simp only [if_neg hn] at hH
                rw [if_neg hn, j2 _ _ (by omega) (by omega), hH]
                by_cases hg : 4096 < val l 2 2
                · rw [if_pos hg]; simp [hg]
                · rw [if_neg hg]; simp [hg]
          · rw [if_neg h6]
            simp only [if_neg h6] at hH
            by_cases h7 : rd l 1 % 128 = 127
            · rw [if_pos h7]
              simp only [if_pos h7] at hH
              by_cases h10 : l.length < 10
              · simp only [if_pos h10] at hH
                rw [if_pos (by omega), hH]
                rfl
              · simp only [if_neg h10] at hH
                have hv := val_bounds hl 2 4
                have hw := val_bounds hl 6 4
                rw [show (256 : Int) ^ 4 = 4294967296 from rfl] at hv hw
                have hsp := val_split l 2
                rw [show (2 : Nat) + 4 = 6 from rfl] at hsp
                rw [if_neg (by omega), if_pos (by omega), if_pos (by omega), value_cut hl 2 6 (by omega) (by omega) (by omega) _ (by omega), Option.bind_some, if_pos (by omega), if_pos (by omega), value_cut hl 6 10 (by omega) (by omega) (by omega) _ (by omega), Option.bind_some, show (6 : Nat) - 2 = 4 from rfl]
                by_cases hbad : val l 2 8 < 65536 ∨ 9223372036854775808 ≤ val l 2 8
                · simp only [if_pos hbad] at hH
                  rw [hH]
                  by_cases hz : val l 2 4 = 0
                  · rw [if_pos hz]
                    by_cases hlow : val l 6 4 < 65536
                    · rw [if_pos hlow]; rfl
                    · omega
                  · rw [if_neg hz, if_pos (by omega)]; rfl
                · simp only [if_neg hbad] at hH
                  have hg : 4096 < val l 2 8 := by omega
                  rw [hH]
                  by_cases hz : val l 2 4 = 0
                  · rw [if_pos hz, if_neg (by omega), if_neg (by omega)]; simp [hg]
                  · rw [if_neg hz, if_neg (by omega)]; simp [hg]
            · rw [if_neg h7, j2 _ _ (by omega) (by omega)]
              simp only [if_neg h7] at hH
              rw [hH]
              have hg : ¬ 4096 < rd l 1 % 128 := by omega
              rw [if_neg hg]; simp [hg]
end Go.Proofs.YtkhlldhcmgkioaaDoor.PAll

/- The splitter's Feed and Next in plain words; a splitter with the frames that it told. -/
namespace Go.Proofs.YtkhlldhcmgkioaaDoor
open Go.RowKit Go.Proofs.YtkhlldhcmgkioaaDoorW.PrintWords Go.Proofs.YtkhlldhcmgkioaaDoorW.PrintLast Go.Proofs.YtkhlldhcmgkioaaDoorW.PrintMore Go.Proofs.YtkhlldhcmgkioaaDoor.PAll
set_option linter.unusedVariables false
theorem head_f {l : List Int} (hl : l.all isByte = true) (m : Bool) : wsframe_Head.f l m = some (HeadF l m) := by
  unfold wsframe_Head.f
  rw [if_pos hl]
theorem Next_none {wb w : World} {g : Nat} {v : Value} {m : Bool} {l : List Int} (h : Sp wb w g v m false l) (hg : Cond w) (hl : l.all isByte = true) (hc : code1 l m = 0) (hf : ¬ IsFr l m) :
    Calls Tryd.prog 12 #[.pointer (some ⟨g, 0, none⟩)] w fun e w' => e = .returned (.tuple #[.agg #[.bool false, .int .u8 0, .bool false, .int .u32 0, .slice none 0 0], .agg #[.int .u8 0, .int .u32 0], .bool false]) ∧ Below w.heap.size w w' := by
  have hh := head_f hl m
  rcases HeadF_not hl hc hf with e | ⟨r1, e, h1⟩
  · rw [e] at hh
    exact split_next_none wb w g v m l 0 0 0 false h hg hh rfl
  · rw [e] at hh
    exact split_next_more wb w g v m l r1 0 0 true h hg hh rfl rfl rfl (decide_eq_true h1)
theorem Next_frame {wb w : World} {g : Nat} {v : Value} {m : Bool} {l : List Int} (h : Sp wb w g v m false l) (hB : Below wb.heap.size wb w) (hgb : wb.heap.size ≤ g) (hg : Cond w) (hl : l.all isByte = true) (hf : IsFr l m) (hn : l.length ≤ 100000) {p : Pc} (hp : p = pieceOf (l.take (size1 l m)) m) :
    Calls Tryd.prog 12 #[.pointer (some ⟨g, 0, none⟩)] w (NextPost wb g m (l.drop (size1 l m)) p.f0 p.f1 p.f2 p.f3 p.f4 w) := by
  subst hp
  have hh := head_f hl m
  rw [HeadF_fr hl hf] at hh
  have hr := hf.room
  have hbt := take_byte hl (size1 l m)
  have hlt : (l.take (size1 l m)).length ≤ 100000 := by rw [List.length_take]; omega
  have hraw : (rawOf (l.take (size1 l m)) m).length ≤ 100000 := by unfold rawOf; rw [List.length_drop]; omega
  refine split_next_frame wb w g v m l (l.take (size1 l m)) (l.drop (size1 l m)) 200000 (size1 l m : Nat) _ _ _ _ _ 0 0 h hB hgb hg hh (by omega) (by omega) (by simp) (by simp) ?_ (by unfold bytes_Clone.f; rw [if_pos (by rw [List.length_drop]; omega)])
  unfold wsframe_Get.f pieceOf dataOf
  rw [if_pos hbt, if_pos (hf.bad hl)]
  cases m with
  | false => rw [if_neg (by decide), if_neg (by decide), Option.bind_some, if_pos (by omega)]
  | true => rw [if_pos rfl, if_pos rfl, turn_k _ _ (by omega) _ (by omega), Option.bind_some, if_pos (by omega)]
theorem Next_bad {wb w : World} {g : Nat} {v : Value} {m : Bool} {l : List Int} (h : Sp wb w g v m false l) (hB : Below wb.heap.size wb w) (hgb : wb.heap.size ≤ g) (hg : Cond w) (hl : l.all isByte = true) (hc : code1 l m ≠ 0) :
    Calls Tryd.prog 12 #[.pointer (some ⟨g, 0, none⟩)] w (NextBad wb g m (code1 l m) w) := by
  have hh := head_f hl m
  rw [HeadF_bad hc] at hh
  exact split_next_bad wb w g v m l 0 (code1 l m) h hB hgb hg hh
theorem Feed_any {wb w : World} {g : Nat} {v : Value} {m : Bool} {l xs : List Int} {A : Option Addr} {c k : Nat} (h : Sp wb w g v m false l) (hB : Below wb.heap.size wb w) (hgb : wb.heap.size ≤ g) (hC : Kd.C (Kd.int .u8) w A xs.length xs) (hc : xs.length ≤ c) (hl : l.length ≤ 4110) (hk : k = min xs.length (4110 - l.length)) :
    Calls Tryd.prog 11 #[.pointer (some ⟨g, 0, none⟩), .slice A xs.length c] w (FeedPost wb g v m (l ++ xs.take k) k w) := by
  by_cases hfit : l.length + xs.length ≤ 4110
  · rw [show k = xs.length by omega, List.take_length]
    exact split_feed_fit wb w g v m l xs A c h hB hgb hC hc hfit
  · have e : (xs.take k).length = k := by rw [List.length_take]; omega
    have := split_feed_less wb w g v m l xs (xs.take k) A c h hB hgb hC hc hl (by omega) (by rw [show 4110 - l.length = k by omega])
    rwa [e] at this
/-- A splitter at block g; the frames that it told, in a row of the call's own. -/
structure Wp (w0 W : World) (g : Nat) (m bad : Bool) (l : List Int) (v gv : Value) (got : List Pc) : Prop where
  sp : Sp w0 W g v m bad l
  bel : Below w0.heap.size w0 W
  base : w0.heap.size ≤ g
  got : Kd.R k31 31 W w0.heap.size (fun k => some k ≠ v.ownBlock) gv got
theorem Wp.below {w0 W W' : World} {g : Nat} {m bad : Bool} {l : List Int} {v gv : Value} {got : List Pc} (h : Wp w0 W g m bad l v gv got) (hb : Below W.heap.size W W') : Wp w0 W' g m bad l v gv got := ⟨h.sp.below hb, below_step h.bel hb, h.base, Kd.R_below h.got hb⟩
theorem pc_ne {q : Nat} (hq : q ∈ 31 :: (k31).E) : q ≠ 47 := by
  simp [k31, Kd.iso, Kd.pair, Kd.int, Kd.bool, Kd.scalar, Kd.slice] at hq
  omega
theorem Wp.got2 {w0 W : World} {g : Nat} {m bad : Bool} {l : List Int} {v gv : Value} {got : List Pc} (h : Wp w0 W g m bad l v gv got) : Kd.R k31 31 W w0.heap.size (fun k => (some k ≠ v.ownBlock ∧ k ≠ g) ∧ k < W.heap.size) gv got :=
  Kd.R_mono (Kd.R_bound (Kd.R_types h.got h.sp.blk (fun q hq => pc_ne hq))) (fun k hk => ⟨hk.1, hk.2.2.1⟩)
theorem Wp.feed {w0 W W' : World} {g : Nat} {m : Bool} {l l' : List Int} {v gv : Value} {got : List Pc} {n : Int} {e : Ending} (h : Wp w0 W g m false l v gv got) (hp : FeedPost w0 g v m l' n W e W') : ∃ v', e = .returned (.int .i64 n) ∧ Wp w0 W' g m false l' v' gv got := by
  obtain ⟨v', rfl, hs, hb, hsz, hk, hat⟩ := hp
  refine ⟨v', rfl, hs, hb, h.base, ?_⟩
  refine Kd.R_mono (Kd.R_step h.got2 (fun k hok hlt => hk k hlt hok.1.2 hok.1.1)) (fun k hok => ?_)
  rcases hat with e | ⟨b, e, hle⟩
  · rw [e]; exact hok.1.1
  · rw [e]
    intro hh
    injection hh with hh
    have := hok.2
    omega
theorem Wp.next {w0 W W' : World} {g : Nat} {m : Bool} {l d s5 : List Int} {v gv : Value} {got : List Pc} {s1 s3 : Bool} {s2 s4 : Int} {e : Ending} (h : Wp w0 W g m false l v gv got) (hp : NextPost w0 g m d s1 s2 s3 s4 s5 W e W') :
    ∃ v' pv, e = .returned (.tuple #[.agg #[.bool s1, .int .u8 s2, .bool s3, .int .u32 s4, pv], .agg #[.int .u8 0, .int .u32 0], .bool true]) ∧ Wp w0 W' g m false d v' gv got ∧ Kd.R (Kd.int .u8) 5 W' w0.heap.size (fun k => some k ≠ v'.ownBlock ∧ some k ≠ gv.ownBlock) pv s5 := by
  obtain ⟨v', pv, rfl, hs, hr, hpr, hb, hk, hne⟩ := hp
  have hlow : ∀ k, v'.ownBlock = some k → W.heap.size ≤ k := fun k e => Kd.R_base hr k e
  refine ⟨v', pv, rfl, ⟨hs, hb, h.base, ?_⟩, ?_⟩
  · refine Kd.R_mono (Kd.R_step h.got2 (fun k hok hlt => hk k hlt hok.1.2)) (fun k hok e => ?_)
    have h1 := hlow k e.symm
    have h2 := hok.2
    omega
  · have h1 : w0.heap.size ≤ W.heap.size := h.bel.size
    have hpl : ∀ k, pv.ownBlock = some k → W.heap.size ≤ k := fun k e => Kd.R_base hpr k e
    have hgl : ∀ k, gv.ownBlock = some k → k < W.heap.size := fun k e => Kd.R_lt h.got k e
    refine ⟨fun k e => ⟨fun e2 => hne k e e2.symm, fun e2 => ?_⟩, ?_⟩
    · have := hpl k e
      have := hgl k e2.symm
      omega
    · obtain ⟨_, inner, ho, hrp⟩ := Kd.R_lower hpr h1
      exact ⟨inner, ho, hrp.imp_ (fun p c hq => hq)⟩
theorem Wp.nextbad {w0 W W' : World} {g : Nat} {m : Bool} {l : List Int} {v gv : Value} {got : List Pc} {c : Int} {e : Ending} (h : Wp w0 W g m false l v gv got) (hp : NextBad w0 g m c W e W') :
    e = .returned (.tuple #[.agg #[.bool false, .int .u8 0, .bool false, .int .u32 0, .slice none 0 0], .agg #[.int .u8 3, .int .u32 c], .bool true]) ∧ Wp w0 W' g m true [] (.slice none 0 0) gv got := by
  obtain ⟨rfl, hs, hb, hk⟩ := hp
  exact ⟨rfl, hs, hb, h.base, Kd.R_mono (Kd.R_step h.got2 (fun k hok hlt => hk k hlt hok.1.2)) (fun k hok e => by cases e)⟩
theorem Wp.push {w0 W w1 : World} {g : Nat} {m bad : Bool} {l : List Int} {v gv v1 : Value} {got : List Pc} {p : Pc} (h : Wp w0 W g m bad l v gv got) (hg : W.grownBy w1 gv.ownBlock) (hb : Below w0.heap.size w0 w1) (hR : Kd.R k31 31 w1 w0.heap.size (fun k => some k ≠ v.ownBlock) v1 (got ++ [p])) : Wp w0 w1 g m bad l v v1 (got ++ [p]) :=
  ⟨⟨blk_grown h.sp.blk hg (Kd.R_ne h.got h.sp.blk (by decide)), Kd.R_over h.sp.row h.got (by intro q hq; simp [Kd.int, Kd.scalar] at hq; omega) hg⟩, hb, h.base, hR⟩
theorem Wp.c0 {w0 W : World} {g : Nat} {m bad : Bool} {l : List Int} {v gv : Value} {got : List Pc} (h : Wp w0 W g m bad l v gv got) : W.cell? ⟨g, 0, none⟩ = some v := (blk_cell h.sp.blk 0).trans rfl
theorem Wp.c2 {w0 W : World} {g : Nat} {m bad : Bool} {l : List Int} {v gv : Value} {got : List Pc} (h : Wp w0 W g m bad l v gv got) : W.cell? ⟨g, 2, none⟩ = some (.bool bad) := (blk_cell h.sp.blk 2).trans rfl
end Go.Proofs.YtkhlldhcmgkioaaDoor

