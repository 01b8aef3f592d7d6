/- What the law's row rests on, part 6. -/
import Derived.Test.YtbjjobifpmjhhaaDoorZ5
import Derived.Deep.RegionHeld3
-- Written by a program of this session (wip/patchprint.py, wip/myprint.sh tell how).
namespace Go.Proofs.YtbjjobifpmjhhaaDoor.PAll
open Go.RowKit Go.Proofs.YtbjjobifpmjhhaaDoorW.PrintWords Go.Proofs.YtbjjobifpmjhhaaDoorW.PrintLast Go.Proofs.YtbjjobifpmjhhaaDoorW.PrintMore
attribute [local go_sem] max2_int min2_int max_two min_two max_three min_three max_four min_four   -- for this text's walks alone
set_option linter.unusedVariables false
set_option linter.unusedSimpArgs false

def utf_Checker_Feed.l0 : Nat → List Int → List Int → Int → Int → Int → Int → Int → Bool → Option (Int × Int × Int × Int × Bool)
  | 0, _, _, _, _, _, _, _, _ => none
  | k + 1, x1, x9, x10, x11, x1000, x1001, x1002, x1003 => if x11 < x10 then (if 0 ≤ x11 then (if x11 < (x9.length : Int) then ((utf_Checker_one.f k x1000 x1001 x1002 x1003 (rd x9 x11)).bind fun bt113 => (if bt113.1 = true then (utf_Checker_Feed.l0 k x1 x9 x10 (wrap64 (x11 + 1)) bt113.2.1 bt113.2.2.1 bt113.2.2.2.1 bt113.2.2.2.2) else (some (x11, bt113.2.1, bt113.2.2.1, bt113.2.2.2.1, true)))) else (none)) else (none)) else (some ((x1.length : Int), x1000, x1001, x1002, x1003))
def utf_Checker_Feed.f (k : Nat) (s0_0 : Int) (s0_1 : Int) (s0_2 : Int) (s0_3 : Bool) (l1 : List Int) : Option (Int × Int × Int × Int × Bool) := (utf_Checker_Bad.f s0_0 s0_1 s0_2 s0_3).bind fun bt107 => (if bt107.1 = true then (some (0, bt107.2.1, bt107.2.2.1, bt107.2.2.2.1, bt107.2.2.2.2)) else (utf_Checker_Feed.l0 k l1 l1 (l1.length : Int) 0 bt107.2.1 bt107.2.2.1 bt107.2.2.2.1 bt107.2.2.2.2))
set_option maxRecDepth 100000 in
theorem utf_Checker_Feed.mono_l : ∀ k, (∀ y0 y1 y2 y3 y4 y5 y6 y7, LeO (utf_Checker_Feed.l0 k y0 y1 y2 y3 y4 y5 y6 y7) (utf_Checker_Feed.l0 (k + 1) y0 y1 y2 y3 y4 y5 y6 y7))
  | 0 => fun _ _ _ _ _ _ _ _ r h => by (unfold utf_Checker_Feed.l0 at h; cases h)
  | k + 1 => by
    have ih0 := utf_Checker_Feed.mono_l k
    · intro y0 y1 y2 y3 y4 y5 y6 y7
      unfold utf_Checker_Feed.l0
      repeat' first
      | (with_reducible exact ih0 _ _ _ _ _ _ _ _)
      | (with_reducible exact utf_Checker_one.mono _ _ _ _ _ _)
      | (with_reducible exact LeO.refl _)
      | (with_reducible exact LeO.none _)
      | (with_reducible refine LeO.ite ?_ ?_)
      | (with_reducible refine LeO.bind ?_ (fun _ => ?_))
      | exact ih0 _ _ _ _ _ _ _ _
      | exact utf_Checker_one.mono _ _ _ _ _ _
      | exact LeO.none _
      | refine LeO.ite ?_ ?_
      | refine LeO.bind ?_ (fun _ => ?_)
set_option maxRecDepth 100000 in
theorem utf_Checker_Feed.mono : ∀ a0 a1 a2 a3 a4 k, LeO (utf_Checker_Feed.f k a0 a1 a2 a3 a4) (utf_Checker_Feed.f (k + 1) a0 a1 a2 a3 a4) := by
  intro a0 a1 a2 a3 a4 k
  have ih0 := utf_Checker_Feed.mono_l k
  unfold utf_Checker_Feed.f
  repeat' first
      | (with_reducible exact ih0 _ _ _ _ _ _ _ _)
      | (with_reducible exact utf_Checker_one.mono _ _ _ _ _ _)
      | (with_reducible exact LeO.refl _)
      | (with_reducible exact LeO.none _)
      | (with_reducible refine LeO.ite ?_ ?_)
      | (with_reducible refine LeO.bind ?_ (fun _ => ?_))
      | exact ih0 _ _ _ _ _ _ _ _
      | exact utf_Checker_one.mono _ _ _ _ _ _
      | exact LeO.none _
      | refine LeO.ite ?_ ?_
      | refine LeO.bind ?_ (fun _ => ?_)
set_option maxHeartbeats 8000000 in
set_option maxRecDepth 100000 in
theorem utf_Checker_Feed.calls (k : Nat) (g : Nat) (s0_0 : Int) (s0_1 : Int) (s0_2 : Int) (s0_3 : Bool) (A1 : Option Addr) (c1 : Nat) (l1 : List Int) (r1 : Int) (r2 : Int) (r3 : Int) (r4 : Int) (r5 : Bool) (w0 w : World) (hI : IsS107 w0 w g s0_0 s0_1 s0_2 s0_3) (hB : Below w0.heap.size w0 w) (hr1 : Kd.C (Kd.int .u8) w A1 l1.length l1) (hc1 : l1.length ≤ c1) (hf1 : ∀ ad, A1 = some ad → 0 < l1.length → ad.block ≠ g) (h : utf_Checker_Feed.f k s0_0 s0_1 s0_2 s0_3 l1 = some (r1, r2, r3, r4, r5)) :
    Calls Tryd.prog 40 #[.pointer (some ⟨g, 0, none⟩), .slice A1 l1.length c1] w fun e w' => e = .returned (.int .i64 r1) ∧ IsS107 w0 w' g r2 r3 r4 r5 ∧ Below w0.heap.size w0 w' ∧ KeepBut w w' g none := by
  have hf66_1 := field66_1
  have HR1 := Aside0.mk hr1
  have HC1 := Aside0.mk hc1
  clear hr1 hc1
  have HI0 := Aside0.mk hI
  have HK := Aside0.mk (KeepBut.refl w g none)
  have HL := Aside0.mk hB.size
  clear hI
  have HW0 := Aside0.mk hB.size
  have HB := Aside0.mk hB
  clear hB
  have H : ((utf_Checker_Bad.f s0_0 s0_1 s0_2 s0_3).bind fun bt107 => (if bt107.1 = true then (some (0, bt107.2.1, bt107.2.2.1, bt107.2.2.2.1, bt107.2.2.2.2)) else (utf_Checker_Feed.l0 k l1 l1 (l1.length : Int) 0 bt107.2.1 bt107.2.2.1 bt107.2.2.2.1 bt107.2.2.2.2))) = some (r1, r2, r3, r4, r5) := h
  clear h
  replace H := Option.bind_eq_some_iff.mp H
  obtain ⟨⟨t107, t108, t109, t110, t111⟩, A30, H⟩ := H
  replace H : (if t107 = true then (some (0, t108, t109, t110, t111)) else (utf_Checker_Feed.l0 k l1 l1 (l1.length : Int) 0 t108 t109 t110 t111)) = some (r1, r2, r3, r4, r5) := H
  have A3 := Aside0.mk A30
  clear A30
  by_cases c4 : t107 = true
  · subst c4
    have H1 : (some (0, t108, t109, t110, t111)) = some (r1, r2, r3, r4, r5) := by rw [if_pos rfl] at H; exact H
    clear H
    have H := H1
    clear H1
    simp only [Option.some.injEq, Prod.mk.injEq] at H
    obtain ⟨rfl, rfl, rfl, rfl, rfl⟩ := H
    go_enter Tryd.func40, Tryd.ntmps40
    go_wp2_with (first | ((with_reducible refine gate_callee (f := 42) rfl ?_); refine goesL_ (some 8) rfl rfl Tryd.func42 (by kernel_rfl) rfl #[.pointer (some ⟨g, 0, none⟩)] rfl (by (try simp only [List.map_toArray, List.map_cons, List.map_nil]); first | done | rfl | (simp only [List.length_drop, List.length_take]; rfl)) ?_; (with_reducible refine (utf_Checker_Bad.calls g s0_0 s0_1 s0_2 s0_3 true t108 t109 t110 t111 w0 _ ?side1 ?side2 A3.out).mono ?_); (case side1 => repeat (first | (with_reducible first | exact HI0.out | apply IsS107.alloc | apply IsS107.drewN | apply IsS107.drew | apply IsS107.set_0 | apply IsS107.set_1 | apply IsS107.set_2 | apply IsS107.set_3) | exact HI0.out)); (case side2 => repeat (first | (with_reducible first | exact HB.out | apply below_alloc | apply pw_below_drewN | apply below_drew1 | refine below_set ?_ (IsS107.ge HI0.out)) | exact HB.out)); rintro e w5 ⟨rfl, hi, hb, hk⟩; refine ⟨_, rfl, ?_⟩; have n0_ := Aside0.mk (KeepBut.trans (by repeat (first | (with_reducible first | exact HK.out | apply KeepBut.set_ | apply keep_drewN | apply keep_drew | apply keep_alloc) | exact HK.out)) hk (.inl rfl)); have n1_ := Aside0.mk (hb); have n2_ := Aside0.mk (hi); clear HK; clear HB; clear HI0; have HK := n0_; have HB := n1_; have HI0 := n2_; clear n0_ n1_ n2_; (try clear hb); (try clear hb2); (try clear hk); (try clear hi)))
    go_ret
    exact ⟨by first | rfl | (simp [errW_none, errW_some] <;> rfl) | (simp [*, errW_none, errW_some] <;> rfl), by first | ((repeat (first | (with_reducible first | exact HI0.out | apply IsS107.alloc | apply IsS107.drewN | apply IsS107.drew | apply IsS107.set_0 | apply IsS107.set_1 | apply IsS107.set_2 | apply IsS107.set_3) | exact HI0.out)); done) | (rw [‹((_ : Int) == _) = _›]; ((repeat (first | (with_reducible first | exact HI0.out | apply IsS107.alloc | apply IsS107.drewN | apply IsS107.drew | apply IsS107.set_0 | apply IsS107.set_1 | apply IsS107.set_2 | apply IsS107.set_3) | exact HI0.out)); done)) | (repeat (first | (with_reducible first | exact HI0.out | apply IsS107.alloc | apply IsS107.drewN | apply IsS107.drew | apply IsS107.set_0 | apply IsS107.set_1 | apply IsS107.set_2 | apply IsS107.set_3) | exact HI0.out)), by repeat (first | (with_reducible first | exact HB.out | apply below_alloc | apply pw_below_drewN | apply below_drew1 | refine below_set ?_ (IsS107.ge HI0.out)) | exact HB.out), by repeat (first | (with_reducible first | exact HK.out | apply KeepBut.set_ | apply keep_drewN | apply keep_drew | apply keep_alloc) | exact HK.out)⟩
  · replace c4 := Bool.eq_false_iff.mpr c4
    subst c4
    have H1 : (utf_Checker_Feed.l0 k l1 l1 (l1.length : Int) 0 t108 t109 t110 t111) = some (r1, r2, r3, r4, r5) := by rw [if_neg (show ¬ (false = true) by decide)] at H; exact H
    clear H
    have H := H1
    clear H1
    have H' := Aside0.mk H
    clear H
    go_enter Tryd.func40, Tryd.ntmps40
    go_wp2_with (first | ((with_reducible refine gate_callee (f := 42) rfl ?_); refine goesL_ (some 8) rfl rfl Tryd.func42 (by kernel_rfl) rfl #[.pointer (some ⟨g, 0, none⟩)] rfl (by (try simp only [List.map_toArray, List.map_cons, List.map_nil]); first | done | rfl | (simp only [List.length_drop, List.length_take]; rfl)) ?_; (with_reducible refine (utf_Checker_Bad.calls g s0_0 s0_1 s0_2 s0_3 false t108 t109 t110 t111 w0 _ ?side1 ?side2 A3.out).mono ?_); (case side1 => repeat (first | (with_reducible first | exact HI0.out | apply IsS107.alloc | apply IsS107.drewN | apply IsS107.drew | apply IsS107.set_0 | apply IsS107.set_1 | apply IsS107.set_2 | apply IsS107.set_3) | exact HI0.out)); (case side2 => repeat (first | (with_reducible first | exact HB.out | apply below_alloc | apply pw_below_drewN | apply below_drew1 | refine below_set ?_ (IsS107.ge HI0.out)) | exact HB.out)); rintro e w6 ⟨rfl, hi, hb, hk⟩; refine ⟨_, rfl, ?_⟩; have n0_ := Aside0.mk (KeepBut.trans (by repeat (first | (with_reducible first | exact HK.out | apply KeepBut.set_ | apply keep_drewN | apply keep_drew | apply keep_alloc) | exact HK.out)) hk (.inl rfl)); have n1_ := Aside0.mk (hb); have n2_ := Aside0.mk (hi); clear HK; clear HB; clear HI0; have HK := n0_; have HB := n1_; have HI0 := n2_; clear n0_ n1_ n2_; (try clear hb); (try clear hb2); (try clear hk); (try clear hi)))
    go_loopg [11] k (fun kq v11 w' => ∃ (x11_1 : Int) (x1000_1 : Int) (x1001_1 : Int) (x1002_1 : Int) (x1003_1 : Bool), v11 = .int .i64 x11_1 ∧ Aside0 (utf_Checker_Feed.l0 kq l1 l1 (l1.length : Int) x11_1 x1000_1 x1001_1 x1002_1 x1003_1 = some (r1, r2, r3, r4, r5)) ∧ Aside0 (kq ≤ k) ∧ Aside0 (IsS107 w0 w' g x1000_1 x1001_1 x1002_1 x1003_1) ∧ Aside0 (KeepBut w w' g none) ∧ Aside0 (Below w0.heap.size w0 w'))
    case atStart => exact ⟨(0), (t108), (t109), (t110), (t111), (by first | rfl | (simp; done) | (simp [*]; done)), H', ⟨Nat.le_refl _⟩, ⟨by repeat (first | (with_reducible first | exact HI0.out | apply IsS107.alloc | apply IsS107.drewN | apply IsS107.drew | apply IsS107.set_0 | apply IsS107.set_1 | apply IsS107.set_2 | apply IsS107.set_3) | exact HI0.out)⟩, ⟨by repeat (first | (with_reducible first | exact HK.out | apply KeepBut.set_ | apply keep_drewN | apply keep_drew | apply keep_alloc) | exact HK.out)⟩, ⟨by repeat (first | (with_reducible first | exact HB.out | apply below_alloc | apply pw_below_drewN | apply below_drew1 | refine below_set ?_ (IsS107.ge HI0.out)) | exact HB.out)⟩⟩
    case round =>
      clear H'
      try clear c1
      try clear p2
      try clear c4
      obtain ⟨x11_1, x1000_1, x1001_1, x1002_1, x1003_1, rfl, HA, HK1, HI0, HK, HB⟩ := hrel
      cases gk with
      | zero => exact absurd HA.out (by simp [utf_Checker_Feed.l0])
      | succ k1 =>
        have H := HA.out
        clear HA
        simp only [utf_Checker_Feed.l0] at H
        by_cases c7 : x11_1 < (l1.length : Int)
        · rw [if_pos c7] at H
          have c7b0 : decide (x11_1 < (l1.length : Int)) = true := decide_eq_true c7
          clear c7
          by_cases c8 : 0 ≤ x11_1
          · rw [if_pos c8] at H
            have c8b0 : decide (0 ≤ x11_1) = true := decide_eq_true c8
            clear c8
            by_cases c9 : x11_1 < (l1.length : Int)
            · rw [if_pos c9] at H
              have c9b0 : decide (x11_1 < (l1.length : Int)) = true := decide_eq_true c9
              clear c9
              replace H := Option.bind_eq_some_iff.mp H
              obtain ⟨⟨t113, t114, t115, t116, t117⟩, A100, H⟩ := H
              replace H : (if t113 = true then (utf_Checker_Feed.l0 k1 l1 l1 (l1.length : Int) (wrap64 (x11_1 + 1)) t114 t115 t116 t117) else (some (x11_1, t114, t115, t116, true))) = some (r1, r2, r3, r4, r5) := H
              have A10 := Aside0.mk A100
              clear A100
              by_cases c11 : t113 = true
              · subst c11
                have H1 : (utf_Checker_Feed.l0 k1 l1 l1 (l1.length : Int) (wrap64 (x11_1 + 1)) t114 t115 t116 t117) = some (r1, r2, r3, r4, r5) := by rw [if_pos rfl] at H; exact H
                clear H
                have H := H1
                clear H1
                have H' := Aside0.mk H
                clear H
                have p112 : 0 ≤ (x11_1 : Int) := of_decide_eq_true (by first | (with_reducible assumption) | assumption)
                have q112 : x11_1 < (l1.length : Int) := of_decide_eq_true (by first | (with_reducible assumption) | assumption)
                obtain ⟨ad112, e112, hx112_0⟩ := Kd.at_int HR1.out x11_1 p112 q112
                cases e112
                replace hx112_0 := keep_cell HK.out hx112_0 (by first | (rw [add_block]; exact hf1 _ rfl (by omega)) | exact hf1 _ rfl (by omega) | exact hf1 ad112 rfl (by omega))
                replace p112 := eq_true p112
                replace q112 := eq_true q112
                go_wp2_with (first | ((with_reducible refine gate_callee (f := 48) rfl ?_); refine goesL_ (some 18) rfl rfl Tryd.func48 (by kernel_rfl) rfl #[.pointer (some ⟨g, 0, none⟩), .int .u8 (rd l1 x11_1)] rfl (by (try simp only [List.map_toArray, List.map_cons, List.map_nil]); first | done | rfl | (simp only [List.length_drop, List.length_take]; rfl)) ?_; (with_reducible refine (utf_Checker_one.calls k1 g x1000_1 x1001_1 x1002_1 x1003_1 (rd l1 x11_1) true t114 t115 t116 t117 w0 _ ?side1 ?side2 A10.out).mono ?_); (case side1 => repeat (first | (with_reducible first | exact HI0.out | apply IsS107.alloc | apply IsS107.drewN | apply IsS107.drew | apply IsS107.set_0 | apply IsS107.set_1 | apply IsS107.set_2 | apply IsS107.set_3) | exact HI0.out)); (case side2 => repeat (first | (with_reducible first | exact HB.out | apply below_alloc | apply pw_below_drewN | apply below_drew1 | refine below_set ?_ (IsS107.ge HI0.out)) | exact HB.out)); rintro e w12 ⟨rfl, hi, hb, hk⟩; refine ⟨_, rfl, ?_⟩; have n0_ := Aside0.mk (KeepBut.trans (by repeat (first | (with_reducible first | exact HK.out | apply KeepBut.set_ | apply keep_drewN | apply keep_drew | apply keep_alloc) | exact HK.out)) hk (.inl rfl)); have n1_ := Aside0.mk (hb); have n2_ := Aside0.mk (hi); clear HK; clear HB; clear HI0; have HK := n0_; have HB := n1_; have HI0 := n2_; clear n0_ n1_ n2_; (try clear hb); (try clear hb2); (try clear hk); (try clear hi)))
                go_roundg k1
                case measure => have := HK1.out; omega
                case rel => exact ⟨(wrap64 (x11_1 + 1)), (t114), (t115), (t116), (t117), (by first | rfl | (simp; done) | (simp [*]; done)), H', ⟨by have := HK1.out; omega⟩, ⟨by repeat (first | (with_reducible first | exact HI0.out | apply IsS107.alloc | apply IsS107.drewN | apply IsS107.drew | apply IsS107.set_0 | apply IsS107.set_1 | apply IsS107.set_2 | apply IsS107.set_3) | exact HI0.out)⟩, ⟨by repeat (first | (with_reducible first | exact HK.out | apply KeepBut.set_ | apply keep_drewN | apply keep_drew | apply keep_alloc) | exact HK.out)⟩, ⟨by repeat (first | (with_reducible first | exact HB.out | apply below_alloc | apply pw_below_drewN | apply below_drew1 | refine below_set ?_ (IsS107.ge HI0.out)) | exact HB.out)⟩⟩
              · replace c11 := Bool.eq_false_iff.mpr c11
                subst c11
                have H1 : (some (x11_1, t114, t115, t116, true)) = some (r1, r2, r3, r4, r5) := by rw [if_neg (show ¬ (false = true) by decide)] at H; exact H
                clear H
                have H := H1
                clear H1
                simp only [Option.some.injEq, Prod.mk.injEq] at H
                obtain ⟨rfl, rfl, rfl, rfl, rfl⟩ := H
                have p112 : 0 ≤ (x11_1 : Int) := of_decide_eq_true (by first | (with_reducible assumption) | assumption)
                have q112 : x11_1 < (l1.length : Int) := of_decide_eq_true (by first | (with_reducible assumption) | assumption)
                obtain ⟨ad112, e112, hx112_0⟩ := Kd.at_int HR1.out x11_1 p112 q112
                cases e112
                replace hx112_0 := keep_cell HK.out hx112_0 (by first | (rw [add_block]; exact hf1 _ rfl (by omega)) | exact hf1 _ rfl (by omega) | exact hf1 ad112 rfl (by omega))
                replace p112 := eq_true p112
                replace q112 := eq_true q112
                go_wp2_with (first | ((with_reducible refine gate_callee (f := 48) rfl ?_); refine goesL_ (some 18) rfl rfl Tryd.func48 (by kernel_rfl) rfl #[.pointer (some ⟨g, 0, none⟩), .int .u8 (rd l1 x11_1)] rfl (by (try simp only [List.map_toArray, List.map_cons, List.map_nil]); first | done | rfl | (simp only [List.length_drop, List.length_take]; rfl)) ?_; (with_reducible refine (utf_Checker_one.calls k1 g x1000_1 x1001_1 x1002_1 x1003_1 (rd l1 x11_1) false t114 t115 t116 t117 w0 _ ?side1 ?side2 A10.out).mono ?_); (case side1 => repeat (first | (with_reducible first | exact HI0.out | apply IsS107.alloc | apply IsS107.drewN | apply IsS107.drew | apply IsS107.set_0 | apply IsS107.set_1 | apply IsS107.set_2 | apply IsS107.set_3) | exact HI0.out)); (case side2 => repeat (first | (with_reducible first | exact HB.out | apply below_alloc | apply pw_below_drewN | apply below_drew1 | refine below_set ?_ (IsS107.ge HI0.out)) | exact HB.out)); rintro e w13 ⟨rfl, hi, hb, hk⟩; refine ⟨_, rfl, ?_⟩; have n0_ := Aside0.mk (KeepBut.trans (by repeat (first | (with_reducible first | exact HK.out | apply KeepBut.set_ | apply keep_drewN | apply keep_drew | apply keep_alloc) | exact HK.out)) hk (.inl rfl)); have n1_ := Aside0.mk (hb); have n2_ := Aside0.mk (hi); clear HK; clear HB; clear HI0; have HK := n0_; have HB := n1_; have HI0 := n2_; clear n0_ n1_ n2_; (try clear hb); (try clear hb2); (try clear hk); (try clear hi); obtain ⟨HGz14, hgz14⟩ := HI0.out; have hcz14_0 := cellS107_0 HGz14; have hcz14_1 := cellS107_1 HGz14; have hcz14_2 := cellS107_2 HGz14; have hcz14_3 := cellS107_3 HGz14; have hfz14_0 := blk_frozen HGz14 0; have hfz14_1 := blk_frozen HGz14 1; have hfz14_2 := blk_frozen HGz14 2; have hfz14_3 := blk_frozen HGz14 3; clear HGz14 hgz14))
                go_ret
                exact ⟨by first | rfl | (simp [errW_none, errW_some] <;> rfl) | (simp [*, errW_none, errW_some] <;> rfl), by first | ((repeat (first | (with_reducible first | exact HI0.out | apply IsS107.alloc | apply IsS107.drewN | apply IsS107.drew | apply IsS107.set_0 | apply IsS107.set_1 | apply IsS107.set_2 | apply IsS107.set_3) | exact HI0.out)); done) | (rw [‹((_ : Int) == _) = _›]; ((repeat (first | (with_reducible first | exact HI0.out | apply IsS107.alloc | apply IsS107.drewN | apply IsS107.drew | apply IsS107.set_0 | apply IsS107.set_1 | apply IsS107.set_2 | apply IsS107.set_3) | exact HI0.out)); done)) | (repeat (first | (with_reducible first | exact HI0.out | apply IsS107.alloc | apply IsS107.drewN | apply IsS107.drew | apply IsS107.set_0 | apply IsS107.set_1 | apply IsS107.set_2 | apply IsS107.set_3) | exact HI0.out)), by repeat (first | (with_reducible first | exact HB.out | apply below_alloc | apply pw_below_drewN | apply below_drew1 | refine below_set ?_ (IsS107.ge HI0.out)) | exact HB.out), by repeat (first | (with_reducible first | exact HK.out | apply KeepBut.set_ | apply keep_drewN | apply keep_drew | apply keep_alloc) | exact HK.out)⟩
            · rw [if_neg c9] at H
              exact absurd H (by simp)
          · rw [if_neg c8] at H
            exact absurd H (by simp)
        · rw [if_neg c7] at H
          have c7b0 : decide (x11_1 < (l1.length : Int)) = false := decide_eq_false c7
          clear c7
          simp only [Option.some.injEq, Prod.mk.injEq] at H
          obtain ⟨rfl, rfl, rfl, rfl, rfl⟩ := H
          go_wp2
          go_ret
          exact ⟨by first | rfl | (simp [errW_none, errW_some] <;> rfl) | (simp [*, errW_none, errW_some] <;> rfl), by first | ((repeat (first | (with_reducible first | exact HI0.out | apply IsS107.alloc | apply IsS107.drewN | apply IsS107.drew | apply IsS107.set_0 | apply IsS107.set_1 | apply IsS107.set_2 | apply IsS107.set_3) | exact HI0.out)); done) | (rw [‹((_ : Int) == _) = _›]; ((repeat (first | (with_reducible first | exact HI0.out | apply IsS107.alloc | apply IsS107.drewN | apply IsS107.drew | apply IsS107.set_0 | apply IsS107.set_1 | apply IsS107.set_2 | apply IsS107.set_3) | exact HI0.out)); done)) | (repeat (first | (with_reducible first | exact HI0.out | apply IsS107.alloc | apply IsS107.drewN | apply IsS107.drew | apply IsS107.set_0 | apply IsS107.set_1 | apply IsS107.set_2 | apply IsS107.set_3) | exact HI0.out)), by repeat (first | (with_reducible first | exact HB.out | apply below_alloc | apply pw_below_drewN | apply below_drew1 | refine below_set ?_ (IsS107.ge HI0.out)) | exact HB.out), by repeat (first | (with_reducible first | exact HK.out | apply KeepBut.set_ | apply keep_drewN | apply keep_drew | apply keep_alloc) | exact HK.out)⟩

def utf_Checker_Whole.f (s0_0 : Int) (s0_1 : Int) (s0_2 : Int) (s0_3 : Bool) : Option (Bool × Int × Int × Int × Bool) := (utf_Checker_Bad.f s0_0 s0_1 s0_2 s0_3).bind fun bt118 => (if bt118.1 = true then (some (false, bt118.2.1, bt118.2.2.1, bt118.2.2.2.1, bt118.2.2.2.2)) else (some ((bt118.2.1 == 0), bt118.2.1, bt118.2.2.1, bt118.2.2.2.1, bt118.2.2.2.2)))
set_option maxHeartbeats 8000000 in
set_option maxRecDepth 100000 in
theorem utf_Checker_Whole.calls (g : Nat) (s0_0 : Int) (s0_1 : Int) (s0_2 : Int) (s0_3 : Bool) (r1 : Bool) (r2 : Int) (r3 : Int) (r4 : Int) (r5 : Bool) (w0 w : World) (hI : IsS107 w0 w g s0_0 s0_1 s0_2 s0_3) (hB : Below w0.heap.size w0 w) (h : utf_Checker_Whole.f s0_0 s0_1 s0_2 s0_3 = some (r1, r2, r3, r4, r5)) :
    Calls Tryd.prog 41 #[.pointer (some ⟨g, 0, none⟩)] w fun e w' => e = .returned (.bool r1) ∧ IsS107 w0 w' g r2 r3 r4 r5 ∧ Below w0.heap.size w0 w' ∧ KeepBut w w' g none := by
  have hf66_1 := field66_1
  have HI0 := Aside0.mk hI
  have HK := Aside0.mk (KeepBut.refl w g none)
  have HL := Aside0.mk hB.size
  clear hI
  have HW0 := Aside0.mk hB.size
  have HB := Aside0.mk hB
  clear hB
  have H : ((utf_Checker_Bad.f s0_0 s0_1 s0_2 s0_3).bind fun bt118 => (if bt118.1 = true then (some (false, bt118.2.1, bt118.2.2.1, bt118.2.2.2.1, bt118.2.2.2.2)) else (some ((bt118.2.1 == 0), bt118.2.1, bt118.2.2.1, bt118.2.2.2.1, bt118.2.2.2.2)))) = some (r1, r2, r3, r4, r5) := h
  clear h
  replace H := Option.bind_eq_some_iff.mp H
  obtain ⟨⟨t118, t119, t120, t121, t122⟩, A20, H⟩ := H
  replace H : (if t118 = true then (some (false, t119, t120, t121, t122)) else (some ((t119 == 0), t119, t120, t121, t122))) = some (r1, r2, r3, r4, r5) := H
  have A2 := Aside0.mk A20
  clear A20
  by_cases c3 : t118 = true
  · subst c3
    have H1 : (some (false, t119, t120, t121, t122)) = some (r1, r2, r3, r4, r5) := by rw [if_pos rfl] at H; exact H
    clear H
    have H := H1
    clear H1
    simp only [Option.some.injEq, Prod.mk.injEq] at H
    obtain ⟨rfl, rfl, rfl, rfl, rfl⟩ := H
    go_enter Tryd.func41, Tryd.ntmps41
    go_wp2_with (first | ((with_reducible refine gate_callee (f := 42) rfl ?_); refine goesL_ (some 4) rfl rfl Tryd.func42 (by kernel_rfl) rfl #[.pointer (some ⟨g, 0, none⟩)] rfl (by (try simp only [List.map_toArray, List.map_cons, List.map_nil]); first | done | rfl | (simp only [List.length_drop, List.length_take]; rfl)) ?_; (with_reducible refine (utf_Checker_Bad.calls g s0_0 s0_1 s0_2 s0_3 true t119 t120 t121 t122 w0 _ ?side1 ?side2 A2.out).mono ?_); (case side1 => repeat (first | (with_reducible first | exact HI0.out | apply IsS107.alloc | apply IsS107.drewN | apply IsS107.drew | apply IsS107.set_0 | apply IsS107.set_1 | apply IsS107.set_2 | apply IsS107.set_3) | exact HI0.out)); (case side2 => repeat (first | (with_reducible first | exact HB.out | apply below_alloc | apply pw_below_drewN | apply below_drew1 | refine below_set ?_ (IsS107.ge HI0.out)) | exact HB.out)); rintro e w4 ⟨rfl, hi, hb, hk⟩; refine ⟨_, rfl, ?_⟩; have n0_ := Aside0.mk (KeepBut.trans (by repeat (first | (with_reducible first | exact HK.out | apply KeepBut.set_ | apply keep_drewN | apply keep_drew | apply keep_alloc) | exact HK.out)) hk (.inl rfl)); have n1_ := Aside0.mk (hb); have n2_ := Aside0.mk (hi); clear HK; clear HB; clear HI0; have HK := n0_; have HB := n1_; have HI0 := n2_; clear n0_ n1_ n2_; (try clear hb); (try clear hb2); (try clear hk); (try clear hi)))
    go_ret
    exact ⟨by first | rfl | (simp [errW_none, errW_some] <;> rfl) | (simp [*, errW_none, errW_some] <;> rfl), by first | ((repeat (first | (with_reducible first | exact HI0.out | apply IsS107.alloc | apply IsS107.drewN | apply IsS107.drew | apply IsS107.set_0 | apply IsS107.set_1 | apply IsS107.set_2 | apply IsS107.set_3) | exact HI0.out)); done) | (rw [‹((_ : Int) == _) = _›]; ((repeat (first | (with_reducible first | exact HI0.out | apply IsS107.alloc | apply IsS107.drewN | apply IsS107.drew | apply IsS107.set_0 | apply IsS107.set_1 | apply IsS107.set_2 | apply IsS107.set_3) | exact HI0.out)); done)) | (repeat (first | (with_reducible first | exact HI0.out | apply IsS107.alloc | apply IsS107.drewN | apply IsS107.drew | apply IsS107.set_0 | apply IsS107.set_1 | apply IsS107.set_2 | apply IsS107.set_3) | exact HI0.out)), by repeat (first | (with_reducible first | exact HB.out | apply below_alloc | apply pw_below_drewN | apply below_drew1 | refine below_set ?_ (IsS107.ge HI0.out)) | exact HB.out), by repeat (first | (with_reducible first | exact HK.out | apply KeepBut.set_ | apply keep_drewN | apply keep_drew | apply keep_alloc) | exact HK.out)⟩
  · replace c3 := Bool.eq_false_iff.mpr c3
    subst c3
    have H1 : (some ((t119 == 0), t119, t120, t121, t122)) = some (r1, r2, r3, r4, r5) := by rw [if_neg (show ¬ (false = true) by decide)] at H; exact H
    clear H
    have H := H1
    clear H1
    simp only [Option.some.injEq, Prod.mk.injEq] at H
    obtain ⟨rfl, rfl, rfl, rfl, rfl⟩ := H
    go_enter Tryd.func41, Tryd.ntmps41
    go_wp2_with (first | ((with_reducible refine gate_callee (f := 42) rfl ?_); refine goesL_ (some 4) rfl rfl Tryd.func42 (by kernel_rfl) rfl #[.pointer (some ⟨g, 0, none⟩)] rfl (by (try simp only [List.map_toArray, List.map_cons, List.map_nil]); first | done | rfl | (simp only [List.length_drop, List.length_take]; rfl)) ?_; (with_reducible refine (utf_Checker_Bad.calls g s0_0 s0_1 s0_2 s0_3 false t119 t120 t121 t122 w0 _ ?side1 ?side2 A2.out).mono ?_); (case side1 => repeat (first | (with_reducible first | exact HI0.out | apply IsS107.alloc | apply IsS107.drewN | apply IsS107.drew | apply IsS107.set_0 | apply IsS107.set_1 | apply IsS107.set_2 | apply IsS107.set_3) | exact HI0.out)); (case side2 => repeat (first | (with_reducible first | exact HB.out | apply below_alloc | apply pw_below_drewN | apply below_drew1 | refine below_set ?_ (IsS107.ge HI0.out)) | exact HB.out)); rintro e w5 ⟨rfl, hi, hb, hk⟩; refine ⟨_, rfl, ?_⟩; have n0_ := Aside0.mk (KeepBut.trans (by repeat (first | (with_reducible first | exact HK.out | apply KeepBut.set_ | apply keep_drewN | apply keep_drew | apply keep_alloc) | exact HK.out)) hk (.inl rfl)); have n1_ := Aside0.mk (hb); have n2_ := Aside0.mk (hi); clear HK; clear HB; clear HI0; have HK := n0_; have HB := n1_; have HI0 := n2_; clear n0_ n1_ n2_; (try clear hb); (try clear hb2); (try clear hk); (try clear hi); obtain ⟨HGz6, hgz6⟩ := HI0.out; have hcz6_0 := cellS107_0 HGz6; have hcz6_1 := cellS107_1 HGz6; have hcz6_2 := cellS107_2 HGz6; have hcz6_3 := cellS107_3 HGz6; have hfz6_0 := blk_frozen HGz6 0; have hfz6_1 := blk_frozen HGz6 1; have hfz6_2 := blk_frozen HGz6 2; have hfz6_3 := blk_frozen HGz6 3; clear HGz6 hgz6))
    go_ret
    exact ⟨by first | rfl | (simp [errW_none, errW_some] <;> rfl) | (simp [*, errW_none, errW_some] <;> rfl), by first | ((repeat (first | (with_reducible first | exact HI0.out | apply IsS107.alloc | apply IsS107.drewN | apply IsS107.drew | apply IsS107.set_0 | apply IsS107.set_1 | apply IsS107.set_2 | apply IsS107.set_3) | exact HI0.out)); done) | (rw [‹((_ : Int) == _) = _›]; ((repeat (first | (with_reducible first | exact HI0.out | apply IsS107.alloc | apply IsS107.drewN | apply IsS107.drew | apply IsS107.set_0 | apply IsS107.set_1 | apply IsS107.set_2 | apply IsS107.set_3) | exact HI0.out)); done)) | (repeat (first | (with_reducible first | exact HI0.out | apply IsS107.alloc | apply IsS107.drewN | apply IsS107.drew | apply IsS107.set_0 | apply IsS107.set_1 | apply IsS107.set_2 | apply IsS107.set_3) | exact HI0.out)), by repeat (first | (with_reducible first | exact HB.out | apply below_alloc | apply pw_below_drewN | apply below_drew1 | refine below_set ?_ (IsS107.ge HI0.out)) | exact HB.out), by repeat (first | (with_reducible first | exact HK.out | apply KeepBut.set_ | apply keep_drewN | apply keep_drew | apply keep_alloc) | exact HK.out)⟩

def utf_Valid.f (k : Nat) (l0 : List Int) : Option (Bool) := (utf_New.f).bind fun bt123 => ((utf_Checker_Feed.f k bt123.1 bt123.2.1 bt123.2.2.1 bt123.2.2.2 l0).bind fun bt128 => ((utf_Checker_Whole.f bt128.2.1 bt128.2.2.1 bt128.2.2.2.1 bt128.2.2.2.2).bind fun bt133 => (some bt133.1)))
set_option maxRecDepth 100000 in
theorem utf_Valid.mono : ∀ a0 k, LeO (utf_Valid.f k a0) (utf_Valid.f (k + 1) a0) := by
  intro a0 k
  unfold utf_Valid.f
  repeat' first
      | (with_reducible exact utf_Checker_Feed.mono _ _ _ _ _ _)
      | (with_reducible exact LeO.refl _)
      | (with_reducible exact LeO.none _)
      | (with_reducible refine LeO.ite ?_ ?_)
      | (with_reducible refine LeO.bind ?_ (fun _ => ?_))
      | exact utf_Checker_Feed.mono _ _ _ _ _ _
      | exact LeO.none _
      | refine LeO.ite ?_ ?_
      | refine LeO.bind ?_ (fun _ => ?_)
set_option maxHeartbeats 8000000 in
set_option maxRecDepth 100000 in
theorem utf_Valid.calls (k : Nat) (A0 : Option Addr) (c0 : Nat) (l0 : List Int) (r : Bool) (w : World) (hr0 : Kd.C (Kd.int .u8) w A0 l0.length l0) (hc0 : l0.length ≤ c0) (h : utf_Valid.f k l0 = some r) :
    Calls Tryd.prog 32 #[.slice A0 l0.length c0] w fun e w' => e = .returned (.bool r) ∧ Below w.heap.size w w' := by
  have hf66_1 := field66_1
  have HR0 := Aside0.mk hr0
  have HC0 := Aside0.mk hc0
  clear hr0 hc0
  have HB := Aside0.mk (Below.refl w.heap.size w)
  have H : ((utf_New.f).bind fun bt123 => ((utf_Checker_Feed.f k bt123.1 bt123.2.1 bt123.2.2.1 bt123.2.2.2 l0).bind fun bt128 => ((utf_Checker_Whole.f bt128.2.1 bt128.2.2.1 bt128.2.2.2.1 bt128.2.2.2.2).bind fun bt133 => (some bt133.1)))) = some r := h
  clear h
  replace H := Option.bind_eq_some_iff.mp H
  obtain ⟨⟨t123, t124, t125, t126⟩, A20, H⟩ := H
  replace H : ((utf_Checker_Feed.f k t123 t124 t125 t126 l0).bind fun bt128 => ((utf_Checker_Whole.f bt128.2.1 bt128.2.2.1 bt128.2.2.2.1 bt128.2.2.2.2).bind fun bt133 => (some bt133.1))) = some r := H
  have A2 := Aside0.mk A20
  clear A20
  replace H := Option.bind_eq_some_iff.mp H
  obtain ⟨⟨t128, t129, t130, t131, t132⟩, A30, H⟩ := H
  replace H : ((utf_Checker_Whole.f t129 t130 t131 t132).bind fun bt133 => (some bt133.1)) = some r := H
  have A3 := Aside0.mk A30
  clear A30
  replace H := Option.bind_eq_some_iff.mp H
  obtain ⟨⟨t133, t134, t135, t136, t137⟩, A40, H⟩ := H
  replace H : (some t133) = some r := H
  have A4 := Aside0.mk A40
  clear A40
  obtain rfl := Option.some.inj H
  go_enter Tryd.func32, Tryd.ntmps32
  go_wp2_with (first | ((with_reducible refine gate_callee (f := 39) rfl ?_); refine goesL_ (some 4) rfl rfl Tryd.func39 (by kernel_rfl) rfl #[] rfl (by (try simp only [List.map_toArray, List.map_cons, List.map_nil]); first | done | rfl | (simp only [List.length_drop, List.length_take]; rfl)) ?_; (with_reducible refine (utf_New.calls  t123 t124 t125 t126 w _ ?side1 A2.out).mono ?_); (case side1 => repeat (first | (with_reducible first | exact HB.out | apply below_alloc | apply pw_below_drewN | apply below_drew1) | exact HB.out)); rintro e w5 ⟨g127, rfl, hi, hb, hb2⟩; refine ⟨_, rfl, ?_⟩; have n0_ := Aside0.mk (hb); have n1_ := Aside0.mk (hi); clear HB; have HB := n0_; have HI127 := n1_; clear n0_ n1_; (try clear hb); (try clear hb2); (try clear hk); (try clear hi)) | ((with_reducible refine gate_callee (f := 40) rfl ?_); refine goesL_ (some 7) rfl rfl Tryd.func40 (by kernel_rfl) rfl #[.pointer (some ⟨g127, 0, none⟩), .slice A0 l0.length c0] rfl (by (try simp only [List.map_toArray, List.map_cons, List.map_nil]); first | done | rfl | (simp only [List.length_drop, List.length_take]; rfl)) ?_; (with_reducible refine (utf_Checker_Feed.calls k g127 t123 t124 t125 t126 _ _ l0 t128 t129 t130 t131 t132 w _ ?side1 ?side2 ?side3 ?side4 ?side5 A3.out).mono ?_); (case side1 => repeat (first | (with_reducible first | exact HI127.out | apply IsS107.alloc | apply IsS107.drewN | apply IsS107.drew | apply IsS107.set_0 | apply IsS107.set_1 | apply IsS107.set_2 | apply IsS107.set_3) | exact HI127.out)); (case side2 => repeat (first | (with_reducible first | exact HB.out | apply below_alloc | apply pw_below_drewN | apply below_drew1 | refine below_set ?_ (IsS107.ge HI127.out)) | exact HB.out)); (case side3 => repeat (first | exact (Kd.C_below HR0.out HB.out) | (with_reducible refine Kd.C_alloc ?_ _) | (with_reducible refine Kd.C_drewN ?_ _) | (with_reducible refine Kd.C_drew ?_))); (case side4 => exact HC0.out); (case side5 => exact Kd.far_C 0 HR0.out (IsS107.ge HI127.out)); rintro e w6 ⟨rfl, hi, hb, hk⟩; refine ⟨_, rfl, ?_⟩; have n0_ := Aside0.mk (hb); have n1_ := Aside0.mk (hi); clear HB; clear HI127; have HB := n0_; have HI127 := n1_; clear n0_ n1_; (try clear hb); (try clear hb2); (try clear hk); (try clear hi)) | ((with_reducible refine gate_callee (f := 41) rfl ?_); refine goesL_ (some 9) rfl rfl Tryd.func41 (by kernel_rfl) rfl #[.pointer (some ⟨g127, 0, none⟩)] rfl (by (try simp only [List.map_toArray, List.map_cons, List.map_nil]); first | done | rfl | (simp only [List.length_drop, List.length_take]; rfl)) ?_; (with_reducible refine (utf_Checker_Whole.calls g127 t129 t130 t131 t132 t133 t134 t135 t136 t137 w _ ?side1 ?side2 A4.out).mono ?_); (case side1 => repeat (first | (with_reducible first | exact HI127.out | apply IsS107.alloc | apply IsS107.drewN | apply IsS107.drew | apply IsS107.set_0 | apply IsS107.set_1 | apply IsS107.set_2 | apply IsS107.set_3) | exact HI127.out)); (case side2 => repeat (first | (with_reducible first | exact HB.out | apply below_alloc | apply pw_below_drewN | apply below_drew1 | refine below_set ?_ (IsS107.ge HI127.out)) | exact HB.out)); rintro e w7 ⟨rfl, hi, hb, hk⟩; refine ⟨_, rfl, ?_⟩; have n0_ := Aside0.mk (hb); have n1_ := Aside0.mk (hi); clear HB; clear HI127; have HB := n0_; have HI127 := n1_; clear n0_ n1_; (try clear hb); (try clear hb2); (try clear hk); (try clear hi)))
  go_ret
  exact ⟨by first | rfl | (simp [errW_none, errW_some] <;> rfl) | (simp [*, errW_none, errW_some] <;> rfl), by repeat (first | (with_reducible first | exact HB.out | apply below_alloc | apply pw_below_drewN | apply below_drew1 | refine below_set ?_ (IsS107.ge HI127.out)) | exact HB.out)⟩

def message_whole.l0 : Nat → ByteArray → Int → Option ByteArray
  | 0, _, _ => none
  | k + 1, s, n => if 0 < n then (if n ≤ (s.size : Int) then ((utf_Valid.f k (bytesOf (s.extract 0 n.toNat))).bind fun t => if t = true then some (s.extract 0 n.toNat) else message_whole.l0 k s (n - 1)) else none) else some ByteArray.empty
def message_whole.f (k : Nat) (a0 : ByteArray) (a1 : Int) : Option ByteArray :=
  if (a0.size : Int) ≤ 9223372036854775807 then ((utf_Valid.f k (bytesOf a0)).bind fun t => if t = true then message_whole.l0 k a0 (min (a0.size : Int) a1) else some ByteArray.empty) else none
set_option maxRecDepth 100000 in
theorem message_whole.mono_l : ∀ k, (∀ y0 y1, LeO (message_whole.l0 k y0 y1) (message_whole.l0 (k + 1) y0 y1))
  | 0 => fun _ _ r h => by unfold message_whole.l0 at h; cases h
  | k + 1 => by
    have ih0 := message_whole.mono_l k
    · intro y0 y1
      unfold message_whole.l0
      repeat' first
      | (with_reducible exact ih0 _ _)
      | (with_reducible exact utf_Valid.mono _ _)
      | (with_reducible exact LeO.refl _)
      | (with_reducible exact LeO.none _)
      | (with_reducible refine LeO.ite ?_ ?_)
      | (with_reducible refine LeO.bind ?_ (fun _ => ?_))
set_option maxRecDepth 100000 in
theorem message_whole.mono : ∀ a0 a1 k, LeO (message_whole.f k a0 a1) (message_whole.f (k + 1) a0 a1) := by
  intro a0 a1 k
  have ih0 := message_whole.mono_l k
  unfold message_whole.f
  repeat' first
      | (with_reducible exact ih0 _ _)
      | (with_reducible exact utf_Valid.mono _ _)
      | (with_reducible exact LeO.refl _)
      | (with_reducible exact LeO.none _)
      | (with_reducible refine LeO.ite ?_ ?_)
      | (with_reducible refine LeO.bind ?_ (fun _ => ?_))
attribute [local go_sem] max2_int min2_int max_two min_two max_three min_three max_four min_four
def Wholes (a0 r : ByteArray) (w : World) (i : Value) (wr : World) : Prop :=
  ∃ (n : Int) (kk : Nat), i = .int .i64 n ∧ n ≤ (a0.size : Int) ∧ message_whole.l0 kk a0 n = some r ∧ Below w.heap.size w wr
set_option maxHeartbeats 4000000 in
set_option maxRecDepth 100000 in
theorem message_whole.calls (k : Nat) (a0 : ByteArray) (a1 : Int) (r : ByteArray) (w : World) (h : message_whole.f k a0 a1 = some r) :
    Calls Tryd.prog 23 #[.string a0, .int .i64 a1] w fun e w' => e = .returned (.string r) ∧ Below w.heap.size w w' := by
  have hf66_1 := field66_1
  unfold message_whole.f at h
  have hsz : (a0.size : Int) ≤ 9223372036854775807 := by
    by_cases hb : (a0.size : Int) ≤ 9223372036854775807
    · exact hb
    · rw [if_neg hb] at h; cases h
  rw [if_pos hsz] at h
  obtain ⟨t, hv, h⟩ := Option.bind_eq_some_iff.mp h
  have HV := Aside0.mk hv
  have H := Aside0.mk h
  clear hv h
  have kb := fun (s : ByteArray) (W : World) => print_bytes (P := Tryd.prog) 9 24 5 Tryd.underlying9 Tryd.underlying24 Tryd.underlying5 s W
  go_enter Tryd.func23, Tryd.ntmps23
  go_wp2_with fail
  have hc0 : (Kd.int .u8).C (Lib.bytesWorld w 5 a0) (some ⟨w.heap.size, 0, none⟩) (bytesOf a0).length (bytesOf a0) := by
    have := Kd.C_of_reads (d := (0 : Int)) (h1 := fun _ => rfl) (bytes_reads w 5 a0 (by omega))
    rw [bytesOf_length]
    exact this
  refine (calls_of_args (by rw [bytesOf_length]) (utf_Valid.calls k _ _ (bytesOf a0) t _ hc0 (by rw [bytesOf_length]; exact grownCap_ge _ _ _ _) HV.out)).mono ?_
  rintro e w1 ⟨rfl, hb⟩
  have HB := Aside0.mk (below_step (bytes_below (Below.refl _ _) (Nat.le_refl _) 5 a0) hb)
  clear hb
  cases t with
  | false =>
    have hr : r = ByteArray.empty := by simpa using H.out.symm
    subst hr
    go_wp2_with fail
    go_ret
    exact ⟨rfl, HB.out⟩
  | true =>
    have H2 : message_whole.l0 k a0 (min (a0.size : Int) a1) = some r := by simpa using H.out
    have HK := Aside0.mk H2
    clear H2 H
    have hmin : min (a0.size : Int) a1 ≤ (a0.size : Int) := Int.min_le_left _ _
    go_wp2_with fail
    all_goals
      go_loopw [5] (fun i wr => Wholes a0 r w i wr) (fun i _ => (intOf i).toNat)
      case atStart => exact ⟨_, k, rfl, by omega, by (have hk := HK.out); (first | rw [Int.min_eq_left (by omega)] at hk | rw [Int.min_eq_right (by omega)] at hk); exact hk, HB.out⟩
      case round =>
        obtain ⟨n, kk, rfl, hn, hl, hB⟩ := hrel
        cases kk with
        | zero => unfold message_whole.l0 at hl; cases hl
        | succ kk =>
          unfold message_whole.l0 at hl
          clear HB
          have HB := Aside0.mk hB
          clear hB
          by_cases hpos : 0 < n
          · rw [if_pos hpos, if_pos hn] at hl
            obtain ⟨t, hv, hl⟩ := Option.bind_eq_some_iff.mp hl
            have HV2 := Aside0.mk hv
            have HL := Aside0.mk hl
            clear hv hl
            have hxs : (a0.extract 0 n.toNat).size = n.toNat := by rw [ByteArray.size_extract]; omega
            have hc2 : (Kd.int .u8).C (Lib.bytesWorld wr 5 (a0.extract 0 n.toNat)) (some ⟨wr.heap.size, 0, none⟩) (bytesOf (a0.extract 0 n.toNat)).length (bytesOf (a0.extract 0 n.toNat)) := by
              have := Kd.C_of_reads (d := (0 : Int)) (h1 := fun _ => rfl) (bytes_reads wr 5 (a0.extract 0 n.toNat) (by omega))
              rw [bytesOf_length]
              exact this
            have hlen : (bytesOf (a0.extract 0 n.toNat)).length = n.toNat := by rw [bytesOf_length, hxs]
            have HX := Aside0.mk hxs
            have HC2 := Aside0.mk hc2
            have HLN := Aside0.mk hlen
            clear hxs hc2 hlen
            go_wp2_with fail
            refine (calls_of_args (by rw [HLN.out]) (utf_Valid.calls kk _ (grownCap wr n.toNat 0 5) (bytesOf (a0.extract 0 n.toNat)) t _ HC2.out (by rw [HLN.out]; exact grownCap_ge _ _ _ _) HV2.out)).mono ?_
            rintro e w3 ⟨rfl, hb3⟩
            replace HB := Aside0.mk (below_step (bytes_below HB.out HB.out.size 5 (a0.extract 0 n.toNat)) hb3)
            clear hb3
            cases t with
            | true =>
              have hr : r = a0.extract 0 n.toNat := by simpa using HL.out.symm
              subst hr
              go_wp2_with fail
              go_ret
              exact ⟨rfl, HB.out⟩
            | false =>
              have hl2 : message_whole.l0 kk a0 (n - 1) = some r := by simpa using HL.out
              have HL2 := Aside0.mk hl2
              clear hl2 HL
              go_wp2_with fail
              go_roundw
              case rel => exact ⟨n - 1, kk, by go_num, by omega, HL2.out, HB.out⟩
              case measure => simp [intOf]; omega
          · rw [if_neg hpos] at hl
            have hr : r = ByteArray.empty := by simpa using hl.symm
            subst hr
            go_wp2_with fail
            go_ret
            exact ⟨rfl, HB.out⟩


def message_Close.f (k : Nat) (a0 : Int) (a1 : ByteArray) : Option (Bool × Int × Bool × Int × List Int) := (message_Told.f a0).bind fun t140 => (if t140 = true then ((some (([(a0 / 256) % 256, (a0) % 256] : List Int) : List Int)).bind fun y141 => ((message_whole.f k a1 123).bind fun t144 => (if y141.length + t144.size < 140737488355328 then (some (true, 8, false, 0, (y141 ++ bytesOf t144))) else (none)))) else (some (true, 8, false, 0, ([] : List Int))))
set_option maxRecDepth 100000 in
theorem message_Close.mono : ∀ a0 a1 k, LeO (message_Close.f k a0 a1) (message_Close.f (k + 1) a0 a1) := by
  intro a0 a1 k
  unfold message_Close.f
  repeat' first
      | (with_reducible exact message_whole.mono _ _ _)
      | (with_reducible exact LeO.refl _)
      | (with_reducible exact LeO.none _)
      | (with_reducible refine LeO.ite ?_ ?_)
      | (with_reducible refine LeO.bind ?_ (fun _ => ?_))
      | exact message_whole.mono _ _ _
      | exact LeO.none _
      | refine LeO.ite ?_ ?_
      | refine LeO.bind ?_ (fun _ => ?_)
set_option maxHeartbeats 8000000 in
set_option maxRecDepth 100000 in
theorem message_Close.calls (k : Nat) (a0 : Int) (a1 : ByteArray) (r1 : Bool) (r2 : Int) (r3 : Bool) (r4 : Int) (r5 : List Int) (w : World) (h : message_Close.f k a0 a1 = some (r1, r2, r3, r4, r5)) :
    Calls Tryd.prog 10 #[.int .u32 a0, .string a1] w fun e w' => ∃ v4_ : Value, e = .returned (.agg #[.bool r1, .int .u8 r2, .bool r3, .int .u32 r4, v4_]) ∧ Kd.R (Kd.int .u8) 5 w' w.heap.size (fun _ => True) v4_ r5 ∧ Below w.heap.size w w' := by
  have hf66_1 := field66_1
  have hu26 := Tryd.underlying26
  have HB := Aside0.mk (Below.refl w.heap.size w)
  have H : ((message_Told.f a0).bind fun t140 => (if t140 = true then ((some (([(a0 / 256) % 256, (a0) % 256] : List Int) : List Int)).bind fun y141 => ((message_whole.f k a1 123).bind fun t144 => (if y141.length + t144.size < 140737488355328 then (some (true, 8, false, 0, (y141 ++ bytesOf t144))) else (none)))) else (some (true, 8, false, 0, ([] : List Int))))) = some (r1, r2, r3, r4, r5) := h
  clear h
  replace H := Option.bind_eq_some_iff.mp H
  obtain ⟨t140, A30, H⟩ := H
  replace H : (if t140 = true then ((some (([(a0 / 256) % 256, (a0) % 256] : List Int) : List Int)).bind fun y141 => ((message_whole.f k a1 123).bind fun t144 => (if y141.length + t144.size < 140737488355328 then (some (true, 8, false, 0, (y141 ++ bytesOf t144))) else (none)))) else (some (true, 8, false, 0, ([] : List Int)))) = some (r1, r2, r3, r4, r5) := H
  have A3 := Aside0.mk A30
  clear A30
  by_cases c4 : t140 = true
  · subst c4
    have H1 : ((some (([(a0 / 256) % 256, (a0) % 256] : List Int) : List Int)).bind fun y141 => ((message_whole.f k a1 123).bind fun t144 => (if y141.length + t144.size < 140737488355328 then (some (true, 8, false, 0, (y141 ++ bytesOf t144))) else (none)))) = some (r1, r2, r3, r4, r5) := by rw [if_pos rfl] at H; exact H
    clear H
    have H := H1
    clear H1
    obtain ⟨y141, hy141⟩ : ∃ y_ : List Int, y_ = (([(a0 / 256) % 256, (a0) % 256] : List Int)) := ⟨_, rfl⟩
    replace H : ((message_whole.f k a1 123).bind fun t144 => (if y141.length + t144.size < 140737488355328 then (some (true, 8, false, 0, (y141 ++ bytesOf t144))) else (none))) = some (r1, r2, r3, r4, r5) := by first | (rw [hy141]; with_reducible exact H) | (have H2_ := (Option.bind_some _ _).symm.trans H; rw [hy141]; with_reducible exact H2_) | (have H2_ := (Option.bind_some _ _).symm.trans H; with_reducible exact H2_) | with_reducible exact H | (rw [hy141]; exact H) | exact H
    have Ny141 := Aside0.mk hy141
    clear hy141
    replace H := Option.bind_eq_some_iff.mp H
    obtain ⟨t144, A50, H⟩ := H
    replace H : (if y141.length + t144.size < 140737488355328 then (some (true, 8, false, 0, (y141 ++ bytesOf t144))) else (none)) = some (r1, r2, r3, r4, r5) := H
    have A5 := Aside0.mk A50
    clear A50
    by_cases c6 : y141.length + t144.size < 140737488355328
    · rw [if_pos c6] at H
      have LMc6 := Aside0.mk c6
      clear c6
      obtain ⟨y145, hy145⟩ : ∃ y_ : List Int, y_ = (y141 ++ bytesOf t144) := ⟨_, rfl⟩
      replace H : (some (true, 8, false, 0, y145)) = some (r1, r2, r3, r4, r5) := by first | (rw [hy145]; with_reducible exact H) | (have H2_ := (Option.bind_some _ _).symm.trans H; rw [hy145]; with_reducible exact H2_) | (have H2_ := (Option.bind_some _ _).symm.trans H; with_reducible exact H2_) | with_reducible exact H | (rw [hy145]; exact H) | exact H
      have Ny145 := Aside0.mk hy145
      clear hy145
      simp only [Option.some.injEq, Prod.mk.injEq] at H
      obtain ⟨rfl, rfl, rfl, rfl, rfl⟩ := H
      go_enter Tryd.func10, Tryd.ntmps10
      go_wp2_with (first | ((with_reducible refine gate_dst (N := 4) rfl ?_); refine box_event ?hg (N := 4) ?hd (cs := #[.bool false, .int .u8 0, .bool false, .int .u32 0, .slice none 0 0]) (t := 26) ?hr ?_; (case hd => rfl); (case hg => rfl); (case hr => first | (go_simp; done) | (go_simp; rfl)); intro gb138 hg w7 hbox hb; have n0_ := Aside0.mk (below_step (by repeat (first | (with_reducible first | exact HB.out | apply below_alloc | apply pw_below_drewN | apply below_drew1) | exact HB.out)) hb); have n1_ := Aside0.mk (hbox); have n2_ := Aside0.mk ((by rw [hg]; exact (below_size (by repeat (first | (with_reducible first | exact HB.out | apply below_alloc | apply pw_below_drewN | apply below_drew1) | exact HB.out))) : w.heap.size ≤ gb138)); have n3_ := Aside0.mk ((by rw [hg]; exact (below_size (by repeat (first | (with_reducible first | exact HB.out | apply below_alloc | apply pw_below_drewN | apply below_drew1) | exact HB.out))) : w.heap.size ≤ gb138)); clear HB; have HB := n0_; have BK138 := n1_; have GW138 := n2_; have GE138 := n3_; clear n0_ n1_ n2_ n3_; clear hb hbox hg) | ((with_reducible refine gate_dst (N := 5) rfl ?_); refine box_event ?hg (N := 5) ?hd (cs := #[.bool false, .int .u8 0, .bool false, .int .u32 0, .slice none 0 0]) (t := 26) ?hr ?_; (case hd => rfl); (case hg => rfl); (case hr => first | (go_simp; done) | (go_simp; rfl)); intro gb139 hg w8 hbox hb; have n0_ := Aside0.mk (blk_below (g := gb138) (o := .cells #[.bool false, .int .u8 0, .bool false, .int .u32 0, .slice none 0 0] 26 (0, 0)) (by (with_reducible repeat (first | refine blk_drewN ?_ _ | refine blk_drew ?_ | refine blk_alloc ?_ _)); exact BK138.out) hb); have n1_ := Aside0.mk (below_step (by repeat (first | (with_reducible first | exact HB.out | apply below_alloc | apply pw_below_drewN | apply below_drew1 | refine below_set ?_ GE138.out) | exact HB.out)) hb); have n2_ := Aside0.mk (hbox); have n3_ := Aside0.mk ((by rw [hg]; exact (below_size (by repeat (first | (with_reducible first | exact HB.out | apply below_alloc | apply pw_below_drewN | apply below_drew1 | refine below_set ?_ GE138.out) | exact HB.out))) : w.heap.size ≤ gb139)); have n4_ := Aside0.mk ((by rw [hg]; exact (below_size (by repeat (first | (with_reducible first | exact HB.out | apply below_alloc | apply pw_below_drewN | apply below_drew1 | refine below_set ?_ GE138.out) | exact HB.out))) : w.heap.size ≤ gb139)); have n5_ := Aside0.mk ((by rw [hg]; exact Nat.ne_of_lt (blk_lt (g := gb138) (o := .cells #[.bool false, .int .u8 0, .bool false, .int .u32 0, .slice none 0 0] 26 (0, 0)) (by (with_reducible repeat (first | refine blk_drewN ?_ _ | refine blk_drew ?_ | refine blk_alloc ?_ _)); exact BK138.out)) : gb138 ≠ gb139)); have n6_ := Aside0.mk ((by rw [hg]; exact Nat.ne_of_gt (blk_lt (g := gb138) (o := .cells #[.bool false, .int .u8 0, .bool false, .int .u32 0, .slice none 0 0] 26 (0, 0)) (by (with_reducible repeat (first | refine blk_drewN ?_ _ | refine blk_drew ?_ | refine blk_alloc ?_ _)); exact BK138.out)) : gb139 ≠ gb138)); clear BK138; clear HB; have BK138 := n0_; have HB := n1_; have BK139 := n2_; have GW139 := n3_; have GE139 := n4_; have NB138_139 := n5_; have NB139_138 := n6_; clear n0_ n1_ n2_ n3_ n4_ n5_ n6_; clear hb hbox hg; have hnb9 := NB139_138.out; have hnc9 := NB138_139.out; have hcz10_0 : w8.cell? ⟨gb139, 0, none⟩ = some (.bool false) := (blk_cell BK139.out 0).trans rfl; have hcz10_1 : w8.cell? ⟨gb139, 1, none⟩ = some (.int .u8 0) := (blk_cell BK139.out 1).trans rfl; have hcz10_2 : w8.cell? ⟨gb139, 2, none⟩ = some (.bool false) := (blk_cell BK139.out 2).trans rfl; have hcz10_3 : w8.cell? ⟨gb139, 3, none⟩ = some (.int .u32 0) := (blk_cell BK139.out 3).trans rfl; have hcz10_4 : w8.cell? ⟨gb139, 4, none⟩ = some (.slice none 0 0) := (blk_cell BK139.out 4).trans rfl; have hfz10_0 := blk_frozen BK139.out 0; have hfz10_1 := blk_frozen BK139.out 1; have hfz10_2 := blk_frozen BK139.out 2; have hfz10_3 := blk_frozen BK139.out 3; have hfz10_4 := blk_frozen BK139.out 4) | ((with_reducible refine gate_callee (f := 11) rfl ?_); refine goesL_ (some 8) rfl rfl Tryd.func11 (by kernel_rfl) rfl #[.int .u32 a0] rfl (by (try simp only [List.map_toArray, List.map_cons, List.map_nil]); first | done | rfl | (simp only [List.length_drop, List.length_take]; rfl)) ?_; (with_reducible refine (message_Told.calls a0 true _ A3.out).mono ?_); rintro e w11 ⟨rfl, hb⟩; refine ⟨_, rfl, ?_⟩; have n0_ := Aside0.mk (blk_below (g := gb138) (o := .cells #[.bool false, .int .u8 0, .bool false, .int .u32 0, .slice none 0 0] 26 (0, 0)) (by (with_reducible repeat (first | refine blk_drewN ?_ _ | refine blk_drew ?_ | refine blk_alloc ?_ _)); refine blk_far ?_ NB138_139.out _; (with_reducible repeat (first | refine blk_drewN ?_ _ | refine blk_drew ?_ | refine blk_alloc ?_ _)); refine blk_far ?_ NB138_139.out _; (with_reducible repeat (first | refine blk_drewN ?_ _ | refine blk_drew ?_ | refine blk_alloc ?_ _)); refine blk_far ?_ NB138_139.out _; (with_reducible repeat (first | refine blk_drewN ?_ _ | refine blk_drew ?_ | refine blk_alloc ?_ _)); refine blk_far ?_ NB138_139.out _; (with_reducible repeat (first | refine blk_drewN ?_ _ | refine blk_drew ?_ | refine blk_alloc ?_ _)); refine blk_far ?_ NB138_139.out _; (with_reducible repeat (first | refine blk_drewN ?_ _ | refine blk_drew ?_ | refine blk_alloc ?_ _)); exact BK138.out) hb); have n1_ := Aside0.mk (blk_below (g := gb139) (o := .cells #[.bool true, .int .u8 8, .bool false, .int .u32 0, .slice none 0 0] 26 (0, 0)) (by (with_reducible repeat (first | refine blk_drewN ?_ _ | refine blk_drew ?_ | refine blk_alloc ?_ _)); refine blk_put (cs := #[.bool true, .int .u8 8, .bool false, .int .u32 0, .slice none 0 0]) ?_ 4 _ rfl; (with_reducible repeat (first | refine blk_drewN ?_ _ | refine blk_drew ?_ | refine blk_alloc ?_ _)); refine blk_put (cs := #[.bool true, .int .u8 8, .bool false, .int .u32 0, .slice none 0 0]) ?_ 3 _ rfl; (with_reducible repeat (first | refine blk_drewN ?_ _ | refine blk_drew ?_ | refine blk_alloc ?_ _)); refine blk_put (cs := #[.bool true, .int .u8 8, .bool false, .int .u32 0, .slice none 0 0]) ?_ 2 _ rfl; (with_reducible repeat (first | refine blk_drewN ?_ _ | refine blk_drew ?_ | refine blk_alloc ?_ _)); refine blk_put (cs := #[.bool true, .int .u8 0, .bool false, .int .u32 0, .slice none 0 0]) ?_ 1 _ rfl; (with_reducible repeat (first | refine blk_drewN ?_ _ | refine blk_drew ?_ | refine blk_alloc ?_ _)); refine blk_put (cs := #[.bool false, .int .u8 0, .bool false, .int .u32 0, .slice none 0 0]) ?_ 0 _ rfl; (with_reducible repeat (first | refine blk_drewN ?_ _ | refine blk_drew ?_ | refine blk_alloc ?_ _)); exact BK139.out) hb); have n2_ := Aside0.mk (below_step (by repeat (first | (with_reducible first | exact HB.out | apply below_alloc | apply pw_below_drewN | apply below_drew1 | refine below_set ?_ GE138.out | refine below_set ?_ GE139.out) | exact HB.out)) hb); clear BK138; clear BK139; clear HB; have BK138 := n0_; have BK139 := n1_; have HB := n2_; clear n0_ n1_ n2_; (try clear hb); (try clear hb2); (try clear hk); (try clear hi)) | ((with_reducible refine gate_dst (N := 14) rfl ?_); refine Kd.R_lit (Kd.int .u8) _ 5 ?hg (N := 14) ?hd (xs := ([(a0 / 256) % 256, (a0) % 256] : List Int)) (inner := [.int .u8 ((a0 / 256) % 256), .int .u8 ((a0) % 256)]) (ok := fun _ => True) (okp := fun _ => True) ?hr ?hp (fun _ hk => hk) trivial (Below.refl _ _) (Nat.le_refl _) (by simp) ?_; (case hd => rfl); (case hg => rfl); (case hr => first | (go_simp; done) | (go_simp; rfl)); (case hp => exact (Reps.one (show Kd.M (Kd.int .u8) _ _ _ ((a0 / 256) % 256) [.int .u8 ((a0 / 256) % 256)] from rfl) (Reps.one (show Kd.M (Kd.int .u8) _ _ _ ((a0) % 256) [.int .u8 ((a0) % 256)] from rfl) (Reps.none _ _)))); intro v142 w12 ho13 hb hg_ hnew_; clear hg_ hnew_; (first | rw [← Ny141.out] at ho13 | (simp only [Int.reduceToNat] at ho13; rw [← Ny141.out] at ho13)); have n0_ := Aside0.mk (Kd.R_lower ho13 (below_size (by repeat (first | (with_reducible first | exact HB.out | apply below_alloc | apply pw_below_drewN | apply below_drew1 | refine below_set ?_ GE138.out | refine below_set ?_ GE139.out) | exact HB.out)))); have n1_ := Aside0.mk (blk_below (g := gb138) (o := .cells #[.bool false, .int .u8 0, .bool false, .int .u32 0, .slice none 0 0] 26 (0, 0)) (by (with_reducible repeat (first | refine blk_drewN ?_ _ | refine blk_drew ?_ | refine blk_alloc ?_ _)); exact BK138.out) hb); have n2_ := Aside0.mk (blk_below (g := gb139) (o := .cells #[.bool true, .int .u8 8, .bool false, .int .u32 0, .slice none 0 0] 26 (0, 0)) (by (with_reducible repeat (first | refine blk_drewN ?_ _ | refine blk_drew ?_ | refine blk_alloc ?_ _)); exact BK139.out) hb); have n3_ := Aside0.mk (below_step (by repeat (first | (with_reducible first | exact HB.out | apply below_alloc | apply pw_below_drewN | apply below_drew1 | refine below_set ?_ GE138.out | refine below_set ?_ GE139.out) | exact HB.out)) hb); clear BK138; clear BK139; clear HB; have HO143 := n0_; have BK138 := n1_; have BK139 := n2_; have HB := n3_; clear n0_ n1_ n2_ n3_; clear hb ho13) | ((with_reducible refine gate_callee (f := 23) rfl ?_); refine goesL_ (some 16) rfl rfl Tryd.func23 (by kernel_rfl) rfl #[.string a1, .int .i64 123] rfl (by (try simp only [List.map_toArray, List.map_cons, List.map_nil]); first | done | rfl | (simp only [List.length_drop, List.length_take]; rfl)) ?_; (with_reducible refine (message_whole.calls k a1 123 t144 _ A5.out).mono ?_); rintro e w14 ⟨rfl, hb⟩; refine ⟨_, rfl, ?_⟩; have n0_ := Aside0.mk (Kd.R_below (by (with_reducible repeat (first | apply Kd.R_alloc | apply Kd.R_drewN | apply Kd.R_drew)); exact HO143.out) hb); have n1_ := Aside0.mk (blk_below (g := gb138) (o := .cells #[.bool false, .int .u8 0, .bool false, .int .u32 0, .slice none 0 0] 26 (0, 0)) (by (with_reducible repeat (first | refine blk_drewN ?_ _ | refine blk_drew ?_ | refine blk_alloc ?_ _)); exact BK138.out) hb); have n2_ := Aside0.mk (blk_below (g := gb139) (o := .cells #[.bool true, .int .u8 8, .bool false, .int .u32 0, .slice none 0 0] 26 (0, 0)) (by (with_reducible repeat (first | refine blk_drewN ?_ _ | refine blk_drew ?_ | refine blk_alloc ?_ _)); exact BK139.out) hb); have n3_ := Aside0.mk (below_step (by repeat (first | (with_reducible first | exact HB.out | apply below_alloc | apply pw_below_drewN | apply below_drew1 | refine below_set ?_ GE138.out | refine below_set ?_ GE139.out) | exact HB.out)) hb); clear HO143; clear BK138; clear BK139; clear HB; have HO143 := n0_; have BK138 := n1_; have BK139 := n2_; have HB := n3_; clear n0_ n1_ n2_ n3_; (try clear hb); (try clear hb2); (try clear hk); (try clear hi)) | (at_builtin; refine print_append_str (w0 := w) w.heap.size rfl (.tmp 14) _ 24 9 5 rfl Tryd.underlying24 Tryd.underlying9 info5 v142 y141 t144 rfl rfl ?aO ?aB ?aS ?aL ?_; (case aB => exact (by repeat (first | (with_reducible first | exact HB.out | apply below_alloc | apply pw_below_drewN | apply below_drew1 | refine below_set ?_ GE138.out | refine below_set ?_ GE139.out) | exact HB.out))); (case aO => exact (Kd.own_of_R (by (with_reducible repeat (first | apply Kd.R_alloc | apply Kd.R_drewN | apply Kd.R_drew)); exact HO143.out))); (case aS => exact (below_size (by repeat (first | (with_reducible first | exact HB.out | apply below_alloc | apply pw_below_drewN | apply below_drew1 | refine below_set ?_ GE138.out | refine below_set ?_ GE139.out) | exact HB.out)))); (case aL => have := LMc6.out; omega); intro v146 w15 ho0 hb hg; have ho := Kd.R_of_own (h1 := fun _ => rfl) (ok := fun _ => True) ho0 (fun _ _ => trivial); clear ho0; have hat := True.intro; rw [← Ny145.out] at ho; change Kd.R (Kd.int .u8) 5 w15 w.heap.size (fun _ => True) v146 y145 at ho; have n0_ := Aside0.mk (blk_grown (g := gb138) (o := .cells #[.bool false, .int .u8 0, .bool false, .int .u32 0, .slice none 0 0] 26 (0, 0)) (by (with_reducible repeat (first | refine blk_drewN ?_ _ | refine blk_drew ?_ | refine blk_alloc ?_ _)); exact BK138.out) hg (Kd.R_ne HO143.out BK138.out (by decide))); have n1_ := Aside0.mk (blk_grown (g := gb139) (o := .cells #[.bool true, .int .u8 8, .bool false, .int .u32 0, .slice none 0 0] 26 (0, 0)) (by (with_reducible repeat (first | refine blk_drewN ?_ _ | refine blk_drew ?_ | refine blk_alloc ?_ _)); exact BK139.out) hg (Kd.R_ne HO143.out BK139.out (by decide))); have n2_ := Aside0.mk (hb); have n3_ := Aside0.mk (ho); clear BK138; clear BK139; clear HB; clear HO143; have BK138 := n0_; have BK139 := n1_; have HB := n2_; have HO147 := n3_; clear n0_ n1_ n2_ n3_; clear ho hb hg hat; obtain ⟨Ao16, co16, eo16⟩ := Kd.R_slice HO147.out; subst eo16; have hcz17_0 : w15.cell? ⟨gb139, 0, none⟩ = some (.bool true) := (blk_cell BK139.out 0).trans rfl; have hcz17_1 : w15.cell? ⟨gb139, 1, none⟩ = some (.int .u8 8) := (blk_cell BK139.out 1).trans rfl; have hcz17_2 : w15.cell? ⟨gb139, 2, none⟩ = some (.bool false) := (blk_cell BK139.out 2).trans rfl; have hcz17_3 : w15.cell? ⟨gb139, 3, none⟩ = some (.int .u32 0) := (blk_cell BK139.out 3).trans rfl; have hcz17_4 : w15.cell? ⟨gb139, 4, none⟩ = some (.slice none 0 0) := (blk_cell BK139.out 4).trans rfl; have hfz17_0 := blk_frozen BK139.out 0; have hfz17_1 := blk_frozen BK139.out 1; have hfz17_2 := blk_frozen BK139.out 2; have hfz17_3 := blk_frozen BK139.out 3; have hfz17_4 := blk_frozen BK139.out 4; have hcz18_0 : w15.cell? ⟨gb138, 0, none⟩ = some (.bool false) := (blk_cell BK138.out 0).trans rfl; have hcz18_1 : w15.cell? ⟨gb138, 1, none⟩ = some (.int .u8 0) := (blk_cell BK138.out 1).trans rfl; have hcz18_2 : w15.cell? ⟨gb138, 2, none⟩ = some (.bool false) := (blk_cell BK138.out 2).trans rfl; have hcz18_3 : w15.cell? ⟨gb138, 3, none⟩ = some (.int .u32 0) := (blk_cell BK138.out 3).trans rfl; have hcz18_4 : w15.cell? ⟨gb138, 4, none⟩ = some (.slice none 0 0) := (blk_cell BK138.out 4).trans rfl; have hfz18_0 := blk_frozen BK138.out 0; have hfz18_1 := blk_frozen BK138.out 1; have hfz18_2 := blk_frozen BK138.out 2; have hfz18_3 := blk_frozen BK138.out 3; have hfz18_4 := blk_frozen BK138.out 4))
      refine bodyPost_ret (results_cell_row rfl _ _ gb138 26 #[.bool true, .int .u8 8, .bool false, .int .u32 0, .slice Ao16 y145.length co16] (0, 0) _ rfl (by (with_reducible repeat (first | refine blk_drewN ?_ _ | refine blk_drew ?_ | refine blk_alloc ?_ _)); refine blk_put (cs := #[.bool true, .int .u8 8, .bool false, .int .u32 0, .slice none 0 0]) ?_ 4 _ rfl; (with_reducible repeat (first | refine blk_drewN ?_ _ | refine blk_drew ?_ | refine blk_alloc ?_ _)); refine blk_put (cs := #[.bool true, .int .u8 8, .bool false, .int .u32 0, .slice none 0 0]) ?_ 3 _ rfl; (with_reducible repeat (first | refine blk_drewN ?_ _ | refine blk_drew ?_ | refine blk_alloc ?_ _)); refine blk_put (cs := #[.bool true, .int .u8 8, .bool false, .int .u32 0, .slice none 0 0]) ?_ 2 _ rfl; (with_reducible repeat (first | refine blk_drewN ?_ _ | refine blk_drew ?_ | refine blk_alloc ?_ _)); refine blk_put (cs := #[.bool true, .int .u8 0, .bool false, .int .u32 0, .slice none 0 0]) ?_ 1 _ rfl; (with_reducible repeat (first | refine blk_drewN ?_ _ | refine blk_drew ?_ | refine blk_alloc ?_ _)); refine blk_put (cs := #[.bool false, .int .u8 0, .bool false, .int .u32 0, .slice none 0 0]) ?_ 0 _ rfl; (with_reducible repeat (first | refine blk_drewN ?_ _ | refine blk_drew ?_ | refine blk_alloc ?_ _)); refine blk_far ?_ NB138_139.out _; (with_reducible repeat (first | refine blk_drewN ?_ _ | refine blk_drew ?_ | refine blk_alloc ?_ _)); exact BK138.out) Tryd.underlying26 rfl (by kernel_rfl)) rfl ?_
      exact ⟨_, by first | rfl | (simp [errW_none, errW_some] <;> rfl) | (simp [*, errW_none, errW_some] <;> rfl), by (with_reducible repeat (first | apply Kd.R_alloc | apply Kd.R_drewN | apply Kd.R_drew)); exact Kd.R_mono (Kd.R_far (p := ⟨gb138, 4, none⟩) (Kd.R_far (p := ⟨gb138, 3, none⟩) (Kd.R_far (p := ⟨gb138, 2, none⟩) (Kd.R_far (p := ⟨gb138, 1, none⟩) (Kd.R_far (p := ⟨gb138, 0, none⟩) (Kd.R_far (p := ⟨gb139, 4, none⟩) (Kd.R_types (Kd.R_types HO147.out BK139.out (by decide)) BK138.out (by decide)) (fun _ hk => hk.1.2) (.slice Ao16 y145.length co16)) (fun _ hk => hk.2) (.bool true)) (fun _ hk => hk.2) (.int .u8 8)) (fun _ hk => hk.2) (.bool false)) (fun _ hk => hk.2) (.int .u32 0)) (fun _ hk => hk.2) (.slice Ao16 y145.length co16)) (fun _ hk => trivial), by repeat (first | (with_reducible first | exact HB.out | apply below_alloc | apply pw_below_drewN | apply below_drew1 | refine below_set ?_ GE138.out | refine below_set ?_ GE139.out) | exact HB.out)⟩
    · rw [if_neg c6] at H
      exact absurd H (by simp)
  · replace c4 := Bool.eq_false_iff.mpr c4
    subst c4
    have H1 : (some (true, 8, false, 0, ([] : List Int))) = some (r1, r2, r3, r4, r5) := by rw [if_neg (show ¬ (false = true) by decide)] at H; exact H
    clear H
    have H := H1
    clear H1
    simp only [Option.some.injEq, Prod.mk.injEq] at H
    obtain ⟨rfl, rfl, rfl, rfl, rfl⟩ := H
    go_enter Tryd.func10, Tryd.ntmps10
    go_wp2_with (first | ((with_reducible refine gate_dst (N := 4) rfl ?_); refine box_event ?hg (N := 4) ?hd (cs := #[.bool false, .int .u8 0, .bool false, .int .u32 0, .slice none 0 0]) (t := 26) ?hr ?_; (case hd => rfl); (case hg => rfl); (case hr => first | (go_simp; done) | (go_simp; rfl)); intro gb138 hg w19 hbox hb; have n0_ := Aside0.mk (below_step (by repeat (first | (with_reducible first | exact HB.out | apply below_alloc | apply pw_below_drewN | apply below_drew1) | exact HB.out)) hb); have n1_ := Aside0.mk (hbox); have n2_ := Aside0.mk ((by rw [hg]; exact (below_size (by repeat (first | (with_reducible first | exact HB.out | apply below_alloc | apply pw_below_drewN | apply below_drew1) | exact HB.out))) : w.heap.size ≤ gb138)); have n3_ := Aside0.mk ((by rw [hg]; exact (below_size (by repeat (first | (with_reducible first | exact HB.out | apply below_alloc | apply pw_below_drewN | apply below_drew1) | exact HB.out))) : w.heap.size ≤ gb138)); clear HB; have HB := n0_; have BK138 := n1_; have GW138 := n2_; have GE138 := n3_; clear n0_ n1_ n2_ n3_; clear hb hbox hg) | ((with_reducible refine gate_dst (N := 5) rfl ?_); refine box_event ?hg (N := 5) ?hd (cs := #[.bool false, .int .u8 0, .bool false, .int .u32 0, .slice none 0 0]) (t := 26) ?hr ?_; (case hd => rfl); (case hg => rfl); (case hr => first | (go_simp; done) | (go_simp; rfl)); intro gb139 hg w20 hbox hb; have n0_ := Aside0.mk (blk_below (g := gb138) (o := .cells #[.bool false, .int .u8 0, .bool false, .int .u32 0, .slice none 0 0] 26 (0, 0)) (by (with_reducible repeat (first | refine blk_drewN ?_ _ | refine blk_drew ?_ | refine blk_alloc ?_ _)); exact BK138.out) hb); have n1_ := Aside0.mk (below_step (by repeat (first | (with_reducible first | exact HB.out | apply below_alloc | apply pw_below_drewN | apply below_drew1 | refine below_set ?_ GE138.out) | exact HB.out)) hb); have n2_ := Aside0.mk (hbox); have n3_ := Aside0.mk ((by rw [hg]; exact (below_size (by repeat (first | (with_reducible first | exact HB.out | apply below_alloc | apply pw_below_drewN | apply below_drew1 | refine below_set ?_ GE138.out) | exact HB.out))) : w.heap.size ≤ gb139)); have n4_ := Aside0.mk ((by rw [hg]; exact (below_size (by repeat (first | (with_reducible first | exact HB.out | apply below_alloc | apply pw_below_drewN | apply below_drew1 | refine below_set ?_ GE138.out) | exact HB.out))) : w.heap.size ≤ gb139)); have n5_ := Aside0.mk ((by rw [hg]; exact Nat.ne_of_lt (blk_lt (g := gb138) (o := .cells #[.bool false, .int .u8 0, .bool false, .int .u32 0, .slice none 0 0] 26 (0, 0)) (by (with_reducible repeat (first | refine blk_drewN ?_ _ | refine blk_drew ?_ | refine blk_alloc ?_ _)); exact BK138.out)) : gb138 ≠ gb139)); have n6_ := Aside0.mk ((by rw [hg]; exact Nat.ne_of_gt (blk_lt (g := gb138) (o := .cells #[.bool false, .int .u8 0, .bool false, .int .u32 0, .slice none 0 0] 26 (0, 0)) (by (with_reducible repeat (first | refine blk_drewN ?_ _ | refine blk_drew ?_ | refine blk_alloc ?_ _)); exact BK138.out)) : gb139 ≠ gb138)); clear BK138; clear HB; have BK138 := n0_; have HB := n1_; have BK139 := n2_; have GW139 := n3_; have GE139 := n4_; have NB138_139 := n5_; have NB139_138 := n6_; clear n0_ n1_ n2_ n3_ n4_ n5_ n6_; clear hb hbox hg; have hnb21 := NB139_138.out; have hnc21 := NB138_139.out; have hcz22_0 : w20.cell? ⟨gb139, 0, none⟩ = some (.bool false) := (blk_cell BK139.out 0).trans rfl; have hcz22_1 : w20.cell? ⟨gb139, 1, none⟩ = some (.int .u8 0) := (blk_cell BK139.out 1).trans rfl; have hcz22_2 : w20.cell? ⟨gb139, 2, none⟩ = some (.bool false) := (blk_cell BK139.out 2).trans rfl; have hcz22_3 : w20.cell? ⟨gb139, 3, none⟩ = some (.int .u32 0) := (blk_cell BK139.out 3).trans rfl; have hcz22_4 : w20.cell? ⟨gb139, 4, none⟩ = some (.slice none 0 0) := (blk_cell BK139.out 4).trans rfl; have hfz22_0 := blk_frozen BK139.out 0; have hfz22_1 := blk_frozen BK139.out 1; have hfz22_2 := blk_frozen BK139.out 2; have hfz22_3 := blk_frozen BK139.out 3; have hfz22_4 := blk_frozen BK139.out 4) | ((with_reducible refine gate_callee (f := 11) rfl ?_); refine goesL_ (some 8) rfl rfl Tryd.func11 (by kernel_rfl) rfl #[.int .u32 a0] rfl (by (try simp only [List.map_toArray, List.map_cons, List.map_nil]); first | done | rfl | (simp only [List.length_drop, List.length_take]; rfl)) ?_; (with_reducible refine (message_Told.calls a0 false _ A3.out).mono ?_); rintro e w23 ⟨rfl, hb⟩; refine ⟨_, rfl, ?_⟩; have n0_ := Aside0.mk (blk_below (g := gb138) (o := .cells #[.bool false, .int .u8 0, .bool false, .int .u32 0, .slice none 0 0] 26 (0, 0)) (by (with_reducible repeat (first | refine blk_drewN ?_ _ | refine blk_drew ?_ | refine blk_alloc ?_ _)); refine blk_far ?_ NB138_139.out _; (with_reducible repeat (first | refine blk_drewN ?_ _ | refine blk_drew ?_ | refine blk_alloc ?_ _)); refine blk_far ?_ NB138_139.out _; (with_reducible repeat (first | refine blk_drewN ?_ _ | refine blk_drew ?_ | refine blk_alloc ?_ _)); refine blk_far ?_ NB138_139.out _; (with_reducible repeat (first | refine blk_drewN ?_ _ | refine blk_drew ?_ | refine blk_alloc ?_ _)); refine blk_far ?_ NB138_139.out _; (with_reducible repeat (first | refine blk_drewN ?_ _ | refine blk_drew ?_ | refine blk_alloc ?_ _)); refine blk_far ?_ NB138_139.out _; (with_reducible repeat (first | refine blk_drewN ?_ _ | refine blk_drew ?_ | refine blk_alloc ?_ _)); exact BK138.out) hb); have n1_ := Aside0.mk (blk_below (g := gb139) (o := .cells #[.bool true, .int .u8 8, .bool false, .int .u32 0, .slice none 0 0] 26 (0, 0)) (by (with_reducible repeat (first | refine blk_drewN ?_ _ | refine blk_drew ?_ | refine blk_alloc ?_ _)); refine blk_put (cs := #[.bool true, .int .u8 8, .bool false, .int .u32 0, .slice none 0 0]) ?_ 4 _ rfl; (with_reducible repeat (first | refine blk_drewN ?_ _ | refine blk_drew ?_ | refine blk_alloc ?_ _)); refine blk_put (cs := #[.bool true, .int .u8 8, .bool false, .int .u32 0, .slice none 0 0]) ?_ 3 _ rfl; (with_reducible repeat (first | refine blk_drewN ?_ _ | refine blk_drew ?_ | refine blk_alloc ?_ _)); refine blk_put (cs := #[.bool true, .int .u8 8, .bool false, .int .u32 0, .slice none 0 0]) ?_ 2 _ rfl; (with_reducible repeat (first | refine blk_drewN ?_ _ | refine blk_drew ?_ | refine blk_alloc ?_ _)); refine blk_put (cs := #[.bool true, .int .u8 0, .bool false, .int .u32 0, .slice none 0 0]) ?_ 1 _ rfl; (with_reducible repeat (first | refine blk_drewN ?_ _ | refine blk_drew ?_ | refine blk_alloc ?_ _)); refine blk_put (cs := #[.bool false, .int .u8 0, .bool false, .int .u32 0, .slice none 0 0]) ?_ 0 _ rfl; (with_reducible repeat (first | refine blk_drewN ?_ _ | refine blk_drew ?_ | refine blk_alloc ?_ _)); exact BK139.out) hb); have n2_ := Aside0.mk (below_step (by repeat (first | (with_reducible first | exact HB.out | apply below_alloc | apply pw_below_drewN | apply below_drew1 | refine below_set ?_ GE138.out | refine below_set ?_ GE139.out) | exact HB.out)) hb); clear BK138; clear BK139; clear HB; have BK138 := n0_; have BK139 := n1_; have HB := n2_; clear n0_ n1_ n2_; (try clear hb); (try clear hb2); (try clear hk); (try clear hi); have hcz24_0 : w23.cell? ⟨gb139, 0, none⟩ = some (.bool true) := (blk_cell BK139.out 0).trans rfl; have hcz24_1 : w23.cell? ⟨gb139, 1, none⟩ = some (.int .u8 8) := (blk_cell BK139.out 1).trans rfl; have hcz24_2 : w23.cell? ⟨gb139, 2, none⟩ = some (.bool false) := (blk_cell BK139.out 2).trans rfl; have hcz24_3 : w23.cell? ⟨gb139, 3, none⟩ = some (.int .u32 0) := (blk_cell BK139.out 3).trans rfl; have hcz24_4 : w23.cell? ⟨gb139, 4, none⟩ = some (.slice none 0 0) := (blk_cell BK139.out 4).trans rfl; have hfz24_0 := blk_frozen BK139.out 0; have hfz24_1 := blk_frozen BK139.out 1; have hfz24_2 := blk_frozen BK139.out 2; have hfz24_3 := blk_frozen BK139.out 3; have hfz24_4 := blk_frozen BK139.out 4; have hcz25_0 : w23.cell? ⟨gb138, 0, none⟩ = some (.bool false) := (blk_cell BK138.out 0).trans rfl; have hcz25_1 : w23.cell? ⟨gb138, 1, none⟩ = some (.int .u8 0) := (blk_cell BK138.out 1).trans rfl; have hcz25_2 : w23.cell? ⟨gb138, 2, none⟩ = some (.bool false) := (blk_cell BK138.out 2).trans rfl; have hcz25_3 : w23.cell? ⟨gb138, 3, none⟩ = some (.int .u32 0) := (blk_cell BK138.out 3).trans rfl; have hcz25_4 : w23.cell? ⟨gb138, 4, none⟩ = some (.slice none 0 0) := (blk_cell BK138.out 4).trans rfl; have hfz25_0 := blk_frozen BK138.out 0; have hfz25_1 := blk_frozen BK138.out 1; have hfz25_2 := blk_frozen BK138.out 2; have hfz25_3 := blk_frozen BK138.out 3; have hfz25_4 := blk_frozen BK138.out 4))
    refine bodyPost_ret (results_cell_row rfl _ _ gb138 26 #[.bool true, .int .u8 8, .bool false, .int .u32 0, .slice none 0 0] (0, 0) _ rfl (by (with_reducible repeat (first | refine blk_drewN ?_ _ | refine blk_drew ?_ | refine blk_alloc ?_ _)); refine blk_put (cs := #[.bool true, .int .u8 8, .bool false, .int .u32 0, .slice none 0 0]) ?_ 4 _ rfl; (with_reducible repeat (first | refine blk_drewN ?_ _ | refine blk_drew ?_ | refine blk_alloc ?_ _)); refine blk_put (cs := #[.bool true, .int .u8 8, .bool false, .int .u32 0, .slice none 0 0]) ?_ 3 _ rfl; (with_reducible repeat (first | refine blk_drewN ?_ _ | refine blk_drew ?_ | refine blk_alloc ?_ _)); refine blk_put (cs := #[.bool true, .int .u8 8, .bool false, .int .u32 0, .slice none 0 0]) ?_ 2 _ rfl; (with_reducible repeat (first | refine blk_drewN ?_ _ | refine blk_drew ?_ | refine blk_alloc ?_ _)); refine blk_put (cs := #[.bool true, .int .u8 0, .bool false, .int .u32 0, .slice none 0 0]) ?_ 1 _ rfl; (with_reducible repeat (first | refine blk_drewN ?_ _ | refine blk_drew ?_ | refine blk_alloc ?_ _)); refine blk_put (cs := #[.bool false, .int .u8 0, .bool false, .int .u32 0, .slice none 0 0]) ?_ 0 _ rfl; (with_reducible repeat (first | refine blk_drewN ?_ _ | refine blk_drew ?_ | refine blk_alloc ?_ _)); exact BK138.out) Tryd.underlying26 rfl (by kernel_rfl)) rfl ?_
    exact ⟨_, by first | rfl | (simp [errW_none, errW_some] <;> rfl) | (simp [*, errW_none, errW_some] <;> rfl), by first | exact Kd.R_nil _ _ _ _ _ | exact Kd.N_nil _ _ _ _ _ | exact Kd.V_nil _ _ _ _ _ | exact Kd.Q_nil _ _ _ _ _ | exact Kd.S_nil _ _ _ _ _, by repeat (first | (with_reducible first | exact HB.out | apply below_alloc | apply pw_below_drewN | apply below_drew1 | refine below_set ?_ GE138.out | refine below_set ?_ GE139.out) | exact HB.out)⟩

theorem eqlNil (w : World) (A : Option Addr) (n c : Nat) : (binOp .eql 24 (.slice A n c) (.slice none 0 0)).run Tryd.prog w = .ok (.bool A.isNone) w := by
  have h : ∀ d : Nat, (Op.equalIn (d + 1) 24 (.slice A n c) (.slice none 0 0)).run Tryd.prog w = .ok A.isNone w := fun d => by
    cases A <;> simp [Op.equalIn, run_underlying Tryd.underlying24]
  simp only [binOp]
  simp [Op.equal, Op.maxDepth, h 9999]
def bytes_Clone.f (l0 : List Int) : Option (List Int) := if (l0.length : Int) ≤ 140737488355328 then some l0 else none
set_option maxHeartbeats 4000000 in
theorem bytes_Clone.calls (A0 : Option Addr) (c0 : Nat) (l0 : List Int) (r : List Int) (w : World) (hr0 : Kd.C (Kd.int .u8) w A0 l0.length l0) (hc0 : l0.length ≤ c0) (h : bytes_Clone.f l0 = some r) :
    Calls Tryd.prog 29 #[.slice A0 l0.length c0] w fun e w' => ∃ v0_ : Value, e = .returned (v0_) ∧ Kd.R (Kd.int .u8) 5 w' w.heap.size (fun _ => True) v0_ r ∧ Below w.heap.size w w' := by
  have hf66_1 := field66_1
  unfold bytes_Clone.f at h
  have hlen : (l0.length : Int) ≤ 140737488355328 := by
    by_cases hb : (l0.length : Int) ≤ 140737488355328
    · exact hb
    · rw [if_neg hb] at h; cases h
  rw [if_pos hlen] at h
  obtain rfl := Option.some.inj h
  have huS := Tryd.underlying24
  have huB := Tryd.underlying5
  have HR := Aside0.mk hr0
  have hinfo : (Tryd.prog.info? 5).map (fun i => (i.zero, i.size, i.bytes)) = some (some (.int .u8 0), 1, 1) := by kernel_rfl
  rcases A0 with _ | ad
  · have h0 : l0 = [] := by
      cases l0 with
      | nil => rfl
      | cons a t => obtain ⟨_, h, _⟩ := HR.out.2.2 (by simp); cases h
    subst h0
    clear hr0 HR
    have hnil : ∀ W, (binOp .eql 24 (.slice none 0 c0) (.slice none 0 0)).run Tryd.prog W = .ok (.bool true) W := fun W => eqlNil W none 0 c0
    go_enter Tryd.func29, Tryd.ntmps29
    go_wp2_with fail
    go_ret
    exact ⟨_, rfl, Kd.R_nil _ _ _ _ _, Below.refl _ _⟩
  · have HL := Aside0.mk hlen
    clear hr0 hlen
    have hnil : ∀ W, (binOp .eql 24 (.slice (some ad) l0.length c0) (.slice none 0 0)).run Tryd.prog W = .ok (.bool false) W := fun W => eqlNil W (some ad) l0.length c0
    go_enter Tryd.func29, Tryd.ntmps29
    have HO : Aside0 ((w.alloc (.cells #[] 5)).ownsRow w.heap.size 5 1 (.slice (some ⟨w.heap.size, 0, none⟩) 0 0) 0 []) := ⟨⟨rfl, .inr ⟨w.heap.size, 0, #[], rfl, Nat.le_refl _, blk_new w _, Nat.le_refl _, by decide, rfl, rfl⟩⟩⟩
    have HS : Aside0 (ReadsInt (w.alloc (.cells #[] 5)) .u8 (some ad) l0.length l0) := ⟨Kd.reads_of_C (Kd.C_alloc HR.out _)⟩
    go_wp2_with (at_builtin; refine print_append_row (w0 := w) w.heap.size rfl (.tmp 5) (.tmp 6) 24 5 .u8 1 rfl Tryd.underlying24 info5 (by decide) (.slice (some ⟨w.heap.size, 0, none⟩) 0 0) [] l0 (some ad) l0.length c0 rfl rfl HO.out HS.out ((Below.refl _ _).alloc (Nat.le_refl _) _) (by simp) (by have := HL.out; simp; omega) ?_; intro v1 w1 ho hb hg hat)
    go_ret
    exact ⟨_, rfl, Kd.R_of_own (show w1.ownsRow w.heap.size 5 1 v1 l0.length (nums .u8 l0) by simpa using ho) (fun _ _ => trivial), hb⟩


def louverlaw18_great.l0 : Nat → List (S26) → Int → List (S26) → Int → Int → Option (Bool)
  | 0, _, _, _, _, _ => none
  | k + 1, x0, x3, x6, x7, x8 => if x8 < x7 then (if 0 ≤ x8 then (if x8 < (x6.length : Int) then (louverlaw18_great.l0 k x0 (wrap64 (x3 + (1 + (mn (((rd_T26 x6 x8).f4).length : Int) 20000)))) x6 x7 (wrap64 (x8 + 1))) else (none)) else (none)) else (if (x0.length : Int) > 100 then (some true) else (some (decide (x3 > 20000))))
def louverlaw18_great.f (k : Nat) (l0 : List (S26)) : Option (Bool) := louverlaw18_great.l0 k l0 0 l0 (l0.length : Int) 0
set_option maxRecDepth 100000 in
theorem louverlaw18_great.mono_l : ∀ k, (∀ y0 y1 y2 y3 y4, LeO (louverlaw18_great.l0 k y0 y1 y2 y3 y4) (louverlaw18_great.l0 (k + 1) y0 y1 y2 y3 y4))
  | 0 => fun _ _ _ _ _ r h => by (unfold louverlaw18_great.l0 at h; cases h)
  | k + 1 => by
    have ih0 := louverlaw18_great.mono_l k
    · intro y0 y1 y2 y3 y4
      unfold louverlaw18_great.l0
      repeat' first
      | (with_reducible exact ih0 _ _ _ _ _)
      | (with_reducible exact LeO.refl _)
      | (with_reducible exact LeO.none _)
      | (with_reducible refine LeO.ite ?_ ?_)
      | (with_reducible refine LeO.bind ?_ (fun _ => ?_))
      | exact ih0 _ _ _ _ _
      | exact LeO.none _
      | refine LeO.ite ?_ ?_
      | refine LeO.bind ?_ (fun _ => ?_)
set_option maxRecDepth 100000 in
theorem louverlaw18_great.mono : ∀ a0 k, LeO (louverlaw18_great.f k a0) (louverlaw18_great.f (k + 1) a0) := by
  intro a0 k
  have ih0 := louverlaw18_great.mono_l k
  unfold louverlaw18_great.f
  repeat' first
      | (with_reducible exact ih0 _ _ _ _ _)
      | (with_reducible exact LeO.refl _)
      | (with_reducible exact LeO.none _)
      | (with_reducible refine LeO.ite ?_ ?_)
      | (with_reducible refine LeO.bind ?_ (fun _ => ?_))
      | exact ih0 _ _ _ _ _
      | exact LeO.none _
      | refine LeO.ite ?_ ?_
      | refine LeO.bind ?_ (fun _ => ?_)
set_option maxHeartbeats 8000000 in
set_option maxRecDepth 100000 in
theorem louverlaw18_great.calls (k : Nat) (A0 : Option Addr) (c0 : Nat) (l0 : List (S26)) (r : Bool) (w : World) (hr0 : Kd.C k26 w A0 l0.length l0) (hc0 : l0.length ≤ c0) (h : louverlaw18_great.f k l0 = some r) :
    Calls Tryd.prog 16 #[.slice A0 l0.length c0] w fun e w' => e = .returned (.bool r) ∧ Below w.heap.size w w' := by
  have hf66_1 := field66_1
  have hu26 := Tryd.underlying26
  have HR0 := Aside0.mk hr0
  have HC0 := Aside0.mk hc0
  clear hr0 hc0
  have HB := Aside0.mk (Below.refl w.heap.size w)
  have H : (louverlaw18_great.l0 k l0 0 l0 (l0.length : Int) 0) = some r := h
  clear h
  have H' := Aside0.mk H
  clear H
  go_enter Tryd.func16, Tryd.ntmps16
  go_wp2
  go_loopg [3, 8] k (fun kq v3 v8 w' => ∃ (x3_1 : Int) (x8_1 : Int), v3 = .int .i64 x3_1 ∧ v8 = .int .i64 x8_1 ∧ Aside0 (louverlaw18_great.l0 kq l0 x3_1 l0 (l0.length : Int) x8_1 = some r) ∧ Aside0 (kq ≤ k) ∧ Aside0 (Below w.heap.size w w'))
  case atStart => exact ⟨(0), (0), (by first | rfl | (simp; done) | (simp [*]; done)), (by first | rfl | (simp; done) | (simp [*]; done)), H', ⟨Nat.le_refl _⟩, ⟨by repeat (first | (with_reducible first | exact HB.out | apply below_alloc | apply pw_below_drewN | apply below_drew1) | exact HB.out)⟩⟩
  case round =>
    clear H'
    try clear c1
    obtain ⟨x3_1, x8_1, rfl, rfl, HA, HK1, HB⟩ := hrel
    cases gk with
    | zero => exact absurd HA.out (by simp [louverlaw18_great.l0])
    | succ k1 =>
      have H := HA.out
      clear HA
      simp only [louverlaw18_great.l0] at H
      by_cases c2 : x8_1 < (l0.length : Int)
      · rw [if_pos c2] at H
        have c2b0 : decide (x8_1 < (l0.length : Int)) = true := decide_eq_true c2
        clear c2
        by_cases c3 : 0 ≤ x8_1
        · rw [if_pos c3] at H
          have c3b0 : decide (0 ≤ x8_1) = true := decide_eq_true c3
          clear c3
          by_cases c4 : x8_1 < (l0.length : Int)
          · rw [if_pos c4] at H
            have c4b0 : decide (x8_1 < (l0.length : Int)) = true := decide_eq_true c4
            clear c4
            obtain ⟨ji5, hji5⟩ : ∃ j_ : Int, (mn (((rd_T26 l0 x8_1).f4).length : Int) 20000) = j_ := ⟨_, rfl⟩
            replace H : (louverlaw18_great.l0 k1 l0 (wrap64 (x3_1 + (1 + (ji5)))) l0 (l0.length : Int) (wrap64 (x8_1 + 1))) = some r := by first | (rw [hji5] at H; exact H) | (simp only [hji5] at H ⊢; exact H)
            have hji5_ : (if 20000 < (((rd_T26 l0 x8_1).f4).length : Int) then 20000 else (((rd_T26 l0 x8_1).f4).length : Int)) = ji5 := hji5
            have H' := Aside0.mk H
            clear H
            have p153 : 0 ≤ (x8_1 : Int) := of_decide_eq_true (by first | (with_reducible assumption) | assumption)
            have q153 : x8_1 < (l0.length : Int) := of_decide_eq_true (by first | (with_reducible assumption) | assumption)
            obtain ⟨ad153, A153_4, c153_4, e153, hx153_0, hx153_1, hx153_2, hx153_3, hx153_4, hl153_4, hi153_4⟩ := at_T26 HR0.out x8_1 p153 q153
            cases e153
            replace hx153_0 := (HB.out.cell (World.block_lt_of_cell? w _ hx153_0)).trans hx153_0
            replace hx153_1 := (HB.out.cell (World.block_lt_of_cell? w _ hx153_1)).trans hx153_1
            replace hx153_2 := (HB.out.cell (World.block_lt_of_cell? w _ hx153_2)).trans hx153_2
            replace hx153_3 := (HB.out.cell (World.block_lt_of_cell? w _ hx153_3)).trans hx153_3
            replace hx153_4 := (HB.out.cell (World.block_lt_of_cell? w _ hx153_4)).trans hx153_4
            have HR153_4 := Aside0.mk hi153_4
            have HC153_4 := Aside0.mk hl153_4
            clear hi153_4 hl153_4
            replace p153 := eq_true p153
            replace q153 := eq_true q153
            go_wp2_with (first | ((with_reducible refine gate_dst (N := 5) rfl ?_); refine box_event ?hg (N := 5) ?hd (cs := #[.bool false, .int .u8 0, .bool false, .int .u32 0, .slice none 0 0]) (t := 26) ?hr ?_; (case hd => rfl); (case hg => rfl); (case hr => first | (go_simp; done) | (go_simp; rfl)); intro gb154 hg w6 hbox hb; have n0_ := Aside0.mk (below_step (by repeat (first | (with_reducible first | exact HB.out | apply below_alloc | apply pw_below_drewN | apply below_drew1) | exact HB.out)) hb); have n1_ := Aside0.mk (hbox); have n2_ := Aside0.mk ((by rw [hg]; exact (below_size (by repeat (first | (with_reducible first | exact HB.out | apply below_alloc | apply pw_below_drewN | apply below_drew1) | exact HB.out))) : w.heap.size ≤ gb154)); have n3_ := Aside0.mk ((by rw [hg]; exact (below_size (by repeat (first | (with_reducible first | exact HB.out | apply below_alloc | apply pw_below_drewN | apply below_drew1) | exact HB.out))) : w.heap.size ≤ gb154)); clear HB; have HB := n0_; have BK154 := n1_; have GW154 := n2_; have GE154 := n3_; clear n0_ n1_ n2_ n3_; clear hb hbox hg; have hcz7_0 : w6.cell? ⟨gb154, 0, none⟩ = some (.bool false) := (blk_cell BK154.out 0).trans rfl; have hcz7_1 : w6.cell? ⟨gb154, 1, none⟩ = some (.int .u8 0) := (blk_cell BK154.out 1).trans rfl; have hcz7_2 : w6.cell? ⟨gb154, 2, none⟩ = some (.bool false) := (blk_cell BK154.out 2).trans rfl; have hcz7_3 : w6.cell? ⟨gb154, 3, none⟩ = some (.int .u32 0) := (blk_cell BK154.out 3).trans rfl; have hcz7_4 : w6.cell? ⟨gb154, 4, none⟩ = some (.slice none 0 0) := (blk_cell BK154.out 4).trans rfl; have hfz7_0 := blk_frozen BK154.out 0; have hfz7_1 := blk_frozen BK154.out 1; have hfz7_2 := blk_frozen BK154.out 2; have hfz7_3 := blk_frozen BK154.out 3; have hfz7_4 := blk_frozen BK154.out 4))
            go_roundg k1
            case measure => have := HK1.out; omega
            case rel => exact ⟨(wrap64 (x3_1 + (1 + (ji5)))), (wrap64 (x8_1 + 1)), (by first | rfl | (simp; done) | (simp only [← hji5] <;> (first | rfl | simp)) | (simp [*]; done)), (by first | rfl | (simp; done) | (simp [*]; done)), H', ⟨by have := HK1.out; omega⟩, ⟨by repeat (first | (with_reducible first | exact HB.out | apply below_alloc | apply pw_below_drewN | apply below_drew1 | refine below_set ?_ GE154.out) | exact HB.out)⟩⟩
          · rw [if_neg c4] at H
            exact absurd H (by simp)
        · rw [if_neg c3] at H
          exact absurd H (by simp)
      · rw [if_neg c2] at H
        have c2b0 : decide (x8_1 < (l0.length : Int)) = false := decide_eq_false c2
        have c2b0q := c2b0; (try simp only [hl153_4] at c2b0q)
        clear c2
        by_cases c8 : (l0.length : Int) > 100
        · rw [if_pos c8] at H
          have c8b0 : decide (100 < (l0.length : Int)) = true := decide_eq_true c8
          have c8b0q := c8b0; (try simp only [hl153_4] at c8b0q)
          have c8b1 : decide (100 < l0.length) = true := decide_eq_true (by omega)
          have c8b1q := c8b1; (try simp only [hl153_4] at c8b1q)
          clear c8
          obtain rfl := Option.some.inj H
          go_wp2
          go_ret
          exact ⟨by first | rfl | (simp [errW_none, errW_some] <;> rfl) | (simp [*, errW_none, errW_some] <;> rfl), by repeat (first | (with_reducible first | exact HB.out | apply below_alloc | apply pw_below_drewN | apply below_drew1) | exact HB.out)⟩
        · rw [if_neg c8] at H
          have c8b0 : decide (100 < (l0.length : Int)) = false := decide_eq_false c8
          have c8b0q := c8b0; (try simp only [hl153_4] at c8b0q)
          have c8b1 : decide (100 < l0.length) = false := decide_eq_false (by omega)
          have c8b1q := c8b1; (try simp only [hl153_4] at c8b1q)
          clear c8
          obtain rfl := Option.some.inj H
          go_wp2
          go_ret
          exact ⟨by first | rfl | (simp [errW_none, errW_some] <;> rfl) | (simp [*, errW_none, errW_some] <;> rfl), by repeat (first | (with_reducible first | exact HB.out | apply below_alloc | apply pw_below_drewN | apply below_drew1) | exact HB.out)⟩

mutual
def louverref15_size.j0 : Nat → Int → Bool → Option (Int)
  | 0, _, _ => none
  | k + 1, x0, x10 => if x10 = true then (some 2) else (if x0 ≥ 224 then (louverref15_size.j1 k x0 (decide (x0 < 240))) else (louverref15_size.j1 k x0 false))
def louverref15_size.j1 : Nat → Int → Bool → Option (Int)
  | 0, _, _ => none
  | k + 1, x0, x16 => if x16 = true then (some 3) else (if x0 ≥ 240 then (if x0 < 248 then (some 4) else (some 0)) else (some 0))
end
def louverref15_size.f (k : Nat) (a0 : Int) : Option (Int) := if a0 < 128 then (some 1) else (if a0 ≥ 192 then (louverref15_size.j0 k a0 (decide (a0 < 224))) else (louverref15_size.j0 k a0 false))
set_option maxRecDepth 100000 in
theorem louverref15_size.mono_l : ∀ k, (∀ y0 y1, LeO (louverref15_size.j0 k y0 y1) (louverref15_size.j0 (k + 1) y0 y1)) ∧ (∀ y0 y1, LeO (louverref15_size.j1 k y0 y1) (louverref15_size.j1 (k + 1) y0 y1))
  | 0 => ⟨fun _ _ r h => by (unfold louverref15_size.j0 at h; cases h), fun _ _ r h => by (unfold louverref15_size.j1 at h; cases h)⟩
  | k + 1 => by
    obtain ⟨ih0, ih1⟩ := louverref15_size.mono_l k
    refine ⟨?_, ?_⟩
    · intro y0 y1
      unfold louverref15_size.j0
      repeat' first
      | (with_reducible exact ih0 _ _)
      | (with_reducible exact ih1 _ _)
      | (with_reducible exact LeO.refl _)
      | (with_reducible exact LeO.none _)
      | (with_reducible refine LeO.ite ?_ ?_)
      | (with_reducible refine LeO.bind ?_ (fun _ => ?_))
      | exact ih0 _ _
      | exact ih1 _ _
      | exact LeO.none _
      | refine LeO.ite ?_ ?_
      | refine LeO.bind ?_ (fun _ => ?_)
    · intro y0 y1
      unfold louverref15_size.j1
      repeat' first
      | (with_reducible exact ih0 _ _)
      | (with_reducible exact ih1 _ _)
      | (with_reducible exact LeO.refl _)
      | (with_reducible exact LeO.none _)
      | (with_reducible refine LeO.ite ?_ ?_)
      | (with_reducible refine LeO.bind ?_ (fun _ => ?_))
      | exact ih0 _ _
      | exact ih1 _ _
      | exact LeO.none _
      | refine LeO.ite ?_ ?_
      | refine LeO.bind ?_ (fun _ => ?_)
set_option maxRecDepth 100000 in
theorem louverref15_size.mono : ∀ a0 k, LeO (louverref15_size.f k a0) (louverref15_size.f (k + 1) a0) := by
  intro a0 k
  obtain ⟨ih0, ih1⟩ := louverref15_size.mono_l k
  unfold louverref15_size.f
  repeat' first
      | (with_reducible exact ih0 _ _)
      | (with_reducible exact ih1 _ _)
      | (with_reducible exact LeO.refl _)
      | (with_reducible exact LeO.none _)
      | (with_reducible refine LeO.ite ?_ ?_)
      | (with_reducible refine LeO.bind ?_ (fun _ => ?_))
      | exact ih0 _ _
      | exact ih1 _ _
      | exact LeO.none _
      | refine LeO.ite ?_ ?_
      | refine LeO.bind ?_ (fun _ => ?_)
set_option maxHeartbeats 8000000 in
set_option maxRecDepth 100000 in
theorem louverref15_size.calls (k : Nat) (a0 : Int) (r : Int) (w : World) (h : louverref15_size.f k a0 = some r) :
    Calls Tryd.prog 31 #[.int .u8 a0] w fun e w' => e = .returned (.int .i64 r) ∧ Drawn0 w w' := by
  have hf66_1 := field66_1
  have H : (if a0 < 128 then (some 1) else (if a0 ≥ 192 then (louverref15_size.j0 k a0 (decide (a0 < 224))) else (louverref15_size.j0 k a0 false))) = some r := h
  clear h
  by_cases c2 : a0 < 128
  · rw [if_pos c2] at H
    have c2b0 : decide (a0 < 128) = true := decide_eq_true c2
    clear c2
    obtain rfl := Option.some.inj H
    go_enter Tryd.func31, Tryd.ntmps31
    go_wp2
    go_ret
    exact ⟨by first | rfl | (simp; done) | (simp [*]; done), by repeat (first | exact Drawn0.refl _ | apply Drawn0.step)⟩
  · rw [if_neg c2] at H
    have c2b0 : decide (a0 < 128) = false := decide_eq_false c2
    clear c2
    have HC3 := Aside0.mk H
    clear H
    go_enter Tryd.func31, Tryd.ntmps31
    go_upto_region 3 with (fail)
    go_cut [10] (fun v10 wc => ∃ (kq : Nat) (x10_2 : Bool), v10 = .bool x10_2 ∧ Aside0 (louverref15_size.j0 kq a0 x10_2 = some r) ∧ Aside0 (kq ≤ k) ∧ Drawn0 w wc)
    case first =>
      have H := HC3.out
      clear HC3
      by_cases c4 : a0 ≥ 192
      · rw [if_pos c4] at H
        have c4b0 : decide (192 ≤ a0) = true := decide_eq_true c4
        clear c4
        (first | rw [c4b0] | (simp only [i64_w, i32_w]; rw [c4b0]) | skip)
        have H' := Aside0.mk H
        clear H
        go_wp2
        go_meet
        case rel => exact ⟨_, (decide (a0 < 224)), (by first | rfl | (simp; done) | (simp [*]; done)), H', ⟨by first | omega | exact Nat.le_refl _⟩, by repeat (first | exact Drawn0.refl _ | apply Drawn0.step)⟩
      · rw [if_neg c4] at H
        have c4b0 : decide (192 ≤ a0) = false := decide_eq_false c4
        clear c4
        (first | rw [c4b0] | (simp only [i64_w, i32_w]; rw [c4b0]) | skip)
        have H' := Aside0.mk H
        clear H
        go_wp2
        go_meet
        case rel => exact ⟨_, (false), (by first | rfl | (simp; done) | (simp [*]; done)), H', ⟨by first | omega | exact Nat.le_refl _⟩, by repeat (first | exact Drawn0.refl _ | apply Drawn0.step)⟩
    case rest =>
      clear HC3
      try clear c2
      try clear c2b0
      try clear p2
      try clear c3
      try clear c4
      try clear c4b0
      obtain ⟨kq, x10_2, rfl, HA, HJ2, ⟨mc2, rfl⟩⟩ := hcut
      cases kq with
      | zero => exact absurd HA.out (by simp [louverref15_size.j0])
      | succ kj2 =>
        have H := HA.out
        clear HA
        simp only [louverref15_size.j0] at H
        by_cases c5 : x10_2 = true
        · subst c5
          have H1 : (some 2) = some r := by rw [if_pos rfl] at H; exact H
          clear H
          have H := H1
          clear H1
          obtain rfl := Option.some.inj H
          go_wp2
          go_ret
          exact ⟨by first | rfl | (simp; done) | (simp [*]; done), by repeat (first | exact Drawn0.refl _ | apply Drawn0.step)⟩
        · replace c5 := Bool.eq_false_iff.mpr c5
          subst c5
          have H1 : (if a0 ≥ 224 then (louverref15_size.j1 kj2 a0 (decide (a0 < 240))) else (louverref15_size.j1 kj2 a0 false)) = some r := by rw [if_neg (show ¬ (false = true) by decide)] at H; exact H
          clear H
          have H := H1
          clear H1
          have HC6 := Aside0.mk H
          clear H
          go_upto_region 5 with (fail)
          go_cut [16] (fun v16 wc => ∃ (kq : Nat) (x16_5 : Bool), v16 = .bool x16_5 ∧ Aside0 (louverref15_size.j1 kq a0 x16_5 = some r) ∧ Aside0 (kq ≤ kj2) ∧ Drawn0 w wc)
          case first =>
            have H := HC6.out
            clear HC6
            by_cases c7 : a0 ≥ 224
            · rw [if_pos c7] at H
              have c7b0 : decide (224 ≤ a0) = true := decide_eq_true c7
              clear c7
              (first | rw [c7b0] | (simp only [i64_w, i32_w]; rw [c7b0]) | skip)
              have H' := Aside0.mk H
              clear H
              go_wp2
              go_meet
              case rel => exact ⟨_, (decide (a0 < 240)), (by first | rfl | (simp; done) | (simp [*]; done)), H', ⟨by have := HJ2.out; first | omega | exact Nat.le_refl _⟩, by repeat (first | exact Drawn0.refl _ | apply Drawn0.step)⟩
            · rw [if_neg c7] at H
              have c7b0 : decide (224 ≤ a0) = false := decide_eq_false c7
              clear c7
              (first | rw [c7b0] | (simp only [i64_w, i32_w]; rw [c7b0]) | skip)
              have H' := Aside0.mk H
              clear H
              go_wp2
              go_meet
              case rel => exact ⟨_, (false), (by first | rfl | (simp; done) | (simp [*]; done)), H', ⟨by have := HJ2.out; first | omega | exact Nat.le_refl _⟩, by repeat (first | exact Drawn0.refl _ | apply Drawn0.step)⟩
          case rest =>
            clear HC6
            try clear c2
            try clear c2b0
            try clear p2
            try clear c3
            try clear c4
            try clear c4b0
            try clear c5
            try clear c7
            try clear c7b0
            try clear p2
            obtain ⟨kq, x16_5, rfl, HA, HJ5, ⟨mc5, rfl⟩⟩ := hcut
            cases kq with
            | zero => exact absurd HA.out (by simp [louverref15_size.j1])
            | succ kj5 =>
              have H := HA.out
              clear HA
              simp only [louverref15_size.j1] at H
              by_cases c8 : x16_5 = true
              · subst c8
                have H1 : (some 3) = some r := by rw [if_pos rfl] at H; exact H
                clear H
                have H := H1
                clear H1
                obtain rfl := Option.some.inj H
                go_wp2
                go_ret
                exact ⟨by first | rfl | (simp; done) | (simp [*]; done), by repeat (first | exact Drawn0.refl _ | apply Drawn0.step)⟩
              · replace c8 := Bool.eq_false_iff.mpr c8
                subst c8
                have H1 : (if a0 ≥ 240 then (if a0 < 248 then (some 4) else (some 0)) else (some 0)) = some r := by rw [if_neg (show ¬ (false = true) by decide)] at H; exact H
                clear H
                have H := H1
                clear H1
                by_cases c9 : a0 ≥ 240
                · rw [if_pos c9] at H
                  have c9b0 : decide (240 ≤ a0) = true := decide_eq_true c9
                  clear c9
                  by_cases c10 : a0 < 248
                  · rw [if_pos c10] at H
                    have c10b0 : decide (a0 < 248) = true := decide_eq_true c10
                    clear c10
                    obtain rfl := Option.some.inj H
                    go_wp2
                    go_ret
                    exact ⟨by first | rfl | (simp; done) | (simp [*]; done), by repeat (first | exact Drawn0.refl _ | apply Drawn0.step)⟩
                  · rw [if_neg c10] at H
                    have c10b0 : decide (a0 < 248) = false := decide_eq_false c10
                    clear c10
                    obtain rfl := Option.some.inj H
                    go_wp2
                    go_ret
                    exact ⟨by first | rfl | (simp; done) | (simp [*]; done), by repeat (first | exact Drawn0.refl _ | apply Drawn0.step)⟩
                · rw [if_neg c9] at H
                  have c9b0 : decide (240 ≤ a0) = false := decide_eq_false c9
                  clear c9
                  obtain rfl := Option.some.inj H
                  go_wp2
                  go_ret
                  exact ⟨by first | rfl | (simp; done) | (simp [*]; done), by repeat (first | exact Drawn0.refl _ | apply Drawn0.step)⟩

end Go.Proofs.YtbjjobifpmjhhaaDoor.PAll

namespace Go.Proofs.YtbjjobifpmjhhaaDoor
open Go.RowKit Go.Proofs.YtbjjobifpmjhhaaDoorW.PrintWords Go.Proofs.YtbjjobifpmjhhaaDoorW.PrintLast Go.Proofs.YtbjjobifpmjhhaaDoorW.PrintMore Go.Proofs.YtbjjobifpmjhhaaDoor.PAll
set_option linter.unusedVariables false
/-- Number i is taken first; what it leaves stands written out. -/
theorem takeN {P : Program} {md : Region.Mode} {ops : Array Oper} {Q : Exit → Act → World → Prop} {S : World → Prop} {i : Nat} {N : Option Tmp} {oi : Oper} {v : Value} {fuel : Nat} {listed : Array Bool} {a a' : Act} {w : World} (hi : ops[i]? = some oi) (hN : oi.dst = N)
    (hs : Region.noSelect ops = true) (hf : Region.free md ops listed i = true) (hr : (Region.ready md ops listed).contains i = true)
    (hQ : ∀ c a w, Q (.panic c) (a.put oi.dst v) w → Q (.panic c) a w) (hy : YieldsIf P ops S oi v a) (ha : a.put N v = a') (hS : S w)
    (h : wpAnyH P md ops Q S fuel (listed.setIfInBounds i true) a' w) : wpAnyH P md ops Q S (fuel + 1) listed a w := by
  subst hN; subst ha
  exact wpAnyH_take hi hs hf hr hQ hy hS h
/-- A gatherer: what it holds (v), busy, text, its checker (u), over. -/
def IsG (W : World) (g : Nat) (v : Value) (busy text : Bool) (u : Value) (over : Bool) : Prop := W.heap[g]? = some (.cells #[v, .bool busy, .bool text, u, .bool over] 60 (0, 0))
theorem IsG.far {W : World} {g : Nat} {v u : Value} {busy text over : Bool} {p : Addr} {x : Value} (h : IsG W g v busy text u over) (hne : g ≠ p.block) : IsG (W.setCell p x) g v busy text u over := (Below.heap_setCell W p x g hne).trans h
theorem gnew_any (w : World) : Calls Tryd.prog 13 #[] w fun e w' => e = .returned (.pointer (some ⟨w.heap.size, 0, none⟩)) ∧ IsG w' w.heap.size (.slice none 0 0) false false (.pointer none) false ∧ Below w.heap.size w w' := by
  go_enter Tryd.func13, Tryd.ntmps13
  go_wp2
  go_ret
  exact ⟨rfl, last_at _ _ _ rfl, below_alloc (Below.refl _ _) _⟩
theorem over_any (g : Nat) (v u : Value) (busy text over : Bool) (w : World) (h : IsG w g v busy text u over) : Calls Tryd.prog 20 #[.pointer (some ⟨g, 0, none⟩)] w fun e w' => e = .returned (.bool over) ∧ w' = w := by
  have h4 : w.cell? ⟨g, 4, none⟩ = some (.bool over) := (blk_cell h 4).trans rfl
  go_enter Tryd.func20, Tryd.ntmps20
  go_wp2
  go_ret
  exact ⟨rfl, rfl⟩
set_option maxHeartbeats 4000000 in
set_option maxRecDepth 100000 in
theorem closes_bye (A : Option Addr) (c : Nat) (w : World) (hC : Kd.C (Kd.int .u8) w A 5 [3, 232, 98, 121, 101]) (hc : 5 ≤ c) : Calls Tryd.prog 35 #[.slice A 5 c] w fun e w' => ∃ v, e = .returned (.tuple #[.agg #[.int .u8 4, .bool false, v, .int .u32 1000], .nilIface]) ∧ Kd.R (Kd.int .u8) 5 w' w.heap.size (fun _ => True) v [98, 121, 101] ∧ Below w.heap.size w w' := by
  have hu30 := Tryd.underlying30
  obtain ⟨ad, rfl, hx0⟩ := Kd.at_int hC 0 (by decide) (by decide)
  obtain ⟨ad2, e2, hx1⟩ := Kd.at_int hC 1 (by decide) (by decide)
  injection e2 with e2
  subst e2
  have y0 : w.cell? ad = some (.int .u8 3) := hx0
  have y1 : w.cell? ⟨ad.block, ad.off + 1, none⟩ = some (.int .u8 232) := hx1
  clear hx0 hx1
  have HC := Aside0.mk hC
  clear hC
  have hbit : Go.bits .or .u32 768 232 = 1000 := by decide +kernel
  go_enter Tryd.func35, Tryd.ntmps35
  go_wp2_with fail
  refine wp_region_noPanic ?_
  refine wp_region_held_drew (S := fun w' => Aside0 (Below w.heap.size w w') ∧ w'.cell? ad = some (.int .u8 3) ∧ w'.cell? ⟨ad.block, ad.off + 1, none⟩ = some (.int .u8 232)) (by kernel_rfl) (⟨⟨below_drew (below_alloc (Below.refl _ _) _)⟩, ((below_drew (below_alloc (Below.refl w.heap.size w) _)).cell (World.block_lt_of_cell? _ _ y0)).trans y0, ((below_drew (below_alloc (Below.refl w.heap.size w) _)).cell (World.block_lt_of_cell? _ _ y1)).trans y1⟩) (fun hHeld => ?_)
  refine takeN (i := 0) (N := (some 14)) (v := ?v1) (a' := ?a1) rfl rfl (by kernel_rfl) (by kernel_rfl) (by kernel_rfl) (fun _ _ _ h => h) (Or.inl ⟨by rfl, ?hy1⟩) ?ha1 (by assumption) ?rest1
  case hy1 =>
    intro w_ hSw_
    go_simp
    first | done | (with_reducible rfl)
  case ha1 =>
    simp only [Act.put, List.setIfInBounds_toArray, List.set_cons_zero, List.set_cons_succ]
    rfl
  refine takeN (i := 1) (N := (some 15)) (v := ?v2) (a' := ?a2) rfl rfl (by kernel_rfl) (by kernel_rfl) (by kernel_rfl) (fun _ _ _ h => h) (Or.inl ⟨by rfl, ?hy2⟩) ?ha2 (by assumption) ?rest2
  case hy2 =>
    intro w_ hSw_
    go_simp
    first | done | (with_reducible rfl)
  case ha2 =>
    simp only [Act.put, List.setIfInBounds_toArray, List.set_cons_zero, List.set_cons_succ]
    rfl
  refine takeN (i := 2) (N := (some 16)) (v := ?v3) (a' := ?a3) rfl rfl (by kernel_rfl) (by kernel_rfl) (by kernel_rfl) (fun _ _ _ h => h) (Or.inl ⟨by rfl, ?hy3⟩) ?ha3 (by assumption) ?rest3
  case hy3 =>
    intro w_ hSw_
    go_simp
    first | done | (with_reducible rfl)
  case ha3 =>
    simp only [Act.put, List.setIfInBounds_toArray, List.set_cons_zero, List.set_cons_succ]
    rfl
  refine takeN (i := 3) (N := (some 17)) (v := ?v4) (a' := ?a4) rfl rfl (by kernel_rfl) (by kernel_rfl) (by kernel_rfl) (fun _ _ _ h => h) (Or.inl ⟨by rfl, ?hy4⟩) ?ha4 (by assumption) ?rest4
  case hy4 =>
    intro w_ hSw_
    go_simp
    first | done | (with_reducible rfl)
  case ha4 =>
    simp only [Act.put, List.setIfInBounds_toArray, List.set_cons_zero, List.set_cons_succ]
    rfl
  refine takeN (i := 4) (N := (some 18)) (v := ?v5) (a' := ?a5) rfl rfl (by kernel_rfl) (by kernel_rfl) (by kernel_rfl) (fun _ _ _ h => h) (Or.inl ⟨by rfl, ?hy5⟩) ?ha5 (by assumption) ?rest5
  case hy5 =>
    intro w_ hSw_
    go_simp
    first | done | (with_reducible rfl)
  case ha5 =>
    simp only [Act.put, List.setIfInBounds_toArray, List.set_cons_zero, List.set_cons_succ]
    rfl
  refine takeN (i := 5) (N := (some 19)) (v := ?v6) (a' := ?a6) rfl rfl (by kernel_rfl) (by kernel_rfl) (by kernel_rfl) (fun _ _ _ h => h) (Or.inl ⟨by rfl, ?hy6⟩) ?ha6 (by assumption) ?rest6
  case hy6 =>
    intro w_ hSw_
    go_simp
    first | done | (with_reducible rfl)
  case ha6 =>
    simp only [Act.put, List.setIfInBounds_toArray, List.set_cons_zero, List.set_cons_succ]
    rfl
  refine takeN (i := 6) (N := (some 20)) (v := ?v7) (a' := ?a7) rfl rfl (by kernel_rfl) (by kernel_rfl) (by kernel_rfl) (fun _ _ _ h => h) (Or.inl ⟨by rfl, ?hy7⟩) ?ha7 (by assumption) ?rest7
  case hy7 =>
    intro w_ hSw_
    go_simp
    first | done | (with_reducible rfl)
  case ha7 =>
    simp only [Act.put, List.setIfInBounds_toArray, List.set_cons_zero, List.set_cons_succ]
    rfl
  refine takeN (i := 7) (N := (some 21)) (v := ?v8) (a' := ?a8) rfl rfl (by kernel_rfl) (by kernel_rfl) (by kernel_rfl) (fun _ _ _ h => h) (Or.inl ⟨by rfl, ?hy8⟩) ?ha8 (by assumption) ?rest8
  case hy8 =>
    intro w_ hSw_
    go_simp
    first | done | (with_reducible rfl)
  case ha8 =>
    simp only [Act.put, List.setIfInBounds_toArray, List.set_cons_zero, List.set_cons_succ]
    rfl
  refine takeN (i := 8) (N := (some 22)) (v := ?v9) (a' := ?a9) rfl rfl (by kernel_rfl) (by kernel_rfl) (by kernel_rfl) (fun _ _ _ h => h) (Or.inl ⟨by rfl, ?hy9⟩) ?ha9 (by assumption) ?rest9
  case hy9 =>
    intro w_ hSw_
    go_simp
    first | done | (with_reducible rfl)
  case ha9 =>
    simp only [Act.put, List.setIfInBounds_toArray, List.set_cons_zero, List.set_cons_succ]
    rfl
  refine takeN (i := 9) (N := (some 23)) (v := ?v10) (a' := ?a10) rfl rfl (by kernel_rfl) (by kernel_rfl) (by kernel_rfl) (fun _ _ _ h => h) (Or.inl ⟨by rfl, ?hy10⟩) ?ha10 (by assumption) ?rest10
  case hy10 =>
    intro w_ hSw_
    go_simp
    first | done | (with_reducible rfl)
  case ha10 =>
    simp only [Act.put, List.setIfInBounds_toArray, List.set_cons_zero, List.set_cons_succ]
    rfl
  refine takeN (i := 10) (N := (some 4)) (v := ?v11) (a' := ?a11) rfl rfl (by kernel_rfl) (by kernel_rfl) (by kernel_rfl) (fun _ _ _ h => h) (Or.inl ⟨by rfl, ?hy11⟩) ?ha11 (by assumption) ?rest11
  case hy11 =>
    intro w_ hSw_
    go_simp
    first | done | (with_reducible rfl)
  case ha11 =>
    simp only [Act.put, List.setIfInBounds_toArray, List.set_cons_zero, List.set_cons_succ]
    rfl
  refine wpAnyH_done (by kernel_rfl) ?_ _
  refine NoPanic.normal ?_
  have HB := Aside0.mk hHeld.1.out
  clear hHeld
  have hr : ((w.alloc (.cells #[.int .u8 0, .bool false, .slice none 0 0, .int .u32 0] 30)).drew).heap[w.heap.size]? = some (.cells #[.int .u8 0, .bool false, .slice none 0 0, .int .u32 0] 30 (0, 0)) := blk_drew (last_at _ _ _ rfl)
  generalize (w.alloc (.cells #[.int .u8 0, .bool false, .slice none 0 0, .int .u32 0] 30)).drew = w1 at HB hr ⊢
  go_wp2_with fail
  refine (message_Told.calls 1000 true _ rfl).mono ?_
  rintro e w2 ⟨rfl, hb⟩
  have hr2 : w2.heap[w.heap.size]? = _ := blk_below hr hb
  replace HB := Aside0.mk (below_step HB.out hb)
  clear hb hr
  have hC2 : (Kd.int .u8).C w (some ⟨ad.block, ad.off + 2, none⟩) 3 [98, 121, 101] := by
    have h := Kd.C_drop (m := 2) (c := c) (show (Kd.int .u8).C w (some ad) [3, 232, 98, 121, 101].length [3, 232, 98, 121, 101] from HC.out) (by decide) hc
    rw [if_neg (by omega)] at h
    exact h
  have HC2 := Aside0.mk hC2
  clear hC2
  have hc3 : 3 ≤ c - 2 := by omega
  go_wp2_with fail
  refine (calls_of_args rfl (utf_Valid.calls 40 (some ⟨ad.block, ad.off + 2, none⟩) (c - 2) [98, 121, 101] true _ (Kd.C_below HC2.out HB.out) hc3 (by kernel_rfl))).mono ?_
  rintro e w3 ⟨rfl, hb⟩
  have hr3 : w3.heap[w.heap.size]? = _ := blk_below hr2 hb
  replace HB := Aside0.mk (below_step HB.out hb)
  clear hb hr2
  go_wp2_with fail
  refine (calls_of_args rfl (bytes_Clone.calls (some ⟨ad.block, ad.off + 2, none⟩) (c - 2) [98, 121, 101] [98, 121, 101] _ (Kd.C_below HC2.out HB.out) hc3 (by kernel_rfl))).mono ?_
  rintro e w4 ⟨v, rfl, ho, hb⟩
  have hr4 : w4.heap[w.heap.size]? = some (.cells #[.int .u8 0, .bool false, .slice none 0 0, .int .u32 0] 30 (0, 0)) := blk_below hr3 hb
  have hR := Kd.R_types (Kd.R_lower ho HB.out.size) hr4 (by intro q hq; simp [Kd.int, Kd.scalar] at hq; omega)
  obtain ⟨Av, cv, rfl⟩ := Kd.R_slice hR
  have HR := Aside0.mk hR
  replace HB := Aside0.mk (below_step HB.out hb)
  clear hb hr3 ho hR
  have rc0 : w4.cell? ⟨w.heap.size, 0, none⟩ = some (.int .u8 0) := (blk_cell hr4 0).trans rfl
  have rf0 := blk_frozen hr4 0
  have rc1 : w4.cell? ⟨w.heap.size, 1, none⟩ = some (.bool false) := (blk_cell hr4 1).trans rfl
  have rf1 := blk_frozen hr4 1
  have rc2 : w4.cell? ⟨w.heap.size, 2, none⟩ = some (.slice none 0 0) := (blk_cell hr4 2).trans rfl
  have rf2 := blk_frozen hr4 2
  have rc3 : w4.cell? ⟨w.heap.size, 3, none⟩ = some (.int .u32 0) := (blk_cell hr4 3).trans rfl
  have rf3 := blk_frozen hr4 3
  have rl : w.heap.size < w4.heap.size := blk_lt hr4
  have hle : w.heap.size ≤ w.heap.size := Nat.le_refl _
  go_wp2_with fail
  exact bodyPost_ret (v := .tuple #[.agg #[.int .u8 4, .bool false, .slice Av [98, 121, 101].length cv, .int .u32 1000], .nilIface]) (by simp [results, Tryd.results35, go_sem, rc0, rc1, rc2, rc3]) rfl ⟨_, rfl, Kd.R_mono (Kd.R_far (Kd.R_far (Kd.R_far (Kd.R_far HR.out (fun k hk => hk.2) _) (fun k hk => hk.2) _) (fun k hk => hk.2) _) (fun k hk => hk.2) _) (fun _ _ => trivial), (Below.setCell (Below.setCell (Below.setCell (Below.setCell HB.out hle _) hle _) hle _) hle _)⟩
end Go.Proofs.YtbjjobifpmjhhaaDoor

/- Bytes that are read, in a block of bytes. -/
namespace Go.Proofs.YtbjjobifpmjhhaaDoor
open Go.RowKit Go.Proofs.YtbjjobifpmjhhaaDoorW.PrintWords Go.Proofs.YtbjjobifpmjhhaaDoorW.PrintLast Go.Proofs.YtbjjobifpmjhhaaDoorW.PrintMore
set_option linter.unusedVariables false
theorem C_at {k : IntKind} {W W' : World} {ad : Addr} {n : Nat} {xs : List Int} (h : Kd.C (Kd.int k) W (some ad) n xs) (hb : W'.heap[ad.block]? = W.heap[ad.block]?) : Kd.C (Kd.int k) W' (some ad) n xs := by
  have hr : ReadsInt W k (some ad) n xs := Kd.reads_of_C h
  refine Kd.C_of_reads (d := (0 : Int)) (h1 := fun _ => rfl) ⟨hr.1, hr.2.1, fun hp => ?_⟩
  obtain ⟨a, e, hc⟩ := hr.2.2 hp
  injection e with e
  subst e
  refine ⟨_, rfl, fun j hj => ?_⟩
  have hbl : W'.heap[(ad.add j).block]? = W.heap[(ad.add j).block]? := by rw [add_block]; exact hb
  rw [World.cell?_of_block hbl]
  exact hc j hj
theorem C_none {k : IntKind} {W W' : World} {n : Nat} {xs : List Int} (h : Kd.C (Kd.int k) W none n xs) : Kd.C (Kd.int k) W' none n xs := by
  have hr : ReadsInt W k none n xs := Kd.reads_of_C h
  refine Kd.C_of_reads (d := (0 : Int)) (h1 := fun _ => rfl) ⟨hr.1, hr.2.1, fun hp => ?_⟩
  obtain ⟨a, e, hc⟩ := hr.2.2 hp
  cases e
/-- Bytes that are read, in a block of bytes. -/
def Dat (W : World) (v : Value) (xs : List Int) : Prop := ∃ A c, v = .slice A xs.length c ∧ xs.length ≤ c ∧ Kd.C (Kd.int .u8) W A xs.length xs ∧ ∀ ad, A = some ad → ∃ cells fr, W.heap[ad.block]? = some (.cells cells 5 fr)
theorem Dat.keep {W W' : World} {v : Value} {xs : List Int} (h : Dat W v xs) (hk : ∀ k, v.ownBlock = some k → W'.heap[k]? = W.heap[k]?) : Dat W' v xs := by
  obtain ⟨A, c, rfl, hc, hC, hb⟩ := h
  cases A with
  | none => exact ⟨none, c, rfl, hc, C_none hC, fun ad e => by cases e⟩
  | some ad =>
    have e := hk ad.block rfl
    refine ⟨some ad, c, rfl, hc, C_at hC e, fun a ha => ?_⟩
    injection ha with ha
    subst ha
    rw [e]
    exact hb ad rfl
theorem Dat.typed {W : World} {v : Value} {xs : List Int} (h : Dat W v xs) {k : Nat} (hk : v.ownBlock = some k) : ∃ cells fr, W.heap[k]? = some (.cells cells 5 fr) := by
  obtain ⟨A, c, rfl, hc, hC, hb⟩ := h
  cases A with
  | none => cases hk
  | some ad =>
    injection hk with hk
    subst hk
    exact hb ad rfl
theorem Dat.lt {W : World} {v : Value} {xs : List Int} (h : Dat W v xs) {k : Nat} (hk : v.ownBlock = some k) : k < W.heap.size := by
  obtain ⟨_, _, h⟩ := h.typed hk
  exact blk_lt h
theorem Dat.below {W W' : World} {v : Value} {xs : List Int} (h : Dat W v xs) (hb : Below W.heap.size W W') : Dat W' v xs := h.keep (fun k hk => hb.block k (h.lt hk))
theorem Dat.of_row {W : World} {base : Nat} {ok : Nat → Prop} {v : Value} {xs : List Int} (h : Kd.R (Kd.int .u8) 5 W base ok v xs) : Dat W v xs := by
  obtain ⟨A, c, rfl⟩ := Kd.R_slice h
  obtain ⟨_, h1, h2⟩ := Kd.R_reads' h
  refine ⟨A, c, rfl, h1, h2, fun ad e => ?_⟩
  subst e
  obtain ⟨cells, h3⟩ := Kd.R_typed h ad.block rfl
  exact ⟨cells, _, h3⟩
theorem Dat.C {W : World} {A : Option Addr} {n c : Nat} {xs : List Int} (h : Dat W (.slice A n c) xs) : Kd.C (Kd.int .u8) W A xs.length xs := by
  obtain ⟨B, c', e, _, hC, _⟩ := h
  injection e with e1 _ _
  rw [e1]
  exact hC
theorem Dat.le {W : World} {A : Option Addr} {n c : Nat} {xs : List Int} (h : Dat W (.slice A n c) xs) : xs.length ≤ c := by
  obtain ⟨B, c', e, hl, _, _⟩ := h
  injection e with _ _ e3
  omega
theorem Dat.off {W : World} {A : Option Addr} {n c k t : Nat} {xs : List Int} {cs : Array Value} (h : Dat W (.slice A n c) xs) (hk : W.heap[k]? = some (.cells cs t (0, 0))) (ht : t ≠ 5 := by decide) : ∀ ad, A = some ad → 0 < xs.length → ad.block ≠ k := by
  intro ad e _ e2
  obtain ⟨c1, fr, h1⟩ := h.typed (k := k) (by rw [e, ← e2]; rfl)
  rw [hk] at h1
  injection h1 with h1
  injection h1 with _ h1 _
  exact ht h1
end Go.Proofs.YtbjjobifpmjhhaaDoor

/- The checker of texts as a machine over bytes: plain Lean, no program in sight. -/
namespace Go.Proofs.YtbjjobifpmjhhaaDoor.U
set_option linter.unusedVariables false

/-- A state: how many bytes are to come, and between which the next one must be. -/
abbrev St := Int × Int × Int
def s0 : St := (0, 128, 191)
def firstC (b : Int) : Bool × St :=
  if b < 128 then (true, 0, 128, 191)
  else if 194 ≤ b ∧ b ≤ 223 then (true, 1, 128, 191)
  else if b = 224 then (true, 2, 160, 191)
  else if b = 237 then (true, 2, 128, 159)
  else if 225 ≤ b ∧ b ≤ 239 then (true, 2, 128, 191)
  else if b = 240 then (true, 3, 144, 191)
  else if b = 244 then (true, 3, 128, 143)
  else if 241 ≤ b ∧ b ≤ 243 then (true, 3, 128, 191)
  else (false, 0, 128, 191)
def oneC (s : St) (b : Int) : Bool × St :=
  if s.1 = 0 then firstC b else if b < s.2.1 ∨ s.2.2 < b then (false, s) else (true, s.1 - 1, 128, 191)
/-- How many bytes are taken, the state behind them, is it bad. -/
def feedC (s : St) : List Int → Nat × St × Bool
  | [] => (0, s, false)
  | b :: r => if (oneC s b).1 then ((feedC (oneC s b).2 r).1 + 1, (feedC (oneC s b).2 r).2) else (0, (oneC s b).2, true)
def validC (l : List Int) : Bool := !(feedC s0 l).2.2 && (feedC s0 l).2.1.1 == 0
def okS (s : St) : Prop := 0 ≤ s.1 ∧ s.1 ≤ 3

theorem firstC_ok (b : Int) : okS (firstC b).2 := by
  unfold firstC okS
  repeat' split
  all_goals (constructor <;> decide)
theorem oneC_ok {s : St} (h : okS s) (b : Int) : okS (oneC s b).2 := by
  unfold oneC
  split
  · exact firstC_ok b
  · split
    · exact h
    · unfold okS at *
      simp only
      omega
theorem feedC_ok {s : St} (h : okS s) (l : List Int) : okS (feedC s l).2.1 := by
  induction l generalizing s with
  | nil => exact h
  | cons b r ih =>
    unfold feedC
    split
    · exact ih (oneC_ok h b)
    · exact oneC_ok h b
theorem feedC_le (s : St) (l : List Int) : (feedC s l).1 ≤ l.length := by
  induction l generalizing s with
  | nil => exact Nat.le_refl _
  | cons b r ih =>
    unfold feedC
    split
    · simpa using ih _
    · exact Nat.zero_le _
/-- All is taken just if it isn't bad. -/
theorem feedC_all (s : St) (l : List Int) : (feedC s l).2.2 = false ↔ (feedC s l).1 = l.length := by
  induction l generalizing s with
  | nil => simp [feedC]
  | cons b r ih =>
    unfold feedC
    split
    · simpa using ih _
    · simp
theorem feedC_good {s : St} {l : List Int} (h : (feedC s l).2.2 = false) : (feedC s l).1 = l.length := (feedC_all s l).1 h
theorem feedC_pos {s : St} {b : Int} (h : (oneC s b).1 = true) (r : List Int) : feedC s (b :: r) = ((feedC (oneC s b).2 r).1 + 1, (feedC (oneC s b).2 r).2) := by
  rw [feedC, if_pos h]
theorem feedC_neg {s : St} {b : Int} (h : ¬ (oneC s b).1 = true) (r : List Int) : feedC s (b :: r) = (0, (oneC s b).2, true) := by
  rw [feedC, if_neg h]
theorem feedC_append (s : St) (a b : List Int) : feedC s (a ++ b) = if (feedC s a).2.2 then feedC s a else ((feedC s a).1 + (feedC (feedC s a).2.1 b).1, (feedC (feedC s a).2.1 b).2) := by
  induction a generalizing s with
  | nil => simp [feedC]
  | cons x r ih =>
    rw [List.cons_append]
    by_cases h : (oneC s x).1 = true
    · rw [feedC_pos h, feedC_pos h, ih]
      by_cases h2 : (feedC (oneC s x).2 r).2.2 = true
      · rw [if_pos h2, if_pos h2]
      · rw [if_neg h2, if_neg h2]
        simp only [Nat.add_right_comm]
    · rw [feedC_neg h, feedC_neg h, if_pos rfl]
theorem feedC_append_good {s : St} {a : List Int} (h : (feedC s a).2.2 = false) (b : List Int) : feedC s (a ++ b) = (a.length + (feedC (feedC s a).2.1 b).1, (feedC (feedC s a).2.1 b).2) := by
  rw [feedC_append, if_neg (by simp [h]), feedC_good h]
/-- A state with nothing to come takes bytes as the first one does. -/
theorem oneC_zero {s : St} (h : s.1 = 0) (b : Int) : oneC s b = oneC s0 b := by
  unfold oneC
  rw [if_pos h, if_pos (show s0.1 = 0 from rfl)]
theorem feedC_zero {s : St} (h : s.1 = 0) {l : List Int} (hl : l ≠ []) : feedC s l = feedC s0 l := by
  cases l with
  | nil => exact absurd rfl hl
  | cons b r => unfold feedC; rw [oneC_zero h]
end Go.Proofs.YtbjjobifpmjhhaaDoor.U

/- The printed functions of the checker tell what the machine over bytes tells. -/
namespace Go.Proofs.YtbjjobifpmjhhaaDoor.U
open Go.RowKit Go.Proofs.YtbjjobifpmjhhaaDoorW.PrintWords Go.Proofs.YtbjjobifpmjhhaaDoorW.PrintLast Go.Proofs.YtbjjobifpmjhhaaDoor.PAll
set_option linter.unusedVariables false

theorem first_f (k : Nat) (hk : 4 ≤ k) (s1 s2 b : Int) : utf_Checker_first.f k 0 s1 s2 false b = some ((firstC b).1, (firstC b).2.1, (firstC b).2.2.1, (firstC b).2.2.2, false) := by
  obtain ⟨n, rfl⟩ : ∃ m, k = m + 4 := ⟨k - 4, by omega⟩
  unfold firstC
  simp only [utf_Checker_first.f, utf_Checker_first.j0, utf_Checker_first.j1, utf_Checker_first.j2, decide_eq_true_eq, Bool.false_eq_true, if_false]
  have hc : b < 128 ∨ (128 ≤ b ∧ b < 194) ∨ (194 ≤ b ∧ b ≤ 223) ∨ b = 224 ∨ (225 ≤ b ∧ b ≤ 236) ∨ b = 237 ∨ (238 ≤ b ∧ b ≤ 239) ∨ b = 240 ∨ (241 ≤ b ∧ b ≤ 243) ∨ b = 244 ∨ 244 < b := by omega
  rcases hc with h | h | h | h | h | h | h | h | h | h | h
  all_goals simp (disch := omega) only [if_pos, if_neg]
theorem one_f (k : Nat) (hk : 4 ≤ k) (s : St) (hs : okS s) (b : Int) : utf_Checker_one.f k s.1 s.2.1 s.2.2 false b = some ((oneC s b).1, (oneC s b).2.1, (oneC s b).2.2.1, (oneC s b).2.2.2, false) := by
  obtain ⟨m, lo, hi⟩ := s
  unfold utf_Checker_one.f oneC
  by_cases h : m = 0
  · subst h
    simp only [if_true, first_f k hk, Option.bind_some]
  · simp only [if_neg h]
    by_cases h1 : b < lo
    · rw [if_pos h1, if_pos (Or.inl h1)]
    · rw [if_neg h1]
      by_cases h2 : b > hi
      · rw [if_pos h2, if_pos (Or.inr h2)]
      · rw [if_neg h2, if_neg (by omega)]
        unfold okS at hs
        simp only at hs
        have e : wrap64 (m - 1) = m - 1 := by unfold wrap64; omega
        rw [e]
theorem feed_l0 (l : List Int) (hl : l.length ≤ 140737488351232) (d : Nat) : ∀ (i : Nat) (k : Nat) (s : St), okS s → l.length - i = d → i ≤ l.length → d + 5 ≤ k →
    utf_Checker_Feed.l0 k l l (l.length : Int) (i : Int) s.1 s.2.1 s.2.2 false =
      some (((i + (feedC s (l.drop i)).1 : Nat) : Int), (feedC s (l.drop i)).2.1.1, (feedC s (l.drop i)).2.1.2.1, (feedC s (l.drop i)).2.1.2.2, (feedC s (l.drop i)).2.2) := by
  induction d with
  | zero =>
    intro i k s hs hd hi hk
    obtain ⟨k, rfl⟩ : ∃ m, k = m + 1 := ⟨k - 1, by omega⟩
    have hil : i = l.length := by omega
    subst hil
    simp only [utf_Checker_Feed.l0]
    rw [if_neg (by omega), List.drop_length]
    simp [feedC]
  | succ d ih =>
    intro i k s hs hd hi hk
    obtain ⟨k, rfl⟩ : ∃ m, k = m + 1 := ⟨k - 1, by omega⟩
    have hlt : i < l.length := by omega
    have e : rd l (i : Int) = l[i] := by simp [rd, hlt]
    have ew : wrap64 ((i : Int) + 1) = ((i + 1 : Nat) : Int) := by unfold wrap64; omega
    have ed : l.drop i = l[i] :: l.drop (i + 1) := (List.getElem_cons_drop hlt).symm
    simp only [utf_Checker_Feed.l0]
    rw [if_pos (by omega), if_pos (by omega), if_pos (by omega), e, one_f k (by omega) s hs, ew, ed]
    simp only [Option.bind_some]
    by_cases h : (oneC s l[i]).1 = true
    · rw [if_pos h, feedC_pos h, ih (i + 1) k (oneC s l[i]).2 (oneC_ok hs _) (by omega) (by omega) (by omega)]
      simp only [Nat.add_assoc, Nat.add_comm 1]
    · rw [if_neg h, feedC_neg h]
      rfl
theorem feed_f (l : List Int) (hl : l.length ≤ 140737488351232) (k : Nat) (hk : l.length + 5 ≤ k) (s : St) (hs : okS s) :
    utf_Checker_Feed.f k s.1 s.2.1 s.2.2 false l = some (((feedC s l).1 : Int), (feedC s l).2.1.1, (feedC s l).2.1.2.1, (feedC s l).2.1.2.2, (feedC s l).2.2) := by
  unfold utf_Checker_Feed.f utf_Checker_Bad.f
  simp only [Option.bind_some, Bool.false_eq_true, if_false]
  have := feed_l0 l hl l.length 0 k s hs (by omega) (by omega) (by omega)
  simpa using this
theorem whole_f (m lo hi : Int) (bad : Bool) : utf_Checker_Whole.f m lo hi bad = some (!bad && m == 0, m, lo, hi, bad) := by
  unfold utf_Checker_Whole.f utf_Checker_Bad.f
  cases bad <;> simp
theorem okS0 : okS s0 := by unfold okS s0; decide
theorem valid_f (l : List Int) (hl : l.length ≤ 140737488351232) (k : Nat) (hk : l.length + 5 ≤ k) : utf_Valid.f k l = some (validC l) := by
  unfold utf_Valid.f utf_New.f
  simp only [Option.bind_some]
  have := feed_f l hl k hk s0 okS0
  rw [show utf_Checker_Feed.f k 0 128 191 false l = utf_Checker_Feed.f k s0.1 s0.2.1 s0.2.2 false l from rfl, this]
  simp only [Option.bind_some, whole_f]
  rfl
end Go.Proofs.YtbjjobifpmjhhaaDoor.U

/- The gatherer's state. -/
namespace Go.Proofs.YtbjjobifpmjhhaaDoor
open Go.RowKit Go.Proofs.YtbjjobifpmjhhaaDoorW.PrintWords Go.Proofs.YtbjjobifpmjhhaaDoorW.PrintLast Go.Proofs.YtbjjobifpmjhhaaDoorW.PrintMore Go.Proofs.YtbjjobifpmjhhaaDoor.PAll Go.Proofs.YtbjjobifpmjhhaaDoor.U
set_option linter.unusedVariables false
set_option linter.unusedSimpArgs false
/-- The gatherer's block and row. -/
structure Gw (w0 W : World) (g : Nat) (v u : Value) (b : List Int) (busy text over : Bool) : Prop where
  blk : IsG W g v busy text u over
  row : Kd.R (Kd.int .u8) 5 W w0.heap.size (fun _ => True) v b
  bel : Below w0.heap.size w0 W
  base : w0.heap.size ≤ g
  one : u.oneCell' = true
  uty : ∀ k, u = .pointer (some ⟨k, 0, none⟩) → ∃ cs, W.heap[k]? = some (.cells cs 107 (0, 0))
theorem Gw.ulow {w0 W : World} {g : Nat} {v u : Value} {b : List Int} {busy text over : Bool} (h : Gw w0 W g v u b busy text over) : ∀ k, u = .pointer (some ⟨k, 0, none⟩) → k < W.heap.size := fun k e => by
  obtain ⟨_, h⟩ := h.uty k e
  exact blk_lt h
theorem ty_set {W : World} {p : Addr} {x : Value} {k t : Nat} (h : ∃ cs, W.heap[k]? = some (.cells cs t (0, 0))) : ∃ cs, (W.setCell p x).heap[k]? = some (.cells cs t (0, 0)) := by
  obtain ⟨c, h⟩ := h
  by_cases e : k = p.block
  · subst e
    refine ⟨if p.spot.isSome then c else c.setIfInBounds p.off x, ?_⟩
    simp only [World.setCell, Array.getElem?_modify, if_pos, h, Option.map_some]
  · exact ⟨c, (Below.heap_setCell W p x k e).trans h⟩
theorem Gw.below {w0 W W' : World} {g : Nat} {v u : Value} {b : List Int} {busy text over : Bool} (h : Gw w0 W g v u b busy text over) (hb : Below W.heap.size W W') : Gw w0 W' g v u b busy text over := ⟨blk_below h.blk hb, Kd.R_below h.row hb, below_step h.bel hb, h.base, h.one, fun k e => by
  obtain ⟨cs, h1⟩ := h.uty k e
  exact ⟨cs, blk_below h1 hb⟩⟩
/-- The checker at block gu has read f, and is not bad. -/
def Chk (w0 W : World) (u : Value) (gu : Nat) (f : List Int) : Prop := u = .pointer (some ⟨gu, 0, none⟩) ∧ IsS107 w0 W gu (feedC s0 f).2.1.1 (feedC s0 f).2.1.2.1 (feedC s0 f).2.1.2.2 false ∧ (feedC s0 f).2.2 = false
theorem Chk.below {w0 W W' : World} {u : Value} {gu : Nat} {f : List Int} (h : Chk w0 W u gu f) (hb : Below W.heap.size W W') : Chk w0 W' u gu f := ⟨h.1, h.2.1.below hb, h.2.2⟩
structure Gs (w0 W : World) (g : Nat) (v u : Value) (b : List Int) (busy text over : Bool) (gu : Nat) (f : List Int) : Prop where
  gw : Gw w0 W g v u b busy text over
  chk : busy = true → Chk w0 W u gu f
theorem Gs.below {w0 W W' : World} {g gu : Nat} {v u : Value} {b f : List Int} {busy text over : Bool} (h : Gs w0 W g v u b busy text over gu f) (hb : Below W.heap.size W W') : Gs w0 W' g v u b busy text over gu f := ⟨h.gw.below hb, fun hy => (h.chk hy).below hb⟩
theorem g_ne {q : Nat} (hq : q ∈ 5 :: (Kd.int .u8).E) : q ≠ 60 := by simp [Kd.int, Kd.scalar] at hq; omega
theorem Gw.store {w0 W : World} {g : Nat} {v u : Value} {b : List Int} {busy text over : Bool} (h : Gw w0 W g v u b busy text over) (j : Nat) (x : Value) : Kd.R (Kd.int .u8) 5 (W.setCell ⟨g, j, none⟩ x) w0.heap.size (fun _ => True) v b ∧ Below w0.heap.size w0 (W.setCell ⟨g, j, none⟩ x) :=
  ⟨Kd.R_mono (Kd.R_far (Kd.R_types h.row h.blk (fun q hq => g_ne hq)) (p := ⟨g, j, none⟩) (fun k hk => hk.2) x) (fun _ _ => trivial), Below.setCell h.bel (by show _ ≤ g; exact h.base) _⟩
theorem Gw.setBusy {w0 W : World} {g : Nat} {v u : Value} {b : List Int} {busy text over : Bool} (h : Gw w0 W g v u b busy text over) (x : Bool) : Gw w0 (W.setCell ⟨g, 1, none⟩ (.bool x)) g v u b x text over := ⟨blk_put h.blk 1 _ rfl, (h.store 1 _).1, (h.store 1 _).2, h.base, h.one, fun k e => ty_set (h.uty k e)⟩
theorem Gw.setText {w0 W : World} {g : Nat} {v u : Value} {b : List Int} {busy text over : Bool} (h : Gw w0 W g v u b busy text over) (x : Bool) : Gw w0 (W.setCell ⟨g, 2, none⟩ (.bool x)) g v u b busy x over := ⟨blk_put h.blk 2 _ rfl, (h.store 2 _).1, (h.store 2 _).2, h.base, h.one, fun k e => ty_set (h.uty k e)⟩
theorem Gw.setOver {w0 W : World} {g : Nat} {v u : Value} {b : List Int} {busy text over : Bool} (h : Gw w0 W g v u b busy text over) (x : Bool) : Gw w0 (W.setCell ⟨g, 4, none⟩ (.bool x)) g v u b busy text x := ⟨blk_put h.blk 4 _ rfl, (h.store 4 _).1, (h.store 4 _).2, h.base, h.one, fun k e => ty_set (h.uty k e)⟩
theorem Gw.setU {w0 W : World} {g : Nat} {v u : Value} {b : List Int} {busy text over : Bool} (h : Gw w0 W g v u b busy text over) (x : Value) (hx : x.oneCell' = true) (hl : ∀ k, x = .pointer (some ⟨k, 0, none⟩) → ∃ cs, W.heap[k]? = some (.cells cs 107 (0, 0))) : Gw w0 (W.setCell ⟨g, 3, none⟩ x) g v x b busy text over := ⟨blk_put h.blk 3 _ rfl, (h.store 3 _).1, (h.store 3 _).2, h.base, hx, fun k e => ty_set (hl k e)⟩
theorem Gw.setNil {w0 W : World} {g : Nat} {v u : Value} {b : List Int} {busy text over : Bool} (h : Gw w0 W g v u b busy text over) : Gw w0 (W.setCell ⟨g, 0, none⟩ (.slice none 0 0)) g (.slice none 0 0) u [] busy text over := ⟨blk_put h.blk 0 _ rfl, Kd.R_nil _ _ _ _ _, (h.store 0 _).2, h.base, h.one, fun k e => ty_set (h.uty k e)⟩
/-- What stays. -/
structure Fr (w W : World) (g : Nat) (v u : Value) : Prop where
  size : w.heap.size ≤ W.heap.size
  same : ∀ k, k < w.heap.size → k ≠ g → some k ≠ v.ownBlock → u ≠ .pointer (some ⟨k, 0, none⟩) → W.heap[k]? = w.heap[k]?
theorem Fr.refl (w : World) (g : Nat) (v u : Value) : Fr w w g v u := ⟨Nat.le_refl _, fun _ _ _ _ _ => rfl⟩
theorem Fr.below {w W W' : World} {g : Nat} {v u : Value} (h : Fr w W g v u) (hb : Below W.heap.size W W') : Fr w W' g v u := ⟨Nat.le_trans h.size hb.size, fun k hk h1 h2 h3 => (hb.block k (Nat.lt_of_lt_of_le hk h.size)).trans (h.same k hk h1 h2 h3)⟩
theorem Fr.set {w W : World} {g : Nat} {v u : Value} (h : Fr w W g v u) (j : Nat) (x : Value) : Fr w (W.setCell ⟨g, j, none⟩ x) g v u := ⟨by simpa [World.setCell] using h.size, fun k hk h1 h2 h3 => (Below.heap_setCell W ⟨g, j, none⟩ x k h1).trans (h.same k hk h1 h2 h3)⟩
def NewOr (w : World) (v v' : Value) : Prop := v'.ownBlock = v.ownBlock ∨ v'.ownBlock = none ∨ ∃ k, v'.ownBlock = some k ∧ w.heap.size ≤ k
def NewU (w : World) (u u' : Value) : Prop := u' = u ∨ ∃ k, u' = .pointer (some ⟨k, 0, none⟩) ∧ w.heap.size ≤ k
theorem Fr.grown {w W W' : World} {g : Nat} {v u v1 : Value} (h : Fr w W g v u) (hn : NewOr w v v1) (hg : W.grownBy W' v1.ownBlock) : Fr w W' g v u := ⟨Nat.le_trans h.size hg.size, fun k hk h1 h2 h3 => (hg.block k (Nat.lt_of_lt_of_le hk h.size) (fun e => by
  rcases hn with e2 | e2 | ⟨j, e2, hj⟩
  · exact h2 (e.trans e2)
  · rw [e2] at e; cases e
  · rw [e2] at e; injection e with e; omega)).trans (h.same k hk h1 h2 h3)⟩
theorem Fr.keep {w W W' : World} {g gu : Nat} {v u u1 : Value} (h : Fr w W g v u) (hn : NewU w u u1) (hu : u1 = .pointer (some ⟨gu, 0, none⟩)) (hk : KeepBut W W' gu none) : Fr w W' g v u := ⟨Nat.le_trans h.size hk.1, fun k hlt h1 h2 h3 => (hk.2 k (Nat.lt_of_lt_of_le hlt h.size) (fun e => by
  subst e
  rcases hn with e2 | ⟨j, e2, hj⟩
  · exact h3 (e2 ▸ hu)
  · rw [hu] at e2
    injection e2 with e2
    injection e2 with e2
    injection e2 with e2
    omega) (by simp)).trans (h.same k hlt h1 h2 h3)⟩
end Go.Proofs.YtbjjobifpmjhhaaDoor

