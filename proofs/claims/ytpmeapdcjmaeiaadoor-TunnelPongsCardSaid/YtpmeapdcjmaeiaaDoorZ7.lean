/- What the law's row rests on, part 7. -/
import Derived.Test.YtpmeapdcjmaeiaaDoorZ6
import Derived.Deep.RegionHeld3
set_option linter.unusedVariables false
set_option linter.unusedSimpArgs false

namespace Go.Proofs.YtpmeapdcjmaeiaaDoor.PAll
open Go.RowKit Go.Proofs.YtpmeapdcjmaeiaaDoorW.PrintWords Go.Proofs.YtpmeapdcjmaeiaaDoorW.PrintLast Go.Proofs.YtpmeapdcjmaeiaaDoorW.PrintMore
attribute [local go_sem] max2_int min2_int max_two min_two max_three min_three max_four min_four
def utf_Checker_one.f (k : Nat) (s0_0 : Int) (s0_1 : Int) (s0_2 : Int) (s0_3 : Bool) (a1 : Int) : Option (Bool × Int × Int × Int × Bool) := if s0_0 = 0 then ((utf_Checker_first.f k s0_0 s0_1 s0_2 s0_3 a1).bind fun bt212 => (some (bt212.1, bt212.2.1, bt212.2.2.1, bt212.2.2.2.1, bt212.2.2.2.2))) else (if a1 < s0_1 then (some (false, s0_0, s0_1, s0_2, s0_3)) else (if a1 > s0_2 then (some (false, s0_0, s0_1, s0_2, s0_3)) else (some (true, wrap64 (s0_0 - 1), 128, 191, s0_3))))
set_option maxRecDepth 100000 in
theorem utf_Checker_one.mono : ∀ a0 a1 a2 a3 a4 k, LeO (utf_Checker_one.f k a0 a1 a2 a3 a4) (utf_Checker_one.f (k + 1) a0 a1 a2 a3 a4) := by
 intro a0 a1 a2 a3 a4 k
 unfold utf_Checker_one.f
 repeat' first
   | (with_reducible exact utf_Checker_first.mono _ _ _ _ _ _)
   | (with_reducible exact LeO.refl _)
   | (with_reducible exact LeO.none _)
   | (with_reducible refine LeO.ite ?_ ?_)
   | (with_reducible refine LeO.bind ?_ (fun _ => ?_))
   | exact utf_Checker_first.mono _ _ _ _ _ _
   | exact LeO.none _
   | refine LeO.ite ?_ ?_
   | refine LeO.bind ?_ (fun _ => ?_)
set_option maxHeartbeats 8000000 in
set_option maxRecDepth 100000 in
theorem utf_Checker_one.calls (k : Nat) (g : Nat) (s0_0 : Int) (s0_1 : Int) (s0_2 : Int) (s0_3 : Bool) (a1 : Int) (r1 : Bool) (r2 : Int) (r3 : Int) (r4 : Int) (r5 : Bool) (w0 w : World) (hI : IsS144 w0 w g s0_0 s0_1 s0_2 s0_3) (hB : Below w0.heap.size w0 w) (h : utf_Checker_one.f k s0_0 s0_1 s0_2 s0_3 a1 = some (r1, r2, r3, r4, r5)) :
  Calls Tryd.prog 75 #[.pointer (some ⟨g, 0, none⟩), .int .u8 a1] w fun e w' => e = .returned (.bool r1) ∧ IsS144 w0 w' g r2 r3 r4 r5 ∧ Below w0.heap.size w0 w' ∧ KeepBut w w' g none := by
 have hf58_1 := field58_1
 have hf76_0 := field76_0
 have HI0 := Aside0.mk hI
 have HK := Aside0.mk (KeepBut.refl w g none)
 have HL := Aside0.mk hB.size
 clear hI
 have HW0 := Aside0.mk hB.size
 have HB := Aside0.mk hB
 clear hB
 have H : (if s0_0 = 0 then ((utf_Checker_first.f k s0_0 s0_1 s0_2 s0_3 a1).bind fun bt212 => (some (bt212.1, bt212.2.1, bt212.2.2.1, bt212.2.2.2.1, bt212.2.2.2.2))) else (if a1 < s0_1 then (some (false, s0_0, s0_1, s0_2, s0_3)) else (if a1 > s0_2 then (some (false, s0_0, s0_1, s0_2, s0_3)) else (some (true, wrap64 (s0_0 - 1), 128, 191, s0_3))))) = some (r1, r2, r3, r4, r5) := h
 clear h
 by_cases c3 : s0_0 = 0
 ·rw [if_pos c3] at H
  have c3b0 : (s0_0 == 0) = true := beq_iff_eq.mpr c3
  have c3b1 : (s0_0 != 0) = false := bne_eq_false_iff_eq.mpr c3
  clear c3
  replace H := Option.bind_eq_some_iff.mp H
  obtain ⟨⟨t212, t213, t214, t215, t216⟩, A40, H⟩ := H
  replace H : (some (t212, t213, t214, t215, t216)) = some (r1, r2, r3, r4, r5) := H
  have A4 := Aside0.mk A40
  clear A40
  simp only [Option.some.injEq, Prod.mk.injEq] at H
  obtain ⟨rfl, rfl, rfl, rfl, rfl⟩ := H
  obtain ⟨HGz5, hgz5⟩ := HI0.out
  have hcz5_0 := cellS144_0 HGz5
  have hcz5_1 := cellS144_1 HGz5
  have hcz5_2 := cellS144_2 HGz5
  have hcz5_3 := cellS144_3 HGz5
  have hfz5_0 := blk_frozen HGz5 0
  have hfz5_1 := blk_frozen HGz5 1
  have hfz5_2 := blk_frozen HGz5 2
  have hfz5_3 := blk_frozen HGz5 3
  clear HGz5 hgz5
  go_enter Tryd.func75, Tryd.ntmps75
  go_wp2_with (first | ((with_reducible refine gate_callee (f := 80) rfl ?_); refine goesL_ (some 12) rfl rfl Tryd.func80 (by kernel_rfl) rfl #[.pointer (some ⟨g, 0, none⟩), .int .u8 a1] rfl (by exact q1_) ?_; (with_reducible refine (utf_Checker_first.calls k g s0_0 s0_1 s0_2 s0_3 a1 t212 t213 t214 t215 t216 w0 _ ?side1 ?side2 A4.out).mono ?_); (case side1 => exact q12_ HI0.out); (case side2 => exact q3_ HB.out (IsS144.ge HI0.out)); rintro e w6 ⟨rfl, hi, hb, hk⟩; refine ⟨_, rfl, ?_⟩; have n0_ := Aside0.mk (KeepBut.trans (by exact q5_ HK.out) hk (.inl rfl)); have n1_ := Aside0.mk (hb); have n2_ := Aside0.mk (hi); clear HK; clear HB; clear HI0; have HK := n0_; have HB := n1_; have HI0 := n2_; clear n0_ n1_ n2_; (try clear hb); (try clear hb2); (try clear hk); (try clear hi)))
  go_ret
  exact ⟨by exact q11_, by first | ((exact q12_ HI0.out); done) | (rw [‹((_ : Int) == _) = _›]; ((exact q12_ HI0.out); done)) | (exact q12_ HI0.out), by exact q3_ HB.out (IsS144.ge HI0.out), by exact q5_ HK.out⟩
 ·rw [if_neg c3] at H
  have c3b0 : (s0_0 == 0) = false := beq_eq_false_iff_ne.mpr c3
  have c3b1 : (s0_0 != 0) = true := bne_iff_ne.mpr c3
  by_cases c7 : a1 < s0_1
  ·rw [if_pos c7] at H
   have c7b0 : decide (a1 < s0_1) = true := decide_eq_true c7
   clear c7
   simp only [Option.some.injEq, Prod.mk.injEq] at H
   obtain ⟨rfl, rfl, rfl, rfl, rfl⟩ := H
   obtain ⟨HGz8, hgz8⟩ := HI0.out
   have hcz8_0 := cellS144_0 HGz8
   have hcz8_1 := cellS144_1 HGz8
   have hcz8_2 := cellS144_2 HGz8
   have hcz8_3 := cellS144_3 HGz8
   have hfz8_0 := blk_frozen HGz8 0
   have hfz8_1 := blk_frozen HGz8 1
   have hfz8_2 := blk_frozen HGz8 2
   have hfz8_3 := blk_frozen HGz8 3
   clear HGz8 hgz8
   go_enter Tryd.func75, Tryd.ntmps75
   go_wp2
   go_ret
   exact ⟨by exact q11_, by first | ((exact q12_ HI0.out); done) | (rw [‹((_ : Int) == _) = _›]; ((exact q12_ HI0.out); done)) | (exact q12_ HI0.out), by exact q3_ HB.out (IsS144.ge HI0.out), by exact q5_ HK.out⟩
  ·rw [if_neg c7] at H
   have c7b0 : decide (a1 < s0_1) = false := decide_eq_false c7
   clear c7
   by_cases c9 : a1 > s0_2
   ·rw [if_pos c9] at H
    have c9b0 : decide (s0_2 < a1) = true := decide_eq_true c9
    clear c9
    simp only [Option.some.injEq, Prod.mk.injEq] at H
    obtain ⟨rfl, rfl, rfl, rfl, rfl⟩ := H
    obtain ⟨HGz10, hgz10⟩ := HI0.out
    have hcz10_0 := cellS144_0 HGz10
    have hcz10_1 := cellS144_1 HGz10
    have hcz10_2 := cellS144_2 HGz10
    have hcz10_3 := cellS144_3 HGz10
    have hfz10_0 := blk_frozen HGz10 0
    have hfz10_1 := blk_frozen HGz10 1
    have hfz10_2 := blk_frozen HGz10 2
    have hfz10_3 := blk_frozen HGz10 3
    clear HGz10 hgz10
    go_enter Tryd.func75, Tryd.ntmps75
    go_wp2
    go_ret
    exact ⟨by exact q11_, by first | ((exact q12_ HI0.out); done) | (rw [‹((_ : Int) == _) = _›]; ((exact q12_ HI0.out); done)) | (exact q12_ HI0.out), by exact q3_ HB.out (IsS144.ge HI0.out), by exact q5_ HK.out⟩
   ·rw [if_neg c9] at H
    have c9b0 : decide (s0_2 < a1) = false := decide_eq_false c9
    clear c9
    simp only [Option.some.injEq, Prod.mk.injEq] at H
    obtain ⟨rfl, rfl, rfl, rfl, rfl⟩ := H
    obtain ⟨HGz11, hgz11⟩ := HI0.out
    have hcz11_0 := cellS144_0 HGz11
    have hcz11_1 := cellS144_1 HGz11
    have hcz11_2 := cellS144_2 HGz11
    have hcz11_3 := cellS144_3 HGz11
    have hfz11_0 := blk_frozen HGz11 0
    have hfz11_1 := blk_frozen HGz11 1
    have hfz11_2 := blk_frozen HGz11 2
    have hfz11_3 := blk_frozen HGz11 3
    clear HGz11 hgz11
    go_enter Tryd.func75, Tryd.ntmps75
    go_wp2
    go_ret
    exact ⟨by exact q11_, by first | ((exact q12_ HI0.out); done) | (rw [‹((_ : Int) == _) = _›]; ((exact q12_ HI0.out); done)) | (exact q12_ HI0.out), by exact q3_ HB.out (IsS144.ge HI0.out), by exact q5_ HK.out⟩
def utf_Checker_Feed.l0 : Nat → List Int → List Int → Int → Int → Int → Int → Int → Bool → Option (Int × Int × Int × Int × Bool)
 | 0, _, _, _, _, _, _, _, _ => none
 | k + 1, x1, x9, x10, x11, x1000, x1001, x1002, x1003 => if x11 < x10 then (if 0 ≤ x11 then (if x11 < (x9.length : Int) then ((utf_Checker_one.f k x1000 x1001 x1002 x1003 (rd x9 x11)).bind fun bt223 => (if bt223.1 = true then (utf_Checker_Feed.l0 k x1 x9 x10 (wrap64 (x11 + 1)) bt223.2.1 bt223.2.2.1 bt223.2.2.2.1 bt223.2.2.2.2) else (some (x11, bt223.2.1, bt223.2.2.1, bt223.2.2.2.1, true)))) else (none)) else (none)) else (some ((x1.length : Int), x1000, x1001, x1002, x1003))
def utf_Checker_Feed.f (k : Nat) (s0_0 : Int) (s0_1 : Int) (s0_2 : Int) (s0_3 : Bool) (l1 : List Int) : Option (Int × Int × Int × Int × Bool) := (utf_Checker_Bad.f s0_0 s0_1 s0_2 s0_3).bind fun bt217 => (if bt217.1 = true then (some (0, bt217.2.1, bt217.2.2.1, bt217.2.2.2.1, bt217.2.2.2.2)) else (utf_Checker_Feed.l0 k l1 l1 (l1.length : Int) 0 bt217.2.1 bt217.2.2.1 bt217.2.2.2.1 bt217.2.2.2.2))
set_option maxRecDepth 100000 in
theorem utf_Checker_Feed.mono_l : ∀ k, (∀ y0 y1 y2 y3 y4 y5 y6 y7, LeO (utf_Checker_Feed.l0 k y0 y1 y2 y3 y4 y5 y6 y7) (utf_Checker_Feed.l0 (k + 1) y0 y1 y2 y3 y4 y5 y6 y7))
 | 0 => fun _ _ _ _ _ _ _ _ r h => by (unfold utf_Checker_Feed.l0 at h; cases h)
 | k + 1 => by
  have ih0 := utf_Checker_Feed.mono_l k
  ·intro y0 y1 y2 y3 y4 y5 y6 y7
   unfold utf_Checker_Feed.l0
   repeat' first
   | (with_reducible exact ih0 _ _ _ _ _ _ _ _)
   | (with_reducible exact utf_Checker_one.mono _ _ _ _ _ _)
   | (with_reducible exact LeO.refl _)
   | (with_reducible exact LeO.none _)
   | (with_reducible refine LeO.ite ?_ ?_)
   | (with_reducible refine LeO.bind ?_ (fun _ => ?_))
   | exact ih0 _ _ _ _ _ _ _ _
   | exact utf_Checker_one.mono _ _ _ _ _ _
   | exact LeO.none _
   | refine LeO.ite ?_ ?_
   | refine LeO.bind ?_ (fun _ => ?_)
set_option maxRecDepth 100000 in
theorem utf_Checker_Feed.mono : ∀ a0 a1 a2 a3 a4 k, LeO (utf_Checker_Feed.f k a0 a1 a2 a3 a4) (utf_Checker_Feed.f (k + 1) a0 a1 a2 a3 a4) := by
 intro a0 a1 a2 a3 a4 k
 have ih0 := utf_Checker_Feed.mono_l k
 unfold utf_Checker_Feed.f
 repeat' first
   | (with_reducible exact ih0 _ _ _ _ _ _ _ _)
   | (with_reducible exact utf_Checker_one.mono _ _ _ _ _ _)
   | (with_reducible exact LeO.refl _)
   | (with_reducible exact LeO.none _)
   | (with_reducible refine LeO.ite ?_ ?_)
   | (with_reducible refine LeO.bind ?_ (fun _ => ?_))
   | exact ih0 _ _ _ _ _ _ _ _
   | exact utf_Checker_one.mono _ _ _ _ _ _
   | exact LeO.none _
   | refine LeO.ite ?_ ?_
   | refine LeO.bind ?_ (fun _ => ?_)
set_option maxHeartbeats 8000000 in
set_option maxRecDepth 100000 in
theorem utf_Checker_Feed.calls (k : Nat) (g : Nat) (s0_0 : Int) (s0_1 : Int) (s0_2 : Int) (s0_3 : Bool) (A1 : Option Addr) (c1 : Nat) (l1 : List Int) (r1 : Int) (r2 : Int) (r3 : Int) (r4 : Int) (r5 : Bool) (w0 w : World) (hI : IsS144 w0 w g s0_0 s0_1 s0_2 s0_3) (hB : Below w0.heap.size w0 w) (hr1 : Kd.C (Kd.int .u8) w A1 l1.length l1) (hc1 : l1.length ≤ c1) (hf1 : ∀ ad, A1 = some ad → 0 < l1.length → ad.block ≠ g) (h : utf_Checker_Feed.f k s0_0 s0_1 s0_2 s0_3 l1 = some (r1, r2, r3, r4, r5)) :
  Calls Tryd.prog 63 #[.pointer (some ⟨g, 0, none⟩), .slice A1 l1.length c1] w fun e w' => e = .returned (.int .i64 r1) ∧ IsS144 w0 w' g r2 r3 r4 r5 ∧ Below w0.heap.size w0 w' ∧ KeepBut w w' g none := by
 have hf58_1 := field58_1
 have hf76_0 := field76_0
 have HR1 := Aside0.mk hr1
 have HC1 := Aside0.mk hc1
 clear hr1 hc1
 have HI0 := Aside0.mk hI
 have HK := Aside0.mk (KeepBut.refl w g none)
 have HL := Aside0.mk hB.size
 clear hI
 have HW0 := Aside0.mk hB.size
 have HB := Aside0.mk hB
 clear hB
 have H : ((utf_Checker_Bad.f s0_0 s0_1 s0_2 s0_3).bind fun bt217 => (if bt217.1 = true then (some (0, bt217.2.1, bt217.2.2.1, bt217.2.2.2.1, bt217.2.2.2.2)) else (utf_Checker_Feed.l0 k l1 l1 (l1.length : Int) 0 bt217.2.1 bt217.2.2.1 bt217.2.2.2.1 bt217.2.2.2.2))) = some (r1, r2, r3, r4, r5) := h
 clear h
 replace H := Option.bind_eq_some_iff.mp H
 obtain ⟨⟨t217, t218, t219, t220, t221⟩, A30, H⟩ := H
 replace H : (if t217 = true then (some (0, t218, t219, t220, t221)) else (utf_Checker_Feed.l0 k l1 l1 (l1.length : Int) 0 t218 t219 t220 t221)) = some (r1, r2, r3, r4, r5) := H
 have A3 := Aside0.mk A30
 clear A30
 by_cases c4 : t217 = true
 ·subst c4
  have H1 : (some (0, t218, t219, t220, t221)) = some (r1, r2, r3, r4, r5) := by rw [if_pos rfl] at H; exact H
  clear H
  have H := H1
  clear H1
  simp only [Option.some.injEq, Prod.mk.injEq] at H
  obtain ⟨rfl, rfl, rfl, rfl, rfl⟩ := H
  go_enter Tryd.func63, Tryd.ntmps63
  go_wp2_with (first | ((with_reducible refine gate_callee (f := 64) rfl ?_); refine goesL_ (some 8) rfl rfl Tryd.func64 (by kernel_rfl) rfl #[.pointer (some ⟨g, 0, none⟩)] rfl (by exact q1_) ?_; (with_reducible refine (utf_Checker_Bad.calls g s0_0 s0_1 s0_2 s0_3 true t218 t219 t220 t221 w0 _ ?side1 ?side2 A3.out).mono ?_); (case side1 => exact q12_ HI0.out); (case side2 => exact q3_ HB.out (IsS144.ge HI0.out)); rintro e w5 ⟨rfl, hi, hb, hk⟩; refine ⟨_, rfl, ?_⟩; have n0_ := Aside0.mk (KeepBut.trans (by exact q5_ HK.out) hk (.inl rfl)); have n1_ := Aside0.mk (hb); have n2_ := Aside0.mk (hi); clear HK; clear HB; clear HI0; have HK := n0_; have HB := n1_; have HI0 := n2_; clear n0_ n1_ n2_; (try clear hb); (try clear hb2); (try clear hk); (try clear hi)))
  go_ret
  exact ⟨by exact q11_, by first | ((exact q12_ HI0.out); done) | (rw [‹((_ : Int) == _) = _›]; ((exact q12_ HI0.out); done)) | (exact q12_ HI0.out), by exact q3_ HB.out (IsS144.ge HI0.out), by exact q5_ HK.out⟩
 ·replace c4 := Bool.eq_false_iff.mpr c4
  subst c4
  have H1 : (utf_Checker_Feed.l0 k l1 l1 (l1.length : Int) 0 t218 t219 t220 t221) = some (r1, r2, r3, r4, r5) := by rw [if_neg (show ¬ (false = true) by decide)] at H; exact H
  clear H
  have H := H1
  clear H1
  have H' := Aside0.mk H
  clear H
  go_enter Tryd.func63, Tryd.ntmps63
  go_wp2_with (first | ((with_reducible refine gate_callee (f := 64) rfl ?_); refine goesL_ (some 8) rfl rfl Tryd.func64 (by kernel_rfl) rfl #[.pointer (some ⟨g, 0, none⟩)] rfl (by exact q1_) ?_; (with_reducible refine (utf_Checker_Bad.calls g s0_0 s0_1 s0_2 s0_3 false t218 t219 t220 t221 w0 _ ?side1 ?side2 A3.out).mono ?_); (case side1 => exact q12_ HI0.out); (case side2 => exact q3_ HB.out (IsS144.ge HI0.out)); rintro e w6 ⟨rfl, hi, hb, hk⟩; refine ⟨_, rfl, ?_⟩; have n0_ := Aside0.mk (KeepBut.trans (by exact q5_ HK.out) hk (.inl rfl)); have n1_ := Aside0.mk (hb); have n2_ := Aside0.mk (hi); clear HK; clear HB; clear HI0; have HK := n0_; have HB := n1_; have HI0 := n2_; clear n0_ n1_ n2_; (try clear hb); (try clear hb2); (try clear hk); (try clear hi)))
  go_loopg [11] k (fun kq v11 w' => ∃ (x11_1 : Int) (x1000_1 : Int) (x1001_1 : Int) (x1002_1 : Int) (x1003_1 : Bool), v11 = .int .i64 x11_1 ∧ Aside0 (utf_Checker_Feed.l0 kq l1 l1 (l1.length : Int) x11_1 x1000_1 x1001_1 x1002_1 x1003_1 = some (r1, r2, r3, r4, r5)) ∧ Aside0 (kq ≤ k) ∧ Aside0 (IsS144 w0 w' g x1000_1 x1001_1 x1002_1 x1003_1) ∧ Aside0 (KeepBut w w' g none) ∧ Aside0 (Below w0.heap.size w0 w'))
  case atStart => exact ⟨(0), (t218), (t219), (t220), (t221), (by first | rfl | (simp; done) | (simp [*]; done)), H', ⟨Nat.le_refl _⟩, ⟨by exact q12_ HI0.out⟩, ⟨by exact q5_ HK.out⟩, ⟨by exact q3_ HB.out (IsS144.ge HI0.out)⟩⟩
  case round =>
   clear H'
   try clear c1
   try clear p2
   try clear c4
   try clear c6
   obtain ⟨x11_1, x1000_1, x1001_1, x1002_1, x1003_1, rfl, HA, HK1, HI0, HK, HB⟩ := hrel
   cases gk with
   | zero => exact absurd HA.out (by simp [utf_Checker_Feed.l0])
   | succ k1 =>
    have H := HA.out
    clear HA
    simp only [utf_Checker_Feed.l0] at H
    by_cases c7 : x11_1 < (l1.length : Int)
    ·rw [if_pos c7] at H
     have c7b0 : decide (x11_1 < (l1.length : Int)) = true := decide_eq_true c7
     clear c7
     by_cases c8 : 0 ≤ x11_1
     ·rw [if_pos c8] at H
      have c8b0 : decide (0 ≤ x11_1) = true := decide_eq_true c8
      clear c8
      by_cases c9 : x11_1 < (l1.length : Int)
      ·rw [if_pos c9] at H
       have c9b0 : decide (x11_1 < (l1.length : Int)) = true := decide_eq_true c9
       clear c9
       replace H := Option.bind_eq_some_iff.mp H
       obtain ⟨⟨t223, t224, t225, t226, t227⟩, A100, H⟩ := H
       replace H : (if t223 = true then (utf_Checker_Feed.l0 k1 l1 l1 (l1.length : Int) (wrap64 (x11_1 + 1)) t224 t225 t226 t227) else (some (x11_1, t224, t225, t226, true))) = some (r1, r2, r3, r4, r5) := H
       have A10 := Aside0.mk A100
       clear A100
       by_cases c11 : t223 = true
       ·subst c11
        have H1 : (utf_Checker_Feed.l0 k1 l1 l1 (l1.length : Int) (wrap64 (x11_1 + 1)) t224 t225 t226 t227) = some (r1, r2, r3, r4, r5) := by rw [if_pos rfl] at H; exact H
        clear H
        have H := H1
        clear H1
        have H' := Aside0.mk H
        clear H
        have p222 : 0 ≤ (x11_1 : Int) := of_decide_eq_true (by assumption)
        have q222 : x11_1 < (l1.length : Int) := of_decide_eq_true (by assumption)
        obtain ⟨ad222, e222, hx222_0⟩ := Kd.at_int HR1.out x11_1 p222 q222
        cases e222
        replace hx222_0 := keep_cell HK.out hx222_0 (by first | (rw [add_block]; exact hf1 _ rfl (by omega)) | exact hf1 _ rfl (by omega) | exact hf1 ad222 rfl (by omega))
        replace p222 := eq_true p222
        replace q222 := eq_true q222
        go_wp2_with (first | ((with_reducible refine gate_callee (f := 75) rfl ?_); refine goesL_ (some 18) rfl rfl Tryd.func75 (by kernel_rfl) rfl #[.pointer (some ⟨g, 0, none⟩), .int .u8 (rd l1 x11_1)] rfl (by exact q1_) ?_; (with_reducible refine (utf_Checker_one.calls k1 g x1000_1 x1001_1 x1002_1 x1003_1 (rd l1 x11_1) true t224 t225 t226 t227 w0 _ ?side1 ?side2 A10.out).mono ?_); (case side1 => exact q12_ HI0.out); (case side2 => exact q3_ HB.out (IsS144.ge HI0.out)); rintro e w12 ⟨rfl, hi, hb, hk⟩; refine ⟨_, rfl, ?_⟩; have n0_ := Aside0.mk (KeepBut.trans (by exact q5_ HK.out) hk (.inl rfl)); have n1_ := Aside0.mk (hb); have n2_ := Aside0.mk (hi); clear HK; clear HB; clear HI0; have HK := n0_; have HB := n1_; have HI0 := n2_; clear n0_ n1_ n2_; (try clear hb); (try clear hb2); (try clear hk); (try clear hi)))
        go_roundg k1
        case measure => have := HK1.out; omega
        case rel => exact ⟨(wrap64 (x11_1 + 1)), (t224), (t225), (t226), (t227), (by first | rfl | (simp; done) | (simp [*]; done)), H', ⟨by have := HK1.out; omega⟩, ⟨by exact q12_ HI0.out⟩, ⟨by exact q5_ HK.out⟩, ⟨by exact q3_ HB.out (IsS144.ge HI0.out)⟩⟩
       ·replace c11 := Bool.eq_false_iff.mpr c11
        subst c11
        have H1 : (some (x11_1, t224, t225, t226, true)) = some (r1, r2, r3, r4, r5) := by rw [if_neg (show ¬ (false = true) by decide)] at H; exact H
        clear H
        have H := H1
        clear H1
        simp only [Option.some.injEq, Prod.mk.injEq] at H
        obtain ⟨rfl, rfl, rfl, rfl, rfl⟩ := H
        have p222 : 0 ≤ (x11_1 : Int) := of_decide_eq_true (by assumption)
        have q222 : x11_1 < (l1.length : Int) := of_decide_eq_true (by assumption)
        obtain ⟨ad222, e222, hx222_0⟩ := Kd.at_int HR1.out x11_1 p222 q222
        cases e222
        replace hx222_0 := keep_cell HK.out hx222_0 (by first | (rw [add_block]; exact hf1 _ rfl (by omega)) | exact hf1 _ rfl (by omega) | exact hf1 ad222 rfl (by omega))
        replace p222 := eq_true p222
        replace q222 := eq_true q222
        go_wp2_with (first | ((with_reducible refine gate_callee (f := 75) rfl ?_); refine goesL_ (some 18) rfl rfl Tryd.func75 (by kernel_rfl) rfl #[.pointer (some ⟨g, 0, none⟩), .int .u8 (rd l1 x11_1)] rfl (by exact q1_) ?_; (with_reducible refine (utf_Checker_one.calls k1 g x1000_1 x1001_1 x1002_1 x1003_1 (rd l1 x11_1) false t224 t225 t226 t227 w0 _ ?side1 ?side2 A10.out).mono ?_); (case side1 => exact q12_ HI0.out); (case side2 => exact q3_ HB.out (IsS144.ge HI0.out)); rintro e w13 ⟨rfl, hi, hb, hk⟩; refine ⟨_, rfl, ?_⟩; have n0_ := Aside0.mk (KeepBut.trans (by exact q5_ HK.out) hk (.inl rfl)); have n1_ := Aside0.mk (hb); have n2_ := Aside0.mk (hi); clear HK; clear HB; clear HI0; have HK := n0_; have HB := n1_; have HI0 := n2_; clear n0_ n1_ n2_; (try clear hb); (try clear hb2); (try clear hk); (try clear hi); obtain ⟨HGz14, hgz14⟩ := HI0.out; have hcz14_0 := cellS144_0 HGz14; have hcz14_1 := cellS144_1 HGz14; have hcz14_2 := cellS144_2 HGz14; have hcz14_3 := cellS144_3 HGz14; have hfz14_0 := blk_frozen HGz14 0; have hfz14_1 := blk_frozen HGz14 1; have hfz14_2 := blk_frozen HGz14 2; have hfz14_3 := blk_frozen HGz14 3; clear HGz14 hgz14))
        go_ret
        exact ⟨by exact q11_, by first | ((exact q12_ HI0.out); done) | (rw [‹((_ : Int) == _) = _›]; ((exact q12_ HI0.out); done)) | (exact q12_ HI0.out), by exact q3_ HB.out (IsS144.ge HI0.out), by exact q5_ HK.out⟩
      ·rw [if_neg c9] at H
       exact absurd H (by simp)
     ·rw [if_neg c8] at H
      exact absurd H (by simp)
    ·rw [if_neg c7] at H
     have c7b0 : decide (x11_1 < (l1.length : Int)) = false := decide_eq_false c7
     clear c7
     simp only [Option.some.injEq, Prod.mk.injEq] at H
     obtain ⟨rfl, rfl, rfl, rfl, rfl⟩ := H
     go_wp2
     go_ret
     exact ⟨by exact q11_, by first | ((exact q12_ HI0.out); done) | (rw [‹((_ : Int) == _) = _›]; ((exact q12_ HI0.out); done)) | (exact q12_ HI0.out), by exact q3_ HB.out (IsS144.ge HI0.out), by exact q5_ HK.out⟩
def utf_Checker_Whole.f (s0_0 : Int) (s0_1 : Int) (s0_2 : Int) (s0_3 : Bool) : Option (Bool × Int × Int × Int × Bool) := (utf_Checker_Bad.f s0_0 s0_1 s0_2 s0_3).bind fun bt228 => (if bt228.1 = true then (some (false, bt228.2.1, bt228.2.2.1, bt228.2.2.2.1, bt228.2.2.2.2)) else (some ((bt228.2.1 == 0), bt228.2.1, bt228.2.2.1, bt228.2.2.2.1, bt228.2.2.2.2)))
set_option maxHeartbeats 8000000 in
set_option maxRecDepth 100000 in
theorem utf_Checker_Whole.calls (g : Nat) (s0_0 : Int) (s0_1 : Int) (s0_2 : Int) (s0_3 : Bool) (r1 : Bool) (r2 : Int) (r3 : Int) (r4 : Int) (r5 : Bool) (w0 w : World) (hI : IsS144 w0 w g s0_0 s0_1 s0_2 s0_3) (hB : Below w0.heap.size w0 w) (h : utf_Checker_Whole.f s0_0 s0_1 s0_2 s0_3 = some (r1, r2, r3, r4, r5)) :
  Calls Tryd.prog 65 #[.pointer (some ⟨g, 0, none⟩)] w fun e w' => e = .returned (.bool r1) ∧ IsS144 w0 w' g r2 r3 r4 r5 ∧ Below w0.heap.size w0 w' ∧ KeepBut w w' g none := by
 have hf58_1 := field58_1
 have hf76_0 := field76_0
 have HI0 := Aside0.mk hI
 have HK := Aside0.mk (KeepBut.refl w g none)
 have HL := Aside0.mk hB.size
 clear hI
 have HW0 := Aside0.mk hB.size
 have HB := Aside0.mk hB
 clear hB
 have H : ((utf_Checker_Bad.f s0_0 s0_1 s0_2 s0_3).bind fun bt228 => (if bt228.1 = true then (some (false, bt228.2.1, bt228.2.2.1, bt228.2.2.2.1, bt228.2.2.2.2)) else (some ((bt228.2.1 == 0), bt228.2.1, bt228.2.2.1, bt228.2.2.2.1, bt228.2.2.2.2)))) = some (r1, r2, r3, r4, r5) := h
 clear h
 replace H := Option.bind_eq_some_iff.mp H
 obtain ⟨⟨t228, t229, t230, t231, t232⟩, A20, H⟩ := H
 replace H : (if t228 = true then (some (false, t229, t230, t231, t232)) else (some ((t229 == 0), t229, t230, t231, t232))) = some (r1, r2, r3, r4, r5) := H
 have A2 := Aside0.mk A20
 clear A20
 by_cases c3 : t228 = true
 ·subst c3
  have H1 : (some (false, t229, t230, t231, t232)) = some (r1, r2, r3, r4, r5) := by rw [if_pos rfl] at H; exact H
  clear H
  have H := H1
  clear H1
  simp only [Option.some.injEq, Prod.mk.injEq] at H
  obtain ⟨rfl, rfl, rfl, rfl, rfl⟩ := H
  go_enter Tryd.func65, Tryd.ntmps65
  go_wp2_with (first | ((with_reducible refine gate_callee (f := 64) rfl ?_); refine goesL_ (some 4) rfl rfl Tryd.func64 (by kernel_rfl) rfl #[.pointer (some ⟨g, 0, none⟩)] rfl (by exact q1_) ?_; (with_reducible refine (utf_Checker_Bad.calls g s0_0 s0_1 s0_2 s0_3 true t229 t230 t231 t232 w0 _ ?side1 ?side2 A2.out).mono ?_); (case side1 => exact q12_ HI0.out); (case side2 => exact q3_ HB.out (IsS144.ge HI0.out)); rintro e w4 ⟨rfl, hi, hb, hk⟩; refine ⟨_, rfl, ?_⟩; have n0_ := Aside0.mk (KeepBut.trans (by exact q5_ HK.out) hk (.inl rfl)); have n1_ := Aside0.mk (hb); have n2_ := Aside0.mk (hi); clear HK; clear HB; clear HI0; have HK := n0_; have HB := n1_; have HI0 := n2_; clear n0_ n1_ n2_; (try clear hb); (try clear hb2); (try clear hk); (try clear hi)))
  go_ret
  exact ⟨by exact q11_, by first | ((exact q12_ HI0.out); done) | (rw [‹((_ : Int) == _) = _›]; ((exact q12_ HI0.out); done)) | (exact q12_ HI0.out), by exact q3_ HB.out (IsS144.ge HI0.out), by exact q5_ HK.out⟩
 ·replace c3 := Bool.eq_false_iff.mpr c3
  subst c3
  have H1 : (some ((t229 == 0), t229, t230, t231, t232)) = some (r1, r2, r3, r4, r5) := by rw [if_neg (show ¬ (false = true) by decide)] at H; exact H
  clear H
  have H := H1
  clear H1
  simp only [Option.some.injEq, Prod.mk.injEq] at H
  obtain ⟨rfl, rfl, rfl, rfl, rfl⟩ := H
  go_enter Tryd.func65, Tryd.ntmps65
  go_wp2_with (first | ((with_reducible refine gate_callee (f := 64) rfl ?_); refine goesL_ (some 4) rfl rfl Tryd.func64 (by kernel_rfl) rfl #[.pointer (some ⟨g, 0, none⟩)] rfl (by exact q1_) ?_; (with_reducible refine (utf_Checker_Bad.calls g s0_0 s0_1 s0_2 s0_3 false t229 t230 t231 t232 w0 _ ?side1 ?side2 A2.out).mono ?_); (case side1 => exact q12_ HI0.out); (case side2 => exact q3_ HB.out (IsS144.ge HI0.out)); rintro e w5 ⟨rfl, hi, hb, hk⟩; refine ⟨_, rfl, ?_⟩; have n0_ := Aside0.mk (KeepBut.trans (by exact q5_ HK.out) hk (.inl rfl)); have n1_ := Aside0.mk (hb); have n2_ := Aside0.mk (hi); clear HK; clear HB; clear HI0; have HK := n0_; have HB := n1_; have HI0 := n2_; clear n0_ n1_ n2_; (try clear hb); (try clear hb2); (try clear hk); (try clear hi); obtain ⟨HGz6, hgz6⟩ := HI0.out; have hcz6_0 := cellS144_0 HGz6; have hcz6_1 := cellS144_1 HGz6; have hcz6_2 := cellS144_2 HGz6; have hcz6_3 := cellS144_3 HGz6; have hfz6_0 := blk_frozen HGz6 0; have hfz6_1 := blk_frozen HGz6 1; have hfz6_2 := blk_frozen HGz6 2; have hfz6_3 := blk_frozen HGz6 3; clear HGz6 hgz6))
  go_ret
  exact ⟨by exact q11_, by first | ((exact q12_ HI0.out); done) | (rw [‹((_ : Int) == _) = _›]; ((exact q12_ HI0.out); done)) | (exact q12_ HI0.out), by exact q3_ HB.out (IsS144.ge HI0.out), by exact q5_ HK.out⟩
def utf_Valid.f (k : Nat) (l0 : List Int) : Option (Bool) := (utf_New.f).bind fun bt233 => ((utf_Checker_Feed.f k bt233.1 bt233.2.1 bt233.2.2.1 bt233.2.2.2 l0).bind fun bt238 => ((utf_Checker_Whole.f bt238.2.1 bt238.2.2.1 bt238.2.2.2.1 bt238.2.2.2.2).bind fun bt243 => (some bt243.1)))
set_option maxRecDepth 100000 in
theorem utf_Valid.mono : ∀ a0 k, LeO (utf_Valid.f k a0) (utf_Valid.f (k + 1) a0) := by
 intro a0 k
 unfold utf_Valid.f
 repeat' first
   | (with_reducible exact utf_Checker_Feed.mono _ _ _ _ _ _)
   | (with_reducible exact LeO.refl _)
   | (with_reducible exact LeO.none _)
   | (with_reducible refine LeO.ite ?_ ?_)
   | (with_reducible refine LeO.bind ?_ (fun _ => ?_))
   | exact utf_Checker_Feed.mono _ _ _ _ _ _
   | exact LeO.none _
   | refine LeO.ite ?_ ?_
   | refine LeO.bind ?_ (fun _ => ?_)
set_option maxHeartbeats 8000000 in
set_option maxRecDepth 100000 in
theorem utf_Valid.calls (k : Nat) (A0 : Option Addr) (c0 : Nat) (l0 : List Int) (r : Bool) (w : World) (hr0 : Kd.C (Kd.int .u8) w A0 l0.length l0) (hc0 : l0.length ≤ c0) (h : utf_Valid.f k l0 = some r) :
  Calls Tryd.prog 67 #[.slice A0 l0.length c0] w fun e w' => e = .returned (.bool r) ∧ Below w.heap.size w w' := by
 have hf58_1 := field58_1
 have hf76_0 := field76_0
 have HR0 := Aside0.mk hr0
 have HC0 := Aside0.mk hc0
 clear hr0 hc0
 have HB := Aside0.mk (Below.refl w.heap.size w)
 have H : ((utf_New.f).bind fun bt233 => ((utf_Checker_Feed.f k bt233.1 bt233.2.1 bt233.2.2.1 bt233.2.2.2 l0).bind fun bt238 => ((utf_Checker_Whole.f bt238.2.1 bt238.2.2.1 bt238.2.2.2.1 bt238.2.2.2.2).bind fun bt243 => (some bt243.1)))) = some r := h
 clear h
 replace H := Option.bind_eq_some_iff.mp H
 obtain ⟨⟨t233, t234, t235, t236⟩, A20, H⟩ := H
 replace H : ((utf_Checker_Feed.f k t233 t234 t235 t236 l0).bind fun bt238 => ((utf_Checker_Whole.f bt238.2.1 bt238.2.2.1 bt238.2.2.2.1 bt238.2.2.2.2).bind fun bt243 => (some bt243.1))) = some r := H
 have A2 := Aside0.mk A20
 clear A20
 replace H := Option.bind_eq_some_iff.mp H
 obtain ⟨⟨t238, t239, t240, t241, t242⟩, A30, H⟩ := H
 replace H : ((utf_Checker_Whole.f t239 t240 t241 t242).bind fun bt243 => (some bt243.1)) = some r := H
 have A3 := Aside0.mk A30
 clear A30
 replace H := Option.bind_eq_some_iff.mp H
 obtain ⟨⟨t243, t244, t245, t246, t247⟩, A40, H⟩ := H
 replace H : (some t243) = some r := H
 have A4 := Aside0.mk A40
 clear A40
 obtain rfl := Option.some.inj H
 go_enter Tryd.func67, Tryd.ntmps67
 go_wp2_with (first | ((with_reducible refine gate_callee (f := 62) rfl ?_); refine goesL_ (some 4) rfl rfl Tryd.func62 (by kernel_rfl) rfl #[] rfl (by exact q1_) ?_; (with_reducible refine (utf_New.calls  t233 t234 t235 t236 w _ ?side1 A2.out).mono ?_); (case side1 => exact q2_ HB.out); rintro e w5 ⟨g237, rfl, hi, hb, hb2⟩; refine ⟨_, rfl, ?_⟩; have n0_ := Aside0.mk (hb); have n1_ := Aside0.mk (hi); clear HB; have HB := n0_; have HI237 := n1_; clear n0_ n1_; (try clear hb); (try clear hb2); (try clear hk); (try clear hi)) | ((with_reducible refine gate_callee (f := 63) rfl ?_); refine goesL_ (some 7) rfl rfl Tryd.func63 (by kernel_rfl) rfl #[.pointer (some ⟨g237, 0, none⟩), .slice A0 l0.length c0] rfl (by exact q1_) ?_; (with_reducible refine (utf_Checker_Feed.calls k g237 t233 t234 t235 t236 _ _ l0 t238 t239 t240 t241 t242 w _ ?side1 ?side2 ?side3 ?side4 ?side5 A3.out).mono ?_); (case side1 => exact q12_ HI237.out); (case side2 => exact q3_ HB.out (IsS144.ge HI237.out)); (case side3 => repeat (first | exact (Kd.C_below HR0.out HB.out) | (with_reducible refine Kd.C_alloc ?_ _) | (with_reducible refine Kd.C_drewN ?_ _) | (with_reducible refine Kd.C_drew ?_))); (case side4 => exact HC0.out); (case side5 => exact Kd.far_C 0 HR0.out (IsS144.ge HI237.out)); rintro e w6 ⟨rfl, hi, hb, hk⟩; refine ⟨_, rfl, ?_⟩; have n0_ := Aside0.mk (hb); have n1_ := Aside0.mk (hi); clear HB; clear HI237; have HB := n0_; have HI237 := n1_; clear n0_ n1_; (try clear hb); (try clear hb2); (try clear hk); (try clear hi)) | ((with_reducible refine gate_callee (f := 65) rfl ?_); refine goesL_ (some 9) rfl rfl Tryd.func65 (by kernel_rfl) rfl #[.pointer (some ⟨g237, 0, none⟩)] rfl (by exact q1_) ?_; (with_reducible refine (utf_Checker_Whole.calls g237 t239 t240 t241 t242 t243 t244 t245 t246 t247 w _ ?side1 ?side2 A4.out).mono ?_); (case side1 => exact q12_ HI237.out); (case side2 => exact q3_ HB.out (IsS144.ge HI237.out)); rintro e w7 ⟨rfl, hi, hb, hk⟩; refine ⟨_, rfl, ?_⟩; have n0_ := Aside0.mk (hb); have n1_ := Aside0.mk (hi); clear HB; clear HI237; have HB := n0_; have HI237 := n1_; clear n0_ n1_; (try clear hb); (try clear hb2); (try clear hk); (try clear hi)))
 go_ret
 exact ⟨by exact q11_, by exact q3_ HB.out (IsS144.ge HI237.out)⟩
def message_whole.l0 : Nat → ByteArray → Int → Option ByteArray
 | 0, _, _ => none
 | k + 1, s, n => if 0 < n then (if n ≤ (s.size : Int) then ((utf_Valid.f k (bytesOf (s.extract 0 n.toNat))).bind fun t => if t = true then some (s.extract 0 n.toNat) else message_whole.l0 k s (n - 1)) else none) else some ByteArray.empty
def message_whole.f (k : Nat) (a0 : ByteArray) (a1 : Int) : Option ByteArray :=
 if (a0.size : Int) ≤ 9223372036854775807 then ((utf_Valid.f k (bytesOf a0)).bind fun t => if t = true then message_whole.l0 k a0 (min (a0.size : Int) a1) else some ByteArray.empty) else none
set_option maxRecDepth 100000 in
theorem message_whole.mono_l : ∀ k, (∀ y0 y1, LeO (message_whole.l0 k y0 y1) (message_whole.l0 (k + 1) y0 y1))
 | 0 => fun _ _ r h => by unfold message_whole.l0 at h; cases h
 | k + 1 => by
  have ih0 := message_whole.mono_l k
  ·intro y0 y1
   unfold message_whole.l0
   repeat' first
   | (with_reducible exact ih0 _ _)
   | (with_reducible exact utf_Valid.mono _ _)
   | (with_reducible exact LeO.refl _)
   | (with_reducible exact LeO.none _)
   | (with_reducible refine LeO.ite ?_ ?_)
   | (with_reducible refine LeO.bind ?_ (fun _ => ?_))
set_option maxRecDepth 100000 in
theorem message_whole.mono : ∀ a0 a1 k, LeO (message_whole.f k a0 a1) (message_whole.f (k + 1) a0 a1) := by
 intro a0 a1 k
 have ih0 := message_whole.mono_l k
 unfold message_whole.f
 repeat' first
   | (with_reducible exact ih0 _ _)
   | (with_reducible exact utf_Valid.mono _ _)
   | (with_reducible exact LeO.refl _)
   | (with_reducible exact LeO.none _)
   | (with_reducible refine LeO.ite ?_ ?_)
   | (with_reducible refine LeO.bind ?_ (fun _ => ?_))
attribute [local go_sem] max2_int min2_int max_two min_two max_three min_three max_four min_four
def Wholes (a0 r : ByteArray) (w : World) (i : Value) (wr : World) : Prop :=
 ∃ (n : Int) (kk : Nat), i = .int .i64 n ∧ n ≤ (a0.size : Int) ∧ message_whole.l0 kk a0 n = some r ∧ Below w.heap.size w wr
set_option maxHeartbeats 4000000 in
set_option maxRecDepth 100000 in
theorem message_whole.calls (k : Nat) (a0 : ByteArray) (a1 : Int) (r : ByteArray) (w : World) (h : message_whole.f k a0 a1 = some r) :
  Calls Tryd.prog 74 #[.string a0, .int .i64 a1] w fun e w' => e = .returned (.string r) ∧ Below w.heap.size w w' := by
 have hf58_1 := field58_1
 have hf76_0 := field76_0
 unfold message_whole.f at h
 have hsz : (a0.size : Int) ≤ 9223372036854775807 := by
  by_cases hb : (a0.size : Int) ≤ 9223372036854775807
  ·exact hb
  ·rw [if_neg hb] at h; cases h
 rw [if_pos hsz] at h
 obtain ⟨t, hv, h⟩ := Option.bind_eq_some_iff.mp h
 have HV := Aside0.mk hv
 have H := Aside0.mk h
 clear hv h
 have kb := fun (s : ByteArray) (W : World) => print_bytes (P := Tryd.prog) 9 26 5 Tryd.underlying9 Tryd.underlying26 Tryd.underlying5 s W
 go_enter Tryd.func74, Tryd.ntmps74
 go_wp2_with fail
 have hc0 : (Kd.int .u8).C (Lib.bytesWorld w 5 a0) (some ⟨w.heap.size, 0, none⟩) (bytesOf a0).length (bytesOf a0) := by
  have := Kd.C_of_reads (d := (0 : Int)) (h1 := fun _ => rfl) (bytes_reads w 5 a0 (by omega))
  rw [bytesOf_length]
  exact this
 refine (calls_of_args (by rw [bytesOf_length]) (utf_Valid.calls k _ _ (bytesOf a0) t _ hc0 (by rw [bytesOf_length]; exact grownCap_ge _ _ _ _) HV.out)).mono ?_
 rintro e w1 ⟨rfl, hb⟩
 have HB := Aside0.mk (below_step (bytes_below (Below.refl _ _) (Nat.le_refl _) 5 a0) hb)
 clear hb
 cases t with
 | false =>
  have hr : r = ByteArray.empty := by simpa using H.out.symm
  subst hr
  go_wp2_with fail
  go_ret
  exact ⟨rfl, HB.out⟩
 | true =>
  have H2 : message_whole.l0 k a0 (min (a0.size : Int) a1) = some r := by simpa using H.out
  have HK := Aside0.mk H2
  clear H2 H
  have hmin : min (a0.size : Int) a1 ≤ (a0.size : Int) := Int.min_le_left _ _
  go_wp2_with fail
  all_goals
   go_loopw [5] (fun i wr => Wholes a0 r w i wr) (fun i _ => (intOf i).toNat)
   case atStart => exact ⟨_, k, rfl, by omega, by (have hk := HK.out); (first | rw [Int.min_eq_left (by omega)] at hk | rw [Int.min_eq_right (by omega)] at hk); exact hk, HB.out⟩
   case round =>
    obtain ⟨n, kk, rfl, hn, hl, hB⟩ := hrel
    cases kk with
    | zero => unfold message_whole.l0 at hl; cases hl
    | succ kk =>
     unfold message_whole.l0 at hl
     clear HB
     have HB := Aside0.mk hB
     clear hB
     by_cases hpos : 0 < n
     ·rw [if_pos hpos, if_pos hn] at hl
      obtain ⟨t, hv, hl⟩ := Option.bind_eq_some_iff.mp hl
      have HV2 := Aside0.mk hv
      have HL := Aside0.mk hl
      clear hv hl
      have hxs : (a0.extract 0 n.toNat).size = n.toNat := by rw [ByteArray.size_extract]; omega
      have hc2 : (Kd.int .u8).C (Lib.bytesWorld wr 5 (a0.extract 0 n.toNat)) (some ⟨wr.heap.size, 0, none⟩) (bytesOf (a0.extract 0 n.toNat)).length (bytesOf (a0.extract 0 n.toNat)) := by
       have := Kd.C_of_reads (d := (0 : Int)) (h1 := fun _ => rfl) (bytes_reads wr 5 (a0.extract 0 n.toNat) (by omega))
       rw [bytesOf_length]
       exact this
      have hlen : (bytesOf (a0.extract 0 n.toNat)).length = n.toNat := by rw [bytesOf_length, hxs]
      have HX := Aside0.mk hxs
      have HC2 := Aside0.mk hc2
      have HLN := Aside0.mk hlen
      clear hxs hc2 hlen
      go_wp2_with fail
      refine (calls_of_args (by rw [HLN.out]) (utf_Valid.calls kk _ (grownCap wr n.toNat 0 5) (bytesOf (a0.extract 0 n.toNat)) t _ HC2.out (by rw [HLN.out]; exact grownCap_ge _ _ _ _) HV2.out)).mono ?_
      rintro e w3 ⟨rfl, hb3⟩
      replace HB := Aside0.mk (below_step (bytes_below HB.out HB.out.size 5 (a0.extract 0 n.toNat)) hb3)
      clear hb3
      cases t with
      | true =>
       have hr : r = a0.extract 0 n.toNat := by simpa using HL.out.symm
       subst hr
       go_wp2_with fail
       go_ret
       exact ⟨rfl, HB.out⟩
      | false =>
       have hl2 : message_whole.l0 kk a0 (n - 1) = some r := by simpa using HL.out
       have HL2 := Aside0.mk hl2
       clear hl2 HL
       go_wp2_with fail
       go_roundw
       case rel => exact ⟨n - 1, kk, by go_num, by omega, HL2.out, HB.out⟩
       case measure => simp [intOf]; omega
     ·rw [if_neg hpos] at hl
      have hr : r = ByteArray.empty := by simpa using hl.symm
      subst hr
      go_wp2_with fail
      go_ret
      exact ⟨rfl, HB.out⟩
def message_Close.f (k : Nat) (a0 : Int) (a1 : ByteArray) : Option (Bool × Int × Bool × Int × List Int) := (message_Told.f a0).bind fun t250 => (if t250 = true then ((some (([(a0 / 256) % 256, (a0) % 256] : List Int) : List Int)).bind fun y251 => ((message_whole.f k a1 123).bind fun t254 => (if y251.length + t254.size < 140737488355328 then (some (true, 8, false, 0, (y251 ++ bytesOf t254))) else (none)))) else (some (true, 8, false, 0, ([] : List Int))))
set_option maxRecDepth 100000 in
theorem message_Close.mono : ∀ a0 a1 k, LeO (message_Close.f k a0 a1) (message_Close.f (k + 1) a0 a1) := by
 intro a0 a1 k
 unfold message_Close.f
 repeat' first
   | (with_reducible exact message_whole.mono _ _ _)
   | (with_reducible exact LeO.refl _)
   | (with_reducible exact LeO.none _)
   | (with_reducible refine LeO.ite ?_ ?_)
   | (with_reducible refine LeO.bind ?_ (fun _ => ?_))
   | exact message_whole.mono _ _ _
   | exact LeO.none _
   | refine LeO.ite ?_ ?_
   | refine LeO.bind ?_ (fun _ => ?_)
set_option maxHeartbeats 8000000 in
set_option maxRecDepth 100000 in
theorem message_Close.calls (k : Nat) (a0 : Int) (a1 : ByteArray) (r1 : Bool) (r2 : Int) (r3 : Bool) (r4 : Int) (r5 : List Int) (w : World) (h : message_Close.f k a0 a1 = some (r1, r2, r3, r4, r5)) :
  Calls Tryd.prog 61 #[.int .u32 a0, .string a1] w fun e w' => ∃ v4_ : Value, e = .returned (.agg #[.bool r1, .int .u8 r2, .bool r3, .int .u32 r4, v4_]) ∧ Kd.R (Kd.int .u8) 5 w' w.heap.size (fun _ => True) v4_ r5 ∧ Below w.heap.size w w' := by
 have hf58_1 := field58_1
 have hf76_0 := field76_0
 have hu52 := Tryd.underlying52
 have HB := Aside0.mk (Below.refl w.heap.size w)
 have H : ((message_Told.f a0).bind fun t250 => (if t250 = true then ((some (([(a0 / 256) % 256, (a0) % 256] : List Int) : List Int)).bind fun y251 => ((message_whole.f k a1 123).bind fun t254 => (if y251.length + t254.size < 140737488355328 then (some (true, 8, false, 0, (y251 ++ bytesOf t254))) else (none)))) else (some (true, 8, false, 0, ([] : List Int))))) = some (r1, r2, r3, r4, r5) := h
 clear h
 replace H := Option.bind_eq_some_iff.mp H
 obtain ⟨t250, A30, H⟩ := H
 replace H : (if t250 = true then ((some (([(a0 / 256) % 256, (a0) % 256] : List Int) : List Int)).bind fun y251 => ((message_whole.f k a1 123).bind fun t254 => (if y251.length + t254.size < 140737488355328 then (some (true, 8, false, 0, (y251 ++ bytesOf t254))) else (none)))) else (some (true, 8, false, 0, ([] : List Int)))) = some (r1, r2, r3, r4, r5) := H
 have A3 := Aside0.mk A30
 clear A30
 by_cases c4 : t250 = true
 ·subst c4
  have H1 : ((some (([(a0 / 256) % 256, (a0) % 256] : List Int) : List Int)).bind fun y251 => ((message_whole.f k a1 123).bind fun t254 => (if y251.length + t254.size < 140737488355328 then (some (true, 8, false, 0, (y251 ++ bytesOf t254))) else (none)))) = some (r1, r2, r3, r4, r5) := by rw [if_pos rfl] at H; exact H
  clear H
  have H := H1
  clear H1
  obtain ⟨y251, hy251⟩ : ∃ y_ : List Int, y_ = (([(a0 / 256) % 256, (a0) % 256] : List Int)) := ⟨_, rfl⟩
  replace H : ((message_whole.f k a1 123).bind fun t254 => (if y251.length + t254.size < 140737488355328 then (some (true, 8, false, 0, (y251 ++ bytesOf t254))) else (none))) = some (r1, r2, r3, r4, r5) := by first | (rw [hy251]; with_reducible exact H) | (have H2_ := (Option.bind_some _ _).symm.trans H; rw [hy251]; with_reducible exact H2_) | (have H2_ := (Option.bind_some _ _).symm.trans H; with_reducible exact H2_) | with_reducible exact H | (rw [hy251]; exact H) | exact H
  have Ny251 := Aside0.mk hy251
  clear hy251
  replace H := Option.bind_eq_some_iff.mp H
  obtain ⟨t254, A50, H⟩ := H
  replace H : (if y251.length + t254.size < 140737488355328 then (some (true, 8, false, 0, (y251 ++ bytesOf t254))) else (none)) = some (r1, r2, r3, r4, r5) := H
  have A5 := Aside0.mk A50
  clear A50
  by_cases c6 : y251.length + t254.size < 140737488355328
  ·rw [if_pos c6] at H
   have LMc6 := Aside0.mk c6
   clear c6
   obtain ⟨y255, hy255⟩ : ∃ y_ : List Int, y_ = (y251 ++ bytesOf t254) := ⟨_, rfl⟩
   replace H : (some (true, 8, false, 0, y255)) = some (r1, r2, r3, r4, r5) := by first | (rw [hy255]; with_reducible exact H) | (have H2_ := (Option.bind_some _ _).symm.trans H; rw [hy255]; with_reducible exact H2_) | (have H2_ := (Option.bind_some _ _).symm.trans H; with_reducible exact H2_) | with_reducible exact H | (rw [hy255]; exact H) | exact H
   have Ny255 := Aside0.mk hy255
   clear hy255
   simp only [Option.some.injEq, Prod.mk.injEq] at H
   obtain ⟨rfl, rfl, rfl, rfl, rfl⟩ := H
   go_enter Tryd.func61, Tryd.ntmps61
   go_wp2_with (first | ((with_reducible refine gate_dst (N := 4) rfl ?_); refine box_event ?hg (N := 4) ?hd (cs := #[.bool false, .int .u8 0, .bool false, .int .u32 0, .slice none 0 0]) (t := 52) ?hr ?_; (case hd => rfl); (case hg => rfl); (case hr => first | (go_simp; done) | (go_simp; rfl)); intro gb248 hg w7 hbox hb; have n0_ := Aside0.mk (below_step (by exact q2_ HB.out) hb); have n1_ := Aside0.mk (hbox); have n2_ := Aside0.mk ((by rw [hg]; exact (below_size (by exact q2_ HB.out)) : w.heap.size ≤ gb248)); have n3_ := Aside0.mk ((by rw [hg]; exact (below_size (by exact q2_ HB.out)) : w.heap.size ≤ gb248)); clear HB; have HB := n0_; have BK248 := n1_; have GW248 := n2_; have GE248 := n3_; clear n0_ n1_ n2_ n3_; clear hb hbox hg) | ((with_reducible refine gate_dst (N := 5) rfl ?_); refine box_event ?hg (N := 5) ?hd (cs := #[.bool false, .int .u8 0, .bool false, .int .u32 0, .slice none 0 0]) (t := 52) ?hr ?_; (case hd => rfl); (case hg => rfl); (case hr => first | (go_simp; done) | (go_simp; rfl)); intro gb249 hg w8 hbox hb; have n0_ := Aside0.mk (blk_below (g := gb248) (o := .cells #[.bool false, .int .u8 0, .bool false, .int .u32 0, .slice none 0 0] 52 (0, 0)) (by exact q9_ BK248.out) hb); have n1_ := Aside0.mk (below_step (by exact q3_ HB.out GE248.out) hb); have n2_ := Aside0.mk (hbox); have n3_ := Aside0.mk ((by rw [hg]; exact (below_size (by exact q3_ HB.out GE248.out)) : w.heap.size ≤ gb249)); have n4_ := Aside0.mk ((by rw [hg]; exact (below_size (by exact q3_ HB.out GE248.out)) : w.heap.size ≤ gb249)); have n5_ := Aside0.mk ((by rw [hg]; exact Nat.ne_of_lt (blk_lt (g := gb248) (o := .cells #[.bool false, .int .u8 0, .bool false, .int .u32 0, .slice none 0 0] 52 (0, 0)) (by exact q9_ BK248.out)) : gb248 ≠ gb249)); have n6_ := Aside0.mk ((by rw [hg]; exact Nat.ne_of_gt (blk_lt (g := gb248) (o := .cells #[.bool false, .int .u8 0, .bool false, .int .u32 0, .slice none 0 0] 52 (0, 0)) (by exact q9_ BK248.out)) : gb249 ≠ gb248)); clear BK248; clear HB; have BK248 := n0_; have HB := n1_; have BK249 := n2_; have GW249 := n3_; have GE249 := n4_; have NB248_249 := n5_; have NB249_248 := n6_; clear n0_ n1_ n2_ n3_ n4_ n5_ n6_; clear hb hbox hg; have hnb9 := NB249_248.out; have hnc9 := NB248_249.out; have hcz10_0 : w8.cell? ⟨gb249, 0, none⟩ = some (.bool false) := (blk_cell BK249.out 0).trans rfl; have hcz10_1 : w8.cell? ⟨gb249, 1, none⟩ = some (.int .u8 0) := (blk_cell BK249.out 1).trans rfl; have hcz10_2 : w8.cell? ⟨gb249, 2, none⟩ = some (.bool false) := (blk_cell BK249.out 2).trans rfl; have hcz10_3 : w8.cell? ⟨gb249, 3, none⟩ = some (.int .u32 0) := (blk_cell BK249.out 3).trans rfl; have hcz10_4 : w8.cell? ⟨gb249, 4, none⟩ = some (.slice none 0 0) := (blk_cell BK249.out 4).trans rfl; have hfz10_0 := blk_frozen BK249.out 0; have hfz10_1 := blk_frozen BK249.out 1; have hfz10_2 := blk_frozen BK249.out 2; have hfz10_3 := blk_frozen BK249.out 3; have hfz10_4 := blk_frozen BK249.out 4) | ((with_reducible refine gate_callee (f := 66) rfl ?_); refine goesL_ (some 8) rfl rfl Tryd.func66 (by kernel_rfl) rfl #[.int .u32 a0] rfl (by exact q1_) ?_; (with_reducible refine (message_Told.calls a0 true _ A3.out).mono ?_); rintro e w11 ⟨rfl, hb⟩; refine ⟨_, rfl, ?_⟩; have n0_ := Aside0.mk (blk_below (g := gb248) (o := .cells #[.bool false, .int .u8 0, .bool false, .int .u32 0, .slice none 0 0] 52 (0, 0)) (by exact q16_ BK248.out NB248_249.out NB248_249.out NB248_249.out NB248_249.out NB248_249.out) hb); have n1_ := Aside0.mk (blk_below (g := gb249) (o := .cells #[.bool true, .int .u8 8, .bool false, .int .u32 0, .slice none 0 0] 52 (0, 0)) (by (with_reducible repeat (first | refine blk_drewN ?_ _ | refine blk_drew ?_ | refine blk_alloc ?_ _)); refine blk_put (cs := #[.bool true, .int .u8 8, .bool false, .int .u32 0, .slice none 0 0]) ?_ 4 _ rfl; (with_reducible repeat (first | refine blk_drewN ?_ _ | refine blk_drew ?_ | refine blk_alloc ?_ _)); refine blk_put (cs := #[.bool true, .int .u8 8, .bool false, .int .u32 0, .slice none 0 0]) ?_ 3 _ rfl; (with_reducible repeat (first | refine blk_drewN ?_ _ | refine blk_drew ?_ | refine blk_alloc ?_ _)); refine blk_put (cs := #[.bool true, .int .u8 8, .bool false, .int .u32 0, .slice none 0 0]) ?_ 2 _ rfl; (with_reducible repeat (first | refine blk_drewN ?_ _ | refine blk_drew ?_ | refine blk_alloc ?_ _)); refine blk_put (cs := #[.bool true, .int .u8 0, .bool false, .int .u32 0, .slice none 0 0]) ?_ 1 _ rfl; (with_reducible repeat (first | refine blk_drewN ?_ _ | refine blk_drew ?_ | refine blk_alloc ?_ _)); refine blk_put (cs := #[.bool false, .int .u8 0, .bool false, .int .u32 0, .slice none 0 0]) ?_ 0 _ rfl; exact q9_ BK249.out) hb); have n2_ := Aside0.mk (below_step (by exact q7_ HB.out GE248.out GE249.out) hb); clear BK248; clear BK249; clear HB; have BK248 := n0_; have BK249 := n1_; have HB := n2_; clear n0_ n1_ n2_; (try clear hb); (try clear hb2); (try clear hk); (try clear hi)) | ((with_reducible refine gate_dst (N := 14) rfl ?_); refine Kd.R_lit (Kd.int .u8) _ 5 ?hg (N := 14) ?hd (xs := ([(a0 / 256) % 256, (a0) % 256] : List Int)) (inner := [.int .u8 ((a0 / 256) % 256), .int .u8 ((a0) % 256)]) (ok := fun _ => True) (okp := fun _ => True) ?hr ?hp (fun _ hk => hk) trivial (Below.refl _ _) (Nat.le_refl _) (by simp) ?_; (case hd => rfl); (case hg => rfl); (case hr => first | (go_simp; done) | (go_simp; rfl)); (case hp => exact (Reps.one (show Kd.M (Kd.int .u8) _ _ _ ((a0 / 256) % 256) [.int .u8 ((a0 / 256) % 256)] from rfl) (Reps.one (show Kd.M (Kd.int .u8) _ _ _ ((a0) % 256) [.int .u8 ((a0) % 256)] from rfl) (Reps.none _ _)))); intro v252 w12 ho13 hb hg_ hnew_; clear hg_ hnew_; (first | rw [← Ny251.out] at ho13 | (simp only [Int.reduceToNat] at ho13; rw [← Ny251.out] at ho13)); have n0_ := Aside0.mk (Kd.R_lower ho13 (below_size (by exact q7_ HB.out GE248.out GE249.out))); have n1_ := Aside0.mk (blk_below (g := gb248) (o := .cells #[.bool false, .int .u8 0, .bool false, .int .u32 0, .slice none 0 0] 52 (0, 0)) (by exact q9_ BK248.out) hb); have n2_ := Aside0.mk (blk_below (g := gb249) (o := .cells #[.bool true, .int .u8 8, .bool false, .int .u32 0, .slice none 0 0] 52 (0, 0)) (by exact q9_ BK249.out) hb); have n3_ := Aside0.mk (below_step (by exact q7_ HB.out GE248.out GE249.out) hb); clear BK248; clear BK249; clear HB; have HO253 := n0_; have BK248 := n1_; have BK249 := n2_; have HB := n3_; clear n0_ n1_ n2_ n3_; clear hb ho13) | ((with_reducible refine gate_callee (f := 74) rfl ?_); refine goesL_ (some 16) rfl rfl Tryd.func74 (by kernel_rfl) rfl #[.string a1, .int .i64 123] rfl (by exact q1_) ?_; (with_reducible refine (message_whole.calls k a1 123 t254 _ A5.out).mono ?_); rintro e w14 ⟨rfl, hb⟩; refine ⟨_, rfl, ?_⟩; have n0_ := Aside0.mk (Kd.R_below (by exact q10_ HO253.out) hb); have n1_ := Aside0.mk (blk_below (g := gb248) (o := .cells #[.bool false, .int .u8 0, .bool false, .int .u32 0, .slice none 0 0] 52 (0, 0)) (by exact q9_ BK248.out) hb); have n2_ := Aside0.mk (blk_below (g := gb249) (o := .cells #[.bool true, .int .u8 8, .bool false, .int .u32 0, .slice none 0 0] 52 (0, 0)) (by exact q9_ BK249.out) hb); have n3_ := Aside0.mk (below_step (by exact q7_ HB.out GE248.out GE249.out) hb); clear HO253; clear BK248; clear BK249; clear HB; have HO253 := n0_; have BK248 := n1_; have BK249 := n2_; have HB := n3_; clear n0_ n1_ n2_ n3_; (try clear hb); (try clear hb2); (try clear hk); (try clear hi)) | (at_builtin; refine print_append_str (w0 := w) w.heap.size rfl (.tmp 14) _ 26 9 5 rfl Tryd.underlying26 Tryd.underlying9 info5 v252 y251 t254 rfl rfl ?aO ?aB ?aS ?aL ?_; (case aB => exact (by exact q7_ HB.out GE248.out GE249.out)); (case aO => exact (Kd.own_of_R (by exact q10_ HO253.out))); (case aS => exact (below_size (by exact q7_ HB.out GE248.out GE249.out))); (case aL => have := LMc6.out; omega); intro v256 w15 ho0 hb hg; have ho := Kd.R_of_own (h1 := fun _ => rfl) (ok := fun _ => True) ho0 (fun _ _ => trivial); clear ho0; have hat := True.intro; rw [← Ny255.out] at ho; change Kd.R (Kd.int .u8) 5 w15 w.heap.size (fun _ => True) v256 y255 at ho; have n0_ := Aside0.mk (blk_grown (g := gb248) (o := .cells #[.bool false, .int .u8 0, .bool false, .int .u32 0, .slice none 0 0] 52 (0, 0)) (by exact q9_ BK248.out) hg (Kd.R_ne HO253.out BK248.out (by decide))); have n1_ := Aside0.mk (blk_grown (g := gb249) (o := .cells #[.bool true, .int .u8 8, .bool false, .int .u32 0, .slice none 0 0] 52 (0, 0)) (by exact q9_ BK249.out) hg (Kd.R_ne HO253.out BK249.out (by decide))); have n2_ := Aside0.mk (hb); have n3_ := Aside0.mk (ho); clear BK248; clear BK249; clear HB; clear HO253; have BK248 := n0_; have BK249 := n1_; have HB := n2_; have HO257 := n3_; clear n0_ n1_ n2_ n3_; clear ho hb hg hat; obtain ⟨Ao16, co16, eo16⟩ := Kd.R_slice HO257.out; subst eo16; have hcz17_0 : w15.cell? ⟨gb249, 0, none⟩ = some (.bool true) := (blk_cell BK249.out 0).trans rfl; have hcz17_1 : w15.cell? ⟨gb249, 1, none⟩ = some (.int .u8 8) := (blk_cell BK249.out 1).trans rfl; have hcz17_2 : w15.cell? ⟨gb249, 2, none⟩ = some (.bool false) := (blk_cell BK249.out 2).trans rfl; have hcz17_3 : w15.cell? ⟨gb249, 3, none⟩ = some (.int .u32 0) := (blk_cell BK249.out 3).trans rfl; have hcz17_4 : w15.cell? ⟨gb249, 4, none⟩ = some (.slice none 0 0) := (blk_cell BK249.out 4).trans rfl; have hfz17_0 := blk_frozen BK249.out 0; have hfz17_1 := blk_frozen BK249.out 1; have hfz17_2 := blk_frozen BK249.out 2; have hfz17_3 := blk_frozen BK249.out 3; have hfz17_4 := blk_frozen BK249.out 4; have hcz18_0 : w15.cell? ⟨gb248, 0, none⟩ = some (.bool false) := (blk_cell BK248.out 0).trans rfl; have hcz18_1 : w15.cell? ⟨gb248, 1, none⟩ = some (.int .u8 0) := (blk_cell BK248.out 1).trans rfl; have hcz18_2 : w15.cell? ⟨gb248, 2, none⟩ = some (.bool false) := (blk_cell BK248.out 2).trans rfl; have hcz18_3 : w15.cell? ⟨gb248, 3, none⟩ = some (.int .u32 0) := (blk_cell BK248.out 3).trans rfl; have hcz18_4 : w15.cell? ⟨gb248, 4, none⟩ = some (.slice none 0 0) := (blk_cell BK248.out 4).trans rfl; have hfz18_0 := blk_frozen BK248.out 0; have hfz18_1 := blk_frozen BK248.out 1; have hfz18_2 := blk_frozen BK248.out 2; have hfz18_3 := blk_frozen BK248.out 3; have hfz18_4 := blk_frozen BK248.out 4))
   refine bodyPost_ret (results_cell_row rfl _ _ gb248 52 #[.bool true, .int .u8 8, .bool false, .int .u32 0, .slice Ao16 y255.length co16] (0, 0) _ rfl (by (with_reducible repeat (first | refine blk_drewN ?_ _ | refine blk_drew ?_ | refine blk_alloc ?_ _)); refine blk_put (cs := #[.bool true, .int .u8 8, .bool false, .int .u32 0, .slice none 0 0]) ?_ 4 _ rfl; (with_reducible repeat (first | refine blk_drewN ?_ _ | refine blk_drew ?_ | refine blk_alloc ?_ _)); refine blk_put (cs := #[.bool true, .int .u8 8, .bool false, .int .u32 0, .slice none 0 0]) ?_ 3 _ rfl; (with_reducible repeat (first | refine blk_drewN ?_ _ | refine blk_drew ?_ | refine blk_alloc ?_ _)); refine blk_put (cs := #[.bool true, .int .u8 8, .bool false, .int .u32 0, .slice none 0 0]) ?_ 2 _ rfl; (with_reducible repeat (first | refine blk_drewN ?_ _ | refine blk_drew ?_ | refine blk_alloc ?_ _)); refine blk_put (cs := #[.bool true, .int .u8 0, .bool false, .int .u32 0, .slice none 0 0]) ?_ 1 _ rfl; (with_reducible repeat (first | refine blk_drewN ?_ _ | refine blk_drew ?_ | refine blk_alloc ?_ _)); refine blk_put (cs := #[.bool false, .int .u8 0, .bool false, .int .u32 0, .slice none 0 0]) ?_ 0 _ rfl; exact q17_ BK248.out NB248_249.out) Tryd.underlying52 rfl (by kernel_rfl)) rfl ?_
   exact ⟨_, by exact q11_, by (with_reducible repeat (first | apply Kd.R_alloc | apply Kd.R_drewN | apply Kd.R_drew)); exact Kd.R_mono (Kd.R_far (p := ⟨gb248, 4, none⟩) (Kd.R_far (p := ⟨gb248, 3, none⟩) (Kd.R_far (p := ⟨gb248, 2, none⟩) (Kd.R_far (p := ⟨gb248, 1, none⟩) (Kd.R_far (p := ⟨gb248, 0, none⟩) (Kd.R_far (p := ⟨gb249, 4, none⟩) (Kd.R_types (Kd.R_types HO257.out BK249.out (by decide)) BK248.out (by decide)) (fun _ hk => hk.1.2) (.slice Ao16 y255.length co16)) (fun _ hk => hk.2) (.bool true)) (fun _ hk => hk.2) (.int .u8 8)) (fun _ hk => hk.2) (.bool false)) (fun _ hk => hk.2) (.int .u32 0)) (fun _ hk => hk.2) (.slice Ao16 y255.length co16)) (fun _ hk => trivial), by exact q7_ HB.out GE248.out GE249.out⟩
  ·rw [if_neg c6] at H
   exact absurd H (by simp)
 ·replace c4 := Bool.eq_false_iff.mpr c4
  subst c4
  have H1 : (some (true, 8, false, 0, ([] : List Int))) = some (r1, r2, r3, r4, r5) := by rw [if_neg (show ¬ (false = true) by decide)] at H; exact H
  clear H
  have H := H1
  clear H1
  simp only [Option.some.injEq, Prod.mk.injEq] at H
  obtain ⟨rfl, rfl, rfl, rfl, rfl⟩ := H
  go_enter Tryd.func61, Tryd.ntmps61
  go_wp2_with (first | ((with_reducible refine gate_dst (N := 4) rfl ?_); refine box_event ?hg (N := 4) ?hd (cs := #[.bool false, .int .u8 0, .bool false, .int .u32 0, .slice none 0 0]) (t := 52) ?hr ?_; (case hd => rfl); (case hg => rfl); (case hr => first | (go_simp; done) | (go_simp; rfl)); intro gb248 hg w19 hbox hb; have n0_ := Aside0.mk (below_step (by exact q2_ HB.out) hb); have n1_ := Aside0.mk (hbox); have n2_ := Aside0.mk ((by rw [hg]; exact (below_size (by exact q2_ HB.out)) : w.heap.size ≤ gb248)); have n3_ := Aside0.mk ((by rw [hg]; exact (below_size (by exact q2_ HB.out)) : w.heap.size ≤ gb248)); clear HB; have HB := n0_; have BK248 := n1_; have GW248 := n2_; have GE248 := n3_; clear n0_ n1_ n2_ n3_; clear hb hbox hg) | ((with_reducible refine gate_dst (N := 5) rfl ?_); refine box_event ?hg (N := 5) ?hd (cs := #[.bool false, .int .u8 0, .bool false, .int .u32 0, .slice none 0 0]) (t := 52) ?hr ?_; (case hd => rfl); (case hg => rfl); (case hr => first | (go_simp; done) | (go_simp; rfl)); intro gb249 hg w20 hbox hb; have n0_ := Aside0.mk (blk_below (g := gb248) (o := .cells #[.bool false, .int .u8 0, .bool false, .int .u32 0, .slice none 0 0] 52 (0, 0)) (by exact q9_ BK248.out) hb); have n1_ := Aside0.mk (below_step (by exact q3_ HB.out GE248.out) hb); have n2_ := Aside0.mk (hbox); have n3_ := Aside0.mk ((by rw [hg]; exact (below_size (by exact q3_ HB.out GE248.out)) : w.heap.size ≤ gb249)); have n4_ := Aside0.mk ((by rw [hg]; exact (below_size (by exact q3_ HB.out GE248.out)) : w.heap.size ≤ gb249)); have n5_ := Aside0.mk ((by rw [hg]; exact Nat.ne_of_lt (blk_lt (g := gb248) (o := .cells #[.bool false, .int .u8 0, .bool false, .int .u32 0, .slice none 0 0] 52 (0, 0)) (by exact q9_ BK248.out)) : gb248 ≠ gb249)); have n6_ := Aside0.mk ((by rw [hg]; exact Nat.ne_of_gt (blk_lt (g := gb248) (o := .cells #[.bool false, .int .u8 0, .bool false, .int .u32 0, .slice none 0 0] 52 (0, 0)) (by exact q9_ BK248.out)) : gb249 ≠ gb248)); clear BK248; clear HB; have BK248 := n0_; have HB := n1_; have BK249 := n2_; have GW249 := n3_; have GE249 := n4_; have NB248_249 := n5_; have NB249_248 := n6_; clear n0_ n1_ n2_ n3_ n4_ n5_ n6_; clear hb hbox hg; have hnb21 := NB249_248.out; have hnc21 := NB248_249.out; have hcz22_0 : w20.cell? ⟨gb249, 0, none⟩ = some (.bool false) := (blk_cell BK249.out 0).trans rfl; have hcz22_1 : w20.cell? ⟨gb249, 1, none⟩ = some (.int .u8 0) := (blk_cell BK249.out 1).trans rfl; have hcz22_2 : w20.cell? ⟨gb249, 2, none⟩ = some (.bool false) := (blk_cell BK249.out 2).trans rfl; have hcz22_3 : w20.cell? ⟨gb249, 3, none⟩ = some (.int .u32 0) := (blk_cell BK249.out 3).trans rfl; have hcz22_4 : w20.cell? ⟨gb249, 4, none⟩ = some (.slice none 0 0) := (blk_cell BK249.out 4).trans rfl; have hfz22_0 := blk_frozen BK249.out 0; have hfz22_1 := blk_frozen BK249.out 1; have hfz22_2 := blk_frozen BK249.out 2; have hfz22_3 := blk_frozen BK249.out 3; have hfz22_4 := blk_frozen BK249.out 4) | ((with_reducible refine gate_callee (f := 66) rfl ?_); refine goesL_ (some 8) rfl rfl Tryd.func66 (by kernel_rfl) rfl #[.int .u32 a0] rfl (by exact q1_) ?_; (with_reducible refine (message_Told.calls a0 false _ A3.out).mono ?_); rintro e w23 ⟨rfl, hb⟩; refine ⟨_, rfl, ?_⟩; have n0_ := Aside0.mk (blk_below (g := gb248) (o := .cells #[.bool false, .int .u8 0, .bool false, .int .u32 0, .slice none 0 0] 52 (0, 0)) (by exact q16_ BK248.out NB248_249.out NB248_249.out NB248_249.out NB248_249.out NB248_249.out) hb); have n1_ := Aside0.mk (blk_below (g := gb249) (o := .cells #[.bool true, .int .u8 8, .bool false, .int .u32 0, .slice none 0 0] 52 (0, 0)) (by (with_reducible repeat (first | refine blk_drewN ?_ _ | refine blk_drew ?_ | refine blk_alloc ?_ _)); refine blk_put (cs := #[.bool true, .int .u8 8, .bool false, .int .u32 0, .slice none 0 0]) ?_ 4 _ rfl; (with_reducible repeat (first | refine blk_drewN ?_ _ | refine blk_drew ?_ | refine blk_alloc ?_ _)); refine blk_put (cs := #[.bool true, .int .u8 8, .bool false, .int .u32 0, .slice none 0 0]) ?_ 3 _ rfl; (with_reducible repeat (first | refine blk_drewN ?_ _ | refine blk_drew ?_ | refine blk_alloc ?_ _)); refine blk_put (cs := #[.bool true, .int .u8 8, .bool false, .int .u32 0, .slice none 0 0]) ?_ 2 _ rfl; (with_reducible repeat (first | refine blk_drewN ?_ _ | refine blk_drew ?_ | refine blk_alloc ?_ _)); refine blk_put (cs := #[.bool true, .int .u8 0, .bool false, .int .u32 0, .slice none 0 0]) ?_ 1 _ rfl; (with_reducible repeat (first | refine blk_drewN ?_ _ | refine blk_drew ?_ | refine blk_alloc ?_ _)); refine blk_put (cs := #[.bool false, .int .u8 0, .bool false, .int .u32 0, .slice none 0 0]) ?_ 0 _ rfl; exact q9_ BK249.out) hb); have n2_ := Aside0.mk (below_step (by exact q7_ HB.out GE248.out GE249.out) hb); clear BK248; clear BK249; clear HB; have BK248 := n0_; have BK249 := n1_; have HB := n2_; clear n0_ n1_ n2_; (try clear hb); (try clear hb2); (try clear hk); (try clear hi); have hcz24_0 : w23.cell? ⟨gb249, 0, none⟩ = some (.bool true) := (blk_cell BK249.out 0).trans rfl; have hcz24_1 : w23.cell? ⟨gb249, 1, none⟩ = some (.int .u8 8) := (blk_cell BK249.out 1).trans rfl; have hcz24_2 : w23.cell? ⟨gb249, 2, none⟩ = some (.bool false) := (blk_cell BK249.out 2).trans rfl; have hcz24_3 : w23.cell? ⟨gb249, 3, none⟩ = some (.int .u32 0) := (blk_cell BK249.out 3).trans rfl; have hcz24_4 : w23.cell? ⟨gb249, 4, none⟩ = some (.slice none 0 0) := (blk_cell BK249.out 4).trans rfl; have hfz24_0 := blk_frozen BK249.out 0; have hfz24_1 := blk_frozen BK249.out 1; have hfz24_2 := blk_frozen BK249.out 2; have hfz24_3 := blk_frozen BK249.out 3; have hfz24_4 := blk_frozen BK249.out 4; have hcz25_0 : w23.cell? ⟨gb248, 0, none⟩ = some (.bool false) := (blk_cell BK248.out 0).trans rfl; have hcz25_1 : w23.cell? ⟨gb248, 1, none⟩ = some (.int .u8 0) := (blk_cell BK248.out 1).trans rfl; have hcz25_2 : w23.cell? ⟨gb248, 2, none⟩ = some (.bool false) := (blk_cell BK248.out 2).trans rfl; have hcz25_3 : w23.cell? ⟨gb248, 3, none⟩ = some (.int .u32 0) := (blk_cell BK248.out 3).trans rfl; have hcz25_4 : w23.cell? ⟨gb248, 4, none⟩ = some (.slice none 0 0) := (blk_cell BK248.out 4).trans rfl; have hfz25_0 := blk_frozen BK248.out 0; have hfz25_1 := blk_frozen BK248.out 1; have hfz25_2 := blk_frozen BK248.out 2; have hfz25_3 := blk_frozen BK248.out 3; have hfz25_4 := blk_frozen BK248.out 4))
  refine bodyPost_ret (results_cell_row rfl _ _ gb248 52 #[.bool true, .int .u8 8, .bool false, .int .u32 0, .slice none 0 0] (0, 0) _ rfl (by (with_reducible repeat (first | refine blk_drewN ?_ _ | refine blk_drew ?_ | refine blk_alloc ?_ _)); refine blk_put (cs := #[.bool true, .int .u8 8, .bool false, .int .u32 0, .slice none 0 0]) ?_ 4 _ rfl; (with_reducible repeat (first | refine blk_drewN ?_ _ | refine blk_drew ?_ | refine blk_alloc ?_ _)); refine blk_put (cs := #[.bool true, .int .u8 8, .bool false, .int .u32 0, .slice none 0 0]) ?_ 3 _ rfl; (with_reducible repeat (first | refine blk_drewN ?_ _ | refine blk_drew ?_ | refine blk_alloc ?_ _)); refine blk_put (cs := #[.bool true, .int .u8 8, .bool false, .int .u32 0, .slice none 0 0]) ?_ 2 _ rfl; (with_reducible repeat (first | refine blk_drewN ?_ _ | refine blk_drew ?_ | refine blk_alloc ?_ _)); refine blk_put (cs := #[.bool true, .int .u8 0, .bool false, .int .u32 0, .slice none 0 0]) ?_ 1 _ rfl; (with_reducible repeat (first | refine blk_drewN ?_ _ | refine blk_drew ?_ | refine blk_alloc ?_ _)); refine blk_put (cs := #[.bool false, .int .u8 0, .bool false, .int .u32 0, .slice none 0 0]) ?_ 0 _ rfl; exact q9_ BK248.out) Tryd.underlying52 rfl (by kernel_rfl)) rfl ?_
  exact ⟨_, by exact q11_, by first | exact Kd.R_nil _ _ _ _ _ | exact Kd.N_nil _ _ _ _ _ | exact Kd.V_nil _ _ _ _ _ | exact Kd.Q_nil _ _ _ _ _ | exact Kd.S_nil _ _ _ _ _, by exact q7_ HB.out GE248.out GE249.out⟩
def closing_Door_send.f (k : Nat) (s0_0 : Bool) (s0_1 : Bool) (s0_2 : Int) (s0_3 : Int) (s0_4 : Int) (a1 : Int) (a2 : ByteArray) : Option (Bool × Int × Bool × Int × List Int × Bool × Bool × Bool × Int × Int × Int) := if s0_0 = true then (some (false, 0, false, 0, ([] : List Int), false, s0_0, s0_1, s0_2, s0_3, s0_4)) else ((message_Close.f k a1 a2).bind fun bt259 => (some (bt259.1, bt259.2.1, bt259.2.2.1, bt259.2.2.2.1, bt259.2.2.2.2, true, true, s0_1, s0_2, s0_3, s0_4)))
set_option maxRecDepth 100000 in
theorem closing_Door_send.mono : ∀ a0 a1 a2 a3 a4 a5 a6 k, LeO (closing_Door_send.f k a0 a1 a2 a3 a4 a5 a6) (closing_Door_send.f (k + 1) a0 a1 a2 a3 a4 a5 a6) := by
 intro a0 a1 a2 a3 a4 a5 a6 k
 unfold closing_Door_send.f
 repeat' first
   | (with_reducible exact message_Close.mono _ _ _)
   | (with_reducible exact LeO.refl _)
   | (with_reducible exact LeO.none _)
   | (with_reducible refine LeO.ite ?_ ?_)
   | (with_reducible refine LeO.bind ?_ (fun _ => ?_))
   | exact message_Close.mono _ _ _
   | exact LeO.none _
   | refine LeO.ite ?_ ?_
   | refine LeO.bind ?_ (fun _ => ?_)
set_option maxHeartbeats 8000000 in
set_option maxRecDepth 100000 in
theorem closing_Door_send.calls (k : Nat) (g : Nat) (s0_0 : Bool) (s0_1 : Bool) (s0_2 : Int) (s0_3 : Int) (s0_4 : Int) (a1 : Int) (a2 : ByteArray) (r1 : Bool) (r2 : Int) (r3 : Bool) (r4 : Int) (r5 : List Int) (r6 : Bool) (r7 : Bool) (r8 : Bool) (r9 : Int) (r10 : Int) (r11 : Int) (w0 w : World) (hI : IsS78 w0 w g s0_0 s0_1 s0_2 s0_3 s0_4) (hB : Below w0.heap.size w0 w) (h : closing_Door_send.f k s0_0 s0_1 s0_2 s0_3 s0_4 a1 a2 = some (r1, r2, r3, r4, r5, r6, r7, r8, r9, r10, r11)) :
  Calls Tryd.prog 52 #[.pointer (some ⟨g, 0, none⟩), .int .u32 a1, .string a2] w fun e w' => ∃ v4_ : Value, e = .returned (.tuple #[.agg #[.bool r1, .int .u8 r2, .bool r3, .int .u32 r4, v4_], .bool r6]) ∧ Kd.R (Kd.int .u8) 5 w' w.heap.size (fun _ => True) v4_ r5 ∧ IsS78 w0 w' g r7 r8 r9 r10 r11 ∧ Below w0.heap.size w0 w' ∧ KeepBut w w' g none := by
 have hf58_1 := field58_1
 have hf76_0 := field76_0
 have hu52 := Tryd.underlying52
 have HI0 := Aside0.mk hI
 have HK := Aside0.mk (KeepBut.refl w g none)
 have HL := Aside0.mk hB.size
 clear hI
 have HW0 := Aside0.mk hB.size
 have HB := Aside0.mk hB
 clear hB
 have H : (if s0_0 = true then (some (false, 0, false, 0, ([] : List Int), false, s0_0, s0_1, s0_2, s0_3, s0_4)) else ((message_Close.f k a1 a2).bind fun bt259 => (some (bt259.1, bt259.2.1, bt259.2.2.1, bt259.2.2.2.1, bt259.2.2.2.2, true, true, s0_1, s0_2, s0_3, s0_4)))) = some (r1, r2, r3, r4, r5, r6, r7, r8, r9, r10, r11) := h
 clear h
 by_cases c4 : s0_0 = true
 ·subst c4
  have H1 : (some (false, 0, false, 0, ([] : List Int), false, true, s0_1, s0_2, s0_3, s0_4)) = some (r1, r2, r3, r4, r5, r6, r7, r8, r9, r10, r11) := by rw [if_pos rfl] at H; exact H
  clear H
  have H := H1
  clear H1
  simp only [Option.some.injEq, Prod.mk.injEq] at H
  obtain ⟨rfl, rfl, rfl, rfl, rfl, rfl, rfl, rfl, rfl, rfl, rfl⟩ := H
  go_enter Tryd.func52, Tryd.ntmps52
  go_wp2_with (first | ((with_reducible refine gate_dst (N := 6) rfl ?_); refine box_event ?hg (N := 6) ?hd (cs := #[.bool false, .int .u8 0, .bool false, .int .u32 0, .slice none 0 0]) (t := 52) ?hr ?_; (case hd => rfl); (case hg => rfl); (case hr => first | (go_simp; done) | (go_simp; rfl)); intro gb258 hg w5 hbox hb; have n0_ := Aside0.mk (IsS78.below (by exact q4_ HI0.out) hb); have n1_ := Aside0.mk (KeepBut.trans (by exact q5_ HK.out) (KeepBut.of_below hb g none) (.inl rfl)); have n2_ := Aside0.mk (below_step (by exact q3_ HB.out (IsS78.ge HI0.out)) hb); have n3_ := Aside0.mk (hbox); have n4_ := Aside0.mk ((by rw [hg]; exact (keep_size (w := w) (g := g) (row := none) (by exact q5_ HK.out)) : w.heap.size ≤ gb258)); have n5_ := Aside0.mk ((Nat.le_trans HW0.out (by rw [hg]; exact (keep_size (w := w) (g := g) (row := none) (by exact q5_ HK.out)) : w.heap.size ≤ gb258) : w0.heap.size ≤ gb258)); have n6_ := Aside0.mk ((by rw [hg]; exact Nat.ne_of_lt (IsS78.lt (show IsS78 w0 _ g true s0_1 s0_2 s0_3 s0_4 from by exact q4_ HI0.out)) : g ≠ gb258)); have n7_ := Aside0.mk ((by rw [hg]; exact Nat.ne_of_gt (IsS78.lt (show IsS78 w0 _ g true s0_1 s0_2 s0_3 s0_4 from by exact q4_ HI0.out)) : gb258 ≠ g)); clear HI0; clear HK; clear HB; have HI0 := n0_; have HK := n1_; have HB := n2_; have BK258 := n3_; have GW258 := n4_; have GE258 := n5_; have NB0_258 := n6_; have NB258_0 := n7_; clear n0_ n1_ n2_ n3_ n4_ n5_ n6_ n7_; clear hb hbox hg; obtain ⟨HGz6, hgz6⟩ := HI0.out; have hcz6_0 := cellS78_0 HGz6; have hcz6_1 := cellS78_1 HGz6; have hcz6_2 := cellS78_2 HGz6; have hcz6_3 := cellS78_3 HGz6; have hcz6_4 := cellS78_4 HGz6; have hfz6_0 := blk_frozen HGz6 0; have hfz6_1 := blk_frozen HGz6 1; have hfz6_2 := blk_frozen HGz6 2; have hfz6_3 := blk_frozen HGz6 3; have hfz6_4 := blk_frozen HGz6 4; clear HGz6 hgz6; have hnb7 := NB258_0.out; have hnc7 := NB0_258.out; have hcz8_0 : w5.cell? ⟨gb258, 0, none⟩ = some (.bool false) := (blk_cell BK258.out 0).trans rfl; have hcz8_1 : w5.cell? ⟨gb258, 1, none⟩ = some (.int .u8 0) := (blk_cell BK258.out 1).trans rfl; have hcz8_2 : w5.cell? ⟨gb258, 2, none⟩ = some (.bool false) := (blk_cell BK258.out 2).trans rfl; have hcz8_3 : w5.cell? ⟨gb258, 3, none⟩ = some (.int .u32 0) := (blk_cell BK258.out 3).trans rfl; have hcz8_4 : w5.cell? ⟨gb258, 4, none⟩ = some (.slice none 0 0) := (blk_cell BK258.out 4).trans rfl; have hfz8_0 := blk_frozen BK258.out 0; have hfz8_1 := blk_frozen BK258.out 1; have hfz8_2 := blk_frozen BK258.out 2; have hfz8_3 := blk_frozen BK258.out 3; have hfz8_4 := blk_frozen BK258.out 4))
  refine bodyPost_ret (results_ct rfl _ _ gb258 52 #[.bool false, .int .u8 0, .bool false, .int .u32 0, .slice none 0 0] (0, 0) _ rfl (by (with_reducible repeat (first | refine blk_drewN ?_ _ | refine blk_drew ?_ | refine blk_alloc ?_ _)); refine blk_put (cs := #[.bool false, .int .u8 0, .bool false, .int .u32 0, .slice none 0 0]) ?_ 4 _ rfl; (with_reducible repeat (first | refine blk_drewN ?_ _ | refine blk_drew ?_ | refine blk_alloc ?_ _)); refine blk_put (cs := #[.bool false, .int .u8 0, .bool false, .int .u32 0, .slice none 0 0]) ?_ 3 _ rfl; (with_reducible repeat (first | refine blk_drewN ?_ _ | refine blk_drew ?_ | refine blk_alloc ?_ _)); refine blk_put (cs := #[.bool false, .int .u8 0, .bool false, .int .u32 0, .slice none 0 0]) ?_ 2 _ rfl; (with_reducible repeat (first | refine blk_drewN ?_ _ | refine blk_drew ?_ | refine blk_alloc ?_ _)); refine blk_put (cs := #[.bool false, .int .u8 0, .bool false, .int .u32 0, .slice none 0 0]) ?_ 1 _ rfl; (with_reducible repeat (first | refine blk_drewN ?_ _ | refine blk_drew ?_ | refine blk_alloc ?_ _)); refine blk_put (cs := #[.bool false, .int .u8 0, .bool false, .int .u32 0, .slice none 0 0]) ?_ 0 _ rfl; exact q9_ BK258.out) Tryd.underlying52 rfl (by kernel_rfl)) rfl ?_
  exact ⟨_, by exact q11_, by first | exact Kd.R_nil _ _ _ _ _ | exact Kd.N_nil _ _ _ _ _ | exact Kd.V_nil _ _ _ _ _ | exact Kd.Q_nil _ _ _ _ _ | exact Kd.S_nil _ _ _ _ _, by exact q6_ HI0.out NB0_258.out, by exact q7_ HB.out (IsS78.ge HI0.out) GE258.out, by exact q8_ HK.out GW258.out⟩
 ·replace c4 := Bool.eq_false_iff.mpr c4
  subst c4
  have H1 : ((message_Close.f k a1 a2).bind fun bt259 => (some (bt259.1, bt259.2.1, bt259.2.2.1, bt259.2.2.2.1, bt259.2.2.2.2, true, true, s0_1, s0_2, s0_3, s0_4))) = some (r1, r2, r3, r4, r5, r6, r7, r8, r9, r10, r11) := by rw [if_neg (show ¬ (false = true) by decide)] at H; exact H
  clear H
  have H := H1
  clear H1
  replace H := Option.bind_eq_some_iff.mp H
  obtain ⟨⟨t259, t260, t261, t262, t263⟩, A90, H⟩ := H
  replace H : (some (t259, t260, t261, t262, t263, true, true, s0_1, s0_2, s0_3, s0_4)) = some (r1, r2, r3, r4, r5, r6, r7, r8, r9, r10, r11) := H
  have A9 := Aside0.mk A90
  clear A90
  simp only [Option.some.injEq, Prod.mk.injEq] at H
  obtain ⟨rfl, rfl, rfl, rfl, rfl, rfl, rfl, rfl, rfl, rfl, rfl⟩ := H
  go_enter Tryd.func52, Tryd.ntmps52
  go_wp2_with (first | ((with_reducible refine gate_dst (N := 6) rfl ?_); refine box_event ?hg (N := 6) ?hd (cs := #[.bool false, .int .u8 0, .bool false, .int .u32 0, .slice none 0 0]) (t := 52) ?hr ?_; (case hd => rfl); (case hg => rfl); (case hr => first | (go_simp; done) | (go_simp; rfl)); intro gb258 hg w10 hbox hb; have n0_ := Aside0.mk (IsS78.below (by exact q4_ HI0.out) hb); have n1_ := Aside0.mk (KeepBut.trans (by exact q5_ HK.out) (KeepBut.of_below hb g none) (.inl rfl)); have n2_ := Aside0.mk (below_step (by exact q3_ HB.out (IsS78.ge HI0.out)) hb); have n3_ := Aside0.mk (hbox); have n4_ := Aside0.mk ((by rw [hg]; exact (keep_size (w := w) (g := g) (row := none) (by exact q5_ HK.out)) : w.heap.size ≤ gb258)); have n5_ := Aside0.mk ((Nat.le_trans HW0.out (by rw [hg]; exact (keep_size (w := w) (g := g) (row := none) (by exact q5_ HK.out)) : w.heap.size ≤ gb258) : w0.heap.size ≤ gb258)); have n6_ := Aside0.mk ((by rw [hg]; exact Nat.ne_of_lt (IsS78.lt (show IsS78 w0 _ g false s0_1 s0_2 s0_3 s0_4 from by exact q4_ HI0.out)) : g ≠ gb258)); have n7_ := Aside0.mk ((by rw [hg]; exact Nat.ne_of_gt (IsS78.lt (show IsS78 w0 _ g false s0_1 s0_2 s0_3 s0_4 from by exact q4_ HI0.out)) : gb258 ≠ g)); clear HI0; clear HK; clear HB; have HI0 := n0_; have HK := n1_; have HB := n2_; have BK258 := n3_; have GW258 := n4_; have GE258 := n5_; have NB0_258 := n6_; have NB258_0 := n7_; clear n0_ n1_ n2_ n3_ n4_ n5_ n6_ n7_; clear hb hbox hg; obtain ⟨HGz11, hgz11⟩ := HI0.out; have hcz11_0 := cellS78_0 HGz11; have hcz11_1 := cellS78_1 HGz11; have hcz11_2 := cellS78_2 HGz11; have hcz11_3 := cellS78_3 HGz11; have hcz11_4 := cellS78_4 HGz11; have hfz11_0 := blk_frozen HGz11 0; have hfz11_1 := blk_frozen HGz11 1; have hfz11_2 := blk_frozen HGz11 2; have hfz11_3 := blk_frozen HGz11 3; have hfz11_4 := blk_frozen HGz11 4; clear HGz11 hgz11) | ((with_reducible refine gate_callee (f := 61) rfl ?_); refine goesL_ (some 18) rfl rfl Tryd.func61 (by kernel_rfl) rfl #[.int .u32 a1, .string a2] rfl (by exact q1_) ?_; (with_reducible refine (message_Close.calls k a1 a2 t259 t260 t261 t262 t263 _ A9.out).mono ?_); rintro e w12 ⟨v264, rfl, ho0, hb⟩; refine ⟨_, rfl, ?_⟩; have n0_ := Aside0.mk (Kd.R_lower ho0 (keep_size (w := w) (g := g) (row := none) (by exact q8_ HK.out GW258.out))); have n1_ := Aside0.mk (IsS78.below (show IsS78 w0 (w10.setCell ⟨g, 0, none⟩ (.bool true)) g true s0_1 s0_2 s0_3 s0_4 from by exact q6_ HI0.out NB0_258.out) hb); have n2_ := Aside0.mk (blk_below (g := gb258) (o := .cells #[.bool false, .int .u8 0, .bool false, .int .u32 0, .slice none 0 0] 52 (0, 0)) (by exact q17_ BK258.out NB258_0.out) hb); have n3_ := Aside0.mk (KeepBut.trans (by exact q8_ HK.out GW258.out) (KeepBut.of_below hb g none) (.inl rfl)); have n4_ := Aside0.mk (below_step (by exact q7_ HB.out (IsS78.ge HI0.out) GE258.out) hb); clear HI0; clear BK258; clear HK; clear HB; have HO265 := n0_; have HI0 := n1_; have BK258 := n2_; have HK := n3_; have HB := n4_; clear n0_ n1_ n2_ n3_ n4_; (try clear hb); (try clear hb2); (try clear hk); (try clear hi); (try clear ho0); have hnb13 := NB258_0.out; have hnc13 := NB0_258.out; have hcz14_0 : w12.cell? ⟨gb258, 0, none⟩ = some (.bool false) := (blk_cell BK258.out 0).trans rfl; have hcz14_1 : w12.cell? ⟨gb258, 1, none⟩ = some (.int .u8 0) := (blk_cell BK258.out 1).trans rfl; have hcz14_2 : w12.cell? ⟨gb258, 2, none⟩ = some (.bool false) := (blk_cell BK258.out 2).trans rfl; have hcz14_3 : w12.cell? ⟨gb258, 3, none⟩ = some (.int .u32 0) := (blk_cell BK258.out 3).trans rfl; have hcz14_4 : w12.cell? ⟨gb258, 4, none⟩ = some (.slice none 0 0) := (blk_cell BK258.out 4).trans rfl; have hfz14_0 := blk_frozen BK258.out 0; have hfz14_1 := blk_frozen BK258.out 1; have hfz14_2 := blk_frozen BK258.out 2; have hfz14_3 := blk_frozen BK258.out 3; have hfz14_4 := blk_frozen BK258.out 4; obtain ⟨Ao15, co15, eo15⟩ := Kd.R_slice HO265.out; subst eo15))
  refine bodyPost_ret (results_ct rfl _ _ gb258 52 #[.bool t259, .int .u8 t260, .bool t261, .int .u32 t262, .slice Ao15 t263.length co15] (0, 0) _ rfl (by (with_reducible repeat (first | refine blk_drewN ?_ _ | refine blk_drew ?_ | refine blk_alloc ?_ _)); refine blk_put (cs := #[.bool t259, .int .u8 t260, .bool t261, .int .u32 t262, .slice none 0 0]) ?_ 4 _ rfl; (with_reducible repeat (first | refine blk_drewN ?_ _ | refine blk_drew ?_ | refine blk_alloc ?_ _)); refine blk_put (cs := #[.bool t259, .int .u8 t260, .bool t261, .int .u32 0, .slice none 0 0]) ?_ 3 _ rfl; (with_reducible repeat (first | refine blk_drewN ?_ _ | refine blk_drew ?_ | refine blk_alloc ?_ _)); refine blk_put (cs := #[.bool t259, .int .u8 t260, .bool false, .int .u32 0, .slice none 0 0]) ?_ 2 _ rfl; (with_reducible repeat (first | refine blk_drewN ?_ _ | refine blk_drew ?_ | refine blk_alloc ?_ _)); refine blk_put (cs := #[.bool t259, .int .u8 0, .bool false, .int .u32 0, .slice none 0 0]) ?_ 1 _ rfl; (with_reducible repeat (first | refine blk_drewN ?_ _ | refine blk_drew ?_ | refine blk_alloc ?_ _)); refine blk_put (cs := #[.bool false, .int .u8 0, .bool false, .int .u32 0, .slice none 0 0]) ?_ 0 _ rfl; exact q9_ BK258.out) Tryd.underlying52 rfl (by kernel_rfl)) rfl ?_
  exact ⟨_, by exact q11_, by (with_reducible repeat (first | apply Kd.R_alloc | apply Kd.R_drewN | apply Kd.R_drew)); exact Kd.R_mono (Kd.R_far (p := ⟨gb258, 4, none⟩) (Kd.R_far (p := ⟨gb258, 3, none⟩) (Kd.R_far (p := ⟨gb258, 2, none⟩) (Kd.R_far (p := ⟨gb258, 1, none⟩) (Kd.R_far (p := ⟨gb258, 0, none⟩) (Kd.R_types HO265.out BK258.out (by decide)) (fun _ hk => hk.2) (.bool t259)) (fun _ hk => hk.2) (.int .u8 t260)) (fun _ hk => hk.2) (.bool t261)) (fun _ hk => hk.2) (.int .u32 t262)) (fun _ hk => hk.2) (.slice Ao15 t263.length co15)) (fun _ hk => trivial), by exact q6_ HI0.out NB0_258.out, by exact q7_ HB.out (IsS78.ge HI0.out) GE258.out, by exact q8_ HK.out GW258.out⟩
def closing_Door_Bad.f (k : Nat) (s0_0 : Bool) (s0_1 : Bool) (s0_2 : Int) (s0_3 : Int) (s0_4 : Int) (a1 : Int) : Option (Bool × Int × Bool × Int × List Int × Bool × Bool × Bool × Int × Int × Int) := (closing_Door_Through.f s0_0 s0_1 s0_2 s0_3 s0_4).bind fun bt267 => (if bt267.1 = true then (some (false, 0, false, 0, ([] : List Int), false, bt267.2.1, bt267.2.2.1, bt267.2.2.2.1, bt267.2.2.2.2.1, bt267.2.2.2.2.2)) else ((closing_Door_send.f k bt267.2.1 bt267.2.2.1 bt267.2.2.2.1 2 a1 a1 (⟨#[]⟩ : ByteArray)).bind fun bt273 => (some (bt273.1, bt273.2.1, bt273.2.2.1, bt273.2.2.2.1, bt273.2.2.2.2.1, bt273.2.2.2.2.2.1, bt273.2.2.2.2.2.2.1, bt273.2.2.2.2.2.2.2.1, bt273.2.2.2.2.2.2.2.2.1, bt273.2.2.2.2.2.2.2.2.2.1, bt273.2.2.2.2.2.2.2.2.2.2))))
set_option maxRecDepth 100000 in
theorem closing_Door_Bad.mono : ∀ a0 a1 a2 a3 a4 a5 k, LeO (closing_Door_Bad.f k a0 a1 a2 a3 a4 a5) (closing_Door_Bad.f (k + 1) a0 a1 a2 a3 a4 a5) := by
 intro a0 a1 a2 a3 a4 a5 k
 unfold closing_Door_Bad.f
 repeat' first
   | (with_reducible exact closing_Door_send.mono _ _ _ _ _ _ _ _)
   | (with_reducible exact LeO.refl _)
   | (with_reducible exact LeO.none _)
   | (with_reducible refine LeO.ite ?_ ?_)
   | (with_reducible refine LeO.bind ?_ (fun _ => ?_))
   | exact closing_Door_send.mono _ _ _ _ _ _ _ _
   | exact LeO.none _
   | refine LeO.ite ?_ ?_
   | refine LeO.bind ?_ (fun _ => ?_)
set_option maxHeartbeats 8000000 in
set_option maxRecDepth 100000 in
theorem closing_Door_Bad.calls (k : Nat) (g : Nat) (s0_0 : Bool) (s0_1 : Bool) (s0_2 : Int) (s0_3 : Int) (s0_4 : Int) (a1 : Int) (r1 : Bool) (r2 : Int) (r3 : Bool) (r4 : Int) (r5 : List Int) (r6 : Bool) (r7 : Bool) (r8 : Bool) (r9 : Int) (r10 : Int) (r11 : Int) (w0 w : World) (hI : IsS78 w0 w g s0_0 s0_1 s0_2 s0_3 s0_4) (hB : Below w0.heap.size w0 w) (h : closing_Door_Bad.f k s0_0 s0_1 s0_2 s0_3 s0_4 a1 = some (r1, r2, r3, r4, r5, r6, r7, r8, r9, r10, r11)) :
  Calls Tryd.prog 37 #[.pointer (some ⟨g, 0, none⟩), .int .u32 a1] w fun e w' => ∃ v4_ : Value, e = .returned (.tuple #[.agg #[.bool r1, .int .u8 r2, .bool r3, .int .u32 r4, v4_], .bool r6]) ∧ Kd.R (Kd.int .u8) 5 w' w.heap.size (fun _ => True) v4_ r5 ∧ IsS78 w0 w' g r7 r8 r9 r10 r11 ∧ Below w0.heap.size w0 w' ∧ KeepBut w w' g none := by
 have hf58_1 := field58_1
 have hf76_0 := field76_0
 have hu52 := Tryd.underlying52
 have hu76 := Tryd.underlying76
 have HI0 := Aside0.mk hI
 have HK := Aside0.mk (KeepBut.refl w g none)
 have HL := Aside0.mk hB.size
 clear hI
 have HW0 := Aside0.mk hB.size
 have HB := Aside0.mk hB
 clear hB
 have H : ((closing_Door_Through.f s0_0 s0_1 s0_2 s0_3 s0_4).bind fun bt267 => (if bt267.1 = true then (some (false, 0, false, 0, ([] : List Int), false, bt267.2.1, bt267.2.2.1, bt267.2.2.2.1, bt267.2.2.2.2.1, bt267.2.2.2.2.2)) else ((closing_Door_send.f k bt267.2.1 bt267.2.2.1 bt267.2.2.2.1 2 a1 a1 (⟨#[]⟩ : ByteArray)).bind fun bt273 => (some (bt273.1, bt273.2.1, bt273.2.2.1, bt273.2.2.2.1, bt273.2.2.2.2.1, bt273.2.2.2.2.2.1, bt273.2.2.2.2.2.2.1, bt273.2.2.2.2.2.2.2.1, bt273.2.2.2.2.2.2.2.2.1, bt273.2.2.2.2.2.2.2.2.2.1, bt273.2.2.2.2.2.2.2.2.2.2))))) = some (r1, r2, r3, r4, r5, r6, r7, r8, r9, r10, r11) := h
 clear h
 replace H := Option.bind_eq_some_iff.mp H
 obtain ⟨⟨t267, t268, t269, t270, t271, t272⟩, A30, H⟩ := H
 replace H : (if t267 = true then (some (false, 0, false, 0, ([] : List Int), false, t268, t269, t270, t271, t272)) else ((closing_Door_send.f k t268 t269 t270 2 a1 a1 (⟨#[]⟩ : ByteArray)).bind fun bt273 => (some (bt273.1, bt273.2.1, bt273.2.2.1, bt273.2.2.2.1, bt273.2.2.2.2.1, bt273.2.2.2.2.2.1, bt273.2.2.2.2.2.2.1, bt273.2.2.2.2.2.2.2.1, bt273.2.2.2.2.2.2.2.2.1, bt273.2.2.2.2.2.2.2.2.2.1, bt273.2.2.2.2.2.2.2.2.2.2)))) = some (r1, r2, r3, r4, r5, r6, r7, r8, r9, r10, r11) := H
 have A3 := Aside0.mk A30
 clear A30
 by_cases c4 : t267 = true
 ·subst c4
  have H1 : (some (false, 0, false, 0, ([] : List Int), false, t268, t269, t270, t271, t272)) = some (r1, r2, r3, r4, r5, r6, r7, r8, r9, r10, r11) := by rw [if_pos rfl] at H; exact H
  clear H
  have H := H1
  clear H1
  simp only [Option.some.injEq, Prod.mk.injEq] at H
  obtain ⟨rfl, rfl, rfl, rfl, rfl, rfl, rfl, rfl, rfl, rfl, rfl⟩ := H
  go_enter Tryd.func37, Tryd.ntmps37
  go_wp2_with (first | ((with_reducible refine gate_dst (N := 4) rfl ?_); refine box_event ?hg (N := 4) ?hd (cs := #[.bool false, .int .u8 0, .bool false, .int .u32 0, .slice none 0 0]) (t := 52) ?hr ?_; (case hd => rfl); (case hg => rfl); (case hr => first | (go_simp; done) | (go_simp; rfl)); intro gb266 hg w5 hbox hb; have n0_ := Aside0.mk (IsS78.below (by exact q4_ HI0.out) hb); have n1_ := Aside0.mk (KeepBut.trans (by exact q5_ HK.out) (KeepBut.of_below hb g none) (.inl rfl)); have n2_ := Aside0.mk (below_step (by exact q3_ HB.out (IsS78.ge HI0.out)) hb); have n3_ := Aside0.mk (hbox); have n4_ := Aside0.mk ((by rw [hg]; exact (keep_size (w := w) (g := g) (row := none) (by exact q5_ HK.out)) : w.heap.size ≤ gb266)); have n5_ := Aside0.mk ((Nat.le_trans HW0.out (by rw [hg]; exact (keep_size (w := w) (g := g) (row := none) (by exact q5_ HK.out)) : w.heap.size ≤ gb266) : w0.heap.size ≤ gb266)); have n6_ := Aside0.mk ((by rw [hg]; exact Nat.ne_of_lt (IsS78.lt (show IsS78 w0 _ g s0_0 s0_1 s0_2 s0_3 s0_4 from by exact q4_ HI0.out)) : g ≠ gb266)); have n7_ := Aside0.mk ((by rw [hg]; exact Nat.ne_of_gt (IsS78.lt (show IsS78 w0 _ g s0_0 s0_1 s0_2 s0_3 s0_4 from by exact q4_ HI0.out)) : gb266 ≠ g)); clear HI0; clear HK; clear HB; have HI0 := n0_; have HK := n1_; have HB := n2_; have BK266 := n3_; have GW266 := n4_; have GE266 := n5_; have NB0_266 := n6_; have NB266_0 := n7_; clear n0_ n1_ n2_ n3_ n4_ n5_ n6_ n7_; clear hb hbox hg) | ((with_reducible refine gate_callee (f := 19) rfl ?_); refine goesL_ (some 7) rfl rfl Tryd.func19 (by kernel_rfl) rfl #[.pointer (some ⟨g, 0, none⟩)] rfl (by exact q1_) ?_; (with_reducible refine (closing_Door_Through.calls g s0_0 s0_1 s0_2 s0_3 s0_4 true t268 t269 t270 t271 t272 w0 _ ?side1 ?side2 A3.out).mono ?_); (case side1 => exact q6_ HI0.out NB0_266.out); (case side2 => exact q7_ HB.out (IsS78.ge HI0.out) GE266.out); rintro e w6 ⟨rfl, hi, hb, hk⟩; refine ⟨_, rfl, ?_⟩; have n0_ := Aside0.mk (KeepBut.blk hk (g' := gb266) (o := .cells #[.bool false, .int .u8 0, .bool false, .int .u32 0, .slice none 0 0] 52 (0, 0)) (by exact q9_ BK266.out) NB266_0.out (by simp)); have n1_ := Aside0.mk (KeepBut.trans (by exact q8_ HK.out GW266.out) hk (.inl rfl)); have n2_ := Aside0.mk (hb); have n3_ := Aside0.mk (hi); clear BK266; clear HK; clear HB; clear HI0; have BK266 := n0_; have HK := n1_; have HB := n2_; have HI0 := n3_; clear n0_ n1_ n2_ n3_; (try clear hb); (try clear hb2); (try clear hk); (try clear hi); have hnb7 := NB266_0.out; have hnc7 := NB0_266.out; have hcz8_0 : w6.cell? ⟨gb266, 0, none⟩ = some (.bool false) := (blk_cell BK266.out 0).trans rfl; have hcz8_1 : w6.cell? ⟨gb266, 1, none⟩ = some (.int .u8 0) := (blk_cell BK266.out 1).trans rfl; have hcz8_2 : w6.cell? ⟨gb266, 2, none⟩ = some (.bool false) := (blk_cell BK266.out 2).trans rfl; have hcz8_3 : w6.cell? ⟨gb266, 3, none⟩ = some (.int .u32 0) := (blk_cell BK266.out 3).trans rfl; have hcz8_4 : w6.cell? ⟨gb266, 4, none⟩ = some (.slice none 0 0) := (blk_cell BK266.out 4).trans rfl; have hfz8_0 := blk_frozen BK266.out 0; have hfz8_1 := blk_frozen BK266.out 1; have hfz8_2 := blk_frozen BK266.out 2; have hfz8_3 := blk_frozen BK266.out 3; have hfz8_4 := blk_frozen BK266.out 4))
  refine bodyPost_ret (results_ct rfl _ _ gb266 52 #[.bool false, .int .u8 0, .bool false, .int .u32 0, .slice none 0 0] (0, 0) _ rfl (by (with_reducible repeat (first | refine blk_drewN ?_ _ | refine blk_drew ?_ | refine blk_alloc ?_ _)); refine blk_put (cs := #[.bool false, .int .u8 0, .bool false, .int .u32 0, .slice none 0 0]) ?_ 4 _ rfl; (with_reducible repeat (first | refine blk_drewN ?_ _ | refine blk_drew ?_ | refine blk_alloc ?_ _)); refine blk_put (cs := #[.bool false, .int .u8 0, .bool false, .int .u32 0, .slice none 0 0]) ?_ 3 _ rfl; (with_reducible repeat (first | refine blk_drewN ?_ _ | refine blk_drew ?_ | refine blk_alloc ?_ _)); refine blk_put (cs := #[.bool false, .int .u8 0, .bool false, .int .u32 0, .slice none 0 0]) ?_ 2 _ rfl; (with_reducible repeat (first | refine blk_drewN ?_ _ | refine blk_drew ?_ | refine blk_alloc ?_ _)); refine blk_put (cs := #[.bool false, .int .u8 0, .bool false, .int .u32 0, .slice none 0 0]) ?_ 1 _ rfl; (with_reducible repeat (first | refine blk_drewN ?_ _ | refine blk_drew ?_ | refine blk_alloc ?_ _)); refine blk_put (cs := #[.bool false, .int .u8 0, .bool false, .int .u32 0, .slice none 0 0]) ?_ 0 _ rfl; exact q9_ BK266.out) Tryd.underlying52 rfl (by kernel_rfl)) rfl ?_
  exact ⟨_, by exact q11_, by first | exact Kd.R_nil _ _ _ _ _ | exact Kd.N_nil _ _ _ _ _ | exact Kd.V_nil _ _ _ _ _ | exact Kd.Q_nil _ _ _ _ _ | exact Kd.S_nil _ _ _ _ _, by exact q6_ HI0.out NB0_266.out, by exact q7_ HB.out (IsS78.ge HI0.out) GE266.out, by exact q8_ HK.out GW266.out⟩
 ·replace c4 := Bool.eq_false_iff.mpr c4
  subst c4
  have H1 : ((closing_Door_send.f k t268 t269 t270 2 a1 a1 (⟨#[]⟩ : ByteArray)).bind fun bt273 => (some (bt273.1, bt273.2.1, bt273.2.2.1, bt273.2.2.2.1, bt273.2.2.2.2.1, bt273.2.2.2.2.2.1, bt273.2.2.2.2.2.2.1, bt273.2.2.2.2.2.2.2.1, bt273.2.2.2.2.2.2.2.2.1, bt273.2.2.2.2.2.2.2.2.2.1, bt273.2.2.2.2.2.2.2.2.2.2))) = some (r1, r2, r3, r4, r5, r6, r7, r8, r9, r10, r11) := by rw [if_neg (show ¬ (false = true) by decide)] at H; exact H
  clear H
  have H := H1
  clear H1
  replace H := Option.bind_eq_some_iff.mp H
  obtain ⟨⟨t273, t274, t275, t276, t277, t280, t281, t282, t283, t284, t285⟩, A90, H⟩ := H
  replace H : (some (t273, t274, t275, t276, t277, t280, t281, t282, t283, t284, t285)) = some (r1, r2, r3, r4, r5, r6, r7, r8, r9, r10, r11) := H
  have A9 := Aside0.mk A90
  clear A90
  simp only [Option.some.injEq, Prod.mk.injEq] at H
  obtain ⟨rfl, rfl, rfl, rfl, rfl, rfl, rfl, rfl, rfl, rfl, rfl⟩ := H
  go_enter Tryd.func37, Tryd.ntmps37
  go_wp2_with (first | ((with_reducible refine gate_dst (N := 4) rfl ?_); refine box_event ?hg (N := 4) ?hd (cs := #[.bool false, .int .u8 0, .bool false, .int .u32 0, .slice none 0 0]) (t := 52) ?hr ?_; (case hd => rfl); (case hg => rfl); (case hr => first | (go_simp; done) | (go_simp; rfl)); intro gb266 hg w10 hbox hb; have n0_ := Aside0.mk (IsS78.below (by exact q4_ HI0.out) hb); have n1_ := Aside0.mk (KeepBut.trans (by exact q5_ HK.out) (KeepBut.of_below hb g none) (.inl rfl)); have n2_ := Aside0.mk (below_step (by exact q3_ HB.out (IsS78.ge HI0.out)) hb); have n3_ := Aside0.mk (hbox); have n4_ := Aside0.mk ((by rw [hg]; exact (keep_size (w := w) (g := g) (row := none) (by exact q5_ HK.out)) : w.heap.size ≤ gb266)); have n5_ := Aside0.mk ((Nat.le_trans HW0.out (by rw [hg]; exact (keep_size (w := w) (g := g) (row := none) (by exact q5_ HK.out)) : w.heap.size ≤ gb266) : w0.heap.size ≤ gb266)); have n6_ := Aside0.mk ((by rw [hg]; exact Nat.ne_of_lt (IsS78.lt (show IsS78 w0 _ g s0_0 s0_1 s0_2 s0_3 s0_4 from by exact q4_ HI0.out)) : g ≠ gb266)); have n7_ := Aside0.mk ((by rw [hg]; exact Nat.ne_of_gt (IsS78.lt (show IsS78 w0 _ g s0_0 s0_1 s0_2 s0_3 s0_4 from by exact q4_ HI0.out)) : gb266 ≠ g)); clear HI0; clear HK; clear HB; have HI0 := n0_; have HK := n1_; have HB := n2_; have BK266 := n3_; have GW266 := n4_; have GE266 := n5_; have NB0_266 := n6_; have NB266_0 := n7_; clear n0_ n1_ n2_ n3_ n4_ n5_ n6_ n7_; clear hb hbox hg) | ((with_reducible refine gate_callee (f := 19) rfl ?_); refine goesL_ (some 7) rfl rfl Tryd.func19 (by kernel_rfl) rfl #[.pointer (some ⟨g, 0, none⟩)] rfl (by exact q1_) ?_; (with_reducible refine (closing_Door_Through.calls g s0_0 s0_1 s0_2 s0_3 s0_4 false t268 t269 t270 t271 t272 w0 _ ?side1 ?side2 A3.out).mono ?_); (case side1 => exact q6_ HI0.out NB0_266.out); (case side2 => exact q7_ HB.out (IsS78.ge HI0.out) GE266.out); rintro e w11 ⟨rfl, hi, hb, hk⟩; refine ⟨_, rfl, ?_⟩; have n0_ := Aside0.mk (KeepBut.blk hk (g' := gb266) (o := .cells #[.bool false, .int .u8 0, .bool false, .int .u32 0, .slice none 0 0] 52 (0, 0)) (by exact q9_ BK266.out) NB266_0.out (by simp)); have n1_ := Aside0.mk (KeepBut.trans (by exact q8_ HK.out GW266.out) hk (.inl rfl)); have n2_ := Aside0.mk (hb); have n3_ := Aside0.mk (hi); clear BK266; clear HK; clear HB; clear HI0; have BK266 := n0_; have HK := n1_; have HB := n2_; have HI0 := n3_; clear n0_ n1_ n2_ n3_; (try clear hb); (try clear hb2); (try clear hk); (try clear hi); obtain ⟨HGz12, hgz12⟩ := HI0.out; have hcz12_0 := cellS78_0 HGz12; have hcz12_1 := cellS78_1 HGz12; have hcz12_2 := cellS78_2 HGz12; have hcz12_3 := cellS78_3 HGz12; have hcz12_4 := cellS78_4 HGz12; have hfz12_0 := blk_frozen HGz12 0; have hfz12_1 := blk_frozen HGz12 1; have hfz12_2 := blk_frozen HGz12 2; have hfz12_3 := blk_frozen HGz12 3; have hfz12_4 := blk_frozen HGz12 4; clear HGz12 hgz12) | ((with_reducible refine gate_callee (f := 52) rfl ?_); refine goesL_ (some 16) rfl rfl Tryd.func52 (by kernel_rfl) rfl #[.pointer (some ⟨g, 0, none⟩), .int .u32 a1, .string (⟨#[]⟩ : ByteArray)] rfl (by exact q1_) ?_; (with_reducible refine (closing_Door_send.calls k g t268 t269 t270 2 a1 a1 (⟨#[]⟩ : ByteArray) t273 t274 t275 t276 t277 t280 t281 t282 t283 t284 t285 w0 _ ?side1 ?side2 A9.out).mono ?_); (case side1 => exact q6_ HI0.out NB0_266.out); (case side2 => exact q7_ HB.out (IsS78.ge HI0.out) GE266.out); rintro e w13 ⟨v278, rfl, ho0, hi, hb, hk⟩; refine ⟨_, rfl, ?_⟩; have n0_ := Aside0.mk (KeepBut.blk hk (g' := gb266) (o := .cells #[.bool false, .int .u8 0, .bool false, .int .u32 0, .slice none 0 0] 52 (0, 0)) (by exact q18_ BK266.out NB266_0.out NB266_0.out) NB266_0.out (by simp)); have n1_ := Aside0.mk (Kd.R_lower ho0 (keep_size (w := w) (g := g) (row := none) (by exact q8_ HK.out GW266.out))); have n2_ := Aside0.mk (KeepBut.trans (by exact q8_ HK.out GW266.out) hk (.inl rfl)); have n3_ := Aside0.mk (hb); have n4_ := Aside0.mk (hi); clear BK266; clear HK; clear HB; clear HI0; have BK266 := n0_; have HO279 := n1_; have HK := n2_; have HB := n3_; have HI0 := n4_; clear n0_ n1_ n2_ n3_ n4_; (try clear hb); (try clear hb2); (try clear hk); (try clear hi); (try clear ho0); have hnb14 := NB266_0.out; have hnc14 := NB0_266.out; have hcz15_0 : w13.cell? ⟨gb266, 0, none⟩ = some (.bool false) := (blk_cell BK266.out 0).trans rfl; have hcz15_1 : w13.cell? ⟨gb266, 1, none⟩ = some (.int .u8 0) := (blk_cell BK266.out 1).trans rfl; have hcz15_2 : w13.cell? ⟨gb266, 2, none⟩ = some (.bool false) := (blk_cell BK266.out 2).trans rfl; have hcz15_3 : w13.cell? ⟨gb266, 3, none⟩ = some (.int .u32 0) := (blk_cell BK266.out 3).trans rfl; have hcz15_4 : w13.cell? ⟨gb266, 4, none⟩ = some (.slice none 0 0) := (blk_cell BK266.out 4).trans rfl; have hfz15_0 := blk_frozen BK266.out 0; have hfz15_1 := blk_frozen BK266.out 1; have hfz15_2 := blk_frozen BK266.out 2; have hfz15_3 := blk_frozen BK266.out 3; have hfz15_4 := blk_frozen BK266.out 4; obtain ⟨Ao16, co16, eo16⟩ := Kd.R_slice HO279.out; subst eo16))
  refine bodyPost_ret (results_ct rfl _ _ gb266 52 #[.bool t273, .int .u8 t274, .bool t275, .int .u32 t276, .slice Ao16 t277.length co16] (0, 0) _ rfl (by (with_reducible repeat (first | refine blk_drewN ?_ _ | refine blk_drew ?_ | refine blk_alloc ?_ _)); refine blk_put (cs := #[.bool t273, .int .u8 t274, .bool t275, .int .u32 t276, .slice none 0 0]) ?_ 4 _ rfl; (with_reducible repeat (first | refine blk_drewN ?_ _ | refine blk_drew ?_ | refine blk_alloc ?_ _)); refine blk_put (cs := #[.bool t273, .int .u8 t274, .bool t275, .int .u32 0, .slice none 0 0]) ?_ 3 _ rfl; (with_reducible repeat (first | refine blk_drewN ?_ _ | refine blk_drew ?_ | refine blk_alloc ?_ _)); refine blk_put (cs := #[.bool t273, .int .u8 t274, .bool false, .int .u32 0, .slice none 0 0]) ?_ 2 _ rfl; (with_reducible repeat (first | refine blk_drewN ?_ _ | refine blk_drew ?_ | refine blk_alloc ?_ _)); refine blk_put (cs := #[.bool t273, .int .u8 0, .bool false, .int .u32 0, .slice none 0 0]) ?_ 1 _ rfl; (with_reducible repeat (first | refine blk_drewN ?_ _ | refine blk_drew ?_ | refine blk_alloc ?_ _)); refine blk_put (cs := #[.bool false, .int .u8 0, .bool false, .int .u32 0, .slice none 0 0]) ?_ 0 _ rfl; exact q9_ BK266.out) Tryd.underlying52 rfl (by kernel_rfl)) rfl ?_
  exact ⟨_, by exact q11_, by (with_reducible repeat (first | apply Kd.R_alloc | apply Kd.R_drewN | apply Kd.R_drew)); exact Kd.R_mono (Kd.R_far (p := ⟨gb266, 4, none⟩) (Kd.R_far (p := ⟨gb266, 3, none⟩) (Kd.R_far (p := ⟨gb266, 2, none⟩) (Kd.R_far (p := ⟨gb266, 1, none⟩) (Kd.R_far (p := ⟨gb266, 0, none⟩) (Kd.R_types HO279.out BK266.out (by decide)) (fun _ hk => hk.2) (.bool t273)) (fun _ hk => hk.2) (.int .u8 t274)) (fun _ hk => hk.2) (.bool t275)) (fun _ hk => hk.2) (.int .u32 t276)) (fun _ hk => hk.2) (.slice Ao16 t277.length co16)) (fun _ hk => trivial), by exact q6_ HI0.out NB0_266.out, by exact q7_ HB.out (IsS78.ge HI0.out) GE266.out, by exact q8_ HK.out GW266.out⟩
def closing_Door_ends.f (s0_0 : Bool) (s0_1 : Bool) (s0_2 : Int) (s0_3 : Int) (s0_4 : Int) : Option (Bool × Bool × Int × Int × Int) := if s0_0 = true then (if s0_1 = true then (if s0_3 = 0 then (some (s0_0, s0_1, s0_2, 1, s0_2)) else (some (s0_0, s0_1, s0_2, s0_3, s0_4))) else (some (s0_0, s0_1, s0_2, s0_3, s0_4))) else (some (s0_0, s0_1, s0_2, s0_3, s0_4))
set_option maxHeartbeats 8000000 in
set_option maxRecDepth 100000 in
theorem closing_Door_ends.calls (g : Nat) (s0_0 : Bool) (s0_1 : Bool) (s0_2 : Int) (s0_3 : Int) (s0_4 : Int) (r1 : Bool) (r2 : Bool) (r3 : Int) (r4 : Int) (r5 : Int) (w0 w : World) (hI : IsS78 w0 w g s0_0 s0_1 s0_2 s0_3 s0_4) (hB : Below w0.heap.size w0 w) (h : closing_Door_ends.f s0_0 s0_1 s0_2 s0_3 s0_4 = some (r1, r2, r3, r4, r5)) :
  Calls Tryd.prog 57 #[.pointer (some ⟨g, 0, none⟩)] w fun e w' => e = .returned (.tuple #[]) ∧ IsS78 w0 w' g r1 r2 r3 r4 r5 ∧ Below w0.heap.size w0 w' ∧ KeepBut w w' g none := by
 have hf58_1 := field58_1
 have hf76_0 := field76_0
 have hu76 := Tryd.underlying76
 have HI0 := Aside0.mk hI
 have HK := Aside0.mk (KeepBut.refl w g none)
 have HL := Aside0.mk hB.size
 clear hI
 have HW0 := Aside0.mk hB.size
 have HB := Aside0.mk hB
 clear hB
 have H : (if s0_0 = true then (if s0_1 = true then (if s0_3 = 0 then (some (s0_0, s0_1, s0_2, 1, s0_2)) else (some (s0_0, s0_1, s0_2, s0_3, s0_4))) else (some (s0_0, s0_1, s0_2, s0_3, s0_4))) else (some (s0_0, s0_1, s0_2, s0_3, s0_4))) = some (r1, r2, r3, r4, r5) := h
 clear h
 by_cases c2 : s0_0 = true
 ·subst c2
  have H1 : (if s0_1 = true then (if s0_3 = 0 then (some (true, s0_1, s0_2, 1, s0_2)) else (some (true, s0_1, s0_2, s0_3, s0_4))) else (some (true, s0_1, s0_2, s0_3, s0_4))) = some (r1, r2, r3, r4, r5) := by rw [if_pos rfl] at H; exact H
  clear H
  have H := H1
  clear H1
  by_cases c3 : s0_1 = true
  ·subst c3
   have H1 : (if s0_3 = 0 then (some (true, true, s0_2, 1, s0_2)) else (some (true, true, s0_2, s0_3, s0_4))) = some (r1, r2, r3, r4, r5) := by rw [if_pos rfl] at H; exact H
   clear H
   have H := H1
   clear H1
   by_cases c4 : s0_3 = 0
   ·rw [if_pos c4] at H
    have c4b0 : (s0_3 == 0) = true := beq_iff_eq.mpr c4
    have c4b1 : (s0_3 != 0) = false := bne_eq_false_iff_eq.mpr c4
    clear c4
    simp only [Option.some.injEq, Prod.mk.injEq] at H
    obtain ⟨rfl, rfl, rfl, rfl, rfl⟩ := H
    obtain ⟨HGz5, hgz5⟩ := HI0.out
    have hcz5_0 := cellS78_0 HGz5
    have hcz5_1 := cellS78_1 HGz5
    have hcz5_2 := cellS78_2 HGz5
    have hcz5_3 := cellS78_3 HGz5
    have hcz5_4 := cellS78_4 HGz5
    have hfz5_0 := blk_frozen HGz5 0
    have hfz5_1 := blk_frozen HGz5 1
    have hfz5_2 := blk_frozen HGz5 2
    have hfz5_3 := blk_frozen HGz5 3
    have hfz5_4 := blk_frozen HGz5 4
    clear HGz5 hgz5
    go_enter Tryd.func57, Tryd.ntmps57
    go_wp2
    first | go_end0 | ((try simp only [Exit.inBlock, Exit.then]); refine bodyPost_ret (results_none rfl _ _ _) rfl ?_)
    exact ⟨by exact q11_, by first | ((exact q4_ HI0.out); done) | (rw [‹((_ : Int) == _) = _›]; ((exact q4_ HI0.out); done)) | (exact q4_ HI0.out), by exact q3_ HB.out (IsS78.ge HI0.out), by exact q5_ HK.out⟩
   ·rw [if_neg c4] at H
    have c4b0 : (s0_3 == 0) = false := beq_eq_false_iff_ne.mpr c4
    have c4b1 : (s0_3 != 0) = true := bne_iff_ne.mpr c4
    simp only [Option.some.injEq, Prod.mk.injEq] at H
    obtain ⟨rfl, rfl, rfl, rfl, rfl⟩ := H
    obtain ⟨HGz6, hgz6⟩ := HI0.out
    have hcz6_0 := cellS78_0 HGz6
    have hcz6_1 := cellS78_1 HGz6
    have hcz6_2 := cellS78_2 HGz6
    have hcz6_3 := cellS78_3 HGz6
    have hcz6_4 := cellS78_4 HGz6
    have hfz6_0 := blk_frozen HGz6 0
    have hfz6_1 := blk_frozen HGz6 1
    have hfz6_2 := blk_frozen HGz6 2
    have hfz6_3 := blk_frozen HGz6 3
    have hfz6_4 := blk_frozen HGz6 4
    clear HGz6 hgz6
    go_enter Tryd.func57, Tryd.ntmps57
    go_wp2
    first | go_end0 | ((try simp only [Exit.inBlock, Exit.then]); refine bodyPost_ret (results_none rfl _ _ _) rfl ?_)
    exact ⟨by exact q11_, by first | ((exact q4_ HI0.out); done) | (rw [‹((_ : Int) == _) = _›]; ((exact q4_ HI0.out); done)) | (exact q4_ HI0.out), by exact q3_ HB.out (IsS78.ge HI0.out), by exact q5_ HK.out⟩
  ·replace c3 := Bool.eq_false_iff.mpr c3
   subst c3
   have H1 : (some (true, false, s0_2, s0_3, s0_4)) = some (r1, r2, r3, r4, r5) := by rw [if_neg (show ¬ (false = true) by decide)] at H; exact H
   clear H
   have H := H1
   clear H1
   simp only [Option.some.injEq, Prod.mk.injEq] at H
   obtain ⟨rfl, rfl, rfl, rfl, rfl⟩ := H
   obtain ⟨HGz7, hgz7⟩ := HI0.out
   have hcz7_0 := cellS78_0 HGz7
   have hcz7_1 := cellS78_1 HGz7
   have hcz7_2 := cellS78_2 HGz7
   have hcz7_3 := cellS78_3 HGz7
   have hcz7_4 := cellS78_4 HGz7
   have hfz7_0 := blk_frozen HGz7 0
   have hfz7_1 := blk_frozen HGz7 1
   have hfz7_2 := blk_frozen HGz7 2
   have hfz7_3 := blk_frozen HGz7 3
   have hfz7_4 := blk_frozen HGz7 4
   clear HGz7 hgz7
   go_enter Tryd.func57, Tryd.ntmps57
   go_wp2
   first | go_end0 | ((try simp only [Exit.inBlock, Exit.then]); refine bodyPost_ret (results_none rfl _ _ _) rfl ?_)
   exact ⟨by exact q11_, by first | ((exact q4_ HI0.out); done) | (rw [‹((_ : Int) == _) = _›]; ((exact q4_ HI0.out); done)) | (exact q4_ HI0.out), by exact q3_ HB.out (IsS78.ge HI0.out), by exact q5_ HK.out⟩
 ·replace c2 := Bool.eq_false_iff.mpr c2
  subst c2
  have H1 : (some (false, s0_1, s0_2, s0_3, s0_4)) = some (r1, r2, r3, r4, r5) := by rw [if_neg (show ¬ (false = true) by decide)] at H; exact H
  clear H
  have H := H1
  clear H1
  simp only [Option.some.injEq, Prod.mk.injEq] at H
  obtain ⟨rfl, rfl, rfl, rfl, rfl⟩ := H
  obtain ⟨HGz8, hgz8⟩ := HI0.out
  have hcz8_0 := cellS78_0 HGz8
  have hcz8_1 := cellS78_1 HGz8
  have hcz8_2 := cellS78_2 HGz8
  have hcz8_3 := cellS78_3 HGz8
  have hcz8_4 := cellS78_4 HGz8
  have hfz8_0 := blk_frozen HGz8 0
  have hfz8_1 := blk_frozen HGz8 1
  have hfz8_2 := blk_frozen HGz8 2
  have hfz8_3 := blk_frozen HGz8 3
  have hfz8_4 := blk_frozen HGz8 4
  clear HGz8 hgz8
  go_enter Tryd.func57, Tryd.ntmps57
  go_wp2
  first | go_end0 | ((try simp only [Exit.inBlock, Exit.then]); refine bodyPost_ret (results_none rfl _ _ _) rfl ?_)
  exact ⟨by exact q11_, by first | ((exact q4_ HI0.out); done) | (rw [‹((_ : Int) == _) = _›]; ((exact q4_ HI0.out); done)) | (exact q4_ HI0.out), by exact q3_ HB.out (IsS78.ge HI0.out), by exact q5_ HK.out⟩
def closing_Door_Got.f (k : Nat) (s0_0 : Bool) (s0_1 : Bool) (s0_2 : Int) (s0_3 : Int) (s0_4 : Int) (a1 : Int) : Option (Bool × Int × Bool × Int × List Int × Bool × Bool × Bool × Int × Int × Int) := (closing_Door_Through.f s0_0 s0_1 s0_2 s0_3 s0_4).bind fun bt288 => (if bt288.1 = true then (some (false, 0, false, 0, ([] : List Int), false, bt288.2.1, bt288.2.2.1, bt288.2.2.2.1, bt288.2.2.2.2.1, bt288.2.2.2.2.2)) else ((closing_Door_send.f k bt288.2.1 true a1 bt288.2.2.2.2.1 bt288.2.2.2.2.2 a1 (⟨#[]⟩ : ByteArray)).bind fun bt294 => ((closing_Door_ends.f bt294.2.2.2.2.2.2.1 bt294.2.2.2.2.2.2.2.1 bt294.2.2.2.2.2.2.2.2.1 bt294.2.2.2.2.2.2.2.2.2.1 bt294.2.2.2.2.2.2.2.2.2.2).bind fun bt308 => (some (bt294.1, bt294.2.1, bt294.2.2.1, bt294.2.2.2.1, bt294.2.2.2.2.1, bt294.2.2.2.2.2.1, bt308.1, bt308.2.1, bt308.2.2.1, bt308.2.2.2.1, bt308.2.2.2.2)))))
set_option maxRecDepth 100000 in
theorem closing_Door_Got.mono : ∀ a0 a1 a2 a3 a4 a5 k, LeO (closing_Door_Got.f k a0 a1 a2 a3 a4 a5) (closing_Door_Got.f (k + 1) a0 a1 a2 a3 a4 a5) := by
 intro a0 a1 a2 a3 a4 a5 k
 unfold closing_Door_Got.f
 repeat' first
   | (with_reducible exact closing_Door_send.mono _ _ _ _ _ _ _ _)
   | (with_reducible exact LeO.refl _)
   | (with_reducible exact LeO.none _)
   | (with_reducible refine LeO.ite ?_ ?_)
   | (with_reducible refine LeO.bind ?_ (fun _ => ?_))
   | exact closing_Door_send.mono _ _ _ _ _ _ _ _
   | exact LeO.none _
   | refine LeO.ite ?_ ?_
   | refine LeO.bind ?_ (fun _ => ?_)
set_option maxHeartbeats 8000000 in
set_option maxRecDepth 100000 in
theorem closing_Door_Got.calls (k : Nat) (g : Nat) (s0_0 : Bool) (s0_1 : Bool) (s0_2 : Int) (s0_3 : Int) (s0_4 : Int) (a1 : Int) (r1 : Bool) (r2 : Int) (r3 : Bool) (r4 : Int) (r5 : List Int) (r6 : Bool) (r7 : Bool) (r8 : Bool) (r9 : Int) (r10 : Int) (r11 : Int) (w0 w : World) (hI : IsS78 w0 w g s0_0 s0_1 s0_2 s0_3 s0_4) (hB : Below w0.heap.size w0 w) (h : closing_Door_Got.f k s0_0 s0_1 s0_2 s0_3 s0_4 a1 = some (r1, r2, r3, r4, r5, r6, r7, r8, r9, r10, r11)) :
  Calls Tryd.prog 41 #[.pointer (some ⟨g, 0, none⟩), .int .u32 a1] w fun e w' => ∃ v4_ : Value, e = .returned (.tuple #[.agg #[.bool r1, .int .u8 r2, .bool r3, .int .u32 r4, v4_], .bool r6]) ∧ Kd.R (Kd.int .u8) 5 w' w.heap.size (fun _ => True) v4_ r5 ∧ IsS78 w0 w' g r7 r8 r9 r10 r11 ∧ Below w0.heap.size w0 w' ∧ KeepBut w w' g none := by
 have hf58_1 := field58_1
 have hf76_0 := field76_0
 have hu52 := Tryd.underlying52
 have HI0 := Aside0.mk hI
 have HK := Aside0.mk (KeepBut.refl w g none)
 have HL := Aside0.mk hB.size
 clear hI
 have HW0 := Aside0.mk hB.size
 have HB := Aside0.mk hB
 clear hB
 have H : ((closing_Door_Through.f s0_0 s0_1 s0_2 s0_3 s0_4).bind fun bt288 => (if bt288.1 = true then (some (false, 0, false, 0, ([] : List Int), false, bt288.2.1, bt288.2.2.1, bt288.2.2.2.1, bt288.2.2.2.2.1, bt288.2.2.2.2.2)) else ((closing_Door_send.f k bt288.2.1 true a1 bt288.2.2.2.2.1 bt288.2.2.2.2.2 a1 (⟨#[]⟩ : ByteArray)).bind fun bt294 => ((closing_Door_ends.f bt294.2.2.2.2.2.2.1 bt294.2.2.2.2.2.2.2.1 bt294.2.2.2.2.2.2.2.2.1 bt294.2.2.2.2.2.2.2.2.2.1 bt294.2.2.2.2.2.2.2.2.2.2).bind fun bt308 => (some (bt294.1, bt294.2.1, bt294.2.2.1, bt294.2.2.2.1, bt294.2.2.2.2.1, bt294.2.2.2.2.2.1, bt308.1, bt308.2.1, bt308.2.2.1, bt308.2.2.2.1, bt308.2.2.2.2)))))) = some (r1, r2, r3, r4, r5, r6, r7, r8, r9, r10, r11) := h
 clear h
 replace H := Option.bind_eq_some_iff.mp H
 obtain ⟨⟨t288, t289, t290, t291, t292, t293⟩, A30, H⟩ := H
 replace H : (if t288 = true then (some (false, 0, false, 0, ([] : List Int), false, t289, t290, t291, t292, t293)) else ((closing_Door_send.f k t289 true a1 t292 t293 a1 (⟨#[]⟩ : ByteArray)).bind fun bt294 => ((closing_Door_ends.f bt294.2.2.2.2.2.2.1 bt294.2.2.2.2.2.2.2.1 bt294.2.2.2.2.2.2.2.2.1 bt294.2.2.2.2.2.2.2.2.2.1 bt294.2.2.2.2.2.2.2.2.2.2).bind fun bt308 => (some (bt294.1, bt294.2.1, bt294.2.2.1, bt294.2.2.2.1, bt294.2.2.2.2.1, bt294.2.2.2.2.2.1, bt308.1, bt308.2.1, bt308.2.2.1, bt308.2.2.2.1, bt308.2.2.2.2))))) = some (r1, r2, r3, r4, r5, r6, r7, r8, r9, r10, r11) := H
 have A3 := Aside0.mk A30
 clear A30
 by_cases c4 : t288 = true
 ·subst c4
  have H1 : (some (false, 0, false, 0, ([] : List Int), false, t289, t290, t291, t292, t293)) = some (r1, r2, r3, r4, r5, r6, r7, r8, r9, r10, r11) := by rw [if_pos rfl] at H; exact H
  clear H
  have H := H1
  clear H1
  simp only [Option.some.injEq, Prod.mk.injEq] at H
  obtain ⟨rfl, rfl, rfl, rfl, rfl, rfl, rfl, rfl, rfl, rfl, rfl⟩ := H
  go_enter Tryd.func41, Tryd.ntmps41
  go_wp2_with (first | ((with_reducible refine gate_dst (N := 4) rfl ?_); refine box_event ?hg (N := 4) ?hd (cs := #[.bool false, .int .u8 0, .bool false, .int .u32 0, .slice none 0 0]) (t := 52) ?hr ?_; (case hd => rfl); (case hg => rfl); (case hr => first | (go_simp; done) | (go_simp; rfl)); intro gb287 hg w5 hbox hb; have n0_ := Aside0.mk (IsS78.below (by exact q4_ HI0.out) hb); have n1_ := Aside0.mk (KeepBut.trans (by exact q5_ HK.out) (KeepBut.of_below hb g none) (.inl rfl)); have n2_ := Aside0.mk (below_step (by exact q3_ HB.out (IsS78.ge HI0.out)) hb); have n3_ := Aside0.mk (hbox); have n4_ := Aside0.mk ((by rw [hg]; exact (keep_size (w := w) (g := g) (row := none) (by exact q5_ HK.out)) : w.heap.size ≤ gb287)); have n5_ := Aside0.mk ((Nat.le_trans HW0.out (by rw [hg]; exact (keep_size (w := w) (g := g) (row := none) (by exact q5_ HK.out)) : w.heap.size ≤ gb287) : w0.heap.size ≤ gb287)); have n6_ := Aside0.mk ((by rw [hg]; exact Nat.ne_of_lt (IsS78.lt (show IsS78 w0 _ g s0_0 s0_1 s0_2 s0_3 s0_4 from by exact q4_ HI0.out)) : g ≠ gb287)); have n7_ := Aside0.mk ((by rw [hg]; exact Nat.ne_of_gt (IsS78.lt (show IsS78 w0 _ g s0_0 s0_1 s0_2 s0_3 s0_4 from by exact q4_ HI0.out)) : gb287 ≠ g)); clear HI0; clear HK; clear HB; have HI0 := n0_; have HK := n1_; have HB := n2_; have BK287 := n3_; have GW287 := n4_; have GE287 := n5_; have NB0_287 := n6_; have NB287_0 := n7_; clear n0_ n1_ n2_ n3_ n4_ n5_ n6_ n7_; clear hb hbox hg) | ((with_reducible refine gate_callee (f := 19) rfl ?_); refine goesL_ (some 9) rfl rfl Tryd.func19 (by kernel_rfl) rfl #[.pointer (some ⟨g, 0, none⟩)] rfl (by exact q1_) ?_; (with_reducible refine (closing_Door_Through.calls g s0_0 s0_1 s0_2 s0_3 s0_4 true t289 t290 t291 t292 t293 w0 _ ?side1 ?side2 A3.out).mono ?_); (case side1 => exact q6_ HI0.out NB0_287.out); (case side2 => exact q7_ HB.out (IsS78.ge HI0.out) GE287.out); rintro e w6 ⟨rfl, hi, hb, hk⟩; refine ⟨_, rfl, ?_⟩; have n0_ := Aside0.mk (KeepBut.blk hk (g' := gb287) (o := .cells #[.bool false, .int .u8 0, .bool false, .int .u32 0, .slice none 0 0] 52 (0, 0)) (by exact q9_ BK287.out) NB287_0.out (by simp)); have n1_ := Aside0.mk (KeepBut.trans (by exact q8_ HK.out GW287.out) hk (.inl rfl)); have n2_ := Aside0.mk (hb); have n3_ := Aside0.mk (hi); clear BK287; clear HK; clear HB; clear HI0; have BK287 := n0_; have HK := n1_; have HB := n2_; have HI0 := n3_; clear n0_ n1_ n2_ n3_; (try clear hb); (try clear hb2); (try clear hk); (try clear hi); have hnb7 := NB287_0.out; have hnc7 := NB0_287.out; have hcz8_0 : w6.cell? ⟨gb287, 0, none⟩ = some (.bool false) := (blk_cell BK287.out 0).trans rfl; have hcz8_1 : w6.cell? ⟨gb287, 1, none⟩ = some (.int .u8 0) := (blk_cell BK287.out 1).trans rfl; have hcz8_2 : w6.cell? ⟨gb287, 2, none⟩ = some (.bool false) := (blk_cell BK287.out 2).trans rfl; have hcz8_3 : w6.cell? ⟨gb287, 3, none⟩ = some (.int .u32 0) := (blk_cell BK287.out 3).trans rfl; have hcz8_4 : w6.cell? ⟨gb287, 4, none⟩ = some (.slice none 0 0) := (blk_cell BK287.out 4).trans rfl; have hfz8_0 := blk_frozen BK287.out 0; have hfz8_1 := blk_frozen BK287.out 1; have hfz8_2 := blk_frozen BK287.out 2; have hfz8_3 := blk_frozen BK287.out 3; have hfz8_4 := blk_frozen BK287.out 4))
  refine bodyPost_ret (results_ct rfl _ _ gb287 52 #[.bool false, .int .u8 0, .bool false, .int .u32 0, .slice none 0 0] (0, 0) _ rfl (by (with_reducible repeat (first | refine blk_drewN ?_ _ | refine blk_drew ?_ | refine blk_alloc ?_ _)); refine blk_put (cs := #[.bool false, .int .u8 0, .bool false, .int .u32 0, .slice none 0 0]) ?_ 4 _ rfl; (with_reducible repeat (first | refine blk_drewN ?_ _ | refine blk_drew ?_ | refine blk_alloc ?_ _)); refine blk_put (cs := #[.bool false, .int .u8 0, .bool false, .int .u32 0, .slice none 0 0]) ?_ 3 _ rfl; (with_reducible repeat (first | refine blk_drewN ?_ _ | refine blk_drew ?_ | refine blk_alloc ?_ _)); refine blk_put (cs := #[.bool false, .int .u8 0, .bool false, .int .u32 0, .slice none 0 0]) ?_ 2 _ rfl; (with_reducible repeat (first | refine blk_drewN ?_ _ | refine blk_drew ?_ | refine blk_alloc ?_ _)); refine blk_put (cs := #[.bool false, .int .u8 0, .bool false, .int .u32 0, .slice none 0 0]) ?_ 1 _ rfl; (with_reducible repeat (first | refine blk_drewN ?_ _ | refine blk_drew ?_ | refine blk_alloc ?_ _)); refine blk_put (cs := #[.bool false, .int .u8 0, .bool false, .int .u32 0, .slice none 0 0]) ?_ 0 _ rfl; exact q9_ BK287.out) Tryd.underlying52 rfl (by kernel_rfl)) rfl ?_
  exact ⟨_, by exact q11_, by first | exact Kd.R_nil _ _ _ _ _ | exact Kd.N_nil _ _ _ _ _ | exact Kd.V_nil _ _ _ _ _ | exact Kd.Q_nil _ _ _ _ _ | exact Kd.S_nil _ _ _ _ _, by exact q6_ HI0.out NB0_287.out, by exact q7_ HB.out (IsS78.ge HI0.out) GE287.out, by exact q8_ HK.out GW287.out⟩
 ·replace c4 := Bool.eq_false_iff.mpr c4
  subst c4
  have H1 : ((closing_Door_send.f k t289 true a1 t292 t293 a1 (⟨#[]⟩ : ByteArray)).bind fun bt294 => ((closing_Door_ends.f bt294.2.2.2.2.2.2.1 bt294.2.2.2.2.2.2.2.1 bt294.2.2.2.2.2.2.2.2.1 bt294.2.2.2.2.2.2.2.2.2.1 bt294.2.2.2.2.2.2.2.2.2.2).bind fun bt308 => (some (bt294.1, bt294.2.1, bt294.2.2.1, bt294.2.2.2.1, bt294.2.2.2.2.1, bt294.2.2.2.2.2.1, bt308.1, bt308.2.1, bt308.2.2.1, bt308.2.2.2.1, bt308.2.2.2.2)))) = some (r1, r2, r3, r4, r5, r6, r7, r8, r9, r10, r11) := by rw [if_neg (show ¬ (false = true) by decide)] at H; exact H
  clear H
  have H := H1
  clear H1
  replace H := Option.bind_eq_some_iff.mp H
  obtain ⟨⟨t294, t295, t296, t297, t298, t301, t302, t303, t304, t305, t306⟩, A90, H⟩ := H
  replace H : ((closing_Door_ends.f t302 t303 t304 t305 t306).bind fun bt308 => (some (t294, t295, t296, t297, t298, t301, bt308.1, bt308.2.1, bt308.2.2.1, bt308.2.2.2.1, bt308.2.2.2.2))) = some (r1, r2, r3, r4, r5, r6, r7, r8, r9, r10, r11) := H
  have A9 := Aside0.mk A90
  clear A90
  replace H := Option.bind_eq_some_iff.mp H
  obtain ⟨⟨t308, t309, t310, t311, t312⟩, A100, H⟩ := H
  replace H : (some (t294, t295, t296, t297, t298, t301, t308, t309, t310, t311, t312)) = some (r1, r2, r3, r4, r5, r6, r7, r8, r9, r10, r11) := H
  have A10 := Aside0.mk A100
  clear A100
  simp only [Option.some.injEq, Prod.mk.injEq] at H
  obtain ⟨rfl, rfl, rfl, rfl, rfl, rfl, rfl, rfl, rfl, rfl, rfl⟩ := H
  go_enter Tryd.func41, Tryd.ntmps41
  go_wp2_with (first | ((with_reducible refine gate_dst (N := 4) rfl ?_); refine box_event ?hg (N := 4) ?hd (cs := #[.bool false, .int .u8 0, .bool false, .int .u32 0, .slice none 0 0]) (t := 52) ?hr ?_; (case hd => rfl); (case hg => rfl); (case hr => first | (go_simp; done) | (go_simp; rfl)); intro gb287 hg w11 hbox hb; have n0_ := Aside0.mk (IsS78.below (by exact q4_ HI0.out) hb); have n1_ := Aside0.mk (KeepBut.trans (by exact q5_ HK.out) (KeepBut.of_below hb g none) (.inl rfl)); have n2_ := Aside0.mk (below_step (by exact q3_ HB.out (IsS78.ge HI0.out)) hb); have n3_ := Aside0.mk (hbox); have n4_ := Aside0.mk ((by rw [hg]; exact (keep_size (w := w) (g := g) (row := none) (by exact q5_ HK.out)) : w.heap.size ≤ gb287)); have n5_ := Aside0.mk ((Nat.le_trans HW0.out (by rw [hg]; exact (keep_size (w := w) (g := g) (row := none) (by exact q5_ HK.out)) : w.heap.size ≤ gb287) : w0.heap.size ≤ gb287)); have n6_ := Aside0.mk ((by rw [hg]; exact Nat.ne_of_lt (IsS78.lt (show IsS78 w0 _ g s0_0 s0_1 s0_2 s0_3 s0_4 from by exact q4_ HI0.out)) : g ≠ gb287)); have n7_ := Aside0.mk ((by rw [hg]; exact Nat.ne_of_gt (IsS78.lt (show IsS78 w0 _ g s0_0 s0_1 s0_2 s0_3 s0_4 from by exact q4_ HI0.out)) : gb287 ≠ g)); clear HI0; clear HK; clear HB; have HI0 := n0_; have HK := n1_; have HB := n2_; have BK287 := n3_; have GW287 := n4_; have GE287 := n5_; have NB0_287 := n6_; have NB287_0 := n7_; clear n0_ n1_ n2_ n3_ n4_ n5_ n6_ n7_; clear hb hbox hg) | ((with_reducible refine gate_callee (f := 19) rfl ?_); refine goesL_ (some 9) rfl rfl Tryd.func19 (by kernel_rfl) rfl #[.pointer (some ⟨g, 0, none⟩)] rfl (by exact q1_) ?_; (with_reducible refine (closing_Door_Through.calls g s0_0 s0_1 s0_2 s0_3 s0_4 false t289 t290 t291 t292 t293 w0 _ ?side1 ?side2 A3.out).mono ?_); (case side1 => exact q6_ HI0.out NB0_287.out); (case side2 => exact q7_ HB.out (IsS78.ge HI0.out) GE287.out); rintro e w12 ⟨rfl, hi, hb, hk⟩; refine ⟨_, rfl, ?_⟩; have n0_ := Aside0.mk (KeepBut.blk hk (g' := gb287) (o := .cells #[.bool false, .int .u8 0, .bool false, .int .u32 0, .slice none 0 0] 52 (0, 0)) (by exact q9_ BK287.out) NB287_0.out (by simp)); have n1_ := Aside0.mk (KeepBut.trans (by exact q8_ HK.out GW287.out) hk (.inl rfl)); have n2_ := Aside0.mk (hb); have n3_ := Aside0.mk (hi); clear BK287; clear HK; clear HB; clear HI0; have BK287 := n0_; have HK := n1_; have HB := n2_; have HI0 := n3_; clear n0_ n1_ n2_ n3_; (try clear hb); (try clear hb2); (try clear hk); (try clear hi); obtain ⟨HGz13, hgz13⟩ := HI0.out; have hcz13_0 := cellS78_0 HGz13; have hcz13_1 := cellS78_1 HGz13; have hcz13_2 := cellS78_2 HGz13; have hcz13_3 := cellS78_3 HGz13; have hcz13_4 := cellS78_4 HGz13; have hfz13_0 := blk_frozen HGz13 0; have hfz13_1 := blk_frozen HGz13 1; have hfz13_2 := blk_frozen HGz13 2; have hfz13_3 := blk_frozen HGz13 3; have hfz13_4 := blk_frozen HGz13 4; clear HGz13 hgz13) | ((with_reducible refine gate_callee (f := 52) rfl ?_); refine goesL_ (some 21) rfl rfl Tryd.func52 (by kernel_rfl) rfl #[.pointer (some ⟨g, 0, none⟩), .int .u32 a1, .string (⟨#[]⟩ : ByteArray)] rfl (by exact q1_) ?_; (with_reducible refine (closing_Door_send.calls k g t289 true a1 t292 t293 a1 (⟨#[]⟩ : ByteArray) t294 t295 t296 t297 t298 t301 t302 t303 t304 t305 t306 w0 _ ?side1 ?side2 A9.out).mono ?_); (case side1 => exact q6_ HI0.out NB0_287.out); (case side2 => exact q7_ HB.out (IsS78.ge HI0.out) GE287.out); rintro e w14 ⟨v299, rfl, ho0, hi, hb, hk⟩; refine ⟨_, rfl, ?_⟩; have n0_ := Aside0.mk (KeepBut.blk hk (g' := gb287) (o := .cells #[.bool false, .int .u8 0, .bool false, .int .u32 0, .slice none 0 0] 52 (0, 0)) (by exact q18_ BK287.out NB287_0.out NB287_0.out) NB287_0.out (by simp)); have n1_ := Aside0.mk (Kd.R_lower ho0 (keep_size (w := w) (g := g) (row := none) (by exact q8_ HK.out GW287.out))); have n2_ := Aside0.mk (KeepBut.trans (by exact q8_ HK.out GW287.out) hk (.inl rfl)); have n3_ := Aside0.mk (hb); have n4_ := Aside0.mk (hi); clear BK287; clear HK; clear HB; clear HI0; have BK287 := n0_; have HO300 := n1_; have HK := n2_; have HB := n3_; have HI0 := n4_; clear n0_ n1_ n2_ n3_ n4_; (try clear hb); (try clear hb2); (try clear hk); (try clear hi); (try clear ho0)) | ((with_reducible refine gate_dst (N := 6) rfl ?_); refine box_event ?hg (N := 6) ?hd (cs := #[.bool false, .int .u8 0, .bool false, .int .u32 0, .slice none 0 0]) (t := 52) ?hr ?_; (case hd => rfl); (case hg => rfl); (case hr => first | (go_simp; done) | (go_simp; rfl)); intro gb307 hg w15 hbox hb; have n0_ := Aside0.mk (Kd.R_below (by exact q10_ HO300.out) hb); have n1_ := Aside0.mk (IsS78.below (by exact q6_ HI0.out NB0_287.out) hb); have n2_ := Aside0.mk (blk_below (g := gb287) (o := .cells #[.bool false, .int .u8 0, .bool false, .int .u32 0, .slice none 0 0] 52 (0, 0)) (by exact q9_ BK287.out) hb); have n3_ := Aside0.mk (KeepBut.trans (by exact q8_ HK.out GW287.out) (KeepBut.of_below hb g none) (.inl rfl)); have n4_ := Aside0.mk (below_step (by exact q7_ HB.out (IsS78.ge HI0.out) GE287.out) hb); have n5_ := Aside0.mk (hbox); have n6_ := Aside0.mk ((by rw [hg]; exact (keep_size (w := w) (g := g) (row := none) (by exact q8_ HK.out GW287.out)) : w.heap.size ≤ gb307)); have n7_ := Aside0.mk ((Nat.le_trans HW0.out (by rw [hg]; exact (keep_size (w := w) (g := g) (row := none) (by exact q8_ HK.out GW287.out)) : w.heap.size ≤ gb307) : w0.heap.size ≤ gb307)); have n8_ := Aside0.mk ((by rw [hg]; exact Nat.ne_of_lt (blk_lt (g := gb287) (o := .cells #[.bool false, .int .u8 0, .bool false, .int .u32 0, .slice none 0 0] 52 (0, 0)) (by exact q9_ BK287.out)) : gb287 ≠ gb307)); have n9_ := Aside0.mk ((by rw [hg]; exact Nat.ne_of_gt (blk_lt (g := gb287) (o := .cells #[.bool false, .int .u8 0, .bool false, .int .u32 0, .slice none 0 0] 52 (0, 0)) (by exact q9_ BK287.out)) : gb307 ≠ gb287)); have n10_ := Aside0.mk ((by rw [hg]; exact Nat.ne_of_lt (IsS78.lt (show IsS78 w0 _ g t302 t303 t304 t305 t306 from by exact q6_ HI0.out NB0_287.out)) : g ≠ gb307)); have n11_ := Aside0.mk ((by rw [hg]; exact Nat.ne_of_gt (IsS78.lt (show IsS78 w0 _ g t302 t303 t304 t305 t306 from by exact q6_ HI0.out NB0_287.out)) : gb307 ≠ g)); clear HO300; clear HI0; clear BK287; clear HK; clear HB; have HO300 := n0_; have HI0 := n1_; have BK287 := n2_; have HK := n3_; have HB := n4_; have BK307 := n5_; have GW307 := n6_; have GE307 := n7_; have NB287_307 := n8_; have NB307_287 := n9_; have NB0_307 := n10_; have NB307_0 := n11_; clear n0_ n1_ n2_ n3_ n4_ n5_ n6_ n7_ n8_ n9_ n10_ n11_; clear hb hbox hg; have hnb16 := NB307_287.out; have hnc16 := NB287_307.out; have hnb17 := NB307_0.out; have hnc17 := NB0_307.out; have hcz18_0 : w15.cell? ⟨gb307, 0, none⟩ = some (.bool false) := (blk_cell BK307.out 0).trans rfl; have hcz18_1 : w15.cell? ⟨gb307, 1, none⟩ = some (.int .u8 0) := (blk_cell BK307.out 1).trans rfl; have hcz18_2 : w15.cell? ⟨gb307, 2, none⟩ = some (.bool false) := (blk_cell BK307.out 2).trans rfl; have hcz18_3 : w15.cell? ⟨gb307, 3, none⟩ = some (.int .u32 0) := (blk_cell BK307.out 3).trans rfl; have hcz18_4 : w15.cell? ⟨gb307, 4, none⟩ = some (.slice none 0 0) := (blk_cell BK307.out 4).trans rfl; have hfz18_0 := blk_frozen BK307.out 0; have hfz18_1 := blk_frozen BK307.out 1; have hfz18_2 := blk_frozen BK307.out 2; have hfz18_3 := blk_frozen BK307.out 3; have hfz18_4 := blk_frozen BK307.out 4; obtain ⟨Ao19, co19, eo19⟩ := Kd.R_slice HO300.out; subst eo19) | ((with_reducible refine gate_callee (f := 57) rfl ?_); refine goesL_ (some 25) rfl rfl Tryd.func57 (by kernel_rfl) rfl #[.pointer (some ⟨g, 0, none⟩)] rfl (by exact q1_) ?_; (with_reducible refine (closing_Door_ends.calls g t302 t303 t304 t305 t306 t308 t309 t310 t311 t312 w0 _ ?side1 ?side2 A10.out).mono ?_); (case side1 => exact q13_ HI0.out NB0_287.out NB0_307.out); (case side2 => exact q14_ HB.out (IsS78.ge HI0.out) GE287.out GE307.out); rintro e w20 ⟨rfl, hi, hb, hk⟩; refine ⟨_, rfl, ?_⟩; have n0_ := Aside0.mk (KeepBut.blk hk (g' := gb287) (o := .cells #[.bool false, .int .u8 0, .bool false, .int .u32 0, .slice none 0 0] 52 (0, 0)) (by exact q16_ BK287.out NB287_307.out NB287_307.out NB287_307.out NB287_307.out NB287_307.out) NB287_0.out (by simp)); have n1_ := Aside0.mk (Kd.R_mono (Kd.R_keep (IsS78.apart (show IsS78 w0 _ g t302 t303 t304 t305 t306 from by exact q13_ HI0.out NB0_287.out NB0_307.out) (by (with_reducible repeat (first | apply Kd.R_alloc | apply Kd.R_drewN | apply Kd.R_drew)); exact (Kd.R_mono (Kd.R_far (p := ⟨gb307, 4, none⟩) (Kd.R_far (p := ⟨gb307, 3, none⟩) (Kd.R_far (p := ⟨gb307, 2, none⟩) (Kd.R_far (p := ⟨gb307, 1, none⟩) (Kd.R_far (p := ⟨gb307, 0, none⟩) (Kd.R_types HO300.out BK307.out (by decide)) (fun _ hk => hk.2) (.bool t294)) (fun _ hk => hk.2) (.int .u8 t295)) (fun _ hk => hk.2) (.bool t296)) (fun _ hk => hk.2) (.int .u32 t297)) (fun _ hk => hk.2) (.slice Ao19 t298.length co19)) (fun _ h_ => h_.1))) (by decide)) hk (fun _ h => h.2)) (fun _ h => h.1)); have n2_ := Aside0.mk (KeepBut.blk hk (g' := gb307) (o := .cells #[.bool t294, .int .u8 t295, .bool t296, .int .u32 t297, .slice Ao19 t298.length co19] 52 (0, 0)) (by (with_reducible repeat (first | refine blk_drewN ?_ _ | refine blk_drew ?_ | refine blk_alloc ?_ _)); refine blk_put (cs := #[.bool t294, .int .u8 t295, .bool t296, .int .u32 t297, .slice none 0 0]) ?_ 4 _ rfl; (with_reducible repeat (first | refine blk_drewN ?_ _ | refine blk_drew ?_ | refine blk_alloc ?_ _)); refine blk_put (cs := #[.bool t294, .int .u8 t295, .bool t296, .int .u32 0, .slice none 0 0]) ?_ 3 _ rfl; (with_reducible repeat (first | refine blk_drewN ?_ _ | refine blk_drew ?_ | refine blk_alloc ?_ _)); refine blk_put (cs := #[.bool t294, .int .u8 t295, .bool false, .int .u32 0, .slice none 0 0]) ?_ 2 _ rfl; (with_reducible repeat (first | refine blk_drewN ?_ _ | refine blk_drew ?_ | refine blk_alloc ?_ _)); refine blk_put (cs := #[.bool t294, .int .u8 0, .bool false, .int .u32 0, .slice none 0 0]) ?_ 1 _ rfl; (with_reducible repeat (first | refine blk_drewN ?_ _ | refine blk_drew ?_ | refine blk_alloc ?_ _)); refine blk_put (cs := #[.bool false, .int .u8 0, .bool false, .int .u32 0, .slice none 0 0]) ?_ 0 _ rfl; exact q9_ BK307.out) NB307_0.out (by simp)); have n3_ := Aside0.mk (KeepBut.trans (by exact q15_ HK.out GW287.out GW307.out) hk (.inl rfl)); have n4_ := Aside0.mk (hb); have n5_ := Aside0.mk (hi); clear BK287; clear HO300; clear BK307; clear HK; clear HB; clear HI0; have BK287 := n0_; have HO300 := n1_; have BK307 := n2_; have HK := n3_; have HB := n4_; have HI0 := n5_; clear n0_ n1_ n2_ n3_ n4_ n5_; (try clear hb); (try clear hb2); (try clear hk); (try clear hi); have hcz21_0 : w20.cell? ⟨gb307, 0, none⟩ = some (.bool t294) := (blk_cell BK307.out 0).trans rfl; have hcz21_1 : w20.cell? ⟨gb307, 1, none⟩ = some (.int .u8 t295) := (blk_cell BK307.out 1).trans rfl; have hcz21_2 : w20.cell? ⟨gb307, 2, none⟩ = some (.bool t296) := (blk_cell BK307.out 2).trans rfl; have hcz21_3 : w20.cell? ⟨gb307, 3, none⟩ = some (.int .u32 t297) := (blk_cell BK307.out 3).trans rfl; have hcz21_4 : w20.cell? ⟨gb307, 4, none⟩ = some (.slice Ao19 t298.length co19) := (blk_cell BK307.out 4).trans rfl; have hfz21_0 := blk_frozen BK307.out 0; have hfz21_1 := blk_frozen BK307.out 1; have hfz21_2 := blk_frozen BK307.out 2; have hfz21_3 := blk_frozen BK307.out 3; have hfz21_4 := blk_frozen BK307.out 4; have hnb22 := NB287_0.out; have hnc22 := NB0_287.out; have hcz23_0 : w20.cell? ⟨gb287, 0, none⟩ = some (.bool false) := (blk_cell BK287.out 0).trans rfl; have hcz23_1 : w20.cell? ⟨gb287, 1, none⟩ = some (.int .u8 0) := (blk_cell BK287.out 1).trans rfl; have hcz23_2 : w20.cell? ⟨gb287, 2, none⟩ = some (.bool false) := (blk_cell BK287.out 2).trans rfl; have hcz23_3 : w20.cell? ⟨gb287, 3, none⟩ = some (.int .u32 0) := (blk_cell BK287.out 3).trans rfl; have hcz23_4 : w20.cell? ⟨gb287, 4, none⟩ = some (.slice none 0 0) := (blk_cell BK287.out 4).trans rfl; have hfz23_0 := blk_frozen BK287.out 0; have hfz23_1 := blk_frozen BK287.out 1; have hfz23_2 := blk_frozen BK287.out 2; have hfz23_3 := blk_frozen BK287.out 3; have hfz23_4 := blk_frozen BK287.out 4))
  refine bodyPost_ret (results_ct rfl _ _ gb287 52 #[.bool t294, .int .u8 t295, .bool t296, .int .u32 t297, .slice Ao19 t298.length co19] (0, 0) _ rfl (by (with_reducible repeat (first | refine blk_drewN ?_ _ | refine blk_drew ?_ | refine blk_alloc ?_ _)); refine blk_put (cs := #[.bool t294, .int .u8 t295, .bool t296, .int .u32 t297, .slice none 0 0]) ?_ 4 _ rfl; (with_reducible repeat (first | refine blk_drewN ?_ _ | refine blk_drew ?_ | refine blk_alloc ?_ _)); refine blk_put (cs := #[.bool t294, .int .u8 t295, .bool t296, .int .u32 0, .slice none 0 0]) ?_ 3 _ rfl; (with_reducible repeat (first | refine blk_drewN ?_ _ | refine blk_drew ?_ | refine blk_alloc ?_ _)); refine blk_put (cs := #[.bool t294, .int .u8 t295, .bool false, .int .u32 0, .slice none 0 0]) ?_ 2 _ rfl; (with_reducible repeat (first | refine blk_drewN ?_ _ | refine blk_drew ?_ | refine blk_alloc ?_ _)); refine blk_put (cs := #[.bool t294, .int .u8 0, .bool false, .int .u32 0, .slice none 0 0]) ?_ 1 _ rfl; (with_reducible repeat (first | refine blk_drewN ?_ _ | refine blk_drew ?_ | refine blk_alloc ?_ _)); refine blk_put (cs := #[.bool false, .int .u8 0, .bool false, .int .u32 0, .slice none 0 0]) ?_ 0 _ rfl; exact q9_ BK287.out) Tryd.underlying52 rfl (by kernel_rfl)) rfl ?_
  exact ⟨_, by exact q11_, by (with_reducible repeat (first | apply Kd.R_alloc | apply Kd.R_drewN | apply Kd.R_drew)); exact Kd.R_mono (Kd.R_far (p := ⟨gb287, 4, none⟩) (Kd.R_far (p := ⟨gb287, 3, none⟩) (Kd.R_far (p := ⟨gb287, 2, none⟩) (Kd.R_far (p := ⟨gb287, 1, none⟩) (Kd.R_far (p := ⟨gb287, 0, none⟩) (Kd.R_types HO300.out BK287.out (by decide)) (fun _ hk => hk.2) (.bool t294)) (fun _ hk => hk.2) (.int .u8 t295)) (fun _ hk => hk.2) (.bool t296)) (fun _ hk => hk.2) (.int .u32 t297)) (fun _ hk => hk.2) (.slice Ao19 t298.length co19)) (fun _ hk => trivial), by exact q13_ HI0.out NB0_287.out NB0_307.out, by exact q14_ HB.out (IsS78.ge HI0.out) GE287.out GE307.out, by exact q15_ HK.out GW287.out GW307.out⟩
end Go.Proofs.YtpmeapdcjmaeiaaDoor.PAll
namespace Go.Proofs.YtpmeapdcjmaeiaaDoor
open Go.RowKit Go.Proofs.YtpmeapdcjmaeiaaDoorW.PrintWords Go.Proofs.YtpmeapdcjmaeiaaDoorW.PrintLast Go.Proofs.YtpmeapdcjmaeiaaDoorW.PrintMore Go.Proofs.YtpmeapdcjmaeiaaDoor.PAll
def IsG (W : World) (g : Nat) (v : Value) (busy text : Bool) (u : Value) (over : Bool) : Prop := W.heap[g]? = some (.cells #[v, .bool busy, .bool text, u, .bool over] 74 (0, 0))
theorem IsG.far {W : World} {g : Nat} {v u : Value} {busy text over : Bool} {p : Addr} {x : Value} (h : IsG W g v busy text u over) (hne : g ≠ p.block) : IsG (W.setCell p x) g v busy text u over := (Below.heap_setCell W p x g hne).trans h
theorem gnew_any (w : World) : Calls Tryd.prog 13 #[] w fun e w' => e = .returned (.pointer (some ⟨w.heap.size, 0, none⟩)) ∧ IsG w' w.heap.size (.slice none 0 0) false false (.pointer none) false ∧ Below w.heap.size w w' := by
 go_enter Tryd.func13, Tryd.ntmps13
 go_wp2
 go_ret
 exact ⟨rfl, last_at _ _ _ rfl, below_alloc (Below.refl _ _) _⟩
theorem over_any (g : Nat) (v u : Value) (busy text over : Bool) (w : World) (h : IsG w g v busy text u over) : Calls Tryd.prog 38 #[.pointer (some ⟨g, 0, none⟩)] w fun e w' => e = .returned (.bool over) ∧ w' = w := by
 have h4 : w.cell? ⟨g, 4, none⟩ = some (.bool over) := (blk_cell h 4).trans rfl
 go_enter Tryd.func38, Tryd.ntmps38
 go_wp2
 go_ret
 exact ⟨rfl, rfl⟩
end Go.Proofs.YtpmeapdcjmaeiaaDoor
namespace Go.Proofs.YtpmeapdcjmaeiaaDoor
open Go.RowKit Go.Proofs.YtpmeapdcjmaeiaaDoorW.PrintWords Go.Proofs.YtpmeapdcjmaeiaaDoorW.PrintLast Go.Proofs.YtpmeapdcjmaeiaaDoorW.PrintMore Go.Proofs.YtpmeapdcjmaeiaaDoor.PAll
def ClosesTo (l d : List Int) (code : Int) : Prop := ∀ (A : Option Addr) (c : Nat) (w : World), Kd.C (Kd.int .u8) w A l.length l → l.length ≤ c → Calls Tryd.prog 54 #[.slice A l.length c] w fun e w' => ∃ v, e = .returned (.tuple #[.agg #[.int .u8 4, .bool false, v, .int .u32 code], .nilIface]) ∧ Kd.R (Kd.int .u8) 5 w' w.heap.size (fun _ => True) v d ∧ Below w.heap.size w w'
set_option maxHeartbeats 2000000 in
theorem closes_none : ClosesTo [] [] 1005 := by
 intro A c w hC hc
 have hu30 := Tryd.underlying35
 go_enter Tryd.func54, Tryd.ntmps54
 go_wp2_with fail
 exact bodyPost_ret (v := .tuple #[.agg #[.int .u8 4, .bool false, .slice none 0 0, .int .u32 1005], .nilIface]) (by simp [results, Tryd.results54, go_sem]) rfl ⟨_, rfl, Kd.R_nil _ _ _ _ _, by repeat (first | exact Below.refl _ _ | apply below_alloc | refine Below.setCell ?_ (Nat.le_refl _) _)⟩
end Go.Proofs.YtpmeapdcjmaeiaaDoor
namespace Go.Proofs.YtpmeapdcjmaeiaaDoor
open Go.RowKit Go.Proofs.YtpmeapdcjmaeiaaDoorW.PrintWords Go.Proofs.YtpmeapdcjmaeiaaDoorW.PrintLast Go.Proofs.YtpmeapdcjmaeiaaDoorW.PrintMore Go.Proofs.YtpmeapdcjmaeiaaDoor.PAll
set_option maxHeartbeats 4000000 in
set_option maxRecDepth 100000 in
theorem closes_ok (h0 h1 : Int) (r : List Int) (code : Int) (k : Nat) (b0 : 0 ≤ h0) (b0' : h0 ≤ 255) (b1 : 0 ≤ h1) (b1' : h1 ≤ 255) (hcode : Go.bits .or .u32 (h0 * 256) h1 = code) (ht : toldB code = true) (hv : utf_Valid.f k r = some true) (hrl : r.length ≤ 140737488351232) : ClosesTo (h0 :: h1 :: r) r code := by
 intro A c w hC hc
 have hu30 := Tryd.underlying35
 have hlen : (h0 :: h1 :: r).length = r.length + 2 := by simp
 obtain ⟨ad, rfl, hx0⟩ := Kd.at_int hC 0 (by decide) (by simp; omega)
 obtain ⟨ad2, e2, hx1⟩ := Kd.at_int hC 1 (by decide) (by simp; omega)
 injection e2 with e2
 subst e2
 have y0 : w.cell? ad = some (.int .u8 h0) := hx0
 have y1 : w.cell? ⟨ad.block, ad.off + 1, none⟩ = some (.int .u8 h1) := hx1
 clear hx0 hx1
 have HC := Aside0.mk hC
 clear hC
 have e0 : IntKind.u32.wrap h0 = h0 := by simp [IntKind.wrap, IntKind.bits, IntKind.signed]; omega
 have e1 : IntKind.u32.wrap h1 = h1 := by simp [IntKind.wrap, IntKind.bits, IntKind.signed]; omega
 have e3 : IntKind.u32.wrap (h0 * 256) = h0 * 256 := by simp [IntKind.wrap, IntKind.bits, IntKind.signed]; omega
 have p0 : (0 : Int) < (r.length : Int) + 1 + 1 := by omega
 have p1 : (1 : Int) < (r.length : Int) + 1 + 1 := by omega
 have p2 : (2 : Int) ≤ (r.length : Int) + 1 + 1 := by omega
 have z0 : (((r.length : Int) + 1 + 1) == 0) = false := beq_eq_false_iff_ne.mpr (by omega)
 have z1 : (((r.length : Int) + 1 + 1) == 1) = false := beq_eq_false_iff_ne.mpr (by omega)
 go_enter Tryd.func54, Tryd.ntmps54
 go_wp2_with fail
 refine wp_region_noPanic ?_
 refine wp_region_held_drew (S := fun w' => Aside0 (Below w.heap.size w w') ∧ w'.cell? ad = some (.int .u8 h0) ∧ w'.cell? ⟨ad.block, ad.off + 1, none⟩ = some (.int .u8 h1)) (by kernel_rfl) (⟨⟨below_drew (below_alloc (Below.refl _ _) _)⟩, ((below_drew (below_alloc (Below.refl w.heap.size w) _)).cell (World.block_lt_of_cell? _ _ y0)).trans y0, ((below_drew (below_alloc (Below.refl w.heap.size w) _)).cell (World.block_lt_of_cell? _ _ y1)).trans y1⟩) (fun hHeld => ?_)
 refine takeP 0 14 ?_
 refine takeP 1 15 ?_
 refine takeP 2 16 ?_
 refine takeP 3 17 ?_
 refine takeP 4 18 ?_
 refine takeP 5 19 ?_
 refine takeP 6 20 ?_
 refine takeP 7 21 ?_
 refine takeP 8 22 ?_
 refine takeP 9 23 ?_
 refine takeP 10 4 ?_
 refine wpAnyH_done (by kernel_rfl) ?_ _
 refine NoPanic.normal ?_
 have HB := Aside0.mk hHeld.1.out
 clear hHeld
 have hr : ((w.alloc (.cells #[.int .u8 0, .bool false, .slice none 0 0, .int .u32 0] 35)).drew).heap[w.heap.size]? = some (.cells #[.int .u8 0, .bool false, .slice none 0 0, .int .u32 0] 35 (0, 0)) := blk_drew (last_at _ _ _ rfl)
 generalize (w.alloc (.cells #[.int .u8 0, .bool false, .slice none 0 0, .int .u32 0] 35)).drew = w1 at HB hr ⊢
 have hc' : r.length + 2 ≤ c := by rw [hlen] at hc; exact hc
 clear hc
 by_cases hc2 : c = 2
 ·subst hc2
  have HC2 : Aside0 ((Kd.int .u8).C w (some ad) r.length r) := ⟨by
   have h := Kd.C_drop (m := 2) (c := 2) HC.out (by simp) (by rw [hlen]; omega)
   rw [if_pos rfl] at h
   exact h⟩
  have hc3 : r.length ≤ 0 := by omega
  have hr0 : r.length = 0 := by omega
  go_wp2_with fail
  refine (message_Told.calls code true _ (by show some (toldB code) = some true; rw [ht])).mono ?_
  rintro e w2 ⟨rfl, hb⟩
  have hr2 : w2.heap[w.heap.size]? = _ := blk_below hr hb
  replace HB := Aside0.mk (below_step HB.out hb)
  clear hb hr
  go_wp2_with fail
  refine (calls_of_args (by rw [hr0]) (utf_Valid.calls k (some ad) (0) r true _ (Kd.C_below HC2.out HB.out) hc3 hv)).mono ?_
  rintro e w3 ⟨rfl, hb⟩
  have hr3 : w3.heap[w.heap.size]? = _ := blk_below hr2 hb
  replace HB := Aside0.mk (below_step HB.out hb)
  clear hb hr2
  go_wp2_with fail
  refine (calls_of_args (by rw [hr0]) (bytes_Clone.calls (some ad) (0) r r _ (Kd.C_below HC2.out HB.out) hc3 (by unfold bytes_Clone.f; rw [if_pos (by omega)]))).mono ?_
  rintro e w4 ⟨v, rfl, ho, hb⟩
  have hr4 : w4.heap[w.heap.size]? = some (.cells #[.int .u8 0, .bool false, .slice none 0 0, .int .u32 0] 35 (0, 0)) := blk_below hr3 hb
  have hR := Kd.R_types (Kd.R_lower ho HB.out.size) hr4 (by intro q hq; simp [Kd.int, Kd.scalar] at hq; omega)
  obtain ⟨Av, cv, rfl⟩ := Kd.R_slice hR
  have HR := Aside0.mk hR
  replace HB := Aside0.mk (below_step HB.out hb)
  clear hb hr3 ho hR
  have rc0 : w4.cell? ⟨w.heap.size, 0, none⟩ = some (.int .u8 0) := (blk_cell hr4 0).trans rfl
  have rf0 := blk_frozen hr4 0
  have rc1 : w4.cell? ⟨w.heap.size, 1, none⟩ = some (.bool false) := (blk_cell hr4 1).trans rfl
  have rf1 := blk_frozen hr4 1
  have rc2 : w4.cell? ⟨w.heap.size, 2, none⟩ = some (.slice none 0 0) := (blk_cell hr4 2).trans rfl
  have rf2 := blk_frozen hr4 2
  have rc3 : w4.cell? ⟨w.heap.size, 3, none⟩ = some (.int .u32 0) := (blk_cell hr4 3).trans rfl
  have rf3 := blk_frozen hr4 3
  have rl : w.heap.size < w4.heap.size := blk_lt hr4
  have hle : w.heap.size ≤ w.heap.size := Nat.le_refl _
  go_wp2_with fail
  exact bodyPost_ret (v := .tuple #[.agg #[.int .u8 4, .bool false, .slice Av r.length cv, .int .u32 code], .nilIface]) (by simp [results, Tryd.results54, go_sem, rc0, rc1, rc2, rc3, hr0]) rfl ⟨_, rfl, Kd.R_mono (Kd.R_far (Kd.R_far (Kd.R_far (Kd.R_far HR.out (fun k hk => hk.2) _) (fun k hk => hk.2) _) (fun k hk => hk.2) _) (fun k hk => hk.2) _) (fun _ _ => trivial), (Below.setCell (Below.setCell (Below.setCell (Below.setCell HB.out hle _) hle _) hle _) hle _)⟩
 ·have hc5 : (2 : Int) ≤ (c : Int) := by omega
  have hc6 : (c == 2) = false := beq_eq_false_iff_ne.mpr hc2
  have HC2 : Aside0 ((Kd.int .u8).C w (some ⟨ad.block, ad.off + 2, none⟩) r.length r) := ⟨by
   have h := Kd.C_drop (m := 2) (c := c) HC.out (by simp) (by rw [hlen]; omega)
   rw [if_neg hc2] at h
   exact h⟩
  have hc3 : r.length ≤ c - 2 := by omega
  go_wp2_with fail
  refine (message_Told.calls code true _ (by show some (toldB code) = some true; rw [ht])).mono ?_
  rintro e w2 ⟨rfl, hb⟩
  have hr2 : w2.heap[w.heap.size]? = _ := blk_below hr hb
  replace HB := Aside0.mk (below_step HB.out hb)
  clear hb hr
  go_wp2_with fail
  refine ((utf_Valid.calls k (some ⟨ad.block, ad.off + 2, none⟩) (c - 2) r true _ (Kd.C_below HC2.out HB.out) hc3 hv)).mono ?_
  rintro e w3 ⟨rfl, hb⟩
  have hr3 : w3.heap[w.heap.size]? = _ := blk_below hr2 hb
  replace HB := Aside0.mk (below_step HB.out hb)
  clear hb hr2
  go_wp2_with fail
  refine ((bytes_Clone.calls (some ⟨ad.block, ad.off + 2, none⟩) (c - 2) r r _ (Kd.C_below HC2.out HB.out) hc3 (by unfold bytes_Clone.f; rw [if_pos (by omega)]))).mono ?_
  rintro e w4 ⟨v, rfl, ho, hb⟩
  have hr4 : w4.heap[w.heap.size]? = some (.cells #[.int .u8 0, .bool false, .slice none 0 0, .int .u32 0] 35 (0, 0)) := blk_below hr3 hb
  have hR := Kd.R_types (Kd.R_lower ho HB.out.size) hr4 (by intro q hq; simp [Kd.int, Kd.scalar] at hq; omega)
  obtain ⟨Av, cv, rfl⟩ := Kd.R_slice hR
  have HR := Aside0.mk hR
  replace HB := Aside0.mk (below_step HB.out hb)
  clear hb hr3 ho hR
  have rc0 : w4.cell? ⟨w.heap.size, 0, none⟩ = some (.int .u8 0) := (blk_cell hr4 0).trans rfl
  have rf0 := blk_frozen hr4 0
  have rc1 : w4.cell? ⟨w.heap.size, 1, none⟩ = some (.bool false) := (blk_cell hr4 1).trans rfl
  have rf1 := blk_frozen hr4 1
  have rc2 : w4.cell? ⟨w.heap.size, 2, none⟩ = some (.slice none 0 0) := (blk_cell hr4 2).trans rfl
  have rf2 := blk_frozen hr4 2
  have rc3 : w4.cell? ⟨w.heap.size, 3, none⟩ = some (.int .u32 0) := (blk_cell hr4 3).trans rfl
  have rf3 := blk_frozen hr4 3
  have rl : w.heap.size < w4.heap.size := blk_lt hr4
  have hle : w.heap.size ≤ w.heap.size := Nat.le_refl _
  go_wp2_with fail
  exact bodyPost_ret (v := .tuple #[.agg #[.int .u8 4, .bool false, .slice Av r.length cv, .int .u32 code], .nilIface]) (by simp [results, Tryd.results54, go_sem, rc0, rc1, rc2, rc3]) rfl ⟨_, rfl, Kd.R_mono (Kd.R_far (Kd.R_far (Kd.R_far (Kd.R_far HR.out (fun k hk => hk.2) _) (fun k hk => hk.2) _) (fun k hk => hk.2) _) (fun k hk => hk.2) _) (fun _ _ => trivial), (Below.setCell (Below.setCell (Below.setCell (Below.setCell HB.out hle _) hle _) hle _) hle _)⟩
end Go.Proofs.YtpmeapdcjmaeiaaDoor
namespace Go.Proofs.YtpmeapdcjmaeiaaDoor
open Go.RowKit Go.Proofs.YtpmeapdcjmaeiaaDoorW.PrintWords Go.Proofs.YtpmeapdcjmaeiaaDoorW.PrintLast Go.Proofs.YtpmeapdcjmaeiaaDoorW.PrintMore
theorem C_at {k : IntKind} {W W' : World} {ad : Addr} {n : Nat} {xs : List Int} (h : Kd.C (Kd.int k) W (some ad) n xs) (hb : W'.heap[ad.block]? = W.heap[ad.block]?) : Kd.C (Kd.int k) W' (some ad) n xs := by
 have hr : ReadsInt W k (some ad) n xs := Kd.reads_of_C h
 refine Kd.C_of_reads (d := (0 : Int)) (h1 := fun _ => rfl) ⟨hr.1, hr.2.1, fun hp => ?_⟩
 obtain ⟨a, e, hc⟩ := hr.2.2 hp
 injection e with e
 subst e
 refine ⟨_, rfl, fun j hj => ?_⟩
 have hbl : W'.heap[(ad.add j).block]? = W.heap[(ad.add j).block]? := by rw [add_block]; exact hb
 rw [World.cell?_of_block hbl]
 exact hc j hj
theorem C_none {k : IntKind} {W W' : World} {n : Nat} {xs : List Int} (h : Kd.C (Kd.int k) W none n xs) : Kd.C (Kd.int k) W' none n xs := by
 have hr : ReadsInt W k none n xs := Kd.reads_of_C h
 refine Kd.C_of_reads (d := (0 : Int)) (h1 := fun _ => rfl) ⟨hr.1, hr.2.1, fun hp => ?_⟩
 obtain ⟨a, e, hc⟩ := hr.2.2 hp
 cases e
def Dat (W : World) (v : Value) (xs : List Int) : Prop := ∃ A c, v = .slice A xs.length c ∧ xs.length ≤ c ∧ Kd.C (Kd.int .u8) W A xs.length xs ∧ ∀ ad, A = some ad → ∃ cells fr, W.heap[ad.block]? = some (.cells cells 5 fr)
theorem Dat.keep {W W' : World} {v : Value} {xs : List Int} (h : Dat W v xs) (hk : ∀ k, v.ownBlock = some k → W'.heap[k]? = W.heap[k]?) : Dat W' v xs := by
 obtain ⟨A, c, rfl, hc, hC, hb⟩ := h
 cases A with
 | none => exact ⟨none, c, rfl, hc, C_none hC, fun ad e => by cases e⟩
 | some ad =>
  have e := hk ad.block rfl
  refine ⟨some ad, c, rfl, hc, C_at hC e, fun a ha => ?_⟩
  injection ha with ha
  subst ha
  rw [e]
  exact hb ad rfl
theorem Dat.typed {W : World} {v : Value} {xs : List Int} (h : Dat W v xs) {k : Nat} (hk : v.ownBlock = some k) : ∃ cells fr, W.heap[k]? = some (.cells cells 5 fr) := by
 obtain ⟨A, c, rfl, hc, hC, hb⟩ := h
 cases A with
 | none => cases hk
 | some ad =>
  injection hk with hk
  subst hk
  exact hb ad rfl
theorem Dat.lt {W : World} {v : Value} {xs : List Int} (h : Dat W v xs) {k : Nat} (hk : v.ownBlock = some k) : k < W.heap.size := by
 obtain ⟨_, _, h⟩ := h.typed hk
 exact blk_lt h
theorem Dat.below {W W' : World} {v : Value} {xs : List Int} (h : Dat W v xs) (hb : Below W.heap.size W W') : Dat W' v xs := h.keep (fun k hk => hb.block k (h.lt hk))
theorem Dat.of_row {W : World} {base : Nat} {ok : Nat → Prop} {v : Value} {xs : List Int} (h : Kd.R (Kd.int .u8) 5 W base ok v xs) : Dat W v xs := by
 obtain ⟨A, c, rfl⟩ := Kd.R_slice h
 obtain ⟨_, h1, h2⟩ := Kd.R_reads' h
 refine ⟨A, c, rfl, h1, h2, fun ad e => ?_⟩
 subst e
 obtain ⟨cells, h3⟩ := Kd.R_typed h ad.block rfl
 exact ⟨cells, _, h3⟩
theorem Dat.C {W : World} {A : Option Addr} {n c : Nat} {xs : List Int} (h : Dat W (.slice A n c) xs) : Kd.C (Kd.int .u8) W A xs.length xs := by
 obtain ⟨B, c', e, _, hC, _⟩ := h
 injection e with e1 _ _
 rw [e1]
 exact hC
theorem Dat.le {W : World} {A : Option Addr} {n c : Nat} {xs : List Int} (h : Dat W (.slice A n c) xs) : xs.length ≤ c := by
 obtain ⟨B, c', e, hl, _, _⟩ := h
 injection e with _ _ e3
 omega
theorem Dat.off {W : World} {A : Option Addr} {n c k t : Nat} {xs : List Int} {cs : Array Value} (h : Dat W (.slice A n c) xs) (hk : W.heap[k]? = some (.cells cs t (0, 0))) (ht : t ≠ 5 := by decide) : ∀ ad, A = some ad → 0 < xs.length → ad.block ≠ k := by
 intro ad e _ e2
 obtain ⟨c1, fr, h1⟩ := h.typed (k := k) (by rw [e, ← e2]; rfl)
 rw [hk] at h1
 injection h1 with h1
 injection h1 with _ h1 _
 exact ht h1
theorem cut_left (A : Option Addr) (c k : Nat) (lx : List Int) (hk : k ≤ lx.length) (hc : lx.length ≤ c) : ∃ A' c', (∀ W : World, (Instr.slice 26 (.slice A lx.length c) (some (.int .i64 (k : Int))) none none).run Tryd.prog W = .ok (.slice A' (lx.drop k).length c') W) ∧ (∀ W, Kd.C (Kd.int .u8) W A lx.length lx → Kd.C (Kd.int .u8) W A' (lx.drop k).length (lx.drop k)) ∧ (lx.drop k).length ≤ c' := by
 have hd : (Tryd.prog.info? 5).map (fun i => i.size) = some 1 := by kernel_rfl
 obtain ⟨i_, hi_⟩ : ∃ i, Tryd.prog.info? 5 = some i := by
  have h : (Tryd.prog.info? 5).isSome = true := by kernel_rfl
  exact Option.isSome_iff_exists.1 h
 have hsz_ : i_.size = 1 := by
  rw [hi_] at hd
  exact Option.some.inj hd
 obtain ⟨A', h1, h2, h3⟩ := print_cut_int (P := Tryd.prog) (k := .u8) 26 5 Tryd.underlying26 hi_ hsz_ A c lx (k : Int) (by omega) (by omega) hc
 rw [Int.toNat_natCast] at h1 h2 h3
 exact ⟨A', _, h1, fun W h => Kd.C_of_reads (d := (0 : Int)) (h1 := fun _ => rfl) (h2 W (Kd.reads_of_C h)), h3⟩
end Go.Proofs.YtpmeapdcjmaeiaaDoor
namespace Go.Proofs.YtpmeapdcjmaeiaaDoor.U
abbrev St := Int × Int × Int
def s0 : St := (0, 128, 191)
def firstC (b : Int) : Bool × St :=
 if b < 128 then (true, 0, 128, 191)
 else if 194 ≤ b ∧ b ≤ 223 then (true, 1, 128, 191)
 else if b = 224 then (true, 2, 160, 191)
 else if b = 237 then (true, 2, 128, 159)
 else if 225 ≤ b ∧ b ≤ 239 then (true, 2, 128, 191)
 else if b = 240 then (true, 3, 144, 191)
 else if b = 244 then (true, 3, 128, 143)
 else if 241 ≤ b ∧ b ≤ 243 then (true, 3, 128, 191)
 else (false, 0, 128, 191)
def oneC (s : St) (b : Int) : Bool × St :=
 if s.1 = 0 then firstC b else if b < s.2.1 ∨ s.2.2 < b then (false, s) else (true, s.1 - 1, 128, 191)
def feedC (s : St) : List Int → Nat × St × Bool
 | [] => (0, s, false)
 | b :: r => if (oneC s b).1 then ((feedC (oneC s b).2 r).1 + 1, (feedC (oneC s b).2 r).2) else (0, (oneC s b).2, true)
def validC (l : List Int) : Bool := !(feedC s0 l).2.2 && (feedC s0 l).2.1.1 == 0
def okS (s : St) : Prop := 0 ≤ s.1 ∧ s.1 ≤ 3
theorem firstC_ok (b : Int) : okS (firstC b).2 := by
 unfold firstC okS
 repeat' split
 all_goals (constructor <;> decide)
theorem oneC_ok {s : St} (h : okS s) (b : Int) : okS (oneC s b).2 := by
 unfold oneC
 split
 ·exact firstC_ok b
 ·split
  ·exact h
  ·unfold okS at *
   simp only
   omega
theorem feedC_ok {s : St} (h : okS s) (l : List Int) : okS (feedC s l).2.1 := by
 induction l generalizing s with
 | nil => exact h
 | cons b r ih =>
  unfold feedC
  split
  ·exact ih (oneC_ok h b)
  ·exact oneC_ok h b
theorem feedC_all (s : St) (l : List Int) : (feedC s l).2.2 = false ↔ (feedC s l).1 = l.length := by
 induction l generalizing s with
 | nil => simp [feedC]
 | cons b r ih =>
  unfold feedC
  split
  ·simpa using ih _
  ·simp
theorem feedC_good {s : St} {l : List Int} (h : (feedC s l).2.2 = false) : (feedC s l).1 = l.length := (feedC_all s l).1 h
theorem feedC_pos {s : St} {b : Int} (h : (oneC s b).1 = true) (r : List Int) : feedC s (b :: r) = ((feedC (oneC s b).2 r).1 + 1, (feedC (oneC s b).2 r).2) := by
 rw [feedC, if_pos h]
theorem feedC_neg {s : St} {b : Int} (h : ¬ (oneC s b).1 = true) (r : List Int) : feedC s (b :: r) = (0, (oneC s b).2, true) := by
 rw [feedC, if_neg h]
theorem feedC_append (s : St) (a b : List Int) : feedC s (a ++ b) = if (feedC s a).2.2 then feedC s a else ((feedC s a).1 + (feedC (feedC s a).2.1 b).1, (feedC (feedC s a).2.1 b).2) := by
 induction a generalizing s with
 | nil => simp [feedC]
 | cons x r ih =>
  rw [List.cons_append]
  by_cases h : (oneC s x).1 = true
  ·rw [feedC_pos h, feedC_pos h, ih]
   by_cases h2 : (feedC (oneC s x).2 r).2.2 = true
   ·rw [if_pos h2, if_pos h2]
   ·rw [if_neg h2, if_neg h2]
    simp only [Nat.add_right_comm]
  ·rw [feedC_neg h, feedC_neg h, if_pos rfl]
theorem feedC_append_good {s : St} {a : List Int} (h : (feedC s a).2.2 = false) (b : List Int) : feedC s (a ++ b) = (a.length + (feedC (feedC s a).2.1 b).1, (feedC (feedC s a).2.1 b).2) := by
 rw [feedC_append, if_neg (by simp [h]), feedC_good h]
end Go.Proofs.YtpmeapdcjmaeiaaDoor.U
namespace Go.Proofs.YtpmeapdcjmaeiaaDoor.U
open Go.RowKit Go.Proofs.YtpmeapdcjmaeiaaDoorW.PrintWords Go.Proofs.YtpmeapdcjmaeiaaDoorW.PrintLast Go.Proofs.YtpmeapdcjmaeiaaDoor.PAll
theorem first_f (k : Nat) (hk : 4 ≤ k) (s1 s2 b : Int) : utf_Checker_first.f k 0 s1 s2 false b = some ((firstC b).1, (firstC b).2.1, (firstC b).2.2.1, (firstC b).2.2.2, false) := by
 obtain ⟨n, rfl⟩ : ∃ m, k = m + 4 := ⟨k - 4, by omega⟩
 unfold firstC
 simp only [utf_Checker_first.f, utf_Checker_first.j0, utf_Checker_first.j1, utf_Checker_first.j2, decide_eq_true_eq, Bool.false_eq_true, if_false]
 have hc : b < 128 ∨ (128 ≤ b ∧ b < 194) ∨ (194 ≤ b ∧ b ≤ 223) ∨ b = 224 ∨ (225 ≤ b ∧ b ≤ 236) ∨ b = 237 ∨ (238 ≤ b ∧ b ≤ 239) ∨ b = 240 ∨ (241 ≤ b ∧ b ≤ 243) ∨ b = 244 ∨ 244 < b := by omega
 rcases hc with h | h | h | h | h | h | h | h | h | h | h
 all_goals simp (disch := omega) only [if_pos, if_neg]
theorem one_f (k : Nat) (hk : 4 ≤ k) (s : St) (hs : okS s) (b : Int) : utf_Checker_one.f k s.1 s.2.1 s.2.2 false b = some ((oneC s b).1, (oneC s b).2.1, (oneC s b).2.2.1, (oneC s b).2.2.2, false) := by
 obtain ⟨m, lo, hi⟩ := s
 unfold utf_Checker_one.f oneC
 by_cases h : m = 0
 ·subst h
  simp only [if_true, first_f k hk, Option.bind_some]
 ·simp only [if_neg h]
  by_cases h1 : b < lo
  ·rw [if_pos h1, if_pos (Or.inl h1)]
  ·rw [if_neg h1]
   by_cases h2 : b > hi
   ·rw [if_pos h2, if_pos (Or.inr h2)]
   ·rw [if_neg h2, if_neg (by omega)]
    unfold okS at hs
    simp only at hs
    have e : wrap64 (m - 1) = m - 1 := by unfold wrap64; omega
    rw [e]
theorem feed_l0 (l : List Int) (hl : l.length ≤ 140737488351232) (d : Nat) : ∀ (i : Nat) (k : Nat) (s : St), okS s → l.length - i = d → i ≤ l.length → d + 5 ≤ k →
  utf_Checker_Feed.l0 k l l (l.length : Int) (i : Int) s.1 s.2.1 s.2.2 false =
   some (((i + (feedC s (l.drop i)).1 : Nat) : Int), (feedC s (l.drop i)).2.1.1, (feedC s (l.drop i)).2.1.2.1, (feedC s (l.drop i)).2.1.2.2, (feedC s (l.drop i)).2.2) := by
 induction d with
 | zero =>
  intro i k s hs hd hi hk
  obtain ⟨k, rfl⟩ : ∃ m, k = m + 1 := ⟨k - 1, by omega⟩
  have hil : i = l.length := by omega
  subst hil
  simp only [utf_Checker_Feed.l0]
  rw [if_neg (by omega), List.drop_length]
  simp [feedC]
 | succ d ih =>
  intro i k s hs hd hi hk
  obtain ⟨k, rfl⟩ : ∃ m, k = m + 1 := ⟨k - 1, by omega⟩
  have hlt : i < l.length := by omega
  have e : rd l (i : Int) = l[i] := by simp [rd, hlt]
  have ew : wrap64 ((i : Int) + 1) = ((i + 1 : Nat) : Int) := by unfold wrap64; omega
  have ed : l.drop i = l[i] :: l.drop (i + 1) := (List.getElem_cons_drop hlt).symm
  simp only [utf_Checker_Feed.l0]
  rw [if_pos (by omega), if_pos (by omega), if_pos (by omega), e, one_f k (by omega) s hs, ew, ed]
  simp only [Option.bind_some]
  by_cases h : (oneC s l[i]).1 = true
  ·rw [if_pos h, feedC_pos h, ih (i + 1) k (oneC s l[i]).2 (oneC_ok hs _) (by omega) (by omega) (by omega)]
   simp only [Nat.add_assoc, Nat.add_comm 1]
  ·rw [if_neg h, feedC_neg h]
   rfl
theorem feed_f (l : List Int) (hl : l.length ≤ 140737488351232) (k : Nat) (hk : l.length + 5 ≤ k) (s : St) (hs : okS s) :
  utf_Checker_Feed.f k s.1 s.2.1 s.2.2 false l = some (((feedC s l).1 : Int), (feedC s l).2.1.1, (feedC s l).2.1.2.1, (feedC s l).2.1.2.2, (feedC s l).2.2) := by
 unfold utf_Checker_Feed.f utf_Checker_Bad.f
 simp only [Option.bind_some, Bool.false_eq_true, if_false]
 have := feed_l0 l hl l.length 0 k s hs (by omega) (by omega) (by omega)
 simpa using this
theorem whole_f (m lo hi : Int) (bad : Bool) : utf_Checker_Whole.f m lo hi bad = some (!bad && m == 0, m, lo, hi, bad) := by
 unfold utf_Checker_Whole.f utf_Checker_Bad.f
 cases bad <;> simp
theorem okS0 : okS s0 := by unfold okS s0; decide
theorem valid_f (l : List Int) (hl : l.length ≤ 140737488351232) (k : Nat) (hk : l.length + 5 ≤ k) : utf_Valid.f k l = some (validC l) := by
 unfold utf_Valid.f utf_New.f
 simp only [Option.bind_some]
 have := feed_f l hl k hk s0 okS0
 rw [show utf_Checker_Feed.f k 0 128 191 false l = utf_Checker_Feed.f k s0.1 s0.2.1 s0.2.2 false l from rfl, this]
 simp only [Option.bind_some, whole_f]
 rfl
end Go.Proofs.YtpmeapdcjmaeiaaDoor.U
