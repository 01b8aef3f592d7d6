/- What the law's row rests on, part 6. -/
import Derived.Test.YtpmeapdcjmaeiaaGreatDoorZ5
set_option linter.unusedVariables false
set_option linter.unusedSimpArgs false
set_option maxRecDepth 100000
set_option maxHeartbeats 16000000

namespace Go.Proofs.YtpmeapdcjmaeiaaGreatDoor.PAll
open Go.RowKit Go.Wa Go.Wb Go.Wc
attribute [local go_sem] max2_int min2_int max_two min_two max_three min_three max_four min_four
mutual
def utf_Checker_first.j2 : Nat → Int → Int → Int → Int → Bool → Option (Bool × Int × Int × Int × Bool)
 | 0, _, _, _, _, _ => none
 | k + 1, x1, x1000, x1001, x1002, x1003 => if x1 = 237 then (some (true, 2, x1001, 159, x1003)) else (some (true, 2, x1001, x1002, x1003))
def utf_Checker_first.j0 : Nat → Int → Bool → Int → Int → Int → Bool → Option (Bool × Int × Int × Int × Bool)
 | 0, _, _, _, _, _, _ => none
 | k + 1, x1, x14, x1000, x1001, x1002, x1003 => if x14 = true then (some (true, 1, x1001, x1002, x1003)) else (if x1 = 224 then (utf_Checker_first.j2 k x1 x1000 160 x1002 x1003) else (if x1 > 224 then (utf_Checker_first.j1 k x1 (decide (x1 ≤ 239)) x1000 x1001 x1002 x1003) else (utf_Checker_first.j1 k x1 false x1000 x1001 x1002 x1003)))
def utf_Checker_first.j1 : Nat → Int → Bool → Int → Int → Int → Bool → Option (Bool × Int × Int × Int × Bool)
 | 0, _, _, _, _, _, _ => none
 | k + 1, x1, x24, x1000, x1001, x1002, x1003 => if x24 = true then (utf_Checker_first.j2 k x1 x1000 x1001 x1002 x1003) else (if x1 = 240 then (if x1 = 244 then (some (true, 3, 144, 143, x1003)) else (some (true, 3, 144, x1002, x1003))) else (if x1 > 240 then (if x1 ≤ 244 then (if x1 = 244 then (some (true, 3, x1001, 143, x1003)) else (some (true, 3, x1001, x1002, x1003))) else (some (false, x1000, x1001, x1002, x1003))) else (some (false, x1000, x1001, x1002, x1003))))
end
def utf_Checker_first.f (k : Nat) (s0_0 : Int) (s0_1 : Int) (s0_2 : Int) (s0_3 : Bool) (a1 : Int) : Option (Bool × Int × Int × Int × Bool) := if a1 < 128 then (some (true, s0_0, 128, 191, s0_3)) else (if a1 ≥ 194 then (utf_Checker_first.j0 k a1 (decide (a1 ≤ 223)) s0_0 128 191 s0_3) else (utf_Checker_first.j0 k a1 false s0_0 128 191 s0_3))
theorem utf_Checker_first.calls (k : Nat) (g : Nat) (s0_0 : Int) (s0_1 : Int) (s0_2 : Int) (s0_3 : Bool) (a1 : Int) (r1 : Bool) (r2 : Int) (r3 : Int) (r4 : Int) (r5 : Bool) (w0 w : World) (hI : IsS155 w0 w g s0_0 s0_1 s0_2 s0_3) (hB : Below w0.heap.size w0 w) (h : utf_Checker_first.f k s0_0 s0_1 s0_2 s0_3 a1 = some (r1, r2, r3, r4, r5)) :
  Calls Tryz.prog 117 #[.pointer (some ⟨g, 0, none⟩), .int .u8 a1] w fun e w' => e = .returned (.bool r1) ∧ IsS155 w0 w' g r2 r3 r4 r5 ∧ Below w0.heap.size w0 w' ∧ KeepBut w w' g none := by
 have hf43_0 := field43_0
 have hf87_1 := field87_1
 have HI0 := a_ hI
 have HK := a_ (KeepBut.refl w g none)
 have HL := a_ hB.size
 clear hI
 have HW0 := a_ hB.size
 have HB := a_ hB
 clear hB
 have H : (if a1 < 128 then (some (true, s0_0, 128, 191, s0_3)) else (if a1 ≥ 194 then (utf_Checker_first.j0 k a1 (decide (a1 ≤ 223)) s0_0 128 191 s0_3) else (utf_Checker_first.j0 k a1 false s0_0 128 191 s0_3))) = some (r1, r2, r3, r4, r5) := h
 clear h
 have HC3 := a_ H
 clear H
 obtain ⟨HGz4, hgz4⟩ := HI0.out
 have hcz4_0 := cellS155_0 HGz4
 have hcz4_1 := cellS155_1 HGz4
 have hcz4_2 := cellS155_2 HGz4
 have hcz4_3 := cellS155_3 HGz4
 have hfz4_0 := blk_frozen HGz4 0
 have hfz4_1 := blk_frozen HGz4 1
 have hfz4_2 := blk_frozen HGz4 2
 have hfz4_3 := blk_frozen HGz4 3
 clear HGz4 hgz4
 go_enter Tryz.func117, Tryz.ntmps117
 go_upto_block 4 with (fail)
 go_cut [] (fun wc => ∃ (kq : Nat) (x1000_2 : Int) (x1001_2 : Int), Aside0 (utf_Checker_first.j2 kq a1 x1000_2 x1001_2 191 s0_3 = some (r1, r2, r3, r4, r5)) ∧ Aside0 (kq ≤ k) ∧ Aside0 (IsS155 w0 wc g x1000_2 x1001_2 191 s0_3) ∧ Aside0 (KeepBut w wc g none) ∧ Aside0 (Below w0.heap.size w0 wc))
 case first =>
  have H := HC3.out
  clear HC3
  by_cases c5 : a1 < 128
  ·rw [if_pos c5] at H
   have c5b0 : decide (a1 < 128) = true := decide_eq_true c5
   clear c5
   (first | rw [c5b0] | (simp only [i64_w, i32_w]; rw [c5b0]) | skip)
   simp only [Option.some.injEq, Prod.mk.injEq] at H
   obtain ⟨rfl, rfl, rfl, rfl, rfl⟩ := H
   go_wp2
   go_ret
   exact ⟨by exact q12_, by first | ((exact q9_ HI0.out); done) | (rw [‹((_ : Int) == _) = _›]; ((exact q9_ HI0.out); done)) | (exact q9_ HI0.out), by exact q3_ HB.out (IsS155.ge HI0.out), by exact q5_ HK.out⟩
  ·rw [if_neg c5] at H
   have c5b0 : decide (a1 < 128) = false := decide_eq_false c5
   clear c5
   (first | rw [c5b0] | (simp only [i64_w, i32_w]; rw [c5b0]) | skip)
   have HC6 := a_ H
   clear H
   go_upto_region 3 with (fail)
   go_cut [14] (fun v14 wc => ∃ (kq : Nat) (x14_5 : Bool), v14 = .bool x14_5 ∧ Aside0 (utf_Checker_first.j0 kq a1 x14_5 s0_0 128 191 s0_3 = some (r1, r2, r3, r4, r5)) ∧ Aside0 (kq ≤ k) ∧ Aside0 (IsS155 w0 wc g s0_0 128 191 s0_3) ∧ Aside0 (KeepBut w wc g none) ∧ Aside0 (Below w0.heap.size w0 wc))
   case first =>
    have H := HC6.out
    clear HC6
    by_cases c7 : a1 ≥ 194
    ·rw [if_pos c7] at H
     have c7b0 : decide (194 ≤ a1) = true := decide_eq_true c7
     clear c7
     (first | rw [c7b0] | (simp only [i64_w, i32_w]; rw [c7b0]) | skip)
     have H' := a_ H
     clear H
     go_wp2
     go_meet
     case rel => exact ⟨_, (decide (a1 ≤ 223)), (by first | rfl | (simp; done) | (simp [*]; done)), H', ⟨by first | omega | exact Nat.le_refl _⟩, ⟨by exact q9_ HI0.out⟩, ⟨by exact q5_ HK.out⟩, ⟨by exact q3_ HB.out (IsS155.ge HI0.out)⟩⟩
    ·rw [if_neg c7] at H
     have c7b0 : decide (194 ≤ a1) = false := decide_eq_false c7
     clear c7
     (first | rw [c7b0] | (simp only [i64_w, i32_w]; rw [c7b0]) | skip)
     have H' := a_ H
     clear H
     go_wp2
     go_meet
     case rel => exact ⟨_, (false), (by first | rfl | (simp; done) | (simp [*]; done)), H', ⟨by first | omega | exact Nat.le_refl _⟩, ⟨by exact q9_ HI0.out⟩, ⟨by exact q5_ HK.out⟩, ⟨by exact q3_ HB.out (IsS155.ge HI0.out)⟩⟩
   case rest =>
    clear HC6
    try clear c5
    try clear c5b0
    try clear c7
    try clear c7b0
    try clear hcz4_0
    try clear hcz4_1
    try clear hcz4_2
    try clear hcz4_3
    try clear hfz4_0
    try clear hfz4_1
    try clear hfz4_2
    try clear hfz4_3
    obtain ⟨kq, x14_5, rfl, HA, HJ5, HI0, HK, HB⟩ := hcut
    cases kq with
    | zero => exact absurd HA.out (by simp [utf_Checker_first.j0])
    | succ kj5 =>
     have H := HA.out
     clear HA
     simp only [utf_Checker_first.j0] at H
     by_cases c8 : x14_5 = true
     ·subst c8
      rw [if_pos rfl] at H
      simp only [Option.some.injEq, Prod.mk.injEq] at H
      obtain ⟨rfl, rfl, rfl, rfl, rfl⟩ := H
      obtain ⟨HGz9, hgz9⟩ := HI0.out
      have hcz9_0 := cellS155_0 HGz9
      have hcz9_1 := cellS155_1 HGz9
      have hcz9_2 := cellS155_2 HGz9
      have hcz9_3 := cellS155_3 HGz9
      have hfz9_0 := blk_frozen HGz9 0
      have hfz9_1 := blk_frozen HGz9 1
      have hfz9_2 := blk_frozen HGz9 2
      have hfz9_3 := blk_frozen HGz9 3
      clear HGz9 hgz9
      go_wp2
      go_ret
      exact ⟨by exact q12_, by first | ((exact q9_ HI0.out); done) | (rw [‹((_ : Int) == _) = _›]; ((exact q9_ HI0.out); done)) | (exact q9_ HI0.out), by exact q3_ HB.out (IsS155.ge HI0.out), by exact q5_ HK.out⟩
     ·replace c8 := Bool.eq_false_iff.mpr c8
      subst c8
      rw [if_neg (show ¬ (false = true) by decide)] at H
      by_cases c10 : a1 = 224
      ·rw [if_pos c10] at H
       have c10b0 : (a1 == 224) = true := beq_iff_eq.mpr c10
       have c10b1 : (a1 != 224) = false := bne_eq_false_iff_eq.mpr c10
       clear c10
       have H' := a_ H
       clear H
       obtain ⟨HGz11, hgz11⟩ := HI0.out
       have hcz11_0 := cellS155_0 HGz11
       have hcz11_1 := cellS155_1 HGz11
       have hcz11_2 := cellS155_2 HGz11
       have hcz11_3 := cellS155_3 HGz11
       have hfz11_0 := blk_frozen HGz11 0
       have hfz11_1 := blk_frozen HGz11 1
       have hfz11_2 := blk_frozen HGz11 2
       have hfz11_3 := blk_frozen HGz11 3
       clear HGz11 hgz11
       go_wp2
       go_meet
       case rel => exact ⟨_, (s0_0), (160), H', ⟨by have := HJ5.out; first | omega | exact Nat.le_refl _⟩, ⟨by exact q9_ HI0.out⟩, ⟨by exact q5_ HK.out⟩, ⟨by exact q3_ HB.out (IsS155.ge HI0.out)⟩⟩
      ·rw [if_neg c10] at H
       have c10b0 : (a1 == 224) = false := nb_ c10
       have c10b1 : (a1 != 224) = true := bne_iff_ne.mpr c10
       have HC12 := a_ H
       clear H
       go_upto_region 5 with (fail)
       go_cut [24] (fun v24 wc => ∃ (kq : Nat) (x24_11 : Bool), v24 = .bool x24_11 ∧ Aside0 (utf_Checker_first.j1 kq a1 x24_11 s0_0 128 191 s0_3 = some (r1, r2, r3, r4, r5)) ∧ Aside0 (kq ≤ kj5) ∧ Aside0 (IsS155 w0 wc g s0_0 128 191 s0_3) ∧ Aside0 (KeepBut w wc g none) ∧ Aside0 (Below w0.heap.size w0 wc))
       case first =>
        have H := HC12.out
        clear HC12
        by_cases c13 : a1 > 224
        ·rw [if_pos c13] at H
         have c13b0 : decide (224 < a1) = true := decide_eq_true c13
         clear c13
         (first | rw [c13b0] | (simp only [i64_w, i32_w]; rw [c13b0]) | skip)
         have H' := a_ H
         clear H
         go_wp2
         go_meet
         case rel => exact ⟨_, (decide (a1 ≤ 239)), (by first | rfl | (simp; done) | (simp [*]; done)), H', ⟨by have := HJ5.out; first | omega | exact Nat.le_refl _⟩, ⟨by exact q9_ HI0.out⟩, ⟨by exact q5_ HK.out⟩, ⟨by exact q3_ HB.out (IsS155.ge HI0.out)⟩⟩
        ·rw [if_neg c13] at H
         have c13b0 : decide (224 < a1) = false := decide_eq_false c13
         clear c13
         (first | rw [c13b0] | (simp only [i64_w, i32_w]; rw [c13b0]) | skip)
         have H' := a_ H
         clear H
         go_wp2
         go_meet
         case rel => exact ⟨_, (false), (by first | rfl | (simp; done) | (simp [*]; done)), H', ⟨by have := HJ5.out; first | omega | exact Nat.le_refl _⟩, ⟨by exact q9_ HI0.out⟩, ⟨by exact q5_ HK.out⟩, ⟨by exact q3_ HB.out (IsS155.ge HI0.out)⟩⟩
       case rest =>
        clear HC12
        try clear c5
        try clear c5b0
        try clear c7
        try clear c7b0
        try clear c8
        try clear c10
        try clear c10b0
        try clear c10b1
        try clear c13
        try clear c13b0
        try clear hcz11_0
        try clear hcz11_1
        try clear hcz11_2
        try clear hcz11_3
        try clear hcz4_0
        try clear hcz4_1
        try clear hcz4_2
        try clear hcz4_3
        try clear hcz9_0
        try clear hcz9_1
        try clear hcz9_2
        try clear hcz9_3
        try clear hfz11_0
        try clear hfz11_1
        try clear hfz11_2
        try clear hfz11_3
        try clear hfz4_0
        try clear hfz4_1
        try clear hfz4_2
        try clear hfz4_3
        try clear hfz9_0
        try clear hfz9_1
        try clear hfz9_2
        try clear hfz9_3
        obtain ⟨kq, x24_11, rfl, HA, HJ11, HI0, HK, HB⟩ := hcut
        cases kq with
        | zero => exact absurd HA.out (by simp [utf_Checker_first.j1])
        | succ kj11 =>
         have H := HA.out
         clear HA
         simp only [utf_Checker_first.j1] at H
         by_cases c14 : x24_11 = true
         ·subst c14
          rw [if_pos rfl] at H
          have H' := a_ H
          clear H
          go_wp2
          go_meet
          case rel => exact ⟨_, (s0_0), (128), H', ⟨by have := HJ5.out; have := HJ11.out; first | omega | exact Nat.le_refl _⟩, ⟨by exact q9_ HI0.out⟩, ⟨by exact q5_ HK.out⟩, ⟨by exact q3_ HB.out (IsS155.ge HI0.out)⟩⟩
         ·replace c14 := Bool.eq_false_iff.mpr c14
          subst c14
          rw [if_neg (show ¬ (false = true) by decide)] at H
          by_cases c15 : a1 = 240
          ·rw [if_pos c15] at H
           have c15b0 : (a1 == 240) = true := beq_iff_eq.mpr c15
           have c15b1 : (a1 != 240) = false := bne_eq_false_iff_eq.mpr c15
           clear c15
           by_cases c16 : a1 = 244
           ·rw [if_pos c16] at H
            have c16b0 : (a1 == 244) = true := beq_iff_eq.mpr c16
            have c16b1 : (a1 != 244) = false := bne_eq_false_iff_eq.mpr c16
            clear c16
            simp only [Option.some.injEq, Prod.mk.injEq] at H
            obtain ⟨rfl, rfl, rfl, rfl, rfl⟩ := H
            obtain ⟨HGz17, hgz17⟩ := HI0.out
            have hcz17_0 := cellS155_0 HGz17
            have hcz17_1 := cellS155_1 HGz17
            have hcz17_2 := cellS155_2 HGz17
            have hcz17_3 := cellS155_3 HGz17
            have hfz17_0 := blk_frozen HGz17 0
            have hfz17_1 := blk_frozen HGz17 1
            have hfz17_2 := blk_frozen HGz17 2
            have hfz17_3 := blk_frozen HGz17 3
            clear HGz17 hgz17
            go_wp2
            go_ret
            exact ⟨by exact q12_, by first | ((exact q9_ HI0.out); done) | (rw [‹((_ : Int) == _) = _›]; ((exact q9_ HI0.out); done)) | (exact q9_ HI0.out), by exact q3_ HB.out (IsS155.ge HI0.out), by exact q5_ HK.out⟩
           ·rw [if_neg c16] at H
            have c16b0 : (a1 == 244) = false := nb_ c16
            have c16b1 : (a1 != 244) = true := bne_iff_ne.mpr c16
            simp only [Option.some.injEq, Prod.mk.injEq] at H
            obtain ⟨rfl, rfl, rfl, rfl, rfl⟩ := H
            obtain ⟨HGz18, hgz18⟩ := HI0.out
            have hcz18_0 := cellS155_0 HGz18
            have hcz18_1 := cellS155_1 HGz18
            have hcz18_2 := cellS155_2 HGz18
            have hcz18_3 := cellS155_3 HGz18
            have hfz18_0 := blk_frozen HGz18 0
            have hfz18_1 := blk_frozen HGz18 1
            have hfz18_2 := blk_frozen HGz18 2
            have hfz18_3 := blk_frozen HGz18 3
            clear HGz18 hgz18
            go_wp2
            go_ret
            exact ⟨by exact q12_, by first | ((exact q9_ HI0.out); done) | (rw [‹((_ : Int) == _) = _›]; ((exact q9_ HI0.out); done)) | (exact q9_ HI0.out), by exact q3_ HB.out (IsS155.ge HI0.out), by exact q5_ HK.out⟩
          ·rw [if_neg c15] at H
           have c15b0 : (a1 == 240) = false := nb_ c15
           have c15b1 : (a1 != 240) = true := bne_iff_ne.mpr c15
           by_cases c19 : a1 > 240
           ·rw [if_pos c19] at H
            have c19b0 : decide (240 < a1) = true := decide_eq_true c19
            clear c19
            by_cases c20 : a1 ≤ 244
            ·rw [if_pos c20] at H
             have c20b0 : decide (a1 ≤ 244) = true := decide_eq_true c20
             clear c20
             by_cases c21 : a1 = 244
             ·rw [if_pos c21] at H
              have c21b0 : (a1 == 244) = true := beq_iff_eq.mpr c21
              have c21b1 : (a1 != 244) = false := bne_eq_false_iff_eq.mpr c21
              clear c21
              simp only [Option.some.injEq, Prod.mk.injEq] at H
              obtain ⟨rfl, rfl, rfl, rfl, rfl⟩ := H
              obtain ⟨HGz22, hgz22⟩ := HI0.out
              have hcz22_0 := cellS155_0 HGz22
              have hcz22_1 := cellS155_1 HGz22
              have hcz22_2 := cellS155_2 HGz22
              have hcz22_3 := cellS155_3 HGz22
              have hfz22_0 := blk_frozen HGz22 0
              have hfz22_1 := blk_frozen HGz22 1
              have hfz22_2 := blk_frozen HGz22 2
              have hfz22_3 := blk_frozen HGz22 3
              clear HGz22 hgz22
              go_wp2
              go_ret
              exact ⟨by exact q12_, by first | ((exact q9_ HI0.out); done) | (rw [‹((_ : Int) == _) = _›]; ((exact q9_ HI0.out); done)) | (exact q9_ HI0.out), by exact q3_ HB.out (IsS155.ge HI0.out), by exact q5_ HK.out⟩
             ·rw [if_neg c21] at H
              have c21b0 : (a1 == 244) = false := nb_ c21
              have c21b1 : (a1 != 244) = true := bne_iff_ne.mpr c21
              simp only [Option.some.injEq, Prod.mk.injEq] at H
              obtain ⟨rfl, rfl, rfl, rfl, rfl⟩ := H
              obtain ⟨HGz23, hgz23⟩ := HI0.out
              have hcz23_0 := cellS155_0 HGz23
              have hcz23_1 := cellS155_1 HGz23
              have hcz23_2 := cellS155_2 HGz23
              have hcz23_3 := cellS155_3 HGz23
              have hfz23_0 := blk_frozen HGz23 0
              have hfz23_1 := blk_frozen HGz23 1
              have hfz23_2 := blk_frozen HGz23 2
              have hfz23_3 := blk_frozen HGz23 3
              clear HGz23 hgz23
              go_wp2
              go_ret
              exact ⟨by exact q12_, by first | ((exact q9_ HI0.out); done) | (rw [‹((_ : Int) == _) = _›]; ((exact q9_ HI0.out); done)) | (exact q9_ HI0.out), by exact q3_ HB.out (IsS155.ge HI0.out), by exact q5_ HK.out⟩
            ·rw [if_neg c20] at H
             have c20b0 : decide (a1 ≤ 244) = false := decide_eq_false c20
             clear c20
             simp only [Option.some.injEq, Prod.mk.injEq] at H
             obtain ⟨rfl, rfl, rfl, rfl, rfl⟩ := H
             go_wp2
             go_ret
             exact ⟨by exact q12_, by first | ((exact q9_ HI0.out); done) | (rw [‹((_ : Int) == _) = _›]; ((exact q9_ HI0.out); done)) | (exact q9_ HI0.out), by exact q3_ HB.out (IsS155.ge HI0.out), by exact q5_ HK.out⟩
           ·rw [if_neg c19] at H
            have c19b0 : decide (240 < a1) = false := decide_eq_false c19
            clear c19
            simp only [Option.some.injEq, Prod.mk.injEq] at H
            obtain ⟨rfl, rfl, rfl, rfl, rfl⟩ := H
            go_wp2
            go_ret
            exact ⟨by exact q12_, by first | ((exact q9_ HI0.out); done) | (rw [‹((_ : Int) == _) = _›]; ((exact q9_ HI0.out); done)) | (exact q9_ HI0.out), by exact q3_ HB.out (IsS155.ge HI0.out), by exact q5_ HK.out⟩
 case rest =>
  clear HC3
  try clear c5
  try clear c5b0
  try clear c7
  try clear c7b0
  try clear c8
  try clear c10
  try clear c10b0
  try clear c10b1
  try clear c13
  try clear c13b0
  try clear c14
  try clear c15
  try clear c15b0
  try clear c15b1
  try clear c16
  try clear c16b0
  try clear c16b1
  try clear c19
  try clear c19b0
  try clear c20
  try clear c20b0
  try clear c21
  try clear c21b0
  try clear c21b1
  try clear hcz11_0
  try clear hcz11_1
  try clear hcz11_2
  try clear hcz11_3
  try clear hcz17_0
  try clear hcz17_1
  try clear hcz17_2
  try clear hcz17_3
  try clear hcz18_0
  try clear hcz18_1
  try clear hcz18_2
  try clear hcz18_3
  try clear hcz22_0
  try clear hcz22_1
  try clear hcz22_2
  try clear hcz22_3
  try clear hcz23_0
  try clear hcz23_1
  try clear hcz23_2
  try clear hcz23_3
  try clear hcz4_0
  try clear hcz4_1
  try clear hcz4_2
  try clear hcz4_3
  try clear hcz9_0
  try clear hcz9_1
  try clear hcz9_2
  try clear hcz9_3
  try clear hfz11_0
  try clear hfz11_1
  try clear hfz11_2
  try clear hfz11_3
  try clear hfz17_0
  try clear hfz17_1
  try clear hfz17_2
  try clear hfz17_3
  try clear hfz18_0
  try clear hfz18_1
  try clear hfz18_2
  try clear hfz18_3
  try clear hfz22_0
  try clear hfz22_1
  try clear hfz22_2
  try clear hfz22_3
  try clear hfz23_0
  try clear hfz23_1
  try clear hfz23_2
  try clear hfz23_3
  try clear hfz4_0
  try clear hfz4_1
  try clear hfz4_2
  try clear hfz4_3
  try clear hfz9_0
  try clear hfz9_1
  try clear hfz9_2
  try clear hfz9_3
  obtain ⟨kq, x1000_2, x1001_2, HA, HJ2, HI0, HK, HB⟩ := hcut
  cases kq with
  | zero => exact absurd HA.out (by simp [utf_Checker_first.j2])
  | succ kj2 =>
   have H := HA.out
   clear HA
   simp only [utf_Checker_first.j2] at H
   by_cases c24 : a1 = 237
   ·rw [if_pos c24] at H
    have c24b0 : (a1 == 237) = true := beq_iff_eq.mpr c24
    have c24b1 : (a1 != 237) = false := bne_eq_false_iff_eq.mpr c24
    clear c24
    simp only [Option.some.injEq, Prod.mk.injEq] at H
    obtain ⟨rfl, rfl, rfl, rfl, rfl⟩ := H
    obtain ⟨HGz25, hgz25⟩ := HI0.out
    have hcz25_0 := cellS155_0 HGz25
    have hcz25_1 := cellS155_1 HGz25
    have hcz25_2 := cellS155_2 HGz25
    have hcz25_3 := cellS155_3 HGz25
    have hfz25_0 := blk_frozen HGz25 0
    have hfz25_1 := blk_frozen HGz25 1
    have hfz25_2 := blk_frozen HGz25 2
    have hfz25_3 := blk_frozen HGz25 3
    clear HGz25 hgz25
    go_wp2
    go_ret
    exact ⟨by exact q12_, by first | ((exact q9_ HI0.out); done) | (rw [‹((_ : Int) == _) = _›]; ((exact q9_ HI0.out); done)) | (exact q9_ HI0.out), by exact q3_ HB.out (IsS155.ge HI0.out), by exact q5_ HK.out⟩
   ·rw [if_neg c24] at H
    have c24b0 : (a1 == 237) = false := nb_ c24
    have c24b1 : (a1 != 237) = true := bne_iff_ne.mpr c24
    simp only [Option.some.injEq, Prod.mk.injEq] at H
    obtain ⟨rfl, rfl, rfl, rfl, rfl⟩ := H
    obtain ⟨HGz26, hgz26⟩ := HI0.out
    have hcz26_0 := cellS155_0 HGz26
    have hcz26_1 := cellS155_1 HGz26
    have hcz26_2 := cellS155_2 HGz26
    have hcz26_3 := cellS155_3 HGz26
    have hfz26_0 := blk_frozen HGz26 0
    have hfz26_1 := blk_frozen HGz26 1
    have hfz26_2 := blk_frozen HGz26 2
    have hfz26_3 := blk_frozen HGz26 3
    clear HGz26 hgz26
    go_wp2
    go_ret
    exact ⟨by exact q12_, by first | ((exact q9_ HI0.out); done) | (rw [‹((_ : Int) == _) = _›]; ((exact q9_ HI0.out); done)) | (exact q9_ HI0.out), by exact q3_ HB.out (IsS155.ge HI0.out), by exact q5_ HK.out⟩
def utf_Checker_one.f (k : Nat) (s0_0 : Int) (s0_1 : Int) (s0_2 : Int) (s0_3 : Bool) (a1 : Int) : Option (Bool × Int × Int × Int × Bool) := if s0_0 = 0 then ((utf_Checker_first.f k s0_0 s0_1 s0_2 s0_3 a1).bind fun bt136 => (some (bt136.1, bt136.2.1, bt136.2.2.1, bt136.2.2.2.1, bt136.2.2.2.2))) else (if a1 < s0_1 then (some (false, s0_0, s0_1, s0_2, s0_3)) else (if a1 > s0_2 then (some (false, s0_0, s0_1, s0_2, s0_3)) else (some (true, wrap64 (s0_0 - 1), 128, 191, s0_3))))
theorem utf_Checker_one.calls (k : Nat) (g : Nat) (s0_0 : Int) (s0_1 : Int) (s0_2 : Int) (s0_3 : Bool) (a1 : Int) (r1 : Bool) (r2 : Int) (r3 : Int) (r4 : Int) (r5 : Bool) (w0 w : World) (hI : IsS155 w0 w g s0_0 s0_1 s0_2 s0_3) (hB : Below w0.heap.size w0 w) (h : utf_Checker_one.f k s0_0 s0_1 s0_2 s0_3 a1 = some (r1, r2, r3, r4, r5)) :
  Calls Tryz.prog 97 #[.pointer (some ⟨g, 0, none⟩), .int .u8 a1] w fun e w' => e = .returned (.bool r1) ∧ IsS155 w0 w' g r2 r3 r4 r5 ∧ Below w0.heap.size w0 w' ∧ KeepBut w w' g none := by
 have hf43_0 := field43_0
 have hf87_1 := field87_1
 have HI0 := a_ hI
 have HK := a_ (KeepBut.refl w g none)
 have HL := a_ hB.size
 clear hI
 have HW0 := a_ hB.size
 have HB := a_ hB
 clear hB
 have H : (if s0_0 = 0 then ((utf_Checker_first.f k s0_0 s0_1 s0_2 s0_3 a1).bind fun bt136 => (some (bt136.1, bt136.2.1, bt136.2.2.1, bt136.2.2.2.1, bt136.2.2.2.2))) else (if a1 < s0_1 then (some (false, s0_0, s0_1, s0_2, s0_3)) else (if a1 > s0_2 then (some (false, s0_0, s0_1, s0_2, s0_3)) else (some (true, wrap64 (s0_0 - 1), 128, 191, s0_3))))) = some (r1, r2, r3, r4, r5) := h
 clear h
 by_cases c3 : s0_0 = 0
 ·rw [if_pos c3] at H
  have c3b0 : (s0_0 == 0) = true := beq_iff_eq.mpr c3
  have c3b1 : (s0_0 != 0) = false := bne_eq_false_iff_eq.mpr c3
  clear c3
  replace H := Option.bind_eq_some_iff.mp H
  obtain ⟨⟨t136, t137, t138, t139, t140⟩, A40, H⟩ := H
  try dsimp only at H
  have A4 := a_ A40
  clear A40
  simp only [Option.some.injEq, Prod.mk.injEq] at H
  obtain ⟨rfl, rfl, rfl, rfl, rfl⟩ := H
  obtain ⟨HGz5, hgz5⟩ := HI0.out
  have hcz5_0 := cellS155_0 HGz5
  have hcz5_1 := cellS155_1 HGz5
  have hcz5_2 := cellS155_2 HGz5
  have hcz5_3 := cellS155_3 HGz5
  have hfz5_0 := blk_frozen HGz5 0
  have hfz5_1 := blk_frozen HGz5 1
  have hfz5_2 := blk_frozen HGz5 2
  have hfz5_3 := blk_frozen HGz5 3
  clear HGz5 hgz5
  go_enter Tryz.func97, Tryz.ntmps97
  go_wp2_with (first | ((with_reducible refine gate_callee (f := 117) rfl ?_); refine goesL_ (some 12) rfl rfl Tryz.func117 (by kernel_rfl) rfl #[.pointer (some ⟨g, 0, none⟩), .int .u8 a1] rfl (by exact q1_) ?_; (with_reducible refine (utf_Checker_first.calls k g s0_0 s0_1 s0_2 s0_3 a1 t136 t137 t138 t139 t140 w0 _ ?side1 ?side2 A4.out).mono ?_); (case side1 => exact q9_ HI0.out); (case side2 => exact q3_ HB.out (IsS155.ge HI0.out)); rintro e w6 ⟨rfl, hi, hb, hk⟩; refine ⟨_, rfl, ?_⟩; obtain ⟨HK, HB, HI0⟩ := And.intro (a_ (KeepBut.trans (by exact q5_ HK.out) hk (.inl rfl))) (And.intro (a_ (hb)) (a_ (hi))); (try clear hb); (try clear hb2); (try clear hk); (try clear hi)))
  go_ret
  exact ⟨by exact q12_, by first | ((exact q9_ HI0.out); done) | (rw [‹((_ : Int) == _) = _›]; ((exact q9_ HI0.out); done)) | (exact q9_ HI0.out), by exact q3_ HB.out (IsS155.ge HI0.out), by exact q5_ HK.out⟩
 ·rw [if_neg c3] at H
  have c3b0 : (s0_0 == 0) = false := nb_ c3
  have c3b1 : (s0_0 != 0) = true := bne_iff_ne.mpr c3
  by_cases c7 : a1 < s0_1
  ·rw [if_pos c7] at H
   have c7b0 : decide (a1 < s0_1) = true := decide_eq_true c7
   clear c7
   simp only [Option.some.injEq, Prod.mk.injEq] at H
   obtain ⟨rfl, rfl, rfl, rfl, rfl⟩ := H
   obtain ⟨HGz8, hgz8⟩ := HI0.out
   have hcz8_0 := cellS155_0 HGz8
   have hcz8_1 := cellS155_1 HGz8
   have hcz8_2 := cellS155_2 HGz8
   have hcz8_3 := cellS155_3 HGz8
   have hfz8_0 := blk_frozen HGz8 0
   have hfz8_1 := blk_frozen HGz8 1
   have hfz8_2 := blk_frozen HGz8 2
   have hfz8_3 := blk_frozen HGz8 3
   clear HGz8 hgz8
   go_enter Tryz.func97, Tryz.ntmps97
   go_wp2
   go_ret
   exact ⟨by exact q12_, by first | ((exact q9_ HI0.out); done) | (rw [‹((_ : Int) == _) = _›]; ((exact q9_ HI0.out); done)) | (exact q9_ HI0.out), by exact q3_ HB.out (IsS155.ge HI0.out), by exact q5_ HK.out⟩
  ·rw [if_neg c7] at H
   have c7b0 : decide (a1 < s0_1) = false := decide_eq_false c7
   clear c7
   by_cases c9 : a1 > s0_2
   ·rw [if_pos c9] at H
    have c9b0 : decide (s0_2 < a1) = true := decide_eq_true c9
    clear c9
    simp only [Option.some.injEq, Prod.mk.injEq] at H
    obtain ⟨rfl, rfl, rfl, rfl, rfl⟩ := H
    obtain ⟨HGz10, hgz10⟩ := HI0.out
    have hcz10_0 := cellS155_0 HGz10
    have hcz10_1 := cellS155_1 HGz10
    have hcz10_2 := cellS155_2 HGz10
    have hcz10_3 := cellS155_3 HGz10
    have hfz10_0 := blk_frozen HGz10 0
    have hfz10_1 := blk_frozen HGz10 1
    have hfz10_2 := blk_frozen HGz10 2
    have hfz10_3 := blk_frozen HGz10 3
    clear HGz10 hgz10
    go_enter Tryz.func97, Tryz.ntmps97
    go_wp2
    go_ret
    exact ⟨by exact q12_, by first | ((exact q9_ HI0.out); done) | (rw [‹((_ : Int) == _) = _›]; ((exact q9_ HI0.out); done)) | (exact q9_ HI0.out), by exact q3_ HB.out (IsS155.ge HI0.out), by exact q5_ HK.out⟩
   ·rw [if_neg c9] at H
    have c9b0 : decide (s0_2 < a1) = false := decide_eq_false c9
    clear c9
    simp only [Option.some.injEq, Prod.mk.injEq] at H
    obtain ⟨rfl, rfl, rfl, rfl, rfl⟩ := H
    obtain ⟨HGz11, hgz11⟩ := HI0.out
    have hcz11_0 := cellS155_0 HGz11
    have hcz11_1 := cellS155_1 HGz11
    have hcz11_2 := cellS155_2 HGz11
    have hcz11_3 := cellS155_3 HGz11
    have hfz11_0 := blk_frozen HGz11 0
    have hfz11_1 := blk_frozen HGz11 1
    have hfz11_2 := blk_frozen HGz11 2
    have hfz11_3 := blk_frozen HGz11 3
    clear HGz11 hgz11
    go_enter Tryz.func97, Tryz.ntmps97
    go_wp2
    go_ret
    exact ⟨by exact q12_, by first | ((exact q9_ HI0.out); done) | (rw [‹((_ : Int) == _) = _›]; ((exact q9_ HI0.out); done)) | (exact q9_ HI0.out), by exact q3_ HB.out (IsS155.ge HI0.out), by exact q5_ HK.out⟩
def utf_Checker_Feed.l0 : Nat → List Int → List Int → Int → Int → Int → Int → Int → Bool → Option (Int × Int × Int × Int × Bool)
 | 0, _, _, _, _, _, _, _, _ => none
 | k + 1, x1, x9, x10, x11, x1000, x1001, x1002, x1003 => if x11 < x10 then (if 0 ≤ x11 then (if x11 < (x9.length : Int) then ((utf_Checker_one.f k x1000 x1001 x1002 x1003 (rd x9 x11)).bind fun bt147 => (if bt147.1 = true then (utf_Checker_Feed.l0 k x1 x9 x10 (wrap64 (x11 + 1)) bt147.2.1 bt147.2.2.1 bt147.2.2.2.1 bt147.2.2.2.2) else (some (x11, bt147.2.1, bt147.2.2.1, bt147.2.2.2.1, true)))) else (none)) else (none)) else (some ((x1.length : Int), x1000, x1001, x1002, x1003))
def utf_Checker_Feed.f (k : Nat) (s0_0 : Int) (s0_1 : Int) (s0_2 : Int) (s0_3 : Bool) (l1 : List Int) : Option (Int × Int × Int × Int × Bool) := (utf_Checker_Bad.f s0_0 s0_1 s0_2 s0_3).bind fun bt141 => (if bt141.1 = true then (some (0, bt141.2.1, bt141.2.2.1, bt141.2.2.2.1, bt141.2.2.2.2)) else (utf_Checker_Feed.l0 k l1 l1 (l1.length : Int) 0 bt141.2.1 bt141.2.2.1 bt141.2.2.2.1 bt141.2.2.2.2))
theorem utf_Checker_Feed.calls (k : Nat) (g : Nat) (s0_0 : Int) (s0_1 : Int) (s0_2 : Int) (s0_3 : Bool) (A1 : Option Addr) (c1 : Nat) (l1 : List Int) (r1 : Int) (r2 : Int) (r3 : Int) (r4 : Int) (r5 : Bool) (w0 w : World) (hI : IsS155 w0 w g s0_0 s0_1 s0_2 s0_3) (hB : Below w0.heap.size w0 w) (hr1 : Kd.C (Kd.int .u8) w A1 l1.length l1) (hc1 : l1.length ≤ c1) (hf1 : ∀ ad, A1 = some ad → 0 < l1.length → ad.block ≠ g) (h : utf_Checker_Feed.f k s0_0 s0_1 s0_2 s0_3 l1 = some (r1, r2, r3, r4, r5)) :
  Calls Tryz.prog 65 #[.pointer (some ⟨g, 0, none⟩), .slice A1 l1.length c1] w fun e w' => e = .returned (.int .i64 r1) ∧ IsS155 w0 w' g r2 r3 r4 r5 ∧ Below w0.heap.size w0 w' ∧ KeepBut w w' g none := by
 have hf43_0 := field43_0
 have hf87_1 := field87_1
 have HR1 := a_ hr1
 have HC1 := a_ hc1
 clear hr1 hc1
 have HI0 := a_ hI
 have HK := a_ (KeepBut.refl w g none)
 have HL := a_ hB.size
 clear hI
 have HW0 := a_ hB.size
 have HB := a_ hB
 clear hB
 have H : ((utf_Checker_Bad.f s0_0 s0_1 s0_2 s0_3).bind fun bt141 => (if bt141.1 = true then (some (0, bt141.2.1, bt141.2.2.1, bt141.2.2.2.1, bt141.2.2.2.2)) else (utf_Checker_Feed.l0 k l1 l1 (l1.length : Int) 0 bt141.2.1 bt141.2.2.1 bt141.2.2.2.1 bt141.2.2.2.2))) = some (r1, r2, r3, r4, r5) := h
 clear h
 replace H := Option.bind_eq_some_iff.mp H
 obtain ⟨⟨t141, t142, t143, t144, t145⟩, A30, H⟩ := H
 try dsimp only at H
 have A3 := a_ A30
 clear A30
 by_cases c4 : t141 = true
 ·subst c4
  rw [if_pos rfl] at H
  simp only [Option.some.injEq, Prod.mk.injEq] at H
  obtain ⟨rfl, rfl, rfl, rfl, rfl⟩ := H
  go_enter Tryz.func65, Tryz.ntmps65
  go_wp2_with (first | ((with_reducible refine gate_callee (f := 96) rfl ?_); refine goesL_ (some 8) rfl rfl Tryz.func96 (by kernel_rfl) rfl #[.pointer (some ⟨g, 0, none⟩)] rfl (by exact q1_) ?_; (with_reducible refine (utf_Checker_Bad.calls g s0_0 s0_1 s0_2 s0_3 true t142 t143 t144 t145 w0 _ ?side1 ?side2 A3.out).mono ?_); (case side1 => exact q9_ HI0.out); (case side2 => exact q3_ HB.out (IsS155.ge HI0.out)); rintro e w5 ⟨rfl, hi, hb, hk⟩; refine ⟨_, rfl, ?_⟩; obtain ⟨HK, HB, HI0⟩ := And.intro (a_ (KeepBut.trans (by exact q5_ HK.out) hk (.inl rfl))) (And.intro (a_ (hb)) (a_ (hi))); (try clear hb); (try clear hb2); (try clear hk); (try clear hi)))
  go_ret
  exact ⟨by exact q12_, by first | ((exact q9_ HI0.out); done) | (rw [‹((_ : Int) == _) = _›]; ((exact q9_ HI0.out); done)) | (exact q9_ HI0.out), by exact q3_ HB.out (IsS155.ge HI0.out), by exact q5_ HK.out⟩
 ·replace c4 := Bool.eq_false_iff.mpr c4
  subst c4
  rw [if_neg (show ¬ (false = true) by decide)] at H
  have H' := a_ H
  clear H
  go_enter Tryz.func65, Tryz.ntmps65
  go_wp2_with (first | ((with_reducible refine gate_callee (f := 96) rfl ?_); refine goesL_ (some 8) rfl rfl Tryz.func96 (by kernel_rfl) rfl #[.pointer (some ⟨g, 0, none⟩)] rfl (by exact q1_) ?_; (with_reducible refine (utf_Checker_Bad.calls g s0_0 s0_1 s0_2 s0_3 false t142 t143 t144 t145 w0 _ ?side1 ?side2 A3.out).mono ?_); (case side1 => exact q9_ HI0.out); (case side2 => exact q3_ HB.out (IsS155.ge HI0.out)); rintro e w6 ⟨rfl, hi, hb, hk⟩; refine ⟨_, rfl, ?_⟩; obtain ⟨HK, HB, HI0⟩ := And.intro (a_ (KeepBut.trans (by exact q5_ HK.out) hk (.inl rfl))) (And.intro (a_ (hb)) (a_ (hi))); (try clear hb); (try clear hb2); (try clear hk); (try clear hi)))
  go_loopg [11] k (fun kq v11 w' => ∃ (x11_1 : Int) (x1000_1 : Int) (x1001_1 : Int) (x1002_1 : Int) (x1003_1 : Bool), v11 = .int .i64 x11_1 ∧ Aside0 (utf_Checker_Feed.l0 kq l1 l1 (l1.length : Int) x11_1 x1000_1 x1001_1 x1002_1 x1003_1 = some (r1, r2, r3, r4, r5)) ∧ Aside0 (kq ≤ k) ∧ Aside0 (IsS155 w0 w' g x1000_1 x1001_1 x1002_1 x1003_1) ∧ Aside0 (KeepBut w w' g none) ∧ Aside0 (Below w0.heap.size w0 w'))
  case atStart => exact ⟨(0), (t142), (t143), (t144), (t145), (by first | rfl | (simp; done) | (simp [*]; done)), H', ⟨Nat.le_refl _⟩, ⟨by exact q9_ HI0.out⟩, ⟨by exact q5_ HK.out⟩, ⟨by exact q3_ HB.out (IsS155.ge HI0.out)⟩⟩
  case round =>
   clear H'
   try clear c1
   try clear c4
   obtain ⟨x11_1, x1000_1, x1001_1, x1002_1, x1003_1, rfl, HA, HK1, HI0, HK, HB⟩ := hrel
   cases gk with
   | zero => exact absurd HA.out (by simp [utf_Checker_Feed.l0])
   | succ k1 =>
    have H := HA.out
    clear HA
    simp only [utf_Checker_Feed.l0] at H
    by_cases c7 : x11_1 < (l1.length : Int)
    ·rw [if_pos c7] at H
     have c7b0 : decide (x11_1 < (l1.length : Int)) = true := decide_eq_true c7
     clear c7
     by_cases c8 : 0 ≤ x11_1
     ·rw [if_pos c8] at H
      have c8b0 : decide (0 ≤ x11_1) = true := decide_eq_true c8
      clear c8
      by_cases c9 : x11_1 < (l1.length : Int)
      ·rw [if_pos c9] at H
       have c9b0 : decide (x11_1 < (l1.length : Int)) = true := decide_eq_true c9
       clear c9
       replace H := Option.bind_eq_some_iff.mp H
       obtain ⟨⟨t147, t148, t149, t150, t151⟩, A100, H⟩ := H
       try dsimp only at H
       have A10 := a_ A100
       clear A100
       by_cases c11 : t147 = true
       ·subst c11
        rw [if_pos rfl] at H
        have H' := a_ H
        clear H
        have p146 : 0 ≤ (x11_1 : Int) := of_decide_eq_true (by assumption)
        have q146 : x11_1 < (l1.length : Int) := of_decide_eq_true (by assumption)
        obtain ⟨ad146, e146, hx146_0⟩ := Kd.at_int HR1.out x11_1 p146 q146
        cases e146
        replace hx146_0 := keep_cell HK.out hx146_0 (by first | (rw [add_block]; exact hf1 _ rfl (by omega)) | exact hf1 _ rfl (by omega) | exact hf1 ad146 rfl (by omega))
        replace p146 := eq_true p146
        replace q146 := eq_true q146
        go_wp2_with (first | ((with_reducible refine gate_callee (f := 97) rfl ?_); refine goesL_ (some 18) rfl rfl Tryz.func97 (by kernel_rfl) rfl #[.pointer (some ⟨g, 0, none⟩), .int .u8 (rd l1 x11_1)] rfl (by exact q1_) ?_; (with_reducible refine (utf_Checker_one.calls k1 g x1000_1 x1001_1 x1002_1 x1003_1 (rd l1 x11_1) true t148 t149 t150 t151 w0 _ ?side1 ?side2 A10.out).mono ?_); (case side1 => exact q9_ HI0.out); (case side2 => exact q3_ HB.out (IsS155.ge HI0.out)); rintro e w12 ⟨rfl, hi, hb, hk⟩; refine ⟨_, rfl, ?_⟩; obtain ⟨HK, HB, HI0⟩ := And.intro (a_ (KeepBut.trans (by exact q5_ HK.out) hk (.inl rfl))) (And.intro (a_ (hb)) (a_ (hi))); (try clear hb); (try clear hb2); (try clear hk); (try clear hi)))
        go_roundg k1
        case measure => have := HK1.out; omega
        case rel => exact ⟨(wrap64 (x11_1 + 1)), (t148), (t149), (t150), (t151), (by first | rfl | (simp; done) | (simp [*]; done)), H', ⟨by have := HK1.out; omega⟩, ⟨by exact q9_ HI0.out⟩, ⟨by exact q5_ HK.out⟩, ⟨by exact q3_ HB.out (IsS155.ge HI0.out)⟩⟩
       ·replace c11 := Bool.eq_false_iff.mpr c11
        subst c11
        rw [if_neg (show ¬ (false = true) by decide)] at H
        simp only [Option.some.injEq, Prod.mk.injEq] at H
        obtain ⟨rfl, rfl, rfl, rfl, rfl⟩ := H
        have p146 : 0 ≤ (x11_1 : Int) := of_decide_eq_true (by assumption)
        have q146 : x11_1 < (l1.length : Int) := of_decide_eq_true (by assumption)
        obtain ⟨ad146, e146, hx146_0⟩ := Kd.at_int HR1.out x11_1 p146 q146
        cases e146
        replace hx146_0 := keep_cell HK.out hx146_0 (by first | (rw [add_block]; exact hf1 _ rfl (by omega)) | exact hf1 _ rfl (by omega) | exact hf1 ad146 rfl (by omega))
        replace p146 := eq_true p146
        replace q146 := eq_true q146
        go_wp2_with (first | ((with_reducible refine gate_callee (f := 97) rfl ?_); refine goesL_ (some 18) rfl rfl Tryz.func97 (by kernel_rfl) rfl #[.pointer (some ⟨g, 0, none⟩), .int .u8 (rd l1 x11_1)] rfl (by exact q1_) ?_; (with_reducible refine (utf_Checker_one.calls k1 g x1000_1 x1001_1 x1002_1 x1003_1 (rd l1 x11_1) false t148 t149 t150 t151 w0 _ ?side1 ?side2 A10.out).mono ?_); (case side1 => exact q9_ HI0.out); (case side2 => exact q3_ HB.out (IsS155.ge HI0.out)); rintro e w13 ⟨rfl, hi, hb, hk⟩; refine ⟨_, rfl, ?_⟩; obtain ⟨HK, HB, HI0⟩ := And.intro (a_ (KeepBut.trans (by exact q5_ HK.out) hk (.inl rfl))) (And.intro (a_ (hb)) (a_ (hi))); (try clear hb); (try clear hb2); (try clear hk); (try clear hi); obtain ⟨HGz14, hgz14⟩ := HI0.out; have hcz14_0 := cellS155_0 HGz14; have hcz14_1 := cellS155_1 HGz14; have hcz14_2 := cellS155_2 HGz14; have hcz14_3 := cellS155_3 HGz14; have hfz14_0 := blk_frozen HGz14 0; have hfz14_1 := blk_frozen HGz14 1; have hfz14_2 := blk_frozen HGz14 2; have hfz14_3 := blk_frozen HGz14 3; clear HGz14 hgz14))
        go_ret
        exact ⟨by exact q12_, by first | ((exact q9_ HI0.out); done) | (rw [‹((_ : Int) == _) = _›]; ((exact q9_ HI0.out); done)) | (exact q9_ HI0.out), by exact q3_ HB.out (IsS155.ge HI0.out), by exact q5_ HK.out⟩
      ·rw [if_neg c9] at H
       exact absurd H (by simp)
     ·rw [if_neg c8] at H
      exact absurd H (by simp)
    ·rw [if_neg c7] at H
     have c7b0 : decide (x11_1 < (l1.length : Int)) = false := decide_eq_false c7
     clear c7
     simp only [Option.some.injEq, Prod.mk.injEq] at H
     obtain ⟨rfl, rfl, rfl, rfl, rfl⟩ := H
     go_wp2
     go_ret
     exact ⟨by exact q12_, by first | ((exact q9_ HI0.out); done) | (rw [‹((_ : Int) == _) = _›]; ((exact q9_ HI0.out); done)) | (exact q9_ HI0.out), by exact q3_ HB.out (IsS155.ge HI0.out), by exact q5_ HK.out⟩
def utf_Checker_Whole.f (s0_0 : Int) (s0_1 : Int) (s0_2 : Int) (s0_3 : Bool) : Option (Bool × Int × Int × Int × Bool) := (utf_Checker_Bad.f s0_0 s0_1 s0_2 s0_3).bind fun bt152 => (if bt152.1 = true then (some (false, bt152.2.1, bt152.2.2.1, bt152.2.2.2.1, bt152.2.2.2.2)) else (some ((bt152.2.1 == 0), bt152.2.1, bt152.2.2.1, bt152.2.2.2.1, bt152.2.2.2.2)))
theorem utf_Checker_Whole.calls (g : Nat) (s0_0 : Int) (s0_1 : Int) (s0_2 : Int) (s0_3 : Bool) (r1 : Bool) (r2 : Int) (r3 : Int) (r4 : Int) (r5 : Bool) (w0 w : World) (hI : IsS155 w0 w g s0_0 s0_1 s0_2 s0_3) (hB : Below w0.heap.size w0 w) (h : utf_Checker_Whole.f s0_0 s0_1 s0_2 s0_3 = some (r1, r2, r3, r4, r5)) :
  Calls Tryz.prog 66 #[.pointer (some ⟨g, 0, none⟩)] w fun e w' => e = .returned (.bool r1) ∧ IsS155 w0 w' g r2 r3 r4 r5 ∧ Below w0.heap.size w0 w' ∧ KeepBut w w' g none := by
 have hf43_0 := field43_0
 have hf87_1 := field87_1
 have HI0 := a_ hI
 have HK := a_ (KeepBut.refl w g none)
 have HL := a_ hB.size
 clear hI
 have HW0 := a_ hB.size
 have HB := a_ hB
 clear hB
 have H : ((utf_Checker_Bad.f s0_0 s0_1 s0_2 s0_3).bind fun bt152 => (if bt152.1 = true then (some (false, bt152.2.1, bt152.2.2.1, bt152.2.2.2.1, bt152.2.2.2.2)) else (some ((bt152.2.1 == 0), bt152.2.1, bt152.2.2.1, bt152.2.2.2.1, bt152.2.2.2.2)))) = some (r1, r2, r3, r4, r5) := h
 clear h
 replace H := Option.bind_eq_some_iff.mp H
 obtain ⟨⟨t152, t153, t154, t155, t156⟩, A20, H⟩ := H
 try dsimp only at H
 have A2 := a_ A20
 clear A20
 by_cases c3 : t152 = true
 ·subst c3
  rw [if_pos rfl] at H
  simp only [Option.some.injEq, Prod.mk.injEq] at H
  obtain ⟨rfl, rfl, rfl, rfl, rfl⟩ := H
  go_enter Tryz.func66, Tryz.ntmps66
  go_wp2_with (first | ((with_reducible refine gate_callee (f := 96) rfl ?_); refine goesL_ (some 4) rfl rfl Tryz.func96 (by kernel_rfl) rfl #[.pointer (some ⟨g, 0, none⟩)] rfl (by exact q1_) ?_; (with_reducible refine (utf_Checker_Bad.calls g s0_0 s0_1 s0_2 s0_3 true t153 t154 t155 t156 w0 _ ?side1 ?side2 A2.out).mono ?_); (case side1 => exact q9_ HI0.out); (case side2 => exact q3_ HB.out (IsS155.ge HI0.out)); rintro e w4 ⟨rfl, hi, hb, hk⟩; refine ⟨_, rfl, ?_⟩; obtain ⟨HK, HB, HI0⟩ := And.intro (a_ (KeepBut.trans (by exact q5_ HK.out) hk (.inl rfl))) (And.intro (a_ (hb)) (a_ (hi))); (try clear hb); (try clear hb2); (try clear hk); (try clear hi)))
  go_ret
  exact ⟨by exact q12_, by first | ((exact q9_ HI0.out); done) | (rw [‹((_ : Int) == _) = _›]; ((exact q9_ HI0.out); done)) | (exact q9_ HI0.out), by exact q3_ HB.out (IsS155.ge HI0.out), by exact q5_ HK.out⟩
 ·replace c3 := Bool.eq_false_iff.mpr c3
  subst c3
  rw [if_neg (show ¬ (false = true) by decide)] at H
  simp only [Option.some.injEq, Prod.mk.injEq] at H
  obtain ⟨rfl, rfl, rfl, rfl, rfl⟩ := H
  go_enter Tryz.func66, Tryz.ntmps66
  go_wp2_with (first | ((with_reducible refine gate_callee (f := 96) rfl ?_); refine goesL_ (some 4) rfl rfl Tryz.func96 (by kernel_rfl) rfl #[.pointer (some ⟨g, 0, none⟩)] rfl (by exact q1_) ?_; (with_reducible refine (utf_Checker_Bad.calls g s0_0 s0_1 s0_2 s0_3 false t153 t154 t155 t156 w0 _ ?side1 ?side2 A2.out).mono ?_); (case side1 => exact q9_ HI0.out); (case side2 => exact q3_ HB.out (IsS155.ge HI0.out)); rintro e w5 ⟨rfl, hi, hb, hk⟩; refine ⟨_, rfl, ?_⟩; obtain ⟨HK, HB, HI0⟩ := And.intro (a_ (KeepBut.trans (by exact q5_ HK.out) hk (.inl rfl))) (And.intro (a_ (hb)) (a_ (hi))); (try clear hb); (try clear hb2); (try clear hk); (try clear hi); obtain ⟨HGz6, hgz6⟩ := HI0.out; have hcz6_0 := cellS155_0 HGz6; have hcz6_1 := cellS155_1 HGz6; have hcz6_2 := cellS155_2 HGz6; have hcz6_3 := cellS155_3 HGz6; have hfz6_0 := blk_frozen HGz6 0; have hfz6_1 := blk_frozen HGz6 1; have hfz6_2 := blk_frozen HGz6 2; have hfz6_3 := blk_frozen HGz6 3; clear HGz6 hgz6))
  go_ret
  exact ⟨by exact q12_, by first | ((exact q9_ HI0.out); done) | (rw [‹((_ : Int) == _) = _›]; ((exact q9_ HI0.out); done)) | (exact q9_ HI0.out), by exact q3_ HB.out (IsS155.ge HI0.out), by exact q5_ HK.out⟩
end Go.Proofs.YtpmeapdcjmaeiaaGreatDoor.PAll

namespace Go.Proofs.YtpmeapdcjmaeiaaGreatDoor.PAll
open Go.RowKit Go.Wa Go.Wb Go.Wc
attribute [local go_sem] max2_int min2_int max_two min_two max_three min_three max_four min_four
def utf_Valid.f (k : Nat) (l0 : List Int) : Option (Bool) := (utf_New.f).bind fun bt157 => ((utf_Checker_Feed.f k bt157.1 bt157.2.1 bt157.2.2.1 bt157.2.2.2 l0).bind fun bt162 => ((utf_Checker_Whole.f bt162.2.1 bt162.2.2.1 bt162.2.2.2.1 bt162.2.2.2.2).bind fun bt167 => (some bt167.1)))
theorem utf_Valid.calls (k : Nat) (A0 : Option Addr) (c0 : Nat) (l0 : List Int) (r : Bool) (w : World) (hr0 : Kd.C (Kd.int .u8) w A0 l0.length l0) (hc0 : l0.length ≤ c0) (h : utf_Valid.f k l0 = some r) :
  Calls Tryz.prog 35 #[.slice A0 l0.length c0] w fun e w' => e = .returned (.bool r) ∧ Below w.heap.size w w' := by
 have hf43_0 := field43_0
 have hf87_1 := field87_1
 have HR0 := a_ hr0
 have HC0 := a_ hc0
 clear hr0 hc0
 have HB := a_ (Below.refl w.heap.size w)
 have H : ((utf_New.f).bind fun bt157 => ((utf_Checker_Feed.f k bt157.1 bt157.2.1 bt157.2.2.1 bt157.2.2.2 l0).bind fun bt162 => ((utf_Checker_Whole.f bt162.2.1 bt162.2.2.1 bt162.2.2.2.1 bt162.2.2.2.2).bind fun bt167 => (some bt167.1)))) = some r := h
 clear h
 replace H := Option.bind_eq_some_iff.mp H
 obtain ⟨⟨t157, t158, t159, t160⟩, A20, H⟩ := H
 try dsimp only at H
 have A2 := a_ A20
 clear A20
 replace H := Option.bind_eq_some_iff.mp H
 obtain ⟨⟨t162, t163, t164, t165, t166⟩, A30, H⟩ := H
 try dsimp only at H
 have A3 := a_ A30
 clear A30
 replace H := Option.bind_eq_some_iff.mp H
 obtain ⟨⟨t167, t168, t169, t170, t171⟩, A40, H⟩ := H
 try dsimp only at H
 have A4 := a_ A40
 clear A40
 obtain rfl := Option.some.inj H
 go_enter Tryz.func35, Tryz.ntmps35
 go_wp2_with (first | ((with_reducible refine gate_callee (f := 64) rfl ?_); refine goesL_ (some 4) rfl rfl Tryz.func64 (by kernel_rfl) rfl #[] rfl (by exact q1_) ?_; (with_reducible refine (utf_New.calls  t157 t158 t159 t160 w _ ?side1 A2.out).mono ?_); (case side1 => exact q2_ HB.out); rintro e w5 ⟨g161, rfl, hi, hb, hb2⟩; refine ⟨_, rfl, ?_⟩; obtain ⟨HB, HI161⟩ := And.intro (a_ (hb)) (a_ (hi)); (try clear hb); (try clear hb2); (try clear hk); (try clear hi)) | ((with_reducible refine gate_callee (f := 65) rfl ?_); refine goesL_ (some 7) rfl rfl Tryz.func65 (by kernel_rfl) rfl #[.pointer (some ⟨g161, 0, none⟩), .slice A0 l0.length c0] rfl (by exact q1_) ?_; (with_reducible refine (utf_Checker_Feed.calls k g161 t157 t158 t159 t160 _ _ l0 t162 t163 t164 t165 t166 w _ ?side1 ?side2 ?side3 ?side4 ?side5 A3.out).mono ?_); (case side1 => exact q9_ HI161.out); (case side2 => exact q3_ HB.out (IsS155.ge HI161.out)); (case side3 => repeat (first | exact (Kd.C_below HR0.out HB.out) | (with_reducible refine Kd.C_alloc ?_ _) | (with_reducible refine Kd.C_drewN ?_ _) | (with_reducible refine Kd.C_drew ?_))); (case side4 => exact HC0.out); (case side5 => exact Kd.far_C 0 HR0.out (IsS155.ge HI161.out)); rintro e w6 ⟨rfl, hi, hb, hk⟩; refine ⟨_, rfl, ?_⟩; obtain ⟨HB, HI161⟩ := And.intro (a_ (hb)) (a_ (hi)); (try clear hb); (try clear hb2); (try clear hk); (try clear hi)) | ((with_reducible refine gate_callee (f := 66) rfl ?_); refine goesL_ (some 9) rfl rfl Tryz.func66 (by kernel_rfl) rfl #[.pointer (some ⟨g161, 0, none⟩)] rfl (by exact q1_) ?_; (with_reducible refine (utf_Checker_Whole.calls g161 t163 t164 t165 t166 t167 t168 t169 t170 t171 w _ ?side1 ?side2 A4.out).mono ?_); (case side1 => exact q9_ HI161.out); (case side2 => exact q3_ HB.out (IsS155.ge HI161.out)); rintro e w7 ⟨rfl, hi, hb, hk⟩; refine ⟨_, rfl, ?_⟩; obtain ⟨HB, HI161⟩ := And.intro (a_ (hb)) (a_ (hi)); (try clear hb); (try clear hb2); (try clear hk); (try clear hi)))
 go_ret
 exact ⟨by exact q12_, by exact q3_ HB.out (IsS155.ge HI161.out)⟩
theorem eqlNil (w : World) (A : Option Addr) (n c : Nat) : (binOp .eql 27 (.slice A n c) (.slice none 0 0)).run Tryz.prog w = .ok (.bool A.isNone) w := by
 have h : ∀ d : Nat, (Op.equalIn (d + 1) 27 (.slice A n c) (.slice none 0 0)).run Tryz.prog w = .ok A.isNone w := fun d => by
  cases A <;> simp [Op.equalIn, run_underlying Tryz.underlying27]
 simp only [binOp]
 simp [Op.equal, Op.maxDepth, h 9999]
def bytes_Clone.f (l0 : List Int) : Option (List Int) := if (l0.length : Int) ≤ 140737488355328 then some l0 else none
theorem bytes_Clone.calls (A0 : Option Addr) (c0 : Nat) (l0 : List Int) (r : List Int) (w : World) (hr0 : Kd.C (Kd.int .u8) w A0 l0.length l0) (hc0 : l0.length ≤ c0) (h : bytes_Clone.f l0 = some r) :
  Calls Tryz.prog 67 #[.slice A0 l0.length c0] w fun e w' => ∃ v0_ : Value, e = .returned (v0_) ∧ Kd.R (Kd.int .u8) 5 w' w.heap.size (fun _ => True) v0_ r ∧ Below w.heap.size w w' := by
 have hf43_0 := field43_0
 have hf87_1 := field87_1
 unfold bytes_Clone.f at h
 have hlen : (l0.length : Int) ≤ 140737488355328 := by
  by_cases hb : (l0.length : Int) ≤ 140737488355328
  ·exact hb
  ·rw [if_neg hb] at h; cases h
 rw [if_pos hlen] at h
 obtain rfl := Option.some.inj h
 have huS := Tryz.underlying27
 have huB := Tryz.underlying5
 have HR := a_ hr0
 have hinfo : (Tryz.prog.info? 5).map (fun i => (i.zero, i.size, i.bytes)) = some (some (.int .u8 0), 1, 1) := by kernel_rfl
 rcases A0 with _ | ad
 ·have h0 : l0 = [] := by
   cases l0 with
   | nil => rfl
   | cons a t => obtain ⟨_, h, _⟩ := HR.out.2.2 (by simp); cases h
  subst h0
  clear hr0 HR
  have hnil : ∀ W, (binOp .eql 27 (.slice none 0 c0) (.slice none 0 0)).run Tryz.prog W = .ok (.bool true) W := fun W => eqlNil W none 0 c0
  go_enter Tryz.func67, Tryz.ntmps67
  go_wp2_with fail
  go_ret
  exact ⟨_, rfl, Kd.R_nil _ _ _ _ _, Below.refl _ _⟩
 ·have HL := a_ hlen
  clear hr0 hlen
  have hnil : ∀ W, (binOp .eql 27 (.slice (some ad) l0.length c0) (.slice none 0 0)).run Tryz.prog W = .ok (.bool false) W := fun W => eqlNil W (some ad) l0.length c0
  go_enter Tryz.func67, Tryz.ntmps67
  have HO : Aside0 ((w.alloc (.cells #[] 5)).ownsRow w.heap.size 5 1 (.slice (some ⟨w.heap.size, 0, none⟩) 0 0) 0 []) := ⟨⟨rfl, .inr ⟨w.heap.size, 0, #[], rfl, Nat.le_refl _, blk_new w _, Nat.le_refl _, by decide, rfl, rfl⟩⟩⟩
  have HS : Aside0 (ReadsInt (w.alloc (.cells #[] 5)) .u8 (some ad) l0.length l0) := ⟨Kd.reads_of_C (Kd.C_alloc HR.out _)⟩
  go_wp2_with (at_builtin; refine print_append_row (w0 := w) w.heap.size rfl (.tmp 5) (.tmp 6) 27 5 .u8 1 rfl Tryz.underlying27 info5 (by decide) (.slice (some ⟨w.heap.size, 0, none⟩) 0 0) [] l0 (some ad) l0.length c0 rfl rfl HO.out HS.out ((Below.refl _ _).alloc (Nat.le_refl _) _) (by simp) (by have := HL.out; simp; omega) ?_; intro v1 w1 ho hb hg hat)
  go_ret
  exact ⟨_, rfl, Kd.R_of_own (show w1.ownsRow w.heap.size 5 1 v1 l0.length (nums .u8 l0) by simpa using ho) (fun _ _ => trivial), hb⟩
def wsframe_known.f (a0 : Int) : Option (Bool) := if a0 ≤ 2 then (some true) else (if a0 ≥ 8 then (some (decide (a0 ≤ 10))) else (some false))
theorem wsframe_known.calls (a0 : Int) (r : Bool) (w : World) (h : wsframe_known.f a0 = some r) :
  Calls Tryz.prog 98 #[.int .u8 a0] w fun e w' => e = .returned (.bool r) ∧ Drawn0 w w' := by
 have hf43_0 := field43_0
 have hf87_1 := field87_1
 have H : (if a0 ≤ 2 then (some true) else (if a0 ≥ 8 then (some (decide (a0 ≤ 10))) else (some false))) = some r := h
 clear h
 by_cases c2 : a0 ≤ 2
 ·rw [if_pos c2] at H
  have c2b0 : decide (a0 ≤ 2) = true := decide_eq_true c2
  clear c2
  obtain rfl := Option.some.inj H
  go_enter Tryz.func98, Tryz.ntmps98
  go_wp2
  go_ret
  exact ⟨by first | rfl | (simp; done) | (simp [*]; done), by repeat (first | exact Drawn0.refl _ | apply Drawn0.step)⟩
 ·rw [if_neg c2] at H
  have c2b0 : decide (a0 ≤ 2) = false := decide_eq_false c2
  clear c2
  by_cases c3 : a0 ≥ 8
  ·rw [if_pos c3] at H
   have c3b0 : decide (8 ≤ a0) = true := decide_eq_true c3
   clear c3
   obtain rfl := Option.some.inj H
   go_enter Tryz.func98, Tryz.ntmps98
   go_wp2
   go_ret
   exact ⟨by first | rfl | (simp; done) | (simp [*]; done), by repeat (first | exact Drawn0.refl _ | apply Drawn0.step)⟩
  ·rw [if_neg c3] at H
   have c3b0 : decide (8 ≤ a0) = false := decide_eq_false c3
   clear c3
   obtain rfl := Option.some.inj H
   go_enter Tryz.func98, Tryz.ntmps98
   go_wp2
   go_ret
   exact ⟨by first | rfl | (simp; done) | (simp [*]; done), by repeat (first | exact Drawn0.refl _ | apply Drawn0.step)⟩
def wsframe_control.f (a0 : Int) : Option (Bool) := some (decide (a0 ≥ 8))
theorem wsframe_control.calls (a0 : Int) (r : Bool) (w : World) (h : wsframe_control.f a0 = some r) :
  Calls Tryz.prog 99 #[.int .u8 a0] w fun e w' => e = .returned (.bool r) ∧ Drawn0 w w' := by
 have hf43_0 := field43_0
 have hf87_1 := field87_1
 have H : (some (decide (a0 ≥ 8))) = some r := h
 clear h
 obtain rfl := Option.some.inj H
 go_enter Tryz.func99, Tryz.ntmps99
 go_wp2
 go_ret
 exact ⟨by first | rfl | (simp; done) | (simp [*]; done), by repeat (first | exact Drawn0.refl _ | apply Drawn0.step)⟩
def wsframe_May.j0 : Nat → Bool → Bool → Int → Bool → Int → List Int → Option (Bool)
 | 0, _, _, _, _, _, _ => none
 | k + 1, x3, x189000, x189001, x189002, x189003, x189004 => if x3 = true then (some false) else ((wsframe_control.f x189001).bind fun t190 => (if t190 = true then (if x189000 = true then (if (x189004.length : Int) > 125 then (some false) else (some true)) else (some false)) else (some true)))
def wsframe_May.f (k : Nat) (a0_0 : Bool) (a0_1 : Int) (a0_2 : Bool) (a0_3 : Int) (l0_4 : List Int) : Option (Bool) := (wsframe_known.f a0_1).bind fun t189 => (if t189 = true then (if a0_2 = true then (wsframe_May.j0 k (decide ((l0_4.length : Int) > 4096)) a0_0 a0_1 a0_2 a0_3 l0_4) else (if a0_3 = 0 then (wsframe_May.j0 k (decide ((l0_4.length : Int) > 4096)) a0_0 a0_1 a0_2 a0_3 l0_4) else (wsframe_May.j0 k (a0_3 != 0) a0_0 a0_1 a0_2 a0_3 l0_4))) else (wsframe_May.j0 k (!t189) a0_0 a0_1 a0_2 a0_3 l0_4))
theorem wsframe_May.calls (k : Nat) (a0_0 : Bool) (a0_1 : Int) (a0_2 : Bool) (a0_3 : Int) (A0_4 : Option Addr) (c0_4 : Nat) (l0_4 : List Int) (r : Bool) (w : World) (hr0_4 : Kd.C (Kd.int .u8) w A0_4 l0_4.length l0_4) (hc0_4 : l0_4.length ≤ c0_4) (h : wsframe_May.f k a0_0 a0_1 a0_2 a0_3 l0_4 = some r) :
  Calls Tryz.prog 68 #[.agg #[.bool a0_0, .int .u8 a0_1, .bool a0_2, .int .u32 a0_3, .slice A0_4 l0_4.length c0_4]] w fun e w' => e = .returned (.bool r) ∧ Below w.heap.size w w' := by
 have hf43_0 := field43_0
 have hf87_1 := field87_1
 have hu81 := Tryz.underlying81
 have HR0_4 := a_ hr0_4
 have HC0_4 := a_ hc0_4
 clear hr0_4 hc0_4
 have HB := a_ (Below.refl w.heap.size w)
 have H : ((wsframe_known.f a0_1).bind fun t189 => (if t189 = true then (if a0_2 = true then (wsframe_May.j0 k (decide ((l0_4.length : Int) > 4096)) a0_0 a0_1 a0_2 a0_3 l0_4) else (if a0_3 = 0 then (wsframe_May.j0 k (decide ((l0_4.length : Int) > 4096)) a0_0 a0_1 a0_2 a0_3 l0_4) else (wsframe_May.j0 k (a0_3 != 0) a0_0 a0_1 a0_2 a0_3 l0_4))) else (wsframe_May.j0 k (!t189) a0_0 a0_1 a0_2 a0_3 l0_4))) = some r := h
 clear h
 replace H := Option.bind_eq_some_iff.mp H
 obtain ⟨t189, A20, H⟩ := H
 try dsimp only at H
 have A2 := a_ A20
 clear A20
 have HC3 := a_ H
 clear H
 go_enter Tryz.func68, Tryz.ntmps68
 go_upto_if 3 with (first | ((with_reducible refine gate_dst (N := 1) rfl ?_); (try (refine gate_guard (by rfl) ?_; dsimp only)); refine box_event ?hg (N := 1) ?hd (cs := #[.bool a0_0, .int .u8 a0_1, .bool a0_2, .int .u32 a0_3, .slice A0_4 l0_4.length c0_4]) (t := 81) ?hr ?_; (case hd => rfl); (case hg => rfl); (case hr => first | (go_simp; done) | (go_simp; rfl)); intro gb188 hg w4 hbox hb; obtain ⟨HB, BK188, GW188, GE188⟩ := And.intro (a_ (below_step (by exact q2_ HB.out) hb)) (And.intro (a_ (hbox)) (And.intro (a_ ((by rw [hg]; exact (below_size (by exact q2_ HB.out)) : w.heap.size ≤ gb188))) (a_ ((by rw [hg]; exact (below_size (by exact q2_ HB.out)) : w.heap.size ≤ gb188))))); clear hb hbox hg; obtain ⟨hcz5_0, hfz5_0, hcz5_1, hfz5_1, hcz5_2, hfz5_2, hcz5_3, hfz5_3, hcz5_4, hfz5_4⟩ := xf5_ BK188.out) | ((with_reducible refine gate_callee (f := 98) rfl ?_); refine goesL_ (some 6) rfl rfl Tryz.func98 (by kernel_rfl) rfl #[.int .u8 a0_1] rfl (by exact q1_) ?_; (with_reducible refine (wsframe_known.calls a0_1 t189 _ A2.out).mono ?_); rintro e w' ⟨rfl, ⟨nd, rfl⟩⟩; refine ⟨_, rfl, ?_⟩))
 (try simp only [Act.put, z1_, z2_, z3_])
 go_cut [3] (fun v3 wc => ∃ (kq : Nat) (x3_2 : Bool), v3 = .bool x3_2 ∧ Aside0 (wsframe_May.j0 kq x3_2 a0_0 a0_1 a0_2 a0_3 l0_4 = some r) ∧ Aside0 (kq ≤ k) ∧ Aside0 (wc.heap[gb188]? = some (.cells #[.bool a0_0, .int .u8 a0_1, .bool a0_2, .int .u32 a0_3, (.slice A0_4 l0_4.length c0_4)] 81 (0, 0))) ∧ Aside0 (Below w.heap.size w wc))
 case first =>
  have H := HC3.out
  clear HC3
  by_cases c6 : t189 = true
  ·subst c6
   rw [if_pos rfl] at H
   by_cases c7 : a0_2 = true
   ·subst c7
    rw [if_pos rfl] at H
    have H' := a_ H
    clear H
    obtain ⟨hcz8_0, hfz8_0, hcz8_1, hfz8_1, hcz8_2, hfz8_2, hcz8_3, hfz8_3, hcz8_4, hfz8_4⟩ := xf5_ BK188.out
    go_wp2
    go_meet
    case rel => exact ⟨_, (decide ((l0_4.length : Int) > 4096)), (by first | rfl | (simp; done) | (simp [*]; done)), H', ⟨by first | omega | exact Nat.le_refl _⟩, ⟨by exact q10_ BK188.out⟩, ⟨by exact q3_ HB.out GE188.out⟩⟩
   ·replace c7 := Bool.eq_false_iff.mpr c7
    subst c7
    rw [if_neg (show ¬ (false = true) by decide)] at H
    by_cases c9 : a0_3 = 0
    ·rw [if_pos c9] at H
     have c9b0 : (a0_3 == 0) = true := beq_iff_eq.mpr c9
     have c9b1 : (a0_3 != 0) = false := bne_eq_false_iff_eq.mpr c9
     clear c9
     (first | rw [c9b0] | (simp only [i64_w, i32_w]; rw [c9b0]) | skip)
     have H' := a_ H
     clear H
     obtain ⟨hcz10_0, hfz10_0, hcz10_1, hfz10_1, hcz10_2, hfz10_2, hcz10_3, hfz10_3, hcz10_4, hfz10_4⟩ := xf5_ BK188.out
     go_wp2
     go_meet
     case rel => exact ⟨_, (decide ((l0_4.length : Int) > 4096)), (by first | rfl | (simp; done) | (simp [*]; done)), H', ⟨by first | omega | exact Nat.le_refl _⟩, ⟨by exact q10_ BK188.out⟩, ⟨by exact q3_ HB.out GE188.out⟩⟩
    ·rw [if_neg c9] at H
     have c9b0 : (a0_3 == 0) = false := nb_ c9
     have c9b1 : (a0_3 != 0) = true := bne_iff_ne.mpr c9
     (first | rw [c9b0] | (simp only [i64_w, i32_w]; rw [c9b0]) | skip)
     have H' := a_ H
     clear H
     obtain ⟨hcz11_0, hfz11_0, hcz11_1, hfz11_1, hcz11_2, hfz11_2, hcz11_3, hfz11_3, hcz11_4, hfz11_4⟩ := xf5_ BK188.out
     go_wp2
     go_meet
     case rel => exact ⟨_, ((a0_3 != 0)), (by first | rfl | (simp; done) | (simp [*]; done)), H', ⟨by first | omega | exact Nat.le_refl _⟩, ⟨by exact q10_ BK188.out⟩, ⟨by exact q3_ HB.out GE188.out⟩⟩
  ·replace c6 := Bool.eq_false_iff.mpr c6
   subst c6
   rw [if_neg (show ¬ (false = true) by decide)] at H
   have H' := a_ H
   clear H
   go_wp2
   go_meet
   case rel => exact ⟨_, (!false), (by first | rfl | (simp; done) | (simp [*]; done)), H', ⟨by first | omega | exact Nat.le_refl _⟩, ⟨by exact q10_ BK188.out⟩, ⟨by exact q3_ HB.out GE188.out⟩⟩
 case rest =>
  clear HC3
  try clear c6
  try clear c7
  try clear c9
  try clear c9b0
  try clear c9b1
  try clear hcz10_0
  try clear hcz10_1
  try clear hcz10_2
  try clear hcz10_3
  try clear hcz10_4
  try clear hcz11_0
  try clear hcz11_1
  try clear hcz11_2
  try clear hcz11_3
  try clear hcz11_4
  try clear hcz5_0
  try clear hcz5_1
  try clear hcz5_2
  try clear hcz5_3
  try clear hcz5_4
  try clear hcz8_0
  try clear hcz8_1
  try clear hcz8_2
  try clear hcz8_3
  try clear hcz8_4
  try clear hfz10_0
  try clear hfz10_1
  try clear hfz10_2
  try clear hfz10_3
  try clear hfz10_4
  try clear hfz11_0
  try clear hfz11_1
  try clear hfz11_2
  try clear hfz11_3
  try clear hfz11_4
  try clear hfz5_0
  try clear hfz5_1
  try clear hfz5_2
  try clear hfz5_3
  try clear hfz5_4
  try clear hfz8_0
  try clear hfz8_1
  try clear hfz8_2
  try clear hfz8_3
  try clear hfz8_4
  obtain ⟨kq, x3_2, rfl, HA, HJ2, BK188, HB⟩ := hcut
  cases kq with
  | zero => exact absurd HA.out (by simp [wsframe_May.j0])
  | succ kj2 =>
   have H := HA.out
   clear HA
   simp only [wsframe_May.j0] at H
   by_cases c12 : x3_2 = true
   ·subst c12
    rw [if_pos rfl] at H
    obtain rfl := Option.some.inj H
    go_wp2
    go_ret
    exact ⟨by exact q12_, by exact q3_ HB.out GE188.out⟩
   ·replace c12 := Bool.eq_false_iff.mpr c12
    subst c12
    rw [if_neg (show ¬ (false = true) by decide)] at H
    replace H := Option.bind_eq_some_iff.mp H
    obtain ⟨t190, A130, H⟩ := H
    try dsimp only at H
    have A13 := a_ A130
    clear A130
    by_cases c14 : t190 = true
    ·subst c14
     rw [if_pos rfl] at H
     by_cases c15 : a0_0 = true
     ·subst c15
      rw [if_pos rfl] at H
      by_cases c16 : (l0_4.length : Int) > 125
      ·rw [if_pos c16] at H
       have c16b0 : decide (125 < (l0_4.length : Int)) = true := decide_eq_true c16
       have c16b1 : decide (125 < l0_4.length) = true := decide_eq_true (by omega)
       clear c16
       obtain rfl := Option.some.inj H
       obtain ⟨hcz17_0, hfz17_0, hcz17_1, hfz17_1, hcz17_2, hfz17_2, hcz17_3, hfz17_3, hcz17_4, hfz17_4⟩ := xf5_ BK188.out
       go_wp2_with (first | ((with_reducible refine gate_callee (f := 99) rfl ?_); refine goesL_ (some 23) rfl rfl Tryz.func99 (by kernel_rfl) rfl #[.int .u8 a0_1] rfl (by exact q1_) ?_; (with_reducible refine (wsframe_control.calls a0_1 true _ A13.out).mono ?_); rintro e w' ⟨rfl, ⟨nd, rfl⟩⟩; refine ⟨_, rfl, ?_⟩))
       go_ret
       exact ⟨by exact q12_, by exact q3_ HB.out GE188.out⟩
      ·rw [if_neg c16] at H
       have c16b0 : decide (125 < (l0_4.length : Int)) = false := decide_eq_false c16
       have c16b1 : decide (125 < l0_4.length) = false := decide_eq_false (by omega)
       clear c16
       obtain rfl := Option.some.inj H
       obtain ⟨hcz18_0, hfz18_0, hcz18_1, hfz18_1, hcz18_2, hfz18_2, hcz18_3, hfz18_3, hcz18_4, hfz18_4⟩ := xf5_ BK188.out
       go_wp2_with (first | ((with_reducible refine gate_callee (f := 99) rfl ?_); refine goesL_ (some 23) rfl rfl Tryz.func99 (by kernel_rfl) rfl #[.int .u8 a0_1] rfl (by exact q1_) ?_; (with_reducible refine (wsframe_control.calls a0_1 true _ A13.out).mono ?_); rintro e w' ⟨rfl, ⟨nd, rfl⟩⟩; refine ⟨_, rfl, ?_⟩))
       go_ret
       exact ⟨by exact q12_, by exact q3_ HB.out GE188.out⟩
     ·replace c15 := Bool.eq_false_iff.mpr c15
      subst c15
      rw [if_neg (show ¬ (false = true) by decide)] at H
      obtain rfl := Option.some.inj H
      obtain ⟨hcz19_0, hfz19_0, hcz19_1, hfz19_1, hcz19_2, hfz19_2, hcz19_3, hfz19_3, hcz19_4, hfz19_4⟩ := xf5_ BK188.out
      go_wp2_with (first | ((with_reducible refine gate_callee (f := 99) rfl ?_); refine goesL_ (some 23) rfl rfl Tryz.func99 (by kernel_rfl) rfl #[.int .u8 a0_1] rfl (by exact q1_) ?_; (with_reducible refine (wsframe_control.calls a0_1 true _ A13.out).mono ?_); rintro e w' ⟨rfl, ⟨nd, rfl⟩⟩; refine ⟨_, rfl, ?_⟩))
      go_ret
      exact ⟨by exact q12_, by exact q3_ HB.out GE188.out⟩
    ·replace c14 := Bool.eq_false_iff.mpr c14
     subst c14
     rw [if_neg (show ¬ (false = true) by decide)] at H
     obtain rfl := Option.some.inj H
     obtain ⟨hcz20_0, hfz20_0, hcz20_1, hfz20_1, hcz20_2, hfz20_2, hcz20_3, hfz20_3, hcz20_4, hfz20_4⟩ := xf5_ BK188.out
     go_wp2_with (first | ((with_reducible refine gate_callee (f := 99) rfl ?_); refine goesL_ (some 23) rfl rfl Tryz.func99 (by kernel_rfl) rfl #[.int .u8 a0_1] rfl (by exact q1_) ?_; (with_reducible refine (wsframe_control.calls a0_1 false _ A13.out).mono ?_); rintro e w' ⟨rfl, ⟨nd, rfl⟩⟩; refine ⟨_, rfl, ?_⟩))
     go_ret
     exact ⟨by exact q12_, by exact q3_ HB.out GE188.out⟩
def wsframe_key.f (a0 : Int) : Option (List Int) := some (([(a0 / 16777216) % 256, (a0 / 65536) % 256, (a0 / 256) % 256, (a0) % 256] : List Int))
theorem wsframe_key.calls (a0 : Int) (r : List Int) (w : World) (h : wsframe_key.f a0 = some r) :
  Calls Tryz.prog 69 #[.int .u32 a0] w fun e w' => ∃ v0_ : Value, e = .returned (v0_) ∧ Kd.R (Kd.int .u8) 5 w' w.heap.size (fun _ => True) v0_ r ∧ Below w.heap.size w w' := by
 have hf43_0 := field43_0
 have hf87_1 := field87_1
 have HB := a_ (Below.refl w.heap.size w)
 have H : (some (([(a0 / 16777216) % 256, (a0 / 65536) % 256, (a0 / 256) % 256, (a0) % 256] : List Int))) = some r := h
 clear h
 obtain ⟨y191, hy191⟩ : ∃ y_ : List Int, y_ = (([(a0 / 16777216) % 256, (a0 / 65536) % 256, (a0 / 256) % 256, (a0) % 256] : List Int)) := ⟨_, rfl⟩
 replace H : (some y191) = some r := by exact rq_ H hy191
 have Ny191 := a_ hy191
 clear hy191
 obtain rfl := Option.some.inj H
 go_enter Tryz.func69, Tryz.ntmps69
 go_wp2_with (first | ((with_reducible refine gate_dst (N := 14) rfl ?_); refine Kd.R_lit (Kd.int .u8) _ 5 ?hg (N := 14) ?hd (xs := ([(a0 / 16777216) % 256, (a0 / 65536) % 256, (a0 / 256) % 256, (a0) % 256] : List Int)) (inner := [.int .u8 ((a0 / 16777216) % 256), .int .u8 ((a0 / 65536) % 256), .int .u8 ((a0 / 256) % 256), .int .u8 ((a0) % 256)]) (ok := fun _ => True) (okp := fun _ => True) ?hr ?hp (fun _ hk => hk) trivial (Below.refl _ _) (Nat.le_refl _) (by simp) ?_; (case hd => rfl); (case hg => rfl); (case hr => first | (go_simp; done) | (go_simp; rfl)); (case hp => exact (Reps.one (show Kd.M (Kd.int .u8) _ _ _ ((a0 / 16777216) % 256) [.int .u8 ((a0 / 16777216) % 256)] from rfl) (Reps.one (show Kd.M (Kd.int .u8) _ _ _ ((a0 / 65536) % 256) [.int .u8 ((a0 / 65536) % 256)] from rfl) (Reps.one (show Kd.M (Kd.int .u8) _ _ _ ((a0 / 256) % 256) [.int .u8 ((a0 / 256) % 256)] from rfl) (Reps.one (show Kd.M (Kd.int .u8) _ _ _ ((a0) % 256) [.int .u8 ((a0) % 256)] from rfl) (Reps.none _ _)))))); intro v192 w2 ho3 hb hg_ hnew_; clear hg_ hnew_; (first | rw [← Ny191.out] at ho3 | (simp only [Int.reduceToNat] at ho3; rw [← Ny191.out] at ho3)); obtain ⟨HO193, HB⟩ := And.intro (a_ (Kd.R_lower ho3 (below_size (by exact q2_ HB.out)))) (a_ (below_step (by exact q2_ HB.out) hb)); clear hb ho3))
 go_ret
 exact ⟨_, by exact q12_, by (with_reducible repeat (first | apply Kd.R_alloc | apply Kd.R_drewN | apply Kd.R_drew)); exact HO193.out, by exact q2_ HB.out⟩
end Go.Proofs.YtpmeapdcjmaeiaaGreatDoor.PAll

namespace Go.Proofs.YtpmeapdcjmaeiaaGreatDoor.PAll
open Go.RowKit Go.Wa Go.Wb Go.Wc
attribute [local go_sem] max2_int min2_int max_two min_two max_three min_three max_four min_four
def wsframe_Turn.l0 : Nat → List Int → List Int → Int → Int → Option (List Int)
 | 0, _, _, _, _ => none
 | k + 1, x5, x6, x13, x14 => if x14 < x13 then (if 0 ≤ x14 then (if x14 < (x5.length : Int) then (if (x6.length : Int) = 0 then (none) else (if 0 ≤ (Int.tmod x14 (x6.length : Int)) then (if (Int.tmod x14 (x6.length : Int)) < (x6.length : Int) then (wsframe_Turn.l0 k (x5.set (x14 : Int).toNat (Go.bits .xor .u8 (rd x5 x14) (rd x6 (Int.tmod x14 (x6.length : Int))))) x6 x13 (wrap64 (x14 + 1))) else (none)) else (none))) else (none)) else (none)) else (some x5)
def wsframe_Turn.f (k : Nat) (l0 : List Int) (a1 : Int) : Option (List Int) := (bytes_Clone.f l0).bind fun t194 => ((wsframe_key.f a1).bind fun t197 => (wsframe_Turn.l0 k t194 t197 (t194.length : Int) 0))
def wsframe_Turn.T6 : Bool × List (List Nat × List Nat) := (true, [([], []), ([], []), ([0, 1], [0, 1]), ([2], [2]), ([], []), ([], []), ([], []), ([6], [6]), ([5, 7], [5, 7]), ([4, 8], [4, 8]), ([9], [9]), ([3, 10], [3, 10]), ([0, 1, 0, 1, 2, 3, 4, 5, 6, 7, 8, 9, 10, 11], [0, 1]), ([12, 11, 0, 1, 2, 3, 4, 5, 6, 7, 8, 9, 10, 11], [11, 12])])
def wsframe_Turn.B6 : List Nat := [0, 0, 3, 7, 0, 0, 0, 64, 224, 496, 1008, 2047, 4095, 8191]
theorem wsframe_Turn.tab6 : rtab .any (opsOf Tryz.f70 6) = wsframe_Turn.T6 := by kernel_rfl
theorem wsframe_Turn.bits6 : waitsOk wsframe_Turn.T6.2 wsframe_Turn.B6 = true := by kernel_rfl
theorem _root_.Go.pureP (i : Nat) (n : Tmp) {P : Program} {md : Region.Mode} {ops : Array Oper} {Q : Exit → Act → World → Prop} {S : World → Prop} {ds : List Nat} {oi : Oper} {v : Value} {fuel : Nat} {l : Array Bool} {a a' : Act} {w : World} (h : wpAnyLast P md ops Q S ds fuel (l.setIfInBounds i true) a' w) (hi : ops[i]? = some oi := by rfl) (hN : oi.dst = some n := by rfl) (hc : anyB md ops l (l.setIfInBounds i true) i = true := by kernel_rfl)
  (hQ : ∀ c a w, Q (.panic c) (a.put oi.dst v) w → Q (.panic c) a w := by exact fun _ _ _ h => h) (hy : Yields P ops oi v a := by (refine Or.inl ⟨by rfl, ?_⟩; intro w'; go_simp; first | done | with_reducible rfl)) (ha : a.put (some n) v = a' := by (simp only [Act.put, z1_, z2_, z3_, i64_w, i32_w]; rfl)) : wpAnyLast P md ops Q S ds (fuel + 1) l a w := pure_ (l.setIfInBounds i true) hi hN hc hQ hy ha h
theorem wsframe_Turn.calls (k : Nat) (A0 : Option Addr) (c0 : Nat) (l0 : List Int) (a1 : Int) (r : List Int) (w : World) (hr0 : Kd.C (Kd.int .u8) w A0 l0.length l0) (hc0 : l0.length ≤ c0) (h : wsframe_Turn.f k l0 a1 = some r) :
  Calls Tryz.prog 70 #[.slice A0 l0.length c0, .int .u32 a1] w fun e w' => ∃ v0_ : Value, e = .returned (v0_) ∧ Kd.R (Kd.int .u8) 5 w' w.heap.size (fun _ => True) v0_ r ∧ Below w.heap.size w w' := by
 have hf43_0 := field43_0
 have hf87_1 := field87_1
 have HR0 := a_ hr0
 have HC0 := a_ hc0
 clear hr0 hc0
 have HB := a_ (Below.refl w.heap.size w)
 have H : ((bytes_Clone.f l0).bind fun t194 => ((wsframe_key.f a1).bind fun t197 => (wsframe_Turn.l0 k t194 t197 (t194.length : Int) 0))) = some r := h
 clear h
 replace H := Option.bind_eq_some_iff.mp H
 obtain ⟨t194, A30, H⟩ := H
 try dsimp only at H
 have A3 := a_ A30
 clear A30
 replace H := Option.bind_eq_some_iff.mp H
 obtain ⟨t197, A40, H⟩ := H
 try dsimp only at H
 have A4 := a_ A40
 clear A40
 have H' := a_ H
 clear H
 go_enter Tryz.func70, Tryz.ntmps70
 go_wp2_with (first | ((with_reducible refine gate_callee (f := 67) rfl ?_); refine goesL_ (some 9) rfl rfl Tryz.func67 (by kernel_rfl) rfl #[.slice A0 l0.length c0] rfl (by exact q1_) ?_; (with_reducible refine (bytes_Clone.calls _ _ l0 t194 _ ?side1 ?side2 A3.out).mono ?_); (case side1 => repeat (first | exact HR0.out | (with_reducible refine Kd.C_alloc ?_ _) | (with_reducible refine Kd.C_drewN ?_ _) | (with_reducible refine Kd.C_drew ?_))); (case side2 => exact HC0.out); rintro e w5 ⟨v195, rfl, ho0, hb⟩; refine ⟨_, rfl, ?_⟩; obtain ⟨HO196, HB⟩ := And.intro (a_ (Kd.R_lower ho0 (below_size (by exact q2_ HB.out)))) (a_ (below_step (by exact q2_ HB.out) hb)); (try clear hb); (try clear hb2); (try clear hk); (try clear hi); (try clear ho0)) | ((with_reducible refine gate_callee (f := 69) rfl ?_); refine goesL_ (some 11) rfl rfl Tryz.func69 (by kernel_rfl) rfl #[.int .u32 a1] rfl (by exact q1_) ?_; (with_reducible refine (wsframe_key.calls a1 t197 _ A4.out).mono ?_); rintro e w6 ⟨v198, rfl, ho0, hb⟩; refine ⟨_, rfl, ?_⟩; obtain ⟨HO196, HO199, HB⟩ := And.intro (a_ (Kd.R_elder' (by exact q11_ HO196.out) (Kd.R_base ho0) hb)) (And.intro (a_ (Kd.R_lower (Kd.R_new' ho0 (Kd.R_lt (by exact q11_ HO196.out))) (below_size (by exact q2_ HB.out)))) (a_ (below_step (by exact q2_ HB.out) hb))); (try clear hb); (try clear hb2); (try clear hk); (try clear hi); (try clear ho0); obtain ⟨Ao7, co7, eo7⟩ := Kd.R_slice HO196.out; subst eo7))
 go_loopg [14] k (fun kq v14 w' => ∃ (x5_1 : List Int) (x14_1 : Int), v14 = .int .i64 x14_1 ∧ Aside0 (wsframe_Turn.l0 kq x5_1 t197 (t194.length : Int) x14_1 = some r) ∧ Aside0 (kq ≤ k) ∧ Aside0 (Kd.R (Kd.int .u8) 5 w' w.heap.size (fun k_ => some k_ ≠ (v198 : Value).ownBlock) (.slice Ao7 t194.length co7) x5_1) ∧ Aside0 (Kd.R (Kd.int .u8) 5 w' w.heap.size (fun k_ => some k_ ≠ ((.slice Ao7 t194.length co7) : Value).ownBlock) v198 t197) ∧ Aside0 (Below w.heap.size w w'))
 case atStart => exact ⟨(t194), (0), (by first | rfl | (simp; done) | (simp [*]; done)), H', ⟨Nat.le_refl _⟩, ⟨by (with_reducible repeat (first | apply Kd.R_alloc | apply Kd.R_drewN | apply Kd.R_drew)); exact Kd.R_mono HO196.out (fun _ hk => hk.2)⟩, ⟨by (with_reducible repeat (first | apply Kd.R_alloc | apply Kd.R_drewN | apply Kd.R_drew)); exact Kd.R_mono HO199.out (fun _ hk => hk.2)⟩, ⟨by exact q2_ HB.out⟩⟩
 case round =>
  clear H'
  obtain ⟨x5_1, x14_1, rfl, HA, HK1, HO_5, HO_6, HB⟩ := hrel
  have hl5_1 := (Kd.R_reads' HO_5.out).1
  rw [hl5_1] at HO_5
  (try simp only [hl5_1])
  (try simp only [hl5_1] at HO_6)
  cases gk with
  | zero => exact absurd HA.out (by simp [wsframe_Turn.l0])
  | succ k1 =>
   have H := HA.out
   clear HA
   simp only [wsframe_Turn.l0] at H
   by_cases c8 : x14_1 < (t194.length : Int)
   ·rw [if_pos c8] at H
    have c8b0 : decide (x14_1 < (t194.length : Int)) = true := decide_eq_true c8
    have c8b0q := c8b0; (try simp only [hl5_1] at c8b0q)
    clear c8
    by_cases c9 : 0 ≤ x14_1
    ·rw [if_pos c9] at H
     have c9b0 : decide (0 ≤ x14_1) = true := decide_eq_true c9
     clear c9
     by_cases c10 : x14_1 < (x5_1.length : Int)
     ·rw [if_pos c10] at H
      have c10b0 : decide (x14_1 < (x5_1.length : Int)) = true := decide_eq_true c10
      have c10b0q := c10b0; (try simp only [hl5_1] at c10b0q)
      clear c10
      by_cases c11 : (t197.length : Int) = 0
      ·rw [if_pos c11] at H
       exact absurd H (by simp)
      ·rw [if_neg c11] at H
       have c11b0 : ((t197.length : Int) == 0) = false := nb_ c11
       have c11b1 : ((t197.length : Int) != 0) = true := bne_iff_ne.mpr c11
       have c11b2 : ¬ (t197 = []) := fun h_ => c11 (by rw [h_]; rfl)
       obtain ⟨ji12, hji12⟩ : ∃ j_ : Int, (Int.tmod x14_1 (t197.length : Int)) = j_ := ⟨_, rfl⟩
       replace H : (if 0 ≤ (ji12) then (if (ji12) < (t197.length : Int) then (wsframe_Turn.l0 k1 (x5_1.set (x14_1 : Int).toNat (Go.bits .xor .u8 (rd x5_1 x14_1) (rd t197 (ji12)))) t197 (t194.length : Int) (wrap64 (x14_1 + 1))) else (none)) else (none)) = some r := by first | (rw [hji12] at H; exact H) | (simp only [hji12] at H ⊢; exact H)
       by_cases c13 : 0 ≤ (ji12)
       ·rw [if_pos c13] at H
        have c13b0 : decide (0 ≤ (ji12)) = true := decide_eq_true c13
        clear c13
        by_cases c14 : (ji12) < (t197.length : Int)
        ·rw [if_pos c14] at H
         have c14b0 : decide ((ji12) < (t197.length : Int)) = true := decide_eq_true c14
         have c14b0q := c14b0; (try simp only [hl5_1] at c14b0q)
         clear c14
         obtain ⟨y202, hy202⟩ : ∃ y_ : List Int, y_ = (x5_1.set (x14_1 : Int).toNat (Go.bits .xor .u8 (rd x5_1 x14_1) (rd t197 (ji12)))) := ⟨_, rfl⟩
         replace H : (wsframe_Turn.l0 k1 y202 t197 (t194.length : Int) (wrap64 (x14_1 + 1))) = some r := by exact rq_ H hy202
         have Ny202 := a_ hy202
         clear hy202
         have H' := a_ H
         clear H
         try go_wp2
         have n0_ := a_ (Kd.R_drew HO_5.out)
         have n1_ := a_ (Kd.R_drew HO_6.out)
         have n2_ := a_ (below_drew1 HB.out)
         clear HO_5
         clear HO_6
         clear HB
         have HO_5 := n0_
         have HO_6 := n1_
         have HB := n2_
         clear n0_ n1_ n2_
         have p200 : 0 ≤ (x14_1 : Int) := of_decide_eq_true (by assumption)
         have q200 : x14_1 < (x5_1.length : Int) := of_decide_eq_true (by assumption)
         obtain ⟨ad200, e200, hx200_0⟩ := Kd.at_int (Kd.R_reads' HO_5.out).2.2 x14_1 p200 q200
         cases e200
         replace p200 := eq_true p200
         replace q200 := eq_true q200
         obtain ⟨Ao17, co17, eo17⟩ := Kd.R_slice HO_6.out
         (first | subst eo17 | (injection eo17 with f1_ f2_ f3_; have f4_ := f1_.symm; have f5_ := f3_.symm; clear f1_ f2_ f3_; subst f4_; subst f5_))
         have p201 : 0 ≤ ((ji12) : Int) := of_decide_eq_true (by assumption)
         have q201 : (ji12) < (t197.length : Int) := of_decide_eq_true (by assumption)
         obtain ⟨ad201, e201, hx201_0⟩ := Kd.at_int (Kd.R_reads' HO_6.out).2.2 (ji12) p201 q201
         cases e201
         replace p201 := eq_true p201
         replace q201 := eq_true q201
         have p15 : 0 ≤ (x14_1 : Int) := of_decide_eq_true (by assumption)
         have q15 : (x14_1 : Int) < ((x5_1.length : Int) : Int) := of_decide_eq_true (by assumption)
         obtain ⟨go15, co15, eo15, gb15, gl15, cl15, HG15⟩ := Kd.R_form HO_5.out (by omega)
         (first | cases eo15 | (injection eo15 with ea_ en_ ec_; (first | subst ea_ | (injection ea_ with ea_; subst ea_)); subst ec_; clear en_))
         have GB15 := a_ gb15
         have GG15 := a_ HG15
         clear gb15 gl15 HG15
         (first | simp only [add_plain] at hx200_0 | skip)
         obtain ⟨hx15_0, hf15_0⟩ := Kd.R_celln 0 HO_5.out (x14_1 : Int) p15 q15
         replace p15 := eq_true p15
         replace q15 := eq_true q15
         have HP18 := Kd.R_putn HO_5.out (x14_1 : Int) (Go.bits .xor .u8 (rd x5_1 x14_1) (rd t197 (ji12)))
         rw [← Ny202.out] at HP18
         have HQ18 := a_ HP18
         clear HP18
         refine start_ (n := 14) (S := fun w' => w'.cell? ⟨go15, (x14_1).toNat, none⟩ = some (.int .u8 (rd x5_1 x14_1)) ∧ w'.cell? (ad201.add ((ji12)).toNat) = some (.int .u8 (rd t197 (ji12)))) (ds := [13]) #[false, false, false, false, false, false, false, false, false, false, false, false, false, false] (by kernel_rfl) rfl rfl ⟨hx200_0, hx201_0⟩ (fun hHeld => ?_); refine with_tabW wsframe_Turn.tab6 wsframe_Turn.bits6 (fun HT_ HW_ => ?_)
         generalize wr.drew = w16 at HO_5 HO_6 HB GG15 HQ18 hf15_0 hx15_0 hx200_0 hx201_0 hHeld ⊢
         refine pureP 0 17 ?_ (hc := (any_of HT_.out (by kernel_rfl)))
         refine pureP 1 18 ?_ (hc := (any_of HT_.out (by kernel_rfl)))
         refine pureP 2 19 ?_ (hc := (any_of HT_.out (by kernel_rfl)))
         refine pureP 4 21 ?_ (hc := (any_of HT_.out (by kernel_rfl)))
         refine pureP 5 22 ?_ (hc := (any_of HT_.out (by kernel_rfl)))
         refine pureP 6 23 ?_ (hc := (any_of HT_.out (by kernel_rfl)))
         refine pureP 7 24 ?_ (hc := (any_of HT_.out (by kernel_rfl)))
         refine pureP 8 25 ?_ (hc := (any_of HT_.out (by kernel_rfl)))
         refine pureP 9 26 ?_ (hc := (any_of HT_.out (by kernel_rfl)))
         refine take_ (i := 3) (N := some 20) (v := ?_) (a' := ?_) #[true, true, true, true, true, true, true, true, true, true, false, false, false, false] rfl rfl (take_ofW HT_.out HW_.out (by kernel_rfl)) (fun _ _ _ h => h) (Or.inl ⟨by rfl, ?_⟩) hHeld ?_ ?_
         rotate_left
         ·rintro w' ⟨s0, s1⟩
          go_simp
          with_reducible rfl
         rotate_left
         ·simp only [Act.put, z1_, z2_, z3_, i64_w, i32_w]
          rfl
         refine take_ (i := 10) (N := some 27) (v := ?_) (a' := ?_) #[true, true, true, true, true, true, true, true, true, true, true, false, false, false] rfl rfl (take_ofW HT_.out HW_.out (by kernel_rfl)) (fun _ _ _ h => h) (Or.inl ⟨by rfl, ?_⟩) hHeld ?_ ?_
         rotate_left
         ·rintro w' ⟨s0, s1⟩
          go_simp
          with_reducible rfl
         rotate_left
         ·simp only [Act.put, z1_, z2_, z3_, i64_w, i32_w]
          rfl
         refine pureP 11 28 ?_ (hc := (any_of HT_.out (by kernel_rfl)))
         refine pureP 12 29 ?_ (hc := (any_of HT_.out (by kernel_rfl)))
         refine last_ (i := 13) (N := none) #[true, true, true, true, true, true, true, true, true, true, true, true, true, true] rfl rfl (one_of HT_.out (by kernel_rfl)) (by decide) (fun K hK => ?_)
         refine skip_ (w1 := ?_) (by rfl) rfl ?_ ?_
         rotate_left
         ·go_simp
          rfl
         refine hK.out _ _ ?_
         clear hK K
         refine done_ (done_of HT_.out (by kernel_rfl)) ?_
         try go_wp2
         (try simp only [← hl5_1])
         go_roundg k1
         case measure => have := HK1.out; omega
         case rel => exact ⟨(y202), (wrap64 (x14_1 + 1)), (by first | rfl | (simp; done) | (simp [*]; done)), H', ⟨by have := HK1.out; omega⟩, ⟨by (try simp only [hl5_1]); exact q11_ HQ18.out⟩, ⟨by (try simp only [hl5_1]); (with_reducible repeat (first | apply Kd.R_alloc | apply Kd.R_drewN | apply Kd.R_drew)); exact Kd.R_mono (Kd.R_far (p := ⟨go15, (x14_1 : Int).toNat, none⟩) (Kd.R_mono HO_6.out (fun k_ hk => (⟨hk, fun e_ => hk (by rw [e_]; rfl)⟩ : _ ∧ k_ ≠ go15))) (fun _ hk => hk.2) (.int .u8 (Go.bits .xor .u8 (rd x5_1 x14_1) (rd t197 (ji12))))) (fun _ hk => hk.1)⟩, ⟨by exact q3_ HB.out GB15.out⟩⟩
        ·rw [if_neg c14] at H
         exact absurd H (by simp)
       ·rw [if_neg c13] at H
        exact absurd H (by simp)
     ·rw [if_neg c10] at H
      exact absurd H (by simp)
    ·rw [if_neg c9] at H
     exact absurd H (by simp)
   ·rw [if_neg c8] at H
    have c8b0 : decide (x14_1 < (t194.length : Int)) = false := decide_eq_false c8
    have c8b0q := c8b0; (try simp only [hl5_1] at c8b0q)
    clear c8
    obtain rfl := Option.some.inj H
    go_wp2
    go_ret
    exact ⟨_, by exact q12_, by (with_reducible repeat (first | apply Kd.R_alloc | apply Kd.R_drewN | apply Kd.R_drew)); exact Kd.R_mono HO_5.out (fun _ hk => trivial), by exact q2_ HB.out⟩
end Go.Proofs.YtpmeapdcjmaeiaaGreatDoor.PAll
