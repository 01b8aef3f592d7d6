/- What the law's row rests on, part 6. -/
import Derived.Test.YtpmeapdcjmaeiaaGreatDoorZ5
import Derived.Deep.RegionHeld3
set_option linter.unusedVariables false
set_option linter.unusedSimpArgs false
set_option maxRecDepth 100000
set_option maxHeartbeats 16000000

namespace Go.Proofs.YtpmeapdcjmaeiaaGreatDoor.PAll
open Go.RowKit Go.Wa Go.Wb Go.Wc
attribute [local go_sem] max2_int min2_int max_two min_two max_three min_three max_four min_four
def utf_Valid.f (k : Nat) (l0 : List Int) : Option (Bool) := (utf_New.f).bind fun bt157 => ((utf_Checker_Feed.f k bt157.1 bt157.2.1 bt157.2.2.1 bt157.2.2.2 l0).bind fun bt162 => ((utf_Checker_Whole.f bt162.2.1 bt162.2.2.1 bt162.2.2.2.1 bt162.2.2.2.2).bind fun bt167 => (some bt167.1)))
theorem utf_Valid.calls (k : Nat) (A0 : Option Addr) (c0 : Nat) (l0 : List Int) (r : Bool) (w : World) (hr0 : Kd.C (Kd.int .u8) w A0 l0.length l0) (hc0 : l0.length ≤ c0) (h : utf_Valid.f k l0 = some r) :
  Calls Tryz.prog 35 #[.slice A0 l0.length c0] w fun e w' => e = .returned (.bool r) ∧ Below w.heap.size w w' := by
 have hf43_0 := field43_0
 have hf87_1 := field87_1
 have HR0 := a_ hr0
 have HC0 := a_ hc0
 clear hr0 hc0
 have HB := a_ (Below.refl w.heap.size w)
 have H : ((utf_New.f).bind fun bt157 => ((utf_Checker_Feed.f k bt157.1 bt157.2.1 bt157.2.2.1 bt157.2.2.2 l0).bind fun bt162 => ((utf_Checker_Whole.f bt162.2.1 bt162.2.2.1 bt162.2.2.2.1 bt162.2.2.2.2).bind fun bt167 => (some bt167.1)))) = some r := h
 clear h
 replace H := Option.bind_eq_some_iff.mp H
 obtain ⟨⟨t157, t158, t159, t160⟩, A20, H⟩ := H
 try dsimp only at H
 have A2 := a_ A20
 clear A20
 replace H := Option.bind_eq_some_iff.mp H
 obtain ⟨⟨t162, t163, t164, t165, t166⟩, A30, H⟩ := H
 try dsimp only at H
 have A3 := a_ A30
 clear A30
 replace H := Option.bind_eq_some_iff.mp H
 obtain ⟨⟨t167, t168, t169, t170, t171⟩, A40, H⟩ := H
 try dsimp only at H
 have A4 := a_ A40
 clear A40
 obtain rfl := Option.some.inj H
 go_enter Tryz.func35, Tryz.ntmps35
 go_wp2_with (first | ((with_reducible refine gate_callee (f := 64) rfl ?_); refine goesL_ (some 4) rfl rfl Tryz.func64 (by kernel_rfl) rfl #[] rfl (by exact q1_) ?_; (with_reducible refine (utf_New.calls  t157 t158 t159 t160 w _ ?side1 A2.out).mono ?_); (case side1 => exact q2_ HB.out); rintro e w5 ⟨g161, rfl, hi, hb, hb2⟩; refine ⟨_, rfl, ?_⟩; obtain ⟨HB, HI161⟩ := And.intro (a_ (hb)) (a_ (hi)); (try clear hb); (try clear hb2); (try clear hk); (try clear hi)) | ((with_reducible refine gate_callee (f := 65) rfl ?_); refine goesL_ (some 7) rfl rfl Tryz.func65 (by kernel_rfl) rfl #[.pointer (some ⟨g161, 0, none⟩), .slice A0 l0.length c0] rfl (by exact q1_) ?_; (with_reducible refine (utf_Checker_Feed.calls k g161 t157 t158 t159 t160 _ _ l0 t162 t163 t164 t165 t166 w _ ?side1 ?side2 ?side3 ?side4 ?side5 A3.out).mono ?_); (case side1 => exact q9_ HI161.out); (case side2 => exact q3_ HB.out (IsS155.ge HI161.out)); (case side3 => repeat (first | exact (Kd.C_below HR0.out HB.out) | (with_reducible refine Kd.C_alloc ?_ _) | (with_reducible refine Kd.C_drewN ?_ _) | (with_reducible refine Kd.C_drew ?_))); (case side4 => exact HC0.out); (case side5 => exact Kd.far_C 0 HR0.out (IsS155.ge HI161.out)); rintro e w6 ⟨rfl, hi, hb, hk⟩; refine ⟨_, rfl, ?_⟩; obtain ⟨HB, HI161⟩ := And.intro (a_ (hb)) (a_ (hi)); (try clear hb); (try clear hb2); (try clear hk); (try clear hi)) | ((with_reducible refine gate_callee (f := 66) rfl ?_); refine goesL_ (some 9) rfl rfl Tryz.func66 (by kernel_rfl) rfl #[.pointer (some ⟨g161, 0, none⟩)] rfl (by exact q1_) ?_; (with_reducible refine (utf_Checker_Whole.calls g161 t163 t164 t165 t166 t167 t168 t169 t170 t171 w _ ?side1 ?side2 A4.out).mono ?_); (case side1 => exact q9_ HI161.out); (case side2 => exact q3_ HB.out (IsS155.ge HI161.out)); rintro e w7 ⟨rfl, hi, hb, hk⟩; refine ⟨_, rfl, ?_⟩; obtain ⟨HB, HI161⟩ := And.intro (a_ (hb)) (a_ (hi)); (try clear hb); (try clear hb2); (try clear hk); (try clear hi)))
 go_ret
 exact ⟨by exact q12_, by exact q3_ HB.out (IsS155.ge HI161.out)⟩
theorem eqlNil (w : World) (A : Option Addr) (n c : Nat) : (binOp .eql 27 (.slice A n c) (.slice none 0 0)).run Tryz.prog w = .ok (.bool A.isNone) w := by
 have h : ∀ d : Nat, (Op.equalIn (d + 1) 27 (.slice A n c) (.slice none 0 0)).run Tryz.prog w = .ok A.isNone w := fun d => by
  cases A <;> simp [Op.equalIn, run_underlying Tryz.underlying27]
 simp only [binOp]
 simp [Op.equal, Op.maxDepth, h 9999]
def bytes_Clone.f (l0 : List Int) : Option (List Int) := if (l0.length : Int) ≤ 140737488355328 then some l0 else none
theorem bytes_Clone.calls (A0 : Option Addr) (c0 : Nat) (l0 : List Int) (r : List Int) (w : World) (hr0 : Kd.C (Kd.int .u8) w A0 l0.length l0) (hc0 : l0.length ≤ c0) (h : bytes_Clone.f l0 = some r) :
  Calls Tryz.prog 67 #[.slice A0 l0.length c0] w fun e w' => ∃ v0_ : Value, e = .returned (v0_) ∧ Kd.R (Kd.int .u8) 5 w' w.heap.size (fun _ => True) v0_ r ∧ Below w.heap.size w w' := by
 have hf43_0 := field43_0
 have hf87_1 := field87_1
 unfold bytes_Clone.f at h
 have hlen : (l0.length : Int) ≤ 140737488355328 := by
  by_cases hb : (l0.length : Int) ≤ 140737488355328
  ·exact hb
  ·rw [if_neg hb] at h; cases h
 rw [if_pos hlen] at h
 obtain rfl := Option.some.inj h
 have huS := Tryz.underlying27
 have huB := Tryz.underlying5
 have HR := a_ hr0
 have hinfo : (Tryz.prog.info? 5).map (fun i => (i.zero, i.size, i.bytes)) = some (some (.int .u8 0), 1, 1) := by kernel_rfl
 rcases A0 with _ | ad
 ·have h0 : l0 = [] := by
   cases l0 with
   | nil => rfl
   | cons a t => obtain ⟨_, h, _⟩ := HR.out.2.2 (by simp); cases h
  subst h0
  clear hr0 HR
  have hnil : ∀ W, (binOp .eql 27 (.slice none 0 c0) (.slice none 0 0)).run Tryz.prog W = .ok (.bool true) W := fun W => eqlNil W none 0 c0
  go_enter Tryz.func67, Tryz.ntmps67
  go_wp2_with fail
  go_ret
  exact ⟨_, rfl, Kd.R_nil _ _ _ _ _, Below.refl _ _⟩
 ·have HL := a_ hlen
  clear hr0 hlen
  have hnil : ∀ W, (binOp .eql 27 (.slice (some ad) l0.length c0) (.slice none 0 0)).run Tryz.prog W = .ok (.bool false) W := fun W => eqlNil W (some ad) l0.length c0
  go_enter Tryz.func67, Tryz.ntmps67
  have HO : Aside0 ((w.alloc (.cells #[] 5)).ownsRow w.heap.size 5 1 (.slice (some ⟨w.heap.size, 0, none⟩) 0 0) 0 []) := ⟨⟨rfl, .inr ⟨w.heap.size, 0, #[], rfl, Nat.le_refl _, blk_new w _, Nat.le_refl _, by decide, rfl, rfl⟩⟩⟩
  have HS : Aside0 (ReadsInt (w.alloc (.cells #[] 5)) .u8 (some ad) l0.length l0) := ⟨Kd.reads_of_C (Kd.C_alloc HR.out _)⟩
  go_wp2_with (at_builtin; refine print_append_row (w0 := w) w.heap.size rfl (.tmp 5) (.tmp 6) 27 5 .u8 1 rfl Tryz.underlying27 info5 (by decide) (.slice (some ⟨w.heap.size, 0, none⟩) 0 0) [] l0 (some ad) l0.length c0 rfl rfl HO.out HS.out ((Below.refl _ _).alloc (Nat.le_refl _) _) (by simp) (by have := HL.out; simp; omega) ?_; intro v1 w1 ho hb hg hat)
  go_ret
  exact ⟨_, rfl, Kd.R_of_own (show w1.ownsRow w.heap.size 5 1 v1 l0.length (nums .u8 l0) by simpa using ho) (fun _ _ => trivial), hb⟩
def wsframe_known.f (a0 : Int) : Option (Bool) := if a0 ≤ 2 then (some true) else (if a0 ≥ 8 then (some (decide (a0 ≤ 10))) else (some false))
theorem wsframe_known.calls (a0 : Int) (r : Bool) (w : World) (h : wsframe_known.f a0 = some r) :
  Calls Tryz.prog 98 #[.int .u8 a0] w fun e w' => e = .returned (.bool r) ∧ Drawn0 w w' := by
 have hf43_0 := field43_0
 have hf87_1 := field87_1
 have H : (if a0 ≤ 2 then (some true) else (if a0 ≥ 8 then (some (decide (a0 ≤ 10))) else (some false))) = some r := h
 clear h
 by_cases c2 : a0 ≤ 2
 ·rw [if_pos c2] at H
  have c2b0 : decide (a0 ≤ 2) = true := decide_eq_true c2
  clear c2
  obtain rfl := Option.some.inj H
  go_enter Tryz.func98, Tryz.ntmps98
  go_wp2
  go_ret
  exact ⟨by first | rfl | (simp; done) | (simp [*]; done), by repeat (first | exact Drawn0.refl _ | apply Drawn0.step)⟩
 ·rw [if_neg c2] at H
  have c2b0 : decide (a0 ≤ 2) = false := decide_eq_false c2
  clear c2
  by_cases c3 : a0 ≥ 8
  ·rw [if_pos c3] at H
   have c3b0 : decide (8 ≤ a0) = true := decide_eq_true c3
   clear c3
   obtain rfl := Option.some.inj H
   go_enter Tryz.func98, Tryz.ntmps98
   go_wp2
   go_ret
   exact ⟨by first | rfl | (simp; done) | (simp [*]; done), by repeat (first | exact Drawn0.refl _ | apply Drawn0.step)⟩
  ·rw [if_neg c3] at H
   have c3b0 : decide (8 ≤ a0) = false := decide_eq_false c3
   clear c3
   obtain rfl := Option.some.inj H
   go_enter Tryz.func98, Tryz.ntmps98
   go_wp2
   go_ret
   exact ⟨by first | rfl | (simp; done) | (simp [*]; done), by repeat (first | exact Drawn0.refl _ | apply Drawn0.step)⟩
def wsframe_control.f (a0 : Int) : Option (Bool) := some (decide (a0 ≥ 8))
theorem wsframe_control.calls (a0 : Int) (r : Bool) (w : World) (h : wsframe_control.f a0 = some r) :
  Calls Tryz.prog 99 #[.int .u8 a0] w fun e w' => e = .returned (.bool r) ∧ Drawn0 w w' := by
 have hf43_0 := field43_0
 have hf87_1 := field87_1
 have H : (some (decide (a0 ≥ 8))) = some r := h
 clear h
 obtain rfl := Option.some.inj H
 go_enter Tryz.func99, Tryz.ntmps99
 go_wp2
 go_ret
 exact ⟨by first | rfl | (simp; done) | (simp [*]; done), by repeat (first | exact Drawn0.refl _ | apply Drawn0.step)⟩
def wsframe_May.j0 : Nat → Bool → Bool → Int → Bool → Int → List Int → Option (Bool)
 | 0, _, _, _, _, _, _ => none
 | k + 1, x3, x189000, x189001, x189002, x189003, x189004 => if x3 = true then (some false) else ((wsframe_control.f x189001).bind fun t190 => (if t190 = true then (if x189000 = true then (if (x189004.length : Int) > 125 then (some false) else (some true)) else (some false)) else (some true)))
def wsframe_May.f (k : Nat) (a0_0 : Bool) (a0_1 : Int) (a0_2 : Bool) (a0_3 : Int) (l0_4 : List Int) : Option (Bool) := (wsframe_known.f a0_1).bind fun t189 => (if t189 = true then (if a0_2 = true then (wsframe_May.j0 k (decide ((l0_4.length : Int) > 4096)) a0_0 a0_1 a0_2 a0_3 l0_4) else (if a0_3 = 0 then (wsframe_May.j0 k (decide ((l0_4.length : Int) > 4096)) a0_0 a0_1 a0_2 a0_3 l0_4) else (wsframe_May.j0 k (a0_3 != 0) a0_0 a0_1 a0_2 a0_3 l0_4))) else (wsframe_May.j0 k (!t189) a0_0 a0_1 a0_2 a0_3 l0_4))
theorem wsframe_May.calls (k : Nat) (a0_0 : Bool) (a0_1 : Int) (a0_2 : Bool) (a0_3 : Int) (A0_4 : Option Addr) (c0_4 : Nat) (l0_4 : List Int) (r : Bool) (w : World) (hr0_4 : Kd.C (Kd.int .u8) w A0_4 l0_4.length l0_4) (hc0_4 : l0_4.length ≤ c0_4) (h : wsframe_May.f k a0_0 a0_1 a0_2 a0_3 l0_4 = some r) :
  Calls Tryz.prog 68 #[.agg #[.bool a0_0, .int .u8 a0_1, .bool a0_2, .int .u32 a0_3, .slice A0_4 l0_4.length c0_4]] w fun e w' => e = .returned (.bool r) ∧ Below w.heap.size w w' := by
 have hf43_0 := field43_0
 have hf87_1 := field87_1
 have hu81 := Tryz.underlying81
 have HR0_4 := a_ hr0_4
 have HC0_4 := a_ hc0_4
 clear hr0_4 hc0_4
 have HB := a_ (Below.refl w.heap.size w)
 have H : ((wsframe_known.f a0_1).bind fun t189 => (if t189 = true then (if a0_2 = true then (wsframe_May.j0 k (decide ((l0_4.length : Int) > 4096)) a0_0 a0_1 a0_2 a0_3 l0_4) else (if a0_3 = 0 then (wsframe_May.j0 k (decide ((l0_4.length : Int) > 4096)) a0_0 a0_1 a0_2 a0_3 l0_4) else (wsframe_May.j0 k (a0_3 != 0) a0_0 a0_1 a0_2 a0_3 l0_4))) else (wsframe_May.j0 k (!t189) a0_0 a0_1 a0_2 a0_3 l0_4))) = some r := h
 clear h
 replace H := Option.bind_eq_some_iff.mp H
 obtain ⟨t189, A20, H⟩ := H
 try dsimp only at H
 have A2 := a_ A20
 clear A20
 have HC3 := a_ H
 clear H
 go_enter Tryz.func68, Tryz.ntmps68
 go_upto_if 3 with (first | ((with_reducible refine gate_dst (N := 1) rfl ?_); (try (refine gate_guard (by rfl) ?_; dsimp only)); refine box_event ?hg (N := 1) ?hd (cs := #[.bool a0_0, .int .u8 a0_1, .bool a0_2, .int .u32 a0_3, .slice A0_4 l0_4.length c0_4]) (t := 81) ?hr ?_; (case hd => rfl); (case hg => rfl); (case hr => first | (go_simp; done) | (go_simp; rfl)); intro gb188 hg w4 hbox hb; obtain ⟨HB, BK188, GW188, GE188⟩ := And.intro (a_ (below_step (by exact q2_ HB.out) hb)) (And.intro (a_ (hbox)) (And.intro (a_ ((by rw [hg]; exact (below_size (by exact q2_ HB.out)) : w.heap.size ≤ gb188))) (a_ ((by rw [hg]; exact (below_size (by exact q2_ HB.out)) : w.heap.size ≤ gb188))))); clear hb hbox hg; obtain ⟨hcz5_0, hfz5_0, hcz5_1, hfz5_1, hcz5_2, hfz5_2, hcz5_3, hfz5_3, hcz5_4, hfz5_4⟩ := xf5_ BK188.out) | ((with_reducible refine gate_callee (f := 98) rfl ?_); refine goesL_ (some 6) rfl rfl Tryz.func98 (by kernel_rfl) rfl #[.int .u8 a0_1] rfl (by exact q1_) ?_; (with_reducible refine (wsframe_known.calls a0_1 t189 _ A2.out).mono ?_); rintro e w' ⟨rfl, ⟨nd, rfl⟩⟩; refine ⟨_, rfl, ?_⟩))
 (try simp only [Act.put, z1_, z2_, z3_])
 go_cut [3] (fun v3 wc => ∃ (kq : Nat) (x3_2 : Bool), v3 = .bool x3_2 ∧ Aside0 (wsframe_May.j0 kq x3_2 a0_0 a0_1 a0_2 a0_3 l0_4 = some r) ∧ Aside0 (kq ≤ k) ∧ Aside0 (wc.heap[gb188]? = some (.cells #[.bool a0_0, .int .u8 a0_1, .bool a0_2, .int .u32 a0_3, (.slice A0_4 l0_4.length c0_4)] 81 (0, 0))) ∧ Aside0 (Below w.heap.size w wc))
 case first =>
  have H := HC3.out
  clear HC3
  by_cases c6 : t189 = true
  ·subst c6
   rw [if_pos rfl] at H
   by_cases c7 : a0_2 = true
   ·subst c7
    rw [if_pos rfl] at H
    have H' := a_ H
    clear H
    obtain ⟨hcz8_0, hfz8_0, hcz8_1, hfz8_1, hcz8_2, hfz8_2, hcz8_3, hfz8_3, hcz8_4, hfz8_4⟩ := xf5_ BK188.out
    go_wp2
    go_meet
    case rel => exact ⟨_, (decide ((l0_4.length : Int) > 4096)), (by first | rfl | (simp; done) | (simp [*]; done)), H', ⟨by first | omega | exact Nat.le_refl _⟩, ⟨by exact q10_ BK188.out⟩, ⟨by exact q3_ HB.out GE188.out⟩⟩
   ·replace c7 := Bool.eq_false_iff.mpr c7
    subst c7
    rw [if_neg (show ¬ (false = true) by decide)] at H
    by_cases c9 : a0_3 = 0
    ·rw [if_pos c9] at H
     have c9b0 : (a0_3 == 0) = true := beq_iff_eq.mpr c9
     have c9b1 : (a0_3 != 0) = false := bne_eq_false_iff_eq.mpr c9
     clear c9
     (first | rw [c9b0] | (simp only [i64_w, i32_w]; rw [c9b0]) | skip)
     have H' := a_ H
     clear H
     obtain ⟨hcz10_0, hfz10_0, hcz10_1, hfz10_1, hcz10_2, hfz10_2, hcz10_3, hfz10_3, hcz10_4, hfz10_4⟩ := xf5_ BK188.out
     go_wp2
     go_meet
     case rel => exact ⟨_, (decide ((l0_4.length : Int) > 4096)), (by first | rfl | (simp; done) | (simp [*]; done)), H', ⟨by first | omega | exact Nat.le_refl _⟩, ⟨by exact q10_ BK188.out⟩, ⟨by exact q3_ HB.out GE188.out⟩⟩
    ·rw [if_neg c9] at H
     have c9b0 : (a0_3 == 0) = false := nb_ c9
     have c9b1 : (a0_3 != 0) = true := bne_iff_ne.mpr c9
     (first | rw [c9b0] | (simp only [i64_w, i32_w]; rw [c9b0]) | skip)
     have H' := a_ H
     clear H
     obtain ⟨hcz11_0, hfz11_0, hcz11_1, hfz11_1, hcz11_2, hfz11_2, hcz11_3, hfz11_3, hcz11_4, hfz11_4⟩ := xf5_ BK188.out
     go_wp2
     go_meet
     case rel => exact ⟨_, ((a0_3 != 0)), (by first | rfl | (simp; done) | (simp [*]; done)), H', ⟨by first | omega | exact Nat.le_refl _⟩, ⟨by exact q10_ BK188.out⟩, ⟨by exact q3_ HB.out GE188.out⟩⟩
  ·replace c6 := Bool.eq_false_iff.mpr c6
   subst c6
   rw [if_neg (show ¬ (false = true) by decide)] at H
   have H' := a_ H
   clear H
   go_wp2
   go_meet
   case rel => exact ⟨_, (!false), (by first | rfl | (simp; done) | (simp [*]; done)), H', ⟨by first | omega | exact Nat.le_refl _⟩, ⟨by exact q10_ BK188.out⟩, ⟨by exact q3_ HB.out GE188.out⟩⟩
 case rest =>
  clear HC3
  try clear c6
  try clear c7
  try clear c9
  try clear c9b0
  try clear c9b1
  try clear hcz10_0
  try clear hcz10_1
  try clear hcz10_2
  try clear hcz10_3
  try clear hcz10_4
  try clear hcz11_0
  try clear hcz11_1
  try clear hcz11_2
  try clear hcz11_3
  try clear hcz11_4
  try clear hcz5_0
  try clear hcz5_1
  try clear hcz5_2
  try clear hcz5_3
  try clear hcz5_4
  try clear hcz8_0
  try clear hcz8_1
  try clear hcz8_2
  try clear hcz8_3
  try clear hcz8_4
  try clear hfz10_0
  try clear hfz10_1
  try clear hfz10_2
  try clear hfz10_3
  try clear hfz10_4
  try clear hfz11_0
  try clear hfz11_1
  try clear hfz11_2
  try clear hfz11_3
  try clear hfz11_4
  try clear hfz5_0
  try clear hfz5_1
  try clear hfz5_2
  try clear hfz5_3
  try clear hfz5_4
  try clear hfz8_0
  try clear hfz8_1
  try clear hfz8_2
  try clear hfz8_3
  try clear hfz8_4
  obtain ⟨kq, x3_2, rfl, HA, HJ2, BK188, HB⟩ := hcut
  cases kq with
  | zero => exact absurd HA.out (by simp [wsframe_May.j0])
  | succ kj2 =>
   have H := HA.out
   clear HA
   simp only [wsframe_May.j0] at H
   by_cases c12 : x3_2 = true
   ·subst c12
    rw [if_pos rfl] at H
    obtain rfl := Option.some.inj H
    go_wp2
    go_ret
    exact ⟨by exact q12_, by exact q3_ HB.out GE188.out⟩
   ·replace c12 := Bool.eq_false_iff.mpr c12
    subst c12
    rw [if_neg (show ¬ (false = true) by decide)] at H
    replace H := Option.bind_eq_some_iff.mp H
    obtain ⟨t190, A130, H⟩ := H
    try dsimp only at H
    have A13 := a_ A130
    clear A130
    by_cases c14 : t190 = true
    ·subst c14
     rw [if_pos rfl] at H
     by_cases c15 : a0_0 = true
     ·subst c15
      rw [if_pos rfl] at H
      by_cases c16 : (l0_4.length : Int) > 125
      ·rw [if_pos c16] at H
       have c16b0 : decide (125 < (l0_4.length : Int)) = true := decide_eq_true c16
       have c16b1 : decide (125 < l0_4.length) = true := decide_eq_true (by omega)
       clear c16
       obtain rfl := Option.some.inj H
       obtain ⟨hcz17_0, hfz17_0, hcz17_1, hfz17_1, hcz17_2, hfz17_2, hcz17_3, hfz17_3, hcz17_4, hfz17_4⟩ := xf5_ BK188.out
       go_wp2_with (first | ((with_reducible refine gate_callee (f := 99) rfl ?_); refine goesL_ (some 23) rfl rfl Tryz.func99 (by kernel_rfl) rfl #[.int .u8 a0_1] rfl (by exact q1_) ?_; (with_reducible refine (wsframe_control.calls a0_1 true _ A13.out).mono ?_); rintro e w' ⟨rfl, ⟨nd, rfl⟩⟩; refine ⟨_, rfl, ?_⟩))
       go_ret
       exact ⟨by exact q12_, by exact q3_ HB.out GE188.out⟩
      ·rw [if_neg c16] at H
       have c16b0 : decide (125 < (l0_4.length : Int)) = false := decide_eq_false c16
       have c16b1 : decide (125 < l0_4.length) = false := decide_eq_false (by omega)
       clear c16
       obtain rfl := Option.some.inj H
       obtain ⟨hcz18_0, hfz18_0, hcz18_1, hfz18_1, hcz18_2, hfz18_2, hcz18_3, hfz18_3, hcz18_4, hfz18_4⟩ := xf5_ BK188.out
       go_wp2_with (first | ((with_reducible refine gate_callee (f := 99) rfl ?_); refine goesL_ (some 23) rfl rfl Tryz.func99 (by kernel_rfl) rfl #[.int .u8 a0_1] rfl (by exact q1_) ?_; (with_reducible refine (wsframe_control.calls a0_1 true _ A13.out).mono ?_); rintro e w' ⟨rfl, ⟨nd, rfl⟩⟩; refine ⟨_, rfl, ?_⟩))
       go_ret
       exact ⟨by exact q12_, by exact q3_ HB.out GE188.out⟩
     ·replace c15 := Bool.eq_false_iff.mpr c15
      subst c15
      rw [if_neg (show ¬ (false = true) by decide)] at H
      obtain rfl := Option.some.inj H
      obtain ⟨hcz19_0, hfz19_0, hcz19_1, hfz19_1, hcz19_2, hfz19_2, hcz19_3, hfz19_3, hcz19_4, hfz19_4⟩ := xf5_ BK188.out
      go_wp2_with (first | ((with_reducible refine gate_callee (f := 99) rfl ?_); refine goesL_ (some 23) rfl rfl Tryz.func99 (by kernel_rfl) rfl #[.int .u8 a0_1] rfl (by exact q1_) ?_; (with_reducible refine (wsframe_control.calls a0_1 true _ A13.out).mono ?_); rintro e w' ⟨rfl, ⟨nd, rfl⟩⟩; refine ⟨_, rfl, ?_⟩))
      go_ret
      exact ⟨by exact q12_, by exact q3_ HB.out GE188.out⟩
    ·replace c14 := Bool.eq_false_iff.mpr c14
     subst c14
     rw [if_neg (show ¬ (false = true) by decide)] at H
     obtain rfl := Option.some.inj H
     obtain ⟨hcz20_0, hfz20_0, hcz20_1, hfz20_1, hcz20_2, hfz20_2, hcz20_3, hfz20_3, hcz20_4, hfz20_4⟩ := xf5_ BK188.out
     go_wp2_with (first | ((with_reducible refine gate_callee (f := 99) rfl ?_); refine goesL_ (some 23) rfl rfl Tryz.func99 (by kernel_rfl) rfl #[.int .u8 a0_1] rfl (by exact q1_) ?_; (with_reducible refine (wsframe_control.calls a0_1 false _ A13.out).mono ?_); rintro e w' ⟨rfl, ⟨nd, rfl⟩⟩; refine ⟨_, rfl, ?_⟩))
     go_ret
     exact ⟨by exact q12_, by exact q3_ HB.out GE188.out⟩
def wsframe_key.f (a0 : Int) : Option (List Int) := some (([(a0 / 16777216) % 256, (a0 / 65536) % 256, (a0 / 256) % 256, (a0) % 256] : List Int))
theorem wsframe_key.calls (a0 : Int) (r : List Int) (w : World) (h : wsframe_key.f a0 = some r) :
  Calls Tryz.prog 69 #[.int .u32 a0] w fun e w' => ∃ v0_ : Value, e = .returned (v0_) ∧ Kd.R (Kd.int .u8) 5 w' w.heap.size (fun _ => True) v0_ r ∧ Below w.heap.size w w' := by
 have hf43_0 := field43_0
 have hf87_1 := field87_1
 have HB := a_ (Below.refl w.heap.size w)
 have H : (some (([(a0 / 16777216) % 256, (a0 / 65536) % 256, (a0 / 256) % 256, (a0) % 256] : List Int))) = some r := h
 clear h
 obtain ⟨y191, hy191⟩ : ∃ y_ : List Int, y_ = (([(a0 / 16777216) % 256, (a0 / 65536) % 256, (a0 / 256) % 256, (a0) % 256] : List Int)) := ⟨_, rfl⟩
 replace H : (some y191) = some r := by exact rq_ H hy191
 have Ny191 := a_ hy191
 clear hy191
 obtain rfl := Option.some.inj H
 go_enter Tryz.func69, Tryz.ntmps69
 go_wp2_with (first | ((with_reducible refine gate_dst (N := 14) rfl ?_); refine Kd.R_lit (Kd.int .u8) _ 5 ?hg (N := 14) ?hd (xs := ([(a0 / 16777216) % 256, (a0 / 65536) % 256, (a0 / 256) % 256, (a0) % 256] : List Int)) (inner := [.int .u8 ((a0 / 16777216) % 256), .int .u8 ((a0 / 65536) % 256), .int .u8 ((a0 / 256) % 256), .int .u8 ((a0) % 256)]) (ok := fun _ => True) (okp := fun _ => True) ?hr ?hp (fun _ hk => hk) trivial (Below.refl _ _) (Nat.le_refl _) (by simp) ?_; (case hd => rfl); (case hg => rfl); (case hr => first | (go_simp; done) | (go_simp; rfl)); (case hp => exact (Reps.one (show Kd.M (Kd.int .u8) _ _ _ ((a0 / 16777216) % 256) [.int .u8 ((a0 / 16777216) % 256)] from rfl) (Reps.one (show Kd.M (Kd.int .u8) _ _ _ ((a0 / 65536) % 256) [.int .u8 ((a0 / 65536) % 256)] from rfl) (Reps.one (show Kd.M (Kd.int .u8) _ _ _ ((a0 / 256) % 256) [.int .u8 ((a0 / 256) % 256)] from rfl) (Reps.one (show Kd.M (Kd.int .u8) _ _ _ ((a0) % 256) [.int .u8 ((a0) % 256)] from rfl) (Reps.none _ _)))))); intro v192 w2 ho3 hb hg_ hnew_; clear hg_ hnew_; (first | rw [← Ny191.out] at ho3 | (simp only [Int.reduceToNat] at ho3; rw [← Ny191.out] at ho3)); obtain ⟨HO193, HB⟩ := And.intro (a_ (Kd.R_lower ho3 (below_size (by exact q2_ HB.out)))) (a_ (below_step (by exact q2_ HB.out) hb)); clear hb ho3))
 go_ret
 exact ⟨_, by exact q12_, by (with_reducible repeat (first | apply Kd.R_alloc | apply Kd.R_drewN | apply Kd.R_drew)); exact HO193.out, by exact q2_ HB.out⟩
end Go.Proofs.YtpmeapdcjmaeiaaGreatDoor.PAll

namespace Go.Proofs.YtpmeapdcjmaeiaaGreatDoor.PAll
open Go.RowKit Go.Wa Go.Wb Go.Wc
attribute [local go_sem] max2_int min2_int max_two min_two max_three min_three max_four min_four
def wsframe_Turn.l0 : Nat → List Int → List Int → Int → Int → Option (List Int)
 | 0, _, _, _, _ => none
 | k + 1, x5, x6, x13, x14 => if x14 < x13 then (if 0 ≤ x14 then (if x14 < (x5.length : Int) then (if (x6.length : Int) = 0 then (none) else (if 0 ≤ (Int.tmod x14 (x6.length : Int)) then (if (Int.tmod x14 (x6.length : Int)) < (x6.length : Int) then (wsframe_Turn.l0 k (x5.set (x14 : Int).toNat (Go.bits .xor .u8 (rd x5 x14) (rd x6 (Int.tmod x14 (x6.length : Int))))) x6 x13 (wrap64 (x14 + 1))) else (none)) else (none))) else (none)) else (none)) else (some x5)
def wsframe_Turn.f (k : Nat) (l0 : List Int) (a1 : Int) : Option (List Int) := (bytes_Clone.f l0).bind fun t194 => ((wsframe_key.f a1).bind fun t197 => (wsframe_Turn.l0 k t194 t197 (t194.length : Int) 0))
def wsframe_Turn.T6 : Bool × List (List Nat × List Nat) := (true, [([], []), ([], []), ([0, 1], [0, 1]), ([2], [2]), ([], []), ([], []), ([], []), ([6], [6]), ([5, 7], [5, 7]), ([4, 8], [4, 8]), ([9], [9]), ([3, 10], [3, 10]), ([0, 1, 0, 1, 2, 3, 4, 5, 6, 7, 8, 9, 10, 11], [0, 1]), ([12, 11, 0, 1, 2, 3, 4, 5, 6, 7, 8, 9, 10, 11], [11, 12])])
def wsframe_Turn.B6 : List Nat := [0, 0, 3, 7, 0, 0, 0, 64, 224, 496, 1008, 2047, 4095, 8191]
theorem wsframe_Turn.tab6 : rtab .any (opsOf Tryz.f70 6) = wsframe_Turn.T6 := by kernel_rfl
theorem wsframe_Turn.bits6 : waitsOk wsframe_Turn.T6.2 wsframe_Turn.B6 = true := by kernel_rfl
theorem _root_.Go.pureP (i : Nat) (n : Tmp) {P : Program} {md : Region.Mode} {ops : Array Oper} {Q : Exit → Act → World → Prop} {S : World → Prop} {ds : List Nat} {oi : Oper} {v : Value} {fuel : Nat} {l : Array Bool} {a a' : Act} {w : World} (h : wpAnyLast P md ops Q S ds fuel (l.setIfInBounds i true) a' w) (hi : ops[i]? = some oi := by rfl) (hN : oi.dst = some n := by rfl) (hc : anyB md ops l (l.setIfInBounds i true) i = true := by kernel_rfl)
  (hQ : ∀ c a w, Q (.panic c) (a.put oi.dst v) w → Q (.panic c) a w := by exact fun _ _ _ h => h) (hy : Yields P ops oi v a := by (refine Or.inl ⟨by rfl, ?_⟩; intro w'; go_simp; first | done | with_reducible rfl)) (ha : a.put (some n) v = a' := by (simp only [Act.put, z1_, z2_, z3_, i64_w, i32_w]; rfl)) : wpAnyLast P md ops Q S ds (fuel + 1) l a w := pure_ (l.setIfInBounds i true) hi hN hc hQ hy ha h
theorem wsframe_Turn.calls (k : Nat) (A0 : Option Addr) (c0 : Nat) (l0 : List Int) (a1 : Int) (r : List Int) (w : World) (hr0 : Kd.C (Kd.int .u8) w A0 l0.length l0) (hc0 : l0.length ≤ c0) (h : wsframe_Turn.f k l0 a1 = some r) :
  Calls Tryz.prog 70 #[.slice A0 l0.length c0, .int .u32 a1] w fun e w' => ∃ v0_ : Value, e = .returned (v0_) ∧ Kd.R (Kd.int .u8) 5 w' w.heap.size (fun _ => True) v0_ r ∧ Below w.heap.size w w' := by
 have hf43_0 := field43_0
 have hf87_1 := field87_1
 have HR0 := a_ hr0
 have HC0 := a_ hc0
 clear hr0 hc0
 have HB := a_ (Below.refl w.heap.size w)
 have H : ((bytes_Clone.f l0).bind fun t194 => ((wsframe_key.f a1).bind fun t197 => (wsframe_Turn.l0 k t194 t197 (t194.length : Int) 0))) = some r := h
 clear h
 replace H := Option.bind_eq_some_iff.mp H
 obtain ⟨t194, A30, H⟩ := H
 try dsimp only at H
 have A3 := a_ A30
 clear A30
 replace H := Option.bind_eq_some_iff.mp H
 obtain ⟨t197, A40, H⟩ := H
 try dsimp only at H
 have A4 := a_ A40
 clear A40
 have H' := a_ H
 clear H
 go_enter Tryz.func70, Tryz.ntmps70
 go_wp2_with (first | ((with_reducible refine gate_callee (f := 67) rfl ?_); refine goesL_ (some 9) rfl rfl Tryz.func67 (by kernel_rfl) rfl #[.slice A0 l0.length c0] rfl (by exact q1_) ?_; (with_reducible refine (bytes_Clone.calls _ _ l0 t194 _ ?side1 ?side2 A3.out).mono ?_); (case side1 => repeat (first | exact HR0.out | (with_reducible refine Kd.C_alloc ?_ _) | (with_reducible refine Kd.C_drewN ?_ _) | (with_reducible refine Kd.C_drew ?_))); (case side2 => exact HC0.out); rintro e w5 ⟨v195, rfl, ho0, hb⟩; refine ⟨_, rfl, ?_⟩; obtain ⟨HO196, HB⟩ := And.intro (a_ (Kd.R_lower ho0 (below_size (by exact q2_ HB.out)))) (a_ (below_step (by exact q2_ HB.out) hb)); (try clear hb); (try clear hb2); (try clear hk); (try clear hi); (try clear ho0)) | ((with_reducible refine gate_callee (f := 69) rfl ?_); refine goesL_ (some 11) rfl rfl Tryz.func69 (by kernel_rfl) rfl #[.int .u32 a1] rfl (by exact q1_) ?_; (with_reducible refine (wsframe_key.calls a1 t197 _ A4.out).mono ?_); rintro e w6 ⟨v198, rfl, ho0, hb⟩; refine ⟨_, rfl, ?_⟩; obtain ⟨HO196, HO199, HB⟩ := And.intro (a_ (Kd.R_elder' (by exact q11_ HO196.out) (Kd.R_base ho0) hb)) (And.intro (a_ (Kd.R_lower (Kd.R_new' ho0 (Kd.R_lt (by exact q11_ HO196.out))) (below_size (by exact q2_ HB.out)))) (a_ (below_step (by exact q2_ HB.out) hb))); (try clear hb); (try clear hb2); (try clear hk); (try clear hi); (try clear ho0); obtain ⟨Ao7, co7, eo7⟩ := Kd.R_slice HO196.out; subst eo7))
 go_loopg [14] k (fun kq v14 w' => ∃ (x5_1 : List Int) (x14_1 : Int), v14 = .int .i64 x14_1 ∧ Aside0 (wsframe_Turn.l0 kq x5_1 t197 (t194.length : Int) x14_1 = some r) ∧ Aside0 (kq ≤ k) ∧ Aside0 (Kd.R (Kd.int .u8) 5 w' w.heap.size (fun k_ => some k_ ≠ (v198 : Value).ownBlock) (.slice Ao7 t194.length co7) x5_1) ∧ Aside0 (Kd.R (Kd.int .u8) 5 w' w.heap.size (fun k_ => some k_ ≠ ((.slice Ao7 t194.length co7) : Value).ownBlock) v198 t197) ∧ Aside0 (Below w.heap.size w w'))
 case atStart => exact ⟨(t194), (0), (by first | rfl | (simp; done) | (simp [*]; done)), H', ⟨Nat.le_refl _⟩, ⟨by (with_reducible repeat (first | apply Kd.R_alloc | apply Kd.R_drewN | apply Kd.R_drew)); exact Kd.R_mono HO196.out (fun _ hk => hk.2)⟩, ⟨by (with_reducible repeat (first | apply Kd.R_alloc | apply Kd.R_drewN | apply Kd.R_drew)); exact Kd.R_mono HO199.out (fun _ hk => hk.2)⟩, ⟨by exact q2_ HB.out⟩⟩
 case round =>
  clear H'
  obtain ⟨x5_1, x14_1, rfl, HA, HK1, HO_5, HO_6, HB⟩ := hrel
  have hl5_1 := (Kd.R_reads' HO_5.out).1
  rw [hl5_1] at HO_5
  (try simp only [hl5_1])
  (try simp only [hl5_1] at HO_6)
  cases gk with
  | zero => exact absurd HA.out (by simp [wsframe_Turn.l0])
  | succ k1 =>
   have H := HA.out
   clear HA
   simp only [wsframe_Turn.l0] at H
   by_cases c8 : x14_1 < (t194.length : Int)
   ·rw [if_pos c8] at H
    have c8b0 : decide (x14_1 < (t194.length : Int)) = true := decide_eq_true c8
    have c8b0q := c8b0; (try simp only [hl5_1] at c8b0q)
    clear c8
    by_cases c9 : 0 ≤ x14_1
    ·rw [if_pos c9] at H
     have c9b0 : decide (0 ≤ x14_1) = true := decide_eq_true c9
     clear c9
     by_cases c10 : x14_1 < (x5_1.length : Int)
     ·rw [if_pos c10] at H
      have c10b0 : decide (x14_1 < (x5_1.length : Int)) = true := decide_eq_true c10
      have c10b0q := c10b0; (try simp only [hl5_1] at c10b0q)
      clear c10
      by_cases c11 : (t197.length : Int) = 0
      ·rw [if_pos c11] at H
       exact absurd H (by simp)
      ·rw [if_neg c11] at H
       have c11b0 : ((t197.length : Int) == 0) = false := nb_ c11
       have c11b1 : ((t197.length : Int) != 0) = true := bne_iff_ne.mpr c11
       have c11b2 : ¬ (t197 = []) := fun h_ => c11 (by rw [h_]; rfl)
       obtain ⟨ji12, hji12⟩ : ∃ j_ : Int, (Int.tmod x14_1 (t197.length : Int)) = j_ := ⟨_, rfl⟩
       replace H : (if 0 ≤ (ji12) then (if (ji12) < (t197.length : Int) then (wsframe_Turn.l0 k1 (x5_1.set (x14_1 : Int).toNat (Go.bits .xor .u8 (rd x5_1 x14_1) (rd t197 (ji12)))) t197 (t194.length : Int) (wrap64 (x14_1 + 1))) else (none)) else (none)) = some r := by first | (rw [hji12] at H; exact H) | (simp only [hji12] at H ⊢; exact H)
       by_cases c13 : 0 ≤ (ji12)
       ·rw [if_pos c13] at H
        have c13b0 : decide (0 ≤ (ji12)) = true := decide_eq_true c13
        clear c13
        by_cases c14 : (ji12) < (t197.length : Int)
        ·rw [if_pos c14] at H
         have c14b0 : decide ((ji12) < (t197.length : Int)) = true := decide_eq_true c14
         have c14b0q := c14b0; (try simp only [hl5_1] at c14b0q)
         clear c14
         obtain ⟨y202, hy202⟩ : ∃ y_ : List Int, y_ = (x5_1.set (x14_1 : Int).toNat (Go.bits .xor .u8 (rd x5_1 x14_1) (rd t197 (ji12)))) := ⟨_, rfl⟩
         replace H : (wsframe_Turn.l0 k1 y202 t197 (t194.length : Int) (wrap64 (x14_1 + 1))) = some r := by exact rq_ H hy202
         have Ny202 := a_ hy202
         clear hy202
         have H' := a_ H
         clear H
         try go_wp2
         have n0_ := a_ (Kd.R_drew HO_5.out)
         have n1_ := a_ (Kd.R_drew HO_6.out)
         have n2_ := a_ (below_drew1 HB.out)
         clear HO_5
         clear HO_6
         clear HB
         have HO_5 := n0_
         have HO_6 := n1_
         have HB := n2_
         clear n0_ n1_ n2_
         have p200 : 0 ≤ (x14_1 : Int) := of_decide_eq_true (by assumption)
         have q200 : x14_1 < (x5_1.length : Int) := of_decide_eq_true (by assumption)
         obtain ⟨ad200, e200, hx200_0⟩ := Kd.at_int (Kd.R_reads' HO_5.out).2.2 x14_1 p200 q200
         cases e200
         replace p200 := eq_true p200
         replace q200 := eq_true q200
         obtain ⟨Ao17, co17, eo17⟩ := Kd.R_slice HO_6.out
         (first | subst eo17 | (injection eo17 with f1_ f2_ f3_; have f4_ := f1_.symm; have f5_ := f3_.symm; clear f1_ f2_ f3_; subst f4_; subst f5_))
         have p201 : 0 ≤ ((ji12) : Int) := of_decide_eq_true (by assumption)
         have q201 : (ji12) < (t197.length : Int) := of_decide_eq_true (by assumption)
         obtain ⟨ad201, e201, hx201_0⟩ := Kd.at_int (Kd.R_reads' HO_6.out).2.2 (ji12) p201 q201
         cases e201
         replace p201 := eq_true p201
         replace q201 := eq_true q201
         have p15 : 0 ≤ (x14_1 : Int) := of_decide_eq_true (by assumption)
         have q15 : (x14_1 : Int) < ((x5_1.length : Int) : Int) := of_decide_eq_true (by assumption)
         obtain ⟨go15, co15, eo15, gb15, gl15, cl15, HG15⟩ := Kd.R_form HO_5.out (by omega)
         (first | cases eo15 | (injection eo15 with ea_ en_ ec_; (first | subst ea_ | (injection ea_ with ea_; subst ea_)); subst ec_; clear en_))
         have GB15 := a_ gb15
         have GG15 := a_ HG15
         clear gb15 gl15 HG15
         (first | simp only [add_plain] at hx200_0 | skip)
         obtain ⟨hx15_0, hf15_0⟩ := Kd.R_celln 0 HO_5.out (x14_1 : Int) p15 q15
         replace p15 := eq_true p15
         replace q15 := eq_true q15
         have HP18 := Kd.R_putn HO_5.out (x14_1 : Int) (Go.bits .xor .u8 (rd x5_1 x14_1) (rd t197 (ji12)))
         rw [← Ny202.out] at HP18
         have HQ18 := a_ HP18
         clear HP18
         refine start_ (n := 14) (S := fun w' => w'.cell? ⟨go15, (x14_1).toNat, none⟩ = some (.int .u8 (rd x5_1 x14_1)) ∧ w'.cell? (ad201.add ((ji12)).toNat) = some (.int .u8 (rd t197 (ji12)))) (ds := [13]) #[false, false, false, false, false, false, false, false, false, false, false, false, false, false] (by kernel_rfl) rfl rfl ⟨hx200_0, hx201_0⟩ (fun hHeld => ?_); refine with_tabW wsframe_Turn.tab6 wsframe_Turn.bits6 (fun HT_ HW_ => ?_)
         generalize wr.drew = w16 at HO_5 HO_6 HB GG15 HQ18 hf15_0 hx15_0 hx200_0 hx201_0 hHeld ⊢
         refine pureP 0 17 ?_ (hc := (any_of HT_.out (by kernel_rfl)))
         refine pureP 1 18 ?_ (hc := (any_of HT_.out (by kernel_rfl)))
         refine pureP 2 19 ?_ (hc := (any_of HT_.out (by kernel_rfl)))
         refine pureP 4 21 ?_ (hc := (any_of HT_.out (by kernel_rfl)))
         refine pureP 5 22 ?_ (hc := (any_of HT_.out (by kernel_rfl)))
         refine pureP 6 23 ?_ (hc := (any_of HT_.out (by kernel_rfl)))
         refine pureP 7 24 ?_ (hc := (any_of HT_.out (by kernel_rfl)))
         refine pureP 8 25 ?_ (hc := (any_of HT_.out (by kernel_rfl)))
         refine pureP 9 26 ?_ (hc := (any_of HT_.out (by kernel_rfl)))
         refine take_ (i := 3) (N := some 20) (v := ?_) (a' := ?_) #[true, true, true, true, true, true, true, true, true, true, false, false, false, false] rfl rfl (take_ofW HT_.out HW_.out (by kernel_rfl)) (fun _ _ _ h => h) (Or.inl ⟨by rfl, ?_⟩) hHeld ?_ ?_
         rotate_left
         ·rintro w' ⟨s0, s1⟩
          go_simp
          with_reducible rfl
         rotate_left
         ·simp only [Act.put, z1_, z2_, z3_, i64_w, i32_w]
          rfl
         refine take_ (i := 10) (N := some 27) (v := ?_) (a' := ?_) #[true, true, true, true, true, true, true, true, true, true, true, false, false, false] rfl rfl (take_ofW HT_.out HW_.out (by kernel_rfl)) (fun _ _ _ h => h) (Or.inl ⟨by rfl, ?_⟩) hHeld ?_ ?_
         rotate_left
         ·rintro w' ⟨s0, s1⟩
          go_simp
          with_reducible rfl
         rotate_left
         ·simp only [Act.put, z1_, z2_, z3_, i64_w, i32_w]
          rfl
         refine pureP 11 28 ?_ (hc := (any_of HT_.out (by kernel_rfl)))
         refine pureP 12 29 ?_ (hc := (any_of HT_.out (by kernel_rfl)))
         refine last_ (i := 13) (N := none) #[true, true, true, true, true, true, true, true, true, true, true, true, true, true] rfl rfl (one_of HT_.out (by kernel_rfl)) (by decide) (fun K hK => ?_)
         refine skip_ (w1 := ?_) (by rfl) rfl ?_ ?_
         rotate_left
         ·go_simp
          rfl
         refine hK.out _ _ ?_
         clear hK K
         refine done_ (done_of HT_.out (by kernel_rfl)) ?_
         try go_wp2
         (try simp only [← hl5_1])
         go_roundg k1
         case measure => have := HK1.out; omega
         case rel => exact ⟨(y202), (wrap64 (x14_1 + 1)), (by first | rfl | (simp; done) | (simp [*]; done)), H', ⟨by have := HK1.out; omega⟩, ⟨by (try simp only [hl5_1]); exact q11_ HQ18.out⟩, ⟨by (try simp only [hl5_1]); (with_reducible repeat (first | apply Kd.R_alloc | apply Kd.R_drewN | apply Kd.R_drew)); exact Kd.R_mono (Kd.R_far (p := ⟨go15, (x14_1 : Int).toNat, none⟩) (Kd.R_mono HO_6.out (fun k_ hk => (⟨hk, fun e_ => hk (by rw [e_]; rfl)⟩ : _ ∧ k_ ≠ go15))) (fun _ hk => hk.2) (.int .u8 (Go.bits .xor .u8 (rd x5_1 x14_1) (rd t197 (ji12))))) (fun _ hk => hk.1)⟩, ⟨by exact q3_ HB.out GB15.out⟩⟩
        ·rw [if_neg c14] at H
         exact absurd H (by simp)
       ·rw [if_neg c13] at H
        exact absurd H (by simp)
     ·rw [if_neg c10] at H
      exact absurd H (by simp)
    ·rw [if_neg c9] at H
     exact absurd H (by simp)
   ·rw [if_neg c8] at H
    have c8b0 : decide (x14_1 < (t194.length : Int)) = false := decide_eq_false c8
    have c8b0q := c8b0; (try simp only [hl5_1] at c8b0q)
    clear c8
    obtain rfl := Option.some.inj H
    go_wp2
    go_ret
    exact ⟨_, by exact q12_, by (with_reducible repeat (first | apply Kd.R_alloc | apply Kd.R_drewN | apply Kd.R_drew)); exact Kd.R_mono HO_5.out (fun _ hk => trivial), by exact q2_ HB.out⟩
end Go.Proofs.YtpmeapdcjmaeiaaGreatDoor.PAll

namespace Go.Proofs.YtpmeapdcjmaeiaaGreatDoor.PAll
open Go.RowKit Go.Wa Go.Wb Go.Wc
attribute [local go_sem] max2_int min2_int max_two min_two max_three min_three max_four min_four
def wsframe_Head.f (l0 : List Int) (a1 : Bool) : Option (Int × Int × Int × Bool) := if l0.all isByte = true then some (HeadF l0 a1) else none
theorem wsframe_Head.calls (A0 : Option Addr) (c0 : Nat) (l0 : List Int) (a1 : Bool) (r1 : Int) (r2 : Int) (r3 : Int) (r4 : Bool) (w : World) (hr0 : Kd.C (Kd.int .u8) w A0 l0.length l0) (hc0 : l0.length ≤ c0) (h : wsframe_Head.f l0 a1 = some (r1, r2, r3, r4)) (hg : Cond w := by first | assumption | exact cond_of (by assumption) (by assumption) | exact Cond.below (Aside0.out (by assumption)) (by repeat (first | (with_reducible first | exact Aside0.out (by assumption) | apply below_alloc | apply pw_below_drewN | apply below_drew1 | refine below_set ?_ (Aside0.out (by assumption))) | exact Aside0.out (by assumption))) | (repeat (first | (with_reducible refine Cond.alloc ?_ _) | (with_reducible refine Cond.drewN ?_ _) | (with_reducible refine Cond.drew ?_) | exact cond_of (by assumption) (by assumption) | exact Aside0.out (by assumption)))) :
  Calls Tryz.prog 72 #[.slice A0 l0.length c0, .bool a1] w fun e w' => e = .returned (.tuple #[.int .i64 r1, .agg #[.int .u8 r2, .int .u32 r3], .bool r4]) ∧ Below w.heap.size w w' := by
 have hf43_0 := field43_0
 have hf87_1 := field87_1
 unfold wsframe_Head.f at h
 by_cases hl : l0.all isByte = true
 ·rw [if_pos hl] at h
  have h := Option.some.inj h
  have := Head_any hl a1 hr0 hc0 hg
  rw [h] at this
  exact this
 ·rw [if_neg hl] at h; cases h
def wsframe_Get.f (k : Nat) (l0 : List Int) (a1 : Bool) : Option (Bool × Int × Bool × Int × List Int × Int × Int) :=
 if l0.all isByte = true then (if getBad l0 a1 = 0 then ((if a1 = true then wsframe_Turn.f k (rawOf l0 a1) (keyIn l0 a1) else some (rawOf l0 a1)).bind fun r => if ((rawOf l0 a1).length : Int) ≤ 140737488355328 then some (decide (128 ≤ rd l0 0), rd l0 0 % 16, a1, keyIn l0 a1, r, 0, 0) else none) else some (false, 0, false, 0, [], 3, getBad l0 a1)) else none
theorem wsframe_Get.calls (k : Nat) (A0 : Option Addr) (c0 : Nat) (l0 : List Int) (a1 : Bool) (r1 : Bool) (r2 : Int) (r3 : Bool) (r4 : Int) (r5 : List Int) (r6 : Int) (r7 : Int) (w : World) (hr0 : Kd.C (Kd.int .u8) w A0 l0.length l0) (hc0 : l0.length ≤ c0) (h : wsframe_Get.f k l0 a1 = some (r1, r2, r3, r4, r5, r6, r7)) (hg : Cond w := by first | assumption | exact cond_of (by assumption) (by assumption) | exact Cond.below (Aside0.out (by assumption)) (by repeat (first | (with_reducible first | exact Aside0.out (by assumption) | apply below_alloc | apply pw_below_drewN | apply below_drew1 | refine below_set ?_ (Aside0.out (by assumption))) | exact Aside0.out (by assumption))) | (repeat (first | (with_reducible refine Cond.alloc ?_ _) | (with_reducible refine Cond.drewN ?_ _) | (with_reducible refine Cond.drew ?_) | exact cond_of (by assumption) (by assumption) | exact Aside0.out (by assumption)))) :
  Calls Tryz.prog 73 #[.slice A0 l0.length c0, .bool a1] w fun e w' => ∃ v4_ : Value, e = .returned (.tuple #[.agg #[.bool r1, .int .u8 r2, .bool r3, .int .u32 r4, v4_], .agg #[.int .u8 r6, .int .u32 r7]]) ∧ Kd.R (Kd.int .u8) 5 w' w.heap.size (fun _ => True) v4_ r5 ∧ Below w.heap.size w w' := by
 have hf43_0 := field43_0
 have hf87_1 := field87_1
 unfold wsframe_Get.f at h
 by_cases hl : l0.all isByte = true
 ·rw [if_pos hl] at h
  by_cases hb : getBad l0 a1 = 0
  ·rw [if_pos hb] at h
   obtain ⟨r, hr, h⟩ := Option.bind_eq_some_iff.mp h
   by_cases hn : ((rawOf l0 a1).length : Int) ≤ 140737488355328
   ·rw [if_pos hn] at h
    have h := Option.some.inj h
    simp only [Prod.mk.injEq] at h
    obtain ⟨rfl, rfl, rfl, rfl, rfl, rfl, rfl⟩ := h
    have hcl : CloneTo (rawOf l0 a1) := fun A c W hC hc => bytes_Clone.calls A c _ _ W hC hc (by unfold bytes_Clone.f; rw [if_pos hn])
    refine Get_fine hl a1 hr0 hc0 hg hb hcl r ?_
    cases a1 with
    | false => rw [if_neg (by decide)] at hr; exact .inl ⟨rfl, (Option.some.inj hr).symm⟩
    | true => rw [if_pos rfl] at hr; exact .inr ⟨rfl, fun A c W hC hc => wsframe_Turn.calls k A c _ _ r W hC hc hr⟩
   ·rw [if_neg hn] at h; cases h
  ·rw [if_neg hb] at h
   have h := Option.some.inj h
   simp only [Prod.mk.injEq] at h
   obtain ⟨rfl, rfl, rfl, rfl, rfl, rfl, rfl⟩ := h
   exact Get_fault hl a1 hr0 hc0 hg hb
 ·rw [if_neg hl] at h; cases h
def toldRow : Array Value := #[.int .u32 1000, .int .u32 1003, .int .u32 1007, .int .u32 1014, .int .u32 3000, .int .u32 4999]
def toldLo : Nat → Int
 | 0 => 1000
 | 1 => 1007
 | _ => 3000
def toldHi : Nat → Int
 | 0 => 1003
 | 1 => 1014
 | _ => 4999
def toldB (n : Int) : Bool := (decide (1000 ≤ n) && decide (n ≤ 1003)) || (decide (1007 ≤ n) && decide (n ≤ 1014)) || (decide (3000 ≤ n) && decide (n ≤ 4999))
def Amongs (n : Int) (g : Nat) (w : World) (i : Value) (wr : World) : Prop :=
 ∃ j : Nat, i = .int .i64 (j : Int) ∧ j ≤ 3 ∧ (∀ k, k < j → ¬ (toldLo k ≤ n ∧ n ≤ toldHi k)) ∧ Below w.heap.size w wr
theorem row_cell {w : World} {g : Nat} (h : w.heap[g]? = some (.cells toldRow 204 (0, 0))) (j : Nat) (hj : j < 3) : w.cell? ⟨g, j * 2, none⟩ = some (.int .u32 (toldLo j)) ∧ w.cell? ⟨g, j * 2 + 1, none⟩ = some (.int .u32 (toldHi j)) := by
 refine ⟨(blk_cell h _).trans ?_, (blk_cell h _).trans ?_⟩ <;> (have h3 : j = 0 ∨ j = 1 ∨ j = 2 := by omega) <;> rcases h3 with rfl | rfl | rfl <;> rfl
theorem told_true {n : Int} {j : Nat} (hj : j < 3) (h1 : toldLo j ≤ n) (h2 : n ≤ toldHi j) : toldB n = true := by
 have h3 : j = 0 ∨ j = 1 ∨ j = 2 := by omega
 rcases h3 with rfl | rfl | rfl <;> simp only [toldLo, toldHi] at h1 h2 <;> simp [toldB, h1, h2]
theorem told_false {n : Int} (h : ∀ k, k < 3 → ¬ (toldLo k ≤ n ∧ n ≤ toldHi k)) : toldB n = false := by
 have h0 := h 0 (by omega)
 have h1 := h 1 (by omega)
 have h2 := h 2 (by omega)
 simp only [toldLo, toldHi] at h0 h1 h2
 simp [toldB]
 omega
theorem among_any (n : Int) (g : Nat) (w : World) (hb : w.heap[g]? = some (.cells toldRow 204 (0, 0))) :
  Calls Tryz.prog 129 #[.int .u32 n, .slice (some ⟨g, 0, none⟩) 3 3] w fun e w' => e = .returned (.bool (toldB n)) ∧ Below w.heap.size w w' := by
 have HG := a_ hb
 clear hb
 have huTa9 := Tryz.underlying204
 have huTa11 := Tryz.underlying218
 have huTu6 := Tryz.underlying35
 go_enter Tryz.func129, Tryz.ntmps129
 go_wp2_with fail
 go_loopw [9] (fun i wr => Amongs n g w i wr) (fun i _ => 3 - (intOf i).toNat)
 case atStart => exact ⟨0, rfl, by omega, fun k hk => by omega, Below.refl _ _⟩
 case round =>
  obtain ⟨j, rfl, hj, hno, hB⟩ := hrel
  have HN := a_ hno
  have HB := a_ hB
  clear hno hB
  by_cases hlt : j < 3
  ·obtain ⟨hc0, hc1⟩ := row_cell (blk_below HG.out HB.out) j hlt
   have hgl : g < wr.heap.size := blk_lt (blk_below HG.out HB.out)
   have hnext : ∀ W, Below w.heap.size w W → ¬ (toldLo j ≤ n ∧ n ≤ toldHi j) → Amongs n g w (.int .i64 ((j : Int) + 1)) W ∧ 3 - (intOf (.int .i64 ((j : Int) + 1))).toNat < 3 - (intOf (.int .i64 (j : Int))).toNat := fun W hW hn =>
    ⟨⟨j + 1, by go_num, by omega, fun k hk => by
     rcases Nat.lt_or_ge k j with h | h
     ·exact HN.out k h
     ·obtain rfl : k = j := by omega
      exact hn, hW⟩, by simp [intOf]; omega⟩
   have HX := a_ hnext
   clear hnext
   go_wp2_with fail
   ·go_ret
    refine ⟨?_, below_alloc HB.out _⟩
    rename_i h1 h2
    rw [told_true hlt h1 h2]
    rfl
   ·rename_i h1 h2
    exact HX.out _ (below_alloc HB.out _) (fun h => by omega)
   ·rename_i h1
    exact HX.out _ (below_alloc HB.out _) (fun h => h1 h.1)
  ·obtain rfl : j = 3 := by omega
   go_wp2_with fail
   go_ret
   refine ⟨?_, HB.out⟩
   rw [told_false HN.out]
   rfl
theorem told_any (n : Int) (w : World) : Calls Tryz.prog 119 #[.int .u32 n] w fun e w' => e = .returned (.bool (toldB n)) ∧ Below w.heap.size w w' := by
 have huTa9 := Tryz.underlying204
 have huTa11 := Tryz.underlying218
 go_enter Tryz.func119, Tryz.ntmps119
 go_wp2_with fail
 refine (among_any n w.heap.size _ (heap_alloc_new _ _)).mono ?_
 rintro e w1 ⟨rfl, hb⟩
 go_wp2_with fail
 go_ret
 exact ⟨rfl, below_step (below_alloc (Below.refl _ _) _) hb⟩
def message_Told.f (a0 : Int) : Option Bool := some (toldB a0)
theorem message_Told.calls (a0 : Int) (r : Bool) (w : World) (h : message_Told.f a0 = some r) : Calls Tryz.prog 119 #[.int .u32 a0] w fun e w' => e = .returned (.bool r) ∧ Below w.heap.size w w' := by
 have hf43_0 := field43_0
 have hf87_1 := field87_1
 obtain rfl := Option.some.inj h
 exact told_any a0 w
def message_whole.l0 : Nat → ByteArray → Int → Option ByteArray
 | 0, _, _ => none
 | k + 1, s, n => if 0 < n then (if n ≤ (s.size : Int) then ((utf_Valid.f k (bytesOf (s.extract 0 n.toNat))).bind fun t => if t = true then some (s.extract 0 n.toNat) else message_whole.l0 k s (n - 1)) else none) else some ByteArray.empty
def message_whole.f (k : Nat) (a0 : ByteArray) (a1 : Int) : Option ByteArray :=
 if (a0.size : Int) ≤ 9223372036854775807 then ((utf_Valid.f k (bytesOf a0)).bind fun t => if t = true then message_whole.l0 k a0 (min (a0.size : Int) a1) else some ByteArray.empty) else none
attribute [local go_sem] max2_int min2_int max_two min_two max_three min_three max_four min_four
def Wholes (a0 r : ByteArray) (w : World) (i : Value) (wr : World) : Prop :=
 ∃ (n : Int) (kk : Nat), i = .int .i64 n ∧ n ≤ (a0.size : Int) ∧ message_whole.l0 kk a0 n = some r ∧ Below w.heap.size w wr
theorem message_whole.calls (k : Nat) (a0 : ByteArray) (a1 : Int) (r : ByteArray) (w : World) (h : message_whole.f k a0 a1 = some r) :
  Calls Tryz.prog 125 #[.string a0, .int .i64 a1] w fun e w' => e = .returned (.string r) ∧ Below w.heap.size w w' := by
 have hf43_0 := field43_0
 have hf87_1 := field87_1
 unfold message_whole.f at h
 have hsz : (a0.size : Int) ≤ 9223372036854775807 := by
  by_cases hb : (a0.size : Int) ≤ 9223372036854775807
  ·exact hb
  ·rw [if_neg hb] at h; cases h
 rw [if_pos hsz] at h
 obtain ⟨t, hv, h⟩ := Option.bind_eq_some_iff.mp h
 have HV := a_ hv
 have H := a_ h
 clear hv h
 have kb := fun (s : ByteArray) (W : World) => print_bytes (P := Tryz.prog) 9 27 5 Tryz.underlying9 Tryz.underlying27 Tryz.underlying5 s W
 go_enter Tryz.func125, Tryz.ntmps125
 go_wp2_with fail
 have hc0 : (Kd.int .u8).C (Lib.bytesWorld w 5 a0) (some ⟨w.heap.size, 0, none⟩) (bytesOf a0).length (bytesOf a0) := by
  have := Kd.C_of_reads (d := (0 : Int)) (h1 := fun _ => rfl) (bytes_reads w 5 a0 (by omega))
  rw [bytesOf_length]
  exact this
 refine (calls_of_args (by rw [bytesOf_length]) (utf_Valid.calls k _ _ (bytesOf a0) t _ hc0 (by rw [bytesOf_length]; exact grownCap_ge _ _ _ _) HV.out)).mono ?_
 rintro e w1 ⟨rfl, hb⟩
 have HB := a_ (below_step (bytes_below (Below.refl _ _) (Nat.le_refl _) 5 a0) hb)
 clear hb
 cases t with
 | false =>
  have hr : r = ByteArray.empty := by simpa using H.out.symm
  subst hr
  go_wp2_with fail
  go_ret
  exact ⟨rfl, HB.out⟩
 | true =>
  have H2 : message_whole.l0 k a0 (min (a0.size : Int) a1) = some r := by simpa using H.out
  have HK := a_ H2
  clear H2 H
  have hmin : min (a0.size : Int) a1 ≤ (a0.size : Int) := Int.min_le_left _ _
  go_wp2_with fail
  all_goals
   go_loopw [5] (fun i wr => Wholes a0 r w i wr) (fun i _ => (intOf i).toNat)
   case atStart => exact ⟨_, k, rfl, by omega, by (have hk := HK.out); (first | rw [Int.min_eq_left (by omega)] at hk | rw [Int.min_eq_right (by omega)] at hk); exact hk, HB.out⟩
   case round =>
    obtain ⟨n, kk, rfl, hn, hl, hB⟩ := hrel
    cases kk with
    | zero => unfold message_whole.l0 at hl; cases hl
    | succ kk =>
     unfold message_whole.l0 at hl
     clear HB
     have HB := a_ hB
     clear hB
     by_cases hpos : 0 < n
     ·rw [if_pos hpos, if_pos hn] at hl
      obtain ⟨t, hv, hl⟩ := Option.bind_eq_some_iff.mp hl
      have HV2 := a_ hv
      have HL := a_ hl
      clear hv hl
      have hxs : (a0.extract 0 n.toNat).size = n.toNat := by rw [ByteArray.size_extract]; omega
      have hc2 : (Kd.int .u8).C (Lib.bytesWorld wr 5 (a0.extract 0 n.toNat)) (some ⟨wr.heap.size, 0, none⟩) (bytesOf (a0.extract 0 n.toNat)).length (bytesOf (a0.extract 0 n.toNat)) := by
       have := Kd.C_of_reads (d := (0 : Int)) (h1 := fun _ => rfl) (bytes_reads wr 5 (a0.extract 0 n.toNat) (by omega))
       rw [bytesOf_length]
       exact this
      have hlen : (bytesOf (a0.extract 0 n.toNat)).length = n.toNat := by rw [bytesOf_length, hxs]
      have HX := a_ hxs
      have HC2 := a_ hc2
      have HLN := a_ hlen
      clear hxs hc2 hlen
      go_wp2_with fail
      refine (calls_of_args (by rw [HLN.out]) (utf_Valid.calls kk _ (grownCap wr n.toNat 0 5) (bytesOf (a0.extract 0 n.toNat)) t _ HC2.out (by rw [HLN.out]; exact grownCap_ge _ _ _ _) HV2.out)).mono ?_
      rintro e w3 ⟨rfl, hb3⟩
      replace HB := a_ (below_step (bytes_below HB.out HB.out.size 5 (a0.extract 0 n.toNat)) hb3)
      clear hb3
      cases t with
      | true =>
       have hr : r = a0.extract 0 n.toNat := by simpa using HL.out.symm
       subst hr
       go_wp2_with fail
       go_ret
       exact ⟨rfl, HB.out⟩
      | false =>
       have hl2 : message_whole.l0 kk a0 (n - 1) = some r := by simpa using HL.out
       have HL2 := a_ hl2
       clear hl2 HL
       go_wp2_with fail
       go_roundw
       case rel => exact ⟨n - 1, kk, by go_num, by omega, HL2.out, HB.out⟩
       case measure => simp [intOf]; omega
     ·rw [if_neg hpos] at hl
      have hr : r = ByteArray.empty := by simpa using hl.symm
      subst hr
      go_wp2_with fail
      go_ret
      exact ⟨rfl, HB.out⟩
def message_Close.f (k : Nat) (a0 : Int) (a1 : ByteArray) : Option (Bool × Int × Bool × Int × List Int) := (message_Told.f a0).bind fun t266 => (if t266 = true then ((some (([(a0 / 256) % 256, (a0) % 256] : List Int) : List Int)).bind fun y267 => ((message_whole.f k a1 123).bind fun t270 => (if y267.length + t270.size < 140737488355328 then (some (true, 8, false, 0, (y267 ++ bytesOf t270))) else (none)))) else (some (true, 8, false, 0, ([] : List Int))))
theorem message_Close.calls (k : Nat) (a0 : Int) (a1 : ByteArray) (r1 : Bool) (r2 : Int) (r3 : Bool) (r4 : Int) (r5 : List Int) (w : World) (h : message_Close.f k a0 a1 = some (r1, r2, r3, r4, r5)) :
  Calls Tryz.prog 107 #[.int .u32 a0, .string a1] w fun e w' => ∃ v4_ : Value, e = .returned (.agg #[.bool r1, .int .u8 r2, .bool r3, .int .u32 r4, v4_]) ∧ Kd.R (Kd.int .u8) 5 w' w.heap.size (fun _ => True) v4_ r5 ∧ Below w.heap.size w w' := by
 have hf43_0 := field43_0
 have hf87_1 := field87_1
 have hu81 := Tryz.underlying81
 have HB := a_ (Below.refl w.heap.size w)
 have H : ((message_Told.f a0).bind fun t266 => (if t266 = true then ((some (([(a0 / 256) % 256, (a0) % 256] : List Int) : List Int)).bind fun y267 => ((message_whole.f k a1 123).bind fun t270 => (if y267.length + t270.size < 140737488355328 then (some (true, 8, false, 0, (y267 ++ bytesOf t270))) else (none)))) else (some (true, 8, false, 0, ([] : List Int))))) = some (r1, r2, r3, r4, r5) := h
 clear h
 replace H := Option.bind_eq_some_iff.mp H
 obtain ⟨t266, A30, H⟩ := H
 try dsimp only at H
 have A3 := a_ A30
 clear A30
 by_cases c4 : t266 = true
 ·subst c4
  rw [if_pos rfl] at H
  obtain ⟨y267, hy267⟩ : ∃ y_ : List Int, y_ = (([(a0 / 256) % 256, (a0) % 256] : List Int)) := ⟨_, rfl⟩
  replace H : ((message_whole.f k a1 123).bind fun t270 => (if y267.length + t270.size < 140737488355328 then (some (true, 8, false, 0, (y267 ++ bytesOf t270))) else (none))) = some (r1, r2, r3, r4, r5) := by exact rq_ H hy267
  have Ny267 := a_ hy267
  clear hy267
  replace H := Option.bind_eq_some_iff.mp H
  obtain ⟨t270, A50, H⟩ := H
  try dsimp only at H
  have A5 := a_ A50
  clear A50
  by_cases c6 : y267.length + t270.size < 140737488355328
  ·rw [if_pos c6] at H
   have LMc6 := a_ c6
   clear c6
   obtain ⟨y271, hy271⟩ : ∃ y_ : List Int, y_ = (y267 ++ bytesOf t270) := ⟨_, rfl⟩
   replace H : (some (true, 8, false, 0, y271)) = some (r1, r2, r3, r4, r5) := by exact rq_ H hy271
   have Ny271 := a_ hy271
   clear hy271
   simp only [Option.some.injEq, Prod.mk.injEq] at H
   obtain ⟨rfl, rfl, rfl, rfl, rfl⟩ := H
   go_enter Tryz.func107, Tryz.ntmps107
   go_wp2_with (first | ((with_reducible refine gate_dst (N := 4) rfl ?_); refine box_event ?hg (N := 4) ?hd (cs := #[.bool false, .int .u8 0, .bool false, .int .u32 0, .slice none 0 0]) (t := 81) ?hr ?_; (case hd => rfl); (case hg => rfl); (case hr => first | (go_simp; done) | (go_simp; rfl)); intro gb264 hg w7 hbox hb; obtain ⟨HB, BK264, GW264, GE264⟩ := And.intro (a_ (below_step (by exact q2_ HB.out) hb)) (And.intro (a_ (hbox)) (And.intro (a_ ((by rw [hg]; exact (below_size (by exact q2_ HB.out)) : w.heap.size ≤ gb264))) (a_ ((by rw [hg]; exact (below_size (by exact q2_ HB.out)) : w.heap.size ≤ gb264))))); clear hb hbox hg) | ((with_reducible refine gate_dst (N := 5) rfl ?_); refine box_event ?hg (N := 5) ?hd (cs := #[.bool false, .int .u8 0, .bool false, .int .u32 0, .slice none 0 0]) (t := 81) ?hr ?_; (case hd => rfl); (case hg => rfl); (case hr => first | (go_simp; done) | (go_simp; rfl)); intro gb265 hg w8 hbox hb; obtain ⟨BK264, HB, BK265, GW265, GE265, NB264_265, NB265_264⟩ := And.intro (a_ (blk_below (g := gb264) (o := .cells #[.bool false, .int .u8 0, .bool false, .int .u32 0, .slice none 0 0] 81 (0, 0)) (by exact q10_ BK264.out) hb)) (And.intro (a_ (below_step (by exact q3_ HB.out GE264.out) hb)) (And.intro (a_ (hbox)) (And.intro (a_ ((by rw [hg]; exact (below_size (by exact q3_ HB.out GE264.out)) : w.heap.size ≤ gb265))) (And.intro (a_ ((by rw [hg]; exact (below_size (by exact q3_ HB.out GE264.out)) : w.heap.size ≤ gb265))) (And.intro (a_ ((by rw [hg]; exact Nat.ne_of_lt (blk_lt (g := gb264) (o := .cells #[.bool false, .int .u8 0, .bool false, .int .u32 0, .slice none 0 0] 81 (0, 0)) (by exact q10_ BK264.out)) : gb264 ≠ gb265))) (a_ ((by rw [hg]; exact Nat.ne_of_gt (blk_lt (g := gb264) (o := .cells #[.bool false, .int .u8 0, .bool false, .int .u32 0, .slice none 0 0] 81 (0, 0)) (by exact q10_ BK264.out)) : gb265 ≠ gb264)))))))); clear hb hbox hg; have hnb9 := NB265_264.out; have hnc9 := NB264_265.out; obtain ⟨hcz10_0, hfz10_0, hcz10_1, hfz10_1, hcz10_2, hfz10_2, hcz10_3, hfz10_3, hcz10_4, hfz10_4⟩ := xf5_ BK265.out) | ((with_reducible refine gate_callee (f := 119) rfl ?_); refine goesL_ (some 8) rfl rfl Tryz.func119 (by kernel_rfl) rfl #[.int .u32 a0] rfl (by exact q1_) ?_; (with_reducible refine (message_Told.calls a0 true _ A3.out).mono ?_); rintro e w11 ⟨rfl, hb⟩; refine ⟨_, rfl, ?_⟩; obtain ⟨BK264, BK265, HB⟩ := And.intro (a_ (blk_below (g := gb264) (o := .cells #[.bool false, .int .u8 0, .bool false, .int .u32 0, .slice none 0 0] 81 (0, 0)) (by exact q16_ BK264.out NB264_265.out NB264_265.out NB264_265.out NB264_265.out NB264_265.out) hb)) (And.intro (a_ (blk_below (g := gb265) (o := .cells #[.bool true, .int .u8 8, .bool false, .int .u32 0, .slice none 0 0] 81 (0, 0)) (by (with_reducible repeat (first | refine blk_drewN ?_ _ | refine blk_drew ?_ | refine blk_alloc ?_ _)); refine blk_put (cs := #[.bool true, .int .u8 8, .bool false, .int .u32 0, .slice none 0 0]) ?_ 4 _ rfl; (with_reducible repeat (first | refine blk_drewN ?_ _ | refine blk_drew ?_ | refine blk_alloc ?_ _)); refine blk_put (cs := #[.bool true, .int .u8 8, .bool false, .int .u32 0, .slice none 0 0]) ?_ 3 _ rfl; (with_reducible repeat (first | refine blk_drewN ?_ _ | refine blk_drew ?_ | refine blk_alloc ?_ _)); refine blk_put (cs := #[.bool true, .int .u8 8, .bool false, .int .u32 0, .slice none 0 0]) ?_ 2 _ rfl; (with_reducible repeat (first | refine blk_drewN ?_ _ | refine blk_drew ?_ | refine blk_alloc ?_ _)); refine blk_put (cs := #[.bool true, .int .u8 0, .bool false, .int .u32 0, .slice none 0 0]) ?_ 1 _ rfl; (with_reducible repeat (first | refine blk_drewN ?_ _ | refine blk_drew ?_ | refine blk_alloc ?_ _)); refine blk_put (cs := #[.bool false, .int .u8 0, .bool false, .int .u32 0, .slice none 0 0]) ?_ 0 _ rfl; exact q10_ BK265.out) hb)) (a_ (below_step (by exact q7_ HB.out GE264.out GE265.out) hb))); (try clear hb); (try clear hb2); (try clear hk); (try clear hi)) | ((with_reducible refine gate_dst (N := 14) rfl ?_); refine Kd.R_lit (Kd.int .u8) _ 5 ?hg (N := 14) ?hd (xs := ([(a0 / 256) % 256, (a0) % 256] : List Int)) (inner := [.int .u8 ((a0 / 256) % 256), .int .u8 ((a0) % 256)]) (ok := fun _ => True) (okp := fun _ => True) ?hr ?hp (fun _ hk => hk) trivial (Below.refl _ _) (Nat.le_refl _) (by simp) ?_; (case hd => rfl); (case hg => rfl); (case hr => first | (go_simp; done) | (go_simp; rfl)); (case hp => exact (Reps.one (show Kd.M (Kd.int .u8) _ _ _ ((a0 / 256) % 256) [.int .u8 ((a0 / 256) % 256)] from rfl) (Reps.one (show Kd.M (Kd.int .u8) _ _ _ ((a0) % 256) [.int .u8 ((a0) % 256)] from rfl) (Reps.none _ _)))); intro v268 w12 ho13 hb hg_ hnew_; clear hg_ hnew_; (first | rw [← Ny267.out] at ho13 | (simp only [Int.reduceToNat] at ho13; rw [← Ny267.out] at ho13)); obtain ⟨HO269, BK264, BK265, HB⟩ := And.intro (a_ (Kd.R_lower ho13 (below_size (by exact q7_ HB.out GE264.out GE265.out)))) (And.intro (a_ (blk_below (g := gb264) (o := .cells #[.bool false, .int .u8 0, .bool false, .int .u32 0, .slice none 0 0] 81 (0, 0)) (by exact q10_ BK264.out) hb)) (And.intro (a_ (blk_below (g := gb265) (o := .cells #[.bool true, .int .u8 8, .bool false, .int .u32 0, .slice none 0 0] 81 (0, 0)) (by exact q10_ BK265.out) hb)) (a_ (below_step (by exact q7_ HB.out GE264.out GE265.out) hb)))); clear hb ho13) | ((with_reducible refine gate_callee (f := 125) rfl ?_); refine goesL_ (some 16) rfl rfl Tryz.func125 (by kernel_rfl) rfl #[.string a1, .int .i64 123] rfl (by exact q1_) ?_; (with_reducible refine (message_whole.calls k a1 123 t270 _ A5.out).mono ?_); rintro e w14 ⟨rfl, hb⟩; refine ⟨_, rfl, ?_⟩; obtain ⟨HO269, BK264, BK265, HB⟩ := And.intro (a_ (Kd.R_below (by exact q11_ HO269.out) hb)) (And.intro (a_ (blk_below (g := gb264) (o := .cells #[.bool false, .int .u8 0, .bool false, .int .u32 0, .slice none 0 0] 81 (0, 0)) (by exact q10_ BK264.out) hb)) (And.intro (a_ (blk_below (g := gb265) (o := .cells #[.bool true, .int .u8 8, .bool false, .int .u32 0, .slice none 0 0] 81 (0, 0)) (by exact q10_ BK265.out) hb)) (a_ (below_step (by exact q7_ HB.out GE264.out GE265.out) hb)))); (try clear hb); (try clear hb2); (try clear hk); (try clear hi)) | (at_builtin; refine print_append_str (w0 := w) w.heap.size rfl (.tmp 14) _ 27 9 5 rfl Tryz.underlying27 Tryz.underlying9 info5 v268 y267 t270 rfl rfl ?aO ?aB ?aS ?aL ?_; (case aB => exact (by exact q7_ HB.out GE264.out GE265.out)); (case aO => exact (Kd.own_of_R (by exact q11_ HO269.out))); (case aS => exact (below_size (by exact q7_ HB.out GE264.out GE265.out))); (case aL => have := LMc6.out; omega); intro v272 w15 ho0 hb hg; have ho := Kd.R_of_own (h1 := fun _ => rfl) (ok := fun _ => True) ho0 (fun _ _ => trivial); clear ho0; have hat := True.intro; rw [← Ny271.out] at ho; change Kd.R (Kd.int .u8) 5 w15 w.heap.size (fun _ => True) v272 y271 at ho; have n0_ := a_ (blk_grown (g := gb264) (o := .cells #[.bool false, .int .u8 0, .bool false, .int .u32 0, .slice none 0 0] 81 (0, 0)) (by exact q10_ BK264.out) hg (Kd.R_ne HO269.out BK264.out (by decide))); have n1_ := a_ (blk_grown (g := gb265) (o := .cells #[.bool true, .int .u8 8, .bool false, .int .u32 0, .slice none 0 0] 81 (0, 0)) (by exact q10_ BK265.out) hg (Kd.R_ne HO269.out BK265.out (by decide))); have n2_ := a_ (hb); have n3_ := a_ (ho); clear BK264; clear BK265; clear HB; clear HO269; have BK264 := n0_; have BK265 := n1_; have HB := n2_; have HO273 := n3_; clear n0_ n1_ n2_ n3_; clear ho hb hg hat; obtain ⟨Ao16, co16, eo16⟩ := Kd.R_slice HO273.out; subst eo16; obtain ⟨hcz17_0, hfz17_0, hcz17_1, hfz17_1, hcz17_2, hfz17_2, hcz17_3, hfz17_3, hcz17_4, hfz17_4⟩ := xf5_ BK265.out; obtain ⟨hcz18_0, hfz18_0, hcz18_1, hfz18_1, hcz18_2, hfz18_2, hcz18_3, hfz18_3, hcz18_4, hfz18_4⟩ := xf5_ BK264.out))
   refine bodyPost_ret (results_cell_row rfl _ _ gb264 81 #[.bool true, .int .u8 8, .bool false, .int .u32 0, .slice Ao16 y271.length co16] (0, 0) _ rfl (by (with_reducible repeat (first | refine blk_drewN ?_ _ | refine blk_drew ?_ | refine blk_alloc ?_ _)); refine blk_put (cs := #[.bool true, .int .u8 8, .bool false, .int .u32 0, .slice none 0 0]) ?_ 4 _ rfl; (with_reducible repeat (first | refine blk_drewN ?_ _ | refine blk_drew ?_ | refine blk_alloc ?_ _)); refine blk_put (cs := #[.bool true, .int .u8 8, .bool false, .int .u32 0, .slice none 0 0]) ?_ 3 _ rfl; (with_reducible repeat (first | refine blk_drewN ?_ _ | refine blk_drew ?_ | refine blk_alloc ?_ _)); refine blk_put (cs := #[.bool true, .int .u8 8, .bool false, .int .u32 0, .slice none 0 0]) ?_ 2 _ rfl; (with_reducible repeat (first | refine blk_drewN ?_ _ | refine blk_drew ?_ | refine blk_alloc ?_ _)); refine blk_put (cs := #[.bool true, .int .u8 0, .bool false, .int .u32 0, .slice none 0 0]) ?_ 1 _ rfl; (with_reducible repeat (first | refine blk_drewN ?_ _ | refine blk_drew ?_ | refine blk_alloc ?_ _)); refine blk_put (cs := #[.bool false, .int .u8 0, .bool false, .int .u32 0, .slice none 0 0]) ?_ 0 _ rfl; exact q17_ BK264.out NB264_265.out) Tryz.underlying81 rfl (by kernel_rfl)) rfl ?_
   exact ⟨_, by exact q12_, by (with_reducible repeat (first | apply Kd.R_alloc | apply Kd.R_drewN | apply Kd.R_drew)); exact Kd.R_mono (Kd.R_far (p := ⟨gb264, 4, none⟩) (Kd.R_far (p := ⟨gb264, 3, none⟩) (Kd.R_far (p := ⟨gb264, 2, none⟩) (Kd.R_far (p := ⟨gb264, 1, none⟩) (Kd.R_far (p := ⟨gb264, 0, none⟩) (Kd.R_far (p := ⟨gb265, 4, none⟩) (Kd.R_types (Kd.R_types HO273.out BK265.out (by decide)) BK264.out (by decide)) (fun _ hk => hk.1.2) (.slice Ao16 y271.length co16)) (fun _ hk => hk.2) (.bool true)) (fun _ hk => hk.2) (.int .u8 8)) (fun _ hk => hk.2) (.bool false)) (fun _ hk => hk.2) (.int .u32 0)) (fun _ hk => hk.2) (.slice Ao16 y271.length co16)) (fun _ hk => trivial), by exact q7_ HB.out GE264.out GE265.out⟩
  ·rw [if_neg c6] at H
   exact absurd H (by simp)
 ·replace c4 := Bool.eq_false_iff.mpr c4
  subst c4
  rw [if_neg (show ¬ (false = true) by decide)] at H
  simp only [Option.some.injEq, Prod.mk.injEq] at H
  obtain ⟨rfl, rfl, rfl, rfl, rfl⟩ := H
  go_enter Tryz.func107, Tryz.ntmps107
  go_wp2_with (first | ((with_reducible refine gate_dst (N := 4) rfl ?_); refine box_event ?hg (N := 4) ?hd (cs := #[.bool false, .int .u8 0, .bool false, .int .u32 0, .slice none 0 0]) (t := 81) ?hr ?_; (case hd => rfl); (case hg => rfl); (case hr => first | (go_simp; done) | (go_simp; rfl)); intro gb264 hg w19 hbox hb; obtain ⟨HB, BK264, GW264, GE264⟩ := And.intro (a_ (below_step (by exact q2_ HB.out) hb)) (And.intro (a_ (hbox)) (And.intro (a_ ((by rw [hg]; exact (below_size (by exact q2_ HB.out)) : w.heap.size ≤ gb264))) (a_ ((by rw [hg]; exact (below_size (by exact q2_ HB.out)) : w.heap.size ≤ gb264))))); clear hb hbox hg) | ((with_reducible refine gate_dst (N := 5) rfl ?_); refine box_event ?hg (N := 5) ?hd (cs := #[.bool false, .int .u8 0, .bool false, .int .u32 0, .slice none 0 0]) (t := 81) ?hr ?_; (case hd => rfl); (case hg => rfl); (case hr => first | (go_simp; done) | (go_simp; rfl)); intro gb265 hg w20 hbox hb; obtain ⟨BK264, HB, BK265, GW265, GE265, NB264_265, NB265_264⟩ := And.intro (a_ (blk_below (g := gb264) (o := .cells #[.bool false, .int .u8 0, .bool false, .int .u32 0, .slice none 0 0] 81 (0, 0)) (by exact q10_ BK264.out) hb)) (And.intro (a_ (below_step (by exact q3_ HB.out GE264.out) hb)) (And.intro (a_ (hbox)) (And.intro (a_ ((by rw [hg]; exact (below_size (by exact q3_ HB.out GE264.out)) : w.heap.size ≤ gb265))) (And.intro (a_ ((by rw [hg]; exact (below_size (by exact q3_ HB.out GE264.out)) : w.heap.size ≤ gb265))) (And.intro (a_ ((by rw [hg]; exact Nat.ne_of_lt (blk_lt (g := gb264) (o := .cells #[.bool false, .int .u8 0, .bool false, .int .u32 0, .slice none 0 0] 81 (0, 0)) (by exact q10_ BK264.out)) : gb264 ≠ gb265))) (a_ ((by rw [hg]; exact Nat.ne_of_gt (blk_lt (g := gb264) (o := .cells #[.bool false, .int .u8 0, .bool false, .int .u32 0, .slice none 0 0] 81 (0, 0)) (by exact q10_ BK264.out)) : gb265 ≠ gb264)))))))); clear hb hbox hg; have hnb21 := NB265_264.out; have hnc21 := NB264_265.out; obtain ⟨hcz22_0, hfz22_0, hcz22_1, hfz22_1, hcz22_2, hfz22_2, hcz22_3, hfz22_3, hcz22_4, hfz22_4⟩ := xf5_ BK265.out) | ((with_reducible refine gate_callee (f := 119) rfl ?_); refine goesL_ (some 8) rfl rfl Tryz.func119 (by kernel_rfl) rfl #[.int .u32 a0] rfl (by exact q1_) ?_; (with_reducible refine (message_Told.calls a0 false _ A3.out).mono ?_); rintro e w23 ⟨rfl, hb⟩; refine ⟨_, rfl, ?_⟩; obtain ⟨BK264, BK265, HB⟩ := And.intro (a_ (blk_below (g := gb264) (o := .cells #[.bool false, .int .u8 0, .bool false, .int .u32 0, .slice none 0 0] 81 (0, 0)) (by exact q16_ BK264.out NB264_265.out NB264_265.out NB264_265.out NB264_265.out NB264_265.out) hb)) (And.intro (a_ (blk_below (g := gb265) (o := .cells #[.bool true, .int .u8 8, .bool false, .int .u32 0, .slice none 0 0] 81 (0, 0)) (by (with_reducible repeat (first | refine blk_drewN ?_ _ | refine blk_drew ?_ | refine blk_alloc ?_ _)); refine blk_put (cs := #[.bool true, .int .u8 8, .bool false, .int .u32 0, .slice none 0 0]) ?_ 4 _ rfl; (with_reducible repeat (first | refine blk_drewN ?_ _ | refine blk_drew ?_ | refine blk_alloc ?_ _)); refine blk_put (cs := #[.bool true, .int .u8 8, .bool false, .int .u32 0, .slice none 0 0]) ?_ 3 _ rfl; (with_reducible repeat (first | refine blk_drewN ?_ _ | refine blk_drew ?_ | refine blk_alloc ?_ _)); refine blk_put (cs := #[.bool true, .int .u8 8, .bool false, .int .u32 0, .slice none 0 0]) ?_ 2 _ rfl; (with_reducible repeat (first | refine blk_drewN ?_ _ | refine blk_drew ?_ | refine blk_alloc ?_ _)); refine blk_put (cs := #[.bool true, .int .u8 0, .bool false, .int .u32 0, .slice none 0 0]) ?_ 1 _ rfl; (with_reducible repeat (first | refine blk_drewN ?_ _ | refine blk_drew ?_ | refine blk_alloc ?_ _)); refine blk_put (cs := #[.bool false, .int .u8 0, .bool false, .int .u32 0, .slice none 0 0]) ?_ 0 _ rfl; exact q10_ BK265.out) hb)) (a_ (below_step (by exact q7_ HB.out GE264.out GE265.out) hb))); clear hb; obtain ⟨hcz24_0, hfz24_0, hcz24_1, hfz24_1, hcz24_2, hfz24_2, hcz24_3, hfz24_3, hcz24_4, hfz24_4⟩ := xf5_ BK265.out; obtain ⟨hcz25_0, hfz25_0, hcz25_1, hfz25_1, hcz25_2, hfz25_2, hcz25_3, hfz25_3, hcz25_4, hfz25_4⟩ := xf5_ BK264.out))
  refine bodyPost_ret (results_cell_row rfl _ _ gb264 81 #[.bool true, .int .u8 8, .bool false, .int .u32 0, .slice none 0 0] (0, 0) _ rfl (by (with_reducible repeat (first | refine blk_drewN ?_ _ | refine blk_drew ?_ | refine blk_alloc ?_ _)); refine blk_put (cs := #[.bool true, .int .u8 8, .bool false, .int .u32 0, .slice none 0 0]) ?_ 4 _ rfl; (with_reducible repeat (first | refine blk_drewN ?_ _ | refine blk_drew ?_ | refine blk_alloc ?_ _)); refine blk_put (cs := #[.bool true, .int .u8 8, .bool false, .int .u32 0, .slice none 0 0]) ?_ 3 _ rfl; (with_reducible repeat (first | refine blk_drewN ?_ _ | refine blk_drew ?_ | refine blk_alloc ?_ _)); refine blk_put (cs := #[.bool true, .int .u8 8, .bool false, .int .u32 0, .slice none 0 0]) ?_ 2 _ rfl; (with_reducible repeat (first | refine blk_drewN ?_ _ | refine blk_drew ?_ | refine blk_alloc ?_ _)); refine blk_put (cs := #[.bool true, .int .u8 0, .bool false, .int .u32 0, .slice none 0 0]) ?_ 1 _ rfl; (with_reducible repeat (first | refine blk_drewN ?_ _ | refine blk_drew ?_ | refine blk_alloc ?_ _)); refine blk_put (cs := #[.bool false, .int .u8 0, .bool false, .int .u32 0, .slice none 0 0]) ?_ 0 _ rfl; exact q10_ BK264.out) Tryz.underlying81 rfl (by kernel_rfl)) rfl ?_
  exact ⟨_, by exact q12_, by first | exact Kd.R_nil _ _ _ _ _ | exact Kd.N_nil _ _ _ _ _ | exact Kd.V_nil _ _ _ _ _ | exact Kd.Q_nil _ _ _ _ _ | exact Kd.S_nil _ _ _ _ _, by exact q7_ HB.out GE264.out GE265.out⟩
def closing_Door_send.f (k : Nat) (s0_0 : Bool) (s0_1 : Bool) (s0_2 : Int) (s0_3 : Int) (s0_4 : Int) (a1 : Int) (a2 : ByteArray) : Option (Bool × Int × Bool × Int × List Int × Bool × Bool × Bool × Int × Int × Int) := if s0_0 = true then (some (false, 0, false, 0, ([] : List Int), false, s0_0, s0_1, s0_2, s0_3, s0_4)) else ((message_Close.f k a1 a2).bind fun bt275 => (some (bt275.1, bt275.2.1, bt275.2.2.1, bt275.2.2.2.1, bt275.2.2.2.2, true, true, s0_1, s0_2, s0_3, s0_4)))
theorem closing_Door_send.calls (k : Nat) (g : Nat) (s0_0 : Bool) (s0_1 : Bool) (s0_2 : Int) (s0_3 : Int) (s0_4 : Int) (a1 : Int) (a2 : ByteArray) (r1 : Bool) (r2 : Int) (r3 : Bool) (r4 : Int) (r5 : List Int) (r6 : Bool) (r7 : Bool) (r8 : Bool) (r9 : Int) (r10 : Int) (r11 : Int) (w0 w : World) (hI : IsS121 w0 w g s0_0 s0_1 s0_2 s0_3 s0_4) (hB : Below w0.heap.size w0 w) (h : closing_Door_send.f k s0_0 s0_1 s0_2 s0_3 s0_4 a1 a2 = some (r1, r2, r3, r4, r5, r6, r7, r8, r9, r10, r11)) :
  Calls Tryz.prog 79 #[.pointer (some ⟨g, 0, none⟩), .int .u32 a1, .string a2] w fun e w' => ∃ v4_ : Value, e = .returned (.tuple #[.agg #[.bool r1, .int .u8 r2, .bool r3, .int .u32 r4, v4_], .bool r6]) ∧ Kd.R (Kd.int .u8) 5 w' w.heap.size (fun _ => True) v4_ r5 ∧ IsS121 w0 w' g r7 r8 r9 r10 r11 ∧ Below w0.heap.size w0 w' ∧ KeepBut w w' g none := by
 have hf43_0 := field43_0
 have hf87_1 := field87_1
 have hu81 := Tryz.underlying81
 have HI0 := a_ hI
 have HK := a_ (KeepBut.refl w g none)
 have HL := a_ hB.size
 clear hI
 have HW0 := a_ hB.size
 have HB := a_ hB
 clear hB
 have H : (if s0_0 = true then (some (false, 0, false, 0, ([] : List Int), false, s0_0, s0_1, s0_2, s0_3, s0_4)) else ((message_Close.f k a1 a2).bind fun bt275 => (some (bt275.1, bt275.2.1, bt275.2.2.1, bt275.2.2.2.1, bt275.2.2.2.2, true, true, s0_1, s0_2, s0_3, s0_4)))) = some (r1, r2, r3, r4, r5, r6, r7, r8, r9, r10, r11) := h
 clear h
 by_cases c4 : s0_0 = true
 ·subst c4
  rw [if_pos rfl] at H
  simp only [Option.some.injEq, Prod.mk.injEq] at H
  obtain ⟨rfl, rfl, rfl, rfl, rfl, rfl, rfl, rfl, rfl, rfl, rfl⟩ := H
  go_enter Tryz.func79, Tryz.ntmps79
  go_wp2_with (first | ((with_reducible refine gate_dst (N := 6) rfl ?_); refine box_event ?hg (N := 6) ?hd (cs := #[.bool false, .int .u8 0, .bool false, .int .u32 0, .slice none 0 0]) (t := 81) ?hr ?_; (case hd => rfl); (case hg => rfl); (case hr => first | (go_simp; done) | (go_simp; rfl)); intro gb274 hg w5 hbox hb; obtain ⟨HI0, HK, HB, BK274, GW274, GE274, NB0_274, NB274_0⟩ := And.intro (a_ (IsS121.below (by exact q4_ HI0.out) hb)) (And.intro (a_ (KeepBut.trans (by exact q5_ HK.out) (KeepBut.of_below hb g none) (.inl rfl))) (And.intro (a_ (below_step (by exact q3_ HB.out (IsS121.ge HI0.out)) hb)) (And.intro (a_ (hbox)) (And.intro (a_ ((by rw [hg]; exact (keep_size (w := w) (g := g) (row := none) (by exact q5_ HK.out)) : w.heap.size ≤ gb274))) (And.intro (a_ ((Nat.le_trans HW0.out (by rw [hg]; exact (keep_size (w := w) (g := g) (row := none) (by exact q5_ HK.out)) : w.heap.size ≤ gb274) : w0.heap.size ≤ gb274))) (And.intro (a_ ((by rw [hg]; exact Nat.ne_of_lt (IsS121.lt (show IsS121 w0 _ g true s0_1 s0_2 s0_3 s0_4 from by exact q4_ HI0.out)) : g ≠ gb274))) (a_ ((by rw [hg]; exact Nat.ne_of_gt (IsS121.lt (show IsS121 w0 _ g true s0_1 s0_2 s0_3 s0_4 from by exact q4_ HI0.out)) : gb274 ≠ g))))))))); clear hb hbox hg; obtain ⟨HGz6, hgz6⟩ := HI0.out; have hcz6_0 := cellS121_0 HGz6; have hcz6_1 := cellS121_1 HGz6; have hcz6_2 := cellS121_2 HGz6; have hcz6_3 := cellS121_3 HGz6; have hcz6_4 := cellS121_4 HGz6; obtain ⟨hfz6_0, hfz6_1, hfz6_2, hfz6_3, hfz6_4⟩ := xz5_ HGz6; clear HGz6 hgz6; have hnb7 := NB274_0.out; have hnc7 := NB0_274.out; obtain ⟨hcz8_0, hfz8_0, hcz8_1, hfz8_1, hcz8_2, hfz8_2, hcz8_3, hfz8_3, hcz8_4, hfz8_4⟩ := xf5_ BK274.out))
  refine bodyPost_ret (results_ct rfl _ _ gb274 81 #[.bool false, .int .u8 0, .bool false, .int .u32 0, .slice none 0 0] (0, 0) _ rfl (by (with_reducible repeat (first | refine blk_drewN ?_ _ | refine blk_drew ?_ | refine blk_alloc ?_ _)); refine blk_put (cs := #[.bool false, .int .u8 0, .bool false, .int .u32 0, .slice none 0 0]) ?_ 4 _ rfl; (with_reducible repeat (first | refine blk_drewN ?_ _ | refine blk_drew ?_ | refine blk_alloc ?_ _)); refine blk_put (cs := #[.bool false, .int .u8 0, .bool false, .int .u32 0, .slice none 0 0]) ?_ 3 _ rfl; (with_reducible repeat (first | refine blk_drewN ?_ _ | refine blk_drew ?_ | refine blk_alloc ?_ _)); refine blk_put (cs := #[.bool false, .int .u8 0, .bool false, .int .u32 0, .slice none 0 0]) ?_ 2 _ rfl; (with_reducible repeat (first | refine blk_drewN ?_ _ | refine blk_drew ?_ | refine blk_alloc ?_ _)); refine blk_put (cs := #[.bool false, .int .u8 0, .bool false, .int .u32 0, .slice none 0 0]) ?_ 1 _ rfl; (with_reducible repeat (first | refine blk_drewN ?_ _ | refine blk_drew ?_ | refine blk_alloc ?_ _)); refine blk_put (cs := #[.bool false, .int .u8 0, .bool false, .int .u32 0, .slice none 0 0]) ?_ 0 _ rfl; exact q10_ BK274.out) Tryz.underlying81 rfl (by kernel_rfl)) rfl ?_
  exact ⟨_, by exact q12_, by first | exact Kd.R_nil _ _ _ _ _ | exact Kd.N_nil _ _ _ _ _ | exact Kd.V_nil _ _ _ _ _ | exact Kd.Q_nil _ _ _ _ _ | exact Kd.S_nil _ _ _ _ _, by exact q6_ HI0.out NB0_274.out, by exact q7_ HB.out (IsS121.ge HI0.out) GE274.out, by exact q8_ HK.out GW274.out⟩
 ·replace c4 := Bool.eq_false_iff.mpr c4
  subst c4
  rw [if_neg (show ¬ (false = true) by decide)] at H
  replace H := Option.bind_eq_some_iff.mp H
  obtain ⟨⟨t275, t276, t277, t278, t279⟩, A90, H⟩ := H
  try dsimp only at H
  have A9 := a_ A90
  clear A90
  simp only [Option.some.injEq, Prod.mk.injEq] at H
  obtain ⟨rfl, rfl, rfl, rfl, rfl, rfl, rfl, rfl, rfl, rfl, rfl⟩ := H
  go_enter Tryz.func79, Tryz.ntmps79
  go_wp2_with (first | ((with_reducible refine gate_dst (N := 6) rfl ?_); refine box_event ?hg (N := 6) ?hd (cs := #[.bool false, .int .u8 0, .bool false, .int .u32 0, .slice none 0 0]) (t := 81) ?hr ?_; (case hd => rfl); (case hg => rfl); (case hr => first | (go_simp; done) | (go_simp; rfl)); intro gb274 hg w10 hbox hb; obtain ⟨HI0, HK, HB, BK274, GW274, GE274, NB0_274, NB274_0⟩ := And.intro (a_ (IsS121.below (by exact q4_ HI0.out) hb)) (And.intro (a_ (KeepBut.trans (by exact q5_ HK.out) (KeepBut.of_below hb g none) (.inl rfl))) (And.intro (a_ (below_step (by exact q3_ HB.out (IsS121.ge HI0.out)) hb)) (And.intro (a_ (hbox)) (And.intro (a_ ((by rw [hg]; exact (keep_size (w := w) (g := g) (row := none) (by exact q5_ HK.out)) : w.heap.size ≤ gb274))) (And.intro (a_ ((Nat.le_trans HW0.out (by rw [hg]; exact (keep_size (w := w) (g := g) (row := none) (by exact q5_ HK.out)) : w.heap.size ≤ gb274) : w0.heap.size ≤ gb274))) (And.intro (a_ ((by rw [hg]; exact Nat.ne_of_lt (IsS121.lt (show IsS121 w0 _ g false s0_1 s0_2 s0_3 s0_4 from by exact q4_ HI0.out)) : g ≠ gb274))) (a_ ((by rw [hg]; exact Nat.ne_of_gt (IsS121.lt (show IsS121 w0 _ g false s0_1 s0_2 s0_3 s0_4 from by exact q4_ HI0.out)) : gb274 ≠ g))))))))); clear hb hbox hg; obtain ⟨HGz11, hgz11⟩ := HI0.out; have hcz11_0 := cellS121_0 HGz11; have hcz11_1 := cellS121_1 HGz11; have hcz11_2 := cellS121_2 HGz11; have hcz11_3 := cellS121_3 HGz11; have hcz11_4 := cellS121_4 HGz11; obtain ⟨hfz11_0, hfz11_1, hfz11_2, hfz11_3, hfz11_4⟩ := xz5_ HGz11; clear HGz11 hgz11) | ((with_reducible refine gate_callee (f := 107) rfl ?_); refine goesL_ (some 18) rfl rfl Tryz.func107 (by kernel_rfl) rfl #[.int .u32 a1, .string a2] rfl (by exact q1_) ?_; (with_reducible refine (message_Close.calls k a1 a2 t275 t276 t277 t278 t279 _ A9.out).mono ?_); rintro e w12 ⟨v280, rfl, ho0, hb⟩; refine ⟨_, rfl, ?_⟩; obtain ⟨HO281, HI0, BK274, HK, HB⟩ := And.intro (a_ (Kd.R_lower ho0 (keep_size (w := w) (g := g) (row := none) (by exact q8_ HK.out GW274.out)))) (And.intro (a_ (IsS121.below (show IsS121 w0 (w10.setCell ⟨g, 0, none⟩ (.bool true)) g true s0_1 s0_2 s0_3 s0_4 from by exact q6_ HI0.out NB0_274.out) hb)) (And.intro (a_ (blk_below (g := gb274) (o := .cells #[.bool false, .int .u8 0, .bool false, .int .u32 0, .slice none 0 0] 81 (0, 0)) (by exact q17_ BK274.out NB274_0.out) hb)) (And.intro (a_ (KeepBut.trans (by exact q8_ HK.out GW274.out) (KeepBut.of_below hb g none) (.inl rfl))) (a_ (below_step (by exact q7_ HB.out (IsS121.ge HI0.out) GE274.out) hb))))); (try clear hb); (try clear hb2); (try clear hk); (try clear hi); (try clear ho0); have hnb13 := NB274_0.out; have hnc13 := NB0_274.out; obtain ⟨hcz14_0, hfz14_0, hcz14_1, hfz14_1, hcz14_2, hfz14_2, hcz14_3, hfz14_3, hcz14_4, hfz14_4⟩ := xf5_ BK274.out; obtain ⟨Ao15, co15, eo15⟩ := Kd.R_slice HO281.out; subst eo15))
  refine bodyPost_ret (results_ct rfl _ _ gb274 81 #[.bool t275, .int .u8 t276, .bool t277, .int .u32 t278, .slice Ao15 t279.length co15] (0, 0) _ rfl (by (with_reducible repeat (first | refine blk_drewN ?_ _ | refine blk_drew ?_ | refine blk_alloc ?_ _)); refine blk_put (cs := #[.bool t275, .int .u8 t276, .bool t277, .int .u32 t278, .slice none 0 0]) ?_ 4 _ rfl; (with_reducible repeat (first | refine blk_drewN ?_ _ | refine blk_drew ?_ | refine blk_alloc ?_ _)); refine blk_put (cs := #[.bool t275, .int .u8 t276, .bool t277, .int .u32 0, .slice none 0 0]) ?_ 3 _ rfl; (with_reducible repeat (first | refine blk_drewN ?_ _ | refine blk_drew ?_ | refine blk_alloc ?_ _)); refine blk_put (cs := #[.bool t275, .int .u8 t276, .bool false, .int .u32 0, .slice none 0 0]) ?_ 2 _ rfl; (with_reducible repeat (first | refine blk_drewN ?_ _ | refine blk_drew ?_ | refine blk_alloc ?_ _)); refine blk_put (cs := #[.bool t275, .int .u8 0, .bool false, .int .u32 0, .slice none 0 0]) ?_ 1 _ rfl; (with_reducible repeat (first | refine blk_drewN ?_ _ | refine blk_drew ?_ | refine blk_alloc ?_ _)); refine blk_put (cs := #[.bool false, .int .u8 0, .bool false, .int .u32 0, .slice none 0 0]) ?_ 0 _ rfl; exact q10_ BK274.out) Tryz.underlying81 rfl (by kernel_rfl)) rfl ?_
  exact ⟨_, by exact q12_, by (with_reducible repeat (first | apply Kd.R_alloc | apply Kd.R_drewN | apply Kd.R_drew)); exact Kd.R_mono (Kd.R_far (p := ⟨gb274, 4, none⟩) (Kd.R_far (p := ⟨gb274, 3, none⟩) (Kd.R_far (p := ⟨gb274, 2, none⟩) (Kd.R_far (p := ⟨gb274, 1, none⟩) (Kd.R_far (p := ⟨gb274, 0, none⟩) (Kd.R_types HO281.out BK274.out (by decide)) (fun _ hk => hk.2) (.bool t275)) (fun _ hk => hk.2) (.int .u8 t276)) (fun _ hk => hk.2) (.bool t277)) (fun _ hk => hk.2) (.int .u32 t278)) (fun _ hk => hk.2) (.slice Ao15 t279.length co15)) (fun _ hk => trivial), by exact q6_ HI0.out NB0_274.out, by exact q7_ HB.out (IsS121.ge HI0.out) GE274.out, by exact q8_ HK.out GW274.out⟩
def closing_Door_Bad.f (k : Nat) (s0_0 : Bool) (s0_1 : Bool) (s0_2 : Int) (s0_3 : Int) (s0_4 : Int) (a1 : Int) : Option (Bool × Int × Bool × Int × List Int × Bool × Bool × Bool × Int × Int × Int) := (closing_Door_Through.f s0_0 s0_1 s0_2 s0_3 s0_4).bind fun bt283 => (if bt283.1 = true then (some (false, 0, false, 0, ([] : List Int), false, bt283.2.1, bt283.2.2.1, bt283.2.2.2.1, bt283.2.2.2.2.1, bt283.2.2.2.2.2)) else ((closing_Door_send.f k bt283.2.1 bt283.2.2.1 bt283.2.2.2.1 2 a1 a1 (⟨#[]⟩ : ByteArray)).bind fun bt289 => (some (bt289.1, bt289.2.1, bt289.2.2.1, bt289.2.2.2.1, bt289.2.2.2.2.1, bt289.2.2.2.2.2.1, bt289.2.2.2.2.2.2.1, bt289.2.2.2.2.2.2.2.1, bt289.2.2.2.2.2.2.2.2.1, bt289.2.2.2.2.2.2.2.2.2.1, bt289.2.2.2.2.2.2.2.2.2.2))))
theorem closing_Door_Bad.calls (k : Nat) (g : Nat) (s0_0 : Bool) (s0_1 : Bool) (s0_2 : Int) (s0_3 : Int) (s0_4 : Int) (a1 : Int) (r1 : Bool) (r2 : Int) (r3 : Bool) (r4 : Int) (r5 : List Int) (r6 : Bool) (r7 : Bool) (r8 : Bool) (r9 : Int) (r10 : Int) (r11 : Int) (w0 w : World) (hI : IsS121 w0 w g s0_0 s0_1 s0_2 s0_3 s0_4) (hB : Below w0.heap.size w0 w) (h : closing_Door_Bad.f k s0_0 s0_1 s0_2 s0_3 s0_4 a1 = some (r1, r2, r3, r4, r5, r6, r7, r8, r9, r10, r11)) :
  Calls Tryz.prog 74 #[.pointer (some ⟨g, 0, none⟩), .int .u32 a1] w fun e w' => ∃ v4_ : Value, e = .returned (.tuple #[.agg #[.bool r1, .int .u8 r2, .bool r3, .int .u32 r4, v4_], .bool r6]) ∧ Kd.R (Kd.int .u8) 5 w' w.heap.size (fun _ => True) v4_ r5 ∧ IsS121 w0 w' g r7 r8 r9 r10 r11 ∧ Below w0.heap.size w0 w' ∧ KeepBut w w' g none := by
 have hf43_0 := field43_0
 have hf87_1 := field87_1
 have hu81 := Tryz.underlying81
 have hu43 := Tryz.underlying43
 have HI0 := a_ hI
 have HK := a_ (KeepBut.refl w g none)
 have HL := a_ hB.size
 clear hI
 have HW0 := a_ hB.size
 have HB := a_ hB
 clear hB
 have H : ((closing_Door_Through.f s0_0 s0_1 s0_2 s0_3 s0_4).bind fun bt283 => (if bt283.1 = true then (some (false, 0, false, 0, ([] : List Int), false, bt283.2.1, bt283.2.2.1, bt283.2.2.2.1, bt283.2.2.2.2.1, bt283.2.2.2.2.2)) else ((closing_Door_send.f k bt283.2.1 bt283.2.2.1 bt283.2.2.2.1 2 a1 a1 (⟨#[]⟩ : ByteArray)).bind fun bt289 => (some (bt289.1, bt289.2.1, bt289.2.2.1, bt289.2.2.2.1, bt289.2.2.2.2.1, bt289.2.2.2.2.2.1, bt289.2.2.2.2.2.2.1, bt289.2.2.2.2.2.2.2.1, bt289.2.2.2.2.2.2.2.2.1, bt289.2.2.2.2.2.2.2.2.2.1, bt289.2.2.2.2.2.2.2.2.2.2))))) = some (r1, r2, r3, r4, r5, r6, r7, r8, r9, r10, r11) := h
 clear h
 replace H := Option.bind_eq_some_iff.mp H
 obtain ⟨⟨t283, t284, t285, t286, t287, t288⟩, A30, H⟩ := H
 try dsimp only at H
 have A3 := a_ A30
 clear A30
 by_cases c4 : t283 = true
 ·subst c4
  rw [if_pos rfl] at H
  simp only [Option.some.injEq, Prod.mk.injEq] at H
  obtain ⟨rfl, rfl, rfl, rfl, rfl, rfl, rfl, rfl, rfl, rfl, rfl⟩ := H
  go_enter Tryz.func74, Tryz.ntmps74
  go_wp2_with (first | ((with_reducible refine gate_dst (N := 4) rfl ?_); refine box_event ?hg (N := 4) ?hd (cs := #[.bool false, .int .u8 0, .bool false, .int .u32 0, .slice none 0 0]) (t := 81) ?hr ?_; (case hd => rfl); (case hg => rfl); (case hr => first | (go_simp; done) | (go_simp; rfl)); intro gb282 hg w5 hbox hb; obtain ⟨HI0, HK, HB, BK282, GW282, GE282, NB0_282, NB282_0⟩ := And.intro (a_ (IsS121.below (by exact q4_ HI0.out) hb)) (And.intro (a_ (KeepBut.trans (by exact q5_ HK.out) (KeepBut.of_below hb g none) (.inl rfl))) (And.intro (a_ (below_step (by exact q3_ HB.out (IsS121.ge HI0.out)) hb)) (And.intro (a_ (hbox)) (And.intro (a_ ((by rw [hg]; exact (keep_size (w := w) (g := g) (row := none) (by exact q5_ HK.out)) : w.heap.size ≤ gb282))) (And.intro (a_ ((Nat.le_trans HW0.out (by rw [hg]; exact (keep_size (w := w) (g := g) (row := none) (by exact q5_ HK.out)) : w.heap.size ≤ gb282) : w0.heap.size ≤ gb282))) (And.intro (a_ ((by rw [hg]; exact Nat.ne_of_lt (IsS121.lt (show IsS121 w0 _ g s0_0 s0_1 s0_2 s0_3 s0_4 from by exact q4_ HI0.out)) : g ≠ gb282))) (a_ ((by rw [hg]; exact Nat.ne_of_gt (IsS121.lt (show IsS121 w0 _ g s0_0 s0_1 s0_2 s0_3 s0_4 from by exact q4_ HI0.out)) : gb282 ≠ g))))))))); clear hb hbox hg) | ((with_reducible refine gate_callee (f := 40) rfl ?_); refine goesL_ (some 7) rfl rfl Tryz.func40 (by kernel_rfl) rfl #[.pointer (some ⟨g, 0, none⟩)] rfl (by exact q1_) ?_; (with_reducible refine (closing_Door_Through.calls g s0_0 s0_1 s0_2 s0_3 s0_4 true t284 t285 t286 t287 t288 w0 _ ?side1 ?side2 A3.out).mono ?_); (case side1 => exact q6_ HI0.out NB0_282.out); (case side2 => exact q7_ HB.out (IsS121.ge HI0.out) GE282.out); rintro e w6 ⟨rfl, hi, hb, hk⟩; refine ⟨_, rfl, ?_⟩; obtain ⟨BK282, HK, HB, HI0⟩ := And.intro (a_ (KeepBut.blk hk (g' := gb282) (o := .cells #[.bool false, .int .u8 0, .bool false, .int .u32 0, .slice none 0 0] 81 (0, 0)) (by exact q10_ BK282.out) NB282_0.out (by simp))) (And.intro (a_ (KeepBut.trans (by exact q8_ HK.out GW282.out) hk (.inl rfl))) (And.intro (a_ (hb)) (a_ (hi)))); (try clear hb); (try clear hb2); (try clear hk); (try clear hi); have hnb7 := NB282_0.out; have hnc7 := NB0_282.out; obtain ⟨hcz8_0, hfz8_0, hcz8_1, hfz8_1, hcz8_2, hfz8_2, hcz8_3, hfz8_3, hcz8_4, hfz8_4⟩ := xf5_ BK282.out))
  refine bodyPost_ret (results_ct rfl _ _ gb282 81 #[.bool false, .int .u8 0, .bool false, .int .u32 0, .slice none 0 0] (0, 0) _ rfl (by (with_reducible repeat (first | refine blk_drewN ?_ _ | refine blk_drew ?_ | refine blk_alloc ?_ _)); refine blk_put (cs := #[.bool false, .int .u8 0, .bool false, .int .u32 0, .slice none 0 0]) ?_ 4 _ rfl; (with_reducible repeat (first | refine blk_drewN ?_ _ | refine blk_drew ?_ | refine blk_alloc ?_ _)); refine blk_put (cs := #[.bool false, .int .u8 0, .bool false, .int .u32 0, .slice none 0 0]) ?_ 3 _ rfl; (with_reducible repeat (first | refine blk_drewN ?_ _ | refine blk_drew ?_ | refine blk_alloc ?_ _)); refine blk_put (cs := #[.bool false, .int .u8 0, .bool false, .int .u32 0, .slice none 0 0]) ?_ 2 _ rfl; (with_reducible repeat (first | refine blk_drewN ?_ _ | refine blk_drew ?_ | refine blk_alloc ?_ _)); refine blk_put (cs := #[.bool false, .int .u8 0, .bool false, .int .u32 0, .slice none 0 0]) ?_ 1 _ rfl; (with_reducible repeat (first | refine blk_drewN ?_ _ | refine blk_drew ?_ | refine blk_alloc ?_ _)); refine blk_put (cs := #[.bool false, .int .u8 0, .bool false, .int .u32 0, .slice none 0 0]) ?_ 0 _ rfl; exact q10_ BK282.out) Tryz.underlying81 rfl (by kernel_rfl)) rfl ?_
  exact ⟨_, by exact q12_, by first | exact Kd.R_nil _ _ _ _ _ | exact Kd.N_nil _ _ _ _ _ | exact Kd.V_nil _ _ _ _ _ | exact Kd.Q_nil _ _ _ _ _ | exact Kd.S_nil _ _ _ _ _, by exact q6_ HI0.out NB0_282.out, by exact q7_ HB.out (IsS121.ge HI0.out) GE282.out, by exact q8_ HK.out GW282.out⟩
 ·replace c4 := Bool.eq_false_iff.mpr c4
  subst c4
  rw [if_neg (show ¬ (false = true) by decide)] at H
  replace H := Option.bind_eq_some_iff.mp H
  obtain ⟨⟨t289, t290, t291, t292, t293, t296, t297, t298, t299, t300, t301⟩, A90, H⟩ := H
  try dsimp only at H
  have A9 := a_ A90
  clear A90
  simp only [Option.some.injEq, Prod.mk.injEq] at H
  obtain ⟨rfl, rfl, rfl, rfl, rfl, rfl, rfl, rfl, rfl, rfl, rfl⟩ := H
  go_enter Tryz.func74, Tryz.ntmps74
  go_wp2_with (first | ((with_reducible refine gate_dst (N := 4) rfl ?_); refine box_event ?hg (N := 4) ?hd (cs := #[.bool false, .int .u8 0, .bool false, .int .u32 0, .slice none 0 0]) (t := 81) ?hr ?_; (case hd => rfl); (case hg => rfl); (case hr => first | (go_simp; done) | (go_simp; rfl)); intro gb282 hg w10 hbox hb; obtain ⟨HI0, HK, HB, BK282, GW282, GE282, NB0_282, NB282_0⟩ := And.intro (a_ (IsS121.below (by exact q4_ HI0.out) hb)) (And.intro (a_ (KeepBut.trans (by exact q5_ HK.out) (KeepBut.of_below hb g none) (.inl rfl))) (And.intro (a_ (below_step (by exact q3_ HB.out (IsS121.ge HI0.out)) hb)) (And.intro (a_ (hbox)) (And.intro (a_ ((by rw [hg]; exact (keep_size (w := w) (g := g) (row := none) (by exact q5_ HK.out)) : w.heap.size ≤ gb282))) (And.intro (a_ ((Nat.le_trans HW0.out (by rw [hg]; exact (keep_size (w := w) (g := g) (row := none) (by exact q5_ HK.out)) : w.heap.size ≤ gb282) : w0.heap.size ≤ gb282))) (And.intro (a_ ((by rw [hg]; exact Nat.ne_of_lt (IsS121.lt (show IsS121 w0 _ g s0_0 s0_1 s0_2 s0_3 s0_4 from by exact q4_ HI0.out)) : g ≠ gb282))) (a_ ((by rw [hg]; exact Nat.ne_of_gt (IsS121.lt (show IsS121 w0 _ g s0_0 s0_1 s0_2 s0_3 s0_4 from by exact q4_ HI0.out)) : gb282 ≠ g))))))))); clear hb hbox hg) | ((with_reducible refine gate_callee (f := 40) rfl ?_); refine goesL_ (some 7) rfl rfl Tryz.func40 (by kernel_rfl) rfl #[.pointer (some ⟨g, 0, none⟩)] rfl (by exact q1_) ?_; (with_reducible refine (closing_Door_Through.calls g s0_0 s0_1 s0_2 s0_3 s0_4 false t284 t285 t286 t287 t288 w0 _ ?side1 ?side2 A3.out).mono ?_); (case side1 => exact q6_ HI0.out NB0_282.out); (case side2 => exact q7_ HB.out (IsS121.ge HI0.out) GE282.out); rintro e w11 ⟨rfl, hi, hb, hk⟩; refine ⟨_, rfl, ?_⟩; obtain ⟨BK282, HK, HB, HI0⟩ := And.intro (a_ (KeepBut.blk hk (g' := gb282) (o := .cells #[.bool false, .int .u8 0, .bool false, .int .u32 0, .slice none 0 0] 81 (0, 0)) (by exact q10_ BK282.out) NB282_0.out (by simp))) (And.intro (a_ (KeepBut.trans (by exact q8_ HK.out GW282.out) hk (.inl rfl))) (And.intro (a_ (hb)) (a_ (hi)))); (try clear hb); (try clear hb2); (try clear hk); (try clear hi); obtain ⟨HGz12, hgz12⟩ := HI0.out; have hcz12_0 := cellS121_0 HGz12; have hcz12_1 := cellS121_1 HGz12; have hcz12_2 := cellS121_2 HGz12; have hcz12_3 := cellS121_3 HGz12; have hcz12_4 := cellS121_4 HGz12; obtain ⟨hfz12_0, hfz12_1, hfz12_2, hfz12_3, hfz12_4⟩ := xz5_ HGz12; clear HGz12 hgz12) | ((with_reducible refine gate_callee (f := 79) rfl ?_); refine goesL_ (some 16) rfl rfl Tryz.func79 (by kernel_rfl) rfl #[.pointer (some ⟨g, 0, none⟩), .int .u32 a1, .string (⟨#[]⟩ : ByteArray)] rfl (by exact q1_) ?_; (with_reducible refine (closing_Door_send.calls k g t284 t285 t286 2 a1 a1 (⟨#[]⟩ : ByteArray) t289 t290 t291 t292 t293 t296 t297 t298 t299 t300 t301 w0 _ ?side1 ?side2 A9.out).mono ?_); (case side1 => exact q6_ HI0.out NB0_282.out); (case side2 => exact q7_ HB.out (IsS121.ge HI0.out) GE282.out); rintro e w13 ⟨v294, rfl, ho0, hi, hb, hk⟩; refine ⟨_, rfl, ?_⟩; obtain ⟨BK282, HO295, HK, HB, HI0⟩ := And.intro (a_ (KeepBut.blk hk (g' := gb282) (o := .cells #[.bool false, .int .u8 0, .bool false, .int .u32 0, .slice none 0 0] 81 (0, 0)) (by exact q18_ BK282.out NB282_0.out NB282_0.out) NB282_0.out (by simp))) (And.intro (a_ (Kd.R_lower ho0 (keep_size (w := w) (g := g) (row := none) (by exact q8_ HK.out GW282.out)))) (And.intro (a_ (KeepBut.trans (by exact q8_ HK.out GW282.out) hk (.inl rfl))) (And.intro (a_ (hb)) (a_ (hi))))); (try clear hb); (try clear hb2); (try clear hk); (try clear hi); (try clear ho0); have hnb14 := NB282_0.out; have hnc14 := NB0_282.out; obtain ⟨hcz15_0, hfz15_0, hcz15_1, hfz15_1, hcz15_2, hfz15_2, hcz15_3, hfz15_3, hcz15_4, hfz15_4⟩ := xf5_ BK282.out; obtain ⟨Ao16, co16, eo16⟩ := Kd.R_slice HO295.out; subst eo16))
  refine bodyPost_ret (results_ct rfl _ _ gb282 81 #[.bool t289, .int .u8 t290, .bool t291, .int .u32 t292, .slice Ao16 t293.length co16] (0, 0) _ rfl (by (with_reducible repeat (first | refine blk_drewN ?_ _ | refine blk_drew ?_ | refine blk_alloc ?_ _)); refine blk_put (cs := #[.bool t289, .int .u8 t290, .bool t291, .int .u32 t292, .slice none 0 0]) ?_ 4 _ rfl; (with_reducible repeat (first | refine blk_drewN ?_ _ | refine blk_drew ?_ | refine blk_alloc ?_ _)); refine blk_put (cs := #[.bool t289, .int .u8 t290, .bool t291, .int .u32 0, .slice none 0 0]) ?_ 3 _ rfl; (with_reducible repeat (first | refine blk_drewN ?_ _ | refine blk_drew ?_ | refine blk_alloc ?_ _)); refine blk_put (cs := #[.bool t289, .int .u8 t290, .bool false, .int .u32 0, .slice none 0 0]) ?_ 2 _ rfl; (with_reducible repeat (first | refine blk_drewN ?_ _ | refine blk_drew ?_ | refine blk_alloc ?_ _)); refine blk_put (cs := #[.bool t289, .int .u8 0, .bool false, .int .u32 0, .slice none 0 0]) ?_ 1 _ rfl; (with_reducible repeat (first | refine blk_drewN ?_ _ | refine blk_drew ?_ | refine blk_alloc ?_ _)); refine blk_put (cs := #[.bool false, .int .u8 0, .bool false, .int .u32 0, .slice none 0 0]) ?_ 0 _ rfl; exact q10_ BK282.out) Tryz.underlying81 rfl (by kernel_rfl)) rfl ?_
  exact ⟨_, by exact q12_, by (with_reducible repeat (first | apply Kd.R_alloc | apply Kd.R_drewN | apply Kd.R_drew)); exact Kd.R_mono (Kd.R_far (p := ⟨gb282, 4, none⟩) (Kd.R_far (p := ⟨gb282, 3, none⟩) (Kd.R_far (p := ⟨gb282, 2, none⟩) (Kd.R_far (p := ⟨gb282, 1, none⟩) (Kd.R_far (p := ⟨gb282, 0, none⟩) (Kd.R_types HO295.out BK282.out (by decide)) (fun _ hk => hk.2) (.bool t289)) (fun _ hk => hk.2) (.int .u8 t290)) (fun _ hk => hk.2) (.bool t291)) (fun _ hk => hk.2) (.int .u32 t292)) (fun _ hk => hk.2) (.slice Ao16 t293.length co16)) (fun _ hk => trivial), by exact q6_ HI0.out NB0_282.out, by exact q7_ HB.out (IsS121.ge HI0.out) GE282.out, by exact q8_ HK.out GW282.out⟩
def closing_Door_ends.f (s0_0 : Bool) (s0_1 : Bool) (s0_2 : Int) (s0_3 : Int) (s0_4 : Int) : Option (Bool × Bool × Int × Int × Int) := if s0_0 = true then (if s0_1 = true then (if s0_3 = 0 then (some (s0_0, s0_1, s0_2, 1, s0_2)) else (some (s0_0, s0_1, s0_2, s0_3, s0_4))) else (some (s0_0, s0_1, s0_2, s0_3, s0_4))) else (some (s0_0, s0_1, s0_2, s0_3, s0_4))
theorem closing_Door_ends.calls (g : Nat) (s0_0 : Bool) (s0_1 : Bool) (s0_2 : Int) (s0_3 : Int) (s0_4 : Int) (r1 : Bool) (r2 : Bool) (r3 : Int) (r4 : Int) (r5 : Int) (w0 w : World) (hI : IsS121 w0 w g s0_0 s0_1 s0_2 s0_3 s0_4) (hB : Below w0.heap.size w0 w) (h : closing_Door_ends.f s0_0 s0_1 s0_2 s0_3 s0_4 = some (r1, r2, r3, r4, r5)) :
  Calls Tryz.prog 80 #[.pointer (some ⟨g, 0, none⟩)] w fun e w' => e = .returned (.tuple #[]) ∧ IsS121 w0 w' g r1 r2 r3 r4 r5 ∧ Below w0.heap.size w0 w' ∧ KeepBut w w' g none := by
 have hf43_0 := field43_0
 have hf87_1 := field87_1
 have hu43 := Tryz.underlying43
 have HI0 := a_ hI
 have HK := a_ (KeepBut.refl w g none)
 have HL := a_ hB.size
 clear hI
 have HW0 := a_ hB.size
 have HB := a_ hB
 clear hB
 have H : (if s0_0 = true then (if s0_1 = true then (if s0_3 = 0 then (some (s0_0, s0_1, s0_2, 1, s0_2)) else (some (s0_0, s0_1, s0_2, s0_3, s0_4))) else (some (s0_0, s0_1, s0_2, s0_3, s0_4))) else (some (s0_0, s0_1, s0_2, s0_3, s0_4))) = some (r1, r2, r3, r4, r5) := h
 clear h
 by_cases c2 : s0_0 = true
 ·subst c2
  rw [if_pos rfl] at H
  by_cases c3 : s0_1 = true
  ·subst c3
   rw [if_pos rfl] at H
   by_cases c4 : s0_3 = 0
   ·rw [if_pos c4] at H
    have c4b0 : (s0_3 == 0) = true := beq_iff_eq.mpr c4
    have c4b1 : (s0_3 != 0) = false := bne_eq_false_iff_eq.mpr c4
    clear c4
    simp only [Option.some.injEq, Prod.mk.injEq] at H
    obtain ⟨rfl, rfl, rfl, rfl, rfl⟩ := H
    obtain ⟨HGz5, hgz5⟩ := HI0.out
    have hcz5_0 := cellS121_0 HGz5
    have hcz5_1 := cellS121_1 HGz5
    have hcz5_2 := cellS121_2 HGz5
    have hcz5_3 := cellS121_3 HGz5
    have hcz5_4 := cellS121_4 HGz5
    have hfz5_0 := blk_frozen HGz5 0
    have hfz5_1 := blk_frozen HGz5 1
    have hfz5_2 := blk_frozen HGz5 2
    have hfz5_3 := blk_frozen HGz5 3
    have hfz5_4 := blk_frozen HGz5 4
    clear HGz5 hgz5
    go_enter Tryz.func80, Tryz.ntmps80
    go_wp2
    first | go_end0 | ((try simp only [Exit.inBlock, Exit.then]); refine bodyPost_ret (results_none rfl _ _ _) rfl ?_)
    exact ⟨by exact q12_, by first | ((exact q4_ HI0.out); done) | (rw [‹((_ : Int) == _) = _›]; ((exact q4_ HI0.out); done)) | (exact q4_ HI0.out), by exact q3_ HB.out (IsS121.ge HI0.out), by exact q5_ HK.out⟩
   ·rw [if_neg c4] at H
    have c4b0 : (s0_3 == 0) = false := nb_ c4
    have c4b1 : (s0_3 != 0) = true := bne_iff_ne.mpr c4
    simp only [Option.some.injEq, Prod.mk.injEq] at H
    obtain ⟨rfl, rfl, rfl, rfl, rfl⟩ := H
    obtain ⟨HGz6, hgz6⟩ := HI0.out
    have hcz6_0 := cellS121_0 HGz6
    have hcz6_1 := cellS121_1 HGz6
    have hcz6_2 := cellS121_2 HGz6
    have hcz6_3 := cellS121_3 HGz6
    have hcz6_4 := cellS121_4 HGz6
    have hfz6_0 := blk_frozen HGz6 0
    have hfz6_1 := blk_frozen HGz6 1
    have hfz6_2 := blk_frozen HGz6 2
    have hfz6_3 := blk_frozen HGz6 3
    have hfz6_4 := blk_frozen HGz6 4
    clear HGz6 hgz6
    go_enter Tryz.func80, Tryz.ntmps80
    go_wp2
    first | go_end0 | ((try simp only [Exit.inBlock, Exit.then]); refine bodyPost_ret (results_none rfl _ _ _) rfl ?_)
    exact ⟨by exact q12_, by first | ((exact q4_ HI0.out); done) | (rw [‹((_ : Int) == _) = _›]; ((exact q4_ HI0.out); done)) | (exact q4_ HI0.out), by exact q3_ HB.out (IsS121.ge HI0.out), by exact q5_ HK.out⟩
  ·replace c3 := Bool.eq_false_iff.mpr c3
   subst c3
   rw [if_neg (show ¬ (false = true) by decide)] at H
   simp only [Option.some.injEq, Prod.mk.injEq] at H
   obtain ⟨rfl, rfl, rfl, rfl, rfl⟩ := H
   obtain ⟨HGz7, hgz7⟩ := HI0.out
   have hcz7_0 := cellS121_0 HGz7
   have hcz7_1 := cellS121_1 HGz7
   have hcz7_2 := cellS121_2 HGz7
   have hcz7_3 := cellS121_3 HGz7
   have hcz7_4 := cellS121_4 HGz7
   have hfz7_0 := blk_frozen HGz7 0
   have hfz7_1 := blk_frozen HGz7 1
   have hfz7_2 := blk_frozen HGz7 2
   have hfz7_3 := blk_frozen HGz7 3
   have hfz7_4 := blk_frozen HGz7 4
   clear HGz7 hgz7
   go_enter Tryz.func80, Tryz.ntmps80
   go_wp2
   first | go_end0 | ((try simp only [Exit.inBlock, Exit.then]); refine bodyPost_ret (results_none rfl _ _ _) rfl ?_)
   exact ⟨by exact q12_, by first | ((exact q4_ HI0.out); done) | (rw [‹((_ : Int) == _) = _›]; ((exact q4_ HI0.out); done)) | (exact q4_ HI0.out), by exact q3_ HB.out (IsS121.ge HI0.out), by exact q5_ HK.out⟩
 ·replace c2 := Bool.eq_false_iff.mpr c2
  subst c2
  rw [if_neg (show ¬ (false = true) by decide)] at H
  simp only [Option.some.injEq, Prod.mk.injEq] at H
  obtain ⟨rfl, rfl, rfl, rfl, rfl⟩ := H
  obtain ⟨HGz8, hgz8⟩ := HI0.out
  have hcz8_0 := cellS121_0 HGz8
  have hcz8_1 := cellS121_1 HGz8
  have hcz8_2 := cellS121_2 HGz8
  have hcz8_3 := cellS121_3 HGz8
  have hcz8_4 := cellS121_4 HGz8
  have hfz8_0 := blk_frozen HGz8 0
  have hfz8_1 := blk_frozen HGz8 1
  have hfz8_2 := blk_frozen HGz8 2
  have hfz8_3 := blk_frozen HGz8 3
  have hfz8_4 := blk_frozen HGz8 4
  clear HGz8 hgz8
  go_enter Tryz.func80, Tryz.ntmps80
  go_wp2
  first | go_end0 | ((try simp only [Exit.inBlock, Exit.then]); refine bodyPost_ret (results_none rfl _ _ _) rfl ?_)
  exact ⟨by exact q12_, by first | ((exact q4_ HI0.out); done) | (rw [‹((_ : Int) == _) = _›]; ((exact q4_ HI0.out); done)) | (exact q4_ HI0.out), by exact q3_ HB.out (IsS121.ge HI0.out), by exact q5_ HK.out⟩
def closing_Door_Got.f (k : Nat) (s0_0 : Bool) (s0_1 : Bool) (s0_2 : Int) (s0_3 : Int) (s0_4 : Int) (a1 : Int) : Option (Bool × Int × Bool × Int × List Int × Bool × Bool × Bool × Int × Int × Int) := (closing_Door_Through.f s0_0 s0_1 s0_2 s0_3 s0_4).bind fun bt304 => (if bt304.1 = true then (some (false, 0, false, 0, ([] : List Int), false, bt304.2.1, bt304.2.2.1, bt304.2.2.2.1, bt304.2.2.2.2.1, bt304.2.2.2.2.2)) else ((closing_Door_send.f k bt304.2.1 true a1 bt304.2.2.2.2.1 bt304.2.2.2.2.2 a1 (⟨#[]⟩ : ByteArray)).bind fun bt310 => ((closing_Door_ends.f bt310.2.2.2.2.2.2.1 bt310.2.2.2.2.2.2.2.1 bt310.2.2.2.2.2.2.2.2.1 bt310.2.2.2.2.2.2.2.2.2.1 bt310.2.2.2.2.2.2.2.2.2.2).bind fun bt324 => (some (bt310.1, bt310.2.1, bt310.2.2.1, bt310.2.2.2.1, bt310.2.2.2.2.1, bt310.2.2.2.2.2.1, bt324.1, bt324.2.1, bt324.2.2.1, bt324.2.2.2.1, bt324.2.2.2.2)))))
theorem closing_Door_Got.calls (k : Nat) (g : Nat) (s0_0 : Bool) (s0_1 : Bool) (s0_2 : Int) (s0_3 : Int) (s0_4 : Int) (a1 : Int) (r1 : Bool) (r2 : Int) (r3 : Bool) (r4 : Int) (r5 : List Int) (r6 : Bool) (r7 : Bool) (r8 : Bool) (r9 : Int) (r10 : Int) (r11 : Int) (w0 w : World) (hI : IsS121 w0 w g s0_0 s0_1 s0_2 s0_3 s0_4) (hB : Below w0.heap.size w0 w) (h : closing_Door_Got.f k s0_0 s0_1 s0_2 s0_3 s0_4 a1 = some (r1, r2, r3, r4, r5, r6, r7, r8, r9, r10, r11)) :
  Calls Tryz.prog 78 #[.pointer (some ⟨g, 0, none⟩), .int .u32 a1] w fun e w' => ∃ v4_ : Value, e = .returned (.tuple #[.agg #[.bool r1, .int .u8 r2, .bool r3, .int .u32 r4, v4_], .bool r6]) ∧ Kd.R (Kd.int .u8) 5 w' w.heap.size (fun _ => True) v4_ r5 ∧ IsS121 w0 w' g r7 r8 r9 r10 r11 ∧ Below w0.heap.size w0 w' ∧ KeepBut w w' g none := by
 have hf43_0 := field43_0
 have hf87_1 := field87_1
 have hu81 := Tryz.underlying81
 have HI0 := a_ hI
 have HK := a_ (KeepBut.refl w g none)
 have HL := a_ hB.size
 clear hI
 have HW0 := a_ hB.size
 have HB := a_ hB
 clear hB
 have H : ((closing_Door_Through.f s0_0 s0_1 s0_2 s0_3 s0_4).bind fun bt304 => (if bt304.1 = true then (some (false, 0, false, 0, ([] : List Int), false, bt304.2.1, bt304.2.2.1, bt304.2.2.2.1, bt304.2.2.2.2.1, bt304.2.2.2.2.2)) else ((closing_Door_send.f k bt304.2.1 true a1 bt304.2.2.2.2.1 bt304.2.2.2.2.2 a1 (⟨#[]⟩ : ByteArray)).bind fun bt310 => ((closing_Door_ends.f bt310.2.2.2.2.2.2.1 bt310.2.2.2.2.2.2.2.1 bt310.2.2.2.2.2.2.2.2.1 bt310.2.2.2.2.2.2.2.2.2.1 bt310.2.2.2.2.2.2.2.2.2.2).bind fun bt324 => (some (bt310.1, bt310.2.1, bt310.2.2.1, bt310.2.2.2.1, bt310.2.2.2.2.1, bt310.2.2.2.2.2.1, bt324.1, bt324.2.1, bt324.2.2.1, bt324.2.2.2.1, bt324.2.2.2.2)))))) = some (r1, r2, r3, r4, r5, r6, r7, r8, r9, r10, r11) := h
 clear h
 replace H := Option.bind_eq_some_iff.mp H
 obtain ⟨⟨t304, t305, t306, t307, t308, t309⟩, A30, H⟩ := H
 try dsimp only at H
 have A3 := a_ A30
 clear A30
 by_cases c4 : t304 = true
 ·subst c4
  rw [if_pos rfl] at H
  simp only [Option.some.injEq, Prod.mk.injEq] at H
  obtain ⟨rfl, rfl, rfl, rfl, rfl, rfl, rfl, rfl, rfl, rfl, rfl⟩ := H
  go_enter Tryz.func78, Tryz.ntmps78
  go_wp2_with (first | ((with_reducible refine gate_dst (N := 4) rfl ?_); refine box_event ?hg (N := 4) ?hd (cs := #[.bool false, .int .u8 0, .bool false, .int .u32 0, .slice none 0 0]) (t := 81) ?hr ?_; (case hd => rfl); (case hg => rfl); (case hr => first | (go_simp; done) | (go_simp; rfl)); intro gb303 hg w5 hbox hb; obtain ⟨HI0, HK, HB, BK303, GW303, GE303, NB0_303, NB303_0⟩ := And.intro (a_ (IsS121.below (by exact q4_ HI0.out) hb)) (And.intro (a_ (KeepBut.trans (by exact q5_ HK.out) (KeepBut.of_below hb g none) (.inl rfl))) (And.intro (a_ (below_step (by exact q3_ HB.out (IsS121.ge HI0.out)) hb)) (And.intro (a_ (hbox)) (And.intro (a_ ((by rw [hg]; exact (keep_size (w := w) (g := g) (row := none) (by exact q5_ HK.out)) : w.heap.size ≤ gb303))) (And.intro (a_ ((Nat.le_trans HW0.out (by rw [hg]; exact (keep_size (w := w) (g := g) (row := none) (by exact q5_ HK.out)) : w.heap.size ≤ gb303) : w0.heap.size ≤ gb303))) (And.intro (a_ ((by rw [hg]; exact Nat.ne_of_lt (IsS121.lt (show IsS121 w0 _ g s0_0 s0_1 s0_2 s0_3 s0_4 from by exact q4_ HI0.out)) : g ≠ gb303))) (a_ ((by rw [hg]; exact Nat.ne_of_gt (IsS121.lt (show IsS121 w0 _ g s0_0 s0_1 s0_2 s0_3 s0_4 from by exact q4_ HI0.out)) : gb303 ≠ g))))))))); clear hb hbox hg) | ((with_reducible refine gate_callee (f := 40) rfl ?_); refine goesL_ (some 9) rfl rfl Tryz.func40 (by kernel_rfl) rfl #[.pointer (some ⟨g, 0, none⟩)] rfl (by exact q1_) ?_; (with_reducible refine (closing_Door_Through.calls g s0_0 s0_1 s0_2 s0_3 s0_4 true t305 t306 t307 t308 t309 w0 _ ?side1 ?side2 A3.out).mono ?_); (case side1 => exact q6_ HI0.out NB0_303.out); (case side2 => exact q7_ HB.out (IsS121.ge HI0.out) GE303.out); rintro e w6 ⟨rfl, hi, hb, hk⟩; refine ⟨_, rfl, ?_⟩; obtain ⟨BK303, HK, HB, HI0⟩ := And.intro (a_ (KeepBut.blk hk (g' := gb303) (o := .cells #[.bool false, .int .u8 0, .bool false, .int .u32 0, .slice none 0 0] 81 (0, 0)) (by exact q10_ BK303.out) NB303_0.out (by simp))) (And.intro (a_ (KeepBut.trans (by exact q8_ HK.out GW303.out) hk (.inl rfl))) (And.intro (a_ (hb)) (a_ (hi)))); (try clear hb); (try clear hb2); (try clear hk); (try clear hi); have hnb7 := NB303_0.out; have hnc7 := NB0_303.out; obtain ⟨hcz8_0, hfz8_0, hcz8_1, hfz8_1, hcz8_2, hfz8_2, hcz8_3, hfz8_3, hcz8_4, hfz8_4⟩ := xf5_ BK303.out))
  refine bodyPost_ret (results_ct rfl _ _ gb303 81 #[.bool false, .int .u8 0, .bool false, .int .u32 0, .slice none 0 0] (0, 0) _ rfl (by (with_reducible repeat (first | refine blk_drewN ?_ _ | refine blk_drew ?_ | refine blk_alloc ?_ _)); refine blk_put (cs := #[.bool false, .int .u8 0, .bool false, .int .u32 0, .slice none 0 0]) ?_ 4 _ rfl; (with_reducible repeat (first | refine blk_drewN ?_ _ | refine blk_drew ?_ | refine blk_alloc ?_ _)); refine blk_put (cs := #[.bool false, .int .u8 0, .bool false, .int .u32 0, .slice none 0 0]) ?_ 3 _ rfl; (with_reducible repeat (first | refine blk_drewN ?_ _ | refine blk_drew ?_ | refine blk_alloc ?_ _)); refine blk_put (cs := #[.bool false, .int .u8 0, .bool false, .int .u32 0, .slice none 0 0]) ?_ 2 _ rfl; (with_reducible repeat (first | refine blk_drewN ?_ _ | refine blk_drew ?_ | refine blk_alloc ?_ _)); refine blk_put (cs := #[.bool false, .int .u8 0, .bool false, .int .u32 0, .slice none 0 0]) ?_ 1 _ rfl; (with_reducible repeat (first | refine blk_drewN ?_ _ | refine blk_drew ?_ | refine blk_alloc ?_ _)); refine blk_put (cs := #[.bool false, .int .u8 0, .bool false, .int .u32 0, .slice none 0 0]) ?_ 0 _ rfl; exact q10_ BK303.out) Tryz.underlying81 rfl (by kernel_rfl)) rfl ?_
  exact ⟨_, by exact q12_, by first | exact Kd.R_nil _ _ _ _ _ | exact Kd.N_nil _ _ _ _ _ | exact Kd.V_nil _ _ _ _ _ | exact Kd.Q_nil _ _ _ _ _ | exact Kd.S_nil _ _ _ _ _, by exact q6_ HI0.out NB0_303.out, by exact q7_ HB.out (IsS121.ge HI0.out) GE303.out, by exact q8_ HK.out GW303.out⟩
 ·replace c4 := Bool.eq_false_iff.mpr c4
  subst c4
  rw [if_neg (show ¬ (false = true) by decide)] at H
  replace H := Option.bind_eq_some_iff.mp H
  obtain ⟨⟨t310, t311, t312, t313, t314, t317, t318, t319, t320, t321, t322⟩, A90, H⟩ := H
  try dsimp only at H
  have A9 := a_ A90
  clear A90
  replace H := Option.bind_eq_some_iff.mp H
  obtain ⟨⟨t324, t325, t326, t327, t328⟩, A100, H⟩ := H
  try dsimp only at H
  have A10 := a_ A100
  clear A100
  simp only [Option.some.injEq, Prod.mk.injEq] at H
  obtain ⟨rfl, rfl, rfl, rfl, rfl, rfl, rfl, rfl, rfl, rfl, rfl⟩ := H
  go_enter Tryz.func78, Tryz.ntmps78
  go_wp2_with (first | ((with_reducible refine gate_dst (N := 4) rfl ?_); refine box_event ?hg (N := 4) ?hd (cs := #[.bool false, .int .u8 0, .bool false, .int .u32 0, .slice none 0 0]) (t := 81) ?hr ?_; (case hd => rfl); (case hg => rfl); (case hr => first | (go_simp; done) | (go_simp; rfl)); intro gb303 hg w11 hbox hb; obtain ⟨HI0, HK, HB, BK303, GW303, GE303, NB0_303, NB303_0⟩ := And.intro (a_ (IsS121.below (by exact q4_ HI0.out) hb)) (And.intro (a_ (KeepBut.trans (by exact q5_ HK.out) (KeepBut.of_below hb g none) (.inl rfl))) (And.intro (a_ (below_step (by exact q3_ HB.out (IsS121.ge HI0.out)) hb)) (And.intro (a_ (hbox)) (And.intro (a_ ((by rw [hg]; exact (keep_size (w := w) (g := g) (row := none) (by exact q5_ HK.out)) : w.heap.size ≤ gb303))) (And.intro (a_ ((Nat.le_trans HW0.out (by rw [hg]; exact (keep_size (w := w) (g := g) (row := none) (by exact q5_ HK.out)) : w.heap.size ≤ gb303) : w0.heap.size ≤ gb303))) (And.intro (a_ ((by rw [hg]; exact Nat.ne_of_lt (IsS121.lt (show IsS121 w0 _ g s0_0 s0_1 s0_2 s0_3 s0_4 from by exact q4_ HI0.out)) : g ≠ gb303))) (a_ ((by rw [hg]; exact Nat.ne_of_gt (IsS121.lt (show IsS121 w0 _ g s0_0 s0_1 s0_2 s0_3 s0_4 from by exact q4_ HI0.out)) : gb303 ≠ g))))))))); clear hb hbox hg) | ((with_reducible refine gate_callee (f := 40) rfl ?_); refine goesL_ (some 9) rfl rfl Tryz.func40 (by kernel_rfl) rfl #[.pointer (some ⟨g, 0, none⟩)] rfl (by exact q1_) ?_; (with_reducible refine (closing_Door_Through.calls g s0_0 s0_1 s0_2 s0_3 s0_4 false t305 t306 t307 t308 t309 w0 _ ?side1 ?side2 A3.out).mono ?_); (case side1 => exact q6_ HI0.out NB0_303.out); (case side2 => exact q7_ HB.out (IsS121.ge HI0.out) GE303.out); rintro e w12 ⟨rfl, hi, hb, hk⟩; refine ⟨_, rfl, ?_⟩; obtain ⟨BK303, HK, HB, HI0⟩ := And.intro (a_ (KeepBut.blk hk (g' := gb303) (o := .cells #[.bool false, .int .u8 0, .bool false, .int .u32 0, .slice none 0 0] 81 (0, 0)) (by exact q10_ BK303.out) NB303_0.out (by simp))) (And.intro (a_ (KeepBut.trans (by exact q8_ HK.out GW303.out) hk (.inl rfl))) (And.intro (a_ (hb)) (a_ (hi)))); (try clear hb); (try clear hb2); (try clear hk); (try clear hi); obtain ⟨HGz13, hgz13⟩ := HI0.out; have hcz13_0 := cellS121_0 HGz13; have hcz13_1 := cellS121_1 HGz13; have hcz13_2 := cellS121_2 HGz13; have hcz13_3 := cellS121_3 HGz13; have hcz13_4 := cellS121_4 HGz13; obtain ⟨hfz13_0, hfz13_1, hfz13_2, hfz13_3, hfz13_4⟩ := xz5_ HGz13; clear HGz13 hgz13) | ((with_reducible refine gate_callee (f := 79) rfl ?_); refine goesL_ (some 21) rfl rfl Tryz.func79 (by kernel_rfl) rfl #[.pointer (some ⟨g, 0, none⟩), .int .u32 a1, .string (⟨#[]⟩ : ByteArray)] rfl (by exact q1_) ?_; (with_reducible refine (closing_Door_send.calls k g t305 true a1 t308 t309 a1 (⟨#[]⟩ : ByteArray) t310 t311 t312 t313 t314 t317 t318 t319 t320 t321 t322 w0 _ ?side1 ?side2 A9.out).mono ?_); (case side1 => exact q6_ HI0.out NB0_303.out); (case side2 => exact q7_ HB.out (IsS121.ge HI0.out) GE303.out); rintro e w14 ⟨v315, rfl, ho0, hi, hb, hk⟩; refine ⟨_, rfl, ?_⟩; obtain ⟨BK303, HO316, HK, HB, HI0⟩ := And.intro (a_ (KeepBut.blk hk (g' := gb303) (o := .cells #[.bool false, .int .u8 0, .bool false, .int .u32 0, .slice none 0 0] 81 (0, 0)) (by exact q18_ BK303.out NB303_0.out NB303_0.out) NB303_0.out (by simp))) (And.intro (a_ (Kd.R_lower ho0 (keep_size (w := w) (g := g) (row := none) (by exact q8_ HK.out GW303.out)))) (And.intro (a_ (KeepBut.trans (by exact q8_ HK.out GW303.out) hk (.inl rfl))) (And.intro (a_ (hb)) (a_ (hi))))); (try clear hb); (try clear hb2); (try clear hk); (try clear hi); (try clear ho0)) | ((with_reducible refine gate_dst (N := 6) rfl ?_); refine box_event ?hg (N := 6) ?hd (cs := #[.bool false, .int .u8 0, .bool false, .int .u32 0, .slice none 0 0]) (t := 81) ?hr ?_; (case hd => rfl); (case hg => rfl); (case hr => first | (go_simp; done) | (go_simp; rfl)); intro gb323 hg w15 hbox hb; obtain ⟨HO316, HI0, BK303, HK, HB, BK323, GW323, GE323, NB303_323, NB323_303, NB0_323, NB323_0⟩ := And.intro (a_ (Kd.R_below (by exact q11_ HO316.out) hb)) (And.intro (a_ (IsS121.below (by exact q6_ HI0.out NB0_303.out) hb)) (And.intro (a_ (blk_below (g := gb303) (o := .cells #[.bool false, .int .u8 0, .bool false, .int .u32 0, .slice none 0 0] 81 (0, 0)) (by exact q10_ BK303.out) hb)) (And.intro (a_ (KeepBut.trans (by exact q8_ HK.out GW303.out) (KeepBut.of_below hb g none) (.inl rfl))) (And.intro (a_ (below_step (by exact q7_ HB.out (IsS121.ge HI0.out) GE303.out) hb)) (And.intro (a_ (hbox)) (And.intro (a_ ((by rw [hg]; exact (keep_size (w := w) (g := g) (row := none) (by exact q8_ HK.out GW303.out)) : w.heap.size ≤ gb323))) (And.intro (a_ ((Nat.le_trans HW0.out (by rw [hg]; exact (keep_size (w := w) (g := g) (row := none) (by exact q8_ HK.out GW303.out)) : w.heap.size ≤ gb323) : w0.heap.size ≤ gb323))) (And.intro (a_ ((by rw [hg]; exact Nat.ne_of_lt (blk_lt (g := gb303) (o := .cells #[.bool false, .int .u8 0, .bool false, .int .u32 0, .slice none 0 0] 81 (0, 0)) (by exact q10_ BK303.out)) : gb303 ≠ gb323))) (And.intro (a_ ((by rw [hg]; exact Nat.ne_of_gt (blk_lt (g := gb303) (o := .cells #[.bool false, .int .u8 0, .bool false, .int .u32 0, .slice none 0 0] 81 (0, 0)) (by exact q10_ BK303.out)) : gb323 ≠ gb303))) (And.intro (a_ ((by rw [hg]; exact Nat.ne_of_lt (IsS121.lt (show IsS121 w0 _ g t318 t319 t320 t321 t322 from by exact q6_ HI0.out NB0_303.out)) : g ≠ gb323))) (a_ ((by rw [hg]; exact Nat.ne_of_gt (IsS121.lt (show IsS121 w0 _ g t318 t319 t320 t321 t322 from by exact q6_ HI0.out NB0_303.out)) : gb323 ≠ g))))))))))))); clear hb hbox hg; have hnb16 := NB323_303.out; have hnc16 := NB303_323.out; have hnb17 := NB323_0.out; have hnc17 := NB0_323.out; obtain ⟨hcz18_0, hfz18_0, hcz18_1, hfz18_1, hcz18_2, hfz18_2, hcz18_3, hfz18_3, hcz18_4, hfz18_4⟩ := xf5_ BK323.out; obtain ⟨Ao19, co19, eo19⟩ := Kd.R_slice HO316.out; subst eo19) | ((with_reducible refine gate_callee (f := 80) rfl ?_); refine goesL_ (some 25) rfl rfl Tryz.func80 (by kernel_rfl) rfl #[.pointer (some ⟨g, 0, none⟩)] rfl (by exact q1_) ?_; (with_reducible refine (closing_Door_ends.calls g t318 t319 t320 t321 t322 t324 t325 t326 t327 t328 w0 _ ?side1 ?side2 A10.out).mono ?_); (case side1 => exact q13_ HI0.out NB0_303.out NB0_323.out); (case side2 => exact q14_ HB.out (IsS121.ge HI0.out) GE303.out GE323.out); rintro e w20 ⟨rfl, hi, hb, hk⟩; refine ⟨_, rfl, ?_⟩; obtain ⟨BK303, HO316, BK323, HK, HB, HI0⟩ := And.intro (a_ (KeepBut.blk hk (g' := gb303) (o := .cells #[.bool false, .int .u8 0, .bool false, .int .u32 0, .slice none 0 0] 81 (0, 0)) (by exact q16_ BK303.out NB303_323.out NB303_323.out NB303_323.out NB303_323.out NB303_323.out) NB303_0.out (by simp))) (And.intro (a_ (Kd.R_mono (Kd.R_keep (IsS121.apart (show IsS121 w0 _ g t318 t319 t320 t321 t322 from by exact q13_ HI0.out NB0_303.out NB0_323.out) (by (with_reducible repeat (first | apply Kd.R_alloc | apply Kd.R_drewN | apply Kd.R_drew)); exact (Kd.R_mono (Kd.R_far (p := ⟨gb323, 4, none⟩) (Kd.R_far (p := ⟨gb323, 3, none⟩) (Kd.R_far (p := ⟨gb323, 2, none⟩) (Kd.R_far (p := ⟨gb323, 1, none⟩) (Kd.R_far (p := ⟨gb323, 0, none⟩) (Kd.R_types HO316.out BK323.out (by decide)) (fun _ hk => hk.2) (.bool t310)) (fun _ hk => hk.2) (.int .u8 t311)) (fun _ hk => hk.2) (.bool t312)) (fun _ hk => hk.2) (.int .u32 t313)) (fun _ hk => hk.2) (.slice Ao19 t314.length co19)) (fun _ h_ => h_.1))) (by decide)) hk (fun _ h => h.2)) (fun _ h => h.1))) (And.intro (a_ (KeepBut.blk hk (g' := gb323) (o := .cells #[.bool t310, .int .u8 t311, .bool t312, .int .u32 t313, .slice Ao19 t314.length co19] 81 (0, 0)) (by (with_reducible repeat (first | refine blk_drewN ?_ _ | refine blk_drew ?_ | refine blk_alloc ?_ _)); refine blk_put (cs := #[.bool t310, .int .u8 t311, .bool t312, .int .u32 t313, .slice none 0 0]) ?_ 4 _ rfl; (with_reducible repeat (first | refine blk_drewN ?_ _ | refine blk_drew ?_ | refine blk_alloc ?_ _)); refine blk_put (cs := #[.bool t310, .int .u8 t311, .bool t312, .int .u32 0, .slice none 0 0]) ?_ 3 _ rfl; (with_reducible repeat (first | refine blk_drewN ?_ _ | refine blk_drew ?_ | refine blk_alloc ?_ _)); refine blk_put (cs := #[.bool t310, .int .u8 t311, .bool false, .int .u32 0, .slice none 0 0]) ?_ 2 _ rfl; (with_reducible repeat (first | refine blk_drewN ?_ _ | refine blk_drew ?_ | refine blk_alloc ?_ _)); refine blk_put (cs := #[.bool t310, .int .u8 0, .bool false, .int .u32 0, .slice none 0 0]) ?_ 1 _ rfl; (with_reducible repeat (first | refine blk_drewN ?_ _ | refine blk_drew ?_ | refine blk_alloc ?_ _)); refine blk_put (cs := #[.bool false, .int .u8 0, .bool false, .int .u32 0, .slice none 0 0]) ?_ 0 _ rfl; exact q10_ BK323.out) NB323_0.out (by simp))) (And.intro (a_ (KeepBut.trans (by exact q15_ HK.out GW303.out GW323.out) hk (.inl rfl))) (And.intro (a_ (hb)) (a_ (hi)))))); (try clear hb); (try clear hb2); (try clear hk); (try clear hi); obtain ⟨hcz21_0, hfz21_0, hcz21_1, hfz21_1, hcz21_2, hfz21_2, hcz21_3, hfz21_3, hcz21_4, hfz21_4⟩ := xf5_ BK323.out; have hnb22 := NB303_0.out; have hnc22 := NB0_303.out; obtain ⟨hcz23_0, hfz23_0, hcz23_1, hfz23_1, hcz23_2, hfz23_2, hcz23_3, hfz23_3, hcz23_4, hfz23_4⟩ := xf5_ BK303.out))
  refine bodyPost_ret (results_ct rfl _ _ gb303 81 #[.bool t310, .int .u8 t311, .bool t312, .int .u32 t313, .slice Ao19 t314.length co19] (0, 0) _ rfl (by (with_reducible repeat (first | refine blk_drewN ?_ _ | refine blk_drew ?_ | refine blk_alloc ?_ _)); refine blk_put (cs := #[.bool t310, .int .u8 t311, .bool t312, .int .u32 t313, .slice none 0 0]) ?_ 4 _ rfl; (with_reducible repeat (first | refine blk_drewN ?_ _ | refine blk_drew ?_ | refine blk_alloc ?_ _)); refine blk_put (cs := #[.bool t310, .int .u8 t311, .bool t312, .int .u32 0, .slice none 0 0]) ?_ 3 _ rfl; (with_reducible repeat (first | refine blk_drewN ?_ _ | refine blk_drew ?_ | refine blk_alloc ?_ _)); refine blk_put (cs := #[.bool t310, .int .u8 t311, .bool false, .int .u32 0, .slice none 0 0]) ?_ 2 _ rfl; (with_reducible repeat (first | refine blk_drewN ?_ _ | refine blk_drew ?_ | refine blk_alloc ?_ _)); refine blk_put (cs := #[.bool t310, .int .u8 0, .bool false, .int .u32 0, .slice none 0 0]) ?_ 1 _ rfl; (with_reducible repeat (first | refine blk_drewN ?_ _ | refine blk_drew ?_ | refine blk_alloc ?_ _)); refine blk_put (cs := #[.bool false, .int .u8 0, .bool false, .int .u32 0, .slice none 0 0]) ?_ 0 _ rfl; exact q10_ BK303.out) Tryz.underlying81 rfl (by kernel_rfl)) rfl ?_
  exact ⟨_, by exact q12_, by (with_reducible repeat (first | apply Kd.R_alloc | apply Kd.R_drewN | apply Kd.R_drew)); exact Kd.R_mono (Kd.R_far (p := ⟨gb303, 4, none⟩) (Kd.R_far (p := ⟨gb303, 3, none⟩) (Kd.R_far (p := ⟨gb303, 2, none⟩) (Kd.R_far (p := ⟨gb303, 1, none⟩) (Kd.R_far (p := ⟨gb303, 0, none⟩) (Kd.R_types HO316.out BK303.out (by decide)) (fun _ hk => hk.2) (.bool t310)) (fun _ hk => hk.2) (.int .u8 t311)) (fun _ hk => hk.2) (.bool t312)) (fun _ hk => hk.2) (.int .u32 t313)) (fun _ hk => hk.2) (.slice Ao19 t314.length co19)) (fun _ hk => trivial), by exact q13_ HI0.out NB0_303.out NB0_323.out, by exact q14_ HB.out (IsS121.ge HI0.out) GE303.out GE323.out, by exact q15_ HK.out GW303.out GW323.out⟩
end Go.Proofs.YtpmeapdcjmaeiaaGreatDoor.PAll
namespace Go.Proofs.YtpmeapdcjmaeiaaGreatDoor
open Go.RowKit Go.Wa Go.Wb Go.Wc PAll
def IsG (W : World) (g : Nat) (v : Value) (busy text : Bool) (u : Value) (over : Bool) : Prop := W.heap[g]? = some (.cells #[v, .bool busy, .bool text, u, .bool over] 119 (0, 0))
theorem IsG.far {W : World} {g : Nat} {v u : Value} {busy text over : Bool} {p : Addr} {x : Value} (h : IsG W g v busy text u over) (hne : g ≠ p.block) : IsG (W.setCell p x) g v busy text u over := (Below.heap_setCell W p x g hne).trans h
theorem gnew_any (w : World) : Calls Tryz.prog 32 #[] w fun e w' => e = .returned (.pointer (some ⟨w.heap.size, 0, none⟩)) ∧ IsG w' w.heap.size (.slice none 0 0) false false (.pointer none) false ∧ Below w.heap.size w w' := by
 go_enter Tryz.func32, Tryz.ntmps32
 go_wp2
 go_ret
 exact ⟨rfl, last_at _ _ _ rfl, below_alloc (Below.refl _ _) _⟩
theorem over_any (g : Nat) (v u : Value) (busy text over : Bool) (w : World) (h : IsG w g v busy text u over) : Calls Tryz.prog 75 #[.pointer (some ⟨g, 0, none⟩)] w fun e w' => e = .returned (.bool over) ∧ w' = w := by
 have h4 : w.cell? ⟨g, 4, none⟩ = some (.bool over) := (blk_cell h 4).trans rfl
 go_enter Tryz.func75, Tryz.ntmps75
 go_wp2
 go_ret
 exact ⟨rfl, rfl⟩
def ClosesTo (l d : List Int) (code : Int) : Prop := ∀ (A : Option Addr) (c : Nat) (w : World), Kd.C (Kd.int .u8) w A l.length l → l.length ≤ c → Calls Tryz.prog 104 #[.slice A l.length c] w fun e w' => ∃ v, e = .returned (.tuple #[.agg #[.int .u8 4, .bool false, v, .int .u32 code], .nilIface]) ∧ Kd.R (Kd.int .u8) 5 w' w.heap.size (fun _ => True) v d ∧ Below w.heap.size w w'
theorem closes_none : ClosesTo [] [] 1005 := by
 intro A c w hC hc
 have hu30 := Tryz.underlying37
 go_enter Tryz.func104, Tryz.ntmps104
 go_wp2_with fail
 exact bodyPost_ret (v := .tuple #[.agg #[.int .u8 4, .bool false, .slice none 0 0, .int .u32 1005], .nilIface]) (by simp [results, Tryz.results104, go_sem]) rfl ⟨_, rfl, Kd.R_nil _ _ _ _ _, by repeat (first | exact Below.refl _ _ | apply below_alloc | refine Below.setCell ?_ (Nat.le_refl _) _)⟩
theorem closes_ok (h0 h1 : Int) (r : List Int) (code : Int) (k : Nat) (b0 : 0 ≤ h0) (b0' : h0 ≤ 255) (b1 : 0 ≤ h1) (b1' : h1 ≤ 255) (hcode : Go.bits .or .u32 (h0 * 256) h1 = code) (ht : toldB code = true) (hv : utf_Valid.f k r = some true) (hrl : r.length ≤ 140737488351232) : ClosesTo (h0 :: h1 :: r) r code := by
 intro A c w hC hc
 have hu30 := Tryz.underlying37
 have hlen : (h0 :: h1 :: r).length = r.length + 2 := by simp
 obtain ⟨ad, rfl, hx0⟩ := Kd.at_int hC 0 (by decide) (by simp; omega)
 obtain ⟨ad2, e2, hx1⟩ := Kd.at_int hC 1 (by decide) (by simp; omega)
 injection e2 with e2
 subst e2
 have y0 : w.cell? ad = some (.int .u8 h0) := hx0
 have y1 : w.cell? ⟨ad.block, ad.off + 1, none⟩ = some (.int .u8 h1) := hx1
 clear hx0 hx1
 have HC := a_ hC
 clear hC
 have e0 : IntKind.u32.wrap h0 = h0 := by simp [IntKind.wrap, IntKind.bits, IntKind.signed]; omega
 have e1 : IntKind.u32.wrap h1 = h1 := by simp [IntKind.wrap, IntKind.bits, IntKind.signed]; omega
 have e3 : IntKind.u32.wrap (h0 * 256) = h0 * 256 := by simp [IntKind.wrap, IntKind.bits, IntKind.signed]; omega
 have p0 : (0 : Int) < (r.length : Int) + 1 + 1 := by omega
 have p1 : (1 : Int) < (r.length : Int) + 1 + 1 := by omega
 have p2 : (2 : Int) ≤ (r.length : Int) + 1 + 1 := by omega
 have z0 : (((r.length : Int) + 1 + 1) == 0) = false := nb_ (by omega)
 have z1 : (((r.length : Int) + 1 + 1) == 1) = false := nb_ (by omega)
 go_enter Tryz.func104, Tryz.ntmps104
 go_wp2_with fail
 refine wp_region_noPanic ?_
 refine wp_region_held_drew (S := fun w' => Aside0 (Below w.heap.size w w') ∧ w'.cell? ad = some (.int .u8 h0) ∧ w'.cell? ⟨ad.block, ad.off + 1, none⟩ = some (.int .u8 h1)) (by kernel_rfl) (⟨⟨below_drew (below_alloc (Below.refl _ _) _)⟩, ((below_drew (below_alloc (Below.refl w.heap.size w) _)).cell (World.block_lt_of_cell? _ _ y0)).trans y0, ((below_drew (below_alloc (Below.refl w.heap.size w) _)).cell (World.block_lt_of_cell? _ _ y1)).trans y1⟩) (fun hHeld => ?_)
 refine takeP 0 14 ?_
 refine takeP 1 15 ?_
 refine takeP 2 16 ?_
 refine takeP 3 17 ?_
 refine takeP 4 18 ?_
 refine takeP 5 19 ?_
 refine takeP 6 20 ?_
 refine takeP 7 21 ?_
 refine takeP 8 22 ?_
 refine takeP 9 23 ?_
 refine takeP 10 4 ?_
 refine wpAnyH_done (by kernel_rfl) ?_ _
 refine NoPanic.normal ?_
 have HB := a_ hHeld.1.out
 clear hHeld
 have hr : ((w.alloc (.cells #[.int .u8 0, .bool false, .slice none 0 0, .int .u32 0] 37)).drew).heap[w.heap.size]? = some (.cells #[.int .u8 0, .bool false, .slice none 0 0, .int .u32 0] 37 (0, 0)) := blk_drew (last_at _ _ _ rfl)
 generalize (w.alloc (.cells #[.int .u8 0, .bool false, .slice none 0 0, .int .u32 0] 37)).drew = w1 at HB hr ⊢
 have hc' : r.length + 2 ≤ c := by rw [hlen] at hc; exact hc
 clear hc
 by_cases hc2 : c = 2
 ·subst hc2
  have HC2 : Aside0 ((Kd.int .u8).C w (some ad) r.length r) := ⟨by
   have h := Kd.C_drop (m := 2) (c := 2) HC.out (by simp) (by rw [hlen]; omega)
   rw [if_pos rfl] at h
   exact h⟩
  have hc3 : r.length ≤ 0 := by omega
  have hr0 : r.length = 0 := by omega
  go_wp2_with fail
  refine (message_Told.calls code true _ (by show some (toldB code) = some true; rw [ht])).mono ?_
  rintro e w2 ⟨rfl, hb⟩
  have hr2 : w2.heap[w.heap.size]? = _ := blk_below hr hb
  replace HB := a_ (below_step HB.out hb)
  clear hb hr
  go_wp2_with fail
  refine (calls_of_args (by rw [hr0]) (utf_Valid.calls k (some ad) (0) r true _ (Kd.C_below HC2.out HB.out) hc3 hv)).mono ?_
  rintro e w3 ⟨rfl, hb⟩
  have hr3 : w3.heap[w.heap.size]? = _ := blk_below hr2 hb
  replace HB := a_ (below_step HB.out hb)
  clear hb hr2
  go_wp2_with fail
  refine (calls_of_args (by rw [hr0]) (bytes_Clone.calls (some ad) (0) r r _ (Kd.C_below HC2.out HB.out) hc3 (by unfold bytes_Clone.f; rw [if_pos (by omega)]))).mono ?_
  rintro e w4 ⟨v, rfl, ho, hb⟩
  have hr4 : w4.heap[w.heap.size]? = some (.cells #[.int .u8 0, .bool false, .slice none 0 0, .int .u32 0] 37 (0, 0)) := blk_below hr3 hb
  have hR := Kd.R_types (Kd.R_lower ho HB.out.size) hr4 (by intro q hq; simp [Kd.int, Kd.scalar] at hq; omega)
  obtain ⟨Av, cv, rfl⟩ := Kd.R_slice hR
  have HR := a_ hR
  replace HB := a_ (below_step HB.out hb)
  clear hb hr3 ho hR
  obtain ⟨rc0, rf0, rc1, rf1, rc2, rf2, rc3, rf3⟩ := xf4_ hr4
  have rl : w.heap.size < w4.heap.size := blk_lt hr4
  have hle : w.heap.size ≤ w.heap.size := Nat.le_refl _
  go_wp2_with fail
  exact bodyPost_ret (v := .tuple #[.agg #[.int .u8 4, .bool false, .slice Av r.length cv, .int .u32 code], .nilIface]) (by simp [results, Tryz.results104, go_sem, rc0, rc1, rc2, rc3, hr0]) rfl ⟨_, rfl, Kd.R_mono (Kd.R_far (Kd.R_far (Kd.R_far (Kd.R_far HR.out (fun k hk => hk.2) _) (fun k hk => hk.2) _) (fun k hk => hk.2) _) (fun k hk => hk.2) _) (fun _ _ => trivial), (Below.setCell (Below.setCell (Below.setCell (Below.setCell HB.out hle _) hle _) hle _) hle _)⟩
 ·have hc5 : (2 : Int) ≤ (c : Int) := by omega
  have hc6 : (c == 2) = false := nb_ hc2
  have HC2 : Aside0 ((Kd.int .u8).C w (some ⟨ad.block, ad.off + 2, none⟩) r.length r) := ⟨by
   have h := Kd.C_drop (m := 2) (c := c) HC.out (by simp) (by rw [hlen]; omega)
   rw [if_neg hc2] at h
   exact h⟩
  have hc3 : r.length ≤ c - 2 := by omega
  go_wp2_with fail
  refine (message_Told.calls code true _ (by show some (toldB code) = some true; rw [ht])).mono ?_
  rintro e w2 ⟨rfl, hb⟩
  have hr2 : w2.heap[w.heap.size]? = _ := blk_below hr hb
  replace HB := a_ (below_step HB.out hb)
  clear hb hr
  go_wp2_with fail
  refine ((utf_Valid.calls k (some ⟨ad.block, ad.off + 2, none⟩) (c - 2) r true _ (Kd.C_below HC2.out HB.out) hc3 hv)).mono ?_
  rintro e w3 ⟨rfl, hb⟩
  have hr3 : w3.heap[w.heap.size]? = _ := blk_below hr2 hb
  replace HB := a_ (below_step HB.out hb)
  clear hb hr2
  go_wp2_with fail
  refine ((bytes_Clone.calls (some ⟨ad.block, ad.off + 2, none⟩) (c - 2) r r _ (Kd.C_below HC2.out HB.out) hc3 (by unfold bytes_Clone.f; rw [if_pos (by omega)]))).mono ?_
  rintro e w4 ⟨v, rfl, ho, hb⟩
  have hr4 : w4.heap[w.heap.size]? = some (.cells #[.int .u8 0, .bool false, .slice none 0 0, .int .u32 0] 37 (0, 0)) := blk_below hr3 hb
  have hR := Kd.R_types (Kd.R_lower ho HB.out.size) hr4 (by intro q hq; simp [Kd.int, Kd.scalar] at hq; omega)
  obtain ⟨Av, cv, rfl⟩ := Kd.R_slice hR
  have HR := a_ hR
  replace HB := a_ (below_step HB.out hb)
  clear hb hr3 ho hR
  obtain ⟨rc0, rf0, rc1, rf1, rc2, rf2, rc3, rf3⟩ := xf4_ hr4
  have rl : w.heap.size < w4.heap.size := blk_lt hr4
  have hle : w.heap.size ≤ w.heap.size := Nat.le_refl _
  go_wp2_with fail
  exact bodyPost_ret (v := .tuple #[.agg #[.int .u8 4, .bool false, .slice Av r.length cv, .int .u32 code], .nilIface]) (by simp [results, Tryz.results104, go_sem, rc0, rc1, rc2, rc3]) rfl ⟨_, rfl, Kd.R_mono (Kd.R_far (Kd.R_far (Kd.R_far (Kd.R_far HR.out (fun k hk => hk.2) _) (fun k hk => hk.2) _) (fun k hk => hk.2) _) (fun k hk => hk.2) _) (fun _ _ => trivial), (Below.setCell (Below.setCell (Below.setCell (Below.setCell HB.out hle _) hle _) hle _) hle _)⟩
end Go.Proofs.YtpmeapdcjmaeiaaGreatDoor
namespace Go.Proofs.YtpmeapdcjmaeiaaGreatDoor
open Go.RowKit Go.Wa Go.Wb Go.Wc
theorem C_at {k : IntKind} {W W' : World} {ad : Addr} {n : Nat} {xs : List Int} (h : Kd.C (Kd.int k) W (some ad) n xs) (hb : W'.heap[ad.block]? = W.heap[ad.block]?) : Kd.C (Kd.int k) W' (some ad) n xs := by
 have hr : ReadsInt W k (some ad) n xs := Kd.reads_of_C h
 refine Kd.C_of_reads (d := (0 : Int)) (h1 := fun _ => rfl) ⟨hr.1, hr.2.1, fun hp => ?_⟩
 obtain ⟨a, e, hc⟩ := hr.2.2 hp
 injection e with e
 subst e
 refine ⟨_, rfl, fun j hj => ?_⟩
 have hbl : W'.heap[(ad.add j).block]? = W.heap[(ad.add j).block]? := by rw [add_block]; exact hb
 rw [World.cell?_of_block hbl]
 exact hc j hj
theorem C_none {k : IntKind} {W W' : World} {n : Nat} {xs : List Int} (h : Kd.C (Kd.int k) W none n xs) : Kd.C (Kd.int k) W' none n xs := by
 have hr : ReadsInt W k none n xs := Kd.reads_of_C h
 refine Kd.C_of_reads (d := (0 : Int)) (h1 := fun _ => rfl) ⟨hr.1, hr.2.1, fun hp => ?_⟩
 obtain ⟨a, e, hc⟩ := hr.2.2 hp
 cases e
def Dat (W : World) (v : Value) (xs : List Int) : Prop := ∃ A c, v = .slice A xs.length c ∧ xs.length ≤ c ∧ Kd.C (Kd.int .u8) W A xs.length xs ∧ ∀ ad, A = some ad → ∃ cells fr, W.heap[ad.block]? = some (.cells cells 5 fr)
theorem Dat.keep {W W' : World} {v : Value} {xs : List Int} (h : Dat W v xs) (hk : ∀ k, v.ownBlock = some k → W'.heap[k]? = W.heap[k]?) : Dat W' v xs := by
 obtain ⟨A, c, rfl, hc, hC, hb⟩ := h
 cases A with
 | none => exact ⟨none, c, rfl, hc, C_none hC, fun ad e => by cases e⟩
 | some ad =>
  have e := hk ad.block rfl
  refine ⟨some ad, c, rfl, hc, C_at hC e, fun a ha => ?_⟩
  injection ha with ha
  subst ha
  rw [e]
  exact hb ad rfl
theorem Dat.typed {W : World} {v : Value} {xs : List Int} (h : Dat W v xs) {k : Nat} (hk : v.ownBlock = some k) : ∃ cells fr, W.heap[k]? = some (.cells cells 5 fr) := by
 obtain ⟨A, c, rfl, hc, hC, hb⟩ := h
 cases A with
 | none => cases hk
 | some ad =>
  injection hk with hk
  subst hk
  exact hb ad rfl
theorem Dat.lt {W : World} {v : Value} {xs : List Int} (h : Dat W v xs) {k : Nat} (hk : v.ownBlock = some k) : k < W.heap.size := by
 obtain ⟨_, _, h⟩ := h.typed hk
 exact blk_lt h
theorem Dat.below {W W' : World} {v : Value} {xs : List Int} (h : Dat W v xs) (hb : Below W.heap.size W W') : Dat W' v xs := h.keep (fun k hk => hb.block k (h.lt hk))
theorem Dat.of_row {W : World} {base : Nat} {ok : Nat → Prop} {v : Value} {xs : List Int} (h : Kd.R (Kd.int .u8) 5 W base ok v xs) : Dat W v xs := by
 obtain ⟨A, c, rfl⟩ := Kd.R_slice h
 obtain ⟨_, h1, h2⟩ := Kd.R_reads' h
 refine ⟨A, c, rfl, h1, h2, fun ad e => ?_⟩
 subst e
 obtain ⟨cells, h3⟩ := Kd.R_typed h ad.block rfl
 exact ⟨cells, _, h3⟩
theorem Dat.C {W : World} {A : Option Addr} {n c : Nat} {xs : List Int} (h : Dat W (.slice A n c) xs) : Kd.C (Kd.int .u8) W A xs.length xs := by
 obtain ⟨B, c', e, _, hC, _⟩ := h
 injection e with e1 _ _
 rw [e1]
 exact hC
theorem Dat.le {W : World} {A : Option Addr} {n c : Nat} {xs : List Int} (h : Dat W (.slice A n c) xs) : xs.length ≤ c := by
 obtain ⟨B, c', e, hl, _, _⟩ := h
 injection e with _ _ e3
 omega
theorem Dat.off {W : World} {A : Option Addr} {n c k t : Nat} {xs : List Int} {cs : Array Value} (h : Dat W (.slice A n c) xs) (hk : W.heap[k]? = some (.cells cs t (0, 0))) (ht : t ≠ 5 := by decide) : ∀ ad, A = some ad → 0 < xs.length → ad.block ≠ k := by
 intro ad e _ e2
 obtain ⟨c1, fr, h1⟩ := h.typed (k := k) (by rw [e, ← e2]; rfl)
 rw [hk] at h1
 injection h1 with h1
 injection h1 with _ h1 _
 exact ht h1
theorem cut_left (A : Option Addr) (c k : Nat) (lx : List Int) (hk : k ≤ lx.length) (hc : lx.length ≤ c) : ∃ A' c', (∀ W : World, (Instr.slice 27 (.slice A lx.length c) (some (.int .i64 (k : Int))) none none).run Tryz.prog W = .ok (.slice A' (lx.drop k).length c') W) ∧ (∀ W, Kd.C (Kd.int .u8) W A lx.length lx → Kd.C (Kd.int .u8) W A' (lx.drop k).length (lx.drop k)) ∧ (lx.drop k).length ≤ c' := by
 have hd : (Tryz.prog.info? 5).map (fun i => i.size) = some 1 := by kernel_rfl
 obtain ⟨i_, hi_⟩ : ∃ i, Tryz.prog.info? 5 = some i := by
  have h : (Tryz.prog.info? 5).isSome = true := by kernel_rfl
  exact Option.isSome_iff_exists.1 h
 have hsz_ : i_.size = 1 := by
  rw [hi_] at hd
  exact Option.some.inj hd
 obtain ⟨A', h1, h2, h3⟩ := print_cut_int (P := Tryz.prog) (k := .u8) 27 5 Tryz.underlying27 hi_ hsz_ A c lx (k : Int) (by omega) (by omega) hc
 rw [Int.toNat_natCast] at h1 h2 h3
 exact ⟨A', _, h1, fun W h => Kd.C_of_reads (d := (0 : Int)) (h1 := fun _ => rfl) (h2 W (Kd.reads_of_C h)), h3⟩
end Go.Proofs.YtpmeapdcjmaeiaaGreatDoor
namespace Go.Proofs.YtpmeapdcjmaeiaaGreatDoor.U
abbrev St := Int × Int × Int
def s0 : St := (0, 128, 191)
def firstC (b : Int) : Bool × St :=
 if b < 128 then (true, 0, 128, 191)
 else if 194 ≤ b ∧ b ≤ 223 then (true, 1, 128, 191)
 else if b = 224 then (true, 2, 160, 191)
 else if b = 237 then (true, 2, 128, 159)
 else if 225 ≤ b ∧ b ≤ 239 then (true, 2, 128, 191)
 else if b = 240 then (true, 3, 144, 191)
 else if b = 244 then (true, 3, 128, 143)
 else if 241 ≤ b ∧ b ≤ 243 then (true, 3, 128, 191)
 else (false, 0, 128, 191)
def oneC (s : St) (b : Int) : Bool × St :=
 if s.1 = 0 then firstC b else if b < s.2.1 ∨ s.2.2 < b then (false, s) else (true, s.1 - 1, 128, 191)
def feedC (s : St) : List Int → Nat × St × Bool
 | [] => (0, s, false)
 | b :: r => if (oneC s b).1 then ((feedC (oneC s b).2 r).1 + 1, (feedC (oneC s b).2 r).2) else (0, (oneC s b).2, true)
def validC (l : List Int) : Bool := !(feedC s0 l).2.2 && (feedC s0 l).2.1.1 == 0
def okS (s : St) : Prop := 0 ≤ s.1 ∧ s.1 ≤ 3
theorem firstC_ok (b : Int) : okS (firstC b).2 := by
 unfold firstC okS
 repeat' split
 all_goals (constructor <;> decide)
theorem oneC_ok {s : St} (h : okS s) (b : Int) : okS (oneC s b).2 := by
 unfold oneC
 split
 ·exact firstC_ok b
 ·split
  ·exact h
  ·unfold okS at *
   simp only
   omega
theorem feedC_ok {s : St} (h : okS s) (l : List Int) : okS (feedC s l).2.1 := by
 induction l generalizing s with
 | nil => exact h
 | cons b r ih =>
  unfold feedC
  split
  ·exact ih (oneC_ok h b)
  ·exact oneC_ok h b
theorem feedC_all (s : St) (l : List Int) : (feedC s l).2.2 = false ↔ (feedC s l).1 = l.length := by
 induction l generalizing s with
 | nil => simp [feedC]
 | cons b r ih =>
  unfold feedC
  split
  ·simpa using ih _
  ·simp
theorem feedC_good {s : St} {l : List Int} (h : (feedC s l).2.2 = false) : (feedC s l).1 = l.length := (feedC_all s l).1 h
theorem feedC_pos {s : St} {b : Int} (h : (oneC s b).1 = true) (r : List Int) : feedC s (b :: r) = ((feedC (oneC s b).2 r).1 + 1, (feedC (oneC s b).2 r).2) := by
 rw [feedC, if_pos h]
theorem feedC_neg {s : St} {b : Int} (h : ¬ (oneC s b).1 = true) (r : List Int) : feedC s (b :: r) = (0, (oneC s b).2, true) := by
 rw [feedC, if_neg h]
theorem feedC_append (s : St) (a b : List Int) : feedC s (a ++ b) = if (feedC s a).2.2 then feedC s a else ((feedC s a).1 + (feedC (feedC s a).2.1 b).1, (feedC (feedC s a).2.1 b).2) := by
 induction a generalizing s with
 | nil => simp [feedC]
 | cons x r ih =>
  rw [List.cons_append]
  by_cases h : (oneC s x).1 = true
  ·rw [feedC_pos h, feedC_pos h, ih]
   by_cases h2 : (feedC (oneC s x).2 r).2.2 = true
   ·rw [if_pos h2, if_pos h2]
   ·rw [if_neg h2, if_neg h2]
    simp only [Nat.add_right_comm]
  ·rw [feedC_neg h, feedC_neg h, if_pos rfl]
theorem feedC_append_good {s : St} {a : List Int} (h : (feedC s a).2.2 = false) (b : List Int) : feedC s (a ++ b) = (a.length + (feedC (feedC s a).2.1 b).1, (feedC (feedC s a).2.1 b).2) := by
 rw [feedC_append, if_neg (by simp [h]), feedC_good h]
end Go.Proofs.YtpmeapdcjmaeiaaGreatDoor.U
namespace Go.Proofs.YtpmeapdcjmaeiaaGreatDoor.U
open Go.RowKit Go.Wa Go.Wb PAll
theorem first_f (k : Nat) (hk : 4 ≤ k) (s1 s2 b : Int) : utf_Checker_first.f k 0 s1 s2 false b = some ((firstC b).1, (firstC b).2.1, (firstC b).2.2.1, (firstC b).2.2.2, false) := by
 obtain ⟨n, rfl⟩ : ∃ m, k = m + 4 := ⟨k - 4, by omega⟩
 unfold firstC
 simp only [utf_Checker_first.f, utf_Checker_first.j0, utf_Checker_first.j1, utf_Checker_first.j2, decide_eq_true_eq, Bool.false_eq_true, if_false]
 have hc : b < 128 ∨ (128 ≤ b ∧ b < 194) ∨ (194 ≤ b ∧ b ≤ 223) ∨ b = 224 ∨ (225 ≤ b ∧ b ≤ 236) ∨ b = 237 ∨ (238 ≤ b ∧ b ≤ 239) ∨ b = 240 ∨ (241 ≤ b ∧ b ≤ 243) ∨ b = 244 ∨ 244 < b := by omega
 rcases hc with h | h | h | h | h | h | h | h | h | h | h
 all_goals simp (disch := omega) only [if_pos, if_neg]
theorem one_f (k : Nat) (hk : 4 ≤ k) (s : St) (hs : okS s) (b : Int) : utf_Checker_one.f k s.1 s.2.1 s.2.2 false b = some ((oneC s b).1, (oneC s b).2.1, (oneC s b).2.2.1, (oneC s b).2.2.2, false) := by
 obtain ⟨m, lo, hi⟩ := s
 unfold utf_Checker_one.f oneC
 by_cases h : m = 0
 ·subst h
  simp only [if_true, first_f k hk, Option.bind_some]
 ·simp only [if_neg h]
  by_cases h1 : b < lo
  ·rw [if_pos h1, if_pos (Or.inl h1)]
  ·rw [if_neg h1]
   by_cases h2 : b > hi
   ·rw [if_pos h2, if_pos (Or.inr h2)]
   ·rw [if_neg h2, if_neg (by omega)]
    unfold okS at hs
    simp only at hs
    have e : wrap64 (m - 1) = m - 1 := by unfold wrap64; omega
    rw [e]
theorem feed_l0 (l : List Int) (hl : l.length ≤ 140737488351232) (d : Nat) : ∀ (i : Nat) (k : Nat) (s : St), okS s → l.length - i = d → i ≤ l.length → d + 5 ≤ k →
  utf_Checker_Feed.l0 k l l (l.length : Int) (i : Int) s.1 s.2.1 s.2.2 false =
   some (((i + (feedC s (l.drop i)).1 : Nat) : Int), (feedC s (l.drop i)).2.1.1, (feedC s (l.drop i)).2.1.2.1, (feedC s (l.drop i)).2.1.2.2, (feedC s (l.drop i)).2.2) := by
 induction d with
 | zero =>
  intro i k s hs hd hi hk
  obtain ⟨k, rfl⟩ : ∃ m, k = m + 1 := ⟨k - 1, by omega⟩
  have hil : i = l.length := by omega
  subst hil
  simp only [utf_Checker_Feed.l0]
  rw [if_neg (by omega), List.drop_length]
  simp [feedC]
 | succ d ih =>
  intro i k s hs hd hi hk
  obtain ⟨k, rfl⟩ : ∃ m, k = m + 1 := ⟨k - 1, by omega⟩
  have hlt : i < l.length := by omega
  have e : rd l (i : Int) = l[i] := by simp [rd, hlt]
  have ew : wrap64 ((i : Int) + 1) = ((i + 1 : Nat) : Int) := by unfold wrap64; omega
  have ed : l.drop i = l[i] :: l.drop (i + 1) := (List.getElem_cons_drop hlt).symm
  simp only [utf_Checker_Feed.l0]
  rw [if_pos (by omega), if_pos (by omega), if_pos (by omega), e, one_f k (by omega) s hs, ew, ed]
  simp only [Option.bind_some]
  by_cases h : (oneC s l[i]).1 = true
  ·rw [if_pos h, feedC_pos h, ih (i + 1) k (oneC s l[i]).2 (oneC_ok hs _) (by omega) (by omega) (by omega)]
   simp only [Nat.add_assoc, Nat.add_comm 1]
  ·rw [if_neg h, feedC_neg h]
   rfl
theorem feed_f (l : List Int) (hl : l.length ≤ 140737488351232) (k : Nat) (hk : l.length + 5 ≤ k) (s : St) (hs : okS s) :
  utf_Checker_Feed.f k s.1 s.2.1 s.2.2 false l = some (((feedC s l).1 : Int), (feedC s l).2.1.1, (feedC s l).2.1.2.1, (feedC s l).2.1.2.2, (feedC s l).2.2) := by
 unfold utf_Checker_Feed.f utf_Checker_Bad.f
 simp only [Option.bind_some, Bool.false_eq_true, if_false]
 have := feed_l0 l hl l.length 0 k s hs (by omega) (by omega) (by omega)
 simpa using this
theorem whole_f (m lo hi : Int) (bad : Bool) : utf_Checker_Whole.f m lo hi bad = some (!bad && m == 0, m, lo, hi, bad) := by
 unfold utf_Checker_Whole.f utf_Checker_Bad.f
 cases bad <;> simp
theorem okS0 : okS s0 := by unfold okS s0; decide
theorem valid_f (l : List Int) (hl : l.length ≤ 140737488351232) (k : Nat) (hk : l.length + 5 ≤ k) : utf_Valid.f k l = some (validC l) := by
 unfold utf_Valid.f utf_New.f
 simp only [Option.bind_some]
 have := feed_f l hl k hk s0 okS0
 rw [show utf_Checker_Feed.f k 0 128 191 false l = utf_Checker_Feed.f k s0.1 s0.2.1 s0.2.2 false l from rfl, this]
 simp only [Option.bind_some, whole_f]
 rfl
end Go.Proofs.YtpmeapdcjmaeiaaGreatDoor.U
namespace Go.Proofs.YtpmeapdcjmaeiaaGreatDoor
open Go.RowKit Go.Wa Go.Wb Go.Wc PAll U
structure Gw (w0 W : World) (g : Nat) (v u : Value) (b : List Int) (busy text over : Bool) : Prop where
 blk : IsG W g v busy text u over
 row : Kd.R (Kd.int .u8) 5 W w0.heap.size (fun _ => True) v b
 bel : Below w0.heap.size w0 W
 base : w0.heap.size ≤ g
 one : u.oneCell' = true
 uty : ∀ k, u = .pointer (some ⟨k, 0, none⟩) → ∃ cs, W.heap[k]? = some (.cells cs 155 (0, 0))
theorem Gw.ulow {w0 W : World} {g : Nat} {v u : Value} {b : List Int} {busy text over : Bool} (h : Gw w0 W g v u b busy text over) : ∀ k, u = .pointer (some ⟨k, 0, none⟩) → k < W.heap.size := fun k e => by
 obtain ⟨_, h⟩ := h.uty k e
 exact blk_lt h
theorem ty_set {W : World} {p : Addr} {x : Value} {k t : Nat} (h : ∃ cs, W.heap[k]? = some (.cells cs t (0, 0))) : ∃ cs, (W.setCell p x).heap[k]? = some (.cells cs t (0, 0)) := by
 obtain ⟨c, h⟩ := h
 by_cases e : k = p.block
 ·subst e
  refine ⟨if p.spot.isSome then c else c.setIfInBounds p.off x, ?_⟩
  simp only [World.setCell, Array.getElem?_modify, if_pos, h, Option.map_some]
 ·exact ⟨c, (Below.heap_setCell W p x k e).trans h⟩
theorem Gw.below {w0 W W' : World} {g : Nat} {v u : Value} {b : List Int} {busy text over : Bool} (h : Gw w0 W g v u b busy text over) (hb : Below W.heap.size W W') : Gw w0 W' g v u b busy text over := ⟨blk_below h.blk hb, Kd.R_below h.row hb, below_step h.bel hb, h.base, h.one, fun k e => by
 obtain ⟨cs, h1⟩ := h.uty k e
 exact ⟨cs, blk_below h1 hb⟩⟩
def Chk (w0 W : World) (u : Value) (gu : Nat) (f : List Int) : Prop := u = .pointer (some ⟨gu, 0, none⟩) ∧ IsS155 w0 W gu (feedC s0 f).2.1.1 (feedC s0 f).2.1.2.1 (feedC s0 f).2.1.2.2 false ∧ (feedC s0 f).2.2 = false
theorem Chk.below {w0 W W' : World} {u : Value} {gu : Nat} {f : List Int} (h : Chk w0 W u gu f) (hb : Below W.heap.size W W') : Chk w0 W' u gu f := ⟨h.1, h.2.1.below hb, h.2.2⟩
structure Gs (w0 W : World) (g : Nat) (v u : Value) (b : List Int) (busy text over : Bool) (gu : Nat) (f : List Int) : Prop where
 gw : Gw w0 W g v u b busy text over
 chk : busy = true → Chk w0 W u gu f
theorem Gs.below {w0 W W' : World} {g gu : Nat} {v u : Value} {b f : List Int} {busy text over : Bool} (h : Gs w0 W g v u b busy text over gu f) (hb : Below W.heap.size W W') : Gs w0 W' g v u b busy text over gu f := ⟨h.gw.below hb, fun hy => (h.chk hy).below hb⟩
theorem g_ne {q : Nat} (hq : q ∈ 5 :: (Kd.int .u8).E) : q ≠ 119 := by simp [Kd.int, Kd.scalar] at hq; omega
theorem Gw.store {w0 W : World} {g : Nat} {v u : Value} {b : List Int} {busy text over : Bool} (h : Gw w0 W g v u b busy text over) (j : Nat) (x : Value) : Kd.R (Kd.int .u8) 5 (W.setCell ⟨g, j, none⟩ x) w0.heap.size (fun _ => True) v b ∧ Below w0.heap.size w0 (W.setCell ⟨g, j, none⟩ x) :=
 ⟨Kd.R_mono (Kd.R_far (Kd.R_types h.row h.blk (fun q hq => g_ne hq)) (p := ⟨g, j, none⟩) (fun k hk => hk.2) x) (fun _ _ => trivial), Below.setCell h.bel (by show _ ≤ g; exact h.base) _⟩
theorem Gw.setBusy {w0 W : World} {g : Nat} {v u : Value} {b : List Int} {busy text over : Bool} (h : Gw w0 W g v u b busy text over) (x : Bool) : Gw w0 (W.setCell ⟨g, 1, none⟩ (.bool x)) g v u b x text over := ⟨blk_put h.blk 1 _ rfl, (h.store 1 _).1, (h.store 1 _).2, h.base, h.one, fun k e => ty_set (h.uty k e)⟩
theorem Gw.setText {w0 W : World} {g : Nat} {v u : Value} {b : List Int} {busy text over : Bool} (h : Gw w0 W g v u b busy text over) (x : Bool) : Gw w0 (W.setCell ⟨g, 2, none⟩ (.bool x)) g v u b busy x over := ⟨blk_put h.blk 2 _ rfl, (h.store 2 _).1, (h.store 2 _).2, h.base, h.one, fun k e => ty_set (h.uty k e)⟩
theorem Gw.setOver {w0 W : World} {g : Nat} {v u : Value} {b : List Int} {busy text over : Bool} (h : Gw w0 W g v u b busy text over) (x : Bool) : Gw w0 (W.setCell ⟨g, 4, none⟩ (.bool x)) g v u b busy text x := ⟨blk_put h.blk 4 _ rfl, (h.store 4 _).1, (h.store 4 _).2, h.base, h.one, fun k e => ty_set (h.uty k e)⟩
theorem Gw.setU {w0 W : World} {g : Nat} {v u : Value} {b : List Int} {busy text over : Bool} (h : Gw w0 W g v u b busy text over) (x : Value) (hx : x.oneCell' = true) (hl : ∀ k, x = .pointer (some ⟨k, 0, none⟩) → ∃ cs, W.heap[k]? = some (.cells cs 155 (0, 0))) : Gw w0 (W.setCell ⟨g, 3, none⟩ x) g v x b busy text over := ⟨blk_put h.blk 3 _ rfl, (h.store 3 _).1, (h.store 3 _).2, h.base, hx, fun k e => ty_set (hl k e)⟩
theorem Gw.setNil {w0 W : World} {g : Nat} {v u : Value} {b : List Int} {busy text over : Bool} (h : Gw w0 W g v u b busy text over) : Gw w0 (W.setCell ⟨g, 0, none⟩ (.slice none 0 0)) g (.slice none 0 0) u [] busy text over := ⟨blk_put h.blk 0 _ rfl, Kd.R_nil _ _ _ _ _, (h.store 0 _).2, h.base, h.one, fun k e => ty_set (h.uty k e)⟩
structure Fr (w W : World) (g : Nat) (v u : Value) : Prop where
 size : w.heap.size ≤ W.heap.size
 same : ∀ k, k < w.heap.size → k ≠ g → some k ≠ v.ownBlock → u ≠ .pointer (some ⟨k, 0, none⟩) → W.heap[k]? = w.heap[k]?
theorem Fr.refl (w : World) (g : Nat) (v u : Value) : Fr w w g v u := ⟨Nat.le_refl _, fun _ _ _ _ _ => rfl⟩
theorem Fr.below {w W W' : World} {g : Nat} {v u : Value} (h : Fr w W g v u) (hb : Below W.heap.size W W') : Fr w W' g v u := ⟨Nat.le_trans h.size hb.size, fun k hk h1 h2 h3 => (hb.block k (Nat.lt_of_lt_of_le hk h.size)).trans (h.same k hk h1 h2 h3)⟩
theorem Fr.set {w W : World} {g : Nat} {v u : Value} (h : Fr w W g v u) (j : Nat) (x : Value) : Fr w (W.setCell ⟨g, j, none⟩ x) g v u := ⟨by simpa [World.setCell] using h.size, fun k hk h1 h2 h3 => (Below.heap_setCell W ⟨g, j, none⟩ x k h1).trans (h.same k hk h1 h2 h3)⟩
def NewOr (w : World) (v v' : Value) : Prop := v'.ownBlock = v.ownBlock ∨ v'.ownBlock = none ∨ ∃ k, v'.ownBlock = some k ∧ w.heap.size ≤ k
def NewU (w : World) (u u' : Value) : Prop := u' = u ∨ ∃ k, u' = .pointer (some ⟨k, 0, none⟩) ∧ w.heap.size ≤ k
theorem Fr.grown {w W W' : World} {g : Nat} {v u v1 : Value} (h : Fr w W g v u) (hn : NewOr w v v1) (hg : W.grownBy W' v1.ownBlock) : Fr w W' g v u := ⟨Nat.le_trans h.size hg.size, fun k hk h1 h2 h3 => (hg.block k (Nat.lt_of_lt_of_le hk h.size) (fun e => by
 rcases hn with e2 | e2 | ⟨j, e2, hj⟩
 ·exact h2 (e.trans e2)
 ·rw [e2] at e; cases e
 ·rw [e2] at e; injection e with e; omega)).trans (h.same k hk h1 h2 h3)⟩
theorem Fr.keep {w W W' : World} {g gu : Nat} {v u u1 : Value} (h : Fr w W g v u) (hn : NewU w u u1) (hu : u1 = .pointer (some ⟨gu, 0, none⟩)) (hk : KeepBut W W' gu none) : Fr w W' g v u := ⟨Nat.le_trans h.size hk.1, fun k hlt h1 h2 h3 => (hk.2 k (Nat.lt_of_lt_of_le hlt h.size) (fun e => by
 subst e
 rcases hn with e2 | ⟨j, e2, hj⟩
 ·exact h3 (e2 ▸ hu)
 ·rw [hu] at e2
  injection e2 with e2
  injection e2 with e2
  injection e2 with e2
  omega) (by simp)).trans (h.same k hlt h1 h2 h3)⟩
end Go.Proofs.YtpmeapdcjmaeiaaGreatDoor
