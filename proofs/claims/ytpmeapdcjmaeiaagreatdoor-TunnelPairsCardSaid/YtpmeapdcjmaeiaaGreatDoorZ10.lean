/- What the law's row rests on, part 10. -/
import Derived.Test.YtpmeapdcjmaeiaaGreatDoorZ9
import Derived.Deep.RegionHeld3
import Derived.Deep.LoopGhost
import Derived.Deep.DeepCutAuto
import Derived.Deep.CutBlock
set_option linter.unusedVariables false
set_option linter.unusedSimpArgs false
set_option maxRecDepth 100000
set_option maxHeartbeats 16000000

namespace Go.Proofs.YtpmeapdcjmaeiaaGreatDoor.PAll
open Go.RowKit Go.Wa Go.Wb Go.Wc
attribute [local go_sem] max2_int min2_int max_two min_two max_three min_three max_four min_four
mutual
def wsframe_Put.j0 : Nat → List Int → Bool → Int → Bool → Int → List Int → Option (List Int)
 | 0, _, _, _, _, _, _ => none
 | k + 1, x3, x204000, x204001, x204002, x204003, x204004 => if x204002 = true then (if 1 < (x3.length : Int) then (wsframe_Put.j1 k (x3.set (1 : Int).toNat (Go.bits .or .u8 (rd x3 1) 128)) x204000 x204001 x204002 x204003 x204004) else (none)) else (wsframe_Put.j1 k x3 x204000 x204001 x204002 x204003 x204004)
def wsframe_Put.j1 : Nat → List Int → Bool → Int → Bool → Int → List Int → Option (List Int)
 | 0, _, _, _, _, _, _ => none
 | k + 1, x3, x204000, x204001, x204002, x204003, x204004 => if (x204004.length : Int) < 126 then (if 1 < (x3.length : Int) then (wsframe_Put.j2 k (x3.set (1 : Int).toNat (Go.bits .or .u8 (rd x3 1) (((x204004.length : Int)) % 256))) x204000 x204001 x204002 x204003 x204004) else (none)) else (if 1 < (x3.length : Int) then ((some (x3.set (1 : Int).toNat (Go.bits .or .u8 (rd x3 1) 126) : List Int)).bind fun y215 => ((some (([((x204004.length : Int) / 256) % 256, ((x204004.length : Int)) % 256] : List Int) : List Int)).bind fun y216 => (if y215.length + y216.length < 140737488355328 then (wsframe_Put.j2 k (y215 ++ y216) x204000 x204001 x204002 x204003 x204004) else (none)))) else (none))
def wsframe_Put.j2 : Nat → List Int → Bool → Int → Bool → Int → List Int → Option (List Int)
 | 0, _, _, _, _, _, _ => none
 | k + 1, x3, x204000, x204001, x204002, x204003, x204004 => if x204002 = true then ((wsframe_key.f x204003).bind fun t222 => (if x3.length + t222.length < 140737488355328 then ((some (x3 ++ t222 : List Int)).bind fun y225 => ((wsframe_Turn.f k x204004 x204003).bind fun t228 => (if y225.length + t228.length < 140737488355328 then (some (y225 ++ t228)) else (none)))) else (none))) else (if x3.length + x204004.length < 140737488355328 then (some (x3 ++ x204004)) else (none))
end
def wsframe_Put.f (k : Nat) (a0_0 : Bool) (a0_1 : Int) (a0_2 : Bool) (a0_3 : Int) (l0_4 : List Int) : Option (List Int) := (wsframe_May.f k a0_0 a0_1 a0_2 a0_3 l0_4).bind fun t204 => (if t204 = true then ((some (([a0_1, 0] : List Int) : List Int)).bind fun y205 => (if a0_0 = true then (if 0 < (y205.length : Int) then (wsframe_Put.j0 k (y205.set (0 : Int).toNat (Go.bits .or .u8 (rd y205 0) 128)) a0_0 a0_1 a0_2 a0_3 l0_4) else (none)) else (wsframe_Put.j0 k y205 a0_0 a0_1 a0_2 a0_3 l0_4))) else (some ([] : List Int)))
def wsframe_Put.T15 : Bool × List (List Nat × List Nat) := (true, [([], []), ([], []), ([1], [1]), ([2], [2]), ([0, 3, 3], [0, 3]), ([], []), ([5], [5]), ([], []), ([7], [7]), ([6, 8, 4], [6, 8]), ([4, 9, 9], [4, 9]), ([10, 10, 0, 1, 2, 3, 4, 5, 6, 7, 8, 9, 10], [10])])
def wsframe_Put.B15 : List Nat := [0, 0, 2, 6, 15, 0, 32, 0, 128, 511, 1023, 2047]
theorem wsframe_Put.tab15 : rtab .any (opsOf Tryz.f37 15) = wsframe_Put.T15 := by kernel_rfl
theorem wsframe_Put.bits15 : waitsOk wsframe_Put.T15.2 wsframe_Put.B15 = true := by kernel_rfl
theorem wsframe_Put.calls (k : Nat) (a0_0 : Bool) (a0_1 : Int) (a0_2 : Bool) (a0_3 : Int) (A0_4 : Option Addr) (c0_4 : Nat) (l0_4 : List Int) (r : List Int) (w : World) (hr0_4 : Kd.C (Kd.int .u8) w A0_4 l0_4.length l0_4) (hc0_4 : l0_4.length ≤ c0_4) (h : wsframe_Put.f k a0_0 a0_1 a0_2 a0_3 l0_4 = some r) :
  Calls Tryz.prog 37 #[.agg #[.bool a0_0, .int .u8 a0_1, .bool a0_2, .int .u32 a0_3, .slice A0_4 l0_4.length c0_4]] w fun e w' => ∃ v0_ : Value, e = .returned (v0_) ∧ Kd.R (Kd.int .u8) 5 w' w.heap.size (fun _ => True) v0_ r ∧ Below w.heap.size w w' := by
 have hf43_0 := field43_0
 have hf87_1 := field87_1
 have hu81 := Tryz.underlying81
 have HR0_4 := a_ hr0_4
 have HC0_4 := a_ hc0_4
 clear hr0_4 hc0_4
 have HB := a_ (Below.refl w.heap.size w)
 have H : ((wsframe_May.f k a0_0 a0_1 a0_2 a0_3 l0_4).bind fun t204 => (if t204 = true then ((some (([a0_1, 0] : List Int) : List Int)).bind fun y205 => (if a0_0 = true then (if 0 < (y205.length : Int) then (wsframe_Put.j0 k (y205.set (0 : Int).toNat (Go.bits .or .u8 (rd y205 0) 128)) a0_0 a0_1 a0_2 a0_3 l0_4) else (none)) else (wsframe_Put.j0 k y205 a0_0 a0_1 a0_2 a0_3 l0_4))) else (some ([] : List Int)))) = some r := h
 clear h
 replace H := Option.bind_eq_some_iff.mp H
 obtain ⟨t204, A20, H⟩ := H
 try dsimp only at H
 have A2 := a_ A20
 clear A20
 by_cases c3 : t204 = true
 ·subst c3
  rw [if_pos rfl] at H
  obtain ⟨y205, hy205⟩ : ∃ y_ : List Int, y_ = (([a0_1, 0] : List Int)) := ⟨_, rfl⟩
  replace H : (if a0_0 = true then (if 0 < (y205.length : Int) then (wsframe_Put.j0 k (y205.set (0 : Int).toNat (Go.bits .or .u8 (rd y205 0) 128)) a0_0 a0_1 a0_2 a0_3 l0_4) else (none)) else (wsframe_Put.j0 k y205 a0_0 a0_1 a0_2 a0_3 l0_4)) = some r := by exact rq_ H hy205
  have Ny205 := a_ hy205
  clear hy205
  have HC4 := a_ H
  clear H
  go_enter Tryz.func37, Tryz.ntmps37
  go_upto_if 12 with (first | ((with_reducible refine gate_dst (N := 1) rfl ?_); refine box_event ?hg (N := 1) ?hd (cs := #[.bool a0_0, .int .u8 a0_1, .bool a0_2, .int .u32 a0_3, .slice A0_4 l0_4.length c0_4]) (t := 81) ?hr ?_; (case hd => rfl); (case hg => rfl); (case hr => first | (go_simp; done) | (go_simp; rfl)); intro gb203 hg w5 hbox hb; obtain ⟨HB, BK203, GW203, GE203⟩ := And.intro (a_ (below_step (by exact q2_ HB.out) hb)) (And.intro (a_ (hbox)) (And.intro (a_ ((by rw [hg]; exact (below_size (by exact q2_ HB.out)) : w.heap.size ≤ gb203))) (a_ ((by rw [hg]; exact (below_size (by exact q2_ HB.out)) : w.heap.size ≤ gb203))))); clear hb hbox hg; obtain ⟨hcz6_0, hfz6_0, hcz6_1, hfz6_1, hcz6_2, hfz6_2, hcz6_3, hfz6_3, hcz6_4, hfz6_4⟩ := xf5_ BK203.out) | ((with_reducible refine gate_callee (f := 68) rfl ?_); refine goesL_ (some 6) rfl rfl Tryz.func68 (by kernel_rfl) rfl #[.agg #[.bool a0_0, .int .u8 a0_1, .bool a0_2, .int .u32 a0_3, .slice A0_4 l0_4.length c0_4]] rfl (by exact q1_) ?_; (with_reducible refine (wsframe_May.calls k a0_0 a0_1 a0_2 a0_3 _ _ l0_4 true _ ?side1 ?side2 A2.out).mono ?_); (case side1 => repeat (first | exact (Kd.C_below HR0_4.out HB.out) | (with_reducible refine Kd.C_alloc ?_ _) | (with_reducible refine Kd.C_drewN ?_ _) | (with_reducible refine Kd.C_drew ?_))); (case side2 => exact HC0_4.out); rintro e w7 ⟨rfl, hb⟩; refine ⟨_, rfl, ?_⟩; obtain ⟨BK203, HB⟩ := And.intro (a_ (blk_below (g := gb203) (o := .cells #[.bool a0_0, .int .u8 a0_1, .bool a0_2, .int .u32 a0_3, .slice A0_4 l0_4.length c0_4] 81 (0, 0)) (by exact q10_ BK203.out) hb)) (a_ (below_step (by exact q3_ HB.out GE203.out) hb)); clear hb; obtain ⟨hcz8_0, hfz8_0, hcz8_1, hfz8_1, hcz8_2, hfz8_2, hcz8_3, hfz8_3, hcz8_4, hfz8_4⟩ := xf5_ BK203.out) | ((with_reducible refine gate_dst (N := 10) rfl ?_); refine Kd.R_lit (Kd.int .u8) _ 5 ?hg (N := 10) ?hd (xs := ([a0_1, 0] : List Int)) (inner := [.int .u8 a0_1, .int .u8 0]) (ok := fun _ => True) (okp := fun _ => True) ?hr ?hp (fun _ hk => hk) trivial (Below.refl _ _) (Nat.le_refl _) (by simp) ?_; (case hd => rfl); (case hg => rfl); (case hr => first | (go_simp; done) | (go_simp; rfl)); (case hp => exact (Reps.one (show Kd.M (Kd.int .u8) _ _ _ a0_1 [.int .u8 a0_1] from rfl) (Reps.one (show Kd.M (Kd.int .u8) _ _ _ 0 [.int .u8 0] from rfl) (Reps.none _ _)))); intro v206 w9 ho10 hb hg_ hnew_; clear hg_ hnew_; (first | rw [← Ny205.out] at ho10 | (simp only [Int.reduceToNat] at ho10; rw [← Ny205.out] at ho10)); obtain ⟨HO207, BK203, HB⟩ := And.intro (a_ (Kd.R_lower ho10 (below_size (by exact q3_ HB.out GE203.out)))) (And.intro (a_ (blk_below (g := gb203) (o := .cells #[.bool a0_0, .int .u8 a0_1, .bool a0_2, .int .u32 a0_3, .slice A0_4 l0_4.length c0_4] 81 (0, 0)) (by exact q10_ BK203.out) hb)) (a_ (below_step (by exact q3_ HB.out GE203.out) hb))); clear hb ho10; obtain ⟨hcz11_0, hfz11_0, hcz11_1, hfz11_1, hcz11_2, hfz11_2, hcz11_3, hfz11_3, hcz11_4, hfz11_4⟩ := xf5_ BK203.out))
  (try simp only [Act.put, z1_, z2_, z3_])
  go_cut [] (fun wc => ∃ (kq : Nat) (x3_3 : List Int), Aside0 (wsframe_Put.j0 kq x3_3 a0_0 a0_1 a0_2 a0_3 l0_4 = some r) ∧ Aside0 (kq ≤ k) ∧ Aside0 (Kd.R (Kd.int .u8) 5 wc w.heap.size (fun _ => True) v206 x3_3) ∧ Aside0 (wc.heap[gb203]? = some (.cells #[.bool a0_0, .int .u8 a0_1, .bool a0_2, .int .u32 a0_3, (.slice A0_4 l0_4.length c0_4)] 81 (0, 0))) ∧ Aside0 (Below w.heap.size w wc))
  case first =>
   have H := HC4.out
   clear HC4
   by_cases c12 : a0_0 = true
   ·subst c12
    rw [if_pos rfl] at H
    by_cases c13 : 0 < (y205.length : Int)
    ·rw [if_pos c13] at H
     have c13b0 : decide (0 < (y205.length : Int)) = true := decide_eq_true c13
     have c13b1 : decide (0 < y205.length) = true := decide_eq_true (by omega)
     clear c13
     (first | rw [c13b0] | (simp only [i64_w, i32_w]; rw [c13b0]) | skip)
     obtain ⟨y209, hy209⟩ : ∃ y_ : List Int, y_ = (y205.set (0 : Int).toNat (Go.bits .or .u8 (rd y205 0) 128)) := ⟨_, rfl⟩
     replace H : (wsframe_Put.j0 k y209 true a0_1 a0_2 a0_3 l0_4) = some r := by exact rq_ H hy209
     have Ny209 := a_ hy209
     clear hy209
     have H' := a_ H
     clear H
     obtain ⟨Ao15, co15, eo15⟩ := Kd.R_slice HO207.out
     subst eo15
     have p208 : 0 ≤ (0 : Int) := (by omega)
     have q208 : 0 < (y205.length : Int) := of_decide_eq_true (by assumption)
     obtain ⟨ad208, e208, hx208_0⟩ := Kd.at_int (Kd.R_reads' HO207.out).2.2 0 p208 q208
     cases e208
     have qi208 : (0 < y205.length) = True := eq_true (by omega)
     (try rw [show ((0 : Int)).toNat = 0 from rfl] at hx208_0)
     (try rw [Addr.add_zero'] at hx208_0)
     replace p208 := eq_true p208
     replace q208 := eq_true q208
     have p14 : 0 ≤ (0 : Int) := (by omega)
     have q14 : (0 : Int) < ((y205.length : Int) : Int) := of_decide_eq_true (by assumption)
     have qi14 : (0 < y205.length) = True := eq_true (by omega)
     obtain ⟨go14, co14, eo14, gb14, gl14, cl14, HG14⟩ := Kd.R_form HO207.out (by omega)
     (first | cases eo14 | (injection eo14 with ea_ en_ ec_; (first | subst ea_ | (injection ea_ with ea_; subst ea_)); subst ec_; clear en_))
     have GB14 := a_ gb14
     have GG14 := a_ HG14
     clear gb14 gl14 HG14
     (first | simp only [add_plain] at hx208_0 | skip)
     obtain ⟨hx14_0, hf14_0⟩ := Kd.R_celln 0 HO207.out (0 : Int) p14 q14
     (try rw [show ((0 : Int)).toNat = 0 from rfl] at hx14_0)
     (try simp only [Nat.reduceMul, Nat.zero_mul, Nat.zero_add, Nat.reduceAdd] at hx14_0)
     (try rw [show ((0 : Int)).toNat = 0 from rfl] at hf14_0)
     (try simp only [Nat.reduceMul, Nat.zero_mul, Nat.zero_add, Nat.reduceAdd] at hf14_0)
     replace p14 := eq_true p14
     replace q14 := eq_true q14
     have HP16 := Kd.R_putg HO207.out (0 : Int) (Go.bits .or .u8 (rd y205 0) 128)
     go_wp2_with (first | ((with_reducible refine gate_store (t := 5) (p := 17) rfl ?_); refine store_event (t := 5) (p := 17) (v := ?vo_w17) (w1 := (w9.setCell ⟨go14, (0 : Int).toNat, none⟩ (.int .u8 (Go.bits .or .u8 (rd y205 0) 128)))) ?hg ?ho ?hn ?hr ?_; (case ho => rfl); (case hg => rfl); (case hn => rfl); (case hr => first | (go_simp; done) | (go_simp; rfl)); intro w17 hw; have hg : w9.grownBy w17 (some go14) := (by rw [hw]; exact HP16.2); have hp_ : Kd.R (Kd.int .u8) 5 w17 w.heap.size (fun _ => True) (.slice (some ⟨go14, 0, none⟩) y205.length co15) y209 := (by rw [hw, Ny209.out]; exact HP16.1); clear HP16; obtain ⟨BK203, HO207, HB⟩ := And.intro (a_ (blk_grown (g := gb203) (o := .cells #[.bool true, .int .u8 a0_1, .bool a0_2, .int .u32 a0_3, .slice A0_4 l0_4.length c0_4] 81 (0, 0)) (by exact q10_ BK203.out) hg (Kd.R_ne HO207.out BK203.out (by decide)))) (And.intro (a_ (hp_)) (a_ ((by rw [hw]; exact below_set (HB.out) GB14.out : Below w.heap.size w w17)))); clear hg hw hp_))
     go_meet
     case rel => exact ⟨_, (y209), H', ⟨by first | omega | exact Nat.le_refl _⟩, ⟨by exact q11_ HO207.out⟩, ⟨by exact q10_ BK203.out⟩, ⟨by exact q3_ HB.out GE203.out⟩⟩
    ·rw [if_neg c13] at H
     exact absurd H (by simp)
   ·replace c12 := Bool.eq_false_iff.mpr c12
    subst c12
    rw [if_neg (show ¬ (false = true) by decide)] at H
    have H' := a_ H
    clear H
    go_wp2
    go_meet
    case rel => exact ⟨_, (y205), H', ⟨by first | omega | exact Nat.le_refl _⟩, ⟨by exact q11_ HO207.out⟩, ⟨by exact q10_ BK203.out⟩, ⟨by exact q3_ HB.out GE203.out⟩⟩
  case rest =>
   clear HC4
   try clear c3
   try clear c12
   try clear c13
   try clear c13b0
   try clear c13b1
   try clear p14
   try clear q14
   try clear qi14
   try clear hcz11_0
   try clear hcz11_1
   try clear hcz11_2
   try clear hcz11_3
   try clear hcz11_4
   try clear hcz6_0
   try clear hcz6_1
   try clear hcz6_2
   try clear hcz6_3
   try clear hcz6_4
   try clear hcz8_0
   try clear hcz8_1
   try clear hcz8_2
   try clear hcz8_3
   try clear hcz8_4
   try clear hfz11_0
   try clear hfz11_1
   try clear hfz11_2
   try clear hfz11_3
   try clear hfz11_4
   try clear hfz6_0
   try clear hfz6_1
   try clear hfz6_2
   try clear hfz6_3
   try clear hfz6_4
   try clear hfz8_0
   try clear hfz8_1
   try clear hfz8_2
   try clear hfz8_3
   try clear hfz8_4
   try clear hx14_0
   try clear hx208_0
   try clear p14
   try clear p208
   try clear q14
   try clear q208
   obtain ⟨kq, x3_3, HA, HJ3, HO_3, BK203, HB⟩ := hcut
   cases kq with
   | zero => exact absurd HA.out (by simp [wsframe_Put.j0])
   | succ kj3 =>
    have H := HA.out
    clear HA
    simp only [wsframe_Put.j0] at H
    have HC18 := a_ H
    clear H
    obtain ⟨hcz19_0, hfz19_0, hcz19_1, hfz19_1, hcz19_2, hfz19_2, hcz19_3, hfz19_3, hcz19_4, hfz19_4⟩ := xf5_ BK203.out
    go_upto_if 19 with (fail)
    go_cut [] (fun wc => ∃ (kq : Nat) (x3_17 : List Int), Aside0 (wsframe_Put.j1 kq x3_17 a0_0 a0_1 a0_2 a0_3 l0_4 = some r) ∧ Aside0 (kq ≤ kj3) ∧ Aside0 (Kd.R (Kd.int .u8) 5 wc w.heap.size (fun _ => True) v206 x3_17) ∧ Aside0 (wc.heap[gb203]? = some (.cells #[.bool a0_0, .int .u8 a0_1, .bool a0_2, .int .u32 a0_3, (.slice A0_4 l0_4.length c0_4)] 81 (0, 0))) ∧ Aside0 (Below w.heap.size w wc))
    case first =>
     have H := HC18.out
     clear HC18
     by_cases c20 : a0_2 = true
     ·subst c20
      rw [if_pos rfl] at H
      by_cases c21 : 1 < (x3_3.length : Int)
      ·rw [if_pos c21] at H
       have c21b0 : decide (1 < (x3_3.length : Int)) = true := decide_eq_true c21
       have c21b1 : decide (1 < x3_3.length) = true := decide_eq_true (by omega)
       clear c21
       (first | rw [c21b0] | (simp only [i64_w, i32_w]; rw [c21b0]) | skip)
       obtain ⟨y211, hy211⟩ : ∃ y_ : List Int, y_ = (x3_3.set (1 : Int).toNat (Go.bits .or .u8 (rd x3_3 1) 128)) := ⟨_, rfl⟩
       replace H : (wsframe_Put.j1 kj3 y211 a0_0 a0_1 true a0_3 l0_4) = some r := by exact rq_ H hy211
       have Ny211 := a_ hy211
       clear hy211
       have H' := a_ H
       clear H
       obtain ⟨Ao23, co23, eo23⟩ := Kd.R_slice HO_3.out
       subst eo23
       have p210 : 0 ≤ (1 : Int) := (by omega)
       have q210 : 1 < (x3_3.length : Int) := of_decide_eq_true (by assumption)
       obtain ⟨ad210, e210, hx210_0⟩ := Kd.at_int (Kd.R_reads' HO_3.out).2.2 1 p210 q210
       cases e210
       (try simp only [show (1 : Int).toNat = 1 from rfl, Nat.reduceMul, Nat.reduceEqDiff, Go.Addr.add, ↓reduceIte] at hx210_0)
       have qi210 : (1 < x3_3.length) = True := eq_true (by omega)
       (try rw [show ((1 : Int)).toNat = 1 from rfl] at hx210_0)
       replace p210 := eq_true p210
       replace q210 := eq_true q210
       have p22 : 0 ≤ (1 : Int) := (by omega)
       have q22 : (1 : Int) < ((x3_3.length : Int) : Int) := of_decide_eq_true (by assumption)
       have qi22 : (1 < x3_3.length) = True := eq_true (by omega)
       obtain ⟨go22, co22, eo22, gb22, gl22, cl22, HG22⟩ := Kd.R_form HO_3.out (by omega)
       (first | cases eo22 | (injection eo22 with ea_ en_ ec_; (first | subst ea_ | (injection ea_ with ea_; subst ea_)); subst ec_; clear en_))
       have GB22 := a_ gb22
       have GG22 := a_ HG22
       clear gb22 gl22 HG22
       (first | simp only [add_plain] at hx210_0 | skip)
       obtain ⟨hx22_0, hf22_0⟩ := Kd.R_celln 0 HO_3.out (1 : Int) p22 q22
       (try rw [show ((1 : Int)).toNat = 1 from rfl] at hx22_0)
       (try simp only [Nat.reduceMul, Nat.zero_mul, Nat.zero_add, Nat.reduceAdd] at hx22_0)
       (try rw [show ((1 : Int)).toNat = 1 from rfl] at hf22_0)
       (try simp only [Nat.reduceMul, Nat.zero_mul, Nat.zero_add, Nat.reduceAdd] at hf22_0)
       replace p22 := eq_true p22
       replace q22 := eq_true q22
       have HP24 := Kd.R_putg HO_3.out (1 : Int) (Go.bits .or .u8 (rd x3_3 1) 128)
       go_wp2_with (first | ((with_reducible refine gate_store (t := 5) (p := 24) rfl ?_); refine store_event (t := 5) (p := 24) (v := ?vo_w25) (w1 := (wc.setCell ⟨go22, (1 : Int).toNat, none⟩ (.int .u8 (Go.bits .or .u8 (rd x3_3 1) 128)))) ?hg ?ho ?hn ?hr ?_; (case ho => rfl); (case hg => rfl); (case hn => rfl); (case hr => first | (go_simp; done) | (go_simp; rfl)); intro w25 hw; have hg : wc.grownBy w25 (some go22) := (by rw [hw]; exact HP24.2); have hp_ : Kd.R (Kd.int .u8) 5 w25 w.heap.size (fun _ => True) (.slice (some ⟨go22, 0, none⟩) x3_3.length co23) y211 := (by rw [hw, Ny211.out]; exact HP24.1); clear HP24; obtain ⟨HO_3, BK203, HB⟩ := And.intro (a_ (hp_)) (And.intro (a_ (blk_grown (g := gb203) (o := .cells #[.bool a0_0, .int .u8 a0_1, .bool true, .int .u32 a0_3, .slice A0_4 l0_4.length c0_4] 81 (0, 0)) (by exact q10_ BK203.out) hg (Kd.R_ne HO_3.out BK203.out (by decide)))) (a_ ((by rw [hw]; exact below_set (HB.out) GB22.out : Below w.heap.size w w25)))); clear hg hw hp_))
       go_meet
       case rel => exact ⟨_, (y211), H', ⟨by have := HJ3.out; first | omega | exact Nat.le_refl _⟩, ⟨by exact q11_ HO_3.out⟩, ⟨by exact q10_ BK203.out⟩, ⟨by exact q3_ HB.out GE203.out⟩⟩
      ·rw [if_neg c21] at H
       exact absurd H (by simp)
     ·replace c20 := Bool.eq_false_iff.mpr c20
      subst c20
      rw [if_neg (show ¬ (false = true) by decide)] at H
      have H' := a_ H
      clear H
      go_wp2
      go_meet
      case rel => exact ⟨_, (x3_3), H', ⟨by have := HJ3.out; first | omega | exact Nat.le_refl _⟩, ⟨by exact q11_ HO_3.out⟩, ⟨by exact q10_ BK203.out⟩, ⟨by exact q3_ HB.out GE203.out⟩⟩
    case rest =>
     clear HC18
     try clear c3
     try clear c12
     try clear c13
     try clear c13b0
     try clear c13b1
     try clear p14
     try clear q14
     try clear qi14
     try clear c20
     try clear c21
     try clear c21b0
     try clear c21b1
     try clear p22
     try clear q22
     try clear qi22
     try clear hcz11_0
     try clear hcz11_1
     try clear hcz11_2
     try clear hcz11_3
     try clear hcz11_4
     try clear hcz19_0
     try clear hcz19_1
     try clear hcz19_2
     try clear hcz19_3
     try clear hcz19_4
     try clear hcz6_0
     try clear hcz6_1
     try clear hcz6_2
     try clear hcz6_3
     try clear hcz6_4
     try clear hcz8_0
     try clear hcz8_1
     try clear hcz8_2
     try clear hcz8_3
     try clear hcz8_4
     try clear hfz11_0
     try clear hfz11_1
     try clear hfz11_2
     try clear hfz11_3
     try clear hfz11_4
     try clear hfz19_0
     try clear hfz19_1
     try clear hfz19_2
     try clear hfz19_3
     try clear hfz19_4
     try clear hfz6_0
     try clear hfz6_1
     try clear hfz6_2
     try clear hfz6_3
     try clear hfz6_4
     try clear hfz8_0
     try clear hfz8_1
     try clear hfz8_2
     try clear hfz8_3
     try clear hfz8_4
     try clear hx14_0
     try clear hx208_0
     try clear hx210_0
     try clear hx22_0
     try clear p14
     try clear p208
     try clear p210
     try clear p22
     try clear q14
     try clear q208
     try clear q210
     try clear q22
     obtain ⟨kq, x3_17, HA, HJ17, HO_3, BK203, HB⟩ := hcut
     cases kq with
     | zero => exact absurd HA.out (by unfold wsframe_Put.j1; simp)
     | succ kj17 =>
      have H := HA.out
      clear HA
      unfold wsframe_Put.j1 at H; dsimp only at H
      have HC26 := a_ H
      clear H
      obtain ⟨hcz27_0, hfz27_0, hcz27_1, hfz27_1, hcz27_2, hfz27_2, hcz27_3, hfz27_3, hcz27_4, hfz27_4⟩ := xf5_ BK203.out
      go_upto_if 29 with (fail)
      go_cut [3] (fun v3 wc => ∃ (kq : Nat) (x3_25 : List Int), Aside0 (wsframe_Put.j2 kq x3_25 a0_0 a0_1 a0_2 a0_3 l0_4 = some r) ∧ Aside0 (kq ≤ kj17) ∧ Aside0 (Kd.R (Kd.int .u8) 5 wc w.heap.size (fun _ => True) v3 x3_25) ∧ Aside0 (wc.heap[gb203]? = some (.cells #[.bool a0_0, .int .u8 a0_1, .bool a0_2, .int .u32 a0_3, (.slice A0_4 l0_4.length c0_4)] 81 (0, 0))) ∧ Aside0 (Below w.heap.size w wc))
      case first =>
       have H := HC26.out
       clear HC26
       by_cases c28 : (l0_4.length : Int) < 126
       ·rw [if_pos c28] at H
        have c28b0 : decide ((l0_4.length : Int) < 126) = true := decide_eq_true c28
        have c28b1 : decide (l0_4.length < 126) = true := decide_eq_true (by omega)
        clear c28
        (first | rw [c28b0] | (simp only [i64_w, i32_w]; rw [c28b0]) | skip)
        by_cases c29 : 1 < (x3_17.length : Int)
        ·rw [if_pos c29] at H
         have c29b0 : decide (1 < (x3_17.length : Int)) = true := decide_eq_true c29
         have c29b1 : decide (1 < x3_17.length) = true := decide_eq_true (by omega)
         clear c29
         obtain ⟨y213, hy213⟩ : ∃ y_ : List Int, y_ = (x3_17.set (1 : Int).toNat (Go.bits .or .u8 (rd x3_17 1) (((l0_4.length : Int)) % 256))) := ⟨_, rfl⟩
         replace H : (wsframe_Put.j2 kj17 y213 a0_0 a0_1 a0_2 a0_3 l0_4) = some r := by exact rq_ H hy213
         have Ny213 := a_ hy213
         clear hy213
         have H' := a_ H
         clear H
         obtain ⟨Ao31, co31, eo31⟩ := Kd.R_slice HO_3.out
         subst eo31
         have p212 : 0 ≤ (1 : Int) := (by omega)
         have q212 : 1 < (x3_17.length : Int) := of_decide_eq_true (by assumption)
         obtain ⟨ad212, e212, hx212_0⟩ := Kd.at_int (Kd.R_reads' HO_3.out).2.2 1 p212 q212
         cases e212
         (try simp only [show (1 : Int).toNat = 1 from rfl, Nat.reduceMul, Nat.reduceEqDiff, Go.Addr.add, ↓reduceIte] at hx212_0)
         have qi212 : (1 < x3_17.length) = True := eq_true (by omega)
         (try rw [show ((1 : Int)).toNat = 1 from rfl] at hx212_0)
         replace p212 := eq_true p212
         replace q212 := eq_true q212
         have p30 : 0 ≤ (1 : Int) := (by omega)
         have q30 : (1 : Int) < ((x3_17.length : Int) : Int) := of_decide_eq_true (by assumption)
         have qi30 : (1 < x3_17.length) = True := eq_true (by omega)
         obtain ⟨go30, co30, eo30, gb30, gl30, cl30, HG30⟩ := Kd.R_form HO_3.out (by omega)
         (first | cases eo30 | (injection eo30 with ea_ en_ ec_; (first | subst ea_ | (injection ea_ with ea_; subst ea_)); subst ec_; clear en_))
         have GB30 := a_ gb30
         have GG30 := a_ HG30
         clear gb30 gl30 HG30
         (first | simp only [add_plain] at hx212_0 | skip)
         obtain ⟨hx30_0, hf30_0⟩ := Kd.R_celln 0 HO_3.out (1 : Int) p30 q30
         (try rw [show ((1 : Int)).toNat = 1 from rfl] at hx30_0)
         (try simp only [Nat.reduceMul, Nat.zero_mul, Nat.zero_add, Nat.reduceAdd] at hx30_0)
         (try rw [show ((1 : Int)).toNat = 1 from rfl] at hf30_0)
         (try simp only [Nat.reduceMul, Nat.zero_mul, Nat.zero_add, Nat.reduceAdd] at hf30_0)
         replace p30 := eq_true p30
         replace q30 := eq_true q30
         have HP32 := Kd.R_putg HO_3.out (1 : Int) (Go.bits .or .u8 (rd x3_17 1) (((l0_4.length : Int)) % 256))
         go_wp2_with (first | ((with_reducible refine gate_store (t := 5) (p := 36) rfl ?_); refine store_event (t := 5) (p := 36) (v := ?vo_w33) (w1 := (wc.setCell ⟨go30, (1 : Int).toNat, none⟩ (.int .u8 (Go.bits .or .u8 (rd x3_17 1) (((l0_4.length : Int)) % 256))))) ?hg ?ho ?hn ?hr ?_; (case ho => rfl); (case hg => rfl); (case hn => rfl); (case hr => first | (go_simp; done) | (go_simp; rfl)); intro w33 hw; have hg : wc.grownBy w33 (some go30) := (by rw [hw]; exact HP32.2); have hp_ : Kd.R (Kd.int .u8) 5 w33 w.heap.size (fun _ => True) (.slice (some ⟨go30, 0, none⟩) x3_17.length co31) y213 := (by rw [hw, Ny213.out]; exact HP32.1); clear HP32; obtain ⟨HO_3, BK203, HB⟩ := And.intro (a_ (hp_)) (And.intro (a_ (blk_grown (g := gb203) (o := .cells #[.bool a0_0, .int .u8 a0_1, .bool a0_2, .int .u32 a0_3, .slice A0_4 l0_4.length c0_4] 81 (0, 0)) (by exact q10_ BK203.out) hg (Kd.R_ne HO_3.out BK203.out (by decide)))) (a_ ((by rw [hw]; exact below_set (HB.out) GB30.out : Below w.heap.size w w33)))); clear hg hw hp_))
         go_meet
         case rel => exact ⟨_, (y213), H', ⟨by have := HJ3.out; have := HJ17.out; first | omega | exact Nat.le_refl _⟩, ⟨by exact q11_ HO_3.out⟩, ⟨by exact q10_ BK203.out⟩, ⟨by exact q3_ HB.out GE203.out⟩⟩
        ·rw [if_neg c29] at H
         exact absurd H (by simp)
       ·rw [if_neg c28] at H
        have c28b0 : decide ((l0_4.length : Int) < 126) = false := decide_eq_false c28
        have c28b1 : decide (l0_4.length < 126) = false := decide_eq_false (by omega)
        clear c28
        (first | rw [c28b0] | (simp only [i64_w, i32_w]; rw [c28b0]) | skip)
        by_cases c34 : 1 < (x3_17.length : Int)
        ·rw [if_pos c34] at H
         have c34b0 : decide (1 < (x3_17.length : Int)) = true := decide_eq_true c34
         have c34b1 : decide (1 < x3_17.length) = true := decide_eq_true (by omega)
         clear c34
         obtain ⟨y215, hy215⟩ : ∃ y_ : List Int, y_ = (x3_17.set (1 : Int).toNat (Go.bits .or .u8 (rd x3_17 1) 126)) := ⟨_, rfl⟩
         replace H : ((some (([((l0_4.length : Int) / 256) % 256, ((l0_4.length : Int)) % 256] : List Int) : List Int)).bind fun y216 => (if y215.length + y216.length < 140737488355328 then (wsframe_Put.j2 kj17 (y215 ++ y216) a0_0 a0_1 a0_2 a0_3 l0_4) else (none))) = some r := by exact rq_ H hy215
         have Ny215 := a_ hy215
         clear hy215
         obtain ⟨y216, hy216⟩ : ∃ y_ : List Int, y_ = (([((l0_4.length : Int) / 256) % 256, ((l0_4.length : Int)) % 256] : List Int)) := ⟨_, rfl⟩
         replace H : (if y215.length + y216.length < 140737488355328 then (wsframe_Put.j2 kj17 (y215 ++ y216) a0_0 a0_1 a0_2 a0_3 l0_4) else (none)) = some r := by exact rq_ H hy216
         have Ny216 := a_ hy216
         clear hy216
         by_cases c36 : y215.length + y216.length < 140737488355328
         ·rw [if_pos c36] at H
          have LMc36 := a_ c36
          clear c36
          obtain ⟨y219, hy219⟩ : ∃ y_ : List Int, y_ = (y215 ++ y216) := ⟨_, rfl⟩
          replace H : (wsframe_Put.j2 kj17 y219 a0_0 a0_1 a0_2 a0_3 l0_4) = some r := by exact rq_ H hy219
          have Ny219 := a_ hy219
          clear hy219
          have H' := a_ H
          clear H
          obtain ⟨Ao37, co37, eo37⟩ := Kd.R_slice HO_3.out
          subst eo37
          have p214 : 0 ≤ (1 : Int) := (by omega)
          have q214 : 1 < (x3_17.length : Int) := of_decide_eq_true (by assumption)
          obtain ⟨ad214, e214, hx214_0⟩ := Kd.at_int (Kd.R_reads' HO_3.out).2.2 1 p214 q214
          cases e214
          (try simp only [show (1 : Int).toNat = 1 from rfl, Nat.reduceMul, Nat.reduceEqDiff, Go.Addr.add, ↓reduceIte] at hx214_0)
          have qi214 : (1 < x3_17.length) = True := eq_true (by omega)
          (try rw [show ((1 : Int)).toNat = 1 from rfl] at hx214_0)
          replace p214 := eq_true p214
          replace q214 := eq_true q214
          have p35 : 0 ≤ (1 : Int) := (by omega)
          have q35 : (1 : Int) < ((x3_17.length : Int) : Int) := of_decide_eq_true (by assumption)
          have qi35 : (1 < x3_17.length) = True := eq_true (by omega)
          obtain ⟨go35, co35, eo35, gb35, gl35, cl35, HG35⟩ := Kd.R_form HO_3.out (by omega)
          (first | cases eo35 | (injection eo35 with ea_ en_ ec_; (first | subst ea_ | (injection ea_ with ea_; subst ea_)); subst ec_; clear en_))
          have GB35 := a_ gb35
          have GG35 := a_ HG35
          clear gb35 gl35 HG35
          (first | simp only [add_plain] at hx214_0 | skip)
          obtain ⟨hx35_0, hf35_0⟩ := Kd.R_celln 0 HO_3.out (1 : Int) p35 q35
          (try rw [show ((1 : Int)).toNat = 1 from rfl] at hx35_0)
          (try simp only [Nat.reduceMul, Nat.zero_mul, Nat.zero_add, Nat.reduceAdd] at hx35_0)
          (try rw [show ((1 : Int)).toNat = 1 from rfl] at hf35_0)
          (try simp only [Nat.reduceMul, Nat.zero_mul, Nat.zero_add, Nat.reduceAdd] at hf35_0)
          replace p35 := eq_true p35
          replace q35 := eq_true q35
          have HP38 := Kd.R_putg HO_3.out (1 : Int) (Go.bits .or .u8 (rd x3_17 1) 126)
          go_wp2_with (first | ((with_reducible refine gate_store (t := 5) (p := 41) rfl ?_); refine store_event (t := 5) (p := 41) (v := ?vo_w39) (w1 := (wc.setCell ⟨go35, (1 : Int).toNat, none⟩ (.int .u8 (Go.bits .or .u8 (rd x3_17 1) 126)))) ?hg ?ho ?hn ?hr ?_; (case ho => rfl); (case hg => rfl); (case hn => rfl); (case hr => first | (go_simp; done) | (go_simp; rfl)); intro w39 hw; have hg : wc.grownBy w39 (some go35) := (by rw [hw]; exact HP38.2); have hp_ : Kd.R (Kd.int .u8) 5 w39 w.heap.size (fun _ => True) (.slice (some ⟨go35, 0, none⟩) x3_17.length co37) y215 := (by rw [hw, Ny215.out]; exact HP38.1); clear HP38; obtain ⟨HO_3, BK203, HB⟩ := And.intro (a_ (hp_)) (And.intro (a_ (blk_grown (g := gb203) (o := .cells #[.bool a0_0, .int .u8 a0_1, .bool a0_2, .int .u32 a0_3, .slice A0_4 l0_4.length c0_4] 81 (0, 0)) (by exact q10_ BK203.out) hg (Kd.R_ne HO_3.out BK203.out (by decide)))) (a_ ((by rw [hw]; exact below_set (HB.out) GB35.out : Below w.heap.size w w39)))); clear hg hw hp_) | ((with_reducible refine gate_dst (N := 48) rfl ?_); refine Kd.R_lit (Kd.int .u8) _ 5 ?hg (N := 48) ?hd (xs := ([((l0_4.length : Int) / 256) % 256, ((l0_4.length : Int)) % 256] : List Int)) (inner := [.int .u8 (((l0_4.length : Int) / 256) % 256), .int .u8 (((l0_4.length : Int)) % 256)]) (ok := fun _ => True) (okp := fun _ => True) ?hr ?hp (fun _ hk => hk) trivial (Below.refl _ _) (Nat.le_refl _) (by simp) ?_; (case hd => rfl); (case hg => rfl); (case hr => first | (go_simp; done) | (go_simp; rfl)); (case hp => exact (Reps.one (show Kd.M (Kd.int .u8) _ _ _ (((l0_4.length : Int) / 256) % 256) [.int .u8 (((l0_4.length : Int) / 256) % 256)] from rfl) (Reps.one (show Kd.M (Kd.int .u8) _ _ _ (((l0_4.length : Int)) % 256) [.int .u8 (((l0_4.length : Int)) % 256)] from rfl) (Reps.none _ _)))); intro v217 w40 ho41 hb hg_ hnew_; clear hg_ hnew_; (first | rw [← Ny216.out] at ho41 | (simp only [Int.reduceToNat] at ho41; rw [← Ny216.out] at ho41)); obtain ⟨HO_3, HO218, BK203, HB⟩ := And.intro (a_ (Kd.R_elder' (by exact q11_ HO_3.out) (Kd.R_base ho41) hb)) (And.intro (a_ (Kd.R_lower (Kd.R_new' ho41 (Kd.R_lt (by exact q11_ HO_3.out))) (below_size (by exact q3_ HB.out GE203.out)))) (And.intro (a_ (blk_below (g := gb203) (o := .cells #[.bool a0_0, .int .u8 a0_1, .bool a0_2, .int .u32 a0_3, .slice A0_4 l0_4.length c0_4] 81 (0, 0)) (by exact q10_ BK203.out) hb)) (a_ (below_step (by exact q3_ HB.out GE203.out) hb)))); clear hb ho41; obtain ⟨Ao43, co43, eo43⟩ := Kd.R_slice HO218.out; subst eo43) | ((with_reducible refine gate_builtin (b := .append) (xs := #[.tmp 42, .tmp 48]) rfl ?_); at_builtin; refine Kd.R_append_rows (Kd.int .u8) (w0 := w) w.heap.size rfl (.tmp 42) (.tmp 48) 27 5 (.int .u8 0) 1 rfl Tryz.underlying27 info5 rfl (by decide) (by omega) (.slice (some ⟨go35, 0, none⟩) x3_17.length co37) y215 y216 _ _ _ (fun k_ => some k_ ≠ (.slice Ao43 y216.length co43 : Value).ownBlock) (fun _ => False) rfl rfl ?aO ?aR (fun _ _ h => h) (fun _ h => h.elim) ?aF ?aB ?aS ?aL ?_; (case aR => repeat (first | exact (Kd.R_reads' HO218.out).2.2 | (with_reducible refine Kd.C_alloc ?_ _) | (with_reducible refine Kd.C_drewN ?_ _) | (with_reducible refine Kd.C_drew ?_))); (case aB => exact (by exact q3_ HB.out GE203.out)); (case aF => exact (fun k_ hk => Kd.fresh' (Kd.R_lt (by exact q11_ HO218.out)) k_ hk)); (case aO => exact (by (with_reducible repeat (first | apply Kd.R_alloc | apply Kd.R_drewN | apply Kd.R_drew)); exact Kd.R_mono HO_3.out (fun _ hk => hk.2))); (case aS => exact (below_size (by exact q3_ HB.out GE203.out))); (case aL => have := LMc36.out; omega); intro v220 w42 ho hb hg hat; rw [← Ny219.out] at ho; have n0_ := a_ (blk_grown (g := gb203) (o := .cells #[.bool a0_0, .int .u8 a0_1, .bool a0_2, .int .u32 a0_3, .slice A0_4 l0_4.length c0_4] 81 (0, 0)) (by exact q10_ BK203.out) hg (Kd.R_ne HO_3.out BK203.out (by decide))); have n1_ := a_ (Kd.R_after (ok := (fun _ => True)) (by exact q11_ HO218.out) hg hat); have n2_ := a_ (hb); have n3_ := a_ (ho); clear BK203; clear HO218; clear HB; clear HO_3; have BK203 := n0_; have HO218 := n1_; have HB := n2_; have HO221 := n3_; clear n0_ n1_ n2_ n3_; clear ho hb hg hat))
          go_meet
          case rel => exact ⟨_, (y219), H', ⟨by have := HJ3.out; have := HJ17.out; first | omega | exact Nat.le_refl _⟩, ⟨by (with_reducible repeat (first | apply Kd.R_alloc | apply Kd.R_drewN | apply Kd.R_drew)); exact Kd.R_mono HO221.out (fun _ hk => trivial)⟩, ⟨by exact q10_ BK203.out⟩, ⟨by exact q3_ HB.out GE203.out⟩⟩
         ·rw [if_neg c36] at H
          exact absurd H (by simp)
        ·rw [if_neg c34] at H
         exact absurd H (by simp)
      case rest =>
       clear HC26
       try clear c3
       try clear c12
       try clear c13
       try clear c13b0
       try clear c13b1
       try clear p14
       try clear q14
       try clear qi14
       try clear c20
       try clear c21
       try clear c21b0
       try clear c21b1
       try clear p22
       try clear q22
       try clear qi22
       try clear c28
       try clear c28b0
       try clear c28b1
       try clear c29
       try clear c29b0
       try clear c29b1
       try clear p30
       try clear q30
       try clear qi30
       try clear c34
       try clear c34b0
       try clear c34b1
       try clear p35
       try clear q35
       try clear qi35
       try clear c36
       try clear hcz11_0
       try clear hcz11_1
       try clear hcz11_2
       try clear hcz11_3
       try clear hcz11_4
       try clear hcz19_0
       try clear hcz19_1
       try clear hcz19_2
       try clear hcz19_3
       try clear hcz19_4
       try clear hcz27_0
       try clear hcz27_1
       try clear hcz27_2
       try clear hcz27_3
       try clear hcz27_4
       try clear hcz6_0
       try clear hcz6_1
       try clear hcz6_2
       try clear hcz6_3
       try clear hcz6_4
       try clear hcz8_0
       try clear hcz8_1
       try clear hcz8_2
       try clear hcz8_3
       try clear hcz8_4
       try clear hfz11_0
       try clear hfz11_1
       try clear hfz11_2
       try clear hfz11_3
       try clear hfz11_4
       try clear hfz19_0
       try clear hfz19_1
       try clear hfz19_2
       try clear hfz19_3
       try clear hfz19_4
       try clear hfz27_0
       try clear hfz27_1
       try clear hfz27_2
       try clear hfz27_3
       try clear hfz27_4
       try clear hfz6_0
       try clear hfz6_1
       try clear hfz6_2
       try clear hfz6_3
       try clear hfz6_4
       try clear hfz8_0
       try clear hfz8_1
       try clear hfz8_2
       try clear hfz8_3
       try clear hfz8_4
       try clear hx14_0
       try clear hx208_0
       try clear hx210_0
       try clear hx212_0
       try clear hx214_0
       try clear hx22_0
       try clear hx30_0
       try clear hx35_0
       try clear p14
       try clear p208
       try clear p210
       try clear p212
       try clear p214
       try clear p22
       try clear p30
       try clear p35
       try clear q14
       try clear q208
       try clear q210
       try clear q212
       try clear q214
       try clear q22
       try clear q30
       try clear q35
       obtain ⟨kq, x3_25, HA, HJ25, HO_3, BK203, HB⟩ := hcut
       cases kq with
       | zero => exact absurd HA.out (by simp [wsframe_Put.j2])
       | succ kj25 =>
        have H := HA.out
        clear HA
        simp only [wsframe_Put.j2] at H
        by_cases c44 : a0_2 = true
        ·subst c44
         rw [if_pos rfl] at H
         replace H := Option.bind_eq_some_iff.mp H
         obtain ⟨t222, A450, H⟩ := H
         try dsimp only at H
         have A45 := a_ A450
         clear A450
         by_cases c46 : x3_25.length + t222.length < 140737488355328
         ·rw [if_pos c46] at H
          have LMc46 := a_ c46
          clear c46
          obtain ⟨y225, hy225⟩ : ∃ y_ : List Int, y_ = (x3_25 ++ t222) := ⟨_, rfl⟩
          replace H : ((wsframe_Turn.f kj25 l0_4 a0_3).bind fun t228 => (if y225.length + t228.length < 140737488355328 then (some (y225 ++ t228)) else (none))) = some r := by exact rq_ H hy225
          have Ny225 := a_ hy225
          clear hy225
          replace H := Option.bind_eq_some_iff.mp H
          obtain ⟨t228, A470, H⟩ := H
          try dsimp only at H
          have A47 := a_ A470
          clear A470
          by_cases c48 : y225.length + t228.length < 140737488355328
          ·rw [if_pos c48] at H
           have LMc48 := a_ c48
           clear c48
           obtain ⟨y231, hy231⟩ : ∃ y_ : List Int, y_ = (y225 ++ t228) := ⟨_, rfl⟩
           replace H : (some y231) = some r := by exact rq_ H hy231
           have Ny231 := a_ hy231
           clear hy231
           obtain rfl := Option.some.inj H
           obtain ⟨hcz49_0, hfz49_0, hcz49_1, hfz49_1, hcz49_2, hfz49_2, hcz49_3, hfz49_3, hcz49_4, hfz49_4⟩ := xf5_ BK203.out
           try go_wp2
           have n0_ := a_ (Kd.R_drew HO_3.out)
           have n1_ := a_ (blk_drew BK203.out)
           have n2_ := a_ (below_drew1 HB.out)
           clear HO_3
           clear BK203
           clear HB
           have HO_3 := n0_
           have BK203 := n1_
           have HB := n2_
           clear n0_ n1_ n2_
           refine start_ (n := 12) (S := fun w' => w'.cell? ⟨gb203, 0, none⟩ = some (.bool a0_0) ∧ w'.cell? ⟨gb203, 1, none⟩ = some (.int .u8 a0_1) ∧ w'.cell? ⟨gb203, 2, none⟩ = some (.bool true) ∧ w'.cell? ⟨gb203, 3, none⟩ = some (.int .u32 a0_3) ∧ w'.cell? ⟨gb203, 4, none⟩ = some (.slice A0_4 l0_4.length c0_4)) (ds := []) #[false, false, false, false, false, false, false, false, false, false, false, false] (by kernel_rfl) rfl rfl ⟨(blk_cell BK203.out 0).trans rfl, (blk_cell BK203.out 1).trans rfl, (blk_cell BK203.out 2).trans rfl, (blk_cell BK203.out 3).trans rfl, (blk_cell BK203.out 4).trans rfl⟩ (fun hHeld => ?_); refine with_tabW wsframe_Put.tab15 wsframe_Put.bits15 (fun HT_ HW_ => ?_)
           generalize wc.drew = w50 at HO_3 BK203 HB hHeld ⊢
           refine pureP 0 57 ?_ (hc := (any_of HT_.out (by kernel_rfl)))
           refine pureP 1 58 ?_ (hc := (any_of HT_.out (by kernel_rfl)))
           refine pureP 5 62 ?_ (hc := (any_of HT_.out (by kernel_rfl)))
           refine pureP 7 64 ?_ (hc := (any_of HT_.out (by kernel_rfl)))
           refine take_ (i := 2) (N := some 59) (v := ?_) (a' := ?_) #[true, true, true, false, false, true, false, true, false, false, false, false] rfl rfl (take_ofW HT_.out HW_.out (by kernel_rfl)) (fun _ _ _ h => h) (Or.inl ⟨by rfl, ?_⟩) hHeld ?_ ?_
           rotate_left
           ·rintro w' ⟨s0, s1, s2, s3, s4⟩
            go_simp
            with_reducible rfl
           rotate_left
           ·simp only [Act.put, z1_, z2_, z3_, i64_w, i32_w]
            rfl
           refine take_ (i := 6) (N := some 63) (v := ?_) (a' := ?_) #[true, true, true, false, false, true, true, true, false, false, false, false] rfl rfl (take_ofW HT_.out HW_.out (by kernel_rfl)) (fun _ _ _ h => h) (Or.inl ⟨by rfl, ?_⟩) hHeld ?_ ?_
           rotate_left
           ·rintro w' ⟨s0, s1, s2, s3, s4⟩
            go_simp
            with_reducible rfl
           rotate_left
           ·simp only [Act.put, z1_, z2_, z3_, i64_w, i32_w]
            rfl
           refine take_ (i := 8) (N := some 65) (v := ?_) (a' := ?_) #[true, true, true, false, false, true, true, true, true, false, false, false] rfl rfl (take_ofW HT_.out HW_.out (by kernel_rfl)) (fun _ _ _ h => h) (Or.inl ⟨by rfl, ?_⟩) hHeld ?_ ?_
           rotate_left
           ·rintro w' ⟨s0, s1, s2, s3, s4⟩
            go_simp
            with_reducible rfl
           rotate_left
           ·simp only [Act.put, z1_, z2_, z3_, i64_w, i32_w]
            rfl
           refine one_ (i := 3) (N := some 60) #[true, true, true, true, false, true, true, true, true, false, false, false] rfl rfl (one_of HT_.out (by kernel_rfl)) (by decide) (fun K hK => ?_)
           refine goes_ Tryz.func69 (by kernel_rfl) rfl #[.int .u32 a0_3] (by rfl) rfl rfl (by exact q1_) ?_
           with_reducible refine (wsframe_key.calls a0_3 t222 _ A45.out).mono ?_
           rintro e w51 ⟨v223, rfl, ho0, hb⟩
           refine ⟨_, rfl, ?_⟩
           have n0_ := a_ (Kd.R_elder' (by exact q11_ HO_3.out) (Kd.R_base ho0) hb)
           have n1_ := a_ (Kd.R_lower (Kd.R_new' ho0 (Kd.R_lt (by exact q11_ HO_3.out))) (below_size (by exact q3_ HB.out GE203.out)))
           have n2_ := a_ (blk_below (g := gb203) (o := .cells #[.bool a0_0, .int .u8 a0_1, .bool true, .int .u32 a0_3, .slice A0_4 l0_4.length c0_4] 81 (0, 0)) (by exact q10_ BK203.out) hb)
           have n3_ := a_ (below_step (by exact q3_ HB.out GE203.out) hb)
           clear HO_3
           clear BK203
           clear HB
           have HO_3 := n0_
           have HO224 := n1_
           have BK203 := n2_
           have HB := n3_
           clear n0_ n1_ n2_ n3_
           (try clear hb)
           (try clear hb2)
           (try clear hk)
           (try clear hi)
           (try clear ho0)
           obtain ⟨Ao53, co53, eo53⟩ := Kd.R_slice HO224.out
           (first | subst eo53 | (injection eo53 with f1_ f2_ f3_; have f4_ := f1_.symm; have f5_ := f3_.symm; clear f1_ f2_ f3_; subst f4_; subst f5_))
           refine hK.out _ _ ⟨(blk_cell BK203.out 0).trans rfl, (blk_cell BK203.out 1).trans rfl, (blk_cell BK203.out 2).trans rfl, (blk_cell BK203.out 3).trans rfl, (blk_cell BK203.out 4).trans rfl⟩ (fun hHeld => ?_)
           clear hK K
           refine norm_ (a' := ?_) ?_ ?_
           rotate_left
           ·show Act.put _ (some 60) _ = _
            simp only [Act.put, z1_, z2_, z3_, i64_w, i32_w]
            rfl
           refine one_ (i := 4) (N := some 61) #[true, true, true, true, true, true, true, true, true, false, false, false] rfl rfl (one_of HT_.out (by kernel_rfl)) (by decide) (fun K hK => ?_)
           refine Kd.R_append_rows_step (Kd.int .u8) (w0 := w) w.heap.size (by rfl) (.tmp 57) (.tmp 60) 27 5 (.int .u8 0) 1 rfl Tryz.underlying27 info5 rfl (by decide) (by omega) u3 x3_25 t222 _ _ _ (fun k_ => some k_ ≠ (.slice Ao53 t222.length co53 : Value).ownBlock) (fun _ => False) rfl rfl ?aO ?aR (fun _ _ h => h) (fun _ h => h.elim) ?aF ?aB ?aS ?aL ?_
           (case aR => repeat (first | exact (Kd.R_reads' HO224.out).2.2 | (with_reducible refine Kd.C_alloc ?_ _) | (with_reducible refine Kd.C_drewN ?_ _) | (with_reducible refine Kd.C_drew ?_)))
           (case aB => exact (by exact q3_ HB.out GE203.out))
           (case aF => exact (fun k_ hk => Kd.fresh' (Kd.R_lt (by exact q11_ HO224.out)) k_ hk))
           (case aO => exact (by (with_reducible repeat (first | apply Kd.R_alloc | apply Kd.R_drewN | apply Kd.R_drew)); exact Kd.R_mono HO_3.out (fun _ hk => hk.2)))
           (case aS => exact (below_size (by exact q3_ HB.out GE203.out)))
           (case aL => have := LMc46.out; omega)
           intro v226 w52 ho hb hg hat
           rw [← Ny225.out] at ho
           have n0_ := a_ (blk_grown (g := gb203) (o := .cells #[.bool a0_0, .int .u8 a0_1, .bool true, .int .u32 a0_3, .slice A0_4 l0_4.length c0_4] 81 (0, 0)) (by exact q10_ BK203.out) hg (Kd.R_ne HO_3.out BK203.out (by decide)))
           have n1_ := a_ (Kd.R_after (ok := (fun _ => True)) (by exact q11_ HO224.out) hg hat)
           have n2_ := a_ (hb)
           have n3_ := a_ (ho)
           clear BK203
           clear HO224
           clear HB
           clear HO_3
           have BK203 := n0_
           have HO224 := n1_
           have HB := n2_
           have HO227 := n3_
           clear n0_ n1_ n2_ n3_
           clear ho hb hg hat
           refine hK.out _ _ ⟨(blk_cell BK203.out 0).trans rfl, (blk_cell BK203.out 1).trans rfl, (blk_cell BK203.out 2).trans rfl, (blk_cell BK203.out 3).trans rfl, (blk_cell BK203.out 4).trans rfl⟩ (fun hHeld => ?_)
           clear hK K
           refine norm_ (a' := ?_) ?_ ?_
           rotate_left
           ·show Act.put _ (some 61) _ = _
            simp only [Act.put, z1_, z2_, z3_, i64_w, i32_w]
            rfl
           refine one_ (i := 9) (N := some 66) #[true, true, true, true, true, true, true, true, true, true, false, false] rfl rfl (one_of HT_.out (by kernel_rfl)) (by decide) (fun K hK => ?_)
           refine goes_ Tryz.func70 (by kernel_rfl) rfl #[.slice A0_4 l0_4.length c0_4, .int .u32 a0_3] (by rfl) rfl rfl (by exact q1_) ?_
           with_reducible refine (wsframe_Turn.calls kj25 _ _ l0_4 a0_3 t228 _ ?side1 ?side2 A47.out).mono ?_
           (case side1 => repeat (first | exact (Kd.C_below HR0_4.out HB.out) | (with_reducible refine Kd.C_alloc ?_ _) | (with_reducible refine Kd.C_drewN ?_ _) | (with_reducible refine Kd.C_drew ?_)))
           (case side2 => exact HC0_4.out)
           rintro e w54 ⟨v229, rfl, ho0, hb⟩
           refine ⟨_, rfl, ?_⟩
           have n0_ := a_ (Kd.R_elder' (by exact q11_ HO224.out) (Kd.R_base ho0) hb)
           have n1_ := a_ (Kd.R_elder' (by exact q11_ HO227.out) (Kd.R_base ho0) hb)
           have n2_ := a_ (Kd.R_lower (Kd.R_new' (Kd.R_new' ho0 (Kd.R_lt (by exact q11_ HO224.out))) (Kd.R_lt (by exact q11_ HO227.out))) (below_size (by exact q3_ HB.out GE203.out)))
           have n3_ := a_ (blk_below (g := gb203) (o := .cells #[.bool a0_0, .int .u8 a0_1, .bool true, .int .u32 a0_3, .slice A0_4 l0_4.length c0_4] 81 (0, 0)) (by exact q10_ BK203.out) hb)
           have n4_ := a_ (below_step (by exact q3_ HB.out GE203.out) hb)
           clear HO224
           clear HO227
           clear BK203
           clear HB
           have HO224 := n0_
           have HO227 := n1_
           have HO230 := n2_
           have BK203 := n3_
           have HB := n4_
           clear n0_ n1_ n2_ n3_ n4_
           (try clear hb)
           (try clear hb2)
           (try clear hk)
           (try clear hi)
           (try clear ho0)
           obtain ⟨Ao56, co56, eo56⟩ := Kd.R_slice HO230.out
           (first | subst eo56 | (injection eo56 with f1_ f2_ f3_; have f4_ := f1_.symm; have f5_ := f3_.symm; clear f1_ f2_ f3_; subst f4_; subst f5_))
           refine hK.out _ _ ⟨(blk_cell BK203.out 0).trans rfl, (blk_cell BK203.out 1).trans rfl, (blk_cell BK203.out 2).trans rfl, (blk_cell BK203.out 3).trans rfl, (blk_cell BK203.out 4).trans rfl⟩ (fun hHeld => ?_)
           clear hK K
           refine norm_ (a' := ?_) ?_ ?_
           rotate_left
           ·show Act.put _ (some 66) _ = _
            simp only [Act.put, z1_, z2_, z3_, i64_w, i32_w]
            rfl
           refine one_ (i := 10) (N := some 67) #[true, true, true, true, true, true, true, true, true, true, true, false] rfl rfl (one_of HT_.out (by kernel_rfl)) (by decide) (fun K hK => ?_)
           refine Kd.R_append_rows_step (Kd.int .u8) (w0 := w) w.heap.size (by rfl) (.tmp 61) (.tmp 66) 27 5 (.int .u8 0) 1 rfl Tryz.underlying27 info5 rfl (by decide) (by omega) v226 y225 t228 _ _ _ (fun k_ => some k_ ≠ (.slice Ao53 t222.length co53 : Value).ownBlock ∧ some k_ ≠ (.slice Ao56 t228.length co56 : Value).ownBlock) (fun _ => False) rfl rfl ?aO ?aR (fun _ _ h => h) (fun _ h => h.elim) ?aF ?aB ?aS ?aL ?_
           (case aR => repeat (first | exact (Kd.R_reads' HO230.out).2.2 | (with_reducible refine Kd.C_alloc ?_ _) | (with_reducible refine Kd.C_drewN ?_ _) | (with_reducible refine Kd.C_drew ?_)))
           (case aB => exact (by exact q3_ HB.out GE203.out))
           (case aF => exact (fun k_ hk => ⟨Kd.fresh' (Kd.R_lt (by exact q11_ HO224.out)) k_ hk, Kd.fresh' (Kd.R_lt (by exact q11_ HO230.out)) k_ hk⟩))
           (case aO => exact (by exact q11_ HO227.out))
           (case aS => exact (below_size (by exact q3_ HB.out GE203.out)))
           (case aL => have := LMc48.out; omega)
           intro v232 w55 ho hb hg hat
           rw [← Ny231.out] at ho
           have n0_ := a_ (blk_grown (g := gb203) (o := .cells #[.bool a0_0, .int .u8 a0_1, .bool true, .int .u32 a0_3, .slice A0_4 l0_4.length c0_4] 81 (0, 0)) (by exact q10_ BK203.out) hg (Kd.R_ne HO227.out BK203.out (by decide)))
           have n1_ := a_ (Kd.R_after (ok := (fun k_ => some k_ ≠ (.slice Ao56 t228.length co56 : Value).ownBlock)) (by (with_reducible repeat (first | apply Kd.R_alloc | apply Kd.R_drewN | apply Kd.R_drew)); exact Kd.R_mono HO224.out (fun _ hk => ⟨hk.2, hk.1.2⟩)) hg hat)
           have n2_ := a_ (Kd.R_after (ok := (fun k_ => some k_ ≠ (.slice Ao53 t222.length co53 : Value).ownBlock)) (by (with_reducible repeat (first | apply Kd.R_alloc | apply Kd.R_drewN | apply Kd.R_drew)); exact Kd.R_mono HO230.out (fun _ hk => ⟨hk.1.2, hk.2⟩)) hg hat)
           have n3_ := a_ (hb)
           have n4_ := a_ (ho)
           clear BK203
           clear HO224
           clear HO230
           clear HB
           clear HO227
           have BK203 := n0_
           have HO224 := n1_
           have HO230 := n2_
           have HB := n3_
           have HO233 := n4_
           clear n0_ n1_ n2_ n3_ n4_
           clear ho hb hg hat
           refine hK.out _ _ ⟨(blk_cell BK203.out 0).trans rfl, (blk_cell BK203.out 1).trans rfl, (blk_cell BK203.out 2).trans rfl, (blk_cell BK203.out 3).trans rfl, (blk_cell BK203.out 4).trans rfl⟩ (fun hHeld => ?_)
           clear hK K
           refine norm_ (a' := ?_) ?_ ?_
           rotate_left
           ·show Act.put _ (some 67) _ = _
            simp only [Act.put, z1_, z2_, z3_, i64_w, i32_w]
            rfl
           refine pureP 11 2 ?_ (hc := (any_of HT_.out (by kernel_rfl)))
           refine done_ (done_of HT_.out (by kernel_rfl)) ?_
           try go_wp2
           go_ret
           exact ⟨_, by exact q12_, by (with_reducible repeat (first | apply Kd.R_alloc | apply Kd.R_drewN | apply Kd.R_drew)); exact Kd.R_mono HO233.out (fun _ hk => trivial), by exact q3_ HB.out GE203.out⟩
          ·rw [if_neg c48] at H
           exact absurd H (by simp)
         ·rw [if_neg c46] at H
          exact absurd H (by simp)
        ·replace c44 := Bool.eq_false_iff.mpr c44
         subst c44
         rw [if_neg (show ¬ (false = true) by decide)] at H
         by_cases c57 : x3_25.length + l0_4.length < 140737488355328
         ·rw [if_pos c57] at H
          have LMc57 := a_ c57
          clear c57
          obtain ⟨y234, hy234⟩ : ∃ y_ : List Int, y_ = (x3_25 ++ l0_4) := ⟨_, rfl⟩
          replace H : (some y234) = some r := by exact rq_ H hy234
          have Ny234 := a_ hy234
          clear hy234
          obtain rfl := Option.some.inj H
          obtain ⟨hcz58_0, hfz58_0, hcz58_1, hfz58_1, hcz58_2, hfz58_2, hcz58_3, hfz58_3, hcz58_4, hfz58_4⟩ := xf5_ BK203.out
          go_wp2_with (first | ((with_reducible refine gate_builtin (b := .append) (xs := #[.tmp 53, .tmp 55]) rfl ?_); at_builtin; refine Kd.R_append_rows (Kd.int .u8) (w0 := w) w.heap.size rfl (.tmp 53) (.tmp 55) 27 5 (.int .u8 0) 1 rfl Tryz.underlying27 info5 rfl (by decide) (by omega) u3 x3_25 l0_4 _ _ _ (fun _ => True) (fun _ => False) rfl rfl ?aO ?aR (fun _ _ h => h) (fun _ h => h.elim) ?aF ?aB ?aS ?aL ?_; (case aR => repeat (first | exact (Kd.C_below HR0_4.out HB.out) | (with_reducible refine Kd.C_alloc ?_ _) | (with_reducible refine Kd.C_drewN ?_ _) | (with_reducible refine Kd.C_drew ?_))); (case aB => exact (by exact q3_ HB.out GE203.out)); (case aF => exact (fun _ _ => trivial)); (case aO => exact (by exact q11_ HO_3.out)); (case aS => exact (below_size (by exact q3_ HB.out GE203.out))); (case aL => have := LMc57.out; omega); intro v235 w59 ho hb hg hat; rw [← Ny234.out] at ho; have n0_ := a_ (blk_grown (g := gb203) (o := .cells #[.bool a0_0, .int .u8 a0_1, .bool false, .int .u32 a0_3, .slice A0_4 l0_4.length c0_4] 81 (0, 0)) (by exact q10_ BK203.out) hg (Kd.R_ne HO_3.out BK203.out (by decide))); have n1_ := a_ (hb); have n2_ := a_ (ho); clear BK203; clear HB; clear HO_3; have BK203 := n0_; have HB := n1_; have HO236 := n2_; clear n0_ n1_ n2_; clear ho hb hg hat))
          go_ret
          exact ⟨_, by exact q12_, by (with_reducible repeat (first | apply Kd.R_alloc | apply Kd.R_drewN | apply Kd.R_drew)); exact HO236.out, by exact q3_ HB.out GE203.out⟩
         ·rw [if_neg c57] at H
          exact absurd H (by simp)
 ·replace c3 := Bool.eq_false_iff.mpr c3
  subst c3
  rw [if_neg (show ¬ (false = true) by decide)] at H
  obtain rfl := Option.some.inj H
  go_enter Tryz.func37, Tryz.ntmps37
  go_wp2_with (first | ((with_reducible refine gate_dst (N := 1) rfl ?_); refine box_event ?hg (N := 1) ?hd (cs := #[.bool a0_0, .int .u8 a0_1, .bool a0_2, .int .u32 a0_3, .slice A0_4 l0_4.length c0_4]) (t := 81) ?hr ?_; (case hd => rfl); (case hg => rfl); (case hr => first | (go_simp; done) | (go_simp; rfl)); intro gb203 hg w60 hbox hb; obtain ⟨HB, BK203, GW203, GE203⟩ := And.intro (a_ (below_step (by exact q2_ HB.out) hb)) (And.intro (a_ (hbox)) (And.intro (a_ ((by rw [hg]; exact (below_size (by exact q2_ HB.out)) : w.heap.size ≤ gb203))) (a_ ((by rw [hg]; exact (below_size (by exact q2_ HB.out)) : w.heap.size ≤ gb203))))); clear hb hbox hg; obtain ⟨hcz61_0, hfz61_0, hcz61_1, hfz61_1, hcz61_2, hfz61_2, hcz61_3, hfz61_3, hcz61_4, hfz61_4⟩ := xf5_ BK203.out) | ((with_reducible refine gate_callee (f := 68) rfl ?_); refine goesL_ (some 6) rfl rfl Tryz.func68 (by kernel_rfl) rfl #[.agg #[.bool a0_0, .int .u8 a0_1, .bool a0_2, .int .u32 a0_3, .slice A0_4 l0_4.length c0_4]] rfl (by exact q1_) ?_; (with_reducible refine (wsframe_May.calls k a0_0 a0_1 a0_2 a0_3 _ _ l0_4 false _ ?side1 ?side2 A2.out).mono ?_); (case side1 => repeat (first | exact (Kd.C_below HR0_4.out HB.out) | (with_reducible refine Kd.C_alloc ?_ _) | (with_reducible refine Kd.C_drewN ?_ _) | (with_reducible refine Kd.C_drew ?_))); (case side2 => exact HC0_4.out); rintro e w62 ⟨rfl, hb⟩; refine ⟨_, rfl, ?_⟩; obtain ⟨BK203, HB⟩ := And.intro (a_ (blk_below (g := gb203) (o := .cells #[.bool a0_0, .int .u8 a0_1, .bool a0_2, .int .u32 a0_3, .slice A0_4 l0_4.length c0_4] 81 (0, 0)) (by exact q10_ BK203.out) hb)) (a_ (below_step (by exact q3_ HB.out GE203.out) hb)); (try clear hb); (try clear hb2); (try clear hk); (try clear hi)))
  go_ret
  exact ⟨_, by exact q12_, by first | exact Kd.R_nil _ _ _ _ _ | exact Kd.N_nil _ _ _ _ _ | exact Kd.V_nil _ _ _ _ _ | exact Kd.Q_nil _ _ _ _ _ | exact Kd.S_nil _ _ _ _ _, by exact q3_ HB.out GE203.out⟩
end Go.Proofs.YtpmeapdcjmaeiaaGreatDoor.PAll

namespace Go.Proofs.YtpmeapdcjmaeiaaGreatDoor.PAll
open Go.RowKit Go.Wa Go.Wb Go.Wc
attribute [local go_sem] max2_int min2_int max_two min_two max_three min_three max_four min_four
end Go.Proofs.YtpmeapdcjmaeiaaGreatDoor.PAll

namespace Go.Proofs.YtpmeapdcjmaeiaaGreatDoor.PAll
open Go.RowKit Go.Wa Go.Wb Go.Wc
attribute [local go_sem] max2_int min2_int max_two min_two max_three min_three max_four min_four
end Go.Proofs.YtpmeapdcjmaeiaaGreatDoor.PAll
namespace Go.Proofs.YtpmeapdcjmaeiaaGreatDoor.PAll
open Go.RowKit Go.Wa Go.Wb Go.Wc
def putL (fin : Bool) (op : Int) (mask : Bool) (key : Int) (d : List Int) : List Int :=
 (op + (if fin = true then 128 else 0)) :: ((if mask = true then 128 else 0) + (if d.length < 126 then (d.length : Int) else 126)) :: ((if d.length < 126 then [] else [(d.length : Int) / 256 % 256, (d.length : Int) % 256]) ++ (if mask = true then keyOf key ++ turned d key else d))
def mayB (fin : Bool) (op : Int) (mask : Bool) (key : Int) (d : List Int) : Bool := knownB op && (mask || decide (key = 0)) && decide ((d.length : Int) ≤ 4096) && (decide (op < 8) || (fin && decide ((d.length : Int) ≤ 125)))
theorem knownB_iff (a : Int) : knownB a = true ↔ a ≤ 2 ∨ (8 ≤ a ∧ a ≤ 10) := by simp [knownB]
theorem mayB_iff (fin : Bool) (op : Int) (mask : Bool) (key : Int) (d : List Int) : mayB fin op mask key d = true ↔ (op ≤ 2 ∨ (8 ≤ op ∧ op ≤ 10)) ∧ (mask = true ∨ key = 0) ∧ (d.length : Int) ≤ 4096 ∧ (op < 8 ∨ (fin = true ∧ (d.length : Int) ≤ 125)) := by
 simp [mayB, knownB_iff, and_assoc]
theorem wknown_f (a : Int) : wsframe_known.f a = some (knownB a) := by
 unfold wsframe_known.f knownB
 by_cases h : a ≤ 2
 ·rw [if_pos h]; simp [h]
 ·rw [if_neg h]
  by_cases h8 : a ≥ 8
  ·rw [if_pos h8]; simp [h]; omega
  ·rw [if_neg h8]; simp [h]; omega
theorem wmay_f (k : Nat) (hk : 1 ≤ k) (fin : Bool) (op : Int) (mask : Bool) (key : Int) (d : List Int) : wsframe_May.f k fin op mask key d = some (mayB fin op mask key d) := by
 obtain ⟨k, rfl⟩ : ∃ m, k = m + 1 := ⟨k - 1, by omega⟩
 unfold wsframe_May.f
 rw [wknown_f, Option.bind_some]
 have hc : wsframe_control.f op = some (decide (op ≥ 8)) := rfl
 simp only [wsframe_May.j0]
 unfold mayB
 cases hk : knownB op
 ·rw [if_neg (by decide), if_pos (by rfl)]; simp
 ·rw [if_pos rfl]
  have tail : ∀ b : Bool, b = decide ((d.length : Int) > 4096) → (if b = true then some false else (wsframe_control.f op).bind fun t121 => if t121 = true then (if fin = true then (if (d.length : Int) > 125 then some false else some true) else some false) else some true) = some (decide ((d.length : Int) ≤ 4096) && (decide (op < 8) || (fin && decide ((d.length : Int) ≤ 125)))) := by
   intro b hb
   subst hb
   by_cases h : (d.length : Int) > 4096
   ·rw [if_pos (decide_eq_true h)]; have : ¬ (d.length : Int) ≤ 4096 := by omega
    simp [this]
   ·rw [if_neg (by simpa using h), hc, Option.bind_some]
    have h1 : (d.length : Int) ≤ 4096 := by omega
    by_cases h8 : op ≥ 8
    ·rw [if_pos (decide_eq_true h8)]
     have h9 : ¬ op < 8 := by omega
     cases fin
     ·simp [h1, h9]
     ·by_cases h5 : (d.length : Int) > 125
      ·rw [if_pos rfl, if_pos h5]; have : ¬ (d.length : Int) ≤ 125 := by omega
       simp [h1, h9, this]
      ·rw [if_pos rfl, if_neg h5]; have : (d.length : Int) ≤ 125 := by omega
       simp [h1, h9, this]
    ·rw [if_neg (by simpa using h8)]; have : op < 8 := by omega
     simp [h1, this]
  cases mask
  ·rw [if_neg (by decide)]
   by_cases h0 : key = 0
   ·rw [if_pos h0, tail _ rfl]; simp [h0]
   ·rw [if_neg h0, if_pos (bne_iff_ne.mpr h0)]; simp [h0]
  ·rw [if_pos rfl, tail _ rfl]; simp
theorem or128 {x : Int} (h0 : 0 ≤ x) (h1 : x ≤ 127) : Go.bits .or .u8 x 128 = x + 128 := by
 have := (by decide +kernel : ∀ n : Fin 128, Go.bits .or .u8 (n.val : Int) 128 = (n.val : Int) + 128) ⟨x.toNat, by omega⟩
 rwa [show ((⟨x.toNat, by omega⟩ : Fin 128).val : Int) = x by show (x.toNat : Int) = x; omega] at this
theorem zeroOr {x : Int} (h0 : 0 ≤ x) (h1 : x ≤ 127) : Go.bits .or .u8 0 x = x := by
 have := (by decide +kernel : ∀ n : Fin 128, Go.bits .or .u8 0 (n.val : Int) = (n.val : Int)) ⟨x.toNat, by omega⟩
 rwa [show ((⟨x.toNat, by omega⟩ : Fin 128).val : Int) = x by show (x.toNat : Int) = x; omega] at this
theorem topOr {x : Int} (h0 : 0 ≤ x) (h1 : x ≤ 127) : Go.bits .or .u8 128 x = 128 + x := by
 have := (by decide +kernel : ∀ n : Fin 128, Go.bits .or .u8 128 (n.val : Int) = 128 + (n.val : Int)) ⟨x.toNat, by omega⟩
 rwa [show ((⟨x.toNat, by omega⟩ : Fin 128).val : Int) = x by show (x.toNat : Int) = x; omega] at this
theorem turn_k (l : List Int) (key : Int) (hm : l.length ≤ 140737488355328) (k : Nat) (hk : l.length + 1 ≤ k) : wsframe_Turn.f k l key = some (turned l key) := by
 have := turn_f l key hm (k - (l.length + 1))
 rwa [show l.length + 1 + (k - (l.length + 1)) = k by omega] at this
theorem put_f (fin : Bool) (op : Int) (mask : Bool) (key : Int) (d : List Int) (h0 : 0 ≤ op) (hM : mayB fin op mask key d = true) (k : Nat) (hk : d.length + 10 ≤ k) : wsframe_Put.f k fin op mask key d = some (putL fin op mask key d) := by
 obtain ⟨k, rfl⟩ : ∃ m, k = m + 3 := ⟨k - 3, by omega⟩
 obtain ⟨hop, hmk, hlen, hctl⟩ := (mayB_iff ..).1 hM
 have hop2 : op ≤ 10 := by omega
 unfold wsframe_Put.f
 rw [wmay_f _ (by omega), hM, Option.bind_some, if_pos rfl, Option.bind_some]
 have e1 : ∀ x y : Int, rd [x, y] 0 = x := fun _ _ => rfl
 have e2 : ∀ x y : Int, rd [x, y] 1 = y := fun _ _ => rfl
 have s0 : ∀ x y z : Int, [x, y].set (0 : Int).toNat z = [z, y] := fun _ _ _ => rfl
 have s1 : ∀ x y z : Int, [x, y].set (1 : Int).toNat z = [x, z] := fun _ _ _ => rfl
 have j2 : ∀ x y : List Int, x.length + y.length ≤ 4 → wsframe_Put.j2 (k + 1) (x ++ y) fin op mask key d = some (x ++ y ++ (if mask = true then keyOf key ++ turned d key else d)) := by
  intro x y hxy
  rw [wsframe_Put.j2]
  cases mask
  ·rw [if_neg (by decide), if_pos (by simp only [List.length_append]; omega), if_neg (by decide)]
  ·rw [if_pos rfl, key_f, Option.bind_some, if_pos (by rw [List.length_append, show (keyOf key).length = 4 from rfl]; omega), Option.bind_some, turn_k d key (by omega) k (by omega), Option.bind_some, if_pos (by rw [List.length_append, List.length_append, turned_len, show (keyOf key).length = 4 from rfl]; omega), if_pos rfl]
   simp
 have j1 : ∀ x b : Int, (b = 0 ∨ b = 128) → wsframe_Put.j1 (k + 2) [x, b] fin op mask key d = some (x :: (b + (if d.length < 126 then (d.length : Int) else 126)) :: ((if d.length < 126 then [] else [(d.length : Int) / 256 % 256, (d.length : Int) % 256]) ++ (if mask = true then keyOf key ++ turned d key else d))) := by
  intro x b hb
  unfold wsframe_Put.j1
  dsimp only
  by_cases hs : d.length < 126
  ·rw [if_pos (by omega), if_pos (by simp), e2, s1, if_pos hs, if_pos hs]
   have hm : ((d.length : Int)) % 256 = (d.length : Int) := by omega
   have : Go.bits .or .u8 b ((d.length : Int) % 256) = b + (d.length : Int) := by
    rw [hm]
    rcases hb with rfl | rfl
    ·rw [zeroOr (by omega) (by omega)]; omega
    ·exact topOr (by omega) (by omega)
   rw [this]
   have := j2 [x, b + (d.length : Int)] [] (by simp)
   simpa using this
  ·rw [if_neg (by omega), if_pos (by simp), e2, s1, Option.bind_some, Option.bind_some, if_pos (by simp), if_neg hs, if_neg hs]
   have : Go.bits .or .u8 b 126 = b + 126 := by
    rcases hb with rfl | rfl
    ·exact zeroOr (by omega) (by omega)
    ·exact topOr (by omega) (by omega)
   rw [this]
   have := j2 [x, b + 126] [(d.length : Int) / 256 % 256, (d.length : Int) % 256] (by simp)
   simpa using this
 have j0 : ∀ x : Int, wsframe_Put.j0 (k + 3) [x, 0] fin op mask key d = some (x :: ((if mask = true then 128 else 0) + (if d.length < 126 then (d.length : Int) else 126)) :: ((if d.length < 126 then [] else [(d.length : Int) / 256 % 256, (d.length : Int) % 256]) ++ (if mask = true then keyOf key ++ turned d key else d))) := by
  intro x
  rw [wsframe_Put.j0]
  cases hm : mask
  ·subst hm
   rw [if_neg (by decide), j1 x 0 (.inl rfl)]; simp
  ·subst hm
   rw [if_pos rfl, if_pos (by simp), e2, s1, or128 (by omega) (by omega), j1 x (0 + 128) (.inr rfl)]; simp
 unfold putL
 cases hf : fin
 ·subst hf
  rw [if_neg (by decide), j0]; simp
 ·subst hf
  rw [if_pos rfl, if_pos (by simp), e1, s0, or128 h0 (by omega), j0, if_pos rfl]
end Go.Proofs.YtpmeapdcjmaeiaaGreatDoor.PAll
namespace Go.Proofs.YtpmeapdcjmaeiaaGreatDoor.PAll
open Go.RowKit Go.Wa Go.Wb Go.Wc
theorem rd0 (x : Int) (l : List Int) : rd (x :: l) 0 = x := rfl
theorem rd1 (x y : Int) (l : List Int) : rd (x :: y :: l) 1 = y := rfl
def lenB (n : Nat) : Int := if n < 126 then (n : Int) else 126
def frontOf (mask : Bool) (n : Nat) : Int := (if n < 126 then 2 else 4) + (if mask = true then 4 else 0)
theorem turned_bytes {d : List Int} (hd : ∀ x ∈ d, Byte x) (key : Int) : ∀ x ∈ turned d key, Byte x := turned_byte d key hd
theorem keyOf_bytes (key : Int) : ∀ x ∈ keyOf key, Byte x := by
 intro x hx
 simp only [keyOf, List.mem_cons, List.not_mem_nil, or_false] at hx
 rcases hx with rfl | rfl | rfl | rfl <;> exact ⟨by omega, by omega⟩
theorem body_bytes {d : List Int} (hd : ∀ x ∈ d, Byte x) (mask : Bool) (key : Int) : ∀ x ∈ (if mask = true then keyOf key ++ turned d key else d), Byte x := by
 intro x hx
 cases mask
 ·exact hd x (by simpa using hx)
 ·rw [if_pos rfl] at hx
  rcases List.mem_append.1 hx with h | h
  ·exact keyOf_bytes key x h
  ·exact turned_bytes hd key x h
section
variable {fin : Bool} {op : Int} {mask : Bool} {key : Int} {d : List Int} (h0 : 0 ≤ op) (hd : ∀ x ∈ d, Byte x) (hM : mayB fin op mask key d = true)
include h0 hd hM
theorem putL_bytes : (putL fin op mask key d).all isByte = true := by
 obtain ⟨hop, hmk, hlen, hctl⟩ := (mayB_iff ..).1 hM
 rw [List.all_eq_true]
 intro x hx
 rw [isByte_iff]
 unfold putL at hx
 rcases List.mem_cons.1 hx with rfl | hx
 ·cases fin <;> simp <;> omega
 ·rcases List.mem_cons.1 hx with rfl | hx
  ·by_cases hn : d.length < 126
   ·rw [if_pos hn]; cases mask <;> simp <;> omega
   ·rw [if_neg hn]; cases mask <;> simp
  ·rcases List.mem_append.1 hx with hx | hx
   ·by_cases hn : d.length < 126
    ·rw [if_pos hn] at hx; cases hx
    ·rw [if_neg hn] at hx
     simp only [List.mem_cons, List.not_mem_nil, or_false] at hx
     rcases hx with rfl | rfl <;> exact ⟨by omega, by omega⟩
   ·exact body_bytes hd mask key x hx
theorem putL_len : ((putL fin op mask key d).length : Int) = frontOf mask d.length + d.length := by
 have _u := h0
 have _v := hd
 unfold putL frontOf
 simp only [List.length_cons, List.length_append]
 by_cases hn : d.length < 126
 ·rw [if_pos hn, if_pos hn]
  cases mask
  ·simp; omega
  ·simp [keyOf, turned_len]; omega
 ·rw [if_neg hn, if_neg hn]
  cases mask
  ·simp; omega
  ·simp [keyOf, turned_len]; omega
theorem lenF_put : lenF (putL fin op mask key d) = ((d.length : Int), (if d.length < 126 then 2 else 4), false, 0) := by
 obtain ⟨hop, hmk, hlen, hctl⟩ := (mayB_iff ..).1 hM
 have h1 : rd (putL fin op mask key d) 1 % 128 = lenB d.length := by
  unfold putL lenB
  rw [rd1]
  by_cases hn : d.length < 126
  ·rw [if_pos hn]; cases mask <;> simp <;> omega
  ·rw [if_neg hn]; cases mask <;> simp
 unfold lenF
 rw [h1]
 by_cases hn : d.length < 126
 ·have e : lenB d.length = (d.length : Int) := if_pos hn
  rw [e, if_neg (by omega), if_neg (by omega), if_pos hn]
 ·have e : lenB d.length = 126 := if_neg hn
  have hl : ¬ (putL fin op mask key d).length < 4 := by
   have := putL_len h0 hd hM
   unfold frontOf at this
   rw [if_neg hn] at this
   cases mask <;> simp at this <;> omega
  have hv : val (putL fin op mask key d) 2 2 = (d.length : Int) := by
   have e2 : val (putL fin op mask key d) 2 2 = (0 * 256 + rd (putL fin op mask key d) 2) * 256 + rd (putL fin op mask key d) 3 := rfl
   rw [e2]
   unfold putL
   rw [if_neg hn, if_neg hn]
   show (0 * 256 + (d.length : Int) / 256 % 256) * 256 + (d.length : Int) % 256 = _
   omega
  rw [if_pos e, if_neg hl, hv, if_neg (by omega), if_neg hn]
theorem putL_first : rd (putL fin op mask key d) 0 / 16 % 8 = 0 ∧ rd (putL fin op mask key d) 0 % 16 = op ∧ decide (128 ≤ rd (putL fin op mask key d) 0) = fin ∧ decide (128 ≤ rd (putL fin op mask key d) 1) = mask ∧ rd (putL fin op mask key d) 1 % 128 = lenB d.length := by
 have _v := hd
 obtain ⟨hop, hmk, hlen, hctl⟩ := (mayB_iff ..).1 hM
 unfold putL lenB
 rw [rd0, rd1]
 refine ⟨?_, ?_, ?_, ?_, ?_⟩
 ·cases fin <;> simp <;> omega
 ·cases fin <;> simp <;> omega
 ·cases fin <;> simp <;> omega
 ·by_cases hn : d.length < 126
  ·rw [if_pos hn]; cases mask <;> simp <;> omega
  ·rw [if_neg hn]; cases mask <;> simp
 ·by_cases hn : d.length < 126
  ·rw [if_pos hn]; cases mask <;> simp <;> omega
  ·rw [if_neg hn]; cases mask <;> simp
theorem headF_put (m : Bool) : headF (putL fin op mask key d) m = if m = mask then (frontOf mask d.length, (d.length : Int), false, 0) else (0, 0, false, 1002) := by
 obtain ⟨hop, hmk, hlen, hctl⟩ := (mayB_iff ..).1 hM
 obtain ⟨e1, e2, e3, e4, e5⟩ := putL_first h0 hd hM
 have hl := putL_len h0 hd hM
 have hf : 2 ≤ frontOf mask d.length := by unfold frontOf; cases mask <;> split <;> simp
 have hk : knownB op = true := (knownB_iff op).2 hop
 unfold headF
 rw [if_neg (by omega), e1, e2, e4, e5, hk, if_neg (by
  rintro (h | h | h)
  ·exact h rfl
  ·cases h
  ·have hft : fin = true := by
    rcases hctl with h8 | h8
    ·omega
    ·exact h8.1
   have := of_decide_eq_true (e3.trans hft)
   omega), if_neg (by omega)]
 by_cases hmm : m = mask
 ·subst hmm
  rw [if_neg (by
   rintro (h | h)
   ·exact h rfl
   ·unfold lenB at h
    have h5 : (d.length : Int) ≤ 125 := by
     rcases hctl with h8 | h8
     ·omega
     ·exact h8.2
    rw [if_pos (by omega)] at h
    omega), lenF_put h0 hd hM, if_neg (by simp), if_neg (by simp), if_neg (by dsimp only; omega), if_pos rfl]
  unfold frontOf
  rfl
 ·rw [if_pos (.inl (fun h => hmm h.symm)), if_neg hmm]
theorem raw_put : rawOf (putL fin op mask key d) mask = (if mask = true then turned d key else d) := by
 unfold rawOf
 rw [headF_put h0 hd hM, if_pos rfl]
 unfold putL frontOf
 by_cases hn : d.length < 126
 ·rw [if_pos hn, if_pos hn, if_pos hn]
  cases mask <;> rfl
 ·rw [if_neg hn, if_neg hn, if_neg hn]
  cases mask <;> rfl
theorem keyIn_put (k0 : 0 ≤ key) (k1 : key ≤ 4294967295) : keyIn (putL fin op mask key d) mask = key := by
 obtain ⟨hop, hmk, hlen, hctl⟩ := (mayB_iff ..).1 hM
 unfold keyIn
 rw [headF_put h0 hd hM, if_pos rfl]
 cases mask
 ·rw [if_neg (by decide)]
  rcases hmk with h | h
  ·cases h
  ·exact h.symm
 ·rw [if_pos rfl]
  have hk : (((key / 16777216 % 256) * 256 + key / 65536 % 256) * 256 + key / 256 % 256) * 256 + key % 256 = key := by omega
  unfold frontOf putL
  by_cases hn : d.length < 126
  ·rw [if_pos hn, if_pos hn, if_pos hn]
   refine Eq.trans ?_ hk
   show (((0 * 256 + key / 16777216 % 256) * 256 + key / 65536 % 256) * 256 + key / 256 % 256) * 256 + key % 256 = _
   rw [Int.zero_mul, Int.zero_add]
  ·rw [if_neg hn, if_neg hn, if_neg hn]
   refine Eq.trans ?_ hk
   show (((0 * 256 + key / 16777216 % 256) * 256 + key / 65536 % 256) * 256 + key / 256 % 256) * 256 + key % 256 = _
   rw [Int.zero_mul, Int.zero_add]
end
end Go.Proofs.YtpmeapdcjmaeiaaGreatDoor.PAll
namespace Go.Proofs.YtpmeapdcjmaeiaaGreatDoor
open Go.RowKit Go.Wa Go.Wb Go.Wc PAll
theorem head_f {l : List Int} (hl : l.all isByte = true) (m : Bool) : wsframe_Head.f l m = some (HeadF l m) := by
 unfold wsframe_Head.f
 rw [if_pos hl]
theorem Next_none {wb w : World} {g : Nat} {v : Value} {m : Bool} {l : List Int} (h : Sp wb w g v m false l) (hg : Cond w) (hl : l.all isByte = true) (hc : code1 l m = 0) (hf : ¬ IsFr l m) :
  Calls Tryz.prog 42 #[.pointer (some ⟨g, 0, none⟩)] w fun e w' => e = .returned (.tuple #[.agg #[.bool false, .int .u8 0, .bool false, .int .u32 0, .slice none 0 0], .agg #[.int .u8 0, .int .u32 0], .bool false]) ∧ Below w.heap.size w w' := by
 have hh := head_f hl m
 rcases HeadF_not hl hc hf with e | ⟨r1, e, h1⟩
 ·rw [e] at hh
  exact split_next_none wb w g v m l 0 0 0 false h hg hh rfl
 ·rw [e] at hh
  exact split_next_more wb w g v m l r1 0 0 true h hg hh rfl rfl rfl (decide_eq_true h1)
theorem Next_frame {wb w : World} {g : Nat} {v : Value} {m : Bool} {l : List Int} (h : Sp wb w g v m false l) (hB : Below wb.heap.size wb w) (hgb : wb.heap.size ≤ g) (hg : Cond w) (hl : l.all isByte = true) (hf : IsFr l m) (hn : l.length ≤ 100000) {p : Pc} (hp : p = pieceOf (l.take (size1 l m)) m) :
  Calls Tryz.prog 42 #[.pointer (some ⟨g, 0, none⟩)] w (NextPost wb g m (l.drop (size1 l m)) p.f0 p.f1 p.f2 p.f3 p.f4 w) := by
 subst hp
 have hh := head_f hl m
 rw [HeadF_fr hl hf] at hh
 have hr := hf.room
 have hbt := take_byte hl (size1 l m)
 have hlt : (l.take (size1 l m)).length ≤ 100000 := by rw [List.length_take]; omega
 have hraw : (rawOf (l.take (size1 l m)) m).length ≤ 100000 := by unfold rawOf; rw [List.length_drop]; omega
 refine split_next_frame wb w g v m l (l.take (size1 l m)) (l.drop (size1 l m)) 200000 (size1 l m : Nat) _ _ _ _ _ 0 0 h hB hgb hg hh (by omega) (by omega) (by simp) (by simp) ?_ (by unfold bytes_Clone.f; rw [if_pos (by rw [List.length_drop]; omega)])
 unfold wsframe_Get.f pieceOf dataOf
 rw [if_pos hbt, if_pos (hf.bad hl)]
 cases m with
 | false => rw [if_neg (by decide), if_neg (by decide), Option.bind_some, if_pos (by omega)]
 | true => rw [if_pos rfl, if_pos rfl, turn_k _ _ (by omega) _ (by omega), Option.bind_some, if_pos (by omega)]
theorem Next_bad {wb w : World} {g : Nat} {v : Value} {m : Bool} {l : List Int} (h : Sp wb w g v m false l) (hB : Below wb.heap.size wb w) (hgb : wb.heap.size ≤ g) (hg : Cond w) (hl : l.all isByte = true) (hc : code1 l m ≠ 0) :
  Calls Tryz.prog 42 #[.pointer (some ⟨g, 0, none⟩)] w (NextBad wb g m (code1 l m) w) := by
 have hh := head_f hl m
 rw [HeadF_bad hc] at hh
 exact split_next_bad wb w g v m l 0 (code1 l m) h hB hgb hg hh
theorem Feed_any {wb w : World} {g : Nat} {v : Value} {m : Bool} {l xs : List Int} {A : Option Addr} {c k : Nat} (h : Sp wb w g v m false l) (hB : Below wb.heap.size wb w) (hgb : wb.heap.size ≤ g) (hC : Kd.C (Kd.int .u8) w A xs.length xs) (hc : xs.length ≤ c) (hl : l.length ≤ 4110) (hk : k = min xs.length (4110 - l.length)) :
  Calls Tryz.prog 41 #[.pointer (some ⟨g, 0, none⟩), .slice A xs.length c] w (FeedPost wb g v m (l ++ xs.take k) k w) := by
 by_cases hfit : l.length + xs.length ≤ 4110
 ·rw [show k = xs.length by omega, List.take_length]
  exact split_feed_fit wb w g v m l xs A c h hB hgb hC hc hfit
 ·have e : (xs.take k).length = k := by rw [List.length_take]; omega
  have := split_feed_less wb w g v m l xs (xs.take k) A c h hB hgb hC hc hl (by omega) (by rw [show 4110 - l.length = k by omega])
  rwa [e] at this
end Go.Proofs.YtpmeapdcjmaeiaaGreatDoor



namespace Go.Proofs.YtpmeapdcjmaeiaaGreatDoor
open Go.RowKit Go.Wa Go.Wb Go.Wc PAll
theorem none_nil (m : Bool) : code1 [] m = 0 ∧ ¬ IsFr [] m := by
 have h : headF [] m = (0, 0, true, 0) := by unfold headF; rfl
 refine ⟨by unfold code1; rw [h], fun hf => ?_⟩
 have := hf.told
 rw [h] at this
 cases this
def putP (p : Pc) : List Int := putL p.f0 p.f1 p.f2 p.f3 p.f4
structure OkP (m : Bool) (p : Pc) : Prop where
 may : mayB p.f0 p.f1 p.f2 p.f3 p.f4 = true
 mask : p.f2 = m
 op : 0 ≤ p.f1
 key0 : 0 ≤ p.f3
 key1 : p.f3 ≤ 4294967295
 data : ∀ x ∈ p.f4, Byte x
theorem OkP.bytes {m : Bool} {p : Pc} (h : OkP m p) : (putP p).all isByte = true := putL_bytes h.op h.data h.may
theorem OkP.head {m : Bool} {p : Pc} (h : OkP m p) (rest : List Int) : headF (putP p ++ rest) m = (frontOf p.f2 p.f4.length, (p.f4.length : Int), false, 0) := by
 have h1 := headF_put h.op h.data h.may m
 rw [if_pos h.mask.symm] at h1
 unfold putP
 rw [headF_app _ _ _ (by rw [h1]), h1]
theorem OkP.size {m : Bool} {p : Pc} (h : OkP m p) (rest : List Int) : size1 (putP p ++ rest) m = (putP p).length := by
 unfold size1
 rw [h.head rest]
 have h1 := putL_len h.op h.data h.may
 show (frontOf p.f2 p.f4.length + (p.f4.length : Int)).toNat = (putL p.f0 p.f1 p.f2 p.f3 p.f4).length
 omega
theorem OkP.fr {m : Bool} {p : Pc} (h : OkP m p) (rest : List Int) : IsFr (putP p ++ rest) m := by
 refine ⟨?_, ?_, ?_⟩
 ·unfold code1; rw [h.head rest]
 ·rw [h.head rest]
 ·rw [h.size rest, List.length_append]; omega
theorem OkP.piece {m : Bool} {p : Pc} (h : OkP m p) : pieceOf (putP p) m = p := by
 obtain ⟨e1, e2, e3, e4, e5⟩ := putL_first h.op h.data h.may
 have hr := raw_put h.op h.data h.may
 have hk := keyIn_put h.op h.data h.may h.key0 h.key1
 have hm := h.mask
 obtain ⟨f0, f1, f2, f3, f4⟩ := p
 dsimp only at hm hr hk e1 e2 e3 e4 e5
 subst hm
 unfold pieceOf dataOf putP
 dsimp only
 rw [e2, e3, hk, hr]
 cases f2 with
 | true => rw [if_pos rfl, if_pos rfl, turned_twice f4 f3 h.data]
 | false => rw [if_neg (by decide), if_neg (by decide)]
theorem AllP.put {m : Bool} {p : Pc} (h : OkP m p) {rest : List Int} {ps : List Pc} {c : Int} {r : List Int} (ha : AllP m rest ps c r) : AllP m (putP p ++ rest) (p :: ps) c r := by
 have e := AllP.frame (h.fr rest) (ps := ps) (c := c) (r := r)
 rw [h.size rest, List.drop_left, List.take_left, h.piece] at e
 exact e ha
def putAll (ps : List Pc) : List Int := ps.flatMap putP
theorem AllP.puts {m : Bool} : ∀ ps : List Pc, (∀ p ∈ ps, OkP m p) → AllP m (putAll ps) ps 0 []
 | [], _ => .stop (none_nil m).1 (none_nil m).2
 | p :: ps, h => by
  show AllP m (putP p ++ putAll ps) (p :: ps) 0 []
  exact AllP.put (h p List.mem_cons_self) (AllP.puts ps (fun q hq => h q (List.mem_cons_of_mem _ hq)))
theorem putAll_bytes {m : Bool} : ∀ ps : List Pc, (∀ p ∈ ps, OkP m p) → (putAll ps).all isByte = true
 | [], _ => rfl
 | p :: ps, h => by
  show (putP p ++ putAll ps).all isByte = true
  exact app_byte (h p List.mem_cons_self).bytes (putAll_bytes ps (fun q hq => h q (List.mem_cons_of_mem _ hq)))
theorem putAll_snoc (ps : List Pc) (p : Pc) : putAll (ps ++ [p]) = putAll ps ++ putP p := by
 unfold putAll
 simp
end Go.Proofs.YtpmeapdcjmaeiaaGreatDoor
namespace Go.Proofs.YtpmeapdcjmaeiaaGreatDoor
open Go.RowKit Go.Wa Go.Wb Go.Wc PAll U
abbrev Nt := PAll.S37
structure TM where
 cl : Bool
 keys : List Int
 key : Int
 l : List Int
 sbad : Bool
 b : List Int
 busy : Bool
 te : Bool
 over : Bool
 sent : Bool
 got : Bool
 code : Int
 cause : Int
 ecode : Int
 out : List Int
 pongs : Int
 ended : Bool
def TM.nkey (M : TM) : Int := if M.cl = true then (if 0 < M.keys.length then rd M.keys (Int.tmod M.key (M.keys.length : Int)) else 0) else 0
def TM.key' (M : TM) : Int := if M.cl = true then (if 0 < M.keys.length then M.key + 1 else M.key) else M.key
def putM (M : TM) (fin : Bool) (op : Int) (d : List Int) : TM := { M with key := M.key', out := M.out ++ putL fin op M.cl M.nkey d }
def sendM (M : TM) (d : List Int) : TM := if M.sent = true then M else putM { M with sent := true } true 8 d
def badM (M : TM) (code : Int) : TM := if M.cause ≠ 0 then M else sendM { M with cause := 2, ecode := code } (dataC code (⟨#[]⟩ : ByteArray))
def gotM (M : TM) (code : Int) : TM := if M.cause ≠ 0 then M else { sendM { M with got := true, code := code } (dataC code (⟨#[]⟩ : ByteArray)) with cause := 1, ecode := code }
def closeT (M : TM) (code : Int) (reason : ByteArray) : TM := if M.cause ≠ 0 then M else let M1 := sendM M (dataC code reason); if M1.got = true then { M1 with cause := 1, ecode := M1.code } else M1
def bNote (code : Int) : Nt := ⟨5, false, [], code⟩
def takesM (M : TM) (n : Nt) : TM × Nt :=
 if n.f0 = 5 then (badM M n.f3, bNote n.f3)
 else if n.f0 = 4 then (gotM M n.f3, n)
 else if n.f0 = 2 then (if M.sent = true then (M, n) else if M.pongs = 16 then (badM M 1008, bNote 1008) else (putM { M with pongs := M.pongs + 1 } true 10 n.f2, n))
 else (M, n)
def gF (b : List Int) (busy te over fin : Bool) (op : Int) (d : List Int) : List Int × Bool × Bool × Bool × Nt × Bool :=
 if over = true then (b, busy, te, true, ⟨0, false, [], 0⟩, false)
 else if op = 0 ∨ op = 1 ∨ op = 2 then
  (if partC busy te fin op b d ≠ 0 then ([], false, te, true, bNote (partC busy te fin op b d), true)
   else if fin = true then ([], false, textN busy te op, false, ⟨1, textN busy te op, b ++ d, 0⟩, true)
   else (b ++ d, true, textN busy te op, false, ⟨0, false, [], 0⟩, false))
 else if op = 8 then ([], false, te, true, ⟨(closeM d).1, false, (closeM d).2.1, (closeM d).2.2⟩, true)
 else if op = 9 then (b, busy, te, false, ⟨2, false, d, 0⟩, true)
 else if op = 10 then (b, busy, te, false, ⟨3, false, d, 0⟩, true)
 else ([], false, te, true, bNote 1002, true)
theorem Stp.fn {b b' nd d : List Int} {busy te over fin busy' te' over' tx ok : Bool} {op kind code : Int} (hs : Stp b busy te over fin op d b' busy' te' over' kind tx code nd ok) : ∃ te2, gF b busy te over fin op d = (b', busy', te2, over', ⟨kind, tx, nd, code⟩, ok) ∧ (over' = false → te2 = te') := by
 unfold gF
 cases hs with
 | over h => rw [if_pos h]; exact ⟨_, rfl, fun h => by cases h⟩
 | more h ho hc hf => rw [if_neg (by rw [h]; decide), if_pos ho, if_neg (by rw [hc]; simp), if_neg (by rw [hf]; decide)]; exact ⟨_, rfl, fun _ => rfl⟩
 | told h ho hc hf => rw [if_neg (by rw [h]; decide), if_pos ho, if_neg (by rw [hc]; simp), if_pos hf]; exact ⟨_, rfl, fun _ => rfl⟩
 | part h ho hc tn => rw [if_neg (by rw [h]; decide), if_pos ho, if_pos hc]; exact ⟨_, rfl, fun h => by cases h⟩
 | ping h ho => subst ho; rw [if_neg (by rw [h]; decide), if_neg (by decide), if_neg (by decide), if_pos rfl]; exact ⟨_, rfl, fun _ => rfl⟩
 | pong h ho => subst ho; rw [if_neg (by rw [h]; decide), if_neg (by decide), if_neg (by decide), if_neg (by decide), if_pos rfl]; exact ⟨_, rfl, fun _ => rfl⟩
 | other h ho tn => rw [if_neg (by rw [h]; decide), if_neg (by omega), if_neg (by omega), if_neg (by omega), if_neg (by omega)]; exact ⟨_, rfl, fun h => by cases h⟩
 | close h ho tn => subst ho; rw [if_neg (by rw [h]; decide), if_neg (by decide), if_pos rfl]; exact ⟨_, rfl, fun h => by cases h⟩
def TM.wg (M : TM) (p : Pc) : TM := { M with b := (gF M.b M.busy M.te M.over p.f0 p.f1 p.f4).1, busy := (gF M.b M.busy M.te M.over p.f0 p.f1 p.f4).2.1, te := (gF M.b M.busy M.te M.over p.f0 p.f1 p.f4).2.2.1, over := (gF M.b M.busy M.te M.over p.f0 p.f1 p.f4).2.2.2.1 }
def TM.tells (M : TM) (p : Pc) : Bool := (gF M.b M.busy M.te M.over p.f0 p.f1 p.f4).2.2.2.2.2
def TM.note (M : TM) (p : Pc) : Nt := (gF M.b M.busy M.te M.over p.f0 p.f1 p.f4).2.2.2.2.1
def takeM (M : TM) (p : Pc) : TM × List Nt := if M.tells p = true then ((takesM (M.wg p) (M.note p)).1, [(takesM (M.wg p) (M.note p)).2]) else (M.wg p, [])
def runM : TM → List Pc → Int → TM × List Nt
 | M, [], cd => if M.cause ≠ 0 then (M, []) else if cd ≠ 0 then (badM M cd, [bNote cd]) else (M, [])
 | M, p :: ps, cd => if M.cause ≠ 0 then (M, []) else ((runM (takeM M p).1 ps cd).1, (takeM M p).2 ++ (runM (takeM M p).1 ps cd).2)
structure TM.Ok (M : TM) : Prop where
 nob : M.busy = false → M.b = []
 blen : M.b.length ≤ 4096
 byt : ∀ x ∈ M.b, 0 ≤ x ∧ x ≤ 255
 llen : M.l.length ≤ 4110
 lbyt : M.l.all isByte = true
 key0 : 0 ≤ M.key
 keys : ∀ x ∈ M.keys, 0 ≤ x ∧ x ≤ 4294967295
 klen : M.keys.length ≤ 1000
 obyt : ∀ x ∈ M.out, 0 ≤ x ∧ x ≤ 255
 pong : 0 ≤ M.pongs ∧ M.pongs ≤ 16
end Go.Proofs.YtpmeapdcjmaeiaaGreatDoor

namespace Go.Proofs.YtpmeapdcjmaeiaaGreatDoor.PAll
open Go.RowKit Go.Wa Go.Wb Go.Wc
attribute [local go_sem] max2_int min2_int max_two min_two max_three min_three max_four min_four
def closing_Door_Close.f (k : Nat) (s0_0 : Bool) (s0_1 : Bool) (s0_2 : Int) (s0_3 : Int) (s0_4 : Int) (a1 : Int) (a2 : ByteArray) : Option (Bool × Int × Bool × Int × List Int × Bool × Bool × Bool × Int × Int × Int) := (closing_Door_Through.f s0_0 s0_1 s0_2 s0_3 s0_4).bind fun bt336 => (if bt336.1 = true then (some (false, 0, false, 0, ([] : List Int), false, bt336.2.1, bt336.2.2.1, bt336.2.2.2.1, bt336.2.2.2.2.1, bt336.2.2.2.2.2)) else ((closing_Door_send.f k bt336.2.1 bt336.2.2.1 bt336.2.2.2.1 bt336.2.2.2.2.1 bt336.2.2.2.2.2 a1 a2).bind fun bt342 => ((closing_Door_ends.f bt342.2.2.2.2.2.2.1 bt342.2.2.2.2.2.2.2.1 bt342.2.2.2.2.2.2.2.2.1 bt342.2.2.2.2.2.2.2.2.2.1 bt342.2.2.2.2.2.2.2.2.2.2).bind fun bt356 => (some (bt342.1, bt342.2.1, bt342.2.2.1, bt342.2.2.2.1, bt342.2.2.2.2.1, bt342.2.2.2.2.2.1, bt356.1, bt356.2.1, bt356.2.2.1, bt356.2.2.2.1, bt356.2.2.2.2)))))
theorem closing_Door_Close.calls (k : Nat) (g : Nat) (s0_0 : Bool) (s0_1 : Bool) (s0_2 : Int) (s0_3 : Int) (s0_4 : Int) (a1 : Int) (a2 : ByteArray) (r1 : Bool) (r2 : Int) (r3 : Bool) (r4 : Int) (r5 : List Int) (r6 : Bool) (r7 : Bool) (r8 : Bool) (r9 : Int) (r10 : Int) (r11 : Int) (w0 w : World) (hI : IsS121 w0 w g s0_0 s0_1 s0_2 s0_3 s0_4) (hB : Below w0.heap.size w0 w) (h : closing_Door_Close.f k s0_0 s0_1 s0_2 s0_3 s0_4 a1 a2 = some (r1, r2, r3, r4, r5, r6, r7, r8, r9, r10, r11)) :
  Calls Tryz.prog 48 #[.pointer (some ⟨g, 0, none⟩), .int .u32 a1, .string a2] w fun e w' => ∃ v4_ : Value, e = .returned (.tuple #[.agg #[.bool r1, .int .u8 r2, .bool r3, .int .u32 r4, v4_], .bool r6]) ∧ Kd.R (Kd.int .u8) 5 w' w.heap.size (fun _ => True) v4_ r5 ∧ IsS121 w0 w' g r7 r8 r9 r10 r11 ∧ Below w0.heap.size w0 w' ∧ KeepBut w w' g none := by
 have hf43_0 := field43_0
 have hf87_1 := field87_1
 have hu81 := Tryz.underlying81
 have HI0 := a_ hI
 have HK := a_ (KeepBut.refl w g none)
 have HL := a_ hB.size
 clear hI
 have HW0 := a_ hB.size
 have HB := a_ hB
 clear hB
 have H : ((closing_Door_Through.f s0_0 s0_1 s0_2 s0_3 s0_4).bind fun bt336 => (if bt336.1 = true then (some (false, 0, false, 0, ([] : List Int), false, bt336.2.1, bt336.2.2.1, bt336.2.2.2.1, bt336.2.2.2.2.1, bt336.2.2.2.2.2)) else ((closing_Door_send.f k bt336.2.1 bt336.2.2.1 bt336.2.2.2.1 bt336.2.2.2.2.1 bt336.2.2.2.2.2 a1 a2).bind fun bt342 => ((closing_Door_ends.f bt342.2.2.2.2.2.2.1 bt342.2.2.2.2.2.2.2.1 bt342.2.2.2.2.2.2.2.2.1 bt342.2.2.2.2.2.2.2.2.2.1 bt342.2.2.2.2.2.2.2.2.2.2).bind fun bt356 => (some (bt342.1, bt342.2.1, bt342.2.2.1, bt342.2.2.2.1, bt342.2.2.2.2.1, bt342.2.2.2.2.2.1, bt356.1, bt356.2.1, bt356.2.2.1, bt356.2.2.2.1, bt356.2.2.2.2)))))) = some (r1, r2, r3, r4, r5, r6, r7, r8, r9, r10, r11) := h
 clear h
 replace H := Option.bind_eq_some_iff.mp H
 obtain ⟨⟨t336, t337, t338, t339, t340, t341⟩, A40, H⟩ := H
 try dsimp only at H
 have A4 := a_ A40
 clear A40
 by_cases c5 : t336 = true
 ·subst c5
  rw [if_pos rfl] at H
  simp only [Option.some.injEq, Prod.mk.injEq] at H
  obtain ⟨rfl, rfl, rfl, rfl, rfl, rfl, rfl, rfl, rfl, rfl, rfl⟩ := H
  go_enter Tryz.func48, Tryz.ntmps48
  go_wp2_with (first | ((with_reducible refine gate_dst (N := 6) rfl ?_); refine box_event ?hg (N := 6) ?hd (cs := #[.bool false, .int .u8 0, .bool false, .int .u32 0, .slice none 0 0]) (t := 81) ?hr ?_; (case hd => rfl); (case hg => rfl); (case hr => first | (go_simp; done) | (go_simp; rfl)); intro gb335 hg w6 hbox hb; obtain ⟨HI0, HK, HB, BK335, GW335, GE335, NB0_335, NB335_0⟩ := And.intro (a_ (IsS121.below (by exact q4_ HI0.out) hb)) (And.intro (a_ (KeepBut.trans (by exact q5_ HK.out) (KeepBut.of_below hb g none) (.inl rfl))) (And.intro (a_ (below_step (by exact q3_ HB.out (IsS121.ge HI0.out)) hb)) (And.intro (a_ (hbox)) (And.intro (a_ ((by rw [hg]; exact (keep_size (w := w) (g := g) (row := none) (by exact q5_ HK.out)) : w.heap.size ≤ gb335))) (And.intro (a_ ((Nat.le_trans HW0.out (by rw [hg]; exact (keep_size (w := w) (g := g) (row := none) (by exact q5_ HK.out)) : w.heap.size ≤ gb335) : w0.heap.size ≤ gb335))) (And.intro (a_ ((by rw [hg]; exact Nat.ne_of_lt (IsS121.lt (show IsS121 w0 _ g s0_0 s0_1 s0_2 s0_3 s0_4 from by exact q4_ HI0.out)) : g ≠ gb335))) (a_ ((by rw [hg]; exact Nat.ne_of_gt (IsS121.lt (show IsS121 w0 _ g s0_0 s0_1 s0_2 s0_3 s0_4 from by exact q4_ HI0.out)) : gb335 ≠ g))))))))); clear hb hbox hg) | ((with_reducible refine gate_callee (f := 40) rfl ?_); refine goesL_ (some 11) rfl rfl Tryz.func40 (by kernel_rfl) rfl #[.pointer (some ⟨g, 0, none⟩)] rfl (by exact q1_) ?_; (with_reducible refine (closing_Door_Through.calls g s0_0 s0_1 s0_2 s0_3 s0_4 true t337 t338 t339 t340 t341 w0 _ ?side1 ?side2 A4.out).mono ?_); (case side1 => exact q6_ HI0.out NB0_335.out); (case side2 => exact q7_ HB.out (IsS121.ge HI0.out) GE335.out); rintro e w7 ⟨rfl, hi, hb, hk⟩; refine ⟨_, rfl, ?_⟩; obtain ⟨BK335, HK, HB, HI0⟩ := And.intro (a_ (KeepBut.blk hk (g' := gb335) (o := .cells #[.bool false, .int .u8 0, .bool false, .int .u32 0, .slice none 0 0] 81 (0, 0)) (by exact q10_ BK335.out) NB335_0.out (by simp))) (And.intro (a_ (KeepBut.trans (by exact q8_ HK.out GW335.out) hk (.inl rfl))) (And.intro (a_ (hb)) (a_ (hi)))); (try clear hb); (try clear hb2); (try clear hk); (try clear hi); have hnb8 := NB335_0.out; have hnc8 := NB0_335.out; obtain ⟨hcz9_0, hfz9_0, hcz9_1, hfz9_1, hcz9_2, hfz9_2, hcz9_3, hfz9_3, hcz9_4, hfz9_4⟩ := xf5_ BK335.out))
  refine bodyPost_ret (results_ct rfl _ _ gb335 81 #[.bool false, .int .u8 0, .bool false, .int .u32 0, .slice none 0 0] (0, 0) _ rfl (by (with_reducible repeat (first | refine blk_drewN ?_ _ | refine blk_drew ?_ | refine blk_alloc ?_ _)); refine blk_put (cs := #[.bool false, .int .u8 0, .bool false, .int .u32 0, .slice none 0 0]) ?_ 4 _ rfl; (with_reducible repeat (first | refine blk_drewN ?_ _ | refine blk_drew ?_ | refine blk_alloc ?_ _)); refine blk_put (cs := #[.bool false, .int .u8 0, .bool false, .int .u32 0, .slice none 0 0]) ?_ 3 _ rfl; (with_reducible repeat (first | refine blk_drewN ?_ _ | refine blk_drew ?_ | refine blk_alloc ?_ _)); refine blk_put (cs := #[.bool false, .int .u8 0, .bool false, .int .u32 0, .slice none 0 0]) ?_ 2 _ rfl; (with_reducible repeat (first | refine blk_drewN ?_ _ | refine blk_drew ?_ | refine blk_alloc ?_ _)); refine blk_put (cs := #[.bool false, .int .u8 0, .bool false, .int .u32 0, .slice none 0 0]) ?_ 1 _ rfl; (with_reducible repeat (first | refine blk_drewN ?_ _ | refine blk_drew ?_ | refine blk_alloc ?_ _)); refine blk_put (cs := #[.bool false, .int .u8 0, .bool false, .int .u32 0, .slice none 0 0]) ?_ 0 _ rfl; exact q10_ BK335.out) Tryz.underlying81 rfl (by kernel_rfl)) rfl ?_
  exact ⟨_, by exact q12_, by first | exact Kd.R_nil _ _ _ _ _ | exact Kd.N_nil _ _ _ _ _ | exact Kd.V_nil _ _ _ _ _ | exact Kd.Q_nil _ _ _ _ _ | exact Kd.S_nil _ _ _ _ _, by exact q6_ HI0.out NB0_335.out, by exact q7_ HB.out (IsS121.ge HI0.out) GE335.out, by exact q8_ HK.out GW335.out⟩
 ·replace c5 := Bool.eq_false_iff.mpr c5
  subst c5
  rw [if_neg (show ¬ (false = true) by decide)] at H
  replace H := Option.bind_eq_some_iff.mp H
  obtain ⟨⟨t342, t343, t344, t345, t346, t349, t350, t351, t352, t353, t354⟩, A100, H⟩ := H
  try dsimp only at H
  have A10 := a_ A100
  clear A100
  replace H := Option.bind_eq_some_iff.mp H
  obtain ⟨⟨t356, t357, t358, t359, t360⟩, A110, H⟩ := H
  try dsimp only at H
  have A11 := a_ A110
  clear A110
  simp only [Option.some.injEq, Prod.mk.injEq] at H
  obtain ⟨rfl, rfl, rfl, rfl, rfl, rfl, rfl, rfl, rfl, rfl, rfl⟩ := H
  go_enter Tryz.func48, Tryz.ntmps48
  go_wp2_with (first | ((with_reducible refine gate_dst (N := 6) rfl ?_); refine box_event ?hg (N := 6) ?hd (cs := #[.bool false, .int .u8 0, .bool false, .int .u32 0, .slice none 0 0]) (t := 81) ?hr ?_; (case hd => rfl); (case hg => rfl); (case hr => first | (go_simp; done) | (go_simp; rfl)); intro gb335 hg w12 hbox hb; obtain ⟨HI0, HK, HB, BK335, GW335, GE335, NB0_335, NB335_0⟩ := And.intro (a_ (IsS121.below (by exact q4_ HI0.out) hb)) (And.intro (a_ (KeepBut.trans (by exact q5_ HK.out) (KeepBut.of_below hb g none) (.inl rfl))) (And.intro (a_ (below_step (by exact q3_ HB.out (IsS121.ge HI0.out)) hb)) (And.intro (a_ (hbox)) (And.intro (a_ ((by rw [hg]; exact (keep_size (w := w) (g := g) (row := none) (by exact q5_ HK.out)) : w.heap.size ≤ gb335))) (And.intro (a_ ((Nat.le_trans HW0.out (by rw [hg]; exact (keep_size (w := w) (g := g) (row := none) (by exact q5_ HK.out)) : w.heap.size ≤ gb335) : w0.heap.size ≤ gb335))) (And.intro (a_ ((by rw [hg]; exact Nat.ne_of_lt (IsS121.lt (show IsS121 w0 _ g s0_0 s0_1 s0_2 s0_3 s0_4 from by exact q4_ HI0.out)) : g ≠ gb335))) (a_ ((by rw [hg]; exact Nat.ne_of_gt (IsS121.lt (show IsS121 w0 _ g s0_0 s0_1 s0_2 s0_3 s0_4 from by exact q4_ HI0.out)) : gb335 ≠ g))))))))); clear hb hbox hg) | ((with_reducible refine gate_callee (f := 40) rfl ?_); refine goesL_ (some 11) rfl rfl Tryz.func40 (by kernel_rfl) rfl #[.pointer (some ⟨g, 0, none⟩)] rfl (by exact q1_) ?_; (with_reducible refine (closing_Door_Through.calls g s0_0 s0_1 s0_2 s0_3 s0_4 false t337 t338 t339 t340 t341 w0 _ ?side1 ?side2 A4.out).mono ?_); (case side1 => exact q6_ HI0.out NB0_335.out); (case side2 => exact q7_ HB.out (IsS121.ge HI0.out) GE335.out); rintro e w13 ⟨rfl, hi, hb, hk⟩; refine ⟨_, rfl, ?_⟩; obtain ⟨BK335, HK, HB, HI0⟩ := And.intro (a_ (KeepBut.blk hk (g' := gb335) (o := .cells #[.bool false, .int .u8 0, .bool false, .int .u32 0, .slice none 0 0] 81 (0, 0)) (by exact q10_ BK335.out) NB335_0.out (by simp))) (And.intro (a_ (KeepBut.trans (by exact q8_ HK.out GW335.out) hk (.inl rfl))) (And.intro (a_ (hb)) (a_ (hi)))); (try clear hb); (try clear hb2); (try clear hk); (try clear hi)) | ((with_reducible refine gate_callee (f := 79) rfl ?_); refine goesL_ (some 17) rfl rfl Tryz.func79 (by kernel_rfl) rfl #[.pointer (some ⟨g, 0, none⟩), .int .u32 a1, .string a2] rfl (by exact q1_) ?_; (with_reducible refine (closing_Door_send.calls k g t337 t338 t339 t340 t341 a1 a2 t342 t343 t344 t345 t346 t349 t350 t351 t352 t353 t354 w0 _ ?side1 ?side2 A10.out).mono ?_); (case side1 => exact q6_ HI0.out NB0_335.out); (case side2 => exact q7_ HB.out (IsS121.ge HI0.out) GE335.out); rintro e w14 ⟨v347, rfl, ho0, hi, hb, hk⟩; refine ⟨_, rfl, ?_⟩; obtain ⟨BK335, HO348, HK, HB, HI0⟩ := And.intro (a_ (KeepBut.blk hk (g' := gb335) (o := .cells #[.bool false, .int .u8 0, .bool false, .int .u32 0, .slice none 0 0] 81 (0, 0)) (by exact q10_ BK335.out) NB335_0.out (by simp))) (And.intro (a_ (Kd.R_lower ho0 (keep_size (w := w) (g := g) (row := none) (by exact q8_ HK.out GW335.out)))) (And.intro (a_ (KeepBut.trans (by exact q8_ HK.out GW335.out) hk (.inl rfl))) (And.intro (a_ (hb)) (a_ (hi))))); (try clear hb); (try clear hb2); (try clear hk); (try clear hi); (try clear ho0)) | ((with_reducible refine gate_dst (N := 8) rfl ?_); refine box_event ?hg (N := 8) ?hd (cs := #[.bool false, .int .u8 0, .bool false, .int .u32 0, .slice none 0 0]) (t := 81) ?hr ?_; (case hd => rfl); (case hg => rfl); (case hr => first | (go_simp; done) | (go_simp; rfl)); intro gb355 hg w15 hbox hb; obtain ⟨HO348, HI0, BK335, HK, HB, BK355, GW355, GE355, NB335_355, NB355_335, NB0_355, NB355_0⟩ := And.intro (a_ (Kd.R_below (by exact q11_ HO348.out) hb)) (And.intro (a_ (IsS121.below (by exact q6_ HI0.out NB0_335.out) hb)) (And.intro (a_ (blk_below (g := gb335) (o := .cells #[.bool false, .int .u8 0, .bool false, .int .u32 0, .slice none 0 0] 81 (0, 0)) (by exact q10_ BK335.out) hb)) (And.intro (a_ (KeepBut.trans (by exact q8_ HK.out GW335.out) (KeepBut.of_below hb g none) (.inl rfl))) (And.intro (a_ (below_step (by exact q7_ HB.out (IsS121.ge HI0.out) GE335.out) hb)) (And.intro (a_ (hbox)) (And.intro (a_ ((by rw [hg]; exact (keep_size (w := w) (g := g) (row := none) (by exact q8_ HK.out GW335.out)) : w.heap.size ≤ gb355))) (And.intro (a_ ((Nat.le_trans HW0.out (by rw [hg]; exact (keep_size (w := w) (g := g) (row := none) (by exact q8_ HK.out GW335.out)) : w.heap.size ≤ gb355) : w0.heap.size ≤ gb355))) (And.intro (a_ ((by rw [hg]; exact Nat.ne_of_lt (blk_lt (g := gb335) (o := .cells #[.bool false, .int .u8 0, .bool false, .int .u32 0, .slice none 0 0] 81 (0, 0)) (by exact q10_ BK335.out)) : gb335 ≠ gb355))) (And.intro (a_ ((by rw [hg]; exact Nat.ne_of_gt (blk_lt (g := gb335) (o := .cells #[.bool false, .int .u8 0, .bool false, .int .u32 0, .slice none 0 0] 81 (0, 0)) (by exact q10_ BK335.out)) : gb355 ≠ gb335))) (And.intro (a_ ((by rw [hg]; exact Nat.ne_of_lt (IsS121.lt (show IsS121 w0 _ g t350 t351 t352 t353 t354 from by exact q6_ HI0.out NB0_335.out)) : g ≠ gb355))) (a_ ((by rw [hg]; exact Nat.ne_of_gt (IsS121.lt (show IsS121 w0 _ g t350 t351 t352 t353 t354 from by exact q6_ HI0.out NB0_335.out)) : gb355 ≠ g))))))))))))); clear hb hbox hg; have hnb16 := NB355_335.out; have hnc16 := NB335_355.out; have hnb17 := NB355_0.out; have hnc17 := NB0_355.out; obtain ⟨hcz18_0, hfz18_0, hcz18_1, hfz18_1, hcz18_2, hfz18_2, hcz18_3, hfz18_3, hcz18_4, hfz18_4⟩ := xf5_ BK355.out; obtain ⟨Ao19, co19, eo19⟩ := Kd.R_slice HO348.out; subst eo19) | ((with_reducible refine gate_callee (f := 80) rfl ?_); refine goesL_ (some 21) rfl rfl Tryz.func80 (by kernel_rfl) rfl #[.pointer (some ⟨g, 0, none⟩)] rfl (by exact q1_) ?_; (with_reducible refine (closing_Door_ends.calls g t350 t351 t352 t353 t354 t356 t357 t358 t359 t360 w0 _ ?side1 ?side2 A11.out).mono ?_); (case side1 => exact q13_ HI0.out NB0_335.out NB0_355.out); (case side2 => exact q14_ HB.out (IsS121.ge HI0.out) GE335.out GE355.out); rintro e w20 ⟨rfl, hi, hb, hk⟩; refine ⟨_, rfl, ?_⟩; obtain ⟨BK335, HO348, BK355, HK, HB, HI0⟩ := And.intro (a_ (KeepBut.blk hk (g' := gb335) (o := .cells #[.bool false, .int .u8 0, .bool false, .int .u32 0, .slice none 0 0] 81 (0, 0)) (by exact q16_ BK335.out NB335_355.out NB335_355.out NB335_355.out NB335_355.out NB335_355.out) NB335_0.out (by simp))) (And.intro (a_ (Kd.R_mono (Kd.R_keep (IsS121.apart (show IsS121 w0 _ g t350 t351 t352 t353 t354 from by exact q13_ HI0.out NB0_335.out NB0_355.out) (by (with_reducible repeat (first | apply Kd.R_alloc | apply Kd.R_drewN | apply Kd.R_drew)); exact (Kd.R_mono (Kd.R_far (p := ⟨gb355, 4, none⟩) (Kd.R_far (p := ⟨gb355, 3, none⟩) (Kd.R_far (p := ⟨gb355, 2, none⟩) (Kd.R_far (p := ⟨gb355, 1, none⟩) (Kd.R_far (p := ⟨gb355, 0, none⟩) (Kd.R_types HO348.out BK355.out (by decide)) (fun _ hk => hk.2) (.bool t342)) (fun _ hk => hk.2) (.int .u8 t343)) (fun _ hk => hk.2) (.bool t344)) (fun _ hk => hk.2) (.int .u32 t345)) (fun _ hk => hk.2) (.slice Ao19 t346.length co19)) (fun _ h_ => h_.1))) (by decide)) hk (fun _ h => h.2)) (fun _ h => h.1))) (And.intro (a_ (KeepBut.blk hk (g' := gb355) (o := .cells #[.bool t342, .int .u8 t343, .bool t344, .int .u32 t345, .slice Ao19 t346.length co19] 81 (0, 0)) (by (with_reducible repeat (first | refine blk_drewN ?_ _ | refine blk_drew ?_ | refine blk_alloc ?_ _)); refine blk_put (cs := #[.bool t342, .int .u8 t343, .bool t344, .int .u32 t345, .slice none 0 0]) ?_ 4 _ rfl; (with_reducible repeat (first | refine blk_drewN ?_ _ | refine blk_drew ?_ | refine blk_alloc ?_ _)); refine blk_put (cs := #[.bool t342, .int .u8 t343, .bool t344, .int .u32 0, .slice none 0 0]) ?_ 3 _ rfl; (with_reducible repeat (first | refine blk_drewN ?_ _ | refine blk_drew ?_ | refine blk_alloc ?_ _)); refine blk_put (cs := #[.bool t342, .int .u8 t343, .bool false, .int .u32 0, .slice none 0 0]) ?_ 2 _ rfl; (with_reducible repeat (first | refine blk_drewN ?_ _ | refine blk_drew ?_ | refine blk_alloc ?_ _)); refine blk_put (cs := #[.bool t342, .int .u8 0, .bool false, .int .u32 0, .slice none 0 0]) ?_ 1 _ rfl; (with_reducible repeat (first | refine blk_drewN ?_ _ | refine blk_drew ?_ | refine blk_alloc ?_ _)); refine blk_put (cs := #[.bool false, .int .u8 0, .bool false, .int .u32 0, .slice none 0 0]) ?_ 0 _ rfl; exact q10_ BK355.out) NB355_0.out (by simp))) (And.intro (a_ (KeepBut.trans (by exact q15_ HK.out GW335.out GW355.out) hk (.inl rfl))) (And.intro (a_ (hb)) (a_ (hi)))))); (try clear hb); (try clear hb2); (try clear hk); (try clear hi); obtain ⟨hcz21_0, hfz21_0, hcz21_1, hfz21_1, hcz21_2, hfz21_2, hcz21_3, hfz21_3, hcz21_4, hfz21_4⟩ := xf5_ BK355.out; have hnb22 := NB335_0.out; have hnc22 := NB0_335.out; obtain ⟨hcz23_0, hfz23_0, hcz23_1, hfz23_1, hcz23_2, hfz23_2, hcz23_3, hfz23_3, hcz23_4, hfz23_4⟩ := xf5_ BK335.out))
  refine bodyPost_ret (results_ct rfl _ _ gb335 81 #[.bool t342, .int .u8 t343, .bool t344, .int .u32 t345, .slice Ao19 t346.length co19] (0, 0) _ rfl (by (with_reducible repeat (first | refine blk_drewN ?_ _ | refine blk_drew ?_ | refine blk_alloc ?_ _)); refine blk_put (cs := #[.bool t342, .int .u8 t343, .bool t344, .int .u32 t345, .slice none 0 0]) ?_ 4 _ rfl; (with_reducible repeat (first | refine blk_drewN ?_ _ | refine blk_drew ?_ | refine blk_alloc ?_ _)); refine blk_put (cs := #[.bool t342, .int .u8 t343, .bool t344, .int .u32 0, .slice none 0 0]) ?_ 3 _ rfl; (with_reducible repeat (first | refine blk_drewN ?_ _ | refine blk_drew ?_ | refine blk_alloc ?_ _)); refine blk_put (cs := #[.bool t342, .int .u8 t343, .bool false, .int .u32 0, .slice none 0 0]) ?_ 2 _ rfl; (with_reducible repeat (first | refine blk_drewN ?_ _ | refine blk_drew ?_ | refine blk_alloc ?_ _)); refine blk_put (cs := #[.bool t342, .int .u8 0, .bool false, .int .u32 0, .slice none 0 0]) ?_ 1 _ rfl; (with_reducible repeat (first | refine blk_drewN ?_ _ | refine blk_drew ?_ | refine blk_alloc ?_ _)); refine blk_put (cs := #[.bool false, .int .u8 0, .bool false, .int .u32 0, .slice none 0 0]) ?_ 0 _ rfl; exact q10_ BK335.out) Tryz.underlying81 rfl (by kernel_rfl)) rfl ?_
  exact ⟨_, by exact q12_, by (with_reducible repeat (first | apply Kd.R_alloc | apply Kd.R_drewN | apply Kd.R_drew)); exact Kd.R_mono (Kd.R_far (p := ⟨gb335, 4, none⟩) (Kd.R_far (p := ⟨gb335, 3, none⟩) (Kd.R_far (p := ⟨gb335, 2, none⟩) (Kd.R_far (p := ⟨gb335, 1, none⟩) (Kd.R_far (p := ⟨gb335, 0, none⟩) (Kd.R_types HO348.out BK335.out (by decide)) (fun _ hk => hk.2) (.bool t342)) (fun _ hk => hk.2) (.int .u8 t343)) (fun _ hk => hk.2) (.bool t344)) (fun _ hk => hk.2) (.int .u32 t345)) (fun _ hk => hk.2) (.slice Ao19 t346.length co19)) (fun _ hk => trivial), by exact q13_ HI0.out NB0_335.out NB0_355.out, by exact q14_ HB.out (IsS121.ge HI0.out) GE335.out GE355.out, by exact q15_ HK.out GW335.out GW355.out⟩
end Go.Proofs.YtpmeapdcjmaeiaaGreatDoor.PAll
namespace Go.Proofs.YtpmeapdcjmaeiaaGreatDoor
open Go.RowKit Go.Wa Go.Wb Go.Wc PAll U
structure TI where
 vk : Value
 sg : Nat
 gg : Nat
 dg : Nat
 vs : Value
 v : Value
 u : Value
 vo : Value
 gu : Nat
 f : List Int
def TF (M : TM) (I : TI) (t k : Nat) : Prop := k = t ∨ k = I.sg ∨ k = I.dg ∨ GF I.v I.u M.over I.gg k ∨ I.vs.ownBlock = some k ∨ I.vo.ownBlock = some k ∨ I.vk.ownBlock = some k
abbrev tcells (M : TM) (I : TI) : Array Value := #[.bool M.cl, I.vk, .int .i64 M.key, .pointer (some ⟨I.sg, 0, none⟩), .pointer (some ⟨I.gg, 0, none⟩), .pointer (some ⟨I.dg, 0, none⟩), I.vo, .int .i64 M.pongs, .bool M.ended]
structure Tn (w0 W : World) (t : Nat) (M : TM) (I : TI) : Prop where
 bel : Below w0.heap.size w0 W
 blk : W.heap[t]? = some (.cells (tcells M I) 76 (0, 0))
 base : w0.heap.size ≤ t
 ks : Kd.R (Kd.int .u32) 35 W w0.heap.size (fun _ => True) I.vk M.keys
 sp : Sp w0 W I.sg I.vs (!M.cl) M.sbad M.l
 sbase : w0.heap.size ≤ I.sg
 gt : Imq w0 W I.gg I.v I.u M.b M.busy M.te M.over I.gu I.f
 dr : IsS121 w0 W I.dg M.sent M.got M.code M.cause M.ecode
 out : Kd.R (Kd.int .u8) 5 W w0.heap.size (fun _ => True) I.vo M.out
 a1 : ∀ k, I.vs.ownBlock = some k → I.vo.ownBlock ≠ some k
 a2 : M.over = false → ∀ k, I.v.ownBlock = some k → I.vo.ownBlock ≠ some k ∧ I.vs.ownBlock ≠ some k
 ok : M.Ok
section
variable {w0 W W' : World} {t : Nat} {M : TM} {I : TI}
theorem row_own32 {v : Value} {xs : List Int} {base : Nat} {ok : Nat → Prop} (h : Kd.R (Kd.int .u32) 35 W base ok v xs) : Kd.R (Kd.int .u32) 35 W base (fun k => v.ownBlock = some k) v xs := by
 obtain ⟨_, inner, ho, hr⟩ := h
 exact ⟨fun _ hk => hk, inner, ho, hr.imp_ (fun _ _ hp => hp)⟩
theorem row_keep32 {v : Value} {xs : List Int} {base : Nat} {ok : Nat → Prop} (h : Kd.R (Kd.int .u32) 35 W base ok v xs) (hk : ∀ k, v.ownBlock = some k → W'.heap[k]? = W.heap[k]?) : Kd.R (Kd.int .u32) 35 W' base (fun _ => True) v xs := Kd.R_mono (Kd.R_step (row_own32 h) (fun k e _ => hk k e)) (fun _ _ => trivial)
theorem row_keep8 {v : Value} {xs : List Int} {base : Nat} {ok : Nat → Prop} (h : Kd.R (Kd.int .u8) 5 W base ok v xs) (hk : ∀ k, v.ownBlock = some k → W'.heap[k]? = W.heap[k]?) : Kd.R (Kd.int .u8) 5 W' base (fun _ => True) v xs := Kd.R_mono (row_keep h hk) (fun _ _ => trivial)
theorem Tn.lt (h : Tn w0 W t M I) {k : Nat} (hk : TF M I t k) : k < W.heap.size := by
 rcases hk with rfl | rfl | rfl | hk | hk | hk | hk
 ·exact blk_lt h.blk
 ·exact blk_lt h.sp.blk
 ·exact blk_lt h.dr.1
 ·exact h.gt.lt hk
 ·exact Kd.R_lt h.sp.row k hk
 ·exact Kd.R_lt h.out k hk
 ·exact Kd.R_lt h.ks k hk
theorem Tn.move (h : Tn w0 W t M I) (hB : Below w0.heap.size w0 W') (hk : ∀ k, TF M I t k → W'.heap[k]? = W.heap[k]?) : Tn w0 W' t M I :=
 ⟨hB, (hk t (.inl rfl)).trans h.blk, h.base, row_keep32 h.ks (fun k e => hk k (.inr (.inr (.inr (.inr (.inr (.inr e))))))),
  ⟨(hk I.sg (.inr (.inl rfl))).trans h.sp.blk, row_keep8 h.sp.row (fun k e => hk k (.inr (.inr (.inr (.inr (.inl e))))))⟩, h.sbase,
  h.gt.move hB (fun k e => hk k (.inr (.inr (.inr (.inl e))))), ⟨(hk I.dg (.inr (.inr (.inl rfl)))).trans h.dr.1, h.dr.2⟩,
  row_keep8 h.out (fun k e => hk k (.inr (.inr (.inr (.inr (.inr (.inl e))))))), h.a1, h.a2, h.ok⟩
theorem Tn.below (h : Tn w0 W t M I) (hb : Below W.heap.size W W') : Tn w0 W' t M I := h.move (below_step h.bel hb) (fun k hk => hb.block k (h.lt hk))
structure Kf (W W' : World) (F F' : Nat → Prop) : Prop where
 size : W.heap.size ≤ W'.heap.size
 keep : ∀ k, k < W.heap.size → ¬ F k → W'.heap[k]? = W.heap[k]?
 new : ∀ k, F' k → F k ∨ W.heap.size ≤ k
theorem Kf.refl (W : World) (F : Nat → Prop) : Kf W W F F := ⟨Nat.le_refl _, fun _ _ _ => rfl, fun _ h => .inl h⟩
theorem Kf.trans {W2 : World} {F F' F2 : Nat → Prop} (h : Kf W W' F F') (h2 : Kf W' W2 F' F2) : Kf W W2 F F2 :=
 ⟨Nat.le_trans h.size h2.size, fun k hk hn => (h2.keep k (Nat.lt_of_lt_of_le hk h.size) (fun e => (h.new k e).elim hn (fun h => by omega))).trans (h.keep k hk hn), fun k hk => (h2.new k hk).elim (fun e => h.new k e) (fun e => .inr (Nat.le_trans h.size e))⟩
theorem Kf.below {F F' : Nat → Prop} {W2 : World} (h : Kf W W' F F') (hb : Below W'.heap.size W' W2) : Kf W W2 F F' := ⟨Nat.le_trans h.size hb.size, fun k hk hn => (hb.block k (Nat.lt_of_lt_of_le hk h.size)).trans (h.keep k hk hn), h.new⟩
theorem Kf.from {F F' : Nat → Prop} {W2 : World} (hb : Below W.heap.size W W') (h : Kf W' W2 F F') : Kf W W2 F F' := ⟨Nat.le_trans hb.size h.size, fun k hk hn => (h.keep k (Nat.lt_of_lt_of_le hk hb.size) hn).trans (hb.block k hk), fun k hk => (h.new k hk).imp_right (fun e => Nat.le_trans hb.size e)⟩
theorem Kf.other {F F' G : Nat → Prop} (h : Kf W W' F F') (hG : ∀ k, G k → k < W.heap.size) (hd : ∀ k, G k → ¬ F k) : (∀ k, G k → W'.heap[k]? = W.heap[k]?) ∧ (∀ k, G k → ¬ F' k) :=
 ⟨fun k hk => h.keep k (hG k hk) (hd k hk), fun k hk hf => (h.new k hf).elim (hd k hk) (fun e => by have := hG k hk; omega)⟩
theorem Tn.ts (h : Tn w0 W t M I) : t ≠ I.sg := blk_ne h.blk h.sp.blk (by decide)
theorem Tn.td (h : Tn w0 W t M I) : t ≠ I.dg := blk_ne h.blk h.dr.1 (by decide)
theorem Tn.sd (h : Tn w0 W t M I) : I.sg ≠ I.dg := blk_ne h.sp.blk h.dr.1 (by decide)
theorem row_at_ne {d : Nat} {α : Type} {kd : Kd α} {v : Value} {xs : List α} {base : Nat} {ok : Nat → Prop} {e : TypeId} (h : kd.R e W base ok v xs) {g : Nat} {cs : Array Value} {ty : TypeId} (hb : W.heap[g]? = some (.cells cs ty (0, 0))) (hne : e ≠ ty) {k : Nat} (hk : v.ownBlock = some k) : k ≠ g := by
 obtain ⟨c, hc⟩ := Kd.R_typed h k hk
 exact blk_ne hc hb hne
theorem Tn.gf_ne (h : Tn w0 W t M I) {k : Nat} {cs : Array Value} {ty : TypeId} (hb : W.heap[k]? = some (.cells cs ty (0, 0))) (h1 : ty ≠ 119) (h2 : ty ≠ 155) (h3 : ty ≠ 5) : ¬ GF I.v I.u M.over I.gg k := by
 rintro (rfl | ⟨ho, e | e⟩)
 ·obtain ⟨_, _, _, _, _, hb'⟩ := h.gt.blk
  exact blk_ne hb hb' h1 rfl
 ·rcases h.gt.st with ⟨_, h4, _⟩ | ⟨h4, _⟩
  ·exact row_at_ne (d := 0) h4.gw.row hb (fun e => h3 e.symm) e rfl
  ·rw [ho] at h4; cases h4
 ·rcases h.gt.st with ⟨_, h4, _⟩ | ⟨h4, _⟩
  ·obtain ⟨c, hc⟩ := h4.gw.uty k e
   exact blk_ne hb hc h2 rfl
  ·rw [ho] at h4; cases h4
theorem Tn.set (h : Tn w0 W t M I) {M' : TM} {I' : TI} (j : Nat) (x : Value) (hc : (tcells M I).setIfInBounds j x = tcells M' I') (hM : M' = { M with key := M'.key, pongs := M'.pongs, ended := M'.ended }) (hI : I' = I) (hok : M'.Ok) : Tn w0 (W.setCell ⟨t, j, none⟩ x) t M' I' := by
 subst hI
 have hne : ∀ k, k ≠ t → (W.setCell ⟨t, j, none⟩ x).heap[k]? = W.heap[k]? := fun k e => Below.heap_setCell W ⟨t, j, none⟩ x k e
 have e1 : M'.cl = M.cl := by rw [hM]
 have e2 : M'.keys = M.keys := by rw [hM]
 have e3 : M'.l = M.l := by rw [hM]
 have e4 : M'.sbad = M.sbad := by rw [hM]
 have e5 : M'.b = M.b := by rw [hM]
 have e6 : M'.busy = M.busy := by rw [hM]
 have e7 : M'.te = M.te := by rw [hM]
 have e8 : M'.over = M.over := by rw [hM]
 have e9 : M'.sent = M.sent := by rw [hM]
 have e10 : M'.got = M.got := by rw [hM]
 have e11 : M'.code = M.code := by rw [hM]
 have e12 : M'.cause = M.cause := by rw [hM]
 have e13 : M'.ecode = M.ecode := by rw [hM]
 have e14 : M'.out = M.out := by rw [hM]
 have hB := Below.setCell h.bel (p := ⟨t, j, none⟩) h.base x
 refine ⟨hB, blk_put h.blk j x hc, h.base, ?_, ?_, h.sbase, ?_, ?_, ?_, h.a1, by rw [e8]; exact h.a2, hok⟩
 ·rw [e2]; exact row_keep32 h.ks (fun k e => hne k (row_at_ne (d := 0) h.ks h.blk (by decide) e))
 ·rw [e1, e4, e3]; exact ⟨(hne _ h.ts.symm).trans h.sp.blk, row_keep8 h.sp.row (fun k e => hne k (row_at_ne (d := 0) h.sp.row h.blk (by decide) e))⟩
 ·rw [e5, e6, e7, e8]; exact h.gt.move hB (fun k e => hne k (fun e2 => h.gf_ne h.blk (by decide) (by decide) (by decide) (e2 ▸ e)))
 ·rw [e9, e10, e11, e12, e13]; exact ⟨(hne _ h.td.symm).trans h.dr.1, h.dr.2⟩
 ·rw [e14]; exact row_keep8 h.out (fun k e => hne k (row_at_ne (d := 0) h.out h.blk (by decide) e))
theorem Tn.setOut (h : Tn w0 W t M I) {v1 : Value} {l1 : List Int} (hr : Kd.R (Kd.int .u8) 5 W w0.heap.size (fun _ => True) v1 l1) (hn : ∀ k, v1.ownBlock = some k → I.vs.ownBlock ≠ some k ∧ (M.over = false → I.v.ownBlock ≠ some k)) (hb : ∀ x ∈ l1, 0 ≤ x ∧ x ≤ 255) : Tn w0 (W.setCell ⟨t, 6, none⟩ v1) t { M with out := l1 } { I with vo := v1 } := by
 have hne : ∀ k, k ≠ t → (W.setCell ⟨t, 6, none⟩ v1).heap[k]? = W.heap[k]? := fun k e => Below.heap_setCell W ⟨t, 6, none⟩ v1 k e
 have hB := Below.setCell h.bel (p := ⟨t, 6, none⟩) h.base v1
 refine ⟨hB, blk_put h.blk 6 v1 rfl, h.base, row_keep32 h.ks (fun k e => hne k (row_at_ne (d := 0) h.ks h.blk (by decide) e)), ⟨(hne _ h.ts.symm).trans h.sp.blk, row_keep8 h.sp.row (fun k e => hne k (row_at_ne (d := 0) h.sp.row h.blk (by decide) e))⟩, h.sbase, h.gt.move hB (fun k e => hne k (fun e2 => h.gf_ne h.blk (by decide) (by decide) (by decide) (e2 ▸ e))), ⟨(hne _ h.td.symm).trans h.dr.1, h.dr.2⟩, row_keep8 hr (fun k e => hne k (row_at_ne (d := 0) hr h.blk (by decide) e)), fun k e e2 => (hn k e2).1 e, fun ho k e => ⟨fun e2 => (hn k e2).2 ho e, (h.a2 ho k e).2⟩, { h.ok with obyt := hb }⟩
theorem Tn.appOut (h : Tn w0 W t M I) {v1 : Value} {l1 : List Int} (hg : W.grownBy W' I.vo.ownBlock) (hB' : Below w0.heap.size w0 W') (hr : Kd.R (Kd.int .u8) 5 W' w0.heap.size (fun _ => True) v1 l1) (hat : v1.ownBlock = I.vo.ownBlock ∨ ∃ k, v1.ownBlock = some k ∧ W.heap.size ≤ k) (hby : ∀ x ∈ l1, 0 ≤ x ∧ x ≤ 255) : Tn w0 (W'.setCell ⟨t, 6, none⟩ v1) t { M with out := l1 } { I with vo := v1 } ∧ Kf W (W'.setCell ⟨t, 6, none⟩ v1) (TF M I t) (TF { M with out := l1 } { I with vo := v1 } t) := by
 have hsame : ∀ k, k < W.heap.size → I.vo.ownBlock ≠ some k → W'.heap[k]? = W.heap[k]? := fun k hk hn => hg.block k hk (fun e => hn e.symm)
 have hvt : I.vo.ownBlock ≠ some t := fun e => row_at_ne (d := 0) h.out h.blk (by decide) e rfl
 have hbt : W'.heap[t]? = some (.cells (tcells M I) 76 (0, 0)) := (hsame t (blk_lt h.blk) hvt).trans h.blk
 have hne : ∀ k, k ≠ t → (W'.setCell ⟨t, 6, none⟩ v1).heap[k]? = W'.heap[k]? := fun k e => Below.heap_setCell W' ⟨t, 6, none⟩ v1 k e
 have hst : ∀ k, k < W.heap.size → k ≠ t → I.vo.ownBlock ≠ some k → (W'.setCell ⟨t, 6, none⟩ v1).heap[k]? = W.heap[k]? := fun k hk h1 h2 => (hne k h1).trans (hsame k hk h2)
 have hB := Below.setCell hB' (p := ⟨t, 6, none⟩) h.base v1
 have hks : ∀ k, I.vk.ownBlock = some k → I.vo.ownBlock ≠ some k := fun k e e2 => by
  obtain ⟨c, hc⟩ := Kd.R_typed h.out k e2
  exact row_at_ne (d := 0) h.ks hc (by decide) e rfl
 have hsg : I.vo.ownBlock ≠ some I.sg := fun e => row_at_ne (d := 0) h.out h.sp.blk (by decide) e rfl
 have hdg : I.vo.ownBlock ≠ some I.dg := fun e => row_at_ne (d := 0) h.out h.dr.1 (by decide) e rfl
 have hgf : ∀ k, GF I.v I.u M.over I.gg k → I.vo.ownBlock ≠ some k := fun k hk e => by
  obtain ⟨c, hc⟩ := Kd.R_typed h.out k e
  rcases hk with rfl | ⟨ho, e2 | e2⟩
  ·obtain ⟨_, _, _, _, _, hb'⟩ := h.gt.blk
   exact blk_ne hc hb' (by decide) rfl
  ·exact (h.a2 ho k e2).1 e
  ·rcases h.gt.st with ⟨_, h4, _⟩ | ⟨h4, _⟩
   ·obtain ⟨c2, hc2⟩ := h4.gw.uty k e2
    exact blk_ne hc hc2 (by decide) rfl
   ·rw [ho] at h4; cases h4
 have hv1 : ∀ k, k < W.heap.size → v1.ownBlock = some k → I.vo.ownBlock = some k := fun k hk e => by
  rcases hat with e1 | ⟨j, e1, hj⟩
  ·rw [← e1]; exact e
  ·rw [e1] at e; injection e with e; omega
 refine ⟨⟨hB, blk_put hbt 6 v1 rfl, h.base, row_keep32 h.ks (fun k e => hst k (Kd.R_lt h.ks k e) (row_at_ne (d := 0) h.ks h.blk (by decide) e) (hks k e)), ⟨(hst _ (blk_lt h.sp.blk) h.ts.symm hsg).trans h.sp.blk, row_keep8 h.sp.row (fun k e => hst k (Kd.R_lt h.sp.row k e) (row_at_ne (d := 0) h.sp.row h.blk (by decide) e) (h.a1 k e))⟩, h.sbase, h.gt.move hB (fun k e => hst k (h.gt.lt e) (fun e2 => h.gf_ne h.blk (by decide) (by decide) (by decide) (e2 ▸ e)) (hgf k e)), ⟨(hst _ (blk_lt h.dr.1) h.td.symm hdg).trans h.dr.1, h.dr.2⟩, row_keep8 hr (fun k e => hne k (row_at_ne (d := 0) hr hbt (by decide) e)), fun k e e2 => h.a1 k e (hv1 k (Kd.R_lt h.sp.row k e) e2), fun ho k e => ⟨fun e2 => (h.a2 ho k e).1 (hv1 k (h.gt.lt (.inr ⟨ho, .inl e⟩)) e2), (h.a2 ho k e).2⟩, { h.ok with obyt := hby }⟩, ⟨Nat.le_trans hg.size (by simp [World.setCell]), fun k hk hn => hst k hk (fun e => hn (.inl e)) (fun e => hn (.inr (.inr (.inr (.inr (.inr (.inl e))))))), fun k hk => ?_⟩⟩
 rcases hk with hk | hk | hk | hk | hk | hk | hk
 ·exact .inl (.inl hk)
 ·exact .inl (.inr (.inl hk))
 ·exact .inl (.inr (.inr (.inl hk)))
 ·exact .inl (.inr (.inr (.inr (.inl hk))))
 ·exact .inl (.inr (.inr (.inr (.inr (.inl hk)))))
 ·rcases Nat.lt_or_ge k W.heap.size with hl | hl
  ·exact .inl (.inr (.inr (.inr (.inr (.inr (.inl (hv1 k hl hk)))))))
  ·exact .inr hl
 ·exact .inl (.inr (.inr (.inr (.inr (.inr (.inr hk))))))
theorem Tn.setDoor (h : Tn w0 W t M I) {s g : Bool} {c ca ec : Int} (hI : IsS121 w0 W' I.dg s g c ca ec) (hB : Below w0.heap.size w0 W') (hK : KeepBut W W' I.dg none) : Tn w0 W' t { M with sent := s, got := g, code := c, cause := ca, ecode := ec } I ∧ Kf W W' (TF M I t) (TF { M with sent := s, got := g, code := c, cause := ca, ecode := ec } I t) := by
 have hst : ∀ k, k < W.heap.size → k ≠ I.dg → W'.heap[k]? = W.heap[k]? := fun k hk hn => hK.2 k hk hn (by simp)
 have hd := h.dr.1
 have hgf : ∀ k, GF I.v I.u M.over I.gg k → k ≠ I.dg := fun k hk e => h.gf_ne hd (by decide) (by decide) (by decide) (e ▸ hk)
 refine ⟨⟨hB, (hst t (blk_lt h.blk) h.td).trans h.blk, h.base, row_keep32 h.ks (fun k e => hst k (Kd.R_lt h.ks k e) (row_at_ne (d := 0) h.ks hd (by decide) e)), ⟨(hst _ (blk_lt h.sp.blk) h.sd).trans h.sp.blk, row_keep8 h.sp.row (fun k e => hst k (Kd.R_lt h.sp.row k e) (row_at_ne (d := 0) h.sp.row hd (by decide) e))⟩, h.sbase, h.gt.move hB (fun k e => hst k (h.gt.lt e) (hgf k e)), hI, row_keep8 h.out (fun k e => hst k (Kd.R_lt h.out k e) (row_at_ne (d := 0) h.out hd (by decide) e)), h.a1, h.a2, { h.ok with }⟩, ⟨hK.1, fun k hk hn => hst k hk (fun e => hn (.inr (.inr (.inl e)))), fun k hk => .inl hk⟩⟩
end
end Go.Proofs.YtpmeapdcjmaeiaaGreatDoor
