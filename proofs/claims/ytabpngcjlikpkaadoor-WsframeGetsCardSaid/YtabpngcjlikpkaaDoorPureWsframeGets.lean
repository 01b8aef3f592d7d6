import Derived.Test.YtabpngcjlikpkaaDoorSaysWsframeGets
import Derived.Test.YtabpngcjlikpkaaDoorRefGet1
import Derived.Test.YtabpngcjlikpkaaDoorPAllx6
import Derived.Test.YtabpngcjlikpkaaDoorPAllx6
import Derived.Test.YtabpngcjlikpkaaDoorPAllx7
namespace Go.Proofs.YtabpngcjlikpkaaDoor
open Go.RowKit Go.Proofs.YtabpngcjlikpkaaDoorW.PrintWords Go.Proofs.YtabpngcjlikpkaaDoorW.PrintLast Go.Proofs.YtabpngcjlikpkaaDoorW.PrintMore Go.Proofs.YtabpngcjlikpkaaDoor.PAll
set_option linter.unusedVariables false
set_option maxHeartbeats 8000000 in
set_option maxRecDepth 100000 in
theorem Gets_great (l : List Int) (A : Option Addr) (c : Nat) (m : Bool) (w : World) (hg : Cond w) (hC : Kd.C (Kd.int .u8) w A l.length l) (hlc : l.length ≤ c) (hn : 9000 < (l.length : Int)) : Calls Tryd.prog 7 #[.slice A l.length c, .bool m] w fun e w' => e = .returned (.bool true) ∧ Below w.heap.size w w' := by
  have HG := Aside0.mk hg
  have HC := Aside0.mk hC
  clear hg hC
  have hu37 := Tryd.underlying37
  have hu26 := Tryd.underlying26
  have hu30 := Tryd.underlying30
  have t0 : decide (9000 < (l.length : Int)) = true := decide_eq_true hn
  have t1 : 9000 < l.length := by omega
  go_enter Tryd.func7, Tryd.ntmps7
  go_wp2_with fail
  refine (louverlaw16_fixed.calls true _ rfl).mono ?_
  rintro e w1 ⟨rfl, hb⟩
  have HB := Aside0.mk hb
  clear hb
  go_wp2_with fail
  go_ret
  exact ⟨rfl, HB.out⟩
structure Gq (w : World) (Ap Aq : Option Addr) (gp gq cp cq : Nat) (r1 : Bool) (r2 : Int) (r3 : Bool) (r4 : Int) (r5 : List Int) (s1 c1 : Int) (W : World) : Prop where
  bel : Below w.heap.size w W
  p : W.heap[gp]? = some (.cells #[.bool r1, .int .u8 r2, .bool r3, .int .u32 r4, .slice Ap r5.length cp] 37 (0, 0))
  f : W.heap[gp + 1]? = some (.cells #[.int .u8 s1, .int .u32 c1] 26 (0, 0))
  q : W.heap[gq]? = some (.cells #[.bool r1, .int .u8 r2, .bool r3, .int .u32 r4, .slice Aq r5.length cq] 37 (0, 0))
  dp : Kd.C (Kd.int .u8) W Ap r5.length r5
  dq : Kd.C (Kd.int .u8) W Aq r5.length r5
theorem Gq.below {w : World} {Ap Aq : Option Addr} {gp gq cp cq : Nat} {r1 : Bool} {r2 : Int} {r3 : Bool} {r4 : Int} {r5 : List Int} {s1 c1 : Int} {W : World} {W' : World} (h : Gq w Ap Aq gp gq cp cq r1 r2 r3 r4 r5 s1 c1 W) (hb : Below W.heap.size W W') : Gq w Ap Aq gp gq cp cq r1 r2 r3 r4 r5 s1 c1 W' := ⟨below_step h.bel hb, blk_below h.p hb, blk_below h.f hb, blk_below h.q hb, Kd.C_below h.dp hb, Kd.C_below h.dq hb⟩
theorem Gq.S {w : World} {Ap Aq : Option Addr} {gp gq cp cq : Nat} {r1 : Bool} {r2 : Int} {r3 : Bool} {r4 : Int} {r5 : List Int} {s1 c1 : Int} {W : World} (h : Gq w Ap Aq gp gq cp cq r1 r2 r3 r4 r5 s1 c1 W) : Aside0 (Gq w Ap Aq gp gq cp cq r1 r2 r3 r4 r5 s1 c1 W) ∧ W.cell? ⟨gp, 0, none⟩ = some (.bool r1) ∧ W.cell? ⟨gp, 1, none⟩ = some (.int .u8 r2) ∧ W.cell? ⟨gp, 2, none⟩ = some (.bool r3) ∧ W.cell? ⟨gp, 3, none⟩ = some (.int .u32 r4) ∧ W.cell? ⟨gp, 4, none⟩ = some (.slice Ap r5.length cp) ∧ W.cell? ⟨gp + 1, 0, none⟩ = some (.int .u8 s1) ∧ W.cell? ⟨gp + 1, 1, none⟩ = some (.int .u32 c1) ∧ W.cell? ⟨gq, 0, none⟩ = some (.bool r1) ∧ W.cell? ⟨gq, 1, none⟩ = some (.int .u8 r2) ∧ W.cell? ⟨gq, 2, none⟩ = some (.bool r3) ∧ W.cell? ⟨gq, 3, none⟩ = some (.int .u32 r4) ∧ W.cell? ⟨gq, 4, none⟩ = some (.slice Aq r5.length cq) := ⟨⟨h⟩, (blk_cell h.p 0).trans rfl, (blk_cell h.p 1).trans rfl, (blk_cell h.p 2).trans rfl, (blk_cell h.p 3).trans rfl, (blk_cell h.p 4).trans rfl, (blk_cell h.f 0).trans rfl, (blk_cell h.f 1).trans rfl, (blk_cell h.q 0).trans rfl, (blk_cell h.q 1).trans rfl, (blk_cell h.q 2).trans rfl, (blk_cell h.q 3).trans rfl, (blk_cell h.q 4).trans rfl⟩
set_option maxHeartbeats 8000000 in
set_option maxRecDepth 100000 in
theorem Gets_walk (l : List Int) (A : Option Addr) (c : Nat) (m : Bool) (w : World) (hg : Cond w) (hC : Kd.C (Kd.int .u8) w A l.length l) (hlc : l.length ≤ c) (hn : (l.length : Int) ≤ 9000) (r1 : Bool) (r2 : Int) (r3 : Bool) (r4 : Int) (r5 : List Int) (s1 c1 code f sz hc sc hc2 t : Int) (sh : Bool) (HGT : Aside0 (wsframe_Get.f 20000 l m = some (r1, r2, r3, r4, r5, s1, c1))) (HRG : Aside0 (∀ W : World, Calls Tryd.prog 18 #[.string (strOfNums l), .bool m] W (RGetPost r1 r2 r3 r4 r5 code W))) (HSM : Aside0 (louverref16_Same.f r1 r2 r3 r4 r5 r1 r2 r3 r4 r5 = some true)) (HT1 : Aside0 (louverlaw16_told.f code = some (s1, c1))) (HHD : Aside0 (wsframe_Head.f l m = some (t, sc, hc2, !sh))) (HRH : Aside0 (louverref16_Head.f 20000 (strOfNums l) m = some (f, sz, hc, sh))) (HTO : Aside0 (louverlaw16_told.f hc = some (sc, hc2))) (hs : IntKind.i64.wrap (f + sz) = t) : Calls Tryd.prog 7 #[.slice A l.length c, .bool m] w fun e w' => e = .returned (.bool true) ∧ Below w.heap.size w w' := by
  have HG := Aside0.mk hg
  have HC := Aside0.mk hC
  clear hg hC
  have hu37 := Tryd.underlying37
  have hu26 := Tryd.underlying26
  have hu30 := Tryd.underlying30
  have t0 : decide (9000 < (l.length : Int)) = false := decide_eq_false (by omega)
  have t1 : ¬ 9000 < l.length := by omega
  go_enter Tryd.func7, Tryd.ntmps7
  go_wp2_with fail
  refine (wsframe_Get.calls 20000 A c l m r1 r2 r3 r4 r5 s1 c1 _ HC.out hlc HGT.out HG.out).mono ?_
  rintro e w1 ⟨vp, rfl, hp, hb⟩
  obtain ⟨Ap, cp, rfl⟩ := Kd.R_slice hp
  have HB1 := Aside0.mk hb
  have HP := Aside0.mk (Kd.R_reads' hp).2.2
  have hcp := (Kd.R_reads' hp).2.1
  clear hp hb
  go_upto_region 4 with fail
  have hB2 : Below w.heap.size w ((w1.alloc (.cells #[.bool r1, .int .u8 r2, .bool r3, .int .u32 r4, .slice Ap r5.length cp] 37)).alloc (.cells #[.int .u8 s1, .int .u32 c1] 26)) := below_step HB1.out (below_alloc (below_alloc (Below.refl _ _) _) _)
  have hP2 : Kd.C (Kd.int .u8) ((w1.alloc (.cells #[.bool r1, .int .u8 r2, .bool r3, .int .u32 r4, .slice Ap r5.length cp] 37)).alloc (.cells #[.int .u8 s1, .int .u32 c1] 26)) Ap r5.length r5 := Kd.C_below HP.out (below_alloc (below_alloc (Below.refl _ _) _) _)
  have hp2 : ((w1.alloc (.cells #[.bool r1, .int .u8 r2, .bool r3, .int .u32 r4, .slice Ap r5.length cp] 37)).alloc (.cells #[.int .u8 s1, .int .u32 c1] 26)).heap[w1.heap.size]? = some (.cells #[.bool r1, .int .u8 r2, .bool r3, .int .u32 r4, .slice Ap r5.length cp] 37 (0, 0)) := blk_alloc (last_at _ _ _ rfl) _
  have hf2 : ((w1.alloc (.cells #[.bool r1, .int .u8 r2, .bool r3, .int .u32 r4, .slice Ap r5.length cp] 37)).alloc (.cells #[.int .u8 s1, .int .u32 c1] 26)).heap[w1.heap.size + 1]? = some (.cells #[.int .u8 s1, .int .u32 c1] 26 (0, 0)) := last_at _ _ _ (by simp)
  generalize ((w1.alloc (.cells #[.bool r1, .int .u8 r2, .bool r3, .int .u32 r4, .slice Ap r5.length cp] 37)).alloc (.cells #[.int .u8 s1, .int .u32 c1] 26)) = w2 at hB2 hP2 hp2 hf2 ⊢
  generalize w1.heap.size = gp at hp2 hf2 ⊢
  clear HB1 HP
  have HB2 := Aside0.mk hB2
  have HP2 := Aside0.mk hP2
  have Hp2 := Aside0.mk hp2
  have Hf2 := Aside0.mk hf2
  clear hB2 hP2 hp2 hf2
  have hcv : (convert 23 9 (.slice A l.length c)).run Tryd.prog w2 = .ok (.string (strOfNums l)) w2 := Kd.C_string (P := Tryd.prog) Tryd.underlying23 Tryd.underlying5 Tryd.underlying9 (Kd.C_below HC.out HB2.out)
  go_wp2_with fail
  clear hcv
  refine (calls_of_args rfl (HRG.out w2)).mono ?_
  rintro e w3 ⟨Aq, cq, rfl, hq, hcq, hb⟩
  have HB3 := Aside0.mk (below_step HB2.out hb)
  have HP3 := Aside0.mk (Kd.C_below HP2.out hb)
  have Hp3 := Aside0.mk (blk_below Hp2.out hb)
  have Hf3 := Aside0.mk (blk_below Hf2.out hb)
  have HQ3 := Aside0.mk hq
  clear hq hb HB2 HP2 Hp2 Hf2
  go_upto_region 5 with fail
  have hX : Gq w Ap Aq gp w3.heap.size cp cq r1 r2 r3 r4 r5 s1 c1 (w3.alloc (.cells #[.bool r1, .int .u8 r2, .bool r3, .int .u32 r4, .slice Aq r5.length cq] 37)) := ⟨below_step HB3.out (below_alloc (Below.refl _ _) _), blk_below Hp3.out (below_alloc (Below.refl _ _) _), blk_below Hf3.out (below_alloc (Below.refl _ _) _), last_at _ _ _ rfl, Kd.C_below HP3.out (below_alloc (Below.refl _ _) _), Kd.C_below HQ3.out (below_alloc (Below.refl _ _) _)⟩
  generalize (w3.alloc (.cells #[.bool r1, .int .u8 r2, .bool r3, .int .u32 r4, .slice Aq r5.length cq] 37)) = w4 at hX ⊢
  generalize w3.heap.size = gq at hX ⊢
  have HX := Aside0.mk hX
  clear hX HB3 HP3 Hp3 Hf3 HQ3
  refine wp_region_noPanic ?_
  refine wp_region_held_drew (S := fun w' => Aside0 (Gq w Ap Aq gp gq cp cq r1 r2 r3 r4 r5 s1 c1 w') ∧ w'.cell? ⟨gp, 0, none⟩ = some (.bool r1) ∧ w'.cell? ⟨gp, 1, none⟩ = some (.int .u8 r2) ∧ w'.cell? ⟨gp, 2, none⟩ = some (.bool r3) ∧ w'.cell? ⟨gp, 3, none⟩ = some (.int .u32 r4) ∧ w'.cell? ⟨gp, 4, none⟩ = some (.slice Ap r5.length cp) ∧ w'.cell? ⟨gp + 1, 0, none⟩ = some (.int .u8 s1) ∧ w'.cell? ⟨gp + 1, 1, none⟩ = some (.int .u32 c1) ∧ w'.cell? ⟨gq, 0, none⟩ = some (.bool r1) ∧ w'.cell? ⟨gq, 1, none⟩ = some (.int .u8 r2) ∧ w'.cell? ⟨gq, 2, none⟩ = some (.bool r3) ∧ w'.cell? ⟨gq, 3, none⟩ = some (.int .u32 r4) ∧ w'.cell? ⟨gq, 4, none⟩ = some (.slice Aq r5.length cq)) (by kernel_rfl) (Gq.S (HX.out.below (below_drew (Below.refl _ _)))) (fun hHeld => ?_)
  refine takeN (i := 0) (N := (some 30)) (v := ?v1) (a' := ?a1) rfl rfl (by kernel_rfl) (by kernel_rfl) (by kernel_rfl) (fun _ _ _ h => h) (Or.inl ⟨by rfl, ?hy1⟩) ?ha1 (by assumption) ?rest1
  case hy1 =>
    intro w_ hSw_
    go_simp
    first | done | (with_reducible rfl)
  case ha1 =>
    simp only [Act.put, List.setIfInBounds_toArray, List.set_cons_zero, List.set_cons_succ]
    rfl
  refine takeN (i := 1) (N := (some 31)) (v := ?v2) (a' := ?a2) rfl rfl (by kernel_rfl) (by kernel_rfl) (by kernel_rfl) (fun _ _ _ h => h) (Or.inl ⟨by rfl, ?hy2⟩) ?ha2 (by assumption) ?rest2
  case hy2 =>
    intro w_ hSw_
    go_simp
    first | done | (with_reducible rfl)
  case ha2 =>
    simp only [Act.put, List.setIfInBounds_toArray, List.set_cons_zero, List.set_cons_succ]
    rfl
  refine wpAnyH_ready (rs := [2]) (by kernel_rfl) (by simp) ?_
  refine AllReadyH.cons rfl (fun K hK => ?_) AllReadyH.nil
  go_simp
  go_at_call 17
  with_reducible refine (louverref16_Same.calls r1 r2 r3 r4 Ap cp r5 r1 r2 r3 r4 Aq cq r5 true _ hHeld.1.out.dp hcp hHeld.1.out.dq hcq HSM.out).mono ?_
  rintro e w' ⟨rfl, hb⟩
  refine hK.out _ _ (Gq.S (hHeld.1.out.below hb)) (fun hHeld => ?_)
  clear hK K
  try simp only [Act.put, List.setIfInBounds_toArray, List.set_cons_zero, List.set_cons_succ]
  refine takeN (i := 3) (N := (some 33)) (v := ?v3) (a' := ?a3) rfl rfl (by kernel_rfl) (by kernel_rfl) (by kernel_rfl) (fun _ _ _ h => h) (Or.inl ⟨by rfl, ?hy3⟩) ?ha3 (by assumption) ?rest3
  case hy3 =>
    intro w_ hSw_
    go_simp
    first | done | (with_reducible rfl)
  case ha3 =>
    simp only [Act.put, List.setIfInBounds_toArray, List.set_cons_zero, List.set_cons_succ]
    rfl
  refine takeN (i := 4) (N := (some 34)) (v := ?v4) (a' := ?a4) rfl rfl (by kernel_rfl) (by kernel_rfl) (by kernel_rfl) (fun _ _ _ h => h) (Or.inl ⟨by rfl, ?hy4⟩) ?ha4 (by assumption) ?rest4
  case hy4 =>
    intro w_ hSw_
    go_simp
    first | done | (with_reducible rfl)
  case ha4 =>
    simp only [Act.put, List.setIfInBounds_toArray, List.set_cons_zero, List.set_cons_succ]
    rfl
  refine takeN (i := 5) (N := (some 35)) (v := ?v5) (a' := ?a5) rfl rfl (by kernel_rfl) (by kernel_rfl) (by kernel_rfl) (fun _ _ _ h => h) (Or.inl ⟨by rfl, ?hy5⟩) ?ha5 (by assumption) ?rest5
  case hy5 =>
    intro w_ hSw_
    go_simp
    first | done | (with_reducible rfl)
  case ha5 =>
    simp only [Act.put, List.setIfInBounds_toArray, List.set_cons_zero, List.set_cons_succ]
    rfl
  refine takeN (i := 6) (N := (some 36)) (v := ?v6) (a' := ?a6) rfl rfl (by kernel_rfl) (by kernel_rfl) (by kernel_rfl) (fun _ _ _ h => h) (Or.inl ⟨by rfl, ?hy6⟩) ?ha6 (by assumption) ?rest6
  case hy6 =>
    intro w_ hSw_
    go_simp
    first | done | (with_reducible rfl)
  case ha6 =>
    simp only [Act.put, List.setIfInBounds_toArray, List.set_cons_zero, List.set_cons_succ]
    rfl
  refine wpAnyH_ready (rs := [7]) (by kernel_rfl) (by simp) ?_
  refine AllReadyH.cons rfl (fun K hK => ?_) AllReadyH.nil
  go_simp
  go_at_call 11
  with_reducible refine (louverlaw16_told.calls code s1 c1 _ HT1.out).mono ?_
  rintro e w' ⟨rfl, hb⟩
  refine hK.out _ _ (Gq.S (hHeld.1.out.below hb)) (fun hHeld => ?_)
  clear hK K
  try simp only [Act.put, List.setIfInBounds_toArray, List.set_cons_zero, List.set_cons_succ]
  refine takeN (i := 8) (N := (some 38)) (v := ?v7) (a' := ?a7) rfl rfl (by kernel_rfl) (by kernel_rfl) (by kernel_rfl) (fun _ _ _ h => h) (Or.inl ⟨by rfl, ?hy7⟩) ?ha7 (by assumption) ?rest7
  case hy7 =>
    intro w_ hSw_
    go_simp
    first | done | (with_reducible rfl)
  case ha7 =>
    simp only [Act.put, List.setIfInBounds_toArray, List.set_cons_zero, List.set_cons_succ]
    rfl
  refine takeN (i := 9) (N := (some 39)) (v := ?v8) (a' := ?a8) rfl rfl (by kernel_rfl) (by kernel_rfl) (by kernel_rfl) (fun _ _ _ h => h) (Or.inl ⟨by rfl, ?hy8⟩) ?ha8 (by assumption) ?rest8
  case hy8 =>
    intro w_ hSw_
    go_simp
    first | done | (with_reducible rfl)
  case ha8 =>
    simp only [Act.put, List.setIfInBounds_toArray, List.set_cons_zero, List.set_cons_succ]
    rfl
  refine wpAnyH_done (by kernel_rfl) ?_ _
  refine NoPanic.normal ?_
  have HB5 := Aside0.mk hHeld.1.out.bel
  clear hHeld HX
  go_wp2_with fail
  refine (wsframe_Head.calls A c l m t sc hc2 (!sh) _ (Kd.C_below HC.out HB5.out) hlc HHD.out (HG.out.below HB5.out)).mono ?_
  rintro e w6 ⟨rfl, hb⟩
  have HB6 := Aside0.mk (below_step HB5.out hb)
  clear hb HB5
  go_upto_region 8 with fail
  have hB7 : Below w.heap.size w (w6.alloc (.cells #[.int .u8 sc, .int .u32 hc2] 26)) := below_alloc HB6.out _
  have hb7 : (w6.alloc (.cells #[.int .u8 sc, .int .u32 hc2] 26)).heap[w6.heap.size]? = some (.cells #[.int .u8 sc, .int .u32 hc2] 26 (0, 0)) := last_at _ _ _ rfl
  generalize (w6.alloc (.cells #[.int .u8 sc, .int .u32 hc2] 26)) = w7 at hB7 hb7 ⊢
  generalize w6.heap.size = gb at hb7 ⊢
  have HB7 := Aside0.mk hB7
  have Hb7 := Aside0.mk hb7
  clear hB7 hb7 HB6
  have hcv : (convert 23 9 (.slice A l.length c)).run Tryd.prog w7 = .ok (.string (strOfNums l)) w7 := Kd.C_string (P := Tryd.prog) Tryd.underlying23 Tryd.underlying5 Tryd.underlying9 (Kd.C_below HC.out HB7.out)
  go_wp2_with fail
  clear hcv
  refine (louverref16_Head.calls 20000 (strOfNums l) m f sz hc sh _ HRH.out).mono ?_
  rintro e w8 ⟨rfl, hb⟩
  have HB8 := Aside0.mk (below_step HB7.out hb)
  have Hb8 := Aside0.mk (blk_below Hb7.out hb)
  clear hb HB7 Hb7
  go_upto_region 9 with fail
  have hB9 : Below w.heap.size w (w8.alloc (.cells #[.int .i64 f, .int .i64 sz, .int .i64 hc, .bool sh] 30)) := below_alloc HB8.out _
  have hb9 : (w8.alloc (.cells #[.int .i64 f, .int .i64 sz, .int .i64 hc, .bool sh] 30)).heap[gb]? = some (.cells #[.int .u8 sc, .int .u32 hc2] 26 (0, 0)) := blk_alloc Hb8.out _
  have hh9 : (w8.alloc (.cells #[.int .i64 f, .int .i64 sz, .int .i64 hc, .bool sh] 30)).heap[w8.heap.size]? = some (.cells #[.int .i64 f, .int .i64 sz, .int .i64 hc, .bool sh] 30 (0, 0)) := last_at _ _ _ rfl
  generalize (w8.alloc (.cells #[.int .i64 f, .int .i64 sz, .int .i64 hc, .bool sh] 30)) = w9 at hB9 hb9 hh9 ⊢
  generalize w8.heap.size = gh at hh9 ⊢
  clear HB8 Hb8
  refine wp_region_noPanic ?_
  refine wp_region_held_drew (S := fun w' => Aside0 (Below w.heap.size w w' ∧ w'.heap[gb]? = some (.cells #[.int .u8 sc, .int .u32 hc2] 26 (0, 0)) ∧ w'.heap[gh]? = some (.cells #[.int .i64 f, .int .i64 sz, .int .i64 hc, .bool sh] 30 (0, 0))) ∧ w'.cell? ⟨gb, 0, none⟩ = some (.int .u8 sc) ∧ w'.cell? ⟨gb, 1, none⟩ = some (.int .u32 hc2) ∧ w'.cell? ⟨gh, 0, none⟩ = some (.int .i64 f) ∧ w'.cell? ⟨gh, 1, none⟩ = some (.int .i64 sz) ∧ w'.cell? ⟨gh, 2, none⟩ = some (.int .i64 hc) ∧ w'.cell? ⟨gh, 3, none⟩ = some (.bool sh)) (by kernel_rfl) (⟨⟨below_step hB9 (below_drew (Below.refl _ _)), blk_drew hb9, blk_drew hh9⟩, (blk_cell (blk_drew hb9) 0).trans rfl, (blk_cell (blk_drew hb9) 1).trans rfl, (blk_cell (blk_drew hh9) 0).trans rfl, (blk_cell (blk_drew hh9) 1).trans rfl, (blk_cell (blk_drew hh9) 2).trans rfl, (blk_cell (blk_drew hh9) 3).trans rfl⟩) (fun hHeld => ?_)
  refine wpAnyH_ready (rs := [0]) (by kernel_rfl) (by simp) ?_
  refine AllReadyH.cons rfl (fun K hK => ?_) AllReadyH.nil
  go_simp
  go_at_call 10
  with_reducible refine (louverlaw16_fixed.calls true _ rfl).mono ?_
  rintro e w' ⟨rfl, hb⟩
  refine hK.out _ _ (⟨⟨below_step hHeld.1.out.1 hb, blk_below hHeld.1.out.2.1 hb, blk_below hHeld.1.out.2.2 hb⟩, (blk_cell (blk_below hHeld.1.out.2.1 hb) 0).trans rfl, (blk_cell (blk_below hHeld.1.out.2.1 hb) 1).trans rfl, (blk_cell (blk_below hHeld.1.out.2.2 hb) 0).trans rfl, (blk_cell (blk_below hHeld.1.out.2.2 hb) 1).trans rfl, (blk_cell (blk_below hHeld.1.out.2.2 hb) 2).trans rfl, (blk_cell (blk_below hHeld.1.out.2.2 hb) 3).trans rfl⟩) (fun hHeld => ?_)
  clear hK K
  try simp only [Act.put, List.setIfInBounds_toArray, List.set_cons_zero, List.set_cons_succ]
  refine takeN (i := 1) (N := (some 52)) (v := ?v9) (a' := ?a9) rfl rfl (by kernel_rfl) (by kernel_rfl) (by kernel_rfl) (fun _ _ _ h => h) (Or.inl ⟨by rfl, ?hy9⟩) ?ha9 (by assumption) ?rest9
  case hy9 =>
    intro w_ hSw_
    go_simp
    first | done | (with_reducible rfl)
  case ha9 =>
    simp only [Act.put, List.setIfInBounds_toArray, List.set_cons_zero, List.set_cons_succ]
    rfl
  refine takeN (i := 2) (N := (some 53)) (v := ?v10) (a' := ?a10) rfl rfl (by kernel_rfl) (by kernel_rfl) (by kernel_rfl) (fun _ _ _ h => h) (Or.inl ⟨by rfl, ?hy10⟩) ?ha10 (by assumption) ?rest10
  case hy10 =>
    intro w_ hSw_
    go_simp
    first | done | (with_reducible rfl)
  case ha10 =>
    simp only [Act.put, List.setIfInBounds_toArray, List.set_cons_zero, List.set_cons_succ]
    rfl
  refine takeN (i := 3) (N := (some 54)) (v := ?v11) (a' := ?a11) rfl rfl (by kernel_rfl) (by kernel_rfl) (by kernel_rfl) (fun _ _ _ h => h) (Or.inl ⟨by rfl, ?hy11⟩) ?ha11 (by assumption) ?rest11
  case hy11 =>
    intro w_ hSw_
    go_simp
    first | done | (with_reducible rfl)
  case ha11 =>
    simp only [Act.put, List.setIfInBounds_toArray, List.set_cons_zero, List.set_cons_succ]
    rfl
  refine takeN (i := 4) (N := (some 55)) (v := ?v12) (a' := ?a12) rfl rfl (by kernel_rfl) (by kernel_rfl) (by kernel_rfl) (fun _ _ _ h => h) (Or.inl ⟨by rfl, ?hy12⟩) ?ha12 (by assumption) ?rest12
  case hy12 =>
    intro w_ hSw_
    go_simp
    first | done | (with_reducible rfl)
  case ha12 =>
    simp only [Act.put, List.setIfInBounds_toArray, List.set_cons_zero, List.set_cons_succ]
    rfl
  refine takeN (i := 5) (N := (some 56)) (v := ?v13) (a' := ?a13) rfl rfl (by kernel_rfl) (by kernel_rfl) (by kernel_rfl) (fun _ _ _ h => h) (Or.inl ⟨by rfl, ?hy13⟩) ?ha13 (by assumption) ?rest13
  case hy13 =>
    intro w_ hSw_
    go_simp
    first | done | (with_reducible rfl)
  case ha13 =>
    simp only [Act.put, List.setIfInBounds_toArray, List.set_cons_zero, List.set_cons_succ]
    rfl
  refine takeN (i := 6) (N := (some 57)) (v := ?v14) (a' := ?a14) rfl rfl (by kernel_rfl) (by kernel_rfl) (by kernel_rfl) (fun _ _ _ h => h) (Or.inl ⟨by rfl, ?hy14⟩) ?ha14 (by assumption) ?rest14
  case hy14 =>
    intro w_ hSw_
    go_simp
    first | done | (with_reducible rfl)
  case ha14 =>
    simp only [Act.put, List.setIfInBounds_toArray, List.set_cons_zero, List.set_cons_succ]
    rfl
  refine takeN (i := 7) (N := (some 58)) (v := ?v15) (a' := ?a15) rfl rfl (by kernel_rfl) (by kernel_rfl) (by kernel_rfl) (fun _ _ _ h => h) (Or.inl ⟨by rfl, ?hy15⟩) ?ha15 (by assumption) ?rest15
  case hy15 =>
    intro w_ hSw_
    go_simp
    first | done | (with_reducible rfl)
  case ha15 =>
    simp only [Act.put, List.setIfInBounds_toArray, List.set_cons_zero, List.set_cons_succ]
    rfl
  refine takeN (i := 8) (N := (some 59)) (v := ?v16) (a' := ?a16) rfl rfl (by kernel_rfl) (by kernel_rfl) (by kernel_rfl) (fun _ _ _ h => h) (Or.inl ⟨by rfl, ?hy16⟩) ?ha16 (by assumption) ?rest16
  case hy16 =>
    intro w_ hSw_
    go_simp
    first | done | (with_reducible rfl)
  case ha16 =>
    simp only [Act.put, List.setIfInBounds_toArray, List.set_cons_zero, List.set_cons_succ]
    rfl
  refine takeN (i := 9) (N := (some 60)) (v := ?v17) (a' := ?a17) rfl rfl (by kernel_rfl) (by kernel_rfl) (by kernel_rfl) (fun _ _ _ h => h) (Or.inl ⟨by rfl, ?hy17⟩) ?ha17 (by assumption) ?rest17
  case hy17 =>
    intro w_ hSw_
    go_simp
    first | done | (with_reducible rfl)
  case ha17 =>
    simp only [Act.put, List.setIfInBounds_toArray, List.set_cons_zero, List.set_cons_succ]
    rfl
  refine takeN (i := 10) (N := (some 61)) (v := ?v18) (a' := ?a18) rfl rfl (by kernel_rfl) (by kernel_rfl) (by kernel_rfl) (fun _ _ _ h => h) (Or.inl ⟨by rfl, ?hy18⟩) ?ha18 (by assumption) ?rest18
  case hy18 =>
    intro w_ hSw_
    go_simp
    first | done | (with_reducible rfl)
  case ha18 =>
    simp only [Act.put, List.setIfInBounds_toArray, List.set_cons_zero, List.set_cons_succ]
    rfl
  refine takeN (i := 11) (N := (some 62)) (v := ?v19) (a' := ?a19) rfl rfl (by kernel_rfl) (by kernel_rfl) (by kernel_rfl) (fun _ _ _ h => h) (Or.inl ⟨by rfl, ?hy19⟩) ?ha19 (by assumption) ?rest19
  case hy19 =>
    intro w_ hSw_
    go_simp
    first | done | (with_reducible rfl)
  case ha19 =>
    simp only [Act.put, List.setIfInBounds_toArray, List.set_cons_zero, List.set_cons_succ]
    rfl
  refine wpAnyH_ready (rs := [12]) (by kernel_rfl) (by simp) ?_
  refine AllReadyH.cons rfl (fun K hK => ?_) AllReadyH.nil
  go_simp
  go_at_call 11
  with_reducible refine (louverlaw16_told.calls hc sc hc2 _ HTO.out).mono ?_
  rintro e w' ⟨rfl, hb⟩
  refine hK.out _ _ (⟨⟨below_step hHeld.1.out.1 hb, blk_below hHeld.1.out.2.1 hb, blk_below hHeld.1.out.2.2 hb⟩, (blk_cell (blk_below hHeld.1.out.2.1 hb) 0).trans rfl, (blk_cell (blk_below hHeld.1.out.2.1 hb) 1).trans rfl, (blk_cell (blk_below hHeld.1.out.2.2 hb) 0).trans rfl, (blk_cell (blk_below hHeld.1.out.2.2 hb) 1).trans rfl, (blk_cell (blk_below hHeld.1.out.2.2 hb) 2).trans rfl, (blk_cell (blk_below hHeld.1.out.2.2 hb) 3).trans rfl⟩) (fun hHeld => ?_)
  clear hK K
  try simp only [Act.put, List.setIfInBounds_toArray, List.set_cons_zero, List.set_cons_succ]
  refine takeN (i := 13) (N := (some 64)) (v := ?v20) (a' := ?a20) rfl rfl (by kernel_rfl) (by kernel_rfl) (by kernel_rfl) (fun _ _ _ h => h) (Or.inl ⟨by rfl, ?hy20⟩) ?ha20 (by assumption) ?rest20
  case hy20 =>
    intro w_ hSw_
    go_simp
    first | done | (with_reducible rfl)
  case ha20 =>
    simp only [Act.put, List.setIfInBounds_toArray, List.set_cons_zero, List.set_cons_succ]
    rfl
  refine takeN (i := 14) (N := (some 65)) (v := ?v21) (a' := ?a21) rfl rfl (by kernel_rfl) (by kernel_rfl) (by kernel_rfl) (fun _ _ _ h => h) (Or.inl ⟨by rfl, ?hy21⟩) ?ha21 (by assumption) ?rest21
  case hy21 =>
    intro w_ hSw_
    go_simp
    first | done | (with_reducible rfl)
  case ha21 =>
    simp only [Act.put, List.setIfInBounds_toArray, List.set_cons_zero, List.set_cons_succ]
    rfl
  refine takeN (i := 15) (N := (some 66)) (v := ?v22) (a' := ?a22) rfl rfl (by kernel_rfl) (by kernel_rfl) (by kernel_rfl) (fun _ _ _ h => h) (Or.inl ⟨by rfl, ?hy22⟩) ?ha22 (by assumption) ?rest22
  case hy22 =>
    intro w_ hSw_
    go_simp
    first | done | (with_reducible rfl)
  case ha22 =>
    simp only [Act.put, List.setIfInBounds_toArray, List.set_cons_zero, List.set_cons_succ]
    rfl
  refine takeN (i := 16) (N := (some 67)) (v := ?v23) (a' := ?a23) rfl rfl (by kernel_rfl) (by kernel_rfl) (by kernel_rfl) (fun _ _ _ h => h) (Or.inl ⟨by rfl, ?hy23⟩) ?ha23 (by assumption) ?rest23
  case hy23 =>
    intro w_ hSw_
    go_simp
    first | done | (with_reducible rfl)
  case ha23 =>
    simp only [Act.put, List.setIfInBounds_toArray, List.set_cons_zero, List.set_cons_succ]
    rfl
  refine takeN (i := 17) (N := (some 68)) (v := ?v24) (a' := ?a24) rfl rfl (by kernel_rfl) (by kernel_rfl) (by kernel_rfl) (fun _ _ _ h => h) (Or.inl ⟨by rfl, ?hy24⟩) ?ha24 (by assumption) ?rest24
  case hy24 =>
    intro w_ hSw_
    go_simp
    first | done | (with_reducible rfl)
  case ha24 =>
    simp only [Act.put, List.setIfInBounds_toArray, List.set_cons_zero, List.set_cons_succ]
    rfl
  refine takeN (i := 18) (N := (some 69)) (v := ?v25) (a' := ?a25) rfl rfl (by kernel_rfl) (by kernel_rfl) (by kernel_rfl) (fun _ _ _ h => h) (Or.inl ⟨by rfl, ?hy25⟩) ?ha25 (by assumption) ?rest25
  case hy25 =>
    intro w_ hSw_
    go_simp
    first | done | (with_reducible rfl)
  case ha25 =>
    simp only [Act.put, List.setIfInBounds_toArray, List.set_cons_zero, List.set_cons_succ]
    rfl
  refine takeN (i := 19) (N := (some 70)) (v := ?v26) (a' := ?a26) rfl rfl (by kernel_rfl) (by kernel_rfl) (by kernel_rfl) (fun _ _ _ h => h) (Or.inl ⟨by rfl, ?hy26⟩) ?ha26 (by assumption) ?rest26
  case hy26 =>
    intro w_ hSw_
    go_simp
    first | done | (with_reducible rfl)
  case ha26 =>
    simp only [Act.put, List.setIfInBounds_toArray, List.set_cons_zero, List.set_cons_succ]
    rfl
  refine takeN (i := 20) (N := (some 71)) (v := ?v27) (a' := ?a27) rfl rfl (by kernel_rfl) (by kernel_rfl) (by kernel_rfl) (fun _ _ _ h => h) (Or.inl ⟨by rfl, ?hy27⟩) ?ha27 (by assumption) ?rest27
  case hy27 =>
    intro w_ hSw_
    go_simp
    first | done | (with_reducible rfl)
  case ha27 =>
    simp only [Act.put, List.setIfInBounds_toArray, List.set_cons_zero, List.set_cons_succ]
    rfl
  refine takeN (i := 21) (N := (some 72)) (v := ?v28) (a' := ?a28) rfl rfl (by kernel_rfl) (by kernel_rfl) (by kernel_rfl) (fun _ _ _ h => h) (Or.inl ⟨by rfl, ?hy28⟩) ?ha28 (by assumption) ?rest28
  case hy28 =>
    intro w_ hSw_
    go_simp
    first | done | (with_reducible rfl)
  case ha28 =>
    simp only [Act.put, List.setIfInBounds_toArray, List.set_cons_zero, List.set_cons_succ]
    rfl
  refine takeN (i := 22) (N := (some 73)) (v := ?v29) (a' := ?a29) rfl rfl (by kernel_rfl) (by kernel_rfl) (by kernel_rfl) (fun _ _ _ h => h) (Or.inl ⟨by rfl, ?hy29⟩) ?ha29 (by assumption) ?rest29
  case hy29 =>
    intro w_ hSw_
    go_simp
    first | done | (with_reducible rfl)
  case ha29 =>
    simp only [Act.put, List.setIfInBounds_toArray, List.set_cons_zero, List.set_cons_succ]
    rfl
  refine takeN (i := 23) (N := (some 74)) (v := ?v30) (a' := ?a30) rfl rfl (by kernel_rfl) (by kernel_rfl) (by kernel_rfl) (fun _ _ _ h => h) (Or.inl ⟨by rfl, ?hy30⟩) ?ha30 (by assumption) ?rest30
  case hy30 =>
    intro w_ hSw_
    go_simp
    first | done | (with_reducible rfl)
  case ha30 =>
    simp only [Act.put, List.setIfInBounds_toArray, List.set_cons_zero, List.set_cons_succ]
    rfl
  refine takeN (i := 24) (N := (some 4)) (v := ?v31) (a' := ?a31) rfl rfl (by kernel_rfl) (by kernel_rfl) (by kernel_rfl) (fun _ _ _ h => h) (Or.inl ⟨by rfl, ?hy31⟩) ?ha31 (by assumption) ?rest31
  case hy31 =>
    intro w_ hSw_
    go_simp
    first | done | (with_reducible rfl)
  case ha31 =>
    simp only [Act.put, List.setIfInBounds_toArray, List.set_cons_zero, List.set_cons_succ]
    rfl
  refine wpAnyH_done (by kernel_rfl) ?_ _
  refine NoPanic.normal ?_
  have HBf := Aside0.mk hHeld.1.out.1
  clear hHeld
  go_wp2_with fail
  go_ret
  exact ⟨rfl, HBf.out⟩
theorem wf8g {x : Int} (h : (Lit.int .u8 x).wf = true) : 0 ≤ x ∧ x ≤ 255 := by simpa [Lit.wf, IntKind.min, IntKind.max, IntKind.signed, IntKind.bits] using h
theorem same_g (fin : Bool) (op : Int) (mask : Bool) (key : Int) (d : List Int) : louverref16_Same.f fin op mask key d fin op mask key d = some true := by
  unfold louverref16_Same.f
  simp
theorem told_f {c : Int} (hc : c = 0 ∨ c = 1002 ∨ c = 1009) : louverlaw16_told.f c = some (if c = 0 then 0 else 3, c) := by
  rcases hc with rfl | rfl | rfl <;> rfl
/-- What the two heads have in common. -/
theorem head_both {l : List Int} (hl : l.all isByte = true) (m : Bool) : ∃ t sc hc f sz sh, wsframe_Head.f l m = some (t, sc, hc, !sh) ∧ louverref16_Head.f 20000 (strOfNums l) m = some (f, sz, hc, sh) ∧ louverlaw16_told.f hc = some (sc, hc) ∧ IntKind.i64.wrap (f + sz) = t := by
  have hR := refHead_f hl m 20000 (by omega)
  have hbd := headF_bounds hl m
  have hH : wsframe_Head.f l m = some (HeadF l m) := by unfold wsframe_Head.f; rw [if_pos hl]
  rw [HeadF_ref] at hH
  by_cases h1 : (headF l m).2.2.2 ≠ 0
  · have e : refH l m = (0, 0, (headF l m).2.2.2, false) := by unfold refH; rw [if_pos h1]
    rw [e] at hH hR
    exact ⟨_, _, _, _, _, _, hH, hR, told_f hbd.2.2.2.2, rfl⟩
  · by_cases h2 : (headF l m).2.2.1 = true
    · have e : refH l m = (0, 0, 0, true) := by unfold refH; rw [if_neg h1, if_pos h2]
      rw [e] at hH hR
      exact ⟨_, _, _, _, _, _, hH, hR, told_f (.inl rfl), rfl⟩
    · have e : refH l m = ((headF l m).1, (headF l m).2.1, 0, false) := by unfold refH; rw [if_neg h1, if_neg h2]
      rw [e] at hH hR
      exact ⟨_, _, _, _, _, _, hH, hR, told_f (.inl rfl), show IntKind.i64.wrap ((headF l m).1 + (headF l m).2.1) = (headF l m).1 + (headF l m).2.1 by rw [i64_w]; unfold wrap64; omega⟩
theorem Pure.WsframeGets : Says.WsframeGets := by
  intro A c l m w hlc hC o0 hg
  have hl : l.all isByte = true := by
    rw [List.all_eq_true]
    exact fun x hx => isByte_iff.2 (wf8g (o0.1 x hx))
  by_cases hn : 9000 < (l.length : Int)
  · exact Gets_great l A c m w hg hC hlc hn
  · have hn2 : (l.length : Int) ≤ 9000 := by omega
    obtain ⟨t, sc, hc, f, sz, sh, h1, h2, h3, h4⟩ := head_both hl m
    have hbd := headF_bounds hl m
    by_cases hb : getBad l m = 0
    · have hG : wsframe_Get.f 20000 l m = some (decide (128 ≤ rd l 0), rd l 0 % 16, m, keyIn l m, (if m = true then turned (rawOf l m) (keyIn l m) else rawOf l m), 0, 0) := by
        have hrl : (rawOf l m).length ≤ 9000 := by unfold rawOf; rw [List.length_drop]; omega
        unfold wsframe_Get.f
        rw [if_pos hl, if_pos hb]
        cases m
        · rw [if_neg (by decide), if_neg (by decide), Option.bind_some, if_pos (by omega)]
        · rw [if_pos rfl, if_pos rfl, turn_k _ _ (by omega) _ (by omega), Option.bind_some, if_pos (by omega)]
      exact Gets_walk l A c m w hg hC hlc hn2 _ _ _ _ _ 0 0 0 f sz hc sc hc t sh ⟨hG⟩ ⟨fun W => RGet_fine hl m W (by omega) hb⟩ ⟨same_g _ _ _ _ _⟩ ⟨rfl⟩ ⟨h1⟩ ⟨h2⟩ ⟨h3⟩ h4
    · have hG : wsframe_Get.f 20000 l m = some (false, 0, false, 0, [], 3, getBad l m) := by
        unfold wsframe_Get.f
        rw [if_pos hl, if_neg hb]
      have hcode : getBad l m = 1002 ∨ getBad l m = 1009 := by
        have := hbd.2.2.2.2
        unfold getBad at hb ⊢
        split
        · omega
        · split
          · exact .inl rfl
          · split
            · exact .inl rfl
            · rename_i h1 h2 h3
              rw [if_neg h1, if_neg h2, if_neg h3] at hb
              exact absurd rfl hb
      have hT : louverlaw16_told.f (getBad l m) = some (3, getBad l m) := by
        rw [told_f (by omega), if_neg hb]
      exact Gets_walk l A c m w hg hC hlc hn2 _ _ _ _ _ 3 _ _ f sz hc sc hc t sh ⟨hG⟩ ⟨fun W => RGet_fault hl m W hb⟩ ⟨same_g _ _ _ _ _⟩ ⟨hT⟩ ⟨h1⟩ ⟨h2⟩ ⟨h3⟩ h4
end Go.Proofs.YtabpngcjlikpkaaDoor
