import Derived.Test.YtabpngcjlikpkaaDoorSaysWsframeHead
import Derived.Test.YtabpngcjlikpkaaDoorRefHead
import Derived.Test.YtabpngcjlikpkaaDoorPAllx6
import Derived.Test.YtabpngcjlikpkaaDoorPAllx6
import Derived.Test.YtabpngcjlikpkaaDoorPAllx2
import Derived.Deep.RegionHeld3
import Derived.Deep.RegionWith
namespace Go.Proofs.YtabpngcjlikpkaaDoor
open Go.RowKit Go.Proofs.YtabpngcjlikpkaaDoorW.PrintWords Go.Proofs.YtabpngcjlikpkaaDoorW.PrintLast Go.Proofs.YtabpngcjlikpkaaDoorW.PrintMore Go.Proofs.YtabpngcjlikpkaaDoor.PAll
set_option linter.unusedVariables false
attribute [local go_sem] max2_int min2_int max_two min_two
set_option maxHeartbeats 8000000 in
set_option maxRecDepth 100000 in
theorem LawHead_any_all (a b n : Int) (x0 x1 x2 x3 x4 x5 x6 x7 : Int) (cut : Int) (hcut : ¬ cut < 10) (m : Bool) (w : World) (hg : Cond w) (e0 : IntKind.u8.wrap (n / 72057594037927936) = x0) (e1 : IntKind.u8.wrap (n / 281474976710656) = x1) (e2 : IntKind.u8.wrap (n / 1099511627776) = x2) (e3 : IntKind.u8.wrap (n / 4294967296) = x3) (e4 : IntKind.u8.wrap (n / 16777216) = x4) (e5 : IntKind.u8.wrap (n / 65536) = x5) (e6 : IntKind.u8.wrap (n / 256) = x6) (e7 : n % 256 = x7) (tb : (Int.tmod b 128 == 126) = false) (cw : IntKind.i64.wrap cut = cut) (f sz hc sc hc2 t : Int) (sh : Bool) (HHD : Aside0 (wsframe_Head.f [a, b, x0, x1, x2, x3, x4, x5, x6, x7] m = some (t, sc, hc2, !sh))) (HRH : Aside0 (louverref16_Head.f 20000 (strOfNums [a, b, x0, x1, x2, x3, x4, x5, x6, x7]) m = some (f, sz, hc, sh))) (HTO : Aside0 (louverlaw16_told.f hc = some (sc, hc2))) (hs : IntKind.i64.wrap (f + sz) = t) : Calls Tryd.prog 3 #[.int .u8 a, .int .u8 b, .int .u64 n, .int .u8 cut, .bool m] w fun e w' => e = .returned (.bool true) ∧ Below w.heap.size w w' := by
  have HG := Aside0.mk hg
  clear hg
  have hu26 := Tryd.underlying26
  have hu30 := Tryd.underlying30
  have hinfo : (Tryd.prog.info? 5).map (fun i => (i.zero, i.size, i.bytes)) = some (some (.int .u8 0), 1, 1) := by kernel_rfl
  have HO0 : Aside0 ((w.alloc (.cells #[.int .u8 a, .int .u8 b] 5)).ownsRow w.heap.size 5 1 (.slice (some ⟨w.heap.size, 0, none⟩) 2 2) 2 (nums .u8 [a, b])) := ⟨own_lit w w.heap.size 5 .u8 [a, b] (Nat.le_refl _) (by simp)⟩
  have HB0 : Aside0 (Below w.heap.size w (w.alloc (.cells #[.int .u8 a, .int .u8 b] 5))) := ⟨below_alloc (Below.refl _ _) _⟩
  go_enter Tryd.func3, Tryd.ntmps3
  go_wp2_with fail
  generalize w.alloc (.cells #[.int .u8 a, .int .u8 b] 5) = W0 at HO0 HB0 ⊢
  refine wp_loop_rounds 9 ?_
  rw [rounds_succ]
  go_wp2_with (at_builtin; refine print_append_num (w0 := w) w.heap.size rfl (.tmp 24) (.tmp 29) 23 5 .u8 1 rfl Tryd.underlying23 hinfo (by decide) (.slice (some ⟨w.heap.size, 0, none⟩) 2 2) [a, b] x0 rfl rfl HO0.out HB0.out HB0.out.size (by simp) ?_; intro v1 w1 ho hb hgr hat; have HO1 := Aside0.mk ho; have HB1 := Aside0.mk hb; clear ho hb hgr hat HO0 HB0)
  rw [rounds_succ]
  go_wp2_with (at_builtin; refine print_append_num (w0 := w) w.heap.size rfl (.tmp 24) (.tmp 29) 23 5 .u8 1 rfl Tryd.underlying23 hinfo (by decide) v1 [a, b, x0] x1 rfl rfl HO1.out HB1.out HB1.out.size (by simp) ?_; intro v2 w2 ho hb hgr hat; have HO2 := Aside0.mk ho; have HB2 := Aside0.mk hb; clear ho hb hgr hat HO1 HB1)
  rw [rounds_succ]
  go_wp2_with (at_builtin; refine print_append_num (w0 := w) w.heap.size rfl (.tmp 24) (.tmp 29) 23 5 .u8 1 rfl Tryd.underlying23 hinfo (by decide) v2 [a, b, x0, x1] x2 rfl rfl HO2.out HB2.out HB2.out.size (by simp) ?_; intro v3 w3 ho hb hgr hat; have HO3 := Aside0.mk ho; have HB3 := Aside0.mk hb; clear ho hb hgr hat HO2 HB2)
  rw [rounds_succ]
  go_wp2_with (at_builtin; refine print_append_num (w0 := w) w.heap.size rfl (.tmp 24) (.tmp 29) 23 5 .u8 1 rfl Tryd.underlying23 hinfo (by decide) v3 [a, b, x0, x1, x2] x3 rfl rfl HO3.out HB3.out HB3.out.size (by simp) ?_; intro v4 w4 ho hb hgr hat; have HO4 := Aside0.mk ho; have HB4 := Aside0.mk hb; clear ho hb hgr hat HO3 HB3)
  rw [rounds_succ]
  go_wp2_with (at_builtin; refine print_append_num (w0 := w) w.heap.size rfl (.tmp 24) (.tmp 29) 23 5 .u8 1 rfl Tryd.underlying23 hinfo (by decide) v4 [a, b, x0, x1, x2, x3] x4 rfl rfl HO4.out HB4.out HB4.out.size (by simp) ?_; intro v5 w5 ho hb hgr hat; have HO5 := Aside0.mk ho; have HB5 := Aside0.mk hb; clear ho hb hgr hat HO4 HB4)
  rw [rounds_succ]
  go_wp2_with (at_builtin; refine print_append_num (w0 := w) w.heap.size rfl (.tmp 24) (.tmp 29) 23 5 .u8 1 rfl Tryd.underlying23 hinfo (by decide) v5 [a, b, x0, x1, x2, x3, x4] x5 rfl rfl HO5.out HB5.out HB5.out.size (by simp) ?_; intro v6 w6 ho hb hgr hat; have HO6 := Aside0.mk ho; have HB6 := Aside0.mk hb; clear ho hb hgr hat HO5 HB5)
  rw [rounds_succ]
  go_wp2_with (at_builtin; refine print_append_num (w0 := w) w.heap.size rfl (.tmp 24) (.tmp 29) 23 5 .u8 1 rfl Tryd.underlying23 hinfo (by decide) v6 [a, b, x0, x1, x2, x3, x4, x5] x6 rfl rfl HO6.out HB6.out HB6.out.size (by simp) ?_; intro v7 w7 ho hb hgr hat; have HO7 := Aside0.mk ho; have HB7 := Aside0.mk hb; clear ho hb hgr hat HO6 HB6)
  rw [rounds_succ]
  go_wp2_with (at_builtin; refine print_append_num (w0 := w) w.heap.size rfl (.tmp 24) (.tmp 29) 23 5 .u8 1 rfl Tryd.underlying23 hinfo (by decide) v7 [a, b, x0, x1, x2, x3, x4, x5, x6] x7 rfl rfl HO7.out HB7.out HB7.out.size (by simp) ?_; intro v8 w8 ho hb hgr hat; have HO8 := Aside0.mk ho; have HB8 := Aside0.mk hb; clear ho hb hgr hat HO7 HB7)
  have hR8 : Kd.R (Kd.int .u8) 5 w8 w.heap.size (fun _ => True) v8 [a, b, x0, x1, x2, x3, x4, x5, x6, x7] := Kd.R_of_own (enc := Value.int .u8) (h1 := fun _ => rfl) HO8.out (fun _ _ => trivial)
  obtain ⟨g, cap, hv, hge, hgl, _⟩ := Kd.R_form hR8 (by simp)
  have hv : v8 = .slice (some ⟨g, 0, none⟩) 10 cap := hv
  subst hv
  have hcp : 10 ≤ cap := (Kd.R_reads' hR8).2.1
  have hcpi : (10 : Int) ≤ (cap : Int) := by omega
  have hcp2 : (10 : Int) ≤ (cap : Int) := by omega
  have HR8 := Aside0.mk hR8
  clear hR8 HO8 e0 e1 e2 e3 e4 e5 e6 e7
  rw [rounds_succ]
  go_wp2_with fail
  have HC8 : Aside0 (Kd.C (Kd.int .u8) w8 (some ⟨g, 0, none⟩) [a, b, x0, x1, x2, x3, x4, x5, x6, x7].length [a, b, x0, x1, x2, x3, x4, x5, x6, x7]) := ⟨(Kd.R_reads' HR8.out).2.2⟩
  clear HR8
  refine (calls_of_args rfl (wsframe_Head.calls (some ⟨g, 0, none⟩) cap [a, b, x0, x1, x2, x3, x4, x5, x6, x7] m t sc hc2 (!sh) _ HC8.out (by simp; omega) HHD.out (HG.out.below HB8.out))).mono ?_
  rintro e wa ⟨rfl, hb⟩
  have HB9 := Aside0.mk (below_step HB8.out hb)
  have HC9 := Aside0.mk (Kd.C_below HC8.out hb)
  clear hb HB8 HC8
  go_upto_region 10 with fail
  have hB10 : Below w.heap.size w (wa.alloc (.cells #[.int .u8 sc, .int .u32 hc2] 26)) := below_alloc HB9.out _
  have hb10 : (wa.alloc (.cells #[.int .u8 sc, .int .u32 hc2] 26)).heap[wa.heap.size]? = some (.cells #[.int .u8 sc, .int .u32 hc2] 26 (0, 0)) := last_at _ _ _ rfl
  have hC10 := Kd.C_below HC9.out (below_alloc (Below.refl _ _) (.cells #[.int .u8 sc, .int .u32 hc2] 26))
  generalize (wa.alloc (.cells #[.int .u8 sc, .int .u32 hc2] 26)) = w10 at hB10 hb10 hC10 ⊢
  generalize wa.heap.size = gb at hb10 ⊢
  have HB10 := Aside0.mk hB10
  have Hb10 := Aside0.mk hb10
  clear hB10 hb10 HB9 HC9
  have hcv : (convert 23 9 (.slice (some ⟨g, 0, none⟩) 10 cap)).run Tryd.prog w10 = .ok (.string (strOfNums [a, b, x0, x1, x2, x3, x4, x5, x6, x7])) w10 := Kd.C_string (P := Tryd.prog) Tryd.underlying23 Tryd.underlying5 Tryd.underlying9 hC10
  clear hC10
  go_wp2_with fail
  clear hcv
  refine (louverref16_Head.calls 20000 (strOfNums [a, b, x0, x1, x2, x3, x4, x5, x6, x7]) m f sz hc sh _ HRH.out).mono ?_
  rintro e w11 ⟨rfl, hb⟩
  have HB11 := Aside0.mk (below_step HB10.out hb)
  have Hb11 := Aside0.mk (blk_below Hb10.out hb)
  clear hb HB10 Hb10
  go_upto_region 11 with fail
  have hB12 : Below w.heap.size w (w11.alloc (.cells #[.int .i64 f, .int .i64 sz, .int .i64 hc, .bool sh] 30)) := below_alloc HB11.out _
  have hb12 : (w11.alloc (.cells #[.int .i64 f, .int .i64 sz, .int .i64 hc, .bool sh] 30)).heap[gb]? = some (.cells #[.int .u8 sc, .int .u32 hc2] 26 (0, 0)) := blk_alloc Hb11.out _
  have hh12 : (w11.alloc (.cells #[.int .i64 f, .int .i64 sz, .int .i64 hc, .bool sh] 30)).heap[w11.heap.size]? = some (.cells #[.int .i64 f, .int .i64 sz, .int .i64 hc, .bool sh] 30 (0, 0)) := last_at _ _ _ rfl
  generalize (w11.alloc (.cells #[.int .i64 f, .int .i64 sz, .int .i64 hc, .bool sh] 30)) = w12 at hB12 hb12 hh12 ⊢
  generalize w11.heap.size = gh at hh12 ⊢
  clear HB11 Hb11
  refine wp_region_noPanic ?_
  refine wp_region_held_drew (S := fun w' => Aside0 (Below w.heap.size w w' ∧ w'.heap[gb]? = some (.cells #[.int .u8 sc, .int .u32 hc2] 26 (0, 0)) ∧ w'.heap[gh]? = some (.cells #[.int .i64 f, .int .i64 sz, .int .i64 hc, .bool sh] 30 (0, 0))) ∧ w'.cell? ⟨gb, 0, none⟩ = some (.int .u8 sc) ∧ w'.cell? ⟨gb, 1, none⟩ = some (.int .u32 hc2) ∧ w'.cell? ⟨gh, 0, none⟩ = some (.int .i64 f) ∧ w'.cell? ⟨gh, 1, none⟩ = some (.int .i64 sz) ∧ w'.cell? ⟨gh, 2, none⟩ = some (.int .i64 hc) ∧ w'.cell? ⟨gh, 3, none⟩ = some (.bool sh)) (by kernel_rfl) (⟨⟨below_step hB12 (below_drew (Below.refl _ _)), blk_drew hb12, blk_drew hh12⟩, (blk_cell (blk_drew hb12) 0).trans rfl, (blk_cell (blk_drew hb12) 1).trans rfl, (blk_cell (blk_drew hh12) 0).trans rfl, (blk_cell (blk_drew hh12) 1).trans rfl, (blk_cell (blk_drew hh12) 2).trans rfl, (blk_cell (blk_drew hh12) 3).trans rfl⟩) (fun hHeld => ?_)
  refine wpAnyH_ready (rs := [0]) (by kernel_rfl) (by simp) ?_
  refine AllReadyH.cons rfl (fun K hK => ?_) AllReadyH.nil
  go_simp
  go_at_call 10
  with_reducible refine (louverlaw16_fixed.calls true _ rfl).mono ?_
  rintro e w' ⟨rfl, hb⟩
  refine hK.out _ _ (⟨⟨below_step hHeld.1.out.1 hb, blk_below hHeld.1.out.2.1 hb, blk_below hHeld.1.out.2.2 hb⟩, (blk_cell (blk_below hHeld.1.out.2.1 hb) 0).trans rfl, (blk_cell (blk_below hHeld.1.out.2.1 hb) 1).trans rfl, (blk_cell (blk_below hHeld.1.out.2.2 hb) 0).trans rfl, (blk_cell (blk_below hHeld.1.out.2.2 hb) 1).trans rfl, (blk_cell (blk_below hHeld.1.out.2.2 hb) 2).trans rfl, (blk_cell (blk_below hHeld.1.out.2.2 hb) 3).trans rfl⟩) (fun hHeld => ?_)
  clear hK K
  try simp only [Act.put, List.setIfInBounds_toArray, List.set_cons_zero, List.set_cons_succ]
  refine takeN (i := 1) (N := (some 58)) (v := ?v1) (a' := ?a1) rfl rfl (by kernel_rfl) (by kernel_rfl) (by kernel_rfl) (fun _ _ _ h => h) (Or.inl ⟨by rfl, ?hy1⟩) ?ha1 (by assumption) ?rest1
  case hy1 =>
    intro w_ hSw_
    go_simp
    first | done | (with_reducible rfl)
  case ha1 =>
    simp only [Act.put, List.setIfInBounds_toArray, List.set_cons_zero, List.set_cons_succ]
    rfl
  refine takeN (i := 2) (N := (some 59)) (v := ?v2) (a' := ?a2) rfl rfl (by kernel_rfl) (by kernel_rfl) (by kernel_rfl) (fun _ _ _ h => h) (Or.inl ⟨by rfl, ?hy2⟩) ?ha2 (by assumption) ?rest2
  case hy2 =>
    intro w_ hSw_
    go_simp
    first | done | (with_reducible rfl)
  case ha2 =>
    simp only [Act.put, List.setIfInBounds_toArray, List.set_cons_zero, List.set_cons_succ]
    rfl
  refine takeN (i := 3) (N := (some 60)) (v := ?v3) (a' := ?a3) rfl rfl (by kernel_rfl) (by kernel_rfl) (by kernel_rfl) (fun _ _ _ h => h) (Or.inl ⟨by rfl, ?hy3⟩) ?ha3 (by assumption) ?rest3
  case hy3 =>
    intro w_ hSw_
    go_simp
    first | done | (with_reducible rfl)
  case ha3 =>
    simp only [Act.put, List.setIfInBounds_toArray, List.set_cons_zero, List.set_cons_succ]
    rfl
  refine takeN (i := 4) (N := (some 61)) (v := ?v4) (a' := ?a4) rfl rfl (by kernel_rfl) (by kernel_rfl) (by kernel_rfl) (fun _ _ _ h => h) (Or.inl ⟨by rfl, ?hy4⟩) ?ha4 (by assumption) ?rest4
  case hy4 =>
    intro w_ hSw_
    go_simp
    first | done | (with_reducible rfl)
  case ha4 =>
    simp only [Act.put, List.setIfInBounds_toArray, List.set_cons_zero, List.set_cons_succ]
    rfl
  refine takeN (i := 5) (N := (some 62)) (v := ?v5) (a' := ?a5) rfl rfl (by kernel_rfl) (by kernel_rfl) (by kernel_rfl) (fun _ _ _ h => h) (Or.inl ⟨by rfl, ?hy5⟩) ?ha5 (by assumption) ?rest5
  case hy5 =>
    intro w_ hSw_
    go_simp
    first | done | (with_reducible rfl)
  case ha5 =>
    simp only [Act.put, List.setIfInBounds_toArray, List.set_cons_zero, List.set_cons_succ]
    rfl
  refine takeN (i := 6) (N := (some 63)) (v := ?v6) (a' := ?a6) rfl rfl (by kernel_rfl) (by kernel_rfl) (by kernel_rfl) (fun _ _ _ h => h) (Or.inl ⟨by rfl, ?hy6⟩) ?ha6 (by assumption) ?rest6
  case hy6 =>
    intro w_ hSw_
    go_simp
    first | done | (with_reducible rfl)
  case ha6 =>
    simp only [Act.put, List.setIfInBounds_toArray, List.set_cons_zero, List.set_cons_succ]
    rfl
  refine takeN (i := 7) (N := (some 64)) (v := ?v7) (a' := ?a7) rfl rfl (by kernel_rfl) (by kernel_rfl) (by kernel_rfl) (fun _ _ _ h => h) (Or.inl ⟨by rfl, ?hy7⟩) ?ha7 (by assumption) ?rest7
  case hy7 =>
    intro w_ hSw_
    go_simp
    first | done | (with_reducible rfl)
  case ha7 =>
    simp only [Act.put, List.setIfInBounds_toArray, List.set_cons_zero, List.set_cons_succ]
    rfl
  refine takeN (i := 8) (N := (some 65)) (v := ?v8) (a' := ?a8) rfl rfl (by kernel_rfl) (by kernel_rfl) (by kernel_rfl) (fun _ _ _ h => h) (Or.inl ⟨by rfl, ?hy8⟩) ?ha8 (by assumption) ?rest8
  case hy8 =>
    intro w_ hSw_
    go_simp
    first | done | (with_reducible rfl)
  case ha8 =>
    simp only [Act.put, List.setIfInBounds_toArray, List.set_cons_zero, List.set_cons_succ]
    rfl
  refine takeN (i := 9) (N := (some 66)) (v := ?v9) (a' := ?a9) rfl rfl (by kernel_rfl) (by kernel_rfl) (by kernel_rfl) (fun _ _ _ h => h) (Or.inl ⟨by rfl, ?hy9⟩) ?ha9 (by assumption) ?rest9
  case hy9 =>
    intro w_ hSw_
    go_simp
    first | done | (with_reducible rfl)
  case ha9 =>
    simp only [Act.put, List.setIfInBounds_toArray, List.set_cons_zero, List.set_cons_succ]
    rfl
  refine takeN (i := 10) (N := (some 67)) (v := ?v10) (a' := ?a10) rfl rfl (by kernel_rfl) (by kernel_rfl) (by kernel_rfl) (fun _ _ _ h => h) (Or.inl ⟨by rfl, ?hy10⟩) ?ha10 (by assumption) ?rest10
  case hy10 =>
    intro w_ hSw_
    go_simp
    first | done | (with_reducible rfl)
  case ha10 =>
    simp only [Act.put, List.setIfInBounds_toArray, List.set_cons_zero, List.set_cons_succ]
    rfl
  refine takeN (i := 11) (N := (some 68)) (v := ?v11) (a' := ?a11) rfl rfl (by kernel_rfl) (by kernel_rfl) (by kernel_rfl) (fun _ _ _ h => h) (Or.inl ⟨by rfl, ?hy11⟩) ?ha11 (by assumption) ?rest11
  case hy11 =>
    intro w_ hSw_
    go_simp
    first | done | (with_reducible rfl)
  case ha11 =>
    simp only [Act.put, List.setIfInBounds_toArray, List.set_cons_zero, List.set_cons_succ]
    rfl
  refine wpAnyH_ready (rs := [12]) (by kernel_rfl) (by simp) ?_
  refine AllReadyH.cons rfl (fun K hK => ?_) AllReadyH.nil
  go_simp
  go_at_call 11
  with_reducible refine (louverlaw16_told.calls hc sc hc2 _ HTO.out).mono ?_
  rintro e w' ⟨rfl, hb⟩
  refine hK.out _ _ (⟨⟨below_step hHeld.1.out.1 hb, blk_below hHeld.1.out.2.1 hb, blk_below hHeld.1.out.2.2 hb⟩, (blk_cell (blk_below hHeld.1.out.2.1 hb) 0).trans rfl, (blk_cell (blk_below hHeld.1.out.2.1 hb) 1).trans rfl, (blk_cell (blk_below hHeld.1.out.2.2 hb) 0).trans rfl, (blk_cell (blk_below hHeld.1.out.2.2 hb) 1).trans rfl, (blk_cell (blk_below hHeld.1.out.2.2 hb) 2).trans rfl, (blk_cell (blk_below hHeld.1.out.2.2 hb) 3).trans rfl⟩) (fun hHeld => ?_)
  clear hK K
  try simp only [Act.put, List.setIfInBounds_toArray, List.set_cons_zero, List.set_cons_succ]
  refine takeN (i := 13) (N := (some 70)) (v := ?v12) (a' := ?a12) rfl rfl (by kernel_rfl) (by kernel_rfl) (by kernel_rfl) (fun _ _ _ h => h) (Or.inl ⟨by rfl, ?hy12⟩) ?ha12 (by assumption) ?rest12
  case hy12 =>
    intro w_ hSw_
    go_simp
    first | done | (with_reducible rfl)
  case ha12 =>
    simp only [Act.put, List.setIfInBounds_toArray, List.set_cons_zero, List.set_cons_succ]
    rfl
  refine takeN (i := 14) (N := (some 71)) (v := ?v13) (a' := ?a13) rfl rfl (by kernel_rfl) (by kernel_rfl) (by kernel_rfl) (fun _ _ _ h => h) (Or.inl ⟨by rfl, ?hy13⟩) ?ha13 (by assumption) ?rest13
  case hy13 =>
    intro w_ hSw_
    go_simp
    first | done | (with_reducible rfl)
  case ha13 =>
    simp only [Act.put, List.setIfInBounds_toArray, List.set_cons_zero, List.set_cons_succ]
    rfl
  refine takeN (i := 15) (N := (some 72)) (v := ?v14) (a' := ?a14) rfl rfl (by kernel_rfl) (by kernel_rfl) (by kernel_rfl) (fun _ _ _ h => h) (Or.inl ⟨by rfl, ?hy14⟩) ?ha14 (by assumption) ?rest14
  case hy14 =>
    intro w_ hSw_
    go_simp
    first | done | (with_reducible rfl)
  case ha14 =>
    simp only [Act.put, List.setIfInBounds_toArray, List.set_cons_zero, List.set_cons_succ]
    rfl
  refine takeN (i := 16) (N := (some 73)) (v := ?v15) (a' := ?a15) rfl rfl (by kernel_rfl) (by kernel_rfl) (by kernel_rfl) (fun _ _ _ h => h) (Or.inl ⟨by rfl, ?hy15⟩) ?ha15 (by assumption) ?rest15
  case hy15 =>
    intro w_ hSw_
    go_simp
    first | done | (with_reducible rfl)
  case ha15 =>
    simp only [Act.put, List.setIfInBounds_toArray, List.set_cons_zero, List.set_cons_succ]
    rfl
  refine takeN (i := 17) (N := (some 74)) (v := ?v16) (a' := ?a16) rfl rfl (by kernel_rfl) (by kernel_rfl) (by kernel_rfl) (fun _ _ _ h => h) (Or.inl ⟨by rfl, ?hy16⟩) ?ha16 (by assumption) ?rest16
  case hy16 =>
    intro w_ hSw_
    go_simp
    first | done | (with_reducible rfl)
  case ha16 =>
    simp only [Act.put, List.setIfInBounds_toArray, List.set_cons_zero, List.set_cons_succ]
    rfl
  refine takeN (i := 18) (N := (some 75)) (v := ?v17) (a' := ?a17) rfl rfl (by kernel_rfl) (by kernel_rfl) (by kernel_rfl) (fun _ _ _ h => h) (Or.inl ⟨by rfl, ?hy17⟩) ?ha17 (by assumption) ?rest17
  case hy17 =>
    intro w_ hSw_
    go_simp
    first | done | (with_reducible rfl)
  case ha17 =>
    simp only [Act.put, List.setIfInBounds_toArray, List.set_cons_zero, List.set_cons_succ]
    rfl
  refine takeN (i := 19) (N := (some 76)) (v := ?v18) (a' := ?a18) rfl rfl (by kernel_rfl) (by kernel_rfl) (by kernel_rfl) (fun _ _ _ h => h) (Or.inl ⟨by rfl, ?hy18⟩) ?ha18 (by assumption) ?rest18
  case hy18 =>
    intro w_ hSw_
    go_simp
    first | done | (with_reducible rfl)
  case ha18 =>
    simp only [Act.put, List.setIfInBounds_toArray, List.set_cons_zero, List.set_cons_succ]
    rfl
  refine takeN (i := 20) (N := (some 77)) (v := ?v19) (a' := ?a19) rfl rfl (by kernel_rfl) (by kernel_rfl) (by kernel_rfl) (fun _ _ _ h => h) (Or.inl ⟨by rfl, ?hy19⟩) ?ha19 (by assumption) ?rest19
  case hy19 =>
    intro w_ hSw_
    go_simp
    first | done | (with_reducible rfl)
  case ha19 =>
    simp only [Act.put, List.setIfInBounds_toArray, List.set_cons_zero, List.set_cons_succ]
    rfl
  refine takeN (i := 21) (N := (some 78)) (v := ?v20) (a' := ?a20) rfl rfl (by kernel_rfl) (by kernel_rfl) (by kernel_rfl) (fun _ _ _ h => h) (Or.inl ⟨by rfl, ?hy20⟩) ?ha20 (by assumption) ?rest20
  case hy20 =>
    intro w_ hSw_
    go_simp
    first | done | (with_reducible rfl)
  case ha20 =>
    simp only [Act.put, List.setIfInBounds_toArray, List.set_cons_zero, List.set_cons_succ]
    rfl
  refine takeN (i := 22) (N := (some 79)) (v := ?v21) (a' := ?a21) rfl rfl (by kernel_rfl) (by kernel_rfl) (by kernel_rfl) (fun _ _ _ h => h) (Or.inl ⟨by rfl, ?hy21⟩) ?ha21 (by assumption) ?rest21
  case hy21 =>
    intro w_ hSw_
    go_simp
    first | done | (with_reducible rfl)
  case ha21 =>
    simp only [Act.put, List.setIfInBounds_toArray, List.set_cons_zero, List.set_cons_succ]
    rfl
  refine takeN (i := 23) (N := (some 80)) (v := ?v22) (a' := ?a22) rfl rfl (by kernel_rfl) (by kernel_rfl) (by kernel_rfl) (fun _ _ _ h => h) (Or.inl ⟨by rfl, ?hy22⟩) ?ha22 (by assumption) ?rest22
  case hy22 =>
    intro w_ hSw_
    go_simp
    first | done | (with_reducible rfl)
  case ha22 =>
    simp only [Act.put, List.setIfInBounds_toArray, List.set_cons_zero, List.set_cons_succ]
    rfl
  refine takeN (i := 24) (N := (some 10)) (v := ?v23) (a' := ?a23) rfl rfl (by kernel_rfl) (by kernel_rfl) (by kernel_rfl) (fun _ _ _ h => h) (Or.inl ⟨by rfl, ?hy23⟩) ?ha23 (by assumption) ?rest23
  case hy23 =>
    intro w_ hSw_
    go_simp
    first | done | (with_reducible rfl)
  case ha23 =>
    simp only [Act.put, List.setIfInBounds_toArray, List.set_cons_zero, List.set_cons_succ]
    rfl
  refine wpAnyH_done (by kernel_rfl) ?_ _
  refine NoPanic.normal ?_
  have HBf := Aside0.mk hHeld.1.out.1
  clear hHeld
  go_wp2_with fail
  go_ret
  exact ⟨rfl, HBf.out⟩
set_option maxHeartbeats 8000000 in
set_option maxRecDepth 100000 in
theorem LawHead_any_cut (a b n : Int) (x0 x1 x2 x3 x4 x5 x6 x7 : Int) (l : List Int) (hl : l = [a, b, x0, x1, x2, x3, x4, x5, x6, x7].take l.length) (hcut : (l.length : Int) < 10) (m : Bool) (w : World) (hg : Cond w) (e0 : IntKind.u8.wrap (n / 72057594037927936) = x0) (e1 : IntKind.u8.wrap (n / 281474976710656) = x1) (e2 : IntKind.u8.wrap (n / 1099511627776) = x2) (e3 : IntKind.u8.wrap (n / 4294967296) = x3) (e4 : IntKind.u8.wrap (n / 16777216) = x4) (e5 : IntKind.u8.wrap (n / 65536) = x5) (e6 : IntKind.u8.wrap (n / 256) = x6) (e7 : n % 256 = x7) (tb : (Int.tmod b 128 == 126) = false) (cw : IntKind.i64.wrap (l.length : Int) = (l.length : Int)) (f sz hc sc hc2 t : Int) (sh : Bool) (HHD : Aside0 (wsframe_Head.f l m = some (t, sc, hc2, !sh))) (HRH : Aside0 (louverref16_Head.f 20000 (strOfNums l) m = some (f, sz, hc, sh))) (HTO : Aside0 (louverlaw16_told.f hc = some (sc, hc2))) (hs : IntKind.i64.wrap (f + sz) = t) : Calls Tryd.prog 3 #[.int .u8 a, .int .u8 b, .int .u64 n, .int .u8 (l.length : Int), .bool m] w fun e w' => e = .returned (.bool true) ∧ Below w.heap.size w w' := by
  have HG := Aside0.mk hg
  clear hg
  have hu26 := Tryd.underlying26
  have hu30 := Tryd.underlying30
  have hinfo : (Tryd.prog.info? 5).map (fun i => (i.zero, i.size, i.bytes)) = some (some (.int .u8 0), 1, 1) := by kernel_rfl
  have HL := Aside0.mk hl
  clear hl
  have hcutn : l.length < 10 := by omega
  have HO0 : Aside0 ((w.alloc (.cells #[.int .u8 a, .int .u8 b] 5)).ownsRow w.heap.size 5 1 (.slice (some ⟨w.heap.size, 0, none⟩) 2 2) 2 (nums .u8 [a, b])) := ⟨own_lit w w.heap.size 5 .u8 [a, b] (Nat.le_refl _) (by simp)⟩
  have HB0 : Aside0 (Below w.heap.size w (w.alloc (.cells #[.int .u8 a, .int .u8 b] 5))) := ⟨below_alloc (Below.refl _ _) _⟩
  go_enter Tryd.func3, Tryd.ntmps3
  go_wp2_with fail
  generalize w.alloc (.cells #[.int .u8 a, .int .u8 b] 5) = W0 at HO0 HB0 ⊢
  refine wp_loop_rounds 9 ?_
  rw [rounds_succ]
  go_wp2_with (at_builtin; refine print_append_num (w0 := w) w.heap.size rfl (.tmp 24) (.tmp 29) 23 5 .u8 1 rfl Tryd.underlying23 hinfo (by decide) (.slice (some ⟨w.heap.size, 0, none⟩) 2 2) [a, b] x0 rfl rfl HO0.out HB0.out HB0.out.size (by simp) ?_; intro v1 w1 ho hb hgr hat; have HO1 := Aside0.mk ho; have HB1 := Aside0.mk hb; clear ho hb hgr hat HO0 HB0)
  rw [rounds_succ]
  go_wp2_with (at_builtin; refine print_append_num (w0 := w) w.heap.size rfl (.tmp 24) (.tmp 29) 23 5 .u8 1 rfl Tryd.underlying23 hinfo (by decide) v1 [a, b, x0] x1 rfl rfl HO1.out HB1.out HB1.out.size (by simp) ?_; intro v2 w2 ho hb hgr hat; have HO2 := Aside0.mk ho; have HB2 := Aside0.mk hb; clear ho hb hgr hat HO1 HB1)
  rw [rounds_succ]
  go_wp2_with (at_builtin; refine print_append_num (w0 := w) w.heap.size rfl (.tmp 24) (.tmp 29) 23 5 .u8 1 rfl Tryd.underlying23 hinfo (by decide) v2 [a, b, x0, x1] x2 rfl rfl HO2.out HB2.out HB2.out.size (by simp) ?_; intro v3 w3 ho hb hgr hat; have HO3 := Aside0.mk ho; have HB3 := Aside0.mk hb; clear ho hb hgr hat HO2 HB2)
  rw [rounds_succ]
  go_wp2_with (at_builtin; refine print_append_num (w0 := w) w.heap.size rfl (.tmp 24) (.tmp 29) 23 5 .u8 1 rfl Tryd.underlying23 hinfo (by decide) v3 [a, b, x0, x1, x2] x3 rfl rfl HO3.out HB3.out HB3.out.size (by simp) ?_; intro v4 w4 ho hb hgr hat; have HO4 := Aside0.mk ho; have HB4 := Aside0.mk hb; clear ho hb hgr hat HO3 HB3)
  rw [rounds_succ]
  go_wp2_with (at_builtin; refine print_append_num (w0 := w) w.heap.size rfl (.tmp 24) (.tmp 29) 23 5 .u8 1 rfl Tryd.underlying23 hinfo (by decide) v4 [a, b, x0, x1, x2, x3] x4 rfl rfl HO4.out HB4.out HB4.out.size (by simp) ?_; intro v5 w5 ho hb hgr hat; have HO5 := Aside0.mk ho; have HB5 := Aside0.mk hb; clear ho hb hgr hat HO4 HB4)
  rw [rounds_succ]
  go_wp2_with (at_builtin; refine print_append_num (w0 := w) w.heap.size rfl (.tmp 24) (.tmp 29) 23 5 .u8 1 rfl Tryd.underlying23 hinfo (by decide) v5 [a, b, x0, x1, x2, x3, x4] x5 rfl rfl HO5.out HB5.out HB5.out.size (by simp) ?_; intro v6 w6 ho hb hgr hat; have HO6 := Aside0.mk ho; have HB6 := Aside0.mk hb; clear ho hb hgr hat HO5 HB5)
  rw [rounds_succ]
  go_wp2_with (at_builtin; refine print_append_num (w0 := w) w.heap.size rfl (.tmp 24) (.tmp 29) 23 5 .u8 1 rfl Tryd.underlying23 hinfo (by decide) v6 [a, b, x0, x1, x2, x3, x4, x5] x6 rfl rfl HO6.out HB6.out HB6.out.size (by simp) ?_; intro v7 w7 ho hb hgr hat; have HO7 := Aside0.mk ho; have HB7 := Aside0.mk hb; clear ho hb hgr hat HO6 HB6)
  rw [rounds_succ]
  go_wp2_with (at_builtin; refine print_append_num (w0 := w) w.heap.size rfl (.tmp 24) (.tmp 29) 23 5 .u8 1 rfl Tryd.underlying23 hinfo (by decide) v7 [a, b, x0, x1, x2, x3, x4, x5, x6] x7 rfl rfl HO7.out HB7.out HB7.out.size (by simp) ?_; intro v8 w8 ho hb hgr hat; have HO8 := Aside0.mk ho; have HB8 := Aside0.mk hb; clear ho hb hgr hat HO7 HB7)
  have hR8 : Kd.R (Kd.int .u8) 5 w8 w.heap.size (fun _ => True) v8 [a, b, x0, x1, x2, x3, x4, x5, x6, x7] := Kd.R_of_own (enc := Value.int .u8) (h1 := fun _ => rfl) HO8.out (fun _ _ => trivial)
  obtain ⟨g, cap, hv, hge, hgl, _⟩ := Kd.R_form hR8 (by simp)
  have hv : v8 = .slice (some ⟨g, 0, none⟩) 10 cap := hv
  subst hv
  have hcp : 10 ≤ cap := (Kd.R_reads' hR8).2.1
  have hcpi : (10 : Int) ≤ (cap : Int) := by omega
  have hcp2 : (10 : Int) ≤ (cap : Int) := by omega
  have hlc : (l.length : Int) ≤ (cap : Int) := by omega
  have hlcn : l.length ≤ cap := by omega
  have hl0 : (0 : Int) ≤ (l.length : Int) := by omega
  have HR8 := Aside0.mk hR8
  clear hR8 HO8 e0 e1 e2 e3 e4 e5 e6 e7
  rw [rounds_succ]
  go_wp2_with fail
  have HC8 : Aside0 (Kd.C (Kd.int .u8) w8 (some ⟨g, 0, none⟩) l.length l) := ⟨(by have h := Kd.C_take (m := l.length) (Kd.R_reads' HR8.out).2.2 (by simp; omega); rw [← HL.out] at h; exact h)⟩
  clear HR8
  refine (calls_of_args rfl (wsframe_Head.calls (some ⟨g, 0, none⟩) cap l m t sc hc2 (!sh) _ HC8.out hlcn HHD.out (HG.out.below HB8.out))).mono ?_
  rintro e wa ⟨rfl, hb⟩
  have HB9 := Aside0.mk (below_step HB8.out hb)
  have HC9 := Aside0.mk (Kd.C_below HC8.out hb)
  clear hb HB8 HC8
  go_upto_region 10 with fail
  have hB10 : Below w.heap.size w (wa.alloc (.cells #[.int .u8 sc, .int .u32 hc2] 26)) := below_alloc HB9.out _
  have hb10 : (wa.alloc (.cells #[.int .u8 sc, .int .u32 hc2] 26)).heap[wa.heap.size]? = some (.cells #[.int .u8 sc, .int .u32 hc2] 26 (0, 0)) := last_at _ _ _ rfl
  have hC10 := Kd.C_below HC9.out (below_alloc (Below.refl _ _) (.cells #[.int .u8 sc, .int .u32 hc2] 26))
  generalize (wa.alloc (.cells #[.int .u8 sc, .int .u32 hc2] 26)) = w10 at hB10 hb10 hC10 ⊢
  generalize wa.heap.size = gb at hb10 ⊢
  have HB10 := Aside0.mk hB10
  have Hb10 := Aside0.mk hb10
  clear hB10 hb10 HB9 HC9
  have hcv : (convert 23 9 (.slice (some ⟨g, 0, none⟩) l.length cap)).run Tryd.prog w10 = .ok (.string (strOfNums l)) w10 := Kd.C_string (P := Tryd.prog) Tryd.underlying23 Tryd.underlying5 Tryd.underlying9 hC10
  clear hC10
  go_wp2_with fail
  clear hcv
  refine (louverref16_Head.calls 20000 (strOfNums l) m f sz hc sh _ HRH.out).mono ?_
  rintro e w11 ⟨rfl, hb⟩
  have HB11 := Aside0.mk (below_step HB10.out hb)
  have Hb11 := Aside0.mk (blk_below Hb10.out hb)
  clear hb HB10 Hb10
  go_upto_region 11 with fail
  have hB12 : Below w.heap.size w (w11.alloc (.cells #[.int .i64 f, .int .i64 sz, .int .i64 hc, .bool sh] 30)) := below_alloc HB11.out _
  have hb12 : (w11.alloc (.cells #[.int .i64 f, .int .i64 sz, .int .i64 hc, .bool sh] 30)).heap[gb]? = some (.cells #[.int .u8 sc, .int .u32 hc2] 26 (0, 0)) := blk_alloc Hb11.out _
  have hh12 : (w11.alloc (.cells #[.int .i64 f, .int .i64 sz, .int .i64 hc, .bool sh] 30)).heap[w11.heap.size]? = some (.cells #[.int .i64 f, .int .i64 sz, .int .i64 hc, .bool sh] 30 (0, 0)) := last_at _ _ _ rfl
  generalize (w11.alloc (.cells #[.int .i64 f, .int .i64 sz, .int .i64 hc, .bool sh] 30)) = w12 at hB12 hb12 hh12 ⊢
  generalize w11.heap.size = gh at hh12 ⊢
  clear HB11 Hb11
  refine wp_region_noPanic ?_
  refine wp_region_held_drew (S := fun w' => Aside0 (Below w.heap.size w w' ∧ w'.heap[gb]? = some (.cells #[.int .u8 sc, .int .u32 hc2] 26 (0, 0)) ∧ w'.heap[gh]? = some (.cells #[.int .i64 f, .int .i64 sz, .int .i64 hc, .bool sh] 30 (0, 0))) ∧ w'.cell? ⟨gb, 0, none⟩ = some (.int .u8 sc) ∧ w'.cell? ⟨gb, 1, none⟩ = some (.int .u32 hc2) ∧ w'.cell? ⟨gh, 0, none⟩ = some (.int .i64 f) ∧ w'.cell? ⟨gh, 1, none⟩ = some (.int .i64 sz) ∧ w'.cell? ⟨gh, 2, none⟩ = some (.int .i64 hc) ∧ w'.cell? ⟨gh, 3, none⟩ = some (.bool sh)) (by kernel_rfl) (⟨⟨below_step hB12 (below_drew (Below.refl _ _)), blk_drew hb12, blk_drew hh12⟩, (blk_cell (blk_drew hb12) 0).trans rfl, (blk_cell (blk_drew hb12) 1).trans rfl, (blk_cell (blk_drew hh12) 0).trans rfl, (blk_cell (blk_drew hh12) 1).trans rfl, (blk_cell (blk_drew hh12) 2).trans rfl, (blk_cell (blk_drew hh12) 3).trans rfl⟩) (fun hHeld => ?_)
  refine wpAnyH_ready (rs := [0]) (by kernel_rfl) (by simp) ?_
  refine AllReadyH.cons rfl (fun K hK => ?_) AllReadyH.nil
  go_simp
  go_at_call 10
  with_reducible refine (louverlaw16_fixed.calls true _ rfl).mono ?_
  rintro e w' ⟨rfl, hb⟩
  refine hK.out _ _ (⟨⟨below_step hHeld.1.out.1 hb, blk_below hHeld.1.out.2.1 hb, blk_below hHeld.1.out.2.2 hb⟩, (blk_cell (blk_below hHeld.1.out.2.1 hb) 0).trans rfl, (blk_cell (blk_below hHeld.1.out.2.1 hb) 1).trans rfl, (blk_cell (blk_below hHeld.1.out.2.2 hb) 0).trans rfl, (blk_cell (blk_below hHeld.1.out.2.2 hb) 1).trans rfl, (blk_cell (blk_below hHeld.1.out.2.2 hb) 2).trans rfl, (blk_cell (blk_below hHeld.1.out.2.2 hb) 3).trans rfl⟩) (fun hHeld => ?_)
  clear hK K
  try simp only [Act.put, List.setIfInBounds_toArray, List.set_cons_zero, List.set_cons_succ]
  refine takeN (i := 1) (N := (some 58)) (v := ?v24) (a' := ?a24) rfl rfl (by kernel_rfl) (by kernel_rfl) (by kernel_rfl) (fun _ _ _ h => h) (Or.inl ⟨by rfl, ?hy24⟩) ?ha24 (by assumption) ?rest24
  case hy24 =>
    intro w_ hSw_
    go_simp
    first | done | (with_reducible rfl)
  case ha24 =>
    simp only [Act.put, List.setIfInBounds_toArray, List.set_cons_zero, List.set_cons_succ]
    rfl
  refine takeN (i := 2) (N := (some 59)) (v := ?v25) (a' := ?a25) rfl rfl (by kernel_rfl) (by kernel_rfl) (by kernel_rfl) (fun _ _ _ h => h) (Or.inl ⟨by rfl, ?hy25⟩) ?ha25 (by assumption) ?rest25
  case hy25 =>
    intro w_ hSw_
    go_simp
    first | done | (with_reducible rfl)
  case ha25 =>
    simp only [Act.put, List.setIfInBounds_toArray, List.set_cons_zero, List.set_cons_succ]
    rfl
  refine takeN (i := 3) (N := (some 60)) (v := ?v26) (a' := ?a26) rfl rfl (by kernel_rfl) (by kernel_rfl) (by kernel_rfl) (fun _ _ _ h => h) (Or.inl ⟨by rfl, ?hy26⟩) ?ha26 (by assumption) ?rest26
  case hy26 =>
    intro w_ hSw_
    go_simp
    first | done | (with_reducible rfl)
  case ha26 =>
    simp only [Act.put, List.setIfInBounds_toArray, List.set_cons_zero, List.set_cons_succ]
    rfl
  refine takeN (i := 4) (N := (some 61)) (v := ?v27) (a' := ?a27) rfl rfl (by kernel_rfl) (by kernel_rfl) (by kernel_rfl) (fun _ _ _ h => h) (Or.inl ⟨by rfl, ?hy27⟩) ?ha27 (by assumption) ?rest27
  case hy27 =>
    intro w_ hSw_
    go_simp
    first | done | (with_reducible rfl)
  case ha27 =>
    simp only [Act.put, List.setIfInBounds_toArray, List.set_cons_zero, List.set_cons_succ]
    rfl
  refine takeN (i := 5) (N := (some 62)) (v := ?v28) (a' := ?a28) rfl rfl (by kernel_rfl) (by kernel_rfl) (by kernel_rfl) (fun _ _ _ h => h) (Or.inl ⟨by rfl, ?hy28⟩) ?ha28 (by assumption) ?rest28
  case hy28 =>
    intro w_ hSw_
    go_simp
    first | done | (with_reducible rfl)
  case ha28 =>
    simp only [Act.put, List.setIfInBounds_toArray, List.set_cons_zero, List.set_cons_succ]
    rfl
  refine takeN (i := 6) (N := (some 63)) (v := ?v29) (a' := ?a29) rfl rfl (by kernel_rfl) (by kernel_rfl) (by kernel_rfl) (fun _ _ _ h => h) (Or.inl ⟨by rfl, ?hy29⟩) ?ha29 (by assumption) ?rest29
  case hy29 =>
    intro w_ hSw_
    go_simp
    first | done | (with_reducible rfl)
  case ha29 =>
    simp only [Act.put, List.setIfInBounds_toArray, List.set_cons_zero, List.set_cons_succ]
    rfl
  refine takeN (i := 7) (N := (some 64)) (v := ?v30) (a' := ?a30) rfl rfl (by kernel_rfl) (by kernel_rfl) (by kernel_rfl) (fun _ _ _ h => h) (Or.inl ⟨by rfl, ?hy30⟩) ?ha30 (by assumption) ?rest30
  case hy30 =>
    intro w_ hSw_
    go_simp
    first | done | (with_reducible rfl)
  case ha30 =>
    simp only [Act.put, List.setIfInBounds_toArray, List.set_cons_zero, List.set_cons_succ]
    rfl
  refine takeN (i := 8) (N := (some 65)) (v := ?v31) (a' := ?a31) rfl rfl (by kernel_rfl) (by kernel_rfl) (by kernel_rfl) (fun _ _ _ h => h) (Or.inl ⟨by rfl, ?hy31⟩) ?ha31 (by assumption) ?rest31
  case hy31 =>
    intro w_ hSw_
    go_simp
    first | done | (with_reducible rfl)
  case ha31 =>
    simp only [Act.put, List.setIfInBounds_toArray, List.set_cons_zero, List.set_cons_succ]
    rfl
  refine takeN (i := 9) (N := (some 66)) (v := ?v32) (a' := ?a32) rfl rfl (by kernel_rfl) (by kernel_rfl) (by kernel_rfl) (fun _ _ _ h => h) (Or.inl ⟨by rfl, ?hy32⟩) ?ha32 (by assumption) ?rest32
  case hy32 =>
    intro w_ hSw_
    go_simp
    first | done | (with_reducible rfl)
  case ha32 =>
    simp only [Act.put, List.setIfInBounds_toArray, List.set_cons_zero, List.set_cons_succ]
    rfl
  refine takeN (i := 10) (N := (some 67)) (v := ?v33) (a' := ?a33) rfl rfl (by kernel_rfl) (by kernel_rfl) (by kernel_rfl) (fun _ _ _ h => h) (Or.inl ⟨by rfl, ?hy33⟩) ?ha33 (by assumption) ?rest33
  case hy33 =>
    intro w_ hSw_
    go_simp
    first | done | (with_reducible rfl)
  case ha33 =>
    simp only [Act.put, List.setIfInBounds_toArray, List.set_cons_zero, List.set_cons_succ]
    rfl
  refine takeN (i := 11) (N := (some 68)) (v := ?v34) (a' := ?a34) rfl rfl (by kernel_rfl) (by kernel_rfl) (by kernel_rfl) (fun _ _ _ h => h) (Or.inl ⟨by rfl, ?hy34⟩) ?ha34 (by assumption) ?rest34
  case hy34 =>
    intro w_ hSw_
    go_simp
    first | done | (with_reducible rfl)
  case ha34 =>
    simp only [Act.put, List.setIfInBounds_toArray, List.set_cons_zero, List.set_cons_succ]
    rfl
  refine wpAnyH_ready (rs := [12]) (by kernel_rfl) (by simp) ?_
  refine AllReadyH.cons rfl (fun K hK => ?_) AllReadyH.nil
  go_simp
  go_at_call 11
  with_reducible refine (louverlaw16_told.calls hc sc hc2 _ HTO.out).mono ?_
  rintro e w' ⟨rfl, hb⟩
  refine hK.out _ _ (⟨⟨below_step hHeld.1.out.1 hb, blk_below hHeld.1.out.2.1 hb, blk_below hHeld.1.out.2.2 hb⟩, (blk_cell (blk_below hHeld.1.out.2.1 hb) 0).trans rfl, (blk_cell (blk_below hHeld.1.out.2.1 hb) 1).trans rfl, (blk_cell (blk_below hHeld.1.out.2.2 hb) 0).trans rfl, (blk_cell (blk_below hHeld.1.out.2.2 hb) 1).trans rfl, (blk_cell (blk_below hHeld.1.out.2.2 hb) 2).trans rfl, (blk_cell (blk_below hHeld.1.out.2.2 hb) 3).trans rfl⟩) (fun hHeld => ?_)
  clear hK K
  try simp only [Act.put, List.setIfInBounds_toArray, List.set_cons_zero, List.set_cons_succ]
  refine takeN (i := 13) (N := (some 70)) (v := ?v35) (a' := ?a35) rfl rfl (by kernel_rfl) (by kernel_rfl) (by kernel_rfl) (fun _ _ _ h => h) (Or.inl ⟨by rfl, ?hy35⟩) ?ha35 (by assumption) ?rest35
  case hy35 =>
    intro w_ hSw_
    go_simp
    first | done | (with_reducible rfl)
  case ha35 =>
    simp only [Act.put, List.setIfInBounds_toArray, List.set_cons_zero, List.set_cons_succ]
    rfl
  refine takeN (i := 14) (N := (some 71)) (v := ?v36) (a' := ?a36) rfl rfl (by kernel_rfl) (by kernel_rfl) (by kernel_rfl) (fun _ _ _ h => h) (Or.inl ⟨by rfl, ?hy36⟩) ?ha36 (by assumption) ?rest36
  case hy36 =>
    intro w_ hSw_
    go_simp
    first | done | (with_reducible rfl)
  case ha36 =>
    simp only [Act.put, List.setIfInBounds_toArray, List.set_cons_zero, List.set_cons_succ]
    rfl
  refine takeN (i := 15) (N := (some 72)) (v := ?v37) (a' := ?a37) rfl rfl (by kernel_rfl) (by kernel_rfl) (by kernel_rfl) (fun _ _ _ h => h) (Or.inl ⟨by rfl, ?hy37⟩) ?ha37 (by assumption) ?rest37
  case hy37 =>
    intro w_ hSw_
    go_simp
    first | done | (with_reducible rfl)
  case ha37 =>
    simp only [Act.put, List.setIfInBounds_toArray, List.set_cons_zero, List.set_cons_succ]
    rfl
  refine takeN (i := 16) (N := (some 73)) (v := ?v38) (a' := ?a38) rfl rfl (by kernel_rfl) (by kernel_rfl) (by kernel_rfl) (fun _ _ _ h => h) (Or.inl ⟨by rfl, ?hy38⟩) ?ha38 (by assumption) ?rest38
  case hy38 =>
    intro w_ hSw_
    go_simp
    first | done | (with_reducible rfl)
  case ha38 =>
    simp only [Act.put, List.setIfInBounds_toArray, List.set_cons_zero, List.set_cons_succ]
    rfl
  refine takeN (i := 17) (N := (some 74)) (v := ?v39) (a' := ?a39) rfl rfl (by kernel_rfl) (by kernel_rfl) (by kernel_rfl) (fun _ _ _ h => h) (Or.inl ⟨by rfl, ?hy39⟩) ?ha39 (by assumption) ?rest39
  case hy39 =>
    intro w_ hSw_
    go_simp
    first | done | (with_reducible rfl)
  case ha39 =>
    simp only [Act.put, List.setIfInBounds_toArray, List.set_cons_zero, List.set_cons_succ]
    rfl
  refine takeN (i := 18) (N := (some 75)) (v := ?v40) (a' := ?a40) rfl rfl (by kernel_rfl) (by kernel_rfl) (by kernel_rfl) (fun _ _ _ h => h) (Or.inl ⟨by rfl, ?hy40⟩) ?ha40 (by assumption) ?rest40
  case hy40 =>
    intro w_ hSw_
    go_simp
    first | done | (with_reducible rfl)
  case ha40 =>
    simp only [Act.put, List.setIfInBounds_toArray, List.set_cons_zero, List.set_cons_succ]
    rfl
  refine takeN (i := 19) (N := (some 76)) (v := ?v41) (a' := ?a41) rfl rfl (by kernel_rfl) (by kernel_rfl) (by kernel_rfl) (fun _ _ _ h => h) (Or.inl ⟨by rfl, ?hy41⟩) ?ha41 (by assumption) ?rest41
  case hy41 =>
    intro w_ hSw_
    go_simp
    first | done | (with_reducible rfl)
  case ha41 =>
    simp only [Act.put, List.setIfInBounds_toArray, List.set_cons_zero, List.set_cons_succ]
    rfl
  refine takeN (i := 20) (N := (some 77)) (v := ?v42) (a' := ?a42) rfl rfl (by kernel_rfl) (by kernel_rfl) (by kernel_rfl) (fun _ _ _ h => h) (Or.inl ⟨by rfl, ?hy42⟩) ?ha42 (by assumption) ?rest42
  case hy42 =>
    intro w_ hSw_
    go_simp
    first | done | (with_reducible rfl)
  case ha42 =>
    simp only [Act.put, List.setIfInBounds_toArray, List.set_cons_zero, List.set_cons_succ]
    rfl
  refine takeN (i := 21) (N := (some 78)) (v := ?v43) (a' := ?a43) rfl rfl (by kernel_rfl) (by kernel_rfl) (by kernel_rfl) (fun _ _ _ h => h) (Or.inl ⟨by rfl, ?hy43⟩) ?ha43 (by assumption) ?rest43
  case hy43 =>
    intro w_ hSw_
    go_simp
    first | done | (with_reducible rfl)
  case ha43 =>
    simp only [Act.put, List.setIfInBounds_toArray, List.set_cons_zero, List.set_cons_succ]
    rfl
  refine takeN (i := 22) (N := (some 79)) (v := ?v44) (a' := ?a44) rfl rfl (by kernel_rfl) (by kernel_rfl) (by kernel_rfl) (fun _ _ _ h => h) (Or.inl ⟨by rfl, ?hy44⟩) ?ha44 (by assumption) ?rest44
  case hy44 =>
    intro w_ hSw_
    go_simp
    first | done | (with_reducible rfl)
  case ha44 =>
    simp only [Act.put, List.setIfInBounds_toArray, List.set_cons_zero, List.set_cons_succ]
    rfl
  refine takeN (i := 23) (N := (some 80)) (v := ?v45) (a' := ?a45) rfl rfl (by kernel_rfl) (by kernel_rfl) (by kernel_rfl) (fun _ _ _ h => h) (Or.inl ⟨by rfl, ?hy45⟩) ?ha45 (by assumption) ?rest45
  case hy45 =>
    intro w_ hSw_
    go_simp
    first | done | (with_reducible rfl)
  case ha45 =>
    simp only [Act.put, List.setIfInBounds_toArray, List.set_cons_zero, List.set_cons_succ]
    rfl
  refine takeN (i := 24) (N := (some 10)) (v := ?v46) (a' := ?a46) rfl rfl (by kernel_rfl) (by kernel_rfl) (by kernel_rfl) (fun _ _ _ h => h) (Or.inl ⟨by rfl, ?hy46⟩) ?ha46 (by assumption) ?rest46
  case hy46 =>
    intro w_ hSw_
    go_simp
    first | done | (with_reducible rfl)
  case ha46 =>
    simp only [Act.put, List.setIfInBounds_toArray, List.set_cons_zero, List.set_cons_succ]
    rfl
  refine wpAnyH_done (by kernel_rfl) ?_ _
  refine NoPanic.normal ?_
  have HBf := Aside0.mk hHeld.1.out.1
  clear hHeld
  go_wp2_with fail
  go_ret
  exact ⟨rfl, HBf.out⟩
set_option maxHeartbeats 8000000 in
set_option maxRecDepth 100000 in
theorem LawHead_two_all (a b n : Int) (x0 x1 x2 x3 x4 x5 x6 x7 : Int) (cut : Int) (hcut : ¬ cut < 4) (m : Bool) (w : World) (hg : Cond w) (e0 : IntKind.u8.wrap (n / 72057594037927936) = x0) (e1 : IntKind.u8.wrap (n / 281474976710656) = x1) (e2 : IntKind.u8.wrap (n / 1099511627776) = x2) (e3 : IntKind.u8.wrap (n / 4294967296) = x3) (e4 : IntKind.u8.wrap (n / 16777216) = x4) (e5 : IntKind.u8.wrap (n / 65536) = x5) (e6 : IntKind.u8.wrap (n / 256) = x6) (e7 : n % 256 = x7) (tb : (Int.tmod b 128 == 126) = true) (cw : IntKind.i64.wrap cut = cut) (f sz hc sc hc2 t : Int) (sh : Bool) (HHD : Aside0 (wsframe_Head.f [a, b, x6, x7] m = some (t, sc, hc2, !sh))) (HRH : Aside0 (louverref16_Head.f 20000 (strOfNums [a, b, x6, x7]) m = some (f, sz, hc, sh))) (HTO : Aside0 (louverlaw16_told.f hc = some (sc, hc2))) (hs : IntKind.i64.wrap (f + sz) = t) : Calls Tryd.prog 3 #[.int .u8 a, .int .u8 b, .int .u64 n, .int .u8 cut, .bool m] w fun e w' => e = .returned (.bool true) ∧ Below w.heap.size w w' := by
  have HG := Aside0.mk hg
  clear hg
  have hu26 := Tryd.underlying26
  have hu30 := Tryd.underlying30
  have hinfo : (Tryd.prog.info? 5).map (fun i => (i.zero, i.size, i.bytes)) = some (some (.int .u8 0), 1, 1) := by kernel_rfl
  have HO0 : Aside0 ((w.alloc (.cells #[.int .u8 a, .int .u8 b] 5)).ownsRow w.heap.size 5 1 (.slice (some ⟨w.heap.size, 0, none⟩) 2 2) 2 (nums .u8 [a, b])) := ⟨own_lit w w.heap.size 5 .u8 [a, b] (Nat.le_refl _) (by simp)⟩
  have HB0 : Aside0 (Below w.heap.size w (w.alloc (.cells #[.int .u8 a, .int .u8 b] 5))) := ⟨below_alloc (Below.refl _ _) _⟩
  go_enter Tryd.func3, Tryd.ntmps3
  go_wp2_with fail
  generalize w.alloc (.cells #[.int .u8 a, .int .u8 b] 5) = W0 at HO0 HB0 ⊢
  refine wp_loop_rounds 9 ?_
  rw [rounds_succ]
  go_wp2_with (at_builtin; refine print_append_num (w0 := w) w.heap.size rfl (.tmp 24) (.tmp 29) 23 5 .u8 1 rfl Tryd.underlying23 hinfo (by decide) (.slice (some ⟨w.heap.size, 0, none⟩) 2 2) [a, b] x0 rfl rfl HO0.out HB0.out HB0.out.size (by simp) ?_; intro v1 w1 ho hb hgr hat; have HO1 := Aside0.mk ho; have HB1 := Aside0.mk hb; clear ho hb hgr hat HO0 HB0)
  rw [rounds_succ]
  go_wp2_with (at_builtin; refine print_append_num (w0 := w) w.heap.size rfl (.tmp 24) (.tmp 29) 23 5 .u8 1 rfl Tryd.underlying23 hinfo (by decide) v1 [a, b, x0] x1 rfl rfl HO1.out HB1.out HB1.out.size (by simp) ?_; intro v2 w2 ho hb hgr hat; have HO2 := Aside0.mk ho; have HB2 := Aside0.mk hb; clear ho hb hgr hat HO1 HB1)
  rw [rounds_succ]
  go_wp2_with (at_builtin; refine print_append_num (w0 := w) w.heap.size rfl (.tmp 24) (.tmp 29) 23 5 .u8 1 rfl Tryd.underlying23 hinfo (by decide) v2 [a, b, x0, x1] x2 rfl rfl HO2.out HB2.out HB2.out.size (by simp) ?_; intro v3 w3 ho hb hgr hat; have HO3 := Aside0.mk ho; have HB3 := Aside0.mk hb; clear ho hb hgr hat HO2 HB2)
  rw [rounds_succ]
  go_wp2_with (at_builtin; refine print_append_num (w0 := w) w.heap.size rfl (.tmp 24) (.tmp 29) 23 5 .u8 1 rfl Tryd.underlying23 hinfo (by decide) v3 [a, b, x0, x1, x2] x3 rfl rfl HO3.out HB3.out HB3.out.size (by simp) ?_; intro v4 w4 ho hb hgr hat; have HO4 := Aside0.mk ho; have HB4 := Aside0.mk hb; clear ho hb hgr hat HO3 HB3)
  rw [rounds_succ]
  go_wp2_with (at_builtin; refine print_append_num (w0 := w) w.heap.size rfl (.tmp 24) (.tmp 29) 23 5 .u8 1 rfl Tryd.underlying23 hinfo (by decide) v4 [a, b, x0, x1, x2, x3] x4 rfl rfl HO4.out HB4.out HB4.out.size (by simp) ?_; intro v5 w5 ho hb hgr hat; have HO5 := Aside0.mk ho; have HB5 := Aside0.mk hb; clear ho hb hgr hat HO4 HB4)
  rw [rounds_succ]
  go_wp2_with (at_builtin; refine print_append_num (w0 := w) w.heap.size rfl (.tmp 24) (.tmp 29) 23 5 .u8 1 rfl Tryd.underlying23 hinfo (by decide) v5 [a, b, x0, x1, x2, x3, x4] x5 rfl rfl HO5.out HB5.out HB5.out.size (by simp) ?_; intro v6 w6 ho hb hgr hat; have HO6 := Aside0.mk ho; have HB6 := Aside0.mk hb; clear ho hb hgr hat HO5 HB5)
  rw [rounds_succ]
  go_wp2_with (at_builtin; refine print_append_num (w0 := w) w.heap.size rfl (.tmp 24) (.tmp 29) 23 5 .u8 1 rfl Tryd.underlying23 hinfo (by decide) v6 [a, b, x0, x1, x2, x3, x4, x5] x6 rfl rfl HO6.out HB6.out HB6.out.size (by simp) ?_; intro v7 w7 ho hb hgr hat; have HO7 := Aside0.mk ho; have HB7 := Aside0.mk hb; clear ho hb hgr hat HO6 HB6)
  rw [rounds_succ]
  go_wp2_with (at_builtin; refine print_append_num (w0 := w) w.heap.size rfl (.tmp 24) (.tmp 29) 23 5 .u8 1 rfl Tryd.underlying23 hinfo (by decide) v7 [a, b, x0, x1, x2, x3, x4, x5, x6] x7 rfl rfl HO7.out HB7.out HB7.out.size (by simp) ?_; intro v8 w8 ho hb hgr hat; have HO8 := Aside0.mk ho; have HB8 := Aside0.mk hb; clear ho hb hgr hat HO7 HB7)
  have hR8 : Kd.R (Kd.int .u8) 5 w8 w.heap.size (fun _ => True) v8 [a, b, x0, x1, x2, x3, x4, x5, x6, x7] := Kd.R_of_own (enc := Value.int .u8) (h1 := fun _ => rfl) HO8.out (fun _ _ => trivial)
  obtain ⟨g, cap, hv, hge, hgl, _⟩ := Kd.R_form hR8 (by simp)
  have hv : v8 = .slice (some ⟨g, 0, none⟩) 10 cap := hv
  subst hv
  have hcp : 10 ≤ cap := (Kd.R_reads' hR8).2.1
  have hcpi : (10 : Int) ≤ (cap : Int) := by omega
  have hcp2 : (4 : Int) ≤ (cap : Int) := by omega
  have HR8 := Aside0.mk hR8
  clear hR8 HO8 e0 e1 e2 e3 e4 e5 e6 e7
  rw [rounds_succ]
  have c2 := (Kd.R_cell (0 : Int) HR8.out 2 (by decide) (by simp)).1
  have f2 := (Kd.R_cell (0 : Int) HR8.out 2 (by decide) (by simp)).2
  replace c2 : w8.cell? ⟨g, 2, none⟩ = some (.int .u8 x0) := c2
  replace f2 : w8.frozen? ⟨g, 2, none⟩ = false := f2
  have c3 := (Kd.R_cell (0 : Int) HR8.out 3 (by decide) (by simp)).1
  have f3 := (Kd.R_cell (0 : Int) HR8.out 3 (by decide) (by simp)).2
  replace c3 : w8.cell? ⟨g, 3, none⟩ = some (.int .u8 x1) := c3
  replace f3 : w8.frozen? ⟨g, 3, none⟩ = false := f3
  have c8 := (Kd.R_cell (0 : Int) HR8.out 8 (by decide) (by simp)).1
  have f8 := (Kd.R_cell (0 : Int) HR8.out 8 (by decide) (by simp)).2
  replace c8 : w8.cell? ⟨g, 8, none⟩ = some (.int .u8 x6) := c8
  replace f8 : w8.frozen? ⟨g, 8, none⟩ = false := f8
  have c9 := (Kd.R_cell (0 : Int) HR8.out 9 (by decide) (by simp)).1
  have f9 := (Kd.R_cell (0 : Int) HR8.out 9 (by decide) (by simp)).2
  replace c9 : w8.cell? ⟨g, 9, none⟩ = some (.int .u8 x7) := c9
  replace f9 : w8.frozen? ⟨g, 9, none⟩ = false := f9
  have n8 : ¬ cap = 8 := by omega
  have n8b : (cap == 8) = false := by simpa using n8
  have p2c : (2 : Int) ≤ (cap : Int) := by omega
  have p4c : 4 ≤ cap := by omega
  go_wp2_with fail
  go_region
  obtain ⟨hs1, hw1⟩ := own_store (Kd.own_of_R HR8.out) 2 x6
  obtain ⟨hs2, hw2⟩ := own_store hs1 3 x7
  have hs4 : ((w8.setCell ⟨g, 2, none⟩ (.int .u8 x6)).setCell ⟨g, 3, none⟩ (.int .u8 x7)).drew.ownsRow w.heap.size 5 1 (.slice (some ⟨g, 0, none⟩) 4 cap) 4 (nums .u8 [a, b, x6, x7]) := own_take (m := 4) hs2 (by simp)
  have hB9 : Below w.heap.size w ((w8.setCell ⟨g, 2, none⟩ (.int .u8 x6)).setCell ⟨g, 3, none⟩ (.int .u8 x7)).drew := below_drew (Below.setCell (Below.setCell HB8.out hge _) hge _)
  generalize ((w8.setCell ⟨g, 2, none⟩ (.int .u8 x6)).setCell ⟨g, 3, none⟩ (.int .u8 x7)).drew = w9 at hs4 hB9 ⊢
  have HB8' := Aside0.mk hB9
  have HR9 : Aside0 (Kd.R (Kd.int .u8) 5 w9 w.heap.size (fun _ => True) (.slice (some ⟨g, 0, none⟩) 4 cap) [a, b, x6, x7]) := ⟨Kd.R_of_own (enc := Value.int .u8) (h1 := fun _ => rfl) hs4 (fun _ _ => trivial)⟩
  clear hs1 hw1 hs2 hw2 hs4 hB9 HR8 HB8 c2 c3 c8 c9 f2 f3 f8 f9
  go_wp2_with fail
  have HC8 : Aside0 (Kd.C (Kd.int .u8) w9 (some ⟨g, 0, none⟩) [a, b, x6, x7].length [a, b, x6, x7]) := ⟨(Kd.R_reads' HR9.out).2.2⟩
  clear HR9
  refine (calls_of_args rfl (wsframe_Head.calls (some ⟨g, 0, none⟩) cap [a, b, x6, x7] m t sc hc2 (!sh) _ HC8.out (by simp; omega) HHD.out (HG.out.below HB8'.out))).mono ?_
  rintro e wa ⟨rfl, hb⟩
  have HB9 := Aside0.mk (below_step HB8'.out hb)
  have HC9 := Aside0.mk (Kd.C_below HC8.out hb)
  clear hb HB8' HC8
  go_upto_region 10 with fail
  have hB10 : Below w.heap.size w (wa.alloc (.cells #[.int .u8 sc, .int .u32 hc2] 26)) := below_alloc HB9.out _
  have hb10 : (wa.alloc (.cells #[.int .u8 sc, .int .u32 hc2] 26)).heap[wa.heap.size]? = some (.cells #[.int .u8 sc, .int .u32 hc2] 26 (0, 0)) := last_at _ _ _ rfl
  have hC10 := Kd.C_below HC9.out (below_alloc (Below.refl _ _) (.cells #[.int .u8 sc, .int .u32 hc2] 26))
  generalize (wa.alloc (.cells #[.int .u8 sc, .int .u32 hc2] 26)) = w10 at hB10 hb10 hC10 ⊢
  generalize wa.heap.size = gb at hb10 ⊢
  have HB10 := Aside0.mk hB10
  have Hb10 := Aside0.mk hb10
  clear hB10 hb10 HB9 HC9
  have hcv : (convert 23 9 (.slice (some ⟨g, 0, none⟩) 4 cap)).run Tryd.prog w10 = .ok (.string (strOfNums [a, b, x6, x7])) w10 := Kd.C_string (P := Tryd.prog) Tryd.underlying23 Tryd.underlying5 Tryd.underlying9 hC10
  clear hC10
  go_wp2_with fail
  clear hcv
  refine (louverref16_Head.calls 20000 (strOfNums [a, b, x6, x7]) m f sz hc sh _ HRH.out).mono ?_
  rintro e w11 ⟨rfl, hb⟩
  have HB11 := Aside0.mk (below_step HB10.out hb)
  have Hb11 := Aside0.mk (blk_below Hb10.out hb)
  clear hb HB10 Hb10
  go_upto_region 11 with fail
  have hB12 : Below w.heap.size w (w11.alloc (.cells #[.int .i64 f, .int .i64 sz, .int .i64 hc, .bool sh] 30)) := below_alloc HB11.out _
  have hb12 : (w11.alloc (.cells #[.int .i64 f, .int .i64 sz, .int .i64 hc, .bool sh] 30)).heap[gb]? = some (.cells #[.int .u8 sc, .int .u32 hc2] 26 (0, 0)) := blk_alloc Hb11.out _
  have hh12 : (w11.alloc (.cells #[.int .i64 f, .int .i64 sz, .int .i64 hc, .bool sh] 30)).heap[w11.heap.size]? = some (.cells #[.int .i64 f, .int .i64 sz, .int .i64 hc, .bool sh] 30 (0, 0)) := last_at _ _ _ rfl
  generalize (w11.alloc (.cells #[.int .i64 f, .int .i64 sz, .int .i64 hc, .bool sh] 30)) = w12 at hB12 hb12 hh12 ⊢
  generalize w11.heap.size = gh at hh12 ⊢
  clear HB11 Hb11
  refine wp_region_noPanic ?_
  refine wp_region_held_drew (S := fun w' => Aside0 (Below w.heap.size w w' ∧ w'.heap[gb]? = some (.cells #[.int .u8 sc, .int .u32 hc2] 26 (0, 0)) ∧ w'.heap[gh]? = some (.cells #[.int .i64 f, .int .i64 sz, .int .i64 hc, .bool sh] 30 (0, 0))) ∧ w'.cell? ⟨gb, 0, none⟩ = some (.int .u8 sc) ∧ w'.cell? ⟨gb, 1, none⟩ = some (.int .u32 hc2) ∧ w'.cell? ⟨gh, 0, none⟩ = some (.int .i64 f) ∧ w'.cell? ⟨gh, 1, none⟩ = some (.int .i64 sz) ∧ w'.cell? ⟨gh, 2, none⟩ = some (.int .i64 hc) ∧ w'.cell? ⟨gh, 3, none⟩ = some (.bool sh)) (by kernel_rfl) (⟨⟨below_step hB12 (below_drew (Below.refl _ _)), blk_drew hb12, blk_drew hh12⟩, (blk_cell (blk_drew hb12) 0).trans rfl, (blk_cell (blk_drew hb12) 1).trans rfl, (blk_cell (blk_drew hh12) 0).trans rfl, (blk_cell (blk_drew hh12) 1).trans rfl, (blk_cell (blk_drew hh12) 2).trans rfl, (blk_cell (blk_drew hh12) 3).trans rfl⟩) (fun hHeld => ?_)
  refine wpAnyH_ready (rs := [0]) (by kernel_rfl) (by simp) ?_
  refine AllReadyH.cons rfl (fun K hK => ?_) AllReadyH.nil
  go_simp
  go_at_call 10
  with_reducible refine (louverlaw16_fixed.calls true _ rfl).mono ?_
  rintro e w' ⟨rfl, hb⟩
  refine hK.out _ _ (⟨⟨below_step hHeld.1.out.1 hb, blk_below hHeld.1.out.2.1 hb, blk_below hHeld.1.out.2.2 hb⟩, (blk_cell (blk_below hHeld.1.out.2.1 hb) 0).trans rfl, (blk_cell (blk_below hHeld.1.out.2.1 hb) 1).trans rfl, (blk_cell (blk_below hHeld.1.out.2.2 hb) 0).trans rfl, (blk_cell (blk_below hHeld.1.out.2.2 hb) 1).trans rfl, (blk_cell (blk_below hHeld.1.out.2.2 hb) 2).trans rfl, (blk_cell (blk_below hHeld.1.out.2.2 hb) 3).trans rfl⟩) (fun hHeld => ?_)
  clear hK K
  try simp only [Act.put, List.setIfInBounds_toArray, List.set_cons_zero, List.set_cons_succ]
  refine takeN (i := 1) (N := (some 58)) (v := ?v47) (a' := ?a47) rfl rfl (by kernel_rfl) (by kernel_rfl) (by kernel_rfl) (fun _ _ _ h => h) (Or.inl ⟨by rfl, ?hy47⟩) ?ha47 (by assumption) ?rest47
  case hy47 =>
    intro w_ hSw_
    go_simp
    first | done | (with_reducible rfl)
  case ha47 =>
    simp only [Act.put, List.setIfInBounds_toArray, List.set_cons_zero, List.set_cons_succ]
    rfl
  refine takeN (i := 2) (N := (some 59)) (v := ?v48) (a' := ?a48) rfl rfl (by kernel_rfl) (by kernel_rfl) (by kernel_rfl) (fun _ _ _ h => h) (Or.inl ⟨by rfl, ?hy48⟩) ?ha48 (by assumption) ?rest48
  case hy48 =>
    intro w_ hSw_
    go_simp
    first | done | (with_reducible rfl)
  case ha48 =>
    simp only [Act.put, List.setIfInBounds_toArray, List.set_cons_zero, List.set_cons_succ]
    rfl
  refine takeN (i := 3) (N := (some 60)) (v := ?v49) (a' := ?a49) rfl rfl (by kernel_rfl) (by kernel_rfl) (by kernel_rfl) (fun _ _ _ h => h) (Or.inl ⟨by rfl, ?hy49⟩) ?ha49 (by assumption) ?rest49
  case hy49 =>
    intro w_ hSw_
    go_simp
    first | done | (with_reducible rfl)
  case ha49 =>
    simp only [Act.put, List.setIfInBounds_toArray, List.set_cons_zero, List.set_cons_succ]
    rfl
  refine takeN (i := 4) (N := (some 61)) (v := ?v50) (a' := ?a50) rfl rfl (by kernel_rfl) (by kernel_rfl) (by kernel_rfl) (fun _ _ _ h => h) (Or.inl ⟨by rfl, ?hy50⟩) ?ha50 (by assumption) ?rest50
  case hy50 =>
    intro w_ hSw_
    go_simp
    first | done | (with_reducible rfl)
  case ha50 =>
    simp only [Act.put, List.setIfInBounds_toArray, List.set_cons_zero, List.set_cons_succ]
    rfl
  refine takeN (i := 5) (N := (some 62)) (v := ?v51) (a' := ?a51) rfl rfl (by kernel_rfl) (by kernel_rfl) (by kernel_rfl) (fun _ _ _ h => h) (Or.inl ⟨by rfl, ?hy51⟩) ?ha51 (by assumption) ?rest51
  case hy51 =>
    intro w_ hSw_
    go_simp
    first | done | (with_reducible rfl)
  case ha51 =>
    simp only [Act.put, List.setIfInBounds_toArray, List.set_cons_zero, List.set_cons_succ]
    rfl
  refine takeN (i := 6) (N := (some 63)) (v := ?v52) (a' := ?a52) rfl rfl (by kernel_rfl) (by kernel_rfl) (by kernel_rfl) (fun _ _ _ h => h) (Or.inl ⟨by rfl, ?hy52⟩) ?ha52 (by assumption) ?rest52
  case hy52 =>
    intro w_ hSw_
    go_simp
    first | done | (with_reducible rfl)
  case ha52 =>
    simp only [Act.put, List.setIfInBounds_toArray, List.set_cons_zero, List.set_cons_succ]
    rfl
  refine takeN (i := 7) (N := (some 64)) (v := ?v53) (a' := ?a53) rfl rfl (by kernel_rfl) (by kernel_rfl) (by kernel_rfl) (fun _ _ _ h => h) (Or.inl ⟨by rfl, ?hy53⟩) ?ha53 (by assumption) ?rest53
  case hy53 =>
    intro w_ hSw_
    go_simp
    first | done | (with_reducible rfl)
  case ha53 =>
    simp only [Act.put, List.setIfInBounds_toArray, List.set_cons_zero, List.set_cons_succ]
    rfl
  refine takeN (i := 8) (N := (some 65)) (v := ?v54) (a' := ?a54) rfl rfl (by kernel_rfl) (by kernel_rfl) (by kernel_rfl) (fun _ _ _ h => h) (Or.inl ⟨by rfl, ?hy54⟩) ?ha54 (by assumption) ?rest54
  case hy54 =>
    intro w_ hSw_
    go_simp
    first | done | (with_reducible rfl)
  case ha54 =>
    simp only [Act.put, List.setIfInBounds_toArray, List.set_cons_zero, List.set_cons_succ]
    rfl
  refine takeN (i := 9) (N := (some 66)) (v := ?v55) (a' := ?a55) rfl rfl (by kernel_rfl) (by kernel_rfl) (by kernel_rfl) (fun _ _ _ h => h) (Or.inl ⟨by rfl, ?hy55⟩) ?ha55 (by assumption) ?rest55
  case hy55 =>
    intro w_ hSw_
    go_simp
    first | done | (with_reducible rfl)
  case ha55 =>
    simp only [Act.put, List.setIfInBounds_toArray, List.set_cons_zero, List.set_cons_succ]
    rfl
  refine takeN (i := 10) (N := (some 67)) (v := ?v56) (a' := ?a56) rfl rfl (by kernel_rfl) (by kernel_rfl) (by kernel_rfl) (fun _ _ _ h => h) (Or.inl ⟨by rfl, ?hy56⟩) ?ha56 (by assumption) ?rest56
  case hy56 =>
    intro w_ hSw_
    go_simp
    first | done | (with_reducible rfl)
  case ha56 =>
    simp only [Act.put, List.setIfInBounds_toArray, List.set_cons_zero, List.set_cons_succ]
    rfl
  refine takeN (i := 11) (N := (some 68)) (v := ?v57) (a' := ?a57) rfl rfl (by kernel_rfl) (by kernel_rfl) (by kernel_rfl) (fun _ _ _ h => h) (Or.inl ⟨by rfl, ?hy57⟩) ?ha57 (by assumption) ?rest57
  case hy57 =>
    intro w_ hSw_
    go_simp
    first | done | (with_reducible rfl)
  case ha57 =>
    simp only [Act.put, List.setIfInBounds_toArray, List.set_cons_zero, List.set_cons_succ]
    rfl
  refine wpAnyH_ready (rs := [12]) (by kernel_rfl) (by simp) ?_
  refine AllReadyH.cons rfl (fun K hK => ?_) AllReadyH.nil
  go_simp
  go_at_call 11
  with_reducible refine (louverlaw16_told.calls hc sc hc2 _ HTO.out).mono ?_
  rintro e w' ⟨rfl, hb⟩
  refine hK.out _ _ (⟨⟨below_step hHeld.1.out.1 hb, blk_below hHeld.1.out.2.1 hb, blk_below hHeld.1.out.2.2 hb⟩, (blk_cell (blk_below hHeld.1.out.2.1 hb) 0).trans rfl, (blk_cell (blk_below hHeld.1.out.2.1 hb) 1).trans rfl, (blk_cell (blk_below hHeld.1.out.2.2 hb) 0).trans rfl, (blk_cell (blk_below hHeld.1.out.2.2 hb) 1).trans rfl, (blk_cell (blk_below hHeld.1.out.2.2 hb) 2).trans rfl, (blk_cell (blk_below hHeld.1.out.2.2 hb) 3).trans rfl⟩) (fun hHeld => ?_)
  clear hK K
  try simp only [Act.put, List.setIfInBounds_toArray, List.set_cons_zero, List.set_cons_succ]
  refine takeN (i := 13) (N := (some 70)) (v := ?v58) (a' := ?a58) rfl rfl (by kernel_rfl) (by kernel_rfl) (by kernel_rfl) (fun _ _ _ h => h) (Or.inl ⟨by rfl, ?hy58⟩) ?ha58 (by assumption) ?rest58
  case hy58 =>
    intro w_ hSw_
    go_simp
    first | done | (with_reducible rfl)
  case ha58 =>
    simp only [Act.put, List.setIfInBounds_toArray, List.set_cons_zero, List.set_cons_succ]
    rfl
  refine takeN (i := 14) (N := (some 71)) (v := ?v59) (a' := ?a59) rfl rfl (by kernel_rfl) (by kernel_rfl) (by kernel_rfl) (fun _ _ _ h => h) (Or.inl ⟨by rfl, ?hy59⟩) ?ha59 (by assumption) ?rest59
  case hy59 =>
    intro w_ hSw_
    go_simp
    first | done | (with_reducible rfl)
  case ha59 =>
    simp only [Act.put, List.setIfInBounds_toArray, List.set_cons_zero, List.set_cons_succ]
    rfl
  refine takeN (i := 15) (N := (some 72)) (v := ?v60) (a' := ?a60) rfl rfl (by kernel_rfl) (by kernel_rfl) (by kernel_rfl) (fun _ _ _ h => h) (Or.inl ⟨by rfl, ?hy60⟩) ?ha60 (by assumption) ?rest60
  case hy60 =>
    intro w_ hSw_
    go_simp
    first | done | (with_reducible rfl)
  case ha60 =>
    simp only [Act.put, List.setIfInBounds_toArray, List.set_cons_zero, List.set_cons_succ]
    rfl
  refine takeN (i := 16) (N := (some 73)) (v := ?v61) (a' := ?a61) rfl rfl (by kernel_rfl) (by kernel_rfl) (by kernel_rfl) (fun _ _ _ h => h) (Or.inl ⟨by rfl, ?hy61⟩) ?ha61 (by assumption) ?rest61
  case hy61 =>
    intro w_ hSw_
    go_simp
    first | done | (with_reducible rfl)
  case ha61 =>
    simp only [Act.put, List.setIfInBounds_toArray, List.set_cons_zero, List.set_cons_succ]
    rfl
  refine takeN (i := 17) (N := (some 74)) (v := ?v62) (a' := ?a62) rfl rfl (by kernel_rfl) (by kernel_rfl) (by kernel_rfl) (fun _ _ _ h => h) (Or.inl ⟨by rfl, ?hy62⟩) ?ha62 (by assumption) ?rest62
  case hy62 =>
    intro w_ hSw_
    go_simp
    first | done | (with_reducible rfl)
  case ha62 =>
    simp only [Act.put, List.setIfInBounds_toArray, List.set_cons_zero, List.set_cons_succ]
    rfl
  refine takeN (i := 18) (N := (some 75)) (v := ?v63) (a' := ?a63) rfl rfl (by kernel_rfl) (by kernel_rfl) (by kernel_rfl) (fun _ _ _ h => h) (Or.inl ⟨by rfl, ?hy63⟩) ?ha63 (by assumption) ?rest63
  case hy63 =>
    intro w_ hSw_
    go_simp
    first | done | (with_reducible rfl)
  case ha63 =>
    simp only [Act.put, List.setIfInBounds_toArray, List.set_cons_zero, List.set_cons_succ]
    rfl
  refine takeN (i := 19) (N := (some 76)) (v := ?v64) (a' := ?a64) rfl rfl (by kernel_rfl) (by kernel_rfl) (by kernel_rfl) (fun _ _ _ h => h) (Or.inl ⟨by rfl, ?hy64⟩) ?ha64 (by assumption) ?rest64
  case hy64 =>
    intro w_ hSw_
    go_simp
    first | done | (with_reducible rfl)
  case ha64 =>
    simp only [Act.put, List.setIfInBounds_toArray, List.set_cons_zero, List.set_cons_succ]
    rfl
  refine takeN (i := 20) (N := (some 77)) (v := ?v65) (a' := ?a65) rfl rfl (by kernel_rfl) (by kernel_rfl) (by kernel_rfl) (fun _ _ _ h => h) (Or.inl ⟨by rfl, ?hy65⟩) ?ha65 (by assumption) ?rest65
  case hy65 =>
    intro w_ hSw_
    go_simp
    first | done | (with_reducible rfl)
  case ha65 =>
    simp only [Act.put, List.setIfInBounds_toArray, List.set_cons_zero, List.set_cons_succ]
    rfl
  refine takeN (i := 21) (N := (some 78)) (v := ?v66) (a' := ?a66) rfl rfl (by kernel_rfl) (by kernel_rfl) (by kernel_rfl) (fun _ _ _ h => h) (Or.inl ⟨by rfl, ?hy66⟩) ?ha66 (by assumption) ?rest66
  case hy66 =>
    intro w_ hSw_
    go_simp
    first | done | (with_reducible rfl)
  case ha66 =>
    simp only [Act.put, List.setIfInBounds_toArray, List.set_cons_zero, List.set_cons_succ]
    rfl
  refine takeN (i := 22) (N := (some 79)) (v := ?v67) (a' := ?a67) rfl rfl (by kernel_rfl) (by kernel_rfl) (by kernel_rfl) (fun _ _ _ h => h) (Or.inl ⟨by rfl, ?hy67⟩) ?ha67 (by assumption) ?rest67
  case hy67 =>
    intro w_ hSw_
    go_simp
    first | done | (with_reducible rfl)
  case ha67 =>
    simp only [Act.put, List.setIfInBounds_toArray, List.set_cons_zero, List.set_cons_succ]
    rfl
  refine takeN (i := 23) (N := (some 80)) (v := ?v68) (a' := ?a68) rfl rfl (by kernel_rfl) (by kernel_rfl) (by kernel_rfl) (fun _ _ _ h => h) (Or.inl ⟨by rfl, ?hy68⟩) ?ha68 (by assumption) ?rest68
  case hy68 =>
    intro w_ hSw_
    go_simp
    first | done | (with_reducible rfl)
  case ha68 =>
    simp only [Act.put, List.setIfInBounds_toArray, List.set_cons_zero, List.set_cons_succ]
    rfl
  refine takeN (i := 24) (N := (some 10)) (v := ?v69) (a' := ?a69) rfl rfl (by kernel_rfl) (by kernel_rfl) (by kernel_rfl) (fun _ _ _ h => h) (Or.inl ⟨by rfl, ?hy69⟩) ?ha69 (by assumption) ?rest69
  case hy69 =>
    intro w_ hSw_
    go_simp
    first | done | (with_reducible rfl)
  case ha69 =>
    simp only [Act.put, List.setIfInBounds_toArray, List.set_cons_zero, List.set_cons_succ]
    rfl
  refine wpAnyH_done (by kernel_rfl) ?_ _
  refine NoPanic.normal ?_
  have HBf := Aside0.mk hHeld.1.out.1
  clear hHeld
  go_wp2_with fail
  go_ret
  exact ⟨rfl, HBf.out⟩
set_option maxHeartbeats 8000000 in
set_option maxRecDepth 100000 in
theorem LawHead_two_cut (a b n : Int) (x0 x1 x2 x3 x4 x5 x6 x7 : Int) (l : List Int) (hl : l = [a, b, x6, x7].take l.length) (hcut : (l.length : Int) < 4) (m : Bool) (w : World) (hg : Cond w) (e0 : IntKind.u8.wrap (n / 72057594037927936) = x0) (e1 : IntKind.u8.wrap (n / 281474976710656) = x1) (e2 : IntKind.u8.wrap (n / 1099511627776) = x2) (e3 : IntKind.u8.wrap (n / 4294967296) = x3) (e4 : IntKind.u8.wrap (n / 16777216) = x4) (e5 : IntKind.u8.wrap (n / 65536) = x5) (e6 : IntKind.u8.wrap (n / 256) = x6) (e7 : n % 256 = x7) (tb : (Int.tmod b 128 == 126) = true) (cw : IntKind.i64.wrap (l.length : Int) = (l.length : Int)) (f sz hc sc hc2 t : Int) (sh : Bool) (HHD : Aside0 (wsframe_Head.f l m = some (t, sc, hc2, !sh))) (HRH : Aside0 (louverref16_Head.f 20000 (strOfNums l) m = some (f, sz, hc, sh))) (HTO : Aside0 (louverlaw16_told.f hc = some (sc, hc2))) (hs : IntKind.i64.wrap (f + sz) = t) : Calls Tryd.prog 3 #[.int .u8 a, .int .u8 b, .int .u64 n, .int .u8 (l.length : Int), .bool m] w fun e w' => e = .returned (.bool true) ∧ Below w.heap.size w w' := by
  have HG := Aside0.mk hg
  clear hg
  have hu26 := Tryd.underlying26
  have hu30 := Tryd.underlying30
  have hinfo : (Tryd.prog.info? 5).map (fun i => (i.zero, i.size, i.bytes)) = some (some (.int .u8 0), 1, 1) := by kernel_rfl
  have HL := Aside0.mk hl
  clear hl
  have hcutn : l.length < 4 := by omega
  have HO0 : Aside0 ((w.alloc (.cells #[.int .u8 a, .int .u8 b] 5)).ownsRow w.heap.size 5 1 (.slice (some ⟨w.heap.size, 0, none⟩) 2 2) 2 (nums .u8 [a, b])) := ⟨own_lit w w.heap.size 5 .u8 [a, b] (Nat.le_refl _) (by simp)⟩
  have HB0 : Aside0 (Below w.heap.size w (w.alloc (.cells #[.int .u8 a, .int .u8 b] 5))) := ⟨below_alloc (Below.refl _ _) _⟩
  go_enter Tryd.func3, Tryd.ntmps3
  go_wp2_with fail
  generalize w.alloc (.cells #[.int .u8 a, .int .u8 b] 5) = W0 at HO0 HB0 ⊢
  refine wp_loop_rounds 9 ?_
  rw [rounds_succ]
  go_wp2_with (at_builtin; refine print_append_num (w0 := w) w.heap.size rfl (.tmp 24) (.tmp 29) 23 5 .u8 1 rfl Tryd.underlying23 hinfo (by decide) (.slice (some ⟨w.heap.size, 0, none⟩) 2 2) [a, b] x0 rfl rfl HO0.out HB0.out HB0.out.size (by simp) ?_; intro v1 w1 ho hb hgr hat; have HO1 := Aside0.mk ho; have HB1 := Aside0.mk hb; clear ho hb hgr hat HO0 HB0)
  rw [rounds_succ]
  go_wp2_with (at_builtin; refine print_append_num (w0 := w) w.heap.size rfl (.tmp 24) (.tmp 29) 23 5 .u8 1 rfl Tryd.underlying23 hinfo (by decide) v1 [a, b, x0] x1 rfl rfl HO1.out HB1.out HB1.out.size (by simp) ?_; intro v2 w2 ho hb hgr hat; have HO2 := Aside0.mk ho; have HB2 := Aside0.mk hb; clear ho hb hgr hat HO1 HB1)
  rw [rounds_succ]
  go_wp2_with (at_builtin; refine print_append_num (w0 := w) w.heap.size rfl (.tmp 24) (.tmp 29) 23 5 .u8 1 rfl Tryd.underlying23 hinfo (by decide) v2 [a, b, x0, x1] x2 rfl rfl HO2.out HB2.out HB2.out.size (by simp) ?_; intro v3 w3 ho hb hgr hat; have HO3 := Aside0.mk ho; have HB3 := Aside0.mk hb; clear ho hb hgr hat HO2 HB2)
  rw [rounds_succ]
  go_wp2_with (at_builtin; refine print_append_num (w0 := w) w.heap.size rfl (.tmp 24) (.tmp 29) 23 5 .u8 1 rfl Tryd.underlying23 hinfo (by decide) v3 [a, b, x0, x1, x2] x3 rfl rfl HO3.out HB3.out HB3.out.size (by simp) ?_; intro v4 w4 ho hb hgr hat; have HO4 := Aside0.mk ho; have HB4 := Aside0.mk hb; clear ho hb hgr hat HO3 HB3)
  rw [rounds_succ]
  go_wp2_with (at_builtin; refine print_append_num (w0 := w) w.heap.size rfl (.tmp 24) (.tmp 29) 23 5 .u8 1 rfl Tryd.underlying23 hinfo (by decide) v4 [a, b, x0, x1, x2, x3] x4 rfl rfl HO4.out HB4.out HB4.out.size (by simp) ?_; intro v5 w5 ho hb hgr hat; have HO5 := Aside0.mk ho; have HB5 := Aside0.mk hb; clear ho hb hgr hat HO4 HB4)
  rw [rounds_succ]
  go_wp2_with (at_builtin; refine print_append_num (w0 := w) w.heap.size rfl (.tmp 24) (.tmp 29) 23 5 .u8 1 rfl Tryd.underlying23 hinfo (by decide) v5 [a, b, x0, x1, x2, x3, x4] x5 rfl rfl HO5.out HB5.out HB5.out.size (by simp) ?_; intro v6 w6 ho hb hgr hat; have HO6 := Aside0.mk ho; have HB6 := Aside0.mk hb; clear ho hb hgr hat HO5 HB5)
  rw [rounds_succ]
  go_wp2_with (at_builtin; refine print_append_num (w0 := w) w.heap.size rfl (.tmp 24) (.tmp 29) 23 5 .u8 1 rfl Tryd.underlying23 hinfo (by decide) v6 [a, b, x0, x1, x2, x3, x4, x5] x6 rfl rfl HO6.out HB6.out HB6.out.size (by simp) ?_; intro v7 w7 ho hb hgr hat; have HO7 := Aside0.mk ho; have HB7 := Aside0.mk hb; clear ho hb hgr hat HO6 HB6)
  rw [rounds_succ]
  go_wp2_with (at_builtin; refine print_append_num (w0 := w) w.heap.size rfl (.tmp 24) (.tmp 29) 23 5 .u8 1 rfl Tryd.underlying23 hinfo (by decide) v7 [a, b, x0, x1, x2, x3, x4, x5, x6] x7 rfl rfl HO7.out HB7.out HB7.out.size (by simp) ?_; intro v8 w8 ho hb hgr hat; have HO8 := Aside0.mk ho; have HB8 := Aside0.mk hb; clear ho hb hgr hat HO7 HB7)
  have hR8 : Kd.R (Kd.int .u8) 5 w8 w.heap.size (fun _ => True) v8 [a, b, x0, x1, x2, x3, x4, x5, x6, x7] := Kd.R_of_own (enc := Value.int .u8) (h1 := fun _ => rfl) HO8.out (fun _ _ => trivial)
  obtain ⟨g, cap, hv, hge, hgl, _⟩ := Kd.R_form hR8 (by simp)
  have hv : v8 = .slice (some ⟨g, 0, none⟩) 10 cap := hv
  subst hv
  have hcp : 10 ≤ cap := (Kd.R_reads' hR8).2.1
  have hcpi : (10 : Int) ≤ (cap : Int) := by omega
  have hcp2 : (4 : Int) ≤ (cap : Int) := by omega
  have hlc : (l.length : Int) ≤ (cap : Int) := by omega
  have hlcn : l.length ≤ cap := by omega
  have hl0 : (0 : Int) ≤ (l.length : Int) := by omega
  have HR8 := Aside0.mk hR8
  clear hR8 HO8 e0 e1 e2 e3 e4 e5 e6 e7
  rw [rounds_succ]
  have c2 := (Kd.R_cell (0 : Int) HR8.out 2 (by decide) (by simp)).1
  have f2 := (Kd.R_cell (0 : Int) HR8.out 2 (by decide) (by simp)).2
  replace c2 : w8.cell? ⟨g, 2, none⟩ = some (.int .u8 x0) := c2
  replace f2 : w8.frozen? ⟨g, 2, none⟩ = false := f2
  have c3 := (Kd.R_cell (0 : Int) HR8.out 3 (by decide) (by simp)).1
  have f3 := (Kd.R_cell (0 : Int) HR8.out 3 (by decide) (by simp)).2
  replace c3 : w8.cell? ⟨g, 3, none⟩ = some (.int .u8 x1) := c3
  replace f3 : w8.frozen? ⟨g, 3, none⟩ = false := f3
  have c8 := (Kd.R_cell (0 : Int) HR8.out 8 (by decide) (by simp)).1
  have f8 := (Kd.R_cell (0 : Int) HR8.out 8 (by decide) (by simp)).2
  replace c8 : w8.cell? ⟨g, 8, none⟩ = some (.int .u8 x6) := c8
  replace f8 : w8.frozen? ⟨g, 8, none⟩ = false := f8
  have c9 := (Kd.R_cell (0 : Int) HR8.out 9 (by decide) (by simp)).1
  have f9 := (Kd.R_cell (0 : Int) HR8.out 9 (by decide) (by simp)).2
  replace c9 : w8.cell? ⟨g, 9, none⟩ = some (.int .u8 x7) := c9
  replace f9 : w8.frozen? ⟨g, 9, none⟩ = false := f9
  have n8 : ¬ cap = 8 := by omega
  have n8b : (cap == 8) = false := by simpa using n8
  have p2c : (2 : Int) ≤ (cap : Int) := by omega
  have p4c : 4 ≤ cap := by omega
  go_wp2_with fail
  go_region
  obtain ⟨hs1, hw1⟩ := own_store (Kd.own_of_R HR8.out) 2 x6
  obtain ⟨hs2, hw2⟩ := own_store hs1 3 x7
  have hs4 : ((w8.setCell ⟨g, 2, none⟩ (.int .u8 x6)).setCell ⟨g, 3, none⟩ (.int .u8 x7)).drew.ownsRow w.heap.size 5 1 (.slice (some ⟨g, 0, none⟩) 4 cap) 4 (nums .u8 [a, b, x6, x7]) := own_take (m := 4) hs2 (by simp)
  have hB9 : Below w.heap.size w ((w8.setCell ⟨g, 2, none⟩ (.int .u8 x6)).setCell ⟨g, 3, none⟩ (.int .u8 x7)).drew := below_drew (Below.setCell (Below.setCell HB8.out hge _) hge _)
  generalize ((w8.setCell ⟨g, 2, none⟩ (.int .u8 x6)).setCell ⟨g, 3, none⟩ (.int .u8 x7)).drew = w9 at hs4 hB9 ⊢
  have HB8' := Aside0.mk hB9
  have HR9 : Aside0 (Kd.R (Kd.int .u8) 5 w9 w.heap.size (fun _ => True) (.slice (some ⟨g, 0, none⟩) 4 cap) [a, b, x6, x7]) := ⟨Kd.R_of_own (enc := Value.int .u8) (h1 := fun _ => rfl) hs4 (fun _ _ => trivial)⟩
  clear hs1 hw1 hs2 hw2 hs4 hB9 HR8 HB8 c2 c3 c8 c9 f2 f3 f8 f9
  go_wp2_with fail
  have HC8 : Aside0 (Kd.C (Kd.int .u8) w9 (some ⟨g, 0, none⟩) l.length l) := ⟨(by have h := Kd.C_take (m := l.length) (Kd.R_reads' HR9.out).2.2 (by simp; omega); rw [← HL.out] at h; exact h)⟩
  clear HR9
  refine (calls_of_args rfl (wsframe_Head.calls (some ⟨g, 0, none⟩) cap l m t sc hc2 (!sh) _ HC8.out hlcn HHD.out (HG.out.below HB8'.out))).mono ?_
  rintro e wa ⟨rfl, hb⟩
  have HB9 := Aside0.mk (below_step HB8'.out hb)
  have HC9 := Aside0.mk (Kd.C_below HC8.out hb)
  clear hb HB8' HC8
  go_upto_region 10 with fail
  have hB10 : Below w.heap.size w (wa.alloc (.cells #[.int .u8 sc, .int .u32 hc2] 26)) := below_alloc HB9.out _
  have hb10 : (wa.alloc (.cells #[.int .u8 sc, .int .u32 hc2] 26)).heap[wa.heap.size]? = some (.cells #[.int .u8 sc, .int .u32 hc2] 26 (0, 0)) := last_at _ _ _ rfl
  have hC10 := Kd.C_below HC9.out (below_alloc (Below.refl _ _) (.cells #[.int .u8 sc, .int .u32 hc2] 26))
  generalize (wa.alloc (.cells #[.int .u8 sc, .int .u32 hc2] 26)) = w10 at hB10 hb10 hC10 ⊢
  generalize wa.heap.size = gb at hb10 ⊢
  have HB10 := Aside0.mk hB10
  have Hb10 := Aside0.mk hb10
  clear hB10 hb10 HB9 HC9
  have hcv : (convert 23 9 (.slice (some ⟨g, 0, none⟩) l.length cap)).run Tryd.prog w10 = .ok (.string (strOfNums l)) w10 := Kd.C_string (P := Tryd.prog) Tryd.underlying23 Tryd.underlying5 Tryd.underlying9 hC10
  clear hC10
  go_wp2_with fail
  clear hcv
  refine (louverref16_Head.calls 20000 (strOfNums l) m f sz hc sh _ HRH.out).mono ?_
  rintro e w11 ⟨rfl, hb⟩
  have HB11 := Aside0.mk (below_step HB10.out hb)
  have Hb11 := Aside0.mk (blk_below Hb10.out hb)
  clear hb HB10 Hb10
  go_upto_region 11 with fail
  have hB12 : Below w.heap.size w (w11.alloc (.cells #[.int .i64 f, .int .i64 sz, .int .i64 hc, .bool sh] 30)) := below_alloc HB11.out _
  have hb12 : (w11.alloc (.cells #[.int .i64 f, .int .i64 sz, .int .i64 hc, .bool sh] 30)).heap[gb]? = some (.cells #[.int .u8 sc, .int .u32 hc2] 26 (0, 0)) := blk_alloc Hb11.out _
  have hh12 : (w11.alloc (.cells #[.int .i64 f, .int .i64 sz, .int .i64 hc, .bool sh] 30)).heap[w11.heap.size]? = some (.cells #[.int .i64 f, .int .i64 sz, .int .i64 hc, .bool sh] 30 (0, 0)) := last_at _ _ _ rfl
  generalize (w11.alloc (.cells #[.int .i64 f, .int .i64 sz, .int .i64 hc, .bool sh] 30)) = w12 at hB12 hb12 hh12 ⊢
  generalize w11.heap.size = gh at hh12 ⊢
  clear HB11 Hb11
  refine wp_region_noPanic ?_
  refine wp_region_held_drew (S := fun w' => Aside0 (Below w.heap.size w w' ∧ w'.heap[gb]? = some (.cells #[.int .u8 sc, .int .u32 hc2] 26 (0, 0)) ∧ w'.heap[gh]? = some (.cells #[.int .i64 f, .int .i64 sz, .int .i64 hc, .bool sh] 30 (0, 0))) ∧ w'.cell? ⟨gb, 0, none⟩ = some (.int .u8 sc) ∧ w'.cell? ⟨gb, 1, none⟩ = some (.int .u32 hc2) ∧ w'.cell? ⟨gh, 0, none⟩ = some (.int .i64 f) ∧ w'.cell? ⟨gh, 1, none⟩ = some (.int .i64 sz) ∧ w'.cell? ⟨gh, 2, none⟩ = some (.int .i64 hc) ∧ w'.cell? ⟨gh, 3, none⟩ = some (.bool sh)) (by kernel_rfl) (⟨⟨below_step hB12 (below_drew (Below.refl _ _)), blk_drew hb12, blk_drew hh12⟩, (blk_cell (blk_drew hb12) 0).trans rfl, (blk_cell (blk_drew hb12) 1).trans rfl, (blk_cell (blk_drew hh12) 0).trans rfl, (blk_cell (blk_drew hh12) 1).trans rfl, (blk_cell (blk_drew hh12) 2).trans rfl, (blk_cell (blk_drew hh12) 3).trans rfl⟩) (fun hHeld => ?_)
  refine wpAnyH_ready (rs := [0]) (by kernel_rfl) (by simp) ?_
  refine AllReadyH.cons rfl (fun K hK => ?_) AllReadyH.nil
  go_simp
  go_at_call 10
  with_reducible refine (louverlaw16_fixed.calls true _ rfl).mono ?_
  rintro e w' ⟨rfl, hb⟩
  refine hK.out _ _ (⟨⟨below_step hHeld.1.out.1 hb, blk_below hHeld.1.out.2.1 hb, blk_below hHeld.1.out.2.2 hb⟩, (blk_cell (blk_below hHeld.1.out.2.1 hb) 0).trans rfl, (blk_cell (blk_below hHeld.1.out.2.1 hb) 1).trans rfl, (blk_cell (blk_below hHeld.1.out.2.2 hb) 0).trans rfl, (blk_cell (blk_below hHeld.1.out.2.2 hb) 1).trans rfl, (blk_cell (blk_below hHeld.1.out.2.2 hb) 2).trans rfl, (blk_cell (blk_below hHeld.1.out.2.2 hb) 3).trans rfl⟩) (fun hHeld => ?_)
  clear hK K
  try simp only [Act.put, List.setIfInBounds_toArray, List.set_cons_zero, List.set_cons_succ]
  refine takeN (i := 1) (N := (some 58)) (v := ?v70) (a' := ?a70) rfl rfl (by kernel_rfl) (by kernel_rfl) (by kernel_rfl) (fun _ _ _ h => h) (Or.inl ⟨by rfl, ?hy70⟩) ?ha70 (by assumption) ?rest70
  case hy70 =>
    intro w_ hSw_
    go_simp
    first | done | (with_reducible rfl)
  case ha70 =>
    simp only [Act.put, List.setIfInBounds_toArray, List.set_cons_zero, List.set_cons_succ]
    rfl
  refine takeN (i := 2) (N := (some 59)) (v := ?v71) (a' := ?a71) rfl rfl (by kernel_rfl) (by kernel_rfl) (by kernel_rfl) (fun _ _ _ h => h) (Or.inl ⟨by rfl, ?hy71⟩) ?ha71 (by assumption) ?rest71
  case hy71 =>
    intro w_ hSw_
    go_simp
    first | done | (with_reducible rfl)
  case ha71 =>
    simp only [Act.put, List.setIfInBounds_toArray, List.set_cons_zero, List.set_cons_succ]
    rfl
  refine takeN (i := 3) (N := (some 60)) (v := ?v72) (a' := ?a72) rfl rfl (by kernel_rfl) (by kernel_rfl) (by kernel_rfl) (fun _ _ _ h => h) (Or.inl ⟨by rfl, ?hy72⟩) ?ha72 (by assumption) ?rest72
  case hy72 =>
    intro w_ hSw_
    go_simp
    first | done | (with_reducible rfl)
  case ha72 =>
    simp only [Act.put, List.setIfInBounds_toArray, List.set_cons_zero, List.set_cons_succ]
    rfl
  refine takeN (i := 4) (N := (some 61)) (v := ?v73) (a' := ?a73) rfl rfl (by kernel_rfl) (by kernel_rfl) (by kernel_rfl) (fun _ _ _ h => h) (Or.inl ⟨by rfl, ?hy73⟩) ?ha73 (by assumption) ?rest73
  case hy73 =>
    intro w_ hSw_
    go_simp
    first | done | (with_reducible rfl)
  case ha73 =>
    simp only [Act.put, List.setIfInBounds_toArray, List.set_cons_zero, List.set_cons_succ]
    rfl
  refine takeN (i := 5) (N := (some 62)) (v := ?v74) (a' := ?a74) rfl rfl (by kernel_rfl) (by kernel_rfl) (by kernel_rfl) (fun _ _ _ h => h) (Or.inl ⟨by rfl, ?hy74⟩) ?ha74 (by assumption) ?rest74
  case hy74 =>
    intro w_ hSw_
    go_simp
    first | done | (with_reducible rfl)
  case ha74 =>
    simp only [Act.put, List.setIfInBounds_toArray, List.set_cons_zero, List.set_cons_succ]
    rfl
  refine takeN (i := 6) (N := (some 63)) (v := ?v75) (a' := ?a75) rfl rfl (by kernel_rfl) (by kernel_rfl) (by kernel_rfl) (fun _ _ _ h => h) (Or.inl ⟨by rfl, ?hy75⟩) ?ha75 (by assumption) ?rest75
  case hy75 =>
    intro w_ hSw_
    go_simp
    first | done | (with_reducible rfl)
  case ha75 =>
    simp only [Act.put, List.setIfInBounds_toArray, List.set_cons_zero, List.set_cons_succ]
    rfl
  refine takeN (i := 7) (N := (some 64)) (v := ?v76) (a' := ?a76) rfl rfl (by kernel_rfl) (by kernel_rfl) (by kernel_rfl) (fun _ _ _ h => h) (Or.inl ⟨by rfl, ?hy76⟩) ?ha76 (by assumption) ?rest76
  case hy76 =>
    intro w_ hSw_
    go_simp
    first | done | (with_reducible rfl)
  case ha76 =>
    simp only [Act.put, List.setIfInBounds_toArray, List.set_cons_zero, List.set_cons_succ]
    rfl
  refine takeN (i := 8) (N := (some 65)) (v := ?v77) (a' := ?a77) rfl rfl (by kernel_rfl) (by kernel_rfl) (by kernel_rfl) (fun _ _ _ h => h) (Or.inl ⟨by rfl, ?hy77⟩) ?ha77 (by assumption) ?rest77
  case hy77 =>
    intro w_ hSw_
    go_simp
    first | done | (with_reducible rfl)
  case ha77 =>
    simp only [Act.put, List.setIfInBounds_toArray, List.set_cons_zero, List.set_cons_succ]
    rfl
  refine takeN (i := 9) (N := (some 66)) (v := ?v78) (a' := ?a78) rfl rfl (by kernel_rfl) (by kernel_rfl) (by kernel_rfl) (fun _ _ _ h => h) (Or.inl ⟨by rfl, ?hy78⟩) ?ha78 (by assumption) ?rest78
  case hy78 =>
    intro w_ hSw_
    go_simp
    first | done | (with_reducible rfl)
  case ha78 =>
    simp only [Act.put, List.setIfInBounds_toArray, List.set_cons_zero, List.set_cons_succ]
    rfl
  refine takeN (i := 10) (N := (some 67)) (v := ?v79) (a' := ?a79) rfl rfl (by kernel_rfl) (by kernel_rfl) (by kernel_rfl) (fun _ _ _ h => h) (Or.inl ⟨by rfl, ?hy79⟩) ?ha79 (by assumption) ?rest79
  case hy79 =>
    intro w_ hSw_
    go_simp
    first | done | (with_reducible rfl)
  case ha79 =>
    simp only [Act.put, List.setIfInBounds_toArray, List.set_cons_zero, List.set_cons_succ]
    rfl
  refine takeN (i := 11) (N := (some 68)) (v := ?v80) (a' := ?a80) rfl rfl (by kernel_rfl) (by kernel_rfl) (by kernel_rfl) (fun _ _ _ h => h) (Or.inl ⟨by rfl, ?hy80⟩) ?ha80 (by assumption) ?rest80
  case hy80 =>
    intro w_ hSw_
    go_simp
    first | done | (with_reducible rfl)
  case ha80 =>
    simp only [Act.put, List.setIfInBounds_toArray, List.set_cons_zero, List.set_cons_succ]
    rfl
  refine wpAnyH_ready (rs := [12]) (by kernel_rfl) (by simp) ?_
  refine AllReadyH.cons rfl (fun K hK => ?_) AllReadyH.nil
  go_simp
  go_at_call 11
  with_reducible refine (louverlaw16_told.calls hc sc hc2 _ HTO.out).mono ?_
  rintro e w' ⟨rfl, hb⟩
  refine hK.out _ _ (⟨⟨below_step hHeld.1.out.1 hb, blk_below hHeld.1.out.2.1 hb, blk_below hHeld.1.out.2.2 hb⟩, (blk_cell (blk_below hHeld.1.out.2.1 hb) 0).trans rfl, (blk_cell (blk_below hHeld.1.out.2.1 hb) 1).trans rfl, (blk_cell (blk_below hHeld.1.out.2.2 hb) 0).trans rfl, (blk_cell (blk_below hHeld.1.out.2.2 hb) 1).trans rfl, (blk_cell (blk_below hHeld.1.out.2.2 hb) 2).trans rfl, (blk_cell (blk_below hHeld.1.out.2.2 hb) 3).trans rfl⟩) (fun hHeld => ?_)
  clear hK K
  try simp only [Act.put, List.setIfInBounds_toArray, List.set_cons_zero, List.set_cons_succ]
  refine takeN (i := 13) (N := (some 70)) (v := ?v81) (a' := ?a81) rfl rfl (by kernel_rfl) (by kernel_rfl) (by kernel_rfl) (fun _ _ _ h => h) (Or.inl ⟨by rfl, ?hy81⟩) ?ha81 (by assumption) ?rest81
  case hy81 =>
    intro w_ hSw_
    go_simp
    first | done | (with_reducible rfl)
  case ha81 =>
    simp only [Act.put, List.setIfInBounds_toArray, List.set_cons_zero, List.set_cons_succ]
    rfl
  refine takeN (i := 14) (N := (some 71)) (v := ?v82) (a' := ?a82) rfl rfl (by kernel_rfl) (by kernel_rfl) (by kernel_rfl) (fun _ _ _ h => h) (Or.inl ⟨by rfl, ?hy82⟩) ?ha82 (by assumption) ?rest82
  case hy82 =>
    intro w_ hSw_
    go_simp
    first | done | (with_reducible rfl)
  case ha82 =>
    simp only [Act.put, List.setIfInBounds_toArray, List.set_cons_zero, List.set_cons_succ]
    rfl
  refine takeN (i := 15) (N := (some 72)) (v := ?v83) (a' := ?a83) rfl rfl (by kernel_rfl) (by kernel_rfl) (by kernel_rfl) (fun _ _ _ h => h) (Or.inl ⟨by rfl, ?hy83⟩) ?ha83 (by assumption) ?rest83
  case hy83 =>
    intro w_ hSw_
    go_simp
    first | done | (with_reducible rfl)
  case ha83 =>
    simp only [Act.put, List.setIfInBounds_toArray, List.set_cons_zero, List.set_cons_succ]
    rfl
  refine takeN (i := 16) (N := (some 73)) (v := ?v84) (a' := ?a84) rfl rfl (by kernel_rfl) (by kernel_rfl) (by kernel_rfl) (fun _ _ _ h => h) (Or.inl ⟨by rfl, ?hy84⟩) ?ha84 (by assumption) ?rest84
  case hy84 =>
    intro w_ hSw_
    go_simp
    first | done | (with_reducible rfl)
  case ha84 =>
    simp only [Act.put, List.setIfInBounds_toArray, List.set_cons_zero, List.set_cons_succ]
    rfl
  refine takeN (i := 17) (N := (some 74)) (v := ?v85) (a' := ?a85) rfl rfl (by kernel_rfl) (by kernel_rfl) (by kernel_rfl) (fun _ _ _ h => h) (Or.inl ⟨by rfl, ?hy85⟩) ?ha85 (by assumption) ?rest85
  case hy85 =>
    intro w_ hSw_
    go_simp
    first | done | (with_reducible rfl)
  case ha85 =>
    simp only [Act.put, List.setIfInBounds_toArray, List.set_cons_zero, List.set_cons_succ]
    rfl
  refine takeN (i := 18) (N := (some 75)) (v := ?v86) (a' := ?a86) rfl rfl (by kernel_rfl) (by kernel_rfl) (by kernel_rfl) (fun _ _ _ h => h) (Or.inl ⟨by rfl, ?hy86⟩) ?ha86 (by assumption) ?rest86
  case hy86 =>
    intro w_ hSw_
    go_simp
    first | done | (with_reducible rfl)
  case ha86 =>
    simp only [Act.put, List.setIfInBounds_toArray, List.set_cons_zero, List.set_cons_succ]
    rfl
  refine takeN (i := 19) (N := (some 76)) (v := ?v87) (a' := ?a87) rfl rfl (by kernel_rfl) (by kernel_rfl) (by kernel_rfl) (fun _ _ _ h => h) (Or.inl ⟨by rfl, ?hy87⟩) ?ha87 (by assumption) ?rest87
  case hy87 =>
    intro w_ hSw_
    go_simp
    first | done | (with_reducible rfl)
  case ha87 =>
    simp only [Act.put, List.setIfInBounds_toArray, List.set_cons_zero, List.set_cons_succ]
    rfl
  refine takeN (i := 20) (N := (some 77)) (v := ?v88) (a' := ?a88) rfl rfl (by kernel_rfl) (by kernel_rfl) (by kernel_rfl) (fun _ _ _ h => h) (Or.inl ⟨by rfl, ?hy88⟩) ?ha88 (by assumption) ?rest88
  case hy88 =>
    intro w_ hSw_
    go_simp
    first | done | (with_reducible rfl)
  case ha88 =>
    simp only [Act.put, List.setIfInBounds_toArray, List.set_cons_zero, List.set_cons_succ]
    rfl
  refine takeN (i := 21) (N := (some 78)) (v := ?v89) (a' := ?a89) rfl rfl (by kernel_rfl) (by kernel_rfl) (by kernel_rfl) (fun _ _ _ h => h) (Or.inl ⟨by rfl, ?hy89⟩) ?ha89 (by assumption) ?rest89
  case hy89 =>
    intro w_ hSw_
    go_simp
    first | done | (with_reducible rfl)
  case ha89 =>
    simp only [Act.put, List.setIfInBounds_toArray, List.set_cons_zero, List.set_cons_succ]
    rfl
  refine takeN (i := 22) (N := (some 79)) (v := ?v90) (a' := ?a90) rfl rfl (by kernel_rfl) (by kernel_rfl) (by kernel_rfl) (fun _ _ _ h => h) (Or.inl ⟨by rfl, ?hy90⟩) ?ha90 (by assumption) ?rest90
  case hy90 =>
    intro w_ hSw_
    go_simp
    first | done | (with_reducible rfl)
  case ha90 =>
    simp only [Act.put, List.setIfInBounds_toArray, List.set_cons_zero, List.set_cons_succ]
    rfl
  refine takeN (i := 23) (N := (some 80)) (v := ?v91) (a' := ?a91) rfl rfl (by kernel_rfl) (by kernel_rfl) (by kernel_rfl) (fun _ _ _ h => h) (Or.inl ⟨by rfl, ?hy91⟩) ?ha91 (by assumption) ?rest91
  case hy91 =>
    intro w_ hSw_
    go_simp
    first | done | (with_reducible rfl)
  case ha91 =>
    simp only [Act.put, List.setIfInBounds_toArray, List.set_cons_zero, List.set_cons_succ]
    rfl
  refine takeN (i := 24) (N := (some 10)) (v := ?v92) (a' := ?a92) rfl rfl (by kernel_rfl) (by kernel_rfl) (by kernel_rfl) (fun _ _ _ h => h) (Or.inl ⟨by rfl, ?hy92⟩) ?ha92 (by assumption) ?rest92
  case hy92 =>
    intro w_ hSw_
    go_simp
    first | done | (with_reducible rfl)
  case ha92 =>
    simp only [Act.put, List.setIfInBounds_toArray, List.set_cons_zero, List.set_cons_succ]
    rfl
  refine wpAnyH_done (by kernel_rfl) ?_ _
  refine NoPanic.normal ?_
  have HBf := Aside0.mk hHeld.1.out.1
  clear hHeld
  go_wp2_with fail
  go_ret
  exact ⟨rfl, HBf.out⟩
theorem told_fh {c : Int} (hc : c = 0 ∨ c = 1002 ∨ c = 1009) : louverlaw16_told.f c = some (if c = 0 then 0 else 3, c) := by
  rcases hc with rfl | rfl | rfl <;> rfl
/-- What the two heads have in common. -/
theorem head_both_h {l : List Int} (hl : l.all isByte = true) (m : Bool) : ∃ t sc hc f sz sh, wsframe_Head.f l m = some (t, sc, hc, !sh) ∧ louverref16_Head.f 20000 (strOfNums l) m = some (f, sz, hc, sh) ∧ louverlaw16_told.f hc = some (sc, hc) ∧ IntKind.i64.wrap (f + sz) = t := by
  have hR := refHead_f hl m 20000 (by omega)
  have hbd := headF_bounds hl m
  have hH : wsframe_Head.f l m = some (HeadF l m) := by unfold wsframe_Head.f; rw [if_pos hl]
  rw [HeadF_ref] at hH
  by_cases h1 : (headF l m).2.2.2 ≠ 0
  · have e : refH l m = (0, 0, (headF l m).2.2.2, false) := by unfold refH; rw [if_pos h1]
    rw [e] at hH hR
    exact ⟨_, _, _, _, _, _, hH, hR, told_fh hbd.2.2.2.2, rfl⟩
  · by_cases h2 : (headF l m).2.2.1 = true
    · have e : refH l m = (0, 0, 0, true) := by unfold refH; rw [if_neg h1, if_pos h2]
      rw [e] at hH hR
      exact ⟨_, _, _, _, _, _, hH, hR, told_fh (.inl rfl), rfl⟩
    · have e : refH l m = ((headF l m).1, (headF l m).2.1, 0, false) := by unfold refH; rw [if_neg h1, if_neg h2]
      rw [e] at hH hR
      exact ⟨_, _, _, _, _, _, hH, hR, told_fh (.inl rfl), show IntKind.i64.wrap ((headF l m).1 + (headF l m).2.1) = (headF l m).1 + (headF l m).2.1 by rw [i64_w]; unfold wrap64; omega⟩
theorem wf8h {x : Int} (h : (Lit.int .u8 x).wf = true) : 0 ≤ x ∧ x ≤ 255 := by simpa [Lit.wf, IntKind.min, IntKind.max, IntKind.signed, IntKind.bits] using h
theorem wrap8_byte (n : Int) : 0 ≤ IntKind.u8.wrap n ∧ IntKind.u8.wrap n ≤ 255 := by
  have : IntKind.u8.wrap n = n % 256 := by simp [IntKind.wrap, IntKind.bits, IntKind.signed]
  rw [this]; omega
theorem take_bytes {l : List Int} (h : ∀ x ∈ l, 0 ≤ x ∧ x ≤ 255) (k : Nat) : (l.take k).all isByte = true := by
  rw [List.all_eq_true]
  exact fun x hx => isByte_iff.2 (h x (List.mem_of_mem_take hx))
theorem Pure.WsframeHead : Says.WsframeHead := by
  intro a b n cut m w o0 o1 o2 o3 hg
  have ha := wf8h o0
  have hb := wf8h o1
  have hc := wf8h o3
  have hB : ∀ x ∈ [a, b, IntKind.u8.wrap (n / 72057594037927936), IntKind.u8.wrap (n / 281474976710656), IntKind.u8.wrap (n / 1099511627776), IntKind.u8.wrap (n / 4294967296), IntKind.u8.wrap (n / 16777216), IntKind.u8.wrap (n / 65536), IntKind.u8.wrap (n / 256), n % 256], 0 ≤ x ∧ x ≤ 255 := by
    intro x hx
    simp only [List.mem_cons, List.not_mem_nil, or_false] at hx
    rcases hx with rfl | rfl | rfl | rfl | rfl | rfl | rfl | rfl | rfl | rfl
    · exact ha
    · exact hb
    all_goals first | exact wrap8_byte _ | omega
  have hT : ∀ x ∈ [a, b, IntKind.u8.wrap (n / 256), n % 256], 0 ≤ x ∧ x ≤ 255 := by
    intro x hx
    simp only [List.mem_cons, List.not_mem_nil, or_false] at hx
    rcases hx with rfl | rfl | rfl | rfl
    · exact ha
    · exact hb
    all_goals first | exact wrap8_byte _ | omega
  have cw : IntKind.i64.wrap cut = cut := by rw [i64_w]; unfold wrap64; omega
  cases ht : (Int.tmod b 128 == 126)
  · by_cases hcut : cut < 10
    · obtain ⟨q, rfl⟩ : ∃ q : Nat, cut = (q : Int) := ⟨cut.toNat, by omega⟩
      obtain ⟨t, sc, hc', f, sz, sh, h1, h2, h3, h4⟩ := head_both_h (take_bytes hB q) m
      obtain ⟨l, hl⟩ : ∃ l, l = List.take q [a, b, IntKind.u8.wrap (n / 72057594037927936), IntKind.u8.wrap (n / 281474976710656), IntKind.u8.wrap (n / 1099511627776), IntKind.u8.wrap (n / 4294967296), IntKind.u8.wrap (n / 16777216), IntKind.u8.wrap (n / 65536), IntKind.u8.wrap (n / 256), n % 256] := ⟨_, rfl⟩
      rw [← hl] at h1 h2
      obtain rfl : l.length = q := by rw [hl, List.length_take]; simp; omega
      exact LawHead_any_cut a b n _ _ _ _ _ _ _ _ l hl hcut m w hg rfl rfl rfl rfl rfl rfl rfl rfl ht cw f sz hc' sc hc' t sh ⟨h1⟩ ⟨h2⟩ ⟨h3⟩ h4
    · obtain ⟨t, sc, hc', f, sz, sh, h1, h2, h3, h4⟩ := head_both_h (List.all_eq_true.2 fun x hx => isByte_iff.2 (hB x hx)) m
      exact LawHead_any_all a b n _ _ _ _ _ _ _ _ cut hcut m w hg rfl rfl rfl rfl rfl rfl rfl rfl ht cw f sz hc' sc hc' t sh ⟨h1⟩ ⟨h2⟩ ⟨h3⟩ h4
  · by_cases hcut : cut < 4
    · obtain ⟨q, rfl⟩ : ∃ q : Nat, cut = (q : Int) := ⟨cut.toNat, by omega⟩
      obtain ⟨t, sc, hc', f, sz, sh, h1, h2, h3, h4⟩ := head_both_h (take_bytes hT q) m
      obtain ⟨l, hl⟩ : ∃ l, l = List.take q [a, b, IntKind.u8.wrap (n / 256), n % 256] := ⟨_, rfl⟩
      rw [← hl] at h1 h2
      obtain rfl : l.length = q := by rw [hl, List.length_take]; simp; omega
      exact LawHead_two_cut a b n _ _ _ _ _ _ _ _ l hl hcut m w hg rfl rfl rfl rfl rfl rfl rfl rfl ht cw f sz hc' sc hc' t sh ⟨h1⟩ ⟨h2⟩ ⟨h3⟩ h4
    · obtain ⟨t, sc, hc', f, sz, sh, h1, h2, h3, h4⟩ := head_both_h (List.all_eq_true.2 fun x hx => isByte_iff.2 (hT x hx)) m
      exact LawHead_two_all a b n _ _ _ _ _ _ _ _ cut hcut m w hg rfl rfl rfl rfl rfl rfl rfl rfl ht cw f sz hc' sc hc' t sh ⟨h1⟩ ⟨h2⟩ ⟨h3⟩ h4
end Go.Proofs.YtabpngcjlikpkaaDoor
