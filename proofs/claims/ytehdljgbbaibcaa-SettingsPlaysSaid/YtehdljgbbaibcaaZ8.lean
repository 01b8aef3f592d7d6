/- What the law's row rests on, part 8. -/
import Derived.Test.YtehdljgbbaibcaaZ7
import Derived.Deep.LoopGhost
import Derived.Deep.DeepCutAuto
import Derived.Deep.CutBlock
/- Send of a side. -/
namespace Go.Proofs.Ytehdljgbbaibcaa
open Go.RowKit Go.Proofs.YtehdljgbbaibcaaW.PrintWords Go.Proofs.YtehdljgbbaibcaaW.PrintLast Go.Proofs.YtehdljgbbaibcaaW.PrintMore Go.Proofs.Ytehdljgbbaibcaa.PAll
set_option linter.unusedVariables false
set_option linter.unusedSimpArgs false
theorem SbC {W : World} {bx : Nat} {t : S24} (h : W.heap[bx]? = some (.cells #[.int .u32 t.f0, .bool t.f1, .int .u32 t.f2, .int .u32 t.f3, .int .u32 t.f4, .int .u32 t.f5, .bool t.f6] 24 (0, 0))) : Aside0 (W.heap[bx]? = some (.cells #[.int .u32 t.f0, .bool t.f1, .int .u32 t.f2, .int .u32 t.f3, .int .u32 t.f4, .int .u32 t.f5, .bool t.f6] 24 (0, 0))) ∧ W.cell? ⟨bx, 0, none⟩ = some (.int .u32 t.f0) ∧ W.cell? ⟨bx, 1, none⟩ = some (.bool t.f1) ∧ W.cell? ⟨bx, 2, none⟩ = some (.int .u32 t.f2) ∧ W.cell? ⟨bx, 3, none⟩ = some (.int .u32 t.f3) ∧ W.cell? ⟨bx, 4, none⟩ = some (.int .u32 t.f4) ∧ W.cell? ⟨bx, 5, none⟩ = some (.int .u32 t.f5) ∧ W.cell? ⟨bx, 6, none⟩ = some (.bool t.f6) := ⟨⟨h⟩, (blk_cell h 0).trans rfl, (blk_cell h 1).trans rfl, (blk_cell h 2).trans rfl, (blk_cell h 3).trans rfl, (blk_cell h 4).trans rfl, (blk_cell h 5).trans rfl, (blk_cell h 6).trans rfl⟩
set_option maxHeartbeats 8000000 in
set_option maxRecDepth 100000 in
theorem side_send {w0 w : World} {g : Nat} {v : Value} {now : S24} {ws : List S24} (h : Sd w0 w g v now ws) {A1 : Option Addr} {c1 : Nat} {l1 : List S39} (hr1 : Kd.C k39 w A1 l1.length l1) (hc1 : l1.length ≤ c1) (hws : ws.length ≤ 1000) : Calls Try.prog 15 #[.pointer (some ⟨g, 0, none⟩), .slice A1 l1.length c1] w fun e w' => (∃ c, applyC (lastS now ws) l1 = .error c ∧ e = .returned (.agg #[.int .u8 1, .int .u32 1]) ∧ Below w.heap.size w w') ∨ ∃ t v', applyC (lastS now ws) l1 = .ok t ∧ e = .returned (.agg #[.int .u8 0, .int .u32 0]) ∧ Sd w0 w' g v' now (ws ++ [t]) ∧ w.heap.size ≤ w'.heap.size ∧ (∀ k, k < w.heap.size → k ≠ g → some k ≠ v.ownBlock → w'.heap[k]? = w.heap[k]?) ∧ (v'.ownBlock = v.ownBlock ∨ ∃ b, v'.ownBlock = some b ∧ w.heap.size ≤ b) := by
  have hu24 := Try.underlying24
  have hu28 := Try.underlying28
  have hu61 := Try.underlying61
  have HS := Aside0.mk h
  have HC := Aside0.mk hr1
  obtain ⟨A, c, rfl, hcl⟩ := Kd.Q_slice h.row
  have H1 := Aside0.mk (h.below (below_alloc (Below.refl _ _) (.cells #[.int .u8 0, .int .u32 0] 28)))
  have HB1 := Aside0.mk (below_alloc (Below.refl w.heap.size w) (.cells #[.int .u8 0, .int .u32 0] 28))
  have HR1 := Aside0.mk (show (w.alloc (.cells #[.int .u8 0, .int .u32 0] 28)).heap[w.heap.size]? = some (.cells #[.int .u8 0, .int .u32 0] 28 (0, 0)) from last_at _ _ _ rfl)
  have hle : w.heap.size ≤ w.heap.size := Nat.le_refl _
  have gl := blk_lt h.blk
  clear h hr1
  obtain ⟨s, hs⟩ : ∃ s, s = lastS now ws := ⟨_, rfl⟩
  rw [← hs]
  have HSS := Aside0.mk hs
  have HLT := Aside0.mk (fun k hk => Kd.Q_lt H1.out.row k hk)
  clear hs
  go_enter Try.func15, Try.ntmps15
  go_wp2_with fail
  have hl := side_last H1.out
  rw [← HSS.out] at hl
  refine hl.mono ?_
  clear hl
  rintro e w1 ⟨rfl, hb⟩
  have HB2 := Aside0.mk (below_step HB1.out hb)
  have HR2 := Aside0.mk (blk_below HR1.out hb)
  have H2 := Aside0.mk (H1.out.below hb)
  clear hb H1 HB1 HR1
  go_wp2_with fail
  have ha := apply_any s A1 c1 l1 w1 (Kd.C_below HC.out HB2.out) hc1
  simp only [cellsS] at ha
  refine ha.mono ?_
  clear ha
  rintro e w2 ⟨rfl, hb⟩
  have HB3 := Aside0.mk (below_step HB2.out hb)
  have HR3 := Aside0.mk (blk_below HR2.out hb)
  have H3 := Aside0.mk (H2.out.below hb)
  clear hb H2 HB2 HR2
  generalize hap : applyC s l1 = ap
  have HAP := Aside0.mk hap
  clear hap
  cases ap with
  | error cd =>
    simp only [resC, cellsS]
    go_upto_region 4 with fail
    have hb4 : Below w2.heap.size w2 ((w2.alloc (.cells #[.int .u32 s.f0, .bool s.f1, .int .u32 s.f2, .int .u32 s.f3, .int .u32 s.f4, .int .u32 s.f5, .bool s.f6] 24)).alloc (.cells #[.int .u8 1, .int .u32 cd] 28)) := below_alloc (below_alloc (Below.refl _ _) _) _
    have HBX := Aside0.mk (show ((w2.alloc (.cells #[.int .u32 s.f0, .bool s.f1, .int .u32 s.f2, .int .u32 s.f3, .int .u32 s.f4, .int .u32 s.f5, .bool s.f6] 24)).alloc (.cells #[.int .u8 1, .int .u32 cd] 28)).heap[w2.heap.size]? = some (.cells #[.int .u32 s.f0, .bool s.f1, .int .u32 s.f2, .int .u32 s.f3, .int .u32 s.f4, .int .u32 s.f5, .bool s.f6] 24 (0, 0)) from blk_alloc (last_at _ _ _ rfl) _)
    have HFX := Aside0.mk (show ((w2.alloc (.cells #[.int .u32 s.f0, .bool s.f1, .int .u32 s.f2, .int .u32 s.f3, .int .u32 s.f4, .int .u32 s.f5, .bool s.f6] 24)).alloc (.cells #[.int .u8 1, .int .u32 cd] 28)).heap[w2.heap.size + 1]? = some (.cells #[.int .u8 1, .int .u32 cd] 28 (0, 0)) from last_at _ _ _ (by simp))
    have HB4 := Aside0.mk (below_step HB3.out hb4)
    have HR4 := Aside0.mk (blk_below HR3.out hb4)
    have H4 := Aside0.mk (H3.out.below hb4)
    have HL := Aside0.mk (blk_lt HR3.out)
    generalize ((w2.alloc (.cells #[.int .u32 s.f0, .bool s.f1, .int .u32 s.f2, .int .u32 s.f3, .int .u32 s.f4, .int .u32 s.f5, .bool s.f6] 24)).alloc (.cells #[.int .u8 1, .int .u32 cd] 28)) = W4 at HBX HFX HB4 HR4 H4 ⊢
    obtain ⟨bx, hbx⟩ : ∃ bx, bx = w2.heap.size := ⟨_, rfl⟩
    rw [← hbx] at HBX HFX HL ⊢
    clear hb4 hbx HB3 HR3 H3
    have z0 : W4.cell? ⟨w.heap.size, 0, none⟩ = some (.int .u8 0) := (blk_cell HR4.out 0).trans rfl
    have zf0 := blk_frozen HR4.out 0
    have z1 : W4.cell? ⟨w.heap.size, 1, none⟩ = some (.int .u32 0) := (blk_cell HR4.out 1).trans rfl
    have zf1 := blk_frozen HR4.out 1
    have zl := blk_lt HR4.out
    have x0 : W4.cell? ⟨(bx + 1), 0, none⟩ = some (.int .u8 1) := (blk_cell HFX.out 0).trans rfl
    have xf0 := blk_frozen HFX.out 0
    have x1 : W4.cell? ⟨(bx + 1), 1, none⟩ = some (.int .u32 cd) := (blk_cell HFX.out 1).trans rfl
    have xf1 := blk_frozen HFX.out 1
    have xl := blk_lt HFX.out
    have b0 : W4.cell? ⟨bx, 0, none⟩ = some (.int .u32 s.f0) := (blk_cell HBX.out 0).trans rfl
    have bf0 := blk_frozen HBX.out 0
    have b1 : W4.cell? ⟨bx, 1, none⟩ = some (.bool s.f1) := (blk_cell HBX.out 1).trans rfl
    have bf1 := blk_frozen HBX.out 1
    have b2 : W4.cell? ⟨bx, 2, none⟩ = some (.int .u32 s.f2) := (blk_cell HBX.out 2).trans rfl
    have bf2 := blk_frozen HBX.out 2
    have b3 : W4.cell? ⟨bx, 3, none⟩ = some (.int .u32 s.f3) := (blk_cell HBX.out 3).trans rfl
    have bf3 := blk_frozen HBX.out 3
    have b4 : W4.cell? ⟨bx, 4, none⟩ = some (.int .u32 s.f4) := (blk_cell HBX.out 4).trans rfl
    have bf4 := blk_frozen HBX.out 4
    have b5 : W4.cell? ⟨bx, 5, none⟩ = some (.int .u32 s.f5) := (blk_cell HBX.out 5).trans rfl
    have bf5 := blk_frozen HBX.out 5
    have b6 : W4.cell? ⟨bx, 6, none⟩ = some (.bool s.f6) := (blk_cell HBX.out 6).trans rfl
    have bf6 := blk_frozen HBX.out 6
    have bl := blk_lt HBX.out
    go_wp2_with fail
    exact bodyPost_ret (v := .agg #[.int .u8 1, .int .u32 1]) (by simp [results, Try.results15, go_sem, z0, z1]) rfl (.inl ⟨cd, HAP.out, rfl, Below.setCell (p := ⟨w.heap.size, 1, none⟩) (Below.setCell (p := ⟨w.heap.size, 0, none⟩) HB4.out hle _) hle _⟩)
  | ok t =>
    simp only [resC, cellsS]
    have HNB : Aside0 (some w2.heap.size ≠ (Value.slice A ws.length c).ownBlock) := ⟨fun e => by have := Kd.Q_lt H3.out.row _ e.symm; omega⟩
    go_upto_region 4 with fail
    have hb4 : Below w2.heap.size w2 ((w2.alloc (.cells #[.int .u32 t.f0, .bool t.f1, .int .u32 t.f2, .int .u32 t.f3, .int .u32 t.f4, .int .u32 t.f5, .bool t.f6] 24)).alloc (.cells #[.int .u8 0, .int .u32 0] 28)) := below_alloc (below_alloc (Below.refl _ _) _) _
    have HBX := Aside0.mk (show ((w2.alloc (.cells #[.int .u32 t.f0, .bool t.f1, .int .u32 t.f2, .int .u32 t.f3, .int .u32 t.f4, .int .u32 t.f5, .bool t.f6] 24)).alloc (.cells #[.int .u8 0, .int .u32 0] 28)).heap[w2.heap.size]? = some (.cells #[.int .u32 t.f0, .bool t.f1, .int .u32 t.f2, .int .u32 t.f3, .int .u32 t.f4, .int .u32 t.f5, .bool t.f6] 24 (0, 0)) from blk_alloc (last_at _ _ _ rfl) _)
    have HFX := Aside0.mk (show ((w2.alloc (.cells #[.int .u32 t.f0, .bool t.f1, .int .u32 t.f2, .int .u32 t.f3, .int .u32 t.f4, .int .u32 t.f5, .bool t.f6] 24)).alloc (.cells #[.int .u8 0, .int .u32 0] 28)).heap[w2.heap.size + 1]? = some (.cells #[.int .u8 0, .int .u32 0] 28 (0, 0)) from last_at _ _ _ (by simp))
    have HB4 := Aside0.mk (below_step HB3.out hb4)
    have HR4 := Aside0.mk (blk_below HR3.out hb4)
    have H4 := Aside0.mk (H3.out.below hb4)
    have HL := Aside0.mk (blk_lt HR3.out)
    generalize ((w2.alloc (.cells #[.int .u32 t.f0, .bool t.f1, .int .u32 t.f2, .int .u32 t.f3, .int .u32 t.f4, .int .u32 t.f5, .bool t.f6] 24)).alloc (.cells #[.int .u8 0, .int .u32 0] 28)) = W4 at HBX HFX HB4 HR4 H4 ⊢
    obtain ⟨bx, hbx⟩ : ∃ bx, bx = w2.heap.size := ⟨_, rfl⟩
    rw [← hbx] at HBX HFX HL HNB ⊢
    clear hb4 hbx HB3 HR3 H3
    have z0 : W4.cell? ⟨w.heap.size, 0, none⟩ = some (.int .u8 0) := (blk_cell HR4.out 0).trans rfl
    have zf0 := blk_frozen HR4.out 0
    have z1 : W4.cell? ⟨w.heap.size, 1, none⟩ = some (.int .u32 0) := (blk_cell HR4.out 1).trans rfl
    have zf1 := blk_frozen HR4.out 1
    have zl := blk_lt HR4.out
    have x0 : W4.cell? ⟨(bx + 1), 0, none⟩ = some (.int .u8 0) := (blk_cell HFX.out 0).trans rfl
    have xf0 := blk_frozen HFX.out 0
    have x1 : W4.cell? ⟨(bx + 1), 1, none⟩ = some (.int .u32 0) := (blk_cell HFX.out 1).trans rfl
    have xf1 := blk_frozen HFX.out 1
    have xl := blk_lt HFX.out
    have b0 : W4.cell? ⟨bx, 0, none⟩ = some (.int .u32 t.f0) := (blk_cell HBX.out 0).trans rfl
    have bf0 := blk_frozen HBX.out 0
    have b1 : W4.cell? ⟨bx, 1, none⟩ = some (.bool t.f1) := (blk_cell HBX.out 1).trans rfl
    have bf1 := blk_frozen HBX.out 1
    have b2 : W4.cell? ⟨bx, 2, none⟩ = some (.int .u32 t.f2) := (blk_cell HBX.out 2).trans rfl
    have bf2 := blk_frozen HBX.out 2
    have b3 : W4.cell? ⟨bx, 3, none⟩ = some (.int .u32 t.f3) := (blk_cell HBX.out 3).trans rfl
    have bf3 := blk_frozen HBX.out 3
    have b4 : W4.cell? ⟨bx, 4, none⟩ = some (.int .u32 t.f4) := (blk_cell HBX.out 4).trans rfl
    have bf4 := blk_frozen HBX.out 4
    have b5 : W4.cell? ⟨bx, 5, none⟩ = some (.int .u32 t.f5) := (blk_cell HBX.out 5).trans rfl
    have bf5 := blk_frozen HBX.out 5
    have b6 : W4.cell? ⟨bx, 6, none⟩ = some (.bool t.f6) := (blk_cell HBX.out 6).trans rfl
    have bf6 := blk_frozen HBX.out 6
    have bl := blk_lt HBX.out
    have HI : Aside0 ((Try.prog.info? 24).map (fun i => (i.zero, i.size, i.bytes)) = some (some (.agg #[.int .u32 0, .bool false, .int .u32 0, .int .u32 0, .int .u32 0, .int .u32 0, .bool false]), 7, 28)) := ⟨by kernel_rfl⟩
    have y7 : W4.cell? ⟨g, 7, none⟩ = some (.slice A ws.length c) := (blk_cell H4.out.blk 7).trans rfl
    have y7d : W4.drew.cell? ⟨g, 7, none⟩ = some (.slice A ws.length c) := y7
    have y7b : (W4.alloc (.cells #[.int .u32 t.f0, .bool t.f1, .int .u32 t.f2, .int .u32 t.f3, .int .u32 t.f4, .int .u32 t.f5, .bool t.f6] 24)).drew.cell? ⟨g, 7, none⟩ = some (.slice A ws.length c) := ((below_alloc (Below.refl _ _) _).cell (World.block_lt_of_cell? _ _ y7)).trans y7
    have hbg : bx ≠ g := blk_ne HBX.out H4.out.blk (by decide)
    go_upto_region 6 with fail
    have hnb : some bx ≠ (Value.slice A ws.length c).ownBlock := HNB.out
    refine wp_region_noPanic ?_
    refine wp_region_held_drew (S := fun w' => Aside0 (w'.heap[bx]? = some (.cells #[.int .u32 t.f0, .bool t.f1, .int .u32 t.f2, .int .u32 t.f3, .int .u32 t.f4, .int .u32 t.f5, .bool t.f6] 24 (0, 0))) ∧ w'.cell? ⟨bx, 0, none⟩ = some (.int .u32 t.f0) ∧ w'.cell? ⟨bx, 1, none⟩ = some (.bool t.f1) ∧ w'.cell? ⟨bx, 2, none⟩ = some (.int .u32 t.f2) ∧ w'.cell? ⟨bx, 3, none⟩ = some (.int .u32 t.f3) ∧ w'.cell? ⟨bx, 4, none⟩ = some (.int .u32 t.f4) ∧ w'.cell? ⟨bx, 5, none⟩ = some (.int .u32 t.f5) ∧ w'.cell? ⟨bx, 6, none⟩ = some (.bool t.f6)) (by kernel_rfl) (SbC (blk_drew HBX.out)) (fun hHeld => ?_)
    refine takeN (i := 0) (N := (some 21)) (v := ?v13) (a' := ?a13) rfl rfl (by kernel_rfl) (by kernel_rfl) (by kernel_rfl) (fun _ _ _ h => h) (Or.inl ⟨by rfl, ?hy13⟩) ?ha13 (by assumption) ?rest13
    case hy13 =>
      intro w_ hSw_
      go_simp
      first | done | (with_reducible rfl)
    case ha13 =>
      simp only [Act.put, List.setIfInBounds_toArray, List.set_cons_zero, List.set_cons_succ]
      rfl
    refine takeN (i := 1) (N := (some 22)) (v := ?v14) (a' := ?a14) rfl rfl (by kernel_rfl) (by kernel_rfl) (by kernel_rfl) (fun _ _ _ h => h) (Or.inl ⟨by rfl, ?hy14⟩) ?ha14 (by assumption) ?rest14
    case hy14 =>
      intro w_ hSw_
      go_simp
      first | done | (with_reducible rfl)
    case ha14 =>
      simp only [Act.put, List.setIfInBounds_toArray, List.set_cons_zero, List.set_cons_succ]
      rfl
    refine takeN (i := 2) (N := (some 23)) (v := ?v15) (a' := ?a15) rfl rfl (by kernel_rfl) (by kernel_rfl) (by kernel_rfl) (fun _ _ _ h => h) (Or.inl ⟨by rfl, ?hy15⟩) ?ha15 (by assumption) ?rest15
    case hy15 =>
      intro w_ hSw_
      go_simp
      first | done | (with_reducible rfl)
    case ha15 =>
      simp only [Act.put, List.setIfInBounds_toArray, List.set_cons_zero, List.set_cons_succ]
      rfl
    refine takeN (i := 3) (N := (some 24)) (v := ?v16) (a' := ?a16) rfl rfl (by kernel_rfl) (by kernel_rfl) (by kernel_rfl) (fun _ _ _ h => h) (Or.inl ⟨by rfl, ?hy16⟩) ?ha16 (by assumption) ?rest16
    case hy16 =>
      intro w_ hSw_
      go_simp
      first | done | (with_reducible rfl)
    case ha16 =>
      simp only [Act.put, List.setIfInBounds_toArray, List.set_cons_zero, List.set_cons_succ]
      rfl
    refine takeN (i := 5) (N := (some 26)) (v := ?v17) (a' := ?a17) rfl rfl (by kernel_rfl) (by kernel_rfl) (by kernel_rfl) (fun _ _ _ h => h) (Or.inl ⟨by rfl, ?hy17⟩) ?ha17 (by assumption) ?rest17
    case hy17 =>
      intro w_ hSw_
      go_simp
      first | done | (with_reducible rfl)
    case ha17 =>
      simp only [Act.put, List.setIfInBounds_toArray, List.set_cons_zero, List.set_cons_succ]
      rfl
    refine wpAnyH_ready (rs := [4, 6]) (by kernel_rfl) (by simp) ?_
    refine AllReadyH.cons rfl (fun K hK => ?_) (AllReadyH.cons rfl (fun K hK => ?_) AllReadyH.nil)
    · go_simp
      refine hK.out _ _ (SbC (blk_drew HBX.out)) (fun hHeld => ?_)
      clear hK K
      try simp only [Act.put, List.setIfInBounds_toArray, List.set_cons_zero, List.set_cons_succ]
      refine wpAnyH_ready (rs := [6]) (by kernel_rfl) (by simp) ?_
      refine AllReadyH.cons rfl (fun K hK => ?_) AllReadyH.nil
      go_simp
      refine hK.out _ _ (SbC (blk_alloc (blk_drew HBX.out) _)) (fun hHeld => ?_)
      clear hK K
      try simp only [Act.put, List.setIfInBounds_toArray, List.set_cons_zero, List.set_cons_succ]
      refine wpAnyH_ready (rs := [7]) (by kernel_rfl) (by simp) ?_
      refine AllReadyH.cons rfl (fun K hK => ?_) AllReadyH.nil
      rw [show (W4.alloc (.cells #[.int .u32 t.f0, .bool t.f1, .int .u32 t.f2, .int .u32 t.f3, .int .u32 t.f4, .int .u32 t.f5, .bool t.f6] 24)).drew = (W4.drew.alloc (.cells #[.int .u32 t.f0, .bool t.f1, .int .u32 t.f2, .int .u32 t.f3, .int .u32 t.f4, .int .u32 t.f5, .bool t.f6] 24)) from rfl]
      refine Kd.Q_append_step k24 (w0 := w0) w0.heap.size (by rfl) (.tmp 25) (.tmp 27) 48 24 (.agg #[.int .u32 0, .bool false, .int .u32 0, .int .u32 0, .int .u32 0, .int .u32 0, .bool false]) 28 rfl Try.underlying48 HI.out rfl (by decide) (by decide) (.slice A ws.length c) ws t [.int .u32 t.f0, .bool t.f1, .int .u32 t.f2, .int .u32 t.f3, .int .u32 t.f4, .int .u32 t.f5, .bool t.f6] (fun _ => True) (fun _ => False) rfl rfl (k24_mkM _ _ _ t) (fun _ h => h.elim) (fun _ _ => trivial) (Kd.Q_below H4.out.row (below_drew (Below.refl _ _))) (below_drew H4.out.bel) H4.out.bel.size (by omega) ?_
      intro v1 w5 hq hb5 hg5 hat5
      have hne : some g ≠ (Value.slice A ws.length c).ownBlock := Kd.Q_ne H4.out.row H4.out.blk (by decide)
      have hg4 := blk_grown (blk_drew H4.out.blk) hg5 hne
      have HG5 := Aside0.mk hg4
      have HBX5 := Aside0.mk (blk_grown (blk_drew HBX.out) hg5 hnb)
      have HR5 := Aside0.mk (blk_grown (blk_drew HR4.out) hg5 (Kd.Q_ne H4.out.row HR4.out (by decide)))
      have HQ5 := Aside0.mk hq
      have HB5 := Aside0.mk hb5
      have HGR := Aside0.mk hg5
      have HAT := Aside0.mk hat5
      clear hq hb5 hg5 hat5 hg4
      refine hK.out _ _ (SbC (HBX5.out)) (fun hHeld => ?_)
      clear hK K
      try simp only [Act.put, List.setIfInBounds_toArray, List.set_cons_zero, List.set_cons_succ]
      refine takeN (i := 8) (N := (some 29)) (v := ?v18) (a' := ?a18) rfl rfl (by kernel_rfl) (by kernel_rfl) (by kernel_rfl) (fun _ _ _ h => h) (Or.inl ⟨by rfl, ?hy18⟩) ?ha18 (by assumption) ?rest18
      case hy18 =>
        intro w_ hSw_
        go_simp
        first | done | (with_reducible rfl)
      case ha18 =>
        simp only [Act.put, List.setIfInBounds_toArray, List.set_cons_zero, List.set_cons_succ]
        rfl
      refine takeN (i := 9) (N := (some 30)) (v := ?v19) (a' := ?a19) rfl rfl (by kernel_rfl) (by kernel_rfl) (by kernel_rfl) (fun _ _ _ h => h) (Or.inl ⟨by rfl, ?hy19⟩) ?ha19 (by assumption) ?rest19
      case hy19 =>
        intro w_ hSw_
        go_simp
        first | done | (with_reducible rfl)
      case ha19 =>
        simp only [Act.put, List.setIfInBounds_toArray, List.set_cons_zero, List.set_cons_succ]
        rfl
      obtain ⟨A1_, c1_, rfl, hc1_⟩ := Kd.Q_slice HQ5.out
      obtain ⟨n1, hn1⟩ : ∃ n1, n1 = (ws ++ [t]).length := ⟨_, rfl⟩
      rw [← hn1] at HQ5 HAT hc1_ ⊢
      clear hn1
      have g7 : w5.cell? ⟨g, 7, none⟩ = some (.slice A ws.length c) := (blk_cell HG5.out 7).trans rfl
      have gf7 := blk_frozen HG5.out 7
      have gl5 := blk_lt HG5.out
      refine wpAnyH_ready (rs := [10]) (by kernel_rfl) (by simp) ?_
      refine AllReadyH.cons rfl (fun K hK => ?_) AllReadyH.nil
      go_simp
      refine hK.out _ _ (SbC ((Below.heap_setCell _ ⟨g, 7, none⟩ _ bx hbg).trans HBX5.out)) (fun hHeld => ?_)
      clear hK K
      try simp only [Act.put, List.setIfInBounds_toArray, List.set_cons_zero, List.set_cons_succ]
      refine wpAnyH_done (by kernel_rfl) ?_ _
      refine NoPanic.normal ?_
      have HBG := Aside0.mk (show (w5.setCell ⟨g, 7, none⟩ (.slice A1_ n1 c1_)).heap[g]? = some (.cells #[.int .u32 now.f0, .bool now.f1, .int .u32 now.f2, .int .u32 now.f3, .int .u32 now.f4, .int .u32 now.f5, .bool now.f6, .slice A1_ n1 c1_] 61 (0, 0)) from blk_put HG5.out 7 (.slice A1_ n1 c1_) rfl)
      have HQ6 := Aside0.mk (Kd.Q_mono (Kd.Q_far (Kd.Q_types HQ5.out HG5.out (by intro q hq; simp [k24, Kd.iso, Kd.pair, Kd.int, Kd.bool, Kd.scalar] at hq; omega)) (p := ⟨g, 7, none⟩) (fun k hk => hk.2) (.slice A1_ n1 c1_)) (ok' := fun _ => True) (fun _ _ => trivial))
      have HB6 := Aside0.mk (Below.setCell (p := ⟨g, 7, none⟩) HB5.out HS.out.base (.slice A1_ n1 c1_))
      have HR6 := Aside0.mk ((Below.heap_setCell w5 ⟨g, 7, none⟩ (.slice A1_ n1 c1_) _ (show w.heap.size ≠ g from fun e => by omega)).trans HR5.out)
      have HF6 : Aside0 (w.heap.size ≤ (w5.setCell ⟨g, 7, none⟩ (.slice A1_ n1 c1_)).heap.size ∧ ∀ k, k < w.heap.size → k ≠ g → some k ≠ (Value.slice A ws.length c).ownBlock → (w5.setCell ⟨g, 7, none⟩ (.slice A1_ n1 c1_)).heap[k]? = w.heap[k]?) := ⟨Nat.le_trans HB4.out.size (Nat.le_trans HGR.out.size (by simp [World.setCell])), fun k h1 h2 h3 => (Below.heap_setCell w5 ⟨g, 7, none⟩ (.slice A1_ n1 c1_) k h2).trans ((HGR.out.block k (Nat.lt_of_lt_of_le h1 HB4.out.size) h3).trans (HB4.out.block k h1))⟩
      have HA6 : Aside0 ((Value.slice A1_ n1 c1_).ownBlock = (Value.slice A ws.length c).ownBlock ∨ ∃ b, (Value.slice A1_ n1 c1_).ownBlock = some b ∧ w.heap.size ≤ b) := ⟨HAT.out.elim .inl (fun ⟨b, h1, h2⟩ => .inr ⟨b, h1, Nat.le_trans HB4.out.size h2⟩)⟩
      generalize w5.setCell ⟨g, 7, none⟩ (.slice A1_ n1 c1_) = w6 at HBG HQ6 HB6 HR6 HF6 ⊢
      clear hHeld g7 gf7 gl5 HQ5 HB5 HGR HAT HBX5 HR5 HG5 z0 z1 zf0 zf1 zl
      have z0 : w6.cell? ⟨w.heap.size, 0, none⟩ = some (.int .u8 0) := (blk_cell HR6.out 0).trans rfl
      have zf0 := blk_frozen HR6.out 0
      have z1 : w6.cell? ⟨w.heap.size, 1, none⟩ = some (.int .u32 0) := (blk_cell HR6.out 1).trans rfl
      have zf1 := blk_frozen HR6.out 1
      have zl := blk_lt HR6.out
      have hlo : w0.heap.size ≤ w.heap.size := HS.out.bel.size
      go_wp2_with fail
      exact bodyPost_ret (v := .agg #[.int .u8 0, .int .u32 0]) (by simp [results, Try.results15, go_sem, z0, z1]) rfl (.inr ⟨t, .slice A1_ n1 c1_, HAP.out, rfl, ⟨(heap_sets2 (show g ≠ w.heap.size from fun e => by omega)).trans HBG.out, Kd.Q_mono (Kd.Q_far (Kd.Q_far (Kd.Q_types HQ6.out HR6.out (by intro q hq; simp [k24, Kd.iso, Kd.pair, Kd.int, Kd.bool, Kd.scalar] at hq; omega)) (p := ⟨w.heap.size, 0, none⟩) (fun k hk => hk.2) _) (p := ⟨w.heap.size, 1, none⟩) (fun k hk => hk.2) _) (fun _ _ => trivial), Below.setCell (p := ⟨w.heap.size, 1, none⟩) (Below.setCell (p := ⟨w.heap.size, 0, none⟩) HB6.out hlo _) hlo _, HS.out.base⟩, by simpa [World.setCell] using HF6.out.1, fun k h1 h2 h3 => (heap_sets2 (Nat.ne_of_lt h1)).trans (HF6.out.2 k h1 h2 h3), HA6.out⟩)
    · go_simp
      refine hK.out _ _ (SbC (blk_alloc (blk_drew HBX.out) _)) (fun hHeld => ?_)
      clear hK K
      try simp only [Act.put, List.setIfInBounds_toArray, List.set_cons_zero, List.set_cons_succ]
      refine wpAnyH_ready (rs := [4]) (by kernel_rfl) (by simp) ?_
      refine AllReadyH.cons rfl (fun K hK => ?_) AllReadyH.nil
      go_simp
      refine hK.out _ _ (SbC (blk_alloc (blk_drew HBX.out) _)) (fun hHeld => ?_)
      clear hK K
      try simp only [Act.put, List.setIfInBounds_toArray, List.set_cons_zero, List.set_cons_succ]
      refine wpAnyH_ready (rs := [7]) (by kernel_rfl) (by simp) ?_
      refine AllReadyH.cons rfl (fun K hK => ?_) AllReadyH.nil
      rw [show (W4.alloc (.cells #[.int .u32 t.f0, .bool t.f1, .int .u32 t.f2, .int .u32 t.f3, .int .u32 t.f4, .int .u32 t.f5, .bool t.f6] 24)).drew = (W4.drew.alloc (.cells #[.int .u32 t.f0, .bool t.f1, .int .u32 t.f2, .int .u32 t.f3, .int .u32 t.f4, .int .u32 t.f5, .bool t.f6] 24)) from rfl]
      refine Kd.Q_append_step k24 (w0 := w0) w0.heap.size (by rfl) (.tmp 25) (.tmp 27) 48 24 (.agg #[.int .u32 0, .bool false, .int .u32 0, .int .u32 0, .int .u32 0, .int .u32 0, .bool false]) 28 rfl Try.underlying48 HI.out rfl (by decide) (by decide) (.slice A ws.length c) ws t [.int .u32 t.f0, .bool t.f1, .int .u32 t.f2, .int .u32 t.f3, .int .u32 t.f4, .int .u32 t.f5, .bool t.f6] (fun _ => True) (fun _ => False) rfl rfl (k24_mkM _ _ _ t) (fun _ h => h.elim) (fun _ _ => trivial) (Kd.Q_below H4.out.row (below_drew (Below.refl _ _))) (below_drew H4.out.bel) H4.out.bel.size (by omega) ?_
      intro v1 w5 hq hb5 hg5 hat5
      have hne : some g ≠ (Value.slice A ws.length c).ownBlock := Kd.Q_ne H4.out.row H4.out.blk (by decide)
      have hg4 := blk_grown (blk_drew H4.out.blk) hg5 hne
      have HG5 := Aside0.mk hg4
      have HBX5 := Aside0.mk (blk_grown (blk_drew HBX.out) hg5 hnb)
      have HR5 := Aside0.mk (blk_grown (blk_drew HR4.out) hg5 (Kd.Q_ne H4.out.row HR4.out (by decide)))
      have HQ5 := Aside0.mk hq
      have HB5 := Aside0.mk hb5
      have HGR := Aside0.mk hg5
      have HAT := Aside0.mk hat5
      clear hq hb5 hg5 hat5 hg4
      refine hK.out _ _ (SbC (HBX5.out)) (fun hHeld => ?_)
      clear hK K
      try simp only [Act.put, List.setIfInBounds_toArray, List.set_cons_zero, List.set_cons_succ]
      refine takeN (i := 8) (N := (some 29)) (v := ?v20) (a' := ?a20) rfl rfl (by kernel_rfl) (by kernel_rfl) (by kernel_rfl) (fun _ _ _ h => h) (Or.inl ⟨by rfl, ?hy20⟩) ?ha20 (by assumption) ?rest20
      case hy20 =>
        intro w_ hSw_
        go_simp
        first | done | (with_reducible rfl)
      case ha20 =>
        simp only [Act.put, List.setIfInBounds_toArray, List.set_cons_zero, List.set_cons_succ]
        rfl
      refine takeN (i := 9) (N := (some 30)) (v := ?v21) (a' := ?a21) rfl rfl (by kernel_rfl) (by kernel_rfl) (by kernel_rfl) (fun _ _ _ h => h) (Or.inl ⟨by rfl, ?hy21⟩) ?ha21 (by assumption) ?rest21
      case hy21 =>
        intro w_ hSw_
        go_simp
        first | done | (with_reducible rfl)
      case ha21 =>
        simp only [Act.put, List.setIfInBounds_toArray, List.set_cons_zero, List.set_cons_succ]
        rfl
      obtain ⟨A1_, c1_, rfl, hc1_⟩ := Kd.Q_slice HQ5.out
      obtain ⟨n1, hn1⟩ : ∃ n1, n1 = (ws ++ [t]).length := ⟨_, rfl⟩
      rw [← hn1] at HQ5 HAT hc1_ ⊢
      clear hn1
      have g7 : w5.cell? ⟨g, 7, none⟩ = some (.slice A ws.length c) := (blk_cell HG5.out 7).trans rfl
      have gf7 := blk_frozen HG5.out 7
      have gl5 := blk_lt HG5.out
      refine wpAnyH_ready (rs := [10]) (by kernel_rfl) (by simp) ?_
      refine AllReadyH.cons rfl (fun K hK => ?_) AllReadyH.nil
      go_simp
      refine hK.out _ _ (SbC ((Below.heap_setCell _ ⟨g, 7, none⟩ _ bx hbg).trans HBX5.out)) (fun hHeld => ?_)
      clear hK K
      try simp only [Act.put, List.setIfInBounds_toArray, List.set_cons_zero, List.set_cons_succ]
      refine wpAnyH_done (by kernel_rfl) ?_ _
      refine NoPanic.normal ?_
      have HBG := Aside0.mk (show (w5.setCell ⟨g, 7, none⟩ (.slice A1_ n1 c1_)).heap[g]? = some (.cells #[.int .u32 now.f0, .bool now.f1, .int .u32 now.f2, .int .u32 now.f3, .int .u32 now.f4, .int .u32 now.f5, .bool now.f6, .slice A1_ n1 c1_] 61 (0, 0)) from blk_put HG5.out 7 (.slice A1_ n1 c1_) rfl)
      have HQ6 := Aside0.mk (Kd.Q_mono (Kd.Q_far (Kd.Q_types HQ5.out HG5.out (by intro q hq; simp [k24, Kd.iso, Kd.pair, Kd.int, Kd.bool, Kd.scalar] at hq; omega)) (p := ⟨g, 7, none⟩) (fun k hk => hk.2) (.slice A1_ n1 c1_)) (ok' := fun _ => True) (fun _ _ => trivial))
      have HB6 := Aside0.mk (Below.setCell (p := ⟨g, 7, none⟩) HB5.out HS.out.base (.slice A1_ n1 c1_))
      have HR6 := Aside0.mk ((Below.heap_setCell w5 ⟨g, 7, none⟩ (.slice A1_ n1 c1_) _ (show w.heap.size ≠ g from fun e => by omega)).trans HR5.out)
      have HF6 : Aside0 (w.heap.size ≤ (w5.setCell ⟨g, 7, none⟩ (.slice A1_ n1 c1_)).heap.size ∧ ∀ k, k < w.heap.size → k ≠ g → some k ≠ (Value.slice A ws.length c).ownBlock → (w5.setCell ⟨g, 7, none⟩ (.slice A1_ n1 c1_)).heap[k]? = w.heap[k]?) := ⟨Nat.le_trans HB4.out.size (Nat.le_trans HGR.out.size (by simp [World.setCell])), fun k h1 h2 h3 => (Below.heap_setCell w5 ⟨g, 7, none⟩ (.slice A1_ n1 c1_) k h2).trans ((HGR.out.block k (Nat.lt_of_lt_of_le h1 HB4.out.size) h3).trans (HB4.out.block k h1))⟩
      have HA6 : Aside0 ((Value.slice A1_ n1 c1_).ownBlock = (Value.slice A ws.length c).ownBlock ∨ ∃ b, (Value.slice A1_ n1 c1_).ownBlock = some b ∧ w.heap.size ≤ b) := ⟨HAT.out.elim .inl (fun ⟨b, h1, h2⟩ => .inr ⟨b, h1, Nat.le_trans HB4.out.size h2⟩)⟩
      generalize w5.setCell ⟨g, 7, none⟩ (.slice A1_ n1 c1_) = w6 at HBG HQ6 HB6 HR6 HF6 ⊢
      clear hHeld g7 gf7 gl5 HQ5 HB5 HGR HAT HBX5 HR5 HG5 z0 z1 zf0 zf1 zl
      have z0 : w6.cell? ⟨w.heap.size, 0, none⟩ = some (.int .u8 0) := (blk_cell HR6.out 0).trans rfl
      have zf0 := blk_frozen HR6.out 0
      have z1 : w6.cell? ⟨w.heap.size, 1, none⟩ = some (.int .u32 0) := (blk_cell HR6.out 1).trans rfl
      have zf1 := blk_frozen HR6.out 1
      have zl := blk_lt HR6.out
      have hlo : w0.heap.size ≤ w.heap.size := HS.out.bel.size
      go_wp2_with fail
      exact bodyPost_ret (v := .agg #[.int .u8 0, .int .u32 0]) (by simp [results, Try.results15, go_sem, z0, z1]) rfl (.inr ⟨t, .slice A1_ n1 c1_, HAP.out, rfl, ⟨(heap_sets2 (show g ≠ w.heap.size from fun e => by omega)).trans HBG.out, Kd.Q_mono (Kd.Q_far (Kd.Q_far (Kd.Q_types HQ6.out HR6.out (by intro q hq; simp [k24, Kd.iso, Kd.pair, Kd.int, Kd.bool, Kd.scalar] at hq; omega)) (p := ⟨w.heap.size, 0, none⟩) (fun k hk => hk.2) _) (p := ⟨w.heap.size, 1, none⟩) (fun k hk => hk.2) _) (fun _ _ => trivial), Below.setCell (p := ⟨w.heap.size, 1, none⟩) (Below.setCell (p := ⟨w.heap.size, 0, none⟩) HB6.out hlo _) hlo _, HS.out.base⟩, by simpa [World.setCell] using HF6.out.1, fun k h1 h2 h3 => (heap_sets2 (Nat.ne_of_lt h1)).trans (HF6.out.2 k h1 h2 h3), HA6.out⟩)
end Go.Proofs.Ytehdljgbbaibcaa

/- Lists that are sent and acknowledged come into force in their order. -/
namespace Go.Proofs.Ytehdljgbbaibcaa
open Go.RowKit Go.Proofs.YtehdljgbbaibcaaW.PrintWords Go.Proofs.YtehdljgbbaibcaaW.PrintLast Go.Proofs.YtehdljgbbaibcaaW.PrintMore Go.Proofs.Ytehdljgbbaibcaa.PAll
set_option linter.unusedVariables false
set_option linter.unusedSimpArgs false
/-- What stands in the law's loop: the side (nw, ws), what is in force and what will be by the law (now, la), and the row of what waits (us). -/
structure Pl (w0 W : World) (g bn bl : Nat) (v wv : Value) (nw : S24) (ws : List S24) (now la : S24) (us : List S24) : Prop where
  sd : Sd w0 W g v nw ws
  xn : W.heap[bn]? = some (.cells #[.int .u32 now.f0, .bool now.f1, .int .u32 now.f2, .int .u32 now.f3, .int .u32 now.f4, .int .u32 now.f5, .bool now.f6] 24 (0, 0))
  xl : W.heap[bl]? = some (.cells #[.int .u32 la.f0, .bool la.f1, .int .u32 la.f2, .int .u32 la.f3, .int .u32 la.f4, .int .u32 la.f5, .bool la.f6] 24 (0, 0))
  row : Kd.Q k24 24 W w0.heap.size (fun k => some k ≠ v.ownBlock ∧ k ≠ bn ∧ k ≠ bl) wv us
  nbn : v.ownBlock ≠ some bn
  nbl : v.ownBlock ≠ some bl
  nn : bn ≠ bl
  lon : w0.heap.size ≤ bn
  lol : w0.heap.size ≤ bl
section
variable {w0 W W' : World} {g bn bl : Nat} {v v' wv wv' : Value} {nw now la x t : S24} {ws us r : List S24}
theorem Pl.below (h : Pl w0 W g bn bl v wv nw ws now la us) (hb : Below W.heap.size W W') : Pl w0 W' g bn bl v wv nw ws now la us := ⟨h.sd.below hb, blk_below h.xn hb, blk_below h.xl hb, Kd.Q_below h.row hb, h.nbn, h.nbl, h.nn, h.lon, h.lol⟩
theorem k24_ne {q : Nat} (hq : q ∈ 24 :: k24.E) : q ≠ 61 := by
  simp [k24, Kd.iso, Kd.pair, Kd.int, Kd.bool, Kd.scalar] at hq
  omega
theorem Pl.gn (h : Pl w0 W g bn bl v wv nw ws now la us) : bn ≠ g ∧ bl ≠ g := ⟨blk_ne h.xn h.sd.blk (by decide), blk_ne h.xl h.sd.blk (by decide)⟩
theorem Pl.row2 (h : Pl w0 W g bn bl v wv nw ws now la us) : Kd.Q k24 24 W w0.heap.size (fun k => (some k ≠ v.ownBlock ∧ k ≠ bn ∧ k ≠ bl) ∧ k ≠ g ∧ k < W.heap.size) wv us := Kd.Q_mono (Kd.Q_bound (Kd.Q_types h.row h.sd.blk (fun q hq => k24_ne hq))) (fun k hk => ⟨hk.1.1, hk.1.2, hk.2.2.1⟩)
/-- The side was changed: its row's block and its own alone. -/
theorem Pl.side (h : Pl w0 W g bn bl v wv nw ws now la us) {nw' : S24} {ws' : List S24} (hS : Sd w0 W' g v' nw' ws') (hfr : ∀ k, k < W.heap.size → k ≠ g → some k ≠ v.ownBlock → W'.heap[k]? = W.heap[k]?) (hat : (∀ k, v'.ownBlock = some k → v.ownBlock = some k ∨ W.heap.size ≤ k)) : Pl w0 W' g bn bl v' wv nw' ws' now la us :=
  have e (k : Nat) (hk : k < W.heap.size) (hne : v.ownBlock ≠ some k) : v'.ownBlock ≠ some k := fun e => (hat k e).elim hne (fun h => by omega)
  ⟨hS, (hfr bn (blk_lt h.xn) h.gn.1 (fun e => h.nbn e.symm)).trans h.xn, (hfr bl (blk_lt h.xl) h.gn.2 (fun e => h.nbl e.symm)).trans h.xl,
   Kd.Q_mono (Kd.Q_move h.row2 (fun k hk => hfr k hk.2.2 hk.2.1 hk.1.1)) (fun k hk => ⟨fun he => e k hk.2.2 (fun h2 => hk.1.1 h2.symm) he.symm, hk.1.2⟩), e bn (blk_lt h.xn) h.nbn, e bl (blk_lt h.xl) h.nbl, h.nn, h.lon, h.lol⟩
theorem Pl.row_ (h : Pl w0 W g bn bl v wv nw ws now la us) {us' : List S24} (hq : Kd.Q k24 24 W w0.heap.size (fun k => some k ≠ v.ownBlock ∧ k ≠ bn ∧ k ≠ bl) wv' us') : Pl w0 W g bn bl v wv' nw ws now la us' := ⟨h.sd, h.xn, h.xl, hq, h.nbn, h.nbl, h.nn, h.lon, h.lol⟩
theorem Pl.side_row (h : Pl w0 W g bn bl v wv nw ws now la us) : Kd.Q k24 24 W w0.heap.size (fun k => some k = v.ownBlock) v ws := Kd.Q_tight (by rfl) h.sd.row
/-- A block that is not the side's is written. -/
theorem Pl.far (h : Pl w0 W g bn bl v wv nw ws now la us) (hk : ∀ k, k ≠ bn → W'.heap[k]? = W.heap[k]?) (hx : W'.heap[bn]? = some (.cells #[.int .u32 x.f0, .bool x.f1, .int .u32 x.f2, .int .u32 x.f3, .int .u32 x.f4, .int .u32 x.f5, .bool x.f6] 24 (0, 0))) (hb : Below w0.heap.size w0 W') : Pl w0 W' g bn bl v wv nw ws x la us :=
  ⟨⟨(hk g (fun e => h.gn.1 e.symm)).trans h.sd.blk, Kd.Q_mono (Kd.Q_move h.side_row (fun k e => hk k (fun e2 => h.nbn (by rw [← e, e2])))) (fun _ _ => trivial), hb, h.sd.base⟩, hx, (hk bl (fun e => h.nn e.symm)).trans h.xl, Kd.Q_move h.row (fun k e => hk k e.2.1), h.nbn, h.nbl, h.nn, h.lon, h.lol⟩
theorem Pl.farl (h : Pl w0 W g bn bl v wv nw ws now la us) (hk : ∀ k, k ≠ bl → W'.heap[k]? = W.heap[k]?) (hx : W'.heap[bl]? = some (.cells #[.int .u32 x.f0, .bool x.f1, .int .u32 x.f2, .int .u32 x.f3, .int .u32 x.f4, .int .u32 x.f5, .bool x.f6] 24 (0, 0))) (hb : Below w0.heap.size w0 W') : Pl w0 W' g bn bl v wv nw ws now x us :=
  ⟨⟨(hk g (fun e => h.gn.2 e.symm)).trans h.sd.blk, Kd.Q_mono (Kd.Q_move h.side_row (fun k e => hk k (fun e2 => h.nbl (by rw [← e, e2])))) (fun _ _ => trivial), hb, h.sd.base⟩, (hk bn h.nn).trans h.xn, hx, Kd.Q_move h.row (fun k e => hk k e.2.2), h.nbn, h.nbl, h.nn, h.lon, h.lol⟩
/-- The row grew. -/
theorem Pl.push (h : Pl w0 W g bn bl v wv nw ws now la us) {us' : List S24} (hg : W.grownBy W' wv.ownBlock) (hb : Below w0.heap.size w0 W') (hq : Kd.Q k24 24 W' w0.heap.size (fun k => some k ≠ v.ownBlock ∧ k ≠ bn ∧ k ≠ bl) wv' us') : Pl w0 W' g bn bl v wv' nw ws now la us' :=
  have hok := Kd.Q_ok h.row
  ⟨⟨blk_grown h.sd.blk hg (Kd.Q_ne h.row h.sd.blk (by decide)), Kd.Q_mono (Kd.Q_grown h.side_row hg (fun k e e2 => (hok k e2.symm).1 e)) (fun _ _ => trivial), hb, h.sd.base⟩, blk_grown h.xn hg (fun e => (hok bn e.symm).2.1 rfl), blk_grown h.xl hg (fun e => (hok bl e.symm).2.2 rfl), hq, h.nbn, h.nbl, h.nn, h.lon, h.lol⟩
end
theorem PS {w0 W : World} {g bn bl : Nat} {v wv : Value} {now la : S24} {ws us : List S24} (h : Pl w0 W g bn bl v wv now ws now la us) : Aside0 (Pl w0 W g bn bl v wv now ws now la us) ∧ W.cell? ⟨bn, 0, none⟩ = some (.int .u32 now.f0) ∧ W.cell? ⟨bn, 1, none⟩ = some (.bool now.f1) ∧ W.cell? ⟨bn, 2, none⟩ = some (.int .u32 now.f2) ∧ W.cell? ⟨bn, 3, none⟩ = some (.int .u32 now.f3) ∧ W.cell? ⟨bn, 4, none⟩ = some (.int .u32 now.f4) ∧ W.cell? ⟨bn, 5, none⟩ = some (.int .u32 now.f5) ∧ W.cell? ⟨bn, 6, none⟩ = some (.bool now.f6) ∧ W.cell? ⟨bl, 0, none⟩ = some (.int .u32 la.f0) ∧ W.cell? ⟨bl, 1, none⟩ = some (.bool la.f1) ∧ W.cell? ⟨bl, 2, none⟩ = some (.int .u32 la.f2) ∧ W.cell? ⟨bl, 3, none⟩ = some (.int .u32 la.f3) ∧ W.cell? ⟨bl, 4, none⟩ = some (.int .u32 la.f4) ∧ W.cell? ⟨bl, 5, none⟩ = some (.int .u32 la.f5) ∧ W.cell? ⟨bl, 6, none⟩ = some (.bool la.f6) := ⟨⟨h⟩, (blk_cell h.xn 0).trans rfl, (blk_cell h.xn 1).trans rfl, (blk_cell h.xn 2).trans rfl, (blk_cell h.xn 3).trans rfl, (blk_cell h.xn 4).trans rfl, (blk_cell h.xn 5).trans rfl, (blk_cell h.xn 6).trans rfl, (blk_cell h.xl 0).trans rfl, (blk_cell h.xl 1).trans rfl, (blk_cell h.xl 2).trans rfl, (blk_cell h.xl 3).trans rfl, (blk_cell h.xl 4).trans rfl, (blk_cell h.xl 5).trans rfl, (blk_cell h.xl 6).trans rfl⟩
theorem side_last2 {w0 w : World} {g : Nat} {v : Value} {now la : S24} {ws : List S24} (hl : la = lastS now ws) (h : Sd w0 w g v now ws) : Calls Try.prog 17 #[.pointer (some ⟨g, 0, none⟩)] w fun e w' => e = .returned (.agg #[.int .u32 la.f0, .bool la.f1, .int .u32 la.f2, .int .u32 la.f3, .int .u32 la.f4, .int .u32 la.f5, .bool la.f6]) ∧ Below w.heap.size w w' := by
  rw [hl]
  exact side_last h
def PlR (w0 : World) (g bn bl n : Nat) (mu : Nat) (wv iv : Value) (wr : World) : Prop := ∃ (i : Nat) (v wv0 : Value) (now : S24) (ws : List S24), iv = .int .i64 (i : Nat) ∧ wv = wv0 ∧ i + mu = n ∧ ws.length ≤ i ∧ Pl w0 wr g bn bl v wv0 now ws now (lastS now ws) ws
theorem q_empty (W : World) (base : Nat) (hb : base ≤ W.heap.size) (ok : Nat → Prop) (hok : ok W.heap.size) : Kd.Q k24 24 (W.alloc (.cells #[] 24)) base ok (.slice (some ⟨W.heap.size, 0, none⟩) 0 0) [] := Kd.Q_of_R ⟨fun k e => by
  injection e with e
  subst e
  exact hok, OwnRow.lit W base (inner := []) (Reps.none _ _) hb (by decide)⟩
theorem okay_of {x : List S39} (h : ∀ x_ ∈ x, ((Lit.int .u16 x_.f0).wf = true) ∧ ((Lit.int .u32 x_.f1).wf = true)) : ∀ y ∈ x, Okay y := fun y hy => by
  have : 0 ≤ y.f1 ∧ y.f1 ≤ 4294967295 := by simpa [Lit.wf, IntKind.min, IntKind.max, IntKind.signed, IntKind.bits] using (h y hy).2
  exact this.1
set_option maxHeartbeats 16000000 in
set_option maxRecDepth 100000 in
theorem Pure.SettingsPlays : Says.SettingsPlays := by
  intro A0 c0 x0 w l0 r0 o0
  have hu24 := Try.underlying24
  have hu28 := Try.underlying28
  have hu50 := Try.underlying50
  have HR := Aside0.mk r0
  have HO := Aside0.mk o0.1
  clear r0 o0
  go_enter Try.func6, Try.ntmps6
  by_cases hbig : (100 : Int) < (x0.length : Int)
  · go_wp2_with fail
    refine (louverlaw09_fixed.calls true _ rfl).mono ?_
    rintro e w9 ⟨rfl, hb⟩
    go_wp2_with fail
    go_ret
    exact ⟨rfl, hb⟩
  · have hN : x0.length ≤ 100 := by omega
    clear hbig
    go_wp2_with fail
    refine (side_new w _ (Below.refl _ _)).mono ?_
    rintro e w1 ⟨g, rfl, hS, hb⟩
    have HS1 := Aside0.mk hS
    clear hS hb
    go_wp2_with fail
    refine (louverref09_Begin.calls 4096 true 4294967295 65535 16384 4294967295 false _ rfl).mono ?_
    rintro e w2 ⟨rfl, hb⟩
    have HS2 := Aside0.mk (HS1.out.below hb)
    clear hb HS1
    go_upto_region 5 with fail
    have hb3 := below_alloc (Below.refl w2.heap.size w2) (.cells #[.int .u32 4096, .bool true, .int .u32 4294967295, .int .u32 65535, .int .u32 16384, .int .u32 4294967295, .bool false] 24)
    have HN3 := Aside0.mk (show (w2.alloc (.cells #[.int .u32 4096, .bool true, .int .u32 4294967295, .int .u32 65535, .int .u32 16384, .int .u32 4294967295, .bool false] 24)).heap[w2.heap.size]? = some (.cells #[.int .u32 4096, .bool true, .int .u32 4294967295, .int .u32 65535, .int .u32 16384, .int .u32 4294967295, .bool false] 24 (0, 0)) from last_at _ _ _ rfl)
    have HS3 := Aside0.mk (HS2.out.below hb3)
    generalize w2.alloc (.cells #[.int .u32 4096, .bool true, .int .u32 4294967295, .int .u32 65535, .int .u32 16384, .int .u32 4294967295, .bool false] 24) = w3 at HN3 HS3 hb3 ⊢
    have hbn1 := blk_lt HN3.out
    have hlo3 := HS2.out.bel.size
    obtain ⟨bn, hbn⟩ : ∃ bn, bn = w2.heap.size := ⟨_, rfl⟩
    rw [← hbn] at HN3 hbn1 hlo3 ⊢
    clear hb3 HS2 hbn
    have n0 : w3.cell? ⟨bn, 0, none⟩ = some (.int .u32 4096) := (blk_cell HN3.out 0).trans rfl
    have nf0 := blk_frozen HN3.out 0
    have n1 : w3.cell? ⟨bn, 1, none⟩ = some (.bool true) := (blk_cell HN3.out 1).trans rfl
    have nf1 := blk_frozen HN3.out 1
    have n2 : w3.cell? ⟨bn, 2, none⟩ = some (.int .u32 4294967295) := (blk_cell HN3.out 2).trans rfl
    have nf2 := blk_frozen HN3.out 2
    have n3 : w3.cell? ⟨bn, 3, none⟩ = some (.int .u32 65535) := (blk_cell HN3.out 3).trans rfl
    have nf3 := blk_frozen HN3.out 3
    have n4 : w3.cell? ⟨bn, 4, none⟩ = some (.int .u32 16384) := (blk_cell HN3.out 4).trans rfl
    have nf4 := blk_frozen HN3.out 4
    have n5 : w3.cell? ⟨bn, 5, none⟩ = some (.int .u32 4294967295) := (blk_cell HN3.out 5).trans rfl
    have nf5 := blk_frozen HN3.out 5
    have n6 : w3.cell? ⟨bn, 6, none⟩ = some (.bool false) := (blk_cell HN3.out 6).trans rfl
    have nf6 := blk_frozen HN3.out 6
    have nl := blk_lt HN3.out
    go_upto_region 6 with fail
    clear n0 nf0 n1 nf1 n2 nf2 n3 nf3 n4 nf4 n5 nf5 n6 nf6 nl
    have hb4 := below_alloc (Below.refl w3.heap.size w3) (.cells #[.int .u32 4096, .bool true, .int .u32 4294967295, .int .u32 65535, .int .u32 16384, .int .u32 4294967295, .bool false] 24)
    have HL4 := Aside0.mk (show (w3.alloc (.cells #[.int .u32 4096, .bool true, .int .u32 4294967295, .int .u32 65535, .int .u32 16384, .int .u32 4294967295, .bool false] 24)).heap[w3.heap.size]? = some (.cells #[.int .u32 4096, .bool true, .int .u32 4294967295, .int .u32 65535, .int .u32 16384, .int .u32 4294967295, .bool false] 24 (0, 0)) from last_at _ _ _ rfl)
    have HN4 := Aside0.mk (blk_below HN3.out hb4)
    have HS4 := Aside0.mk (HS3.out.below hb4)
    generalize w3.alloc (.cells #[.int .u32 4096, .bool true, .int .u32 4294967295, .int .u32 65535, .int .u32 16384, .int .u32 4294967295, .bool false] 24) = w4 at HL4 HN4 HS4 hb4 ⊢
    obtain ⟨bl, hbl⟩ : ∃ bl, bl = w3.heap.size := ⟨_, rfl⟩
    have hblt := blk_lt HL4.out
    rw [← hbl] at HL4 hbn1 hblt ⊢
    clear hb4 HN3 HS3 hbl
    have HP4 := Aside0.mk (show Pl w (w4.alloc (.cells #[] 24)) g bn bl (.slice none 0 0) (.slice (some ⟨w4.heap.size, 0, none⟩) 0 0) begS [] begS begS [] from (by
      have hb5 := below_alloc (Below.refl w4.heap.size w4) (.cells #[] 24)
      exact ⟨HS4.out.below hb5, blk_below HN4.out hb5, blk_below HL4.out hb5, q_empty _ _ HS4.out.bel.size _ ⟨by simp [Value.ownBlock], by omega, by omega⟩, by simp [Value.ownBlock], by simp [Value.ownBlock], by omega, hlo3, by omega⟩))
    clear HS4 HN4 HL4
    go_wp2_with fail
    go_loopg [6, 25] x0.length (fun mu wv iv wr => PlR w g bn bl x0.length mu wv iv wr)
    case atStart => exact ⟨0, _, _, _, _, rfl, rfl, by omega, by simp, HP4.out⟩
    case round =>
      clear HP4
      obtain ⟨i, v, wv, now, ws, rfl, rfl, hi, hwl, hP⟩ := hrel
      obtain ⟨Aw, cw, rfl, hcw⟩ := Kd.Q_slice hP.row
      have HP := Aside0.mk hP
      have HI := Aside0.mk hi
      have HWL := Aside0.mk hwl
      clear hP hi hwl
      by_cases hlt : i < x0.length
      · obtain ⟨ad, A1, c1, rfl, e0', e1', hc1, hC1⟩ := at_T50 HR.out (i : Int) (by omega) (by omega)
        obtain ⟨x, hx⟩ : ∃ x, x = rd_T50 x0 (i : Int) := ⟨_, rfl⟩
        have hxm : x ∈ x0 := by rw [hx]; unfold rd_T50; rw [Int.toNat_natCast, List.getD_eq_getElem?_getD, List.getElem?_eq_getElem hlt]; exact List.getElem_mem hlt
        have hxo := HO.out x hxm
        rw [← hx, Int.toNat_natCast] at e0' e1'
        rw [← hx] at hc1 hC1
        obtain ⟨k0, l⟩ := x
        simp only at e0' e1' hc1 hC1
        have HOK := Aside0.mk (And.intro (okay_of hxo.2.1) hxo.2.2.2)
        have e0 := (HP.out.sd.bel.cell (World.block_lt_of_cell? _ _ e0')).trans e0'
        have e1 := (HP.out.sd.bel.cell (World.block_lt_of_cell? _ _ e1')).trans e1'
        have HCL := Aside0.mk hC1
        clear hx hxm hxo e0' e1' hC1
        go_upto_region 10 with fail
        have hb1 := below_alloc (Below.refl wr.heap.size wr) (.cells #[.int .i64 k0, .slice A1 l.length c1] 50)
        have HBO := Aside0.mk (show (wr.alloc (.cells #[.int .i64 k0, .slice A1 l.length c1] 50)).heap[wr.heap.size]? = some (.cells #[.int .i64 k0, .slice A1 l.length c1] 50 (0, 0)) from last_at _ _ _ rfl)
        have HP1 := Aside0.mk (HP.out.below hb1)
        generalize wr.alloc (.cells #[.int .i64 k0, .slice A1 l.length c1] 50) = W at hb1 HBO HP1 ⊢
        obtain ⟨bo, hbo⟩ : ∃ bo, bo = wr.heap.size := ⟨_, rfl⟩
        rw [← hbo] at HBO ⊢
        clear hb1 hbo HP e0 e1
        have o0 : W.cell? ⟨bo, 0, none⟩ = some (.int .i64 k0) := (blk_cell HBO.out 0).trans rfl
        have of0 := blk_frozen HBO.out 0
        have o1 : W.cell? ⟨bo, 1, none⟩ = some (.slice A1 l.length c1) := (blk_cell HBO.out 1).trans rfl
        have of1 := blk_frozen HBO.out 1
        have ol := blk_lt HBO.out
        by_cases hbig : (100 : Int) < (l.length : Int)
        · go_wp2_with fail
          refine (louverlaw09_fixed.calls true _ rfl).mono ?_
          rintro e w9 ⟨rfl, hb⟩
          have HB9 := Aside0.mk (below_step HP1.out.sd.bel hb)
          clear hb
          go_wp2_with fail
          go_ret
          exact ⟨rfl, HB9.out⟩
        · have hll : ¬ 100 < l.length := by omega
          go_upto_if 36 with fail
          go_cut [6] (fun wv' wc => ∃ v' now' ws', ws'.length ≤ i + 1 ∧ Pl w wc g bn bl v' wv' now' ws' now' (lastS now' ws') ws')
          case first =>
            by_cases hk : k0 = 0
            · subst hk
              obtain ⟨s, hs⟩ : ∃ s, s = lastS now ws := ⟨_, rfl⟩
              have HSS := Aside0.mk hs
              rw [← hs] at HP1
              clear hs
              have l0 : W.cell? ⟨bl, 0, none⟩ = some (.int .u32 s.f0) := (blk_cell HP1.out.xl 0).trans rfl
              have lf0 := blk_frozen HP1.out.xl 0
              have l1 : W.cell? ⟨bl, 1, none⟩ = some (.bool s.f1) := (blk_cell HP1.out.xl 1).trans rfl
              have lf1 := blk_frozen HP1.out.xl 1
              have l2 : W.cell? ⟨bl, 2, none⟩ = some (.int .u32 s.f2) := (blk_cell HP1.out.xl 2).trans rfl
              have lf2 := blk_frozen HP1.out.xl 2
              have l3 : W.cell? ⟨bl, 3, none⟩ = some (.int .u32 s.f3) := (blk_cell HP1.out.xl 3).trans rfl
              have lf3 := blk_frozen HP1.out.xl 3
              have l4 : W.cell? ⟨bl, 4, none⟩ = some (.int .u32 s.f4) := (blk_cell HP1.out.xl 4).trans rfl
              have lf4 := blk_frozen HP1.out.xl 4
              have l5 : W.cell? ⟨bl, 5, none⟩ = some (.int .u32 s.f5) := (blk_cell HP1.out.xl 5).trans rfl
              have lf5 := blk_frozen HP1.out.xl 5
              have l6 : W.cell? ⟨bl, 6, none⟩ = some (.bool s.f6) := (blk_cell HP1.out.xl 6).trans rfl
              have lf6 := blk_frozen HP1.out.xl 6
              have ll := blk_lt HP1.out.xl
              have hra := ref_apply s l HOK.out.2 HOK.out.1
              unfold refC at hra
              generalize hap : applyC s l = ap at hra
              have HAP := Aside0.mk hap
              clear hap
              cases ap with
              | error cd =>
                simp only at hra
                have hcd := applyC_code l s cd HAP.out
                have h99 : (cd != 99) = true := by rcases hcd with rfl | rfl <;> rfl
                have HRA := Aside0.mk hra
                clear hra hcd
                go_wp2_with fail
                refine (louverref09_Apply.calls _ s.f0 s.f1 s.f2 s.f3 s.f4 s.f5 s.f6 A1 c1 l _ _ _ _ _ _ _ _ _ (Kd.C_below HCL.out HP1.out.sd.bel) hc1 HRA.out).mono ?_
                rintro e w3 ⟨rfl, hb⟩
                have HP3 := Aside0.mk (HP1.out.below hb)
                have HBO3 := Aside0.mk (blk_below HBO.out hb)
                clear hb o0 of0 o1 of1 ol l0 lf0 l1 lf1 l2 lf2 l3 lf3 l4 lf4 l5 lf5 l6 lf6 ll
                go_upto_region 14 with fail
                have hb4 := below_alloc (Below.refl w3.heap.size w3) (.cells #[.int .u32 s.f0, .bool s.f1, .int .u32 s.f2, .int .u32 s.f3, .int .u32 s.f4, .int .u32 s.f5, .bool s.f6] 24)
                have HX4 := Aside0.mk (show (w3.alloc (.cells #[.int .u32 s.f0, .bool s.f1, .int .u32 s.f2, .int .u32 s.f3, .int .u32 s.f4, .int .u32 s.f5, .bool s.f6] 24)).heap[w3.heap.size]? = some (.cells #[.int .u32 s.f0, .bool s.f1, .int .u32 s.f2, .int .u32 s.f3, .int .u32 s.f4, .int .u32 s.f5, .bool s.f6] 24 (0, 0)) from last_at _ _ _ rfl)
                have HP4 := Aside0.mk (HP3.out.below hb4)
                have HBO4 := Aside0.mk (blk_below HBO3.out hb4)
                generalize w3.alloc (.cells #[.int .u32 s.f0, .bool s.f1, .int .u32 s.f2, .int .u32 s.f3, .int .u32 s.f4, .int .u32 s.f5, .bool s.f6] 24) = w4 at hb4 HX4 HP4 HBO4 ⊢
                obtain ⟨bx, hbx⟩ : ∃ bx, bx = w3.heap.size := ⟨_, rfl⟩
                have hbx1 := blk_lt HP3.out.xn
                have hbx2 := blk_lt HP3.out.xl
                have hbx3 : ∀ k, v.ownBlock = some k → k < w3.heap.size := fun k e => Kd.Q_lt HP3.out.sd.row k e
                have hbx4 := Kd.Q_lt HP3.out.row
                have hbx5 := blk_lt HP3.out.sd.blk
                rw [← hbx] at HX4 hbx1 hbx2 hbx3 hbx4 hbx5 ⊢
                have HBX := Aside0.mk (And.intro hbx1 (And.intro hbx2 (And.intro hbx3 (And.intro hbx4 hbx5))))
                clear hb4 hbx HP3 HBO3 hbx1 hbx2 hbx3 hbx4 hbx5
                have o0 : w4.cell? ⟨bo, 0, none⟩ = some (.int .i64 0) := (blk_cell HBO4.out 0).trans rfl
                have of0 := blk_frozen HBO4.out 0
                have o1 : w4.cell? ⟨bo, 1, none⟩ = some (.slice A1 l.length c1) := (blk_cell HBO4.out 1).trans rfl
                have of1 := blk_frozen HBO4.out 1
                have ol := blk_lt HBO4.out
                go_wp2_with fail
                have hsend := side_send HP4.out.sd (Kd.C_below HCL.out HP4.out.sd.bel) hc1 (by have := HWL.out; omega)
                rw [← HSS.out, HAP.out] at hsend
                refine hsend.mono ?_
                clear hsend
                rintro e w5 hpost
                rcases hpost with ⟨c', _, rfl, hb⟩ | ⟨t, v', hok, _⟩
                · have HP5 := Aside0.mk (HP4.out.below hb)
                  clear hb o0 of0 o1 of1 ol
                  go_wp2_with fail
                  go_meet
                  case rel => exact ⟨v, now, ws, by have := HWL.out; omega, HSS.out ▸ HP5.out.below (below_alloc (Below.refl _ _) _)⟩
                · cases hok
              | ok t =>
                simp only at hra
                have HRA := Aside0.mk hra
                clear hra
                go_wp2_with fail
                refine (louverref09_Apply.calls _ s.f0 s.f1 s.f2 s.f3 s.f4 s.f5 s.f6 A1 c1 l _ _ _ _ _ _ _ _ _ (Kd.C_below HCL.out HP1.out.sd.bel) hc1 HRA.out).mono ?_
                rintro e w3 ⟨rfl, hb⟩
                have HP3 := Aside0.mk (HP1.out.below hb)
                have HBO3 := Aside0.mk (blk_below HBO.out hb)
                clear hb o0 of0 o1 of1 ol l0 lf0 l1 lf1 l2 lf2 l3 lf3 l4 lf4 l5 lf5 l6 lf6 ll
                go_upto_region 14 with fail
                have hb4 := below_alloc (Below.refl w3.heap.size w3) (.cells #[.int .u32 t.f0, .bool t.f1, .int .u32 t.f2, .int .u32 t.f3, .int .u32 t.f4, .int .u32 t.f5, .bool t.f6] 24)
                have HX4 := Aside0.mk (show (w3.alloc (.cells #[.int .u32 t.f0, .bool t.f1, .int .u32 t.f2, .int .u32 t.f3, .int .u32 t.f4, .int .u32 t.f5, .bool t.f6] 24)).heap[w3.heap.size]? = some (.cells #[.int .u32 t.f0, .bool t.f1, .int .u32 t.f2, .int .u32 t.f3, .int .u32 t.f4, .int .u32 t.f5, .bool t.f6] 24 (0, 0)) from last_at _ _ _ rfl)
                have HP4 := Aside0.mk (HP3.out.below hb4)
                have HBO4 := Aside0.mk (blk_below HBO3.out hb4)
                generalize w3.alloc (.cells #[.int .u32 t.f0, .bool t.f1, .int .u32 t.f2, .int .u32 t.f3, .int .u32 t.f4, .int .u32 t.f5, .bool t.f6] 24) = w4 at hb4 HX4 HP4 HBO4 ⊢
                obtain ⟨bx, hbx⟩ : ∃ bx, bx = w3.heap.size := ⟨_, rfl⟩
                have hbx1 := blk_lt HP3.out.xn
                have hbx2 := blk_lt HP3.out.xl
                have hbx3 : ∀ k, v.ownBlock = some k → k < w3.heap.size := fun k e => Kd.Q_lt HP3.out.sd.row k e
                have hbx4 := Kd.Q_lt HP3.out.row
                have hbx5 := blk_lt HP3.out.sd.blk
                rw [← hbx] at HX4 hbx1 hbx2 hbx3 hbx4 hbx5 ⊢
                have HBX := Aside0.mk (And.intro hbx1 (And.intro hbx2 (And.intro hbx3 (And.intro hbx4 hbx5))))
                clear hb4 hbx HP3 HBO3 hbx1 hbx2 hbx3 hbx4 hbx5
                have o0 : w4.cell? ⟨bo, 0, none⟩ = some (.int .i64 0) := (blk_cell HBO4.out 0).trans rfl
                have of0 := blk_frozen HBO4.out 0
                have o1 : w4.cell? ⟨bo, 1, none⟩ = some (.slice A1 l.length c1) := (blk_cell HBO4.out 1).trans rfl
                have of1 := blk_frozen HBO4.out 1
                have ol := blk_lt HBO4.out
                go_wp2_with fail
                have hsend := side_send HP4.out.sd (Kd.C_below HCL.out HP4.out.sd.bel) hc1 (by have := HWL.out; omega)
                rw [← HSS.out, HAP.out] at hsend
                refine hsend.mono ?_
                clear hsend
                rintro e w5 hpost
                rcases hpost with ⟨c', hbad, _⟩ | ⟨t', v', hok, rfl, hSd, hsz, hfr, hat⟩
                · cases hbad
                · injection hok with hok
                  subst hok
                  have HP5 := Aside0.mk (HP4.out.side hSd hfr (fun k e => by
                    rcases hat with h | ⟨b, h, hle⟩
                    · exact .inl (h ▸ e)
                    · rw [h] at e; injection e with e; exact .inr (by omega)))
                  have hvx : some bx ≠ v.ownBlock := fun e => by have := HBX.out.2.2.1 bx e.symm; omega
                  have HX5 := Aside0.mk ((hfr bx (blk_lt HX4.out) (blk_ne HX4.out HP4.out.sd.blk (by decide)) hvx).trans HX4.out)
                  have hvx2 : v'.ownBlock ≠ some bx := fun e => by
                    rcases hat with h | ⟨b, h, hle⟩
                    · exact hvx (e.symm.trans h)
                    · rw [h] at e
                      injection e with e
                      have := blk_lt HX4.out
                      omega
                  clear hSd hsz hfr hat o0 of0 o1 of1 ol
                  go_upto_region 15 with fail
                  have hb6 := below_alloc (Below.refl w5.heap.size w5) (.cells #[.int .u8 0, .int .u32 0] 28)
                  have HF6 := Aside0.mk (show (w5.alloc (.cells #[.int .u8 0, .int .u32 0] 28)).heap[w5.heap.size]? = some (.cells #[.int .u8 0, .int .u32 0] 28 (0, 0)) from last_at _ _ _ rfl)
                  have HP6 := Aside0.mk (HP5.out.below hb6)
                  have HX6 := Aside0.mk (blk_below HX5.out hb6)
                  generalize w5.alloc (.cells #[.int .u8 0, .int .u32 0] 28) = w6 at hb6 HF6 HP6 HX6 ⊢
                  obtain ⟨bf, hbf⟩ : ∃ bf, bf = w5.heap.size := ⟨_, rfl⟩
                  rw [← hbf] at HF6 ⊢
                  clear hb6 hbf HP5 HX5
                  have f0 : w6.cell? ⟨bf, 0, none⟩ = some (.int .u8 0) := (blk_cell HF6.out 0).trans rfl
                  have ff0 := blk_frozen HF6.out 0
                  have f1 : w6.cell? ⟨bf, 1, none⟩ = some (.int .u32 0) := (blk_cell HF6.out 1).trans rfl
                  have ff1 := blk_frozen HF6.out 1
                  have fl := blk_lt HF6.out
                  have x0 : w6.cell? ⟨bx, 0, none⟩ = some (.int .u32 t.f0) := (blk_cell HX6.out 0).trans rfl
                  have xf0 := blk_frozen HX6.out 0
                  have x1 : w6.cell? ⟨bx, 1, none⟩ = some (.bool t.f1) := (blk_cell HX6.out 1).trans rfl
                  have xf1 := blk_frozen HX6.out 1
                  have x2 : w6.cell? ⟨bx, 2, none⟩ = some (.int .u32 t.f2) := (blk_cell HX6.out 2).trans rfl
                  have xf2 := blk_frozen HX6.out 2
                  have x3 : w6.cell? ⟨bx, 3, none⟩ = some (.int .u32 t.f3) := (blk_cell HX6.out 3).trans rfl
                  have xf3 := blk_frozen HX6.out 3
                  have x4 : w6.cell? ⟨bx, 4, none⟩ = some (.int .u32 t.f4) := (blk_cell HX6.out 4).trans rfl
                  have xf4 := blk_frozen HX6.out 4
                  have x5 : w6.cell? ⟨bx, 5, none⟩ = some (.int .u32 t.f5) := (blk_cell HX6.out 5).trans rfl
                  have xf5 := blk_frozen HX6.out 5
                  have x6 : w6.cell? ⟨bx, 6, none⟩ = some (.bool t.f6) := (blk_cell HX6.out 6).trans rfl
                  have xf6 := blk_frozen HX6.out 6
                  have xl := blk_lt HX6.out
                  have l0 : w6.cell? ⟨bl, 0, none⟩ = some (.int .u32 s.f0) := (blk_cell HP6.out.xl 0).trans rfl
                  have lf0 := blk_frozen HP6.out.xl 0
                  have l1 : w6.cell? ⟨bl, 1, none⟩ = some (.bool s.f1) := (blk_cell HP6.out.xl 1).trans rfl
                  have lf1 := blk_frozen HP6.out.xl 1
                  have l2 : w6.cell? ⟨bl, 2, none⟩ = some (.int .u32 s.f2) := (blk_cell HP6.out.xl 2).trans rfl
                  have lf2 := blk_frozen HP6.out.xl 2
                  have l3 : w6.cell? ⟨bl, 3, none⟩ = some (.int .u32 s.f3) := (blk_cell HP6.out.xl 3).trans rfl
                  have lf3 := blk_frozen HP6.out.xl 3
                  have l4 : w6.cell? ⟨bl, 4, none⟩ = some (.int .u32 s.f4) := (blk_cell HP6.out.xl 4).trans rfl
                  have lf4 := blk_frozen HP6.out.xl 4
                  have l5 : w6.cell? ⟨bl, 5, none⟩ = some (.int .u32 s.f5) := (blk_cell HP6.out.xl 5).trans rfl
                  have lf5 := blk_frozen HP6.out.xl 5
                  have l6 : w6.cell? ⟨bl, 6, none⟩ = some (.bool s.f6) := (blk_cell HP6.out.xl 6).trans rfl
                  have lf6 := blk_frozen HP6.out.xl 6
                  have ll := blk_lt HP6.out.xl
                  go_upto_region 21 with fail
                  have hxs : (((((((w6.setCell ⟨bl, 0, none⟩ (.int .u32 t.f0)).setCell ⟨bl, 1, none⟩ (.bool t.f1)).setCell ⟨bl, 2, none⟩ (.int .u32 t.f2)).setCell ⟨bl, 3, none⟩ (.int .u32 t.f3)).setCell ⟨bl, 4, none⟩ (.int .u32 t.f4)).setCell ⟨bl, 5, none⟩ (.int .u32 t.f5)).setCell ⟨bl, 6, none⟩ (.bool t.f6)).heap[bl]? = some (.cells #[.int .u32 t.f0, .bool t.f1, .int .u32 t.f2, .int .u32 t.f3, .int .u32 t.f4, .int .u32 t.f5, .bool t.f6] 24 (0, 0)) := (blk_put (blk_put (blk_put (blk_put (blk_put (blk_put (blk_put HP6.out.xl 0 (.int .u32 t.f0) rfl) 1 (.bool t.f1) rfl) 2 (.int .u32 t.f2) rfl) 3 (.int .u32 t.f3) rfl) 4 (.int .u32 t.f4) rfl) 5 (.int .u32 t.f5) rfl) 6 (.bool t.f6) rfl)
                  have HP7 := Aside0.mk (HP6.out.farl (fun k hk => heap_sets7 hk) hxs (sets7 HP6.out.sd.bel HP6.out.lol))
                  have HX7 := Aside0.mk (show (((((((w6.setCell ⟨bl, 0, none⟩ (.int .u32 t.f0)).setCell ⟨bl, 1, none⟩ (.bool t.f1)).setCell ⟨bl, 2, none⟩ (.int .u32 t.f2)).setCell ⟨bl, 3, none⟩ (.int .u32 t.f3)).setCell ⟨bl, 4, none⟩ (.int .u32 t.f4)).setCell ⟨bl, 5, none⟩ (.int .u32 t.f5)).setCell ⟨bl, 6, none⟩ (.bool t.f6)).heap[bx]? = some (.cells #[.int .u32 t.f0, .bool t.f1, .int .u32 t.f2, .int .u32 t.f3, .int .u32 t.f4, .int .u32 t.f5, .bool t.f6] 24 (0, 0)) from (heap_sets7 (show bx ≠ bl from fun e => by have := HBX.out.2.1; omega)).trans HX6.out)
                  generalize (((((((w6.setCell ⟨bl, 0, none⟩ (.int .u32 t.f0)).setCell ⟨bl, 1, none⟩ (.bool t.f1)).setCell ⟨bl, 2, none⟩ (.int .u32 t.f2)).setCell ⟨bl, 3, none⟩ (.int .u32 t.f3)).setCell ⟨bl, 4, none⟩ (.int .u32 t.f4)).setCell ⟨bl, 5, none⟩ (.int .u32 t.f5)).setCell ⟨bl, 6, none⟩ (.bool t.f6)) = w7 at HP7 HX7 ⊢
                  clear f0 ff0 f1 ff1 fl
                  clear x0 xf0 x1 xf1 x2 xf2 x3 xf3 x4 xf4 x5 xf5 x6 xf6 xl
                  clear l0 lf0 l1 lf1 l2 lf2 l3 lf3 l4 lf4 l5 lf5 l6 lf6 ll
                  have x0 : w7.cell? ⟨bx, 0, none⟩ = some (.int .u32 t.f0) := (blk_cell HX7.out 0).trans rfl
                  have xf0 := blk_frozen HX7.out 0
                  have x1 : w7.cell? ⟨bx, 1, none⟩ = some (.bool t.f1) := (blk_cell HX7.out 1).trans rfl
                  have xf1 := blk_frozen HX7.out 1
                  have x2 : w7.cell? ⟨bx, 2, none⟩ = some (.int .u32 t.f2) := (blk_cell HX7.out 2).trans rfl
                  have xf2 := blk_frozen HX7.out 2
                  have x3 : w7.cell? ⟨bx, 3, none⟩ = some (.int .u32 t.f3) := (blk_cell HX7.out 3).trans rfl
                  have xf3 := blk_frozen HX7.out 3
                  have x4 : w7.cell? ⟨bx, 4, none⟩ = some (.int .u32 t.f4) := (blk_cell HX7.out 4).trans rfl
                  have xf4 := blk_frozen HX7.out 4
                  have x5 : w7.cell? ⟨bx, 5, none⟩ = some (.int .u32 t.f5) := (blk_cell HX7.out 5).trans rfl
                  have xf5 := blk_frozen HX7.out 5
                  have x6 : w7.cell? ⟨bx, 6, none⟩ = some (.bool t.f6) := (blk_cell HX7.out 6).trans rfl
                  have xf6 := blk_frozen HX7.out 6
                  have xl := blk_lt HX7.out
                  have HI : Aside0 ((Try.prog.info? 24).map (fun i => (i.zero, i.size, i.bytes)) = some (some (.agg #[.int .u32 0, .bool false, .int .u32 0, .int .u32 0, .int .u32 0, .int .u32 0, .bool false]), 7, 28)) := ⟨by kernel_rfl⟩
                  have HLEN := Aside0.mk (show (ws.length + 1) * 28 ≤ 140737488355328 by have := HWL.out; omega)
                  clear hxs HP6 HX6 HF6 HP4 HX4
                  go_wp2_with (at_builtin; refine Kd.Q_append k24 (w0 := w) w.heap.size rfl (.tmp 57) (.tmp 59) 48 24 (.agg #[.int .u32 0, .bool false, .int .u32 0, .int .u32 0, .int .u32 0, .int .u32 0, .bool false]) 28 rfl Try.underlying48 HI.out rfl (by decide) (by decide) _ ws t [.int .u32 t.f0, .bool t.f1, .int .u32 t.f2, .int .u32 t.f3, .int .u32 t.f4, .int .u32 t.f5, .bool t.f6] (fun k => some k ≠ v'.ownBlock ∧ k ≠ bn ∧ k ≠ bl) (fun _ => False) rfl rfl (k24_mkM _ _ _ t) (fun _ h => h.elim) (fun k hk => ⟨fun e => by have := Kd.Q_lt HP7.out.sd.row k e.symm; omega, fun e => by have := blk_lt HP7.out.xn; omega, fun e => by have := blk_lt HP7.out.xl; omega⟩) HP7.out.row HP7.out.sd.bel HP7.out.sd.bel.size HLEN.out ?_; intro v1 w8 hq hb8 hg8 hat8; have HQ8 := Aside0.mk hq; have HB8 := Aside0.mk hb8; have HG8 := Aside0.mk hg8; clear hq hb8 hg8 hat8)
                  go_meet
                  case rel => exact ⟨v', now, ws ++ [t], by have := HWL.out; simp; omega, by rw [show lastS now (ws ++ [t]) = t by simp [lastS]]; exact HP7.out.push HG8.out HB8.out HQ8.out⟩
            · have hk1 : (k0 == 0) = false := beq_eq_false_iff_ne.mpr hk
              clear o1 of1 ol
              go_wp2_with fail
              refine (side_ack HP1.out.sd).mono ?_
              rintro e w3 hpost
              rcases hpost with ⟨hws, rfl, hb⟩ | ⟨x, r, v', hws, rfl, hSd, hk3, hown⟩
              · subst hws
                have HP3 := Aside0.mk (HP1.out.below hb)
                clear hb
                go_upto_region 23 with fail
                have hb4 : Below w3.heap.size w3 ((w3.alloc (.cells #[.int .u32 now.f0, .bool now.f1, .int .u32 now.f2, .int .u32 now.f3, .int .u32 now.f4, .int .u32 now.f5, .bool now.f6] 24)).alloc (.cells #[.int .u8 1, .int .u32 1] 28)) := below_alloc (below_alloc (Below.refl _ _) _) _
                have hx12 : ((w3.alloc (.cells #[.int .u32 now.f0, .bool now.f1, .int .u32 now.f2, .int .u32 now.f3, .int .u32 now.f4, .int .u32 now.f5, .bool now.f6] 24)).alloc (.cells #[.int .u8 1, .int .u32 1] 28)).heap[w3.heap.size]? = some (.cells #[.int .u32 now.f0, .bool now.f1, .int .u32 now.f2, .int .u32 now.f3, .int .u32 now.f4, .int .u32 now.f5, .bool now.f6] 24 (0, 0)) := blk_alloc (last_at _ _ _ rfl) _
                have hx13 : ((w3.alloc (.cells #[.int .u32 now.f0, .bool now.f1, .int .u32 now.f2, .int .u32 now.f3, .int .u32 now.f4, .int .u32 now.f5, .bool now.f6] 24)).alloc (.cells #[.int .u8 1, .int .u32 1] 28)).heap[w3.heap.size + 1]? = some (.cells #[.int .u8 1, .int .u32 1] 28 (0, 0)) := last_at _ _ _ (by simp)
                have HP4 := Aside0.mk (HP3.out.below hb4)
                generalize (w3.alloc (.cells #[.int .u32 now.f0, .bool now.f1, .int .u32 now.f2, .int .u32 now.f3, .int .u32 now.f4, .int .u32 now.f5, .bool now.f6] 24)).alloc (.cells #[.int .u8 1, .int .u32 1] 28) = w4 at hb4 hx12 hx13 HP4 ⊢
                obtain ⟨ba, hba⟩ : ∃ ba, ba = w3.heap.size := ⟨_, rfl⟩
                have hb12 := blk_lt HP3.out.xn
                have hb13 := blk_lt HP3.out.xl
                have hb14 := blk_lt HP3.out.sd.blk
                have hb15 := blk_lt hx13
                rw [← hba] at hx12 hx13 hb12 hb13 hb14 hb15 ⊢
                clear hba hb4
                go_upto_region 24 with fail
                have hb5 := below_alloc (Below.refl w4.heap.size w4) (.cells #[.int .u8 0, .int .u32 0] 28)
                have hx14 : (w4.alloc (.cells #[.int .u8 0, .int .u32 0] 28)).heap[w4.heap.size]? = some (.cells #[.int .u8 0, .int .u32 0] 28 (0, 0)) := last_at _ _ _ rfl
                have HX12 := Aside0.mk (blk_below hx12 hb5)
                have HX13 := Aside0.mk (blk_below hx13 hb5)
                have HP5 := Aside0.mk (HP4.out.below hb5)
                have HB5 := Aside0.mk hb5
                generalize w4.alloc (.cells #[.int .u8 0, .int .u32 0] 28) = w5 at hb5 hx14 HX12 HX13 HP5 HB5 ⊢
                have HX14 := Aside0.mk hx14
                obtain ⟨bw, hbw⟩ : ∃ bw, bw = w4.heap.size := ⟨_, rfl⟩
                have HBW := Aside0.mk (show w4.heap.size ≤ bw by omega)
                rw [← hbw] at HX14 hb15 ⊢
                clear hx12 hx13 hx14 hb5 hbw
                have a0 : w5.cell? ⟨ba, 0, none⟩ = some (.int .u32 now.f0) := (blk_cell HX12.out 0).trans rfl
                have af0 := blk_frozen HX12.out 0
                have a1 : w5.cell? ⟨ba, 1, none⟩ = some (.bool now.f1) := (blk_cell HX12.out 1).trans rfl
                have af1 := blk_frozen HX12.out 1
                have a2 : w5.cell? ⟨ba, 2, none⟩ = some (.int .u32 now.f2) := (blk_cell HX12.out 2).trans rfl
                have af2 := blk_frozen HX12.out 2
                have a3 : w5.cell? ⟨ba, 3, none⟩ = some (.int .u32 now.f3) := (blk_cell HX12.out 3).trans rfl
                have af3 := blk_frozen HX12.out 3
                have a4 : w5.cell? ⟨ba, 4, none⟩ = some (.int .u32 now.f4) := (blk_cell HX12.out 4).trans rfl
                have af4 := blk_frozen HX12.out 4
                have a5 : w5.cell? ⟨ba, 5, none⟩ = some (.int .u32 now.f5) := (blk_cell HX12.out 5).trans rfl
                have af5 := blk_frozen HX12.out 5
                have a6 : w5.cell? ⟨ba, 6, none⟩ = some (.bool now.f6) := (blk_cell HX12.out 6).trans rfl
                have af6 := blk_frozen HX12.out 6
                have al := blk_lt HX12.out
                have f0 : w5.cell? ⟨(ba + 1), 0, none⟩ = some (.int .u8 1) := (blk_cell HX13.out 0).trans rfl
                have ff0 := blk_frozen HX13.out 0
                have f1 : w5.cell? ⟨(ba + 1), 1, none⟩ = some (.int .u32 1) := (blk_cell HX13.out 1).trans rfl
                have ff1 := blk_frozen HX13.out 1
                have fl := blk_lt HX13.out
                have x0 : w5.cell? ⟨bw, 0, none⟩ = some (.int .u8 0) := (blk_cell HX14.out 0).trans rfl
                have xf0 := blk_frozen HX14.out 0
                have x1 : w5.cell? ⟨bw, 1, none⟩ = some (.int .u32 0) := (blk_cell HX14.out 1).trans rfl
                have xf1 := blk_frozen HX14.out 1
                have xl := blk_lt HX14.out
                have n0 : w5.cell? ⟨bn, 0, none⟩ = some (.int .u32 now.f0) := (blk_cell HP5.out.xn 0).trans rfl
                have nf0 := blk_frozen HP5.out.xn 0
                have n1 : w5.cell? ⟨bn, 1, none⟩ = some (.bool now.f1) := (blk_cell HP5.out.xn 1).trans rfl
                have nf1 := blk_frozen HP5.out.xn 1
                have n2 : w5.cell? ⟨bn, 2, none⟩ = some (.int .u32 now.f2) := (blk_cell HP5.out.xn 2).trans rfl
                have nf2 := blk_frozen HP5.out.xn 2
                have n3 : w5.cell? ⟨bn, 3, none⟩ = some (.int .u32 now.f3) := (blk_cell HP5.out.xn 3).trans rfl
                have nf3 := blk_frozen HP5.out.xn 3
                have n4 : w5.cell? ⟨bn, 4, none⟩ = some (.int .u32 now.f4) := (blk_cell HP5.out.xn 4).trans rfl
                have nf4 := blk_frozen HP5.out.xn 4
                have n5 : w5.cell? ⟨bn, 5, none⟩ = some (.int .u32 now.f5) := (blk_cell HP5.out.xn 5).trans rfl
                have nf5 := blk_frozen HP5.out.xn 5
                have n6 : w5.cell? ⟨bn, 6, none⟩ = some (.bool now.f6) := (blk_cell HP5.out.xn 6).trans rfl
                have nf6 := blk_frozen HP5.out.xn 6
                have nl := blk_lt HP5.out.xn
                have ha1 : ba + 1 ≠ bw := by omega
                go_wp2_with fail
                go_meet
                case rel => exact ⟨v, now, [], by simp, HP4.out.below (Below.setCell (p := ⟨bw, 1, none⟩) (Below.setCell (p := ⟨bw, 0, none⟩) HB5.out HBW.out _) HBW.out _)⟩
              · obtain ⟨nw_, hnl⟩ : ∃ nw_, nw_ = ws.length := ⟨_, rfl⟩
                rw [← hnl] at HP1 hcw ⊢
                subst hws
                have HP3 := Aside0.mk (HP1.out.side hSd (fun k h1 h2 _ => hk3.2 k h1 h2 (by simp)) (fun k e => .inl (hown k e)))
                have HLS := Aside0.mk (show lastS now (x :: r) = lastS x r by cases r <;> rfl)
                have HWX := Aside0.mk (show r.length + 1 ≤ i by have := HWL.out; simpa using this)
                have HNL := Aside0.mk (show nw_ = r.length + 1 by rw [hnl]; simp)
                have hn0 : nw_ ≠ 0 := by rw [HNL.out]; omega
                clear hSd hk3 hown hnl
                go_upto_region 23 with fail
                have hb4 : Below w3.heap.size w3 ((w3.alloc (.cells #[.int .u32 x.f0, .bool x.f1, .int .u32 x.f2, .int .u32 x.f3, .int .u32 x.f4, .int .u32 x.f5, .bool x.f6] 24)).alloc (.cells #[.int .u8 0, .int .u32 0] 28)) := below_alloc (below_alloc (Below.refl _ _) _) _
                have hx12 : ((w3.alloc (.cells #[.int .u32 x.f0, .bool x.f1, .int .u32 x.f2, .int .u32 x.f3, .int .u32 x.f4, .int .u32 x.f5, .bool x.f6] 24)).alloc (.cells #[.int .u8 0, .int .u32 0] 28)).heap[w3.heap.size]? = some (.cells #[.int .u32 x.f0, .bool x.f1, .int .u32 x.f2, .int .u32 x.f3, .int .u32 x.f4, .int .u32 x.f5, .bool x.f6] 24 (0, 0)) := blk_alloc (last_at _ _ _ rfl) _
                have hx13 : ((w3.alloc (.cells #[.int .u32 x.f0, .bool x.f1, .int .u32 x.f2, .int .u32 x.f3, .int .u32 x.f4, .int .u32 x.f5, .bool x.f6] 24)).alloc (.cells #[.int .u8 0, .int .u32 0] 28)).heap[w3.heap.size + 1]? = some (.cells #[.int .u8 0, .int .u32 0] 28 (0, 0)) := last_at _ _ _ (by simp)
                have HP4 := Aside0.mk (HP3.out.below hb4)
                generalize (w3.alloc (.cells #[.int .u32 x.f0, .bool x.f1, .int .u32 x.f2, .int .u32 x.f3, .int .u32 x.f4, .int .u32 x.f5, .bool x.f6] 24)).alloc (.cells #[.int .u8 0, .int .u32 0] 28) = w4 at hb4 hx12 hx13 HP4 ⊢
                obtain ⟨ba, hba⟩ : ∃ ba, ba = w3.heap.size := ⟨_, rfl⟩
                have hb12 := blk_lt HP3.out.xn
                have hb13 := blk_lt HP3.out.xl
                have hb14 := blk_lt HP3.out.sd.blk
                have hb15 := blk_lt hx13
                rw [← hba] at hx12 hx13 hb12 hb13 hb14 hb15 ⊢
                clear hba hb4
                go_upto_region 24 with fail
                have hb5 := below_alloc (Below.refl w4.heap.size w4) (.cells #[.int .u8 0, .int .u32 0] 28)
                have hx14 : (w4.alloc (.cells #[.int .u8 0, .int .u32 0] 28)).heap[w4.heap.size]? = some (.cells #[.int .u8 0, .int .u32 0] 28 (0, 0)) := last_at _ _ _ rfl
                have HX12 := Aside0.mk (blk_below hx12 hb5)
                have HX13 := Aside0.mk (blk_below hx13 hb5)
                have HP5 := Aside0.mk (HP4.out.below hb5)
                have HB5 := Aside0.mk hb5
                generalize w4.alloc (.cells #[.int .u8 0, .int .u32 0] 28) = w5 at hb5 hx14 HX12 HX13 HP5 HB5 ⊢
                have HX14 := Aside0.mk hx14
                obtain ⟨bw, hbw⟩ : ∃ bw, bw = w4.heap.size := ⟨_, rfl⟩
                have HBW := Aside0.mk (show w4.heap.size ≤ bw by omega)
                rw [← hbw] at HX14 hb15 ⊢
                clear hx12 hx13 hx14 hb5 hbw
                have hz : ((nw_ : Int) == 0) = false := beq_eq_false_iff_ne.mpr (by omega)
                obtain ⟨gq, oq, cap, eq, hbq, hlq, cellsq, hcq⟩ := Kd.Q_form HP5.out.row (by simp)
                injection eq with e1 e2 e3
                subst e1; subst e3; clear e2
                obtain ⟨cs, hlen, hM, hcell, hfro⟩ := Kd.Q_elem HP5.out.row z24 0 (by omega) (by omega)
                have hM2 : k24.M w5 w.heap.size _ x cs := hM
                obtain rfl := k24_openM hM2
                have hkk : ∀ j : Nat, oq + (0 : Int).toNat * k24.sz + j = oq + j := fun j => by simp
                have q0' := hcell 0 _ rfl
                rw [hkk 0] at q0'
                have q0 : w5.cell? ⟨gq, oq, none⟩ = some (.int .u32 x.f0) := q0'
                clear q0'
                have q1' := hcell 1 _ rfl
                rw [hkk 1] at q1'
                have q1 : w5.cell? ⟨gq, oq + 1, none⟩ = some (.bool x.f1) := q1'
                clear q1'
                have q2' := hcell 2 _ rfl
                rw [hkk 2] at q2'
                have q2 : w5.cell? ⟨gq, oq + 2, none⟩ = some (.int .u32 x.f2) := q2'
                clear q2'
                have q3' := hcell 3 _ rfl
                rw [hkk 3] at q3'
                have q3 : w5.cell? ⟨gq, oq + 3, none⟩ = some (.int .u32 x.f3) := q3'
                clear q3'
                have q4' := hcell 4 _ rfl
                rw [hkk 4] at q4'
                have q4 : w5.cell? ⟨gq, oq + 4, none⟩ = some (.int .u32 x.f4) := q4'
                clear q4'
                have q5' := hcell 5 _ rfl
                rw [hkk 5] at q5'
                have q5 : w5.cell? ⟨gq, oq + 5, none⟩ = some (.int .u32 x.f5) := q5'
                clear q5'
                have q6' := hcell 6 _ rfl
                rw [hkk 6] at q6'
                have q6 : w5.cell? ⟨gq, oq + 6, none⟩ = some (.bool x.f6) := q6'
                clear q6'
                have hgn : gq ≠ bn := (Kd.Q_ok HP5.out.row gq rfl).2.1
                have hgn2 : bn ≠ gq := fun e => hgn e.symm
                clear hM hM2 hcell hfro hlen hkk
                have n0 : w5.cell? ⟨bn, 0, none⟩ = some (.int .u32 now.f0) := (blk_cell HP5.out.xn 0).trans rfl
                have nf0 := blk_frozen HP5.out.xn 0
                have n1 : w5.cell? ⟨bn, 1, none⟩ = some (.bool now.f1) := (blk_cell HP5.out.xn 1).trans rfl
                have nf1 := blk_frozen HP5.out.xn 1
                have n2 : w5.cell? ⟨bn, 2, none⟩ = some (.int .u32 now.f2) := (blk_cell HP5.out.xn 2).trans rfl
                have nf2 := blk_frozen HP5.out.xn 2
                have n3 : w5.cell? ⟨bn, 3, none⟩ = some (.int .u32 now.f3) := (blk_cell HP5.out.xn 3).trans rfl
                have nf3 := blk_frozen HP5.out.xn 3
                have n4 : w5.cell? ⟨bn, 4, none⟩ = some (.int .u32 now.f4) := (blk_cell HP5.out.xn 4).trans rfl
                have nf4 := blk_frozen HP5.out.xn 4
                have n5 : w5.cell? ⟨bn, 5, none⟩ = some (.int .u32 now.f5) := (blk_cell HP5.out.xn 5).trans rfl
                have nf5 := blk_frozen HP5.out.xn 5
                have n6 : w5.cell? ⟨bn, 6, none⟩ = some (.bool now.f6) := (blk_cell HP5.out.xn 6).trans rfl
                have nf6 := blk_frozen HP5.out.xn 6
                have nl := blk_lt HP5.out.xn
                go_upto_region 27 with fail
                have hxs : (((((((w5.setCell ⟨bn, 0, none⟩ (.int .u32 x.f0)).setCell ⟨bn, 1, none⟩ (.bool x.f1)).setCell ⟨bn, 2, none⟩ (.int .u32 x.f2)).setCell ⟨bn, 3, none⟩ (.int .u32 x.f3)).setCell ⟨bn, 4, none⟩ (.int .u32 x.f4)).setCell ⟨bn, 5, none⟩ (.int .u32 x.f5)).setCell ⟨bn, 6, none⟩ (.bool x.f6)).heap[bn]? = some (.cells #[.int .u32 x.f0, .bool x.f1, .int .u32 x.f2, .int .u32 x.f3, .int .u32 x.f4, .int .u32 x.f5, .bool x.f6] 24 (0, 0)) := (blk_put (blk_put (blk_put (blk_put (blk_put (blk_put (blk_put HP5.out.xn 0 (.int .u32 x.f0) rfl) 1 (.bool x.f1) rfl) 2 (.int .u32 x.f2) rfl) 3 (.int .u32 x.f3) rfl) 4 (.int .u32 x.f4) rfl) 5 (.int .u32 x.f5) rfl) 6 (.bool x.f6) rfl)
                have HP6 := Aside0.mk (HP5.out.far (fun k hk => heap_sets7 hk) hxs (sets7 HP5.out.sd.bel HP5.out.lon))
                have HX12' := Aside0.mk (show (((((((w5.setCell ⟨bn, 0, none⟩ (.int .u32 x.f0)).setCell ⟨bn, 1, none⟩ (.bool x.f1)).setCell ⟨bn, 2, none⟩ (.int .u32 x.f2)).setCell ⟨bn, 3, none⟩ (.int .u32 x.f3)).setCell ⟨bn, 4, none⟩ (.int .u32 x.f4)).setCell ⟨bn, 5, none⟩ (.int .u32 x.f5)).setCell ⟨bn, 6, none⟩ (.bool x.f6)).heap[ba]? = some (.cells #[.int .u32 x.f0, .bool x.f1, .int .u32 x.f2, .int .u32 x.f3, .int .u32 x.f4, .int .u32 x.f5, .bool x.f6] 24 (0, 0)) from (heap_sets7 (show ba ≠ bn by omega)).trans HX12.out)
                have HX13' := Aside0.mk (show (((((((w5.setCell ⟨bn, 0, none⟩ (.int .u32 x.f0)).setCell ⟨bn, 1, none⟩ (.bool x.f1)).setCell ⟨bn, 2, none⟩ (.int .u32 x.f2)).setCell ⟨bn, 3, none⟩ (.int .u32 x.f3)).setCell ⟨bn, 4, none⟩ (.int .u32 x.f4)).setCell ⟨bn, 5, none⟩ (.int .u32 x.f5)).setCell ⟨bn, 6, none⟩ (.bool x.f6)).heap[ba + 1]? = some (.cells #[.int .u8 0, .int .u32 0] 28 (0, 0)) from (heap_sets7 (show ba + 1 ≠ bn by omega)).trans HX13.out)
                have HX14' := Aside0.mk (show (((((((w5.setCell ⟨bn, 0, none⟩ (.int .u32 x.f0)).setCell ⟨bn, 1, none⟩ (.bool x.f1)).setCell ⟨bn, 2, none⟩ (.int .u32 x.f2)).setCell ⟨bn, 3, none⟩ (.int .u32 x.f3)).setCell ⟨bn, 4, none⟩ (.int .u32 x.f4)).setCell ⟨bn, 5, none⟩ (.int .u32 x.f5)).setCell ⟨bn, 6, none⟩ (.bool x.f6)).heap[bw]? = some (.cells #[.int .u8 0, .int .u32 0] 28 (0, 0)) from (heap_sets7 (show bw ≠ bn by omega)).trans HX14.out)
                generalize (((((((w5.setCell ⟨bn, 0, none⟩ (.int .u32 x.f0)).setCell ⟨bn, 1, none⟩ (.bool x.f1)).setCell ⟨bn, 2, none⟩ (.int .u32 x.f2)).setCell ⟨bn, 3, none⟩ (.int .u32 x.f3)).setCell ⟨bn, 4, none⟩ (.int .u32 x.f4)).setCell ⟨bn, 5, none⟩ (.int .u32 x.f5)).setCell ⟨bn, 6, none⟩ (.bool x.f6)) = w6 at HP6 HX12' HX13' HX14' ⊢
                clear n0 nf0 n1 nf1 n2 nf2 n3 nf3 n4 nf4 n5 nf5 n6 nf6 nl
                have a0 : w6.cell? ⟨ba, 0, none⟩ = some (.int .u32 x.f0) := (blk_cell HX12'.out 0).trans rfl
                have af0 := blk_frozen HX12'.out 0
                have a1 : w6.cell? ⟨ba, 1, none⟩ = some (.bool x.f1) := (blk_cell HX12'.out 1).trans rfl
                have af1 := blk_frozen HX12'.out 1
                have a2 : w6.cell? ⟨ba, 2, none⟩ = some (.int .u32 x.f2) := (blk_cell HX12'.out 2).trans rfl
                have af2 := blk_frozen HX12'.out 2
                have a3 : w6.cell? ⟨ba, 3, none⟩ = some (.int .u32 x.f3) := (blk_cell HX12'.out 3).trans rfl
                have af3 := blk_frozen HX12'.out 3
                have a4 : w6.cell? ⟨ba, 4, none⟩ = some (.int .u32 x.f4) := (blk_cell HX12'.out 4).trans rfl
                have af4 := blk_frozen HX12'.out 4
                have a5 : w6.cell? ⟨ba, 5, none⟩ = some (.int .u32 x.f5) := (blk_cell HX12'.out 5).trans rfl
                have af5 := blk_frozen HX12'.out 5
                have a6 : w6.cell? ⟨ba, 6, none⟩ = some (.bool x.f6) := (blk_cell HX12'.out 6).trans rfl
                have af6 := blk_frozen HX12'.out 6
                have al := blk_lt HX12'.out
                have f0 : w6.cell? ⟨(ba + 1), 0, none⟩ = some (.int .u8 0) := (blk_cell HX13'.out 0).trans rfl
                have ff0 := blk_frozen HX13'.out 0
                have f1 : w6.cell? ⟨(ba + 1), 1, none⟩ = some (.int .u32 0) := (blk_cell HX13'.out 1).trans rfl
                have ff1 := blk_frozen HX13'.out 1
                have fl := blk_lt HX13'.out
                have x0 : w6.cell? ⟨bw, 0, none⟩ = some (.int .u8 0) := (blk_cell HX14'.out 0).trans rfl
                have xf0 := blk_frozen HX14'.out 0
                have x1 : w6.cell? ⟨bw, 1, none⟩ = some (.int .u32 0) := (blk_cell HX14'.out 1).trans rfl
                have xf1 := blk_frozen HX14'.out 1
                have xl := blk_lt HX14'.out
                have n0 : w6.cell? ⟨bn, 0, none⟩ = some (.int .u32 x.f0) := (blk_cell HP6.out.xn 0).trans rfl
                have nf0 := blk_frozen HP6.out.xn 0
                have n1 : w6.cell? ⟨bn, 1, none⟩ = some (.bool x.f1) := (blk_cell HP6.out.xn 1).trans rfl
                have nf1 := blk_frozen HP6.out.xn 1
                have n2 : w6.cell? ⟨bn, 2, none⟩ = some (.int .u32 x.f2) := (blk_cell HP6.out.xn 2).trans rfl
                have nf2 := blk_frozen HP6.out.xn 2
                have n3 : w6.cell? ⟨bn, 3, none⟩ = some (.int .u32 x.f3) := (blk_cell HP6.out.xn 3).trans rfl
                have nf3 := blk_frozen HP6.out.xn 3
                have n4 : w6.cell? ⟨bn, 4, none⟩ = some (.int .u32 x.f4) := (blk_cell HP6.out.xn 4).trans rfl
                have nf4 := blk_frozen HP6.out.xn 4
                have n5 : w6.cell? ⟨bn, 5, none⟩ = some (.int .u32 x.f5) := (blk_cell HP6.out.xn 5).trans rfl
                have nf5 := blk_frozen HP6.out.xn 5
                have n6 : w6.cell? ⟨bn, 6, none⟩ = some (.bool x.f6) := (blk_cell HP6.out.xn 6).trans rfl
                have nf6 := blk_frozen HP6.out.xn 6
                have nl := blk_lt HP6.out.xn
                clear q0 q1 q2 q3 q4 q5 q6 hxs HP5 HP4 HX12 HX13 HX14 HB5
                have p1 : (1 : Int) ≤ (nw_ : Int) := by omega
                have p2 : (1 : Int) ≤ (cw : Int) := by omega
                have p3 : (nw_ : Int) ≤ (cw : Int) := by omega
                by_cases hc1 : cw = 1
                · have HQ6 := Aside0.mk (show Kd.Q k24 24 w6 w.heap.size (fun k => some k ≠ v'.ownBlock ∧ k ≠ bn ∧ k ≠ bl) (.slice (some ⟨gq, oq, none⟩) 0 0) r from (by
                    have hd := Kd.Q_drop (k := 1) HP6.out.row (by simp)
                    rw [if_pos hc1, show nw_ - 1 = 0 by omega, hc1] at hd
                    exact hd))
                  subst hc1
                  go_wp2_with fail
                  go_meet
                  case rel => exact ⟨v', x, r, by have := HWX.out; omega, by rw [← HLS.out]; exact HP6.out.row_ HQ6.out⟩
                · have hc2 : (cw == 1) = false := beq_eq_false_iff_ne.mpr hc1
                  have HQ6 := Aside0.mk (show Kd.Q k24 24 w6 w.heap.size (fun k => some k ≠ v'.ownBlock ∧ k ≠ bn ∧ k ≠ bl) (.slice (some ⟨gq, oq + 7, none⟩) (nw_ - 1) (cw - 1)) r from (by
                    have hd := Kd.Q_drop (k := 1) HP6.out.row (by simp)
                    rw [if_neg hc1] at hd
                    exact hd))
                  go_wp2_with fail
                  go_meet
                  case rel => exact ⟨v', x, r, by have := HWX.out; omega, by rw [← HLS.out]; exact HP6.out.row_ HQ6.out⟩
          case rest =>
            obtain ⟨v2, now2, ws2, hwl2, hP2⟩ := hcut
            obtain ⟨Aw2, cw2, rfl, _⟩ := Kd.Q_slice hP2.row
            obtain ⟨la2, hla⟩ : ∃ la2, la2 = lastS now2 ws2 := ⟨_, rfl⟩
            rw [← hla] at hP2
            have HLA := Aside0.mk hla
            have HP2 := Aside0.mk hP2
            have HWL2 := Aside0.mk hwl2
            clear hla hP2 hwl2 HP1 HBO o0 of0 o1 of1 ol
            go_upto_region 30 with fail
            refine wp_region_noPanic ?_
            refine wp_region_held_drew (S := fun w' => Aside0 (Pl w w' g bn bl v2 (.slice Aw2 ws2.length cw2) now2 ws2 now2 la2 ws2) ∧ w'.cell? ⟨bn, 0, none⟩ = some (.int .u32 now2.f0) ∧ w'.cell? ⟨bn, 1, none⟩ = some (.bool now2.f1) ∧ w'.cell? ⟨bn, 2, none⟩ = some (.int .u32 now2.f2) ∧ w'.cell? ⟨bn, 3, none⟩ = some (.int .u32 now2.f3) ∧ w'.cell? ⟨bn, 4, none⟩ = some (.int .u32 now2.f4) ∧ w'.cell? ⟨bn, 5, none⟩ = some (.int .u32 now2.f5) ∧ w'.cell? ⟨bn, 6, none⟩ = some (.bool now2.f6) ∧ w'.cell? ⟨bl, 0, none⟩ = some (.int .u32 la2.f0) ∧ w'.cell? ⟨bl, 1, none⟩ = some (.bool la2.f1) ∧ w'.cell? ⟨bl, 2, none⟩ = some (.int .u32 la2.f2) ∧ w'.cell? ⟨bl, 3, none⟩ = some (.int .u32 la2.f3) ∧ w'.cell? ⟨bl, 4, none⟩ = some (.int .u32 la2.f4) ∧ w'.cell? ⟨bl, 5, none⟩ = some (.int .u32 la2.f5) ∧ w'.cell? ⟨bl, 6, none⟩ = some (.bool la2.f6)) (by kernel_rfl) (PS (HP2.out.below (below_drew (Below.refl _ _)))) (fun hHeld => ?_)
            refine takeN (i := 0) (N := (some 84)) (v := ?v1) (a' := ?a1) rfl rfl (by kernel_rfl) (by kernel_rfl) (by kernel_rfl) (fun _ _ _ h => h) (Or.inl ⟨by rfl, ?hy1⟩) ?ha1 (by assumption) ?rest1
            case hy1 =>
              intro w_ hSw_
              go_simp
              first | done | (with_reducible rfl)
            case ha1 =>
              simp only [Act.put, List.setIfInBounds_toArray, List.set_cons_zero, List.set_cons_succ]
              rfl
            refine takeN (i := 2) (N := (some 86)) (v := ?v2) (a' := ?a2) rfl rfl (by kernel_rfl) (by kernel_rfl) (by kernel_rfl) (fun _ _ _ h => h) (Or.inl ⟨by rfl, ?hy2⟩) ?ha2 (by assumption) ?rest2
            case hy2 =>
              intro w_ hSw_
              go_simp
              first | done | (with_reducible rfl)
            case ha2 =>
              simp only [Act.put, List.setIfInBounds_toArray, List.set_cons_zero, List.set_cons_succ]
              rfl
            refine wpAnyH_ready (rs := [1]) (by kernel_rfl) (by simp) ?_
            refine AllReadyH.cons rfl (fun K hK => ?_) AllReadyH.nil
            go_simp
            go_at_call 16
            with_reducible refine (side_now hHeld.1.out.sd).mono ?_
            rintro e w' ⟨rfl, hb⟩
            refine hK.out _ _ (PS (hHeld.1.out.below hb)) (fun hHeld => ?_)
            clear hK K
            try simp only [Act.put, List.setIfInBounds_toArray, List.set_cons_zero, List.set_cons_succ]
            refine takeN (i := 3) (N := (some 87)) (v := ?v3) (a' := ?a3) rfl rfl (by kernel_rfl) (by kernel_rfl) (by kernel_rfl) (fun _ _ _ h => h) (Or.inl ⟨by rfl, ?hy3⟩) ?ha3 (by assumption) ?rest3
            case hy3 =>
              intro w_ hSw_
              go_simp
              first | done | (with_reducible rfl)
            case ha3 =>
              simp only [Act.put, List.setIfInBounds_toArray, List.set_cons_zero, List.set_cons_succ]
              rfl
            refine takeN (i := 4) (N := (some 88)) (v := ?v4) (a' := ?a4) rfl rfl (by kernel_rfl) (by kernel_rfl) (by kernel_rfl) (fun _ _ _ h => h) (Or.inl ⟨by rfl, ?hy4⟩) ?ha4 (by assumption) ?rest4
            case hy4 =>
              intro w_ hSw_
              go_simp
              first | done | (with_reducible rfl)
            case ha4 =>
              simp only [Act.put, List.setIfInBounds_toArray, List.set_cons_zero, List.set_cons_succ]
              rfl
            refine takeN (i := 5) (N := (some 89)) (v := ?v5) (a' := ?a5) rfl rfl (by kernel_rfl) (by kernel_rfl) (by kernel_rfl) (fun _ _ _ h => h) (Or.inl ⟨by rfl, ?hy5⟩) ?ha5 (by assumption) ?rest5
            case hy5 =>
              intro w_ hSw_
              go_simp
              first | done | (with_reducible rfl)
            case ha5 =>
              simp only [Act.put, List.setIfInBounds_toArray, List.set_cons_zero, List.set_cons_succ]
              rfl
            refine takeN (i := 7) (N := (some 91)) (v := ?v6) (a' := ?a6) rfl rfl (by kernel_rfl) (by kernel_rfl) (by kernel_rfl) (fun _ _ _ h => h) (Or.inl ⟨by rfl, ?hy6⟩) ?ha6 (by assumption) ?rest6
            case hy6 =>
              intro w_ hSw_
              go_simp
              first | done | (with_reducible rfl)
            case ha6 =>
              simp only [Act.put, List.setIfInBounds_toArray, List.set_cons_zero, List.set_cons_succ]
              rfl
            refine wpAnyH_ready (rs := [6]) (by kernel_rfl) (by simp) ?_
            refine AllReadyH.cons rfl (fun K hK => ?_) AllReadyH.nil
            go_simp
            go_at_call 17
            with_reducible refine (side_last2 HLA.out hHeld.1.out.sd).mono ?_
            rintro e w' ⟨rfl, hb⟩
            refine hK.out _ _ (PS (hHeld.1.out.below hb)) (fun hHeld => ?_)
            clear hK K
            try simp only [Act.put, List.setIfInBounds_toArray, List.set_cons_zero, List.set_cons_succ]
            refine takeN (i := 8) (N := (some 92)) (v := ?v7) (a' := ?a7) rfl rfl (by kernel_rfl) (by kernel_rfl) (by kernel_rfl) (fun _ _ _ h => h) (Or.inl ⟨by rfl, ?hy7⟩) ?ha7 (by assumption) ?rest7
            case hy7 =>
              intro w_ hSw_
              go_simp
              first | done | (with_reducible rfl)
            case ha7 =>
              simp only [Act.put, List.setIfInBounds_toArray, List.set_cons_zero, List.set_cons_succ]
              rfl
            refine takeN (i := 9) (N := (some 93)) (v := ?v8) (a' := ?a8) rfl rfl (by kernel_rfl) (by kernel_rfl) (by kernel_rfl) (fun _ _ _ h => h) (Or.inl ⟨by rfl, ?hy8⟩) ?ha8 (by assumption) ?rest8
            case hy8 =>
              intro w_ hSw_
              go_simp
              first | done | (with_reducible rfl)
            case ha8 =>
              simp only [Act.put, List.setIfInBounds_toArray, List.set_cons_zero, List.set_cons_succ]
              rfl
            refine takeN (i := 10) (N := (some 94)) (v := ?v9) (a' := ?a9) rfl rfl (by kernel_rfl) (by kernel_rfl) (by kernel_rfl) (fun _ _ _ h => h) (Or.inl ⟨by rfl, ?hy9⟩) ?ha9 (by assumption) ?rest9
            case hy9 =>
              intro w_ hSw_
              go_simp
              first | done | (with_reducible rfl)
            case ha9 =>
              simp only [Act.put, List.setIfInBounds_toArray, List.set_cons_zero, List.set_cons_succ]
              rfl
            refine takeN (i := 11) (N := (some 95)) (v := ?v10) (a' := ?a10) rfl rfl (by kernel_rfl) (by kernel_rfl) (by kernel_rfl) (fun _ _ _ h => h) (Or.inl ⟨by rfl, ?hy10⟩) ?ha10 (by assumption) ?rest10
            case hy10 =>
              intro w_ hSw_
              go_simp
              first | done | (with_reducible rfl)
            case ha10 =>
              simp only [Act.put, List.setIfInBounds_toArray, List.set_cons_zero, List.set_cons_succ]
              rfl
            refine takeN (i := 13) (N := (some 97)) (v := ?v11) (a' := ?a11) rfl rfl (by kernel_rfl) (by kernel_rfl) (by kernel_rfl) (fun _ _ _ h => h) (Or.inl ⟨by rfl, ?hy11⟩) ?ha11 (by assumption) ?rest11
            case hy11 =>
              intro w_ hSw_
              go_simp
              first | done | (with_reducible rfl)
            case ha11 =>
              simp only [Act.put, List.setIfInBounds_toArray, List.set_cons_zero, List.set_cons_succ]
              rfl
            refine takeN (i := 14) (N := (some 98)) (v := ?v12) (a' := ?a12) rfl rfl (by kernel_rfl) (by kernel_rfl) (by kernel_rfl) (fun _ _ _ h => h) (Or.inl ⟨by rfl, ?hy12⟩) ?ha12 (by assumption) ?rest12
            case hy12 =>
              intro w_ hSw_
              go_simp
              first | done | (with_reducible rfl)
            case ha12 =>
              simp only [Act.put, List.setIfInBounds_toArray, List.set_cons_zero, List.set_cons_succ]
              rfl
            refine wpAnyH_ready (rs := [12]) (by kernel_rfl) (by simp) ?_
            refine AllReadyH.cons rfl (fun K hK => ?_) AllReadyH.nil
            go_simp
            go_at_call 18
            with_reducible refine (side_waits hHeld.1.out.sd).mono ?_
            rintro e w' ⟨rfl, hb⟩
            refine hK.out _ _ (PS (hHeld.1.out.below hb)) (fun hHeld => ?_)
            clear hK K
            try simp only [Act.put, List.setIfInBounds_toArray, List.set_cons_zero, List.set_cons_succ]
            refine takeN (i := 15) (N := (some 99)) (v := ?v13) (a' := ?a13) rfl rfl (by kernel_rfl) (by kernel_rfl) (by kernel_rfl) (fun _ _ _ h => h) (Or.inl ⟨by rfl, ?hy13⟩) ?ha13 (by assumption) ?rest13
            case hy13 =>
              intro w_ hSw_
              go_simp
              first | done | (with_reducible rfl)
            case ha13 =>
              simp only [Act.put, List.setIfInBounds_toArray, List.set_cons_zero, List.set_cons_succ]
              rfl
            refine takeN (i := 16) (N := (some 100)) (v := ?v14) (a' := ?a14) rfl rfl (by kernel_rfl) (by kernel_rfl) (by kernel_rfl) (fun _ _ _ h => h) (Or.inl ⟨by rfl, ?hy14⟩) ?ha14 (by assumption) ?rest14
            case hy14 =>
              intro w_ hSw_
              go_simp
              first | done | (with_reducible rfl)
            case ha14 =>
              simp only [Act.put, List.setIfInBounds_toArray, List.set_cons_zero, List.set_cons_succ]
              rfl
            refine wpAnyH_done (by kernel_rfl) ?_ _
            refine NoPanic.normal ?_
            have HP3 := Aside0.mk hHeld.1.out
            clear hHeld
            go_wp2_with fail
            go_roundg (x0.length - (i + 1))
            case measure => have := HI.out; omega
            case rel => exact ⟨i + 1, v2, _, now2, ws2, by rw [show ((i + 1 : Nat) : Int) = (i : Int) + 1 by omega], rfl, by omega, HWL2.out, HLA.out ▸ HP3.out⟩
      · have hie : i = x0.length := by have := HI.out; omega
        go_wp2_with fail
        refine (louverlaw09_fixed.calls true _ rfl).mono ?_
        rintro e w9 ⟨rfl, hb⟩
        have HB9 := Aside0.mk (below_step HP.out.sd.bel hb)
        clear hb
        go_wp2_with fail
        go_ret
        exact ⟨rfl, HB9.out⟩
end Go.Proofs.Ytehdljgbbaibcaa

