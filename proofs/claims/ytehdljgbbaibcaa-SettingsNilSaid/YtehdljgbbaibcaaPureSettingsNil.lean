import Derived.Test.YtehdljgbbaibcaaSaysSettingsNil
import Derived.Test.YtehdljgbbaibcaaPAllx3
import Derived.Test.YtehdljgbbaibcaaPAllx5
import Derived.Test.YtehdljgbbaibcaaPAllx3
import Derived.Test.YtehdljgbbaibcaaTake
namespace Go.Proofs.Ytehdljgbbaibcaa
open Go.RowKit Go.Proofs.YtehdljgbbaibcaaW.PrintWords Go.Proofs.YtehdljgbbaibcaaW.PrintLast Go.Proofs.YtehdljgbbaibcaaW.PrintMore Go.Proofs.Ytehdljgbbaibcaa.PAll
set_option linter.unusedVariables false
/-! The methods of a nil side -/
theorem waits_nil (w : World) : Calls Try.prog 18 #[.pointer none] w fun e w' => e = .returned (.int .i64 0) ∧ Below w.heap.size w w' := by
  go_enter Try.func18, Try.ntmps18
  go_wp2_with fail
  go_ret
  exact ⟨rfl, Below.refl _ _⟩
theorem now_nil (w : World) : Calls Try.prog 16 #[.pointer none] w fun e w' => e = .returned (.agg #[.int .u32 4096, .bool true, .int .u32 4294967295, .int .u32 65535, .int .u32 16384, .int .u32 4294967295, .bool false]) ∧ Below w.heap.size w w' := by
  have hu24 := Try.underlying24
  go_enter Try.func16, Try.ntmps16
  go_wp2_with fail
  refine (settings_Begin.calls 4096 true 4294967295 65535 16384 4294967295 false _ rfl).mono ?_
  rintro e w1 ⟨rfl, hb⟩
  have hb2 := below_step (below_alloc (Below.refl _ _) _) hb
  have ha : w1.heap[w.heap.size]? = some (.cells #[.int .u32 0, .bool false, .int .u32 0, .int .u32 0, .int .u32 0, .int .u32 0, .bool false] 24 (0, 0)) := blk_below (last_at w _ _ rfl) hb
  have ca0 : w1.cell? ⟨w.heap.size, 0, none⟩ = some (.int .u32 0) := (blk_cell ha 0).trans rfl
  have fa0 := blk_frozen ha 0
  have ca1 : w1.cell? ⟨w.heap.size, 1, none⟩ = some (.bool false) := (blk_cell ha 1).trans rfl
  have fa1 := blk_frozen ha 1
  have ca2 : w1.cell? ⟨w.heap.size, 2, none⟩ = some (.int .u32 0) := (blk_cell ha 2).trans rfl
  have fa2 := blk_frozen ha 2
  have ca3 : w1.cell? ⟨w.heap.size, 3, none⟩ = some (.int .u32 0) := (blk_cell ha 3).trans rfl
  have fa3 := blk_frozen ha 3
  have ca4 : w1.cell? ⟨w.heap.size, 4, none⟩ = some (.int .u32 0) := (blk_cell ha 4).trans rfl
  have fa4 := blk_frozen ha 4
  have ca5 : w1.cell? ⟨w.heap.size, 5, none⟩ = some (.int .u32 0) := (blk_cell ha 5).trans rfl
  have fa5 := blk_frozen ha 5
  have ca6 : w1.cell? ⟨w.heap.size, 6, none⟩ = some (.bool false) := (blk_cell ha 6).trans rfl
  have fa6 := blk_frozen ha 6
  have la : w.heap.size < w1.heap.size := blk_lt ha
  have hle : w.heap.size ≤ w.heap.size := Nat.le_refl _
  have HB := Aside0.mk hb2
  clear hb hb2 ha
  go_wp2_with fail
  exact bodyPost_ret (v := .agg #[.int .u32 4096, .bool true, .int .u32 4294967295, .int .u32 65535, .int .u32 16384, .int .u32 4294967295, .bool false]) (by simp [results, Try.results16, go_sem, ca0, ca1, ca2, ca3, ca4, ca5, ca6]) rfl ⟨rfl, (Below.setCell (Below.setCell (Below.setCell (Below.setCell (Below.setCell (Below.setCell (Below.setCell HB.out hle _) hle _) hle _) hle _) hle _) hle _) hle _)⟩
theorem last_nil (w : World) : Calls Try.prog 17 #[.pointer none] w fun e w' => e = .returned (.agg #[.int .u32 4096, .bool true, .int .u32 4294967295, .int .u32 65535, .int .u32 16384, .int .u32 4294967295, .bool false]) ∧ Below w.heap.size w w' := by
  have hu24 := Try.underlying24
  go_enter Try.func17, Try.ntmps17
  go_wp2_with fail
  refine (now_nil _).mono ?_
  rintro e w1 ⟨rfl, hb⟩
  have hb2 := below_step (below_alloc (Below.refl _ _) _) hb
  have ha : w1.heap[w.heap.size]? = some (.cells #[.int .u32 0, .bool false, .int .u32 0, .int .u32 0, .int .u32 0, .int .u32 0, .bool false] 24 (0, 0)) := blk_below (last_at w _ _ rfl) hb
  have ca0 : w1.cell? ⟨w.heap.size, 0, none⟩ = some (.int .u32 0) := (blk_cell ha 0).trans rfl
  have fa0 := blk_frozen ha 0
  have ca1 : w1.cell? ⟨w.heap.size, 1, none⟩ = some (.bool false) := (blk_cell ha 1).trans rfl
  have fa1 := blk_frozen ha 1
  have ca2 : w1.cell? ⟨w.heap.size, 2, none⟩ = some (.int .u32 0) := (blk_cell ha 2).trans rfl
  have fa2 := blk_frozen ha 2
  have ca3 : w1.cell? ⟨w.heap.size, 3, none⟩ = some (.int .u32 0) := (blk_cell ha 3).trans rfl
  have fa3 := blk_frozen ha 3
  have ca4 : w1.cell? ⟨w.heap.size, 4, none⟩ = some (.int .u32 0) := (blk_cell ha 4).trans rfl
  have fa4 := blk_frozen ha 4
  have ca5 : w1.cell? ⟨w.heap.size, 5, none⟩ = some (.int .u32 0) := (blk_cell ha 5).trans rfl
  have fa5 := blk_frozen ha 5
  have ca6 : w1.cell? ⟨w.heap.size, 6, none⟩ = some (.bool false) := (blk_cell ha 6).trans rfl
  have fa6 := blk_frozen ha 6
  have la : w.heap.size < w1.heap.size := blk_lt ha
  have hle : w.heap.size ≤ w.heap.size := Nat.le_refl _
  have HB := Aside0.mk hb2
  clear hb hb2 ha
  go_wp2_with fail
  exact bodyPost_ret (v := .agg #[.int .u32 4096, .bool true, .int .u32 4294967295, .int .u32 65535, .int .u32 16384, .int .u32 4294967295, .bool false]) (by simp [results, Try.results17, go_sem, ca0, ca1, ca2, ca3, ca4, ca5, ca6]) rfl ⟨rfl, (Below.setCell (Below.setCell (Below.setCell (Below.setCell (Below.setCell (Below.setCell (Below.setCell HB.out hle _) hle _) hle _) hle _) hle _) hle _) hle _)⟩
theorem send_nil (A : Option Addr) (n c : Nat) (w : World) : Calls Try.prog 15 #[.pointer none, .slice A n c] w fun e w' => e = .returned (.agg #[.int .u8 1, .int .u32 2]) ∧ Below w.heap.size w w' := by
  have hu28 := Try.underlying28
  go_enter Try.func15, Try.ntmps15
  go_wp2_with fail
  exact bodyPost_ret (v := .agg #[.int .u8 1, .int .u32 2]) (by simp [results, Try.results15, go_sem]) rfl ⟨rfl, by repeat (first | exact Below.refl _ _ | apply below_alloc | refine Below.setCell ?_ (Nat.le_refl _) _)⟩
theorem ack_nil (w : World) : Calls Try.prog 14 #[.pointer none] w fun e w' => e = .returned (.tuple #[.agg #[.int .u32 4096, .bool true, .int .u32 4294967295, .int .u32 65535, .int .u32 16384, .int .u32 4294967295, .bool false], .agg #[.int .u8 1, .int .u32 2]]) ∧ Below w.heap.size w w' := by
  have hu24 := Try.underlying24
  have hu28 := Try.underlying28
  go_enter Try.func14, Try.ntmps14
  go_wp2_with fail
  refine (settings_Begin.calls 4096 true 4294967295 65535 16384 4294967295 false _ rfl).mono ?_
  rintro e w1 ⟨rfl, hb⟩
  have hb2 := below_step (below_alloc (below_alloc (Below.refl _ _) _) _) hb
  have ha : w1.heap[w.heap.size]? = some (.cells #[.int .u32 0, .bool false, .int .u32 0, .int .u32 0, .int .u32 0, .int .u32 0, .bool false] 24 (0, 0)) := blk_below (blk_alloc (last_at w _ _ rfl) _) hb
  have hc : w1.heap[w.heap.size + 1]? = some (.cells #[.int .u8 0, .int .u32 0] 28 (0, 0)) := blk_below (last_at _ _ _ (by simp)) hb
  have ca0 : w1.cell? ⟨w.heap.size, 0, none⟩ = some (.int .u32 0) := (blk_cell ha 0).trans rfl
  have fa0 := blk_frozen ha 0
  have ca1 : w1.cell? ⟨w.heap.size, 1, none⟩ = some (.bool false) := (blk_cell ha 1).trans rfl
  have fa1 := blk_frozen ha 1
  have ca2 : w1.cell? ⟨w.heap.size, 2, none⟩ = some (.int .u32 0) := (blk_cell ha 2).trans rfl
  have fa2 := blk_frozen ha 2
  have ca3 : w1.cell? ⟨w.heap.size, 3, none⟩ = some (.int .u32 0) := (blk_cell ha 3).trans rfl
  have fa3 := blk_frozen ha 3
  have ca4 : w1.cell? ⟨w.heap.size, 4, none⟩ = some (.int .u32 0) := (blk_cell ha 4).trans rfl
  have fa4 := blk_frozen ha 4
  have ca5 : w1.cell? ⟨w.heap.size, 5, none⟩ = some (.int .u32 0) := (blk_cell ha 5).trans rfl
  have fa5 := blk_frozen ha 5
  have ca6 : w1.cell? ⟨w.heap.size, 6, none⟩ = some (.bool false) := (blk_cell ha 6).trans rfl
  have fa6 := blk_frozen ha 6
  have la : w.heap.size < w1.heap.size := blk_lt ha
  have cc0 : w1.cell? ⟨w.heap.size + 1, 0, none⟩ = some (.int .u8 0) := (blk_cell hc 0).trans rfl
  have fc0 := blk_frozen hc 0
  have cc1 : w1.cell? ⟨w.heap.size + 1, 1, none⟩ = some (.int .u32 0) := (blk_cell hc 1).trans rfl
  have fc1 := blk_frozen hc 1
  have lc : w.heap.size + 1 < w1.heap.size := blk_lt hc
  have hle : w.heap.size ≤ w.heap.size := Nat.le_refl _
  have hle1 : w.heap.size ≤ w.heap.size + 1 := by omega
  have HB := Aside0.mk hb2
  clear hb hb2 ha hc
  go_wp2_with fail
  exact bodyPost_ret (v := .tuple #[.agg #[.int .u32 4096, .bool true, .int .u32 4294967295, .int .u32 65535, .int .u32 16384, .int .u32 4294967295, .bool false], .agg #[.int .u8 1, .int .u32 2]]) (by simp [results, Try.results14, go_sem, ca0, ca1, ca2, ca3, ca4, ca5, ca6, cc0, cc1]) rfl ⟨rfl, Below.setCell (Below.setCell (Below.setCell (Below.setCell (Below.setCell (Below.setCell (Below.setCell (Below.setCell (Below.setCell HB.out hle _) hle _) hle _) hle _) hle _) hle _) hle _) hle1 _) hle1 _⟩
/-- What stands in the law: the three boxes. -/
structure Nl (w : World) (b : Nat) (W : World) : Prop where
  bel : Below w.heap.size w W
  x : W.heap[b]? = some (.cells #[.int .u32 4096, .bool true, .int .u32 4294967295, .int .u32 65535, .int .u32 16384, .int .u32 4294967295, .bool false] 24 (0, 0))
  bad : W.heap[b + 1]? = some (.cells #[.int .u8 1, .int .u32 2] 28 (0, 0))
  worse : W.heap[b + 1 + 1]? = some (.cells #[.int .u8 1, .int .u32 2] 28 (0, 0))
theorem Nl.below {w : World} {b : Nat} {W W' : World} (h : Nl w b W) (hb : Below W.heap.size W W') : Nl w b W' := ⟨below_step h.bel hb, blk_below h.x hb, blk_below h.bad hb, blk_below h.worse hb⟩
theorem nlS {w : World} {b : Nat} {W : World} (h : Nl w b W) : Aside0 (Nl w b W) ∧ W.cell? ⟨b, 0, none⟩ = some (.int .u32 4096) ∧ W.cell? ⟨b, 1, none⟩ = some (.bool true) ∧ W.cell? ⟨b, 2, none⟩ = some (.int .u32 4294967295) ∧ W.cell? ⟨b, 3, none⟩ = some (.int .u32 65535) ∧ W.cell? ⟨b, 4, none⟩ = some (.int .u32 16384) ∧ W.cell? ⟨b, 5, none⟩ = some (.int .u32 4294967295) ∧ W.cell? ⟨b, 6, none⟩ = some (.bool false) ∧ W.cell? ⟨b + 1, 0, none⟩ = some (.int .u8 1) ∧ W.cell? ⟨b + 1, 1, none⟩ = some (.int .u32 2) ∧ W.cell? ⟨b + 1 + 1, 0, none⟩ = some (.int .u8 1) ∧ W.cell? ⟨b + 1 + 1, 1, none⟩ = some (.int .u32 2) := ⟨⟨h⟩, (blk_cell h.x 0).trans rfl, (blk_cell h.x 1).trans rfl, (blk_cell h.x 2).trans rfl, (blk_cell h.x 3).trans rfl, (blk_cell h.x 4).trans rfl, (blk_cell h.x 5).trans rfl, (blk_cell h.x 6).trans rfl, (blk_cell h.bad 0).trans rfl, (blk_cell h.bad 1).trans rfl, (blk_cell h.worse 0).trans rfl, (blk_cell h.worse 1).trans rfl⟩
theorem nlO {w : World} {b : Nat} {W : World} {P : Prop} (h : Aside0 (Nl w b W) ∧ P) : Nl w b W := h.1.out
set_option maxHeartbeats 8000000 in
set_option maxRecDepth 100000 in
theorem Pure.SettingsNil : Says.SettingsNil := by
  have hu24 := Try.underlying24
  have hu28 := Try.underlying28
  intro A0 c0 x0 w l0 r0 o0
  go_enter Try.func5, Try.ntmps5
  go_wp2_with fail
  refine (ack_nil _).mono ?_
  rintro e w1 ⟨rfl, hb1⟩
  have HB1 := Aside0.mk (below_step (Below.refl _ _) hb1)
  clear hb1
  go_wp2_with fail
  refine wp_region_noPanic ?_
  refine wp_region_held_drew (S := fun w' => Aside0 (Nl w w1.heap.size w') ∧ w'.cell? ⟨w1.heap.size, 0, none⟩ = some (.int .u32 4096) ∧ w'.cell? ⟨w1.heap.size, 1, none⟩ = some (.bool true) ∧ w'.cell? ⟨w1.heap.size, 2, none⟩ = some (.int .u32 4294967295) ∧ w'.cell? ⟨w1.heap.size, 3, none⟩ = some (.int .u32 65535) ∧ w'.cell? ⟨w1.heap.size, 4, none⟩ = some (.int .u32 16384) ∧ w'.cell? ⟨w1.heap.size, 5, none⟩ = some (.int .u32 4294967295) ∧ w'.cell? ⟨w1.heap.size, 6, none⟩ = some (.bool false) ∧ w'.cell? ⟨w1.heap.size + 1, 0, none⟩ = some (.int .u8 1) ∧ w'.cell? ⟨w1.heap.size + 1, 1, none⟩ = some (.int .u32 2) ∧ w'.cell? ⟨w1.heap.size + 1 + 1, 0, none⟩ = some (.int .u8 1) ∧ w'.cell? ⟨w1.heap.size + 1 + 1, 1, none⟩ = some (.int .u32 2)) (by kernel_rfl) (nlS ⟨by repeat (first | exact HB1.out | apply below_drew | apply below_alloc), blk_alloc (blk_alloc (last_at w1 _ _ rfl) _) _, blk_alloc (last_at _ _ _ (by simp)) _, last_at _ _ _ (by simp)⟩) (fun hHeld => ?_)
  refine wpAnyH_ready (rs := [0]) (by kernel_rfl) (by simp) ?_
  refine AllReadyH.cons rfl (fun K hK => ?_) AllReadyH.nil
  go_simp
  go_at_call 7
  with_reducible refine (louverlaw09_fixed.calls true _ rfl).mono ?_
  rintro e w' ⟨rfl, hb⟩
  refine hK.out _ _ (nlS (Nl.below (nlO hHeld) hb)) (fun hHeld => ?_)
  clear hK K
  try simp only [Act.put, List.setIfInBounds_toArray, List.set_cons_zero, List.set_cons_succ]
  refine takeN (i := 1) (N := (some 14)) (v := ?v1) (a' := ?a1) rfl rfl (by kernel_rfl) (by kernel_rfl) (by kernel_rfl) (fun _ _ _ h => h) (Or.inl ⟨by rfl, ?hy1⟩) ?ha1 (by assumption) ?rest1
  case hy1 =>
    intro w_ hSw_
    go_simp
    first | done | (with_reducible rfl)
  case ha1 =>
    simp only [Act.put, List.setIfInBounds_toArray, List.set_cons_zero, List.set_cons_succ]
    rfl
  refine takeN (i := 2) (N := (some 15)) (v := ?v2) (a' := ?a2) rfl rfl (by kernel_rfl) (by kernel_rfl) (by kernel_rfl) (fun _ _ _ h => h) (Or.inl ⟨by rfl, ?hy2⟩) ?ha2 (by assumption) ?rest2
  case hy2 =>
    intro w_ hSw_
    go_simp
    first | done | (with_reducible rfl)
  case ha2 =>
    simp only [Act.put, List.setIfInBounds_toArray, List.set_cons_zero, List.set_cons_succ]
    rfl
  refine takeN (i := 3) (N := (some 16)) (v := ?v3) (a' := ?a3) rfl rfl (by kernel_rfl) (by kernel_rfl) (by kernel_rfl) (fun _ _ _ h => h) (Or.inl ⟨by rfl, ?hy3⟩) ?ha3 (by assumption) ?rest3
  case hy3 =>
    intro w_ hSw_
    go_simp
    first | done | (with_reducible rfl)
  case ha3 =>
    simp only [Act.put, List.setIfInBounds_toArray, List.set_cons_zero, List.set_cons_succ]
    rfl
  refine takeN (i := 5) (N := (some 18)) (v := ?v4) (a' := ?a4) rfl rfl (by kernel_rfl) (by kernel_rfl) (by kernel_rfl) (fun _ _ _ h => h) (Or.inl ⟨by rfl, ?hy4⟩) ?ha4 (by assumption) ?rest4
  case hy4 =>
    intro w_ hSw_
    go_simp
    first | done | (with_reducible rfl)
  case ha4 =>
    simp only [Act.put, List.setIfInBounds_toArray, List.set_cons_zero, List.set_cons_succ]
    rfl
  refine wpAnyH_ready (rs := [4]) (by kernel_rfl) (by simp) ?_
  refine AllReadyH.cons rfl (fun K hK => ?_) AllReadyH.nil
  go_simp
  go_at_call 15
  with_reducible refine (send_nil A0 x0.length c0 _).mono ?_
  rintro e w' ⟨rfl, hb⟩
  refine hK.out _ _ (nlS (Nl.below (nlO hHeld) hb)) (fun hHeld => ?_)
  clear hK K
  try simp only [Act.put, List.setIfInBounds_toArray, List.set_cons_zero, List.set_cons_succ]
  refine takeN (i := 6) (N := (some 19)) (v := ?v5) (a' := ?a5) rfl rfl (by kernel_rfl) (by kernel_rfl) (by kernel_rfl) (fun _ _ _ h => h) (Or.inl ⟨by rfl, ?hy5⟩) ?ha5 (by assumption) ?rest5
  case hy5 =>
    intro w_ hSw_
    go_simp
    first | done | (with_reducible rfl)
  case ha5 =>
    simp only [Act.put, List.setIfInBounds_toArray, List.set_cons_zero, List.set_cons_succ]
    rfl
  refine takeN (i := 7) (N := (some 20)) (v := ?v6) (a' := ?a6) rfl rfl (by kernel_rfl) (by kernel_rfl) (by kernel_rfl) (fun _ _ _ h => h) (Or.inl ⟨by rfl, ?hy6⟩) ?ha6 (by assumption) ?rest6
  case hy6 =>
    intro w_ hSw_
    go_simp
    first | done | (with_reducible rfl)
  case ha6 =>
    simp only [Act.put, List.setIfInBounds_toArray, List.set_cons_zero, List.set_cons_succ]
    rfl
  refine takeN (i := 8) (N := (some 21)) (v := ?v7) (a' := ?a7) rfl rfl (by kernel_rfl) (by kernel_rfl) (by kernel_rfl) (fun _ _ _ h => h) (Or.inl ⟨by rfl, ?hy7⟩) ?ha7 (by assumption) ?rest7
  case hy7 =>
    intro w_ hSw_
    go_simp
    first | done | (with_reducible rfl)
  case ha7 =>
    simp only [Act.put, List.setIfInBounds_toArray, List.set_cons_zero, List.set_cons_succ]
    rfl
  refine takeN (i := 9) (N := (some 22)) (v := ?v8) (a' := ?a8) rfl rfl (by kernel_rfl) (by kernel_rfl) (by kernel_rfl) (fun _ _ _ h => h) (Or.inl ⟨by rfl, ?hy8⟩) ?ha8 (by assumption) ?rest8
  case hy8 =>
    intro w_ hSw_
    go_simp
    first | done | (with_reducible rfl)
  case ha8 =>
    simp only [Act.put, List.setIfInBounds_toArray, List.set_cons_zero, List.set_cons_succ]
    rfl
  refine takeN (i := 10) (N := (some 23)) (v := ?v9) (a' := ?a9) rfl rfl (by kernel_rfl) (by kernel_rfl) (by kernel_rfl) (fun _ _ _ h => h) (Or.inl ⟨by rfl, ?hy9⟩) ?ha9 (by assumption) ?rest9
  case hy9 =>
    intro w_ hSw_
    go_simp
    first | done | (with_reducible rfl)
  case ha9 =>
    simp only [Act.put, List.setIfInBounds_toArray, List.set_cons_zero, List.set_cons_succ]
    rfl
  refine takeN (i := 11) (N := (some 24)) (v := ?v10) (a' := ?a10) rfl rfl (by kernel_rfl) (by kernel_rfl) (by kernel_rfl) (fun _ _ _ h => h) (Or.inl ⟨by rfl, ?hy10⟩) ?ha10 (by assumption) ?rest10
  case hy10 =>
    intro w_ hSw_
    go_simp
    first | done | (with_reducible rfl)
  case ha10 =>
    simp only [Act.put, List.setIfInBounds_toArray, List.set_cons_zero, List.set_cons_succ]
    rfl
  refine takeN (i := 12) (N := (some 25)) (v := ?v11) (a' := ?a11) rfl rfl (by kernel_rfl) (by kernel_rfl) (by kernel_rfl) (fun _ _ _ h => h) (Or.inl ⟨by rfl, ?hy11⟩) ?ha11 (by assumption) ?rest11
  case hy11 =>
    intro w_ hSw_
    go_simp
    first | done | (with_reducible rfl)
  case ha11 =>
    simp only [Act.put, List.setIfInBounds_toArray, List.set_cons_zero, List.set_cons_succ]
    rfl
  refine takeN (i := 13) (N := (some 26)) (v := ?v12) (a' := ?a12) rfl rfl (by kernel_rfl) (by kernel_rfl) (by kernel_rfl) (fun _ _ _ h => h) (Or.inl ⟨by rfl, ?hy12⟩) ?ha12 (by assumption) ?rest12
  case hy12 =>
    intro w_ hSw_
    go_simp
    first | done | (with_reducible rfl)
  case ha12 =>
    simp only [Act.put, List.setIfInBounds_toArray, List.set_cons_zero, List.set_cons_succ]
    rfl
  refine takeN (i := 14) (N := (some 27)) (v := ?v13) (a' := ?a13) rfl rfl (by kernel_rfl) (by kernel_rfl) (by kernel_rfl) (fun _ _ _ h => h) (Or.inl ⟨by rfl, ?hy13⟩) ?ha13 (by assumption) ?rest13
  case hy13 =>
    intro w_ hSw_
    go_simp
    first | done | (with_reducible rfl)
  case ha13 =>
    simp only [Act.put, List.setIfInBounds_toArray, List.set_cons_zero, List.set_cons_succ]
    rfl
  refine wpAnyH_ready (rs := [15]) (by kernel_rfl) (by simp) ?_
  refine AllReadyH.cons rfl (fun K hK => ?_) AllReadyH.nil
  go_simp
  go_at_call 12
  with_reducible refine (louverref09_Begin.calls 4096 true 4294967295 65535 16384 4294967295 false _ rfl).mono ?_
  rintro e w' ⟨rfl, hb⟩
  refine hK.out _ _ (nlS (Nl.below (nlO hHeld) hb)) (fun hHeld => ?_)
  clear hK K
  try simp only [Act.put, List.setIfInBounds_toArray, List.set_cons_zero, List.set_cons_succ]
  refine takeN (i := 16) (N := (some 29)) (v := ?v14) (a' := ?a14) rfl rfl (by kernel_rfl) (by kernel_rfl) (by kernel_rfl) (fun _ _ _ h => h) (Or.inl ⟨by rfl, ?hy14⟩) ?ha14 (by assumption) ?rest14
  case hy14 =>
    intro w_ hSw_
    go_simp
    first | done | (with_reducible rfl)
  case ha14 =>
    simp only [Act.put, List.setIfInBounds_toArray, List.set_cons_zero, List.set_cons_succ]
    rfl
  refine takeN (i := 17) (N := (some 30)) (v := ?v15) (a' := ?a15) rfl rfl (by kernel_rfl) (by kernel_rfl) (by kernel_rfl) (fun _ _ _ h => h) (Or.inl ⟨by rfl, ?hy15⟩) ?ha15 (by assumption) ?rest15
  case hy15 =>
    intro w_ hSw_
    go_simp
    first | done | (with_reducible rfl)
  case ha15 =>
    simp only [Act.put, List.setIfInBounds_toArray, List.set_cons_zero, List.set_cons_succ]
    rfl
  refine takeN (i := 18) (N := (some 31)) (v := ?v16) (a' := ?a16) rfl rfl (by kernel_rfl) (by kernel_rfl) (by kernel_rfl) (fun _ _ _ h => h) (Or.inl ⟨by rfl, ?hy16⟩) ?ha16 (by assumption) ?rest16
  case hy16 =>
    intro w_ hSw_
    go_simp
    first | done | (with_reducible rfl)
  case ha16 =>
    simp only [Act.put, List.setIfInBounds_toArray, List.set_cons_zero, List.set_cons_succ]
    rfl
  refine takeN (i := 19) (N := (some 32)) (v := ?v17) (a' := ?a17) rfl rfl (by kernel_rfl) (by kernel_rfl) (by kernel_rfl) (fun _ _ _ h => h) (Or.inl ⟨by rfl, ?hy17⟩) ?ha17 (by assumption) ?rest17
  case hy17 =>
    intro w_ hSw_
    go_simp
    first | done | (with_reducible rfl)
  case ha17 =>
    simp only [Act.put, List.setIfInBounds_toArray, List.set_cons_zero, List.set_cons_succ]
    rfl
  refine takeN (i := 21) (N := (some 34)) (v := ?v18) (a' := ?a18) rfl rfl (by kernel_rfl) (by kernel_rfl) (by kernel_rfl) (fun _ _ _ h => h) (Or.inl ⟨by rfl, ?hy18⟩) ?ha18 (by assumption) ?rest18
  case hy18 =>
    intro w_ hSw_
    go_simp
    first | done | (with_reducible rfl)
  case ha18 =>
    simp only [Act.put, List.setIfInBounds_toArray, List.set_cons_zero, List.set_cons_succ]
    rfl
  refine wpAnyH_ready (rs := [20]) (by kernel_rfl) (by simp) ?_
  refine AllReadyH.cons rfl (fun K hK => ?_) AllReadyH.nil
  go_simp
  go_at_call 16
  with_reducible refine (now_nil _).mono ?_
  rintro e w' ⟨rfl, hb⟩
  refine hK.out _ _ (nlS (Nl.below (nlO hHeld) hb)) (fun hHeld => ?_)
  clear hK K
  try simp only [Act.put, List.setIfInBounds_toArray, List.set_cons_zero, List.set_cons_succ]
  refine takeN (i := 22) (N := (some 35)) (v := ?v19) (a' := ?a19) rfl rfl (by kernel_rfl) (by kernel_rfl) (by kernel_rfl) (fun _ _ _ h => h) (Or.inl ⟨by rfl, ?hy19⟩) ?ha19 (by assumption) ?rest19
  case hy19 =>
    intro w_ hSw_
    go_simp
    first | done | (with_reducible rfl)
  case ha19 =>
    simp only [Act.put, List.setIfInBounds_toArray, List.set_cons_zero, List.set_cons_succ]
    rfl
  refine takeN (i := 23) (N := (some 36)) (v := ?v20) (a' := ?a20) rfl rfl (by kernel_rfl) (by kernel_rfl) (by kernel_rfl) (fun _ _ _ h => h) (Or.inl ⟨by rfl, ?hy20⟩) ?ha20 (by assumption) ?rest20
  case hy20 =>
    intro w_ hSw_
    go_simp
    first | done | (with_reducible rfl)
  case ha20 =>
    simp only [Act.put, List.setIfInBounds_toArray, List.set_cons_zero, List.set_cons_succ]
    rfl
  refine takeN (i := 24) (N := (some 37)) (v := ?v21) (a' := ?a21) rfl rfl (by kernel_rfl) (by kernel_rfl) (by kernel_rfl) (fun _ _ _ h => h) (Or.inl ⟨by rfl, ?hy21⟩) ?ha21 (by assumption) ?rest21
  case hy21 =>
    intro w_ hSw_
    go_simp
    first | done | (with_reducible rfl)
  case ha21 =>
    simp only [Act.put, List.setIfInBounds_toArray, List.set_cons_zero, List.set_cons_succ]
    rfl
  refine takeN (i := 25) (N := (some 38)) (v := ?v22) (a' := ?a22) rfl rfl (by kernel_rfl) (by kernel_rfl) (by kernel_rfl) (fun _ _ _ h => h) (Or.inl ⟨by rfl, ?hy22⟩) ?ha22 (by assumption) ?rest22
  case hy22 =>
    intro w_ hSw_
    go_simp
    first | done | (with_reducible rfl)
  case ha22 =>
    simp only [Act.put, List.setIfInBounds_toArray, List.set_cons_zero, List.set_cons_succ]
    rfl
  refine takeN (i := 27) (N := (some 40)) (v := ?v23) (a' := ?a23) rfl rfl (by kernel_rfl) (by kernel_rfl) (by kernel_rfl) (fun _ _ _ h => h) (Or.inl ⟨by rfl, ?hy23⟩) ?ha23 (by assumption) ?rest23
  case hy23 =>
    intro w_ hSw_
    go_simp
    first | done | (with_reducible rfl)
  case ha23 =>
    simp only [Act.put, List.setIfInBounds_toArray, List.set_cons_zero, List.set_cons_succ]
    rfl
  refine wpAnyH_ready (rs := [26]) (by kernel_rfl) (by simp) ?_
  refine AllReadyH.cons rfl (fun K hK => ?_) AllReadyH.nil
  go_simp
  go_at_call 17
  with_reducible refine (last_nil _).mono ?_
  rintro e w' ⟨rfl, hb⟩
  refine hK.out _ _ (nlS (Nl.below (nlO hHeld) hb)) (fun hHeld => ?_)
  clear hK K
  try simp only [Act.put, List.setIfInBounds_toArray, List.set_cons_zero, List.set_cons_succ]
  refine takeN (i := 28) (N := (some 41)) (v := ?v24) (a' := ?a24) rfl rfl (by kernel_rfl) (by kernel_rfl) (by kernel_rfl) (fun _ _ _ h => h) (Or.inl ⟨by rfl, ?hy24⟩) ?ha24 (by assumption) ?rest24
  case hy24 =>
    intro w_ hSw_
    go_simp
    first | done | (with_reducible rfl)
  case ha24 =>
    simp only [Act.put, List.setIfInBounds_toArray, List.set_cons_zero, List.set_cons_succ]
    rfl
  refine takeN (i := 29) (N := (some 42)) (v := ?v25) (a' := ?a25) rfl rfl (by kernel_rfl) (by kernel_rfl) (by kernel_rfl) (fun _ _ _ h => h) (Or.inl ⟨by rfl, ?hy25⟩) ?ha25 (by assumption) ?rest25
  case hy25 =>
    intro w_ hSw_
    go_simp
    first | done | (with_reducible rfl)
  case ha25 =>
    simp only [Act.put, List.setIfInBounds_toArray, List.set_cons_zero, List.set_cons_succ]
    rfl
  refine takeN (i := 30) (N := (some 43)) (v := ?v26) (a' := ?a26) rfl rfl (by kernel_rfl) (by kernel_rfl) (by kernel_rfl) (fun _ _ _ h => h) (Or.inl ⟨by rfl, ?hy26⟩) ?ha26 (by assumption) ?rest26
  case hy26 =>
    intro w_ hSw_
    go_simp
    first | done | (with_reducible rfl)
  case ha26 =>
    simp only [Act.put, List.setIfInBounds_toArray, List.set_cons_zero, List.set_cons_succ]
    rfl
  refine takeN (i := 31) (N := (some 44)) (v := ?v27) (a' := ?a27) rfl rfl (by kernel_rfl) (by kernel_rfl) (by kernel_rfl) (fun _ _ _ h => h) (Or.inl ⟨by rfl, ?hy27⟩) ?ha27 (by assumption) ?rest27
  case hy27 =>
    intro w_ hSw_
    go_simp
    first | done | (with_reducible rfl)
  case ha27 =>
    simp only [Act.put, List.setIfInBounds_toArray, List.set_cons_zero, List.set_cons_succ]
    rfl
  refine wpAnyH_ready (rs := [32]) (by kernel_rfl) (by simp) ?_
  refine AllReadyH.cons rfl (fun K hK => ?_) AllReadyH.nil
  go_simp
  go_at_call 18
  with_reducible refine (waits_nil _).mono ?_
  rintro e w' ⟨rfl, hb⟩
  refine hK.out _ _ (nlS (Nl.below (nlO hHeld) hb)) (fun hHeld => ?_)
  clear hK K
  try simp only [Act.put, List.setIfInBounds_toArray, List.set_cons_zero, List.set_cons_succ]
  refine takeN (i := 33) (N := (some 46)) (v := ?v28) (a' := ?a28) rfl rfl (by kernel_rfl) (by kernel_rfl) (by kernel_rfl) (fun _ _ _ h => h) (Or.inl ⟨by rfl, ?hy28⟩) ?ha28 (by assumption) ?rest28
  case hy28 =>
    intro w_ hSw_
    go_simp
    first | done | (with_reducible rfl)
  case ha28 =>
    simp only [Act.put, List.setIfInBounds_toArray, List.set_cons_zero, List.set_cons_succ]
    rfl
  refine takeN (i := 34) (N := (some 47)) (v := ?v29) (a' := ?a29) rfl rfl (by kernel_rfl) (by kernel_rfl) (by kernel_rfl) (fun _ _ _ h => h) (Or.inl ⟨by rfl, ?hy29⟩) ?ha29 (by assumption) ?rest29
  case hy29 =>
    intro w_ hSw_
    go_simp
    first | done | (with_reducible rfl)
  case ha29 =>
    simp only [Act.put, List.setIfInBounds_toArray, List.set_cons_zero, List.set_cons_succ]
    rfl
  refine takeN (i := 35) (N := (some 2)) (v := ?v30) (a' := ?a30) rfl rfl (by kernel_rfl) (by kernel_rfl) (by kernel_rfl) (fun _ _ _ h => h) (Or.inl ⟨by rfl, ?hy30⟩) ?ha30 (by assumption) ?rest30
  case hy30 =>
    intro w_ hSw_
    go_simp
    first | done | (with_reducible rfl)
  case ha30 =>
    simp only [Act.put, List.setIfInBounds_toArray, List.set_cons_zero, List.set_cons_succ]
    rfl
  refine wpAnyH_done (by kernel_rfl) ?_ _
  refine NoPanic.normal ?_
  have HX := Aside0.mk (nlO hHeld)
  clear hHeld
  go_wp2_with fail
  go_ret
  exact ⟨rfl, HX.out.bel⟩
end Go.Proofs.Ytehdljgbbaibcaa
