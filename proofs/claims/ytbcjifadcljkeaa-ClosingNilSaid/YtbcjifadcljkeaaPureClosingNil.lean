import Derived.Test.YtbcjifadcljkeaaSaysClosingNil
import Derived.Test.YtbcjifadcljkeaaPAllx4
namespace Go.Proofs.Ytbcjifadcljkeaa
open Go.RowKit Go.Proofs.YtbcjifadcljkeaaW.PrintWords Go.Proofs.YtbcjifadcljkeaaW.PrintLast Go.Proofs.YtbcjifadcljkeaaW.PrintMore Go.Proofs.Ytbcjifadcljkeaa.PAll
set_option linter.unusedVariables false
/-! The methods of a nil door -/
theorem end_nil (w : World) : Calls Try.prog 12 #[.pointer none] w fun e w' => e = .returned (.agg #[.int .u8 3, .int .u32 1006]) ∧ Below w.heap.size w w' := by
  have hu35 := Try.underlying35
  go_enter Try.func12, Try.ntmps12
  go_wp2_with fail
  exact bodyPost_ret (v := .agg #[.int .u8 3, .int .u32 1006]) (by simp [results, Try.results12, go_sem]) rfl ⟨rfl, by repeat (first | exact Below.refl _ _ | apply below_alloc | refine Below.setCell ?_ (Nat.le_refl _) _)⟩
theorem through_nil (w : World) : Calls Try.prog 15 #[.pointer none] w fun e w' => e = .returned (.bool true) ∧ Below w.heap.size w w' := by
  have hf := field35_0
  go_enter Try.func15, Try.ntmps15
  go_wp2_with fail
  refine (end_nil _).mono ?_
  rintro e w1 ⟨rfl, hb⟩
  go_wp2_with fail
  go_ret
  exact ⟨rfl, below_step (Below.refl _ _) hb⟩
theorem last_at (W : World) (o : Obj) (k : Nat) (h : k = W.heap.size) : (W.alloc o).heap[k]? = some o := by
  rw [h]
  show (W.heap.push o)[W.heap.size]? = some o
  simp
theorem close_nil (c : Int) (s : ByteArray) (w : World) : Calls Try.prog 8 #[.pointer none, .int .u32 c, .string s] w fun e w' => e = .returned (.tuple #[.agg #[.bool false, .int .u8 0, .bool false, .int .u32 0, .slice none 0 0], .bool false]) ∧ Below w.heap.size w w' := by
  have hu27 := Try.underlying27
  go_enter Try.func8, Try.ntmps8
  go_wp2_with fail
  refine (through_nil _).mono ?_
  rintro e w1 ⟨rfl, hb⟩
  have hb2 := below_step (below_alloc (Below.refl _ _) _) hb
  have hc : w1.heap[w.heap.size]? = some (.cells #[.bool false, .int .u8 0, .bool false, .int .u32 0, .slice none 0 0] 27 (0, 0)) := blk_below (last_at w _ _ rfl) hb
  have c0 : w1.cell? ⟨w.heap.size, 0, none⟩ = some (.bool false) := (blk_cell hc 0).trans rfl
  have f0 := blk_frozen hc 0
  have c1 : w1.cell? ⟨w.heap.size, 1, none⟩ = some (.int .u8 0) := (blk_cell hc 1).trans rfl
  have f1 := blk_frozen hc 1
  have c2 : w1.cell? ⟨w.heap.size, 2, none⟩ = some (.bool false) := (blk_cell hc 2).trans rfl
  have f2 := blk_frozen hc 2
  have c3 : w1.cell? ⟨w.heap.size, 3, none⟩ = some (.int .u32 0) := (blk_cell hc 3).trans rfl
  have f3 := blk_frozen hc 3
  have c4 : w1.cell? ⟨w.heap.size, 4, none⟩ = some (.slice none 0 0) := (blk_cell hc 4).trans rfl
  have f4 := blk_frozen hc 4
  have hs : w.heap.size < w1.heap.size := blk_lt hc
  have hle : w.heap.size ≤ w.heap.size := Nat.le_refl _
  have HB := Aside0.mk hb2
  clear hb hb2 hc
  go_wp2_with fail
  exact bodyPost_ret (v := .tuple #[.agg #[.bool false, .int .u8 0, .bool false, .int .u32 0, .slice none 0 0], .bool false]) (by simp [results, Try.results8, go_sem, c0, c1, c2, c3, c4]) rfl ⟨rfl, Below.setCell (Below.setCell (Below.setCell (Below.setCell (Below.setCell HB.out hle _) hle _) hle _) hle _) hle _⟩
theorem got_nil (c : Int) (w : World) : Calls Try.prog 10 #[.pointer none, .int .u32 c] w fun e w' => e = .returned (.tuple #[.agg #[.bool false, .int .u8 0, .bool false, .int .u32 0, .slice none 0 0], .bool false]) ∧ Below w.heap.size w w' := by
  have hu27 := Try.underlying27
  go_enter Try.func10, Try.ntmps10
  go_wp2_with fail
  refine (through_nil _).mono ?_
  rintro e w1 ⟨rfl, hb⟩
  have hb2 := below_step (below_alloc (Below.refl _ _) _) hb
  have hc : w1.heap[w.heap.size]? = some (.cells #[.bool false, .int .u8 0, .bool false, .int .u32 0, .slice none 0 0] 27 (0, 0)) := blk_below (last_at w _ _ rfl) hb
  have c0 : w1.cell? ⟨w.heap.size, 0, none⟩ = some (.bool false) := (blk_cell hc 0).trans rfl
  have f0 := blk_frozen hc 0
  have c1 : w1.cell? ⟨w.heap.size, 1, none⟩ = some (.int .u8 0) := (blk_cell hc 1).trans rfl
  have f1 := blk_frozen hc 1
  have c2 : w1.cell? ⟨w.heap.size, 2, none⟩ = some (.bool false) := (blk_cell hc 2).trans rfl
  have f2 := blk_frozen hc 2
  have c3 : w1.cell? ⟨w.heap.size, 3, none⟩ = some (.int .u32 0) := (blk_cell hc 3).trans rfl
  have f3 := blk_frozen hc 3
  have c4 : w1.cell? ⟨w.heap.size, 4, none⟩ = some (.slice none 0 0) := (blk_cell hc 4).trans rfl
  have f4 := blk_frozen hc 4
  have hs : w.heap.size < w1.heap.size := blk_lt hc
  have hle : w.heap.size ≤ w.heap.size := Nat.le_refl _
  have HB := Aside0.mk hb2
  clear hb hb2 hc
  go_wp2_with fail
  exact bodyPost_ret (v := .tuple #[.agg #[.bool false, .int .u8 0, .bool false, .int .u32 0, .slice none 0 0], .bool false]) (by simp [results, Try.results10, go_sem, c0, c1, c2, c3, c4]) rfl ⟨rfl, Below.setCell (Below.setCell (Below.setCell (Below.setCell (Below.setCell HB.out hle _) hle _) hle _) hle _) hle _⟩
theorem bad_nil (c : Int) (w : World) : Calls Try.prog 13 #[.pointer none, .int .u32 c] w fun e w' => e = .returned (.tuple #[.agg #[.bool false, .int .u8 0, .bool false, .int .u32 0, .slice none 0 0], .bool false]) ∧ Below w.heap.size w w' := by
  have hu27 := Try.underlying27
  go_enter Try.func13, Try.ntmps13
  go_wp2_with fail
  refine (through_nil _).mono ?_
  rintro e w1 ⟨rfl, hb⟩
  have hb2 := below_step (below_alloc (Below.refl _ _) _) hb
  have hc : w1.heap[w.heap.size]? = some (.cells #[.bool false, .int .u8 0, .bool false, .int .u32 0, .slice none 0 0] 27 (0, 0)) := blk_below (last_at w _ _ rfl) hb
  have c0 : w1.cell? ⟨w.heap.size, 0, none⟩ = some (.bool false) := (blk_cell hc 0).trans rfl
  have f0 := blk_frozen hc 0
  have c1 : w1.cell? ⟨w.heap.size, 1, none⟩ = some (.int .u8 0) := (blk_cell hc 1).trans rfl
  have f1 := blk_frozen hc 1
  have c2 : w1.cell? ⟨w.heap.size, 2, none⟩ = some (.bool false) := (blk_cell hc 2).trans rfl
  have f2 := blk_frozen hc 2
  have c3 : w1.cell? ⟨w.heap.size, 3, none⟩ = some (.int .u32 0) := (blk_cell hc 3).trans rfl
  have f3 := blk_frozen hc 3
  have c4 : w1.cell? ⟨w.heap.size, 4, none⟩ = some (.slice none 0 0) := (blk_cell hc 4).trans rfl
  have f4 := blk_frozen hc 4
  have hs : w.heap.size < w1.heap.size := blk_lt hc
  have hle : w.heap.size ≤ w.heap.size := Nat.le_refl _
  have HB := Aside0.mk hb2
  clear hb hb2 hc
  go_wp2_with fail
  exact bodyPost_ret (v := .tuple #[.agg #[.bool false, .int .u8 0, .bool false, .int .u32 0, .slice none 0 0], .bool false]) (by simp [results, Try.results13, go_sem, c0, c1, c2, c3, c4]) rfl ⟨rfl, Below.setCell (Below.setCell (Below.setCell (Below.setCell (Below.setCell HB.out hle _) hle _) hle _) hle _) hle _⟩
theorem cut_nil (w : World) : Calls Try.prog 14 #[.pointer none] w fun e w' => e = .returned (.tuple #[]) ∧ Below w.heap.size w w' := by
  go_enter Try.func14, Try.ntmps14
  go_wp2_with fail
  refine (through_nil _).mono ?_
  rintro e w1 ⟨rfl, hb⟩
  go_wp2_with fail
  first | go_end0 | ((try simp only [Exit.inBlock, Exit.then]); refine bodyPost_ret (results_none rfl _ _ _) rfl ?_)
  exact ⟨rfl, below_step (Below.refl _ _) hb⟩
theorem sent_nil (w : World) : Calls Try.prog 19 #[.pointer none] w fun e w' => e = .returned (.bool false) ∧ Below w.heap.size w w' := by
  go_enter Try.func19, Try.ntmps19
  go_wp2_with fail
  go_ret
  exact ⟨rfl, Below.refl _ _⟩
set_option maxHeartbeats 4000000 in
theorem Pure.ClosingNil : Says.ClosingNil := by
  intro x0 w o0
  go_enter Try.func6, Try.ntmps6
  go_wp2_with fail
  refine (close_nil _ _ _).mono ?_
  rintro e w1 ⟨rfl, hb1⟩
  have HB1 := Aside0.mk (below_step (Below.refl _ _) hb1)
  clear hb1
  go_wp2_with fail
  refine (got_nil _ _).mono ?_
  rintro e w2 ⟨rfl, hb2⟩
  have HB2 := Aside0.mk (below_step (below_alloc HB1.out _) hb2)
  clear hb2
  go_wp2_with fail
  refine (bad_nil _ _).mono ?_
  rintro e w3 ⟨rfl, hb3⟩
  have HB3 := Aside0.mk (below_step (below_alloc HB2.out _) hb3)
  clear hb3
  go_wp2_with fail
  refine (cut_nil _).mono ?_
  rintro e w4 ⟨rfl, hb4⟩
  have HB4 := Aside0.mk (below_step (below_alloc HB3.out _) hb4)
  clear hb4
  go_wp2_with fail
  refine (louverlaw19_fixed.yes _).mono ?_
  rintro e w5 ⟨rfl, hb5⟩
  have HB5 := Aside0.mk (below_step HB4.out hb5)
  clear hb5
  go_wp2_with fail
  refine (sent_nil _).mono ?_
  rintro e w6 ⟨rfl, hb6⟩
  have HB6 := Aside0.mk (below_step HB5.out hb6)
  clear hb6
  go_wp2_with fail
  refine (through_nil _).mono ?_
  rintro e w7 ⟨rfl, hb7⟩
  have HB7 := Aside0.mk (below_step HB6.out hb7)
  clear hb7
  go_wp2_with fail
  refine (end_nil _).mono ?_
  rintro e w8 ⟨rfl, hb8⟩
  have HB8 := Aside0.mk (below_step HB7.out hb8)
  clear hb8
  go_wp2_with fail
  go_ret
  exact ⟨rfl, HB8.out⟩
end Go.Proofs.Ytbcjifadcljkeaa
