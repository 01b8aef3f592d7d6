-- Written by a program of this session (wip/patchprint.py, wip/myprint.sh tell how).
import Derived.Test.YtehdljgbbaibcaaPAllx0
import Derived.Test.YtehdljgbbaibcaaPAllx3
namespace Go.Proofs.Ytehdljgbbaibcaa.PAll
open Go.RowKit Go.Proofs.YtehdljgbbaibcaaW.PrintWords Go.Proofs.YtehdljgbbaibcaaW.PrintLast Go.Proofs.YtehdljgbbaibcaaW.PrintMore
attribute [local go_sem] max2_int min2_int max_two min_two max_three min_three max_four min_four   -- for this text's walks alone
set_option linter.unusedVariables false
set_option linter.unusedSimpArgs false

/-! ### settings_bit: function 23 -/
def settings_bit.f (a0 : Bool) : Option (Int) := if a0 = true then (some 1) else (some 0)
set_option maxHeartbeats 8000000 in
set_option maxRecDepth 100000 in
theorem settings_bit.calls (a0 : Bool) (r : Int) (w : World) (h : settings_bit.f a0 = some r) :
    Calls Try.prog 23 #[.bool a0] w fun e w' => e = .returned (.int .u32 r) ∧ Drawn0 w w' := by
  have H : (if a0 = true then (some 1) else (some 0)) = some r := h
  clear h
  by_cases c2 : a0 = true
  · subst c2
    have H1 : (some 1) = some r := by rw [if_pos rfl] at H; exact H
    clear H
    have H := H1
    clear H1
    obtain rfl := Option.some.inj H
    go_enter Try.func23, Try.ntmps23
    go_wp2
    go_ret
    exact ⟨by first | rfl | (simp; done) | (simp [*]; done), by repeat (first | exact Drawn0.refl _ | apply Drawn0.step)⟩
  · replace c2 := Bool.eq_false_iff.mpr c2
    subst c2
    have H1 : (some 0) = some r := by rw [if_neg (show ¬ (false = true) by decide)] at H; exact H
    clear H
    have H := H1
    clear H1
    obtain rfl := Option.some.inj H
    go_enter Try.func23, Try.ntmps23
    go_wp2
    go_ret
    exact ⟨by first | rfl | (simp; done) | (simp [*]; done), by repeat (first | exact Drawn0.refl _ | apply Drawn0.step)⟩

/-! ### settings_Tell: function 13 -/
/-- Number i is taken first; what it leaves stands written out. -/
theorem takeN {P : Program} {md : Region.Mode} {ops : Array Oper} {Q : Exit → Act → World → Prop} {S : World → Prop} {i : Nat} {N : Option Tmp} {oi : Oper} {v : Value} {fuel : Nat} {listed : Array Bool} {a a' : Act} {w : World} (hi : ops[i]? = some oi) (hN : oi.dst = N)
    (hs : Region.noSelect ops = true) (hf : Region.free md ops listed i = true) (hr : (Region.ready md ops listed).contains i = true)
    (hQ : ∀ c a w, Q (.panic c) (a.put oi.dst v) w → Q (.panic c) a w) (hy : YieldsIf P ops S oi v a) (ha : a.put N v = a') (hS : S w)
    (h : wpAnyH P md ops Q S fuel (listed.setIfInBounds i true) a' w) : wpAnyH P md ops Q S (fuel + 1) listed a w := by
  subst hN; subst ha
  exact wpAnyH_take hi hs hf hr hQ hy hS h
def bitC (b : Bool) : Int := if b = true then 1 else 0
def tellRows (a b : S24) : List (Int × Int × Int) := [(1, a.f0, b.f0), (2, bitC a.f1, bitC b.f1), (3, a.f2, b.f2), (4, a.f3, b.f3), (5, a.f4, b.f4), (6, a.f5, b.f5), (8, bitC a.f6, bitC b.f6)]
def tellOne (r : Int × Int × Int) : List S39 := if r.2.1 = r.2.2 then [] else [⟨r.1, r.2.2⟩]
def tellL (l : List (Int × Int × Int)) : List S39 := l.flatMap tellOne
theorem bit_f (b : Bool) : settings_bit.f b = some (bitC b) := by cases b <;> rfl
/-- The two boxes. -/
structure Tl (w : World) (a b : S24) (W : World) : Prop where
  bel : Below w.heap.size w W
  x : W.heap[w.heap.size]? = some (.cells (cellsS a) 24 (0, 0))
  y : W.heap[w.heap.size + 1]? = some (.cells (cellsS b) 24 (0, 0))
theorem Tl.below {w : World} {a b : S24} {W W' : World} (h : Tl w a b W) (hb : Below W.heap.size W W') : Tl w a b W' := ⟨below_step h.bel hb, blk_below h.x hb, blk_below h.y hb⟩
theorem tlS {w : World} {a b : S24} {W : World} (h : Tl w a b W) : Aside0 (Tl w a b W) ∧ W.cell? ⟨w.heap.size, 0, none⟩ = some (.int .u32 a.f0) ∧ W.cell? ⟨w.heap.size, 1, none⟩ = some (.bool a.f1) ∧ W.cell? ⟨w.heap.size, 2, none⟩ = some (.int .u32 a.f2) ∧ W.cell? ⟨w.heap.size, 3, none⟩ = some (.int .u32 a.f3) ∧ W.cell? ⟨w.heap.size, 4, none⟩ = some (.int .u32 a.f4) ∧ W.cell? ⟨w.heap.size, 5, none⟩ = some (.int .u32 a.f5) ∧ W.cell? ⟨w.heap.size, 6, none⟩ = some (.bool a.f6) ∧ W.cell? ⟨w.heap.size + 1, 0, none⟩ = some (.int .u32 b.f0) ∧ W.cell? ⟨w.heap.size + 1, 1, none⟩ = some (.bool b.f1) ∧ W.cell? ⟨w.heap.size + 1, 2, none⟩ = some (.int .u32 b.f2) ∧ W.cell? ⟨w.heap.size + 1, 3, none⟩ = some (.int .u32 b.f3) ∧ W.cell? ⟨w.heap.size + 1, 4, none⟩ = some (.int .u32 b.f4) ∧ W.cell? ⟨w.heap.size + 1, 5, none⟩ = some (.int .u32 b.f5) ∧ W.cell? ⟨w.heap.size + 1, 6, none⟩ = some (.bool b.f6) := ⟨⟨h⟩, (blk_cell h.x 0).trans rfl, (blk_cell h.x 1).trans rfl, (blk_cell h.x 2).trans rfl, (blk_cell h.x 3).trans rfl, (blk_cell h.x 4).trans rfl, (blk_cell h.x 5).trans rfl, (blk_cell h.x 6).trans rfl, (blk_cell h.y 0).trans rfl, (blk_cell h.y 1).trans rfl, (blk_cell h.y 2).trans rfl, (blk_cell h.y 3).trans rfl, (blk_cell h.y 4).trans rfl, (blk_cell h.y 5).trans rfl, (blk_cell h.y 6).trans rfl⟩
theorem tlO {w : World} {a b : S24} {W : World} {P : Prop} (h : Aside0 (Tl w a b W) ∧ P) : Tl w a b W := h.1.out
def TellR (w : World) (rows : List (Int × Int × Int)) (i v : Value) (wr : World) : Prop :=
  ∃ j : Nat, i = .int .i64 (j : Int) ∧ j ≤ 7 ∧ Kd.R k39 39 wr w.heap.size (fun _ => True) v (tellL (rows.take j)) ∧ Below w.heap.size w wr
theorem tell_snoc (rows : List (Int × Int × Int)) (j : Nat) (h : j < rows.length) : tellL (rows.take (j + 1)) = tellL (rows.take j) ++ tellOne rows[j] := by
  unfold tellL
  rw [List.take_succ_eq_append_getElem h, List.flatMap_append]
  simp
theorem tell_len (rows : List (Int × Int × Int)) (j : Nat) : (tellL (rows.take j)).length ≤ j := by
  induction j with
  | zero => simp [tellL]
  | succ j ih =>
    by_cases h : j < rows.length
    · rw [tell_snoc rows j h, List.length_append]
      have : (tellOne rows[j]).length ≤ 1 := by unfold tellOne; split <;> simp
      omega
    · rw [List.take_of_length_le (by omega)]
      rw [List.take_of_length_le (by omega)] at ih
      omega
set_option maxHeartbeats 16000000 in
set_option maxRecDepth 100000 in
theorem tell_any (a b : S24) (w : World) : Calls Try.prog 13 #[.agg (cellsS a), .agg (cellsS b)] w fun e w' => ∃ v : Value, e = .returned v ∧ Kd.R k39 39 w' w.heap.size (fun _ => True) v (tellL (tellRows a b)) ∧ Below w.heap.size w w' := by
  have hu24 := Try.underlying24
  have hu39 := Try.underlying39
  have info39 : (Try.prog.info? 39).map (fun i => (i.zero, i.size, i.bytes)) = some (some (.agg #[.int .u16 0, .int .u32 0]), 2, 8) := by kernel_rfl
  unfold cellsS
  go_enter Try.func13, Try.ntmps13
  go_wp2_with fail
  refine wp_region_noPanic ?_
  refine wp_region_held_drew (S := fun w' => Aside0 (Tl w a b w') ∧ w'.cell? ⟨w.heap.size, 0, none⟩ = some (.int .u32 a.f0) ∧ w'.cell? ⟨w.heap.size, 1, none⟩ = some (.bool a.f1) ∧ w'.cell? ⟨w.heap.size, 2, none⟩ = some (.int .u32 a.f2) ∧ w'.cell? ⟨w.heap.size, 3, none⟩ = some (.int .u32 a.f3) ∧ w'.cell? ⟨w.heap.size, 4, none⟩ = some (.int .u32 a.f4) ∧ w'.cell? ⟨w.heap.size, 5, none⟩ = some (.int .u32 a.f5) ∧ w'.cell? ⟨w.heap.size, 6, none⟩ = some (.bool a.f6) ∧ w'.cell? ⟨w.heap.size + 1, 0, none⟩ = some (.int .u32 b.f0) ∧ w'.cell? ⟨w.heap.size + 1, 1, none⟩ = some (.bool b.f1) ∧ w'.cell? ⟨w.heap.size + 1, 2, none⟩ = some (.int .u32 b.f2) ∧ w'.cell? ⟨w.heap.size + 1, 3, none⟩ = some (.int .u32 b.f3) ∧ w'.cell? ⟨w.heap.size + 1, 4, none⟩ = some (.int .u32 b.f4) ∧ w'.cell? ⟨w.heap.size + 1, 5, none⟩ = some (.int .u32 b.f5) ∧ w'.cell? ⟨w.heap.size + 1, 6, none⟩ = some (.bool b.f6)) (by kernel_rfl) (tlS ⟨by repeat (first | exact Below.refl _ _ | apply below_drew | apply below_alloc), blk_alloc (last_at w _ _ rfl) _, last_at _ _ _ (by simp)⟩) (fun hHeld => ?_)
  refine takeN (i := 0) (N := (some 8)) (v := ?v1) (a' := ?a1) rfl rfl (by kernel_rfl) (by kernel_rfl) (by kernel_rfl) (fun _ _ _ h => h) (Or.inl ⟨by rfl, ?hy1⟩) ?ha1 (by assumption) ?rest1
  case hy1 =>
    intro w_ hSw_
    go_simp
    first | done | (with_reducible rfl)
  case ha1 =>
    simp only [Act.put, List.setIfInBounds_toArray, List.set_cons_zero, List.set_cons_succ]
    rfl
  refine takeN (i := 1) (N := (some 9)) (v := ?v2) (a' := ?a2) rfl rfl (by kernel_rfl) (by kernel_rfl) (by kernel_rfl) (fun _ _ _ h => h) (Or.inl ⟨by rfl, ?hy2⟩) ?ha2 (by assumption) ?rest2
  case hy2 =>
    intro w_ hSw_
    go_simp
    first | done | (with_reducible rfl)
  case ha2 =>
    simp only [Act.put, List.setIfInBounds_toArray, List.set_cons_zero, List.set_cons_succ]
    rfl
  refine takeN (i := 2) (N := (some 10)) (v := ?v3) (a' := ?a3) rfl rfl (by kernel_rfl) (by kernel_rfl) (by kernel_rfl) (fun _ _ _ h => h) (Or.inl ⟨by rfl, ?hy3⟩) ?ha3 (by assumption) ?rest3
  case hy3 =>
    intro w_ hSw_
    go_simp
    first | done | (with_reducible rfl)
  case ha3 =>
    simp only [Act.put, List.setIfInBounds_toArray, List.set_cons_zero, List.set_cons_succ]
    rfl
  refine takeN (i := 3) (N := (some 11)) (v := ?v4) (a' := ?a4) rfl rfl (by kernel_rfl) (by kernel_rfl) (by kernel_rfl) (fun _ _ _ h => h) (Or.inl ⟨by rfl, ?hy4⟩) ?ha4 (by assumption) ?rest4
  case hy4 =>
    intro w_ hSw_
    go_simp
    first | done | (with_reducible rfl)
  case ha4 =>
    simp only [Act.put, List.setIfInBounds_toArray, List.set_cons_zero, List.set_cons_succ]
    rfl
  refine takeN (i := 4) (N := (some 12)) (v := ?v5) (a' := ?a5) rfl rfl (by kernel_rfl) (by kernel_rfl) (by kernel_rfl) (fun _ _ _ h => h) (Or.inl ⟨by rfl, ?hy5⟩) ?ha5 (by assumption) ?rest5
  case hy5 =>
    intro w_ hSw_
    go_simp
    first | done | (with_reducible rfl)
  case ha5 =>
    simp only [Act.put, List.setIfInBounds_toArray, List.set_cons_zero, List.set_cons_succ]
    rfl
  refine takeN (i := 5) (N := (some 13)) (v := ?v6) (a' := ?a6) rfl rfl (by kernel_rfl) (by kernel_rfl) (by kernel_rfl) (fun _ _ _ h => h) (Or.inl ⟨by rfl, ?hy6⟩) ?ha6 (by assumption) ?rest6
  case hy6 =>
    intro w_ hSw_
    go_simp
    first | done | (with_reducible rfl)
  case ha6 =>
    simp only [Act.put, List.setIfInBounds_toArray, List.set_cons_zero, List.set_cons_succ]
    rfl
  refine takeN (i := 6) (N := (some 14)) (v := ?v7) (a' := ?a7) rfl rfl (by kernel_rfl) (by kernel_rfl) (by kernel_rfl) (fun _ _ _ h => h) (Or.inl ⟨by rfl, ?hy7⟩) ?ha7 (by assumption) ?rest7
  case hy7 =>
    intro w_ hSw_
    go_simp
    first | done | (with_reducible rfl)
  case ha7 =>
    simp only [Act.put, List.setIfInBounds_toArray, List.set_cons_zero, List.set_cons_succ]
    rfl
  refine takeN (i := 8) (N := (some 16)) (v := ?v8) (a' := ?a8) rfl rfl (by kernel_rfl) (by kernel_rfl) (by kernel_rfl) (fun _ _ _ h => h) (Or.inl ⟨by rfl, ?hy8⟩) ?ha8 (by assumption) ?rest8
  case hy8 =>
    intro w_ hSw_
    go_simp
    first | done | (with_reducible rfl)
  case ha8 =>
    simp only [Act.put, List.setIfInBounds_toArray, List.set_cons_zero, List.set_cons_succ]
    rfl
  refine takeN (i := 9) (N := (some 17)) (v := ?v9) (a' := ?a9) rfl rfl (by kernel_rfl) (by kernel_rfl) (by kernel_rfl) (fun _ _ _ h => h) (Or.inl ⟨by rfl, ?hy9⟩) ?ha9 (by assumption) ?rest9
  case hy9 =>
    intro w_ hSw_
    go_simp
    first | done | (with_reducible rfl)
  case ha9 =>
    simp only [Act.put, List.setIfInBounds_toArray, List.set_cons_zero, List.set_cons_succ]
    rfl
  refine takeN (i := 12) (N := (some 20)) (v := ?v10) (a' := ?a10) rfl rfl (by kernel_rfl) (by kernel_rfl) (by kernel_rfl) (fun _ _ _ h => h) (Or.inl ⟨by rfl, ?hy10⟩) ?ha10 (by assumption) ?rest10
  case hy10 =>
    intro w_ hSw_
    go_simp
    first | done | (with_reducible rfl)
  case ha10 =>
    simp only [Act.put, List.setIfInBounds_toArray, List.set_cons_zero, List.set_cons_succ]
    rfl
  refine takeN (i := 13) (N := (some 21)) (v := ?v11) (a' := ?a11) rfl rfl (by kernel_rfl) (by kernel_rfl) (by kernel_rfl) (fun _ _ _ h => h) (Or.inl ⟨by rfl, ?hy11⟩) ?ha11 (by assumption) ?rest11
  case hy11 =>
    intro w_ hSw_
    go_simp
    first | done | (with_reducible rfl)
  case ha11 =>
    simp only [Act.put, List.setIfInBounds_toArray, List.set_cons_zero, List.set_cons_succ]
    rfl
  refine takeN (i := 14) (N := (some 22)) (v := ?v12) (a' := ?a12) rfl rfl (by kernel_rfl) (by kernel_rfl) (by kernel_rfl) (fun _ _ _ h => h) (Or.inl ⟨by rfl, ?hy12⟩) ?ha12 (by assumption) ?rest12
  case hy12 =>
    intro w_ hSw_
    go_simp
    first | done | (with_reducible rfl)
  case ha12 =>
    simp only [Act.put, List.setIfInBounds_toArray, List.set_cons_zero, List.set_cons_succ]
    rfl
  refine takeN (i := 15) (N := (some 23)) (v := ?v13) (a' := ?a13) rfl rfl (by kernel_rfl) (by kernel_rfl) (by kernel_rfl) (fun _ _ _ h => h) (Or.inl ⟨by rfl, ?hy13⟩) ?ha13 (by assumption) ?rest13
  case hy13 =>
    intro w_ hSw_
    go_simp
    first | done | (with_reducible rfl)
  case ha13 =>
    simp only [Act.put, List.setIfInBounds_toArray, List.set_cons_zero, List.set_cons_succ]
    rfl
  refine takeN (i := 16) (N := (some 24)) (v := ?v14) (a' := ?a14) rfl rfl (by kernel_rfl) (by kernel_rfl) (by kernel_rfl) (fun _ _ _ h => h) (Or.inl ⟨by rfl, ?hy14⟩) ?ha14 (by assumption) ?rest14
  case hy14 =>
    intro w_ hSw_
    go_simp
    first | done | (with_reducible rfl)
  case ha14 =>
    simp only [Act.put, List.setIfInBounds_toArray, List.set_cons_zero, List.set_cons_succ]
    rfl
  refine takeN (i := 17) (N := (some 25)) (v := ?v15) (a' := ?a15) rfl rfl (by kernel_rfl) (by kernel_rfl) (by kernel_rfl) (fun _ _ _ h => h) (Or.inl ⟨by rfl, ?hy15⟩) ?ha15 (by assumption) ?rest15
  case hy15 =>
    intro w_ hSw_
    go_simp
    first | done | (with_reducible rfl)
  case ha15 =>
    simp only [Act.put, List.setIfInBounds_toArray, List.set_cons_zero, List.set_cons_succ]
    rfl
  refine takeN (i := 18) (N := (some 26)) (v := ?v16) (a' := ?a16) rfl rfl (by kernel_rfl) (by kernel_rfl) (by kernel_rfl) (fun _ _ _ h => h) (Or.inl ⟨by rfl, ?hy16⟩) ?ha16 (by assumption) ?rest16
  case hy16 =>
    intro w_ hSw_
    go_simp
    first | done | (with_reducible rfl)
  case ha16 =>
    simp only [Act.put, List.setIfInBounds_toArray, List.set_cons_zero, List.set_cons_succ]
    rfl
  refine takeN (i := 19) (N := (some 27)) (v := ?v17) (a' := ?a17) rfl rfl (by kernel_rfl) (by kernel_rfl) (by kernel_rfl) (fun _ _ _ h => h) (Or.inl ⟨by rfl, ?hy17⟩) ?ha17 (by assumption) ?rest17
  case hy17 =>
    intro w_ hSw_
    go_simp
    first | done | (with_reducible rfl)
  case ha17 =>
    simp only [Act.put, List.setIfInBounds_toArray, List.set_cons_zero, List.set_cons_succ]
    rfl
  refine takeN (i := 20) (N := (some 28)) (v := ?v18) (a' := ?a18) rfl rfl (by kernel_rfl) (by kernel_rfl) (by kernel_rfl) (fun _ _ _ h => h) (Or.inl ⟨by rfl, ?hy18⟩) ?ha18 (by assumption) ?rest18
  case hy18 =>
    intro w_ hSw_
    go_simp
    first | done | (with_reducible rfl)
  case ha18 =>
    simp only [Act.put, List.setIfInBounds_toArray, List.set_cons_zero, List.set_cons_succ]
    rfl
  refine takeN (i := 21) (N := (some 29)) (v := ?v19) (a' := ?a19) rfl rfl (by kernel_rfl) (by kernel_rfl) (by kernel_rfl) (fun _ _ _ h => h) (Or.inl ⟨by rfl, ?hy19⟩) ?ha19 (by assumption) ?rest19
  case hy19 =>
    intro w_ hSw_
    go_simp
    first | done | (with_reducible rfl)
  case ha19 =>
    simp only [Act.put, List.setIfInBounds_toArray, List.set_cons_zero, List.set_cons_succ]
    rfl
  refine takeN (i := 22) (N := (some 30)) (v := ?v20) (a' := ?a20) rfl rfl (by kernel_rfl) (by kernel_rfl) (by kernel_rfl) (fun _ _ _ h => h) (Or.inl ⟨by rfl, ?hy20⟩) ?ha20 (by assumption) ?rest20
  case hy20 =>
    intro w_ hSw_
    go_simp
    first | done | (with_reducible rfl)
  case ha20 =>
    simp only [Act.put, List.setIfInBounds_toArray, List.set_cons_zero, List.set_cons_succ]
    rfl
  refine takeN (i := 23) (N := (some 31)) (v := ?v21) (a' := ?a21) rfl rfl (by kernel_rfl) (by kernel_rfl) (by kernel_rfl) (fun _ _ _ h => h) (Or.inl ⟨by rfl, ?hy21⟩) ?ha21 (by assumption) ?rest21
  case hy21 =>
    intro w_ hSw_
    go_simp
    first | done | (with_reducible rfl)
  case ha21 =>
    simp only [Act.put, List.setIfInBounds_toArray, List.set_cons_zero, List.set_cons_succ]
    rfl
  refine takeN (i := 24) (N := (some 32)) (v := ?v22) (a' := ?a22) rfl rfl (by kernel_rfl) (by kernel_rfl) (by kernel_rfl) (fun _ _ _ h => h) (Or.inl ⟨by rfl, ?hy22⟩) ?ha22 (by assumption) ?rest22
  case hy22 =>
    intro w_ hSw_
    go_simp
    first | done | (with_reducible rfl)
  case ha22 =>
    simp only [Act.put, List.setIfInBounds_toArray, List.set_cons_zero, List.set_cons_succ]
    rfl
  refine takeN (i := 25) (N := (some 33)) (v := ?v23) (a' := ?a23) rfl rfl (by kernel_rfl) (by kernel_rfl) (by kernel_rfl) (fun _ _ _ h => h) (Or.inl ⟨by rfl, ?hy23⟩) ?ha23 (by assumption) ?rest23
  case hy23 =>
    intro w_ hSw_
    go_simp
    first | done | (with_reducible rfl)
  case ha23 =>
    simp only [Act.put, List.setIfInBounds_toArray, List.set_cons_zero, List.set_cons_succ]
    rfl
  refine takeN (i := 26) (N := (some 34)) (v := ?v24) (a' := ?a24) rfl rfl (by kernel_rfl) (by kernel_rfl) (by kernel_rfl) (fun _ _ _ h => h) (Or.inl ⟨by rfl, ?hy24⟩) ?ha24 (by assumption) ?rest24
  case hy24 =>
    intro w_ hSw_
    go_simp
    first | done | (with_reducible rfl)
  case ha24 =>
    simp only [Act.put, List.setIfInBounds_toArray, List.set_cons_zero, List.set_cons_succ]
    rfl
  refine takeN (i := 27) (N := (some 35)) (v := ?v25) (a' := ?a25) rfl rfl (by kernel_rfl) (by kernel_rfl) (by kernel_rfl) (fun _ _ _ h => h) (Or.inl ⟨by rfl, ?hy25⟩) ?ha25 (by assumption) ?rest25
  case hy25 =>
    intro w_ hSw_
    go_simp
    first | done | (with_reducible rfl)
  case ha25 =>
    simp only [Act.put, List.setIfInBounds_toArray, List.set_cons_zero, List.set_cons_succ]
    rfl
  refine takeN (i := 28) (N := (some 36)) (v := ?v26) (a' := ?a26) rfl rfl (by kernel_rfl) (by kernel_rfl) (by kernel_rfl) (fun _ _ _ h => h) (Or.inl ⟨by rfl, ?hy26⟩) ?ha26 (by assumption) ?rest26
  case hy26 =>
    intro w_ hSw_
    go_simp
    first | done | (with_reducible rfl)
  case ha26 =>
    simp only [Act.put, List.setIfInBounds_toArray, List.set_cons_zero, List.set_cons_succ]
    rfl
  refine takeN (i := 29) (N := (some 37)) (v := ?v27) (a' := ?a27) rfl rfl (by kernel_rfl) (by kernel_rfl) (by kernel_rfl) (fun _ _ _ h => h) (Or.inl ⟨by rfl, ?hy27⟩) ?ha27 (by assumption) ?rest27
  case hy27 =>
    intro w_ hSw_
    go_simp
    first | done | (with_reducible rfl)
  case ha27 =>
    simp only [Act.put, List.setIfInBounds_toArray, List.set_cons_zero, List.set_cons_succ]
    rfl
  refine takeN (i := 30) (N := (some 38)) (v := ?v28) (a' := ?a28) rfl rfl (by kernel_rfl) (by kernel_rfl) (by kernel_rfl) (fun _ _ _ h => h) (Or.inl ⟨by rfl, ?hy28⟩) ?ha28 (by assumption) ?rest28
  case hy28 =>
    intro w_ hSw_
    go_simp
    first | done | (with_reducible rfl)
  case ha28 =>
    simp only [Act.put, List.setIfInBounds_toArray, List.set_cons_zero, List.set_cons_succ]
    rfl
  refine takeN (i := 31) (N := (some 39)) (v := ?v29) (a' := ?a29) rfl rfl (by kernel_rfl) (by kernel_rfl) (by kernel_rfl) (fun _ _ _ h => h) (Or.inl ⟨by rfl, ?hy29⟩) ?ha29 (by assumption) ?rest29
  case hy29 =>
    intro w_ hSw_
    go_simp
    first | done | (with_reducible rfl)
  case ha29 =>
    simp only [Act.put, List.setIfInBounds_toArray, List.set_cons_zero, List.set_cons_succ]
    rfl
  refine takeN (i := 32) (N := (some 40)) (v := ?v30) (a' := ?a30) rfl rfl (by kernel_rfl) (by kernel_rfl) (by kernel_rfl) (fun _ _ _ h => h) (Or.inl ⟨by rfl, ?hy30⟩) ?ha30 (by assumption) ?rest30
  case hy30 =>
    intro w_ hSw_
    go_simp
    first | done | (with_reducible rfl)
  case ha30 =>
    simp only [Act.put, List.setIfInBounds_toArray, List.set_cons_zero, List.set_cons_succ]
    rfl
  refine takeN (i := 33) (N := (some 41)) (v := ?v31) (a' := ?a31) rfl rfl (by kernel_rfl) (by kernel_rfl) (by kernel_rfl) (fun _ _ _ h => h) (Or.inl ⟨by rfl, ?hy31⟩) ?ha31 (by assumption) ?rest31
  case hy31 =>
    intro w_ hSw_
    go_simp
    first | done | (with_reducible rfl)
  case ha31 =>
    simp only [Act.put, List.setIfInBounds_toArray, List.set_cons_zero, List.set_cons_succ]
    rfl
  refine takeN (i := 35) (N := (some 43)) (v := ?v32) (a' := ?a32) rfl rfl (by kernel_rfl) (by kernel_rfl) (by kernel_rfl) (fun _ _ _ h => h) (Or.inl ⟨by rfl, ?hy32⟩) ?ha32 (by assumption) ?rest32
  case hy32 =>
    intro w_ hSw_
    go_simp
    first | done | (with_reducible rfl)
  case ha32 =>
    simp only [Act.put, List.setIfInBounds_toArray, List.set_cons_zero, List.set_cons_succ]
    rfl
  refine takeN (i := 36) (N := (some 44)) (v := ?v33) (a' := ?a33) rfl rfl (by kernel_rfl) (by kernel_rfl) (by kernel_rfl) (fun _ _ _ h => h) (Or.inl ⟨by rfl, ?hy33⟩) ?ha33 (by assumption) ?rest33
  case hy33 =>
    intro w_ hSw_
    go_simp
    first | done | (with_reducible rfl)
  case ha33 =>
    simp only [Act.put, List.setIfInBounds_toArray, List.set_cons_zero, List.set_cons_succ]
    rfl
  refine takeN (i := 40) (N := (some 48)) (v := ?v34) (a' := ?a34) rfl rfl (by kernel_rfl) (by kernel_rfl) (by kernel_rfl) (fun _ _ _ h => h) (Or.inl ⟨by rfl, ?hy34⟩) ?ha34 (by assumption) ?rest34
  case hy34 =>
    intro w_ hSw_
    go_simp
    first | done | (with_reducible rfl)
  case ha34 =>
    simp only [Act.put, List.setIfInBounds_toArray, List.set_cons_zero, List.set_cons_succ]
    rfl
  refine wpAnyH_ready (rs := [7]) (by kernel_rfl) (by simp) ?_
  refine AllReadyH.cons rfl (fun K hK => ?_) AllReadyH.nil
  go_simp
  go_at_call 23
  with_reducible refine (settings_bit.calls a.f1 (bitC a.f1) _ (bit_f _)).mono ?_
  rintro e w' ⟨rfl, hd⟩
  refine hK.out _ _ (tlS (Tl.below (tlO hHeld) hd.below)) (fun hHeld => ?_)
  clear hK K
  try simp only [Act.put, List.setIfInBounds_toArray, List.set_cons_zero, List.set_cons_succ]
  refine wpAnyH_ready (rs := [10]) (by kernel_rfl) (by simp) ?_
  refine AllReadyH.cons rfl (fun K hK => ?_) AllReadyH.nil
  go_simp
  go_at_call 23
  with_reducible refine (settings_bit.calls b.f1 (bitC b.f1) _ (bit_f _)).mono ?_
  rintro e w' ⟨rfl, hd⟩
  refine hK.out _ _ (tlS (Tl.below (tlO hHeld) hd.below)) (fun hHeld => ?_)
  clear hK K
  try simp only [Act.put, List.setIfInBounds_toArray, List.set_cons_zero, List.set_cons_succ]
  refine takeN (i := 11) (N := (some 19)) (v := ?v35) (a' := ?a35) rfl rfl (by kernel_rfl) (by kernel_rfl) (by kernel_rfl) (fun _ _ _ h => h) (Or.inl ⟨by rfl, ?hy35⟩) ?ha35 (by assumption) ?rest35
  case hy35 =>
    intro w_ hSw_
    go_simp
    first | done | (with_reducible rfl)
  case ha35 =>
    simp only [Act.put, List.setIfInBounds_toArray, List.set_cons_zero, List.set_cons_succ]
    rfl
  refine wpAnyH_ready (rs := [34]) (by kernel_rfl) (by simp) ?_
  refine AllReadyH.cons rfl (fun K hK => ?_) AllReadyH.nil
  go_simp
  go_at_call 23
  with_reducible refine (settings_bit.calls a.f6 (bitC a.f6) _ (bit_f _)).mono ?_
  rintro e w' ⟨rfl, hd⟩
  refine hK.out _ _ (tlS (Tl.below (tlO hHeld) hd.below)) (fun hHeld => ?_)
  clear hK K
  try simp only [Act.put, List.setIfInBounds_toArray, List.set_cons_zero, List.set_cons_succ]
  refine wpAnyH_ready (rs := [37]) (by kernel_rfl) (by simp) ?_
  refine AllReadyH.cons rfl (fun K hK => ?_) AllReadyH.nil
  go_simp
  go_at_call 23
  with_reducible refine (settings_bit.calls b.f6 (bitC b.f6) _ (bit_f _)).mono ?_
  rintro e w' ⟨rfl, hd⟩
  refine hK.out _ _ (tlS (Tl.below (tlO hHeld) hd.below)) (fun hHeld => ?_)
  clear hK K
  try simp only [Act.put, List.setIfInBounds_toArray, List.set_cons_zero, List.set_cons_succ]
  refine takeN (i := 38) (N := (some 46)) (v := ?v36) (a' := ?a36) rfl rfl (by kernel_rfl) (by kernel_rfl) (by kernel_rfl) (fun _ _ _ h => h) (Or.inl ⟨by rfl, ?hy36⟩) ?ha36 (by assumption) ?rest36
  case hy36 =>
    intro w_ hSw_
    go_simp
    first | done | (with_reducible rfl)
  case ha36 =>
    simp only [Act.put, List.setIfInBounds_toArray, List.set_cons_zero, List.set_cons_succ]
    rfl
  refine takeN (i := 39) (N := (some 47)) (v := ?v37) (a' := ?a37) rfl rfl (by kernel_rfl) (by kernel_rfl) (by kernel_rfl) (fun _ _ _ h => h) (Or.inl ⟨by rfl, ?hy37⟩) ?ha37 (by assumption) ?rest37
  case hy37 =>
    intro w_ hSw_
    go_simp
    first | done | (with_reducible rfl)
  case ha37 =>
    simp only [Act.put, List.setIfInBounds_toArray, List.set_cons_zero, List.set_cons_succ]
    rfl
  refine wpAnyH_done (by kernel_rfl) ?_ _
  refine NoPanic.normal ?_
  have HX := Aside0.mk (tlO hHeld).bel
  clear hHeld
  obtain ⟨rows, hrows⟩ : ∃ rows, rows = tellRows a b := ⟨_, rfl⟩
  have hlen : rows.length = 7 := by rw [hrows]; rfl
  have hix : ∀ (j : Nat) (hj : j < 7) (W : World), (Instr.index 59 (.agg #[.int .u16 (1), .int .u32 (a.f0), .int .u32 (b.f0), .int .u16 (2), .int .u32 (bitC a.f1), .int .u32 (bitC b.f1), .int .u16 (3), .int .u32 (a.f2), .int .u32 (b.f2), .int .u16 (4), .int .u32 (a.f3), .int .u32 (b.f3), .int .u16 (5), .int .u32 (a.f4), .int .u32 (b.f4), .int .u16 (6), .int .u32 (a.f5), .int .u32 (b.f5), .int .u16 (8), .int .u32 (bitC a.f6), .int .u32 (bitC b.f6)]) (.int .i64 (j : Int))).run Try.prog W = .ok (.agg #[.int .u16 (rows[j]'(by omega)).1, .int .u32 (rows[j]'(by omega)).2.1, .int .u32 (rows[j]'(by omega)).2.2]) W := by
    intro j hj W
    subst hrows
    have h7 : j = 0 ∨ j = 1 ∨ j = 2 ∨ j = 3 ∨ j = 4 ∨ j = 5 ∨ j = 6 := by omega
    rcases h7 with rfl | rfl | rfl | rfl | rfl | rfl | rfl <;> rfl
  have HIX := Aside0.mk hix
  have HRW := Aside0.mk hrows
  clear hix hrows
  go_wp2_with fail
  go_loopw [48, 5] (fun i v wr => TellR w rows i v wr) (fun i _ _ => 7 - (intOf i).toNat)
  case atStart => exact ⟨0, rfl, by omega, Kd.R_nil _ _ _ _ _, by repeat (first | exact HX.out | apply below_alloc)⟩
  case round =>
    obtain ⟨j, rfl, hj, hR, hB⟩ := hrel
    have HR := Aside0.mk hR
    have HB := Aside0.mk hB
    clear hR hB
    by_cases hlt : j < 7
    · have hi := fun W => HIX.out j hlt W
      have hj' : j < rows.length := by omega
      have hsn := tell_snoc rows j hj'
      have hln := tell_len rows j
      generalize rows[j] = r at hi hsn
      obtain ⟨id, was, is⟩ := r
      (try simp only at hi hsn)
      have HSN := Aside0.mk hsn
      clear hsn
      by_cases he : was = is
      · have heb : (was != is) = false := by simp [he]
        go_wp2_with fail
        go_roundw
        case rel => exact ⟨j + 1, by go_num, by omega, by rw [HSN.out]; unfold tellOne; rw [if_pos he, List.append_nil]; exact Kd.R_alloc HR.out _, below_alloc HB.out _⟩
        case measure => simp [intOf]; omega
      · have heb : (was != is) = true := by simp [he]
        go_wp2_with (first | ((with_reducible refine gate_builtin (b := .append) (xs := #[.tmp 56, .tmp 62]) rfl ?_); go_loud (at_builtin; refine Kd.R_append k39 (w0 := w) w.heap.size rfl (.tmp 56) (.tmp 62) 25 39 (.agg #[.int .u16 0, .int .u32 0]) 8 rfl Try.underlying25 info39 rfl (by decide) (by omega) _ (tellL (rows.take j)) ⟨id, is⟩ [.int .u16 id, .int .u32 is] (fun _ => True) (fun _ => False) rfl (by show Value.slice (some (⟨wr.heap.size + 1, 0, none⟩ : Addr)) 1 1 = Value.slice _ 1 1; simp) ?aP (fun _ hk => hk.elim) ?aF ?aO ?aB ?aS ?aL ?_; (case aP => exact k39_mkM _ _ _ (⟨id, is⟩ : S39)); (case aF => exact fun _ _ => trivial); (case aO => exact Kd.R_alloc HR.out _); (case aB => exact below_alloc HB.out _); (case aS => exact (below_alloc HB.out _).size); (case aL => omega); intro v1 w1 hR1 hB1 hg1 hat1; clear hg1 hat1)))
        go_roundw
        case rel => exact ⟨j + 1, by go_num, by omega, by rw [HSN.out]; unfold tellOne; rw [if_neg he]; exact hR1, hB1⟩
        case measure => simp [intOf]; omega
    · obtain rfl : j = 7 := by omega
      go_wp2_with fail
      go_ret
      exact ⟨_, rfl, by have h := HR.out; rw [List.take_of_length_le (by omega), HRW.out] at h; exact h, HB.out⟩
def settings_Tell.f (a0_0 : Int) (a0_1 : Bool) (a0_2 : Int) (a0_3 : Int) (a0_4 : Int) (a0_5 : Int) (a0_6 : Bool) (a1_0 : Int) (a1_1 : Bool) (a1_2 : Int) (a1_3 : Int) (a1_4 : Int) (a1_5 : Int) (a1_6 : Bool) : Option (List S39) := some (tellL (tellRows ⟨a0_0, a0_1, a0_2, a0_3, a0_4, a0_5, a0_6⟩ ⟨a1_0, a1_1, a1_2, a1_3, a1_4, a1_5, a1_6⟩))
theorem settings_Tell.calls (a0_0 : Int) (a0_1 : Bool) (a0_2 : Int) (a0_3 : Int) (a0_4 : Int) (a0_5 : Int) (a0_6 : Bool) (a1_0 : Int) (a1_1 : Bool) (a1_2 : Int) (a1_3 : Int) (a1_4 : Int) (a1_5 : Int) (a1_6 : Bool) (r : List S39) (w : World) (h : settings_Tell.f a0_0 a0_1 a0_2 a0_3 a0_4 a0_5 a0_6 a1_0 a1_1 a1_2 a1_3 a1_4 a1_5 a1_6 = some r) : Calls Try.prog 13 #[.agg #[.int .u32 a0_0, .bool a0_1, .int .u32 a0_2, .int .u32 a0_3, .int .u32 a0_4, .int .u32 a0_5, .bool a0_6], .agg #[.int .u32 a1_0, .bool a1_1, .int .u32 a1_2, .int .u32 a1_3, .int .u32 a1_4, .int .u32 a1_5, .bool a1_6]] w fun e w' => ∃ v_ : Value, e = .returned v_ ∧ Kd.R k39 39 w' w.heap.size (fun _ => True) v_ r ∧ Below w.heap.size w w' := by
  obtain rfl := Option.some.inj h
  exact tell_any _ _ w


-- NOT PRINTED: function 4 (louverlaw09_SettingsTell)

-- NOT PRINTED: function 14 (settings_Side_Ack)

/-- A state of type 61 at block g of W; what its slices lead to came in by w0. -/
def IsS61 (w0 W : World) (g : Nat) (f0 : Int) (f1 : Bool) (f2 : Int) (f3 : Int) (f4 : Int) (f5 : Int) (f6 : Bool) (f7 : List (S24)) : Prop := ∃ A7 c7, W.heap[g]? = some (.cells #[.int .u32 f0, .bool f1, .int .u32 f2, .int .u32 f3, .int .u32 f4, .int .u32 f5, .bool f6, .slice A7 f7.length c7] 61 (0, 0)) ∧ w0.heap.size ≤ g ∧ Kd.C k24 w0 A7 f7.length f7
theorem IsS61.grown {w0 W : World} {g : Nat} {f0 : Int} {f1 : Bool} {f2 : Int} {f3 : Int} {f4 : Int} {f5 : Int} {f6 : Bool} {f7 : List (S24)} {W1 : World} {row : Option Nat} (h : IsS61 w0 W g f0 f1 f2 f3 f4 f5 f6 f7) (hw : W.grownBy W1 row) (hne : some g ≠ row) : IsS61 w0 W1 g f0 f1 f2 f3 f4 f5 f6 f7 := by
  obtain ⟨A7, c7, hb, hg, hr7⟩ := h
  exact ⟨A7, c7, blk_grown hb hw hne, hg, hr7⟩
theorem IsS61.own_neN {w0 W : World} {g : Nat} {f0 : Int} {f1 : Bool} {f2 : Int} {f3 : Int} {f4 : Int} {f5 : Int} {f6 : Bool} {f7 : List (S24)} {α : Type} {d : Kd α} {e : Nat} {base : Nat} {ok : Nat → Prop} {v : Value} {xs : List α} (h : IsS61 w0 W g f0 f1 f2 f3 f4 f5 f6 f7) (ho : Kd.N d e W base ok v xs) (ht : e ≠ 61) : some g ≠ v.ownBlock := by
  obtain ⟨A7, c7, hb, hg, hr7⟩ := h
  exact Kd.N_ne ho hb ht
theorem IsS61.fresh {w0 W : World} {g : Nat} {f0 : Int} {f1 : Bool} {f2 : Int} {f3 : Int} {f4 : Int} {f5 : Int} {f6 : Bool} {f7 : List (S24)} (h : IsS61 w0 W g f0 f1 f2 f3 f4 f5 f6 f7) : ∀ k, W.heap.size ≤ k → k ≠ g := by
  obtain ⟨A7, c7, hb, hg, hr7⟩ := h
  exact Kd.freshB hb
theorem IsS61.kept {w0 W : World} {g : Nat} {f0 : Int} {f1 : Bool} {f2 : Int} {f3 : Int} {f4 : Int} {f5 : Int} {f6 : Bool} {f7 : List (S24)} {W1 : World} {S : Nat → Prop} (h : IsS61 w0 W g f0 f1 f2 f3 f4 f5 f6 f7) (hk : Kept W W1 S) (hne : ¬ S g) : IsS61 w0 W1 g f0 f1 f2 f3 f4 f5 f6 f7 := by
  obtain ⟨A7, c7, hb, hg, hr7⟩ := h
  exact ⟨A7, c7, blk_kept hb hk hne, hg, hr7⟩
theorem IsS61.below {w0 W : World} {g : Nat} {f0 : Int} {f1 : Bool} {f2 : Int} {f3 : Int} {f4 : Int} {f5 : Int} {f6 : Bool} {f7 : List (S24)} {W1 : World} (h : IsS61 w0 W g f0 f1 f2 f3 f4 f5 f6 f7) (hw : Below W.heap.size W W1) : IsS61 w0 W1 g f0 f1 f2 f3 f4 f5 f6 f7 := h.grown (grown_of_below hw none) (by simp)
theorem IsS61.alloc {w0 W : World} {g : Nat} {f0 : Int} {f1 : Bool} {f2 : Int} {f3 : Int} {f4 : Int} {f5 : Int} {f6 : Bool} {f7 : List (S24)} (h : IsS61 w0 W g f0 f1 f2 f3 f4 f5 f6 f7) (o : Obj) : IsS61 w0 (W.alloc o) g f0 f1 f2 f3 f4 f5 f6 f7 := h.below (below_alloc (Below.refl _ _) o)
theorem IsS61.drewN {w0 W : World} {g : Nat} {f0 : Int} {f1 : Bool} {f2 : Int} {f3 : Int} {f4 : Int} {f5 : Int} {f6 : Bool} {f7 : List (S24)} (h : IsS61 w0 W g f0 f1 f2 f3 f4 f5 f6 f7) (m : Nat) : IsS61 w0 (W.drewN m) g f0 f1 f2 f3 f4 f5 f6 f7 := h
theorem IsS61.drew {w0 W : World} {g : Nat} {f0 : Int} {f1 : Bool} {f2 : Int} {f3 : Int} {f4 : Int} {f5 : Int} {f6 : Bool} {f7 : List (S24)} (h : IsS61 w0 W g f0 f1 f2 f3 f4 f5 f6 f7) : IsS61 w0 W.drew g f0 f1 f2 f3 f4 f5 f6 f7 := h
theorem IsS61.at_ {w0 W : World} {g : Nat} {f0 : Int} {f1 : Bool} {f2 : Int} {f3 : Int} {f4 : Int} {f5 : Int} {f6 : Bool} {f7 : List (S24)} {w' : World} {m : Nat} (hq : W.drewN m = w') (h : IsS61 w0 W g f0 f1 f2 f3 f4 f5 f6 f7) : IsS61 w0 w' g f0 f1 f2 f3 f4 f5 f6 f7 := by subst hq; exact IsS61.drewN h m
theorem IsS61.apart {w0 W : World} {g : Nat} {f0 : Int} {f1 : Bool} {f2 : Int} {f3 : Int} {f4 : Int} {f5 : Int} {f6 : Bool} {f7 : List (S24)} {α : Type} {d : Kd α} {e : Nat} {base : Nat} {ok : Nat → Prop} {v : Value} {xs : List α} (h : IsS61 w0 W g f0 f1 f2 f3 f4 f5 f6 f7) (ho : d.R e W base ok v xs) (ht : ∀ q, q ∈ e :: d.E → q ≠ 61) : d.R e W base (fun k => ok k ∧ k ≠ g) v xs := by
  obtain ⟨A7, c7, hb, hg, hr7⟩ := h
  exact Kd.R_types ho hb ht
theorem IsS61.own_ne {w0 W : World} {g : Nat} {f0 : Int} {f1 : Bool} {f2 : Int} {f3 : Int} {f4 : Int} {f5 : Int} {f6 : Bool} {f7 : List (S24)} {α : Type} {d : Kd α} {e : Nat} {base : Nat} {ok : Nat → Prop} {v : Value} {xs : List α} (h : IsS61 w0 W g f0 f1 f2 f3 f4 f5 f6 f7) (ho : d.R e W base ok v xs) (ht : e ≠ 61) : some g ≠ v.ownBlock := by
  obtain ⟨A7, c7, hb, hg, hr7⟩ := h
  exact Kd.R_ne ho hb ht
theorem IsS61.apartQ {w0 W : World} {g : Nat} {f0 : Int} {f1 : Bool} {f2 : Int} {f3 : Int} {f4 : Int} {f5 : Int} {f6 : Bool} {f7 : List (S24)} {α : Type} {d : Kd α} {e : Nat} {base : Nat} {ok : Nat → Prop} {v : Value} {xs : List α} (h : IsS61 w0 W g f0 f1 f2 f3 f4 f5 f6 f7) (ho : d.Q e W base ok v xs) (ht : ∀ q, q ∈ e :: d.E → q ≠ 61) : d.Q e W base (fun k => ok k ∧ k ≠ g) v xs := by
  obtain ⟨A7, c7, hb, hg, hr7⟩ := h
  exact Kd.Q_types ho hb ht
theorem IsS61.own_neQ {w0 W : World} {g : Nat} {f0 : Int} {f1 : Bool} {f2 : Int} {f3 : Int} {f4 : Int} {f5 : Int} {f6 : Bool} {f7 : List (S24)} {α : Type} {d : Kd α} {e : Nat} {base : Nat} {ok : Nat → Prop} {v : Value} {xs : List α} (h : IsS61 w0 W g f0 f1 f2 f3 f4 f5 f6 f7) (ho : d.Q e W base ok v xs) (ht : e ≠ 61) : some g ≠ v.ownBlock := by
  obtain ⟨A7, c7, hb, hg, hr7⟩ := h
  exact Kd.Q_ne ho hb ht
theorem IsS61.apartS {w0 W : World} {g : Nat} {f0 : Int} {f1 : Bool} {f2 : Int} {f3 : Int} {f4 : Int} {f5 : Int} {f6 : Bool} {f7 : List (S24)} {α : Type} {d : Kd α} {e : Nat} {base : Nat} {ok : Nat → Prop} {v : Value} {xs : List α} (h : IsS61 w0 W g f0 f1 f2 f3 f4 f5 f6 f7) (ho : d.S e W base ok v xs) (ht : ∀ q, q ∈ e :: d.E → q ≠ 61) : d.S e W base (fun k => ok k ∧ k ≠ g) v xs := by
  obtain ⟨A7, c7, hb, hg, hr7⟩ := h
  exact Kd.S_types ho hb ht
theorem IsS61.own_neS {w0 W : World} {g : Nat} {f0 : Int} {f1 : Bool} {f2 : Int} {f3 : Int} {f4 : Int} {f5 : Int} {f6 : Bool} {f7 : List (S24)} {α : Type} {d : Kd α} {e : Nat} {base : Nat} {ok : Nat → Prop} {v : Value} {xs : List α} (h : IsS61 w0 W g f0 f1 f2 f3 f4 f5 f6 f7) (ho : d.S e W base ok v xs) (ht : e ≠ 61) : some g ≠ v.ownBlock := by
  obtain ⟨A7, c7, hb, hg, hr7⟩ := h
  exact Kd.S_ne ho hb ht
theorem IsS61.lt {w0 W : World} {g : Nat} {f0 : Int} {f1 : Bool} {f2 : Int} {f3 : Int} {f4 : Int} {f5 : Int} {f6 : Bool} {f7 : List (S24)} (h : IsS61 w0 W g f0 f1 f2 f3 f4 f5 f6 f7) : g < W.heap.size := by
  obtain ⟨A7, c7, hb, hg, hr7⟩ := h
  exact blk_lt hb
theorem IsS61.ge {w0 W : World} {g : Nat} {f0 : Int} {f1 : Bool} {f2 : Int} {f3 : Int} {f4 : Int} {f5 : Int} {f6 : Bool} {f7 : List (S24)} (h : IsS61 w0 W g f0 f1 f2 f3 f4 f5 f6 f7) : w0.heap.size ≤ g := by
  obtain ⟨A7, c7, hb, hg, hr7⟩ := h
  exact hg
theorem IsS61.ne_blk {w0 W : World} {g : Nat} {f0 : Int} {f1 : Bool} {f2 : Int} {f3 : Int} {f4 : Int} {f5 : Int} {f6 : Bool} {f7 : List (S24)} {a : Nat} {cs : Array Value} {t : TypeId} {fr : Nat × Nat} (h : IsS61 w0 W g f0 f1 f2 f3 f4 f5 f6 f7) (hb2 : W.heap[a]? = some (.cells cs t fr)) (ht : t ≠ 61) : g ≠ a := by
  obtain ⟨A7, c7, hb, hg, hr7⟩ := h
  rintro rfl
  rw [hb] at hb2
  injection hb2 with hb2
  injection hb2 with _ ht2
  exact ht ht2.symm
theorem IsS61.far {w0 W : World} {g : Nat} {f0 : Int} {f1 : Bool} {f2 : Int} {f3 : Int} {f4 : Int} {f5 : Int} {f6 : Bool} {f7 : List (S24)} {p : Addr} (h : IsS61 w0 W g f0 f1 f2 f3 f4 f5 f6 f7) (hne : g ≠ p.block) (u : Value) : IsS61 w0 (W.setCell p u) g f0 f1 f2 f3 f4 f5 f6 f7 := by
  obtain ⟨A7, c7, hb, hg, hr7⟩ := h
  exact ⟨A7, c7, blk_far hb hne u, hg, hr7⟩
theorem cellS61_0 {W : World} {g : Nat} {A7 : Option Addr} {c7 : Nat} {f0 : Int} {f1 : Bool} {f2 : Int} {f3 : Int} {f4 : Int} {f5 : Int} {f6 : Bool} {f7 : List (S24)} (h : W.heap[g]? = some (.cells #[.int .u32 f0, .bool f1, .int .u32 f2, .int .u32 f3, .int .u32 f4, .int .u32 f5, .bool f6, .slice A7 f7.length c7] 61 (0, 0))) : W.cell? ⟨g, 0, none⟩ = some (.int .u32 f0) := (blk_cell h 0).trans rfl
theorem IsS61.set_0 {w0 W : World} {g : Nat} {f0 : Int} {f1 : Bool} {f2 : Int} {f3 : Int} {f4 : Int} {f5 : Int} {f6 : Bool} {f7 : List (S24)} (h : IsS61 w0 W g f0 f1 f2 f3 f4 f5 f6 f7) (x : Int) : IsS61 w0 (W.setCell ⟨g, 0, none⟩ (.int .u32 x)) g x f1 f2 f3 f4 f5 f6 f7 := by
  obtain ⟨A7, c7, hb, hg, hr7⟩ := h
  exact ⟨A7, c7, by simpa using blk_set hb 0 (.int .u32 x), hg, hr7⟩
theorem cellS61_1 {W : World} {g : Nat} {A7 : Option Addr} {c7 : Nat} {f0 : Int} {f1 : Bool} {f2 : Int} {f3 : Int} {f4 : Int} {f5 : Int} {f6 : Bool} {f7 : List (S24)} (h : W.heap[g]? = some (.cells #[.int .u32 f0, .bool f1, .int .u32 f2, .int .u32 f3, .int .u32 f4, .int .u32 f5, .bool f6, .slice A7 f7.length c7] 61 (0, 0))) : W.cell? ⟨g, 1, none⟩ = some (.bool f1) := (blk_cell h 1).trans rfl
theorem IsS61.set_1 {w0 W : World} {g : Nat} {f0 : Int} {f1 : Bool} {f2 : Int} {f3 : Int} {f4 : Int} {f5 : Int} {f6 : Bool} {f7 : List (S24)} (h : IsS61 w0 W g f0 f1 f2 f3 f4 f5 f6 f7) (x : Bool) : IsS61 w0 (W.setCell ⟨g, 1, none⟩ (.bool x)) g f0 x f2 f3 f4 f5 f6 f7 := by
  obtain ⟨A7, c7, hb, hg, hr7⟩ := h
  exact ⟨A7, c7, by simpa using blk_set hb 1 (.bool x), hg, hr7⟩
theorem cellS61_2 {W : World} {g : Nat} {A7 : Option Addr} {c7 : Nat} {f0 : Int} {f1 : Bool} {f2 : Int} {f3 : Int} {f4 : Int} {f5 : Int} {f6 : Bool} {f7 : List (S24)} (h : W.heap[g]? = some (.cells #[.int .u32 f0, .bool f1, .int .u32 f2, .int .u32 f3, .int .u32 f4, .int .u32 f5, .bool f6, .slice A7 f7.length c7] 61 (0, 0))) : W.cell? ⟨g, 2, none⟩ = some (.int .u32 f2) := (blk_cell h 2).trans rfl
theorem IsS61.set_2 {w0 W : World} {g : Nat} {f0 : Int} {f1 : Bool} {f2 : Int} {f3 : Int} {f4 : Int} {f5 : Int} {f6 : Bool} {f7 : List (S24)} (h : IsS61 w0 W g f0 f1 f2 f3 f4 f5 f6 f7) (x : Int) : IsS61 w0 (W.setCell ⟨g, 2, none⟩ (.int .u32 x)) g f0 f1 x f3 f4 f5 f6 f7 := by
  obtain ⟨A7, c7, hb, hg, hr7⟩ := h
  exact ⟨A7, c7, by simpa using blk_set hb 2 (.int .u32 x), hg, hr7⟩
theorem cellS61_3 {W : World} {g : Nat} {A7 : Option Addr} {c7 : Nat} {f0 : Int} {f1 : Bool} {f2 : Int} {f3 : Int} {f4 : Int} {f5 : Int} {f6 : Bool} {f7 : List (S24)} (h : W.heap[g]? = some (.cells #[.int .u32 f0, .bool f1, .int .u32 f2, .int .u32 f3, .int .u32 f4, .int .u32 f5, .bool f6, .slice A7 f7.length c7] 61 (0, 0))) : W.cell? ⟨g, 3, none⟩ = some (.int .u32 f3) := (blk_cell h 3).trans rfl
theorem IsS61.set_3 {w0 W : World} {g : Nat} {f0 : Int} {f1 : Bool} {f2 : Int} {f3 : Int} {f4 : Int} {f5 : Int} {f6 : Bool} {f7 : List (S24)} (h : IsS61 w0 W g f0 f1 f2 f3 f4 f5 f6 f7) (x : Int) : IsS61 w0 (W.setCell ⟨g, 3, none⟩ (.int .u32 x)) g f0 f1 f2 x f4 f5 f6 f7 := by
  obtain ⟨A7, c7, hb, hg, hr7⟩ := h
  exact ⟨A7, c7, by simpa using blk_set hb 3 (.int .u32 x), hg, hr7⟩
theorem cellS61_4 {W : World} {g : Nat} {A7 : Option Addr} {c7 : Nat} {f0 : Int} {f1 : Bool} {f2 : Int} {f3 : Int} {f4 : Int} {f5 : Int} {f6 : Bool} {f7 : List (S24)} (h : W.heap[g]? = some (.cells #[.int .u32 f0, .bool f1, .int .u32 f2, .int .u32 f3, .int .u32 f4, .int .u32 f5, .bool f6, .slice A7 f7.length c7] 61 (0, 0))) : W.cell? ⟨g, 4, none⟩ = some (.int .u32 f4) := (blk_cell h 4).trans rfl
theorem IsS61.set_4 {w0 W : World} {g : Nat} {f0 : Int} {f1 : Bool} {f2 : Int} {f3 : Int} {f4 : Int} {f5 : Int} {f6 : Bool} {f7 : List (S24)} (h : IsS61 w0 W g f0 f1 f2 f3 f4 f5 f6 f7) (x : Int) : IsS61 w0 (W.setCell ⟨g, 4, none⟩ (.int .u32 x)) g f0 f1 f2 f3 x f5 f6 f7 := by
  obtain ⟨A7, c7, hb, hg, hr7⟩ := h
  exact ⟨A7, c7, by simpa using blk_set hb 4 (.int .u32 x), hg, hr7⟩
theorem cellS61_5 {W : World} {g : Nat} {A7 : Option Addr} {c7 : Nat} {f0 : Int} {f1 : Bool} {f2 : Int} {f3 : Int} {f4 : Int} {f5 : Int} {f6 : Bool} {f7 : List (S24)} (h : W.heap[g]? = some (.cells #[.int .u32 f0, .bool f1, .int .u32 f2, .int .u32 f3, .int .u32 f4, .int .u32 f5, .bool f6, .slice A7 f7.length c7] 61 (0, 0))) : W.cell? ⟨g, 5, none⟩ = some (.int .u32 f5) := (blk_cell h 5).trans rfl
theorem IsS61.set_5 {w0 W : World} {g : Nat} {f0 : Int} {f1 : Bool} {f2 : Int} {f3 : Int} {f4 : Int} {f5 : Int} {f6 : Bool} {f7 : List (S24)} (h : IsS61 w0 W g f0 f1 f2 f3 f4 f5 f6 f7) (x : Int) : IsS61 w0 (W.setCell ⟨g, 5, none⟩ (.int .u32 x)) g f0 f1 f2 f3 f4 x f6 f7 := by
  obtain ⟨A7, c7, hb, hg, hr7⟩ := h
  exact ⟨A7, c7, by simpa using blk_set hb 5 (.int .u32 x), hg, hr7⟩
theorem cellS61_6 {W : World} {g : Nat} {A7 : Option Addr} {c7 : Nat} {f0 : Int} {f1 : Bool} {f2 : Int} {f3 : Int} {f4 : Int} {f5 : Int} {f6 : Bool} {f7 : List (S24)} (h : W.heap[g]? = some (.cells #[.int .u32 f0, .bool f1, .int .u32 f2, .int .u32 f3, .int .u32 f4, .int .u32 f5, .bool f6, .slice A7 f7.length c7] 61 (0, 0))) : W.cell? ⟨g, 6, none⟩ = some (.bool f6) := (blk_cell h 6).trans rfl
theorem IsS61.set_6 {w0 W : World} {g : Nat} {f0 : Int} {f1 : Bool} {f2 : Int} {f3 : Int} {f4 : Int} {f5 : Int} {f6 : Bool} {f7 : List (S24)} (h : IsS61 w0 W g f0 f1 f2 f3 f4 f5 f6 f7) (x : Bool) : IsS61 w0 (W.setCell ⟨g, 6, none⟩ (.bool x)) g f0 f1 f2 f3 f4 f5 x f7 := by
  obtain ⟨A7, c7, hb, hg, hr7⟩ := h
  exact ⟨A7, c7, by simpa using blk_set hb 6 (.bool x), hg, hr7⟩
theorem cellS61_7 {W : World} {g : Nat} {A7 : Option Addr} {c7 : Nat} {f0 : Int} {f1 : Bool} {f2 : Int} {f3 : Int} {f4 : Int} {f5 : Int} {f6 : Bool} {f7 : List (S24)} (h : W.heap[g]? = some (.cells #[.int .u32 f0, .bool f1, .int .u32 f2, .int .u32 f3, .int .u32 f4, .int .u32 f5, .bool f6, .slice A7 f7.length c7] 61 (0, 0))) : W.cell? ⟨g, 7, none⟩ = some (.slice A7 f7.length c7) := (blk_cell h 7).trans rfl
theorem IsS61.new (w0 W : World) (A7 : Option Addr) (c7 : Nat) (f0 : Int) (f1 : Bool) (f2 : Int) (f3 : Int) (f4 : Int) (f5 : Int) (f6 : Bool) (f7 : List (S24)) (hB : Below w0.heap.size w0 W) (hr7 : Kd.C k24 w0 A7 f7.length f7) : IsS61 w0 (W.alloc (.cells #[.int .u32 f0, .bool f1, .int .u32 f2, .int .u32 f3, .int .u32 f4, .int .u32 f5, .bool f6, .slice A7 f7.length c7] 61)) W.heap.size f0 f1 f2 f3 f4 f5 f6 f7 := ⟨A7, c7, by simpa using heap_alloc_new W _, hB.size, hr7⟩

/-! ### settings_Side_Now: function 16 -/
def settings_Side_Now.f (s0_0 : Int) (s0_1 : Bool) (s0_2 : Int) (s0_3 : Int) (s0_4 : Int) (s0_5 : Int) (s0_6 : Bool) (s0_7 : List (S24)) : Option (Int × Bool × Int × Int × Int × Int × Bool × Int × Bool × Int × Int × Int × Int × Bool) := some (s0_0, s0_1, s0_2, s0_3, s0_4, s0_5, s0_6, s0_0, s0_1, s0_2, s0_3, s0_4, s0_5, s0_6)
set_option maxHeartbeats 8000000 in
set_option maxRecDepth 100000 in
theorem settings_Side_Now.calls (g : Nat) (s0_0 : Int) (s0_1 : Bool) (s0_2 : Int) (s0_3 : Int) (s0_4 : Int) (s0_5 : Int) (s0_6 : Bool) (s0_7 : List (S24)) (r1 : Int) (r2 : Bool) (r3 : Int) (r4 : Int) (r5 : Int) (r6 : Int) (r7 : Bool) (r8 : Int) (r9 : Bool) (r10 : Int) (r11 : Int) (r12 : Int) (r13 : Int) (r14 : Bool) (w0 w : World) (hI : IsS61 w0 w g s0_0 s0_1 s0_2 s0_3 s0_4 s0_5 s0_6 s0_7) (hB : Below w0.heap.size w0 w) (h : settings_Side_Now.f s0_0 s0_1 s0_2 s0_3 s0_4 s0_5 s0_6 s0_7 = some (r1, r2, r3, r4, r5, r6, r7, r8, r9, r10, r11, r12, r13, r14)) :
    Calls Try.prog 16 #[.pointer (some ⟨g, 0, none⟩)] w fun e w' => e = .returned (.agg #[.int .u32 r1, .bool r2, .int .u32 r3, .int .u32 r4, .int .u32 r5, .int .u32 r6, .bool r7]) ∧ IsS61 w0 w' g r8 r9 r10 r11 r12 r13 r14 s0_7 ∧ Below w0.heap.size w0 w' ∧ KeepBut w w' g none := by
  have hu24 := Try.underlying24
  have HI0 := Aside0.mk hI
  have HK := Aside0.mk (KeepBut.refl w g none)
  have HL := Aside0.mk hB.size
  clear hI
  have HW0 := Aside0.mk hB.size
  have HB := Aside0.mk hB
  clear hB
  have H : (some (s0_0, s0_1, s0_2, s0_3, s0_4, s0_5, s0_6, s0_0, s0_1, s0_2, s0_3, s0_4, s0_5, s0_6)) = some (r1, r2, r3, r4, r5, r6, r7, r8, r9, r10, r11, r12, r13, r14) := h
  clear h
  simp only [Option.some.injEq, Prod.mk.injEq] at H
  obtain ⟨rfl, rfl, rfl, rfl, rfl, rfl, rfl, rfl, rfl, rfl, rfl, rfl, rfl, rfl⟩ := H
  go_enter Try.func16, Try.ntmps16
  go_wp2_with (first | ((with_reducible refine gate_dst (N := 2) rfl ?_); refine box_event ?hg (N := 2) ?hd (cs := #[.int .u32 0, .bool false, .int .u32 0, .int .u32 0, .int .u32 0, .int .u32 0, .bool false]) (t := 24) ?hr ?_; (case hd => rfl); (case hg => rfl); (case hr => first | (go_simp; done) | (go_simp; rfl)); intro gb203 hg w2 hbox hb; have n0_ := Aside0.mk (IsS61.below (by repeat (first | (with_reducible first | exact HI0.out | apply IsS61.alloc | apply IsS61.drewN | apply IsS61.drew | apply IsS61.set_0 | apply IsS61.set_1 | apply IsS61.set_2 | apply IsS61.set_3 | apply IsS61.set_4 | apply IsS61.set_5 | apply IsS61.set_6) | exact HI0.out)) hb); have n1_ := Aside0.mk (KeepBut.trans (by repeat (first | (with_reducible first | exact HK.out | apply KeepBut.set_ | apply keep_drewN | apply keep_drew | apply keep_alloc) | exact HK.out)) (KeepBut.of_below hb g none) (.inl rfl)); have n2_ := Aside0.mk (below_step (by repeat (first | (with_reducible first | exact HB.out | apply below_alloc | apply pw_below_drewN | apply below_drew1 | refine below_set ?_ (IsS61.ge HI0.out)) | exact HB.out)) hb); have n3_ := Aside0.mk (hbox); have n4_ := Aside0.mk ((by rw [hg]; exact (keep_size (w := w) (g := g) (row := none) (by repeat (first | (with_reducible first | exact HK.out | apply KeepBut.set_ | apply keep_drewN | apply keep_drew | apply keep_alloc) | exact HK.out))) : w.heap.size ≤ gb203)); have n5_ := Aside0.mk ((Nat.le_trans HW0.out (by rw [hg]; exact (keep_size (w := w) (g := g) (row := none) (by repeat (first | (with_reducible first | exact HK.out | apply KeepBut.set_ | apply keep_drewN | apply keep_drew | apply keep_alloc) | exact HK.out))) : w.heap.size ≤ gb203) : w0.heap.size ≤ gb203)); have n6_ := Aside0.mk ((by rw [hg]; exact Nat.ne_of_lt (IsS61.lt (show IsS61 w0 _ g s0_0 s0_1 s0_2 s0_3 s0_4 s0_5 s0_6 s0_7 from by repeat (first | (with_reducible first | exact HI0.out | apply IsS61.alloc | apply IsS61.drewN | apply IsS61.drew | apply IsS61.set_0 | apply IsS61.set_1 | apply IsS61.set_2 | apply IsS61.set_3 | apply IsS61.set_4 | apply IsS61.set_5 | apply IsS61.set_6) | exact HI0.out))) : g ≠ gb203)); have n7_ := Aside0.mk ((by rw [hg]; exact Nat.ne_of_gt (IsS61.lt (show IsS61 w0 _ g s0_0 s0_1 s0_2 s0_3 s0_4 s0_5 s0_6 s0_7 from by repeat (first | (with_reducible first | exact HI0.out | apply IsS61.alloc | apply IsS61.drewN | apply IsS61.drew | apply IsS61.set_0 | apply IsS61.set_1 | apply IsS61.set_2 | apply IsS61.set_3 | apply IsS61.set_4 | apply IsS61.set_5 | apply IsS61.set_6) | exact HI0.out))) : gb203 ≠ g)); clear HI0; clear HK; clear HB; have HI0 := n0_; have HK := n1_; have HB := n2_; have BK203 := n3_; have GW203 := n4_; have GE203 := n5_; have NB0_203 := n6_; have NB203_0 := n7_; clear n0_ n1_ n2_ n3_ n4_ n5_ n6_ n7_; clear hb hbox hg; obtain ⟨ASz3_7, cSz3_7, HGz3, hgz3, HSz3_7⟩ := HI0.out; have hcz3_0 := cellS61_0 HGz3; have hcz3_1 := cellS61_1 HGz3; have hcz3_2 := cellS61_2 HGz3; have hcz3_3 := cellS61_3 HGz3; have hcz3_4 := cellS61_4 HGz3; have hcz3_5 := cellS61_5 HGz3; have hcz3_6 := cellS61_6 HGz3; have hcz3_7 := cellS61_7 HGz3; have hfz3_0 := blk_frozen HGz3 0; have hfz3_1 := blk_frozen HGz3 1; have hfz3_2 := blk_frozen HGz3 2; have hfz3_3 := blk_frozen HGz3 3; have hfz3_4 := blk_frozen HGz3 4; have hfz3_5 := blk_frozen HGz3 5; have hfz3_6 := blk_frozen HGz3 6; clear HGz3 hgz3; have hnb4 := NB203_0.out; have hnc4 := NB0_203.out; have hcz5_0 : w2.cell? ⟨gb203, 0, none⟩ = some (.int .u32 0) := (blk_cell BK203.out 0).trans rfl; have hcz5_1 : w2.cell? ⟨gb203, 1, none⟩ = some (.bool false) := (blk_cell BK203.out 1).trans rfl; have hcz5_2 : w2.cell? ⟨gb203, 2, none⟩ = some (.int .u32 0) := (blk_cell BK203.out 2).trans rfl; have hcz5_3 : w2.cell? ⟨gb203, 3, none⟩ = some (.int .u32 0) := (blk_cell BK203.out 3).trans rfl; have hcz5_4 : w2.cell? ⟨gb203, 4, none⟩ = some (.int .u32 0) := (blk_cell BK203.out 4).trans rfl; have hcz5_5 : w2.cell? ⟨gb203, 5, none⟩ = some (.int .u32 0) := (blk_cell BK203.out 5).trans rfl; have hcz5_6 : w2.cell? ⟨gb203, 6, none⟩ = some (.bool false) := (blk_cell BK203.out 6).trans rfl; have hfz5_0 := blk_frozen BK203.out 0; have hfz5_1 := blk_frozen BK203.out 1; have hfz5_2 := blk_frozen BK203.out 2; have hfz5_3 := blk_frozen BK203.out 3; have hfz5_4 := blk_frozen BK203.out 4; have hfz5_5 := blk_frozen BK203.out 5; have hfz5_6 := blk_frozen BK203.out 6))
  refine bodyPost_ret (results_cell_row rfl _ _ gb203 24 #[.int .u32 s0_0, .bool s0_1, .int .u32 s0_2, .int .u32 s0_3, .int .u32 s0_4, .int .u32 s0_5, .bool s0_6] (0, 0) _ rfl (by (with_reducible repeat (first | refine blk_drewN ?_ _ | refine blk_drew ?_ | refine blk_alloc ?_ _)); refine blk_put (cs := #[.int .u32 s0_0, .bool s0_1, .int .u32 s0_2, .int .u32 s0_3, .int .u32 s0_4, .int .u32 s0_5, .bool false]) ?_ 6 _ rfl; (with_reducible repeat (first | refine blk_drewN ?_ _ | refine blk_drew ?_ | refine blk_alloc ?_ _)); refine blk_put (cs := #[.int .u32 s0_0, .bool s0_1, .int .u32 s0_2, .int .u32 s0_3, .int .u32 s0_4, .int .u32 0, .bool false]) ?_ 5 _ rfl; (with_reducible repeat (first | refine blk_drewN ?_ _ | refine blk_drew ?_ | refine blk_alloc ?_ _)); refine blk_put (cs := #[.int .u32 s0_0, .bool s0_1, .int .u32 s0_2, .int .u32 s0_3, .int .u32 0, .int .u32 0, .bool false]) ?_ 4 _ rfl; (with_reducible repeat (first | refine blk_drewN ?_ _ | refine blk_drew ?_ | refine blk_alloc ?_ _)); refine blk_put (cs := #[.int .u32 s0_0, .bool s0_1, .int .u32 s0_2, .int .u32 0, .int .u32 0, .int .u32 0, .bool false]) ?_ 3 _ rfl; (with_reducible repeat (first | refine blk_drewN ?_ _ | refine blk_drew ?_ | refine blk_alloc ?_ _)); refine blk_put (cs := #[.int .u32 s0_0, .bool s0_1, .int .u32 0, .int .u32 0, .int .u32 0, .int .u32 0, .bool false]) ?_ 2 _ rfl; (with_reducible repeat (first | refine blk_drewN ?_ _ | refine blk_drew ?_ | refine blk_alloc ?_ _)); refine blk_put (cs := #[.int .u32 s0_0, .bool false, .int .u32 0, .int .u32 0, .int .u32 0, .int .u32 0, .bool false]) ?_ 1 _ rfl; (with_reducible repeat (first | refine blk_drewN ?_ _ | refine blk_drew ?_ | refine blk_alloc ?_ _)); refine blk_put (cs := #[.int .u32 0, .bool false, .int .u32 0, .int .u32 0, .int .u32 0, .int .u32 0, .bool false]) ?_ 0 _ rfl; (with_reducible repeat (first | refine blk_drewN ?_ _ | refine blk_drew ?_ | refine blk_alloc ?_ _)); exact BK203.out) Try.underlying24 rfl (by kernel_rfl)) rfl ?_
  exact ⟨by first | rfl | (simp [errW_none, errW_some] <;> rfl) | (simp [*, errW_none, errW_some] <;> rfl), by first | ((repeat (first | (with_reducible first | exact HI0.out | apply IsS61.alloc | apply IsS61.drewN | apply IsS61.drew | apply IsS61.set_0 | apply IsS61.set_1 | apply IsS61.set_2 | apply IsS61.set_3 | apply IsS61.set_4 | apply IsS61.set_5 | apply IsS61.set_6 | refine IsS61.far ?_ NB0_203.out _) | exact HI0.out)); done) | (rw [‹((_ : Int) == _) = _›]; ((repeat (first | (with_reducible first | exact HI0.out | apply IsS61.alloc | apply IsS61.drewN | apply IsS61.drew | apply IsS61.set_0 | apply IsS61.set_1 | apply IsS61.set_2 | apply IsS61.set_3 | apply IsS61.set_4 | apply IsS61.set_5 | apply IsS61.set_6 | refine IsS61.far ?_ NB0_203.out _) | exact HI0.out)); done)) | (repeat (first | (with_reducible first | exact HI0.out | apply IsS61.alloc | apply IsS61.drewN | apply IsS61.drew | apply IsS61.set_0 | apply IsS61.set_1 | apply IsS61.set_2 | apply IsS61.set_3 | apply IsS61.set_4 | apply IsS61.set_5 | apply IsS61.set_6 | refine IsS61.far ?_ NB0_203.out _) | exact HI0.out)), by repeat (first | (with_reducible first | exact HB.out | apply below_alloc | apply pw_below_drewN | apply below_drew1 | refine below_set ?_ (IsS61.ge HI0.out) | refine below_set ?_ GE203.out) | exact HB.out), by repeat (first | (with_reducible first | exact HK.out | apply KeepBut.set_ | apply keep_drewN | apply keep_drew | apply keep_alloc | refine keep_far ?_ GW203.out _) | exact HK.out)⟩

-- NOT PRINTED: function 17 (settings_Side_Last)

-- NOT PRINTED: function 15 (settings_Side_Send)

/-! ### settings_Side_Waits: function 18 -/
def settings_Side_Waits.f (s0_0 : Int) (s0_1 : Bool) (s0_2 : Int) (s0_3 : Int) (s0_4 : Int) (s0_5 : Int) (s0_6 : Bool) (s0_7 : List (S24)) : Option (Int × Int × Bool × Int × Int × Int × Int × Bool) := some ((s0_7.length : Int), s0_0, s0_1, s0_2, s0_3, s0_4, s0_5, s0_6)
set_option maxHeartbeats 8000000 in
set_option maxRecDepth 100000 in
theorem settings_Side_Waits.calls (g : Nat) (s0_0 : Int) (s0_1 : Bool) (s0_2 : Int) (s0_3 : Int) (s0_4 : Int) (s0_5 : Int) (s0_6 : Bool) (s0_7 : List (S24)) (r1 : Int) (r2 : Int) (r3 : Bool) (r4 : Int) (r5 : Int) (r6 : Int) (r7 : Int) (r8 : Bool) (w0 w : World) (hI : IsS61 w0 w g s0_0 s0_1 s0_2 s0_3 s0_4 s0_5 s0_6 s0_7) (hB : Below w0.heap.size w0 w) (h : settings_Side_Waits.f s0_0 s0_1 s0_2 s0_3 s0_4 s0_5 s0_6 s0_7 = some (r1, r2, r3, r4, r5, r6, r7, r8)) :
    Calls Try.prog 18 #[.pointer (some ⟨g, 0, none⟩)] w fun e w' => e = .returned (.int .i64 r1) ∧ IsS61 w0 w' g r2 r3 r4 r5 r6 r7 r8 s0_7 ∧ Below w0.heap.size w0 w' ∧ KeepBut w w' g none := by
  have HI0 := Aside0.mk hI
  have HK := Aside0.mk (KeepBut.refl w g none)
  have HL := Aside0.mk hB.size
  clear hI
  have HW0 := Aside0.mk hB.size
  have HB := Aside0.mk hB
  clear hB
  have H : (some ((s0_7.length : Int), s0_0, s0_1, s0_2, s0_3, s0_4, s0_5, s0_6)) = some (r1, r2, r3, r4, r5, r6, r7, r8) := h
  clear h
  simp only [Option.some.injEq, Prod.mk.injEq] at H
  obtain ⟨rfl, rfl, rfl, rfl, rfl, rfl, rfl, rfl⟩ := H
  obtain ⟨ASz2_7, cSz2_7, HGz2, hgz2, HSz2_7⟩ := HI0.out
  have hcz2_0 := cellS61_0 HGz2
  have hcz2_1 := cellS61_1 HGz2
  have hcz2_2 := cellS61_2 HGz2
  have hcz2_3 := cellS61_3 HGz2
  have hcz2_4 := cellS61_4 HGz2
  have hcz2_5 := cellS61_5 HGz2
  have hcz2_6 := cellS61_6 HGz2
  have hcz2_7 := cellS61_7 HGz2
  have hfz2_0 := blk_frozen HGz2 0
  have hfz2_1 := blk_frozen HGz2 1
  have hfz2_2 := blk_frozen HGz2 2
  have hfz2_3 := blk_frozen HGz2 3
  have hfz2_4 := blk_frozen HGz2 4
  have hfz2_5 := blk_frozen HGz2 5
  have hfz2_6 := blk_frozen HGz2 6
  clear HGz2 hgz2
  go_enter Try.func18, Try.ntmps18
  go_wp2
  go_ret
  exact ⟨by first | rfl | (simp [errW_none, errW_some] <;> rfl) | (simp [*, errW_none, errW_some] <;> rfl), by first | ((repeat (first | (with_reducible first | exact HI0.out | apply IsS61.alloc | apply IsS61.drewN | apply IsS61.drew | apply IsS61.set_0 | apply IsS61.set_1 | apply IsS61.set_2 | apply IsS61.set_3 | apply IsS61.set_4 | apply IsS61.set_5 | apply IsS61.set_6) | exact HI0.out)); done) | (rw [‹((_ : Int) == _) = _›]; ((repeat (first | (with_reducible first | exact HI0.out | apply IsS61.alloc | apply IsS61.drewN | apply IsS61.drew | apply IsS61.set_0 | apply IsS61.set_1 | apply IsS61.set_2 | apply IsS61.set_3 | apply IsS61.set_4 | apply IsS61.set_5 | apply IsS61.set_6) | exact HI0.out)); done)) | (repeat (first | (with_reducible first | exact HI0.out | apply IsS61.alloc | apply IsS61.drewN | apply IsS61.drew | apply IsS61.set_0 | apply IsS61.set_1 | apply IsS61.set_2 | apply IsS61.set_3 | apply IsS61.set_4 | apply IsS61.set_5 | apply IsS61.set_6) | exact HI0.out)), by repeat (first | (with_reducible first | exact HB.out | apply below_alloc | apply pw_below_drewN | apply below_drew1 | refine below_set ?_ (IsS61.ge HI0.out)) | exact HB.out), by repeat (first | (with_reducible first | exact HK.out | apply KeepBut.set_ | apply keep_drewN | apply keep_drew | apply keep_alloc) | exact HK.out)⟩

-- NOT PRINTED: function 5 (louverlaw09_SettingsNil)

-- NOT PRINTED: function 19 (settings_New)

-- NOT PRINTED: function 6 (louverlaw09_SettingsPlays)

end Go.Proofs.Ytehdljgbbaibcaa.PAll
