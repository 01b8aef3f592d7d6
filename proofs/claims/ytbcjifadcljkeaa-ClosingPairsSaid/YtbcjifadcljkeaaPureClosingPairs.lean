import Derived.Test.YtbcjifadcljkeaaSaysClosingPairs
import Derived.Test.YtbcjifadcljkeaaClose
import Derived.Test.YtbcjifadcljkeaaPAllx4
import Derived.Deep.RegionHeld3
namespace Go.Proofs.Ytbcjifadcljkeaa
open Go.RowKit Go.Proofs.YtbcjifadcljkeaaW.PrintWords Go.Proofs.YtbcjifadcljkeaaW.PrintLast Go.Proofs.YtbcjifadcljkeaaW.PrintMore Go.Proofs.Ytbcjifadcljkeaa.PAll
set_option linter.unusedVariables false
/-! Two doors: whatever changes but them -/
def K2 (w W : World) (a b : Nat) : Prop := w.heap.size ≤ W.heap.size ∧ ∀ i, i < w.heap.size → i ≠ a → i ≠ b → W.heap[i]? = w.heap[i]?
theorem K2.refl (w : World) (a b : Nat) : K2 w w a b := ⟨Nat.le_refl _, fun _ _ _ _ => rfl⟩
theorem K2.trans {w W V : World} {a b : Nat} (h : K2 w W a b) (k : K2 W V a b) : K2 w V a b := ⟨Nat.le_trans h.1 k.1, fun i hi ha hb => (k.2 i (Nat.lt_of_lt_of_le hi h.1) ha hb).trans (h.2 i hi ha hb)⟩
theorem K2.ofA {w W : World} {a b : Nat} (h : KeepBut w W a none) : K2 w W a b := ⟨h.1, fun i hi ha _ => h.2 i hi ha (by simp)⟩
theorem K2.ofB {w W : World} {a b : Nat} (h : KeepBut w W b none) : K2 w W a b := ⟨h.1, fun i hi _ hb => h.2 i hi hb (by simp)⟩
theorem K2.below {w W : World} {a b : Nat} (h : Below w.heap.size w W) : K2 w W a b := ⟨h.size, fun i hi _ _ => h.block i hi⟩
theorem K2.alloc (w : World) (o : Obj) (a b : Nat) : K2 w (w.alloc o) a b := K2.below (below_alloc (Below.refl _ _) o)
theorem K2.drew (w : World) (a b : Nat) : K2 w w.drew a b := ⟨Nat.le_refl _, fun _ _ _ _ => rfl⟩
theorem K2.blk {w W : World} {a b g : Nat} {o : Obj} (h : K2 w W a b) (hb : w.heap[g]? = some o) (ha : g ≠ a) (hb' : g ≠ b) : W.heap[g]? = some o := (h.2 g (blk_lt hb) ha hb').trans hb
/-- A row that is read, whatever becomes of the two doors. -/
def Dat (W : World) (a b : Nat) (A : Option Addr) (d : List Int) : Prop := ∀ W', K2 W W' a b → (Kd.int .u8).C W' A d.length d
theorem Dat.step {W W' : World} {a b : Nat} {A : Option Addr} {d : List Int} (h : Dat W a b A d) (k : K2 W W' a b) : Dat W' a b A d := fun V hV => h V (k.trans hV)
theorem Dat.now {W : World} {a b : Nat} {A : Option Addr} {d : List Int} (h : Dat W a b A d) : (Kd.int .u8).C W A d.length d := h W (K2.refl W a b)
theorem Dat.of_R {W : World} {base a b : Nat} {A : Option Addr} {n c : Nat} {d : List Int} {x y : Array Value} (h : Kd.R (Kd.int .u8) 5 W base (fun _ => True) (.slice A n c) d) (ha : W.heap[a]? = some (.cells x 48 (0, 0))) (hb : W.heap[b]? = some (.cells y 48 (0, 0))) : Dat W a b A d := by
  have h1 := Kd.R_types h ha (by intro q hq; simp [Kd.int, Kd.scalar] at hq; omega)
  have h2 := Kd.R_types h1 hb (by intro q hq; simp [Kd.int, Kd.scalar] at hq; omega)
  intro V hV
  exact (Kd.R_reads' (Kd.R_step h2 (fun k hk hlt => hV.2 k hlt hk.1.2 hk.2))).2.2
/-- The code that the law reads of a close's bytes. -/
def cod (c : Int) : Int := if toldB c = true then c else 1005
theorem told_range {c : Int} (h : toldB c = true) : 1000 ≤ c ∧ c ≤ 4999 := by
  simp [toldB] at h
  omega
theorem or_nat (a b : Nat) (ha : a < 256) (hb : b < 256) : Go.bits .or .u32 ((a : Int) * 256) (b : Int) = (a : Int) * 256 + b := by
  have h1 : (BitVec.ofInt 32 ((a : Int) * 256)).toNat = a * 256 := by
    rw [show (a : Int) * 256 = ((a * 256 : Nat) : Int) by omega, BitVec.ofInt_natCast, BitVec.toNat_ofNat]; exact Nat.mod_eq_of_lt (by omega)
  have h2 : (BitVec.ofInt 32 (b : Int)).toNat = b := by
    rw [BitVec.ofInt_natCast, BitVec.toNat_ofNat]; exact Nat.mod_eq_of_lt (by omega)
  show IntKind.u32.wrap ((BitVec.ofInt 32 ((a : Int) * 256) ||| BitVec.ofInt 32 (b : Int)).toNat : Int) = _
  have hw : ∀ n : Int, IntKind.u32.wrap n = n % 4294967296 := fun n => by simp [IntKind.wrap, IntKind.bits, IntKind.signed]
  have h3 : a * 256 ||| b = a * 256 + b := by
    have := Nat.two_pow_add_eq_or_of_lt (i := 8) (b := b) (by omega) a
    rw [show 2 ^ 8 * a = a * 256 by omega] at this
    exact this.symm
  rw [BitVec.toNat_or, h1, h2, hw, h3]
  omega
theorem code_f (b0 : Bool) (b1 : Int) (b2 : Bool) (b3 : Int) (c : Int) : louverlaw19_ClosingPairs_1.f b0 b1 b2 b3 (dataE c) = some (cod c) := by
  unfold louverlaw19_ClosingPairs_1.f dataE cod
  by_cases h : toldB c = true
  · obtain ⟨h1, h2⟩ := told_range h
    simp only [if_pos h]
    rw [if_neg (by simp), if_pos (by simp), if_pos (by simp)]
    have hr0 : rd [c / 256 % 256, c % 256] 0 = c / 256 % 256 := rfl
    have hr1 : rd [c / 256 % 256, c % 256] 1 = c % 256 := rfl
    rw [hr0, hr1]
    have := or_nat (c / 256).toNat (c % 256).toNat (by omega) (by omega)
    rw [show (c / 256 % 256 % 4294967296 * 256) % 4294967296 = ((c / 256).toNat : Int) * 256 by omega, show c % 256 % 4294967296 = ((c % 256).toNat : Int) by omega, this]
    congr 1
    omega
  · simp only [if_neg h]
    rfl
theorem cod_cod (c : Int) : cod (cod c) = cod c := by
  unfold cod
  by_cases h : toldB c = true
  · simp [h]
  · simp [h]
theorem code_f2 (b0 : Bool) (b1 : Int) (b2 : Bool) (b3 : Int) (c : Int) : louverlaw19_ClosingPairs_1.f b0 b1 b2 b3 (dataE (cod c)) = some (cod c) := by rw [code_f, cod_cod]
theorem is_mk {w0 W : World} {g : Nat} {f0 f1 : Bool} {f2 f3 f4 : Int} (h : W.heap[g]? = some (.cells #[.bool f0, .bool f1, .int .u32 f2, .int .u8 f3, .int .u32 f4] 48 (0, 0))) (hg : w0.heap.size ≤ g) : IsS48 w0 W g f0 f1 f2 f3 f4 := ⟨h, hg⟩
/-- A close in a box. -/
def Bx (W : World) (g : Nat) (f : Bool) (n : Int) (A : Option Addr) (d : List Int) (c : Nat) : Prop := W.heap[g]? = some (.cells #[.bool f, .int .u8 n, .bool false, .int .u32 0, .slice A d.length c] 27 (0, 0))
theorem Bx.cells {W : World} {g : Nat} {f : Bool} {n : Int} {A : Option Addr} {d : List Int} {c : Nat} (h : Bx W g f n A d c) : W.cell? ⟨g, 0, none⟩ = some (.bool f) ∧ W.cell? ⟨g, 1, none⟩ = some (.int .u8 n) ∧ W.cell? ⟨g, 2, none⟩ = some (.bool false) ∧ W.cell? ⟨g, 3, none⟩ = some (.int .u32 0) ∧ W.cell? ⟨g, 4, none⟩ = some (.slice A d.length c) ∧ g < W.heap.size :=
  ⟨(blk_cell h 0).trans rfl, (blk_cell h 1).trans rfl, (blk_cell h 2).trans rfl, (blk_cell h 3).trans rfl, (blk_cell h 4).trans rfl, blk_lt h⟩
theorem last_at (W : World) (o : Obj) (k : Nat) (h : k = W.heap.size) : (W.alloc o).heap[k]? = some o := by
  rw [h]
  show (W.heap.push o)[W.heap.size]? = some o
  simp

/-- What stands when both doors are at their ends. -/
structure Both (w : World) (ga gb gp gq : Nat) (A : Option Addr) (d : List Int) (c : Nat) (A2 : Option Addr) (d2 : List Int) (c2 : Nat) (sa sb : Int) (W : World) : Prop where
  bel : Below w.heap.size w W
  a : IsS48 w W ga true true sa 1 sa
  b : IsS48 w W gb true true sb 1 sb
  p : Bx W gp true 8 A d c
  q : Bx W gq true 8 A2 d2 c2
  dp : Dat W ga gb A d
  dq : Dat W ga gb A2 d2
  ne : ga ≠ gb ∧ gp ≠ ga ∧ gp ≠ gb ∧ gq ≠ ga ∧ gq ≠ gb
section
variable {w : World} {ga gb gp gq : Nat} {A A2 : Option Addr} {d d2 : List Int} {c c2 : Nat} {sa sb : Int} {W W' : World}
theorem Both.below (h : Both w ga gb gp gq A d c A2 d2 c2 sa sb W) (hb : Below W.heap.size W W') : Both w ga gb gp gq A d c A2 d2 c2 sa sb W' :=
  ⟨below_step h.bel hb, h.a.below hb, h.b.below hb, blk_below h.p hb, blk_below h.q hb, h.dp.step (K2.below hb), h.dq.step (K2.below hb), h.ne⟩
theorem Both.endA (h : Both w ga gb gp gq A d c A2 d2 c2 sa sb W) (hI : IsS48 w W' ga true true sa 1 sa) (hB : Below w.heap.size w W') (hk : KeepBut W W' ga none) : Both w ga gb gp gq A d c A2 d2 c2 sa sb W' :=
  ⟨hB, hI, is_mk (hk.blk h.b.1 (fun e => h.ne.1 e.symm) (by simp)) h.b.2, (K2.ofA (b := gb) hk).blk h.p h.ne.2.1 h.ne.2.2.1, (K2.ofA (b := gb) hk).blk h.q h.ne.2.2.2.1 h.ne.2.2.2.2, h.dp.step (K2.ofA hk), h.dq.step (K2.ofA hk), h.ne⟩
theorem Both.endB (h : Both w ga gb gp gq A d c A2 d2 c2 sa sb W) (hI : IsS48 w W' gb true true sb 1 sb) (hB : Below w.heap.size w W') (hk : KeepBut W W' gb none) : Both w ga gb gp gq A d c A2 d2 c2 sa sb W' :=
  ⟨hB, is_mk (hk.blk h.a.1 h.ne.1 (by simp)) h.a.2, hI, (K2.ofB (a := ga) hk).blk h.p h.ne.2.1 h.ne.2.2.1, (K2.ofB (a := ga) hk).blk h.q h.ne.2.2.2.1 h.ne.2.2.2.2, h.dp.step (K2.ofB hk), h.dq.step (K2.ofB hk), h.ne⟩
theorem Both.of_S (h : Aside0 (Both w ga gb gp gq A d c A2 d2 c2 sa sb W) ∧ W.cell? ⟨gp, 0, none⟩ = some (.bool true) ∧ W.cell? ⟨gp, 1, none⟩ = some (.int .u8 8) ∧ W.cell? ⟨gp, 2, none⟩ = some (.bool false) ∧ W.cell? ⟨gp, 3, none⟩ = some (.int .u32 0) ∧ W.cell? ⟨gp, 4, none⟩ = some (.slice A d.length c) ∧ W.cell? ⟨gq, 0, none⟩ = some (.bool true) ∧ W.cell? ⟨gq, 1, none⟩ = some (.int .u8 8) ∧ W.cell? ⟨gq, 2, none⟩ = some (.bool false) ∧ W.cell? ⟨gq, 3, none⟩ = some (.int .u32 0) ∧ W.cell? ⟨gq, 4, none⟩ = some (.slice A2 d2.length c2)) : Both w ga gb gp gq A d c A2 d2 c2 sa sb W := h.1.out
theorem Both.S (h : Both w ga gb gp gq A d c A2 d2 c2 sa sb W) : Aside0 (Both w ga gb gp gq A d c A2 d2 c2 sa sb W) ∧ W.cell? ⟨gp, 0, none⟩ = some (.bool true) ∧ W.cell? ⟨gp, 1, none⟩ = some (.int .u8 8) ∧ W.cell? ⟨gp, 2, none⟩ = some (.bool false) ∧ W.cell? ⟨gp, 3, none⟩ = some (.int .u32 0) ∧ W.cell? ⟨gp, 4, none⟩ = some (.slice A d.length c) ∧ W.cell? ⟨gq, 0, none⟩ = some (.bool true) ∧ W.cell? ⟨gq, 1, none⟩ = some (.int .u8 8) ∧ W.cell? ⟨gq, 2, none⟩ = some (.bool false) ∧ W.cell? ⟨gq, 3, none⟩ = some (.int .u32 0) ∧ W.cell? ⟨gq, 4, none⟩ = some (.slice A2 d2.length c2) := by
  obtain ⟨p0, p1, p2, p3, p4, _⟩ := h.p.cells
  obtain ⟨q0, q1, q2, q3, q4, _⟩ := h.q.cells
  exact ⟨⟨h⟩, p0, p1, p2, p3, p4, q0, q1, q2, q3, q4⟩
end
set_option maxHeartbeats 8000000 in
theorem pairs_both (x0 x1 : Int) (w : World) : Calls Try.prog 3 #[.int .u32 x0, .int .u32 x1, .bool true] w fun e w' => e = .returned (.bool true) ∧ Below w.heap.size w w' := by
  go_enter Try.func3, Try.ntmps3
  go_wp2_with fail
  refine (closing_New.calls false false 0 0 0 w w (Below.refl _ _) rfl).mono ?_
  rintro e w1 ⟨ga, rfl, hIa, hB1, _⟩
  have hga : ga < w1.heap.size := hIa.lt
  have HIA := Aside0.mk hIa
  have HB1 := Aside0.mk hB1
  clear hIa hB1
  go_wp2_with fail
  refine (closing_New.calls false false 0 0 0 w1 w1 (Below.refl _ _) rfl).mono ?_
  rintro e w2 ⟨gb, rfl, hIb, hB2, hb2⟩
  have hgab : ga < gb := Nat.lt_of_lt_of_le hga hIb.2
  have hgb : gb < w2.heap.size := hIb.lt
  have HA2 := Aside0.mk (HIA.out.below hb2)
  have HB2 := Aside0.mk (below_step HB1.out hb2)
  have HI2 := Aside0.mk (is_mk (w0 := w) hIb.1 (Nat.le_trans HB1.out.size hIb.2))
  clear hIb hB2 hb2 HIA HB1
  go_wp2_with fail
  refine (closing_Door_Close.calls 1 ga false false 0 0 0 x0 (⟨#[]⟩ : ByteArray) true 8 false 0 (dataE x0) true true false 0 0 0 w w2 HA2.out HB2.out (close_first (bears_empty 0 x0))).mono ?_
  rintro e w3 ⟨v, rfl, ho, hA3, hB3, hk3⟩
  obtain ⟨A, c, rfl⟩ := Kd.R_slice ho
  have hI3 : w3.heap[gb]? = _ := hk3.blk HI2.out.1 (by omega) (by simp)
  have hle3 := hk3.1
  have HD := Aside0.mk (Dat.of_R ho hA3.1 hI3)
  have HC := Aside0.mk (Kd.R_reads' ho).2.1
  have HA := Aside0.mk hA3
  have HI := Aside0.mk (is_mk (w0 := w) hI3 HI2.out.2)
  have HB := Aside0.mk hB3
  have hgb3 : gb < w3.heap.size := by omega
  clear ho hA3 hI3 hB3 hk3 HA2 HI2 HB2
  go_wp2_with fail
  refine (closing_Door_Close.calls 1 gb false false 0 0 0 x1 (⟨#[]⟩ : ByteArray) true 8 false 0 (dataE x1) true true false 0 0 0 w _ (HI.out.alloc _) (below_alloc HB.out _) (close_first (bears_empty 0 x1))).mono ?_
  rintro e w4 ⟨v, rfl, ho, hI4, hB4, hk4⟩
  obtain ⟨A2, c2, rfl⟩ := Kd.R_slice ho
  have hk2 := K2.ofB (a := ga) hk4
  have hK := (K2.alloc w3 _ ga gb).trans hk2
  have hA4 : w4.heap[ga]? = _ := hk4.blk (HA.out.alloc _).1 (by omega) (by simp)
  have HD2 := Aside0.mk (Dat.of_R ho hA4 hI4.1)
  have HC2 := Aside0.mk (Kd.R_reads' ho).2.1
  have HP : Aside0 (Bx w4 w3.heap.size true 8 A (dataE x0) c) := ⟨hk2.blk (last_at w3 _ _ rfl) (by omega) (by omega)⟩
  replace HD := Aside0.mk (HD.out.step hK)
  replace HA := Aside0.mk (is_mk (w0 := w) hA4 HA.out.2)
  replace HI := Aside0.mk hI4
  replace HB := Aside0.mk hB4
  have hs4 := hK.1
  clear hk2 hK hA4 hI4 hB4 hk4 ho
  obtain ⟨pc0, pc1, pc2, pc3, pc4, pl⟩ := HP.out.cells
  go_wp2_with fail
  clear pc0 pc1 pc2 pc3 pc4 pl
  refine (louverlaw19_ClosingPairs_1.calls true 8 false 0 A c (dataE x0) (cod x0) _ (HD.out _ (K2.alloc _ _ _ _)) HC.out (code_f _ _ _ _ _)).mono ?_
  rintro e w5 ⟨rfl, hb⟩
  have hK := (K2.alloc w4 _ ga gb).trans (K2.below hb)
  have HQ : Aside0 (Bx w5 w4.heap.size true 8 A2 (dataE x1) c2) := ⟨blk_below (last_at w4 _ _ rfl) hb⟩
  replace HD := Aside0.mk (HD.out.step hK)
  replace HD2 := Aside0.mk (HD2.out.step hK)
  replace HP : Aside0 (Bx _ _ _ _ _ _ _) := ⟨hK.blk HP.out (by omega) (by omega)⟩
  replace HA := Aside0.mk ((HA.out.alloc _).below hb)
  replace HI := Aside0.mk ((HI.out.alloc _).below hb)
  replace HB := Aside0.mk (below_step (below_alloc HB.out _) hb)
  have hsw5 := hK.1
  clear hK hb
  have hql : w4.heap.size < w5.heap.size := blk_lt HQ.out
  go_wp2_with fail
  refine (closing_Door_Got.calls 1 gb true false 0 0 0 (cod x0) false 0 false 0 [] false true true (cod x0) 1 (cod x0) w _ HI.out HB.out (got_again 1 (cod x0))).mono ?_
  rintro e w6 ⟨v, rfl, ho, hI, hB, hk⟩
  obtain ⟨A6, c6, rfl⟩ := Kd.R_slice ho
  have hk2 := K2.ofB (a := ga) hk
  have hK := hk2
  have ho2 : w6.heap[ga]? = _ := hk.blk HA.out.1 (by omega) (by simp)
  replace HD := Aside0.mk (HD.out.step hK)
  replace HD2 := Aside0.mk (HD2.out.step hK)
  replace HP : Aside0 (Bx _ _ _ _ _ _ _) := ⟨hK.blk HP.out (by omega) (by omega)⟩
  replace HQ : Aside0 (Bx _ _ _ _ _ _ _) := ⟨hK.blk HQ.out (by omega) (by omega)⟩
  replace HA := Aside0.mk (is_mk (w0 := w) ho2 HA.out.2)
  replace HI := Aside0.mk hI
  replace HB := Aside0.mk hB
  have hs6 := hK.1
  clear hk2 hK ho2 hI hB hk ho
  obtain ⟨qc0, qc1, qc2, qc3, qc4, ql⟩ := HQ.out.cells
  go_wp2_with fail
  clear qc0 qc1 qc2 qc3 qc4 ql
  refine (louverlaw19_ClosingPairs_1.calls true 8 false 0 A2 c2 (dataE x1) (cod x1) _ (HD2.out _ (K2.alloc _ _ _ _)) HC2.out (code_f _ _ _ _ _)).mono ?_
  rintro e w7 ⟨rfl, hb⟩
  have hK := (K2.alloc w6 _ ga gb).trans (K2.below hb)
  replace HD := Aside0.mk (HD.out.step hK)
  replace HD2 := Aside0.mk (HD2.out.step hK)
  replace HP : Aside0 (Bx _ _ _ _ _ _ _) := ⟨hK.blk HP.out (by omega) (by omega)⟩
  replace HQ : Aside0 (Bx _ _ _ _ _ _ _) := ⟨hK.blk HQ.out (by omega) (by omega)⟩
  replace HA := Aside0.mk ((HA.out.alloc _).below hb)
  replace HI := Aside0.mk ((HI.out.alloc _).below hb)
  replace HB := Aside0.mk (below_step (below_alloc HB.out _) hb)
  have hsw7 := hK.1
  clear hK hb
  go_wp2_with fail
  refine (closing_Door_Got.calls 1 ga true false 0 0 0 (cod x1) false 0 false 0 [] false true true (cod x1) 1 (cod x1) w _ HA.out HB.out (got_again 1 (cod x1))).mono ?_
  rintro e w8 ⟨v, rfl, ho, hI, hB, hk⟩
  obtain ⟨A8, c8, rfl⟩ := Kd.R_slice ho
  have hk2 := K2.ofA (b := gb) hk
  have hK := hk2
  have ho2 : w8.heap[gb]? = _ := hk.blk HI.out.1 (by omega) (by simp)
  replace HD := Aside0.mk (HD.out.step hK)
  replace HD2 := Aside0.mk (HD2.out.step hK)
  replace HP : Aside0 (Bx _ _ _ _ _ _ _) := ⟨hK.blk HP.out (by omega) (by omega)⟩
  replace HQ : Aside0 (Bx _ _ _ _ _ _ _) := ⟨hK.blk HQ.out (by omega) (by omega)⟩
  replace HI := Aside0.mk (is_mk (w0 := w) ho2 HI.out.2)
  replace HA := Aside0.mk hI
  replace HB := Aside0.mk hB
  have hs8 := hK.1
  clear hk2 hK ho2 hI hB hk ho
  go_wp2_with fail
  have hBo : Both w ga gb w3.heap.size w4.heap.size A (dataE x0) c A2 (dataE x1) c2 (cod x1) (cod x0) w8 := ⟨HB.out, HA.out, HI.out, HP.out, HQ.out, HD.out, HD2.out, by omega, by omega, by omega, by omega, by omega⟩
  clear HD HD2 HP HQ HI HA HB
  go_region_held3 (fun w' => Aside0 (Both w ga gb w3.heap.size w4.heap.size A (dataE x0) c A2 (dataE x1) c2 (cod x1) (cod x0) w') ∧ w'.cell? ⟨w3.heap.size, 0, none⟩ = some (.bool true) ∧ w'.cell? ⟨w3.heap.size, 1, none⟩ = some (.int .u8 8) ∧ w'.cell? ⟨w3.heap.size, 2, none⟩ = some (.bool false) ∧ w'.cell? ⟨w3.heap.size, 3, none⟩ = some (.int .u32 0) ∧ w'.cell? ⟨w3.heap.size, 4, none⟩ = some (.slice A (dataE x0).length c) ∧ w'.cell? ⟨w4.heap.size, 0, none⟩ = some (.bool true) ∧ w'.cell? ⟨w4.heap.size, 1, none⟩ = some (.int .u8 8) ∧ w'.cell? ⟨w4.heap.size, 2, none⟩ = some (.bool false) ∧ w'.cell? ⟨w4.heap.size, 3, none⟩ = some (.int .u32 0) ∧ w'.cell? ⟨w4.heap.size, 4, none⟩ = some (.slice A2 (dataE x1).length c2)) (exact Both.S (by first | assumption | exact Both.below (by assumption) (below_drew (below_alloc (Below.refl _ _) _)))) (first | (go_at_call 11; with_reducible refine (louverlaw19_fixed.yes _).mono ?_; rintro e w' ⟨rfl, hb⟩; have hN := Both.below (Both.of_S (by assumption)) hb; clear hb) | (go_at_call 12; with_reducible refine (closing_Door_End.calls ga true true (cod x1) 1 (cod x1) 1 (cod x1) true true (cod x1) 1 (cod x1) w _ (Both.of_S (by assumption)).a (Both.of_S (by assumption)).bel rfl).mono ?_; rintro e w' ⟨rfl, hI, hB, hk⟩; have hN := Both.endA (Both.of_S (by assumption)) hI hB hk; clear hI hB hk) | (go_at_call 12; with_reducible refine (closing_Door_End.calls gb true true (cod x0) 1 (cod x0) 1 (cod x0) true true (cod x0) 1 (cod x0) w _ (Both.of_S (by assumption)).b (Both.of_S (by assumption)).bel rfl).mono ?_; rintro e w' ⟨rfl, hI, hB, hk⟩; have hN := Both.endB (Both.of_S (by assumption)) hI hB hk; clear hI hB hk) | (go_at_call 9; with_reducible refine (louverlaw19_ClosingPairs_1.calls true 8 false 0 A c (dataE x0) (cod x0) _ (Both.of_S (by assumption)).dp.now HC.out (code_f _ _ _ _ _)).mono ?_; rintro e w' ⟨rfl, hb⟩; have hN := Both.below (Both.of_S (by assumption)) hb; clear hb) | (go_at_call 9; with_reducible refine (louverlaw19_ClosingPairs_1.calls true 8 false 0 A2 c2 (dataE x1) (cod x1) _ (Both.of_S (by assumption)).dq.now HC2.out (code_f _ _ _ _ _)).mono ?_; rintro e w' ⟨rfl, hb⟩; have hN := Both.below (Both.of_S (by assumption)) hb; clear hb))
  all_goals go_wp2
  all_goals go_ret
  all_goals exact ⟨rfl, (Both.of_S (by assumption)).bel⟩
set_option maxHeartbeats 8000000 in
theorem pairs_one (x0 x1 : Int) (w : World) : Calls Try.prog 3 #[.int .u32 x0, .int .u32 x1, .bool false] w fun e w' => e = .returned (.bool true) ∧ Below w.heap.size w w' := by
  go_enter Try.func3, Try.ntmps3
  go_wp2_with fail
  refine (closing_New.calls false false 0 0 0 w w (Below.refl _ _) rfl).mono ?_
  rintro e w1 ⟨ga, rfl, hIa, hB1, _⟩
  have hga : ga < w1.heap.size := hIa.lt
  have HIA := Aside0.mk hIa
  have HB1 := Aside0.mk hB1
  clear hIa hB1
  go_wp2_with fail
  refine (closing_New.calls false false 0 0 0 w1 w1 (Below.refl _ _) rfl).mono ?_
  rintro e w2 ⟨gb, rfl, hIb, hB2, hb2⟩
  have hgab : ga < gb := Nat.lt_of_lt_of_le hga hIb.2
  have hgb : gb < w2.heap.size := hIb.lt
  have HA2 := Aside0.mk (HIA.out.below hb2)
  have HB2 := Aside0.mk (below_step HB1.out hb2)
  have HI2 := Aside0.mk (is_mk (w0 := w) hIb.1 (Nat.le_trans HB1.out.size hIb.2))
  clear hIb hB2 hb2 HIA HB1
  go_wp2_with fail
  refine (closing_Door_Close.calls 1 ga false false 0 0 0 x0 (⟨#[]⟩ : ByteArray) true 8 false 0 (dataE x0) true true false 0 0 0 w w2 HA2.out HB2.out (close_first (bears_empty 0 x0))).mono ?_
  rintro e w3 ⟨v, rfl, ho, hA3, hB3, hk3⟩
  obtain ⟨A, c, rfl⟩ := Kd.R_slice ho
  have hI3 : w3.heap[gb]? = _ := hk3.blk HI2.out.1 (by omega) (by simp)
  have hle3 := hk3.1
  have HD := Aside0.mk (Dat.of_R ho hA3.1 hI3)
  have HC := Aside0.mk (Kd.R_reads' ho).2.1
  have HA := Aside0.mk hA3
  have HI := Aside0.mk (is_mk (w0 := w) hI3 HI2.out.2)
  have HB := Aside0.mk hB3
  have hgb3 : gb < w3.heap.size := by omega
  clear ho hA3 hI3 hB3 hk3 HA2 HI2 HB2
  go_wp2_with fail
  refine (louverlaw19_ClosingPairs_1.calls true 8 false 0 A c (dataE x0) (cod x0) _ (HD.out _ (K2.alloc _ _ _ _)) HC.out (code_f _ _ _ _ _)).mono ?_
  rintro e w4 ⟨rfl, hb⟩
  have hK := (K2.alloc w3 _ ga gb).trans (K2.below hb)
  have HP : Aside0 (Bx w4 w3.heap.size true 8 A (dataE x0) c) := ⟨blk_below (last_at w3 _ _ rfl) hb⟩
  replace HD := Aside0.mk (HD.out.step hK)
  replace HA := Aside0.mk ((HA.out.alloc _).below hb)
  replace HI := Aside0.mk ((HI.out.alloc _).below hb)
  replace HB := Aside0.mk (below_step (below_alloc HB.out _) hb)
  have hsw4 := hK.1
  clear hK hb
  have hpl : w3.heap.size < w4.heap.size := blk_lt HP.out
  go_wp2_with fail
  refine (closing_Door_Got.calls 1 gb false false 0 0 0 (cod x0) true 8 false 0 (dataE (cod x0)) true true true (cod x0) 1 (cod x0) w _ HI.out HB.out (got_first (bears_empty 0 (cod x0)))).mono ?_
  rintro e w5 ⟨v, rfl, ho, hI, hB, hk⟩
  obtain ⟨A5, c5, rfl⟩ := Kd.R_slice ho
  have hk2 := K2.ofB (a := ga) hk
  have hK := hk2
  have ho2 : w5.heap[ga]? = _ := hk.blk HA.out.1 (by omega) (by simp)
  replace HD := Aside0.mk (HD.out.step hK)
  replace HP : Aside0 (Bx _ _ _ _ _ _ _) := ⟨hK.blk HP.out (by omega) (by omega)⟩
  have HD2 := Aside0.mk (Dat.of_R ho ho2 hI.1)
  have HC2 := Aside0.mk (Kd.R_reads' ho).2.1
  replace HA := Aside0.mk (is_mk (w0 := w) ho2 HA.out.2)
  replace HI := Aside0.mk hI
  replace HB := Aside0.mk hB
  have hs5 := hK.1
  clear hk2 hK ho2 hI hB hk ho
  go_wp2_with fail
  refine (louverlaw19_ClosingPairs_1.calls true 8 false 0 A5 c5 (dataE (cod x0)) (cod x0) _ (HD2.out _ (K2.alloc _ _ _ _)) HC2.out (code_f2 _ _ _ _ _)).mono ?_
  rintro e w6 ⟨rfl, hb⟩
  have hK := (K2.alloc w5 _ ga gb).trans (K2.below hb)
  have HQ : Aside0 (Bx w6 w5.heap.size true 8 A5 (dataE (cod x0)) c5) := ⟨blk_below (last_at w5 _ _ rfl) hb⟩
  replace HD := Aside0.mk (HD.out.step hK)
  replace HD2 := Aside0.mk (HD2.out.step hK)
  replace HP : Aside0 (Bx _ _ _ _ _ _ _) := ⟨hK.blk HP.out (by omega) (by omega)⟩
  replace HA := Aside0.mk ((HA.out.alloc _).below hb)
  replace HI := Aside0.mk ((HI.out.alloc _).below hb)
  replace HB := Aside0.mk (below_step (below_alloc HB.out _) hb)
  have hsw6 := hK.1
  clear hK hb
  have hql : w5.heap.size < w6.heap.size := blk_lt HQ.out
  go_wp2_with fail
  refine (closing_Door_Got.calls 1 ga true false 0 0 0 (cod x0) false 0 false 0 [] false true true (cod x0) 1 (cod x0) w _ HA.out HB.out (got_again 1 (cod x0))).mono ?_
  rintro e w7 ⟨v, rfl, ho, hI, hB, hk⟩
  obtain ⟨A7, c7, rfl⟩ := Kd.R_slice ho
  have hk2 := K2.ofA (b := gb) hk
  have hK := hk2
  have ho2 : w7.heap[gb]? = _ := hk.blk HI.out.1 (by omega) (by simp)
  replace HD := Aside0.mk (HD.out.step hK)
  replace HD2 := Aside0.mk (HD2.out.step hK)
  replace HP : Aside0 (Bx _ _ _ _ _ _ _) := ⟨hK.blk HP.out (by omega) (by omega)⟩
  replace HQ : Aside0 (Bx _ _ _ _ _ _ _) := ⟨hK.blk HQ.out (by omega) (by omega)⟩
  replace HI := Aside0.mk (is_mk (w0 := w) ho2 HI.out.2)
  replace HA := Aside0.mk hI
  replace HB := Aside0.mk hB
  have hs7 := hK.1
  clear hk2 hK ho2 hI hB hk ho
  go_wp2_with fail
  have hBo : Both w ga gb w3.heap.size w5.heap.size A (dataE x0) c A5 (dataE (cod x0)) c5 (cod x0) (cod x0) w7 := ⟨HB.out, HA.out, HI.out, HP.out, HQ.out, HD.out, HD2.out, by omega, by omega, by omega, by omega, by omega⟩
  clear HD HD2 HP HQ HI HA HB
  go_region_held3 (fun w' => Aside0 (Both w ga gb w3.heap.size w5.heap.size A (dataE x0) c A5 (dataE (cod x0)) c5 (cod x0) (cod x0) w') ∧ w'.cell? ⟨w3.heap.size, 0, none⟩ = some (.bool true) ∧ w'.cell? ⟨w3.heap.size, 1, none⟩ = some (.int .u8 8) ∧ w'.cell? ⟨w3.heap.size, 2, none⟩ = some (.bool false) ∧ w'.cell? ⟨w3.heap.size, 3, none⟩ = some (.int .u32 0) ∧ w'.cell? ⟨w3.heap.size, 4, none⟩ = some (.slice A (dataE x0).length c) ∧ w'.cell? ⟨w5.heap.size, 0, none⟩ = some (.bool true) ∧ w'.cell? ⟨w5.heap.size, 1, none⟩ = some (.int .u8 8) ∧ w'.cell? ⟨w5.heap.size, 2, none⟩ = some (.bool false) ∧ w'.cell? ⟨w5.heap.size, 3, none⟩ = some (.int .u32 0) ∧ w'.cell? ⟨w5.heap.size, 4, none⟩ = some (.slice A5 (dataE (cod x0)).length c5)) (exact Both.S (by first | assumption | exact Both.below (by assumption) (below_drew (below_alloc (Below.refl _ _) _)))) (first | (go_at_call 11; with_reducible refine (louverlaw19_fixed.yes _).mono ?_; rintro e w' ⟨rfl, hb⟩; have hN := Both.below (Both.of_S (by assumption)) hb; clear hb) | (go_at_call 12; with_reducible refine (closing_Door_End.calls ga true true (cod x0) 1 (cod x0) 1 (cod x0) true true (cod x0) 1 (cod x0) w _ (Both.of_S (by assumption)).a (Both.of_S (by assumption)).bel rfl).mono ?_; rintro e w' ⟨rfl, hI, hB, hk⟩; have hN := Both.endA (Both.of_S (by assumption)) hI hB hk; clear hI hB hk) | (go_at_call 12; with_reducible refine (closing_Door_End.calls gb true true (cod x0) 1 (cod x0) 1 (cod x0) true true (cod x0) 1 (cod x0) w _ (Both.of_S (by assumption)).b (Both.of_S (by assumption)).bel rfl).mono ?_; rintro e w' ⟨rfl, hI, hB, hk⟩; have hN := Both.endB (Both.of_S (by assumption)) hI hB hk; clear hI hB hk) | (go_at_call 9; with_reducible refine (louverlaw19_ClosingPairs_1.calls true 8 false 0 A c (dataE x0) (cod x0) _ (Both.of_S (by assumption)).dp.now HC.out (code_f _ _ _ _ _)).mono ?_; rintro e w' ⟨rfl, hb⟩; have hN := Both.below (Both.of_S (by assumption)) hb; clear hb) | (go_at_call 9; with_reducible refine (louverlaw19_ClosingPairs_1.calls true 8 false 0 A5 c5 (dataE (cod x0)) (cod x0) _ (Both.of_S (by assumption)).dq.now HC2.out (code_f2 _ _ _ _ _)).mono ?_; rintro e w' ⟨rfl, hb⟩; have hN := Both.below (Both.of_S (by assumption)) hb; clear hb))
  all_goals go_wp2
  all_goals go_ret
  all_goals exact ⟨rfl, (Both.of_S (by assumption)).bel⟩
theorem Pure.ClosingPairs : Says.ClosingPairs := by
  intro x0 x1 x2 w o0 o1
  cases x2 with
  | true => exact pairs_both x0 x1 w
  | false => exact pairs_one x0 x1 w
end Go.Proofs.Ytbcjifadcljkeaa
