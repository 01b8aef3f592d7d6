import Derived.Test.YtbcjifadcljkeaaSaysClosingPlays
import Derived.Test.YtbcjifadcljkeaaPlays1
import Derived.Test.YtbcjifadcljkeaaPAllx4
import Derived.Test.YtbcjifadcljkeaaPAllx8
import Derived.Deep.RegionHeld3
namespace Go.Proofs.Ytbcjifadcljkeaa
open Go.RowKit Go.Proofs.YtbcjifadcljkeaaW.PrintWords Go.Proofs.YtbcjifadcljkeaaW.PrintLast Go.Proofs.YtbcjifadcljkeaaW.PrintMore Go.Proofs.Ytbcjifadcljkeaa.PAll Go.Proofs.Ytbcjifadcljkeaa.U
set_option linter.unusedVariables false
theorem is_mk {w0 W : World} {g : Nat} {f0 f1 : Bool} {f2 f3 f4 : Int} (h : W.heap[g]? = some (.cells #[.bool f0, .bool f1, .int .u32 f2, .int .u8 f3, .int .u32 f4] 48 (0, 0))) (hg : w0.heap.size ≤ g) : IsS48 w0 W g f0 f1 f2 f3 f4 := ⟨h, hg⟩
theorem last_at (W : World) (o : Obj) (k : Nat) (h : k = W.heap.size) : (W.alloc o).heap[k]? = some o := by
  rw [h]
  show (W.heap.push o)[W.heap.size]? = some o
  simp
/-- A close, or nothing, in a box. -/
def Bx (W : World) (g : Nat) (f : Bool) (n : Int) (A : Option Addr) (d : List Int) (c : Nat) : Prop := W.heap[g]? = some (.cells #[.bool f, .int .u8 n, .bool false, .int .u32 0, .slice A d.length c] 27 (0, 0))
/-- What happens, in a box. -/
def Ox (W : World) (g : Nat) (o : S39) : Prop := W.heap[g]? = some (.cells #[.int .i64 o.f0, .int .u32 o.f1, .string o.f2] 39 (0, 0))
/-- What stands in a round: the door at g, what happens at q, what is sent at p; the sent bytes are read, whatever becomes of the door. -/
structure Rd (w : World) (g q p : Nat) (s0 s1 : Bool) (c e ec : Int) (o : S39) (f : Bool) (n : Int) (A : Option Addr) (d : List Int) (cp : Nat) (W : World) : Prop where
  bel : Below w.heap.size w W
  door : IsS48 w W g s0 s1 c e ec
  op : Ox W q o
  box : Bx W p f n A d cp
  data : ∀ W', KeepBut W W' g none → (Kd.int .u8).C W' A d.length d
  ne : q ≠ g ∧ p ≠ g
section
variable {w : World} {g q p : Nat} {s0 s1 : Bool} {c e ec : Int} {o : S39} {f : Bool} {n : Int} {A : Option Addr} {d : List Int} {cp : Nat} {W W' : World}
theorem Rd.keep (h : Rd w g q p s0 s1 c e ec o f n A d cp W) (hI : IsS48 w W' g s0 s1 c e ec) (hB : Below w.heap.size w W') (hk : KeepBut W W' g none) : Rd w g q p s0 s1 c e ec o f n A d cp W' :=
  ⟨hB, hI, hk.blk h.op h.ne.1 (by simp), hk.blk h.box h.ne.2 (by simp), fun V hV => h.data V (hk.trans hV (.inl rfl)), h.ne⟩
theorem Rd.below (h : Rd w g q p s0 s1 c e ec o f n A d cp W) (hb : Below W.heap.size W W') : Rd w g q p s0 s1 c e ec o f n A d cp W' :=
  h.keep (h.door.below hb) (below_step h.bel hb) (KeepBut.of_below hb g none)
theorem Rd.str (h : Rd w g q p s0 s1 c e ec o f n A d cp W) : (convert 25 9 (.slice A d.length cp)).run Try.prog W = .ok (.string (strOfNums d)) W :=
  Kd.C_string (P := Try.prog) Try.underlying25 Try.underlying5 Try.underlying9 (h.data W (KeepBut.refl W g none))
def Cells (q p : Nat) (o : S39) (f : Bool) (n : Int) (A : Option Addr) (d : List Int) (cp : Nat) (W : World) : Prop := W.cell? ⟨q, 1, none⟩ = some (.int .u32 o.f1) ∧ W.cell? ⟨p, 0, none⟩ = some (.bool f) ∧ W.cell? ⟨p, 1, none⟩ = some (.int .u8 n) ∧ W.cell? ⟨p, 2, none⟩ = some (.bool false) ∧ W.cell? ⟨p, 4, none⟩ = some (.slice A d.length cp)
theorem Rd.cells (h : Rd w g q p s0 s1 c e ec o f n A d cp W) : Cells q p o f n A d cp W :=
  ⟨(blk_cell h.op 1).trans rfl, (blk_cell h.box 0).trans rfl, (blk_cell h.box 1).trans rfl, (blk_cell h.box 2).trans rfl, (blk_cell h.box 4).trans rfl⟩
end
/-- A box of five places written anew. -/
theorem put5 {W : World} {p : Nat} {cs : Array Value} (h : W.heap[p]? = some (.cells cs 27 (0, 0))) (hc : cs.size = 5) (v0 v1 v2 v3 v4 : Value) :
    let V := (((((W.setCell ⟨p, 0, none⟩ v0).setCell ⟨p, 1, none⟩ v1).setCell ⟨p, 2, none⟩ v2).setCell ⟨p, 3, none⟩ v3).setCell ⟨p, 4, none⟩ v4)
    V.heap[p]? = some (.cells #[v0, v1, v2, v3, v4] 27 (0, 0)) ∧ (∀ k, k ≠ p → V.heap[k]? = W.heap[k]?) ∧ V.heap.size = W.heap.size ∧ (∀ b, b ≤ p → ∀ w, Below b w W → Below b w V) := by
  obtain ⟨l⟩ := cs
  match l, hc with
  | [a0, a1, a2, a3, a4], _ =>
    refine ⟨?_, ?_, ?_, ?_⟩
    · exact blk_put (blk_put (blk_put (blk_put (blk_put h 0 v0 rfl) 1 v1 rfl) 2 v2 rfl) 3 v3 rfl) 4 v4 rfl
    · intro k hk
      rw [Below.heap_setCell _ _ _ k hk, Below.heap_setCell _ _ _ k hk, Below.heap_setCell _ _ _ k hk, Below.heap_setCell _ _ _ k hk, Below.heap_setCell _ _ _ k hk]
    · simp
    · intro b hb w hw
      exact Below.setCell (Below.setCell (Below.setCell (Below.setCell (Below.setCell hw hb _) hb _) hb _) hb _) hb _
/-- Number i is taken first; what it leaves stands written out. -/
theorem takeN {P : Program} {md : Region.Mode} {ops : Array Oper} {Q : Exit → Act → World → Prop} {S : World → Prop} {i : Nat} {N : Option Tmp} {oi : Oper} {v : Value} {fuel : Nat} {listed : Array Bool} {a a' : Act} {w : World} (hi : ops[i]? = some oi) (hN : oi.dst = N)
    (hs : Region.noSelect ops = true) (hf : Region.free md ops listed i = true) (hr : (Region.ready md ops listed).contains i = true)
    (hQ : ∀ c a w, Q (.panic c) (a.put oi.dst v) w → Q (.panic c) a w) (hy : YieldsIf P ops S oi v a) (ha : a.put N v = a') (hS : S w)
    (h : wpAnyH P md ops Q S fuel (listed.setIfInBounds i true) a' w) : wpAnyH P md ops Q S (fuel + 1) listed a w := by
  subst hN; subst ha
  exact wpAnyH_take hi hs hf hr hQ hy hS h
/-- .. and the document's end in a box of its own. -/
structure Re (w : World) (g q p : Nat) (s0 s1 : Bool) (c e ec : Int) (o : S39) (f : Bool) (n : Int) (A : Option Addr) (d : List Int) (cp : Nat) (b : Nat) (W : World) : Prop where
  rd : Rd w g q p s0 s1 c e ec o f n A d cp W
  box : W.heap[b]? = some (.cells #[.int .u8 e, .int .u32 ec] 35 (0, 0))
  ne : b ≠ g
theorem Re.keep {w : World} {g q p : Nat} {s0 s1 : Bool} {c e ec : Int} {o : S39} {f : Bool} {n : Int} {A : Option Addr} {d : List Int} {cp : Nat} {b : Nat} {W W' : World} (h : Re w g q p s0 s1 c e ec o f n A d cp b W) (hI : IsS48 w W' g s0 s1 c e ec) (hB : Below w.heap.size w W') (hk : KeepBut W W' g none) : Re w g q p s0 s1 c e ec o f n A d cp b W' :=
  ⟨h.rd.keep hI hB hk, hk.blk h.box h.ne (by simp), h.ne⟩
theorem reS {w : World} {g q p : Nat} {s0 s1 : Bool} {c e ec : Int} {o : S39} {f : Bool} {n : Int} {A : Option Addr} {d : List Int} {cp : Nat} {b : Nat} {W : World} (h : Re w g q p s0 s1 c e ec o f n A d cp b W) : Aside0 (Re w g q p s0 s1 c e ec o f n A d cp b W) ∧ W.cell? ⟨b, 0, none⟩ = some (.int .u8 e) ∧ W.cell? ⟨b, 1, none⟩ = some (.int .u32 ec) := ⟨⟨h⟩, (blk_cell h.box 0).trans rfl, (blk_cell h.box 1).trans rfl⟩
theorem reO {w : World} {g q p : Nat} {s0 s1 : Bool} {c e ec : Int} {o : S39} {f : Bool} {n : Int} {A : Option Addr} {d : List Int} {cp : Nat} {b : Nat} {W : World} {P : Prop} (h : Aside0 (Re w g q p s0 s1 c e ec o f n A d cp b W) ∧ P) : Re w g q p s0 s1 c e ec o f n A d cp b W := h.1.out
/-- Behind what happened: a close was sent, or nothing. -/
def After (l : List S39) (w : World) (g q : Nat) (o : S39) (j : Nat) (v8 v9 : Value) (wc : World) : Prop := ∃ (t0 t1 : Bool) (c e ec : Int) (s : ByteArray) (A : Option Addr) (cp : Nat), DoorAt l (j + 1) t0 t1 c e ec ∧ s.size ≤ 3000 ∧ v9 = .string s ∧
  ((v8 = .bool true ∧ j = 0 ∧ sendsP l = 0 ∧ Rd w g q (q + 1) t0 t1 c e ec o true 8 A (dataC o.f1 s) cp wc) ∨ (v8 = .bool false ∧ (j : Int) ≠ sendsP l ∧ Rd w g q (q + 1) t0 t1 c e ec o false 0 A [] cp wc))
/-- What a round begins with. -/
def PlaysR (l : List S39) (w : World) (g : Nat) (i : Value) (wr : World) : Prop := ∃ (j : Nat) (s0 s1 : Bool) (c e ec : Int), i = .int .i64 (j : Int) ∧ j ≤ l.length ∧ DoorAt l j s0 s1 c e ec ∧ IsS48 w wr g s0 s1 c e ec ∧ Below w.heap.size w wr
theorem rdS {w : World} {g q p : Nat} {s0 s1 : Bool} {c e ec : Int} {o : S39} {f : Bool} {n : Int} {A : Option Addr} {d : List Int} {cp : Nat} {W : World} (h : Rd w g q p s0 s1 c e ec o f n A d cp W) : Aside0 (Rd w g q p s0 s1 c e ec o f n A d cp W) ∧ W.cell? ⟨q, 1, none⟩ = some (.int .u32 o.f1) ∧ W.cell? ⟨p, 0, none⟩ = some (.bool f) ∧ W.cell? ⟨p, 1, none⟩ = some (.int .u8 n) ∧ W.cell? ⟨p, 2, none⟩ = some (.bool false) ∧ W.cell? ⟨p, 4, none⟩ = some (.slice A d.length cp) ∧ (convert 25 9 (.slice A d.length cp)).run Try.prog W = .ok (.string (strOfNums d)) W := ⟨⟨h⟩, h.cells.1, h.cells.2.1, h.cells.2.2.1, h.cells.2.2.2.1, h.cells.2.2.2.2, h.str⟩
theorem rdO {w : World} {g q p : Nat} {s0 s1 : Bool} {c e ec : Int} {o : S39} {f : Bool} {n : Int} {A : Option Addr} {d : List Int} {cp : Nat} {W : World} {P : Prop} (h : Aside0 (Rd w g q p s0 s1 c e ec o f n A d cp W) ∧ P) : Rd w g q p s0 s1 c e ec o f n A d cp W := h.1.out
end Go.Proofs.Ytbcjifadcljkeaa
