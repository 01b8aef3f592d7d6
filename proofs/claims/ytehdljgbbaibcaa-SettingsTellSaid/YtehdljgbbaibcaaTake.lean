import Derived.Test.YtehdljgbbaibcaaWMore
import Derived.Test.YtehdljgbbaibcaaProg
import Derived.Deep.RegionHeld3
namespace Go.Proofs.Ytehdljgbbaibcaa
open Go.RowKit Go.Proofs.YtehdljgbbaibcaaW.PrintWords Go.Proofs.YtehdljgbbaibcaaW.PrintLast Go.Proofs.YtehdljgbbaibcaaW.PrintMore
set_option linter.unusedVariables false
/-- Number i is taken first; what it leaves stands written out. -/
theorem takeN {P : Program} {md : Region.Mode} {ops : Array Oper} {Q : Exit → Act → World → Prop} {S : World → Prop} {i : Nat} {N : Option Tmp} {oi : Oper} {v : Value} {fuel : Nat} {listed : Array Bool} {a a' : Act} {w : World} (hi : ops[i]? = some oi) (hN : oi.dst = N)
    (hs : Region.noSelect ops = true) (hf : Region.free md ops listed i = true) (hr : (Region.ready md ops listed).contains i = true)
    (hQ : ∀ c a w, Q (.panic c) (a.put oi.dst v) w → Q (.panic c) a w) (hy : YieldsIf P ops S oi v a) (ha : a.put N v = a') (hS : S w)
    (h : wpAnyH P md ops Q S fuel (listed.setIfInBounds i true) a' w) : wpAnyH P md ops Q S (fuel + 1) listed a w := by
  subst hN; subst ha
  exact wpAnyH_take hi hs hf hr hQ hy hS h
theorem last_at (W : World) (o : Obj) (k : Nat) (h : k = W.heap.size) : (W.alloc o).heap[k]? = some o := by
  rw [h]
  show (W.heap.push o)[W.heap.size]? = some o
  simp
end Go.Proofs.Ytehdljgbbaibcaa
