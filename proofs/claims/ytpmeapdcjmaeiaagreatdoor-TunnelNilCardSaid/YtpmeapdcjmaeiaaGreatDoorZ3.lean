/- What the law's row rests on, part 3. -/
import Derived.Test.YtpmeapdcjmaeiaaGreatDoorZ2
import Derived.Test.YtpmeapdcjmaeiaaGreatDoorProg
import Derived.WalkKit
import Derived.LaidEql
import Derived.Stop.Asserts
import Derived.RowKitTokens
import Derived.Deep.RegionHeld3
/- The package fault by its contracts: an error with a socket's fault, one that wraps it, and the fault that errors.As finds. -/
namespace Go.Proofs.YtpmeapdcjmaeiaaGreatDoor
open Go.RowKit Go.Proofs.YtpmeapdcjmaeiaaGreatDoorW.PrintWords Go.Proofs.YtpmeapdcjmaeiaaGreatDoorW.PrintLast Go.Proofs.YtpmeapdcjmaeiaaGreatDoorW.PrintMore
set_option linter.unusedVariables false
/-- What the rows' condition gives: the variable errors.errorType. -/
def Cond (w : World) : Prop := w.cell? ⟨0, 0, none⟩ = some (.iface 206 (.agg #[.pointer (some ⟨1, 133, none⟩)]))
/-- v is an error with a socket's fault of this code. -/
def IsBad (W : World) (v : Value) (code : Int) : Prop := ∃ g : Nat, v = .iface 166 (.pointer (some ⟨g, 0, none⟩)) ∧ W.heap[g]? = some (.cells #[.int .u8 3, .int .u32 code] 170 (0, 0))
theorem last_at (W : World) (o : Obj) (k : Nat) (h : k = W.heap.size) : (W.alloc o).heap[k]? = some o := by
  rw [h]
  show (W.heap.push o)[W.heap.size]? = some o
  simp
end Go.Proofs.YtpmeapdcjmaeiaaGreatDoor

/- The length behind a head's two bytes, by its contracts. -/
/- What a frame's head tells: one contract for each way through wsframe.head. -/
namespace Go.Proofs.YtpmeapdcjmaeiaaGreatDoor
open Go.RowKit Go.Proofs.YtpmeapdcjmaeiaaGreatDoorW.PrintWords Go.Proofs.YtpmeapdcjmaeiaaGreatDoorW.PrintLast Go.Proofs.YtpmeapdcjmaeiaaGreatDoorW.PrintMore
set_option linter.unusedVariables false
/-- What wsframe.head answers. -/
def HeadPost (f d : Int) (more : Bool) (code : Int) (w : World) (e : Ending) (w' : World) : Prop := ∃ v, e = .returned (.tuple #[.int .i64 f, .int .i64 d, .bool more, v]) ∧ ((code = 0 ∧ v = .nilIface) ∨ (code ≠ 0 ∧ IsBad w' v code)) ∧ Below w.heap.size w w'
theorem HeadPost.nil (f d : Int) (more : Bool) (w : World) : HeadPost f d more 0 w (.returned (.tuple #[.int .i64 f, .int .i64 d, .bool more, .nilIface])) w := ⟨_, rfl, .inl ⟨rfl, rfl⟩, Below.refl _ _⟩
end Go.Proofs.YtpmeapdcjmaeiaaGreatDoor
/- What wsframe.head answers at any bytes, in plain words. -/
/- What wsframe.Head answers at any bytes. -/
namespace Go.Proofs.YtpmeapdcjmaeiaaGreatDoor
open Go.RowKit Go.Proofs.YtpmeapdcjmaeiaaGreatDoorW.PrintWords Go.Proofs.YtpmeapdcjmaeiaaGreatDoorW.PrintLast Go.Proofs.YtpmeapdcjmaeiaaGreatDoorW.PrintMore
set_option linter.unusedVariables false
theorem IsBad.out {W : World} {v : Value} {code : Int} (h : IsBad W v code) : ∃ g : Nat, v = .iface 166 (.pointer (some ⟨g, 0, none⟩)) := by
  obtain ⟨g, e, _⟩ := h
  exact ⟨g, e⟩
end Go.Proofs.YtpmeapdcjmaeiaaGreatDoor
/- What wsframe.Get answers where there is a fault. -/
namespace Go.Proofs.YtpmeapdcjmaeiaaGreatDoor
open Go.RowKit Go.Proofs.YtpmeapdcjmaeiaaGreatDoorW.PrintWords Go.Proofs.YtpmeapdcjmaeiaaGreatDoorW.PrintLast Go.Proofs.YtpmeapdcjmaeiaaGreatDoorW.PrintMore
set_option linter.unusedVariables false
def GetPost (r1 : Bool) (r2 : Int) (r3 : Bool) (r4 : Int) (r5 : List Int) (r6 r7 : Int) (w : World) (e : Ending) (w' : World) : Prop := ∃ v, e = .returned (.tuple #[.agg #[.bool r1, .int .u8 r2, .bool r3, .int .u32 r4, v], .agg #[.int .u8 r6, .int .u32 r7]]) ∧ Kd.R (Kd.int .u8) 5 w' w.heap.size (fun _ => True) v r5 ∧ Below w.heap.size w w'
end Go.Proofs.YtpmeapdcjmaeiaaGreatDoor

/- What wsframe.Get answers where all is well. -/
namespace Go.Proofs.YtpmeapdcjmaeiaaGreatDoor
open Go.RowKit Go.Proofs.YtpmeapdcjmaeiaaGreatDoorW.PrintWords Go.Proofs.YtpmeapdcjmaeiaaGreatDoorW.PrintLast Go.Proofs.YtpmeapdcjmaeiaaGreatDoorW.PrintMore
set_option linter.unusedVariables false
theorem GetPost.mk {r1 : Bool} {r2 : Int} {r3 : Bool} {r4 : Int} {r5 : List Int} {w w' : World} {v : Value} (hR : Kd.R (Kd.int .u8) 5 w' w.heap.size (fun _ => True) v r5) (hb : Below w.heap.size w w') : GetPost r1 r2 r3 r4 r5 0 0 w (.returned (.tuple #[.agg #[.bool r1, .int .u8 r2, .bool r3, .int .u32 r4, v], .agg #[.int .u8 0, .int .u32 0]])) w' := ⟨_, rfl, hR, hb⟩
/-- What stands throughout: the two boxes of the results. -/
structure Gs (w W : World) : Prop where
  bel : Below w.heap.size w W
  piece : W.heap[w.heap.size]? = some (.cells #[.bool false, .int .u8 0, .bool false, .int .u32 0, .slice none 0 0] 81 (0, 0))
  fault : W.heap[w.heap.size + 1]? = some (.cells #[.int .u8 0, .int .u32 0] 87 (0, 0))
def GS (w : World) (ad : Addr) (b0 : Int) (W : World) : Prop := Aside0 (Gs w W) ∧ W.cell? ad = some (.int .u8 b0)
theorem GS.mk {w : World} {ad : Addr} {b0 : Int} (x0 : w.cell? ad = some (.int .u8 b0)) {W : World} (h : Gs w W) : Aside0 (Gs w W) ∧ W.cell? ad = some (.int .u8 b0) := ⟨⟨h⟩, (h.bel.cell (World.block_lt_of_cell? _ _ x0)).trans x0⟩
end Go.Proofs.YtpmeapdcjmaeiaaGreatDoor
/- wsframe.Get at any bytes. -/

namespace Go.Proofs.YtpmeapdcjmaeiaaGreatDoorW.PrintLast
open Go.Proofs.YtpmeapdcjmaeiaaGreatDoorW.PrintWords (Aside0)
section
variable {md : Region.Mode} {ops : Array Oper} {T : Bool × List (List Nat × List Nat)} {l l' li lj lk : Array Bool} {ds : List Nat} {i j k : Nat}
end
end Go.Proofs.YtpmeapdcjmaeiaaGreatDoorW.PrintLast

namespace Go.Proofs.YtpmeapdcjmaeiaaGreatDoorW.PrintLast
section
variable {P : Program} {ops : Array Oper} {Q : Exit → Act → World → Prop} {md : Region.Mode} {S : World → Prop} {ds : List Nat} {T : Bool × List (List Nat × List Nat)}
end
end Go.Proofs.YtpmeapdcjmaeiaaGreatDoorW.PrintLast

namespace Go.Proofs.YtpmeapdcjmaeiaaGreatDoorW.PrintWords
open Go.RowKit
namespace Kd
section
variable {α : Type} {d : Kd α} {W : World} {g n : Nat} {S ok : Nat → Prop} {A : Option Addr} {ad : Addr} {xs : List α}
end
end Kd
end Go.Proofs.YtpmeapdcjmaeiaaGreatDoorW.PrintWords

namespace Go.Proofs.YtpmeapdcjmaeiaaGreatDoorW.PrintWords
open Go.RowKit
section
variable {w w' u : World} {m B g : Nat} {o : Obj} {row : Option Nat} {S : Nat → Prop} {a : Addr} {v : Value}
end
namespace Kd
section
variable {α : Type} {d : Kd α} {e base n m : Nat} {ok : Nat → Prop} {w w' : World} {v : Value} {A : Option Addr} {xs : List α}
end
end Kd
end Go.Proofs.YtpmeapdcjmaeiaaGreatDoorW.PrintWords

