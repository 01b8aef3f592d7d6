/- What the law's row rests on, part 5. -/
import Derived.Test.YtpmeapdcjmaeiaaGreatDoorZ4
import Derived.Laws.StructEq
import Derived.Test.YtpmeapdcjmaeiaaGreatDoorProg
import Derived.Below
import Derived.Deep.Draws
import Derived.Deep.AppendLies
import Derived.Maps.AppendAt
import Derived.OwnWalk
import Derived.Laws.BytesArg
import Derived.Laws.MakeOwn
import Derived.Laws.OwnMore
import Derived.Deep.OwnRows
import Derived.Tactics
import Derived.Lib.ConvBytes
import Derived.Laws.Slices
import Derived.WalkKit
import Derived.KernelRfl
import Derived.RowKit3
import Derived.Deep.LoopGhost
import Derived.Deep.QuietTactic
import Derived.BigQuiet
import Derived.WideLaws
import Derived.Deep.DeepCutAuto
import Derived.Deep.CutBlock
import Derived.Deep.RegionHeld3
import Derived.Laws.Rows
import Derived.Lib.AppendStr
import Derived.ArgAppend
import Derived.Laws.IdiomCopy
import Derived.OrdersHeld
import Derived.Laws.BitsLemmas
import Derived.RowKit
set_option linter.unusedVariables false
set_option linter.unusedSimpArgs false
set_option maxRecDepth 100000
set_option maxHeartbeats 16000000
namespace Go.Wa
open Go.RowKit
section
variable {P : Program} {d : Nat} {xs ys : Array Value} {f : Field} {fs : List Field} {a b : Value} {r s : Bool} {w : World}
end
end Go.Wa
namespace Go.Wa
theorem Reps.one {α : Type} {R : α → List Value → Prop} {ps : List α} {cs : List Value} {p : α} {v : Value} (hp : R p [v]) (h : Reps R 1 ps cs) : Reps R 1 (p :: ps) (v :: cs) := by
 refine ⟨by simp [h.1], fun j q hq => ?_⟩
 cases j with
 | zero =>
  simp only [List.getElem?_cons_zero, Option.some.injEq] at hq
  subst hq
  simpa using hp
 | succ j =>
  simp only [List.getElem?_cons_succ] at hq
  have h1 := h.2 j q hq
  simpa [Nat.mul_one] using h1
theorem Reps.front {α : Type} {R : α → List Value → Prop} {size : Nat} {ps : List α} {cs c all : List Value} {p : α} (hp : R p c) (hc : c.length = size) (h : Reps R size ps cs) (ha : c ++ cs = all) : Reps R size (p :: ps) all := by
 subst ha
 refine ⟨by rw [List.length_append, hc, h.1, List.length_cons, Nat.succ_mul, Nat.add_comm], fun j q hq => ?_⟩
 cases j with
 | zero =>
  simp only [List.getElem?_cons_zero, Option.some.injEq] at hq
  subst hq
  rw [Nat.zero_mul, List.drop_zero, List.take_append_of_le_length (by omega), List.take_of_length_le (by omega)]
  exact hp
 | succ j =>
  simp only [List.getElem?_cons_succ] at hq
  have h1 := h.2 j q hq
  rw [Nat.succ_mul, List.drop_append, List.drop_of_length_le (by rw [hc]; exact Nat.le_add_left _ _), List.nil_append, hc, Nat.add_sub_cancel]
  exact h1
theorem Reps.c3 {α : Type} {R : α → List Value → Prop} {ps : List α} {cs : List Value} {p : α} {va vb vc : Value} (hp : R p [va, vb, vc]) (h : Reps R 3 ps cs) : Reps R 3 (p :: ps) (va :: vb :: vc :: cs) := Reps.front hp rfl h rfl
end Go.Wa
namespace Go.Wb
section
variable {P : Program} {ops : Array Oper} {Q : Exit → Act → World → Prop} {md : Region.Mode} {T : Bool × List (List Nat × List Nat)} {B : List Nat} {O : List Nat} {b : Nat → Bool} {i j n : Nat}
end
end Go.Wb
namespace Go.Wb
section
variable {ops : Array Oper} {a : Act} {o og : Oper} {g : Nat} {t : Tmp} {u : Bool}
end
end Go.Wb
namespace Go.Wa
open Go.RowKit
section
variable {P : Program} {ops : Array Oper} {rest : List Oper} {o : Oper} {a : Act} {Q : Exit → Act → World → Prop} {W : World}
theorem gate_guard (hw : Region.wanted o (yielded ops a.tmps) = true) (h : wpList P ops Q ({ o with guard := none } :: rest) a W) : wpList P ops Q (o :: rest) a W := by
 have h1 : Region.wanted { o with guard := none } (yielded ops a.tmps) = true := rfl
 unfold wpList at h ⊢
 rw [if_pos h1] at h
 rw [if_pos hw]
 exact h
end
end Go.Wa

namespace Go.Proofs.YtpmeapdcjmaeiaaGreatDoor.PAll
open Go.RowKit Go.Wa Go.Wb Go.Wc
attribute [local go_sem] max2_int min2_int max_two min_two max_three min_three max_four min_four
def errW : Option Int → Value
 | none => .nilIface
 | some c => .iface 0 (.int .i64 c)
theorem errW_none : errW none = .nilIface := rfl
theorem errW_some (c : Int) : errW (some c) = .iface 0 (.int .i64 c) := rfl
theorem info5 : (Tryz.prog.info? 5).map (fun i => (i.zero, i.size, i.bytes)) = some (some (.int .u8 0), 1, 1) := by kernel_rfl
structure S114 where
 f0 : ByteArray
 f1 : ByteArray
 f2 : Bool
def z114 : S114 := ⟨(⟨#[]⟩ : ByteArray), (⟨#[]⟩ : ByteArray), false⟩
def k114 : Kd S114 := Kd.iso (Kd.pair Kd.string (Kd.pair Kd.string Kd.bool)) (fun x : S114 => (x.f0, x.f1, x.f2))
theorem k114_open {w : World} {x : S114} {cs : List Value} (h : k114.K w x cs) : cs = [.string x.f0, .string x.f1, .bool x.f2] := by
 obtain ⟨_, _, rfl, rfl, ⟨_, _, rfl, rfl, rfl⟩⟩ := h
 exact rfl
theorem k114_mkM (w : World) (base : Nat) (ok : Nat → Prop) (x : S114)  : k114.M w base ok x [.string x.f0, .string x.f1, .bool x.f2] := ⟨[.string x.f0], [.string x.f1, .bool x.f2], rfl, rfl, ⟨[.string x.f1], [.bool x.f2], rfl, rfl, rfl⟩⟩
def rd_T114 (xs : List S114) (i : Int) : S114 := xs.getD i.toNat z114
theorem at_T114 {w : World} {A : Option Addr} {n : Nat} {xs : List S114} (h : Kd.C k114 w A n xs) (i : Int) (h0 : 0 ≤ i) (h1 : i < n) : ∃ ad , A = some ad ∧ w.cell? (ad.add (i.toNat * 3)) = some (.string (rd_T114 xs i).f0) ∧ w.cell? ⟨(ad.add (i.toNat * 3)).block, (ad.add (i.toNat * 3)).off + 1, none⟩ = some (.string (rd_T114 xs i).f1) ∧ w.cell? ⟨(ad.add (i.toNat * 3)).block, (ad.add (i.toNat * 3)).off + 2, none⟩ = some (.bool (rd_T114 xs i).f2) := by
 obtain ⟨ad, c, e, _, hK, hc0⟩ := Kd.C_get h z114 i h0 h1
 have hc : ∀ j u, c[j]? = some u → w.cell? (ad.add (i.toNat * 3 + j)) = some u := hc0
 obtain rfl := k114_open hK
 exact ⟨ad, e, hc 0 _ rfl, by rw [← add_field _ _ 1 (by omega)]; exact hc 1 _ rfl, by rw [← add_field _ _ 2 (by omega)]; exact hc 2 _ rfl⟩
structure S81 where
 f0 : Bool
 f1 : Int
 f2 : Bool
 f3 : Int
 f4 : (List Int)
def z81 : S81 := ⟨false, (0 : Int), false, (0 : Int), ([] : List Int)⟩
def k81 : Kd S81 := Kd.iso (Kd.pair Kd.bool (Kd.pair (Kd.int .u8) (Kd.pair Kd.bool (Kd.pair (Kd.int .u32) (Kd.slice 5 (Kd.int .u8)))))) (fun x : S81 => (x.f0, x.f1, x.f2, x.f3, x.f4))
theorem k81_openM {w : World} {base : Nat} {ok : Nat → Prop} {x : S81} {cs : List Value} (h : k81.M w base ok x cs) : ∃ v4, cs = [.bool x.f0, .int .u8 x.f1, .bool x.f2, .int .u32 x.f3, v4] ∧ (Kd.int .u8).R 5 w base ok v4 x.f4 := by
 obtain ⟨_, _, rfl, rfl, ⟨_, _, rfl, rfl, ⟨_, _, rfl, rfl, ⟨_, _, rfl, rfl, ⟨v4, rfl, g4⟩⟩⟩⟩⟩ := h
 exact ⟨v4, rfl, g4⟩
theorem k81_mkM (w : World) (base : Nat) (ok : Nat → Prop) (x : S81) {v4 : Value} (g4 : (Kd.int .u8).R 5 w base ok v4 x.f4) : k81.M w base ok x [.bool x.f0, .int .u8 x.f1, .bool x.f2, .int .u32 x.f3, v4] := ⟨[.bool x.f0], [.int .u8 x.f1, .bool x.f2, .int .u32 x.f3, v4], rfl, rfl, ⟨[.int .u8 x.f1], [.bool x.f2, .int .u32 x.f3, v4], rfl, rfl, ⟨[.bool x.f2], [.int .u32 x.f3, v4], rfl, rfl, ⟨[.int .u32 x.f3], [v4], rfl, rfl, ⟨v4, rfl, g4⟩⟩⟩⟩⟩
structure S37 where
 f0 : Int
 f1 : Bool
 f2 : (List Int)
 f3 : Int
def z37 : S37 := ⟨(0 : Int), false, ([] : List Int), (0 : Int)⟩
def k37 : Kd S37 := Kd.iso (Kd.pair (Kd.int .u8) (Kd.pair Kd.bool (Kd.pair (Kd.slice 5 (Kd.int .u8)) (Kd.int .u32)))) (fun x : S37 => (x.f0, x.f1, x.f2, x.f3))
theorem k37_openM {w : World} {base : Nat} {ok : Nat → Prop} {x : S37} {cs : List Value} (h : k37.M w base ok x cs) : ∃ v2, cs = [.int .u8 x.f0, .bool x.f1, v2, .int .u32 x.f3] ∧ (Kd.int .u8).R 5 w base ok v2 x.f2 := by
 obtain ⟨_, _, rfl, rfl, ⟨_, _, rfl, rfl, ⟨_, _, rfl, ⟨v2, rfl, g2⟩, rfl⟩⟩⟩ := h
 exact ⟨v2, rfl, g2⟩
theorem k37_mkM (w : World) (base : Nat) (ok : Nat → Prop) (x : S37) {v2 : Value} (g2 : (Kd.int .u8).R 5 w base ok v2 x.f2) : k37.M w base ok x [.int .u8 x.f0, .bool x.f1, v2, .int .u32 x.f3] := ⟨[.int .u8 x.f0], [.bool x.f1, v2, .int .u32 x.f3], rfl, rfl, ⟨[.bool x.f1], [v2, .int .u32 x.f3], rfl, rfl, ⟨[v2], [.int .u32 x.f3], rfl, ⟨v2, rfl, g2⟩, rfl⟩⟩⟩
theorem field43_0 (W : World) (c0 c1 : Value) : (Instr.field 43 (.agg #[c0, c1]) 0).run Tryz.prog W = .ok c0 W := by
 simp [Instr.field, run_underlying Tryz.underlying43, part, asAgg]
theorem field87_1 (W : World) (c0 c1 : Value) : (Instr.field 87 (.agg #[c0, c1]) 1).run Tryz.prog W = .ok c1 W := by
 simp [Instr.field, run_underlying Tryz.underlying87, part, asAgg]
end Go.Proofs.YtpmeapdcjmaeiaaGreatDoor.PAll

namespace Go.Proofs.YtpmeapdcjmaeiaaGreatDoor.Says
open Go.RowKit Go.Wa PAll
def TunnelPairs : Prop := ∀ (A0 : Option Addr) (c0 : Nat) (x0 : (List Int)) (A1 : Option Addr) (c1 : Nat) (x1 : (List (List Int))) (A2 : Option Addr) (c2 : Nat) (x2 : (List (List Int))) (x3 : Int) (x4 : Bool) (x5 : Int) (w : World) (l0 : x0.length ≤ c0) (r0 : Kd.C (Kd.int .u32) w A0 x0.length x0) (o0 : (∀ x_ ∈ x0, (Lit.int .u32 x_).wf = true) ∧ x0.length * 4 ≤ 140737488351232 ∧ x0.length ≤ 9223372036854775807) (l1 : x1.length ≤ c1) (r1 : Kd.C (Kd.slice 5 (Kd.int .u8)) w A1 x1.length x1) (o1 : (∀ x_ ∈ x1, (∀ x__ ∈ x_, (Lit.int .u8 x__).wf = true) ∧ x_.length * 1 ≤ 140737488351232 ∧ x_.length ≤ 9223372036854775807) ∧ x1.length * 24 ≤ 140737488351232 ∧ x1.length ≤ 9223372036854775807) (l2 : x2.length ≤ c2) (r2 : Kd.C (Kd.slice 5 (Kd.int .u8)) w A2 x2.length x2) (o2 : (∀ x_ ∈ x2, (∀ x__ ∈ x_, (Lit.int .u8 x__).wf = true) ∧ x_.length * 1 ≤ 140737488351232 ∧ x_.length ≤ 9223372036854775807) ∧ x2.length * 24 ≤ 140737488351232 ∧ x2.length ≤ 9223372036854775807) (o3 : (Lit.int .u32 x3).wf = true) (o5 : (Lit.int .u8 x5).wf = true) (hg : Cond w), Calls Tryz.prog 4 #[.slice A0 x0.length c0, .slice A1 x1.length c1, .slice A2 x2.length c2, .int .u32 x3, .bool x4, .int .u8 x5] w fun e w' => e = .returned (.bool true) ∧ Below w.heap.size w w'
end Go.Proofs.YtpmeapdcjmaeiaaGreatDoor.Says

namespace Go.Proofs.YtpmeapdcjmaeiaaGreatDoor.PAll
open Go.RowKit Go.Wa Go.Wb Go.Wc
attribute [local go_sem] max2_int min2_int max_two min_two max_three min_three max_four min_four
@[local go_sem] theorem run_makeFunc' (P : Program) (fn : Fn) (first cap : Array Value) (w : World) : (Instr.makeFunc fn first cap).run P w = .ok (.func fn first cap) w := rfl
@[local go_sem] theorem events_makeFunc' (P : Program) (fn : Fn) (first cap : Array Value) (w : World) (es : Array Event) : (Instr.makeFunc fn first cap).events P w es = es := rfl
def isNm (name : ByteArray) (x : S114) : Bool := x.f0.toList == name.toList
theorem lit_any (n0 n1 name : ByteArray) (b : Bool) (g : Nat) (w : World) (h : w.cell? ⟨g, 0, none⟩ = some (.string name)) : Calls Tryz.prog 92 #[.agg #[.string n0, .string n1, .bool b], .pointer (some ⟨g, 0, none⟩)] w fun e w' => e = .returned (.bool (n0.toList == name.toList)) ∧ Below w.heap.size w w' := by
 have hu := Tryz.underlying114
 go_enter Tryz.func92, Tryz.ntmps92
 have hl : g < w.heap.size := World.block_lt_of_cell? _ _ h
 go_wp2_with fail
 go_ret
 exact ⟨rfl, below_alloc (Below.refl _ _) _⟩
def IdxR (w : World) (name : ByteArray) (l : List S114) (mu : Nat) (iv : Value) (wr : World) : Prop := ∃ i : Nat, iv = .int .i64 (i : Nat) ∧ i + mu = l.length ∧ (∀ (j : Nat) x, j < i → l[j]? = some x → isNm name x = false) ∧ Below w.heap.size w wr
theorem index_any (A0 : Option Addr) (c0 : Nat) (l : List S114) (name : ByteArray) (g : Nat) (w : World) (hC : Kd.C k114 w A0 l.length l) (hc : l.length ≤ c0) (hn : l.length ≤ 140737488355328) (h : w.cell? ⟨g, 0, none⟩ = some (.string name)) :
  Calls Tryz.prog 91 #[.slice A0 l.length c0, .func (.func 92) #[] #[.pointer (some ⟨g, 0, none⟩)]] w fun e w' => Below w.heap.size w w' ∧ ((∃ (i : Nat) (x : S114), e = .returned (.int .i64 (i : Nat)) ∧ l[i]? = some x ∧ isNm name x = true ∧ ∀ (j : Nat) y, j < i → l[j]? = some y → isNm name y = false) ∨ (e = .returned (.int .i64 (-1)) ∧ ∀ (j : Nat) y, l[j]? = some y → isNm name y = false)) := by
 have hu := Tryz.underlying114
 have HC := a_ hC
 have HM := a_ h
 clear hC h
 go_enter Tryz.func91, Tryz.ntmps91
 go_wp2_with fail
 go_loopg [8] l.length (fun mu iv wr => IdxR w name l mu iv wr)
 case atStart => exact ⟨0, rfl, by omega, fun j x hj => absurd hj (Nat.not_lt_zero _), Below.refl _ _⟩
 case round =>
  obtain ⟨i, rfl, hi, hno, hB⟩ := hrel
  have HB := a_ hB
  have HN := a_ hno
  have HI := a_ hi
  clear hB hno hi
  by_cases hlt : i < l.length
  ·obtain ⟨ad, rfl, e0, e1, e2⟩ := at_T114 (Kd.C_below HC.out HB.out) (i : Int) (by omega) (by omega)
   obtain ⟨x, hx⟩ : ∃ x, x = rd_T114 l (i : Int) := ⟨_, rfl⟩
   have hxl : l[i]? = some x := by
    rw [hx]
    unfold rd_T114
    rw [Int.toNat_natCast, List.getD_eq_getElem?_getD, List.getElem?_eq_getElem hlt]
    rfl
   rw [← hx, Int.toNat_natCast] at e0 e1 e2
   obtain ⟨n0, n1, nb⟩ := x
   simp only at e0 e1 e2
   have HX := a_ hxl
   clear hx hxl
   go_wp2_with fail
   refine (lit_any n0 n1 name nb g _ ((HB.out.cell (World.block_lt_of_cell? _ _ HM.out)).trans HM.out)).mono ?_
   rintro e w2 ⟨rfl, hb⟩
   have HB2 := a_ (below_step HB.out hb)
   clear hb e0 e1 e2
   have hkey : isNm name ⟨n0, n1, nb⟩ = (n0.toList == name.toList) := rfl
   obtain ⟨q, hq⟩ : ∃ q, q = (n0.toList == name.toList) := ⟨_, rfl⟩
   rw [← hq] at hkey ⊢
   have HK := a_ hkey
   clear hkey hq
   cases q with
   | true =>
    go_wp2_with fail
    go_ret
    exact ⟨HB2.out, .inl ⟨i, _, rfl, HX.out, HK.out, HN.out⟩⟩
   | false =>
    go_wp2_with fail
    go_roundg (l.length - (i + 1))
    case measure => have := HI.out; omega
    case rel => exact ⟨i + 1, by rw [show ((i + 1 : Nat) : Int) = (i : Int) + 1 by omega], by omega, fun j y hj hy => by
     by_cases e : j = i
     ·subst e
      rw [HX.out] at hy
      injection hy with hy
      rw [← hy]
      exact HK.out
     ·exact HN.out j y (by omega) hy, HB2.out⟩
  ·have hie : i = l.length := by have := HI.out; omega
   clear HI
   subst hie
   go_wp2_with fail
   go_ret
   exact ⟨HB.out, .inr ⟨rfl, fun j y hy => HN.out j y (by
    rcases Nat.lt_or_ge j l.length with h | h
    ·exact h
    ·rw [List.getElem?_eq_none h] at hy; cases hy) hy⟩⟩
def valC (name : ByteArray) (l : List S114) : ByteArray × Bool := match l.find? (isNm name) with | some x => (x.f1, true) | none => ((⟨#[]⟩ : ByteArray), false)
theorem valC_some {name : ByteArray} {l : List S114} {i : Nat} {x : S114} (hx : l[i]? = some x) (he : isNm name x = true) (hn : ∀ (j : Nat) y, j < i → l[j]? = some y → isNm name y = false) : valC name l = (x.f1, true) := by
 have : l.find? (isNm name) = some x := by
  induction l generalizing i with
  | nil => simp at hx
  | cons a t ih =>
   cases i with
   | zero =>
    simp at hx
    subst hx
    simp [he]
   | succ i =>
    have h0 := hn 0 a (by omega) rfl
    rw [List.find?_cons_of_neg (by simp [h0])]
    exact ih (i := i) (by simpa using hx) (fun j y hj hy => hn (j + 1) y (by omega) (by simpa using hy))
 unfold valC
 rw [this]
theorem valC_none {name : ByteArray} {l : List S114} (hn : ∀ (j : Nat) y, l[j]? = some y → isNm name y = false) : valC name l = ((⟨#[]⟩ : ByteArray), false) := by
 have : l.find? (isNm name) = none := by
  rw [List.find?_eq_none]
  intro x hx
  obtain ⟨i, hi⟩ := List.getElem?_of_mem hx
  simp [hn i x hi]
 unfold valC
 rw [this]
theorem value_any (A0 : Option Addr) (c0 : Nat) (l : List S114) (name : ByteArray) (w : World) (hC : Kd.C k114 w A0 l.length l) (hc : l.length ≤ c0) (hn : l.length ≤ 140737488355328) :
  Calls Tryz.prog 61 #[.slice A0 l.length c0, .string name] w fun e w' => e = .returned (.tuple #[.string (valC name l).1, .bool (valC name l).2]) ∧ Below w.heap.size w w' := by
 have hu := Tryz.underlying114
 have HC := a_ hC
 clear hC
 go_enter Tryz.func61, Tryz.ntmps61
 go_wp2_with fail
 refine (index_any A0 c0 l name w.heap.size _ (Kd.C_below HC.out (below_alloc (Below.refl _ _) _)) hc hn ((blk_cell (show (w.alloc (.cells #[.string name] 9)).heap[w.heap.size]? = some (.cells #[.string name] 9 (0, 0)) from last_at _ _ _ rfl) 0).trans rfl)).mono ?_
 rintro e w2 ⟨hb, he⟩
 have HB := a_ (below_step (below_alloc (Below.refl _ _) _) hb)
 clear hb
 rcases he with ⟨i, x, rfl, hx, he, hno⟩ | ⟨rfl, hno⟩
 ·have hi : i < l.length := by
   rcases Nat.lt_or_ge i l.length with h | h
   ·exact h
   ·rw [List.getElem?_eq_none h] at hx; cases hx
  obtain ⟨ad, rfl, e0, e1, e2⟩ := at_T114 (Kd.C_below HC.out HB.out) (i : Int) (by omega) (by omega)
  have hxr : rd_T114 l (i : Int) = x := by
   unfold rd_T114
   rw [Int.toNat_natCast, List.getD_eq_getElem?_getD, hx]
   rfl
  rw [hxr, Int.toNat_natCast] at e1
  have HV := a_ (valC_some hx he hno)
  clear e0 e2 hx he hno
  go_wp2_with fail
  exact bodyPost_ret (v := .tuple #[.string x.f1, .bool true]) (by simp [results, Tryz.results61, go_sem]) rfl ⟨by rw [HV.out], HB.out⟩
 ·have HV := a_ (valC_none hno)
  clear hno
  go_wp2_with fail
  exact bodyPost_ret (v := .tuple #[.string ⟨#[]⟩, .bool false]) (by simp [results, Tryz.results61, go_sem]) rfl ⟨by rw [HV.out], HB.out⟩
def tunnel_value.f (l0 : List S114) (a1 : ByteArray) : Option (ByteArray × Bool) := if (l0.length : Int) ≤ 140737488355328 then some (valC a1 l0) else none
theorem tunnel_value.calls (A0 : Option Addr) (c0 : Nat) (l0 : List (S114)) (a1 : ByteArray) (r1 : ByteArray) (r2 : Bool) (w : World) (hr0 : Kd.C k114 w A0 l0.length l0) (hc0 : l0.length ≤ c0) (h : tunnel_value.f l0 a1 = some (r1, r2)) :
  Calls Tryz.prog 61 #[.slice A0 l0.length c0, .string a1] w fun e w' => e = .returned (.tuple #[.string r1, .bool r2]) ∧ Below w.heap.size w w' := by
 have hf43_0 := field43_0
 have hf87_1 := field87_1
 unfold tunnel_value.f at h
 have hlen : (l0.length : Int) ≤ 140737488355328 := by
  by_cases hb : (l0.length : Int) ≤ 140737488355328
  ·exact hb
  ·rw [if_neg hb] at h; cases h
 rw [if_pos hlen] at h
 have h2 := Option.some.inj h
 have := value_any A0 c0 l0 a1 w hr0 hc0 (by omega)
 rw [h2] at this
 exact this
def tunnel_upper.l0 : Nat → ByteArray → Int → Int → Option (Bool)
 | 0, _, _, _ => none
 | k + 1, x0, x5, x6 => if x6 < x5 then (if 0 ≤ x6 then (if x6 < (x0.size : Int) then (if (bt x0 x6) ≥ 65 then (if (bt x0 x6) ≤ 90 then (some true) else (tunnel_upper.l0 k x0 x5 (wrap64 (x6 + 1)))) else (tunnel_upper.l0 k x0 x5 (wrap64 (x6 + 1)))) else (none)) else (none)) else (some false)
def tunnel_upper.f (k : Nat) (a0 : ByteArray) : Option (Bool) := tunnel_upper.l0 k a0 (a0.size : Int) 0
theorem tunnel_upper.calls (k : Nat) (a0 : ByteArray) (r : Bool) (w : World) (h : tunnel_upper.f k a0 = some r) :
  Calls Tryz.prog 93 #[.string a0] w fun e w' => e = .returned (.bool r) ∧ Drawn0 w w' := by
 have hf43_0 := field43_0
 have hf87_1 := field87_1
 have H : (tunnel_upper.l0 k a0 (a0.size : Int) 0) = some r := h
 clear h
 have H' := a_ H
 clear H
 go_enter Tryz.func93, Tryz.ntmps93
 go_wp2
 go_loopg [6] k (fun kq v6 w' => ∃ (x6_1 : Int), v6 = .int .i64 x6_1 ∧ Aside0 (tunnel_upper.l0 kq a0 (a0.size : Int) x6_1 = some r) ∧ Aside0 (kq ≤ k) ∧ Drawn0 w w')
 case atStart => exact ⟨(0), (by first | rfl | (simp; done) | (simp [*]; done)), H', ⟨Nat.le_refl _⟩, by repeat (first | exact Drawn0.refl _ | apply Drawn0.step)⟩
 case round =>
  clear H'
  obtain ⟨x6_1, rfl, HA, HK1, ⟨m1, rfl⟩⟩ := hrel
  cases gk with
  | zero => exact absurd HA.out (by simp [tunnel_upper.l0])
  | succ k1 =>
   have H := HA.out
   clear HA
   simp only [tunnel_upper.l0] at H
   by_cases c2 : x6_1 < (a0.size : Int)
   ·rw [if_pos c2] at H
    have c2b0 : decide (x6_1 < (a0.size : Int)) = true := decide_eq_true c2
    clear c2
    by_cases c3 : 0 ≤ x6_1
    ·rw [if_pos c3] at H
     have c3b0 : decide (0 ≤ x6_1) = true := decide_eq_true c3
     clear c3
     by_cases c4 : x6_1 < (a0.size : Int)
     ·rw [if_pos c4] at H
      have c4b0 : decide (x6_1 < (a0.size : Int)) = true := decide_eq_true c4
      clear c4
      by_cases c6 : (bt a0 x6_1) ≥ 65
      ·rw [if_pos c6] at H
       have c6b0 : decide (65 ≤ (bt a0 x6_1)) = true := decide_eq_true c6
       clear c6
       by_cases c8 : (bt a0 x6_1) ≤ 90
       ·rw [if_pos c8] at H
        have c8b0 : decide ((bt a0 x6_1) ≤ 90) = true := decide_eq_true c8
        clear c8
        obtain rfl := Option.some.inj H
        have p5 : 0 ≤ (x6_1 : Int) := of_decide_eq_true (by assumption)
        have q5 : x6_1 < (a0.size : Int) := of_decide_eq_true (by assumption)
        have hx5 := bt_at a0 x6_1
        replace p5 := eq_true p5
        replace q5 := eq_true q5
        have p7 : 0 ≤ (x6_1 : Int) := of_decide_eq_true (by assumption)
        have q7 : x6_1 < (a0.size : Int) := of_decide_eq_true (by assumption)
        have hx7 := bt_at a0 x6_1
        replace p7 := eq_true p7
        replace q7 := eq_true q7
        go_wp2
        go_ret
        exact ⟨by first | rfl | (simp; done) | (simp [*]; done), by repeat (first | exact Drawn0.refl _ | apply Drawn0.step)⟩
       ·rw [if_neg c8] at H
        have c8b0 : decide ((bt a0 x6_1) ≤ 90) = false := decide_eq_false c8
        clear c8
        have H' := a_ H
        clear H
        have p5 : 0 ≤ (x6_1 : Int) := of_decide_eq_true (by assumption)
        have q5 : x6_1 < (a0.size : Int) := of_decide_eq_true (by assumption)
        have hx5 := bt_at a0 x6_1
        replace p5 := eq_true p5
        replace q5 := eq_true q5
        have p7 : 0 ≤ (x6_1 : Int) := of_decide_eq_true (by assumption)
        have q7 : x6_1 < (a0.size : Int) := of_decide_eq_true (by assumption)
        have hx7 := bt_at a0 x6_1
        replace p7 := eq_true p7
        replace q7 := eq_true q7
        go_wp2
        go_roundg k1
        case measure => have := HK1.out; omega
        case rel => exact ⟨(wrap64 (x6_1 + 1)), (by first | rfl | (simp; done) | (simp [*]; done)), H', ⟨by have := HK1.out; omega⟩, by repeat (first | exact Drawn0.refl _ | apply Drawn0.step)⟩
      ·rw [if_neg c6] at H
       have c6b0 : decide (65 ≤ (bt a0 x6_1)) = false := decide_eq_false c6
       clear c6
       have H' := a_ H
       clear H
       have p5 : 0 ≤ (x6_1 : Int) := of_decide_eq_true (by assumption)
       have q5 : x6_1 < (a0.size : Int) := of_decide_eq_true (by assumption)
       have hx5 := bt_at a0 x6_1
       replace p5 := eq_true p5
       replace q5 := eq_true q5
       go_wp2
       go_roundg k1
       case measure => have := HK1.out; omega
       case rel => exact ⟨(wrap64 (x6_1 + 1)), (by first | rfl | (simp; done) | (simp [*]; done)), H', ⟨by have := HK1.out; omega⟩, by repeat (first | exact Drawn0.refl _ | apply Drawn0.step)⟩
     ·rw [if_neg c4] at H
      exact absurd H (by simp)
    ·rw [if_neg c3] at H
     exact absurd H (by simp)
   ·rw [if_neg c2] at H
    have c2b0 : decide (x6_1 < (a0.size : Int)) = false := decide_eq_false c2
    clear c2
    obtain rfl := Option.some.inj H
    go_wp2
    go_ret
    exact ⟨by first | rfl | (simp; done) | (simp [*]; done), by repeat (first | exact Drawn0.refl _ | apply Drawn0.step)⟩
def stringslite_HasPrefix.f (a0 : ByteArray) (a1 : ByteArray) : Option (Bool) := if (a0.size : Int) ≥ (a1.size : Int) then (if 0 ≤ (a1.size : Int) then (if (a1.size : Int) ≤ (a0.size : Int) then (some ((a0.extract 0 a1.size).toList == a1.toList)) else (none)) else (none)) else (some false)
theorem stringslite_HasPrefix.calls (a0 : ByteArray) (a1 : ByteArray) (r : Bool) (w : World) (h : stringslite_HasPrefix.f a0 a1 = some r) :
  Calls Tryz.prog 128 #[.string a0, .string a1] w fun e w' => e = .returned (.bool r) ∧ Drawn0 w w' := by
 have hf43_0 := field43_0
 have hf87_1 := field87_1
 have H : (if (a0.size : Int) ≥ (a1.size : Int) then (if 0 ≤ (a1.size : Int) then (if (a1.size : Int) ≤ (a0.size : Int) then (some ((a0.extract 0 a1.size).toList == a1.toList)) else (none)) else (none)) else (some false)) = some r := h
 clear h
 by_cases c3 : (a0.size : Int) ≥ (a1.size : Int)
 ·rw [if_pos c3] at H
  have c3b0 : decide ((a1.size : Int) ≤ (a0.size : Int)) = true := decide_eq_true c3
  have c3b1 : decide (a1.size ≤ a0.size) = true := decide_eq_true (Int.ofNat_le.mp c3)
  clear c3
  by_cases c4 : 0 ≤ (a1.size : Int)
  ·rw [if_pos c4] at H
   have c4b0 := eq_true c4
   have c4b1 : decide (0 ≤ (a1.size : Int)) = true := decide_eq_true c4
   clear c4
   by_cases c5 : (a1.size : Int) ≤ (a0.size : Int)
   ·rw [if_pos c5] at H
    have c5b0 := eq_true c5
    have c5b1 : decide ((a1.size : Int) ≤ (a0.size : Int)) = true := decide_eq_true c5
    clear c5
    obtain rfl := Option.some.inj H
    go_enter Tryz.func128, Tryz.ntmps128
    go_wp2
    go_ret
    exact ⟨by first | rfl | (simp; done) | (simp [*]; done), by repeat (first | exact Drawn0.refl _ | apply Drawn0.step)⟩
   ·rw [if_neg c5] at H
    exact absurd H (by simp)
  ·rw [if_neg c4] at H
   exact absurd H (by simp)
 ·rw [if_neg c3] at H
  have c3b0 : decide ((a1.size : Int) ≤ (a0.size : Int)) = false := decide_eq_false c3
  have c3b1 : decide (a1.size ≤ a0.size) = false := decide_eq_false (fun h => c3 (Int.ofNat_le.mpr h))
  clear c3
  obtain rfl := Option.some.inj H
  go_enter Tryz.func128, Tryz.ntmps128
  go_wp2
  go_ret
  exact ⟨by first | rfl | (simp; done) | (simp [*]; done), by repeat (first | exact Drawn0.refl _ | apply Drawn0.step)⟩
def strings_HasPrefix.f (a0 : ByteArray) (a1 : ByteArray) : Option (Bool) := (stringslite_HasPrefix.f a0 a1).bind fun t101 => (some t101)
theorem strings_HasPrefix.calls (a0 : ByteArray) (a1 : ByteArray) (r : Bool) (w : World) (h : strings_HasPrefix.f a0 a1 = some r) :
  Calls Tryz.prog 115 #[.string a0, .string a1] w fun e w' => e = .returned (.bool r) ∧ Drawn0 w w' := by
 have hf43_0 := field43_0
 have hf87_1 := field87_1
 have H : ((stringslite_HasPrefix.f a0 a1).bind fun t101 => (some t101)) = some r := h
 clear h
 replace H := Option.bind_eq_some_iff.mp H
 obtain ⟨t101, A30, H⟩ := H
 try dsimp only at H
 have A3 := a_ A30
 clear A30
 obtain rfl := Option.some.inj H
 go_enter Tryz.func115, Tryz.ntmps115
 go_wp2_with (first | ((with_reducible refine gate_callee (f := 128) rfl ?_); refine goesL_ (some 7) rfl rfl Tryz.func128 (by kernel_rfl) rfl #[.string a0, .string a1] rfl (by exact q1_) ?_; (with_reducible refine (stringslite_HasPrefix.calls a0 a1 t101 _ A3.out).mono ?_); rintro e w' ⟨rfl, ⟨nd, rfl⟩⟩; refine ⟨_, rfl, ?_⟩))
 go_ret
 exact ⟨by first | rfl | (simp; done) | (simp [*]; done), by repeat (first | exact Drawn0.refl _ | apply Drawn0.step)⟩
def tunnel_pseudo.f (a0 : ByteArray) : Option (Bool) := (strings_HasPrefix.f a0 (⟨#[58]⟩ : ByteArray)).bind fun t102 => (some t102)
theorem tunnel_pseudo.calls (a0 : ByteArray) (r : Bool) (w : World) (h : tunnel_pseudo.f a0 = some r) :
  Calls Tryz.prog 94 #[.string a0] w fun e w' => e = .returned (.bool r) ∧ Drawn0 w w' := by
 have hf43_0 := field43_0
 have hf87_1 := field87_1
 have H : ((strings_HasPrefix.f a0 (⟨#[58]⟩ : ByteArray)).bind fun t102 => (some t102)) = some r := h
 clear h
 replace H := Option.bind_eq_some_iff.mp H
 obtain ⟨t102, A20, H⟩ := H
 try dsimp only at H
 have A2 := a_ A20
 clear A20
 obtain rfl := Option.some.inj H
 go_enter Tryz.func94, Tryz.ntmps94
 go_wp2_with (first | ((with_reducible refine gate_callee (f := 115) rfl ?_); refine goesL_ (some 4) rfl rfl Tryz.func115 (by kernel_rfl) rfl #[.string a0, .string (⟨#[58]⟩ : ByteArray)] rfl (by exact q1_) ?_; (with_reducible refine (strings_HasPrefix.calls a0 (⟨#[58]⟩ : ByteArray) t102 _ A2.out).mono ?_); rintro e w' ⟨rfl, ⟨nd, rfl⟩⟩; refine ⟨_, rfl, ?_⟩))
 go_ret
 exact ⟨by first | rfl | (simp; done) | (simp [*]; done), by repeat (first | exact Drawn0.refl _ | apply Drawn0.step)⟩
def slices_Index_string_string.l0 : Nat → List ByteArray → ByteArray → Int → Int → Option (Int)
 | 0, _, _, _, _ => none
 | k + 1, x0, x1, x7, x8 => if x8 < x7 then (if 0 ≤ x8 then (if x8 < (x0.length : Int) then (if x1.toList = (rdOf ByteArray.empty x0 x8).toList then (some x8) else (slices_Index_string_string.l0 k x0 x1 x7 (wrap64 (x8 + 1)))) else (none)) else (none)) else (some (-1))
def slices_Index_string_string.f (k : Nat) (l0 : List ByteArray) (a1 : ByteArray) : Option (Int) := slices_Index_string_string.l0 k l0 a1 (l0.length : Int) 0
theorem slices_Index_string_string.calls (k : Nat) (A0 : Option Addr) (c0 : Nat) (l0 : List ByteArray) (a1 : ByteArray) (r : Int) (w : World) (hr0 : Kd.C Kd.string w A0 l0.length l0) (hc0 : l0.length ≤ c0) (h : slices_Index_string_string.f k l0 a1 = some r) :
  Calls Tryz.prog 116 #[.slice A0 l0.length c0, .string a1] w fun e w' => e = .returned (.int .i64 r) ∧ Drawn0 w w' := by
 have hf43_0 := field43_0
 have hf87_1 := field87_1
 have HR0 := a_ hr0
 have HC0 := a_ hc0
 clear hr0 hc0
 have H : (slices_Index_string_string.l0 k l0 a1 (l0.length : Int) 0) = some r := h
 clear h
 have H' := a_ H
 clear H
 go_enter Tryz.func116, Tryz.ntmps116
 go_wp2
 go_loopg [8] k (fun kq v8 w' => ∃ (x8_1 : Int), v8 = .int .i64 x8_1 ∧ Aside0 (slices_Index_string_string.l0 kq l0 a1 (l0.length : Int) x8_1 = some r) ∧ Aside0 (kq ≤ k) ∧ Drawn0 w w')
 case atStart => exact ⟨(0), (by first | rfl | (simp; done) | (simp [*]; done)), H', ⟨Nat.le_refl _⟩, by repeat (first | exact Drawn0.refl _ | apply Drawn0.step)⟩
 case round =>
  clear H'
  obtain ⟨x8_1, rfl, HA, HK1, ⟨m1, rfl⟩⟩ := hrel
  cases gk with
  | zero => exact absurd HA.out (by simp [slices_Index_string_string.l0])
  | succ k1 =>
   have H := HA.out
   clear HA
   simp only [slices_Index_string_string.l0] at H
   by_cases c3 : x8_1 < (l0.length : Int)
   ·rw [if_pos c3] at H
    have c3b0 : decide (x8_1 < (l0.length : Int)) = true := decide_eq_true c3
    clear c3
    by_cases c4 : 0 ≤ x8_1
    ·rw [if_pos c4] at H
     have c4b0 : decide (0 ≤ x8_1) = true := decide_eq_true c4
     clear c4
     by_cases c5 : x8_1 < (l0.length : Int)
     ·rw [if_pos c5] at H
      have c5b0 : decide (x8_1 < (l0.length : Int)) = true := decide_eq_true c5
      clear c5
      by_cases c6 : a1.toList = (rdOf ByteArray.empty l0 x8_1).toList
      ·rw [if_pos c6] at H
       have c6b0 : (a1.toList == (rdOf ByteArray.empty l0 x8_1).toList) = true := beq_iff_eq.mpr c6
       have c6b1 : (a1.toList != (rdOf ByteArray.empty l0 x8_1).toList) = false := bne_eq_false_iff_eq.mpr c6
       clear c6
       obtain rfl := Option.some.inj H
       have p103 : 0 ≤ (x8_1 : Int) := of_decide_eq_true (by assumption)
       have q103 : x8_1 < (l0.length : Int) := of_decide_eq_true (by assumption)
       obtain ⟨ad103, e103, hx103_0⟩ := Kd.at_string HR0.out x8_1 p103 q103
       cases e103
       replace p103 := eq_true p103
       replace q103 := eq_true q103
       go_wp2
       go_ret
       exact ⟨by first | rfl | (simp; done) | (simp [*]; done), by repeat (first | exact Drawn0.refl _ | apply Drawn0.step)⟩
      ·rw [if_neg c6] at H
       have c6b0 : (a1.toList == (rdOf ByteArray.empty l0 x8_1).toList) = false := nb_ c6
       have c6b1 : (a1.toList != (rdOf ByteArray.empty l0 x8_1).toList) = true := bne_iff_ne.mpr c6
       have H' := a_ H
       clear H
       have p103 : 0 ≤ (x8_1 : Int) := of_decide_eq_true (by assumption)
       have q103 : x8_1 < (l0.length : Int) := of_decide_eq_true (by assumption)
       obtain ⟨ad103, e103, hx103_0⟩ := Kd.at_string HR0.out x8_1 p103 q103
       cases e103
       replace p103 := eq_true p103
       replace q103 := eq_true q103
       go_wp2
       go_roundg k1
       case measure => have := HK1.out; omega
       case rel => exact ⟨(wrap64 (x8_1 + 1)), (by first | rfl | (simp; done) | (simp [*]; done)), H', ⟨by have := HK1.out; omega⟩, by repeat (first | exact Drawn0.refl _ | apply Drawn0.step)⟩
     ·rw [if_neg c5] at H
      exact absurd H (by simp)
    ·rw [if_neg c4] at H
     exact absurd H (by simp)
   ·rw [if_neg c3] at H
    have c3b0 : decide (x8_1 < (l0.length : Int)) = false := decide_eq_false c3
    clear c3
    obtain rfl := Option.some.inj H
    go_wp2
    go_ret
    exact ⟨by first | rfl | (simp; done) | (simp [*]; done), by repeat (first | exact Drawn0.refl _ | apply Drawn0.step)⟩
def slices_Contains_string_string.f (k : Nat) (l0 : List ByteArray) (a1 : ByteArray) : Option (Bool) := (slices_Index_string_string.f k l0 a1).bind fun t104 => (some (decide (t104 ≥ 0)))
theorem slices_Contains_string_string.calls (k : Nat) (A0 : Option Addr) (c0 : Nat) (l0 : List ByteArray) (a1 : ByteArray) (r : Bool) (w : World) (hr0 : Kd.C Kd.string w A0 l0.length l0) (hc0 : l0.length ≤ c0) (h : slices_Contains_string_string.f k l0 a1 = some r) :
  Calls Tryz.prog 95 #[.slice A0 l0.length c0, .string a1] w fun e w' => e = .returned (.bool r) ∧ Drawn0 w w' := by
 have hf43_0 := field43_0
 have hf87_1 := field87_1
 have HR0 := a_ hr0
 have HC0 := a_ hc0
 clear hr0 hc0
 have H : ((slices_Index_string_string.f k l0 a1).bind fun t104 => (some (decide (t104 ≥ 0)))) = some r := h
 clear h
 replace H := Option.bind_eq_some_iff.mp H
 obtain ⟨t104, A30, H⟩ := H
 try dsimp only at H
 have A3 := a_ A30
 clear A30
 obtain rfl := Option.some.inj H
 go_enter Tryz.func95, Tryz.ntmps95
 go_wp2_with (first | ((with_reducible refine gate_callee (f := 116) rfl ?_); refine goesL_ (some 7) rfl rfl Tryz.func116 (by kernel_rfl) rfl #[.slice A0 l0.length c0, .string a1] rfl (by exact q1_) ?_; (with_reducible refine (slices_Index_string_string.calls k _ _ l0 a1 t104 _ ?side1 ?side2 A3.out).mono ?_); (case side1 => repeat (first | exact HR0.out | (with_reducible refine Kd.C_alloc ?_ _) | (with_reducible refine Kd.C_drewN ?_ _) | (with_reducible refine Kd.C_drew ?_))); (case side2 => exact HC0.out); rintro e w' ⟨rfl, ⟨nd, rfl⟩⟩; refine ⟨_, rfl, ?_⟩))
 go_ret
 exact ⟨by first | rfl | (simp; done) | (simp [*]; done), by repeat (first | exact Drawn0.refl _ | apply Drawn0.step)⟩
def nmL : List (List Nat) := [[58, 109, 101, 116, 104, 111, 100], [58, 112, 114, 111, 116, 111, 99, 111, 108], [58, 115, 99, 104, 101, 109, 101], [58, 112, 97, 116, 104], [58, 97, 117, 116, 104, 111, 114, 105, 116, 121], [115, 101, 99, 45, 119, 101, 98, 115, 111, 99, 107, 101, 116, 45, 118, 101, 114, 115, 105, 111, 110]]
def nmB (i : Nat) : ByteArray := ⟨((nmL.getD i []).map UInt8.ofNat).toArray⟩
theorem nm_of {s : ByteArray} {l : List Nat} (h : s.data.toList.map UInt8.toNat = l) : s = ⟨(l.map UInt8.ofNat).toArray⟩ := by
 apply ByteArray.ext
 apply Array.toList_inj.1
 rw [← h]
 simp [List.map_map, Function.comp_def]
theorem nm_apart (i j : Nat) (hi : i < 6) (hj : j < i) : ((nmB j).toList == (nmB i).toList) = false := by
 rw [ByteArray.toList_eq, ByteArray.toList_eq]
 have h : ∀ i : Fin 6, ∀ j : Fin 6, j < i → ((nmB j).data.toList == (nmB i).data.toList) = false := by decide +kernel
 exact h ⟨i, hi⟩ ⟨j, by omega⟩ (by simpa using hj)
def litsB : List ByteArray := [(⟨#[58, 109, 101, 116, 104, 111, 100]⟩ : ByteArray), (⟨#[58, 112, 114, 111, 116, 111, 99, 111, 108]⟩ : ByteArray), (⟨#[58, 115, 99, 104, 101, 109, 101]⟩ : ByteArray), (⟨#[58, 112, 97, 116, 104]⟩ : ByteArray), (⟨#[58, 97, 117, 116, 104, 111, 114, 105, 116, 121]⟩ : ByteArray)]
theorem nm_upper (i : Nat) (hi : i < 6) : tunnel_upper.f 40 (nmB i) = some false := by
 have h : ∀ i : Fin 6, tunnel_upper.f 40 (nmB i) = some false := by decide +kernel
 exact h ⟨i, hi⟩
theorem nm_full (i : Nat) (hi : i < 6) : ((nmB i).toList == ([] : List UInt8)) = false := by
 rw [ByteArray.toList_eq]
 have h : ∀ i : Fin 6, ((nmB i).data.toList == ([] : List UInt8)) = false := by decide +kernel
 exact h ⟨i, hi⟩
theorem nm_pseudo (i : Nat) (hi : i < 6) : tunnel_pseudo.f (nmB i) = some (decide (i < 5)) := by
 unfold tunnel_pseudo.f strings_HasPrefix.f stringslite_HasPrefix.f
 simp only [ByteArray.toList_eq]
 have h : i = 0 ∨ i = 1 ∨ i = 2 ∨ i = 3 ∨ i = 4 ∨ i = 5 := by omega
 rcases h with rfl | rfl | rfl | rfl | rfl | rfl <;> decide +kernel
theorem nm_contains (i : Nat) (hi : i < 5) : slices_Contains_string_string.f 10 litsB (nmB i) = some true := by
 have h : i = 0 ∨ i = 1 ∨ i = 2 ∨ i = 3 ∨ i = 4 := by omega
 unfold slices_Contains_string_string.f slices_Index_string_string.f
 rcases h with rfl | rfl | rfl | rfl | rfl <;> simp [slices_Index_string_string.l0, litsB, rdOf, ByteArray.toList_eq, nmB, nmL, wrap64]
theorem C_strs (W : World) (t : TypeId) (fr : Nat × Nat) (xs : List ByteArray) (hm : xs.length ≤ 9223372036854775807) : Kd.string.C (W.alloc (.cells (encs Value.string xs).toArray t fr)) (some ⟨W.heap.size, 0, none⟩) xs.length xs := by
 refine Kd.C_of_reads (d := ByteArray.empty) ⟨rfl, hm, fun _ => ⟨_, rfl, fun j hj => ?_⟩⟩
 rw [add_plain, World.cell?_alloc_mark]
 simp [encs, hj]
def RgtR (w : World) (mu : Nat) (pv iv : Value) (wr : World) : Prop := ∃ i : Nat, iv = .int .i64 (i : Nat) ∧ pv = .bool (decide (6 ≤ i)) ∧ i + mu = 6 ∧ Below w.heap.size w wr
theorem names_at {l : List S114} (h : (l.map fun x => x.f0.data.toList.map UInt8.toNat) = nmL) (i : Nat) (hi : i < 6) : l.length = 6 ∧ (rd_T114 l (i : Int)).f0 = nmB i ∧ (valC (nmB i) (l.take i)).2 = false := by
 have hlen : l.length = 6 := by
  have := congrArg List.length h
  simpa [nmL] using this
 have hat : ∀ j : Nat, j < 6 → ∃ x, l[j]? = some x ∧ x.f0 = nmB j := fun j hj => by
  have hj2 : j < l.length := by omega
  refine ⟨l[j], List.getElem?_eq_getElem hj2, ?_⟩
  have h2 := congrArg (fun z => z.getD j []) h
  simp only [List.getD_eq_getElem?_getD, List.getElem?_map, List.getElem?_eq_getElem hj2, Option.map_some, Option.getD_some] at h2
  rw [nm_of h2]
  unfold nmB
  rw [List.getD_eq_getElem?_getD]
 obtain ⟨x, hx, hxn⟩ := hat i hi
 refine ⟨hlen, ?_, ?_⟩
 ·unfold rd_T114
  rw [Int.toNat_natCast, List.getD_eq_getElem?_getD, hx]
  exact hxn
 ·rw [valC_none]
  intro j y hy
  have hj : j < i := by
   rcases Nat.lt_or_ge j i with h | h
   ·exact h
   ·rw [List.getElem?_eq_none (by rw [List.length_take]; omega)] at hy; cases hy
  rw [List.getElem?_take_of_lt hj] at hy
  obtain ⟨z, hz, hzn⟩ := hat j (by omega)
  rw [hz] at hy
  injection hy with hy
  subst hy
  unfold isNm
  rw [hzn]
  exact nm_apart i j hi hj
theorem right_six (A0 : Option Addr) (c0 : Nat) (l : List S114) (w : World) (hC : Kd.C k114 w A0 6 l) (hc : 6 ≤ c0) (hl : (l.map fun x => x.f0.data.toList.map UInt8.toNat) = nmL) :
  Calls Tryz.prog 62 #[.slice A0 6 c0] w fun e w' => e = .returned (.bool true) ∧ Below w.heap.size w w' := by
 have hu := Tryz.underlying114
 have HC := a_ hC
 have HL := a_ hl
 have HLN := a_ (names_at hl 0 (by decide)).1
 clear hC hl
 go_enter Tryz.func62, Tryz.ntmps62
 go_wp2_with fail
 go_loopg [3, 10] 6 (fun mu pv iv wr => RgtR w mu pv iv wr)
 case atStart => exact ⟨0, rfl, rfl, rfl, Below.refl _ _⟩
 case round =>
  obtain ⟨i, rfl, rfl, hi, hB⟩ := hrel
  have HB := a_ hB
  have HI := a_ hi
  clear hB hi
  by_cases hlt : i < 6
  ·have h6 : ¬ 6 ≤ i := by omega
   have h6b : decide (6 ≤ i) = false := decide_eq_false h6
   rw [h6b]
   obtain ⟨ad, rfl, e0, e1, e2⟩ := at_T114 (Kd.C_below HC.out HB.out) (i : Int) (by omega) (by omega)
   obtain ⟨x, hx⟩ : ∃ x, x = rd_T114 l (i : Int) := ⟨_, rfl⟩
   have hnm := names_at HL.out i hlt
   rw [← hx] at hnm
   rw [← hx, Int.toNat_natCast] at e0 e1 e2
   obtain ⟨nm, n1, nb⟩ := x
   simp only at e0 e1 e2 hnm
   have HU := a_ (show tunnel_upper.f 40 nm = some false by rw [hnm.2.1]; exact nm_upper i hlt)
   have hfull : (nm.toList == ([] : List UInt8)) = false := by rw [hnm.2.1]; exact nm_full i hlt
   have HP := a_ (show tunnel_pseudo.f nm = some (decide (i < 5)) by rw [hnm.2.1]; exact nm_pseudo i hlt)
   have HCN := a_ (show i < 5 → slices_Contains_string_string.f 10 litsB nm = some true from fun h => by rw [hnm.2.1]; exact nm_contains i h)
   have HV := a_ (show (valC nm (l.take i)).2 = false by rw [hnm.2.1]; exact hnm.2.2)
   clear hnm hx
   go_upto_region 5 with fail
   have hbW : Below wr.heap.size wr (wr.alloc (.cells #[.string nm, .string n1, .bool nb] 114)) := below_alloc (Below.refl _ _) _
   have hbx : (wr.alloc (.cells #[.string nm, .string n1, .bool nb] 114)).heap[wr.heap.size]? = some (.cells #[.string nm, .string n1, .bool nb] 114 (0, 0)) := last_at _ _ _ rfl
   generalize wr.alloc (.cells #[.string nm, .string n1, .bool nb] 114) = W at hbW hbx ⊢
   obtain ⟨gb, hgb⟩ : ∃ gb, gb = wr.heap.size := ⟨_, rfl⟩
   rw [← hgb] at hbx ⊢
   have HBW := a_ (below_step HB.out hbW)
   have HBX := a_ hbx
   have y0 : W.cell? ⟨gb, 0, none⟩ = some (.string nm) := (blk_cell hbx 0).trans rfl
   clear hgb hbW hbx e0 e1 e2 HB
   go_wp2_with fail
   refine (tunnel_upper.calls 40 nm false _ HU.out).mono ?_
   rintro e w2 ⟨rfl, hdr⟩
   have HB2 := a_ (below_step HBW.out hdr.below)
   have HBX2 := a_ (blk_below HBX.out hdr.below)
   have z0 : w2.cell? ⟨gb, 0, none⟩ = some (.string nm) := (blk_cell HBX2.out 0).trans rfl
   clear hdr y0 HBX HBW
   go_wp2_with fail
   refine (tunnel_pseudo.calls nm _ _ HP.out).mono ?_
   rintro e w3 ⟨rfl, hdr⟩
   have HB3 := a_ (below_step HB2.out hdr.below)
   have HBX3 := a_ (blk_below HBX2.out hdr.below)
   have v0 : w3.cell? ⟨gb, 0, none⟩ = some (.string nm) := (blk_cell HBX3.out 0).trans rfl
   clear hdr z0 HBX2 HB2
   by_cases h5 : i < 5
   ·have h5b : decide (i < 5) = true := decide_eq_true h5
    rw [h5b]
    have hbl : Below w3.heap.size w3 (w3.alloc (.cells #[.string ⟨#[58, 109, 101, 116, 104, 111, 100]⟩, .string ⟨#[58, 112, 114, 111, 116, 111, 99, 111, 108]⟩, .string ⟨#[58, 115, 99, 104, 101, 109, 101]⟩, .string ⟨#[58, 112, 97, 116, 104]⟩, .string ⟨#[58, 97, 117, 116, 104, 111, 114, 105, 116, 121]⟩] 9)) := below_alloc (Below.refl _ _) _
    have HCL : Aside0 (Kd.string.C (w3.alloc (.cells #[.string ⟨#[58, 109, 101, 116, 104, 111, 100]⟩, .string ⟨#[58, 112, 114, 111, 116, 111, 99, 111, 108]⟩, .string ⟨#[58, 115, 99, 104, 101, 109, 101]⟩, .string ⟨#[58, 112, 97, 116, 104]⟩, .string ⟨#[58, 97, 117, 116, 104, 111, 114, 105, 116, 121]⟩] 9)) (some ⟨w3.heap.size, 0, none⟩) litsB.length litsB) := ⟨C_strs w3 9 (0, 0) litsB (by decide)⟩
    have v1 : (w3.alloc (.cells #[.string ⟨#[58, 109, 101, 116, 104, 111, 100]⟩, .string ⟨#[58, 112, 114, 111, 116, 111, 99, 111, 108]⟩, .string ⟨#[58, 115, 99, 104, 101, 109, 101]⟩, .string ⟨#[58, 112, 97, 116, 104]⟩, .string ⟨#[58, 97, 117, 116, 104, 111, 114, 105, 116, 121]⟩] 9)).cell? ⟨gb, 0, none⟩ = some (.string nm) := (hbl.cell (World.block_lt_of_cell? _ _ v0)).trans v0
    have HB4 := a_ (below_step HB3.out hbl)
    have HBX4 := a_ (blk_below HBX3.out hbl)
    clear hbl v0 HB3 HBX3
    go_wp2_with fail
    refine (slices_Contains_string_string.calls 10 (some ⟨w3.heap.size, 0, none⟩) 5 litsB nm true _ HCL.out (by decide) (HCN.out h5)).mono ?_
    rintro e w5 ⟨rfl, hdr⟩
    have HB5 := a_ (below_step HB4.out hdr.below)
    have HBX5 := a_ (blk_below HBX4.out hdr.below)
    clear hdr v1 HBX4 HB4 HCL
    have z0 : w5.cell? ⟨gb, 0, none⟩ = some (.string nm) := (blk_cell HBX5.out 0).trans rfl
    have hil : (i : Int) ≤ 6 := by omega
    have hi0 : (0 : Int) ≤ (i : Int) := by omega
    have hic : (i : Int) ≤ (c0 : Int) := by omega
    have htk : (l.take i).length = i := by rw [List.length_take, HLN.out]; omega
    have HCT := a_ (show Kd.C k114 w (some ad) (l.take i).length (l.take i) from by
     have h := Kd.C_take (m := i) (HLN.out.symm ▸ HC.out : Kd.C k114 w (some ad) l.length l) (by rw [HLN.out]; omega)
     exact h)
    go_wp2_with fail
    go_region_with (go_at_call 61; with_reducible refine (calls_of_args ?ha (value_any (some ad) c0 (l.take i) nm _ (Kd.C_below HCT.out (below_step HB5.out (below_drew (Below.refl _ _)))) (by rw [htk]; omega) (by rw [htk]; omega))).mono ?_; (case ha => rw [htk]); rintro e w6 ⟨rfl, hb⟩)
    all_goals (simp only [Act.put, List.getElem_toArray, List.getElem_cons_zero, List.getElem_cons_succ, z1_, z2_, z3_])
    all_goals
     have HB6 := a_ (below_step (below_step HB5.out (below_drew (Below.refl _ _))) hb)
     rw [HV.out]
     clear hb z0 HBX5 HB5
     go_wp2_with fail
     go_roundg (6 - (i + 1))
     case measure => have := HI.out; omega
     case rel => exact ⟨i + 1, by rw [show ((i + 1 : Nat) : Int) = (i : Int) + 1 by omega], by rw [decide_eq_false (show ¬ 6 ≤ i + 1 by omega)], by omega, HB6.out⟩
   ·have h5b : decide (i < 5) = false := decide_eq_false h5
    rw [h5b]
    clear v0
    go_wp2_with fail
    go_roundg (6 - (i + 1))
    case measure => have := HI.out; omega
    case rel => exact ⟨i + 1, by rw [show ((i + 1 : Nat) : Int) = (i : Int) + 1 by omega], by rw [decide_eq_true (show 6 ≤ i + 1 by omega)], by omega, HB3.out⟩
  ·have hie : i = 6 := by have := HI.out; omega
   subst hie
   go_wp2_with fail
   go_ret
   exact ⟨rfl, HB.out⟩
def tunnel_right.f (l0 : List S114) : Option Bool := if (l0.map fun x => x.f0.data.toList.map UInt8.toNat) = nmL then some true else none
theorem tunnel_right.calls (A0 : Option Addr) (c0 : Nat) (l0 : List (S114)) (r : Bool) (w : World) (hr0 : Kd.C k114 w A0 l0.length l0) (hc0 : l0.length ≤ c0) (h : tunnel_right.f l0 = some r) :
  Calls Tryz.prog 62 #[.slice A0 l0.length c0] w fun e w' => e = .returned (.bool r) ∧ Below w.heap.size w w' := by
 have hf43_0 := field43_0
 have hf87_1 := field87_1
 unfold tunnel_right.f at h
 have hl : (l0.map fun x => x.f0.data.toList.map UInt8.toNat) = nmL := by
  by_cases hb : (l0.map fun x => x.f0.data.toList.map UInt8.toNat) = nmL
  ·exact hb
  ·rw [if_neg hb] at h; cases h
 rw [if_pos hl] at h
 obtain rfl := Option.some.inj h
 have hlen := (names_at hl 0 (by decide)).1
 rw [hlen] at hr0 hc0 ⊢
 exact right_six A0 c0 l0 w hr0 hc0 hl
end Go.Proofs.YtpmeapdcjmaeiaaGreatDoor.PAll

namespace Go.Proofs.YtpmeapdcjmaeiaaGreatDoor.PAll
open Go.RowKit Go.Wa Go.Wb Go.Wc
attribute [local go_sem] max2_int min2_int max_two min_two max_three min_three max_four min_four
mutual
def tunnel_Check.j0 : Nat → List (S114) → ByteArray → Bool → Option (Int)
 | 0, _, _, _ => none
 | k + 1, x0, x3, x54 => if x54 = true then (some 400) else (if x3.toList = ([67, 79, 78, 78, 69, 67, 84] : List UInt8) then ((tunnel_value.f x0 (⟨#[58, 112, 114, 111, 116, 111, 99, 111, 108]⟩ : ByteArray)).bind fun bt114 => (if bt114.1.toList = ([119, 101, 98, 115, 111, 99, 107, 101, 116] : List UInt8) then (tunnel_Check.l0 k 0 x0 (x0.length : Int) 0) else (some 501))) else (some 405))
def tunnel_Check.l0 : Nat → Int → List (S114) → Int → Int → Option (Int)
 | 0, _, _, _, _ => none
 | k + 1, x13, x64, x65, x66 => if x66 < x65 then (if 0 ≤ x66 then (if x66 < (x64.length : Int) then (if ((rd_T114 x64 x66).f0).toList = ([115, 101, 99, 45, 119, 101, 98, 115, 111, 99, 107, 101, 116, 45, 118, 101, 114, 115, 105, 111, 110] : List UInt8) then (if ((rd_T114 x64 x66).f1).toList = ([49, 51] : List UInt8) then (tunnel_Check.l0 k (wrap64 (x13 + 1)) x64 x65 (wrap64 (x66 + 1))) else (some 426)) else (tunnel_Check.l0 k x13 x64 x65 (wrap64 (x66 + 1)))) else (none)) else (none)) else (if x13 = 0 then (some 426) else (some 200))
end
def tunnel_Check.f (k : Nat) (l0 : List (S114)) : Option (Int) := (tunnel_value.f l0 (⟨#[58, 109, 101, 116, 104, 111, 100]⟩ : ByteArray)).bind fun bt105 => ((tunnel_value.f l0 (⟨#[58, 115, 99, 104, 101, 109, 101]⟩ : ByteArray)).bind fun bt107 => ((tunnel_value.f l0 (⟨#[58, 112, 97, 116, 104]⟩ : ByteArray)).bind fun bt109 => ((tunnel_value.f l0 (⟨#[58, 97, 117, 116, 104, 111, 114, 105, 116, 121]⟩ : ByteArray)).bind fun bt111 => ((tunnel_right.f l0).bind fun t113 => (if t113 = true then (if bt105.2 = true then (if bt107.2 = true then (if bt109.1.toList = ([] : List UInt8) then (tunnel_Check.j0 k l0 bt105.1 true) else (tunnel_Check.j0 k l0 bt105.1 (bt111.1.toList == ([] : List UInt8)))) else (tunnel_Check.j0 k l0 bt105.1 true)) else (tunnel_Check.j0 k l0 bt105.1 true)) else (tunnel_Check.j0 k l0 bt105.1 true))))))
theorem tunnel_Check.calls (k : Nat) (A0 : Option Addr) (c0 : Nat) (l0 : List (S114)) (r : Int) (w : World) (hr0 : Kd.C k114 w A0 l0.length l0) (hc0 : l0.length ≤ c0) (h : tunnel_Check.f k l0 = some r) :
  Calls Tryz.prog 28 #[.slice A0 l0.length c0] w fun e w' => e = .returned (.int .u32 r) ∧ Below w.heap.size w w' := by
 have hf43_0 := field43_0
 have hf87_1 := field87_1
 have hu114 := Tryz.underlying114
 have HR0 := a_ hr0
 have HC0 := a_ hc0
 clear hr0 hc0
 have HB := a_ (Below.refl w.heap.size w)
 have H : ((tunnel_value.f l0 (⟨#[58, 109, 101, 116, 104, 111, 100]⟩ : ByteArray)).bind fun bt105 => ((tunnel_value.f l0 (⟨#[58, 115, 99, 104, 101, 109, 101]⟩ : ByteArray)).bind fun bt107 => ((tunnel_value.f l0 (⟨#[58, 112, 97, 116, 104]⟩ : ByteArray)).bind fun bt109 => ((tunnel_value.f l0 (⟨#[58, 97, 117, 116, 104, 111, 114, 105, 116, 121]⟩ : ByteArray)).bind fun bt111 => ((tunnel_right.f l0).bind fun t113 => (if t113 = true then (if bt105.2 = true then (if bt107.2 = true then (if bt109.1.toList = ([] : List UInt8) then (tunnel_Check.j0 k l0 bt105.1 true) else (tunnel_Check.j0 k l0 bt105.1 (bt111.1.toList == ([] : List UInt8)))) else (tunnel_Check.j0 k l0 bt105.1 true)) else (tunnel_Check.j0 k l0 bt105.1 true)) else (tunnel_Check.j0 k l0 bt105.1 true))))))) = some r := h
 clear h
 replace H := Option.bind_eq_some_iff.mp H
 obtain ⟨⟨t105, t106⟩, A20, H⟩ := H
 try dsimp only at H
 have A2 := a_ A20
 clear A20
 replace H := Option.bind_eq_some_iff.mp H
 obtain ⟨⟨t107, t108⟩, A30, H⟩ := H
 try dsimp only at H
 have A3 := a_ A30
 clear A30
 replace H := Option.bind_eq_some_iff.mp H
 obtain ⟨⟨t109, t110⟩, A40, H⟩ := H
 try dsimp only at H
 have A4 := a_ A40
 clear A40
 replace H := Option.bind_eq_some_iff.mp H
 obtain ⟨⟨t111, t112⟩, A50, H⟩ := H
 try dsimp only at H
 have A5 := a_ A50
 clear A50
 have HC6 := a_ H
 clear H
 go_enter Tryz.func28, Tryz.ntmps28
 go_upto_region 5 with (first | ((with_reducible refine gate_callee (f := 61) rfl ?_); refine goesL_ (some 18) rfl rfl Tryz.func61 (by kernel_rfl) rfl #[.slice A0 l0.length c0, .string (⟨#[58, 109, 101, 116, 104, 111, 100]⟩ : ByteArray)] rfl (by exact q1_) ?_; (with_reducible refine (tunnel_value.calls _ _ l0 (⟨#[58, 109, 101, 116, 104, 111, 100]⟩ : ByteArray) t105 t106 _ ?side1 ?side2 A2.out).mono ?_); (case side1 => repeat (first | exact HR0.out | (with_reducible refine Kd.C_alloc ?_ _) | (with_reducible refine Kd.C_drewN ?_ _) | (with_reducible refine Kd.C_drew ?_))); (case side2 => exact HC0.out); rintro e w7 ⟨rfl, hb⟩; refine ⟨_, rfl, ?_⟩; replace HB := a_ (below_step (by exact q2_ HB.out) hb); (try clear hb); (try clear hb2); (try clear hk); (try clear hi)) | ((with_reducible refine gate_callee (f := 61) rfl ?_); refine goesL_ (some 23) rfl rfl Tryz.func61 (by kernel_rfl) rfl #[.slice A0 l0.length c0, .string (⟨#[58, 115, 99, 104, 101, 109, 101]⟩ : ByteArray)] rfl (by exact q1_) ?_; (with_reducible refine (tunnel_value.calls _ _ l0 (⟨#[58, 115, 99, 104, 101, 109, 101]⟩ : ByteArray) t107 t108 _ ?side1 ?side2 A3.out).mono ?_); (case side1 => repeat (first | exact (Kd.C_below HR0.out HB.out) | (with_reducible refine Kd.C_alloc ?_ _) | (with_reducible refine Kd.C_drewN ?_ _) | (with_reducible refine Kd.C_drew ?_))); (case side2 => exact HC0.out); rintro e w8 ⟨rfl, hb⟩; refine ⟨_, rfl, ?_⟩; replace HB := a_ (below_step (by exact q2_ HB.out) hb); (try clear hb); (try clear hb2); (try clear hk); (try clear hi)) | ((with_reducible refine gate_callee (f := 61) rfl ?_); refine goesL_ (some 28) rfl rfl Tryz.func61 (by kernel_rfl) rfl #[.slice A0 l0.length c0, .string (⟨#[58, 112, 97, 116, 104]⟩ : ByteArray)] rfl (by exact q1_) ?_; (with_reducible refine (tunnel_value.calls _ _ l0 (⟨#[58, 112, 97, 116, 104]⟩ : ByteArray) t109 t110 _ ?side1 ?side2 A4.out).mono ?_); (case side1 => repeat (first | exact (Kd.C_below HR0.out HB.out) | (with_reducible refine Kd.C_alloc ?_ _) | (with_reducible refine Kd.C_drewN ?_ _) | (with_reducible refine Kd.C_drew ?_))); (case side2 => exact HC0.out); rintro e w9 ⟨rfl, hb⟩; refine ⟨_, rfl, ?_⟩; replace HB := a_ (below_step (by exact q2_ HB.out) hb); (try clear hb); (try clear hb2); (try clear hk); (try clear hi)) | ((with_reducible refine gate_callee (f := 61) rfl ?_); refine goesL_ (some 33) rfl rfl Tryz.func61 (by kernel_rfl) rfl #[.slice A0 l0.length c0, .string (⟨#[58, 97, 117, 116, 104, 111, 114, 105, 116, 121]⟩ : ByteArray)] rfl (by exact q1_) ?_; (with_reducible refine (tunnel_value.calls _ _ l0 (⟨#[58, 97, 117, 116, 104, 111, 114, 105, 116, 121]⟩ : ByteArray) t111 t112 _ ?side1 ?side2 A5.out).mono ?_); (case side1 => repeat (first | exact (Kd.C_below HR0.out HB.out) | (with_reducible refine Kd.C_alloc ?_ _) | (with_reducible refine Kd.C_drewN ?_ _) | (with_reducible refine Kd.C_drew ?_))); (case side2 => exact HC0.out); rintro e w10 ⟨rfl, hb⟩; refine ⟨_, rfl, ?_⟩; replace HB := a_ (below_step (by exact q2_ HB.out) hb); (try clear hb); (try clear hb2); (try clear hk); (try clear hi)))
 (try simp only [Act.put, z1_, z2_, z3_])
 go_cut [54] (fun v54 wc => ∃ (kq : Nat) (x54_5 : Bool), v54 = .bool x54_5 ∧ Aside0 (tunnel_Check.j0 kq l0 t105 x54_5 = some r) ∧ Aside0 (kq ≤ k) ∧ Aside0 (Below w.heap.size w wc))
 case first =>
  have H := HC6.out
  clear HC6
  replace H := Option.bind_eq_some_iff.mp H
  obtain ⟨t113, A110, H⟩ := H
  try dsimp only at H
  have A11 := a_ A110
  clear A110
  by_cases c12 : t113 = true
  ·subst c12
   rw [if_pos rfl] at H
   by_cases c13 : t106 = true
   ·subst c13
    rw [if_pos rfl] at H
    by_cases c14 : t108 = true
    ·subst c14
     rw [if_pos rfl] at H
     by_cases c15 : t109.toList = ([] : List UInt8)
     ·rw [if_pos c15] at H
      have c15b0 : (t109.toList == ([] : List UInt8)) = true := beq_iff_eq.mpr c15
      have c15b1 : (t109.toList != ([] : List UInt8)) = false := bne_eq_false_iff_eq.mpr c15
      clear c15
      (first | rw [c15b0] | (simp only [i64_w, i32_w]; rw [c15b0]) | skip)
      have H' := a_ H
      clear H
      go_wp2_with (first | ((with_reducible refine gate_callee (f := 62) rfl ?_); refine goesL_ (some 37) rfl rfl Tryz.func62 (by kernel_rfl) rfl #[.slice A0 l0.length c0] rfl (by exact q1_) ?_; (with_reducible refine (tunnel_right.calls _ _ l0 true _ ?side1 ?side2 A11.out).mono ?_); (case side1 => repeat (first | exact (Kd.C_below HR0.out HB.out) | (with_reducible refine Kd.C_alloc ?_ _) | (with_reducible refine Kd.C_drewN ?_ _) | (with_reducible refine Kd.C_drew ?_))); (case side2 => exact HC0.out); rintro e w16 ⟨rfl, hb⟩; refine ⟨_, rfl, ?_⟩; replace HB := a_ (below_step (by exact q2_ HB.out) hb); (try clear hb); (try clear hb2); (try clear hk); (try clear hi)))
      go_meet
      case rel => exact ⟨_, (true), (by first | rfl | (simp; done) | (simp [*]; done)), H', ⟨by first | omega | exact Nat.le_refl _⟩, ⟨by exact q2_ HB.out⟩⟩
     ·rw [if_neg c15] at H
      have c15b0 : (t109.toList == ([] : List UInt8)) = false := nb_ c15
      have c15b1 : (t109.toList != ([] : List UInt8)) = true := bne_iff_ne.mpr c15
      (first | rw [c15b0] | (simp only [i64_w, i32_w]; rw [c15b0]) | skip)
      have H' := a_ H
      clear H
      go_wp2_with (first | ((with_reducible refine gate_callee (f := 62) rfl ?_); refine goesL_ (some 37) rfl rfl Tryz.func62 (by kernel_rfl) rfl #[.slice A0 l0.length c0] rfl (by exact q1_) ?_; (with_reducible refine (tunnel_right.calls _ _ l0 true _ ?side1 ?side2 A11.out).mono ?_); (case side1 => repeat (first | exact (Kd.C_below HR0.out HB.out) | (with_reducible refine Kd.C_alloc ?_ _) | (with_reducible refine Kd.C_drewN ?_ _) | (with_reducible refine Kd.C_drew ?_))); (case side2 => exact HC0.out); rintro e w17 ⟨rfl, hb⟩; refine ⟨_, rfl, ?_⟩; replace HB := a_ (below_step (by exact q2_ HB.out) hb); (try clear hb); (try clear hb2); (try clear hk); (try clear hi)))
      go_meet
      case rel => exact ⟨_, ((t111.toList == ([] : List UInt8))), (by first | rfl | (simp; done) | (simp [*]; done)), H', ⟨by first | omega | exact Nat.le_refl _⟩, ⟨by exact q2_ HB.out⟩⟩
    ·replace c14 := Bool.eq_false_iff.mpr c14
     subst c14
     rw [if_neg (show ¬ (false = true) by decide)] at H
     have H' := a_ H
     clear H
     go_wp2_with (first | ((with_reducible refine gate_callee (f := 62) rfl ?_); refine goesL_ (some 37) rfl rfl Tryz.func62 (by kernel_rfl) rfl #[.slice A0 l0.length c0] rfl (by exact q1_) ?_; (with_reducible refine (tunnel_right.calls _ _ l0 true _ ?side1 ?side2 A11.out).mono ?_); (case side1 => repeat (first | exact (Kd.C_below HR0.out HB.out) | (with_reducible refine Kd.C_alloc ?_ _) | (with_reducible refine Kd.C_drewN ?_ _) | (with_reducible refine Kd.C_drew ?_))); (case side2 => exact HC0.out); rintro e w18 ⟨rfl, hb⟩; refine ⟨_, rfl, ?_⟩; replace HB := a_ (below_step (by exact q2_ HB.out) hb); (try clear hb); (try clear hb2); (try clear hk); (try clear hi)))
     go_meet
     case rel => exact ⟨_, (true), (by first | rfl | (simp; done) | (simp [*]; done)), H', ⟨by first | omega | exact Nat.le_refl _⟩, ⟨by exact q2_ HB.out⟩⟩
   ·replace c13 := Bool.eq_false_iff.mpr c13
    subst c13
    rw [if_neg (show ¬ (false = true) by decide)] at H
    have H' := a_ H
    clear H
    go_wp2_with (first | ((with_reducible refine gate_callee (f := 62) rfl ?_); refine goesL_ (some 37) rfl rfl Tryz.func62 (by kernel_rfl) rfl #[.slice A0 l0.length c0] rfl (by exact q1_) ?_; (with_reducible refine (tunnel_right.calls _ _ l0 true _ ?side1 ?side2 A11.out).mono ?_); (case side1 => repeat (first | exact (Kd.C_below HR0.out HB.out) | (with_reducible refine Kd.C_alloc ?_ _) | (with_reducible refine Kd.C_drewN ?_ _) | (with_reducible refine Kd.C_drew ?_))); (case side2 => exact HC0.out); rintro e w19 ⟨rfl, hb⟩; refine ⟨_, rfl, ?_⟩; replace HB := a_ (below_step (by exact q2_ HB.out) hb); (try clear hb); (try clear hb2); (try clear hk); (try clear hi)))
    go_meet
    case rel => exact ⟨_, (true), (by first | rfl | (simp; done) | (simp [*]; done)), H', ⟨by first | omega | exact Nat.le_refl _⟩, ⟨by exact q2_ HB.out⟩⟩
  ·replace c12 := Bool.eq_false_iff.mpr c12
   subst c12
   rw [if_neg (show ¬ (false = true) by decide)] at H
   have H' := a_ H
   clear H
   go_wp2_with (first | ((with_reducible refine gate_callee (f := 62) rfl ?_); refine goesL_ (some 37) rfl rfl Tryz.func62 (by kernel_rfl) rfl #[.slice A0 l0.length c0] rfl (by exact q1_) ?_; (with_reducible refine (tunnel_right.calls _ _ l0 false _ ?side1 ?side2 A11.out).mono ?_); (case side1 => repeat (first | exact (Kd.C_below HR0.out HB.out) | (with_reducible refine Kd.C_alloc ?_ _) | (with_reducible refine Kd.C_drewN ?_ _) | (with_reducible refine Kd.C_drew ?_))); (case side2 => exact HC0.out); rintro e w20 ⟨rfl, hb⟩; refine ⟨_, rfl, ?_⟩; replace HB := a_ (below_step (by exact q2_ HB.out) hb); (try clear hb); (try clear hb2); (try clear hk); (try clear hi)))
   go_meet
   case rel => exact ⟨_, (true), (by first | rfl | (simp; done) | (simp [*]; done)), H', ⟨by first | omega | exact Nat.le_refl _⟩, ⟨by exact q2_ HB.out⟩⟩
 case rest =>
  clear HC6
  try clear c12
  try clear c13
  try clear c14
  try clear c15
  try clear c15b0
  try clear c15b1
  obtain ⟨kq, x54_5, rfl, HA, HJ5, HB⟩ := hcut
  cases kq with
  | zero => exact absurd HA.out (by simp [tunnel_Check.j0])
  | succ kj5 =>
   have H := HA.out
   clear HA
   simp only [tunnel_Check.j0] at H
   by_cases c21 : x54_5 = true
   ·subst c21
    rw [if_pos rfl] at H
    obtain rfl := Option.some.inj H
    go_wp2
    go_ret
    exact ⟨by exact q12_, by exact q2_ HB.out⟩
   ·replace c21 := Bool.eq_false_iff.mpr c21
    subst c21
    rw [if_neg (show ¬ (false = true) by decide)] at H
    by_cases c22 : t105.toList = ([67, 79, 78, 78, 69, 67, 84] : List UInt8)
    ·rw [if_pos c22] at H
     have c22b0 : (t105.toList == ([67, 79, 78, 78, 69, 67, 84] : List UInt8)) = true := beq_iff_eq.mpr c22
     have c22b1 : (t105.toList != ([67, 79, 78, 78, 69, 67, 84] : List UInt8)) = false := bne_eq_false_iff_eq.mpr c22
     clear c22
     replace H := Option.bind_eq_some_iff.mp H
     obtain ⟨⟨t114, t115⟩, A230, H⟩ := H
     try dsimp only at H
     have A23 := a_ A230
     clear A230
     by_cases c24 : t114.toList = ([119, 101, 98, 115, 111, 99, 107, 101, 116] : List UInt8)
     ·rw [if_pos c24] at H
      have c24b0 : (t114.toList == ([119, 101, 98, 115, 111, 99, 107, 101, 116] : List UInt8)) = true := beq_iff_eq.mpr c24
      have c24b1 : (t114.toList != ([119, 101, 98, 115, 111, 99, 107, 101, 116] : List UInt8)) = false := bne_eq_false_iff_eq.mpr c24
      clear c24
      have H' := a_ H
      clear H
      go_wp2_with (first | ((with_reducible refine gate_callee (f := 61) rfl ?_); refine goesL_ (some 59) rfl rfl Tryz.func61 (by kernel_rfl) rfl #[.slice A0 l0.length c0, .string (⟨#[58, 112, 114, 111, 116, 111, 99, 111, 108]⟩ : ByteArray)] rfl (by exact q1_) ?_; (with_reducible refine (tunnel_value.calls _ _ l0 (⟨#[58, 112, 114, 111, 116, 111, 99, 111, 108]⟩ : ByteArray) t114 t115 _ ?side1 ?side2 A23.out).mono ?_); (case side1 => repeat (first | exact (Kd.C_below HR0.out HB.out) | (with_reducible refine Kd.C_alloc ?_ _) | (with_reducible refine Kd.C_drewN ?_ _) | (with_reducible refine Kd.C_drew ?_))); (case side2 => exact HC0.out); rintro e w25 ⟨rfl, hb⟩; refine ⟨_, rfl, ?_⟩; replace HB := a_ (below_step (by exact q2_ HB.out) hb); (try clear hb); (try clear hb2); (try clear hk); (try clear hi)))
      go_loopg [13, 66] kj5 (fun kq v13 v66 w' => ∃ (x13_2 : Int) (x66_2 : Int), v13 = .int .i64 x13_2 ∧ v66 = .int .i64 x66_2 ∧ Aside0 (tunnel_Check.l0 kq x13_2 l0 (l0.length : Int) x66_2 = some r) ∧ Aside0 (kq ≤ kj5) ∧ Aside0 (Below w.heap.size w w'))
      case atStart => exact ⟨(0), (0), (by first | rfl | (simp; done) | (simp [*]; done)), (by first | rfl | (simp; done) | (simp [*]; done)), H', ⟨Nat.le_refl _⟩, ⟨by exact q2_ HB.out⟩⟩
      case round =>
       clear H'
       try clear c12
       try clear c13
       try clear c14
       try clear c15
       try clear c15b0
       try clear c15b1
       try clear c21
       try clear c22
       try clear c22b0
       try clear c22b1
       try clear c24
       try clear c24b0
       try clear c24b1
       obtain ⟨x13_2, x66_2, rfl, rfl, HA, HK2, HB⟩ := hrel
       cases gk with
       | zero => exact absurd HA.out (by simp [tunnel_Check.l0])
       | succ k2 =>
        have H := HA.out
        clear HA
        simp only [tunnel_Check.l0] at H
        by_cases c26 : x66_2 < (l0.length : Int)
        ·rw [if_pos c26] at H
         have c26b0 : decide (x66_2 < (l0.length : Int)) = true := decide_eq_true c26
         clear c26
         by_cases c27 : 0 ≤ x66_2
         ·rw [if_pos c27] at H
          have c27b0 : decide (0 ≤ x66_2) = true := decide_eq_true c27
          clear c27
          by_cases c28 : x66_2 < (l0.length : Int)
          ·rw [if_pos c28] at H
           have c28b0 : decide (x66_2 < (l0.length : Int)) = true := decide_eq_true c28
           clear c28
           by_cases c29 : ((rd_T114 l0 x66_2).f0).toList = ([115, 101, 99, 45, 119, 101, 98, 115, 111, 99, 107, 101, 116, 45, 118, 101, 114, 115, 105, 111, 110] : List UInt8)
           ·rw [if_pos c29] at H
            have c29b0 : (((rd_T114 l0 x66_2).f0).toList == ([115, 101, 99, 45, 119, 101, 98, 115, 111, 99, 107, 101, 116, 45, 118, 101, 114, 115, 105, 111, 110] : List UInt8)) = true := beq_iff_eq.mpr c29
            have c29b1 : (((rd_T114 l0 x66_2).f0).toList != ([115, 101, 99, 45, 119, 101, 98, 115, 111, 99, 107, 101, 116, 45, 118, 101, 114, 115, 105, 111, 110] : List UInt8)) = false := bne_eq_false_iff_eq.mpr c29
            clear c29
            by_cases c30 : ((rd_T114 l0 x66_2).f1).toList = ([49, 51] : List UInt8)
            ·rw [if_pos c30] at H
             have c30b0 : (((rd_T114 l0 x66_2).f1).toList == ([49, 51] : List UInt8)) = true := beq_iff_eq.mpr c30
             have c30b1 : (((rd_T114 l0 x66_2).f1).toList != ([49, 51] : List UInt8)) = false := bne_eq_false_iff_eq.mpr c30
             clear c30
             have H' := a_ H
             clear H
             have p116 : 0 ≤ (x66_2 : Int) := of_decide_eq_true (by assumption)
             have q116 : x66_2 < (l0.length : Int) := of_decide_eq_true (by assumption)
             obtain ⟨ad116, e116, hx116_0, hx116_1, hx116_2⟩ := at_T114 HR0.out x66_2 p116 q116
             cases e116
             replace hx116_0 := (HB.out.cell (World.block_lt_of_cell? w _ hx116_0)).trans hx116_0
             replace hx116_1 := (HB.out.cell (World.block_lt_of_cell? w _ hx116_1)).trans hx116_1
             replace hx116_2 := (HB.out.cell (World.block_lt_of_cell? w _ hx116_2)).trans hx116_2
             replace p116 := eq_true p116
             replace q116 := eq_true q116
             go_wp2_with (first | ((with_reducible refine gate_dst (N := 15) rfl ?_); refine box_event ?hg (N := 15) ?hd (cs := #[.string (⟨#[]⟩ : ByteArray), .string (⟨#[]⟩ : ByteArray), .bool false]) (t := 114) ?hr ?_; (case hd => rfl); (case hg => rfl); (case hr => first | (go_simp; done) | (go_simp; rfl)); intro gb117 hg w31 hbox hb; obtain ⟨HB, BK117, GW117, GE117⟩ := And.intro (a_ (below_step (by exact q2_ HB.out) hb)) (And.intro (a_ (hbox)) (And.intro (a_ ((by rw [hg]; exact (below_size (by exact q2_ HB.out)) : w.heap.size ≤ gb117))) (a_ ((by rw [hg]; exact (below_size (by exact q2_ HB.out)) : w.heap.size ≤ gb117))))); clear hb hbox hg; obtain ⟨hcz32_0, hfz32_0, hcz32_1, hfz32_1, hcz32_2, hfz32_2⟩ := xf3_ BK117.out))
             go_roundg k2
             case measure => have := HJ5.out; have := HK2.out; omega
             case rel => exact ⟨(wrap64 (x13_2 + 1)), (wrap64 (x66_2 + 1)), (by first | rfl | (simp; done) | (simp [*]; done)), (by first | rfl | (simp; done) | (simp [*]; done)), H', ⟨by have := HJ5.out; have := HK2.out; omega⟩, ⟨by exact q3_ HB.out GE117.out⟩⟩
            ·rw [if_neg c30] at H
             have c30b0 : (((rd_T114 l0 x66_2).f1).toList == ([49, 51] : List UInt8)) = false := nb_ c30
             have c30b1 : (((rd_T114 l0 x66_2).f1).toList != ([49, 51] : List UInt8)) = true := bne_iff_ne.mpr c30
             obtain rfl := Option.some.inj H
             have p116 : 0 ≤ (x66_2 : Int) := of_decide_eq_true (by assumption)
             have q116 : x66_2 < (l0.length : Int) := of_decide_eq_true (by assumption)
             obtain ⟨ad116, e116, hx116_0, hx116_1, hx116_2⟩ := at_T114 HR0.out x66_2 p116 q116
             cases e116
             replace hx116_0 := (HB.out.cell (World.block_lt_of_cell? w _ hx116_0)).trans hx116_0
             replace hx116_1 := (HB.out.cell (World.block_lt_of_cell? w _ hx116_1)).trans hx116_1
             replace hx116_2 := (HB.out.cell (World.block_lt_of_cell? w _ hx116_2)).trans hx116_2
             replace p116 := eq_true p116
             replace q116 := eq_true q116
             go_wp2_with (first | ((with_reducible refine gate_dst (N := 15) rfl ?_); refine box_event ?hg (N := 15) ?hd (cs := #[.string (⟨#[]⟩ : ByteArray), .string (⟨#[]⟩ : ByteArray), .bool false]) (t := 114) ?hr ?_; (case hd => rfl); (case hg => rfl); (case hr => first | (go_simp; done) | (go_simp; rfl)); intro gb117 hg w33 hbox hb; obtain ⟨HB, BK117, GW117, GE117⟩ := And.intro (a_ (below_step (by exact q2_ HB.out) hb)) (And.intro (a_ (hbox)) (And.intro (a_ ((by rw [hg]; exact (below_size (by exact q2_ HB.out)) : w.heap.size ≤ gb117))) (a_ ((by rw [hg]; exact (below_size (by exact q2_ HB.out)) : w.heap.size ≤ gb117))))); clear hb hbox hg; obtain ⟨hcz34_0, hfz34_0, hcz34_1, hfz34_1, hcz34_2, hfz34_2⟩ := xf3_ BK117.out))
             go_ret
             exact ⟨by exact q12_, by exact q3_ HB.out GE117.out⟩
           ·rw [if_neg c29] at H
            have c29b0 : (((rd_T114 l0 x66_2).f0).toList == ([115, 101, 99, 45, 119, 101, 98, 115, 111, 99, 107, 101, 116, 45, 118, 101, 114, 115, 105, 111, 110] : List UInt8)) = false := nb_ c29
            have c29b1 : (((rd_T114 l0 x66_2).f0).toList != ([115, 101, 99, 45, 119, 101, 98, 115, 111, 99, 107, 101, 116, 45, 118, 101, 114, 115, 105, 111, 110] : List UInt8)) = true := bne_iff_ne.mpr c29
            have H' := a_ H
            clear H
            have p116 : 0 ≤ (x66_2 : Int) := of_decide_eq_true (by assumption)
            have q116 : x66_2 < (l0.length : Int) := of_decide_eq_true (by assumption)
            obtain ⟨ad116, e116, hx116_0, hx116_1, hx116_2⟩ := at_T114 HR0.out x66_2 p116 q116
            cases e116
            replace hx116_0 := (HB.out.cell (World.block_lt_of_cell? w _ hx116_0)).trans hx116_0
            replace hx116_1 := (HB.out.cell (World.block_lt_of_cell? w _ hx116_1)).trans hx116_1
            replace hx116_2 := (HB.out.cell (World.block_lt_of_cell? w _ hx116_2)).trans hx116_2
            replace p116 := eq_true p116
            replace q116 := eq_true q116
            go_wp2_with (first | ((with_reducible refine gate_dst (N := 15) rfl ?_); refine box_event ?hg (N := 15) ?hd (cs := #[.string (⟨#[]⟩ : ByteArray), .string (⟨#[]⟩ : ByteArray), .bool false]) (t := 114) ?hr ?_; (case hd => rfl); (case hg => rfl); (case hr => first | (go_simp; done) | (go_simp; rfl)); intro gb117 hg w35 hbox hb; obtain ⟨HB, BK117, GW117, GE117⟩ := And.intro (a_ (below_step (by exact q2_ HB.out) hb)) (And.intro (a_ (hbox)) (And.intro (a_ ((by rw [hg]; exact (below_size (by exact q2_ HB.out)) : w.heap.size ≤ gb117))) (a_ ((by rw [hg]; exact (below_size (by exact q2_ HB.out)) : w.heap.size ≤ gb117))))); clear hb hbox hg; obtain ⟨hcz36_0, hfz36_0, hcz36_1, hfz36_1, hcz36_2, hfz36_2⟩ := xf3_ BK117.out))
            go_roundg k2
            case measure => have := HJ5.out; have := HK2.out; omega
            case rel => exact ⟨(x13_2), (wrap64 (x66_2 + 1)), (by first | rfl | (simp; done) | (simp [*]; done)), (by first | rfl | (simp; done) | (simp [*]; done)), H', ⟨by have := HJ5.out; have := HK2.out; omega⟩, ⟨by exact q3_ HB.out GE117.out⟩⟩
          ·rw [if_neg c28] at H
           exact absurd H (by simp)
         ·rw [if_neg c27] at H
          exact absurd H (by simp)
        ·rw [if_neg c26] at H
         have c26b0 : decide (x66_2 < (l0.length : Int)) = false := decide_eq_false c26
         clear c26
         by_cases c37 : x13_2 = 0
         ·rw [if_pos c37] at H
          have c37b0 : (x13_2 == 0) = true := beq_iff_eq.mpr c37
          have c37b1 : (x13_2 != 0) = false := bne_eq_false_iff_eq.mpr c37
          clear c37
          obtain rfl := Option.some.inj H
          go_wp2
          go_ret
          exact ⟨by exact q12_, by exact q2_ HB.out⟩
         ·rw [if_neg c37] at H
          have c37b0 : (x13_2 == 0) = false := nb_ c37
          have c37b1 : (x13_2 != 0) = true := bne_iff_ne.mpr c37
          obtain rfl := Option.some.inj H
          go_wp2
          go_ret
          exact ⟨by exact q12_, by exact q2_ HB.out⟩
     ·rw [if_neg c24] at H
      have c24b0 : (t114.toList == ([119, 101, 98, 115, 111, 99, 107, 101, 116] : List UInt8)) = false := nb_ c24
      have c24b1 : (t114.toList != ([119, 101, 98, 115, 111, 99, 107, 101, 116] : List UInt8)) = true := bne_iff_ne.mpr c24
      obtain rfl := Option.some.inj H
      go_wp2_with (first | ((with_reducible refine gate_callee (f := 61) rfl ?_); refine goesL_ (some 59) rfl rfl Tryz.func61 (by kernel_rfl) rfl #[.slice A0 l0.length c0, .string (⟨#[58, 112, 114, 111, 116, 111, 99, 111, 108]⟩ : ByteArray)] rfl (by exact q1_) ?_; (with_reducible refine (tunnel_value.calls _ _ l0 (⟨#[58, 112, 114, 111, 116, 111, 99, 111, 108]⟩ : ByteArray) t114 t115 _ ?side1 ?side2 A23.out).mono ?_); (case side1 => repeat (first | exact (Kd.C_below HR0.out HB.out) | (with_reducible refine Kd.C_alloc ?_ _) | (with_reducible refine Kd.C_drewN ?_ _) | (with_reducible refine Kd.C_drew ?_))); (case side2 => exact HC0.out); rintro e w38 ⟨rfl, hb⟩; refine ⟨_, rfl, ?_⟩; replace HB := a_ (below_step (by exact q2_ HB.out) hb); (try clear hb); (try clear hb2); (try clear hk); (try clear hi)))
      go_ret
      exact ⟨by exact q12_, by exact q2_ HB.out⟩
    ·rw [if_neg c22] at H
     have c22b0 : (t105.toList == ([67, 79, 78, 78, 69, 67, 84] : List UInt8)) = false := nb_ c22
     have c22b1 : (t105.toList != ([67, 79, 78, 78, 69, 67, 84] : List UInt8)) = true := bne_iff_ne.mpr c22
     obtain rfl := Option.some.inj H
     go_wp2
     go_ret
     exact ⟨by exact q12_, by exact q2_ HB.out⟩
def tunnel_Request.f (a0 : ByteArray) (a1 : ByteArray) : Option ((List (S114))) := some (([(⟨(⟨#[58, 109, 101, 116, 104, 111, 100]⟩ : ByteArray), (⟨#[67, 79, 78, 78, 69, 67, 84]⟩ : ByteArray), false⟩ : S114), (⟨(⟨#[58, 112, 114, 111, 116, 111, 99, 111, 108]⟩ : ByteArray), (⟨#[119, 101, 98, 115, 111, 99, 107, 101, 116]⟩ : ByteArray), false⟩ : S114), (⟨(⟨#[58, 115, 99, 104, 101, 109, 101]⟩ : ByteArray), (⟨#[104, 116, 116, 112, 115]⟩ : ByteArray), false⟩ : S114), (⟨(⟨#[58, 112, 97, 116, 104]⟩ : ByteArray), a0, false⟩ : S114), (⟨(⟨#[58, 97, 117, 116, 104, 111, 114, 105, 116, 121]⟩ : ByteArray), a1, false⟩ : S114), (⟨(⟨#[115, 101, 99, 45, 119, 101, 98, 115, 111, 99, 107, 101, 116, 45, 118, 101, 114, 115, 105, 111, 110]⟩ : ByteArray), (⟨#[49, 51]⟩ : ByteArray), false⟩ : S114)] : List (S114)))
theorem tunnel_Request.calls (a0 : ByteArray) (a1 : ByteArray) (r : List (S114)) (w : World) (h : tunnel_Request.f a0 a1 = some r) :
  Calls Tryz.prog 29 #[.string a0, .string a1] w fun e w' => ∃ v0_ : Value, e = .returned (v0_) ∧ Kd.R k114 114 w' w.heap.size (fun _ => True) v0_ r ∧ Below w.heap.size w w' := by
 have hf43_0 := field43_0
 have hf87_1 := field87_1
 have hu114 := Tryz.underlying114
 have HB := a_ (Below.refl w.heap.size w)
 have H : (some (([(⟨(⟨#[58, 109, 101, 116, 104, 111, 100]⟩ : ByteArray), (⟨#[67, 79, 78, 78, 69, 67, 84]⟩ : ByteArray), false⟩ : S114), (⟨(⟨#[58, 112, 114, 111, 116, 111, 99, 111, 108]⟩ : ByteArray), (⟨#[119, 101, 98, 115, 111, 99, 107, 101, 116]⟩ : ByteArray), false⟩ : S114), (⟨(⟨#[58, 115, 99, 104, 101, 109, 101]⟩ : ByteArray), (⟨#[104, 116, 116, 112, 115]⟩ : ByteArray), false⟩ : S114), (⟨(⟨#[58, 112, 97, 116, 104]⟩ : ByteArray), a0, false⟩ : S114), (⟨(⟨#[58, 97, 117, 116, 104, 111, 114, 105, 116, 121]⟩ : ByteArray), a1, false⟩ : S114), (⟨(⟨#[115, 101, 99, 45, 119, 101, 98, 115, 111, 99, 107, 101, 116, 45, 118, 101, 114, 115, 105, 111, 110]⟩ : ByteArray), (⟨#[49, 51]⟩ : ByteArray), false⟩ : S114)] : List (S114)))) = some r := h
 clear h
 obtain ⟨y118, hy118⟩ : ∃ y_ : List (S114), y_ = (([(⟨(⟨#[58, 109, 101, 116, 104, 111, 100]⟩ : ByteArray), (⟨#[67, 79, 78, 78, 69, 67, 84]⟩ : ByteArray), false⟩ : S114), (⟨(⟨#[58, 112, 114, 111, 116, 111, 99, 111, 108]⟩ : ByteArray), (⟨#[119, 101, 98, 115, 111, 99, 107, 101, 116]⟩ : ByteArray), false⟩ : S114), (⟨(⟨#[58, 115, 99, 104, 101, 109, 101]⟩ : ByteArray), (⟨#[104, 116, 116, 112, 115]⟩ : ByteArray), false⟩ : S114), (⟨(⟨#[58, 112, 97, 116, 104]⟩ : ByteArray), a0, false⟩ : S114), (⟨(⟨#[58, 97, 117, 116, 104, 111, 114, 105, 116, 121]⟩ : ByteArray), a1, false⟩ : S114), (⟨(⟨#[115, 101, 99, 45, 119, 101, 98, 115, 111, 99, 107, 101, 116, 45, 118, 101, 114, 115, 105, 111, 110]⟩ : ByteArray), (⟨#[49, 51]⟩ : ByteArray), false⟩ : S114)] : List (S114))) := ⟨_, rfl⟩
 replace H : (some y118) = some r := by exact rq_ H hy118
 have Ny118 := a_ hy118
 clear hy118
 obtain rfl := Option.some.inj H
 go_enter Tryz.func29, Tryz.ntmps29
 go_wp2_with (first | ((with_reducible refine gate_dst (N := 13) rfl ?_); refine Kd.R_lit k114 _ 114 ?hg (N := 13) ?hd (xs := ([(⟨(⟨#[58, 109, 101, 116, 104, 111, 100]⟩ : ByteArray), (⟨#[67, 79, 78, 78, 69, 67, 84]⟩ : ByteArray), false⟩ : S114), (⟨(⟨#[58, 112, 114, 111, 116, 111, 99, 111, 108]⟩ : ByteArray), (⟨#[119, 101, 98, 115, 111, 99, 107, 101, 116]⟩ : ByteArray), false⟩ : S114), (⟨(⟨#[58, 115, 99, 104, 101, 109, 101]⟩ : ByteArray), (⟨#[104, 116, 116, 112, 115]⟩ : ByteArray), false⟩ : S114), (⟨(⟨#[58, 112, 97, 116, 104]⟩ : ByteArray), a0, false⟩ : S114), (⟨(⟨#[58, 97, 117, 116, 104, 111, 114, 105, 116, 121]⟩ : ByteArray), a1, false⟩ : S114), (⟨(⟨#[115, 101, 99, 45, 119, 101, 98, 115, 111, 99, 107, 101, 116, 45, 118, 101, 114, 115, 105, 111, 110]⟩ : ByteArray), (⟨#[49, 51]⟩ : ByteArray), false⟩ : S114)] : List (S114))) (inner := [.string (⟨#[58, 109, 101, 116, 104, 111, 100]⟩ : ByteArray), .string (⟨#[67, 79, 78, 78, 69, 67, 84]⟩ : ByteArray), .bool false, .string (⟨#[58, 112, 114, 111, 116, 111, 99, 111, 108]⟩ : ByteArray), .string (⟨#[119, 101, 98, 115, 111, 99, 107, 101, 116]⟩ : ByteArray), .bool false, .string (⟨#[58, 115, 99, 104, 101, 109, 101]⟩ : ByteArray), .string (⟨#[104, 116, 116, 112, 115]⟩ : ByteArray), .bool false, .string (⟨#[58, 112, 97, 116, 104]⟩ : ByteArray), .string a0, .bool false, .string (⟨#[58, 97, 117, 116, 104, 111, 114, 105, 116, 121]⟩ : ByteArray), .string a1, .bool false, .string (⟨#[115, 101, 99, 45, 119, 101, 98, 115, 111, 99, 107, 101, 116, 45, 118, 101, 114, 115, 105, 111, 110]⟩ : ByteArray), .string (⟨#[49, 51]⟩ : ByteArray), .bool false]) (ok := fun _ => True) (okp := fun _ => True) ?hr ?hp (fun _ hk => hk) trivial (Below.refl _ _) (Nat.le_refl _) (by simp) ?_; (case hd => rfl); (case hg => rfl); (case hr => first | (go_simp; done) | (go_simp; rfl)); (case hp => exact (Reps.c3 (show Kd.M k114 _ _ _ (⟨(⟨#[58, 109, 101, 116, 104, 111, 100]⟩ : ByteArray), (⟨#[67, 79, 78, 78, 69, 67, 84]⟩ : ByteArray), false⟩ : S114) [.string (⟨#[58, 109, 101, 116, 104, 111, 100]⟩ : ByteArray), .string (⟨#[67, 79, 78, 78, 69, 67, 84]⟩ : ByteArray), .bool false] from (k114_mkM _ _ _ (⟨(⟨#[58, 109, 101, 116, 104, 111, 100]⟩ : ByteArray), (⟨#[67, 79, 78, 78, 69, 67, 84]⟩ : ByteArray), false⟩ : S114) )) (Reps.c3 (show Kd.M k114 _ _ _ (⟨(⟨#[58, 112, 114, 111, 116, 111, 99, 111, 108]⟩ : ByteArray), (⟨#[119, 101, 98, 115, 111, 99, 107, 101, 116]⟩ : ByteArray), false⟩ : S114) [.string (⟨#[58, 112, 114, 111, 116, 111, 99, 111, 108]⟩ : ByteArray), .string (⟨#[119, 101, 98, 115, 111, 99, 107, 101, 116]⟩ : ByteArray), .bool false] from (k114_mkM _ _ _ (⟨(⟨#[58, 112, 114, 111, 116, 111, 99, 111, 108]⟩ : ByteArray), (⟨#[119, 101, 98, 115, 111, 99, 107, 101, 116]⟩ : ByteArray), false⟩ : S114) )) (Reps.c3 (show Kd.M k114 _ _ _ (⟨(⟨#[58, 115, 99, 104, 101, 109, 101]⟩ : ByteArray), (⟨#[104, 116, 116, 112, 115]⟩ : ByteArray), false⟩ : S114) [.string (⟨#[58, 115, 99, 104, 101, 109, 101]⟩ : ByteArray), .string (⟨#[104, 116, 116, 112, 115]⟩ : ByteArray), .bool false] from (k114_mkM _ _ _ (⟨(⟨#[58, 115, 99, 104, 101, 109, 101]⟩ : ByteArray), (⟨#[104, 116, 116, 112, 115]⟩ : ByteArray), false⟩ : S114) )) (Reps.c3 (show Kd.M k114 _ _ _ (⟨(⟨#[58, 112, 97, 116, 104]⟩ : ByteArray), a0, false⟩ : S114) [.string (⟨#[58, 112, 97, 116, 104]⟩ : ByteArray), .string a0, .bool false] from (k114_mkM _ _ _ (⟨(⟨#[58, 112, 97, 116, 104]⟩ : ByteArray), a0, false⟩ : S114) )) (Reps.c3 (show Kd.M k114 _ _ _ (⟨(⟨#[58, 97, 117, 116, 104, 111, 114, 105, 116, 121]⟩ : ByteArray), a1, false⟩ : S114) [.string (⟨#[58, 97, 117, 116, 104, 111, 114, 105, 116, 121]⟩ : ByteArray), .string a1, .bool false] from (k114_mkM _ _ _ (⟨(⟨#[58, 97, 117, 116, 104, 111, 114, 105, 116, 121]⟩ : ByteArray), a1, false⟩ : S114) )) (Reps.c3 (show Kd.M k114 _ _ _ (⟨(⟨#[115, 101, 99, 45, 119, 101, 98, 115, 111, 99, 107, 101, 116, 45, 118, 101, 114, 115, 105, 111, 110]⟩ : ByteArray), (⟨#[49, 51]⟩ : ByteArray), false⟩ : S114) [.string (⟨#[115, 101, 99, 45, 119, 101, 98, 115, 111, 99, 107, 101, 116, 45, 118, 101, 114, 115, 105, 111, 110]⟩ : ByteArray), .string (⟨#[49, 51]⟩ : ByteArray), .bool false] from (k114_mkM _ _ _ (⟨(⟨#[115, 101, 99, 45, 119, 101, 98, 115, 111, 99, 107, 101, 116, 45, 118, 101, 114, 115, 105, 111, 110]⟩ : ByteArray), (⟨#[49, 51]⟩ : ByteArray), false⟩ : S114) )) (Reps.none _ _)))))))); intro v119 w3 ho4 hb hg_ hnew_; clear hg_ hnew_; (first | rw [← Ny118.out] at ho4 | (simp only [Int.reduceToNat] at ho4; rw [← Ny118.out] at ho4)); obtain ⟨HO120, HB⟩ := And.intro (a_ (Kd.R_lower ho4 (below_size (by exact q2_ HB.out)))) (a_ (below_step (by exact q2_ HB.out) hb)); clear hb ho4))
 go_ret
 exact ⟨_, by exact q12_, by (with_reducible repeat (first | apply Kd.R_alloc | apply Kd.R_drewN | apply Kd.R_drew)); exact HO120.out, by exact q2_ HB.out⟩
def louverlaw20_fixed.f (k : Nat)  : Option (Bool) := (tunnel_Request.f (⟨#[47]⟩ : ByteArray) (⟨#[97]⟩ : ByteArray)).bind fun t121 => ((tunnel_Check.f k t121).bind fun t124 => (some (t124 == 200)))
theorem louverlaw20_fixed.calls (k : Nat)  (r : Bool) (w : World) (h : louverlaw20_fixed.f k  = some r) :
  Calls Tryz.prog 7 #[] w fun e w' => e = .returned (.bool r) ∧ Below w.heap.size w w' := by
 have hf43_0 := field43_0
 have hf87_1 := field87_1
 have HB := a_ (Below.refl w.heap.size w)
 have H : ((tunnel_Request.f (⟨#[47]⟩ : ByteArray) (⟨#[97]⟩ : ByteArray)).bind fun t121 => ((tunnel_Check.f k t121).bind fun t124 => (some (t124 == 200)))) = some r := h
 clear h
 replace H := Option.bind_eq_some_iff.mp H
 obtain ⟨t121, A10, H⟩ := H
 try dsimp only at H
 have A1 := a_ A10
 clear A10
 replace H := Option.bind_eq_some_iff.mp H
 obtain ⟨t124, A20, H⟩ := H
 try dsimp only at H
 have A2 := a_ A20
 clear A20
 obtain rfl := Option.some.inj H
 go_enter Tryz.func7, Tryz.ntmps7
 go_wp2_with (first | ((with_reducible refine gate_callee (f := 29) rfl ?_); refine goesL_ (some 1) rfl rfl Tryz.func29 (by kernel_rfl) rfl #[.string (⟨#[47]⟩ : ByteArray), .string (⟨#[97]⟩ : ByteArray)] rfl (by exact q1_) ?_; (with_reducible refine (tunnel_Request.calls (⟨#[47]⟩ : ByteArray) (⟨#[97]⟩ : ByteArray) t121 _ A1.out).mono ?_); rintro e w3 ⟨v122, rfl, ho0, hb⟩; refine ⟨_, rfl, ?_⟩; obtain ⟨HO123, HB⟩ := And.intro (a_ (Kd.R_lower ho0 (below_size (by exact q2_ HB.out)))) (a_ (below_step (by exact q2_ HB.out) hb)); (try clear hb); (try clear hb2); (try clear hk); (try clear hi); (try clear ho0); obtain ⟨Ao4, co4, eo4⟩ := Kd.R_slice HO123.out; subst eo4) | ((with_reducible refine gate_callee (f := 28) rfl ?_); refine goesL_ (some 2) rfl rfl Tryz.func28 (by kernel_rfl) rfl #[.slice Ao4 t121.length co4] rfl (by exact q1_) ?_; (with_reducible refine (tunnel_Check.calls k _ _ t121 t124 _ ?side1 ?side2 A2.out).mono ?_); (case side1 => repeat (first | exact (Kd.R_reads' HO123.out).2.2 | (with_reducible refine Kd.C_alloc ?_ _) | (with_reducible refine Kd.C_drewN ?_ _) | (with_reducible refine Kd.C_drew ?_))); (case side2 => exact (Kd.R_reads' HO123.out).2.1); rintro e w5 ⟨rfl, hb⟩; refine ⟨_, rfl, ?_⟩; obtain ⟨HO123, HB⟩ := And.intro (a_ (Kd.R_below (by exact q11_ HO123.out) hb)) (a_ (below_step (by exact q2_ HB.out) hb)); (try clear hb); (try clear hb2); (try clear hk); (try clear hi)))
 go_ret
 exact ⟨by exact q12_, by exact q2_ HB.out⟩
def IsS121 (w0 W : World) (g : Nat) (f0 : Bool) (f1 : Bool) (f2 : Int) (f3 : Int) (f4 : Int) : Prop := W.heap[g]? = some (.cells #[.bool f0, .bool f1, .int .u32 f2, .int .u8 f3, .int .u32 f4] 121 (0, 0)) ∧ w0.heap.size ≤ g
theorem IsS121.grown {w0 W : World} {g : Nat} {f0 : Bool} {f1 : Bool} {f2 : Int} {f3 : Int} {f4 : Int} {W1 : World} {row : Option Nat} (h : IsS121 w0 W g f0 f1 f2 f3 f4) (hw : W.grownBy W1 row) (hne : some g ≠ row) : IsS121 w0 W1 g f0 f1 f2 f3 f4 := by
 obtain ⟨hb, hg⟩ := h
 exact ⟨blk_grown hb hw hne, hg⟩
theorem IsS121.below {w0 W : World} {g : Nat} {f0 : Bool} {f1 : Bool} {f2 : Int} {f3 : Int} {f4 : Int} {W1 : World} (h : IsS121 w0 W g f0 f1 f2 f3 f4) (hw : Below W.heap.size W W1) : IsS121 w0 W1 g f0 f1 f2 f3 f4 := h.grown (grown_of_below hw none) (by simp)
theorem IsS121.alloc {w0 W : World} {g : Nat} {f0 : Bool} {f1 : Bool} {f2 : Int} {f3 : Int} {f4 : Int} (h : IsS121 w0 W g f0 f1 f2 f3 f4) (o : Obj) : IsS121 w0 (W.alloc o) g f0 f1 f2 f3 f4 := h.below (below_alloc (Below.refl _ _) o)
theorem IsS121.drewN {w0 W : World} {g : Nat} {f0 : Bool} {f1 : Bool} {f2 : Int} {f3 : Int} {f4 : Int} (h : IsS121 w0 W g f0 f1 f2 f3 f4) (m : Nat) : IsS121 w0 (W.drewN m) g f0 f1 f2 f3 f4 := h
theorem IsS121.drew {w0 W : World} {g : Nat} {f0 : Bool} {f1 : Bool} {f2 : Int} {f3 : Int} {f4 : Int} (h : IsS121 w0 W g f0 f1 f2 f3 f4) : IsS121 w0 W.drew g f0 f1 f2 f3 f4 := h
theorem IsS121.apart {w0 W : World} {g : Nat} {f0 : Bool} {f1 : Bool} {f2 : Int} {f3 : Int} {f4 : Int} {α : Type} {d : Kd α} {e : Nat} {base : Nat} {ok : Nat → Prop} {v : Value} {xs : List α} (h : IsS121 w0 W g f0 f1 f2 f3 f4) (ho : d.R e W base ok v xs) (ht : ∀ q, q ∈ e :: d.E → q ≠ 121) : d.R e W base (fun k => ok k ∧ k ≠ g) v xs := by
 obtain ⟨hb, hg⟩ := h
 exact Kd.R_types ho hb ht
theorem IsS121.lt {w0 W : World} {g : Nat} {f0 : Bool} {f1 : Bool} {f2 : Int} {f3 : Int} {f4 : Int} (h : IsS121 w0 W g f0 f1 f2 f3 f4) : g < W.heap.size := by
 obtain ⟨hb, hg⟩ := h
 exact blk_lt hb
theorem IsS121.ge {w0 W : World} {g : Nat} {f0 : Bool} {f1 : Bool} {f2 : Int} {f3 : Int} {f4 : Int} (h : IsS121 w0 W g f0 f1 f2 f3 f4) : w0.heap.size ≤ g := by
 obtain ⟨hb, hg⟩ := h
 exact hg
theorem IsS121.far {w0 W : World} {g : Nat} {f0 : Bool} {f1 : Bool} {f2 : Int} {f3 : Int} {f4 : Int} {p : Addr} (h : IsS121 w0 W g f0 f1 f2 f3 f4) (hne : g ≠ p.block) (u : Value) : IsS121 w0 (W.setCell p u) g f0 f1 f2 f3 f4 := by
 obtain ⟨hb, hg⟩ := h
 exact ⟨blk_far hb hne u, hg⟩
theorem cellS121_0 {W : World} {g : Nat} {f0 : Bool} {f1 : Bool} {f2 : Int} {f3 : Int} {f4 : Int} (h : W.heap[g]? = some (.cells #[.bool f0, .bool f1, .int .u32 f2, .int .u8 f3, .int .u32 f4] 121 (0, 0))) : W.cell? ⟨g, 0, none⟩ = some (.bool f0) := (blk_cell h 0).trans rfl
theorem IsS121.set_0 {w0 W : World} {g : Nat} {f0 : Bool} {f1 : Bool} {f2 : Int} {f3 : Int} {f4 : Int} (h : IsS121 w0 W g f0 f1 f2 f3 f4) (x : Bool) : IsS121 w0 (W.setCell ⟨g, 0, none⟩ (.bool x)) g x f1 f2 f3 f4 := by
 obtain ⟨hb, hg⟩ := h
 exact ⟨by simpa using blk_set hb 0 (.bool x), hg⟩
theorem cellS121_1 {W : World} {g : Nat} {f0 : Bool} {f1 : Bool} {f2 : Int} {f3 : Int} {f4 : Int} (h : W.heap[g]? = some (.cells #[.bool f0, .bool f1, .int .u32 f2, .int .u8 f3, .int .u32 f4] 121 (0, 0))) : W.cell? ⟨g, 1, none⟩ = some (.bool f1) := (blk_cell h 1).trans rfl
theorem IsS121.set_1 {w0 W : World} {g : Nat} {f0 : Bool} {f1 : Bool} {f2 : Int} {f3 : Int} {f4 : Int} (h : IsS121 w0 W g f0 f1 f2 f3 f4) (x : Bool) : IsS121 w0 (W.setCell ⟨g, 1, none⟩ (.bool x)) g f0 x f2 f3 f4 := by
 obtain ⟨hb, hg⟩ := h
 exact ⟨by simpa using blk_set hb 1 (.bool x), hg⟩
theorem cellS121_2 {W : World} {g : Nat} {f0 : Bool} {f1 : Bool} {f2 : Int} {f3 : Int} {f4 : Int} (h : W.heap[g]? = some (.cells #[.bool f0, .bool f1, .int .u32 f2, .int .u8 f3, .int .u32 f4] 121 (0, 0))) : W.cell? ⟨g, 2, none⟩ = some (.int .u32 f2) := (blk_cell h 2).trans rfl
theorem IsS121.set_2 {w0 W : World} {g : Nat} {f0 : Bool} {f1 : Bool} {f2 : Int} {f3 : Int} {f4 : Int} (h : IsS121 w0 W g f0 f1 f2 f3 f4) (x : Int) : IsS121 w0 (W.setCell ⟨g, 2, none⟩ (.int .u32 x)) g f0 f1 x f3 f4 := by
 obtain ⟨hb, hg⟩ := h
 exact ⟨by simpa using blk_set hb 2 (.int .u32 x), hg⟩
theorem cellS121_3 {W : World} {g : Nat} {f0 : Bool} {f1 : Bool} {f2 : Int} {f3 : Int} {f4 : Int} (h : W.heap[g]? = some (.cells #[.bool f0, .bool f1, .int .u32 f2, .int .u8 f3, .int .u32 f4] 121 (0, 0))) : W.cell? ⟨g, 3, none⟩ = some (.int .u8 f3) := (blk_cell h 3).trans rfl
theorem IsS121.set_3 {w0 W : World} {g : Nat} {f0 : Bool} {f1 : Bool} {f2 : Int} {f3 : Int} {f4 : Int} (h : IsS121 w0 W g f0 f1 f2 f3 f4) (x : Int) : IsS121 w0 (W.setCell ⟨g, 3, none⟩ (.int .u8 x)) g f0 f1 f2 x f4 := by
 obtain ⟨hb, hg⟩ := h
 exact ⟨by simpa using blk_set hb 3 (.int .u8 x), hg⟩
theorem cellS121_4 {W : World} {g : Nat} {f0 : Bool} {f1 : Bool} {f2 : Int} {f3 : Int} {f4 : Int} (h : W.heap[g]? = some (.cells #[.bool f0, .bool f1, .int .u32 f2, .int .u8 f3, .int .u32 f4] 121 (0, 0))) : W.cell? ⟨g, 4, none⟩ = some (.int .u32 f4) := (blk_cell h 4).trans rfl
theorem IsS121.set_4 {w0 W : World} {g : Nat} {f0 : Bool} {f1 : Bool} {f2 : Int} {f3 : Int} {f4 : Int} (h : IsS121 w0 W g f0 f1 f2 f3 f4) (x : Int) : IsS121 w0 (W.setCell ⟨g, 4, none⟩ (.int .u32 x)) g f0 f1 f2 f3 x := by
 obtain ⟨hb, hg⟩ := h
 exact ⟨by simpa using blk_set hb 4 (.int .u32 x), hg⟩
def closing_New.f  : Option (Bool × Bool × Int × Int × Int) := some (false, false, 0, 0, 0)
theorem closing_New.calls  (r1 : Bool) (r2 : Bool) (r3 : Int) (r4 : Int) (r5 : Int) (w0 w : World) (hB : Below w0.heap.size w0 w) (h : closing_New.f  = some (r1, r2, r3, r4, r5)) :
  Calls Tryz.prog 33 #[] w fun e w' => ∃ g_ : Nat, e = .returned (.pointer (some ⟨g_, 0, none⟩)) ∧ IsS121 w0 w' g_ r1 r2 r3 r4 r5 ∧ Below w0.heap.size w0 w' ∧ Below w.heap.size w w' := by
 have hf43_0 := field43_0
 have hf87_1 := field87_1
 have hu121 := Tryz.underlying121
 have HBW := a_ (Below.refl w.heap.size w)
 have HW0 := a_ hB.size
 have HB := a_ hB
 clear hB
 have H : (some (false, false, 0, 0, 0)) = some (r1, r2, r3, r4, r5) := h
 clear h
 simp only [Option.some.injEq, Prod.mk.injEq] at H
 obtain ⟨rfl, rfl, rfl, rfl, rfl⟩ := H
 go_enter Tryz.func33, Tryz.ntmps33
 go_wp2_with (first | ((with_reducible refine gate_dst (N := 2) rfl ?_); refine box_event ?hg (N := 2) ?hd (cs := #[.bool false, .bool false, .int .u32 0, .int .u8 0, .int .u32 0]) (t := 121) ?hr ?_; (case hd => rfl); (case hg => rfl); (case hr => first | (go_simp; done) | (go_simp; rfl)); intro gb126 hg w1 hbox hb; obtain ⟨HBW, HB, BK126, GW126, GE126⟩ := And.intro (a_ (below_step HBW.out hb)) (And.intro (a_ (below_step (by exact q2_ HB.out) hb)) (And.intro (a_ (hbox)) (And.intro (a_ ((by rw [hg]; exact (below_size (by exact q2_ HBW.out)) : w.heap.size ≤ gb126))) (a_ ((Nat.le_trans HW0.out (by rw [hg]; exact (below_size (by exact q2_ HBW.out)) : w.heap.size ≤ gb126) : w0.heap.size ≤ gb126)))))); clear hb hbox hg))
 go_ret
 exact ⟨_, rfl, (show IsS121 w0 _ gb126 false false 0 0 0 from ⟨by (with_reducible repeat (first | refine blk_drewN ?_ _ | refine blk_drew ?_ | refine blk_alloc ?_ _)); exact BK126.out, GE126.out⟩), by exact q3_ HB.out GE126.out, by exact q3_ HBW.out GW126.out⟩
def closing_Door_End.f (s0_0 : Bool) (s0_1 : Bool) (s0_2 : Int) (s0_3 : Int) (s0_4 : Int) : Option (Int × Int × Bool × Bool × Int × Int × Int) := some (s0_3, s0_4, s0_0, s0_1, s0_2, s0_3, s0_4)
theorem closing_Door_End.calls (g : Nat) (s0_0 : Bool) (s0_1 : Bool) (s0_2 : Int) (s0_3 : Int) (s0_4 : Int) (r1 : Int) (r2 : Int) (r3 : Bool) (r4 : Bool) (r5 : Int) (r6 : Int) (r7 : Int) (w0 w : World) (hI : IsS121 w0 w g s0_0 s0_1 s0_2 s0_3 s0_4) (hB : Below w0.heap.size w0 w) (h : closing_Door_End.f s0_0 s0_1 s0_2 s0_3 s0_4 = some (r1, r2, r3, r4, r5, r6, r7)) :
  Calls Tryz.prog 49 #[.pointer (some ⟨g, 0, none⟩)] w fun e w' => e = .returned (.agg #[.int .u8 r1, .int .u32 r2]) ∧ IsS121 w0 w' g r3 r4 r5 r6 r7 ∧ Below w0.heap.size w0 w' ∧ KeepBut w w' g none := by
 have hf43_0 := field43_0
 have hf87_1 := field87_1
 have hu43 := Tryz.underlying43
 have HI0 := a_ hI
 have HK := a_ (KeepBut.refl w g none)
 have HL := a_ hB.size
 clear hI
 have HW0 := a_ hB.size
 have HB := a_ hB
 clear hB
 have H : (some (s0_3, s0_4, s0_0, s0_1, s0_2, s0_3, s0_4)) = some (r1, r2, r3, r4, r5, r6, r7) := h
 clear h
 simp only [Option.some.injEq, Prod.mk.injEq] at H
 obtain ⟨rfl, rfl, rfl, rfl, rfl, rfl, rfl⟩ := H
 go_enter Tryz.func49, Tryz.ntmps49
 go_wp2_with (first | ((with_reducible refine gate_dst (N := 2) rfl ?_); refine box_event ?hg (N := 2) ?hd (cs := #[.int .u8 0, .int .u32 0]) (t := 43) ?hr ?_; (case hd => rfl); (case hg => rfl); (case hr => first | (go_simp; done) | (go_simp; rfl)); intro gb127 hg w2 hbox hb; obtain ⟨HI0, HK, HB, BK127, GW127, GE127, NB0_127, NB127_0⟩ := And.intro (a_ (IsS121.below (by exact q4_ HI0.out) hb)) (And.intro (a_ (KeepBut.trans (by exact q5_ HK.out) (KeepBut.of_below hb g none) (.inl rfl))) (And.intro (a_ (below_step (by exact q3_ HB.out (IsS121.ge HI0.out)) hb)) (And.intro (a_ (hbox)) (And.intro (a_ ((by rw [hg]; exact (keep_size (w := w) (g := g) (row := none) (by exact q5_ HK.out)) : w.heap.size ≤ gb127))) (And.intro (a_ ((Nat.le_trans HW0.out (by rw [hg]; exact (keep_size (w := w) (g := g) (row := none) (by exact q5_ HK.out)) : w.heap.size ≤ gb127) : w0.heap.size ≤ gb127))) (And.intro (a_ ((by rw [hg]; exact Nat.ne_of_lt (IsS121.lt (show IsS121 w0 _ g s0_0 s0_1 s0_2 s0_3 s0_4 from by exact q4_ HI0.out)) : g ≠ gb127))) (a_ ((by rw [hg]; exact Nat.ne_of_gt (IsS121.lt (show IsS121 w0 _ g s0_0 s0_1 s0_2 s0_3 s0_4 from by exact q4_ HI0.out)) : gb127 ≠ g))))))))); clear hb hbox hg; obtain ⟨HGz3, hgz3⟩ := HI0.out; have hcz3_0 := cellS121_0 HGz3; have hcz3_1 := cellS121_1 HGz3; have hcz3_2 := cellS121_2 HGz3; have hcz3_3 := cellS121_3 HGz3; have hcz3_4 := cellS121_4 HGz3; obtain ⟨hfz3_0, hfz3_1, hfz3_2, hfz3_3, hfz3_4⟩ := xz5_ HGz3; clear HGz3 hgz3; have hnb4 := NB127_0.out; have hnc4 := NB0_127.out; obtain ⟨hcz5_0, hfz5_0, hcz5_1, hfz5_1⟩ := xf2_ BK127.out))
 refine bodyPost_ret (results_cell_row rfl _ _ gb127 43 #[.int .u8 s0_3, .int .u32 s0_4] (0, 0) _ rfl (by (with_reducible repeat (first | refine blk_drewN ?_ _ | refine blk_drew ?_ | refine blk_alloc ?_ _)); refine blk_put (cs := #[.int .u8 s0_3, .int .u32 0]) ?_ 1 _ rfl; (with_reducible repeat (first | refine blk_drewN ?_ _ | refine blk_drew ?_ | refine blk_alloc ?_ _)); refine blk_put (cs := #[.int .u8 0, .int .u32 0]) ?_ 0 _ rfl; exact q10_ BK127.out) Tryz.underlying43 rfl (by kernel_rfl)) rfl ?_
 exact ⟨by exact q12_, by first | ((exact q6_ HI0.out NB0_127.out); done) | (rw [‹((_ : Int) == _) = _›]; ((exact q6_ HI0.out NB0_127.out); done)) | (exact q6_ HI0.out NB0_127.out), by exact q7_ HB.out (IsS121.ge HI0.out) GE127.out, by exact q8_ HK.out GW127.out⟩
def closing_Door_Through.f (s0_0 : Bool) (s0_1 : Bool) (s0_2 : Int) (s0_3 : Int) (s0_4 : Int) : Option (Bool × Bool × Bool × Int × Int × Int) := (closing_Door_End.f s0_0 s0_1 s0_2 s0_3 s0_4).bind fun bt128 => (some ((bt128.1 != 0), bt128.2.2.1, bt128.2.2.2.1, bt128.2.2.2.2.1, bt128.2.2.2.2.2.1, bt128.2.2.2.2.2.2))
theorem closing_Door_Through.calls (g : Nat) (s0_0 : Bool) (s0_1 : Bool) (s0_2 : Int) (s0_3 : Int) (s0_4 : Int) (r1 : Bool) (r2 : Bool) (r3 : Bool) (r4 : Int) (r5 : Int) (r6 : Int) (w0 w : World) (hI : IsS121 w0 w g s0_0 s0_1 s0_2 s0_3 s0_4) (hB : Below w0.heap.size w0 w) (h : closing_Door_Through.f s0_0 s0_1 s0_2 s0_3 s0_4 = some (r1, r2, r3, r4, r5, r6)) :
  Calls Tryz.prog 40 #[.pointer (some ⟨g, 0, none⟩)] w fun e w' => e = .returned (.bool r1) ∧ IsS121 w0 w' g r2 r3 r4 r5 r6 ∧ Below w0.heap.size w0 w' ∧ KeepBut w w' g none := by
 have hf43_0 := field43_0
 have hf87_1 := field87_1
 have HI0 := a_ hI
 have HK := a_ (KeepBut.refl w g none)
 have HL := a_ hB.size
 clear hI
 have HW0 := a_ hB.size
 have HB := a_ hB
 clear hB
 have H : ((closing_Door_End.f s0_0 s0_1 s0_2 s0_3 s0_4).bind fun bt128 => (some ((bt128.1 != 0), bt128.2.2.1, bt128.2.2.2.1, bt128.2.2.2.2.1, bt128.2.2.2.2.2.1, bt128.2.2.2.2.2.2))) = some (r1, r2, r3, r4, r5, r6) := h
 clear h
 replace H := Option.bind_eq_some_iff.mp H
 obtain ⟨⟨t128, t129, t130, t131, t132, t133, t134⟩, A20, H⟩ := H
 try dsimp only at H
 have A2 := a_ A20
 clear A20
 simp only [Option.some.injEq, Prod.mk.injEq] at H
 obtain ⟨rfl, rfl, rfl, rfl, rfl, rfl⟩ := H
 go_enter Tryz.func40, Tryz.ntmps40
 go_wp2_with (first | ((with_reducible refine gate_callee (f := 49) rfl ?_); refine goesL_ (some 4) rfl rfl Tryz.func49 (by kernel_rfl) rfl #[.pointer (some ⟨g, 0, none⟩)] rfl (by exact q1_) ?_; (with_reducible refine (closing_Door_End.calls g s0_0 s0_1 s0_2 s0_3 s0_4 t128 t129 t130 t131 t132 t133 t134 w0 _ ?side1 ?side2 A2.out).mono ?_); (case side1 => exact q4_ HI0.out); (case side2 => exact q3_ HB.out (IsS121.ge HI0.out)); rintro e w3 ⟨rfl, hi, hb, hk⟩; refine ⟨_, rfl, ?_⟩; obtain ⟨HK, HB, HI0⟩ := And.intro (a_ (KeepBut.trans (by exact q5_ HK.out) hk (.inl rfl))) (And.intro (a_ (hb)) (a_ (hi))); (try clear hb); (try clear hb2); (try clear hk); (try clear hi)))
 go_ret
 exact ⟨by exact q12_, by first | ((exact q4_ HI0.out); done) | (rw [‹((_ : Int) == _) = _›]; ((exact q4_ HI0.out); done)) | (exact q4_ HI0.out), by exact q3_ HB.out (IsS121.ge HI0.out), by exact q5_ HK.out⟩
def closing_Door_Sent.f (s0_0 : Bool) (s0_1 : Bool) (s0_2 : Int) (s0_3 : Int) (s0_4 : Int) : Option (Bool × Bool × Bool × Int × Int × Int) := some (s0_0, s0_0, s0_1, s0_2, s0_3, s0_4)
theorem closing_Door_Sent.calls (g : Nat) (s0_0 : Bool) (s0_1 : Bool) (s0_2 : Int) (s0_3 : Int) (s0_4 : Int) (r1 : Bool) (r2 : Bool) (r3 : Bool) (r4 : Int) (r5 : Int) (r6 : Int) (w0 w : World) (hI : IsS121 w0 w g s0_0 s0_1 s0_2 s0_3 s0_4) (hB : Below w0.heap.size w0 w) (h : closing_Door_Sent.f s0_0 s0_1 s0_2 s0_3 s0_4 = some (r1, r2, r3, r4, r5, r6)) :
  Calls Tryz.prog 63 #[.pointer (some ⟨g, 0, none⟩)] w fun e w' => e = .returned (.bool r1) ∧ IsS121 w0 w' g r2 r3 r4 r5 r6 ∧ Below w0.heap.size w0 w' ∧ KeepBut w w' g none := by
 have hf43_0 := field43_0
 have hf87_1 := field87_1
 have HI0 := a_ hI
 have HK := a_ (KeepBut.refl w g none)
 have HL := a_ hB.size
 clear hI
 have HW0 := a_ hB.size
 have HB := a_ hB
 clear hB
 have H : (some (s0_0, s0_0, s0_1, s0_2, s0_3, s0_4)) = some (r1, r2, r3, r4, r5, r6) := h
 clear h
 simp only [Option.some.injEq, Prod.mk.injEq] at H
 obtain ⟨rfl, rfl, rfl, rfl, rfl, rfl⟩ := H
 obtain ⟨HGz2, hgz2⟩ := HI0.out
 have hcz2_0 := cellS121_0 HGz2
 have hcz2_1 := cellS121_1 HGz2
 have hcz2_2 := cellS121_2 HGz2
 have hcz2_3 := cellS121_3 HGz2
 have hcz2_4 := cellS121_4 HGz2
 have hfz2_0 := blk_frozen HGz2 0
 have hfz2_1 := blk_frozen HGz2 1
 have hfz2_2 := blk_frozen HGz2 2
 have hfz2_3 := blk_frozen HGz2 3
 have hfz2_4 := blk_frozen HGz2 4
 clear HGz2 hgz2
 go_enter Tryz.func63, Tryz.ntmps63
 go_wp2
 go_ret
 exact ⟨by exact q12_, by first | ((exact q4_ HI0.out); done) | (rw [‹((_ : Int) == _) = _›]; ((exact q4_ HI0.out); done)) | (exact q4_ HI0.out), by exact q3_ HB.out (IsS121.ge HI0.out), by exact q5_ HK.out⟩
def IsS155 (w0 W : World) (g : Nat) (f0 : Int) (f1 : Int) (f2 : Int) (f3 : Bool) : Prop := W.heap[g]? = some (.cells #[.int .i64 f0, .int .u8 f1, .int .u8 f2, .bool f3] 155 (0, 0)) ∧ w0.heap.size ≤ g
theorem IsS155.grown {w0 W : World} {g : Nat} {f0 : Int} {f1 : Int} {f2 : Int} {f3 : Bool} {W1 : World} {row : Option Nat} (h : IsS155 w0 W g f0 f1 f2 f3) (hw : W.grownBy W1 row) (hne : some g ≠ row) : IsS155 w0 W1 g f0 f1 f2 f3 := by
 obtain ⟨hb, hg⟩ := h
 exact ⟨blk_grown hb hw hne, hg⟩
theorem IsS155.below {w0 W : World} {g : Nat} {f0 : Int} {f1 : Int} {f2 : Int} {f3 : Bool} {W1 : World} (h : IsS155 w0 W g f0 f1 f2 f3) (hw : Below W.heap.size W W1) : IsS155 w0 W1 g f0 f1 f2 f3 := h.grown (grown_of_below hw none) (by simp)
theorem IsS155.alloc {w0 W : World} {g : Nat} {f0 : Int} {f1 : Int} {f2 : Int} {f3 : Bool} (h : IsS155 w0 W g f0 f1 f2 f3) (o : Obj) : IsS155 w0 (W.alloc o) g f0 f1 f2 f3 := h.below (below_alloc (Below.refl _ _) o)
theorem IsS155.drewN {w0 W : World} {g : Nat} {f0 : Int} {f1 : Int} {f2 : Int} {f3 : Bool} (h : IsS155 w0 W g f0 f1 f2 f3) (m : Nat) : IsS155 w0 (W.drewN m) g f0 f1 f2 f3 := h
theorem IsS155.drew {w0 W : World} {g : Nat} {f0 : Int} {f1 : Int} {f2 : Int} {f3 : Bool} (h : IsS155 w0 W g f0 f1 f2 f3) : IsS155 w0 W.drew g f0 f1 f2 f3 := h
theorem IsS155.ge {w0 W : World} {g : Nat} {f0 : Int} {f1 : Int} {f2 : Int} {f3 : Bool} (h : IsS155 w0 W g f0 f1 f2 f3) : w0.heap.size ≤ g := by
 obtain ⟨hb, hg⟩ := h
 exact hg
theorem IsS155.far {w0 W : World} {g : Nat} {f0 : Int} {f1 : Int} {f2 : Int} {f3 : Bool} {p : Addr} (h : IsS155 w0 W g f0 f1 f2 f3) (hne : g ≠ p.block) (u : Value) : IsS155 w0 (W.setCell p u) g f0 f1 f2 f3 := by
 obtain ⟨hb, hg⟩ := h
 exact ⟨blk_far hb hne u, hg⟩
theorem cellS155_0 {W : World} {g : Nat} {f0 : Int} {f1 : Int} {f2 : Int} {f3 : Bool} (h : W.heap[g]? = some (.cells #[.int .i64 f0, .int .u8 f1, .int .u8 f2, .bool f3] 155 (0, 0))) : W.cell? ⟨g, 0, none⟩ = some (.int .i64 f0) := (blk_cell h 0).trans rfl
theorem IsS155.set_0 {w0 W : World} {g : Nat} {f0 : Int} {f1 : Int} {f2 : Int} {f3 : Bool} (h : IsS155 w0 W g f0 f1 f2 f3) (x : Int) : IsS155 w0 (W.setCell ⟨g, 0, none⟩ (.int .i64 x)) g x f1 f2 f3 := by
 obtain ⟨hb, hg⟩ := h
 exact ⟨by simpa using blk_set hb 0 (.int .i64 x), hg⟩
theorem cellS155_1 {W : World} {g : Nat} {f0 : Int} {f1 : Int} {f2 : Int} {f3 : Bool} (h : W.heap[g]? = some (.cells #[.int .i64 f0, .int .u8 f1, .int .u8 f2, .bool f3] 155 (0, 0))) : W.cell? ⟨g, 1, none⟩ = some (.int .u8 f1) := (blk_cell h 1).trans rfl
theorem IsS155.set_1 {w0 W : World} {g : Nat} {f0 : Int} {f1 : Int} {f2 : Int} {f3 : Bool} (h : IsS155 w0 W g f0 f1 f2 f3) (x : Int) : IsS155 w0 (W.setCell ⟨g, 1, none⟩ (.int .u8 x)) g f0 x f2 f3 := by
 obtain ⟨hb, hg⟩ := h
 exact ⟨by simpa using blk_set hb 1 (.int .u8 x), hg⟩
theorem cellS155_2 {W : World} {g : Nat} {f0 : Int} {f1 : Int} {f2 : Int} {f3 : Bool} (h : W.heap[g]? = some (.cells #[.int .i64 f0, .int .u8 f1, .int .u8 f2, .bool f3] 155 (0, 0))) : W.cell? ⟨g, 2, none⟩ = some (.int .u8 f2) := (blk_cell h 2).trans rfl
theorem IsS155.set_2 {w0 W : World} {g : Nat} {f0 : Int} {f1 : Int} {f2 : Int} {f3 : Bool} (h : IsS155 w0 W g f0 f1 f2 f3) (x : Int) : IsS155 w0 (W.setCell ⟨g, 2, none⟩ (.int .u8 x)) g f0 f1 x f3 := by
 obtain ⟨hb, hg⟩ := h
 exact ⟨by simpa using blk_set hb 2 (.int .u8 x), hg⟩
theorem cellS155_3 {W : World} {g : Nat} {f0 : Int} {f1 : Int} {f2 : Int} {f3 : Bool} (h : W.heap[g]? = some (.cells #[.int .i64 f0, .int .u8 f1, .int .u8 f2, .bool f3] 155 (0, 0))) : W.cell? ⟨g, 3, none⟩ = some (.bool f3) := (blk_cell h 3).trans rfl
theorem IsS155.set_3 {w0 W : World} {g : Nat} {f0 : Int} {f1 : Int} {f2 : Int} {f3 : Bool} (h : IsS155 w0 W g f0 f1 f2 f3) (x : Bool) : IsS155 w0 (W.setCell ⟨g, 3, none⟩ (.bool x)) g f0 f1 f2 x := by
 obtain ⟨hb, hg⟩ := h
 exact ⟨by simpa using blk_set hb 3 (.bool x), hg⟩
def utf_New.f  : Option (Int × Int × Int × Bool) := some (0, 128, 191, false)
theorem utf_New.calls  (r1 : Int) (r2 : Int) (r3 : Int) (r4 : Bool) (w0 w : World) (hB : Below w0.heap.size w0 w) (h : utf_New.f  = some (r1, r2, r3, r4)) :
  Calls Tryz.prog 64 #[] w fun e w' => ∃ g_ : Nat, e = .returned (.pointer (some ⟨g_, 0, none⟩)) ∧ IsS155 w0 w' g_ r1 r2 r3 r4 ∧ Below w0.heap.size w0 w' ∧ Below w.heap.size w w' := by
 have hf43_0 := field43_0
 have hf87_1 := field87_1
 have hu155 := Tryz.underlying155
 have HBW := a_ (Below.refl w.heap.size w)
 have HW0 := a_ hB.size
 have HB := a_ hB
 clear hB
 have H : (some (0, 128, 191, false)) = some (r1, r2, r3, r4) := h
 clear h
 simp only [Option.some.injEq, Prod.mk.injEq] at H
 obtain ⟨rfl, rfl, rfl, rfl⟩ := H
 go_enter Tryz.func64, Tryz.ntmps64
 go_wp2_with (first | ((with_reducible refine gate_dst (N := 2) rfl ?_); refine box_event ?hg (N := 2) ?hd (cs := #[.int .i64 0, .int .u8 128, .int .u8 191, .bool false]) (t := 155) ?hr ?_; (case hd => rfl); (case hg => rfl); (case hr => first | (go_simp; done) | (go_simp; rfl)); intro gb135 hg w1 hbox hb; obtain ⟨HBW, HB, BK135, GW135, GE135⟩ := And.intro (a_ (below_step HBW.out hb)) (And.intro (a_ (below_step (by exact q2_ HB.out) hb)) (And.intro (a_ (hbox)) (And.intro (a_ ((by rw [hg]; exact (below_size (by exact q2_ HBW.out)) : w.heap.size ≤ gb135))) (a_ ((Nat.le_trans HW0.out (by rw [hg]; exact (below_size (by exact q2_ HBW.out)) : w.heap.size ≤ gb135) : w0.heap.size ≤ gb135)))))); clear hb hbox hg))
 go_ret
 exact ⟨_, rfl, (show IsS155 w0 _ gb135 0 128 191 false from ⟨by (with_reducible repeat (first | refine blk_drewN ?_ _ | refine blk_drew ?_ | refine blk_alloc ?_ _)); exact BK135.out, GE135.out⟩), by exact q3_ HB.out GE135.out, by exact q3_ HBW.out GW135.out⟩
def utf_Checker_Bad.f (s0_0 : Int) (s0_1 : Int) (s0_2 : Int) (s0_3 : Bool) : Option (Bool × Int × Int × Int × Bool) := some (s0_3, s0_0, s0_1, s0_2, s0_3)
theorem utf_Checker_Bad.calls (g : Nat) (s0_0 : Int) (s0_1 : Int) (s0_2 : Int) (s0_3 : Bool) (r1 : Bool) (r2 : Int) (r3 : Int) (r4 : Int) (r5 : Bool) (w0 w : World) (hI : IsS155 w0 w g s0_0 s0_1 s0_2 s0_3) (hB : Below w0.heap.size w0 w) (h : utf_Checker_Bad.f s0_0 s0_1 s0_2 s0_3 = some (r1, r2, r3, r4, r5)) :
  Calls Tryz.prog 96 #[.pointer (some ⟨g, 0, none⟩)] w fun e w' => e = .returned (.bool r1) ∧ IsS155 w0 w' g r2 r3 r4 r5 ∧ Below w0.heap.size w0 w' ∧ KeepBut w w' g none := by
 have hf43_0 := field43_0
 have hf87_1 := field87_1
 have HI0 := a_ hI
 have HK := a_ (KeepBut.refl w g none)
 have HL := a_ hB.size
 clear hI
 have HW0 := a_ hB.size
 have HB := a_ hB
 clear hB
 have H : (some (s0_3, s0_0, s0_1, s0_2, s0_3)) = some (r1, r2, r3, r4, r5) := h
 clear h
 simp only [Option.some.injEq, Prod.mk.injEq] at H
 obtain ⟨rfl, rfl, rfl, rfl, rfl⟩ := H
 obtain ⟨HGz2, hgz2⟩ := HI0.out
 have hcz2_0 := cellS155_0 HGz2
 have hcz2_1 := cellS155_1 HGz2
 have hcz2_2 := cellS155_2 HGz2
 have hcz2_3 := cellS155_3 HGz2
 have hfz2_0 := blk_frozen HGz2 0
 have hfz2_1 := blk_frozen HGz2 1
 have hfz2_2 := blk_frozen HGz2 2
 have hfz2_3 := blk_frozen HGz2 3
 clear HGz2 hgz2
 go_enter Tryz.func96, Tryz.ntmps96
 go_wp2
 go_ret
 exact ⟨by exact q12_, by first | ((exact q9_ HI0.out); done) | (rw [‹((_ : Int) == _) = _›]; ((exact q9_ HI0.out); done)) | (exact q9_ HI0.out), by exact q3_ HB.out (IsS155.ge HI0.out), by exact q5_ HK.out⟩
end Go.Proofs.YtpmeapdcjmaeiaaGreatDoor.PAll

namespace Go.Proofs.YtpmeapdcjmaeiaaGreatDoor.PAll
open Go.RowKit Go.Wa Go.Wb Go.Wc
attribute [local go_sem] max2_int min2_int max_two min_two max_three min_three max_four min_four
mutual
def utf_Checker_first.j2 : Nat → Int → Int → Int → Int → Bool → Option (Bool × Int × Int × Int × Bool)
 | 0, _, _, _, _, _ => none
 | k + 1, x1, x1000, x1001, x1002, x1003 => if x1 = 237 then (some (true, 2, x1001, 159, x1003)) else (some (true, 2, x1001, x1002, x1003))
def utf_Checker_first.j0 : Nat → Int → Bool → Int → Int → Int → Bool → Option (Bool × Int × Int × Int × Bool)
 | 0, _, _, _, _, _, _ => none
 | k + 1, x1, x14, x1000, x1001, x1002, x1003 => if x14 = true then (some (true, 1, x1001, x1002, x1003)) else (if x1 = 224 then (utf_Checker_first.j2 k x1 x1000 160 x1002 x1003) else (if x1 > 224 then (utf_Checker_first.j1 k x1 (decide (x1 ≤ 239)) x1000 x1001 x1002 x1003) else (utf_Checker_first.j1 k x1 false x1000 x1001 x1002 x1003)))
def utf_Checker_first.j1 : Nat → Int → Bool → Int → Int → Int → Bool → Option (Bool × Int × Int × Int × Bool)
 | 0, _, _, _, _, _, _ => none
 | k + 1, x1, x24, x1000, x1001, x1002, x1003 => if x24 = true then (utf_Checker_first.j2 k x1 x1000 x1001 x1002 x1003) else (if x1 = 240 then (if x1 = 244 then (some (true, 3, 144, 143, x1003)) else (some (true, 3, 144, x1002, x1003))) else (if x1 > 240 then (if x1 ≤ 244 then (if x1 = 244 then (some (true, 3, x1001, 143, x1003)) else (some (true, 3, x1001, x1002, x1003))) else (some (false, x1000, x1001, x1002, x1003))) else (some (false, x1000, x1001, x1002, x1003))))
end
def utf_Checker_first.f (k : Nat) (s0_0 : Int) (s0_1 : Int) (s0_2 : Int) (s0_3 : Bool) (a1 : Int) : Option (Bool × Int × Int × Int × Bool) := if a1 < 128 then (some (true, s0_0, 128, 191, s0_3)) else (if a1 ≥ 194 then (utf_Checker_first.j0 k a1 (decide (a1 ≤ 223)) s0_0 128 191 s0_3) else (utf_Checker_first.j0 k a1 false s0_0 128 191 s0_3))
theorem utf_Checker_first.calls (k : Nat) (g : Nat) (s0_0 : Int) (s0_1 : Int) (s0_2 : Int) (s0_3 : Bool) (a1 : Int) (r1 : Bool) (r2 : Int) (r3 : Int) (r4 : Int) (r5 : Bool) (w0 w : World) (hI : IsS155 w0 w g s0_0 s0_1 s0_2 s0_3) (hB : Below w0.heap.size w0 w) (h : utf_Checker_first.f k s0_0 s0_1 s0_2 s0_3 a1 = some (r1, r2, r3, r4, r5)) :
  Calls Tryz.prog 117 #[.pointer (some ⟨g, 0, none⟩), .int .u8 a1] w fun e w' => e = .returned (.bool r1) ∧ IsS155 w0 w' g r2 r3 r4 r5 ∧ Below w0.heap.size w0 w' ∧ KeepBut w w' g none := by
 have hf43_0 := field43_0
 have hf87_1 := field87_1
 have HI0 := a_ hI
 have HK := a_ (KeepBut.refl w g none)
 have HL := a_ hB.size
 clear hI
 have HW0 := a_ hB.size
 have HB := a_ hB
 clear hB
 have H : (if a1 < 128 then (some (true, s0_0, 128, 191, s0_3)) else (if a1 ≥ 194 then (utf_Checker_first.j0 k a1 (decide (a1 ≤ 223)) s0_0 128 191 s0_3) else (utf_Checker_first.j0 k a1 false s0_0 128 191 s0_3))) = some (r1, r2, r3, r4, r5) := h
 clear h
 have HC3 := a_ H
 clear H
 obtain ⟨HGz4, hgz4⟩ := HI0.out
 have hcz4_0 := cellS155_0 HGz4
 have hcz4_1 := cellS155_1 HGz4
 have hcz4_2 := cellS155_2 HGz4
 have hcz4_3 := cellS155_3 HGz4
 have hfz4_0 := blk_frozen HGz4 0
 have hfz4_1 := blk_frozen HGz4 1
 have hfz4_2 := blk_frozen HGz4 2
 have hfz4_3 := blk_frozen HGz4 3
 clear HGz4 hgz4
 go_enter Tryz.func117, Tryz.ntmps117
 go_upto_block 4 with (fail)
 go_cut [] (fun wc => ∃ (kq : Nat) (x1000_2 : Int) (x1001_2 : Int), Aside0 (utf_Checker_first.j2 kq a1 x1000_2 x1001_2 191 s0_3 = some (r1, r2, r3, r4, r5)) ∧ Aside0 (kq ≤ k) ∧ Aside0 (IsS155 w0 wc g x1000_2 x1001_2 191 s0_3) ∧ Aside0 (KeepBut w wc g none) ∧ Aside0 (Below w0.heap.size w0 wc))
 case first =>
  have H := HC3.out
  clear HC3
  by_cases c5 : a1 < 128
  ·rw [if_pos c5] at H
   have c5b0 : decide (a1 < 128) = true := decide_eq_true c5
   clear c5
   (first | rw [c5b0] | (simp only [i64_w, i32_w]; rw [c5b0]) | skip)
   simp only [Option.some.injEq, Prod.mk.injEq] at H
   obtain ⟨rfl, rfl, rfl, rfl, rfl⟩ := H
   go_wp2
   go_ret
   exact ⟨by exact q12_, by first | ((exact q9_ HI0.out); done) | (rw [‹((_ : Int) == _) = _›]; ((exact q9_ HI0.out); done)) | (exact q9_ HI0.out), by exact q3_ HB.out (IsS155.ge HI0.out), by exact q5_ HK.out⟩
  ·rw [if_neg c5] at H
   have c5b0 : decide (a1 < 128) = false := decide_eq_false c5
   clear c5
   (first | rw [c5b0] | (simp only [i64_w, i32_w]; rw [c5b0]) | skip)
   have HC6 := a_ H
   clear H
   go_upto_region 3 with (fail)
   go_cut [14] (fun v14 wc => ∃ (kq : Nat) (x14_5 : Bool), v14 = .bool x14_5 ∧ Aside0 (utf_Checker_first.j0 kq a1 x14_5 s0_0 128 191 s0_3 = some (r1, r2, r3, r4, r5)) ∧ Aside0 (kq ≤ k) ∧ Aside0 (IsS155 w0 wc g s0_0 128 191 s0_3) ∧ Aside0 (KeepBut w wc g none) ∧ Aside0 (Below w0.heap.size w0 wc))
   case first =>
    have H := HC6.out
    clear HC6
    by_cases c7 : a1 ≥ 194
    ·rw [if_pos c7] at H
     have c7b0 : decide (194 ≤ a1) = true := decide_eq_true c7
     clear c7
     (first | rw [c7b0] | (simp only [i64_w, i32_w]; rw [c7b0]) | skip)
     have H' := a_ H
     clear H
     go_wp2
     go_meet
     case rel => exact ⟨_, (decide (a1 ≤ 223)), (by first | rfl | (simp; done) | (simp [*]; done)), H', ⟨by first | omega | exact Nat.le_refl _⟩, ⟨by exact q9_ HI0.out⟩, ⟨by exact q5_ HK.out⟩, ⟨by exact q3_ HB.out (IsS155.ge HI0.out)⟩⟩
    ·rw [if_neg c7] at H
     have c7b0 : decide (194 ≤ a1) = false := decide_eq_false c7
     clear c7
     (first | rw [c7b0] | (simp only [i64_w, i32_w]; rw [c7b0]) | skip)
     have H' := a_ H
     clear H
     go_wp2
     go_meet
     case rel => exact ⟨_, (false), (by first | rfl | (simp; done) | (simp [*]; done)), H', ⟨by first | omega | exact Nat.le_refl _⟩, ⟨by exact q9_ HI0.out⟩, ⟨by exact q5_ HK.out⟩, ⟨by exact q3_ HB.out (IsS155.ge HI0.out)⟩⟩
   case rest =>
    clear HC6
    try clear c5
    try clear c5b0
    try clear c7
    try clear c7b0
    try clear hcz4_0
    try clear hcz4_1
    try clear hcz4_2
    try clear hcz4_3
    try clear hfz4_0
    try clear hfz4_1
    try clear hfz4_2
    try clear hfz4_3
    obtain ⟨kq, x14_5, rfl, HA, HJ5, HI0, HK, HB⟩ := hcut
    cases kq with
    | zero => exact absurd HA.out (by simp [utf_Checker_first.j0])
    | succ kj5 =>
     have H := HA.out
     clear HA
     simp only [utf_Checker_first.j0] at H
     by_cases c8 : x14_5 = true
     ·subst c8
      rw [if_pos rfl] at H
      simp only [Option.some.injEq, Prod.mk.injEq] at H
      obtain ⟨rfl, rfl, rfl, rfl, rfl⟩ := H
      obtain ⟨HGz9, hgz9⟩ := HI0.out
      have hcz9_0 := cellS155_0 HGz9
      have hcz9_1 := cellS155_1 HGz9
      have hcz9_2 := cellS155_2 HGz9
      have hcz9_3 := cellS155_3 HGz9
      have hfz9_0 := blk_frozen HGz9 0
      have hfz9_1 := blk_frozen HGz9 1
      have hfz9_2 := blk_frozen HGz9 2
      have hfz9_3 := blk_frozen HGz9 3
      clear HGz9 hgz9
      go_wp2
      go_ret
      exact ⟨by exact q12_, by first | ((exact q9_ HI0.out); done) | (rw [‹((_ : Int) == _) = _›]; ((exact q9_ HI0.out); done)) | (exact q9_ HI0.out), by exact q3_ HB.out (IsS155.ge HI0.out), by exact q5_ HK.out⟩
     ·replace c8 := Bool.eq_false_iff.mpr c8
      subst c8
      rw [if_neg (show ¬ (false = true) by decide)] at H
      by_cases c10 : a1 = 224
      ·rw [if_pos c10] at H
       have c10b0 : (a1 == 224) = true := beq_iff_eq.mpr c10
       have c10b1 : (a1 != 224) = false := bne_eq_false_iff_eq.mpr c10
       clear c10
       have H' := a_ H
       clear H
       obtain ⟨HGz11, hgz11⟩ := HI0.out
       have hcz11_0 := cellS155_0 HGz11
       have hcz11_1 := cellS155_1 HGz11
       have hcz11_2 := cellS155_2 HGz11
       have hcz11_3 := cellS155_3 HGz11
       have hfz11_0 := blk_frozen HGz11 0
       have hfz11_1 := blk_frozen HGz11 1
       have hfz11_2 := blk_frozen HGz11 2
       have hfz11_3 := blk_frozen HGz11 3
       clear HGz11 hgz11
       go_wp2
       go_meet
       case rel => exact ⟨_, (s0_0), (160), H', ⟨by have := HJ5.out; first | omega | exact Nat.le_refl _⟩, ⟨by exact q9_ HI0.out⟩, ⟨by exact q5_ HK.out⟩, ⟨by exact q3_ HB.out (IsS155.ge HI0.out)⟩⟩
      ·rw [if_neg c10] at H
       have c10b0 : (a1 == 224) = false := nb_ c10
       have c10b1 : (a1 != 224) = true := bne_iff_ne.mpr c10
       have HC12 := a_ H
       clear H
       go_upto_region 5 with (fail)
       go_cut [24] (fun v24 wc => ∃ (kq : Nat) (x24_11 : Bool), v24 = .bool x24_11 ∧ Aside0 (utf_Checker_first.j1 kq a1 x24_11 s0_0 128 191 s0_3 = some (r1, r2, r3, r4, r5)) ∧ Aside0 (kq ≤ kj5) ∧ Aside0 (IsS155 w0 wc g s0_0 128 191 s0_3) ∧ Aside0 (KeepBut w wc g none) ∧ Aside0 (Below w0.heap.size w0 wc))
       case first =>
        have H := HC12.out
        clear HC12
        by_cases c13 : a1 > 224
        ·rw [if_pos c13] at H
         have c13b0 : decide (224 < a1) = true := decide_eq_true c13
         clear c13
         (first | rw [c13b0] | (simp only [i64_w, i32_w]; rw [c13b0]) | skip)
         have H' := a_ H
         clear H
         go_wp2
         go_meet
         case rel => exact ⟨_, (decide (a1 ≤ 239)), (by first | rfl | (simp; done) | (simp [*]; done)), H', ⟨by have := HJ5.out; first | omega | exact Nat.le_refl _⟩, ⟨by exact q9_ HI0.out⟩, ⟨by exact q5_ HK.out⟩, ⟨by exact q3_ HB.out (IsS155.ge HI0.out)⟩⟩
        ·rw [if_neg c13] at H
         have c13b0 : decide (224 < a1) = false := decide_eq_false c13
         clear c13
         (first | rw [c13b0] | (simp only [i64_w, i32_w]; rw [c13b0]) | skip)
         have H' := a_ H
         clear H
         go_wp2
         go_meet
         case rel => exact ⟨_, (false), (by first | rfl | (simp; done) | (simp [*]; done)), H', ⟨by have := HJ5.out; first | omega | exact Nat.le_refl _⟩, ⟨by exact q9_ HI0.out⟩, ⟨by exact q5_ HK.out⟩, ⟨by exact q3_ HB.out (IsS155.ge HI0.out)⟩⟩
       case rest =>
        clear HC12
        try clear c5
        try clear c5b0
        try clear c7
        try clear c7b0
        try clear c8
        try clear c10
        try clear c10b0
        try clear c10b1
        try clear c13
        try clear c13b0
        try clear hcz11_0
        try clear hcz11_1
        try clear hcz11_2
        try clear hcz11_3
        try clear hcz4_0
        try clear hcz4_1
        try clear hcz4_2
        try clear hcz4_3
        try clear hcz9_0
        try clear hcz9_1
        try clear hcz9_2
        try clear hcz9_3
        try clear hfz11_0
        try clear hfz11_1
        try clear hfz11_2
        try clear hfz11_3
        try clear hfz4_0
        try clear hfz4_1
        try clear hfz4_2
        try clear hfz4_3
        try clear hfz9_0
        try clear hfz9_1
        try clear hfz9_2
        try clear hfz9_3
        obtain ⟨kq, x24_11, rfl, HA, HJ11, HI0, HK, HB⟩ := hcut
        cases kq with
        | zero => exact absurd HA.out (by simp [utf_Checker_first.j1])
        | succ kj11 =>
         have H := HA.out
         clear HA
         simp only [utf_Checker_first.j1] at H
         by_cases c14 : x24_11 = true
         ·subst c14
          rw [if_pos rfl] at H
          have H' := a_ H
          clear H
          go_wp2
          go_meet
          case rel => exact ⟨_, (s0_0), (128), H', ⟨by have := HJ5.out; have := HJ11.out; first | omega | exact Nat.le_refl _⟩, ⟨by exact q9_ HI0.out⟩, ⟨by exact q5_ HK.out⟩, ⟨by exact q3_ HB.out (IsS155.ge HI0.out)⟩⟩
         ·replace c14 := Bool.eq_false_iff.mpr c14
          subst c14
          rw [if_neg (show ¬ (false = true) by decide)] at H
          by_cases c15 : a1 = 240
          ·rw [if_pos c15] at H
           have c15b0 : (a1 == 240) = true := beq_iff_eq.mpr c15
           have c15b1 : (a1 != 240) = false := bne_eq_false_iff_eq.mpr c15
           clear c15
           by_cases c16 : a1 = 244
           ·rw [if_pos c16] at H
            have c16b0 : (a1 == 244) = true := beq_iff_eq.mpr c16
            have c16b1 : (a1 != 244) = false := bne_eq_false_iff_eq.mpr c16
            clear c16
            simp only [Option.some.injEq, Prod.mk.injEq] at H
            obtain ⟨rfl, rfl, rfl, rfl, rfl⟩ := H
            obtain ⟨HGz17, hgz17⟩ := HI0.out
            have hcz17_0 := cellS155_0 HGz17
            have hcz17_1 := cellS155_1 HGz17
            have hcz17_2 := cellS155_2 HGz17
            have hcz17_3 := cellS155_3 HGz17
            have hfz17_0 := blk_frozen HGz17 0
            have hfz17_1 := blk_frozen HGz17 1
            have hfz17_2 := blk_frozen HGz17 2
            have hfz17_3 := blk_frozen HGz17 3
            clear HGz17 hgz17
            go_wp2
            go_ret
            exact ⟨by exact q12_, by first | ((exact q9_ HI0.out); done) | (rw [‹((_ : Int) == _) = _›]; ((exact q9_ HI0.out); done)) | (exact q9_ HI0.out), by exact q3_ HB.out (IsS155.ge HI0.out), by exact q5_ HK.out⟩
           ·rw [if_neg c16] at H
            have c16b0 : (a1 == 244) = false := nb_ c16
            have c16b1 : (a1 != 244) = true := bne_iff_ne.mpr c16
            simp only [Option.some.injEq, Prod.mk.injEq] at H
            obtain ⟨rfl, rfl, rfl, rfl, rfl⟩ := H
            obtain ⟨HGz18, hgz18⟩ := HI0.out
            have hcz18_0 := cellS155_0 HGz18
            have hcz18_1 := cellS155_1 HGz18
            have hcz18_2 := cellS155_2 HGz18
            have hcz18_3 := cellS155_3 HGz18
            have hfz18_0 := blk_frozen HGz18 0
            have hfz18_1 := blk_frozen HGz18 1
            have hfz18_2 := blk_frozen HGz18 2
            have hfz18_3 := blk_frozen HGz18 3
            clear HGz18 hgz18
            go_wp2
            go_ret
            exact ⟨by exact q12_, by first | ((exact q9_ HI0.out); done) | (rw [‹((_ : Int) == _) = _›]; ((exact q9_ HI0.out); done)) | (exact q9_ HI0.out), by exact q3_ HB.out (IsS155.ge HI0.out), by exact q5_ HK.out⟩
          ·rw [if_neg c15] at H
           have c15b0 : (a1 == 240) = false := nb_ c15
           have c15b1 : (a1 != 240) = true := bne_iff_ne.mpr c15
           by_cases c19 : a1 > 240
           ·rw [if_pos c19] at H
            have c19b0 : decide (240 < a1) = true := decide_eq_true c19
            clear c19
            by_cases c20 : a1 ≤ 244
            ·rw [if_pos c20] at H
             have c20b0 : decide (a1 ≤ 244) = true := decide_eq_true c20
             clear c20
             by_cases c21 : a1 = 244
             ·rw [if_pos c21] at H
              have c21b0 : (a1 == 244) = true := beq_iff_eq.mpr c21
              have c21b1 : (a1 != 244) = false := bne_eq_false_iff_eq.mpr c21
              clear c21
              simp only [Option.some.injEq, Prod.mk.injEq] at H
              obtain ⟨rfl, rfl, rfl, rfl, rfl⟩ := H
              obtain ⟨HGz22, hgz22⟩ := HI0.out
              have hcz22_0 := cellS155_0 HGz22
              have hcz22_1 := cellS155_1 HGz22
              have hcz22_2 := cellS155_2 HGz22
              have hcz22_3 := cellS155_3 HGz22
              have hfz22_0 := blk_frozen HGz22 0
              have hfz22_1 := blk_frozen HGz22 1
              have hfz22_2 := blk_frozen HGz22 2
              have hfz22_3 := blk_frozen HGz22 3
              clear HGz22 hgz22
              go_wp2
              go_ret
              exact ⟨by exact q12_, by first | ((exact q9_ HI0.out); done) | (rw [‹((_ : Int) == _) = _›]; ((exact q9_ HI0.out); done)) | (exact q9_ HI0.out), by exact q3_ HB.out (IsS155.ge HI0.out), by exact q5_ HK.out⟩
             ·rw [if_neg c21] at H
              have c21b0 : (a1 == 244) = false := nb_ c21
              have c21b1 : (a1 != 244) = true := bne_iff_ne.mpr c21
              simp only [Option.some.injEq, Prod.mk.injEq] at H
              obtain ⟨rfl, rfl, rfl, rfl, rfl⟩ := H
              obtain ⟨HGz23, hgz23⟩ := HI0.out
              have hcz23_0 := cellS155_0 HGz23
              have hcz23_1 := cellS155_1 HGz23
              have hcz23_2 := cellS155_2 HGz23
              have hcz23_3 := cellS155_3 HGz23
              have hfz23_0 := blk_frozen HGz23 0
              have hfz23_1 := blk_frozen HGz23 1
              have hfz23_2 := blk_frozen HGz23 2
              have hfz23_3 := blk_frozen HGz23 3
              clear HGz23 hgz23
              go_wp2
              go_ret
              exact ⟨by exact q12_, by first | ((exact q9_ HI0.out); done) | (rw [‹((_ : Int) == _) = _›]; ((exact q9_ HI0.out); done)) | (exact q9_ HI0.out), by exact q3_ HB.out (IsS155.ge HI0.out), by exact q5_ HK.out⟩
            ·rw [if_neg c20] at H
             have c20b0 : decide (a1 ≤ 244) = false := decide_eq_false c20
             clear c20
             simp only [Option.some.injEq, Prod.mk.injEq] at H
             obtain ⟨rfl, rfl, rfl, rfl, rfl⟩ := H
             go_wp2
             go_ret
             exact ⟨by exact q12_, by first | ((exact q9_ HI0.out); done) | (rw [‹((_ : Int) == _) = _›]; ((exact q9_ HI0.out); done)) | (exact q9_ HI0.out), by exact q3_ HB.out (IsS155.ge HI0.out), by exact q5_ HK.out⟩
           ·rw [if_neg c19] at H
            have c19b0 : decide (240 < a1) = false := decide_eq_false c19
            clear c19
            simp only [Option.some.injEq, Prod.mk.injEq] at H
            obtain ⟨rfl, rfl, rfl, rfl, rfl⟩ := H
            go_wp2
            go_ret
            exact ⟨by exact q12_, by first | ((exact q9_ HI0.out); done) | (rw [‹((_ : Int) == _) = _›]; ((exact q9_ HI0.out); done)) | (exact q9_ HI0.out), by exact q3_ HB.out (IsS155.ge HI0.out), by exact q5_ HK.out⟩
 case rest =>
  clear HC3
  try clear c5
  try clear c5b0
  try clear c7
  try clear c7b0
  try clear c8
  try clear c10
  try clear c10b0
  try clear c10b1
  try clear c13
  try clear c13b0
  try clear c14
  try clear c15
  try clear c15b0
  try clear c15b1
  try clear c16
  try clear c16b0
  try clear c16b1
  try clear c19
  try clear c19b0
  try clear c20
  try clear c20b0
  try clear c21
  try clear c21b0
  try clear c21b1
  try clear hcz11_0
  try clear hcz11_1
  try clear hcz11_2
  try clear hcz11_3
  try clear hcz17_0
  try clear hcz17_1
  try clear hcz17_2
  try clear hcz17_3
  try clear hcz18_0
  try clear hcz18_1
  try clear hcz18_2
  try clear hcz18_3
  try clear hcz22_0
  try clear hcz22_1
  try clear hcz22_2
  try clear hcz22_3
  try clear hcz23_0
  try clear hcz23_1
  try clear hcz23_2
  try clear hcz23_3
  try clear hcz4_0
  try clear hcz4_1
  try clear hcz4_2
  try clear hcz4_3
  try clear hcz9_0
  try clear hcz9_1
  try clear hcz9_2
  try clear hcz9_3
  try clear hfz11_0
  try clear hfz11_1
  try clear hfz11_2
  try clear hfz11_3
  try clear hfz17_0
  try clear hfz17_1
  try clear hfz17_2
  try clear hfz17_3
  try clear hfz18_0
  try clear hfz18_1
  try clear hfz18_2
  try clear hfz18_3
  try clear hfz22_0
  try clear hfz22_1
  try clear hfz22_2
  try clear hfz22_3
  try clear hfz23_0
  try clear hfz23_1
  try clear hfz23_2
  try clear hfz23_3
  try clear hfz4_0
  try clear hfz4_1
  try clear hfz4_2
  try clear hfz4_3
  try clear hfz9_0
  try clear hfz9_1
  try clear hfz9_2
  try clear hfz9_3
  obtain ⟨kq, x1000_2, x1001_2, HA, HJ2, HI0, HK, HB⟩ := hcut
  cases kq with
  | zero => exact absurd HA.out (by simp [utf_Checker_first.j2])
  | succ kj2 =>
   have H := HA.out
   clear HA
   simp only [utf_Checker_first.j2] at H
   by_cases c24 : a1 = 237
   ·rw [if_pos c24] at H
    have c24b0 : (a1 == 237) = true := beq_iff_eq.mpr c24
    have c24b1 : (a1 != 237) = false := bne_eq_false_iff_eq.mpr c24
    clear c24
    simp only [Option.some.injEq, Prod.mk.injEq] at H
    obtain ⟨rfl, rfl, rfl, rfl, rfl⟩ := H
    obtain ⟨HGz25, hgz25⟩ := HI0.out
    have hcz25_0 := cellS155_0 HGz25
    have hcz25_1 := cellS155_1 HGz25
    have hcz25_2 := cellS155_2 HGz25
    have hcz25_3 := cellS155_3 HGz25
    have hfz25_0 := blk_frozen HGz25 0
    have hfz25_1 := blk_frozen HGz25 1
    have hfz25_2 := blk_frozen HGz25 2
    have hfz25_3 := blk_frozen HGz25 3
    clear HGz25 hgz25
    go_wp2
    go_ret
    exact ⟨by exact q12_, by first | ((exact q9_ HI0.out); done) | (rw [‹((_ : Int) == _) = _›]; ((exact q9_ HI0.out); done)) | (exact q9_ HI0.out), by exact q3_ HB.out (IsS155.ge HI0.out), by exact q5_ HK.out⟩
   ·rw [if_neg c24] at H
    have c24b0 : (a1 == 237) = false := nb_ c24
    have c24b1 : (a1 != 237) = true := bne_iff_ne.mpr c24
    simp only [Option.some.injEq, Prod.mk.injEq] at H
    obtain ⟨rfl, rfl, rfl, rfl, rfl⟩ := H
    obtain ⟨HGz26, hgz26⟩ := HI0.out
    have hcz26_0 := cellS155_0 HGz26
    have hcz26_1 := cellS155_1 HGz26
    have hcz26_2 := cellS155_2 HGz26
    have hcz26_3 := cellS155_3 HGz26
    have hfz26_0 := blk_frozen HGz26 0
    have hfz26_1 := blk_frozen HGz26 1
    have hfz26_2 := blk_frozen HGz26 2
    have hfz26_3 := blk_frozen HGz26 3
    clear HGz26 hgz26
    go_wp2
    go_ret
    exact ⟨by exact q12_, by first | ((exact q9_ HI0.out); done) | (rw [‹((_ : Int) == _) = _›]; ((exact q9_ HI0.out); done)) | (exact q9_ HI0.out), by exact q3_ HB.out (IsS155.ge HI0.out), by exact q5_ HK.out⟩
def utf_Checker_one.f (k : Nat) (s0_0 : Int) (s0_1 : Int) (s0_2 : Int) (s0_3 : Bool) (a1 : Int) : Option (Bool × Int × Int × Int × Bool) := if s0_0 = 0 then ((utf_Checker_first.f k s0_0 s0_1 s0_2 s0_3 a1).bind fun bt136 => (some (bt136.1, bt136.2.1, bt136.2.2.1, bt136.2.2.2.1, bt136.2.2.2.2))) else (if a1 < s0_1 then (some (false, s0_0, s0_1, s0_2, s0_3)) else (if a1 > s0_2 then (some (false, s0_0, s0_1, s0_2, s0_3)) else (some (true, wrap64 (s0_0 - 1), 128, 191, s0_3))))
theorem utf_Checker_one.calls (k : Nat) (g : Nat) (s0_0 : Int) (s0_1 : Int) (s0_2 : Int) (s0_3 : Bool) (a1 : Int) (r1 : Bool) (r2 : Int) (r3 : Int) (r4 : Int) (r5 : Bool) (w0 w : World) (hI : IsS155 w0 w g s0_0 s0_1 s0_2 s0_3) (hB : Below w0.heap.size w0 w) (h : utf_Checker_one.f k s0_0 s0_1 s0_2 s0_3 a1 = some (r1, r2, r3, r4, r5)) :
  Calls Tryz.prog 97 #[.pointer (some ⟨g, 0, none⟩), .int .u8 a1] w fun e w' => e = .returned (.bool r1) ∧ IsS155 w0 w' g r2 r3 r4 r5 ∧ Below w0.heap.size w0 w' ∧ KeepBut w w' g none := by
 have hf43_0 := field43_0
 have hf87_1 := field87_1
 have HI0 := a_ hI
 have HK := a_ (KeepBut.refl w g none)
 have HL := a_ hB.size
 clear hI
 have HW0 := a_ hB.size
 have HB := a_ hB
 clear hB
 have H : (if s0_0 = 0 then ((utf_Checker_first.f k s0_0 s0_1 s0_2 s0_3 a1).bind fun bt136 => (some (bt136.1, bt136.2.1, bt136.2.2.1, bt136.2.2.2.1, bt136.2.2.2.2))) else (if a1 < s0_1 then (some (false, s0_0, s0_1, s0_2, s0_3)) else (if a1 > s0_2 then (some (false, s0_0, s0_1, s0_2, s0_3)) else (some (true, wrap64 (s0_0 - 1), 128, 191, s0_3))))) = some (r1, r2, r3, r4, r5) := h
 clear h
 by_cases c3 : s0_0 = 0
 ·rw [if_pos c3] at H
  have c3b0 : (s0_0 == 0) = true := beq_iff_eq.mpr c3
  have c3b1 : (s0_0 != 0) = false := bne_eq_false_iff_eq.mpr c3
  clear c3
  replace H := Option.bind_eq_some_iff.mp H
  obtain ⟨⟨t136, t137, t138, t139, t140⟩, A40, H⟩ := H
  try dsimp only at H
  have A4 := a_ A40
  clear A40
  simp only [Option.some.injEq, Prod.mk.injEq] at H
  obtain ⟨rfl, rfl, rfl, rfl, rfl⟩ := H
  obtain ⟨HGz5, hgz5⟩ := HI0.out
  have hcz5_0 := cellS155_0 HGz5
  have hcz5_1 := cellS155_1 HGz5
  have hcz5_2 := cellS155_2 HGz5
  have hcz5_3 := cellS155_3 HGz5
  have hfz5_0 := blk_frozen HGz5 0
  have hfz5_1 := blk_frozen HGz5 1
  have hfz5_2 := blk_frozen HGz5 2
  have hfz5_3 := blk_frozen HGz5 3
  clear HGz5 hgz5
  go_enter Tryz.func97, Tryz.ntmps97
  go_wp2_with (first | ((with_reducible refine gate_callee (f := 117) rfl ?_); refine goesL_ (some 12) rfl rfl Tryz.func117 (by kernel_rfl) rfl #[.pointer (some ⟨g, 0, none⟩), .int .u8 a1] rfl (by exact q1_) ?_; (with_reducible refine (utf_Checker_first.calls k g s0_0 s0_1 s0_2 s0_3 a1 t136 t137 t138 t139 t140 w0 _ ?side1 ?side2 A4.out).mono ?_); (case side1 => exact q9_ HI0.out); (case side2 => exact q3_ HB.out (IsS155.ge HI0.out)); rintro e w6 ⟨rfl, hi, hb, hk⟩; refine ⟨_, rfl, ?_⟩; obtain ⟨HK, HB, HI0⟩ := And.intro (a_ (KeepBut.trans (by exact q5_ HK.out) hk (.inl rfl))) (And.intro (a_ (hb)) (a_ (hi))); (try clear hb); (try clear hb2); (try clear hk); (try clear hi)))
  go_ret
  exact ⟨by exact q12_, by first | ((exact q9_ HI0.out); done) | (rw [‹((_ : Int) == _) = _›]; ((exact q9_ HI0.out); done)) | (exact q9_ HI0.out), by exact q3_ HB.out (IsS155.ge HI0.out), by exact q5_ HK.out⟩
 ·rw [if_neg c3] at H
  have c3b0 : (s0_0 == 0) = false := nb_ c3
  have c3b1 : (s0_0 != 0) = true := bne_iff_ne.mpr c3
  by_cases c7 : a1 < s0_1
  ·rw [if_pos c7] at H
   have c7b0 : decide (a1 < s0_1) = true := decide_eq_true c7
   clear c7
   simp only [Option.some.injEq, Prod.mk.injEq] at H
   obtain ⟨rfl, rfl, rfl, rfl, rfl⟩ := H
   obtain ⟨HGz8, hgz8⟩ := HI0.out
   have hcz8_0 := cellS155_0 HGz8
   have hcz8_1 := cellS155_1 HGz8
   have hcz8_2 := cellS155_2 HGz8
   have hcz8_3 := cellS155_3 HGz8
   have hfz8_0 := blk_frozen HGz8 0
   have hfz8_1 := blk_frozen HGz8 1
   have hfz8_2 := blk_frozen HGz8 2
   have hfz8_3 := blk_frozen HGz8 3
   clear HGz8 hgz8
   go_enter Tryz.func97, Tryz.ntmps97
   go_wp2
   go_ret
   exact ⟨by exact q12_, by first | ((exact q9_ HI0.out); done) | (rw [‹((_ : Int) == _) = _›]; ((exact q9_ HI0.out); done)) | (exact q9_ HI0.out), by exact q3_ HB.out (IsS155.ge HI0.out), by exact q5_ HK.out⟩
  ·rw [if_neg c7] at H
   have c7b0 : decide (a1 < s0_1) = false := decide_eq_false c7
   clear c7
   by_cases c9 : a1 > s0_2
   ·rw [if_pos c9] at H
    have c9b0 : decide (s0_2 < a1) = true := decide_eq_true c9
    clear c9
    simp only [Option.some.injEq, Prod.mk.injEq] at H
    obtain ⟨rfl, rfl, rfl, rfl, rfl⟩ := H
    obtain ⟨HGz10, hgz10⟩ := HI0.out
    have hcz10_0 := cellS155_0 HGz10
    have hcz10_1 := cellS155_1 HGz10
    have hcz10_2 := cellS155_2 HGz10
    have hcz10_3 := cellS155_3 HGz10
    have hfz10_0 := blk_frozen HGz10 0
    have hfz10_1 := blk_frozen HGz10 1
    have hfz10_2 := blk_frozen HGz10 2
    have hfz10_3 := blk_frozen HGz10 3
    clear HGz10 hgz10
    go_enter Tryz.func97, Tryz.ntmps97
    go_wp2
    go_ret
    exact ⟨by exact q12_, by first | ((exact q9_ HI0.out); done) | (rw [‹((_ : Int) == _) = _›]; ((exact q9_ HI0.out); done)) | (exact q9_ HI0.out), by exact q3_ HB.out (IsS155.ge HI0.out), by exact q5_ HK.out⟩
   ·rw [if_neg c9] at H
    have c9b0 : decide (s0_2 < a1) = false := decide_eq_false c9
    clear c9
    simp only [Option.some.injEq, Prod.mk.injEq] at H
    obtain ⟨rfl, rfl, rfl, rfl, rfl⟩ := H
    obtain ⟨HGz11, hgz11⟩ := HI0.out
    have hcz11_0 := cellS155_0 HGz11
    have hcz11_1 := cellS155_1 HGz11
    have hcz11_2 := cellS155_2 HGz11
    have hcz11_3 := cellS155_3 HGz11
    have hfz11_0 := blk_frozen HGz11 0
    have hfz11_1 := blk_frozen HGz11 1
    have hfz11_2 := blk_frozen HGz11 2
    have hfz11_3 := blk_frozen HGz11 3
    clear HGz11 hgz11
    go_enter Tryz.func97, Tryz.ntmps97
    go_wp2
    go_ret
    exact ⟨by exact q12_, by first | ((exact q9_ HI0.out); done) | (rw [‹((_ : Int) == _) = _›]; ((exact q9_ HI0.out); done)) | (exact q9_ HI0.out), by exact q3_ HB.out (IsS155.ge HI0.out), by exact q5_ HK.out⟩
def utf_Checker_Feed.l0 : Nat → List Int → List Int → Int → Int → Int → Int → Int → Bool → Option (Int × Int × Int × Int × Bool)
 | 0, _, _, _, _, _, _, _, _ => none
 | k + 1, x1, x9, x10, x11, x1000, x1001, x1002, x1003 => if x11 < x10 then (if 0 ≤ x11 then (if x11 < (x9.length : Int) then ((utf_Checker_one.f k x1000 x1001 x1002 x1003 (rd x9 x11)).bind fun bt147 => (if bt147.1 = true then (utf_Checker_Feed.l0 k x1 x9 x10 (wrap64 (x11 + 1)) bt147.2.1 bt147.2.2.1 bt147.2.2.2.1 bt147.2.2.2.2) else (some (x11, bt147.2.1, bt147.2.2.1, bt147.2.2.2.1, true)))) else (none)) else (none)) else (some ((x1.length : Int), x1000, x1001, x1002, x1003))
def utf_Checker_Feed.f (k : Nat) (s0_0 : Int) (s0_1 : Int) (s0_2 : Int) (s0_3 : Bool) (l1 : List Int) : Option (Int × Int × Int × Int × Bool) := (utf_Checker_Bad.f s0_0 s0_1 s0_2 s0_3).bind fun bt141 => (if bt141.1 = true then (some (0, bt141.2.1, bt141.2.2.1, bt141.2.2.2.1, bt141.2.2.2.2)) else (utf_Checker_Feed.l0 k l1 l1 (l1.length : Int) 0 bt141.2.1 bt141.2.2.1 bt141.2.2.2.1 bt141.2.2.2.2))
theorem utf_Checker_Feed.calls (k : Nat) (g : Nat) (s0_0 : Int) (s0_1 : Int) (s0_2 : Int) (s0_3 : Bool) (A1 : Option Addr) (c1 : Nat) (l1 : List Int) (r1 : Int) (r2 : Int) (r3 : Int) (r4 : Int) (r5 : Bool) (w0 w : World) (hI : IsS155 w0 w g s0_0 s0_1 s0_2 s0_3) (hB : Below w0.heap.size w0 w) (hr1 : Kd.C (Kd.int .u8) w A1 l1.length l1) (hc1 : l1.length ≤ c1) (hf1 : ∀ ad, A1 = some ad → 0 < l1.length → ad.block ≠ g) (h : utf_Checker_Feed.f k s0_0 s0_1 s0_2 s0_3 l1 = some (r1, r2, r3, r4, r5)) :
  Calls Tryz.prog 65 #[.pointer (some ⟨g, 0, none⟩), .slice A1 l1.length c1] w fun e w' => e = .returned (.int .i64 r1) ∧ IsS155 w0 w' g r2 r3 r4 r5 ∧ Below w0.heap.size w0 w' ∧ KeepBut w w' g none := by
 have hf43_0 := field43_0
 have hf87_1 := field87_1
 have HR1 := a_ hr1
 have HC1 := a_ hc1
 clear hr1 hc1
 have HI0 := a_ hI
 have HK := a_ (KeepBut.refl w g none)
 have HL := a_ hB.size
 clear hI
 have HW0 := a_ hB.size
 have HB := a_ hB
 clear hB
 have H : ((utf_Checker_Bad.f s0_0 s0_1 s0_2 s0_3).bind fun bt141 => (if bt141.1 = true then (some (0, bt141.2.1, bt141.2.2.1, bt141.2.2.2.1, bt141.2.2.2.2)) else (utf_Checker_Feed.l0 k l1 l1 (l1.length : Int) 0 bt141.2.1 bt141.2.2.1 bt141.2.2.2.1 bt141.2.2.2.2))) = some (r1, r2, r3, r4, r5) := h
 clear h
 replace H := Option.bind_eq_some_iff.mp H
 obtain ⟨⟨t141, t142, t143, t144, t145⟩, A30, H⟩ := H
 try dsimp only at H
 have A3 := a_ A30
 clear A30
 by_cases c4 : t141 = true
 ·subst c4
  rw [if_pos rfl] at H
  simp only [Option.some.injEq, Prod.mk.injEq] at H
  obtain ⟨rfl, rfl, rfl, rfl, rfl⟩ := H
  go_enter Tryz.func65, Tryz.ntmps65
  go_wp2_with (first | ((with_reducible refine gate_callee (f := 96) rfl ?_); refine goesL_ (some 8) rfl rfl Tryz.func96 (by kernel_rfl) rfl #[.pointer (some ⟨g, 0, none⟩)] rfl (by exact q1_) ?_; (with_reducible refine (utf_Checker_Bad.calls g s0_0 s0_1 s0_2 s0_3 true t142 t143 t144 t145 w0 _ ?side1 ?side2 A3.out).mono ?_); (case side1 => exact q9_ HI0.out); (case side2 => exact q3_ HB.out (IsS155.ge HI0.out)); rintro e w5 ⟨rfl, hi, hb, hk⟩; refine ⟨_, rfl, ?_⟩; obtain ⟨HK, HB, HI0⟩ := And.intro (a_ (KeepBut.trans (by exact q5_ HK.out) hk (.inl rfl))) (And.intro (a_ (hb)) (a_ (hi))); (try clear hb); (try clear hb2); (try clear hk); (try clear hi)))
  go_ret
  exact ⟨by exact q12_, by first | ((exact q9_ HI0.out); done) | (rw [‹((_ : Int) == _) = _›]; ((exact q9_ HI0.out); done)) | (exact q9_ HI0.out), by exact q3_ HB.out (IsS155.ge HI0.out), by exact q5_ HK.out⟩
 ·replace c4 := Bool.eq_false_iff.mpr c4
  subst c4
  rw [if_neg (show ¬ (false = true) by decide)] at H
  have H' := a_ H
  clear H
  go_enter Tryz.func65, Tryz.ntmps65
  go_wp2_with (first | ((with_reducible refine gate_callee (f := 96) rfl ?_); refine goesL_ (some 8) rfl rfl Tryz.func96 (by kernel_rfl) rfl #[.pointer (some ⟨g, 0, none⟩)] rfl (by exact q1_) ?_; (with_reducible refine (utf_Checker_Bad.calls g s0_0 s0_1 s0_2 s0_3 false t142 t143 t144 t145 w0 _ ?side1 ?side2 A3.out).mono ?_); (case side1 => exact q9_ HI0.out); (case side2 => exact q3_ HB.out (IsS155.ge HI0.out)); rintro e w6 ⟨rfl, hi, hb, hk⟩; refine ⟨_, rfl, ?_⟩; obtain ⟨HK, HB, HI0⟩ := And.intro (a_ (KeepBut.trans (by exact q5_ HK.out) hk (.inl rfl))) (And.intro (a_ (hb)) (a_ (hi))); (try clear hb); (try clear hb2); (try clear hk); (try clear hi)))
  go_loopg [11] k (fun kq v11 w' => ∃ (x11_1 : Int) (x1000_1 : Int) (x1001_1 : Int) (x1002_1 : Int) (x1003_1 : Bool), v11 = .int .i64 x11_1 ∧ Aside0 (utf_Checker_Feed.l0 kq l1 l1 (l1.length : Int) x11_1 x1000_1 x1001_1 x1002_1 x1003_1 = some (r1, r2, r3, r4, r5)) ∧ Aside0 (kq ≤ k) ∧ Aside0 (IsS155 w0 w' g x1000_1 x1001_1 x1002_1 x1003_1) ∧ Aside0 (KeepBut w w' g none) ∧ Aside0 (Below w0.heap.size w0 w'))
  case atStart => exact ⟨(0), (t142), (t143), (t144), (t145), (by first | rfl | (simp; done) | (simp [*]; done)), H', ⟨Nat.le_refl _⟩, ⟨by exact q9_ HI0.out⟩, ⟨by exact q5_ HK.out⟩, ⟨by exact q3_ HB.out (IsS155.ge HI0.out)⟩⟩
  case round =>
   clear H'
   try clear c1
   try clear c4
   obtain ⟨x11_1, x1000_1, x1001_1, x1002_1, x1003_1, rfl, HA, HK1, HI0, HK, HB⟩ := hrel
   cases gk with
   | zero => exact absurd HA.out (by simp [utf_Checker_Feed.l0])
   | succ k1 =>
    have H := HA.out
    clear HA
    simp only [utf_Checker_Feed.l0] at H
    by_cases c7 : x11_1 < (l1.length : Int)
    ·rw [if_pos c7] at H
     have c7b0 : decide (x11_1 < (l1.length : Int)) = true := decide_eq_true c7
     clear c7
     by_cases c8 : 0 ≤ x11_1
     ·rw [if_pos c8] at H
      have c8b0 : decide (0 ≤ x11_1) = true := decide_eq_true c8
      clear c8
      by_cases c9 : x11_1 < (l1.length : Int)
      ·rw [if_pos c9] at H
       have c9b0 : decide (x11_1 < (l1.length : Int)) = true := decide_eq_true c9
       clear c9
       replace H := Option.bind_eq_some_iff.mp H
       obtain ⟨⟨t147, t148, t149, t150, t151⟩, A100, H⟩ := H
       try dsimp only at H
       have A10 := a_ A100
       clear A100
       by_cases c11 : t147 = true
       ·subst c11
        rw [if_pos rfl] at H
        have H' := a_ H
        clear H
        have p146 : 0 ≤ (x11_1 : Int) := of_decide_eq_true (by assumption)
        have q146 : x11_1 < (l1.length : Int) := of_decide_eq_true (by assumption)
        obtain ⟨ad146, e146, hx146_0⟩ := Kd.at_int HR1.out x11_1 p146 q146
        cases e146
        replace hx146_0 := keep_cell HK.out hx146_0 (by first | (rw [add_block]; exact hf1 _ rfl (by omega)) | exact hf1 _ rfl (by omega) | exact hf1 ad146 rfl (by omega))
        replace p146 := eq_true p146
        replace q146 := eq_true q146
        go_wp2_with (first | ((with_reducible refine gate_callee (f := 97) rfl ?_); refine goesL_ (some 18) rfl rfl Tryz.func97 (by kernel_rfl) rfl #[.pointer (some ⟨g, 0, none⟩), .int .u8 (rd l1 x11_1)] rfl (by exact q1_) ?_; (with_reducible refine (utf_Checker_one.calls k1 g x1000_1 x1001_1 x1002_1 x1003_1 (rd l1 x11_1) true t148 t149 t150 t151 w0 _ ?side1 ?side2 A10.out).mono ?_); (case side1 => exact q9_ HI0.out); (case side2 => exact q3_ HB.out (IsS155.ge HI0.out)); rintro e w12 ⟨rfl, hi, hb, hk⟩; refine ⟨_, rfl, ?_⟩; obtain ⟨HK, HB, HI0⟩ := And.intro (a_ (KeepBut.trans (by exact q5_ HK.out) hk (.inl rfl))) (And.intro (a_ (hb)) (a_ (hi))); (try clear hb); (try clear hb2); (try clear hk); (try clear hi)))
        go_roundg k1
        case measure => have := HK1.out; omega
        case rel => exact ⟨(wrap64 (x11_1 + 1)), (t148), (t149), (t150), (t151), (by first | rfl | (simp; done) | (simp [*]; done)), H', ⟨by have := HK1.out; omega⟩, ⟨by exact q9_ HI0.out⟩, ⟨by exact q5_ HK.out⟩, ⟨by exact q3_ HB.out (IsS155.ge HI0.out)⟩⟩
       ·replace c11 := Bool.eq_false_iff.mpr c11
        subst c11
        rw [if_neg (show ¬ (false = true) by decide)] at H
        simp only [Option.some.injEq, Prod.mk.injEq] at H
        obtain ⟨rfl, rfl, rfl, rfl, rfl⟩ := H
        have p146 : 0 ≤ (x11_1 : Int) := of_decide_eq_true (by assumption)
        have q146 : x11_1 < (l1.length : Int) := of_decide_eq_true (by assumption)
        obtain ⟨ad146, e146, hx146_0⟩ := Kd.at_int HR1.out x11_1 p146 q146
        cases e146
        replace hx146_0 := keep_cell HK.out hx146_0 (by first | (rw [add_block]; exact hf1 _ rfl (by omega)) | exact hf1 _ rfl (by omega) | exact hf1 ad146 rfl (by omega))
        replace p146 := eq_true p146
        replace q146 := eq_true q146
        go_wp2_with (first | ((with_reducible refine gate_callee (f := 97) rfl ?_); refine goesL_ (some 18) rfl rfl Tryz.func97 (by kernel_rfl) rfl #[.pointer (some ⟨g, 0, none⟩), .int .u8 (rd l1 x11_1)] rfl (by exact q1_) ?_; (with_reducible refine (utf_Checker_one.calls k1 g x1000_1 x1001_1 x1002_1 x1003_1 (rd l1 x11_1) false t148 t149 t150 t151 w0 _ ?side1 ?side2 A10.out).mono ?_); (case side1 => exact q9_ HI0.out); (case side2 => exact q3_ HB.out (IsS155.ge HI0.out)); rintro e w13 ⟨rfl, hi, hb, hk⟩; refine ⟨_, rfl, ?_⟩; obtain ⟨HK, HB, HI0⟩ := And.intro (a_ (KeepBut.trans (by exact q5_ HK.out) hk (.inl rfl))) (And.intro (a_ (hb)) (a_ (hi))); (try clear hb); (try clear hb2); (try clear hk); (try clear hi); obtain ⟨HGz14, hgz14⟩ := HI0.out; have hcz14_0 := cellS155_0 HGz14; have hcz14_1 := cellS155_1 HGz14; have hcz14_2 := cellS155_2 HGz14; have hcz14_3 := cellS155_3 HGz14; have hfz14_0 := blk_frozen HGz14 0; have hfz14_1 := blk_frozen HGz14 1; have hfz14_2 := blk_frozen HGz14 2; have hfz14_3 := blk_frozen HGz14 3; clear HGz14 hgz14))
        go_ret
        exact ⟨by exact q12_, by first | ((exact q9_ HI0.out); done) | (rw [‹((_ : Int) == _) = _›]; ((exact q9_ HI0.out); done)) | (exact q9_ HI0.out), by exact q3_ HB.out (IsS155.ge HI0.out), by exact q5_ HK.out⟩
      ·rw [if_neg c9] at H
       exact absurd H (by simp)
     ·rw [if_neg c8] at H
      exact absurd H (by simp)
    ·rw [if_neg c7] at H
     have c7b0 : decide (x11_1 < (l1.length : Int)) = false := decide_eq_false c7
     clear c7
     simp only [Option.some.injEq, Prod.mk.injEq] at H
     obtain ⟨rfl, rfl, rfl, rfl, rfl⟩ := H
     go_wp2
     go_ret
     exact ⟨by exact q12_, by first | ((exact q9_ HI0.out); done) | (rw [‹((_ : Int) == _) = _›]; ((exact q9_ HI0.out); done)) | (exact q9_ HI0.out), by exact q3_ HB.out (IsS155.ge HI0.out), by exact q5_ HK.out⟩
def utf_Checker_Whole.f (s0_0 : Int) (s0_1 : Int) (s0_2 : Int) (s0_3 : Bool) : Option (Bool × Int × Int × Int × Bool) := (utf_Checker_Bad.f s0_0 s0_1 s0_2 s0_3).bind fun bt152 => (if bt152.1 = true then (some (false, bt152.2.1, bt152.2.2.1, bt152.2.2.2.1, bt152.2.2.2.2)) else (some ((bt152.2.1 == 0), bt152.2.1, bt152.2.2.1, bt152.2.2.2.1, bt152.2.2.2.2)))
theorem utf_Checker_Whole.calls (g : Nat) (s0_0 : Int) (s0_1 : Int) (s0_2 : Int) (s0_3 : Bool) (r1 : Bool) (r2 : Int) (r3 : Int) (r4 : Int) (r5 : Bool) (w0 w : World) (hI : IsS155 w0 w g s0_0 s0_1 s0_2 s0_3) (hB : Below w0.heap.size w0 w) (h : utf_Checker_Whole.f s0_0 s0_1 s0_2 s0_3 = some (r1, r2, r3, r4, r5)) :
  Calls Tryz.prog 66 #[.pointer (some ⟨g, 0, none⟩)] w fun e w' => e = .returned (.bool r1) ∧ IsS155 w0 w' g r2 r3 r4 r5 ∧ Below w0.heap.size w0 w' ∧ KeepBut w w' g none := by
 have hf43_0 := field43_0
 have hf87_1 := field87_1
 have HI0 := a_ hI
 have HK := a_ (KeepBut.refl w g none)
 have HL := a_ hB.size
 clear hI
 have HW0 := a_ hB.size
 have HB := a_ hB
 clear hB
 have H : ((utf_Checker_Bad.f s0_0 s0_1 s0_2 s0_3).bind fun bt152 => (if bt152.1 = true then (some (false, bt152.2.1, bt152.2.2.1, bt152.2.2.2.1, bt152.2.2.2.2)) else (some ((bt152.2.1 == 0), bt152.2.1, bt152.2.2.1, bt152.2.2.2.1, bt152.2.2.2.2)))) = some (r1, r2, r3, r4, r5) := h
 clear h
 replace H := Option.bind_eq_some_iff.mp H
 obtain ⟨⟨t152, t153, t154, t155, t156⟩, A20, H⟩ := H
 try dsimp only at H
 have A2 := a_ A20
 clear A20
 by_cases c3 : t152 = true
 ·subst c3
  rw [if_pos rfl] at H
  simp only [Option.some.injEq, Prod.mk.injEq] at H
  obtain ⟨rfl, rfl, rfl, rfl, rfl⟩ := H
  go_enter Tryz.func66, Tryz.ntmps66
  go_wp2_with (first | ((with_reducible refine gate_callee (f := 96) rfl ?_); refine goesL_ (some 4) rfl rfl Tryz.func96 (by kernel_rfl) rfl #[.pointer (some ⟨g, 0, none⟩)] rfl (by exact q1_) ?_; (with_reducible refine (utf_Checker_Bad.calls g s0_0 s0_1 s0_2 s0_3 true t153 t154 t155 t156 w0 _ ?side1 ?side2 A2.out).mono ?_); (case side1 => exact q9_ HI0.out); (case side2 => exact q3_ HB.out (IsS155.ge HI0.out)); rintro e w4 ⟨rfl, hi, hb, hk⟩; refine ⟨_, rfl, ?_⟩; obtain ⟨HK, HB, HI0⟩ := And.intro (a_ (KeepBut.trans (by exact q5_ HK.out) hk (.inl rfl))) (And.intro (a_ (hb)) (a_ (hi))); (try clear hb); (try clear hb2); (try clear hk); (try clear hi)))
  go_ret
  exact ⟨by exact q12_, by first | ((exact q9_ HI0.out); done) | (rw [‹((_ : Int) == _) = _›]; ((exact q9_ HI0.out); done)) | (exact q9_ HI0.out), by exact q3_ HB.out (IsS155.ge HI0.out), by exact q5_ HK.out⟩
 ·replace c3 := Bool.eq_false_iff.mpr c3
  subst c3
  rw [if_neg (show ¬ (false = true) by decide)] at H
  simp only [Option.some.injEq, Prod.mk.injEq] at H
  obtain ⟨rfl, rfl, rfl, rfl, rfl⟩ := H
  go_enter Tryz.func66, Tryz.ntmps66
  go_wp2_with (first | ((with_reducible refine gate_callee (f := 96) rfl ?_); refine goesL_ (some 4) rfl rfl Tryz.func96 (by kernel_rfl) rfl #[.pointer (some ⟨g, 0, none⟩)] rfl (by exact q1_) ?_; (with_reducible refine (utf_Checker_Bad.calls g s0_0 s0_1 s0_2 s0_3 false t153 t154 t155 t156 w0 _ ?side1 ?side2 A2.out).mono ?_); (case side1 => exact q9_ HI0.out); (case side2 => exact q3_ HB.out (IsS155.ge HI0.out)); rintro e w5 ⟨rfl, hi, hb, hk⟩; refine ⟨_, rfl, ?_⟩; obtain ⟨HK, HB, HI0⟩ := And.intro (a_ (KeepBut.trans (by exact q5_ HK.out) hk (.inl rfl))) (And.intro (a_ (hb)) (a_ (hi))); (try clear hb); (try clear hb2); (try clear hk); (try clear hi); obtain ⟨HGz6, hgz6⟩ := HI0.out; have hcz6_0 := cellS155_0 HGz6; have hcz6_1 := cellS155_1 HGz6; have hcz6_2 := cellS155_2 HGz6; have hcz6_3 := cellS155_3 HGz6; have hfz6_0 := blk_frozen HGz6 0; have hfz6_1 := blk_frozen HGz6 1; have hfz6_2 := blk_frozen HGz6 2; have hfz6_3 := blk_frozen HGz6 3; clear HGz6 hgz6))
  go_ret
  exact ⟨by exact q12_, by first | ((exact q9_ HI0.out); done) | (rw [‹((_ : Int) == _) = _›]; ((exact q9_ HI0.out); done)) | (exact q9_ HI0.out), by exact q3_ HB.out (IsS155.ge HI0.out), by exact q5_ HK.out⟩
end Go.Proofs.YtpmeapdcjmaeiaaGreatDoor.PAll
