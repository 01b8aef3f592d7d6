/- What the law's row rests on, part 3. -/
import Derived.Test.YtpmeapdcjmaeiaaGreatDoorZ2
import Derived.Test.YtpmeapdcjmaeiaaGreatDoorProg
import Derived.WalkKit
import Derived.LaidEql
import Derived.Stop.Asserts
import Derived.RowKitTokens
import Derived.Deep.RegionHeld3
set_option linter.unusedVariables false
set_option linter.unusedSimpArgs false
set_option maxRecDepth 100000
set_option maxHeartbeats 16000000
namespace Go.Proofs.YtpmeapdcjmaeiaaGreatDoor
open Go.RowKit Go.Extern.Stop Go.Stop Go.Extern
theorem As.valueOf27 (t : Addr) (w : World) : (ReflectliteValue.unpack (.iface 168 (.pointer (some t)))).run Tryz.prog w
  = .ok (.agg #[.pointer (some ⟨1, 168, none⟩), .pointer (some ⟨w.heap.size, 0, none⟩), .int .u64 150]) (w.alloc (.cells #[.pointer (some t)] 168)) := by kernel_rfl
theorem As.type27 (a : Addr) (w : World) : (ReflectliteValue.methodAny (ReflectliteValue.valueError "reflectlite.Value.Type" 0) (fun t _ _ _ => ReflectliteType.toType t) #[.agg #[.pointer (some ⟨1, 168, none⟩), .pointer (some a), .int .u64 150]]).run Tryz.prog w
  = .ok (.iface 206 (.agg #[.pointer (some ⟨1, 168, none⟩)])) w := by kernel_rfl
theorem As.methodKind (h : Value) (w : World) : (Go.method 347 206 (.agg #[h]) "Kind").run Tryz.prog w = .ok (147, h) w := by kernel_rfl
theorem As.kind27 (w : World) : ((ReflectliteType.abiMethod fun t => (fun a : Nat => Value.int IntKind.u8 (a : Int)) <$> Rtype.kind t) #[.pointer (some ⟨1, 168, none⟩)]).run Tryz.prog w = .ok (.int .u8 22) w := by kernel_rfl
theorem As.kind25 (w : World) : ((ReflectliteType.abiMethod fun t => (fun a : Nat => Value.int IntKind.u8 (a : Int)) <$> Rtype.kind t) #[.pointer (some ⟨1, 166, none⟩)]).run Tryz.prog w = .ok (.int .u8 22) w := by kernel_rfl
theorem rlm (z : Sem Value) (f : TypeId → Addr → Nat → Nat → Sem Value) (v : Value) :
  ReflectliteValue.method z f #[v] = (do match ← ReflectliteValue.parts v with | none => z | some (t, a, fl) => f t a fl (fl % 32)) := rfl
theorem As.parts27 (a : Addr) (w : World) : (ReflectliteValue.parts (.agg #[.pointer (some ⟨1, 168, none⟩), .pointer (some a), .int .u64 150])).run Tryz.prog w = .ok (some (168, a, 150)) w := by kernel_rfl
theorem As.isNil27 (a p : Addr) (W : World) (ha : W.cell? a = some (.pointer (some p))) :
  (ReflectliteValue.method (ReflectliteValue.valueError "reflectlite.Value.IsNil" 0) ReflectliteValue.isNil #[.agg #[.pointer (some ⟨1, 168, none⟩), .pointer (some a), .int .u64 150]]).run Tryz.prog W = .ok (.bool false) W := by
 rw [rlm]
 simp only [Sem.run_bind, As.parts27, Result.andThen]
 simp [ReflectliteValue.isNil, loadVar, isAgg, underlying, Tryz.underlying168, ha, Result.andThen]
theorem As.methodElem (h : Value) (w : World) : (Go.method 347 206 (.agg #[h]) "Elem").run Tryz.prog w = .ok (160, .agg #[h]) w := by kernel_rfl
theorem As.methodImplements (h : Value) (w : World) : (Go.method 347 206 (.agg #[h]) "Implements").run Tryz.prog w = .ok (161, .agg #[h]) w := by kernel_rfl
theorem As.methodAssignableTo (h : Value) (w : World) : (Go.method 347 206 (.agg #[h]) "AssignableTo").run Tryz.prog w = .ok (158, .agg #[h]) w := by kernel_rfl
theorem As.elem27 (w : World) : (ReflectliteType.method ReflectliteType.elem #[.agg #[.pointer (some ⟨1, 168, none⟩)]]).run Tryz.prog w = .ok (.iface 206 (.agg #[.pointer (some ⟨1, 166, none⟩)])) w := by kernel_rfl
theorem As.implements25 (w : World) : (ReflectliteType.relation "Implements" ReflectliteType.implements_ #[.agg #[.pointer (some ⟨1, 166, none⟩)], .iface 206 (.agg #[.pointer (some ⟨1, 133, none⟩)])]).run Tryz.prog w = .ok (.bool true) w := by kernel_rfl
theorem As.typeOf25 (v : Value) (w : World) : (ReflectliteType.typeOf #[.iface 166 v]).run Tryz.prog w = .ok (.iface 206 (.agg #[.pointer (some ⟨1, 166, none⟩)])) w := by kernel_rfl
theorem As.assignable25 (w : World) : (ReflectliteType.relation "AssignableTo" ReflectliteType.assignableTo #[.agg #[.pointer (some ⟨1, 166, none⟩)], .iface 206 (.agg #[.pointer (some ⟨1, 166, none⟩)])]).run Tryz.prog w = .ok (.bool true) w := by kernel_rfl
theorem As.valueOf25 (e : Addr) (w : World) : (ReflectliteValue.unpack (.iface 166 (.pointer (some e)))).run Tryz.prog w
  = .ok (.agg #[.pointer (some ⟨1, 166, none⟩), .pointer (some ⟨w.heap.size, 0, none⟩), .int .u64 150]) (w.alloc (.cells #[.pointer (some e)] 166)) := by kernel_rfl
theorem As.elemOf27 (w : World) : (Rtype.elem? 168).run Tryz.prog w = .ok (some 166) w := by kernel_rfl
theorem As.mk25 (p : Addr) (w : World) : (ReflectliteValue.mk 166 p ReflectliteValue.flagAddr).run Tryz.prog w = .ok (.agg #[.pointer (some ⟨1, 166, none⟩), .pointer (some p), .int .u64 406]) w := by kernel_rfl
theorem As.elemV27 (a p : Addr) (W : World) (ha : W.cell? a = some (.pointer (some p))) :
  (ReflectliteValue.method (ReflectliteValue.valueError "reflectlite.Value.Elem" 0) ReflectliteValue.elem #[.agg #[.pointer (some ⟨1, 168, none⟩), .pointer (some a), .int .u64 150]]).run Tryz.prog W
   = .ok (.agg #[.pointer (some ⟨1, 166, none⟩), .pointer (some p), .int .u64 406]) W := by
 rw [rlm]
 simp only [Sem.run_bind, As.parts27, Result.andThen]
 simp [ReflectliteValue.elem, loadVar, isAgg, underlying, Tryz.underlying168, ha, Result.andThen, As.elemOf27, As.mk25]
theorem rls (v x : Value) : ReflectliteValue.set #[v, x] = (do
  let (some (dst, a, fl), some (src, b, _)) := (← ReflectliteValue.parts v, ← ReflectliteValue.parts x)
   | unsupported (.noEntry "extern/(internal/reflectlite.Value).Set.zeroValue")
  if fl / ReflectliteValue.flagAddr % 2 == 0 then unsupported (.noEntry "extern/(internal/reflectlite.Value).Set.unaddressable")
  let val ← loadVar src b
  if ← Rtype.directlyAssignable dst src then storeVar dst a val
  else if ← Rtype.implements dst src then
   if (← Rtype.kind src) == 20 then
    match val with
    | .nilIface => unsupported (.noEntry "extern/reflectlite: a nil value of one interface type handed on as a value of another")
    | _ => storeVar dst a val
   else storeVar dst a (.iface src val)
  else panicString ("reflectlite.Set: value of type " ++ (← Rtype.spelt src) ++ " is not assignable to type " ++ (← Rtype.spelt dst))
  pure (.tuple #[])) := rfl
theorem As.parts25a (a : Addr) (w : World) : (ReflectliteValue.parts (.agg #[.pointer (some ⟨1, 166, none⟩), .pointer (some a), .int .u64 406])).run Tryz.prog w = .ok (some (166, a, 406)) w := by kernel_rfl
theorem As.parts25 (a : Addr) (w : World) : (ReflectliteValue.parts (.agg #[.pointer (some ⟨1, 166, none⟩), .pointer (some a), .int .u64 150])).run Tryz.prog w = .ok (some (166, a, 150)) w := by kernel_rfl
theorem As.direct25 (w : World) : (Rtype.directlyAssignable 166 166).run Tryz.prog w = .ok true w := by kernel_rfl
theorem As.set25 (ta b e : Addr) (old : Value) (W : World) (hb : W.cell? b = some (.pointer (some e))) (ht : W.cell? ta = some old) (hf : W.frozen? ta = false) :
  (ReflectliteValue.set #[.agg #[.pointer (some ⟨1, 166, none⟩), .pointer (some ta), .int .u64 406], .agg #[.pointer (some ⟨1, 166, none⟩), .pointer (some b), .int .u64 150]]).run Tryz.prog W
   = .ok (.tuple #[]) (W.setCell ta (.pointer (some e))) := by
 rw [rls]
 simp only [Sem.run_bind, As.parts25a, As.parts25, Result.andThen]
 simp [ReflectliteValue.flagAddr, loadVar, isAgg, underlying, Tryz.underlying166, hb, Result.andThen, As.direct25, storeVar, Value.cells, storeCells, Addr.add]
 rw [run_store Tryz.prog W ta _ _ (by rfl)]
 simp [ht, hf]
theorem as_hit (e t : Addr) (old : Value) (w : World) (hg : w.cell? ⟨0, 0, none⟩ = some (.iface 206 (.agg #[.pointer (some ⟨1, 133, none⟩)]))) (ht0 : w.cell? t = some old) (hf0 : w.frozen? t = false) :
  Calls Tryz.prog 106 #[.iface 166 (.pointer (some e)), .iface 168 (.pointer (some t))] w fun ev w' => ev = .returned (.bool true) ∧ w' = ((((w.alloc (.cells #[.pointer (some t)] 168)).alloc (.cells #[.pointer (some ⟨1, 168, none⟩), .pointer (some ⟨w.heap.size, 0, none⟩), .int .u64 150] 191)).alloc (.cells #[.pointer (some ⟨1, 168, none⟩), .pointer (some ⟨w.heap.size, 0, none⟩), .int .u64 150] 191)).alloc (.cells #[.pointer (some e)] 166)).setCell t (.pointer (some e)) := by
 have h6 := @run_callFunc_extern Tryz.prog 121 _ (fun args => ReflectliteValue.unpack (args.getD 0 (.tuple #[]))) Tryz.func121 (by kernel_rfl) (by kernel_rfl) (by kernel_rfl) (by kernel_rfl)
 have h7 := @run_callFunc_extern Tryz.prog 122 _ (ReflectliteValue.methodAny (ReflectliteValue.valueError "reflectlite.Value.Type" 0) (fun t _ _ _ => ReflectliteType.toType t)) Tryz.func122 (by kernel_rfl) (by kernel_rfl) (by kernel_rfl) (by kernel_rfl)
 have h8 := @run_callFunc_extern Tryz.prog 123 _ (ReflectliteValue.method (ReflectliteValue.valueError "reflectlite.Value.IsNil" 0) ReflectliteValue.isNil) Tryz.func123 (by kernel_rfl) (by kernel_rfl) (by kernel_rfl) (by kernel_rfl)
 have h27 := @run_callFunc_extern Tryz.prog 147 _ (ReflectliteType.abiMethod fun t => do pure (.int .u8 (← Rtype.kind t))) Tryz.func147 (by kernel_rfl) (by kernel_rfl) (by kernel_rfl) (by kernel_rfl)
 have h37 := @run_callFunc_extern Tryz.prog 160 _ (ReflectliteType.method ReflectliteType.elem) Tryz.func160 (by kernel_rfl) (by kernel_rfl) (by kernel_rfl) (by kernel_rfl)
 have h38 := @run_callFunc_extern Tryz.prog 161 _ (ReflectliteType.relation "Implements" ReflectliteType.implements_) Tryz.func161 (by kernel_rfl) (by kernel_rfl) (by kernel_rfl) (by kernel_rfl)
 have h10 := @run_callFunc_extern Tryz.prog 130 _ ReflectliteType.typeOf Tryz.func130 (by kernel_rfl) (by kernel_rfl) (by kernel_rfl) (by kernel_rfl)
 have h35 := @run_callFunc_extern Tryz.prog 158 _ (ReflectliteType.relation "AssignableTo" ReflectliteType.assignableTo) Tryz.func158 (by kernel_rfl) (by kernel_rfl) (by kernel_rfl) (by kernel_rfl)
 have h11 := @run_callFunc_extern Tryz.prog 131 _ (ReflectliteValue.method (ReflectliteValue.valueError "reflectlite.Value.Elem" 0) ReflectliteValue.elem) Tryz.func131 (by kernel_rfl) (by kernel_rfl) (by kernel_rfl) (by kernel_rfl)
 have h12 := @run_callFunc_extern Tryz.prog 132 _ ReflectliteValue.set Tryz.func132 (by kernel_rfl) (by kernel_rfl) (by kernel_rfl) (by kernel_rfl)
 have tO := As.typeOf25
 have mA := As.methodAssignableTo
 have a25 := As.assignable25
 have v25 := As.valueOf25
 have f6 := As.valueOf27
 have f7 := As.type27
 have mK := As.methodKind
 have mE := As.methodElem
 have mI := As.methodImplements
 have k27 := As.kind27
 have k25 := As.kind25
 have e27 := As.elem27
 have i25 := As.implements25
 have n8 := As.isNil27 ⟨w.heap.size, 0, none⟩ t ((w.alloc (.cells #[.pointer (some t)] 168)).alloc (.cells #[.pointer (some ⟨1, 168, none⟩), .pointer (some ⟨w.heap.size, 0, none⟩), .int .u64 150] 191)) (by simp)
 have hlt : 0 < w.heap.size := by
  rcases Nat.eq_zero_or_pos w.heap.size with h0 | h
  ·simp [World.cell?, h0] at hg
  ·exact h
 have hg2 : ((w.alloc (.cells #[.pointer (some t)] 168)).alloc (.cells #[.pointer (some ⟨1, 168, none⟩), .pointer (some ⟨w.heap.size, 0, none⟩), .int .u64 150] 191)).cell? ⟨0, 0, none⟩ = some (.iface 206 (.agg #[.pointer (some ⟨1, 133, none⟩)])) := by
  rw [World.cell?_alloc_lt _ _ ⟨0, 0, none⟩ (by simp), World.cell?_alloc_lt _ _ ⟨0, 0, none⟩ hlt]; exact hg
 have htl : t.block < w.heap.size := by
  rcases Nat.lt_or_ge t.block w.heap.size with h | h
  ·exact h
  ·simp [World.cell?, Array.getElem?_eq_none h] at ht0
 have el := As.elemV27 ⟨w.heap.size, 0, none⟩ t (((w.alloc (.cells #[.pointer (some t)] 168)).alloc (.cells #[.pointer (some ⟨1, 168, none⟩), .pointer (some ⟨w.heap.size, 0, none⟩), .int .u64 150] 191)).alloc (.cells #[.pointer (some ⟨1, 168, none⟩), .pointer (some ⟨w.heap.size, 0, none⟩), .int .u64 150] 191)) (by rw [World.cell?_alloc_lt _ _ ⟨w.heap.size, 0, none⟩ (by simp; omega)]; simp)
 have st := As.set25 t ⟨w.heap.size + 1 + 1 + 1, 0, none⟩ e old ((((w.alloc (.cells #[.pointer (some t)] 168)).alloc (.cells #[.pointer (some ⟨1, 168, none⟩), .pointer (some ⟨w.heap.size, 0, none⟩), .int .u64 150] 191)).alloc (.cells #[.pointer (some ⟨1, 168, none⟩), .pointer (some ⟨w.heap.size, 0, none⟩), .int .u64 150] 191)).alloc (.cells #[.pointer (some e)] 166))
  (by rw [World.cell?_alloc_at _ _ _ _ (by simp)]; rfl)
  (by rw [World.cell?_alloc_lt _ _ t (by simp; omega), World.cell?_alloc_lt _ _ t (by simp; omega), World.cell?_alloc_lt _ _ t (by simp; omega), World.cell?_alloc_lt _ _ t htl]; exact ht0)
  (by rw [World.frozen?_alloc_old _ _ t (by simp; omega), World.frozen?_alloc_old _ _ t (by simp; omega), World.frozen?_alloc_old _ _ t (by simp; omega), World.frozen?_alloc_old _ _ t (Nat.ne_of_lt htl)]; exact hf0)
 go_enter Tryz.func106, Tryz.ntmps106
 go_wp2
 refine wp_loop_rounds 1 ?_
 rw [rounds_succ]
 go_wp2
 go_ret
 exact ⟨rfl, rfl⟩
end Go.Proofs.YtpmeapdcjmaeiaaGreatDoor
namespace Go.Proofs.YtpmeapdcjmaeiaaGreatDoor
open Go.RowKit Go.Extern.Stop Go.Stop Go.Extern
theorem As.typeOfW (v : Value) (w : World) : (ReflectliteType.typeOf #[.iface 184 v]).run Tryz.prog w = .ok (.iface 206 (.agg #[.pointer (some ⟨1, 184, none⟩)])) w := by kernel_rfl
theorem As.assignableW (w : World) : (ReflectliteType.relation "AssignableTo" ReflectliteType.assignableTo #[.agg #[.pointer (some ⟨1, 184, none⟩)], .iface 206 (.agg #[.pointer (some ⟨1, 166, none⟩)])]).run Tryz.prog w = .ok (.bool false) w := by kernel_rfl
theorem As.noAsW (v : Value) (xT : TypeId) (w : World) : (Instr.typeAssert (.iface 184 v) xT 211 true).run Tryz.prog w = .ok (.tuple #[.nilIface, .bool false]) w := run_typeAssert_lacksB Tryz.underlying211 (by kernel_rfl) (by kernel_rfl) v xT w
theorem As.unwW (v : Value) (xT : TypeId) (w : World) : (Instr.typeAssert (.iface 184 v) xT 214 true).run Tryz.prog w = .ok (.tuple #[.iface 184 v, .bool true]) w := run_typeAssert_hasB Tryz.underlying214 (by kernel_rfl) v xT w
theorem As.methodUnwrap (p : Option Addr) (w : World) : (Go.method 347 184 (.pointer p) "Unwrap").run Tryz.prog w = .ok (153, .pointer p) w := by kernel_rfl
theorem as_wrap (e t : Addr) (gw : Nat) (old : Value) (w : World) (hu : w.cell? ⟨gw, 1, none⟩ = some (.iface 166 (.pointer (some e)))) (hg : w.cell? ⟨0, 0, none⟩ = some (.iface 206 (.agg #[.pointer (some ⟨1, 133, none⟩)]))) (ht0 : w.cell? t = some old) (hf0 : w.frozen? t = false) :
  Calls Tryz.prog 106 #[.iface 184 (.pointer (some ⟨gw, 0, none⟩)), .iface 168 (.pointer (some t))] w fun ev w' => ev = .returned (.bool true) ∧ w' = ((((w.alloc (.cells #[.pointer (some t)] 168)).alloc (.cells #[.pointer (some ⟨1, 168, none⟩), .pointer (some ⟨w.heap.size, 0, none⟩), .int .u64 150] 191)).alloc (.cells #[.pointer (some ⟨1, 168, none⟩), .pointer (some ⟨w.heap.size, 0, none⟩), .int .u64 150] 191)).alloc (.cells #[.pointer (some e)] 166)).setCell t (.pointer (some e)) := by
 have h6 := @run_callFunc_extern Tryz.prog 121 _ (fun args => ReflectliteValue.unpack (args.getD 0 (.tuple #[]))) Tryz.func121 (by kernel_rfl) (by kernel_rfl) (by kernel_rfl) (by kernel_rfl)
 have h7 := @run_callFunc_extern Tryz.prog 122 _ (ReflectliteValue.methodAny (ReflectliteValue.valueError "reflectlite.Value.Type" 0) (fun t _ _ _ => ReflectliteType.toType t)) Tryz.func122 (by kernel_rfl) (by kernel_rfl) (by kernel_rfl) (by kernel_rfl)
 have h8 := @run_callFunc_extern Tryz.prog 123 _ (ReflectliteValue.method (ReflectliteValue.valueError "reflectlite.Value.IsNil" 0) ReflectliteValue.isNil) Tryz.func123 (by kernel_rfl) (by kernel_rfl) (by kernel_rfl) (by kernel_rfl)
 have h27 := @run_callFunc_extern Tryz.prog 147 _ (ReflectliteType.abiMethod fun t => do pure (.int .u8 (← Rtype.kind t))) Tryz.func147 (by kernel_rfl) (by kernel_rfl) (by kernel_rfl) (by kernel_rfl)
 have h37 := @run_callFunc_extern Tryz.prog 160 _ (ReflectliteType.method ReflectliteType.elem) Tryz.func160 (by kernel_rfl) (by kernel_rfl) (by kernel_rfl) (by kernel_rfl)
 have h38 := @run_callFunc_extern Tryz.prog 161 _ (ReflectliteType.relation "Implements" ReflectliteType.implements_) Tryz.func161 (by kernel_rfl) (by kernel_rfl) (by kernel_rfl) (by kernel_rfl)
 have h10 := @run_callFunc_extern Tryz.prog 130 _ ReflectliteType.typeOf Tryz.func130 (by kernel_rfl) (by kernel_rfl) (by kernel_rfl) (by kernel_rfl)
 have h35 := @run_callFunc_extern Tryz.prog 158 _ (ReflectliteType.relation "AssignableTo" ReflectliteType.assignableTo) Tryz.func158 (by kernel_rfl) (by kernel_rfl) (by kernel_rfl) (by kernel_rfl)
 have h11 := @run_callFunc_extern Tryz.prog 131 _ (ReflectliteValue.method (ReflectliteValue.valueError "reflectlite.Value.Elem" 0) ReflectliteValue.elem) Tryz.func131 (by kernel_rfl) (by kernel_rfl) (by kernel_rfl) (by kernel_rfl)
 have h12 := @run_callFunc_extern Tryz.prog 132 _ ReflectliteValue.set Tryz.func132 (by kernel_rfl) (by kernel_rfl) (by kernel_rfl) (by kernel_rfl)
 have tO := As.typeOf25
 have mA := As.methodAssignableTo
 have a25 := As.assignable25
 have v25 := As.valueOf25
 have f6 := As.valueOf27
 have f7 := As.type27
 have mK := As.methodKind
 have mE := As.methodElem
 have mI := As.methodImplements
 have k27 := As.kind27
 have k25 := As.kind25
 have e27 := As.elem27
 have i25 := As.implements25
 have n8 := As.isNil27 ⟨w.heap.size, 0, none⟩ t ((w.alloc (.cells #[.pointer (some t)] 168)).alloc (.cells #[.pointer (some ⟨1, 168, none⟩), .pointer (some ⟨w.heap.size, 0, none⟩), .int .u64 150] 191)) (by simp)
 have hlt : 0 < w.heap.size := by
  rcases Nat.eq_zero_or_pos w.heap.size with h0 | h
  ·simp [World.cell?, h0] at hg
  ·exact h
 have hg2 : ((w.alloc (.cells #[.pointer (some t)] 168)).alloc (.cells #[.pointer (some ⟨1, 168, none⟩), .pointer (some ⟨w.heap.size, 0, none⟩), .int .u64 150] 191)).cell? ⟨0, 0, none⟩ = some (.iface 206 (.agg #[.pointer (some ⟨1, 133, none⟩)])) := by
  rw [World.cell?_alloc_lt _ _ ⟨0, 0, none⟩ (by simp), World.cell?_alloc_lt _ _ ⟨0, 0, none⟩ hlt]; exact hg
 have htl : t.block < w.heap.size := by
  rcases Nat.lt_or_ge t.block w.heap.size with h | h
  ·exact h
  ·simp [World.cell?, Array.getElem?_eq_none h] at ht0
 have el := As.elemV27 ⟨w.heap.size, 0, none⟩ t (((w.alloc (.cells #[.pointer (some t)] 168)).alloc (.cells #[.pointer (some ⟨1, 168, none⟩), .pointer (some ⟨w.heap.size, 0, none⟩), .int .u64 150] 191)).alloc (.cells #[.pointer (some ⟨1, 168, none⟩), .pointer (some ⟨w.heap.size, 0, none⟩), .int .u64 150] 191)) (by rw [World.cell?_alloc_lt _ _ ⟨w.heap.size, 0, none⟩ (by simp; omega)]; simp)
 have st := As.set25 t ⟨w.heap.size + 1 + 1 + 1, 0, none⟩ e old ((((w.alloc (.cells #[.pointer (some t)] 168)).alloc (.cells #[.pointer (some ⟨1, 168, none⟩), .pointer (some ⟨w.heap.size, 0, none⟩), .int .u64 150] 191)).alloc (.cells #[.pointer (some ⟨1, 168, none⟩), .pointer (some ⟨w.heap.size, 0, none⟩), .int .u64 150] 191)).alloc (.cells #[.pointer (some e)] 166))
  (by rw [World.cell?_alloc_at _ _ _ _ (by simp)]; rfl)
  (by rw [World.cell?_alloc_lt _ _ t (by simp; omega), World.cell?_alloc_lt _ _ t (by simp; omega), World.cell?_alloc_lt _ _ t (by simp; omega), World.cell?_alloc_lt _ _ t htl]; exact ht0)
  (by rw [World.frozen?_alloc_old _ _ t (by simp; omega), World.frozen?_alloc_old _ _ t (by simp; omega), World.frozen?_alloc_old _ _ t (by simp; omega), World.frozen?_alloc_old _ _ t (Nat.ne_of_lt htl)]; exact hf0)
 have tW := As.typeOfW
 have aW := As.assignableW
 have nA := As.noAsW
 have uW := As.unwW
 have mU := As.methodUnwrap
 have hgl : gw < w.heap.size := World.block_lt_of_cell? _ _ hu
 have hu3 : (((w.alloc (.cells #[.pointer (some t)] 168)).alloc (.cells #[.pointer (some ⟨1, 168, none⟩), .pointer (some ⟨w.heap.size, 0, none⟩), .int .u64 150] 191)).alloc (.cells #[.pointer (some ⟨1, 168, none⟩), .pointer (some ⟨w.heap.size, 0, none⟩), .int .u64 150] 191)).cell? ⟨gw, 1, none⟩ = some (.iface 166 (.pointer (some e))) := by
  rw [World.cell?_alloc_lt _ _ ⟨gw, 1, none⟩ (by simp; omega), World.cell?_alloc_lt _ _ ⟨gw, 1, none⟩ (by simp; omega), World.cell?_alloc_lt _ _ ⟨gw, 1, none⟩ hgl]; exact hu
 go_enter Tryz.func106, Tryz.ntmps106
 go_wp2
 refine wp_loop_rounds 2 ?_
 rw [rounds_succ]
 go_wp2
 rw [rounds_succ]
 go_wp2
 go_ret
 exact ⟨rfl, rfl⟩
end Go.Proofs.YtpmeapdcjmaeiaaGreatDoor
namespace Go.Proofs.YtpmeapdcjmaeiaaGreatDoor
open Go.RowKit Go.Wa Go.Wb Go.Wc
def Cond (w : World) : Prop := w.cell? ⟨0, 0, none⟩ = some (.iface 206 (.agg #[.pointer (some ⟨1, 133, none⟩)]))
theorem Cond.below {w W : World} (h : Cond w) (hb : Below w.heap.size w W) : Cond W := (hb.cell (World.block_lt_of_cell? _ _ h)).trans h
def IsBad (W : World) (v : Value) (code : Int) : Prop := ∃ g : Nat, v = .iface 166 (.pointer (some ⟨g, 0, none⟩)) ∧ W.heap[g]? = some (.cells #[.int .u8 3, .int .u32 code] 170 (0, 0))
def IsWr (W : World) (v : Value) (code : Int) : Prop := ∃ (g : Nat) (s : ByteArray) (v' : Value), v = .iface 184 (.pointer (some ⟨g, 0, none⟩)) ∧ W.heap[g]? = some (.cells #[.string s, v'] 186 (0, 0)) ∧ IsBad W v' code
theorem IsBad.below {w W : World} {v : Value} {c : Int} (h : IsBad w v c) (hb : Below w.heap.size w W) : IsBad W v c := by
 obtain ⟨g, e, h⟩ := h
 exact ⟨g, e, blk_below h hb⟩
theorem IsWr.below {w W : World} {v : Value} {c : Int} (h : IsWr w v c) (hb : Below w.heap.size w W) : IsWr W v c := by
 obtain ⟨g, s, v', e, h, h'⟩ := h
 exact ⟨g, s, v', e, blk_below h hb, h'.below hb⟩
theorem last_at (W : World) (o : Obj) (k : Nat) (h : k = W.heap.size) : (W.alloc o).heap[k]? = some o := by
 rw [h]
 show (W.heap.push o)[W.heap.size]? = some o
 simp
theorem new_any (code : Int) (w : World) : Calls Tryz.prog 120 #[.agg #[.int .u8 3, .int .u32 code]] w fun e w' => ∃ v, e = .returned v ∧ IsBad w' v code ∧ Below w.heap.size w w' := by
 go_enter Tryz.func120, Tryz.ntmps120
 go_wp2
 go_ret
 exact ⟨_, rfl, ⟨_, rfl, last_at _ _ _ (by simp)⟩, below_alloc (below_alloc (Below.refl _ _) _) _⟩
theorem socket_any (code : Int) (w : World) : Calls Tryz.prog 105 #[.int .u32 code] w fun e w' => ∃ v, e = .returned v ∧ IsBad w' v code ∧ Below w.heap.size w w' := by
 go_enter Tryz.func105, Tryz.ntmps105
 go_wp2_with fail
 refine (new_any code _).mono ?_
 rintro e w1 ⟨v, rfl, hv, hb⟩
 go_wp2_with fail
 go_ret
 exact ⟨_, rfl, hv, hb⟩
theorem wrap_nil (s : ByteArray) (w : World) : Calls Tryz.prog 101 #[.string s, .nilIface] w fun e w' => e = .returned .nilIface ∧ w' = w := by
 go_enter Tryz.func101, Tryz.ntmps101
 go_wp2
 go_ret
 exact ⟨rfl, rfl⟩
theorem wrap_any (s : ByteArray) (v : Value) (code : Int) (w : World) (h : IsBad w v code) : Calls Tryz.prog 101 #[.string s, v] w fun e w' => ∃ v', e = .returned v' ∧ IsWr w' v' code ∧ Below w.heap.size w w' := by
 obtain ⟨g, rfl, hg⟩ := h
 have HG := a_ hg
 clear hg
 go_enter Tryz.func101, Tryz.ntmps101
 go_wp2
 go_ret
 exact ⟨_, rfl, ⟨_, s, _, rfl, last_at _ _ _ rfl, g, rfl, blk_alloc HG.out _⟩, below_alloc (Below.refl _ _) _⟩
theorem as_world {w : World} {t : Addr} {old : Value} (ht : w.cell? t = some old) (o1 o2 o3 o4 : Obj) (v : Value) :
  let W := ((((w.alloc o1).alloc o2).alloc o3).alloc o4).setCell t v
  W.cell? t = some v ∧ (∀ k, k < w.heap.size → k ≠ t.block → W.heap[k]? = w.heap[k]?) ∧ (∀ w0 : World, w0.heap.size ≤ t.block → Below w0.heap.size w0 w → Below w0.heap.size w0 W) := by
 have hl : t.block < w.heap.size := World.block_lt_of_cell? _ _ ht
 have hb : Below w.heap.size w ((((w.alloc o1).alloc o2).alloc o3).alloc o4) := below_alloc (below_alloc (below_alloc (below_alloc (Below.refl _ _) _) _) _) _
 refine ⟨World.cell?_setCell_same _ t v ((hb.cell hl).trans ht), fun k hk hne => ?_, fun w0 h0 hw => ?_⟩
 ·rw [Below.heap_setCell _ _ _ k hne]
  exact hb.block k hk
 ·exact Below.setCell (below_step hw hb) h0 _
theorem of_wr (v : Value) (code : Int) (w : World) (h : IsWr w v code) (hc : Cond w) : Calls Tryz.prog 77 #[v] w fun e w' => e = .returned (.agg #[.int .u8 3, .int .u32 code]) ∧ Below w.heap.size w w' := by
 obtain ⟨g, s, v', rfl, hg, g', rfl, hg'⟩ := h
 have HG := a_ hg
 have HG' := a_ hg'
 have HC := a_ hc
 clear hg hg' hc
 go_enter Tryz.func77, Tryz.ntmps77
 go_wp2_with fail
 have hV : Below w.heap.size w ((w.alloc (.cells #[.int .u8 0, .int .u32 0] 87)).alloc (.cells #[.pointer none] 166)) := below_alloc (below_alloc (Below.refl _ _) _) _
 have hr : ((w.alloc (.cells #[.int .u8 0, .int .u32 0] 87)).alloc (.cells #[.pointer none] 166)).heap[w.heap.size]? = some (.cells #[.int .u8 0, .int .u32 0] 87 (0, 0)) := blk_alloc (last_at _ _ _ rfl) _
 have ht : ((w.alloc (.cells #[.int .u8 0, .int .u32 0] 87)).alloc (.cells #[.pointer none] 166)).heap[w.heap.size + 1]? = some (.cells #[.pointer none] 166 (0, 0)) := last_at _ _ _ (by simp)
 generalize (w.alloc (.cells #[.int .u8 0, .int .u32 0] 87)).alloc (.cells #[.pointer none] 166) = V at hV hr ht ⊢
 have hT : V.cell? ⟨w.heap.size + 1, 0, none⟩ = some (.pointer none) := (blk_cell ht 0).trans rfl
 have hgl' : g' < w.heap.size := blk_lt HG'.out
 have hl := blk_lt ht
 refine (as_wrap ⟨g', 0, none⟩ ⟨w.heap.size + 1, 0, none⟩ g (.pointer none) V ((blk_cell (blk_below HG.out hV) 1).trans rfl) (HC.out.below hV) hT (blk_frozen ht 0)).mono ?_
 rintro e W ⟨rfl, hW⟩
 obtain ⟨a1, a2, a3⟩ : W.cell? ⟨w.heap.size + 1, 0, none⟩ = some (.pointer (some ⟨g', 0, none⟩)) ∧ (∀ k, k < V.heap.size → k ≠ w.heap.size + 1 → W.heap[k]? = V.heap[k]?) ∧ (∀ w0 : World, w0.heap.size ≤ w.heap.size + 1 → Below w0.heap.size w0 V → Below w0.heap.size w0 W) := by
  rw [hW]
  exact as_world hT _ _ _ _ _
 have HB := a_ (a3 w (by omega) hV)
 have hbb : W.heap[g']? = some (.cells #[.int .u8 3, .int .u32 code] 170 (0, 0)) := (a2 g' (by omega) (by omega)).trans (blk_below HG'.out hV)
 have hrr : W.heap[w.heap.size]? = some (.cells #[.int .u8 0, .int .u32 0] 87 (0, 0)) := (a2 w.heap.size (by omega) (by omega)).trans hr
 clear a2 a3 hW hT ht hr hV
 obtain ⟨b0, b1⟩ := xl2_ hbb
 obtain ⟨r0, f0, r1, f1⟩ := xf2_ hrr
 have hle : w.heap.size ≤ w.heap.size := Nat.le_refl _
 go_wp2_with fail
 exact bodyPost_ret (v := .agg #[.int .u8 3, .int .u32 code]) (by simp [results, Tryz.results77, go_sem, r0, r1]) rfl ⟨rfl, Below.setCell (Below.setCell HB.out hle _) hle _⟩
theorem of_bad (v : Value) (code : Int) (w : World) (h : IsBad w v code) (hc : Cond w) : Calls Tryz.prog 77 #[v] w fun e w' => e = .returned (.agg #[.int .u8 3, .int .u32 code]) ∧ Below w.heap.size w w' := by
 obtain ⟨g', rfl, hg'⟩ := h
 have HG' := a_ hg'
 have HC := a_ hc
 clear hg' hc
 go_enter Tryz.func77, Tryz.ntmps77
 go_wp2_with fail
 have hV : Below w.heap.size w ((w.alloc (.cells #[.int .u8 0, .int .u32 0] 87)).alloc (.cells #[.pointer none] 166)) := below_alloc (below_alloc (Below.refl _ _) _) _
 have hr : ((w.alloc (.cells #[.int .u8 0, .int .u32 0] 87)).alloc (.cells #[.pointer none] 166)).heap[w.heap.size]? = some (.cells #[.int .u8 0, .int .u32 0] 87 (0, 0)) := blk_alloc (last_at _ _ _ rfl) _
 have ht : ((w.alloc (.cells #[.int .u8 0, .int .u32 0] 87)).alloc (.cells #[.pointer none] 166)).heap[w.heap.size + 1]? = some (.cells #[.pointer none] 166 (0, 0)) := last_at _ _ _ (by simp)
 generalize (w.alloc (.cells #[.int .u8 0, .int .u32 0] 87)).alloc (.cells #[.pointer none] 166) = V at hV hr ht ⊢
 have hT : V.cell? ⟨w.heap.size + 1, 0, none⟩ = some (.pointer none) := (blk_cell ht 0).trans rfl
 have hgl' : g' < w.heap.size := blk_lt HG'.out
 have hl := blk_lt ht
 refine (as_hit ⟨g', 0, none⟩ ⟨w.heap.size + 1, 0, none⟩ (.pointer none) V (HC.out.below hV) hT (blk_frozen ht 0)).mono ?_
 rintro e W ⟨rfl, hW⟩
 obtain ⟨a1, a2, a3⟩ : W.cell? ⟨w.heap.size + 1, 0, none⟩ = some (.pointer (some ⟨g', 0, none⟩)) ∧ (∀ k, k < V.heap.size → k ≠ w.heap.size + 1 → W.heap[k]? = V.heap[k]?) ∧ (∀ w0 : World, w0.heap.size ≤ w.heap.size + 1 → Below w0.heap.size w0 V → Below w0.heap.size w0 W) := by
  rw [hW]
  exact as_world hT _ _ _ _ _
 have HB := a_ (a3 w (by omega) hV)
 have hbb : W.heap[g']? = some (.cells #[.int .u8 3, .int .u32 code] 170 (0, 0)) := (a2 g' (by omega) (by omega)).trans (blk_below HG'.out hV)
 have hrr : W.heap[w.heap.size]? = some (.cells #[.int .u8 0, .int .u32 0] 87 (0, 0)) := (a2 w.heap.size (by omega) (by omega)).trans hr
 clear a2 a3 hW hT ht hr hV
 obtain ⟨b0, b1⟩ := xl2_ hbb
 obtain ⟨r0, f0, r1, f1⟩ := xf2_ hrr
 have hle : w.heap.size ≤ w.heap.size := Nat.le_refl _
 go_wp2_with fail
 exact bodyPost_ret (v := .agg #[.int .u8 3, .int .u32 code]) (by simp [results, Tryz.results77, go_sem, r0, r1]) rfl ⟨rfl, Below.setCell (Below.setCell HB.out hle _) hle _⟩
end Go.Proofs.YtpmeapdcjmaeiaaGreatDoor
namespace Go.Proofs.YtpmeapdcjmaeiaaGreatDoor
open Go.RowKit Go.Wa Go.Wb Go.Wc
theorem protocol_any (w : World) : Calls Tryz.prog 102 #[] w fun e w' => ∃ v, e = .returned v ∧ IsBad w' v 1002 ∧ Below w.heap.size w w' := by
 go_enter Tryz.func102, Tryz.ntmps102
 go_wp2_with fail
 refine (socket_any 1002 _).mono ?_
 rintro e w1 ⟨v, rfl, hv, hb⟩
 go_wp2_with fail
 go_ret
 exact ⟨_, rfl, hv, hb⟩
theorem length_small (b n : Int) (ad : Addr) (len c : Nat) (w : World) (hx : w.cell? ⟨ad.block, ad.off + 1, none⟩ = some (.int .u8 b)) (hn : Go.bits .andNot .u8 b 128 = n) (hl : 2 ≤ len) (h6 : (n == 126) = false) (h7 : (n == 127) = false) (hw : IntKind.u64.wrap n = n) :
  Calls Tryz.prog 118 #[.slice (some ad) len c] w fun e w' => e = .returned (.tuple #[.int .u64 n, .int .i64 2, .bool false, .nilIface]) ∧ w' = w := by
 have p1 : (1 : Int) < (len : Int) := by omega
 go_enter Tryz.func118, Tryz.ntmps118
 go_wp2
 exact bodyPost_ret (v := .tuple #[.int .u64 n, .int .i64 2, .bool false, .nilIface]) (by simp [results, Tryz.results118, go_sem]) rfl ⟨rfl, rfl⟩
theorem length_two_more (b : Int) (ad : Addr) (len c : Nat) (w : World) (hx : w.cell? ⟨ad.block, ad.off + 1, none⟩ = some (.int .u8 b)) (hn : Go.bits .andNot .u8 b 128 = 126) (hl : 2 ≤ len) (hs : len < 4) :
  Calls Tryz.prog 118 #[.slice (some ad) len c] w fun e w' => e = .returned (.tuple #[.int .u64 0, .int .i64 0, .bool true, .nilIface]) ∧ w' = w := by
 have p1 : (1 : Int) < (len : Int) := by omega
 have p2 : (len : Int) < 4 := by omega
 go_enter Tryz.func118, Tryz.ntmps118
 go_wp2
 exact bodyPost_ret (v := .tuple #[.int .u64 0, .int .i64 0, .bool true, .nilIface]) (by simp [results, Tryz.results118, go_sem]) rfl ⟨rfl, rfl⟩
theorem length_two_ok (b b2 b3 s2 s3 : Int) (ad : Addr) (len c : Nat) (w : World) (hx : w.cell? ⟨ad.block, ad.off + 1, none⟩ = some (.int .u8 b)) (hn : Go.bits .andNot .u8 b 128 = 126) (x2 : w.cell? ⟨ad.block, ad.off + 2, none⟩ = some (.int .u8 b2)) (x3 : w.cell? ⟨ad.block, ad.off + 3, none⟩ = some (.int .u8 b3)) (e2 : IntKind.u64.wrap b2 = b2) (e3 : IntKind.u64.wrap b3 = b3) (q2 : Go.bits .or .u64 0 b2 = s2) (q3 : Go.bits .or .u64 (s2 * 256) b3 = s3) (r3 : IntKind.u64.wrap (s2 * 256) = s2 * 256) (t1 : decide (s3 < 126) = false) (hl : 4 ≤ len) (hc : len ≤ c) :
  Calls Tryz.prog 118 #[.slice (some ad) len c] w fun e w' => e = .returned (.tuple #[.int .u64 s3, .int .i64 4, .bool false, .nilIface]) ∧ w' = w := by
 have p1 : (1 : Int) < (len : Int) := by omega
 have p2 : ¬ (len : Int) < 4 := by omega
 have p3 : (4 : Int) ≤ (len : Int) := by omega
 have p4 : (4 : Int) ≤ (c : Int) := by omega
 go_enter Tryz.func118, Tryz.ntmps118
 go_wp2
 refine wp_loop_rounds 3 ?_
 rw [rounds_succ]
 go_wp2
 rw [rounds_succ]
 go_wp2
 rw [rounds_succ]
 go_wp2
 exact bodyPost_ret (v := .tuple #[.int .u64 s3, .int .i64 4, .bool false, .nilIface]) (by simp [results, Tryz.results118, go_sem]) rfl ⟨rfl, rfl⟩
theorem length_two_bad (b b2 b3 s2 s3 : Int) (ad : Addr) (len c : Nat) (w : World) (hx : w.cell? ⟨ad.block, ad.off + 1, none⟩ = some (.int .u8 b)) (hn : Go.bits .andNot .u8 b 128 = 126) (x2 : w.cell? ⟨ad.block, ad.off + 2, none⟩ = some (.int .u8 b2)) (x3 : w.cell? ⟨ad.block, ad.off + 3, none⟩ = some (.int .u8 b3)) (e2 : IntKind.u64.wrap b2 = b2) (e3 : IntKind.u64.wrap b3 = b3) (q2 : Go.bits .or .u64 0 b2 = s2) (q3 : Go.bits .or .u64 (s2 * 256) b3 = s3) (r3 : IntKind.u64.wrap (s2 * 256) = s2 * 256) (t1 : decide (s3 < 126) = true) (hl : 4 ≤ len) (hc : len ≤ c) :
  Calls Tryz.prog 118 #[.slice (some ad) len c] w fun e w' => ∃ v, e = .returned (.tuple #[.int .u64 0, .int .i64 0, .bool false, v]) ∧ IsBad w' v 1002 ∧ Below w.heap.size w w' := by
 have p1 : (1 : Int) < (len : Int) := by omega
 have p2 : ¬ (len : Int) < 4 := by omega
 have p3 : (4 : Int) ≤ (len : Int) := by omega
 have p4 : (4 : Int) ≤ (c : Int) := by omega
 go_enter Tryz.func118, Tryz.ntmps118
 go_wp2
 refine wp_loop_rounds 3 ?_
 rw [rounds_succ]
 go_wp2
 rw [rounds_succ]
 go_wp2
 rw [rounds_succ]
 go_wp2_with fail
 refine (protocol_any _).mono ?_
 rintro e w1 ⟨v, rfl, hv, hb⟩
 go_wp2_with fail
 exact bodyPost_ret (v := .tuple #[.int .u64 0, .int .i64 0, .bool false, v]) (by simp [results, Tryz.results118, go_sem]) rfl ⟨_, rfl, hv, hb⟩
theorem length_eight_more (b : Int) (ad : Addr) (len c : Nat) (w : World) (hx : w.cell? ⟨ad.block, ad.off + 1, none⟩ = some (.int .u8 b)) (hn : Go.bits .andNot .u8 b 128 = 127) (hl : 2 ≤ len) (hs : len < 10) :
  Calls Tryz.prog 118 #[.slice (some ad) len c] w fun e w' => e = .returned (.tuple #[.int .u64 0, .int .i64 0, .bool true, .nilIface]) ∧ w' = w := by
 have p1 : (1 : Int) < (len : Int) := by omega
 have p2 : (len : Int) < 10 := by omega
 go_enter Tryz.func118, Tryz.ntmps118
 go_wp2
 exact bodyPost_ret (v := .tuple #[.int .u64 0, .int .i64 0, .bool true, .nilIface]) (by simp [results, Tryz.results118, go_sem]) rfl ⟨rfl, rfl⟩
theorem length_eight_ok (b b2 b3 b4 b5 b6 b7 b8 b9 s2 s3 s4 s5 s6 s7 s8 s9 : Int) (ad : Addr) (len c : Nat) (w : World) (hx : w.cell? ⟨ad.block, ad.off + 1, none⟩ = some (.int .u8 b)) (hn : Go.bits .andNot .u8 b 128 = 127) (x2 : w.cell? ⟨ad.block, ad.off + 2, none⟩ = some (.int .u8 b2)) (x3 : w.cell? ⟨ad.block, ad.off + 3, none⟩ = some (.int .u8 b3)) (x4 : w.cell? ⟨ad.block, ad.off + 4, none⟩ = some (.int .u8 b4)) (x5 : w.cell? ⟨ad.block, ad.off + 5, none⟩ = some (.int .u8 b5)) (x6 : w.cell? ⟨ad.block, ad.off + 6, none⟩ = some (.int .u8 b6)) (x7 : w.cell? ⟨ad.block, ad.off + 7, none⟩ = some (.int .u8 b7)) (x8 : w.cell? ⟨ad.block, ad.off + 8, none⟩ = some (.int .u8 b8)) (x9 : w.cell? ⟨ad.block, ad.off + 9, none⟩ = some (.int .u8 b9)) (e2 : IntKind.u64.wrap b2 = b2) (e3 : IntKind.u64.wrap b3 = b3) (e4 : IntKind.u64.wrap b4 = b4) (e5 : IntKind.u64.wrap b5 = b5) (e6 : IntKind.u64.wrap b6 = b6) (e7 : IntKind.u64.wrap b7 = b7) (e8 : IntKind.u64.wrap b8 = b8) (e9 : IntKind.u64.wrap b9 = b9) (q2 : Go.bits .or .u64 0 b2 = s2) (q3 : Go.bits .or .u64 (s2 * 256) b3 = s3) (q4 : Go.bits .or .u64 (s3 * 256) b4 = s4) (q5 : Go.bits .or .u64 (s4 * 256) b5 = s5) (q6 : Go.bits .or .u64 (s5 * 256) b6 = s6) (q7 : Go.bits .or .u64 (s6 * 256) b7 = s7) (q8 : Go.bits .or .u64 (s7 * 256) b8 = s8) (q9 : Go.bits .or .u64 (s8 * 256) b9 = s9) (r3 : IntKind.u64.wrap (s2 * 256) = s2 * 256) (r4 : IntKind.u64.wrap (s3 * 256) = s3 * 256) (r5 : IntKind.u64.wrap (s4 * 256) = s4 * 256) (r6 : IntKind.u64.wrap (s5 * 256) = s5 * 256) (r7 : IntKind.u64.wrap (s6 * 256) = s6 * 256) (r8 : IntKind.u64.wrap (s7 * 256) = s7 * 256) (r9 : IntKind.u64.wrap (s8 * 256) = s8 * 256) (t1 : decide (s9 < 126) = false) (t2 : decide (s9 < 65536) = false) (t3 : decide (9223372036854775808 ≤ s9) = false) (hl : 10 ≤ len) (hc : len ≤ c) :
  Calls Tryz.prog 118 #[.slice (some ad) len c] w fun e w' => e = .returned (.tuple #[.int .u64 s9, .int .i64 10, .bool false, .nilIface]) ∧ w' = w := by
 have p1 : (1 : Int) < (len : Int) := by omega
 have p2 : ¬ (len : Int) < 10 := by omega
 have p3 : (10 : Int) ≤ (len : Int) := by omega
 have p4 : (10 : Int) ≤ (c : Int) := by omega
 go_enter Tryz.func118, Tryz.ntmps118
 go_wp2
 refine wp_loop_rounds 9 ?_
 rw [rounds_succ]
 go_wp2
 rw [rounds_succ]
 go_wp2
 rw [rounds_succ]
 go_wp2
 rw [rounds_succ]
 go_wp2
 rw [rounds_succ]
 go_wp2
 rw [rounds_succ]
 go_wp2
 rw [rounds_succ]
 go_wp2
 rw [rounds_succ]
 go_wp2
 rw [rounds_succ]
 go_wp2
 exact bodyPost_ret (v := .tuple #[.int .u64 s9, .int .i64 10, .bool false, .nilIface]) (by simp [results, Tryz.results118, go_sem]) rfl ⟨rfl, rfl⟩
theorem length_eight_bad1 (b b2 b3 b4 b5 b6 b7 b8 b9 s2 s3 s4 s5 s6 s7 s8 s9 : Int) (ad : Addr) (len c : Nat) (w : World) (hx : w.cell? ⟨ad.block, ad.off + 1, none⟩ = some (.int .u8 b)) (hn : Go.bits .andNot .u8 b 128 = 127) (x2 : w.cell? ⟨ad.block, ad.off + 2, none⟩ = some (.int .u8 b2)) (x3 : w.cell? ⟨ad.block, ad.off + 3, none⟩ = some (.int .u8 b3)) (x4 : w.cell? ⟨ad.block, ad.off + 4, none⟩ = some (.int .u8 b4)) (x5 : w.cell? ⟨ad.block, ad.off + 5, none⟩ = some (.int .u8 b5)) (x6 : w.cell? ⟨ad.block, ad.off + 6, none⟩ = some (.int .u8 b6)) (x7 : w.cell? ⟨ad.block, ad.off + 7, none⟩ = some (.int .u8 b7)) (x8 : w.cell? ⟨ad.block, ad.off + 8, none⟩ = some (.int .u8 b8)) (x9 : w.cell? ⟨ad.block, ad.off + 9, none⟩ = some (.int .u8 b9)) (e2 : IntKind.u64.wrap b2 = b2) (e3 : IntKind.u64.wrap b3 = b3) (e4 : IntKind.u64.wrap b4 = b4) (e5 : IntKind.u64.wrap b5 = b5) (e6 : IntKind.u64.wrap b6 = b6) (e7 : IntKind.u64.wrap b7 = b7) (e8 : IntKind.u64.wrap b8 = b8) (e9 : IntKind.u64.wrap b9 = b9) (q2 : Go.bits .or .u64 0 b2 = s2) (q3 : Go.bits .or .u64 (s2 * 256) b3 = s3) (q4 : Go.bits .or .u64 (s3 * 256) b4 = s4) (q5 : Go.bits .or .u64 (s4 * 256) b5 = s5) (q6 : Go.bits .or .u64 (s5 * 256) b6 = s6) (q7 : Go.bits .or .u64 (s6 * 256) b7 = s7) (q8 : Go.bits .or .u64 (s7 * 256) b8 = s8) (q9 : Go.bits .or .u64 (s8 * 256) b9 = s9) (r3 : IntKind.u64.wrap (s2 * 256) = s2 * 256) (r4 : IntKind.u64.wrap (s3 * 256) = s3 * 256) (r5 : IntKind.u64.wrap (s4 * 256) = s4 * 256) (r6 : IntKind.u64.wrap (s5 * 256) = s5 * 256) (r7 : IntKind.u64.wrap (s6 * 256) = s6 * 256) (r8 : IntKind.u64.wrap (s7 * 256) = s7 * 256) (r9 : IntKind.u64.wrap (s8 * 256) = s8 * 256) (t1 : decide (s9 < 126) = true) (hl : 10 ≤ len) (hc : len ≤ c) :
  Calls Tryz.prog 118 #[.slice (some ad) len c] w fun e w' => ∃ v, e = .returned (.tuple #[.int .u64 0, .int .i64 0, .bool false, v]) ∧ IsBad w' v 1002 ∧ Below w.heap.size w w' := by
 have p1 : (1 : Int) < (len : Int) := by omega
 have p2 : ¬ (len : Int) < 10 := by omega
 have p3 : (10 : Int) ≤ (len : Int) := by omega
 have p4 : (10 : Int) ≤ (c : Int) := by omega
 go_enter Tryz.func118, Tryz.ntmps118
 go_wp2
 refine wp_loop_rounds 9 ?_
 rw [rounds_succ]
 go_wp2
 rw [rounds_succ]
 go_wp2
 rw [rounds_succ]
 go_wp2
 rw [rounds_succ]
 go_wp2
 rw [rounds_succ]
 go_wp2
 rw [rounds_succ]
 go_wp2
 rw [rounds_succ]
 go_wp2
 rw [rounds_succ]
 go_wp2
 rw [rounds_succ]
 go_wp2_with fail
 refine (protocol_any _).mono ?_
 rintro e w1 ⟨v, rfl, hv, hb⟩
 go_wp2_with fail
 exact bodyPost_ret (v := .tuple #[.int .u64 0, .int .i64 0, .bool false, v]) (by simp [results, Tryz.results118, go_sem]) rfl ⟨_, rfl, hv, hb⟩
theorem length_eight_bad2 (b b2 b3 b4 b5 b6 b7 b8 b9 s2 s3 s4 s5 s6 s7 s8 s9 : Int) (ad : Addr) (len c : Nat) (w : World) (hx : w.cell? ⟨ad.block, ad.off + 1, none⟩ = some (.int .u8 b)) (hn : Go.bits .andNot .u8 b 128 = 127) (x2 : w.cell? ⟨ad.block, ad.off + 2, none⟩ = some (.int .u8 b2)) (x3 : w.cell? ⟨ad.block, ad.off + 3, none⟩ = some (.int .u8 b3)) (x4 : w.cell? ⟨ad.block, ad.off + 4, none⟩ = some (.int .u8 b4)) (x5 : w.cell? ⟨ad.block, ad.off + 5, none⟩ = some (.int .u8 b5)) (x6 : w.cell? ⟨ad.block, ad.off + 6, none⟩ = some (.int .u8 b6)) (x7 : w.cell? ⟨ad.block, ad.off + 7, none⟩ = some (.int .u8 b7)) (x8 : w.cell? ⟨ad.block, ad.off + 8, none⟩ = some (.int .u8 b8)) (x9 : w.cell? ⟨ad.block, ad.off + 9, none⟩ = some (.int .u8 b9)) (e2 : IntKind.u64.wrap b2 = b2) (e3 : IntKind.u64.wrap b3 = b3) (e4 : IntKind.u64.wrap b4 = b4) (e5 : IntKind.u64.wrap b5 = b5) (e6 : IntKind.u64.wrap b6 = b6) (e7 : IntKind.u64.wrap b7 = b7) (e8 : IntKind.u64.wrap b8 = b8) (e9 : IntKind.u64.wrap b9 = b9) (q2 : Go.bits .or .u64 0 b2 = s2) (q3 : Go.bits .or .u64 (s2 * 256) b3 = s3) (q4 : Go.bits .or .u64 (s3 * 256) b4 = s4) (q5 : Go.bits .or .u64 (s4 * 256) b5 = s5) (q6 : Go.bits .or .u64 (s5 * 256) b6 = s6) (q7 : Go.bits .or .u64 (s6 * 256) b7 = s7) (q8 : Go.bits .or .u64 (s7 * 256) b8 = s8) (q9 : Go.bits .or .u64 (s8 * 256) b9 = s9) (r3 : IntKind.u64.wrap (s2 * 256) = s2 * 256) (r4 : IntKind.u64.wrap (s3 * 256) = s3 * 256) (r5 : IntKind.u64.wrap (s4 * 256) = s4 * 256) (r6 : IntKind.u64.wrap (s5 * 256) = s5 * 256) (r7 : IntKind.u64.wrap (s6 * 256) = s6 * 256) (r8 : IntKind.u64.wrap (s7 * 256) = s7 * 256) (r9 : IntKind.u64.wrap (s8 * 256) = s8 * 256) (t1 : decide (s9 < 126) = false) (t2 : decide (s9 < 65536) = true) (hl : 10 ≤ len) (hc : len ≤ c) :
  Calls Tryz.prog 118 #[.slice (some ad) len c] w fun e w' => ∃ v, e = .returned (.tuple #[.int .u64 0, .int .i64 0, .bool false, v]) ∧ IsBad w' v 1002 ∧ Below w.heap.size w w' := by
 have p1 : (1 : Int) < (len : Int) := by omega
 have p2 : ¬ (len : Int) < 10 := by omega
 have p3 : (10 : Int) ≤ (len : Int) := by omega
 have p4 : (10 : Int) ≤ (c : Int) := by omega
 go_enter Tryz.func118, Tryz.ntmps118
 go_wp2
 refine wp_loop_rounds 9 ?_
 rw [rounds_succ]
 go_wp2
 rw [rounds_succ]
 go_wp2
 rw [rounds_succ]
 go_wp2
 rw [rounds_succ]
 go_wp2
 rw [rounds_succ]
 go_wp2
 rw [rounds_succ]
 go_wp2
 rw [rounds_succ]
 go_wp2
 rw [rounds_succ]
 go_wp2
 rw [rounds_succ]
 go_wp2_with fail
 refine (protocol_any _).mono ?_
 rintro e w1 ⟨v, rfl, hv, hb⟩
 go_wp2_with fail
 exact bodyPost_ret (v := .tuple #[.int .u64 0, .int .i64 0, .bool false, v]) (by simp [results, Tryz.results118, go_sem]) rfl ⟨_, rfl, hv, hb⟩
theorem length_eight_bad3 (b b2 b3 b4 b5 b6 b7 b8 b9 s2 s3 s4 s5 s6 s7 s8 s9 : Int) (ad : Addr) (len c : Nat) (w : World) (hx : w.cell? ⟨ad.block, ad.off + 1, none⟩ = some (.int .u8 b)) (hn : Go.bits .andNot .u8 b 128 = 127) (x2 : w.cell? ⟨ad.block, ad.off + 2, none⟩ = some (.int .u8 b2)) (x3 : w.cell? ⟨ad.block, ad.off + 3, none⟩ = some (.int .u8 b3)) (x4 : w.cell? ⟨ad.block, ad.off + 4, none⟩ = some (.int .u8 b4)) (x5 : w.cell? ⟨ad.block, ad.off + 5, none⟩ = some (.int .u8 b5)) (x6 : w.cell? ⟨ad.block, ad.off + 6, none⟩ = some (.int .u8 b6)) (x7 : w.cell? ⟨ad.block, ad.off + 7, none⟩ = some (.int .u8 b7)) (x8 : w.cell? ⟨ad.block, ad.off + 8, none⟩ = some (.int .u8 b8)) (x9 : w.cell? ⟨ad.block, ad.off + 9, none⟩ = some (.int .u8 b9)) (e2 : IntKind.u64.wrap b2 = b2) (e3 : IntKind.u64.wrap b3 = b3) (e4 : IntKind.u64.wrap b4 = b4) (e5 : IntKind.u64.wrap b5 = b5) (e6 : IntKind.u64.wrap b6 = b6) (e7 : IntKind.u64.wrap b7 = b7) (e8 : IntKind.u64.wrap b8 = b8) (e9 : IntKind.u64.wrap b9 = b9) (q2 : Go.bits .or .u64 0 b2 = s2) (q3 : Go.bits .or .u64 (s2 * 256) b3 = s3) (q4 : Go.bits .or .u64 (s3 * 256) b4 = s4) (q5 : Go.bits .or .u64 (s4 * 256) b5 = s5) (q6 : Go.bits .or .u64 (s5 * 256) b6 = s6) (q7 : Go.bits .or .u64 (s6 * 256) b7 = s7) (q8 : Go.bits .or .u64 (s7 * 256) b8 = s8) (q9 : Go.bits .or .u64 (s8 * 256) b9 = s9) (r3 : IntKind.u64.wrap (s2 * 256) = s2 * 256) (r4 : IntKind.u64.wrap (s3 * 256) = s3 * 256) (r5 : IntKind.u64.wrap (s4 * 256) = s4 * 256) (r6 : IntKind.u64.wrap (s5 * 256) = s5 * 256) (r7 : IntKind.u64.wrap (s6 * 256) = s6 * 256) (r8 : IntKind.u64.wrap (s7 * 256) = s7 * 256) (r9 : IntKind.u64.wrap (s8 * 256) = s8 * 256) (t1 : decide (s9 < 126) = false) (t2 : decide (s9 < 65536) = false) (t3 : decide (9223372036854775808 ≤ s9) = true) (hl : 10 ≤ len) (hc : len ≤ c) :
  Calls Tryz.prog 118 #[.slice (some ad) len c] w fun e w' => ∃ v, e = .returned (.tuple #[.int .u64 0, .int .i64 0, .bool false, v]) ∧ IsBad w' v 1002 ∧ Below w.heap.size w w' := by
 have p1 : (1 : Int) < (len : Int) := by omega
 have p2 : ¬ (len : Int) < 10 := by omega
 have p3 : (10 : Int) ≤ (len : Int) := by omega
 have p4 : (10 : Int) ≤ (c : Int) := by omega
 go_enter Tryz.func118, Tryz.ntmps118
 go_wp2
 refine wp_loop_rounds 9 ?_
 rw [rounds_succ]
 go_wp2
 rw [rounds_succ]
 go_wp2
 rw [rounds_succ]
 go_wp2
 rw [rounds_succ]
 go_wp2
 rw [rounds_succ]
 go_wp2
 rw [rounds_succ]
 go_wp2
 rw [rounds_succ]
 go_wp2
 rw [rounds_succ]
 go_wp2
 rw [rounds_succ]
 go_wp2_with fail
 refine (protocol_any _).mono ?_
 rintro e w1 ⟨v, rfl, hv, hb⟩
 go_wp2_with fail
 exact bodyPost_ret (v := .tuple #[.int .u64 0, .int .i64 0, .bool false, v]) (by simp [results, Tryz.results118, go_sem]) rfl ⟨_, rfl, hv, hb⟩
end Go.Proofs.YtpmeapdcjmaeiaaGreatDoor
namespace Go.Proofs.YtpmeapdcjmaeiaaGreatDoor
open Go.RowKit Go.Wa Go.Wb Go.Wc
def knownB (a : Int) : Bool := decide (a ≤ 2) || (decide (8 ≤ a) && decide (a ≤ 10))
theorem known_any (a : Int) (r : Bool) (hr : knownB a = r) (w : World) : Calls Tryz.prog 98 #[.int .u8 a] w fun e w' => e = .returned (.bool r) ∧ w' = w := by
 subst hr
 unfold knownB
 cases h1 : decide (a ≤ 2)
 ·cases h2 : decide (8 ≤ a)
  ·go_enter Tryz.func98, Tryz.ntmps98
   go_wp2
   go_ret
   exact ⟨rfl, rfl⟩
  ·cases h3 : decide (a ≤ 10)
   all_goals
    go_enter Tryz.func98, Tryz.ntmps98
    go_wp2
    go_ret
    exact ⟨rfl, rfl⟩
 ·go_enter Tryz.func98, Tryz.ntmps98
  go_wp2
  go_ret
  exact ⟨rfl, rfl⟩
theorem control_any (a : Int) (r : Bool) (hr : decide (8 ≤ a) = r) (w : World) : Calls Tryz.prog 99 #[.int .u8 a] w fun e w' => e = .returned (.bool r) ∧ w' = w := by
 go_enter Tryz.func99, Tryz.ntmps99
 go_wp2
 go_ret
 exact ⟨rfl, rfl⟩
def HeadPost (f d : Int) (more : Bool) (code : Int) (w : World) (e : Ending) (w' : World) : Prop := ∃ v, e = .returned (.tuple #[.int .i64 f, .int .i64 d, .bool more, v]) ∧ ((code = 0 ∧ v = .nilIface) ∨ (code ≠ 0 ∧ IsBad w' v code)) ∧ Below w.heap.size w w'
theorem HeadPost.nil (f d : Int) (more : Bool) (w : World) : HeadPost f d more 0 w (.returned (.tuple #[.int .i64 f, .int .i64 d, .bool more, .nilIface])) w := ⟨_, rfl, .inl ⟨rfl, rfl⟩, Below.refl _ _⟩
theorem HeadPost.bad {code : Int} (hc : code ≠ 0) {v : Value} {w w' : World} (hv : IsBad w' v code) (hb : Below w.heap.size w w') : HeadPost 0 0 false code w (.returned (.tuple #[.int .i64 0, .int .i64 0, .bool false, v])) w' := ⟨_, rfl, .inr ⟨hc, hv⟩, hb⟩
def HeadTo (A : Option Addr) (len c : Nat) (m : Bool) (w : World) (f d : Int) (more : Bool) (code : Int) : Prop :=
 Calls Tryz.prog 100 #[.slice A len c, .bool m] w (HeadPost f d more code w)
theorem head_none (c : Nat) (m : Bool) (w : World) (A : Option Addr)  : HeadTo A 0 c m w 0 0 true 0 := by
 unfold HeadTo
 go_enter Tryz.func100, Tryz.ntmps100
 go_wp2
 exact bodyPost_ret (v := .tuple #[.int .i64 0, .int .i64 0, .bool true, .nilIface]) (by simp [results, Tryz.results100, go_sem]) rfl (HeadPost.nil _ _ _ _)
theorem head_first_bits (b0 op z : Int) (m : Bool) (ad : Addr) (len c : Nat) (w : World) (hl : 1 ≤ len) (x0 : w.cell? ad = some (.int .u8 b0)) (ho : Go.bits .and .u8 b0 15 = op) (hz : Go.bits .and .u8 b0 112 = z) (hzz : (z != 0) = true) : HeadTo (some ad) len c m w 0 0 false 1002 := by
 unfold HeadTo
 have p0 : (0 : Int) < (len : Int) := by omega
 have p0n : 0 < len := by omega
 have q0 : ((len : Int) == 0) = false := nb_ (by omega)
 have q0n : (len == 0) = false := nb_ (by omega)
 go_enter Tryz.func100, Tryz.ntmps100
 go_wp2_with fail
 refine (protocol_any _).mono ?_
 rintro e w1 ⟨v, rfl, hv, hb⟩
 go_wp2_with fail
 exact bodyPost_ret (v := .tuple #[.int .i64 0, .int .i64 0, .bool false, v]) (by simp [results, Tryz.results100, go_sem]) rfl (HeadPost.bad (by decide) hv hb)
theorem head_first_unknown (b0 op z : Int) (m : Bool) (ad : Addr) (len c : Nat) (w : World) (hl : 1 ≤ len) (x0 : w.cell? ad = some (.int .u8 b0)) (ho : Go.bits .and .u8 b0 15 = op) (hz : Go.bits .and .u8 b0 112 = z) (hzz : (z != 0) = false) (hk : knownB op = false) : HeadTo (some ad) len c m w 0 0 false 1002 := by
 unfold HeadTo
 have p0 : (0 : Int) < (len : Int) := by omega
 have p0n : 0 < len := by omega
 have q0 : ((len : Int) == 0) = false := nb_ (by omega)
 have q0n : (len == 0) = false := nb_ (by omega)
 go_enter Tryz.func100, Tryz.ntmps100
 go_wp2_with (first | (go_at_call 98; ((with_reducible refine (known_any _ _ hk _).mono ?_); rintro e w' ⟨rfl, rfl⟩)) | fail)
 refine (protocol_any _).mono ?_
 rintro e w1 ⟨v, rfl, hv, hb⟩
 go_wp2_with fail
 exact bodyPost_ret (v := .tuple #[.int .i64 0, .int .i64 0, .bool false, v]) (by simp [results, Tryz.results100, go_sem]) rfl (HeadPost.bad (by decide) hv hb)
theorem head_first_unfin (b0 op z : Int) (m : Bool) (ad : Addr) (len c : Nat) (w : World) (hl : 1 ≤ len) (x0 : w.cell? ad = some (.int .u8 b0)) (ho : Go.bits .and .u8 b0 15 = op) (hz : Go.bits .and .u8 b0 112 = z) (hzz : (z != 0) = false) (hk : knownB op = true) (hc : decide (8 ≤ op) = true) (hf : decide (b0 < 128) = true) : HeadTo (some ad) len c m w 0 0 false 1002 := by
 unfold HeadTo
 have p0 : (0 : Int) < (len : Int) := by omega
 have p0n : 0 < len := by omega
 have q0 : ((len : Int) == 0) = false := nb_ (by omega)
 have q0n : (len == 0) = false := nb_ (by omega)
 go_enter Tryz.func100, Tryz.ntmps100
 go_wp2_with (first | (go_at_call 98; ((with_reducible refine (known_any _ _ hk _).mono ?_); rintro e w' ⟨rfl, rfl⟩)) | (go_at_call 99; ((with_reducible refine (control_any _ _ hc _).mono ?_); rintro e w' ⟨rfl, rfl⟩)) | fail)
 refine (protocol_any _).mono ?_
 rintro e w1 ⟨v, rfl, hv, hb⟩
 go_wp2_with fail
 exact bodyPost_ret (v := .tuple #[.int .i64 0, .int .i64 0, .bool false, v]) (by simp [results, Tryz.results100, go_sem]) rfl (HeadPost.bad (by decide) hv hb)
theorem head_one_d (b0 op z : Int) (m : Bool) (ad : Addr) (c : Nat) (w : World) (x0 : w.cell? ad = some (.int .u8 b0)) (ho : Go.bits .and .u8 b0 15 = op) (hz : Go.bits .and .u8 b0 112 = z) (hzz : (z != 0) = false) (hk : knownB op = true) (hc : decide (8 ≤ op) = false) : HeadTo (some ad) 1 c m w 0 0 true 0 := by
 unfold HeadTo
 go_enter Tryz.func100, Tryz.ntmps100
 go_wp2_with (first | (go_at_call 98; ((with_reducible refine (known_any _ _ hk _).mono ?_); rintro e w' ⟨rfl, rfl⟩)) | (go_at_call 99; ((with_reducible refine (control_any _ _ hc _).mono ?_); rintro e w' ⟨rfl, rfl⟩)) | fail)
 exact bodyPost_ret (v := .tuple #[.int .i64 0, .int .i64 0, .bool true, .nilIface]) (by simp [results, Tryz.results100, go_sem]) rfl (HeadPost.nil _ _ _ _)
theorem head_mask_d_false (b0 b1 op z : Int) (ad : Addr) (len c : Nat) (w : World) (hl : 2 ≤ len) (x0 : w.cell? ad = some (.int .u8 b0)) (ho : Go.bits .and .u8 b0 15 = op) (hz : Go.bits .and .u8 b0 112 = z) (x1 : w.cell? ⟨ad.block, ad.off + 1, none⟩ = some (.int .u8 b1)) (hzz : (z != 0) = false) (hk : knownB op = true) (hc : decide (8 ≤ op) = false) (hm : decide (128 ≤ b1) = true) : HeadTo (some ad) len c false w 0 0 false 1002 := by
 unfold HeadTo
 have p0 : (0 : Int) < (len : Int) := by omega
 have p0n : 0 < len := by omega
 have q0 : ((len : Int) == 0) = false := nb_ (by omega)
 have q0n : (len == 0) = false := nb_ (by omega)
 have p1 : (1 : Int) < (len : Int) := by omega
 have p1n : 1 < len := by omega
 have q1 : ((len : Int) == 1) = false := nb_ (by omega)
 have q1n : (len == 1) = false := nb_ (by omega)
 go_enter Tryz.func100, Tryz.ntmps100
 go_wp2_with (first | (go_at_call 98; ((with_reducible refine (known_any _ _ hk _).mono ?_); rintro e w' ⟨rfl, rfl⟩)) | (go_at_call 99; ((with_reducible refine (control_any _ _ hc _).mono ?_); rintro e w' ⟨rfl, rfl⟩)) | fail)
 refine (protocol_any _).mono ?_
 rintro e w1 ⟨v, rfl, hv, hb⟩
 go_wp2_with fail
 exact bodyPost_ret (v := .tuple #[.int .i64 0, .int .i64 0, .bool false, v]) (by simp [results, Tryz.results100, go_sem]) rfl (HeadPost.bad (by decide) hv hb)
theorem head_more_d_false (b0 b1 op z : Int) (ad : Addr) (len c : Nat) (w : World) (hl : 2 ≤ len) (x0 : w.cell? ad = some (.int .u8 b0)) (ho : Go.bits .and .u8 b0 15 = op) (hz : Go.bits .and .u8 b0 112 = z) (x1 : w.cell? ⟨ad.block, ad.off + 1, none⟩ = some (.int .u8 b1)) (hzz : (z != 0) = false) (hk : knownB op = true) (hc : decide (8 ≤ op) = false) (hm : decide (128 ≤ b1) = false) (HL : Aside0 (Calls Tryz.prog 118 #[.slice (some ad) len c] w fun e w' => e = .returned (.tuple #[.int .u64 0, .int .i64 0, .bool true, .nilIface]) ∧ w' = w)) : HeadTo (some ad) len c false w 0 0 true 0 := by
 unfold HeadTo
 have p0 : (0 : Int) < (len : Int) := by omega
 have p0n : 0 < len := by omega
 have q0 : ((len : Int) == 0) = false := nb_ (by omega)
 have q0n : (len == 0) = false := nb_ (by omega)
 have p1 : (1 : Int) < (len : Int) := by omega
 have p1n : 1 < len := by omega
 have q1 : ((len : Int) == 1) = false := nb_ (by omega)
 have q1n : (len == 1) = false := nb_ (by omega)
 go_enter Tryz.func100, Tryz.ntmps100
 go_wp2_with (first | (go_at_call 98; ((with_reducible refine (known_any _ _ hk _).mono ?_); rintro e w' ⟨rfl, rfl⟩)) | (go_at_call 99; ((with_reducible refine (control_any _ _ hc _).mono ?_); rintro e w' ⟨rfl, rfl⟩)) | fail)
 with_reducible refine HL.out.mono ?_
 rintro e w1 ⟨rfl, rfl⟩
 go_wp2_with fail
 exact bodyPost_ret (v := .tuple #[.int .i64 0, .int .i64 0, .bool true, .nilIface]) (by simp [results, Tryz.results100, go_sem]) rfl (HeadPost.nil _ _ _ _)
theorem head_bad_d_false (b0 b1 op z : Int) (ad : Addr) (len c : Nat) (w : World) (hl : 2 ≤ len) (x0 : w.cell? ad = some (.int .u8 b0)) (ho : Go.bits .and .u8 b0 15 = op) (hz : Go.bits .and .u8 b0 112 = z) (x1 : w.cell? ⟨ad.block, ad.off + 1, none⟩ = some (.int .u8 b1)) (hzz : (z != 0) = false) (hk : knownB op = true) (hc : decide (8 ≤ op) = false) (hm : decide (128 ≤ b1) = false) (HL : Aside0 (Calls Tryz.prog 118 #[.slice (some ad) len c] w fun e w' => ∃ v, e = .returned (.tuple #[.int .u64 0, .int .i64 0, .bool false, v]) ∧ IsBad w' v 1002 ∧ Below w.heap.size w w')) : HeadTo (some ad) len c false w 0 0 false 1002 := by
 unfold HeadTo
 have p0 : (0 : Int) < (len : Int) := by omega
 have p0n : 0 < len := by omega
 have q0 : ((len : Int) == 0) = false := nb_ (by omega)
 have q0n : (len == 0) = false := nb_ (by omega)
 have p1 : (1 : Int) < (len : Int) := by omega
 have p1n : 1 < len := by omega
 have q1 : ((len : Int) == 1) = false := nb_ (by omega)
 have q1n : (len == 1) = false := nb_ (by omega)
 go_enter Tryz.func100, Tryz.ntmps100
 go_wp2_with (first | (go_at_call 98; ((with_reducible refine (known_any _ _ hk _).mono ?_); rintro e w' ⟨rfl, rfl⟩)) | (go_at_call 99; ((with_reducible refine (control_any _ _ hc _).mono ?_); rintro e w' ⟨rfl, rfl⟩)) | fail)
 with_reducible refine HL.out.mono ?_
 rintro e w1 ⟨v, rfl, hv, hb⟩
 obtain ⟨gv, rfl, hgv⟩ := hv
 have HV := a_ hgv
 clear hgv
 go_wp2_with fail
 exact bodyPost_ret (v := .tuple #[.int .i64 0, .int .i64 0, .bool false, .iface 166 (.pointer (some ⟨gv, 0, none⟩))]) (by simp [results, Tryz.results100, go_sem]) rfl (HeadPost.bad (by decide) ⟨gv, rfl, HV.out⟩ hb)
theorem head_great_d_false (b0 b1 op z nn us : Int) (ad : Addr) (len c : Nat) (w : World) (hl : 2 ≤ len) (x0 : w.cell? ad = some (.int .u8 b0)) (ho : Go.bits .and .u8 b0 15 = op) (hz : Go.bits .and .u8 b0 112 = z) (x1 : w.cell? ⟨ad.block, ad.off + 1, none⟩ = some (.int .u8 b1)) (hzz : (z != 0) = false) (hk : knownB op = true) (hc : decide (8 ≤ op) = false) (hm : decide (128 ≤ b1) = false) (HL : Aside0 (Calls Tryz.prog 118 #[.slice (some ad) len c] w fun e w' => e = .returned (.tuple #[.int .u64 nn, .int .i64 us, .bool false, .nilIface]) ∧ w' = w)) (hg : decide (4096 < nn) = true) : HeadTo (some ad) len c false w 0 0 false 1009 := by
 unfold HeadTo
 have p0 : (0 : Int) < (len : Int) := by omega
 have p0n : 0 < len := by omega
 have q0 : ((len : Int) == 0) = false := nb_ (by omega)
 have q0n : (len == 0) = false := nb_ (by omega)
 have p1 : (1 : Int) < (len : Int) := by omega
 have p1n : 1 < len := by omega
 have q1 : ((len : Int) == 1) = false := nb_ (by omega)
 have q1n : (len == 1) = false := nb_ (by omega)
 go_enter Tryz.func100, Tryz.ntmps100
 go_wp2_with (first | (go_at_call 98; ((with_reducible refine (known_any _ _ hk _).mono ?_); rintro e w' ⟨rfl, rfl⟩)) | (go_at_call 99; ((with_reducible refine (control_any _ _ hc _).mono ?_); rintro e w' ⟨rfl, rfl⟩)) | fail)
 with_reducible refine HL.out.mono ?_
 rintro e w1 ⟨rfl, rfl⟩
 go_wp2_with fail
 refine (socket_any 1009 _).mono ?_
 rintro e w1 ⟨v, rfl, hv, hb⟩
 go_wp2_with fail
 exact bodyPost_ret (v := .tuple #[.int .i64 0, .int .i64 0, .bool false, v]) (by simp [results, Tryz.results100, go_sem]) rfl (HeadPost.bad (by decide) hv hb)
theorem head_ok_d_false (b0 b1 op z nn us : Int) (ad : Addr) (len c : Nat) (w : World) (hl : 2 ≤ len) (x0 : w.cell? ad = some (.int .u8 b0)) (ho : Go.bits .and .u8 b0 15 = op) (hz : Go.bits .and .u8 b0 112 = z) (x1 : w.cell? ⟨ad.block, ad.off + 1, none⟩ = some (.int .u8 b1)) (hzz : (z != 0) = false) (hk : knownB op = true) (hc : decide (8 ≤ op) = false) (hm : decide (128 ≤ b1) = false) (HL : Aside0 (Calls Tryz.prog 118 #[.slice (some ad) len c] w fun e w' => e = .returned (.tuple #[.int .u64 nn, .int .i64 us, .bool false, .nilIface]) ∧ w' = w)) (hg : decide (4096 < nn) = false) (hw : IntKind.i64.wrap nn = nn) : HeadTo (some ad) len c false w us nn false 0 := by
 unfold HeadTo
 have p0 : (0 : Int) < (len : Int) := by omega
 have p0n : 0 < len := by omega
 have q0 : ((len : Int) == 0) = false := nb_ (by omega)
 have q0n : (len == 0) = false := nb_ (by omega)
 have p1 : (1 : Int) < (len : Int) := by omega
 have p1n : 1 < len := by omega
 have q1 : ((len : Int) == 1) = false := nb_ (by omega)
 have q1n : (len == 1) = false := nb_ (by omega)
 go_enter Tryz.func100, Tryz.ntmps100
 go_wp2_with (first | (go_at_call 98; ((with_reducible refine (known_any _ _ hk _).mono ?_); rintro e w' ⟨rfl, rfl⟩)) | (go_at_call 99; ((with_reducible refine (control_any _ _ hc _).mono ?_); rintro e w' ⟨rfl, rfl⟩)) | fail)
 with_reducible refine HL.out.mono ?_
 rintro e w1 ⟨rfl, rfl⟩
 go_wp2_with fail
 exact bodyPost_ret (v := .tuple #[.int .i64 us, .int .i64 nn, .bool false, .nilIface]) (by simp [results, Tryz.results100, go_sem]) rfl (HeadPost.nil _ _ _ _)
theorem head_mask_d_true (b0 b1 op z : Int) (ad : Addr) (len c : Nat) (w : World) (hl : 2 ≤ len) (x0 : w.cell? ad = some (.int .u8 b0)) (ho : Go.bits .and .u8 b0 15 = op) (hz : Go.bits .and .u8 b0 112 = z) (x1 : w.cell? ⟨ad.block, ad.off + 1, none⟩ = some (.int .u8 b1)) (hzz : (z != 0) = false) (hk : knownB op = true) (hc : decide (8 ≤ op) = false) (hm : decide (128 ≤ b1) = false) : HeadTo (some ad) len c true w 0 0 false 1002 := by
 unfold HeadTo
 have p0 : (0 : Int) < (len : Int) := by omega
 have p0n : 0 < len := by omega
 have q0 : ((len : Int) == 0) = false := nb_ (by omega)
 have q0n : (len == 0) = false := nb_ (by omega)
 have p1 : (1 : Int) < (len : Int) := by omega
 have p1n : 1 < len := by omega
 have q1 : ((len : Int) == 1) = false := nb_ (by omega)
 have q1n : (len == 1) = false := nb_ (by omega)
 go_enter Tryz.func100, Tryz.ntmps100
 go_wp2_with (first | (go_at_call 98; ((with_reducible refine (known_any _ _ hk _).mono ?_); rintro e w' ⟨rfl, rfl⟩)) | (go_at_call 99; ((with_reducible refine (control_any _ _ hc _).mono ?_); rintro e w' ⟨rfl, rfl⟩)) | fail)
 refine (protocol_any _).mono ?_
 rintro e w1 ⟨v, rfl, hv, hb⟩
 go_wp2_with fail
 exact bodyPost_ret (v := .tuple #[.int .i64 0, .int .i64 0, .bool false, v]) (by simp [results, Tryz.results100, go_sem]) rfl (HeadPost.bad (by decide) hv hb)
theorem head_more_d_true (b0 b1 op z : Int) (ad : Addr) (len c : Nat) (w : World) (hl : 2 ≤ len) (x0 : w.cell? ad = some (.int .u8 b0)) (ho : Go.bits .and .u8 b0 15 = op) (hz : Go.bits .and .u8 b0 112 = z) (x1 : w.cell? ⟨ad.block, ad.off + 1, none⟩ = some (.int .u8 b1)) (hzz : (z != 0) = false) (hk : knownB op = true) (hc : decide (8 ≤ op) = false) (hm : decide (128 ≤ b1) = true) (HL : Aside0 (Calls Tryz.prog 118 #[.slice (some ad) len c] w fun e w' => e = .returned (.tuple #[.int .u64 0, .int .i64 0, .bool true, .nilIface]) ∧ w' = w)) : HeadTo (some ad) len c true w 0 0 true 0 := by
 unfold HeadTo
 have p0 : (0 : Int) < (len : Int) := by omega
 have p0n : 0 < len := by omega
 have q0 : ((len : Int) == 0) = false := nb_ (by omega)
 have q0n : (len == 0) = false := nb_ (by omega)
 have p1 : (1 : Int) < (len : Int) := by omega
 have p1n : 1 < len := by omega
 have q1 : ((len : Int) == 1) = false := nb_ (by omega)
 have q1n : (len == 1) = false := nb_ (by omega)
 go_enter Tryz.func100, Tryz.ntmps100
 go_wp2_with (first | (go_at_call 98; ((with_reducible refine (known_any _ _ hk _).mono ?_); rintro e w' ⟨rfl, rfl⟩)) | (go_at_call 99; ((with_reducible refine (control_any _ _ hc _).mono ?_); rintro e w' ⟨rfl, rfl⟩)) | fail)
 with_reducible refine HL.out.mono ?_
 rintro e w1 ⟨rfl, rfl⟩
 go_wp2_with fail
 exact bodyPost_ret (v := .tuple #[.int .i64 0, .int .i64 0, .bool true, .nilIface]) (by simp [results, Tryz.results100, go_sem]) rfl (HeadPost.nil _ _ _ _)
theorem head_bad_d_true (b0 b1 op z : Int) (ad : Addr) (len c : Nat) (w : World) (hl : 2 ≤ len) (x0 : w.cell? ad = some (.int .u8 b0)) (ho : Go.bits .and .u8 b0 15 = op) (hz : Go.bits .and .u8 b0 112 = z) (x1 : w.cell? ⟨ad.block, ad.off + 1, none⟩ = some (.int .u8 b1)) (hzz : (z != 0) = false) (hk : knownB op = true) (hc : decide (8 ≤ op) = false) (hm : decide (128 ≤ b1) = true) (HL : Aside0 (Calls Tryz.prog 118 #[.slice (some ad) len c] w fun e w' => ∃ v, e = .returned (.tuple #[.int .u64 0, .int .i64 0, .bool false, v]) ∧ IsBad w' v 1002 ∧ Below w.heap.size w w')) : HeadTo (some ad) len c true w 0 0 false 1002 := by
 unfold HeadTo
 have p0 : (0 : Int) < (len : Int) := by omega
 have p0n : 0 < len := by omega
 have q0 : ((len : Int) == 0) = false := nb_ (by omega)
 have q0n : (len == 0) = false := nb_ (by omega)
 have p1 : (1 : Int) < (len : Int) := by omega
 have p1n : 1 < len := by omega
 have q1 : ((len : Int) == 1) = false := nb_ (by omega)
 have q1n : (len == 1) = false := nb_ (by omega)
 go_enter Tryz.func100, Tryz.ntmps100
 go_wp2_with (first | (go_at_call 98; ((with_reducible refine (known_any _ _ hk _).mono ?_); rintro e w' ⟨rfl, rfl⟩)) | (go_at_call 99; ((with_reducible refine (control_any _ _ hc _).mono ?_); rintro e w' ⟨rfl, rfl⟩)) | fail)
 with_reducible refine HL.out.mono ?_
 rintro e w1 ⟨v, rfl, hv, hb⟩
 obtain ⟨gv, rfl, hgv⟩ := hv
 have HV := a_ hgv
 clear hgv
 go_wp2_with fail
 exact bodyPost_ret (v := .tuple #[.int .i64 0, .int .i64 0, .bool false, .iface 166 (.pointer (some ⟨gv, 0, none⟩))]) (by simp [results, Tryz.results100, go_sem]) rfl (HeadPost.bad (by decide) ⟨gv, rfl, HV.out⟩ hb)
theorem head_great_d_true (b0 b1 op z nn us : Int) (ad : Addr) (len c : Nat) (w : World) (hl : 2 ≤ len) (x0 : w.cell? ad = some (.int .u8 b0)) (ho : Go.bits .and .u8 b0 15 = op) (hz : Go.bits .and .u8 b0 112 = z) (x1 : w.cell? ⟨ad.block, ad.off + 1, none⟩ = some (.int .u8 b1)) (hzz : (z != 0) = false) (hk : knownB op = true) (hc : decide (8 ≤ op) = false) (hm : decide (128 ≤ b1) = true) (HL : Aside0 (Calls Tryz.prog 118 #[.slice (some ad) len c] w fun e w' => e = .returned (.tuple #[.int .u64 nn, .int .i64 us, .bool false, .nilIface]) ∧ w' = w)) (hg : decide (4096 < nn) = true) : HeadTo (some ad) len c true w 0 0 false 1009 := by
 unfold HeadTo
 have p0 : (0 : Int) < (len : Int) := by omega
 have p0n : 0 < len := by omega
 have q0 : ((len : Int) == 0) = false := nb_ (by omega)
 have q0n : (len == 0) = false := nb_ (by omega)
 have p1 : (1 : Int) < (len : Int) := by omega
 have p1n : 1 < len := by omega
 have q1 : ((len : Int) == 1) = false := nb_ (by omega)
 have q1n : (len == 1) = false := nb_ (by omega)
 go_enter Tryz.func100, Tryz.ntmps100
 go_wp2_with (first | (go_at_call 98; ((with_reducible refine (known_any _ _ hk _).mono ?_); rintro e w' ⟨rfl, rfl⟩)) | (go_at_call 99; ((with_reducible refine (control_any _ _ hc _).mono ?_); rintro e w' ⟨rfl, rfl⟩)) | fail)
 with_reducible refine HL.out.mono ?_
 rintro e w1 ⟨rfl, rfl⟩
 go_wp2_with fail
 refine (socket_any 1009 _).mono ?_
 rintro e w1 ⟨v, rfl, hv, hb⟩
 go_wp2_with fail
 exact bodyPost_ret (v := .tuple #[.int .i64 0, .int .i64 0, .bool false, v]) (by simp [results, Tryz.results100, go_sem]) rfl (HeadPost.bad (by decide) hv hb)
theorem head_ok_d_true (b0 b1 op z nn us : Int) (ad : Addr) (len c : Nat) (w : World) (hl : 2 ≤ len) (x0 : w.cell? ad = some (.int .u8 b0)) (ho : Go.bits .and .u8 b0 15 = op) (hz : Go.bits .and .u8 b0 112 = z) (x1 : w.cell? ⟨ad.block, ad.off + 1, none⟩ = some (.int .u8 b1)) (hzz : (z != 0) = false) (hk : knownB op = true) (hc : decide (8 ≤ op) = false) (hm : decide (128 ≤ b1) = true) (HL : Aside0 (Calls Tryz.prog 118 #[.slice (some ad) len c] w fun e w' => e = .returned (.tuple #[.int .u64 nn, .int .i64 us, .bool false, .nilIface]) ∧ w' = w)) (hg : decide (4096 < nn) = false) (hw : IntKind.i64.wrap nn = nn) (hu : IntKind.i64.wrap (us + 4) = us + 4) : HeadTo (some ad) len c true w (us + 4) nn false 0 := by
 unfold HeadTo
 have p0 : (0 : Int) < (len : Int) := by omega
 have p0n : 0 < len := by omega
 have q0 : ((len : Int) == 0) = false := nb_ (by omega)
 have q0n : (len == 0) = false := nb_ (by omega)
 have p1 : (1 : Int) < (len : Int) := by omega
 have p1n : 1 < len := by omega
 have q1 : ((len : Int) == 1) = false := nb_ (by omega)
 have q1n : (len == 1) = false := nb_ (by omega)
 go_enter Tryz.func100, Tryz.ntmps100
 go_wp2_with (first | (go_at_call 98; ((with_reducible refine (known_any _ _ hk _).mono ?_); rintro e w' ⟨rfl, rfl⟩)) | (go_at_call 99; ((with_reducible refine (control_any _ _ hc _).mono ?_); rintro e w' ⟨rfl, rfl⟩)) | fail)
 with_reducible refine HL.out.mono ?_
 rintro e w1 ⟨rfl, rfl⟩
 go_wp2_with fail
 exact bodyPost_ret (v := .tuple #[.int .i64 (us + 4), .int .i64 nn, .bool false, .nilIface]) (by simp [results, Tryz.results100, go_sem]) rfl (HeadPost.nil _ _ _ _)
theorem head_one_c (b0 op z : Int) (m : Bool) (ad : Addr) (c : Nat) (w : World) (x0 : w.cell? ad = some (.int .u8 b0)) (ho : Go.bits .and .u8 b0 15 = op) (hz : Go.bits .and .u8 b0 112 = z) (hzz : (z != 0) = false) (hk : knownB op = true) (hc : decide (8 ≤ op) = true) (hf : decide (b0 < 128) = false) : HeadTo (some ad) 1 c m w 0 0 true 0 := by
 unfold HeadTo
 go_enter Tryz.func100, Tryz.ntmps100
 go_wp2_with (first | (go_at_call 98; ((with_reducible refine (known_any _ _ hk _).mono ?_); rintro e w' ⟨rfl, rfl⟩)) | (go_at_call 99; ((with_reducible refine (control_any _ _ hc _).mono ?_); rintro e w' ⟨rfl, rfl⟩)) | fail)
 exact bodyPost_ret (v := .tuple #[.int .i64 0, .int .i64 0, .bool true, .nilIface]) (by simp [results, Tryz.results100, go_sem]) rfl (HeadPost.nil _ _ _ _)
theorem head_mask_c_false (b0 b1 op z : Int) (ad : Addr) (len c : Nat) (w : World) (hl : 2 ≤ len) (x0 : w.cell? ad = some (.int .u8 b0)) (ho : Go.bits .and .u8 b0 15 = op) (hz : Go.bits .and .u8 b0 112 = z) (x1 : w.cell? ⟨ad.block, ad.off + 1, none⟩ = some (.int .u8 b1)) (hzz : (z != 0) = false) (hk : knownB op = true) (hc : decide (8 ≤ op) = true) (hf : decide (b0 < 128) = false) (hm : decide (128 ≤ b1) = true) : HeadTo (some ad) len c false w 0 0 false 1002 := by
 unfold HeadTo
 have p0 : (0 : Int) < (len : Int) := by omega
 have p0n : 0 < len := by omega
 have q0 : ((len : Int) == 0) = false := nb_ (by omega)
 have q0n : (len == 0) = false := nb_ (by omega)
 have p1 : (1 : Int) < (len : Int) := by omega
 have p1n : 1 < len := by omega
 have q1 : ((len : Int) == 1) = false := nb_ (by omega)
 have q1n : (len == 1) = false := nb_ (by omega)
 go_enter Tryz.func100, Tryz.ntmps100
 go_wp2_with (first | (go_at_call 98; ((with_reducible refine (known_any _ _ hk _).mono ?_); rintro e w' ⟨rfl, rfl⟩)) | (go_at_call 99; ((with_reducible refine (control_any _ _ hc _).mono ?_); rintro e w' ⟨rfl, rfl⟩)) | fail)
 refine (protocol_any _).mono ?_
 rintro e w1 ⟨v, rfl, hv, hb⟩
 go_wp2_with fail
 exact bodyPost_ret (v := .tuple #[.int .i64 0, .int .i64 0, .bool false, v]) (by simp [results, Tryz.results100, go_sem]) rfl (HeadPost.bad (by decide) hv hb)
theorem head_long_c_false (b0 b1 n op z : Int) (ad : Addr) (len c : Nat) (w : World) (hl : 2 ≤ len) (x0 : w.cell? ad = some (.int .u8 b0)) (ho : Go.bits .and .u8 b0 15 = op) (hz : Go.bits .and .u8 b0 112 = z) (x1 : w.cell? ⟨ad.block, ad.off + 1, none⟩ = some (.int .u8 b1)) (hzz : (z != 0) = false) (hk : knownB op = true) (hc : decide (8 ≤ op) = true) (hf : decide (b0 < 128) = false) (hm : decide (128 ≤ b1) = false) (hn : Go.bits .andNot .u8 b1 128 = n) (hlong : decide (126 ≤ n) = true) : HeadTo (some ad) len c false w 0 0 false 1002 := by
 unfold HeadTo
 have p0 : (0 : Int) < (len : Int) := by omega
 have p0n : 0 < len := by omega
 have q0 : ((len : Int) == 0) = false := nb_ (by omega)
 have q0n : (len == 0) = false := nb_ (by omega)
 have p1 : (1 : Int) < (len : Int) := by omega
 have p1n : 1 < len := by omega
 have q1 : ((len : Int) == 1) = false := nb_ (by omega)
 have q1n : (len == 1) = false := nb_ (by omega)
 go_enter Tryz.func100, Tryz.ntmps100
 go_wp2_with (first | (go_at_call 98; ((with_reducible refine (known_any _ _ hk _).mono ?_); rintro e w' ⟨rfl, rfl⟩)) | (go_at_call 99; ((with_reducible refine (control_any _ _ hc _).mono ?_); rintro e w' ⟨rfl, rfl⟩)) | fail)
 refine (protocol_any _).mono ?_
 rintro e w1 ⟨v, rfl, hv, hb⟩
 go_wp2_with fail
 exact bodyPost_ret (v := .tuple #[.int .i64 0, .int .i64 0, .bool false, v]) (by simp [results, Tryz.results100, go_sem]) rfl (HeadPost.bad (by decide) hv hb)
theorem head_more_c_false (b0 b1 n op z : Int) (ad : Addr) (len c : Nat) (w : World) (hl : 2 ≤ len) (x0 : w.cell? ad = some (.int .u8 b0)) (ho : Go.bits .and .u8 b0 15 = op) (hz : Go.bits .and .u8 b0 112 = z) (x1 : w.cell? ⟨ad.block, ad.off + 1, none⟩ = some (.int .u8 b1)) (hzz : (z != 0) = false) (hk : knownB op = true) (hc : decide (8 ≤ op) = true) (hf : decide (b0 < 128) = false) (hm : decide (128 ≤ b1) = false) (hn : Go.bits .andNot .u8 b1 128 = n) (hlong : decide (126 ≤ n) = false) (HL : Aside0 (Calls Tryz.prog 118 #[.slice (some ad) len c] w fun e w' => e = .returned (.tuple #[.int .u64 0, .int .i64 0, .bool true, .nilIface]) ∧ w' = w)) : HeadTo (some ad) len c false w 0 0 true 0 := by
 unfold HeadTo
 have p0 : (0 : Int) < (len : Int) := by omega
 have p0n : 0 < len := by omega
 have q0 : ((len : Int) == 0) = false := nb_ (by omega)
 have q0n : (len == 0) = false := nb_ (by omega)
 have p1 : (1 : Int) < (len : Int) := by omega
 have p1n : 1 < len := by omega
 have q1 : ((len : Int) == 1) = false := nb_ (by omega)
 have q1n : (len == 1) = false := nb_ (by omega)
 go_enter Tryz.func100, Tryz.ntmps100
 go_wp2_with (first | (go_at_call 98; ((with_reducible refine (known_any _ _ hk _).mono ?_); rintro e w' ⟨rfl, rfl⟩)) | (go_at_call 99; ((with_reducible refine (control_any _ _ hc _).mono ?_); rintro e w' ⟨rfl, rfl⟩)) | fail)
 with_reducible refine HL.out.mono ?_
 rintro e w1 ⟨rfl, rfl⟩
 go_wp2_with fail
 exact bodyPost_ret (v := .tuple #[.int .i64 0, .int .i64 0, .bool true, .nilIface]) (by simp [results, Tryz.results100, go_sem]) rfl (HeadPost.nil _ _ _ _)
theorem head_bad_c_false (b0 b1 n op z : Int) (ad : Addr) (len c : Nat) (w : World) (hl : 2 ≤ len) (x0 : w.cell? ad = some (.int .u8 b0)) (ho : Go.bits .and .u8 b0 15 = op) (hz : Go.bits .and .u8 b0 112 = z) (x1 : w.cell? ⟨ad.block, ad.off + 1, none⟩ = some (.int .u8 b1)) (hzz : (z != 0) = false) (hk : knownB op = true) (hc : decide (8 ≤ op) = true) (hf : decide (b0 < 128) = false) (hm : decide (128 ≤ b1) = false) (hn : Go.bits .andNot .u8 b1 128 = n) (hlong : decide (126 ≤ n) = false) (HL : Aside0 (Calls Tryz.prog 118 #[.slice (some ad) len c] w fun e w' => ∃ v, e = .returned (.tuple #[.int .u64 0, .int .i64 0, .bool false, v]) ∧ IsBad w' v 1002 ∧ Below w.heap.size w w')) : HeadTo (some ad) len c false w 0 0 false 1002 := by
 unfold HeadTo
 have p0 : (0 : Int) < (len : Int) := by omega
 have p0n : 0 < len := by omega
 have q0 : ((len : Int) == 0) = false := nb_ (by omega)
 have q0n : (len == 0) = false := nb_ (by omega)
 have p1 : (1 : Int) < (len : Int) := by omega
 have p1n : 1 < len := by omega
 have q1 : ((len : Int) == 1) = false := nb_ (by omega)
 have q1n : (len == 1) = false := nb_ (by omega)
 go_enter Tryz.func100, Tryz.ntmps100
 go_wp2_with (first | (go_at_call 98; ((with_reducible refine (known_any _ _ hk _).mono ?_); rintro e w' ⟨rfl, rfl⟩)) | (go_at_call 99; ((with_reducible refine (control_any _ _ hc _).mono ?_); rintro e w' ⟨rfl, rfl⟩)) | fail)
 with_reducible refine HL.out.mono ?_
 rintro e w1 ⟨v, rfl, hv, hb⟩
 obtain ⟨gv, rfl, hgv⟩ := hv
 have HV := a_ hgv
 clear hgv
 go_wp2_with fail
 exact bodyPost_ret (v := .tuple #[.int .i64 0, .int .i64 0, .bool false, .iface 166 (.pointer (some ⟨gv, 0, none⟩))]) (by simp [results, Tryz.results100, go_sem]) rfl (HeadPost.bad (by decide) ⟨gv, rfl, HV.out⟩ hb)
theorem head_great_c_false (b0 b1 n op z nn us : Int) (ad : Addr) (len c : Nat) (w : World) (hl : 2 ≤ len) (x0 : w.cell? ad = some (.int .u8 b0)) (ho : Go.bits .and .u8 b0 15 = op) (hz : Go.bits .and .u8 b0 112 = z) (x1 : w.cell? ⟨ad.block, ad.off + 1, none⟩ = some (.int .u8 b1)) (hzz : (z != 0) = false) (hk : knownB op = true) (hc : decide (8 ≤ op) = true) (hf : decide (b0 < 128) = false) (hm : decide (128 ≤ b1) = false) (hn : Go.bits .andNot .u8 b1 128 = n) (hlong : decide (126 ≤ n) = false) (HL : Aside0 (Calls Tryz.prog 118 #[.slice (some ad) len c] w fun e w' => e = .returned (.tuple #[.int .u64 nn, .int .i64 us, .bool false, .nilIface]) ∧ w' = w)) (hg : decide (4096 < nn) = true) : HeadTo (some ad) len c false w 0 0 false 1009 := by
 unfold HeadTo
 have p0 : (0 : Int) < (len : Int) := by omega
 have p0n : 0 < len := by omega
 have q0 : ((len : Int) == 0) = false := nb_ (by omega)
 have q0n : (len == 0) = false := nb_ (by omega)
 have p1 : (1 : Int) < (len : Int) := by omega
 have p1n : 1 < len := by omega
 have q1 : ((len : Int) == 1) = false := nb_ (by omega)
 have q1n : (len == 1) = false := nb_ (by omega)
 go_enter Tryz.func100, Tryz.ntmps100
 go_wp2_with (first | (go_at_call 98; ((with_reducible refine (known_any _ _ hk _).mono ?_); rintro e w' ⟨rfl, rfl⟩)) | (go_at_call 99; ((with_reducible refine (control_any _ _ hc _).mono ?_); rintro e w' ⟨rfl, rfl⟩)) | fail)
 with_reducible refine HL.out.mono ?_
 rintro e w1 ⟨rfl, rfl⟩
 go_wp2_with fail
 refine (socket_any 1009 _).mono ?_
 rintro e w1 ⟨v, rfl, hv, hb⟩
 go_wp2_with fail
 exact bodyPost_ret (v := .tuple #[.int .i64 0, .int .i64 0, .bool false, v]) (by simp [results, Tryz.results100, go_sem]) rfl (HeadPost.bad (by decide) hv hb)
theorem head_ok_c_false (b0 b1 n op z nn us : Int) (ad : Addr) (len c : Nat) (w : World) (hl : 2 ≤ len) (x0 : w.cell? ad = some (.int .u8 b0)) (ho : Go.bits .and .u8 b0 15 = op) (hz : Go.bits .and .u8 b0 112 = z) (x1 : w.cell? ⟨ad.block, ad.off + 1, none⟩ = some (.int .u8 b1)) (hzz : (z != 0) = false) (hk : knownB op = true) (hc : decide (8 ≤ op) = true) (hf : decide (b0 < 128) = false) (hm : decide (128 ≤ b1) = false) (hn : Go.bits .andNot .u8 b1 128 = n) (hlong : decide (126 ≤ n) = false) (HL : Aside0 (Calls Tryz.prog 118 #[.slice (some ad) len c] w fun e w' => e = .returned (.tuple #[.int .u64 nn, .int .i64 us, .bool false, .nilIface]) ∧ w' = w)) (hg : decide (4096 < nn) = false) (hw : IntKind.i64.wrap nn = nn) : HeadTo (some ad) len c false w us nn false 0 := by
 unfold HeadTo
 have p0 : (0 : Int) < (len : Int) := by omega
 have p0n : 0 < len := by omega
 have q0 : ((len : Int) == 0) = false := nb_ (by omega)
 have q0n : (len == 0) = false := nb_ (by omega)
 have p1 : (1 : Int) < (len : Int) := by omega
 have p1n : 1 < len := by omega
 have q1 : ((len : Int) == 1) = false := nb_ (by omega)
 have q1n : (len == 1) = false := nb_ (by omega)
 go_enter Tryz.func100, Tryz.ntmps100
 go_wp2_with (first | (go_at_call 98; ((with_reducible refine (known_any _ _ hk _).mono ?_); rintro e w' ⟨rfl, rfl⟩)) | (go_at_call 99; ((with_reducible refine (control_any _ _ hc _).mono ?_); rintro e w' ⟨rfl, rfl⟩)) | fail)
 with_reducible refine HL.out.mono ?_
 rintro e w1 ⟨rfl, rfl⟩
 go_wp2_with fail
 exact bodyPost_ret (v := .tuple #[.int .i64 us, .int .i64 nn, .bool false, .nilIface]) (by simp [results, Tryz.results100, go_sem]) rfl (HeadPost.nil _ _ _ _)
theorem head_mask_c_true (b0 b1 op z : Int) (ad : Addr) (len c : Nat) (w : World) (hl : 2 ≤ len) (x0 : w.cell? ad = some (.int .u8 b0)) (ho : Go.bits .and .u8 b0 15 = op) (hz : Go.bits .and .u8 b0 112 = z) (x1 : w.cell? ⟨ad.block, ad.off + 1, none⟩ = some (.int .u8 b1)) (hzz : (z != 0) = false) (hk : knownB op = true) (hc : decide (8 ≤ op) = true) (hf : decide (b0 < 128) = false) (hm : decide (128 ≤ b1) = false) : HeadTo (some ad) len c true w 0 0 false 1002 := by
 unfold HeadTo
 have p0 : (0 : Int) < (len : Int) := by omega
 have p0n : 0 < len := by omega
 have q0 : ((len : Int) == 0) = false := nb_ (by omega)
 have q0n : (len == 0) = false := nb_ (by omega)
 have p1 : (1 : Int) < (len : Int) := by omega
 have p1n : 1 < len := by omega
 have q1 : ((len : Int) == 1) = false := nb_ (by omega)
 have q1n : (len == 1) = false := nb_ (by omega)
 go_enter Tryz.func100, Tryz.ntmps100
 go_wp2_with (first | (go_at_call 98; ((with_reducible refine (known_any _ _ hk _).mono ?_); rintro e w' ⟨rfl, rfl⟩)) | (go_at_call 99; ((with_reducible refine (control_any _ _ hc _).mono ?_); rintro e w' ⟨rfl, rfl⟩)) | fail)
 refine (protocol_any _).mono ?_
 rintro e w1 ⟨v, rfl, hv, hb⟩
 go_wp2_with fail
 exact bodyPost_ret (v := .tuple #[.int .i64 0, .int .i64 0, .bool false, v]) (by simp [results, Tryz.results100, go_sem]) rfl (HeadPost.bad (by decide) hv hb)
theorem head_long_c_true (b0 b1 n op z : Int) (ad : Addr) (len c : Nat) (w : World) (hl : 2 ≤ len) (x0 : w.cell? ad = some (.int .u8 b0)) (ho : Go.bits .and .u8 b0 15 = op) (hz : Go.bits .and .u8 b0 112 = z) (x1 : w.cell? ⟨ad.block, ad.off + 1, none⟩ = some (.int .u8 b1)) (hzz : (z != 0) = false) (hk : knownB op = true) (hc : decide (8 ≤ op) = true) (hf : decide (b0 < 128) = false) (hm : decide (128 ≤ b1) = true) (hn : Go.bits .andNot .u8 b1 128 = n) (hlong : decide (126 ≤ n) = true) : HeadTo (some ad) len c true w 0 0 false 1002 := by
 unfold HeadTo
 have p0 : (0 : Int) < (len : Int) := by omega
 have p0n : 0 < len := by omega
 have q0 : ((len : Int) == 0) = false := nb_ (by omega)
 have q0n : (len == 0) = false := nb_ (by omega)
 have p1 : (1 : Int) < (len : Int) := by omega
 have p1n : 1 < len := by omega
 have q1 : ((len : Int) == 1) = false := nb_ (by omega)
 have q1n : (len == 1) = false := nb_ (by omega)
 go_enter Tryz.func100, Tryz.ntmps100
 go_wp2_with (first | (go_at_call 98; ((with_reducible refine (known_any _ _ hk _).mono ?_); rintro e w' ⟨rfl, rfl⟩)) | (go_at_call 99; ((with_reducible refine (control_any _ _ hc _).mono ?_); rintro e w' ⟨rfl, rfl⟩)) | fail)
 refine (protocol_any _).mono ?_
 rintro e w1 ⟨v, rfl, hv, hb⟩
 go_wp2_with fail
 exact bodyPost_ret (v := .tuple #[.int .i64 0, .int .i64 0, .bool false, v]) (by simp [results, Tryz.results100, go_sem]) rfl (HeadPost.bad (by decide) hv hb)
theorem head_more_c_true (b0 b1 n op z : Int) (ad : Addr) (len c : Nat) (w : World) (hl : 2 ≤ len) (x0 : w.cell? ad = some (.int .u8 b0)) (ho : Go.bits .and .u8 b0 15 = op) (hz : Go.bits .and .u8 b0 112 = z) (x1 : w.cell? ⟨ad.block, ad.off + 1, none⟩ = some (.int .u8 b1)) (hzz : (z != 0) = false) (hk : knownB op = true) (hc : decide (8 ≤ op) = true) (hf : decide (b0 < 128) = false) (hm : decide (128 ≤ b1) = true) (hn : Go.bits .andNot .u8 b1 128 = n) (hlong : decide (126 ≤ n) = false) (HL : Aside0 (Calls Tryz.prog 118 #[.slice (some ad) len c] w fun e w' => e = .returned (.tuple #[.int .u64 0, .int .i64 0, .bool true, .nilIface]) ∧ w' = w)) : HeadTo (some ad) len c true w 0 0 true 0 := by
 unfold HeadTo
 have p0 : (0 : Int) < (len : Int) := by omega
 have p0n : 0 < len := by omega
 have q0 : ((len : Int) == 0) = false := nb_ (by omega)
 have q0n : (len == 0) = false := nb_ (by omega)
 have p1 : (1 : Int) < (len : Int) := by omega
 have p1n : 1 < len := by omega
 have q1 : ((len : Int) == 1) = false := nb_ (by omega)
 have q1n : (len == 1) = false := nb_ (by omega)
 go_enter Tryz.func100, Tryz.ntmps100
 go_wp2_with (first | (go_at_call 98; ((with_reducible refine (known_any _ _ hk _).mono ?_); rintro e w' ⟨rfl, rfl⟩)) | (go_at_call 99; ((with_reducible refine (control_any _ _ hc _).mono ?_); rintro e w' ⟨rfl, rfl⟩)) | fail)
 with_reducible refine HL.out.mono ?_
 rintro e w1 ⟨rfl, rfl⟩
 go_wp2_with fail
 exact bodyPost_ret (v := .tuple #[.int .i64 0, .int .i64 0, .bool true, .nilIface]) (by simp [results, Tryz.results100, go_sem]) rfl (HeadPost.nil _ _ _ _)
theorem head_bad_c_true (b0 b1 n op z : Int) (ad : Addr) (len c : Nat) (w : World) (hl : 2 ≤ len) (x0 : w.cell? ad = some (.int .u8 b0)) (ho : Go.bits .and .u8 b0 15 = op) (hz : Go.bits .and .u8 b0 112 = z) (x1 : w.cell? ⟨ad.block, ad.off + 1, none⟩ = some (.int .u8 b1)) (hzz : (z != 0) = false) (hk : knownB op = true) (hc : decide (8 ≤ op) = true) (hf : decide (b0 < 128) = false) (hm : decide (128 ≤ b1) = true) (hn : Go.bits .andNot .u8 b1 128 = n) (hlong : decide (126 ≤ n) = false) (HL : Aside0 (Calls Tryz.prog 118 #[.slice (some ad) len c] w fun e w' => ∃ v, e = .returned (.tuple #[.int .u64 0, .int .i64 0, .bool false, v]) ∧ IsBad w' v 1002 ∧ Below w.heap.size w w')) : HeadTo (some ad) len c true w 0 0 false 1002 := by
 unfold HeadTo
 have p0 : (0 : Int) < (len : Int) := by omega
 have p0n : 0 < len := by omega
 have q0 : ((len : Int) == 0) = false := nb_ (by omega)
 have q0n : (len == 0) = false := nb_ (by omega)
 have p1 : (1 : Int) < (len : Int) := by omega
 have p1n : 1 < len := by omega
 have q1 : ((len : Int) == 1) = false := nb_ (by omega)
 have q1n : (len == 1) = false := nb_ (by omega)
 go_enter Tryz.func100, Tryz.ntmps100
 go_wp2_with (first | (go_at_call 98; ((with_reducible refine (known_any _ _ hk _).mono ?_); rintro e w' ⟨rfl, rfl⟩)) | (go_at_call 99; ((with_reducible refine (control_any _ _ hc _).mono ?_); rintro e w' ⟨rfl, rfl⟩)) | fail)
 with_reducible refine HL.out.mono ?_
 rintro e w1 ⟨v, rfl, hv, hb⟩
 obtain ⟨gv, rfl, hgv⟩ := hv
 have HV := a_ hgv
 clear hgv
 go_wp2_with fail
 exact bodyPost_ret (v := .tuple #[.int .i64 0, .int .i64 0, .bool false, .iface 166 (.pointer (some ⟨gv, 0, none⟩))]) (by simp [results, Tryz.results100, go_sem]) rfl (HeadPost.bad (by decide) ⟨gv, rfl, HV.out⟩ hb)
theorem head_great_c_true (b0 b1 n op z nn us : Int) (ad : Addr) (len c : Nat) (w : World) (hl : 2 ≤ len) (x0 : w.cell? ad = some (.int .u8 b0)) (ho : Go.bits .and .u8 b0 15 = op) (hz : Go.bits .and .u8 b0 112 = z) (x1 : w.cell? ⟨ad.block, ad.off + 1, none⟩ = some (.int .u8 b1)) (hzz : (z != 0) = false) (hk : knownB op = true) (hc : decide (8 ≤ op) = true) (hf : decide (b0 < 128) = false) (hm : decide (128 ≤ b1) = true) (hn : Go.bits .andNot .u8 b1 128 = n) (hlong : decide (126 ≤ n) = false) (HL : Aside0 (Calls Tryz.prog 118 #[.slice (some ad) len c] w fun e w' => e = .returned (.tuple #[.int .u64 nn, .int .i64 us, .bool false, .nilIface]) ∧ w' = w)) (hg : decide (4096 < nn) = true) : HeadTo (some ad) len c true w 0 0 false 1009 := by
 unfold HeadTo
 have p0 : (0 : Int) < (len : Int) := by omega
 have p0n : 0 < len := by omega
 have q0 : ((len : Int) == 0) = false := nb_ (by omega)
 have q0n : (len == 0) = false := nb_ (by omega)
 have p1 : (1 : Int) < (len : Int) := by omega
 have p1n : 1 < len := by omega
 have q1 : ((len : Int) == 1) = false := nb_ (by omega)
 have q1n : (len == 1) = false := nb_ (by omega)
 go_enter Tryz.func100, Tryz.ntmps100
 go_wp2_with (first | (go_at_call 98; ((with_reducible refine (known_any _ _ hk _).mono ?_); rintro e w' ⟨rfl, rfl⟩)) | (go_at_call 99; ((with_reducible refine (control_any _ _ hc _).mono ?_); rintro e w' ⟨rfl, rfl⟩)) | fail)
 with_reducible refine HL.out.mono ?_
 rintro e w1 ⟨rfl, rfl⟩
 go_wp2_with fail
 refine (socket_any 1009 _).mono ?_
 rintro e w1 ⟨v, rfl, hv, hb⟩
 go_wp2_with fail
 exact bodyPost_ret (v := .tuple #[.int .i64 0, .int .i64 0, .bool false, v]) (by simp [results, Tryz.results100, go_sem]) rfl (HeadPost.bad (by decide) hv hb)
theorem head_ok_c_true (b0 b1 n op z nn us : Int) (ad : Addr) (len c : Nat) (w : World) (hl : 2 ≤ len) (x0 : w.cell? ad = some (.int .u8 b0)) (ho : Go.bits .and .u8 b0 15 = op) (hz : Go.bits .and .u8 b0 112 = z) (x1 : w.cell? ⟨ad.block, ad.off + 1, none⟩ = some (.int .u8 b1)) (hzz : (z != 0) = false) (hk : knownB op = true) (hc : decide (8 ≤ op) = true) (hf : decide (b0 < 128) = false) (hm : decide (128 ≤ b1) = true) (hn : Go.bits .andNot .u8 b1 128 = n) (hlong : decide (126 ≤ n) = false) (HL : Aside0 (Calls Tryz.prog 118 #[.slice (some ad) len c] w fun e w' => e = .returned (.tuple #[.int .u64 nn, .int .i64 us, .bool false, .nilIface]) ∧ w' = w)) (hg : decide (4096 < nn) = false) (hw : IntKind.i64.wrap nn = nn) (hu : IntKind.i64.wrap (us + 4) = us + 4) : HeadTo (some ad) len c true w (us + 4) nn false 0 := by
 unfold HeadTo
 have p0 : (0 : Int) < (len : Int) := by omega
 have p0n : 0 < len := by omega
 have q0 : ((len : Int) == 0) = false := nb_ (by omega)
 have q0n : (len == 0) = false := nb_ (by omega)
 have p1 : (1 : Int) < (len : Int) := by omega
 have p1n : 1 < len := by omega
 have q1 : ((len : Int) == 1) = false := nb_ (by omega)
 have q1n : (len == 1) = false := nb_ (by omega)
 go_enter Tryz.func100, Tryz.ntmps100
 go_wp2_with (first | (go_at_call 98; ((with_reducible refine (known_any _ _ hk _).mono ?_); rintro e w' ⟨rfl, rfl⟩)) | (go_at_call 99; ((with_reducible refine (control_any _ _ hc _).mono ?_); rintro e w' ⟨rfl, rfl⟩)) | fail)
 with_reducible refine HL.out.mono ?_
 rintro e w1 ⟨rfl, rfl⟩
 go_wp2_with fail
 exact bodyPost_ret (v := .tuple #[.int .i64 (us + 4), .int .i64 nn, .bool false, .nilIface]) (by simp [results, Tryz.results100, go_sem]) rfl (HeadPost.nil _ _ _ _)
end Go.Proofs.YtpmeapdcjmaeiaaGreatDoor
namespace Go.Proofs.YtpmeapdcjmaeiaaGreatDoor
open Go.RowKit Go.Wa Go.Wb Go.Wc
def isByte (x : Int) : Bool := decide (0 ≤ x) && decide (x ≤ 255)
theorem isByte_iff {x : Int} : isByte x = true ↔ 0 ≤ x ∧ x ≤ 255 := by simp [isByte]
theorem all_byte {l : List Int} (h : l.all isByte = true) {x : Int} (hx : x ∈ l) : 0 ≤ x ∧ x ≤ 255 := isByte_iff.1 (List.all_eq_true.1 h x hx)
theorem rd_byte {l : List Int} (h : l.all isByte = true) (i : Int) : 0 ≤ rd l i ∧ rd l i ≤ 255 := by
 unfold rd
 by_cases hi : i.toNat < l.length
 ·rw [List.getD_eq_getElem?_getD, List.getElem?_eq_getElem hi]
  exact all_byte h (List.getElem_mem hi)
 ·rw [List.getD_eq_getElem?_getD, List.getElem?_eq_none (by omega)]
  exact ⟨by decide, by decide⟩
theorem byte_cases (p : Int → Prop) (h : ∀ n : Fin 256, p (n.val : Int)) {x : Int} (hx : 0 ≤ x ∧ x ≤ 255) : p x := by
 have := h ⟨x.toNat, by omega⟩
 rwa [show ((⟨x.toNat, by omega⟩ : Fin 256).val : Int) = x by show (x.toNat : Int) = x; omega] at this
theorem and15 {x : Int} (hx : 0 ≤ x ∧ x ≤ 255) : Go.bits .and .u8 x 15 = x % 16 := byte_cases (fun x => Go.bits .and .u8 x 15 = x % 16) (by decide +kernel) hx
theorem and112 {x : Int} (hx : 0 ≤ x ∧ x ≤ 255) : Go.bits .and .u8 x 112 = (x / 16 % 8) * 16 := byte_cases (fun x => Go.bits .and .u8 x 112 = (x / 16 % 8) * 16) (by decide +kernel) hx
theorem andNot128 {x : Int} (hx : 0 ≤ x ∧ x ≤ 255) : Go.bits .andNot .u8 x 128 = x % 128 := byte_cases (fun x => Go.bits .andNot .u8 x 128 = x % 128) (by decide +kernel) hx
theorem wrap_u64 {x : Int} (h0 : 0 ≤ x) (h1 : x ≤ 18446744073709551615) : IntKind.u64.wrap x = x := by
 have : IntKind.u64.wrap x = x % 18446744073709551616 := by simp [IntKind.wrap, IntKind.bits, IntKind.signed]
 rw [this]; omega
theorem wrap_u32 {x : Int} (h0 : 0 ≤ x) (h1 : x ≤ 4294967295) : IntKind.u32.wrap x = x := by
 have : IntKind.u32.wrap x = x % 4294967296 := by simp [IntKind.wrap, IntKind.bits, IntKind.signed]
 rw [this]; omega
theorem nat_or (s b : Nat) (hb : b < 256) : s * 256 ||| b = s * 256 + b := by
 have := Nat.two_pow_add_eq_or_of_lt (show b < 2 ^ 8 from hb) s
 rw [show (2 : Nat) ^ 8 = 256 from rfl, Nat.mul_comm] at this
 exact this.symm
theorem or_byte64 {s b : Int} (h0 : 0 ≤ s) (h1 : s < 72057594037927936) (hb : 0 ≤ b ∧ b ≤ 255) : Go.bits .or .u64 (s * 256) b = s * 256 + b := by
 obtain ⟨n, rfl⟩ : ∃ n : Nat, s = (n : Int) := ⟨s.toNat, by omega⟩
 obtain ⟨m, rfl⟩ : ∃ m : Nat, b = (m : Int) := ⟨b.toNat, by omega⟩
 have e1 : (BitVec.ofInt 64 ((n : Int) * 256)).toNat = n * 256 := by
  rw [show ((n : Int) * 256) = ((n * 256 : Nat) : Int) by omega, BitVec.ofInt_natCast, BitVec.toNat_ofNat]; exact Nat.mod_eq_of_lt (by omega)
 have e2 : (BitVec.ofInt 64 (m : Int)).toNat = m := by
  rw [BitVec.ofInt_natCast, BitVec.toNat_ofNat]; exact Nat.mod_eq_of_lt (by omega)
 show IntKind.u64.wrap ((BitVec.ofInt 64 ((n : Int) * 256) ||| BitVec.ofInt 64 (m : Int)).toNat : Int) = _
 rw [BitVec.toNat_or, e1, e2, nat_or n m (by omega), wrap_u64 (by omega) (by omega)]
 omega
theorem or_zero64 {b : Int} (hb : 0 ≤ b ∧ b ≤ 255) : Go.bits .or .u64 0 b = b := by
 have := or_byte64 (s := 0) (b := b) (by omega) (by omega) hb
 simpa using this
def val (l : List Int) (i : Nat) : Nat → Int
 | 0 => 0
 | n + 1 => val l i n * 256 + rd l ((i + n : Nat) : Int)
theorem val_bounds {l : List Int} (h : l.all isByte = true) (i : Nat) : ∀ n, 0 ≤ val l i n ∧ val l i n < 256 ^ n
 | 0 => ⟨by simp [val], by simp [val]⟩
 | n + 1 => by
  have := val_bounds h i n
  have := rd_byte h ((i + n : Nat) : Int)
  have e : val l i (n + 1) = val l i n * 256 + rd l ((i + n : Nat) : Int) := rfl
  rw [e, Int.pow_succ]
  omega
def lenF (l : List Int) : Int × Int × Bool × Int :=
 if rd l 1 % 128 = 126 then (if l.length < 4 then (0, 0, true, 0) else if val l 2 2 < 126 then (0, 0, false, 1002) else (val l 2 2, 4, false, 0))
 else if rd l 1 % 128 = 127 then (if l.length < 10 then (0, 0, true, 0) else if val l 2 8 < 65536 ∨ 9223372036854775808 ≤ val l 2 8 then (0, 0, false, 1002) else (val l 2 8, 10, false, 0))
 else (rd l 1 % 128, 2, false, 0)
def headF (l : List Int) (m : Bool) : Int × Int × Bool × Int :=
 if l.length = 0 then (0, 0, true, 0)
 else if rd l 0 / 16 % 8 ≠ 0 ∨ knownB (rd l 0 % 16) = false ∨ (8 ≤ rd l 0 % 16 ∧ rd l 0 < 128) then (0, 0, false, 1002)
 else if l.length = 1 then (0, 0, true, 0)
 else if decide (128 ≤ rd l 1) ≠ m ∨ (8 ≤ rd l 0 % 16 ∧ 126 ≤ rd l 1 % 128) then (0, 0, false, 1002)
 else if (lenF l).2.2.1 = true then (0, 0, true, 0)
 else if (lenF l).2.2.2 ≠ 0 then (0, 0, false, 1002)
 else if 4096 < (lenF l).1 then (0, 0, false, 1009)
 else ((lenF l).2.1 + (if m = true then 4 else 0), (lenF l).1, false, 0)
def LenNil (ad : Addr) (len c : Nat) (w : World) (n used : Int) (more : Bool) : Prop := Aside0 (Calls Tryz.prog 118 #[.slice (some ad) len c] w fun e w' => e = .returned (.tuple #[.int .u64 n, .int .i64 used, .bool more, .nilIface]) ∧ w' = w)
def LenBad (ad : Addr) (len c : Nat) (w : World) : Prop := Aside0 (Calls Tryz.prog 118 #[.slice (some ad) len c] w fun e w' => ∃ v, e = .returned (.tuple #[.int .u64 0, .int .i64 0, .bool false, v]) ∧ IsBad w' v 1002 ∧ Below w.heap.size w w')
theorem beq_false {a b : Int} (h : a ≠ b) : (a == b) = false := nb_ h
theorem length_to {l : List Int} (hl : l.all isByte = true) {ad : Addr} {c : Nat} {w : World} (h2 : 2 ≤ l.length) (hc : l.length ≤ c) (hx : ∀ i : Nat, 0 < i → i < l.length → w.cell? ⟨ad.block, ad.off + i, none⟩ = some (.int .u8 (rd l (i : Int)))) :
  ((lenF l).2.2.2 = 0 ∧ ((lenF l).2.2.1 = true → (lenF l).1 = 0 ∧ (lenF l).2.1 = 0) ∧ LenNil ad l.length c w (lenF l).1 (lenF l).2.1 (lenF l).2.2.1) ∨ ((lenF l).2.2.2 ≠ 0 ∧ (lenF l).2.2.1 = false ∧ LenBad ad l.length c w) := by
 have x1 := hx 1 (by omega) (by omega)
 have b1 := rd_byte hl 1
 unfold lenF
 by_cases h6 : rd l 1 % 128 = 126
 ·rw [if_pos h6]
  by_cases h4 : l.length < 4
  ·rw [if_pos h4]
   exact .inl ⟨rfl, fun _ => ⟨rfl, rfl⟩, ⟨length_two_more _ _ _ _ _ x1 ((andNot128 b1).trans h6) h2 h4⟩⟩
  ·rw [if_neg h4]
   have v2 : val l 2 1 = rd l 2 := by simp [val]
   have v3 : val l 2 2 = val l 2 1 * 256 + rd l 3 := rfl
   have g2 := rd_byte hl 2
   have g3 := rd_byte hl 3
   have key := fun t => length_two_ok (rd l 1) (rd l 2) (rd l 3) (val l 2 1) (val l 2 2) ad l.length c w x1 ((andNot128 b1).trans h6) (hx 2 (by omega) (by omega)) (hx 3 (by omega) (by omega)) (wrap_u64 (by omega) (by omega)) (wrap_u64 (by omega) (by omega)) ((or_zero64 g2).trans v2.symm) ((or_byte64 (by omega) (by omega) g3).trans v3.symm) (wrap_u64 (by omega) (by omega)) t (by omega) hc
   have keb := fun t => length_two_bad (rd l 1) (rd l 2) (rd l 3) (val l 2 1) (val l 2 2) ad l.length c w x1 ((andNot128 b1).trans h6) (hx 2 (by omega) (by omega)) (hx 3 (by omega) (by omega)) (wrap_u64 (by omega) (by omega)) (wrap_u64 (by omega) (by omega)) ((or_zero64 g2).trans v2.symm) ((or_byte64 (by omega) (by omega) g3).trans v3.symm) (wrap_u64 (by omega) (by omega)) t (by omega) hc
   by_cases hv : val l 2 2 < 126
   ·rw [if_pos hv]
    exact .inr ⟨by decide, rfl, ⟨keb (decide_eq_true hv)⟩⟩
   ·rw [if_neg hv]
    exact .inl ⟨rfl, (fun h => by cases h), ⟨key (decide_eq_false hv)⟩⟩
 ·rw [if_neg h6]
  by_cases h7 : rd l 1 % 128 = 127
  ·rw [if_pos h7]
   by_cases h4 : l.length < 10
   ·rw [if_pos h4]
    exact .inl ⟨rfl, fun _ => ⟨rfl, rfl⟩, ⟨length_eight_more _ _ _ _ _ x1 ((andNot128 b1).trans h7) h2 h4⟩⟩
   ·rw [if_neg h4]
    have v2 : val l 2 1 = rd l 2 := by simp [val]
    have v3 : val l 2 2 = val l 2 1 * 256 + rd l 3 := rfl
    have v4 : val l 2 3 = val l 2 2 * 256 + rd l 4 := rfl
    have v5 : val l 2 4 = val l 2 3 * 256 + rd l 5 := rfl
    have v6 : val l 2 5 = val l 2 4 * 256 + rd l 6 := rfl
    have v7 : val l 2 6 = val l 2 5 * 256 + rd l 7 := rfl
    have v8 : val l 2 7 = val l 2 6 * 256 + rd l 8 := rfl
    have v9 : val l 2 8 = val l 2 7 * 256 + rd l 9 := rfl
    have g2 := rd_byte hl 2
    have g3 := rd_byte hl 3
    have g4 := rd_byte hl 4
    have g5 := rd_byte hl 5
    have g6 := rd_byte hl 6
    have g7 := rd_byte hl 7
    have g8 := rd_byte hl 8
    have g9 := rd_byte hl 9
    have ke0 := fun t1 t2 t3 => length_eight_ok (rd l 1) (rd l 2) (rd l 3) (rd l 4) (rd l 5) (rd l 6) (rd l 7) (rd l 8) (rd l 9) (val l 2 1) (val l 2 2) (val l 2 3) (val l 2 4) (val l 2 5) (val l 2 6) (val l 2 7) (val l 2 8) ad l.length c w x1 ((andNot128 b1).trans h7) (hx 2 (by omega) (by omega)) (hx 3 (by omega) (by omega)) (hx 4 (by omega) (by omega)) (hx 5 (by omega) (by omega)) (hx 6 (by omega) (by omega)) (hx 7 (by omega) (by omega)) (hx 8 (by omega) (by omega)) (hx 9 (by omega) (by omega)) (wrap_u64 (by omega) (by omega)) (wrap_u64 (by omega) (by omega)) (wrap_u64 (by omega) (by omega)) (wrap_u64 (by omega) (by omega)) (wrap_u64 (by omega) (by omega)) (wrap_u64 (by omega) (by omega)) (wrap_u64 (by omega) (by omega)) (wrap_u64 (by omega) (by omega)) ((or_zero64 g2).trans v2.symm) ((or_byte64 (by omega) (by omega) g3).trans v3.symm) ((or_byte64 (by omega) (by omega) g4).trans v4.symm) ((or_byte64 (by omega) (by omega) g5).trans v5.symm) ((or_byte64 (by omega) (by omega) g6).trans v6.symm) ((or_byte64 (by omega) (by omega) g7).trans v7.symm) ((or_byte64 (by omega) (by omega) g8).trans v8.symm) ((or_byte64 (by omega) (by omega) g9).trans v9.symm) (wrap_u64 (by omega) (by omega)) (wrap_u64 (by omega) (by omega)) (wrap_u64 (by omega) (by omega)) (wrap_u64 (by omega) (by omega)) (wrap_u64 (by omega) (by omega)) (wrap_u64 (by omega) (by omega)) (wrap_u64 (by omega) (by omega)) t1 t2 t3 (by omega) hc
    have ke1 := fun t1 => length_eight_bad1 (rd l 1) (rd l 2) (rd l 3) (rd l 4) (rd l 5) (rd l 6) (rd l 7) (rd l 8) (rd l 9) (val l 2 1) (val l 2 2) (val l 2 3) (val l 2 4) (val l 2 5) (val l 2 6) (val l 2 7) (val l 2 8) ad l.length c w x1 ((andNot128 b1).trans h7) (hx 2 (by omega) (by omega)) (hx 3 (by omega) (by omega)) (hx 4 (by omega) (by omega)) (hx 5 (by omega) (by omega)) (hx 6 (by omega) (by omega)) (hx 7 (by omega) (by omega)) (hx 8 (by omega) (by omega)) (hx 9 (by omega) (by omega)) (wrap_u64 (by omega) (by omega)) (wrap_u64 (by omega) (by omega)) (wrap_u64 (by omega) (by omega)) (wrap_u64 (by omega) (by omega)) (wrap_u64 (by omega) (by omega)) (wrap_u64 (by omega) (by omega)) (wrap_u64 (by omega) (by omega)) (wrap_u64 (by omega) (by omega)) ((or_zero64 g2).trans v2.symm) ((or_byte64 (by omega) (by omega) g3).trans v3.symm) ((or_byte64 (by omega) (by omega) g4).trans v4.symm) ((or_byte64 (by omega) (by omega) g5).trans v5.symm) ((or_byte64 (by omega) (by omega) g6).trans v6.symm) ((or_byte64 (by omega) (by omega) g7).trans v7.symm) ((or_byte64 (by omega) (by omega) g8).trans v8.symm) ((or_byte64 (by omega) (by omega) g9).trans v9.symm) (wrap_u64 (by omega) (by omega)) (wrap_u64 (by omega) (by omega)) (wrap_u64 (by omega) (by omega)) (wrap_u64 (by omega) (by omega)) (wrap_u64 (by omega) (by omega)) (wrap_u64 (by omega) (by omega)) (wrap_u64 (by omega) (by omega)) t1 (by omega) hc
    have ke2 := fun t1 t2 => length_eight_bad2 (rd l 1) (rd l 2) (rd l 3) (rd l 4) (rd l 5) (rd l 6) (rd l 7) (rd l 8) (rd l 9) (val l 2 1) (val l 2 2) (val l 2 3) (val l 2 4) (val l 2 5) (val l 2 6) (val l 2 7) (val l 2 8) ad l.length c w x1 ((andNot128 b1).trans h7) (hx 2 (by omega) (by omega)) (hx 3 (by omega) (by omega)) (hx 4 (by omega) (by omega)) (hx 5 (by omega) (by omega)) (hx 6 (by omega) (by omega)) (hx 7 (by omega) (by omega)) (hx 8 (by omega) (by omega)) (hx 9 (by omega) (by omega)) (wrap_u64 (by omega) (by omega)) (wrap_u64 (by omega) (by omega)) (wrap_u64 (by omega) (by omega)) (wrap_u64 (by omega) (by omega)) (wrap_u64 (by omega) (by omega)) (wrap_u64 (by omega) (by omega)) (wrap_u64 (by omega) (by omega)) (wrap_u64 (by omega) (by omega)) ((or_zero64 g2).trans v2.symm) ((or_byte64 (by omega) (by omega) g3).trans v3.symm) ((or_byte64 (by omega) (by omega) g4).trans v4.symm) ((or_byte64 (by omega) (by omega) g5).trans v5.symm) ((or_byte64 (by omega) (by omega) g6).trans v6.symm) ((or_byte64 (by omega) (by omega) g7).trans v7.symm) ((or_byte64 (by omega) (by omega) g8).trans v8.symm) ((or_byte64 (by omega) (by omega) g9).trans v9.symm) (wrap_u64 (by omega) (by omega)) (wrap_u64 (by omega) (by omega)) (wrap_u64 (by omega) (by omega)) (wrap_u64 (by omega) (by omega)) (wrap_u64 (by omega) (by omega)) (wrap_u64 (by omega) (by omega)) (wrap_u64 (by omega) (by omega)) t1 t2 (by omega) hc
    have ke3 := fun t1 t2 t3 => length_eight_bad3 (rd l 1) (rd l 2) (rd l 3) (rd l 4) (rd l 5) (rd l 6) (rd l 7) (rd l 8) (rd l 9) (val l 2 1) (val l 2 2) (val l 2 3) (val l 2 4) (val l 2 5) (val l 2 6) (val l 2 7) (val l 2 8) ad l.length c w x1 ((andNot128 b1).trans h7) (hx 2 (by omega) (by omega)) (hx 3 (by omega) (by omega)) (hx 4 (by omega) (by omega)) (hx 5 (by omega) (by omega)) (hx 6 (by omega) (by omega)) (hx 7 (by omega) (by omega)) (hx 8 (by omega) (by omega)) (hx 9 (by omega) (by omega)) (wrap_u64 (by omega) (by omega)) (wrap_u64 (by omega) (by omega)) (wrap_u64 (by omega) (by omega)) (wrap_u64 (by omega) (by omega)) (wrap_u64 (by omega) (by omega)) (wrap_u64 (by omega) (by omega)) (wrap_u64 (by omega) (by omega)) (wrap_u64 (by omega) (by omega)) ((or_zero64 g2).trans v2.symm) ((or_byte64 (by omega) (by omega) g3).trans v3.symm) ((or_byte64 (by omega) (by omega) g4).trans v4.symm) ((or_byte64 (by omega) (by omega) g5).trans v5.symm) ((or_byte64 (by omega) (by omega) g6).trans v6.symm) ((or_byte64 (by omega) (by omega) g7).trans v7.symm) ((or_byte64 (by omega) (by omega) g8).trans v8.symm) ((or_byte64 (by omega) (by omega) g9).trans v9.symm) (wrap_u64 (by omega) (by omega)) (wrap_u64 (by omega) (by omega)) (wrap_u64 (by omega) (by omega)) (wrap_u64 (by omega) (by omega)) (wrap_u64 (by omega) (by omega)) (wrap_u64 (by omega) (by omega)) (wrap_u64 (by omega) (by omega)) t1 t2 t3 (by omega) hc
    by_cases hv : val l 2 8 < 65536 ∨ 9223372036854775808 ≤ val l 2 8
    ·rw [if_pos hv]
     refine .inr ⟨by decide, rfl, ⟨?_⟩⟩
     by_cases hs : val l 2 8 < 126
     ·exact ke1 (decide_eq_true hs)
     ·by_cases ht : val l 2 8 < 65536
      ·exact ke2 (decide_eq_false hs) (decide_eq_true ht)
      ·exact ke3 (decide_eq_false hs) (decide_eq_false ht) (decide_eq_true (by omega))
    ·rw [if_neg hv]
     exact .inl ⟨rfl, (fun h => by cases h), ⟨ke0 (decide_eq_false (by omega)) (decide_eq_false (by omega)) (decide_eq_false (by omega))⟩⟩
  ·rw [if_neg h7]
   exact .inl ⟨rfl, (fun h => by cases h), ⟨length_small _ _ _ _ _ _ x1 (andNot128 b1) h2 (beq_false h6) (beq_false h7) (wrap_u64 (by omega) (by omega))⟩⟩
theorem lenF_bounds {l : List Int} (hl : l.all isByte = true) : 0 ≤ (lenF l).1 ∧ (lenF l).1 ≤ 18446744073709551615 ∧ 0 ≤ (lenF l).2.1 ∧ (lenF l).2.1 ≤ 10 := by
 have b1 := rd_byte hl 1
 have v2 := val_bounds hl 2 2
 have v8 := val_bounds hl 2 8
 have e2 : (256 : Int) ^ 2 = 65536 := by decide
 have e8 : (256 : Int) ^ 8 = 18446744073709551616 := by decide
 rw [e2] at v2
 rw [e8] at v8
 unfold lenF
 split
 ·split
  ·refine ⟨?_, ?_, ?_, ?_⟩ <;> decide
  ·split
   ·refine ⟨?_, ?_, ?_, ?_⟩ <;> decide
   ·refine ⟨?_, ?_, ?_, ?_⟩ <;> dsimp only <;> omega
 ·split
  ·split
   ·refine ⟨?_, ?_, ?_, ?_⟩ <;> decide
   ·split
    ·refine ⟨?_, ?_, ?_, ?_⟩ <;> decide
    ·refine ⟨?_, ?_, ?_, ?_⟩ <;> dsimp only <;> omega
  ·refine ⟨?_, ?_, ?_, ?_⟩ <;> dsimp only <;> omega
theorem head_to {l : List Int} (hl : l.all isByte = true) (m : Bool) {A : Option Addr} {c : Nat} {w : World} (hC : Kd.C (Kd.int .u8) w A l.length l) (hc : l.length ≤ c) : HeadTo A l.length c m w (headF l m).1 (headF l m).2.1 (headF l m).2.2.1 (headF l m).2.2.2 := by
 unfold headF
 by_cases h0 : l.length = 0
 ·rw [if_pos h0, h0]
  exact head_none c m w A
 ·rw [if_neg h0]
  obtain ⟨ad, rfl, x0'⟩ := Kd.at_int hC 0 (by decide) (by omega)
  have hx : ∀ i : Nat, i < l.length → w.cell? (ad.add i) = some (.int .u8 (rd l (i : Int))) := fun i hi => by
   obtain ⟨ad2, e2, hh⟩ := Kd.at_int hC (i : Int) (by omega) (by omega)
   injection e2 with e2
   subst e2
   simpa using hh
  have x0 : w.cell? ad = some (.int .u8 (rd l 0)) := x0'
  have hy : ∀ i : Nat, 0 < i → i < l.length → w.cell? ⟨ad.block, ad.off + i, none⟩ = some (.int .u8 (rd l (i : Int))) := fun i h hi => by
   have := hx i hi
   obtain ⟨j, rfl⟩ : ∃ j, i = j + 1 := ⟨i - 1, by omega⟩
   exact this
  have b0 := rd_byte hl 0
  have b1 := rd_byte hl 1
  have ho := and15 b0
  have hz := and112 b0
  have hz0 : rd l 0 / 16 % 8 ≠ 0 → ((rd l 0 / 16 % 8 * 16) != 0) = true := fun h => bne_iff_ne.mpr (by omega)
  have hz1 : ¬ rd l 0 / 16 % 8 ≠ 0 → ((rd l 0 / 16 % 8 * 16) != 0) = false := fun h => bne_eq_false_iff_eq.mpr (by omega)
  by_cases hF : rd l 0 / 16 % 8 ≠ 0 ∨ knownB (rd l 0 % 16) = false ∨ (8 ≤ rd l 0 % 16 ∧ rd l 0 < 128)
  ·rw [if_pos hF]
   by_cases ha : rd l 0 / 16 % 8 ≠ 0
   ·exact head_first_bits _ _ _ m ad l.length c w (by omega) x0 ho hz (hz0 ha)
   ·by_cases hk : knownB (rd l 0 % 16) = false
    ·exact head_first_unknown _ _ _ m ad l.length c w (by omega) x0 ho hz (hz1 ha) hk
    ·have hcf : 8 ≤ rd l 0 % 16 ∧ rd l 0 < 128 := (hF.resolve_left ha).resolve_left hk
     exact head_first_unfin _ _ _ m ad l.length c w (by omega) x0 ho hz (hz1 ha) (by simpa using hk) (decide_eq_true hcf.1) (decide_eq_true hcf.2)
  ·rw [if_neg hF]
   have ha : ¬ rd l 0 / 16 % 8 ≠ 0 := fun h => hF (.inl h)
   have hk : knownB (rd l 0 % 16) = true := by
    cases h : knownB (rd l 0 % 16)
    ·exact absurd (.inr (.inl h)) hF
    ·rfl
   have hcf : ¬ (8 ≤ rd l 0 % 16 ∧ rd l 0 < 128) := fun h => hF (.inr (.inr h))
   by_cases h1 : l.length = 1
   ·rw [if_pos h1, h1]
    by_cases h8 : 8 ≤ rd l 0 % 16
    ·exact head_one_c _ _ _ m ad c w x0 ho hz (hz1 ha) hk (decide_eq_true h8) (decide_eq_false (fun h => hcf ⟨h8, h⟩))
    ·exact head_one_d _ _ _ m ad c w x0 ho hz (hz1 ha) hk (decide_eq_false h8)
   ·rw [if_neg h1]
    have h2 : 2 ≤ l.length := by omega
    have x1 := hy 1 (by omega) (by omega)
    have hn := andNot128 b1
    have LT := length_to hl h2 hc hy
    have lb := lenF_bounds hl
    by_cases hS : decide (128 ≤ rd l 1) ≠ m ∨ (8 ≤ rd l 0 % 16 ∧ 126 ≤ rd l 1 % 128)
    ·rw [if_pos hS]
     by_cases hm : decide (128 ≤ rd l 1) ≠ m
     ·by_cases h8 : 8 ≤ rd l 0 % 16
      ·cases m with
       | false => exact head_mask_c_false _ _ _ _ ad l.length c w h2 x0 ho hz x1 (hz1 ha) hk (decide_eq_true h8) (decide_eq_false (fun h => hcf ⟨h8, h⟩)) (by simpa using hm)
       | true => exact head_mask_c_true _ _ _ _ ad l.length c w h2 x0 ho hz x1 (hz1 ha) hk (decide_eq_true h8) (decide_eq_false (fun h => hcf ⟨h8, h⟩)) (by simpa using hm)
      ·cases m with
       | false => exact head_mask_d_false _ _ _ _ ad l.length c w h2 x0 ho hz x1 (hz1 ha) hk (decide_eq_false h8) (by simpa using hm)
       | true => exact head_mask_d_true _ _ _ _ ad l.length c w h2 x0 ho hz x1 (hz1 ha) hk (decide_eq_false h8) (by simpa using hm)
     ·have hm' : decide (128 ≤ rd l 1) = m := by simpa using hm
      have h8 := hS.resolve_left hm
      cases m with
      | false => exact head_long_c_false _ _ _ _ _ ad l.length c w h2 x0 ho hz x1 (hz1 ha) hk (decide_eq_true h8.1) (decide_eq_false (fun h => hcf ⟨h8.1, h⟩)) hm' hn (decide_eq_true h8.2)
      | true => exact head_long_c_true _ _ _ _ _ ad l.length c w h2 x0 ho hz x1 (hz1 ha) hk (decide_eq_true h8.1) (decide_eq_false (fun h => hcf ⟨h8.1, h⟩)) hm' hn (decide_eq_true h8.2)
    ·rw [if_neg hS]
     have hm : decide (128 ≤ rd l 1) = m := by
      by_cases h : decide (128 ≤ rd l 1) = m
      ·exact h
      ·exact absurd (.inl h) hS
     have hlong : ¬ (8 ≤ rd l 0 % 16 ∧ 126 ≤ rd l 1 % 128) := fun h => hS (.inr h)
     clear hS hF
     rcases LT with ⟨e1, e2, HL⟩ | ⟨e1, e2, HL⟩
     ·by_cases hmore : (lenF l).2.2.1 = true
      ·obtain ⟨z1, z2⟩ := e2 hmore
       rw [if_pos hmore]
       rw [z1, z2, hmore] at HL
       by_cases h8 : 8 ≤ rd l 0 % 16
       ·cases m with
        | false => exact head_more_c_false _ _ _ _ _ ad l.length c w h2 x0 ho hz x1 (hz1 ha) hk (decide_eq_true h8) (decide_eq_false (fun h => hcf ⟨h8, h⟩)) hm hn (decide_eq_false (fun h => hlong ⟨h8, h⟩)) HL
        | true => exact head_more_c_true _ _ _ _ _ ad l.length c w h2 x0 ho hz x1 (hz1 ha) hk (decide_eq_true h8) (decide_eq_false (fun h => hcf ⟨h8, h⟩)) hm hn (decide_eq_false (fun h => hlong ⟨h8, h⟩)) HL
       ·cases m with
        | false => exact head_more_d_false _ _ _ _ ad l.length c w h2 x0 ho hz x1 (hz1 ha) hk (decide_eq_false h8) hm HL
        | true => exact head_more_d_true _ _ _ _ ad l.length c w h2 x0 ho hz x1 (hz1 ha) hk (decide_eq_false h8) hm HL
      ·rw [if_neg hmore, if_neg (by rw [e1]; decide)]
       have hmf : (lenF l).2.2.1 = false := by simpa using hmore
       rw [hmf] at HL
       by_cases hg : 4096 < (lenF l).1
       ·rw [if_pos hg]
        by_cases h8 : 8 ≤ rd l 0 % 16
        ·cases m with
         | false => exact head_great_c_false _ _ _ _ _ _ _ ad l.length c w h2 x0 ho hz x1 (hz1 ha) hk (decide_eq_true h8) (decide_eq_false (fun h => hcf ⟨h8, h⟩)) hm hn (decide_eq_false (fun h => hlong ⟨h8, h⟩)) HL (decide_eq_true hg)
         | true => exact head_great_c_true _ _ _ _ _ _ _ ad l.length c w h2 x0 ho hz x1 (hz1 ha) hk (decide_eq_true h8) (decide_eq_false (fun h => hcf ⟨h8, h⟩)) hm hn (decide_eq_false (fun h => hlong ⟨h8, h⟩)) HL (decide_eq_true hg)
        ·cases m with
         | false => exact head_great_d_false _ _ _ _ _ _ ad l.length c w h2 x0 ho hz x1 (hz1 ha) hk (decide_eq_false h8) hm HL (decide_eq_true hg)
         | true => exact head_great_d_true _ _ _ _ _ _ ad l.length c w h2 x0 ho hz x1 (hz1 ha) hk (decide_eq_false h8) hm HL (decide_eq_true hg)
       ·rw [if_neg hg]
        have wn : IntKind.i64.wrap (lenF l).1 = (lenF l).1 := by rw [i64_w]; unfold wrap64; omega
        have wu : IntKind.i64.wrap ((lenF l).2.1 + 4) = (lenF l).2.1 + 4 := by rw [i64_w]; unfold wrap64; omega
        by_cases h8 : 8 ≤ rd l 0 % 16
        ·cases m with
         | false =>
          rw [if_neg (by decide), show (lenF l).2.1 + 0 = (lenF l).2.1 by omega]
          exact head_ok_c_false _ _ _ _ _ _ _ ad l.length c w h2 x0 ho hz x1 (hz1 ha) hk (decide_eq_true h8) (decide_eq_false (fun h => hcf ⟨h8, h⟩)) hm hn (decide_eq_false (fun h => hlong ⟨h8, h⟩)) HL (decide_eq_false hg) wn
         | true =>
          rw [if_pos rfl]
          exact head_ok_c_true _ _ _ _ _ _ _ ad l.length c w h2 x0 ho hz x1 (hz1 ha) hk (decide_eq_true h8) (decide_eq_false (fun h => hcf ⟨h8, h⟩)) hm hn (decide_eq_false (fun h => hlong ⟨h8, h⟩)) HL (decide_eq_false hg) wn wu
        ·cases m with
         | false =>
          rw [if_neg (by decide), show (lenF l).2.1 + 0 = (lenF l).2.1 by omega]
          exact head_ok_d_false _ _ _ _ _ _ ad l.length c w h2 x0 ho hz x1 (hz1 ha) hk (decide_eq_false h8) hm HL (decide_eq_false hg) wn
         | true =>
          rw [if_pos rfl]
          exact head_ok_d_true _ _ _ _ _ _ ad l.length c w h2 x0 ho hz x1 (hz1 ha) hk (decide_eq_false h8) hm HL (decide_eq_false hg) wn wu
     ·rw [if_neg (by rw [e2]; decide), if_pos e1]
      by_cases h8 : 8 ≤ rd l 0 % 16
      ·cases m with
       | false => exact head_bad_c_false _ _ _ _ _ ad l.length c w h2 x0 ho hz x1 (hz1 ha) hk (decide_eq_true h8) (decide_eq_false (fun h => hcf ⟨h8, h⟩)) hm hn (decide_eq_false (fun h => hlong ⟨h8, h⟩)) HL
       | true => exact head_bad_c_true _ _ _ _ _ ad l.length c w h2 x0 ho hz x1 (hz1 ha) hk (decide_eq_true h8) (decide_eq_false (fun h => hcf ⟨h8, h⟩)) hm hn (decide_eq_false (fun h => hlong ⟨h8, h⟩)) HL
      ·cases m with
       | false => exact head_bad_d_false _ _ _ _ ad l.length c w h2 x0 ho hz x1 (hz1 ha) hk (decide_eq_false h8) hm HL
       | true => exact head_bad_d_true _ _ _ _ ad l.length c w h2 x0 ho hz x1 (hz1 ha) hk (decide_eq_false h8) hm HL
end Go.Proofs.YtpmeapdcjmaeiaaGreatDoor
namespace Go.Proofs.YtpmeapdcjmaeiaaGreatDoor
open Go.RowKit Go.Wa Go.Wb Go.Wc
theorem Cond.alloc {w : World} (h : Cond w) (o : Obj) : Cond (w.alloc o) := h.below (below_alloc (Below.refl _ _) _)
theorem Cond.drew {w : World} (h : Cond w) : Cond w.drew := h.below (below_drew (Below.refl _ _))
theorem Cond.drewN {w : World} (h : Cond w) (n : Nat) : Cond (w.drewN n) := h.below (pw_below_drewN (Below.refl _ _) n)
def HeadAt (A : Option Addr) (len c : Nat) (m : Bool) (w : World) (f d : Int) (more : Bool) (code : Int) : Prop := ∀ W, Below w.heap.size w W → HeadTo A len c m W f d more code
def HeadF (l : List Int) (m : Bool) : Int × Int × Int × Bool :=
 if (headF l m).2.2.2 ≠ 0 then (0, 3, (headF l m).2.2.2, true) else if (headF l m).2.2.1 = true then (0, 0, 0, false) else ((headF l m).1 + (headF l m).2.1, 0, 0, true)
theorem IsBad.out {W : World} {v : Value} {code : Int} (h : IsBad W v code) : ∃ g : Nat, v = .iface 166 (.pointer (some ⟨g, 0, none⟩)) := by
 obtain ⟨g, e, _⟩ := h
 exact ⟨g, e⟩
theorem bad_of_post {P : Prop} {code : Int} {v : Value} {W : World} (h : (code = 0 ∧ P) ∨ (code ≠ 0 ∧ IsBad W v code)) (hc : code ≠ 0) : IsBad W v code := by
 rcases h with h | h
 ·exact absurd h.1 hc
 ·exact h.2
theorem nil_of_post {code : Int} {v : Value} {W : World} (h : (code = 0 ∧ v = .nilIface) ∨ (code ≠ 0 ∧ IsBad W v code)) (hc : code = 0) : v = .nilIface := by
 rcases h with h | h
 ·exact h.2
 ·exact absurd hc h.1
theorem Head_bad (A : Option Addr) (len c : Nat) (m : Bool) (w : World) (hg : Cond w) (f d code : Int) (more : Bool) (hc : code ≠ 0) (hh : HeadAt A len c m w f d more code) : Calls Tryz.prog 72 #[.slice A len c, .bool m] w fun e w' => e = .returned (.tuple #[.int .i64 0, .agg #[.int .u8 3, .int .u32 code], .bool true]) ∧ Below w.heap.size w w' := by
 have HC := a_ hg
 have HZ := a_ hc
 clear hg hc
 have hu26 := Tryz.underlying87
 have HH := a_ hh
 clear hh
 go_enter Tryz.func72, Tryz.ntmps72
 go_wp2_with fail
 refine (HH.out _ (below_alloc (Below.refl _ _) _)).mono ?_
 rintro e w1 ⟨v, rfl, hv, hb⟩
 have hr1 : w1.heap[w.heap.size]? = some (.cells #[.int .u8 0, .int .u32 0] 87 (0, 0)) := blk_below (last_at _ _ _ rfl) hb
 have HB1 := a_ (below_step (below_alloc (Below.refl w.heap.size w) (.cells #[.int .u8 0, .int .u32 0] 87)) hb)
 clear hb
 have hv2 := bad_of_post hv HZ.out
 obtain ⟨gv, rfl⟩ := hv2.out
 have HV := a_ hv2
 have HR1 := a_ hr1
 clear hv hv2 hr1
 go_wp2_with fail
 refine (wrap_any _ _ code _ HV.out).mono ?_
 rintro e w2 ⟨v2, rfl, hw, hb⟩
 have HW := a_ hw
 have hr2 : w2.heap[w.heap.size]? = some (.cells #[.int .u8 0, .int .u32 0] 87 (0, 0)) := blk_below HR1.out hb
 have HR2 := a_ hr2
 have HB2 := a_ (below_step HB1.out hb)
 clear hw hb hr2 HR1 HV HB1
 go_wp2_with fail
 refine (of_wr _ code _ HW.out (HC.out.below HB2.out)).mono ?_
 rintro e w3 ⟨rfl, hb⟩
 have hr3 : w3.heap[w.heap.size]? = some (.cells #[.int .u8 0, .int .u32 0] 87 (0, 0)) := blk_below HR2.out hb
 have HB3 := a_ (below_step HB2.out hb)
 clear hb HW HR2 HB2
 obtain ⟨r0, f0, r1, f1⟩ := xf2_ hr3
 have rl := blk_lt hr3
 have hle : w.heap.size ≤ w.heap.size := Nat.le_refl _
 go_wp2_with fail
 exact bodyPost_ret (v := .tuple #[.int .i64 0, .agg #[.int .u8 3, .int .u32 code], .bool true]) (by simp [results, Tryz.results72, go_sem, r0, r1]) rfl ⟨rfl, Below.setCell (Below.setCell HB3.out hle _) hle _⟩
theorem Head_more (A : Option Addr) (len c : Nat) (m : Bool) (w : World) (f d : Int) (hh : HeadAt A len c m w f d true 0) : Calls Tryz.prog 72 #[.slice A len c, .bool m] w fun e w' => e = .returned (.tuple #[.int .i64 0, .agg #[.int .u8 0, .int .u32 0], .bool false]) ∧ Below w.heap.size w w' := by
 have hu26 := Tryz.underlying87
 have HH := a_ hh
 clear hh
 go_enter Tryz.func72, Tryz.ntmps72
 go_wp2_with fail
 refine (HH.out _ (below_alloc (Below.refl _ _) _)).mono ?_
 rintro e w1 ⟨v, rfl, hv, hb⟩
 have hr1 : w1.heap[w.heap.size]? = some (.cells #[.int .u8 0, .int .u32 0] 87 (0, 0)) := blk_below (last_at _ _ _ rfl) hb
 have HB1 := a_ (below_step (below_alloc (Below.refl w.heap.size w) (.cells #[.int .u8 0, .int .u32 0] 87)) hb)
 clear hb
 obtain rfl := nil_of_post hv rfl
 clear hv
 obtain ⟨r0, f0, r1, f1⟩ := xf2_ hr1
 have rl := blk_lt hr1
 have hle : w.heap.size ≤ w.heap.size := Nat.le_refl _
 go_wp2_with fail
 exact bodyPost_ret (v := .tuple #[.int .i64 0, .agg #[.int .u8 0, .int .u32 0], .bool false]) (by simp [results, Tryz.results72, go_sem, r0, r1]) rfl ⟨rfl, Below.setCell (Below.setCell HB1.out hle _) hle _⟩
theorem Head_ok (A : Option Addr) (len c : Nat) (m : Bool) (w : World) (f d s : Int) (hs : IntKind.i64.wrap (f + d) = s) (hh : HeadAt A len c m w f d false 0) : Calls Tryz.prog 72 #[.slice A len c, .bool m] w fun e w' => e = .returned (.tuple #[.int .i64 s, .agg #[.int .u8 0, .int .u32 0], .bool true]) ∧ Below w.heap.size w w' := by
 have hu26 := Tryz.underlying87
 have HH := a_ hh
 clear hh
 go_enter Tryz.func72, Tryz.ntmps72
 go_wp2_with fail
 refine (HH.out _ (below_alloc (Below.refl _ _) _)).mono ?_
 rintro e w1 ⟨v, rfl, hv, hb⟩
 have hr1 : w1.heap[w.heap.size]? = some (.cells #[.int .u8 0, .int .u32 0] 87 (0, 0)) := blk_below (last_at _ _ _ rfl) hb
 have HB1 := a_ (below_step (below_alloc (Below.refl w.heap.size w) (.cells #[.int .u8 0, .int .u32 0] 87)) hb)
 clear hb
 obtain rfl := nil_of_post hv rfl
 clear hv
 obtain ⟨r0, f0, r1, f1⟩ := xf2_ hr1
 have rl := blk_lt hr1
 have hle : w.heap.size ≤ w.heap.size := Nat.le_refl _
 go_wp2_with fail
 exact bodyPost_ret (v := .tuple #[.int .i64 s, .agg #[.int .u8 0, .int .u32 0], .bool true]) (by simp [results, Tryz.results72, go_sem, r0, r1]) rfl ⟨rfl, Below.setCell (Below.setCell HB1.out hle _) hle _⟩
theorem headF_bounds {l : List Int} (hl : l.all isByte = true) (m : Bool) : 0 ≤ (headF l m).1 ∧ (headF l m).1 ≤ 14 ∧ 0 ≤ (headF l m).2.1 ∧ (headF l m).2.1 ≤ 4096 ∧ ((headF l m).2.2.2 = 0 ∨ (headF l m).2.2.2 = 1002 ∨ (headF l m).2.2.2 = 1009) := by
 have lb := lenF_bounds hl
 unfold headF
 split
 ·decide
 ·split
  ·decide
  ·split
   ·decide
   ·split
    ·decide
    ·split
     ·decide
     ·split
      ·decide
      ·split
       ·decide
       ·refine ⟨?_, ?_, ?_, ?_, .inl rfl⟩ <;> cases m <;> simp <;> omega
theorem Head_any {l : List Int} (hl : l.all isByte = true) (m : Bool) {A : Option Addr} {c : Nat} {w : World} (hC : Kd.C (Kd.int .u8) w A l.length l) (hc : l.length ≤ c) (hg : Cond w) : Calls Tryz.prog 72 #[.slice A l.length c, .bool m] w fun e w' => e = .returned (.tuple #[.int .i64 (HeadF l m).1, .agg #[.int .u8 (HeadF l m).2.1, .int .u32 (HeadF l m).2.2.1], .bool (HeadF l m).2.2.2]) ∧ Below w.heap.size w w' := by
 have hh : HeadAt A l.length c m w (headF l m).1 (headF l m).2.1 (headF l m).2.2.1 (headF l m).2.2.2 := fun W hb => head_to hl m (Kd.C_below hC hb) hc
 have hb := headF_bounds hl m
 unfold HeadF
 by_cases h1 : (headF l m).2.2.2 ≠ 0
 ·rw [if_pos h1]
  exact Head_bad A l.length c m w hg _ _ _ _ h1 hh
 ·rw [if_neg h1]
  have h1' : (headF l m).2.2.2 = 0 := by omega
  rw [h1'] at hh
  by_cases h2 : (headF l m).2.2.1 = true
  ·rw [if_pos h2]
   rw [h2] at hh
   exact Head_more A l.length c m w _ _ hh
  ·rw [if_neg h2]
   rw [show (headF l m).2.2.1 = false by simpa using h2] at hh
   exact Head_ok A l.length c m w _ _ _ (by rw [i64_w]; unfold wrap64; omega) hh
end Go.Proofs.YtpmeapdcjmaeiaaGreatDoor
namespace Go.Proofs.YtpmeapdcjmaeiaaGreatDoor
open Go.RowKit Go.Wa Go.Wb Go.Wc
def GetPost (r1 : Bool) (r2 : Int) (r3 : Bool) (r4 : Int) (r5 : List Int) (r6 r7 : Int) (w : World) (e : Ending) (w' : World) : Prop := ∃ v, e = .returned (.tuple #[.agg #[.bool r1, .int .u8 r2, .bool r3, .int .u32 r4, v], .agg #[.int .u8 r6, .int .u32 r7]]) ∧ Kd.R (Kd.int .u8) 5 w' w.heap.size (fun _ => True) v r5 ∧ Below w.heap.size w w'
theorem GetPost.bad {c : Int} {w w' : World} (hb : Below w.heap.size w w') : GetPost false 0 false 0 [] 3 c w (.returned (.tuple #[.agg #[.bool false, .int .u8 0, .bool false, .int .u32 0, .slice none 0 0], .agg #[.int .u8 3, .int .u32 c]])) w' := ⟨_, rfl, Kd.R_nil _ _ _ _ _, hb⟩
theorem Get_bad1 (A : Option Addr) (len c : Nat) (m : Bool) (w : World) (hg : Cond w) (f d code : Int) (more : Bool) (hc : code ≠ 0) (hh : HeadAt A len c m w f d more code) : Calls Tryz.prog 73 #[.slice A len c, .bool m] w (GetPost false 0 false 0 [] 3 code w) := by
 have HC := a_ hg
 have HZ := a_ hc
 clear hg hc
 have hu26 := Tryz.underlying87
 have hu37 := Tryz.underlying81
 have HH := a_ hh
 clear hh
 go_enter Tryz.func73, Tryz.ntmps73
 go_wp2_with fail
 refine (HH.out _ (below_alloc (below_alloc (Below.refl _ _) _) _)).mono ?_
 rintro e w1 ⟨v, rfl, hv, hb⟩
 have hp1 : w1.heap[w.heap.size]? = some (.cells #[.bool false, .int .u8 0, .bool false, .int .u32 0, .slice none 0 0] 81 (0, 0)) := blk_below (blk_alloc (last_at _ _ _ rfl) _) hb
 have hr1 : w1.heap[w.heap.size + 1]? = some (.cells #[.int .u8 0, .int .u32 0] 87 (0, 0)) := blk_below (last_at _ _ _ (by simp)) hb
 have HB1 := a_ (below_step (below_alloc (below_alloc (Below.refl w.heap.size w) (.cells #[.bool false, .int .u8 0, .bool false, .int .u32 0, .slice none 0 0] 81)) (.cells #[.int .u8 0, .int .u32 0] 87)) hb)
 clear hb
 have hv2 := bad_of_post hv HZ.out
 obtain ⟨gv, rfl⟩ := hv2.out
 have HV := a_ hv2
 clear hv hv2
 have HP1 := a_ hp1
 have HR1 := a_ hr1
 clear hp1 hr1
 go_wp2_with fail
 refine (wrap_any _ _ code _ HV.out).mono ?_
 rintro e w2 ⟨v2, rfl, hw, hb⟩
 have HW := a_ hw
 have hp2 : w2.heap[w.heap.size]? = some (.cells #[.bool false, .int .u8 0, .bool false, .int .u32 0, .slice none 0 0] 81 (0, 0)) := blk_below HP1.out hb
 have hr2 : w2.heap[w.heap.size + 1]? = some (.cells #[.int .u8 0, .int .u32 0] 87 (0, 0)) := blk_below HR1.out hb
 have HB2 := a_ (below_step HB1.out hb)
 clear HP1 HR1 HB1
 have HP2 := a_ hp2
 have HR2 := a_ hr2
 clear hp2 hr2
 clear hw hb HV
 go_wp2_with fail
 refine (of_wr _ code _ HW.out (HC.out.below HB2.out)).mono ?_
 rintro e w3 ⟨rfl, hb⟩
 have hp3 : w3.heap[w.heap.size]? = some (.cells #[.bool false, .int .u8 0, .bool false, .int .u32 0, .slice none 0 0] 81 (0, 0)) := blk_below HP2.out hb
 have hr3 : w3.heap[w.heap.size + 1]? = some (.cells #[.int .u8 0, .int .u32 0] 87 (0, 0)) := blk_below HR2.out hb
 have HB3 := a_ (below_step HB2.out hb)
 clear HP2 HR2 HB2
 clear hb HW
 obtain ⟨p0, pf0, p1, pf1, p2, pf2, p3, pf3, p4, pf4⟩ := xf5_ hp3
 obtain ⟨r0, rf0, r1, rf1⟩ := xf2_ hr3
 have pl := blk_lt hp3
 have rl := blk_lt hr3
 clear hp3 hr3
 have hle0 : w.heap.size ≤ w.heap.size := Nat.le_refl _
 have hle1 : w.heap.size ≤ w.heap.size + 1 := by omega
 go_wp2_with fail
 exact bodyPost_ret (v := .tuple #[.agg #[.bool false, .int .u8 0, .bool false, .int .u32 0, .slice none 0 0], .agg #[.int .u8 3, .int .u32 code]]) (by simp [results, Tryz.results73, go_sem, p0, p1, p2, p3, p4, r0, r1]) rfl (GetPost.bad (Below.setCell (Below.setCell (Below.setCell (Below.setCell (Below.setCell (Below.setCell (Below.setCell HB3.out hle0 _) hle0 _) hle0 _) hle0 _) hle0 _) hle1 _) hle1 _))
theorem Get_bad2 (A : Option Addr) (len c : Nat) (m : Bool) (w : World) (hg : Cond w) (f d : Int) (hh : HeadAt A len c m w f d true 0) : Calls Tryz.prog 73 #[.slice A len c, .bool m] w (GetPost false 0 false 0 [] 3 1002 w) := by
 have HC := a_ hg
 clear hg
 have hu26 := Tryz.underlying87
 have hu37 := Tryz.underlying81
 have HH := a_ hh
 clear hh
 go_enter Tryz.func73, Tryz.ntmps73
 go_wp2_with fail
 refine (HH.out _ (below_alloc (below_alloc (Below.refl _ _) _) _)).mono ?_
 rintro e w1 ⟨v, rfl, hv, hb⟩
 have hp1 : w1.heap[w.heap.size]? = some (.cells #[.bool false, .int .u8 0, .bool false, .int .u32 0, .slice none 0 0] 81 (0, 0)) := blk_below (blk_alloc (last_at _ _ _ rfl) _) hb
 have hr1 : w1.heap[w.heap.size + 1]? = some (.cells #[.int .u8 0, .int .u32 0] 87 (0, 0)) := blk_below (last_at _ _ _ (by simp)) hb
 have HB1 := a_ (below_step (below_alloc (below_alloc (Below.refl w.heap.size w) (.cells #[.bool false, .int .u8 0, .bool false, .int .u32 0, .slice none 0 0] 81)) (.cells #[.int .u8 0, .int .u32 0] 87)) hb)
 clear hb
 obtain rfl := nil_of_post hv rfl
 clear hv
 have HP1 := a_ hp1
 have HR1 := a_ hr1
 clear hp1 hr1
 go_wp2_with fail
 refine (protocol_any _).mono ?_
 rintro e w2 ⟨v, rfl, hv2, hb⟩
 have hp2 : w2.heap[w.heap.size]? = some (.cells #[.bool false, .int .u8 0, .bool false, .int .u32 0, .slice none 0 0] 81 (0, 0)) := blk_below HP1.out hb
 have hr2 : w2.heap[w.heap.size + 1]? = some (.cells #[.int .u8 0, .int .u32 0] 87 (0, 0)) := blk_below HR1.out hb
 have HB2 := a_ (below_step HB1.out hb)
 clear HP1 HR1 HB1
 have HP2 := a_ hp2
 have HR2 := a_ hr2
 clear hp2 hr2
 obtain ⟨gv, rfl⟩ := hv2.out
 have HV := a_ hv2
 clear hv2 hb
 go_wp2_with fail
 refine (wrap_any _ _ 1002 _ HV.out).mono ?_
 rintro e w3 ⟨v2, rfl, hw, hb⟩
 have HW := a_ hw
 have hp3 : w3.heap[w.heap.size]? = some (.cells #[.bool false, .int .u8 0, .bool false, .int .u32 0, .slice none 0 0] 81 (0, 0)) := blk_below HP2.out hb
 have hr3 : w3.heap[w.heap.size + 1]? = some (.cells #[.int .u8 0, .int .u32 0] 87 (0, 0)) := blk_below HR2.out hb
 have HB3 := a_ (below_step HB2.out hb)
 clear HP2 HR2 HB2
 have HP3 := a_ hp3
 have HR3 := a_ hr3
 clear hp3 hr3
 clear hw hb HV
 go_wp2_with fail
 refine (of_wr _ 1002 _ HW.out (HC.out.below HB3.out)).mono ?_
 rintro e w4 ⟨rfl, hb⟩
 have hp4 : w4.heap[w.heap.size]? = some (.cells #[.bool false, .int .u8 0, .bool false, .int .u32 0, .slice none 0 0] 81 (0, 0)) := blk_below HP3.out hb
 have hr4 : w4.heap[w.heap.size + 1]? = some (.cells #[.int .u8 0, .int .u32 0] 87 (0, 0)) := blk_below HR3.out hb
 have HB4 := a_ (below_step HB3.out hb)
 clear HP3 HR3 HB3
 clear hb HW
 obtain ⟨p0, pf0, p1, pf1, p2, pf2, p3, pf3, p4, pf4⟩ := xf5_ hp4
 obtain ⟨r0, rf0, r1, rf1⟩ := xf2_ hr4
 have pl := blk_lt hp4
 have rl := blk_lt hr4
 clear hp4 hr4
 have hle0 : w.heap.size ≤ w.heap.size := Nat.le_refl _
 have hle1 : w.heap.size ≤ w.heap.size + 1 := by omega
 go_wp2_with fail
 exact bodyPost_ret (v := .tuple #[.agg #[.bool false, .int .u8 0, .bool false, .int .u32 0, .slice none 0 0], .agg #[.int .u8 3, .int .u32 1002]]) (by simp [results, Tryz.results73, go_sem, p0, p1, p2, p3, p4, r0, r1]) rfl (GetPost.bad (Below.setCell (Below.setCell (Below.setCell (Below.setCell (Below.setCell (Below.setCell (Below.setCell HB4.out hle0 _) hle0 _) hle0 _) hle0 _) hle0 _) hle1 _) hle1 _))
theorem Get_bad3 (A : Option Addr) (len c : Nat) (m : Bool) (w : World) (hg : Cond w) (f d s : Int) (hs : IntKind.i64.wrap (f + d) = s) (hne : ((len : Int) != s) = true) (hh : HeadAt A len c m w f d false 0) : Calls Tryz.prog 73 #[.slice A len c, .bool m] w (GetPost false 0 false 0 [] 3 1002 w) := by
 have HC := a_ hg
 clear hg
 have hu26 := Tryz.underlying87
 have hu37 := Tryz.underlying81
 have HH := a_ hh
 clear hh
 go_enter Tryz.func73, Tryz.ntmps73
 go_wp2_with fail
 refine (HH.out _ (below_alloc (below_alloc (Below.refl _ _) _) _)).mono ?_
 rintro e w1 ⟨v, rfl, hv, hb⟩
 have hp1 : w1.heap[w.heap.size]? = some (.cells #[.bool false, .int .u8 0, .bool false, .int .u32 0, .slice none 0 0] 81 (0, 0)) := blk_below (blk_alloc (last_at _ _ _ rfl) _) hb
 have hr1 : w1.heap[w.heap.size + 1]? = some (.cells #[.int .u8 0, .int .u32 0] 87 (0, 0)) := blk_below (last_at _ _ _ (by simp)) hb
 have HB1 := a_ (below_step (below_alloc (below_alloc (Below.refl w.heap.size w) (.cells #[.bool false, .int .u8 0, .bool false, .int .u32 0, .slice none 0 0] 81)) (.cells #[.int .u8 0, .int .u32 0] 87)) hb)
 clear hb
 obtain rfl := nil_of_post hv rfl
 clear hv
 have HP1 := a_ hp1
 have HR1 := a_ hr1
 clear hp1 hr1
 go_wp2_with fail
 refine (protocol_any _).mono ?_
 rintro e w2 ⟨v, rfl, hv2, hb⟩
 have hp2 : w2.heap[w.heap.size]? = some (.cells #[.bool false, .int .u8 0, .bool false, .int .u32 0, .slice none 0 0] 81 (0, 0)) := blk_below HP1.out hb
 have hr2 : w2.heap[w.heap.size + 1]? = some (.cells #[.int .u8 0, .int .u32 0] 87 (0, 0)) := blk_below HR1.out hb
 have HB2 := a_ (below_step HB1.out hb)
 clear HP1 HR1 HB1
 have HP2 := a_ hp2
 have HR2 := a_ hr2
 clear hp2 hr2
 obtain ⟨gv, rfl⟩ := hv2.out
 have HV := a_ hv2
 clear hv2 hb
 go_wp2_with fail
 refine (wrap_any _ _ 1002 _ HV.out).mono ?_
 rintro e w3 ⟨v2, rfl, hw, hb⟩
 have HW := a_ hw
 have hp3 : w3.heap[w.heap.size]? = some (.cells #[.bool false, .int .u8 0, .bool false, .int .u32 0, .slice none 0 0] 81 (0, 0)) := blk_below HP2.out hb
 have hr3 : w3.heap[w.heap.size + 1]? = some (.cells #[.int .u8 0, .int .u32 0] 87 (0, 0)) := blk_below HR2.out hb
 have HB3 := a_ (below_step HB2.out hb)
 clear HP2 HR2 HB2
 have HP3 := a_ hp3
 have HR3 := a_ hr3
 clear hp3 hr3
 clear hw hb HV
 go_wp2_with fail
 refine (of_wr _ 1002 _ HW.out (HC.out.below HB3.out)).mono ?_
 rintro e w4 ⟨rfl, hb⟩
 have hp4 : w4.heap[w.heap.size]? = some (.cells #[.bool false, .int .u8 0, .bool false, .int .u32 0, .slice none 0 0] 81 (0, 0)) := blk_below HP3.out hb
 have hr4 : w4.heap[w.heap.size + 1]? = some (.cells #[.int .u8 0, .int .u32 0] 87 (0, 0)) := blk_below HR3.out hb
 have HB4 := a_ (below_step HB3.out hb)
 clear HP3 HR3 HB3
 clear hb HW
 obtain ⟨p0, pf0, p1, pf1, p2, pf2, p3, pf3, p4, pf4⟩ := xf5_ hp4
 obtain ⟨r0, rf0, r1, rf1⟩ := xf2_ hr4
 have pl := blk_lt hp4
 have rl := blk_lt hr4
 clear hp4 hr4
 have hle0 : w.heap.size ≤ w.heap.size := Nat.le_refl _
 have hle1 : w.heap.size ≤ w.heap.size + 1 := by omega
 go_wp2_with fail
 exact bodyPost_ret (v := .tuple #[.agg #[.bool false, .int .u8 0, .bool false, .int .u32 0, .slice none 0 0], .agg #[.int .u8 3, .int .u32 1002]]) (by simp [results, Tryz.results73, go_sem, p0, p1, p2, p3, p4, r0, r1]) rfl (GetPost.bad (Below.setCell (Below.setCell (Below.setCell (Below.setCell (Below.setCell (Below.setCell (Below.setCell HB4.out hle0 _) hle0 _) hle0 _) hle0 _) hle0 _) hle1 _) hle1 _))
end Go.Proofs.YtpmeapdcjmaeiaaGreatDoor
