/- The row of the law TunnelPairs, out of its walk: whatever the input, true; the input reads as it did. -/
import Derived.Test.YtpmeapdcjmaeiaaGreatDoorZ14
import Derived.Test.YtpmeapdcjmaeiaaGreatDoorRows
import Derived.Test.YtpmeapdcjmaeiaaGreatDoorTie
import Derived.Test.YtpmeapdcjmaeiaaGreatDoorCards
import Derived.WalkKit
import Derived.ProofKit
import Derived.OpenShut
import Derived.ShutString
import Derived.ChangeOld
import Derived.Below
import Derived.SizedLaws
import Derived.ChangeSame
import Derived.ChangeVars
import Derived.JoinedOf
import Derived.RowKit
import Derived.RowKitTokens
import Derived.LaidLaws
import Derived.LaidHandle
import Derived.Stop.Joined
import Derived.SevenTiedAt
set_option linter.unusedVariables false
set_option linter.unusedSimpArgs false
set_option maxRecDepth 100000
set_option maxHeartbeats 16000000

namespace Go.Proofs.YtpmeapdcjmaeiaaGreatDoor.tunnelPairs
open Go.ChangeShapes Go.WideShapes Go.ChangeAt Go.RowKit Go.Wa PAll
open Go.ChangeMaps (open_string shut_string)
theorem own : ownKnob Tryz.prog.godebug = none := by kernel_rfl
theorem laidOut : laidOutB Tryz.prog = true := by kernel_rfl
def LD : List (String × DataW Unit) := [("errors.errorType", Rows.laid_errors_errorType)]
theorem et : Tryz.prog.globalNamed "errors.errorType" = some 0 := by kernel_rfl
theorem rt : (Tryz.prog.cutTypes.find? (·.1 == "internal/reflectlite.rtype")).map (·.2) = some 206 := by kernel_rfl
theorem oneRow : ((List.range 247).filter fun t => Tryz.prog.rowNamed t [101, 114, 114, 111, 114]) = [133] := by kernel_rfl
theorem size_ : Tryz.prog.types.size = 247 := by kernel_rfl
theorem handle_of_laid {W : World} (h : laidMetH Tryz.prog LD W) : Cond W := by
 have h' : laidMet Tryz.prog [] W ∧ handlesMet Tryz.prog LD W := h
 obtain ⟨name, u, ty, e1, e2, e3, e4, e5⟩ := h'.2 _ (List.mem_singleton.2 rfl)
 have en : name = [101, 114, 114, 111, 114] := (Option.some.inj e1).symm
 subst en
 obtain rfl := Option.some.inj (rt.symm.trans e2)
 have hm : ty ∈ (List.range 247).filter fun t => Tryz.prog.rowNamed t [101, 114, 114, 111, 114] := List.mem_filter.2 ⟨List.mem_range.2 (by rw [← size_]; exact e3), e4⟩
 rw [oneRow] at hm
 obtain rfl := List.mem_singleton.1 hm
 have hh : typeHandle Tryz.prog 133 = .pointer (some ⟨1, 133, none⟩) := by kernel_rfl
 rw [hh] at e5
 show W.cell? ⟨0, 0, Option.none⟩ = some (.iface 206 (.agg #[.pointer (some ⟨1, 133, Option.none⟩)]))
 simpa using World.var?_cell et e5 0
noncomputable def laidWorld (os : Os) : World :=
 let w0 := World.holding Tryz.prog os ⟨#[], #[], []⟩
 { w0 with heap := w0.heap.modify 0 fun
   | .cells _ t frozen => .cells #[.iface 206 (.agg #[.pointer (some ⟨1, 133, none⟩)])] t frozen
   | o => o }
theorem laidWorld_met (os : Os) (args : Array Value) : laidMetH Tryz.prog LD ((laidWorld os).forCall (fun _ _ => 0) ⟨#[], args, []⟩).memory :=
 laidMetH_of_parts (laidMet_nil _ _) (by kernel_rfl)
theorem lifted (os : Os) (started : os.Started) (H : Type) (enc : TypeId × Value → H) :
  ReturnsInHanded {} Tryz.checked os 4 .any (fun w args => (Rows.tunnelPairsSpec.pre enc Tryz.prog Tryz.f4 [] false w args ∧ laidMetH Tryz.prog LD w) ∧ sizedMet enc Tryz.prog Tryz.f4 (OpenSpec.ofChange Rows.tunnelPairsSpec) false w args)
   (Rows.tunnelPairsSpec.post enc Tryz.prog Tryz.f4 false true false false) := by
 refine returnsInHanded_of_change_and (C := Tryz.checked) (X := fun w _ => laidMetH Tryz.prog LD w) (fun _ _ _ hh h => h.of_heap hh) own started (by kernel_rfl) Tryz.func4
  (ChangeSpec.witness_at (enc := enc) (C := Tryz.checked) (os := os) (X := fun w _ => laidMetH Tryz.prog LD w) false (laidWorld os) #[.slice none 0 0, .slice none 0 0, .slice none 0 0, .int .u32 0, .bool false, .int .u8 0] 8 rfl (by kernel_rfl) (by kernel_rfl) (by kernel_rfl) (by kernel_rfl) (by kernel_rfl) (laidWorld_met os _)) ?_
 intro W base args ds gs before hval0 hW hcnd hsz0 hL _
 have hsz : (DataW.weightsEach Tryz.prog (Tryz.f4.params.toList ++ Rows.tunnelPairsSpec.plain.varTypes Tryz.prog) (ds ++ gs)).all (· ≤ reachBytes) = true := hsz0
 have hg := handle_of_laid hL
 have hval : ∀ (j : Nat) t v, Tryz.f4.params[j]? = some t → args[j]? = some v → Value.okWide Tryz.prog W .any base t v := hval0
 have hW' := hW
 obtain ⟨p, q, hA0, hV, rfl, hfz, hnd⟩ := hW
 have hA : DataW.TrodAll enc Tryz.prog W 0 (fun _ => true) true Tryz.f4.params.toList args.toList ds p := hA0
 rw [Tryz.params4] at hA hval hsz
 obtain ⟨v0, vs0, d0, ds0, p0, q0, hargs, rfl, rfl, h0, rr0⟩ := trodAll_cons hA
 obtain ⟨v1, vs1, d1, ds1, p1, q1, rfl, rfl, rfl, h1, rr1⟩ := trodAll_cons rr0
 obtain ⟨v2, vs2, d2, ds2, p2, q2, rfl, rfl, rfl, h2, rr2⟩ := trodAll_cons rr1
 obtain ⟨v3, vs3, d3, ds3, p3, q3, rfl, rfl, rfl, h3, rr3⟩ := trodAll_cons rr2
 obtain ⟨v4, vs4, d4, ds4, p4, q4, rfl, rfl, rfl, h4, rr4⟩ := trodAll_cons rr3
 obtain ⟨v5, vs5, d5, ds5, p5, q5, rfl, rfl, rfl, h5, rr5⟩ := trodAll_cons rr4
 obtain ⟨rfl, rfl, rfl⟩ := trodAll_nil rr5
 obtain rfl : args = #[v0, v1, v2, v3, v4, v5] := by cases args; simp_all
 obtain ⟨rfl, rfl⟩ := trodVars_none hV
 have k0 := h0
 have lt0 : ∀ x ∈ p0, x.block < W.heap.size := by obtain ⟨m, hm⟩ := k0; exact DataW.trod_lt m _ _ _ hm
 obtain ⟨a0, len0, cap0, rfl⟩ := okWide_slice Tryz.underlying22 (hval 0 22 v0 rfl rfl)
 obtain ⟨fuel0, hf0⟩ := h0
 have opn0 : Op.Opener Tryz.prog W 22 (Kd.slice 35 (Kd.int .u32)) _ := (Op.Opener.slice (B := 4) Tryz.underlying22 (by kernel_rfl) (by kernel_rfl) (Op.Opener.int Tryz.underlying35))
 obtain ⟨x0, hK0, o0⟩ := opn0 enc _ _ _ fuel0 _ _ hf0 (fun z hz => of_decide_eq_true (List.all_eq_true.1 hsz z (DataW.weights_mem_each (j := 0) (t := 22) rfl rfl z hz)))
 obtain ⟨B0, c0, e0, l0, r0⟩ := hK0
 obtain ⟨rfl, rfl, rfl⟩ : a0 = B0 ∧ len0 = x0.length ∧ cap0 = c0 := by simpa [Value.cells] using e0
 clear e0
 clear opn0 hf0
 have k1 := h1
 have lt1 : ∀ x ∈ p1, x.block < W.heap.size := by obtain ⟨m, hm⟩ := k1; exact DataW.trod_lt m _ _ _ hm
 obtain ⟨a1, len1, cap1, rfl⟩ := okWide_slice Tryz.underlying23 (hval 1 23 v1 rfl rfl)
 obtain ⟨fuel1, hf1⟩ := h1
 have opn1 : Op.Opener Tryz.prog W 23 (Kd.slice 27 (Kd.slice 5 (Kd.int .u8))) _ := (Op.Opener.slice (B := 24) Tryz.underlying23 (by kernel_rfl) (by kernel_rfl) (Op.Opener.slice (B := 1) Tryz.underlying27 (by kernel_rfl) (by kernel_rfl) (Op.Opener.int Tryz.underlying5)))
 obtain ⟨x1, hK1, o1⟩ := opn1 enc _ _ _ fuel1 _ _ hf1 (fun z hz => of_decide_eq_true (List.all_eq_true.1 hsz z (DataW.weights_mem_each (j := 1) (t := 23) rfl rfl z hz)))
 obtain ⟨B1, c1, e1, l1, r1⟩ := hK1
 obtain ⟨rfl, rfl, rfl⟩ : a1 = B1 ∧ len1 = x1.length ∧ cap1 = c1 := by simpa [Value.cells] using e1
 clear e1
 clear opn1 hf1
 have k2 := h2
 have lt2 : ∀ x ∈ p2, x.block < W.heap.size := by obtain ⟨m, hm⟩ := k2; exact DataW.trod_lt m _ _ _ hm
 obtain ⟨a2, len2, cap2, rfl⟩ := okWide_slice Tryz.underlying23 (hval 2 23 v2 rfl rfl)
 obtain ⟨fuel2, hf2⟩ := h2
 have opn2 : Op.Opener Tryz.prog W 23 (Kd.slice 27 (Kd.slice 5 (Kd.int .u8))) _ := (Op.Opener.slice (B := 24) Tryz.underlying23 (by kernel_rfl) (by kernel_rfl) (Op.Opener.slice (B := 1) Tryz.underlying27 (by kernel_rfl) (by kernel_rfl) (Op.Opener.int Tryz.underlying5)))
 obtain ⟨x2, hK2, o2⟩ := opn2 enc _ _ _ fuel2 _ _ hf2 (fun z hz => of_decide_eq_true (List.all_eq_true.1 hsz z (DataW.weights_mem_each (j := 2) (t := 23) rfl rfl z hz)))
 obtain ⟨B2, c2, e2, l2, r2⟩ := hK2
 obtain ⟨rfl, rfl, rfl⟩ : a2 = B2 ∧ len2 = x2.length ∧ cap2 = c2 := by simpa [Value.cells] using e2
 clear e2
 clear opn2 hf2
 obtain ⟨x3, rfl, rfl, rfl, o3⟩ := open_int Tryz.underlying35 (hval 3 35 v3 rfl rfl) h3
 obtain ⟨x4, rfl, rfl, rfl⟩ := open_bool Tryz.underlying4 (hval 4 4 v4 rfl rfl) h4
 obtain ⟨x5, rfl, rfl, rfl, o5⟩ := open_int Tryz.underlying5 (hval 5 5 v5 rfl rfl) h5
 clear hA0 hval0 hsz0 hsz
 refine (Pure.TunnelPairs _ _ x0 _ _ x1 _ _ x2 x3 x4 x5 W l0 r0 o0 l1 r1 o1 l2 r2 o2 o3  o5 hg).mono fun e W' ⟨he, bel⟩ => ?_
 subst he
 exact ⟨_, rfl, _, _, _, [], _, [], hW', trodAll_mk1 (shut_bool Tryz.underlying4 _), (trodAll_cons_mk (Below.trod laidOut (by kernel_rfl) (of_decide_eq_true (by kernel_rfl)) k0 bel lt0) (trodAll_cons_mk (Below.trod laidOut (by kernel_rfl) (of_decide_eq_true (by kernel_rfl)) k1 bel lt1) (trodAll_cons_mk (Below.trod laidOut (by kernel_rfl) (of_decide_eq_true (by kernel_rfl)) k2 bel lt2) (trodAll_cons_mk (shut_int Tryz.underlying35 o3) (trodAll_cons_mk (shut_bool Tryz.underlying4 _) (trodAll_cons_mk (shut_int Tryz.underlying5 o5) trodAll_mk0)))))), rfl, bel.frame _, fun h => by cases h⟩
theorem over : Rows.tunnelPairsRow.holds Tryz.pinned (OpenSpec.ofChange Rows.tunnelPairsSpec) :=
 OpenClaim.holds_of_wide 4 Tryz.f4 rfl rfl rfl rfl rfl rfl rfl ⟨rfl, rfl, rfl, rfl, rfl⟩ rfl rfl rfl rfl rfl (by kernel_rfl) Tryz.func4 (by kernel_rfl)
  (of_decide_eq_true (by kernel_rfl)) (by unfold Func.isWrapper; first | (rw [if_pos (by decide +kernel)]; kernel_rfl) | (rw [if_neg (by decide +kernel)]; exact ⟨rfl, rfl⟩) | (rw [if_neg (of_decide_eq_false (by kernel_rfl))]; exact ⟨rfl, rfl⟩))
  (fun os started H enc _ => lifted os started H enc)
theorem proved : Rows.TunnelPairsSaid := over
theorem card : Rows.TunnelPairsCardSaid :=
 Claim7.holds_tied_plain_at .later [] [.handle] true (true, "89a77d9873017c7094ab07e6209a22f33f5332747e19b49499c2f9a44b43a937") true
  proved (fun _ h => by cases h) (by kernel_rfl) (fun _ h => by cases h) tunnelPairs_row_tie rfl ⟨rfl, rfl⟩ (by kernel_rfl) rfl
  (fun f fn hf hfn => by
   obtain rfl : f = 4 := Option.some.inj ((show Tryz.prog.funcNamed "louver/louverlaw20.TunnelPairs" = some 4 by kernel_rfl).symm.trans hf) |>.symm
   obtain rfl : fn = Tryz.f4 := (Option.some.inj (Tryz.func4.symm.trans hfn)).symm
   exact ⟨by kernel_rfl, fun j t ht => by
    rw [Tryz.params4] at ht
    have hj : t = 22 ∨ t = 23 ∨ t = 23 ∨ t = 35 ∨ t = 4 ∨ t = 5 := by
     have := List.mem_of_getElem? (by simpa using ht : (#[22, 23, 23, 35, 4, 5] : Array TypeId).toList[j]? = some t)
     simpa using this
    rcases hj with rfl | rfl | rfl | rfl | rfl | rfl
    ·exact (show Tryz.prog.wantsStandIn 22 = false by kernel_rfl)
    ·exact (show Tryz.prog.wantsStandIn 23 = false by kernel_rfl)
    ·exact (show Tryz.prog.wantsStandIn 23 = false by kernel_rfl)
    ·exact (show Tryz.prog.wantsStandIn 35 = false by kernel_rfl)
    ·exact (show Tryz.prog.wantsStandIn 4 = false by kernel_rfl)
    ·exact (show Tryz.prog.wantsStandIn 5 = false by kernel_rfl)⟩)
  (by kernel_rfl)
#print axioms card
end Go.Proofs.YtpmeapdcjmaeiaaGreatDoor.tunnelPairs
namespace Go.Proofs.YtpmeapdcjmaeiaaGreatDoor
theorem tunnelPairs_card : Rows.TunnelPairsCardSaid := tunnelPairs.card
end Go.Proofs.YtpmeapdcjmaeiaaGreatDoor
