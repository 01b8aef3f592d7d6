/- The row of the law SettingsTell, out of its walk: whatever the input, true; the input reads as it did. -/
-- Written by a program of this session (wip/tools/genrow.py).
import Derived.Test.YtehdljgbbaibcaaRows
import Derived.Test.YtehdljgbbaibcaaSaysSettingsTell
import Derived.Test.YtehdljgbbaibcaaPureSettingsTell
import Derived.Test.YtehdljgbbaibcaaOpen
import Derived.WalkKit
import Derived.ProofKit
import Derived.OpenShut
import Derived.ShutString
import Derived.ChangeOld
import Derived.Below
import Derived.SizedLaws
namespace Go.Proofs.Ytehdljgbbaibcaa.settingsTell
open Go.ChangeShapes Go.WideShapes Go.ChangeAt Go.RowKit Go.Proofs.YtehdljgbbaibcaaW.PrintWords Go.Proofs.Ytehdljgbbaibcaa.PAll
open Go.ChangeMaps (open_string shut_string)
set_option linter.unusedVariables false
theorem own : ownKnob Try.prog.godebug = none := by kernel_rfl
theorem laidOut : laidOutB Try.prog = true := by kernel_rfl
set_option maxRecDepth 100000 in
theorem lifted (os : Os) (started : os.Started) (H : Type) (enc : TypeId × Value → H) :
    ReturnsInHanded {} Try.checked os 4 .any (Rows.settingsTellSpec.pre6 enc Try.prog Try.f4 Rows.settingsTellRow.domain false) (Rows.settingsTellSpec.post enc Try.prog Try.f4 false true false false) := by
  refine returnsInHanded_of_change_sized (C := Try.checked) own started (by kernel_rfl) Try.func4
    (ChangeSpec.witness6 (enc := enc) (C := Try.checked) false ⟨#[], #[.agg #[.int .u32 0, .bool false, .int .u32 0, .int .u32 0, .int .u32 0, .int .u32 0, .bool false], .agg #[.int .u32 0, .bool false, .int .u32 0, .int .u32 0, .int .u32 0, .int .u32 0, .bool false]], []⟩ 8 (by kernel_rfl) (by kernel_rfl) (by kernel_rfl) (by kernel_rfl)) ?_
  intro W base args ds gs before hval0 hW hcnd hsz0 _
  have hsz : (DataW.weightsEach Try.prog (Try.f4.params.toList ++ Rows.settingsTellSpec.plain.varTypes Try.prog) (ds ++ gs)).all (· ≤ reachBytes) = true := hsz0
  have hval : ∀ (j : Nat) t v, Try.f4.params[j]? = some t → args[j]? = some v → Value.okWide Try.prog W .any base t v := hval0
  have hW' := hW
  obtain ⟨p, q, hA0, hV, rfl, hfz, hnd⟩ := hW
  have hA : DataW.TrodAll enc Try.prog W 0 (fun _ => true) true Try.f4.params.toList args.toList ds p := hA0
  rw [Try.params4] at hA hval hsz
  obtain ⟨v0, vs0, d0, ds0, p0, q0, hargs, rfl, rfl, h0, rr0⟩ := trodAll_cons hA
  obtain ⟨v1, vs1, d1, ds1, p1, q1, rfl, rfl, rfl, h1, rr1⟩ := trodAll_cons rr0
  obtain ⟨rfl, rfl, rfl⟩ := trodAll_nil rr1
  obtain rfl : args = #[v0, v1] := by cases args; simp_all
  obtain ⟨rfl, rfl⟩ := trodVars_none hV
  have k0 := h0
  have lt0 : ∀ x ∈ p0, x.block < W.heap.size := by obtain ⟨m, hm⟩ := k0; exact DataW.trod_lt m _ _ _ hm
  obtain ⟨cs0, rfl, _⟩ := okWide_struct Try.underlying24 (hval 0 24 v0 rfl rfl)
  obtain ⟨fuel0, hf0⟩ := h0
  have opn0 : Op.Opener Try.prog W 24 k24 _ := (Op.Opener.struct (fun y => (⟨y.1, y.2.1, y.2.2.1, y.2.2.2.1, y.2.2.2.2.1, y.2.2.2.2.2.1, y.2.2.2.2.2.2⟩ : S24)) (fun _ => rfl) Try.underlying24 rfl (by kernel_rfl) (Op.Fields.cons (Op.Opener.int Try.underlying22) rfl (by kernel_rfl) (Op.Fields.cons (Op.Opener.bool Try.underlying4) rfl (by kernel_rfl) (Op.Fields.cons (Op.Opener.int Try.underlying22) rfl (by kernel_rfl) (Op.Fields.cons (Op.Opener.int Try.underlying22) rfl (by kernel_rfl) (Op.Fields.cons (Op.Opener.int Try.underlying22) rfl (by kernel_rfl) (Op.Fields.cons (Op.Opener.int Try.underlying22) rfl (by kernel_rfl) (Op.Fields.one (Op.Opener.bool Try.underlying4) rfl (by kernel_rfl) rfl))))))))
  obtain ⟨x0, hK0, o0⟩ := opn0 enc _ _ _ fuel0 _ _ hf0 (fun z hz => of_decide_eq_true (List.all_eq_true.1 hsz z (DataW.weights_mem_each (j := 0) (t := 24) rfl rfl z hz)))
  have r0 : k24.K W x0 cs0.toList := hK0
  clear opn0 hf0
  have k1 := h1
  have lt1 : ∀ x ∈ p1, x.block < W.heap.size := by obtain ⟨m, hm⟩ := k1; exact DataW.trod_lt m _ _ _ hm
  obtain ⟨cs1, rfl, _⟩ := okWide_struct Try.underlying24 (hval 1 24 v1 rfl rfl)
  obtain ⟨fuel1, hf1⟩ := h1
  have opn1 : Op.Opener Try.prog W 24 k24 _ := (Op.Opener.struct (fun y => (⟨y.1, y.2.1, y.2.2.1, y.2.2.2.1, y.2.2.2.2.1, y.2.2.2.2.2.1, y.2.2.2.2.2.2⟩ : S24)) (fun _ => rfl) Try.underlying24 rfl (by kernel_rfl) (Op.Fields.cons (Op.Opener.int Try.underlying22) rfl (by kernel_rfl) (Op.Fields.cons (Op.Opener.bool Try.underlying4) rfl (by kernel_rfl) (Op.Fields.cons (Op.Opener.int Try.underlying22) rfl (by kernel_rfl) (Op.Fields.cons (Op.Opener.int Try.underlying22) rfl (by kernel_rfl) (Op.Fields.cons (Op.Opener.int Try.underlying22) rfl (by kernel_rfl) (Op.Fields.cons (Op.Opener.int Try.underlying22) rfl (by kernel_rfl) (Op.Fields.one (Op.Opener.bool Try.underlying4) rfl (by kernel_rfl) rfl))))))))
  obtain ⟨x1, hK1, o1⟩ := opn1 enc _ _ _ fuel1 _ _ hf1 (fun z hz => of_decide_eq_true (List.all_eq_true.1 hsz z (DataW.weights_mem_each (j := 1) (t := 24) rfl rfl z hz)))
  have r1 : k24.K W x1 cs1.toList := hK1
  clear opn1 hf1
  clear hA0 hval0 hsz0 hsz
  refine (Pure.SettingsTell _ x0 _ x1 W r0 o0 r1 o1).mono fun e W' ⟨he, bel⟩ => ?_
  subst he
  exact ⟨_, rfl, _, _, _, [], _, [], hW', trodAll_mk1 (shut_bool Try.underlying4 _), (trodAll_cons_mk (Below.trod laidOut (by kernel_rfl) (of_decide_eq_true (by kernel_rfl)) k0 bel lt0) (trodAll_cons_mk (Below.trod laidOut (by kernel_rfl) (of_decide_eq_true (by kernel_rfl)) k1 bel lt1) trodAll_mk0)), rfl, bel.frame _, fun h => by cases h⟩
theorem over : Rows.settingsTellRow.holds Try.pinned (OpenSpec.ofChange Rows.settingsTellSpec) :=
  OpenClaim.holds_of_wide 4 Try.f4 rfl rfl rfl rfl rfl rfl rfl ⟨rfl, rfl, rfl, rfl, rfl⟩ rfl rfl rfl rfl rfl (by kernel_rfl) Try.func4 (by kernel_rfl)
    (of_decide_eq_true (by kernel_rfl)) (by unfold Func.isWrapper; first | (rw [if_pos (by decide +kernel)]; kernel_rfl) | (rw [if_neg (by decide +kernel)]; exact ⟨rfl, rfl⟩))
    (fun os started H enc _ => lifted os started H enc)
theorem proved : Rows.SettingsTellSaid := over
#print axioms proved
end Go.Proofs.Ytehdljgbbaibcaa.settingsTell
namespace Go.Proofs.Ytehdljgbbaibcaa
/-- The row, under a short name, for the claim. -/
theorem settingsTell_holds : Rows.SettingsTellSaid := settingsTell.proved
end Go.Proofs.Ytehdljgbbaibcaa
