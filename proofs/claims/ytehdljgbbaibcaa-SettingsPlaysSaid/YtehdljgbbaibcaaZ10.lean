/- The row of the law SettingsPlays, out of its walk: whatever the input, true; the input reads as it did. -/
import Derived.Test.YtehdljgbbaibcaaZ9
import Derived.Test.YtehdljgbbaibcaaRows
import Derived.WalkKit
import Derived.ProofKit
import Derived.OpenShut
import Derived.ShutString
import Derived.ChangeOld
import Derived.Below
import Derived.SizedLaws
/- The row of the law SettingsPlays, out of its walk: whatever the input, true; the input reads as it did. -/
-- Written by a program of this session (wip/tools/genrow.py).
namespace Go.Proofs.Ytehdljgbbaibcaa.settingsPlays
open Go.ChangeShapes Go.WideShapes Go.ChangeAt Go.RowKit Go.Proofs.YtehdljgbbaibcaaW.PrintWords Go.Proofs.Ytehdljgbbaibcaa.PAll
open Go.ChangeMaps (open_string shut_string)
set_option linter.unusedVariables false
theorem own : ownKnob Try.prog.godebug = none := by kernel_rfl
theorem laidOut : laidOutB Try.prog = true := by kernel_rfl
set_option maxRecDepth 100000 in
theorem lifted (os : Os) (started : os.Started) (H : Type) (enc : TypeId × Value → H) :
    ReturnsInHanded {} Try.checked os 6 .any (Rows.settingsPlaysSpec.pre6 enc Try.prog Try.f6 Rows.settingsPlaysRow.domain false) (Rows.settingsPlaysSpec.post enc Try.prog Try.f6 false true false false) := by
  refine returnsInHanded_of_change_sized (C := Try.checked) own started (by kernel_rfl) Try.func6
    (ChangeSpec.witness6 (enc := enc) (C := Try.checked) false ⟨#[], #[.slice none 0 0], []⟩ 8 (by kernel_rfl) (by kernel_rfl) (by kernel_rfl) (by kernel_rfl)) ?_
  intro W base args ds gs before hval0 hW hcnd hsz0 _
  have hsz : (DataW.weightsEach Try.prog (Try.f6.params.toList ++ Rows.settingsPlaysSpec.plain.varTypes Try.prog) (ds ++ gs)).all (· ≤ reachBytes) = true := hsz0
  have hval : ∀ (j : Nat) t v, Try.f6.params[j]? = some t → args[j]? = some v → Value.okWide Try.prog W .any base t v := hval0
  have hW' := hW
  obtain ⟨p, q, hA0, hV, rfl, hfz, hnd⟩ := hW
  have hA : DataW.TrodAll enc Try.prog W 0 (fun _ => true) true Try.f6.params.toList args.toList ds p := hA0
  rw [Try.params6] at hA hval hsz
  obtain ⟨v0, vs0, d0, ds0, p0, q0, hargs, rfl, rfl, h0, rr0⟩ := trodAll_cons hA
  obtain ⟨rfl, rfl, rfl⟩ := trodAll_nil rr0
  obtain rfl : args = #[v0] := by cases args; simp_all
  obtain ⟨rfl, rfl⟩ := trodVars_none hV
  have k0 := h0
  have lt0 : ∀ x ∈ p0, x.block < W.heap.size := by obtain ⟨m, hm⟩ := k0; exact DataW.trod_lt m _ _ _ hm
  obtain ⟨a0, len0, cap0, rfl⟩ := okWide_slice Try.underlying46 (hval 0 46 v0 rfl rfl)
  obtain ⟨fuel0, hf0⟩ := h0
  have opn0 : Op.Opener Try.prog W 46 (Kd.slice 50 k50) _ := (Op.Opener.slice (B := 32) Try.underlying46 (by kernel_rfl) (by kernel_rfl) (Op.Opener.struct (fun y => (⟨y.1, y.2⟩ : S50)) (fun _ => rfl) Try.underlying50 rfl (by kernel_rfl) (Op.Fields.cons (Op.Opener.int Try.underlying3) rfl (by kernel_rfl) (Op.Fields.one (Op.Opener.slice (B := 8) Try.underlying25 (by kernel_rfl) (by kernel_rfl) (Op.Opener.struct (fun y => (⟨y.1, y.2⟩ : S39)) (fun _ => rfl) Try.underlying39 rfl (by kernel_rfl) (Op.Fields.cons (Op.Opener.int Try.underlying37) rfl (by kernel_rfl) (Op.Fields.one (Op.Opener.int Try.underlying22) rfl (by kernel_rfl) rfl)))) rfl (by kernel_rfl) rfl))))
  obtain ⟨x0, hK0, o0⟩ := opn0 enc _ _ _ fuel0 _ _ hf0 (fun z hz => of_decide_eq_true (List.all_eq_true.1 hsz z (DataW.weights_mem_each (j := 0) (t := 46) rfl rfl z hz)))
  obtain ⟨B0, c0, e0, l0, r0⟩ := hK0
  obtain ⟨rfl, rfl, rfl⟩ : a0 = B0 ∧ len0 = x0.length ∧ cap0 = c0 := by simpa [Value.cells] using e0
  clear e0
  clear opn0 hf0
  clear hA0 hval0 hsz0 hsz
  refine (Pure.SettingsPlays _ _ x0 W l0 r0 o0).mono fun e W' ⟨he, bel⟩ => ?_
  subst he
  exact ⟨_, rfl, _, _, _, [], _, [], hW', trodAll_mk1 (shut_bool Try.underlying4 _), (trodAll_cons_mk (Below.trod laidOut (by kernel_rfl) (of_decide_eq_true (by kernel_rfl)) k0 bel lt0) trodAll_mk0), rfl, bel.frame _, fun h => by cases h⟩
theorem over : Rows.settingsPlaysRow.holds Try.pinned (OpenSpec.ofChange Rows.settingsPlaysSpec) :=
  OpenClaim.holds_of_wide 6 Try.f6 rfl rfl rfl rfl rfl rfl rfl ⟨rfl, rfl, rfl, rfl, rfl⟩ rfl rfl rfl rfl rfl (by kernel_rfl) Try.func6 (by kernel_rfl)
    (of_decide_eq_true (by kernel_rfl)) (by unfold Func.isWrapper; first | (rw [if_pos (by decide +kernel)]; kernel_rfl) | (rw [if_neg (by decide +kernel)]; exact ⟨rfl, rfl⟩))
    (fun os started H enc _ => lifted os started H enc)
theorem proved : Rows.SettingsPlaysSaid := over
#print axioms proved
end Go.Proofs.Ytehdljgbbaibcaa.settingsPlays
namespace Go.Proofs.Ytehdljgbbaibcaa
/-- The row, under a short name, for the claim. -/
theorem settingsPlays_holds : Rows.SettingsPlaysSaid := settingsPlays.proved
end Go.Proofs.Ytehdljgbbaibcaa

