/-
  No cell of these rows narrows 'for every input' (looked for: loops, veiled, ifaces, maps, wideKeys, modest, calm, conditions, laid).
  DERIVED. THE GIVEN ROWS OF THIS SEAT. 4 by the template 'for every input the law returns true; each argument reads behind the call as it read before'; 0 by the template 'total and deterministic' (their statements: YtehdljgbbaibcaaTotals.lean).
  GIVEN WITH THE SEED: the statements are not yours to turn. If you find one false, say at which input.
  Laid BY PROGRAM, IN A SANDBOX (cutbox-rows.mjs): the forced cells as the released guide's own fill.sh prints them over the translation c3a2dd42337e9e3d… (all of the seat's roots in one cut). By AI agents, Wed Nov 11 2026. No macro, syntax, notation, axiom, sorry.
-/
import Derived.Test.YtehdljgbbaibcaaChecked
import GoSem.Claim
import GoSem.ClaimJoined
import GoSem.ClaimMapViews
import Derived.JoinedTies
import Derived.KernelRfl
namespace Go.Proofs.Ytehdljgbbaibcaa
/- THE CELL 'sum', in the pinned program and in every row, IS THE sha256 OF THE DUMP (.gsa) THAT YtehdljgbbaibcaaProg.lean LOADS. Nothing in Lean hashes anything: it is a label: what it is worth is what the hold of that sum in a sandbox is worth. -/
noncomputable def Try.pinned : Pinned := { name := "ytehdljgbbaibcaa", sum := "c3a2dd42337e9e3d86cca6dc6190aca17a26d8151596d36346496acfd51e944a", checked := Try.checked }
namespace Rows
def none {H : Type} : Left H := { results := [], args := [] }

/-- 'louverlaw09.SettingsApply': WHATEVER THE INPUT: true; the input reads as it did. -/
def settingsApplySpec : ChangeSpec := { name := "settingsApply", fn := fun _ => fun
  | [d1, d2] => { results := [.lit (.bool true)], args := [d1, d2] }
  | _ => none }
def settingsApplyRow : OpenClaim := { program := "ytehdljgbbaibcaa", sum := "c3a2dd42337e9e3d86cca6dc6190aca17a26d8151596d36346496acfd51e944a", func := "louver/louverlaw09.SettingsApply", spec := "settingsApply", apart := false }
def SettingsApplySaid : Prop := settingsApplyRow.holds Try.pinned (OpenSpec.ofChange settingsApplySpec)

/-- ITS FALSE NEIGHBOUR: 'it returns false'. Refute it at one input. -/
def settingsApplyWrong : ChangeSpec := { name := "settingsApply", fn := fun _ => fun
  | [d1, d2] => { results := [.lit (.bool false)], args := [d1, d2] }
  | _ => none }
def SettingsApplyWrongFalsely : Prop := settingsApplyRow.holds Try.pinned (OpenSpec.ofChange settingsApplyWrong)

/-- 'louverlaw09.SettingsTell': WHATEVER THE INPUT: true; the input reads as it did. -/
def settingsTellSpec : ChangeSpec := { name := "settingsTell", fn := fun _ => fun
  | [d1, d2] => { results := [.lit (.bool true)], args := [d1, d2] }
  | _ => none }
def settingsTellRow : OpenClaim := { program := "ytehdljgbbaibcaa", sum := "c3a2dd42337e9e3d86cca6dc6190aca17a26d8151596d36346496acfd51e944a", func := "louver/louverlaw09.SettingsTell", spec := "settingsTell", apart := false }
def SettingsTellSaid : Prop := settingsTellRow.holds Try.pinned (OpenSpec.ofChange settingsTellSpec)

/-- ITS FALSE NEIGHBOUR: 'it returns false'. Refute it at one input. -/
def settingsTellWrong : ChangeSpec := { name := "settingsTell", fn := fun _ => fun
  | [d1, d2] => { results := [.lit (.bool false)], args := [d1, d2] }
  | _ => none }
def SettingsTellWrongFalsely : Prop := settingsTellRow.holds Try.pinned (OpenSpec.ofChange settingsTellWrong)

/-- 'louverlaw09.SettingsNil': WHATEVER THE INPUT: true; the input reads as it did. -/
def settingsNilSpec : ChangeSpec := { name := "settingsNil", fn := fun _ => fun
  | [d] => { results := [.lit (.bool true)], args := [d] }
  | _ => none }
def settingsNilRow : OpenClaim := { program := "ytehdljgbbaibcaa", sum := "c3a2dd42337e9e3d86cca6dc6190aca17a26d8151596d36346496acfd51e944a", func := "louver/louverlaw09.SettingsNil", spec := "settingsNil", apart := false }
def SettingsNilSaid : Prop := settingsNilRow.holds Try.pinned (OpenSpec.ofChange settingsNilSpec)

/-- ITS FALSE NEIGHBOUR: 'it returns false'. Refute it at one input. -/
def settingsNilWrong : ChangeSpec := { name := "settingsNil", fn := fun _ => fun
  | [d] => { results := [.lit (.bool false)], args := [d] }
  | _ => none }
def SettingsNilWrongFalsely : Prop := settingsNilRow.holds Try.pinned (OpenSpec.ofChange settingsNilWrong)

/-- 'louverlaw09.SettingsPlays': WHATEVER THE INPUT: true; the input reads as it did. -/
def settingsPlaysSpec : ChangeSpec := { name := "settingsPlays", fn := fun _ => fun
  | [d] => { results := [.lit (.bool true)], args := [d] }
  | _ => none }
def settingsPlaysRow : OpenClaim := { program := "ytehdljgbbaibcaa", sum := "c3a2dd42337e9e3d86cca6dc6190aca17a26d8151596d36346496acfd51e944a", func := "louver/louverlaw09.SettingsPlays", spec := "settingsPlays", apart := false }
def SettingsPlaysSaid : Prop := settingsPlaysRow.holds Try.pinned (OpenSpec.ofChange settingsPlaysSpec)

/-- ITS FALSE NEIGHBOUR: 'it returns false'. Refute it at one input. -/
def settingsPlaysWrong : ChangeSpec := { name := "settingsPlays", fn := fun _ => fun
  | [d] => { results := [.lit (.bool false)], args := [d] }
  | _ => none }
def SettingsPlaysWrongFalsely : Prop := settingsPlaysRow.holds Try.pinned (OpenSpec.ofChange settingsPlaysWrong)

/- THE SECOND FORM. 'bulk': how many values and letters a reading holds, each counted each time it is reached (what is shared counts as often as it is met; a slice's spare places count too). A statement '..UptoSaid' is the law's where the arguments, and the package variables that the reading takes, are together of bulk at most 1048576: NARROWER than '..Said'. Prove '..Said' where nothing that the law and all that it calls make is longer than what came in: it says more and counts as full. Else prove '..UptoSaid'. A law counts once. -/
mutual
def uptoBulk {H : Type} : DataW H → Nat
  | .lit (.string bytes) => bytes.length + 1
  | .lit _ => 1
  | .nil => 1
  | .ptr d => uptoBulk d + 1
  | .slice elems spare => uptoBulkAll elems + uptoBulkAll spare + 1
  | .agg parts => uptoBulkAll parts + 1
  | .iface _ d => uptoBulk d + 1
  | .map entries => uptoBulkEntries entries + 1
  | .held _ => 1
def uptoBulkAll {H : Type} : List (DataW H) → Nat
  | [] => 0
  | d :: r => uptoBulk d + uptoBulkAll r
def uptoBulkEntries {H : Type} : List (Lit × DataW H) → Nat
  | [] => 0
  | x :: r => uptoBulkEntry x + uptoBulkEntries r
def uptoBulkEntry {H : Type} : Lit × DataW H → Nat
  | (.string bytes, d) => bytes.length + uptoBulk d + 1
  | (_, d) => uptoBulk d + 1
 end
def uptoSmall : (H : Type) → List (DataW H) → Bool := fun _ ds => decide (uptoBulkAll ds ≤ 1048576)
def OpenSpec.upto (s : _root_.Go.ChangeSpec) : _root_.Go.OpenSpec := { _root_.Go.OpenSpec.ofChange s with cond := some uptoSmall }

/-- 'louverlaw09.SettingsApply', WHERE WHAT IT READS IS OF BULK AT MOST 1048576: true; the input reads as it did. -/
def settingsApplyUptoRow : OpenClaim := { program := "ytehdljgbbaibcaa", sum := "c3a2dd42337e9e3d86cca6dc6190aca17a26d8151596d36346496acfd51e944a", func := "louver/louverlaw09.SettingsApply", spec := "settingsApply", apart := false, narrowed := true }
def SettingsApplyUptoSaid : Prop := settingsApplyUptoRow.holds Try.pinned (OpenSpec.upto settingsApplySpec)

/-- 'louverlaw09.SettingsTell', WHERE WHAT IT READS IS OF BULK AT MOST 1048576: true; the input reads as it did. -/
def settingsTellUptoRow : OpenClaim := { program := "ytehdljgbbaibcaa", sum := "c3a2dd42337e9e3d86cca6dc6190aca17a26d8151596d36346496acfd51e944a", func := "louver/louverlaw09.SettingsTell", spec := "settingsTell", apart := false, narrowed := true }
def SettingsTellUptoSaid : Prop := settingsTellUptoRow.holds Try.pinned (OpenSpec.upto settingsTellSpec)

/-- 'louverlaw09.SettingsNil', WHERE WHAT IT READS IS OF BULK AT MOST 1048576: true; the input reads as it did. -/
def settingsNilUptoRow : OpenClaim := { program := "ytehdljgbbaibcaa", sum := "c3a2dd42337e9e3d86cca6dc6190aca17a26d8151596d36346496acfd51e944a", func := "louver/louverlaw09.SettingsNil", spec := "settingsNil", apart := false, narrowed := true }
def SettingsNilUptoSaid : Prop := settingsNilUptoRow.holds Try.pinned (OpenSpec.upto settingsNilSpec)

/-- 'louverlaw09.SettingsPlays', WHERE WHAT IT READS IS OF BULK AT MOST 1048576: true; the input reads as it did. -/
def settingsPlaysUptoRow : OpenClaim := { program := "ytehdljgbbaibcaa", sum := "c3a2dd42337e9e3d86cca6dc6190aca17a26d8151596d36346496acfd51e944a", func := "louver/louverlaw09.SettingsPlays", spec := "settingsPlays", apart := false, narrowed := true }
def SettingsPlaysUptoSaid : Prop := settingsPlaysUptoRow.holds Try.pinned (OpenSpec.upto settingsPlaysSpec)

end Rows
end Go.Proofs.Ytehdljgbbaibcaa
