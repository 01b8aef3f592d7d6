/-
  NARROWER THAN 'FOR EVERY INPUT', by the rows' own cells (each row's printed sentence says how): WsframeHead: laid · WsframeLengths: laid · WsframePuts: laid · WsframeKeys: laid · WsframeGets: laid.
  DERIVED. THE GIVEN ROWS OF THIS SEAT. 5 by the template 'for every input the law returns true; each argument reads behind the call as it read before'; 0 by the template 'total and deterministic' (their statements: YtabpngcjlikpkaaDoorTotals.lean).
  GIVEN WITH THE SEED: the statements are not yours to turn. If you find one false, say at which input.
  Laid BY PROGRAM, IN A SANDBOX (cutbox-rows.mjs): the forced cells as the released guide's own fill.sh prints them over the translation b97c7c910a39096f… (all of the seat's roots in one cut). By AI agents, Wed Nov 11 2026. No macro, syntax, notation, axiom, sorry.
-/
import Derived.Test.YtabpngcjlikpkaaDoorChecked
import GoSem.Claim
import GoSem.ClaimJoined
import GoSem.ClaimMapViews
import Derived.JoinedTies
import Derived.KernelRfl
namespace Go.Proofs.YtabpngcjlikpkaaDoor
/- THE CELL 'sum', in the pinned program and in every row, IS THE sha256 OF THE DUMP (.gsa) THAT YtabpngcjlikpkaaDoorProg.lean LOADS. Nothing in Lean hashes anything: it is a label: what it is worth is what the hold of that sum in a sandbox is worth. -/
noncomputable def Tryd.pinned : Pinned := { name := "ytabpngcjlikpkaadoor", sum := "b97c7c910a39096f81cd0bcc57b8985b03d298be95cde4348f560df9634f70c1", checked := Tryd.checked }
namespace Rows
def none {H : Type} : Left H := { results := [], args := [] }

/- WHAT THE LISTED PACKAGE-LEVEL VARIABLES READ AS WHEN THE CALL BEGINS. Each datum BY PROGRAM (the guide's laid-datum.mjs) off the statement by which the dump's own 'gosem.cut.vars' lays the variable. In a bare row this is a premise. The card (YtabpngcjlikpkaaDoorCards.lean) ties it to the program's text. -/
def laid_errors_errorType {H : Type} : DataW H := .iface "internal/reflectlite.rtype" (.agg [.ptr (.lit (.string [101, 114, 114, 111, 114]))])

/-- 'louverlaw16.WsframeHead': WHATEVER THE INPUT: true; the input reads as it did. -/
def wsframeHeadSpec : ChangeSpec := { name := "wsframeHead", fn := fun _ => fun
  | [d1, d2, d3, d4, d5] => { results := [.lit (.bool true)], args := [d1, d2, d3, d4, d5] }
  | _ => none }
def wsframeHeadRow : OpenClaim := { program := "ytabpngcjlikpkaadoor", sum := "b97c7c910a39096f81cd0bcc57b8985b03d298be95cde4348f560df9634f70c1", func := "louver/louverlaw16.WsframeHead", spec := "wsframeHead", inPlace := ["internal/reflectlite.ValueOf", "(internal/reflectlite.Value).Type", "(internal/reflectlite.Value).IsNil", "internal/reflectlite.TypeOf", "(internal/reflectlite.Value).Elem", "(internal/reflectlite.Value).Set"], unfollowed := true, recurses := true, named := ["errors.errorType"], apart := false, laid := [("errors.errorType", laid_errors_errorType)] }
def WsframeHeadSaid : Prop := wsframeHeadRow.holds Tryd.pinned (OpenSpec.ofChange wsframeHeadSpec)

/-- ITS FALSE NEIGHBOUR: 'it returns false'. Refute it at one input. -/
def wsframeHeadWrong : ChangeSpec := { name := "wsframeHead", fn := fun _ => fun
  | [d1, d2, d3, d4, d5] => { results := [.lit (.bool false)], args := [d1, d2, d3, d4, d5] }
  | _ => none }
def WsframeHeadWrongFalsely : Prop := wsframeHeadRow.holds Tryd.pinned (OpenSpec.ofChange wsframeHeadWrong)

/-- 'louverlaw16.WsframeLengths': WHATEVER THE INPUT: true; the input reads as it did. -/
def wsframeLengthsSpec : ChangeSpec := { name := "wsframeLengths", fn := fun _ => fun
  | [d1, d2, d3] => { results := [.lit (.bool true)], args := [d1, d2, d3] }
  | _ => none }
def wsframeLengthsRow : OpenClaim := { program := "ytabpngcjlikpkaadoor", sum := "b97c7c910a39096f81cd0bcc57b8985b03d298be95cde4348f560df9634f70c1", func := "louver/louverlaw16.WsframeLengths", spec := "wsframeLengths", inPlace := ["internal/reflectlite.ValueOf", "(internal/reflectlite.Value).Type", "(internal/reflectlite.Value).IsNil", "internal/reflectlite.TypeOf", "(internal/reflectlite.Value).Elem", "(internal/reflectlite.Value).Set"], unfollowed := true, recurses := true, named := ["errors.errorType"], apart := false, laid := [("errors.errorType", laid_errors_errorType)] }
def WsframeLengthsSaid : Prop := wsframeLengthsRow.holds Tryd.pinned (OpenSpec.ofChange wsframeLengthsSpec)

/-- ITS FALSE NEIGHBOUR: 'it returns false'. Refute it at one input. -/
def wsframeLengthsWrong : ChangeSpec := { name := "wsframeLengths", fn := fun _ => fun
  | [d1, d2, d3] => { results := [.lit (.bool false)], args := [d1, d2, d3] }
  | _ => none }
def WsframeLengthsWrongFalsely : Prop := wsframeLengthsRow.holds Tryd.pinned (OpenSpec.ofChange wsframeLengthsWrong)

/-- 'louverlaw16.WsframePuts': WHATEVER THE INPUT: true; the input reads as it did. -/
def wsframePutsSpec : ChangeSpec := { name := "wsframePuts", fn := fun _ => fun
  | [d1, d2] => { results := [.lit (.bool true)], args := [d1, d2] }
  | _ => none }
def wsframePutsRow : OpenClaim := { program := "ytabpngcjlikpkaadoor", sum := "b97c7c910a39096f81cd0bcc57b8985b03d298be95cde4348f560df9634f70c1", func := "louver/louverlaw16.WsframePuts", spec := "wsframePuts", inPlace := ["internal/reflectlite.ValueOf", "(internal/reflectlite.Value).Type", "(internal/reflectlite.Value).IsNil", "internal/reflectlite.TypeOf", "(internal/reflectlite.Value).Elem", "(internal/reflectlite.Value).Set"], unfollowed := true, recurses := true, named := ["errors.errorType"], apart := false, laid := [("errors.errorType", laid_errors_errorType)] }
def WsframePutsSaid : Prop := wsframePutsRow.holds Tryd.pinned (OpenSpec.ofChange wsframePutsSpec)

/-- ITS FALSE NEIGHBOUR: 'it returns false'. Refute it at one input. -/
def wsframePutsWrong : ChangeSpec := { name := "wsframePuts", fn := fun _ => fun
  | [d1, d2] => { results := [.lit (.bool false)], args := [d1, d2] }
  | _ => none }
def WsframePutsWrongFalsely : Prop := wsframePutsRow.holds Tryd.pinned (OpenSpec.ofChange wsframePutsWrong)

/-- 'louverlaw16.WsframeKeys': WHATEVER THE INPUT: true; the input reads as it did. -/
def wsframeKeysSpec : ChangeSpec := { name := "wsframeKeys", fn := fun _ => fun
  | [d1, d2, d3] => { results := [.lit (.bool true)], args := [d1, d2, d3] }
  | _ => none }
def wsframeKeysRow : OpenClaim := { program := "ytabpngcjlikpkaadoor", sum := "b97c7c910a39096f81cd0bcc57b8985b03d298be95cde4348f560df9634f70c1", func := "louver/louverlaw16.WsframeKeys", spec := "wsframeKeys", inPlace := ["internal/reflectlite.ValueOf", "(internal/reflectlite.Value).Type", "(internal/reflectlite.Value).IsNil", "internal/reflectlite.TypeOf", "(internal/reflectlite.Value).Elem", "(internal/reflectlite.Value).Set"], unfollowed := true, recurses := true, named := ["errors.errorType"], apart := false, laid := [("errors.errorType", laid_errors_errorType)] }
def WsframeKeysSaid : Prop := wsframeKeysRow.holds Tryd.pinned (OpenSpec.ofChange wsframeKeysSpec)

/-- ITS FALSE NEIGHBOUR: 'it returns false'. Refute it at one input. -/
def wsframeKeysWrong : ChangeSpec := { name := "wsframeKeys", fn := fun _ => fun
  | [d1, d2, d3] => { results := [.lit (.bool false)], args := [d1, d2, d3] }
  | _ => none }
def WsframeKeysWrongFalsely : Prop := wsframeKeysRow.holds Tryd.pinned (OpenSpec.ofChange wsframeKeysWrong)

/-- 'louverlaw16.WsframeGets': WHATEVER THE INPUT: true; the input reads as it did. -/
def wsframeGetsSpec : ChangeSpec := { name := "wsframeGets", fn := fun _ => fun
  | [d1, d2] => { results := [.lit (.bool true)], args := [d1, d2] }
  | _ => none }
def wsframeGetsRow : OpenClaim := { program := "ytabpngcjlikpkaadoor", sum := "b97c7c910a39096f81cd0bcc57b8985b03d298be95cde4348f560df9634f70c1", func := "louver/louverlaw16.WsframeGets", spec := "wsframeGets", inPlace := ["internal/reflectlite.ValueOf", "(internal/reflectlite.Value).Type", "(internal/reflectlite.Value).IsNil", "internal/reflectlite.TypeOf", "(internal/reflectlite.Value).Elem", "(internal/reflectlite.Value).Set"], unfollowed := true, recurses := true, named := ["errors.errorType"], apart := false, laid := [("errors.errorType", laid_errors_errorType)] }
def WsframeGetsSaid : Prop := wsframeGetsRow.holds Tryd.pinned (OpenSpec.ofChange wsframeGetsSpec)

/-- ITS FALSE NEIGHBOUR: 'it returns false'. Refute it at one input. -/
def wsframeGetsWrong : ChangeSpec := { name := "wsframeGets", fn := fun _ => fun
  | [d1, d2] => { results := [.lit (.bool false)], args := [d1, d2] }
  | _ => none }
def WsframeGetsWrongFalsely : Prop := wsframeGetsRow.holds Tryd.pinned (OpenSpec.ofChange wsframeGetsWrong)

/- THE SECOND FORM. 'bulk': how many values and letters a reading holds, each counted each time it is reached (what is shared counts as often as it is met; a slice's spare places count too). A statement '..UptoSaid' is the law's where the arguments, and the package variables that the reading takes, are together of bulk at most 1048576: NARROWER than '..Said'. Prove '..Said' where nothing that the law and all that it calls make is longer than what came in: it says more and counts as full. Else prove '..UptoSaid'. A law counts once. -/
mutual
def uptoBulk {H : Type} : DataW H → Nat
  | .lit (.string bytes) => bytes.length + 1
  | .lit _ => 1
  | .nil => 1
  | .ptr d => uptoBulk d + 1
  | .slice elems spare => uptoBulkAll elems + uptoBulkAll spare + 1
  | .agg parts => uptoBulkAll parts + 1
  | .iface _ d => uptoBulk d + 1
  | .map entries => uptoBulkEntries entries + 1
  | .held _ => 1
def uptoBulkAll {H : Type} : List (DataW H) → Nat
  | [] => 0
  | d :: r => uptoBulk d + uptoBulkAll r
def uptoBulkEntries {H : Type} : List (Lit × DataW H) → Nat
  | [] => 0
  | x :: r => uptoBulkEntry x + uptoBulkEntries r
def uptoBulkEntry {H : Type} : Lit × DataW H → Nat
  | (.string bytes, d) => bytes.length + uptoBulk d + 1
  | (_, d) => uptoBulk d + 1
 end
def uptoSmall : (H : Type) → List (DataW H) → Bool := fun _ ds => decide (uptoBulkAll ds ≤ 1048576)
def OpenSpec.upto (s : _root_.Go.ChangeSpec) : _root_.Go.OpenSpec := { _root_.Go.OpenSpec.ofChange s with cond := some uptoSmall }

/-- 'louverlaw16.WsframeHead', WHERE WHAT IT READS IS OF BULK AT MOST 1048576: true; the input reads as it did. -/
def wsframeHeadUptoRow : OpenClaim := { program := "ytabpngcjlikpkaadoor", sum := "b97c7c910a39096f81cd0bcc57b8985b03d298be95cde4348f560df9634f70c1", func := "louver/louverlaw16.WsframeHead", spec := "wsframeHead", inPlace := ["internal/reflectlite.ValueOf", "(internal/reflectlite.Value).Type", "(internal/reflectlite.Value).IsNil", "internal/reflectlite.TypeOf", "(internal/reflectlite.Value).Elem", "(internal/reflectlite.Value).Set"], unfollowed := true, recurses := true, named := ["errors.errorType"], apart := false, laid := [("errors.errorType", laid_errors_errorType)], narrowed := true }
def WsframeHeadUptoSaid : Prop := wsframeHeadUptoRow.holds Tryd.pinned (OpenSpec.upto wsframeHeadSpec)

/-- 'louverlaw16.WsframeLengths', WHERE WHAT IT READS IS OF BULK AT MOST 1048576: true; the input reads as it did. -/
def wsframeLengthsUptoRow : OpenClaim := { program := "ytabpngcjlikpkaadoor", sum := "b97c7c910a39096f81cd0bcc57b8985b03d298be95cde4348f560df9634f70c1", func := "louver/louverlaw16.WsframeLengths", spec := "wsframeLengths", inPlace := ["internal/reflectlite.ValueOf", "(internal/reflectlite.Value).Type", "(internal/reflectlite.Value).IsNil", "internal/reflectlite.TypeOf", "(internal/reflectlite.Value).Elem", "(internal/reflectlite.Value).Set"], unfollowed := true, recurses := true, named := ["errors.errorType"], apart := false, laid := [("errors.errorType", laid_errors_errorType)], narrowed := true }
def WsframeLengthsUptoSaid : Prop := wsframeLengthsUptoRow.holds Tryd.pinned (OpenSpec.upto wsframeLengthsSpec)

/-- 'louverlaw16.WsframePuts', WHERE WHAT IT READS IS OF BULK AT MOST 1048576: true; the input reads as it did. -/
def wsframePutsUptoRow : OpenClaim := { program := "ytabpngcjlikpkaadoor", sum := "b97c7c910a39096f81cd0bcc57b8985b03d298be95cde4348f560df9634f70c1", func := "louver/louverlaw16.WsframePuts", spec := "wsframePuts", inPlace := ["internal/reflectlite.ValueOf", "(internal/reflectlite.Value).Type", "(internal/reflectlite.Value).IsNil", "internal/reflectlite.TypeOf", "(internal/reflectlite.Value).Elem", "(internal/reflectlite.Value).Set"], unfollowed := true, recurses := true, named := ["errors.errorType"], apart := false, laid := [("errors.errorType", laid_errors_errorType)], narrowed := true }
def WsframePutsUptoSaid : Prop := wsframePutsUptoRow.holds Tryd.pinned (OpenSpec.upto wsframePutsSpec)

/-- 'louverlaw16.WsframeKeys', WHERE WHAT IT READS IS OF BULK AT MOST 1048576: true; the input reads as it did. -/
def wsframeKeysUptoRow : OpenClaim := { program := "ytabpngcjlikpkaadoor", sum := "b97c7c910a39096f81cd0bcc57b8985b03d298be95cde4348f560df9634f70c1", func := "louver/louverlaw16.WsframeKeys", spec := "wsframeKeys", inPlace := ["internal/reflectlite.ValueOf", "(internal/reflectlite.Value).Type", "(internal/reflectlite.Value).IsNil", "internal/reflectlite.TypeOf", "(internal/reflectlite.Value).Elem", "(internal/reflectlite.Value).Set"], unfollowed := true, recurses := true, named := ["errors.errorType"], apart := false, laid := [("errors.errorType", laid_errors_errorType)], narrowed := true }
def WsframeKeysUptoSaid : Prop := wsframeKeysUptoRow.holds Tryd.pinned (OpenSpec.upto wsframeKeysSpec)

/-- 'louverlaw16.WsframeGets', WHERE WHAT IT READS IS OF BULK AT MOST 1048576: true; the input reads as it did. -/
def wsframeGetsUptoRow : OpenClaim := { program := "ytabpngcjlikpkaadoor", sum := "b97c7c910a39096f81cd0bcc57b8985b03d298be95cde4348f560df9634f70c1", func := "louver/louverlaw16.WsframeGets", spec := "wsframeGets", inPlace := ["internal/reflectlite.ValueOf", "(internal/reflectlite.Value).Type", "(internal/reflectlite.Value).IsNil", "internal/reflectlite.TypeOf", "(internal/reflectlite.Value).Elem", "(internal/reflectlite.Value).Set"], unfollowed := true, recurses := true, named := ["errors.errorType"], apart := false, laid := [("errors.errorType", laid_errors_errorType)], narrowed := true }
def WsframeGetsUptoSaid : Prop := wsframeGetsUptoRow.holds Tryd.pinned (OpenSpec.upto wsframeGetsSpec)

end Rows
end Go.Proofs.YtabpngcjlikpkaaDoor
