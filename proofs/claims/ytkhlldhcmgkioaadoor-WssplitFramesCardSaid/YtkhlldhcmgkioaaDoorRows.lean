/-
  NARROWER THAN 'FOR EVERY INPUT', by the rows' own cells (each row's printed sentence says how): WssplitPlays: laid · WssplitFrames: laid · WssplitNil: laid · WssplitTwo: laid.
  DERIVED. THE GIVEN ROWS OF THIS SEAT. 4 by the template 'for every input the law returns true; each argument reads behind the call as it read before'; 0 by the template 'total and deterministic' (their statements: YtkhlldhcmgkioaaDoorTotals.lean).
  GIVEN WITH THE SEED: the statements are not yours to turn. If you find one false, say at which input.
  Laid BY PROGRAM, IN A SANDBOX (cutbox-rows.mjs): the forced cells as the released guide's own fill.sh prints them over the translation 175481529f633a82… (all of the seat's roots in one cut). By AI agents, Wed Nov 11 2026. No macro, syntax, notation, axiom, sorry.
-/
import Derived.Test.YtkhlldhcmgkioaaDoorChecked
import GoSem.Claim
import GoSem.ClaimJoined
import GoSem.ClaimMapViews
import Derived.JoinedTies
import Derived.KernelRfl
namespace Go.Proofs.YtkhlldhcmgkioaaDoor
/- THE CELL 'sum', in the pinned program and in every row, IS THE sha256 OF THE DUMP (.gsa) THAT YtkhlldhcmgkioaaDoorProg.lean LOADS. Nothing in Lean hashes anything: it is a label: what it is worth is what the hold of that sum in a sandbox is worth. -/
noncomputable def Tryd.pinned : Pinned := { name := "ytkhlldhcmgkioaadoor", sum := "175481529f633a8217eb2f057f7fd10be70ea42bea551e5d92af9d02b9279c35", checked := Tryd.checked }
namespace Rows
def none {H : Type} : Left H := { results := [], args := [] }

/- WHAT THE LISTED PACKAGE-LEVEL VARIABLES READ AS WHEN THE CALL BEGINS. Each datum BY PROGRAM (the guide's laid-datum.mjs) off the statement by which the dump's own 'gosem.cut.vars' lays the variable. In a bare row this is a premise. The card (YtkhlldhcmgkioaaDoorCards.lean) ties it to the program's text. -/
def laid_errors_errorType {H : Type} : DataW H := .iface "internal/reflectlite.rtype" (.agg [.ptr (.lit (.string [101, 114, 114, 111, 114]))])

/-- 'louverlaw17.WssplitPlays': WHATEVER THE INPUT: true; the input reads as it did. -/
def wssplitPlaysSpec : ChangeSpec := { name := "wssplitPlays", fn := fun _ => fun
  | [d1, d2, d3, d4] => { results := [.lit (.bool true)], args := [d1, d2, d3, d4] }
  | _ => none }
def wssplitPlaysRow : OpenClaim := { program := "ytkhlldhcmgkioaadoor", sum := "175481529f633a8217eb2f057f7fd10be70ea42bea551e5d92af9d02b9279c35", func := "louver/louverlaw17.WssplitPlays", spec := "wssplitPlays", inPlace := ["internal/reflectlite.ValueOf", "(internal/reflectlite.Value).Type", "(internal/reflectlite.Value).IsNil", "internal/reflectlite.TypeOf", "(internal/reflectlite.Value).Elem", "(internal/reflectlite.Value).Set"], unfollowed := true, recurses := true, named := ["errors.errorType"], apart := false, laid := [("errors.errorType", laid_errors_errorType)] }
def WssplitPlaysSaid : Prop := wssplitPlaysRow.holds Tryd.pinned (OpenSpec.ofChange wssplitPlaysSpec)

/-- ITS FALSE NEIGHBOUR: 'it returns false'. Refute it at one input. -/
def wssplitPlaysWrong : ChangeSpec := { name := "wssplitPlays", fn := fun _ => fun
  | [d1, d2, d3, d4] => { results := [.lit (.bool false)], args := [d1, d2, d3, d4] }
  | _ => none }
def WssplitPlaysWrongFalsely : Prop := wssplitPlaysRow.holds Tryd.pinned (OpenSpec.ofChange wssplitPlaysWrong)

/-- 'louverlaw17.WssplitFrames': WHATEVER THE INPUT: true; the input reads as it did. -/
def wssplitFramesSpec : ChangeSpec := { name := "wssplitFrames", fn := fun _ => fun
  | [d1, d2, d3] => { results := [.lit (.bool true)], args := [d1, d2, d3] }
  | _ => none }
def wssplitFramesRow : OpenClaim := { program := "ytkhlldhcmgkioaadoor", sum := "175481529f633a8217eb2f057f7fd10be70ea42bea551e5d92af9d02b9279c35", func := "louver/louverlaw17.WssplitFrames", spec := "wssplitFrames", inPlace := ["internal/reflectlite.ValueOf", "(internal/reflectlite.Value).Type", "(internal/reflectlite.Value).IsNil", "internal/reflectlite.TypeOf", "(internal/reflectlite.Value).Elem", "(internal/reflectlite.Value).Set"], unfollowed := true, recurses := true, named := ["errors.errorType"], apart := false, laid := [("errors.errorType", laid_errors_errorType)] }
def WssplitFramesSaid : Prop := wssplitFramesRow.holds Tryd.pinned (OpenSpec.ofChange wssplitFramesSpec)

/-- ITS FALSE NEIGHBOUR: 'it returns false'. Refute it at one input. -/
def wssplitFramesWrong : ChangeSpec := { name := "wssplitFrames", fn := fun _ => fun
  | [d1, d2, d3] => { results := [.lit (.bool false)], args := [d1, d2, d3] }
  | _ => none }
def WssplitFramesWrongFalsely : Prop := wssplitFramesRow.holds Tryd.pinned (OpenSpec.ofChange wssplitFramesWrong)

/-- 'louverlaw17.WssplitNil': WHATEVER THE INPUT: true; the input reads as it did. -/
def wssplitNilSpec : ChangeSpec := { name := "wssplitNil", fn := fun _ => fun
  | [d] => { results := [.lit (.bool true)], args := [d] }
  | _ => none }
def wssplitNilRow : OpenClaim := { program := "ytkhlldhcmgkioaadoor", sum := "175481529f633a8217eb2f057f7fd10be70ea42bea551e5d92af9d02b9279c35", func := "louver/louverlaw17.WssplitNil", spec := "wssplitNil", inPlace := ["internal/reflectlite.ValueOf", "(internal/reflectlite.Value).Type", "(internal/reflectlite.Value).IsNil", "internal/reflectlite.TypeOf", "(internal/reflectlite.Value).Elem", "(internal/reflectlite.Value).Set"], unfollowed := true, recurses := true, named := ["errors.errorType"], apart := false, laid := [("errors.errorType", laid_errors_errorType)] }
def WssplitNilSaid : Prop := wssplitNilRow.holds Tryd.pinned (OpenSpec.ofChange wssplitNilSpec)

/-- ITS FALSE NEIGHBOUR: 'it returns false'. Refute it at one input. -/
def wssplitNilWrong : ChangeSpec := { name := "wssplitNil", fn := fun _ => fun
  | [d] => { results := [.lit (.bool false)], args := [d] }
  | _ => none }
def WssplitNilWrongFalsely : Prop := wssplitNilRow.holds Tryd.pinned (OpenSpec.ofChange wssplitNilWrong)

/-- 'louverlaw17.WssplitTwo': WHATEVER THE INPUT: true; the input reads as it did. -/
def wssplitTwoSpec : ChangeSpec := { name := "wssplitTwo", fn := fun _ => fun
  | [d1, d2, d3] => { results := [.lit (.bool true)], args := [d1, d2, d3] }
  | _ => none }
def wssplitTwoRow : OpenClaim := { program := "ytkhlldhcmgkioaadoor", sum := "175481529f633a8217eb2f057f7fd10be70ea42bea551e5d92af9d02b9279c35", func := "louver/louverlaw17.WssplitTwo", spec := "wssplitTwo", inPlace := ["internal/reflectlite.ValueOf", "(internal/reflectlite.Value).Type", "(internal/reflectlite.Value).IsNil", "internal/reflectlite.TypeOf", "(internal/reflectlite.Value).Elem", "(internal/reflectlite.Value).Set"], unfollowed := true, recurses := true, named := ["errors.errorType"], apart := false, laid := [("errors.errorType", laid_errors_errorType)] }
def WssplitTwoSaid : Prop := wssplitTwoRow.holds Tryd.pinned (OpenSpec.ofChange wssplitTwoSpec)

/-- ITS FALSE NEIGHBOUR: 'it returns false'. Refute it at one input. -/
def wssplitTwoWrong : ChangeSpec := { name := "wssplitTwo", fn := fun _ => fun
  | [d1, d2, d3] => { results := [.lit (.bool false)], args := [d1, d2, d3] }
  | _ => none }
def WssplitTwoWrongFalsely : Prop := wssplitTwoRow.holds Tryd.pinned (OpenSpec.ofChange wssplitTwoWrong)

/- THE SECOND FORM. 'bulk': how many values and letters a reading holds, each counted each time it is reached (what is shared counts as often as it is met; a slice's spare places count too). A statement '..UptoSaid' is the law's where the arguments, and the package variables that the reading takes, are together of bulk at most 1048576: NARROWER than '..Said'. Prove '..Said' where nothing that the law and all that it calls make is longer than what came in: it says more and counts as full. Else prove '..UptoSaid'. A law counts once. -/
mutual
def uptoBulk {H : Type} : DataW H → Nat
  | .lit (.string bytes) => bytes.length + 1
  | .lit _ => 1
  | .nil => 1
  | .ptr d => uptoBulk d + 1
  | .slice elems spare => uptoBulkAll elems + uptoBulkAll spare + 1
  | .agg parts => uptoBulkAll parts + 1
  | .iface _ d => uptoBulk d + 1
  | .map entries => uptoBulkEntries entries + 1
  | .held _ => 1
def uptoBulkAll {H : Type} : List (DataW H) → Nat
  | [] => 0
  | d :: r => uptoBulk d + uptoBulkAll r
def uptoBulkEntries {H : Type} : List (Lit × DataW H) → Nat
  | [] => 0
  | x :: r => uptoBulkEntry x + uptoBulkEntries r
def uptoBulkEntry {H : Type} : Lit × DataW H → Nat
  | (.string bytes, d) => bytes.length + uptoBulk d + 1
  | (_, d) => uptoBulk d + 1
 end
def uptoSmall : (H : Type) → List (DataW H) → Bool := fun _ ds => decide (uptoBulkAll ds ≤ 1048576)
def OpenSpec.upto (s : _root_.Go.ChangeSpec) : _root_.Go.OpenSpec := { _root_.Go.OpenSpec.ofChange s with cond := some uptoSmall }

/-- 'louverlaw17.WssplitPlays', WHERE WHAT IT READS IS OF BULK AT MOST 1048576: true; the input reads as it did. -/
def wssplitPlaysUptoRow : OpenClaim := { program := "ytkhlldhcmgkioaadoor", sum := "175481529f633a8217eb2f057f7fd10be70ea42bea551e5d92af9d02b9279c35", func := "louver/louverlaw17.WssplitPlays", spec := "wssplitPlays", inPlace := ["internal/reflectlite.ValueOf", "(internal/reflectlite.Value).Type", "(internal/reflectlite.Value).IsNil", "internal/reflectlite.TypeOf", "(internal/reflectlite.Value).Elem", "(internal/reflectlite.Value).Set"], unfollowed := true, recurses := true, named := ["errors.errorType"], apart := false, laid := [("errors.errorType", laid_errors_errorType)], narrowed := true }
def WssplitPlaysUptoSaid : Prop := wssplitPlaysUptoRow.holds Tryd.pinned (OpenSpec.upto wssplitPlaysSpec)

/-- 'louverlaw17.WssplitFrames', WHERE WHAT IT READS IS OF BULK AT MOST 1048576: true; the input reads as it did. -/
def wssplitFramesUptoRow : OpenClaim := { program := "ytkhlldhcmgkioaadoor", sum := "175481529f633a8217eb2f057f7fd10be70ea42bea551e5d92af9d02b9279c35", func := "louver/louverlaw17.WssplitFrames", spec := "wssplitFrames", inPlace := ["internal/reflectlite.ValueOf", "(internal/reflectlite.Value).Type", "(internal/reflectlite.Value).IsNil", "internal/reflectlite.TypeOf", "(internal/reflectlite.Value).Elem", "(internal/reflectlite.Value).Set"], unfollowed := true, recurses := true, named := ["errors.errorType"], apart := false, laid := [("errors.errorType", laid_errors_errorType)], narrowed := true }
def WssplitFramesUptoSaid : Prop := wssplitFramesUptoRow.holds Tryd.pinned (OpenSpec.upto wssplitFramesSpec)

/-- 'louverlaw17.WssplitNil', WHERE WHAT IT READS IS OF BULK AT MOST 1048576: true; the input reads as it did. -/
def wssplitNilUptoRow : OpenClaim := { program := "ytkhlldhcmgkioaadoor", sum := "175481529f633a8217eb2f057f7fd10be70ea42bea551e5d92af9d02b9279c35", func := "louver/louverlaw17.WssplitNil", spec := "wssplitNil", inPlace := ["internal/reflectlite.ValueOf", "(internal/reflectlite.Value).Type", "(internal/reflectlite.Value).IsNil", "internal/reflectlite.TypeOf", "(internal/reflectlite.Value).Elem", "(internal/reflectlite.Value).Set"], unfollowed := true, recurses := true, named := ["errors.errorType"], apart := false, laid := [("errors.errorType", laid_errors_errorType)], narrowed := true }
def WssplitNilUptoSaid : Prop := wssplitNilUptoRow.holds Tryd.pinned (OpenSpec.upto wssplitNilSpec)

/-- 'louverlaw17.WssplitTwo', WHERE WHAT IT READS IS OF BULK AT MOST 1048576: true; the input reads as it did. -/
def wssplitTwoUptoRow : OpenClaim := { program := "ytkhlldhcmgkioaadoor", sum := "175481529f633a8217eb2f057f7fd10be70ea42bea551e5d92af9d02b9279c35", func := "louver/louverlaw17.WssplitTwo", spec := "wssplitTwo", inPlace := ["internal/reflectlite.ValueOf", "(internal/reflectlite.Value).Type", "(internal/reflectlite.Value).IsNil", "internal/reflectlite.TypeOf", "(internal/reflectlite.Value).Elem", "(internal/reflectlite.Value).Set"], unfollowed := true, recurses := true, named := ["errors.errorType"], apart := false, laid := [("errors.errorType", laid_errors_errorType)], narrowed := true }
def WssplitTwoUptoSaid : Prop := wssplitTwoUptoRow.holds Tryd.pinned (OpenSpec.upto wssplitTwoSpec)

end Rows
end Go.Proofs.YtkhlldhcmgkioaaDoor
