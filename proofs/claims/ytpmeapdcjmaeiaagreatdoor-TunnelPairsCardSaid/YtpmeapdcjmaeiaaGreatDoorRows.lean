/-
  NARROWER THAN 'FOR EVERY INPUT', by the rows' own cells (each row's printed sentence says how): TunnelKeys: laid · TunnelPairs: laid · TunnelNil: laid · TunnelPlays: laid.
  DERIVED. THE GIVEN ROWS OF THIS SEAT. 4 by the template 'for every input the law returns true; each argument reads behind the call as it read before'; 0 by the template 'total and deterministic' (their statements: YtpmeapdcjmaeiaaGreatDoorTotals.lean).
  GIVEN WITH THE SEED: the statements are not yours to turn. If you find one false, say at which input.
  Laid BY PROGRAM, IN A SANDBOX (cutbox-rows.mjs): the forced cells as the released guide's own fill.sh prints them over the translation 97630a46a0fc1b1c… (all of the seat's roots in one cut). By AI agents, Wed Nov 11 2026. No macro, syntax, notation, axiom, sorry.
-/
import Derived.Test.YtpmeapdcjmaeiaaGreatDoorChecked
import GoSem.Claim
import GoSem.ClaimJoined
import GoSem.ClaimMapViews
import Derived.JoinedTies
import Derived.KernelRfl
namespace Go.Proofs.YtpmeapdcjmaeiaaGreatDoor
/- THE CELL 'sum', in the pinned program and in every row, IS THE sha256 OF THE DUMP (.gsa) THAT YtpmeapdcjmaeiaaGreatDoorProg.lean LOADS. Nothing in Lean hashes anything: it is a label: what it is worth is what the hold of that sum in a sandbox is worth. -/
noncomputable def Tryz.pinned : Pinned := { name := "ytpmeapdcjmaeiaagreatdoor", sum := "97630a46a0fc1b1c477630023ecc2d91bf434d42989bdffe3e68e13c67101f11", checked := Tryz.checked }
namespace Rows
def none {H : Type} : Left H := { results := [], args := [] }

/- WHAT THE LISTED PACKAGE-LEVEL VARIABLES READ AS WHEN THE CALL BEGINS. Each datum BY PROGRAM (the guide's laid-datum.mjs) off the statement by which the dump's own 'gosem.cut.vars' lays the variable. In a bare row this is a premise. The card (YtpmeapdcjmaeiaaGreatDoorCards.lean) ties it to the program's text. -/
def laid_errors_errorType {H : Type} : DataW H := .iface "internal/reflectlite.rtype" (.agg [.ptr (.lit (.string [101, 114, 114, 111, 114]))])

/-- 'louverlaw20.TunnelKeys': WHATEVER THE INPUT: true; the input reads as it did. -/
def tunnelKeysSpec : ChangeSpec := { name := "tunnelKeys", fn := fun _ => fun
  | [d1, d2, d3, d4, d5, d6] => { results := [.lit (.bool true)], args := [d1, d2, d3, d4, d5, d6] }
  | _ => none }
def tunnelKeysRow : OpenClaim := { program := "ytpmeapdcjmaeiaagreatdoor", sum := "97630a46a0fc1b1c477630023ecc2d91bf434d42989bdffe3e68e13c67101f11", func := "louver/louverlaw20.TunnelKeys", spec := "tunnelKeys", inPlace := ["internal/reflectlite.ValueOf", "(internal/reflectlite.Value).Type", "(internal/reflectlite.Value).IsNil", "internal/reflectlite.TypeOf", "(internal/reflectlite.Value).Elem", "(internal/reflectlite.Value).Set"], unfollowed := true, recurses := true, named := ["errors.errorType"], apart := false, laid := [("errors.errorType", laid_errors_errorType)] }
def TunnelKeysSaid : Prop := tunnelKeysRow.holds Tryz.pinned (OpenSpec.ofChange tunnelKeysSpec)

/-- ITS FALSE NEIGHBOUR: 'it returns false'. Refute it at one input. -/
def tunnelKeysWrong : ChangeSpec := { name := "tunnelKeys", fn := fun _ => fun
  | [d1, d2, d3, d4, d5, d6] => { results := [.lit (.bool false)], args := [d1, d2, d3, d4, d5, d6] }
  | _ => none }
def TunnelKeysWrongFalsely : Prop := tunnelKeysRow.holds Tryz.pinned (OpenSpec.ofChange tunnelKeysWrong)

/-- 'louverlaw20.TunnelPairs': WHATEVER THE INPUT: true; the input reads as it did. -/
def tunnelPairsSpec : ChangeSpec := { name := "tunnelPairs", fn := fun _ => fun
  | [d1, d2, d3, d4, d5, d6] => { results := [.lit (.bool true)], args := [d1, d2, d3, d4, d5, d6] }
  | _ => none }
def tunnelPairsRow : OpenClaim := { program := "ytpmeapdcjmaeiaagreatdoor", sum := "97630a46a0fc1b1c477630023ecc2d91bf434d42989bdffe3e68e13c67101f11", func := "louver/louverlaw20.TunnelPairs", spec := "tunnelPairs", inPlace := ["internal/reflectlite.ValueOf", "(internal/reflectlite.Value).Type", "(internal/reflectlite.Value).IsNil", "internal/reflectlite.TypeOf", "(internal/reflectlite.Value).Elem", "(internal/reflectlite.Value).Set"], unfollowed := true, recurses := true, named := ["errors.errorType"], apart := false, laid := [("errors.errorType", laid_errors_errorType)] }
def TunnelPairsSaid : Prop := tunnelPairsRow.holds Tryz.pinned (OpenSpec.ofChange tunnelPairsSpec)

/-- ITS FALSE NEIGHBOUR: 'it returns false'. Refute it at one input. -/
def tunnelPairsWrong : ChangeSpec := { name := "tunnelPairs", fn := fun _ => fun
  | [d1, d2, d3, d4, d5, d6] => { results := [.lit (.bool false)], args := [d1, d2, d3, d4, d5, d6] }
  | _ => none }
def TunnelPairsWrongFalsely : Prop := tunnelPairsRow.holds Tryz.pinned (OpenSpec.ofChange tunnelPairsWrong)

/-- 'louverlaw20.TunnelNil': WHATEVER THE INPUT: true; the input reads as it did. -/
def tunnelNilSpec : ChangeSpec := { name := "tunnelNil", fn := fun _ => fun
  | [d] => { results := [.lit (.bool true)], args := [d] }
  | _ => none }
def tunnelNilRow : OpenClaim := { program := "ytpmeapdcjmaeiaagreatdoor", sum := "97630a46a0fc1b1c477630023ecc2d91bf434d42989bdffe3e68e13c67101f11", func := "louver/louverlaw20.TunnelNil", spec := "tunnelNil", inPlace := ["internal/reflectlite.ValueOf", "(internal/reflectlite.Value).Type", "(internal/reflectlite.Value).IsNil", "internal/reflectlite.TypeOf", "(internal/reflectlite.Value).Elem", "(internal/reflectlite.Value).Set"], unfollowed := true, recurses := true, named := ["errors.errorType"], apart := false, laid := [("errors.errorType", laid_errors_errorType)] }
def TunnelNilSaid : Prop := tunnelNilRow.holds Tryz.pinned (OpenSpec.ofChange tunnelNilSpec)

/-- ITS FALSE NEIGHBOUR: 'it returns false'. Refute it at one input. -/
def tunnelNilWrong : ChangeSpec := { name := "tunnelNil", fn := fun _ => fun
  | [d] => { results := [.lit (.bool false)], args := [d] }
  | _ => none }
def TunnelNilWrongFalsely : Prop := tunnelNilRow.holds Tryz.pinned (OpenSpec.ofChange tunnelNilWrong)

/-- 'louverlaw20.TunnelPlays': WHATEVER THE INPUT: true; the input reads as it did. -/
def tunnelPlaysSpec : ChangeSpec := { name := "tunnelPlays", fn := fun _ => fun
  | [d1, d2, d3] => { results := [.lit (.bool true)], args := [d1, d2, d3] }
  | _ => none }
def tunnelPlaysRow : OpenClaim := { program := "ytpmeapdcjmaeiaagreatdoor", sum := "97630a46a0fc1b1c477630023ecc2d91bf434d42989bdffe3e68e13c67101f11", func := "louver/louverlaw20.TunnelPlays", spec := "tunnelPlays", inPlace := ["internal/reflectlite.ValueOf", "(internal/reflectlite.Value).Type", "(internal/reflectlite.Value).IsNil", "internal/reflectlite.TypeOf", "(internal/reflectlite.Value).Elem", "(internal/reflectlite.Value).Set"], unfollowed := true, recurses := true, named := ["errors.errorType"], apart := false, laid := [("errors.errorType", laid_errors_errorType)] }
def TunnelPlaysSaid : Prop := tunnelPlaysRow.holds Tryz.pinned (OpenSpec.ofChange tunnelPlaysSpec)

/-- ITS FALSE NEIGHBOUR: 'it returns false'. Refute it at one input. -/
def tunnelPlaysWrong : ChangeSpec := { name := "tunnelPlays", fn := fun _ => fun
  | [d1, d2, d3] => { results := [.lit (.bool false)], args := [d1, d2, d3] }
  | _ => none }
def TunnelPlaysWrongFalsely : Prop := tunnelPlaysRow.holds Tryz.pinned (OpenSpec.ofChange tunnelPlaysWrong)

/- THE SECOND FORM. 'bulk': how many values and letters a reading holds, each counted each time it is reached (what is shared counts as often as it is met; a slice's spare places count too). A statement '..UptoSaid' is the law's where the arguments, and the package variables that the reading takes, are together of bulk at most 1048576: NARROWER than '..Said'. Prove '..Said' where nothing that the law and all that it calls make is longer than what came in: it says more and counts as full. Else prove '..UptoSaid'. A law counts once. -/
mutual
def uptoBulk {H : Type} : DataW H → Nat
  | .lit (.string bytes) => bytes.length + 1
  | .lit _ => 1
  | .nil => 1
  | .ptr d => uptoBulk d + 1
  | .slice elems spare => uptoBulkAll elems + uptoBulkAll spare + 1
  | .agg parts => uptoBulkAll parts + 1
  | .iface _ d => uptoBulk d + 1
  | .map entries => uptoBulkEntries entries + 1
  | .held _ => 1
def uptoBulkAll {H : Type} : List (DataW H) → Nat
  | [] => 0
  | d :: r => uptoBulk d + uptoBulkAll r
def uptoBulkEntries {H : Type} : List (Lit × DataW H) → Nat
  | [] => 0
  | x :: r => uptoBulkEntry x + uptoBulkEntries r
def uptoBulkEntry {H : Type} : Lit × DataW H → Nat
  | (.string bytes, d) => bytes.length + uptoBulk d + 1
  | (_, d) => uptoBulk d + 1
 end
def uptoSmall : (H : Type) → List (DataW H) → Bool := fun _ ds => decide (uptoBulkAll ds ≤ 1048576)
def OpenSpec.upto (s : _root_.Go.ChangeSpec) : _root_.Go.OpenSpec := { _root_.Go.OpenSpec.ofChange s with cond := some uptoSmall }

/-- 'louverlaw20.TunnelKeys', WHERE WHAT IT READS IS OF BULK AT MOST 1048576: true; the input reads as it did. -/
def tunnelKeysUptoRow : OpenClaim := { program := "ytpmeapdcjmaeiaagreatdoor", sum := "97630a46a0fc1b1c477630023ecc2d91bf434d42989bdffe3e68e13c67101f11", func := "louver/louverlaw20.TunnelKeys", spec := "tunnelKeys", inPlace := ["internal/reflectlite.ValueOf", "(internal/reflectlite.Value).Type", "(internal/reflectlite.Value).IsNil", "internal/reflectlite.TypeOf", "(internal/reflectlite.Value).Elem", "(internal/reflectlite.Value).Set"], unfollowed := true, recurses := true, named := ["errors.errorType"], apart := false, laid := [("errors.errorType", laid_errors_errorType)], narrowed := true }
def TunnelKeysUptoSaid : Prop := tunnelKeysUptoRow.holds Tryz.pinned (OpenSpec.upto tunnelKeysSpec)

/-- 'louverlaw20.TunnelPairs', WHERE WHAT IT READS IS OF BULK AT MOST 1048576: true; the input reads as it did. -/
def tunnelPairsUptoRow : OpenClaim := { program := "ytpmeapdcjmaeiaagreatdoor", sum := "97630a46a0fc1b1c477630023ecc2d91bf434d42989bdffe3e68e13c67101f11", func := "louver/louverlaw20.TunnelPairs", spec := "tunnelPairs", inPlace := ["internal/reflectlite.ValueOf", "(internal/reflectlite.Value).Type", "(internal/reflectlite.Value).IsNil", "internal/reflectlite.TypeOf", "(internal/reflectlite.Value).Elem", "(internal/reflectlite.Value).Set"], unfollowed := true, recurses := true, named := ["errors.errorType"], apart := false, laid := [("errors.errorType", laid_errors_errorType)], narrowed := true }
def TunnelPairsUptoSaid : Prop := tunnelPairsUptoRow.holds Tryz.pinned (OpenSpec.upto tunnelPairsSpec)

/-- 'louverlaw20.TunnelNil', WHERE WHAT IT READS IS OF BULK AT MOST 1048576: true; the input reads as it did. -/
def tunnelNilUptoRow : OpenClaim := { program := "ytpmeapdcjmaeiaagreatdoor", sum := "97630a46a0fc1b1c477630023ecc2d91bf434d42989bdffe3e68e13c67101f11", func := "louver/louverlaw20.TunnelNil", spec := "tunnelNil", inPlace := ["internal/reflectlite.ValueOf", "(internal/reflectlite.Value).Type", "(internal/reflectlite.Value).IsNil", "internal/reflectlite.TypeOf", "(internal/reflectlite.Value).Elem", "(internal/reflectlite.Value).Set"], unfollowed := true, recurses := true, named := ["errors.errorType"], apart := false, laid := [("errors.errorType", laid_errors_errorType)], narrowed := true }
def TunnelNilUptoSaid : Prop := tunnelNilUptoRow.holds Tryz.pinned (OpenSpec.upto tunnelNilSpec)

/-- 'louverlaw20.TunnelPlays', WHERE WHAT IT READS IS OF BULK AT MOST 1048576: true; the input reads as it did. -/
def tunnelPlaysUptoRow : OpenClaim := { program := "ytpmeapdcjmaeiaagreatdoor", sum := "97630a46a0fc1b1c477630023ecc2d91bf434d42989bdffe3e68e13c67101f11", func := "louver/louverlaw20.TunnelPlays", spec := "tunnelPlays", inPlace := ["internal/reflectlite.ValueOf", "(internal/reflectlite.Value).Type", "(internal/reflectlite.Value).IsNil", "internal/reflectlite.TypeOf", "(internal/reflectlite.Value).Elem", "(internal/reflectlite.Value).Set"], unfollowed := true, recurses := true, named := ["errors.errorType"], apart := false, laid := [("errors.errorType", laid_errors_errorType)], narrowed := true }
def TunnelPlaysUptoSaid : Prop := tunnelPlaysUptoRow.holds Tryz.pinned (OpenSpec.upto tunnelPlaysSpec)

end Rows
end Go.Proofs.YtpmeapdcjmaeiaaGreatDoor
