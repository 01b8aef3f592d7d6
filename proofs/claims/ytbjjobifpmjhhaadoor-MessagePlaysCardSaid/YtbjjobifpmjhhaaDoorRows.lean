/-
  NARROWER THAN 'FOR EVERY INPUT', by the rows' own cells (each row's printed sentence says how): MessageCloses: laid · MessagePlays: laid · MessageNil: laid · MessageCuts: laid · MessageRow: laid · MessageGreat: laid.
  DERIVED. THE GIVEN ROWS OF THIS SEAT. 6 by the template 'for every input the law returns true; each argument reads behind the call as it read before'; 0 by the template 'total and deterministic' (their statements: YtbjjobifpmjhhaaDoorTotals.lean).
  GIVEN WITH THE SEED: the statements are not yours to turn. If you find one false, say at which input.
  Laid BY PROGRAM, IN A SANDBOX (cutbox-rows.mjs): the forced cells as the released guide's own fill.sh prints them over the translation 2b305d0308750f91… (all of the seat's roots in one cut). By AI agents, Wed Nov 11 2026. No macro, syntax, notation, axiom, sorry.
-/
import Derived.Test.YtbjjobifpmjhhaaDoorChecked
import GoSem.Claim
import GoSem.ClaimJoined
import GoSem.ClaimMapViews
import Derived.JoinedTies
import Derived.KernelRfl
namespace Go.Proofs.YtbjjobifpmjhhaaDoor
/- THE CELL 'sum', in the pinned program and in every row, IS THE sha256 OF THE DUMP (.gsa) THAT YtbjjobifpmjhhaaDoorProg.lean LOADS. Nothing in Lean hashes anything: it is a label: what it is worth is what the hold of that sum in a sandbox is worth. -/
noncomputable def Tryd.pinned : Pinned := { name := "ytbjjobifpmjhhaadoor", sum := "2b305d0308750f91438e9791c57eda5246d27ec157b1ef886cbea12222b2eabc", checked := Tryd.checked }
namespace Rows
def none {H : Type} : Left H := { results := [], args := [] }

/- WHAT THE LISTED PACKAGE-LEVEL VARIABLES READ AS WHEN THE CALL BEGINS. Each datum BY PROGRAM (the guide's laid-datum.mjs) off the statement by which the dump's own 'gosem.cut.vars' lays the variable. In a bare row this is a premise. The card (YtbjjobifpmjhhaaDoorCards.lean) ties it to the program's text. -/
def laid_errors_errorType {H : Type} : DataW H := .iface "internal/reflectlite.rtype" (.agg [.ptr (.lit (.string [101, 114, 114, 111, 114]))])

/-- 'louverlaw18.MessageCloses': WHATEVER THE INPUT: true; the input reads as it did. -/
def messageClosesSpec : ChangeSpec := { name := "messageCloses", fn := fun _ => fun
  | [d1, d2] => { results := [.lit (.bool true)], args := [d1, d2] }
  | _ => none }
def messageClosesRow : OpenClaim := { program := "ytbjjobifpmjhhaadoor", sum := "2b305d0308750f91438e9791c57eda5246d27ec157b1ef886cbea12222b2eabc", func := "louver/louverlaw18.MessageCloses", spec := "messageCloses", inPlace := ["internal/reflectlite.ValueOf", "(internal/reflectlite.Value).Type", "(internal/reflectlite.Value).IsNil", "internal/reflectlite.TypeOf", "(internal/reflectlite.Value).Elem", "(internal/reflectlite.Value).Set"], unfollowed := true, recurses := true, named := ["errors.errorType"], apart := false, laid := [("errors.errorType", laid_errors_errorType)] }
def MessageClosesSaid : Prop := messageClosesRow.holds Tryd.pinned (OpenSpec.ofChange messageClosesSpec)

/-- ITS FALSE NEIGHBOUR: 'it returns false'. Refute it at one input. -/
def messageClosesWrong : ChangeSpec := { name := "messageCloses", fn := fun _ => fun
  | [d1, d2] => { results := [.lit (.bool false)], args := [d1, d2] }
  | _ => none }
def MessageClosesWrongFalsely : Prop := messageClosesRow.holds Tryd.pinned (OpenSpec.ofChange messageClosesWrong)

/-- 'louverlaw18.MessagePlays': WHATEVER THE INPUT: true; the input reads as it did. -/
def messagePlaysSpec : ChangeSpec := { name := "messagePlays", fn := fun _ => fun
  | [d] => { results := [.lit (.bool true)], args := [d] }
  | _ => none }
def messagePlaysRow : OpenClaim := { program := "ytbjjobifpmjhhaadoor", sum := "2b305d0308750f91438e9791c57eda5246d27ec157b1ef886cbea12222b2eabc", func := "louver/louverlaw18.MessagePlays", spec := "messagePlays", inPlace := ["internal/reflectlite.ValueOf", "(internal/reflectlite.Value).Type", "(internal/reflectlite.Value).IsNil", "internal/reflectlite.TypeOf", "(internal/reflectlite.Value).Elem", "(internal/reflectlite.Value).Set"], unfollowed := true, recurses := true, named := ["errors.errorType"], apart := false, laid := [("errors.errorType", laid_errors_errorType)] }
def MessagePlaysSaid : Prop := messagePlaysRow.holds Tryd.pinned (OpenSpec.ofChange messagePlaysSpec)

/-- ITS FALSE NEIGHBOUR: 'it returns false'. Refute it at one input. -/
def messagePlaysWrong : ChangeSpec := { name := "messagePlays", fn := fun _ => fun
  | [d] => { results := [.lit (.bool false)], args := [d] }
  | _ => none }
def MessagePlaysWrongFalsely : Prop := messagePlaysRow.holds Tryd.pinned (OpenSpec.ofChange messagePlaysWrong)

/-- 'louverlaw18.MessageNil': WHATEVER THE INPUT: true; the input reads as it did. -/
def messageNilSpec : ChangeSpec := { name := "messageNil", fn := fun _ => fun
  | [d] => { results := [.lit (.bool true)], args := [d] }
  | _ => none }
def messageNilRow : OpenClaim := { program := "ytbjjobifpmjhhaadoor", sum := "2b305d0308750f91438e9791c57eda5246d27ec157b1ef886cbea12222b2eabc", func := "louver/louverlaw18.MessageNil", spec := "messageNil", inPlace := ["internal/reflectlite.ValueOf", "(internal/reflectlite.Value).Type", "(internal/reflectlite.Value).IsNil", "internal/reflectlite.TypeOf", "(internal/reflectlite.Value).Elem", "(internal/reflectlite.Value).Set"], unfollowed := true, recurses := true, named := ["errors.errorType"], apart := false, laid := [("errors.errorType", laid_errors_errorType)] }
def MessageNilSaid : Prop := messageNilRow.holds Tryd.pinned (OpenSpec.ofChange messageNilSpec)

/-- ITS FALSE NEIGHBOUR: 'it returns false'. Refute it at one input. -/
def messageNilWrong : ChangeSpec := { name := "messageNil", fn := fun _ => fun
  | [d] => { results := [.lit (.bool false)], args := [d] }
  | _ => none }
def MessageNilWrongFalsely : Prop := messageNilRow.holds Tryd.pinned (OpenSpec.ofChange messageNilWrong)

/-- 'louverlaw18.MessageCuts': WHATEVER THE INPUT: true; the input reads as it did. -/
def messageCutsSpec : ChangeSpec := { name := "messageCuts", fn := fun _ => fun
  | [d1, d2, d3, d4] => { results := [.lit (.bool true)], args := [d1, d2, d3, d4] }
  | _ => none }
def messageCutsRow : OpenClaim := { program := "ytbjjobifpmjhhaadoor", sum := "2b305d0308750f91438e9791c57eda5246d27ec157b1ef886cbea12222b2eabc", func := "louver/louverlaw18.MessageCuts", spec := "messageCuts", inPlace := ["internal/reflectlite.ValueOf", "(internal/reflectlite.Value).Type", "(internal/reflectlite.Value).IsNil", "internal/reflectlite.TypeOf", "(internal/reflectlite.Value).Elem", "(internal/reflectlite.Value).Set"], unfollowed := true, recurses := true, named := ["errors.errorType"], apart := false, laid := [("errors.errorType", laid_errors_errorType)] }
def MessageCutsSaid : Prop := messageCutsRow.holds Tryd.pinned (OpenSpec.ofChange messageCutsSpec)

/-- ITS FALSE NEIGHBOUR: 'it returns false'. Refute it at one input. -/
def messageCutsWrong : ChangeSpec := { name := "messageCuts", fn := fun _ => fun
  | [d1, d2, d3, d4] => { results := [.lit (.bool false)], args := [d1, d2, d3, d4] }
  | _ => none }
def MessageCutsWrongFalsely : Prop := messageCutsRow.holds Tryd.pinned (OpenSpec.ofChange messageCutsWrong)

/-- 'louverlaw18.MessageRow': WHATEVER THE INPUT: true; the input reads as it did. -/
def messageRowSpec : ChangeSpec := { name := "messageRow", fn := fun _ => fun
  | [d1, d2, d3] => { results := [.lit (.bool true)], args := [d1, d2, d3] }
  | _ => none }
def messageRowRow : OpenClaim := { program := "ytbjjobifpmjhhaadoor", sum := "2b305d0308750f91438e9791c57eda5246d27ec157b1ef886cbea12222b2eabc", func := "louver/louverlaw18.MessageRow", spec := "messageRow", inPlace := ["internal/reflectlite.ValueOf", "(internal/reflectlite.Value).Type", "(internal/reflectlite.Value).IsNil", "internal/reflectlite.TypeOf", "(internal/reflectlite.Value).Elem", "(internal/reflectlite.Value).Set"], unfollowed := true, recurses := true, named := ["errors.errorType"], apart := false, laid := [("errors.errorType", laid_errors_errorType)] }
def MessageRowSaid : Prop := messageRowRow.holds Tryd.pinned (OpenSpec.ofChange messageRowSpec)

/-- ITS FALSE NEIGHBOUR: 'it returns false'. Refute it at one input. -/
def messageRowWrong : ChangeSpec := { name := "messageRow", fn := fun _ => fun
  | [d1, d2, d3] => { results := [.lit (.bool false)], args := [d1, d2, d3] }
  | _ => none }
def MessageRowWrongFalsely : Prop := messageRowRow.holds Tryd.pinned (OpenSpec.ofChange messageRowWrong)

/-- 'louverlaw18.MessageGreat': WHATEVER THE INPUT: true; the input reads as it did. -/
def messageGreatSpec : ChangeSpec := { name := "messageGreat", fn := fun _ => fun
  | [d1, d2] => { results := [.lit (.bool true)], args := [d1, d2] }
  | _ => none }
def messageGreatRow : OpenClaim := { program := "ytbjjobifpmjhhaadoor", sum := "2b305d0308750f91438e9791c57eda5246d27ec157b1ef886cbea12222b2eabc", func := "louver/louverlaw18.MessageGreat", spec := "messageGreat", inPlace := ["internal/reflectlite.ValueOf", "(internal/reflectlite.Value).Type", "(internal/reflectlite.Value).IsNil", "internal/reflectlite.TypeOf", "(internal/reflectlite.Value).Elem", "(internal/reflectlite.Value).Set"], unfollowed := true, recurses := true, named := ["errors.errorType"], apart := false, laid := [("errors.errorType", laid_errors_errorType)] }
def MessageGreatSaid : Prop := messageGreatRow.holds Tryd.pinned (OpenSpec.ofChange messageGreatSpec)

/-- ITS FALSE NEIGHBOUR: 'it returns false'. Refute it at one input. -/
def messageGreatWrong : ChangeSpec := { name := "messageGreat", fn := fun _ => fun
  | [d1, d2] => { results := [.lit (.bool false)], args := [d1, d2] }
  | _ => none }
def MessageGreatWrongFalsely : Prop := messageGreatRow.holds Tryd.pinned (OpenSpec.ofChange messageGreatWrong)

/- THE SECOND FORM. 'bulk': how many values and letters a reading holds, each counted each time it is reached (what is shared counts as often as it is met; a slice's spare places count too). A statement '..UptoSaid' is the law's where the arguments, and the package variables that the reading takes, are together of bulk at most 1048576: NARROWER than '..Said'. Prove '..Said' where nothing that the law and all that it calls make is longer than what came in: it says more and counts as full. Else prove '..UptoSaid'. A law counts once. -/
mutual
def uptoBulk {H : Type} : DataW H → Nat
  | .lit (.string bytes) => bytes.length + 1
  | .lit _ => 1
  | .nil => 1
  | .ptr d => uptoBulk d + 1
  | .slice elems spare => uptoBulkAll elems + uptoBulkAll spare + 1
  | .agg parts => uptoBulkAll parts + 1
  | .iface _ d => uptoBulk d + 1
  | .map entries => uptoBulkEntries entries + 1
  | .held _ => 1
def uptoBulkAll {H : Type} : List (DataW H) → Nat
  | [] => 0
  | d :: r => uptoBulk d + uptoBulkAll r
def uptoBulkEntries {H : Type} : List (Lit × DataW H) → Nat
  | [] => 0
  | x :: r => uptoBulkEntry x + uptoBulkEntries r
def uptoBulkEntry {H : Type} : Lit × DataW H → Nat
  | (.string bytes, d) => bytes.length + uptoBulk d + 1
  | (_, d) => uptoBulk d + 1
 end
def uptoSmall : (H : Type) → List (DataW H) → Bool := fun _ ds => decide (uptoBulkAll ds ≤ 1048576)
def OpenSpec.upto (s : _root_.Go.ChangeSpec) : _root_.Go.OpenSpec := { _root_.Go.OpenSpec.ofChange s with cond := some uptoSmall }

/-- 'louverlaw18.MessageCloses', WHERE WHAT IT READS IS OF BULK AT MOST 1048576: true; the input reads as it did. -/
def messageClosesUptoRow : OpenClaim := { program := "ytbjjobifpmjhhaadoor", sum := "2b305d0308750f91438e9791c57eda5246d27ec157b1ef886cbea12222b2eabc", func := "louver/louverlaw18.MessageCloses", spec := "messageCloses", inPlace := ["internal/reflectlite.ValueOf", "(internal/reflectlite.Value).Type", "(internal/reflectlite.Value).IsNil", "internal/reflectlite.TypeOf", "(internal/reflectlite.Value).Elem", "(internal/reflectlite.Value).Set"], unfollowed := true, recurses := true, named := ["errors.errorType"], apart := false, laid := [("errors.errorType", laid_errors_errorType)], narrowed := true }
def MessageClosesUptoSaid : Prop := messageClosesUptoRow.holds Tryd.pinned (OpenSpec.upto messageClosesSpec)

/-- 'louverlaw18.MessagePlays', WHERE WHAT IT READS IS OF BULK AT MOST 1048576: true; the input reads as it did. -/
def messagePlaysUptoRow : OpenClaim := { program := "ytbjjobifpmjhhaadoor", sum := "2b305d0308750f91438e9791c57eda5246d27ec157b1ef886cbea12222b2eabc", func := "louver/louverlaw18.MessagePlays", spec := "messagePlays", inPlace := ["internal/reflectlite.ValueOf", "(internal/reflectlite.Value).Type", "(internal/reflectlite.Value).IsNil", "internal/reflectlite.TypeOf", "(internal/reflectlite.Value).Elem", "(internal/reflectlite.Value).Set"], unfollowed := true, recurses := true, named := ["errors.errorType"], apart := false, laid := [("errors.errorType", laid_errors_errorType)], narrowed := true }
def MessagePlaysUptoSaid : Prop := messagePlaysUptoRow.holds Tryd.pinned (OpenSpec.upto messagePlaysSpec)

/-- 'louverlaw18.MessageNil', WHERE WHAT IT READS IS OF BULK AT MOST 1048576: true; the input reads as it did. -/
def messageNilUptoRow : OpenClaim := { program := "ytbjjobifpmjhhaadoor", sum := "2b305d0308750f91438e9791c57eda5246d27ec157b1ef886cbea12222b2eabc", func := "louver/louverlaw18.MessageNil", spec := "messageNil", inPlace := ["internal/reflectlite.ValueOf", "(internal/reflectlite.Value).Type", "(internal/reflectlite.Value).IsNil", "internal/reflectlite.TypeOf", "(internal/reflectlite.Value).Elem", "(internal/reflectlite.Value).Set"], unfollowed := true, recurses := true, named := ["errors.errorType"], apart := false, laid := [("errors.errorType", laid_errors_errorType)], narrowed := true }
def MessageNilUptoSaid : Prop := messageNilUptoRow.holds Tryd.pinned (OpenSpec.upto messageNilSpec)

/-- 'louverlaw18.MessageCuts', WHERE WHAT IT READS IS OF BULK AT MOST 1048576: true; the input reads as it did. -/
def messageCutsUptoRow : OpenClaim := { program := "ytbjjobifpmjhhaadoor", sum := "2b305d0308750f91438e9791c57eda5246d27ec157b1ef886cbea12222b2eabc", func := "louver/louverlaw18.MessageCuts", spec := "messageCuts", inPlace := ["internal/reflectlite.ValueOf", "(internal/reflectlite.Value).Type", "(internal/reflectlite.Value).IsNil", "internal/reflectlite.TypeOf", "(internal/reflectlite.Value).Elem", "(internal/reflectlite.Value).Set"], unfollowed := true, recurses := true, named := ["errors.errorType"], apart := false, laid := [("errors.errorType", laid_errors_errorType)], narrowed := true }
def MessageCutsUptoSaid : Prop := messageCutsUptoRow.holds Tryd.pinned (OpenSpec.upto messageCutsSpec)

/-- 'louverlaw18.MessageRow', WHERE WHAT IT READS IS OF BULK AT MOST 1048576: true; the input reads as it did. -/
def messageRowUptoRow : OpenClaim := { program := "ytbjjobifpmjhhaadoor", sum := "2b305d0308750f91438e9791c57eda5246d27ec157b1ef886cbea12222b2eabc", func := "louver/louverlaw18.MessageRow", spec := "messageRow", inPlace := ["internal/reflectlite.ValueOf", "(internal/reflectlite.Value).Type", "(internal/reflectlite.Value).IsNil", "internal/reflectlite.TypeOf", "(internal/reflectlite.Value).Elem", "(internal/reflectlite.Value).Set"], unfollowed := true, recurses := true, named := ["errors.errorType"], apart := false, laid := [("errors.errorType", laid_errors_errorType)], narrowed := true }
def MessageRowUptoSaid : Prop := messageRowUptoRow.holds Tryd.pinned (OpenSpec.upto messageRowSpec)

/-- 'louverlaw18.MessageGreat', WHERE WHAT IT READS IS OF BULK AT MOST 1048576: true; the input reads as it did. -/
def messageGreatUptoRow : OpenClaim := { program := "ytbjjobifpmjhhaadoor", sum := "2b305d0308750f91438e9791c57eda5246d27ec157b1ef886cbea12222b2eabc", func := "louver/louverlaw18.MessageGreat", spec := "messageGreat", inPlace := ["internal/reflectlite.ValueOf", "(internal/reflectlite.Value).Type", "(internal/reflectlite.Value).IsNil", "internal/reflectlite.TypeOf", "(internal/reflectlite.Value).Elem", "(internal/reflectlite.Value).Set"], unfollowed := true, recurses := true, named := ["errors.errorType"], apart := false, laid := [("errors.errorType", laid_errors_errorType)], narrowed := true }
def MessageGreatUptoSaid : Prop := messageGreatUptoRow.holds Tryd.pinned (OpenSpec.upto messageGreatSpec)

end Rows
end Go.Proofs.YtbjjobifpmjhhaaDoor
