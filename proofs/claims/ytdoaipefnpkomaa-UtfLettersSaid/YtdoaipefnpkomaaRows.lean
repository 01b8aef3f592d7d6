/-
  No cell of these rows narrows 'for every input' (looked for: loops, veiled, ifaces, maps, wideKeys, modest, calm, conditions, laid).
  DERIVED. THE GIVEN ROWS OF THIS SEAT. 5 by the template 'for every input the law returns true; each argument reads behind the call as it read before'; 0 by the template 'total and deterministic' (their statements: YtdoaipefnpkomaaTotals.lean).
  GIVEN WITH THE SEED: the statements are not yours to turn. If you find one false, say at which input.
  Laid BY PROGRAM, IN A SANDBOX (cutbox-rows.mjs): the forced cells as the released guide's own fill.sh prints them over the translation 94f5aef7523745be… (all of the seat's roots in one cut). By AI agents, Wed Nov 11 2026. No macro, syntax, notation, axiom, sorry.
-/
import Derived.Test.YtdoaipefnpkomaaChecked
import GoSem.Claim
import GoSem.ClaimJoined
import GoSem.ClaimMapViews
import Derived.JoinedTies
import Derived.KernelRfl
namespace Go.Proofs.Ytdoaipefnpkomaa
/- THE CELL 'sum', in the pinned program and in every row, IS THE sha256 OF THE DUMP (.gsa) THAT YtdoaipefnpkomaaProg.lean LOADS. Nothing in Lean hashes anything: it is a label: what it is worth is what the hold of that sum in a sandbox is worth. -/
noncomputable def Try.pinned : Pinned := { name := "ytdoaipefnpkomaa", sum := "94f5aef7523745be8b75267d624657ccf9c1cb4d99341f9d10b0e8fdfc570c4b", checked := Try.checked }
namespace Rows
def none {H : Type} : Left H := { results := [], args := [] }

/-- 'louverlaw15.UtfNil': WHATEVER THE INPUT: true; the input reads as it did. -/
def utfNilSpec : ChangeSpec := { name := "utfNil", fn := fun _ => fun
  | [d] => { results := [.lit (.bool true)], args := [d] }
  | _ => none }
def utfNilRow : OpenClaim := { program := "ytdoaipefnpkomaa", sum := "94f5aef7523745be8b75267d624657ccf9c1cb4d99341f9d10b0e8fdfc570c4b", func := "louver/louverlaw15.UtfNil", spec := "utfNil", apart := false }
def UtfNilSaid : Prop := utfNilRow.holds Try.pinned (OpenSpec.ofChange utfNilSpec)

/-- ITS FALSE NEIGHBOUR: 'it returns false'. Refute it at one input. -/
def utfNilWrong : ChangeSpec := { name := "utfNil", fn := fun _ => fun
  | [d] => { results := [.lit (.bool false)], args := [d] }
  | _ => none }
def UtfNilWrongFalsely : Prop := utfNilRow.holds Try.pinned (OpenSpec.ofChange utfNilWrong)

/-- 'louverlaw15.UtfFeeds': WHATEVER THE INPUT: true; the input reads as it did. -/
def utfFeedsSpec : ChangeSpec := { name := "utfFeeds", fn := fun _ => fun
  | [d1, d2] => { results := [.lit (.bool true)], args := [d1, d2] }
  | _ => none }
def utfFeedsRow : OpenClaim := { program := "ytdoaipefnpkomaa", sum := "94f5aef7523745be8b75267d624657ccf9c1cb4d99341f9d10b0e8fdfc570c4b", func := "louver/louverlaw15.UtfFeeds", spec := "utfFeeds", apart := false }
def UtfFeedsSaid : Prop := utfFeedsRow.holds Try.pinned (OpenSpec.ofChange utfFeedsSpec)

/-- ITS FALSE NEIGHBOUR: 'it returns false'. Refute it at one input. -/
def utfFeedsWrong : ChangeSpec := { name := "utfFeeds", fn := fun _ => fun
  | [d1, d2] => { results := [.lit (.bool false)], args := [d1, d2] }
  | _ => none }
def UtfFeedsWrongFalsely : Prop := utfFeedsRow.holds Try.pinned (OpenSpec.ofChange utfFeedsWrong)

/-- 'louverlaw15.UtfLetters': WHATEVER THE INPUT: true; the input reads as it did. -/
def utfLettersSpec : ChangeSpec := { name := "utfLetters", fn := fun _ => fun
  | [d] => { results := [.lit (.bool true)], args := [d] }
  | _ => none }
def utfLettersRow : OpenClaim := { program := "ytdoaipefnpkomaa", sum := "94f5aef7523745be8b75267d624657ccf9c1cb4d99341f9d10b0e8fdfc570c4b", func := "louver/louverlaw15.UtfLetters", spec := "utfLetters", apart := false }
def UtfLettersSaid : Prop := utfLettersRow.holds Try.pinned (OpenSpec.ofChange utfLettersSpec)

/-- ITS FALSE NEIGHBOUR: 'it returns false'. Refute it at one input. -/
def utfLettersWrong : ChangeSpec := { name := "utfLetters", fn := fun _ => fun
  | [d] => { results := [.lit (.bool false)], args := [d] }
  | _ => none }
def UtfLettersWrongFalsely : Prop := utfLettersRow.holds Try.pinned (OpenSpec.ofChange utfLettersWrong)

/-- 'louverlaw15.UtfJoins': WHATEVER THE INPUT: true; the input reads as it did. -/
def utfJoinsSpec : ChangeSpec := { name := "utfJoins", fn := fun _ => fun
  | [d1, d2] => { results := [.lit (.bool true)], args := [d1, d2] }
  | _ => none }
def utfJoinsRow : OpenClaim := { program := "ytdoaipefnpkomaa", sum := "94f5aef7523745be8b75267d624657ccf9c1cb4d99341f9d10b0e8fdfc570c4b", func := "louver/louverlaw15.UtfJoins", spec := "utfJoins", apart := false }
def UtfJoinsSaid : Prop := utfJoinsRow.holds Try.pinned (OpenSpec.ofChange utfJoinsSpec)

/-- ITS FALSE NEIGHBOUR: 'it returns false'. Refute it at one input. -/
def utfJoinsWrong : ChangeSpec := { name := "utfJoins", fn := fun _ => fun
  | [d1, d2] => { results := [.lit (.bool false)], args := [d1, d2] }
  | _ => none }
def UtfJoinsWrongFalsely : Prop := utfJoinsRow.holds Try.pinned (OpenSpec.ofChange utfJoinsWrong)

/-- 'louverlaw15.UtfBegins': WHATEVER THE INPUT: true; the input reads as it did. -/
def utfBeginsSpec : ChangeSpec := { name := "utfBegins", fn := fun _ => fun
  | [d1, d2] => { results := [.lit (.bool true)], args := [d1, d2] }
  | _ => none }
def utfBeginsRow : OpenClaim := { program := "ytdoaipefnpkomaa", sum := "94f5aef7523745be8b75267d624657ccf9c1cb4d99341f9d10b0e8fdfc570c4b", func := "louver/louverlaw15.UtfBegins", spec := "utfBegins", apart := false }
def UtfBeginsSaid : Prop := utfBeginsRow.holds Try.pinned (OpenSpec.ofChange utfBeginsSpec)

/-- ITS FALSE NEIGHBOUR: 'it returns false'. Refute it at one input. -/
def utfBeginsWrong : ChangeSpec := { name := "utfBegins", fn := fun _ => fun
  | [d1, d2] => { results := [.lit (.bool false)], args := [d1, d2] }
  | _ => none }
def UtfBeginsWrongFalsely : Prop := utfBeginsRow.holds Try.pinned (OpenSpec.ofChange utfBeginsWrong)

/- THE SECOND FORM. 'bulk': how many values and letters a reading holds, each counted each time it is reached (what is shared counts as often as it is met; a slice's spare places count too). A statement '..UptoSaid' is the law's where the arguments, and the package variables that the reading takes, are together of bulk at most 1048576: NARROWER than '..Said'. Prove '..Said' where nothing that the law and all that it calls make is longer than what came in: it says more and counts as full. Else prove '..UptoSaid'. A law counts once. -/
mutual
def uptoBulk {H : Type} : DataW H → Nat
  | .lit (.string bytes) => bytes.length + 1
  | .lit _ => 1
  | .nil => 1
  | .ptr d => uptoBulk d + 1
  | .slice elems spare => uptoBulkAll elems + uptoBulkAll spare + 1
  | .agg parts => uptoBulkAll parts + 1
  | .iface _ d => uptoBulk d + 1
  | .map entries => uptoBulkEntries entries + 1
  | .held _ => 1
def uptoBulkAll {H : Type} : List (DataW H) → Nat
  | [] => 0
  | d :: r => uptoBulk d + uptoBulkAll r
def uptoBulkEntries {H : Type} : List (Lit × DataW H) → Nat
  | [] => 0
  | x :: r => uptoBulkEntry x + uptoBulkEntries r
def uptoBulkEntry {H : Type} : Lit × DataW H → Nat
  | (.string bytes, d) => bytes.length + uptoBulk d + 1
  | (_, d) => uptoBulk d + 1
 end
def uptoSmall : (H : Type) → List (DataW H) → Bool := fun _ ds => decide (uptoBulkAll ds ≤ 1048576)
def OpenSpec.upto (s : _root_.Go.ChangeSpec) : _root_.Go.OpenSpec := { _root_.Go.OpenSpec.ofChange s with cond := some uptoSmall }

/-- 'louverlaw15.UtfNil', WHERE WHAT IT READS IS OF BULK AT MOST 1048576: true; the input reads as it did. -/
def utfNilUptoRow : OpenClaim := { program := "ytdoaipefnpkomaa", sum := "94f5aef7523745be8b75267d624657ccf9c1cb4d99341f9d10b0e8fdfc570c4b", func := "louver/louverlaw15.UtfNil", spec := "utfNil", apart := false, narrowed := true }
def UtfNilUptoSaid : Prop := utfNilUptoRow.holds Try.pinned (OpenSpec.upto utfNilSpec)

/-- 'louverlaw15.UtfFeeds', WHERE WHAT IT READS IS OF BULK AT MOST 1048576: true; the input reads as it did. -/
def utfFeedsUptoRow : OpenClaim := { program := "ytdoaipefnpkomaa", sum := "94f5aef7523745be8b75267d624657ccf9c1cb4d99341f9d10b0e8fdfc570c4b", func := "louver/louverlaw15.UtfFeeds", spec := "utfFeeds", apart := false, narrowed := true }
def UtfFeedsUptoSaid : Prop := utfFeedsUptoRow.holds Try.pinned (OpenSpec.upto utfFeedsSpec)

/-- 'louverlaw15.UtfLetters', WHERE WHAT IT READS IS OF BULK AT MOST 1048576: true; the input reads as it did. -/
def utfLettersUptoRow : OpenClaim := { program := "ytdoaipefnpkomaa", sum := "94f5aef7523745be8b75267d624657ccf9c1cb4d99341f9d10b0e8fdfc570c4b", func := "louver/louverlaw15.UtfLetters", spec := "utfLetters", apart := false, narrowed := true }
def UtfLettersUptoSaid : Prop := utfLettersUptoRow.holds Try.pinned (OpenSpec.upto utfLettersSpec)

/-- 'louverlaw15.UtfJoins', WHERE WHAT IT READS IS OF BULK AT MOST 1048576: true; the input reads as it did. -/
def utfJoinsUptoRow : OpenClaim := { program := "ytdoaipefnpkomaa", sum := "94f5aef7523745be8b75267d624657ccf9c1cb4d99341f9d10b0e8fdfc570c4b", func := "louver/louverlaw15.UtfJoins", spec := "utfJoins", apart := false, narrowed := true }
def UtfJoinsUptoSaid : Prop := utfJoinsUptoRow.holds Try.pinned (OpenSpec.upto utfJoinsSpec)

/-- 'louverlaw15.UtfBegins', WHERE WHAT IT READS IS OF BULK AT MOST 1048576: true; the input reads as it did. -/
def utfBeginsUptoRow : OpenClaim := { program := "ytdoaipefnpkomaa", sum := "94f5aef7523745be8b75267d624657ccf9c1cb4d99341f9d10b0e8fdfc570c4b", func := "louver/louverlaw15.UtfBegins", spec := "utfBegins", apart := false, narrowed := true }
def UtfBeginsUptoSaid : Prop := utfBeginsUptoRow.holds Try.pinned (OpenSpec.upto utfBeginsSpec)

end Rows
end Go.Proofs.Ytdoaipefnpkomaa
