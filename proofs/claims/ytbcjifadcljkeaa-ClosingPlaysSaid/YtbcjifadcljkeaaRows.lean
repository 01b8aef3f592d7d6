/-
  No cell of these rows narrows 'for every input' (looked for: loops, veiled, ifaces, maps, wideKeys, modest, calm, conditions, laid).
  DERIVED. THE GIVEN ROWS OF THIS SEAT. 4 by the template 'for every input the law returns true; each argument reads behind the call as it read before'; 0 by the template 'total and deterministic' (their statements: YtbcjifadcljkeaaTotals.lean).
  GIVEN WITH THE SEED: the statements are not yours to turn. If you find one false, say at which input.
  Laid BY PROGRAM, IN A SANDBOX (cutbox-rows.mjs): the forced cells as the released guide's own fill.sh prints them over the translation f4723b2c19761957… (all of the seat's roots in one cut). By AI agents, Wed Nov 11 2026. No macro, syntax, notation, axiom, sorry.
-/
import Derived.Test.YtbcjifadcljkeaaChecked
import GoSem.Claim
import GoSem.ClaimJoined
import GoSem.ClaimMapViews
import Derived.JoinedTies
import Derived.KernelRfl
namespace Go.Proofs.Ytbcjifadcljkeaa
/- THE CELL 'sum', in the pinned program and in every row, IS THE sha256 OF THE DUMP (.gsa) THAT YtbcjifadcljkeaaProg.lean LOADS. Nothing in Lean hashes anything: it is a label: what it is worth is what the hold of that sum in a sandbox is worth. -/
noncomputable def Try.pinned : Pinned := { name := "ytbcjifadcljkeaa", sum := "f4723b2c1976195781eeb8ff74b552f8f264c657d76a9f072a6041a3b6235d63", checked := Try.checked }
namespace Rows
def none {H : Type} : Left H := { results := [], args := [] }

/-- 'louverlaw19.ClosingPairs': WHATEVER THE INPUT: true; the input reads as it did. -/
def closingPairsSpec : ChangeSpec := { name := "closingPairs", fn := fun _ => fun
  | [d1, d2, d3] => { results := [.lit (.bool true)], args := [d1, d2, d3] }
  | _ => none }
def closingPairsRow : OpenClaim := { program := "ytbcjifadcljkeaa", sum := "f4723b2c1976195781eeb8ff74b552f8f264c657d76a9f072a6041a3b6235d63", func := "louver/louverlaw19.ClosingPairs", spec := "closingPairs", unfollowed := true, recurses := true, apart := false }
def ClosingPairsSaid : Prop := closingPairsRow.holds Try.pinned (OpenSpec.ofChange closingPairsSpec)

/-- ITS FALSE NEIGHBOUR: 'it returns false'. Refute it at one input. -/
def closingPairsWrong : ChangeSpec := { name := "closingPairs", fn := fun _ => fun
  | [d1, d2, d3] => { results := [.lit (.bool false)], args := [d1, d2, d3] }
  | _ => none }
def ClosingPairsWrongFalsely : Prop := closingPairsRow.holds Try.pinned (OpenSpec.ofChange closingPairsWrong)

/-- 'louverlaw19.ClosingLate': WHATEVER THE INPUT: true; the input reads as it did. -/
def closingLateSpec : ChangeSpec := { name := "closingLate", fn := fun _ => fun
  | [d1, d2] => { results := [.lit (.bool true)], args := [d1, d2] }
  | _ => none }
def closingLateRow : OpenClaim := { program := "ytbcjifadcljkeaa", sum := "f4723b2c1976195781eeb8ff74b552f8f264c657d76a9f072a6041a3b6235d63", func := "louver/louverlaw19.ClosingLate", spec := "closingLate", apart := false }
def ClosingLateSaid : Prop := closingLateRow.holds Try.pinned (OpenSpec.ofChange closingLateSpec)

/-- ITS FALSE NEIGHBOUR: 'it returns false'. Refute it at one input. -/
def closingLateWrong : ChangeSpec := { name := "closingLate", fn := fun _ => fun
  | [d1, d2] => { results := [.lit (.bool false)], args := [d1, d2] }
  | _ => none }
def ClosingLateWrongFalsely : Prop := closingLateRow.holds Try.pinned (OpenSpec.ofChange closingLateWrong)

/-- 'louverlaw19.ClosingPlays': WHATEVER THE INPUT: true; the input reads as it did. -/
def closingPlaysSpec : ChangeSpec := { name := "closingPlays", fn := fun _ => fun
  | [d] => { results := [.lit (.bool true)], args := [d] }
  | _ => none }
def closingPlaysRow : OpenClaim := { program := "ytbcjifadcljkeaa", sum := "f4723b2c1976195781eeb8ff74b552f8f264c657d76a9f072a6041a3b6235d63", func := "louver/louverlaw19.ClosingPlays", spec := "closingPlays", apart := false }
def ClosingPlaysSaid : Prop := closingPlaysRow.holds Try.pinned (OpenSpec.ofChange closingPlaysSpec)

/-- ITS FALSE NEIGHBOUR: 'it returns false'. Refute it at one input. -/
def closingPlaysWrong : ChangeSpec := { name := "closingPlays", fn := fun _ => fun
  | [d] => { results := [.lit (.bool false)], args := [d] }
  | _ => none }
def ClosingPlaysWrongFalsely : Prop := closingPlaysRow.holds Try.pinned (OpenSpec.ofChange closingPlaysWrong)

/-- 'louverlaw19.ClosingNil': WHATEVER THE INPUT: true; the input reads as it did. -/
def closingNilSpec : ChangeSpec := { name := "closingNil", fn := fun _ => fun
  | [d] => { results := [.lit (.bool true)], args := [d] }
  | _ => none }
def closingNilRow : OpenClaim := { program := "ytbcjifadcljkeaa", sum := "f4723b2c1976195781eeb8ff74b552f8f264c657d76a9f072a6041a3b6235d63", func := "louver/louverlaw19.ClosingNil", spec := "closingNil", apart := false }
def ClosingNilSaid : Prop := closingNilRow.holds Try.pinned (OpenSpec.ofChange closingNilSpec)

/-- ITS FALSE NEIGHBOUR: 'it returns false'. Refute it at one input. -/
def closingNilWrong : ChangeSpec := { name := "closingNil", fn := fun _ => fun
  | [d] => { results := [.lit (.bool false)], args := [d] }
  | _ => none }
def ClosingNilWrongFalsely : Prop := closingNilRow.holds Try.pinned (OpenSpec.ofChange closingNilWrong)

/- THE SECOND FORM. 'bulk': how many values and letters a reading holds, each counted each time it is reached (what is shared counts as often as it is met; a slice's spare places count too). A statement '..UptoSaid' is the law's where the arguments, and the package variables that the reading takes, are together of bulk at most 1048576: NARROWER than '..Said'. Prove '..Said' where nothing that the law and all that it calls make is longer than what came in: it says more and counts as full. Else prove '..UptoSaid'. A law counts once. -/
mutual
def uptoBulk {H : Type} : DataW H → Nat
  | .lit (.string bytes) => bytes.length + 1
  | .lit _ => 1
  | .nil => 1
  | .ptr d => uptoBulk d + 1
  | .slice elems spare => uptoBulkAll elems + uptoBulkAll spare + 1
  | .agg parts => uptoBulkAll parts + 1
  | .iface _ d => uptoBulk d + 1
  | .map entries => uptoBulkEntries entries + 1
  | .held _ => 1
def uptoBulkAll {H : Type} : List (DataW H) → Nat
  | [] => 0
  | d :: r => uptoBulk d + uptoBulkAll r
def uptoBulkEntries {H : Type} : List (Lit × DataW H) → Nat
  | [] => 0
  | x :: r => uptoBulkEntry x + uptoBulkEntries r
def uptoBulkEntry {H : Type} : Lit × DataW H → Nat
  | (.string bytes, d) => bytes.length + uptoBulk d + 1
  | (_, d) => uptoBulk d + 1
 end
def uptoSmall : (H : Type) → List (DataW H) → Bool := fun _ ds => decide (uptoBulkAll ds ≤ 1048576)
def OpenSpec.upto (s : _root_.Go.ChangeSpec) : _root_.Go.OpenSpec := { _root_.Go.OpenSpec.ofChange s with cond := some uptoSmall }

/-- 'louverlaw19.ClosingPairs', WHERE WHAT IT READS IS OF BULK AT MOST 1048576: true; the input reads as it did. -/
def closingPairsUptoRow : OpenClaim := { program := "ytbcjifadcljkeaa", sum := "f4723b2c1976195781eeb8ff74b552f8f264c657d76a9f072a6041a3b6235d63", func := "louver/louverlaw19.ClosingPairs", spec := "closingPairs", unfollowed := true, recurses := true, apart := false, narrowed := true }
def ClosingPairsUptoSaid : Prop := closingPairsUptoRow.holds Try.pinned (OpenSpec.upto closingPairsSpec)

/-- 'louverlaw19.ClosingLate', WHERE WHAT IT READS IS OF BULK AT MOST 1048576: true; the input reads as it did. -/
def closingLateUptoRow : OpenClaim := { program := "ytbcjifadcljkeaa", sum := "f4723b2c1976195781eeb8ff74b552f8f264c657d76a9f072a6041a3b6235d63", func := "louver/louverlaw19.ClosingLate", spec := "closingLate", apart := false, narrowed := true }
def ClosingLateUptoSaid : Prop := closingLateUptoRow.holds Try.pinned (OpenSpec.upto closingLateSpec)

/-- 'louverlaw19.ClosingPlays', WHERE WHAT IT READS IS OF BULK AT MOST 1048576: true; the input reads as it did. -/
def closingPlaysUptoRow : OpenClaim := { program := "ytbcjifadcljkeaa", sum := "f4723b2c1976195781eeb8ff74b552f8f264c657d76a9f072a6041a3b6235d63", func := "louver/louverlaw19.ClosingPlays", spec := "closingPlays", apart := false, narrowed := true }
def ClosingPlaysUptoSaid : Prop := closingPlaysUptoRow.holds Try.pinned (OpenSpec.upto closingPlaysSpec)

/-- 'louverlaw19.ClosingNil', WHERE WHAT IT READS IS OF BULK AT MOST 1048576: true; the input reads as it did. -/
def closingNilUptoRow : OpenClaim := { program := "ytbcjifadcljkeaa", sum := "f4723b2c1976195781eeb8ff74b552f8f264c657d76a9f072a6041a3b6235d63", func := "louver/louverlaw19.ClosingNil", spec := "closingNil", apart := false, narrowed := true }
def ClosingNilUptoSaid : Prop := closingNilUptoRow.holds Try.pinned (OpenSpec.upto closingNilSpec)

end Rows
end Go.Proofs.Ytbcjifadcljkeaa
