/-
  DERIVED. GIVEN WITH THE SEED: THE CARDS: each row of YtabpngcjlikpkaaDoorRows.lean that lists a variable, with what it lists TIED to the program's text (the seventh form; the later family's looks); each row that meets fmt, with fmt's text TOLD by the authors' own Lean function (tested against real Go, not proved from fmt's source: count such statements apart). THE CARD IS WHAT COUNTS. Prove the row's statement (the work); the ties are given (YtabpngcjlikpkaaDoorTie.lean); close each card by the builder's one call (the guide's Derived/Test/ToyasCard.lean, 'card_holds'). Laid BY PROGRAM, IN A SANDBOX (cutbox-door.mjs). By AI agents, Wed Nov 11 2026. No macro, syntax, notation, axiom, sorry.
-/
import Derived.Test.YtabpngcjlikpkaaDoorRows
import GoSem.ClaimSeven
namespace Go.Proofs.YtabpngcjlikpkaaDoor
namespace Rows

/-- THE TIED CARD OF 'louverlaw16.WsframeHead'. -/
def wsframeHeadCard : Claim7 := { stood := { row := wsframeHeadRow, standIns := [], harness := (true, "a8b1d1c656a95d884fd2239818e438a39c137aade3e7ffde5732655cbbecd603"), looks := true }, kinds := [], alts := [], laidByText := true, laidKinds := [.handle], laidTests := true, laidLooks := .later }
def WsframeHeadCardSaid : Prop := Claim7.holds Tryd.pinned (.plain (OpenSpec.ofChange wsframeHeadSpec)) wsframeHeadCard

/-- THE TIED CARD OF 'louverlaw16.WsframeLengths'. -/
def wsframeLengthsCard : Claim7 := { stood := { row := wsframeLengthsRow, standIns := [], harness := (true, "a8b1d1c656a95d884fd2239818e438a39c137aade3e7ffde5732655cbbecd603"), looks := true }, kinds := [], alts := [], laidByText := true, laidKinds := [.handle], laidTests := true, laidLooks := .later }
def WsframeLengthsCardSaid : Prop := Claim7.holds Tryd.pinned (.plain (OpenSpec.ofChange wsframeLengthsSpec)) wsframeLengthsCard

/-- THE TIED CARD OF 'louverlaw16.WsframePuts'. -/
def wsframePutsCard : Claim7 := { stood := { row := wsframePutsRow, standIns := [], harness := (true, "a8b1d1c656a95d884fd2239818e438a39c137aade3e7ffde5732655cbbecd603"), looks := true }, kinds := [], alts := [], laidByText := true, laidKinds := [.handle], laidTests := true, laidLooks := .later }
def WsframePutsCardSaid : Prop := Claim7.holds Tryd.pinned (.plain (OpenSpec.ofChange wsframePutsSpec)) wsframePutsCard

/-- THE TIED CARD OF 'louverlaw16.WsframeKeys'. -/
def wsframeKeysCard : Claim7 := { stood := { row := wsframeKeysRow, standIns := [], harness := (true, "a8b1d1c656a95d884fd2239818e438a39c137aade3e7ffde5732655cbbecd603"), looks := true }, kinds := [], alts := [], laidByText := true, laidKinds := [.handle], laidTests := true, laidLooks := .later }
def WsframeKeysCardSaid : Prop := Claim7.holds Tryd.pinned (.plain (OpenSpec.ofChange wsframeKeysSpec)) wsframeKeysCard

/-- THE TIED CARD OF 'louverlaw16.WsframeGets'. -/
def wsframeGetsCard : Claim7 := { stood := { row := wsframeGetsRow, standIns := [], harness := (true, "a8b1d1c656a95d884fd2239818e438a39c137aade3e7ffde5732655cbbecd603"), looks := true }, kinds := [], alts := [], laidByText := true, laidKinds := [.handle], laidTests := true, laidLooks := .later }
def WsframeGetsCardSaid : Prop := Claim7.holds Tryd.pinned (.plain (OpenSpec.ofChange wsframeGetsSpec)) wsframeGetsCard

/-- THE SECOND FORM's CARD OF 'louverlaw16.WsframeHead'. -/
def wsframeHeadUptoCard : Claim7 := { stood := { row := wsframeHeadUptoRow, standIns := [], harness := (true, "a8b1d1c656a95d884fd2239818e438a39c137aade3e7ffde5732655cbbecd603"), looks := true }, kinds := [], alts := [], laidByText := true, laidKinds := [.handle], laidTests := true, laidLooks := .later }
def WsframeHeadUptoCardSaid : Prop := Claim7.holds Tryd.pinned (.plain (OpenSpec.upto wsframeHeadSpec)) wsframeHeadUptoCard

/-- THE SECOND FORM's CARD OF 'louverlaw16.WsframeLengths'. -/
def wsframeLengthsUptoCard : Claim7 := { stood := { row := wsframeLengthsUptoRow, standIns := [], harness := (true, "a8b1d1c656a95d884fd2239818e438a39c137aade3e7ffde5732655cbbecd603"), looks := true }, kinds := [], alts := [], laidByText := true, laidKinds := [.handle], laidTests := true, laidLooks := .later }
def WsframeLengthsUptoCardSaid : Prop := Claim7.holds Tryd.pinned (.plain (OpenSpec.upto wsframeLengthsSpec)) wsframeLengthsUptoCard

/-- THE SECOND FORM's CARD OF 'louverlaw16.WsframePuts'. -/
def wsframePutsUptoCard : Claim7 := { stood := { row := wsframePutsUptoRow, standIns := [], harness := (true, "a8b1d1c656a95d884fd2239818e438a39c137aade3e7ffde5732655cbbecd603"), looks := true }, kinds := [], alts := [], laidByText := true, laidKinds := [.handle], laidTests := true, laidLooks := .later }
def WsframePutsUptoCardSaid : Prop := Claim7.holds Tryd.pinned (.plain (OpenSpec.upto wsframePutsSpec)) wsframePutsUptoCard

/-- THE SECOND FORM's CARD OF 'louverlaw16.WsframeKeys'. -/
def wsframeKeysUptoCard : Claim7 := { stood := { row := wsframeKeysUptoRow, standIns := [], harness := (true, "a8b1d1c656a95d884fd2239818e438a39c137aade3e7ffde5732655cbbecd603"), looks := true }, kinds := [], alts := [], laidByText := true, laidKinds := [.handle], laidTests := true, laidLooks := .later }
def WsframeKeysUptoCardSaid : Prop := Claim7.holds Tryd.pinned (.plain (OpenSpec.upto wsframeKeysSpec)) wsframeKeysUptoCard

/-- THE SECOND FORM's CARD OF 'louverlaw16.WsframeGets'. -/
def wsframeGetsUptoCard : Claim7 := { stood := { row := wsframeGetsUptoRow, standIns := [], harness := (true, "a8b1d1c656a95d884fd2239818e438a39c137aade3e7ffde5732655cbbecd603"), looks := true }, kinds := [], alts := [], laidByText := true, laidKinds := [.handle], laidTests := true, laidLooks := .later }
def WsframeGetsUptoCardSaid : Prop := Claim7.holds Tryd.pinned (.plain (OpenSpec.upto wsframeGetsSpec)) wsframeGetsUptoCard
end Rows
end Go.Proofs.YtabpngcjlikpkaaDoor
