/-
  DERIVED. GIVEN WITH THE SEED: THE CARDS: each row of YtkhlldhcmgkioaaDoorRows.lean that lists a variable, with what it lists TIED to the program's text (the seventh form; the later family's looks); each row that meets fmt, with fmt's text TOLD by the authors' own Lean function (tested against real Go, not proved from fmt's source: count such statements apart). THE CARD IS WHAT COUNTS. Prove the row's statement (the work); the ties are given (YtkhlldhcmgkioaaDoorTie.lean); close each card by the builder's one call (the guide's Derived/Test/ToyasCard.lean, 'card_holds'). Laid BY PROGRAM, IN A SANDBOX (cutbox-door.mjs). By AI agents, Wed Nov 11 2026. No macro, syntax, notation, axiom, sorry.
-/
import Derived.Test.YtkhlldhcmgkioaaDoorRows
import GoSem.ClaimSeven
namespace Go.Proofs.YtkhlldhcmgkioaaDoor
namespace Rows

/-- THE TIED CARD OF 'louverlaw17.WssplitPlays'. -/
def wssplitPlaysCard : Claim7 := { stood := { row := wssplitPlaysRow, standIns := [], harness := (true, "0ad1c50da9c4590c31a58641a7ec087f65d1caa772d8e55ed0cd14947c12795a"), looks := true }, kinds := [], alts := [], laidByText := true, laidKinds := [.handle], laidTests := true, laidLooks := .later }
def WssplitPlaysCardSaid : Prop := Claim7.holds Tryd.pinned (.plain (OpenSpec.ofChange wssplitPlaysSpec)) wssplitPlaysCard

/-- THE TIED CARD OF 'louverlaw17.WssplitFrames'. -/
def wssplitFramesCard : Claim7 := { stood := { row := wssplitFramesRow, standIns := [], harness := (true, "0ad1c50da9c4590c31a58641a7ec087f65d1caa772d8e55ed0cd14947c12795a"), looks := true }, kinds := [], alts := [], laidByText := true, laidKinds := [.handle], laidTests := true, laidLooks := .later }
def WssplitFramesCardSaid : Prop := Claim7.holds Tryd.pinned (.plain (OpenSpec.ofChange wssplitFramesSpec)) wssplitFramesCard

/-- THE TIED CARD OF 'louverlaw17.WssplitNil'. -/
def wssplitNilCard : Claim7 := { stood := { row := wssplitNilRow, standIns := [], harness := (true, "0ad1c50da9c4590c31a58641a7ec087f65d1caa772d8e55ed0cd14947c12795a"), looks := true }, kinds := [], alts := [], laidByText := true, laidKinds := [.handle], laidTests := true, laidLooks := .later }
def WssplitNilCardSaid : Prop := Claim7.holds Tryd.pinned (.plain (OpenSpec.ofChange wssplitNilSpec)) wssplitNilCard

/-- THE TIED CARD OF 'louverlaw17.WssplitTwo'. -/
def wssplitTwoCard : Claim7 := { stood := { row := wssplitTwoRow, standIns := [], harness := (true, "0ad1c50da9c4590c31a58641a7ec087f65d1caa772d8e55ed0cd14947c12795a"), looks := true }, kinds := [], alts := [], laidByText := true, laidKinds := [.handle], laidTests := true, laidLooks := .later }
def WssplitTwoCardSaid : Prop := Claim7.holds Tryd.pinned (.plain (OpenSpec.ofChange wssplitTwoSpec)) wssplitTwoCard

/-- THE SECOND FORM's CARD OF 'louverlaw17.WssplitPlays'. -/
def wssplitPlaysUptoCard : Claim7 := { stood := { row := wssplitPlaysUptoRow, standIns := [], harness := (true, "0ad1c50da9c4590c31a58641a7ec087f65d1caa772d8e55ed0cd14947c12795a"), looks := true }, kinds := [], alts := [], laidByText := true, laidKinds := [.handle], laidTests := true, laidLooks := .later }
def WssplitPlaysUptoCardSaid : Prop := Claim7.holds Tryd.pinned (.plain (OpenSpec.upto wssplitPlaysSpec)) wssplitPlaysUptoCard

/-- THE SECOND FORM's CARD OF 'louverlaw17.WssplitFrames'. -/
def wssplitFramesUptoCard : Claim7 := { stood := { row := wssplitFramesUptoRow, standIns := [], harness := (true, "0ad1c50da9c4590c31a58641a7ec087f65d1caa772d8e55ed0cd14947c12795a"), looks := true }, kinds := [], alts := [], laidByText := true, laidKinds := [.handle], laidTests := true, laidLooks := .later }
def WssplitFramesUptoCardSaid : Prop := Claim7.holds Tryd.pinned (.plain (OpenSpec.upto wssplitFramesSpec)) wssplitFramesUptoCard

/-- THE SECOND FORM's CARD OF 'louverlaw17.WssplitNil'. -/
def wssplitNilUptoCard : Claim7 := { stood := { row := wssplitNilUptoRow, standIns := [], harness := (true, "0ad1c50da9c4590c31a58641a7ec087f65d1caa772d8e55ed0cd14947c12795a"), looks := true }, kinds := [], alts := [], laidByText := true, laidKinds := [.handle], laidTests := true, laidLooks := .later }
def WssplitNilUptoCardSaid : Prop := Claim7.holds Tryd.pinned (.plain (OpenSpec.upto wssplitNilSpec)) wssplitNilUptoCard

/-- THE SECOND FORM's CARD OF 'louverlaw17.WssplitTwo'. -/
def wssplitTwoUptoCard : Claim7 := { stood := { row := wssplitTwoUptoRow, standIns := [], harness := (true, "0ad1c50da9c4590c31a58641a7ec087f65d1caa772d8e55ed0cd14947c12795a"), looks := true }, kinds := [], alts := [], laidByText := true, laidKinds := [.handle], laidTests := true, laidLooks := .later }
def WssplitTwoUptoCardSaid : Prop := Claim7.holds Tryd.pinned (.plain (OpenSpec.upto wssplitTwoSpec)) wssplitTwoUptoCard
end Rows
end Go.Proofs.YtkhlldhcmgkioaaDoor
