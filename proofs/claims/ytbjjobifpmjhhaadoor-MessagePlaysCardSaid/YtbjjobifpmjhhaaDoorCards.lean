/-
  DERIVED. GIVEN WITH THE SEED: THE CARDS: each row of YtbjjobifpmjhhaaDoorRows.lean that lists a variable, with what it lists TIED to the program's text (the seventh form; the later family's looks); each row that meets fmt, with fmt's text TOLD by the authors' own Lean function (tested against real Go, not proved from fmt's source: count such statements apart). THE CARD IS WHAT COUNTS. Prove the row's statement (the work); the ties are given (YtbjjobifpmjhhaaDoorTie.lean); close each card by the builder's one call (the guide's Derived/Test/ToyasCard.lean, 'card_holds'). Laid BY PROGRAM, IN A SANDBOX (cutbox-door.mjs). By AI agents, Wed Nov 11 2026. No macro, syntax, notation, axiom, sorry.
-/
import Derived.Test.YtbjjobifpmjhhaaDoorRows
import GoSem.ClaimSeven
namespace Go.Proofs.YtbjjobifpmjhhaaDoor
namespace Rows

/-- THE TIED CARD OF 'louverlaw18.MessageCloses'. -/
def messageClosesCard : Claim7 := { stood := { row := messageClosesRow, standIns := [], harness := (true, "fbd16d7800f3827664172577c814f379c8012223e2b4dfae434c2757f034540f"), looks := true }, kinds := [], alts := [], laidByText := true, laidKinds := [.handle], laidTests := true, laidLooks := .later }
def MessageClosesCardSaid : Prop := Claim7.holds Tryd.pinned (.plain (OpenSpec.ofChange messageClosesSpec)) messageClosesCard

/-- THE TIED CARD OF 'louverlaw18.MessagePlays'. -/
def messagePlaysCard : Claim7 := { stood := { row := messagePlaysRow, standIns := [], harness := (true, "fbd16d7800f3827664172577c814f379c8012223e2b4dfae434c2757f034540f"), looks := true }, kinds := [], alts := [], laidByText := true, laidKinds := [.handle], laidTests := true, laidLooks := .later }
def MessagePlaysCardSaid : Prop := Claim7.holds Tryd.pinned (.plain (OpenSpec.ofChange messagePlaysSpec)) messagePlaysCard

/-- THE TIED CARD OF 'louverlaw18.MessageNil'. -/
def messageNilCard : Claim7 := { stood := { row := messageNilRow, standIns := [], harness := (true, "fbd16d7800f3827664172577c814f379c8012223e2b4dfae434c2757f034540f"), looks := true }, kinds := [], alts := [], laidByText := true, laidKinds := [.handle], laidTests := true, laidLooks := .later }
def MessageNilCardSaid : Prop := Claim7.holds Tryd.pinned (.plain (OpenSpec.ofChange messageNilSpec)) messageNilCard

/-- THE TIED CARD OF 'louverlaw18.MessageCuts'. -/
def messageCutsCard : Claim7 := { stood := { row := messageCutsRow, standIns := [], harness := (true, "fbd16d7800f3827664172577c814f379c8012223e2b4dfae434c2757f034540f"), looks := true }, kinds := [], alts := [], laidByText := true, laidKinds := [.handle], laidTests := true, laidLooks := .later }
def MessageCutsCardSaid : Prop := Claim7.holds Tryd.pinned (.plain (OpenSpec.ofChange messageCutsSpec)) messageCutsCard

/-- THE TIED CARD OF 'louverlaw18.MessageRow'. -/
def messageRowCard : Claim7 := { stood := { row := messageRowRow, standIns := [], harness := (true, "fbd16d7800f3827664172577c814f379c8012223e2b4dfae434c2757f034540f"), looks := true }, kinds := [], alts := [], laidByText := true, laidKinds := [.handle], laidTests := true, laidLooks := .later }
def MessageRowCardSaid : Prop := Claim7.holds Tryd.pinned (.plain (OpenSpec.ofChange messageRowSpec)) messageRowCard

/-- THE TIED CARD OF 'louverlaw18.MessageGreat'. -/
def messageGreatCard : Claim7 := { stood := { row := messageGreatRow, standIns := [], harness := (true, "fbd16d7800f3827664172577c814f379c8012223e2b4dfae434c2757f034540f"), looks := true }, kinds := [], alts := [], laidByText := true, laidKinds := [.handle], laidTests := true, laidLooks := .later }
def MessageGreatCardSaid : Prop := Claim7.holds Tryd.pinned (.plain (OpenSpec.ofChange messageGreatSpec)) messageGreatCard

/-- THE SECOND FORM's CARD OF 'louverlaw18.MessageCloses'. -/
def messageClosesUptoCard : Claim7 := { stood := { row := messageClosesUptoRow, standIns := [], harness := (true, "fbd16d7800f3827664172577c814f379c8012223e2b4dfae434c2757f034540f"), looks := true }, kinds := [], alts := [], laidByText := true, laidKinds := [.handle], laidTests := true, laidLooks := .later }
def MessageClosesUptoCardSaid : Prop := Claim7.holds Tryd.pinned (.plain (OpenSpec.upto messageClosesSpec)) messageClosesUptoCard

/-- THE SECOND FORM's CARD OF 'louverlaw18.MessagePlays'. -/
def messagePlaysUptoCard : Claim7 := { stood := { row := messagePlaysUptoRow, standIns := [], harness := (true, "fbd16d7800f3827664172577c814f379c8012223e2b4dfae434c2757f034540f"), looks := true }, kinds := [], alts := [], laidByText := true, laidKinds := [.handle], laidTests := true, laidLooks := .later }
def MessagePlaysUptoCardSaid : Prop := Claim7.holds Tryd.pinned (.plain (OpenSpec.upto messagePlaysSpec)) messagePlaysUptoCard

/-- THE SECOND FORM's CARD OF 'louverlaw18.MessageNil'. -/
def messageNilUptoCard : Claim7 := { stood := { row := messageNilUptoRow, standIns := [], harness := (true, "fbd16d7800f3827664172577c814f379c8012223e2b4dfae434c2757f034540f"), looks := true }, kinds := [], alts := [], laidByText := true, laidKinds := [.handle], laidTests := true, laidLooks := .later }
def MessageNilUptoCardSaid : Prop := Claim7.holds Tryd.pinned (.plain (OpenSpec.upto messageNilSpec)) messageNilUptoCard

/-- THE SECOND FORM's CARD OF 'louverlaw18.MessageCuts'. -/
def messageCutsUptoCard : Claim7 := { stood := { row := messageCutsUptoRow, standIns := [], harness := (true, "fbd16d7800f3827664172577c814f379c8012223e2b4dfae434c2757f034540f"), looks := true }, kinds := [], alts := [], laidByText := true, laidKinds := [.handle], laidTests := true, laidLooks := .later }
def MessageCutsUptoCardSaid : Prop := Claim7.holds Tryd.pinned (.plain (OpenSpec.upto messageCutsSpec)) messageCutsUptoCard

/-- THE SECOND FORM's CARD OF 'louverlaw18.MessageRow'. -/
def messageRowUptoCard : Claim7 := { stood := { row := messageRowUptoRow, standIns := [], harness := (true, "fbd16d7800f3827664172577c814f379c8012223e2b4dfae434c2757f034540f"), looks := true }, kinds := [], alts := [], laidByText := true, laidKinds := [.handle], laidTests := true, laidLooks := .later }
def MessageRowUptoCardSaid : Prop := Claim7.holds Tryd.pinned (.plain (OpenSpec.upto messageRowSpec)) messageRowUptoCard

/-- THE SECOND FORM's CARD OF 'louverlaw18.MessageGreat'. -/
def messageGreatUptoCard : Claim7 := { stood := { row := messageGreatUptoRow, standIns := [], harness := (true, "fbd16d7800f3827664172577c814f379c8012223e2b4dfae434c2757f034540f"), looks := true }, kinds := [], alts := [], laidByText := true, laidKinds := [.handle], laidTests := true, laidLooks := .later }
def MessageGreatUptoCardSaid : Prop := Claim7.holds Tryd.pinned (.plain (OpenSpec.upto messageGreatSpec)) messageGreatUptoCard
end Rows
end Go.Proofs.YtbjjobifpmjhhaaDoor
