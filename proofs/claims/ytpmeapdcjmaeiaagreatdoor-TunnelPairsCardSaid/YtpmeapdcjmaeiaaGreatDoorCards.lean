/-
  DERIVED. GIVEN WITH THE SEED: THE CARDS: each row of YtpmeapdcjmaeiaaGreatDoorRows.lean that lists a variable, with what it lists TIED to the program's text (the seventh form; the later family's looks); each row that meets fmt, with fmt's text TOLD by the authors' own Lean function (tested against real Go, not proved from fmt's source: count such statements apart). THE CARD IS WHAT COUNTS. Prove the row's statement (the work); the ties are given (YtpmeapdcjmaeiaaGreatDoorTie.lean); close each card by the builder's one call (the guide's Derived/Test/ToyasCard.lean, 'card_holds'). Laid BY PROGRAM, IN A SANDBOX (cutbox-door.mjs). By AI agents, Wed Nov 11 2026. No macro, syntax, notation, axiom, sorry.
-/
import Derived.Test.YtpmeapdcjmaeiaaGreatDoorRows
import GoSem.ClaimSeven
namespace Go.Proofs.YtpmeapdcjmaeiaaGreatDoor
namespace Rows

/-- THE TIED CARD OF 'louverlaw20.TunnelKeys'. -/
def tunnelKeysCard : Claim7 := { stood := { row := tunnelKeysRow, standIns := [], harness := (true, "89a77d9873017c7094ab07e6209a22f33f5332747e19b49499c2f9a44b43a937"), looks := true }, kinds := [], alts := [], laidByText := true, laidKinds := [.handle], laidTests := true, laidLooks := .later }
def TunnelKeysCardSaid : Prop := Claim7.holds Tryz.pinned (.plain (OpenSpec.ofChange tunnelKeysSpec)) tunnelKeysCard

/-- THE TIED CARD OF 'louverlaw20.TunnelPairs'. -/
def tunnelPairsCard : Claim7 := { stood := { row := tunnelPairsRow, standIns := [], harness := (true, "89a77d9873017c7094ab07e6209a22f33f5332747e19b49499c2f9a44b43a937"), looks := true }, kinds := [], alts := [], laidByText := true, laidKinds := [.handle], laidTests := true, laidLooks := .later }
def TunnelPairsCardSaid : Prop := Claim7.holds Tryz.pinned (.plain (OpenSpec.ofChange tunnelPairsSpec)) tunnelPairsCard

/-- THE TIED CARD OF 'louverlaw20.TunnelNil'. -/
def tunnelNilCard : Claim7 := { stood := { row := tunnelNilRow, standIns := [], harness := (true, "89a77d9873017c7094ab07e6209a22f33f5332747e19b49499c2f9a44b43a937"), looks := true }, kinds := [], alts := [], laidByText := true, laidKinds := [.handle], laidTests := true, laidLooks := .later }
def TunnelNilCardSaid : Prop := Claim7.holds Tryz.pinned (.plain (OpenSpec.ofChange tunnelNilSpec)) tunnelNilCard

/-- THE TIED CARD OF 'louverlaw20.TunnelPlays'. -/
def tunnelPlaysCard : Claim7 := { stood := { row := tunnelPlaysRow, standIns := [], harness := (true, "89a77d9873017c7094ab07e6209a22f33f5332747e19b49499c2f9a44b43a937"), looks := true }, kinds := [], alts := [], laidByText := true, laidKinds := [.handle], laidTests := true, laidLooks := .later }
def TunnelPlaysCardSaid : Prop := Claim7.holds Tryz.pinned (.plain (OpenSpec.ofChange tunnelPlaysSpec)) tunnelPlaysCard

/-- THE SECOND FORM's CARD OF 'louverlaw20.TunnelKeys'. -/
def tunnelKeysUptoCard : Claim7 := { stood := { row := tunnelKeysUptoRow, standIns := [], harness := (true, "89a77d9873017c7094ab07e6209a22f33f5332747e19b49499c2f9a44b43a937"), looks := true }, kinds := [], alts := [], laidByText := true, laidKinds := [.handle], laidTests := true, laidLooks := .later }
def TunnelKeysUptoCardSaid : Prop := Claim7.holds Tryz.pinned (.plain (OpenSpec.upto tunnelKeysSpec)) tunnelKeysUptoCard

/-- THE SECOND FORM's CARD OF 'louverlaw20.TunnelPairs'. -/
def tunnelPairsUptoCard : Claim7 := { stood := { row := tunnelPairsUptoRow, standIns := [], harness := (true, "89a77d9873017c7094ab07e6209a22f33f5332747e19b49499c2f9a44b43a937"), looks := true }, kinds := [], alts := [], laidByText := true, laidKinds := [.handle], laidTests := true, laidLooks := .later }
def TunnelPairsUptoCardSaid : Prop := Claim7.holds Tryz.pinned (.plain (OpenSpec.upto tunnelPairsSpec)) tunnelPairsUptoCard

/-- THE SECOND FORM's CARD OF 'louverlaw20.TunnelNil'. -/
def tunnelNilUptoCard : Claim7 := { stood := { row := tunnelNilUptoRow, standIns := [], harness := (true, "89a77d9873017c7094ab07e6209a22f33f5332747e19b49499c2f9a44b43a937"), looks := true }, kinds := [], alts := [], laidByText := true, laidKinds := [.handle], laidTests := true, laidLooks := .later }
def TunnelNilUptoCardSaid : Prop := Claim7.holds Tryz.pinned (.plain (OpenSpec.upto tunnelNilSpec)) tunnelNilUptoCard

/-- THE SECOND FORM's CARD OF 'louverlaw20.TunnelPlays'. -/
def tunnelPlaysUptoCard : Claim7 := { stood := { row := tunnelPlaysUptoRow, standIns := [], harness := (true, "89a77d9873017c7094ab07e6209a22f33f5332747e19b49499c2f9a44b43a937"), looks := true }, kinds := [], alts := [], laidByText := true, laidKinds := [.handle], laidTests := true, laidLooks := .later }
def TunnelPlaysUptoCardSaid : Prop := Claim7.holds Tryz.pinned (.plain (OpenSpec.upto tunnelPlaysSpec)) tunnelPlaysUptoCard
end Rows
end Go.Proofs.YtpmeapdcjmaeiaaGreatDoor
