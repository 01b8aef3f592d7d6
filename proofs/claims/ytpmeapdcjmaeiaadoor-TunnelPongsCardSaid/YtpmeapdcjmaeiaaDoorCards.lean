/-
  DERIVED. GIVEN WITH THE SEED: THE CARDS: each row of YtpmeapdcjmaeiaaDoorRows.lean that lists a variable, with what it lists TIED to the program's text (the seventh form; the later family's looks); each row that meets fmt, with fmt's text TOLD by the authors' own Lean function (tested against real Go, not proved from fmt's source: count such statements apart). THE CARD IS WHAT COUNTS. Prove the row's statement (the work); the ties are given (YtpmeapdcjmaeiaaDoorTie.lean); close each card by the builder's one call (the guide's Derived/Test/ToyasCard.lean, 'card_holds'). Laid BY PROGRAM, IN A SANDBOX (cutbox-door.mjs). By AI agents, Wed Nov 11 2026. No macro, syntax, notation, axiom, sorry.
-/
import Derived.Test.YtpmeapdcjmaeiaaDoorRows
import GoSem.ClaimSeven
namespace Go.Proofs.YtpmeapdcjmaeiaaDoor
namespace Rows

/-- THE TIED CARD OF 'louverlaw20.TunnelPongs'. -/
def tunnelPongsCard : Claim7 := { stood := { row := tunnelPongsRow, standIns := [], harness := (true, "7d84dbe470f8a53f21277ad46ea97c0ed7d63006d3c6bffa5284a90fb21f79d7"), looks := true }, kinds := [], alts := [], laidByText := true, laidKinds := [.handle], laidTests := true, laidLooks := .later }
def TunnelPongsCardSaid : Prop := Claim7.holds Tryd.pinned (.plain (OpenSpec.ofChange tunnelPongsSpec)) tunnelPongsCard

/-- THE SECOND FORM's CARD OF 'louverlaw20.TunnelPongs'. -/
def tunnelPongsUptoCard : Claim7 := { stood := { row := tunnelPongsUptoRow, standIns := [], harness := (true, "7d84dbe470f8a53f21277ad46ea97c0ed7d63006d3c6bffa5284a90fb21f79d7"), looks := true }, kinds := [], alts := [], laidByText := true, laidKinds := [.handle], laidTests := true, laidLooks := .later }
def TunnelPongsUptoCardSaid : Prop := Claim7.holds Tryd.pinned (.plain (OpenSpec.upto tunnelPongsSpec)) tunnelPongsUptoCard
end Rows
end Go.Proofs.YtpmeapdcjmaeiaaDoor
