/-
  DERIVED. GIVEN WITH THE SEED: THE CARDS: each row of YtfijlhdheiebcaaGreatDoorRows.lean that lists a variable, with what it lists TIED to the program's text (the seventh form; the later family's looks); each row that meets fmt, with fmt's text TOLD by the authors' own Lean function (tested against real Go, not proved from fmt's source: count such statements apart). THE CARD IS WHAT COUNTS. Prove the row's statement (the work); the ties are given (YtfijlhdheiebcaaGreatDoorTie.lean); close each card by the builder's one call (the guide's Derived/Test/ToyasCard.lean, 'card_holds'). Laid BY PROGRAM, IN A SANDBOX (cutbox-door.mjs). By AI agents, Wed Nov 11 2026. No macro, syntax, notation, axiom, sorry.
-/
import Derived.Test.YtfijlhdheiebcaaGreatDoorRows
import GoSem.ClaimSeven
namespace Go.Proofs.YtfijlhdheiebcaaGreatDoor
namespace Rows

/-- THE TIED CARD OF 'causeylaw26.WriteStays'. -/
def writeStaysCard : Claim7 := { stood := { row := writeStaysRow, standIns := [], harness := (true, "a757f8c39978169d63e12c21bb36cc56fb68d0171c62c48878325079cd933c6a"), looks := false }, kinds := [], alts := [], laidByText := true, laidKinds := [.data, .pinned], laidTests := true, laidLooks := .later }
def WriteStaysCardSaid : Prop := Claim7.holds Tryz.pinned (.plain (OpenSpec.ofChange writeStaysSpec)) writeStaysCard

/-- THE TIED CARD OF 'causeylaw26.WriteBest'. -/
def writeBestCard : Claim7 := { stood := { row := writeBestRow, standIns := [], harness := (true, "a757f8c39978169d63e12c21bb36cc56fb68d0171c62c48878325079cd933c6a"), looks := false }, kinds := [], alts := [], laidByText := true, laidKinds := [.data, .pinned], laidTests := true, laidLooks := .later }
def WriteBestCardSaid : Prop := Claim7.holds Tryz.pinned (.plain (OpenSpec.ofChange writeBestSpec)) writeBestCard

/-- THE TIED CARD OF 'causeylaw26.WriteBack'. -/
def writeBackCard : Claim7 := { stood := { row := writeBackRow, standIns := [], harness := (true, "a757f8c39978169d63e12c21bb36cc56fb68d0171c62c48878325079cd933c6a"), looks := false }, kinds := [], alts := [], laidByText := true, laidKinds := [.data, .pinned], laidTests := true, laidLooks := .later }
def WriteBackCardSaid : Prop := Claim7.holds Tryz.pinned (.plain (OpenSpec.ofChange writeBackSpec)) writeBackCard

/-- THE TIED CARD OF 'causeylaw26.WriteShut'. -/
def writeShutCard : Claim7 := { stood := { row := writeShutRow, standIns := [], harness := (true, "a757f8c39978169d63e12c21bb36cc56fb68d0171c62c48878325079cd933c6a"), looks := false }, kinds := [], alts := [], laidByText := true, laidKinds := [.data, .pinned], laidTests := true, laidLooks := .later }
def WriteShutCardSaid : Prop := Claim7.holds Tryz.pinned (.plain (OpenSpec.ofChange writeShutSpec)) writeShutCard

/-- THE SECOND FORM's CARD OF 'causeylaw26.WriteStays'. -/
def writeStaysUptoCard : Claim7 := { stood := { row := writeStaysUptoRow, standIns := [], harness := (true, "a757f8c39978169d63e12c21bb36cc56fb68d0171c62c48878325079cd933c6a"), looks := false }, kinds := [], alts := [], laidByText := true, laidKinds := [.data, .pinned], laidTests := true, laidLooks := .later }
def WriteStaysUptoCardSaid : Prop := Claim7.holds Tryz.pinned (.plain (OpenSpec.upto writeStaysSpec)) writeStaysUptoCard

/-- THE SECOND FORM's CARD OF 'causeylaw26.WriteBest'. -/
def writeBestUptoCard : Claim7 := { stood := { row := writeBestUptoRow, standIns := [], harness := (true, "a757f8c39978169d63e12c21bb36cc56fb68d0171c62c48878325079cd933c6a"), looks := false }, kinds := [], alts := [], laidByText := true, laidKinds := [.data, .pinned], laidTests := true, laidLooks := .later }
def WriteBestUptoCardSaid : Prop := Claim7.holds Tryz.pinned (.plain (OpenSpec.upto writeBestSpec)) writeBestUptoCard

/-- THE SECOND FORM's CARD OF 'causeylaw26.WriteBack'. -/
def writeBackUptoCard : Claim7 := { stood := { row := writeBackUptoRow, standIns := [], harness := (true, "a757f8c39978169d63e12c21bb36cc56fb68d0171c62c48878325079cd933c6a"), looks := false }, kinds := [], alts := [], laidByText := true, laidKinds := [.data, .pinned], laidTests := true, laidLooks := .later }
def WriteBackUptoCardSaid : Prop := Claim7.holds Tryz.pinned (.plain (OpenSpec.upto writeBackSpec)) writeBackUptoCard

/-- THE SECOND FORM's CARD OF 'causeylaw26.WriteShut'. -/
def writeShutUptoCard : Claim7 := { stood := { row := writeShutUptoRow, standIns := [], harness := (true, "a757f8c39978169d63e12c21bb36cc56fb68d0171c62c48878325079cd933c6a"), looks := false }, kinds := [], alts := [], laidByText := true, laidKinds := [.data, .pinned], laidTests := true, laidLooks := .later }
def WriteShutUptoCardSaid : Prop := Claim7.holds Tryz.pinned (.plain (OpenSpec.upto writeShutSpec)) writeShutUptoCard
end Rows
end Go.Proofs.YtfijlhdheiebcaaGreatDoor
