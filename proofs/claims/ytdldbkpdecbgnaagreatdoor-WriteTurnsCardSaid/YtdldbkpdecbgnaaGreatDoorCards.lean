/-
  DERIVED. GIVEN WITH THE SEED: THE CARDS: each row of YtdldbkpdecbgnaaGreatDoorRows.lean that lists a variable, with what it lists TIED to the program's text (the seventh form; the later family's looks); each row that meets fmt, with fmt's text TOLD by the authors' own Lean function (tested against real Go, not proved from fmt's source: count such statements apart). THE CARD IS WHAT COUNTS. Prove the row's statement (the work); the ties are given (YtdldbkpdecbgnaaGreatDoorTie.lean); close each card by the builder's one call (the guide's Derived/Test/ToyasCard.lean, 'card_holds'). Laid BY PROGRAM, IN A SANDBOX (cutbox-door.mjs). By AI agents, Wed Nov 11 2026. No macro, syntax, notation, axiom, sorry.
-/
import Derived.Test.YtdldbkpdecbgnaaGreatDoorRows
import GoSem.ClaimSeven
namespace Go.Proofs.YtdldbkpdecbgnaaGreatDoor
namespace Rows

/-- THE TIED CARD OF 'causeylaw26.WriteTurns'. -/
def writeTurnsCard : Claim7 := { stood := { row := writeTurnsRow, standIns := [], harness := (true, "1a09bdab915a0efa133d0471df3e5426fd3938bf152b88902e75844def90748f"), looks := false }, kinds := [], alts := [], laidByText := true, laidKinds := [.data, .pinned], laidTests := true, laidLooks := .later }
def WriteTurnsCardSaid : Prop := Claim7.holds Tryz.pinned (.plain (OpenSpec.ofChange writeTurnsSpec)) writeTurnsCard

/-- THE TIED CARD OF 'causeylaw26.WriteBack'. -/
def writeBackCard : Claim7 := { stood := { row := writeBackRow, standIns := [], harness := (true, "1a09bdab915a0efa133d0471df3e5426fd3938bf152b88902e75844def90748f"), looks := false }, kinds := [], alts := [], laidByText := true, laidKinds := [.data, .pinned], laidTests := true, laidLooks := .later }
def WriteBackCardSaid : Prop := Claim7.holds Tryz.pinned (.plain (OpenSpec.ofChange writeBackSpec)) writeBackCard

/-- THE SECOND FORM's CARD OF 'causeylaw26.WriteTurns'. -/
def writeTurnsUptoCard : Claim7 := { stood := { row := writeTurnsUptoRow, standIns := [], harness := (true, "1a09bdab915a0efa133d0471df3e5426fd3938bf152b88902e75844def90748f"), looks := false }, kinds := [], alts := [], laidByText := true, laidKinds := [.data, .pinned], laidTests := true, laidLooks := .later }
def WriteTurnsUptoCardSaid : Prop := Claim7.holds Tryz.pinned (.plain (OpenSpec.upto writeTurnsSpec)) writeTurnsUptoCard

/-- THE SECOND FORM's CARD OF 'causeylaw26.WriteBack'. -/
def writeBackUptoCard : Claim7 := { stood := { row := writeBackUptoRow, standIns := [], harness := (true, "1a09bdab915a0efa133d0471df3e5426fd3938bf152b88902e75844def90748f"), looks := false }, kinds := [], alts := [], laidByText := true, laidKinds := [.data, .pinned], laidTests := true, laidLooks := .later }
def WriteBackUptoCardSaid : Prop := Claim7.holds Tryz.pinned (.plain (OpenSpec.upto writeBackSpec)) writeBackUptoCard
end Rows
end Go.Proofs.YtdldbkpdecbgnaaGreatDoor
