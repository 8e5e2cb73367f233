/-
  DERIVED. GIVEN WITH THE SEED: THE CARDS: each row of YtoebcpfligblaaaGreatDoorRows.lean that lists a variable, with what it lists TIED to the program's text (the seventh form; the later family's looks); each row that meets fmt, with fmt's text TOLD by the authors' own Lean function (tested against real Go, not proved from fmt's source: count such statements apart). THE CARD IS WHAT COUNTS. Prove the row's statement (the work); the ties are given (YtoebcpfligblaaaGreatDoorTie.lean); close each card by the builder's one call (the guide's Derived/Test/ToyasCard.lean, 'card_holds'). Laid BY PROGRAM, IN A SANDBOX (cutbox-door.mjs). By AI agents, Wed Nov 11 2026. No macro, syntax, notation, axiom, sorry.
-/
import Derived.Test.YtoebcpfligblaaaGreatDoorRows
import GoSem.ClaimSeven
namespace Go.Proofs.YtoebcpfligblaaaGreatDoor
namespace Rows

/-- THE TIED CARD OF 'causeylaw30.FarLets'. -/
def farLetsCard : Claim7 := { stood := { row := farLetsRow, standIns := [], harness := (true, "2a92d20fa05981c395b2e604d6d7486836633b1206b574d2c07ab3ef345392df"), looks := false }, kinds := [], alts := [], laidByText := true, laidKinds := [.data, .pinned], laidTests := true, laidLooks := .later }
def FarLetsCardSaid : Prop := Claim7.holds Tryz.pinned (.plain (OpenSpec.ofChange farLetsSpec)) farLetsCard

/-- THE SECOND FORM's CARD OF 'causeylaw30.FarLets'. -/
def farLetsUptoCard : Claim7 := { stood := { row := farLetsUptoRow, standIns := [], harness := (true, "2a92d20fa05981c395b2e604d6d7486836633b1206b574d2c07ab3ef345392df"), looks := false }, kinds := [], alts := [], laidByText := true, laidKinds := [.data, .pinned], laidTests := true, laidLooks := .later }
def FarLetsUptoCardSaid : Prop := Claim7.holds Tryz.pinned (.plain (OpenSpec.upto farLetsSpec)) farLetsUptoCard
end Rows
end Go.Proofs.YtoebcpfligblaaaGreatDoor
