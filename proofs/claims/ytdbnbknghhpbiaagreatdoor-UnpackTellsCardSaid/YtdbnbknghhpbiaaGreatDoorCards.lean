/-
  DERIVED. GIVEN WITH THE SEED: THE CARDS: each row of YtdbnbknghhpbiaaGreatDoorRows.lean that lists a variable, with what it lists TIED to the program's text (the seventh form; the later family's looks); each row that meets fmt, with fmt's text TOLD by the authors' own Lean function (tested against real Go, not proved from fmt's source: count such statements apart). THE CARD IS WHAT COUNTS. Prove the row's statement (the work); the ties are given (YtdbnbknghhpbiaaGreatDoorTie.lean); close each card by the builder's one call (the guide's Derived/Test/ToyasCard.lean, 'card_holds'). Laid BY PROGRAM, IN A SANDBOX (cutbox-door.mjs). By AI agents, Wed Nov 11 2026. No macro, syntax, notation, axiom, sorry.
-/
import Derived.Test.YtdbnbknghhpbiaaGreatDoorRows
import GoSem.ClaimSeven
namespace Go.Proofs.YtdbnbknghhpbiaaGreatDoor
namespace Rows

/-- THE TIED CARD OF 'causeylaw11.PackTells'. -/
def packTellsCard : Claim7 := { stood := { row := packTellsRow, standIns := [], harness := (true, "f4fb5573b049752e145c09357876d2dc34379152308c35decab54d549980b118"), looks := false }, kinds := [], alts := [], laidByText := true, laidKinds := [.data, .pinned], laidTests := true, laidLooks := .later }
def PackTellsCardSaid : Prop := Claim7.holds Tryz.pinned (.plain (OpenSpec.ofChange packTellsSpec)) packTellsCard

/-- THE TIED CARD OF 'causeylaw10.UnpackTells'. -/
def unpackTellsCard : Claim7 := { stood := { row := unpackTellsRow, standIns := [], harness := (true, "f4fb5573b049752e145c09357876d2dc34379152308c35decab54d549980b118"), looks := false }, kinds := [], alts := [], laidByText := true, laidKinds := [.data, .pinned], laidTests := true, laidLooks := .later }
def UnpackTellsCardSaid : Prop := Claim7.holds Tryz.pinned (.plain (OpenSpec.ofChange unpackTellsSpec)) unpackTellsCard

/-- THE SECOND FORM's CARD OF 'causeylaw11.PackTells'. -/
def packTellsUptoCard : Claim7 := { stood := { row := packTellsUptoRow, standIns := [], harness := (true, "f4fb5573b049752e145c09357876d2dc34379152308c35decab54d549980b118"), looks := false }, kinds := [], alts := [], laidByText := true, laidKinds := [.data, .pinned], laidTests := true, laidLooks := .later }
def PackTellsUptoCardSaid : Prop := Claim7.holds Tryz.pinned (.plain (OpenSpec.upto packTellsSpec)) packTellsUptoCard

/-- THE SECOND FORM's CARD OF 'causeylaw10.UnpackTells'. -/
def unpackTellsUptoCard : Claim7 := { stood := { row := unpackTellsUptoRow, standIns := [], harness := (true, "f4fb5573b049752e145c09357876d2dc34379152308c35decab54d549980b118"), looks := false }, kinds := [], alts := [], laidByText := true, laidKinds := [.data, .pinned], laidTests := true, laidLooks := .later }
def UnpackTellsUptoCardSaid : Prop := Claim7.holds Tryz.pinned (.plain (OpenSpec.upto unpackTellsSpec)) unpackTellsUptoCard
end Rows
end Go.Proofs.YtdbnbknghhpbiaaGreatDoor
