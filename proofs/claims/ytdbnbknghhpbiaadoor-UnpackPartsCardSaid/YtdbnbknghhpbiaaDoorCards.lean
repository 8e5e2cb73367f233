/-
  DERIVED. GIVEN WITH THE SEED: THE CARDS: each row of YtdbnbknghhpbiaaDoorRows.lean that lists a variable, with what it lists TIED to the program's text (the seventh form; the later family's looks); each row that meets fmt, with fmt's text TOLD by the authors' own Lean function (tested against real Go, not proved from fmt's source: count such statements apart). THE CARD IS WHAT COUNTS. Prove the row's statement (the work); the ties are given (YtdbnbknghhpbiaaDoorTie.lean); close each card by the builder's one call (the guide's Derived/Test/ToyasCard.lean, 'card_holds'). Laid BY PROGRAM, IN A SANDBOX (cutbox-door.mjs). By AI agents, Wed Nov 11 2026. No macro, syntax, notation, axiom, sorry.
-/
import Derived.Test.YtdbnbknghhpbiaaDoorRows
import GoSem.ClaimSeven
namespace Go.Proofs.YtdbnbknghhpbiaaDoor
namespace Rows

/-- THE TIED CARD OF 'causeylaw09.TableTells'. -/
def tableTellsCard : Claim7 := { stood := { row := tableTellsRow, standIns := [], harness := (true, "5b9beb9e33598c423fa1181093a9c1a090d2e7977fffce66b87bd6fef8be9322"), looks := false }, kinds := [], alts := [], laidByText := true, laidKinds := [.data, .pinned], laidTests := true, laidLooks := .later }
def TableTellsCardSaid : Prop := Claim7.holds Tryd.pinned (.plain (OpenSpec.ofChange tableTellsSpec)) tableTellsCard

/-- THE TIED CARD OF 'causeylaw09.TableAdds'. -/
def tableAddsCard : Claim7 := { stood := { row := tableAddsRow, standIns := [], harness := (true, "5b9beb9e33598c423fa1181093a9c1a090d2e7977fffce66b87bd6fef8be9322"), looks := false }, kinds := [], alts := [], laidByText := true, laidKinds := [.data, .pinned], laidTests := true, laidLooks := .later }
def TableAddsCardSaid : Prop := Claim7.holds Tryd.pinned (.plain (OpenSpec.ofChange tableAddsSpec)) tableAddsCard

/-- THE TIED CARD OF 'causeylaw09.TableSizes'. -/
def tableSizesCard : Claim7 := { stood := { row := tableSizesRow, standIns := [], harness := (true, "5b9beb9e33598c423fa1181093a9c1a090d2e7977fffce66b87bd6fef8be9322"), looks := false }, kinds := [], alts := [], laidByText := true, laidKinds := [.data, .pinned], laidTests := true, laidLooks := .later }
def TableSizesCardSaid : Prop := Claim7.holds Tryd.pinned (.plain (OpenSpec.ofChange tableSizesSpec)) tableSizesCard

/-- THE TIED CARD OF 'causeylaw09.TableFinds'. -/
def tableFindsCard : Claim7 := { stood := { row := tableFindsRow, standIns := [], harness := (true, "5b9beb9e33598c423fa1181093a9c1a090d2e7977fffce66b87bd6fef8be9322"), looks := false }, kinds := [], alts := [], laidByText := true, laidKinds := [.data, .pinned], laidTests := true, laidLooks := .later }
def TableFindsCardSaid : Prop := Claim7.holds Tryd.pinned (.plain (OpenSpec.ofChange tableFindsSpec)) tableFindsCard

/-- THE TIED CARD OF 'causeylaw09.TableOwn'. -/
def tableOwnCard : Claim7 := { stood := { row := tableOwnRow, standIns := [], harness := (true, "5b9beb9e33598c423fa1181093a9c1a090d2e7977fffce66b87bd6fef8be9322"), looks := false }, kinds := [], alts := [], laidByText := true, laidKinds := [.data, .pinned], laidTests := true, laidLooks := .later }
def TableOwnCardSaid : Prop := Claim7.holds Tryd.pinned (.plain (OpenSpec.ofChange tableOwnSpec)) tableOwnCard

/-- THE TIED CARD OF 'causeylaw11.PackBack'. -/
def packBackCard : Claim7 := { stood := { row := packBackRow, standIns := [], harness := (true, "5b9beb9e33598c423fa1181093a9c1a090d2e7977fffce66b87bd6fef8be9322"), looks := false }, kinds := [], alts := [], laidByText := true, laidKinds := [.data, .pinned], laidTests := true, laidLooks := .later }
def PackBackCardSaid : Prop := Claim7.holds Tryd.pinned (.plain (OpenSpec.ofChange packBackSpec)) packBackCard

/-- THE TIED CARD OF 'causeylaw11.PackSecret'. -/
def packSecretCard : Claim7 := { stood := { row := packSecretRow, standIns := [], harness := (true, "5b9beb9e33598c423fa1181093a9c1a090d2e7977fffce66b87bd6fef8be9322"), looks := false }, kinds := [], alts := [], laidByText := true, laidKinds := [.data, .pinned], laidTests := true, laidLooks := .later }
def PackSecretCardSaid : Prop := Claim7.holds Tryd.pinned (.plain (OpenSpec.ofChange packSecretSpec)) packSecretCard

/-- THE TIED CARD OF 'causeylaw11.PackParts'. -/
def packPartsCard : Claim7 := { stood := { row := packPartsRow, standIns := [], harness := (true, "5b9beb9e33598c423fa1181093a9c1a090d2e7977fffce66b87bd6fef8be9322"), looks := false }, kinds := [], alts := [], laidByText := true, laidKinds := [.data, .pinned], laidTests := true, laidLooks := .later }
def PackPartsCardSaid : Prop := Claim7.holds Tryd.pinned (.plain (OpenSpec.ofChange packPartsSpec)) packPartsCard

/-- THE TIED CARD OF 'causeylaw11.PackOwn'. -/
def packOwnCard : Claim7 := { stood := { row := packOwnRow, standIns := [], harness := (true, "5b9beb9e33598c423fa1181093a9c1a090d2e7977fffce66b87bd6fef8be9322"), looks := false }, kinds := [], alts := [], laidByText := true, laidKinds := [.data, .pinned], laidTests := true, laidLooks := .later }
def PackOwnCardSaid : Prop := Claim7.holds Tryd.pinned (.plain (OpenSpec.ofChange packOwnSpec)) packOwnCard

/-- THE TIED CARD OF 'causeylaw10.UnpackParts'. -/
def unpackPartsCard : Claim7 := { stood := { row := unpackPartsRow, standIns := [], harness := (true, "5b9beb9e33598c423fa1181093a9c1a090d2e7977fffce66b87bd6fef8be9322"), looks := false }, kinds := [], alts := [], laidByText := true, laidKinds := [.data, .pinned], laidTests := true, laidLooks := .later }
def UnpackPartsCardSaid : Prop := Claim7.holds Tryd.pinned (.plain (OpenSpec.ofChange unpackPartsSpec)) unpackPartsCard

/-- THE TIED CARD OF 'causeylaw10.UnpackFields'. -/
def unpackFieldsCard : Claim7 := { stood := { row := unpackFieldsRow, standIns := [], harness := (true, "5b9beb9e33598c423fa1181093a9c1a090d2e7977fffce66b87bd6fef8be9322"), looks := false }, kinds := [], alts := [], laidByText := true, laidKinds := [.data, .pinned], laidTests := true, laidLooks := .later }
def UnpackFieldsCardSaid : Prop := Claim7.holds Tryd.pinned (.plain (OpenSpec.ofChange unpackFieldsSpec)) unpackFieldsCard

/-- THE TIED CARD OF 'causeylaw10.UnpackSizes'. -/
def unpackSizesCard : Claim7 := { stood := { row := unpackSizesRow, standIns := [], harness := (true, "5b9beb9e33598c423fa1181093a9c1a090d2e7977fffce66b87bd6fef8be9322"), looks := false }, kinds := [], alts := [], laidByText := true, laidKinds := [.data, .pinned], laidTests := true, laidLooks := .later }
def UnpackSizesCardSaid : Prop := Claim7.holds Tryd.pinned (.plain (OpenSpec.ofChange unpackSizesSpec)) unpackSizesCard

/-- THE SECOND FORM's CARD OF 'causeylaw09.TableTells'. -/
def tableTellsUptoCard : Claim7 := { stood := { row := tableTellsUptoRow, standIns := [], harness := (true, "5b9beb9e33598c423fa1181093a9c1a090d2e7977fffce66b87bd6fef8be9322"), looks := false }, kinds := [], alts := [], laidByText := true, laidKinds := [.data, .pinned], laidTests := true, laidLooks := .later }
def TableTellsUptoCardSaid : Prop := Claim7.holds Tryd.pinned (.plain (OpenSpec.upto tableTellsSpec)) tableTellsUptoCard

/-- THE SECOND FORM's CARD OF 'causeylaw09.TableAdds'. -/
def tableAddsUptoCard : Claim7 := { stood := { row := tableAddsUptoRow, standIns := [], harness := (true, "5b9beb9e33598c423fa1181093a9c1a090d2e7977fffce66b87bd6fef8be9322"), looks := false }, kinds := [], alts := [], laidByText := true, laidKinds := [.data, .pinned], laidTests := true, laidLooks := .later }
def TableAddsUptoCardSaid : Prop := Claim7.holds Tryd.pinned (.plain (OpenSpec.upto tableAddsSpec)) tableAddsUptoCard

/-- THE SECOND FORM's CARD OF 'causeylaw09.TableSizes'. -/
def tableSizesUptoCard : Claim7 := { stood := { row := tableSizesUptoRow, standIns := [], harness := (true, "5b9beb9e33598c423fa1181093a9c1a090d2e7977fffce66b87bd6fef8be9322"), looks := false }, kinds := [], alts := [], laidByText := true, laidKinds := [.data, .pinned], laidTests := true, laidLooks := .later }
def TableSizesUptoCardSaid : Prop := Claim7.holds Tryd.pinned (.plain (OpenSpec.upto tableSizesSpec)) tableSizesUptoCard

/-- THE SECOND FORM's CARD OF 'causeylaw09.TableFinds'. -/
def tableFindsUptoCard : Claim7 := { stood := { row := tableFindsUptoRow, standIns := [], harness := (true, "5b9beb9e33598c423fa1181093a9c1a090d2e7977fffce66b87bd6fef8be9322"), looks := false }, kinds := [], alts := [], laidByText := true, laidKinds := [.data, .pinned], laidTests := true, laidLooks := .later }
def TableFindsUptoCardSaid : Prop := Claim7.holds Tryd.pinned (.plain (OpenSpec.upto tableFindsSpec)) tableFindsUptoCard

/-- THE SECOND FORM's CARD OF 'causeylaw09.TableOwn'. -/
def tableOwnUptoCard : Claim7 := { stood := { row := tableOwnUptoRow, standIns := [], harness := (true, "5b9beb9e33598c423fa1181093a9c1a090d2e7977fffce66b87bd6fef8be9322"), looks := false }, kinds := [], alts := [], laidByText := true, laidKinds := [.data, .pinned], laidTests := true, laidLooks := .later }
def TableOwnUptoCardSaid : Prop := Claim7.holds Tryd.pinned (.plain (OpenSpec.upto tableOwnSpec)) tableOwnUptoCard

/-- THE SECOND FORM's CARD OF 'causeylaw11.PackBack'. -/
def packBackUptoCard : Claim7 := { stood := { row := packBackUptoRow, standIns := [], harness := (true, "5b9beb9e33598c423fa1181093a9c1a090d2e7977fffce66b87bd6fef8be9322"), looks := false }, kinds := [], alts := [], laidByText := true, laidKinds := [.data, .pinned], laidTests := true, laidLooks := .later }
def PackBackUptoCardSaid : Prop := Claim7.holds Tryd.pinned (.plain (OpenSpec.upto packBackSpec)) packBackUptoCard

/-- THE SECOND FORM's CARD OF 'causeylaw11.PackSecret'. -/
def packSecretUptoCard : Claim7 := { stood := { row := packSecretUptoRow, standIns := [], harness := (true, "5b9beb9e33598c423fa1181093a9c1a090d2e7977fffce66b87bd6fef8be9322"), looks := false }, kinds := [], alts := [], laidByText := true, laidKinds := [.data, .pinned], laidTests := true, laidLooks := .later }
def PackSecretUptoCardSaid : Prop := Claim7.holds Tryd.pinned (.plain (OpenSpec.upto packSecretSpec)) packSecretUptoCard

/-- THE SECOND FORM's CARD OF 'causeylaw11.PackParts'. -/
def packPartsUptoCard : Claim7 := { stood := { row := packPartsUptoRow, standIns := [], harness := (true, "5b9beb9e33598c423fa1181093a9c1a090d2e7977fffce66b87bd6fef8be9322"), looks := false }, kinds := [], alts := [], laidByText := true, laidKinds := [.data, .pinned], laidTests := true, laidLooks := .later }
def PackPartsUptoCardSaid : Prop := Claim7.holds Tryd.pinned (.plain (OpenSpec.upto packPartsSpec)) packPartsUptoCard

/-- THE SECOND FORM's CARD OF 'causeylaw11.PackOwn'. -/
def packOwnUptoCard : Claim7 := { stood := { row := packOwnUptoRow, standIns := [], harness := (true, "5b9beb9e33598c423fa1181093a9c1a090d2e7977fffce66b87bd6fef8be9322"), looks := false }, kinds := [], alts := [], laidByText := true, laidKinds := [.data, .pinned], laidTests := true, laidLooks := .later }
def PackOwnUptoCardSaid : Prop := Claim7.holds Tryd.pinned (.plain (OpenSpec.upto packOwnSpec)) packOwnUptoCard

/-- THE SECOND FORM's CARD OF 'causeylaw10.UnpackParts'. -/
def unpackPartsUptoCard : Claim7 := { stood := { row := unpackPartsUptoRow, standIns := [], harness := (true, "5b9beb9e33598c423fa1181093a9c1a090d2e7977fffce66b87bd6fef8be9322"), looks := false }, kinds := [], alts := [], laidByText := true, laidKinds := [.data, .pinned], laidTests := true, laidLooks := .later }
def UnpackPartsUptoCardSaid : Prop := Claim7.holds Tryd.pinned (.plain (OpenSpec.upto unpackPartsSpec)) unpackPartsUptoCard

/-- THE SECOND FORM's CARD OF 'causeylaw10.UnpackFields'. -/
def unpackFieldsUptoCard : Claim7 := { stood := { row := unpackFieldsUptoRow, standIns := [], harness := (true, "5b9beb9e33598c423fa1181093a9c1a090d2e7977fffce66b87bd6fef8be9322"), looks := false }, kinds := [], alts := [], laidByText := true, laidKinds := [.data, .pinned], laidTests := true, laidLooks := .later }
def UnpackFieldsUptoCardSaid : Prop := Claim7.holds Tryd.pinned (.plain (OpenSpec.upto unpackFieldsSpec)) unpackFieldsUptoCard

/-- THE SECOND FORM's CARD OF 'causeylaw10.UnpackSizes'. -/
def unpackSizesUptoCard : Claim7 := { stood := { row := unpackSizesUptoRow, standIns := [], harness := (true, "5b9beb9e33598c423fa1181093a9c1a090d2e7977fffce66b87bd6fef8be9322"), looks := false }, kinds := [], alts := [], laidByText := true, laidKinds := [.data, .pinned], laidTests := true, laidLooks := .later }
def UnpackSizesUptoCardSaid : Prop := Claim7.holds Tryd.pinned (.plain (OpenSpec.upto unpackSizesSpec)) unpackSizesUptoCard
end Rows
end Go.Proofs.YtdbnbknghhpbiaaDoor
