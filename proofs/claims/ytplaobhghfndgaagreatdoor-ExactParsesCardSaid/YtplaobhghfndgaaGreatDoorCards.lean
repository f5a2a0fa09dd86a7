/-
  DERIVED. GIVEN WITH THE SEED: THE CARDS: each row of YtplaobhghfndgaaGreatDoorRows.lean that lists a variable, with what it lists TIED to the program's text (the seventh form; the later family's looks); each row that meets fmt, with fmt's text TOLD by the authors' own Lean function (tested against real Go, not proved from fmt's source: count such statements apart). THE CARD IS WHAT COUNTS. Prove the row's statement (the work); the ties are given (YtplaobhghfndgaaGreatDoorTie.lean); close each card by the builder's one call (the guide's Derived/Test/ToyasCard.lean, 'card_holds'). Laid BY PROGRAM, IN A SANDBOX (cutbox-door.mjs). By AI agents, Wed Nov 11 2026. No macro, syntax, notation, axiom, sorry.
-/
import Derived.Test.YtplaobhghfndgaaGreatDoorRows
import GoSem.ClaimSeven
namespace Go.Proofs.YtplaobhghfndgaaGreatDoor
namespace Rows

/-- THE TIED CARD OF 'venturilaw01.ExactParses'. -/
def exactParsesCard : Claim7 := { stood := { row := exactParsesRow, standIns := [], harness := (true, "b5451932b3c6d271ac3280b0fe1f51ccd0177ece7a0227132c8715b2a6055349"), looks := false }, kinds := [], alts := [], laidByText := true, laidKinds := [.data, .pinned], laidTests := true, laidLooks := .later }
def ExactParsesCardSaid : Prop := Claim7.holds Tryz.pinned (.plain (OpenSpec.ofChange exactParsesSpec)) exactParsesCard

/-- THE TIED CARD OF 'venturilaw01.ExactPowerLaws'. -/
def exactPowerLawsCard : Claim7 := { stood := { row := exactPowerLawsRow, standIns := [], harness := (true, "b5451932b3c6d271ac3280b0fe1f51ccd0177ece7a0227132c8715b2a6055349"), looks := false }, kinds := [], alts := [], laidByText := true, laidKinds := [.data, .pinned], laidTests := true, laidLooks := .later }
def ExactPowerLawsCardSaid : Prop := Claim7.holds Tryz.pinned (.plain (OpenSpec.ofChange exactPowerLawsSpec)) exactPowerLawsCard

/-- THE TIED CARD OF 'venturilaw01.ExactComputes'. -/
def exactComputesCard : Claim7 := { stood := { row := exactComputesRow, standIns := [], harness := (true, "b5451932b3c6d271ac3280b0fe1f51ccd0177ece7a0227132c8715b2a6055349"), looks := false }, kinds := [], alts := [], laidByText := true, laidKinds := [.data, .pinned], laidTests := true, laidLooks := .later }
def ExactComputesCardSaid : Prop := Claim7.holds Tryz.pinned (.plain (OpenSpec.ofChange exactComputesSpec)) exactComputesCard

/-- THE TIED CARD OF 'venturilaw01.ExactField'. -/
def exactFieldCard : Claim7 := { stood := { row := exactFieldRow, standIns := [], harness := (true, "b5451932b3c6d271ac3280b0fe1f51ccd0177ece7a0227132c8715b2a6055349"), looks := false }, kinds := [], alts := [], laidByText := true, laidKinds := [.data, .pinned], laidTests := true, laidLooks := .later }
def ExactFieldCardSaid : Prop := Claim7.holds Tryz.pinned (.plain (OpenSpec.ofChange exactFieldSpec)) exactFieldCard

/-- THE TIED CARD OF 'venturilaw01.ExactPowers'. -/
def exactPowersCard : Claim7 := { stood := { row := exactPowersRow, standIns := [], harness := (true, "b5451932b3c6d271ac3280b0fe1f51ccd0177ece7a0227132c8715b2a6055349"), looks := false }, kinds := [], alts := [], laidByText := true, laidKinds := [.data, .pinned], laidTests := true, laidLooks := .later }
def ExactPowersCardSaid : Prop := Claim7.holds Tryz.pinned (.plain (OpenSpec.ofChange exactPowersSpec)) exactPowersCard

/-- THE TIED CARD OF 'venturilaw01.ExactSpans'. -/
def exactSpansCard : Claim7 := { stood := { row := exactSpansRow, standIns := [], harness := (true, "b5451932b3c6d271ac3280b0fe1f51ccd0177ece7a0227132c8715b2a6055349"), looks := false }, kinds := [], alts := [], laidByText := true, laidKinds := [.data, .pinned], laidTests := true, laidLooks := .later }
def ExactSpansCardSaid : Prop := Claim7.holds Tryz.pinned (.plain (OpenSpec.ofChange exactSpansSpec)) exactSpansCard

/-- THE TIED CARD OF 'venturilaw01.ExactRoots'. -/
def exactRootsCard : Claim7 := { stood := { row := exactRootsRow, standIns := [], harness := (true, "b5451932b3c6d271ac3280b0fe1f51ccd0177ece7a0227132c8715b2a6055349"), looks := false }, kinds := [], alts := [], laidByText := true, laidKinds := [.data, .pinned], laidTests := true, laidLooks := .later }
def ExactRootsCardSaid : Prop := Claim7.holds Tryz.pinned (.plain (OpenSpec.ofChange exactRootsSpec)) exactRootsCard

/-- THE TIED CARD OF 'venturilaw01.ExactOrder'. -/
def exactOrderCard : Claim7 := { stood := { row := exactOrderRow, standIns := [], harness := (true, "b5451932b3c6d271ac3280b0fe1f51ccd0177ece7a0227132c8715b2a6055349"), looks := false }, kinds := [], alts := [], laidByText := true, laidKinds := [.data, .pinned], laidTests := true, laidLooks := .later }
def ExactOrderCardSaid : Prop := Claim7.holds Tryz.pinned (.plain (OpenSpec.ofChange exactOrderSpec)) exactOrderCard

/-- THE TIED CARD OF 'venturilaw01.ExactSquares'. -/
def exactSquaresCard : Claim7 := { stood := { row := exactSquaresRow, standIns := [], harness := (true, "b5451932b3c6d271ac3280b0fe1f51ccd0177ece7a0227132c8715b2a6055349"), looks := false }, kinds := [], alts := [], laidByText := true, laidKinds := [.data, .pinned], laidTests := true, laidLooks := .later }
def ExactSquaresCardSaid : Prop := Claim7.holds Tryz.pinned (.plain (OpenSpec.ofChange exactSquaresSpec)) exactSquaresCard

/-- THE TIED CARD OF 'venturilaw01.ExactHolds'. -/
def exactHoldsCard : Claim7 := { stood := { row := exactHoldsRow, standIns := [], harness := (true, "b5451932b3c6d271ac3280b0fe1f51ccd0177ece7a0227132c8715b2a6055349"), looks := false }, kinds := [], alts := [], laidByText := true, laidKinds := [.data, .pinned], laidTests := true, laidLooks := .later }
def ExactHoldsCardSaid : Prop := Claim7.holds Tryz.pinned (.plain (OpenSpec.ofChange exactHoldsSpec)) exactHoldsCard

/-- THE TIED CARD OF 'venturilaw01.ExactMakes'. -/
def exactMakesCard : Claim7 := { stood := { row := exactMakesRow, standIns := [], harness := (true, "b5451932b3c6d271ac3280b0fe1f51ccd0177ece7a0227132c8715b2a6055349"), looks := false }, kinds := [], alts := [], laidByText := true, laidKinds := [.data, .pinned], laidTests := true, laidLooks := .later }
def ExactMakesCardSaid : Prop := Claim7.holds Tryz.pinned (.plain (OpenSpec.ofChange exactMakesSpec)) exactMakesCard

/-- THE TIED CARD OF 'venturilaw01.ExactBoxes'. -/
def exactBoxesCard : Claim7 := { stood := { row := exactBoxesRow, standIns := [], harness := (true, "b5451932b3c6d271ac3280b0fe1f51ccd0177ece7a0227132c8715b2a6055349"), looks := false }, kinds := [], alts := [], laidByText := true, laidKinds := [.data, .pinned], laidTests := true, laidLooks := .later }
def ExactBoxesCardSaid : Prop := Claim7.holds Tryz.pinned (.plain (OpenSpec.ofChange exactBoxesSpec)) exactBoxesCard

/-- THE TIED CARD OF 'venturilaw01.ExactSums'. -/
def exactSumsCard : Claim7 := { stood := { row := exactSumsRow, standIns := [], harness := (true, "b5451932b3c6d271ac3280b0fe1f51ccd0177ece7a0227132c8715b2a6055349"), looks := false }, kinds := [], alts := [], laidByText := true, laidKinds := [.data, .pinned], laidTests := true, laidLooks := .later }
def ExactSumsCardSaid : Prop := Claim7.holds Tryz.pinned (.plain (OpenSpec.ofChange exactSumsSpec)) exactSumsCard

/-- THE TIED CARD OF 'venturilaw01.ExactGrows'. -/
def exactGrowsCard : Claim7 := { stood := { row := exactGrowsRow, standIns := [], harness := (true, "b5451932b3c6d271ac3280b0fe1f51ccd0177ece7a0227132c8715b2a6055349"), looks := false }, kinds := [], alts := [], laidByText := true, laidKinds := [.data, .pinned], laidTests := true, laidLooks := .later }
def ExactGrowsCardSaid : Prop := Claim7.holds Tryz.pinned (.plain (OpenSpec.ofChange exactGrowsSpec)) exactGrowsCard

/-- THE TIED CARD OF 'venturilaw01.ExactPolys'. -/
def exactPolysCard : Claim7 := { stood := { row := exactPolysRow, standIns := [], harness := (true, "b5451932b3c6d271ac3280b0fe1f51ccd0177ece7a0227132c8715b2a6055349"), looks := false }, kinds := [], alts := [], laidByText := true, laidKinds := [.data, .pinned], laidTests := true, laidLooks := .later }
def ExactPolysCardSaid : Prop := Claim7.holds Tryz.pinned (.plain (OpenSpec.ofChange exactPolysSpec)) exactPolysCard

/-- THE TIED CARD OF 'venturilaw01.ExactEncloses'. -/
def exactEnclosesCard : Claim7 := { stood := { row := exactEnclosesRow, standIns := [], harness := (true, "b5451932b3c6d271ac3280b0fe1f51ccd0177ece7a0227132c8715b2a6055349"), looks := false }, kinds := [], alts := [], laidByText := true, laidKinds := [.data, .pinned], laidTests := true, laidLooks := .later }
def ExactEnclosesCardSaid : Prop := Claim7.holds Tryz.pinned (.plain (OpenSpec.ofChange exactEnclosesSpec)) exactEnclosesCard

/-- THE SECOND FORM's CARD OF 'venturilaw01.ExactParses'. -/
def exactParsesUptoCard : Claim7 := { stood := { row := exactParsesUptoRow, standIns := [], harness := (true, "b5451932b3c6d271ac3280b0fe1f51ccd0177ece7a0227132c8715b2a6055349"), looks := false }, kinds := [], alts := [], laidByText := true, laidKinds := [.data, .pinned], laidTests := true, laidLooks := .later }
def ExactParsesUptoCardSaid : Prop := Claim7.holds Tryz.pinned (.plain (OpenSpec.upto exactParsesSpec)) exactParsesUptoCard

/-- THE SECOND FORM's CARD OF 'venturilaw01.ExactPowerLaws'. -/
def exactPowerLawsUptoCard : Claim7 := { stood := { row := exactPowerLawsUptoRow, standIns := [], harness := (true, "b5451932b3c6d271ac3280b0fe1f51ccd0177ece7a0227132c8715b2a6055349"), looks := false }, kinds := [], alts := [], laidByText := true, laidKinds := [.data, .pinned], laidTests := true, laidLooks := .later }
def ExactPowerLawsUptoCardSaid : Prop := Claim7.holds Tryz.pinned (.plain (OpenSpec.upto exactPowerLawsSpec)) exactPowerLawsUptoCard

/-- THE SECOND FORM's CARD OF 'venturilaw01.ExactComputes'. -/
def exactComputesUptoCard : Claim7 := { stood := { row := exactComputesUptoRow, standIns := [], harness := (true, "b5451932b3c6d271ac3280b0fe1f51ccd0177ece7a0227132c8715b2a6055349"), looks := false }, kinds := [], alts := [], laidByText := true, laidKinds := [.data, .pinned], laidTests := true, laidLooks := .later }
def ExactComputesUptoCardSaid : Prop := Claim7.holds Tryz.pinned (.plain (OpenSpec.upto exactComputesSpec)) exactComputesUptoCard

/-- THE SECOND FORM's CARD OF 'venturilaw01.ExactField'. -/
def exactFieldUptoCard : Claim7 := { stood := { row := exactFieldUptoRow, standIns := [], harness := (true, "b5451932b3c6d271ac3280b0fe1f51ccd0177ece7a0227132c8715b2a6055349"), looks := false }, kinds := [], alts := [], laidByText := true, laidKinds := [.data, .pinned], laidTests := true, laidLooks := .later }
def ExactFieldUptoCardSaid : Prop := Claim7.holds Tryz.pinned (.plain (OpenSpec.upto exactFieldSpec)) exactFieldUptoCard

/-- THE SECOND FORM's CARD OF 'venturilaw01.ExactPowers'. -/
def exactPowersUptoCard : Claim7 := { stood := { row := exactPowersUptoRow, standIns := [], harness := (true, "b5451932b3c6d271ac3280b0fe1f51ccd0177ece7a0227132c8715b2a6055349"), looks := false }, kinds := [], alts := [], laidByText := true, laidKinds := [.data, .pinned], laidTests := true, laidLooks := .later }
def ExactPowersUptoCardSaid : Prop := Claim7.holds Tryz.pinned (.plain (OpenSpec.upto exactPowersSpec)) exactPowersUptoCard

/-- THE SECOND FORM's CARD OF 'venturilaw01.ExactSpans'. -/
def exactSpansUptoCard : Claim7 := { stood := { row := exactSpansUptoRow, standIns := [], harness := (true, "b5451932b3c6d271ac3280b0fe1f51ccd0177ece7a0227132c8715b2a6055349"), looks := false }, kinds := [], alts := [], laidByText := true, laidKinds := [.data, .pinned], laidTests := true, laidLooks := .later }
def ExactSpansUptoCardSaid : Prop := Claim7.holds Tryz.pinned (.plain (OpenSpec.upto exactSpansSpec)) exactSpansUptoCard

/-- THE SECOND FORM's CARD OF 'venturilaw01.ExactRoots'. -/
def exactRootsUptoCard : Claim7 := { stood := { row := exactRootsUptoRow, standIns := [], harness := (true, "b5451932b3c6d271ac3280b0fe1f51ccd0177ece7a0227132c8715b2a6055349"), looks := false }, kinds := [], alts := [], laidByText := true, laidKinds := [.data, .pinned], laidTests := true, laidLooks := .later }
def ExactRootsUptoCardSaid : Prop := Claim7.holds Tryz.pinned (.plain (OpenSpec.upto exactRootsSpec)) exactRootsUptoCard

/-- THE SECOND FORM's CARD OF 'venturilaw01.ExactOrder'. -/
def exactOrderUptoCard : Claim7 := { stood := { row := exactOrderUptoRow, standIns := [], harness := (true, "b5451932b3c6d271ac3280b0fe1f51ccd0177ece7a0227132c8715b2a6055349"), looks := false }, kinds := [], alts := [], laidByText := true, laidKinds := [.data, .pinned], laidTests := true, laidLooks := .later }
def ExactOrderUptoCardSaid : Prop := Claim7.holds Tryz.pinned (.plain (OpenSpec.upto exactOrderSpec)) exactOrderUptoCard

/-- THE SECOND FORM's CARD OF 'venturilaw01.ExactSquares'. -/
def exactSquaresUptoCard : Claim7 := { stood := { row := exactSquaresUptoRow, standIns := [], harness := (true, "b5451932b3c6d271ac3280b0fe1f51ccd0177ece7a0227132c8715b2a6055349"), looks := false }, kinds := [], alts := [], laidByText := true, laidKinds := [.data, .pinned], laidTests := true, laidLooks := .later }
def ExactSquaresUptoCardSaid : Prop := Claim7.holds Tryz.pinned (.plain (OpenSpec.upto exactSquaresSpec)) exactSquaresUptoCard

/-- THE SECOND FORM's CARD OF 'venturilaw01.ExactHolds'. -/
def exactHoldsUptoCard : Claim7 := { stood := { row := exactHoldsUptoRow, standIns := [], harness := (true, "b5451932b3c6d271ac3280b0fe1f51ccd0177ece7a0227132c8715b2a6055349"), looks := false }, kinds := [], alts := [], laidByText := true, laidKinds := [.data, .pinned], laidTests := true, laidLooks := .later }
def ExactHoldsUptoCardSaid : Prop := Claim7.holds Tryz.pinned (.plain (OpenSpec.upto exactHoldsSpec)) exactHoldsUptoCard

/-- THE SECOND FORM's CARD OF 'venturilaw01.ExactMakes'. -/
def exactMakesUptoCard : Claim7 := { stood := { row := exactMakesUptoRow, standIns := [], harness := (true, "b5451932b3c6d271ac3280b0fe1f51ccd0177ece7a0227132c8715b2a6055349"), looks := false }, kinds := [], alts := [], laidByText := true, laidKinds := [.data, .pinned], laidTests := true, laidLooks := .later }
def ExactMakesUptoCardSaid : Prop := Claim7.holds Tryz.pinned (.plain (OpenSpec.upto exactMakesSpec)) exactMakesUptoCard

/-- THE SECOND FORM's CARD OF 'venturilaw01.ExactBoxes'. -/
def exactBoxesUptoCard : Claim7 := { stood := { row := exactBoxesUptoRow, standIns := [], harness := (true, "b5451932b3c6d271ac3280b0fe1f51ccd0177ece7a0227132c8715b2a6055349"), looks := false }, kinds := [], alts := [], laidByText := true, laidKinds := [.data, .pinned], laidTests := true, laidLooks := .later }
def ExactBoxesUptoCardSaid : Prop := Claim7.holds Tryz.pinned (.plain (OpenSpec.upto exactBoxesSpec)) exactBoxesUptoCard

/-- THE SECOND FORM's CARD OF 'venturilaw01.ExactSums'. -/
def exactSumsUptoCard : Claim7 := { stood := { row := exactSumsUptoRow, standIns := [], harness := (true, "b5451932b3c6d271ac3280b0fe1f51ccd0177ece7a0227132c8715b2a6055349"), looks := false }, kinds := [], alts := [], laidByText := true, laidKinds := [.data, .pinned], laidTests := true, laidLooks := .later }
def ExactSumsUptoCardSaid : Prop := Claim7.holds Tryz.pinned (.plain (OpenSpec.upto exactSumsSpec)) exactSumsUptoCard

/-- THE SECOND FORM's CARD OF 'venturilaw01.ExactGrows'. -/
def exactGrowsUptoCard : Claim7 := { stood := { row := exactGrowsUptoRow, standIns := [], harness := (true, "b5451932b3c6d271ac3280b0fe1f51ccd0177ece7a0227132c8715b2a6055349"), looks := false }, kinds := [], alts := [], laidByText := true, laidKinds := [.data, .pinned], laidTests := true, laidLooks := .later }
def ExactGrowsUptoCardSaid : Prop := Claim7.holds Tryz.pinned (.plain (OpenSpec.upto exactGrowsSpec)) exactGrowsUptoCard

/-- THE SECOND FORM's CARD OF 'venturilaw01.ExactPolys'. -/
def exactPolysUptoCard : Claim7 := { stood := { row := exactPolysUptoRow, standIns := [], harness := (true, "b5451932b3c6d271ac3280b0fe1f51ccd0177ece7a0227132c8715b2a6055349"), looks := false }, kinds := [], alts := [], laidByText := true, laidKinds := [.data, .pinned], laidTests := true, laidLooks := .later }
def ExactPolysUptoCardSaid : Prop := Claim7.holds Tryz.pinned (.plain (OpenSpec.upto exactPolysSpec)) exactPolysUptoCard

/-- THE SECOND FORM's CARD OF 'venturilaw01.ExactEncloses'. -/
def exactEnclosesUptoCard : Claim7 := { stood := { row := exactEnclosesUptoRow, standIns := [], harness := (true, "b5451932b3c6d271ac3280b0fe1f51ccd0177ece7a0227132c8715b2a6055349"), looks := false }, kinds := [], alts := [], laidByText := true, laidKinds := [.data, .pinned], laidTests := true, laidLooks := .later }
def ExactEnclosesUptoCardSaid : Prop := Claim7.holds Tryz.pinned (.plain (OpenSpec.upto exactEnclosesSpec)) exactEnclosesUptoCard
end Rows
end Go.Proofs.YtplaobhghfndgaaGreatDoor
