/-
  DERIVED. GIVEN WITH THE SEED: THE CARDS: each row of YtnibelnjflhkgaaGreatDoorRows.lean that lists a variable, with what it lists TIED to the program's text (the seventh form; the later family's looks); each row that meets fmt, with fmt's text TOLD by the authors' own Lean function (tested against real Go, not proved from fmt's source: count such statements apart). THE CARD IS WHAT COUNTS. Prove the row's statement (the work); the ties are given (YtnibelnjflhkgaaGreatDoorTie.lean); close each card by the builder's one call (the guide's Derived/Test/ToyasCard.lean, 'card_holds'). Laid BY PROGRAM, IN A SANDBOX (cutbox-door.mjs). By AI agents, Wed Nov 11 2026. No macro, syntax, notation, axiom, sorry.
-/
import Derived.Test.YtnibelnjflhkgaaGreatDoorRows
import GoSem.ClaimSeven
namespace Go.Proofs.YtnibelnjflhkgaaGreatDoor
namespace Rows

/-- THE TIED CARD OF 'almagestlaw5.ReadPrograms'. -/
def readProgramsCard : Claim7 := { stood := { row := readProgramsRow, standIns := [], harness := (true, "075ed6f88898b771ba08012c4452ac53256f4267c83350405a6820ec3fa35f50"), looks := false }, kinds := [], alts := [], laidByText := true, laidKinds := [.listed, .data], laidTests := true, laidLooks := .later }
def ReadProgramsCardSaid : Prop := Claim7.holds Tryz.pinned (.plain (OpenSpec.ofChange readProgramsSpec)) readProgramsCard

/-- THE TIED CARD OF 'almagestlaw5.ReadLimits'. -/
def readLimitsCard : Claim7 := { stood := { row := readLimitsRow, standIns := [], harness := (true, "075ed6f88898b771ba08012c4452ac53256f4267c83350405a6820ec3fa35f50"), looks := false }, kinds := [], alts := [], laidByText := true, laidKinds := [.listed, .data], laidTests := true, laidLooks := .later }
def ReadLimitsCardSaid : Prop := Claim7.holds Tryz.pinned (.plain (OpenSpec.ofChange readLimitsSpec)) readLimitsCard

/-- THE TIED CARD OF 'almagestlaw5.ReadGuards'. -/
def readGuardsCard : Claim7 := { stood := { row := readGuardsRow, standIns := [], harness := (true, "075ed6f88898b771ba08012c4452ac53256f4267c83350405a6820ec3fa35f50"), looks := false }, kinds := [], alts := [], laidByText := true, laidKinds := [.listed, .data], laidTests := true, laidLooks := .later }
def ReadGuardsCardSaid : Prop := Claim7.holds Tryz.pinned (.plain (OpenSpec.ofChange readGuardsSpec)) readGuardsCard

/-- THE TIED CARD OF 'almagestlaw5.ReadTerms'. -/
def readTermsCard : Claim7 := { stood := { row := readTermsRow, standIns := [], harness := (true, "075ed6f88898b771ba08012c4452ac53256f4267c83350405a6820ec3fa35f50"), looks := false }, kinds := [], alts := [], laidByText := true, laidKinds := [.listed, .data], laidTests := true, laidLooks := .later }
def ReadTermsCardSaid : Prop := Claim7.holds Tryz.pinned (.plain (OpenSpec.ofChange readTermsSpec)) readTermsCard

/-- THE TIED CARD OF 'almagestlaw6.ShowTexts'. -/
def showTextsCard : Claim7 := { stood := { row := showTextsRow, standIns := [], harness := (true, "075ed6f88898b771ba08012c4452ac53256f4267c83350405a6820ec3fa35f50"), looks := false }, kinds := [], alts := [], laidByText := true, laidKinds := [.data, .data, .data, .listed, .data], laidTests := true, laidLooks := .later }
def ShowTextsCardSaid : Prop := Claim7.holds Tryz.pinned (.plain (OpenSpec.ofChange showTextsSpec)) showTextsCard

/-- THE TIED CARD OF 'almagestlaw6.ShowBack'. -/
def showBackCard : Claim7 := { stood := { row := showBackRow, standIns := [], harness := (true, "075ed6f88898b771ba08012c4452ac53256f4267c83350405a6820ec3fa35f50"), looks := false }, kinds := [], alts := [], laidByText := true, laidKinds := [.data, .data, .data, .listed, .data], laidTests := true, laidLooks := .later }
def ShowBackCardSaid : Prop := Claim7.holds Tryz.pinned (.plain (OpenSpec.ofChange showBackSpec)) showBackCard

/-- THE TIED CARD OF 'almagestlaw6.ShowRows'. -/
def showRowsCard : Claim7 := { stood := { row := showRowsRow, standIns := [], harness := (true, "075ed6f88898b771ba08012c4452ac53256f4267c83350405a6820ec3fa35f50"), looks := false }, kinds := [], alts := [], laidByText := true, laidKinds := [.data, .data, .data, .listed, .data], laidTests := true, laidLooks := .later }
def ShowRowsCardSaid : Prop := Claim7.holds Tryz.pinned (.plain (OpenSpec.ofChange showRowsSpec)) showRowsCard

/-- THE TIED CARD OF 'almagestlaw6.ShowBoths'. -/
def showBothsCard : Claim7 := { stood := { row := showBothsRow, standIns := [], harness := (true, "075ed6f88898b771ba08012c4452ac53256f4267c83350405a6820ec3fa35f50"), looks := false }, kinds := [], alts := [], laidByText := true, laidKinds := [.data, .data, .data, .listed, .data], laidTests := true, laidLooks := .later }
def ShowBothsCardSaid : Prop := Claim7.holds Tryz.pinned (.plain (OpenSpec.ofChange showBothsSpec)) showBothsCard

/-- THE TIED CARD OF 'almagestlaw6.ShowOrs'. -/
def showOrsCard : Claim7 := { stood := { row := showOrsRow, standIns := [], harness := (true, "075ed6f88898b771ba08012c4452ac53256f4267c83350405a6820ec3fa35f50"), looks := false }, kinds := [], alts := [], laidByText := true, laidKinds := [.data, .data, .data, .listed, .data], laidTests := true, laidLooks := .later }
def ShowOrsCardSaid : Prop := Claim7.holds Tryz.pinned (.plain (OpenSpec.ofChange showOrsSpec)) showOrsCard

/-- THE TIED CARD OF 'almagestlaw6.ShowNots'. -/
def showNotsCard : Claim7 := { stood := { row := showNotsRow, standIns := [], harness := (true, "075ed6f88898b771ba08012c4452ac53256f4267c83350405a6820ec3fa35f50"), looks := false }, kinds := [], alts := [], laidByText := true, laidKinds := [.data, .data, .data, .listed, .data], laidTests := true, laidLooks := .later }
def ShowNotsCardSaid : Prop := Claim7.holds Tryz.pinned (.plain (OpenSpec.ofChange showNotsSpec)) showNotsCard

/-- THE TIED CARD OF 'almagestlaw6.ShowRels'. -/
def showRelsCard : Claim7 := { stood := { row := showRelsRow, standIns := [], harness := (true, "075ed6f88898b771ba08012c4452ac53256f4267c83350405a6820ec3fa35f50"), looks := false }, kinds := [], alts := [], laidByText := true, laidKinds := [.data, .data, .data, .listed, .data], laidTests := true, laidLooks := .later }
def ShowRelsCardSaid : Prop := Claim7.holds Tryz.pinned (.plain (OpenSpec.ofChange showRelsSpec)) showRelsCard

/-- THE SECOND FORM's CARD OF 'almagestlaw5.ReadPrograms'. -/
def readProgramsUptoCard : Claim7 := { stood := { row := readProgramsUptoRow, standIns := [], harness := (true, "075ed6f88898b771ba08012c4452ac53256f4267c83350405a6820ec3fa35f50"), looks := false }, kinds := [], alts := [], laidByText := true, laidKinds := [.listed, .data], laidTests := true, laidLooks := .later }
def ReadProgramsUptoCardSaid : Prop := Claim7.holds Tryz.pinned (.plain (OpenSpec.upto readProgramsSpec)) readProgramsUptoCard

/-- THE SECOND FORM's CARD OF 'almagestlaw5.ReadLimits'. -/
def readLimitsUptoCard : Claim7 := { stood := { row := readLimitsUptoRow, standIns := [], harness := (true, "075ed6f88898b771ba08012c4452ac53256f4267c83350405a6820ec3fa35f50"), looks := false }, kinds := [], alts := [], laidByText := true, laidKinds := [.listed, .data], laidTests := true, laidLooks := .later }
def ReadLimitsUptoCardSaid : Prop := Claim7.holds Tryz.pinned (.plain (OpenSpec.upto readLimitsSpec)) readLimitsUptoCard

/-- THE SECOND FORM's CARD OF 'almagestlaw5.ReadGuards'. -/
def readGuardsUptoCard : Claim7 := { stood := { row := readGuardsUptoRow, standIns := [], harness := (true, "075ed6f88898b771ba08012c4452ac53256f4267c83350405a6820ec3fa35f50"), looks := false }, kinds := [], alts := [], laidByText := true, laidKinds := [.listed, .data], laidTests := true, laidLooks := .later }
def ReadGuardsUptoCardSaid : Prop := Claim7.holds Tryz.pinned (.plain (OpenSpec.upto readGuardsSpec)) readGuardsUptoCard

/-- THE SECOND FORM's CARD OF 'almagestlaw5.ReadTerms'. -/
def readTermsUptoCard : Claim7 := { stood := { row := readTermsUptoRow, standIns := [], harness := (true, "075ed6f88898b771ba08012c4452ac53256f4267c83350405a6820ec3fa35f50"), looks := false }, kinds := [], alts := [], laidByText := true, laidKinds := [.listed, .data], laidTests := true, laidLooks := .later }
def ReadTermsUptoCardSaid : Prop := Claim7.holds Tryz.pinned (.plain (OpenSpec.upto readTermsSpec)) readTermsUptoCard

/-- THE SECOND FORM's CARD OF 'almagestlaw6.ShowTexts'. -/
def showTextsUptoCard : Claim7 := { stood := { row := showTextsUptoRow, standIns := [], harness := (true, "075ed6f88898b771ba08012c4452ac53256f4267c83350405a6820ec3fa35f50"), looks := false }, kinds := [], alts := [], laidByText := true, laidKinds := [.data, .data, .data, .listed, .data], laidTests := true, laidLooks := .later }
def ShowTextsUptoCardSaid : Prop := Claim7.holds Tryz.pinned (.plain (OpenSpec.upto showTextsSpec)) showTextsUptoCard

/-- THE SECOND FORM's CARD OF 'almagestlaw6.ShowBack'. -/
def showBackUptoCard : Claim7 := { stood := { row := showBackUptoRow, standIns := [], harness := (true, "075ed6f88898b771ba08012c4452ac53256f4267c83350405a6820ec3fa35f50"), looks := false }, kinds := [], alts := [], laidByText := true, laidKinds := [.data, .data, .data, .listed, .data], laidTests := true, laidLooks := .later }
def ShowBackUptoCardSaid : Prop := Claim7.holds Tryz.pinned (.plain (OpenSpec.upto showBackSpec)) showBackUptoCard

/-- THE SECOND FORM's CARD OF 'almagestlaw6.ShowRows'. -/
def showRowsUptoCard : Claim7 := { stood := { row := showRowsUptoRow, standIns := [], harness := (true, "075ed6f88898b771ba08012c4452ac53256f4267c83350405a6820ec3fa35f50"), looks := false }, kinds := [], alts := [], laidByText := true, laidKinds := [.data, .data, .data, .listed, .data], laidTests := true, laidLooks := .later }
def ShowRowsUptoCardSaid : Prop := Claim7.holds Tryz.pinned (.plain (OpenSpec.upto showRowsSpec)) showRowsUptoCard

/-- THE SECOND FORM's CARD OF 'almagestlaw6.ShowBoths'. -/
def showBothsUptoCard : Claim7 := { stood := { row := showBothsUptoRow, standIns := [], harness := (true, "075ed6f88898b771ba08012c4452ac53256f4267c83350405a6820ec3fa35f50"), looks := false }, kinds := [], alts := [], laidByText := true, laidKinds := [.data, .data, .data, .listed, .data], laidTests := true, laidLooks := .later }
def ShowBothsUptoCardSaid : Prop := Claim7.holds Tryz.pinned (.plain (OpenSpec.upto showBothsSpec)) showBothsUptoCard

/-- THE SECOND FORM's CARD OF 'almagestlaw6.ShowOrs'. -/
def showOrsUptoCard : Claim7 := { stood := { row := showOrsUptoRow, standIns := [], harness := (true, "075ed6f88898b771ba08012c4452ac53256f4267c83350405a6820ec3fa35f50"), looks := false }, kinds := [], alts := [], laidByText := true, laidKinds := [.data, .data, .data, .listed, .data], laidTests := true, laidLooks := .later }
def ShowOrsUptoCardSaid : Prop := Claim7.holds Tryz.pinned (.plain (OpenSpec.upto showOrsSpec)) showOrsUptoCard

/-- THE SECOND FORM's CARD OF 'almagestlaw6.ShowNots'. -/
def showNotsUptoCard : Claim7 := { stood := { row := showNotsUptoRow, standIns := [], harness := (true, "075ed6f88898b771ba08012c4452ac53256f4267c83350405a6820ec3fa35f50"), looks := false }, kinds := [], alts := [], laidByText := true, laidKinds := [.data, .data, .data, .listed, .data], laidTests := true, laidLooks := .later }
def ShowNotsUptoCardSaid : Prop := Claim7.holds Tryz.pinned (.plain (OpenSpec.upto showNotsSpec)) showNotsUptoCard

/-- THE SECOND FORM's CARD OF 'almagestlaw6.ShowRels'. -/
def showRelsUptoCard : Claim7 := { stood := { row := showRelsUptoRow, standIns := [], harness := (true, "075ed6f88898b771ba08012c4452ac53256f4267c83350405a6820ec3fa35f50"), looks := false }, kinds := [], alts := [], laidByText := true, laidKinds := [.data, .data, .data, .listed, .data], laidTests := true, laidLooks := .later }
def ShowRelsUptoCardSaid : Prop := Claim7.holds Tryz.pinned (.plain (OpenSpec.upto showRelsSpec)) showRelsUptoCard
end Rows
end Go.Proofs.YtnibelnjflhkgaaGreatDoor
