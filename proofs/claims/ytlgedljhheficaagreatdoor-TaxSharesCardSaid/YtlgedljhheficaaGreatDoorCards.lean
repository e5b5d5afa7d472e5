/-
  DERIVED. GIVEN WITH THE SEED: THE CARDS: each row of YtlgedljhheficaaGreatDoorRows.lean that lists a variable, with what it lists TIED to the program's text (the seventh form; the later family's looks); each row that meets fmt, with fmt's text TOLD by the authors' own Lean function (tested against real Go, not proved from fmt's source: count such statements apart). THE CARD IS WHAT COUNTS. Prove the row's statement (the work); the ties are given (YtlgedljhheficaaGreatDoorTie.lean); close each card by the builder's one call (the guide's Derived/Test/ToyasCard.lean, 'card_holds'). Laid BY PROGRAM, IN A SANDBOX (cutbox-door.mjs). By AI agents, Wed Nov 11 2026. No macro, syntax, notation, axiom, sorry.
-/
import Derived.Test.YtlgedljhheficaaGreatDoorRows
import GoSem.ClaimSeven
namespace Go.Proofs.YtlgedljhheficaaGreatDoor
namespace Rows

/-- THE TIED CARD OF 'worldmintlaw31.TaxDue'. -/
def taxDueCard : Claim7 := { stood := { row := taxDueRow, standIns := [], harness := (true, "2b17f36a9dbdb7e97d89dc40397ce627804d06277822a43375b973cac1123acb"), looks := false }, kinds := [], alts := [], laidByText := true, laidKinds := [.data], laidTests := true, laidLooks := .later }
def TaxDueCardSaid : Prop := Claim7.holds Tryz.pinned (.plain (OpenSpec.ofChange taxDueSpec)) taxDueCard

/-- THE TIED CARD OF 'worldmintlaw31.TaxShares'. -/
def taxSharesCard : Claim7 := { stood := { row := taxSharesRow, standIns := [], harness := (true, "2b17f36a9dbdb7e97d89dc40397ce627804d06277822a43375b973cac1123acb"), looks := false }, kinds := [], alts := [], laidByText := true, laidKinds := [.data], laidTests := true, laidLooks := .later }
def TaxSharesCardSaid : Prop := Claim7.holds Tryz.pinned (.plain (OpenSpec.ofChange taxSharesSpec)) taxSharesCard

/-- THE TIED CARD OF 'worldmintlaw31.TaxSlope'. -/
def taxSlopeCard : Claim7 := { stood := { row := taxSlopeRow, standIns := [], harness := (true, "2b17f36a9dbdb7e97d89dc40397ce627804d06277822a43375b973cac1123acb"), looks := false }, kinds := [], alts := [], laidByText := true, laidKinds := [.data], laidTests := true, laidLooks := .later }
def TaxSlopeCardSaid : Prop := Claim7.holds Tryz.pinned (.plain (OpenSpec.ofChange taxSlopeSpec)) taxSlopeCard

/-- THE TIED CARD OF 'worldmintlaw31.TaxPeriods'. -/
def taxPeriodsCard : Claim7 := { stood := { row := taxPeriodsRow, standIns := [], harness := (true, "2b17f36a9dbdb7e97d89dc40397ce627804d06277822a43375b973cac1123acb"), looks := false }, kinds := [], alts := [], laidByText := true, laidKinds := [.data], laidTests := true, laidLooks := .later }
def TaxPeriodsCardSaid : Prop := Claim7.holds Tryz.pinned (.plain (OpenSpec.ofChange taxPeriodsSpec)) taxPeriodsCard

/-- THE TIED CARD OF 'worldmintlaw31.TaxMeter'. -/
def taxMeterCard : Claim7 := { stood := { row := taxMeterRow, standIns := [], harness := (true, "2b17f36a9dbdb7e97d89dc40397ce627804d06277822a43375b973cac1123acb"), looks := false }, kinds := [], alts := [], laidByText := true, laidKinds := [.data], laidTests := true, laidLooks := .later }
def TaxMeterCardSaid : Prop := Claim7.holds Tryz.pinned (.plain (OpenSpec.ofChange taxMeterSpec)) taxMeterCard

/-- THE SECOND FORM's CARD OF 'worldmintlaw31.TaxDue'. -/
def taxDueUptoCard : Claim7 := { stood := { row := taxDueUptoRow, standIns := [], harness := (true, "2b17f36a9dbdb7e97d89dc40397ce627804d06277822a43375b973cac1123acb"), looks := false }, kinds := [], alts := [], laidByText := true, laidKinds := [.data], laidTests := true, laidLooks := .later }
def TaxDueUptoCardSaid : Prop := Claim7.holds Tryz.pinned (.plain (OpenSpec.upto taxDueSpec)) taxDueUptoCard

/-- THE SECOND FORM's CARD OF 'worldmintlaw31.TaxShares'. -/
def taxSharesUptoCard : Claim7 := { stood := { row := taxSharesUptoRow, standIns := [], harness := (true, "2b17f36a9dbdb7e97d89dc40397ce627804d06277822a43375b973cac1123acb"), looks := false }, kinds := [], alts := [], laidByText := true, laidKinds := [.data], laidTests := true, laidLooks := .later }
def TaxSharesUptoCardSaid : Prop := Claim7.holds Tryz.pinned (.plain (OpenSpec.upto taxSharesSpec)) taxSharesUptoCard

/-- THE SECOND FORM's CARD OF 'worldmintlaw31.TaxSlope'. -/
def taxSlopeUptoCard : Claim7 := { stood := { row := taxSlopeUptoRow, standIns := [], harness := (true, "2b17f36a9dbdb7e97d89dc40397ce627804d06277822a43375b973cac1123acb"), looks := false }, kinds := [], alts := [], laidByText := true, laidKinds := [.data], laidTests := true, laidLooks := .later }
def TaxSlopeUptoCardSaid : Prop := Claim7.holds Tryz.pinned (.plain (OpenSpec.upto taxSlopeSpec)) taxSlopeUptoCard

/-- THE SECOND FORM's CARD OF 'worldmintlaw31.TaxPeriods'. -/
def taxPeriodsUptoCard : Claim7 := { stood := { row := taxPeriodsUptoRow, standIns := [], harness := (true, "2b17f36a9dbdb7e97d89dc40397ce627804d06277822a43375b973cac1123acb"), looks := false }, kinds := [], alts := [], laidByText := true, laidKinds := [.data], laidTests := true, laidLooks := .later }
def TaxPeriodsUptoCardSaid : Prop := Claim7.holds Tryz.pinned (.plain (OpenSpec.upto taxPeriodsSpec)) taxPeriodsUptoCard

/-- THE SECOND FORM's CARD OF 'worldmintlaw31.TaxMeter'. -/
def taxMeterUptoCard : Claim7 := { stood := { row := taxMeterUptoRow, standIns := [], harness := (true, "2b17f36a9dbdb7e97d89dc40397ce627804d06277822a43375b973cac1123acb"), looks := false }, kinds := [], alts := [], laidByText := true, laidKinds := [.data], laidTests := true, laidLooks := .later }
def TaxMeterUptoCardSaid : Prop := Claim7.holds Tryz.pinned (.plain (OpenSpec.upto taxMeterSpec)) taxMeterUptoCard
end Rows
end Go.Proofs.YtlgedljhheficaaGreatDoor
