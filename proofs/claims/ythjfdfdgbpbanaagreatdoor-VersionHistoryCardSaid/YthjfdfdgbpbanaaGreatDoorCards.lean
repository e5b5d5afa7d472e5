/-
  DERIVED. GIVEN WITH THE SEED: THE CARDS: each row of YthjfdfdgbpbanaaGreatDoorRows.lean that lists a variable, with what it lists TIED to the program's text (the seventh form; the later family's looks); each row that meets fmt, with fmt's text TOLD by the authors' own Lean function (tested against real Go, not proved from fmt's source: count such statements apart). THE CARD IS WHAT COUNTS. Prove the row's statement (the work); the ties are given (YthjfdfdgbpbanaaGreatDoorTie.lean); close each card by the builder's one call (the guide's Derived/Test/ToyasCard.lean, 'card_holds'). Laid BY PROGRAM, IN A SANDBOX (cutbox-door.mjs). By AI agents, Wed Nov 11 2026. No macro, syntax, notation, axiom, sorry.
-/
import Derived.Test.YthjfdfdgbpbanaaGreatDoorRows
import GoSem.ClaimSeven
namespace Go.Proofs.YthjfdfdgbpbanaaGreatDoor
namespace Rows

/-- THE TIED CARD OF 'worldmintlaw12.VersionNew'. -/
def versionNewCard : Claim7 := { stood := { row := versionNewRow, standIns := [], harness := (true, "60b0bc3a7e5772839ea9f82d9bce6f1bd5bcea9ee799d2c48587346f82a9368c"), looks := false }, kinds := [], alts := [], laidByText := true, laidKinds := [.data], laidTests := true, laidLooks := .later }
def VersionNewCardSaid : Prop := Claim7.holds Tryz.pinned (.plain (OpenSpec.ofChange versionNewSpec)) versionNewCard

/-- THE TIED CARD OF 'worldmintlaw12.VersionMerge'. -/
def versionMergeCard : Claim7 := { stood := { row := versionMergeRow, standIns := [], harness := (true, "60b0bc3a7e5772839ea9f82d9bce6f1bd5bcea9ee799d2c48587346f82a9368c"), looks := false }, kinds := [], alts := [], laidByText := true, laidKinds := [.data], laidTests := true, laidLooks := .later }
def VersionMergeCardSaid : Prop := Claim7.holds Tryz.pinned (.plain (OpenSpec.ofChange versionMergeSpec)) versionMergeCard

/-- THE TIED CARD OF 'worldmintlaw12.VersionConverts'. -/
def versionConvertsCard : Claim7 := { stood := { row := versionConvertsRow, standIns := [], harness := (true, "60b0bc3a7e5772839ea9f82d9bce6f1bd5bcea9ee799d2c48587346f82a9368c"), looks := false }, kinds := [], alts := [], laidByText := true, laidKinds := [.data], laidTests := true, laidLooks := .later }
def VersionConvertsCardSaid : Prop := Claim7.holds Tryz.pinned (.plain (OpenSpec.ofChange versionConvertsSpec)) versionConvertsCard

/-- THE TIED CARD OF 'worldmintlaw12.VersionConserves'. -/
def versionConservesCard : Claim7 := { stood := { row := versionConservesRow, standIns := [], harness := (true, "60b0bc3a7e5772839ea9f82d9bce6f1bd5bcea9ee799d2c48587346f82a9368c"), looks := false }, kinds := [], alts := [], laidByText := true, laidKinds := [.data], laidTests := true, laidLooks := .later }
def VersionConservesCardSaid : Prop := Claim7.holds Tryz.pinned (.plain (OpenSpec.ofChange versionConservesSpec)) versionConservesCard

/-- THE TIED CARD OF 'worldmintlaw12.VersionThen'. -/
def versionThenCard : Claim7 := { stood := { row := versionThenRow, standIns := [], harness := (true, "60b0bc3a7e5772839ea9f82d9bce6f1bd5bcea9ee799d2c48587346f82a9368c"), looks := false }, kinds := [], alts := [], laidByText := true, laidKinds := [.data], laidTests := true, laidLooks := .later }
def VersionThenCardSaid : Prop := Claim7.holds Tryz.pinned (.plain (OpenSpec.ofChange versionThenSpec)) versionThenCard

/-- THE TIED CARD OF 'worldmintlaw12.VersionSame'. -/
def versionSameCard : Claim7 := { stood := { row := versionSameRow, standIns := [], harness := (true, "60b0bc3a7e5772839ea9f82d9bce6f1bd5bcea9ee799d2c48587346f82a9368c"), looks := false }, kinds := [], alts := [], laidByText := true, laidKinds := [.data], laidTests := true, laidLooks := .later }
def VersionSameCardSaid : Prop := Claim7.holds Tryz.pinned (.plain (OpenSpec.ofChange versionSameSpec)) versionSameCard

/-- THE TIED CARD OF 'worldmintlaw12.VersionHistory'. -/
def versionHistoryCard : Claim7 := { stood := { row := versionHistoryRow, standIns := [], harness := (true, "60b0bc3a7e5772839ea9f82d9bce6f1bd5bcea9ee799d2c48587346f82a9368c"), looks := false }, kinds := [], alts := [], laidByText := true, laidKinds := [.data], laidTests := true, laidLooks := .later }
def VersionHistoryCardSaid : Prop := Claim7.holds Tryz.pinned (.plain (OpenSpec.ofChange versionHistorySpec)) versionHistoryCard

/-- THE SECOND FORM's CARD OF 'worldmintlaw12.VersionNew'. -/
def versionNewUptoCard : Claim7 := { stood := { row := versionNewUptoRow, standIns := [], harness := (true, "60b0bc3a7e5772839ea9f82d9bce6f1bd5bcea9ee799d2c48587346f82a9368c"), looks := false }, kinds := [], alts := [], laidByText := true, laidKinds := [.data], laidTests := true, laidLooks := .later }
def VersionNewUptoCardSaid : Prop := Claim7.holds Tryz.pinned (.plain (OpenSpec.upto versionNewSpec)) versionNewUptoCard

/-- THE SECOND FORM's CARD OF 'worldmintlaw12.VersionMerge'. -/
def versionMergeUptoCard : Claim7 := { stood := { row := versionMergeUptoRow, standIns := [], harness := (true, "60b0bc3a7e5772839ea9f82d9bce6f1bd5bcea9ee799d2c48587346f82a9368c"), looks := false }, kinds := [], alts := [], laidByText := true, laidKinds := [.data], laidTests := true, laidLooks := .later }
def VersionMergeUptoCardSaid : Prop := Claim7.holds Tryz.pinned (.plain (OpenSpec.upto versionMergeSpec)) versionMergeUptoCard

/-- THE SECOND FORM's CARD OF 'worldmintlaw12.VersionConverts'. -/
def versionConvertsUptoCard : Claim7 := { stood := { row := versionConvertsUptoRow, standIns := [], harness := (true, "60b0bc3a7e5772839ea9f82d9bce6f1bd5bcea9ee799d2c48587346f82a9368c"), looks := false }, kinds := [], alts := [], laidByText := true, laidKinds := [.data], laidTests := true, laidLooks := .later }
def VersionConvertsUptoCardSaid : Prop := Claim7.holds Tryz.pinned (.plain (OpenSpec.upto versionConvertsSpec)) versionConvertsUptoCard

/-- THE SECOND FORM's CARD OF 'worldmintlaw12.VersionConserves'. -/
def versionConservesUptoCard : Claim7 := { stood := { row := versionConservesUptoRow, standIns := [], harness := (true, "60b0bc3a7e5772839ea9f82d9bce6f1bd5bcea9ee799d2c48587346f82a9368c"), looks := false }, kinds := [], alts := [], laidByText := true, laidKinds := [.data], laidTests := true, laidLooks := .later }
def VersionConservesUptoCardSaid : Prop := Claim7.holds Tryz.pinned (.plain (OpenSpec.upto versionConservesSpec)) versionConservesUptoCard

/-- THE SECOND FORM's CARD OF 'worldmintlaw12.VersionThen'. -/
def versionThenUptoCard : Claim7 := { stood := { row := versionThenUptoRow, standIns := [], harness := (true, "60b0bc3a7e5772839ea9f82d9bce6f1bd5bcea9ee799d2c48587346f82a9368c"), looks := false }, kinds := [], alts := [], laidByText := true, laidKinds := [.data], laidTests := true, laidLooks := .later }
def VersionThenUptoCardSaid : Prop := Claim7.holds Tryz.pinned (.plain (OpenSpec.upto versionThenSpec)) versionThenUptoCard

/-- THE SECOND FORM's CARD OF 'worldmintlaw12.VersionSame'. -/
def versionSameUptoCard : Claim7 := { stood := { row := versionSameUptoRow, standIns := [], harness := (true, "60b0bc3a7e5772839ea9f82d9bce6f1bd5bcea9ee799d2c48587346f82a9368c"), looks := false }, kinds := [], alts := [], laidByText := true, laidKinds := [.data], laidTests := true, laidLooks := .later }
def VersionSameUptoCardSaid : Prop := Claim7.holds Tryz.pinned (.plain (OpenSpec.upto versionSameSpec)) versionSameUptoCard

/-- THE SECOND FORM's CARD OF 'worldmintlaw12.VersionHistory'. -/
def versionHistoryUptoCard : Claim7 := { stood := { row := versionHistoryUptoRow, standIns := [], harness := (true, "60b0bc3a7e5772839ea9f82d9bce6f1bd5bcea9ee799d2c48587346f82a9368c"), looks := false }, kinds := [], alts := [], laidByText := true, laidKinds := [.data], laidTests := true, laidLooks := .later }
def VersionHistoryUptoCardSaid : Prop := Claim7.holds Tryz.pinned (.plain (OpenSpec.upto versionHistorySpec)) versionHistoryUptoCard
end Rows
end Go.Proofs.YthjfdfdgbpbanaaGreatDoor
