/-
  DERIVED. GIVEN WITH THE SEED: THE CARDS: each row of YtiecjoijnkghbaaGreatDoorRows.lean that lists a variable, with what it lists TIED to the program's text (the seventh form; the later family's looks); each row that meets fmt, with fmt's text TOLD by the authors' own Lean function (tested against real Go, not proved from fmt's source: count such statements apart). THE CARD IS WHAT COUNTS. Prove the row's statement (the work); the ties are given (YtiecjoijnkghbaaGreatDoorTie.lean); close each card by the builder's one call (the guide's Derived/Test/ToyasCard.lean, 'card_holds'). Laid BY PROGRAM, IN A SANDBOX (cutbox-door.mjs). By AI agents, Wed Nov 11 2026. No macro, syntax, notation, axiom, sorry.
-/
import Derived.Test.YtiecjoijnkghbaaGreatDoorRows
import GoSem.ClaimSeven
namespace Go.Proofs.YtiecjoijnkghbaaGreatDoor
namespace Rows

/-- THE TIED CARD OF 'worldmintlaw12.VersionEffects'. -/
def versionEffectsCard : Claim7 := { stood := { row := versionEffectsRow, standIns := [], harness := (true, "425d7d936131c2b3eaf929b5eed0e3cdf17f2cb688cbbafd2be433afc9cc1cde"), looks := true }, kinds := [], alts := [], laidByText := true, laidKinds := [.data], laidTests := true, laidLooks := .later }
def VersionEffectsCardSaid : Prop := Claim7.holds Tryz.pinned (.plain (OpenSpec.ofChange versionEffectsSpec)) versionEffectsCard

/-- THE TIED CARD OF 'worldmintlaw09.CatalogCompile'. -/
def catalogCompileCard : Claim7 := { stood := { row := catalogCompileRow, standIns := [], harness := (true, "425d7d936131c2b3eaf929b5eed0e3cdf17f2cb688cbbafd2be433afc9cc1cde"), looks := true }, kinds := [], alts := [], laidByText := true, laidKinds := [.data], laidTests := true, laidLooks := .later }
def CatalogCompileCardSaid : Prop := Claim7.holds Tryz.pinned (.plain (OpenSpec.ofChange catalogCompileSpec)) catalogCompileCard

/-- THE TIED CARD OF 'worldmintlaw09.CatalogMany'. -/
def catalogManyCard : Claim7 := { stood := { row := catalogManyRow, standIns := [], harness := (true, "425d7d936131c2b3eaf929b5eed0e3cdf17f2cb688cbbafd2be433afc9cc1cde"), looks := true }, kinds := [], alts := [], laidByText := true, laidKinds := [.data], laidTests := true, laidLooks := .later }
def CatalogManyCardSaid : Prop := Claim7.holds Tryz.pinned (.plain (OpenSpec.ofChange catalogManySpec)) catalogManyCard

/-- THE TIED CARD OF 'worldmintlaw09.CatalogPlaces'. -/
def catalogPlacesCard : Claim7 := { stood := { row := catalogPlacesRow, standIns := [], harness := (true, "425d7d936131c2b3eaf929b5eed0e3cdf17f2cb688cbbafd2be433afc9cc1cde"), looks := true }, kinds := [], alts := [], laidByText := true, laidKinds := [.data], laidTests := true, laidLooks := .later }
def CatalogPlacesCardSaid : Prop := Claim7.holds Tryz.pinned (.plain (OpenSpec.ofChange catalogPlacesSpec)) catalogPlacesCard

/-- THE TIED CARD OF 'worldmintlaw09.CatalogNames'. -/
def catalogNamesCard : Claim7 := { stood := { row := catalogNamesRow, standIns := [], harness := (true, "425d7d936131c2b3eaf929b5eed0e3cdf17f2cb688cbbafd2be433afc9cc1cde"), looks := true }, kinds := [], alts := [], laidByText := true, laidKinds := [.data], laidTests := true, laidLooks := .later }
def CatalogNamesCardSaid : Prop := Claim7.holds Tryz.pinned (.plain (OpenSpec.ofChange catalogNamesSpec)) catalogNamesCard

/-- THE TIED CARD OF 'worldmintlaw09.CatalogBytes'. -/
def catalogBytesCard : Claim7 := { stood := { row := catalogBytesRow, standIns := [], harness := (true, "425d7d936131c2b3eaf929b5eed0e3cdf17f2cb688cbbafd2be433afc9cc1cde"), looks := true }, kinds := [], alts := [], laidByText := true, laidKinds := [.data], laidTests := true, laidLooks := .later }
def CatalogBytesCardSaid : Prop := Claim7.holds Tryz.pinned (.plain (OpenSpec.ofChange catalogBytesSpec)) catalogBytesCard

/-- THE TIED CARD OF 'worldmintlaw09.CatalogForms'. -/
def catalogFormsCard : Claim7 := { stood := { row := catalogFormsRow, standIns := [], harness := (true, "425d7d936131c2b3eaf929b5eed0e3cdf17f2cb688cbbafd2be433afc9cc1cde"), looks := true }, kinds := [], alts := [], laidByText := true, laidKinds := [.data], laidTests := true, laidLooks := .later }
def CatalogFormsCardSaid : Prop := Claim7.holds Tryz.pinned (.plain (OpenSpec.ofChange catalogFormsSpec)) catalogFormsCard

/-- THE TIED CARD OF 'worldmintlaw31.TaxCatalog'. -/
def taxCatalogCard : Claim7 := { stood := { row := taxCatalogRow, standIns := [], harness := (true, "425d7d936131c2b3eaf929b5eed0e3cdf17f2cb688cbbafd2be433afc9cc1cde"), looks := true }, kinds := [], alts := [], laidByText := true, laidKinds := [.data, .data, .data, .data], laidTests := true, laidLooks := .later }
def TaxCatalogCardSaid : Prop := Claim7.holds Tryz.pinned (.plain (OpenSpec.ofChange taxCatalogSpec)) taxCatalogCard

/-- THE TIED CARD OF 'worldmintlaw09.CatalogRound'. -/
def catalogRoundCard : Claim7 := { stood := { row := catalogRoundRow, standIns := [], harness := (true, "425d7d936131c2b3eaf929b5eed0e3cdf17f2cb688cbbafd2be433afc9cc1cde"), looks := true }, kinds := [], alts := [], laidByText := true, laidKinds := [.data, .data, .data, .data], laidTests := true, laidLooks := .later }
def CatalogRoundCardSaid : Prop := Claim7.holds Tryz.pinned (.plain (OpenSpec.ofChange catalogRoundSpec)) catalogRoundCard

/-- THE TIED CARD OF 'worldmintlaw12.VersionMerges'. -/
def versionMergesCard : Claim7 := { stood := { row := versionMergesRow, standIns := [], harness := (true, "425d7d936131c2b3eaf929b5eed0e3cdf17f2cb688cbbafd2be433afc9cc1cde"), looks := true }, kinds := [], alts := [], laidByText := true, laidKinds := [.data, .data, .data, .data], laidTests := true, laidLooks := .later }
def VersionMergesCardSaid : Prop := Claim7.holds Tryz.pinned (.plain (OpenSpec.ofChange versionMergesSpec)) versionMergesCard

/-- THE SECOND FORM's CARD OF 'worldmintlaw12.VersionEffects'. -/
def versionEffectsUptoCard : Claim7 := { stood := { row := versionEffectsUptoRow, standIns := [], harness := (true, "425d7d936131c2b3eaf929b5eed0e3cdf17f2cb688cbbafd2be433afc9cc1cde"), looks := true }, kinds := [], alts := [], laidByText := true, laidKinds := [.data], laidTests := true, laidLooks := .later }
def VersionEffectsUptoCardSaid : Prop := Claim7.holds Tryz.pinned (.plain (OpenSpec.upto versionEffectsSpec)) versionEffectsUptoCard

/-- THE SECOND FORM's CARD OF 'worldmintlaw09.CatalogCompile'. -/
def catalogCompileUptoCard : Claim7 := { stood := { row := catalogCompileUptoRow, standIns := [], harness := (true, "425d7d936131c2b3eaf929b5eed0e3cdf17f2cb688cbbafd2be433afc9cc1cde"), looks := true }, kinds := [], alts := [], laidByText := true, laidKinds := [.data], laidTests := true, laidLooks := .later }
def CatalogCompileUptoCardSaid : Prop := Claim7.holds Tryz.pinned (.plain (OpenSpec.upto catalogCompileSpec)) catalogCompileUptoCard

/-- THE SECOND FORM's CARD OF 'worldmintlaw09.CatalogMany'. -/
def catalogManyUptoCard : Claim7 := { stood := { row := catalogManyUptoRow, standIns := [], harness := (true, "425d7d936131c2b3eaf929b5eed0e3cdf17f2cb688cbbafd2be433afc9cc1cde"), looks := true }, kinds := [], alts := [], laidByText := true, laidKinds := [.data], laidTests := true, laidLooks := .later }
def CatalogManyUptoCardSaid : Prop := Claim7.holds Tryz.pinned (.plain (OpenSpec.upto catalogManySpec)) catalogManyUptoCard

/-- THE SECOND FORM's CARD OF 'worldmintlaw09.CatalogPlaces'. -/
def catalogPlacesUptoCard : Claim7 := { stood := { row := catalogPlacesUptoRow, standIns := [], harness := (true, "425d7d936131c2b3eaf929b5eed0e3cdf17f2cb688cbbafd2be433afc9cc1cde"), looks := true }, kinds := [], alts := [], laidByText := true, laidKinds := [.data], laidTests := true, laidLooks := .later }
def CatalogPlacesUptoCardSaid : Prop := Claim7.holds Tryz.pinned (.plain (OpenSpec.upto catalogPlacesSpec)) catalogPlacesUptoCard

/-- THE SECOND FORM's CARD OF 'worldmintlaw09.CatalogNames'. -/
def catalogNamesUptoCard : Claim7 := { stood := { row := catalogNamesUptoRow, standIns := [], harness := (true, "425d7d936131c2b3eaf929b5eed0e3cdf17f2cb688cbbafd2be433afc9cc1cde"), looks := true }, kinds := [], alts := [], laidByText := true, laidKinds := [.data], laidTests := true, laidLooks := .later }
def CatalogNamesUptoCardSaid : Prop := Claim7.holds Tryz.pinned (.plain (OpenSpec.upto catalogNamesSpec)) catalogNamesUptoCard

/-- THE SECOND FORM's CARD OF 'worldmintlaw09.CatalogBytes'. -/
def catalogBytesUptoCard : Claim7 := { stood := { row := catalogBytesUptoRow, standIns := [], harness := (true, "425d7d936131c2b3eaf929b5eed0e3cdf17f2cb688cbbafd2be433afc9cc1cde"), looks := true }, kinds := [], alts := [], laidByText := true, laidKinds := [.data], laidTests := true, laidLooks := .later }
def CatalogBytesUptoCardSaid : Prop := Claim7.holds Tryz.pinned (.plain (OpenSpec.upto catalogBytesSpec)) catalogBytesUptoCard

/-- THE SECOND FORM's CARD OF 'worldmintlaw09.CatalogForms'. -/
def catalogFormsUptoCard : Claim7 := { stood := { row := catalogFormsUptoRow, standIns := [], harness := (true, "425d7d936131c2b3eaf929b5eed0e3cdf17f2cb688cbbafd2be433afc9cc1cde"), looks := true }, kinds := [], alts := [], laidByText := true, laidKinds := [.data], laidTests := true, laidLooks := .later }
def CatalogFormsUptoCardSaid : Prop := Claim7.holds Tryz.pinned (.plain (OpenSpec.upto catalogFormsSpec)) catalogFormsUptoCard

/-- THE SECOND FORM's CARD OF 'worldmintlaw31.TaxCatalog'. -/
def taxCatalogUptoCard : Claim7 := { stood := { row := taxCatalogUptoRow, standIns := [], harness := (true, "425d7d936131c2b3eaf929b5eed0e3cdf17f2cb688cbbafd2be433afc9cc1cde"), looks := true }, kinds := [], alts := [], laidByText := true, laidKinds := [.data, .data, .data, .data], laidTests := true, laidLooks := .later }
def TaxCatalogUptoCardSaid : Prop := Claim7.holds Tryz.pinned (.plain (OpenSpec.upto taxCatalogSpec)) taxCatalogUptoCard

/-- THE SECOND FORM's CARD OF 'worldmintlaw09.CatalogRound'. -/
def catalogRoundUptoCard : Claim7 := { stood := { row := catalogRoundUptoRow, standIns := [], harness := (true, "425d7d936131c2b3eaf929b5eed0e3cdf17f2cb688cbbafd2be433afc9cc1cde"), looks := true }, kinds := [], alts := [], laidByText := true, laidKinds := [.data, .data, .data, .data], laidTests := true, laidLooks := .later }
def CatalogRoundUptoCardSaid : Prop := Claim7.holds Tryz.pinned (.plain (OpenSpec.upto catalogRoundSpec)) catalogRoundUptoCard

/-- THE SECOND FORM's CARD OF 'worldmintlaw12.VersionMerges'. -/
def versionMergesUptoCard : Claim7 := { stood := { row := versionMergesUptoRow, standIns := [], harness := (true, "425d7d936131c2b3eaf929b5eed0e3cdf17f2cb688cbbafd2be433afc9cc1cde"), looks := true }, kinds := [], alts := [], laidByText := true, laidKinds := [.data, .data, .data, .data], laidTests := true, laidLooks := .later }
def VersionMergesUptoCardSaid : Prop := Claim7.holds Tryz.pinned (.plain (OpenSpec.upto versionMergesSpec)) versionMergesUptoCard
end Rows
end Go.Proofs.YtiecjoijnkghbaaGreatDoor
