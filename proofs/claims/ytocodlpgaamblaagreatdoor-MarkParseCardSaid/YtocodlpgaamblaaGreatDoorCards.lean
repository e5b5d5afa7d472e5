/-
  DERIVED. GIVEN WITH THE SEED: THE CARDS: each row of YtocodlpgaamblaaGreatDoorRows.lean that lists a variable, with what it lists TIED to the program's text (the seventh form; the later family's looks); each row that meets fmt, with fmt's text TOLD by the authors' own Lean function (tested against real Go, not proved from fmt's source: count such statements apart). THE CARD IS WHAT COUNTS. Prove the row's statement (the work); the ties are given (YtocodlpgaamblaaGreatDoorTie.lean); close each card by the builder's one call (the guide's Derived/Test/ToyasCard.lean, 'card_holds'). Laid BY PROGRAM, IN A SANDBOX (cutbox-door.mjs). By AI agents, Wed Nov 11 2026. No macro, syntax, notation, axiom, sorry.
-/
import Derived.Test.YtocodlpgaamblaaGreatDoorRows
import GoSem.ClaimSeven
namespace Go.Proofs.YtocodlpgaamblaaGreatDoor
namespace Rows

/-- THE TIED CARD OF 'worldmintlaw32.MarkParse'. -/
def markParseCard : Claim7 := { stood := { row := markParseRow, standIns := [], harness := (true, "bb005dfd2f228360e8c2261305e3965907a47d01d6d15079f3258c9b7133254f"), looks := true }, kinds := [], alts := [], laidByText := true, laidKinds := [.data, .data, .data, .data], laidTests := true, laidLooks := .later }
def MarkParseCardSaid : Prop := Claim7.holds Tryz.pinned (.plain (OpenSpec.ofChange markParseSpec)) markParseCard

/-- THE TIED CARD OF 'worldmintlaw32.MarkMany'. -/
def markManyCard : Claim7 := { stood := { row := markManyRow, standIns := [], harness := (true, "bb005dfd2f228360e8c2261305e3965907a47d01d6d15079f3258c9b7133254f"), looks := true }, kinds := [], alts := [], laidByText := true, laidKinds := [.data, .data, .data, .data], laidTests := true, laidLooks := .later }
def MarkManyCardSaid : Prop := Claim7.holds Tryz.pinned (.plain (OpenSpec.ofChange markManySpec)) markManyCard

/-- THE TIED CARD OF 'worldmintlaw32.MarkValid'. -/
def markValidCard : Claim7 := { stood := { row := markValidRow, standIns := [], harness := (true, "bb005dfd2f228360e8c2261305e3965907a47d01d6d15079f3258c9b7133254f"), looks := true }, kinds := [], alts := [], laidByText := true, laidKinds := [.data, .data, .data, .data], laidTests := true, laidLooks := .later }
def MarkValidCardSaid : Prop := Claim7.holds Tryz.pinned (.plain (OpenSpec.ofChange markValidSpec)) markValidCard

/-- THE TIED CARD OF 'worldmintlaw32.MarkSets'. -/
def markSetsCard : Claim7 := { stood := { row := markSetsRow, standIns := [], harness := (true, "bb005dfd2f228360e8c2261305e3965907a47d01d6d15079f3258c9b7133254f"), looks := true }, kinds := [], alts := [], laidByText := true, laidKinds := [.data, .data, .data, .data], laidTests := true, laidLooks := .later }
def MarkSetsCardSaid : Prop := Claim7.holds Tryz.pinned (.plain (OpenSpec.ofChange markSetsSpec)) markSetsCard

/-- THE TIED CARD OF 'worldmintlaw32.MarkMatches'. -/
def markMatchesCard : Claim7 := { stood := { row := markMatchesRow, standIns := [], harness := (true, "bb005dfd2f228360e8c2261305e3965907a47d01d6d15079f3258c9b7133254f"), looks := true }, kinds := [], alts := [], laidByText := true, laidKinds := [.data, .data, .data, .data], laidTests := true, laidLooks := .later }
def MarkMatchesCardSaid : Prop := Claim7.holds Tryz.pinned (.plain (OpenSpec.ofChange markMatchesSpec)) markMatchesCard

/-- THE TIED CARD OF 'worldmintlaw32.MarkNormal'. -/
def markNormalCard : Claim7 := { stood := { row := markNormalRow, standIns := [], harness := (true, "bb005dfd2f228360e8c2261305e3965907a47d01d6d15079f3258c9b7133254f"), looks := true }, kinds := [], alts := [], laidByText := true, laidKinds := [.data, .data, .data, .data], laidTests := true, laidLooks := .later }
def MarkNormalCardSaid : Prop := Claim7.holds Tryz.pinned (.plain (OpenSpec.ofChange markNormalSpec)) markNormalCard

/-- THE SECOND FORM's CARD OF 'worldmintlaw32.MarkParse'. -/
def markParseUptoCard : Claim7 := { stood := { row := markParseUptoRow, standIns := [], harness := (true, "bb005dfd2f228360e8c2261305e3965907a47d01d6d15079f3258c9b7133254f"), looks := true }, kinds := [], alts := [], laidByText := true, laidKinds := [.data, .data, .data, .data], laidTests := true, laidLooks := .later }
def MarkParseUptoCardSaid : Prop := Claim7.holds Tryz.pinned (.plain (OpenSpec.upto markParseSpec)) markParseUptoCard

/-- THE SECOND FORM's CARD OF 'worldmintlaw32.MarkMany'. -/
def markManyUptoCard : Claim7 := { stood := { row := markManyUptoRow, standIns := [], harness := (true, "bb005dfd2f228360e8c2261305e3965907a47d01d6d15079f3258c9b7133254f"), looks := true }, kinds := [], alts := [], laidByText := true, laidKinds := [.data, .data, .data, .data], laidTests := true, laidLooks := .later }
def MarkManyUptoCardSaid : Prop := Claim7.holds Tryz.pinned (.plain (OpenSpec.upto markManySpec)) markManyUptoCard

/-- THE SECOND FORM's CARD OF 'worldmintlaw32.MarkValid'. -/
def markValidUptoCard : Claim7 := { stood := { row := markValidUptoRow, standIns := [], harness := (true, "bb005dfd2f228360e8c2261305e3965907a47d01d6d15079f3258c9b7133254f"), looks := true }, kinds := [], alts := [], laidByText := true, laidKinds := [.data, .data, .data, .data], laidTests := true, laidLooks := .later }
def MarkValidUptoCardSaid : Prop := Claim7.holds Tryz.pinned (.plain (OpenSpec.upto markValidSpec)) markValidUptoCard

/-- THE SECOND FORM's CARD OF 'worldmintlaw32.MarkSets'. -/
def markSetsUptoCard : Claim7 := { stood := { row := markSetsUptoRow, standIns := [], harness := (true, "bb005dfd2f228360e8c2261305e3965907a47d01d6d15079f3258c9b7133254f"), looks := true }, kinds := [], alts := [], laidByText := true, laidKinds := [.data, .data, .data, .data], laidTests := true, laidLooks := .later }
def MarkSetsUptoCardSaid : Prop := Claim7.holds Tryz.pinned (.plain (OpenSpec.upto markSetsSpec)) markSetsUptoCard

/-- THE SECOND FORM's CARD OF 'worldmintlaw32.MarkMatches'. -/
def markMatchesUptoCard : Claim7 := { stood := { row := markMatchesUptoRow, standIns := [], harness := (true, "bb005dfd2f228360e8c2261305e3965907a47d01d6d15079f3258c9b7133254f"), looks := true }, kinds := [], alts := [], laidByText := true, laidKinds := [.data, .data, .data, .data], laidTests := true, laidLooks := .later }
def MarkMatchesUptoCardSaid : Prop := Claim7.holds Tryz.pinned (.plain (OpenSpec.upto markMatchesSpec)) markMatchesUptoCard

/-- THE SECOND FORM's CARD OF 'worldmintlaw32.MarkNormal'. -/
def markNormalUptoCard : Claim7 := { stood := { row := markNormalUptoRow, standIns := [], harness := (true, "bb005dfd2f228360e8c2261305e3965907a47d01d6d15079f3258c9b7133254f"), looks := true }, kinds := [], alts := [], laidByText := true, laidKinds := [.data, .data, .data, .data], laidTests := true, laidLooks := .later }
def MarkNormalUptoCardSaid : Prop := Claim7.holds Tryz.pinned (.plain (OpenSpec.upto markNormalSpec)) markNormalUptoCard
end Rows
end Go.Proofs.YtocodlpgaamblaaGreatDoor
