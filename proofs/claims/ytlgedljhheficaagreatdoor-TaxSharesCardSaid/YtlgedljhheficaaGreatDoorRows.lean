/-
  NARROWER THAN 'FOR EVERY INPUT', by the rows' own cells (each row's printed sentence says how): TaxDue: laid · TaxShares: laid · TaxSlope: laid · TaxPeriods: laid · TaxMeter: laid.
  DERIVED. THE GIVEN ROWS OF THIS SEAT. 5 by the template 'for every input the law returns true; each argument reads behind the call as it read before'; 0 by the template 'total and deterministic' (their statements: YtlgedljhheficaaGreatDoorTotals.lean).
  GIVEN WITH THE SEED: the statements are not yours to turn. If you find one false, say at which input.
  Laid BY PROGRAM, IN A SANDBOX (cutbox-rows.mjs): the forced cells as the released guide's own fill.sh prints them over the translation 3ec3d24542abc176… (all of the seat's roots in one cut). By AI agents, Wed Nov 11 2026. No macro, syntax, notation, axiom, sorry.
-/
import Derived.Test.YtlgedljhheficaaGreatDoorChecked
import GoSem.Claim
import GoSem.ClaimJoined
import GoSem.ClaimMapViews
import Derived.JoinedTies
import Derived.KernelRfl
namespace Go.Proofs.YtlgedljhheficaaGreatDoor
/- THE CELL 'sum', in the pinned program and in every row, IS THE sha256 OF THE DUMP (.gsa) THAT YtlgedljhheficaaGreatDoorProg.lean LOADS. Nothing in Lean hashes anything: it is a label: what it is worth is what the hold of that sum in a sandbox is worth. -/
noncomputable def Tryz.pinned : Pinned := { name := "ytlgedljhheficaagreatdoor", sum := "3ec3d24542abc1761bcff1fb79de41cadf59aa41cb04e9619bd11f756411188d", checked := Tryz.checked }
namespace Rows
def none {H : Type} : Left H := { results := [], args := [] }

/- WHAT THE LISTED PACKAGE-LEVEL VARIABLES READ AS WHEN THE CALL BEGINS. Each datum BY PROGRAM (the guide's laid-datum.mjs) off the statement by which the dump's own 'gosem.cut.vars' lays the variable. In a bare row this is a premise. The card (YtlgedljhheficaaGreatDoorCards.lean) ties it to the program's text. -/
def laid_worldmint_lexer_kinds {H : Type} : DataW H := .agg [.lit (.int .u8 0), .lit (.int .u8 0), .lit (.int .u8 0), .lit (.int .u8 0), .lit (.int .u8 0), .lit (.int .u8 0), .lit (.int .u8 0), .lit (.int .u8 0), .lit (.int .u8 0), .lit (.int .u8 1), .lit (.int .u8 1), .lit (.int .u8 0), .lit (.int .u8 0), .lit (.int .u8 0), .lit (.int .u8 0), .lit (.int .u8 0), .lit (.int .u8 0), .lit (.int .u8 0), .lit (.int .u8 0), .lit (.int .u8 0), .lit (.int .u8 0), .lit (.int .u8 0), .lit (.int .u8 0), .lit (.int .u8 0), .lit (.int .u8 0), .lit (.int .u8 0), .lit (.int .u8 0), .lit (.int .u8 0), .lit (.int .u8 0), .lit (.int .u8 0), .lit (.int .u8 0), .lit (.int .u8 0), .lit (.int .u8 1), .lit (.int .u8 0), .lit (.int .u8 0), .lit (.int .u8 2), .lit (.int .u8 0), .lit (.int .u8 0), .lit (.int .u8 0), .lit (.int .u8 0), .lit (.int .u8 7), .lit (.int .u8 7), .lit (.int .u8 0), .lit (.int .u8 7), .lit (.int .u8 7), .lit (.int .u8 6), .lit (.int .u8 7), .lit (.int .u8 0), .lit (.int .u8 4), .lit (.int .u8 4), .lit (.int .u8 4), .lit (.int .u8 4), .lit (.int .u8 4), .lit (.int .u8 4), .lit (.int .u8 4), .lit (.int .u8 4), .lit (.int .u8 4), .lit (.int .u8 4), .lit (.int .u8 7), .lit (.int .u8 7), .lit (.int .u8 7), .lit (.int .u8 7), .lit (.int .u8 7), .lit (.int .u8 0), .lit (.int .u8 0), .lit (.int .u8 0), .lit (.int .u8 0), .lit (.int .u8 0), .lit (.int .u8 0), .lit (.int .u8 0), .lit (.int .u8 0), .lit (.int .u8 0), .lit (.int .u8 0), .lit (.int .u8 0), .lit (.int .u8 0), .lit (.int .u8 0), .lit (.int .u8 0), .lit (.int .u8 0), .lit (.int .u8 0), .lit (.int .u8 0), .lit (.int .u8 0), .lit (.int .u8 0), .lit (.int .u8 0), .lit (.int .u8 0), .lit (.int .u8 0), .lit (.int .u8 0), .lit (.int .u8 0), .lit (.int .u8 0), .lit (.int .u8 0), .lit (.int .u8 0), .lit (.int .u8 0), .lit (.int .u8 0), .lit (.int .u8 0), .lit (.int .u8 0), .lit (.int .u8 0), .lit (.int .u8 5), .lit (.int .u8 0), .lit (.int .u8 3), .lit (.int .u8 3), .lit (.int .u8 3), .lit (.int .u8 3), .lit (.int .u8 3), .lit (.int .u8 3), .lit (.int .u8 3), .lit (.int .u8 3), .lit (.int .u8 3), .lit (.int .u8 3), .lit (.int .u8 3), .lit (.int .u8 3), .lit (.int .u8 3), .lit (.int .u8 3), .lit (.int .u8 3), .lit (.int .u8 3), .lit (.int .u8 3), .lit (.int .u8 3), .lit (.int .u8 3), .lit (.int .u8 3), .lit (.int .u8 3), .lit (.int .u8 3), .lit (.int .u8 3), .lit (.int .u8 3), .lit (.int .u8 3), .lit (.int .u8 3), .lit (.int .u8 7), .lit (.int .u8 0), .lit (.int .u8 7), .lit (.int .u8 0), .lit (.int .u8 0)]

/-- 'worldmintlaw31.TaxDue': WHATEVER THE INPUT: true; the input reads as it did. -/
def taxDueSpec : ChangeSpec := { name := "taxDue", fn := fun _ => fun
  | [d1, d2, d3, d4] => { results := [.lit (.bool true)], args := [d1, d2, d3, d4] }
  | _ => none }
def taxDueRow : OpenClaim := { program := "ytlgedljhheficaagreatdoor", sum := "3ec3d24542abc1761bcff1fb79de41cadf59aa41cb04e9619bd11f756411188d", func := "worldmint/worldmintlaw31.TaxDue", spec := "taxDue", inPlace := ["internal/bytealg.IndexByteString"], unfollowed := true, recurses := true, named := ["worldmint/lexer.kinds", "math/bits.divideError", "math/bits.overflowError"], apart := false, laid := [("worldmint/lexer.kinds", laid_worldmint_lexer_kinds)] }
def TaxDueSaid : Prop := taxDueRow.holds Tryz.pinned (OpenSpec.ofChange taxDueSpec)

/-- ITS FALSE NEIGHBOUR: 'it returns false'. Refute it at one input. -/
def taxDueWrong : ChangeSpec := { name := "taxDue", fn := fun _ => fun
  | [d1, d2, d3, d4] => { results := [.lit (.bool false)], args := [d1, d2, d3, d4] }
  | _ => none }
def TaxDueWrongFalsely : Prop := taxDueRow.holds Tryz.pinned (OpenSpec.ofChange taxDueWrong)

/-- 'worldmintlaw31.TaxShares': WHATEVER THE INPUT: true; the input reads as it did. -/
def taxSharesSpec : ChangeSpec := { name := "taxShares", fn := fun _ => fun
  | [d1, d2, d3, d4] => { results := [.lit (.bool true)], args := [d1, d2, d3, d4] }
  | _ => none }
def taxSharesRow : OpenClaim := { program := "ytlgedljhheficaagreatdoor", sum := "3ec3d24542abc1761bcff1fb79de41cadf59aa41cb04e9619bd11f756411188d", func := "worldmint/worldmintlaw31.TaxShares", spec := "taxShares", inPlace := ["internal/bytealg.IndexByteString"], unfollowed := true, recurses := true, named := ["worldmint/lexer.kinds", "math/bits.divideError", "math/bits.overflowError"], apart := false, laid := [("worldmint/lexer.kinds", laid_worldmint_lexer_kinds)] }
def TaxSharesSaid : Prop := taxSharesRow.holds Tryz.pinned (OpenSpec.ofChange taxSharesSpec)

/-- ITS FALSE NEIGHBOUR: 'it returns false'. Refute it at one input. -/
def taxSharesWrong : ChangeSpec := { name := "taxShares", fn := fun _ => fun
  | [d1, d2, d3, d4] => { results := [.lit (.bool false)], args := [d1, d2, d3, d4] }
  | _ => none }
def TaxSharesWrongFalsely : Prop := taxSharesRow.holds Tryz.pinned (OpenSpec.ofChange taxSharesWrong)

/-- 'worldmintlaw31.TaxSlope': WHATEVER THE INPUT: true; the input reads as it did. -/
def taxSlopeSpec : ChangeSpec := { name := "taxSlope", fn := fun _ => fun
  | [d1, d2, d3] => { results := [.lit (.bool true)], args := [d1, d2, d3] }
  | _ => none }
def taxSlopeRow : OpenClaim := { program := "ytlgedljhheficaagreatdoor", sum := "3ec3d24542abc1761bcff1fb79de41cadf59aa41cb04e9619bd11f756411188d", func := "worldmint/worldmintlaw31.TaxSlope", spec := "taxSlope", inPlace := ["internal/bytealg.IndexByteString"], unfollowed := true, recurses := true, named := ["worldmint/lexer.kinds", "math/bits.divideError", "math/bits.overflowError"], apart := false, laid := [("worldmint/lexer.kinds", laid_worldmint_lexer_kinds)] }
def TaxSlopeSaid : Prop := taxSlopeRow.holds Tryz.pinned (OpenSpec.ofChange taxSlopeSpec)

/-- ITS FALSE NEIGHBOUR: 'it returns false'. Refute it at one input. -/
def taxSlopeWrong : ChangeSpec := { name := "taxSlope", fn := fun _ => fun
  | [d1, d2, d3] => { results := [.lit (.bool false)], args := [d1, d2, d3] }
  | _ => none }
def TaxSlopeWrongFalsely : Prop := taxSlopeRow.holds Tryz.pinned (OpenSpec.ofChange taxSlopeWrong)

/-- 'worldmintlaw31.TaxPeriods': WHATEVER THE INPUT: true; the input reads as it did. -/
def taxPeriodsSpec : ChangeSpec := { name := "taxPeriods", fn := fun _ => fun
  | [d1, d2, d3, d4] => { results := [.lit (.bool true)], args := [d1, d2, d3, d4] }
  | _ => none }
def taxPeriodsRow : OpenClaim := { program := "ytlgedljhheficaagreatdoor", sum := "3ec3d24542abc1761bcff1fb79de41cadf59aa41cb04e9619bd11f756411188d", func := "worldmint/worldmintlaw31.TaxPeriods", spec := "taxPeriods", inPlace := ["internal/bytealg.IndexByteString"], unfollowed := true, recurses := true, named := ["worldmint/lexer.kinds", "math/bits.divideError", "math/bits.overflowError"], apart := false, laid := [("worldmint/lexer.kinds", laid_worldmint_lexer_kinds)] }
def TaxPeriodsSaid : Prop := taxPeriodsRow.holds Tryz.pinned (OpenSpec.ofChange taxPeriodsSpec)

/-- ITS FALSE NEIGHBOUR: 'it returns false'. Refute it at one input. -/
def taxPeriodsWrong : ChangeSpec := { name := "taxPeriods", fn := fun _ => fun
  | [d1, d2, d3, d4] => { results := [.lit (.bool false)], args := [d1, d2, d3, d4] }
  | _ => none }
def TaxPeriodsWrongFalsely : Prop := taxPeriodsRow.holds Tryz.pinned (OpenSpec.ofChange taxPeriodsWrong)

/-- 'worldmintlaw31.TaxMeter': WHATEVER THE INPUT: true; the input reads as it did. -/
def taxMeterSpec : ChangeSpec := { name := "taxMeter", fn := fun _ => fun
  | [d1, d2, d3, d4] => { results := [.lit (.bool true)], args := [d1, d2, d3, d4] }
  | _ => none }
def taxMeterRow : OpenClaim := { program := "ytlgedljhheficaagreatdoor", sum := "3ec3d24542abc1761bcff1fb79de41cadf59aa41cb04e9619bd11f756411188d", func := "worldmint/worldmintlaw31.TaxMeter", spec := "taxMeter", inPlace := ["internal/bytealg.IndexByteString"], unfollowed := true, recurses := true, named := ["worldmint/lexer.kinds", "math/bits.divideError", "math/bits.overflowError"], apart := false, laid := [("worldmint/lexer.kinds", laid_worldmint_lexer_kinds)] }
def TaxMeterSaid : Prop := taxMeterRow.holds Tryz.pinned (OpenSpec.ofChange taxMeterSpec)

/-- ITS FALSE NEIGHBOUR: 'it returns false'. Refute it at one input. -/
def taxMeterWrong : ChangeSpec := { name := "taxMeter", fn := fun _ => fun
  | [d1, d2, d3, d4] => { results := [.lit (.bool false)], args := [d1, d2, d3, d4] }
  | _ => none }
def TaxMeterWrongFalsely : Prop := taxMeterRow.holds Tryz.pinned (OpenSpec.ofChange taxMeterWrong)

/- THE SECOND FORM. 'bulk': how many values and letters a reading holds, each counted each time it is reached (what is shared counts as often as it is met; a slice's spare places count too). A statement '..UptoSaid' is the law's where the arguments, and the package variables that the reading takes, are together of bulk at most 1048576: NARROWER than '..Said'. Prove '..Said' where nothing that the law and all that it calls make is longer than what came in: it says more and counts as full. Else prove '..UptoSaid'. A law counts once. -/
mutual
def uptoBulk {H : Type} : DataW H → Nat
  | .lit (.string bytes) => bytes.length + 1
  | .lit _ => 1
  | .nil => 1
  | .ptr d => uptoBulk d + 1
  | .slice elems spare => uptoBulkAll elems + uptoBulkAll spare + 1
  | .agg parts => uptoBulkAll parts + 1
  | .iface _ d => uptoBulk d + 1
  | .map entries => uptoBulkEntries entries + 1
  | .held _ => 1
def uptoBulkAll {H : Type} : List (DataW H) → Nat
  | [] => 0
  | d :: r => uptoBulk d + uptoBulkAll r
def uptoBulkEntries {H : Type} : List (Lit × DataW H) → Nat
  | [] => 0
  | x :: r => uptoBulkEntry x + uptoBulkEntries r
def uptoBulkEntry {H : Type} : Lit × DataW H → Nat
  | (.string bytes, d) => bytes.length + uptoBulk d + 1
  | (_, d) => uptoBulk d + 1
 end
def uptoSmall : (H : Type) → List (DataW H) → Bool := fun _ ds => decide (uptoBulkAll ds ≤ 1048576)
def OpenSpec.upto (s : _root_.Go.ChangeSpec) : _root_.Go.OpenSpec := { _root_.Go.OpenSpec.ofChange s with cond := some uptoSmall }

/-- 'worldmintlaw31.TaxDue', WHERE WHAT IT READS IS OF BULK AT MOST 1048576: true; the input reads as it did. -/
def taxDueUptoRow : OpenClaim := { program := "ytlgedljhheficaagreatdoor", sum := "3ec3d24542abc1761bcff1fb79de41cadf59aa41cb04e9619bd11f756411188d", func := "worldmint/worldmintlaw31.TaxDue", spec := "taxDue", inPlace := ["internal/bytealg.IndexByteString"], unfollowed := true, recurses := true, named := ["worldmint/lexer.kinds", "math/bits.divideError", "math/bits.overflowError"], apart := false, laid := [("worldmint/lexer.kinds", laid_worldmint_lexer_kinds)], narrowed := true }
def TaxDueUptoSaid : Prop := taxDueUptoRow.holds Tryz.pinned (OpenSpec.upto taxDueSpec)

/-- 'worldmintlaw31.TaxShares', WHERE WHAT IT READS IS OF BULK AT MOST 1048576: true; the input reads as it did. -/
def taxSharesUptoRow : OpenClaim := { program := "ytlgedljhheficaagreatdoor", sum := "3ec3d24542abc1761bcff1fb79de41cadf59aa41cb04e9619bd11f756411188d", func := "worldmint/worldmintlaw31.TaxShares", spec := "taxShares", inPlace := ["internal/bytealg.IndexByteString"], unfollowed := true, recurses := true, named := ["worldmint/lexer.kinds", "math/bits.divideError", "math/bits.overflowError"], apart := false, laid := [("worldmint/lexer.kinds", laid_worldmint_lexer_kinds)], narrowed := true }
def TaxSharesUptoSaid : Prop := taxSharesUptoRow.holds Tryz.pinned (OpenSpec.upto taxSharesSpec)

/-- 'worldmintlaw31.TaxSlope', WHERE WHAT IT READS IS OF BULK AT MOST 1048576: true; the input reads as it did. -/
def taxSlopeUptoRow : OpenClaim := { program := "ytlgedljhheficaagreatdoor", sum := "3ec3d24542abc1761bcff1fb79de41cadf59aa41cb04e9619bd11f756411188d", func := "worldmint/worldmintlaw31.TaxSlope", spec := "taxSlope", inPlace := ["internal/bytealg.IndexByteString"], unfollowed := true, recurses := true, named := ["worldmint/lexer.kinds", "math/bits.divideError", "math/bits.overflowError"], apart := false, laid := [("worldmint/lexer.kinds", laid_worldmint_lexer_kinds)], narrowed := true }
def TaxSlopeUptoSaid : Prop := taxSlopeUptoRow.holds Tryz.pinned (OpenSpec.upto taxSlopeSpec)

/-- 'worldmintlaw31.TaxPeriods', WHERE WHAT IT READS IS OF BULK AT MOST 1048576: true; the input reads as it did. -/
def taxPeriodsUptoRow : OpenClaim := { program := "ytlgedljhheficaagreatdoor", sum := "3ec3d24542abc1761bcff1fb79de41cadf59aa41cb04e9619bd11f756411188d", func := "worldmint/worldmintlaw31.TaxPeriods", spec := "taxPeriods", inPlace := ["internal/bytealg.IndexByteString"], unfollowed := true, recurses := true, named := ["worldmint/lexer.kinds", "math/bits.divideError", "math/bits.overflowError"], apart := false, laid := [("worldmint/lexer.kinds", laid_worldmint_lexer_kinds)], narrowed := true }
def TaxPeriodsUptoSaid : Prop := taxPeriodsUptoRow.holds Tryz.pinned (OpenSpec.upto taxPeriodsSpec)

/-- 'worldmintlaw31.TaxMeter', WHERE WHAT IT READS IS OF BULK AT MOST 1048576: true; the input reads as it did. -/
def taxMeterUptoRow : OpenClaim := { program := "ytlgedljhheficaagreatdoor", sum := "3ec3d24542abc1761bcff1fb79de41cadf59aa41cb04e9619bd11f756411188d", func := "worldmint/worldmintlaw31.TaxMeter", spec := "taxMeter", inPlace := ["internal/bytealg.IndexByteString"], unfollowed := true, recurses := true, named := ["worldmint/lexer.kinds", "math/bits.divideError", "math/bits.overflowError"], apart := false, laid := [("worldmint/lexer.kinds", laid_worldmint_lexer_kinds)], narrowed := true }
def TaxMeterUptoSaid : Prop := taxMeterUptoRow.holds Tryz.pinned (OpenSpec.upto taxMeterSpec)

end Rows
end Go.Proofs.YtlgedljhheficaaGreatDoor
