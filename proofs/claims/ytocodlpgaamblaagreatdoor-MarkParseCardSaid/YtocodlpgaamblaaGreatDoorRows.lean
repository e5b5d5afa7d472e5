/-
  NARROWER THAN 'FOR EVERY INPUT', by the rows' own cells (each row's printed sentence says how): MarkParse: laid · MarkMany: laid · MarkValid: laid · MarkSets: laid · MarkMatches: laid · MarkNormal: laid.
  DERIVED. THE GIVEN ROWS OF THIS SEAT. 6 by the template 'for every input the law returns true; each argument reads behind the call as it read before'; 0 by the template 'total and deterministic' (their statements: YtocodlpgaamblaaGreatDoorTotals.lean).
  GIVEN WITH THE SEED: the statements are not yours to turn. If you find one false, say at which input.
  Laid BY PROGRAM, IN A SANDBOX (cutbox-rows.mjs): the forced cells as the released guide's own fill.sh prints them over the translation fa5dc2c72f3ff124… (all of the seat's roots in one cut). By AI agents, Wed Nov 11 2026. No macro, syntax, notation, axiom, sorry.
-/
import Derived.Test.YtocodlpgaamblaaGreatDoorChecked
import GoSem.Claim
import GoSem.ClaimJoined
import GoSem.ClaimMapViews
import Derived.JoinedTies
import Derived.KernelRfl
namespace Go.Proofs.YtocodlpgaamblaaGreatDoor
/- THE CELL 'sum', in the pinned program and in every row, IS THE sha256 OF THE DUMP (.gsa) THAT YtocodlpgaamblaaGreatDoorProg.lean LOADS. Nothing in Lean hashes anything: it is a label: what it is worth is what the hold of that sum in a sandbox is worth. -/
noncomputable def Tryz.pinned : Pinned := { name := "ytocodlpgaamblaagreatdoor", sum := "fa5dc2c72f3ff124e69ec6cbc016c566b368d1ac7c0c78d3c0920748130ac765", checked := Tryz.checked }
namespace Rows
def none {H : Type} : Left H := { results := [], args := [] }

/- WHAT THE LISTED PACKAGE-LEVEL VARIABLES READ AS WHEN THE CALL BEGINS. Each datum BY PROGRAM (the guide's laid-datum.mjs) off the statement by which the dump's own 'gosem.cut.vars' lays the variable. In a bare row this is a premise. The card (YtocodlpgaamblaaGreatDoorCards.lean) ties it to the program's text. -/
def laid_math_bits_deBruijn32tab {H : Type} : DataW H := .agg [.lit (.int .u8 0), .lit (.int .u8 1), .lit (.int .u8 28), .lit (.int .u8 2), .lit (.int .u8 29), .lit (.int .u8 14), .lit (.int .u8 24), .lit (.int .u8 3), .lit (.int .u8 30), .lit (.int .u8 22), .lit (.int .u8 20), .lit (.int .u8 15), .lit (.int .u8 25), .lit (.int .u8 17), .lit (.int .u8 4), .lit (.int .u8 8), .lit (.int .u8 31), .lit (.int .u8 27), .lit (.int .u8 13), .lit (.int .u8 23), .lit (.int .u8 21), .lit (.int .u8 19), .lit (.int .u8 16), .lit (.int .u8 7), .lit (.int .u8 26), .lit (.int .u8 12), .lit (.int .u8 18), .lit (.int .u8 6), .lit (.int .u8 11), .lit (.int .u8 5), .lit (.int .u8 10), .lit (.int .u8 9)]
def laid_math_bits_deBruijn64tab {H : Type} : DataW H := .agg [.lit (.int .u8 0), .lit (.int .u8 1), .lit (.int .u8 56), .lit (.int .u8 2), .lit (.int .u8 57), .lit (.int .u8 49), .lit (.int .u8 28), .lit (.int .u8 3), .lit (.int .u8 61), .lit (.int .u8 58), .lit (.int .u8 42), .lit (.int .u8 50), .lit (.int .u8 38), .lit (.int .u8 29), .lit (.int .u8 17), .lit (.int .u8 4), .lit (.int .u8 62), .lit (.int .u8 47), .lit (.int .u8 59), .lit (.int .u8 36), .lit (.int .u8 45), .lit (.int .u8 43), .lit (.int .u8 51), .lit (.int .u8 22), .lit (.int .u8 53), .lit (.int .u8 39), .lit (.int .u8 33), .lit (.int .u8 30), .lit (.int .u8 24), .lit (.int .u8 18), .lit (.int .u8 12), .lit (.int .u8 5), .lit (.int .u8 63), .lit (.int .u8 55), .lit (.int .u8 48), .lit (.int .u8 27), .lit (.int .u8 60), .lit (.int .u8 41), .lit (.int .u8 37), .lit (.int .u8 16), .lit (.int .u8 46), .lit (.int .u8 35), .lit (.int .u8 44), .lit (.int .u8 21), .lit (.int .u8 52), .lit (.int .u8 32), .lit (.int .u8 23), .lit (.int .u8 11), .lit (.int .u8 54), .lit (.int .u8 26), .lit (.int .u8 40), .lit (.int .u8 15), .lit (.int .u8 34), .lit (.int .u8 20), .lit (.int .u8 31), .lit (.int .u8 10), .lit (.int .u8 25), .lit (.int .u8 14), .lit (.int .u8 19), .lit (.int .u8 9), .lit (.int .u8 13), .lit (.int .u8 8), .lit (.int .u8 7), .lit (.int .u8 6)]
def laid_internal_strconv_uint64pow10 {H : Type} : DataW H := .agg [.lit (.int .u64 1), .lit (.int .u64 10), .lit (.int .u64 100), .lit (.int .u64 1000), .lit (.int .u64 10000), .lit (.int .u64 100000), .lit (.int .u64 1000000), .lit (.int .u64 10000000), .lit (.int .u64 100000000), .lit (.int .u64 1000000000), .lit (.int .u64 10000000000), .lit (.int .u64 100000000000), .lit (.int .u64 1000000000000), .lit (.int .u64 10000000000000), .lit (.int .u64 100000000000000), .lit (.int .u64 1000000000000000), .lit (.int .u64 10000000000000000), .lit (.int .u64 100000000000000000), .lit (.int .u64 1000000000000000000), .lit (.int .u64 10000000000000000000)]
def laid_worldmint_lexer_kinds {H : Type} : DataW H := .agg [.lit (.int .u8 0), .lit (.int .u8 0), .lit (.int .u8 0), .lit (.int .u8 0), .lit (.int .u8 0), .lit (.int .u8 0), .lit (.int .u8 0), .lit (.int .u8 0), .lit (.int .u8 0), .lit (.int .u8 1), .lit (.int .u8 1), .lit (.int .u8 0), .lit (.int .u8 0), .lit (.int .u8 0), .lit (.int .u8 0), .lit (.int .u8 0), .lit (.int .u8 0), .lit (.int .u8 0), .lit (.int .u8 0), .lit (.int .u8 0), .lit (.int .u8 0), .lit (.int .u8 0), .lit (.int .u8 0), .lit (.int .u8 0), .lit (.int .u8 0), .lit (.int .u8 0), .lit (.int .u8 0), .lit (.int .u8 0), .lit (.int .u8 0), .lit (.int .u8 0), .lit (.int .u8 0), .lit (.int .u8 0), .lit (.int .u8 1), .lit (.int .u8 0), .lit (.int .u8 0), .lit (.int .u8 2), .lit (.int .u8 0), .lit (.int .u8 0), .lit (.int .u8 0), .lit (.int .u8 0), .lit (.int .u8 7), .lit (.int .u8 7), .lit (.int .u8 0), .lit (.int .u8 7), .lit (.int .u8 7), .lit (.int .u8 6), .lit (.int .u8 7), .lit (.int .u8 0), .lit (.int .u8 4), .lit (.int .u8 4), .lit (.int .u8 4), .lit (.int .u8 4), .lit (.int .u8 4), .lit (.int .u8 4), .lit (.int .u8 4), .lit (.int .u8 4), .lit (.int .u8 4), .lit (.int .u8 4), .lit (.int .u8 7), .lit (.int .u8 7), .lit (.int .u8 7), .lit (.int .u8 7), .lit (.int .u8 7), .lit (.int .u8 0), .lit (.int .u8 0), .lit (.int .u8 0), .lit (.int .u8 0), .lit (.int .u8 0), .lit (.int .u8 0), .lit (.int .u8 0), .lit (.int .u8 0), .lit (.int .u8 0), .lit (.int .u8 0), .lit (.int .u8 0), .lit (.int .u8 0), .lit (.int .u8 0), .lit (.int .u8 0), .lit (.int .u8 0), .lit (.int .u8 0), .lit (.int .u8 0), .lit (.int .u8 0), .lit (.int .u8 0), .lit (.int .u8 0), .lit (.int .u8 0), .lit (.int .u8 0), .lit (.int .u8 0), .lit (.int .u8 0), .lit (.int .u8 0), .lit (.int .u8 0), .lit (.int .u8 0), .lit (.int .u8 0), .lit (.int .u8 0), .lit (.int .u8 0), .lit (.int .u8 0), .lit (.int .u8 0), .lit (.int .u8 5), .lit (.int .u8 0), .lit (.int .u8 3), .lit (.int .u8 3), .lit (.int .u8 3), .lit (.int .u8 3), .lit (.int .u8 3), .lit (.int .u8 3), .lit (.int .u8 3), .lit (.int .u8 3), .lit (.int .u8 3), .lit (.int .u8 3), .lit (.int .u8 3), .lit (.int .u8 3), .lit (.int .u8 3), .lit (.int .u8 3), .lit (.int .u8 3), .lit (.int .u8 3), .lit (.int .u8 3), .lit (.int .u8 3), .lit (.int .u8 3), .lit (.int .u8 3), .lit (.int .u8 3), .lit (.int .u8 3), .lit (.int .u8 3), .lit (.int .u8 3), .lit (.int .u8 3), .lit (.int .u8 3), .lit (.int .u8 7), .lit (.int .u8 0), .lit (.int .u8 7), .lit (.int .u8 0), .lit (.int .u8 0)]

/-- 'worldmintlaw32.MarkParse': WHATEVER THE INPUT: true; the input reads as it did. -/
def markParseSpec : ChangeSpec := { name := "markParse", fn := fun _ => fun
  | [d1, d2, d3, d4] => { results := [.lit (.bool true)], args := [d1, d2, d3, d4] }
  | _ => none }
def markParseRow : OpenClaim := { program := "ytocodlpgaamblaagreatdoor", sum := "fa5dc2c72f3ff124e69ec6cbc016c566b368d1ac7c0c78d3c0920748130ac765", func := "worldmint/worldmintlaw32.MarkParse", spec := "markParse", inPlace := ["internal/bytealg.IndexByteString", "internal/abi.NoEscape"], unfollowed := true, recurses := true, named := ["worldmint/lexer.kinds", "internal/strconv.uint64pow10", "math/bits.deBruijn32tab", "math/bits.deBruijn64tab"], apart := false, laid := [("math/bits.deBruijn32tab", laid_math_bits_deBruijn32tab), ("math/bits.deBruijn64tab", laid_math_bits_deBruijn64tab), ("internal/strconv.uint64pow10", laid_internal_strconv_uint64pow10), ("worldmint/lexer.kinds", laid_worldmint_lexer_kinds)] }
def MarkParseSaid : Prop := markParseRow.holds Tryz.pinned (OpenSpec.ofChange markParseSpec)

/-- ITS FALSE NEIGHBOUR: 'it returns false'. Refute it at one input. -/
def markParseWrong : ChangeSpec := { name := "markParse", fn := fun _ => fun
  | [d1, d2, d3, d4] => { results := [.lit (.bool false)], args := [d1, d2, d3, d4] }
  | _ => none }
def MarkParseWrongFalsely : Prop := markParseRow.holds Tryz.pinned (OpenSpec.ofChange markParseWrong)

/-- 'worldmintlaw32.MarkMany': WHATEVER THE INPUT: true; the input reads as it did. -/
def markManySpec : ChangeSpec := { name := "markMany", fn := fun _ => fun
  | [d1, d2] => { results := [.lit (.bool true)], args := [d1, d2] }
  | _ => none }
def markManyRow : OpenClaim := { program := "ytocodlpgaamblaagreatdoor", sum := "fa5dc2c72f3ff124e69ec6cbc016c566b368d1ac7c0c78d3c0920748130ac765", func := "worldmint/worldmintlaw32.MarkMany", spec := "markMany", inPlace := ["internal/bytealg.IndexByteString", "internal/abi.NoEscape"], unfollowed := true, recurses := true, named := ["worldmint/lexer.kinds", "internal/strconv.uint64pow10", "math/bits.deBruijn32tab", "math/bits.deBruijn64tab"], apart := false, laid := [("math/bits.deBruijn32tab", laid_math_bits_deBruijn32tab), ("math/bits.deBruijn64tab", laid_math_bits_deBruijn64tab), ("internal/strconv.uint64pow10", laid_internal_strconv_uint64pow10), ("worldmint/lexer.kinds", laid_worldmint_lexer_kinds)] }
def MarkManySaid : Prop := markManyRow.holds Tryz.pinned (OpenSpec.ofChange markManySpec)

/-- ITS FALSE NEIGHBOUR: 'it returns false'. Refute it at one input. -/
def markManyWrong : ChangeSpec := { name := "markMany", fn := fun _ => fun
  | [d1, d2] => { results := [.lit (.bool false)], args := [d1, d2] }
  | _ => none }
def MarkManyWrongFalsely : Prop := markManyRow.holds Tryz.pinned (OpenSpec.ofChange markManyWrong)

/-- 'worldmintlaw32.MarkValid': WHATEVER THE INPUT: true; the input reads as it did. -/
def markValidSpec : ChangeSpec := { name := "markValid", fn := fun _ => fun
  | [d1, d2, d3, d4, d5] => { results := [.lit (.bool true)], args := [d1, d2, d3, d4, d5] }
  | _ => none }
def markValidRow : OpenClaim := { program := "ytocodlpgaamblaagreatdoor", sum := "fa5dc2c72f3ff124e69ec6cbc016c566b368d1ac7c0c78d3c0920748130ac765", func := "worldmint/worldmintlaw32.MarkValid", spec := "markValid", inPlace := ["internal/abi.NoEscape", "internal/bytealg.IndexByteString"], unfollowed := true, recurses := true, named := ["worldmint/lexer.kinds", "internal/strconv.uint64pow10", "math/bits.deBruijn32tab", "math/bits.deBruijn64tab"], apart := false, laid := [("math/bits.deBruijn32tab", laid_math_bits_deBruijn32tab), ("math/bits.deBruijn64tab", laid_math_bits_deBruijn64tab), ("internal/strconv.uint64pow10", laid_internal_strconv_uint64pow10), ("worldmint/lexer.kinds", laid_worldmint_lexer_kinds)] }
def MarkValidSaid : Prop := markValidRow.holds Tryz.pinned (OpenSpec.ofChange markValidSpec)

/-- ITS FALSE NEIGHBOUR: 'it returns false'. Refute it at one input. -/
def markValidWrong : ChangeSpec := { name := "markValid", fn := fun _ => fun
  | [d1, d2, d3, d4, d5] => { results := [.lit (.bool false)], args := [d1, d2, d3, d4, d5] }
  | _ => none }
def MarkValidWrongFalsely : Prop := markValidRow.holds Tryz.pinned (OpenSpec.ofChange markValidWrong)

/-- 'worldmintlaw32.MarkSets': WHATEVER THE INPUT: true; the input reads as it did. -/
def markSetsSpec : ChangeSpec := { name := "markSets", fn := fun _ => fun
  | [d1, d2, d3, d4] => { results := [.lit (.bool true)], args := [d1, d2, d3, d4] }
  | _ => none }
def markSetsRow : OpenClaim := { program := "ytocodlpgaamblaagreatdoor", sum := "fa5dc2c72f3ff124e69ec6cbc016c566b368d1ac7c0c78d3c0920748130ac765", func := "worldmint/worldmintlaw32.MarkSets", spec := "markSets", inPlace := ["internal/bytealg.IndexByteString", "internal/abi.NoEscape"], unfollowed := true, recurses := true, named := ["worldmint/lexer.kinds", "internal/strconv.uint64pow10", "math/bits.deBruijn32tab", "math/bits.deBruijn64tab"], apart := false, laid := [("math/bits.deBruijn32tab", laid_math_bits_deBruijn32tab), ("math/bits.deBruijn64tab", laid_math_bits_deBruijn64tab), ("internal/strconv.uint64pow10", laid_internal_strconv_uint64pow10), ("worldmint/lexer.kinds", laid_worldmint_lexer_kinds)] }
def MarkSetsSaid : Prop := markSetsRow.holds Tryz.pinned (OpenSpec.ofChange markSetsSpec)

/-- ITS FALSE NEIGHBOUR: 'it returns false'. Refute it at one input. -/
def markSetsWrong : ChangeSpec := { name := "markSets", fn := fun _ => fun
  | [d1, d2, d3, d4] => { results := [.lit (.bool false)], args := [d1, d2, d3, d4] }
  | _ => none }
def MarkSetsWrongFalsely : Prop := markSetsRow.holds Tryz.pinned (OpenSpec.ofChange markSetsWrong)

/-- 'worldmintlaw32.MarkMatches': WHATEVER THE INPUT: true; the input reads as it did. -/
def markMatchesSpec : ChangeSpec := { name := "markMatches", fn := fun _ => fun
  | [d1, d2, d3, d4, d5, d6] => { results := [.lit (.bool true)], args := [d1, d2, d3, d4, d5, d6] }
  | _ => none }
def markMatchesRow : OpenClaim := { program := "ytocodlpgaamblaagreatdoor", sum := "fa5dc2c72f3ff124e69ec6cbc016c566b368d1ac7c0c78d3c0920748130ac765", func := "worldmint/worldmintlaw32.MarkMatches", spec := "markMatches", inPlace := ["internal/bytealg.IndexByteString", "internal/abi.NoEscape"], unfollowed := true, recurses := true, named := ["worldmint/lexer.kinds", "internal/strconv.uint64pow10", "math/bits.deBruijn32tab", "math/bits.deBruijn64tab"], apart := false, laid := [("math/bits.deBruijn32tab", laid_math_bits_deBruijn32tab), ("math/bits.deBruijn64tab", laid_math_bits_deBruijn64tab), ("internal/strconv.uint64pow10", laid_internal_strconv_uint64pow10), ("worldmint/lexer.kinds", laid_worldmint_lexer_kinds)] }
def MarkMatchesSaid : Prop := markMatchesRow.holds Tryz.pinned (OpenSpec.ofChange markMatchesSpec)

/-- ITS FALSE NEIGHBOUR: 'it returns false'. Refute it at one input. -/
def markMatchesWrong : ChangeSpec := { name := "markMatches", fn := fun _ => fun
  | [d1, d2, d3, d4, d5, d6] => { results := [.lit (.bool false)], args := [d1, d2, d3, d4, d5, d6] }
  | _ => none }
def MarkMatchesWrongFalsely : Prop := markMatchesRow.holds Tryz.pinned (OpenSpec.ofChange markMatchesWrong)

/-- 'worldmintlaw32.MarkNormal': WHATEVER THE INPUT: true; the input reads as it did. -/
def markNormalSpec : ChangeSpec := { name := "markNormal", fn := fun _ => fun
  | [d1, d2, d3, d4, d5, d6] => { results := [.lit (.bool true)], args := [d1, d2, d3, d4, d5, d6] }
  | _ => none }
def markNormalRow : OpenClaim := { program := "ytocodlpgaamblaagreatdoor", sum := "fa5dc2c72f3ff124e69ec6cbc016c566b368d1ac7c0c78d3c0920748130ac765", func := "worldmint/worldmintlaw32.MarkNormal", spec := "markNormal", inPlace := ["internal/bytealg.IndexByteString", "internal/abi.NoEscape"], unfollowed := true, recurses := true, named := ["worldmint/lexer.kinds", "internal/strconv.uint64pow10", "math/bits.deBruijn32tab", "math/bits.deBruijn64tab"], apart := false, laid := [("math/bits.deBruijn32tab", laid_math_bits_deBruijn32tab), ("math/bits.deBruijn64tab", laid_math_bits_deBruijn64tab), ("internal/strconv.uint64pow10", laid_internal_strconv_uint64pow10), ("worldmint/lexer.kinds", laid_worldmint_lexer_kinds)] }
def MarkNormalSaid : Prop := markNormalRow.holds Tryz.pinned (OpenSpec.ofChange markNormalSpec)

/-- ITS FALSE NEIGHBOUR: 'it returns false'. Refute it at one input. -/
def markNormalWrong : ChangeSpec := { name := "markNormal", fn := fun _ => fun
  | [d1, d2, d3, d4, d5, d6] => { results := [.lit (.bool false)], args := [d1, d2, d3, d4, d5, d6] }
  | _ => none }
def MarkNormalWrongFalsely : Prop := markNormalRow.holds Tryz.pinned (OpenSpec.ofChange markNormalWrong)

/- THE SECOND FORM. 'bulk': how many values and letters a reading holds, each counted each time it is reached (what is shared counts as often as it is met; a slice's spare places count too). A statement '..UptoSaid' is the law's where the arguments, and the package variables that the reading takes, are together of bulk at most 1048576: NARROWER than '..Said'. Prove '..Said' where nothing that the law and all that it calls make is longer than what came in: it says more and counts as full. Else prove '..UptoSaid'. A law counts once. -/
mutual
def uptoBulk {H : Type} : DataW H → Nat
  | .lit (.string bytes) => bytes.length + 1
  | .lit _ => 1
  | .nil => 1
  | .ptr d => uptoBulk d + 1
  | .slice elems spare => uptoBulkAll elems + uptoBulkAll spare + 1
  | .agg parts => uptoBulkAll parts + 1
  | .iface _ d => uptoBulk d + 1
  | .map entries => uptoBulkEntries entries + 1
  | .held _ => 1
def uptoBulkAll {H : Type} : List (DataW H) → Nat
  | [] => 0
  | d :: r => uptoBulk d + uptoBulkAll r
def uptoBulkEntries {H : Type} : List (Lit × DataW H) → Nat
  | [] => 0
  | x :: r => uptoBulkEntry x + uptoBulkEntries r
def uptoBulkEntry {H : Type} : Lit × DataW H → Nat
  | (.string bytes, d) => bytes.length + uptoBulk d + 1
  | (_, d) => uptoBulk d + 1
 end
def uptoSmall : (H : Type) → List (DataW H) → Bool := fun _ ds => decide (uptoBulkAll ds ≤ 1048576)
def OpenSpec.upto (s : _root_.Go.ChangeSpec) : _root_.Go.OpenSpec := { _root_.Go.OpenSpec.ofChange s with cond := some uptoSmall }

/-- 'worldmintlaw32.MarkParse', WHERE WHAT IT READS IS OF BULK AT MOST 1048576: true; the input reads as it did. -/
def markParseUptoRow : OpenClaim := { program := "ytocodlpgaamblaagreatdoor", sum := "fa5dc2c72f3ff124e69ec6cbc016c566b368d1ac7c0c78d3c0920748130ac765", func := "worldmint/worldmintlaw32.MarkParse", spec := "markParse", inPlace := ["internal/bytealg.IndexByteString", "internal/abi.NoEscape"], unfollowed := true, recurses := true, named := ["worldmint/lexer.kinds", "internal/strconv.uint64pow10", "math/bits.deBruijn32tab", "math/bits.deBruijn64tab"], apart := false, laid := [("math/bits.deBruijn32tab", laid_math_bits_deBruijn32tab), ("math/bits.deBruijn64tab", laid_math_bits_deBruijn64tab), ("internal/strconv.uint64pow10", laid_internal_strconv_uint64pow10), ("worldmint/lexer.kinds", laid_worldmint_lexer_kinds)], narrowed := true }
def MarkParseUptoSaid : Prop := markParseUptoRow.holds Tryz.pinned (OpenSpec.upto markParseSpec)

/-- 'worldmintlaw32.MarkMany', WHERE WHAT IT READS IS OF BULK AT MOST 1048576: true; the input reads as it did. -/
def markManyUptoRow : OpenClaim := { program := "ytocodlpgaamblaagreatdoor", sum := "fa5dc2c72f3ff124e69ec6cbc016c566b368d1ac7c0c78d3c0920748130ac765", func := "worldmint/worldmintlaw32.MarkMany", spec := "markMany", inPlace := ["internal/bytealg.IndexByteString", "internal/abi.NoEscape"], unfollowed := true, recurses := true, named := ["worldmint/lexer.kinds", "internal/strconv.uint64pow10", "math/bits.deBruijn32tab", "math/bits.deBruijn64tab"], apart := false, laid := [("math/bits.deBruijn32tab", laid_math_bits_deBruijn32tab), ("math/bits.deBruijn64tab", laid_math_bits_deBruijn64tab), ("internal/strconv.uint64pow10", laid_internal_strconv_uint64pow10), ("worldmint/lexer.kinds", laid_worldmint_lexer_kinds)], narrowed := true }
def MarkManyUptoSaid : Prop := markManyUptoRow.holds Tryz.pinned (OpenSpec.upto markManySpec)

/-- 'worldmintlaw32.MarkValid', WHERE WHAT IT READS IS OF BULK AT MOST 1048576: true; the input reads as it did. -/
def markValidUptoRow : OpenClaim := { program := "ytocodlpgaamblaagreatdoor", sum := "fa5dc2c72f3ff124e69ec6cbc016c566b368d1ac7c0c78d3c0920748130ac765", func := "worldmint/worldmintlaw32.MarkValid", spec := "markValid", inPlace := ["internal/abi.NoEscape", "internal/bytealg.IndexByteString"], unfollowed := true, recurses := true, named := ["worldmint/lexer.kinds", "internal/strconv.uint64pow10", "math/bits.deBruijn32tab", "math/bits.deBruijn64tab"], apart := false, laid := [("math/bits.deBruijn32tab", laid_math_bits_deBruijn32tab), ("math/bits.deBruijn64tab", laid_math_bits_deBruijn64tab), ("internal/strconv.uint64pow10", laid_internal_strconv_uint64pow10), ("worldmint/lexer.kinds", laid_worldmint_lexer_kinds)], narrowed := true }
def MarkValidUptoSaid : Prop := markValidUptoRow.holds Tryz.pinned (OpenSpec.upto markValidSpec)

/-- 'worldmintlaw32.MarkSets', WHERE WHAT IT READS IS OF BULK AT MOST 1048576: true; the input reads as it did. -/
def markSetsUptoRow : OpenClaim := { program := "ytocodlpgaamblaagreatdoor", sum := "fa5dc2c72f3ff124e69ec6cbc016c566b368d1ac7c0c78d3c0920748130ac765", func := "worldmint/worldmintlaw32.MarkSets", spec := "markSets", inPlace := ["internal/bytealg.IndexByteString", "internal/abi.NoEscape"], unfollowed := true, recurses := true, named := ["worldmint/lexer.kinds", "internal/strconv.uint64pow10", "math/bits.deBruijn32tab", "math/bits.deBruijn64tab"], apart := false, laid := [("math/bits.deBruijn32tab", laid_math_bits_deBruijn32tab), ("math/bits.deBruijn64tab", laid_math_bits_deBruijn64tab), ("internal/strconv.uint64pow10", laid_internal_strconv_uint64pow10), ("worldmint/lexer.kinds", laid_worldmint_lexer_kinds)], narrowed := true }
def MarkSetsUptoSaid : Prop := markSetsUptoRow.holds Tryz.pinned (OpenSpec.upto markSetsSpec)

/-- 'worldmintlaw32.MarkMatches', WHERE WHAT IT READS IS OF BULK AT MOST 1048576: true; the input reads as it did. -/
def markMatchesUptoRow : OpenClaim := { program := "ytocodlpgaamblaagreatdoor", sum := "fa5dc2c72f3ff124e69ec6cbc016c566b368d1ac7c0c78d3c0920748130ac765", func := "worldmint/worldmintlaw32.MarkMatches", spec := "markMatches", inPlace := ["internal/bytealg.IndexByteString", "internal/abi.NoEscape"], unfollowed := true, recurses := true, named := ["worldmint/lexer.kinds", "internal/strconv.uint64pow10", "math/bits.deBruijn32tab", "math/bits.deBruijn64tab"], apart := false, laid := [("math/bits.deBruijn32tab", laid_math_bits_deBruijn32tab), ("math/bits.deBruijn64tab", laid_math_bits_deBruijn64tab), ("internal/strconv.uint64pow10", laid_internal_strconv_uint64pow10), ("worldmint/lexer.kinds", laid_worldmint_lexer_kinds)], narrowed := true }
def MarkMatchesUptoSaid : Prop := markMatchesUptoRow.holds Tryz.pinned (OpenSpec.upto markMatchesSpec)

/-- 'worldmintlaw32.MarkNormal', WHERE WHAT IT READS IS OF BULK AT MOST 1048576: true; the input reads as it did. -/
def markNormalUptoRow : OpenClaim := { program := "ytocodlpgaamblaagreatdoor", sum := "fa5dc2c72f3ff124e69ec6cbc016c566b368d1ac7c0c78d3c0920748130ac765", func := "worldmint/worldmintlaw32.MarkNormal", spec := "markNormal", inPlace := ["internal/bytealg.IndexByteString", "internal/abi.NoEscape"], unfollowed := true, recurses := true, named := ["worldmint/lexer.kinds", "internal/strconv.uint64pow10", "math/bits.deBruijn32tab", "math/bits.deBruijn64tab"], apart := false, laid := [("math/bits.deBruijn32tab", laid_math_bits_deBruijn32tab), ("math/bits.deBruijn64tab", laid_math_bits_deBruijn64tab), ("internal/strconv.uint64pow10", laid_internal_strconv_uint64pow10), ("worldmint/lexer.kinds", laid_worldmint_lexer_kinds)], narrowed := true }
def MarkNormalUptoSaid : Prop := markNormalUptoRow.holds Tryz.pinned (OpenSpec.upto markNormalSpec)

end Rows
end Go.Proofs.YtocodlpgaamblaaGreatDoor
