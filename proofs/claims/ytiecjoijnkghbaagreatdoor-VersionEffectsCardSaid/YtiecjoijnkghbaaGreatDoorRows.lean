/-
  NARROWER THAN 'FOR EVERY INPUT', by the rows' own cells (each row's printed sentence says how): VersionEffects: laid · CatalogCompile: laid · CatalogMany: laid · CatalogPlaces: laid · CatalogNames: laid · CatalogBytes: laid · CatalogForms: laid · TaxCatalog: laid · CatalogRound: laid · VersionMerges: laid.
  DERIVED. THE GIVEN ROWS OF THIS SEAT. 10 by the template 'for every input the law returns true; each argument reads behind the call as it read before'; 0 by the template 'total and deterministic' (their statements: YtiecjoijnkghbaaGreatDoorTotals.lean).
  GIVEN WITH THE SEED: the statements are not yours to turn. If you find one false, say at which input.
  Laid BY PROGRAM, IN A SANDBOX (cutbox-rows.mjs): the forced cells as the released guide's own fill.sh prints them over the translation c32729b889f82788… (all of the seat's roots in one cut). By AI agents, Wed Nov 11 2026. No macro, syntax, notation, axiom, sorry.
-/
import Derived.Test.YtiecjoijnkghbaaGreatDoorChecked
import GoSem.Claim
import GoSem.ClaimJoined
import GoSem.ClaimMapViews
import Derived.JoinedTies
import Derived.KernelRfl
namespace Go.Proofs.YtiecjoijnkghbaaGreatDoor
/- THE CELL 'sum', in the pinned program and in every row, IS THE sha256 OF THE DUMP (.gsa) THAT YtiecjoijnkghbaaGreatDoorProg.lean LOADS. Nothing in Lean hashes anything: it is a label: what it is worth is what the hold of that sum in a sandbox is worth. -/
noncomputable def Tryz.pinned : Pinned := { name := "ytiecjoijnkghbaagreatdoor", sum := "c32729b889f82788b02a5982ba57d778b2d5386dd251451d7c141cbe59430335", checked := Tryz.checked }
namespace Rows
def none {H : Type} : Left H := { results := [], args := [] }

/- WHAT THE LISTED PACKAGE-LEVEL VARIABLES READ AS WHEN THE CALL BEGINS. Each datum BY PROGRAM (the guide's laid-datum.mjs) off the statement by which the dump's own 'gosem.cut.vars' lays the variable. In a bare row this is a premise. The card (YtiecjoijnkghbaaGreatDoorCards.lean) ties it to the program's text. -/
def laid_worldmint_lexer_kinds {H : Type} : DataW H := .agg [.lit (.int .u8 0), .lit (.int .u8 0), .lit (.int .u8 0), .lit (.int .u8 0), .lit (.int .u8 0), .lit (.int .u8 0), .lit (.int .u8 0), .lit (.int .u8 0), .lit (.int .u8 0), .lit (.int .u8 1), .lit (.int .u8 1), .lit (.int .u8 0), .lit (.int .u8 0), .lit (.int .u8 0), .lit (.int .u8 0), .lit (.int .u8 0), .lit (.int .u8 0), .lit (.int .u8 0), .lit (.int .u8 0), .lit (.int .u8 0), .lit (.int .u8 0), .lit (.int .u8 0), .lit (.int .u8 0), .lit (.int .u8 0), .lit (.int .u8 0), .lit (.int .u8 0), .lit (.int .u8 0), .lit (.int .u8 0), .lit (.int .u8 0), .lit (.int .u8 0), .lit (.int .u8 0), .lit (.int .u8 0), .lit (.int .u8 1), .lit (.int .u8 0), .lit (.int .u8 0), .lit (.int .u8 2), .lit (.int .u8 0), .lit (.int .u8 0), .lit (.int .u8 0), .lit (.int .u8 0), .lit (.int .u8 7), .lit (.int .u8 7), .lit (.int .u8 0), .lit (.int .u8 7), .lit (.int .u8 7), .lit (.int .u8 6), .lit (.int .u8 7), .lit (.int .u8 0), .lit (.int .u8 4), .lit (.int .u8 4), .lit (.int .u8 4), .lit (.int .u8 4), .lit (.int .u8 4), .lit (.int .u8 4), .lit (.int .u8 4), .lit (.int .u8 4), .lit (.int .u8 4), .lit (.int .u8 4), .lit (.int .u8 7), .lit (.int .u8 7), .lit (.int .u8 7), .lit (.int .u8 7), .lit (.int .u8 7), .lit (.int .u8 0), .lit (.int .u8 0), .lit (.int .u8 0), .lit (.int .u8 0), .lit (.int .u8 0), .lit (.int .u8 0), .lit (.int .u8 0), .lit (.int .u8 0), .lit (.int .u8 0), .lit (.int .u8 0), .lit (.int .u8 0), .lit (.int .u8 0), .lit (.int .u8 0), .lit (.int .u8 0), .lit (.int .u8 0), .lit (.int .u8 0), .lit (.int .u8 0), .lit (.int .u8 0), .lit (.int .u8 0), .lit (.int .u8 0), .lit (.int .u8 0), .lit (.int .u8 0), .lit (.int .u8 0), .lit (.int .u8 0), .lit (.int .u8 0), .lit (.int .u8 0), .lit (.int .u8 0), .lit (.int .u8 0), .lit (.int .u8 0), .lit (.int .u8 0), .lit (.int .u8 0), .lit (.int .u8 0), .lit (.int .u8 5), .lit (.int .u8 0), .lit (.int .u8 3), .lit (.int .u8 3), .lit (.int .u8 3), .lit (.int .u8 3), .lit (.int .u8 3), .lit (.int .u8 3), .lit (.int .u8 3), .lit (.int .u8 3), .lit (.int .u8 3), .lit (.int .u8 3), .lit (.int .u8 3), .lit (.int .u8 3), .lit (.int .u8 3), .lit (.int .u8 3), .lit (.int .u8 3), .lit (.int .u8 3), .lit (.int .u8 3), .lit (.int .u8 3), .lit (.int .u8 3), .lit (.int .u8 3), .lit (.int .u8 3), .lit (.int .u8 3), .lit (.int .u8 3), .lit (.int .u8 3), .lit (.int .u8 3), .lit (.int .u8 3), .lit (.int .u8 7), .lit (.int .u8 0), .lit (.int .u8 7), .lit (.int .u8 0), .lit (.int .u8 0)]
def laid_math_bits_deBruijn32tab {H : Type} : DataW H := .agg [.lit (.int .u8 0), .lit (.int .u8 1), .lit (.int .u8 28), .lit (.int .u8 2), .lit (.int .u8 29), .lit (.int .u8 14), .lit (.int .u8 24), .lit (.int .u8 3), .lit (.int .u8 30), .lit (.int .u8 22), .lit (.int .u8 20), .lit (.int .u8 15), .lit (.int .u8 25), .lit (.int .u8 17), .lit (.int .u8 4), .lit (.int .u8 8), .lit (.int .u8 31), .lit (.int .u8 27), .lit (.int .u8 13), .lit (.int .u8 23), .lit (.int .u8 21), .lit (.int .u8 19), .lit (.int .u8 16), .lit (.int .u8 7), .lit (.int .u8 26), .lit (.int .u8 12), .lit (.int .u8 18), .lit (.int .u8 6), .lit (.int .u8 11), .lit (.int .u8 5), .lit (.int .u8 10), .lit (.int .u8 9)]
def laid_math_bits_deBruijn64tab {H : Type} : DataW H := .agg [.lit (.int .u8 0), .lit (.int .u8 1), .lit (.int .u8 56), .lit (.int .u8 2), .lit (.int .u8 57), .lit (.int .u8 49), .lit (.int .u8 28), .lit (.int .u8 3), .lit (.int .u8 61), .lit (.int .u8 58), .lit (.int .u8 42), .lit (.int .u8 50), .lit (.int .u8 38), .lit (.int .u8 29), .lit (.int .u8 17), .lit (.int .u8 4), .lit (.int .u8 62), .lit (.int .u8 47), .lit (.int .u8 59), .lit (.int .u8 36), .lit (.int .u8 45), .lit (.int .u8 43), .lit (.int .u8 51), .lit (.int .u8 22), .lit (.int .u8 53), .lit (.int .u8 39), .lit (.int .u8 33), .lit (.int .u8 30), .lit (.int .u8 24), .lit (.int .u8 18), .lit (.int .u8 12), .lit (.int .u8 5), .lit (.int .u8 63), .lit (.int .u8 55), .lit (.int .u8 48), .lit (.int .u8 27), .lit (.int .u8 60), .lit (.int .u8 41), .lit (.int .u8 37), .lit (.int .u8 16), .lit (.int .u8 46), .lit (.int .u8 35), .lit (.int .u8 44), .lit (.int .u8 21), .lit (.int .u8 52), .lit (.int .u8 32), .lit (.int .u8 23), .lit (.int .u8 11), .lit (.int .u8 54), .lit (.int .u8 26), .lit (.int .u8 40), .lit (.int .u8 15), .lit (.int .u8 34), .lit (.int .u8 20), .lit (.int .u8 31), .lit (.int .u8 10), .lit (.int .u8 25), .lit (.int .u8 14), .lit (.int .u8 19), .lit (.int .u8 9), .lit (.int .u8 13), .lit (.int .u8 8), .lit (.int .u8 7), .lit (.int .u8 6)]
def laid_internal_strconv_uint64pow10 {H : Type} : DataW H := .agg [.lit (.int .u64 1), .lit (.int .u64 10), .lit (.int .u64 100), .lit (.int .u64 1000), .lit (.int .u64 10000), .lit (.int .u64 100000), .lit (.int .u64 1000000), .lit (.int .u64 10000000), .lit (.int .u64 100000000), .lit (.int .u64 1000000000), .lit (.int .u64 10000000000), .lit (.int .u64 100000000000), .lit (.int .u64 1000000000000), .lit (.int .u64 10000000000000), .lit (.int .u64 100000000000000), .lit (.int .u64 1000000000000000), .lit (.int .u64 10000000000000000), .lit (.int .u64 100000000000000000), .lit (.int .u64 1000000000000000000), .lit (.int .u64 10000000000000000000)]

/-- 'worldmintlaw12.VersionEffects': WHATEVER THE INPUT: true; the input reads as it did. -/
def versionEffectsSpec : ChangeSpec := { name := "versionEffects", fn := fun _ => fun
  | [d1, d2, d3] => { results := [.lit (.bool true)], args := [d1, d2, d3] }
  | _ => none }
def versionEffectsRow : OpenClaim := { program := "ytiecjoijnkghbaagreatdoor", sum := "c32729b889f82788b02a5982ba57d778b2d5386dd251451d7c141cbe59430335", func := "worldmint/worldmintlaw12.VersionEffects", spec := "versionEffects", inPlace := ["internal/bytealg.IndexByteString"], unfollowed := true, recurses := true, named := ["worldmint/lexer.kinds"], plainKeys := false, apart := false, laid := [("worldmint/lexer.kinds", laid_worldmint_lexer_kinds)] }
def VersionEffectsSaid : Prop := versionEffectsRow.holds Tryz.pinned (OpenSpec.ofChange versionEffectsSpec)

/-- ITS FALSE NEIGHBOUR: 'it returns false'. Refute it at one input. -/
def versionEffectsWrong : ChangeSpec := { name := "versionEffects", fn := fun _ => fun
  | [d1, d2, d3] => { results := [.lit (.bool false)], args := [d1, d2, d3] }
  | _ => none }
def VersionEffectsWrongFalsely : Prop := versionEffectsRow.holds Tryz.pinned (OpenSpec.ofChange versionEffectsWrong)

/-- 'worldmintlaw09.CatalogCompile': WHATEVER THE INPUT: true; the input reads as it did. -/
def catalogCompileSpec : ChangeSpec := { name := "catalogCompile", fn := fun _ => fun
  | [d1, d2, d3, d4] => { results := [.lit (.bool true)], args := [d1, d2, d3, d4] }
  | _ => none }
def catalogCompileRow : OpenClaim := { program := "ytiecjoijnkghbaagreatdoor", sum := "c32729b889f82788b02a5982ba57d778b2d5386dd251451d7c141cbe59430335", func := "worldmint/worldmintlaw09.CatalogCompile", spec := "catalogCompile", inPlace := ["internal/bytealg.IndexByteString", "internal/bytealg.abigen_runtime_cmpstring"], unfollowed := true, recurses := true, named := ["worldmint/lexer.kinds"], plainKeys := false, apart := false, laid := [("worldmint/lexer.kinds", laid_worldmint_lexer_kinds)] }
def CatalogCompileSaid : Prop := catalogCompileRow.holds Tryz.pinned (OpenSpec.ofChange catalogCompileSpec)

/-- ITS FALSE NEIGHBOUR: 'it returns false'. Refute it at one input. -/
def catalogCompileWrong : ChangeSpec := { name := "catalogCompile", fn := fun _ => fun
  | [d1, d2, d3, d4] => { results := [.lit (.bool false)], args := [d1, d2, d3, d4] }
  | _ => none }
def CatalogCompileWrongFalsely : Prop := catalogCompileRow.holds Tryz.pinned (OpenSpec.ofChange catalogCompileWrong)

/-- 'worldmintlaw09.CatalogMany': WHATEVER THE INPUT: true; the input reads as it did. -/
def catalogManySpec : ChangeSpec := { name := "catalogMany", fn := fun _ => fun
  | [d1, d2, d3] => { results := [.lit (.bool true)], args := [d1, d2, d3] }
  | _ => none }
def catalogManyRow : OpenClaim := { program := "ytiecjoijnkghbaagreatdoor", sum := "c32729b889f82788b02a5982ba57d778b2d5386dd251451d7c141cbe59430335", func := "worldmint/worldmintlaw09.CatalogMany", spec := "catalogMany", inPlace := ["internal/bytealg.IndexByteString", "internal/bytealg.abigen_runtime_cmpstring"], unfollowed := true, recurses := true, named := ["worldmint/lexer.kinds"], plainKeys := false, apart := false, laid := [("worldmint/lexer.kinds", laid_worldmint_lexer_kinds)] }
def CatalogManySaid : Prop := catalogManyRow.holds Tryz.pinned (OpenSpec.ofChange catalogManySpec)

/-- ITS FALSE NEIGHBOUR: 'it returns false'. Refute it at one input. -/
def catalogManyWrong : ChangeSpec := { name := "catalogMany", fn := fun _ => fun
  | [d1, d2, d3] => { results := [.lit (.bool false)], args := [d1, d2, d3] }
  | _ => none }
def CatalogManyWrongFalsely : Prop := catalogManyRow.holds Tryz.pinned (OpenSpec.ofChange catalogManyWrong)

/-- 'worldmintlaw09.CatalogPlaces': WHATEVER THE INPUT: true; the input reads as it did. -/
def catalogPlacesSpec : ChangeSpec := { name := "catalogPlaces", fn := fun _ => fun
  | [d1, d2, d3, d4] => { results := [.lit (.bool true)], args := [d1, d2, d3, d4] }
  | _ => none }
def catalogPlacesRow : OpenClaim := { program := "ytiecjoijnkghbaagreatdoor", sum := "c32729b889f82788b02a5982ba57d778b2d5386dd251451d7c141cbe59430335", func := "worldmint/worldmintlaw09.CatalogPlaces", spec := "catalogPlaces", inPlace := ["internal/bytealg.IndexByteString", "internal/bytealg.abigen_runtime_cmpstring"], unfollowed := true, recurses := true, named := ["worldmint/lexer.kinds"], plainKeys := false, apart := false, laid := [("worldmint/lexer.kinds", laid_worldmint_lexer_kinds)] }
def CatalogPlacesSaid : Prop := catalogPlacesRow.holds Tryz.pinned (OpenSpec.ofChange catalogPlacesSpec)

/-- ITS FALSE NEIGHBOUR: 'it returns false'. Refute it at one input. -/
def catalogPlacesWrong : ChangeSpec := { name := "catalogPlaces", fn := fun _ => fun
  | [d1, d2, d3, d4] => { results := [.lit (.bool false)], args := [d1, d2, d3, d4] }
  | _ => none }
def CatalogPlacesWrongFalsely : Prop := catalogPlacesRow.holds Tryz.pinned (OpenSpec.ofChange catalogPlacesWrong)

/-- 'worldmintlaw09.CatalogNames': WHATEVER THE INPUT: true; the input reads as it did. -/
def catalogNamesSpec : ChangeSpec := { name := "catalogNames", fn := fun _ => fun
  | [d1, d2, d3] => { results := [.lit (.bool true)], args := [d1, d2, d3] }
  | _ => none }
def catalogNamesRow : OpenClaim := { program := "ytiecjoijnkghbaagreatdoor", sum := "c32729b889f82788b02a5982ba57d778b2d5386dd251451d7c141cbe59430335", func := "worldmint/worldmintlaw09.CatalogNames", spec := "catalogNames", inPlace := ["internal/bytealg.IndexByteString", "internal/bytealg.abigen_runtime_cmpstring"], unfollowed := true, recurses := true, named := ["worldmint/lexer.kinds"], plainKeys := false, apart := false, laid := [("worldmint/lexer.kinds", laid_worldmint_lexer_kinds)] }
def CatalogNamesSaid : Prop := catalogNamesRow.holds Tryz.pinned (OpenSpec.ofChange catalogNamesSpec)

/-- ITS FALSE NEIGHBOUR: 'it returns false'. Refute it at one input. -/
def catalogNamesWrong : ChangeSpec := { name := "catalogNames", fn := fun _ => fun
  | [d1, d2, d3] => { results := [.lit (.bool false)], args := [d1, d2, d3] }
  | _ => none }
def CatalogNamesWrongFalsely : Prop := catalogNamesRow.holds Tryz.pinned (OpenSpec.ofChange catalogNamesWrong)

/-- 'worldmintlaw09.CatalogBytes': WHATEVER THE INPUT: true; the input reads as it did. -/
def catalogBytesSpec : ChangeSpec := { name := "catalogBytes", fn := fun _ => fun
  | [d1, d2] => { results := [.lit (.bool true)], args := [d1, d2] }
  | _ => none }
def catalogBytesRow : OpenClaim := { program := "ytiecjoijnkghbaagreatdoor", sum := "c32729b889f82788b02a5982ba57d778b2d5386dd251451d7c141cbe59430335", func := "worldmint/worldmintlaw09.CatalogBytes", spec := "catalogBytes", inPlace := ["internal/bytealg.IndexByteString", "internal/bytealg.abigen_runtime_cmpstring"], unfollowed := true, recurses := true, named := ["worldmint/lexer.kinds"], plainKeys := false, apart := false, laid := [("worldmint/lexer.kinds", laid_worldmint_lexer_kinds)] }
def CatalogBytesSaid : Prop := catalogBytesRow.holds Tryz.pinned (OpenSpec.ofChange catalogBytesSpec)

/-- ITS FALSE NEIGHBOUR: 'it returns false'. Refute it at one input. -/
def catalogBytesWrong : ChangeSpec := { name := "catalogBytes", fn := fun _ => fun
  | [d1, d2] => { results := [.lit (.bool false)], args := [d1, d2] }
  | _ => none }
def CatalogBytesWrongFalsely : Prop := catalogBytesRow.holds Tryz.pinned (OpenSpec.ofChange catalogBytesWrong)

/-- 'worldmintlaw09.CatalogForms': WHATEVER THE INPUT: true; the input reads as it did. -/
def catalogFormsSpec : ChangeSpec := { name := "catalogForms", fn := fun _ => fun
  | [d1, d2, d3, d4] => { results := [.lit (.bool true)], args := [d1, d2, d3, d4] }
  | _ => none }
def catalogFormsRow : OpenClaim := { program := "ytiecjoijnkghbaagreatdoor", sum := "c32729b889f82788b02a5982ba57d778b2d5386dd251451d7c141cbe59430335", func := "worldmint/worldmintlaw09.CatalogForms", spec := "catalogForms", inPlace := ["internal/bytealg.IndexByteString", "internal/bytealg.abigen_runtime_cmpstring"], unfollowed := true, recurses := true, named := ["worldmint/lexer.kinds"], plainKeys := false, apart := false, laid := [("worldmint/lexer.kinds", laid_worldmint_lexer_kinds)] }
def CatalogFormsSaid : Prop := catalogFormsRow.holds Tryz.pinned (OpenSpec.ofChange catalogFormsSpec)

/-- ITS FALSE NEIGHBOUR: 'it returns false'. Refute it at one input. -/
def catalogFormsWrong : ChangeSpec := { name := "catalogForms", fn := fun _ => fun
  | [d1, d2, d3, d4] => { results := [.lit (.bool false)], args := [d1, d2, d3, d4] }
  | _ => none }
def CatalogFormsWrongFalsely : Prop := catalogFormsRow.holds Tryz.pinned (OpenSpec.ofChange catalogFormsWrong)

/-- 'worldmintlaw31.TaxCatalog': WHATEVER THE INPUT: true; the input reads as it did. -/
def taxCatalogSpec : ChangeSpec := { name := "taxCatalog", fn := fun _ => fun
  | [d1, d2, d3] => { results := [.lit (.bool true)], args := [d1, d2, d3] }
  | _ => none }
def taxCatalogRow : OpenClaim := { program := "ytiecjoijnkghbaagreatdoor", sum := "c32729b889f82788b02a5982ba57d778b2d5386dd251451d7c141cbe59430335", func := "worldmint/worldmintlaw31.TaxCatalog", spec := "taxCatalog", inPlace := ["internal/bytealg.IndexByteString", "internal/abi.NoEscape", "internal/bytealg.abigen_runtime_cmpstring"], unfollowed := true, recurses := true, named := ["worldmint/lexer.kinds", "internal/strconv.uint64pow10", "math/bits.deBruijn32tab", "math/bits.deBruijn64tab", "math/bits.divideError", "math/bits.overflowError"], plainKeys := false, apart := false, laid := [("math/bits.deBruijn32tab", laid_math_bits_deBruijn32tab), ("math/bits.deBruijn64tab", laid_math_bits_deBruijn64tab), ("internal/strconv.uint64pow10", laid_internal_strconv_uint64pow10), ("worldmint/lexer.kinds", laid_worldmint_lexer_kinds)] }
def TaxCatalogSaid : Prop := taxCatalogRow.holds Tryz.pinned (OpenSpec.ofChange taxCatalogSpec)

/-- ITS FALSE NEIGHBOUR: 'it returns false'. Refute it at one input. -/
def taxCatalogWrong : ChangeSpec := { name := "taxCatalog", fn := fun _ => fun
  | [d1, d2, d3] => { results := [.lit (.bool false)], args := [d1, d2, d3] }
  | _ => none }
def TaxCatalogWrongFalsely : Prop := taxCatalogRow.holds Tryz.pinned (OpenSpec.ofChange taxCatalogWrong)

/-- 'worldmintlaw09.CatalogRound': WHATEVER THE INPUT: true; the input reads as it did. -/
def catalogRoundSpec : ChangeSpec := { name := "catalogRound", fn := fun _ => fun
  | [d1, d2, d3] => { results := [.lit (.bool true)], args := [d1, d2, d3] }
  | _ => none }
def catalogRoundRow : OpenClaim := { program := "ytiecjoijnkghbaagreatdoor", sum := "c32729b889f82788b02a5982ba57d778b2d5386dd251451d7c141cbe59430335", func := "worldmint/worldmintlaw09.CatalogRound", spec := "catalogRound", inPlace := ["internal/bytealg.IndexByteString", "internal/bytealg.abigen_runtime_cmpstring", "internal/abi.NoEscape"], unfollowed := true, recurses := true, named := ["worldmint/lexer.kinds", "internal/strconv.uint64pow10", "math/bits.deBruijn32tab", "math/bits.deBruijn64tab"], plainKeys := false, apart := false, laid := [("math/bits.deBruijn32tab", laid_math_bits_deBruijn32tab), ("math/bits.deBruijn64tab", laid_math_bits_deBruijn64tab), ("internal/strconv.uint64pow10", laid_internal_strconv_uint64pow10), ("worldmint/lexer.kinds", laid_worldmint_lexer_kinds)] }
def CatalogRoundSaid : Prop := catalogRoundRow.holds Tryz.pinned (OpenSpec.ofChange catalogRoundSpec)

/-- ITS FALSE NEIGHBOUR: 'it returns false'. Refute it at one input. -/
def catalogRoundWrong : ChangeSpec := { name := "catalogRound", fn := fun _ => fun
  | [d1, d2, d3] => { results := [.lit (.bool false)], args := [d1, d2, d3] }
  | _ => none }
def CatalogRoundWrongFalsely : Prop := catalogRoundRow.holds Tryz.pinned (OpenSpec.ofChange catalogRoundWrong)

/-- 'worldmintlaw12.VersionMerges': WHATEVER THE INPUT: true; the input reads as it did. -/
def versionMergesSpec : ChangeSpec := { name := "versionMerges", fn := fun _ => fun
  | [d1, d2] => { results := [.lit (.bool true)], args := [d1, d2] }
  | _ => none }
def versionMergesRow : OpenClaim := { program := "ytiecjoijnkghbaagreatdoor", sum := "c32729b889f82788b02a5982ba57d778b2d5386dd251451d7c141cbe59430335", func := "worldmint/worldmintlaw12.VersionMerges", spec := "versionMerges", inPlace := ["internal/bytealg.IndexByteString", "internal/abi.NoEscape", "internal/bytealg.abigen_runtime_cmpstring"], unfollowed := true, recurses := true, named := ["worldmint/lexer.kinds", "internal/strconv.uint64pow10", "math/bits.deBruijn32tab", "math/bits.deBruijn64tab"], plainKeys := false, apart := false, laid := [("math/bits.deBruijn32tab", laid_math_bits_deBruijn32tab), ("math/bits.deBruijn64tab", laid_math_bits_deBruijn64tab), ("internal/strconv.uint64pow10", laid_internal_strconv_uint64pow10), ("worldmint/lexer.kinds", laid_worldmint_lexer_kinds)] }
def VersionMergesSaid : Prop := versionMergesRow.holds Tryz.pinned (OpenSpec.ofChange versionMergesSpec)

/-- ITS FALSE NEIGHBOUR: 'it returns false'. Refute it at one input. -/
def versionMergesWrong : ChangeSpec := { name := "versionMerges", fn := fun _ => fun
  | [d1, d2] => { results := [.lit (.bool false)], args := [d1, d2] }
  | _ => none }
def VersionMergesWrongFalsely : Prop := versionMergesRow.holds Tryz.pinned (OpenSpec.ofChange versionMergesWrong)

/- THE SECOND FORM. 'bulk': how many values and letters a reading holds, each counted each time it is reached (what is shared counts as often as it is met; a slice's spare places count too). A statement '..UptoSaid' is the law's where the arguments, and the package variables that the reading takes, are together of bulk at most 1048576: NARROWER than '..Said'. Prove '..Said' where nothing that the law and all that it calls make is longer than what came in: it says more and counts as full. Else prove '..UptoSaid'. A law counts once. -/
mutual
def uptoBulk {H : Type} : DataW H → Nat
  | .lit (.string bytes) => bytes.length + 1
  | .lit _ => 1
  | .nil => 1
  | .ptr d => uptoBulk d + 1
  | .slice elems spare => uptoBulkAll elems + uptoBulkAll spare + 1
  | .agg parts => uptoBulkAll parts + 1
  | .iface _ d => uptoBulk d + 1
  | .map entries => uptoBulkEntries entries + 1
  | .held _ => 1
def uptoBulkAll {H : Type} : List (DataW H) → Nat
  | [] => 0
  | d :: r => uptoBulk d + uptoBulkAll r
def uptoBulkEntries {H : Type} : List (Lit × DataW H) → Nat
  | [] => 0
  | x :: r => uptoBulkEntry x + uptoBulkEntries r
def uptoBulkEntry {H : Type} : Lit × DataW H → Nat
  | (.string bytes, d) => bytes.length + uptoBulk d + 1
  | (_, d) => uptoBulk d + 1
 end
def uptoSmall : (H : Type) → List (DataW H) → Bool := fun _ ds => decide (uptoBulkAll ds ≤ 1048576)
def OpenSpec.upto (s : _root_.Go.ChangeSpec) : _root_.Go.OpenSpec := { _root_.Go.OpenSpec.ofChange s with cond := some uptoSmall }

/-- 'worldmintlaw12.VersionEffects', WHERE WHAT IT READS IS OF BULK AT MOST 1048576: true; the input reads as it did. -/
def versionEffectsUptoRow : OpenClaim := { program := "ytiecjoijnkghbaagreatdoor", sum := "c32729b889f82788b02a5982ba57d778b2d5386dd251451d7c141cbe59430335", func := "worldmint/worldmintlaw12.VersionEffects", spec := "versionEffects", inPlace := ["internal/bytealg.IndexByteString"], unfollowed := true, recurses := true, named := ["worldmint/lexer.kinds"], plainKeys := false, apart := false, laid := [("worldmint/lexer.kinds", laid_worldmint_lexer_kinds)], narrowed := true }
def VersionEffectsUptoSaid : Prop := versionEffectsUptoRow.holds Tryz.pinned (OpenSpec.upto versionEffectsSpec)

/-- 'worldmintlaw09.CatalogCompile', WHERE WHAT IT READS IS OF BULK AT MOST 1048576: true; the input reads as it did. -/
def catalogCompileUptoRow : OpenClaim := { program := "ytiecjoijnkghbaagreatdoor", sum := "c32729b889f82788b02a5982ba57d778b2d5386dd251451d7c141cbe59430335", func := "worldmint/worldmintlaw09.CatalogCompile", spec := "catalogCompile", inPlace := ["internal/bytealg.IndexByteString", "internal/bytealg.abigen_runtime_cmpstring"], unfollowed := true, recurses := true, named := ["worldmint/lexer.kinds"], plainKeys := false, apart := false, laid := [("worldmint/lexer.kinds", laid_worldmint_lexer_kinds)], narrowed := true }
def CatalogCompileUptoSaid : Prop := catalogCompileUptoRow.holds Tryz.pinned (OpenSpec.upto catalogCompileSpec)

/-- 'worldmintlaw09.CatalogMany', WHERE WHAT IT READS IS OF BULK AT MOST 1048576: true; the input reads as it did. -/
def catalogManyUptoRow : OpenClaim := { program := "ytiecjoijnkghbaagreatdoor", sum := "c32729b889f82788b02a5982ba57d778b2d5386dd251451d7c141cbe59430335", func := "worldmint/worldmintlaw09.CatalogMany", spec := "catalogMany", inPlace := ["internal/bytealg.IndexByteString", "internal/bytealg.abigen_runtime_cmpstring"], unfollowed := true, recurses := true, named := ["worldmint/lexer.kinds"], plainKeys := false, apart := false, laid := [("worldmint/lexer.kinds", laid_worldmint_lexer_kinds)], narrowed := true }
def CatalogManyUptoSaid : Prop := catalogManyUptoRow.holds Tryz.pinned (OpenSpec.upto catalogManySpec)

/-- 'worldmintlaw09.CatalogPlaces', WHERE WHAT IT READS IS OF BULK AT MOST 1048576: true; the input reads as it did. -/
def catalogPlacesUptoRow : OpenClaim := { program := "ytiecjoijnkghbaagreatdoor", sum := "c32729b889f82788b02a5982ba57d778b2d5386dd251451d7c141cbe59430335", func := "worldmint/worldmintlaw09.CatalogPlaces", spec := "catalogPlaces", inPlace := ["internal/bytealg.IndexByteString", "internal/bytealg.abigen_runtime_cmpstring"], unfollowed := true, recurses := true, named := ["worldmint/lexer.kinds"], plainKeys := false, apart := false, laid := [("worldmint/lexer.kinds", laid_worldmint_lexer_kinds)], narrowed := true }
def CatalogPlacesUptoSaid : Prop := catalogPlacesUptoRow.holds Tryz.pinned (OpenSpec.upto catalogPlacesSpec)

/-- 'worldmintlaw09.CatalogNames', WHERE WHAT IT READS IS OF BULK AT MOST 1048576: true; the input reads as it did. -/
def catalogNamesUptoRow : OpenClaim := { program := "ytiecjoijnkghbaagreatdoor", sum := "c32729b889f82788b02a5982ba57d778b2d5386dd251451d7c141cbe59430335", func := "worldmint/worldmintlaw09.CatalogNames", spec := "catalogNames", inPlace := ["internal/bytealg.IndexByteString", "internal/bytealg.abigen_runtime_cmpstring"], unfollowed := true, recurses := true, named := ["worldmint/lexer.kinds"], plainKeys := false, apart := false, laid := [("worldmint/lexer.kinds", laid_worldmint_lexer_kinds)], narrowed := true }
def CatalogNamesUptoSaid : Prop := catalogNamesUptoRow.holds Tryz.pinned (OpenSpec.upto catalogNamesSpec)

/-- 'worldmintlaw09.CatalogBytes', WHERE WHAT IT READS IS OF BULK AT MOST 1048576: true; the input reads as it did. -/
def catalogBytesUptoRow : OpenClaim := { program := "ytiecjoijnkghbaagreatdoor", sum := "c32729b889f82788b02a5982ba57d778b2d5386dd251451d7c141cbe59430335", func := "worldmint/worldmintlaw09.CatalogBytes", spec := "catalogBytes", inPlace := ["internal/bytealg.IndexByteString", "internal/bytealg.abigen_runtime_cmpstring"], unfollowed := true, recurses := true, named := ["worldmint/lexer.kinds"], plainKeys := false, apart := false, laid := [("worldmint/lexer.kinds", laid_worldmint_lexer_kinds)], narrowed := true }
def CatalogBytesUptoSaid : Prop := catalogBytesUptoRow.holds Tryz.pinned (OpenSpec.upto catalogBytesSpec)

/-- 'worldmintlaw09.CatalogForms', WHERE WHAT IT READS IS OF BULK AT MOST 1048576: true; the input reads as it did. -/
def catalogFormsUptoRow : OpenClaim := { program := "ytiecjoijnkghbaagreatdoor", sum := "c32729b889f82788b02a5982ba57d778b2d5386dd251451d7c141cbe59430335", func := "worldmint/worldmintlaw09.CatalogForms", spec := "catalogForms", inPlace := ["internal/bytealg.IndexByteString", "internal/bytealg.abigen_runtime_cmpstring"], unfollowed := true, recurses := true, named := ["worldmint/lexer.kinds"], plainKeys := false, apart := false, laid := [("worldmint/lexer.kinds", laid_worldmint_lexer_kinds)], narrowed := true }
def CatalogFormsUptoSaid : Prop := catalogFormsUptoRow.holds Tryz.pinned (OpenSpec.upto catalogFormsSpec)

/-- 'worldmintlaw31.TaxCatalog', WHERE WHAT IT READS IS OF BULK AT MOST 1048576: true; the input reads as it did. -/
def taxCatalogUptoRow : OpenClaim := { program := "ytiecjoijnkghbaagreatdoor", sum := "c32729b889f82788b02a5982ba57d778b2d5386dd251451d7c141cbe59430335", func := "worldmint/worldmintlaw31.TaxCatalog", spec := "taxCatalog", inPlace := ["internal/bytealg.IndexByteString", "internal/abi.NoEscape", "internal/bytealg.abigen_runtime_cmpstring"], unfollowed := true, recurses := true, named := ["worldmint/lexer.kinds", "internal/strconv.uint64pow10", "math/bits.deBruijn32tab", "math/bits.deBruijn64tab", "math/bits.divideError", "math/bits.overflowError"], plainKeys := false, apart := false, laid := [("math/bits.deBruijn32tab", laid_math_bits_deBruijn32tab), ("math/bits.deBruijn64tab", laid_math_bits_deBruijn64tab), ("internal/strconv.uint64pow10", laid_internal_strconv_uint64pow10), ("worldmint/lexer.kinds", laid_worldmint_lexer_kinds)], narrowed := true }
def TaxCatalogUptoSaid : Prop := taxCatalogUptoRow.holds Tryz.pinned (OpenSpec.upto taxCatalogSpec)

/-- 'worldmintlaw09.CatalogRound', WHERE WHAT IT READS IS OF BULK AT MOST 1048576: true; the input reads as it did. -/
def catalogRoundUptoRow : OpenClaim := { program := "ytiecjoijnkghbaagreatdoor", sum := "c32729b889f82788b02a5982ba57d778b2d5386dd251451d7c141cbe59430335", func := "worldmint/worldmintlaw09.CatalogRound", spec := "catalogRound", inPlace := ["internal/bytealg.IndexByteString", "internal/bytealg.abigen_runtime_cmpstring", "internal/abi.NoEscape"], unfollowed := true, recurses := true, named := ["worldmint/lexer.kinds", "internal/strconv.uint64pow10", "math/bits.deBruijn32tab", "math/bits.deBruijn64tab"], plainKeys := false, apart := false, laid := [("math/bits.deBruijn32tab", laid_math_bits_deBruijn32tab), ("math/bits.deBruijn64tab", laid_math_bits_deBruijn64tab), ("internal/strconv.uint64pow10", laid_internal_strconv_uint64pow10), ("worldmint/lexer.kinds", laid_worldmint_lexer_kinds)], narrowed := true }
def CatalogRoundUptoSaid : Prop := catalogRoundUptoRow.holds Tryz.pinned (OpenSpec.upto catalogRoundSpec)

/-- 'worldmintlaw12.VersionMerges', WHERE WHAT IT READS IS OF BULK AT MOST 1048576: true; the input reads as it did. -/
def versionMergesUptoRow : OpenClaim := { program := "ytiecjoijnkghbaagreatdoor", sum := "c32729b889f82788b02a5982ba57d778b2d5386dd251451d7c141cbe59430335", func := "worldmint/worldmintlaw12.VersionMerges", spec := "versionMerges", inPlace := ["internal/bytealg.IndexByteString", "internal/abi.NoEscape", "internal/bytealg.abigen_runtime_cmpstring"], unfollowed := true, recurses := true, named := ["worldmint/lexer.kinds", "internal/strconv.uint64pow10", "math/bits.deBruijn32tab", "math/bits.deBruijn64tab"], plainKeys := false, apart := false, laid := [("math/bits.deBruijn32tab", laid_math_bits_deBruijn32tab), ("math/bits.deBruijn64tab", laid_math_bits_deBruijn64tab), ("internal/strconv.uint64pow10", laid_internal_strconv_uint64pow10), ("worldmint/lexer.kinds", laid_worldmint_lexer_kinds)], narrowed := true }
def VersionMergesUptoSaid : Prop := versionMergesUptoRow.holds Tryz.pinned (OpenSpec.upto versionMergesSpec)

end Rows
end Go.Proofs.YtiecjoijnkghbaaGreatDoor
