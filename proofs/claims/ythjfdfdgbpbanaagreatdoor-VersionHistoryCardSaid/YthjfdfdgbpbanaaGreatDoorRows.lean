/-
  NARROWER THAN 'FOR EVERY INPUT', by the rows' own cells (each row's printed sentence says how): VersionNew: laid · VersionMerge: laid · VersionConverts: laid · VersionConserves: laid · VersionThen: laid · VersionSame: laid · VersionHistory: laid.
  DERIVED. THE GIVEN ROWS OF THIS SEAT. 7 by the template 'for every input the law returns true; each argument reads behind the call as it read before'; 0 by the template 'total and deterministic' (their statements: YthjfdfdgbpbanaaGreatDoorTotals.lean).
  GIVEN WITH THE SEED: the statements are not yours to turn. If you find one false, say at which input.
  Laid BY PROGRAM, IN A SANDBOX (cutbox-rows.mjs): the forced cells as the released guide's own fill.sh prints them over the translation 3a2afdb4158bcefb… (all of the seat's roots in one cut). By AI agents, Wed Nov 11 2026. No macro, syntax, notation, axiom, sorry.
-/
import Derived.Test.YthjfdfdgbpbanaaGreatDoorChecked
import GoSem.Claim
import GoSem.ClaimJoined
import GoSem.ClaimMapViews
import Derived.JoinedTies
import Derived.KernelRfl
namespace Go.Proofs.YthjfdfdgbpbanaaGreatDoor
/- THE CELL 'sum', in the pinned program and in every row, IS THE sha256 OF THE DUMP (.gsa) THAT YthjfdfdgbpbanaaGreatDoorProg.lean LOADS. Nothing in Lean hashes anything: it is a label: what it is worth is what the hold of that sum in a sandbox is worth. -/
noncomputable def Tryz.pinned : Pinned := { name := "ythjfdfdgbpbanaagreatdoor", sum := "3a2afdb4158bcefb5a65521ed70e57881cd51e7f67e9d28f82688c35aec787b6", checked := Tryz.checked }
namespace Rows
def none {H : Type} : Left H := { results := [], args := [] }

/- WHAT THE LISTED PACKAGE-LEVEL VARIABLES READ AS WHEN THE CALL BEGINS. Each datum BY PROGRAM (the guide's laid-datum.mjs) off the statement by which the dump's own 'gosem.cut.vars' lays the variable. In a bare row this is a premise. The card (YthjfdfdgbpbanaaGreatDoorCards.lean) ties it to the program's text. -/
def laid_worldmint_lexer_kinds {H : Type} : DataW H := .agg [.lit (.int .u8 0), .lit (.int .u8 0), .lit (.int .u8 0), .lit (.int .u8 0), .lit (.int .u8 0), .lit (.int .u8 0), .lit (.int .u8 0), .lit (.int .u8 0), .lit (.int .u8 0), .lit (.int .u8 1), .lit (.int .u8 1), .lit (.int .u8 0), .lit (.int .u8 0), .lit (.int .u8 0), .lit (.int .u8 0), .lit (.int .u8 0), .lit (.int .u8 0), .lit (.int .u8 0), .lit (.int .u8 0), .lit (.int .u8 0), .lit (.int .u8 0), .lit (.int .u8 0), .lit (.int .u8 0), .lit (.int .u8 0), .lit (.int .u8 0), .lit (.int .u8 0), .lit (.int .u8 0), .lit (.int .u8 0), .lit (.int .u8 0), .lit (.int .u8 0), .lit (.int .u8 0), .lit (.int .u8 0), .lit (.int .u8 1), .lit (.int .u8 0), .lit (.int .u8 0), .lit (.int .u8 2), .lit (.int .u8 0), .lit (.int .u8 0), .lit (.int .u8 0), .lit (.int .u8 0), .lit (.int .u8 7), .lit (.int .u8 7), .lit (.int .u8 0), .lit (.int .u8 7), .lit (.int .u8 7), .lit (.int .u8 6), .lit (.int .u8 7), .lit (.int .u8 0), .lit (.int .u8 4), .lit (.int .u8 4), .lit (.int .u8 4), .lit (.int .u8 4), .lit (.int .u8 4), .lit (.int .u8 4), .lit (.int .u8 4), .lit (.int .u8 4), .lit (.int .u8 4), .lit (.int .u8 4), .lit (.int .u8 7), .lit (.int .u8 7), .lit (.int .u8 7), .lit (.int .u8 7), .lit (.int .u8 7), .lit (.int .u8 0), .lit (.int .u8 0), .lit (.int .u8 0), .lit (.int .u8 0), .lit (.int .u8 0), .lit (.int .u8 0), .lit (.int .u8 0), .lit (.int .u8 0), .lit (.int .u8 0), .lit (.int .u8 0), .lit (.int .u8 0), .lit (.int .u8 0), .lit (.int .u8 0), .lit (.int .u8 0), .lit (.int .u8 0), .lit (.int .u8 0), .lit (.int .u8 0), .lit (.int .u8 0), .lit (.int .u8 0), .lit (.int .u8 0), .lit (.int .u8 0), .lit (.int .u8 0), .lit (.int .u8 0), .lit (.int .u8 0), .lit (.int .u8 0), .lit (.int .u8 0), .lit (.int .u8 0), .lit (.int .u8 0), .lit (.int .u8 0), .lit (.int .u8 0), .lit (.int .u8 0), .lit (.int .u8 0), .lit (.int .u8 5), .lit (.int .u8 0), .lit (.int .u8 3), .lit (.int .u8 3), .lit (.int .u8 3), .lit (.int .u8 3), .lit (.int .u8 3), .lit (.int .u8 3), .lit (.int .u8 3), .lit (.int .u8 3), .lit (.int .u8 3), .lit (.int .u8 3), .lit (.int .u8 3), .lit (.int .u8 3), .lit (.int .u8 3), .lit (.int .u8 3), .lit (.int .u8 3), .lit (.int .u8 3), .lit (.int .u8 3), .lit (.int .u8 3), .lit (.int .u8 3), .lit (.int .u8 3), .lit (.int .u8 3), .lit (.int .u8 3), .lit (.int .u8 3), .lit (.int .u8 3), .lit (.int .u8 3), .lit (.int .u8 3), .lit (.int .u8 7), .lit (.int .u8 0), .lit (.int .u8 7), .lit (.int .u8 0), .lit (.int .u8 0)]

/-- 'worldmintlaw12.VersionNew': WHATEVER THE INPUT: true; the input reads as it did. -/
def versionNewSpec : ChangeSpec := { name := "versionNew", fn := fun _ => fun
  | [d1, d2, d3, d4] => { results := [.lit (.bool true)], args := [d1, d2, d3, d4] }
  | _ => none }
def versionNewRow : OpenClaim := { program := "ythjfdfdgbpbanaagreatdoor", sum := "3a2afdb4158bcefb5a65521ed70e57881cd51e7f67e9d28f82688c35aec787b6", func := "worldmint/worldmintlaw12.VersionNew", spec := "versionNew", inPlace := ["internal/bytealg.IndexByteString"], unfollowed := true, recurses := true, named := ["worldmint/lexer.kinds"], apart := false, laid := [("worldmint/lexer.kinds", laid_worldmint_lexer_kinds)] }
def VersionNewSaid : Prop := versionNewRow.holds Tryz.pinned (OpenSpec.ofChange versionNewSpec)

/-- ITS FALSE NEIGHBOUR: 'it returns false'. Refute it at one input. -/
def versionNewWrong : ChangeSpec := { name := "versionNew", fn := fun _ => fun
  | [d1, d2, d3, d4] => { results := [.lit (.bool false)], args := [d1, d2, d3, d4] }
  | _ => none }
def VersionNewWrongFalsely : Prop := versionNewRow.holds Tryz.pinned (OpenSpec.ofChange versionNewWrong)

/-- 'worldmintlaw12.VersionMerge': WHATEVER THE INPUT: true; the input reads as it did. -/
def versionMergeSpec : ChangeSpec := { name := "versionMerge", fn := fun _ => fun
  | [d1, d2, d3] => { results := [.lit (.bool true)], args := [d1, d2, d3] }
  | _ => none }
def versionMergeRow : OpenClaim := { program := "ythjfdfdgbpbanaagreatdoor", sum := "3a2afdb4158bcefb5a65521ed70e57881cd51e7f67e9d28f82688c35aec787b6", func := "worldmint/worldmintlaw12.VersionMerge", spec := "versionMerge", inPlace := ["internal/bytealg.IndexByteString"], unfollowed := true, recurses := true, named := ["worldmint/lexer.kinds"], apart := false, laid := [("worldmint/lexer.kinds", laid_worldmint_lexer_kinds)] }
def VersionMergeSaid : Prop := versionMergeRow.holds Tryz.pinned (OpenSpec.ofChange versionMergeSpec)

/-- ITS FALSE NEIGHBOUR: 'it returns false'. Refute it at one input. -/
def versionMergeWrong : ChangeSpec := { name := "versionMerge", fn := fun _ => fun
  | [d1, d2, d3] => { results := [.lit (.bool false)], args := [d1, d2, d3] }
  | _ => none }
def VersionMergeWrongFalsely : Prop := versionMergeRow.holds Tryz.pinned (OpenSpec.ofChange versionMergeWrong)

/-- 'worldmintlaw12.VersionConverts': WHATEVER THE INPUT: true; the input reads as it did. -/
def versionConvertsSpec : ChangeSpec := { name := "versionConverts", fn := fun _ => fun
  | [d1, d2, d3, d4, d5, d6] => { results := [.lit (.bool true)], args := [d1, d2, d3, d4, d5, d6] }
  | _ => none }
def versionConvertsRow : OpenClaim := { program := "ythjfdfdgbpbanaagreatdoor", sum := "3a2afdb4158bcefb5a65521ed70e57881cd51e7f67e9d28f82688c35aec787b6", func := "worldmint/worldmintlaw12.VersionConverts", spec := "versionConverts", inPlace := ["internal/bytealg.IndexByteString"], unfollowed := true, recurses := true, named := ["worldmint/lexer.kinds"], apart := false, laid := [("worldmint/lexer.kinds", laid_worldmint_lexer_kinds)] }
def VersionConvertsSaid : Prop := versionConvertsRow.holds Tryz.pinned (OpenSpec.ofChange versionConvertsSpec)

/-- ITS FALSE NEIGHBOUR: 'it returns false'. Refute it at one input. -/
def versionConvertsWrong : ChangeSpec := { name := "versionConverts", fn := fun _ => fun
  | [d1, d2, d3, d4, d5, d6] => { results := [.lit (.bool false)], args := [d1, d2, d3, d4, d5, d6] }
  | _ => none }
def VersionConvertsWrongFalsely : Prop := versionConvertsRow.holds Tryz.pinned (OpenSpec.ofChange versionConvertsWrong)

/-- 'worldmintlaw12.VersionConserves': WHATEVER THE INPUT: true; the input reads as it did. -/
def versionConservesSpec : ChangeSpec := { name := "versionConserves", fn := fun _ => fun
  | [d1, d2, d3, d4] => { results := [.lit (.bool true)], args := [d1, d2, d3, d4] }
  | _ => none }
def versionConservesRow : OpenClaim := { program := "ythjfdfdgbpbanaagreatdoor", sum := "3a2afdb4158bcefb5a65521ed70e57881cd51e7f67e9d28f82688c35aec787b6", func := "worldmint/worldmintlaw12.VersionConserves", spec := "versionConserves", inPlace := ["internal/bytealg.IndexByteString"], unfollowed := true, recurses := true, named := ["worldmint/lexer.kinds"], apart := false, laid := [("worldmint/lexer.kinds", laid_worldmint_lexer_kinds)] }
def VersionConservesSaid : Prop := versionConservesRow.holds Tryz.pinned (OpenSpec.ofChange versionConservesSpec)

/-- ITS FALSE NEIGHBOUR: 'it returns false'. Refute it at one input. -/
def versionConservesWrong : ChangeSpec := { name := "versionConserves", fn := fun _ => fun
  | [d1, d2, d3, d4] => { results := [.lit (.bool false)], args := [d1, d2, d3, d4] }
  | _ => none }
def VersionConservesWrongFalsely : Prop := versionConservesRow.holds Tryz.pinned (OpenSpec.ofChange versionConservesWrong)

/-- 'worldmintlaw12.VersionThen': WHATEVER THE INPUT: true; the input reads as it did. -/
def versionThenSpec : ChangeSpec := { name := "versionThen", fn := fun _ => fun
  | [d1, d2, d3, d4, d5] => { results := [.lit (.bool true)], args := [d1, d2, d3, d4, d5] }
  | _ => none }
def versionThenRow : OpenClaim := { program := "ythjfdfdgbpbanaagreatdoor", sum := "3a2afdb4158bcefb5a65521ed70e57881cd51e7f67e9d28f82688c35aec787b6", func := "worldmint/worldmintlaw12.VersionThen", spec := "versionThen", inPlace := ["internal/bytealg.IndexByteString"], unfollowed := true, recurses := true, named := ["worldmint/lexer.kinds"], apart := false, laid := [("worldmint/lexer.kinds", laid_worldmint_lexer_kinds)] }
def VersionThenSaid : Prop := versionThenRow.holds Tryz.pinned (OpenSpec.ofChange versionThenSpec)

/-- ITS FALSE NEIGHBOUR: 'it returns false'. Refute it at one input. -/
def versionThenWrong : ChangeSpec := { name := "versionThen", fn := fun _ => fun
  | [d1, d2, d3, d4, d5] => { results := [.lit (.bool false)], args := [d1, d2, d3, d4, d5] }
  | _ => none }
def VersionThenWrongFalsely : Prop := versionThenRow.holds Tryz.pinned (OpenSpec.ofChange versionThenWrong)

/-- 'worldmintlaw12.VersionSame': WHATEVER THE INPUT: true; the input reads as it did. -/
def versionSameSpec : ChangeSpec := { name := "versionSame", fn := fun _ => fun
  | [d1, d2] => { results := [.lit (.bool true)], args := [d1, d2] }
  | _ => none }
def versionSameRow : OpenClaim := { program := "ythjfdfdgbpbanaagreatdoor", sum := "3a2afdb4158bcefb5a65521ed70e57881cd51e7f67e9d28f82688c35aec787b6", func := "worldmint/worldmintlaw12.VersionSame", spec := "versionSame", inPlace := ["internal/bytealg.IndexByteString"], unfollowed := true, recurses := true, named := ["worldmint/lexer.kinds"], apart := false, laid := [("worldmint/lexer.kinds", laid_worldmint_lexer_kinds)] }
def VersionSameSaid : Prop := versionSameRow.holds Tryz.pinned (OpenSpec.ofChange versionSameSpec)

/-- ITS FALSE NEIGHBOUR: 'it returns false'. Refute it at one input. -/
def versionSameWrong : ChangeSpec := { name := "versionSame", fn := fun _ => fun
  | [d1, d2] => { results := [.lit (.bool false)], args := [d1, d2] }
  | _ => none }
def VersionSameWrongFalsely : Prop := versionSameRow.holds Tryz.pinned (OpenSpec.ofChange versionSameWrong)

/-- 'worldmintlaw12.VersionHistory': WHATEVER THE INPUT: true; the input reads as it did. -/
def versionHistorySpec : ChangeSpec := { name := "versionHistory", fn := fun _ => fun
  | [d1, d2, d3] => { results := [.lit (.bool true)], args := [d1, d2, d3] }
  | _ => none }
def versionHistoryRow : OpenClaim := { program := "ythjfdfdgbpbanaagreatdoor", sum := "3a2afdb4158bcefb5a65521ed70e57881cd51e7f67e9d28f82688c35aec787b6", func := "worldmint/worldmintlaw12.VersionHistory", spec := "versionHistory", inPlace := ["internal/bytealg.IndexByteString"], unfollowed := true, recurses := true, named := ["worldmint/lexer.kinds"], apart := false, laid := [("worldmint/lexer.kinds", laid_worldmint_lexer_kinds)] }
def VersionHistorySaid : Prop := versionHistoryRow.holds Tryz.pinned (OpenSpec.ofChange versionHistorySpec)

/-- ITS FALSE NEIGHBOUR: 'it returns false'. Refute it at one input. -/
def versionHistoryWrong : ChangeSpec := { name := "versionHistory", fn := fun _ => fun
  | [d1, d2, d3] => { results := [.lit (.bool false)], args := [d1, d2, d3] }
  | _ => none }
def VersionHistoryWrongFalsely : Prop := versionHistoryRow.holds Tryz.pinned (OpenSpec.ofChange versionHistoryWrong)

/- THE SECOND FORM. 'bulk': how many values and letters a reading holds, each counted each time it is reached (what is shared counts as often as it is met; a slice's spare places count too). A statement '..UptoSaid' is the law's where the arguments, and the package variables that the reading takes, are together of bulk at most 1048576: NARROWER than '..Said'. Prove '..Said' where nothing that the law and all that it calls make is longer than what came in: it says more and counts as full. Else prove '..UptoSaid'. A law counts once. -/
mutual
def uptoBulk {H : Type} : DataW H → Nat
  | .lit (.string bytes) => bytes.length + 1
  | .lit _ => 1
  | .nil => 1
  | .ptr d => uptoBulk d + 1
  | .slice elems spare => uptoBulkAll elems + uptoBulkAll spare + 1
  | .agg parts => uptoBulkAll parts + 1
  | .iface _ d => uptoBulk d + 1
  | .map entries => uptoBulkEntries entries + 1
  | .held _ => 1
def uptoBulkAll {H : Type} : List (DataW H) → Nat
  | [] => 0
  | d :: r => uptoBulk d + uptoBulkAll r
def uptoBulkEntries {H : Type} : List (Lit × DataW H) → Nat
  | [] => 0
  | x :: r => uptoBulkEntry x + uptoBulkEntries r
def uptoBulkEntry {H : Type} : Lit × DataW H → Nat
  | (.string bytes, d) => bytes.length + uptoBulk d + 1
  | (_, d) => uptoBulk d + 1
 end
def uptoSmall : (H : Type) → List (DataW H) → Bool := fun _ ds => decide (uptoBulkAll ds ≤ 1048576)
def OpenSpec.upto (s : _root_.Go.ChangeSpec) : _root_.Go.OpenSpec := { _root_.Go.OpenSpec.ofChange s with cond := some uptoSmall }

/-- 'worldmintlaw12.VersionNew', WHERE WHAT IT READS IS OF BULK AT MOST 1048576: true; the input reads as it did. -/
def versionNewUptoRow : OpenClaim := { program := "ythjfdfdgbpbanaagreatdoor", sum := "3a2afdb4158bcefb5a65521ed70e57881cd51e7f67e9d28f82688c35aec787b6", func := "worldmint/worldmintlaw12.VersionNew", spec := "versionNew", inPlace := ["internal/bytealg.IndexByteString"], unfollowed := true, recurses := true, named := ["worldmint/lexer.kinds"], apart := false, laid := [("worldmint/lexer.kinds", laid_worldmint_lexer_kinds)], narrowed := true }
def VersionNewUptoSaid : Prop := versionNewUptoRow.holds Tryz.pinned (OpenSpec.upto versionNewSpec)

/-- 'worldmintlaw12.VersionMerge', WHERE WHAT IT READS IS OF BULK AT MOST 1048576: true; the input reads as it did. -/
def versionMergeUptoRow : OpenClaim := { program := "ythjfdfdgbpbanaagreatdoor", sum := "3a2afdb4158bcefb5a65521ed70e57881cd51e7f67e9d28f82688c35aec787b6", func := "worldmint/worldmintlaw12.VersionMerge", spec := "versionMerge", inPlace := ["internal/bytealg.IndexByteString"], unfollowed := true, recurses := true, named := ["worldmint/lexer.kinds"], apart := false, laid := [("worldmint/lexer.kinds", laid_worldmint_lexer_kinds)], narrowed := true }
def VersionMergeUptoSaid : Prop := versionMergeUptoRow.holds Tryz.pinned (OpenSpec.upto versionMergeSpec)

/-- 'worldmintlaw12.VersionConverts', WHERE WHAT IT READS IS OF BULK AT MOST 1048576: true; the input reads as it did. -/
def versionConvertsUptoRow : OpenClaim := { program := "ythjfdfdgbpbanaagreatdoor", sum := "3a2afdb4158bcefb5a65521ed70e57881cd51e7f67e9d28f82688c35aec787b6", func := "worldmint/worldmintlaw12.VersionConverts", spec := "versionConverts", inPlace := ["internal/bytealg.IndexByteString"], unfollowed := true, recurses := true, named := ["worldmint/lexer.kinds"], apart := false, laid := [("worldmint/lexer.kinds", laid_worldmint_lexer_kinds)], narrowed := true }
def VersionConvertsUptoSaid : Prop := versionConvertsUptoRow.holds Tryz.pinned (OpenSpec.upto versionConvertsSpec)

/-- 'worldmintlaw12.VersionConserves', WHERE WHAT IT READS IS OF BULK AT MOST 1048576: true; the input reads as it did. -/
def versionConservesUptoRow : OpenClaim := { program := "ythjfdfdgbpbanaagreatdoor", sum := "3a2afdb4158bcefb5a65521ed70e57881cd51e7f67e9d28f82688c35aec787b6", func := "worldmint/worldmintlaw12.VersionConserves", spec := "versionConserves", inPlace := ["internal/bytealg.IndexByteString"], unfollowed := true, recurses := true, named := ["worldmint/lexer.kinds"], apart := false, laid := [("worldmint/lexer.kinds", laid_worldmint_lexer_kinds)], narrowed := true }
def VersionConservesUptoSaid : Prop := versionConservesUptoRow.holds Tryz.pinned (OpenSpec.upto versionConservesSpec)

/-- 'worldmintlaw12.VersionThen', WHERE WHAT IT READS IS OF BULK AT MOST 1048576: true; the input reads as it did. -/
def versionThenUptoRow : OpenClaim := { program := "ythjfdfdgbpbanaagreatdoor", sum := "3a2afdb4158bcefb5a65521ed70e57881cd51e7f67e9d28f82688c35aec787b6", func := "worldmint/worldmintlaw12.VersionThen", spec := "versionThen", inPlace := ["internal/bytealg.IndexByteString"], unfollowed := true, recurses := true, named := ["worldmint/lexer.kinds"], apart := false, laid := [("worldmint/lexer.kinds", laid_worldmint_lexer_kinds)], narrowed := true }
def VersionThenUptoSaid : Prop := versionThenUptoRow.holds Tryz.pinned (OpenSpec.upto versionThenSpec)

/-- 'worldmintlaw12.VersionSame', WHERE WHAT IT READS IS OF BULK AT MOST 1048576: true; the input reads as it did. -/
def versionSameUptoRow : OpenClaim := { program := "ythjfdfdgbpbanaagreatdoor", sum := "3a2afdb4158bcefb5a65521ed70e57881cd51e7f67e9d28f82688c35aec787b6", func := "worldmint/worldmintlaw12.VersionSame", spec := "versionSame", inPlace := ["internal/bytealg.IndexByteString"], unfollowed := true, recurses := true, named := ["worldmint/lexer.kinds"], apart := false, laid := [("worldmint/lexer.kinds", laid_worldmint_lexer_kinds)], narrowed := true }
def VersionSameUptoSaid : Prop := versionSameUptoRow.holds Tryz.pinned (OpenSpec.upto versionSameSpec)

/-- 'worldmintlaw12.VersionHistory', WHERE WHAT IT READS IS OF BULK AT MOST 1048576: true; the input reads as it did. -/
def versionHistoryUptoRow : OpenClaim := { program := "ythjfdfdgbpbanaagreatdoor", sum := "3a2afdb4158bcefb5a65521ed70e57881cd51e7f67e9d28f82688c35aec787b6", func := "worldmint/worldmintlaw12.VersionHistory", spec := "versionHistory", inPlace := ["internal/bytealg.IndexByteString"], unfollowed := true, recurses := true, named := ["worldmint/lexer.kinds"], apart := false, laid := [("worldmint/lexer.kinds", laid_worldmint_lexer_kinds)], narrowed := true }
def VersionHistoryUptoSaid : Prop := versionHistoryUptoRow.holds Tryz.pinned (OpenSpec.upto versionHistorySpec)

end Rows
end Go.Proofs.YthjfdfdgbpbanaaGreatDoor
