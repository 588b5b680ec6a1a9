/-
  NARROWER THAN 'FOR EVERY INPUT', by the rows' own cells (each row's printed sentence says how): FoldParents: laid · FoldHides: laid · FoldAll: laid · FoldTrees: laid · UnifiedPrints: laid · UnifiedParses: laid · UnifiedBack: laid · UnifiedAgain: laid · UnifiedCounts: laid.
  DERIVED. THE GIVEN ROWS OF THIS SEAT. 9 by the template 'for every input the law returns true; each argument reads behind the call as it read before'; 0 by the template 'total and deterministic' (their statements: YtcmnofbpcmnnhaaDoorTotals.lean).
  GIVEN WITH THE SEED: the statements are not yours to turn. If you find one false, say at which input.
  Laid BY PROGRAM, IN A SANDBOX (cutbox-rows.mjs): the forced cells as the released guide's own fill.sh prints them over the translation daf4add07d2c9ee6… (all of the seat's roots in one cut). By AI agents, Wed Nov 11 2026. No macro, syntax, notation, axiom, sorry.
-/
import Derived.Test.YtcmnofbpcmnnhaaDoorChecked
import GoSem.PinnedTables
import GoSem.Claim
import GoSem.ClaimJoined
import GoSem.ClaimMapViews
import Derived.JoinedTies
import Derived.KernelRfl
namespace Go.Proofs.YtcmnofbpcmnnhaaDoor
/- THE CELL 'sum', in the pinned program and in every row, IS THE sha256 OF THE DUMP (.gsa) THAT YtcmnofbpcmnnhaaDoorProg.lean LOADS. Nothing in Lean hashes anything: it is a label: what it is worth is what the hold of that sum in a sandbox is worth. -/
noncomputable def Tryd.pinned : Pinned := { name := "ytcmnofbpcmnnhaadoor", sum := "daf4add07d2c9ee687b10bd82b5273873486e5c1ae29a503e93d109e8f65b76a", checked := Tryd.checked }
namespace Rows
def none {H : Type} : Left H := { results := [], args := [] }

/- WHAT THE LISTED PACKAGE-LEVEL VARIABLES READ AS WHEN THE CALL BEGINS. Each datum BY PROGRAM (the guide's laid-datum.mjs) off the statement by which the dump's own 'gosem.cut.vars' lays the variable. In a bare row this is a premise. The card (YtcmnofbpcmnnhaaDoorCards.lean) ties it to the program's text. -/
def laid_unicode_utf8_acceptRanges {H : Type} : DataW H := .agg [.agg [.lit (.int .u8 128), .lit (.int .u8 191)], .agg [.lit (.int .u8 160), .lit (.int .u8 191)], .agg [.lit (.int .u8 128), .lit (.int .u8 159)], .agg [.lit (.int .u8 144), .lit (.int .u8 191)], .agg [.lit (.int .u8 128), .lit (.int .u8 143)], .agg [.lit (.int .u8 0), .lit (.int .u8 0)], .agg [.lit (.int .u8 0), .lit (.int .u8 0)], .agg [.lit (.int .u8 0), .lit (.int .u8 0)], .agg [.lit (.int .u8 0), .lit (.int .u8 0)], .agg [.lit (.int .u8 0), .lit (.int .u8 0)], .agg [.lit (.int .u8 0), .lit (.int .u8 0)], .agg [.lit (.int .u8 0), .lit (.int .u8 0)], .agg [.lit (.int .u8 0), .lit (.int .u8 0)], .agg [.lit (.int .u8 0), .lit (.int .u8 0)], .agg [.lit (.int .u8 0), .lit (.int .u8 0)], .agg [.lit (.int .u8 0), .lit (.int .u8 0)]]
/-- One of Go's own tables, pinned by name: the form's constant. -/
def laid_unicode_utf8_first : DataW Unit := Go.Pinned.utf8First

/-- 'jalousielaw41.FoldParents': WHATEVER THE INPUT: true; the input reads as it did. -/
def foldParentsSpec : ChangeSpec := { name := "foldParents", fn := fun _ => fun
  | [d] => { results := [.lit (.bool true)], args := [d] }
  | _ => none }
def foldParentsRow : OpenClaim := { program := "ytcmnofbpcmnnhaadoor", sum := "daf4add07d2c9ee687b10bd82b5273873486e5c1ae29a503e93d109e8f65b76a", func := "jalousie/jalousielaw41.FoldParents", spec := "foldParents", inPlace := ["internal/bytealg.IndexByteString", "internal/bytealg.IndexString", "internal/abi.NoEscape", "internal/bytealg.MakeNoZero"], unfollowed := true, recurses := true, named := ["unicode/utf8.first", "unicode/utf8.acceptRanges", "internal/bytealg.MaxLen"], apart := false, laid := [("unicode/utf8.acceptRanges", laid_unicode_utf8_acceptRanges), ("unicode/utf8.first", laid_unicode_utf8_first)] }
def FoldParentsSaid : Prop := foldParentsRow.holds Tryd.pinned (OpenSpec.ofChange foldParentsSpec)

/-- ITS FALSE NEIGHBOUR: 'it returns false'. Refute it at one input. -/
def foldParentsWrong : ChangeSpec := { name := "foldParents", fn := fun _ => fun
  | [d] => { results := [.lit (.bool false)], args := [d] }
  | _ => none }
def FoldParentsWrongFalsely : Prop := foldParentsRow.holds Tryd.pinned (OpenSpec.ofChange foldParentsWrong)

/-- 'jalousielaw41.FoldHides': WHATEVER THE INPUT: true; the input reads as it did. -/
def foldHidesSpec : ChangeSpec := { name := "foldHides", fn := fun _ => fun
  | [d1, d2, d3] => { results := [.lit (.bool true)], args := [d1, d2, d3] }
  | _ => none }
def foldHidesRow : OpenClaim := { program := "ytcmnofbpcmnnhaadoor", sum := "daf4add07d2c9ee687b10bd82b5273873486e5c1ae29a503e93d109e8f65b76a", func := "jalousie/jalousielaw41.FoldHides", spec := "foldHides", inPlace := ["internal/bytealg.IndexByteString", "internal/bytealg.IndexString", "internal/abi.NoEscape", "internal/bytealg.MakeNoZero"], unfollowed := true, recurses := true, named := ["unicode/utf8.first", "unicode/utf8.acceptRanges", "internal/bytealg.MaxLen"], apart := false, laid := [("unicode/utf8.acceptRanges", laid_unicode_utf8_acceptRanges), ("unicode/utf8.first", laid_unicode_utf8_first)] }
def FoldHidesSaid : Prop := foldHidesRow.holds Tryd.pinned (OpenSpec.ofChange foldHidesSpec)

/-- ITS FALSE NEIGHBOUR: 'it returns false'. Refute it at one input. -/
def foldHidesWrong : ChangeSpec := { name := "foldHides", fn := fun _ => fun
  | [d1, d2, d3] => { results := [.lit (.bool false)], args := [d1, d2, d3] }
  | _ => none }
def FoldHidesWrongFalsely : Prop := foldHidesRow.holds Tryd.pinned (OpenSpec.ofChange foldHidesWrong)

/-- 'jalousielaw41.FoldAll': WHATEVER THE INPUT: true; the input reads as it did. -/
def foldAllSpec : ChangeSpec := { name := "foldAll", fn := fun _ => fun
  | [d1, d2, d3] => { results := [.lit (.bool true)], args := [d1, d2, d3] }
  | _ => none }
def foldAllRow : OpenClaim := { program := "ytcmnofbpcmnnhaadoor", sum := "daf4add07d2c9ee687b10bd82b5273873486e5c1ae29a503e93d109e8f65b76a", func := "jalousie/jalousielaw41.FoldAll", spec := "foldAll", inPlace := ["internal/bytealg.IndexByteString", "internal/bytealg.IndexString", "internal/abi.NoEscape", "internal/bytealg.MakeNoZero"], unfollowed := true, recurses := true, named := ["unicode/utf8.first", "unicode/utf8.acceptRanges", "internal/bytealg.MaxLen"], apart := false, laid := [("unicode/utf8.acceptRanges", laid_unicode_utf8_acceptRanges), ("unicode/utf8.first", laid_unicode_utf8_first)] }
def FoldAllSaid : Prop := foldAllRow.holds Tryd.pinned (OpenSpec.ofChange foldAllSpec)

/-- ITS FALSE NEIGHBOUR: 'it returns false'. Refute it at one input. -/
def foldAllWrong : ChangeSpec := { name := "foldAll", fn := fun _ => fun
  | [d1, d2, d3] => { results := [.lit (.bool false)], args := [d1, d2, d3] }
  | _ => none }
def FoldAllWrongFalsely : Prop := foldAllRow.holds Tryd.pinned (OpenSpec.ofChange foldAllWrong)

/-- 'jalousielaw41.FoldTrees': WHATEVER THE INPUT: true; the input reads as it did. -/
def foldTreesSpec : ChangeSpec := { name := "foldTrees", fn := fun _ => fun
  | [d1, d2] => { results := [.lit (.bool true)], args := [d1, d2] }
  | _ => none }
def foldTreesRow : OpenClaim := { program := "ytcmnofbpcmnnhaadoor", sum := "daf4add07d2c9ee687b10bd82b5273873486e5c1ae29a503e93d109e8f65b76a", func := "jalousie/jalousielaw41.FoldTrees", spec := "foldTrees", inPlace := ["internal/bytealg.IndexByteString", "internal/bytealg.IndexString", "internal/abi.NoEscape", "internal/bytealg.MakeNoZero"], unfollowed := true, recurses := true, named := ["unicode/utf8.first", "unicode/utf8.acceptRanges", "internal/bytealg.MaxLen"], apart := false, laid := [("unicode/utf8.acceptRanges", laid_unicode_utf8_acceptRanges), ("unicode/utf8.first", laid_unicode_utf8_first)] }
def FoldTreesSaid : Prop := foldTreesRow.holds Tryd.pinned (OpenSpec.ofChange foldTreesSpec)

/-- ITS FALSE NEIGHBOUR: 'it returns false'. Refute it at one input. -/
def foldTreesWrong : ChangeSpec := { name := "foldTrees", fn := fun _ => fun
  | [d1, d2] => { results := [.lit (.bool false)], args := [d1, d2] }
  | _ => none }
def FoldTreesWrongFalsely : Prop := foldTreesRow.holds Tryd.pinned (OpenSpec.ofChange foldTreesWrong)

/-- 'jalousielaw10.UnifiedPrints': WHATEVER THE INPUT: true; the input reads as it did. -/
def unifiedPrintsSpec : ChangeSpec := { name := "unifiedPrints", fn := fun _ => fun
  | [d] => { results := [.lit (.bool true)], args := [d] }
  | _ => none }
def unifiedPrintsRow : OpenClaim := { program := "ytcmnofbpcmnnhaadoor", sum := "daf4add07d2c9ee687b10bd82b5273873486e5c1ae29a503e93d109e8f65b76a", func := "jalousie/jalousielaw10.UnifiedPrints", spec := "unifiedPrints", inPlace := ["internal/bytealg.IndexByteString", "internal/bytealg.IndexString", "internal/abi.NoEscape", "internal/bytealg.CountString"], unfollowed := true, recurses := true, named := ["internal/bytealg.MaxLen", "unicode/utf8.first", "unicode/utf8.acceptRanges"], apart := false, laid := [("unicode/utf8.acceptRanges", laid_unicode_utf8_acceptRanges), ("unicode/utf8.first", laid_unicode_utf8_first)] }
def UnifiedPrintsSaid : Prop := unifiedPrintsRow.holds Tryd.pinned (OpenSpec.ofChange unifiedPrintsSpec)

/-- ITS FALSE NEIGHBOUR: 'it returns false'. Refute it at one input. -/
def unifiedPrintsWrong : ChangeSpec := { name := "unifiedPrints", fn := fun _ => fun
  | [d] => { results := [.lit (.bool false)], args := [d] }
  | _ => none }
def UnifiedPrintsWrongFalsely : Prop := unifiedPrintsRow.holds Tryd.pinned (OpenSpec.ofChange unifiedPrintsWrong)

/-- 'jalousielaw10.UnifiedParses': WHATEVER THE INPUT: true; the input reads as it did. -/
def unifiedParsesSpec : ChangeSpec := { name := "unifiedParses", fn := fun _ => fun
  | [d] => { results := [.lit (.bool true)], args := [d] }
  | _ => none }
def unifiedParsesRow : OpenClaim := { program := "ytcmnofbpcmnnhaadoor", sum := "daf4add07d2c9ee687b10bd82b5273873486e5c1ae29a503e93d109e8f65b76a", func := "jalousie/jalousielaw10.UnifiedParses", spec := "unifiedParses", inPlace := ["internal/bytealg.CountString", "internal/bytealg.IndexByteString", "internal/bytealg.IndexString", "internal/abi.NoEscape"], unfollowed := true, recurses := true, named := ["unicode/utf8.first", "unicode/utf8.acceptRanges", "internal/bytealg.MaxLen"], apart := false, laid := [("unicode/utf8.acceptRanges", laid_unicode_utf8_acceptRanges), ("unicode/utf8.first", laid_unicode_utf8_first)] }
def UnifiedParsesSaid : Prop := unifiedParsesRow.holds Tryd.pinned (OpenSpec.ofChange unifiedParsesSpec)

/-- ITS FALSE NEIGHBOUR: 'it returns false'. Refute it at one input. -/
def unifiedParsesWrong : ChangeSpec := { name := "unifiedParses", fn := fun _ => fun
  | [d] => { results := [.lit (.bool false)], args := [d] }
  | _ => none }
def UnifiedParsesWrongFalsely : Prop := unifiedParsesRow.holds Tryd.pinned (OpenSpec.ofChange unifiedParsesWrong)

/-- 'jalousielaw10.UnifiedBack': WHATEVER THE INPUT: true; the input reads as it did. -/
def unifiedBackSpec : ChangeSpec := { name := "unifiedBack", fn := fun _ => fun
  | [d] => { results := [.lit (.bool true)], args := [d] }
  | _ => none }
def unifiedBackRow : OpenClaim := { program := "ytcmnofbpcmnnhaadoor", sum := "daf4add07d2c9ee687b10bd82b5273873486e5c1ae29a503e93d109e8f65b76a", func := "jalousie/jalousielaw10.UnifiedBack", spec := "unifiedBack", inPlace := ["internal/bytealg.IndexByteString", "internal/bytealg.IndexString", "internal/abi.NoEscape", "internal/bytealg.CountString"], unfollowed := true, recurses := true, named := ["internal/bytealg.MaxLen", "unicode/utf8.first", "unicode/utf8.acceptRanges"], apart := false, laid := [("unicode/utf8.acceptRanges", laid_unicode_utf8_acceptRanges), ("unicode/utf8.first", laid_unicode_utf8_first)] }
def UnifiedBackSaid : Prop := unifiedBackRow.holds Tryd.pinned (OpenSpec.ofChange unifiedBackSpec)

/-- ITS FALSE NEIGHBOUR: 'it returns false'. Refute it at one input. -/
def unifiedBackWrong : ChangeSpec := { name := "unifiedBack", fn := fun _ => fun
  | [d] => { results := [.lit (.bool false)], args := [d] }
  | _ => none }
def UnifiedBackWrongFalsely : Prop := unifiedBackRow.holds Tryd.pinned (OpenSpec.ofChange unifiedBackWrong)

/-- 'jalousielaw10.UnifiedAgain': WHATEVER THE INPUT: true; the input reads as it did. -/
def unifiedAgainSpec : ChangeSpec := { name := "unifiedAgain", fn := fun _ => fun
  | [d] => { results := [.lit (.bool true)], args := [d] }
  | _ => none }
def unifiedAgainRow : OpenClaim := { program := "ytcmnofbpcmnnhaadoor", sum := "daf4add07d2c9ee687b10bd82b5273873486e5c1ae29a503e93d109e8f65b76a", func := "jalousie/jalousielaw10.UnifiedAgain", spec := "unifiedAgain", inPlace := ["internal/bytealg.CountString", "internal/bytealg.IndexByteString", "internal/bytealg.IndexString", "internal/abi.NoEscape"], unfollowed := true, recurses := true, named := ["unicode/utf8.first", "unicode/utf8.acceptRanges", "internal/bytealg.MaxLen"], apart := false, laid := [("unicode/utf8.acceptRanges", laid_unicode_utf8_acceptRanges), ("unicode/utf8.first", laid_unicode_utf8_first)] }
def UnifiedAgainSaid : Prop := unifiedAgainRow.holds Tryd.pinned (OpenSpec.ofChange unifiedAgainSpec)

/-- ITS FALSE NEIGHBOUR: 'it returns false'. Refute it at one input. -/
def unifiedAgainWrong : ChangeSpec := { name := "unifiedAgain", fn := fun _ => fun
  | [d] => { results := [.lit (.bool false)], args := [d] }
  | _ => none }
def UnifiedAgainWrongFalsely : Prop := unifiedAgainRow.holds Tryd.pinned (OpenSpec.ofChange unifiedAgainWrong)

/-- 'jalousielaw10.UnifiedCounts': WHATEVER THE INPUT: true; the input reads as it did. -/
def unifiedCountsSpec : ChangeSpec := { name := "unifiedCounts", fn := fun _ => fun
  | [d] => { results := [.lit (.bool true)], args := [d] }
  | _ => none }
def unifiedCountsRow : OpenClaim := { program := "ytcmnofbpcmnnhaadoor", sum := "daf4add07d2c9ee687b10bd82b5273873486e5c1ae29a503e93d109e8f65b76a", func := "jalousie/jalousielaw10.UnifiedCounts", spec := "unifiedCounts", inPlace := ["internal/bytealg.IndexByteString", "internal/bytealg.IndexString", "internal/abi.NoEscape", "internal/bytealg.CountString"], unfollowed := true, recurses := true, named := ["internal/bytealg.MaxLen", "unicode/utf8.first", "unicode/utf8.acceptRanges"], apart := false, laid := [("unicode/utf8.acceptRanges", laid_unicode_utf8_acceptRanges), ("unicode/utf8.first", laid_unicode_utf8_first)] }
def UnifiedCountsSaid : Prop := unifiedCountsRow.holds Tryd.pinned (OpenSpec.ofChange unifiedCountsSpec)

/-- ITS FALSE NEIGHBOUR: 'it returns false'. Refute it at one input. -/
def unifiedCountsWrong : ChangeSpec := { name := "unifiedCounts", fn := fun _ => fun
  | [d] => { results := [.lit (.bool false)], args := [d] }
  | _ => none }
def UnifiedCountsWrongFalsely : Prop := unifiedCountsRow.holds Tryd.pinned (OpenSpec.ofChange unifiedCountsWrong)

/- THE SECOND FORM. 'bulk': how many values and letters a reading holds, each counted each time it is reached (what is shared counts as often as it is met; a slice's spare places count too). A statement '..UptoSaid' is the law's where the arguments, and the package variables that the reading takes, are together of bulk at most 1048576: NARROWER than '..Said'. Prove '..Said' where nothing that the law and all that it calls make is longer than what came in: it says more and counts as full. Else prove '..UptoSaid'. A law counts once. -/
mutual
def uptoBulk {H : Type} : DataW H → Nat
  | .lit (.string bytes) => bytes.length + 1
  | .lit _ => 1
  | .nil => 1
  | .ptr d => uptoBulk d + 1
  | .slice elems spare => uptoBulkAll elems + uptoBulkAll spare + 1
  | .agg parts => uptoBulkAll parts + 1
  | .iface _ d => uptoBulk d + 1
  | .map entries => uptoBulkEntries entries + 1
  | .held _ => 1
def uptoBulkAll {H : Type} : List (DataW H) → Nat
  | [] => 0
  | d :: r => uptoBulk d + uptoBulkAll r
def uptoBulkEntries {H : Type} : List (Lit × DataW H) → Nat
  | [] => 0
  | x :: r => uptoBulkEntry x + uptoBulkEntries r
def uptoBulkEntry {H : Type} : Lit × DataW H → Nat
  | (.string bytes, d) => bytes.length + uptoBulk d + 1
  | (_, d) => uptoBulk d + 1
 end
def uptoSmall : (H : Type) → List (DataW H) → Bool := fun _ ds => decide (uptoBulkAll ds ≤ 1048576)
def OpenSpec.upto (s : _root_.Go.ChangeSpec) : _root_.Go.OpenSpec := { _root_.Go.OpenSpec.ofChange s with cond := some uptoSmall }

/-- 'jalousielaw41.FoldParents', WHERE WHAT IT READS IS OF BULK AT MOST 1048576: true; the input reads as it did. -/
def foldParentsUptoRow : OpenClaim := { program := "ytcmnofbpcmnnhaadoor", sum := "daf4add07d2c9ee687b10bd82b5273873486e5c1ae29a503e93d109e8f65b76a", func := "jalousie/jalousielaw41.FoldParents", spec := "foldParents", inPlace := ["internal/bytealg.IndexByteString", "internal/bytealg.IndexString", "internal/abi.NoEscape", "internal/bytealg.MakeNoZero"], unfollowed := true, recurses := true, named := ["unicode/utf8.first", "unicode/utf8.acceptRanges", "internal/bytealg.MaxLen"], apart := false, laid := [("unicode/utf8.acceptRanges", laid_unicode_utf8_acceptRanges), ("unicode/utf8.first", laid_unicode_utf8_first)], narrowed := true }
def FoldParentsUptoSaid : Prop := foldParentsUptoRow.holds Tryd.pinned (OpenSpec.upto foldParentsSpec)

/-- 'jalousielaw41.FoldHides', WHERE WHAT IT READS IS OF BULK AT MOST 1048576: true; the input reads as it did. -/
def foldHidesUptoRow : OpenClaim := { program := "ytcmnofbpcmnnhaadoor", sum := "daf4add07d2c9ee687b10bd82b5273873486e5c1ae29a503e93d109e8f65b76a", func := "jalousie/jalousielaw41.FoldHides", spec := "foldHides", inPlace := ["internal/bytealg.IndexByteString", "internal/bytealg.IndexString", "internal/abi.NoEscape", "internal/bytealg.MakeNoZero"], unfollowed := true, recurses := true, named := ["unicode/utf8.first", "unicode/utf8.acceptRanges", "internal/bytealg.MaxLen"], apart := false, laid := [("unicode/utf8.acceptRanges", laid_unicode_utf8_acceptRanges), ("unicode/utf8.first", laid_unicode_utf8_first)], narrowed := true }
def FoldHidesUptoSaid : Prop := foldHidesUptoRow.holds Tryd.pinned (OpenSpec.upto foldHidesSpec)

/-- 'jalousielaw41.FoldAll', WHERE WHAT IT READS IS OF BULK AT MOST 1048576: true; the input reads as it did. -/
def foldAllUptoRow : OpenClaim := { program := "ytcmnofbpcmnnhaadoor", sum := "daf4add07d2c9ee687b10bd82b5273873486e5c1ae29a503e93d109e8f65b76a", func := "jalousie/jalousielaw41.FoldAll", spec := "foldAll", inPlace := ["internal/bytealg.IndexByteString", "internal/bytealg.IndexString", "internal/abi.NoEscape", "internal/bytealg.MakeNoZero"], unfollowed := true, recurses := true, named := ["unicode/utf8.first", "unicode/utf8.acceptRanges", "internal/bytealg.MaxLen"], apart := false, laid := [("unicode/utf8.acceptRanges", laid_unicode_utf8_acceptRanges), ("unicode/utf8.first", laid_unicode_utf8_first)], narrowed := true }
def FoldAllUptoSaid : Prop := foldAllUptoRow.holds Tryd.pinned (OpenSpec.upto foldAllSpec)

/-- 'jalousielaw41.FoldTrees', WHERE WHAT IT READS IS OF BULK AT MOST 1048576: true; the input reads as it did. -/
def foldTreesUptoRow : OpenClaim := { program := "ytcmnofbpcmnnhaadoor", sum := "daf4add07d2c9ee687b10bd82b5273873486e5c1ae29a503e93d109e8f65b76a", func := "jalousie/jalousielaw41.FoldTrees", spec := "foldTrees", inPlace := ["internal/bytealg.IndexByteString", "internal/bytealg.IndexString", "internal/abi.NoEscape", "internal/bytealg.MakeNoZero"], unfollowed := true, recurses := true, named := ["unicode/utf8.first", "unicode/utf8.acceptRanges", "internal/bytealg.MaxLen"], apart := false, laid := [("unicode/utf8.acceptRanges", laid_unicode_utf8_acceptRanges), ("unicode/utf8.first", laid_unicode_utf8_first)], narrowed := true }
def FoldTreesUptoSaid : Prop := foldTreesUptoRow.holds Tryd.pinned (OpenSpec.upto foldTreesSpec)

/-- 'jalousielaw10.UnifiedPrints', WHERE WHAT IT READS IS OF BULK AT MOST 1048576: true; the input reads as it did. -/
def unifiedPrintsUptoRow : OpenClaim := { program := "ytcmnofbpcmnnhaadoor", sum := "daf4add07d2c9ee687b10bd82b5273873486e5c1ae29a503e93d109e8f65b76a", func := "jalousie/jalousielaw10.UnifiedPrints", spec := "unifiedPrints", inPlace := ["internal/bytealg.IndexByteString", "internal/bytealg.IndexString", "internal/abi.NoEscape", "internal/bytealg.CountString"], unfollowed := true, recurses := true, named := ["internal/bytealg.MaxLen", "unicode/utf8.first", "unicode/utf8.acceptRanges"], apart := false, laid := [("unicode/utf8.acceptRanges", laid_unicode_utf8_acceptRanges), ("unicode/utf8.first", laid_unicode_utf8_first)], narrowed := true }
def UnifiedPrintsUptoSaid : Prop := unifiedPrintsUptoRow.holds Tryd.pinned (OpenSpec.upto unifiedPrintsSpec)

/-- 'jalousielaw10.UnifiedParses', WHERE WHAT IT READS IS OF BULK AT MOST 1048576: true; the input reads as it did. -/
def unifiedParsesUptoRow : OpenClaim := { program := "ytcmnofbpcmnnhaadoor", sum := "daf4add07d2c9ee687b10bd82b5273873486e5c1ae29a503e93d109e8f65b76a", func := "jalousie/jalousielaw10.UnifiedParses", spec := "unifiedParses", inPlace := ["internal/bytealg.CountString", "internal/bytealg.IndexByteString", "internal/bytealg.IndexString", "internal/abi.NoEscape"], unfollowed := true, recurses := true, named := ["unicode/utf8.first", "unicode/utf8.acceptRanges", "internal/bytealg.MaxLen"], apart := false, laid := [("unicode/utf8.acceptRanges", laid_unicode_utf8_acceptRanges), ("unicode/utf8.first", laid_unicode_utf8_first)], narrowed := true }
def UnifiedParsesUptoSaid : Prop := unifiedParsesUptoRow.holds Tryd.pinned (OpenSpec.upto unifiedParsesSpec)

/-- 'jalousielaw10.UnifiedBack', WHERE WHAT IT READS IS OF BULK AT MOST 1048576: true; the input reads as it did. -/
def unifiedBackUptoRow : OpenClaim := { program := "ytcmnofbpcmnnhaadoor", sum := "daf4add07d2c9ee687b10bd82b5273873486e5c1ae29a503e93d109e8f65b76a", func := "jalousie/jalousielaw10.UnifiedBack", spec := "unifiedBack", inPlace := ["internal/bytealg.IndexByteString", "internal/bytealg.IndexString", "internal/abi.NoEscape", "internal/bytealg.CountString"], unfollowed := true, recurses := true, named := ["internal/bytealg.MaxLen", "unicode/utf8.first", "unicode/utf8.acceptRanges"], apart := false, laid := [("unicode/utf8.acceptRanges", laid_unicode_utf8_acceptRanges), ("unicode/utf8.first", laid_unicode_utf8_first)], narrowed := true }
def UnifiedBackUptoSaid : Prop := unifiedBackUptoRow.holds Tryd.pinned (OpenSpec.upto unifiedBackSpec)

/-- 'jalousielaw10.UnifiedAgain', WHERE WHAT IT READS IS OF BULK AT MOST 1048576: true; the input reads as it did. -/
def unifiedAgainUptoRow : OpenClaim := { program := "ytcmnofbpcmnnhaadoor", sum := "daf4add07d2c9ee687b10bd82b5273873486e5c1ae29a503e93d109e8f65b76a", func := "jalousie/jalousielaw10.UnifiedAgain", spec := "unifiedAgain", inPlace := ["internal/bytealg.CountString", "internal/bytealg.IndexByteString", "internal/bytealg.IndexString", "internal/abi.NoEscape"], unfollowed := true, recurses := true, named := ["unicode/utf8.first", "unicode/utf8.acceptRanges", "internal/bytealg.MaxLen"], apart := false, laid := [("unicode/utf8.acceptRanges", laid_unicode_utf8_acceptRanges), ("unicode/utf8.first", laid_unicode_utf8_first)], narrowed := true }
def UnifiedAgainUptoSaid : Prop := unifiedAgainUptoRow.holds Tryd.pinned (OpenSpec.upto unifiedAgainSpec)

/-- 'jalousielaw10.UnifiedCounts', WHERE WHAT IT READS IS OF BULK AT MOST 1048576: true; the input reads as it did. -/
def unifiedCountsUptoRow : OpenClaim := { program := "ytcmnofbpcmnnhaadoor", sum := "daf4add07d2c9ee687b10bd82b5273873486e5c1ae29a503e93d109e8f65b76a", func := "jalousie/jalousielaw10.UnifiedCounts", spec := "unifiedCounts", inPlace := ["internal/bytealg.IndexByteString", "internal/bytealg.IndexString", "internal/abi.NoEscape", "internal/bytealg.CountString"], unfollowed := true, recurses := true, named := ["internal/bytealg.MaxLen", "unicode/utf8.first", "unicode/utf8.acceptRanges"], apart := false, laid := [("unicode/utf8.acceptRanges", laid_unicode_utf8_acceptRanges), ("unicode/utf8.first", laid_unicode_utf8_first)], narrowed := true }
def UnifiedCountsUptoSaid : Prop := unifiedCountsUptoRow.holds Tryd.pinned (OpenSpec.upto unifiedCountsSpec)

end Rows
end Go.Proofs.YtcmnofbpcmnnhaaDoor
