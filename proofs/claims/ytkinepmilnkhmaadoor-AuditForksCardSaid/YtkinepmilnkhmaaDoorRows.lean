/-
  NARROWER THAN 'FOR EVERY INPUT', by the rows' own cells (each row's printed sentence says how): AuditPlays: laid · AuditBlind: laid · AuditGrows: laid · AuditForks: laid · NotePlays: laid · NoteBlind: laid · NoteAhead: laid · NoteForks: laid.
  DERIVED. THE GIVEN ROWS OF THIS SEAT. 8 by the template 'for every input the law returns true; each argument reads behind the call as it read before'; 0 by the template 'total and deterministic' (their statements: YtkinepmilnkhmaaDoorTotals.lean).
  GIVEN WITH THE SEED: the statements are not yours to turn. If you find one false, say at which input.
  Laid BY PROGRAM, IN A SANDBOX (cutbox-rows.mjs): the forced cells as the released guide's own fill.sh prints them over the translation 63871357face1a26… (all of the seat's roots in one cut). By AI agents, Wed Nov 11 2026. No macro, syntax, notation, axiom, sorry.
-/
import Derived.Test.YtkinepmilnkhmaaDoorChecked
import GoSem.Claim
import GoSem.ClaimJoined
import GoSem.ClaimMapViews
import Derived.JoinedTies
import Derived.KernelRfl
namespace Go.Proofs.YtkinepmilnkhmaaDoor
/- THE CELL 'sum', in the pinned program and in every row, IS THE sha256 OF THE DUMP (.gsa) THAT YtkinepmilnkhmaaDoorProg.lean LOADS. Nothing in Lean hashes anything: it is a label: what it is worth is what the hold of that sum in a sandbox is worth. -/
noncomputable def Tryd.pinned : Pinned := { name := "ytkinepmilnkhmaadoor", sum := "63871357face1a2688b3c3a1718019e0998fc9c732237c8c1a3b9313c9d0551e", checked := Tryd.checked }
namespace Rows
def none {H : Type} : Left H := { results := [], args := [] }

/- WHAT THE LISTED PACKAGE-LEVEL VARIABLES READ AS WHEN THE CALL BEGINS. Each datum BY PROGRAM (the guide's laid-datum.mjs) off the statement by which the dump's own 'gosem.cut.vars' lays the variable. In a bare row this is a premise. The card (YtkinepmilnkhmaaDoorCards.lean) ties it to the program's text. -/
def laid_math_bits_deBruijn64tab {H : Type} : DataW H := .agg [.lit (.int .u8 0), .lit (.int .u8 1), .lit (.int .u8 56), .lit (.int .u8 2), .lit (.int .u8 57), .lit (.int .u8 49), .lit (.int .u8 28), .lit (.int .u8 3), .lit (.int .u8 61), .lit (.int .u8 58), .lit (.int .u8 42), .lit (.int .u8 50), .lit (.int .u8 38), .lit (.int .u8 29), .lit (.int .u8 17), .lit (.int .u8 4), .lit (.int .u8 62), .lit (.int .u8 47), .lit (.int .u8 59), .lit (.int .u8 36), .lit (.int .u8 45), .lit (.int .u8 43), .lit (.int .u8 51), .lit (.int .u8 22), .lit (.int .u8 53), .lit (.int .u8 39), .lit (.int .u8 33), .lit (.int .u8 30), .lit (.int .u8 24), .lit (.int .u8 18), .lit (.int .u8 12), .lit (.int .u8 5), .lit (.int .u8 63), .lit (.int .u8 55), .lit (.int .u8 48), .lit (.int .u8 27), .lit (.int .u8 60), .lit (.int .u8 41), .lit (.int .u8 37), .lit (.int .u8 16), .lit (.int .u8 46), .lit (.int .u8 35), .lit (.int .u8 44), .lit (.int .u8 21), .lit (.int .u8 52), .lit (.int .u8 32), .lit (.int .u8 23), .lit (.int .u8 11), .lit (.int .u8 54), .lit (.int .u8 26), .lit (.int .u8 40), .lit (.int .u8 15), .lit (.int .u8 34), .lit (.int .u8 20), .lit (.int .u8 31), .lit (.int .u8 10), .lit (.int .u8 25), .lit (.int .u8 14), .lit (.int .u8 19), .lit (.int .u8 9), .lit (.int .u8 13), .lit (.int .u8 8), .lit (.int .u8 7), .lit (.int .u8 6)]

/-- 'jalousielaw20.AuditPlays': WHATEVER THE INPUT: true; the input reads as it did. -/
def auditPlaysSpec : ChangeSpec := { name := "auditPlays", fn := fun _ => fun
  | [d1, d2, d3, d4] => { results := [.lit (.bool true)], args := [d1, d2, d3, d4] }
  | _ => none }
def auditPlaysRow : OpenClaim := { program := "ytkinepmilnkhmaadoor", sum := "63871357face1a2688b3c3a1718019e0998fc9c732237c8c1a3b9313c9d0551e", func := "jalousie/jalousielaw20.AuditPlays", spec := "auditPlays", inPlace := ["internal/abi.NoEscape", "internal/bytealg.MakeNoZero"], unfollowed := true, recurses := true, named := ["math/bits.deBruijn64tab"], plainKeys := false, apart := false, laid := [("math/bits.deBruijn64tab", laid_math_bits_deBruijn64tab)] }
def AuditPlaysSaid : Prop := auditPlaysRow.holds Tryd.pinned (OpenSpec.ofChange auditPlaysSpec)

/-- ITS FALSE NEIGHBOUR: 'it returns false'. Refute it at one input. -/
def auditPlaysWrong : ChangeSpec := { name := "auditPlays", fn := fun _ => fun
  | [d1, d2, d3, d4] => { results := [.lit (.bool false)], args := [d1, d2, d3, d4] }
  | _ => none }
def AuditPlaysWrongFalsely : Prop := auditPlaysRow.holds Tryd.pinned (OpenSpec.ofChange auditPlaysWrong)

/-- 'jalousielaw20.AuditBlind': WHATEVER THE INPUT: true; the input reads as it did. -/
def auditBlindSpec : ChangeSpec := { name := "auditBlind", fn := fun _ => fun
  | [d1, d2, d3] => { results := [.lit (.bool true)], args := [d1, d2, d3] }
  | _ => none }
def auditBlindRow : OpenClaim := { program := "ytkinepmilnkhmaadoor", sum := "63871357face1a2688b3c3a1718019e0998fc9c732237c8c1a3b9313c9d0551e", func := "jalousie/jalousielaw20.AuditBlind", spec := "auditBlind", inPlace := ["internal/abi.NoEscape", "internal/bytealg.MakeNoZero"], unfollowed := true, recurses := true, named := ["math/bits.deBruijn64tab"], plainKeys := false, apart := false, laid := [("math/bits.deBruijn64tab", laid_math_bits_deBruijn64tab)] }
def AuditBlindSaid : Prop := auditBlindRow.holds Tryd.pinned (OpenSpec.ofChange auditBlindSpec)

/-- ITS FALSE NEIGHBOUR: 'it returns false'. Refute it at one input. -/
def auditBlindWrong : ChangeSpec := { name := "auditBlind", fn := fun _ => fun
  | [d1, d2, d3] => { results := [.lit (.bool false)], args := [d1, d2, d3] }
  | _ => none }
def AuditBlindWrongFalsely : Prop := auditBlindRow.holds Tryd.pinned (OpenSpec.ofChange auditBlindWrong)

/-- 'jalousielaw20.AuditGrows': WHATEVER THE INPUT: true; the input reads as it did. -/
def auditGrowsSpec : ChangeSpec := { name := "auditGrows", fn := fun _ => fun
  | [d1, d2, d3] => { results := [.lit (.bool true)], args := [d1, d2, d3] }
  | _ => none }
def auditGrowsRow : OpenClaim := { program := "ytkinepmilnkhmaadoor", sum := "63871357face1a2688b3c3a1718019e0998fc9c732237c8c1a3b9313c9d0551e", func := "jalousie/jalousielaw20.AuditGrows", spec := "auditGrows", inPlace := ["internal/abi.NoEscape", "internal/bytealg.MakeNoZero"], unfollowed := true, recurses := true, named := ["math/bits.deBruijn64tab"], plainKeys := false, apart := false, laid := [("math/bits.deBruijn64tab", laid_math_bits_deBruijn64tab)] }
def AuditGrowsSaid : Prop := auditGrowsRow.holds Tryd.pinned (OpenSpec.ofChange auditGrowsSpec)

/-- ITS FALSE NEIGHBOUR: 'it returns false'. Refute it at one input. -/
def auditGrowsWrong : ChangeSpec := { name := "auditGrows", fn := fun _ => fun
  | [d1, d2, d3] => { results := [.lit (.bool false)], args := [d1, d2, d3] }
  | _ => none }
def AuditGrowsWrongFalsely : Prop := auditGrowsRow.holds Tryd.pinned (OpenSpec.ofChange auditGrowsWrong)

/-- 'jalousielaw20.AuditForks': WHATEVER THE INPUT: true; the input reads as it did. -/
def auditForksSpec : ChangeSpec := { name := "auditForks", fn := fun _ => fun
  | [d1, d2, d3] => { results := [.lit (.bool true)], args := [d1, d2, d3] }
  | _ => none }
def auditForksRow : OpenClaim := { program := "ytkinepmilnkhmaadoor", sum := "63871357face1a2688b3c3a1718019e0998fc9c732237c8c1a3b9313c9d0551e", func := "jalousie/jalousielaw20.AuditForks", spec := "auditForks", inPlace := ["internal/abi.NoEscape", "internal/bytealg.MakeNoZero"], unfollowed := true, recurses := true, named := ["math/bits.deBruijn64tab"], plainKeys := false, apart := false, laid := [("math/bits.deBruijn64tab", laid_math_bits_deBruijn64tab)] }
def AuditForksSaid : Prop := auditForksRow.holds Tryd.pinned (OpenSpec.ofChange auditForksSpec)

/-- ITS FALSE NEIGHBOUR: 'it returns false'. Refute it at one input. -/
def auditForksWrong : ChangeSpec := { name := "auditForks", fn := fun _ => fun
  | [d1, d2, d3] => { results := [.lit (.bool false)], args := [d1, d2, d3] }
  | _ => none }
def AuditForksWrongFalsely : Prop := auditForksRow.holds Tryd.pinned (OpenSpec.ofChange auditForksWrong)

/-- 'jalousielaw33.NotePlays': WHATEVER THE INPUT: true; the input reads as it did. -/
def notePlaysSpec : ChangeSpec := { name := "notePlays", fn := fun _ => fun
  | [d1, d2, d3] => { results := [.lit (.bool true)], args := [d1, d2, d3] }
  | _ => none }
def notePlaysRow : OpenClaim := { program := "ytkinepmilnkhmaadoor", sum := "63871357face1a2688b3c3a1718019e0998fc9c732237c8c1a3b9313c9d0551e", func := "jalousie/jalousielaw33.NotePlays", spec := "notePlays", inPlace := ["internal/abi.NoEscape", "internal/bytealg.MakeNoZero"], unfollowed := true, recurses := true, named := ["math/bits.deBruijn64tab"], plainKeys := false, apart := false, laid := [("math/bits.deBruijn64tab", laid_math_bits_deBruijn64tab)] }
def NotePlaysSaid : Prop := notePlaysRow.holds Tryd.pinned (OpenSpec.ofChange notePlaysSpec)

/-- ITS FALSE NEIGHBOUR: 'it returns false'. Refute it at one input. -/
def notePlaysWrong : ChangeSpec := { name := "notePlays", fn := fun _ => fun
  | [d1, d2, d3] => { results := [.lit (.bool false)], args := [d1, d2, d3] }
  | _ => none }
def NotePlaysWrongFalsely : Prop := notePlaysRow.holds Tryd.pinned (OpenSpec.ofChange notePlaysWrong)

/-- 'jalousielaw33.NoteBlind': WHATEVER THE INPUT: true; the input reads as it did. -/
def noteBlindSpec : ChangeSpec := { name := "noteBlind", fn := fun _ => fun
  | [d1, d2, d3] => { results := [.lit (.bool true)], args := [d1, d2, d3] }
  | _ => none }
def noteBlindRow : OpenClaim := { program := "ytkinepmilnkhmaadoor", sum := "63871357face1a2688b3c3a1718019e0998fc9c732237c8c1a3b9313c9d0551e", func := "jalousie/jalousielaw33.NoteBlind", spec := "noteBlind", inPlace := ["internal/abi.NoEscape", "internal/bytealg.MakeNoZero"], unfollowed := true, recurses := true, named := ["math/bits.deBruijn64tab"], plainKeys := false, apart := false, laid := [("math/bits.deBruijn64tab", laid_math_bits_deBruijn64tab)] }
def NoteBlindSaid : Prop := noteBlindRow.holds Tryd.pinned (OpenSpec.ofChange noteBlindSpec)

/-- ITS FALSE NEIGHBOUR: 'it returns false'. Refute it at one input. -/
def noteBlindWrong : ChangeSpec := { name := "noteBlind", fn := fun _ => fun
  | [d1, d2, d3] => { results := [.lit (.bool false)], args := [d1, d2, d3] }
  | _ => none }
def NoteBlindWrongFalsely : Prop := noteBlindRow.holds Tryd.pinned (OpenSpec.ofChange noteBlindWrong)

/-- 'jalousielaw33.NoteAhead': WHATEVER THE INPUT: true; the input reads as it did. -/
def noteAheadSpec : ChangeSpec := { name := "noteAhead", fn := fun _ => fun
  | [d1, d2, d3] => { results := [.lit (.bool true)], args := [d1, d2, d3] }
  | _ => none }
def noteAheadRow : OpenClaim := { program := "ytkinepmilnkhmaadoor", sum := "63871357face1a2688b3c3a1718019e0998fc9c732237c8c1a3b9313c9d0551e", func := "jalousie/jalousielaw33.NoteAhead", spec := "noteAhead", inPlace := ["internal/abi.NoEscape", "internal/bytealg.MakeNoZero"], unfollowed := true, recurses := true, named := ["math/bits.deBruijn64tab"], plainKeys := false, apart := false, laid := [("math/bits.deBruijn64tab", laid_math_bits_deBruijn64tab)] }
def NoteAheadSaid : Prop := noteAheadRow.holds Tryd.pinned (OpenSpec.ofChange noteAheadSpec)

/-- ITS FALSE NEIGHBOUR: 'it returns false'. Refute it at one input. -/
def noteAheadWrong : ChangeSpec := { name := "noteAhead", fn := fun _ => fun
  | [d1, d2, d3] => { results := [.lit (.bool false)], args := [d1, d2, d3] }
  | _ => none }
def NoteAheadWrongFalsely : Prop := noteAheadRow.holds Tryd.pinned (OpenSpec.ofChange noteAheadWrong)

/-- 'jalousielaw33.NoteForks': WHATEVER THE INPUT: true; the input reads as it did. -/
def noteForksSpec : ChangeSpec := { name := "noteForks", fn := fun _ => fun
  | [d1, d2, d3] => { results := [.lit (.bool true)], args := [d1, d2, d3] }
  | _ => none }
def noteForksRow : OpenClaim := { program := "ytkinepmilnkhmaadoor", sum := "63871357face1a2688b3c3a1718019e0998fc9c732237c8c1a3b9313c9d0551e", func := "jalousie/jalousielaw33.NoteForks", spec := "noteForks", inPlace := ["internal/abi.NoEscape", "internal/bytealg.MakeNoZero"], unfollowed := true, recurses := true, named := ["math/bits.deBruijn64tab"], plainKeys := false, apart := false, laid := [("math/bits.deBruijn64tab", laid_math_bits_deBruijn64tab)] }
def NoteForksSaid : Prop := noteForksRow.holds Tryd.pinned (OpenSpec.ofChange noteForksSpec)

/-- ITS FALSE NEIGHBOUR: 'it returns false'. Refute it at one input. -/
def noteForksWrong : ChangeSpec := { name := "noteForks", fn := fun _ => fun
  | [d1, d2, d3] => { results := [.lit (.bool false)], args := [d1, d2, d3] }
  | _ => none }
def NoteForksWrongFalsely : Prop := noteForksRow.holds Tryd.pinned (OpenSpec.ofChange noteForksWrong)

/- THE SECOND FORM. 'bulk': how many values and letters a reading holds, each counted each time it is reached (what is shared counts as often as it is met; a slice's spare places count too). A statement '..UptoSaid' is the law's where the arguments, and the package variables that the reading takes, are together of bulk at most 1048576: NARROWER than '..Said'. Prove '..Said' where nothing that the law and all that it calls make is longer than what came in: it says more and counts as full. Else prove '..UptoSaid'. A law counts once. -/
mutual
def uptoBulk {H : Type} : DataW H → Nat
  | .lit (.string bytes) => bytes.length + 1
  | .lit _ => 1
  | .nil => 1
  | .ptr d => uptoBulk d + 1
  | .slice elems spare => uptoBulkAll elems + uptoBulkAll spare + 1
  | .agg parts => uptoBulkAll parts + 1
  | .iface _ d => uptoBulk d + 1
  | .map entries => uptoBulkEntries entries + 1
  | .held _ => 1
def uptoBulkAll {H : Type} : List (DataW H) → Nat
  | [] => 0
  | d :: r => uptoBulk d + uptoBulkAll r
def uptoBulkEntries {H : Type} : List (Lit × DataW H) → Nat
  | [] => 0
  | x :: r => uptoBulkEntry x + uptoBulkEntries r
def uptoBulkEntry {H : Type} : Lit × DataW H → Nat
  | (.string bytes, d) => bytes.length + uptoBulk d + 1
  | (_, d) => uptoBulk d + 1
 end
def uptoSmall : (H : Type) → List (DataW H) → Bool := fun _ ds => decide (uptoBulkAll ds ≤ 1048576)
def OpenSpec.upto (s : _root_.Go.ChangeSpec) : _root_.Go.OpenSpec := { _root_.Go.OpenSpec.ofChange s with cond := some uptoSmall }

/-- 'jalousielaw20.AuditPlays', WHERE WHAT IT READS IS OF BULK AT MOST 1048576: true; the input reads as it did. -/
def auditPlaysUptoRow : OpenClaim := { program := "ytkinepmilnkhmaadoor", sum := "63871357face1a2688b3c3a1718019e0998fc9c732237c8c1a3b9313c9d0551e", func := "jalousie/jalousielaw20.AuditPlays", spec := "auditPlays", inPlace := ["internal/abi.NoEscape", "internal/bytealg.MakeNoZero"], unfollowed := true, recurses := true, named := ["math/bits.deBruijn64tab"], plainKeys := false, apart := false, laid := [("math/bits.deBruijn64tab", laid_math_bits_deBruijn64tab)], narrowed := true }
def AuditPlaysUptoSaid : Prop := auditPlaysUptoRow.holds Tryd.pinned (OpenSpec.upto auditPlaysSpec)

/-- 'jalousielaw20.AuditBlind', WHERE WHAT IT READS IS OF BULK AT MOST 1048576: true; the input reads as it did. -/
def auditBlindUptoRow : OpenClaim := { program := "ytkinepmilnkhmaadoor", sum := "63871357face1a2688b3c3a1718019e0998fc9c732237c8c1a3b9313c9d0551e", func := "jalousie/jalousielaw20.AuditBlind", spec := "auditBlind", inPlace := ["internal/abi.NoEscape", "internal/bytealg.MakeNoZero"], unfollowed := true, recurses := true, named := ["math/bits.deBruijn64tab"], plainKeys := false, apart := false, laid := [("math/bits.deBruijn64tab", laid_math_bits_deBruijn64tab)], narrowed := true }
def AuditBlindUptoSaid : Prop := auditBlindUptoRow.holds Tryd.pinned (OpenSpec.upto auditBlindSpec)

/-- 'jalousielaw20.AuditGrows', WHERE WHAT IT READS IS OF BULK AT MOST 1048576: true; the input reads as it did. -/
def auditGrowsUptoRow : OpenClaim := { program := "ytkinepmilnkhmaadoor", sum := "63871357face1a2688b3c3a1718019e0998fc9c732237c8c1a3b9313c9d0551e", func := "jalousie/jalousielaw20.AuditGrows", spec := "auditGrows", inPlace := ["internal/abi.NoEscape", "internal/bytealg.MakeNoZero"], unfollowed := true, recurses := true, named := ["math/bits.deBruijn64tab"], plainKeys := false, apart := false, laid := [("math/bits.deBruijn64tab", laid_math_bits_deBruijn64tab)], narrowed := true }
def AuditGrowsUptoSaid : Prop := auditGrowsUptoRow.holds Tryd.pinned (OpenSpec.upto auditGrowsSpec)

/-- 'jalousielaw20.AuditForks', WHERE WHAT IT READS IS OF BULK AT MOST 1048576: true; the input reads as it did. -/
def auditForksUptoRow : OpenClaim := { program := "ytkinepmilnkhmaadoor", sum := "63871357face1a2688b3c3a1718019e0998fc9c732237c8c1a3b9313c9d0551e", func := "jalousie/jalousielaw20.AuditForks", spec := "auditForks", inPlace := ["internal/abi.NoEscape", "internal/bytealg.MakeNoZero"], unfollowed := true, recurses := true, named := ["math/bits.deBruijn64tab"], plainKeys := false, apart := false, laid := [("math/bits.deBruijn64tab", laid_math_bits_deBruijn64tab)], narrowed := true }
def AuditForksUptoSaid : Prop := auditForksUptoRow.holds Tryd.pinned (OpenSpec.upto auditForksSpec)

/-- 'jalousielaw33.NotePlays', WHERE WHAT IT READS IS OF BULK AT MOST 1048576: true; the input reads as it did. -/
def notePlaysUptoRow : OpenClaim := { program := "ytkinepmilnkhmaadoor", sum := "63871357face1a2688b3c3a1718019e0998fc9c732237c8c1a3b9313c9d0551e", func := "jalousie/jalousielaw33.NotePlays", spec := "notePlays", inPlace := ["internal/abi.NoEscape", "internal/bytealg.MakeNoZero"], unfollowed := true, recurses := true, named := ["math/bits.deBruijn64tab"], plainKeys := false, apart := false, laid := [("math/bits.deBruijn64tab", laid_math_bits_deBruijn64tab)], narrowed := true }
def NotePlaysUptoSaid : Prop := notePlaysUptoRow.holds Tryd.pinned (OpenSpec.upto notePlaysSpec)

/-- 'jalousielaw33.NoteBlind', WHERE WHAT IT READS IS OF BULK AT MOST 1048576: true; the input reads as it did. -/
def noteBlindUptoRow : OpenClaim := { program := "ytkinepmilnkhmaadoor", sum := "63871357face1a2688b3c3a1718019e0998fc9c732237c8c1a3b9313c9d0551e", func := "jalousie/jalousielaw33.NoteBlind", spec := "noteBlind", inPlace := ["internal/abi.NoEscape", "internal/bytealg.MakeNoZero"], unfollowed := true, recurses := true, named := ["math/bits.deBruijn64tab"], plainKeys := false, apart := false, laid := [("math/bits.deBruijn64tab", laid_math_bits_deBruijn64tab)], narrowed := true }
def NoteBlindUptoSaid : Prop := noteBlindUptoRow.holds Tryd.pinned (OpenSpec.upto noteBlindSpec)

/-- 'jalousielaw33.NoteAhead', WHERE WHAT IT READS IS OF BULK AT MOST 1048576: true; the input reads as it did. -/
def noteAheadUptoRow : OpenClaim := { program := "ytkinepmilnkhmaadoor", sum := "63871357face1a2688b3c3a1718019e0998fc9c732237c8c1a3b9313c9d0551e", func := "jalousie/jalousielaw33.NoteAhead", spec := "noteAhead", inPlace := ["internal/abi.NoEscape", "internal/bytealg.MakeNoZero"], unfollowed := true, recurses := true, named := ["math/bits.deBruijn64tab"], plainKeys := false, apart := false, laid := [("math/bits.deBruijn64tab", laid_math_bits_deBruijn64tab)], narrowed := true }
def NoteAheadUptoSaid : Prop := noteAheadUptoRow.holds Tryd.pinned (OpenSpec.upto noteAheadSpec)

/-- 'jalousielaw33.NoteForks', WHERE WHAT IT READS IS OF BULK AT MOST 1048576: true; the input reads as it did. -/
def noteForksUptoRow : OpenClaim := { program := "ytkinepmilnkhmaadoor", sum := "63871357face1a2688b3c3a1718019e0998fc9c732237c8c1a3b9313c9d0551e", func := "jalousie/jalousielaw33.NoteForks", spec := "noteForks", inPlace := ["internal/abi.NoEscape", "internal/bytealg.MakeNoZero"], unfollowed := true, recurses := true, named := ["math/bits.deBruijn64tab"], plainKeys := false, apart := false, laid := [("math/bits.deBruijn64tab", laid_math_bits_deBruijn64tab)], narrowed := true }
def NoteForksUptoSaid : Prop := noteForksUptoRow.holds Tryd.pinned (OpenSpec.upto noteForksSpec)

end Rows
end Go.Proofs.YtkinepmilnkhmaaDoor
