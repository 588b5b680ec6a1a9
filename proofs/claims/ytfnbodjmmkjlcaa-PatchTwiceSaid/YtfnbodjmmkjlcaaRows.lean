/-
  No cell of these rows narrows 'for every input' (looked for: loops, veiled, ifaces, maps, wideKeys, modest, calm, conditions, laid).
  DERIVED. THE GIVEN ROWS OF THIS SEAT. 10 by the template 'for every input the law returns true; each argument reads behind the call as it read before'; 0 by the template 'total and deterministic' (their statements: YtfnbodjmmkjlcaaTotals.lean).
  GIVEN WITH THE SEED: the statements are not yours to turn. If you find one false, say at which input.
  Laid BY PROGRAM, IN A SANDBOX (cutbox-rows.mjs): the forced cells as the released guide's own fill.sh prints them over the translation 21bc95e4d4b90c84… (all of the seat's roots in one cut). By AI agents, Wed Nov 11 2026. No macro, syntax, notation, axiom, sorry.
-/
import Derived.Test.YtfnbodjmmkjlcaaChecked
import GoSem.Claim
import GoSem.ClaimJoined
import GoSem.ClaimMapViews
import Derived.JoinedTies
import Derived.KernelRfl
namespace Go.Proofs.Ytfnbodjmmkjlcaa
/- THE CELL 'sum', in the pinned program and in every row, IS THE sha256 OF THE DUMP (.gsa) THAT YtfnbodjmmkjlcaaProg.lean LOADS. Nothing in Lean hashes anything: it is a label: what it is worth is what the hold of that sum in a sandbox is worth. -/
noncomputable def Try.pinned : Pinned := { name := "ytfnbodjmmkjlcaa", sum := "21bc95e4d4b90c8441ce49a357dec5bd633856b6bdc295fe977f77123c8accd8", checked := Try.checked }
namespace Rows
def none {H : Type} : Left H := { results := [], args := [] }

/-- 'jalousielaw09.HunkBuilds': WHATEVER THE INPUT: true; the input reads as it did. -/
def hunkBuildsSpec : ChangeSpec := { name := "hunkBuilds", fn := fun _ => fun
  | [d1, d2] => { results := [.lit (.bool true)], args := [d1, d2] }
  | _ => none }
def hunkBuildsRow : OpenClaim := { program := "ytfnbodjmmkjlcaa", sum := "21bc95e4d4b90c8441ce49a357dec5bd633856b6bdc295fe977f77123c8accd8", func := "jalousie/jalousielaw09.HunkBuilds", spec := "hunkBuilds", unfollowed := true, recurses := true, apart := false }
def HunkBuildsSaid : Prop := hunkBuildsRow.holds Try.pinned (OpenSpec.ofChange hunkBuildsSpec)

/-- ITS FALSE NEIGHBOUR: 'it returns false'. Refute it at one input. -/
def hunkBuildsWrong : ChangeSpec := { name := "hunkBuilds", fn := fun _ => fun
  | [d1, d2] => { results := [.lit (.bool false)], args := [d1, d2] }
  | _ => none }
def HunkBuildsWrongFalsely : Prop := hunkBuildsRow.holds Try.pinned (OpenSpec.ofChange hunkBuildsWrong)

/-- 'jalousielaw09.HunkChecks': WHATEVER THE INPUT: true; the input reads as it did. -/
def hunkChecksSpec : ChangeSpec := { name := "hunkChecks", fn := fun _ => fun
  | [d] => { results := [.lit (.bool true)], args := [d] }
  | _ => none }
def hunkChecksRow : OpenClaim := { program := "ytfnbodjmmkjlcaa", sum := "21bc95e4d4b90c8441ce49a357dec5bd633856b6bdc295fe977f77123c8accd8", func := "jalousie/jalousielaw09.HunkChecks", spec := "hunkChecks", unfollowed := true, recurses := true, apart := false }
def HunkChecksSaid : Prop := hunkChecksRow.holds Try.pinned (OpenSpec.ofChange hunkChecksSpec)

/-- ITS FALSE NEIGHBOUR: 'it returns false'. Refute it at one input. -/
def hunkChecksWrong : ChangeSpec := { name := "hunkChecks", fn := fun _ => fun
  | [d] => { results := [.lit (.bool false)], args := [d] }
  | _ => none }
def HunkChecksWrongFalsely : Prop := hunkChecksRow.holds Try.pinned (OpenSpec.ofChange hunkChecksWrong)

/-- 'jalousielaw09.HunkBack': WHATEVER THE INPUT: true; the input reads as it did. -/
def hunkBackSpec : ChangeSpec := { name := "hunkBack", fn := fun _ => fun
  | [d1, d2] => { results := [.lit (.bool true)], args := [d1, d2] }
  | _ => none }
def hunkBackRow : OpenClaim := { program := "ytfnbodjmmkjlcaa", sum := "21bc95e4d4b90c8441ce49a357dec5bd633856b6bdc295fe977f77123c8accd8", func := "jalousie/jalousielaw09.HunkBack", spec := "hunkBack", unfollowed := true, recurses := true, apart := false }
def HunkBackSaid : Prop := hunkBackRow.holds Try.pinned (OpenSpec.ofChange hunkBackSpec)

/-- ITS FALSE NEIGHBOUR: 'it returns false'. Refute it at one input. -/
def hunkBackWrong : ChangeSpec := { name := "hunkBack", fn := fun _ => fun
  | [d1, d2] => { results := [.lit (.bool false)], args := [d1, d2] }
  | _ => none }
def HunkBackWrongFalsely : Prop := hunkBackRow.holds Try.pinned (OpenSpec.ofChange hunkBackWrong)

/-- 'jalousielaw09.HunkAround': WHATEVER THE INPUT: true; the input reads as it did. -/
def hunkAroundSpec : ChangeSpec := { name := "hunkAround", fn := fun _ => fun
  | [d1, d2] => { results := [.lit (.bool true)], args := [d1, d2] }
  | _ => none }
def hunkAroundRow : OpenClaim := { program := "ytfnbodjmmkjlcaa", sum := "21bc95e4d4b90c8441ce49a357dec5bd633856b6bdc295fe977f77123c8accd8", func := "jalousie/jalousielaw09.HunkAround", spec := "hunkAround", unfollowed := true, recurses := true, apart := false }
def HunkAroundSaid : Prop := hunkAroundRow.holds Try.pinned (OpenSpec.ofChange hunkAroundSpec)

/-- ITS FALSE NEIGHBOUR: 'it returns false'. Refute it at one input. -/
def hunkAroundWrong : ChangeSpec := { name := "hunkAround", fn := fun _ => fun
  | [d1, d2] => { results := [.lit (.bool false)], args := [d1, d2] }
  | _ => none }
def HunkAroundWrongFalsely : Prop := hunkAroundRow.holds Try.pinned (OpenSpec.ofChange hunkAroundWrong)

/-- 'jalousielaw09.HunkFewer': WHATEVER THE INPUT: true; the input reads as it did. -/
def hunkFewerSpec : ChangeSpec := { name := "hunkFewer", fn := fun _ => fun
  | [d1, d2, d3] => { results := [.lit (.bool true)], args := [d1, d2, d3] }
  | _ => none }
def hunkFewerRow : OpenClaim := { program := "ytfnbodjmmkjlcaa", sum := "21bc95e4d4b90c8441ce49a357dec5bd633856b6bdc295fe977f77123c8accd8", func := "jalousie/jalousielaw09.HunkFewer", spec := "hunkFewer", unfollowed := true, recurses := true, apart := false }
def HunkFewerSaid : Prop := hunkFewerRow.holds Try.pinned (OpenSpec.ofChange hunkFewerSpec)

/-- ITS FALSE NEIGHBOUR: 'it returns false'. Refute it at one input. -/
def hunkFewerWrong : ChangeSpec := { name := "hunkFewer", fn := fun _ => fun
  | [d1, d2, d3] => { results := [.lit (.bool false)], args := [d1, d2, d3] }
  | _ => none }
def HunkFewerWrongFalsely : Prop := hunkFewerRow.holds Try.pinned (OpenSpec.ofChange hunkFewerWrong)

/-- 'jalousielaw11.PatchApplies': WHATEVER THE INPUT: true; the input reads as it did. -/
def patchAppliesSpec : ChangeSpec := { name := "patchApplies", fn := fun _ => fun
  | [d1, d2] => { results := [.lit (.bool true)], args := [d1, d2] }
  | _ => none }
def patchAppliesRow : OpenClaim := { program := "ytfnbodjmmkjlcaa", sum := "21bc95e4d4b90c8441ce49a357dec5bd633856b6bdc295fe977f77123c8accd8", func := "jalousie/jalousielaw11.PatchApplies", spec := "patchApplies", inPlace := ["internal/bytealg.IndexByteString"], unfollowed := true, recurses := true, apart := false }
def PatchAppliesSaid : Prop := patchAppliesRow.holds Try.pinned (OpenSpec.ofChange patchAppliesSpec)

/-- ITS FALSE NEIGHBOUR: 'it returns false'. Refute it at one input. -/
def patchAppliesWrong : ChangeSpec := { name := "patchApplies", fn := fun _ => fun
  | [d1, d2] => { results := [.lit (.bool false)], args := [d1, d2] }
  | _ => none }
def PatchAppliesWrongFalsely : Prop := patchAppliesRow.holds Try.pinned (OpenSpec.ofChange patchAppliesWrong)

/-- 'jalousielaw11.PatchParts': WHATEVER THE INPUT: true; the input reads as it did. -/
def patchPartsSpec : ChangeSpec := { name := "patchParts", fn := fun _ => fun
  | [d1, d2] => { results := [.lit (.bool true)], args := [d1, d2] }
  | _ => none }
def patchPartsRow : OpenClaim := { program := "ytfnbodjmmkjlcaa", sum := "21bc95e4d4b90c8441ce49a357dec5bd633856b6bdc295fe977f77123c8accd8", func := "jalousie/jalousielaw11.PatchParts", spec := "patchParts", inPlace := ["internal/bytealg.IndexByteString"], unfollowed := true, recurses := true, apart := false }
def PatchPartsSaid : Prop := patchPartsRow.holds Try.pinned (OpenSpec.ofChange patchPartsSpec)

/-- ITS FALSE NEIGHBOUR: 'it returns false'. Refute it at one input. -/
def patchPartsWrong : ChangeSpec := { name := "patchParts", fn := fun _ => fun
  | [d1, d2] => { results := [.lit (.bool false)], args := [d1, d2] }
  | _ => none }
def PatchPartsWrongFalsely : Prop := patchPartsRow.holds Try.pinned (OpenSpec.ofChange patchPartsWrong)

/-- 'jalousielaw11.PatchBack': WHATEVER THE INPUT: true; the input reads as it did. -/
def patchBackSpec : ChangeSpec := { name := "patchBack", fn := fun _ => fun
  | [d1, d2, d3] => { results := [.lit (.bool true)], args := [d1, d2, d3] }
  | _ => none }
def patchBackRow : OpenClaim := { program := "ytfnbodjmmkjlcaa", sum := "21bc95e4d4b90c8441ce49a357dec5bd633856b6bdc295fe977f77123c8accd8", func := "jalousie/jalousielaw11.PatchBack", spec := "patchBack", inPlace := ["internal/bytealg.IndexByteString"], unfollowed := true, recurses := true, apart := false }
def PatchBackSaid : Prop := patchBackRow.holds Try.pinned (OpenSpec.ofChange patchBackSpec)

/-- ITS FALSE NEIGHBOUR: 'it returns false'. Refute it at one input. -/
def patchBackWrong : ChangeSpec := { name := "patchBack", fn := fun _ => fun
  | [d1, d2, d3] => { results := [.lit (.bool false)], args := [d1, d2, d3] }
  | _ => none }
def PatchBackWrongFalsely : Prop := patchBackRow.holds Try.pinned (OpenSpec.ofChange patchBackWrong)

/-- 'jalousielaw11.PatchReverses': WHATEVER THE INPUT: true; the input reads as it did. -/
def patchReversesSpec : ChangeSpec := { name := "patchReverses", fn := fun _ => fun
  | [d] => { results := [.lit (.bool true)], args := [d] }
  | _ => none }
def patchReversesRow : OpenClaim := { program := "ytfnbodjmmkjlcaa", sum := "21bc95e4d4b90c8441ce49a357dec5bd633856b6bdc295fe977f77123c8accd8", func := "jalousie/jalousielaw11.PatchReverses", spec := "patchReverses", inPlace := ["internal/bytealg.IndexByteString"], unfollowed := true, recurses := true, apart := false }
def PatchReversesSaid : Prop := patchReversesRow.holds Try.pinned (OpenSpec.ofChange patchReversesSpec)

/-- ITS FALSE NEIGHBOUR: 'it returns false'. Refute it at one input. -/
def patchReversesWrong : ChangeSpec := { name := "patchReverses", fn := fun _ => fun
  | [d] => { results := [.lit (.bool false)], args := [d] }
  | _ => none }
def PatchReversesWrongFalsely : Prop := patchReversesRow.holds Try.pinned (OpenSpec.ofChange patchReversesWrong)

/-- 'jalousielaw11.PatchTwice': WHATEVER THE INPUT: true; the input reads as it did. -/
def patchTwiceSpec : ChangeSpec := { name := "patchTwice", fn := fun _ => fun
  | [d1, d2, d3] => { results := [.lit (.bool true)], args := [d1, d2, d3] }
  | _ => none }
def patchTwiceRow : OpenClaim := { program := "ytfnbodjmmkjlcaa", sum := "21bc95e4d4b90c8441ce49a357dec5bd633856b6bdc295fe977f77123c8accd8", func := "jalousie/jalousielaw11.PatchTwice", spec := "patchTwice", inPlace := ["internal/bytealg.IndexByteString"], unfollowed := true, recurses := true, apart := false }
def PatchTwiceSaid : Prop := patchTwiceRow.holds Try.pinned (OpenSpec.ofChange patchTwiceSpec)

/-- ITS FALSE NEIGHBOUR: 'it returns false'. Refute it at one input. -/
def patchTwiceWrong : ChangeSpec := { name := "patchTwice", fn := fun _ => fun
  | [d1, d2, d3] => { results := [.lit (.bool false)], args := [d1, d2, d3] }
  | _ => none }
def PatchTwiceWrongFalsely : Prop := patchTwiceRow.holds Try.pinned (OpenSpec.ofChange patchTwiceWrong)

/- THE SECOND FORM. 'bulk': how many values and letters a reading holds, each counted each time it is reached (what is shared counts as often as it is met; a slice's spare places count too). A statement '..UptoSaid' is the law's where the arguments, and the package variables that the reading takes, are together of bulk at most 1048576: NARROWER than '..Said'. Prove '..Said' where nothing that the law and all that it calls make is longer than what came in: it says more and counts as full. Else prove '..UptoSaid'. A law counts once. -/
mutual
def uptoBulk {H : Type} : DataW H → Nat
  | .lit (.string bytes) => bytes.length + 1
  | .lit _ => 1
  | .nil => 1
  | .ptr d => uptoBulk d + 1
  | .slice elems spare => uptoBulkAll elems + uptoBulkAll spare + 1
  | .agg parts => uptoBulkAll parts + 1
  | .iface _ d => uptoBulk d + 1
  | .map entries => uptoBulkEntries entries + 1
  | .held _ => 1
def uptoBulkAll {H : Type} : List (DataW H) → Nat
  | [] => 0
  | d :: r => uptoBulk d + uptoBulkAll r
def uptoBulkEntries {H : Type} : List (Lit × DataW H) → Nat
  | [] => 0
  | x :: r => uptoBulkEntry x + uptoBulkEntries r
def uptoBulkEntry {H : Type} : Lit × DataW H → Nat
  | (.string bytes, d) => bytes.length + uptoBulk d + 1
  | (_, d) => uptoBulk d + 1
 end
def uptoSmall : (H : Type) → List (DataW H) → Bool := fun _ ds => decide (uptoBulkAll ds ≤ 1048576)
def OpenSpec.upto (s : _root_.Go.ChangeSpec) : _root_.Go.OpenSpec := { _root_.Go.OpenSpec.ofChange s with cond := some uptoSmall }

/-- 'jalousielaw09.HunkBuilds', WHERE WHAT IT READS IS OF BULK AT MOST 1048576: true; the input reads as it did. -/
def hunkBuildsUptoRow : OpenClaim := { program := "ytfnbodjmmkjlcaa", sum := "21bc95e4d4b90c8441ce49a357dec5bd633856b6bdc295fe977f77123c8accd8", func := "jalousie/jalousielaw09.HunkBuilds", spec := "hunkBuilds", unfollowed := true, recurses := true, apart := false, narrowed := true }
def HunkBuildsUptoSaid : Prop := hunkBuildsUptoRow.holds Try.pinned (OpenSpec.upto hunkBuildsSpec)

/-- 'jalousielaw09.HunkChecks', WHERE WHAT IT READS IS OF BULK AT MOST 1048576: true; the input reads as it did. -/
def hunkChecksUptoRow : OpenClaim := { program := "ytfnbodjmmkjlcaa", sum := "21bc95e4d4b90c8441ce49a357dec5bd633856b6bdc295fe977f77123c8accd8", func := "jalousie/jalousielaw09.HunkChecks", spec := "hunkChecks", unfollowed := true, recurses := true, apart := false, narrowed := true }
def HunkChecksUptoSaid : Prop := hunkChecksUptoRow.holds Try.pinned (OpenSpec.upto hunkChecksSpec)

/-- 'jalousielaw09.HunkBack', WHERE WHAT IT READS IS OF BULK AT MOST 1048576: true; the input reads as it did. -/
def hunkBackUptoRow : OpenClaim := { program := "ytfnbodjmmkjlcaa", sum := "21bc95e4d4b90c8441ce49a357dec5bd633856b6bdc295fe977f77123c8accd8", func := "jalousie/jalousielaw09.HunkBack", spec := "hunkBack", unfollowed := true, recurses := true, apart := false, narrowed := true }
def HunkBackUptoSaid : Prop := hunkBackUptoRow.holds Try.pinned (OpenSpec.upto hunkBackSpec)

/-- 'jalousielaw09.HunkAround', WHERE WHAT IT READS IS OF BULK AT MOST 1048576: true; the input reads as it did. -/
def hunkAroundUptoRow : OpenClaim := { program := "ytfnbodjmmkjlcaa", sum := "21bc95e4d4b90c8441ce49a357dec5bd633856b6bdc295fe977f77123c8accd8", func := "jalousie/jalousielaw09.HunkAround", spec := "hunkAround", unfollowed := true, recurses := true, apart := false, narrowed := true }
def HunkAroundUptoSaid : Prop := hunkAroundUptoRow.holds Try.pinned (OpenSpec.upto hunkAroundSpec)

/-- 'jalousielaw09.HunkFewer', WHERE WHAT IT READS IS OF BULK AT MOST 1048576: true; the input reads as it did. -/
def hunkFewerUptoRow : OpenClaim := { program := "ytfnbodjmmkjlcaa", sum := "21bc95e4d4b90c8441ce49a357dec5bd633856b6bdc295fe977f77123c8accd8", func := "jalousie/jalousielaw09.HunkFewer", spec := "hunkFewer", unfollowed := true, recurses := true, apart := false, narrowed := true }
def HunkFewerUptoSaid : Prop := hunkFewerUptoRow.holds Try.pinned (OpenSpec.upto hunkFewerSpec)

/-- 'jalousielaw11.PatchApplies', WHERE WHAT IT READS IS OF BULK AT MOST 1048576: true; the input reads as it did. -/
def patchAppliesUptoRow : OpenClaim := { program := "ytfnbodjmmkjlcaa", sum := "21bc95e4d4b90c8441ce49a357dec5bd633856b6bdc295fe977f77123c8accd8", func := "jalousie/jalousielaw11.PatchApplies", spec := "patchApplies", inPlace := ["internal/bytealg.IndexByteString"], unfollowed := true, recurses := true, apart := false, narrowed := true }
def PatchAppliesUptoSaid : Prop := patchAppliesUptoRow.holds Try.pinned (OpenSpec.upto patchAppliesSpec)

/-- 'jalousielaw11.PatchParts', WHERE WHAT IT READS IS OF BULK AT MOST 1048576: true; the input reads as it did. -/
def patchPartsUptoRow : OpenClaim := { program := "ytfnbodjmmkjlcaa", sum := "21bc95e4d4b90c8441ce49a357dec5bd633856b6bdc295fe977f77123c8accd8", func := "jalousie/jalousielaw11.PatchParts", spec := "patchParts", inPlace := ["internal/bytealg.IndexByteString"], unfollowed := true, recurses := true, apart := false, narrowed := true }
def PatchPartsUptoSaid : Prop := patchPartsUptoRow.holds Try.pinned (OpenSpec.upto patchPartsSpec)

/-- 'jalousielaw11.PatchBack', WHERE WHAT IT READS IS OF BULK AT MOST 1048576: true; the input reads as it did. -/
def patchBackUptoRow : OpenClaim := { program := "ytfnbodjmmkjlcaa", sum := "21bc95e4d4b90c8441ce49a357dec5bd633856b6bdc295fe977f77123c8accd8", func := "jalousie/jalousielaw11.PatchBack", spec := "patchBack", inPlace := ["internal/bytealg.IndexByteString"], unfollowed := true, recurses := true, apart := false, narrowed := true }
def PatchBackUptoSaid : Prop := patchBackUptoRow.holds Try.pinned (OpenSpec.upto patchBackSpec)

/-- 'jalousielaw11.PatchReverses', WHERE WHAT IT READS IS OF BULK AT MOST 1048576: true; the input reads as it did. -/
def patchReversesUptoRow : OpenClaim := { program := "ytfnbodjmmkjlcaa", sum := "21bc95e4d4b90c8441ce49a357dec5bd633856b6bdc295fe977f77123c8accd8", func := "jalousie/jalousielaw11.PatchReverses", spec := "patchReverses", inPlace := ["internal/bytealg.IndexByteString"], unfollowed := true, recurses := true, apart := false, narrowed := true }
def PatchReversesUptoSaid : Prop := patchReversesUptoRow.holds Try.pinned (OpenSpec.upto patchReversesSpec)

/-- 'jalousielaw11.PatchTwice', WHERE WHAT IT READS IS OF BULK AT MOST 1048576: true; the input reads as it did. -/
def patchTwiceUptoRow : OpenClaim := { program := "ytfnbodjmmkjlcaa", sum := "21bc95e4d4b90c8441ce49a357dec5bd633856b6bdc295fe977f77123c8accd8", func := "jalousie/jalousielaw11.PatchTwice", spec := "patchTwice", inPlace := ["internal/bytealg.IndexByteString"], unfollowed := true, recurses := true, apart := false, narrowed := true }
def PatchTwiceUptoSaid : Prop := patchTwiceUptoRow.holds Try.pinned (OpenSpec.upto patchTwiceSpec)

end Rows
end Go.Proofs.Ytfnbodjmmkjlcaa
