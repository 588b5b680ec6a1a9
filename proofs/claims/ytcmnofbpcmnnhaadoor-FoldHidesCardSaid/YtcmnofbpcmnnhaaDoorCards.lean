/-
  DERIVED. GIVEN WITH THE SEED: THE CARDS: each row of YtcmnofbpcmnnhaaDoorRows.lean that lists a variable, with what it lists TIED to the program's text (the seventh form; the later family's looks); each row that meets fmt, with fmt's text TOLD by the authors' own Lean function (tested against real Go, not proved from fmt's source: count such statements apart). THE CARD IS WHAT COUNTS. Prove the row's statement (the work); the ties are given (YtcmnofbpcmnnhaaDoorTie.lean); close each card by the builder's one call (the guide's Derived/Test/ToyasCard.lean, 'card_holds'). Laid BY PROGRAM, IN A SANDBOX (cutbox-door.mjs). By AI agents, Wed Nov 11 2026. No macro, syntax, notation, axiom, sorry.
-/
import Derived.Test.YtcmnofbpcmnnhaaDoorRows
import GoSem.ClaimSeven
namespace Go.Proofs.YtcmnofbpcmnnhaaDoor
namespace Rows

/-- THE TIED CARD OF 'jalousielaw41.FoldParents'. -/
def foldParentsCard : Claim7 := { stood := { row := foldParentsRow, standIns := [], harness := (true, "7976a150e13b02ece662fae8e58e4d5142cd6d2f08b75601ec8b302d0a80826a"), looks := true }, kinds := [], alts := [], laidByText := true, laidKinds := [.data, .pinned], laidTests := true, laidLooks := .later }
def FoldParentsCardSaid : Prop := Claim7.holds Tryd.pinned (.plain (OpenSpec.ofChange foldParentsSpec)) foldParentsCard

/-- THE TIED CARD OF 'jalousielaw41.FoldHides'. -/
def foldHidesCard : Claim7 := { stood := { row := foldHidesRow, standIns := [], harness := (true, "7976a150e13b02ece662fae8e58e4d5142cd6d2f08b75601ec8b302d0a80826a"), looks := true }, kinds := [], alts := [], laidByText := true, laidKinds := [.data, .pinned], laidTests := true, laidLooks := .later }
def FoldHidesCardSaid : Prop := Claim7.holds Tryd.pinned (.plain (OpenSpec.ofChange foldHidesSpec)) foldHidesCard

/-- THE TIED CARD OF 'jalousielaw41.FoldAll'. -/
def foldAllCard : Claim7 := { stood := { row := foldAllRow, standIns := [], harness := (true, "7976a150e13b02ece662fae8e58e4d5142cd6d2f08b75601ec8b302d0a80826a"), looks := true }, kinds := [], alts := [], laidByText := true, laidKinds := [.data, .pinned], laidTests := true, laidLooks := .later }
def FoldAllCardSaid : Prop := Claim7.holds Tryd.pinned (.plain (OpenSpec.ofChange foldAllSpec)) foldAllCard

/-- THE TIED CARD OF 'jalousielaw41.FoldTrees'. -/
def foldTreesCard : Claim7 := { stood := { row := foldTreesRow, standIns := [], harness := (true, "7976a150e13b02ece662fae8e58e4d5142cd6d2f08b75601ec8b302d0a80826a"), looks := true }, kinds := [], alts := [], laidByText := true, laidKinds := [.data, .pinned], laidTests := true, laidLooks := .later }
def FoldTreesCardSaid : Prop := Claim7.holds Tryd.pinned (.plain (OpenSpec.ofChange foldTreesSpec)) foldTreesCard

/-- THE TIED CARD OF 'jalousielaw10.UnifiedPrints'. -/
def unifiedPrintsCard : Claim7 := { stood := { row := unifiedPrintsRow, standIns := [], harness := (true, "7976a150e13b02ece662fae8e58e4d5142cd6d2f08b75601ec8b302d0a80826a"), looks := true }, kinds := [], alts := [], laidByText := true, laidKinds := [.data, .pinned], laidTests := true, laidLooks := .later }
def UnifiedPrintsCardSaid : Prop := Claim7.holds Tryd.pinned (.plain (OpenSpec.ofChange unifiedPrintsSpec)) unifiedPrintsCard

/-- THE TIED CARD OF 'jalousielaw10.UnifiedParses'. -/
def unifiedParsesCard : Claim7 := { stood := { row := unifiedParsesRow, standIns := [], harness := (true, "7976a150e13b02ece662fae8e58e4d5142cd6d2f08b75601ec8b302d0a80826a"), looks := true }, kinds := [], alts := [], laidByText := true, laidKinds := [.data, .pinned], laidTests := true, laidLooks := .later }
def UnifiedParsesCardSaid : Prop := Claim7.holds Tryd.pinned (.plain (OpenSpec.ofChange unifiedParsesSpec)) unifiedParsesCard

/-- THE TIED CARD OF 'jalousielaw10.UnifiedBack'. -/
def unifiedBackCard : Claim7 := { stood := { row := unifiedBackRow, standIns := [], harness := (true, "7976a150e13b02ece662fae8e58e4d5142cd6d2f08b75601ec8b302d0a80826a"), looks := true }, kinds := [], alts := [], laidByText := true, laidKinds := [.data, .pinned], laidTests := true, laidLooks := .later }
def UnifiedBackCardSaid : Prop := Claim7.holds Tryd.pinned (.plain (OpenSpec.ofChange unifiedBackSpec)) unifiedBackCard

/-- THE TIED CARD OF 'jalousielaw10.UnifiedAgain'. -/
def unifiedAgainCard : Claim7 := { stood := { row := unifiedAgainRow, standIns := [], harness := (true, "7976a150e13b02ece662fae8e58e4d5142cd6d2f08b75601ec8b302d0a80826a"), looks := true }, kinds := [], alts := [], laidByText := true, laidKinds := [.data, .pinned], laidTests := true, laidLooks := .later }
def UnifiedAgainCardSaid : Prop := Claim7.holds Tryd.pinned (.plain (OpenSpec.ofChange unifiedAgainSpec)) unifiedAgainCard

/-- THE TIED CARD OF 'jalousielaw10.UnifiedCounts'. -/
def unifiedCountsCard : Claim7 := { stood := { row := unifiedCountsRow, standIns := [], harness := (true, "7976a150e13b02ece662fae8e58e4d5142cd6d2f08b75601ec8b302d0a80826a"), looks := true }, kinds := [], alts := [], laidByText := true, laidKinds := [.data, .pinned], laidTests := true, laidLooks := .later }
def UnifiedCountsCardSaid : Prop := Claim7.holds Tryd.pinned (.plain (OpenSpec.ofChange unifiedCountsSpec)) unifiedCountsCard

/-- THE SECOND FORM's CARD OF 'jalousielaw41.FoldParents'. -/
def foldParentsUptoCard : Claim7 := { stood := { row := foldParentsUptoRow, standIns := [], harness := (true, "7976a150e13b02ece662fae8e58e4d5142cd6d2f08b75601ec8b302d0a80826a"), looks := true }, kinds := [], alts := [], laidByText := true, laidKinds := [.data, .pinned], laidTests := true, laidLooks := .later }
def FoldParentsUptoCardSaid : Prop := Claim7.holds Tryd.pinned (.plain (OpenSpec.upto foldParentsSpec)) foldParentsUptoCard

/-- THE SECOND FORM's CARD OF 'jalousielaw41.FoldHides'. -/
def foldHidesUptoCard : Claim7 := { stood := { row := foldHidesUptoRow, standIns := [], harness := (true, "7976a150e13b02ece662fae8e58e4d5142cd6d2f08b75601ec8b302d0a80826a"), looks := true }, kinds := [], alts := [], laidByText := true, laidKinds := [.data, .pinned], laidTests := true, laidLooks := .later }
def FoldHidesUptoCardSaid : Prop := Claim7.holds Tryd.pinned (.plain (OpenSpec.upto foldHidesSpec)) foldHidesUptoCard

/-- THE SECOND FORM's CARD OF 'jalousielaw41.FoldAll'. -/
def foldAllUptoCard : Claim7 := { stood := { row := foldAllUptoRow, standIns := [], harness := (true, "7976a150e13b02ece662fae8e58e4d5142cd6d2f08b75601ec8b302d0a80826a"), looks := true }, kinds := [], alts := [], laidByText := true, laidKinds := [.data, .pinned], laidTests := true, laidLooks := .later }
def FoldAllUptoCardSaid : Prop := Claim7.holds Tryd.pinned (.plain (OpenSpec.upto foldAllSpec)) foldAllUptoCard

/-- THE SECOND FORM's CARD OF 'jalousielaw41.FoldTrees'. -/
def foldTreesUptoCard : Claim7 := { stood := { row := foldTreesUptoRow, standIns := [], harness := (true, "7976a150e13b02ece662fae8e58e4d5142cd6d2f08b75601ec8b302d0a80826a"), looks := true }, kinds := [], alts := [], laidByText := true, laidKinds := [.data, .pinned], laidTests := true, laidLooks := .later }
def FoldTreesUptoCardSaid : Prop := Claim7.holds Tryd.pinned (.plain (OpenSpec.upto foldTreesSpec)) foldTreesUptoCard

/-- THE SECOND FORM's CARD OF 'jalousielaw10.UnifiedPrints'. -/
def unifiedPrintsUptoCard : Claim7 := { stood := { row := unifiedPrintsUptoRow, standIns := [], harness := (true, "7976a150e13b02ece662fae8e58e4d5142cd6d2f08b75601ec8b302d0a80826a"), looks := true }, kinds := [], alts := [], laidByText := true, laidKinds := [.data, .pinned], laidTests := true, laidLooks := .later }
def UnifiedPrintsUptoCardSaid : Prop := Claim7.holds Tryd.pinned (.plain (OpenSpec.upto unifiedPrintsSpec)) unifiedPrintsUptoCard

/-- THE SECOND FORM's CARD OF 'jalousielaw10.UnifiedParses'. -/
def unifiedParsesUptoCard : Claim7 := { stood := { row := unifiedParsesUptoRow, standIns := [], harness := (true, "7976a150e13b02ece662fae8e58e4d5142cd6d2f08b75601ec8b302d0a80826a"), looks := true }, kinds := [], alts := [], laidByText := true, laidKinds := [.data, .pinned], laidTests := true, laidLooks := .later }
def UnifiedParsesUptoCardSaid : Prop := Claim7.holds Tryd.pinned (.plain (OpenSpec.upto unifiedParsesSpec)) unifiedParsesUptoCard

/-- THE SECOND FORM's CARD OF 'jalousielaw10.UnifiedBack'. -/
def unifiedBackUptoCard : Claim7 := { stood := { row := unifiedBackUptoRow, standIns := [], harness := (true, "7976a150e13b02ece662fae8e58e4d5142cd6d2f08b75601ec8b302d0a80826a"), looks := true }, kinds := [], alts := [], laidByText := true, laidKinds := [.data, .pinned], laidTests := true, laidLooks := .later }
def UnifiedBackUptoCardSaid : Prop := Claim7.holds Tryd.pinned (.plain (OpenSpec.upto unifiedBackSpec)) unifiedBackUptoCard

/-- THE SECOND FORM's CARD OF 'jalousielaw10.UnifiedAgain'. -/
def unifiedAgainUptoCard : Claim7 := { stood := { row := unifiedAgainUptoRow, standIns := [], harness := (true, "7976a150e13b02ece662fae8e58e4d5142cd6d2f08b75601ec8b302d0a80826a"), looks := true }, kinds := [], alts := [], laidByText := true, laidKinds := [.data, .pinned], laidTests := true, laidLooks := .later }
def UnifiedAgainUptoCardSaid : Prop := Claim7.holds Tryd.pinned (.plain (OpenSpec.upto unifiedAgainSpec)) unifiedAgainUptoCard

/-- THE SECOND FORM's CARD OF 'jalousielaw10.UnifiedCounts'. -/
def unifiedCountsUptoCard : Claim7 := { stood := { row := unifiedCountsUptoRow, standIns := [], harness := (true, "7976a150e13b02ece662fae8e58e4d5142cd6d2f08b75601ec8b302d0a80826a"), looks := true }, kinds := [], alts := [], laidByText := true, laidKinds := [.data, .pinned], laidTests := true, laidLooks := .later }
def UnifiedCountsUptoCardSaid : Prop := Claim7.holds Tryd.pinned (.plain (OpenSpec.upto unifiedCountsSpec)) unifiedCountsUptoCard
end Rows
end Go.Proofs.YtcmnofbpcmnnhaaDoor
