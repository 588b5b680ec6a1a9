/-
  DERIVED. GIVEN WITH THE SEED: THE CARDS: each row of YtkinepmilnkhmaaDoorRows.lean that lists a variable, with what it lists TIED to the program's text (the seventh form; the later family's looks); each row that meets fmt, with fmt's text TOLD by the authors' own Lean function (tested against real Go, not proved from fmt's source: count such statements apart). THE CARD IS WHAT COUNTS. Prove the row's statement (the work); the ties are given (YtkinepmilnkhmaaDoorTie.lean); close each card by the builder's one call (the guide's Derived/Test/ToyasCard.lean, 'card_holds'). Laid BY PROGRAM, IN A SANDBOX (cutbox-door.mjs). By AI agents, Wed Nov 11 2026. No macro, syntax, notation, axiom, sorry.
-/
import Derived.Test.YtkinepmilnkhmaaDoorRows
import GoSem.ClaimSeven
namespace Go.Proofs.YtkinepmilnkhmaaDoor
namespace Rows

/-- THE TIED CARD OF 'jalousielaw20.AuditPlays'. -/
def auditPlaysCard : Claim7 := { stood := { row := auditPlaysRow, standIns := [], harness := (true, "dd567bcafbd5246163805965e334df956db5b01360969a2ea099144a3ae7acc2"), looks := false }, kinds := [], alts := [], laidByText := true, laidKinds := [.data], laidTests := true, laidLooks := .later }
def AuditPlaysCardSaid : Prop := Claim7.holds Tryd.pinned (.plain (OpenSpec.ofChange auditPlaysSpec)) auditPlaysCard

/-- THE TIED CARD OF 'jalousielaw20.AuditBlind'. -/
def auditBlindCard : Claim7 := { stood := { row := auditBlindRow, standIns := [], harness := (true, "dd567bcafbd5246163805965e334df956db5b01360969a2ea099144a3ae7acc2"), looks := false }, kinds := [], alts := [], laidByText := true, laidKinds := [.data], laidTests := true, laidLooks := .later }
def AuditBlindCardSaid : Prop := Claim7.holds Tryd.pinned (.plain (OpenSpec.ofChange auditBlindSpec)) auditBlindCard

/-- THE TIED CARD OF 'jalousielaw20.AuditGrows'. -/
def auditGrowsCard : Claim7 := { stood := { row := auditGrowsRow, standIns := [], harness := (true, "dd567bcafbd5246163805965e334df956db5b01360969a2ea099144a3ae7acc2"), looks := false }, kinds := [], alts := [], laidByText := true, laidKinds := [.data], laidTests := true, laidLooks := .later }
def AuditGrowsCardSaid : Prop := Claim7.holds Tryd.pinned (.plain (OpenSpec.ofChange auditGrowsSpec)) auditGrowsCard

/-- THE TIED CARD OF 'jalousielaw20.AuditForks'. -/
def auditForksCard : Claim7 := { stood := { row := auditForksRow, standIns := [], harness := (true, "dd567bcafbd5246163805965e334df956db5b01360969a2ea099144a3ae7acc2"), looks := false }, kinds := [], alts := [], laidByText := true, laidKinds := [.data], laidTests := true, laidLooks := .later }
def AuditForksCardSaid : Prop := Claim7.holds Tryd.pinned (.plain (OpenSpec.ofChange auditForksSpec)) auditForksCard

/-- THE TIED CARD OF 'jalousielaw33.NotePlays'. -/
def notePlaysCard : Claim7 := { stood := { row := notePlaysRow, standIns := [], harness := (true, "dd567bcafbd5246163805965e334df956db5b01360969a2ea099144a3ae7acc2"), looks := false }, kinds := [], alts := [], laidByText := true, laidKinds := [.data], laidTests := true, laidLooks := .later }
def NotePlaysCardSaid : Prop := Claim7.holds Tryd.pinned (.plain (OpenSpec.ofChange notePlaysSpec)) notePlaysCard

/-- THE TIED CARD OF 'jalousielaw33.NoteBlind'. -/
def noteBlindCard : Claim7 := { stood := { row := noteBlindRow, standIns := [], harness := (true, "dd567bcafbd5246163805965e334df956db5b01360969a2ea099144a3ae7acc2"), looks := false }, kinds := [], alts := [], laidByText := true, laidKinds := [.data], laidTests := true, laidLooks := .later }
def NoteBlindCardSaid : Prop := Claim7.holds Tryd.pinned (.plain (OpenSpec.ofChange noteBlindSpec)) noteBlindCard

/-- THE TIED CARD OF 'jalousielaw33.NoteAhead'. -/
def noteAheadCard : Claim7 := { stood := { row := noteAheadRow, standIns := [], harness := (true, "dd567bcafbd5246163805965e334df956db5b01360969a2ea099144a3ae7acc2"), looks := false }, kinds := [], alts := [], laidByText := true, laidKinds := [.data], laidTests := true, laidLooks := .later }
def NoteAheadCardSaid : Prop := Claim7.holds Tryd.pinned (.plain (OpenSpec.ofChange noteAheadSpec)) noteAheadCard

/-- THE TIED CARD OF 'jalousielaw33.NoteForks'. -/
def noteForksCard : Claim7 := { stood := { row := noteForksRow, standIns := [], harness := (true, "dd567bcafbd5246163805965e334df956db5b01360969a2ea099144a3ae7acc2"), looks := false }, kinds := [], alts := [], laidByText := true, laidKinds := [.data], laidTests := true, laidLooks := .later }
def NoteForksCardSaid : Prop := Claim7.holds Tryd.pinned (.plain (OpenSpec.ofChange noteForksSpec)) noteForksCard

/-- THE SECOND FORM's CARD OF 'jalousielaw20.AuditPlays'. -/
def auditPlaysUptoCard : Claim7 := { stood := { row := auditPlaysUptoRow, standIns := [], harness := (true, "dd567bcafbd5246163805965e334df956db5b01360969a2ea099144a3ae7acc2"), looks := false }, kinds := [], alts := [], laidByText := true, laidKinds := [.data], laidTests := true, laidLooks := .later }
def AuditPlaysUptoCardSaid : Prop := Claim7.holds Tryd.pinned (.plain (OpenSpec.upto auditPlaysSpec)) auditPlaysUptoCard

/-- THE SECOND FORM's CARD OF 'jalousielaw20.AuditBlind'. -/
def auditBlindUptoCard : Claim7 := { stood := { row := auditBlindUptoRow, standIns := [], harness := (true, "dd567bcafbd5246163805965e334df956db5b01360969a2ea099144a3ae7acc2"), looks := false }, kinds := [], alts := [], laidByText := true, laidKinds := [.data], laidTests := true, laidLooks := .later }
def AuditBlindUptoCardSaid : Prop := Claim7.holds Tryd.pinned (.plain (OpenSpec.upto auditBlindSpec)) auditBlindUptoCard

/-- THE SECOND FORM's CARD OF 'jalousielaw20.AuditGrows'. -/
def auditGrowsUptoCard : Claim7 := { stood := { row := auditGrowsUptoRow, standIns := [], harness := (true, "dd567bcafbd5246163805965e334df956db5b01360969a2ea099144a3ae7acc2"), looks := false }, kinds := [], alts := [], laidByText := true, laidKinds := [.data], laidTests := true, laidLooks := .later }
def AuditGrowsUptoCardSaid : Prop := Claim7.holds Tryd.pinned (.plain (OpenSpec.upto auditGrowsSpec)) auditGrowsUptoCard

/-- THE SECOND FORM's CARD OF 'jalousielaw20.AuditForks'. -/
def auditForksUptoCard : Claim7 := { stood := { row := auditForksUptoRow, standIns := [], harness := (true, "dd567bcafbd5246163805965e334df956db5b01360969a2ea099144a3ae7acc2"), looks := false }, kinds := [], alts := [], laidByText := true, laidKinds := [.data], laidTests := true, laidLooks := .later }
def AuditForksUptoCardSaid : Prop := Claim7.holds Tryd.pinned (.plain (OpenSpec.upto auditForksSpec)) auditForksUptoCard

/-- THE SECOND FORM's CARD OF 'jalousielaw33.NotePlays'. -/
def notePlaysUptoCard : Claim7 := { stood := { row := notePlaysUptoRow, standIns := [], harness := (true, "dd567bcafbd5246163805965e334df956db5b01360969a2ea099144a3ae7acc2"), looks := false }, kinds := [], alts := [], laidByText := true, laidKinds := [.data], laidTests := true, laidLooks := .later }
def NotePlaysUptoCardSaid : Prop := Claim7.holds Tryd.pinned (.plain (OpenSpec.upto notePlaysSpec)) notePlaysUptoCard

/-- THE SECOND FORM's CARD OF 'jalousielaw33.NoteBlind'. -/
def noteBlindUptoCard : Claim7 := { stood := { row := noteBlindUptoRow, standIns := [], harness := (true, "dd567bcafbd5246163805965e334df956db5b01360969a2ea099144a3ae7acc2"), looks := false }, kinds := [], alts := [], laidByText := true, laidKinds := [.data], laidTests := true, laidLooks := .later }
def NoteBlindUptoCardSaid : Prop := Claim7.holds Tryd.pinned (.plain (OpenSpec.upto noteBlindSpec)) noteBlindUptoCard

/-- THE SECOND FORM's CARD OF 'jalousielaw33.NoteAhead'. -/
def noteAheadUptoCard : Claim7 := { stood := { row := noteAheadUptoRow, standIns := [], harness := (true, "dd567bcafbd5246163805965e334df956db5b01360969a2ea099144a3ae7acc2"), looks := false }, kinds := [], alts := [], laidByText := true, laidKinds := [.data], laidTests := true, laidLooks := .later }
def NoteAheadUptoCardSaid : Prop := Claim7.holds Tryd.pinned (.plain (OpenSpec.upto noteAheadSpec)) noteAheadUptoCard

/-- THE SECOND FORM's CARD OF 'jalousielaw33.NoteForks'. -/
def noteForksUptoCard : Claim7 := { stood := { row := noteForksUptoRow, standIns := [], harness := (true, "dd567bcafbd5246163805965e334df956db5b01360969a2ea099144a3ae7acc2"), looks := false }, kinds := [], alts := [], laidByText := true, laidKinds := [.data], laidTests := true, laidLooks := .later }
def NoteForksUptoCardSaid : Prop := Claim7.holds Tryd.pinned (.plain (OpenSpec.upto noteForksSpec)) noteForksUptoCard
end Rows
end Go.Proofs.YtkinepmilnkhmaaDoor
