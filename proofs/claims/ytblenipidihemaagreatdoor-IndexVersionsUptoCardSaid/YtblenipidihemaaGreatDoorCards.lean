/-
  DERIVED. GIVEN WITH THE SEED: THE CARDS: each row of YtblenipidihemaaGreatDoorRows.lean that lists a variable, with what it lists TIED to the program's text (the seventh form; the later family's looks); each row that meets fmt, with fmt's text TOLD by the authors' own Lean function (tested against real Go, not proved from fmt's source: count such statements apart). THE CARD IS WHAT COUNTS. Prove the row's statement (the work); the ties are given (YtblenipidihemaaGreatDoorTie.lean); close each card by the builder's one call (the guide's Derived/Test/ToyasCard.lean, 'card_holds'). Laid BY PROGRAM, IN A SANDBOX (cutbox-door.mjs). By AI agents, Wed Nov 11 2026. No macro, syntax, notation, axiom, sorry.
-/
import Derived.Test.YtblenipidihemaaGreatDoorRows
import GoSem.ClaimSeven
namespace Go.Proofs.YtblenipidihemaaGreatDoor
namespace Rows

/-- THE TIED CARD OF 'newellaw13.IndexVersions'. -/
def indexVersionsCard : Claim7 := { stood := { row := indexVersionsRow, standIns := [], harness := (true, "a601d2d0e57ed15ee591be010e1ffb8fcecaa504002e021d93fa49b193e3dd3b"), looks := false }, kinds := [], alts := [], laidByText := true, laidKinds := [.data, .pinned], laidTests := true, laidLooks := .later }
def IndexVersionsCardSaid : Prop := Claim7.holds Tryz.pinned (.plain (OpenSpec.ofChange indexVersionsSpec)) indexVersionsCard

/-- THE TIED CARD OF 'newellaw13.IndexTells'. -/
def indexTellsCard : Claim7 := { stood := { row := indexTellsRow, standIns := [], harness := (true, "a601d2d0e57ed15ee591be010e1ffb8fcecaa504002e021d93fa49b193e3dd3b"), looks := false }, kinds := [], alts := [], laidByText := true, laidKinds := [.data, .pinned], laidTests := true, laidLooks := .later }
def IndexTellsCardSaid : Prop := Claim7.holds Tryz.pinned (.plain (OpenSpec.ofChange indexTellsSpec)) indexTellsCard

/-- THE TIED CARD OF 'newellaw13.IndexFinds'. -/
def indexFindsCard : Claim7 := { stood := { row := indexFindsRow, standIns := [], harness := (true, "a601d2d0e57ed15ee591be010e1ffb8fcecaa504002e021d93fa49b193e3dd3b"), looks := false }, kinds := [], alts := [], laidByText := true, laidKinds := [.data, .pinned], laidTests := true, laidLooks := .later }
def IndexFindsCardSaid : Prop := Claim7.holds Tryz.pinned (.plain (OpenSpec.ofChange indexFindsSpec)) indexFindsCard

/-- THE SECOND FORM's CARD OF 'newellaw13.IndexVersions'. -/
def indexVersionsUptoCard : Claim7 := { stood := { row := indexVersionsUptoRow, standIns := [], harness := (true, "a601d2d0e57ed15ee591be010e1ffb8fcecaa504002e021d93fa49b193e3dd3b"), looks := false }, kinds := [], alts := [], laidByText := true, laidKinds := [.data, .pinned], laidTests := true, laidLooks := .later }
def IndexVersionsUptoCardSaid : Prop := Claim7.holds Tryz.pinned (.plain (OpenSpec.upto indexVersionsSpec)) indexVersionsUptoCard

/-- THE SECOND FORM's CARD OF 'newellaw13.IndexTells'. -/
def indexTellsUptoCard : Claim7 := { stood := { row := indexTellsUptoRow, standIns := [], harness := (true, "a601d2d0e57ed15ee591be010e1ffb8fcecaa504002e021d93fa49b193e3dd3b"), looks := false }, kinds := [], alts := [], laidByText := true, laidKinds := [.data, .pinned], laidTests := true, laidLooks := .later }
def IndexTellsUptoCardSaid : Prop := Claim7.holds Tryz.pinned (.plain (OpenSpec.upto indexTellsSpec)) indexTellsUptoCard

/-- THE SECOND FORM's CARD OF 'newellaw13.IndexFinds'. -/
def indexFindsUptoCard : Claim7 := { stood := { row := indexFindsUptoRow, standIns := [], harness := (true, "a601d2d0e57ed15ee591be010e1ffb8fcecaa504002e021d93fa49b193e3dd3b"), looks := false }, kinds := [], alts := [], laidByText := true, laidKinds := [.data, .pinned], laidTests := true, laidLooks := .later }
def IndexFindsUptoCardSaid : Prop := Claim7.holds Tryz.pinned (.plain (OpenSpec.upto indexFindsSpec)) indexFindsUptoCard
end Rows
end Go.Proofs.YtblenipidihemaaGreatDoor
