/-
  DERIVED. GIVEN WITH THE SEED: THE CARDS: each row of YtbooikopklijdaaGreatDoorRows.lean that lists a variable, with what it lists TIED to the program's text (the seventh form; the later family's looks); each row that meets fmt, with fmt's text TOLD by the authors' own Lean function (tested against real Go, not proved from fmt's source: count such statements apart). THE CARD IS WHAT COUNTS. Prove the row's statement (the work); the ties are given (YtbooikopklijdaaGreatDoorTie.lean); close each card by the builder's one call (the guide's Derived/Test/ToyasCard.lean, 'card_holds'). Laid BY PROGRAM, IN A SANDBOX (cutbox-door.mjs). By AI agents, Wed Nov 11 2026. No macro, syntax, notation, axiom, sorry.
-/
import Derived.Test.YtbooikopklijdaaGreatDoorRows
import GoSem.ClaimSeven
namespace Go.Proofs.YtbooikopklijdaaGreatDoor
namespace Rows

/-- THE TIED CARD OF 'newellaw14.ChainUp'. -/
def chainUpCard : Claim7 := { stood := { row := chainUpRow, standIns := [], harness := (true, "8d5a364bab48ca6a02ef3fe288e6b93e6d31424a59dcdb4424f35f263457ebf7"), looks := false }, kinds := [], alts := [], laidByText := true, laidKinds := [.data, .pinned], laidTests := true, laidLooks := .later }
def ChainUpCardSaid : Prop := Claim7.holds Tryz.pinned (.plain (OpenSpec.ofChange chainUpSpec)) chainUpCard

/-- THE TIED CARD OF 'newellaw14.ChainNames'. -/
def chainNamesCard : Claim7 := { stood := { row := chainNamesRow, standIns := [], harness := (true, "8d5a364bab48ca6a02ef3fe288e6b93e6d31424a59dcdb4424f35f263457ebf7"), looks := false }, kinds := [], alts := [], laidByText := true, laidKinds := [.data, .pinned], laidTests := true, laidLooks := .later }
def ChainNamesCardSaid : Prop := Claim7.holds Tryz.pinned (.plain (OpenSpec.ofChange chainNamesSpec)) chainNamesCard

/-- THE TIED CARD OF 'newellaw18.EffectiveImports'. -/
def effectiveImportsCard : Claim7 := { stood := { row := effectiveImportsRow, standIns := [], harness := (true, "8d5a364bab48ca6a02ef3fe288e6b93e6d31424a59dcdb4424f35f263457ebf7"), looks := false }, kinds := [], alts := [], laidByText := true, laidKinds := [.data, .pinned], laidTests := true, laidLooks := .later }
def EffectiveImportsCardSaid : Prop := Claim7.holds Tryz.pinned (.plain (OpenSpec.ofChange effectiveImportsSpec)) effectiveImportsCard

/-- THE TIED CARD OF 'newellaw18.EffectiveParents'. -/
def effectiveParentsCard : Claim7 := { stood := { row := effectiveParentsRow, standIns := [], harness := (true, "8d5a364bab48ca6a02ef3fe288e6b93e6d31424a59dcdb4424f35f263457ebf7"), looks := false }, kinds := [], alts := [], laidByText := true, laidKinds := [.data, .pinned], laidTests := true, laidLooks := .later }
def EffectiveParentsCardSaid : Prop := Claim7.holds Tryz.pinned (.plain (OpenSpec.ofChange effectiveParentsSpec)) effectiveParentsCard

/-- THE TIED CARD OF 'newellaw18.EffectiveRefuses'. -/
def effectiveRefusesCard : Claim7 := { stood := { row := effectiveRefusesRow, standIns := [], harness := (true, "8d5a364bab48ca6a02ef3fe288e6b93e6d31424a59dcdb4424f35f263457ebf7"), looks := false }, kinds := [], alts := [], laidByText := true, laidKinds := [.data, .pinned], laidTests := true, laidLooks := .later }
def EffectiveRefusesCardSaid : Prop := Claim7.holds Tryz.pinned (.plain (OpenSpec.ofChange effectiveRefusesSpec)) effectiveRefusesCard

/-- THE TIED CARD OF 'newellaw18.EffectiveSelf'. -/
def effectiveSelfCard : Claim7 := { stood := { row := effectiveSelfRow, standIns := [], harness := (true, "8d5a364bab48ca6a02ef3fe288e6b93e6d31424a59dcdb4424f35f263457ebf7"), looks := false }, kinds := [], alts := [], laidByText := true, laidKinds := [.data, .pinned], laidTests := true, laidLooks := .later }
def EffectiveSelfCardSaid : Prop := Claim7.holds Tryz.pinned (.plain (OpenSpec.ofChange effectiveSelfSpec)) effectiveSelfCard

/-- THE TIED CARD OF 'newellaw23.MediateErrors'. -/
def mediateErrorsCard : Claim7 := { stood := { row := mediateErrorsRow, standIns := [], harness := (true, "8d5a364bab48ca6a02ef3fe288e6b93e6d31424a59dcdb4424f35f263457ebf7"), looks := false }, kinds := [], alts := [], laidByText := true, laidKinds := [.data, .pinned], laidTests := true, laidLooks := .later }
def MediateErrorsCardSaid : Prop := Claim7.holds Tryz.pinned (.plain (OpenSpec.ofChange mediateErrorsSpec)) mediateErrorsCard

/-- THE TIED CARD OF 'newellaw23.MediateLine'. -/
def mediateLineCard : Claim7 := { stood := { row := mediateLineRow, standIns := [], harness := (true, "8d5a364bab48ca6a02ef3fe288e6b93e6d31424a59dcdb4424f35f263457ebf7"), looks := false }, kinds := [], alts := [], laidByText := true, laidKinds := [.data, .pinned], laidTests := true, laidLooks := .later }
def MediateLineCardSaid : Prop := Claim7.holds Tryz.pinned (.plain (OpenSpec.ofChange mediateLineSpec)) mediateLineCard

/-- THE TIED CARD OF 'newellaw23.MediateOptional'. -/
def mediateOptionalCard : Claim7 := { stood := { row := mediateOptionalRow, standIns := [], harness := (true, "8d5a364bab48ca6a02ef3fe288e6b93e6d31424a59dcdb4424f35f263457ebf7"), looks := false }, kinds := [], alts := [], laidByText := true, laidKinds := [.data, .pinned], laidTests := true, laidLooks := .later }
def MediateOptionalCardSaid : Prop := Claim7.holds Tryz.pinned (.plain (OpenSpec.ofChange mediateOptionalSpec)) mediateOptionalCard

/-- THE TIED CARD OF 'newellaw23.MediateManaged'. -/
def mediateManagedCard : Claim7 := { stood := { row := mediateManagedRow, standIns := [], harness := (true, "8d5a364bab48ca6a02ef3fe288e6b93e6d31424a59dcdb4424f35f263457ebf7"), looks := false }, kinds := [], alts := [], laidByText := true, laidKinds := [.data, .pinned], laidTests := true, laidLooks := .later }
def MediateManagedCardSaid : Prop := Claim7.holds Tryz.pinned (.plain (OpenSpec.ofChange mediateManagedSpec)) mediateManagedCard

/-- THE TIED CARD OF 'newellaw23.MediateCycles'. -/
def mediateCyclesCard : Claim7 := { stood := { row := mediateCyclesRow, standIns := [], harness := (true, "8d5a364bab48ca6a02ef3fe288e6b93e6d31424a59dcdb4424f35f263457ebf7"), looks := false }, kinds := [], alts := [], laidByText := true, laidKinds := [.data, .pinned], laidTests := true, laidLooks := .later }
def MediateCyclesCardSaid : Prop := Claim7.holds Tryz.pinned (.plain (OpenSpec.ofChange mediateCyclesSpec)) mediateCyclesCard

/-- THE TIED CARD OF 'newellaw23.MediateTypes'. -/
def mediateTypesCard : Claim7 := { stood := { row := mediateTypesRow, standIns := [], harness := (true, "8d5a364bab48ca6a02ef3fe288e6b93e6d31424a59dcdb4424f35f263457ebf7"), looks := false }, kinds := [], alts := [], laidByText := true, laidKinds := [.data, .pinned], laidTests := true, laidLooks := .later }
def MediateTypesCardSaid : Prop := Claim7.holds Tryz.pinned (.plain (OpenSpec.ofChange mediateTypesSpec)) mediateTypesCard

/-- THE SECOND FORM's CARD OF 'newellaw14.ChainUp'. -/
def chainUpUptoCard : Claim7 := { stood := { row := chainUpUptoRow, standIns := [], harness := (true, "8d5a364bab48ca6a02ef3fe288e6b93e6d31424a59dcdb4424f35f263457ebf7"), looks := false }, kinds := [], alts := [], laidByText := true, laidKinds := [.data, .pinned], laidTests := true, laidLooks := .later }
def ChainUpUptoCardSaid : Prop := Claim7.holds Tryz.pinned (.plain (OpenSpec.upto chainUpSpec)) chainUpUptoCard

/-- THE SECOND FORM's CARD OF 'newellaw14.ChainNames'. -/
def chainNamesUptoCard : Claim7 := { stood := { row := chainNamesUptoRow, standIns := [], harness := (true, "8d5a364bab48ca6a02ef3fe288e6b93e6d31424a59dcdb4424f35f263457ebf7"), looks := false }, kinds := [], alts := [], laidByText := true, laidKinds := [.data, .pinned], laidTests := true, laidLooks := .later }
def ChainNamesUptoCardSaid : Prop := Claim7.holds Tryz.pinned (.plain (OpenSpec.upto chainNamesSpec)) chainNamesUptoCard

/-- THE SECOND FORM's CARD OF 'newellaw18.EffectiveImports'. -/
def effectiveImportsUptoCard : Claim7 := { stood := { row := effectiveImportsUptoRow, standIns := [], harness := (true, "8d5a364bab48ca6a02ef3fe288e6b93e6d31424a59dcdb4424f35f263457ebf7"), looks := false }, kinds := [], alts := [], laidByText := true, laidKinds := [.data, .pinned], laidTests := true, laidLooks := .later }
def EffectiveImportsUptoCardSaid : Prop := Claim7.holds Tryz.pinned (.plain (OpenSpec.upto effectiveImportsSpec)) effectiveImportsUptoCard

/-- THE SECOND FORM's CARD OF 'newellaw18.EffectiveParents'. -/
def effectiveParentsUptoCard : Claim7 := { stood := { row := effectiveParentsUptoRow, standIns := [], harness := (true, "8d5a364bab48ca6a02ef3fe288e6b93e6d31424a59dcdb4424f35f263457ebf7"), looks := false }, kinds := [], alts := [], laidByText := true, laidKinds := [.data, .pinned], laidTests := true, laidLooks := .later }
def EffectiveParentsUptoCardSaid : Prop := Claim7.holds Tryz.pinned (.plain (OpenSpec.upto effectiveParentsSpec)) effectiveParentsUptoCard

/-- THE SECOND FORM's CARD OF 'newellaw18.EffectiveRefuses'. -/
def effectiveRefusesUptoCard : Claim7 := { stood := { row := effectiveRefusesUptoRow, standIns := [], harness := (true, "8d5a364bab48ca6a02ef3fe288e6b93e6d31424a59dcdb4424f35f263457ebf7"), looks := false }, kinds := [], alts := [], laidByText := true, laidKinds := [.data, .pinned], laidTests := true, laidLooks := .later }
def EffectiveRefusesUptoCardSaid : Prop := Claim7.holds Tryz.pinned (.plain (OpenSpec.upto effectiveRefusesSpec)) effectiveRefusesUptoCard

/-- THE SECOND FORM's CARD OF 'newellaw18.EffectiveSelf'. -/
def effectiveSelfUptoCard : Claim7 := { stood := { row := effectiveSelfUptoRow, standIns := [], harness := (true, "8d5a364bab48ca6a02ef3fe288e6b93e6d31424a59dcdb4424f35f263457ebf7"), looks := false }, kinds := [], alts := [], laidByText := true, laidKinds := [.data, .pinned], laidTests := true, laidLooks := .later }
def EffectiveSelfUptoCardSaid : Prop := Claim7.holds Tryz.pinned (.plain (OpenSpec.upto effectiveSelfSpec)) effectiveSelfUptoCard

/-- THE SECOND FORM's CARD OF 'newellaw23.MediateErrors'. -/
def mediateErrorsUptoCard : Claim7 := { stood := { row := mediateErrorsUptoRow, standIns := [], harness := (true, "8d5a364bab48ca6a02ef3fe288e6b93e6d31424a59dcdb4424f35f263457ebf7"), looks := false }, kinds := [], alts := [], laidByText := true, laidKinds := [.data, .pinned], laidTests := true, laidLooks := .later }
def MediateErrorsUptoCardSaid : Prop := Claim7.holds Tryz.pinned (.plain (OpenSpec.upto mediateErrorsSpec)) mediateErrorsUptoCard

/-- THE SECOND FORM's CARD OF 'newellaw23.MediateLine'. -/
def mediateLineUptoCard : Claim7 := { stood := { row := mediateLineUptoRow, standIns := [], harness := (true, "8d5a364bab48ca6a02ef3fe288e6b93e6d31424a59dcdb4424f35f263457ebf7"), looks := false }, kinds := [], alts := [], laidByText := true, laidKinds := [.data, .pinned], laidTests := true, laidLooks := .later }
def MediateLineUptoCardSaid : Prop := Claim7.holds Tryz.pinned (.plain (OpenSpec.upto mediateLineSpec)) mediateLineUptoCard

/-- THE SECOND FORM's CARD OF 'newellaw23.MediateOptional'. -/
def mediateOptionalUptoCard : Claim7 := { stood := { row := mediateOptionalUptoRow, standIns := [], harness := (true, "8d5a364bab48ca6a02ef3fe288e6b93e6d31424a59dcdb4424f35f263457ebf7"), looks := false }, kinds := [], alts := [], laidByText := true, laidKinds := [.data, .pinned], laidTests := true, laidLooks := .later }
def MediateOptionalUptoCardSaid : Prop := Claim7.holds Tryz.pinned (.plain (OpenSpec.upto mediateOptionalSpec)) mediateOptionalUptoCard

/-- THE SECOND FORM's CARD OF 'newellaw23.MediateManaged'. -/
def mediateManagedUptoCard : Claim7 := { stood := { row := mediateManagedUptoRow, standIns := [], harness := (true, "8d5a364bab48ca6a02ef3fe288e6b93e6d31424a59dcdb4424f35f263457ebf7"), looks := false }, kinds := [], alts := [], laidByText := true, laidKinds := [.data, .pinned], laidTests := true, laidLooks := .later }
def MediateManagedUptoCardSaid : Prop := Claim7.holds Tryz.pinned (.plain (OpenSpec.upto mediateManagedSpec)) mediateManagedUptoCard

/-- THE SECOND FORM's CARD OF 'newellaw23.MediateCycles'. -/
def mediateCyclesUptoCard : Claim7 := { stood := { row := mediateCyclesUptoRow, standIns := [], harness := (true, "8d5a364bab48ca6a02ef3fe288e6b93e6d31424a59dcdb4424f35f263457ebf7"), looks := false }, kinds := [], alts := [], laidByText := true, laidKinds := [.data, .pinned], laidTests := true, laidLooks := .later }
def MediateCyclesUptoCardSaid : Prop := Claim7.holds Tryz.pinned (.plain (OpenSpec.upto mediateCyclesSpec)) mediateCyclesUptoCard

/-- THE SECOND FORM's CARD OF 'newellaw23.MediateTypes'. -/
def mediateTypesUptoCard : Claim7 := { stood := { row := mediateTypesUptoRow, standIns := [], harness := (true, "8d5a364bab48ca6a02ef3fe288e6b93e6d31424a59dcdb4424f35f263457ebf7"), looks := false }, kinds := [], alts := [], laidByText := true, laidKinds := [.data, .pinned], laidTests := true, laidLooks := .later }
def MediateTypesUptoCardSaid : Prop := Claim7.holds Tryz.pinned (.plain (OpenSpec.upto mediateTypesSpec)) mediateTypesUptoCard
end Rows
end Go.Proofs.YtbooikopklijdaaGreatDoor
