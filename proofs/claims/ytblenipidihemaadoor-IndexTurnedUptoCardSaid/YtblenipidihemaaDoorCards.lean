/-
  DERIVED. GIVEN WITH THE SEED: THE CARDS: each row of YtblenipidihemaaDoorRows.lean that lists a variable, with what it lists TIED to the program's text (the seventh form; the later family's looks); each row that meets fmt, with fmt's text TOLD by the authors' own Lean function (tested against real Go, not proved from fmt's source: count such statements apart). THE CARD IS WHAT COUNTS. Prove the row's statement (the work); the ties are given (YtblenipidihemaaDoorTie.lean); close each card by the builder's one call (the guide's Derived/Test/ToyasCard.lean, 'card_holds'). Laid BY PROGRAM, IN A SANDBOX (cutbox-door.mjs). By AI agents, Wed Nov 11 2026. No macro, syntax, notation, axiom, sorry.
-/
import Derived.Test.YtblenipidihemaaDoorRows
import GoSem.ClaimSeven
namespace Go.Proofs.YtblenipidihemaaDoor
namespace Rows

/-- THE TIED CARD OF 'newellaw06.OrderOne'. -/
def orderOneCard : Claim7 := { stood := { row := orderOneRow, standIns := [], harness := (true, "d48c436b72a4af2204a464d34245fd006c41886ffc25fb093a660b1c435bc588"), looks := false }, kinds := [], alts := [], laidByText := true, laidKinds := [.data, .pinned], laidTests := true, laidLooks := .later }
def OrderOneCardSaid : Prop := Claim7.holds Tryd.pinned (.plain (OpenSpec.ofChange orderOneSpec)) orderOneCard

/-- THE TIED CARD OF 'newellaw06.OrderNumbers'. -/
def orderNumbersCard : Claim7 := { stood := { row := orderNumbersRow, standIns := [], harness := (true, "d48c436b72a4af2204a464d34245fd006c41886ffc25fb093a660b1c435bc588"), looks := false }, kinds := [], alts := [], laidByText := true, laidKinds := [.data, .pinned], laidTests := true, laidLooks := .later }
def OrderNumbersCardSaid : Prop := Claim7.holds Tryd.pinned (.plain (OpenSpec.ofChange orderNumbersSpec)) orderNumbersCard

/-- THE TIED CARD OF 'newellaw06.OrderRanks'. -/
def orderRanksCard : Claim7 := { stood := { row := orderRanksRow, standIns := [], harness := (true, "d48c436b72a4af2204a464d34245fd006c41886ffc25fb093a660b1c435bc588"), looks := false }, kinds := [], alts := [], laidByText := true, laidKinds := [.data, .pinned], laidTests := true, laidLooks := .later }
def OrderRanksCardSaid : Prop := Claim7.holds Tryd.pinned (.plain (OpenSpec.ofChange orderRanksSpec)) orderRanksCard

/-- THE TIED CARD OF 'newellaw06.OrderBehind'. -/
def orderBehindCard : Claim7 := { stood := { row := orderBehindRow, standIns := [], harness := (true, "d48c436b72a4af2204a464d34245fd006c41886ffc25fb093a660b1c435bc588"), looks := false }, kinds := [], alts := [], laidByText := true, laidKinds := [.data, .pinned], laidTests := true, laidLooks := .later }
def OrderBehindCardSaid : Prop := Claim7.holds Tryd.pinned (.plain (OpenSpec.ofChange orderBehindSpec)) orderBehindCard

/-- THE TIED CARD OF 'newellaw06.OrderMiddle'. -/
def orderMiddleCard : Claim7 := { stood := { row := orderMiddleRow, standIns := [], harness := (true, "d48c436b72a4af2204a464d34245fd006c41886ffc25fb093a660b1c435bc588"), looks := false }, kinds := [], alts := [], laidByText := true, laidKinds := [.data, .pinned], laidTests := true, laidLooks := .later }
def OrderMiddleCardSaid : Prop := Claim7.holds Tryd.pinned (.plain (OpenSpec.ofChange orderMiddleSpec)) orderMiddleCard

/-- THE TIED CARD OF 'newellaw06.OrderTells'. -/
def orderTellsCard : Claim7 := { stood := { row := orderTellsRow, standIns := [], harness := (true, "d48c436b72a4af2204a464d34245fd006c41886ffc25fb093a660b1c435bc588"), looks := false }, kinds := [], alts := [], laidByText := true, laidKinds := [.data, .pinned], laidTests := true, laidLooks := .later }
def OrderTellsCardSaid : Prop := Claim7.holds Tryd.pinned (.plain (OpenSpec.ofChange orderTellsSpec)) orderTellsCard

/-- THE TIED CARD OF 'newellaw06.OrderSorts'. -/
def orderSortsCard : Claim7 := { stood := { row := orderSortsRow, standIns := [], harness := (true, "d48c436b72a4af2204a464d34245fd006c41886ffc25fb093a660b1c435bc588"), looks := false }, kinds := [], alts := [], laidByText := true, laidKinds := [.data, .pinned], laidTests := true, laidLooks := .later }
def OrderSortsCardSaid : Prop := Claim7.holds Tryd.pinned (.plain (OpenSpec.ofChange orderSortsSpec)) orderSortsCard

/-- THE TIED CARD OF 'newellaw13.IndexTurned'. -/
def indexTurnedCard : Claim7 := { stood := { row := indexTurnedRow, standIns := [], harness := (true, "d48c436b72a4af2204a464d34245fd006c41886ffc25fb093a660b1c435bc588"), looks := false }, kinds := [], alts := [], laidByText := true, laidKinds := [.data, .pinned], laidTests := true, laidLooks := .later }
def IndexTurnedCardSaid : Prop := Claim7.holds Tryd.pinned (.plain (OpenSpec.ofChange indexTurnedSpec)) indexTurnedCard

/-- THE TIED CARD OF 'newellaw13.IndexNil'. -/
def indexNilCard : Claim7 := { stood := { row := indexNilRow, standIns := [], harness := (true, "d48c436b72a4af2204a464d34245fd006c41886ffc25fb093a660b1c435bc588"), looks := false }, kinds := [], alts := [], laidByText := true, laidKinds := [.data, .pinned], laidTests := true, laidLooks := .later }
def IndexNilCardSaid : Prop := Claim7.holds Tryd.pinned (.plain (OpenSpec.ofChange indexNilSpec)) indexNilCard

/-- THE SECOND FORM's CARD OF 'newellaw06.OrderOne'. -/
def orderOneUptoCard : Claim7 := { stood := { row := orderOneUptoRow, standIns := [], harness := (true, "d48c436b72a4af2204a464d34245fd006c41886ffc25fb093a660b1c435bc588"), looks := false }, kinds := [], alts := [], laidByText := true, laidKinds := [.data, .pinned], laidTests := true, laidLooks := .later }
def OrderOneUptoCardSaid : Prop := Claim7.holds Tryd.pinned (.plain (OpenSpec.upto orderOneSpec)) orderOneUptoCard

/-- THE SECOND FORM's CARD OF 'newellaw06.OrderNumbers'. -/
def orderNumbersUptoCard : Claim7 := { stood := { row := orderNumbersUptoRow, standIns := [], harness := (true, "d48c436b72a4af2204a464d34245fd006c41886ffc25fb093a660b1c435bc588"), looks := false }, kinds := [], alts := [], laidByText := true, laidKinds := [.data, .pinned], laidTests := true, laidLooks := .later }
def OrderNumbersUptoCardSaid : Prop := Claim7.holds Tryd.pinned (.plain (OpenSpec.upto orderNumbersSpec)) orderNumbersUptoCard

/-- THE SECOND FORM's CARD OF 'newellaw06.OrderRanks'. -/
def orderRanksUptoCard : Claim7 := { stood := { row := orderRanksUptoRow, standIns := [], harness := (true, "d48c436b72a4af2204a464d34245fd006c41886ffc25fb093a660b1c435bc588"), looks := false }, kinds := [], alts := [], laidByText := true, laidKinds := [.data, .pinned], laidTests := true, laidLooks := .later }
def OrderRanksUptoCardSaid : Prop := Claim7.holds Tryd.pinned (.plain (OpenSpec.upto orderRanksSpec)) orderRanksUptoCard

/-- THE SECOND FORM's CARD OF 'newellaw06.OrderBehind'. -/
def orderBehindUptoCard : Claim7 := { stood := { row := orderBehindUptoRow, standIns := [], harness := (true, "d48c436b72a4af2204a464d34245fd006c41886ffc25fb093a660b1c435bc588"), looks := false }, kinds := [], alts := [], laidByText := true, laidKinds := [.data, .pinned], laidTests := true, laidLooks := .later }
def OrderBehindUptoCardSaid : Prop := Claim7.holds Tryd.pinned (.plain (OpenSpec.upto orderBehindSpec)) orderBehindUptoCard

/-- THE SECOND FORM's CARD OF 'newellaw06.OrderMiddle'. -/
def orderMiddleUptoCard : Claim7 := { stood := { row := orderMiddleUptoRow, standIns := [], harness := (true, "d48c436b72a4af2204a464d34245fd006c41886ffc25fb093a660b1c435bc588"), looks := false }, kinds := [], alts := [], laidByText := true, laidKinds := [.data, .pinned], laidTests := true, laidLooks := .later }
def OrderMiddleUptoCardSaid : Prop := Claim7.holds Tryd.pinned (.plain (OpenSpec.upto orderMiddleSpec)) orderMiddleUptoCard

/-- THE SECOND FORM's CARD OF 'newellaw06.OrderTells'. -/
def orderTellsUptoCard : Claim7 := { stood := { row := orderTellsUptoRow, standIns := [], harness := (true, "d48c436b72a4af2204a464d34245fd006c41886ffc25fb093a660b1c435bc588"), looks := false }, kinds := [], alts := [], laidByText := true, laidKinds := [.data, .pinned], laidTests := true, laidLooks := .later }
def OrderTellsUptoCardSaid : Prop := Claim7.holds Tryd.pinned (.plain (OpenSpec.upto orderTellsSpec)) orderTellsUptoCard

/-- THE SECOND FORM's CARD OF 'newellaw06.OrderSorts'. -/
def orderSortsUptoCard : Claim7 := { stood := { row := orderSortsUptoRow, standIns := [], harness := (true, "d48c436b72a4af2204a464d34245fd006c41886ffc25fb093a660b1c435bc588"), looks := false }, kinds := [], alts := [], laidByText := true, laidKinds := [.data, .pinned], laidTests := true, laidLooks := .later }
def OrderSortsUptoCardSaid : Prop := Claim7.holds Tryd.pinned (.plain (OpenSpec.upto orderSortsSpec)) orderSortsUptoCard

/-- THE SECOND FORM's CARD OF 'newellaw13.IndexTurned'. -/
def indexTurnedUptoCard : Claim7 := { stood := { row := indexTurnedUptoRow, standIns := [], harness := (true, "d48c436b72a4af2204a464d34245fd006c41886ffc25fb093a660b1c435bc588"), looks := false }, kinds := [], alts := [], laidByText := true, laidKinds := [.data, .pinned], laidTests := true, laidLooks := .later }
def IndexTurnedUptoCardSaid : Prop := Claim7.holds Tryd.pinned (.plain (OpenSpec.upto indexTurnedSpec)) indexTurnedUptoCard

/-- THE SECOND FORM's CARD OF 'newellaw13.IndexNil'. -/
def indexNilUptoCard : Claim7 := { stood := { row := indexNilUptoRow, standIns := [], harness := (true, "d48c436b72a4af2204a464d34245fd006c41886ffc25fb093a660b1c435bc588"), looks := false }, kinds := [], alts := [], laidByText := true, laidKinds := [.data, .pinned], laidTests := true, laidLooks := .later }
def IndexNilUptoCardSaid : Prop := Claim7.holds Tryd.pinned (.plain (OpenSpec.upto indexNilSpec)) indexNilUptoCard
end Rows
end Go.Proofs.YtblenipidihemaaDoor
