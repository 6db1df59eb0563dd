/-
  DERIVED. GIVEN WITH THE SEED: THE CARDS: each row of YtfkleeigdplapaaDoorRows.lean that lists a variable, with what it lists TIED to the program's text (the seventh form; the later family's looks); each row that meets fmt, with fmt's text TOLD by the authors' own Lean function (tested against real Go, not proved from fmt's source: count such statements apart). THE CARD IS WHAT COUNTS. Prove the row's statement (the work); the ties are given (YtfkleeigdplapaaDoorTie.lean); close each card by the builder's one call (the guide's Derived/Test/ToyasCard.lean, 'card_holds'). Laid BY PROGRAM, IN A SANDBOX (cutbox-door.mjs). By AI agents, Wed Nov 11 2026. No macro, syntax, notation, axiom, sorry.
-/
import Derived.Test.YtfkleeigdplapaaDoorRows
import GoSem.ClaimSeven
namespace Go.Proofs.YtfkleeigdplapaaDoor
namespace Rows

/-- THE TIED CARD OF 'pinakeslaw03.MarcBack'. -/
def marcBackCard : Claim7 := { stood := { row := marcBackRow, standIns := [], harness := (true, "38a6393174c0577e058ab2c6ed35bd4257f74d8e602aba7da25502bbeee0f081"), looks := true }, kinds := [], alts := [], laidByText := true, laidKinds := [.data, .pinned], laidTests := true, laidLooks := .later }
def MarcBackCardSaid : Prop := Claim7.holds Tryd.pinned (.plain (OpenSpec.ofChange marcBackSpec)) marcBackCard

/-- THE TIED CARD OF 'pinakeslaw03.MarcParses'. -/
def marcParsesCard : Claim7 := { stood := { row := marcParsesRow, standIns := [], harness := (true, "38a6393174c0577e058ab2c6ed35bd4257f74d8e602aba7da25502bbeee0f081"), looks := true }, kinds := [], alts := [], laidByText := true, laidKinds := [.data, .pinned], laidTests := true, laidLooks := .later }
def MarcParsesCardSaid : Prop := Claim7.holds Tryd.pinned (.plain (OpenSpec.ofChange marcParsesSpec)) marcParsesCard

/-- THE TIED CARD OF 'pinakeslaw03.MarcFields'. -/
def marcFieldsCard : Claim7 := { stood := { row := marcFieldsRow, standIns := [], harness := (true, "38a6393174c0577e058ab2c6ed35bd4257f74d8e602aba7da25502bbeee0f081"), looks := true }, kinds := [], alts := [], laidByText := true, laidKinds := [.data, .pinned], laidTests := true, laidLooks := .later }
def MarcFieldsCardSaid : Prop := Claim7.holds Tryd.pinned (.plain (OpenSpec.ofChange marcFieldsSpec)) marcFieldsCard

/-- THE TIED CARD OF 'pinakeslaw03.MarcLeader'. -/
def marcLeaderCard : Claim7 := { stood := { row := marcLeaderRow, standIns := [], harness := (true, "38a6393174c0577e058ab2c6ed35bd4257f74d8e602aba7da25502bbeee0f081"), looks := true }, kinds := [], alts := [], laidByText := true, laidKinds := [.data, .pinned], laidTests := true, laidLooks := .later }
def MarcLeaderCardSaid : Prop := Claim7.holds Tryd.pinned (.plain (OpenSpec.ofChange marcLeaderSpec)) marcLeaderCard

/-- THE TIED CARD OF 'pinakeslaw03.MarcOrders'. -/
def marcOrdersCard : Claim7 := { stood := { row := marcOrdersRow, standIns := [], harness := (true, "38a6393174c0577e058ab2c6ed35bd4257f74d8e602aba7da25502bbeee0f081"), looks := true }, kinds := [], alts := [], laidByText := true, laidKinds := [.data, .pinned], laidTests := true, laidLooks := .later }
def MarcOrdersCardSaid : Prop := Claim7.holds Tryd.pinned (.plain (OpenSpec.ofChange marcOrdersSpec)) marcOrdersCard

/-- THE TIED CARD OF 'pinakeslaw03.MarcEntries'. -/
def marcEntriesCard : Claim7 := { stood := { row := marcEntriesRow, standIns := [], harness := (true, "38a6393174c0577e058ab2c6ed35bd4257f74d8e602aba7da25502bbeee0f081"), looks := true }, kinds := [], alts := [], laidByText := true, laidKinds := [.data, .pinned], laidTests := true, laidLooks := .later }
def MarcEntriesCardSaid : Prop := Claim7.holds Tryd.pinned (.plain (OpenSpec.ofChange marcEntriesSpec)) marcEntriesCard

/-- THE TIED CARD OF 'pinakeslaw03.MarcWrites'. -/
def marcWritesCard : Claim7 := { stood := { row := marcWritesRow, standIns := [], harness := (true, "38a6393174c0577e058ab2c6ed35bd4257f74d8e602aba7da25502bbeee0f081"), looks := true }, kinds := [], alts := [], laidByText := true, laidKinds := [.data, .pinned], laidTests := true, laidLooks := .later }
def MarcWritesCardSaid : Prop := Claim7.holds Tryd.pinned (.plain (OpenSpec.ofChange marcWritesSpec)) marcWritesCard

/-- THE TIED CARD OF 'pinakeslaw03.MarcTexts'. -/
def marcTextsCard : Claim7 := { stood := { row := marcTextsRow, standIns := [], harness := (true, "38a6393174c0577e058ab2c6ed35bd4257f74d8e602aba7da25502bbeee0f081"), looks := true }, kinds := [], alts := [], laidByText := true, laidKinds := [.data, .pinned], laidTests := true, laidLooks := .later }
def MarcTextsCardSaid : Prop := Claim7.holds Tryd.pinned (.plain (OpenSpec.ofChange marcTextsSpec)) marcTextsCard

/-- THE TIED CARD OF 'pinakeslaw03.MarcLimits'. -/
def marcLimitsCard : Claim7 := { stood := { row := marcLimitsRow, standIns := [], harness := (true, "38a6393174c0577e058ab2c6ed35bd4257f74d8e602aba7da25502bbeee0f081"), looks := true }, kinds := [], alts := [], laidByText := true, laidKinds := [.data, .pinned], laidTests := true, laidLooks := .later }
def MarcLimitsCardSaid : Prop := Claim7.holds Tryd.pinned (.plain (OpenSpec.ofChange marcLimitsSpec)) marcLimitsCard

/-- THE TIED CARD OF 'pinakeslaw03.MarcSplits'. -/
def marcSplitsCard : Claim7 := { stood := { row := marcSplitsRow, standIns := [], harness := (true, "38a6393174c0577e058ab2c6ed35bd4257f74d8e602aba7da25502bbeee0f081"), looks := true }, kinds := [], alts := [], laidByText := true, laidKinds := [.data, .pinned], laidTests := true, laidLooks := .later }
def MarcSplitsCardSaid : Prop := Claim7.holds Tryd.pinned (.plain (OpenSpec.ofChange marcSplitsSpec)) marcSplitsCard

/-- THE SECOND FORM's CARD OF 'pinakeslaw03.MarcBack'. -/
def marcBackUptoCard : Claim7 := { stood := { row := marcBackUptoRow, standIns := [], harness := (true, "38a6393174c0577e058ab2c6ed35bd4257f74d8e602aba7da25502bbeee0f081"), looks := true }, kinds := [], alts := [], laidByText := true, laidKinds := [.data, .pinned], laidTests := true, laidLooks := .later }
def MarcBackUptoCardSaid : Prop := Claim7.holds Tryd.pinned (.plain (OpenSpec.upto marcBackSpec)) marcBackUptoCard

/-- THE SECOND FORM's CARD OF 'pinakeslaw03.MarcParses'. -/
def marcParsesUptoCard : Claim7 := { stood := { row := marcParsesUptoRow, standIns := [], harness := (true, "38a6393174c0577e058ab2c6ed35bd4257f74d8e602aba7da25502bbeee0f081"), looks := true }, kinds := [], alts := [], laidByText := true, laidKinds := [.data, .pinned], laidTests := true, laidLooks := .later }
def MarcParsesUptoCardSaid : Prop := Claim7.holds Tryd.pinned (.plain (OpenSpec.upto marcParsesSpec)) marcParsesUptoCard

/-- THE SECOND FORM's CARD OF 'pinakeslaw03.MarcFields'. -/
def marcFieldsUptoCard : Claim7 := { stood := { row := marcFieldsUptoRow, standIns := [], harness := (true, "38a6393174c0577e058ab2c6ed35bd4257f74d8e602aba7da25502bbeee0f081"), looks := true }, kinds := [], alts := [], laidByText := true, laidKinds := [.data, .pinned], laidTests := true, laidLooks := .later }
def MarcFieldsUptoCardSaid : Prop := Claim7.holds Tryd.pinned (.plain (OpenSpec.upto marcFieldsSpec)) marcFieldsUptoCard

/-- THE SECOND FORM's CARD OF 'pinakeslaw03.MarcLeader'. -/
def marcLeaderUptoCard : Claim7 := { stood := { row := marcLeaderUptoRow, standIns := [], harness := (true, "38a6393174c0577e058ab2c6ed35bd4257f74d8e602aba7da25502bbeee0f081"), looks := true }, kinds := [], alts := [], laidByText := true, laidKinds := [.data, .pinned], laidTests := true, laidLooks := .later }
def MarcLeaderUptoCardSaid : Prop := Claim7.holds Tryd.pinned (.plain (OpenSpec.upto marcLeaderSpec)) marcLeaderUptoCard

/-- THE SECOND FORM's CARD OF 'pinakeslaw03.MarcOrders'. -/
def marcOrdersUptoCard : Claim7 := { stood := { row := marcOrdersUptoRow, standIns := [], harness := (true, "38a6393174c0577e058ab2c6ed35bd4257f74d8e602aba7da25502bbeee0f081"), looks := true }, kinds := [], alts := [], laidByText := true, laidKinds := [.data, .pinned], laidTests := true, laidLooks := .later }
def MarcOrdersUptoCardSaid : Prop := Claim7.holds Tryd.pinned (.plain (OpenSpec.upto marcOrdersSpec)) marcOrdersUptoCard

/-- THE SECOND FORM's CARD OF 'pinakeslaw03.MarcEntries'. -/
def marcEntriesUptoCard : Claim7 := { stood := { row := marcEntriesUptoRow, standIns := [], harness := (true, "38a6393174c0577e058ab2c6ed35bd4257f74d8e602aba7da25502bbeee0f081"), looks := true }, kinds := [], alts := [], laidByText := true, laidKinds := [.data, .pinned], laidTests := true, laidLooks := .later }
def MarcEntriesUptoCardSaid : Prop := Claim7.holds Tryd.pinned (.plain (OpenSpec.upto marcEntriesSpec)) marcEntriesUptoCard

/-- THE SECOND FORM's CARD OF 'pinakeslaw03.MarcWrites'. -/
def marcWritesUptoCard : Claim7 := { stood := { row := marcWritesUptoRow, standIns := [], harness := (true, "38a6393174c0577e058ab2c6ed35bd4257f74d8e602aba7da25502bbeee0f081"), looks := true }, kinds := [], alts := [], laidByText := true, laidKinds := [.data, .pinned], laidTests := true, laidLooks := .later }
def MarcWritesUptoCardSaid : Prop := Claim7.holds Tryd.pinned (.plain (OpenSpec.upto marcWritesSpec)) marcWritesUptoCard

/-- THE SECOND FORM's CARD OF 'pinakeslaw03.MarcTexts'. -/
def marcTextsUptoCard : Claim7 := { stood := { row := marcTextsUptoRow, standIns := [], harness := (true, "38a6393174c0577e058ab2c6ed35bd4257f74d8e602aba7da25502bbeee0f081"), looks := true }, kinds := [], alts := [], laidByText := true, laidKinds := [.data, .pinned], laidTests := true, laidLooks := .later }
def MarcTextsUptoCardSaid : Prop := Claim7.holds Tryd.pinned (.plain (OpenSpec.upto marcTextsSpec)) marcTextsUptoCard

/-- THE SECOND FORM's CARD OF 'pinakeslaw03.MarcLimits'. -/
def marcLimitsUptoCard : Claim7 := { stood := { row := marcLimitsUptoRow, standIns := [], harness := (true, "38a6393174c0577e058ab2c6ed35bd4257f74d8e602aba7da25502bbeee0f081"), looks := true }, kinds := [], alts := [], laidByText := true, laidKinds := [.data, .pinned], laidTests := true, laidLooks := .later }
def MarcLimitsUptoCardSaid : Prop := Claim7.holds Tryd.pinned (.plain (OpenSpec.upto marcLimitsSpec)) marcLimitsUptoCard

/-- THE SECOND FORM's CARD OF 'pinakeslaw03.MarcSplits'. -/
def marcSplitsUptoCard : Claim7 := { stood := { row := marcSplitsUptoRow, standIns := [], harness := (true, "38a6393174c0577e058ab2c6ed35bd4257f74d8e602aba7da25502bbeee0f081"), looks := true }, kinds := [], alts := [], laidByText := true, laidKinds := [.data, .pinned], laidTests := true, laidLooks := .later }
def MarcSplitsUptoCardSaid : Prop := Claim7.holds Tryd.pinned (.plain (OpenSpec.upto marcSplitsSpec)) marcSplitsUptoCard
end Rows
end Go.Proofs.YtfkleeigdplapaaDoor
