/-
  DERIVED. GIVEN WITH THE SEED: THE CARDS: each row of YtjcimanddakkaaaGreatDoorRows.lean that lists a variable, with what it lists TIED to the program's text (the seventh form; the later family's looks); each row that meets fmt, with fmt's text TOLD by the authors' own Lean function (tested against real Go, not proved from fmt's source: count such statements apart). THE CARD IS WHAT COUNTS. Prove the row's statement (the work); the ties are given (YtjcimanddakkaaaGreatDoorTie.lean); close each card by the builder's one call (the guide's Derived/Test/ToyasCard.lean, 'card_holds'). Laid BY PROGRAM, IN A SANDBOX (cutbox-door.mjs). By AI agents, Wed Nov 11 2026. No macro, syntax, notation, axiom, sorry.
-/
import Derived.Test.YtjcimanddakkaaaGreatDoorRows
import GoSem.ClaimSeven
namespace Go.Proofs.YtjcimanddakkaaaGreatDoor
namespace Rows

/-- THE TIED CARD OF 'pinakeslaw09.CatalogueApart'. -/
def catalogueApartCard : Claim7 := { stood := { row := catalogueApartRow, standIns := [], harness := (true, "79c05928538cabbade29b1fc2ee3e99d45e7e3cb323b6f1666de74e5679fe5b3"), looks := true }, kinds := [], alts := [], laidByText := true, laidKinds := [.data, .pinned, .pinned], laidTests := true, laidLooks := .later }
def CatalogueApartCardSaid : Prop := Claim7.holds Tryz.pinned (.plain (OpenSpec.ofChange catalogueApartSpec)) catalogueApartCard

/-- THE TIED CARD OF 'pinakeslaw09.CatalogueTitles'. -/
def catalogueTitlesCard : Claim7 := { stood := { row := catalogueTitlesRow, standIns := [], harness := (true, "79c05928538cabbade29b1fc2ee3e99d45e7e3cb323b6f1666de74e5679fe5b3"), looks := true }, kinds := [], alts := [], laidByText := true, laidKinds := [.data, .pinned, .pinned], laidTests := true, laidLooks := .later }
def CatalogueTitlesCardSaid : Prop := Claim7.holds Tryz.pinned (.plain (OpenSpec.ofChange catalogueTitlesSpec)) catalogueTitlesCard

/-- THE TIED CARD OF 'pinakeslaw09.CatalogueParts'. -/
def cataloguePartsCard : Claim7 := { stood := { row := cataloguePartsRow, standIns := [], harness := (true, "79c05928538cabbade29b1fc2ee3e99d45e7e3cb323b6f1666de74e5679fe5b3"), looks := true }, kinds := [], alts := [], laidByText := true, laidKinds := [.data, .pinned, .pinned], laidTests := true, laidLooks := .later }
def CataloguePartsCardSaid : Prop := Claim7.holds Tryz.pinned (.plain (OpenSpec.ofChange cataloguePartsSpec)) cataloguePartsCard

/-- THE TIED CARD OF 'pinakeslaw09.CatalogueDrops'. -/
def catalogueDropsCard : Claim7 := { stood := { row := catalogueDropsRow, standIns := [], harness := (true, "79c05928538cabbade29b1fc2ee3e99d45e7e3cb323b6f1666de74e5679fe5b3"), looks := true }, kinds := [], alts := [], laidByText := true, laidKinds := [.data, .pinned, .pinned], laidTests := true, laidLooks := .later }
def CatalogueDropsCardSaid : Prop := Claim7.holds Tryz.pinned (.plain (OpenSpec.ofChange catalogueDropsSpec)) catalogueDropsCard

/-- THE TIED CARD OF 'pinakeslaw09.CataloguePlays'. -/
def cataloguePlaysCard : Claim7 := { stood := { row := cataloguePlaysRow, standIns := [], harness := (true, "79c05928538cabbade29b1fc2ee3e99d45e7e3cb323b6f1666de74e5679fe5b3"), looks := true }, kinds := [], alts := [], laidByText := true, laidKinds := [.data, .pinned, .pinned], laidTests := true, laidLooks := .later }
def CataloguePlaysCardSaid : Prop := Claim7.holds Tryz.pinned (.plain (OpenSpec.ofChange cataloguePlaysSpec)) cataloguePlaysCard

/-- THE TIED CARD OF 'pinakeslaw09.CatalogueOrder'. -/
def catalogueOrderCard : Claim7 := { stood := { row := catalogueOrderRow, standIns := [], harness := (true, "79c05928538cabbade29b1fc2ee3e99d45e7e3cb323b6f1666de74e5679fe5b3"), looks := true }, kinds := [], alts := [], laidByText := true, laidKinds := [.data, .pinned, .pinned], laidTests := true, laidLooks := .later }
def CatalogueOrderCardSaid : Prop := Claim7.holds Tryz.pinned (.plain (OpenSpec.ofChange catalogueOrderSpec)) catalogueOrderCard

/-- THE TIED CARD OF 'pinakeslaw09.CatalogueOpens'. -/
def catalogueOpensCard : Claim7 := { stood := { row := catalogueOpensRow, standIns := [], harness := (true, "79c05928538cabbade29b1fc2ee3e99d45e7e3cb323b6f1666de74e5679fe5b3"), looks := true }, kinds := [], alts := [], laidByText := true, laidKinds := [.data, .pinned, .pinned], laidTests := true, laidLooks := .later }
def CatalogueOpensCardSaid : Prop := Claim7.holds Tryz.pinned (.plain (OpenSpec.ofChange catalogueOpensSpec)) catalogueOpensCard

/-- THE SECOND FORM's CARD OF 'pinakeslaw09.CatalogueApart'. -/
def catalogueApartUptoCard : Claim7 := { stood := { row := catalogueApartUptoRow, standIns := [], harness := (true, "79c05928538cabbade29b1fc2ee3e99d45e7e3cb323b6f1666de74e5679fe5b3"), looks := true }, kinds := [], alts := [], laidByText := true, laidKinds := [.data, .pinned, .pinned], laidTests := true, laidLooks := .later }
def CatalogueApartUptoCardSaid : Prop := Claim7.holds Tryz.pinned (.plain (OpenSpec.upto catalogueApartSpec)) catalogueApartUptoCard

/-- THE SECOND FORM's CARD OF 'pinakeslaw09.CatalogueTitles'. -/
def catalogueTitlesUptoCard : Claim7 := { stood := { row := catalogueTitlesUptoRow, standIns := [], harness := (true, "79c05928538cabbade29b1fc2ee3e99d45e7e3cb323b6f1666de74e5679fe5b3"), looks := true }, kinds := [], alts := [], laidByText := true, laidKinds := [.data, .pinned, .pinned], laidTests := true, laidLooks := .later }
def CatalogueTitlesUptoCardSaid : Prop := Claim7.holds Tryz.pinned (.plain (OpenSpec.upto catalogueTitlesSpec)) catalogueTitlesUptoCard

/-- THE SECOND FORM's CARD OF 'pinakeslaw09.CatalogueParts'. -/
def cataloguePartsUptoCard : Claim7 := { stood := { row := cataloguePartsUptoRow, standIns := [], harness := (true, "79c05928538cabbade29b1fc2ee3e99d45e7e3cb323b6f1666de74e5679fe5b3"), looks := true }, kinds := [], alts := [], laidByText := true, laidKinds := [.data, .pinned, .pinned], laidTests := true, laidLooks := .later }
def CataloguePartsUptoCardSaid : Prop := Claim7.holds Tryz.pinned (.plain (OpenSpec.upto cataloguePartsSpec)) cataloguePartsUptoCard

/-- THE SECOND FORM's CARD OF 'pinakeslaw09.CatalogueDrops'. -/
def catalogueDropsUptoCard : Claim7 := { stood := { row := catalogueDropsUptoRow, standIns := [], harness := (true, "79c05928538cabbade29b1fc2ee3e99d45e7e3cb323b6f1666de74e5679fe5b3"), looks := true }, kinds := [], alts := [], laidByText := true, laidKinds := [.data, .pinned, .pinned], laidTests := true, laidLooks := .later }
def CatalogueDropsUptoCardSaid : Prop := Claim7.holds Tryz.pinned (.plain (OpenSpec.upto catalogueDropsSpec)) catalogueDropsUptoCard

/-- THE SECOND FORM's CARD OF 'pinakeslaw09.CataloguePlays'. -/
def cataloguePlaysUptoCard : Claim7 := { stood := { row := cataloguePlaysUptoRow, standIns := [], harness := (true, "79c05928538cabbade29b1fc2ee3e99d45e7e3cb323b6f1666de74e5679fe5b3"), looks := true }, kinds := [], alts := [], laidByText := true, laidKinds := [.data, .pinned, .pinned], laidTests := true, laidLooks := .later }
def CataloguePlaysUptoCardSaid : Prop := Claim7.holds Tryz.pinned (.plain (OpenSpec.upto cataloguePlaysSpec)) cataloguePlaysUptoCard

/-- THE SECOND FORM's CARD OF 'pinakeslaw09.CatalogueOrder'. -/
def catalogueOrderUptoCard : Claim7 := { stood := { row := catalogueOrderUptoRow, standIns := [], harness := (true, "79c05928538cabbade29b1fc2ee3e99d45e7e3cb323b6f1666de74e5679fe5b3"), looks := true }, kinds := [], alts := [], laidByText := true, laidKinds := [.data, .pinned, .pinned], laidTests := true, laidLooks := .later }
def CatalogueOrderUptoCardSaid : Prop := Claim7.holds Tryz.pinned (.plain (OpenSpec.upto catalogueOrderSpec)) catalogueOrderUptoCard

/-- THE SECOND FORM's CARD OF 'pinakeslaw09.CatalogueOpens'. -/
def catalogueOpensUptoCard : Claim7 := { stood := { row := catalogueOpensUptoRow, standIns := [], harness := (true, "79c05928538cabbade29b1fc2ee3e99d45e7e3cb323b6f1666de74e5679fe5b3"), looks := true }, kinds := [], alts := [], laidByText := true, laidKinds := [.data, .pinned, .pinned], laidTests := true, laidLooks := .later }
def CatalogueOpensUptoCardSaid : Prop := Claim7.holds Tryz.pinned (.plain (OpenSpec.upto catalogueOpensSpec)) catalogueOpensUptoCard
end Rows
end Go.Proofs.YtjcimanddakkaaaGreatDoor
