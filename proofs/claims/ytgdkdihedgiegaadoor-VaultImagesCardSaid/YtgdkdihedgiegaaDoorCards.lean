/-
  DERIVED. GIVEN WITH THE SEED: THE CARDS: each row of YtgdkdihedgiegaaDoorRows.lean that lists a variable, with what it lists TIED to the program's text (the seventh form; the later family's looks); each row that meets fmt, with fmt's text TOLD by the authors' own Lean function (tested against real Go, not proved from fmt's source: count such statements apart). THE CARD IS WHAT COUNTS. Prove the row's statement (the work); the ties are given (YtgdkdihedgiegaaDoorTie.lean); close each card by the builder's one call (the guide's Derived/Test/ToyasCard.lean, 'card_holds'). Laid BY PROGRAM, IN A SANDBOX (cutbox-door.mjs). By AI agents, Wed Nov 11 2026. No macro, syntax, notation, axiom, sorry.
-/
import Derived.Test.YtgdkdihedgiegaaDoorRows
import GoSem.ClaimSeven
namespace Go.Proofs.YtgdkdihedgiegaaDoor
namespace Rows

/-- THE TIED CARD OF 'pinakeslaw28.VaultPlays'. -/
def vaultPlaysCard : Claim7 := { stood := { row := vaultPlaysRow, standIns := [], harness := (true, "922c256793ea26f384e1f20510f637cfe7f3cf551683c739f1c9351ba3e0a4cc"), looks := false }, kinds := [], alts := [], laidByText := true, laidKinds := [.data, .pinned], laidTests := true, laidLooks := .later }
def VaultPlaysCardSaid : Prop := Claim7.holds Tryd.pinned (.plain (OpenSpec.ofChange vaultPlaysSpec)) vaultPlaysCard

/-- THE TIED CARD OF 'pinakeslaw28.VaultNil'. -/
def vaultNilCard : Claim7 := { stood := { row := vaultNilRow, standIns := [], harness := (true, "922c256793ea26f384e1f20510f637cfe7f3cf551683c739f1c9351ba3e0a4cc"), looks := false }, kinds := [], alts := [], laidByText := true, laidKinds := [.data, .pinned], laidTests := true, laidLooks := .later }
def VaultNilCardSaid : Prop := Claim7.holds Tryd.pinned (.plain (OpenSpec.ofChange vaultNilSpec)) vaultNilCard

/-- THE TIED CARD OF 'pinakeslaw28.VaultPower'. -/
def vaultPowerCard : Claim7 := { stood := { row := vaultPowerRow, standIns := [], harness := (true, "922c256793ea26f384e1f20510f637cfe7f3cf551683c739f1c9351ba3e0a4cc"), looks := false }, kinds := [], alts := [], laidByText := true, laidKinds := [.data, .pinned], laidTests := true, laidLooks := .later }
def VaultPowerCardSaid : Prop := Claim7.holds Tryd.pinned (.plain (OpenSpec.ofChange vaultPowerSpec)) vaultPowerCard

/-- THE TIED CARD OF 'pinakeslaw28.VaultOpens'. -/
def vaultOpensCard : Claim7 := { stood := { row := vaultOpensRow, standIns := [], harness := (true, "922c256793ea26f384e1f20510f637cfe7f3cf551683c739f1c9351ba3e0a4cc"), looks := false }, kinds := [], alts := [], laidByText := true, laidKinds := [.data, .pinned], laidTests := true, laidLooks := .later }
def VaultOpensCardSaid : Prop := Claim7.holds Tryd.pinned (.plain (OpenSpec.ofChange vaultOpensSpec)) vaultOpensCard

/-- THE TIED CARD OF 'pinakeslaw28.VaultImages'. -/
def vaultImagesCard : Claim7 := { stood := { row := vaultImagesRow, standIns := [], harness := (true, "922c256793ea26f384e1f20510f637cfe7f3cf551683c739f1c9351ba3e0a4cc"), looks := false }, kinds := [], alts := [], laidByText := true, laidKinds := [.data, .pinned], laidTests := true, laidLooks := .later }
def VaultImagesCardSaid : Prop := Claim7.holds Tryd.pinned (.plain (OpenSpec.ofChange vaultImagesSpec)) vaultImagesCard

/-- THE TIED CARD OF 'pinakeslaw28.VaultMany'. -/
def vaultManyCard : Claim7 := { stood := { row := vaultManyRow, standIns := [], harness := (true, "922c256793ea26f384e1f20510f637cfe7f3cf551683c739f1c9351ba3e0a4cc"), looks := false }, kinds := [], alts := [], laidByText := true, laidKinds := [.data, .pinned], laidTests := true, laidLooks := .later }
def VaultManyCardSaid : Prop := Claim7.holds Tryd.pinned (.plain (OpenSpec.ofChange vaultManySpec)) vaultManyCard

/-- THE TIED CARD OF 'pinakeslaw28.VaultWipes'. -/
def vaultWipesCard : Claim7 := { stood := { row := vaultWipesRow, standIns := [], harness := (true, "922c256793ea26f384e1f20510f637cfe7f3cf551683c739f1c9351ba3e0a4cc"), looks := false }, kinds := [], alts := [], laidByText := true, laidKinds := [.data, .pinned], laidTests := true, laidLooks := .later }
def VaultWipesCardSaid : Prop := Claim7.holds Tryd.pinned (.plain (OpenSpec.ofChange vaultWipesSpec)) vaultWipesCard

/-- THE TIED CARD OF 'pinakeslaw28.VaultForgets'. -/
def vaultForgetsCard : Claim7 := { stood := { row := vaultForgetsRow, standIns := [], harness := (true, "922c256793ea26f384e1f20510f637cfe7f3cf551683c739f1c9351ba3e0a4cc"), looks := false }, kinds := [], alts := [], laidByText := true, laidKinds := [.data, .pinned], laidTests := true, laidLooks := .later }
def VaultForgetsCardSaid : Prop := Claim7.holds Tryd.pinned (.plain (OpenSpec.ofChange vaultForgetsSpec)) vaultForgetsCard

/-- THE SECOND FORM's CARD OF 'pinakeslaw28.VaultPlays'. -/
def vaultPlaysUptoCard : Claim7 := { stood := { row := vaultPlaysUptoRow, standIns := [], harness := (true, "922c256793ea26f384e1f20510f637cfe7f3cf551683c739f1c9351ba3e0a4cc"), looks := false }, kinds := [], alts := [], laidByText := true, laidKinds := [.data, .pinned], laidTests := true, laidLooks := .later }
def VaultPlaysUptoCardSaid : Prop := Claim7.holds Tryd.pinned (.plain (OpenSpec.upto vaultPlaysSpec)) vaultPlaysUptoCard

/-- THE SECOND FORM's CARD OF 'pinakeslaw28.VaultNil'. -/
def vaultNilUptoCard : Claim7 := { stood := { row := vaultNilUptoRow, standIns := [], harness := (true, "922c256793ea26f384e1f20510f637cfe7f3cf551683c739f1c9351ba3e0a4cc"), looks := false }, kinds := [], alts := [], laidByText := true, laidKinds := [.data, .pinned], laidTests := true, laidLooks := .later }
def VaultNilUptoCardSaid : Prop := Claim7.holds Tryd.pinned (.plain (OpenSpec.upto vaultNilSpec)) vaultNilUptoCard

/-- THE SECOND FORM's CARD OF 'pinakeslaw28.VaultPower'. -/
def vaultPowerUptoCard : Claim7 := { stood := { row := vaultPowerUptoRow, standIns := [], harness := (true, "922c256793ea26f384e1f20510f637cfe7f3cf551683c739f1c9351ba3e0a4cc"), looks := false }, kinds := [], alts := [], laidByText := true, laidKinds := [.data, .pinned], laidTests := true, laidLooks := .later }
def VaultPowerUptoCardSaid : Prop := Claim7.holds Tryd.pinned (.plain (OpenSpec.upto vaultPowerSpec)) vaultPowerUptoCard

/-- THE SECOND FORM's CARD OF 'pinakeslaw28.VaultOpens'. -/
def vaultOpensUptoCard : Claim7 := { stood := { row := vaultOpensUptoRow, standIns := [], harness := (true, "922c256793ea26f384e1f20510f637cfe7f3cf551683c739f1c9351ba3e0a4cc"), looks := false }, kinds := [], alts := [], laidByText := true, laidKinds := [.data, .pinned], laidTests := true, laidLooks := .later }
def VaultOpensUptoCardSaid : Prop := Claim7.holds Tryd.pinned (.plain (OpenSpec.upto vaultOpensSpec)) vaultOpensUptoCard

/-- THE SECOND FORM's CARD OF 'pinakeslaw28.VaultImages'. -/
def vaultImagesUptoCard : Claim7 := { stood := { row := vaultImagesUptoRow, standIns := [], harness := (true, "922c256793ea26f384e1f20510f637cfe7f3cf551683c739f1c9351ba3e0a4cc"), looks := false }, kinds := [], alts := [], laidByText := true, laidKinds := [.data, .pinned], laidTests := true, laidLooks := .later }
def VaultImagesUptoCardSaid : Prop := Claim7.holds Tryd.pinned (.plain (OpenSpec.upto vaultImagesSpec)) vaultImagesUptoCard

/-- THE SECOND FORM's CARD OF 'pinakeslaw28.VaultMany'. -/
def vaultManyUptoCard : Claim7 := { stood := { row := vaultManyUptoRow, standIns := [], harness := (true, "922c256793ea26f384e1f20510f637cfe7f3cf551683c739f1c9351ba3e0a4cc"), looks := false }, kinds := [], alts := [], laidByText := true, laidKinds := [.data, .pinned], laidTests := true, laidLooks := .later }
def VaultManyUptoCardSaid : Prop := Claim7.holds Tryd.pinned (.plain (OpenSpec.upto vaultManySpec)) vaultManyUptoCard

/-- THE SECOND FORM's CARD OF 'pinakeslaw28.VaultWipes'. -/
def vaultWipesUptoCard : Claim7 := { stood := { row := vaultWipesUptoRow, standIns := [], harness := (true, "922c256793ea26f384e1f20510f637cfe7f3cf551683c739f1c9351ba3e0a4cc"), looks := false }, kinds := [], alts := [], laidByText := true, laidKinds := [.data, .pinned], laidTests := true, laidLooks := .later }
def VaultWipesUptoCardSaid : Prop := Claim7.holds Tryd.pinned (.plain (OpenSpec.upto vaultWipesSpec)) vaultWipesUptoCard

/-- THE SECOND FORM's CARD OF 'pinakeslaw28.VaultForgets'. -/
def vaultForgetsUptoCard : Claim7 := { stood := { row := vaultForgetsUptoRow, standIns := [], harness := (true, "922c256793ea26f384e1f20510f637cfe7f3cf551683c739f1c9351ba3e0a4cc"), looks := false }, kinds := [], alts := [], laidByText := true, laidKinds := [.data, .pinned], laidTests := true, laidLooks := .later }
def VaultForgetsUptoCardSaid : Prop := Claim7.holds Tryd.pinned (.plain (OpenSpec.upto vaultForgetsSpec)) vaultForgetsUptoCard
end Rows
end Go.Proofs.YtgdkdihedgiegaaDoor
