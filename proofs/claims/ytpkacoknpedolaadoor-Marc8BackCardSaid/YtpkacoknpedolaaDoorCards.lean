/-
  DERIVED. GIVEN WITH THE SEED: THE CARDS: each row of YtpkacoknpedolaaDoorRows.lean that lists a variable, with what it lists TIED to the program's text (the seventh form; the later family's looks); each row that meets fmt, with fmt's text TOLD by the authors' own Lean function (tested against real Go, not proved from fmt's source: count such statements apart). THE CARD IS WHAT COUNTS. Prove the row's statement (the work); the ties are given (YtpkacoknpedolaaDoorTie.lean); close each card by the builder's one call (the guide's Derived/Test/ToyasCard.lean, 'card_holds'). Laid BY PROGRAM, IN A SANDBOX (cutbox-door.mjs). By AI agents, Wed Nov 11 2026. No macro, syntax, notation, axiom, sorry.
-/
import Derived.Test.YtpkacoknpedolaaDoorRows
import GoSem.ClaimSeven
namespace Go.Proofs.YtpkacoknpedolaaDoor
namespace Rows

/-- THE TIED CARD OF 'pinakeslaw02.Marc8Plain'. -/
def marc8PlainCard : Claim7 := { stood := { row := marc8PlainRow, standIns := [], harness := (true, "d01203c963d08af469c542589a9c53b05ad9a9fb1a12416fd2a5e916b1c31982"), looks := true }, kinds := [], alts := [], laidByText := true, laidKinds := [.data, .pinned, .pinned], laidTests := true, laidLooks := .later }
def Marc8PlainCardSaid : Prop := Claim7.holds Tryd.pinned (.plain (OpenSpec.ofChange marc8PlainSpec)) marc8PlainCard

/-- THE TIED CARD OF 'pinakeslaw02.Marc8Marks'. -/
def marc8MarksCard : Claim7 := { stood := { row := marc8MarksRow, standIns := [], harness := (true, "d01203c963d08af469c542589a9c53b05ad9a9fb1a12416fd2a5e916b1c31982"), looks := true }, kinds := [], alts := [], laidByText := true, laidKinds := [.data, .pinned, .pinned], laidTests := true, laidLooks := .later }
def Marc8MarksCardSaid : Prop := Claim7.holds Tryd.pinned (.plain (OpenSpec.ofChange marc8MarksSpec)) marc8MarksCard

/-- THE TIED CARD OF 'pinakeslaw02.Marc8Parts'. -/
def marc8PartsCard : Claim7 := { stood := { row := marc8PartsRow, standIns := [], harness := (true, "d01203c963d08af469c542589a9c53b05ad9a9fb1a12416fd2a5e916b1c31982"), looks := true }, kinds := [], alts := [], laidByText := true, laidKinds := [.data, .pinned, .pinned], laidTests := true, laidLooks := .later }
def Marc8PartsCardSaid : Prop := Claim7.holds Tryd.pinned (.plain (OpenSpec.ofChange marc8PartsSpec)) marc8PartsCard

/-- THE TIED CARD OF 'pinakeslaw02.Marc8Back'. -/
def marc8BackCard : Claim7 := { stood := { row := marc8BackRow, standIns := [], harness := (true, "d01203c963d08af469c542589a9c53b05ad9a9fb1a12416fd2a5e916b1c31982"), looks := true }, kinds := [], alts := [], laidByText := true, laidKinds := [.data, .pinned, .pinned], laidTests := true, laidLooks := .later }
def Marc8BackCardSaid : Prop := Claim7.holds Tryd.pinned (.plain (OpenSpec.ofChange marc8BackSpec)) marc8BackCard

/-- THE TIED CARD OF 'pinakeslaw02.Marc8Again'. -/
def marc8AgainCard : Claim7 := { stood := { row := marc8AgainRow, standIns := [], harness := (true, "d01203c963d08af469c542589a9c53b05ad9a9fb1a12416fd2a5e916b1c31982"), looks := true }, kinds := [], alts := [], laidByText := true, laidKinds := [.data, .pinned, .pinned], laidTests := true, laidLooks := .later }
def Marc8AgainCardSaid : Prop := Claim7.holds Tryd.pinned (.plain (OpenSpec.ofChange marc8AgainSpec)) marc8AgainCard

/-- THE SECOND FORM's CARD OF 'pinakeslaw02.Marc8Plain'. -/
def marc8PlainUptoCard : Claim7 := { stood := { row := marc8PlainUptoRow, standIns := [], harness := (true, "d01203c963d08af469c542589a9c53b05ad9a9fb1a12416fd2a5e916b1c31982"), looks := true }, kinds := [], alts := [], laidByText := true, laidKinds := [.data, .pinned, .pinned], laidTests := true, laidLooks := .later }
def Marc8PlainUptoCardSaid : Prop := Claim7.holds Tryd.pinned (.plain (OpenSpec.upto marc8PlainSpec)) marc8PlainUptoCard

/-- THE SECOND FORM's CARD OF 'pinakeslaw02.Marc8Marks'. -/
def marc8MarksUptoCard : Claim7 := { stood := { row := marc8MarksUptoRow, standIns := [], harness := (true, "d01203c963d08af469c542589a9c53b05ad9a9fb1a12416fd2a5e916b1c31982"), looks := true }, kinds := [], alts := [], laidByText := true, laidKinds := [.data, .pinned, .pinned], laidTests := true, laidLooks := .later }
def Marc8MarksUptoCardSaid : Prop := Claim7.holds Tryd.pinned (.plain (OpenSpec.upto marc8MarksSpec)) marc8MarksUptoCard

/-- THE SECOND FORM's CARD OF 'pinakeslaw02.Marc8Parts'. -/
def marc8PartsUptoCard : Claim7 := { stood := { row := marc8PartsUptoRow, standIns := [], harness := (true, "d01203c963d08af469c542589a9c53b05ad9a9fb1a12416fd2a5e916b1c31982"), looks := true }, kinds := [], alts := [], laidByText := true, laidKinds := [.data, .pinned, .pinned], laidTests := true, laidLooks := .later }
def Marc8PartsUptoCardSaid : Prop := Claim7.holds Tryd.pinned (.plain (OpenSpec.upto marc8PartsSpec)) marc8PartsUptoCard

/-- THE SECOND FORM's CARD OF 'pinakeslaw02.Marc8Back'. -/
def marc8BackUptoCard : Claim7 := { stood := { row := marc8BackUptoRow, standIns := [], harness := (true, "d01203c963d08af469c542589a9c53b05ad9a9fb1a12416fd2a5e916b1c31982"), looks := true }, kinds := [], alts := [], laidByText := true, laidKinds := [.data, .pinned, .pinned], laidTests := true, laidLooks := .later }
def Marc8BackUptoCardSaid : Prop := Claim7.holds Tryd.pinned (.plain (OpenSpec.upto marc8BackSpec)) marc8BackUptoCard

/-- THE SECOND FORM's CARD OF 'pinakeslaw02.Marc8Again'. -/
def marc8AgainUptoCard : Claim7 := { stood := { row := marc8AgainUptoRow, standIns := [], harness := (true, "d01203c963d08af469c542589a9c53b05ad9a9fb1a12416fd2a5e916b1c31982"), looks := true }, kinds := [], alts := [], laidByText := true, laidKinds := [.data, .pinned, .pinned], laidTests := true, laidLooks := .later }
def Marc8AgainUptoCardSaid : Prop := Claim7.holds Tryd.pinned (.plain (OpenSpec.upto marc8AgainSpec)) marc8AgainUptoCard
end Rows
end Go.Proofs.YtpkacoknpedolaaDoor
