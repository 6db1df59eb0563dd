/-
  NARROWER THAN 'FOR EVERY INPUT', by the rows' own cells (each row's printed sentence says how): VaultPlays: laid · VaultNil: laid · VaultPower: laid · VaultOpens: laid · VaultImages: laid · VaultMany: laid · VaultWipes: laid · VaultForgets: laid.
  DERIVED. THE GIVEN ROWS OF THIS SEAT. 8 by the template 'for every input the law returns true; each argument reads behind the call as it read before'; 0 by the template 'total and deterministic' (their statements: YtgdkdihedgiegaaDoorTotals.lean).
  GIVEN WITH THE SEED: the statements are not yours to turn. If you find one false, say at which input.
  Laid BY PROGRAM, IN A SANDBOX (cutbox-rows.mjs): the forced cells as the released guide's own fill.sh prints them over the translation f69f060bcaa902c9… (all of the seat's roots in one cut). By AI agents, Wed Nov 11 2026. No macro, syntax, notation, axiom, sorry.
-/
import Derived.Test.YtgdkdihedgiegaaDoorChecked
import GoSem.PinnedTables
import GoSem.Claim
import GoSem.ClaimJoined
import GoSem.ClaimMapViews
import Derived.JoinedTies
import Derived.KernelRfl
namespace Go.Proofs.YtgdkdihedgiegaaDoor
/- THE CELL 'sum', in the pinned program and in every row, IS THE sha256 OF THE DUMP (.gsa) THAT YtgdkdihedgiegaaDoorProg.lean LOADS. Nothing in Lean hashes anything: it is a label: what it is worth is what the hold of that sum in a sandbox is worth. -/
noncomputable def Tryd.pinned : Pinned := { name := "ytgdkdihedgiegaadoor", sum := "f69f060bcaa902c9d4a15df31e646a9677f520561a86ecdcd01b151423529bb2", checked := Tryd.checked }
namespace Rows
def none {H : Type} : Left H := { results := [], args := [] }

/- WHAT THE LISTED PACKAGE-LEVEL VARIABLES READ AS WHEN THE CALL BEGINS. Each datum BY PROGRAM (the guide's laid-datum.mjs) off the statement by which the dump's own 'gosem.cut.vars' lays the variable. In a bare row this is a premise. The card (YtgdkdihedgiegaaDoorCards.lean) ties it to the program's text. -/
def laid_unicode_utf8_acceptRanges {H : Type} : DataW H := .agg [.agg [.lit (.int .u8 128), .lit (.int .u8 191)], .agg [.lit (.int .u8 160), .lit (.int .u8 191)], .agg [.lit (.int .u8 128), .lit (.int .u8 159)], .agg [.lit (.int .u8 144), .lit (.int .u8 191)], .agg [.lit (.int .u8 128), .lit (.int .u8 143)], .agg [.lit (.int .u8 0), .lit (.int .u8 0)], .agg [.lit (.int .u8 0), .lit (.int .u8 0)], .agg [.lit (.int .u8 0), .lit (.int .u8 0)], .agg [.lit (.int .u8 0), .lit (.int .u8 0)], .agg [.lit (.int .u8 0), .lit (.int .u8 0)], .agg [.lit (.int .u8 0), .lit (.int .u8 0)], .agg [.lit (.int .u8 0), .lit (.int .u8 0)], .agg [.lit (.int .u8 0), .lit (.int .u8 0)], .agg [.lit (.int .u8 0), .lit (.int .u8 0)], .agg [.lit (.int .u8 0), .lit (.int .u8 0)], .agg [.lit (.int .u8 0), .lit (.int .u8 0)]]
/-- One of Go's own tables, pinned by name: the form's constant. -/
def laid_unicode_utf8_first : DataW Unit := Go.Pinned.utf8First

/-- 'pinakeslaw28.VaultPlays': WHATEVER THE INPUT: true; the input reads as it did. -/
def vaultPlaysSpec : ChangeSpec := { name := "vaultPlays", fn := fun _ => fun
  | [d] => { results := [.lit (.bool true)], args := [d] }
  | _ => none }
def vaultPlaysRow : OpenClaim := { program := "ytgdkdihedgiegaadoor", sum := "f69f060bcaa902c9d4a15df31e646a9677f520561a86ecdcd01b151423529bb2", func := "pinakes/pinakeslaw28.VaultPlays", spec := "vaultPlays", inPlace := ["internal/bytealg.IndexByteString", "internal/bytealg.IndexString", "internal/abi.NoEscape"], unfollowed := true, recurses := true, named := ["unicode/utf8.first", "unicode/utf8.acceptRanges", "internal/bytealg.MaxLen"], apart := false, laid := [("unicode/utf8.acceptRanges", laid_unicode_utf8_acceptRanges), ("unicode/utf8.first", laid_unicode_utf8_first)] }
def VaultPlaysSaid : Prop := vaultPlaysRow.holds Tryd.pinned (OpenSpec.ofChange vaultPlaysSpec)

/-- ITS FALSE NEIGHBOUR: 'it returns false'. Refute it at one input. -/
def vaultPlaysWrong : ChangeSpec := { name := "vaultPlays", fn := fun _ => fun
  | [d] => { results := [.lit (.bool false)], args := [d] }
  | _ => none }
def VaultPlaysWrongFalsely : Prop := vaultPlaysRow.holds Tryd.pinned (OpenSpec.ofChange vaultPlaysWrong)

/-- 'pinakeslaw28.VaultNil': WHATEVER THE INPUT: true; the input reads as it did. -/
def vaultNilSpec : ChangeSpec := { name := "vaultNil", fn := fun _ => fun
  | [d] => { results := [.lit (.bool true)], args := [d] }
  | _ => none }
def vaultNilRow : OpenClaim := { program := "ytgdkdihedgiegaadoor", sum := "f69f060bcaa902c9d4a15df31e646a9677f520561a86ecdcd01b151423529bb2", func := "pinakes/pinakeslaw28.VaultNil", spec := "vaultNil", inPlace := ["internal/bytealg.IndexByteString", "internal/bytealg.IndexString", "internal/abi.NoEscape"], unfollowed := true, recurses := true, named := ["unicode/utf8.first", "unicode/utf8.acceptRanges", "internal/bytealg.MaxLen"], apart := false, laid := [("unicode/utf8.acceptRanges", laid_unicode_utf8_acceptRanges), ("unicode/utf8.first", laid_unicode_utf8_first)] }
def VaultNilSaid : Prop := vaultNilRow.holds Tryd.pinned (OpenSpec.ofChange vaultNilSpec)

/-- ITS FALSE NEIGHBOUR: 'it returns false'. Refute it at one input. -/
def vaultNilWrong : ChangeSpec := { name := "vaultNil", fn := fun _ => fun
  | [d] => { results := [.lit (.bool false)], args := [d] }
  | _ => none }
def VaultNilWrongFalsely : Prop := vaultNilRow.holds Tryd.pinned (OpenSpec.ofChange vaultNilWrong)

/-- 'pinakeslaw28.VaultPower': WHATEVER THE INPUT: true; the input reads as it did. -/
def vaultPowerSpec : ChangeSpec := { name := "vaultPower", fn := fun _ => fun
  | [d1, d2] => { results := [.lit (.bool true)], args := [d1, d2] }
  | _ => none }
def vaultPowerRow : OpenClaim := { program := "ytgdkdihedgiegaadoor", sum := "f69f060bcaa902c9d4a15df31e646a9677f520561a86ecdcd01b151423529bb2", func := "pinakes/pinakeslaw28.VaultPower", spec := "vaultPower", inPlace := ["internal/bytealg.IndexByteString", "internal/bytealg.IndexString", "internal/abi.NoEscape"], unfollowed := true, recurses := true, named := ["unicode/utf8.first", "unicode/utf8.acceptRanges", "internal/bytealg.MaxLen"], apart := false, laid := [("unicode/utf8.acceptRanges", laid_unicode_utf8_acceptRanges), ("unicode/utf8.first", laid_unicode_utf8_first)] }
def VaultPowerSaid : Prop := vaultPowerRow.holds Tryd.pinned (OpenSpec.ofChange vaultPowerSpec)

/-- ITS FALSE NEIGHBOUR: 'it returns false'. Refute it at one input. -/
def vaultPowerWrong : ChangeSpec := { name := "vaultPower", fn := fun _ => fun
  | [d1, d2] => { results := [.lit (.bool false)], args := [d1, d2] }
  | _ => none }
def VaultPowerWrongFalsely : Prop := vaultPowerRow.holds Tryd.pinned (OpenSpec.ofChange vaultPowerWrong)

/-- 'pinakeslaw28.VaultOpens': WHATEVER THE INPUT: true; the input reads as it did. -/
def vaultOpensSpec : ChangeSpec := { name := "vaultOpens", fn := fun _ => fun
  | [d] => { results := [.lit (.bool true)], args := [d] }
  | _ => none }
def vaultOpensRow : OpenClaim := { program := "ytgdkdihedgiegaadoor", sum := "f69f060bcaa902c9d4a15df31e646a9677f520561a86ecdcd01b151423529bb2", func := "pinakes/pinakeslaw28.VaultOpens", spec := "vaultOpens", inPlace := ["internal/bytealg.IndexByteString", "internal/bytealg.IndexString", "internal/abi.NoEscape"], unfollowed := true, recurses := true, named := ["unicode/utf8.first", "unicode/utf8.acceptRanges", "internal/bytealg.MaxLen"], apart := false, laid := [("unicode/utf8.acceptRanges", laid_unicode_utf8_acceptRanges), ("unicode/utf8.first", laid_unicode_utf8_first)] }
def VaultOpensSaid : Prop := vaultOpensRow.holds Tryd.pinned (OpenSpec.ofChange vaultOpensSpec)

/-- ITS FALSE NEIGHBOUR: 'it returns false'. Refute it at one input. -/
def vaultOpensWrong : ChangeSpec := { name := "vaultOpens", fn := fun _ => fun
  | [d] => { results := [.lit (.bool false)], args := [d] }
  | _ => none }
def VaultOpensWrongFalsely : Prop := vaultOpensRow.holds Tryd.pinned (OpenSpec.ofChange vaultOpensWrong)

/-- 'pinakeslaw28.VaultImages': WHATEVER THE INPUT: true; the input reads as it did. -/
def vaultImagesSpec : ChangeSpec := { name := "vaultImages", fn := fun _ => fun
  | [d1, d2, d3] => { results := [.lit (.bool true)], args := [d1, d2, d3] }
  | _ => none }
def vaultImagesRow : OpenClaim := { program := "ytgdkdihedgiegaadoor", sum := "f69f060bcaa902c9d4a15df31e646a9677f520561a86ecdcd01b151423529bb2", func := "pinakes/pinakeslaw28.VaultImages", spec := "vaultImages", inPlace := ["internal/bytealg.IndexByteString", "internal/bytealg.IndexString", "internal/abi.NoEscape"], unfollowed := true, recurses := true, named := ["unicode/utf8.first", "unicode/utf8.acceptRanges", "internal/bytealg.MaxLen"], apart := false, laid := [("unicode/utf8.acceptRanges", laid_unicode_utf8_acceptRanges), ("unicode/utf8.first", laid_unicode_utf8_first)] }
def VaultImagesSaid : Prop := vaultImagesRow.holds Tryd.pinned (OpenSpec.ofChange vaultImagesSpec)

/-- ITS FALSE NEIGHBOUR: 'it returns false'. Refute it at one input. -/
def vaultImagesWrong : ChangeSpec := { name := "vaultImages", fn := fun _ => fun
  | [d1, d2, d3] => { results := [.lit (.bool false)], args := [d1, d2, d3] }
  | _ => none }
def VaultImagesWrongFalsely : Prop := vaultImagesRow.holds Tryd.pinned (OpenSpec.ofChange vaultImagesWrong)

/-- 'pinakeslaw28.VaultMany': WHATEVER THE INPUT: true; the input reads as it did. -/
def vaultManySpec : ChangeSpec := { name := "vaultMany", fn := fun _ => fun
  | [d1, d2, d3] => { results := [.lit (.bool true)], args := [d1, d2, d3] }
  | _ => none }
def vaultManyRow : OpenClaim := { program := "ytgdkdihedgiegaadoor", sum := "f69f060bcaa902c9d4a15df31e646a9677f520561a86ecdcd01b151423529bb2", func := "pinakes/pinakeslaw28.VaultMany", spec := "vaultMany", inPlace := ["internal/bytealg.IndexByteString", "internal/bytealg.IndexString", "internal/abi.NoEscape"], unfollowed := true, recurses := true, named := ["unicode/utf8.first", "unicode/utf8.acceptRanges", "internal/bytealg.MaxLen"], apart := false, laid := [("unicode/utf8.acceptRanges", laid_unicode_utf8_acceptRanges), ("unicode/utf8.first", laid_unicode_utf8_first)] }
def VaultManySaid : Prop := vaultManyRow.holds Tryd.pinned (OpenSpec.ofChange vaultManySpec)

/-- ITS FALSE NEIGHBOUR: 'it returns false'. Refute it at one input. -/
def vaultManyWrong : ChangeSpec := { name := "vaultMany", fn := fun _ => fun
  | [d1, d2, d3] => { results := [.lit (.bool false)], args := [d1, d2, d3] }
  | _ => none }
def VaultManyWrongFalsely : Prop := vaultManyRow.holds Tryd.pinned (OpenSpec.ofChange vaultManyWrong)

/-- 'pinakeslaw28.VaultWipes': WHATEVER THE INPUT: true; the input reads as it did. -/
def vaultWipesSpec : ChangeSpec := { name := "vaultWipes", fn := fun _ => fun
  | [d1, d2, d3] => { results := [.lit (.bool true)], args := [d1, d2, d3] }
  | _ => none }
def vaultWipesRow : OpenClaim := { program := "ytgdkdihedgiegaadoor", sum := "f69f060bcaa902c9d4a15df31e646a9677f520561a86ecdcd01b151423529bb2", func := "pinakes/pinakeslaw28.VaultWipes", spec := "vaultWipes", inPlace := ["internal/bytealg.IndexByteString", "internal/bytealg.IndexString", "internal/abi.NoEscape"], unfollowed := true, recurses := true, named := ["unicode/utf8.first", "unicode/utf8.acceptRanges", "internal/bytealg.MaxLen"], apart := false, laid := [("unicode/utf8.acceptRanges", laid_unicode_utf8_acceptRanges), ("unicode/utf8.first", laid_unicode_utf8_first)] }
def VaultWipesSaid : Prop := vaultWipesRow.holds Tryd.pinned (OpenSpec.ofChange vaultWipesSpec)

/-- ITS FALSE NEIGHBOUR: 'it returns false'. Refute it at one input. -/
def vaultWipesWrong : ChangeSpec := { name := "vaultWipes", fn := fun _ => fun
  | [d1, d2, d3] => { results := [.lit (.bool false)], args := [d1, d2, d3] }
  | _ => none }
def VaultWipesWrongFalsely : Prop := vaultWipesRow.holds Tryd.pinned (OpenSpec.ofChange vaultWipesWrong)

/-- 'pinakeslaw28.VaultForgets': WHATEVER THE INPUT: true; the input reads as it did. -/
def vaultForgetsSpec : ChangeSpec := { name := "vaultForgets", fn := fun _ => fun
  | [d1, d2, d3] => { results := [.lit (.bool true)], args := [d1, d2, d3] }
  | _ => none }
def vaultForgetsRow : OpenClaim := { program := "ytgdkdihedgiegaadoor", sum := "f69f060bcaa902c9d4a15df31e646a9677f520561a86ecdcd01b151423529bb2", func := "pinakes/pinakeslaw28.VaultForgets", spec := "vaultForgets", inPlace := ["internal/bytealg.IndexByteString", "internal/bytealg.IndexString", "internal/abi.NoEscape", "internal/bytealg.MakeNoZero"], unfollowed := true, recurses := true, named := ["unicode/utf8.first", "unicode/utf8.acceptRanges", "internal/bytealg.MaxLen"], apart := false, laid := [("unicode/utf8.acceptRanges", laid_unicode_utf8_acceptRanges), ("unicode/utf8.first", laid_unicode_utf8_first)] }
def VaultForgetsSaid : Prop := vaultForgetsRow.holds Tryd.pinned (OpenSpec.ofChange vaultForgetsSpec)

/-- ITS FALSE NEIGHBOUR: 'it returns false'. Refute it at one input. -/
def vaultForgetsWrong : ChangeSpec := { name := "vaultForgets", fn := fun _ => fun
  | [d1, d2, d3] => { results := [.lit (.bool false)], args := [d1, d2, d3] }
  | _ => none }
def VaultForgetsWrongFalsely : Prop := vaultForgetsRow.holds Tryd.pinned (OpenSpec.ofChange vaultForgetsWrong)

/- THE SECOND FORM. 'bulk': how many values and letters a reading holds, each counted each time it is reached (what is shared counts as often as it is met; a slice's spare places count too). A statement '..UptoSaid' is the law's where the arguments, and the package variables that the reading takes, are together of bulk at most 1048576: NARROWER than '..Said'. Prove '..Said' where nothing that the law and all that it calls make is longer than what came in: it says more and counts as full. Else prove '..UptoSaid'. A law counts once. -/
mutual
def uptoBulk {H : Type} : DataW H → Nat
  | .lit (.string bytes) => bytes.length + 1
  | .lit _ => 1
  | .nil => 1
  | .ptr d => uptoBulk d + 1
  | .slice elems spare => uptoBulkAll elems + uptoBulkAll spare + 1
  | .agg parts => uptoBulkAll parts + 1
  | .iface _ d => uptoBulk d + 1
  | .map entries => uptoBulkEntries entries + 1
  | .held _ => 1
def uptoBulkAll {H : Type} : List (DataW H) → Nat
  | [] => 0
  | d :: r => uptoBulk d + uptoBulkAll r
def uptoBulkEntries {H : Type} : List (Lit × DataW H) → Nat
  | [] => 0
  | x :: r => uptoBulkEntry x + uptoBulkEntries r
def uptoBulkEntry {H : Type} : Lit × DataW H → Nat
  | (.string bytes, d) => bytes.length + uptoBulk d + 1
  | (_, d) => uptoBulk d + 1
 end
def uptoSmall : (H : Type) → List (DataW H) → Bool := fun _ ds => decide (uptoBulkAll ds ≤ 1048576)
def OpenSpec.upto (s : _root_.Go.ChangeSpec) : _root_.Go.OpenSpec := { _root_.Go.OpenSpec.ofChange s with cond := some uptoSmall }

/-- 'pinakeslaw28.VaultPlays', WHERE WHAT IT READS IS OF BULK AT MOST 1048576: true; the input reads as it did. -/
def vaultPlaysUptoRow : OpenClaim := { program := "ytgdkdihedgiegaadoor", sum := "f69f060bcaa902c9d4a15df31e646a9677f520561a86ecdcd01b151423529bb2", func := "pinakes/pinakeslaw28.VaultPlays", spec := "vaultPlays", inPlace := ["internal/bytealg.IndexByteString", "internal/bytealg.IndexString", "internal/abi.NoEscape"], unfollowed := true, recurses := true, named := ["unicode/utf8.first", "unicode/utf8.acceptRanges", "internal/bytealg.MaxLen"], apart := false, laid := [("unicode/utf8.acceptRanges", laid_unicode_utf8_acceptRanges), ("unicode/utf8.first", laid_unicode_utf8_first)], narrowed := true }
def VaultPlaysUptoSaid : Prop := vaultPlaysUptoRow.holds Tryd.pinned (OpenSpec.upto vaultPlaysSpec)

/-- 'pinakeslaw28.VaultNil', WHERE WHAT IT READS IS OF BULK AT MOST 1048576: true; the input reads as it did. -/
def vaultNilUptoRow : OpenClaim := { program := "ytgdkdihedgiegaadoor", sum := "f69f060bcaa902c9d4a15df31e646a9677f520561a86ecdcd01b151423529bb2", func := "pinakes/pinakeslaw28.VaultNil", spec := "vaultNil", inPlace := ["internal/bytealg.IndexByteString", "internal/bytealg.IndexString", "internal/abi.NoEscape"], unfollowed := true, recurses := true, named := ["unicode/utf8.first", "unicode/utf8.acceptRanges", "internal/bytealg.MaxLen"], apart := false, laid := [("unicode/utf8.acceptRanges", laid_unicode_utf8_acceptRanges), ("unicode/utf8.first", laid_unicode_utf8_first)], narrowed := true }
def VaultNilUptoSaid : Prop := vaultNilUptoRow.holds Tryd.pinned (OpenSpec.upto vaultNilSpec)

/-- 'pinakeslaw28.VaultPower', WHERE WHAT IT READS IS OF BULK AT MOST 1048576: true; the input reads as it did. -/
def vaultPowerUptoRow : OpenClaim := { program := "ytgdkdihedgiegaadoor", sum := "f69f060bcaa902c9d4a15df31e646a9677f520561a86ecdcd01b151423529bb2", func := "pinakes/pinakeslaw28.VaultPower", spec := "vaultPower", inPlace := ["internal/bytealg.IndexByteString", "internal/bytealg.IndexString", "internal/abi.NoEscape"], unfollowed := true, recurses := true, named := ["unicode/utf8.first", "unicode/utf8.acceptRanges", "internal/bytealg.MaxLen"], apart := false, laid := [("unicode/utf8.acceptRanges", laid_unicode_utf8_acceptRanges), ("unicode/utf8.first", laid_unicode_utf8_first)], narrowed := true }
def VaultPowerUptoSaid : Prop := vaultPowerUptoRow.holds Tryd.pinned (OpenSpec.upto vaultPowerSpec)

/-- 'pinakeslaw28.VaultOpens', WHERE WHAT IT READS IS OF BULK AT MOST 1048576: true; the input reads as it did. -/
def vaultOpensUptoRow : OpenClaim := { program := "ytgdkdihedgiegaadoor", sum := "f69f060bcaa902c9d4a15df31e646a9677f520561a86ecdcd01b151423529bb2", func := "pinakes/pinakeslaw28.VaultOpens", spec := "vaultOpens", inPlace := ["internal/bytealg.IndexByteString", "internal/bytealg.IndexString", "internal/abi.NoEscape"], unfollowed := true, recurses := true, named := ["unicode/utf8.first", "unicode/utf8.acceptRanges", "internal/bytealg.MaxLen"], apart := false, laid := [("unicode/utf8.acceptRanges", laid_unicode_utf8_acceptRanges), ("unicode/utf8.first", laid_unicode_utf8_first)], narrowed := true }
def VaultOpensUptoSaid : Prop := vaultOpensUptoRow.holds Tryd.pinned (OpenSpec.upto vaultOpensSpec)

/-- 'pinakeslaw28.VaultImages', WHERE WHAT IT READS IS OF BULK AT MOST 1048576: true; the input reads as it did. -/
def vaultImagesUptoRow : OpenClaim := { program := "ytgdkdihedgiegaadoor", sum := "f69f060bcaa902c9d4a15df31e646a9677f520561a86ecdcd01b151423529bb2", func := "pinakes/pinakeslaw28.VaultImages", spec := "vaultImages", inPlace := ["internal/bytealg.IndexByteString", "internal/bytealg.IndexString", "internal/abi.NoEscape"], unfollowed := true, recurses := true, named := ["unicode/utf8.first", "unicode/utf8.acceptRanges", "internal/bytealg.MaxLen"], apart := false, laid := [("unicode/utf8.acceptRanges", laid_unicode_utf8_acceptRanges), ("unicode/utf8.first", laid_unicode_utf8_first)], narrowed := true }
def VaultImagesUptoSaid : Prop := vaultImagesUptoRow.holds Tryd.pinned (OpenSpec.upto vaultImagesSpec)

/-- 'pinakeslaw28.VaultMany', WHERE WHAT IT READS IS OF BULK AT MOST 1048576: true; the input reads as it did. -/
def vaultManyUptoRow : OpenClaim := { program := "ytgdkdihedgiegaadoor", sum := "f69f060bcaa902c9d4a15df31e646a9677f520561a86ecdcd01b151423529bb2", func := "pinakes/pinakeslaw28.VaultMany", spec := "vaultMany", inPlace := ["internal/bytealg.IndexByteString", "internal/bytealg.IndexString", "internal/abi.NoEscape"], unfollowed := true, recurses := true, named := ["unicode/utf8.first", "unicode/utf8.acceptRanges", "internal/bytealg.MaxLen"], apart := false, laid := [("unicode/utf8.acceptRanges", laid_unicode_utf8_acceptRanges), ("unicode/utf8.first", laid_unicode_utf8_first)], narrowed := true }
def VaultManyUptoSaid : Prop := vaultManyUptoRow.holds Tryd.pinned (OpenSpec.upto vaultManySpec)

/-- 'pinakeslaw28.VaultWipes', WHERE WHAT IT READS IS OF BULK AT MOST 1048576: true; the input reads as it did. -/
def vaultWipesUptoRow : OpenClaim := { program := "ytgdkdihedgiegaadoor", sum := "f69f060bcaa902c9d4a15df31e646a9677f520561a86ecdcd01b151423529bb2", func := "pinakes/pinakeslaw28.VaultWipes", spec := "vaultWipes", inPlace := ["internal/bytealg.IndexByteString", "internal/bytealg.IndexString", "internal/abi.NoEscape"], unfollowed := true, recurses := true, named := ["unicode/utf8.first", "unicode/utf8.acceptRanges", "internal/bytealg.MaxLen"], apart := false, laid := [("unicode/utf8.acceptRanges", laid_unicode_utf8_acceptRanges), ("unicode/utf8.first", laid_unicode_utf8_first)], narrowed := true }
def VaultWipesUptoSaid : Prop := vaultWipesUptoRow.holds Tryd.pinned (OpenSpec.upto vaultWipesSpec)

/-- 'pinakeslaw28.VaultForgets', WHERE WHAT IT READS IS OF BULK AT MOST 1048576: true; the input reads as it did. -/
def vaultForgetsUptoRow : OpenClaim := { program := "ytgdkdihedgiegaadoor", sum := "f69f060bcaa902c9d4a15df31e646a9677f520561a86ecdcd01b151423529bb2", func := "pinakes/pinakeslaw28.VaultForgets", spec := "vaultForgets", inPlace := ["internal/bytealg.IndexByteString", "internal/bytealg.IndexString", "internal/abi.NoEscape", "internal/bytealg.MakeNoZero"], unfollowed := true, recurses := true, named := ["unicode/utf8.first", "unicode/utf8.acceptRanges", "internal/bytealg.MaxLen"], apart := false, laid := [("unicode/utf8.acceptRanges", laid_unicode_utf8_acceptRanges), ("unicode/utf8.first", laid_unicode_utf8_first)], narrowed := true }
def VaultForgetsUptoSaid : Prop := vaultForgetsUptoRow.holds Tryd.pinned (OpenSpec.upto vaultForgetsSpec)

end Rows
end Go.Proofs.YtgdkdihedgiegaaDoor
