/-
  NARROWER THAN 'FOR EVERY INPUT', by the rows' own cells (each row's printed sentence says how): Marc8Plain: laid · Marc8Marks: laid · Marc8Parts: laid · Marc8Back: laid · Marc8Again: laid.
  DERIVED. THE GIVEN ROWS OF THIS SEAT. 5 by the template 'for every input the law returns true; each argument reads behind the call as it read before'; 0 by the template 'total and deterministic' (their statements: YtpkacoknpedolaaDoorTotals.lean).
  GIVEN WITH THE SEED: the statements are not yours to turn. If you find one false, say at which input.
  Laid BY PROGRAM, IN A SANDBOX (cutbox-rows.mjs): the forced cells as the released guide's own fill.sh prints them over the translation 6cb886093f6f73ae… (all of the seat's roots in one cut). By AI agents, Wed Nov 11 2026. No macro, syntax, notation, axiom, sorry.
-/
import Derived.Test.YtpkacoknpedolaaDoorChecked
import GoSem.PinnedTables
import GoSem.Claim
import GoSem.ClaimJoined
import GoSem.ClaimMapViews
import Derived.JoinedTies
import Derived.KernelRfl
namespace Go.Proofs.YtpkacoknpedolaaDoor
/- THE CELL 'sum', in the pinned program and in every row, IS THE sha256 OF THE DUMP (.gsa) THAT YtpkacoknpedolaaDoorProg.lean LOADS. Nothing in Lean hashes anything: it is a label: what it is worth is what the hold of that sum in a sandbox is worth. -/
noncomputable def Tryd.pinned : Pinned := { name := "ytpkacoknpedolaadoor", sum := "6cb886093f6f73ae0361ec21149481385fa0d82a4c752c01c2efb13f819c938e", checked := Tryd.checked }
namespace Rows
def none {H : Type} : Left H := { results := [], args := [] }

/- WHAT THE LISTED PACKAGE-LEVEL VARIABLES READ AS WHEN THE CALL BEGINS. Each datum BY PROGRAM (the guide's laid-datum.mjs) off the statement by which the dump's own 'gosem.cut.vars' lays the variable. In a bare row this is a premise. The card (YtpkacoknpedolaaDoorCards.lean) ties it to the program's text. -/
def laid_unicode_utf8_acceptRanges {H : Type} : DataW H := .agg [.agg [.lit (.int .u8 128), .lit (.int .u8 191)], .agg [.lit (.int .u8 160), .lit (.int .u8 191)], .agg [.lit (.int .u8 128), .lit (.int .u8 159)], .agg [.lit (.int .u8 144), .lit (.int .u8 191)], .agg [.lit (.int .u8 128), .lit (.int .u8 143)], .agg [.lit (.int .u8 0), .lit (.int .u8 0)], .agg [.lit (.int .u8 0), .lit (.int .u8 0)], .agg [.lit (.int .u8 0), .lit (.int .u8 0)], .agg [.lit (.int .u8 0), .lit (.int .u8 0)], .agg [.lit (.int .u8 0), .lit (.int .u8 0)], .agg [.lit (.int .u8 0), .lit (.int .u8 0)], .agg [.lit (.int .u8 0), .lit (.int .u8 0)], .agg [.lit (.int .u8 0), .lit (.int .u8 0)], .agg [.lit (.int .u8 0), .lit (.int .u8 0)], .agg [.lit (.int .u8 0), .lit (.int .u8 0)], .agg [.lit (.int .u8 0), .lit (.int .u8 0)]]
/-- One of Go's own tables, pinned by name: the form's constant. -/
def laid_unicode_CaseRanges : DataW Unit := Go.Pinned.caseRanges
/-- One of Go's own tables, pinned by name: the form's constant. -/
def laid_unicode_utf8_first : DataW Unit := Go.Pinned.utf8First

/-- 'pinakeslaw02.Marc8Plain': WHATEVER THE INPUT: true; the input reads as it did. -/
def marc8PlainSpec : ChangeSpec := { name := "marc8Plain", fn := fun _ => fun
  | [d] => { results := [.lit (.bool true)], args := [d] }
  | _ => none }
def marc8PlainRow : OpenClaim := { program := "ytpkacoknpedolaadoor", sum := "6cb886093f6f73ae0361ec21149481385fa0d82a4c752c01c2efb13f819c938e", func := "pinakes/pinakeslaw02.Marc8Plain", spec := "marc8Plain", inPlace := ["internal/abi.NoEscape", "internal/bytealg.MakeNoZero"], unfollowed := true, recurses := true, named := ["unicode/utf8.first", "unicode/utf8.acceptRanges", "unicode.CaseRanges"], apart := false, laid := [("unicode/utf8.acceptRanges", laid_unicode_utf8_acceptRanges), ("unicode.CaseRanges", laid_unicode_CaseRanges), ("unicode/utf8.first", laid_unicode_utf8_first)] }
def Marc8PlainSaid : Prop := marc8PlainRow.holds Tryd.pinned (OpenSpec.ofChange marc8PlainSpec)

/-- ITS FALSE NEIGHBOUR: 'it returns false'. Refute it at one input. -/
def marc8PlainWrong : ChangeSpec := { name := "marc8Plain", fn := fun _ => fun
  | [d] => { results := [.lit (.bool false)], args := [d] }
  | _ => none }
def Marc8PlainWrongFalsely : Prop := marc8PlainRow.holds Tryd.pinned (OpenSpec.ofChange marc8PlainWrong)

/-- 'pinakeslaw02.Marc8Marks': WHATEVER THE INPUT: true; the input reads as it did. -/
def marc8MarksSpec : ChangeSpec := { name := "marc8Marks", fn := fun _ => fun
  | [d1, d2] => { results := [.lit (.bool true)], args := [d1, d2] }
  | _ => none }
def marc8MarksRow : OpenClaim := { program := "ytpkacoknpedolaadoor", sum := "6cb886093f6f73ae0361ec21149481385fa0d82a4c752c01c2efb13f819c938e", func := "pinakes/pinakeslaw02.Marc8Marks", spec := "marc8Marks", inPlace := ["internal/abi.NoEscape", "internal/bytealg.MakeNoZero"], unfollowed := true, recurses := true, named := ["unicode/utf8.first", "unicode/utf8.acceptRanges", "unicode.CaseRanges"], apart := false, laid := [("unicode/utf8.acceptRanges", laid_unicode_utf8_acceptRanges), ("unicode.CaseRanges", laid_unicode_CaseRanges), ("unicode/utf8.first", laid_unicode_utf8_first)] }
def Marc8MarksSaid : Prop := marc8MarksRow.holds Tryd.pinned (OpenSpec.ofChange marc8MarksSpec)

/-- ITS FALSE NEIGHBOUR: 'it returns false'. Refute it at one input. -/
def marc8MarksWrong : ChangeSpec := { name := "marc8Marks", fn := fun _ => fun
  | [d1, d2] => { results := [.lit (.bool false)], args := [d1, d2] }
  | _ => none }
def Marc8MarksWrongFalsely : Prop := marc8MarksRow.holds Tryd.pinned (OpenSpec.ofChange marc8MarksWrong)

/-- 'pinakeslaw02.Marc8Parts': WHATEVER THE INPUT: true; the input reads as it did. -/
def marc8PartsSpec : ChangeSpec := { name := "marc8Parts", fn := fun _ => fun
  | [d1, d2] => { results := [.lit (.bool true)], args := [d1, d2] }
  | _ => none }
def marc8PartsRow : OpenClaim := { program := "ytpkacoknpedolaadoor", sum := "6cb886093f6f73ae0361ec21149481385fa0d82a4c752c01c2efb13f819c938e", func := "pinakes/pinakeslaw02.Marc8Parts", spec := "marc8Parts", inPlace := ["internal/abi.NoEscape", "internal/bytealg.MakeNoZero"], unfollowed := true, recurses := true, named := ["unicode/utf8.first", "unicode/utf8.acceptRanges", "unicode.CaseRanges"], apart := false, laid := [("unicode/utf8.acceptRanges", laid_unicode_utf8_acceptRanges), ("unicode.CaseRanges", laid_unicode_CaseRanges), ("unicode/utf8.first", laid_unicode_utf8_first)] }
def Marc8PartsSaid : Prop := marc8PartsRow.holds Tryd.pinned (OpenSpec.ofChange marc8PartsSpec)

/-- ITS FALSE NEIGHBOUR: 'it returns false'. Refute it at one input. -/
def marc8PartsWrong : ChangeSpec := { name := "marc8Parts", fn := fun _ => fun
  | [d1, d2] => { results := [.lit (.bool false)], args := [d1, d2] }
  | _ => none }
def Marc8PartsWrongFalsely : Prop := marc8PartsRow.holds Tryd.pinned (OpenSpec.ofChange marc8PartsWrong)

/-- 'pinakeslaw02.Marc8Back': WHATEVER THE INPUT: true; the input reads as it did. -/
def marc8BackSpec : ChangeSpec := { name := "marc8Back", fn := fun _ => fun
  | [d] => { results := [.lit (.bool true)], args := [d] }
  | _ => none }
def marc8BackRow : OpenClaim := { program := "ytpkacoknpedolaadoor", sum := "6cb886093f6f73ae0361ec21149481385fa0d82a4c752c01c2efb13f819c938e", func := "pinakes/pinakeslaw02.Marc8Back", spec := "marc8Back", inPlace := ["internal/abi.NoEscape", "internal/bytealg.MakeNoZero"], unfollowed := true, recurses := true, named := ["unicode/utf8.first", "unicode/utf8.acceptRanges", "unicode.CaseRanges"], apart := false, laid := [("unicode/utf8.acceptRanges", laid_unicode_utf8_acceptRanges), ("unicode.CaseRanges", laid_unicode_CaseRanges), ("unicode/utf8.first", laid_unicode_utf8_first)] }
def Marc8BackSaid : Prop := marc8BackRow.holds Tryd.pinned (OpenSpec.ofChange marc8BackSpec)

/-- ITS FALSE NEIGHBOUR: 'it returns false'. Refute it at one input. -/
def marc8BackWrong : ChangeSpec := { name := "marc8Back", fn := fun _ => fun
  | [d] => { results := [.lit (.bool false)], args := [d] }
  | _ => none }
def Marc8BackWrongFalsely : Prop := marc8BackRow.holds Tryd.pinned (OpenSpec.ofChange marc8BackWrong)

/-- 'pinakeslaw02.Marc8Again': WHATEVER THE INPUT: true; the input reads as it did. -/
def marc8AgainSpec : ChangeSpec := { name := "marc8Again", fn := fun _ => fun
  | [d] => { results := [.lit (.bool true)], args := [d] }
  | _ => none }
def marc8AgainRow : OpenClaim := { program := "ytpkacoknpedolaadoor", sum := "6cb886093f6f73ae0361ec21149481385fa0d82a4c752c01c2efb13f819c938e", func := "pinakes/pinakeslaw02.Marc8Again", spec := "marc8Again", inPlace := ["internal/abi.NoEscape", "internal/bytealg.MakeNoZero"], unfollowed := true, recurses := true, named := ["unicode/utf8.first", "unicode/utf8.acceptRanges", "unicode.CaseRanges"], apart := false, laid := [("unicode/utf8.acceptRanges", laid_unicode_utf8_acceptRanges), ("unicode.CaseRanges", laid_unicode_CaseRanges), ("unicode/utf8.first", laid_unicode_utf8_first)] }
def Marc8AgainSaid : Prop := marc8AgainRow.holds Tryd.pinned (OpenSpec.ofChange marc8AgainSpec)

/-- ITS FALSE NEIGHBOUR: 'it returns false'. Refute it at one input. -/
def marc8AgainWrong : ChangeSpec := { name := "marc8Again", fn := fun _ => fun
  | [d] => { results := [.lit (.bool false)], args := [d] }
  | _ => none }
def Marc8AgainWrongFalsely : Prop := marc8AgainRow.holds Tryd.pinned (OpenSpec.ofChange marc8AgainWrong)

/- THE SECOND FORM. 'bulk': how many values and letters a reading holds, each counted each time it is reached (what is shared counts as often as it is met; a slice's spare places count too). A statement '..UptoSaid' is the law's where the arguments, and the package variables that the reading takes, are together of bulk at most 1048576: NARROWER than '..Said'. Prove '..Said' where nothing that the law and all that it calls make is longer than what came in: it says more and counts as full. Else prove '..UptoSaid'. A law counts once. -/
mutual
def uptoBulk {H : Type} : DataW H → Nat
  | .lit (.string bytes) => bytes.length + 1
  | .lit _ => 1
  | .nil => 1
  | .ptr d => uptoBulk d + 1
  | .slice elems spare => uptoBulkAll elems + uptoBulkAll spare + 1
  | .agg parts => uptoBulkAll parts + 1
  | .iface _ d => uptoBulk d + 1
  | .map entries => uptoBulkEntries entries + 1
  | .held _ => 1
def uptoBulkAll {H : Type} : List (DataW H) → Nat
  | [] => 0
  | d :: r => uptoBulk d + uptoBulkAll r
def uptoBulkEntries {H : Type} : List (Lit × DataW H) → Nat
  | [] => 0
  | x :: r => uptoBulkEntry x + uptoBulkEntries r
def uptoBulkEntry {H : Type} : Lit × DataW H → Nat
  | (.string bytes, d) => bytes.length + uptoBulk d + 1
  | (_, d) => uptoBulk d + 1
 end
def uptoSmall : (H : Type) → List (DataW H) → Bool := fun _ ds => decide (uptoBulkAll ds ≤ 1048576)
def OpenSpec.upto (s : _root_.Go.ChangeSpec) : _root_.Go.OpenSpec := { _root_.Go.OpenSpec.ofChange s with cond := some uptoSmall }

/-- 'pinakeslaw02.Marc8Plain', WHERE WHAT IT READS IS OF BULK AT MOST 1048576: true; the input reads as it did. -/
def marc8PlainUptoRow : OpenClaim := { program := "ytpkacoknpedolaadoor", sum := "6cb886093f6f73ae0361ec21149481385fa0d82a4c752c01c2efb13f819c938e", func := "pinakes/pinakeslaw02.Marc8Plain", spec := "marc8Plain", inPlace := ["internal/abi.NoEscape", "internal/bytealg.MakeNoZero"], unfollowed := true, recurses := true, named := ["unicode/utf8.first", "unicode/utf8.acceptRanges", "unicode.CaseRanges"], apart := false, laid := [("unicode/utf8.acceptRanges", laid_unicode_utf8_acceptRanges), ("unicode.CaseRanges", laid_unicode_CaseRanges), ("unicode/utf8.first", laid_unicode_utf8_first)], narrowed := true }
def Marc8PlainUptoSaid : Prop := marc8PlainUptoRow.holds Tryd.pinned (OpenSpec.upto marc8PlainSpec)

/-- 'pinakeslaw02.Marc8Marks', WHERE WHAT IT READS IS OF BULK AT MOST 1048576: true; the input reads as it did. -/
def marc8MarksUptoRow : OpenClaim := { program := "ytpkacoknpedolaadoor", sum := "6cb886093f6f73ae0361ec21149481385fa0d82a4c752c01c2efb13f819c938e", func := "pinakes/pinakeslaw02.Marc8Marks", spec := "marc8Marks", inPlace := ["internal/abi.NoEscape", "internal/bytealg.MakeNoZero"], unfollowed := true, recurses := true, named := ["unicode/utf8.first", "unicode/utf8.acceptRanges", "unicode.CaseRanges"], apart := false, laid := [("unicode/utf8.acceptRanges", laid_unicode_utf8_acceptRanges), ("unicode.CaseRanges", laid_unicode_CaseRanges), ("unicode/utf8.first", laid_unicode_utf8_first)], narrowed := true }
def Marc8MarksUptoSaid : Prop := marc8MarksUptoRow.holds Tryd.pinned (OpenSpec.upto marc8MarksSpec)

/-- 'pinakeslaw02.Marc8Parts', WHERE WHAT IT READS IS OF BULK AT MOST 1048576: true; the input reads as it did. -/
def marc8PartsUptoRow : OpenClaim := { program := "ytpkacoknpedolaadoor", sum := "6cb886093f6f73ae0361ec21149481385fa0d82a4c752c01c2efb13f819c938e", func := "pinakes/pinakeslaw02.Marc8Parts", spec := "marc8Parts", inPlace := ["internal/abi.NoEscape", "internal/bytealg.MakeNoZero"], unfollowed := true, recurses := true, named := ["unicode/utf8.first", "unicode/utf8.acceptRanges", "unicode.CaseRanges"], apart := false, laid := [("unicode/utf8.acceptRanges", laid_unicode_utf8_acceptRanges), ("unicode.CaseRanges", laid_unicode_CaseRanges), ("unicode/utf8.first", laid_unicode_utf8_first)], narrowed := true }
def Marc8PartsUptoSaid : Prop := marc8PartsUptoRow.holds Tryd.pinned (OpenSpec.upto marc8PartsSpec)

/-- 'pinakeslaw02.Marc8Back', WHERE WHAT IT READS IS OF BULK AT MOST 1048576: true; the input reads as it did. -/
def marc8BackUptoRow : OpenClaim := { program := "ytpkacoknpedolaadoor", sum := "6cb886093f6f73ae0361ec21149481385fa0d82a4c752c01c2efb13f819c938e", func := "pinakes/pinakeslaw02.Marc8Back", spec := "marc8Back", inPlace := ["internal/abi.NoEscape", "internal/bytealg.MakeNoZero"], unfollowed := true, recurses := true, named := ["unicode/utf8.first", "unicode/utf8.acceptRanges", "unicode.CaseRanges"], apart := false, laid := [("unicode/utf8.acceptRanges", laid_unicode_utf8_acceptRanges), ("unicode.CaseRanges", laid_unicode_CaseRanges), ("unicode/utf8.first", laid_unicode_utf8_first)], narrowed := true }
def Marc8BackUptoSaid : Prop := marc8BackUptoRow.holds Tryd.pinned (OpenSpec.upto marc8BackSpec)

/-- 'pinakeslaw02.Marc8Again', WHERE WHAT IT READS IS OF BULK AT MOST 1048576: true; the input reads as it did. -/
def marc8AgainUptoRow : OpenClaim := { program := "ytpkacoknpedolaadoor", sum := "6cb886093f6f73ae0361ec21149481385fa0d82a4c752c01c2efb13f819c938e", func := "pinakes/pinakeslaw02.Marc8Again", spec := "marc8Again", inPlace := ["internal/abi.NoEscape", "internal/bytealg.MakeNoZero"], unfollowed := true, recurses := true, named := ["unicode/utf8.first", "unicode/utf8.acceptRanges", "unicode.CaseRanges"], apart := false, laid := [("unicode/utf8.acceptRanges", laid_unicode_utf8_acceptRanges), ("unicode.CaseRanges", laid_unicode_CaseRanges), ("unicode/utf8.first", laid_unicode_utf8_first)], narrowed := true }
def Marc8AgainUptoSaid : Prop := marc8AgainUptoRow.holds Tryd.pinned (OpenSpec.upto marc8AgainSpec)

end Rows
end Go.Proofs.YtpkacoknpedolaaDoor
