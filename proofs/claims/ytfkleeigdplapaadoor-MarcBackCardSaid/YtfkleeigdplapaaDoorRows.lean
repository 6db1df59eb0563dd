/-
  NARROWER THAN 'FOR EVERY INPUT', by the rows' own cells (each row's printed sentence says how): MarcBack: laid · MarcParses: laid · MarcFields: laid · MarcLeader: laid · MarcOrders: laid · MarcEntries: laid · MarcWrites: laid · MarcTexts: laid · MarcLimits: laid · MarcSplits: laid.
  DERIVED. THE GIVEN ROWS OF THIS SEAT. 10 by the template 'for every input the law returns true; each argument reads behind the call as it read before'; 0 by the template 'total and deterministic' (their statements: YtfkleeigdplapaaDoorTotals.lean).
  GIVEN WITH THE SEED: the statements are not yours to turn. If you find one false, say at which input.
  Laid BY PROGRAM, IN A SANDBOX (cutbox-rows.mjs): the forced cells as the released guide's own fill.sh prints them over the translation f188130591e9c05d… (all of the seat's roots in one cut). By AI agents, Wed Nov 11 2026. No macro, syntax, notation, axiom, sorry.
-/
import Derived.Test.YtfkleeigdplapaaDoorChecked
import GoSem.PinnedTables
import GoSem.Claim
import GoSem.ClaimJoined
import GoSem.ClaimMapViews
import Derived.JoinedTies
import Derived.KernelRfl
namespace Go.Proofs.YtfkleeigdplapaaDoor
/- THE CELL 'sum', in the pinned program and in every row, IS THE sha256 OF THE DUMP (.gsa) THAT YtfkleeigdplapaaDoorProg.lean LOADS. Nothing in Lean hashes anything: it is a label: what it is worth is what the hold of that sum in a sandbox is worth. -/
noncomputable def Tryd.pinned : Pinned := { name := "ytfkleeigdplapaadoor", sum := "f188130591e9c05df9fa124384b81e2fca45cf11b76842666e465caca3c14a7e", checked := Tryd.checked }
namespace Rows
def none {H : Type} : Left H := { results := [], args := [] }

/- WHAT THE LISTED PACKAGE-LEVEL VARIABLES READ AS WHEN THE CALL BEGINS. Each datum BY PROGRAM (the guide's laid-datum.mjs) off the statement by which the dump's own 'gosem.cut.vars' lays the variable. In a bare row this is a premise. The card (YtfkleeigdplapaaDoorCards.lean) ties it to the program's text. -/
def laid_unicode_utf8_acceptRanges {H : Type} : DataW H := .agg [.agg [.lit (.int .u8 128), .lit (.int .u8 191)], .agg [.lit (.int .u8 160), .lit (.int .u8 191)], .agg [.lit (.int .u8 128), .lit (.int .u8 159)], .agg [.lit (.int .u8 144), .lit (.int .u8 191)], .agg [.lit (.int .u8 128), .lit (.int .u8 143)], .agg [.lit (.int .u8 0), .lit (.int .u8 0)], .agg [.lit (.int .u8 0), .lit (.int .u8 0)], .agg [.lit (.int .u8 0), .lit (.int .u8 0)], .agg [.lit (.int .u8 0), .lit (.int .u8 0)], .agg [.lit (.int .u8 0), .lit (.int .u8 0)], .agg [.lit (.int .u8 0), .lit (.int .u8 0)], .agg [.lit (.int .u8 0), .lit (.int .u8 0)], .agg [.lit (.int .u8 0), .lit (.int .u8 0)], .agg [.lit (.int .u8 0), .lit (.int .u8 0)], .agg [.lit (.int .u8 0), .lit (.int .u8 0)], .agg [.lit (.int .u8 0), .lit (.int .u8 0)]]
/-- One of Go's own tables, pinned by name: the form's constant. -/
def laid_unicode_utf8_first : DataW Unit := Go.Pinned.utf8First

/-- 'pinakeslaw03.MarcBack': WHATEVER THE INPUT: true; the input reads as it did. -/
def marcBackSpec : ChangeSpec := { name := "marcBack", fn := fun _ => fun
  | [d1, d2] => { results := [.lit (.bool true)], args := [d1, d2] }
  | _ => none }
def marcBackRow : OpenClaim := { program := "ytfkleeigdplapaadoor", sum := "f188130591e9c05df9fa124384b81e2fca45cf11b76842666e465caca3c14a7e", func := "pinakes/pinakeslaw03.MarcBack", spec := "marcBack", inPlace := ["internal/bytealg.IndexByteString", "internal/bytealg.IndexString", "internal/abi.NoEscape"], unfollowed := true, recurses := true, named := ["unicode/utf8.first", "unicode/utf8.acceptRanges", "internal/bytealg.MaxLen"], apart := false, laid := [("unicode/utf8.acceptRanges", laid_unicode_utf8_acceptRanges), ("unicode/utf8.first", laid_unicode_utf8_first)] }
def MarcBackSaid : Prop := marcBackRow.holds Tryd.pinned (OpenSpec.ofChange marcBackSpec)

/-- ITS FALSE NEIGHBOUR: 'it returns false'. Refute it at one input. -/
def marcBackWrong : ChangeSpec := { name := "marcBack", fn := fun _ => fun
  | [d1, d2] => { results := [.lit (.bool false)], args := [d1, d2] }
  | _ => none }
def MarcBackWrongFalsely : Prop := marcBackRow.holds Tryd.pinned (OpenSpec.ofChange marcBackWrong)

/-- 'pinakeslaw03.MarcParses': WHATEVER THE INPUT: true; the input reads as it did. -/
def marcParsesSpec : ChangeSpec := { name := "marcParses", fn := fun _ => fun
  | [d1, d2, d3] => { results := [.lit (.bool true)], args := [d1, d2, d3] }
  | _ => none }
def marcParsesRow : OpenClaim := { program := "ytfkleeigdplapaadoor", sum := "f188130591e9c05df9fa124384b81e2fca45cf11b76842666e465caca3c14a7e", func := "pinakes/pinakeslaw03.MarcParses", spec := "marcParses", inPlace := ["internal/bytealg.IndexByteString", "internal/bytealg.IndexString", "internal/abi.NoEscape"], unfollowed := true, recurses := true, named := ["unicode/utf8.first", "unicode/utf8.acceptRanges", "internal/bytealg.MaxLen"], apart := false, laid := [("unicode/utf8.acceptRanges", laid_unicode_utf8_acceptRanges), ("unicode/utf8.first", laid_unicode_utf8_first)] }
def MarcParsesSaid : Prop := marcParsesRow.holds Tryd.pinned (OpenSpec.ofChange marcParsesSpec)

/-- ITS FALSE NEIGHBOUR: 'it returns false'. Refute it at one input. -/
def marcParsesWrong : ChangeSpec := { name := "marcParses", fn := fun _ => fun
  | [d1, d2, d3] => { results := [.lit (.bool false)], args := [d1, d2, d3] }
  | _ => none }
def MarcParsesWrongFalsely : Prop := marcParsesRow.holds Tryd.pinned (OpenSpec.ofChange marcParsesWrong)

/-- 'pinakeslaw03.MarcFields': WHATEVER THE INPUT: true; the input reads as it did. -/
def marcFieldsSpec : ChangeSpec := { name := "marcFields", fn := fun _ => fun
  | [d1, d2] => { results := [.lit (.bool true)], args := [d1, d2] }
  | _ => none }
def marcFieldsRow : OpenClaim := { program := "ytfkleeigdplapaadoor", sum := "f188130591e9c05df9fa124384b81e2fca45cf11b76842666e465caca3c14a7e", func := "pinakes/pinakeslaw03.MarcFields", spec := "marcFields", inPlace := ["internal/bytealg.IndexByteString", "internal/bytealg.IndexString", "internal/abi.NoEscape"], unfollowed := true, recurses := true, named := ["unicode/utf8.first", "unicode/utf8.acceptRanges", "internal/bytealg.MaxLen"], apart := false, laid := [("unicode/utf8.acceptRanges", laid_unicode_utf8_acceptRanges), ("unicode/utf8.first", laid_unicode_utf8_first)] }
def MarcFieldsSaid : Prop := marcFieldsRow.holds Tryd.pinned (OpenSpec.ofChange marcFieldsSpec)

/-- ITS FALSE NEIGHBOUR: 'it returns false'. Refute it at one input. -/
def marcFieldsWrong : ChangeSpec := { name := "marcFields", fn := fun _ => fun
  | [d1, d2] => { results := [.lit (.bool false)], args := [d1, d2] }
  | _ => none }
def MarcFieldsWrongFalsely : Prop := marcFieldsRow.holds Tryd.pinned (OpenSpec.ofChange marcFieldsWrong)

/-- 'pinakeslaw03.MarcLeader': WHATEVER THE INPUT: true; the input reads as it did. -/
def marcLeaderSpec : ChangeSpec := { name := "marcLeader", fn := fun _ => fun
  | [d1, d2, d3] => { results := [.lit (.bool true)], args := [d1, d2, d3] }
  | _ => none }
def marcLeaderRow : OpenClaim := { program := "ytfkleeigdplapaadoor", sum := "f188130591e9c05df9fa124384b81e2fca45cf11b76842666e465caca3c14a7e", func := "pinakes/pinakeslaw03.MarcLeader", spec := "marcLeader", inPlace := ["internal/bytealg.IndexByteString", "internal/bytealg.IndexString", "internal/abi.NoEscape"], unfollowed := true, recurses := true, named := ["unicode/utf8.first", "unicode/utf8.acceptRanges", "internal/bytealg.MaxLen"], apart := false, laid := [("unicode/utf8.acceptRanges", laid_unicode_utf8_acceptRanges), ("unicode/utf8.first", laid_unicode_utf8_first)] }
def MarcLeaderSaid : Prop := marcLeaderRow.holds Tryd.pinned (OpenSpec.ofChange marcLeaderSpec)

/-- ITS FALSE NEIGHBOUR: 'it returns false'. Refute it at one input. -/
def marcLeaderWrong : ChangeSpec := { name := "marcLeader", fn := fun _ => fun
  | [d1, d2, d3] => { results := [.lit (.bool false)], args := [d1, d2, d3] }
  | _ => none }
def MarcLeaderWrongFalsely : Prop := marcLeaderRow.holds Tryd.pinned (OpenSpec.ofChange marcLeaderWrong)

/-- 'pinakeslaw03.MarcOrders': WHATEVER THE INPUT: true; the input reads as it did. -/
def marcOrdersSpec : ChangeSpec := { name := "marcOrders", fn := fun _ => fun
  | [d1, d2] => { results := [.lit (.bool true)], args := [d1, d2] }
  | _ => none }
def marcOrdersRow : OpenClaim := { program := "ytfkleeigdplapaadoor", sum := "f188130591e9c05df9fa124384b81e2fca45cf11b76842666e465caca3c14a7e", func := "pinakes/pinakeslaw03.MarcOrders", spec := "marcOrders", inPlace := ["internal/bytealg.IndexByteString", "internal/bytealg.IndexString", "internal/abi.NoEscape"], unfollowed := true, recurses := true, named := ["unicode/utf8.first", "unicode/utf8.acceptRanges", "internal/bytealg.MaxLen"], apart := false, laid := [("unicode/utf8.acceptRanges", laid_unicode_utf8_acceptRanges), ("unicode/utf8.first", laid_unicode_utf8_first)] }
def MarcOrdersSaid : Prop := marcOrdersRow.holds Tryd.pinned (OpenSpec.ofChange marcOrdersSpec)

/-- ITS FALSE NEIGHBOUR: 'it returns false'. Refute it at one input. -/
def marcOrdersWrong : ChangeSpec := { name := "marcOrders", fn := fun _ => fun
  | [d1, d2] => { results := [.lit (.bool false)], args := [d1, d2] }
  | _ => none }
def MarcOrdersWrongFalsely : Prop := marcOrdersRow.holds Tryd.pinned (OpenSpec.ofChange marcOrdersWrong)

/-- 'pinakeslaw03.MarcEntries': WHATEVER THE INPUT: true; the input reads as it did. -/
def marcEntriesSpec : ChangeSpec := { name := "marcEntries", fn := fun _ => fun
  | [d1, d2, d3] => { results := [.lit (.bool true)], args := [d1, d2, d3] }
  | _ => none }
def marcEntriesRow : OpenClaim := { program := "ytfkleeigdplapaadoor", sum := "f188130591e9c05df9fa124384b81e2fca45cf11b76842666e465caca3c14a7e", func := "pinakes/pinakeslaw03.MarcEntries", spec := "marcEntries", inPlace := ["internal/bytealg.IndexByteString", "internal/bytealg.IndexString", "internal/abi.NoEscape"], unfollowed := true, recurses := true, named := ["unicode/utf8.first", "unicode/utf8.acceptRanges", "internal/bytealg.MaxLen"], apart := false, laid := [("unicode/utf8.acceptRanges", laid_unicode_utf8_acceptRanges), ("unicode/utf8.first", laid_unicode_utf8_first)] }
def MarcEntriesSaid : Prop := marcEntriesRow.holds Tryd.pinned (OpenSpec.ofChange marcEntriesSpec)

/-- ITS FALSE NEIGHBOUR: 'it returns false'. Refute it at one input. -/
def marcEntriesWrong : ChangeSpec := { name := "marcEntries", fn := fun _ => fun
  | [d1, d2, d3] => { results := [.lit (.bool false)], args := [d1, d2, d3] }
  | _ => none }
def MarcEntriesWrongFalsely : Prop := marcEntriesRow.holds Tryd.pinned (OpenSpec.ofChange marcEntriesWrong)

/-- 'pinakeslaw03.MarcWrites': WHATEVER THE INPUT: true; the input reads as it did. -/
def marcWritesSpec : ChangeSpec := { name := "marcWrites", fn := fun _ => fun
  | [d1, d2, d3] => { results := [.lit (.bool true)], args := [d1, d2, d3] }
  | _ => none }
def marcWritesRow : OpenClaim := { program := "ytfkleeigdplapaadoor", sum := "f188130591e9c05df9fa124384b81e2fca45cf11b76842666e465caca3c14a7e", func := "pinakes/pinakeslaw03.MarcWrites", spec := "marcWrites", inPlace := ["internal/bytealg.IndexByteString", "internal/bytealg.IndexString", "internal/abi.NoEscape"], unfollowed := true, recurses := true, named := ["unicode/utf8.first", "unicode/utf8.acceptRanges", "internal/bytealg.MaxLen"], apart := false, laid := [("unicode/utf8.acceptRanges", laid_unicode_utf8_acceptRanges), ("unicode/utf8.first", laid_unicode_utf8_first)] }
def MarcWritesSaid : Prop := marcWritesRow.holds Tryd.pinned (OpenSpec.ofChange marcWritesSpec)

/-- ITS FALSE NEIGHBOUR: 'it returns false'. Refute it at one input. -/
def marcWritesWrong : ChangeSpec := { name := "marcWrites", fn := fun _ => fun
  | [d1, d2, d3] => { results := [.lit (.bool false)], args := [d1, d2, d3] }
  | _ => none }
def MarcWritesWrongFalsely : Prop := marcWritesRow.holds Tryd.pinned (OpenSpec.ofChange marcWritesWrong)

/-- 'pinakeslaw03.MarcTexts': WHATEVER THE INPUT: true; the input reads as it did. -/
def marcTextsSpec : ChangeSpec := { name := "marcTexts", fn := fun _ => fun
  | [d1, d2] => { results := [.lit (.bool true)], args := [d1, d2] }
  | _ => none }
def marcTextsRow : OpenClaim := { program := "ytfkleeigdplapaadoor", sum := "f188130591e9c05df9fa124384b81e2fca45cf11b76842666e465caca3c14a7e", func := "pinakes/pinakeslaw03.MarcTexts", spec := "marcTexts", inPlace := ["internal/bytealg.IndexByteString", "internal/bytealg.IndexString", "internal/abi.NoEscape"], unfollowed := true, recurses := true, named := ["unicode/utf8.first", "unicode/utf8.acceptRanges", "internal/bytealg.MaxLen"], apart := false, laid := [("unicode/utf8.acceptRanges", laid_unicode_utf8_acceptRanges), ("unicode/utf8.first", laid_unicode_utf8_first)] }
def MarcTextsSaid : Prop := marcTextsRow.holds Tryd.pinned (OpenSpec.ofChange marcTextsSpec)

/-- ITS FALSE NEIGHBOUR: 'it returns false'. Refute it at one input. -/
def marcTextsWrong : ChangeSpec := { name := "marcTexts", fn := fun _ => fun
  | [d1, d2] => { results := [.lit (.bool false)], args := [d1, d2] }
  | _ => none }
def MarcTextsWrongFalsely : Prop := marcTextsRow.holds Tryd.pinned (OpenSpec.ofChange marcTextsWrong)

/-- 'pinakeslaw03.MarcLimits': WHATEVER THE INPUT: true; the input reads as it did. -/
def marcLimitsSpec : ChangeSpec := { name := "marcLimits", fn := fun _ => fun
  | [d1, d2, d3] => { results := [.lit (.bool true)], args := [d1, d2, d3] }
  | _ => none }
def marcLimitsRow : OpenClaim := { program := "ytfkleeigdplapaadoor", sum := "f188130591e9c05df9fa124384b81e2fca45cf11b76842666e465caca3c14a7e", func := "pinakes/pinakeslaw03.MarcLimits", spec := "marcLimits", inPlace := ["internal/bytealg.IndexByteString", "internal/bytealg.IndexString", "internal/abi.NoEscape"], unfollowed := true, recurses := true, named := ["unicode/utf8.first", "unicode/utf8.acceptRanges", "internal/bytealg.MaxLen"], apart := false, laid := [("unicode/utf8.acceptRanges", laid_unicode_utf8_acceptRanges), ("unicode/utf8.first", laid_unicode_utf8_first)] }
def MarcLimitsSaid : Prop := marcLimitsRow.holds Tryd.pinned (OpenSpec.ofChange marcLimitsSpec)

/-- ITS FALSE NEIGHBOUR: 'it returns false'. Refute it at one input. -/
def marcLimitsWrong : ChangeSpec := { name := "marcLimits", fn := fun _ => fun
  | [d1, d2, d3] => { results := [.lit (.bool false)], args := [d1, d2, d3] }
  | _ => none }
def MarcLimitsWrongFalsely : Prop := marcLimitsRow.holds Tryd.pinned (OpenSpec.ofChange marcLimitsWrong)

/-- 'pinakeslaw03.MarcSplits': WHATEVER THE INPUT: true; the input reads as it did. -/
def marcSplitsSpec : ChangeSpec := { name := "marcSplits", fn := fun _ => fun
  | [d1, d2, d3] => { results := [.lit (.bool true)], args := [d1, d2, d3] }
  | _ => none }
def marcSplitsRow : OpenClaim := { program := "ytfkleeigdplapaadoor", sum := "f188130591e9c05df9fa124384b81e2fca45cf11b76842666e465caca3c14a7e", func := "pinakes/pinakeslaw03.MarcSplits", spec := "marcSplits", inPlace := ["internal/bytealg.IndexByteString", "internal/bytealg.IndexString", "internal/abi.NoEscape"], unfollowed := true, recurses := true, named := ["unicode/utf8.first", "unicode/utf8.acceptRanges", "internal/bytealg.MaxLen"], apart := false, laid := [("unicode/utf8.acceptRanges", laid_unicode_utf8_acceptRanges), ("unicode/utf8.first", laid_unicode_utf8_first)] }
def MarcSplitsSaid : Prop := marcSplitsRow.holds Tryd.pinned (OpenSpec.ofChange marcSplitsSpec)

/-- ITS FALSE NEIGHBOUR: 'it returns false'. Refute it at one input. -/
def marcSplitsWrong : ChangeSpec := { name := "marcSplits", fn := fun _ => fun
  | [d1, d2, d3] => { results := [.lit (.bool false)], args := [d1, d2, d3] }
  | _ => none }
def MarcSplitsWrongFalsely : Prop := marcSplitsRow.holds Tryd.pinned (OpenSpec.ofChange marcSplitsWrong)

/- THE SECOND FORM. 'bulk': how many values and letters a reading holds, each counted each time it is reached (what is shared counts as often as it is met; a slice's spare places count too). A statement '..UptoSaid' is the law's where the arguments, and the package variables that the reading takes, are together of bulk at most 1048576: NARROWER than '..Said'. Prove '..Said' where nothing that the law and all that it calls make is longer than what came in: it says more and counts as full. Else prove '..UptoSaid'. A law counts once. -/
mutual
def uptoBulk {H : Type} : DataW H → Nat
  | .lit (.string bytes) => bytes.length + 1
  | .lit _ => 1
  | .nil => 1
  | .ptr d => uptoBulk d + 1
  | .slice elems spare => uptoBulkAll elems + uptoBulkAll spare + 1
  | .agg parts => uptoBulkAll parts + 1
  | .iface _ d => uptoBulk d + 1
  | .map entries => uptoBulkEntries entries + 1
  | .held _ => 1
def uptoBulkAll {H : Type} : List (DataW H) → Nat
  | [] => 0
  | d :: r => uptoBulk d + uptoBulkAll r
def uptoBulkEntries {H : Type} : List (Lit × DataW H) → Nat
  | [] => 0
  | x :: r => uptoBulkEntry x + uptoBulkEntries r
def uptoBulkEntry {H : Type} : Lit × DataW H → Nat
  | (.string bytes, d) => bytes.length + uptoBulk d + 1
  | (_, d) => uptoBulk d + 1
 end
def uptoSmall : (H : Type) → List (DataW H) → Bool := fun _ ds => decide (uptoBulkAll ds ≤ 1048576)
def OpenSpec.upto (s : _root_.Go.ChangeSpec) : _root_.Go.OpenSpec := { _root_.Go.OpenSpec.ofChange s with cond := some uptoSmall }

/-- 'pinakeslaw03.MarcBack', WHERE WHAT IT READS IS OF BULK AT MOST 1048576: true; the input reads as it did. -/
def marcBackUptoRow : OpenClaim := { program := "ytfkleeigdplapaadoor", sum := "f188130591e9c05df9fa124384b81e2fca45cf11b76842666e465caca3c14a7e", func := "pinakes/pinakeslaw03.MarcBack", spec := "marcBack", inPlace := ["internal/bytealg.IndexByteString", "internal/bytealg.IndexString", "internal/abi.NoEscape"], unfollowed := true, recurses := true, named := ["unicode/utf8.first", "unicode/utf8.acceptRanges", "internal/bytealg.MaxLen"], apart := false, laid := [("unicode/utf8.acceptRanges", laid_unicode_utf8_acceptRanges), ("unicode/utf8.first", laid_unicode_utf8_first)], narrowed := true }
def MarcBackUptoSaid : Prop := marcBackUptoRow.holds Tryd.pinned (OpenSpec.upto marcBackSpec)

/-- 'pinakeslaw03.MarcParses', WHERE WHAT IT READS IS OF BULK AT MOST 1048576: true; the input reads as it did. -/
def marcParsesUptoRow : OpenClaim := { program := "ytfkleeigdplapaadoor", sum := "f188130591e9c05df9fa124384b81e2fca45cf11b76842666e465caca3c14a7e", func := "pinakes/pinakeslaw03.MarcParses", spec := "marcParses", inPlace := ["internal/bytealg.IndexByteString", "internal/bytealg.IndexString", "internal/abi.NoEscape"], unfollowed := true, recurses := true, named := ["unicode/utf8.first", "unicode/utf8.acceptRanges", "internal/bytealg.MaxLen"], apart := false, laid := [("unicode/utf8.acceptRanges", laid_unicode_utf8_acceptRanges), ("unicode/utf8.first", laid_unicode_utf8_first)], narrowed := true }
def MarcParsesUptoSaid : Prop := marcParsesUptoRow.holds Tryd.pinned (OpenSpec.upto marcParsesSpec)

/-- 'pinakeslaw03.MarcFields', WHERE WHAT IT READS IS OF BULK AT MOST 1048576: true; the input reads as it did. -/
def marcFieldsUptoRow : OpenClaim := { program := "ytfkleeigdplapaadoor", sum := "f188130591e9c05df9fa124384b81e2fca45cf11b76842666e465caca3c14a7e", func := "pinakes/pinakeslaw03.MarcFields", spec := "marcFields", inPlace := ["internal/bytealg.IndexByteString", "internal/bytealg.IndexString", "internal/abi.NoEscape"], unfollowed := true, recurses := true, named := ["unicode/utf8.first", "unicode/utf8.acceptRanges", "internal/bytealg.MaxLen"], apart := false, laid := [("unicode/utf8.acceptRanges", laid_unicode_utf8_acceptRanges), ("unicode/utf8.first", laid_unicode_utf8_first)], narrowed := true }
def MarcFieldsUptoSaid : Prop := marcFieldsUptoRow.holds Tryd.pinned (OpenSpec.upto marcFieldsSpec)

/-- 'pinakeslaw03.MarcLeader', WHERE WHAT IT READS IS OF BULK AT MOST 1048576: true; the input reads as it did. -/
def marcLeaderUptoRow : OpenClaim := { program := "ytfkleeigdplapaadoor", sum := "f188130591e9c05df9fa124384b81e2fca45cf11b76842666e465caca3c14a7e", func := "pinakes/pinakeslaw03.MarcLeader", spec := "marcLeader", inPlace := ["internal/bytealg.IndexByteString", "internal/bytealg.IndexString", "internal/abi.NoEscape"], unfollowed := true, recurses := true, named := ["unicode/utf8.first", "unicode/utf8.acceptRanges", "internal/bytealg.MaxLen"], apart := false, laid := [("unicode/utf8.acceptRanges", laid_unicode_utf8_acceptRanges), ("unicode/utf8.first", laid_unicode_utf8_first)], narrowed := true }
def MarcLeaderUptoSaid : Prop := marcLeaderUptoRow.holds Tryd.pinned (OpenSpec.upto marcLeaderSpec)

/-- 'pinakeslaw03.MarcOrders', WHERE WHAT IT READS IS OF BULK AT MOST 1048576: true; the input reads as it did. -/
def marcOrdersUptoRow : OpenClaim := { program := "ytfkleeigdplapaadoor", sum := "f188130591e9c05df9fa124384b81e2fca45cf11b76842666e465caca3c14a7e", func := "pinakes/pinakeslaw03.MarcOrders", spec := "marcOrders", inPlace := ["internal/bytealg.IndexByteString", "internal/bytealg.IndexString", "internal/abi.NoEscape"], unfollowed := true, recurses := true, named := ["unicode/utf8.first", "unicode/utf8.acceptRanges", "internal/bytealg.MaxLen"], apart := false, laid := [("unicode/utf8.acceptRanges", laid_unicode_utf8_acceptRanges), ("unicode/utf8.first", laid_unicode_utf8_first)], narrowed := true }
def MarcOrdersUptoSaid : Prop := marcOrdersUptoRow.holds Tryd.pinned (OpenSpec.upto marcOrdersSpec)

/-- 'pinakeslaw03.MarcEntries', WHERE WHAT IT READS IS OF BULK AT MOST 1048576: true; the input reads as it did. -/
def marcEntriesUptoRow : OpenClaim := { program := "ytfkleeigdplapaadoor", sum := "f188130591e9c05df9fa124384b81e2fca45cf11b76842666e465caca3c14a7e", func := "pinakes/pinakeslaw03.MarcEntries", spec := "marcEntries", inPlace := ["internal/bytealg.IndexByteString", "internal/bytealg.IndexString", "internal/abi.NoEscape"], unfollowed := true, recurses := true, named := ["unicode/utf8.first", "unicode/utf8.acceptRanges", "internal/bytealg.MaxLen"], apart := false, laid := [("unicode/utf8.acceptRanges", laid_unicode_utf8_acceptRanges), ("unicode/utf8.first", laid_unicode_utf8_first)], narrowed := true }
def MarcEntriesUptoSaid : Prop := marcEntriesUptoRow.holds Tryd.pinned (OpenSpec.upto marcEntriesSpec)

/-- 'pinakeslaw03.MarcWrites', WHERE WHAT IT READS IS OF BULK AT MOST 1048576: true; the input reads as it did. -/
def marcWritesUptoRow : OpenClaim := { program := "ytfkleeigdplapaadoor", sum := "f188130591e9c05df9fa124384b81e2fca45cf11b76842666e465caca3c14a7e", func := "pinakes/pinakeslaw03.MarcWrites", spec := "marcWrites", inPlace := ["internal/bytealg.IndexByteString", "internal/bytealg.IndexString", "internal/abi.NoEscape"], unfollowed := true, recurses := true, named := ["unicode/utf8.first", "unicode/utf8.acceptRanges", "internal/bytealg.MaxLen"], apart := false, laid := [("unicode/utf8.acceptRanges", laid_unicode_utf8_acceptRanges), ("unicode/utf8.first", laid_unicode_utf8_first)], narrowed := true }
def MarcWritesUptoSaid : Prop := marcWritesUptoRow.holds Tryd.pinned (OpenSpec.upto marcWritesSpec)

/-- 'pinakeslaw03.MarcTexts', WHERE WHAT IT READS IS OF BULK AT MOST 1048576: true; the input reads as it did. -/
def marcTextsUptoRow : OpenClaim := { program := "ytfkleeigdplapaadoor", sum := "f188130591e9c05df9fa124384b81e2fca45cf11b76842666e465caca3c14a7e", func := "pinakes/pinakeslaw03.MarcTexts", spec := "marcTexts", inPlace := ["internal/bytealg.IndexByteString", "internal/bytealg.IndexString", "internal/abi.NoEscape"], unfollowed := true, recurses := true, named := ["unicode/utf8.first", "unicode/utf8.acceptRanges", "internal/bytealg.MaxLen"], apart := false, laid := [("unicode/utf8.acceptRanges", laid_unicode_utf8_acceptRanges), ("unicode/utf8.first", laid_unicode_utf8_first)], narrowed := true }
def MarcTextsUptoSaid : Prop := marcTextsUptoRow.holds Tryd.pinned (OpenSpec.upto marcTextsSpec)

/-- 'pinakeslaw03.MarcLimits', WHERE WHAT IT READS IS OF BULK AT MOST 1048576: true; the input reads as it did. -/
def marcLimitsUptoRow : OpenClaim := { program := "ytfkleeigdplapaadoor", sum := "f188130591e9c05df9fa124384b81e2fca45cf11b76842666e465caca3c14a7e", func := "pinakes/pinakeslaw03.MarcLimits", spec := "marcLimits", inPlace := ["internal/bytealg.IndexByteString", "internal/bytealg.IndexString", "internal/abi.NoEscape"], unfollowed := true, recurses := true, named := ["unicode/utf8.first", "unicode/utf8.acceptRanges", "internal/bytealg.MaxLen"], apart := false, laid := [("unicode/utf8.acceptRanges", laid_unicode_utf8_acceptRanges), ("unicode/utf8.first", laid_unicode_utf8_first)], narrowed := true }
def MarcLimitsUptoSaid : Prop := marcLimitsUptoRow.holds Tryd.pinned (OpenSpec.upto marcLimitsSpec)

/-- 'pinakeslaw03.MarcSplits', WHERE WHAT IT READS IS OF BULK AT MOST 1048576: true; the input reads as it did. -/
def marcSplitsUptoRow : OpenClaim := { program := "ytfkleeigdplapaadoor", sum := "f188130591e9c05df9fa124384b81e2fca45cf11b76842666e465caca3c14a7e", func := "pinakes/pinakeslaw03.MarcSplits", spec := "marcSplits", inPlace := ["internal/bytealg.IndexByteString", "internal/bytealg.IndexString", "internal/abi.NoEscape"], unfollowed := true, recurses := true, named := ["unicode/utf8.first", "unicode/utf8.acceptRanges", "internal/bytealg.MaxLen"], apart := false, laid := [("unicode/utf8.acceptRanges", laid_unicode_utf8_acceptRanges), ("unicode/utf8.first", laid_unicode_utf8_first)], narrowed := true }
def MarcSplitsUptoSaid : Prop := marcSplitsUptoRow.holds Tryd.pinned (OpenSpec.upto marcSplitsSpec)

end Rows
end Go.Proofs.YtfkleeigdplapaaDoor
