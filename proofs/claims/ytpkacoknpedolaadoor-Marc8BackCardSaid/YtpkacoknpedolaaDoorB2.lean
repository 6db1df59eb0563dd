/-
  strings.ToUpper at this program, and what sets returns.
-/
import Derived.Shelf.Strings.CaseAny
import Derived.Test.YtpkacoknpedolaaDoorB1
namespace Go.Proofs.YtpkacoknpedolaaDoor
open Go.Shelf
def lays158_ren : Go.Shelf.Ren := ⟨fun | 158 => 43 | 165 => 49 | 166 => 30 | 167 => 27 | 169 => 31 | 230 => 50 | 203 => 51 | 240 => 45 | 241 => 55 | 197 => 56 | 118 => 57 | 168 => 29 | 270 => 58 | 262 => 59 | 276 => 52 | 277 => 60 | 260 => 61 | 242 => 46 | 313 => 62 | 278 => 53 | 274 => 63 | 275 => 64 | n => n, fun | 9 => 9 | 4 => 4 | 3 => 3 | 5 => 5 | 72 => 47 | 0 => 0 | 76 => 61 | 75 => 58 | 107 => 97 | 70 => 45 | 20 => 20 | 37 => 23 | 127 => 89 | 21 => 21 | 105 => 102 | 164 => 98 | 162 => 108 | 203 => 54 | 119 => 90 | 46 => 94 | 139 => 93 | 138 => 92 | 51 => 100 | 160 => 109 | 208 => 115 | 206 => 113 | 80 => 64 | n => n, fun | 13 => 2 | 3 => 0 | 4 => 1 | n => n⟩
theorem lays158 : Go.Proofs.Lays.n158 Tryd.prog lays158_ren := {
  mixed := by kernel_rfl
  f118 := Tryd.func57.trans (congrArg some (by kernel_rfl))
  f158 := Tryd.func43.trans (congrArg some (by kernel_rfl))
  f165 := Tryd.func49.trans (congrArg some (by kernel_rfl))
  f166 := Tryd.func30.trans (congrArg some (by kernel_rfl))
  f167 := Tryd.func27.trans (congrArg some (by kernel_rfl))
  f168 := Tryd.func29.trans (congrArg some (by kernel_rfl))
  f169 := Tryd.func31.trans (congrArg some (by kernel_rfl))
  f197 := Tryd.func56.trans (congrArg some (by kernel_rfl))
  f203 := Tryd.func51.trans (congrArg some (by kernel_rfl))
  f230 := Tryd.func50.trans (congrArg some (by kernel_rfl))
  f240 := Tryd.func45.trans (congrArg some (by kernel_rfl))
  f241 := Tryd.func55.trans (congrArg some (by kernel_rfl))
  f242 := Tryd.func46.trans (congrArg some (by kernel_rfl))
  f260 := Tryd.func61.trans (congrArg some (by kernel_rfl))
  f262 := Tryd.func59.trans (congrArg some (by kernel_rfl))
  f270 := Tryd.func58.trans (congrArg some (by kernel_rfl))
  f274 := Tryd.func63.trans (congrArg some (by kernel_rfl))
  f275 := Tryd.func64.trans (congrArg some (by kernel_rfl))
  f276 := Tryd.func52.trans (congrArg some (by kernel_rfl))
  f277 := Tryd.func60.trans (congrArg some (by kernel_rfl))
  f278 := Tryd.func53.trans (congrArg some (by kernel_rfl))
  f313 := Tryd.func62.trans (congrArg some (by kernel_rfl))
  t0 := Tryd.underlying0
  a0 := Tryd.isAgg0
  z0 := Tryd.sizeOf0
  v0 := Tryd.zeroValue0
  t3 := Tryd.underlying3
  a3 := Tryd.isAgg3
  z3 := Tryd.sizeOf3
  v3 := Tryd.zeroValue3
  t4 := Tryd.underlying4
  a4 := Tryd.isAgg4
  z4 := Tryd.sizeOf4
  v4 := Tryd.zeroValue4
  t5 := Tryd.underlying5
  a5 := Tryd.isAgg5
  z5 := Tryd.sizeOf5
  v5 := Tryd.zeroValue5
  t9 := Tryd.underlying9
  a9 := Tryd.isAgg9
  z9 := Tryd.sizeOf9
  v9 := Tryd.zeroValue9
  t20 := Tryd.underlying20
  a20 := Tryd.isAgg20
  z20 := Tryd.sizeOf20
  v20 := Tryd.zeroValue20
  t21 := Tryd.underlying21
  a21 := Tryd.isAgg21
  z21 := Tryd.sizeOf21
  v21 := Tryd.zeroValue21
  t37 := Tryd.underlying23
  a37 := Tryd.isAgg23
  z37 := Tryd.sizeOf23
  v37 := Tryd.zeroValue23
  t46 := Tryd.underlying94
  a46 := Tryd.isAgg94
  z46 := Tryd.sizeOf94
  v46 := Tryd.zeroValue94
  t51 := Tryd.underlying100
  a51 := Tryd.isAgg100
  z51 := Tryd.sizeOf100
  v51 := Tryd.zeroValue100
  t70 := Tryd.underlying45
  a70 := Tryd.isAgg45
  z70 := Tryd.sizeOf45
  v70 := Tryd.zeroValue45
  t72 := Tryd.underlying47
  a72 := Tryd.isAgg47
  z72 := Tryd.sizeOf47
  v72 := Tryd.zeroValue47
  t75 := Tryd.underlying58
  a75 := Tryd.isAgg58
  z75 := Tryd.sizeOf58
  v75 := Tryd.zeroValue58
  t76 := Tryd.underlying61
  a76 := Tryd.isAgg61
  z76 := Tryd.sizeOf61
  v76 := Tryd.zeroValue61
  t105 := Tryd.underlying102
  a105 := Tryd.isAgg102
  z105 := Tryd.sizeOf102
  v105 := Tryd.zeroValue102
  t107 := Tryd.underlying97
  a107 := Tryd.isAgg97
  z107 := Tryd.sizeOf97
  v107 := Tryd.zeroValue97
  t119 := Tryd.underlying90
  a119 := Tryd.isAgg90
  z119 := Tryd.sizeOf90
  t127 := Tryd.underlying89
  a127 := Tryd.isAgg89
  z127 := Tryd.sizeOf89
  v127 := Tryd.zeroValue89
  t138 := Tryd.underlying92
  a138 := Tryd.isAgg92
  z138 := Tryd.sizeOf92
  v138 := Tryd.zeroValue92
  t139 := Tryd.underlying93
  a139 := Tryd.isAgg93
  z139 := Tryd.sizeOf93
  v139 := Tryd.zeroValue93
  t160 := Tryd.underlying109
  a160 := Tryd.isAgg109
  z160 := Tryd.sizeOf109
  v160 := Tryd.zeroValue109
  t162 := Tryd.underlying108
  a162 := Tryd.isAgg108
  z162 := Tryd.sizeOf108
  v162 := Tryd.zeroValue108
  t164 := Tryd.underlying98
  a164 := Tryd.isAgg98
  z164 := Tryd.sizeOf98
  v164 := Tryd.zeroValue98
  t203 := Tryd.underlying54
  a203 := Tryd.isAgg54
  z203 := Tryd.sizeOf54
  v203 := Tryd.zeroValue54
  t206 := Tryd.underlying113
  a206 := Tryd.isAgg113
  z206 := Tryd.sizeOf113
  v206 := Tryd.zeroValue113
  t208 := Tryd.underlying115
  a208 := Tryd.isAgg115
  z208 := Tryd.sizeOf115
  v208 := Tryd.zeroValue115
  g3 := by kernel_rfl
  g4 := by kernel_rfl
  g13 := by kernel_rfl }
theorem builder158 : Builder.Extra Tryd.prog lays158_ren := {
  sizeBuilder := by kernel_rfl
  liesBuilder := by kernel_rfl
  t5 := Tryd.underlying5
  a5 := Tryd.isAgg5
  z5 := Tryd.sizeOf5
  v5 := Tryd.zeroValue5
  infoByte := by kernel_rfl
  cellsByte := by kernel_rfl
  sizeByte := by kernel_rfl
  neB5 := by decide }
open Go.RowKit

/-- The tables of the library hold what their initialisers lay. -/
def Tabs (w : World) : Prop := Lib.Utf8Tabs 0 1 w ∧ Lib.CaseVar 2 Lib.caseA w
theorem Tabs.below {w w' : World} (h : Tabs w) (hb : Below w.heap.size w w') : Tabs w' := ⟨Utf8Tabs_below h.1 hb, Lib.CaseVar_below h.2 hb⟩
theorem upper_slavic : Lib.toUpperD slavicB = largeB ++ [208, 170] := by decide +kernel
set_option maxHeartbeats 1000000 in
theorem upper_43 (w : World) (hT : Tabs w) : Calls Tryd.prog 43 #[S slavicB] w fun e w' => e = .returned (S (largeB ++ [208, 170])) ∧ Below w.heap.size w w' := by
  have h := Any.strings_ToUpper_any lays158 builder158 ⟨slavicB.toArray⟩ w (by decide) hT.2 hT.1
  rw [show (⟨slavicB.toArray⟩ : ByteArray).data.toList = slavicB from rfl, upper_slavic] at h
  exact h
theorem sets_at (w : World) (hT : Tabs w) : Calls Tryd.prog 22 #[] w fun e w' => ∃ v, e = .returned v ∧ SetsAt w' v ∧ Below w.heap.size w w' :=
  sets_22 w fun W hb => upper_43 W (hT.below hb)
end Go.Proofs.YtpkacoknpedolaaDoor
