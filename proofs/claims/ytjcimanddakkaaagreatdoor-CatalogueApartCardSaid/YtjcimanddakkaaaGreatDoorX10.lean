/- Lemmas. -/
import Derived.Test.YtjcimanddakkaaaGreatDoorX0
import Derived.Shelf.Strings.OnBuilder
import Derived.Shelf.Strings.Trim
import Derived.Shelf.Strings.Search3
import Derived.Shelf.Strings.Runes
import Derived.Shelf.Slices.CompactS
import Derived.Shelf.Strings.SlTrimAscii
import Derived.Test.YtjcimanddakkaaaGreatDoorProg
import Derived.Shelf.SlSortCmp.WholeK
import Derived.Shelf.SlSortCmp.NoneTotal
import Derived.Lib.OthersKept
import Derived.Deep.RegionWith
import Derived.Lib.IndexLaws
import Derived.Deep.QuietTactic
import Derived.BigQuiet
set_option maxRecDepth 100000
set_option maxHeartbeats 8000000
namespace Go.Proofs.YtjcimanddakkaaaGreatDoor
open Go.Proofs.Tryz renaming prog→a0a
open Go.Calls renaming mono→a0b
open Go.Shelf renaming Ren→a0c
open _root_.Option renaming isSome_none→a0d,getD_none→a0e
open Go.Lib renaming indexByte→a0f,hid→a0g,compact→a0u
open Go.Proofs.SlLaysF0 renaming n6→a0h
open Go.Utf8 renaming decode→a0i
open _root_.Nat renaming le_refl→a0j
open _root_.List renaming map_append→a0k,flatMap_cons→a0m,append_assoc→a0n,mem_cons_of_mem→a0q,flatMap_append→a0r,mem_cons_self→a0t
open Go renaming World→a0l,Calls→a0o,Value→a0s
open Go.Value renaming string→a0p
section
open Go.Shelf
def cS:a0c:=⟨λ|158=>236|165=>285|166=>112|167=>160|169=>115|230=>286|203=>287|240=>161|241=>315|197=>278|118=>316|168=>317|270=>318|262=>319|276=>207|277=>331|260=>310|242=>332|313=>333|278=>342|274=>343|275=>344|n=>n,λ|9=>9|4=>4|3=>3|5=>5|72=>187|0=>0|76=>191|75=>190|107=>340|70=>185|20=>20|37=>76|127=>233|21=>21|105=>334|164=>282|162=>390|203=>388|119=>383|46=>218|139=>386|138=>385|51=>277|160=>406|208=>426|206=>424|80=>75|n=>n,λ|13=>3|3=>0|4=>1|n=>n⟩
theorem oB:Go.Proofs.Lays.n158 a0a cS:={
 mixed:=by kernel_rfl
 f118:=Tryz.func316.trans (congrArg some (by kernel_rfl))
 f158:=Tryz.func236.trans (congrArg some (by kernel_rfl))
 f165:=Tryz.func285.trans (congrArg some (by kernel_rfl))
 f166:=Tryz.func112.trans (congrArg some (by kernel_rfl))
 f167:=Tryz.func160.trans (congrArg some (by kernel_rfl))
 f168:=Tryz.func317.trans (congrArg some (by kernel_rfl))
 f169:=Tryz.func115.trans (congrArg some (by kernel_rfl))
 f197:=Tryz.func278.trans (congrArg some (by kernel_rfl))
 f203:=Tryz.func287.trans (congrArg some (by kernel_rfl))
 f230:=Tryz.func286.trans (congrArg some (by kernel_rfl))
 f240:=Tryz.func161.trans (congrArg some (by kernel_rfl))
 f241:=Tryz.func315.trans (congrArg some (by kernel_rfl))
 f242:=Tryz.func332.trans (congrArg some (by kernel_rfl))
 f260:=Tryz.func310.trans (congrArg some (by kernel_rfl))
 f262:=Tryz.func319.trans (congrArg some (by kernel_rfl))
 f270:=Tryz.func318.trans (congrArg some (by kernel_rfl))
 f274:=Tryz.func343.trans (congrArg some (by kernel_rfl))
 f275:=Tryz.func344.trans (congrArg some (by kernel_rfl))
 f276:=Tryz.func207.trans (congrArg some (by kernel_rfl))
 f277:=Tryz.func331.trans (congrArg some (by kernel_rfl))
 f278:=Tryz.func342.trans (congrArg some (by kernel_rfl))
 f313:=Tryz.func333.trans (congrArg some (by kernel_rfl))
 t0:=Tryz.underlying0
 a0:=Tryz.isAgg0
 z0:=Tryz.sizeOf0
 v0:=Tryz.zeroValue0
 t3:=Tryz.underlying3
 a3:=Tryz.isAgg3
 z3:=Tryz.sizeOf3
 v3:=Tryz.zeroValue3
 t4:=Tryz.underlying4
 a4:=Tryz.isAgg4
 z4:=Tryz.sizeOf4
 v4:=Tryz.zeroValue4
 t5:=Tryz.underlying5
 a5:=Tryz.isAgg5
 z5:=Tryz.sizeOf5
 v5:=Tryz.zeroValue5
 t9:=Tryz.underlying9
 a9:=Tryz.isAgg9
 z9:=Tryz.sizeOf9
 v9:=Tryz.zeroValue9
 t20:=Tryz.underlying20
 a20:=Tryz.isAgg20
 z20:=Tryz.sizeOf20
 v20:=Tryz.zeroValue20
 t21:=Tryz.underlying21
 a21:=Tryz.isAgg21
 z21:=Tryz.sizeOf21
 v21:=Tryz.zeroValue21
 t37:=Tryz.underlying76
 a37:=Tryz.isAgg76
 z37:=Tryz.sizeOf76
 v37:=Tryz.zeroValue76
 t46:=Tryz.underlying218
 a46:=Tryz.isAgg218
 z46:=Tryz.sizeOf218
 v46:=Tryz.zeroValue218
 t51:=Tryz.underlying277
 a51:=Tryz.isAgg277
 z51:=Tryz.sizeOf277
 v51:=Tryz.zeroValue277
 t70:=Tryz.underlying185
 a70:=Tryz.isAgg185
 z70:=Tryz.sizeOf185
 v70:=Tryz.zeroValue185
 t72:=Tryz.underlying187
 a72:=Tryz.isAgg187
 z72:=Tryz.sizeOf187
 v72:=Tryz.zeroValue187
 t75:=Tryz.underlying190
 a75:=Tryz.isAgg190
 z75:=Tryz.sizeOf190
 v75:=Tryz.zeroValue190
 t76:=Tryz.underlying191
 a76:=Tryz.isAgg191
 z76:=Tryz.sizeOf191
 v76:=Tryz.zeroValue191
 t105:=Tryz.underlying334
 a105:=Tryz.isAgg334
 z105:=Tryz.sizeOf334
 v105:=Tryz.zeroValue334
 t107:=Tryz.underlying340
 a107:=Tryz.isAgg340
 z107:=Tryz.sizeOf340
 v107:=Tryz.zeroValue340
 t119:=Tryz.underlying383
 a119:=Tryz.isAgg383
 z119:=Tryz.sizeOf383
 t127:=Tryz.underlying233
 a127:=Tryz.isAgg233
 z127:=Tryz.sizeOf233
 v127:=Tryz.zeroValue233
 t138:=Tryz.underlying385
 a138:=Tryz.isAgg385
 z138:=Tryz.sizeOf385
 v138:=Tryz.zeroValue385
 t139:=Tryz.underlying386
 a139:=Tryz.isAgg386
 z139:=Tryz.sizeOf386
 v139:=Tryz.zeroValue386
 t160:=Tryz.underlying406
 a160:=Tryz.isAgg406
 z160:=Tryz.sizeOf406
 v160:=Tryz.zeroValue406
 t162:=Tryz.underlying390
 a162:=Tryz.isAgg390
 z162:=Tryz.sizeOf390
 v162:=Tryz.zeroValue390
 t164:=Tryz.underlying282
 a164:=Tryz.isAgg282
 z164:=Tryz.sizeOf282
 v164:=Tryz.zeroValue282
 t203:=Tryz.underlying388
 a203:=Tryz.isAgg388
 z203:=Tryz.sizeOf388
 v203:=Tryz.zeroValue388
 t206:=Tryz.underlying424
 a206:=Tryz.isAgg424
 z206:=Tryz.sizeOf424
 v206:=Tryz.zeroValue424
 t208:=Tryz.underlying426
 a208:=Tryz.isAgg426
 z208:=Tryz.sizeOf426
 v208:=Tryz.zeroValue426
 g3:=by kernel_rfl
 g4:=by kernel_rfl
 g13:=by kernel_rfl}
theorem i7:Builder.Extra a0a cS:={
 sizeBuilder:=by kernel_rfl
 liesBuilder:=by kernel_rfl
 t5:=Tryz.underlying5
 a5:=Tryz.isAgg5
 z5:=Tryz.sizeOf5
 v5:=Tryz.zeroValue5
 infoByte:=by kernel_rfl
 cellsByte:=by kernel_rfl
 sizeByte:=by kernel_rfl
 neB5:=by decide}
open Go.RowKit in
theorem strings_ToUpper_ascii (s:ByteArray) (w:a0l) (c:s.size<=140737488355328) (a:∀(j:Nat) (b:UInt8),s.data.toList[j]? =some b->b.toNat<128):
 a0o a0a 236 #[.string s] w λe w'=>e= .returned (.string ⟨(Lib.toUpperA s.data.toList).toArray⟩)/\Below w.heap.size w w':=Any.strings_ToUpper_ascii oB i7 s w c a
def jH:a0c:=⟨λ|156=>244|165=>285|166=>112|169=>115|240=>161|241=>315|276=>207|277=>331|n=>n,λ|31=>81|9=>9|3=>3|4=>4|0=>0|20=>20|72=>187|76=>191|70=>185|37=>76|75=>190|127=>233|164=>282|5=>5|80=>75|n=>n,λ|n=>n⟩
theorem tV:Go.Proofs.Lays.n156 a0a jH:={
 mixed:=by kernel_rfl
 f156:=Tryz.func244.trans (congrArg some (by kernel_rfl))
 f165:=Tryz.func285.trans (congrArg some (by kernel_rfl))
 f166:=Tryz.func112.trans (congrArg some (by kernel_rfl))
 f169:=Tryz.func115.trans (congrArg some (by kernel_rfl))
 f240:=Tryz.func161.trans (congrArg some (by kernel_rfl))
 f241:=Tryz.func315.trans (congrArg some (by kernel_rfl))
 f276:=Tryz.func207.trans (congrArg some (by kernel_rfl))
 f277:=Tryz.func331.trans (congrArg some (by kernel_rfl))
 t0:=Tryz.underlying0
 a0:=Tryz.isAgg0
 z0:=Tryz.sizeOf0
 v0:=Tryz.zeroValue0
 t3:=Tryz.underlying3
 a3:=Tryz.isAgg3
 z3:=Tryz.sizeOf3
 v3:=Tryz.zeroValue3
 t4:=Tryz.underlying4
 a4:=Tryz.isAgg4
 z4:=Tryz.sizeOf4
 v4:=Tryz.zeroValue4
 t9:=Tryz.underlying9
 a9:=Tryz.isAgg9
 z9:=Tryz.sizeOf9
 v9:=Tryz.zeroValue9
 t20:=Tryz.underlying20
 a20:=Tryz.isAgg20
 z20:=Tryz.sizeOf20
 v20:=Tryz.zeroValue20
 t31:=Tryz.underlying81
 a31:=Tryz.isAgg81
 z31:=Tryz.sizeOf81
 v31:=Tryz.zeroValue81
 t37:=Tryz.underlying76
 a37:=Tryz.isAgg76
 z37:=Tryz.sizeOf76
 v37:=Tryz.zeroValue76
 t70:=Tryz.underlying185
 a70:=Tryz.isAgg185
 z70:=Tryz.sizeOf185
 v70:=Tryz.zeroValue185
 t72:=Tryz.underlying187
 a72:=Tryz.isAgg187
 z72:=Tryz.sizeOf187
 v72:=Tryz.zeroValue187
 t75:=Tryz.underlying190
 a75:=Tryz.isAgg190
 z75:=Tryz.sizeOf190
 v75:=Tryz.zeroValue190
 t76:=Tryz.underlying191
 a76:=Tryz.isAgg191
 z76:=Tryz.sizeOf191
 v76:=Tryz.zeroValue191
 t127:=Tryz.underlying233
 a127:=Tryz.isAgg233
 z127:=Tryz.sizeOf233
 v127:=Tryz.zeroValue233
 t164:=Tryz.underlying282
 a164:=Tryz.isAgg282
 z164:=Tryz.sizeOf282
 v164:=Tryz.zeroValue282}
theorem eI:Builder.Extra a0a jH:={
 sizeBuilder:=by kernel_rfl
 liesBuilder:=by kernel_rfl
 t5:=Tryz.underlying5
 a5:=Tryz.isAgg5
 z5:=Tryz.sizeOf5
 v5:=Tryz.zeroValue5
 infoByte:=by kernel_rfl
 cellsByte:=by kernel_rfl
 sizeByte:=by kernel_rfl
 neB5:=by decide}
open Go.RowKit in
theorem strings_Join_none (a:Option Addr) (c:Nat) (b:ByteArray) (w:a0l):
 a0o a0a 244 #[.slice a 0 c, .string b] w λe w'=>e= .returned (.string ⟨#[]⟩)/\w'=w:=Any.strings_Join_none tV eI a c b w
open Go.RowKit in
theorem strings_Join (b o c:Nat) (a:List ByteArray) (d:ByteArray) (w:a0l) (i:∀(j:Nat) x,a[j]? =some x->w.cell? ⟨b,o+j,none⟩=some (.string x)) (g:b<w.heap.size) (f:a.length<=140737488355328) (h:a.length<=c) (k:(Lib.join (a.map (·.data.toList)) d.data.toList).length<=140737488355328):
 a0o a0a 244 #[.slice (some ⟨b,o,none⟩) a.length c, .string d] w λe w'=>e= .returned (.string ⟨(Lib.join (a.map (·.data.toList)) d.data.toList).toArray⟩)/\Below w.heap.size w w':=Any.strings_Join tV eI b o c a d w i g f h k
def qw:a0c:=⟨λ|137=>246|217=>291|266=>323|n=>n,λ|9=>9|5=>5|3=>3|n=>n,λ|n=>n⟩
theorem yW:Go.Proofs.Lays.n137 a0a qw:={
 mixed:=by kernel_rfl
 f137:=Tryz.func246.trans (congrArg some (by kernel_rfl))
 f217:=Tryz.func291.trans (congrArg some (by kernel_rfl))
 f266:=Tryz.func323.trans (congrArg some (by kernel_rfl))
 t3:=Tryz.underlying3
 a3:=Tryz.isAgg3
 z3:=Tryz.sizeOf3
 v3:=Tryz.zeroValue3
 t5:=Tryz.underlying5
 a5:=Tryz.isAgg5
 z5:=Tryz.sizeOf5
 v5:=Tryz.zeroValue5
 t9:=Tryz.underlying9
 a9:=Tryz.isAgg9
 z9:=Tryz.sizeOf9
 v9:=Tryz.zeroValue9}
open Go.RowKit in
theorem strings_IndexByte (s:ByteArray) (c:Int) (w:a0l):
 a0o a0a 246 #[.string s, .int .u8 c] w λe w'=>e= .returned (.int .i64 (a0f s.data.toList c.toNat.toUInt8))/\w'=w:=Any.strings_IndexByte yW s c w
open Go.RowKit Go.Lib in
def qj:a0c:=⟨λ|219=>351|217=>291|225=>314|224=>313|267=>361|266=>323|314=>369|n=>n,λ|9=>9|3=>3|4=>4|5=>5|46=>218|146=>439|51=>277|n=>n,λ|1=>2|n=>n⟩
theorem yS:Go.Proofs.Lays.n219 a0a qj:={
 mixed:=by kernel_rfl
 f217:=Tryz.func291.trans (congrArg some (by kernel_rfl))
 f219:=Tryz.func351.trans (congrArg some (by kernel_rfl))
 f224:=Tryz.func313.trans (congrArg some (by kernel_rfl))
 f225:=Tryz.func314.trans (congrArg some (by kernel_rfl))
 f266:=Tryz.func323.trans (congrArg some (by kernel_rfl))
 f267:=Tryz.func361.trans (congrArg some (by kernel_rfl))
 f314:=Tryz.func369.trans (congrArg some (by kernel_rfl))
 t3:=Tryz.underlying3
 a3:=Tryz.isAgg3
 z3:=Tryz.sizeOf3
 v3:=Tryz.zeroValue3
 t4:=Tryz.underlying4
 a4:=Tryz.isAgg4
 z4:=Tryz.sizeOf4
 v4:=Tryz.zeroValue4
 t5:=Tryz.underlying5
 a5:=Tryz.isAgg5
 z5:=Tryz.sizeOf5
 v5:=Tryz.zeroValue5
 t9:=Tryz.underlying9
 a9:=Tryz.isAgg9
 z9:=Tryz.sizeOf9
 v9:=Tryz.zeroValue9
 t46:=Tryz.underlying218
 a46:=Tryz.isAgg218
 z46:=Tryz.sizeOf218
 v46:=Tryz.zeroValue218
 t51:=Tryz.underlying277
 a51:=Tryz.isAgg277
 z51:=Tryz.sizeOf277
 v51:=Tryz.zeroValue277
 t146:=Tryz.underlying439
 a146:=Tryz.isAgg439
 z146:=Tryz.sizeOf439
 v146:=Tryz.zeroValue439
 g1:=by kernel_rfl}
open Go.RowKit Go.Lib in
theorem stringslite_Index_one (s:ByteArray) (c:UInt8) (w:a0l):
 a0o a0a 351 #[.string s, .string ⟨#[c]⟩] w λe w'=>e= .returned (.int .i64 (a0f s.data.toList c))/\w'=w:=Any.stringslite_Index_one yS s c w
open Go.RowKit Go.Lib in
def qu:a0c:=⟨λ|151=>235|152=>284|137=>246|119=>312|224=>313|225=>314|217=>291|266=>323|n=>n,λ|9=>9|21=>21|4=>4|3=>3|5=>5|0=>0|46=>218|n=>n,λ|n=>n⟩
theorem yV:Go.Proofs.Lays.n151 a0a qu:={
 mixed:=by kernel_rfl
 f119:=Tryz.func312.trans (congrArg some (by kernel_rfl))
 f137:=Tryz.func246.trans (congrArg some (by kernel_rfl))
 f151:=Tryz.func235.trans (congrArg some (by kernel_rfl))
 f152:=Tryz.func284.trans (congrArg some (by kernel_rfl))
 f217:=Tryz.func291.trans (congrArg some (by kernel_rfl))
 f224:=Tryz.func313.trans (congrArg some (by kernel_rfl))
 f225:=Tryz.func314.trans (congrArg some (by kernel_rfl))
 f266:=Tryz.func323.trans (congrArg some (by kernel_rfl))
 t0:=Tryz.underlying0
 a0:=Tryz.isAgg0
 z0:=Tryz.sizeOf0
 v0:=Tryz.zeroValue0
 t3:=Tryz.underlying3
 a3:=Tryz.isAgg3
 z3:=Tryz.sizeOf3
 v3:=Tryz.zeroValue3
 t4:=Tryz.underlying4
 a4:=Tryz.isAgg4
 z4:=Tryz.sizeOf4
 v4:=Tryz.zeroValue4
 t5:=Tryz.underlying5
 a5:=Tryz.isAgg5
 z5:=Tryz.sizeOf5
 v5:=Tryz.zeroValue5
 t9:=Tryz.underlying9
 a9:=Tryz.isAgg9
 z9:=Tryz.sizeOf9
 v9:=Tryz.zeroValue9
 t21:=Tryz.underlying21
 a21:=Tryz.isAgg21
 z21:=Tryz.sizeOf21
 v21:=Tryz.zeroValue21
 t46:=Tryz.underlying218
 a46:=Tryz.isAgg218
 z46:=Tryz.sizeOf218
 v46:=Tryz.zeroValue218}
open Go.RowKit Go.Lib in
theorem strings_ContainsRune_ascii (s:ByteArray) (r:Int) (w:a0l) (a:0<=r) (b:r<128):
 a0o a0a 235 #[.string s, .int .i32 r] w λe w'=>e= .returned (.bool (decide (0<=a0f s.data.toList r.toNat.toUInt8)))/\w'=w:=Any.strings_ContainsRune_ascii yV s r w a b
def ql:a0c:=⟨λ|194=>187|n=>n,λ|31=>81|9=>9|3=>3|4=>4|0=>0|n=>n,λ|n=>n⟩
theorem tT:Go.Proofs.Lays.n194 a0a ql:={
 mixed:=by kernel_rfl
 f194:=Tryz.func187.trans (congrArg some (by kernel_rfl))
 t0:=Tryz.underlying0
 a0:=Tryz.isAgg0
 z0:=Tryz.sizeOf0
 v0:=Tryz.zeroValue0
 t3:=Tryz.underlying3
 a3:=Tryz.isAgg3
 z3:=Tryz.sizeOf3
 v3:=Tryz.zeroValue3
 t4:=Tryz.underlying4
 a4:=Tryz.isAgg4
 z4:=Tryz.sizeOf4
 v4:=Tryz.zeroValue4
 t9:=Tryz.underlying9
 a9:=Tryz.isAgg9
 z9:=Tryz.sizeOf9
 v9:=Tryz.zeroValue9
 t31:=Tryz.underlying81
 a31:=Tryz.isAgg81
 z31:=Tryz.sizeOf81
 v31:=Tryz.zeroValue81}
open Go.RowKit Go.Lib Go.Sort in
theorem slices_Compact_string (a b c:Nat) (zs:List (List UInt8)) (w:a0l) (d:Holds encStr w a b zs.toArray) (g:zs.length<=9223372036854775807) (f:zs.length<=c):
 a0o a0a 187 #[.slice (some ⟨a,b,none⟩) zs.length c] w λe w'=>e= .returned (.slice (some ⟨a,b,none⟩) (a0u zs).length c)/\∃q,w'=putRow encStr (Sort.ahead w q) a b (a0u zs++List.replicate (zs.length - (a0u zs).length) []).toArray:=Any.slices_Compact_string tT a b c zs w d g f
open Go.RowKit Go.Lib Go.Sort in
theorem slices_Compact_string_empty (a:Option Addr) (b:Nat) (w:a0l):
 a0o a0a 187 #[.slice a 0 b] w λe w'=>e= .returned (.slice a 0 b)/\w'=w:=Any.slices_Compact_string_empty tT a b w
def qp:a0c:=⟨λ|161=>282|231=>266|227=>268|233=>269|235=>271|228=>307|197=>278|151=>235|260=>310|152=>284|137=>246|119=>312|224=>313|225=>314|217=>291|266=>323|n=>n,λ|9=>9|4=>4|3=>3|5=>5|117=>328|116=>327|0=>0|124=>331|105=>334|21=>21|119=>383|46=>218|139=>386|138=>385|n=>n,λ|3=>0|4=>1|n=>n⟩
theorem yT:Go.Proofs.Lays.n161 a0a qp:={
 mixed:=by kernel_rfl
 f119:=Tryz.func312.trans (congrArg some (by kernel_rfl))
 f137:=Tryz.func246.trans (congrArg some (by kernel_rfl))
 f151:=Tryz.func235.trans (congrArg some (by kernel_rfl))
 f152:=Tryz.func284.trans (congrArg some (by kernel_rfl))
 f161:=Tryz.func282.trans (congrArg some (by kernel_rfl))
 f197:=Tryz.func278.trans (congrArg some (by kernel_rfl))
 f217:=Tryz.func291.trans (congrArg some (by kernel_rfl))
 f224:=Tryz.func313.trans (congrArg some (by kernel_rfl))
 f225:=Tryz.func314.trans (congrArg some (by kernel_rfl))
 f227:=Tryz.func268.trans (congrArg some (by kernel_rfl))
 f228:=Tryz.func307.trans (congrArg some (by kernel_rfl))
 f231:=Tryz.func266.trans (congrArg some (by kernel_rfl))
 f233:=Tryz.func269.trans (congrArg some (by kernel_rfl))
 f235:=Tryz.func271.trans (congrArg some (by kernel_rfl))
 f260:=Tryz.func310.trans (congrArg some (by kernel_rfl))
 f266:=Tryz.func323.trans (congrArg some (by kernel_rfl))
 t0:=Tryz.underlying0
 a0:=Tryz.isAgg0
 z0:=Tryz.sizeOf0
 v0:=Tryz.zeroValue0
 t3:=Tryz.underlying3
 a3:=Tryz.isAgg3
 z3:=Tryz.sizeOf3
 v3:=Tryz.zeroValue3
 t4:=Tryz.underlying4
 a4:=Tryz.isAgg4
 z4:=Tryz.sizeOf4
 v4:=Tryz.zeroValue4
 t5:=Tryz.underlying5
 a5:=Tryz.isAgg5
 z5:=Tryz.sizeOf5
 v5:=Tryz.zeroValue5
 t9:=Tryz.underlying9
 a9:=Tryz.isAgg9
 z9:=Tryz.sizeOf9
 v9:=Tryz.zeroValue9
 t21:=Tryz.underlying21
 a21:=Tryz.isAgg21
 z21:=Tryz.sizeOf21
 v21:=Tryz.zeroValue21
 t46:=Tryz.underlying218
 a46:=Tryz.isAgg218
 z46:=Tryz.sizeOf218
 v46:=Tryz.zeroValue218
 t105:=Tryz.underlying334
 a105:=Tryz.isAgg334
 z105:=Tryz.sizeOf334
 v105:=Tryz.zeroValue334
 t116:=Tryz.underlying327
 a116:=Tryz.isAgg327
 z116:=Tryz.sizeOf327
 t117:=Tryz.underlying328
 a117:=Tryz.isAgg328
 z117:=Tryz.sizeOf328
 v117:=Tryz.zeroValue328
 t119:=Tryz.underlying383
 a119:=Tryz.isAgg383
 z119:=Tryz.sizeOf383
 t124:=Tryz.underlying331
 a124:=Tryz.isAgg331
 z124:=Tryz.sizeOf331
 v124:=Tryz.zeroValue331
 t138:=Tryz.underlying385
 a138:=Tryz.isAgg385
 z138:=Tryz.sizeOf385
 v138:=Tryz.zeroValue385
 t139:=Tryz.underlying386
 a139:=Tryz.isAgg386
 z139:=Tryz.sizeOf386
 v139:=Tryz.zeroValue386
 g3:=by kernel_rfl
 g4:=by kernel_rfl}
open Go.Shelf
def pK:a0c:=⟨λ|6=>80|15=>136|14=>135|28=>199|29=>200|20=>191|21=>192|22=>193|23=>194|24=>195|25=>196|26=>197|27=>198|46=>260|47=>261|48=>262|49=>263|50=>264|57=>306|n=>n,λ|22=>52|24=>36|25=>103|3=>3|39=>218|0=>0|53=>277|55=>143|4=>4|46=>271|45=>270|50=>112|5=>5|9=>9|66=>317|70=>320|76=>367|77=>368|n=>n,λ|n=>n⟩
theorem tF:a0h a0a pK:={
 mixed:=by kernel_rfl
 f6:=⟨Tryz.f80.name,by decide,Tryz.func80.trans (congrArg some (by kernel_rfl))⟩
 f14:=⟨Tryz.f135.name,by decide,Tryz.func135.trans (congrArg some (by kernel_rfl))⟩
 f15:=Tryz.func136.trans (congrArg some (by kernel_rfl))
 f20:=⟨Tryz.f191.name,by decide,Tryz.func191.trans (congrArg some (by kernel_rfl))⟩
 f21:=⟨Tryz.f192.name,by decide,Tryz.func192.trans (congrArg some (by kernel_rfl))⟩
 f22:=⟨Tryz.f193.name,by decide,Tryz.func193.trans (congrArg some (by kernel_rfl))⟩
 f23:=⟨Tryz.f194.name,by decide,Tryz.func194.trans (congrArg some (by kernel_rfl))⟩
 f24:=⟨Tryz.f195.name,by decide,Tryz.func195.trans (congrArg some (by kernel_rfl))⟩
 f25:=⟨Tryz.f196.name,by decide,Tryz.func196.trans (congrArg some (by kernel_rfl))⟩
 f26:=⟨Tryz.f197.name,by decide,Tryz.func197.trans (congrArg some (by kernel_rfl))⟩
 f27:=⟨Tryz.f198.name,by decide,Tryz.func198.trans (congrArg some (by kernel_rfl))⟩
 f28:=Tryz.func199.trans (congrArg some (by kernel_rfl))
 f29:=Tryz.func200.trans (congrArg some (by kernel_rfl))
 f46:=⟨Tryz.f260.name,by decide,Tryz.func260.trans (congrArg some (by kernel_rfl))⟩
 f47:=Tryz.func261.trans (congrArg some (by kernel_rfl))
 f48:=Tryz.func262.trans (congrArg some (by kernel_rfl))
 f49:=⟨Tryz.f263.name,by decide,Tryz.func263.trans (congrArg some (by kernel_rfl))⟩
 f50:=⟨Tryz.f264.name,by decide,Tryz.func264.trans (congrArg some (by kernel_rfl))⟩
 f57:=⟨Tryz.f306.name,by decide,Tryz.func306.trans (congrArg some (by kernel_rfl))⟩
 t0:=Tryz.underlying0
 a0:=Tryz.isAgg0
 z0:=Tryz.sizeOf0
 v0:=Tryz.zeroValue0
 t3:=Tryz.underlying3
 a3:=Tryz.isAgg3
 z3:=Tryz.sizeOf3
 v3:=Tryz.zeroValue3
 t4:=Tryz.underlying4
 a4:=Tryz.isAgg4
 z4:=Tryz.sizeOf4
 v4:=Tryz.zeroValue4
 t5:=Tryz.underlying5
 a5:=Tryz.isAgg5
 z5:=Tryz.sizeOf5
 v5:=Tryz.zeroValue5
 t9:=Tryz.underlying9
 a9:=Tryz.isAgg9
 z9:=Tryz.sizeOf9
 v9:=Tryz.zeroValue9
 t22:=Tryz.underlying52
 a22:=Tryz.isAgg52
 z22:=Tryz.sizeOf52
 v22:=Tryz.zeroValue52
 t25:=Tryz.underlying103
 a25:=Tryz.isAgg103
 z25:=Tryz.sizeOf103
 v25:=Tryz.zeroValue103
 t39:=Tryz.underlying218
 a39:=Tryz.isAgg218
 z39:=Tryz.sizeOf218
 v39:=Tryz.zeroValue218
 t45:=Tryz.underlying270
 a45:=Tryz.isAgg270
 z45:=Tryz.sizeOf270
 v45:=Tryz.zeroValue270
 t46:=Tryz.underlying271
 a46:=Tryz.isAgg271
 z46:=Tryz.sizeOf271
 v46:=Tryz.zeroValue271
 t50:=Tryz.underlying112
 a50:=Tryz.isAgg112
 z50:=Tryz.sizeOf112
 v50:=Tryz.zeroValue112
 t53:=Tryz.underlying277
 a53:=Tryz.isAgg277
 z53:=Tryz.sizeOf277
 v53:=Tryz.zeroValue277
 t55:=Tryz.underlying143
 a55:=Tryz.isAgg143
 z55:=Tryz.sizeOf143
 v55:=Tryz.zeroValue143
 t66:=Tryz.underlying317
 a66:=Tryz.isAgg317
 z66:=Tryz.sizeOf317
 v66:=Tryz.zeroValue317
 t70:=Tryz.underlying320
 a70:=Tryz.isAgg320
 z70:=Tryz.sizeOf320
 v70:=Tryz.zeroValue320
 t76:=Tryz.underlying367
 a76:=Tryz.isAgg367
 z76:=Tryz.sizeOf367
 v76:=Tryz.zeroValue367
 t77:=Tryz.underlying368
 a77:=Tryz.isAgg368
 z77:=Tryz.sizeOf368
 v77:=Tryz.zeroValue368}
def nR:a0c:=⟨λ|6=>120|15=>136|14=>164|28=>199|29=>200|20=>209|21=>210|22=>211|23=>212|24=>213|25=>214|26=>215|27=>216|46=>274|47=>261|48=>262|49=>275|50=>276|57=>309|n=>n,λ|22=>131|24=>134|25=>140|3=>3|39=>218|0=>0|53=>277|55=>143|4=>4|46=>271|45=>270|50=>112|5=>5|9=>9|66=>317|70=>320|76=>367|77=>368|n=>n,λ|n=>n⟩
theorem pL:a0h a0a nR:={
 mixed:=by kernel_rfl
 f6:=⟨Tryz.f120.name,by decide,Tryz.func120.trans (congrArg some (by kernel_rfl))⟩
 f14:=⟨Tryz.f164.name,by decide,Tryz.func164.trans (congrArg some (by kernel_rfl))⟩
 f15:=Tryz.func136.trans (congrArg some (by kernel_rfl))
 f20:=⟨Tryz.f209.name,by decide,Tryz.func209.trans (congrArg some (by kernel_rfl))⟩
 f21:=⟨Tryz.f210.name,by decide,Tryz.func210.trans (congrArg some (by kernel_rfl))⟩
 f22:=⟨Tryz.f211.name,by decide,Tryz.func211.trans (congrArg some (by kernel_rfl))⟩
 f23:=⟨Tryz.f212.name,by decide,Tryz.func212.trans (congrArg some (by kernel_rfl))⟩
 f24:=⟨Tryz.f213.name,by decide,Tryz.func213.trans (congrArg some (by kernel_rfl))⟩
 f25:=⟨Tryz.f214.name,by decide,Tryz.func214.trans (congrArg some (by kernel_rfl))⟩
 f26:=⟨Tryz.f215.name,by decide,Tryz.func215.trans (congrArg some (by kernel_rfl))⟩
 f27:=⟨Tryz.f216.name,by decide,Tryz.func216.trans (congrArg some (by kernel_rfl))⟩
 f28:=Tryz.func199.trans (congrArg some (by kernel_rfl))
 f29:=Tryz.func200.trans (congrArg some (by kernel_rfl))
 f46:=⟨Tryz.f274.name,by decide,Tryz.func274.trans (congrArg some (by kernel_rfl))⟩
 f47:=Tryz.func261.trans (congrArg some (by kernel_rfl))
 f48:=Tryz.func262.trans (congrArg some (by kernel_rfl))
 f49:=⟨Tryz.f275.name,by decide,Tryz.func275.trans (congrArg some (by kernel_rfl))⟩
 f50:=⟨Tryz.f276.name,by decide,Tryz.func276.trans (congrArg some (by kernel_rfl))⟩
 f57:=⟨Tryz.f309.name,by decide,Tryz.func309.trans (congrArg some (by kernel_rfl))⟩
 t0:=Tryz.underlying0
 a0:=Tryz.isAgg0
 z0:=Tryz.sizeOf0
 v0:=Tryz.zeroValue0
 t3:=Tryz.underlying3
 a3:=Tryz.isAgg3
 z3:=Tryz.sizeOf3
 v3:=Tryz.zeroValue3
 t4:=Tryz.underlying4
 a4:=Tryz.isAgg4
 z4:=Tryz.sizeOf4
 v4:=Tryz.zeroValue4
 t5:=Tryz.underlying5
 a5:=Tryz.isAgg5
 z5:=Tryz.sizeOf5
 v5:=Tryz.zeroValue5
 t9:=Tryz.underlying9
 a9:=Tryz.isAgg9
 z9:=Tryz.sizeOf9
 v9:=Tryz.zeroValue9
 t22:=Tryz.underlying131
 a22:=Tryz.isAgg131
 z22:=Tryz.sizeOf131
 v22:=Tryz.zeroValue131
 t25:=Tryz.underlying140
 a25:=Tryz.isAgg140
 z25:=Tryz.sizeOf140
 v25:=Tryz.zeroValue140
 t39:=Tryz.underlying218
 a39:=Tryz.isAgg218
 z39:=Tryz.sizeOf218
 v39:=Tryz.zeroValue218
 t45:=Tryz.underlying270
 a45:=Tryz.isAgg270
 z45:=Tryz.sizeOf270
 v45:=Tryz.zeroValue270
 t46:=Tryz.underlying271
 a46:=Tryz.isAgg271
 z46:=Tryz.sizeOf271
 v46:=Tryz.zeroValue271
 t50:=Tryz.underlying112
 a50:=Tryz.isAgg112
 z50:=Tryz.sizeOf112
 v50:=Tryz.zeroValue112
 t53:=Tryz.underlying277
 a53:=Tryz.isAgg277
 z53:=Tryz.sizeOf277
 v53:=Tryz.zeroValue277
 t55:=Tryz.underlying143
 a55:=Tryz.isAgg143
 z55:=Tryz.sizeOf143
 v55:=Tryz.zeroValue143
 t66:=Tryz.underlying317
 a66:=Tryz.isAgg317
 z66:=Tryz.sizeOf317
 v66:=Tryz.zeroValue317
 t70:=Tryz.underlying320
 a70:=Tryz.isAgg320
 z70:=Tryz.sizeOf320
 v70:=Tryz.zeroValue320
 t76:=Tryz.underlying367
 a76:=Tryz.isAgg367
 z76:=Tryz.sizeOf367
 v76:=Tryz.zeroValue367
 t77:=Tryz.underlying368
 a77:=Tryz.isAgg368
 z77:=Tryz.sizeOf368
 v77:=Tryz.zeroValue368}
def pJ:a0c:=⟨λ|6=>132|15=>136|14=>190|28=>199|29=>200|20=>252|21=>253|22=>254|23=>255|24=>256|25=>257|26=>258|27=>259|46=>303|47=>261|48=>262|49=>304|50=>305|57=>329|n=>n,λ|22=>65|24=>67|25=>215|3=>3|39=>218|0=>0|53=>277|55=>143|4=>4|46=>271|45=>270|50=>112|5=>5|9=>9|66=>317|70=>320|76=>367|77=>368|n=>n,λ|n=>n⟩
theorem tE:a0h a0a pJ:={
 mixed:=by kernel_rfl
 f6:=⟨Tryz.f132.name,by decide,Tryz.func132.trans (congrArg some (by kernel_rfl))⟩
 f14:=⟨Tryz.f190.name,by decide,Tryz.func190.trans (congrArg some (by kernel_rfl))⟩
 f15:=Tryz.func136.trans (congrArg some (by kernel_rfl))
 f20:=⟨Tryz.f252.name,by decide,Tryz.func252.trans (congrArg some (by kernel_rfl))⟩
 f21:=⟨Tryz.f253.name,by decide,Tryz.func253.trans (congrArg some (by kernel_rfl))⟩
 f22:=⟨Tryz.f254.name,by decide,Tryz.func254.trans (congrArg some (by kernel_rfl))⟩
 f23:=⟨Tryz.f255.name,by decide,Tryz.func255.trans (congrArg some (by kernel_rfl))⟩
 f24:=⟨Tryz.f256.name,by decide,Tryz.func256.trans (congrArg some (by kernel_rfl))⟩
 f25:=⟨Tryz.f257.name,by decide,Tryz.func257.trans (congrArg some (by kernel_rfl))⟩
 f26:=⟨Tryz.f258.name,by decide,Tryz.func258.trans (congrArg some (by kernel_rfl))⟩
 f27:=⟨Tryz.f259.name,by decide,Tryz.func259.trans (congrArg some (by kernel_rfl))⟩
 f28:=Tryz.func199.trans (congrArg some (by kernel_rfl))
 f29:=Tryz.func200.trans (congrArg some (by kernel_rfl))
 f46:=⟨Tryz.f303.name,by decide,Tryz.func303.trans (congrArg some (by kernel_rfl))⟩
 f47:=Tryz.func261.trans (congrArg some (by kernel_rfl))
 f48:=Tryz.func262.trans (congrArg some (by kernel_rfl))
 f49:=⟨Tryz.f304.name,by decide,Tryz.func304.trans (congrArg some (by kernel_rfl))⟩
 f50:=⟨Tryz.f305.name,by decide,Tryz.func305.trans (congrArg some (by kernel_rfl))⟩
 f57:=⟨Tryz.f329.name,by decide,Tryz.func329.trans (congrArg some (by kernel_rfl))⟩
 t0:=Tryz.underlying0
 a0:=Tryz.isAgg0
 z0:=Tryz.sizeOf0
 v0:=Tryz.zeroValue0
 t3:=Tryz.underlying3
 a3:=Tryz.isAgg3
 z3:=Tryz.sizeOf3
 v3:=Tryz.zeroValue3
 t4:=Tryz.underlying4
 a4:=Tryz.isAgg4
 z4:=Tryz.sizeOf4
 v4:=Tryz.zeroValue4
 t5:=Tryz.underlying5
 a5:=Tryz.isAgg5
 z5:=Tryz.sizeOf5
 v5:=Tryz.zeroValue5
 t9:=Tryz.underlying9
 a9:=Tryz.isAgg9
 z9:=Tryz.sizeOf9
 v9:=Tryz.zeroValue9
 t22:=Tryz.underlying65
 a22:=Tryz.isAgg65
 z22:=Tryz.sizeOf65
 v22:=Tryz.zeroValue65
 t25:=Tryz.underlying215
 a25:=Tryz.isAgg215
 z25:=Tryz.sizeOf215
 v25:=Tryz.zeroValue215
 t39:=Tryz.underlying218
 a39:=Tryz.isAgg218
 z39:=Tryz.sizeOf218
 v39:=Tryz.zeroValue218
 t45:=Tryz.underlying270
 a45:=Tryz.isAgg270
 z45:=Tryz.sizeOf270
 v45:=Tryz.zeroValue270
 t46:=Tryz.underlying271
 a46:=Tryz.isAgg271
 z46:=Tryz.sizeOf271
 v46:=Tryz.zeroValue271
 t50:=Tryz.underlying112
 a50:=Tryz.isAgg112
 z50:=Tryz.sizeOf112
 v50:=Tryz.zeroValue112
 t53:=Tryz.underlying277
 a53:=Tryz.isAgg277
 z53:=Tryz.sizeOf277
 v53:=Tryz.zeroValue277
 t55:=Tryz.underlying143
 a55:=Tryz.isAgg143
 z55:=Tryz.sizeOf143
 v55:=Tryz.zeroValue143
 t66:=Tryz.underlying317
 a66:=Tryz.isAgg317
 z66:=Tryz.sizeOf317
 v66:=Tryz.zeroValue317
 t70:=Tryz.underlying320
 a70:=Tryz.isAgg320
 z70:=Tryz.sizeOf320
 v70:=Tryz.zeroValue320
 t76:=Tryz.underlying367
 a76:=Tryz.isAgg367
 z76:=Tryz.sizeOf367
 v76:=Tryz.zeroValue367
 t77:=Tryz.underlying368
 a77:=Tryz.isAgg368
 z77:=Tryz.sizeOf368
 v77:=Tryz.zeroValue368}
end
section
open Go.RowKit Go.Maps
theorem qI (a b:Bs) (h:(32:UInt8)∉a):a0f (a++32::b) 32=a.length:=by
 induction a with
 |nil=>rfl
 |cons c a ih=>
  have d:c≠32:=λe=>h (by rw [e];exact a0t);have ih:=ih λg=>h (a0q _ g);show (if c==32 then 0 else if a0f (a++32::b) 32== -1 then -1 else a0f (a++32::b) 32+1)=_;have f:((a.length:Int)== -1)=false:=by simp
  rw [ih,if_neg (by simpa using d),f];simp
theorem zx (a b:Bs) (w:a0l) (h:(32:UInt8)∉a) (g:a.length+b.length<=1000000000):a0o a0a 340 #[S (a++32::b),S [32]] w λe w'=>e= .returned (.tuple #[S a,S b, .bool true])/\Below w.heap.size w w':=by
 have c:=a0g (stringslite_Index_one ⟨(a++32::b).toArray⟩ 32 w);have d:a0f (⟨(a++32::b).toArray⟩:ByteArray).data.toList 32=(a.length:Int):=by simpa using qI a b h
 rw [d] at c;have f:IntKind.i64.wrap ((a.length:Int)+1)=(a.length:Int)+1:=IntWalk.i64_in _ (by omega);clear d;go_enter Tryz.func340,Tryz.ntmps340;go_wp2_with (go_at_call 351;((with_reducible refine a0b c.out ?_);rintro e w1 ⟨rfl,rfl⟩))
 go_quiet (fail)
 go_wp2_with fail
 refine bodyPost_ret (v:= .tuple #[S a,S b, .bool true]) ?_ rfl ⟨rfl,?_⟩
 · simp [results,Tryz.results340,go_sem];rw [List.take_of_length_le (by simp),show a++32::b=(a++[32])++b from by simp,List.drop_left' (by simp)]
 · exact ⟨rfl,rfl,rfl,a0j _,λ_ _=>rfl⟩
theorem zy (a b:Bs) (w:a0l) (h:(32:UInt8)∉a) (f:a.length+b.length<=1000000000):a0o a0a 324 #[S (a++32::b),S [32]] w λe w'=>e= .returned (.tuple #[S a,S b, .bool true])/\Below w.heap.size w w':=by
 have c:=a0g (zx a b w h f);go_enter Tryz.func324,Tryz.ntmps324;go_wp2_with (go_at_call 340;((with_reducible refine a0b c.out ?_);rintro e w1 ⟨rfl,d⟩))
 refine bodyPost_ret (v:= .tuple #[S a,S b, .bool true]) (by simp [results,Tryz.results324,go_sem]) rfl ⟨rfl,d⟩
theorem zb:Keyed a0a 21:=int_keyed Tryz.underlying21
theorem yi (a:Nat) (h:a<2147483648):(Lit.int .i32 a).wf=true:=by
 simp only [Lit.wf,IntKind.min,IntKind.max,IntKind.signed,IntKind.bits];simp;omega
def gT:dZ a0a 21 Nat where
 kv c:= .int .i32 c
 kl c:= .int .i32 c
 ok c:=c<2147483648
 keyed:=zb
 key c h:=keyOf_int_mk Tryz.underlying21 (yi c h)
 inj a b h:=by have:(a:Int)=b:=by simpa using h
               omega
theorem jF (w:a0l):(zeroValue 9).run a0a w= .ok (.string ⟨#[]⟩) w:=by kernel_rfl
def ev (p:Bs×Bs):List (Nat×a0s):=(runesR p.2).map λc=>(c,S p.1)
def dv (a:List (Bs×Bs)):List (Nat×a0s):=a.flatMap ev
def rowText (p:Bs×Bs):Bs:=p.1++32::p.2
theorem yz {K:Type} [DecidableEq K] (l:List (K×a0s)) (k:K) (v:a0s) (h:k∉l.map (·.1)):putL l k v=l++[(k,v)]:=by
 unfold putL cB;rw [List.filter_eq_self.2];intro p a;simp only [Bool.not_eq_true',decide_eq_false_iff_not];intro e;exact h (List.mem_map.2 ⟨p,a,e⟩)
theorem kY {w:a0l} {k:Nat} {s:ByteArray} {p:Nat} (h:w.heap[k]? =some (.stringIter s p)):w.iterPos k=p:=by simp [World.iterPos,h]
def iw (lo a:Nat) (w:a0l) (v:a0s) (l:List Bs):Prop:=aH lo a w v l.length (l.map λs=>S s)
theorem iw.at {lo e:Nat} {w:a0l} {v:a0s} {l:List Bs} (h:iw lo e w v l) (k:Nat) (f:k<l.length):
 ∃b c d,v= .slice (some ⟨b,c,none⟩) l.length d/\lo<=b/\b<e/\w.cell? ⟨b,c+k,none⟩=some (S l[k]):=by
 obtain ⟨a,d,n,h⟩:=h;obtain ⟨b,c,m,g,i,j⟩:=h (by cases l with |nil=>simp at f|cons p l=>simp);subst m;exact ⟨b,c,d,n,g,i,j _ _ (by simp [f])⟩
theorem iw.shape {lo c:Nat} {w:a0l} {v:a0s} {l:List Bs} (h:iw lo c w v l):∃a b,v= .slice a l.length b:=by obtain ⟨a,b,d,_⟩:=h;exact ⟨a,b,d⟩
theorem o7 (a:List (Bs×Bs)) (v:a0s) (w:a0l) (o:iw 0 w.heap.size w v (a.map rowText)) (V:∀p∈a,(32:UInt8)∉p.1/\p.1.length+p.2.length<=1000) (hn:a.length<=1000) (M:((dv a).map (·.1)).Nodup) (b1:(dv a).length<=1000000):
 a0o a0a 292 #[v] w λe w'=>e= .returned (.map (some w.heap.size))/\ak gT w' w.heap.size (dv a)/\Below w.heap.size w w':=by
 have aS:= @run_makeMap a0a;have HV:Hid (∀W,Below w.heap.size w W->iw 0 w.heap.size W v (a.map rowText)):=λW h=>aH.kept o (bd h (a0j _));obtain ⟨sa,ax,rfl⟩:=o.shape;rw [List.length_map];have HR:=a0g V;have HD:=a0g M;clear V M o;go_enter Tryz.func292,Tryz.ntmps292;go_wp2;go_loopw [14] (λi wr=>∃k:Nat,k<=a.length/\i= .int .i64 k/\Hid (ak gT wr w.heap.size (dv (a.take k)))/\Below w.heap.size w wr) (λi _=>a.length - (intOf i).toNat)
 case atStart=>exact ⟨0,Nat.zero_le _,rfl,ak.made w,(Below.refl _ _).alloc (a0j _) _⟩
 case round=>
  obtain ⟨k,hk,rfl,u,s⟩:=hrel;by_cases hlt:k<a.length
  · obtain ⟨b,b3,ay,o,_,_,B⟩:=(HV.out wr s).at k (by simpa using hlt);cases o;obtain ⟨H,ac⟩:=HR _ (List.getElem_mem hlt);rw [List.getElem_map] at B;have F:Hid (dv (a.take (k+1))=dv (a.take k)++ev a[k]):=by show dv _=_;unfold dv;rw [List.take_succ_eq_append_getElem hlt,a0r];simp
    generalize a[k]=rw_ at *;obtain ⟨A,L⟩:=rw_;unfold rowText at B;simp only at B H ac;go_wp2_with (go_at_call 324;((with_reducible refine a0b (zy A L _ H (by omega)) ?_);rintro e w1 ⟨rfl,x⟩))
    have y:ak gT w1 w.heap.size (dv (a.take k)):=u.block (x.block _ u.lt);have a7:=s.size;have aC:=x.size;have J:Below w.heap.size w w1:=btr s x a7;have ao:w.heap.size<w1.heap.size:=y.lt;have a1:=a0g y;have HH:=a0g (fM L);have N:(dv (a.take k)++ev (A,L)).map (·.1)<+:(dv a).map (·.1):=by rw [<- F.out];unfold dv;rw [<- List.take_append_drop (k+1) a,a0r,a0k];simp
    have C:=a0g N;clear y N;go_loopw [] (λq=>∃(d:Nat) (g j:List Nat),q.heap[w1.heap.size]? =some (.stringIter ⟨L.toArray⟩ d)/\Below w.heap.size w q/\Hid (d<=L.length)/\Hid (g++j=runesR L)/\Hid (fh ⟨L.toArray⟩ d j)/\Hid (ak gT q w.heap.size (dv (a.take k)++g.map λc=>(c,S A)))) (λq=>L.length - q.iterPos w1.heap.size)
    case atStart=>exact ⟨0,[],runesR L,World.iter_heap w1 _ 0,btr J ((Below.refl _ _).alloc (a0j _) _) J.size,Nat.zero_le _,rfl,HH.out,by rw [List.map_nil,List.append_nil];exact a1.out.block (Below.heap_alloc _ _ _ ao)⟩
    case round=>
     obtain ⟨d,g,j,m,I,av,n,E,D⟩:=hrel;have aT:=kY m;have b0:w1.heap.size<wr.heap.size:=(Array.getElem?_eq_some_iff.1 m).1;cases j with
     |nil=>
      have al:¬d<(⟨L.toArray⟩:ByteArray).size:=by have:d=(⟨L.toArray⟩:ByteArray).size:=E.out;omega
      have U:∀l,(Instr.next (.pointer (some ⟨w1.heap.size,0,none⟩)) true l).run a0a wr=_:=λl=>Lib.run_next_end_at wr w1.heap.size ⟨L.toArray⟩ d l m al;go_wp2_with fail
      go_roundw
      case rel=> refine ⟨k+1,by omega,by go_num,?_,I⟩;rw [F.out];have f:=D.out;have r:=n.out;rw [List.append_nil] at r;rw [r] at f;exact f
      case measure=>simp [intOf];omega
     |cons c j=>
      obtain ⟨hp,K,b2,Z,X⟩:=E.out;have U:∀l,(Instr.next (.pointer (some ⟨w1.heap.size,0,none⟩)) true l).run a0a wr=_:=λl=>Lib.run_next_any_at wr w1.heap.size ⟨L.toArray⟩ d l m hp;have O:=Lib.iterAt_heap wr w1.heap.size ⟨L.toArray⟩ d (d+(a0i ⟨L.toArray⟩ d).2) m;have a6:=Lib.below_iterAt I (k:=w1.heap.size) (by omega) ⟨L.toArray⟩ (d+(a0i ⟨L.toArray⟩ d).2);have P:ak gT (wr.iterAt w1.heap.size ⟨L.toArray⟩ (d+(a0i ⟨L.toArray⟩ d).2)) w.heap.size _:=D.out.block (Lib.iterAt_other _ _ _ _ _ (by omega));have au:=Lib.iterAt_size wr w1.heap.size ⟨L.toArray⟩ (d+(a0i ⟨L.toArray⟩ d).2);rw [K] at U;have R:c∈runesR L:=by rw [<- n.out];simp
      have a8:c<2147483648:=by have:=uH L c R;omega
      have T:c∉(dv (a.take k)++g.map λc=>(c,S A)).map (·.1):=by have f:=HD.sublist C.sublist;rw [show ev (A,L)=(g++c::j).map (λc=>(c,S A)) from by rw [n.out];rfl,a0k (l₁:=g), <- a0n,a0k,List.nodup_append] at f;intro a9;exact f.2.2 c a9 c (by simp) rfl
      have ad:(dv (a.take k)++g.map λc=>(c,S A)).length<maxLen:=by have f:=C.length_le;have r:=congrArg List.length n.out;simp only [List.length_map,List.length_append,List.length_cons,ev] at f r ⊢;unfold maxLen;omega
      have a4:=a0g (yz _ c (S A) T);generalize (wr.iterAt w1.heap.size ⟨L.toArray⟩ (d+(a0i ⟨L.toArray⟩ d).2))=W1 at *;generalize (a0i ⟨L.toArray⟩ d).2=z at *;have a2:=a0g P;have a5:=a0g X;have a0:d+z<=L.length:=Z;clear P X R T m K au Z;go_wp2_with (at_mapUpdate;refine tn _ rfl _ _ _ 308 rfl 9 Tryz.underlying308 w.heap.size _ rfl a2.out ad c a8 rfl (S A) rfl ?_;intro w2 Q Y;have a3:=a0g Q;have G:=a0g Y;clear Q Y)
      go_roundw
      case rel=>
       have t:=dT G.out;refine ⟨d+z,(t.block _ (by omega)).trans O,btr a6 (t.below (a0j _)) (a0j _),a0,g++[c],j,?_,a5.out,?_⟩
       · show _=_;rw [a0n];exact n.out
       · have f:=a3.out;rw [a4.out] at f;show ak _ _ _ _;rw [a0k, <- a0n];exact f
      case measure=> have t:=dT G.out;rw [kY ((t.block _ (by omega)).trans O)];have:=a0;omega
  · have:k=a.length:=by omega
    subst this;go_wp2_with fail
    go_ret;refine ⟨rfl,?_,s⟩;have f:=u.out;rw [List.take_length] at f;exact f
def rowsS:List (Bs×Bs):=rowsK.map λp=>(p.1,p.2.flatMap enc)
theorem r6:∀p∈rowsK,runesR (p.2.flatMap enc)=p.2:=by decide+kernel
theorem tC:dv rowsS=rowsK.flatMap λp=>p.2.map λc=>(c,S p.1):=by
 unfold dv rowsS;rw [List.flatMap_map];have:∀l:List (Bs×List Nat),(∀p∈l,runesR (p.2.flatMap enc)=p.2)->l.flatMap (λa=>ev (a.1,a.2.flatMap enc))=l.flatMap λp=>p.2.map λc=>(c,S p.1):=by
  intro l;induction l with
  |nil=>intro _;rfl
  |cons p l ih=>
   intro h;rw [a0m,a0m,ih λq b=>h q (a0q _ b)];congr 1
   unfold ev;simp only;rw [h p a0t]
 exact this rowsK r6
theorem pD:((dv rowsS).map (·.1))=rowsK.flatMap (·.2):=by
 rw [tC,List.map_flatMap];congr 1
 funext p
 rw [List.map_map];exact List.map_id' _
theorem ur:((dv rowsS).map (·.1)).Nodup:=by rw [pD];decide+kernel
theorem pC (c:Nat):lookL (dv rowsS) c=(rowIn c rowsK).map λs=>S s:=by
 rw [tC];have:∀l:List (Bs×List Nat),lookL (l.flatMap λp=>p.2.map λc=>(c,S p.1)) c=(rowIn c l).map λs=>S s:=by
  intro l;induction l with
  |nil=>rfl
  |cons p l ih=>
   obtain ⟨s,m⟩:=p;unfold rowIn;unfold lookL at ih ⊢;rw [a0m,List.find?_append];by_cases h:m.contains c=true
   · rw [if_pos h];have b:c∈m:=by simpa using h
     have a:(List.find? (λp:Nat×a0s=>decide (p.1=c)) (m.map λc=>(c,S s)))=some (c,S s):=by
      clear ih h;induction m with
      |nil=>cases b
      |cons d m ihm=>
       rw [List.map_cons,List.find?_cons];by_cases e:d=c
       · simp [e]
       · simp only [e,decide_false];exact ihm (by rcases List.mem_cons.1 b with h|h;exact absurd h.symm e;exact h)
     rw [a];rfl
   · rw [if_neg h];have a:(List.find? (λp:Nat×a0s=>decide (p.1=c)) (m.map λc=>(c,S s)))=none:=by rw [List.find?_eq_none];intro q g e;obtain ⟨d,f,rfl⟩:=List.mem_map.1 g;simp at e;subst e;exact h (by simpa using f)
     rw [a];exact ih
 exact this rowsK
end
section
open Go.RowKit Go.Maps
theorem cD (c f t:Int) (w:a0l) (h:f<=c/\c<=t):a0o a0a 293 #[.int .i32 c, .int .i32 f, .int .i32 t] w λe w'=>e= .returned (.bool true)/\w'=w:=by
 obtain ⟨a,b⟩:=h;go_enter Tryz.func293,Tryz.ntmps293;go_wp2_with fail
 go_ret;exact ⟨rfl,rfl⟩
theorem bS (c f t:Int) (w:a0l) (h:c<f∨t<c):a0o a0a 293 #[.int .i32 c, .int .i32 f, .int .i32 t] w λe w'=>e= .returned (.bool false)/\w'=w:=by
 by_cases h1:c<f
 · go_enter Tryz.func293,Tryz.ntmps293;go_wp2_with fail
   go_ret;exact ⟨rfl,rfl⟩
 · have a:t<c:=by omega
   have b:f<=c:=by omega
   have d:decide (c<=t)=false:=by simpa using a
   clear h h1 a;go_enter Tryz.func293,Tryz.ntmps293;go_wp2_with fail
   go_ret;exact ⟨rfl,rfl⟩
theorem wo (x:ByteArray):a0p x=S (o0 x):=congrArg a0p (ByteArray.ext (by simp [o0]))
theorem dD (c:Nat) (i:Int) (h:i=c):a0p (Utf8.encode i)=S (enc c):=by
 subst h;exact wo _
theorem dl {a b:a0s} (h:a=b):Ending.returned a= .returned b:=by rw [h]
theorem xx (c:Nat) (b:Nat) (w:a0l) (p:c<=1114111) (n:ak gT w b (dv rowsS)):a0o a0a 249 #[.int .i32 c, .map (some b)] w λe w'=>e= .returned (S (bx c))/\w'=w:=by
 have f:=a0g n;have l:IntKind.i32.wrap ((c:Int)+32)=((c+32:Nat):Int):=IntWalk.i32_in _ (by omega);have m:=a0g l;clear n l;by_cases k1:(97<=c/\c<=122)
 · have a:Hid (bx c=enc c):=by show bx c=_;unfold bx;rw [if_pos (.inl k1)]
   go_enter Tryz.func249,Tryz.ntmps249;go_wp2_with (go_at_call 293;((with_reducible refine a0b (cD _ _ _ _ (by omega)) ?_);rintro e w1 ⟨rfl,rfl⟩))
   go_ret;exact ⟨dl (by rw [a.out];first |exact dD _ _ rfl|exact dD _ _ (by simp)),rfl⟩
 · by_cases k2:48<=c/\c<=57
   · have a:Hid (bx c=enc c):=by show bx c=_;unfold bx;rw [if_pos (.inr k2)]
     go_enter Tryz.func249,Tryz.ntmps249
     go_wp2_with (first
      |(go_at_call 293;((with_reducible refine a0b (bS _ _ _ _ (by omega)) ?_);rintro e w1 ⟨rfl,rfl⟩))
      |(go_at_call 293;((with_reducible refine a0b (cD _ _ _ _ (by omega)) ?_);rintro e w1 ⟨rfl,rfl⟩)))
     go_ret;exact ⟨dl (by rw [a.out];first |exact dD _ _ rfl|exact dD _ _ (by simp)),rfl⟩
   · by_cases k3:65<=c/\c<=90
     · have a:Hid (bx c=enc (c+32)):=by show bx c=_;unfold bx;rw [if_neg (by omega),if_pos k3]
       have l:=m.out;go_enter Tryz.func249,Tryz.ntmps249
       go_wp2_with (first
        |(go_at_call 293;((with_reducible refine a0b (bS _ _ _ _ (by omega)) ?_);rintro e w1 ⟨rfl,rfl⟩))
        |(go_at_call 293;((with_reducible refine a0b (cD _ _ _ _ (by omega)) ?_);rintro e w1 ⟨rfl,rfl⟩)))
       go_ret;exact ⟨dl (by rw [a.out];first |exact dD _ _ rfl|exact dD _ _ (by simp)),rfl⟩
     · by_cases k4:c<128
       · have a:Hid (bx c=[32]):=by show bx c=_;unfold bx;rw [if_neg (by omega),if_neg (by omega),if_pos k4]
         have r:(c:Int)<128:=by omega
         go_enter Tryz.func249,Tryz.ntmps249;go_wp2_with (go_at_call 293;((with_reducible refine a0b (bS _ _ _ _ (by omega)) ?_);rintro e w1 ⟨rfl,rfl⟩))
         go_ret;exact ⟨dl (by rw [a.out];rfl),rfl⟩
       · have q:decide ((c:Int)<128)=false:=decide_eq_false (by omega);by_cases h:(768<=c/\c<=879)∨(65056<=c/\c<=65071)
         · have a:Hid (bx c=[]):=by show bx c=_;unfold bx;rw [if_neg (by omega),if_neg (by omega),if_neg k4,if_pos h]
           rcases h with h|h
           all_goals
            go_enter Tryz.func249,Tryz.ntmps249
            go_wp2_with (first
             |(go_at_call 293;((with_reducible refine a0b (bS _ _ _ _ (by omega)) ?_);rintro e w1 ⟨rfl,rfl⟩))
             |(go_at_call 293;((with_reducible refine a0b (cD _ _ _ _ (by omega)) ?_);rintro e w1 ⟨rfl,rfl⟩)))
            go_ret
            exact ⟨dl (by rw [a.out];rfl),rfl⟩
         · have g:c<2147483648:=by omega
           have t:=jF w;cases hrow:rowIn c rowsK with
           |some s=>
            have a:Hid (bx c=s):=by show bx c=_;unfold bx;rw [if_neg (by omega),if_neg (by omega),if_neg k4,if_neg h,hrow]
            have d:Hid (lookL (dv rowsS) c=some (S s)):=by show lookL _ _=_;rw [pC,hrow];rfl
            clear hrow;go_enter Tryz.func249,Tryz.ntmps249
            go_wp2_with (first
             |(go_at_call 293;((with_reducible refine a0b (bS _ _ _ _ (by omega)) ?_);rintro e w1 ⟨rfl,rfl⟩))
             |(at_lookup;refine cO _ rfl _ _ 308 rfl 9 Tryz.underlying308 (jF _) b _ rfl f.out c g rfl ?_;rw [d.out];simp only [Option.getD_some,Option.isSome_some]))
            go_ret;exact ⟨dl (by rw [a.out];rfl),rfl⟩
           |none=>
            have d:Hid (lookL (dv rowsS) c=none):=by show lookL _ _=_;rw [pC,hrow];rfl
            have k:Hid (bx c=if c=962 then enc 963 else if (945<=c/\c<=969)∨(1072<=c/\c<=1103) then enc c else if (913<=c/\c<=937/\c≠930)∨(1040<=c/\c<=1071) then enc (c+32) else [32]):=by show bx c=_;unfold bx;rw [if_neg (by omega),if_neg (by omega),if_neg k4,if_neg h,hrow]
            clear hrow;by_cases k6:c=962
            · subst k6;go_enter Tryz.func249,Tryz.ntmps249
              go_wp2_with (first
               |(go_at_call 293;((with_reducible refine a0b (bS _ _ _ _ (by omega)) ?_);rintro e w1 ⟨rfl,rfl⟩))
               |(at_lookup;refine cO _ rfl _ _ 308 rfl 9 Tryz.underlying308 (jF _) b _ rfl f.out 962 g rfl ?_;rw [d.out];simp only [a0e,a0d]))
              go_ret;exact ⟨dl (by rw [k.out];rfl),rfl⟩
            · have u:((c:Int)==962)=false:=by simpa using (by omega:(c:Int)≠962)
              by_cases i:(945<=c/\c<=969)∨(1072<=c/\c<=1103)
              · have a:Hid (bx c=enc c):=by show bx c=_;rw [k.out,if_neg k6,if_pos i]
                rcases i with i|i
                all_goals
                 go_enter Tryz.func249,Tryz.ntmps249
                 go_wp2_with (first
                  |(go_at_call 293;((with_reducible refine a0b (bS _ _ _ _ (by omega)) ?_);rintro e w1 ⟨rfl,rfl⟩))
                  |(go_at_call 293;((with_reducible refine a0b (cD _ _ _ _ (by omega)) ?_);rintro e w1 ⟨rfl,rfl⟩))
                  |(at_lookup;refine cO _ rfl _ _ 308 rfl 9 Tryz.underlying308 (jF _) b _ rfl f.out c g rfl ?_;rw [d.out];simp only [a0e,a0d]))
                 go_ret
                 exact ⟨dl (by rw [a.out];exact dD _ _ rfl),rfl⟩
              · by_cases j:(913<=c/\c<=937/\c≠930)∨(1040<=c/\c<=1071)
                · have a:Hid (bx c=enc (c+32)):=by show bx c=_;rw [k.out,if_neg k6,if_neg i,if_pos j]
                  have l:=m.out;rcases j with j|j
                  · have o:((c:Int)!=930)=true:=by simpa using (by omega:(c:Int)≠930)
                    go_enter Tryz.func249,Tryz.ntmps249
                    go_wp2_with (first
                     |(go_at_call 293;((with_reducible refine a0b (bS _ _ _ _ (by omega)) ?_);rintro e w1 ⟨rfl,rfl⟩))
                     |(go_at_call 293;((with_reducible refine a0b (cD _ _ _ _ (by omega)) ?_);rintro e w1 ⟨rfl,rfl⟩))
                     |(at_lookup;refine cO _ rfl _ _ 308 rfl 9 Tryz.underlying308 (jF _) b _ rfl f.out c g rfl ?_;rw [d.out];simp only [a0e,a0d]))
                    go_ret;exact ⟨dl (by rw [a.out];first |exact dD _ _ rfl|exact dD _ _ (by simp)),rfl⟩
                  · go_enter Tryz.func249,Tryz.ntmps249
                    go_wp2_with (first
                     |(go_at_call 293;((with_reducible refine a0b (bS _ _ _ _ (by omega)) ?_);rintro e w1 ⟨rfl,rfl⟩))
                     |(go_at_call 293;((with_reducible refine a0b (cD _ _ _ _ (by omega)) ?_);rintro e w1 ⟨rfl,rfl⟩))
                     |(at_lookup;refine cO _ rfl _ _ 308 rfl 9 Tryz.underlying308 (jF _) b _ rfl f.out c g rfl ?_;rw [d.out];simp only [a0e,a0d]))
                    go_ret;exact ⟨dl (by rw [a.out];first |exact dD _ _ rfl|exact dD _ _ (by simp)),rfl⟩
                · have a:Hid (bx c=[32]):=by show bx c=_;rw [k.out,if_neg k6,if_neg i,if_neg j]
                  by_cases o:c=930
                  · subst o;go_enter Tryz.func249,Tryz.ntmps249
                    go_wp2_with (first
                     |(go_at_call 293;((with_reducible refine a0b (bS _ _ _ _ (by omega)) ?_);rintro e w1 ⟨rfl,rfl⟩))
                     |(go_at_call 293;((with_reducible refine a0b (cD _ _ _ _ (by omega)) ?_);rintro e w1 ⟨rfl,rfl⟩))
                     |(at_lookup;refine cO _ rfl _ _ 308 rfl 9 Tryz.underlying308 (jF _) b _ rfl f.out 930 g rfl ?_;rw [d.out];simp only [a0e,a0d]))
                    go_ret;exact ⟨dl (by rw [a.out];rfl),rfl⟩
                  · go_enter Tryz.func249,Tryz.ntmps249
                    go_wp2_with (first
                     |(go_at_call 293;((with_reducible refine a0b (bS _ _ _ _ (by omega)) ?_);rintro e w1 ⟨rfl,rfl⟩))
                     |(at_lookup;refine cO _ rfl _ _ 308 rfl 9 Tryz.underlying308 (jF _) b _ rfl f.out c g rfl ?_;rw [d.out];simp only [a0e,a0d]))
                    go_ret;exact ⟨dl (by rw [a.out];rfl),rfl⟩
end
end Go.Proofs.YtjcimanddakkaaaGreatDoor
