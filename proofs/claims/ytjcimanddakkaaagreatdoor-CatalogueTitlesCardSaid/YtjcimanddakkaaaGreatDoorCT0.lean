/- Lemmas. -/
import Derived.Test.YtjcimanddakkaaaGreatDoorCT1
import Derived.Shelf.Strings.OnBuilder
import Derived.Shelf.Strings.Search3
import Derived.Shelf.Slices.CompactS
import Derived.Shelf.Strings.SlTrimAscii
import Derived.Test.YtjcimanddakkaaaGreatDoorProg
import Derived.Shelf.SlSortCmp.NoneTotal
set_option maxRecDepth 100000
set_option maxHeartbeats 8000000
namespace Go.Proofs.YtjcimanddakkaaaGreatDoor
open _root_.Option renaming some→X,none→Y
open Go.Ending renaming returned→b5
open Go.Value renaming slice→b6,int→J,bool→b9,map→bb
open Go.IntKind renaming u8→b7,i32→b8,i64→U
open Go.Lib renaming hid→Z
open Tryz
open Go.Calls renaming mono→bc
open Go.Shelf renaming Ren→bd
open _root_.Option renaming isSome_none→bk,getD_none→bl
open Go.Lib renaming indexByte→bs,compact→ci
open Go.Proofs.SlLaysF0 renaming n6→bt
open Go.Utf8 renaming decode→bv
open _root_.Nat renaming le_refl→bw
open _root_.List renaming map_append→bA,flatMap_cons→bO,append_assoc→bY,mem_cons_of_mem→cc,flatMap_append→cd,mem_cons_self→ch
open Go renaming World→bB,Calls→ca,Value→cg
open Go.Value renaming string→cb
section
open Go.Shelf
def dr:bd:=⟨λ|158=>236|165=>285|166=>112|167=>160|169=>115|230=>286|203=>287|240=>161|241=>315|197=>278|118=>316|168=>317|270=>318|262=>319|276=>207|277=>331|260=>310|242=>332|313=>333|278=>342|274=>343|275=>344|n=>n,λ|9=>9|4=>4|3=>3|5=>5|72=>187|0=>0|76=>191|75=>190|107=>340|70=>185|20=>20|37=>76|127=>233|21=>21|105=>334|164=>282|162=>390|203=>388|119=>383|46=>218|139=>386|138=>385|51=>277|160=>406|208=>426|206=>424|80=>75|n=>n,λ|13=>3|3=>0|4=>1|n=>n⟩
theorem p9:Go.Proofs.Lays.n158 prog dr:={
 mixed:=by kernel_rfl
 f118:=Qf func316
 f158:=Qf func236
 f165:=Qf func285
 f166:=Qf func112
 f167:=Qf func160
 f168:=Qf func317
 f169:=Qf func115
 f197:=Qf func278
 f203:=Qf func287
 f230:=Qf func286
 f240:=Qf func161
 f241:=Qf func315
 f242:=Qf func332
 f260:=Qf func310
 f262:=Qf func319
 f270:=Qf func318
 f274:=Qf func343
 f275:=Qf func344
 f276:=Qf func207
 f277:=Qf func331
 f278:=Qf func342
 f313:=Qf func333
 t0:=underlying0
 a0:=Tryz.isAgg0
 z0:=sizeOf0
 v0:=zeroValue0
 t3:=underlying3
 a3:=Tryz.isAgg3
 z3:=sizeOf3
 v3:=zeroValue3
 t4:=underlying4
 a4:=Tryz.isAgg4
 z4:=sizeOf4
 v4:=zeroValue4
 t5:=underlying5
 a5:=Tryz.isAgg5
 z5:=sizeOf5
 v5:=zeroValue5
 t9:=underlying9
 a9:=Tryz.isAgg9
 z9:=sizeOf9
 v9:=zeroValue9
 t20:=underlying20
 a20:=Tryz.isAgg20
 z20:=sizeOf20
 v20:=zeroValue20
 t21:=underlying21
 a21:=Tryz.isAgg21
 z21:=sizeOf21
 v21:=zeroValue21
 t37:=underlying76
 a37:=Tryz.isAgg76
 z37:=sizeOf76
 v37:=zeroValue76
 t46:=underlying218
 a46:=Tryz.isAgg218
 z46:=sizeOf218
 v46:=zeroValue218
 t51:=underlying277
 a51:=Tryz.isAgg277
 z51:=sizeOf277
 v51:=zeroValue277
 t70:=underlying185
 a70:=Tryz.isAgg185
 z70:=sizeOf185
 v70:=zeroValue185
 t72:=underlying187
 a72:=Tryz.isAgg187
 z72:=sizeOf187
 v72:=zeroValue187
 t75:=underlying190
 a75:=Tryz.isAgg190
 z75:=sizeOf190
 v75:=zeroValue190
 t76:=underlying191
 a76:=Tryz.isAgg191
 z76:=sizeOf191
 v76:=zeroValue191
 t105:=underlying334
 a105:=Tryz.isAgg334
 z105:=sizeOf334
 v105:=zeroValue334
 t107:=underlying340
 a107:=Tryz.isAgg340
 z107:=sizeOf340
 v107:=zeroValue340
 t119:=underlying383
 a119:=Tryz.isAgg383
 z119:=sizeOf383
 t127:=underlying233
 a127:=Tryz.isAgg233
 z127:=sizeOf233
 v127:=zeroValue233
 t138:=underlying385
 a138:=Tryz.isAgg385
 z138:=sizeOf385
 v138:=zeroValue385
 t139:=underlying386
 a139:=Tryz.isAgg386
 z139:=sizeOf386
 v139:=zeroValue386
 t160:=underlying406
 a160:=Tryz.isAgg406
 z160:=sizeOf406
 v160:=zeroValue406
 t162:=underlying390
 a162:=Tryz.isAgg390
 z162:=sizeOf390
 v162:=zeroValue390
 t164:=underlying282
 a164:=Tryz.isAgg282
 z164:=sizeOf282
 v164:=zeroValue282
 t203:=underlying388
 a203:=Tryz.isAgg388
 z203:=sizeOf388
 v203:=zeroValue388
 t206:=underlying424
 a206:=Tryz.isAgg424
 z206:=sizeOf424
 v206:=zeroValue424
 t208:=underlying426
 a208:=Tryz.isAgg426
 z208:=sizeOf426
 v208:=zeroValue426
 g3:=by kernel_rfl
 g4:=by kernel_rfl
 g13:=by kernel_rfl}
theorem jW:Builder.Extra prog dr:={
 sizeBuilder:=by kernel_rfl
 liesBuilder:=by kernel_rfl
 t5:=underlying5
 a5:=Tryz.isAgg5
 z5:=sizeOf5
 v5:=zeroValue5
 infoByte:=by kernel_rfl
 cellsByte:=by kernel_rfl
 sizeByte:=by kernel_rfl
 neB5:=by decide}
open Go.RowKit in
theorem strings_ToUpper_ascii(s:ByteArray)(w:bB)(c:s.size<=140737488355328)(a:∀(j:Nat)(b:UInt8),s.data.toList[j]?=X b->b.toNat<128):
 ca prog 236 #[.string s] w λe w'=>e=b5 (.string ⟨(Lib.toUpperA s.data.toList).toArray⟩)/\Bw w w':=Any.strings_ToUpper_ascii p9 jW s w c a
def kS:bd:=⟨λ|156=>244|165=>285|166=>112|169=>115|240=>161|241=>315|276=>207|277=>331|n=>n,λ|31=>81|9=>9|3=>3|4=>4|0=>0|20=>20|72=>187|76=>191|70=>185|37=>76|75=>190|127=>233|164=>282|5=>5|80=>75|n=>n,λ|n=>n⟩
theorem vM:Go.Proofs.Lays.n156 prog kS:={
 mixed:=by kernel_rfl
 f156:=Qf func244
 f165:=Qf func285
 f166:=Qf func112
 f169:=Qf func115
 f240:=Qf func161
 f241:=Qf func315
 f276:=Qf func207
 f277:=Qf func331
 t0:=underlying0
 a0:=Tryz.isAgg0
 z0:=sizeOf0
 v0:=zeroValue0
 t3:=underlying3
 a3:=Tryz.isAgg3
 z3:=sizeOf3
 v3:=zeroValue3
 t4:=underlying4
 a4:=Tryz.isAgg4
 z4:=sizeOf4
 v4:=zeroValue4
 t9:=underlying9
 a9:=Tryz.isAgg9
 z9:=sizeOf9
 v9:=zeroValue9
 t20:=underlying20
 a20:=Tryz.isAgg20
 z20:=sizeOf20
 v20:=zeroValue20
 t31:=underlying81
 a31:=Tryz.isAgg81
 z31:=sizeOf81
 v31:=zeroValue81
 t37:=underlying76
 a37:=Tryz.isAgg76
 z37:=sizeOf76
 v37:=zeroValue76
 t70:=underlying185
 a70:=Tryz.isAgg185
 z70:=sizeOf185
 v70:=zeroValue185
 t72:=underlying187
 a72:=Tryz.isAgg187
 z72:=sizeOf187
 v72:=zeroValue187
 t75:=underlying190
 a75:=Tryz.isAgg190
 z75:=sizeOf190
 v75:=zeroValue190
 t76:=underlying191
 a76:=Tryz.isAgg191
 z76:=sizeOf191
 v76:=zeroValue191
 t127:=underlying233
 a127:=Tryz.isAgg233
 z127:=sizeOf233
 v127:=zeroValue233
 t164:=underlying282
 a164:=Tryz.isAgg282
 z164:=sizeOf282
 v164:=zeroValue282}
theorem fw:Builder.Extra prog kS:={
 sizeBuilder:=by kernel_rfl
 liesBuilder:=by kernel_rfl
 t5:=underlying5
 a5:=Tryz.isAgg5
 z5:=sizeOf5
 v5:=zeroValue5
 infoByte:=by kernel_rfl
 cellsByte:=by kernel_rfl
 sizeByte:=by kernel_rfl
 neB5:=by decide}
open Go.RowKit in
theorem strings_Join_none(a:Option Addr)(c:Nat)(b:ByteArray)(w:bB):
 ca prog 244 #[b6 a 0 c,.string b] w λe w'=>e=b5 (.string ⟨#[]⟩)/\w'=w:=Any.strings_Join_none vM fw a c b w
open Go.RowKit in
theorem strings_Join(b o c:Nat)(a:List ByteArray)(d:ByteArray)(w:bB)(i:∀(j:Nat)x,a[j]?=X x->w.cell? ⟨b,o+j,Y⟩=X (.string x))(g:b<w)(f:a.length<=140737488355328)(h:a<=c)(k:(Lib.join (a.map (·.data.toList)) d.data.toList).length<=140737488355328):
 ca prog 244 #[b6 (X ⟨b,o,Y⟩) a c,.string d] w λe w'=>e=b5 (.string ⟨(Lib.join (a.map (·.data.toList)) d.data.toList).toArray⟩)/\Bw w w':=Any.strings_Join vM fw b o c a d w i g f h k
def sd:bd:=⟨λ|137=>246|217=>291|266=>323|n=>n,λ|9=>9|5=>5|3=>3|n=>n,λ|n=>n⟩
theorem BA:Go.Proofs.Lays.n137 prog sd:={
 mixed:=by kernel_rfl
 f137:=Qf func246
 f217:=Qf func291
 f266:=Qf func323
 t3:=underlying3
 a3:=Tryz.isAgg3
 z3:=sizeOf3
 v3:=zeroValue3
 t5:=underlying5
 a5:=Tryz.isAgg5
 z5:=sizeOf5
 v5:=zeroValue5
 t9:=underlying9
 a9:=Tryz.isAgg9
 z9:=sizeOf9
 v9:=zeroValue9}
open Go.RowKit in
theorem strings_IndexByte(s:ByteArray)(c:Int)(w:bB):
 ca prog 246 #[.string s,J b7 c] w λe w'=>e=b5 (bs s.data.toList c.toNat.toUInt8)/\w'=w:=Any.strings_IndexByte BA s c w
open Go.RowKit Go.Lib in
def rY:bd:=⟨λ|219=>351|217=>291|225=>314|224=>313|267=>361|266=>323|314=>369|n=>n,λ|9=>9|3=>3|4=>4|5=>5|46=>218|146=>439|51=>277|n=>n,λ|1=>2|n=>n⟩
theorem Bu:Go.Proofs.Lays.n219 prog rY:={
 mixed:=by kernel_rfl
 f217:=Qf func291
 f219:=Qf func351
 f224:=Qf func313
 f225:=Qf func314
 f266:=Qf func323
 f267:=Qf func361
 f314:=Qf func369
 t3:=underlying3
 a3:=Tryz.isAgg3
 z3:=sizeOf3
 v3:=zeroValue3
 t4:=underlying4
 a4:=Tryz.isAgg4
 z4:=sizeOf4
 v4:=zeroValue4
 t5:=underlying5
 a5:=Tryz.isAgg5
 z5:=sizeOf5
 v5:=zeroValue5
 t9:=underlying9
 a9:=Tryz.isAgg9
 z9:=sizeOf9
 v9:=zeroValue9
 t46:=underlying218
 a46:=Tryz.isAgg218
 z46:=sizeOf218
 v46:=zeroValue218
 t51:=underlying277
 a51:=Tryz.isAgg277
 z51:=sizeOf277
 v51:=zeroValue277
 t146:=underlying439
 a146:=Tryz.isAgg439
 z146:=sizeOf439
 v146:=zeroValue439
 g1:=by kernel_rfl}
open Go.RowKit Go.Lib in
theorem stringslite_Index_one(s:ByteArray)(c:UInt8)(w:bB):
 ca prog 351 #[.string s,.string ⟨#[c]⟩] w λe w'=>e=b5 (bs s.data.toList c)/\w'=w:=Any.stringslite_Index_one Bu s c w
open Go.RowKit Go.Lib in
def r8:bd:=⟨λ|151=>235|152=>284|137=>246|119=>312|224=>313|225=>314|217=>291|266=>323|n=>n,λ|9=>9|21=>21|4=>4|3=>3|5=>5|0=>0|46=>218|n=>n,λ|n=>n⟩
theorem Bz:Go.Proofs.Lays.n151 prog r8:={
 mixed:=by kernel_rfl
 f119:=Qf func312
 f137:=Qf func246
 f151:=Qf func235
 f152:=Qf func284
 f217:=Qf func291
 f224:=Qf func313
 f225:=Qf func314
 f266:=Qf func323
 t0:=underlying0
 a0:=Tryz.isAgg0
 z0:=sizeOf0
 v0:=zeroValue0
 t3:=underlying3
 a3:=Tryz.isAgg3
 z3:=sizeOf3
 v3:=zeroValue3
 t4:=underlying4
 a4:=Tryz.isAgg4
 z4:=sizeOf4
 v4:=zeroValue4
 t5:=underlying5
 a5:=Tryz.isAgg5
 z5:=sizeOf5
 v5:=zeroValue5
 t9:=underlying9
 a9:=Tryz.isAgg9
 z9:=sizeOf9
 v9:=zeroValue9
 t21:=underlying21
 a21:=Tryz.isAgg21
 z21:=sizeOf21
 v21:=zeroValue21
 t46:=underlying218
 a46:=Tryz.isAgg218
 z46:=sizeOf218
 v46:=zeroValue218}
open Go.RowKit Go.Lib in
theorem strings_ContainsRune_ascii(s:ByteArray)(r:Int)(w:bB)(a:0<=r)(b:r<128):
 ca prog 235 #[.string s,J b8 r] w λe w'=>e=b5 (b9 (decide (0<=bs s.data.toList r.toNat.toUInt8)))/\w'=w:=Any.strings_ContainsRune_ascii Bz s r w a b
def rZ:bd:=⟨λ|194=>187|n=>n,λ|31=>81|9=>9|3=>3|4=>4|0=>0|n=>n,λ|n=>n⟩
theorem vK:Go.Proofs.Lays.n194 prog rZ:={
 mixed:=by kernel_rfl
 f194:=Qf func187
 t0:=underlying0
 a0:=Tryz.isAgg0
 z0:=sizeOf0
 v0:=zeroValue0
 t3:=underlying3
 a3:=Tryz.isAgg3
 z3:=sizeOf3
 v3:=zeroValue3
 t4:=underlying4
 a4:=Tryz.isAgg4
 z4:=sizeOf4
 v4:=zeroValue4
 t9:=underlying9
 a9:=Tryz.isAgg9
 z9:=sizeOf9
 v9:=zeroValue9
 t31:=underlying81
 a31:=Tryz.isAgg81
 z31:=sizeOf81
 v31:=zeroValue81}
open Go.RowKit Go.Lib Go.Sort in
theorem slices_Compact_string(a b c:Nat)(zs:List (List UInt8))(w:bB)(d:Holds encStr w a b zs.toArray)(g:zs.length<=9223372036854775807)(f:zs<=c):
 ca prog 187 #[b6 (X ⟨a,b,Y⟩) zs c] w λe w'=>e=b5 (.slice (X ⟨a,b,Y⟩) (ci zs).length c)/\∃q,w'=putRow encStr (Sort.ahead w q) a b (ci zs++List.replicate (zs-(ci zs).length) []).toArray:=Any.slices_Compact_string vK a b c zs w d g f
open Go.RowKit Go.Lib Go.Sort in
theorem slices_Compact_string_empty(a:Option Addr)(b:Nat)(w:bB):
 ca prog 187 #[b6 a 0 b] w λe w'=>e=b5 (b6 a 0 b)/\w'=w:=Any.slices_Compact_string_empty vK a b w
def r6:bd:=⟨λ|161=>282|231=>266|227=>268|233=>269|235=>271|228=>307|197=>278|151=>235|260=>310|152=>284|137=>246|119=>312|224=>313|225=>314|217=>291|266=>323|n=>n,λ|9=>9|4=>4|3=>3|5=>5|117=>328|116=>327|0=>0|124=>331|105=>334|21=>21|119=>383|46=>218|139=>386|138=>385|n=>n,λ|3=>0|4=>1|n=>n⟩
theorem Bv:Go.Proofs.Lays.n161 prog r6:={
 mixed:=by kernel_rfl
 f119:=Qf func312
 f137:=Qf func246
 f151:=Qf func235
 f152:=Qf func284
 f161:=Qf func282
 f197:=Qf func278
 f217:=Qf func291
 f224:=Qf func313
 f225:=Qf func314
 f227:=Qf func268
 f228:=Qf func307
 f231:=Qf func266
 f233:=Qf func269
 f235:=Qf func271
 f260:=Qf func310
 f266:=Qf func323
 t0:=underlying0
 a0:=Tryz.isAgg0
 z0:=sizeOf0
 v0:=zeroValue0
 t3:=underlying3
 a3:=Tryz.isAgg3
 z3:=sizeOf3
 v3:=zeroValue3
 t4:=underlying4
 a4:=Tryz.isAgg4
 z4:=sizeOf4
 v4:=zeroValue4
 t5:=underlying5
 a5:=Tryz.isAgg5
 z5:=sizeOf5
 v5:=zeroValue5
 t9:=underlying9
 a9:=Tryz.isAgg9
 z9:=sizeOf9
 v9:=zeroValue9
 t21:=underlying21
 a21:=Tryz.isAgg21
 z21:=sizeOf21
 v21:=zeroValue21
 t46:=underlying218
 a46:=Tryz.isAgg218
 z46:=sizeOf218
 v46:=zeroValue218
 t105:=underlying334
 a105:=Tryz.isAgg334
 z105:=sizeOf334
 v105:=zeroValue334
 t116:=underlying327
 a116:=Tryz.isAgg327
 z116:=sizeOf327
 t117:=underlying328
 a117:=Tryz.isAgg328
 z117:=sizeOf328
 v117:=zeroValue328
 t119:=underlying383
 a119:=Tryz.isAgg383
 z119:=sizeOf383
 t124:=underlying331
 a124:=Tryz.isAgg331
 z124:=sizeOf331
 v124:=zeroValue331
 t138:=underlying385
 a138:=Tryz.isAgg385
 z138:=sizeOf385
 v138:=zeroValue385
 t139:=underlying386
 a139:=Tryz.isAgg386
 z139:=sizeOf386
 v139:=zeroValue386
 g3:=by kernel_rfl
 g4:=by kernel_rfl}
open Go.Shelf
def rq:bd:=⟨λ|6=>80|15=>136|14=>135|28=>199|29=>200|20=>191|21=>192|22=>193|23=>194|24=>195|25=>196|26=>197|27=>198|46=>260|47=>261|48=>262|49=>263|50=>264|57=>306|n=>n,λ|22=>52|24=>36|25=>103|3=>3|39=>218|0=>0|53=>277|55=>143|4=>4|46=>271|45=>270|50=>112|5=>5|9=>9|66=>317|70=>320|76=>367|77=>368|n=>n,λ|n=>n⟩
theorem vq:bt prog rq:={
 mixed:=by kernel_rfl
 f6:=⟨f80.name,by decide,Qf func80⟩
 f14:=⟨f135.name,by decide,Qf func135⟩
 f15:=Qf func136
 f20:=⟨f191.name,by decide,Qf func191⟩
 f21:=⟨f192.name,by decide,Qf func192⟩
 f22:=⟨f193.name,by decide,Qf func193⟩
 f23:=⟨f194.name,by decide,Qf func194⟩
 f24:=⟨f195.name,by decide,Qf func195⟩
 f25:=⟨f196.name,by decide,Qf func196⟩
 f26:=⟨f197.name,by decide,Qf func197⟩
 f27:=⟨f198.name,by decide,Qf func198⟩
 f28:=Qf func199
 f29:=Qf func200
 f46:=⟨f260.name,by decide,Qf func260⟩
 f47:=Qf func261
 f48:=Qf func262
 f49:=⟨f263.name,by decide,Qf func263⟩
 f50:=⟨f264.name,by decide,Qf func264⟩
 f57:=⟨f306.name,by decide,Qf func306⟩
 t0:=underlying0
 a0:=Tryz.isAgg0
 z0:=sizeOf0
 v0:=zeroValue0
 t3:=underlying3
 a3:=Tryz.isAgg3
 z3:=sizeOf3
 v3:=zeroValue3
 t4:=underlying4
 a4:=Tryz.isAgg4
 z4:=sizeOf4
 v4:=zeroValue4
 t5:=underlying5
 a5:=Tryz.isAgg5
 z5:=sizeOf5
 v5:=zeroValue5
 t9:=underlying9
 a9:=Tryz.isAgg9
 z9:=sizeOf9
 v9:=zeroValue9
 t22:=underlying52
 a22:=Tryz.isAgg52
 z22:=sizeOf52
 v22:=zeroValue52
 t25:=underlying103
 a25:=Tryz.isAgg103
 z25:=sizeOf103
 v25:=zeroValue103
 t39:=underlying218
 a39:=Tryz.isAgg218
 z39:=sizeOf218
 v39:=zeroValue218
 t45:=underlying270
 a45:=Tryz.isAgg270
 z45:=sizeOf270
 v45:=zeroValue270
 t46:=underlying271
 a46:=Tryz.isAgg271
 z46:=sizeOf271
 v46:=zeroValue271
 t50:=underlying112
 a50:=Tryz.isAgg112
 z50:=sizeOf112
 v50:=zeroValue112
 t53:=underlying277
 a53:=Tryz.isAgg277
 z53:=sizeOf277
 v53:=zeroValue277
 t55:=underlying143
 a55:=Tryz.isAgg143
 z55:=sizeOf143
 v55:=zeroValue143
 t66:=underlying317
 a66:=Tryz.isAgg317
 z66:=sizeOf317
 v66:=zeroValue317
 t70:=underlying320
 a70:=Tryz.isAgg320
 z70:=sizeOf320
 v70:=zeroValue320
 t76:=underlying367
 a76:=Tryz.isAgg367
 z76:=sizeOf367
 v76:=zeroValue367
 t77:=underlying368
 a77:=Tryz.isAgg368
 z77:=sizeOf368
 v77:=zeroValue368}
def pE:bd:=⟨λ|6=>120|15=>136|14=>164|28=>199|29=>200|20=>209|21=>210|22=>211|23=>212|24=>213|25=>214|26=>215|27=>216|46=>274|47=>261|48=>262|49=>275|50=>276|57=>309|n=>n,λ|22=>131|24=>134|25=>140|3=>3|39=>218|0=>0|53=>277|55=>143|4=>4|46=>271|45=>270|50=>112|5=>5|9=>9|66=>317|70=>320|76=>367|77=>368|n=>n,λ|n=>n⟩
theorem ru:bt prog pE:={
 mixed:=by kernel_rfl
 f6:=⟨f120.name,by decide,Qf func120⟩
 f14:=⟨f164.name,by decide,Qf func164⟩
 f15:=Qf func136
 f20:=⟨f209.name,by decide,Qf func209⟩
 f21:=⟨f210.name,by decide,Qf func210⟩
 f22:=⟨f211.name,by decide,Qf func211⟩
 f23:=⟨f212.name,by decide,Qf func212⟩
 f24:=⟨f213.name,by decide,Qf func213⟩
 f25:=⟨f214.name,by decide,Qf func214⟩
 f26:=⟨f215.name,by decide,Qf func215⟩
 f27:=⟨f216.name,by decide,Qf func216⟩
 f28:=Qf func199
 f29:=Qf func200
 f46:=⟨f274.name,by decide,Qf func274⟩
 f47:=Qf func261
 f48:=Qf func262
 f49:=⟨f275.name,by decide,Qf func275⟩
 f50:=⟨f276.name,by decide,Qf func276⟩
 f57:=⟨f309.name,by decide,Qf func309⟩
 t0:=underlying0
 a0:=Tryz.isAgg0
 z0:=sizeOf0
 v0:=zeroValue0
 t3:=underlying3
 a3:=Tryz.isAgg3
 z3:=sizeOf3
 v3:=zeroValue3
 t4:=underlying4
 a4:=Tryz.isAgg4
 z4:=sizeOf4
 v4:=zeroValue4
 t5:=underlying5
 a5:=Tryz.isAgg5
 z5:=sizeOf5
 v5:=zeroValue5
 t9:=underlying9
 a9:=Tryz.isAgg9
 z9:=sizeOf9
 v9:=zeroValue9
 t22:=underlying131
 a22:=Tryz.isAgg131
 z22:=sizeOf131
 v22:=zeroValue131
 t25:=underlying140
 a25:=Tryz.isAgg140
 z25:=sizeOf140
 v25:=zeroValue140
 t39:=underlying218
 a39:=Tryz.isAgg218
 z39:=sizeOf218
 v39:=zeroValue218
 t45:=underlying270
 a45:=Tryz.isAgg270
 z45:=sizeOf270
 v45:=zeroValue270
 t46:=underlying271
 a46:=Tryz.isAgg271
 z46:=sizeOf271
 v46:=zeroValue271
 t50:=underlying112
 a50:=Tryz.isAgg112
 z50:=sizeOf112
 v50:=zeroValue112
 t53:=underlying277
 a53:=Tryz.isAgg277
 z53:=sizeOf277
 v53:=zeroValue277
 t55:=underlying143
 a55:=Tryz.isAgg143
 z55:=sizeOf143
 v55:=zeroValue143
 t66:=underlying317
 a66:=Tryz.isAgg317
 z66:=sizeOf317
 v66:=zeroValue317
 t70:=underlying320
 a70:=Tryz.isAgg320
 z70:=sizeOf320
 v70:=zeroValue320
 t76:=underlying367
 a76:=Tryz.isAgg367
 z76:=sizeOf367
 v76:=zeroValue367
 t77:=underlying368
 a77:=Tryz.isAgg368
 z77:=sizeOf368
 v77:=zeroValue368}
def rp:bd:=⟨λ|6=>132|15=>136|14=>190|28=>199|29=>200|20=>252|21=>253|22=>254|23=>255|24=>256|25=>257|26=>258|27=>259|46=>303|47=>261|48=>262|49=>304|50=>305|57=>329|n=>n,λ|22=>65|24=>67|25=>215|3=>3|39=>218|0=>0|53=>277|55=>143|4=>4|46=>271|45=>270|50=>112|5=>5|9=>9|66=>317|70=>320|76=>367|77=>368|n=>n,λ|n=>n⟩
theorem vp:bt prog rp:={
 mixed:=by kernel_rfl
 f6:=⟨f132.name,by decide,Qf func132⟩
 f14:=⟨f190.name,by decide,Qf func190⟩
 f15:=Qf func136
 f20:=⟨f252.name,by decide,Qf func252⟩
 f21:=⟨f253.name,by decide,Qf func253⟩
 f22:=⟨f254.name,by decide,Qf func254⟩
 f23:=⟨f255.name,by decide,Qf func255⟩
 f24:=⟨f256.name,by decide,Qf func256⟩
 f25:=⟨f257.name,by decide,Qf func257⟩
 f26:=⟨f258.name,by decide,Qf func258⟩
 f27:=⟨f259.name,by decide,Qf func259⟩
 f28:=Qf func199
 f29:=Qf func200
 f46:=⟨f303.name,by decide,Qf func303⟩
 f47:=Qf func261
 f48:=Qf func262
 f49:=⟨f304.name,by decide,Qf func304⟩
 f50:=⟨f305.name,by decide,Qf func305⟩
 f57:=⟨f329.name,by decide,Qf func329⟩
 t0:=underlying0
 a0:=Tryz.isAgg0
 z0:=sizeOf0
 v0:=zeroValue0
 t3:=underlying3
 a3:=Tryz.isAgg3
 z3:=sizeOf3
 v3:=zeroValue3
 t4:=underlying4
 a4:=Tryz.isAgg4
 z4:=sizeOf4
 v4:=zeroValue4
 t5:=underlying5
 a5:=Tryz.isAgg5
 z5:=sizeOf5
 v5:=zeroValue5
 t9:=underlying9
 a9:=Tryz.isAgg9
 z9:=sizeOf9
 v9:=zeroValue9
 t22:=underlying65
 a22:=Tryz.isAgg65
 z22:=sizeOf65
 v22:=zeroValue65
 t25:=underlying215
 a25:=Tryz.isAgg215
 z25:=sizeOf215
 v25:=zeroValue215
 t39:=underlying218
 a39:=Tryz.isAgg218
 z39:=sizeOf218
 v39:=zeroValue218
 t45:=underlying270
 a45:=Tryz.isAgg270
 z45:=sizeOf270
 v45:=zeroValue270
 t46:=underlying271
 a46:=Tryz.isAgg271
 z46:=sizeOf271
 v46:=zeroValue271
 t50:=underlying112
 a50:=Tryz.isAgg112
 z50:=sizeOf112
 v50:=zeroValue112
 t53:=underlying277
 a53:=Tryz.isAgg277
 z53:=sizeOf277
 v53:=zeroValue277
 t55:=underlying143
 a55:=Tryz.isAgg143
 z55:=sizeOf143
 v55:=zeroValue143
 t66:=underlying317
 a66:=Tryz.isAgg317
 z66:=sizeOf317
 v66:=zeroValue317
 t70:=underlying320
 a70:=Tryz.isAgg320
 z70:=sizeOf320
 v70:=zeroValue320
 t76:=underlying367
 a76:=Tryz.isAgg367
 z76:=sizeOf367
 v76:=zeroValue367
 t77:=underlying368
 a77:=Tryz.isAgg368
 z77:=sizeOf368
 v77:=zeroValue368}
end
section
open Go.RowKit Go.Maps
theorem sD(a b:Bs)(h:(32:UInt8)∉a):bs (a++32::b) 32=a:=by
 induction a with
 |nil=>rfl
 |cons c a ih=>
  have d:c≠32:=λe=>h (by rw[e];exact ch);have ih:=ih λg=>h (cc _ g);show(if c==32 then 0 else if bs (a++32::b) 32== -1 then -1 else bs (a++32::b) 32+1)=_;have f:((a.length:Int)== -1)=false:=by simp
  rw[ih,if_neg (by simpa using d),f];simp
theorem B3(a b:Bs)(w:bB)(h:(32:UInt8)∉a)(g:a.length+b<=1000000000):ca prog 340 #[S (a++32::b),S [32]] w λe w'=>e=b5 (.tuple #[S a,S b,b9 true])/\Bw w w':=by
 have c:=Z (stringslite_Index_one ⟨(a++32::b).toArray⟩ 32 w);have d:bs (⟨(a++32::b).toArray⟩:ByteArray).data.toList 32=(a.length:Int):=by simpa using sD a b h
 rw[d]at c;have f:IntKind.i64.wrap ((a.length:Int)+1)=(a.length:Int)+1:=IntWalk.i64_in _ (by omega);clear d;go_enter func340,ntmps340;go_wp2_with (go_at_call 351;(refine bc c.o ?_;rintro e w1⟨rfl,rfl⟩))
 go_quiet (fail)
 go_wp2_with fail;refine bodyPost_ret (v:=.tuple #[S a,S b,b9 true]) ?_ rfl ⟨rfl,?_⟩
 .simp[results,Tryz.results340,go_sem];rw[List.take_of_length_le (by simp),show a++32::b=(a++[32])++b from by simp,List.drop_left' (by simp)]
 exact⟨rfl,rfl,rfl,bw _,λ_ _=>rfl⟩
theorem B4(a b:Bs)(w:bB)(h:(32:UInt8)∉a)(f:a.length+b<=1000000000):ca prog 324 #[S (a++32::b),S [32]] w λe w'=>e=b5 (.tuple #[S a,S b,b9 true])/\Bw w w':=by
 have c:=Z (B3 a b w h f);go_enter func324,ntmps324;go_wp2_with (go_at_call 340;(refine bc c.o ?_;rintro e w1⟨rfl,d⟩))
 refine bodyPost_ret (v:=.tuple #[S a,S b,b9 true]) (by simp[results,Tryz.results324,go_sem]) rfl ⟨rfl,d⟩
theorem BG:Keyed prog 21:=int_keyed underlying21
theorem AE(a:Nat)(h:a<2147483648):(Lit.int b8 a).wf=true:=by
 simp only[Lit.wf,IntKind.min,IntKind.max,IntKind.signed,IntKind.bits];simp;omega
def iI:eJ prog 21 Nat where
 kv c:=J b8 c
 kl c:=.int .i32 c
 ok c:=c<2147483648
 keyed:=BG
 key c h:=keyOf_int_mk underlying21 (AE c h)
 inj a b h:=by have:(a:Int)=b:=by simpa using h
               omega
theorem kP(w:bB):(zeroValue 9).run prog w=.ok (.string ⟨#[]⟩) w:=by kernel_rfl
def fe(p:Bs×Bs):List (Nat×cg):=(runesR p.2).map λc=>(c,S p.1)
def dW(a:List (Bs×Bs)):List (Nat×cg):=a.flatMap fe
def rowText(p:Bs×Bs):Bs:=p.1++32::p.2
theorem AZ{K:Type}[DecidableEq K](l:List (K×cg))(k:K)(v:cg)(h:k∉l.map (·.1)):putL l k v=l++[(k,v)]:=by
 unfold putL cK;rw[List.filter_eq_self.2];intro p a;simp only[Bool.not_eq_true',decide_eq_false_iff_not];intro e;exact h (List.mem_map.2 ⟨p,a,e⟩)
theorem mG{w:bB}{k:Nat}{s:ByteArray}{p:Nat}(h:w.heap[k]?=X (.stringIter s p)):w.iterPos k=p:=by simp[World.iterPos,h]
def db(lo a:Nat)(w:bB)(v:cg)(l:List Bs):Prop:=aL lo a w v l (l.map λs=>S s)
theorem db.at{lo e:Nat}{w:bB}{v:cg}{l:List Bs}(h:db lo e w v l)(k:Nat)(f:k<l):
 ∃b c d,v=b6 (X ⟨b,c,Y⟩) l d/\lo<=b/\b<e/\w.cell? ⟨b,c+k,Y⟩=X (S l[k]):=by
 obtain⟨a,d,n,h⟩:=h;obtain⟨b,c,m,g,i,j⟩:=h (by cases l with|nil=>simp at f|cons p l=>simp);subst m;exact⟨b,c,d,n,g,i,j _ _ (by simp[f])⟩
theorem db.shape{lo c:Nat}{w:bB}{v:cg}{l:List Bs}(h:db lo c w v l):∃a b,v=b6 a l b:=by obtain⟨a,b,d,_⟩:=h;exact⟨a,b,d⟩
theorem qO(a:List (Bs×Bs))(v:cg)(w:bB)(n:db 0 w w v (a.map rowText))(hr:∀p∈a,(32:UInt8)∉p.1/\p.1.length+p.2<=1000)(hn:a.length<=1000)(M:((dW a).map (·.1)).Nodup)(b2:(dW a).length<=1000000):
 ca prog 292 #[v] w λe w'=>e=b5 (bb (X w))/\an iI w' w (dW a)/\Bw w w':=by
 have aT:= @run_makeMap prog;have HV:Hid (∀W,Bw w W->db 0 w W v (a.map rowText)):=λW h=>aL.kept n (aW h (bw _));obtain⟨sa,az,rfl⟩:=n.shape;rw[List.length_map];have HR:=Z hr;have HD:=Z M;clear hr M n;go_enter func292,ntmps292;go_wp2;go_loopw [14] (λi wr=>∃k:Nat,k<=a/\i=J U k/\Hid (an iI wr w (dW (a.take k)))/\Bw w wr) (λi _=>a-(intOf i).toNat)
 exact⟨0,Nat.zero_le _,rfl,an.made w,(Below.refl _ _).alloc (bw _) _⟩;obtain⟨k,hk,rfl,t,r⟩:=hrel;by_cases hlt:k<a;rotate_left
 .have:k=a:=by omega
  subst this;go_wp2_with fail;go_ret;refine⟨rfl,?_,r⟩;have f:=t.o;rw[List.take_length]at f;exact f
 obtain⟨b,b4,aC,n,_,_,y⟩:=(HV.o wr r).at k (by simpa using hlt);cases n;obtain⟨G,al⟩:=HR _ (List.getElem_mem hlt);rw[List.getElem_map]at y;have E:Hid (dW (a.take (k+1))=dW (a.take k)++fe a[k]):=by show dW _=_;unfold dW;rw[List.take_succ_eq_append_getElem hlt,cd];simp
 generalize a[k]=rw_ at*;obtain⟨A,L⟩:=rw_;unfold rowText at y;simp only at y G al;go_wp2_with (go_at_call 324;(refine bc (B4 A L _ G (by omega)) ?_;rintro e w1⟨rfl,u⟩))
 have x:an iI w1 w (dW (a.take k)):=t.block (u.block _ t.lt);have aa:=r.size;have aS:=u.size;have I:Bw w w1:=btr r u aa;have av:w.heap.size<w1:=x.lt;have a4:=Z x;have HH:=Z (eF L);have N:(dW (a.take k)++fe (A,L)).map (·.1)<+:(dW a).map (·.1):=by rw[<- E.o];unfold dW;rw[<- List.take_append_drop (k+1) a,cd,bA];simp
 have B:=Z N;clear x N;go_loopw [] (λo=>∃(d:Nat)(done g:List Nat),o.heap[w1.heap.size]?=X (.stringIter ⟨L.toArray⟩ d)/\Bw w o/\Hid (d<=L.length)/\Hid (done++g=runesR L)/\Hid (fa ⟨L.toArray⟩ d g)/\Hid (an iI o w (dW (a.take k)++done.map λc=>(c,S A)))) (λo=>L.length-o.iterPos w1)
 case atStart=>exact⟨0,[],runesR L,World.iter_heap w1 _ 0,btr I ((Below.refl _ _).alloc (bw _) _) I.size,Nat.zero_le _,rfl,HH.o,by rw[List.map_nil,List.append_nil];exact a4.o.block (Below.heap_alloc _ _ _ av)⟩
 obtain⟨d,done,g,l,H,ay,m,D,C⟩:=hrel;have b0:=mG l;have b1:w1.heap.size<wr:=(Array.getElem?_eq_some_iff.1 l).1;cases g with
 |nil=>
  have au:¬d<(⟨L.toArray⟩:ByteArray).size:=by have:d=(⟨L.toArray⟩:ByteArray).size:=D.o;omega
  have V:∀j,(Instr.next (.pointer w1) true j).run prog wr=_:=λj=>Lib.run_next_end_at wr w1 ⟨L.toArray⟩ d j l au;go_wp2_with fail;go_roundw
  case rel=> refine⟨k+1,by omega,by go_num,?_,H⟩;rw[E.o];have f:=C.o;have q:=m.o;rw[List.append_nil]at q;rw[q]at f;exact f
  simp[intOf];omega
 |cons c g=>
  obtain⟨hp,K,b3,a2,a0⟩:=D.o;have V:∀j,(Instr.next (.pointer w1) true j).run prog wr=_:=λj=>Lib.run_next_any_at wr w1 ⟨L.toArray⟩ d j l hp;have O:=Lib.iterAt_heap wr w1 ⟨L.toArray⟩ d (d+(bv ⟨L.toArray⟩ d).2) l;have a9:=Lib.below_iterAt H (k:=w1.heap.size) (by omega) ⟨L.toArray⟩ (d+(bv ⟨L.toArray⟩ d).2);have P:an iI (wr.iterAt w1 ⟨L.toArray⟩ (d+(bv ⟨L.toArray⟩ d).2)) w _:=C.o.block (Lib.iterAt_other _ _ _ _ _ (by omega));have ax:=Lib.iterAt_size wr w1 ⟨L.toArray⟩ (d+(bv ⟨L.toArray⟩ d).2);rw[K]at V;have R:c∈runesR L:=by rw[<- m.o];simp
  have ac:c<2147483648:=by have:=ol L c R;omega
  have T:c∉(dW (a.take k)++done.map λc=>(c,S A)).map (·.1):=by have f:=HD.sublist B.sublist;rw[show fe (A,L)=(done++c::g).map (λc=>(c,S A))from by rw[m.o];rfl,bA (l₁:=done),<- bY,bA,List.nodup_append]at f;intro ad;exact f.2.2 c ad c (by simp) rfl
  have ao:(dW (a.take k)++done.map λc=>(c,S A)).length<maxLen:=by have f:=B.length_le;have q:=congrArg List.length m.o;simp only[List.length_map,List.length_append,List.length_cons,fe]at f q ⊢;unfold maxLen;omega
  have a7:=Z (AZ _ c (S A) T);generalize(wr.iterAt w1 ⟨L.toArray⟩ (d+(bv ⟨L.toArray⟩ d).2))=W1 at*;generalize(bv ⟨L.toArray⟩ d).2=z at*;have a5:=Z P;have a8:=Z a0;have a3:d+z<=L.length:=a2;clear P a0 R T l K ax a2;go_wp2_with (at_mapUpdate;refine ve _ rfl _ _ _ 308 rfl 9 underlying308 w _ rfl a5.o ao c ac rfl (S A) rfl ?_;intro w2 Q a1;have a6:=Z Q;have F:=Z a1;clear Q a1)
  go_roundw
  case rel=>
   have s:=eA F.o;refine⟨d+z,(s.block _ (by omega)).trans O,btr a9 (s.below (bw _)) (bw _),a3,done++[c],g,?_,a8.o,?_⟩
   .show _=_;rw[bY];exact m.o
   have f:=a6.o;rw[a7.o]at f;show an _ _ _ _;rw[bA,<- bY];exact f
  have s:=eA F.o;rw[mG ((s.block _ (by omega)).trans O)];have:=a3;omega
def rowsS:List (Bs×Bs):=rowsK.map λp=>(p.1,p.2.flatMap enc)
theorem mg:∀p∈rowsK,runesR (p.2.flatMap enc)=p.2:=by decide+kernel
theorem vn:dW rowsS=rowsK.flatMap λp=>p.2.map λc=>(c,S p.1):=by
 unfold dW rowsS;rw[List.flatMap_map];have:∀l:List (Bs×List Nat),(∀p∈l,runesR (p.2.flatMap enc)=p.2)->l.flatMap (λa=>fe (a.1,a.2.flatMap enc))=l.flatMap λp=>p.2.map λc=>(c,S p.1):=by
  intro l;induction l with
  |nil=>intro _;rfl
  |cons p l ih=>
   intro h;rw[bO,bO,ih λq b=>h q (cc _ b)];congr 1
   unfold fe;simp only;rw[h p ch]
 exact this rowsK mg
theorem rf:((dW rowsS).map (·.1))=rowsK.flatMap (·.2):=by
 rw[vn,List.map_flatMap];congr 1
 funext p
 rw[List.map_map];exact List.map_id' _
theorem wv:((dW rowsS).map (·.1)).Nodup:=by rw[rf];decide+kernel
theorem re(c:Nat):lookL (dW rowsS) c=(rowIn c rowsK).map λs=>S s:=by
 rw[vn];have:∀l:List (Bs×List Nat),lookL (l.flatMap λp=>p.2.map λc=>(c,S p.1)) c=(rowIn c l).map λs=>S s:=by
  intro l;induction l with
  |nil=>rfl
  |cons p l ih=>
   obtain⟨s,m⟩:=p;unfold rowIn;unfold lookL at ih ⊢;rw[bO,List.find?_append];by_cases h:m.contains c=true
   .rw[if_pos h];have b:c∈m:=by simpa using h
    have a:(List.find? (λp:Nat×cg=>decide (p.1=c)) (m.map λc=>(c,S s)))=X (c,S s):=by
     clear ih h;induction m with
     |nil=>cases b
     |cons d m ihm=>
      rw[List.map_cons,List.find?_cons];by_cases e:d=c
      .simp[e]
      simp only[e,decide_false];exact ihm (by rcases List.mem_cons.1 b with h|h;exact absurd h.symm e;exact h)
    rw[a];rfl
   rw[if_neg h];have a:(List.find? (λp:Nat×cg=>decide (p.1=c)) (m.map λc=>(c,S s)))=Y:=by rw[List.find?_eq_none];intro q g e;obtain⟨d,f,rfl⟩:=List.mem_map.1 g;simp at e;subst e;exact h (by simpa using f)
   rw[a];exact ih
 exact this rowsK
theorem cU(c f t:Int)(w:bB)(h:f<=c/\c<=t):ca prog 293 #[J b8 c,J b8 f,J b8 t] w λe w'=>e=b5 (b9 true)/\w'=w:=by
 obtain⟨a,b⟩:=h;go_enter func293,ntmps293;go_wp2_with fail;go_ret;exact⟨rfl,rfl⟩
theorem ck(c f t:Int)(w:bB)(h:c<f∨t<c):ca prog 293 #[J b8 c,J b8 f,J b8 t] w λe w'=>e=b5 (b9 false)/\w'=w:=by
 by_cases h1:c<f
 .go_enter func293,ntmps293;go_wp2_with fail;go_ret;exact⟨rfl,rfl⟩
 have a:t<c:=by omega
 have b:f<=c:=by omega
 have d:decide (c<=t)=false:=by simpa using a
 clear h h1 a;go_enter func293,ntmps293;go_wp2_with fail;go_ret;exact⟨rfl,rfl⟩
theorem yK(x:ByteArray):cb x=S (m8 x):=congrArg cb (ByteArray.ext (by simp[m8]))
theorem dY(c:Nat)(i:Int)(h:i=c):cb (Utf8.encode i)=S (enc c):=by
 subst h;exact yK _
theorem bq{a b:cg}(h:a=b):Ending.returned a=b5 b:=by rw[h]
theorem zL(c:Nat)(b:Nat)(w:bB)(p:c<=1114111)(n:an iI w b (dW rowsS)):ca prog 249 #[J b8 c,bb (X b)] w λe w'=>e=b5 (S (foldR c))/\w'=w:=by
 have f:=Z n;have l:IntKind.i32.wrap ((c:Int)+32)=((c+32:Nat):Int):=IntWalk.i32_in _ (by omega);have m:=Z l;clear n l;by_cases k1:(97<=c/\c<=122)
 .have a:Hid (foldR c=enc c):=by show foldR c=_;unfold foldR;rw[if_pos (.inl k1)]
  go_enter func249,ntmps249;go_wp2_with (go_at_call 293;(refine bc (cU _ _ _ _ (by omega)) ?_;rintro e w1⟨rfl,rfl⟩))
  go_ret;exact⟨bq (by rw[a.o];first|exact dY _ _ rfl|exact dY _ _ (by simp)),rfl⟩
 by_cases k2:48<=c/\c<=57
 .have a:Hid (foldR c=enc c):=by show foldR c=_;unfold foldR;rw[if_pos (.inr k2)]
  go_enter func249,ntmps249
  go_wp2_with (first
   |(go_at_call 293;((with_reducible refine bc (ck _ _ _ _ (by omega)) ?_);rintro e w1⟨rfl,rfl⟩))
   |(go_at_call 293;((with_reducible refine bc (cU _ _ _ _ (by omega)) ?_);rintro e w1⟨rfl,rfl⟩)))
  go_ret;exact⟨bq (by rw[a.o];first|exact dY _ _ rfl|exact dY _ _ (by simp)),rfl⟩
 by_cases k3:65<=c/\c<=90
 .have a:Hid (foldR c=enc (c+32)):=by show foldR c=_;unfold foldR;rw[if_neg (by omega),if_pos k3]
  have l:=m.o;go_enter func249,ntmps249
  go_wp2_with (first
   |(go_at_call 293;((with_reducible refine bc (ck _ _ _ _ (by omega)) ?_);rintro e w1⟨rfl,rfl⟩))
   |(go_at_call 293;((with_reducible refine bc (cU _ _ _ _ (by omega)) ?_);rintro e w1⟨rfl,rfl⟩)))
  go_ret;exact⟨bq (by rw[a.o];first|exact dY _ _ rfl|exact dY _ _ (by simp)),rfl⟩
 by_cases k4:c<128
 .have a:Hid (foldR c=[32]):=by show foldR c=_;unfold foldR;rw[if_neg (by omega),if_neg (by omega),if_pos k4]
  have r:(c:Int)<128:=by omega
  go_enter func249,ntmps249;go_wp2_with (go_at_call 293;(refine bc (ck _ _ _ _ (by omega)) ?_;rintro e w1⟨rfl,rfl⟩))
  go_ret;exact⟨bq (by rw[a.o];rfl),rfl⟩
 have q:decide ((c:Int)<128)=false:=decide_eq_false (by omega);by_cases h:(768<=c/\c<=879)∨(65056<=c/\c<=65071)
 .have a:Hid (foldR c=[]):=by show foldR c=_;unfold foldR;rw[if_neg (by omega),if_neg (by omega),if_neg k4,if_pos h]
  rcases h with h|h
  all_goals
   go_enter func249,ntmps249
   go_wp2_with (first
    |(go_at_call 293;((with_reducible refine bc (ck _ _ _ _ (by omega)) ?_);rintro e w1⟨rfl,rfl⟩))
    |(go_at_call 293;((with_reducible refine bc (cU _ _ _ _ (by omega)) ?_);rintro e w1⟨rfl,rfl⟩)))
   go_ret
   exact⟨bq (by rw[a.o];rfl),rfl⟩
 have g:c<2147483648:=by omega
 have t:=kP w;cases hrow:rowIn c rowsK with
 |some s=>
  have a:Hid (foldR c=s):=by show foldR c=_;unfold foldR;rw[if_neg (by omega),if_neg (by omega),if_neg k4,if_neg h,hrow]
  have d:Hid (lookL (dW rowsS) c=X (S s)):=by show lookL _ _=_;rw[re,hrow];rfl
  clear hrow;go_enter func249,ntmps249
  go_wp2_with (first
   |(go_at_call 293;((with_reducible refine bc (ck _ _ _ _ (by omega)) ?_);rintro e w1⟨rfl,rfl⟩))
   |(at_lookup;refine dm _ rfl _ _ 308 rfl 9 underlying308 (kP _) b _ rfl f.o c g rfl ?_;rw[d.o];simp only[Option.getD_some,Option.isSome_some]))
  go_ret;exact⟨bq (by rw[a.o];rfl),rfl⟩
 |none=>
  have d:Hid (lookL (dW rowsS) c=Y):=by show lookL _ _=_;rw[re,hrow];rfl
  have k:Hid (foldR c=if c=962 then enc 963 else if(945<=c/\c<=969)∨(1072<=c/\c<=1103)then enc c else if(913<=c/\c<=937/\c≠930)∨(1040<=c/\c<=1071)then enc (c+32)else[32]):=by show foldR c=_;unfold foldR;rw[if_neg (by omega),if_neg (by omega),if_neg k4,if_neg h,hrow]
  clear hrow;by_cases k6:c=962
  .subst k6;go_enter func249,ntmps249
   go_wp2_with (first
    |(go_at_call 293;((with_reducible refine bc (ck _ _ _ _ (by omega)) ?_);rintro e w1⟨rfl,rfl⟩))
    |(at_lookup;refine dm _ rfl _ _ 308 rfl 9 underlying308 (kP _) b _ rfl f.o 962 g rfl ?_;rw[d.o];simp only[bl,bk]))
   go_ret;exact⟨bq (by rw[k.o];rfl),rfl⟩
  have u:((c:Int)==962)=false:=by simpa using(by omega:(c:Int)≠962)
  by_cases i:(945<=c/\c<=969)∨(1072<=c/\c<=1103)
  .have a:Hid (foldR c=enc c):=by show foldR c=_;rw[k.o,if_neg k6,if_pos i]
   rcases i with i|i
   all_goals
    go_enter func249,ntmps249
    go_wp2_with (first
     |(go_at_call 293;((with_reducible refine bc (ck _ _ _ _ (by omega)) ?_);rintro e w1⟨rfl,rfl⟩))
     |(go_at_call 293;((with_reducible refine bc (cU _ _ _ _ (by omega)) ?_);rintro e w1⟨rfl,rfl⟩))
     |(at_lookup;refine dm _ rfl _ _ 308 rfl 9 underlying308 (kP _) b _ rfl f.o c g rfl ?_;rw[d.o];simp only[bl,bk]))
    go_ret
    exact⟨bq (by rw[a.o];exact dY _ _ rfl),rfl⟩
  by_cases j:(913<=c/\c<=937/\c≠930)∨(1040<=c/\c<=1071)
  .have a:Hid (foldR c=enc (c+32)):=by show foldR c=_;rw[k.o,if_neg k6,if_neg i,if_pos j]
   have l:=m.o;rcases j with j|j
   .have o:((c:Int)!=930)=true:=by simpa using(by omega:(c:Int)≠930)
    go_enter func249,ntmps249
    go_wp2_with (first
     |(go_at_call 293;((with_reducible refine bc (ck _ _ _ _ (by omega)) ?_);rintro e w1⟨rfl,rfl⟩))
     |(go_at_call 293;((with_reducible refine bc (cU _ _ _ _ (by omega)) ?_);rintro e w1⟨rfl,rfl⟩))
     |(at_lookup;refine dm _ rfl _ _ 308 rfl 9 underlying308 (kP _) b _ rfl f.o c g rfl ?_;rw[d.o];simp only[bl,bk]))
    go_ret;exact⟨bq (by rw[a.o];first|exact dY _ _ rfl|exact dY _ _ (by simp)),rfl⟩
   go_enter func249,ntmps249
   go_wp2_with (first
    |(go_at_call 293;((with_reducible refine bc (ck _ _ _ _ (by omega)) ?_);rintro e w1⟨rfl,rfl⟩))
    |(go_at_call 293;((with_reducible refine bc (cU _ _ _ _ (by omega)) ?_);rintro e w1⟨rfl,rfl⟩))
    |(at_lookup;refine dm _ rfl _ _ 308 rfl 9 underlying308 (kP _) b _ rfl f.o c g rfl ?_;rw[d.o];simp only[bl,bk]))
   go_ret;exact⟨bq (by rw[a.o];first|exact dY _ _ rfl|exact dY _ _ (by simp)),rfl⟩
  have a:Hid (foldR c=[32]):=by show foldR c=_;rw[k.o,if_neg k6,if_neg i,if_neg j]
  by_cases o:c=930
  .subst o;go_enter func249,ntmps249
   go_wp2_with (first
    |(go_at_call 293;((with_reducible refine bc (ck _ _ _ _ (by omega)) ?_);rintro e w1⟨rfl,rfl⟩))
    |(go_at_call 293;((with_reducible refine bc (cU _ _ _ _ (by omega)) ?_);rintro e w1⟨rfl,rfl⟩))
    |(at_lookup;refine dm _ rfl _ _ 308 rfl 9 underlying308 (kP _) b _ rfl f.o 930 g rfl ?_;rw[d.o];simp only[bl,bk]))
   go_ret;exact⟨bq (by rw[a.o];rfl),rfl⟩
  go_enter func249,ntmps249
  go_wp2_with (first
   |(go_at_call 293;((with_reducible refine bc (ck _ _ _ _ (by omega)) ?_);rintro e w1⟨rfl,rfl⟩))
   |(at_lookup;refine dm _ rfl _ _ 308 rfl 9 underlying308 (kP _) b _ rfl f.o c g rfl ?_;rw[d.o];simp only[bl,bk]))
  go_ret;exact⟨bq (by rw[a.o];rfl),rfl⟩
end
end Go.Proofs.YtjcimanddakkaaaGreatDoor
