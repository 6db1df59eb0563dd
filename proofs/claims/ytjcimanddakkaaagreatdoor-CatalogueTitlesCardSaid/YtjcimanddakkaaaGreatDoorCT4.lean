/- Lemmas. -/
import Derived.Test.YtjcimanddakkaaaGreatDoorCT1
import Derived.Test.YtjcimanddakkaaaGreatDoorProg
import Derived.Deep.RegionHeld3
import Derived.Deep.DrawnRows
import Derived.Shelf.Strings.Builder1
import Derived.Shelf.Strings.SlTrimAscii
import Derived.Shelf.Unicode.DecodeAny
import Derived.Deep.DeepCutAuto
set_option maxRecDepth 100000
set_option maxHeartbeats 8000000
namespace Go.Proofs.YtjcimanddakkaaaGreatDoor
open Go.Value renaming int→J,bool→b5,slice→b6,pointer→b7
open Go.IntKind renaming u8→b3,i64→U
open Go.Ending renaming returned→b4
open _root_.Option renaming some→X,none→Y
open Go.Lib renaming hid→Z
open Go.Obj renaming cells→b8
open Tryz
open _root_.Nat renaming le_refl→bb,zero_le→cb,le_trans→cg
open Go.Value renaming slice→bc,int→cq
open Go renaming World→bd,Value→bw,Calls→bB
open _root_.List renaming take_of_length_le→bk,take_succ_eq_append_getElem→b9,getElem_mem→ch,length→cj,length_append→cl,eq_nil_of_length_eq_zero→cp
open Go.RowKit.Below renaming refl→bl,heap_setCell→cy
open _root_.Bool renaming eq_iff_iff→bs
open _root_.UInt8 renaming ofNat→bt
open Go.Lib renaming byteCells→bv,cell_of_heap→bA,frozen_of_heap→cm,trimS→cs
open _root_.ByteArray renaming size→bO
open Go.Obj renaming cells→bY
open Go.Calls renaming mono→ca
open _root_.Array renaming getElem?_modify→cc
open Go.Addr renaming add→cd
open Go.World renaming cell?_of_block→ci,setCell→cu,ownsRow_nil→cz
open _root_.Decidable renaming not_not→cv
open Go.IntKind renaming u8→cx
section
open Go.RowKit
theorem kp(c:UInt8)(w:bd):bB prog 109 #[J b3 c] w λe w'=>e=b4 (b5 (letterB c))/\w=w':=by
 go_enter func109,ntmps109;go_wp2;all_goals(go_ret;refine⟨am ?_,rfl⟩;rw[bs];simp[letterB];try omega)
theorem km(c:UInt8)(w:bd):bB prog 165 #[J b3 c] w λe w'=>e=b4 (b5 (letterB c))/\w=w':=by
 go_enter func165,ntmps165;go_wp2;all_goals(go_ret;refine⟨am ?_,rfl⟩;rw[bs];simp[letterB];try omega)
theorem zW(c:UInt8)(w:bd):bB prog 228 #[J b3 c] w λe w'=>e=b4 (b5 (digitB c))/\w=w':=by
 go_enter func228,ntmps228;go_wp2;all_goals(go_ret;refine⟨am ?_,rfl⟩;rw[bs];simp[digitB];try omega)
theorem pG(c:UInt8)(w:bd):bB prog 159 #[J b3 c] w λe w'=>e=b4 (b5 (fu c))/\w=w':=by
 go_enter func159,ntmps159;go_wp2;all_goals(go_ret;refine⟨am ?_,rfl⟩;rw[bs];simp[fu];try omega)
theorem AM(c:UInt8)(w:bd):bB prog 219 #[J b3 c] w λe w'=>e=b4 (b5 (fu c))/\w=w':=by
 go_enter func219,ntmps219;go_wp2;all_goals(go_ret;refine⟨am ?_,rfl⟩;rw[bs];simp[fu];try omega)
theorem sB(c:UInt8)(w:bd):bB prog 156 #[J b3 c] w λe w'=>e=b4 (b5 (gu c))/\w=w':=by
 go_enter func156,ntmps156;go_wp2_with (go_at_call 159;refine(pG _ _).mono ?_;rintro e w'⟨rfl,rfl⟩)
 all_goals(go_ret;refine⟨am ?_,rfl⟩;rw[bs];simp[gu,fu];try omega)
theorem CR(n m:Int):(n.tmod m+m)%m=n.emod m:=by
 rw[Int.add_emod_right];rw[Int.tmod_def];exact Int.sub_mul_emod_self_left n m _
theorem ki(n m:Int)(w:bd)(c:1<=m)(d:m<=1000000):
 bB prog 24 #[n,m] w λe w'=>e=b4 (n.emod m)/\w=w':=by
 have a:n.tmod m<m:=Int.tmod_lt_of_pos n (by omega);have b: -m<n.tmod m:=by have:=Int.lt_tmod_of_pos n (show 0<m by omega);omega
 go_enter func24,ntmps24;go_wp2;go_ret;exact⟨aI (CR n m),rfl⟩
open Go.RowKit
theorem Ba(x:Ch)(c:UInt8)(b:Nat)(w:bd)(a:kI x)(h:tC w b x):
 bB prog 229 #[.pointer b,J b3 c] w (ni x c b w):=by
 obtain⟨d,c1,c2,e,f,g⟩:=h;obtain⟨k,l,j⟩:=a;have i:=nU c;go_enter func229,ntmps229;go_wp2;all_goals go_ret
 all_goals go_tidy
 all_goals(try simp only[beq_iff_eq,beq_eq_false_iff_ne]at*)
 all_goals first
  |(refine zo (by repeat' (with_reducible (first|exact aF.refl _ _|refine aF.setCell ?_ _ _))) rfl ?_;first|exact B5 (by omega) (by omega)|exact lI (by omega) (by omega))
  |(first
   |refine eP (C0 (by omega) (by omega)) (by repeat' (with_reducible (first|exact aF.refl _ _|refine aF.setCell ?_ _ _))) rfl ?_
   |refine eP (sW (by omega) (by omega)) (by repeat' (with_reducible (first|exact aF.refl _ _|refine aF.setCell ?_ _ _))) rfl ?_
   |refine eP (Ag (by omega) (by omega)) (by repeat' (with_reducible (first|exact aF.refl _ _|refine aF.setCell ?_ _ _))) rfl ?_
   |refine eP (Cu (by omega) (by omega)) (by repeat' (with_reducible (first|exact aF.refl _ _|refine aF.setCell ?_ _ _))) rfl ?_
   |refine eP (Ct (by omega) (by omega)) (by repeat' (with_reducible (first|exact aF.refl _ _|refine aF.setCell ?_ _ _))) rfl ?_
   |refine eP (Cs (by omega) (by omega)) (by repeat' (with_reducible (first|exact aF.refl _ _|refine aF.setCell ?_ _ _))) rfl ?_
   |refine eP (Cr (by omega) (by omega)) (by repeat' (with_reducible (first|exact aF.refl _ _|refine aF.setCell ?_ _ _))) rfl ?_
   |refine eP (Cq (by omega) (by omega)) (by repeat' (with_reducible (first|exact aF.refl _ _|refine aF.setCell ?_ _ _))) rfl ?_
   |refine eP (Cp (by omega) (by omega)) (by repeat' (with_reducible (first|exact aF.refl _ _|refine aF.setCell ?_ _ _))) rfl ?_)
 all_goals constructor
 all_goals go_simp
 all_goals(first|omega|(refine World.cell?_setCell_same' _ _ _ ?_;go_simp;done))
theorem ku(l:Bs)(w:bd)(t:l.length<=1000000):
 bB prog 218 #[S l] w λe w'=>e=b4 (b5 (be l))/\Bw w w':=by
 go_enter func218,ntmps218;go_wp2_with fail;go_loopw [4,5] (λi f wr=>∃(k:Nat)(y:Ch),k<=l/\i=J U k/\chRun ch0 (l.take k)=X y/\kI y/\tC wr w y/\Bw w wr) (λi _ _=>l-(intOf i).toNat)
 exact⟨0,ch0,cb _,rfl,rfl,Aj,Ak w 297,(bl _ _).alloc (bb _) _⟩;obtain⟨k,y,s,rfl,h,d,c,b⟩:=hrel;have a:=Z h;clear h;by_cases hlt:k<l
 .have m:=Z (wn l k hlt);go_wp2_with (go_at_call 229;refine(Ba y l[k] w wr d c).mono ?_;rintro e u⟨g,⟨hn,rfl⟩|⟨z,j,rfl,n⟩⟩)
  .go_ret;exact⟨am (sw (uR l k y hlt ch0 a.o hn.o)).symm,b.trans (g.below (bb _))⟩
  go_roundw
  case rel=>exact⟨k+1,z,by omega,by go_num,by rw[m.o,uQ _ _ _ _ a.o];exact j.o,s9 d j.o,n,b.trans (g.below (bb _))⟩
  simp[intOf];omega
 obtain⟨o,c1,c2,p,q,r⟩:=c;go_wp2_with fail;go_ret;refine⟨am ?_,b⟩;rw[uD (by rw[<- a.o,bk (by omega)]),bs];simp;try omega
open Go.RowKit
attribute [local go_sem ↓] Go.wp_at_zero Go.wp_at_succ
theorem fi(l:Bs)(w:bd)(a:2<=l.length):
 bB prog 217 #[S l] w λe w'=>e=b4 (b5 (fR l))/\w=w':=by
 go_enter func217,ntmps217;go_wp2;go_ret;exact⟨am (by unfold fR;rw[bs];simp),rfl⟩
theorem fQ(l:Bs)(w:bd):
 bB prog 176 #[S l] w λe w'=>e=b4 (b5 (bJ l))/\w=w':=by
 by_cases h:l.length=3;rotate_left
 .have g:((l.length:Int)==3)=false:=by simp;omega
  have d:bJ l=false:=by simp[bJ,h]
  go_enter func176,ntmps176;go_wp2_with fail;go_ret;exact⟨am d.symm,rfl⟩
 obtain⟨a,b,c,rfl⟩:∃a b c,l=[a,b,c]:=by
  match l,h with
  |[a,b,c],_=>exact⟨a,b,c,rfl⟩
 have d:∀x,x=bJ [a,b,c]->Ending.returned (b5 x)=b4 (b5 (bJ [a,b,c])):=λx h=>by rw[h]
 have f:=Z d;clear h d;cases ha:digitB a<;>cases hb:digitB b<;>cases hc:digitB c
 all_goals
  go_enter func176,ntmps176
  go_wp2_with (go_at_call 228;refine(zW _ _).mono ?_;rintro e w'⟨rfl,rfl⟩)
  go_ret
  refine⟨f _ ?_,rfl⟩
  rw[bs]
  simp[bJ,ha,hb,hc]
 all_goals(by_cases x:a=48<;>by_cases y:b=48<;>by_cases z:c=48<;>simp[x,y,z])
theorem xY(w:bd)(b:Nat)(c:Int)(h:w.cell? b=X (J b3 c))(d:0<=c/\c<256):
 (convert 76 9 (b6 b 1 1)).run prog w=.ok (S [bt c.toNat]) w:=by
 have:=run_convert_bytes_back (P:=prog) w 76 9 5 b 1 [bt c.toNat] underlying76 underlying5 underlying9
  (λj a=>by
   have:j=0:=by simpa using a
   subst this
   simp[cd,h]
   omega)
 simpa using this
open Go.RowKit
attribute [local go_sem ↓] Go.wp_at_zero Go.wp_at_succ
theorem tj(f:ag)(d:bw)(w:bd)(z:aE 0 w.heap.size w d f.subs)(r:(fieldBytes f).length<=1000000)(hn:f.subs.length<=1000000):
 bB prog 123 #[fieldV f d] w λe w'=>e=b4 (S (fieldBytes f))/\Bw w w':=by
 obtain⟨u,l,j,c⟩:=f;have O:j.length+l.length<=1000000:=by simp[fieldBytes]at r;omega
 have x:=Z r;have D:=Z z;obtain⟨a,m,rfl,_⟩:=z;clear r;unfold fieldV;go_enter func123,ntmps123;go_wp2_with fail
 go_loopw [3,4] (λs i wr=>∃(k:Nat)(g:Bs),k<=c.length/\i=J U k/\s=S g/\Hid (g=j++l++(c.take k).flatMap aV)/\g.length<1000000/\
  Below (w.heap.size+1) (w.alloc (bY #[S u,S l,S j,bc a c.length m] 123)) wr) (λ_ i _=>c.length-(intOf i).toNat)
 case atStart=>exact⟨0,j++l,cb _,rfl,rfl,(by simp[Hid]),(by have:=bS ⟨u,l,j,c⟩ 0;have:=x.o;simp at*;omega),bl _ _⟩
 obtain⟨k,g,N,rfl,rfl,v,M,n⟩:=hrel;have q:wr.cell? ⟨w.heap.size,3,Y⟩=X (bc a c.length m):=by rw[n.cell (p:=⟨w.heap.size,3,Y⟩) (by simp)];go_simp
 by_cases hlt:k<c.length;rotate_left
 .have G:¬9223372036854775807<cj g+1:=by omega
  go_wp2_with fail;go_ret;refine⟨vC ?_,btr ((bl _ w).alloc (bb _) _) n (by omega)⟩;rw[v.o,bk (by omega)];rfl
 have E:aE 0 w.heap.size wr (bc a c.length m) c:=(D.o.kept (aW ((bl _ w).alloc (bb _) _) (bb _))).kept (aW n (by omega));obtain⟨b,t,L,F,_,_,A,B⟩:=E.sub k hlt;cases F;have y:Hid (g++(31::c[k].code::c[k].text)=j++l++(c.take (k+1)).flatMap aV):=by rw[kD _ _ _ hlt,v.o];simp[Hid,aV]
 have P:g.length+2+c[k].text.length<1000000:=by have:=bS ⟨u,l,j,c⟩ (k+1);simp only at this;rw[<- y.o]at this;have:=x.o;simp at*;omega
 have Q:=λW b(h:W.cell? ⟨b,0,Y⟩=X (J b3 c[k].code.toNat))=>xY W b _ h ⟨yy _,nU _⟩;generalize c[k].text=T at*;generalize c[k].code=C at*;have H:∀o,(wr.alloc o).cell? ⟨w.heap.size,3,Y⟩=X (bc (X ⟨b,t,Y⟩) c.length m):=λo=>by rw[bf _ _ _ _ (bE q)];exact q
 have I:∀o,(wr.alloc o).cell? ⟨b,t+k*2,Y⟩=X (J b3 C.toNat):=λo=>by rw[bf _ _ _ _ (bE A)];exact A
 have K:∀o,(wr.alloc o).cell? ⟨b,t+k*2+1,Y⟩=X (S T):=λo=>by rw[bf _ _ _ _ (bE B)];exact B
 have G:¬9223372036854775807<cj g+1:=by omega
 have R:¬9223372036854775807<cj g+1+1:=by omega
 have V:¬9223372036854775807<cj g+1+1+cj T:=by omega
 go_wp2_with fail;go_region;go_wp2_with fail;go_roundw
 case rel=>
  refine⟨k+1,g++(31::C::T),by omega,by go_num,?_,y,by simp;omega,?_⟩
  .simp
  exact(n.alloc (by have:w.heap.size<wr.heap.size:=bE q;omega) _).drew
 simp[intOf];omega
end
section
open Go.RowKit
theorem mX(l:Bs)(w:bd):∃c w1,(convert 9 76 (S l)).run prog w=.ok (b6 w l c) w1/\w1.heap.size=w+1/\l<=c/\Bw w w1/\
 (∀k(h:k<l.length),w1.cell? ⟨w,k,Y⟩=X (J b3 l[k].toNat))/\(∀k,k<l.length->w1.frozen? ⟨w,k,Y⟩=false):=by
 have e:l<=grownCap w l 0 5:=grownCap_ge w l 0 5;refine⟨_,_,run_bytes_of_string w 9 76 5 ⟨l.toArray⟩ underlying9 underlying76 underlying5,by simp,e,((bl _ w).drew).alloc (by simp) _,?_,?_⟩
 .intro k h;refine(World.cell?_alloc_mark w.drew _ _ _ k).trans ?_;have a:k<(Array.map (λb:UInt8=>cq cx ↑b) (⟨l.toArray⟩:ByteArray).data).size:=by simpa using h
  unfold bytesRow;rw[Array.getElem?_append_left a];simp[h]
 intro k h;refine(World.frozen?_alloc_mark w.drew _ _ _ _ k).trans ?_;have a:k<(bytesRow ⟨l.toArray⟩ (grownCap w l 0 5)).size:=by unfold bytesRow;simp;omega
 have d:(decide ((bytesRow ⟨l.toArray⟩ (grownCap w l 0 5)).size<=k))=false:=by simpa using a
 show(decide ((bytesRow ⟨l.toArray⟩ (grownCap w l 0 5)).size<=k)&&_)=false;rw[d];rfl
def pS(p s:Bs):Bool:=decide (s.take p=p)
theorem qr(s p:Bs)(w:bd):bB prog 273 #[S s,S p] w λe w'=>e=b4 (b5 (pS p s))/\w=w':=by
 go_enter func273,ntmps273;go_wp2;all_goals go_ret
 all_goals refine⟨am ?_,rfl⟩
 .rw[pS,bs];simp
 rename_i h;symm;rw[pS,decide_eq_false_iff_not]
 intro a;apply h;rw[<- a];simp;omega
theorem gv(s p:Bs)(w:bd):bB prog 205 #[S s,S p] w λe w'=>e=b4 (b5 (pS p s))/\w=w':=by
 go_enter func205,ntmps205;go_wp2_with (go_at_call 273;refine(qr _ _ _).mono ?_;rintro e w'⟨rfl,rfl⟩)
 go_ret;exact⟨rfl,rfl⟩
theorem mR(l:Bs)(w:bd):bB prog 154 #[S l] w λe w'=>e=b4 (b5 (fR l))/\w=w':=by
 go_enter func154,ntmps154;go_wp2_with (go_at_call 205;refine(gv _ [48,48] _).mono ?_;rintro e w'⟨rfl,rfl⟩)
 go_ret;exact⟨rfl,rfl⟩
open Go.Shelf
def r7:Go.Shelf.Ren:=⟨λ|160=>204|232=>267|231=>266|227=>268|234=>270|233=>269|236=>272|235=>271|228=>307|271=>308|151=>235|197=>278|120=>330|152=>284|260=>310|137=>246|119=>312|224=>313|225=>314|217=>291|266=>323|n=>n,λ|9=>9|4=>4|3=>3|5=>5|117=>328|116=>327|0=>0|124=>331|21=>21|105=>334|46=>218|119=>383|139=>386|138=>385|n=>n,λ|3=>0|4=>1|n=>n⟩
theorem Bx:Go.Proofs.Lays.n160 prog r7:={
 mixed:=by kernel_rfl
 f119:=Qf func312
 f120:=Qf func330
 f137:=Qf func246
 f151:=Qf func235
 f152:=Qf func284
 f160:=Qf func204
 f197:=Qf func278
 f217:=Qf func291
 f224:=Qf func313
 f225:=Qf func314
 f227:=Qf func268
 f228:=Qf func307
 f231:=Qf func266
 f232:=Qf func267
 f233:=Qf func269
 f234:=Qf func270
 f235:=Qf func271
 f236:=Qf func272
 f260:=Qf func310
 f266:=Qf func323
 f271:=Qf func308
 t0:=underlying0
 a0:=Tryz.isAgg0
 z0:=sizeOf0
 v0:=zeroValue0
 t3:=underlying3
 a3:=Tryz.isAgg3
 z3:=sizeOf3
 v3:=zeroValue3
 t4:=underlying4
 a4:=Tryz.isAgg4
 z4:=sizeOf4
 v4:=zeroValue4
 t5:=underlying5
 a5:=Tryz.isAgg5
 z5:=sizeOf5
 v5:=zeroValue5
 t9:=underlying9
 a9:=Tryz.isAgg9
 z9:=sizeOf9
 v9:=zeroValue9
 t21:=underlying21
 a21:=Tryz.isAgg21
 z21:=sizeOf21
 v21:=zeroValue21
 t46:=underlying218
 a46:=Tryz.isAgg218
 z46:=sizeOf218
 v46:=zeroValue218
 t105:=underlying334
 a105:=Tryz.isAgg334
 z105:=sizeOf334
 v105:=zeroValue334
 t116:=underlying327
 a116:=Tryz.isAgg327
 z116:=sizeOf327
 t117:=underlying328
 a117:=Tryz.isAgg328
 z117:=sizeOf328
 v117:=zeroValue328
 t119:=underlying383
 a119:=Tryz.isAgg383
 z119:=sizeOf383
 t124:=underlying331
 a124:=Tryz.isAgg331
 z124:=sizeOf331
 v124:=zeroValue331
 t138:=underlying385
 a138:=Tryz.isAgg385
 z138:=sizeOf385
 v138:=zeroValue385
 t139:=underlying386
 a139:=Tryz.isAgg386
 z139:=sizeOf386
 v139:=zeroValue386
 g3:=by kernel_rfl
 g4:=by kernel_rfl}
def kR:Go.Shelf.Ren:=⟨λ|240=>161|276=>207|n=>n,λ|0=>0|4=>4|9=>9|20=>20|70=>185|72=>187|164=>282|37=>76|5=>5|n=>n,λ|n=>n⟩
theorem vJ:Go.Proofs.Lays.n240 prog kR:={
 mixed:=by kernel_rfl
 f240:=Qf func161
 f276:=Qf func207
 t0:=underlying0
 a0:=Tryz.isAgg0
 z0:=sizeOf0
 v0:=zeroValue0
 t4:=underlying4
 a4:=Tryz.isAgg4
 z4:=sizeOf4
 v4:=zeroValue4
 t9:=underlying9
 a9:=Tryz.isAgg9
 z9:=sizeOf9
 v9:=zeroValue9
 t20:=underlying20
 a20:=Tryz.isAgg20
 z20:=sizeOf20
 v20:=zeroValue20
 t70:=underlying185
 a70:=Tryz.isAgg185
 z70:=sizeOf185
 v70:=zeroValue185
 t72:=underlying187
 a72:=Tryz.isAgg187
 z72:=sizeOf187
 v72:=zeroValue187
 t164:=underlying282
 a164:=Tryz.isAgg282
 z164:=sizeOf282
 v164:=zeroValue282}
theorem mY:Builder.X72 prog kR:={sizeBuilder:=by kernel_rfl,liesBuilder:=by kernel_rfl}
open Go.RowKit in
theorem mO(b:Nat)(w:bd)(a:w.cell? b=X (.pointer b)):
 bB prog 161 #[.pointer b] w λe w'=>e=b4 (.tuple #[])/\w'=w:=Any.Builder_copyCheck_used vJ mY b w a
open Go.RowKit in
theorem ln(b:Nat)(w:bd)(a:w.cell? b=X (b7 Y))(d:w.shape? b=X (187,2))(c:w.frozen? b=false):
 bB prog 161 #[.pointer b] w λe w'=>e=b4 (.tuple #[])/\w'=w.setCell b (.pointer b):=Any.Builder_copyCheck_fresh vJ mY b w a d c
open Go.RowKit in
open Go.RowKit in
open Go.RowKit in
theorem pm(s:ByteArray)(w:bd)(a:s.size<=9223372036854775807):
 bB prog 204 #[.string s,.string ⟨#[48,49,50,51,52,53,54,55,56,57]⟩] w λe w'=>e=b4 (.string ⟨(cs s.data.toList [48,49,50,51,52,53,54,55,56,57]).toArray⟩)/\Bw w w':=
 Any.strings_Trim_laid Bx (by kernel_rfl) s ⟨#[48,49,50,51,52,53,54,55,56,57]⟩ w a (by decide) (ascii_of_all (by decide))
open Go.RowKit
def ji:Bs:=[48,49,50,51,52,53,54,55,56,57]
theorem mL(b:UInt8):ji.contains b=digitB b:=by
 have:∀n:Fin 256,ji.contains (bt n.val)=digitB (bt n.val):=by decide+kernel
 have h:=this ⟨b,b.toNat_lt⟩;simpa using h
theorem lS(l:Bs):cs l ji=[]↔l.all digitB=true:=by
 have b:∀l:Bs,l.dropWhile (ji.contains ·)=[]↔l.all digitB=true:=by
  intro l;induction l with
  |nil=>simp
  |cons a l ih=>
   rw[List.dropWhile_cons];by_cases h:digitB a=true
   .rw[if_pos (by rw[mL];exact h),ih];simp[h]
   rw[if_neg (by rw[mL];exact h)];simp[h]
 unfold cs Lib.trimLeftS;rw[b];unfold Lib.trimRightS;constructor
 .intro h;have c:(l.reverse.dropWhile (ji.contains ·))=[]:=by
   cases hd:l.reverse.dropWhile (ji.contains ·)with
   |nil=>rfl
   |cons a r=>
    exfalso;have e:¬(ji.contains a)=true:=by have d:=List.head?_dropWhile_not (ji.contains ·) l.reverse;rw[hd]at d;simp only[List.head?_cons]at d;rw[d];simp
    rw[hd]at h;rw[List.all_eq_true]at h;have:=h a (by simp);rw[mL]at e;exact e this
  have:=(b l.reverse).1 c;simpa using this
 intro h;have c:(l.reverse.dropWhile (ji.contains ·))=[]:=(b l.reverse).2 (by simpa using h);rw[c];rfl
theorem tN(l:Bs)(w:bd):bB prog 153 #[S l] w λe w'=>e=b4 (b5 (bJ l))/\Bw w w':=by
 by_cases h:l.length=3;rotate_left
 .have d:((l.length:Int)==3)=false:=by simp;omega
  have f:bJ l=false:=by simp[bJ,h]
  go_enter func153,ntmps153;go_wp2_with fail;go_ret;exact⟨am f.symm,bl _ _⟩
 by_cases hz:l=[48,48,48]
 .subst hz;go_enter func153,ntmps153;go_wp2_with fail;go_ret;exact⟨rfl,bl _ _⟩
 have b:Hid (bJ l=l.all digitB):=by unfold Hid;simp[bJ,h,hz]
 have d:((l.length:Int)==3)=true:=by simp;omega
 have a:Hid (∀W,bB prog 204 #[S l,.string ⟨#[48,49,50,51,52,53,54,55,56,57]⟩] W λe w'=>e=b4 (S (cs l ji))/\Bw W w'):=λW=>pm ⟨l.toArray⟩ W (by have:(⟨l.toArray⟩:ByteArray).size=l:=rfl;omega);have c:=Z (lS l);clear h;generalize cs l ji=t at*;go_enter func153,ntmps153;go_wp2_with (go_at_call 204;(refine ca (a.o _) ?_;rintro e w'⟨rfl,g⟩))
 go_ret;refine⟨am ?_,g⟩;rw[b.o,bs,<- c.o];simp[hz]
end
section
open Go.RowKit
theorem tC.of{b:Nat}{w w':bd}{x:Ch}(h:tC w b x)(d:w'.heap[b]?=w.heap[b]?):tC w' b x:=by
 have a:∀i,w'.cell? ⟨b,i,Y⟩=w.cell? ⟨b,i,Y⟩:=λi=>ci (w:=w) d;have c:∀i,w'.frozen? ⟨b,i,Y⟩=w.frozen? ⟨b,i,Y⟩:=λi=>World.frozen?_of_block (w:=w) d;exact⟨by rw[a];exact h.c0,by rw[a];exact h.c1,by rw[a];exact h.c2,by rw[c];exact h.f0,by rw[c];exact h.f1,by rw[c];exact h.f2⟩
theorem aO(w:bd)(a b:Addr)(u:bw):(w.setCell a u).frozen? b=w.frozen? b:=by
 unfold World.frozen? cu;simp only[cc];by_cases h:a.block=b.block
 .rw[if_pos h,<- h];cases w.heap[a.block]? with
  |none=>rfl
  |some o=>cases o<;>rfl
 rw[if_neg h]
theorem zN(a:List cH):(a.flatMap subCells).length=a*2:=by
 induction a with
 |nil=>rfl
 |cons s l ih=>rw[List.flatMap_cons,cl,ih];simp[subCells];omega
theorem aZ(w:bd)(o:Obj):Bw w (w.alloc o):=(bl _ w).alloc (bb _) o
theorem aw{w:bd}{B:Nat}{e:TypeId}{k:Nat}{v:bw}{n:Nat}{c:List bw}(h:w.ownsRow B e k v n c):∃a b,v=b6 a n b:=by
 rcases h.2 with⟨rfl,rfl⟩|⟨g,b,d,rfl,_⟩
 .exact⟨Y,0,rfl⟩
 exact⟨_,_,rfl⟩
open Go.RowKit
def bD(lo:Nat)(g:Option Nat)(w:bd)(v:bw)(c:List cH):Prop:=
 ∃a e,v=b6 a c e/\(c≠[]->∃b d,a=X ⟨b,d,Y⟩/\lo<=b/\b<w/\g≠X b/\∀j x,(c.flatMap subCells)[j]?=X x->w.cell? ⟨b,d+j,Y⟩=X x)
theorem qu{a:List cH}:a.flatMap subCells≠[]↔a≠[]:=by
 cases a with
 |nil=>simp
 |cons s l=>simp[subCells]
theorem bD.at{lo:Nat}{g:Option Nat}{w:bd}{v:bw}{c:List cH}(h:bD lo g w v c):aE lo w w v c:=by
 obtain⟨a,d,l,h⟩:=h;refine⟨a,d,l,λk=>?_⟩;obtain⟨b,m,e,f,i,_,j⟩:=h (qu.1 k);exact⟨b,m,e,f,i,j⟩
theorem bD.of{lo c:Nat}{g:Option Nat}{w:bd}{v:bw}{d:List cH}(h:aE lo w w v d)(r:c<=lo)(n:∀k,g=X k->k<lo):bD c g w v d:=by
 obtain⟨a,f,o,h⟩:=h;refine⟨a,f,o,λm=>?_⟩;obtain⟨b,p,i,q,j,l⟩:=h (qu.2 m);exact⟨b,p,i,by omega,j,λe=>by have:=n b e;omega,l⟩
theorem bD.step{lo:Nat}{g c:Option Nat}{w w':bd}{v:bw}{i:List cH}(h:bD lo g w v i)(r:∀k,lo<=k->k<w->g≠X k->w'.heap[k]?=w.heap[k]?)(z:w.heap.size<=w')
 (q:c=g∨∃k,c=X k/\w<=k):bD lo c w' v i:=by
 obtain⟨a,l,s,h⟩:=h;refine⟨a,l,s,λp=>?_⟩;obtain⟨b,u,m,d,n,f,o⟩:=h p;refine⟨b,u,m,d,by omega,?_,λj x t=>by rw[ci (w:=w) (r b d n f)];exact o j x t⟩;rcases q with rfl|⟨k,rfl,y⟩
 .exact f
 intro e;injection e;omega
structure bM(lo:Nat)(w:bd)(v:bw)(fs:List ag):Prop where
 ex:∃ps:List (ag×bw),ps.map (·.1)=fs/\(∀p∈ps,bD lo v.ownBlock w p.2 p.1.subs)/\w.ownsRow lo 123 4 v fs (ps.flatMap fieldCells)
theorem bM.nil(lo:Nat)(w:bd):bM lo w (b6 Y 0 0) []:=⟨⟨[],rfl,by simp,cz _ _ _ _⟩⟩
theorem bM.shape{lo:Nat}{w:bd}{v:bw}{b:List ag}(h:bM lo w v b):∃a c,v=b6 a b c:=by
 obtain⟨ps,_,_,h⟩:=h.ex;exact aw h
theorem bM.keep{lo:Nat}{w w':bd}{v:bw}{c:List ag}(h:bM lo w v c)(i:∀k,lo<=k->k<w->w'.heap[k]?=w.heap[k]?)(s:w.heap.size<=w'):bM lo w' v c:=by
 obtain⟨ps,m,n,d⟩:=h.ex;refine⟨⟨ps,m,λp o=>(n p o).step (λk a b _=>i k a b) s (.inl rfl),?_⟩⟩;refine⟨d.1,?_⟩;rcases d.2 with hn|⟨g,j,l,r,e,f,q⟩
 .exact .inl hn
 refine .inr ⟨g,j,l,r,e,?_,q⟩;rw[i g e (Array.getElem?_eq_some_iff.1 f).1];exact f
theorem bM.app{lo:Nat}{w1 e:bd}{v c:bw}{g:List ag}(f:ag)(d:bw)(ps:List (ag×bw))(m:ps.map (·.1)=g)(n:∀p∈ps,bD lo v.ownBlock w1 p.2 p.1.subs)(o:bD lo v.ownBlock w1 d f.subs)
 (s:e.ownsRow lo 123 4 c (g.length+1) (ps.flatMap fieldCells++fieldCells (f,d)))(j:w1.grownBy e v.ownBlock)(b:c.ownBlock=v.ownBlock∨c.ownBlock=X w1.heap.size):bM lo e c (g++[f]):=by
 have l:∀x i,bD lo v.ownBlock w1 x i->bD lo c.ownBlock e x i:=λx i h=>
  h.step (λk _ q r=>j.block k q (Ne.symm r)) j.size (by rcases b with b|b;exact .inl b;exact .inr ⟨_,b,bb _⟩)
 refine⟨⟨ps++[(f,d)],by simp[m],?_,by simpa using s⟩⟩;intro p a;rcases List.mem_append.1 a with a|a
 .exact l _ _ (n p a)
 simp at a;subst a;exact l _ _ o
theorem bM.fields{lo e:Nat}{w:bd}{v:bw}{b:List ag}(h:bM lo w v b)(m:e<=lo):ah e w w v b:=by
 obtain⟨ps,c,i,a⟩:=h.ex;refine⟨ps,c,λp o=>(i p o).at.mono m (bb _),?_⟩;have u:ps.length=b:=by rw[<- c];simp
 rcases a.2 with⟨rfl,f⟩|⟨g,q,r,rfl,s,t,y⟩
 .refine⟨Y,0,by rw[f],λl=>?_⟩;have:ps=[]:=cp (by omega);subst this;exact absurd rfl l
 have n:=a.lt g (by simp[Value.ownBlock]);refine⟨_,_,rfl,λ_=>⟨g,0,rfl,by omega,n.2,λj x d=>?_⟩⟩;have k:=a.cellAt j (by have:=(List.getElem?_eq_some_iff.1 d).1;rw[a.1]at this;exact this);rw[Nat.zero_add,k];exact d
structure Fr(b:Nat)(g:Option Nat)(w w':bd):Prop where
 os:w'.os=w.os
 tape:w'.tape=w.tape
 output:w'.output=w.output
 size:w.heap.size<=w'
 block:∀k,k<w.heap.size->k≠b->some k≠g->w'.heap[k]?=w.heap[k]?
theorem Fr.refl(b:Nat)(g:Option Nat)(w:bd):Fr b g w w:=⟨rfl,rfl,rfl,bb _,λ_ _ _ _=>rfl⟩
theorem Fr.below{b B:Nat}{g:Option Nat}{w w':bd}(h:Fr b g w w')(d:B<=b)(a:∀k,g=X k->B<=k)(c:B<=w):Below B w w':=
 ⟨h.os,h.tape,h.output,h.size,λk f=>h.block k (by omega) (by omega) (λe=>by have:=a k e.symm;omega)⟩
structure Bld(B b:Nat)(g:Option Nat)(l:Bs)(w:bd):Prop where
 lt:b<B
 ex:∃p v,w.heap[b]?=some (.cells #[p,v] 187 (0,0))/\(p=.pointer none∨p=.pointer b)/\w.ownsRow B 5 1 v l (bv l)/\v.ownBlock=g/\(l=[]->v=.slice none 0 0)
theorem i5:(prog.info? 5).map (λi=>(i.zero,i.size,i.bytes))=X (X (J b3 0),1,1):=by kernel_rfl
theorem tY(w:bd)(base:Nat)(i:TypeInfo)(f:prog.info? 5=X i)(q:i.zero=X (J b3 0))(l:i.size=1)(o:i.bytes=1)
 (v:bw)(n:Nat)(c:List bw)(d:w.ownsRow base 5 1 v n c)(s:ByteArray)(m:n+s.size<=maxLen)(t:n+s.size<=140737488355328)(B:base<=w):
 ∃b w',(Builtin.append_ #[76,9] 76 #[v,.string s]).run prog w=.ok b w'/\w'.ownsRow base 5 1 b (n+s.size) (c++Lib.strCells s)/\w.grownBy w' v.ownBlock/\
  (b=b6 Y 0 0↔v=b6 Y 0 0/\s.size=0)/\(b.ownBlock=v.ownBlock∨∃k,b.ownBlock=X k/\w<=k):=by
 obtain⟨b,w',h,y,z,A⟩:=Lib.run_append_own_string (P:=prog) w base 76 9 76 5 i underlying76 underlying9 f q l o v n c d s m t B;refine⟨b,w',h,y,z,A,?_⟩;have H:c=n:=by simpa using d.1
 have M:n+s.size<=9223372036854775807:=by unfold maxLen at m;omega
 rcases d.2 with⟨rfl,rfl⟩|⟨g,e,r,rfl,I,E,L,K,C,N⟩
 .obtain⟨O,Q,a,x,_,_⟩:=Lib.run_append_own_string (P:=prog) w w 76 9 76 5 i underlying76 underlying9 f q l o (b6 Y 0 0) 0 c ⟨d.1,.inl ⟨rfl,rfl⟩⟩ s m t (bb _);rw[h]at a;injection a with hv hw
  subst hv hw;rcases x.2 with⟨p,_⟩|⟨k,_,_,p,F,_⟩
  .left;rw[p]
  right;exact⟨k,by rw[p];rfl,F⟩
 have D:r.size=e:=by simpa using C
 by_cases hroom:n+s.size<=e
 .have a:=Lib.run_append_room_string (P:=prog) w 76 9 76 5 i underlying76 underlying9 f l g n e r E s hroom (D.symm▸hroom);rw[h]at a;injection a with hv hw
  left;rw[hv];rfl
 have G:∀j u,c[j]?=X u->w.cell? ((g:Addr).add j)=X u:=d.cells (g:=g) rfl;have a:=Lib.run_append_grow_string (P:=prog) w 76 9 76 5 i (J b3 0) underlying76 underlying9 f q g n e c (by rw[l];simpa using H) G s (by omega) (by omega) (by rw[o];exact growslice_fits (by omega) (by omega));rw[h]at a;injection a with hv hw
 right;exact⟨w,by rw[hv];rfl,bb _⟩
theorem nr{w:bd}{d:Array Oper}{e:List Oper}{o:Oper}{a:Act}{Q:Exit->Act->bd->Prop}(y:o.guard=Y)(f x:Operand)
 (A:o.op=.call {callee:=.builtin .append,args:= #[f,x],argTypes:= #[76,9]})(F:o.type=76)
 (base:Nat)(i:TypeInfo)(z:prog.info? 5=X i)(H:i.zero=X (J b3 0))(E:i.size=1)(t:i.bytes=1)
 (v:bw)(n:Nat)(c:List bw)(D:a.eval f=v)(B:w.ownsRow base 5 1 v n c)(s:ByteArray)(G:a.eval x=.string s)
 (p:n+s.size<=maxLen)(u:n+s.size<=140737488355328)(r:base<=w)
 (h:∀b w',w'.ownsRow base 5 1 b (n+s.size) (c++Lib.strCells s)->w.grownBy w' v.ownBlock->(b=b6 Y 0 0↔v=b6 Y 0 0/\s.size=0)->(b.ownBlock=v.ownBlock∨∃k,b.ownBlock=X k/\w<=k)->wpList prog d Q e (a.put o.dst b) w'):wpList prog d Q (o::e) a w:=by
 refine wpList_plain y λK q=>?_;obtain⟨b,w',C,g,j,l,m⟩:=tY w base i z H E t v n c B s p u r;unfold Oper.wp execOp;simp only[A,F,resolve,invoke,builtin,Sem.run_bind,Sem.run_pure,Result.andThen_ok,List.map_toArray,List.map_cons,List.map_nil,D,G,C];exact q _ _ (h b w' g j l m)
theorem rj(l:Bs):Lib.strCells ⟨l.toArray⟩=bv l:=by simp[Lib.strCells,bv]
theorem iO(a b:Bs):bv (a++b)=bv a++bv b:=by simp[bv]
theorem sZ(B b:Nat)(g:Option Nat)(l:Bs)(w:bd)(h:Bld B b g l w):bB prog 161 #[.pointer b] w λe w'=>e=b4 (.tuple #[])/\(∃v,w'.heap[b]?=X (b8 #[.pointer b,v] 187 (0,0))/\w'.ownsRow B 5 1 v l (bv l)/\v.ownBlock=g/\(l=[]->v=b6 Y 0 0))/\w'.heap.size=w/\Fr b Y w w':=by
 obtain⟨j,p,v,a,m,f,d,hn⟩:=h;have c:w.cell? b=X p:=by rw[bA a];rfl
 rcases m with rfl|rfl
 .refine(ln b w c (by simp[World.shape?,a]) (cm a 0)).mono ?_;rintro e w'⟨rfl,rfl⟩;refine⟨rfl,⟨v,?_,ownsRow_setCell_below f j _,d,hn⟩,by simp,⟨rfl,rfl,rfl,by simp,λk _ i _=>cy _ _ _ _ i⟩⟩;simp only[cu,cc,if_true,a];rfl
 refine(mO b w c).mono ?_;rintro e w'⟨rfl,rfl⟩;exact⟨rfl,⟨v,a,f,d,hn⟩,rfl,Fr.refl _ _ _⟩
theorem oY{B b:Nat}{w1 c:bd}{p v a:bw}{d:Bs}(h:b<B)(w:p=.pointer b)(f:w1.heap[b]?=X (b8 #[p,v] 187 (0,0)))(u:∀k,v.ownBlock=X k->B<=k)
 (i:c.ownsRow B 5 1 a d (bv d))(m:w1.grownBy c v.ownBlock)(hn:d=[]->a=b6 Y 0 0):
 Bld B b a.ownBlock d (c.setCell ⟨b,1,Y⟩ a)/\Fr b v.ownBlock w1 (c.setCell ⟨b,1,Y⟩ a):=by
 obtain⟨s,y,t,x,g⟩:=m;have l:b<w1:=(Array.getElem?_eq_some_iff.mp f).1;have r:X b≠v.ownBlock:=λe=>by have:=u b e.symm;omega
 have j:c.heap[b]?=X (b8 #[p,v] 187 (0,0)):=by rw[g b l r,f]
 refine⟨⟨h,⟨p,a,?_,.inr w,ownsRow_setCell_below i h _,rfl,hn⟩⟩,⟨s,y,t,by simpa using x,λk n o q=>?_⟩⟩
 .simp only[cu,cc,if_true,j];rfl
 rw[cy _ _ _ _ o];exact g k n q
theorem jF{w:bd}{B:Nat}{e:TypeId}{k:Nat}{v:bw}{n:Nat}{d:List bw}(h:w.ownsRow B e k v n d):∀j,v.ownBlock=X j->B<=j/\j<w:=by
 intro j a;rcases h.2 with⟨rfl,_⟩|⟨g,f,i,rfl,b,c,_⟩
 .cases a
 injection a with a;subst a;exact⟨b,(Array.getElem?_eq_some_iff.mp c).1⟩
theorem Fr.trans{b:Nat}{g c:Option Nat}{x y z:bd}(h:Fr b g x y)(k:Fr b c y z)(i:∀j,c=X j->g=X j∨x<=j):Fr b g x z:=
 ⟨k.os.trans h.os,k.tape.trans h.tape,k.output.trans h.output,cg h.size k.size,λj f d hn=>
  (k.block j (Nat.lt_of_lt_of_le f h.size) d (λe=>by rcases i j e.symm with a|a;exact hn a.symm;omega)).trans (h.block j f d hn)⟩
theorem Fr.weak{b:Nat}{g:Option Nat}{x y:bd}(h:Fr b Y x y):Fr b g x y:=⟨h.os,h.tape,h.output,h.size,λj c a _=>h.block j c a (by simp)⟩
theorem zH{B:Nat}{e:TypeId}{k:Nat}{w b:bd}{v:bw}{n:Nat}{d:List bw}{o:Obj}(_:w.ownsRow B e k v n d)(a:(w.alloc o).grownBy b v.ownBlock):w.grownBy b v.ownBlock:=
 ⟨a.os,a.tape,a.output,cg (by simp) a.size,λj c hn=>by rw[a.block j (by simp;omega) hn];exact((bl w w).alloc (bb _) o).block j c⟩
theorem tq{B b:Nat}{w1 c:bd}{p v:bw}{n:Nat}{g:List bw}(h:b<B)(a:w1.heap[b]?=X (b8 #[p,v] 187 (0,0)))(f:w1.ownsRow B 5 1 v n g)(d:w1.grownBy c v.ownBlock):
 c.heap[b]?=X (b8 #[p,v] 187 (0,0)):=by
 rw[d.block b (Array.getElem?_eq_some_iff.mp a).1 (λe=>by have:=(jF f b e.symm).1;omega),a]
theorem gN(B b:Nat)(g:Option Nat)(l s:Bs)(w:bd)(h:Bld B b g l w)(hB:B<=w)(hs:l.length+s<=100000000000000):
 bB prog 112 #[.pointer b,S s] w λe w'=>e=b4 (.tuple #[s,.nilIface])/\∃d,Bld B b d (l++s) w'/\(d=g∨∃k,d=X k/\w<=k)/\Fr b g w w':=by
 have P:=Z (sZ B b g l w h);have a4:∃i,prog.info? 5=X i/\i.zero=X (J b3 0)/\i.size=1/\i.bytes=1:=by have:=i5;revert this;cases prog.info? 5<;>simp
 obtain⟨i0,A,C,D,E⟩:=a4;have V:=Z A;have W:=Z C;have a0:=Z D;have a1:=Z E;have t:=h.lt;clear h A C D E;have r:=Z hs;go_enter func112,ntmps112
 go_wp2_with (first
  |(go_at_call 161;((with_reducible refine ca (P.o) ?_);rintro e w1⟨rfl,⟨v,f,K,z,hn⟩,L,y⟩;have c1:w1.cell? ⟨b,1,Y⟩=X v:=(by rw[bA f];rfl);have p:=Z f;have c:=Z K;have q:=Z z;have HN:=Z hn;have u:=Z L;have R:=Z y;clear f K z hn L y))
  |(at_builtin;refine nr rfl _ _ rfl rfl B i0 V.o W.o a0.o a1.o v l _ rfl c.o ⟨s.toArray⟩ rfl (by have:=r.o;unfold maxLen;simp[bO];omega) (by have:=r.o;simp[bO];omega) (by have:=u.o;omega) ?_;intro v' M o n H a;obtain⟨va,vc,rfl⟩:=aw o;have m:=tq t p.o c.o n;have c2:M.cell? ⟨b,1,Y⟩=X v:=(by rw[bA m];rfl);have f2:M.frozen? ⟨b,1,Y⟩=false:=cm m 1;clear m;have a3:=Z o;have T:=Z n;have a2:=Z H;have Q:=Z a;clear o n H a))
 go_ret2;have F:l+bO ⟨s.toArray⟩=(l++s).length:=by simp[bO]
 have I:=a3.o;rw[rj,<- iO,F]at I;have G:l++s=[]->bc va (l+bO ⟨s.toArray⟩) vc=b6 Y 0 0:=λe=>by
  have x:l=[]:=by cases l;rfl;simp at e
  have h2:s=[]:=by subst x;simpa using e
  exact a2.mpr ⟨HN x,by subst h2;rfl⟩
 rw[F]at G;obtain⟨N,O⟩:=oY t rfl p.o (λk hk=>(jF c.o k hk).1) I T.o G;simp only[cl]at N O;refine⟨?_,_,N,?_,R.weak.trans (q.o▸O) (λj hj=>.inl hj)⟩
 .simp
 have a:=Q.o;rw[q.o,u.o]at a;simpa[bO]using a
theorem B8(B b:Nat)(g:Option Nat)(l:Bs)(c:UInt8)(w:bd)(h:Bld B b g l w)(hB:B<=w)(hs:l.length<=100000000000000):
 bB prog 160 #[.pointer b,J b3 c] w λe w'=>e=b4 .nilIface/\∃f,Bld B b f (l++[c]) w'/\(f=g∨∃k,f=X k/\w<=k)/\Fr b g w w':=by
 have M:=Z (sZ B b g l w h);have a1:∃i,prog.info? 5=X i/\i.zero=X (J b3 0)/\i.size=1/\i.bytes=1:=by have:=i5;revert this;cases prog.info? 5<;>simp
 obtain⟨i0,A,C,D,E⟩:=a1;have Q:=Z A;have R:=Z C;have T:=Z D;have V:=Z E;have t:=h.lt;clear h A C D E;have s:=Z hs;go_enter func160,ntmps160
 go_wp2_with (first
  |(go_at_call 161;((with_reducible refine ca (M.o) ?_);rintro e w1⟨rfl,⟨v,m,G,y,hn⟩,H,x⟩;have c1:w1.cell? ⟨b,1,Y⟩=X v:=(by rw[bA m];rfl);have q:=Z m;have d:=Z G;have r:=Z y;have HN:=Z hn;have u:=Z H;have O:=Z x;clear m G y hn H x))
  |(at_builtin;refine wpList_append_own_at _ rfl _ _ 76 rfl B 5 i0 (J b3 0) 1 1 underlying76 Q.o R.o T.o V.o rfl (by omega) v l _ rfl (d.o.alloc _) w1 1 1 [J b3 c] rfl rfl (cell_one_new _ _ _) (by simp[Value.oneCell']) (by have:=s.o;unfold maxLen;omega) (by have:=s.o;omega) (by have:=u.o;simp;omega) ?_;intro v' I p z a0 a;obtain⟨va,vc,rfl⟩:=aw p;have o:=zH d.o z;have n:=tq t q.o d.o o;have c2:I.cell? ⟨b,1,Y⟩=X v:=(by rw[bA n];rfl);have f2:I.frozen? ⟨b,1,Y⟩=false:=cm n 1;clear n;have W:=Z p;have P:=Z o;have N:=Z a;clear p o z a0 a))
 go_ret;have F:=W.o;rw[show bv l++[cq b3 c]=bv (l++[c])from by rw[iO];rfl,show l+1=(l++[c]).length from by simp]at F;obtain⟨K,L⟩:=oY t rfl q.o (λk hk=>(jF d.o k hk).1) F P.o (λe=>by simp at e);simp only[cl,List.length_singleton]at K L;refine⟨rfl,_,K,?_,O.weak.trans (r.o▸L) (λj hj=>.inl hj)⟩;have a:=N.o;rw[r.o]at a;rcases a with a|a
 .exact .inl a
 refine .inr ⟨_,a,?_⟩;have:=u.o;simp;omega
theorem p7(B b:Nat)(g:Option Nat)(l:Bs)(w:bd)(h:Bld B b g l w):
 bB prog 114 #[.pointer b] w λe w'=>e=b4 l/\w'=w:=by
 obtain⟨k,p,v,c,j,d,i,hn⟩:=h;obtain⟨a,f,rfl⟩:=aw d;have c1:w.cell? ⟨b,1,Y⟩=X (b6 a l f):=by rw[bA c];rfl
 clear d hn i j c;go_enter func114,ntmps114;go_wp2_with fail;go_ret;exact⟨rfl,rfl⟩
def yi(g:Option Nat)(n:Nat)(w w':bd):Prop:=w'=w.drew∨∃k,g=X k/\w'=w.drew.freeze ⟨k,0,Y⟩ n
theorem xw(b k n:Nat)(w:bd):Fr b (X k) w (w.freeze k n):=by
 unfold World.freeze;split
 .exact⟨rfl,rfl,rfl,bb _,λ_ _ _ _=>rfl⟩
 refine⟨rfl,rfl,rfl,by simp,λj _ _ a=>?_⟩;have:k≠j:=λe=>a (by rw[e]);simp[cc,this]
theorem yi.fr{g:Option Nat}{n:Nat}{w w':bd}(b:Nat)(h:yi g n w w'):Fr b g w w':=by
 rcases h with rfl|⟨k,rfl,rfl⟩
 .exact⟨rfl,rfl,rfl,bb _,λ_ _ _ _=>rfl⟩
 have h:=xw b k n w.drew;exact⟨h.os,h.tape,h.output,h.size,h.block⟩
theorem fG(B b:Nat)(g:Option Nat)(l:Bs)(w:bd)(h:Bld B b g l w)(K:l.length<=100000000000000):
 bB prog 115 #[.pointer b] w λe w'=>e=b4 (S l)/\yi g l w w':=by
 obtain⟨H,p,v,c,s,d,i,hn⟩:=h;have L:prog.follows Departure.mixedOrders=true:=by kernel_rfl
 rcases d.2 with⟨rfl,D⟩|⟨k,a,f,rfl,G,r,I,z,o,E⟩
 .obtain rfl:l=[]:=cp D;have c1:w.drew.cell? ⟨b,1,Y⟩=X (b6 Y 0 0):=by have:w.drew.heap[b]?=X (b8 #[p,b6 Y 0 0] 187 (0,0)):=c;rw[bA this];rfl
  have u:(Builtin.unsafeSliceData_ #[76] 233 #[b6 Y 0 0]).run prog w.drew=.ok (b7 Y) w.drew:=rfl;have y:(Builtin.unsafeString_ #[233,3] 9 #[b7 Y,J U 0]).run prog w.drew=.ok (.string .empty) w.drew:=Lib.run_unsafeString_none w.drew _ _ _ _;clear d hn i s c;go_enter func115,ntmps115;go_wp2;go_region_o
  all_goals(go_wp2;go_ret;exact⟨rfl,.inl rfl⟩)
 have m:l≠[]:=λe=>by cases hn e
 have n:a≠0:=by
  have:l.length≠0:=by simpa using m
  omega
 have A:f.size=a:=by simpa using o
 have c1:w.drew.cell? ⟨b,1,Y⟩=X (b6 k l a):=by have:w.drew.heap[b]?=X (b8 #[p,b6 k l a] 187 (0,0)):=c;rw[bA this];rfl
 have u:(Builtin.unsafeSliceData_ #[76] 233 #[b6 k l a]).run prog w.drew=.ok (.pointer k) w.drew:=Lib.run_unsafeSliceData_row _ _ _ _ _ _ n;have y:(Builtin.unsafeString_ #[233,3] 9 #[.pointer k,l]).run prog w.drew=.ok (.string ⟨l.toArray⟩) (w.drew.freeze k l):=by refine Lib.run_unsafeString_row w.drew 233 3 9 5 underlying233 (by kernel_rfl) k f.size (by have C:w.drew.heap[k]?=X (b8 f 5 (0,0)):=r;simp[World.shape?,C]) l m (by omega) (by omega) ?_;intro j x F;have:=d.cells (g:=k) rfl j (J b3 x) (by simp[bv,F]);exact this
 have q:∀w',w'=w.drew.freeze k l->yi g l w w':=λw' e=>.inr ⟨k,i▸rfl,e⟩;have t:=Z q;clear d hn i s c n z o E q r A;generalize hN:(l.length:Int)=N at*;go_enter func115,ntmps115;go_wp2;go_region_o
 all_goals(go_wp2;go_ret;exact⟨rfl,t _ rfl⟩)
attribute [local go_sem ↓] Go.wp_at_zero Go.wp_at_succ
theorem lJ(w:bd)(b B:Nat)(c:b=w)(a:b<B):Bld B b Y [] (w.alloc (bY #[b7 Y,b6 Y 0 0] 187)):=by
 subst c;exact⟨a,⟨b7 Y,b6 Y 0 0,Array.getElem?_push_size,.inl rfl,cz _ _ _ _,rfl,λ_=>rfl⟩⟩
theorem Fr.cell{b:Nat}{g:Option Nat}{w w':bd}(h:Fr b g w w'){q:Nat}(e:q<w)(c:q≠b)(d:X q≠g)(o:Nat):w'.cell? ⟨q,o,Y⟩=w.cell? ⟨q,o,Y⟩:=
 ci (a:=⟨q,o,Y⟩) (h.block q e c d)
theorem Bld.row{B b:Nat}{g:Option Nat}{l:Bs}{w:bd}(h:Bld B b g l w):∀k,g=X k->B<=k/\k<w:=by
 obtain⟨_,p,v,_,_,c,a,_⟩:=h;subst a;exact jF c
theorem Bld.old{B b:Nat}{g:Option Nat}{l:Bs}{w:bd}(h:Bld B b g l w):b<w:=by
 obtain⟨_,p,v,a,_⟩:=h;exact(Array.getElem?_eq_some_iff.mp a).1
theorem Bld.keep{B b:Nat}{g:Option Nat}{l:Bs}{w w':bd}(h:Bld B b g l w)(f:w'.heap[b]?=w.heap[b]?)(i:∀k,g=X k->w'.heap[k]?=w.heap[k]?):Bld B b g l w':=by
 obtain⟨n,p,v,s,q,o,rfl,hn⟩:=h;refine⟨n,p,v,f.trans s,q,?_,rfl,hn⟩;obtain⟨e,a⟩:=o;refine⟨e,?_⟩;rcases a with a|⟨k,c,d,rfl,m,j,r⟩
 .exact .inl a
 exact .inr ⟨k,c,d,rfl,m,(i k rfl).trans j,r⟩
theorem Bld.alloc{B b:Nat}{g:Option Nat}{l:Bs}{w:bd}(h:Bld B b g l w)(o:Obj):Bld B b g l (w.alloc o):=
 h.keep ((aZ w o).block b h.old) (λk a=>(aZ w o).block k (h.row k a).2)
theorem Bld.below{B b:Nat}{g:Option Nat}{l:Bs}{w w':bd}(h:Bld B b g l w)(k:Bw w w'):Bld B b g l w':=
 h.keep (k.block b h.old) (λj a=>k.block j (h.row j a).2)
theorem qJ(B b:Nat)(g:Option Nat)(l:Bs)(c:UInt8)(n:Int)(hn:n=c)(w:bd)(h:Bld B b g l w)(d:B<=w)(f:l.length<=100000000000000):
 bB prog 160 #[.pointer b,J b3 n] w λe w'=>e=b4 .nilIface/\∃a,Bld B b a (l++[c]) w'/\(a=g∨∃k,a=X k/\w<=k)/\Fr b g w w':=by
 subst hn;exact B8 B b g l c w h d f
theorem Bd{g a:Option Nat}{q n:Nat}(h:X q≠g)(b:a=g∨∃k,a=X k/\n<=k)(d:q<n):X q≠a:=by
 rcases b with rfl|⟨k,rfl,c⟩
 .exact h
 intro e;injection e;omega
theorem Bld.fr{B b lo:Nat}{g:Option Nat}{l:Bs}{w w':bd}(h:Bld B b g l w)(f:Fr b g w w')(c:lo<=b):Below lo w w':=
 f.below c (λk a=>by have:=(h.row k a).1;have:=h.lt;omega) (by have:=h.old;omega)
theorem Al(f:ag)(d:bw)(w:bd)(hs:aE 0 w w d f.subs)(L:(fieldBytes f).length<=1000000)(hn:f.subs.length<=1000000):
 bB prog 111 #[fieldV f d] w λe w'=>e=b4 (S (fieldBytes f))/\Bw w w':=by
 obtain⟨v,l,j,c⟩:=f;have b0:j.length+l<=1000000:=by simp[fieldBytes]at L;omega
 have Q:=Z L;have HS:=Z hs;obtain⟨a,F,rfl,_⟩:=hs;clear L;unfold fieldV;have O:=Z (λo=>lJ (w.alloc o) (w.heap.size+1) (w.heap.size+2) (by simp) (by omega));go_enter func111,ntmps111;go_wp2_with (go_at_call 112;((with_reducible refine ca (gN (w.heap.size+2) (w.heap.size+1) Y [] (j++l) _ (O.o _) (by simp) (by simp;omega)) ?_);rintro e w1⟨rfl,g1,a0,al,K⟩;have c3:=K.cell (q:=w.heap.size) (by simp;omega) (by omega) (by simp) 3))
 have a5:=Z a0;have a7:Hid (Below (w.heap.size+1) (w.alloc (bY #[S v,S l,S j,bc a c F] 123)) w1):=btr ((aZ _ _).mono (by simp)) (K.below (B:=w.heap.size+1) (by omega) (by simp) (by simp)) (by simp);clear a0 al K O;go_wp2_with fail
 go_loopw [15] (λi wr=>∃(k:Nat)(h:Bs)(g:Option Nat),k<=c/\i=J U k/\Hid (h=j++l++(c.take k).flatMap aV)/\h.length<1000000/\
  Hid (Bld (w.heap.size+2) (w.heap.size+1) g h wr)/\Below (w.heap.size+1) (w.alloc (bY #[S v,S l,S j,bc a c F] 123)) wr) (λi _=>c-(intOf i).toNat)
 case atStart=>exact⟨0,j++l,g1,cb _,rfl,(by simp[Hid]),(by have:=bS ⟨v,l,j,c⟩ 0;have:=Q.o;simp at*;omega),a5,a7.o⟩
 obtain⟨k,h,g,hk,rfl,N,aS,n,I⟩:=hrel;by_cases hlt:k<c;rotate_left
 .have ad:Hid (fieldBytes ⟨v,l,j,c⟩=h++[30]):=by rw[N.o,bk (by omega)];simp[fieldBytes,Hid]
  have m:Hid (w.heap.size+2<=wr):=by have:=n.o.old;show _<=_;omega
  go_wp2_with (first
   |(go_at_call 160;((with_reducible refine ca (qJ (w.heap.size+2) (w.heap.size+1) g h 30 _ (by decide) _ n.o (by exact m.o) (by omega)) ?_);rintro e y⟨rfl,x,t,u,p⟩;have s:=Z t;have z:=Z p;clear t u p))
   |(go_at_call 115;((with_reducible refine ca (fG (w.heap.size+2) (w.heap.size+1) x (h++[30]) _ s.o (by simp;omega)) ?_);rintro e M⟨rfl,r⟩;have A:=Z (r.fr (w.heap.size+1));clear r)))
  go_ret;refine⟨vC ad.symm,?_⟩;have G:=n.fr z.o (lo:=w.heap.size+1) (bb _);have H:=s.fr A.o (lo:=w.heap.size+1) (bb _);exact btr (aZ w _) ((I.trans G).trans H) (by omega)
 have a3:aE 0 w wr (bc a c F) c:=(HS.o.kept (aW ((bl _ w).alloc (bb _) _) (bb _))).kept (aW I (by omega));obtain⟨b,b2,aC,hv,aT,_,ht,hx⟩:=a3.sub k hlt;cases hv;have R:Hid (h++(31::c[k].code::c[k].text)=j++l++(c.take (k+1)).flatMap aV):=by rw[kD _ _ _ hlt,N.o];simp[Hid,aV]
 have b1:h+2+c[k].text.length<1000000:=by have:=bS ⟨v,l,j,c⟩ (k+1);simp only at this;rw[<- R.o]at this;have:=Q.o;simp at*;omega
 generalize c[k].text=T at*;generalize c[k].code=C at*;have ax:=Z n.old;have a9:=Z n.row;clear a3;have m:Hid (w.heap.size+2<=wr):=by have:=n.o.old;show _<=_;omega
 have D:Hid (X wr.heap.size≠g):=λe=>by have:=(a9.o _ e.symm).2;omega
 go_wp2_with (first
  |(go_at_call_of 160 (cq cx 31);((with_reducible refine ca (qJ (w.heap.size+2) (w.heap.size+1) g h 31 _ (by decide) _ (n.o.alloc _) (by have:=m.o;simp;omega) (by omega)) ?_);rintro e y⟨rfl,x,t,u,p⟩;have a2:X wr.heap.size≠x:=Bd D.o u (by simp);have ay:y.cell? wr=X (J b3 C.toNat):=(by rw[p.cell (by simp) (by have:=m.o;omega) D.o];go_simp);have ac:y.cell? ⟨wr,1,Y⟩=X (S T):=(by rw[p.cell (by simp) (by have:=m.o;omega) D.o];go_simp);have E:Hid (wr.heap.size<y):=(by have:=p.size;simp at this;exact this);have s:=Z t;have av:=Z u;have z:=Z p;have a8:=Z a2;clear t u p a2))
  |(go_at_call_of 160 (cq cx C.toNat);((with_reducible refine ca (qJ (w.heap.size+2) (w.heap.size+1) x (h++[31]) C _ (by rfl) _ s.o (by have:=m.o;have:=E.o;omega) (by simp;omega)) ?_);rintro e M⟨rfl,g3,V,ao,r⟩;have az:M.cell? ⟨wr,1,Y⟩=X (S T):=(by rw[r.cell E.o (by have:=m.o;omega) a8.o];exact ac);have aa:Hid (wr.heap.size<M):=Nat.lt_of_lt_of_le E.o r.size;have P:=Z V;have A:=Z r;clear V ao r))
  |(go_at_call 112;((with_reducible refine ca (gN (w.heap.size+2) (w.heap.size+1) g3 (h++[31]++[C]) T _ P.o (by have:=m.o;have:=aa.o;omega) (by simp;omega)) ?_);rintro e w4⟨rfl,g4,W,au,a1⟩;have a4:=Z W;have a6:=Z a1;clear W au a1)))
 go_roundw
 case rel=>
  refine⟨k+1,h++[31]++[C]++T,g4,by omega,by go_num,?_,by simp;omega,a4,?_⟩
  .rw[<- R.o];simp[Hid]
  have G:=(n.alloc _).fr z.o (lo:=w.heap.size+1) (bb _);have H:=s.fr A.o (lo:=w.heap.size+1) (bb _);have h4:=P.fr a6.o (lo:=w.heap.size+1) (bb _);exact(((I.alloc (by have:=m.o;omega) _).trans G).trans H).trans h4
 simp[intOf];omega
end
section
open Go.RowKit
theorem gB(w:bd)(a:Addr)(d:Nat)(l:List Int)(g:∀j(c:j<l.length),w.cell? (a.add j)=X (J b3 l[j])):
 (convert 76 9 (b6 (X a) l d)).run prog w=.ok (S (l.map λn=>bt n.toNat)) w:=by
 rw[run_convert_bytes_string w 76 9 5 (X a) l d underlying76 underlying5 underlying9];have f:=run_loadCells_list (P:=prog) w a (l.map (cq b3)) (λj v c=>by
  have e:j<l:=by have:=(List.getElem?_eq_some_iff.1 c).1;simpa using this
  rw[g j e];simp[List.getElem?_eq_getElem e]at c;rw[<- c])
 simp only[List.length_map]at f;rw[run_bytesToString w a l d _ f];have:∀(l:List Int)(r:ByteArray),l.foldl (λr n=>r.push (bt n.toNat)) r=⟨r.data++(l.map λn=>bt n.toNat).toArray⟩:=by
  intro l;induction l with
  |nil=>intro r;simp
  |cons b l ih=>intro r;simp only[List.foldl_cons,List.map_cons];rw[ih];simp[ByteArray.push]
 rw[this];have h:ByteArray.empty.data= #[]:=rfl;rw[h];simp
theorem Ab(w:bd)(b:Nat)(c:Int)(h:w.cell? b=X (J b3 c)):
 (convert 76 9 (b6 b 1 1)).run prog w=.ok (S [bt c.toNat]) w:=by
 have:=gB w b 1 [c] (λj a=>by
  have:j=0:=by simpa using a
  subst this;simpa[cd]using h)
 simpa using this
theorem Aa(w:bd)(b:Nat)(c d:Int)(a:w.cell? b=X (J b3 c))(e:w.cell? ⟨b,1,Y⟩=X (J b3 d)):
 (convert 76 9 (b6 b 2 2)).run prog w=.ok (S [bt c.toNat,bt d.toNat]) w:=by
 have:=gB w b 2 [c,d] (λj f=>by
  have:j=0∨j=1:=by simp at f;omega
  rcases this with rfl|rfl
  .simpa[cd]using a
  simpa[cd]using e)
 simpa using this
open Classical in
noncomputable def cv1 (x:Option bw) (w:bd) (b:Nat):Result bw:=
 if x=w.cell? b then(convert 76 9 (b6 b 1 1)).run prog w
 else match x with
  |some (J b3 c)=>.ok (S [bt c.toNat]) w
  |_=>(convert 76 9 (b6 b 1 1)).run prog w
theorem xN(w:bd)(b:Nat):(convert 76 9 (b6 b 1 1)).run prog w=cv1 (w.cell? b) w b:=by unfold cv1;rw[if_pos rfl]
theorem z8(c:Int)(w:bd)(b:Nat):cv1 (X (J b3 c)) w b=.ok (S [bt c.toNat]) w:=by
 unfold cv1;split
 .rename_i h;exact Ab w b c h.symm
 rfl
open Classical in
noncomputable def cv2 (x y:Option bw) (w:bd) (b:Nat):Result bw:=
 if x=w.cell? b/\y=w.cell? ⟨b,1,Y⟩then(convert 76 9 (b6 b 2 2)).run prog w
 else match x,y with
  |some (J b3 c),X (J b3 d)=>.ok (S [bt c.toNat,bt d.toNat]) w
  |_,_=>(convert 76 9 (b6 b 2 2)).run prog w
theorem xM(w:bd)(b:Nat):(convert 76 9 (b6 b 2 2)).run prog w=cv2 (w.cell? b) (w.cell? ⟨b,1,Y⟩) w b:=by unfold cv2;rw[if_pos ⟨rfl,rfl⟩]
theorem z7(c d:Int)(w:bd)(b:Nat):cv2 (X (J b3 c)) (X (J b3 d)) w b=.ok (S [bt c.toNat,bt d.toNat]) w:=by
 unfold cv2;split
 .rename_i h;exact Aa w b c d h.1.symm h.2.symm
 rfl
attribute [go_sem] xN z8 xM z7
end
section
open Go.RowKit
theorem ap{w w':bd}{E:TypeId}{k lo:Nat}{v:bw}{n:Nat}{b:List bw}(h:w.ownsRow lo E k v n b)(e:Bw w w'):w'.ownsRow lo E k v n b:=by
 refine⟨h.1,?_⟩;rcases h.2 with hn|⟨g,c,d,j,f,a,i⟩
 .exact .inl hn
 refine .inr ⟨g,c,d,j,f,?_,i⟩;rw[e.block g (Array.getElem?_eq_some_iff.1 a).1];exact a
theorem mW(w:bd)(x y z:bw)(t:TypeId):∀j v,[x,y,z][j]?=X v->(w.alloc (b8 #[x,y,z] t)).cell? ((w:Addr).add j)=X v:=by
 intro j v a;match j,a with
 |0,a=>simp at a;subst a;simp[cd]
 |1,a=>simp at a;subst a;simp[cd]
 |2,a=>simp at a;subst a;simp[cd]
open Go.RowKit
theorem vk(f:ag)(i:Nat)(h:i<f.subs):f.subs[i].text.length<=(fieldBytes f).length:=by
 have:=bS f (i+1);rw[kD _ _ _ h]at this;simp[aV]at this;omega
theorem yt(f:ag)(h:bJ f.tag=false):wrongF f=13:=by simp[wrongF,h]
theorem vh(f:ag)(h:bJ f.tag=true)(a:fR f.tag=true):wrongF f=if be f.data&&decide (f.ind=[])&&f.subs.isEmpty then 0 else 14:=by simp[wrongF,h,a]
theorem pg(f:ag)(h:bJ f.tag=true)(a:fR f.tag=false):wrongF f=if decide (f.data=[])&&iM f.ind&& !f.subs.isEmpty&&f.subs.all dF then 0 else 14:=by simp[wrongF,h,a]
theorem pN(f:ag)(d:bw)(w:bd)(h:bJ f.tag=false):
 bB prog 166 #[fieldV f d] w λe w'=>e=b4 (wrongF f)/\Bw w w':=by
 have a:=Z (yt f h);obtain⟨i,c,b,g⟩:=f;simp only at h;unfold fieldV;go_enter func166,ntmps166;go_wp2_with (go_at_call 176;refine(fQ _ _).mono ?_;rintro e w'⟨rfl,rfl⟩)
 go_ret;exact⟨aI a.symm,(bl _ w).alloc (bb _) _⟩
theorem nB(f:ag)(d:bw)(w:bd)(n:∃a g,d=b6 a f.subs g)(o:(fieldBytes f).length<=1000000)(h:bJ f.tag=true)(b:fR f.tag=true):
 bB prog 166 #[fieldV f d] w λe w'=>e=b4 (wrongF f)/\Bw w w':=by
 have l:=Z (vh f h b);obtain⟨a,g,rfl⟩:=n;have c:=bS f 0;have k:=iA h;obtain⟨r,t,i,u⟩:=f;simp only at h b c k;have p:i.length<=1000000:=by simp at c;omega
 have q:2<=r.length:=by omega
 clear c k o;unfold fieldV;cases ht:be i
 all_goals
  go_enter func166,ntmps166
  go_wp2_with first
   |(go_at_call 176;refine(fQ _ _).mono ?_;rintro e w'⟨rfl,rfl⟩)
   |(go_at_call 217;refine(fi _ _ q).mono ?_;rintro e w'⟨rfl,rfl⟩)
   |(go_at_call 218;refine(ku _ _ p).mono ?_;rintro e w1⟨rfl,j⟩;obtain⟨b,s⟩:=aq j)
  all_goals go_ret
  all_goals refine⟨aI (l.o.trans ?_).symm,btr ((bl _ w).alloc (bb _) _) j (by simp)⟩
  all_goals go_tidy
  all_goals simp_all
  all_goals(try(intro m;subst m;simp at*))
theorem pO(f:ag)(d:bw)(w:bd)(r:∃a k,d=b6 a f.subs k)(h:bJ f.tag=true)(m:fR f.tag=false)
 (g:(decide (f.data=[])&&iM f.ind&& !f.subs.isEmpty)=false):
 bB prog 166 #[fieldV f d] w λe w'=>e=b4 (wrongF f)/\Bw w w':=by
 have i:Hid (wrongF f=14):=by rw[pg f h m,g];rfl
 obtain⟨a,k,rfl⟩:=r;have n:=iA h;obtain⟨t,b,c,s⟩:=f;simp only at h m n g;have j:2<=t.length:=by omega
 clear n;unfold fieldV;by_cases hd0:c=[];rotate_left
 .have u:(c==[])=false:=by simpa using hd0
  have v:(c !=[])=true:=by simpa using hd0
  have x:c.isEmpty=false:=by simpa using hd0
  go_enter func166,ntmps166
  go_wp2_with first
   |(go_at_call 176;refine(fQ _ _).mono ?_;rintro e w'⟨rfl,rfl⟩)
   |(go_at_call 217;refine(fi _ _ j).mono ?_;rintro e w'⟨rfl,rfl⟩)
  go_ret;exact⟨aI i.symm,(bl _ w).alloc (bb _) _⟩
 subst hd0;by_cases hi:b.length=2;rotate_left
 .have y:((b.length:Int)==2)=false:=by simp;omega
  have z:((b.length:Int)!=2)=true:=by simp;omega
  go_enter func166,ntmps166
  go_wp2_with first
   |(go_at_call 176;refine(fQ _ _).mono ?_;rintro e w'⟨rfl,rfl⟩)
   |(go_at_call 217;refine(fi _ _ j).mono ?_;rintro e w'⟨rfl,rfl⟩)
  go_ret;exact⟨aI i.symm,(bl _ w).alloc (bb _) _⟩
 obtain⟨p,q,rfl⟩:∃p q,b=[p,q]:=by
  match b,hi with
  |[p,q],_=>exact⟨p,q,rfl⟩
 have o:=Z g;clear g hi;have A:=nU p;have B:=nU q;go_enter func166,ntmps166
 go_wp2_with first
  |(go_at_call 176;refine(fQ _ _).mono ?_;rintro e w'⟨rfl,rfl⟩)
  |(go_at_call 217;refine(fi _ _ j).mono ?_;rintro e w'⟨rfl,rfl⟩)
 all_goals first
  |(go_ret;exact⟨aI i.symm,(bl _ w).alloc (bb _) _⟩)
  |(exfalso
    go_tidy
    have l:=o.o
    simp[iM,gu]at l
    simp at*
    have:s=[]:=l (by omega) (by omega) (by omega) (by omega)
    subst this
    simp at*)
theorem nA(f:ag)(d:bw)(w:bd)(F:aE 0 w w d f.subs)(B:(fieldBytes f).length<=1000000)(hn:f.subs.length<=1000000)(h:bJ f.tag=true)(z:fR f.tag=false)
 (l:(decide (f.data=[])&&iM f.ind&& !f.subs.isEmpty)=true):
 bB prog 166 #[fieldV f d] w λe w'=>e=b4 (wrongF f)/\Bw w w':=by
 have x:Hid (wrongF f=if f.subs.all dF then 0 else 14):=by rw[pg f h z,l];rfl
 have D:=iA h;have H:=Z (λi h=>cg (vk f i h) B);obtain⟨r,o,W,c⟩:=f;simp only at h z D l hn;have O:2<=r.length:=by omega
 simp only[Bool.and_eq_true,decide_eq_true_eq,Bool.not_eq_true']at l;obtain⟨⟨rfl,m⟩,G⟩:=l;have A:o.length=2:=by simp[iM]at m;exact m.1
 obtain⟨p,q,rfl⟩:∃p q,o=[p,q]:=by
  match o,A with
  |[p,q],_=>exact⟨p,q,rfl⟩
 simp[iM,gu]at m;obtain⟨⟨a0,a1⟩,a2,a3⟩:=m;have a4:0<c.length:=by cases c with|nil=>simp at G|cons _ _=>simp
 have a5:((c.length:Int)==0)=false:=beq_eq_false_iff_ne.2 (by omega);have I:=Z F;obtain⟨a,n,rfl,_⟩:=F;clear B D G A;unfold fieldV;go_enter func166,ntmps166
 go_wp2_with first
  |(go_at_call 176;refine(fQ _ _).mono ?_;rintro e w'⟨rfl,rfl⟩)
  |(go_at_call 217;refine(fi _ _ O).mono ?_;rintro e w'⟨rfl,rfl⟩)
 go_loopw [5,6] (λi t wr=>∃(k:Nat),k<=c/\i=J U k/\Hid ((c.take k).all dF=true)/\
  Below (w.heap.size+1) (w.alloc (bY #[S r,S [p,q],S [],bc a c n] 123)) wr) (λi _ _=>c-(intOf i).toNat)
 case atStart=>exact⟨0,cb _,rfl,rfl,bl _ _⟩
 obtain⟨k,hk,rfl,s,g⟩:=hrel;have L:wr.cell? ⟨w,3,Y⟩=X (bc a c n):=by rw[g.cell (p:=⟨w,3,Y⟩) (by simp)];go_simp
 by_cases hlt:k<c;rotate_left
 .go_wp2_with fail;go_ret;refine⟨aI (x.o.trans ?_).symm,btr ((bl _ w).alloc (bb _) _) g (by omega)⟩;rw[if_pos (by rw[<- s.o,bk (by omega)])]
 have P:aE 0 w wr (bc a c n) c:=(I.o.kept (aW ((bl _ w).alloc (bb _) _) (bb _))).kept (aW g (by omega));obtain⟨b,a6,V,R,_,_,Q,hx⟩:=P.sub k hlt;cases R;have E:c[k].text.length<=1000000:=H k hlt;have K:Hid ((c.take (k+1)).all dF=(be c[k].text&&fu c[k].code)):=by rw[b9 hlt,List.all_append,s.o];simp[Hid,dF]
 have u:Hid (dF c[k]=false->wrongF ⟨r,[p,q],[],c⟩=14):=by intro h;rw[x.o,if_neg];intro y;rw[List.all_eq_true]at y;have:=y _ (ch hlt);simp[h]at this
 have v:Hid (dF c[k]=(be c[k].text&&fu c[k].code)):=rfl;have h1:w.heap.size<wr:=bE L;have h2:b<wr:=bE Q;generalize c[k].text=T at*;generalize c[k].code=C at*;cases ht1:be T
 .go_wp2_with (go_at_call 218;refine(ku _ _ E).mono ?_;rintro e w1⟨rfl,j⟩;obtain⟨M,N⟩:=aq j)
  go_ret;exact⟨aI (u.o (by rw[v.o,ht1];rfl)).symm,btr ((bl _ w).alloc (bb _) _) (btr g j (by omega)) (by omega)⟩
 cases hs2:fu C
 all_goals
  go_wp2_with first
   |(go_at_call 218;refine(ku _ _ E).mono ?_;rintro e w1⟨rfl,j⟩;obtain⟨M,N⟩:=aq j)
   |(go_at_call 219;refine(AM _ _).mono ?_;rintro e w'⟨rfl,rfl⟩)
 .go_ret;exact⟨aI (u.o (by rw[v.o,ht1,hs2];rfl)).symm,btr ((bl _ w).alloc (bb _) _) (btr g j (by omega)) (by omega)⟩
 go_roundw
 case rel=>exact⟨k+1,by omega,by go_num,by rw[K.o,ht1,hs2];rfl,btr g j (by omega)⟩
 simp[intOf];omega
theorem rI(f:ag)(d:bw)(w:bd)(i:aE 0 w w d f.subs)(g:(fieldBytes f).length<=1000000)(hn:f.subs.length<=1000000):
 bB prog 166 #[fieldV f d] w λe w'=>e=b4 (wrongF f)/\Bw w w':=by
 have c:∃a b,d=b6 a f.subs b:=by obtain⟨a,b,h,_⟩:=i;exact⟨a,b,h⟩
 cases h:bJ f.tag
 .exact pN f d w h
 cases hc:fR f.tag
 .cases hg:(decide (f.data=[])&&iM f.ind&& !f.subs.isEmpty)
  .exact pO f d w c h hc hg
  exact nA f d w i g hn h hc hg
 exact nB f d w c g h hc
theorem ar(w:bd)(o:Obj):Bw w (w.alloc o):=(bl _ w).alloc (bb _) o
theorem nR(r:aG)(h:(letterB r.kind&&letterB r.level)=false):wrongR r=12:=by
 unfold wrongR;rw[if_pos];cases h1:letterB r.kind<;>cases h2:letterB r.level<;>simp_all
theorem qS(r:aG)(h:letterB r.kind=true)(a:letterB r.level=true)(b:aR r.fields≠0):wrongR r=aR r.fields:=by
 simp[wrongR,h,a,b]
theorem o8(r:aG)(h:letterB r.kind=true)(a:letterB r.level=true)(b:aR r.fields=0):
 wrongR r=if bU r.fields||decide (999<r.fields.length)||decide (99999<sizeOf r.fields)then 2 else 0:=by
 simp[wrongR,h,a,b]
theorem lg(r:aG)(x:bw)(w:bd)(h:(letterB r.kind&&letterB r.level)=false):
 bB prog 122 #[eG r x] w λe w'=>e=b4 (wrongR r)/\Bw w w':=by
 have a:=Z (nR r h);obtain⟨b,c,d⟩:=r;simp only at h;unfold eG;cases hk:letterB b
 .go_enter func122,ntmps122;go_wp2_with (go_at_call 165;refine(km _ _).mono ?_;rintro e w'⟨rfl,rfl⟩)
  go_ret;exact⟨aI a.symm,ar _ _⟩
 have f:letterB c=false:=by simpa[hk]using h
 clear h;go_enter func122,ntmps122;go_wp2_with (go_at_call 165;refine(km _ _).mono ?_;rintro e w'⟨rfl,rfl⟩)
 go_ret;exact⟨aI a.symm,ar _ _⟩
theorem nm(r:aG)(x:bw)(w:bd)(D:ah 0 w w x r.fields)(T:br r.fields)(h:letterB r.kind=true)(q:letterB r.level=true):
 bB prog 122 #[eG r x] w λe w'=>e=b4 (wrongR r)/\Bw w w':=by
 have H:=Z (qS r h q);have K:=Z (o8 r h q);obtain⟨A,B,c⟩:=r;simp only at h q D T;have M:=Z D;obtain⟨a,o,rfl⟩:=D.shape;obtain⟨hn,V⟩:=T;have N:=Z V;clear D V;unfold eG;go_enter func122,ntmps122;go_wp2_with (go_at_call 165;refine(km _ _).mono ?_;rintro e w'⟨rfl,rfl⟩)
 go_loopw [3,4] (λi t wr=>∃(k:Nat),k<=c/\i=J U k/\Hid (aR (c.take k)=0)/\
  Below (w.heap.size+1) (w.alloc (bY #[J b3 A,J b3 B,bc a c o] 62)) wr) (λi _ _=>c-(intOf i).toNat)
 case atStart=>exact⟨0,cb _,rfl,rfl,bl _ _⟩
 obtain⟨k,Q,rfl,l,g⟩:=hrel;have C:wr.cell? ⟨w,2,Y⟩=X (bc a c o):=by rw[g.cell (p:=⟨w,2,Y⟩) (by simp)];go_simp
 have W:w.heap.size<wr:=bE C;by_cases hlt:k<c
 .have z:ah 0 w wr (bc a c o) c:=(M.o.kept (aW (ar w _) (bb _))).kept (aW g (by omega));obtain⟨b,ac,a4,d,G,_,_,a7,a8,a9,aa,y⟩:=z.field k hlt;cases G;have m:=N _ (ch hlt);have v:=cg (cr c[k]) m;have a0:Hid (wrongF c[k]≠0->wrongR ⟨A,B,c⟩=wrongF c[k]):=by intro R;have:=fB c k hlt l.o;rw[if_neg R]at this;rw[H.o (by show aR c≠0;rw[this];exact R)];exact this
  have a1:=Z (gH c k hlt l.o);have u:Hid (aE 0 wr wr d c[k].subs):=y.mono (bb _) (by omega);clear y z;generalize hfk:c[k]=f at*;have ad:=Z hfk;clear hfk;cases hwf:decide (wrongF f=0);all_goals simp only[decide_eq_true_eq,decide_eq_false_iff_not]at hwf
  .have ao:(wrongF f !=0)=true:=by simpa using hwf
   go_wp2_with (go_at_call 166;refine(rI f d _ u.o m v).mono ?_;rintro e w1⟨rfl,j⟩;obtain⟨E,F⟩:=aq j)
   go_ret;exact⟨aI (a0.o hwf).symm,btr (ar w _) (btr g j (by omega)) (by omega)⟩
  have O:=Z hwf;clear hwf;go_wp2_with (go_at_call 166;refine(rI f d _ u.o m v).mono ?_;rintro e w1⟨rfl,j⟩;obtain⟨E,F⟩:=aq j;rw[O.o])
  go_roundw
  case rel=>exact⟨k+1,by omega,by go_num,a1.o O.o,btr g j (by omega)⟩
  simp[intOf];omega
 have L:Hid (wrongR ⟨A,B,c⟩=if bU c||decide (999<c.length)||decide (99999<sizeOf c)then 2 else 0):=
  K.o (by rw[<- l.o,bk (by omega)])
 go_wp2_with fail;clear l Q hlt C K H;have a5:=g;clear g W
 go_loopw [5,6,7] (λs i t wr=>∃(k n:Nat),k<=c/\i=J U k/\s=J U n/\n<=26+k*1000012/\Hid (bU (c.take k)=false)/\Hid (n=sizeOf (c.take k))/\
  Below (w.heap.size+1) (w.alloc (bY #[J b3 A,J b3 B,bc a c o] 62)) wr) (λ_ i _ _=>c-(intOf i).toNat)
 case atStart=>exact⟨0,26,cb _,rfl,rfl,by omega,rfl,rfl,a5⟩
 obtain⟨k,n,Q,rfl,rfl,al,l,I,g⟩:=hrel;have C:wr.cell? ⟨w,2,Y⟩=X (bc a c o):=by rw[g.cell (p:=⟨w,2,Y⟩) (by simp)];go_simp
 have W:w.heap.size<wr:=bE C;by_cases hlt:k<c
 .have z:ah 0 w wr (bc a c o) c:=(M.o.kept (aW (ar w _) (bb _))).kept (aW g (by omega));obtain⟨b,ac,a4,d,G,_,_,a7,a8,a9,aa,y⟩:=z.field k hlt;cases G;have m:=N _ (ch hlt);have v:=cg (cr c[k]) m;have u:Hid (aE 0 wr wr d c[k].subs):=y.mono (bb _) (by omega);have HL:=Z (tJ c k hlt);have a2:=Z (pp c k hlt l.o);have a3:=Z (rA c k hlt);clear y z;generalize c[k]=f at*;by_cases hlong:9999<(fieldBytes f).length
  .go_wp2_with (go_at_call 123;refine(tj f d _ u.o m v).mono ?_;rintro e w1⟨rfl,j⟩;obtain⟨E,F⟩:=aq j)
   go_ret;refine⟨aI ?_,btr (ar w _) (btr g j (by omega)) (by omega)⟩;rw[L.o,HL.o hlong];rfl
  go_wp2_with (go_at_call 123;refine(tj f d _ u.o m v).mono ?_;rintro e w1⟨rfl,j⟩;obtain⟨E,F⟩:=aq j)
  go_roundw
  case rel=>exact⟨k+1,n+12+(fieldBytes f).length,by omega,by go_num,by go_num,by omega,a2.o hlong,by rw[I.o];exact a3.o.symm,btr g j (by omega)⟩
  simp[intOf];omega
 have HT:Hid (wrongR ⟨A,B,c⟩=if decide (999<c.length)||decide (99999<n)then 2 else 0):=by have a6:c.take k=c:=bk (by omega);have P:=l.o;have q:=I.o;rw[a6]at P q;rw[L.o,P,<- q,Bool.false_or];rfl
 go_wp2_with fail;all_goals go_ret
 all_goals refine⟨aI (HT.o.trans ?_).symm,btr (ar w _) g (by omega)⟩
 all_goals go_tidy
 all_goals first|rw[if_pos (by simp;omega)]|rw[if_neg (by simp;omega)]
theorem yn(r:aG)(v:bw)(w:bd)(a:eK 0 w w v r)(b:br r.fields):
 bB prog 122 #[v] w λe w'=>e=b4 (wrongR r)/\Bw w w':=by
 obtain⟨x,rfl,a⟩:=a;cases h:(letterB r.kind&&letterB r.level)
 .exact lg r x w h
 rw[Bool.and_eq_true]at h;exact nm r x w a b h.1 h.2
theorem nK(w:bd)(x y z u:bw)(t:TypeId):∀j v,[x,y,z,u][j]?=X v->(w.alloc (b8 #[x,y,z,u] t)).cell? ((w:Addr).add j)=X v:=by
 intro j v a;match j,a with
 |0,a=>simp at a;subst a;simp[cd]
 |1,a=>simp at a;subst a;simp[cd]
 |2,a=>simp at a;subst a;simp[cd]
 |3,a=>simp at a;subst a;simp[cd]
end
section
open Go.RowKit
open Classical in
noncomputable def fH (f g:ag):Bool:=decide (f=g)
theorem kg(f g:ag):fH f g=true↔f=g:=by unfold fH;simp
theorem rC{f g:ag}(h:f≠g):fH f g=false:=by unfold fH;simp[h]
theorem ll(f g:ag)(d c:bw)(w:bd)(k:∃a b,d=b6 a f.subs b)(j:∃a b,c=b6 a g.subs b)
 (h:f.tag≠g.tag∨f.ind≠g.ind∨f.data≠g.data∨f.subs.length≠g.subs):
 bB prog 139 #[fieldV f d,fieldV g c] w λe w'=>e=b4 (b5 (fH f g))/\Bw w w':=by
 have i:Hid (fH f g=false):=rC (by rintro rfl;simp at h);obtain⟨a,b,rfl⟩:=k;obtain⟨l,m,rfl⟩:=j;obtain⟨t,p,n,r⟩:=f;obtain⟨u,q,o,s⟩:=g;simp only at h;unfold fieldV;rw[i.o];have H:=Z h;clear h;go_enter func139,ntmps139;go_wp2_with fail
 all_goals first
  |(go_ret;exact⟨rfl,(ar w _).alloc (by simp) _⟩)
  |(exfalso;go_tidy;have h:=H.o;clear H;simp_all;omega)
theorem jx{α:Type}{l m:List α}(k:Nat)(a:k<l)(b:k<m)(h:l.take k=m.take k)(c:l[k]=m[k]):l.take (k+1)=m.take (k+1):=by
 rw[b9 a,b9 b,h,c]
theorem jA(s r o:Bs)(f g:List cH)(d c:bw)(w:bd)(M:aE 0 w w d f)(L:aE 0 w w c g)(hn:f.length<=1000000)
 (h:f.length=g):
 bB prog 139 #[fieldV ⟨s,r,o,f⟩ d,fieldV ⟨s,r,o,g⟩ c] w λe w'=>e=b4 (b5 (fH ⟨s,r,o,f⟩ ⟨s,r,o,g⟩))/\Bw w w':=by
 have P:=Z M;have O:=Z L;obtain⟨a,u,rfl,_⟩:=M;obtain⟨C,v,rfl,_⟩:=L;unfold fieldV;have F:=Z h;have a6:((f.length:Int)!=g.length)=false:=by simp[h]
 clear h;go_enter func139,ntmps139;go_wp2_with fail
 go_loopw [5] (λi wr=>∃(k:Nat),k<=f/\i=J U k/\Hid (f.take k=g.take k)/\
  Below (w.heap.size+2) ((w.alloc (bY #[S s,S r,S o,bc a f u] 123)).alloc (bY #[S s,S r,S o,bc C g v] 123)) wr) (λi _=>f-(intOf i).toNat)
 case atStart=>exact⟨0,cb _,rfl,rfl,bl _ _⟩
 obtain⟨k,hk,rfl,H,B⟩:=hrel;have a7:wr.cell? ⟨w,3,Y⟩=X (bc a f u):=by rw[B.cell (p:=⟨w,3,Y⟩) (by simp)];go_simp
 have a8:wr.cell? ⟨w.heap.size+1,3,Y⟩=X (bc C g v):=by rw[B.cell (p:=⟨w.heap.size+1,3,Y⟩) (by simp)];go_simp
 have x:Bw w wr:=btr ((ar w _).alloc (by simp) _) B (by omega);by_cases hlt:k<f;rotate_left
 .go_wp2_with fail;go_ret;refine⟨am ?_,x⟩;symm;rw[kg]
  have A:=H.o;have K:=F.o;rw[bk (by omega),bk (by omega)]at A;rw[A]
 have N:k<g:=by rw[<- F.o];exact hlt
 obtain⟨b,l,a4,E,_,_,T,W⟩:=(P.kept (aW x (bb _))).sub k hlt;cases E;obtain⟨j,m,a5,E,_,_,V,a0⟩:=(O.kept (aW x (bb _))).sub k N;cases E;have Q:Hid (f[k]=g[k]->f.take (k+1)=g.take (k+1)):=jx k hlt N H.o;have G:Hid (f[k]≠g[k]->fH ⟨s,r,o,f⟩ ⟨s,r,o,g⟩=false):=λR=>rC (by intro D;injection D with _ _ _ D;subst D;exact R rfl);generalize hp:f[k]=p at*;generalize hq:g[k]=q at*;clear hp hq;obtain⟨n,t⟩:=p;obtain⟨y,z⟩:=q;simp only at T W V a0;have a1:(0:Int)<=k:=by omega
 have C:(k:Int)<f:=by omega
 have a3:(k:Int)<g:=by omega
 by_cases hpc:n=y
 .subst hpc;by_cases hpt:t=z
  .subst hpt;go_wp2_with fail;go_region_held3 (λw'=>w'.cell? ⟨w,3,Y⟩=X (bc (X ⟨b,l,Y⟩) f u)/\w'.cell? ⟨w.heap.size+1,3,Y⟩=X (bc (X ⟨j,m,Y⟩) g v)/\w'.cell? ⟨b,l+k*2,Y⟩=X (J b3 n)/\w'.cell? ⟨b,l+k*2+1,Y⟩=X (S t)/\w'.cell? ⟨j,m+k*2,Y⟩=X (J b3 n)/\w'.cell? ⟨j,m+k*2+1,Y⟩=X (S t)) (go_keep) (fail)
   go_wp2_with fail;go_roundw;exact⟨k+1,by omega,by go_num,Q.o (by simp),B.drew⟩;simp[intOf];omega
  have A:(t==z)=false:=by simpa using hpt
  have K:(t !=z)=true:=by simpa using hpt
  go_wp2_with fail;go_region_held3 (λw'=>w'.cell? ⟨w,3,Y⟩=X (bc (X ⟨b,l,Y⟩) f u)/\w'.cell? ⟨w.heap.size+1,3,Y⟩=X (bc (X ⟨j,m,Y⟩) g v)/\w'.cell? ⟨b,l+k*2,Y⟩=X (J b3 n)/\w'.cell? ⟨b,l+k*2+1,Y⟩=X (S t)/\w'.cell? ⟨j,m+k*2,Y⟩=X (J b3 n)/\w'.cell? ⟨j,m+k*2+1,Y⟩=X (S z)) (go_keep) (fail)
  go_wp2_with fail;go_ret;exact⟨am (G.o (by simpa using hpt)).symm,x.drew⟩
 have I:¬(n.toNat:Int)=y:=by intro h;exact hpc (UInt8.toNat_inj.1 (by omega))
 have A:((n.toNat:Int)==y.toNat)=false:=by simpa using I
 have K:((n.toNat:Int)!=y.toNat)=true:=by simpa using I
 go_wp2_with fail;go_region_held3 (λw'=>w'.cell? ⟨w,3,Y⟩=X (bc (X ⟨b,l,Y⟩) f u)/\w'.cell? ⟨w.heap.size+1,3,Y⟩=X (bc (X ⟨j,m,Y⟩) g v)/\w'.cell? ⟨b,l+k*2,Y⟩=X (J b3 n)/\w'.cell? ⟨b,l+k*2+1,Y⟩=X (S t)/\w'.cell? ⟨j,m+k*2,Y⟩=X (J b3 y)/\w'.cell? ⟨j,m+k*2+1,Y⟩=X (S z)) (go_keep) (fail)
 go_wp2_with fail;go_ret;exact⟨am (G.o (by simp[hpc])).symm,x.drew⟩
theorem pI(f g:ag)(d c:bw)(w:bd)(j:aE 0 w w d f.subs)(i:aE 0 w w c g.subs)(hn:f.subs.length<=1000000):
 bB prog 139 #[fieldV f d,fieldV g c] w λe w'=>e=b4 (b5 (fH f g))/\Bw w w':=by
 have m:∃a b,d=b6 a f.subs b:=by obtain⟨a,b,h,_⟩:=j;exact⟨a,b,h⟩
 have l:∃a b,c=b6 a g.subs b:=by obtain⟨a,b,h,_⟩:=i;exact⟨a,b,h⟩
 by_cases h:f.tag≠g.tag∨f.ind≠g.ind∨f.data≠g.data∨f.subs.length≠g.subs
 .exact ll f g d c w m l h
 obtain⟨q,n,k,o⟩:=f;obtain⟨t,s,r,p⟩:=g;simp only[ne_eq,not_or,cv]at h;obtain⟨rfl,rfl,rfl,h⟩:=h;exact jA q n k o p d c w j i hn h
open Go.RowKit
open Classical in
noncomputable def sameR (r s:aG):Bool:=decide (r=s)
theorem oh(r s:aG):sameR r s=true↔r=s:=by unfold sameR;simp
theorem rB{r s:aG}(h:r≠s):sameR r s=false:=by unfold sameR;simp[h]
theorem tU(r s:aG)(x y:bw)(w:bd)(f:∃a b,x=b6 a r.fields b)(d:∃a b,y=b6 a s.fields b)
 (h:r.kind≠s.kind∨r.level≠s.level∨r.fields.length≠s.fields):
 bB prog 87 #[eG r x,eG s y] w λe w'=>e=b4 (b5 (sameR r s))/\Bw w w':=by
 have c:Hid (sameR r s=false):=rB (by rintro rfl;simp at h);obtain⟨a,b,rfl⟩:=f;obtain⟨g,i,rfl⟩:=d;obtain⟨k,l,j⟩:=r;obtain⟨n,o,m⟩:=s;simp only at h;unfold eG;rw[c.o];have H:=Z h;clear h;go_enter func87,ntmps87;go_wp2_with fail
 all_goals first
  |(go_ret;exact⟨rfl,(ar w _).alloc (by simp) _⟩)
  |(exfalso;go_tidy;have h:=H.o;clear H;simp only[ne_eq,<- UInt8.toNat_inj]at h;simp at*;omega)
theorem pH(g j:UInt8)(c f:List ag)(x y:bw)(w:bd)(C:ah 0 w w x c)(D:ah 0 w w y f)(a5:br c)(h:c.length=f):
 bB prog 87 #[eG ⟨g,j,c⟩ x,eG ⟨g,j,f⟩ y] w λe w'=>e=b4 (b5 (sameR ⟨g,j,c⟩ ⟨g,j,f⟩))/\Bw w w':=by
 have V:=Z C;have HY:=Z D;obtain⟨a,u,rfl⟩:=C.shape;obtain⟨s,v,rfl⟩:=D.shape;obtain⟨hn,P⟩:=a5;have T:=Z P;clear C D P;unfold eG;have F:=Z h;have a8:((c.length:Int)!=f.length)=false:=by simp[h]
 clear h;go_enter func87,ntmps87;go_wp2_with fail
 go_loopw [5,6] (λi t wr=>∃(k:Nat),k<=c/\i=J U k/\Hid (c.take k=f.take k)/\
  Below (w.heap.size+2) ((w.alloc (bY #[J b3 g,J b3 j,bc a c u] 62)).alloc (bY #[J b3 g,J b3 j,bc s f v] 62)) wr) (λi _ _=>c-(intOf i).toNat)
 case atStart=>exact⟨0,cb _,rfl,rfl,bl _ _⟩
 obtain⟨k,hk,rfl,G,r⟩:=hrel;have a9:wr.cell? ⟨w,2,Y⟩=X (bc a c u):=by rw[r.cell (p:=⟨w,2,Y⟩) (by simp)];go_simp
 have a4:wr.cell? ⟨w.heap.size+1,2,Y⟩=X (bc s f v):=by rw[r.cell (p:=⟨w.heap.size+1,2,Y⟩) (by simp)];go_simp
 have m:Bw w wr:=btr ((ar w _).alloc (by simp) _) r (by omega);have a0:=m.size;by_cases hlt:k<c;rotate_left
 .go_wp2_with fail;go_ret;refine⟨am ?_,m⟩;symm;rw[oh]
  have I:=G.o;have h2:=F.o;rw[bk (by omega),bk (by omega)]at I;rw[I]
 have L:k<f:=by rw[<- F.o];exact hlt
 obtain⟨b,n,a6,d,B,_,_,p0,p1,p2,p3,N⟩:=(V.kept (aW m (bb _))).field k hlt;cases B;obtain⟨l,o,a7,H,B,_,_,q0,q1,q2,q3,O⟩:=(HY.kept (aW m (bb _))).field k L;cases B;have Q:Hid (fH c[k] f[k]=true->c.take (k+1)=f.take (k+1)):=λh=>jx k hlt L G.o ((kg _ _).1 h);have R:Hid (fH c[k] f[k]=false->sameR ⟨g,j,c⟩ ⟨g,j,f⟩=false):=λM=>rB (by intro A;injection A with _ _ A;subst A;have:=(kg c[k] c[k]).2 rfl;rw[this]at M;cases M);have K:=cg (cr c[k]) (T _ (ch hlt))
 have E:Hid (∀W,Bw wr W->bB prog 139 #[fieldV c[k] d,fieldV f[k] H] W λe w'=>e=b4 (b5 (fH c[k] f[k]))/\Bw W w'):=λW q=>
  pI _ _ _ _ W ((N.kept (aW q (by omega))).mono (bb _) (by have:=q.size;omega)) ((O.kept (aW q (by omega))).mono (bb _) (by have:=q.size;omega)) K
 unfold fieldV at E;clear N O K;generalize fH c[k] f[k]=t at*;generalize c[k].tag=f1 at*;generalize c[k].ind=f2 at*;generalize c[k].data=f3 at*;generalize f[k].tag=g1 at*;generalize f[k].ind=g2 at*;generalize f[k].data=g3 at*;have a1:(0:Int)<=k:=by omega
 have s:(k:Int)<c:=by omega
 have a3:(k:Int)<f:=by omega
 cases t
 all_goals
  go_wp2_with fail
  go_region_held3 (λw'=>w'.cell? ⟨w,2,Y⟩=X (bc (X ⟨b,n,Y⟩) c u)/\w'.cell? ⟨w.heap.size+1,2,Y⟩=X (bc (X ⟨l,o,Y⟩) f v)
   /\w'.cell? ⟨b,n+k*4,Y⟩=X (S f1)/\w'.cell? ⟨b,n+k*4+1,Y⟩=X (S f2)/\w'.cell? ⟨b,n+k*4+2,Y⟩=X (S f3)/\w'.cell? ⟨b,n+k*4+3,Y⟩=X d
   /\w'.cell? ⟨l,o+k*4,Y⟩=X (S g1)/\w'.cell? ⟨l,o+k*4+1,Y⟩=X (S g2)/\w'.cell? ⟨l,o+k*4+2,Y⟩=X (S g3)/\w'.cell? ⟨l,o+k*4+3,Y⟩=X H) (go_keep)
   ((go_at_call 139;refine(E.o _ ?_).mono ?_;(exact(bl _ wr).drew);rintro e w3⟨rfl,z⟩;have aa:=fV z))
  go_wp2_with fail
 .go_ret;exact⟨am (R.o (by simp)).symm,btr m.drew z (by simpa using a0)⟩
 go_roundw
 case rel=>exact⟨k+1,by omega,by go_num,Q.o (by simp),btr r.drew z (by have:w.heap.size+1<wr:=bE a4;simp;omega)⟩
 simp[intOf];omega
theorem AR(r s:aG)(u v:bw)(w:bd)(g:eK 0 w w u r)(i:eK 0 w w v s)(f:br r.fields):
 bB prog 87 #[u,v] w λe w'=>e=b4 (b5 (sameR r s))/\Bw w w':=by
 obtain⟨x,rfl,a⟩:=g;obtain⟨y,rfl,b⟩:=i;by_cases h:r.kind≠s.kind∨r.level≠s.level∨r.fields.length≠s.fields
 .exact tU r s x y w a.shape b.shape h
 obtain⟨k,l,c⟩:=r;obtain⟨j,m,d⟩:=s;simp only[ne_eq,not_or,cv]at h;obtain⟨rfl,rfl,h⟩:=h;exact pH k l c d x y w a b f h
end
section
open Go.RowKit
attribute [local go_sem ↓] Go.wp_at_zero Go.wp_at_succ
theorem yX(r:aG)(v:bw)(w:bd)(b:eK 0 w w v r)(d:br r.fields):
 bB prog 85 #[v] w λe w'=>e=b4 (b5 (decide (wrongR r=0)))/\Bw w w':=by
 have c:Hid (∀W,Bw w W->bB prog 122 #[v] W λe w'=>e=b4 (wrongR r)/\Bw W w'):=λW a=>
  yn r v W ((b.kept (aW a (bb _))).mono (bb _) a.size) d
 obtain⟨x,rfl,_⟩:=b;unfold eG at*;generalize wrongR r=e at*;go_enter func85,ntmps85;go_wp2_with (go_at_call 122;refine(c.o _ (ar _ _)).mono ?_;rintro e w1⟨rfl,a⟩)
 go_ret;exact⟨am (by rw[bs];simp),btr (ar w _) a (by simp)⟩
end
end Go.Proofs.YtjcimanddakkaaaGreatDoor
