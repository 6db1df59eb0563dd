/- Lemmas. -/
import Derived.Test.YtjcimanddakkaaaGreatDoorCQ1
import Derived.Test.YtjcimanddakkaaaGreatDoorProg
import Derived.Deep.RegionHeld3
import Derived.Deep.DrawnRows
import Derived.Shelf.Strings.Builder1
import Derived.Shelf.Strings.SlTrimAscii
import Derived.Shelf.Unicode.DecodeAny
import Derived.Deep.DeepCutAuto
set_option maxRecDepth 100000
set_option maxHeartbeats 8000000
namespace Go.Proofs.YtjcimanddakkaaaGreatDoor
open Go.Value renaming int→J,bool→b7,pointer→b8,slice→b9
open Go.IntKind renaming u8→b5,i64→U
open Go.Ending renaming returned→b6
open _root_.Option renaming some→X,none→Y
open Go.Lib renaming hid→Z
open Go.Obj renaming cells→bb
open Tryz
open _root_.Nat renaming le_refl→bc,zero_le→cg,le_trans→cm
open Go.Value renaming slice→bd,int→cx
open Go renaming World→bk,Value→bA,Calls→bO
open _root_.List renaming take_of_length_le→bl,take_succ_eq_append_getElem→cc,getElem_mem→cn,length→cq,length_append→cs,eq_nil_of_length_eq_zero→cv
open Go.RowKit.Below renaming refl→bs,heap_setCell→c4
open _root_.Bool renaming eq_iff_iff→bt
open _root_.UInt8 renaming ofNat→bv
open Go.Lib renaming byteCells→bw,cell_of_heap→bB,frozen_of_heap→cu,trimS→cy
open _root_.ByteArray renaming size→bY
open Go.Obj renaming cells→cb
open Go.Calls renaming mono→cd
open _root_.Array renaming getElem?_modify→ch
open Go.Addr renaming add→cl
open Go.World renaming cell?_of_block→cp,setCell→cz,ownsRow_nil→c5
open _root_.Decidable renaming not_not→cP
open Go.IntKind renaming u8→cQ
section
open Go.RowKit
theorem j9(c:UInt8)(w:bk):bO prog 109 #[J b5 c.toNat] w λe w'=>e=b6 (b7 (letterB c))/\w=w':=by
 go_enter func109,ntmps109;go_wp2;all_goals(go_ret;refine⟨am ?_,rfl⟩;rw[bt];simp[letterB];try omega)
theorem j8(c:UInt8)(w:bk):bO prog 165 #[J b5 c.toNat] w λe w'=>e=b6 (b7 (letterB c))/\w=w':=by
 go_enter func165,ntmps165;go_wp2;all_goals(go_ret;refine⟨am ?_,rfl⟩;rw[bt];simp[letterB];try omega)
theorem zA(c:UInt8)(w:bk):bO prog 228 #[J b5 c.toNat] w λe w'=>e=b6 (b7 (digitB c))/\w=w':=by
 go_enter func228,ntmps228;go_wp2;all_goals(go_ret;refine⟨am ?_,rfl⟩;rw[bt];simp[digitB];try omega)
theorem pw(c:UInt8)(w:bk):bO prog 159 #[J b5 c.toNat] w λe w'=>e=b6 (b7 (fd c))/\w=w':=by
 go_enter func159,ntmps159;go_wp2;all_goals(go_ret;refine⟨am ?_,rfl⟩;rw[bt];simp[fd];try omega)
theorem Aj(c:UInt8)(w:bk):bO prog 219 #[J b5 c.toNat] w λe w'=>e=b6 (b7 (fd c))/\w=w':=by
 go_enter func219,ntmps219;go_wp2;all_goals(go_ret;refine⟨am ?_,rfl⟩;rw[bt];simp[fd];try omega)
theorem r6(c:UInt8)(w:bk):bO prog 156 #[J b5 c.toNat] w λe w'=>e=b6 (b7 (gg c))/\w=w':=by
 go_enter func156,ntmps156;go_wp2_with (go_at_call 159;refine(pw _ _).mono ?_;rintro e w'⟨rfl,rfl⟩)
 all_goals(go_ret;refine⟨am ?_,rfl⟩;rw[bt];simp[gg,fd];try omega)
theorem Cq(n m:Int):(n.tmod m+m)%m=n.emod m:=by
 rw[Int.add_emod_right];rw[Int.tmod_def];exact Int.sub_mul_emod_self_left n m _
theorem iV(n m:Int)(w:bk)(c:1<=m)(d:m<=1000000):
 bO prog 24 #[J U n,J U m] w λe w'=>e=b6 (J U (n.emod m))/\w=w':=by
 have a:n.tmod m<m:=Int.tmod_lt_of_pos n (by omega);have b: -m<n.tmod m:=by have:=Int.lt_tmod_of_pos n (show 0<m by omega);omega
 go_enter func24,ntmps24;go_wp2;go_ret;exact⟨aI (Cq n m),rfl⟩
open Go.RowKit
theorem AJ(x:Ch)(c:UInt8)(b:Nat)(w:bk)(a:kA x)(h:sZ w b x):
 bO prog 229 #[b8 (X ⟨b,0,Y⟩),J b5 c.toNat] w (na x c b w):=by
 obtain⟨d,c1,c2,e,f,g⟩:=h;obtain⟨k,l,j⟩:=a;have i:=nL c;go_enter func229,ntmps229;go_wp2;all_goals go_ret
 all_goals go_tidy
 all_goals(try simp only[beq_iff_eq,beq_eq_false_iff_ne]at*)
 all_goals first
  |(refine yQ (by repeat' (with_reducible (first|exact az.refl _ _|refine az.setCell ?_ _ _))) rfl ?_;first|exact BD (by omega) (by omega)|exact lC (by omega) (by omega))
  |(first
   |refine eB (Cy (by omega) (by omega)) (by repeat' (with_reducible (first|exact az.refl _ _|refine az.setCell ?_ _ _))) rfl ?_
   |refine eB (sF (by omega) (by omega)) (by repeat' (with_reducible (first|exact az.refl _ _|refine az.setCell ?_ _ _))) rfl ?_
   |refine eB (zL (by omega) (by omega)) (by repeat' (with_reducible (first|exact az.refl _ _|refine az.setCell ?_ _ _))) rfl ?_
   |refine eB (B0 (by omega) (by omega)) (by repeat' (with_reducible (first|exact az.refl _ _|refine az.setCell ?_ _ _))) rfl ?_
   |refine eB (BZ (by omega) (by omega)) (by repeat' (with_reducible (first|exact az.refl _ _|refine az.setCell ?_ _ _))) rfl ?_
   |refine eB (BX (by omega) (by omega)) (by repeat' (with_reducible (first|exact az.refl _ _|refine az.setCell ?_ _ _))) rfl ?_
   |refine eB (BW (by omega) (by omega)) (by repeat' (with_reducible (first|exact az.refl _ _|refine az.setCell ?_ _ _))) rfl ?_
   |refine eB (BV (by omega) (by omega)) (by repeat' (with_reducible (first|exact az.refl _ _|refine az.setCell ?_ _ _))) rfl ?_
   |refine eB (BU (by omega) (by omega)) (by repeat' (with_reducible (first|exact az.refl _ _|refine az.setCell ?_ _ _))) rfl ?_)
 all_goals constructor
 all_goals go_simp
 all_goals(first|omega|(refine World.cell?_setCell_same' _ _ _ ?_;go_simp;done))
theorem kf(l:Bs)(w:bk)(t:l.length<=1000000):
 bO prog 218 #[S l] w λe w'=>e=b6 (b7 (ba l))/\Bw w w':=by
 go_enter func218,ntmps218;go_wp2_with fail;go_loopw [4,5] (λi f wr=>∃(k:Nat)(y:Ch),k<=l.length/\i=J U k/\chRun ch0 (l.take k)=X y/\kA y/\sZ wr w.heap.size y/\Bw w wr) (λi _ _=>l.length-(intOf i).toNat)
 exact⟨0,ch0,cg _,rfl,rfl,zO,zP w 297,(bs _ _).alloc (bc _) _⟩;obtain⟨k,y,s,rfl,h,d,c,b⟩:=hrel;have a:=Z h;clear h;by_cases hlt:k<l.length
 .have m:=Z (vU l k hlt);go_wp2_with (go_at_call 229;refine(AJ y l[k] w.heap.size wr d c).mono ?_;rintro e u⟨g,⟨hn,rfl⟩|⟨z,j,rfl,n⟩⟩)
  .go_ret;exact⟨am (rZ (uE l k y hlt ch0 a.o hn.o)).symm,b.trans (g.below (bc _))⟩
  go_roundw
  case rel=>exact⟨k+1,z,by omega,by go_num,by rw[m.o,uD _ _ _ _ a.o];exact j.o,sK d j.o,n,b.trans (g.below (bc _))⟩
  simp[intOf];omega
 obtain⟨o,c1,c2,p,q,r⟩:=c;go_wp2_with fail;go_ret;refine⟨am ?_,b⟩;rw[ur (by rw[<- a.o,bl (by omega)]),bt];simp;try omega
open Go.RowKit
attribute [local go_sem ↓] Go.wp_at_zero Go.wp_at_succ
theorem eU(l:Bs)(w:bk)(a:2<=l.length):
 bO prog 217 #[S l] w λe w'=>e=b6 (b7 (fJ l))/\w=w':=by
 go_enter func217,ntmps217;go_wp2;go_ret;exact⟨am (by unfold fJ;rw[bt];simp),rfl⟩
theorem fI(l:Bs)(w:bk):
 bO prog 176 #[S l] w λe w'=>e=b6 (b7 (bH l))/\w=w':=by
 by_cases h:l.length=3;rotate_left
 .have g:((l.length:Int)==3)=false:=by simp;omega
  have d:bH l=false:=by simp[bH,h]
  go_enter func176,ntmps176;go_wp2_with fail;go_ret;exact⟨am d.symm,rfl⟩
 obtain⟨a,b,c,rfl⟩:∃a b c,l=[a,b,c]:=by
  match l,h with
  |[a,b,c],_=>exact⟨a,b,c,rfl⟩
 have d:∀x,x=bH [a,b,c]->Ending.returned (b7 x)=b6 (b7 (bH [a,b,c])):=λx h=>by rw[h]
 have f:=Z d;clear h d;cases ha:digitB a<;>cases hb:digitB b<;>cases hc:digitB c
 all_goals
  go_enter func176,ntmps176
  go_wp2_with (go_at_call 228;refine(zA _ _).mono ?_;rintro e w'⟨rfl,rfl⟩)
  go_ret
  refine⟨f _ ?_,rfl⟩
  rw[bt]
  simp[bH,ha,hb,hc]
 all_goals(by_cases x:a=48<;>by_cases y:b=48<;>by_cases z:c=48<;>simp[x,y,z])
theorem xF(w:bk)(b:Nat)(c:Int)(h:w.cell? ⟨b,0,Y⟩=X (J b5 c))(d:0<=c/\c<256):
 (convert 76 9 (b9 (X ⟨b,0,Y⟩) 1 1)).run prog w=.ok (S [bv c.toNat]) w:=by
 have:=run_convert_bytes_back (P:=prog) w 76 9 5 ⟨b,0,Y⟩ 1 [bv c.toNat] underlying76 underlying5 underlying9
  (λj a=>by
   have:j=0:=by simpa using a
   subst this
   simp[cl,h]
   omega)
 simpa using this
open Go.RowKit
attribute [local go_sem ↓] Go.wp_at_zero Go.wp_at_succ
theorem sO(f:af)(d:bA)(w:bk)(z:aw 0 w.heap.size w d f.subs)(r:(fieldBytes f).length<=1000000)(hn:f.subs.length<=1000000):
 bO prog 123 #[fieldV f d] w λe w'=>e=b6 (S (fieldBytes f))/\Bw w w':=by
 obtain⟨u,l,j,c⟩:=f;have O:j.length+l.length<=1000000:=by simp[fieldBytes]at r;omega
 have x:=Z r;have D:=Z z;obtain⟨a,m,rfl,_⟩:=z;clear r;unfold fieldV;go_enter func123,ntmps123;go_wp2_with fail
 go_loopw [3,4] (λs i wr=>∃(k:Nat)(g:Bs),k<=c.length/\i=J U k/\s=S g/\Hid (g=j++l++(c.take k).flatMap aR)/\g.length<1000000/\
  Below (w.heap.size+1) (w.alloc (cb #[S u,S l,S j,bd a c.length m] 123)) wr) (λ_ i _=>c.length-(intOf i).toNat)
 case atStart=>exact⟨0,j++l,cg _,rfl,rfl,(by simp[Hid]),(by have:=bN ⟨u,l,j,c⟩ 0;have:=x.o;simp at*;omega),bs _ _⟩
 obtain⟨k,g,N,rfl,rfl,v,M,n⟩:=hrel;have q:wr.cell? ⟨w.heap.size,3,Y⟩=X (bd a c.length m):=by rw[n.cell (p:=⟨w.heap.size,3,Y⟩) (by simp)];go_simp
 by_cases hlt:k<c.length;rotate_left
 .have G:¬9223372036854775807<cq g+1:=by omega
  go_wp2_with fail;go_ret;refine⟨vk ?_,btr ((bs _ w).alloc (bc _) _) n (by omega)⟩;rw[v.o,bl (by omega)];rfl
 have E:aw 0 w.heap.size wr (bd a c.length m) c:=(D.o.kept (aY ((bs _ w).alloc (bc _) _) (bc _))).kept (aY n (by omega));obtain⟨b,t,L,F,_,_,A,B⟩:=E.sub k hlt;cases F;have y:Hid (g++(31::c[k].code::c[k].text)=j++l++(c.take (k+1)).flatMap aR):=by rw[km _ _ _ hlt,v.o];simp[Hid,aR]
 have P:g.length+2+c[k].text.length<1000000:=by have:=bN ⟨u,l,j,c⟩ (k+1);simp only at this;rw[<- y.o]at this;have:=x.o;simp at*;omega
 have Q:=λW b(h:W.cell? ⟨b,0,Y⟩=X (J b5 c[k].code.toNat))=>xF W b _ h ⟨yb _,nL _⟩;generalize c[k].text=T at*;generalize c[k].code=C at*;have H:∀o,(wr.alloc o).cell? ⟨w.heap.size,3,Y⟩=X (bd (X ⟨b,t,Y⟩) c.length m):=λo=>by rw[bf _ _ _ _ (bD q)];exact q
 have I:∀o,(wr.alloc o).cell? ⟨b,t+k*2,Y⟩=X (J b5 C.toNat):=λo=>by rw[bf _ _ _ _ (bD A)];exact A
 have K:∀o,(wr.alloc o).cell? ⟨b,t+k*2+1,Y⟩=X (S T):=λo=>by rw[bf _ _ _ _ (bD B)];exact B
 have G:¬9223372036854775807<cq g+1:=by omega
 have R:¬9223372036854775807<cq g+1+1:=by omega
 have V:¬9223372036854775807<cq g+1+1+cq T:=by omega
 go_wp2_with fail;go_region;go_wp2_with fail;go_roundw
 case rel=>
  refine⟨k+1,g++(31::C::T),by omega,by go_num,?_,y,by simp;omega,?_⟩
  .simp
  exact(n.alloc (by have:w.heap.size<wr.heap.size:=bD q;omega) _).drew
 simp[intOf];omega
end
section
open Go.RowKit
theorem mT(l:Bs)(w:bk):∃c w1,(convert 9 76 (S l)).run prog w=.ok (b9 (X ⟨w.heap.size,0,Y⟩) l.length c) w1/\w1.heap.size=w.heap.size+1/\l.length<=c/\Bw w w1/\
 (∀k(h:k<l.length),w1.cell? ⟨w.heap.size,k,Y⟩=X (J b5 l[k].toNat))/\(∀k,k<l.length->w1.frozen? ⟨w.heap.size,k,Y⟩=false):=by
 have e:l.length<=grownCap w l.length 0 5:=grownCap_ge w l.length 0 5;refine⟨_,_,run_bytes_of_string w 9 76 5 ⟨l.toArray⟩ underlying9 underlying76 underlying5,by simp,e,((bs _ w).drew).alloc (by simp) _,?_,?_⟩
 .intro k h;refine(World.cell?_alloc_mark w.drew _ _ _ k).trans ?_;have a:k<(Array.map (λb:UInt8=>cx cQ ↑b.toNat) (⟨l.toArray⟩:ByteArray).data).size:=by simpa using h
  unfold bytesRow;rw[Array.getElem?_append_left a];simp[h]
 intro k h;refine(World.frozen?_alloc_mark w.drew _ _ _ _ k).trans ?_;have a:k<(bytesRow ⟨l.toArray⟩ (grownCap w l.length 0 5)).size:=by unfold bytesRow;simp;omega
 have d:(decide ((bytesRow ⟨l.toArray⟩ (grownCap w l.length 0 5)).size<=k))=false:=by simpa using a
 show(decide ((bytesRow ⟨l.toArray⟩ (grownCap w l.length 0 5)).size<=k)&&_)=false;rw[d];rfl
def pL(p s:Bs):Bool:=decide (s.take p.length=p)
theorem qg(s p:Bs)(w:bk):bO prog 273 #[S s,S p] w λe w'=>e=b6 (b7 (pL p s))/\w=w':=by
 go_enter func273,ntmps273;go_wp2;all_goals go_ret
 all_goals refine⟨am ?_,rfl⟩
 .rw[pL,bt];simp
 rename_i h;symm;rw[pL,decide_eq_false_iff_not]
 intro a;apply h;rw[<- a];simp;omega
theorem gh(s p:Bs)(w:bk):bO prog 205 #[S s,S p] w λe w'=>e=b6 (b7 (pL p s))/\w=w':=by
 go_enter func205,ntmps205;go_wp2_with (go_at_call 273;refine(qg _ _ _).mono ?_;rintro e w'⟨rfl,rfl⟩)
 go_ret;exact⟨rfl,rfl⟩
theorem mM(l:Bs)(w:bk):bO prog 154 #[S l] w λe w'=>e=b6 (b7 (fJ l))/\w=w':=by
 go_enter func154,ntmps154;go_wp2_with (go_at_call 205;refine(gh _ [48,48] _).mono ?_;rintro e w'⟨rfl,rfl⟩)
 go_ret;exact⟨rfl,rfl⟩
open Go.Shelf
def rQ:Go.Shelf.Ren:=⟨λ|160=>204|232=>267|231=>266|227=>268|234=>270|233=>269|236=>272|235=>271|228=>307|271=>308|151=>235|197=>278|120=>330|152=>284|260=>310|137=>246|119=>312|224=>313|225=>314|217=>291|266=>323|n=>n,λ|9=>9|4=>4|3=>3|5=>5|117=>328|116=>327|0=>0|124=>331|21=>21|105=>334|46=>218|119=>383|139=>386|138=>385|n=>n,λ|3=>0|4=>1|n=>n⟩
theorem AY:Go.Proofs.Lays.n160 prog rQ:={
 mixed:=by kernel_rfl
 f119:=Qf func312
 f120:=Qf func330
 f137:=Qf func246
 f151:=Qf func235
 f152:=Qf func284
 f160:=Qf func204
 f197:=Qf func278
 f217:=Qf func291
 f224:=Qf func313
 f225:=Qf func314
 f227:=Qf func268
 f228:=Qf func307
 f231:=Qf func266
 f232:=Qf func267
 f233:=Qf func269
 f234:=Qf func270
 f235:=Qf func271
 f236:=Qf func272
 f260:=Qf func310
 f266:=Qf func323
 f271:=Qf func308
 t0:=underlying0
 a0:=Tryz.isAgg0
 z0:=sizeOf0
 v0:=zeroValue0
 t3:=underlying3
 a3:=Tryz.isAgg3
 z3:=sizeOf3
 v3:=zeroValue3
 t4:=underlying4
 a4:=Tryz.isAgg4
 z4:=sizeOf4
 v4:=zeroValue4
 t5:=underlying5
 a5:=Tryz.isAgg5
 z5:=sizeOf5
 v5:=zeroValue5
 t9:=underlying9
 a9:=Tryz.isAgg9
 z9:=sizeOf9
 v9:=zeroValue9
 t21:=underlying21
 a21:=Tryz.isAgg21
 z21:=sizeOf21
 v21:=zeroValue21
 t46:=underlying218
 a46:=Tryz.isAgg218
 z46:=sizeOf218
 v46:=zeroValue218
 t105:=underlying334
 a105:=Tryz.isAgg334
 z105:=sizeOf334
 v105:=zeroValue334
 t116:=underlying327
 a116:=Tryz.isAgg327
 z116:=sizeOf327
 t117:=underlying328
 a117:=Tryz.isAgg328
 z117:=sizeOf328
 v117:=zeroValue328
 t119:=underlying383
 a119:=Tryz.isAgg383
 z119:=sizeOf383
 t124:=underlying331
 a124:=Tryz.isAgg331
 z124:=sizeOf331
 v124:=zeroValue331
 t138:=underlying385
 a138:=Tryz.isAgg385
 z138:=sizeOf385
 v138:=zeroValue385
 t139:=underlying386
 a139:=Tryz.isAgg386
 z139:=sizeOf386
 v139:=zeroValue386
 g3:=by kernel_rfl
 g4:=by kernel_rfl}
def kL:Go.Shelf.Ren:=⟨λ|240=>161|276=>207|n=>n,λ|0=>0|4=>4|9=>9|20=>20|70=>185|72=>187|164=>282|37=>76|5=>5|n=>n,λ|n=>n⟩
theorem vp:Go.Proofs.Lays.n240 prog kL:={
 mixed:=by kernel_rfl
 f240:=Qf func161
 f276:=Qf func207
 t0:=underlying0
 a0:=Tryz.isAgg0
 z0:=sizeOf0
 v0:=zeroValue0
 t4:=underlying4
 a4:=Tryz.isAgg4
 z4:=sizeOf4
 v4:=zeroValue4
 t9:=underlying9
 a9:=Tryz.isAgg9
 z9:=sizeOf9
 v9:=zeroValue9
 t20:=underlying20
 a20:=Tryz.isAgg20
 z20:=sizeOf20
 v20:=zeroValue20
 t70:=underlying185
 a70:=Tryz.isAgg185
 z70:=sizeOf185
 v70:=zeroValue185
 t72:=underlying187
 a72:=Tryz.isAgg187
 z72:=sizeOf187
 v72:=zeroValue187
 t164:=underlying282
 a164:=Tryz.isAgg282
 z164:=sizeOf282
 v164:=zeroValue282}
theorem mU:Builder.X72 prog kL:={sizeBuilder:=by kernel_rfl,liesBuilder:=by kernel_rfl}
open Go.RowKit in
theorem mK(b:Nat)(w:bk)(a:w.cell? ⟨b,0,Y⟩=X (b8 (X ⟨b,0,Y⟩))):
 bO prog 161 #[b8 (X ⟨b,0,Y⟩)] w λe w'=>e=b6 (.tuple #[])/\w'=w:=Any.Builder_copyCheck_used vp mU b w a
open Go.RowKit in
theorem li(b:Nat)(w:bk)(a:w.cell? ⟨b,0,Y⟩=X (b8 Y))(d:w.shape? b=X (187,2))(c:w.frozen? ⟨b,0,Y⟩=false):
 bO prog 161 #[b8 (X ⟨b,0,Y⟩)] w λe w'=>e=b6 (.tuple #[])/\w'=w.setCell ⟨b,0,Y⟩ (b8 (X ⟨b,0,Y⟩)):=Any.Builder_copyCheck_fresh vp mU b w a d c
open Go.RowKit in
open Go.RowKit in
open Go.RowKit in
theorem oZ(s:ByteArray)(w:bk)(a:s.size<=9223372036854775807):
 bO prog 204 #[.string s,.string ⟨#[48,49,50,51,52,53,54,55,56,57]⟩] w λe w'=>e=b6 (.string ⟨(cy s.data.toList [48,49,50,51,52,53,54,55,56,57]).toArray⟩)/\Bw w w':=
 Any.strings_Trim_laid AY (by kernel_rfl) s ⟨#[48,49,50,51,52,53,54,55,56,57]⟩ w a (by decide) (ascii_of_all (by decide))
open Go.RowKit
def je:Bs:=[48,49,50,51,52,53,54,55,56,57]
theorem mH(b:UInt8):je.contains b=digitB b:=by
 have:∀n:Fin 256,je.contains (bv n.val)=digitB (bv n.val):=by decide+kernel
 have h:=this ⟨b.toNat,b.toNat_lt⟩;simpa using h
theorem lL(l:Bs):cy l je=[]↔l.all digitB=true:=by
 have b:∀l:Bs,l.dropWhile (je.contains ·)=[]↔l.all digitB=true:=by
  intro l;induction l with
  |nil=>simp
  |cons a l ih=>
   rw[List.dropWhile_cons];by_cases h:digitB a=true
   .rw[if_pos (by rw[mH];exact h),ih];simp[h]
   rw[if_neg (by rw[mH];exact h)];simp[h]
 unfold cy Lib.trimLeftS;rw[b];unfold Lib.trimRightS;constructor
 .intro h;have c:(l.reverse.dropWhile (je.contains ·))=[]:=by
   cases hd:l.reverse.dropWhile (je.contains ·)with
   |nil=>rfl
   |cons a r=>
    exfalso;have e:¬(je.contains a)=true:=by have d:=List.head?_dropWhile_not (je.contains ·) l.reverse;rw[hd]at d;simp only[List.head?_cons]at d;rw[d];simp
    rw[hd]at h;rw[List.all_eq_true]at h;have:=h a (by simp);rw[mH]at e;exact e this
  have:=(b l.reverse).1 c;simpa using this
 intro h;have c:(l.reverse.dropWhile (je.contains ·))=[]:=(b l.reverse).2 (by simpa using h);rw[c];rfl
theorem tw(l:Bs)(w:bk):bO prog 153 #[S l] w λe w'=>e=b6 (b7 (bH l))/\Bw w w':=by
 by_cases h:l.length=3;rotate_left
 .have d:((l.length:Int)==3)=false:=by simp;omega
  have f:bH l=false:=by simp[bH,h]
  go_enter func153,ntmps153;go_wp2_with fail;go_ret;exact⟨am f.symm,bs _ _⟩
 by_cases hz:l=[48,48,48]
 .subst hz;go_enter func153,ntmps153;go_wp2_with fail;go_ret;exact⟨rfl,bs _ _⟩
 have b:Hid (bH l=l.all digitB):=by unfold Hid;simp[bH,h,hz]
 have d:((l.length:Int)==3)=true:=by simp;omega
 have a:Hid (∀W,bO prog 204 #[S l,.string ⟨#[48,49,50,51,52,53,54,55,56,57]⟩] W λe w'=>e=b6 (S (cy l je))/\Bw W w'):=λW=>oZ ⟨l.toArray⟩ W (by have:(⟨l.toArray⟩:ByteArray).size=l.length:=rfl;omega);have c:=Z (lL l);clear h;generalize cy l je=t at*;go_enter func153,ntmps153;go_wp2_with (go_at_call 204;(refine cd (a.o _) ?_;rintro e w'⟨rfl,g⟩))
 go_ret;refine⟨am ?_,g⟩;rw[b.o,bt,<- c.o];simp[hz]
end
section
open Go.RowKit
theorem sZ.of{b:Nat}{w w':bk}{x:Ch}(h:sZ w b x)(d:w'.heap[b]?=w.heap[b]?):sZ w' b x:=by
 have a:∀i,w'.cell? ⟨b,i,Y⟩=w.cell? ⟨b,i,Y⟩:=λi=>cp (w:=w) d;have c:∀i,w'.frozen? ⟨b,i,Y⟩=w.frozen? ⟨b,i,Y⟩:=λi=>World.frozen?_of_block (w:=w) d;exact⟨by rw[a];exact h.c0,by rw[a];exact h.c1,by rw[a];exact h.c2,by rw[c];exact h.f0,by rw[c];exact h.f1,by rw[c];exact h.f2⟩
theorem aL(w:bk)(a b:Addr)(u:bA):(w.setCell a u).frozen? b=w.frozen? b:=by
 unfold World.frozen? cz;simp only[ch];by_cases h:a.block=b.block
 .rw[if_pos h,<- h];cases w.heap[a.block]? with
  |none=>rfl
  |some o=>cases o<;>rfl
 rw[if_neg h]
theorem zo(a:List ct):(a.flatMap subCells).length=a.length*2:=by
 induction a with
 |nil=>rfl
 |cons s l ih=>rw[List.flatMap_cons,cs,ih];simp[subCells];omega
theorem aX(w:bk)(o:Obj):Bw w (w.alloc o):=(bs _ w).alloc (bc _) o
theorem aG{w:bk}{B:Nat}{e:TypeId}{k:Nat}{v:bA}{n:Nat}{c:List bA}(h:w.ownsRow B e k v n c):∃a b,v=b9 a n b:=by
 rcases h.2 with⟨rfl,rfl⟩|⟨g,b,d,rfl,_⟩
 .exact⟨Y,0,rfl⟩
 exact⟨_,_,rfl⟩
open Go.RowKit
def bC(lo:Nat)(g:Option Nat)(w:bk)(v:bA)(c:List ct):Prop:=
 ∃a e,v=b9 a c.length e/\(c≠[]->∃b d,a=X ⟨b,d,Y⟩/\lo<=b/\b<w.heap.size/\g≠X b/\∀j x,(c.flatMap subCells)[j]?=X x->w.cell? ⟨b,d+j,Y⟩=X x)
theorem qh{a:List ct}:a.flatMap subCells≠[]↔a≠[]:=by
 cases a with
 |nil=>simp
 |cons s l=>simp[subCells]
theorem bC.at{lo:Nat}{g:Option Nat}{w:bk}{v:bA}{c:List ct}(h:bC lo g w v c):aw lo w.heap.size w v c:=by
 obtain⟨a,d,l,h⟩:=h;refine⟨a,d,l,λk=>?_⟩;obtain⟨b,m,e,f,i,_,j⟩:=h (qh.1 k);exact⟨b,m,e,f,i,j⟩
theorem bC.of{lo c:Nat}{g:Option Nat}{w:bk}{v:bA}{d:List ct}(h:aw lo w.heap.size w v d)(r:c<=lo)(n:∀k,g=X k->k<lo):bC c g w v d:=by
 obtain⟨a,f,o,h⟩:=h;refine⟨a,f,o,λm=>?_⟩;obtain⟨b,p,i,q,j,l⟩:=h (qh.2 m);exact⟨b,p,i,by omega,j,λe=>by have:=n b e;omega,l⟩
theorem bC.step{lo:Nat}{g c:Option Nat}{w w':bk}{v:bA}{i:List ct}(h:bC lo g w v i)(r:∀k,lo<=k->k<w.heap.size->g≠X k->w'.heap[k]?=w.heap[k]?)(z:w.heap.size<=w'.heap.size)
 (q:c=g∨∃k,c=X k/\w.heap.size<=k):bC lo c w' v i:=by
 obtain⟨a,l,s,h⟩:=h;refine⟨a,l,s,λp=>?_⟩;obtain⟨b,u,m,d,n,f,o⟩:=h p;refine⟨b,u,m,d,by omega,?_,λj x t=>by rw[cp (w:=w) (r b d n f)];exact o j x t⟩;rcases q with rfl|⟨k,rfl,y⟩
 .exact f
 intro e;injection e;omega
structure bL(lo:Nat)(w:bk)(v:bA)(fs:List af):Prop where
 ex:∃ps:List (af×bA),ps.map (·.1)=fs/\(∀p∈ps,bC lo v.ownBlock w p.2 p.1.subs)/\w.ownsRow lo 123 4 v fs.length (ps.flatMap fieldCells)
theorem bL.nil(lo:Nat)(w:bk):bL lo w (b9 Y 0 0) []:=⟨⟨[],rfl,by simp,c5 _ _ _ _⟩⟩
theorem bL.shape{lo:Nat}{w:bk}{v:bA}{b:List af}(h:bL lo w v b):∃a c,v=b9 a b.length c:=by
 obtain⟨ps,_,_,h⟩:=h.ex;exact aG h
theorem bL.keep{lo:Nat}{w w':bk}{v:bA}{c:List af}(h:bL lo w v c)(i:∀k,lo<=k->k<w.heap.size->w'.heap[k]?=w.heap[k]?)(s:w.heap.size<=w'.heap.size):bL lo w' v c:=by
 obtain⟨ps,m,n,d⟩:=h.ex;refine⟨⟨ps,m,λp o=>(n p o).step (λk a b _=>i k a b) s (.inl rfl),?_⟩⟩;refine⟨d.1,?_⟩;rcases d.2 with hn|⟨g,j,l,r,e,f,q⟩
 .exact .inl hn
 refine .inr ⟨g,j,l,r,e,?_,q⟩;rw[i g e (Array.getElem?_eq_some_iff.1 f).1];exact f
theorem bL.app{lo:Nat}{w1 e:bk}{v c:bA}{g:List af}(f:af)(d:bA)(ps:List (af×bA))(m:ps.map (·.1)=g)(n:∀p∈ps,bC lo v.ownBlock w1 p.2 p.1.subs)(o:bC lo v.ownBlock w1 d f.subs)
 (s:e.ownsRow lo 123 4 c (g.length+1) (ps.flatMap fieldCells++fieldCells (f,d)))(j:w1.grownBy e v.ownBlock)(b:c.ownBlock=v.ownBlock∨c.ownBlock=X w1.heap.size):bL lo e c (g++[f]):=by
 have l:∀x i,bC lo v.ownBlock w1 x i->bC lo c.ownBlock e x i:=λx i h=>
  h.step (λk _ q r=>j.block k q (Ne.symm r)) j.size (by rcases b with b|b;exact .inl b;exact .inr ⟨_,b,bc _⟩)
 refine⟨⟨ps++[(f,d)],by simp[m],?_,by simpa using s⟩⟩;intro p a;rcases List.mem_append.1 a with a|a
 .exact l _ _ (n p a)
 simp at a;subst a;exact l _ _ o
theorem bL.fields{lo e:Nat}{w:bk}{v:bA}{b:List af}(h:bL lo w v b)(m:e<=lo):ag e w.heap.size w v b:=by
 obtain⟨ps,c,i,a⟩:=h.ex;refine⟨ps,c,λp o=>(i p o).at.mono m (bc _),?_⟩;have u:ps.length=b.length:=by rw[<- c];simp
 rcases a.2 with⟨rfl,f⟩|⟨g,q,r,rfl,s,t,y⟩
 .refine⟨Y,0,by rw[f],λl=>?_⟩;have:ps=[]:=cv (by omega);subst this;exact absurd rfl l
 have n:=a.lt g (by simp[Value.ownBlock]);refine⟨_,_,rfl,λ_=>⟨g,0,rfl,by omega,n.2,λj x d=>?_⟩⟩;have k:=a.cellAt j (by have:=(List.getElem?_eq_some_iff.1 d).1;rw[a.1]at this;exact this);rw[Nat.zero_add,k];exact d
structure Fr(b:Nat)(g:Option Nat)(w w':bk):Prop where
 os:w'.os=w.os
 tape:w'.tape=w.tape
 output:w'.output=w.output
 size:w.heap.size<=w'.heap.size
 block:∀k,k<w.heap.size->k≠b->some k≠g->w'.heap[k]?=w.heap[k]?
theorem Fr.refl(b:Nat)(g:Option Nat)(w:bk):Fr b g w w:=⟨rfl,rfl,rfl,bc _,λ_ _ _ _=>rfl⟩
theorem Fr.below{b B:Nat}{g:Option Nat}{w w':bk}(h:Fr b g w w')(d:B<=b)(a:∀k,g=X k->B<=k)(c:B<=w.heap.size):Below B w w':=
 ⟨h.os,h.tape,h.output,h.size,λk f=>h.block k (by omega) (by omega) (λe=>by have:=a k e.symm;omega)⟩
structure Bld(B b:Nat)(g:Option Nat)(l:Bs)(w:bk):Prop where
 lt:b<B
 ex:∃p v,w.heap[b]?=some (.cells #[p,v] 187 (0,0))/\(p=.pointer none∨p=.pointer (some ⟨b,0,none⟩))/\w.ownsRow B 5 1 v l.length (bw l)/\v.ownBlock=g/\(l=[]->v=.slice none 0 0)
theorem i5:(prog.info? 5).map (λi=>(i.zero,i.size,i.bytes))=X (X (J b5 0),1,1):=by kernel_rfl
theorem tJ(w:bk)(base:Nat)(i:TypeInfo)(f:prog.info? 5=X i)(q:i.zero=X (J b5 0))(l:i.size=1)(o:i.bytes=1)
 (v:bA)(n:Nat)(c:List bA)(d:w.ownsRow base 5 1 v n c)(s:ByteArray)(m:n+s.size<=maxLen)(t:n+s.size<=140737488355328)(B:base<=w.heap.size):
 ∃b w',(Builtin.append_ #[76,9] 76 #[v,.string s]).run prog w=.ok b w'/\w'.ownsRow base 5 1 b (n+s.size) (c++Lib.strCells s)/\w.grownBy w' v.ownBlock/\
  (b=b9 Y 0 0↔v=b9 Y 0 0/\s.size=0)/\(b.ownBlock=v.ownBlock∨∃k,b.ownBlock=X k/\w.heap.size<=k):=by
 obtain⟨b,w',h,y,z,A⟩:=Lib.run_append_own_string (P:=prog) w base 76 9 76 5 i underlying76 underlying9 f q l o v n c d s m t B;refine⟨b,w',h,y,z,A,?_⟩;have H:c.length=n:=by simpa using d.1
 have M:n+s.size<=9223372036854775807:=by unfold maxLen at m;omega
 rcases d.2 with⟨rfl,rfl⟩|⟨g,e,r,rfl,I,E,L,K,C,N⟩
 .obtain⟨O,Q,a,x,_,_⟩:=Lib.run_append_own_string (P:=prog) w w.heap.size 76 9 76 5 i underlying76 underlying9 f q l o (b9 Y 0 0) 0 c ⟨d.1,.inl ⟨rfl,rfl⟩⟩ s m t (bc _);rw[h]at a;injection a with hv hw
  subst hv hw;rcases x.2 with⟨p,_⟩|⟨k,_,_,p,F,_⟩
  .left;rw[p]
  right;exact⟨k,by rw[p];rfl,F⟩
 have D:r.size=e:=by simpa using C
 by_cases hroom:n+s.size<=e
 .have a:=Lib.run_append_room_string (P:=prog) w 76 9 76 5 i underlying76 underlying9 f l g n e r E s hroom (D.symm▸hroom);rw[h]at a;injection a with hv hw
  left;rw[hv];rfl
 have G:∀j u,c[j]?=X u->w.cell? ((⟨g,0,Y⟩:Addr).add j)=X u:=d.cells (g:=g) rfl;have a:=Lib.run_append_grow_string (P:=prog) w 76 9 76 5 i (J b5 0) underlying76 underlying9 f q ⟨g,0,Y⟩ n e c (by rw[l];simpa using H) G s (by omega) (by omega) (by rw[o];exact growslice_fits (by omega) (by omega));rw[h]at a;injection a with hv hw
 right;exact⟨w.heap.size,by rw[hv];rfl,bc _⟩
theorem nj{w:bk}{d:Array Oper}{e:List Oper}{o:Oper}{a:Act}{Q:Exit->Act->bk->Prop}(y:o.guard=Y)(f x:Operand)
 (A:o.op=.call {callee:=.builtin .append,args:= #[f,x],argTypes:= #[76,9]})(F:o.type=76)
 (base:Nat)(i:TypeInfo)(z:prog.info? 5=X i)(H:i.zero=X (J b5 0))(E:i.size=1)(t:i.bytes=1)
 (v:bA)(n:Nat)(c:List bA)(D:a.eval f=v)(B:w.ownsRow base 5 1 v n c)(s:ByteArray)(G:a.eval x=.string s)
 (p:n+s.size<=maxLen)(u:n+s.size<=140737488355328)(r:base<=w.heap.size)
 (h:∀b w',w'.ownsRow base 5 1 b (n+s.size) (c++Lib.strCells s)->w.grownBy w' v.ownBlock->(b=b9 Y 0 0↔v=b9 Y 0 0/\s.size=0)->(b.ownBlock=v.ownBlock∨∃k,b.ownBlock=X k/\w.heap.size<=k)->wpList prog d Q e (a.put o.dst b) w'):wpList prog d Q (o::e) a w:=by
 refine wpList_plain y λK q=>?_;obtain⟨b,w',C,g,j,l,m⟩:=tJ w base i z H E t v n c B s p u r;unfold Oper.wp execOp;simp only[A,F,resolve,invoke,builtin,Sem.run_bind,Sem.run_pure,Result.andThen_ok,List.map_toArray,List.map_cons,List.map_nil,D,G,C];exact q _ _ (h b w' g j l m)
theorem q8(l:Bs):Lib.strCells ⟨l.toArray⟩=bw l:=by simp[Lib.strCells,bw]
theorem iI(a b:Bs):bw (a++b)=bw a++bw b:=by simp[bw]
theorem sI(B b:Nat)(g:Option Nat)(l:Bs)(w:bk)(h:Bld B b g l w):bO prog 161 #[b8 (X ⟨b,0,Y⟩)] w λe w'=>e=b6 (.tuple #[])/\(∃v,w'.heap[b]?=X (bb #[b8 (X ⟨b,0,Y⟩),v] 187 (0,0))/\w'.ownsRow B 5 1 v l.length (bw l)/\v.ownBlock=g/\(l=[]->v=b9 Y 0 0))/\w'.heap.size=w.heap.size/\Fr b Y w w':=by
 obtain⟨j,p,v,a,m,f,d,hn⟩:=h;have c:w.cell? ⟨b,0,Y⟩=X p:=by rw[bB a];rfl
 rcases m with rfl|rfl
 .refine(li b w c (by simp[World.shape?,a]) (cu a 0)).mono ?_;rintro e w'⟨rfl,rfl⟩;refine⟨rfl,⟨v,?_,ownsRow_setCell_below f j _,d,hn⟩,by simp,⟨rfl,rfl,rfl,by simp,λk _ i _=>c4 _ _ _ _ i⟩⟩;simp only[cz,ch,if_true,a];rfl
 refine(mK b w c).mono ?_;rintro e w'⟨rfl,rfl⟩;exact⟨rfl,⟨v,a,f,d,hn⟩,rfl,Fr.refl _ _ _⟩
theorem oO{B b:Nat}{w1 c:bk}{p v a:bA}{d:Bs}(h:b<B)(w:p=b8 (X ⟨b,0,Y⟩))(f:w1.heap[b]?=X (bb #[p,v] 187 (0,0)))(u:∀k,v.ownBlock=X k->B<=k)
 (i:c.ownsRow B 5 1 a d.length (bw d))(m:w1.grownBy c v.ownBlock)(hn:d=[]->a=b9 Y 0 0):
 Bld B b a.ownBlock d (c.setCell ⟨b,1,Y⟩ a)/\Fr b v.ownBlock w1 (c.setCell ⟨b,1,Y⟩ a):=by
 obtain⟨s,y,t,x,g⟩:=m;have l:b<w1.heap.size:=(Array.getElem?_eq_some_iff.mp f).1;have r:X b≠v.ownBlock:=λe=>by have:=u b e.symm;omega
 have j:c.heap[b]?=X (bb #[p,v] 187 (0,0)):=by rw[g b l r,f]
 refine⟨⟨h,⟨p,a,?_,.inr w,ownsRow_setCell_below i h _,rfl,hn⟩⟩,⟨s,y,t,by simpa using x,λk n o q=>?_⟩⟩
 .simp only[cz,ch,if_true,j];rfl
 rw[c4 _ _ _ _ o];exact g k n q
theorem jA{w:bk}{B:Nat}{e:TypeId}{k:Nat}{v:bA}{n:Nat}{d:List bA}(h:w.ownsRow B e k v n d):∀j,v.ownBlock=X j->B<=j/\j<w.heap.size:=by
 intro j a;rcases h.2 with⟨rfl,_⟩|⟨g,f,i,rfl,b,c,_⟩
 .cases a
 injection a with a;subst a;exact⟨b,(Array.getElem?_eq_some_iff.mp c).1⟩
theorem Fr.trans{b:Nat}{g c:Option Nat}{x y z:bk}(h:Fr b g x y)(k:Fr b c y z)(i:∀j,c=X j->g=X j∨x.heap.size<=j):Fr b g x z:=
 ⟨k.os.trans h.os,k.tape.trans h.tape,k.output.trans h.output,cm h.size k.size,λj f d hn=>
  (k.block j (Nat.lt_of_lt_of_le f h.size) d (λe=>by rcases i j e.symm with a|a;exact hn a.symm;omega)).trans (h.block j f d hn)⟩
theorem Fr.weak{b:Nat}{g:Option Nat}{x y:bk}(h:Fr b Y x y):Fr b g x y:=⟨h.os,h.tape,h.output,h.size,λj c a _=>h.block j c a (by simp)⟩
theorem zi{B:Nat}{e:TypeId}{k:Nat}{w b:bk}{v:bA}{n:Nat}{d:List bA}{o:Obj}(_:w.ownsRow B e k v n d)(a:(w.alloc o).grownBy b v.ownBlock):w.grownBy b v.ownBlock:=
 ⟨a.os,a.tape,a.output,cm (by simp) a.size,λj c hn=>by rw[a.block j (by simp;omega) hn];exact((bs w.heap.size w).alloc (bc _) o).block j c⟩
theorem sS{B b:Nat}{w1 c:bk}{p v:bA}{n:Nat}{g:List bA}(h:b<B)(a:w1.heap[b]?=X (bb #[p,v] 187 (0,0)))(f:w1.ownsRow B 5 1 v n g)(d:w1.grownBy c v.ownBlock):
 c.heap[b]?=X (bb #[p,v] 187 (0,0)):=by
 rw[d.block b (Array.getElem?_eq_some_iff.mp a).1 (λe=>by have:=(jA f b e.symm).1;omega),a]
theorem gI(B b:Nat)(g:Option Nat)(l s:Bs)(w:bk)(h:Bld B b g l w)(hB:B<=w.heap.size)(hs:l.length+s.length<=100000000000000):
 bO prog 112 #[b8 (X ⟨b,0,Y⟩),S s] w λe w'=>e=b6 (.tuple #[J U s.length,.nilIface])/\∃d,Bld B b d (l++s) w'/\(d=g∨∃k,d=X k/\w.heap.size<=k)/\Fr b g w w':=by
 have P:=Z (sI B b g l w h);have a4:∃i,prog.info? 5=X i/\i.zero=X (J b5 0)/\i.size=1/\i.bytes=1:=by have:=i5;revert this;cases prog.info? 5<;>simp
 obtain⟨i0,A,C,D,E⟩:=a4;have V:=Z A;have W:=Z C;have a0:=Z D;have a1:=Z E;have t:=h.lt;clear h A C D E;have r:=Z hs;go_enter func112,ntmps112
 go_wp2_with (first
  |(go_at_call 161;((with_reducible refine cd (P.o) ?_);rintro e w1⟨rfl,⟨v,f,K,z,hn⟩,L,y⟩;have c1:w1.cell? ⟨b,1,Y⟩=X v:=(by rw[bB f];rfl);have p:=Z f;have c:=Z K;have q:=Z z;have HN:=Z hn;have u:=Z L;have R:=Z y;clear f K z hn L y))
  |(at_builtin;refine nj rfl _ _ rfl rfl B i0 V.o W.o a0.o a1.o v l.length _ rfl c.o ⟨s.toArray⟩ rfl (by have:=r.o;unfold maxLen;simp[bY];omega) (by have:=r.o;simp[bY];omega) (by have:=u.o;omega) ?_;intro v' M o n H a;obtain⟨va,vc,rfl⟩:=aG o;have m:=sS t p.o c.o n;have c2:M.cell? ⟨b,1,Y⟩=X v:=(by rw[bB m];rfl);have f2:M.frozen? ⟨b,1,Y⟩=false:=cu m 1;clear m;have a3:=Z o;have T:=Z n;have a2:=Z H;have Q:=Z a;clear o n H a))
 go_ret2;have F:l.length+bY ⟨s.toArray⟩=(l++s).length:=by simp[bY]
 have I:=a3.o;rw[q8,<- iI,F]at I;have G:l++s=[]->bd va (l.length+bY ⟨s.toArray⟩) vc=b9 Y 0 0:=λe=>by
  have x:l=[]:=by cases l;rfl;simp at e
  have h2:s=[]:=by subst x;simpa using e
  exact a2.mpr ⟨HN x,by subst h2;rfl⟩
 rw[F]at G;obtain⟨N,O⟩:=oO t rfl p.o (λk hk=>(jA c.o k hk).1) I T.o G;simp only[cs]at N O;refine⟨?_,_,N,?_,R.weak.trans (q.o▸O) (λj hj=>.inl hj)⟩
 .simp
 have a:=Q.o;rw[q.o,u.o]at a;simpa[bY]using a
theorem BG(B b:Nat)(g:Option Nat)(l:Bs)(c:UInt8)(w:bk)(h:Bld B b g l w)(hB:B<=w.heap.size)(hs:l.length<=100000000000000):
 bO prog 160 #[b8 (X ⟨b,0,Y⟩),J b5 c.toNat] w λe w'=>e=b6 .nilIface/\∃f,Bld B b f (l++[c]) w'/\(f=g∨∃k,f=X k/\w.heap.size<=k)/\Fr b g w w':=by
 have M:=Z (sI B b g l w h);have a1:∃i,prog.info? 5=X i/\i.zero=X (J b5 0)/\i.size=1/\i.bytes=1:=by have:=i5;revert this;cases prog.info? 5<;>simp
 obtain⟨i0,A,C,D,E⟩:=a1;have Q:=Z A;have R:=Z C;have T:=Z D;have V:=Z E;have t:=h.lt;clear h A C D E;have s:=Z hs;go_enter func160,ntmps160
 go_wp2_with (first
  |(go_at_call 161;((with_reducible refine cd (M.o) ?_);rintro e w1⟨rfl,⟨v,m,G,y,hn⟩,H,x⟩;have c1:w1.cell? ⟨b,1,Y⟩=X v:=(by rw[bB m];rfl);have q:=Z m;have d:=Z G;have r:=Z y;have HN:=Z hn;have u:=Z H;have O:=Z x;clear m G y hn H x))
  |(at_builtin;refine wpList_append_own_at _ rfl _ _ 76 rfl B 5 i0 (J b5 0) 1 1 underlying76 Q.o R.o T.o V.o rfl (by omega) v l.length _ rfl (d.o.alloc _) ⟨w1.heap.size,0,Y⟩ 1 1 [J b5 c.toNat] rfl rfl (cell_one_new _ _ _) (by simp[Value.oneCell']) (by have:=s.o;unfold maxLen;omega) (by have:=s.o;omega) (by have:=u.o;simp;omega) ?_;intro v' I p z a0 a;obtain⟨va,vc,rfl⟩:=aG p;have o:=zi d.o z;have n:=sS t q.o d.o o;have c2:I.cell? ⟨b,1,Y⟩=X v:=(by rw[bB n];rfl);have f2:I.frozen? ⟨b,1,Y⟩=false:=cu n 1;clear n;have W:=Z p;have P:=Z o;have N:=Z a;clear p o z a0 a))
 go_ret;have F:=W.o;rw[show bw l++[cx b5 c.toNat]=bw (l++[c])from by rw[iI];rfl,show l.length+1=(l++[c]).length from by simp]at F;obtain⟨K,L⟩:=oO t rfl q.o (λk hk=>(jA d.o k hk).1) F P.o (λe=>by simp at e);simp only[cs,List.length_singleton]at K L;refine⟨rfl,_,K,?_,O.weak.trans (r.o▸L) (λj hj=>.inl hj)⟩;have a:=N.o;rw[r.o]at a;rcases a with a|a
 .exact .inl a
 refine .inr ⟨_,a,?_⟩;have:=u.o;simp;omega
theorem pU(B b:Nat)(g:Option Nat)(l:Bs)(w:bk)(h:Bld B b g l w):
 bO prog 114 #[b8 (X ⟨b,0,Y⟩)] w λe w'=>e=b6 (J U l.length)/\w'=w:=by
 obtain⟨k,p,v,c,j,d,i,hn⟩:=h;obtain⟨a,f,rfl⟩:=aG d;have c1:w.cell? ⟨b,1,Y⟩=X (b9 a l.length f):=by rw[bB c];rfl
 clear d hn i j c;go_enter func114,ntmps114;go_wp2_with fail;go_ret;exact⟨rfl,rfl⟩
def xO(g:Option Nat)(n:Nat)(w w':bk):Prop:=w'=w.drew∨∃k,g=X k/\w'=w.drew.freeze ⟨k,0,Y⟩ n
theorem wX(b k n:Nat)(w:bk):Fr b (X k) w (w.freeze ⟨k,0,Y⟩ n):=by
 unfold World.freeze;split
 .exact⟨rfl,rfl,rfl,bc _,λ_ _ _ _=>rfl⟩
 refine⟨rfl,rfl,rfl,by simp,λj _ _ a=>?_⟩;have:k≠j:=λe=>a (by rw[e]);simp[ch,this]
theorem xO.fr{g:Option Nat}{n:Nat}{w w':bk}(b:Nat)(h:xO g n w w'):Fr b g w w':=by
 rcases h with rfl|⟨k,rfl,rfl⟩
 .exact⟨rfl,rfl,rfl,bc _,λ_ _ _ _=>rfl⟩
 have h:=wX b k n w.drew;exact⟨h.os,h.tape,h.output,h.size,h.block⟩
theorem fu(B b:Nat)(g:Option Nat)(l:Bs)(w:bk)(h:Bld B b g l w)(K:l.length<=100000000000000):
 bO prog 115 #[b8 (X ⟨b,0,Y⟩)] w λe w'=>e=b6 (S l)/\xO g l.length w w':=by
 obtain⟨H,p,v,c,s,d,i,hn⟩:=h;have L:prog.follows Departure.mixedOrders=true:=by kernel_rfl
 rcases d.2 with⟨rfl,D⟩|⟨k,a,f,rfl,G,r,I,z,o,E⟩
 .obtain rfl:l=[]:=cv D;have c1:w.drew.cell? ⟨b,1,Y⟩=X (b9 Y 0 0):=by have:w.drew.heap[b]?=X (bb #[p,b9 Y 0 0] 187 (0,0)):=c;rw[bB this];rfl
  have u:(Builtin.unsafeSliceData_ #[76] 233 #[b9 Y 0 0]).run prog w.drew=.ok (b8 Y) w.drew:=rfl;have y:(Builtin.unsafeString_ #[233,3] 9 #[b8 Y,J U 0]).run prog w.drew=.ok (.string .empty) w.drew:=Lib.run_unsafeString_none w.drew _ _ _ _;clear d hn i s c;go_enter func115,ntmps115;go_wp2;go_region_o
  all_goals(go_wp2;go_ret;exact⟨rfl,.inl rfl⟩)
 have m:l≠[]:=λe=>by cases hn e
 have n:a≠0:=by
  have:l.length≠0:=by simpa using m
  omega
 have A:f.size=a:=by simpa using o
 have c1:w.drew.cell? ⟨b,1,Y⟩=X (b9 (X ⟨k,0,Y⟩) l.length a):=by have:w.drew.heap[b]?=X (bb #[p,b9 (X ⟨k,0,Y⟩) l.length a] 187 (0,0)):=c;rw[bB this];rfl
 have u:(Builtin.unsafeSliceData_ #[76] 233 #[b9 (X ⟨k,0,Y⟩) l.length a]).run prog w.drew=.ok (b8 (X ⟨k,0,Y⟩)) w.drew:=Lib.run_unsafeSliceData_row _ _ _ _ _ _ n;have y:(Builtin.unsafeString_ #[233,3] 9 #[b8 (X ⟨k,0,Y⟩),J U l.length]).run prog w.drew=.ok (.string ⟨l.toArray⟩) (w.drew.freeze ⟨k,0,Y⟩ l.length):=by refine Lib.run_unsafeString_row w.drew 233 3 9 5 underlying233 (by kernel_rfl) k f.size (by have C:w.drew.heap[k]?=X (bb f 5 (0,0)):=r;simp[World.shape?,C]) l m (by omega) (by omega) ?_;intro j x F;have:=d.cells (g:=k) rfl j (J b5 x.toNat) (by simp[bw,F]);exact this
 have q:∀w',w'=w.drew.freeze ⟨k,0,Y⟩ l.length->xO g l.length w w':=λw' e=>.inr ⟨k,i▸rfl,e⟩;have t:=Z q;clear d hn i s c n z o E q r A;generalize hN:(l.length:Int)=N at*;go_enter func115,ntmps115;go_wp2;go_region_o
 all_goals(go_wp2;go_ret;exact⟨rfl,t _ rfl⟩)
attribute [local go_sem ↓] Go.wp_at_zero Go.wp_at_succ
theorem lF(w:bk)(b B:Nat)(c:b=w.heap.size)(a:b<B):Bld B b Y [] (w.alloc (cb #[b8 Y,b9 Y 0 0] 187)):=by
 subst c;exact⟨a,⟨b8 Y,b9 Y 0 0,Array.getElem?_push_size,.inl rfl,c5 _ _ _ _,rfl,λ_=>rfl⟩⟩
theorem Fr.cell{b:Nat}{g:Option Nat}{w w':bk}(h:Fr b g w w'){q:Nat}(e:q<w.heap.size)(c:q≠b)(d:X q≠g)(o:Nat):w'.cell? ⟨q,o,Y⟩=w.cell? ⟨q,o,Y⟩:=
 cp (a:=⟨q,o,Y⟩) (h.block q e c d)
theorem Bld.row{B b:Nat}{g:Option Nat}{l:Bs}{w:bk}(h:Bld B b g l w):∀k,g=X k->B<=k/\k<w.heap.size:=by
 obtain⟨_,p,v,_,_,c,a,_⟩:=h;subst a;exact jA c
theorem Bld.old{B b:Nat}{g:Option Nat}{l:Bs}{w:bk}(h:Bld B b g l w):b<w.heap.size:=by
 obtain⟨_,p,v,a,_⟩:=h;exact(Array.getElem?_eq_some_iff.mp a).1
theorem Bld.keep{B b:Nat}{g:Option Nat}{l:Bs}{w w':bk}(h:Bld B b g l w)(f:w'.heap[b]?=w.heap[b]?)(i:∀k,g=X k->w'.heap[k]?=w.heap[k]?):Bld B b g l w':=by
 obtain⟨n,p,v,s,q,o,rfl,hn⟩:=h;refine⟨n,p,v,f.trans s,q,?_,rfl,hn⟩;obtain⟨e,a⟩:=o;refine⟨e,?_⟩;rcases a with a|⟨k,c,d,rfl,m,j,r⟩
 .exact .inl a
 exact .inr ⟨k,c,d,rfl,m,(i k rfl).trans j,r⟩
theorem Bld.alloc{B b:Nat}{g:Option Nat}{l:Bs}{w:bk}(h:Bld B b g l w)(o:Obj):Bld B b g l (w.alloc o):=
 h.keep ((aX w o).block b h.old) (λk a=>(aX w o).block k (h.row k a).2)
theorem Bld.below{B b:Nat}{g:Option Nat}{l:Bs}{w w':bk}(h:Bld B b g l w)(k:Bw w w'):Bld B b g l w':=
 h.keep (k.block b h.old) (λj a=>k.block j (h.row j a).2)
theorem qB(B b:Nat)(g:Option Nat)(l:Bs)(c:UInt8)(n:Int)(hn:n=c.toNat)(w:bk)(h:Bld B b g l w)(d:B<=w.heap.size)(f:l.length<=100000000000000):
 bO prog 160 #[b8 (X ⟨b,0,Y⟩),J b5 n] w λe w'=>e=b6 .nilIface/\∃a,Bld B b a (l++[c]) w'/\(a=g∨∃k,a=X k/\w.heap.size<=k)/\Fr b g w w':=by
 subst hn;exact BG B b g l c w h d f
theorem AM{g a:Option Nat}{q n:Nat}(h:X q≠g)(b:a=g∨∃k,a=X k/\n<=k)(d:q<n):X q≠a:=by
 rcases b with rfl|⟨k,rfl,c⟩
 .exact h
 intro e;injection e;omega
theorem Bld.fr{B b lo:Nat}{g:Option Nat}{l:Bs}{w w':bk}(h:Bld B b g l w)(f:Fr b g w w')(c:lo<=b):Below lo w w':=
 f.below c (λk a=>by have:=(h.row k a).1;have:=h.lt;omega) (by have:=h.old;omega)
theorem zQ(f:af)(d:bA)(w:bk)(hs:aw 0 w.heap.size w d f.subs)(L:(fieldBytes f).length<=1000000)(hn:f.subs.length<=1000000):
 bO prog 111 #[fieldV f d] w λe w'=>e=b6 (S (fieldBytes f))/\Bw w w':=by
 obtain⟨v,l,j,c⟩:=f;have b2:j.length+l.length<=1000000:=by simp[fieldBytes]at L;omega
 have Q:=Z L;have HS:=Z hs;obtain⟨a,F,rfl,_⟩:=hs;clear L;unfold fieldV;have O:=Z (λo=>lF (w.alloc o) (w.heap.size+1) (w.heap.size+2) (by simp) (by omega));go_enter func111,ntmps111;go_wp2_with (go_at_call 112;((with_reducible refine cd (gI (w.heap.size+2) (w.heap.size+1) Y [] (j++l) _ (O.o _) (by simp) (by simp;omega)) ?_);rintro e w1⟨rfl,g1,a0,ao,K⟩;have c3:=K.cell (q:=w.heap.size) (by simp;omega) (by omega) (by simp) 3))
 have a5:=Z a0;have a7:Hid (Below (w.heap.size+1) (w.alloc (cb #[S v,S l,S j,bd a c.length F] 123)) w1):=btr ((aX _ _).mono (by simp)) (K.below (B:=w.heap.size+1) (by omega) (by simp) (by simp)) (by simp);clear a0 ao K O;go_wp2_with fail
 go_loopw [15] (λi wr=>∃(k:Nat)(h:Bs)(g:Option Nat),k<=c.length/\i=J U k/\Hid (h=j++l++(c.take k).flatMap aR)/\h.length<1000000/\
  Hid (Bld (w.heap.size+2) (w.heap.size+1) g h wr)/\Below (w.heap.size+1) (w.alloc (cb #[S v,S l,S j,bd a c.length F] 123)) wr) (λi _=>c.length-(intOf i).toNat)
 case atStart=>exact⟨0,j++l,g1,cg _,rfl,(by simp[Hid]),(by have:=bN ⟨v,l,j,c⟩ 0;have:=Q.o;simp at*;omega),a5,a7.o⟩
 obtain⟨k,h,g,hk,rfl,N,b0,n,I⟩:=hrel;by_cases hlt:k<c.length;rotate_left
 .have al:Hid (fieldBytes ⟨v,l,j,c⟩=h++[30]):=by rw[N.o,bl (by omega)];simp[fieldBytes,Hid]
  have m:Hid (w.heap.size+2<=wr.heap.size):=by have:=n.o.old;show _<=_;omega
  go_wp2_with (first
   |(go_at_call 160;((with_reducible refine cd (qB (w.heap.size+2) (w.heap.size+1) g h 30 _ (by decide) _ n.o (by exact m.o) (by omega)) ?_);rintro e y⟨rfl,x,t,u,p⟩;have s:=Z t;have z:=Z p;clear t u p))
   |(go_at_call 115;((with_reducible refine cd (fu (w.heap.size+2) (w.heap.size+1) x (h++[30]) _ s.o (by simp;omega)) ?_);rintro e M⟨rfl,r⟩;have A:=Z (r.fr (w.heap.size+1));clear r)))
  go_ret;refine⟨vk al.symm,?_⟩;have G:=n.fr z.o (lo:=w.heap.size+1) (bc _);have H:=s.fr A.o (lo:=w.heap.size+1) (bc _);exact btr (aX w _) ((I.trans G).trans H) (by omega)
 have a3:aw 0 w.heap.size wr (bd a c.length F) c:=(HS.o.kept (aY ((bs _ w).alloc (bc _) _) (bc _))).kept (aY I (by omega));obtain⟨b,b4,aT,hv,b1,_,ht,hx⟩:=a3.sub k hlt;cases hv;have R:Hid (h++(31::c[k].code::c[k].text)=j++l++(c.take (k+1)).flatMap aR):=by rw[km _ _ _ hlt,N.o];simp[Hid,aR]
 have b3:h.length+2+c[k].text.length<1000000:=by have:=bN ⟨v,l,j,c⟩ (k+1);simp only at this;rw[<- R.o]at this;have:=Q.o;simp at*;omega
 generalize c[k].text=T at*;generalize c[k].code=C at*;have ay:=Z n.old;have a9:=Z n.row;clear a3;have m:Hid (w.heap.size+2<=wr.heap.size):=by have:=n.o.old;show _<=_;omega
 have D:Hid (X wr.heap.size≠g):=λe=>by have:=(a9.o _ e.symm).2;omega
 go_wp2_with (first
  |(go_at_call_of 160 (cx cQ 31);((with_reducible refine cd (qB (w.heap.size+2) (w.heap.size+1) g h 31 _ (by decide) _ (n.o.alloc _) (by have:=m.o;simp;omega) (by omega)) ?_);rintro e y⟨rfl,x,t,u,p⟩;have a2:X wr.heap.size≠x:=AM D.o u (by simp);have aC:y.cell? ⟨wr.heap.size,0,Y⟩=X (J b5 C.toNat):=(by rw[p.cell (by simp) (by have:=m.o;omega) D.o];go_simp);have ad:y.cell? ⟨wr.heap.size,1,Y⟩=X (S T):=(by rw[p.cell (by simp) (by have:=m.o;omega) D.o];go_simp);have E:Hid (wr.heap.size<y.heap.size):=(by have:=p.size;simp at this;exact this);have s:=Z t;have ax:=Z u;have z:=Z p;have a8:=Z a2;clear t u p a2))
  |(go_at_call_of 160 (cx cQ C.toNat);((with_reducible refine cd (qB (w.heap.size+2) (w.heap.size+1) x (h++[31]) C _ (by rfl) _ s.o (by have:=m.o;have:=E.o;omega) (by simp;omega)) ?_);rintro e M⟨rfl,g3,V,au,r⟩;have aS:M.cell? ⟨wr.heap.size,1,Y⟩=X (S T):=(by rw[r.cell E.o (by have:=m.o;omega) a8.o];exact ad);have ac:Hid (wr.heap.size<M.heap.size):=Nat.lt_of_lt_of_le E.o r.size;have P:=Z V;have A:=Z r;clear V au r))
  |(go_at_call 112;((with_reducible refine cd (gI (w.heap.size+2) (w.heap.size+1) g3 (h++[31]++[C]) T _ P.o (by have:=m.o;have:=ac.o;omega) (by simp;omega)) ?_);rintro e w4⟨rfl,g4,W,av,a1⟩;have a4:=Z W;have a6:=Z a1;clear W av a1)))
 go_roundw
 case rel=>
  refine⟨k+1,h++[31]++[C]++T,g4,by omega,by go_num,?_,by simp;omega,a4,?_⟩
  .rw[<- R.o];simp[Hid]
  have G:=(n.alloc _).fr z.o (lo:=w.heap.size+1) (bc _);have H:=s.fr A.o (lo:=w.heap.size+1) (bc _);have h4:=P.fr a6.o (lo:=w.heap.size+1) (bc _);exact(((I.alloc (by have:=m.o;omega) _).trans G).trans H).trans h4
 simp[intOf];omega
end
section
open Go.RowKit
theorem gk(w:bk)(a:Addr)(d:Nat)(l:List Int)(g:∀j(c:j<l.length),w.cell? (a.add j)=X (J b5 l[j])):
 (convert 76 9 (b9 (X a) l.length d)).run prog w=.ok (S (l.map λn=>bv n.toNat)) w:=by
 rw[run_convert_bytes_string w 76 9 5 (X a) l.length d underlying76 underlying5 underlying9];have f:=run_loadCells_list (P:=prog) w a (l.map (cx b5)) (λj v c=>by
  have e:j<l.length:=by have:=(List.getElem?_eq_some_iff.1 c).1;simpa using this
  rw[g j e];simp[List.getElem?_eq_getElem e]at c;rw[<- c])
 simp only[List.length_map]at f;rw[run_bytesToString w a l.length d _ f];have:∀(l:List Int)(r:ByteArray),l.foldl (λr n=>r.push (bv n.toNat)) r=⟨r.data++(l.map λn=>bv n.toNat).toArray⟩:=by
  intro l;induction l with
  |nil=>intro r;simp
  |cons b l ih=>intro r;simp only[List.foldl_cons,List.map_cons];rw[ih];simp[ByteArray.push]
 rw[this];have h:ByteArray.empty.data= #[]:=rfl;rw[h];simp
theorem zH(w:bk)(b:Nat)(c:Int)(h:w.cell? ⟨b,0,Y⟩=X (J b5 c)):
 (convert 76 9 (b9 (X ⟨b,0,Y⟩) 1 1)).run prog w=.ok (S [bv c.toNat]) w:=by
 have:=gk w ⟨b,0,Y⟩ 1 [c] (λj a=>by
  have:j=0:=by simpa using a
  subst this;simpa[cl]using h)
 simpa using this
theorem zG(w:bk)(b:Nat)(c d:Int)(a:w.cell? ⟨b,0,Y⟩=X (J b5 c))(e:w.cell? ⟨b,1,Y⟩=X (J b5 d)):
 (convert 76 9 (b9 (X ⟨b,0,Y⟩) 2 2)).run prog w=.ok (S [bv c.toNat,bv d.toNat]) w:=by
 have:=gk w ⟨b,0,Y⟩ 2 [c,d] (λj f=>by
  have:j=0∨j=1:=by simp at f;omega
  rcases this with rfl|rfl
  .simpa[cl]using a
  simpa[cl]using e)
 simpa using this
open Classical in
noncomputable def cv1 (x:Option bA) (w:bk) (b:Nat):Result bA:=
 if x=w.cell? ⟨b,0,Y⟩then(convert 76 9 (b9 (X ⟨b,0,Y⟩) 1 1)).run prog w
 else match x with
  |some (J b5 c)=>.ok (S [bv c.toNat]) w
  |_=>(convert 76 9 (b9 (X ⟨b,0,Y⟩) 1 1)).run prog w
theorem xr(w:bk)(b:Nat):(convert 76 9 (b9 (X ⟨b,0,Y⟩) 1 1)).run prog w=cv1 (w.cell? ⟨b,0,Y⟩) w b:=by unfold cv1;rw[if_pos rfl]
theorem zF(c:Int)(w:bk)(b:Nat):cv1 (X (J b5 c)) w b=.ok (S [bv c.toNat]) w:=by
 unfold cv1;split
 .rename_i h;exact zH w b c h.symm
 rfl
open Classical in
noncomputable def cv2 (x y:Option bA) (w:bk) (b:Nat):Result bA:=
 if x=w.cell? ⟨b,0,Y⟩/\y=w.cell? ⟨b,1,Y⟩then(convert 76 9 (b9 (X ⟨b,0,Y⟩) 2 2)).run prog w
 else match x,y with
  |some (J b5 c),X (J b5 d)=>.ok (S [bv c.toNat,bv d.toNat]) w
  |_,_=>(convert 76 9 (b9 (X ⟨b,0,Y⟩) 2 2)).run prog w
theorem xq(w:bk)(b:Nat):(convert 76 9 (b9 (X ⟨b,0,Y⟩) 2 2)).run prog w=cv2 (w.cell? ⟨b,0,Y⟩) (w.cell? ⟨b,1,Y⟩) w b:=by unfold cv2;rw[if_pos ⟨rfl,rfl⟩]
theorem zE(c d:Int)(w:bk)(b:Nat):cv2 (X (J b5 c)) (X (J b5 d)) w b=.ok (S [bv c.toNat,bv d.toNat]) w:=by
 unfold cv2;split
 .rename_i h;exact zG w b c d h.1.symm h.2.symm
 rfl
attribute [go_sem] xr zF xq zE
end
section
open Go.RowKit
theorem aE{w w':bk}{E:TypeId}{k lo:Nat}{v:bA}{n:Nat}{b:List bA}(h:w.ownsRow lo E k v n b)(e:Bw w w'):w'.ownsRow lo E k v n b:=by
 refine⟨h.1,?_⟩;rcases h.2 with hn|⟨g,c,d,j,f,a,i⟩
 .exact .inl hn
 refine .inr ⟨g,c,d,j,f,?_,i⟩;rw[e.block g (Array.getElem?_eq_some_iff.1 a).1];exact a
theorem mS(w:bk)(x y z:bA)(t:TypeId):∀j v,[x,y,z][j]?=X v->(w.alloc (bb #[x,y,z] t)).cell? ((⟨w.heap.size,0,Y⟩:Addr).add j)=X v:=by
 intro j v a;match j,a with
 |0,a=>simp at a;subst a;simp[cl]
 |1,a=>simp at a;subst a;simp[cl]
 |2,a=>simp at a;subst a;simp[cl]
open Go.RowKit
theorem uU(f:af)(i:Nat)(h:i<f.subs.length):f.subs[i].text.length<=(fieldBytes f).length:=by
 have:=bN f (i+1);rw[km _ _ _ h]at this;simp[aR]at this;omega
theorem xY(f:af)(h:bH f.tag=false):wrongF f=13:=by simp[wrongF,h]
theorem uR(f:af)(h:bH f.tag=true)(a:fJ f.tag=true):wrongF f=if ba f.data&&decide (f.ind=[])&&f.subs.isEmpty then 0 else 14:=by simp[wrongF,h,a]
theorem oV(f:af)(h:bH f.tag=true)(a:fJ f.tag=false):wrongF f=if decide (f.data=[])&&iH f.ind&& !f.subs.isEmpty&&f.subs.all dv then 0 else 14:=by simp[wrongF,h,a]
theorem pH(f:af)(d:bA)(w:bk)(h:bH f.tag=false):
 bO prog 166 #[fieldV f d] w λe w'=>e=b6 (J U (wrongF f))/\Bw w w':=by
 have a:=Z (xY f h);obtain⟨i,c,b,g⟩:=f;simp only at h;unfold fieldV;go_enter func166,ntmps166;go_wp2_with (go_at_call 176;refine(fI _ _).mono ?_;rintro e w'⟨rfl,rfl⟩)
 go_ret;exact⟨aI a.symm,(bs _ w).alloc (bc _) _⟩
theorem nr(f:af)(d:bA)(w:bk)(n:∃a g,d=b9 a f.subs.length g)(o:(fieldBytes f).length<=1000000)(h:bH f.tag=true)(b:fJ f.tag=true):
 bO prog 166 #[fieldV f d] w λe w'=>e=b6 (J U (wrongF f))/\Bw w w':=by
 have l:=Z (uR f h b);obtain⟨a,g,rfl⟩:=n;have c:=bN f 0;have k:=iw h;obtain⟨r,t,i,u⟩:=f;simp only at h b c k;have p:i.length<=1000000:=by simp at c;omega
 have q:2<=r.length:=by omega
 clear c k o;unfold fieldV;cases ht:ba i
 all_goals
  go_enter func166,ntmps166
  go_wp2_with first
   |(go_at_call 176;refine(fI _ _).mono ?_;rintro e w'⟨rfl,rfl⟩)
   |(go_at_call 217;refine(eU _ _ q).mono ?_;rintro e w'⟨rfl,rfl⟩)
   |(go_at_call 218;refine(kf _ _ p).mono ?_;rintro e w1⟨rfl,j⟩;obtain⟨b,s⟩:=an j)
  all_goals go_ret
  all_goals refine⟨aI (l.o.trans ?_).symm,btr ((bs _ w).alloc (bc _) _) j (by simp)⟩
  all_goals go_tidy
  all_goals simp_all
  all_goals(try(intro m;subst m;simp at*))
theorem pI(f:af)(d:bA)(w:bk)(r:∃a k,d=b9 a f.subs.length k)(h:bH f.tag=true)(m:fJ f.tag=false)
 (g:(decide (f.data=[])&&iH f.ind&& !f.subs.isEmpty)=false):
 bO prog 166 #[fieldV f d] w λe w'=>e=b6 (J U (wrongF f))/\Bw w w':=by
 have i:Hid (wrongF f=14):=by rw[oV f h m,g];rfl
 obtain⟨a,k,rfl⟩:=r;have n:=iw h;obtain⟨t,b,c,s⟩:=f;simp only at h m n g;have j:2<=t.length:=by omega
 clear n;unfold fieldV;by_cases hd0:c=[];rotate_left
 .have u:(c==[])=false:=by simpa using hd0
  have v:(c !=[])=true:=by simpa using hd0
  have x:c.isEmpty=false:=by simpa using hd0
  go_enter func166,ntmps166
  go_wp2_with first
   |(go_at_call 176;refine(fI _ _).mono ?_;rintro e w'⟨rfl,rfl⟩)
   |(go_at_call 217;refine(eU _ _ j).mono ?_;rintro e w'⟨rfl,rfl⟩)
  go_ret;exact⟨aI i.symm,(bs _ w).alloc (bc _) _⟩
 subst hd0;by_cases hi:b.length=2;rotate_left
 .have y:((b.length:Int)==2)=false:=by simp;omega
  have z:((b.length:Int)!=2)=true:=by simp;omega
  go_enter func166,ntmps166
  go_wp2_with first
   |(go_at_call 176;refine(fI _ _).mono ?_;rintro e w'⟨rfl,rfl⟩)
   |(go_at_call 217;refine(eU _ _ j).mono ?_;rintro e w'⟨rfl,rfl⟩)
  go_ret;exact⟨aI i.symm,(bs _ w).alloc (bc _) _⟩
 obtain⟨p,q,rfl⟩:∃p q,b=[p,q]:=by
  match b,hi with
  |[p,q],_=>exact⟨p,q,rfl⟩
 have o:=Z g;clear g hi;have A:=nL p;have B:=nL q;go_enter func166,ntmps166
 go_wp2_with first
  |(go_at_call 176;refine(fI _ _).mono ?_;rintro e w'⟨rfl,rfl⟩)
  |(go_at_call 217;refine(eU _ _ j).mono ?_;rintro e w'⟨rfl,rfl⟩)
 all_goals first
  |(go_ret;exact⟨aI i.symm,(bs _ w).alloc (bc _) _⟩)
  |(exfalso
    go_tidy
    have l:=o.o
    simp[iH,gg]at l
    simp at*
    have:s=[]:=l (by omega) (by omega) (by omega) (by omega)
    subst this
    simp at*)
theorem np(f:af)(d:bA)(w:bk)(F:aw 0 w.heap.size w d f.subs)(B:(fieldBytes f).length<=1000000)(hn:f.subs.length<=1000000)(h:bH f.tag=true)(z:fJ f.tag=false)
 (l:(decide (f.data=[])&&iH f.ind&& !f.subs.isEmpty)=true):
 bO prog 166 #[fieldV f d] w λe w'=>e=b6 (J U (wrongF f))/\Bw w w':=by
 have x:Hid (wrongF f=if f.subs.all dv then 0 else 14):=by rw[oV f h z,l];rfl
 have D:=iw h;have H:=Z (λi h=>cm (uU f i h) B);obtain⟨r,o,W,c⟩:=f;simp only at h z D l hn;have O:2<=r.length:=by omega
 simp only[Bool.and_eq_true,decide_eq_true_eq,Bool.not_eq_true']at l;obtain⟨⟨rfl,m⟩,G⟩:=l;have A:o.length=2:=by simp[iH]at m;exact m.1
 obtain⟨p,q,rfl⟩:∃p q,o=[p,q]:=by
  match o,A with
  |[p,q],_=>exact⟨p,q,rfl⟩
 simp[iH,gg]at m;obtain⟨⟨a0,a1⟩,a2,a3⟩:=m;have a4:0<c.length:=by cases c with|nil=>simp at G|cons _ _=>simp
 have a5:((c.length:Int)==0)=false:=beq_eq_false_iff_ne.2 (by omega);have I:=Z F;obtain⟨a,n,rfl,_⟩:=F;clear B D G A;unfold fieldV;go_enter func166,ntmps166
 go_wp2_with first
  |(go_at_call 176;refine(fI _ _).mono ?_;rintro e w'⟨rfl,rfl⟩)
  |(go_at_call 217;refine(eU _ _ O).mono ?_;rintro e w'⟨rfl,rfl⟩)
 go_loopw [5,6] (λi t wr=>∃(k:Nat),k<=c.length/\i=J U k/\Hid ((c.take k).all dv=true)/\
  Below (w.heap.size+1) (w.alloc (cb #[S r,S [p,q],S [],bd a c.length n] 123)) wr) (λi _ _=>c.length-(intOf i).toNat)
 case atStart=>exact⟨0,cg _,rfl,rfl,bs _ _⟩
 obtain⟨k,hk,rfl,s,g⟩:=hrel;have L:wr.cell? ⟨w.heap.size,3,Y⟩=X (bd a c.length n):=by rw[g.cell (p:=⟨w.heap.size,3,Y⟩) (by simp)];go_simp
 by_cases hlt:k<c.length;rotate_left
 .go_wp2_with fail;go_ret;refine⟨aI (x.o.trans ?_).symm,btr ((bs _ w).alloc (bc _) _) g (by omega)⟩;rw[if_pos (by rw[<- s.o,bl (by omega)])]
 have P:aw 0 w.heap.size wr (bd a c.length n) c:=(I.o.kept (aY ((bs _ w).alloc (bc _) _) (bc _))).kept (aY g (by omega));obtain⟨b,a6,V,R,_,_,Q,hx⟩:=P.sub k hlt;cases R;have E:c[k].text.length<=1000000:=H k hlt;have K:Hid ((c.take (k+1)).all dv=(ba c[k].text&&fd c[k].code)):=by rw[cc hlt,List.all_append,s.o];simp[Hid,dv]
 have u:Hid (dv c[k]=false->wrongF ⟨r,[p,q],[],c⟩=14):=by intro h;rw[x.o,if_neg];intro y;rw[List.all_eq_true]at y;have:=y _ (cn hlt);simp[h]at this
 have v:Hid (dv c[k]=(ba c[k].text&&fd c[k].code)):=rfl;have h1:w.heap.size<wr.heap.size:=bD L;have h2:b<wr.heap.size:=bD Q;generalize c[k].text=T at*;generalize c[k].code=C at*;cases ht1:ba T
 .go_wp2_with (go_at_call 218;refine(kf _ _ E).mono ?_;rintro e w1⟨rfl,j⟩;obtain⟨M,N⟩:=an j)
  go_ret;exact⟨aI (u.o (by rw[v.o,ht1];rfl)).symm,btr ((bs _ w).alloc (bc _) _) (btr g j (by omega)) (by omega)⟩
 cases hs2:fd C
 all_goals
  go_wp2_with first
   |(go_at_call 218;refine(kf _ _ E).mono ?_;rintro e w1⟨rfl,j⟩;obtain⟨M,N⟩:=an j)
   |(go_at_call 219;refine(Aj _ _).mono ?_;rintro e w'⟨rfl,rfl⟩)
 .go_ret;exact⟨aI (u.o (by rw[v.o,ht1,hs2];rfl)).symm,btr ((bs _ w).alloc (bc _) _) (btr g j (by omega)) (by omega)⟩
 go_roundw
 case rel=>exact⟨k+1,by omega,by go_num,by rw[K.o,ht1,hs2];rfl,btr g j (by omega)⟩
 simp[intOf];omega
theorem rv(f:af)(d:bA)(w:bk)(i:aw 0 w.heap.size w d f.subs)(g:(fieldBytes f).length<=1000000)(hn:f.subs.length<=1000000):
 bO prog 166 #[fieldV f d] w λe w'=>e=b6 (J U (wrongF f))/\Bw w w':=by
 have c:∃a b,d=b9 a f.subs.length b:=by obtain⟨a,b,h,_⟩:=i;exact⟨a,b,h⟩
 cases h:bH f.tag
 .exact pH f d w h
 cases hc:fJ f.tag
 .cases hg:(decide (f.data=[])&&iH f.ind&& !f.subs.isEmpty)
  .exact pI f d w c h hc hg
  exact np f d w i g hn h hc hg
 exact nr f d w c g h hc
theorem ap(w:bk)(o:Obj):Bw w (w.alloc o):=(bs _ w).alloc (bc _) o
theorem nI(r:aA)(h:(letterB r.kind&&letterB r.level)=false):wrongR r=12:=by
 unfold wrongR;rw[if_pos];cases h1:letterB r.kind<;>cases h2:letterB r.level<;>simp_all
theorem qK(r:aA)(h:letterB r.kind=true)(a:letterB r.level=true)(b:aO r.fields≠0):wrongR r=aO r.fields:=by
 simp[wrongR,h,a,b]
theorem oT(r:aA)(h:letterB r.kind=true)(a:letterB r.level=true)(b:aO r.fields=0):
 wrongR r=if bP r.fields||decide (999<r.fields.length)||decide (99999<sizeOf r.fields)then 2 else 0:=by
 simp[wrongR,h,a,b]
theorem kY(r:aA)(x:bA)(w:bk)(h:(letterB r.kind&&letterB r.level)=false):
 bO prog 122 #[ep r x] w λe w'=>e=b6 (J U (wrongR r))/\Bw w w':=by
 have a:=Z (nI r h);obtain⟨b,c,d⟩:=r;simp only at h;unfold ep;cases hk:letterB b
 .go_enter func122,ntmps122;go_wp2_with (go_at_call 165;refine(j8 _ _).mono ?_;rintro e w'⟨rfl,rfl⟩)
  go_ret;exact⟨aI a.symm,ap _ _⟩
 have f:letterB c=false:=by simpa[hk]using h
 clear h;go_enter func122,ntmps122;go_wp2_with (go_at_call 165;refine(j8 _ _).mono ?_;rintro e w'⟨rfl,rfl⟩)
 go_ret;exact⟨aI a.symm,ap _ _⟩
theorem nh(r:aA)(x:bA)(w:bk)(D:ag 0 w.heap.size w x r.fields)(T:bo r.fields)(h:letterB r.kind=true)(q:letterB r.level=true):
 bO prog 122 #[ep r x] w λe w'=>e=b6 (J U (wrongR r))/\Bw w w':=by
 have H:=Z (qK r h q);have K:=Z (oT r h q);obtain⟨A,B,c⟩:=r;simp only at h q D T;have M:=Z D;obtain⟨a,o,rfl⟩:=D.shape;obtain⟨hn,V⟩:=T;have N:=Z V;clear D V;unfold ep;go_enter func122,ntmps122;go_wp2_with (go_at_call 165;refine(j8 _ _).mono ?_;rintro e w'⟨rfl,rfl⟩)
 go_loopw [3,4] (λi t wr=>∃(k:Nat),k<=c.length/\i=J U k/\Hid (aO (c.take k)=0)/\
  Below (w.heap.size+1) (w.alloc (cb #[J b5 A.toNat,J b5 B.toNat,bd a c.length o] 62)) wr) (λi _ _=>c.length-(intOf i).toNat)
 case atStart=>exact⟨0,cg _,rfl,rfl,bs _ _⟩
 obtain⟨k,Q,rfl,l,g⟩:=hrel;have C:wr.cell? ⟨w.heap.size,2,Y⟩=X (bd a c.length o):=by rw[g.cell (p:=⟨w.heap.size,2,Y⟩) (by simp)];go_simp
 have W:w.heap.size<wr.heap.size:=bD C;by_cases hlt:k<c.length
 .have z:ag 0 w.heap.size wr (bd a c.length o) c:=(M.o.kept (aY (ap w _) (bc _))).kept (aY g (by omega));obtain⟨b,ad,a4,d,G,_,_,a7,a8,a9,ac,y⟩:=z.field k hlt;cases G;have m:=N _ (cn hlt);have v:=cm (ci c[k]) m;have a0:Hid (wrongF c[k]≠0->wrongR ⟨A,B,c⟩=wrongF c[k]):=by intro R;have:=fk c k hlt l.o;rw[if_neg R]at this;rw[H.o (by show aO c≠0;rw[this];exact R)];exact this
  have a1:=Z (gB c k hlt l.o);have u:Hid (aw 0 wr.heap.size wr d c[k].subs):=y.mono (bc _) (by omega);clear y z;generalize hfk:c[k]=f at*;have al:=Z hfk;clear hfk;cases hwf:decide (wrongF f=0);all_goals simp only[decide_eq_true_eq,decide_eq_false_iff_not]at hwf
  .have au:(wrongF f !=0)=true:=by simpa using hwf
   go_wp2_with (go_at_call 166;refine(rv f d _ u.o m v).mono ?_;rintro e w1⟨rfl,j⟩;obtain⟨E,F⟩:=an j)
   go_ret;exact⟨aI (a0.o hwf).symm,btr (ap w _) (btr g j (by omega)) (by omega)⟩
  have O:=Z hwf;clear hwf;go_wp2_with (go_at_call 166;refine(rv f d _ u.o m v).mono ?_;rintro e w1⟨rfl,j⟩;obtain⟨E,F⟩:=an j;rw[O.o])
  go_roundw
  case rel=>exact⟨k+1,by omega,by go_num,a1.o O.o,btr g j (by omega)⟩
  simp[intOf];omega
 have L:Hid (wrongR ⟨A,B,c⟩=if bP c||decide (999<c.length)||decide (99999<sizeOf c)then 2 else 0):=
  K.o (by rw[<- l.o,bl (by omega)])
 go_wp2_with fail;clear l Q hlt C K H;have a5:=g;clear g W
 go_loopw [5,6,7] (λs i t wr=>∃(k n:Nat),k<=c.length/\i=J U k/\s=J U n/\n<=26+k*1000012/\Hid (bP (c.take k)=false)/\Hid (n=sizeOf (c.take k))/\
  Below (w.heap.size+1) (w.alloc (cb #[J b5 A.toNat,J b5 B.toNat,bd a c.length o] 62)) wr) (λ_ i _ _=>c.length-(intOf i).toNat)
 case atStart=>exact⟨0,26,cg _,rfl,rfl,by omega,rfl,rfl,a5⟩
 obtain⟨k,n,Q,rfl,rfl,ao,l,I,g⟩:=hrel;have C:wr.cell? ⟨w.heap.size,2,Y⟩=X (bd a c.length o):=by rw[g.cell (p:=⟨w.heap.size,2,Y⟩) (by simp)];go_simp
 have W:w.heap.size<wr.heap.size:=bD C;by_cases hlt:k<c.length
 .have z:ag 0 w.heap.size wr (bd a c.length o) c:=(M.o.kept (aY (ap w _) (bc _))).kept (aY g (by omega));obtain⟨b,ad,a4,d,G,_,_,a7,a8,a9,ac,y⟩:=z.field k hlt;cases G;have m:=N _ (cn hlt);have v:=cm (ci c[k]) m;have u:Hid (aw 0 wr.heap.size wr d c[k].subs):=y.mono (bc _) (by omega);have HL:=Z (tq c k hlt);have a2:=Z (o6 c k hlt l.o);have a3:=Z (rm c k hlt);clear y z;generalize c[k]=f at*;by_cases hlong:9999<(fieldBytes f).length
  .go_wp2_with (go_at_call 123;refine(sO f d _ u.o m v).mono ?_;rintro e w1⟨rfl,j⟩;obtain⟨E,F⟩:=an j)
   go_ret;refine⟨aI ?_,btr (ap w _) (btr g j (by omega)) (by omega)⟩;rw[L.o,HL.o hlong];rfl
  go_wp2_with (go_at_call 123;refine(sO f d _ u.o m v).mono ?_;rintro e w1⟨rfl,j⟩;obtain⟨E,F⟩:=an j)
  go_roundw
  case rel=>exact⟨k+1,n+12+(fieldBytes f).length,by omega,by go_num,by go_num,by omega,a2.o hlong,by rw[I.o];exact a3.o.symm,btr g j (by omega)⟩
  simp[intOf];omega
 have HT:Hid (wrongR ⟨A,B,c⟩=if decide (999<c.length)||decide (99999<n)then 2 else 0):=by have a6:c.take k=c:=bl (by omega);have P:=l.o;have q:=I.o;rw[a6]at P q;rw[L.o,P,<- q,Bool.false_or];rfl
 go_wp2_with fail;all_goals go_ret
 all_goals refine⟨aI (HT.o.trans ?_).symm,btr (ap w _) g (by omega)⟩
 all_goals go_tidy
 all_goals first|rw[if_pos (by simp;omega)]|rw[if_neg (by simp;omega)]
theorem xT(r:aA)(v:bA)(w:bk)(a:ew 0 w.heap.size w v r)(b:bo r.fields):
 bO prog 122 #[v] w λe w'=>e=b6 (J U (wrongR r))/\Bw w w':=by
 obtain⟨x,rfl,a⟩:=a;cases h:(letterB r.kind&&letterB r.level)
 .exact kY r x w h
 rw[Bool.and_eq_true]at h;exact nh r x w a b h.1 h.2
theorem nA(w:bk)(x y z u:bA)(t:TypeId):∀j v,[x,y,z,u][j]?=X v->(w.alloc (bb #[x,y,z,u] t)).cell? ((⟨w.heap.size,0,Y⟩:Addr).add j)=X v:=by
 intro j v a;match j,a with
 |0,a=>simp at a;subst a;simp[cl]
 |1,a=>simp at a;subst a;simp[cl]
 |2,a=>simp at a;subst a;simp[cl]
 |3,a=>simp at a;subst a;simp[cl]
end
section
open Go.RowKit
open Classical in
noncomputable def fw (f g:af):Bool:=decide (f=g)
theorem j5(f g:af):fw f g=true↔f=g:=by unfold fw;simp
theorem ro{f g:af}(h:f≠g):fw f g=false:=by unfold fw;simp[h]
theorem lh(f g:af)(d c:bA)(w:bk)(k:∃a b,d=b9 a f.subs.length b)(j:∃a b,c=b9 a g.subs.length b)
 (h:f.tag≠g.tag∨f.ind≠g.ind∨f.data≠g.data∨f.subs.length≠g.subs.length):
 bO prog 139 #[fieldV f d,fieldV g c] w λe w'=>e=b6 (b7 (fw f g))/\Bw w w':=by
 have i:Hid (fw f g=false):=ro (by rintro rfl;simp at h);obtain⟨a,b,rfl⟩:=k;obtain⟨l,m,rfl⟩:=j;obtain⟨t,p,n,r⟩:=f;obtain⟨u,q,o,s⟩:=g;simp only at h;unfold fieldV;rw[i.o];have H:=Z h;clear h;go_enter func139,ntmps139;go_wp2_with fail
 all_goals first
  |(go_ret;exact⟨rfl,(ap w _).alloc (by simp) _⟩)
  |(exfalso;go_tidy;have h:=H.o;clear H;simp_all;omega)
theorem js{α:Type}{l m:List α}(k:Nat)(a:k<l.length)(b:k<m.length)(h:l.take k=m.take k)(c:l[k]=m[k]):l.take (k+1)=m.take (k+1):=by
 rw[cc a,cc b,h,c]
theorem ju(s r o:Bs)(f g:List ct)(d c:bA)(w:bk)(M:aw 0 w.heap.size w d f)(L:aw 0 w.heap.size w c g)(hn:f.length<=1000000)
 (h:f.length=g.length):
 bO prog 139 #[fieldV ⟨s,r,o,f⟩ d,fieldV ⟨s,r,o,g⟩ c] w λe w'=>e=b6 (b7 (fw ⟨s,r,o,f⟩ ⟨s,r,o,g⟩))/\Bw w w':=by
 have P:=Z M;have O:=Z L;obtain⟨a,u,rfl,_⟩:=M;obtain⟨C,v,rfl,_⟩:=L;unfold fieldV;have F:=Z h;have a6:((f.length:Int)!=g.length)=false:=by simp[h]
 clear h;go_enter func139,ntmps139;go_wp2_with fail
 go_loopw [5] (λi wr=>∃(k:Nat),k<=f.length/\i=J U k/\Hid (f.take k=g.take k)/\
  Below (w.heap.size+2) ((w.alloc (cb #[S s,S r,S o,bd a f.length u] 123)).alloc (cb #[S s,S r,S o,bd C g.length v] 123)) wr) (λi _=>f.length-(intOf i).toNat)
 case atStart=>exact⟨0,cg _,rfl,rfl,bs _ _⟩
 obtain⟨k,hk,rfl,H,B⟩:=hrel;have a7:wr.cell? ⟨w.heap.size,3,Y⟩=X (bd a f.length u):=by rw[B.cell (p:=⟨w.heap.size,3,Y⟩) (by simp)];go_simp
 have a8:wr.cell? ⟨w.heap.size+1,3,Y⟩=X (bd C g.length v):=by rw[B.cell (p:=⟨w.heap.size+1,3,Y⟩) (by simp)];go_simp
 have x:Bw w wr:=btr ((ap w _).alloc (by simp) _) B (by omega);by_cases hlt:k<f.length;rotate_left
 .go_wp2_with fail;go_ret;refine⟨am ?_,x⟩;symm;rw[j5]
  have A:=H.o;have K:=F.o;rw[bl (by omega),bl (by omega)]at A;rw[A]
 have N:k<g.length:=by rw[<- F.o];exact hlt
 obtain⟨b,l,a4,E,_,_,T,W⟩:=(P.kept (aY x (bc _))).sub k hlt;cases E;obtain⟨j,m,a5,E,_,_,V,a0⟩:=(O.kept (aY x (bc _))).sub k N;cases E;have Q:Hid (f[k]=g[k]->f.take (k+1)=g.take (k+1)):=js k hlt N H.o;have G:Hid (f[k]≠g[k]->fw ⟨s,r,o,f⟩ ⟨s,r,o,g⟩=false):=λR=>ro (by intro D;injection D with _ _ _ D;subst D;exact R rfl);generalize hp:f[k]=p at*;generalize hq:g[k]=q at*;clear hp hq;obtain⟨n,t⟩:=p;obtain⟨y,z⟩:=q;simp only at T W V a0;have a1:(0:Int)<=k:=by omega
 have C:(k:Int)<f.length:=by omega
 have a3:(k:Int)<g.length:=by omega
 by_cases hpc:n=y
 .subst hpc;by_cases hpt:t=z
  .subst hpt;go_wp2_with fail;go_region_held3 (λw'=>w'.cell? ⟨w.heap.size,3,Y⟩=X (bd (X ⟨b,l,Y⟩) f.length u)/\w'.cell? ⟨w.heap.size+1,3,Y⟩=X (bd (X ⟨j,m,Y⟩) g.length v)/\w'.cell? ⟨b,l+k*2,Y⟩=X (J b5 n.toNat)/\w'.cell? ⟨b,l+k*2+1,Y⟩=X (S t)/\w'.cell? ⟨j,m+k*2,Y⟩=X (J b5 n.toNat)/\w'.cell? ⟨j,m+k*2+1,Y⟩=X (S t)) (go_keep) (fail)
   go_wp2_with fail;go_roundw;exact⟨k+1,by omega,by go_num,Q.o (by simp),B.drew⟩;simp[intOf];omega
  have A:(t==z)=false:=by simpa using hpt
  have K:(t !=z)=true:=by simpa using hpt
  go_wp2_with fail;go_region_held3 (λw'=>w'.cell? ⟨w.heap.size,3,Y⟩=X (bd (X ⟨b,l,Y⟩) f.length u)/\w'.cell? ⟨w.heap.size+1,3,Y⟩=X (bd (X ⟨j,m,Y⟩) g.length v)/\w'.cell? ⟨b,l+k*2,Y⟩=X (J b5 n.toNat)/\w'.cell? ⟨b,l+k*2+1,Y⟩=X (S t)/\w'.cell? ⟨j,m+k*2,Y⟩=X (J b5 n.toNat)/\w'.cell? ⟨j,m+k*2+1,Y⟩=X (S z)) (go_keep) (fail)
  go_wp2_with fail;go_ret;exact⟨am (G.o (by simpa using hpt)).symm,x.drew⟩
 have I:¬(n.toNat:Int)=y.toNat:=by intro h;exact hpc (UInt8.toNat_inj.1 (by omega))
 have A:((n.toNat:Int)==y.toNat)=false:=by simpa using I
 have K:((n.toNat:Int)!=y.toNat)=true:=by simpa using I
 go_wp2_with fail;go_region_held3 (λw'=>w'.cell? ⟨w.heap.size,3,Y⟩=X (bd (X ⟨b,l,Y⟩) f.length u)/\w'.cell? ⟨w.heap.size+1,3,Y⟩=X (bd (X ⟨j,m,Y⟩) g.length v)/\w'.cell? ⟨b,l+k*2,Y⟩=X (J b5 n.toNat)/\w'.cell? ⟨b,l+k*2+1,Y⟩=X (S t)/\w'.cell? ⟨j,m+k*2,Y⟩=X (J b5 y.toNat)/\w'.cell? ⟨j,m+k*2+1,Y⟩=X (S z)) (go_keep) (fail)
 go_wp2_with fail;go_ret;exact⟨am (G.o (by simp[hpc])).symm,x.drew⟩
theorem pC(f g:af)(d c:bA)(w:bk)(j:aw 0 w.heap.size w d f.subs)(i:aw 0 w.heap.size w c g.subs)(hn:f.subs.length<=1000000):
 bO prog 139 #[fieldV f d,fieldV g c] w λe w'=>e=b6 (b7 (fw f g))/\Bw w w':=by
 have m:∃a b,d=b9 a f.subs.length b:=by obtain⟨a,b,h,_⟩:=j;exact⟨a,b,h⟩
 have l:∃a b,c=b9 a g.subs.length b:=by obtain⟨a,b,h,_⟩:=i;exact⟨a,b,h⟩
 by_cases h:f.tag≠g.tag∨f.ind≠g.ind∨f.data≠g.data∨f.subs.length≠g.subs.length
 .exact lh f g d c w m l h
 obtain⟨q,n,k,o⟩:=f;obtain⟨t,s,r,p⟩:=g;simp only[ne_eq,not_or,cP]at h;obtain⟨rfl,rfl,rfl,h⟩:=h;exact ju q n k o p d c w j i hn h
open Go.RowKit
open Classical in
noncomputable def sameR (r s:aA):Bool:=decide (r=s)
theorem nS(r s:aA):sameR r s=true↔r=s:=by unfold sameR;simp
theorem rn{r s:aA}(h:r≠s):sameR r s=false:=by unfold sameR;simp[h]
theorem tF(r s:aA)(x y:bA)(w:bk)(f:∃a b,x=b9 a r.fields.length b)(d:∃a b,y=b9 a s.fields.length b)
 (h:r.kind≠s.kind∨r.level≠s.level∨r.fields.length≠s.fields.length):
 bO prog 87 #[ep r x,ep s y] w λe w'=>e=b6 (b7 (sameR r s))/\Bw w w':=by
 have c:Hid (sameR r s=false):=rn (by rintro rfl;simp at h);obtain⟨a,b,rfl⟩:=f;obtain⟨g,i,rfl⟩:=d;obtain⟨k,l,j⟩:=r;obtain⟨n,o,m⟩:=s;simp only at h;unfold ep;rw[c.o];have H:=Z h;clear h;go_enter func87,ntmps87;go_wp2_with fail
 all_goals first
  |(go_ret;exact⟨rfl,(ap w _).alloc (by simp) _⟩)
  |(exfalso;go_tidy;have h:=H.o;clear H;simp only[ne_eq,<- UInt8.toNat_inj]at h;simp at*;omega)
theorem pB(g j:UInt8)(c f:List af)(x y:bA)(w:bk)(C:ag 0 w.heap.size w x c)(D:ag 0 w.heap.size w y f)(a5:bo c)(h:c.length=f.length):
 bO prog 87 #[ep ⟨g,j,c⟩ x,ep ⟨g,j,f⟩ y] w λe w'=>e=b6 (b7 (sameR ⟨g,j,c⟩ ⟨g,j,f⟩))/\Bw w w':=by
 have V:=Z C;have HY:=Z D;obtain⟨a,u,rfl⟩:=C.shape;obtain⟨s,v,rfl⟩:=D.shape;obtain⟨hn,P⟩:=a5;have T:=Z P;clear C D P;unfold ep;have F:=Z h;have a8:((c.length:Int)!=f.length)=false:=by simp[h]
 clear h;go_enter func87,ntmps87;go_wp2_with fail
 go_loopw [5,6] (λi t wr=>∃(k:Nat),k<=c.length/\i=J U k/\Hid (c.take k=f.take k)/\
  Below (w.heap.size+2) ((w.alloc (cb #[J b5 g.toNat,J b5 j.toNat,bd a c.length u] 62)).alloc (cb #[J b5 g.toNat,J b5 j.toNat,bd s f.length v] 62)) wr) (λi _ _=>c.length-(intOf i).toNat)
 case atStart=>exact⟨0,cg _,rfl,rfl,bs _ _⟩
 obtain⟨k,hk,rfl,G,r⟩:=hrel;have a9:wr.cell? ⟨w.heap.size,2,Y⟩=X (bd a c.length u):=by rw[r.cell (p:=⟨w.heap.size,2,Y⟩) (by simp)];go_simp
 have a4:wr.cell? ⟨w.heap.size+1,2,Y⟩=X (bd s f.length v):=by rw[r.cell (p:=⟨w.heap.size+1,2,Y⟩) (by simp)];go_simp
 have m:Bw w wr:=btr ((ap w _).alloc (by simp) _) r (by omega);have a0:=m.size;by_cases hlt:k<c.length;rotate_left
 .go_wp2_with fail;go_ret;refine⟨am ?_,m⟩;symm;rw[nS]
  have I:=G.o;have h2:=F.o;rw[bl (by omega),bl (by omega)]at I;rw[I]
 have L:k<f.length:=by rw[<- F.o];exact hlt
 obtain⟨b,n,a6,d,B,_,_,p0,p1,p2,p3,N⟩:=(V.kept (aY m (bc _))).field k hlt;cases B;obtain⟨l,o,a7,H,B,_,_,q0,q1,q2,q3,O⟩:=(HY.kept (aY m (bc _))).field k L;cases B;have Q:Hid (fw c[k] f[k]=true->c.take (k+1)=f.take (k+1)):=λh=>js k hlt L G.o ((j5 _ _).1 h);have R:Hid (fw c[k] f[k]=false->sameR ⟨g,j,c⟩ ⟨g,j,f⟩=false):=λM=>rn (by intro A;injection A with _ _ A;subst A;have:=(j5 c[k] c[k]).2 rfl;rw[this]at M;cases M);have K:=cm (ci c[k]) (T _ (cn hlt))
 have E:Hid (∀W,Bw wr W->bO prog 139 #[fieldV c[k] d,fieldV f[k] H] W λe w'=>e=b6 (b7 (fw c[k] f[k]))/\Bw W w'):=λW q=>
  pC _ _ _ _ W ((N.kept (aY q (by omega))).mono (bc _) (by have:=q.size;omega)) ((O.kept (aY q (by omega))).mono (bc _) (by have:=q.size;omega)) K
 unfold fieldV at E;clear N O K;generalize fw c[k] f[k]=t at*;generalize c[k].tag=f1 at*;generalize c[k].ind=f2 at*;generalize c[k].data=f3 at*;generalize f[k].tag=g1 at*;generalize f[k].ind=g2 at*;generalize f[k].data=g3 at*;have a1:(0:Int)<=k:=by omega
 have s:(k:Int)<c.length:=by omega
 have a3:(k:Int)<f.length:=by omega
 cases t
 all_goals
  go_wp2_with fail
  go_region_held3 (λw'=>w'.cell? ⟨w.heap.size,2,Y⟩=X (bd (X ⟨b,n,Y⟩) c.length u)/\w'.cell? ⟨w.heap.size+1,2,Y⟩=X (bd (X ⟨l,o,Y⟩) f.length v)
   /\w'.cell? ⟨b,n+k*4,Y⟩=X (S f1)/\w'.cell? ⟨b,n+k*4+1,Y⟩=X (S f2)/\w'.cell? ⟨b,n+k*4+2,Y⟩=X (S f3)/\w'.cell? ⟨b,n+k*4+3,Y⟩=X d
   /\w'.cell? ⟨l,o+k*4,Y⟩=X (S g1)/\w'.cell? ⟨l,o+k*4+1,Y⟩=X (S g2)/\w'.cell? ⟨l,o+k*4+2,Y⟩=X (S g3)/\w'.cell? ⟨l,o+k*4+3,Y⟩=X H) (go_keep)
   ((go_at_call 139;refine(E.o _ ?_).mono ?_;(exact(bs _ wr).drew);rintro e w3⟨rfl,z⟩;have ac:=fM z))
  go_wp2_with fail
 .go_ret;exact⟨am (R.o (by simp)).symm,btr m.drew z (by simpa using a0)⟩
 go_roundw
 case rel=>exact⟨k+1,by omega,by go_num,Q.o (by simp),btr r.drew z (by have:w.heap.size+1<wr.heap.size:=bD a4;simp;omega)⟩
 simp[intOf];omega
theorem An(r s:aA)(u v:bA)(w:bk)(g:ew 0 w.heap.size w u r)(i:ew 0 w.heap.size w v s)(f:bo r.fields):
 bO prog 87 #[u,v] w λe w'=>e=b6 (b7 (sameR r s))/\Bw w w':=by
 obtain⟨x,rfl,a⟩:=g;obtain⟨y,rfl,b⟩:=i;by_cases h:r.kind≠s.kind∨r.level≠s.level∨r.fields.length≠s.fields.length
 .exact tF r s x y w a.shape b.shape h
 obtain⟨k,l,c⟩:=r;obtain⟨j,m,d⟩:=s;simp only[ne_eq,not_or,cP]at h;obtain⟨rfl,rfl,h⟩:=h;exact pB k l c d x y w a b f h
end
section
open Go.RowKit
attribute [local go_sem ↓] Go.wp_at_zero Go.wp_at_succ
theorem yB(r:aA)(v:bA)(w:bk)(b:ew 0 w.heap.size w v r)(d:bo r.fields):
 bO prog 85 #[v] w λe w'=>e=b6 (b7 (decide (wrongR r=0)))/\Bw w w':=by
 have c:Hid (∀W,Bw w W->bO prog 122 #[v] W λe w'=>e=b6 (J U (wrongR r))/\Bw W w'):=λW a=>
  xT r v W ((b.kept (aY a (bc _))).mono (bc _) a.size) d
 obtain⟨x,rfl,_⟩:=b;unfold ep at*;generalize wrongR r=e at*;go_enter func85,ntmps85;go_wp2_with (go_at_call 122;refine(c.o _ (ap _ _)).mono ?_;rintro e w1⟨rfl,a⟩)
 go_ret;exact⟨am (by rw[bt];simp),btr (ap w _) a (by simp)⟩
end
end Go.Proofs.YtjcimanddakkaaaGreatDoor
