/- Lemmas. -/
import Derived.Test.YtjcimanddakkaaaGreatDoorY0
import Derived.Test.YtjcimanddakkaaaGreatDoorProg
import Derived.Deep.RegionHeld3
import Derived.Deep.DrawnRows
import Derived.Shelf.Strings.Builder1
import Derived.Shelf.Strings.SlTrimAscii
import Derived.Shelf.Unicode.DecodeAny
import Derived.Deep.DeepCutAuto
set_option maxRecDepth 100000
set_option maxHeartbeats 8000000
namespace Go.Proofs.YtjcimanddakkaaaGreatDoor
open Go.Value renaming int→J,bool→b7,pointer→b8,slice→b9
open Go.IntKind renaming u8→b5,i64→U
open Go.Ending renaming returned→b6
open _root_.Option renaming some→X,none→Y
open Go.Lib renaming hid→Z
open Go.Obj renaming cells→bb
open Tryz
open _root_.Nat renaming le_refl→bc,zero_le→ch,le_trans→cp
open Go.Value renaming slice→bk,int→cz
open Go renaming World→bs,Value→bO,Calls→cb
open _root_.List renaming take_of_length_le→bt,take_succ_eq_append_getElem→ce,getElem_mem→cq,length→cu,length_append→cv,eq_nil_of_length_eq_zero→cy
open Go.RowKit.Below renaming refl→bv,heap_setCell→c6
open _root_.Bool renaming eq_iff_iff→bw
open _root_.UInt8 renaming ofNat→bA
open Go.Lib renaming byteCells→bB,cell_of_heap→bY,frozen_of_heap→cx,trimS→cP
open _root_.ByteArray renaming size→cc
open Go.Obj renaming cells→cd
open Go.Calls renaming mono→cg
open _root_.Array renaming getElem?_modify→cl
open Go.Addr renaming add→cm
open Go.World renaming cell?_of_block→cs,setCell→cQ,ownsRow_nil→c7
open _root_.Decidable renaming not_not→c4
open Go.IntKind renaming u8→c5
section
open Go.RowKit
theorem jA (c:UInt8) (w:bs):cb prog 109 #[J b5 c.toNat] w λe w'=>e=b6 (b7 (letterB c))/\w=w':=by
 go_enter func109,ntmps109;go_wp2;all_goals (go_ret;refine ⟨ap ?_,rfl⟩;rw [bw];simp [letterB];try omega)
theorem jz (c:UInt8) (w:bs):cb prog 165 #[J b5 c.toNat] w λe w'=>e=b6 (b7 (letterB c))/\w=w':=by
 go_enter func165,ntmps165;go_wp2;all_goals (go_ret;refine ⟨ap ?_,rfl⟩;rw [bw];simp [letterB];try omega)
theorem xR (c:UInt8) (w:bs):cb prog 228 #[J b5 c.toNat] w λe w'=>e=b6 (b7 (digitB c))/\w=w':=by
 go_enter func228,ntmps228;go_wp2;all_goals (go_ret;refine ⟨ap ?_,rfl⟩;rw [bw];simp [digitB];try omega)
theorem od (c:UInt8) (w:bs):cb prog 159 #[J b5 c.toNat] w λe w'=>e=b6 (b7 (eM c))/\w=w':=by
 go_enter func159,ntmps159;go_wp2;all_goals (go_ret;refine ⟨ap ?_,rfl⟩;rw [bw];simp [eM];try omega)
theorem yy (c:UInt8) (w:bs):cb prog 219 #[J b5 c.toNat] w λe w'=>e=b6 (b7 (eM c))/\w=w':=by
 go_enter func219,ntmps219;go_wp2;all_goals (go_ret;refine ⟨ap ?_,rfl⟩;rw [bw];simp [eM];try omega)
theorem qP (c:UInt8) (w:bs):cb prog 156 #[J b5 c.toNat] w λe w'=>e=b6 (b7 (fK c))/\w=w':=by
 go_enter func156,ntmps156;go_wp2_with (go_at_call 159;refine (od _ _).mono ?_;rintro e w' ⟨rfl,rfl⟩)
 all_goals (go_ret;refine ⟨ap ?_,rfl⟩;rw [bw];simp [fK,eM];try omega)
theorem AH (n m:Int):(n.tmod m+m)%m=n.emod m:=by
 rw [Int.add_emod_right];rw [Int.tmod_def];exact Int.sub_mul_emod_self_left n m _
theorem jy (n m:Int) (w:bs) (c:1<=m) (d:m<=1000000):
 cb prog 24 #[J U n,J U m] w λe w'=>e=b6 (J U (n.emod m))/\w=w':=by
 have a:n.tmod m<m:=Int.tmod_lt_of_pos n (by omega);have b: -m<n.tmod m:=by have:=Int.lt_tmod_of_pos n (show 0<m by omega);omega
 go_enter func24,ntmps24;go_wp2;go_ret;exact ⟨aH (AH n m),rfl⟩
open Go.RowKit
theorem yQ (x:Ch) (c:UInt8) (b:Nat) (w:bs) (a:jK x) (h:rJ w b x):
 cb prog 229 #[b8 (X ⟨b,0,Y⟩),J b5 c.toNat] w (mi x c b w):=by
 obtain ⟨d,c1,c2,e,f,g⟩:=h;obtain ⟨k,l,j⟩:=a;have i:=mR c;go_enter func229,ntmps229;go_wp2;all_goals go_ret
 all_goals go_tidy
 all_goals (try simp only [beq_iff_eq,beq_eq_false_iff_ne] at *)
 all_goals first
  |(refine xj (by repeat' (with_reducible (first |exact ar.refl _ _|refine ar.setCell ?_ _ _))) rfl ?_;first |exact zO (by omega) (by omega)|exact kE (by omega) (by omega))
  |(first
   |refine en (AP (by omega) (by omega)) (by repeat' (with_reducible (first |exact ar.refl _ _|refine ar.setCell ?_ _ _))) rfl ?_
   |refine en (rj (by omega) (by omega)) (by repeat' (with_reducible (first |exact ar.refl _ _|refine ar.setCell ?_ _ _))) rfl ?_
   |refine en (ya (by omega) (by omega)) (by repeat' (with_reducible (first |exact ar.refl _ _|refine ar.setCell ?_ _ _))) rfl ?_
   |refine en (Aj (by omega) (by omega)) (by repeat' (with_reducible (first |exact ar.refl _ _|refine ar.setCell ?_ _ _))) rfl ?_
   |refine en (Ai (by omega) (by omega)) (by repeat' (with_reducible (first |exact ar.refl _ _|refine ar.setCell ?_ _ _))) rfl ?_
   |refine en (Ah (by omega) (by omega)) (by repeat' (with_reducible (first |exact ar.refl _ _|refine ar.setCell ?_ _ _))) rfl ?_
   |refine en (Ag (by omega) (by omega)) (by repeat' (with_reducible (first |exact ar.refl _ _|refine ar.setCell ?_ _ _))) rfl ?_
   |refine en (Af (by omega) (by omega)) (by repeat' (with_reducible (first |exact ar.refl _ _|refine ar.setCell ?_ _ _))) rfl ?_
   |refine en (Ae (by omega) (by omega)) (by repeat' (with_reducible (first |exact ar.refl _ _|refine ar.setCell ?_ _ _))) rfl ?_)
 all_goals constructor
 all_goals go_simp
 all_goals (first |omega|(refine World.cell?_setCell_same' _ _ _ ?_;go_simp;done))
theorem jC (l:Bs) (w:bs) (u:l.length<=1000000):
 cb prog 218 #[S l] w λe w'=>e=b6 (b7 (aQ l))/\Bw w w':=by
 go_enter func218,ntmps218;go_wp2_with fail
 go_loopw [4,5] (λi f wr=>∃(k:Nat) (y:Ch),k<=l.length/\i=J U k/\chRun ch0 (l.take k)=X y/\jK y/\rJ wr w.heap.size y/\Bw w wr) (λi _ _=>l.length - (intOf i).toNat)
 case atStart=>exact ⟨0,ch0,ch _,rfl,rfl,yc,yd w 297,(bv _ _).alloc (bc _) _⟩
 case round=>
  obtain ⟨k,y,t,rfl,h,d,c,b⟩:=hrel;have a:=Z h;clear h;by_cases hlt:k<l.length
  · have m:=Z (ut l k hlt);go_wp2_with (go_at_call 229;refine (yQ y l[k] w.heap.size wr d c).mono ?_;rintro e v ⟨g,⟨o,rfl⟩|⟨z,j,rfl,n⟩⟩)
    · go_ret;exact ⟨ap (qM (s7 l k y hlt ch0 a.o o.o)).symm,b.trans (g.below (bc _))⟩
    · go_roundw
      case rel=>exact ⟨k+1,z,by omega,by go_num,by rw [m.o,sZ _ _ _ _ a.o];exact j.o,rq d j.o,n,b.trans (g.below (bc _))⟩
      case measure=>simp [intOf];omega
  · obtain ⟨p,c1,c2,q,r,s⟩:=c;go_wp2_with fail
    go_ret;refine ⟨ap ?_,b⟩;rw [sN (by rw [<- a.o,bt (by omega)]),bw];simp;try omega
open Go.RowKit
attribute [local go_sem ↓] Go.wp_at_zero Go.wp_at_succ
theorem eI (l:Bs) (w:bs) (a:2<=l.length):
 cb prog 217 #[S l] w λe w'=>e=b6 (b7 (fi l))/\w=w':=by
 go_enter func217,ntmps217;go_wp2;go_ret;exact ⟨ap (by unfold fi;rw [bw];simp),rfl⟩
theorem fh (l:Bs) (w:bs):
 cb prog 176 #[S l] w λe w'=>e=b6 (b7 (bq l))/\w=w':=by
 by_cases h:l.length=3
 · obtain ⟨a,b,c,rfl⟩:∃a b c,l=[a,b,c]:=by
    match l,h with
    |[a,b,c],_=>exact ⟨a,b,c,rfl⟩
   have d:∀x,x=bq [a,b,c]->Ending.returned (b7 x)=b6 (b7 (bq [a,b,c])):=λx h=>by rw [h]
   have f:=Z d;clear h d;cases ha:digitB a<;>cases hb:digitB b<;>cases hc:digitB c
   all_goals
    go_enter func176,ntmps176
    go_wp2_with (go_at_call 228;refine (xR _ _).mono ?_;rintro e w' ⟨rfl,rfl⟩)
    go_ret
    refine ⟨f _ ?_,rfl⟩
    rw [bw]
    simp [bq,ha,hb,hc]
   all_goals (by_cases x:a=48<;>by_cases y:b=48<;>by_cases z:c=48<;>simp [x,y,z])
 · have g:((l.length:Int)==3)=false:=by simp;omega
   have d:bq l=false:=by simp [bq,h]
   go_enter func176,ntmps176;go_wp2_with fail
   go_ret;exact ⟨ap d.symm,rfl⟩
theorem vQ (w:bs) (b:Nat) (c:Int) (h:w.cell? ⟨b,0,Y⟩=X (J b5 c)) (d:0<=c/\c<256):
 (convert 76 9 (b9 (X ⟨b,0,Y⟩) 1 1)).run prog w= .ok (S [bA c.toNat]) w:=by
 have:=run_convert_bytes_back (P:=prog) w 76 9 5 ⟨b,0,Y⟩ 1 [bA c.toNat] underlying76 underlying5 underlying9
  (λj a=>by
   have:j=0:=by simpa using a
   subst this
   simp [cm,h]
   omega)
 simpa using this
open Go.RowKit
attribute [local go_sem ↓] Go.wp_at_zero Go.wp_at_succ
theorem rz (f:af) (d:bO) (w:bs) (z:aA 0 w.heap.size w d f.subs) (r:(fieldBytes f).length<=1000000) (Q:f.subs.length<=1000000):
 cb prog 123 #[fieldV f d] w λe w'=>e=b6 (S (fieldBytes f))/\Bw w w':=by
 obtain ⟨u,l,j,c⟩:=f;have O:j.length+l.length<=1000000:=by simp [fieldBytes] at r;omega
 have x:=Z r;have D:=Z z;obtain ⟨a,m,rfl,_⟩:=z;clear r;unfold fieldV;go_enter func123,ntmps123;go_wp2_with fail
 go_loopw [3,4] (λs i wr=>∃(k:Nat) (g:Bs),k<=c.length/\i=J U k/\s=S g/\Hid (g=j++l++(c.take k).flatMap aR)/\g.length<1000000/\
  Below (w.heap.size+1) (w.alloc (cd #[S u,S l,S j,bk a c.length m] 123)) wr) (λ_ i _=>c.length - (intOf i).toNat)
 case atStart=>exact ⟨0,j++l,ch _,rfl,rfl,(by simp [Hid]),(by have:=bG ⟨u,l,j,c⟩ 0;have:=x.o;simp at *;omega),bv _ _⟩
 case round=>
  obtain ⟨k,g,N,rfl,rfl,v,M,n⟩:=hrel;have q:wr.cell? ⟨w.heap.size,3,Y⟩=X (bk a c.length m):=by rw [n.cell (p:=⟨w.heap.size,3,Y⟩) (by simp)];go_simp
  by_cases hlt:k<c.length
  · have E:aA 0 w.heap.size wr (bk a c.length m) c:=(D.o.kept (aY ((bv _ w).alloc (bc _) _) (bc _))).kept (aY n (by omega));obtain ⟨b,t,L,F,_,_,A,B⟩:=E.sub k hlt;cases F;have y:Hid (g++(31::c[k].code::c[k].text)=j++l++(c.take (k+1)).flatMap aR):=by rw [jG _ _ _ hlt,v.o];simp [Hid,aR]
    have P:g.length+2+c[k].text.length<1000000:=by have:=bG ⟨u,l,j,c⟩ (k+1);simp only at this;rw [<- y.o] at this;have:=x.o;simp at *;omega
    have R:=λW b (h:W.cell? ⟨b,0,Y⟩=X (J b5 c[k].code.toNat))=>vQ W b _ h ⟨wt _,mR _⟩;generalize c[k].text=T at *;generalize c[k].code=C at *;have H:∀o,(wr.alloc o).cell? ⟨w.heap.size,3,Y⟩=X (bk (X ⟨b,t,Y⟩) c.length m):=λo=>by rw [aU _ _ _ _ (bm q)];exact q
    have I:∀o,(wr.alloc o).cell? ⟨b,t+k * 2,Y⟩=X (J b5 C.toNat):=λo=>by rw [aU _ _ _ _ (bm A)];exact A
    have K:∀o,(wr.alloc o).cell? ⟨b,t+k * 2+1,Y⟩=X (S T):=λo=>by rw [aU _ _ _ _ (bm B)];exact B
    have G:¬9223372036854775807<cu g+1:=by omega
    have V:¬9223372036854775807<cu g+1+1:=by omega
    have q3:¬9223372036854775807<cu g+1+1+cu T:=by omega
    go_wp2_with fail
    go_region;go_wp2_with fail
    go_roundw
    case rel=>
     refine ⟨k+1,g++(31::C::T),by omega,by go_num,?_,y,by simp;omega,?_⟩
     · simp
     · exact (n.alloc (by have:w.heap.size<wr.heap.size:=bm q;omega) _).drew
    case measure=>simp [intOf];omega
  · have G:¬9223372036854775807<cu g+1:=by omega
    go_wp2_with fail
    go_ret;refine ⟨tR ?_,btr ((bv _ w).alloc (bc _) _) n (by omega)⟩;rw [v.o,bt (by omega)];rfl
end
section
open Go.RowKit
theorem lU (l:Bs) (w:bs):∃c w1,(convert 9 76 (S l)).run prog w= .ok (b9 (X ⟨w.heap.size,0,Y⟩) l.length c) w1/\w1.heap.size=w.heap.size+1/\l.length<=c/\Bw w w1/\
 (∀k (h:k<l.length),w1.cell? ⟨w.heap.size,k,Y⟩=X (J b5 l[k].toNat))/\(∀k,k<l.length->w1.frozen? ⟨w.heap.size,k,Y⟩=false):=by
 have e:l.length<=grownCap w l.length 0 5:=grownCap_ge w l.length 0 5;refine ⟨_,_,run_bytes_of_string w 9 76 5 ⟨l.toArray⟩ underlying9 underlying76 underlying5,by simp,e,((bv _ w).drew).alloc (by simp) _,?_,?_⟩
 · intro k h;refine (World.cell?_alloc_mark w.drew _ _ _ k).trans ?_;have a:k<(Array.map (λb:UInt8=>cz c5 ↑b.toNat) (⟨l.toArray⟩:ByteArray).data).size:=by simpa using h
   unfold bytesRow;rw [Array.getElem?_append_left a];simp [h]
 · intro k h;refine (World.frozen?_alloc_mark w.drew _ _ _ _ k).trans ?_;have a:k<(bytesRow ⟨l.toArray⟩ (grownCap w l.length 0 5)).size:=by unfold bytesRow;simp;omega
   have d:(decide ((bytesRow ⟨l.toArray⟩ (grownCap w l.length 0 5)).size<=k))=false:=by simpa using a
   show (decide ((bytesRow ⟨l.toArray⟩ (grownCap w l.length 0 5)).size<=k)&&_)=false;rw [d];rfl
def oz (p s:Bs):Bool:=decide (s.take p.length=p)
theorem oT (s p:Bs) (w:bs):cb prog 273 #[S s,S p] w λe w'=>e=b6 (b7 (oz p s))/\w=w':=by
 go_enter func273,ntmps273;go_wp2;all_goals go_ret
 all_goals refine ⟨ap ?_,rfl⟩
 · rw [oz,bw];simp
 · rename_i h;symm;rw [oz,decide_eq_false_iff_not]
   intro a;apply h;rw [<- a];simp;omega
theorem fL (s p:Bs) (w:bs):cb prog 205 #[S s,S p] w λe w'=>e=b6 (b7 (oz p s))/\w=w':=by
 go_enter func205,ntmps205;go_wp2_with (go_at_call 273;refine (oT _ _ _).mono ?_;rintro e w' ⟨rfl,rfl⟩)
 go_ret;exact ⟨rfl,rfl⟩
theorem lM (l:Bs) (w:bs):cb prog 154 #[S l] w λe w'=>e=b6 (b7 (fi l))/\w=w':=by
 go_enter func154,ntmps154;go_wp2_with (go_at_call 205;refine (fL _ [48,48] _).mono ?_;rintro e w' ⟨rfl,rfl⟩)
 go_ret;exact ⟨rfl,rfl⟩
open Go.Shelf
def qG:Go.Shelf.Ren:=⟨λ|160=>204|232=>267|231=>266|227=>268|234=>270|233=>269|236=>272|235=>271|228=>307|271=>308|151=>235|197=>278|120=>330|152=>284|260=>310|137=>246|119=>312|224=>313|225=>314|217=>291|266=>323|n=>n,λ|9=>9|4=>4|3=>3|5=>5|117=>328|116=>327|0=>0|124=>331|21=>21|105=>334|46=>218|119=>383|139=>386|138=>385|n=>n,λ|3=>0|4=>1|n=>n⟩
theorem zf:Go.Proofs.Lays.n160 prog qG:={
 mixed:=by kernel_rfl
 f119:=Qf func312
 f120:=Qf func330
 f137:=Qf func246
 f151:=Qf func235
 f152:=Qf func284
 f160:=Qf func204
 f197:=Qf func278
 f217:=Qf func291
 f224:=Qf func313
 f225:=Qf func314
 f227:=Qf func268
 f228:=Qf func307
 f231:=Qf func266
 f232:=Qf func267
 f233:=Qf func269
 f234:=Qf func270
 f235:=Qf func271
 f236:=Qf func272
 f260:=Qf func310
 f266:=Qf func323
 f271:=Qf func308
 t0:=underlying0
 a0:=Tryz.isAgg0
 z0:=sizeOf0
 v0:=zeroValue0
 t3:=underlying3
 a3:=Tryz.isAgg3
 z3:=sizeOf3
 v3:=zeroValue3
 t4:=underlying4
 a4:=Tryz.isAgg4
 z4:=sizeOf4
 v4:=zeroValue4
 t5:=underlying5
 a5:=Tryz.isAgg5
 z5:=sizeOf5
 v5:=zeroValue5
 t9:=underlying9
 a9:=Tryz.isAgg9
 z9:=sizeOf9
 v9:=zeroValue9
 t21:=underlying21
 a21:=Tryz.isAgg21
 z21:=sizeOf21
 v21:=zeroValue21
 t46:=underlying218
 a46:=Tryz.isAgg218
 z46:=sizeOf218
 v46:=zeroValue218
 t105:=underlying334
 a105:=Tryz.isAgg334
 z105:=sizeOf334
 v105:=zeroValue334
 t116:=underlying327
 a116:=Tryz.isAgg327
 z116:=sizeOf327
 t117:=underlying328
 a117:=Tryz.isAgg328
 z117:=sizeOf328
 v117:=zeroValue328
 t119:=underlying383
 a119:=Tryz.isAgg383
 z119:=sizeOf383
 t124:=underlying331
 a124:=Tryz.isAgg331
 z124:=sizeOf331
 v124:=zeroValue331
 t138:=underlying385
 a138:=Tryz.isAgg385
 z138:=sizeOf385
 v138:=zeroValue385
 t139:=underlying386
 a139:=Tryz.isAgg386
 z139:=sizeOf386
 v139:=zeroValue386
 g3:=by kernel_rfl
 g4:=by kernel_rfl}
def jV:Go.Shelf.Ren:=⟨λ|240=>161|276=>207|n=>n,λ|0=>0|4=>4|9=>9|20=>20|70=>185|72=>187|164=>282|37=>76|5=>5|n=>n,λ|n=>n⟩
theorem tW:Go.Proofs.Lays.n240 prog jV:={
 mixed:=by kernel_rfl
 f240:=Qf func161
 f276:=Qf func207
 t0:=underlying0
 a0:=Tryz.isAgg0
 z0:=sizeOf0
 v0:=zeroValue0
 t4:=underlying4
 a4:=Tryz.isAgg4
 z4:=sizeOf4
 v4:=zeroValue4
 t9:=underlying9
 a9:=Tryz.isAgg9
 z9:=sizeOf9
 v9:=zeroValue9
 t20:=underlying20
 a20:=Tryz.isAgg20
 z20:=sizeOf20
 v20:=zeroValue20
 t70:=underlying185
 a70:=Tryz.isAgg185
 z70:=sizeOf185
 v70:=zeroValue185
 t72:=underlying187
 a72:=Tryz.isAgg187
 z72:=sizeOf187
 v72:=zeroValue187
 t164:=underlying282
 a164:=Tryz.isAgg282
 z164:=sizeOf282
 v164:=zeroValue282}
theorem lV:Builder.X72 prog jV:={sizeBuilder:=by kernel_rfl,liesBuilder:=by kernel_rfl}
open Go.RowKit in
theorem lK (b:Nat) (w:bs) (a:w.cell? ⟨b,0,Y⟩=X (b8 (X ⟨b,0,Y⟩))):
 cb prog 161 #[b8 (X ⟨b,0,Y⟩)] w λe w'=>e=b6 (.tuple #[])/\w'=w:=Any.Builder_copyCheck_used tW lV b w a
open Go.RowKit in
theorem ki (b:Nat) (w:bs) (a:w.cell? ⟨b,0,Y⟩=X (b8 Y)) (d:w.shape? b=X (187,2)) (c:w.frozen? ⟨b,0,Y⟩=false):
 cb prog 161 #[b8 (X ⟨b,0,Y⟩)] w λe w'=>e=b6 (.tuple #[])/\w'=w.setCell ⟨b,0,Y⟩ (b8 (X ⟨b,0,Y⟩)):=Any.Builder_copyCheck_fresh tW lV b w a d c
open Go.RowKit in
open Go.RowKit in
open Go.RowKit in
theorem nM (s:ByteArray) (w:bs) (a:s.size<=9223372036854775807):
 cb prog 204 #[.string s, .string ⟨#[48,49,50,51,52,53,54,55,56,57]⟩] w λe w'=>e=b6 (.string ⟨(cP s.data.toList [48,49,50,51,52,53,54,55,56,57]).toArray⟩)/\Bw w w':=
 Any.strings_Trim_laid zf (by kernel_rfl) s ⟨#[48,49,50,51,52,53,54,55,56,57]⟩ w a (by decide) (ascii_of_all (by decide))
open Go.RowKit
def iy:Bs:=[48,49,50,51,52,53,54,55,56,57]
theorem lJ (b:UInt8):iy.contains b=digitB b:=by
 have:∀n:Fin 256,iy.contains (bA n.val)=digitB (bA n.val):=by decide+kernel
 have h:=this ⟨b.toNat,b.toNat_lt⟩;simpa using h
theorem kM (l:Bs):cP l iy=[]↔l.all digitB=true:=by
 have b:∀l:Bs,l.dropWhile (iy.contains ·)=[]↔l.all digitB=true:=by
  intro l;induction l with
  |nil=>simp
  |cons a l ih=>
   rw [List.dropWhile_cons];by_cases h:digitB a=true
   · rw [if_pos (by rw [lJ];exact h),ih];simp [h]
   · rw [if_neg (by rw [lJ];exact h)];simp [h]
 unfold cP Lib.trimLeftS;rw [b];unfold Lib.trimRightS;constructor
 · intro h;have c:(l.reverse.dropWhile (iy.contains ·))=[]:=by
    cases hd:l.reverse.dropWhile (iy.contains ·) with
    |nil=>rfl
    |cons a r=>
     exfalso;have e:¬(iy.contains a)=true:=by have d:=List.head?_dropWhile_not (iy.contains ·) l.reverse;rw [hd] at d;simp only [List.head?_cons] at d;rw [d];simp
     rw [hd] at h;rw [List.all_eq_true] at h;have:=h a (by simp);rw [lJ] at e;exact e this
   have:=(b l.reverse).1 c;simpa using this
 · intro h;have c:(l.reverse.dropWhile (iy.contains ·))=[]:=(b l.reverse).2 (by simpa using h);rw [c];rfl
theorem rV (l:Bs) (w:bs):cb prog 153 #[S l] w λe w'=>e=b6 (b7 (bq l))/\Bw w w':=by
 by_cases h:l.length=3
 · by_cases hz:l=[48,48,48]
   · subst hz;go_enter func153,ntmps153;go_wp2_with fail
     go_ret;exact ⟨rfl,bv _ _⟩
   · have b:Hid (bq l=l.all digitB):=by unfold Hid;simp [bq,h,hz]
     have d:((l.length:Int)==3)=true:=by simp;omega
     have a:Hid (∀W,cb prog 204 #[S l, .string ⟨#[48,49,50,51,52,53,54,55,56,57]⟩] W λe w'=>e=b6 (S (cP l iy))/\Bw W w'):=λW=>nM ⟨l.toArray⟩ W (by have:(⟨l.toArray⟩:ByteArray).size=l.length:=rfl;omega);have c:=Z (kM l);clear h;generalize cP l iy=t at *;go_enter func153,ntmps153;go_wp2_with (go_at_call 204;((with_reducible refine cg (a.o _) ?_);rintro e w' ⟨rfl,g⟩))
     go_ret;refine ⟨ap ?_,g⟩;rw [b.o,bw, <- c.o];simp [hz]
 · have d:((l.length:Int)==3)=false:=by simp;omega
   have f:bq l=false:=by simp [bq,h]
   go_enter func153,ntmps153;go_wp2_with fail
   go_ret;exact ⟨ap f.symm,bv _ _⟩
end
section
open Go.RowKit
theorem rJ.of {b:Nat} {w w':bs} {x:Ch} (h:rJ w b x) (d:w'.heap[b]? =w.heap[b]?):rJ w' b x:=by
 have a:∀i,w'.cell? ⟨b,i,Y⟩=w.cell? ⟨b,i,Y⟩:=λi=>cs (w:=w) d;have c:∀i,w'.frozen? ⟨b,i,Y⟩=w.frozen? ⟨b,i,Y⟩:=λi=>World.frozen?_of_block (w:=w) d;exact ⟨by rw [a];exact h.c0,by rw [a];exact h.c1,by rw [a];exact h.c2,by rw [c];exact h.f0,by rw [c];exact h.f1,by rw [c];exact h.f2⟩
theorem aG (w:bs) (a b:Addr) (u:bO):(w.setCell a u).frozen? b=w.frozen? b:=by
 unfold World.frozen? cQ;simp only [cl];by_cases h:a.block=b.block
 · rw [if_pos h, <- h];cases w.heap[a.block]? with
   |none=>rfl
   |some o=>cases o<;>rfl
 · rw [if_neg h]
theorem xH (a:List cr):(a.flatMap subCells).length=a.length * 2:=by
 induction a with
 |nil=>rfl
 |cons s l ih=>rw [List.flatMap_cons,cv,ih];simp [subCells];omega
theorem aO (w:bs) (o:Obj):Bw w (w.alloc o):=(bv _ w).alloc (bc _) o
theorem bF {w:bs} {B:Nat} {e:TypeId} {k:Nat} {v:bO} {n:Nat} {c:List bO} (h:w.ownsRow B e k v n c):∃a b,v=b9 a n b:=by
 rcases h.2 with ⟨rfl,rfl⟩|⟨g,b,d,rfl,_⟩
 · exact ⟨Y,0,rfl⟩
 · exact ⟨_,_,rfl⟩
open Go.RowKit
def bj (lo:Nat) (g:Option Nat) (w:bs) (v:bO) (c:List cr):Prop:=
 ∃a e,v=b9 a c.length e/\(c≠[]->∃b d,a=X ⟨b,d,Y⟩/\lo<=b/\b<w.heap.size/\g≠X b/\∀j x,(c.flatMap subCells)[j]? =X x->w.cell? ⟨b,d+j,Y⟩=X x)
theorem oU {a:List cr}:a.flatMap subCells≠[]↔a≠[]:=by
 cases a with
 |nil=>simp
 |cons s l=>simp [subCells]
theorem bj.at {lo:Nat} {g:Option Nat} {w:bs} {v:bO} {c:List cr} (h:bj lo g w v c):aA lo w.heap.size w v c:=by
 obtain ⟨a,d,l,h⟩:=h;refine ⟨a,d,l,λk=>?_⟩;obtain ⟨b,m,e,f,i,_,j⟩:=h (oU.1 k);exact ⟨b,m,e,f,i,j⟩
theorem bj.of {lo c:Nat} {g:Option Nat} {w:bs} {v:bO} {d:List cr} (h:aA lo w.heap.size w v d) (r:c<=lo) (n:∀k,g=X k->k<lo):bj c g w v d:=by
 obtain ⟨a,f,o,h⟩:=h;refine ⟨a,f,o,λm=>?_⟩;obtain ⟨b,p,i,q,j,l⟩:=h (oU.2 m);exact ⟨b,p,i,by omega,j,λe=>by have:=n b e;omega,l⟩
theorem bj.step {lo:Nat} {g c:Option Nat} {w w':bs} {v:bO} {i:List cr} (h:bj lo g w v i) (r:∀k,lo<=k->k<w.heap.size->g≠X k->w'.heap[k]? =w.heap[k]?) (z:w.heap.size<=w'.heap.size)
 (q:c=g∨∃k,c=X k/\w.heap.size<=k):bj lo c w' v i:=by
 obtain ⟨a,l,s,h⟩:=h;refine ⟨a,l,s,λp=>?_⟩;obtain ⟨b,u,m,d,n,f,o⟩:=h p;refine ⟨b,u,m,d,by omega,?_,λj x t=>by rw [cs (w:=w) (r b d n f)];exact o j x t⟩;rcases q with rfl|⟨k,rfl,y⟩
 · exact f
 · intro e;injection e;omega
structure bE (lo:Nat) (w:bs) (v:bO) (fs:List af):Prop where
 ex:∃ps:List (af×bO),ps.map (·.1)=fs/\(∀p∈ps,bj lo v.ownBlock w p.2 p.1.subs)/\w.ownsRow lo 123 4 v fs.length (ps.flatMap fieldCells)
theorem bE.nil (lo:Nat) (w:bs):bE lo w (b9 Y 0 0) []:=⟨⟨[],rfl,by simp,c7 _ _ _ _⟩⟩
theorem bE.shape {lo:Nat} {w:bs} {v:bO} {b:List af} (h:bE lo w v b):∃a c,v=b9 a b.length c:=by
 obtain ⟨ps,_,_,h⟩:=h.ex;exact bF h
theorem bE.keep {lo:Nat} {w w':bs} {v:bO} {c:List af} (h:bE lo w v c) (i:∀k,lo<=k->k<w.heap.size->w'.heap[k]? =w.heap[k]?) (t:w.heap.size<=w'.heap.size):bE lo w' v c:=by
 obtain ⟨ps,m,n,d⟩:=h.ex;refine ⟨⟨ps,m,λp q=>(n p q).step (λk a b _=>i k a b) t (.inl rfl),?_⟩⟩;refine ⟨d.1,?_⟩;rcases d.2 with o|⟨g,j,l,s,e,f,r⟩
 · exact .inl o
 · refine .inr ⟨g,j,l,s,e,?_,r⟩;rw [i g e (Array.getElem?_eq_some_iff.1 f).1];exact f
theorem bE.app {lo:Nat} {w1 e:bs} {v c:bO} {g:List af} (f:af) (d:bO) (ps:List (af×bO)) (m:ps.map (·.1)=g) (n:∀p∈ps,bj lo v.ownBlock w1 p.2 p.1.subs) (o:bj lo v.ownBlock w1 d f.subs)
 (s:e.ownsRow lo 123 4 c (g.length+1) (ps.flatMap fieldCells++fieldCells (f,d))) (j:w1.grownBy e v.ownBlock) (b:c.ownBlock=v.ownBlock∨c.ownBlock=X w1.heap.size):bE lo e c (g++[f]):=by
 have l:∀x i,bj lo v.ownBlock w1 x i->bj lo c.ownBlock e x i:=λx i h=>
  h.step (λk _ q r=>j.block k q (Ne.symm r)) j.size (by rcases b with b|b;exact .inl b;exact .inr ⟨_,b,bc _⟩)
 refine ⟨⟨ps++[(f,d)],by simp [m],?_,by simpa using s⟩⟩;intro p a;rcases List.mem_append.1 a with a|a
 · exact l _ _ (n p a)
 · simp at a;subst a;exact l _ _ o
theorem bE.fields {lo e:Nat} {w:bs} {v:bO} {b:List af} (h:bE lo w v b) (m:e<=lo):ai e w.heap.size w v b:=by
 obtain ⟨ps,c,i,a⟩:=h.ex;refine ⟨ps,c,λp o=>(i p o).at.mono m (bc _),?_⟩;have u:ps.length=b.length:=by rw [<- c];simp
 rcases a.2 with ⟨rfl,f⟩|⟨g,q,r,rfl,s,t,y⟩
 · refine ⟨Y,0,by rw [f],λl=>?_⟩;have:ps=[]:=cy (by omega);subst this;exact absurd rfl l
 · have n:=a.lt g (by simp [Value.ownBlock]);refine ⟨_,_,rfl,λ_=>⟨g,0,rfl,by omega,n.2,λj x d=>?_⟩⟩;have k:=a.cellAt j (by have:=(List.getElem?_eq_some_iff.1 d).1;rw [a.1] at this;exact this);rw [Nat.zero_add,k];exact d
theorem tD (f:af) (i:Nat) (h:i<f.subs.length):f.subs[i].text.length<=(fieldBytes f).length:=by
 have:=bG f (i+1);rw [jG _ _ _ h] at this;simp [aR] at this;omega
theorem wl (f:af) (h:bq f.tag=false):wrongF f=13:=by simp [wrongF,h]
theorem tA (f:af) (h:bq f.tag=true) (a:fi f.tag=true):wrongF f=if aQ f.data&&decide (f.ind=[])&&f.subs.isEmpty then 0 else 14:=by simp [wrongF,h,a]
theorem nI (f:af) (h:bq f.tag=true) (a:fi f.tag=false):wrongF f=if decide (f.data=[])&&ii f.ind&& !f.subs.isEmpty&&f.subs.all dj then 0 else 14:=by simp [wrongF,h,a]
theorem ot (f:af) (d:bO) (w:bs) (h:bq f.tag=false):
 cb prog 166 #[fieldV f d] w λe w'=>e=b6 (J U (wrongF f))/\Bw w w':=by
 have a:=Z (wl f h);obtain ⟨i,c,b,g⟩:=f;simp only at h;unfold fieldV;go_enter func166,ntmps166;go_wp2_with (go_at_call 176;refine (fh _ _).mono ?_;rintro e w' ⟨rfl,rfl⟩)
 go_ret;exact ⟨aH a.symm,(bv _ w).alloc (bc _) _⟩
theorem mC (f:af) (d:bO) (w:bs) (n:∃a g,d=b9 a f.subs.length g) (o:(fieldBytes f).length<=1000000) (h:bq f.tag=true) (b:fi f.tag=true):
 cb prog 166 #[fieldV f d] w λe w'=>e=b6 (J U (wrongF f))/\Bw w w':=by
 have l:=Z (tA f h b);obtain ⟨a,g,rfl⟩:=n;have c:=bG f 0;have k:=gW h;obtain ⟨r,t,i,u⟩:=f;simp only at h b c k;have p:i.length<=1000000:=by simp at c;omega
 have q:2<=r.length:=by omega
 clear c k o;unfold fieldV;cases ht:aQ i
 all_goals
  go_enter func166,ntmps166
  go_wp2_with first
   |(go_at_call 176;refine (fh _ _).mono ?_;rintro e w' ⟨rfl,rfl⟩)
   |(go_at_call 217;refine (eI _ _ q).mono ?_;rintro e w' ⟨rfl,rfl⟩)
   |(go_at_call 218;refine (jC _ _ p).mono ?_;rintro e w1 ⟨rfl,j⟩;obtain ⟨b,s⟩:=aE j)
  all_goals go_ret
  all_goals refine ⟨aH (l.o.trans ?_).symm,btr ((bv _ w).alloc (bc _) _) j (by simp)⟩
  all_goals go_tidy
  all_goals simp_all
  all_goals (try (intro m;subst m;simp at *))
theorem ou (f:af) (d:bO) (w:bs) (r:∃a k,d=b9 a f.subs.length k) (h:bq f.tag=true) (m:fi f.tag=false)
 (g:(decide (f.data=[])&&ii f.ind&& !f.subs.isEmpty)=false):
 cb prog 166 #[fieldV f d] w λe w'=>e=b6 (J U (wrongF f))/\Bw w w':=by
 have i:Hid (wrongF f=14):=by rw [nI f h m,g];rfl
 obtain ⟨a,k,rfl⟩:=r;have n:=gW h;obtain ⟨t,b,c,s⟩:=f;simp only at h m n g;have j:2<=t.length:=by omega
 clear n;unfold fieldV;by_cases hd0:c=[]
 · subst hd0;by_cases hi:b.length=2
   · obtain ⟨p,q,rfl⟩:∃p q,b=[p,q]:=by
      match b,hi with
      |[p,q],_=>exact ⟨p,q,rfl⟩
     have o:=Z g;clear g hi;have A:=mR p;have B:=mR q;go_enter func166,ntmps166
     go_wp2_with first
      |(go_at_call 176;refine (fh _ _).mono ?_;rintro e w' ⟨rfl,rfl⟩)
      |(go_at_call 217;refine (eI _ _ j).mono ?_;rintro e w' ⟨rfl,rfl⟩)
     all_goals first
      |(go_ret;exact ⟨aH i.symm,(bv _ w).alloc (bc _) _⟩)
      |(exfalso
        go_tidy
        have l:=o.o
        simp [ii,fK] at l
        simp at *
        have:s=[]:=l (by omega) (by omega) (by omega) (by omega)
        subst this
        simp at *)
   · have y:((b.length:Int)==2)=false:=by simp;omega
     have z:((b.length:Int)!=2)=true:=by simp;omega
     go_enter func166,ntmps166
     go_wp2_with first
      |(go_at_call 176;refine (fh _ _).mono ?_;rintro e w' ⟨rfl,rfl⟩)
      |(go_at_call 217;refine (eI _ _ j).mono ?_;rintro e w' ⟨rfl,rfl⟩)
     go_ret;exact ⟨aH i.symm,(bv _ w).alloc (bc _) _⟩
 · have u:(c==[])=false:=by simpa using hd0
   have v:(c !=[])=true:=by simpa using hd0
   have x:c.isEmpty=false:=by simpa using hd0
   go_enter func166,ntmps166
   go_wp2_with first
    |(go_at_call 176;refine (fh _ _).mono ?_;rintro e w' ⟨rfl,rfl⟩)
    |(go_at_call 217;refine (eI _ _ j).mono ?_;rintro e w' ⟨rfl,rfl⟩)
   go_ret;exact ⟨aH i.symm,(bv _ w).alloc (bc _) _⟩
theorem mB (f:af) (d:bO) (w:bs) (F:aA 0 w.heap.size w d f.subs) (B:(fieldBytes f).length<=1000000) (P:f.subs.length<=1000000) (h:bq f.tag=true) (z:fi f.tag=false)
 (l:(decide (f.data=[])&&ii f.ind&& !f.subs.isEmpty)=true):
 cb prog 166 #[fieldV f d] w λe w'=>e=b6 (J U (wrongF f))/\Bw w w':=by
 have x:Hid (wrongF f=if f.subs.all dj then 0 else 14):=by rw [nI f h z,l];rfl
 have D:=gW h;have H:=Z (λi h=>cp (tD f i h) B);obtain ⟨r,o,a0,c⟩:=f;simp only at h z D l P;have O:2<=r.length:=by omega
 simp only [Bool.and_eq_true,decide_eq_true_eq,Bool.not_eq_true'] at l;obtain ⟨⟨rfl,m⟩,G⟩:=l;have A:o.length=2:=by simp [ii] at m;exact m.1
 obtain ⟨p,q,rfl⟩:∃p q,o=[p,q]:=by
  match o,A with
  |[p,q],_=>exact ⟨p,q,rfl⟩
 simp [ii,fK] at m;obtain ⟨⟨a1,a2⟩,a3,a4⟩:=m;have a5:0<c.length:=by cases c with |nil=>simp at G|cons _ _=>simp
 have a6:((c.length:Int)==0)=false:=beq_eq_false_iff_ne.2 (by omega);have I:=Z F;obtain ⟨a,n,rfl,_⟩:=F;clear B D G A;unfold fieldV;go_enter func166,ntmps166
 go_wp2_with first
  |(go_at_call 176;refine (fh _ _).mono ?_;rintro e w' ⟨rfl,rfl⟩)
  |(go_at_call 217;refine (eI _ _ O).mono ?_;rintro e w' ⟨rfl,rfl⟩)
 go_loopw [5,6] (λi t wr=>∃(k:Nat),k<=c.length/\i=J U k/\Hid ((c.take k).all dj=true)/\
  Below (w.heap.size+1) (w.alloc (cd #[S r,S [p,q],S [],bk a c.length n] 123)) wr) (λi _ _=>c.length - (intOf i).toNat)
 case atStart=>exact ⟨0,ch _,rfl,rfl,bv _ _⟩
 case round=>
  obtain ⟨k,hk,rfl,s,g⟩:=hrel;have L:wr.cell? ⟨w.heap.size,3,Y⟩=X (bk a c.length n):=by rw [g.cell (p:=⟨w.heap.size,3,Y⟩) (by simp)];go_simp
  by_cases hlt:k<c.length
  · have Q:aA 0 w.heap.size wr (bk a c.length n) c:=(I.o.kept (aY ((bv _ w).alloc (bc _) _) (bc _))).kept (aY g (by omega));obtain ⟨b,a7,W,V,_,_,R,hx⟩:=Q.sub k hlt;cases V;have E:c[k].text.length<=1000000:=H k hlt;have K:Hid ((c.take (k+1)).all dj=(aQ c[k].text&&eM c[k].code)):=by rw [ce hlt,List.all_append,s.o];simp [Hid,dj]
    have u:Hid (dj c[k]=false->wrongF ⟨r,[p,q],[],c⟩=14):=by intro h;rw [x.o,if_neg];intro y;rw [List.all_eq_true] at y;have:=y _ (cq hlt);simp [h] at this
    have v:Hid (dj c[k]=(aQ c[k].text&&eM c[k].code)):=rfl;have h1:w.heap.size<wr.heap.size:=bm L;have h2:b<wr.heap.size:=bm R;generalize c[k].text=T at *;generalize c[k].code=C at *;cases ht1:aQ T
    · go_wp2_with (go_at_call 218;refine (jC _ _ E).mono ?_;rintro e w1 ⟨rfl,j⟩;obtain ⟨M,N⟩:=aE j)
      go_ret;exact ⟨aH (u.o (by rw [v.o,ht1];rfl)).symm,btr ((bv _ w).alloc (bc _) _) (btr g j (by omega)) (by omega)⟩
    · cases hs2:eM C
      all_goals
       go_wp2_with first
        |(go_at_call 218;refine (jC _ _ E).mono ?_;rintro e w1 ⟨rfl,j⟩;obtain ⟨M,N⟩:=aE j)
        |(go_at_call 219;refine (yy _ _).mono ?_;rintro e w' ⟨rfl,rfl⟩)
      · go_ret;exact ⟨aH (u.o (by rw [v.o,ht1,hs2];rfl)).symm,btr ((bv _ w).alloc (bc _) _) (btr g j (by omega)) (by omega)⟩
      · go_roundw
        case rel=>exact ⟨k+1,by omega,by go_num,by rw [K.o,ht1,hs2];rfl,btr g j (by omega)⟩
        case measure=>simp [intOf];omega
  · go_wp2_with fail
    go_ret;refine ⟨aH (x.o.trans ?_).symm,btr ((bv _ w).alloc (bc _) _) g (by omega)⟩;rw [if_pos (by rw [<- s.o,bt (by omega)])]
theorem p6 (f:af) (d:bO) (w:bs) (i:aA 0 w.heap.size w d f.subs) (g:(fieldBytes f).length<=1000000) (j:f.subs.length<=1000000):
 cb prog 166 #[fieldV f d] w λe w'=>e=b6 (J U (wrongF f))/\Bw w w':=by
 have c:∃a b,d=b9 a f.subs.length b:=by obtain ⟨a,b,h,_⟩:=i;exact ⟨a,b,h⟩
 cases h:bq f.tag
 · exact ot f d w h
 · cases hc:fi f.tag
   · cases hg:(decide (f.data=[])&&ii f.ind&& !f.subs.isEmpty)
     · exact ou f d w c h hc hg
     · exact mB f d w i g j h hc hg
   · exact mC f d w c g h hc
theorem an (w:bs) (o:Obj):Bw w (w.alloc o):=(bv _ w).alloc (bc _) o
theorem mN (r:az) (h:(letterB r.kind&&letterB r.level)=false):wrongR r=12:=by
 unfold wrongR;rw [if_pos];cases h1:letterB r.kind<;>cases h2:letterB r.level<;>simp_all
theorem pq (r:az) (h:letterB r.kind=true) (a:letterB r.level=true) (b:aI r.fields≠0):wrongR r=aI r.fields:=by
 simp [wrongR,h,a,b]
theorem nG (r:az) (h:letterB r.kind=true) (a:letterB r.level=true) (b:aI r.fields=0):
 wrongR r=if bI r.fields||decide (999<r.fields.length)||decide (99999<sizeOf r.fields) then 2 else 0:=by
 simp [wrongR,h,a,b]
theorem j9 (r:az) (x:bO) (w:bs) (h:(letterB r.kind&&letterB r.level)=false):
 cb prog 122 #[fE r x] w λe w'=>e=b6 (J U (wrongR r))/\Bw w w':=by
 have a:=Z (mN r h);obtain ⟨b,c,d⟩:=r;simp only at h;unfold fE;cases hk:letterB b
 · go_enter func122,ntmps122;go_wp2_with (go_at_call 165;refine (jz _ _).mono ?_;rintro e w' ⟨rfl,rfl⟩)
   go_ret;exact ⟨aH a.symm,an _ _⟩
 · have f:letterB c=false:=by simpa [hk] using h
   clear h;go_enter func122,ntmps122;go_wp2_with (go_at_call 165;refine (jz _ _).mono ?_;rintro e w' ⟨rfl,rfl⟩)
   go_ret;exact ⟨aH a.symm,an _ _⟩
theorem mr (r:az) (x:bO) (w:bs) (D:ai 0 w.heap.size w x r.fields) (T:bH r.fields) (h:letterB r.kind=true) (q:letterB r.level=true):
 cb prog 122 #[fE r x] w λe w'=>e=b6 (J U (wrongR r))/\Bw w w':=by
 have H:=Z (pq r h q);have K:=Z (nG r h q);obtain ⟨A,B,c⟩:=r;simp only at h q D T;have M:=Z D;obtain ⟨a,o,rfl⟩:=D.shape;obtain ⟨hn,V⟩:=T;have N:=Z V;clear D V;unfold fE;go_enter func122,ntmps122;go_wp2_with (go_at_call 165;refine (jz _ _).mono ?_;rintro e w' ⟨rfl,rfl⟩)
 go_loopw [3,4] (λi t wr=>∃(k:Nat),k<=c.length/\i=J U k/\Hid (aI (c.take k)=0)/\
  Below (w.heap.size+1) (w.alloc (cd #[J b5 A.toNat,J b5 B.toNat,bk a c.length o] 62)) wr) (λi _ _=>c.length - (intOf i).toNat)
 case atStart=>exact ⟨0,ch _,rfl,rfl,bv _ _⟩
 case round=>
  obtain ⟨k,Q,rfl,l,g⟩:=hrel;have C:wr.cell? ⟨w.heap.size,2,Y⟩=X (bk a c.length o):=by rw [g.cell (p:=⟨w.heap.size,2,Y⟩) (by simp)];go_simp
  have W:w.heap.size<wr.heap.size:=bm C;by_cases hlt:k<c.length
  · have z:ai 0 w.heap.size wr (bk a c.length o) c:=(M.o.kept (aY (an w _) (bc _))).kept (aY g (by omega));obtain ⟨b,ad,a4,d,G,_,_,a7,a8,a9,ac,y⟩:=z.field k hlt;cases G;have m:=N _ (cq hlt);have v:=cp (cK c[k]) m;have a0:Hid (wrongF c[k]≠0->wrongR ⟨A,B,c⟩=wrongF c[k]):=by intro R;have:=eS c k hlt l.o;rw [if_neg R] at this;rw [H.o (by show aI c≠0;rw [this];exact R)];exact this
    have a1:=Z (fX c k hlt l.o);have u:Hid (aA 0 wr.heap.size wr d c[k].subs):=y.mono (bc _) (by omega);clear y z;generalize hfk:c[k]=f at *;have al:=Z hfk;clear hfk;cases hwf:decide (wrongF f=0);all_goals simp only [decide_eq_true_eq,decide_eq_false_iff_not] at hwf
    · have au:(wrongF f !=0)=true:=by simpa using hwf
      go_wp2_with (go_at_call 166;refine (p6 f d _ u.o m v).mono ?_;rintro e w1 ⟨rfl,j⟩;obtain ⟨E,F⟩:=aE j)
      go_ret;exact ⟨aH (a0.o hwf).symm,btr (an w _) (btr g j (by omega)) (by omega)⟩
    · have O:=Z hwf;clear hwf;go_wp2_with (go_at_call 166;refine (p6 f d _ u.o m v).mono ?_;rintro e w1 ⟨rfl,j⟩;obtain ⟨E,F⟩:=aE j;rw [O.o])
      go_roundw
      case rel=>exact ⟨k+1,by omega,by go_num,a1.o O.o,btr g j (by omega)⟩
      case measure=>simp [intOf];omega
  · have L:Hid (wrongR ⟨A,B,c⟩=if bI c||decide (999<c.length)||decide (99999<sizeOf c) then 2 else 0):=
     K.o (by rw [<- l.o,bt (by omega)])
    go_wp2_with fail
    clear l Q hlt C K H;have a5:=g;clear g W
    go_loopw [5,6,7] (λs i t wr=>∃(k n:Nat),k<=c.length/\i=J U k/\s=J U n/\n<=26+k * 1000012/\Hid (bI (c.take k)=false)/\Hid (n=sizeOf (c.take k))/\
     Below (w.heap.size+1) (w.alloc (cd #[J b5 A.toNat,J b5 B.toNat,bk a c.length o] 62)) wr) (λ_ i _ _=>c.length - (intOf i).toNat)
    case atStart=>exact ⟨0,26,ch _,rfl,rfl,by omega,rfl,rfl,a5⟩
    case round=>
     obtain ⟨k,n,Q,rfl,rfl,ao,l,I,g⟩:=hrel;have C:wr.cell? ⟨w.heap.size,2,Y⟩=X (bk a c.length o):=by rw [g.cell (p:=⟨w.heap.size,2,Y⟩) (by simp)];go_simp
     have W:w.heap.size<wr.heap.size:=bm C;by_cases hlt:k<c.length
     · have z:ai 0 w.heap.size wr (bk a c.length o) c:=(M.o.kept (aY (an w _) (bc _))).kept (aY g (by omega));obtain ⟨b,ad,a4,d,G,_,_,a7,a8,a9,ac,y⟩:=z.field k hlt;cases G;have m:=N _ (cq hlt);have v:=cp (cK c[k]) m;have u:Hid (aA 0 wr.heap.size wr d c[k].subs):=y.mono (bc _) (by omega);have HL:=Z (rR c k hlt);have a2:=Z (nP c k hlt l.o);have a3:=Z (pV c k hlt);clear y z;generalize c[k]=f at *;by_cases hlong:9999<(fieldBytes f).length
       · go_wp2_with (go_at_call 123;refine (rz f d _ u.o m v).mono ?_;rintro e w1 ⟨rfl,j⟩;obtain ⟨E,F⟩:=aE j)
         go_ret;refine ⟨aH ?_,btr (an w _) (btr g j (by omega)) (by omega)⟩;rw [L.o,HL.o hlong];rfl
       · go_wp2_with (go_at_call 123;refine (rz f d _ u.o m v).mono ?_;rintro e w1 ⟨rfl,j⟩;obtain ⟨E,F⟩:=aE j)
         go_roundw
         case rel=>exact ⟨k+1,n+12+(fieldBytes f).length,by omega,by go_num,by go_num,by omega,a2.o hlong,by rw [I.o];exact a3.o.symm,btr g j (by omega)⟩
         case measure=>simp [intOf];omega
     · have HT:Hid (wrongR ⟨A,B,c⟩=if decide (999<c.length)||decide (99999<n) then 2 else 0):=by have a6:c.take k=c:=bt (by omega);have P:=l.o;have q:=I.o;rw [a6] at P q;rw [L.o,P, <- q,Bool.false_or];rfl
       go_wp2_with fail
       all_goals go_ret
       all_goals refine ⟨aH (HT.o.trans ?_).symm,btr (an w _) g (by omega)⟩
       all_goals go_tidy
       all_goals first |rw [if_pos (by simp;omega)]|rw [if_neg (by simp;omega)]
theorem wg (r:az) (v:bO) (w:bs) (a:ef 0 w.heap.size w v r) (b:bH r.fields):
 cb prog 122 #[v] w λe w'=>e=b6 (J U (wrongR r))/\Bw w w':=by
 obtain ⟨x,rfl,a⟩:=a;cases h:(letterB r.kind&&letterB r.level)
 · exact j9 r x w h
 · rw [Bool.and_eq_true] at h;exact mr r x w a b h.1 h.2
structure Fr (b:Nat) (g:Option Nat) (w w':bs):Prop where
 os:w'.os=w.os
 tape:w'.tape=w.tape
 output:w'.output=w.output
 size:w.heap.size<=w'.heap.size
 block:∀k,k<w.heap.size->k≠b->some k≠g->w'.heap[k]? =w.heap[k]?
theorem Fr.refl (b:Nat) (g:Option Nat) (w:bs):Fr b g w w:=⟨rfl,rfl,rfl,bc _,λ_ _ _ _=>rfl⟩
theorem Fr.below {b B:Nat} {g:Option Nat} {w w':bs} (h:Fr b g w w') (d:B<=b) (a:∀k,g=X k->B<=k) (c:B<=w.heap.size):Below B w w':=
 ⟨h.os,h.tape,h.output,h.size,λk f=>h.block k (by omega) (by omega) (λe=>by have:=a k e.symm;omega)⟩
structure Bld (B b:Nat) (g:Option Nat) (l:Bs) (w:bs):Prop where
 lt:b<B
 ex:∃p v,w.heap[b]? =some (.cells #[p,v] 187 (0,0))/\(p= .pointer none∨p= .pointer (some ⟨b,0,none⟩))/\w.ownsRow B 5 1 v l.length (bB l)/\v.ownBlock=g/\(l=[]->v= .slice none 0 0)
theorem i5:(prog.info? 5).map (λi=>(i.zero,i.size,i.bytes))=X (X (J b5 0),1,1):=by kernel_rfl
theorem sd (w:bs) (base:Nat) (i:TypeInfo) (f:prog.info? 5=X i) (q:i.zero=X (J b5 0)) (l:i.size=1) (o:i.bytes=1)
 (v:bO) (n:Nat) (c:List bO) (d:w.ownsRow base 5 1 v n c) (s:ByteArray) (m:n+s.size<=maxLen) (t:n+s.size<=140737488355328) (B:base<=w.heap.size):
 ∃b w',(Builtin.append_ #[76,9] 76 #[v, .string s]).run prog w= .ok b w'/\w'.ownsRow base 5 1 b (n+s.size) (c++Lib.strCells s)/\w.grownBy w' v.ownBlock/\
  (b=b9 Y 0 0↔v=b9 Y 0 0/\s.size=0)/\(b.ownBlock=v.ownBlock∨∃k,b.ownBlock=X k/\w.heap.size<=k):=by
 obtain ⟨b,w',h,y,z,A⟩:=Lib.run_append_own_string (P:=prog) w base 76 9 76 5 i underlying76 underlying9 f q l o v n c d s m t B;refine ⟨b,w',h,y,z,A,?_⟩;have H:c.length=n:=by simpa using d.1
 have M:n+s.size<=9223372036854775807:=by unfold maxLen at m;omega
 rcases d.2 with ⟨rfl,rfl⟩|⟨g,e,r,rfl,I,E,L,K,C,N⟩
 · obtain ⟨O,Q,a,x,_,_⟩:=Lib.run_append_own_string (P:=prog) w w.heap.size 76 9 76 5 i underlying76 underlying9 f q l o (b9 Y 0 0) 0 c ⟨d.1, .inl ⟨rfl,rfl⟩⟩ s m t (bc _);rw [h] at a;injection a with hv hw
   subst hv hw;rcases x.2 with ⟨p,_⟩|⟨k,_,_,p,F,_⟩
   · left;rw [p]
   · right;exact ⟨k,by rw [p];rfl,F⟩
 · have D:r.size=e:=by simpa using C
   by_cases hroom:n+s.size<=e
   · have a:=Lib.run_append_room_string (P:=prog) w 76 9 76 5 i underlying76 underlying9 f l g n e r E s hroom (D.symm ▸ hroom);rw [h] at a;injection a with hv hw
     left;rw [hv];rfl
   · have G:∀j u,c[j]? =X u->w.cell? ((⟨g,0,Y⟩:Addr).add j)=X u:=d.cells (g:=g) rfl;have a:=Lib.run_append_grow_string (P:=prog) w 76 9 76 5 i (J b5 0) underlying76 underlying9 f q ⟨g,0,Y⟩ n e c (by rw [l];simpa using H) G s (by omega) (by omega) (by rw [o];exact growslice_fits (by omega) (by omega));rw [h] at a;injection a with hv hw
     right;exact ⟨w.heap.size,by rw [hv];rfl,bc _⟩
theorem mw {w:bs} {d:Array Oper} {e:List Oper} {o:Oper} {a:Act} {Q:Exit->Act->bs->Prop} (y:o.guard=Y) (f x:Operand)
 (A:o.op= .call {callee:= .builtin .append,args:= #[f,x],argTypes:= #[76,9]}) (F:o.type=76)
 (base:Nat) (i:TypeInfo) (z:prog.info? 5=X i) (H:i.zero=X (J b5 0)) (E:i.size=1) (t:i.bytes=1)
 (v:bO) (n:Nat) (c:List bO) (D:a.eval f=v) (B:w.ownsRow base 5 1 v n c) (s:ByteArray) (G:a.eval x= .string s)
 (p:n+s.size<=maxLen) (u:n+s.size<=140737488355328) (r:base<=w.heap.size)
 (h:∀b w',w'.ownsRow base 5 1 b (n+s.size) (c++Lib.strCells s)->w.grownBy w' v.ownBlock->(b=b9 Y 0 0↔v=b9 Y 0 0/\s.size=0)->(b.ownBlock=v.ownBlock∨∃k,b.ownBlock=X k/\w.heap.size<=k)->wpList prog d Q e (a.put o.dst b) w'):wpList prog d Q (o::e) a w:=by
 refine wpList_plain y λK q=>?_;obtain ⟨b,w',C,g,j,l,m⟩:=sd w base i z H E t v n c B s p u r;unfold Oper.wp execOp;simp only [A,F,resolve,invoke,builtin,Sem.run_bind,Sem.run_pure,Result.andThen_ok,List.map_toArray,List.map_cons,List.map_nil,D,G,C];exact q _ _ (h b w' g j l m)
theorem pN (l:Bs):Lib.strCells ⟨l.toArray⟩=bB l:=by simp [Lib.strCells,bB]
theorem ij (a b:Bs):bB (a++b)=bB a++bB b:=by simp [bB]
theorem ro (B b:Nat) (g:Option Nat) (l:Bs) (w:bs) (h:Bld B b g l w):cb prog 161 #[b8 (X ⟨b,0,Y⟩)] w λe w'=>e=b6 (.tuple #[])/\(∃v,w'.heap[b]? =X (bb #[b8 (X ⟨b,0,Y⟩),v] 187 (0,0))/\w'.ownsRow B 5 1 v l.length (bB l)/\v.ownBlock=g/\(l=[]->v=b9 Y 0 0))/\w'.heap.size=w.heap.size/\Fr b Y w w':=by
 obtain ⟨m,p,v,a,n,i,d,f⟩:=h;have c:w.cell? ⟨b,0,Y⟩=X p:=by rw [bY a];rfl
 rcases n with rfl|rfl
 · refine (ki b w c (by simp [World.shape?,a]) (cx a 0)).mono ?_;rintro e w' ⟨rfl,rfl⟩;refine ⟨rfl,⟨v,?_,ownsRow_setCell_below i m _,d,f⟩,by simp,⟨rfl,rfl,rfl,by simp,λk _ j _=>c6 _ _ _ _ j⟩⟩;simp only [cQ,cl,if_true,a];rfl
 · refine (lK b w c).mono ?_;rintro e w' ⟨rfl,rfl⟩;exact ⟨rfl,⟨v,a,i,d,f⟩,rfl,Fr.refl _ _ _⟩
theorem nB {B b:Nat} {w1 c:bs} {p v a:bO} {d:Bs} (h:b<B) (x:p=b8 (X ⟨b,0,Y⟩)) (f:w1.heap[b]? =X (bb #[p,v] 187 (0,0))) (w:∀k,v.ownBlock=X k->B<=k)
 (i:c.ownsRow B 5 1 a d.length (bB d)) (m:w1.grownBy c v.ownBlock) (r:d=[]->a=b9 Y 0 0):
 Bld B b a.ownBlock d (c.setCell ⟨b,1,Y⟩ a)/\Fr b v.ownBlock w1 (c.setCell ⟨b,1,Y⟩ a):=by
 obtain ⟨t,z,u,y,g⟩:=m;have l:b<w1.heap.size:=(Array.getElem?_eq_some_iff.mp f).1;have s:X b≠v.ownBlock:=λe=>by have:=w b e.symm;omega
 have j:c.heap[b]? =X (bb #[p,v] 187 (0,0)):=by rw [g b l s,f]
 refine ⟨⟨h,⟨p,a,?_, .inr x,ownsRow_setCell_below i h _,rfl,r⟩⟩,⟨t,z,u,by simpa using y,λk n o q=>?_⟩⟩
 · simp only [cQ,cl,if_true,j];rfl
 · rw [c6 _ _ _ _ o];exact g k n q
theorem iX {w:bs} {B:Nat} {e:TypeId} {k:Nat} {v:bO} {n:Nat} {d:List bO} (h:w.ownsRow B e k v n d):∀j,v.ownBlock=X j->B<=j/\j<w.heap.size:=by
 intro j a;rcases h.2 with ⟨rfl,_⟩|⟨g,f,i,rfl,b,c,_⟩
 · cases a
 · injection a with a;subst a;exact ⟨b,(Array.getElem?_eq_some_iff.mp c).1⟩
theorem Fr.trans {b:Nat} {g c:Option Nat} {x y z:bs} (h:Fr b g x y) (k:Fr b c y z) (l:∀j,c=X j->g=X j∨x.heap.size<=j):Fr b g x z:=
 ⟨k.os.trans h.os,k.tape.trans h.tape,k.output.trans h.output,cp h.size k.size,λj f d i=>
  (k.block j (Nat.lt_of_lt_of_le f h.size) d (λe=>by rcases l j e.symm with a|a;exact i a.symm;omega)).trans (h.block j f d i)⟩
theorem Fr.weak {b:Nat} {g:Option Nat} {x y:bs} (h:Fr b Y x y):Fr b g x y:=⟨h.os,h.tape,h.output,h.size,λj c a _=>h.block j c a (by simp)⟩
theorem xC {B:Nat} {e:TypeId} {k:Nat} {w b:bs} {v:bO} {n:Nat} {f:List bO} {o:Obj} (_:w.ownsRow B e k v n f) (a:(w.alloc o).grownBy b v.ownBlock):w.grownBy b v.ownBlock:=
 ⟨a.os,a.tape,a.output,cp (by simp) a.size,λj c d=>by rw [a.block j (by simp;omega) d];exact ((bv w.heap.size w).alloc (bc _) o).block j c⟩
theorem rD {B b:Nat} {w1 c:bs} {p v:bO} {n:Nat} {g:List bO} (h:b<B) (a:w1.heap[b]? =X (bb #[p,v] 187 (0,0))) (f:w1.ownsRow B 5 1 v n g) (d:w1.grownBy c v.ownBlock):
 c.heap[b]? =X (bb #[p,v] 187 (0,0)):=by
 rw [d.block b (Array.getElem?_eq_some_iff.mp a).1 (λe=>by have:=(iX f b e.symm).1;omega),a]
theorem gh (B b:Nat) (g:Option Nat) (l s:Bs) (w:bs) (h:Bld B b g l w) (hB:B<=w.heap.size) (hs:l.length+s.length<=100000000000000):
 cb prog 112 #[b8 (X ⟨b,0,Y⟩),S s] w λe w'=>e=b6 (.tuple #[J U s.length, .nilIface])/\∃d,Bld B b d (l++s) w'/\(d=g∨∃k,d=X k/\w.heap.size<=k)/\Fr b g w w':=by
 have Q:=Z (ro B b g l w h);have a5:∃i,prog.info? 5=X i/\i.zero=X (J b5 0)/\i.size=1/\i.bytes=1:=by have:=i5;revert this;cases prog.info? 5<;>simp
 obtain ⟨i0,A,C,D,E⟩:=a5;have W:=Z A;have a0:=Z C;have a1:=Z D;have a2:=Z E;have t:=h.lt;clear h A C D E;have r:=Z hs;go_enter func112,ntmps112
 go_wp2_with (first
  |(go_at_call 161;((with_reducible refine cg (Q.o) ?_);rintro e w1 ⟨rfl,⟨v,f,L,z,G⟩,M,y⟩;have c1:w1.cell? ⟨b,1,Y⟩=X v:=(by rw [bY f];rfl);have p:=Z f;have c:=Z L;have q:=Z z;have HN:=Z G;have u:=Z M;have T:=Z y;clear f L z G M y))
  |(at_builtin;refine mw rfl _ _ rfl rfl B i0 W.o a0.o a1.o a2.o v l.length _ rfl c.o ⟨s.toArray⟩ rfl (by have:=r.o;unfold maxLen;simp [cc];omega) (by have:=r.o;simp [cc];omega) (by have:=u.o;omega) ?_;intro v' N o n I a;obtain ⟨va,vc,rfl⟩:=bF o;have m:=rD t p.o c.o n;have c2:N.cell? ⟨b,1,Y⟩=X v:=(by rw [bY m];rfl);have f2:N.frozen? ⟨b,1,Y⟩=false:=cx m 1;clear m;have a4:=Z o;have V:=Z n;have a3:=Z I;have R:=Z a;clear o n I a))
 go_ret2;have F:l.length+cc ⟨s.toArray⟩=(l++s).length:=by simp [cc]
 have K:=a4.o;rw [pN, <- ij,F] at K;have H:l++s=[]->bk va (l.length+cc ⟨s.toArray⟩) vc=b9 Y 0 0:=λe=>by
  have x:l=[]:=by cases l;rfl;simp at e
  have h2:s=[]:=by subst x;simpa using e
  exact a3.mpr ⟨HN x,by subst h2;rfl⟩
 rw [F] at H;obtain ⟨O,P⟩:=nB t rfl p.o (λk hk=>(iX c.o k hk).1) K V.o H;simp only [cv] at O P;refine ⟨?_,_,O,?_,T.weak.trans (q.o ▸ P) (λj hj=> .inl hj)⟩
 · simp
 · have a:=R.o;rw [q.o,u.o] at a;simpa [cc] using a
theorem zR (B b:Nat) (g:Option Nat) (l:Bs) (c:UInt8) (w:bs) (h:Bld B b g l w) (hB:B<=w.heap.size) (hs:l.length<=100000000000000):
 cb prog 160 #[b8 (X ⟨b,0,Y⟩),J b5 c.toNat] w λe w'=>e=b6 .nilIface/\∃f,Bld B b f (l++[c]) w'/\(f=g∨∃k,f=X k/\w.heap.size<=k)/\Fr b g w w':=by
 have N:=Z (ro B b g l w h);have a2:∃i,prog.info? 5=X i/\i.zero=X (J b5 0)/\i.size=1/\i.bytes=1:=by have:=i5;revert this;cases prog.info? 5<;>simp
 obtain ⟨i0,A,C,D,E⟩:=a2;have R:=Z A;have T:=Z C;have V:=Z D;have W:=Z E;have t:=h.lt;clear h A C D E;have s:=Z hs;go_enter func160,ntmps160
 go_wp2_with (first
  |(go_at_call 161;((with_reducible refine cg (N.o) ?_);rintro e w1 ⟨rfl,⟨v,m,H,y,F⟩,I,x⟩;have c1:w1.cell? ⟨b,1,Y⟩=X v:=(by rw [bY m];rfl);have q:=Z m;have d:=Z H;have r:=Z y;have HN:=Z F;have u:=Z I;have P:=Z x;clear m H y F I x))
  |(at_builtin;refine wpList_append_own_at _ rfl _ _ 76 rfl B 5 i0 (J b5 0) 1 1 underlying76 R.o T.o V.o W.o rfl (by omega) v l.length _ rfl (d.o.alloc _) ⟨w1.heap.size,0,Y⟩ 1 1 [J b5 c.toNat] rfl rfl (cell_one_new _ _ _) (by simp [Value.oneCell']) (by have:=s.o;unfold maxLen;omega) (by have:=s.o;omega) (by have:=u.o;simp;omega) ?_;intro v' K p z a1 a;obtain ⟨va,vc,rfl⟩:=bF p;have o:=xC d.o z;have n:=rD t q.o d.o o;have c2:K.cell? ⟨b,1,Y⟩=X v:=(by rw [bY n];rfl);have f2:K.frozen? ⟨b,1,Y⟩=false:=cx n 1;clear n;have a0:=Z p;have Q:=Z o;have O:=Z a;clear p o z a1 a))
 go_ret;have G:=a0.o;rw [show bB l++[cz b5 c.toNat]=bB (l++[c]) from by rw [ij];rfl,show l.length+1=(l++[c]).length from by simp] at G;obtain ⟨L,M⟩:=nB t rfl q.o (λk hk=>(iX d.o k hk).1) G Q.o (λe=>by simp at e);simp only [cv,List.length_singleton] at L M;refine ⟨rfl,_,L,?_,P.weak.trans (r.o ▸ M) (λj hj=> .inl hj)⟩;have a:=O.o;rw [r.o] at a;rcases a with a|a
 · exact .inl a
 · refine .inr ⟨_,a,?_⟩;have:=u.o;simp;omega
theorem oJ (B b:Nat) (g:Option Nat) (l:Bs) (w:bs) (h:Bld B b g l w):
 cb prog 114 #[b8 (X ⟨b,0,Y⟩)] w λe w'=>e=b6 (J U l.length)/\w'=w:=by
 obtain ⟨m,p,v,c,k,d,i,j⟩:=h;obtain ⟨a,f,rfl⟩:=bF d;have c1:w.cell? ⟨b,1,Y⟩=X (b9 a l.length f):=by rw [bY c];rfl
 clear d j i k c;go_enter func114,ntmps114;go_wp2_with fail
 go_ret;exact ⟨rfl,rfl⟩
def v6 (g:Option Nat) (n:Nat) (w w':bs):Prop:=w'=w.drew∨∃k,g=X k/\w'=w.drew.freeze ⟨k,0,Y⟩ n
theorem vl (b k n:Nat) (w:bs):Fr b (X k) w (w.freeze ⟨k,0,Y⟩ n):=by
 unfold World.freeze;split
 · exact ⟨rfl,rfl,rfl,bc _,λ_ _ _ _=>rfl⟩
 · refine ⟨rfl,rfl,rfl,by simp,λj _ _ a=>?_⟩;have:k≠j:=λe=>a (by rw [e]);simp [cl,this]
theorem v6.fr {g:Option Nat} {n:Nat} {w w':bs} (b:Nat) (h:v6 g n w w'):Fr b g w w':=by
 rcases h with rfl|⟨k,rfl,rfl⟩
 · exact ⟨rfl,rfl,rfl,bc _,λ_ _ _ _=>rfl⟩
 · have h:=vl b k n w.drew;exact ⟨h.os,h.tape,h.output,h.size,h.block⟩
theorem eW (B b:Nat) (g:Option Nat) (l:Bs) (w:bs) (h:Bld B b g l w) (L:l.length<=100000000000000):
 cb prog 115 #[b8 (X ⟨b,0,Y⟩)] w λe w'=>e=b6 (S l)/\v6 g l.length w w':=by
 obtain ⟨I,p,v,c,t,d,i,m⟩:=h;have M:prog.follows Departure.mixedOrders=true:=by kernel_rfl
 rcases d.2 with ⟨rfl,E⟩|⟨k,a,f,rfl,H,s,K,A,q,F⟩
 · obtain rfl:l=[]:=cy E;have c1:w.drew.cell? ⟨b,1,Y⟩=X (b9 Y 0 0):=by have:w.drew.heap[b]? =X (bb #[p,b9 Y 0 0] 187 (0,0)):=c;rw [bY this];rfl
   have y:(Builtin.unsafeSliceData_ #[76] 233 #[b9 Y 0 0]).run prog w.drew= .ok (b8 Y) w.drew:=rfl;have z:(Builtin.unsafeString_ #[233,3] 9 #[b8 Y,J U 0]).run prog w.drew= .ok (.string .empty) w.drew:=Lib.run_unsafeString_none w.drew _ _ _ _;clear d m i t c;go_enter func115,ntmps115;go_wp2;go_region_o
   all_goals (go_wp2;go_ret;exact ⟨rfl, .inl rfl⟩)
 · have n:l≠[]:=λe=>by cases m e
   have o:a≠0:=by
    have:l.length≠0:=by simpa using n
    omega
   have C:f.size=a:=by simpa using q
   have c1:w.drew.cell? ⟨b,1,Y⟩=X (b9 (X ⟨k,0,Y⟩) l.length a):=by have:w.drew.heap[b]? =X (bb #[p,b9 (X ⟨k,0,Y⟩) l.length a] 187 (0,0)):=c;rw [bY this];rfl
   have y:(Builtin.unsafeSliceData_ #[76] 233 #[b9 (X ⟨k,0,Y⟩) l.length a]).run prog w.drew= .ok (b8 (X ⟨k,0,Y⟩)) w.drew:=Lib.run_unsafeSliceData_row _ _ _ _ _ _ o;have z:(Builtin.unsafeString_ #[233,3] 9 #[b8 (X ⟨k,0,Y⟩),J U l.length]).run prog w.drew= .ok (.string ⟨l.toArray⟩) (w.drew.freeze ⟨k,0,Y⟩ l.length):=by refine Lib.run_unsafeString_row w.drew 233 3 9 5 underlying233 (by kernel_rfl) k f.size (by have D:w.drew.heap[k]? =X (bb f 5 (0,0)):=s;simp [World.shape?,D]) l n (by omega) (by omega) ?_;intro j x G;have:=d.cells (g:=k) rfl j (J b5 x.toNat) (by simp [bB,G]);exact this
   have r:∀w',w'=w.drew.freeze ⟨k,0,Y⟩ l.length->v6 g l.length w w':=λw' e=> .inr ⟨k,i ▸ rfl,e⟩;have u:=Z r;clear d m i t c o A q F r s C;generalize hN:(l.length:Int)=N at *;go_enter func115,ntmps115;go_wp2;go_region_o
   all_goals (go_wp2;go_ret;exact ⟨rfl,u _ rfl⟩)
attribute [local go_sem ↓] Go.wp_at_zero Go.wp_at_succ
theorem kG (w:bs) (b B:Nat) (c:b=w.heap.size) (a:b<B):Bld B b Y [] (w.alloc (cd #[b8 Y,b9 Y 0 0] 187)):=by
 subst c;exact ⟨a,⟨b8 Y,b9 Y 0 0,Array.getElem?_push_size, .inl rfl,c7 _ _ _ _,rfl,λ_=>rfl⟩⟩
theorem Fr.cell {b:Nat} {g:Option Nat} {w w':bs} (h:Fr b g w w') {q:Nat} (e:q<w.heap.size) (c:q≠b) (d:X q≠g) (o:Nat):w'.cell? ⟨q,o,Y⟩=w.cell? ⟨q,o,Y⟩:=
 cs (a:=⟨q,o,Y⟩) (h.block q e c d)
theorem Bld.row {B b:Nat} {g:Option Nat} {l:Bs} {w:bs} (h:Bld B b g l w):∀k,g=X k->B<=k/\k<w.heap.size:=by
 obtain ⟨_,p,v,_,_,c,a,_⟩:=h;subst a;exact iX c
theorem Bld.old {B b:Nat} {g:Option Nat} {l:Bs} {w:bs} (h:Bld B b g l w):b<w.heap.size:=by
 obtain ⟨_,p,v,a,_⟩:=h;exact (Array.getElem?_eq_some_iff.mp a).1
theorem Bld.keep {B b:Nat} {g:Option Nat} {l:Bs} {w w':bs} (h:Bld B b g l w) (f:w'.heap[b]? =w.heap[b]?) (i:∀k,g=X k->w'.heap[k]? =w.heap[k]?):Bld B b g l w':=by
 obtain ⟨n,p,v,t,s,q,rfl,o⟩:=h;refine ⟨n,p,v,f.trans t,s,?_,rfl,o⟩;obtain ⟨e,a⟩:=q;refine ⟨e,?_⟩;rcases a with a|⟨k,c,d,rfl,m,j,r⟩
 · exact .inl a
 · exact .inr ⟨k,c,d,rfl,m,(i k rfl).trans j,r⟩
theorem Bld.alloc {B b:Nat} {g:Option Nat} {l:Bs} {w:bs} (h:Bld B b g l w) (o:Obj):Bld B b g l (w.alloc o):=
 h.keep ((aO w o).block b h.old) (λk a=>(aO w o).block k (h.row k a).2)
theorem Bld.below {B b:Nat} {g:Option Nat} {l:Bs} {w w':bs} (h:Bld B b g l w) (k:Bw w w'):Bld B b g l w':=
 h.keep (k.block b h.old) (λj a=>k.block j (h.row j a).2)
theorem pg (B b:Nat) (g:Option Nat) (l:Bs) (c:UInt8) (n:Int) (f:n=c.toNat) (w:bs) (h:Bld B b g l w) (d:B<=w.heap.size) (i:l.length<=100000000000000):
 cb prog 160 #[b8 (X ⟨b,0,Y⟩),J b5 n] w λe w'=>e=b6 .nilIface/\∃a,Bld B b a (l++[c]) w'/\(a=g∨∃k,a=X k/\w.heap.size<=k)/\Fr b g w w':=by
 subst f;exact zR B b g l c w h d i
theorem yT {g a:Option Nat} {q n:Nat} (h:X q≠g) (b:a=g∨∃k,a=X k/\n<=k) (d:q<n):X q≠a:=by
 rcases b with rfl|⟨k,rfl,c⟩
 · exact h
 · intro e;injection e;omega
theorem Bld.fr {B b lo:Nat} {g:Option Nat} {l:Bs} {w w':bs} (h:Bld B b g l w) (f:Fr b g w w') (c:lo<=b):Below lo w w':=
 f.below c (λk a=>by have:=(h.row k a).1;have:=h.lt;omega) (by have:=h.old;omega)
theorem ye (f:af) (d:bO) (w:bs) (hs:aA 0 w.heap.size w d f.subs) (L:(fieldBytes f).length<=1000000) (hn:f.subs.length<=1000000):
 cb prog 111 #[fieldV f d] w λe w'=>e=b6 (S (fieldBytes f))/\Bw w w':=by
 obtain ⟨v,l,j,c⟩:=f;have b2:j.length+l.length<=1000000:=by simp [fieldBytes] at L;omega
 have Q:=Z L;have HS:=Z hs;obtain ⟨a,F,rfl,_⟩:=hs;clear L;unfold fieldV;have O:=Z (λo=>kG (w.alloc o) (w.heap.size+1) (w.heap.size+2) (by simp) (by omega));go_enter func111,ntmps111;go_wp2_with (go_at_call 112;((with_reducible refine cg (gh (w.heap.size+2) (w.heap.size+1) Y [] (j++l) _ (O.o _) (by simp) (by simp;omega)) ?_);rintro e w1 ⟨rfl,g1,a0,ao,K⟩;have c3:=K.cell (q:=w.heap.size) (by simp;omega) (by omega) (by simp) 3))
 have a5:=Z a0;have a7:Hid (Below (w.heap.size+1) (w.alloc (cd #[S v,S l,S j,bk a c.length F] 123)) w1):=btr ((aO _ _).mono (by simp)) (K.below (B:=w.heap.size+1) (by omega) (by simp) (by simp)) (by simp);clear a0 ao K O;go_wp2_with fail
 go_loopw [15] (λi wr=>∃(k:Nat) (h:Bs) (g:Option Nat),k<=c.length/\i=J U k/\Hid (h=j++l++(c.take k).flatMap aR)/\h.length<1000000/\
  Hid (Bld (w.heap.size+2) (w.heap.size+1) g h wr)/\Below (w.heap.size+1) (w.alloc (cd #[S v,S l,S j,bk a c.length F] 123)) wr) (λi _=>c.length - (intOf i).toNat)
 case atStart=>exact ⟨0,j++l,g1,ch _,rfl,(by simp [Hid]),(by have:=bG ⟨v,l,j,c⟩ 0;have:=Q.o;simp at *;omega),a5,a7.o⟩
 case round=>
  obtain ⟨k,h,g,hk,rfl,N,b0,n,I⟩:=hrel;by_cases hlt:k<c.length
  · have a3:aA 0 w.heap.size wr (bk a c.length F) c:=(HS.o.kept (aY ((bv _ w).alloc (bc _) _) (bc _))).kept (aY I (by omega));obtain ⟨b,b4,aT,hv,b1,_,ht,hx⟩:=a3.sub k hlt;cases hv;have R:Hid (h++(31::c[k].code::c[k].text)=j++l++(c.take (k+1)).flatMap aR):=by rw [jG _ _ _ hlt,N.o];simp [Hid,aR]
    have b3:h.length+2+c[k].text.length<1000000:=by have:=bG ⟨v,l,j,c⟩ (k+1);simp only at this;rw [<- R.o] at this;have:=Q.o;simp at *;omega
    generalize c[k].text=T at *;generalize c[k].code=C at *;have ay:=Z n.old;have a9:=Z n.row;clear a3;have m:Hid (w.heap.size+2<=wr.heap.size):=by have:=n.o.old;show _<=_;omega
    have D:Hid (X wr.heap.size≠g):=λe=>by have:=(a9.o _ e.symm).2;omega
    go_wp2_with (first
     |(go_at_call_of 160 (cz c5 31);((with_reducible refine cg (pg (w.heap.size+2) (w.heap.size+1) g h 31 _ (by decide) _ (n.o.alloc _) (by have:=m.o;simp;omega) (by omega)) ?_);rintro e y ⟨rfl,x,t,u,p⟩;have a2:X wr.heap.size≠x:=yT D.o u (by simp);have aC:y.cell? ⟨wr.heap.size,0,Y⟩=X (J b5 C.toNat):=(by rw [p.cell (by simp) (by have:=m.o;omega) D.o];go_simp);have ad:y.cell? ⟨wr.heap.size,1,Y⟩=X (S T):=(by rw [p.cell (by simp) (by have:=m.o;omega) D.o];go_simp);have E:Hid (wr.heap.size<y.heap.size):=(by have:=p.size;simp at this;exact this);have s:=Z t;have ax:=Z u;have z:=Z p;have a8:=Z a2;clear t u p a2))
     |(go_at_call_of 160 (cz c5 C.toNat);((with_reducible refine cg (pg (w.heap.size+2) (w.heap.size+1) x (h++[31]) C _ (by rfl) _ s.o (by have:=m.o;have:=E.o;omega) (by simp;omega)) ?_);rintro e M ⟨rfl,g3,V,au,r⟩;have aS:M.cell? ⟨wr.heap.size,1,Y⟩=X (S T):=(by rw [r.cell E.o (by have:=m.o;omega) a8.o];exact ad);have ac:Hid (wr.heap.size<M.heap.size):=Nat.lt_of_lt_of_le E.o r.size;have P:=Z V;have A:=Z r;clear V au r))
     |(go_at_call 112;((with_reducible refine cg (gh (w.heap.size+2) (w.heap.size+1) g3 (h++[31]++[C]) T _ P.o (by have:=m.o;have:=ac.o;omega) (by simp;omega)) ?_);rintro e w4 ⟨rfl,g4,W,av,a1⟩;have a4:=Z W;have a6:=Z a1;clear W av a1)))
    go_roundw
    case rel=>
     refine ⟨k+1,h++[31]++[C]++T,g4,by omega,by go_num,?_,by simp;omega,a4,?_⟩
     · rw [<- R.o];simp [Hid]
     · have G:=(n.alloc _).fr z.o (lo:=w.heap.size+1) (bc _);have H:=s.fr A.o (lo:=w.heap.size+1) (bc _);have h4:=P.fr a6.o (lo:=w.heap.size+1) (bc _);exact (((I.alloc (by have:=m.o;omega) _).trans G).trans H).trans h4
    case measure=>simp [intOf];omega
  · have al:Hid (fieldBytes ⟨v,l,j,c⟩=h++[30]):=by rw [N.o,bt (by omega)];simp [fieldBytes,Hid]
    have m:Hid (w.heap.size+2<=wr.heap.size):=by have:=n.o.old;show _<=_;omega
    go_wp2_with (first
     |(go_at_call 160;((with_reducible refine cg (pg (w.heap.size+2) (w.heap.size+1) g h 30 _ (by decide) _ n.o (by exact m.o) (by omega)) ?_);rintro e y ⟨rfl,x,t,u,p⟩;have s:=Z t;have z:=Z p;clear t u p))
     |(go_at_call 115;((with_reducible refine cg (eW (w.heap.size+2) (w.heap.size+1) x (h++[30]) _ s.o (by simp;omega)) ?_);rintro e M ⟨rfl,r⟩;have A:=Z (r.fr (w.heap.size+1));clear r)))
    go_ret;refine ⟨tR al.symm,?_⟩;have G:=n.fr z.o (lo:=w.heap.size+1) (bc _);have H:=s.fr A.o (lo:=w.heap.size+1) (bc _);exact btr (aO w _) ((I.trans G).trans H) (by omega)
end
section
open Go.RowKit
theorem fO (w:bs) (a:Addr) (d:Nat) (l:List Int) (g:∀j (c:j<l.length),w.cell? (a.add j)=X (J b5 l[j])):
 (convert 76 9 (b9 (X a) l.length d)).run prog w= .ok (S (l.map λn=>bA n.toNat)) w:=by
 rw [run_convert_bytes_string w 76 9 5 (X a) l.length d underlying76 underlying5 underlying9];have f:=run_loadCells_list (P:=prog) w a (l.map (cz b5)) (λj v c=>by
  have e:j<l.length:=by have:=(List.getElem?_eq_some_iff.1 c).1;simpa using this
  rw [g j e];simp [List.getElem?_eq_getElem e] at c;rw [<- c])
 simp only [List.length_map] at f;rw [run_bytesToString w a l.length d _ f];have:∀(l:List Int) (r:ByteArray),l.foldl (λr n=>r.push (bA n.toNat)) r=⟨r.data++(l.map λn=>bA n.toNat).toArray⟩:=by
  intro l;induction l with
  |nil=>intro r;simp
  |cons b l ih=>intro r;simp only [List.foldl_cons,List.map_cons];rw [ih];simp [ByteArray.push]
 rw [this];have h:ByteArray.empty.data= #[]:=rfl;rw [h];simp
theorem xY (w:bs) (b:Nat) (c:Int) (h:w.cell? ⟨b,0,Y⟩=X (J b5 c)):
 (convert 76 9 (b9 (X ⟨b,0,Y⟩) 1 1)).run prog w= .ok (S [bA c.toNat]) w:=by
 have:=fO w ⟨b,0,Y⟩ 1 [c] (λj a=>by
  have:j=0:=by simpa using a
  subst this;simpa [cm] using h)
 simpa using this
theorem xX (w:bs) (b:Nat) (c d:Int) (a:w.cell? ⟨b,0,Y⟩=X (J b5 c)) (e:w.cell? ⟨b,1,Y⟩=X (J b5 d)):
 (convert 76 9 (b9 (X ⟨b,0,Y⟩) 2 2)).run prog w= .ok (S [bA c.toNat,bA d.toNat]) w:=by
 have:=fO w ⟨b,0,Y⟩ 2 [c,d] (λj f=>by
  have:j=0∨j=1:=by simp at f;omega
  rcases this with rfl|rfl
  · simpa [cm] using a
  · simpa [cm] using e)
 simpa using this
open Classical in
noncomputable def cv1 (x:Option bO) (w:bs) (b:Nat):Result bO:=
 if x=w.cell? ⟨b,0,Y⟩ then (convert 76 9 (b9 (X ⟨b,0,Y⟩) 1 1)).run prog w
 else match x with
  |some (J b5 c)=> .ok (S [bA c.toNat]) w
  |_=>(convert 76 9 (b9 (X ⟨b,0,Y⟩) 1 1)).run prog w
theorem vE (w:bs) (b:Nat):(convert 76 9 (b9 (X ⟨b,0,Y⟩) 1 1)).run prog w=cv1 (w.cell? ⟨b,0,Y⟩) w b:=by unfold cv1;rw [if_pos rfl]
theorem xW (c:Int) (w:bs) (b:Nat):cv1 (X (J b5 c)) w b= .ok (S [bA c.toNat]) w:=by
 unfold cv1;split
 · rename_i h;exact xY w b c h.symm
 · rfl
open Classical in
noncomputable def cv2 (x y:Option bO) (w:bs) (b:Nat):Result bO:=
 if x=w.cell? ⟨b,0,Y⟩/\y=w.cell? ⟨b,1,Y⟩ then (convert 76 9 (b9 (X ⟨b,0,Y⟩) 2 2)).run prog w
 else match x,y with
  |some (J b5 c),X (J b5 d)=> .ok (S [bA c.toNat,bA d.toNat]) w
  |_,_=>(convert 76 9 (b9 (X ⟨b,0,Y⟩) 2 2)).run prog w
theorem vD (w:bs) (b:Nat):(convert 76 9 (b9 (X ⟨b,0,Y⟩) 2 2)).run prog w=cv2 (w.cell? ⟨b,0,Y⟩) (w.cell? ⟨b,1,Y⟩) w b:=by unfold cv2;rw [if_pos ⟨rfl,rfl⟩]
theorem xV (c d:Int) (w:bs) (b:Nat):cv2 (X (J b5 c)) (X (J b5 d)) w b= .ok (S [bA c.toNat,bA d.toNat]) w:=by
 unfold cv2;split
 · rename_i h;exact xX w b c d h.1.symm h.2.symm
 · rfl
attribute [go_sem] vE xW vD xV
end
section
open Go.RowKit
theorem lS (w:bs) (x y z:bO) (t:TypeId):∀j v,[x,y,z][j]? =X v->(w.alloc (bb #[x,y,z] t)).cell? ((⟨w.heap.size,0,Y⟩:Addr).add j)=X v:=by
 intro j v a;match j,a with
 |0,a=>simp at a;subst a;simp [cm]
 |1,a=>simp at a;subst a;simp [cm]
 |2,a=>simp at a;subst a;simp [cm]
open Go.RowKit
theorem mH (w:bs) (x y z u:bO) (t:TypeId):∀j v,[x,y,z,u][j]? =X v->(w.alloc (bb #[x,y,z,u] t)).cell? ((⟨w.heap.size,0,Y⟩:Addr).add j)=X v:=by
 intro j v a;match j,a with
 |0,a=>simp at a;subst a;simp [cm]
 |1,a=>simp at a;subst a;simp [cm]
 |2,a=>simp at a;subst a;simp [cm]
 |3,a=>simp at a;subst a;simp [cm]
end
section
open Go.RowKit
open Classical in
noncomputable def eX (f g:af):Bool:=decide (f=g)
theorem jv (f g:af):eX f g=true↔f=g:=by unfold eX;simp
theorem pX {f g:af} (h:f≠g):eX f g=false:=by unfold eX;simp [h]
theorem kh (f g:af) (d c:bO) (w:bs) (k:∃a b,d=b9 a f.subs.length b) (j:∃a b,c=b9 a g.subs.length b)
 (h:f.tag≠g.tag∨f.ind≠g.ind∨f.data≠g.data∨f.subs.length≠g.subs.length):
 cb prog 139 #[fieldV f d,fieldV g c] w λe w'=>e=b6 (b7 (eX f g))/\Bw w w':=by
 have i:Hid (eX f g=false):=pX (by rintro rfl;simp at h);obtain ⟨a,b,rfl⟩:=k;obtain ⟨l,m,rfl⟩:=j;obtain ⟨t,p,n,r⟩:=f;obtain ⟨u,q,o,s⟩:=g;simp only at h;unfold fieldV;rw [i.o];have H:=Z h;clear h;go_enter func139,ntmps139;go_wp2_with fail
 all_goals first
  |(go_ret;exact ⟨rfl,(an w _).alloc (by simp) _⟩)
  |(exfalso;go_tidy;have h:=H.o;clear H;simp_all;omega)
theorem iO {α:Type} {l m:List α} (k:Nat) (a:k<l.length) (b:k<m.length) (h:l.take k=m.take k) (c:l[k]=m[k]):l.take (k+1)=m.take (k+1):=by
 rw [ce a,ce b,h,c]
theorem iT (s r o:Bs) (f g:List cr) (d c:bO) (w:bs) (M:aA 0 w.heap.size w d f) (L:aA 0 w.heap.size w c g) (hn:f.length<=1000000)
 (h:f.length=g.length):
 cb prog 139 #[fieldV ⟨s,r,o,f⟩ d,fieldV ⟨s,r,o,g⟩ c] w λe w'=>e=b6 (b7 (eX ⟨s,r,o,f⟩ ⟨s,r,o,g⟩))/\Bw w w':=by
 have P:=Z M;have O:=Z L;obtain ⟨a,u,rfl,_⟩:=M;obtain ⟨C,v,rfl,_⟩:=L;unfold fieldV;have F:=Z h;have a6:((f.length:Int)!=g.length)=false:=by simp [h]
 clear h;go_enter func139,ntmps139;go_wp2_with fail
 go_loopw [5] (λi wr=>∃(k:Nat),k<=f.length/\i=J U k/\Hid (f.take k=g.take k)/\
  Below (w.heap.size+2) ((w.alloc (cd #[S s,S r,S o,bk a f.length u] 123)).alloc (cd #[S s,S r,S o,bk C g.length v] 123)) wr) (λi _=>f.length - (intOf i).toNat)
 case atStart=>exact ⟨0,ch _,rfl,rfl,bv _ _⟩
 case round=>
  obtain ⟨k,hk,rfl,H,B⟩:=hrel;have a7:wr.cell? ⟨w.heap.size,3,Y⟩=X (bk a f.length u):=by rw [B.cell (p:=⟨w.heap.size,3,Y⟩) (by simp)];go_simp
  have a8:wr.cell? ⟨w.heap.size+1,3,Y⟩=X (bk C g.length v):=by rw [B.cell (p:=⟨w.heap.size+1,3,Y⟩) (by simp)];go_simp
  have x:Bw w wr:=btr ((an w _).alloc (by simp) _) B (by omega);by_cases hlt:k<f.length
  · have N:k<g.length:=by rw [<- F.o];exact hlt
    obtain ⟨b,l,a4,E,_,_,T,W⟩:=(P.kept (aY x (bc _))).sub k hlt;cases E;obtain ⟨j,m,a5,E,_,_,V,a0⟩:=(O.kept (aY x (bc _))).sub k N;cases E;have Q:Hid (f[k]=g[k]->f.take (k+1)=g.take (k+1)):=iO k hlt N H.o;have G:Hid (f[k]≠g[k]->eX ⟨s,r,o,f⟩ ⟨s,r,o,g⟩=false):=λR=>pX (by intro D;injection D with _ _ _ D;subst D;exact R rfl);generalize hp:f[k]=p at *;generalize hq:g[k]=q at *;clear hp hq;obtain ⟨n,t⟩:=p;obtain ⟨y,z⟩:=q;simp only at T W V a0;have a1:(0:Int)<=k:=by omega
    have C:(k:Int)<f.length:=by omega
    have a3:(k:Int)<g.length:=by omega
    by_cases hpc:n=y
    · subst hpc;by_cases hpt:t=z
      · subst hpt;go_wp2_with fail
        go_region_held3 (λw'=>w'.cell? ⟨w.heap.size,3,Y⟩=X (bk (X ⟨b,l,Y⟩) f.length u)/\w'.cell? ⟨w.heap.size+1,3,Y⟩=X (bk (X ⟨j,m,Y⟩) g.length v)/\w'.cell? ⟨b,l+k * 2,Y⟩=X (J b5 n.toNat)/\w'.cell? ⟨b,l+k * 2+1,Y⟩=X (S t)/\w'.cell? ⟨j,m+k * 2,Y⟩=X (J b5 n.toNat)/\w'.cell? ⟨j,m+k * 2+1,Y⟩=X (S t)) (go_keep) (fail)
        go_wp2_with fail
        go_roundw
        case rel=>exact ⟨k+1,by omega,by go_num,Q.o (by simp),B.drew⟩
        case measure=>simp [intOf];omega
      · have A:(t==z)=false:=by simpa using hpt
        have K:(t !=z)=true:=by simpa using hpt
        go_wp2_with fail
        go_region_held3 (λw'=>w'.cell? ⟨w.heap.size,3,Y⟩=X (bk (X ⟨b,l,Y⟩) f.length u)/\w'.cell? ⟨w.heap.size+1,3,Y⟩=X (bk (X ⟨j,m,Y⟩) g.length v)/\w'.cell? ⟨b,l+k * 2,Y⟩=X (J b5 n.toNat)/\w'.cell? ⟨b,l+k * 2+1,Y⟩=X (S t)/\w'.cell? ⟨j,m+k * 2,Y⟩=X (J b5 n.toNat)/\w'.cell? ⟨j,m+k * 2+1,Y⟩=X (S z)) (go_keep) (fail)
        go_wp2_with fail
        go_ret;exact ⟨ap (G.o (by simpa using hpt)).symm,x.drew⟩
    · have I:¬(n.toNat:Int)=y.toNat:=by intro h;exact hpc (UInt8.toNat_inj.1 (by omega))
      have A:((n.toNat:Int)==y.toNat)=false:=by simpa using I
      have K:((n.toNat:Int)!=y.toNat)=true:=by simpa using I
      go_wp2_with fail
      go_region_held3 (λw'=>w'.cell? ⟨w.heap.size,3,Y⟩=X (bk (X ⟨b,l,Y⟩) f.length u)/\w'.cell? ⟨w.heap.size+1,3,Y⟩=X (bk (X ⟨j,m,Y⟩) g.length v)/\w'.cell? ⟨b,l+k * 2,Y⟩=X (J b5 n.toNat)/\w'.cell? ⟨b,l+k * 2+1,Y⟩=X (S t)/\w'.cell? ⟨j,m+k * 2,Y⟩=X (J b5 y.toNat)/\w'.cell? ⟨j,m+k * 2+1,Y⟩=X (S z)) (go_keep) (fail)
      go_wp2_with fail
      go_ret;exact ⟨ap (G.o (by simp [hpc])).symm,x.drew⟩
  · go_wp2_with fail
    go_ret;refine ⟨ap ?_,x⟩;symm;rw [jv]
    have A:=H.o;have K:=F.o;rw [bt (by omega),bt (by omega)] at A;rw [A]
theorem oh (f g:af) (d c:bO) (w:bs) (j:aA 0 w.heap.size w d f.subs) (i:aA 0 w.heap.size w c g.subs) (n:f.subs.length<=1000000):
 cb prog 139 #[fieldV f d,fieldV g c] w λe w'=>e=b6 (b7 (eX f g))/\Bw w w':=by
 have m:∃a b,d=b9 a f.subs.length b:=by obtain ⟨a,b,h,_⟩:=j;exact ⟨a,b,h⟩
 have l:∃a b,c=b9 a g.subs.length b:=by obtain ⟨a,b,h,_⟩:=i;exact ⟨a,b,h⟩
 by_cases h:f.tag≠g.tag∨f.ind≠g.ind∨f.data≠g.data∨f.subs.length≠g.subs.length
 · exact kh f g d c w m l h
 · obtain ⟨r,o,k,p⟩:=f;obtain ⟨u,t,s,q⟩:=g;simp only [ne_eq,not_or,c4] at h;obtain ⟨rfl,rfl,rfl,h⟩:=h;exact iT r o k p q d c w j i n h
open Go.RowKit
open Classical in
noncomputable def sameR (r s:az):Bool:=decide (r=s)
theorem mZ (r s:az):sameR r s=true↔r=s:=by unfold sameR;simp
theorem pW {r s:az} (h:r≠s):sameR r s=false:=by unfold sameR;simp [h]
theorem r6 (r s:az) (x y:bO) (w:bs) (f:∃a b,x=b9 a r.fields.length b) (d:∃a b,y=b9 a s.fields.length b)
 (h:r.kind≠s.kind∨r.level≠s.level∨r.fields.length≠s.fields.length):
 cb prog 87 #[fE r x,fE s y] w λe w'=>e=b6 (b7 (sameR r s))/\Bw w w':=by
 have c:Hid (sameR r s=false):=pW (by rintro rfl;simp at h);obtain ⟨a,b,rfl⟩:=f;obtain ⟨g,i,rfl⟩:=d;obtain ⟨k,l,j⟩:=r;obtain ⟨n,o,m⟩:=s;simp only at h;unfold fE;rw [c.o];have H:=Z h;clear h;go_enter func87,ntmps87;go_wp2_with fail
 all_goals first
  |(go_ret;exact ⟨rfl,(an w _).alloc (by simp) _⟩)
  |(exfalso;go_tidy;have h:=H.o;clear H;simp only [ne_eq, <- UInt8.toNat_inj] at h;simp at *;omega)
theorem og (g j:UInt8) (c f:List af) (x y:bO) (w:bs) (C:ai 0 w.heap.size w x c) (D:ai 0 w.heap.size w y f) (a5:bH c) (h:c.length=f.length):
 cb prog 87 #[fE ⟨g,j,c⟩ x,fE ⟨g,j,f⟩ y] w λe w'=>e=b6 (b7 (sameR ⟨g,j,c⟩ ⟨g,j,f⟩))/\Bw w w':=by
 have V:=Z C;have HY:=Z D;obtain ⟨a,u,rfl⟩:=C.shape;obtain ⟨s,v,rfl⟩:=D.shape;obtain ⟨hn,P⟩:=a5;have T:=Z P;clear C D P;unfold fE;have F:=Z h;have a8:((c.length:Int)!=f.length)=false:=by simp [h]
 clear h;go_enter func87,ntmps87;go_wp2_with fail
 go_loopw [5,6] (λi t wr=>∃(k:Nat),k<=c.length/\i=J U k/\Hid (c.take k=f.take k)/\
  Below (w.heap.size+2) ((w.alloc (cd #[J b5 g.toNat,J b5 j.toNat,bk a c.length u] 62)).alloc (cd #[J b5 g.toNat,J b5 j.toNat,bk s f.length v] 62)) wr) (λi _ _=>c.length - (intOf i).toNat)
 case atStart=>exact ⟨0,ch _,rfl,rfl,bv _ _⟩
 case round=>
  obtain ⟨k,hk,rfl,G,r⟩:=hrel;have a9:wr.cell? ⟨w.heap.size,2,Y⟩=X (bk a c.length u):=by rw [r.cell (p:=⟨w.heap.size,2,Y⟩) (by simp)];go_simp
  have a4:wr.cell? ⟨w.heap.size+1,2,Y⟩=X (bk s f.length v):=by rw [r.cell (p:=⟨w.heap.size+1,2,Y⟩) (by simp)];go_simp
  have m:Bw w wr:=btr ((an w _).alloc (by simp) _) r (by omega);have a0:=m.size;by_cases hlt:k<c.length
  · have L:k<f.length:=by rw [<- F.o];exact hlt
    obtain ⟨b,n,a6,d,B,_,_,p0,p1,p2,p3,N⟩:=(V.kept (aY m (bc _))).field k hlt;cases B;obtain ⟨l,o,a7,H,B,_,_,q0,q1,q2,q3,O⟩:=(HY.kept (aY m (bc _))).field k L;cases B;have Q:Hid (eX c[k] f[k]=true->c.take (k+1)=f.take (k+1)):=λh=>iO k hlt L G.o ((jv _ _).1 h);have R:Hid (eX c[k] f[k]=false->sameR ⟨g,j,c⟩ ⟨g,j,f⟩=false):=λM=>pW (by intro A;injection A with _ _ A;subst A;have:=(jv c[k] c[k]).2 rfl;rw [this] at M;cases M);have K:=cp (cK c[k]) (T _ (cq hlt))
    have E:Hid (∀W,Bw wr W->cb prog 139 #[fieldV c[k] d,fieldV f[k] H] W λe w'=>e=b6 (b7 (eX c[k] f[k]))/\Bw W w'):=λW q=>
     oh _ _ _ _ W ((N.kept (aY q (by omega))).mono (bc _) (by have:=q.size;omega)) ((O.kept (aY q (by omega))).mono (bc _) (by have:=q.size;omega)) K
    unfold fieldV at E;clear N O K;generalize eX c[k] f[k]=t at *;generalize c[k].tag=f1 at *;generalize c[k].ind=f2 at *;generalize c[k].data=f3 at *;generalize f[k].tag=g1 at *;generalize f[k].ind=g2 at *;generalize f[k].data=g3 at *;have a1:(0:Int)<=k:=by omega
    have s:(k:Int)<c.length:=by omega
    have a3:(k:Int)<f.length:=by omega
    cases t
    all_goals
     go_wp2_with fail
     go_region_held3 (λw'=>w'.cell? ⟨w.heap.size,2,Y⟩=X (bk (X ⟨b,n,Y⟩) c.length u)/\w'.cell? ⟨w.heap.size+1,2,Y⟩=X (bk (X ⟨l,o,Y⟩) f.length v)
      /\w'.cell? ⟨b,n+k * 4,Y⟩=X (S f1)/\w'.cell? ⟨b,n+k * 4+1,Y⟩=X (S f2)/\w'.cell? ⟨b,n+k * 4+2,Y⟩=X (S f3)/\w'.cell? ⟨b,n+k * 4+3,Y⟩=X d
      /\w'.cell? ⟨l,o+k * 4,Y⟩=X (S g1)/\w'.cell? ⟨l,o+k * 4+1,Y⟩=X (S g2)/\w'.cell? ⟨l,o+k * 4+2,Y⟩=X (S g3)/\w'.cell? ⟨l,o+k * 4+3,Y⟩=X H) (go_keep)
      ((go_at_call 139;refine (E.o _ ?_).mono ?_;(exact (bv _ wr).drew);rintro e w3 ⟨rfl,z⟩;have ac:=fk z))
     go_wp2_with fail
    · go_ret;exact ⟨ap (R.o (by simp)).symm,btr m.drew z (by simpa using a0)⟩
    · go_roundw
      case rel=>exact ⟨k+1,by omega,by go_num,Q.o (by simp),btr r.drew z (by have:w.heap.size+1<wr.heap.size:=bm a4;simp;omega)⟩
      case measure=>simp [intOf];omega
  · go_wp2_with fail
    go_ret;refine ⟨ap ?_,m⟩;symm;rw [mZ]
    have I:=G.o;have h2:=F.o;rw [bt (by omega),bt (by omega)] at I;rw [I]
theorem yB (r s:az) (u v:bO) (w:bs) (g:ef 0 w.heap.size w u r) (i:ef 0 w.heap.size w v s) (f:bH r.fields):
 cb prog 87 #[u,v] w λe w'=>e=b6 (b7 (sameR r s))/\Bw w w':=by
 obtain ⟨x,rfl,a⟩:=g;obtain ⟨y,rfl,b⟩:=i;by_cases h:r.kind≠s.kind∨r.level≠s.level∨r.fields.length≠s.fields.length
 · exact r6 r s x y w a.shape b.shape h
 · obtain ⟨k,l,c⟩:=r;obtain ⟨j,m,d⟩:=s;simp only [ne_eq,not_or,c4] at h;obtain ⟨rfl,rfl,h⟩:=h;exact og k l c d x y w a b f h
end
section
open Go.RowKit
attribute [local go_sem ↓] Go.wp_at_zero Go.wp_at_succ
theorem wQ (r:az) (v:bO) (w:bs) (b:ef 0 w.heap.size w v r) (d:bH r.fields):
 cb prog 85 #[v] w λe w'=>e=b6 (b7 (decide (wrongR r=0)))/\Bw w w':=by
 have c:Hid (∀W,Bw w W->cb prog 122 #[v] W λe w'=>e=b6 (J U (wrongR r))/\Bw W w'):=λW a=>
  wg r v W ((b.kept (aY a (bc _))).mono (bc _) a.size) d
 obtain ⟨x,rfl,_⟩:=b;unfold fE at *;generalize wrongR r=e at *;go_enter func85,ntmps85;go_wp2_with (go_at_call 122;refine (c.o _ (an _ _)).mono ?_;rintro e w1 ⟨rfl,a⟩)
 go_ret;exact ⟨ap (by rw [bw];simp),btr (an w _) a (by simp)⟩
end
end Go.Proofs.YtjcimanddakkaaaGreatDoor
