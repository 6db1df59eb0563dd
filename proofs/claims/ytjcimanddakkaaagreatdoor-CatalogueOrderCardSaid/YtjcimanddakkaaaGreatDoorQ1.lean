/- Lemmas. -/
import Derived.Test.YtjcimanddakkaaaGreatDoorQ0
import Derived.Test.YtjcimanddakkaaaGreatDoorProg
import Derived.Deep.RegionHeld3
import Derived.Deep.DrawnRows
import Derived.Shelf.Strings.Builder1
import Derived.Shelf.Strings.SlTrimAscii
import Derived.Shelf.Unicode.DecodeAny
import Derived.Deep.DeepCutAuto
set_option maxRecDepth 100000
set_option maxHeartbeats 8000000
namespace Go.Proofs.YtjcimanddakkaaaGreatDoor
open Go.Value renaming int→J,bool→b6,pointer→b7,slice→b8
open Go.IntKind renaming u8→b4,i64→U
open Go.Ending renaming returned→b5
open _root_.Option renaming some→X,none→Y
open Go.Lib renaming hid→Z
open Go.Obj renaming cells→b9
open Tryz
open _root_.Nat renaming le_refl→bb,zero_le→cc,le_trans→ch
open Go.Value renaming slice→bc,int→cv
open Go renaming World→bk,Value→bB,Calls→bO
open _root_.List renaming take_of_length_le→bp,take_succ_eq_append_getElem→ca,getElem_mem→cl,length→cp,length_append→cq,eq_nil_of_length_eq_zero→cu
open Go.RowKit.Below renaming refl→bs,heap_setCell→cQ
open _root_.Bool renaming eq_iff_iff→bt
open _root_.UInt8 renaming ofNat→bw
open Go.Lib renaming byteCells→bA,cell_of_heap→bD,frozen_of_heap→cs,trimS→cx
open _root_.ByteArray renaming size→bT
open Go.Obj renaming cells→bY
open Go.Calls renaming mono→cb
open _root_.Array renaming getElem?_modify→cd
open Go.Addr renaming add→cg
open Go.World renaming cell?_of_block→cm,setCell→cy,ownsRow_nil→c4
open _root_.Decidable renaming not_not→cz
open Go.IntKind renaming u8→cP
section
open Go.RowKit
theorem jZ (c:UInt8) (w:bk):bO prog 109 #[J b4 c.toNat] w λe w'=>e=b5 (b6 (letterB c))/\w=w':=by
 go_enter func109,ntmps109;go_wp2;all_goals (go_ret;refine ⟨an ?_,rfl⟩;rw [bt];simp [letterB];try omega)
theorem jY (c:UInt8) (w:bk):bO prog 165 #[J b4 c.toNat] w λe w'=>e=b5 (b6 (letterB c))/\w=w':=by
 go_enter func165,ntmps165;go_wp2;all_goals (go_ret;refine ⟨an ?_,rfl⟩;rw [bt];simp [letterB];try omega)
theorem zH (c:UInt8) (w:bk):bO prog 228 #[J b4 c.toNat] w λe w'=>e=b5 (b6 (digitB c))/\w=w':=by
 go_enter func228,ntmps228;go_wp2;all_goals (go_ret;refine ⟨an ?_,rfl⟩;rw [bt];simp [digitB];try omega)
theorem pm (c:UInt8) (w:bk):bO prog 159 #[J b4 c.toNat] w λe w'=>e=b5 (b6 (fe c))/\w=w':=by
 go_enter func159,ntmps159;go_wp2;all_goals (go_ret;refine ⟨an ?_,rfl⟩;rw [bt];simp [fe];try omega)
theorem Aw (c:UInt8) (w:bk):bO prog 219 #[J b4 c.toNat] w λe w'=>e=b5 (b6 (fe c))/\w=w':=by
 go_enter func219,ntmps219;go_wp2;all_goals (go_ret;refine ⟨an ?_,rfl⟩;rw [bt];simp [fe];try omega)
theorem sk (c:UInt8) (w:bk):bO prog 156 #[J b4 c.toNat] w λe w'=>e=b5 (b6 (gj c))/\w=w':=by
 go_enter func156,ntmps156;go_wp2_with (go_at_call 159;refine (pm _ _).mono ?_;rintro e w' ⟨rfl,rfl⟩)
 all_goals (go_ret;refine ⟨an ?_,rfl⟩;rw [bt];simp [gj,fe];try omega)
theorem Cr (n m:Int):(n.tmod m+m)%m=n.emod m:=by
 rw [Int.add_emod_right];rw [Int.tmod_def];exact Int.sub_mul_emod_self_left n m _
theorem gV (n m:Int) (w:bk) (h1:1<=m) (c:m<=1000000):
 bO prog 24 #[J U n,J U m] w λe w'=>e=b5 (J U (n.emod m))/\w=w':=by
 have a:n.tmod m<m:=Int.tmod_lt_of_pos n (by omega);have b: -m<n.tmod m:=by have:=Int.lt_tmod_of_pos n (show 0<m by omega);omega
 go_enter func24,ntmps24;go_wp2;go_ret;exact ⟨aH (Cr n m),rfl⟩
open Go.RowKit
theorem AN (x:Ch) (c:UInt8) (b:Nat) (w:bk) (a:kj x) (h:tm w b x):
 bO prog 229 #[b7 (X ⟨b,0,Y⟩),J b4 c.toNat] w (mV x c b w):=by
 obtain ⟨d,c1,c2,e,f,g⟩:=h;obtain ⟨k,l,j⟩:=a;have i:=nD c;go_enter func229,ntmps229;go_wp2;all_goals go_ret
 all_goals go_tidy
 all_goals (try simp only [beq_iff_eq,beq_eq_false_iff_ne] at *)
 all_goals first
  |(refine yV (by repeat' (with_reducible (first |exact aw.refl _ _|refine aw.setCell ?_ _ _))) rfl ?_;first |exact BD (by omega) (by omega)|exact lq (by omega) (by omega))
  |(first
   |refine eE (CC (by omega) (by omega)) (by repeat' (with_reducible (first |exact aw.refl _ _|refine aw.setCell ?_ _ _))) rfl ?_
   |refine eE (sN (by omega) (by omega)) (by repeat' (with_reducible (first |exact aw.refl _ _|refine aw.setCell ?_ _ _))) rfl ?_
   |refine eE (zV (by omega) (by omega)) (by repeat' (with_reducible (first |exact aw.refl _ _|refine aw.setCell ?_ _ _))) rfl ?_
   |refine eE (B4 (by omega) (by omega)) (by repeat' (with_reducible (first |exact aw.refl _ _|refine aw.setCell ?_ _ _))) rfl ?_
   |refine eE (B3 (by omega) (by omega)) (by repeat' (with_reducible (first |exact aw.refl _ _|refine aw.setCell ?_ _ _))) rfl ?_
   |refine eE (B0 (by omega) (by omega)) (by repeat' (with_reducible (first |exact aw.refl _ _|refine aw.setCell ?_ _ _))) rfl ?_
   |refine eE (BZ (by omega) (by omega)) (by repeat' (with_reducible (first |exact aw.refl _ _|refine aw.setCell ?_ _ _))) rfl ?_
   |refine eE (BX (by omega) (by omega)) (by repeat' (with_reducible (first |exact aw.refl _ _|refine aw.setCell ?_ _ _))) rfl ?_
   |refine eE (BW (by omega) (by omega)) (by repeat' (with_reducible (first |exact aw.refl _ _|refine aw.setCell ?_ _ _))) rfl ?_)
 all_goals constructor
 all_goals go_simp
 all_goals (first |omega|(refine World.cell?_setCell_same' _ _ _ ?_;go_simp;done))
theorem j7 (l:Bs) (w:bk) (u:l.length<=1000000):
 bO prog 218 #[S l] w λe w'=>e=b5 (b6 (aR l))/\Bw w w':=by
 go_enter func218,ntmps218;go_wp2_with fail
 go_loopw [4,5] (λi f wr=>∃(k:Nat) (y:Ch),k<=l.length/\i=J U k/\chRun ch0 (l.take k)=X y/\kj y/\tm wr w.heap.size y/\Bw w wr) (λi _ _=>l.length - (intOf i).toNat)
 case atStart=>exact ⟨0,ch0,cc _,rfl,rfl,zX,zY w 297,(bs _ _).alloc (bb _) _⟩
 case round=>
  obtain ⟨k,y,t,rfl,h,d,c,b⟩:=hrel;have a:=Z h;clear h;by_cases hlt:k<l.length
  · have m:=Z (we l k hlt);go_wp2_with (go_at_call 229;refine (AN y l[k] w.heap.size wr d c).mono ?_;rintro e v ⟨g,⟨o,rfl⟩|⟨z,j,rfl,n⟩⟩)
    · go_ret;exact ⟨an (sh (uL l k y hlt ch0 a.o o.o)).symm,b.trans (g.below (bb _))⟩
    · go_roundw
      case rel=>exact ⟨k+1,z,by omega,by go_num,by rw [m.o,uK _ _ _ _ a.o];exact j.o,sS d j.o,n,b.trans (g.below (bb _))⟩
      case measure=>simp [intOf];omega
  · obtain ⟨p,c1,c2,q,r,s⟩:=c;go_wp2_with fail
    go_ret;refine ⟨an ?_,b⟩;rw [ux (by rw [<- a.o,bp (by omega)]),bt];simp;try omega
open Go.RowKit
attribute [local go_sem ↓] Go.wp_at_zero Go.wp_at_succ
theorem eZ (l:Bs) (w:bk) (a:2<=l.length):
 bO prog 217 #[S l] w λe w'=>e=b5 (b6 (fL l))/\w=w':=by
 go_enter func217,ntmps217;go_wp2;go_ret;exact ⟨an (by unfold fL;rw [bt];simp),rfl⟩
theorem fJ (l:Bs) (w:bk):
 bO prog 176 #[S l] w λe w'=>e=b5 (b6 (bu l))/\w=w':=by
 by_cases h:l.length=3
 · obtain ⟨a,b,c,rfl⟩:∃a b c,l=[a,b,c]:=by
    match l,h with
    |[a,b,c],_=>exact ⟨a,b,c,rfl⟩
   have d:∀x,x=bu [a,b,c]->Ending.returned (b6 x)=b5 (b6 (bu [a,b,c])):=λx h=>by rw [h]
   have f:=Z d;clear h d;cases ha:digitB a<;>cases hb:digitB b<;>cases hc:digitB c
   all_goals
    go_enter func176,ntmps176
    go_wp2_with (go_at_call 228;refine (zH _ _).mono ?_;rintro e w' ⟨rfl,rfl⟩)
    go_ret
    refine ⟨f _ ?_,rfl⟩
    rw [bt]
    simp [bu,ha,hb,hc]
   all_goals (by_cases x:a=48<;>by_cases y:b=48<;>by_cases z:c=48<;>simp [x,y,z])
 · have h1:((l.length:Int)==3)=false:=by simp;omega
   have d:bu l=false:=by simp [bu,h]
   go_enter func176,ntmps176;go_wp2_with fail
   go_ret;exact ⟨an d.symm,rfl⟩
theorem xQ (w:bk) (b:Nat) (c:Int) (h:w.cell? ⟨b,0,Y⟩=X (J b4 c)) (d:0<=c/\c<256):
 (convert 76 9 (b8 (X ⟨b,0,Y⟩) 1 1)).run prog w= .ok (S [bw c.toNat]) w:=by
 have:=run_convert_bytes_back (P:=prog) w 76 9 5 ⟨b,0,Y⟩ 1 [bw c.toNat] underlying76 underlying5 underlying9
  (λj a=>by
   have:j=0:=by simpa using a
   subst this
   simp [cg,h]
   omega)
 simpa using this
open Go.RowKit
attribute [local go_sem ↓] Go.wp_at_zero Go.wp_at_succ
theorem sV (f:af) (d:bB) (w:bk) (y:aD 0 w.heap.size w d f.subs) (q:(fieldBytes f).length<=1000000) (P:f.subs.length<=1000000):
 bO prog 123 #[fieldV f d] w λe w'=>e=b5 (S (fieldBytes f))/\Bw w w':=by
 obtain ⟨t,j,data,c⟩:=f;have N:data.length+j.length<=1000000:=by simp [fieldBytes] at q;omega
 have v:=Z q;have B:=Z y;obtain ⟨a,l,rfl,_⟩:=y;clear q;unfold fieldV;go_enter func123,ntmps123;go_wp2_with fail
 go_loopw [3,4] (λs i wr=>∃(k:Nat) (g:Bs),k<=c.length/\i=J U k/\s=S g/\Hid (g=data++j++(c.take k).flatMap aU)/\g.length<1000000/\
  Below (w.heap.size+1) (w.alloc (bY #[S t,S j,S data,bc a c.length l] 123)) wr) (λ_ i _=>c.length - (intOf i).toNat)
 case atStart=>exact ⟨0,data++j,cc _,rfl,rfl,(by simp [Hid]),(by have:=bN ⟨t,j,data,c⟩ 0;have:=v.o;simp at *;omega),bs _ _⟩
 case round=>
  obtain ⟨k,g,M,rfl,rfl,u,L,m⟩:=hrel;have n:wr.cell? ⟨w.heap.size,3,Y⟩=X (bc a c.length l):=by rw [m.cell (p:=⟨w.heap.size,3,Y⟩) (by simp)];go_simp
  by_cases hlt:k<c.length
  · have D:aD 0 w.heap.size wr (bc a c.length l) c:=(B.o.kept (aX ((bs _ w).alloc (bb _) _) (bb _))).kept (aX m (by omega));obtain ⟨b,r,K,E,_,_,z,A⟩:=D.sub k hlt;cases E;have x:Hid (g++(31::c[k].code::c[k].text)=data++j++(c.take (k+1)).flatMap aU):=by rw [kf _ _ _ hlt,u.o];simp [Hid,aU]
    have O:g.length+2+c[k].text.length<1000000:=by have:=bN ⟨t,j,data,c⟩ (k+1);simp only at this;rw [<- x.o] at this;have:=v.o;simp at *;omega
    have Q:=λW b (h:W.cell? ⟨b,0,Y⟩=X (J b4 c[k].code.toNat))=>xQ W b _ h ⟨yn _,nD _⟩;generalize c[k].text=T at *;generalize c[k].code=C at *;have G:∀o,(wr.alloc o).cell? ⟨w.heap.size,3,Y⟩=X (bc (X ⟨b,r,Y⟩) c.length l):=λo=>by rw [aV _ _ _ _ (bi n)];exact n
    have H:∀o,(wr.alloc o).cell? ⟨b,r+k * 2,Y⟩=X (J b4 C.toNat):=λo=>by rw [aV _ _ _ _ (bi z)];exact z
    have I:∀o,(wr.alloc o).cell? ⟨b,r+k * 2+1,Y⟩=X (S T):=λo=>by rw [aV _ _ _ _ (bi A)];exact A
    have F:¬9223372036854775807<cp g+1:=by omega
    have R:¬9223372036854775807<cp g+1+1:=by omega
    have V:¬9223372036854775807<cp g+1+1+cp T:=by omega
    go_wp2_with fail
    go_region;go_wp2_with fail
    go_roundw
    case rel=>
     refine ⟨k+1,g++(31::C::T),by omega,by go_num,?_,x,by simp;omega,?_⟩
     · simp
     · exact (m.alloc (by have:w.heap.size<wr.heap.size:=bi n;omega) _).drew
    case measure=>simp [intOf];omega
  · have F:¬9223372036854775807<cp g+1:=by omega
    go_wp2_with fail
    go_ret;refine ⟨vv ?_,btr ((bs _ w).alloc (bb _) _) m (by omega)⟩;rw [u.o,bp (by omega)];rfl
end
section
open Go.RowKit
theorem mI (l:Bs) (w:bk):∃c w1,(convert 9 76 (S l)).run prog w= .ok (b8 (X ⟨w.heap.size,0,Y⟩) l.length c) w1/\w1.heap.size=w.heap.size+1/\l.length<=c/\Bw w w1/\
 (∀k (h:k<l.length),w1.cell? ⟨w.heap.size,k,Y⟩=X (J b4 l[k].toNat))/\(∀k,k<l.length->w1.frozen? ⟨w.heap.size,k,Y⟩=false):=by
 have e:l.length<=grownCap w l.length 0 5:=grownCap_ge w l.length 0 5;refine ⟨_,_,run_bytes_of_string w 9 76 5 ⟨l.toArray⟩ underlying9 underlying76 underlying5,by simp,e,((bs _ w).drew).alloc (by simp) _,?_,?_⟩
 · intro k h;refine (World.cell?_alloc_mark w.drew _ _ _ k).trans ?_;have a:k<(Array.map (λb:UInt8=>cv cP ↑b.toNat) (⟨l.toArray⟩:ByteArray).data).size:=by simpa using h
   unfold bytesRow;rw [Array.getElem?_append_left a];simp [h]
 · intro k h;refine (World.frozen?_alloc_mark w.drew _ _ _ _ k).trans ?_;have a:k<(bytesRow ⟨l.toArray⟩ (grownCap w l.length 0 5)).size:=by unfold bytesRow;simp;omega
   have d:(decide ((bytesRow ⟨l.toArray⟩ (grownCap w l.length 0 5)).size<=k))=false:=by simpa using a
   show (decide ((bytesRow ⟨l.toArray⟩ (grownCap w l.length 0 5)).size<=k)&&_)=false;rw [d];rfl
def pH (p s:Bs):Bool:=decide (s.take p.length=p)
theorem p9 (s p:Bs) (w:bk):bO prog 273 #[S s,S p] w λe w'=>e=b5 (b6 (pH p s))/\w=w':=by
 go_enter func273,ntmps273;go_wp2;all_goals go_ret
 all_goals refine ⟨an ?_,rfl⟩
 · rw [pH,bt];simp
 · rename_i h;symm;rw [pH,decide_eq_false_iff_not]
   intro a;apply h;rw [<- a];simp;omega
theorem gk (s p:Bs) (w:bk):bO prog 205 #[S s,S p] w λe w'=>e=b5 (b6 (pH p s))/\w=w':=by
 go_enter func205,ntmps205;go_wp2_with (go_at_call 273;refine (p9 _ _ _).mono ?_;rintro e w' ⟨rfl,rfl⟩)
 go_ret;exact ⟨rfl,rfl⟩
theorem mD (l:Bs) (w:bk):bO prog 154 #[S l] w λe w'=>e=b5 (b6 (fL l))/\w=w':=by
 go_enter func154,ntmps154;go_wp2_with (go_at_call 205;refine (gk _ [48,48] _).mono ?_;rintro e w' ⟨rfl,rfl⟩)
 go_ret;exact ⟨rfl,rfl⟩
open Go.Shelf
def r6:Go.Shelf.Ren:=⟨λ|160=>204|232=>267|231=>266|227=>268|234=>270|233=>269|236=>272|235=>271|228=>307|271=>308|151=>235|197=>278|120=>330|152=>284|260=>310|137=>246|119=>312|224=>313|225=>314|217=>291|266=>323|n=>n,λ|9=>9|4=>4|3=>3|5=>5|117=>328|116=>327|0=>0|124=>331|21=>21|105=>334|46=>218|119=>383|139=>386|138=>385|n=>n,λ|3=>0|4=>1|n=>n⟩
theorem A3:Go.Proofs.Lays.n160 prog r6:={
 mixed:=by kernel_rfl
 f119:=Qf func312
 f120:=Qf func330
 f137:=Qf func246
 f151:=Qf func235
 f152:=Qf func284
 f160:=Qf func204
 f197:=Qf func278
 f217:=Qf func291
 f224:=Qf func313
 f225:=Qf func314
 f227:=Qf func268
 f228:=Qf func307
 f231:=Qf func266
 f232:=Qf func267
 f233:=Qf func269
 f234:=Qf func270
 f235:=Qf func271
 f236:=Qf func272
 f260:=Qf func310
 f266:=Qf func323
 f271:=Qf func308
 t0:=underlying0
 a0:=Tryz.isAgg0
 z0:=sizeOf0
 v0:=zeroValue0
 t3:=underlying3
 a3:=Tryz.isAgg3
 z3:=sizeOf3
 v3:=zeroValue3
 t4:=underlying4
 a4:=Tryz.isAgg4
 z4:=sizeOf4
 v4:=zeroValue4
 t5:=underlying5
 a5:=Tryz.isAgg5
 z5:=sizeOf5
 v5:=zeroValue5
 t9:=underlying9
 a9:=Tryz.isAgg9
 z9:=sizeOf9
 v9:=zeroValue9
 t21:=underlying21
 a21:=Tryz.isAgg21
 z21:=sizeOf21
 v21:=zeroValue21
 t46:=underlying218
 a46:=Tryz.isAgg218
 z46:=sizeOf218
 v46:=zeroValue218
 t105:=underlying334
 a105:=Tryz.isAgg334
 z105:=sizeOf334
 v105:=zeroValue334
 t116:=underlying327
 a116:=Tryz.isAgg327
 z116:=sizeOf327
 t117:=underlying328
 a117:=Tryz.isAgg328
 z117:=sizeOf328
 v117:=zeroValue328
 t119:=underlying383
 a119:=Tryz.isAgg383
 z119:=sizeOf383
 t124:=underlying331
 a124:=Tryz.isAgg331
 z124:=sizeOf331
 v124:=zeroValue331
 t138:=underlying385
 a138:=Tryz.isAgg385
 z138:=sizeOf385
 v138:=zeroValue385
 t139:=underlying386
 a139:=Tryz.isAgg386
 z139:=sizeOf386
 v139:=zeroValue386
 g3:=by kernel_rfl
 g4:=by kernel_rfl}
def kF:Go.Shelf.Ren:=⟨λ|240=>161|276=>207|n=>n,λ|0=>0|4=>4|9=>9|20=>20|70=>185|72=>187|164=>282|37=>76|5=>5|n=>n,λ|n=>n⟩
theorem vE:Go.Proofs.Lays.n240 prog kF:={
 mixed:=by kernel_rfl
 f240:=Qf func161
 f276:=Qf func207
 t0:=underlying0
 a0:=Tryz.isAgg0
 z0:=sizeOf0
 v0:=zeroValue0
 t4:=underlying4
 a4:=Tryz.isAgg4
 z4:=sizeOf4
 v4:=zeroValue4
 t9:=underlying9
 a9:=Tryz.isAgg9
 z9:=sizeOf9
 v9:=zeroValue9
 t20:=underlying20
 a20:=Tryz.isAgg20
 z20:=sizeOf20
 v20:=zeroValue20
 t70:=underlying185
 a70:=Tryz.isAgg185
 z70:=sizeOf185
 v70:=zeroValue185
 t72:=underlying187
 a72:=Tryz.isAgg187
 z72:=sizeOf187
 v72:=zeroValue187
 t164:=underlying282
 a164:=Tryz.isAgg282
 z164:=sizeOf282
 v164:=zeroValue282}
theorem mJ:Builder.X72 prog kF:={sizeBuilder:=by kernel_rfl,liesBuilder:=by kernel_rfl}
open Go.RowKit in
theorem mB (b:Nat) (w:bk) (a:w.cell? ⟨b,0,Y⟩=X (b7 (X ⟨b,0,Y⟩))):
 bO prog 161 #[b7 (X ⟨b,0,Y⟩)] w λe w'=>e=b5 (.tuple #[])/\w'=w:=Any.Builder_copyCheck_used vE mJ b w a
open Go.RowKit in
theorem kW (b:Nat) (w:bk) (a:w.cell? ⟨b,0,Y⟩=X (b7 Y)) (d:w.shape? b=X (187,2)) (c:w.frozen? ⟨b,0,Y⟩=false):
 bO prog 161 #[b7 (X ⟨b,0,Y⟩)] w λe w'=>e=b5 (.tuple #[])/\w'=w.setCell ⟨b,0,Y⟩ (b7 (X ⟨b,0,Y⟩)):=Any.Builder_copyCheck_fresh vE mJ b w a d c
open Go.RowKit in
open Go.RowKit in
open Go.RowKit in
theorem oW (s:ByteArray) (w:bk) (a:s.size<=9223372036854775807):
 bO prog 204 #[.string s, .string ⟨#[48,49,50,51,52,53,54,55,56,57]⟩] w λe w'=>e=b5 (.string ⟨(cx s.data.toList [48,49,50,51,52,53,54,55,56,57]).toArray⟩)/\Bw w w':=
 Any.strings_Trim_laid A3 (by kernel_rfl) s ⟨#[48,49,50,51,52,53,54,55,56,57]⟩ w a (by decide) (ascii_of_all (by decide))
open Go.RowKit
def jg:Bs:=[48,49,50,51,52,53,54,55,56,57]
theorem mA (b:UInt8):jg.contains b=digitB b:=by
 have:∀n:Fin 256,jg.contains (bw n.val)=digitB (bw n.val):=by decide+kernel
 have h:=this ⟨b.toNat,b.toNat_lt⟩;simpa using h
theorem lF (l:Bs):cx l jg=[]↔l.all digitB=true:=by
 have h1:∀l:Bs,l.dropWhile (jg.contains ·)=[]↔l.all digitB=true:=by
  intro l;induction l with
  |nil=>simp
  |cons a l ih=>
   rw [List.dropWhile_cons];by_cases h:digitB a=true
   · rw [if_pos (by rw [mA];exact h),ih];simp [h]
   · rw [if_neg (by rw [mA];exact h)];simp [h]
 unfold cx Lib.trimLeftS;rw [h1];unfold Lib.trimRightS;constructor
 · intro h;have b:(l.reverse.dropWhile (jg.contains ·))=[]:=by
    cases hd:l.reverse.dropWhile (jg.contains ·) with
    |nil=>rfl
    |cons a r=>
     exfalso;have d:¬(jg.contains a)=true:=by have c:=List.head?_dropWhile_not (jg.contains ·) l.reverse;rw [hd] at c;simp only [List.head?_cons] at c;rw [c];simp
     rw [hd] at h;rw [List.all_eq_true] at h;have:=h a (by simp);rw [mA] at d;exact d this
   have:=(h1 l.reverse).1 b;simpa using this
 · intro h;have b:(l.reverse.dropWhile (jg.contains ·))=[]:=(h1 l.reverse).2 (by simpa using h);rw [b];rfl
theorem tE (l:Bs) (w:bk):bO prog 153 #[S l] w λe w'=>e=b5 (b6 (bu l))/\Bw w w':=by
 by_cases h:l.length=3
 · by_cases hz:l=[48,48,48]
   · subst hz;go_enter func153,ntmps153;go_wp2_with fail
     go_ret;exact ⟨rfl,bs _ _⟩
   · have b:Hid (bu l=l.all digitB):=by unfold Hid;simp [bu,h,hz]
     have h1:((l.length:Int)==3)=true:=by simp;omega
     have a:Hid (∀W,bO prog 204 #[S l, .string ⟨#[48,49,50,51,52,53,54,55,56,57]⟩] W λe w'=>e=b5 (S (cx l jg))/\Bw W w'):=λW=>oW ⟨l.toArray⟩ W (by have:(⟨l.toArray⟩:ByteArray).size=l.length:=rfl;omega);have c:=Z (lF l);clear h;generalize cx l jg=t at *;go_enter func153,ntmps153;go_wp2_with (go_at_call 204;((with_reducible refine cb (a.o _) ?_);rintro e w' ⟨rfl,f⟩))
     go_ret;refine ⟨an ?_,f⟩;rw [b.o,bt, <- c.o];simp [hz]
 · have h1:((l.length:Int)==3)=false:=by simp;omega
   have d:bu l=false:=by simp [bu,h]
   go_enter func153,ntmps153;go_wp2_with fail
   go_ret;exact ⟨an d.symm,bs _ _⟩
end
section
open Go.RowKit
theorem tm.of {b:Nat} {w w':bk} {x:Ch} (h:tm w b x) (d:w'.heap[b]? =w.heap[b]?):tm w' b x:=by
 have a:∀i,w'.cell? ⟨b,i,Y⟩=w.cell? ⟨b,i,Y⟩:=λi=>cm (w:=w) d;have c:∀i,w'.frozen? ⟨b,i,Y⟩=w.frozen? ⟨b,i,Y⟩:=λi=>World.frozen?_of_block (w:=w) d;exact ⟨by rw [a];exact h.c0,by rw [a];exact h.c1,by rw [a];exact h.c2,by rw [c];exact h.f0,by rw [c];exact h.f1,by rw [c];exact h.f2⟩
theorem aG (w:bk) (a b:Addr) (u:bB):(w.setCell a u).frozen? b=w.frozen? b:=by
 unfold World.frozen? cy;simp only [cd];by_cases h:a.block=b.block
 · rw [if_pos h, <- h];cases w.heap[a.block]? with
   |none=>rfl
   |some o=>cases o<;>rfl
 · rw [if_neg h]
theorem zu (a:List cB):(a.flatMap subCells).length=a.length * 2:=by
 induction a with
 |nil=>rfl
 |cons s l ih=>rw [List.flatMap_cons,cq,ih];simp [subCells];omega
theorem aM (w:bk) (o:Obj):Bw w (w.alloc o):=(bs _ w).alloc (bb _) o
theorem bF {w:bk} {B:Nat} {e:TypeId} {k:Nat} {v:bB} {n:Nat} {c:List bB} (h:w.ownsRow B e k v n c):∃a b,v=b8 a n b:=by
 rcases h.2 with ⟨rfl,rfl⟩|⟨g,b,d,rfl,_⟩
 · exact ⟨Y,0,rfl⟩
 · exact ⟨_,_,rfl⟩
open Go.RowKit
def bm (lo:Nat) (g:Option Nat) (w:bk) (v:bB) (c:List cB):Prop:=
 ∃a e,v=b8 a c.length e/\(c≠[]->∃b d,a=X ⟨b,d,Y⟩/\lo<=b/\b<w.heap.size/\g≠X b/\∀j x,(c.flatMap subCells)[j]? =X x->w.cell? ⟨b,d+j,Y⟩=X x)
theorem qg {a:List cB}:a.flatMap subCells≠[]↔a≠[]:=by
 cases a with
 |nil=>simp
 |cons s l=>simp [subCells]
theorem bm.at {lo:Nat} {g:Option Nat} {w:bk} {v:bB} {c:List cB} (h:bm lo g w v c):aD lo w.heap.size w v c:=by
 obtain ⟨a,d,k,h⟩:=h;refine ⟨a,d,k,λj=>?_⟩;obtain ⟨b,l,h1,e,f,_,i⟩:=h (qg.1 j);exact ⟨b,l,h1,e,f,i⟩
theorem bm.of {lo c:Nat} {g:Option Nat} {w:bk} {v:bB} {d:List cB} (h:aD lo w.heap.size w v d) (q:c<=lo) (m:∀k,g=X k->k<lo):bm c g w v d:=by
 obtain ⟨a,f,n,h⟩:=h;refine ⟨a,f,n,λl=>?_⟩;obtain ⟨b,o,h1,p,i,j⟩:=h (qg.2 l);exact ⟨b,o,h1,by omega,i,λe=>by have:=m b e;omega,j⟩
theorem bm.step {lo:Nat} {g c:Option Nat} {w w':bk} {v:bB} {i:List cB} (h:bm lo g w v i) (q:∀k,lo<=k->k<w.heap.size->g≠X k->w'.heap[k]? =w.heap[k]?) (y:w.heap.size<=w'.heap.size)
 (p:c=g∨∃k,c=X k/\w.heap.size<=k):bm lo c w' v i:=by
 obtain ⟨a,l,r,h⟩:=h;refine ⟨a,l,r,λo=>?_⟩;obtain ⟨b,t,h1,d,m,f,n⟩:=h o;refine ⟨b,t,h1,d,by omega,?_,λj x s=>by rw [cm (w:=w) (q b d m f)];exact n j x s⟩;rcases p with rfl|⟨k,rfl,u⟩
 · exact f
 · intro e;injection e;omega
structure bK (lo:Nat) (w:bk) (v:bB) (fs:List af):Prop where
 ex:∃ps:List (af×bB),ps.map (·.1)=fs/\(∀p∈ps,bm lo v.ownBlock w p.2 p.1.subs)/\w.ownsRow lo 123 4 v fs.length (ps.flatMap fieldCells)
theorem bK.nil (lo:Nat) (w:bk):bK lo w (b8 Y 0 0) []:=⟨⟨[],rfl,by simp,c4 _ _ _ _⟩⟩
theorem bK.shape {lo:Nat} {w:bk} {v:bB} {b:List af} (h:bK lo w v b):∃a c,v=b8 a b.length c:=by
 obtain ⟨ps,_,_,h⟩:=h.ex;exact bF h
theorem bK.keep {lo:Nat} {w w':bk} {v:bB} {c:List af} (h:bK lo w v c) (i:∀k,lo<=k->k<w.heap.size->w'.heap[k]? =w.heap[k]?) (s:w.heap.size<=w'.heap.size):bK lo w' v c:=by
 obtain ⟨ps,h1,m,d⟩:=h.ex;refine ⟨⟨ps,h1,λp o=>(m p o).step (λk a b _=>i k a b) s (.inl rfl),?_⟩⟩;refine ⟨d.1,?_⟩;rcases d.2 with n|⟨g,j,l,r,e,f,q⟩
 · exact .inl n
 · refine .inr ⟨g,j,l,r,e,?_,q⟩;rw [i g e (Array.getElem?_eq_some_iff.1 f).1];exact f
theorem bK.app {lo:Nat} {w1 e:bk} {v c:bB} {g:List af} (f:af) (d:bB) (ps:List (af×bB)) (h1:ps.map (·.1)=g) (m:∀p∈ps,bm lo v.ownBlock w1 p.2 p.1.subs) (n:bm lo v.ownBlock w1 d f.subs)
 (r:e.ownsRow lo 123 4 c (g.length+1) (ps.flatMap fieldCells++fieldCells (f,d))) (j:w1.grownBy e v.ownBlock) (b:c.ownBlock=v.ownBlock∨c.ownBlock=X w1.heap.size):bK lo e c (g++[f]):=by
 have l:∀x i,bm lo v.ownBlock w1 x i->bm lo c.ownBlock e x i:=λx i h=>
  h.step (λk _ o q=>j.block k o (Ne.symm q)) j.size (by rcases b with b|b;exact .inl b;exact .inr ⟨_,b,bb _⟩)
 refine ⟨⟨ps++[(f,d)],by simp [h1],?_,by simpa using r⟩⟩;intro p a;rcases List.mem_append.1 a with a|a
 · exact l _ _ (m p a)
 · simp at a;subst a;exact l _ _ n
theorem bK.fields {lo d:Nat} {w:bk} {v:bB} {b:List af} (h:bK lo w v b) (l:d<=lo):ai d w.heap.size w v b:=by
 obtain ⟨ps,h1,f,a⟩:=h.ex;refine ⟨ps,h1,λp n=>(f p n).at.mono l (bb _),?_⟩;have t:ps.length=b.length:=by rw [<- h1];simp
 rcases a.2 with ⟨rfl,e⟩|⟨g,o,q,rfl,r,s,u⟩
 · refine ⟨Y,0,by rw [e],λk=>?_⟩;have:ps=[]:=cu (by omega);subst this;exact absurd rfl k
 · have m:=a.lt g (by simp [Value.ownBlock]);refine ⟨_,_,rfl,λ_=>⟨g,0,rfl,by omega,m.2,λj x c=>?_⟩⟩;have i:=a.cellAt j (by have:=(List.getElem?_eq_some_iff.1 c).1;rw [a.1] at this;exact this);rw [Nat.zero_add,i];exact c
theorem vf (f:af) (i:Nat) (h:i<f.subs.length):f.subs[i].text.length<=(fieldBytes f).length:=by
 have:=bN f (i+1);rw [kf _ _ _ h] at this;simp [aU] at this;omega
theorem yg (f:af) (h:bu f.tag=false):wrongF f=13:=by simp [wrongF,h]
theorem uY (f:af) (h:bu f.tag=true) (a:fL f.tag=true):wrongF f=if aR f.data&&decide (f.ind=[])&&f.subs.isEmpty then 0 else 14:=by simp [wrongF,h,a]
theorem oS (f:af) (h:bu f.tag=true) (a:fL f.tag=false):wrongF f=if decide (f.data=[])&&iL f.ind&& !f.subs.isEmpty&&f.subs.all dt then 0 else 14:=by simp [wrongF,h,a]
theorem pD (f:af) (d:bB) (w:bk) (h:bu f.tag=false):
 bO prog 166 #[fieldV f d] w λe w'=>e=b5 (J U (wrongF f))/\Bw w w':=by
 have a:=Z (yg f h);obtain ⟨g,b,data,c⟩:=f;simp only at h;unfold fieldV;go_enter func166,ntmps166;go_wp2_with (go_at_call 176;refine (fJ _ _).mono ?_;rintro e w' ⟨rfl,rfl⟩)
 go_ret;exact ⟨aH a.symm,(bs _ w).alloc (bb _) _⟩
theorem nk (f:af) (d:bB) (w:bk) (m:∃a g,d=b8 a f.subs.length g) (n:(fieldBytes f).length<=1000000) (h:bu f.tag=true) (b:fL f.tag=true):
 bO prog 166 #[fieldV f d] w λe w'=>e=b5 (J U (wrongF f))/\Bw w w':=by
 have k:=Z (uY f h b);obtain ⟨a,g,rfl⟩:=m;have c:=bN f 0;have j:=fI h;obtain ⟨q,s,data,t⟩:=f;simp only at h b c j;have o:data.length<=1000000:=by simp at c;omega
 have p:2<=q.length:=by omega
 clear c j n;unfold fieldV;cases ht:aR data
 all_goals
  go_enter func166,ntmps166
  go_wp2_with first
   |(go_at_call 176;refine (fJ _ _).mono ?_;rintro e w' ⟨rfl,rfl⟩)
   |(go_at_call 217;refine (eZ _ _ p).mono ?_;rintro e w' ⟨rfl,rfl⟩)
   |(go_at_call 218;refine (j7 _ _ o).mono ?_;rintro e w1 ⟨rfl,i⟩;obtain ⟨b,r⟩:=aE i)
  all_goals go_ret
  all_goals refine ⟨aH (k.o.trans ?_).symm,btr ((bs _ w).alloc (bb _) _) i (by simp)⟩
  all_goals go_tidy
  all_goals simp_all
  all_goals (try (intro l;subst l;simp at *))
theorem pE (f:af) (d:bB) (w:bk) (o:∃a j,d=b8 a f.subs.length j) (h:bu f.tag=true) (l:fL f.tag=false)
 (c:(decide (f.data=[])&&iL f.ind&& !f.subs.isEmpty)=false):
 bO prog 166 #[fieldV f d] w λe w'=>e=b5 (J U (wrongF f))/\Bw w w':=by
 have g:Hid (wrongF f=14):=by rw [oS f h l,c];rfl
 obtain ⟨a,j,rfl⟩:=o;have m:=fI h;obtain ⟨s,b,data,r⟩:=f;simp only at h l m c;have i:2<=s.length:=by omega
 clear m;unfold fieldV;by_cases hd0:data=[]
 · subst hd0;by_cases hi:b.length=2
   · obtain ⟨p,q,rfl⟩:∃p q,b=[p,q]:=by
      match b,hi with
      |[p,q],_=>exact ⟨p,q,rfl⟩
     have n:=Z c;clear c hi;have z:=nD p;have A:=nD q;go_enter func166,ntmps166
     go_wp2_with first
      |(go_at_call 176;refine (fJ _ _).mono ?_;rintro e w' ⟨rfl,rfl⟩)
      |(go_at_call 217;refine (eZ _ _ i).mono ?_;rintro e w' ⟨rfl,rfl⟩)
     all_goals first
      |(go_ret;exact ⟨aH g.symm,(bs _ w).alloc (bb _) _⟩)
      |(exfalso
        go_tidy
        have k:=n.o
        simp [iL,gj] at k
        simp at *
        have:r=[]:=k (by omega) (by omega) (by omega) (by omega)
        subst this
        simp at *)
   · have x:((b.length:Int)==2)=false:=by simp;omega
     have y:((b.length:Int)!=2)=true:=by simp;omega
     go_enter func166,ntmps166
     go_wp2_with first
      |(go_at_call 176;refine (fJ _ _).mono ?_;rintro e w' ⟨rfl,rfl⟩)
      |(go_at_call 217;refine (eZ _ _ i).mono ?_;rintro e w' ⟨rfl,rfl⟩)
     go_ret;exact ⟨aH g.symm,(bs _ w).alloc (bb _) _⟩
 · have t:(data==[])=false:=by simpa using hd0
   have u:(data !=[])=true:=by simpa using hd0
   have v:data.isEmpty=false:=by simpa using hd0
   go_enter func166,ntmps166
   go_wp2_with first
    |(go_at_call 176;refine (fJ _ _).mono ?_;rintro e w' ⟨rfl,rfl⟩)
    |(go_at_call 217;refine (eZ _ _ i).mono ?_;rintro e w' ⟨rfl,rfl⟩)
   go_ret;exact ⟨aH g.symm,(bs _ w).alloc (bb _) _⟩
theorem nj (f:af) (d:bB) (w:bk) (F:aD 0 w.heap.size w d f.subs) (B:(fieldBytes f).length<=1000000) (P:f.subs.length<=1000000) (h:bu f.tag=true) (z:fL f.tag=false)
 (l:(decide (f.data=[])&&iL f.ind&& !f.subs.isEmpty)=true):
 bO prog 166 #[fieldV f d] w λe w'=>e=b5 (J U (wrongF f))/\Bw w w':=by
 have x:Hid (wrongF f=if f.subs.all dt then 0 else 14):=by rw [oS f h z,l];rfl
 have D:=fI h;have H:=Z (λi h=>ch (vf f i h) B);obtain ⟨r,o,data,c⟩:=f;simp only at h z D l P;have O:2<=r.length:=by omega
 simp only [Bool.and_eq_true,decide_eq_true_eq,Bool.not_eq_true'] at l;obtain ⟨⟨rfl,m⟩,G⟩:=l;have A:o.length=2:=by simp [iL] at m;exact m.1
 obtain ⟨p,q,rfl⟩:∃p q,o=[p,q]:=by
  match o,A with
  |[p,q],_=>exact ⟨p,q,rfl⟩
 simp [iL,gj] at m;obtain ⟨⟨a0,a1⟩,a2,a3⟩:=m;have a4:0<c.length:=by cases c with |nil=>simp at G|cons _ _=>simp
 have a5:((c.length:Int)==0)=false:=beq_eq_false_iff_ne.2 (by omega);have I:=Z F;obtain ⟨a,n,rfl,_⟩:=F;clear B D G A;unfold fieldV;go_enter func166,ntmps166
 go_wp2_with first
  |(go_at_call 176;refine (fJ _ _).mono ?_;rintro e w' ⟨rfl,rfl⟩)
  |(go_at_call 217;refine (eZ _ _ O).mono ?_;rintro e w' ⟨rfl,rfl⟩)
 go_loopw [5,6] (λi t wr=>∃(k:Nat),k<=c.length/\i=J U k/\Hid ((c.take k).all dt=true)/\
  Below (w.heap.size+1) (w.alloc (bY #[S r,S [p,q],S [],bc a c.length n] 123)) wr) (λi _ _=>c.length - (intOf i).toNat)
 case atStart=>exact ⟨0,cc _,rfl,rfl,bs _ _⟩
 case round=>
  obtain ⟨k,hk,rfl,s,g⟩:=hrel;have L:wr.cell? ⟨w.heap.size,3,Y⟩=X (bc a c.length n):=by rw [g.cell (p:=⟨w.heap.size,3,Y⟩) (by simp)];go_simp
  by_cases hlt:k<c.length
  · have Q:aD 0 w.heap.size wr (bc a c.length n) c:=(I.o.kept (aX ((bs _ w).alloc (bb _) _) (bb _))).kept (aX g (by omega));obtain ⟨b,a6,W,V,_,_,R,hx⟩:=Q.sub k hlt;cases V;have E:c[k].text.length<=1000000:=H k hlt;have K:Hid ((c.take (k+1)).all dt=(aR c[k].text&&fe c[k].code)):=by rw [ca hlt,List.all_append,s.o];simp [Hid,dt]
    have u:Hid (dt c[k]=false->wrongF ⟨r,[p,q],[],c⟩=14):=by intro h;rw [x.o,if_neg];intro y;rw [List.all_eq_true] at y;have:=y _ (cl hlt);simp [h] at this
    have v:Hid (dt c[k]=(aR c[k].text&&fe c[k].code)):=rfl;have h1:w.heap.size<wr.heap.size:=bi L;have h2:b<wr.heap.size:=bi R;generalize c[k].text=T at *;generalize c[k].code=C at *;cases ht1:aR T
    · go_wp2_with (go_at_call 218;refine (j7 _ _ E).mono ?_;rintro e w1 ⟨rfl,j⟩;obtain ⟨M,N⟩:=aE j)
      go_ret;exact ⟨aH (u.o (by rw [v.o,ht1];rfl)).symm,btr ((bs _ w).alloc (bb _) _) (btr g j (by omega)) (by omega)⟩
    · cases hs2:fe C
      all_goals
       go_wp2_with first
        |(go_at_call 218;refine (j7 _ _ E).mono ?_;rintro e w1 ⟨rfl,j⟩;obtain ⟨M,N⟩:=aE j)
        |(go_at_call 219;refine (Aw _ _).mono ?_;rintro e w' ⟨rfl,rfl⟩)
      · go_ret;exact ⟨aH (u.o (by rw [v.o,ht1,hs2];rfl)).symm,btr ((bs _ w).alloc (bb _) _) (btr g j (by omega)) (by omega)⟩
      · go_roundw
        case rel=>exact ⟨k+1,by omega,by go_num,by rw [K.o,ht1,hs2];rfl,btr g j (by omega)⟩
        case measure=>simp [intOf];omega
  · go_wp2_with fail
    go_ret;refine ⟨aH (x.o.trans ?_).symm,btr ((bs _ w).alloc (bb _) _) g (by omega)⟩;rw [if_pos (by rw [<- s.o,bp (by omega)])]
theorem rC (f:af) (d:bB) (w:bk) (i:aD 0 w.heap.size w d f.subs) (g:(fieldBytes f).length<=1000000) (j:f.subs.length<=1000000):
 bO prog 166 #[fieldV f d] w λe w'=>e=b5 (J U (wrongF f))/\Bw w w':=by
 have c:∃a b,d=b8 a f.subs.length b:=by obtain ⟨a,b,h,_⟩:=i;exact ⟨a,b,h⟩
 cases h:bu f.tag
 · exact pD f d w h
 · cases hc:fL f.tag
   · cases hg:(decide (f.data=[])&&iL f.ind&& !f.subs.isEmpty)
     · exact pE f d w c h hc hg
     · exact nj f d w i g j h hc hg
   · exact nk f d w c g h hc
theorem am (w:bk) (o:Obj):Bw w (w.alloc o):=(bs _ w).alloc (bb _) o
theorem nA (r:az) (h:(letterB r.kind&&letterB r.level)=false):wrongR r=12:=by
 unfold wrongR;rw [if_pos];cases h1:letterB r.kind<;>cases h2:letterB r.level<;>simp_all
theorem qN (r:az) (h:letterB r.kind=true) (a:letterB r.level=true) (b:aI r.fields≠0):wrongR r=aI r.fields:=by
 simp [wrongR,h,a,b]
theorem oP (r:az) (h:letterB r.kind=true) (a:letterB r.level=true) (b:aI r.fields=0):
 wrongR r=if bL r.fields||decide (999<r.fields.length)||decide (99999<sizeOf r.fields) then 2 else 0:=by
 simp [wrongR,h,a,b]
theorem kR (r:az) (x:bB) (w:bk) (h:(letterB r.kind&&letterB r.level)=false):
 bO prog 122 #[fY r x] w λe w'=>e=b5 (J U (wrongR r))/\Bw w w':=by
 have a:=Z (nA r h);obtain ⟨b,c,d⟩:=r;simp only at h;unfold fY;cases hk:letterB b
 · go_enter func122,ntmps122;go_wp2_with (go_at_call 165;refine (jY _ _).mono ?_;rintro e w' ⟨rfl,rfl⟩)
   go_ret;exact ⟨aH a.symm,am _ _⟩
 · have f:letterB c=false:=by simpa [hk] using h
   clear h;go_enter func122,ntmps122;go_wp2_with (go_at_call 165;refine (jY _ _).mono ?_;rintro e w' ⟨rfl,rfl⟩)
   go_ret;exact ⟨aH a.symm,am _ _⟩
theorem m8 (r:az) (x:bB) (w:bk) (D:ai 0 w.heap.size w x r.fields) (R:bR r.fields) (h:letterB r.kind=true) (q:letterB r.level=true):
 bO prog 122 #[fY r x] w λe w'=>e=b5 (J U (wrongR r))/\Bw w w':=by
 have H:=Z (qN r h q);have K:=Z (oP r h q);obtain ⟨A,B,c⟩:=r;simp only at h q D R;have M:=Z D;obtain ⟨a,o,rfl⟩:=D.shape;obtain ⟨hn,T⟩:=R;have N:=Z T;clear D T;unfold fY;go_enter func122,ntmps122;go_wp2_with (go_at_call 165;refine (jY _ _).mono ?_;rintro e w' ⟨rfl,rfl⟩)
 go_loopw [3,4] (λi t wr=>∃(k:Nat),k<=c.length/\i=J U k/\Hid (aI (c.take k)=0)/\
  Below (w.heap.size+1) (w.alloc (bY #[J b4 A.toNat,J b4 B.toNat,bc a c.length o] 62)) wr) (λi _ _=>c.length - (intOf i).toNat)
 case atStart=>exact ⟨0,cc _,rfl,rfl,bs _ _⟩
 case round=>
  obtain ⟨k,P,rfl,l,g⟩:=hrel;have C:wr.cell? ⟨w.heap.size,2,Y⟩=X (bc a c.length o):=by rw [g.cell (p:=⟨w.heap.size,2,Y⟩) (by simp)];go_simp
  have V:w.heap.size<wr.heap.size:=bi C;by_cases hlt:k<c.length
  · have z:ai 0 w.heap.size wr (bc a c.length o) c:=(M.o.kept (aX (am w _) (bb _))).kept (aX g (by omega));obtain ⟨b,ac,a3,d,G,_,_,a6,a7,a8,a9,y⟩:=z.field k hlt;cases G;have m:=N _ (cl hlt);have v:=ch (cM c[k]) m;have W:Hid (wrongF c[k]≠0->wrongR ⟨A,B,c⟩=wrongF c[k]):=by intro Q;have:=fm c k hlt l.o;rw [if_neg Q] at this;rw [H.o (by show aI c≠0;rw [this];exact Q)];exact this
    have a0:=Z (gD c k hlt l.o);have u:Hid (aD 0 wr.heap.size wr d c[k].subs):=y.mono (bb _) (by omega);clear y z;generalize hfk:c[k]=f at *;have ad:=Z hfk;clear hfk;cases hwf:decide (wrongF f=0);all_goals simp only [decide_eq_true_eq,decide_eq_false_iff_not] at hwf
    · have ao:(wrongF f !=0)=true:=by simpa using hwf
      go_wp2_with (go_at_call 166;refine (rC f d _ u.o m v).mono ?_;rintro e w1 ⟨rfl,j⟩;obtain ⟨E,F⟩:=aE j)
      go_ret;exact ⟨aH (W.o hwf).symm,btr (am w _) (btr g j (by omega)) (by omega)⟩
    · have O:=Z hwf;clear hwf;go_wp2_with (go_at_call 166;refine (rC f d _ u.o m v).mono ?_;rintro e w1 ⟨rfl,j⟩;obtain ⟨E,F⟩:=aE j;rw [O.o])
      go_roundw
      case rel=>exact ⟨k+1,by omega,by go_num,a0.o O.o,btr g j (by omega)⟩
      case measure=>simp [intOf];omega
  · have L:Hid (wrongR ⟨A,B,c⟩=if bL c||decide (999<c.length)||decide (99999<sizeOf c) then 2 else 0):=
     K.o (by rw [<- l.o,bp (by omega)])
    go_wp2_with fail
    clear l P hlt C K H;have a4:=g;clear g V
    go_loopw [5,6,7] (λs i t wr=>∃(k n:Nat),k<=c.length/\i=J U k/\s=J U n/\n<=26+k * 1000012/\Hid (bL (c.take k)=false)/\Hid (n=sizeOf (c.take k))/\
     Below (w.heap.size+1) (w.alloc (bY #[J b4 A.toNat,J b4 B.toNat,bc a c.length o] 62)) wr) (λ_ i _ _=>c.length - (intOf i).toNat)
    case atStart=>exact ⟨0,26,cc _,rfl,rfl,by omega,rfl,rfl,a4⟩
    case round=>
     obtain ⟨k,n,P,rfl,rfl,al,l,I,g⟩:=hrel;have C:wr.cell? ⟨w.heap.size,2,Y⟩=X (bc a c.length o):=by rw [g.cell (p:=⟨w.heap.size,2,Y⟩) (by simp)];go_simp
     have V:w.heap.size<wr.heap.size:=bi C;by_cases hlt:k<c.length
     · have z:ai 0 w.heap.size wr (bc a c.length o) c:=(M.o.kept (aX (am w _) (bb _))).kept (aX g (by omega));obtain ⟨b,ac,a3,d,G,_,_,a6,a7,a8,a9,y⟩:=z.field k hlt;cases G;have m:=N _ (cl hlt);have v:=ch (cM c[k]) m;have u:Hid (aD 0 wr.heap.size wr d c[k].subs):=y.mono (bb _) (by omega);have HL:=Z (tB c k hlt);have a1:=Z (oY c k hlt l.o);have a2:=Z (rq c k hlt);clear y z;generalize c[k]=f at *;by_cases hlong:9999<(fieldBytes f).length
       · go_wp2_with (go_at_call 123;refine (sV f d _ u.o m v).mono ?_;rintro e w1 ⟨rfl,j⟩;obtain ⟨E,F⟩:=aE j)
         go_ret;refine ⟨aH ?_,btr (am w _) (btr g j (by omega)) (by omega)⟩;rw [L.o,HL.o hlong];rfl
       · go_wp2_with (go_at_call 123;refine (sV f d _ u.o m v).mono ?_;rintro e w1 ⟨rfl,j⟩;obtain ⟨E,F⟩:=aE j)
         go_roundw
         case rel=>exact ⟨k+1,n+12+(fieldBytes f).length,by omega,by go_num,by go_num,by omega,a1.o hlong,by rw [I.o];exact a2.o.symm,btr g j (by omega)⟩
         case measure=>simp [intOf];omega
     · have HT:Hid (wrongR ⟨A,B,c⟩=if decide (999<c.length)||decide (99999<n) then 2 else 0):=by have a5:c.take k=c:=bp (by omega);have h1:=l.o;have q:=I.o;rw [a5] at h1 q;rw [L.o,h1, <- q,Bool.false_or];rfl
       go_wp2_with fail
       all_goals go_ret
       all_goals refine ⟨aH (HT.o.trans ?_).symm,btr (am w _) g (by omega)⟩
       all_goals go_tidy
       all_goals first |rw [if_pos (by simp;omega)]|rw [if_neg (by simp;omega)]
theorem yd (r:az) (v:bB) (w:bk) (a:eA 0 w.heap.size w v r) (b:bR r.fields):
 bO prog 122 #[v] w λe w'=>e=b5 (J U (wrongR r))/\Bw w w':=by
 obtain ⟨x,rfl,a⟩:=a;cases h:(letterB r.kind&&letterB r.level)
 · exact kR r x w h
 · rw [Bool.and_eq_true] at h;exact m8 r x w a b h.1 h.2
structure Fr (b:Nat) (g:Option Nat) (w w':bk):Prop where
 os:w'.os=w.os
 tape:w'.tape=w.tape
 output:w'.output=w.output
 size:w.heap.size<=w'.heap.size
 block:∀k,k<w.heap.size->k≠b->some k≠g->w'.heap[k]? =w.heap[k]?
theorem Fr.refl (b:Nat) (g:Option Nat) (w:bk):Fr b g w w:=⟨rfl,rfl,rfl,bb _,λ_ _ _ _=>rfl⟩
theorem Fr.below {b B:Nat} {g:Option Nat} {w w':bk} (h:Fr b g w w') (d:B<=b) (a:∀k,g=X k->B<=k) (c:B<=w.heap.size):Below B w w':=
 ⟨h.os,h.tape,h.output,h.size,λk f=>h.block k (by omega) (by omega) (λe=>by have:=a k e.symm;omega)⟩
structure Bld (B b:Nat) (g:Option Nat) (l:Bs) (w:bk):Prop where
 lt:b<B
 ex:∃p v,w.heap[b]? =some (.cells #[p,v] 187 (0,0))/\(p= .pointer none∨p= .pointer (some ⟨b,0,none⟩))/\w.ownsRow B 5 1 v l.length (bA l)/\v.ownBlock=g/\(l=[]->v= .slice none 0 0)
theorem i5:(prog.info? 5).map (λi=>(i.zero,i.size,i.bytes))=X (X (J b4 0),1,1):=by kernel_rfl
theorem tR (w:bk) (base:Nat) (i:TypeInfo) (f:prog.info? 5=X i) (q:i.zero=X (J b4 0)) (l:i.size=1) (o:i.bytes=1)
 (v:bB) (n:Nat) (c:List bB) (d:w.ownsRow base 5 1 v n c) (s:ByteArray) (m:n+s.size<=maxLen) (t:n+s.size<=140737488355328) (B:base<=w.heap.size):
 ∃b w',(Builtin.append_ #[76,9] 76 #[v, .string s]).run prog w= .ok b w'/\w'.ownsRow base 5 1 b (n+s.size) (c++Lib.strCells s)/\w.grownBy w' v.ownBlock/\
  (b=b8 Y 0 0↔v=b8 Y 0 0/\s.size=0)/\(b.ownBlock=v.ownBlock∨∃k,b.ownBlock=X k/\w.heap.size<=k):=by
 obtain ⟨b,w',h,y,z,A⟩:=Lib.run_append_own_string (P:=prog) w base 76 9 76 5 i underlying76 underlying9 f q l o v n c d s m t B;refine ⟨b,w',h,y,z,A,?_⟩;have H:c.length=n:=by simpa using d.1
 have M:n+s.size<=9223372036854775807:=by unfold maxLen at m;omega
 rcases d.2 with ⟨rfl,rfl⟩|⟨g,e,r,rfl,I,E,L,K,C,N⟩
 · obtain ⟨O,Q,a,x,_,_⟩:=Lib.run_append_own_string (P:=prog) w w.heap.size 76 9 76 5 i underlying76 underlying9 f q l o (b8 Y 0 0) 0 c ⟨d.1, .inl ⟨rfl,rfl⟩⟩ s m t (bb _);rw [h] at a;injection a with hv hw
   subst hv hw;rcases x.2 with ⟨p,_⟩|⟨k,_,_,p,F,_⟩
   · left;rw [p]
   · right;exact ⟨k,by rw [p];rfl,F⟩
 · have D:r.size=e:=by simpa using C
   by_cases hroom:n+s.size<=e
   · have a:=Lib.run_append_room_string (P:=prog) w 76 9 76 5 i underlying76 underlying9 f l g n e r E s hroom (D.symm ▸ hroom);rw [h] at a;injection a with hv hw
     left;rw [hv];rfl
   · have G:∀j u,c[j]? =X u->w.cell? ((⟨g,0,Y⟩:Addr).add j)=X u:=d.cells (g:=g) rfl;have a:=Lib.run_append_grow_string (P:=prog) w 76 9 76 5 i (J b4 0) underlying76 underlying9 f q ⟨g,0,Y⟩ n e c (by rw [l];simpa using H) G s (by omega) (by omega) (by rw [o];exact growslice_fits (by omega) (by omega));rw [h] at a;injection a with hv hw
     right;exact ⟨w.heap.size,by rw [hv];rfl,bb _⟩
theorem na {w:bk} {d:Array Oper} {e:List Oper} {o:Oper} {a:Act} {Q:Exit->Act->bk->Prop} (y:o.guard=Y) (f x:Operand)
 (A:o.op= .call {callee:= .builtin .append,args:= #[f,x],argTypes:= #[76,9]}) (F:o.type=76)
 (base:Nat) (i:TypeInfo) (z:prog.info? 5=X i) (H:i.zero=X (J b4 0)) (E:i.size=1) (t:i.bytes=1)
 (v:bB) (n:Nat) (c:List bB) (D:a.eval f=v) (B:w.ownsRow base 5 1 v n c) (s:ByteArray) (G:a.eval x= .string s)
 (p:n+s.size<=maxLen) (u:n+s.size<=140737488355328) (r:base<=w.heap.size)
 (h:∀b w',w'.ownsRow base 5 1 b (n+s.size) (c++Lib.strCells s)->w.grownBy w' v.ownBlock->(b=b8 Y 0 0↔v=b8 Y 0 0/\s.size=0)->(b.ownBlock=v.ownBlock∨∃k,b.ownBlock=X k/\w.heap.size<=k)->wpList prog d Q e (a.put o.dst b) w'):wpList prog d Q (o::e) a w:=by
 refine wpList_plain y λK q=>?_;obtain ⟨b,w',C,g,j,l,m⟩:=tR w base i z H E t v n c B s p u r;unfold Oper.wp execOp;simp only [A,F,resolve,invoke,builtin,Sem.run_bind,Sem.run_pure,Result.andThen_ok,List.map_toArray,List.map_cons,List.map_nil,D,G,C];exact q _ _ (h b w' g j l m)
theorem re (l:Bs):Lib.strCells ⟨l.toArray⟩=bA l:=by simp [Lib.strCells,bA]
theorem iM (a b:Bs):bA (a++b)=bA a++bA b:=by simp [bA]
theorem sQ (B b:Nat) (g:Option Nat) (l:Bs) (w:bk) (h:Bld B b g l w):bO prog 161 #[b7 (X ⟨b,0,Y⟩)] w λe w'=>e=b5 (.tuple #[])/\(∃v,w'.heap[b]? =X (b9 #[b7 (X ⟨b,0,Y⟩),v] 187 (0,0))/\w'.ownsRow B 5 1 v l.length (bA l)/\v.ownBlock=g/\(l=[]->v=b8 Y 0 0))/\w'.heap.size=w.heap.size/\Fr b Y w w':=by
 obtain ⟨m,p,v,a,n,i,d,f⟩:=h;have c:w.cell? ⟨b,0,Y⟩=X p:=by rw [bD a];rfl
 rcases n with rfl|rfl
 · refine (kW b w c (by simp [World.shape?,a]) (cs a 0)).mono ?_;rintro e w' ⟨rfl,rfl⟩;refine ⟨rfl,⟨v,?_,ownsRow_setCell_below i m _,d,f⟩,by simp,⟨rfl,rfl,rfl,by simp,λk _ j _=>cQ _ _ _ _ j⟩⟩;simp only [cy,cd,if_true,a];rfl
 · refine (mB b w c).mono ?_;rintro e w' ⟨rfl,rfl⟩;exact ⟨rfl,⟨v,a,i,d,f⟩,rfl,Fr.refl _ _ _⟩
theorem oJ {B b:Nat} {w1 c:bk} {p v a:bB} {d:Bs} (h:b<B) (x:p=b7 (X ⟨b,0,Y⟩)) (f:w1.heap[b]? =X (b9 #[p,v] 187 (0,0))) (w:∀k,v.ownBlock=X k->B<=k)
 (i:c.ownsRow B 5 1 a d.length (bA d)) (m:w1.grownBy c v.ownBlock) (r:d=[]->a=b8 Y 0 0):
 Bld B b a.ownBlock d (c.setCell ⟨b,1,Y⟩ a)/\Fr b v.ownBlock w1 (c.setCell ⟨b,1,Y⟩ a):=by
 obtain ⟨t,z,u,y,g⟩:=m;have l:b<w1.heap.size:=(Array.getElem?_eq_some_iff.mp f).1;have s:X b≠v.ownBlock:=λe=>by have:=w b e.symm;omega
 have j:c.heap[b]? =X (b9 #[p,v] 187 (0,0)):=by rw [g b l s,f]
 refine ⟨⟨h,⟨p,a,?_, .inr x,ownsRow_setCell_below i h _,rfl,r⟩⟩,⟨t,z,u,by simpa using y,λk n o q=>?_⟩⟩
 · simp only [cy,cd,if_true,j];rfl
 · rw [cQ _ _ _ _ o];exact g k n q
theorem jA {w:bk} {B:Nat} {e:TypeId} {k:Nat} {v:bB} {n:Nat} {d:List bB} (h:w.ownsRow B e k v n d):∀j,v.ownBlock=X j->B<=j/\j<w.heap.size:=by
 intro j a;rcases h.2 with ⟨rfl,_⟩|⟨g,f,i,rfl,b,c,_⟩
 · cases a
 · injection a with a;subst a;exact ⟨b,(Array.getElem?_eq_some_iff.mp c).1⟩
theorem Fr.trans {b:Nat} {g c:Option Nat} {x y z:bk} (h:Fr b g x y) (k:Fr b c y z) (l:∀j,c=X j->g=X j∨x.heap.size<=j):Fr b g x z:=
 ⟨k.os.trans h.os,k.tape.trans h.tape,k.output.trans h.output,ch h.size k.size,λj f d i=>
  (k.block j (Nat.lt_of_lt_of_le f h.size) d (λe=>by rcases l j e.symm with a|a;exact i a.symm;omega)).trans (h.block j f d i)⟩
theorem Fr.weak {b:Nat} {g:Option Nat} {x y:bk} (h:Fr b Y x y):Fr b g x y:=⟨h.os,h.tape,h.output,h.size,λj c a _=>h.block j c a (by simp)⟩
theorem zn {B:Nat} {e:TypeId} {k:Nat} {w b:bk} {v:bB} {n:Nat} {f:List bB} {o:Obj} (_:w.ownsRow B e k v n f) (a:(w.alloc o).grownBy b v.ownBlock):w.grownBy b v.ownBlock:=
 ⟨a.os,a.tape,a.output,ch (by simp) a.size,λj c d=>by rw [a.block j (by simp;omega) d];exact ((bs w.heap.size w).alloc (bb _) o).block j c⟩
theorem sZ {B b:Nat} {w1 c:bk} {p v:bB} {n:Nat} {g:List bB} (h:b<B) (a:w1.heap[b]? =X (b9 #[p,v] 187 (0,0))) (f:w1.ownsRow B 5 1 v n g) (d:w1.grownBy c v.ownBlock):
 c.heap[b]? =X (b9 #[p,v] 187 (0,0)):=by
 rw [d.block b (Array.getElem?_eq_some_iff.mp a).1 (λe=>by have:=(jA f b e.symm).1;omega),a]
theorem dK (B b:Nat) (g:Option Nat) (l s:Bs) (w:bk) (h:Bld B b g l w) (hB:B<=w.heap.size) (hs:l.length+s.length<=100000000000000):
 bO prog 112 #[b7 (X ⟨b,0,Y⟩),S s] w λe w'=>e=b5 (.tuple #[J U s.length, .nilIface])/\∃d,Bld B b d (l++s) w'/\(d=g∨∃k,d=X k/\w.heap.size<=k)/\Fr b g w w':=by
 have P:=Z (sQ B b g l w h);have a4:∃i,prog.info? 5=X i/\i.zero=X (J b4 0)/\i.size=1/\i.bytes=1:=by have:=i5;revert this;cases prog.info? 5<;>simp
 obtain ⟨i0,z,A,C,D⟩:=a4;have V:=Z z;have W:=Z A;have a0:=Z C;have a1:=Z D;have t:=h.lt;clear h z A C D;have r:=Z hs;go_enter func112,ntmps112
 go_wp2_with (first
  |(go_at_call 161;((with_reducible refine cb (P.o) ?_);rintro e w1 ⟨rfl,⟨v,f,K,y,F⟩,L,x⟩;have c1:w1.cell? ⟨b,1,Y⟩=X v:=(by rw [bD f];rfl);have p:=Z f;have c:=Z K;have q:=Z y;have HN:=Z F;have u:=Z L;have R:=Z x;clear f K y F L x))
  |(at_builtin;refine na rfl _ _ rfl rfl B i0 V.o W.o a0.o a1.o v l.length _ rfl c.o ⟨s.toArray⟩ rfl (by have:=r.o;unfold maxLen;simp [bT];omega) (by have:=r.o;simp [bT];omega) (by have:=u.o;omega) ?_;intro v' M o n H a;obtain ⟨va,vc,rfl⟩:=bF o;have m:=sZ t p.o c.o n;have c2:M.cell? ⟨b,1,Y⟩=X v:=(by rw [bD m];rfl);have f2:M.frozen? ⟨b,1,Y⟩=false:=cs m 1;clear m;have a3:=Z o;have T:=Z n;have a2:=Z H;have Q:=Z a;clear o n H a))
 go_ret2;have E:l.length+bT ⟨s.toArray⟩=(l++s).length:=by simp [bT]
 have I:=a3.o;rw [re, <- iM,E] at I;have G:l++s=[]->bc va (l.length+bT ⟨s.toArray⟩) vc=b8 Y 0 0:=λe=>by
  have h1:l=[]:=by cases l;rfl;simp at e
  have h2:s=[]:=by subst h1;simpa using e
  exact a2.mpr ⟨HN h1,by subst h2;rfl⟩
 rw [E] at G;obtain ⟨N,O⟩:=oJ t rfl p.o (λk hk=>(jA c.o k hk).1) I T.o G;simp only [cq] at N O;refine ⟨?_,_,N,?_,R.weak.trans (q.o ▸ O) (λj hj=> .inl hj)⟩
 · simp
 · have a:=Q.o;rw [q.o,u.o] at a;simpa [bT] using a
theorem BG (B b:Nat) (g:Option Nat) (l:Bs) (c:UInt8) (w:bk) (h:Bld B b g l w) (hB:B<=w.heap.size) (hs:l.length<=100000000000000):
 bO prog 160 #[b7 (X ⟨b,0,Y⟩),J b4 c.toNat] w λe w'=>e=b5 .nilIface/\∃f,Bld B b f (l++[c]) w'/\(f=g∨∃k,f=X k/\w.heap.size<=k)/\Fr b g w w':=by
 have N:=Z (sQ B b g l w h);have a2:∃i,prog.info? 5=X i/\i.zero=X (J b4 0)/\i.size=1/\i.bytes=1:=by have:=i5;revert this;cases prog.info? 5<;>simp
 obtain ⟨i0,A,C,D,E⟩:=a2;have R:=Z A;have T:=Z C;have V:=Z D;have W:=Z E;have t:=h.lt;clear h A C D E;have s:=Z hs;go_enter func160,ntmps160
 go_wp2_with (first
  |(go_at_call 161;((with_reducible refine cb (N.o) ?_);rintro e w1 ⟨rfl,⟨v,m,H,y,F⟩,I,x⟩;have c1:w1.cell? ⟨b,1,Y⟩=X v:=(by rw [bD m];rfl);have q:=Z m;have d:=Z H;have r:=Z y;have HN:=Z F;have u:=Z I;have P:=Z x;clear m H y F I x))
  |(at_builtin;refine wpList_append_own_at _ rfl _ _ 76 rfl B 5 i0 (J b4 0) 1 1 underlying76 R.o T.o V.o W.o rfl (by omega) v l.length _ rfl (d.o.alloc _) ⟨w1.heap.size,0,Y⟩ 1 1 [J b4 c.toNat] rfl rfl (cell_one_new _ _ _) (by simp [Value.oneCell']) (by have:=s.o;unfold maxLen;omega) (by have:=s.o;omega) (by have:=u.o;simp;omega) ?_;intro v' K p z a1 a;obtain ⟨va,vc,rfl⟩:=bF p;have o:=zn d.o z;have n:=sZ t q.o d.o o;have c2:K.cell? ⟨b,1,Y⟩=X v:=(by rw [bD n];rfl);have f2:K.frozen? ⟨b,1,Y⟩=false:=cs n 1;clear n;have a0:=Z p;have Q:=Z o;have O:=Z a;clear p o z a1 a))
 go_ret;have G:=a0.o;rw [show bA l++[cv b4 c.toNat]=bA (l++[c]) from by rw [iM];rfl,show l.length+1=(l++[c]).length from by simp] at G;obtain ⟨L,M⟩:=oJ t rfl q.o (λk hk=>(jA d.o k hk).1) G Q.o (λe=>by simp at e);simp only [cq,List.length_singleton] at L M;refine ⟨rfl,_,L,?_,P.weak.trans (r.o ▸ M) (λj hj=> .inl hj)⟩;have a:=O.o;rw [r.o] at a;rcases a with a|a
 · exact .inl a
 · refine .inr ⟨_,a,?_⟩;have:=u.o;simp;omega
theorem pT (B b:Nat) (g:Option Nat) (l:Bs) (w:bk) (h:Bld B b g l w):
 bO prog 114 #[b7 (X ⟨b,0,Y⟩)] w λe w'=>e=b5 (J U l.length)/\w'=w:=by
 obtain ⟨m,p,v,c,k,d,i,j⟩:=h;obtain ⟨a,f,rfl⟩:=bF d;have c1:w.cell? ⟨b,1,Y⟩=X (b8 a l.length f):=by rw [bD c];rfl
 clear d j i k c;go_enter func114,ntmps114;go_wp2_with fail
 go_ret;exact ⟨rfl,rfl⟩
def xZ (g:Option Nat) (n:Nat) (w w':bk):Prop:=w'=w.drew∨∃k,g=X k/\w'=w.drew.freeze ⟨k,0,Y⟩ n
theorem xl (b k n:Nat) (w:bk):Fr b (X k) w (w.freeze ⟨k,0,Y⟩ n):=by
 unfold World.freeze;split
 · exact ⟨rfl,rfl,rfl,bb _,λ_ _ _ _=>rfl⟩
 · refine ⟨rfl,rfl,rfl,by simp,λj _ _ a=>?_⟩;have:k≠j:=λe=>a (by rw [e]);simp [cd,this]
theorem xZ.fr {g:Option Nat} {n:Nat} {w w':bk} (b:Nat) (h:xZ g n w w'):Fr b g w w':=by
 rcases h with rfl|⟨k,rfl,rfl⟩
 · exact ⟨rfl,rfl,rfl,bb _,λ_ _ _ _=>rfl⟩
 · have h:=xl b k n w.drew;exact ⟨h.os,h.tape,h.output,h.size,h.block⟩
theorem dX (B b:Nat) (g:Option Nat) (l:Bs) (w:bk) (h:Bld B b g l w) (L:l.length<=100000000000000):
 bO prog 115 #[b7 (X ⟨b,0,Y⟩)] w λe w'=>e=b5 (S l)/\xZ g l.length w w':=by
 obtain ⟨I,p,v,c,t,d,i,m⟩:=h;have M:prog.follows Departure.mixedOrders=true:=by kernel_rfl
 rcases d.2 with ⟨rfl,E⟩|⟨k,a,f,rfl,H,s,K,A,q,F⟩
 · obtain rfl:l=[]:=cu E;have c1:w.drew.cell? ⟨b,1,Y⟩=X (b8 Y 0 0):=by have:w.drew.heap[b]? =X (b9 #[p,b8 Y 0 0] 187 (0,0)):=c;rw [bD this];rfl
   have y:(Builtin.unsafeSliceData_ #[76] 233 #[b8 Y 0 0]).run prog w.drew= .ok (b7 Y) w.drew:=rfl;have z:(Builtin.unsafeString_ #[233,3] 9 #[b7 Y,J U 0]).run prog w.drew= .ok (.string .empty) w.drew:=Lib.run_unsafeString_none w.drew _ _ _ _;clear d m i t c;go_enter func115,ntmps115;go_wp2;go_region_o
   all_goals (go_wp2;go_ret;exact ⟨rfl, .inl rfl⟩)
 · have n:l≠[]:=λe=>by cases m e
   have o:a≠0:=by
    have:l.length≠0:=by simpa using n
    omega
   have C:f.size=a:=by simpa using q
   have c1:w.drew.cell? ⟨b,1,Y⟩=X (b8 (X ⟨k,0,Y⟩) l.length a):=by have:w.drew.heap[b]? =X (b9 #[p,b8 (X ⟨k,0,Y⟩) l.length a] 187 (0,0)):=c;rw [bD this];rfl
   have y:(Builtin.unsafeSliceData_ #[76] 233 #[b8 (X ⟨k,0,Y⟩) l.length a]).run prog w.drew= .ok (b7 (X ⟨k,0,Y⟩)) w.drew:=Lib.run_unsafeSliceData_row _ _ _ _ _ _ o;have z:(Builtin.unsafeString_ #[233,3] 9 #[b7 (X ⟨k,0,Y⟩),J U l.length]).run prog w.drew= .ok (.string ⟨l.toArray⟩) (w.drew.freeze ⟨k,0,Y⟩ l.length):=by refine Lib.run_unsafeString_row w.drew 233 3 9 5 underlying233 (by kernel_rfl) k f.size (by have D:w.drew.heap[k]? =X (b9 f 5 (0,0)):=s;simp [World.shape?,D]) l n (by omega) (by omega) ?_;intro j x G;have:=d.cells (g:=k) rfl j (J b4 x.toNat) (by simp [bA,G]);exact this
   have r:∀w',w'=w.drew.freeze ⟨k,0,Y⟩ l.length->xZ g l.length w w':=λw' e=> .inr ⟨k,i ▸ rfl,e⟩;have u:=Z r;clear d m i t c o A q F r s C;generalize hN:(l.length:Int)=N at *;go_enter func115,ntmps115;go_wp2;go_region_o
   all_goals (go_wp2;go_ret;exact ⟨rfl,u _ rfl⟩)
attribute [local go_sem ↓] Go.wp_at_zero Go.wp_at_succ
theorem iB (w:bk) (b B:Nat) (c:b=w.heap.size) (a:b<B):Bld B b Y [] (w.alloc (bY #[b7 Y,b8 Y 0 0] 187)):=by
 subst c;exact ⟨a,⟨b7 Y,b8 Y 0 0,Array.getElem?_push_size, .inl rfl,c4 _ _ _ _,rfl,λ_=>rfl⟩⟩
theorem Fr.cell {b:Nat} {g:Option Nat} {w w':bk} (h:Fr b g w w') {q:Nat} (e:q<w.heap.size) (c:q≠b) (d:X q≠g) (o:Nat):w'.cell? ⟨q,o,Y⟩=w.cell? ⟨q,o,Y⟩:=
 cm (a:=⟨q,o,Y⟩) (h.block q e c d)
theorem Bld.row {B b:Nat} {g:Option Nat} {l:Bs} {w:bk} (h:Bld B b g l w):∀k,g=X k->B<=k/\k<w.heap.size:=by
 obtain ⟨_,p,v,_,_,c,a,_⟩:=h;subst a;exact jA c
theorem Bld.old {B b:Nat} {g:Option Nat} {l:Bs} {w:bk} (h:Bld B b g l w):b<w.heap.size:=by
 obtain ⟨_,p,v,a,_⟩:=h;exact (Array.getElem?_eq_some_iff.mp a).1
theorem Bld.keep {B b:Nat} {g:Option Nat} {l:Bs} {w w':bk} (h:Bld B b g l w) (e:w'.heap[b]? =w.heap[b]?) (f:∀k,g=X k->w'.heap[k]? =w.heap[k]?):Bld B b g l w':=by
 obtain ⟨m,p,v,s,q,o,rfl,n⟩:=h;refine ⟨m,p,v,e.trans s,q,?_,rfl,n⟩;obtain ⟨h1,a⟩:=o;refine ⟨h1,?_⟩;rcases a with a|⟨k,c,d,rfl,j,i,r⟩
 · exact .inl a
 · exact .inr ⟨k,c,d,rfl,j,(f k rfl).trans i,r⟩
theorem Bld.alloc {B b:Nat} {g:Option Nat} {l:Bs} {w:bk} (h:Bld B b g l w) (o:Obj):Bld B b g l (w.alloc o):=
 h.keep ((aM w o).block b h.old) (λk a=>(aM w o).block k (h.row k a).2)
theorem Bld.below {B b:Nat} {g:Option Nat} {l:Bs} {w w':bk} (h:Bld B b g l w) (k:Bw w w'):Bld B b g l w':=
 h.keep (k.block b h.old) (λj a=>k.block j (h.row j a).2)
theorem qB (B b:Nat) (g:Option Nat) (l:Bs) (c:UInt8) (n:Int) (f:n=c.toNat) (w:bk) (h:Bld B b g l w) (d:B<=w.heap.size) (i:l.length<=100000000000000):
 bO prog 160 #[b7 (X ⟨b,0,Y⟩),J b4 n] w λe w'=>e=b5 .nilIface/\∃a,Bld B b a (l++[c]) w'/\(a=g∨∃k,a=X k/\w.heap.size<=k)/\Fr b g w w':=by
 subst f;exact BG B b g l c w h d i
theorem AP {g a:Option Nat} {q n:Nat} (h:X q≠g) (b:a=g∨∃k,a=X k/\n<=k) (d:q<n):X q≠a:=by
 rcases b with rfl|⟨k,rfl,c⟩
 · exact h
 · intro e;injection e;omega
theorem Bld.fr {B b lo:Nat} {g:Option Nat} {l:Bs} {w w':bk} (h:Bld B b g l w) (f:Fr b g w w') (c:lo<=b):Below lo w w':=
 f.below c (λk a=>by have:=(h.row k a).1;have:=h.lt;omega) (by have:=h.old;omega)
theorem zZ (f:af) (d:bB) (w:bk) (hs:aD 0 w.heap.size w d f.subs) (K:(fieldBytes f).length<=1000000) (hn:f.subs.length<=1000000):
 bO prog 111 #[fieldV f d] w λe w'=>e=b5 (S (fieldBytes f))/\Bw w w':=by
 obtain ⟨u,j,data,c⟩:=f;have b1:data.length+j.length<=1000000:=by simp [fieldBytes] at K;omega
 have P:=Z K;have HS:=Z hs;obtain ⟨a,E,rfl,_⟩:=hs;clear K;unfold fieldV;have N:=Z (λo=>iB (w.alloc o) (w.heap.size+1) (w.heap.size+2) (by simp) (by omega));go_enter func111,ntmps111;go_wp2_with (go_at_call 112;((with_reducible refine cb (dK (w.heap.size+2) (w.heap.size+1) Y [] (data++j) _ (N.o _) (by simp) (by simp;omega)) ?_);rintro e w1 ⟨rfl,g1,W,al,I⟩;have c3:=I.cell (q:=w.heap.size) (by simp;omega) (by omega) (by simp) 3))
 have a4:=Z W;have a6:Hid (Below (w.heap.size+1) (w.alloc (bY #[S u,S j,S data,bc a c.length E] 123)) w1):=btr ((aM _ _).mono (by simp)) (I.below (B:=w.heap.size+1) (by omega) (by simp) (by simp)) (by simp);clear W al I N;go_wp2_with fail
 go_loopw [15] (λi wr=>∃(k:Nat) (h:Bs) (g:Option Nat),k<=c.length/\i=J U k/\Hid (h=data++j++(c.take k).flatMap aU)/\h.length<1000000/\
  Hid (Bld (w.heap.size+2) (w.heap.size+1) g h wr)/\Below (w.heap.size+1) (w.alloc (bY #[S u,S j,S data,bc a c.length E] 123)) wr) (λi _=>c.length - (intOf i).toNat)
 case atStart=>exact ⟨0,data++j,g1,cc _,rfl,(by simp [Hid]),(by have:=bN ⟨u,j,data,c⟩ 0;have:=P.o;simp at *;omega),a4,a6.o⟩
 case round=>
  obtain ⟨k,h,g,hk,rfl,M,aT,m,H⟩:=hrel;by_cases hlt:k<c.length
  · have a2:aD 0 w.heap.size wr (bc a c.length E) c:=(HS.o.kept (aX ((bs _ w).alloc (bb _) _) (bb _))).kept (aX H (by omega));obtain ⟨b,b3,aS,hv,b0,_,ht,hx⟩:=a2.sub k hlt;cases hv;have Q:Hid (h++(31::c[k].code::c[k].text)=data++j++(c.take (k+1)).flatMap aU):=by rw [kf _ _ _ hlt,M.o];simp [Hid,aU]
    have b2:h.length+2+c[k].text.length<1000000:=by have:=bN ⟨u,j,data,c⟩ (k+1);simp only at this;rw [<- Q.o] at this;have:=P.o;simp at *;omega
    generalize c[k].text=T at *;generalize c[k].code=C at *;have ax:=Z m.old;have a8:=Z m.row;clear a2;have l:Hid (w.heap.size+2<=wr.heap.size):=by have:=m.o.old;show _<=_;omega
    have A:Hid (X wr.heap.size≠g):=λe=>by have:=(a8.o _ e.symm).2;omega
    go_wp2_with (first
     |(go_at_call_of 160 (cv cP 31);((with_reducible refine cb (qB (w.heap.size+2) (w.heap.size+1) g h 31 _ (by decide) _ (m.o.alloc _) (by have:=l.o;simp;omega) (by omega)) ?_);rintro e x ⟨rfl,v,s,t,n⟩;have a1:X wr.heap.size≠v:=AP A.o t (by simp);have ay:x.cell? ⟨wr.heap.size,0,Y⟩=X (J b4 C.toNat):=(by rw [n.cell (by simp) (by have:=l.o;omega) A.o];go_simp);have ac:x.cell? ⟨wr.heap.size,1,Y⟩=X (S T):=(by rw [n.cell (by simp) (by have:=l.o;omega) A.o];go_simp);have D:Hid (wr.heap.size<x.heap.size):=(by have:=n.size;simp at this;exact this);have r:=Z s;have av:=Z t;have y:=Z n;have a7:=Z a1;clear s t n a1))
     |(go_at_call_of 160 (cv cP C.toNat);((with_reducible refine cb (qB (w.heap.size+2) (w.heap.size+1) v (h++[31]) C _ (by rfl) _ r.o (by have:=l.o;have:=D.o;omega) (by simp;omega)) ?_);rintro e L ⟨rfl,g3,R,ao,p⟩;have aC:L.cell? ⟨wr.heap.size,1,Y⟩=X (S T):=(by rw [p.cell D.o (by have:=l.o;omega) a7.o];exact ac);have a9:Hid (wr.heap.size<L.heap.size):=Nat.lt_of_lt_of_le D.o p.size;have O:=Z R;have z:=Z p;clear R ao p))
     |(go_at_call 112;((with_reducible refine cb (dK (w.heap.size+2) (w.heap.size+1) g3 (h++[31]++[C]) T _ O.o (by have:=l.o;have:=a9.o;omega) (by simp;omega)) ?_);rintro e w4 ⟨rfl,g4,V,au,a0⟩;have a3:=Z V;have a5:=Z a0;clear V au a0)))
    go_roundw
    case rel=>
     refine ⟨k+1,h++[31]++[C]++T,g4,by omega,by go_num,?_,by simp;omega,a3,?_⟩
     · rw [<- Q.o];simp [Hid]
     · have F:=(m.alloc _).fr y.o (lo:=w.heap.size+1) (bb _);have G:=r.fr z.o (lo:=w.heap.size+1) (bb _);have h4:=O.fr a5.o (lo:=w.heap.size+1) (bb _);exact (((H.alloc (by have:=l.o;omega) _).trans F).trans G).trans h4
    case measure=>simp [intOf];omega
  · have ad:Hid (fieldBytes ⟨u,j,data,c⟩=h++[30]):=by rw [M.o,bp (by omega)];simp [fieldBytes,Hid]
    have l:Hid (w.heap.size+2<=wr.heap.size):=by have:=m.o.old;show _<=_;omega
    go_wp2_with (first
     |(go_at_call 160;((with_reducible refine cb (qB (w.heap.size+2) (w.heap.size+1) g h 30 _ (by decide) _ m.o (by exact l.o) (by omega)) ?_);rintro e x ⟨rfl,v,s,t,n⟩;have r:=Z s;have y:=Z n;clear s t n))
     |(go_at_call 115;((with_reducible refine cb (dX (w.heap.size+2) (w.heap.size+1) v (h++[30]) _ r.o (by simp;omega)) ?_);rintro e L ⟨rfl,p⟩;have z:=Z (p.fr (w.heap.size+1));clear p)))
    go_ret;refine ⟨vv ad.symm,?_⟩;have F:=m.fr y.o (lo:=w.heap.size+1) (bb _);have G:=r.fr z.o (lo:=w.heap.size+1) (bb _);exact btr (aM w _) ((H.trans F).trans G) (by omega)
end
section
open Go.RowKit
theorem gr (w:bk) (a:Addr) (d:Nat) (l:List Int) (g:∀j (c:j<l.length),w.cell? (a.add j)=X (J b4 l[j])):
 (convert 76 9 (b8 (X a) l.length d)).run prog w= .ok (S (l.map λn=>bw n.toNat)) w:=by
 rw [run_convert_bytes_string w 76 9 5 (X a) l.length d underlying76 underlying5 underlying9];have f:=run_loadCells_list (P:=prog) w a (l.map (cv b4)) (λj v c=>by
  have e:j<l.length:=by have:=(List.getElem?_eq_some_iff.1 c).1;simpa using this
  rw [g j e];simp [List.getElem?_eq_getElem e] at c;rw [<- c])
 simp only [List.length_map] at f;rw [run_bytesToString w a l.length d _ f];have:∀(l:List Int) (r:ByteArray),l.foldl (λr n=>r.push (bw n.toNat)) r=⟨r.data++(l.map λn=>bw n.toNat).toArray⟩:=by
  intro l;induction l with
  |nil=>intro r;simp
  |cons b l ih=>intro r;simp only [List.foldl_cons,List.map_cons];rw [ih];simp [ByteArray.push]
 rw [this];have h:ByteArray.empty.data= #[]:=rfl;rw [h];simp
theorem zQ (w:bk) (b:Nat) (c:Int) (h:w.cell? ⟨b,0,Y⟩=X (J b4 c)):
 (convert 76 9 (b8 (X ⟨b,0,Y⟩) 1 1)).run prog w= .ok (S [bw c.toNat]) w:=by
 have:=gr w ⟨b,0,Y⟩ 1 [c] (λj a=>by
  have:j=0:=by simpa using a
  subst this;simpa [cg] using h)
 simpa using this
theorem zP (w:bk) (b:Nat) (c d:Int) (a:w.cell? ⟨b,0,Y⟩=X (J b4 c)) (h1:w.cell? ⟨b,1,Y⟩=X (J b4 d)):
 (convert 76 9 (b8 (X ⟨b,0,Y⟩) 2 2)).run prog w= .ok (S [bw c.toNat,bw d.toNat]) w:=by
 have:=gr w ⟨b,0,Y⟩ 2 [c,d] (λj e=>by
  have:j=0∨j=1:=by simp at e;omega
  rcases this with rfl|rfl
  · simpa [cg] using a
  · simpa [cg] using h1)
 simpa using this
open Classical in
noncomputable def cv1 (x:Option bB) (w:bk) (b:Nat):Result bB:=
 if x=w.cell? ⟨b,0,Y⟩ then (convert 76 9 (b8 (X ⟨b,0,Y⟩) 1 1)).run prog w
 else match x with
  |some (J b4 c)=> .ok (S [bw c.toNat]) w
  |_=>(convert 76 9 (b8 (X ⟨b,0,Y⟩) 1 1)).run prog w
theorem xD (w:bk) (b:Nat):(convert 76 9 (b8 (X ⟨b,0,Y⟩) 1 1)).run prog w=cv1 (w.cell? ⟨b,0,Y⟩) w b:=by unfold cv1;rw [if_pos rfl]
theorem zN (c:Int) (w:bk) (b:Nat):cv1 (X (J b4 c)) w b= .ok (S [bw c.toNat]) w:=by
 unfold cv1;split
 · rename_i h;exact zQ w b c h.symm
 · rfl
open Classical in
noncomputable def cv2 (x y:Option bB) (w:bk) (b:Nat):Result bB:=
 if x=w.cell? ⟨b,0,Y⟩/\y=w.cell? ⟨b,1,Y⟩ then (convert 76 9 (b8 (X ⟨b,0,Y⟩) 2 2)).run prog w
 else match x,y with
  |some (J b4 c),X (J b4 d)=> .ok (S [bw c.toNat,bw d.toNat]) w
  |_,_=>(convert 76 9 (b8 (X ⟨b,0,Y⟩) 2 2)).run prog w
theorem xC (w:bk) (b:Nat):(convert 76 9 (b8 (X ⟨b,0,Y⟩) 2 2)).run prog w=cv2 (w.cell? ⟨b,0,Y⟩) (w.cell? ⟨b,1,Y⟩) w b:=by unfold cv2;rw [if_pos ⟨rfl,rfl⟩]
theorem zM (c d:Int) (w:bk) (b:Nat):cv2 (X (J b4 c)) (X (J b4 d)) w b= .ok (S [bw c.toNat,bw d.toNat]) w:=by
 unfold cv2;split
 · rename_i h;exact zP w b c d h.1.symm h.2.symm
 · rfl
attribute [go_sem] xD zN xC zM
end
section
open Go.RowKit
theorem mH (w:bk) (x y z:bB) (t:TypeId):∀j v,[x,y,z][j]? =X v->(w.alloc (b9 #[x,y,z] t)).cell? ((⟨w.heap.size,0,Y⟩:Addr).add j)=X v:=by
 intro j v a;match j,a with
 |0,a=>simp at a;subst a;simp [cg]
 |1,a=>simp at a;subst a;simp [cg]
 |2,a=>simp at a;subst a;simp [cg]
open Go.RowKit
theorem nr (w:bk) (x y z u:bB) (t:TypeId):∀j v,[x,y,z,u][j]? =X v->(w.alloc (b9 #[x,y,z,u] t)).cell? ((⟨w.heap.size,0,Y⟩:Addr).add j)=X v:=by
 intro j v a;match j,a with
 |0,a=>simp at a;subst a;simp [cg]
 |1,a=>simp at a;subst a;simp [cg]
 |2,a=>simp at a;subst a;simp [cg]
 |3,a=>simp at a;subst a;simp [cg]
end
section
open Go.RowKit
open Classical in
noncomputable def fw (f g:af):Bool:=decide (f=g)
theorem jU (f g:af):fw f g=true↔f=g:=by unfold fw;simp
theorem rv {f g:af} (h:f≠g):fw f g=false:=by unfold fw;simp [h]
theorem kV (f g:af) (d c:bB) (w:bk) (k:∃a b,d=b8 a f.subs.length b) (j:∃a b,c=b8 a g.subs.length b)
 (h:f.tag≠g.tag∨f.ind≠g.ind∨f.data≠g.data∨f.subs.length≠g.subs.length):
 bO prog 139 #[fieldV f d,fieldV g c] w λe w'=>e=b5 (b6 (fw f g))/\Bw w w':=by
 have i:Hid (fw f g=false):=rv (by rintro rfl;simp at h);obtain ⟨a,b,rfl⟩:=k;obtain ⟨l,m,rfl⟩:=j;obtain ⟨s,o,data,q⟩:=f;obtain ⟨t,p,n,r⟩:=g;simp only at h;unfold fieldV;rw [i.o];have H:=Z h;clear h;go_enter func139,ntmps139;go_wp2_with fail
 all_goals first
  |(go_ret;exact ⟨rfl,(am w _).alloc (by simp) _⟩)
  |(exfalso;go_tidy;have h:=H.o;clear H;simp_all;omega)
theorem ju {α:Type} {l m:List α} (k:Nat) (h1:k<l.length) (a:k<m.length) (h:l.take k=m.take k) (b:l[k]=m[k]):l.take (k+1)=m.take (k+1):=by
 rw [ca h1,ca a,h,b]
theorem jx (r o data:Bs) (f g:List cB) (d c:bB) (w:bk) (K:aD 0 w.heap.size w d f) (I:aD 0 w.heap.size w c g) (hn:f.length<=1000000)
 (h:f.length=g.length):
 bO prog 139 #[fieldV ⟨r,o,data,f⟩ d,fieldV ⟨r,o,data,g⟩ c] w λe w'=>e=b5 (b6 (fw ⟨r,o,data,f⟩ ⟨r,o,data,g⟩))/\Bw w w':=by
 have N:=Z K;have M:=Z I;obtain ⟨a,t,rfl,_⟩:=K;obtain ⟨A,u,rfl,_⟩:=I;unfold fieldV;have D:=Z h;have a5:((f.length:Int)!=g.length)=false:=by simp [h]
 clear h;go_enter func139,ntmps139;go_wp2_with fail
 go_loopw [5] (λi wr=>∃(k:Nat),k<=f.length/\i=J U k/\Hid (f.take k=g.take k)/\
  Below (w.heap.size+2) ((w.alloc (bY #[S r,S o,S data,bc a f.length t] 123)).alloc (bY #[S r,S o,S data,bc A g.length u] 123)) wr) (λi _=>f.length - (intOf i).toNat)
 case atStart=>exact ⟨0,cc _,rfl,rfl,bs _ _⟩
 case round=>
  obtain ⟨k,hk,rfl,F,z⟩:=hrel;have a6:wr.cell? ⟨w.heap.size,3,Y⟩=X (bc a f.length t):=by rw [z.cell (p:=⟨w.heap.size,3,Y⟩) (by simp)];go_simp
  have a7:wr.cell? ⟨w.heap.size+1,3,Y⟩=X (bc A g.length u):=by rw [z.cell (p:=⟨w.heap.size+1,3,Y⟩) (by simp)];go_simp
  have v:Bw w wr:=btr ((am w _).alloc (by simp) _) z (by omega);by_cases hlt:k<f.length
  · have L:k<g.length:=by rw [<- D.o];exact hlt
    obtain ⟨b,l,a0,C,_,_,Q,T⟩:=(N.kept (aX v (bb _))).sub k hlt;cases C;obtain ⟨j,m,a4,C,_,_,R,V⟩:=(M.kept (aX v (bb _))).sub k L;cases C;have O:Hid (f[k]=g[k]->f.take (k+1)=g.take (k+1)):=ju k hlt L F.o;have E:Hid (f[k]≠g[k]->fw ⟨r,o,data,f⟩ ⟨r,o,data,g⟩=false):=λP=>rv (by intro B;injection B with _ _ _ B;subst B;exact P rfl);generalize hp:f[k]=p at *;generalize hq:g[k]=q at *;clear hp hq;obtain ⟨n,s⟩:=p;obtain ⟨x,y⟩:=q;simp only at Q T R V;have W:(0:Int)<=k:=by omega
    have A:(k:Int)<f.length:=by omega
    have a3:(k:Int)<g.length:=by omega
    by_cases hpc:n=x
    · subst hpc;by_cases hpt:s=y
      · subst hpt;go_wp2_with fail
        go_region_held3 (λw'=>w'.cell? ⟨w.heap.size,3,Y⟩=X (bc (X ⟨b,l,Y⟩) f.length t)/\w'.cell? ⟨w.heap.size+1,3,Y⟩=X (bc (X ⟨j,m,Y⟩) g.length u)/\w'.cell? ⟨b,l+k * 2,Y⟩=X (J b4 n.toNat)/\w'.cell? ⟨b,l+k * 2+1,Y⟩=X (S s)/\w'.cell? ⟨j,m+k * 2,Y⟩=X (J b4 n.toNat)/\w'.cell? ⟨j,m+k * 2+1,Y⟩=X (S s)) (go_keep) (fail)
        go_wp2_with fail
        go_roundw
        case rel=>exact ⟨k+1,by omega,by go_num,O.o (by simp),z.drew⟩
        case measure=>simp [intOf];omega
      · have h1:(s==y)=false:=by simpa using hpt
        have H:(s !=y)=true:=by simpa using hpt
        go_wp2_with fail
        go_region_held3 (λw'=>w'.cell? ⟨w.heap.size,3,Y⟩=X (bc (X ⟨b,l,Y⟩) f.length t)/\w'.cell? ⟨w.heap.size+1,3,Y⟩=X (bc (X ⟨j,m,Y⟩) g.length u)/\w'.cell? ⟨b,l+k * 2,Y⟩=X (J b4 n.toNat)/\w'.cell? ⟨b,l+k * 2+1,Y⟩=X (S s)/\w'.cell? ⟨j,m+k * 2,Y⟩=X (J b4 n.toNat)/\w'.cell? ⟨j,m+k * 2+1,Y⟩=X (S y)) (go_keep) (fail)
        go_wp2_with fail
        go_ret;exact ⟨an (E.o (by simpa using hpt)).symm,v.drew⟩
    · have G:¬(n.toNat:Int)=x.toNat:=by intro h;exact hpc (UInt8.toNat_inj.1 (by omega))
      have h1:((n.toNat:Int)==x.toNat)=false:=by simpa using G
      have H:((n.toNat:Int)!=x.toNat)=true:=by simpa using G
      go_wp2_with fail
      go_region_held3 (λw'=>w'.cell? ⟨w.heap.size,3,Y⟩=X (bc (X ⟨b,l,Y⟩) f.length t)/\w'.cell? ⟨w.heap.size+1,3,Y⟩=X (bc (X ⟨j,m,Y⟩) g.length u)/\w'.cell? ⟨b,l+k * 2,Y⟩=X (J b4 n.toNat)/\w'.cell? ⟨b,l+k * 2+1,Y⟩=X (S s)/\w'.cell? ⟨j,m+k * 2,Y⟩=X (J b4 x.toNat)/\w'.cell? ⟨j,m+k * 2+1,Y⟩=X (S y)) (go_keep) (fail)
      go_wp2_with fail
      go_ret;exact ⟨an (E.o (by simp [hpc])).symm,v.drew⟩
  · go_wp2_with fail
    go_ret;refine ⟨an ?_,v⟩;symm;rw [jU]
    have h1:=F.o;have H:=D.o;rw [bp (by omega),bp (by omega)] at h1;rw [h1]
theorem pr (f g:af) (d c:bB) (w:bk) (j:aD 0 w.heap.size w d f.subs) (i:aD 0 w.heap.size w c g.subs) (m:f.subs.length<=1000000):
 bO prog 139 #[fieldV f d,fieldV g c] w λe w'=>e=b5 (b6 (fw f g))/\Bw w w':=by
 have l:∃a b,d=b8 a f.subs.length b:=by obtain ⟨a,b,h,_⟩:=j;exact ⟨a,b,h⟩
 have k:∃a b,c=b8 a g.subs.length b:=by obtain ⟨a,b,h,_⟩:=i;exact ⟨a,b,h⟩
 by_cases h:f.tag≠g.tag∨f.ind≠g.ind∨f.data≠g.data∨f.subs.length≠g.subs.length
 · exact kV f g d c w l k h
 · obtain ⟨q,n,data,o⟩:=f;obtain ⟨t,s,r,p⟩:=g;simp only [ne_eq,not_or,cz] at h;obtain ⟨rfl,rfl,rfl,h⟩:=h;exact jx q n data o p d c w j i m h
open Go.RowKit
open Classical in
noncomputable def sameR (r s:az):Bool:=decide (r=s)
theorem nQ (r s:az):sameR r s=true↔r=s:=by unfold sameR;simp
theorem ru {r s:az} (h:r≠s):sameR r s=false:=by unfold sameR;simp [h]
theorem tM (r s:az) (x y:bB) (w:bk) (f:∃a b,x=b8 a r.fields.length b) (d:∃a b,y=b8 a s.fields.length b)
 (h:r.kind≠s.kind∨r.level≠s.level∨r.fields.length≠s.fields.length):
 bO prog 87 #[fY r x,fY s y] w λe w'=>e=b5 (b6 (sameR r s))/\Bw w w':=by
 have c:Hid (sameR r s=false):=ru (by rintro rfl;simp at h);obtain ⟨a,b,rfl⟩:=f;obtain ⟨g,i,rfl⟩:=d;obtain ⟨k,l,j⟩:=r;obtain ⟨n,o,m⟩:=s;simp only at h;unfold fY;rw [c.o];have H:=Z h;clear h;go_enter func87,ntmps87;go_wp2_with fail
 all_goals first
  |(go_ret;exact ⟨rfl,(am w _).alloc (by simp) _⟩)
  |(exfalso;go_tidy;have h:=H.o;clear H;simp only [ne_eq, <- UInt8.toNat_inj] at h;simp at *;omega)
theorem pq (g j:UInt8) (c f:List af) (x y:bB) (w:bk) (C:ai 0 w.heap.size w x c) (D:ai 0 w.heap.size w y f) (a5:bR c) (h:c.length=f.length):
 bO prog 87 #[fY ⟨g,j,c⟩ x,fY ⟨g,j,f⟩ y] w λe w'=>e=b5 (b6 (sameR ⟨g,j,c⟩ ⟨g,j,f⟩))/\Bw w w':=by
 have T:=Z C;have V:=Z D;obtain ⟨a,u,rfl⟩:=C.shape;obtain ⟨s,v,rfl⟩:=D.shape;obtain ⟨hn,O⟩:=a5;have R:=Z O;clear C D O;unfold fY;have F:=Z h;have a8:((c.length:Int)!=f.length)=false:=by simp [h]
 clear h;go_enter func87,ntmps87;go_wp2_with fail
 go_loopw [5,6] (λi t wr=>∃(k:Nat),k<=c.length/\i=J U k/\Hid (c.take k=f.take k)/\
  Below (w.heap.size+2) ((w.alloc (bY #[J b4 g.toNat,J b4 j.toNat,bc a c.length u] 62)).alloc (bY #[J b4 g.toNat,J b4 j.toNat,bc s f.length v] 62)) wr) (λi _ _=>c.length - (intOf i).toNat)
 case atStart=>exact ⟨0,cc _,rfl,rfl,bs _ _⟩
 case round=>
  obtain ⟨k,hk,rfl,G,r⟩:=hrel;have a9:wr.cell? ⟨w.heap.size,2,Y⟩=X (bc a c.length u):=by rw [r.cell (p:=⟨w.heap.size,2,Y⟩) (by simp)];go_simp
  have a4:wr.cell? ⟨w.heap.size+1,2,Y⟩=X (bc s f.length v):=by rw [r.cell (p:=⟨w.heap.size+1,2,Y⟩) (by simp)];go_simp
  have m:Bw w wr:=btr ((am w _).alloc (by simp) _) r (by omega);have a0:=m.size;by_cases hlt:k<c.length
  · have K:k<f.length:=by rw [<- F.o];exact hlt
    obtain ⟨b,n,a6,d,B,_,_,p0,p1,p2,p3,M⟩:=(T.kept (aX m (bb _))).field k hlt;cases B;obtain ⟨l,o,a7,H,B,_,_,q0,q1,q2,q3,N⟩:=(V.kept (aX m (bb _))).field k K;cases B;have P:Hid (fw c[k] f[k]=true->c.take (k+1)=f.take (k+1)):=λh=>ju k hlt K G.o ((jU _ _).1 h);have Q:Hid (fw c[k] f[k]=false->sameR ⟨g,j,c⟩ ⟨g,j,f⟩=false):=λL=>ru (by intro A;injection A with _ _ A;subst A;have:=(jU c[k] c[k]).2 rfl;rw [this] at L;cases L);have I:=ch (cM c[k]) (R _ (cl hlt))
    have E:Hid (∀W,Bw wr W->bO prog 139 #[fieldV c[k] d,fieldV f[k] H] W λe w'=>e=b5 (b6 (fw c[k] f[k]))/\Bw W w'):=λW q=>
     pr _ _ _ _ W ((M.kept (aX q (by omega))).mono (bb _) (by have:=q.size;omega)) ((N.kept (aX q (by omega))).mono (bb _) (by have:=q.size;omega)) I
    unfold fieldV at E;clear M N I;generalize fw c[k] f[k]=t at *;generalize c[k].tag=f1 at *;generalize c[k].ind=f2 at *;generalize c[k].data=f3 at *;generalize f[k].tag=g1 at *;generalize f[k].ind=g2 at *;generalize f[k].data=g3 at *;have a1:(0:Int)<=k:=by omega
    have s:(k:Int)<c.length:=by omega
    have a3:(k:Int)<f.length:=by omega
    cases t
    all_goals
     go_wp2_with fail
     go_region_held3 (λw'=>w'.cell? ⟨w.heap.size,2,Y⟩=X (bc (X ⟨b,n,Y⟩) c.length u)/\w'.cell? ⟨w.heap.size+1,2,Y⟩=X (bc (X ⟨l,o,Y⟩) f.length v)
      /\w'.cell? ⟨b,n+k * 4,Y⟩=X (S f1)/\w'.cell? ⟨b,n+k * 4+1,Y⟩=X (S f2)/\w'.cell? ⟨b,n+k * 4+2,Y⟩=X (S f3)/\w'.cell? ⟨b,n+k * 4+3,Y⟩=X d
      /\w'.cell? ⟨l,o+k * 4,Y⟩=X (S g1)/\w'.cell? ⟨l,o+k * 4+1,Y⟩=X (S g2)/\w'.cell? ⟨l,o+k * 4+2,Y⟩=X (S g3)/\w'.cell? ⟨l,o+k * 4+3,Y⟩=X H) (go_keep)
      ((go_at_call 139;refine (E.o _ ?_).mono ?_;(exact (bs _ wr).drew);rintro e w3 ⟨rfl,z⟩;have ac:=fN z))
     go_wp2_with fail
    · go_ret;exact ⟨an (Q.o (by simp)).symm,btr m.drew z (by simpa using a0)⟩
    · go_roundw
      case rel=>exact ⟨k+1,by omega,by go_num,P.o (by simp),btr r.drew z (by have:w.heap.size+1<wr.heap.size:=bi a4;simp;omega)⟩
      case measure=>simp [intOf];omega
  · go_wp2_with fail
    go_ret;refine ⟨an ?_,m⟩;symm;rw [nQ]
    have h1:=G.o;have h2:=F.o;rw [bp (by omega),bp (by omega)] at h1;rw [h1]
theorem Az (r s:az) (u v:bB) (w:bk) (g:eA 0 w.heap.size w u r) (i:eA 0 w.heap.size w v s) (f:bR r.fields):
 bO prog 87 #[u,v] w λe w'=>e=b5 (b6 (sameR r s))/\Bw w w':=by
 obtain ⟨x,rfl,a⟩:=g;obtain ⟨y,rfl,b⟩:=i;by_cases h:r.kind≠s.kind∨r.level≠s.level∨r.fields.length≠s.fields.length
 · exact tM r s x y w a.shape b.shape h
 · obtain ⟨k,l,c⟩:=r;obtain ⟨j,m,d⟩:=s;simp only [ne_eq,not_or,cz] at h;obtain ⟨rfl,rfl,h⟩:=h;exact pq k l c d x y w a b f h
end
section
open Go.RowKit
attribute [local go_sem ↓] Go.wp_at_zero Go.wp_at_succ
theorem yH (r:az) (v:bB) (w:bk) (b:eA 0 w.heap.size w v r) (d:bR r.fields):
 bO prog 85 #[v] w λe w'=>e=b5 (b6 (decide (wrongR r=0)))/\Bw w w':=by
 have c:Hid (∀W,Bw w W->bO prog 122 #[v] W λe w'=>e=b5 (J U (wrongR r))/\Bw W w'):=λW a=>
  yd r v W ((b.kept (aX a (bb _))).mono (bb _) a.size) d
 obtain ⟨x,rfl,_⟩:=b;unfold fY at *;generalize wrongR r=e at *;go_enter func85,ntmps85;go_wp2_with (go_at_call 122;refine (c.o _ (am _ _)).mono ?_;rintro e w1 ⟨rfl,a⟩)
 go_ret;exact ⟨an (by rw [bt];simp),btr (am w _) a (by simp)⟩
end
end Go.Proofs.YtjcimanddakkaaaGreatDoor
