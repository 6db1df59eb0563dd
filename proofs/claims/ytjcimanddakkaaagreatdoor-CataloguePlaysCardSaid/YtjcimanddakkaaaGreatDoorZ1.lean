/- Lemmas. -/
import Derived.Test.YtjcimanddakkaaaGreatDoorZ0
import Derived.Test.YtjcimanddakkaaaGreatDoorProg
import Derived.Deep.RegionHeld3
import Derived.Deep.DrawnRows
import Derived.Shelf.Strings.Builder1
import Derived.Shelf.Strings.SlTrimAscii
import Derived.Shelf.Unicode.DecodeAny
import Derived.Deep.DeepCutAuto
set_option maxRecDepth 100000
set_option maxHeartbeats 8000000
namespace Go.Proofs.YtjcimanddakkaaaGreatDoor
open Go.Value renaming int→J,bool→c6,pointer→c7,slice→c9
open Go.IntKind renaming u8→c4,i64→U
open Go.Ending renaming returned→c5
open _root_.Option renaming some→X,none→Y
open Go.Lib renaming hid→Z
open Go.Obj renaming cells→ca
open Tryz
open _root_.Nat renaming le_refl→cb,zero_le→cz,le_trans→cP
open Go.Value renaming slice→cc,int→dx
open _root_.List renaming take_of_length_le→cd,take_succ_eq_append_getElem→cp,length→cu,getElem_mem→dk,length_append→ds,eq_nil_of_length_eq_zero→eg
open Go.RowKit.Below renaming refl→cg,heap_setCell→e0
open Go renaming World→ch,Value→cs,Calls→cv
open _root_.Bool renaming eq_iff_iff→cl
open _root_.UInt8 renaming ofNat→cm
open Go.Lib renaming byteCells→cq,cell_of_heap→cx,frozen_of_heap→dz,trimS→ej
open Go.Obj renaming cells→cy
open _root_.ByteArray renaming size→cQ
open Go.IntWalk renaming i64_in→dc
open Go.Calls renaming mono→dd
open _root_.Array renaming getElem?_modify→di
open Go.Addr renaming add→dn
open Go.World renaming cell?_of_block→dy,setCell→em,ownsRow_nil→e4
open _root_.Decidable renaming not_not→er
open Go.IntKind renaming u8→es
open Go.RowKit renaming Below→eQ
section
open Go.RowKit
theorem jO (c:UInt8) (w:ch):cv prog 109 #[J c4 c.toNat] w λe w'=>e=c5 (c6 (letterB c))/\w=w':=by
 go_enter func109,ntmps109;go_wp2;all_goals (go_ret;refine ⟨ap ?_,rfl⟩;rw [cl];simp [letterB];try omega)
theorem jN (c:UInt8) (w:ch):cv prog 165 #[J c4 c.toNat] w λe w'=>e=c5 (c6 (letterB c))/\w=w':=by
 go_enter func165,ntmps165;go_wp2;all_goals (go_ret;refine ⟨ap ?_,rfl⟩;rw [cl];simp [letterB];try omega)
theorem yJ (c:UInt8) (w:ch):cv prog 228 #[J c4 c.toNat] w λe w'=>e=c5 (c6 (digitB c))/\w=w':=by
 go_enter func228,ntmps228;go_wp2;all_goals (go_ret;refine ⟨ap ?_,rfl⟩;rw [cl];simp [digitB];try omega)
theorem oP (c:UInt8) (w:ch):cv prog 159 #[J c4 c.toNat] w λe w'=>e=c5 (c6 (eY c))/\w=w':=by
 go_enter func159,ntmps159;go_wp2;all_goals (go_ret;refine ⟨ap ?_,rfl⟩;rw [cl];simp [eY];try omega)
theorem zx (c:UInt8) (w:ch):cv prog 219 #[J c4 c.toNat] w λe w'=>e=c5 (c6 (eY c))/\w=w':=by
 go_enter func219,ntmps219;go_wp2;all_goals (go_ret;refine ⟨ap ?_,rfl⟩;rw [cl];simp [eY];try omega)
theorem rR (c:UInt8) (w:ch):cv prog 156 #[J c4 c.toNat] w λe w'=>e=c5 (c6 (fV c))/\w=w':=by
 go_enter func156,ntmps156;go_wp2_with (go_at_call 159;refine (oP _ _).mono ?_;rintro e w' ⟨rfl,rfl⟩)
 all_goals (go_ret;refine ⟨ap ?_,rfl⟩;rw [cl];simp [fV,eY];try omega)
theorem Br (n m:Int):(n.tmod m+m)%m=n.emod m:=by
 rw [Int.add_emod_right];rw [Int.tmod_def];exact Int.sub_mul_emod_self_left n m _
theorem jM (n m:Int) (w:ch) (c:1<=m) (d:m<=1000000):
 cv prog 24 #[J U n,J U m] w λe w'=>e=c5 (J U (n.emod m))/\w=w':=by
 have a:n.tmod m<m:=Int.tmod_lt_of_pos n (by omega);have b: -m<n.tmod m:=by have:=Int.lt_tmod_of_pos n (show 0<m by omega);omega
 go_enter func24,ntmps24;go_wp2;go_ret;exact ⟨aH (Br n m),rfl⟩
open Go.RowKit
theorem zO (x:Ch) (c:UInt8) (b:Nat) (w:ch) (a:jZ x) (h:sJ w b x):
 cv prog 229 #[c7 (X ⟨b,0,Y⟩),J c4 c.toNat] w (mH x c b w):=by
 obtain ⟨d,c1,c2,e,f,g⟩:=h;obtain ⟨k,l,j⟩:=a;have i:=nj c;go_enter func229,ntmps229;go_wp2;all_goals go_ret
 all_goals go_tidy
 all_goals (try simp only [beq_iff_eq,beq_eq_false_iff_ne] at *)
 all_goals first
  |(refine ye (by repeat' (with_reducible (first |exact aq.refl _ _|refine aq.setCell ?_ _ _))) rfl ?_;first |exact AD (by omega) (by omega)|exact kU (by omega) (by omega))
  |(first
   |refine ez (BD (by omega) (by omega)) (by repeat' (with_reducible (first |exact aq.refl _ _|refine aq.setCell ?_ _ _))) rfl ?_
   |refine ez (si (by omega) (by omega)) (by repeat' (with_reducible (first |exact aq.refl _ _|refine aq.setCell ?_ _ _))) rfl ?_
   |refine ez (yV (by omega) (by omega)) (by repeat' (with_reducible (first |exact aq.refl _ _|refine aq.setCell ?_ _ _))) rfl ?_
   |refine ez (A3 (by omega) (by omega)) (by repeat' (with_reducible (first |exact aq.refl _ _|refine aq.setCell ?_ _ _))) rfl ?_
   |refine ez (A0 (by omega) (by omega)) (by repeat' (with_reducible (first |exact aq.refl _ _|refine aq.setCell ?_ _ _))) rfl ?_
   |refine ez (AZ (by omega) (by omega)) (by repeat' (with_reducible (first |exact aq.refl _ _|refine aq.setCell ?_ _ _))) rfl ?_
   |refine ez (AY (by omega) (by omega)) (by repeat' (with_reducible (first |exact aq.refl _ _|refine aq.setCell ?_ _ _))) rfl ?_
   |refine ez (AX (by omega) (by omega)) (by repeat' (with_reducible (first |exact aq.refl _ _|refine aq.setCell ?_ _ _))) rfl ?_
   |refine ez (AW (by omega) (by omega)) (by repeat' (with_reducible (first |exact aq.refl _ _|refine aq.setCell ?_ _ _))) rfl ?_)
 all_goals constructor
 all_goals go_simp
 all_goals (first |omega|(refine World.cell?_setCell_same' _ _ _ ?_;go_simp;done))
theorem jR (l:Bs) (w:ch) (u:l.length<=1000000):
 cv prog 218 #[S l] w λe w'=>e=c5 (c6 (aR l))/\Bw w w':=by
 go_enter func218,ntmps218;go_wp2_with fail
 go_loopw [4,5] (λi f wr=>∃(k:Nat) (y:Ch),k<=l.length/\i=J U k/\chRun ch0 (l.take k)=X y/\jZ y/\sJ wr w.heap.size y/\Bw w wr) (λi _ _=>l.length - (intOf i).toNat)
 case atStart=>exact ⟨0,ch0,cz _,rfl,rfl,yX,yY w 297,(cg _ _).alloc (cb _) _⟩
 case round=>
  obtain ⟨k,y,t,rfl,h,d,c,b⟩:=hrel;have a:=Z h;clear h;by_cases hlt:k<l.length
  · have m:=Z (vu l k hlt);go_wp2_with (go_at_call 229;refine (zO y l[k] w.heap.size wr d c).mono ?_;rintro e v ⟨g,⟨o,rfl⟩|⟨z,j,rfl,n⟩⟩)
    · go_ret;exact ⟨ap (rN (uf l k y hlt ch0 a.o o.o)).symm,b.trans (g.below (cb _))⟩
    · go_roundw
      case rel=>exact ⟨k+1,z,by omega,by go_num,by rw [m.o,ue _ _ _ _ a.o];exact j.o,sr d j.o,n,b.trans (g.below (cb _))⟩
      case measure=>simp [intOf];omega
  · obtain ⟨p,c1,c2,q,r,s⟩:=c;go_wp2_with fail
    go_ret;refine ⟨ap ?_,b⟩;rw [tT (by rw [<- a.o,cd (by omega)]),cl];simp;try omega
open Go.RowKit
attribute [local go_sem ↓] Go.wp_at_zero Go.wp_at_succ
theorem eU (l:Bs) (w:ch) (a:2<=l.length):
 cv prog 217 #[S l] w λe w'=>e=c5 (c6 (fA l))/\w=w':=by
 go_enter func217,ntmps217;go_wp2;go_ret;exact ⟨ap (by unfold fA;rw [cl];simp),rfl⟩
theorem fw (l:Bs) (w:ch):
 cv prog 176 #[S l] w λe w'=>e=c5 (c6 (bu l))/\w=w':=by
 by_cases h:l.length=3
 · obtain ⟨a,b,c,rfl⟩:∃a b c,l=[a,b,c]:=by
    match l,h with
    |[a,b,c],_=>exact ⟨a,b,c,rfl⟩
   have d:∀x,x=bu [a,b,c]->Ending.returned (c6 x)=c5 (c6 (bu [a,b,c])):=λx h=>by rw [h]
   have f:=Z d;clear h d;cases ha:digitB a<;>cases hb:digitB b<;>cases hc:digitB c
   all_goals
    go_enter func176,ntmps176
    go_wp2_with (go_at_call 228;refine (yJ _ _).mono ?_;rintro e w' ⟨rfl,rfl⟩)
    go_ret
    refine ⟨f _ ?_,rfl⟩
    rw [cl]
    simp [bu,ha,hb,hc]
   all_goals (by_cases x:a=48<;>by_cases y:b=48<;>by_cases z:c=48<;>simp [x,y,z])
 · have g:((l.length:Int)==3)=false:=by simp;omega
   have d:bu l=false:=by simp [bu,h]
   go_enter func176,ntmps176;go_wp2_with fail
   go_ret;exact ⟨ap d.symm,rfl⟩
theorem oh (w:ch) (b:Nat) (c:Int) (h:w.cell? ⟨b,0,Y⟩=X (J c4 c)) (d:0<=c/\c<256):
 (convert 76 9 (c9 (X ⟨b,0,Y⟩) 1 1)).run prog w= .ok (S [cm c.toNat]) w:=by
 have:=run_convert_bytes_back (P:=prog) w 76 9 5 ⟨b,0,Y⟩ 1 [cm c.toNat] underlying76 underlying5 underlying9
  (λj a=>by
   have:j=0:=by simpa using a
   subst this
   simp [dn,h]
   omega)
 simpa using this
theorem jt (n:Nat):∀(v m:Int) (w:ch),m=n->0<=v->v<1000000000->n<=100->
 cv prog 124 #[J U v,J U m] w λe w'=>e=c5 (S (fixedN n v.toNat))/\Bw w w':=by
 induction n with
 |zero=>
  intro v m w d a k j;subst d;go_enter func124,ntmps124;go_wp2_with fail
  go_ret;exact ⟨rfl,cg _ _⟩
 |succ n ih=>
  intro v m w d a k j;have i:=Z ih;have x:1<=m:=by omega
  have y:m<=100:=by omega
  have z:(m==0)=false:=by simp;omega
  have g:=Z d;clear ih d;go_enter func124,ntmps124;go_wp2_with fail
  have l:v.tdiv 10=v / 10:=Int.tdiv_eq_ediv_of_nonneg a;have o:IntKind.i64.wrap (v / 10)=v / 10:=dc _ (by omega);have p:IntKind.i64.wrap (m - 1)=m - 1:=dc _ (by omega);have q:v.tmod 10=v%10:=Int.tmod_eq_emod_of_nonneg a;have r:IntKind.i64.wrap (48+v%10)=48+v%10:=dc _ (by omega);have s:IntKind.u8.wrap (48+v%10)=48+v%10:=IntWalk.u8_in _ (by omega);have f:0<=v / 10/\v / 10<1000000000:=by omega
  have A:=λW b (h:W.cell? ⟨b,0,Y⟩=X (J c4 (48+v%10)))=>oh W b _ h (by omega);go_region_with (go_at_call 124;refine (i.o _ _ _ (by have:=g.o;omega) f.1 f.2 (by omega)).mono ?_;rintro e B ⟨rfl,c⟩;obtain ⟨t,u⟩:=ar c)
  all_goals go_wp2_with fail
  all_goals go_ret
  · exact ⟨nC (lX n v a),(btr (cg _ w).drew c (cb _)).alloc (by have:=c.size;simpa using this) _⟩
  all_goals exact ⟨nC (lX n v a),btr ((cg _ w).alloc (cb _) _).drew c (by simp)⟩
open Go.RowKit
attribute [local go_sem ↓] Go.wp_at_zero Go.wp_at_succ
theorem mu (f:af) (d:cs) (w:ch) (y:aB 0 w.heap.size w d f.subs) (q:(fieldBytes f).length<=1000000) (P:f.subs.length<=1000000):
 cv prog 123 #[fieldV f d] w λe w'=>e=c5 (S (fieldBytes f))/\Bw w w':=by
 obtain ⟨t,j,data,c⟩:=f;have N:data.length+j.length<=1000000:=by simp [fieldBytes] at q;omega
 have v:=Z q;have B:=Z y;obtain ⟨a,l,rfl,_⟩:=y;clear q;unfold fieldV;go_enter func123,ntmps123;go_wp2_with fail
 go_loopw [3,4] (λs i wr=>∃(k:Nat) (g:Bs),k<=c.length/\i=J U k/\s=S g/\Hid (g=data++j++(c.take k).flatMap aU)/\g.length<1000000/\
  eQ (w.heap.size+1) (w.alloc (cy #[S t,S j,S data,cc a c.length l] 123)) wr) (λ_ i _=>c.length - (intOf i).toNat)
 case atStart=>exact ⟨0,data++j,cz _,rfl,rfl,(by simp [Hid]),(by have:=bN ⟨t,j,data,c⟩ 0;have:=v.o;simp at *;omega),cg _ _⟩
 case round=>
  obtain ⟨k,g,M,rfl,rfl,u,L,m⟩:=hrel;have n:wr.cell? ⟨w.heap.size,3,Y⟩=X (cc a c.length l):=by rw [m.cell (p:=⟨w.heap.size,3,Y⟩) (by simp)];go_simp
  by_cases hlt:k<c.length
  · have D:aB 0 w.heap.size wr (cc a c.length l) c:=(B.o.kept (aP ((cg _ w).alloc (cb _) _) (cb _))).kept (aP m (by omega));obtain ⟨b,r,K,E,_,_,z,A⟩:=D.sub k hlt;cases E;have x:Hid (g++(31::c[k].code::c[k].text)=data++j++(c.take (k+1)).flatMap aU):=by rw [jV _ _ _ hlt,u.o];simp [Hid,aU]
    have O:g.length+2+c[k].text.length<1000000:=by have:=bN ⟨t,j,data,c⟩ (k+1);simp only at this;rw [<- x.o] at this;have:=v.o;simp at *;omega
    have Q:=λW b (h:W.cell? ⟨b,0,Y⟩=X (J c4 c[k].code.toNat))=>oh W b _ h ⟨xy _,nj _⟩;generalize c[k].text=T at *;generalize c[k].code=C at *;have G:∀o,(wr.alloc o).cell? ⟨w.heap.size,3,Y⟩=X (cc (X ⟨b,r,Y⟩) c.length l):=λo=>by rw [aM _ _ _ _ (bh n)];exact n
    have H:∀o,(wr.alloc o).cell? ⟨b,r+k * 2,Y⟩=X (J c4 C.toNat):=λo=>by rw [aM _ _ _ _ (bh z)];exact z
    have I:∀o,(wr.alloc o).cell? ⟨b,r+k * 2+1,Y⟩=X (S T):=λo=>by rw [aM _ _ _ _ (bh A)];exact A
    have F:¬9223372036854775807<cu g+1:=by omega
    have R:¬9223372036854775807<cu g+1+1:=by omega
    have V:¬9223372036854775807<cu g+1+1+cu T:=by omega
    go_wp2_with fail
    go_region;go_wp2_with fail
    go_roundw
    case rel=>
     refine ⟨k+1,g++(31::C::T),by omega,by go_num,?_,x,by simp;omega,?_⟩
     · simp
     · exact (m.alloc (by have:w.heap.size<wr.heap.size:=bh n;omega) _).drew
    case measure=>simp [intOf];omega
  · have F:¬9223372036854775807<cu g+1:=by omega
    go_wp2_with fail
    go_ret;refine ⟨nC ?_,btr ((cg _ w).alloc (cb _) _) m (by omega)⟩;rw [u.o,cd (by omega)];rfl
end
section
open Go.RowKit
theorem mr (l:Bs) (w:ch):∃c w1,(convert 9 76 (S l)).run prog w= .ok (c9 (X ⟨w.heap.size,0,Y⟩) l.length c) w1/\w1.heap.size=w.heap.size+1/\l.length<=c/\Bw w w1/\
 (∀k (h:k<l.length),w1.cell? ⟨w.heap.size,k,Y⟩=X (J c4 l[k].toNat))/\(∀k,k<l.length->w1.frozen? ⟨w.heap.size,k,Y⟩=false):=by
 have e:l.length<=grownCap w l.length 0 5:=grownCap_ge w l.length 0 5;refine ⟨_,_,run_bytes_of_string w 9 76 5 ⟨l.toArray⟩ underlying9 underlying76 underlying5,by simp,e,((cg _ w).drew).alloc (by simp) _,?_,?_⟩
 · intro k h;refine (World.cell?_alloc_mark w.drew _ _ _ k).trans ?_;have a:k<(Array.map (λb:UInt8=>dx es ↑b.toNat) (⟨l.toArray⟩:ByteArray).data).size:=by simpa using h
   unfold bytesRow;rw [Array.getElem?_append_left a];simp [h]
 · intro k h;refine (World.frozen?_alloc_mark w.drew _ _ _ _ k).trans ?_;have a:k<(bytesRow ⟨l.toArray⟩ (grownCap w l.length 0 5)).size:=by unfold bytesRow;simp;omega
   have d:(decide ((bytesRow ⟨l.toArray⟩ (grownCap w l.length 0 5)).size<=k))=false:=by simpa using a
   show (decide ((bytesRow ⟨l.toArray⟩ (grownCap w l.length 0 5)).size<=k)&&_)=false;rw [d];rfl
def o9 (p s:Bs):Bool:=decide (s.take p.length=p)
theorem pM (s p:Bs) (w:ch):cv prog 273 #[S s,S p] w λe w'=>e=c5 (c6 (o9 p s))/\w=w':=by
 go_enter func273,ntmps273;go_wp2;all_goals go_ret
 all_goals refine ⟨ap ?_,rfl⟩
 · rw [o9,cl];simp
 · rename_i h;symm;rw [o9,decide_eq_false_iff_not]
   intro a;apply h;rw [<- a];simp;omega
theorem fW (s p:Bs) (w:ch):cv prog 205 #[S s,S p] w λe w'=>e=c5 (c6 (o9 p s))/\w=w':=by
 go_enter func205,ntmps205;go_wp2_with (go_at_call 273;refine (pM _ _ _).mono ?_;rintro e w' ⟨rfl,rfl⟩)
 go_ret;exact ⟨rfl,rfl⟩
theorem mh (l:Bs) (w:ch):cv prog 154 #[S l] w λe w'=>e=c5 (c6 (fA l))/\w=w':=by
 go_enter func154,ntmps154;go_wp2_with (go_at_call 205;refine (fW _ [48,48] _).mono ?_;rintro e w' ⟨rfl,rfl⟩)
 go_ret;exact ⟨rfl,rfl⟩
open Go.Shelf
def rG:Go.Shelf.Ren:=⟨λ|160=>204|232=>267|231=>266|227=>268|234=>270|233=>269|236=>272|235=>271|228=>307|271=>308|151=>235|197=>278|120=>330|152=>284|260=>310|137=>246|119=>312|224=>313|225=>314|217=>291|266=>323|n=>n,λ|9=>9|4=>4|3=>3|5=>5|117=>328|116=>327|0=>0|124=>331|21=>21|105=>334|46=>218|119=>383|139=>386|138=>385|n=>n,λ|3=>0|4=>1|n=>n⟩
theorem z8:Go.Proofs.Lays.n160 prog rG:={
 mixed:=by kernel_rfl
 f119:=Qf func312
 f120:=Qf func330
 f137:=Qf func246
 f151:=Qf func235
 f152:=Qf func284
 f160:=Qf func204
 f197:=Qf func278
 f217:=Qf func291
 f224:=Qf func313
 f225:=Qf func314
 f227:=Qf func268
 f228:=Qf func307
 f231:=Qf func266
 f232:=Qf func267
 f233:=Qf func269
 f234:=Qf func270
 f235:=Qf func271
 f236:=Qf func272
 f260:=Qf func310
 f266:=Qf func323
 f271:=Qf func308
 t0:=underlying0
 a0:=Tryz.isAgg0
 z0:=sizeOf0
 v0:=zeroValue0
 t3:=underlying3
 a3:=Tryz.isAgg3
 z3:=sizeOf3
 v3:=zeroValue3
 t4:=underlying4
 a4:=Tryz.isAgg4
 z4:=sizeOf4
 v4:=zeroValue4
 t5:=underlying5
 a5:=Tryz.isAgg5
 z5:=sizeOf5
 v5:=zeroValue5
 t9:=underlying9
 a9:=Tryz.isAgg9
 z9:=sizeOf9
 v9:=zeroValue9
 t21:=underlying21
 a21:=Tryz.isAgg21
 z21:=sizeOf21
 v21:=zeroValue21
 t46:=underlying218
 a46:=Tryz.isAgg218
 z46:=sizeOf218
 v46:=zeroValue218
 t105:=underlying334
 a105:=Tryz.isAgg334
 z105:=sizeOf334
 v105:=zeroValue334
 t116:=underlying327
 a116:=Tryz.isAgg327
 z116:=sizeOf327
 t117:=underlying328
 a117:=Tryz.isAgg328
 z117:=sizeOf328
 v117:=zeroValue328
 t119:=underlying383
 a119:=Tryz.isAgg383
 z119:=sizeOf383
 t124:=underlying331
 a124:=Tryz.isAgg331
 z124:=sizeOf331
 v124:=zeroValue331
 t138:=underlying385
 a138:=Tryz.isAgg385
 z138:=sizeOf385
 v138:=zeroValue385
 t139:=underlying386
 a139:=Tryz.isAgg386
 z139:=sizeOf386
 v139:=zeroValue386
 g3:=by kernel_rfl
 g4:=by kernel_rfl}
def kj:Go.Shelf.Ren:=⟨λ|240=>161|276=>207|n=>n,λ|0=>0|4=>4|9=>9|20=>20|70=>185|72=>187|164=>282|37=>76|5=>5|n=>n,λ|n=>n⟩
theorem uO:Go.Proofs.Lays.n240 prog kj:={
 mixed:=by kernel_rfl
 f240:=Qf func161
 f276:=Qf func207
 t0:=underlying0
 a0:=Tryz.isAgg0
 z0:=sizeOf0
 v0:=zeroValue0
 t4:=underlying4
 a4:=Tryz.isAgg4
 z4:=sizeOf4
 v4:=zeroValue4
 t9:=underlying9
 a9:=Tryz.isAgg9
 z9:=sizeOf9
 v9:=zeroValue9
 t20:=underlying20
 a20:=Tryz.isAgg20
 z20:=sizeOf20
 v20:=zeroValue20
 t70:=underlying185
 a70:=Tryz.isAgg185
 z70:=sizeOf185
 v70:=zeroValue185
 t72:=underlying187
 a72:=Tryz.isAgg187
 z72:=sizeOf187
 v72:=zeroValue187
 t164:=underlying282
 a164:=Tryz.isAgg282
 z164:=sizeOf282
 v164:=zeroValue282}
theorem mw:Builder.X72 prog kj:={sizeBuilder:=by kernel_rfl,liesBuilder:=by kernel_rfl}
open Go.RowKit in
theorem l9 (b:Nat) (w:ch) (a:w.cell? ⟨b,0,Y⟩=X (c7 (X ⟨b,0,Y⟩))):
 cv prog 161 #[c7 (X ⟨b,0,Y⟩)] w λe w'=>e=c5 (.tuple #[])/\w'=w:=Any.Builder_copyCheck_used uO mw b w a
open Go.RowKit in
theorem kL (b:Nat) (w:ch) (a:w.cell? ⟨b,0,Y⟩=X (c7 Y)) (d:w.shape? b=X (187,2)) (c:w.frozen? ⟨b,0,Y⟩=false):
 cv prog 161 #[c7 (X ⟨b,0,Y⟩)] w λe w'=>e=c5 (.tuple #[])/\w'=w.setCell ⟨b,0,Y⟩ (c7 (X ⟨b,0,Y⟩)):=Any.Builder_copyCheck_fresh uO mw b w a d c
open Go.RowKit in
open Go.RowKit in
open Go.RowKit in
theorem oA (s:ByteArray) (w:ch) (a:s.size<=9223372036854775807):
 cv prog 204 #[.string s, .string ⟨#[48,49,50,51,52,53,54,55,56,57]⟩] w λe w'=>e=c5 (.string ⟨(ej s.data.toList [48,49,50,51,52,53,54,55,56,57]).toArray⟩)/\Bw w w':=
 Any.strings_Trim_laid z8 (by kernel_rfl) s ⟨#[48,49,50,51,52,53,54,55,56,57]⟩ w a (by decide) (ascii_of_all (by decide))
open Go.RowKit
def iT:Bs:=[48,49,50,51,52,53,54,55,56,57]
theorem l8 (b:UInt8):iT.contains b=digitB b:=by
 have:∀n:Fin 256,iT.contains (cm n.val)=digitB (cm n.val):=by decide+kernel
 have h:=this ⟨b.toNat,b.toNat_lt⟩;simpa using h
theorem li (l:Bs):ej l iT=[]↔l.all digitB=true:=by
 have b:∀l:Bs,l.dropWhile (iT.contains ·)=[]↔l.all digitB=true:=by
  intro l;induction l with
  |nil=>simp
  |cons a l ih=>
   rw [List.dropWhile_cons];by_cases h:digitB a=true
   · rw [if_pos (by rw [l8];exact h),ih];simp [h]
   · rw [if_neg (by rw [l8];exact h)];simp [h]
 unfold ej Lib.trimLeftS;rw [b];unfold Lib.trimRightS;constructor
 · intro h;have c:(l.reverse.dropWhile (iT.contains ·))=[]:=by
    cases hd:l.reverse.dropWhile (iT.contains ·) with
    |nil=>rfl
    |cons a r=>
     exfalso;have e:¬(iT.contains a)=true:=by have d:=List.head?_dropWhile_not (iT.contains ·) l.reverse;rw [hd] at d;simp only [List.head?_cons] at d;rw [d];simp
     rw [hd] at h;rw [List.all_eq_true] at h;have:=h a (by simp);rw [l8] at e;exact e this
   have:=(b l.reverse).1 c;simpa using this
 · intro h;have c:(l.reverse.dropWhile (iT.contains ·))=[]:=(b l.reverse).2 (by simpa using h);rw [c];rfl
theorem sU (l:Bs) (w:ch):cv prog 153 #[S l] w λe w'=>e=c5 (c6 (bu l))/\Bw w w':=by
 by_cases h:l.length=3
 · by_cases hz:l=[48,48,48]
   · subst hz;go_enter func153,ntmps153;go_wp2_with fail
     go_ret;exact ⟨rfl,cg _ _⟩
   · have b:Hid (bu l=l.all digitB):=by unfold Hid;simp [bu,h,hz]
     have d:((l.length:Int)==3)=true:=by simp;omega
     have a:Hid (∀W,cv prog 204 #[S l, .string ⟨#[48,49,50,51,52,53,54,55,56,57]⟩] W λe w'=>e=c5 (S (ej l iT))/\Bw W w'):=λW=>oA ⟨l.toArray⟩ W (by have:(⟨l.toArray⟩:ByteArray).size=l.length:=rfl;omega);have c:=Z (li l);clear h;generalize ej l iT=t at *;go_enter func153,ntmps153;go_wp2_with (go_at_call 204;((with_reducible refine dd (a.o _) ?_);rintro e w' ⟨rfl,g⟩))
     go_ret;refine ⟨ap ?_,g⟩;rw [b.o,cl, <- c.o];simp [hz]
 · have d:((l.length:Int)==3)=false:=by simp;omega
   have f:bu l=false:=by simp [bu,h]
   go_enter func153,ntmps153;go_wp2_with fail
   go_ret;exact ⟨ap f.symm,cg _ _⟩
end
section
open Go.RowKit
theorem sJ.of {b:Nat} {w w':ch} {x:Ch} (h:sJ w b x) (d:w'.heap[b]? =w.heap[b]?):sJ w' b x:=by
 have a:∀i,w'.cell? ⟨b,i,Y⟩=w.cell? ⟨b,i,Y⟩:=λi=>dy (w:=w) d;have c:∀i,w'.frozen? ⟨b,i,Y⟩=w.frozen? ⟨b,i,Y⟩:=λi=>World.frozen?_of_block (w:=w) d;exact ⟨by rw [a];exact h.c0,by rw [a];exact h.c1,by rw [a];exact h.c2,by rw [c];exact h.f0,by rw [c];exact h.f1,by rw [c];exact h.f2⟩
theorem aG (w:ch) (a b:Addr) (u:cs):(w.setCell a u).frozen? b=w.frozen? b:=by
 unfold World.frozen? em;simp only [di];by_cases h:a.block=b.block
 · rw [if_pos h, <- h];cases w.heap[a.block]? with
   |none=>rfl
   |some o=>cases o<;>rfl
 · rw [if_neg h]
theorem yy (a:List cw):(a.flatMap subCells).length=a.length * 2:=by
 induction a with
 |nil=>rfl
 |cons s l ih=>rw [List.flatMap_cons,ds,ih];simp [subCells];omega
theorem aL (w:ch) (o:Obj):Bw w (w.alloc o):=(cg _ w).alloc (cb _) o
theorem bM {w:ch} {B:Nat} {e:TypeId} {k:Nat} {v:cs} {n:Nat} {c:List cs} (h:w.ownsRow B e k v n c):∃a b,v=c9 a n b:=by
 rcases h.2 with ⟨rfl,rfl⟩|⟨g,b,d,rfl,_⟩
 · exact ⟨Y,0,rfl⟩
 · exact ⟨_,_,rfl⟩
open Go.RowKit
def bm (lo:Nat) (g:Option Nat) (w:ch) (v:cs) (c:List cw):Prop:=
 ∃a e,v=c9 a c.length e/\(c≠[]->∃b d,a=X ⟨b,d,Y⟩/\lo<=b/\b<w.heap.size/\g≠X b/\∀j x,(c.flatMap subCells)[j]? =X x->w.cell? ⟨b,d+j,Y⟩=X x)
theorem pN {a:List cw}:a.flatMap subCells≠[]↔a≠[]:=by
 cases a with
 |nil=>simp
 |cons s l=>simp [subCells]
theorem bm.at {lo:Nat} {g:Option Nat} {w:ch} {v:cs} {c:List cw} (h:bm lo g w v c):aB lo w.heap.size w v c:=by
 obtain ⟨a,d,l,h⟩:=h;refine ⟨a,d,l,λk=>?_⟩;obtain ⟨b,m,e,f,i,_,j⟩:=h (pN.1 k);exact ⟨b,m,e,f,i,j⟩
theorem bm.of {lo c:Nat} {g:Option Nat} {w:ch} {v:cs} {d:List cw} (h:aB lo w.heap.size w v d) (r:c<=lo) (n:∀k,g=X k->k<lo):bm c g w v d:=by
 obtain ⟨a,f,o,h⟩:=h;refine ⟨a,f,o,λm=>?_⟩;obtain ⟨b,p,i,q,j,l⟩:=h (pN.2 m);exact ⟨b,p,i,by omega,j,λe=>by have:=n b e;omega,l⟩
theorem bm.step {lo:Nat} {g c:Option Nat} {w w':ch} {v:cs} {i:List cw} (h:bm lo g w v i) (r:∀k,lo<=k->k<w.heap.size->g≠X k->w'.heap[k]? =w.heap[k]?) (z:w.heap.size<=w'.heap.size)
 (q:c=g∨∃k,c=X k/\w.heap.size<=k):bm lo c w' v i:=by
 obtain ⟨a,l,s,h⟩:=h;refine ⟨a,l,s,λp=>?_⟩;obtain ⟨b,u,m,d,n,f,o⟩:=h p;refine ⟨b,u,m,d,by omega,?_,λj x t=>by rw [dy (w:=w) (r b d n f)];exact o j x t⟩;rcases q with rfl|⟨k,rfl,y⟩
 · exact f
 · intro e;injection e;omega
structure bJ (lo:Nat) (w:ch) (v:cs) (fs:List af):Prop where
 ex:∃ps:List (af×cs),ps.map (·.1)=fs/\(∀p∈ps,bm lo v.ownBlock w p.2 p.1.subs)/\w.ownsRow lo 123 4 v fs.length (ps.flatMap fieldCells)
theorem bJ.nil (lo:Nat) (w:ch):bJ lo w (c9 Y 0 0) []:=⟨⟨[],rfl,by simp,e4 _ _ _ _⟩⟩
theorem bJ.shape {lo:Nat} {w:ch} {v:cs} {b:List af} (h:bJ lo w v b):∃a c,v=c9 a b.length c:=by
 obtain ⟨ps,_,_,h⟩:=h.ex;exact bM h
theorem bJ.keep {lo:Nat} {w w':ch} {v:cs} {c:List af} (h:bJ lo w v c) (i:∀k,lo<=k->k<w.heap.size->w'.heap[k]? =w.heap[k]?) (t:w.heap.size<=w'.heap.size):bJ lo w' v c:=by
 obtain ⟨ps,m,n,d⟩:=h.ex;refine ⟨⟨ps,m,λp q=>(n p q).step (λk a b _=>i k a b) t (.inl rfl),?_⟩⟩;refine ⟨d.1,?_⟩;rcases d.2 with o|⟨g,j,l,s,e,f,r⟩
 · exact .inl o
 · refine .inr ⟨g,j,l,s,e,?_,r⟩;rw [i g e (Array.getElem?_eq_some_iff.1 f).1];exact f
theorem bJ.app {lo:Nat} {w1 e:ch} {v c:cs} {g:List af} (f:af) (d:cs) (ps:List (af×cs)) (m:ps.map (·.1)=g) (n:∀p∈ps,bm lo v.ownBlock w1 p.2 p.1.subs) (o:bm lo v.ownBlock w1 d f.subs)
 (s:e.ownsRow lo 123 4 c (g.length+1) (ps.flatMap fieldCells++fieldCells (f,d))) (j:w1.grownBy e v.ownBlock) (b:c.ownBlock=v.ownBlock∨c.ownBlock=X w1.heap.size):bJ lo e c (g++[f]):=by
 have l:∀x i,bm lo v.ownBlock w1 x i->bm lo c.ownBlock e x i:=λx i h=>
  h.step (λk _ q r=>j.block k q (Ne.symm r)) j.size (by rcases b with b|b;exact .inl b;exact .inr ⟨_,b,cb _⟩)
 refine ⟨⟨ps++[(f,d)],by simp [m],?_,by simpa using s⟩⟩;intro p a;rcases List.mem_append.1 a with a|a
 · exact l _ _ (n p a)
 · simp at a;subst a;exact l _ _ o
theorem bJ.fields {lo e:Nat} {w:ch} {v:cs} {b:List af} (h:bJ lo w v b) (m:e<=lo):ai e w.heap.size w v b:=by
 obtain ⟨ps,c,i,a⟩:=h.ex;refine ⟨ps,c,λp o=>(i p o).at.mono m (cb _),?_⟩;have u:ps.length=b.length:=by rw [<- c];simp
 rcases a.2 with ⟨rfl,f⟩|⟨g,q,r,rfl,s,t,y⟩
 · refine ⟨Y,0,by rw [f],λl=>?_⟩;have:ps=[]:=eg (by omega);subst this;exact absurd rfl l
 · have n:=a.lt g (by simp [Value.ownBlock]);refine ⟨_,_,rfl,λ_=>⟨g,0,rfl,by omega,n.2,λj x d=>?_⟩⟩;have k:=a.cellAt j (by have:=(List.getElem?_eq_some_iff.1 d).1;rw [a.1] at this;exact this);rw [Nat.zero_add,k];exact d
theorem uw (f:af) (i:Nat) (h:i<f.subs.length):f.subs[i].text.length<=(fieldBytes f).length:=by
 have:=bN f (i+1);rw [jV _ _ _ h] at this;simp [aU] at this;omega
theorem xr (f:af) (h:bu f.tag=false):wrongF f=13:=by simp [wrongF,h]
theorem ut (f:af) (h:bu f.tag=true) (a:fA f.tag=true):wrongF f=if aR f.data&&decide (f.ind=[])&&f.subs.isEmpty then 0 else 14:=by simp [wrongF,h,a]
theorem ow (f:af) (h:bu f.tag=true) (a:fA f.tag=false):wrongF f=if decide (f.data=[])&&iA f.ind&& !f.subs.isEmpty&&f.subs.all de then 0 else 14:=by simp [wrongF,h,a]
theorem o0 (f:af) (d:cs) (w:ch) (h:bu f.tag=false):
 cv prog 166 #[fieldV f d] w λe w'=>e=c5 (J U (wrongF f))/\Bw w w':=by
 have a:=Z (xr f h);obtain ⟨g,b,data,c⟩:=f;simp only at h;unfold fieldV;go_enter func166,ntmps166;go_wp2_with (go_at_call 176;refine (fw _ _).mono ?_;rintro e w' ⟨rfl,rfl⟩)
 go_ret;exact ⟨aH a.symm,(cg _ w).alloc (cb _) _⟩
theorem mU (f:af) (d:cs) (w:ch) (m:∃a g,d=c9 a f.subs.length g) (n:(fieldBytes f).length<=1000000) (h:bu f.tag=true) (b:fA f.tag=true):
 cv prog 166 #[fieldV f d] w λe w'=>e=c5 (J U (wrongF f))/\Bw w w':=by
 have k:=Z (ut f h b);obtain ⟨a,g,rfl⟩:=m;have c:=bN f 0;have j:=eK h;obtain ⟨q,s,data,t⟩:=f;simp only at h b c j;have o:data.length<=1000000:=by simp at c;omega
 have p:2<=q.length:=by omega
 clear c j n;unfold fieldV;cases ht:aR data
 all_goals
  go_enter func166,ntmps166
  go_wp2_with first
   |(go_at_call 176;refine (fw _ _).mono ?_;rintro e w' ⟨rfl,rfl⟩)
   |(go_at_call 217;refine (eU _ _ p).mono ?_;rintro e w' ⟨rfl,rfl⟩)
   |(go_at_call 218;refine (jR _ _ o).mono ?_;rintro e w1 ⟨rfl,i⟩;obtain ⟨b,r⟩:=ar i)
  all_goals go_ret
  all_goals refine ⟨aH (k.o.trans ?_).symm,btr ((cg _ w).alloc (cb _) _) i (by simp)⟩
  all_goals go_tidy
  all_goals simp_all
  all_goals (try (intro l;subst l;simp at *))
theorem o6 (f:af) (d:cs) (w:ch) (o:∃a j,d=c9 a f.subs.length j) (h:bu f.tag=true) (l:fA f.tag=false)
 (c:(decide (f.data=[])&&iA f.ind&& !f.subs.isEmpty)=false):
 cv prog 166 #[fieldV f d] w λe w'=>e=c5 (J U (wrongF f))/\Bw w w':=by
 have g:Hid (wrongF f=14):=by rw [ow f h l,c];rfl
 obtain ⟨a,j,rfl⟩:=o;have m:=eK h;obtain ⟨s,b,data,r⟩:=f;simp only at h l m c;have i:2<=s.length:=by omega
 clear m;unfold fieldV;by_cases hd0:data=[]
 · subst hd0;by_cases hi:b.length=2
   · obtain ⟨p,q,rfl⟩:∃p q,b=[p,q]:=by
      match b,hi with
      |[p,q],_=>exact ⟨p,q,rfl⟩
     have n:=Z c;clear c hi;have z:=nj p;have A:=nj q;go_enter func166,ntmps166
     go_wp2_with first
      |(go_at_call 176;refine (fw _ _).mono ?_;rintro e w' ⟨rfl,rfl⟩)
      |(go_at_call 217;refine (eU _ _ i).mono ?_;rintro e w' ⟨rfl,rfl⟩)
     all_goals first
      |(go_ret;exact ⟨aH g.symm,(cg _ w).alloc (cb _) _⟩)
      |(exfalso
        go_tidy
        have k:=n.o
        simp [iA,fV] at k
        simp at *
        have:r=[]:=k (by omega) (by omega) (by omega) (by omega)
        subst this
        simp at *)
   · have x:((b.length:Int)==2)=false:=by simp;omega
     have y:((b.length:Int)!=2)=true:=by simp;omega
     go_enter func166,ntmps166
     go_wp2_with first
      |(go_at_call 176;refine (fw _ _).mono ?_;rintro e w' ⟨rfl,rfl⟩)
      |(go_at_call 217;refine (eU _ _ i).mono ?_;rintro e w' ⟨rfl,rfl⟩)
     go_ret;exact ⟨aH g.symm,(cg _ w).alloc (cb _) _⟩
 · have t:(data==[])=false:=by simpa using hd0
   have u:(data !=[])=true:=by simpa using hd0
   have v:data.isEmpty=false:=by simpa using hd0
   go_enter func166,ntmps166
   go_wp2_with first
    |(go_at_call 176;refine (fw _ _).mono ?_;rintro e w' ⟨rfl,rfl⟩)
    |(go_at_call 217;refine (eU _ _ i).mono ?_;rintro e w' ⟨rfl,rfl⟩)
   go_ret;exact ⟨aH g.symm,(cg _ w).alloc (cb _) _⟩
theorem mT (f:af) (d:cs) (w:ch) (F:aB 0 w.heap.size w d f.subs) (B:(fieldBytes f).length<=1000000) (P:f.subs.length<=1000000) (h:bu f.tag=true) (z:fA f.tag=false)
 (l:(decide (f.data=[])&&iA f.ind&& !f.subs.isEmpty)=true):
 cv prog 166 #[fieldV f d] w λe w'=>e=c5 (J U (wrongF f))/\Bw w w':=by
 have x:Hid (wrongF f=if f.subs.all de then 0 else 14):=by rw [ow f h z,l];rfl
 have D:=eK h;have H:=Z (λi h=>cP (uw f i h) B);obtain ⟨r,o,data,c⟩:=f;simp only at h z D l P;have O:2<=r.length:=by omega
 simp only [Bool.and_eq_true,decide_eq_true_eq,Bool.not_eq_true'] at l;obtain ⟨⟨rfl,m⟩,G⟩:=l;have A:o.length=2:=by simp [iA] at m;exact m.1
 obtain ⟨p,q,rfl⟩:∃p q,o=[p,q]:=by
  match o,A with
  |[p,q],_=>exact ⟨p,q,rfl⟩
 simp [iA,fV] at m;obtain ⟨⟨a0,a1⟩,a2,a3⟩:=m;have a4:0<c.length:=by cases c with |nil=>simp at G|cons _ _=>simp
 have a5:((c.length:Int)==0)=false:=beq_eq_false_iff_ne.2 (by omega);have I:=Z F;obtain ⟨a,n,rfl,_⟩:=F;clear B D G A;unfold fieldV;go_enter func166,ntmps166
 go_wp2_with first
  |(go_at_call 176;refine (fw _ _).mono ?_;rintro e w' ⟨rfl,rfl⟩)
  |(go_at_call 217;refine (eU _ _ O).mono ?_;rintro e w' ⟨rfl,rfl⟩)
 go_loopw [5,6] (λi t wr=>∃(k:Nat),k<=c.length/\i=J U k/\Hid ((c.take k).all de=true)/\
  eQ (w.heap.size+1) (w.alloc (cy #[S r,S [p,q],S [],cc a c.length n] 123)) wr) (λi _ _=>c.length - (intOf i).toNat)
 case atStart=>exact ⟨0,cz _,rfl,rfl,cg _ _⟩
 case round=>
  obtain ⟨k,hk,rfl,s,g⟩:=hrel;have L:wr.cell? ⟨w.heap.size,3,Y⟩=X (cc a c.length n):=by rw [g.cell (p:=⟨w.heap.size,3,Y⟩) (by simp)];go_simp
  by_cases hlt:k<c.length
  · have Q:aB 0 w.heap.size wr (cc a c.length n) c:=(I.o.kept (aP ((cg _ w).alloc (cb _) _) (cb _))).kept (aP g (by omega));obtain ⟨b,a6,W,V,_,_,R,hx⟩:=Q.sub k hlt;cases V;have E:c[k].text.length<=1000000:=H k hlt;have K:Hid ((c.take (k+1)).all de=(aR c[k].text&&eY c[k].code)):=by rw [cp hlt,List.all_append,s.o];simp [Hid,de]
    have u:Hid (de c[k]=false->wrongF ⟨r,[p,q],[],c⟩=14):=by intro h;rw [x.o,if_neg];intro y;rw [List.all_eq_true] at y;have:=y _ (dk hlt);simp [h] at this
    have v:Hid (de c[k]=(aR c[k].text&&eY c[k].code)):=rfl;have h1:w.heap.size<wr.heap.size:=bh L;have h2:b<wr.heap.size:=bh R;generalize c[k].text=T at *;generalize c[k].code=C at *;cases ht1:aR T
    · go_wp2_with (go_at_call 218;refine (jR _ _ E).mono ?_;rintro e w1 ⟨rfl,j⟩;obtain ⟨M,N⟩:=ar j)
      go_ret;exact ⟨aH (u.o (by rw [v.o,ht1];rfl)).symm,btr ((cg _ w).alloc (cb _) _) (btr g j (by omega)) (by omega)⟩
    · cases hs2:eY C
      all_goals
       go_wp2_with first
        |(go_at_call 218;refine (jR _ _ E).mono ?_;rintro e w1 ⟨rfl,j⟩;obtain ⟨M,N⟩:=ar j)
        |(go_at_call 219;refine (zx _ _).mono ?_;rintro e w' ⟨rfl,rfl⟩)
      · go_ret;exact ⟨aH (u.o (by rw [v.o,ht1,hs2];rfl)).symm,btr ((cg _ w).alloc (cb _) _) (btr g j (by omega)) (by omega)⟩
      · go_roundw
        case rel=>exact ⟨k+1,by omega,by go_num,by rw [K.o,ht1,hs2];rfl,btr g j (by omega)⟩
        case measure=>simp [intOf];omega
  · go_wp2_with fail
    go_ret;refine ⟨aH (x.o.trans ?_).symm,btr ((cg _ w).alloc (cb _) _) g (by omega)⟩;rw [if_pos (by rw [<- s.o,cd (by omega)])]
theorem qY (f:af) (d:cs) (w:ch) (i:aB 0 w.heap.size w d f.subs) (g:(fieldBytes f).length<=1000000) (j:f.subs.length<=1000000):
 cv prog 166 #[fieldV f d] w λe w'=>e=c5 (J U (wrongF f))/\Bw w w':=by
 have c:∃a b,d=c9 a f.subs.length b:=by obtain ⟨a,b,h,_⟩:=i;exact ⟨a,b,h⟩
 cases h:bu f.tag
 · exact o0 f d w h
 · cases hc:fA f.tag
   · cases hg:(decide (f.data=[])&&iA f.ind&& !f.subs.isEmpty)
     · exact o6 f d w c h hc hg
     · exact mT f d w i g j h hc hg
   · exact mU f d w c g h hc
theorem ak (w:ch) (o:Obj):Bw w (w.alloc o):=(cg _ w).alloc (cb _) o
theorem ng (r:az) (h:(letterB r.kind&&letterB r.level)=false):wrongR r=12:=by
 unfold wrongR;rw [if_pos];cases h1:letterB r.kind<;>cases h2:letterB r.level<;>simp_all
theorem qm (r:az) (h:letterB r.kind=true) (a:letterB r.level=true) (b:aJ r.fields≠0):wrongR r=aJ r.fields:=by
 simp [wrongR,h,a,b]
theorem ot (r:az) (h:letterB r.kind=true) (a:letterB r.level=true) (b:aJ r.fields=0):
 wrongR r=if bK r.fields||decide (999<r.fields.length)||decide (99999<sizeOf r.fields) then 2 else 0:=by
 simp [wrongR,h,a,b]
theorem kG (r:az) (x:cs) (w:ch) (h:(letterB r.kind&&letterB r.level)=false):
 cv prog 122 #[recV r x] w λe w'=>e=c5 (J U (wrongR r))/\Bw w w':=by
 have a:=Z (ng r h);obtain ⟨b,c,d⟩:=r;simp only at h;unfold recV;cases hk:letterB b
 · go_enter func122,ntmps122;go_wp2_with (go_at_call 165;refine (jN _ _).mono ?_;rintro e w' ⟨rfl,rfl⟩)
   go_ret;exact ⟨aH a.symm,ak _ _⟩
 · have f:letterB c=false:=by simpa [hk] using h
   clear h;go_enter func122,ntmps122;go_wp2_with (go_at_call 165;refine (jN _ _).mono ?_;rintro e w' ⟨rfl,rfl⟩)
   go_ret;exact ⟨aH a.symm,ak _ _⟩
theorem mL (r:az) (x:cs) (w:ch) (D:ai 0 w.heap.size w x r.fields) (T:bI r.fields) (h:letterB r.kind=true) (q:letterB r.level=true):
 cv prog 122 #[recV r x] w λe w'=>e=c5 (J U (wrongR r))/\Bw w w':=by
 have H:=Z (qm r h q);have K:=Z (ot r h q);obtain ⟨A,B,c⟩:=r;simp only at h q D T;have M:=Z D;obtain ⟨a,o,rfl⟩:=D.shape;obtain ⟨hn,V⟩:=T;have N:=Z V;clear D V;unfold recV;go_enter func122,ntmps122;go_wp2_with (go_at_call 165;refine (jN _ _).mono ?_;rintro e w' ⟨rfl,rfl⟩)
 go_loopw [3,4] (λi t wr=>∃(k:Nat),k<=c.length/\i=J U k/\Hid (aJ (c.take k)=0)/\
  eQ (w.heap.size+1) (w.alloc (cy #[J c4 A.toNat,J c4 B.toNat,cc a c.length o] 62)) wr) (λi _ _=>c.length - (intOf i).toNat)
 case atStart=>exact ⟨0,cz _,rfl,rfl,cg _ _⟩
 case round=>
  obtain ⟨k,Q,rfl,l,g⟩:=hrel;have C:wr.cell? ⟨w.heap.size,2,Y⟩=X (cc a c.length o):=by rw [g.cell (p:=⟨w.heap.size,2,Y⟩) (by simp)];go_simp
  have W:w.heap.size<wr.heap.size:=bh C;by_cases hlt:k<c.length
  · have z:ai 0 w.heap.size wr (cc a c.length o) c:=(M.o.kept (aP (ak w _) (cb _))).kept (aP g (by omega));obtain ⟨b,ad,a4,d,G,_,_,a7,a8,a9,ac,y⟩:=z.field k hlt;cases G;have m:=N _ (dk hlt);have v:=cP (cA c[k]) m;have a0:Hid (wrongF c[k]≠0->wrongR ⟨A,B,c⟩=wrongF c[k]):=by intro R;have:=fe c k hlt l.o;rw [if_neg R] at this;rw [H.o (by show aJ c≠0;rw [this];exact R)];exact this
    have a1:=Z (gl c k hlt l.o);have u:Hid (aB 0 wr.heap.size wr d c[k].subs):=y.mono (cb _) (by omega);clear y z;generalize hfk:c[k]=f at *;have al:=Z hfk;clear hfk;cases hwf:decide (wrongF f=0);all_goals simp only [decide_eq_true_eq,decide_eq_false_iff_not] at hwf
    · have au:(wrongF f !=0)=true:=by simpa using hwf
      go_wp2_with (go_at_call 166;refine (qY f d _ u.o m v).mono ?_;rintro e w1 ⟨rfl,j⟩;obtain ⟨E,F⟩:=ar j)
      go_ret;exact ⟨aH (a0.o hwf).symm,btr (ak w _) (btr g j (by omega)) (by omega)⟩
    · have O:=Z hwf;clear hwf;go_wp2_with (go_at_call 166;refine (qY f d _ u.o m v).mono ?_;rintro e w1 ⟨rfl,j⟩;obtain ⟨E,F⟩:=ar j;rw [O.o])
      go_roundw
      case rel=>exact ⟨k+1,by omega,by go_num,a1.o O.o,btr g j (by omega)⟩
      case measure=>simp [intOf];omega
  · have L:Hid (wrongR ⟨A,B,c⟩=if bK c||decide (999<c.length)||decide (99999<sizeOf c) then 2 else 0):=
     K.o (by rw [<- l.o,cd (by omega)])
    go_wp2_with fail
    clear l Q hlt C K H;have a5:=g;clear g W
    go_loopw [5,6,7] (λs i t wr=>∃(k n:Nat),k<=c.length/\i=J U k/\s=J U n/\n<=26+k * 1000012/\Hid (bK (c.take k)=false)/\Hid (n=sizeOf (c.take k))/\
     eQ (w.heap.size+1) (w.alloc (cy #[J c4 A.toNat,J c4 B.toNat,cc a c.length o] 62)) wr) (λ_ i _ _=>c.length - (intOf i).toNat)
    case atStart=>exact ⟨0,26,cz _,rfl,rfl,by omega,rfl,rfl,a5⟩
    case round=>
     obtain ⟨k,n,Q,rfl,rfl,ao,l,I,g⟩:=hrel;have C:wr.cell? ⟨w.heap.size,2,Y⟩=X (cc a c.length o):=by rw [g.cell (p:=⟨w.heap.size,2,Y⟩) (by simp)];go_simp
     have W:w.heap.size<wr.heap.size:=bh C;by_cases hlt:k<c.length
     · have z:ai 0 w.heap.size wr (cc a c.length o) c:=(M.o.kept (aP (ak w _) (cb _))).kept (aP g (by omega));obtain ⟨b,ad,a4,d,G,_,_,a7,a8,a9,ac,y⟩:=z.field k hlt;cases G;have m:=N _ (dk hlt);have v:=cP (cA c[k]) m;have u:Hid (aB 0 wr.heap.size wr d c[k].subs):=y.mono (cb _) (by omega);have HL:=Z (sR c k hlt);have a2:=Z (oC c k hlt l.o);have a3:=Z (qT c k hlt);clear y z;generalize c[k]=f at *;by_cases hlong:9999<(fieldBytes f).length
       · go_wp2_with (go_at_call 123;refine (mu f d _ u.o m v).mono ?_;rintro e w1 ⟨rfl,j⟩;obtain ⟨E,F⟩:=ar j)
         go_ret;refine ⟨aH ?_,btr (ak w _) (btr g j (by omega)) (by omega)⟩;rw [L.o,HL.o hlong];rfl
       · go_wp2_with (go_at_call 123;refine (mu f d _ u.o m v).mono ?_;rintro e w1 ⟨rfl,j⟩;obtain ⟨E,F⟩:=ar j)
         go_roundw
         case rel=>exact ⟨k+1,n+12+(fieldBytes f).length,by omega,by go_num,by go_num,by omega,a2.o hlong,by rw [I.o];exact a3.o.symm,btr g j (by omega)⟩
         case measure=>simp [intOf];omega
     · have HT:Hid (wrongR ⟨A,B,c⟩=if decide (999<c.length)||decide (99999<n) then 2 else 0):=by have a6:c.take k=c:=cd (by omega);have P:=l.o;have q:=I.o;rw [a6] at P q;rw [L.o,P, <- q,Bool.false_or];rfl
       go_wp2_with fail
       all_goals go_ret
       all_goals refine ⟨aH (HT.o.trans ?_).symm,btr (ak w _) g (by omega)⟩
       all_goals go_tidy
       all_goals first |rw [if_pos (by simp;omega)]|rw [if_neg (by simp;omega)]
theorem kW (r:az) (v:cs) (w:ch) (a:dH 0 w.heap.size w v r) (b:bI r.fields):
 cv prog 122 #[v] w λe w'=>e=c5 (J U (wrongR r))/\Bw w w':=by
 obtain ⟨x,rfl,a⟩:=a;cases h:(letterB r.kind&&letterB r.level)
 · exact kG r x w h
 · rw [Bool.and_eq_true] at h;exact mL r x w a b h.1 h.2
structure Fr (b:Nat) (g:Option Nat) (w w':ch):Prop where
 os:w'.os=w.os
 tape:w'.tape=w.tape
 output:w'.output=w.output
 size:w.heap.size<=w'.heap.size
 block:∀k,k<w.heap.size->k≠b->some k≠g->w'.heap[k]? =w.heap[k]?
theorem Fr.refl (b:Nat) (g:Option Nat) (w:ch):Fr b g w w:=⟨rfl,rfl,rfl,cb _,λ_ _ _ _=>rfl⟩
theorem Fr.below {b B:Nat} {g:Option Nat} {w w':ch} (h:Fr b g w w') (d:B<=b) (a:∀k,g=X k->B<=k) (c:B<=w.heap.size):eQ B w w':=
 ⟨h.os,h.tape,h.output,h.size,λk f=>h.block k (by omega) (by omega) (λe=>by have:=a k e.symm;omega)⟩
structure Bld (B b:Nat) (g:Option Nat) (l:Bs) (w:ch):Prop where
 lt:b<B
 ex:∃p v,w.heap[b]? =some (.cells #[p,v] 187 (0,0))/\(p= .pointer none∨p= .pointer (some ⟨b,0,none⟩))/\w.ownsRow B 5 1 v l.length (cq l)/\v.ownBlock=g/\(l=[]->v= .slice none 0 0)
theorem i5:(prog.info? 5).map (λi=>(i.zero,i.size,i.bytes))=X (X (J c4 0),1,1):=by kernel_rfl
theorem tm (w:ch) (base:Nat) (i:TypeInfo) (f:prog.info? 5=X i) (q:i.zero=X (J c4 0)) (l:i.size=1) (o:i.bytes=1)
 (v:cs) (n:Nat) (c:List cs) (d:w.ownsRow base 5 1 v n c) (s:ByteArray) (m:n+s.size<=maxLen) (t:n+s.size<=140737488355328) (B:base<=w.heap.size):
 ∃b w',(Builtin.append_ #[76,9] 76 #[v, .string s]).run prog w= .ok b w'/\w'.ownsRow base 5 1 b (n+s.size) (c++Lib.strCells s)/\w.grownBy w' v.ownBlock/\
  (b=c9 Y 0 0↔v=c9 Y 0 0/\s.size=0)/\(b.ownBlock=v.ownBlock∨∃k,b.ownBlock=X k/\w.heap.size<=k):=by
 obtain ⟨b,w',h,y,z,A⟩:=Lib.run_append_own_string (P:=prog) w base 76 9 76 5 i underlying76 underlying9 f q l o v n c d s m t B;refine ⟨b,w',h,y,z,A,?_⟩;have H:c.length=n:=by simpa using d.1
 have M:n+s.size<=9223372036854775807:=by unfold maxLen at m;omega
 rcases d.2 with ⟨rfl,rfl⟩|⟨g,e,r,rfl,I,E,L,K,C,N⟩
 · obtain ⟨O,Q,a,x,_,_⟩:=Lib.run_append_own_string (P:=prog) w w.heap.size 76 9 76 5 i underlying76 underlying9 f q l o (c9 Y 0 0) 0 c ⟨d.1, .inl ⟨rfl,rfl⟩⟩ s m t (cb _);rw [h] at a;injection a with hv hw
   subst hv hw;rcases x.2 with ⟨p,_⟩|⟨k,_,_,p,F,_⟩
   · left;rw [p]
   · right;exact ⟨k,by rw [p];rfl,F⟩
 · have D:r.size=e:=by simpa using C
   by_cases hroom:n+s.size<=e
   · have a:=Lib.run_append_room_string (P:=prog) w 76 9 76 5 i underlying76 underlying9 f l g n e r E s hroom (D.symm ▸ hroom);rw [h] at a;injection a with hv hw
     left;rw [hv];rfl
   · have G:∀j u,c[j]? =X u->w.cell? ((⟨g,0,Y⟩:Addr).add j)=X u:=d.cells (g:=g) rfl;have a:=Lib.run_append_grow_string (P:=prog) w 76 9 76 5 i (J c4 0) underlying76 underlying9 f q ⟨g,0,Y⟩ n e c (by rw [l];simpa using H) G s (by omega) (by omega) (by rw [o];exact growslice_fits (by omega) (by omega));rw [h] at a;injection a with hv hw
     right;exact ⟨w.heap.size,by rw [hv];rfl,cb _⟩
theorem mN {w:ch} {d:Array Oper} {e:List Oper} {o:Oper} {a:Act} {Q:Exit->Act->ch->Prop} (y:o.guard=Y) (f x:Operand)
 (A:o.op= .call {callee:= .builtin .append,args:= #[f,x],argTypes:= #[76,9]}) (F:o.type=76)
 (base:Nat) (i:TypeInfo) (z:prog.info? 5=X i) (H:i.zero=X (J c4 0)) (E:i.size=1) (t:i.bytes=1)
 (v:cs) (n:Nat) (c:List cs) (D:a.eval f=v) (B:w.ownsRow base 5 1 v n c) (s:ByteArray) (G:a.eval x= .string s)
 (p:n+s.size<=maxLen) (u:n+s.size<=140737488355328) (r:base<=w.heap.size)
 (h:∀b w',w'.ownsRow base 5 1 b (n+s.size) (c++Lib.strCells s)->w.grownBy w' v.ownBlock->(b=c9 Y 0 0↔v=c9 Y 0 0/\s.size=0)->(b.ownBlock=v.ownBlock∨∃k,b.ownBlock=X k/\w.heap.size<=k)->wpList prog d Q e (a.put o.dst b) w'):wpList prog d Q (o::e) a w:=by
 refine wpList_plain y λK q=>?_;obtain ⟨b,w',C,g,j,l,m⟩:=tm w base i z H E t v n c B s p u r;unfold Oper.wp execOp;simp only [A,F,resolve,invoke,builtin,Sem.run_bind,Sem.run_pure,Result.andThen_ok,List.map_toArray,List.map_cons,List.map_nil,D,G,C];exact q _ _ (h b w' g j l m)
theorem qL (l:Bs):Lib.strCells ⟨l.toArray⟩=cq l:=by simp [Lib.strCells,cq]
theorem iB (a b:Bs):cq (a++b)=cq a++cq b:=by simp [cq]
theorem so (B b:Nat) (g:Option Nat) (l:Bs) (w:ch) (h:Bld B b g l w):cv prog 161 #[c7 (X ⟨b,0,Y⟩)] w λe w'=>e=c5 (.tuple #[])/\(∃v,w'.heap[b]? =X (ca #[c7 (X ⟨b,0,Y⟩),v] 187 (0,0))/\w'.ownsRow B 5 1 v l.length (cq l)/\v.ownBlock=g/\(l=[]->v=c9 Y 0 0))/\w'.heap.size=w.heap.size/\Fr b Y w w':=by
 obtain ⟨m,p,v,a,n,i,d,f⟩:=h;have c:w.cell? ⟨b,0,Y⟩=X p:=by rw [cx a];rfl
 rcases n with rfl|rfl
 · refine (kL b w c (by simp [World.shape?,a]) (dz a 0)).mono ?_;rintro e w' ⟨rfl,rfl⟩;refine ⟨rfl,⟨v,?_,ownsRow_setCell_below i m _,d,f⟩,by simp,⟨rfl,rfl,rfl,by simp,λk _ j _=>e0 _ _ _ _ j⟩⟩;simp only [em,di,if_true,a];rfl
 · refine (l9 b w c).mono ?_;rintro e w' ⟨rfl,rfl⟩;exact ⟨rfl,⟨v,a,i,d,f⟩,rfl,Fr.refl _ _ _⟩
theorem ol {B b:Nat} {w1 c:ch} {p v a:cs} {d:Bs} (h:b<B) (x:p=c7 (X ⟨b,0,Y⟩)) (f:w1.heap[b]? =X (ca #[p,v] 187 (0,0))) (w:∀k,v.ownBlock=X k->B<=k)
 (i:c.ownsRow B 5 1 a d.length (cq d)) (m:w1.grownBy c v.ownBlock) (r:d=[]->a=c9 Y 0 0):
 Bld B b a.ownBlock d (c.setCell ⟨b,1,Y⟩ a)/\Fr b v.ownBlock w1 (c.setCell ⟨b,1,Y⟩ a):=by
 obtain ⟨t,z,u,y,g⟩:=m;have l:b<w1.heap.size:=(Array.getElem?_eq_some_iff.mp f).1;have s:X b≠v.ownBlock:=λe=>by have:=w b e.symm;omega
 have j:c.heap[b]? =X (ca #[p,v] 187 (0,0)):=by rw [g b l s,f]
 refine ⟨⟨h,⟨p,a,?_, .inr x,ownsRow_setCell_below i h _,rfl,r⟩⟩,⟨t,z,u,by simpa using y,λk n o q=>?_⟩⟩
 · simp only [em,di,if_true,j];rfl
 · rw [e0 _ _ _ _ o];exact g k n q
theorem jm {w:ch} {B:Nat} {e:TypeId} {k:Nat} {v:cs} {n:Nat} {d:List cs} (h:w.ownsRow B e k v n d):∀j,v.ownBlock=X j->B<=j/\j<w.heap.size:=by
 intro j a;rcases h.2 with ⟨rfl,_⟩|⟨g,f,i,rfl,b,c,_⟩
 · cases a
 · injection a with a;subst a;exact ⟨b,(Array.getElem?_eq_some_iff.mp c).1⟩
theorem Fr.trans {b:Nat} {g c:Option Nat} {x y z:ch} (h:Fr b g x y) (k:Fr b c y z) (l:∀j,c=X j->g=X j∨x.heap.size<=j):Fr b g x z:=
 ⟨k.os.trans h.os,k.tape.trans h.tape,k.output.trans h.output,cP h.size k.size,λj f d i=>
  (k.block j (Nat.lt_of_lt_of_le f h.size) d (λe=>by rcases l j e.symm with a|a;exact i a.symm;omega)).trans (h.block j f d i)⟩
theorem Fr.weak {b:Nat} {g:Option Nat} {x y:ch} (h:Fr b Y x y):Fr b g x y:=⟨h.os,h.tape,h.output,h.size,λj c a _=>h.block j c a (by simp)⟩
theorem yt {B:Nat} {e:TypeId} {k:Nat} {w b:ch} {v:cs} {n:Nat} {f:List cs} {o:Obj} (_:w.ownsRow B e k v n f) (a:(w.alloc o).grownBy b v.ownBlock):w.grownBy b v.ownBlock:=
 ⟨a.os,a.tape,a.output,cP (by simp) a.size,λj c d=>by rw [a.block j (by simp;omega) d];exact ((cg w.heap.size w).alloc (cb _) o).block j c⟩
theorem sD {B b:Nat} {w1 c:ch} {p v:cs} {n:Nat} {g:List cs} (h:b<B) (a:w1.heap[b]? =X (ca #[p,v] 187 (0,0))) (f:w1.ownsRow B 5 1 v n g) (d:w1.grownBy c v.ownBlock):
 c.heap[b]? =X (ca #[p,v] 187 (0,0)):=by
 rw [d.block b (Array.getElem?_eq_some_iff.mp a).1 (λe=>by have:=(jm f b e.symm).1;omega),a]
theorem dI (B b:Nat) (g:Option Nat) (l s:Bs) (w:ch) (h:Bld B b g l w) (hB:B<=w.heap.size) (hs:l.length+s.length<=100000000000000):
 cv prog 112 #[c7 (X ⟨b,0,Y⟩),S s] w λe w'=>e=c5 (.tuple #[J U s.length, .nilIface])/\∃d,Bld B b d (l++s) w'/\(d=g∨∃k,d=X k/\w.heap.size<=k)/\Fr b g w w':=by
 have Q:=Z (so B b g l w h);have a5:∃i,prog.info? 5=X i/\i.zero=X (J c4 0)/\i.size=1/\i.bytes=1:=by have:=i5;revert this;cases prog.info? 5<;>simp
 obtain ⟨i0,A,C,D,E⟩:=a5;have W:=Z A;have a0:=Z C;have a1:=Z D;have a2:=Z E;have t:=h.lt;clear h A C D E;have r:=Z hs;go_enter func112,ntmps112
 go_wp2_with (first
  |(go_at_call 161;((with_reducible refine dd (Q.o) ?_);rintro e w1 ⟨rfl,⟨v,f,L,z,G⟩,M,y⟩;have c1:w1.cell? ⟨b,1,Y⟩=X v:=(by rw [cx f];rfl);have p:=Z f;have c:=Z L;have q:=Z z;have HN:=Z G;have u:=Z M;have T:=Z y;clear f L z G M y))
  |(at_builtin;refine mN rfl _ _ rfl rfl B i0 W.o a0.o a1.o a2.o v l.length _ rfl c.o ⟨s.toArray⟩ rfl (by have:=r.o;unfold maxLen;simp [cQ];omega) (by have:=r.o;simp [cQ];omega) (by have:=u.o;omega) ?_;intro v' N o n I a;obtain ⟨va,vc,rfl⟩:=bM o;have m:=sD t p.o c.o n;have c2:N.cell? ⟨b,1,Y⟩=X v:=(by rw [cx m];rfl);have f2:N.frozen? ⟨b,1,Y⟩=false:=dz m 1;clear m;have a4:=Z o;have V:=Z n;have a3:=Z I;have R:=Z a;clear o n I a))
 go_ret2;have F:l.length+cQ ⟨s.toArray⟩=(l++s).length:=by simp [cQ]
 have K:=a4.o;rw [qL, <- iB,F] at K;have H:l++s=[]->cc va (l.length+cQ ⟨s.toArray⟩) vc=c9 Y 0 0:=λe=>by
  have x:l=[]:=by cases l;rfl;simp at e
  have h2:s=[]:=by subst x;simpa using e
  exact a3.mpr ⟨HN x,by subst h2;rfl⟩
 rw [F] at H;obtain ⟨O,P⟩:=ol t rfl p.o (λk hk=>(jm c.o k hk).1) K V.o H;simp only [ds] at O P;refine ⟨?_,_,O,?_,T.weak.trans (q.o ▸ P) (λj hj=> .inl hj)⟩
 · simp
 · have a:=R.o;rw [q.o,u.o] at a;simpa [cQ] using a
theorem AF (B b:Nat) (g:Option Nat) (l:Bs) (c:UInt8) (w:ch) (h:Bld B b g l w) (hB:B<=w.heap.size) (hs:l.length<=100000000000000):
 cv prog 160 #[c7 (X ⟨b,0,Y⟩),J c4 c.toNat] w λe w'=>e=c5 .nilIface/\∃f,Bld B b f (l++[c]) w'/\(f=g∨∃k,f=X k/\w.heap.size<=k)/\Fr b g w w':=by
 have N:=Z (so B b g l w h);have a2:∃i,prog.info? 5=X i/\i.zero=X (J c4 0)/\i.size=1/\i.bytes=1:=by have:=i5;revert this;cases prog.info? 5<;>simp
 obtain ⟨i0,A,C,D,E⟩:=a2;have R:=Z A;have T:=Z C;have V:=Z D;have W:=Z E;have t:=h.lt;clear h A C D E;have s:=Z hs;go_enter func160,ntmps160
 go_wp2_with (first
  |(go_at_call 161;((with_reducible refine dd (N.o) ?_);rintro e w1 ⟨rfl,⟨v,m,H,y,F⟩,I,x⟩;have c1:w1.cell? ⟨b,1,Y⟩=X v:=(by rw [cx m];rfl);have q:=Z m;have d:=Z H;have r:=Z y;have HN:=Z F;have u:=Z I;have P:=Z x;clear m H y F I x))
  |(at_builtin;refine wpList_append_own_at _ rfl _ _ 76 rfl B 5 i0 (J c4 0) 1 1 underlying76 R.o T.o V.o W.o rfl (by omega) v l.length _ rfl (d.o.alloc _) ⟨w1.heap.size,0,Y⟩ 1 1 [J c4 c.toNat] rfl rfl (cell_one_new _ _ _) (by simp [Value.oneCell']) (by have:=s.o;unfold maxLen;omega) (by have:=s.o;omega) (by have:=u.o;simp;omega) ?_;intro v' K p z a1 a;obtain ⟨va,vc,rfl⟩:=bM p;have o:=yt d.o z;have n:=sD t q.o d.o o;have c2:K.cell? ⟨b,1,Y⟩=X v:=(by rw [cx n];rfl);have f2:K.frozen? ⟨b,1,Y⟩=false:=dz n 1;clear n;have a0:=Z p;have Q:=Z o;have O:=Z a;clear p o z a1 a))
 go_ret;have G:=a0.o;rw [show cq l++[dx c4 c.toNat]=cq (l++[c]) from by rw [iB];rfl,show l.length+1=(l++[c]).length from by simp] at G;obtain ⟨L,M⟩:=ol t rfl q.o (λk hk=>(jm d.o k hk).1) G Q.o (λe=>by simp at e);simp only [ds,List.length_singleton] at L M;refine ⟨rfl,_,L,?_,P.weak.trans (r.o ▸ M) (λj hj=> .inl hj)⟩;have a:=O.o;rw [r.o] at a;rcases a with a|a
 · exact .inl a
 · refine .inr ⟨_,a,?_⟩;have:=u.o;simp;omega
theorem pA (B b:Nat) (g:Option Nat) (l:Bs) (w:ch) (h:Bld B b g l w):
 cv prog 114 #[c7 (X ⟨b,0,Y⟩)] w λe w'=>e=c5 (J U l.length)/\w'=w:=by
 obtain ⟨m,p,v,c,k,d,i,j⟩:=h;obtain ⟨a,f,rfl⟩:=bM d;have c1:w.cell? ⟨b,1,Y⟩=X (c9 a l.length f):=by rw [cx c];rfl
 clear d j i k c;go_enter func114,ntmps114;go_wp2_with fail
 go_ret;exact ⟨rfl,rfl⟩
def xh (g:Option Nat) (n:Nat) (w w':ch):Prop:=w'=w.drew∨∃k,g=X k/\w'=w.drew.freeze ⟨k,0,Y⟩ n
theorem wl (b k n:Nat) (w:ch):Fr b (X k) w (w.freeze ⟨k,0,Y⟩ n):=by
 unfold World.freeze;split
 · exact ⟨rfl,rfl,rfl,cb _,λ_ _ _ _=>rfl⟩
 · refine ⟨rfl,rfl,rfl,by simp,λj _ _ a=>?_⟩;have:k≠j:=λe=>a (by rw [e]);simp [di,this]
theorem xh.fr {g:Option Nat} {n:Nat} {w w':ch} (b:Nat) (h:xh g n w w'):Fr b g w w':=by
 rcases h with rfl|⟨k,rfl,rfl⟩
 · exact ⟨rfl,rfl,rfl,cb _,λ_ _ _ _=>rfl⟩
 · have h:=wl b k n w.drew;exact ⟨h.os,h.tape,h.output,h.size,h.block⟩
theorem dX (B b:Nat) (g:Option Nat) (l:Bs) (w:ch) (h:Bld B b g l w) (L:l.length<=100000000000000):
 cv prog 115 #[c7 (X ⟨b,0,Y⟩)] w λe w'=>e=c5 (S l)/\xh g l.length w w':=by
 obtain ⟨I,p,v,c,t,d,i,m⟩:=h;have M:prog.follows Departure.mixedOrders=true:=by kernel_rfl
 rcases d.2 with ⟨rfl,E⟩|⟨k,a,f,rfl,H,s,K,A,q,F⟩
 · obtain rfl:l=[]:=eg E;have c1:w.drew.cell? ⟨b,1,Y⟩=X (c9 Y 0 0):=by have:w.drew.heap[b]? =X (ca #[p,c9 Y 0 0] 187 (0,0)):=c;rw [cx this];rfl
   have y:(Builtin.unsafeSliceData_ #[76] 233 #[c9 Y 0 0]).run prog w.drew= .ok (c7 Y) w.drew:=rfl;have z:(Builtin.unsafeString_ #[233,3] 9 #[c7 Y,J U 0]).run prog w.drew= .ok (.string .empty) w.drew:=Lib.run_unsafeString_none w.drew _ _ _ _;clear d m i t c;go_enter func115,ntmps115;go_wp2;go_region_o
   all_goals (go_wp2;go_ret;exact ⟨rfl, .inl rfl⟩)
 · have n:l≠[]:=λe=>by cases m e
   have o:a≠0:=by
    have:l.length≠0:=by simpa using n
    omega
   have C:f.size=a:=by simpa using q
   have c1:w.drew.cell? ⟨b,1,Y⟩=X (c9 (X ⟨k,0,Y⟩) l.length a):=by have:w.drew.heap[b]? =X (ca #[p,c9 (X ⟨k,0,Y⟩) l.length a] 187 (0,0)):=c;rw [cx this];rfl
   have y:(Builtin.unsafeSliceData_ #[76] 233 #[c9 (X ⟨k,0,Y⟩) l.length a]).run prog w.drew= .ok (c7 (X ⟨k,0,Y⟩)) w.drew:=Lib.run_unsafeSliceData_row _ _ _ _ _ _ o;have z:(Builtin.unsafeString_ #[233,3] 9 #[c7 (X ⟨k,0,Y⟩),J U l.length]).run prog w.drew= .ok (.string ⟨l.toArray⟩) (w.drew.freeze ⟨k,0,Y⟩ l.length):=by refine Lib.run_unsafeString_row w.drew 233 3 9 5 underlying233 (by kernel_rfl) k f.size (by have D:w.drew.heap[k]? =X (ca f 5 (0,0)):=s;simp [World.shape?,D]) l n (by omega) (by omega) ?_;intro j x G;have:=d.cells (g:=k) rfl j (J c4 x.toNat) (by simp [cq,G]);exact this
   have r:∀w',w'=w.drew.freeze ⟨k,0,Y⟩ l.length->xh g l.length w w':=λw' e=> .inr ⟨k,i ▸ rfl,e⟩;have u:=Z r;clear d m i t c o A q F r s C;generalize hN:(l.length:Int)=N at *;go_enter func115,ntmps115;go_wp2;go_region_o
   all_goals (go_wp2;go_ret;exact ⟨rfl,u _ rfl⟩)
attribute [local go_sem ↓] Go.wp_at_zero Go.wp_at_succ
theorem iq (w:ch) (b B:Nat) (c:b=w.heap.size) (a:b<B):Bld B b Y [] (w.alloc (cy #[c7 Y,c9 Y 0 0] 187)):=by
 subst c;exact ⟨a,⟨c7 Y,c9 Y 0 0,Array.getElem?_push_size, .inl rfl,e4 _ _ _ _,rfl,λ_=>rfl⟩⟩
theorem Fr.cell {b:Nat} {g:Option Nat} {w w':ch} (h:Fr b g w w') {q:Nat} (e:q<w.heap.size) (c:q≠b) (d:X q≠g) (o:Nat):w'.cell? ⟨q,o,Y⟩=w.cell? ⟨q,o,Y⟩:=
 dy (a:=⟨q,o,Y⟩) (h.block q e c d)
theorem Bld.row {B b:Nat} {g:Option Nat} {l:Bs} {w:ch} (h:Bld B b g l w):∀k,g=X k->B<=k/\k<w.heap.size:=by
 obtain ⟨_,p,v,_,_,c,a,_⟩:=h;subst a;exact jm c
theorem Bld.old {B b:Nat} {g:Option Nat} {l:Bs} {w:ch} (h:Bld B b g l w):b<w.heap.size:=by
 obtain ⟨_,p,v,a,_⟩:=h;exact (Array.getElem?_eq_some_iff.mp a).1
theorem Bld.keep {B b:Nat} {g:Option Nat} {l:Bs} {w w':ch} (h:Bld B b g l w) (f:w'.heap[b]? =w.heap[b]?) (i:∀k,g=X k->w'.heap[k]? =w.heap[k]?):Bld B b g l w':=by
 obtain ⟨n,p,v,t,s,q,rfl,o⟩:=h;refine ⟨n,p,v,f.trans t,s,?_,rfl,o⟩;obtain ⟨e,a⟩:=q;refine ⟨e,?_⟩;rcases a with a|⟨k,c,d,rfl,m,j,r⟩
 · exact .inl a
 · exact .inr ⟨k,c,d,rfl,m,(i k rfl).trans j,r⟩
theorem Bld.alloc {B b:Nat} {g:Option Nat} {l:Bs} {w:ch} (h:Bld B b g l w) (o:Obj):Bld B b g l (w.alloc o):=
 h.keep ((aL w o).block b h.old) (λk a=>(aL w o).block k (h.row k a).2)
theorem Bld.below {B b:Nat} {g:Option Nat} {l:Bs} {w w':ch} (h:Bld B b g l w) (k:Bw w w'):Bld B b g l w':=
 h.keep (k.block b h.old) (λj a=>k.block j (h.row j a).2)
theorem pY (B b:Nat) (g:Option Nat) (l:Bs) (c:UInt8) (n:Int) (f:n=c.toNat) (w:ch) (h:Bld B b g l w) (d:B<=w.heap.size) (i:l.length<=100000000000000):
 cv prog 160 #[c7 (X ⟨b,0,Y⟩),J c4 n] w λe w'=>e=c5 .nilIface/\∃a,Bld B b a (l++[c]) w'/\(a=g∨∃k,a=X k/\w.heap.size<=k)/\Fr b g w w':=by
 subst f;exact AF B b g l c w h d i
theorem zR {g a:Option Nat} {q n:Nat} (h:X q≠g) (b:a=g∨∃k,a=X k/\n<=k) (d:q<n):X q≠a:=by
 rcases b with rfl|⟨k,rfl,c⟩
 · exact h
 · intro e;injection e;omega
theorem Bld.fr {B b lo:Nat} {g:Option Nat} {l:Bs} {w w':ch} (h:Bld B b g l w) (f:Fr b g w w') (c:lo<=b):eQ lo w w':=
 f.below c (λk a=>by have:=(h.row k a).1;have:=h.lt;omega) (by have:=h.old;omega)
theorem yZ (f:af) (d:cs) (w:ch) (hs:aB 0 w.heap.size w d f.subs) (K:(fieldBytes f).length<=1000000) (hn:f.subs.length<=1000000):
 cv prog 111 #[fieldV f d] w λe w'=>e=c5 (S (fieldBytes f))/\Bw w w':=by
 obtain ⟨u,j,data,c⟩:=f;have b1:data.length+j.length<=1000000:=by simp [fieldBytes] at K;omega
 have P:=Z K;have HS:=Z hs;obtain ⟨a,E,rfl,_⟩:=hs;clear K;unfold fieldV;have N:=Z (λo=>iq (w.alloc o) (w.heap.size+1) (w.heap.size+2) (by simp) (by omega));go_enter func111,ntmps111;go_wp2_with (go_at_call 112;((with_reducible refine dd (dI (w.heap.size+2) (w.heap.size+1) Y [] (data++j) _ (N.o _) (by simp) (by simp;omega)) ?_);rintro e w1 ⟨rfl,g1,W,al,I⟩;have c3:=I.cell (q:=w.heap.size) (by simp;omega) (by omega) (by simp) 3))
 have a4:=Z W;have a6:Hid (eQ (w.heap.size+1) (w.alloc (cy #[S u,S j,S data,cc a c.length E] 123)) w1):=btr ((aL _ _).mono (by simp)) (I.below (B:=w.heap.size+1) (by omega) (by simp) (by simp)) (by simp);clear W al I N;go_wp2_with fail
 go_loopw [15] (λi wr=>∃(k:Nat) (h:Bs) (g:Option Nat),k<=c.length/\i=J U k/\Hid (h=data++j++(c.take k).flatMap aU)/\h.length<1000000/\
  Hid (Bld (w.heap.size+2) (w.heap.size+1) g h wr)/\eQ (w.heap.size+1) (w.alloc (cy #[S u,S j,S data,cc a c.length E] 123)) wr) (λi _=>c.length - (intOf i).toNat)
 case atStart=>exact ⟨0,data++j,g1,cz _,rfl,(by simp [Hid]),(by have:=bN ⟨u,j,data,c⟩ 0;have:=P.o;simp at *;omega),a4,a6.o⟩
 case round=>
  obtain ⟨k,h,g,hk,rfl,M,aT,m,H⟩:=hrel;by_cases hlt:k<c.length
  · have a2:aB 0 w.heap.size wr (cc a c.length E) c:=(HS.o.kept (aP ((cg _ w).alloc (cb _) _) (cb _))).kept (aP H (by omega));obtain ⟨b,b3,aS,hv,b0,_,ht,hx⟩:=a2.sub k hlt;cases hv;have Q:Hid (h++(31::c[k].code::c[k].text)=data++j++(c.take (k+1)).flatMap aU):=by rw [jV _ _ _ hlt,M.o];simp [Hid,aU]
    have b2:h.length+2+c[k].text.length<1000000:=by have:=bN ⟨u,j,data,c⟩ (k+1);simp only at this;rw [<- Q.o] at this;have:=P.o;simp at *;omega
    generalize c[k].text=T at *;generalize c[k].code=C at *;have ax:=Z m.old;have a8:=Z m.row;clear a2;have l:Hid (w.heap.size+2<=wr.heap.size):=by have:=m.o.old;show _<=_;omega
    have A:Hid (X wr.heap.size≠g):=λe=>by have:=(a8.o _ e.symm).2;omega
    go_wp2_with (first
     |(go_at_call_of 160 (dx es 31);((with_reducible refine dd (pY (w.heap.size+2) (w.heap.size+1) g h 31 _ (by decide) _ (m.o.alloc _) (by have:=l.o;simp;omega) (by omega)) ?_);rintro e x ⟨rfl,v,s,t,n⟩;have a1:X wr.heap.size≠v:=zR A.o t (by simp);have ay:x.cell? ⟨wr.heap.size,0,Y⟩=X (J c4 C.toNat):=(by rw [n.cell (by simp) (by have:=l.o;omega) A.o];go_simp);have ac:x.cell? ⟨wr.heap.size,1,Y⟩=X (S T):=(by rw [n.cell (by simp) (by have:=l.o;omega) A.o];go_simp);have D:Hid (wr.heap.size<x.heap.size):=(by have:=n.size;simp at this;exact this);have r:=Z s;have av:=Z t;have y:=Z n;have a7:=Z a1;clear s t n a1))
     |(go_at_call_of 160 (dx es C.toNat);((with_reducible refine dd (pY (w.heap.size+2) (w.heap.size+1) v (h++[31]) C _ (by rfl) _ r.o (by have:=l.o;have:=D.o;omega) (by simp;omega)) ?_);rintro e L ⟨rfl,g3,R,ao,p⟩;have aC:L.cell? ⟨wr.heap.size,1,Y⟩=X (S T):=(by rw [p.cell D.o (by have:=l.o;omega) a7.o];exact ac);have a9:Hid (wr.heap.size<L.heap.size):=Nat.lt_of_lt_of_le D.o p.size;have O:=Z R;have z:=Z p;clear R ao p))
     |(go_at_call 112;((with_reducible refine dd (dI (w.heap.size+2) (w.heap.size+1) g3 (h++[31]++[C]) T _ O.o (by have:=l.o;have:=a9.o;omega) (by simp;omega)) ?_);rintro e w4 ⟨rfl,g4,V,au,a0⟩;have a3:=Z V;have a5:=Z a0;clear V au a0)))
    go_roundw
    case rel=>
     refine ⟨k+1,h++[31]++[C]++T,g4,by omega,by go_num,?_,by simp;omega,a3,?_⟩
     · rw [<- Q.o];simp [Hid]
     · have F:=(m.alloc _).fr y.o (lo:=w.heap.size+1) (cb _);have G:=r.fr z.o (lo:=w.heap.size+1) (cb _);have h4:=O.fr a5.o (lo:=w.heap.size+1) (cb _);exact (((H.alloc (by have:=l.o;omega) _).trans F).trans G).trans h4
    case measure=>simp [intOf];omega
  · have ad:Hid (fieldBytes ⟨u,j,data,c⟩=h++[30]):=by rw [M.o,cd (by omega)];simp [fieldBytes,Hid]
    have l:Hid (w.heap.size+2<=wr.heap.size):=by have:=m.o.old;show _<=_;omega
    go_wp2_with (first
     |(go_at_call 160;((with_reducible refine dd (pY (w.heap.size+2) (w.heap.size+1) g h 30 _ (by decide) _ m.o (by exact l.o) (by omega)) ?_);rintro e x ⟨rfl,v,s,t,n⟩;have r:=Z s;have y:=Z n;clear s t n))
     |(go_at_call 115;((with_reducible refine dd (dX (w.heap.size+2) (w.heap.size+1) v (h++[30]) _ r.o (by simp;omega)) ?_);rintro e L ⟨rfl,p⟩;have z:=Z (p.fr (w.heap.size+1));clear p)))
    go_ret;refine ⟨nC ad.symm,?_⟩;have F:=m.fr y.o (lo:=w.heap.size+1) (cb _);have G:=r.fr z.o (lo:=w.heap.size+1) (cb _);exact btr (aL w _) ((H.trans F).trans G) (by omega)
end
section
open Go.RowKit
theorem fZ (w:ch) (a:Addr) (d:Nat) (l:List Int) (g:∀j (c:j<l.length),w.cell? (a.add j)=X (J c4 l[j])):
 (convert 76 9 (c9 (X a) l.length d)).run prog w= .ok (S (l.map λn=>cm n.toNat)) w:=by
 rw [run_convert_bytes_string w 76 9 5 (X a) l.length d underlying76 underlying5 underlying9];have f:=run_loadCells_list (P:=prog) w a (l.map (dx c4)) (λj v c=>by
  have e:j<l.length:=by have:=(List.getElem?_eq_some_iff.1 c).1;simpa using this
  rw [g j e];simp [List.getElem?_eq_getElem e] at c;rw [<- c])
 simp only [List.length_map] at f;rw [run_bytesToString w a l.length d _ f];have:∀(l:List Int) (r:ByteArray),l.foldl (λr n=>r.push (cm n.toNat)) r=⟨r.data++(l.map λn=>cm n.toNat).toArray⟩:=by
  intro l;induction l with
  |nil=>intro r;simp
  |cons b l ih=>intro r;simp only [List.foldl_cons,List.map_cons];rw [ih];simp [ByteArray.push]
 rw [this];have h:ByteArray.empty.data= #[]:=rfl;rw [h];simp
theorem yR (w:ch) (b:Nat) (c:Int) (h:w.cell? ⟨b,0,Y⟩=X (J c4 c)):
 (convert 76 9 (c9 (X ⟨b,0,Y⟩) 1 1)).run prog w= .ok (S [cm c.toNat]) w:=by
 have:=fZ w ⟨b,0,Y⟩ 1 [c] (λj a=>by
  have:j=0:=by simpa using a
  subst this;simpa [dn] using h)
 simpa using this
theorem yQ (w:ch) (b:Nat) (c d:Int) (a:w.cell? ⟨b,0,Y⟩=X (J c4 c)) (e:w.cell? ⟨b,1,Y⟩=X (J c4 d)):
 (convert 76 9 (c9 (X ⟨b,0,Y⟩) 2 2)).run prog w= .ok (S [cm c.toNat,cm d.toNat]) w:=by
 have:=fZ w ⟨b,0,Y⟩ 2 [c,d] (λj f=>by
  have:j=0∨j=1:=by simp at f;omega
  rcases this with rfl|rfl
  · simpa [dn] using a
  · simpa [dn] using e)
 simpa using this
open Classical in
noncomputable def cv1 (x:Option cs) (w:ch) (b:Nat):Result cs:=
 if x=w.cell? ⟨b,0,Y⟩ then (convert 76 9 (c9 (X ⟨b,0,Y⟩) 1 1)).run prog w
 else match x with
  |some (J c4 c)=> .ok (S [cm c.toNat]) w
  |_=>(convert 76 9 (c9 (X ⟨b,0,Y⟩) 1 1)).run prog w
theorem wJ (w:ch) (b:Nat):(convert 76 9 (c9 (X ⟨b,0,Y⟩) 1 1)).run prog w=cv1 (w.cell? ⟨b,0,Y⟩) w b:=by unfold cv1;rw [if_pos rfl]
theorem yP (c:Int) (w:ch) (b:Nat):cv1 (X (J c4 c)) w b= .ok (S [cm c.toNat]) w:=by
 unfold cv1;split
 · rename_i h;exact yR w b c h.symm
 · rfl
open Classical in
noncomputable def cv2 (x y:Option cs) (w:ch) (b:Nat):Result cs:=
 if x=w.cell? ⟨b,0,Y⟩/\y=w.cell? ⟨b,1,Y⟩ then (convert 76 9 (c9 (X ⟨b,0,Y⟩) 2 2)).run prog w
 else match x,y with
  |some (J c4 c),X (J c4 d)=> .ok (S [cm c.toNat,cm d.toNat]) w
  |_,_=>(convert 76 9 (c9 (X ⟨b,0,Y⟩) 2 2)).run prog w
theorem wI (w:ch) (b:Nat):(convert 76 9 (c9 (X ⟨b,0,Y⟩) 2 2)).run prog w=cv2 (w.cell? ⟨b,0,Y⟩) (w.cell? ⟨b,1,Y⟩) w b:=by unfold cv2;rw [if_pos ⟨rfl,rfl⟩]
theorem yO (c d:Int) (w:ch) (b:Nat):cv2 (X (J c4 c)) (X (J c4 d)) w b= .ok (S [cm c.toNat,cm d.toNat]) w:=by
 unfold cv2;split
 · rename_i h;exact yQ w b c d h.1.symm h.2.symm
 · rfl
attribute [go_sem] wJ yP wI yO
end
section
open Go.RowKit
theorem mq (w:ch) (x y z:cs) (t:TypeId):∀j v,[x,y,z][j]? =X v->(w.alloc (ca #[x,y,z] t)).cell? ((⟨w.heap.size,0,Y⟩:Addr).add j)=X v:=by
 intro j v a;match j,a with
 |0,a=>simp at a;subst a;simp [dn]
 |1,a=>simp at a;subst a;simp [dn]
 |2,a=>simp at a;subst a;simp [dn]
open Go.RowKit
theorem mZ (w:ch) (x y z u:cs) (t:TypeId):∀j v,[x,y,z,u][j]? =X v->(w.alloc (ca #[x,y,z,u] t)).cell? ((⟨w.heap.size,0,Y⟩:Addr).add j)=X v:=by
 intro j v a;match j,a with
 |0,a=>simp at a;subst a;simp [dn]
 |1,a=>simp at a;subst a;simp [dn]
 |2,a=>simp at a;subst a;simp [dn]
 |3,a=>simp at a;subst a;simp [dn]
end
section
open Go.RowKit
open Classical in
noncomputable def fh (f g:af):Bool:=decide (f=g)
theorem jJ (f g:af):fh f g=true↔f=g:=by unfold fh;simp
theorem qV {f g:af} (h:f≠g):fh f g=false:=by unfold fh;simp [h]
theorem kK (f g:af) (d c:cs) (w:ch) (k:∃a b,d=c9 a f.subs.length b) (j:∃a b,c=c9 a g.subs.length b)
 (h:f.tag≠g.tag∨f.ind≠g.ind∨f.data≠g.data∨f.subs.length≠g.subs.length):
 cv prog 139 #[fieldV f d,fieldV g c] w λe w'=>e=c5 (c6 (fh f g))/\Bw w w':=by
 have i:Hid (fh f g=false):=qV (by rintro rfl;simp at h);obtain ⟨a,b,rfl⟩:=k;obtain ⟨l,m,rfl⟩:=j;obtain ⟨s,o,data,q⟩:=f;obtain ⟨t,p,n,r⟩:=g;simp only at h;unfold fieldV;rw [i.o];have H:=Z h;clear h;go_enter func139,ntmps139;go_wp2_with fail
 all_goals first
  |(go_ret;exact ⟨rfl,(ak w _).alloc (by simp) _⟩)
  |(exfalso;go_tidy;have h:=H.o;clear H;simp_all;omega)
theorem jf {α:Type} {l m:List α} (k:Nat) (a:k<l.length) (b:k<m.length) (h:l.take k=m.take k) (c:l[k]=m[k]):l.take (k+1)=m.take (k+1):=by
 rw [cp a,cp b,h,c]
theorem ji (r o data:Bs) (f g:List cw) (d c:cs) (w:ch) (L:aB 0 w.heap.size w d f) (K:aB 0 w.heap.size w c g) (hn:f.length<=1000000)
 (h:f.length=g.length):
 cv prog 139 #[fieldV ⟨r,o,data,f⟩ d,fieldV ⟨r,o,data,g⟩ c] w λe w'=>e=c5 (c6 (fh ⟨r,o,data,f⟩ ⟨r,o,data,g⟩))/\Bw w w':=by
 have O:=Z L;have N:=Z K;obtain ⟨a,t,rfl,_⟩:=L;obtain ⟨B,u,rfl,_⟩:=K;unfold fieldV;have E:=Z h;have a5:((f.length:Int)!=g.length)=false:=by simp [h]
 clear h;go_enter func139,ntmps139;go_wp2_with fail
 go_loopw [5] (λi wr=>∃(k:Nat),k<=f.length/\i=J U k/\Hid (f.take k=g.take k)/\
  eQ (w.heap.size+2) ((w.alloc (cy #[S r,S o,S data,cc a f.length t] 123)).alloc (cy #[S r,S o,S data,cc B g.length u] 123)) wr) (λi _=>f.length - (intOf i).toNat)
 case atStart=>exact ⟨0,cz _,rfl,rfl,cg _ _⟩
 case round=>
  obtain ⟨k,hk,rfl,G,A⟩:=hrel;have a6:wr.cell? ⟨w.heap.size,3,Y⟩=X (cc a f.length t):=by rw [A.cell (p:=⟨w.heap.size,3,Y⟩) (by simp)];go_simp
  have a7:wr.cell? ⟨w.heap.size+1,3,Y⟩=X (cc B g.length u):=by rw [A.cell (p:=⟨w.heap.size+1,3,Y⟩) (by simp)];go_simp
  have v:Bw w wr:=btr ((ak w _).alloc (by simp) _) A (by omega);by_cases hlt:k<f.length
  · have M:k<g.length:=by rw [<- E.o];exact hlt
    obtain ⟨b,l,a0,D,_,_,R,V⟩:=(O.kept (aP v (cb _))).sub k hlt;cases D;obtain ⟨j,m,a4,D,_,_,T,W⟩:=(N.kept (aP v (cb _))).sub k M;cases D;have P:Hid (f[k]=g[k]->f.take (k+1)=g.take (k+1)):=jf k hlt M G.o;have F:Hid (f[k]≠g[k]->fh ⟨r,o,data,f⟩ ⟨r,o,data,g⟩=false):=λQ=>qV (by intro C;injection C with _ _ _ C;subst C;exact Q rfl);generalize hp:f[k]=p at *;generalize hq:g[k]=q at *;clear hp hq;obtain ⟨n,s⟩:=p;obtain ⟨x,y⟩:=q;simp only at R V T W;have a1:(0:Int)<=k:=by omega
    have B:(k:Int)<f.length:=by omega
    have a3:(k:Int)<g.length:=by omega
    by_cases hpc:n=x
    · subst hpc;by_cases hpt:s=y
      · subst hpt;go_wp2_with fail
        go_region_held3 (λw'=>w'.cell? ⟨w.heap.size,3,Y⟩=X (cc (X ⟨b,l,Y⟩) f.length t)/\w'.cell? ⟨w.heap.size+1,3,Y⟩=X (cc (X ⟨j,m,Y⟩) g.length u)/\w'.cell? ⟨b,l+k * 2,Y⟩=X (J c4 n.toNat)/\w'.cell? ⟨b,l+k * 2+1,Y⟩=X (S s)/\w'.cell? ⟨j,m+k * 2,Y⟩=X (J c4 n.toNat)/\w'.cell? ⟨j,m+k * 2+1,Y⟩=X (S s)) (go_keep) (fail)
        go_wp2_with fail
        go_roundw
        case rel=>exact ⟨k+1,by omega,by go_num,P.o (by simp),A.drew⟩
        case measure=>simp [intOf];omega
      · have z:(s==y)=false:=by simpa using hpt
        have I:(s !=y)=true:=by simpa using hpt
        go_wp2_with fail
        go_region_held3 (λw'=>w'.cell? ⟨w.heap.size,3,Y⟩=X (cc (X ⟨b,l,Y⟩) f.length t)/\w'.cell? ⟨w.heap.size+1,3,Y⟩=X (cc (X ⟨j,m,Y⟩) g.length u)/\w'.cell? ⟨b,l+k * 2,Y⟩=X (J c4 n.toNat)/\w'.cell? ⟨b,l+k * 2+1,Y⟩=X (S s)/\w'.cell? ⟨j,m+k * 2,Y⟩=X (J c4 n.toNat)/\w'.cell? ⟨j,m+k * 2+1,Y⟩=X (S y)) (go_keep) (fail)
        go_wp2_with fail
        go_ret;exact ⟨ap (F.o (by simpa using hpt)).symm,v.drew⟩
    · have H:¬(n.toNat:Int)=x.toNat:=by intro h;exact hpc (UInt8.toNat_inj.1 (by omega))
      have z:((n.toNat:Int)==x.toNat)=false:=by simpa using H
      have I:((n.toNat:Int)!=x.toNat)=true:=by simpa using H
      go_wp2_with fail
      go_region_held3 (λw'=>w'.cell? ⟨w.heap.size,3,Y⟩=X (cc (X ⟨b,l,Y⟩) f.length t)/\w'.cell? ⟨w.heap.size+1,3,Y⟩=X (cc (X ⟨j,m,Y⟩) g.length u)/\w'.cell? ⟨b,l+k * 2,Y⟩=X (J c4 n.toNat)/\w'.cell? ⟨b,l+k * 2+1,Y⟩=X (S s)/\w'.cell? ⟨j,m+k * 2,Y⟩=X (J c4 x.toNat)/\w'.cell? ⟨j,m+k * 2+1,Y⟩=X (S y)) (go_keep) (fail)
      go_wp2_with fail
      go_ret;exact ⟨ap (F.o (by simp [hpc])).symm,v.drew⟩
  · go_wp2_with fail
    go_ret;refine ⟨ap ?_,v⟩;symm;rw [jJ]
    have z:=G.o;have I:=E.o;rw [cd (by omega),cd (by omega)] at z;rw [z]
theorem oU (f g:af) (d c:cs) (w:ch) (j:aB 0 w.heap.size w d f.subs) (i:aB 0 w.heap.size w c g.subs) (m:f.subs.length<=1000000):
 cv prog 139 #[fieldV f d,fieldV g c] w λe w'=>e=c5 (c6 (fh f g))/\Bw w w':=by
 have l:∃a b,d=c9 a f.subs.length b:=by obtain ⟨a,b,h,_⟩:=j;exact ⟨a,b,h⟩
 have k:∃a b,c=c9 a g.subs.length b:=by obtain ⟨a,b,h,_⟩:=i;exact ⟨a,b,h⟩
 by_cases h:f.tag≠g.tag∨f.ind≠g.ind∨f.data≠g.data∨f.subs.length≠g.subs.length
 · exact kK f g d c w l k h
 · obtain ⟨q,n,data,o⟩:=f;obtain ⟨t,s,r,p⟩:=g;simp only [ne_eq,not_or,er] at h;obtain ⟨rfl,rfl,rfl,h⟩:=h;exact ji q n data o p d c w j i m h
open Go.RowKit
open Classical in
noncomputable def sameR (r s:az):Bool:=decide (r=s)
theorem nw (r s:az):sameR r s=true↔r=s:=by unfold sameR;simp
theorem qU {r s:az} (h:r≠s):sameR r s=false:=by unfold sameR;simp [h]
theorem s9 (r s:az) (x y:cs) (w:ch) (f:∃a b,x=c9 a r.fields.length b) (d:∃a b,y=c9 a s.fields.length b)
 (h:r.kind≠s.kind∨r.level≠s.level∨r.fields.length≠s.fields.length):
 cv prog 87 #[recV r x,recV s y] w λe w'=>e=c5 (c6 (sameR r s))/\Bw w w':=by
 have c:Hid (sameR r s=false):=qU (by rintro rfl;simp at h);obtain ⟨a,b,rfl⟩:=f;obtain ⟨g,i,rfl⟩:=d;obtain ⟨k,l,j⟩:=r;obtain ⟨n,o,m⟩:=s;simp only at h;unfold recV;rw [c.o];have H:=Z h;clear h;go_enter func87,ntmps87;go_wp2_with fail
 all_goals first
  |(go_ret;exact ⟨rfl,(ak w _).alloc (by simp) _⟩)
  |(exfalso;go_tidy;have h:=H.o;clear H;simp only [ne_eq, <- UInt8.toNat_inj] at h;simp at *;omega)
theorem oT (g j:UInt8) (c f:List af) (x y:cs) (w:ch) (C:ai 0 w.heap.size w x c) (D:ai 0 w.heap.size w y f) (a5:bI c) (h:c.length=f.length):
 cv prog 87 #[recV ⟨g,j,c⟩ x,recV ⟨g,j,f⟩ y] w λe w'=>e=c5 (c6 (sameR ⟨g,j,c⟩ ⟨g,j,f⟩))/\Bw w w':=by
 have V:=Z C;have HY:=Z D;obtain ⟨a,u,rfl⟩:=C.shape;obtain ⟨s,v,rfl⟩:=D.shape;obtain ⟨hn,P⟩:=a5;have T:=Z P;clear C D P;unfold recV;have F:=Z h;have a8:((c.length:Int)!=f.length)=false:=by simp [h]
 clear h;go_enter func87,ntmps87;go_wp2_with fail
 go_loopw [5,6] (λi t wr=>∃(k:Nat),k<=c.length/\i=J U k/\Hid (c.take k=f.take k)/\
  eQ (w.heap.size+2) ((w.alloc (cy #[J c4 g.toNat,J c4 j.toNat,cc a c.length u] 62)).alloc (cy #[J c4 g.toNat,J c4 j.toNat,cc s f.length v] 62)) wr) (λi _ _=>c.length - (intOf i).toNat)
 case atStart=>exact ⟨0,cz _,rfl,rfl,cg _ _⟩
 case round=>
  obtain ⟨k,hk,rfl,G,r⟩:=hrel;have a9:wr.cell? ⟨w.heap.size,2,Y⟩=X (cc a c.length u):=by rw [r.cell (p:=⟨w.heap.size,2,Y⟩) (by simp)];go_simp
  have a4:wr.cell? ⟨w.heap.size+1,2,Y⟩=X (cc s f.length v):=by rw [r.cell (p:=⟨w.heap.size+1,2,Y⟩) (by simp)];go_simp
  have m:Bw w wr:=btr ((ak w _).alloc (by simp) _) r (by omega);have a0:=m.size;by_cases hlt:k<c.length
  · have L:k<f.length:=by rw [<- F.o];exact hlt
    obtain ⟨b,n,a6,d,B,_,_,p0,p1,p2,p3,N⟩:=(V.kept (aP m (cb _))).field k hlt;cases B;obtain ⟨l,o,a7,H,B,_,_,q0,q1,q2,q3,O⟩:=(HY.kept (aP m (cb _))).field k L;cases B;have Q:Hid (fh c[k] f[k]=true->c.take (k+1)=f.take (k+1)):=λh=>jf k hlt L G.o ((jJ _ _).1 h);have R:Hid (fh c[k] f[k]=false->sameR ⟨g,j,c⟩ ⟨g,j,f⟩=false):=λM=>qU (by intro A;injection A with _ _ A;subst A;have:=(jJ c[k] c[k]).2 rfl;rw [this] at M;cases M);have K:=cP (cA c[k]) (T _ (dk hlt))
    have E:Hid (∀W,Bw wr W->cv prog 139 #[fieldV c[k] d,fieldV f[k] H] W λe w'=>e=c5 (c6 (fh c[k] f[k]))/\Bw W w'):=λW q=>
     oU _ _ _ _ W ((N.kept (aP q (by omega))).mono (cb _) (by have:=q.size;omega)) ((O.kept (aP q (by omega))).mono (cb _) (by have:=q.size;omega)) K
    unfold fieldV at E;clear N O K;generalize fh c[k] f[k]=t at *;generalize c[k].tag=f1 at *;generalize c[k].ind=f2 at *;generalize c[k].data=f3 at *;generalize f[k].tag=g1 at *;generalize f[k].ind=g2 at *;generalize f[k].data=g3 at *;have a1:(0:Int)<=k:=by omega
    have s:(k:Int)<c.length:=by omega
    have a3:(k:Int)<f.length:=by omega
    cases t
    all_goals
     go_wp2_with fail
     go_region_held3 (λw'=>w'.cell? ⟨w.heap.size,2,Y⟩=X (cc (X ⟨b,n,Y⟩) c.length u)/\w'.cell? ⟨w.heap.size+1,2,Y⟩=X (cc (X ⟨l,o,Y⟩) f.length v)
      /\w'.cell? ⟨b,n+k * 4,Y⟩=X (S f1)/\w'.cell? ⟨b,n+k * 4+1,Y⟩=X (S f2)/\w'.cell? ⟨b,n+k * 4+2,Y⟩=X (S f3)/\w'.cell? ⟨b,n+k * 4+3,Y⟩=X d
      /\w'.cell? ⟨l,o+k * 4,Y⟩=X (S g1)/\w'.cell? ⟨l,o+k * 4+1,Y⟩=X (S g2)/\w'.cell? ⟨l,o+k * 4+2,Y⟩=X (S g3)/\w'.cell? ⟨l,o+k * 4+3,Y⟩=X H) (go_keep)
      ((go_at_call 139;refine (E.o _ ?_).mono ?_;(exact (cg _ wr).drew);rintro e w3 ⟨rfl,z⟩;have ac:=ep z))
     go_wp2_with fail
    · go_ret;exact ⟨ap (R.o (by simp)).symm,btr m.drew z (by simpa using a0)⟩
    · go_roundw
      case rel=>exact ⟨k+1,by omega,by go_num,Q.o (by simp),btr r.drew z (by have:w.heap.size+1<wr.heap.size:=bh a4;simp;omega)⟩
      case measure=>simp [intOf];omega
  · go_wp2_with fail
    go_ret;refine ⟨ap ?_,m⟩;symm;rw [nw]
    have I:=G.o;have h2:=F.o;rw [cd (by omega),cd (by omega)] at I;rw [I]
theorem zB (r s:az) (u v:cs) (w:ch) (g:dH 0 w.heap.size w u r) (i:dH 0 w.heap.size w v s) (f:bI r.fields):
 cv prog 87 #[u,v] w λe w'=>e=c5 (c6 (sameR r s))/\Bw w w':=by
 obtain ⟨x,rfl,a⟩:=g;obtain ⟨y,rfl,b⟩:=i;by_cases h:r.kind≠s.kind∨r.level≠s.level∨r.fields.length≠s.fields.length
 · exact s9 r s x y w a.shape b.shape h
 · obtain ⟨k,l,c⟩:=r;obtain ⟨j,m,d⟩:=s;simp only [ne_eq,not_or,er] at h;obtain ⟨rfl,rfl,h⟩:=h;exact oT k l c d x y w a b f h
end
section
open Go.RowKit
attribute [local go_sem ↓] Go.wp_at_zero Go.wp_at_succ
theorem kX (r:az) (v:cs) (w:ch) (c:dH 0 w.heap.size w v r) (i:bI r.fields) (h:wrongR r≠0):
 cv prog 69 #[v] w λe w'=>e=c5 (.tuple #[S (aV r).1,J U (aV r).2])/\Bw w w':=by
 have g:Hid (aV r=([],wrongR r)):=if_neg h;have j:(wrongR r !=0)=true:=by simpa using h
 obtain ⟨x,rfl,c⟩:=c;have b:∀W,Bw w W->dH 0 W.heap.size W (recV r x) r:=λW a=>⟨x,rfl,(c.kept (aP a (cb _))).mono (cb _) a.size⟩;have b:=Z b;have d:∀W,Bw w W->cv prog 122 #[recV r x] W λe w'=>e=c5 (J U (wrongR r))/\Bw W w':=λW a=>kW r _ W (b W a) i;have f:=Z d;clear d;unfold recV at *;rw [g.o];generalize wrongR r=e at *;go_enter func69,ntmps69;go_wp2_with (go_at_call 122;refine (f.o _ (ak _ _)).mono ?_;rintro e w1 ⟨rfl,a⟩)
 go_ret2;exact ⟨rfl,btr (ak w _) a (by simp)⟩
theorem kY (r:az) (v:cs) (w:ch) (n:dH 0 w.heap.size w v r) (a6:bI r.fields) (h:wrongR r=0):
 cv prog 69 #[v] w λe w'=>e=c5 (.tuple #[S (aV r).1,J U (aV r).2])/\Bw w w':=by
 have HW:Hid (aV r=(fJ r,0)):=if_pos h;have q:=Z (qX h);have ac:Hid (∀W,Bw w W->cv prog 122 #[v] W λe w'=>e=c5 (J U 0)/\Bw W w'):=λW g=>by have:=kW r v W ((n.kept (aP g (cb _))).mono (cb _) g.size) a6;rw [h] at this;exact this
 clear h a6;rw [HW.o];obtain ⟨x,rfl,n⟩:=n;obtain ⟨u,y,c⟩:=r;simp only at n;have HS:=Z n;obtain ⟨a,s,rfl⟩:=n.shape;have hn:c.length<=999:=q.many;have hd:(dataOf c).length<=99999:=by have:=q.o.size;simp only at this;omega
 have HD:Hid (∀k,(dataOf (c.take k)).length<=99999):=λk=>cP (r8 _ _) hd;unfold recV at *;clear n hd;go_enter func69,ntmps69;go_wp2_with (go_at_call 122;refine (ac.o _ (ak _ _)).mono ?_;rintro e w1 ⟨rfl,g⟩;have av:=g;clear g)
 go_loopw [5,6,7,8] (λdr da i t wr=>∃(k:Nat) (D A:Bs),k<=c.length/\i=J U k/\dr=S D/\da=S A/\Hid (D=ce 0 (c.take k))/\Hid (A=dataOf (c.take k))/\D.length<=12000/\A.length<=99999/\
  eQ (w.heap.size+1) (w.alloc (cy #[J c4 u.toNat,J c4 y.toNat,cc a c.length s] 62)) wr) (λ_ _ i _ _=>c.length - (intOf i).toNat)
 case atStart=>exact ⟨0,[],[],cz _,rfl,rfl,rfl,rfl,rfl,by simp,by simp,av.mono (by simp)⟩
 case round=>
  obtain ⟨k,D,A,hk,rfl,rfl,rfl,C,z,bs,bc,g⟩:=hrel;have a0:wr.cell? ⟨w.heap.size,2,Y⟩=X (cc a c.length s):=by rw [g.cell (p:=⟨w.heap.size,2,Y⟩) (by simp)];go_simp
  have O:w.heap.size<wr.heap.size:=bh a0;by_cases hlt:k<c.length
  · have a7:ai 0 w.heap.size wr (cc a c.length s) c:=(HS.o.kept (aP (ak w _) (cb _))).kept (aP g (by omega));obtain ⟨b,B,bb,d,hv,_,_,a8,bB,bO,bY,a5⟩:=a7.field k hlt;cases hv;have a4:=dk hlt;have bw:=q.long _ a4;have V:Hid (D++(c[k].tag++fixedN 4 (fieldBytes c[k]).length++fixedN 5 A.length)=ce 0 (c.take (k+1))):=by rw [cp hlt,ju,C.o,z.o];simp [Hid]
    have au:(D++(c[k].tag++fixedN 4 (fieldBytes c[k]).length++fixedN 5 A.length)).length<=12000:=by rw [V.o,q.o.dir (k+1) hlt];omega
    have T:Hid (A++fieldBytes c[k]=dataOf (c.take (k+1))):=by rw [cp hlt,kC,z.o];rfl
    have ad:(A++fieldBytes c[k]).length<=99999:=by rw [T.o];exact HD.o _
    have ao:Hid (aB 0 wr.heap.size wr d c[k].subs):=a5.mono (cb _) (by omega);clear a5 a7 a4;simp only [ds,bE] at au ad;have a3:(fieldBytes c[k]).length<=1000000:=by omega
    have b4:=cP (cA c[k]) a3;have ax:b<wr.heap.size:=bh a8;generalize c[k]=f at *;go_wp2_with (go_at_call 123;refine (mu f d _ ao.o a3 b4).mono ?_;rintro e R ⟨rfl,L⟩;obtain ⟨M,b1⟩:=ar L)
    have bk:R.cell? ⟨w.heap.size,2,Y⟩=X (cc (X ⟨b,B,Y⟩) c.length s):=by rw [M _ _ O];exact a0
    have bA:R.cell? ⟨b,B+k * 4,Y⟩=X (S f.tag):=by rw [M _ _ ax];exact a8
    generalize fieldBytes f=F at *;generalize f.tag=G at *;have q1:¬9223372036854775807<cu D+cu G:=by omega
    have q2:¬9223372036854775807<cu D+cu G+4:=by omega
    have q3:¬9223372036854775807<cu D+(cu G+4)+5:=by omega
    have I:0<=(F.length:Int)/\(F.length:Int)<1000000000:=by omega
    have K:0<=(A.length:Int)/\(A.length:Int)<1000000000:=by omega
    go_region_held3 (λw'=>w'.cell? ⟨w.heap.size,2,Y⟩=X (cc (X ⟨b,B,Y⟩) c.length s)/\w'.cell? ⟨b,B+k * 4,Y⟩=X (S G)) (go_keep)
     (first
      |(go_at_call_of 124 (dx IntKind.i64 ↑(cu F));refine (jt 4 _ _ _ rfl I.1 I.2 (by omega)).mono ?_;rintro e w3 ⟨rfl,j⟩;have P:=ep j)
      |(go_at_call_of 124 (dx IntKind.i64 ↑(cu A));refine (jt 5 _ _ _ rfl K.1 K.2 (by omega)).mono ?_;rintro e w4 ⟨rfl,m⟩;have Q:=ep m))
    have ay:eQ (w.heap.size+1) (w.alloc (cy #[J c4 u.toNat,J c4 y.toNat,cc (X ⟨b,B,Y⟩) c.length s] 62)) w4:=by have h1:=L.size;have h3:R.heap.size<=w3.heap.size:=j.size;exact btr (btr (btr g L (by omega)).drew j (by simp;omega)) m (by omega)
    clear P Q M b1;go_wp2_with fail
    go_roundw
    case rel=>exact ⟨k+1,D++(G++fixedN 4 F.length++fixedN 5 A.length),A++F,by omega,by go_num,by simp,by go_num,V,T,by simp [bE];omega,by simp;omega,ay⟩
    case measure=>simp [intOf];omega
  · have N:c.take k=c:=cd (by omega);rw [N] at C z;have E:=q.dir k hk;simp only at E;rw [N, <- C.o] at E;have H:=q.size;simp only at H;rw [<- z.o] at H;clear N;have aC:wr.cell? ⟨w.heap.size,0,Y⟩=X (J c4 u.toNat):=by rw [g.cell (p:=⟨w.heap.size,0,Y⟩) (by simp)];go_simp
    have aS:wr.cell? ⟨w.heap.size,1,Y⟩=X (J c4 y.toNat):=by rw [g.cell (p:=⟨w.heap.size,1,Y⟩) (by simp)];go_simp
    have bt:25+D.length+A.length+1<=99999:=by omega
    have b7:=Z E;have al:Hid (∀l:Bs,l=fu ⟨u,y,c⟩ (25+D.length+A.length+1) (25+D.length)++D++[30]++A++[29]->Ending.returned (.tuple #[S l,J U 0])=c5 (.tuple #[S (fJ ⟨u,y,c⟩),J U 0])):=by intro l h;rw [h,C.o,z.o];rfl
    clear E H;have I:0<=(25+(D.length:Int))/\(25+(D.length:Int))<1000000000:=by omega
    have K:0<=(25+(D.length:Int)+A.length+1)/\(25+(D.length:Int)+A.length+1)<1000000000:=by omega
    have b8:∀o,(wr.alloc o).cell? ⟨w.heap.size,0,Y⟩=X (J c4 u.toNat):=λo=>by rw [aM _ _ _ _ O];exact aC
    have b9:∀o,(wr.alloc o).cell? ⟨w.heap.size,1,Y⟩=X (J c4 y.toNat):=λo=>by rw [aM _ _ _ _ O];exact aS
    have e1:IntKind.i64.wrap (25+(D.length:Int))=25+D.length:=dc _ (by omega);have e2:IntKind.i64.wrap (25+(D.length:Int)+A.length)=25+D.length+A.length:=dc _ (by omega);have e3:IntKind.i64.wrap (25+(D.length:Int)+A.length+1)=25+D.length+A.length+1:=dc _ (by omega);go_wp2_with fail
    have a9:True:=trivial
    go_region_with
     (first
      |(go_at_call 124;have _t:=a9;go_must (refine (jt 5 _ _ _ rfl (by omega) (by omega) (by omega)).mono ?_);clear _t a9;rintro e w3 ⟨rfl,j⟩;have P:=ep j;obtain ⟨aT,b2⟩:=ar j)
      |(go_at_call 124;go_must (refine (jt 5 _ _ _ rfl (by omega) (by omega) (by omega)).mono ?_);rintro e w4 ⟨rfl,m⟩;have Q:=ep m;obtain ⟨b0,b3⟩:=ar m))
    all_goals
     clear P Q aT b2 b0 b3
     go_wp2_with fail
     go_ret2
     refine ⟨al.o _ (by simp [fu]),?_⟩
     have b5:=j.size
     have b6:=m.size
     simp only [World.size_drew,World.size_alloc] at b5 b6
     first
      |exact btr (ak w _) (btr (btr ((g.alloc (by omega) _).drew) j (by simp;omega)) m (by omega)) (by omega)
      |exact btr (ak w _) (btr ((btr g.drew j (by simp;omega)).alloc (by omega) _) m (by simp;omega)) (by omega)
      |exact btr (ak w _) ((btr (btr g.drew j (by simp;omega)) m (by omega)).alloc (by omega) _) (by omega)
theorem xo (r:az) (v:cs) (w:ch) (a:dH 0 w.heap.size w v r) (b:bI r.fields):
 cv prog 69 #[v] w λe w'=>e=c5 (.tuple #[S (aV r).1,J U (aV r).2])/\Bw w w':=by
 by_cases h:wrongR r=0
 · exact kY r v w a b h
 · exact kX r v w a b h
theorem xT (r:az) (v:cs) (w:ch) (b:dH 0 w.heap.size w v r) (d:bI r.fields):
 cv prog 85 #[v] w λe w'=>e=c5 (c6 (decide (wrongR r=0)))/\Bw w w':=by
 have c:Hid (∀W,Bw w W->cv prog 122 #[v] W λe w'=>e=c5 (J U (wrongR r))/\Bw W w'):=λW a=>
  kW r v W ((b.kept (aP a (cb _))).mono (cb _) a.size) d
 obtain ⟨x,rfl,_⟩:=b;unfold recV at *;generalize wrongR r=e at *;go_enter func85,ntmps85;go_wp2_with (go_at_call 122;refine (c.o _ (ak _ _)).mono ?_;rintro e w1 ⟨rfl,a⟩)
 go_ret;exact ⟨ap (by rw [cl];simp),btr (ak w _) a (by simp)⟩
end
end Go.Proofs.YtjcimanddakkaaaGreatDoor
