/- Lemmas. -/
import Derived.Test.YtjcimanddakkaaaGreatDoorQ6
import Derived.Test.YtjcimanddakkaaaGreatDoorQ7
set_option maxRecDepth 100000
set_option maxHeartbeats 8000000
namespace Go.Proofs.YtjcimanddakkaaaGreatDoor
open _root_.Option renaming some→X,none→Y
open Go.Value renaming pointer→da,slice→dc,int→J,bool→dk
open Go.Ending renaming returned→dd
open Go.IntKind renaming i64→U,u8→di
open Go.Lib renaming hid→Z
open Tryz
open Go.Calls renaming mono→dn
open _root_.Nat renaming le_refl→dp
open _root_.List renaming take_succ_eq_append_getElem→ds,length→ee,take_length→eg,getElem_mem→ej
open Go.RowKit.Below renaming refl→dx
open Go renaming World→dy,Calls→em
open Go.Value renaming slice→dz
section
open Go.RowKit
theorem C8 {r:az} (h:letterB r.kind=true) (c:letterB r.level=true) (d:aI r.fields=0) (a:bL r.fields=true∨999<r.fields.length∨99999<26+12 * r.fields.length+(dataOf r.fields).length):bE r=([],2):=by
 have b:wrongR r=2:=by
  rw [oP r h c d,if_pos];rw [io];simp only [Bool.or_eq_true,decide_eq_true_eq];rcases a with a|a|a
  · exact .inl (.inl a)
  · exact .inl (.inr a)
  · exact .inr a
 unfold bE;rw [if_neg (by rw [b];decide),b]
theorem C9 {r:az} (h:letterB r.kind=true) (a:letterB r.level=true) (b:aI r.fields=0) (d:bL r.fields=false) (e:r.fields.length<=999) (f:26+12 * r.fields.length+(dataOf r.fields).length<=99999):bE r=(iR r,0):=by
 have c:wrongR r=0:=by rw [oP r h a b,if_neg];rw [io,d];simp only [Bool.false_or,Bool.or_eq_true,decide_eq_true_eq];omega
 unfold bE;rw [if_pos c]
theorem Ca {a:List af} {k:Nat} (b:k<a.length) (h:9999<(fieldBytes a[k]).length):bL a=true:=by
 unfold bL;rw [List.any_eq_true];exact ⟨a[k],ej b,by simpa using h⟩
theorem yp {a:List af} {k:Nat} (b:k<a.length) (h:bL (a.take k)=false) (c:(fieldBytes a[k]).length<=9999):bL (a.take (k+1))=false:=by
 unfold bL at *;rw [ds b,List.any_append,h];simp;omega
structure Two (x:Nat) (g1 g2:Option Nat) (D A:Bs) (w:dy):Prop where
 one:Bld (x+2) x g1 D w
 two:Bld (x+2) (x+1) g2 A w
 ne:∀j,g1=some j->g2=some j->False
theorem Two.below {x:Nat} {a c:Option Nat} {D A:Bs} {w w':dy} (h:Two x a c D A w) (b:Bw w w'):Two x a c D A w':=⟨h.one.below b,h.two.below b,h.ne⟩
theorem Two.fst {x:Nat} {c f a:Option Nat} {D A d:Bs} {w w':dy} (h:Two x c f D A w) (l:Bld (x+2) x a d w') (m:a=c∨∃k,a=X k/\w.heap.size<=k) (i:Fr x c w w'):Two x a f d A w':=
 ⟨l,h.two.keep (i.block _ h.two.old (by omega) (λe=>by have:=(h.one.row _ e.symm).1;omega)) (λk b=>i.block k (h.two.row k b).2 (by have:=(h.two.row k b).1;omega) (λe=>h.ne k e.symm b)),
  λj h1 g=>by
   rcases m with rfl|⟨k,rfl,b⟩
   · exact h.ne j h1 g
   · have:=(h.two.row j g).2;injection h1;omega⟩
theorem Two.snd {x:Nat} {f c a:Option Nat} {D A d:Bs} {w w':dy} (h:Two x f c D A w) (l:Bld (x+2) (x+1) a d w') (m:a=c∨∃k,a=X k/\w.heap.size<=k) (i:Fr (x+1) c w w'):Two x f a D d w':=
 ⟨h.one.keep (i.block _ h.one.old (by omega) (λe=>by have:=(h.two.row _ e.symm).1;omega)) (λk b=>i.block k (h.one.row k b).2 (by have:=(h.one.row k b).1;omega) (λe=>h.ne k b e.symm)),l,
  λj h1 g=>by
   rcases m with rfl|⟨k,rfl,b⟩
   · exact h.ne j h1 g
   · have:=(h.one.row j h1).2;injection g;omega⟩
theorem Two.size {x:Nat} {a b:Option Nat} {D A:Bs} {w:dy} (h:Two x a b D A w):x+2<=w.heap.size:=h.two.old
theorem Ao (w:dy):Two w.heap.size Y Y [] [] ((w.alloc (Obj.cells #[da Y,dc Y 0 0] 187)).alloc (Obj.cells #[da Y,dc Y 0 0] 187)):=by
 have h1:=iB w w.heap.size (w.heap.size+2) rfl (by omega);exact ⟨h1.alloc _,iB _ (w.heap.size+1) (w.heap.size+2) (by simp) (by omega),λ_ h=>by cases h⟩
theorem Bld.slot {B b:Nat} {g:Option Nat} {l:Bs} {w:dy} (h:Bld B b g l w):∃a c,w.cell? ⟨b,1,Y⟩=X (dc a l.length c):=by
 obtain ⟨i,p,v,d,k,e,f,j⟩:=h;obtain ⟨a,c,rfl⟩:=bF e;exact ⟨a,c,by rw [Lib.cell_of_heap d];rfl⟩
theorem zc (b:Nat) (a:Option Addr) (n c:Nat) (w:dy) (c1:w.cell? ⟨b,1,Y⟩=X (dc a n c)):em prog 114 #[da (X ⟨b,0,Y⟩)] w λe w'=>e=dd (J U n)/\w'=w:=by
 go_enter func114,ntmps114;go_wp2_with fail
 go_ret;exact ⟨rfl,rfl⟩
attribute [local go_sem ↓] Go.wp_at_zero Go.wp_at_succ
theorem CN {r:az} (h:(letterB r.kind&&letterB r.level)=false):bE r=([],12):=by
 have a:=nA r h;unfold bE;rw [if_neg (by rw [a];decide),a]
theorem kS (r:az) (x:Value) (w:dy) (h:(letterB r.kind&&letterB r.level)=false):
 em prog 62 #[fY r x] w λe w'=>e=dd (.tuple #[S (bE r).1,J U (bE r).2])/\Bw w w':=by
 have a:=Z (CN h);rw [a.o];obtain ⟨b,c,d⟩:=r;simp only at h;unfold fY;cases hk:letterB b
 · go_enter func62,ntmps62;go_wp2_with (go_at_call 109;refine (jZ _ _).mono ?_;rintro e w' ⟨rfl,rfl⟩)
   go_ret2;exact ⟨rfl,am _ _⟩
 · have f:letterB c=false:=by simpa [hk] using h
   clear h;go_enter func62,ntmps62;go_wp2_with (go_at_call 109;refine (jZ _ _).mono ?_;rintro e w' ⟨rfl,rfl⟩)
   go_ret2;exact ⟨rfl,am _ _⟩
theorem sv (n:Nat) (w:dy) (a:n<100000000000):
 em prog 113 #[J U n,J U 4] w λe w'=>e=dd (S (fixedN 4 n))/\Bw w w':=uC n w (by omega) (by omega)
theorem kJ (n:Nat) (w:dy) (a:n<100000000000):
 em prog 113 #[J U n,J U 5] w λe w'=>e=dd (S (fixedN 5 n))/\Bw w w':=uB n w (by omega) (by omega)
theorem kI (n:Nat) (v:Int) (b:v=n) (w:dy) (a:n<100000000000):
 em prog 113 #[J U v,J U 5] w λe w'=>e=dd (S (fixedN 5 n))/\Bw w w':=by subst b;exact kJ n w a
theorem je (b:Nat) (a:Option Addr) (n c:Nat) (w:dy) (c1:w.cell? ⟨b,1,Y⟩=X (dc a n c)):em prog 114 #[da (X ⟨b,0,Y⟩)] w λe w'=>e=dd (J U n)/\w=w':=
 (zc b a n c w c1).mono λ_ _ ⟨h,e⟩=>⟨h,e.symm⟩
theorem Two.other {x:Nat} {b c:Option Nat} {D A:Bs} {w w':dy} (h:Two x b c D A w) (d:Fr x b w w'):Bld (x+2) (x+1) c A w':=
 h.two.keep (d.block _ h.two.old (by omega) (λe=>by have:=(h.one.row _ e.symm).1;omega)) (λk a=>d.block k (h.two.row k a).2 (by have:=(h.two.row k a).1;omega) (λe=>h.ne k e.symm a))
def B6 (r:az) (w:dy) (e:Ending) (w':dy):Prop:=e=dd (.tuple #[S (bE r).1,J U (bE r).2])/\Bw w w'
theorem vY {r:az} (h:letterB r.kind=true) (c:letterB r.level=true) (a:aI r.fields≠0):bE r=([],aI r.fields):=by
 have b:=qN r h c a;unfold bE;rw [if_neg (by rw [b];exact a),b]
theorem m9 (r:az) (x:Value) (w:dy) (hs:ai 0 w.heap.size w x r.fields) (bt:bR r.fields) (h:letterB r.kind=true) (h2:letterB r.level=true):
 em prog 62 #[fY r x] w (B6 r w):=by
 have HF:=Z (vY h h2);have H2:=Z (C8 h h2);have H0:=Z (C9 h h2);obtain ⟨B,C,c⟩:=r;simp only at h h2 hs bt HF H2 H0;have HS:=Z hs;obtain ⟨a,Q,rfl⟩:=hs.shape;obtain ⟨hn,bw⟩:=bt;have b7:=Z bw;clear hs bw;unfold fY;go_enter func62,ntmps62;go_wp2_with (go_at_call 109;refine (jZ _ _).mono ?_;rintro e w' ⟨rfl,rfl⟩)
 go_loopw [28] (λi wr=>∃(k:Nat),k<=c.length/\i=J U k/\Hid (aI (c.take k)=0)/\
  Below (w.heap.size+1) (w.alloc (Obj.cells #[J di B.toNat,J di C.toNat,dz a c.length Q] 62)) wr) (λi _=>c.length - (intOf i).toNat)
 case atStart=>exact ⟨0,Nat.zero_le _,rfl,rfl,dx _ _⟩
 case round=>
  obtain ⟨k,hk,rfl,q,z⟩:=hrel;have bb:wr.cell? ⟨w.heap.size,2,Y⟩=X (dz a c.length Q):=by rw [z.cell (p:=⟨w.heap.size,2,Y⟩) (by simp)];go_simp
  have b2:w.heap.size<wr.heap.size:=bi bb;by_cases hlt:k<c.length
  · have a5:ai 0 w.heap.size wr (dz a c.length Q) c:=(HS.o.kept (aX (am w _) (dp _))).kept (aX z (by omega));obtain ⟨b,cz,c6,d,hv,_,_,cq,cs,cu,cv,K⟩:=a5.field k hlt;cases hv;obtain ⟨u,v,rfl⟩:∃u v,d= .slice u c[k].subs.length v:=by obtain ⟨x1,x2,x3,_⟩:=K;exact ⟨x1,x2,x3⟩
    have O:=ej hlt;have a4:(fieldBytes c[k]).length<=1000000:=b7 _ O;have b0:=Nat.le_trans (cM c[k]) a4;have a8:Hid (∀W,Bw wr W->aD 0 W.heap.size W (.slice u c[k].subs.length v) c[k].subs):=λW y=>(K.kept (aX y (by omega))).mono (dp _) (by have:=y.size;omega);have ad:Hid (∀W,Bw wr W->em prog 110 #[fieldV c[k] (.slice u c[k].subs.length v)] W λe w'=>e=dd (J U (wrongF c[k]))/\Bw W w'):=λW y=>yc _ _ W (a8 W y) a4 b0;have ao:=Z (fm c k hlt q.o);have av:=Z (gD c k hlt q.o);clear a5 O K;unfold fieldV at ad;generalize c[k]=f at *;by_cases hw:wrongF f=0
    · rw [hw] at ad;have HN:=Z (av hw);clear av ao;go_wp2_with (go_at_call 110;((with_reducible refine dn (ad.o _ (am _ _)) ?_);rintro e w1 ⟨rfl,V⟩))
      go_roundw
      case rel=>exact ⟨k+1,by omega,by go_num,HN,(z.alloc (by omega) _).trans (V.mono (by simp;omega))⟩
      case measure=>simp [intOf];omega
    · have H:Hid (bE ⟨B,C,c⟩=([],wrongF f)):=by have hx:=ao.o;rw [if_neg hw] at hx;have:=HF.o (by rw [hx];exact hw);rw [hx] at this;exact this
      clear av ao;generalize wrongF f=er at *;go_wp2_with (go_at_call 110;((with_reducible refine dn (ad.o _ (am _ _)) ?_);rintro e w1 ⟨rfl,V⟩))
      go_ret2;refine ⟨by rw [H.o];rfl,btr (am w _) ((z.alloc (by omega) _).trans (V.mono (by simp;omega))) (by omega)⟩
  · have al:Hid (aI c=0):=by have:=q.o;rw [List.take_of_length_le (by omega)] at this;exact this
    generalize wr=g at *;have HT:=Z (Ao g);clear q HF;go_wp2_with fail
    go_loopw [41] (λi wq=>∃(k:Nat) (D A:Bs) (R T:Option Nat),k<=c.length/\i=J U k/\Hid (D=dq 0 (c.take k))/\Hid (A=dataOf (c.take k))/\D.length=12 * k/\A.length<=9999 * k/\Hid (bL (c.take k)=false)/\
     Hid (Two g.heap.size R T D A wq)/\Bw g wq) (λi _=>c.length - (intOf i).toNat)
    case atStart=>exact ⟨0,[],[],Y,Y,Nat.zero_le _,rfl,rfl,rfl,rfl,by simp,rfl,HT,((dx _ g).alloc (dp _) _).alloc (by simp) _⟩
    case round=>
     obtain ⟨j,D,A,R,T,hj,rfl,HD,q,ch,cQ,ax,s,I⟩:=hrel;have d5:=s.size;by_cases hlj:j<c.length
     · have a5:ai 0 w.heap.size wr (dz a c.length Q) c:=((HS.o.kept (aX (am w _) (dp _))).kept (aX z (by omega))).kept (aX I (by omega));obtain ⟨b,cz,c6,d,hv,_,_,cq,cs,cu,cv,K⟩:=a5.field j hlj;cases hv;obtain ⟨u,v,rfl⟩:∃u v,d= .slice u c[j].subs.length v:=by obtain ⟨x1,x2,x3,_⟩:=K;exact ⟨x1,x2,x3⟩
       have O:=ej hlj;have a4:(fieldBytes c[j]).length<=1000000:=b7 _ O;have b0:=Nat.le_trans (cM c[j]) a4;have a8:Hid (∀W,Bw wr W->aD 0 W.heap.size W (.slice u c[j].subs.length v) c[j].subs):=λW y=>(K.kept (aX y (by omega))).mono (dp _) (by have:=y.size;omega);have aS:Hid (∀W,Bw wr W->em prog 111 #[fieldV c[j] (.slice u c[j].subs.length v)] W λe w'=>e=dd (S (fieldBytes c[j]))/\Bw W w'):=λW y=>zZ _ _ W (a8 W y) a4 b0;have HG:Hid (c[j].tag.length=3):=fI (ly (ey al.o _ O));have d3:c[j].tag.length<=3:=by rw [HG.o];exact dp 3
       have ay:=Z (λh=>H2 al.o (.inl (Ca hlj h)));have aC:=Z (yp hlj ax.o);have HT:Hid (D++(c[j].tag++fixedN 4 (fieldBytes c[j]).length++fixedN 5 A.length)=dq 0 (c.take (j+1))):=by rw [ds hlj,qm,HD.o,q.o];simp [Hid]
       have M:Hid (A++fieldBytes c[j]=dataOf (c.take (j+1))):=by rw [ds hlj,sG,q.o];rfl
       clear a5 O K;unfold fieldV at aS;generalize c[j]=f at *;by_cases hF:(fieldBytes f).length<=9999
       · have c3:=Z (aC hF);clear aC ay;generalize fieldBytes f=F at *;generalize f.tag=G at *;generalize f.ind=Gi at *;generalize f.data=Gd at *;generalize f.subs.length=gn at *;clear a8;go_wp2_with (go_at_call 111;((with_reducible refine dn (aS.o _ (am _ _)) ?_);rintro e L ⟨rfl,a0⟩;have bB:L.cell? ⟨wr.heap.size,0,Y⟩=X (S G):=(by rw [a0.cell (p:=⟨wr.heap.size,0,Y⟩) (by simp)];go_simp)))
         obtain ⟨a2,n2,E⟩:=(s.o.below ((aM wr _).trans (a0.mono (by simp)))).two.slot;have c2:Hid (Two g.heap.size R T D A L):=s.o.below (btr (aM wr _) a0 (by simp));have d2:D.length<=12000000:=by omega
         have cP:A.length<=9999000000:=by omega
         have q1:¬9223372036854775807<ee G+4:=by omega
         have q2:¬9223372036854775807<ee G+4+5:=by omega
         have q3:¬9223372036854775807<ee G+(4+5):=by omega
         have d6:wr.heap.size<L.heap.size:=by have:=a0.size;simp at this;exact this
         go_region_held3 (λw'=>w'.cell? ⟨wr.heap.size,0,Y⟩=X (S G)/\w'.cell? ⟨g.heap.size+1,1,Y⟩=X (dc a2 A.length n2)) (go_keep)
          (first
           |(go_at_call_of 113 (Value.int IntKind.i64 ↑(ee F));((with_reducible refine dn (sv F.length _ (by omega)) ?_);rintro e w3 ⟨rfl,m⟩;have a6:=fN m))
           |(go_at_call 114;have s3:w3.cell? ⟨g.heap.size+1,1,Y⟩=X (dc a2 A.length n2):=a6 _ _ E;((with_reducible refine dn (je _ _ _ _ _ s3) ?_);rintro e d7 ⟨rfl,rfl⟩))
           |(go_at_call_of 113 (Value.int IntKind.i64 ↑(ee A));((with_reducible refine dn (kJ A.length _ (by omega)) ?_);rintro e w4 ⟨rfl,n⟩;have a7:=fN n))
           |(go_at_call 112;have N:=((c2.o.below (dx _ L).drew).below m).below n;((with_reducible refine dn (dK (g.heap.size+2) g.heap.size R D (G++(fixedN 4 F.length++fixedN 5 A.length)) _ N.one N.size (by simp [cV];omega)) ?_);rintro e w5 ⟨rfl,c7,b8,bp,a3⟩;have k5:w5.cell? ⟨wr.heap.size,0,Y⟩=X (S G):=(by rw [a3.cell (by have:=n.size;have:=m.size;simp at *;omega) (by omega) (λe=>by have:=(s.o.one.row _ e.symm).2;omega)];exact a7 _ _ (a6 _ _ bB));have k6:w5.cell? ⟨g.heap.size+1,1,Y⟩=X (dc a2 A.length n2):=(by rw [a3.cell (by have:=N.size;omega) (by omega) (λe=>by have:=(s.o.one.row _ e.symm).1;omega)];exact a7 _ _ s3);have a9:=Z (N.fst b8 bp a3);have bT:=Z (N.one.fr a3 (lo:=g.heap.size) (dp _));clear N b8 bp a3)))
         have bO:Hid (Bw g w5):=by have z4:=n.size;have z3:L.heap.size<=w3.heap.size:=m.size;exact (((I.trans ((aM wr _).mono (by omega))).trans (a0.mono (by simp;omega))).trans ((dx g.heap.size L).drew.trans ((m.mono (by simp;omega)).trans (n.mono (by omega))))).trans bT.o
         clear a6 a7 E s3 m n bB k5 k6;go_wp2_with (go_at_call 112;((with_reducible refine dn (dK (g.heap.size+2) (g.heap.size+1) T A F _ a9.o.two a9.o.size (by omega)) ?_);rintro e w6 ⟨rfl,c9,ca,cp,bk⟩))
         go_roundw
         case rel=>
          refine ⟨j+1,D++(G++fixedN 4 F.length++fixedN 5 A.length),A++F,c7,c9,by omega,by go_num,HT,M,?_,by simp;omega,c3,?_,bO.o.trans (a9.o.two.fr bk (by omega))⟩
          · have:=HG.o;simp [cV];omega
          · have:=a9.snd ca cp bk;simpa [Hid] using this
         case measure=>simp [intOf];omega
       · have H:=Z (ay.o (by omega));clear aC ay;generalize fieldBytes f=F at *;go_wp2_with (go_at_call 111;((with_reducible refine dn (aS.o _ (am _ _)) ?_);rintro e w1 ⟨rfl,V⟩))
         go_ret2;refine ⟨by rw [H.o];rfl,btr (am w _) (z.trans (((I.mono (by omega)).alloc (by omega) _).trans (V.mono (by simp;omega)))) (by omega)⟩
     · obtain rfl:j=c.length:=by omega
       have b4:Hid (D=dq 0 c):=by have:=HD.o;rwa [eg] at this
       have M:Hid (A=dataOf c):=by have:=q.o;rwa [eg] at this
       have b6:Hid (bL c=false):=by have:=ax.o;rwa [eg] at this
       clear HD q ax hlj hj;have d0:D.length<=12 * c.length:=by omega
       have d1:12 * c.length<=D.length:=by omega
       have P:Hid (999<c.length∨99999<26+12 * c.length+A.length->bE ⟨B,C,c⟩=([],2)):=λh=>H2.o al.o (.inr (by rw [<- M.o];exact h));have ac:Hid (c.length<=999->26+12 * c.length+A.length<=99999->∀l:Bs,l=jD ⟨B,C,c⟩ (25+D.length+A.length+1) (25+D.length)++D++[30]++A++[29]->Ending.returned (.tuple #[S l,J U 0])=dd (.tuple #[S (bE ⟨B,C,c⟩).1,J U (bE ⟨B,C,c⟩).2])):=by intro h9 h5 l hl;have:=H0.o al.o b6.o h9 (by rw [<- M.o];exact h5);rw [this,hl,b4.o,M.o];rfl
       clear b4 M b6 H2 H0 ch;obtain ⟨a1,n1,s1⟩:=s.one.slot;obtain ⟨a2,n2,E⟩:=s.two.slot;have bc:wr.cell? ⟨w.heap.size,2,Y⟩=X (dz a c.length Q):=by rw [I.cell (p:=⟨w.heap.size,2,Y⟩) b2];exact bb
       have aT:Bw w wr:=btr (am w _) (z.trans (I.mono (by omega))) (by omega);by_cases h9:c.length<=999
       · by_cases h5:26+12 * c.length+A.length<=99999
         · have cb:wr.cell? ⟨w.heap.size,0,Y⟩=X (J di B.toNat):=by rw [I.cell (p:=⟨w.heap.size,0,Y⟩) b2,z.cell (p:=⟨w.heap.size,0,Y⟩) (by simp)];go_simp
           have cc:wr.cell? ⟨w.heap.size,1,Y⟩=X (J di C.toNat):=by rw [I.cell (p:=⟨w.heap.size,1,Y⟩) b2,z.cell (p:=⟨w.heap.size,1,Y⟩) (by simp)];go_simp
           have b5:=Z (ac h9 h5);clear ac P;go_wp2_with (go_at_call 114;((first |(with_reducible refine dn (je _ _ _ _ _ s1) ?_)|(with_reducible refine dn (je _ _ _ _ _ E) ?_));rintro e w' ⟨rfl,rfl⟩))
           go_cut [14] (λt g=>∃l:Bs,t=S l/\Hid (l=jD ⟨B,C,c⟩ (25+D.length+A.length+1) (25+D.length))/\l.length<=24/\Bw wr g)
           case first=>
            have bA:w.heap.size<wr.heap.size:=by omega
            have c4:∀o,(wr.alloc o).cell? ⟨w.heap.size,0,Y⟩=X (J di B.toNat):=λo=>by rw [aV _ _ _ _ bA];exact cb
            have c5:∀o,(wr.alloc o).cell? ⟨w.heap.size,1,Y⟩=X (J di C.toNat):=λo=>by rw [aV _ _ _ _ bA];exact cc
            have bD:True:=trivial;clear s bc s1 E b5
            go_region_with
             (first
              |(go_at_call 113;have _t:=bD;go_must (refine (kI (25+D.length+A.length+1) _ (by omega) _ (by omega)).mono ?_);clear _t bD;rintro e w3 ⟨rfl,m⟩;have a6:=fN m;obtain ⟨cd,cl⟩:=aE m)
              |(go_at_call 113;go_must (refine (kI (25+D.length) _ (by omega) _ (by omega)).mono ?_);rintro e w4 ⟨rfl,n⟩;have a7:=fN n;obtain ⟨cg,cm⟩:=aE n))
            all_goals
             clear a6 a7 cd cl cg cm c4 c5
             go_wp2_with fail
             go_meet
             have cx:=m.size
             have cy:=n.size
             simp only [World.size_drew,World.size_alloc] at cx cy
             refine ⟨_,rfl,by simp [jD,Hid],by simp [cV],?_⟩
             first
              |exact ((aM wr _).drew.trans (m.mono (by first |omega|(simp;omega)|simp))).trans (n.mono (by first |omega|(simp;omega)|simp))
              |exact (((dx _ wr).drew.trans (m.mono (by first |omega|(simp;omega)|simp))).alloc (by first |omega|(simp;omega)|simp) _).trans (n.mono (by first |omega|(simp;omega)|simp))
              |exact (((dx _ wr).drew.trans (m.mono (by first |omega|(simp;omega)|simp))).trans (n.mono (by first |omega|(simp;omega)|simp))).alloc (by first |omega|(simp;omega)|simp) _
           case rest=>
            obtain ⟨ld,rfl,c1,d4,b9⟩:=hcut;have au:=s.below b9;clear s1 E bc
            go_wp2_with (first
             |(go_at_call_of 115 (Value.pointer (X ⟨g.heap.size,0,Y⟩));((with_reducible refine dn (dX (g.heap.size+2) g.heap.size R D _ au.one (by omega)) ?_);rintro e L ⟨rfl,b1⟩;have b3:=Z (au.other (b1.fr g.heap.size));have bY:=Z (au.one.fr (b1.fr g.heap.size) (lo:=g.heap.size) (dp _));clear b1)))
            ((with_reducible refine dn (dX (g.heap.size+2) (g.heap.size+1) T A _ b3.o (by omega)) ?_);rintro e w3 ⟨rfl,bs⟩;have c0:=Z (b3.o.fr (bs.fr (g.heap.size+1)) (lo:=g.heap.size) (by omega));clear bs)
            go_wp2_with fail
            go_ret2;refine ⟨b5.o _ (by rw [c1.o];simp),aT.trans ((b9.mono (by omega)).trans ((bY.o.mono (by omega)).trans (c0.o.mono (by omega))))⟩
         · have H:=Z (P.o (.inr (by omega)));clear ac P;go_wp2_with (go_at_call 114;((first |(with_reducible refine dn (je _ _ _ _ _ s1) ?_)|(with_reducible refine dn (je _ _ _ _ _ E) ?_));rintro e w' ⟨rfl,rfl⟩))
           go_ret2;exact ⟨by rw [H.o];rfl,aT⟩
       · have H:=Z (P.o (.inl (by omega)));clear ac P;go_wp2_with (go_at_call 114;((first |(with_reducible refine dn (je _ _ _ _ _ s1) ?_)|(with_reducible refine dn (je _ _ _ _ _ E) ?_));rintro e w' ⟨rfl,rfl⟩))
         go_ret2;exact ⟨by rw [H.o];rfl,aT⟩
attribute [local go_sem ↓] Go.wp_at_zero Go.wp_at_succ
theorem qL (r:az) (v:Value) (w:dy) (b:eA 0 w.heap.size w v r) (c:bR r.fields):em prog 62 #[v] w (B6 r w):=by
 obtain ⟨x,rfl,a⟩:=b;cases h:(letterB r.kind&&letterB r.level)
 · exact kS r x w h
 · simp only [Bool.and_eq_true] at h;exact m9 r x w a c h.1 h.2
theorem ye (r:az):(bE r).2=wrongR r:=by
 unfold bE;split
 · rename_i h;rw [h]
 · rfl
theorem yG (r:az) (v:Value) (w:dy) (c:eA 0 w.heap.size w v r) (g:bR r.fields):
 em prog 58 #[v] w λe w'=>e=dd (dk (decide (wrongR r=0)))/\Bw w w':=by
 have f:Hid (∀W,Bw w W->em prog 62 #[v] W λe w'=>e=dd (.tuple #[S (bE r).1,J U (wrongR r)])/\Bw W w'):=λW b=>by have:=qL r v W ((c.kept (aX b (dp _))).mono (dp _) b.size) g;rw [<- ye];exact this
 obtain ⟨x,rfl,d⟩:=c;obtain ⟨a,h,rfl⟩:=d.shape;clear d;unfold fY at *;generalize wrongR r=e at *;generalize (bE r).1=s at *;go_enter func58,ntmps58;go_wp2_with (go_at_call 62;((with_reducible refine dn (f.o _ (am _ _)) ?_);rintro e w1 ⟨rfl,b⟩))
 go_ret;exact ⟨an (by rw [Bool.eq_iff_iff];simp),btr (am w _) b (by simp)⟩
theorem Ax (c f d g:UInt8) (a b:List af) (x y:Value) (w:dy) (i:ai 0 w.heap.size w x a) (j:ai 0 w.heap.size w y b) (h:bR a):
 em prog 87 #[.agg #[J di c.toNat,J di f.toNat,x], .agg #[J di d.toNat,J di g.toNat,y]] w λe w'=>e=dd (dk (sameR ⟨c,f,a⟩ ⟨d,g,b⟩))/\Bw w w':=
 Az ⟨c,f,a⟩ ⟨d,g,b⟩ _ _ w ⟨x,rfl,i⟩ ⟨y,rfl,j⟩ h
end
end Go.Proofs.YtjcimanddakkaaaGreatDoor
