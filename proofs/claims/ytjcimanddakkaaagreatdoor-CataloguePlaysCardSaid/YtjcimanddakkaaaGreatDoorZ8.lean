/- Lemmas. -/
import Derived.Test.YtjcimanddakkaaaGreatDoorZ6
import Derived.Test.YtjcimanddakkaaaGreatDoorZ7
set_option maxRecDepth 100000
set_option maxHeartbeats 8000000
namespace Go.Proofs.YtjcimanddakkaaaGreatDoor
open _root_.Option renaming some→X,none→Y
open Go.Value renaming pointer→da,slice→dc,int→J,bool→dn
open Go.Ending renaming returned→di
open Go.IntKind renaming i64→U,u8→dk
open Go.Lib renaming hid→Z
open Tryz
open Go.Calls renaming mono→dr
open _root_.Nat renaming le_refl→ds
open _root_.List renaming take_succ_eq_append_getElem→dx,length→ej,take_length→em,getElem_mem→es
open Go.RowKit.Below renaming refl→dy
open Go renaming World→dz,Calls→ex
open Go.Value renaming slice→eg
section
open Go.RowKit
theorem B4 {r:az} (h:letterB r.kind=true) (c:letterB r.level=true) (d:aJ r.fields=0) (a:bK r.fields=true∨999<r.fields.length∨99999<26+12 * r.fields.length+(dataOf r.fields).length):aV r=([],2):=by
 have b:wrongR r=2:=by
  rw [ot r h c d,if_pos];rw [gY];simp only [Bool.or_eq_true,decide_eq_true_eq];rcases a with a|a|a
  · exact .inl (.inl a)
  · exact .inl (.inr a)
  · exact .inr a
 unfold aV;rw [if_neg (by rw [b];decide),b]
theorem B5 {r:az} (h:letterB r.kind=true) (a:letterB r.level=true) (b:aJ r.fields=0) (d:bK r.fields=false) (e:r.fields.length<=999) (f:26+12 * r.fields.length+(dataOf r.fields).length<=99999):aV r=(fJ r,0):=by
 have c:wrongR r=0:=by rw [ot r h a b,if_neg];rw [gY,d];simp only [Bool.false_or,Bool.or_eq_true,decide_eq_true_eq];omega
 unfold aV;rw [if_pos c]
theorem A8 {a:List af} {k:Nat} (b:k<a.length) (h:9999<(fieldBytes a[k]).length):bK a=true:=by
 unfold bK;rw [List.any_eq_true];exact ⟨a[k],es b,by simpa using h⟩
theorem xA {a:List af} {k:Nat} (b:k<a.length) (h:bK (a.take k)=false) (c:(fieldBytes a[k]).length<=9999):bK (a.take (k+1))=false:=by
 unfold bK at *;rw [dx b,List.any_append,h];simp;omega
structure Two (x:Nat) (g1 g2:Option Nat) (D A:Bs) (w:dz):Prop where
 one:Bld (x+2) x g1 D w
 two:Bld (x+2) (x+1) g2 A w
 ne:∀j,g1=some j->g2=some j->False
theorem Two.below {x:Nat} {a c:Option Nat} {D A:Bs} {w w':dz} (h:Two x a c D A w) (b:Bw w w'):Two x a c D A w':=⟨h.one.below b,h.two.below b,h.ne⟩
theorem Two.fst {x:Nat} {c f a:Option Nat} {D A d:Bs} {w w':dz} (h:Two x c f D A w) (m:Bld (x+2) x a d w') (n:a=c∨∃k,a=X k/\w.heap.size<=k) (l:Fr x c w w'):Two x a f d A w':=
 ⟨m,h.two.keep (l.block _ h.two.old (by omega) (λe=>by have:=(h.one.row _ e.symm).1;omega)) (λk b=>l.block k (h.two.row k b).2 (by have:=(h.two.row k b).1;omega) (λe=>h.ne k e.symm b)),
  λj g i=>by
   rcases n with rfl|⟨k,rfl,b⟩
   · exact h.ne j g i
   · have:=(h.two.row j i).2;injection g;omega⟩
theorem Two.snd {x:Nat} {f c a:Option Nat} {D A d:Bs} {w w':dz} (h:Two x f c D A w) (m:Bld (x+2) (x+1) a d w') (n:a=c∨∃k,a=X k/\w.heap.size<=k) (l:Fr (x+1) c w w'):Two x f a D d w':=
 ⟨h.one.keep (l.block _ h.one.old (by omega) (λe=>by have:=(h.two.row _ e.symm).1;omega)) (λk b=>l.block k (h.one.row k b).2 (by have:=(h.one.row k b).1;omega) (λe=>h.ne k b e.symm)),m,
  λj g i=>by
   rcases n with rfl|⟨k,rfl,b⟩
   · exact h.ne j g i
   · have:=(h.one.row j g).2;injection i;omega⟩
theorem Two.size {x:Nat} {a b:Option Nat} {D A:Bs} {w:dz} (h:Two x a b D A w):x+2<=w.heap.size:=h.two.old
theorem zq (w:dz):Two w.heap.size Y Y [] [] ((w.alloc (Obj.cells #[da Y,dc Y 0 0] 187)).alloc (Obj.cells #[da Y,dc Y 0 0] 187)):=by
 have a:=iq w w.heap.size (w.heap.size+2) rfl (by omega);exact ⟨a.alloc _,iq _ (w.heap.size+1) (w.heap.size+2) (by simp) (by omega),λ_ h=>by cases h⟩
theorem Bld.slot {B b:Nat} {g:Option Nat} {l:Bs} {w:dz} (h:Bld B b g l w):∃a c,w.cell? ⟨b,1,Y⟩=X (dc a l.length c):=by
 obtain ⟨i,p,v,d,k,e,f,j⟩:=h;obtain ⟨a,c,rfl⟩:=bM e;exact ⟨a,c,by rw [Lib.cell_of_heap d];rfl⟩
theorem yk (b:Nat) (a:Option Addr) (n c:Nat) (w:dz) (c1:w.cell? ⟨b,1,Y⟩=X (dc a n c)):ex prog 114 #[da (X ⟨b,0,Y⟩)] w λe w'=>e=di (J U n)/\w'=w:=by
 go_enter func114,ntmps114;go_wp2_with fail
 go_ret;exact ⟨rfl,rfl⟩
attribute [local go_sem ↓] Go.wp_at_zero Go.wp_at_succ
theorem BL {r:az} (h:(letterB r.kind&&letterB r.level)=false):aV r=([],12):=by
 have a:=ng r h;unfold aV;rw [if_neg (by rw [a];decide),a]
theorem kH (r:az) (x:Value) (w:dz) (h:(letterB r.kind&&letterB r.level)=false):
 ex prog 62 #[recV r x] w λe w'=>e=di (.tuple #[S (aV r).1,J U (aV r).2])/\Bw w w':=by
 have a:=Z (BL h);rw [a.o];obtain ⟨b,c,d⟩:=r;simp only at h;unfold recV;cases hk:letterB b
 · go_enter func62,ntmps62;go_wp2_with (go_at_call 109;refine (jO _ _).mono ?_;rintro e w' ⟨rfl,rfl⟩)
   go_ret2;exact ⟨rfl,ak _ _⟩
 · have f:letterB c=false:=by simpa [hk] using h
   clear h;go_enter func62,ntmps62;go_wp2_with (go_at_call 109;refine (jO _ _).mono ?_;rintro e w' ⟨rfl,rfl⟩)
   go_ret2;exact ⟨rfl,ak _ _⟩
theorem rV (n:Nat) (w:dz) (a:n<100000000000):
 ex prog 113 #[J U n,J U 4] w λe w'=>e=di (S (fixedN 4 n))/\Bw w w':=tY n w (by omega) (by omega)
theorem kr (n:Nat) (w:dz) (a:n<100000000000):
 ex prog 113 #[J U n,J U 5] w λe w'=>e=di (S (fixedN 5 n))/\Bw w w':=tX n w (by omega) (by omega)
theorem kp (n:Nat) (v:Int) (b:v=n) (w:dz) (a:n<100000000000):
 ex prog 113 #[J U v,J U 5] w λe w'=>e=di (S (fixedN 5 n))/\Bw w w':=by subst b;exact kr n w a
theorem iO (b:Nat) (a:Option Addr) (n c:Nat) (w:dz) (c1:w.cell? ⟨b,1,Y⟩=X (dc a n c)):ex prog 114 #[da (X ⟨b,0,Y⟩)] w λe w'=>e=di (J U n)/\w=w':=
 (yk b a n c w c1).mono λ_ _ ⟨h,e⟩=>⟨h,e.symm⟩
theorem Two.other {x:Nat} {b c:Option Nat} {D A:Bs} {w w':dz} (h:Two x b c D A w) (d:Fr x b w w'):Bld (x+2) (x+1) c A w':=
 h.two.keep (d.block _ h.two.old (by omega) (λe=>by have:=(h.one.row _ e.symm).1;omega)) (λk a=>d.block k (h.two.row k a).2 (by have:=(h.two.row k a).1;omega) (λe=>h.ne k e.symm a))
def A5 (r:az) (w:dz) (e:Ending) (w':dz):Prop:=e=di (.tuple #[S (aV r).1,J U (aV r).2])/\Bw w w'
theorem vk {r:az} (h:letterB r.kind=true) (c:letterB r.level=true) (a:aJ r.fields≠0):aV r=([],aJ r.fields):=by
 have b:=qm r h c a;unfold aV;rw [if_neg (by rw [b];exact a),b]
theorem mM (r:az) (x:Value) (w:dz) (hs:ai 0 w.heap.size w x r.fields) (bw:bI r.fields) (h:letterB r.kind=true) (h2:letterB r.level=true):
 ex prog 62 #[recV r x] w (A5 r w):=by
 have HF:=Z (vk h h2);have H2:=Z (B4 h h2);have H0:=Z (B5 h h2);obtain ⟨B,C,c⟩:=r;simp only at h h2 hs bw HF H2 H0;have HS:=Z hs;obtain ⟨a,Q,rfl⟩:=hs.shape;obtain ⟨hn,bA⟩:=bw;have b7:=Z bA;clear hs bA;unfold recV;go_enter func62,ntmps62;go_wp2_with (go_at_call 109;refine (jO _ _).mono ?_;rintro e w' ⟨rfl,rfl⟩)
 go_loopw [28] (λi wr=>∃(k:Nat),k<=c.length/\i=J U k/\Hid (aJ (c.take k)=0)/\
  Below (w.heap.size+1) (w.alloc (Obj.cells #[J dk B.toNat,J dk C.toNat,eg a c.length Q] 62)) wr) (λi _=>c.length - (intOf i).toNat)
 case atStart=>exact ⟨0,Nat.zero_le _,rfl,rfl,dy _ _⟩
 case round=>
  obtain ⟨k,hk,rfl,q,z⟩:=hrel;have bb:wr.cell? ⟨w.heap.size,2,Y⟩=X (eg a c.length Q):=by rw [z.cell (p:=⟨w.heap.size,2,Y⟩) (by simp)];go_simp
  have b2:w.heap.size<wr.heap.size:=bh bb;by_cases hlt:k<c.length
  · have a5:ai 0 w.heap.size wr (eg a c.length Q) c:=(HS.o.kept (aP (ak w _) (ds _))).kept (aP z (by omega));obtain ⟨b,d0,ca,d,hv,_,_,cv,cx,cy,cz,K⟩:=a5.field k hlt;cases hv;obtain ⟨u,v,rfl⟩:∃u v,d= .slice u c[k].subs.length v:=by obtain ⟨x1,x2,x3,_⟩:=K;exact ⟨x1,x2,x3⟩
    have O:=es hlt;have a4:(fieldBytes c[k]).length<=1000000:=b7 _ O;have b0:=Nat.le_trans (cA c[k]) a4;have a8:Hid (∀W,Bw wr W->aB 0 W.heap.size W (.slice u c[k].subs.length v) c[k].subs):=λW y=>(K.kept (aP y (by omega))).mono (ds _) (by have:=y.size;omega);have ad:Hid (∀W,Bw wr W->ex prog 110 #[fieldV c[k] (.slice u c[k].subs.length v)] W λe w'=>e=di (J U (wrongF c[k]))/\Bw W w'):=λW y=>xn _ _ W (a8 W y) a4 b0;have ao:=Z (fe c k hlt q.o);have av:=Z (gl c k hlt q.o);clear a5 O K;unfold fieldV at ad;generalize c[k]=f at *;by_cases hw:wrongF f=0
    · rw [hw] at ad;have HN:=Z (av hw);clear av ao;go_wp2_with (go_at_call 110;((with_reducible refine dr (ad.o _ (ak _ _)) ?_);rintro e w1 ⟨rfl,V⟩))
      go_roundw
      case rel=>exact ⟨k+1,by omega,by go_num,HN,(z.alloc (by omega) _).trans (V.mono (by simp;omega))⟩
      case measure=>simp [intOf];omega
    · have H:Hid (aV ⟨B,C,c⟩=([],wrongF f)):=by have hx:=ao.o;rw [if_neg hw] at hx;have:=HF.o (by rw [hx];exact hw);rw [hx] at this;exact this
      clear av ao;generalize wrongF f=er at *;go_wp2_with (go_at_call 110;((with_reducible refine dr (ad.o _ (ak _ _)) ?_);rintro e w1 ⟨rfl,V⟩))
      go_ret2;refine ⟨by rw [H.o];rfl,btr (ak w _) ((z.alloc (by omega) _).trans (V.mono (by simp;omega))) (by omega)⟩
  · have al:Hid (aJ c=0):=by have:=q.o;rw [List.take_of_length_le (by omega)] at this;exact this
    generalize wr=g at *;have HT:=Z (zq g);clear q HF;go_wp2_with fail
    go_loopw [41] (λi wq=>∃(k:Nat) (D A:Bs) (R T:Option Nat),k<=c.length/\i=J U k/\Hid (D=ce 0 (c.take k))/\Hid (A=dataOf (c.take k))/\D.length=12 * k/\A.length<=9999 * k/\Hid (bK (c.take k)=false)/\
     Hid (Two g.heap.size R T D A wq)/\Bw g wq) (λi _=>c.length - (intOf i).toNat)
    case atStart=>exact ⟨0,[],[],Y,Y,Nat.zero_le _,rfl,rfl,rfl,rfl,by simp,rfl,HT,((dy _ g).alloc (ds _) _).alloc (by simp) _⟩
    case round=>
     obtain ⟨j,D,A,R,T,hj,rfl,HD,q,cp,d2,ax,s,I⟩:=hrel;have d8:=s.size;by_cases hlj:j<c.length
     · have a5:ai 0 w.heap.size wr (eg a c.length Q) c:=((HS.o.kept (aP (ak w _) (ds _))).kept (aP z (by omega))).kept (aP I (by omega));obtain ⟨b,d0,ca,d,hv,_,_,cv,cx,cy,cz,K⟩:=a5.field j hlj;cases hv;obtain ⟨u,v,rfl⟩:∃u v,d= .slice u c[j].subs.length v:=by obtain ⟨x1,x2,x3,_⟩:=K;exact ⟨x1,x2,x3⟩
       have O:=es hlj;have a4:(fieldBytes c[j]).length<=1000000:=b7 _ O;have b0:=Nat.le_trans (cA c[j]) a4;have a8:Hid (∀W,Bw wr W->aB 0 W.heap.size W (.slice u c[j].subs.length v) c[j].subs):=λW y=>(K.kept (aP y (by omega))).mono (ds _) (by have:=y.size;omega);have aS:Hid (∀W,Bw wr W->ex prog 111 #[fieldV c[j] (.slice u c[j].subs.length v)] W λe w'=>e=di (S (fieldBytes c[j]))/\Bw W w'):=λW y=>yZ _ _ W (a8 W y) a4 b0;have HG:Hid (c[j].tag.length=3):=eK (iE (eo al.o _ O));have d6:c[j].tag.length<=3:=by rw [HG.o];exact ds 3
       have ay:=Z (λh=>H2 al.o (.inl (A8 hlj h)));have aC:=Z (xA hlj ax.o);have HT:Hid (D++(c[j].tag++fixedN 4 (fieldBytes c[j]).length++fixedN 5 A.length)=ce 0 (c.take (j+1))):=by rw [dx hlj,ju,HD.o,q.o];simp [Hid]
       have M:Hid (A++fieldBytes c[j]=dataOf (c.take (j+1))):=by rw [dx hlj,kC,q.o];rfl
       clear a5 O K;unfold fieldV at aS;generalize c[j]=f at *;by_cases hF:(fieldBytes f).length<=9999
       · have c6:=Z (aC hF);clear aC ay;generalize fieldBytes f=F at *;generalize f.tag=G at *;generalize f.ind=Gi at *;generalize f.data=Gd at *;generalize f.subs.length=gn at *;clear a8;go_wp2_with (go_at_call 111;((with_reducible refine dr (aS.o _ (ak _ _)) ?_);rintro e L ⟨rfl,a0⟩;have bO:L.cell? ⟨wr.heap.size,0,Y⟩=X (S G):=(by rw [a0.cell (p:=⟨wr.heap.size,0,Y⟩) (by simp)];go_simp)))
         obtain ⟨a2,n2,E⟩:=(s.o.below ((aL wr _).trans (a0.mono (by simp)))).two.slot;have c5:Hid (Two g.heap.size R T D A L):=s.o.below (btr (aL wr _) a0 (by simp));have d5:D.length<=12000000:=by omega
         have d1:A.length<=9999000000:=by omega
         have q1:¬9223372036854775807<ej G+4:=by omega
         have q2:¬9223372036854775807<ej G+4+5:=by omega
         have q3:¬9223372036854775807<ej G+(4+5):=by omega
         have d9:wr.heap.size<L.heap.size:=by have:=a0.size;simp at this;exact this
         go_region_held3 (λw'=>w'.cell? ⟨wr.heap.size,0,Y⟩=X (S G)/\w'.cell? ⟨g.heap.size+1,1,Y⟩=X (dc a2 A.length n2)) (go_keep)
          (first
           |(go_at_call_of 113 (Value.int IntKind.i64 ↑(ej F));((with_reducible refine dr (rV F.length _ (by omega)) ?_);rintro e w3 ⟨rfl,m⟩;have a6:=ep m))
           |(go_at_call 114;have s3:w3.cell? ⟨g.heap.size+1,1,Y⟩=X (dc a2 A.length n2):=a6 _ _ E;((with_reducible refine dr (iO _ _ _ _ _ s3) ?_);rintro e dd ⟨rfl,rfl⟩))
           |(go_at_call_of 113 (Value.int IntKind.i64 ↑(ej A));((with_reducible refine dr (kr A.length _ (by omega)) ?_);rintro e w4 ⟨rfl,n⟩;have a7:=ep n))
           |(go_at_call 112;have N:=((c5.o.below (dy _ L).drew).below m).below n;((with_reducible refine dr (dI (g.heap.size+2) g.heap.size R D (G++(fixedN 4 F.length++fixedN 5 A.length)) _ N.one N.size (by simp [bE];omega)) ?_);rintro e w5 ⟨rfl,cb,b8,bs,a3⟩;have k5:w5.cell? ⟨wr.heap.size,0,Y⟩=X (S G):=(by rw [a3.cell (by have:=n.size;have:=m.size;simp at *;omega) (by omega) (λe=>by have:=(s.o.one.row _ e.symm).2;omega)];exact a7 _ _ (a6 _ _ bO));have k6:w5.cell? ⟨g.heap.size+1,1,Y⟩=X (dc a2 A.length n2):=(by rw [a3.cell (by have:=N.size;omega) (by omega) (λe=>by have:=(s.o.one.row _ e.symm).1;omega)];exact a7 _ _ s3);have a9:=Z (N.fst b8 bs a3);have c1:=Z (N.one.fr a3 (lo:=g.heap.size) (ds _));clear N b8 bs a3)))
         have c0:Hid (Bw g w5):=by have z4:=n.size;have z3:L.heap.size<=w3.heap.size:=m.size;exact (((I.trans ((aL wr _).mono (by omega))).trans (a0.mono (by simp;omega))).trans ((dy g.heap.size L).drew.trans ((m.mono (by simp;omega)).trans (n.mono (by omega))))).trans c1.o
         clear a6 a7 E s3 m n bO k5 k6;go_wp2_with (go_at_call 112;((with_reducible refine dr (dI (g.heap.size+2) (g.heap.size+1) T A F _ a9.o.two a9.o.size (by omega)) ?_);rintro e w6 ⟨rfl,cc,cd,cu,bk⟩))
         go_roundw
         case rel=>
          refine ⟨j+1,D++(G++fixedN 4 F.length++fixedN 5 A.length),A++F,cb,cc,by omega,by go_num,HT,M,?_,by simp;omega,c6,?_,c0.o.trans (a9.o.two.fr bk (by omega))⟩
          · have:=HG.o;simp [bE];omega
          · have:=a9.snd cd cu bk;simpa [Hid] using this
         case measure=>simp [intOf];omega
       · have H:=Z (ay.o (by omega));clear aC ay;generalize fieldBytes f=F at *;go_wp2_with (go_at_call 111;((with_reducible refine dr (aS.o _ (ak _ _)) ?_);rintro e w1 ⟨rfl,V⟩))
         go_ret2;refine ⟨by rw [H.o];rfl,btr (ak w _) (z.trans (((I.mono (by omega)).alloc (by omega) _).trans (V.mono (by simp;omega)))) (by omega)⟩
     · obtain rfl:j=c.length:=by omega
       have b4:Hid (D=ce 0 c):=by have:=HD.o;rwa [em] at this
       have M:Hid (A=dataOf c):=by have:=q.o;rwa [em] at this
       have b6:Hid (bK c=false):=by have:=ax.o;rwa [em] at this
       clear HD q ax hlj hj;have d3:D.length<=12 * c.length:=by omega
       have d4:12 * c.length<=D.length:=by omega
       have P:Hid (999<c.length∨99999<26+12 * c.length+A.length->aV ⟨B,C,c⟩=([],2)):=λh=>H2.o al.o (.inr (by rw [<- M.o];exact h));have ac:Hid (c.length<=999->26+12 * c.length+A.length<=99999->∀l:Bs,l=fu ⟨B,C,c⟩ (25+D.length+A.length+1) (25+D.length)++D++[30]++A++[29]->Ending.returned (.tuple #[S l,J U 0])=di (.tuple #[S (aV ⟨B,C,c⟩).1,J U (aV ⟨B,C,c⟩).2])):=by intro h9 h5 l hl;have:=H0.o al.o b6.o h9 (by rw [<- M.o];exact h5);rw [this,hl,b4.o,M.o];rfl
       clear b4 M b6 H2 H0 cp;obtain ⟨a1,n1,s1⟩:=s.one.slot;obtain ⟨a2,n2,E⟩:=s.two.slot;have bc:wr.cell? ⟨w.heap.size,2,Y⟩=X (eg a c.length Q):=by rw [I.cell (p:=⟨w.heap.size,2,Y⟩) b2];exact bb
       have aT:Bw w wr:=btr (ak w _) (z.trans (I.mono (by omega))) (by omega);by_cases h9:c.length<=999
       · by_cases h5:26+12 * c.length+A.length<=99999
         · have cg:wr.cell? ⟨w.heap.size,0,Y⟩=X (J dk B.toNat):=by rw [I.cell (p:=⟨w.heap.size,0,Y⟩) b2,z.cell (p:=⟨w.heap.size,0,Y⟩) (by simp)];go_simp
           have ch:wr.cell? ⟨w.heap.size,1,Y⟩=X (J dk C.toNat):=by rw [I.cell (p:=⟨w.heap.size,1,Y⟩) b2,z.cell (p:=⟨w.heap.size,1,Y⟩) (by simp)];go_simp
           have b5:=Z (ac h9 h5);clear ac P;go_wp2_with (go_at_call 114;((first |(with_reducible refine dr (iO _ _ _ _ _ s1) ?_)|(with_reducible refine dr (iO _ _ _ _ _ E) ?_));rintro e w' ⟨rfl,rfl⟩))
           go_cut [14] (λt g=>∃l:Bs,t=S l/\Hid (l=fu ⟨B,C,c⟩ (25+D.length+A.length+1) (25+D.length))/\l.length<=24/\Bw wr g)
           case first=>
            have bB:w.heap.size<wr.heap.size:=by omega
            have c7:∀o,(wr.alloc o).cell? ⟨w.heap.size,0,Y⟩=X (J dk B.toNat):=λo=>by rw [aM _ _ _ _ bB];exact cg
            have c9:∀o,(wr.alloc o).cell? ⟨w.heap.size,1,Y⟩=X (J dk C.toNat):=λo=>by rw [aM _ _ _ _ bB];exact ch
            have bY:True:=trivial;clear s bc s1 E b5
            go_region_with
             (first
              |(go_at_call 113;have _t:=bY;go_must (refine (kp (25+D.length+A.length+1) _ (by omega) _ (by omega)).mono ?_);clear _t bY;rintro e w3 ⟨rfl,m⟩;have a6:=ep m;obtain ⟨cl,cq⟩:=ar m)
              |(go_at_call 113;go_must (refine (kp (25+D.length) _ (by omega) _ (by omega)).mono ?_);rintro e w4 ⟨rfl,n⟩;have a7:=ep n;obtain ⟨cm,cs⟩:=ar n))
            all_goals
             clear a6 a7 cl cq cm cs c7 c9
             go_wp2_with fail
             go_meet
             have cP:=m.size
             have cQ:=n.size
             simp only [World.size_drew,World.size_alloc] at cP cQ
             refine ⟨_,rfl,by simp [fu,Hid],by simp [bE],?_⟩
             first
              |exact ((aL wr _).drew.trans (m.mono (by first |omega|(simp;omega)|simp))).trans (n.mono (by first |omega|(simp;omega)|simp))
              |exact (((dy _ wr).drew.trans (m.mono (by first |omega|(simp;omega)|simp))).alloc (by first |omega|(simp;omega)|simp) _).trans (n.mono (by first |omega|(simp;omega)|simp))
              |exact (((dy _ wr).drew.trans (m.mono (by first |omega|(simp;omega)|simp))).trans (n.mono (by first |omega|(simp;omega)|simp))).alloc (by first |omega|(simp;omega)|simp) _
           case rest=>
            obtain ⟨ld,rfl,c4,d7,b9⟩:=hcut;have au:=s.below b9;clear s1 E bc
            go_wp2_with (first
             |(go_at_call_of 115 (Value.pointer (X ⟨g.heap.size,0,Y⟩));((with_reducible refine dr (dX (g.heap.size+2) g.heap.size R D _ au.one (by omega)) ?_);rintro e L ⟨rfl,b1⟩;have b3:=Z (au.other (b1.fr g.heap.size));have c2:=Z (au.one.fr (b1.fr g.heap.size) (lo:=g.heap.size) (ds _));clear b1)))
            ((with_reducible refine dr (dX (g.heap.size+2) (g.heap.size+1) T A _ b3.o (by omega)) ?_);rintro e w3 ⟨rfl,bt⟩;have c3:=Z (b3.o.fr (bt.fr (g.heap.size+1)) (lo:=g.heap.size) (by omega));clear bt)
            go_wp2_with fail
            go_ret2;refine ⟨b5.o _ (by rw [c4.o];simp),aT.trans ((b9.mono (by omega)).trans ((c2.o.mono (by omega)).trans (c3.o.mono (by omega))))⟩
         · have H:=Z (P.o (.inr (by omega)));clear ac P;go_wp2_with (go_at_call 114;((first |(with_reducible refine dr (iO _ _ _ _ _ s1) ?_)|(with_reducible refine dr (iO _ _ _ _ _ E) ?_));rintro e w' ⟨rfl,rfl⟩))
           go_ret2;exact ⟨by rw [H.o];rfl,aT⟩
       · have H:=Z (P.o (.inl (by omega)));clear ac P;go_wp2_with (go_at_call 114;((first |(with_reducible refine dr (iO _ _ _ _ _ s1) ?_)|(with_reducible refine dr (iO _ _ _ _ _ E) ?_));rintro e w' ⟨rfl,rfl⟩))
         go_ret2;exact ⟨by rw [H.o];rfl,aT⟩
attribute [local go_sem ↓] Go.wp_at_zero Go.wp_at_succ
theorem qj (r:az) (v:Value) (w:dz) (b:dH 0 w.heap.size w v r) (c:bI r.fields):ex prog 62 #[v] w (A5 r w):=by
 obtain ⟨x,rfl,a⟩:=b;cases h:(letterB r.kind&&letterB r.level)
 · exact kH r x w h
 · simp only [Bool.and_eq_true] at h;exact mM r x w a c h.1 h.2
theorem xp (r:az):(aV r).2=wrongR r:=by
 unfold aV;split
 · rename_i h;rw [h]
 · rfl
theorem xS (r:az) (v:Value) (w:dz) (c:dH 0 w.heap.size w v r) (g:bI r.fields):
 ex prog 58 #[v] w λe w'=>e=di (dn (decide (wrongR r=0)))/\Bw w w':=by
 have f:Hid (∀W,Bw w W->ex prog 62 #[v] W λe w'=>e=di (.tuple #[S (aV r).1,J U (wrongR r)])/\Bw W w'):=λW b=>by have:=qj r v W ((c.kept (aP b (ds _))).mono (ds _) b.size) g;rw [<- xp];exact this
 obtain ⟨x,rfl,d⟩:=c;obtain ⟨a,h,rfl⟩:=d.shape;clear d;unfold recV at *;generalize wrongR r=e at *;generalize (aV r).1=s at *;go_enter func58,ntmps58;go_wp2_with (go_at_call 62;((with_reducible refine dr (f.o _ (ak _ _)) ?_);rintro e w1 ⟨rfl,b⟩))
 go_ret;exact ⟨ap (by rw [Bool.eq_iff_iff];simp),btr (ak w _) b (by simp)⟩
theorem zy (c f d g:UInt8) (a b:List af) (x y:Value) (w:dz) (i:ai 0 w.heap.size w x a) (j:ai 0 w.heap.size w y b) (h:bI a):
 ex prog 87 #[.agg #[J dk c.toNat,J dk f.toNat,x], .agg #[J dk d.toNat,J dk g.toNat,y]] w λe w'=>e=di (dn (sameR ⟨c,f,a⟩ ⟨d,g,b⟩))/\Bw w w':=
 zB ⟨c,f,a⟩ ⟨d,g,b⟩ _ _ w ⟨x,rfl,i⟩ ⟨y,rfl,j⟩ h
end
end Go.Proofs.YtjcimanddakkaaaGreatDoor
