/- Lemmas. -/
import Derived.Test.YtjcimanddakkaaaGreatDoorCQ10
import Derived.Test.YtjcimanddakkaaaGreatDoorCQ11
set_option maxRecDepth 100000
set_option maxHeartbeats 8000000
namespace Go.Proofs.YtjcimanddakkaaaGreatDoor
open _root_.Option renaming some→X,none→Y
open Go.Value renaming pointer→da,slice→dc,int→J,bool→ds
open Go.Ending renaming returned→dd
open Go.IntKind renaming i64→U,u8→dk
open Go.Lib renaming hid→Z
open Tryz
open Go.Calls renaming mono→dx
open _root_.Nat renaming le_refl→dy
open _root_.List renaming take_succ_eq_append_getElem→dz,length→es,take_length→ex,getElem_mem→eQ
open Go.RowKit.Below renaming refl→eg
open Go renaming World→ej,Calls→e0
open Go.Value renaming slice→em
section
open Go.RowKit
theorem CW{r:aA}(h:letterB r.kind=true)(c:letterB r.level=true)(d:aO r.fields=0)(a:bP r.fields=true∨999<r.fields.length∨99999<26+12*r.fields.length+(db r.fields).length):cD r=([],2):=by
 have b:wrongR r=2:=by
  rw[oT r h c d,if_pos];rw[jZ];simp only[Bool.or_eq_true,decide_eq_true_eq];rcases a with a|a|a
  .exact .inl (.inl a)
  .exact .inl (.inr a)
  exact .inr a
 unfold cD;rw[if_neg (by rw[b];decide),b]
theorem CX{r:aA}(h:letterB r.kind=true)(a:letterB r.level=true)(b:aO r.fields=0)(d:bP r.fields=false)(e:r.fields.length<=999)(f:26+12*r.fields.length+(db r.fields).length<=99999):cD r=(xW r,0):=by
 have c:wrongR r=0:=by rw[oT r h a b,if_neg];rw[jZ,d];simp only[Bool.false_or,Bool.or_eq_true,decide_eq_true_eq];omega
 unfold cD;rw[if_pos c]
theorem B7{a:List af}{k:Nat}(b:k<a.length)(h:9999<(fieldBytes a[k]).length):bP a=true:=by
 unfold bP;rw[List.any_eq_true];exact⟨a[k],eQ b,by simpa using h⟩
theorem ye{a:List af}{k:Nat}(b:k<a.length)(h:bP (a.take k)=false)(c:(fieldBytes a[k]).length<=9999):bP (a.take (k+1))=false:=by
 unfold bP at*;rw[dz b,List.any_append,h];simp;omega
structure Two(x:Nat)(g1 g2:Option Nat)(D A:Bs)(w:ej):Prop where
 one:Bld (x+2) x g1 D w
 two:Bld (x+2) (x+1) g2 A w
 ne:∀j,g1=some j->g2=some j->False
theorem Two.below{x:Nat}{a c:Option Nat}{D A:Bs}{w w':ej}(h:Two x a c D A w)(b:Bw w w'):Two x a c D A w':=⟨h.one.below b,h.two.below b,h.ne⟩
theorem Two.fst{x:Nat}{c f a:Option Nat}{D A d:Bs}{w w':ej}(h:Two x c f D A w)(m:Bld (x+2) x a d w')(n:a=c∨∃k,a=X k/\w.heap.size<=k)(l:Fr x c w w'):Two x a f d A w':=
 ⟨m,h.two.keep (l.block _ h.two.old (by omega) (λe=>by have:=(h.one.row _ e.symm).1;omega)) (λk b=>l.block k (h.two.row k b).2 (by have:=(h.two.row k b).1;omega) (λe=>h.ne k e.symm b)),
  λj g i=>by
   rcases n with rfl|⟨k,rfl,b⟩
   .exact h.ne j g i
   .have:=(h.two.row j i).2;injection g;omega⟩
theorem Two.snd{x:Nat}{f c a:Option Nat}{D A d:Bs}{w w':ej}(h:Two x f c D A w)(m:Bld (x+2) (x+1) a d w')(n:a=c∨∃k,a=X k/\w.heap.size<=k)(l:Fr (x+1) c w w'):Two x f a D d w':=
 ⟨h.one.keep (l.block _ h.one.old (by omega) (λe=>by have:=(h.two.row _ e.symm).1;omega)) (λk b=>l.block k (h.one.row k b).2 (by have:=(h.one.row k b).1;omega) (λe=>h.ne k b e.symm)),m,
  λj g i=>by
   rcases n with rfl|⟨k,rfl,b⟩
   .exact h.ne j g i
   .have:=(h.one.row j g).2;injection i;omega⟩
theorem Two.size{x:Nat}{a b:Option Nat}{D A:Bs}{w:ej}(h:Two x a b D A w):x+2<=w.heap.size:=h.two.old
theorem Ad(w:ej):Two w.heap.size Y Y [] [] ((w.alloc (Obj.cells #[da Y,dc Y 0 0] 187)).alloc (Obj.cells #[da Y,dc Y 0 0] 187)):=by
 have a:=lF w w.heap.size (w.heap.size+2) rfl (by omega);exact⟨a.alloc _,lF _ (w.heap.size+1) (w.heap.size+2) (by simp) (by omega),λ_ h=>by cases h⟩
theorem Bld.slot{B b:Nat}{g:Option Nat}{l:Bs}{w:ej}(h:Bld B b g l w):∃a c,w.cell? ⟨b,1,Y⟩=X (dc a l.length c):=by
 obtain⟨i,p,v,d,j,e,f,hn⟩:=h;obtain⟨a,c,rfl⟩:=aG e;exact⟨a,c,by rw[Lib.cell_of_heap d];rfl⟩
theorem yX(b:Nat)(a:Option Addr)(n c:Nat)(w:ej)(c1:w.cell? ⟨b,1,Y⟩=X (dc a n c)):e0 prog 114 #[da (X ⟨b,0,Y⟩)] w λe w'=>e=dd (J U n)/\w'=w:=by
 go_enter func114,ntmps114;go_wp2_with fail;go_ret;exact⟨rfl,rfl⟩
attribute [local go_sem ↓] Go.wp_at_zero Go.wp_at_succ
theorem CI{r:aA}(h:(letterB r.kind&&letterB r.level)=false):cD r=([],12):=by
 have a:=nI r h;unfold cD;rw[if_neg (by rw[a];decide),a]
theorem kZ(r:aA)(x:Value)(w:ej)(h:(letterB r.kind&&letterB r.level)=false):
 e0 prog 62 #[ep r x] w λe w'=>e=dd (.tuple #[S (cD r).1,J U (cD r).2])/\Bw w w':=by
 have a:=Z (CI h);rw[a.o];obtain⟨b,c,d⟩:=r;simp only at h;unfold ep;cases hk:letterB b
 .go_enter func62,ntmps62;go_wp2_with (go_at_call 109;refine(j9 _ _).mono ?_;rintro e w'⟨rfl,rfl⟩)
  go_ret2;exact⟨rfl,ap _ _⟩
 have f:letterB c=false:=by simpa[hk]using h
 clear h;go_enter func62,ntmps62;go_wp2_with (go_at_call 109;refine(j9 _ _).mono ?_;rintro e w'⟨rfl,rfl⟩)
 go_ret2;exact⟨rfl,ap _ _⟩
theorem sd(n:Nat)(w:ej)(hn:n<100000000000):
 e0 prog 113 #[J U n,J U 4] w λe w'=>e=dd (S (fixedN 4 n))/\Bw w w':=uw n w (by omega) (by omega)
theorem kP(n:Nat)(w:ej)(hn:n<100000000000):
 e0 prog 113 #[J U n,J U 5] w λe w'=>e=dd (S (fixedN 5 n))/\Bw w w':=uv n w (by omega) (by omega)
theorem kO(n:Nat)(v:Int)(a:v=n)(w:ej)(hn:n<100000000000):
 e0 prog 113 #[J U v,J U 5] w λe w'=>e=dd (S (fixedN 5 n))/\Bw w w':=by subst a;exact kP n w hn
theorem iX(b:Nat)(a:Option Addr)(n c:Nat)(w:ej)(c1:w.cell? ⟨b,1,Y⟩=X (dc a n c)):e0 prog 114 #[da (X ⟨b,0,Y⟩)] w λe w'=>e=dd (J U n)/\w=w':=
 (yX b a n c w c1).mono λ_ _⟨h,e⟩=>⟨h,e.symm⟩
theorem Two.other{x:Nat}{b c:Option Nat}{D A:Bs}{w w':ej}(h:Two x b c D A w)(d:Fr x b w w'):Bld (x+2) (x+1) c A w':=
 h.two.keep (d.block _ h.two.old (by omega) (λe=>by have:=(h.one.row _ e.symm).1;omega)) (λk a=>d.block k (h.two.row k a).2 (by have:=(h.two.row k a).1;omega) (λe=>h.ne k e.symm a))
def B4(r:aA)(w:ej)(e:Ending)(w':ej):Prop:=e=dd (.tuple #[S (cD r).1,J U (cD r).2])/\Bw w w'
theorem vO{r:aA}(h:letterB r.kind=true)(c:letterB r.level=true)(a:aO r.fields≠0):cD r=([],aO r.fields):=by
 have b:=qK r h c a;unfold cD;rw[if_neg (by rw[b];exact a),b]
theorem ni(r:aA)(x:Value)(w:ej)(hs:ag 0 w.heap.size w x r.fields)(bs:bo r.fields)(h:letterB r.kind=true)(h2:letterB r.level=true):
 e0 prog 62 #[ep r x] w (B4 r w):=by
 have HF:=Z (vO h h2);have H2:=Z (CW h h2);have H0:=Z (CX h h2);obtain⟨B,C,c⟩:=r;simp only at h h2 hs bs HF H2 H0;have HS:=Z hs;obtain⟨a,Q,rfl⟩:=hs.shape;obtain⟨hn,bt⟩:=bs;have b7:=Z bt;clear hs bt;unfold ep;go_enter func62,ntmps62;go_wp2_with (go_at_call 109;refine(j9 _ _).mono ?_;rintro e w'⟨rfl,rfl⟩)
 go_loopw [28] (λi wr=>∃(k:Nat),k<=c.length/\i=J U k/\Hid (aO (c.take k)=0)/\
  Below (w.heap.size+1) (w.alloc (Obj.cells #[J dk B.toNat,J dk C.toNat,em a c.length Q] 62)) wr) (λi _=>c.length-(intOf i).toNat)
 case atStart=>exact⟨0,Nat.zero_le _,rfl,rfl,eg _ _⟩
 obtain⟨k,hk,rfl,q,z⟩:=hrel;have bb:wr.cell? ⟨w.heap.size,2,Y⟩=X (em a c.length Q):=by rw[z.cell (p:=⟨w.heap.size,2,Y⟩) (by simp)];go_simp
 have b2:w.heap.size<wr.heap.size:=bD bb;by_cases hlt:k<c.length
 .have a5:ag 0 w.heap.size wr (em a c.length Q) c:=(HS.o.kept (aY (ap w _) (dy _))).kept (aY z (by omega));obtain⟨b,cy,c6,d,hv,_,_,cp,cq,cs,cu,K⟩:=a5.field k hlt;cases hv;obtain⟨u,v,rfl⟩:∃u v,d=.slice u c[k].subs.length v:=by obtain⟨x1,x2,x3,_⟩:=K;exact⟨x1,x2,x3⟩
  have O:=eQ hlt;have a4:(fieldBytes c[k]).length<=1000000:=b7 _ O;have b0:=Nat.le_trans (ci c[k]) a4;have a8:Hid (∀W,Bw wr W->aw 0 W.heap.size W (.slice u c[k].subs.length v) c[k].subs):=λW y=>(K.kept (aY y (by omega))).mono (dy _) (by have:=y.size;omega);have ad:Hid (∀W,Bw wr W->e0 prog 110 #[fieldV c[k] (.slice u c[k].subs.length v)] W λe w'=>e=dd (J U (wrongF c[k]))/\Bw W w'):=λW y=>xS _ _ W (a8 W y) a4 b0;have ao:=Z (fk c k hlt q.o);have av:=Z (gB c k hlt q.o);clear a5 O K;unfold fieldV at ad;generalize c[k]=f at*;by_cases hw:wrongF f=0
  .rw[hw]at ad;have HN:=Z (av hw);clear av ao;go_wp2_with (go_at_call 110;(refine dx (ad.o _ (ap _ _)) ?_;rintro e w1⟨rfl,V⟩))
   go_roundw;exact⟨k+1,by omega,by go_num,HN,(z.alloc (by omega) _).trans (V.mono (by simp;omega))⟩;simp[intOf];omega
  have H:Hid (cD ⟨B,C,c⟩=([],wrongF f)):=by have hx:=ao.o;rw[if_neg hw]at hx;have:=HF.o (by rw[hx];exact hw);rw[hx]at this;exact this
  clear av ao;generalize wrongF f=er at*;go_wp2_with (go_at_call 110;(refine dx (ad.o _ (ap _ _)) ?_;rintro e w1⟨rfl,V⟩))
  go_ret2;refine⟨by rw[H.o];rfl,btr (ap w _) ((z.alloc (by omega) _).trans (V.mono (by simp;omega))) (by omega)⟩
 have al:Hid (aO c=0):=by have:=q.o;rw[List.take_of_length_le (by omega)]at this;exact this
 generalize wr=g at*;have HT:=Z (Ad g);clear q HF;go_wp2_with fail
 go_loopw [41] (λi wq=>∃(k:Nat)(D A:Bs)(R T:Option Nat),k<=c.length/\i=J U k/\Hid (D=dQ 0 (c.take k))/\Hid (A=db (c.take k))/\D.length=12*k/\A.length<=9999*k/\Hid (bP (c.take k)=false)/\
  Hid (Two g.heap.size R T D A wq)/\Bw g wq) (λi _=>c.length-(intOf i).toNat)
 case atStart=>exact⟨0,[],[],Y,Y,Nat.zero_le _,rfl,rfl,rfl,rfl,by simp,rfl,HT,((eg _ g).alloc (dy _) _).alloc (by simp) _⟩
 obtain⟨j,D,A,R,T,hj,rfl,HD,q,ch,cP,ax,s,I⟩:=hrel;have d4:=s.size;by_cases hlj:j<c.length
 .have a5:ag 0 w.heap.size wr (em a c.length Q) c:=((HS.o.kept (aY (ap w _) (dy _))).kept (aY z (by omega))).kept (aY I (by omega));obtain⟨b,cy,c6,d,hv,_,_,cp,cq,cs,cu,K⟩:=a5.field j hlj;cases hv;obtain⟨u,v,rfl⟩:∃u v,d=.slice u c[j].subs.length v:=by obtain⟨x1,x2,x3,_⟩:=K;exact⟨x1,x2,x3⟩
  have O:=eQ hlj;have a4:(fieldBytes c[j]).length<=1000000:=b7 _ O;have b0:=Nat.le_trans (ci c[j]) a4;have a8:Hid (∀W,Bw wr W->aw 0 W.heap.size W (.slice u c[j].subs.length v) c[j].subs):=λW y=>(K.kept (aY y (by omega))).mono (dy _) (by have:=y.size;omega);have aS:Hid (∀W,Bw wr W->e0 prog 111 #[fieldV c[j] (.slice u c[j].subs.length v)] W λe w'=>e=dd (S (fieldBytes c[j]))/\Bw W w'):=λW y=>zQ _ _ W (a8 W y) a4 b0;have HG:Hid (c[j].tag.length=3):=iw (s9 (gA al.o _ O));have d2:c[j].tag.length<=3:=by rw[HG.o];exact dy 3
  have ay:=Z (λh=>H2 al.o (.inl (B7 hlj h)));have aC:=Z (ye hlj ax.o);have HT:Hid (D++(c[j].tag++fixedN 4 (fieldBytes c[j]).length++fixedN 5 A.length)=dQ 0 (c.take (j+1))):=by rw[dz hlj,qm,HD.o,q.o];simp[Hid]
  have M:Hid (A++fieldBytes c[j]=db (c.take (j+1))):=by rw[dz hlj,sw,q.o];rfl
  clear a5 O K;unfold fieldV at aS;generalize c[j]=f at*;by_cases hF:(fieldBytes f).length<=9999;rotate_left
  .have H:=Z (ay.o (by omega));clear aC ay;generalize fieldBytes f=F at*;go_wp2_with (go_at_call 111;(refine dx (aS.o _ (ap _ _)) ?_;rintro e w1⟨rfl,V⟩))
   go_ret2;refine⟨by rw[H.o];rfl,btr (ap w _) (z.trans (((I.mono (by omega)).alloc (by omega) _).trans (V.mono (by simp;omega)))) (by omega)⟩
  have c3:=Z (aC hF);clear aC ay;generalize fieldBytes f=F at*;generalize f.tag=G at*;generalize f.ind=Gi at*;generalize f.data=Gd at*;generalize f.subs.length=gn at*;clear a8;go_wp2_with (go_at_call 111;(refine dx (aS.o _ (ap _ _)) ?_;rintro e L⟨rfl,a0⟩;have bw:L.cell? ⟨wr.heap.size,0,Y⟩=X (S G):=(by rw[a0.cell (p:=⟨wr.heap.size,0,Y⟩) (by simp)];go_simp)))
  obtain⟨a2,n2,E⟩:=(s.o.below ((aX wr _).trans (a0.mono (by simp)))).two.slot;have c2:Hid (Two g.heap.size R T D A L):=s.o.below (btr (aX wr _) a0 (by simp));have d1:D.length<=12000000:=by omega
  have cz:A.length<=9999000000:=by omega
  have q1:¬9223372036854775807<es G+4:=by omega
  have q2:¬9223372036854775807<es G+4+5:=by omega
  have q3:¬9223372036854775807<es G+(4+5):=by omega
  have d5:wr.heap.size<L.heap.size:=by have:=a0.size;simp at this;exact this
  go_region_held3 (λw'=>w'.cell? ⟨wr.heap.size,0,Y⟩=X (S G)/\w'.cell? ⟨g.heap.size+1,1,Y⟩=X (dc a2 A.length n2)) (go_keep)
   (first
    |(go_at_call_of 113 (Value.int IntKind.i64 ↑(es F));((with_reducible refine dx (sd F.length _ (by omega)) ?_);rintro e w3⟨rfl,m⟩;have a6:=fM m))
    |(go_at_call 114;have s3:w3.cell? ⟨g.heap.size+1,1,Y⟩=X (dc a2 A.length n2):=a6 _ _ E;((with_reducible refine dx (iX _ _ _ _ _ s3) ?_);rintro e d6⟨rfl,rfl⟩))
    |(go_at_call_of 113 (Value.int IntKind.i64 ↑(es A));((with_reducible refine dx (kP A.length _ (by omega)) ?_);rintro e w4⟨rfl,n⟩;have a7:=fM n))
    |(go_at_call 112;have N:=((c2.o.below (eg _ L).drew).below m).below n;((with_reducible refine dx (gI (g.heap.size+2) g.heap.size R D (G++(fixedN 4 F.length++fixedN 5 A.length)) _ N.one N.size (by simp[ee];omega)) ?_);rintro e w5⟨rfl,c7,b8,bk,a3⟩;have k5:w5.cell? ⟨wr.heap.size,0,Y⟩=X (S G):=(by rw[a3.cell (by have:=n.size;have:=m.size;simp at*;omega) (by omega) (λe=>by have:=(s.o.one.row _ e.symm).2;omega)];exact a7 _ _ (a6 _ _ bw));have k6:w5.cell? ⟨g.heap.size+1,1,Y⟩=X (dc a2 A.length n2):=(by rw[a3.cell (by have:=N.size;omega) (by omega) (λe=>by have:=(s.o.one.row _ e.symm).1;omega)];exact a7 _ _ s3);have a9:=Z (N.fst b8 bk a3);have bO:=Z (N.one.fr a3 (lo:=g.heap.size) (dy _));clear N b8 bk a3)))
  have bB:Hid (Bw g w5):=by have z4:=n.size;have z3:L.heap.size<=w3.heap.size:=m.size;exact(((I.trans ((aX wr _).mono (by omega))).trans (a0.mono (by simp;omega))).trans ((eg g.heap.size L).drew.trans ((m.mono (by simp;omega)).trans (n.mono (by omega))))).trans bO.o
  clear a6 a7 E s3 m n bw k5 k6;go_wp2_with (go_at_call 112;(refine dx (gI (g.heap.size+2) (g.heap.size+1) T A F _ a9.o.two a9.o.size (by omega)) ?_;rintro e w6⟨rfl,c8,c9,cn,bd⟩))
  go_roundw
  case rel=>
   refine⟨j+1,D++(G++fixedN 4 F.length++fixedN 5 A.length),A++F,c7,c8,by omega,by go_num,HT,M,?_,by simp;omega,c3,?_,bB.o.trans (a9.o.two.fr bd (by omega))⟩
   .have:=HG.o;simp[ee];omega
   have:=a9.snd c9 cn bd;simpa[Hid]using this
  simp[intOf];omega
 obtain rfl:j=c.length:=by omega
 have b4:Hid (D=dQ 0 c):=by have:=HD.o;rwa[ex]at this
 have M:Hid (A=db c):=by have:=q.o;rwa[ex]at this
 have b6:Hid (bP c=false):=by have:=ax.o;rwa[ex]at this
 clear HD q ax hlj hj;have cQ:D.length<=12*c.length:=by omega
 have d0:12*c.length<=D.length:=by omega
 have P:Hid (999<c.length∨99999<26+12*c.length+A.length->cD ⟨B,C,c⟩=([],2)):=λh=>H2.o al.o (.inr (by rw[<- M.o];exact h));have ac:Hid (c.length<=999->26+12*c.length+A.length<=99999->∀l:Bs,l=jD ⟨B,C,c⟩ (25+D.length+A.length+1) (25+D.length)++D++[30]++A++[29]->Ending.returned (.tuple #[S l,J U 0])=dd (.tuple #[S (cD ⟨B,C,c⟩).1,J U (cD ⟨B,C,c⟩).2])):=by intro h9 h5 l hl;have:=H0.o al.o b6.o h9 (by rw[<- M.o];exact h5);rw[this,hl,b4.o,M.o];rfl
 clear b4 M b6 H2 H0 ch;obtain⟨a1,n1,s1⟩:=s.one.slot;obtain⟨a2,n2,E⟩:=s.two.slot;have bc:wr.cell? ⟨w.heap.size,2,Y⟩=X (em a c.length Q):=by rw[I.cell (p:=⟨w.heap.size,2,Y⟩) b2];exact bb
 have aT:Bw w wr:=btr (ap w _) (z.trans (I.mono (by omega))) (by omega);by_cases h9:c.length<=999;rotate_left
 .have H:=Z (P.o (.inl (by omega)));clear ac P;go_wp2_with (go_at_call 114;((first|(with_reducible refine dx (iX _ _ _ _ _ s1) ?_)|(with_reducible refine dx (iX _ _ _ _ _ E) ?_));rintro e w'⟨rfl,rfl⟩))
  go_ret2;exact⟨by rw[H.o];rfl,aT⟩
 by_cases h5:26+12*c.length+A.length<=99999;rotate_left
 .have H:=Z (P.o (.inr (by omega)));clear ac P;go_wp2_with (go_at_call 114;((first|(with_reducible refine dx (iX _ _ _ _ _ s1) ?_)|(with_reducible refine dx (iX _ _ _ _ _ E) ?_));rintro e w'⟨rfl,rfl⟩))
  go_ret2;exact⟨by rw[H.o];rfl,aT⟩
 have cb:wr.cell? ⟨w.heap.size,0,Y⟩=X (J dk B.toNat):=by rw[I.cell (p:=⟨w.heap.size,0,Y⟩) b2,z.cell (p:=⟨w.heap.size,0,Y⟩) (by simp)];go_simp
 have cc:wr.cell? ⟨w.heap.size,1,Y⟩=X (J dk C.toNat):=by rw[I.cell (p:=⟨w.heap.size,1,Y⟩) b2,z.cell (p:=⟨w.heap.size,1,Y⟩) (by simp)];go_simp
 have b5:=Z (ac h9 h5);clear ac P;go_wp2_with (go_at_call 114;((first|(with_reducible refine dx (iX _ _ _ _ _ s1) ?_)|(with_reducible refine dx (iX _ _ _ _ _ E) ?_));rintro e w'⟨rfl,rfl⟩))
 go_cut [14] (λt g=>∃l:Bs,t=S l/\Hid (l=jD ⟨B,C,c⟩ (25+D.length+A.length+1) (25+D.length))/\l.length<=24/\Bw wr g)
 case first=>
  have bv:w.heap.size<wr.heap.size:=by omega
  have c4:∀o,(wr.alloc o).cell? ⟨w.heap.size,0,Y⟩=X (J dk B.toNat):=λo=>by rw[bf _ _ _ _ bv];exact cb
  have c5:∀o,(wr.alloc o).cell? ⟨w.heap.size,1,Y⟩=X (J dk C.toNat):=λo=>by rw[bf _ _ _ _ bv];exact cc
  have bA:True:=trivial;clear s bc s1 E b5
  go_region_with
   (first
    |(go_at_call 113;have _t:=bA;go_must (refine(kO (25+D.length+A.length+1) _ (by omega) _ (by omega)).mono ?_);clear _t bA;rintro e w3⟨rfl,m⟩;have a6:=fM m;obtain⟨cd,cl⟩:=an m)
    |(go_at_call 113;go_must (refine(kO (25+D.length) _ (by omega) _ (by omega)).mono ?_);rintro e w4⟨rfl,n⟩;have a7:=fM n;obtain⟨cg,cm⟩:=an n))
  all_goals
   clear a6 a7 cd cl cg cm c4 c5
   go_wp2_with fail
   go_meet
   have cv:=m.size
   have cx:=n.size
   simp only[World.size_drew,World.size_alloc]at cv cx
   refine⟨_,rfl,by simp[jD,Hid],by simp[ee],?_⟩
   first
    |exact((aX wr _).drew.trans (m.mono (by first|omega|(simp;omega)|simp))).trans (n.mono (by first|omega|(simp;omega)|simp))
    |exact(((eg _ wr).drew.trans (m.mono (by first|omega|(simp;omega)|simp))).alloc (by first|omega|(simp;omega)|simp) _).trans (n.mono (by first|omega|(simp;omega)|simp))
    |exact(((eg _ wr).drew.trans (m.mono (by first|omega|(simp;omega)|simp))).trans (n.mono (by first|omega|(simp;omega)|simp))).alloc (by first|omega|(simp;omega)|simp) _
 obtain⟨ld,rfl,c1,d3,b9⟩:=hcut;have au:=s.below b9;clear s1 E bc
 go_wp2_with (first
  |(go_at_call_of 115 (Value.pointer (X ⟨g.heap.size,0,Y⟩));((with_reducible refine dx (fu (g.heap.size+2) g.heap.size R D _ au.one (by omega)) ?_);rintro e L⟨rfl,b1⟩;have b3:=Z (au.other (b1.fr g.heap.size));have bY:=Z (au.one.fr (b1.fr g.heap.size) (lo:=g.heap.size) (dy _));clear b1)))
 ((with_reducible refine dx (fu (g.heap.size+2) (g.heap.size+1) T A _ b3.o (by omega)) ?_);rintro e w3⟨rfl,bl⟩;have c0:=Z (b3.o.fr (bl.fr (g.heap.size+1)) (lo:=g.heap.size) (by omega));clear bl)
 go_wp2_with fail;go_ret2;refine⟨b5.o _ (by rw[c1.o];simp),aT.trans ((b9.mono (by omega)).trans ((bY.o.mono (by omega)).trans (c0.o.mono (by omega))))⟩
attribute [local go_sem ↓] Go.wp_at_zero Go.wp_at_succ
theorem xU(r:aA)(v:Value)(w:ej)(b:ew 0 w.heap.size w v r)(c:bo r.fields):e0 prog 62 #[v] w (B4 r w):=by
 obtain⟨x,rfl,a⟩:=b;cases h:(letterB r.kind&&letterB r.level)
 .exact kZ r x w h
 simp only[Bool.and_eq_true]at h;exact ni r x w a c h.1 h.2
theorem xV(r:aA):(cD r).2=wrongR r:=by
 unfold cD;split
 .rename_i h;rw[h]
 rfl
theorem yA(r:aA)(v:Value)(w:ej)(c:ew 0 w.heap.size w v r)(g:bo r.fields):
 e0 prog 58 #[v] w λe w'=>e=dd (ds (decide (wrongR r=0)))/\Bw w w':=by
 have f:Hid (∀W,Bw w W->e0 prog 62 #[v] W λe w'=>e=dd (.tuple #[S (cD r).1,J U (wrongR r)])/\Bw W w'):=λW b=>by have:=xU r v W ((c.kept (aY b (dy _))).mono (dy _) b.size) g;rw[<- xV];exact this
 obtain⟨x,rfl,d⟩:=c;obtain⟨a,h,rfl⟩:=d.shape;clear d;unfold ep at*;generalize wrongR r=e at*;generalize(cD r).1=s at*;go_enter func58,ntmps58;go_wp2_with (go_at_call 62;(refine dx (f.o _ (ap _ _)) ?_;rintro e w1⟨rfl,b⟩))
 go_ret;exact⟨am (by rw[Bool.eq_iff_iff];simp),btr (ap w _) b (by simp)⟩
theorem Ak(c f d g:UInt8)(a b:List af)(x y:Value)(w:ej)(i:ag 0 w.heap.size w x a)(j:ag 0 w.heap.size w y b)(h:bo a):
 e0 prog 87 #[.agg #[J dk c.toNat,J dk f.toNat,x],.agg #[J dk d.toNat,J dk g.toNat,y]] w λe w'=>e=dd (ds (sameR ⟨c,f,a⟩ ⟨d,g,b⟩))/\Bw w w':=
 An ⟨c,f,a⟩ ⟨d,g,b⟩ _ _ w ⟨x,rfl,i⟩ ⟨y,rfl,j⟩ h
end
end Go.Proofs.YtjcimanddakkaaaGreatDoor
