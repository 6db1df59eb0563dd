/- Lemmas. -/
import Derived.Test.YtjcimanddakkaaaGreatDoorCT10
import Derived.Test.YtjcimanddakkaaaGreatDoorCT11
set_option maxRecDepth 100000
set_option maxHeartbeats 8000000
namespace Go.Proofs.YtjcimanddakkaaaGreatDoor
open _root_.Option renaming some→X,none→Y
open Go.Value renaming pointer→da,slice→dc,int→J,bool→dq
open Go.Ending renaming returned→dd
open Go.IntKind renaming i64→U,u8→dk
open Go.Lib renaming hid→Z
open Tryz
open Go.Calls renaming mono→ds
open _root_.Nat renaming le_refl→dx
open _root_.List renaming take_succ_eq_append_getElem→dy,length→ej,take_length→em,getElem_mem→es
open Go.RowKit.Below renaming refl→dz
open Go renaming World→eb,Calls→ex
open Go.Value renaming slice→eg
section
open Go.RowKit
theorem Du{r:aG}(h:letterB r.kind=true)(c:letterB r.level=true)(d:aR r.fields=0)(a:bU r.fields=true∨999<r.fields.length∨99999<26+12*r.fields+(di r.fields).length):cL r=([],2):=by
 have b:wrongR r=2:=by
  rw[o8 r h c d,if_pos];rw[kf];simp only[Bool.or_eq_true,decide_eq_true_eq];rcases a with a|a|a
  .exact .inl (.inl a)
  .exact .inl (.inr a)
  exact .inr a
 unfold cL;rw[if_neg (by rw[b];decide),b]
theorem Dv{r:aG}(h:letterB r.kind=true)(a:letterB r.level=true)(b:aR r.fields=0)(d:bU r.fields=false)(e:r.fields.length<=999)(f:26+12*r.fields+(di r.fields).length<=99999):cL r=(yq r,0):=by
 have c:wrongR r=0:=by rw[o8 r h a b,if_neg];rw[kf,d];simp only[Bool.false_or,Bool.or_eq_true,decide_eq_true_eq];omega
 unfold cL;rw[if_pos c]
theorem CA{a:List ag}{k:Nat}(b:k<a)(h:9999<(fieldBytes a[k]).length):bU a=true:=by
 unfold bU;rw[List.any_eq_true];exact⟨a[k],es b,by simpa using h⟩
theorem yA{a:List ag}{k:Nat}(b:k<a)(h:bU (a.take k)=false)(c:(fieldBytes a[k]).length<=9999):bU (a.take (k+1))=false:=by
 unfold bU at*;rw[dy b,List.any_append,h];simp;omega
structure Two(x:Nat)(g1 g2:Option Nat)(D A:Bs)(w:eb):Prop where
 one:Bld (x+2) x g1 D w
 two:Bld (x+2) (x+1) g2 A w
 ne:∀j,g1=some j->g2=some j->False
theorem Two.below{x:Nat}{a c:Option Nat}{D A:Bs}{w w':eb}(h:Two x a c D A w)(b:Bw w w'):Two x a c D A w':=⟨h.one.below b,h.two.below b,h.ne⟩
theorem Two.fst{x:Nat}{c f a:Option Nat}{D A d:Bs}{w w':eb}(h:Two x c f D A w)(m:Bld (x+2) x a d w')(n:a=c∨∃k,a=X k/\w<=k)(l:Fr x c w w'):Two x a f d A w':=
 ⟨m,h.two.keep (l.block _ h.two.old (by omega) (λe=>by have:=(h.one.row _ e.symm).1;omega)) (λk b=>l.block k (h.two.row k b).2 (by have:=(h.two.row k b).1;omega) (λe=>h.ne k e.symm b)),
  λj g i=>by
   rcases n with rfl|⟨k,rfl,b⟩
   .exact h.ne j g i
   .have:=(h.two.row j i).2;injection g;omega⟩
theorem Two.snd{x:Nat}{f c a:Option Nat}{D A d:Bs}{w w':eb}(h:Two x f c D A w)(m:Bld (x+2) (x+1) a d w')(n:a=c∨∃k,a=X k/\w<=k)(l:Fr (x+1) c w w'):Two x f a D d w':=
 ⟨h.one.keep (l.block _ h.one.old (by omega) (λe=>by have:=(h.two.row _ e.symm).1;omega)) (λk b=>l.block k (h.one.row k b).2 (by have:=(h.one.row k b).1;omega) (λe=>h.ne k b e.symm)),m,
  λj g i=>by
   rcases n with rfl|⟨k,rfl,b⟩
   .exact h.ne j g i
   .have:=(h.one.row j g).2;injection i;omega⟩
theorem Two.size{x:Nat}{a b:Option Nat}{D A:Bs}{w:eb}(h:Two x a b D A w):x+2<=w:=h.two.old
theorem AF(w:eb):Two w Y Y [] [] ((w.alloc (Obj.cells #[da Y,dc Y 0 0] 187)).alloc (Obj.cells #[da Y,dc Y 0 0] 187)):=by
 have a:=lJ w w (w.heap.size+2) rfl (by omega);exact⟨a.alloc _,lJ _ (w.heap.size+1) (w.heap.size+2) (by simp) (by omega),λ_ h=>by cases h⟩
theorem Bld.slot{B b:Nat}{g:Option Nat}{l:Bs}{w:eb}(h:Bld B b g l w):∃a c,w.cell? ⟨b,1,Y⟩=X (dc a l c):=by
 obtain⟨i,p,v,d,j,e,f,hn⟩:=h;obtain⟨a,c,rfl⟩:=aw e;exact⟨a,c,by rw[Lib.cell_of_heap d];rfl⟩
theorem zw(b:Nat)(a:Option Addr)(n c:Nat)(w:eb)(c1:w.cell? ⟨b,1,Y⟩=X (dc a n c)):ex prog 114 #[.pointer b] w λe w'=>e=dd n/\w'=w:=by
 go_enter func114,ntmps114;go_wp2_with fail;go_ret;exact⟨rfl,rfl⟩
attribute [local go_sem ↓] Go.wp_at_zero Go.wp_at_succ
theorem Da{r:aG}(h:(letterB r.kind&&letterB r.level)=false):cL r=([],12):=by
 have a:=nR r h;unfold cL;rw[if_neg (by rw[a];decide),a]
theorem lh(r:aG)(x:Value)(w:eb)(h:(letterB r.kind&&letterB r.level)=false):
 ex prog 62 #[eG r x] w λe w'=>e=dd (.tuple #[S (cL r).1,J U (cL r).2])/\Bw w w':=by
 have a:=Z (Da h);rw[a.o];obtain⟨b,c,d⟩:=r;simp only at h;unfold eG;cases hk:letterB b
 .go_enter func62,ntmps62;go_wp2_with (go_at_call 109;refine(kp _ _).mono ?_;rintro e w'⟨rfl,rfl⟩)
  go_ret2;exact⟨rfl,ar _ _⟩
 have f:letterB c=false:=by simpa[hk]using h
 clear h;go_enter func62,ntmps62;go_wp2_with (go_at_call 109;refine(kp _ _).mono ?_;rintro e w'⟨rfl,rfl⟩)
 go_ret2;exact⟨rfl,ar _ _⟩
theorem sF(n:Nat)(w:eb)(hn:n<100000000000):
 ex prog 113 #[n,J U 4] w λe w'=>e=dd (S (fixedN 4 n))/\Bw w w':=uI n w (by omega) (by omega)
theorem kU(n:Nat)(w:eb)(hn:n<100000000000):
 ex prog 113 #[n,J U 5] w λe w'=>e=dd (S (fixedN 5 n))/\Bw w w':=uH n w (by omega) (by omega)
theorem kT(n:Nat)(v:Int)(a:v=n)(w:eb)(hn:n<100000000000):
 ex prog 113 #[v,J U 5] w λe w'=>e=dd (S (fixedN 5 n))/\Bw w w':=by subst a;exact kU n w hn
theorem jd(b:Nat)(a:Option Addr)(n c:Nat)(w:eb)(c1:w.cell? ⟨b,1,Y⟩=X (dc a n c)):ex prog 114 #[.pointer b] w λe w'=>e=dd n/\w=w':=
 (zw b a n c w c1).mono λ_ _⟨h,e⟩=>⟨h,e.symm⟩
theorem Two.other{x:Nat}{b c:Option Nat}{D A:Bs}{w w':eb}(h:Two x b c D A w)(d:Fr x b w w'):Bld (x+2) (x+1) c A w':=
 h.two.keep (d.block _ h.two.old (by omega) (λe=>by have:=(h.one.row _ e.symm).1;omega)) (λk a=>d.block k (h.two.row k a).2 (by have:=(h.two.row k a).1;omega) (λe=>h.ne k e.symm a))
def Cx(r:aG)(w:eb)(e:Ending)(w':eb):Prop:=e=dd (.tuple #[S (cL r).1,J U (cL r).2])/\Bw w w'
theorem wg{r:aG}(h:letterB r.kind=true)(c:letterB r.level=true)(a:aR r.fields≠0):cL r=([],aR r.fields):=by
 have b:=qS r h c a;unfold cL;rw[if_neg (by rw[b];exact a),b]
theorem np(r:aG)(x:Value)(w:eb)(hs:ah 0 w w x r.fields)(bk:br r.fields)(h:letterB r.kind=true)(h2:letterB r.level=true):
 ex prog 62 #[eG r x] w (Cx r w):=by
 have HF:=Z (wg h h2);have H2:=Z (Du h h2);have H0:=Z (Dv h h2);obtain⟨B,C,c⟩:=r;simp only at h h2 hs bk HF H2 H0;have HS:=Z hs;obtain⟨a,Q,rfl⟩:=hs.shape;obtain⟨hn,bl⟩:=bk;have b5:=Z bl;clear hs bl;unfold eG;go_enter func62,ntmps62;go_wp2_with (go_at_call 109;refine(kp _ _).mono ?_;rintro e w'⟨rfl,rfl⟩)
 go_loopw [28] (λi wr=>∃(k:Nat),k<=c/\i=J U k/\Hid (aR (c.take k)=0)/\
  Below (w.heap.size+1) (w.alloc (Obj.cells #[J dk B,J dk C,eg a c Q] 62)) wr) (λi _=>c-(intOf i).toNat)
 case atStart=>exact⟨0,Nat.zero_le _,rfl,rfl,dz _ _⟩
 obtain⟨k,hk,rfl,q,z⟩:=hrel;have b8:wr.cell? ⟨w,2,Y⟩=X (eg a c Q):=by rw[z.cell (p:=⟨w,2,Y⟩) (by simp)];go_simp
 have b0:w.heap.size<wr:=bE b8;by_cases hlt:k<c
 .have a5:ah 0 w wr (eg a c Q) c:=(HS.o.kept (aW (ar w _) (dx _))).kept (aW z (by omega));obtain⟨b,cu,c4,d,hv,_,_,cj,cl,cm,cp,K⟩:=a5.field k hlt;cases hv;obtain⟨u,v,rfl⟩:∃u v,d=.slice u c[k].subs.length v:=by obtain⟨x1,x2,x3,_⟩:=K;exact⟨x1,x2,x3⟩
  have O:=es hlt;have a4:(fieldBytes c[k]).length<=1000000:=b5 _ O;have aS:=Nat.le_trans (cr c[k]) a4;have a8:Hid (∀W,Bw wr W->aE 0 W W (.slice u c[k].subs.length v) c[k].subs):=λW y=>(K.kept (aW y (by omega))).mono (dx _) (by have:=y.size;omega);have ac:Hid (∀W,Bw wr W->ex prog 110 #[fieldV c[k] (.slice u c[k].subs.length v)] W λe w'=>e=dd (wrongF c[k])/\Bw W w'):=λW y=>ym _ _ W (a8 W y) a4 aS;have al:=Z (fB c k hlt q.o);have au:=Z (gH c k hlt q.o);clear a5 O K;unfold fieldV at ac;generalize c[k]=f at*;by_cases hw:wrongF f=0
  .rw[hw]at ac;have HN:=Z (au hw);clear au al;go_wp2_with (go_at_call 110;(refine ds (ac.o _ (ar _ _)) ?_;rintro e w1⟨rfl,V⟩))
   go_roundw;exact⟨k+1,by omega,by go_num,HN,(z.alloc (by omega) _).trans (V.mono (by simp;omega))⟩;simp[intOf];omega
  have H:Hid (cL ⟨B,C,c⟩=([],wrongF f)):=by have hx:=al.o;rw[if_neg hw]at hx;have:=HF.o (by rw[hx];exact hw);rw[hx]at this;exact this
  clear au al;generalize wrongF f=er at*;go_wp2_with (go_at_call 110;(refine ds (ac.o _ (ar _ _)) ?_;rintro e w1⟨rfl,V⟩))
  go_ret2;refine⟨by rw[H.o];rfl,btr (ar w _) ((z.alloc (by omega) _).trans (V.mono (by simp;omega))) (by omega)⟩
 have ad:Hid (aR c=0):=by have:=q.o;rw[List.take_of_length_le (by omega)]at this;exact this
 generalize wr=g at*;have HT:=Z (AF g);clear q HF;go_wp2_with fail
 go_loopw [41] (λi wq=>∃(k:Nat)(D A:Bs)(R T:Option Nat),k<=c/\i=J U k/\Hid (D=dZ 0 (c.take k))/\Hid (A=di (c.take k))/\D.length=12*k/\A.length<=9999*k/\Hid (bU (c.take k)=false)/\
  Hid (Two g R T D A wq)/\Bw g wq) (λi _=>c-(intOf i).toNat)
 case atStart=>exact⟨0,[],[],Y,Y,Nat.zero_le _,rfl,rfl,rfl,rfl,by simp,rfl,HT,((dz _ g).alloc (dx _) _).alloc (by simp) _⟩
 obtain⟨j,D,A,R,T,hj,rfl,HD,q,cd,cx,av,s,I⟩:=hrel;have d1:=s.size;by_cases hlj:j<c
 .have a5:ah 0 w wr (eg a c Q) c:=((HS.o.kept (aW (ar w _) (dx _))).kept (aW z (by omega))).kept (aW I (by omega));obtain⟨b,cu,c4,d,hv,_,_,cj,cl,cm,cp,K⟩:=a5.field j hlj;cases hv;obtain⟨u,v,rfl⟩:∃u v,d=.slice u c[j].subs.length v:=by obtain⟨x1,x2,x3,_⟩:=K;exact⟨x1,x2,x3⟩
  have O:=es hlj;have a4:(fieldBytes c[j]).length<=1000000:=b5 _ O;have aS:=Nat.le_trans (cr c[j]) a4;have a8:Hid (∀W,Bw wr W->aE 0 W W (.slice u c[j].subs.length v) c[j].subs):=λW y=>(K.kept (aW y (by omega))).mono (dx _) (by have:=y.size;omega);have az:Hid (∀W,Bw wr W->ex prog 111 #[fieldV c[j] (.slice u c[j].subs.length v)] W λe w'=>e=dd (S (fieldBytes c[j]))/\Bw W w'):=λW y=>Al _ _ W (a8 W y) a4 aS;have HG:Hid (c[j].tag.length=3):=iA (tD (gG ad.o _ O));have cQ:c[j].tag.length<=3:=by rw[HG.o];exact dx 3
  have ax:=Z (λh=>H2 ad.o (.inl (CA hlj h)));have ay:=Z (yA hlj av.o);have HT:Hid (D++(c[j].tag++fixedN 4 (fieldBytes c[j]).length++fixedN 5 A.length)=dZ 0 (c.take (j+1))):=by rw[dy hlj,qC,HD.o,q.o];simp[Hid]
  have M:Hid (A++fieldBytes c[j]=di (c.take (j+1))):=by rw[dy hlj,sQ,q.o];rfl
  clear a5 O K;unfold fieldV at az;generalize c[j]=f at*;by_cases hF:(fieldBytes f).length<=9999;rotate_left
  .have H:=Z (ax.o (by omega));clear ay ax;generalize fieldBytes f=F at*;go_wp2_with (go_at_call 111;(refine ds (az.o _ (ar _ _)) ?_;rintro e w1⟨rfl,V⟩))
   go_ret2;refine⟨by rw[H.o];rfl,btr (ar w _) (z.trans (((I.mono (by omega)).alloc (by omega) _).trans (V.mono (by simp;omega)))) (by omega)⟩
  have c1:=Z (ay hF);clear ay ax;generalize fieldBytes f=F at*;generalize f.tag=G at*;generalize f.ind=Gi at*;generalize f.data=Gd at*;generalize f.subs.length=gn at*;clear a8;go_wp2_with (go_at_call 111;(refine ds (az.o _ (ar _ _)) ?_;rintro e L⟨rfl,a0⟩;have bt:L.cell? wr=X (S G):=(by rw[a0.cell (p:=wr) (by simp)];go_simp)))
  obtain⟨a2,n2,E⟩:=(s.o.below ((aZ wr _).trans (a0.mono (by simp)))).two.slot;have c0:Hid (Two g R T D A L):=s.o.below (btr (aZ wr _) a0 (by simp));have cP:D.length<=12000000:=by omega
  have cv:A.length<=9999000000:=by omega
  have q1:¬9223372036854775807<ej G+4:=by omega
  have q2:¬9223372036854775807<ej G+4+5:=by omega
  have q3:¬9223372036854775807<ej G+(4+5):=by omega
  have d2:wr.heap.size<L:=by have:=a0.size;simp at this;exact this
  go_region_held3 (λw'=>w'.cell? wr=X (S G)/\w'.cell? ⟨g.heap.size+1,1,Y⟩=X (dc a2 A.length n2)) (go_keep)
   (first
    |(go_at_call_of 113 (Value.int IntKind.i64 ↑(ej F));((with_reducible refine ds (sF F.length _ (by omega)) ?_);rintro e w3⟨rfl,m⟩;have a6:=fV m))
    |(go_at_call 114;have s3:w3.cell? ⟨g.heap.size+1,1,Y⟩=X (dc a2 A.length n2):=a6 _ _ E;((with_reducible refine ds (jd _ _ _ _ _ s3) ?_);rintro e d3⟨rfl,rfl⟩))
    |(go_at_call_of 113 (Value.int IntKind.i64 ↑(ej A));((with_reducible refine ds (kU A.length _ (by omega)) ?_);rintro e w4⟨rfl,n⟩;have a7:=fV n))
    |(go_at_call 112;have N:=((c0.o.below (dz _ L).drew).below m).below n;((with_reducible refine ds (gN (g.heap.size+2) g R D (G++(fixedN 4 F.length++fixedN 5 A.length)) _ N.one N.size (by simp[ew];omega)) ?_);rintro e w5⟨rfl,c5,b6,bc,a3⟩;have k5:w5.cell? wr=X (S G):=(by rw[a3.cell (by have:=n.size;have:=m.size;simp at*;omega) (by omega) (λe=>by have:=(s.o.one.row _ e.symm).2;omega)];exact a7 _ _ (a6 _ _ bt));have k6:w5.cell? ⟨g.heap.size+1,1,Y⟩=X (dc a2 A.length n2):=(by rw[a3.cell (by have:=N.size;omega) (by omega) (λe=>by have:=(s.o.one.row _ e.symm).1;omega)];exact a7 _ _ s3);have a9:=Z (N.fst b6 bc a3);have bA:=Z (N.one.fr a3 (lo:=g.heap.size) (dx _));clear N b6 bc a3)))
  have bw:Hid (Bw g w5):=by have z4:=n.size;have z3:L.heap.size<=w3:=m.size;exact(((I.trans ((aZ wr _).mono (by omega))).trans (a0.mono (by simp;omega))).trans ((dz g L).drew.trans ((m.mono (by simp;omega)).trans (n.mono (by omega))))).trans bA.o
  clear a6 a7 E s3 m n bt k5 k6;go_wp2_with (go_at_call 112;(refine ds (gN (g.heap.size+2) (g.heap.size+1) T A F _ a9.o.two a9.o.size (by omega)) ?_;rintro e w6⟨rfl,c6,c7,ci,bb⟩))
  go_roundw
  case rel=>
   refine⟨j+1,D++(G++fixedN 4 F.length++fixedN 5 A.length),A++F,c5,c6,by omega,by go_num,HT,M,?_,by simp;omega,c1,?_,bw.o.trans (a9.o.two.fr bb (by omega))⟩
   .have:=HG.o;simp[ew];omega
   have:=a9.snd c7 ci bb;simpa[Hid]using this
  simp[intOf];omega
 obtain rfl:j=c:=by omega
 have b2:Hid (D=dZ 0 c):=by have:=HD.o;rwa[em]at this
 have M:Hid (A=di c):=by have:=q.o;rwa[em]at this
 have b4:Hid (bU c=false):=by have:=av.o;rwa[em]at this
 clear HD q av hlj hj;have cy:D.length<=12*c:=by omega
 have cz:12*c<=D.length:=by omega
 have P:Hid (999<c.length∨99999<26+12*c+A.length->cL ⟨B,C,c⟩=([],2)):=λh=>H2.o ad.o (.inr (by rw[<- M.o];exact h));have aa:Hid (c.length<=999->26+12*c+A.length<=99999->∀l:Bs,l=jJ ⟨B,C,c⟩ (25+D.length+A.length+1) (25+D.length)++D++[30]++A++[29]->Ending.returned (.tuple #[S l,J U 0])=dd (.tuple #[S (cL ⟨B,C,c⟩).1,J U (cL ⟨B,C,c⟩).2])):=by intro h9 h5 l hl;have:=H0.o ad.o b4.o h9 (by rw[<- M.o];exact h5);rw[this,hl,b2.o,M.o];rfl
 clear b2 M b4 H2 H0 cd;obtain⟨a1,n1,s1⟩:=s.one.slot;obtain⟨a2,n2,E⟩:=s.two.slot;have b9:wr.cell? ⟨w,2,Y⟩=X (eg a c Q):=by rw[I.cell (p:=⟨w,2,Y⟩) b0];exact b8
 have aC:Bw w wr:=btr (ar w _) (z.trans (I.mono (by omega))) (by omega);by_cases h9:c.length<=999;rotate_left
 .have H:=Z (P.o (.inl (by omega)));clear aa P;go_wp2_with (go_at_call 114;((first|(with_reducible refine ds (jd _ _ _ _ _ s1) ?_)|(with_reducible refine ds (jd _ _ _ _ _ E) ?_));rintro e w'⟨rfl,rfl⟩))
  go_ret2;exact⟨by rw[H.o];rfl,aC⟩
 by_cases h5:26+12*c+A.length<=99999;rotate_left
 .have H:=Z (P.o (.inr (by omega)));clear aa P;go_wp2_with (go_at_call 114;((first|(with_reducible refine ds (jd _ _ _ _ _ s1) ?_)|(with_reducible refine ds (jd _ _ _ _ _ E) ?_));rintro e w'⟨rfl,rfl⟩))
  go_ret2;exact⟨by rw[H.o];rfl,aC⟩
 have c9:wr.cell? w=X (J dk B):=by rw[I.cell (p:=w) b0,z.cell (p:=w) (by simp)];go_simp
 have ca:wr.cell? ⟨w,1,Y⟩=X (J dk C):=by rw[I.cell (p:=⟨w,1,Y⟩) b0,z.cell (p:=⟨w,1,Y⟩) (by simp)];go_simp
 have b3:=Z (aa h9 h5);clear aa P;go_wp2_with (go_at_call 114;((first|(with_reducible refine ds (jd _ _ _ _ _ s1) ?_)|(with_reducible refine ds (jd _ _ _ _ _ E) ?_));rintro e w'⟨rfl,rfl⟩))
 go_cut [14] (λt g=>∃l:Bs,t=S l/\Hid (l=jJ ⟨B,C,c⟩ (25+D.length+A.length+1) (25+D.length))/\l.length<=24/\Bw wr g)
 case first=>
  have bs:w.heap.size<wr:=by omega
  have c2:∀o,(wr.alloc o).cell? w=X (J dk B):=λo=>by rw[bf _ _ _ _ bs];exact c9
  have c3:∀o,(wr.alloc o).cell? ⟨w,1,Y⟩=X (J dk C):=λo=>by rw[bf _ _ _ _ bs];exact ca
  have bv:True:=trivial;clear s b9 s1 E b3
  go_region_with
   (first
    |(go_at_call 113;have _t:=bv;go_must (refine(kT (25+D.length+A.length+1) _ (by omega) _ (by omega)).mono ?_);clear _t bv;rintro e w3⟨rfl,m⟩;have a6:=fV m;obtain⟨cb,cg⟩:=aq m)
    |(go_at_call 113;go_must (refine(kT (25+D.length) _ (by omega) _ (by omega)).mono ?_);rintro e w4⟨rfl,n⟩;have a7:=fV n;obtain⟨cc,ch⟩:=aq n))
  all_goals
   clear a6 a7 cb cg cc ch c2 c3
   go_wp2_with fail
   go_meet
   have cq:=m.size
   have cs:=n.size
   simp only[World.size_drew,World.size_alloc]at cq cs
   refine⟨_,rfl,by simp[jJ,Hid],by simp[ew],?_⟩
   first
    |exact((aZ wr _).drew.trans (m.mono (by first|omega|(simp;omega)|simp))).trans (n.mono (by first|omega|(simp;omega)|simp))
    |exact(((dz _ wr).drew.trans (m.mono (by first|omega|(simp;omega)|simp))).alloc (by first|omega|(simp;omega)|simp) _).trans (n.mono (by first|omega|(simp;omega)|simp))
    |exact(((dz _ wr).drew.trans (m.mono (by first|omega|(simp;omega)|simp))).trans (n.mono (by first|omega|(simp;omega)|simp))).alloc (by first|omega|(simp;omega)|simp) _
 obtain⟨ld,rfl,bY,d0,b7⟩:=hcut;have ao:=s.below b7;clear s1 E b9
 go_wp2_with (first
  |(go_at_call_of 115 (Value.pointer g);((with_reducible refine ds (fG (g.heap.size+2) g R D _ ao.one (by omega)) ?_);rintro e L⟨rfl,aT⟩;have b1:=Z (ao.other (aT.fr g));have bB:=Z (ao.one.fr (aT.fr g) (lo:=g.heap.size) (dx _));clear aT)))
 ((with_reducible refine ds (fG (g.heap.size+2) (g.heap.size+1) T A _ b1.o (by omega)) ?_);rintro e w3⟨rfl,bd⟩;have bO:=Z (b1.o.fr (bd.fr (g.heap.size+1)) (lo:=g.heap.size) (by omega));clear bd)
 go_wp2_with fail;go_ret2;refine⟨b3.o _ (by rw[bY.o];simp),aC.trans ((b7.mono (by omega)).trans ((bB.o.mono (by omega)).trans (bO.o.mono (by omega))))⟩
attribute [local go_sem ↓] Go.wp_at_zero Go.wp_at_succ
theorem yo(r:aG)(v:Value)(w:eb)(b:eK 0 w w v r)(c:br r.fields):ex prog 62 #[v] w (Cx r w):=by
 obtain⟨x,rfl,a⟩:=b;cases h:(letterB r.kind&&letterB r.level)
 .exact lh r x w h
 simp only[Bool.and_eq_true]at h;exact np r x w a c h.1 h.2
theorem yp(r:aG):(cL r).2=wrongR r:=by
 unfold cL;split
 .rename_i h;rw[h]
 rfl
theorem yW(r:aG)(v:Value)(w:eb)(c:eK 0 w w v r)(g:br r.fields):
 ex prog 58 #[v] w λe w'=>e=dd (dq (decide (wrongR r=0)))/\Bw w w':=by
 have f:Hid (∀W,Bw w W->ex prog 62 #[v] W λe w'=>e=dd (.tuple #[S (cL r).1,(wrongR r)])/\Bw W w'):=λW b=>by have:=yo r v W ((c.kept (aW b (dx _))).mono (dx _) b.size) g;rw[<- yp];exact this
 obtain⟨x,rfl,d⟩:=c;obtain⟨a,h,rfl⟩:=d.shape;clear d;unfold eG at*;generalize wrongR r=e at*;generalize(cL r).1=s at*;go_enter func58,ntmps58;go_wp2_with (go_at_call 62;(refine ds (f.o _ (ar _ _)) ?_;rintro e w1⟨rfl,b⟩))
 go_ret;exact⟨am (by rw[Bool.eq_iff_iff];simp),btr (ar w _) b (by simp)⟩
theorem AO(c f d g:UInt8)(a b:List ag)(x y:Value)(w:eb)(i:ah 0 w w x a)(j:ah 0 w w y b)(h:br a):
 ex prog 87 #[.agg #[J dk c,J dk f,x],.agg #[J dk d,J dk g,y]] w λe w'=>e=dd (dq (sameR ⟨c,f,a⟩ ⟨d,g,b⟩))/\Bw w w':=
 AR ⟨c,f,a⟩ ⟨d,g,b⟩ _ _ w ⟨x,rfl,i⟩ ⟨y,rfl,j⟩ h
end
end Go.Proofs.YtjcimanddakkaaaGreatDoor
