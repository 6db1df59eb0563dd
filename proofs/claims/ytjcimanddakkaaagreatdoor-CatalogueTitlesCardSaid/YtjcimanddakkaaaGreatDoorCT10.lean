/- Lemmas. -/
import Derived.Test.YtjcimanddakkaaaGreatDoorCT4
import Derived.BigQuiet
set_option maxRecDepth 100000
set_option maxHeartbeats 8000000
namespace Go.Proofs.YtjcimanddakkaaaGreatDoor
open _root_.Option renaming some→X
open Go.Ending renaming returned→a0
open Go.Value renaming bool→a1,int→J,slice→a3
open Go.Lib renaming hid→Z
open Go.IntKind renaming u8→a2,i64→U
open Tryz
open Go.Calls renaming mono→aa
open _root_.UInt8 renaming toNat_lt→ad
open _root_.List renaming getD_cons_zero→al,drop_succ_cons→ao,length_cons→ax,drop_zero→az,getD_cons_succ→aT
open _root_.Nat renaming le_refl→au,le_trans→av
open Go.IntKind renaming u8→ay
open Go.Value renaming int→aC
open Go.Utf8 renaming decode→aS
section
open Go.RowKit
def fullB:Bs->Bool
 |[]=>false
 |b0::l=>decide (Lib.firstT b0%8<=l+1)||(match l with
  |[]=>false
  |b1::m=>decide (b1<Lib.accLo (Lib.firstT b0/16))||decide (Lib.accHi (Lib.firstT b0/16)<b1)||(match m with
   |[]=>false
   |b2::_=>decide (b2.toNat<128)||decide (191<b2.toNat)))
open Go.RowKit
def brokenTo(l:Bs):Nat->Nat
 |0=>0
 |k+1=>if brokenTo l k<k then brokenTo l k else if fullB (l.take (k+1))then k else k+1
theorem tp(l:Bs)(k n:Nat)(h:brokenTo l k=k)(a:fullB (l.take (k+1))=true)(hn:k<n):brokenTo l n=k:=by
 induction n with
 |zero=>omega
 |succ n ih=>
  by_cases hk:k=n
  .subst hk;unfold brokenTo;rw[h,if_neg (by omega),if_pos a]
  have:=ih (by omega);unfold brokenTo;rw[this,if_pos (by omega)]
def jS(l:Bs):Nat:=brokenTo l l
open Go.Lib
def bV:Ch->Bs->Nat->Except Nat Nat
 |x,[],i=>if x.left=0 then .ok i else .error i
 |x,c::l,i=>if x.left=0/\c.toNat<32 then .ok i else match chNext x c with
  |some y=>bV y l (i+1)
  |none=>.error i
theorem s7(x y:Ch)(a:x.left=0)(b:y.left=0)(c:UInt8):chNext x c=chNext y c:=by
 unfold chNext;simp[a,b]
theorem fq(x y:Ch)(a:x.left=0)(b:y.left=0)(l:Bs)(i:Nat):bV x l i=bV y l i:=by
 cases l with
 |nil=>simp[bV,a,b]
 |cons c l=>simp only[bV,a,b,s7 x y a b]
theorem iV(x:Ch)(a:0<x.left)(c:UInt8)(l:Bs)(i:Nat):bV x (c::l) i=if c<x.low∨x.high<c then .error i else bV ⟨x.left-1,128,191⟩ l (i+1):=by
 simp only[bV];rw[if_neg (by omega)];unfold chNext;simp only[a,if_true];by_cases h:c<x.low∨x.high<c
 .rw[if_pos h,if_pos h]
 rw[if_neg h,if_neg h]
theorem gS(x:Ch)(a:0<x.left)(i:Nat):bV x [] i=.error i:=by simp[bV];omega
structure tB(b0:UInt8)(sz lo hi:Nat):Prop where
 ch:chNext ch0 b0=some ⟨sz-1,lo,hi⟩
 big:¬b0.toNat<32
 f8:firstT b0%8=sz
 lo':accLo (firstT b0/16)=lo
 hi':accHi (firstT b0/16)=hi
 dec:∀n b1 b2 b3,1<=n->b1<256->b2<256->b3<256->decodeN n b0 b1 b2 b3=slowN n b0 b1 b2 b3 sz lo hi
 s2:2<=sz
 s4:sz<=4
 l1:128<=lo
 h1:hi<=191
def tS(a lo b:Nat):Bs->Nat×Bool
 |[]=>(1,false)
 |b1::r=>if b1<lo∨b<b1 then(1,false)else if a=2 then(2,true)else match r with
  |[]=>(2,false)
  |b2::q=>if b2.toNat<128∨191<b2.toNat then(2,false)else if a=3 then(3,true)else match q with
   |[]=>(3,false)
   |b3::_=>if b3.toNat<128∨191<b3.toNat then(3,false)else(4,true)
theorem wC{d:UInt8}{c lo e:Nat}(h:tB d c lo e)(m:Bs)(i j:Nat)(b:Bool)(a:tS c lo e m=(j,b)):
 bV ch0 (d::m) i=if b then bV ch0 ((d::m).drop j) (i+j)else .error (i+j):=by
 have g:=h.s2;have k:=h.s4;have f:bV ch0 (d::m) i=bV ⟨c-1,lo,e⟩ m (i+1):=by simp only[bV];rw[if_neg (by have:=h.big;omega),h.ch]
 rw[f];cases m with
 |nil=>cases a;rw[gS _ (by simp;omega)];rfl
 |cons b1 r=>
  rw[iV _ (by simp;omega)];simp only[tS]at a;by_cases c1:b1<lo∨e<b1
  .rw[if_pos c1]at a;cases a;rw[if_pos c1];rfl
  rw[if_neg c1]at a;rw[if_neg c1];by_cases z2:c=2
  .rw[if_pos z2]at a;cases a;simp only[if_true,ao,az];exact fq _ _ (by simp[z2]) rfl _ _
  rw[if_neg z2]at a;cases r with
  |nil=>cases a;rw[gS _ (by simp;omega)];rfl
  |cons b2 q=>
   rw[iV _ (by simp;omega)];simp only at a ⊢;by_cases c2:b2.toNat<128∨191<b2.toNat
   .rw[if_pos c2]at a;cases a;rw[if_pos c2];rfl
   rw[if_neg c2]at a;rw[if_neg c2];by_cases z3:c=3
   .rw[if_pos z3]at a;cases a;simp only[if_true,ao,az];exact fq _ _ (by simp[z3]) rfl _ _
   rw[if_neg z3]at a;cases q with
   |nil=>cases a;rw[gS _ (by simp;omega)];rfl
   |cons b3 p=>
    rw[iV _ (by simp;omega)];simp only at a ⊢;by_cases c3:b3.toNat<128∨191<b3.toNat
    .rw[if_pos c3]at a;cases a;rw[if_pos c3];rfl
    rw[if_neg c3]at a;cases a;rw[if_neg c3];simp only[if_true,ao,az];exact fq _ _ (by simp;omega) rfl _ _
theorem gC{l:Bs}{k:Nat}(d:k<l)(a:∀j,j<k->fullB (l.take (j+1))=false)(b:fullB (l.take (k+1))=true):jS l=k:=by
 have c:∀j,j<=k->brokenTo l j=j:=by
  intro j;induction j with
  |zero=>intro _;rfl
  |succ j ih=>intro e;unfold brokenTo;rw[ih (by omega),if_neg (by omega),a j (by omega)];rfl
 exact tp l k _ (c k (au _)) b d
theorem ik{l:Bs}(a:∀j,j<l.length->fullB (l.take (j+1))=false):jS l=l:=by
 have b:∀j,j<=l.length->brokenTo l j=j:=by
  intro j;induction j with
  |zero=>intro _;rfl
  |succ j ih=>intro c;unfold brokenTo;rw[ih (by omega),if_neg (by omega),a j (by omega)];rfl
 exact b _ (au _)
theorem ux{a:UInt8}{c lo b:Nat}(h:tB a c lo b):fullB [a]=false:=by
 have:=h.s2;simp[fullB,h.f8];omega
theorem uw{b:UInt8}{d lo c:Nat}(h:tB b d lo c)(a:UInt8):fullB [b,a]=(decide (d<=2)||(decide (a<lo)||decide (c<a))):=by
 simp[fullB,h.f8,h.lo',h.hi']
theorem uv{c:UInt8}{e lo d:Nat}(h:tB c e lo d)(a b:UInt8):fullB [c,a,b]=(decide (e<=3)||(decide (a<lo)||decide (d<a)||(decide (b.toNat<128)||decide (191<b.toNat)))):=by
 simp[fullB,h.f8,h.lo',h.hi']
theorem uu{a:UInt8}{f lo e:Nat}(h:tB a f lo e)(b c d:UInt8):fullB [a,b,c,d]=true:=by
 have:=h.s4;simp[fullB,h.f8];left;omega
theorem rn{c:UInt8}{f lo g:Nat}(h:tB c f lo g)(m:Bs)(k:Nat)(a:tS f lo g m=(k,false)):jS (c::m)=k:=by
 have o:=h.s2;have s:=h.s4;have d:=ux h;cases m with
 |nil=>
  cases a;refine(ik ?_).trans rfl;intro j b;have:j=0:=by simp at b;omega
  subst this;simpa using d
 |cons b1 r=>
  have i:=uw h b1;simp only[tS]at a;by_cases c1:b1<lo∨g<b1
  .rw[if_pos c1]at a;cases a;refine gC (by simp) ?_ ?_
   .intro j b;have:j=0:=by omega
    subst this;simpa using d
   show fullB [c,b1]=true;rw[i];simp;omega
  rw[if_neg c1]at a;by_cases z2:f=2
  .rw[if_pos z2]at a;cases a
  rw[if_neg z2]at a;have e:fullB [c,b1]=false:=by rw[i];simp;omega
  cases r with
  |nil=>
   cases a;refine(ik ?_).trans rfl;intro j b;have:j=0∨j=1:=by simp at b;omega
   rcases this with rfl|rfl
   .simpa using d
   simpa using e
  |cons b2 q=>
   have l:=uv h b1 b2;simp only at a;by_cases c2:b2.toNat<128∨191<b2.toNat
   .rw[if_pos c2]at a;cases a;refine gC (by simp) ?_ ?_
    .intro j b;have:j=0∨j=1:=by omega
     rcases this with rfl|rfl
     .simpa using d
     simpa using e
    show fullB [c,b1,b2]=true;rw[l];simp;omega
   rw[if_neg c2]at a;by_cases z3:f=3
   .rw[if_pos z3]at a;cases a
   rw[if_neg z3]at a;have n:fullB [c,b1,b2]=false:=by rw[l];simp;omega
   cases q with
   |nil=>
    cases a;refine(ik ?_).trans rfl;intro j b;have:j=0∨j=1∨j=2:=by simp at b;omega
    rcases this with rfl|rfl|rfl
    .simpa using d
    .simpa using e
    simpa using n
   |cons b3 p=>
    simp only at a;by_cases c3:b3.toNat<128∨191<b3.toNat;rotate_left
    .rw[if_neg c3]at a;cases a
    rw[if_pos c3]at a;cases a;refine gC (by simp) ?_ ?_
    .intro j b;have:j=0∨j=1∨j=2:=by omega
     rcases this with rfl|rfl|rfl
     .simpa using d
     .simpa using e
     simpa using n
    show fullB [c,b1,b2,b3]=true;exact uu h b1 b2 b3
theorem dI(a:UInt8)(m:Bs):decodeGo ⟨(a::m).toArray⟩=decodeN (m.length+1) a (m.getD 0 0).toNat (m.getD 1 0).toNat (m.getD 2 0).toNat:=by
 unfold decodeGo;have c:¬(⟨(a::m).toArray⟩:ByteArray).size=0:=by show¬(a::m).toArray.size=0;simp
 rw[if_neg c,decode_at];have b:∀k,((⟨(a::m).toArray⟩:ByteArray).get! k)=(a::m).getD k 0:=by intro k;show(a::m).toArray[k]! =_;rw[getElem!_def];simp only[List.getElem?_toArray,List.getD_eq_getElem?_getD];cases(a::m)[k]? <;>rfl
 rw[b,b,b,b];rfl
theorem rm{d:UInt8}{c lo e:Nat}(h:tB d c lo e)(m:Bs)(j:Nat)(b:Bool)(a:tS c lo e m=(j,b)):
 (b=true->(decodeGo ⟨(d::m).toArray⟩).2=j/\2<=j/\j<=m+1)/\(b=false->decodeGo ⟨(d::m).toArray⟩=(65533,1)):=by
 have f:=h.s2;have g:=h.s4;rw[dI,h.dec _ _ _ _ (by omega) (ad _) (ad _) (ad _)];unfold slowN;cases m with
 |nil=>cases a;exact⟨λh=>(by cases h),λ_=>if_pos (by simp;omega)⟩
 |cons b1 r=>
  simp only[tS]at a;simp only[ax,al];by_cases c1:b1<lo∨e<b1
  .rw[if_pos c1]at a;cases a;exact⟨λh=>(by cases h),λ_=>by simp[c1]⟩
  rw[if_neg c1]at a;simp only[if_neg c1];by_cases z2:c=2
  .rw[if_pos z2]at a;cases a;subst z2;refine⟨λ_=>⟨?_,by omega,by omega⟩,λh=>by cases h⟩;rw[if_neg (by omega)];rfl
  rw[if_neg z2]at a;cases r with
  |nil=>cases a;exact⟨λh=>(by cases h),λ_=>if_pos (by simp;omega)⟩
  |cons b2 q=>
   simp only[ax,al,aT]at a ⊢;by_cases c2:b2.toNat<128∨191<b2.toNat
   .rw[if_pos c2]at a;cases a;exact⟨λh=>(by cases h),λ_=>by simp[c2];intros;omega⟩
   rw[if_neg c2]at a;simp only[if_neg c2];by_cases z3:c=3
   .rw[if_pos z3]at a;cases a;subst z3;refine⟨λ_=>⟨?_,by omega,by omega⟩,λh=>by cases h⟩;rw[if_neg (by omega)];rfl
   rw[if_neg z3]at a;cases q with
   |nil=>cases a;exact⟨λh=>(by cases h),λ_=>if_pos (by simp;omega)⟩
   |cons b3 p=>
    simp only[ax,al]at a ⊢;by_cases c3:b3.toNat<128∨191<b3.toNat
    .rw[if_pos c3]at a;cases a;exact⟨λh=>(by cases h),λ_=>by rw[if_neg (by omega),if_neg (by omega),if_neg (by omega),if_pos c3]⟩
    rw[if_neg c3]at a;cases a;obtain rfl:c=4:=by omega
    refine⟨λ_=>⟨?_,by omega,by omega⟩,λh=>by cases h⟩;rw[if_neg (by omega),if_neg (by omega),if_neg (by omega),if_neg c3]
theorem BS{n:Nat}(h:194<=n/\n<224):firstT n=2:=by unfold firstT;rw[if_neg (by omega),if_neg (by omega),if_pos (by omega)]
theorem zS{n:Nat}(h:n=224):firstT n=19:=by subst h;rfl
theorem BR{n:Nat}(h:(225<=n/\n<237)∨(238<=n/\n<240)):firstT n=3:=by
 unfold firstT;rcases h with h|h
 .rw[if_neg (by omega),if_neg (by omega),if_neg (by omega),if_neg (by omega),if_pos (by omega)]
 rw[if_neg (by omega),if_neg (by omega),if_neg (by omega),if_neg (by omega),if_neg (by omega),if_neg (by omega),if_pos (by omega)]
theorem zR{n:Nat}(h:n=237):firstT n=35:=by subst h;rfl
theorem zQ{n:Nat}(h:n=240):firstT n=52:=by subst h;rfl
theorem BQ{n:Nat}(h:241<=n/\n<244):firstT n=4:=by
 unfold firstT;rw[if_neg (by omega),if_neg (by omega),if_neg (by omega),if_neg (by omega),if_neg (by omega),if_neg (by omega),if_neg (by omega),if_neg (by omega),if_pos (by omega)]
theorem zP{n:Nat}(h:n=244):firstT n=68:=by subst h;rfl
theorem xC{n:Nat}(h:(128<=n/\n<194)∨245<=n):firstT n=241:=by
 unfold firstT;rcases h with h|h
 .rw[if_neg (by omega),if_pos (by omega)]
 rw[if_neg (by omega),if_neg (by omega),if_neg (by omega),if_neg (by omega),if_neg (by omega),if_neg (by omega),if_neg (by omega),if_neg (by omega),if_neg (by omega),if_neg (by omega)]
theorem uy(a:UInt8):a.toNat<128∨((128<=a.toNat/\a.toNat<194)∨245<=a.toNat)∨∃k lo j,tB a k lo j:=by
 have l:=a.toNat_lt;rcases Nat.lt_or_ge a 128 with h|h
 .exact .inl h
 right;rcases(show((128<=a.toNat/\a.toNat<194)∨245<=a.toNat)∨(194<=a.toNat/\a.toNat<224)∨a.toNat=224∨((225<=a.toNat/\a.toNat<237)∨(238<=a.toNat/\a.toNat<240))∨a.toNat=237∨a.toNat=240∨(241<=a.toNat/\a.toNat<244)∨a.toNat=244 by omega)with h|h|h|h|h|h|h|h
 .exact .inl h
 all_goals right
 .have b:firstT a=2:=BS h;refine⟨2,128,191,Ag (by simp[ch0]) h,by omega,by rw[b],by rw[b];rfl,by rw[b];rfl,λn c d e hn f g i=>(slow_C2 n _ c d e hn f g i h).symm,by omega,by omega,by omega,by omega⟩
 .have b:firstT a=19:=zS h;refine⟨3,160,191,Cu (by simp[ch0]) h,by omega,by rw[b],by rw[b];rfl,by rw[b];rfl,λn c d e hn f g i=>(slow_E0 n _ c d e hn f g i h).symm,by omega,by omega,by omega,by omega⟩
 .have b:firstT a=3:=BR h;refine⟨3,128,191,Cs (by simp[ch0]) (by omega),by omega,by rw[b],by rw[b];rfl,by rw[b];rfl,λn c d e hn f g i=>(slow_E1 n _ c d e hn f g i h).symm,by omega,by omega,by omega,by omega⟩
 .have b:firstT a=35:=zR h;refine⟨3,128,159,Ct (by simp[ch0]) h,by omega,by rw[b],by rw[b];rfl,by rw[b];rfl,λn c d e hn f g i=>(slow_ED n _ c d e hn f g i h).symm,by omega,by omega,by omega,by omega⟩
 .have b:firstT a=52:=zQ h;refine⟨4,144,191,Cr (by simp[ch0]) h,by omega,by rw[b],by rw[b];rfl,by rw[b];rfl,λn c d e hn f g i=>(slow_F0 n _ c d e hn f g i h).symm,by omega,by omega,by omega,by omega⟩
 .have b:firstT a=4:=BQ h;refine⟨4,128,191,Cp (by simp[ch0]) (by omega),by omega,by rw[b],by rw[b];rfl,by rw[b];rfl,λn c d e hn f g i=>(slow_F1 n _ c d e hn f g i h).symm,by omega,by omega,by omega,by omega⟩
 have b:firstT a=68:=zP h;refine⟨4,128,143,Cq (by simp[ch0]) h,by omega,by rw[b],by rw[b];rfl,by rw[b];rfl,λn c d e hn f g i=>(slow_F4 n _ c d e hn f g i h).symm,by omega,by omega,by omega,by omega⟩
def ey(r:Nat×Nat):Bool:=decide (r.1=65533)&&decide (r.2<2)
theorem sL(a:UInt8)(m:Bs)(n:32<=a.toNat)(i:Nat):
 (ey (decodeGo ⟨(a::m).toArray⟩)=true->bV ch0 (a::m) i=.error (i+jS (a::m)))/\
 (ey (decodeGo ⟨(a::m).toArray⟩)=false->1<=(decodeGo ⟨(a::m).toArray⟩).2/\(decodeGo ⟨(a::m).toArray⟩).2<=m+1/\bV ch0 (a::m) i=bV ch0 ((a::m).drop (decodeGo ⟨(a::m).toArray⟩).2) (i+(decodeGo ⟨(a::m).toArray⟩).2)):=by
 rcases uy a with h|h|⟨q,lo,p,h⟩
 .have d:decodeGo ⟨(a::m).toArray⟩=(a.toNat,1):=by rw[dI];unfold decodeN;rw[if_pos h]
  rw[d];constructor
  .intro c;simp[ey]at c;omega
  intro _;refine⟨by simp,by simp,?_⟩;simp only[bV];rw[if_neg (by omega),sW (by simp[ch0]) ⟨n,h⟩];simp only[ao,az];exact fq _ _ rfl rfl _ _
 .have d:decodeGo ⟨(a::m).toArray⟩=(65533,1):=by
   rw[dI];unfold decodeN;rw[if_neg (by omega)];by_cases g1:a.toNat/32=6/\1<m.length+1/\(m.getD 0 0).toNat/64=2
   .rw[if_pos g1,if_neg (by omega)]
   rw[if_neg g1,if_neg (by omega)];by_cases g3:a.toNat/8=30/\(1<m.length+1/\(m.getD 0 0).toNat/64=2)/\(2<m.length+1/\(m.getD 1 0).toNat/64=2)/\(3<m.length+1/\(m.getD 2 0).toNat/64=2)
   .rw[if_pos g3,if_neg (by omega)]
   rw[if_neg g3]
  rw[d];have o:jS (a::m)=0:=by refine gC (by simp) (λj s=>by omega) ?_;have:firstT a=241:=xC h;simp[fullB,this]
  constructor
  .intro _;simp only[bV];rw[if_neg (by omega),lI (by simp[ch0]) (by omega),o];rfl
  intro c;simp[ey]at c
 cases hs:tS q lo p m with
 |mk j b=>
  obtain⟨f,g⟩:=rm h m j b hs;have e:=wC h m i j b hs;cases b
  .rw[g rfl];constructor
   .intro _;rw[e,rn h m j hs];rfl
   intro c;simp[ey]at c
  obtain⟨k,r,l⟩:=f rfl;constructor
  .intro c;simp only[ey,Bool.and_eq_true,decide_eq_true_eq]at c;omega
  intro _;rw[k];exact⟨by omega,l,by rw[e];rfl⟩
open Go.Lib
def zm(r:Except Nat Nat)(n:Nat):Bool:=match r with
 | .ok k=>decide (k=n)
 | .error _=>false
theorem oG:∀(l:Bs)(x:Ch)(i:Nat),(match chRun x l with
 |some y=>decide (y.left=0)
 |none=>false)=zm (bV x l i) (i+l)
 |[],x,i=>by
  simp only[chRun,bV]
  by_cases h:x.left=0<;>simp[h,zm]
 |c::l,x,i=>by
  simp only[chRun,bV]
  by_cases h:x.left=0/\c.toNat<32
  .rw[if_pos h,lI (by omega) (.inl h.2)]
   simp[zm]
  .rw[if_neg h]
   cases hn:chNext x c with
   |none=>simp[zm]
   |some y=>
    simp only
    rw[oG l y (i+1)]
    rw[show i+1+l=i+(c::l).length from by simp;omega]
theorem mH(l:Bs)(i:Nat):be l=zm (bV ch0 l i) (i+l):=by
 unfold be;exact oG l ch0 i
theorem uC(a:UInt8)(m:Bs)(h:a.toNat<32):be (a::m)=false:=by
 unfold be;rw[chRun,lI (by simp[ch0]) (.inl h)]
theorem sv(a:UInt8)(m:Bs)(g:32<=a.toNat):
 (ey (decodeGo ⟨(a::m).toArray⟩)=true->be (a::m)=false)/\
 (ey (decodeGo ⟨(a::m).toArray⟩)=false->1<=(decodeGo ⟨(a::m).toArray⟩).2/\(decodeGo ⟨(a::m).toArray⟩).2<=m+1/\be (a::m)=be ((a::m).drop (decodeGo ⟨(a::m).toArray⟩).2)):=by
 obtain⟨e,f⟩:=sL a m g 0;constructor
 .intro h;rw[mH _ 0,e h];rfl
 intro h;obtain⟨b,c,d⟩:=f h;refine⟨b,c,?_⟩;rw[mH (a::m) 0,d,mH _ (0+(decodeGo ⟨(a::m).toArray⟩).2)];congr 1
 rw[List.length_drop,show 0+(decodeGo ⟨(a::m).toArray⟩).2+((a::m).length-(decodeGo ⟨(a::m).toArray⟩).2)=0+(a::m).length from by simp only[ax]at*;omega]
theorem zJ(l:Bs)(i:Nat):(⟨l.toArray⟩:ByteArray).get! i=l.getD i 0:=by
 show(l.toArray)[i]! =_;simp[getElem!_def,List.getD];cases l[i]? <;>rfl
theorem sO(l:Bs)(p:Nat)(h:p<l):aS ⟨l.toArray⟩ p=decodeGo ⟨(l.drop p).toArray⟩:=by
 unfold decodeGo;rw[if_neg (by show¬(l.drop p).toArray.size=0;simp;omega),decode_at,decode_at];simp only[zJ];have e:∀j,(l.drop p).getD j 0=l.getD (p+j) 0:=λj=>by simp[List.getD]
 rw[e,e,e,e];show decodeN (l.toArray.size-p) _ _ _ _=decodeN ((l.drop p).toArray.size-0) _ _ _ _;simp
theorem sP{n a b c d:Nat}(h:(decodeN n a b c d).1<128):a=(decodeN n a b c d).1:=by
 revert h;unfold decodeN;repeat' split
 all_goals(simp;try omega)
theorem qE{n a b c d:Nat}(e:a<256)(f:b<256)(g:c<256)(h:(decodeN n a b c d).1=65533):
 (decodeN n a b c d).2<2∨(a=239/\b=191/\c=189/\2<n):=by
 have i:=e;have j:=f;have k:=g;revert h;unfold decodeN;repeat' split
 all_goals(simp;try omega)
theorem qD(n a:Nat)(h:2<n):decodeN n 239 191 189 a=(65533,3):=by
 unfold decodeN;rw[if_neg (by omega),if_neg (by omega),if_pos ⟨by omega,⟨by omega,by omega⟩,⟨by omega,by omega⟩⟩];simp
def gh(l:Bs):Bool:=decide ((decodeGo ⟨l.toArray⟩).1<32)||(decide ((decodeGo ⟨l.toArray⟩).1=65533)&& !pS [239,191,189] l)
theorem tX(a:UInt8)(m:Bs)(n:32<=a.toNat):gh (a::m)=ey (decodeGo ⟨(a::m).toArray⟩):=by
 unfold gh ey;rw[dI];have l:¬(decodeN (m.length+1) a (m.getD 0 0).toNat (m.getD 1 0).toNat (m.getD 2 0).toNat).1<32:=λh=>by have:=sP (Nat.lt_trans h (by omega));omega
 rw[decide_eq_false l,Bool.false_or];by_cases hr:(decodeN (m.length+1) a (m.getD 0 0).toNat (m.getD 1 0).toNat (m.getD 2 0).toNat).1=65533;rotate_left
 .rw[decide_eq_false hr,Bool.false_and,Bool.false_and]
 rw[decide_eq_true hr,Bool.true_and,Bool.true_and];have f:=qE (ad _) (ad _) (ad _) hr;by_cases hp:pS [239,191,189] (a::m)=true
 .rw[hp];have e:(a::m).take 3=[239,191,189]:=by simpa[pS]using hp
  match m,e with
  |m0::m1::q,e=>
   simp only[List.take_succ_cons,List.take_zero,List.cons.injEq,and_true]at e;obtain⟨rfl,rfl,rfl⟩:=e;have:=qD ((191::189::q:Bs).length+1) (((191::189::q:Bs).getD 2 0).toNat) (by simp);simp only[al,aT]at this ⊢;erw [this]
   rfl
 rw[Bool.not_eq_true]at hp;rw[hp];rcases f with f|⟨k,c,d,b⟩
 .rw[decide_eq_true f];rfl
 exfalso;match m,c,d,b with
 |m0::m1::q,c,d,b=> have g:a=239:=UInt8.toNat_inj.mp (by rw[k];rfl);have i:m0=191:=UInt8.toNat_inj.mp (by simpa using c);have j:m1=189:=UInt8.toNat_inj.mp (by simpa using d);subst g i j;simp[pS]at hp
 |[m0],c,d,b=>simp at b
 |[],c,d,b=>simp at b
theorem wN(a:UInt8)(m:Bs):(gh (a::m)=true->be (a::m)=false)/\
 (gh (a::m)=false->1<=(decodeGo ⟨(a::m).toArray⟩).2/\(decodeGo ⟨(a::m).toArray⟩).2<=m+1/\be (a::m)=be ((a::m).drop (decodeGo ⟨(a::m).toArray⟩).2)):=by
 by_cases hb:32<=a.toNat
 .rw[tX a m hb];exact sv a m hb
 have b:(decodeGo ⟨(a::m).toArray⟩)=(a.toNat,1):=by rw[dI];unfold decodeN;rw[if_pos (by omega)]
 have:gh (a::m)=true:=by unfold gh;rw[b];simp;omega
 rw[this];exact⟨λ_=>uC a m (by omega),λh=>by cases h⟩
open Go.RowKit
theorem jg{w:World}{k:Nat}{s:ByteArray}{p:Nat}(h:w.heap[k]?=X (.stringIter s p)):w.iterPos k=p:=by simp[World.iterPos,h]
theorem oH(l:Bs)(w:World)(E:l.length<=1000000000):Calls prog 155 #[S l] w λe w'=>e=a0 (a1 (be l))/\Bw w w':=by
 go_enter func155,ntmps155;go_wp2_with fail;go_loopw [3] (λv wr=>∃(a:Nat),wr.heap[w.heap.size]?=X (.stringIter ⟨l.toArray⟩ a)/\Bw w wr/\a<=l/\Hid (be l=be (l.drop a))) (λ_ wr=>l-wr.iterPos w)
 exact⟨0,World.iter_heap w _ 0,(Below.refl _ _).alloc (au _) _,by omega,rfl⟩;obtain⟨a,g,q,G,i⟩:=hrel;have y:=jg g;by_cases hp:a<l;rotate_left
 .have t:∀d,(Instr.next (.pointer w) true d).run prog wr=_:=λd=>Lib.run_next_end_at wr w ⟨l.toArray⟩ a d g hp;have b:Hid (be l=true):=by rw[i.o,List.drop_eq_nil_of_le (by omega)];rfl
  clear g;go_wp2_with fail;go_ret;exact⟨am b.symm,q⟩
 have t:∀d,(Instr.next (.pointer w) true d).run prog wr=_:=λd=>Lib.run_next_any_at wr w ⟨l.toArray⟩ a d g hp;have h:=Lib.iterAt_heap wr w ⟨l.toArray⟩ a (a+(aS ⟨l.toArray⟩ a).2) g;have f:=Lib.below_iterAt q (k:=w.heap.size) (au _) ⟨l.toArray⟩ (a+(aS ⟨l.toArray⟩ a).2);obtain⟨c,m,s⟩:∃c m,l.drop a=c::m:=⟨l[a],l.drop (a+1),List.drop_eq_getElem_cons hp⟩;have n:=wN c m;rw[<- s]at n;have F:m+1=l-a:=by have:=congrArg List.length s;simpa using this.symm
 unfold gh at n;rw[sO l a hp]at t h f;obtain⟨u,x⟩:∃u,u=wr.iterAt w ⟨l.toArray⟩ (a+(Lib.decodeGo ⟨(l.drop a).toArray⟩).2):=⟨_,rfl⟩;rw[<- x]at t h f;generalize(Lib.decodeGo ⟨(l.drop a).toArray⟩).1=r at*;generalize(Lib.decodeGo ⟨(l.drop a).toArray⟩).2=z at*;have j:=Z n;clear x g q n s;by_cases h1:r<32
 .have b:Hid (be l=false):=by rw[i.o];exact j.o.1 (by simp[h1])
  go_wp2_with fail;go_ret;exact⟨am b.symm,f⟩
 have D:¬(r:Int)<32:=by omega
 by_cases h2:r=65533;rotate_left
 .have A:¬(r:Int)=65533:=by omega
  obtain⟨B,C,b⟩:=j.o.2 (by simp[h1,h2]);rw[List.drop_drop]at b;have o:=Z (i.trans b);clear b;go_wp2_with fail;go_roundw;exact⟨a+z,h,f,by omega,o⟩;rw[y,jg h];omega
 have A:(r:Int)=65533:=by omega
 cases hx:pS [239,191,189] (l.drop a)
 .have b:Hid (be l=false):=by rw[i.o];exact j.o.1 (by simp[h2,hx])
  have p:=Z hx;clear hx;go_wp2_with (go_at_call 205;(refine aa (gv (l.drop a) [239,191,189] _) ?_;rintro e w'⟨rfl,rfl⟩;rw[p.o]))
  go_ret;exact⟨am b.symm,f⟩
 obtain⟨B,C,b⟩:=j.o.2 (by simp[h2,hx]);have p:=Z hx;clear hx;rw[List.drop_drop]at b;have o:=Z (i.trans b);clear b;go_wp2_with (go_at_call 205;(refine aa (gv (l.drop a) [239,191,189] _) ?_;rintro e w'⟨rfl,rfl⟩;rw[p.o]))
 go_roundw
 case rel=>exact⟨a+z,h,f,by omega,o⟩
 rw[y,jg h];omega
open Go.RowKit
end
section
open Go.RowKit
attribute [local go_sem ↓] Go.wp_at_zero Go.wp_at_succ
theorem we(c:UInt8)(t:Bs)(w:World)(d:t.length<=1000000000):Calls prog 158 #[.agg #[J a2 c,S t]] w λe w'=>e=a0 (a1 (!(be t&&fu c)))/\Bw w w':=by
 have a:=Z (λW=>oH t W d);cases hs:fu c
 .go_enter func158,ntmps158;go_wp2_with (go_at_call 159;(refine aa (pG c _) ?_;rintro e w'⟨rfl,rfl⟩;rw[hs]))
  go_ret;exact⟨am (by simp),ar _ _⟩
 go_enter func158,ntmps158
 go_wp2_with (first
  |(go_at_call 159;((with_reducible refine aa (pG c _) ?_);rintro e w'⟨rfl,rfl⟩;rw[hs]))
  |(go_at_call 155;((with_reducible refine aa (a.o _) ?_);rintro e w'⟨rfl,b⟩)))
 go_ret;exact⟨am (by simp),btr (ar _ _) b (by simp)⟩
theorem zE(v:Value)(c:List cH)(w:World)(r:aE 0 w w v c)(hn:c.length<=1000000)(p:∀s∈c,s.text.length<=1000000000):
 Calls prog 206 #[v,.func (.func 158) #[] #[]] w λe w'=>(∃k:Int,e=a0 k/\(0<=k↔c.all dF=false))/\Bw w w':=by
 have x:=Z r;have u:=Z p;obtain⟨a,A,rfl,_⟩:=r;clear p;go_enter func206,ntmps206;go_wp2_with fail;go_loopw [8] (λi wr=>∃(k:Nat),k<=c/\i=J U k/\Hid ((c.take k).all dF=true)/\Bw w wr) (λi _=>c-(intOf i).toNat)
 exact⟨0,Nat.zero_le _,rfl,rfl,Below.refl _ _⟩;obtain⟨k,H,rfl,m,d⟩:=hrel;by_cases hlt:k<c;rotate_left
 .go_wp2_with fail;go_ret;refine⟨⟨-1,rfl,?_⟩,d⟩;have:=m.o;rw[List.take_of_length_le (by omega)]at this;rw[this];simp
 have t:aE 0 w wr (Value.slice a c A) c:=x.kept (aW d (au _));obtain⟨b,L,F,D,G,_,I,K⟩:=t.sub k hlt;cases D;have l:=List.getElem_mem hlt;have o:=Z (λW=>we c[k].code c[k].text W (u _ l));have y:Hid ((c.take (k+1)).all dF=(be c[k].text&&fu c[k].code)):=by rw[List.take_succ_eq_append_getElem hlt,List.all_append,m.o];simp[dF,Hid]
 have n:Hid ((be c[k].text&&fu c[k].code)=false->c.all dF=false):=λh=>by
  have:¬(c.all dF=true):=λB=>by have:=List.all_eq_true.mp B _ l;unfold dF at this;rw[h]at this;cases this
  simpa using this
 clear l t;generalize c[k].text=T at*;generalize c[k].code=C at*;generalize hq:(be T&&fu C)=q at*;clear hq;cases q
 .obtain⟨f,g⟩:∃f:Prop,f=(c.all dF=false):=⟨_,rfl⟩;have E:f:=g▸n.o rfl;have z:Hid (f->c.all dF=false):=λh=>g▸h;clear n g;go_wp2_with (go_at_call 158;(refine aa (o.o _) ?_;rintro e w'⟨rfl,j⟩))
  go_ret;exact⟨⟨k,rfl,⟨λ_=>z E,λ_=>Int.natCast_nonneg _⟩⟩,btr d j d.size⟩
 go_wp2_with (go_at_call 158;(refine aa (o.o _) ?_;rintro e w'⟨rfl,j⟩))
 go_roundw
 case rel=>exact⟨k+1,by omega,by go_num,y,btr d j d.size⟩
 simp[intOf];omega
theorem sS(v:Value)(b:List cH)(w:World)(f:aE 0 w w v b)(hn:b.length<=1000000)(i:∀s∈b,s.text.length<=1000000000):
 Calls prog 157 #[v,.func (.func 158) #[] #[]] w λe w'=>e=a0 (a1 (!b.all dF))/\Bw w w':=by
 have H:=Z (zE v b w f hn i);obtain⟨a,j,rfl,_⟩:=f;go_enter func157,ntmps157;cases hq:b.all dF
 .go_wp2_with (go_at_call 206;(refine aa H.o ?_;rintro e w'⟨⟨k,rfl,c⟩,d⟩;have g:0<=k:=c.mpr hq;clear c))
  go_ret;exact⟨am (by simp;try omega),d⟩
 go_wp2_with (go_at_call 206;(refine aa H.o ?_;rintro e w'⟨⟨k,rfl,c⟩,d⟩;have g:¬0<=k:=(λh=>by have:=c.mp h;rw[hq]at this;cases this);clear c))
 go_ret;exact⟨am (by simp;try omega),d⟩
open Go.RowKit
theorem o7(f:ag)(d:Value)(w:World)(h:bJ f.tag=false):
 Calls prog 110 #[fieldV f d] w λe w'=>e=a0 (wrongF f)/\Bw w w':=by
 have c:=Z (yt f h);obtain⟨g,l,i,m⟩:=f;simp only at h;have a:=Z (λW=>tN g W);rw[h]at a;unfold fieldV;go_enter func110,ntmps110;go_wp2_with (go_at_call 153;(refine aa (a.o _) ?_;rintro e w1⟨rfl,b⟩;obtain⟨j,k⟩:=aq b))
 go_ret;exact⟨aI c.o.symm,btr (ar _ _) b (by simp)⟩
theorem nl(f:ag)(d:Value)(w:World)(A:∃a v,d=a3 a f.subs v)(B:(fieldBytes f).length<=1000000)(h:bJ f.tag=true)(l:fR f.tag=true):
 Calls prog 110 #[fieldV f d] w λe w'=>e=a0 (wrongF f)/\Bw w w':=by
 have g:=Z (vh f h l);obtain⟨a,v,rfl⟩:=A;have r:=bS f 0;obtain⟨z,s,m,t⟩:=f;simp only at h l r;have x:m.length<=1000000000:=by simp at r;omega
 have k:=Z (λW=>tN z W);rw[h]at k;have j:=Z (λW=>mR z W);rw[l]at j;have i:=Z (λW=>oH m W x);clear r B x h l;unfold fieldV;cases ht:be m
 .rw[ht]at i g;go_enter func110,ntmps110
  go_wp2_with first
   |(go_at_call 153;((with_reducible refine aa (k.o _) ?_);rintro e w1⟨rfl,b⟩;obtain⟨n,p⟩:=aq b))
   |(go_at_call 154;((with_reducible refine aa (j.o _) ?_);rintro e w'⟨rfl,rfl⟩))
   |(go_at_call 155;((with_reducible refine aa (i.o _) ?_);rintro e u⟨rfl,c⟩;obtain⟨o,q⟩:=aq c))
  go_ret;exact⟨aI (g.o.trans (by simp)).symm,btr (btr (ar _ _) b (by simp)) c (av (by simp) b.size)⟩
 rw[ht]at i g;by_cases hi:s=[];rotate_left
 .have C:(s==[])=false:=by simpa using hi
  have D:s.isEmpty=false:=by simpa using hi
  go_enter func110,ntmps110
  go_wp2_with first
   |(go_at_call 153;((with_reducible refine aa (k.o _) ?_);rintro e w1⟨rfl,b⟩;obtain⟨n,p⟩:=aq b;have y:w.heap.size<w1:=(by have:=b.size;simp at this;omega)))
   |(go_at_call 154;((with_reducible refine aa (j.o _) ?_);rintro e w'⟨rfl,rfl⟩))
   |(go_at_call 155;((with_reducible refine aa (i.o _) ?_);rintro e u⟨rfl,c⟩;obtain⟨o,q⟩:=aq c))
  all_goals go_ret
  all_goals exact⟨aI (g.o.trans (by simp[hi])).symm,btr (btr (ar _ _) b (by simp)) c (av (by simp) b.size)⟩
 subst hi;by_cases hs:t=[]
 .subst hs;go_enter func110,ntmps110
  go_wp2_with first
   |(go_at_call 153;((with_reducible refine aa (k.o _) ?_);rintro e w1⟨rfl,b⟩;obtain⟨n,p⟩:=aq b;have y:w.heap.size<w1:=(by have:=b.size;simp at this;omega)))
   |(go_at_call 154;((with_reducible refine aa (j.o _) ?_);rintro e w'⟨rfl,rfl⟩))
   |(go_at_call 155;((with_reducible refine aa (i.o _) ?_);rintro e u⟨rfl,c⟩;obtain⟨o,q⟩:=aq c))
  all_goals go_ret
  all_goals exact⟨aI (g.o.trans (by simp)).symm,btr (btr (ar _ _) b (by simp)) c (av (by simp) b.size)⟩
 have E:0<t.length:=List.length_pos_iff.mpr hs;have F:((t.length:Int)==0)=false:=beq_eq_false_iff_ne.2 (by omega);go_enter func110,ntmps110
 go_wp2_with first
  |(go_at_call 153;((with_reducible refine aa (k.o _) ?_);rintro e w1⟨rfl,b⟩;obtain⟨n,p⟩:=aq b;have y:w.heap.size<w1:=(by have:=b.size;simp at this;omega)))
  |(go_at_call 154;((with_reducible refine aa (j.o _) ?_);rintro e w'⟨rfl,rfl⟩))
  |(go_at_call 155;((with_reducible refine aa (i.o _) ?_);rintro e u⟨rfl,c⟩;obtain⟨o,q⟩:=aq c))
 all_goals go_ret
 all_goals exact⟨aI (g.o.trans (by simp[hs])).symm,btr (btr (ar _ _) b (by simp)) c (av (by simp) b.size)⟩
theorem nk(f:ag)(d:Value)(w:World)(B:aE 0 w w d f.subs)(F:(fieldBytes f).length<=1000000)(hn:f.subs.length<=1000000)(h:bJ f.tag=true)(A:fR f.tag=false):
 Calls prog 110 #[fieldV f d] w λe w'=>e=a0 (wrongF f)/\Bw w w':=by
 have o:=Z (pg f h A);have D:=Z (λi h=>av (vk f i h) F);obtain⟨k,r,z,c⟩:=f;simp only at h A B hn
 have C:Hid (∀W,Bw w W->Calls prog 157 #[d,.func (.func 158) #[] #[]] W λe w'=>e=a0 (a1 (!c.all dF))/\Bw W w'):=λW b=>
  sS d c W ((B.kept (aW b (au _))).mono (au _) b.size) hn (λs H=>by
   obtain⟨i,x,rfl⟩:=List.getElem_of_mem H
   have:=D i x
   simp only at this
   omega)
 have m:=Z (λW=>tN k W);rw[h]at m;have l:=Z (λW=>mR k W);rw[A]at l;obtain⟨a,K,rfl,_⟩:=B;clear F h A D;unfold fieldV;by_cases hd0:z=[];rotate_left
 .have M:(z==[])=false:=by simpa using hd0
  have N:z.isEmpty=false:=by simpa using hd0
  have j:Hid (wrongF ⟨k,r,z,c⟩=14):=by rw[o.o];simp[hd0,Hid]
  clear o;go_enter func110,ntmps110
  go_wp2_with first
   |(go_at_call 153;((with_reducible refine aa (m.o _) ?_);rintro e w1⟨rfl,b⟩;obtain⟨u,v⟩:=aq b;have y:w.heap.size<w1:=(by have:=b.size;simp at this;omega)))
   |(go_at_call 154;((with_reducible refine aa (l.o _) ?_);rintro e w'⟨rfl,rfl⟩))
  go_ret;exact⟨aI j.o.symm,btr (ar _ _) b (by simp)⟩
 subst hd0;by_cases x:r.length=2;rotate_left
 .have P:((r.length:Int)==2)=false:=by simp;omega
  have j:Hid (wrongF ⟨k,r,[],c⟩=14):=by rw[o.o];simp[iM,x,Hid]
  clear o;go_enter func110,ntmps110
  go_wp2_with first
   |(go_at_call 153;((with_reducible refine aa (m.o _) ?_);rintro e w1⟨rfl,b⟩;obtain⟨u,v⟩:=aq b;have y:w.heap.size<w1:=(by have:=b.size;simp at this;omega)))
   |(go_at_call 154;((with_reducible refine aa (l.o _) ?_);rintro e w'⟨rfl,rfl⟩))
  go_ret;exact⟨aI j.o.symm,btr (ar _ _) b (by simp)⟩
 obtain⟨p,q,rfl⟩:∃p q,r=[p,q]:=by
  match r,x with
  |[p,q],_=>exact⟨p,q,rfl⟩
 clear x;have n:=Z (λW=>sB p W);have t:=Z (λW=>sB q W);have g:Hid (wrongF ⟨k,[p,q],[],c⟩=if gu p&&gu q&& !c.isEmpty&&c.all dF then 0 else 14):=by rw[o.o];simp[iM,Hid]
 clear o;by_cases hse:c=[]
 .have j:Hid (wrongF ⟨k,[p,q],[],c⟩=14):=by rw[g.o,hse];simp[Hid]
  have R:((c.length:Int)==0)=true:=by simp[hse]
  have I:¬(0:Int)<c:=by simp[hse]
  clear g hse;go_enter func110,ntmps110
  go_wp2_with first
   |(go_at_call 153;((with_reducible refine aa (m.o _) ?_);rintro e w1⟨rfl,b⟩;obtain⟨u,v⟩:=aq b;have y:w.heap.size<w1:=(by have:=b.size;simp at this;omega)))
   |(go_at_call 154;((with_reducible refine aa (l.o _) ?_);rintro e w'⟨rfl,rfl⟩))
  go_ret;exact⟨aI j.o.symm,btr (ar _ _) b (by simp)⟩
 have Q:0<c.length:=List.length_pos_iff.mpr hse;have I:(0:Int)<c:=by omega
 have G:c.isEmpty=false:=by simpa using hse
 rw[G]at g;clear hse;cases hp:gu p
 .rw[hp]at n g;have j:Hid (wrongF ⟨k,[p,q],[],c⟩=14):=by rw[g.o];simp[Hid]
  clear g;go_enter func110,ntmps110
  go_wp2_with first
   |(go_at_call 153;((with_reducible refine aa (m.o _) ?_);rintro e w1⟨rfl,b⟩;obtain⟨u,v⟩:=aq b;have y:w.heap.size<w1:=(by have:=b.size;simp at this;omega)))
   |(go_at_call 154;((with_reducible refine aa (l.o _) ?_);rintro e w'⟨rfl,rfl⟩))
   |(go_at_call_of 156 (aC ay p);((with_reducible refine aa (n.o _) ?_);rintro e w'⟨rfl,rfl⟩))
   |(go_at_call_of 156 (aC ay q);((with_reducible refine aa (t.o _) ?_);rintro e w'⟨rfl,rfl⟩))
  go_ret;exact⟨aI j.o.symm,btr (ar _ _) b (by simp)⟩
 cases hq:gu q
 .rw[hp]at n g;rw[hq]at t g;have j:Hid (wrongF ⟨k,[p,q],[],c⟩=14):=by rw[g.o];simp[Hid]
  clear g;go_enter func110,ntmps110
  go_wp2_with first
   |(go_at_call 153;((with_reducible refine aa (m.o _) ?_);rintro e w1⟨rfl,b⟩;obtain⟨u,v⟩:=aq b;have y:w.heap.size<w1:=(by have:=b.size;simp at this;omega)))
   |(go_at_call 154;((with_reducible refine aa (l.o _) ?_);rintro e w'⟨rfl,rfl⟩))
   |(go_at_call_of 156 (aC ay p);((with_reducible refine aa (n.o _) ?_);rintro e w'⟨rfl,rfl⟩))
   |(go_at_call_of 156 (aC ay q);((with_reducible refine aa (t.o _) ?_);rintro e w'⟨rfl,rfl⟩))
  go_ret;exact⟨aI j.o.symm,btr (ar _ _) b (by simp)⟩
 rw[hp]at n g;rw[hq]at t g;cases ha:c.all dF
 all_goals
  rw[ha]at C g
  go_enter func110,ntmps110
  go_wp2_with first
   |(go_at_call 153;((with_reducible refine aa (m.o _) ?_);rintro e w1⟨rfl,b⟩;obtain⟨u,v⟩:=aq b;have y:w.heap.size<w1:=(by have:=b.size;simp at this;omega)))
   |(go_at_call 154;((with_reducible refine aa (l.o _) ?_);rintro e w'⟨rfl,rfl⟩))
   |(go_at_call_of 156 (aC ay p);((with_reducible refine aa (n.o _) ?_);rintro e w'⟨rfl,rfl⟩))
   |(go_at_call_of 156 (aC ay q);((with_reducible refine aa (t.o _) ?_);rintro e w'⟨rfl,rfl⟩))
   |(go_at_call 157;((with_reducible refine aa (C.o _ (btr (ar _ _) b (by simp))) ?_);rintro e T⟨rfl,E⟩;obtain⟨L,O⟩:=aq E))
  go_ret
  exact⟨aI (g.o.trans (by simp)).symm,btr (btr (ar _ _) b (by simp)) E (av (by simp) b.size)⟩
theorem ym(f:ag)(d:Value)(w:World)(g:aE 0 w w d f.subs)(c:(fieldBytes f).length<=1000000)(hn:f.subs.length<=1000000):
 Calls prog 110 #[fieldV f d] w λe w'=>e=a0 (wrongF f)/\Bw w w':=by
 have i:∃a b,d=a3 a f.subs b:=by obtain⟨a,b,h,_⟩:=g;exact⟨a,b,h⟩
 cases h:bJ f.tag
 .exact o7 f d w h
 cases hc:fR f.tag
 .exact nk f d w g c hn h hc
 exact nl f d w i c h hc
end
section
open Go.RowKit
open Go.RowKit
open Go.RowKit
def after(M:Bs)(i:Nat)(r:Except Nat Nat)(g:Bs->ag)(a:Bs->Nat->Bs->Except Int ag):Except Int ag:=match r with
 | .error j=>.error (if j<i+M.length then(j:Int)else(j:Int)-1)
 | .ok j=>match M.drop (j-i)with
   |[]=>.error ((j:Int)-1)
   |c::r=>if c.toNat=30 then(if r=[]then .ok (g (M.take (j-i)))else .error ((j:Int)+1))else if c.toNat=31 then a (M.take (j-i)) (j+1) r else .error j
end
end Go.Proofs.YtjcimanddakkaaaGreatDoor
