/- Lemmas. -/
import Derived.Test.YtjcimanddakkaaaGreatDoorQ1
import Derived.BigQuiet
set_option maxRecDepth 100000
set_option maxHeartbeats 8000000
namespace Go.Proofs.YtjcimanddakkaaaGreatDoor
open _root_.Option renaming some→X,none→Y
open Go.Ending renaming returned→a0
open Go.Value renaming bool→a1,pointer→a2,int→J,slice→a4
open Go.Lib renaming hid→Z
open Go.IntKind renaming u8→a3,i64→U
open Tryz
open Go.Calls renaming mono→ad
open _root_.UInt8 renaming toNat_lt→al
open _root_.List renaming getD_cons_zero→ao,drop_succ_cons→au,length_cons→ay,drop_zero→aS,getD_cons_succ→a6
open _root_.Nat renaming le_refl→av,le_trans→ax
open Go.IntKind renaming u8→aC
open Go.Value renaming int→aT
open Go.Utf8 renaming decode→a5
section
open Go.RowKit
def fullB:Bs->Bool
 |[]=>false
 |b0::l=>decide (Lib.firstT b0.toNat%8<=l.length+1)||(match l with
  |[]=>false
  |b1::m=>decide (b1.toNat<Lib.accLo (Lib.firstT b0.toNat / 16))||decide (Lib.accHi (Lib.firstT b0.toNat / 16)<b1.toNat)||(match m with
   |[]=>false
   |b2::_=>decide (b2.toNat<128)||decide (191<b2.toNat)))
open Go.RowKit
def brokenTo (l:Bs):Nat->Nat
 |0=>0
 |k+1=>if brokenTo l k<k then brokenTo l k else if fullB (l.take (k+1)) then k else k+1
theorem sY (l:Bs) (k n:Nat) (h:brokenTo l k=k) (a:fullB (l.take (k+1))=true) (b:k<n):brokenTo l n=k:=by
 induction n with
 |zero=>omega
 |succ n ih=>
  by_cases hk:k=n
  · subst hk;unfold brokenTo;rw [h,if_neg (by omega),if_pos a]
  · have:=ih (by omega);unfold brokenTo;rw [this,if_pos (by omega)]
def jK (l:Bs):Nat:=brokenTo l l.length
open Go.Lib
def bP:Ch->Bs->Nat->Except Nat Nat
 |x,[],i=>if x.left=0 then .ok i else .error i
 |x,c::l,i=>if x.left=0/\c.toNat<32 then .ok i else match chNext x c with
  |some y=>bP y l (i+1)
  |none=> .error i
theorem sR (x y:Ch) (a:x.left=0) (b:y.left=0) (c:UInt8):chNext x c=chNext y c:=by
 unfold chNext;simp [a,b]
theorem fd (x y:Ch) (a:x.left=0) (b:y.left=0) (l:Bs) (i:Nat):bP x l i=bP y l i:=by
 cases l with
 |nil=>simp [bP,a,b]
 |cons c l=>simp only [bP,a,b,sR x y a b]
theorem iU (x:Ch) (a:0<x.left) (c:UInt8) (l:Bs) (i:Nat):bP x (c::l) i=if c.toNat<x.low∨x.high<c.toNat then .error i else bP ⟨x.left - 1,128,191⟩ l (i+1):=by
 simp only [bP];rw [if_neg (by omega)];unfold chNext;simp only [a,if_true];by_cases h:c.toNat<x.low∨x.high<c.toNat
 · rw [if_pos h,if_pos h]
 · rw [if_neg h,if_neg h]
theorem gK (x:Ch) (a:0<x.left) (i:Nat):bP x [] i= .error i:=by simp [bP];omega
structure tj (b0:UInt8) (sz lo hi:Nat):Prop where
 ch:chNext ch0 b0=some ⟨sz - 1,lo,hi⟩
 big:¬b0.toNat<32
 f8:firstT b0.toNat%8=sz
 lo':accLo (firstT b0.toNat / 16)=lo
 hi':accHi (firstT b0.toNat / 16)=hi
 dec:∀n b1 b2 b3,1<=n->b1<256->b2<256->b3<256->decodeN n b0.toNat b1 b2 b3=slowN n b0.toNat b1 b2 b3 sz lo hi
 s2:2<=sz
 s4:sz<=4
 l1:128<=lo
 h1:hi<=191
def tI (a lo b:Nat):Bs->Nat×Bool
 |[]=>(1,false)
 |b1::r=>if b1.toNat<lo∨b<b1.toNat then (1,false) else if a=2 then (2,true) else match r with
  |[]=>(2,false)
  |b2::q=>if b2.toNat<128∨191<b2.toNat then (2,false) else if a=3 then (3,true) else match q with
   |[]=>(3,false)
   |b3::_=>if b3.toNat<128∨191<b3.toNat then (3,false) else (4,true)
theorem wl {d:UInt8} {c lo e:Nat} (h:tj d c lo e) (m:Bs) (i j:Nat) (b:Bool) (a:tI c lo e m=(j,b)):
 bP ch0 (d::m) i=if b then bP ch0 ((d::m).drop j) (i+j) else .error (i+j):=by
 have g:=h.s2;have k:=h.s4;have f:bP ch0 (d::m) i=bP ⟨c - 1,lo,e⟩ m (i+1):=by simp only [bP];rw [if_neg (by have:=h.big;omega),h.ch]
 rw [f];cases m with
 |nil=>cases a;rw [gK _ (by simp;omega)];rfl
 |cons b1 r=>
  rw [iU _ (by simp;omega)];simp only [tI] at a;by_cases c1:b1.toNat<lo∨e<b1.toNat
  · rw [if_pos c1] at a;cases a;rw [if_pos c1];rfl
  · rw [if_neg c1] at a;rw [if_neg c1];by_cases z2:c=2
    · rw [if_pos z2] at a;cases a;simp only [if_true,au,aS];exact fd _ _ (by simp [z2]) rfl _ _
    · rw [if_neg z2] at a;cases r with
      |nil=>cases a;rw [gK _ (by simp;omega)];rfl
      |cons b2 q=>
       rw [iU _ (by simp;omega)];simp only at a ⊢;by_cases c2:b2.toNat<128∨191<b2.toNat
       · rw [if_pos c2] at a;cases a;rw [if_pos c2];rfl
       · rw [if_neg c2] at a;rw [if_neg c2];by_cases z3:c=3
         · rw [if_pos z3] at a;cases a;simp only [if_true,au,aS];exact fd _ _ (by simp [z3]) rfl _ _
         · rw [if_neg z3] at a;cases q with
           |nil=>cases a;rw [gK _ (by simp;omega)];rfl
           |cons b3 p=>
            rw [iU _ (by simp;omega)];simp only at a ⊢;by_cases c3:b3.toNat<128∨191<b3.toNat
            · rw [if_pos c3] at a;cases a;rw [if_pos c3];rfl
            · rw [if_neg c3] at a;cases a;rw [if_neg c3];simp only [if_true,au,aS];exact fd _ _ (by simp;omega) rfl _ _
theorem gu {l:Bs} {k:Nat} (c:k<l.length) (h1:∀j,j<k->fullB (l.take (j+1))=false) (a:fullB (l.take (k+1))=true):jK l=k:=by
 have b:∀j,j<=k->brokenTo l j=j:=by
  intro j;induction j with
  |zero=>intro _;rfl
  |succ j ih=>intro d;unfold brokenTo;rw [ih (by omega),if_neg (by omega),h1 j (by omega)];rfl
 exact sY l k _ (b k (av _)) a c
theorem ig {l:Bs} (h1:∀j,j<l.length->fullB (l.take (j+1))=false):jK l=l.length:=by
 have a:∀j,j<=l.length->brokenTo l j=j:=by
  intro j;induction j with
  |zero=>intro _;rfl
  |succ j ih=>intro b;unfold brokenTo;rw [ih (by omega),if_neg (by omega),h1 j (by omega)];rfl
 exact a _ (av _)
theorem ur {a:UInt8} {c lo b:Nat} (h:tj a c lo b):fullB [a]=false:=by
 have:=h.s2;simp [fullB,h.f8];omega
theorem uq {b:UInt8} {d lo c:Nat} (h:tj b d lo c) (a:UInt8):fullB [b,a]=(decide (d<=2)||(decide (a.toNat<lo)||decide (c<a.toNat))):=by
 simp [fullB,h.f8,h.lo',h.hi']
theorem un {c:UInt8} {e lo d:Nat} (h:tj c e lo d) (a b:UInt8):fullB [c,a,b]=(decide (e<=3)||(decide (a.toNat<lo)||decide (d<a.toNat)||(decide (b.toNat<128)||decide (191<b.toNat)))):=by
 simp [fullB,h.f8,h.lo',h.hi']
theorem um {a:UInt8} {f lo e:Nat} (h:tj a f lo e) (b c d:UInt8):fullB [a,b,c,d]=true:=by
 have:=h.s4;simp [fullB,h.f8];left;omega
theorem rh {c:UInt8} {f lo g:Nat} (h:tj c f lo g) (m:Bs) (k:Nat) (a:tI f lo g m=(k,false)):jK (c::m)=k:=by
 have o:=h.s2;have s:=h.s4;have d:=ur h;cases m with
 |nil=>
  cases a;refine (ig ?_).trans rfl;intro j b;have:j=0:=by simp at b;omega
  subst this;simpa using d
 |cons b1 r=>
  have i:=uq h b1;simp only [tI] at a;by_cases c1:b1.toNat<lo∨g<b1.toNat
  · rw [if_pos c1] at a;cases a;refine gu (by simp) ?_ ?_
    · intro j b;have:j=0:=by omega
      subst this;simpa using d
    · show fullB [c,b1]=true;rw [i];simp;omega
  · rw [if_neg c1] at a;by_cases z2:f=2
    · rw [if_pos z2] at a;cases a
    · rw [if_neg z2] at a;have e:fullB [c,b1]=false:=by rw [i];simp;omega
      cases r with
      |nil=>
       cases a;refine (ig ?_).trans rfl;intro j b;have:j=0∨j=1:=by simp at b;omega
       rcases this with rfl|rfl
       · simpa using d
       · simpa using e
      |cons b2 q=>
       have l:=un h b1 b2;simp only at a;by_cases c2:b2.toNat<128∨191<b2.toNat
       · rw [if_pos c2] at a;cases a;refine gu (by simp) ?_ ?_
         · intro j b;have:j=0∨j=1:=by omega
           rcases this with rfl|rfl
           · simpa using d
           · simpa using e
         · show fullB [c,b1,b2]=true;rw [l];simp;omega
       · rw [if_neg c2] at a;by_cases z3:f=3
         · rw [if_pos z3] at a;cases a
         · rw [if_neg z3] at a;have n:fullB [c,b1,b2]=false:=by rw [l];simp;omega
           cases q with
           |nil=>
            cases a;refine (ig ?_).trans rfl;intro j b;have:j=0∨j=1∨j=2:=by simp at b;omega
            rcases this with rfl|rfl|rfl
            · simpa using d
            · simpa using e
            · simpa using n
           |cons b3 p=>
            simp only at a;by_cases c3:b3.toNat<128∨191<b3.toNat
            · rw [if_pos c3] at a;cases a;refine gu (by simp) ?_ ?_
              · intro j b;have:j=0∨j=1∨j=2:=by omega
                rcases this with rfl|rfl|rfl
                · simpa using d
                · simpa using e
                · simpa using n
              · show fullB [c,b1,b2,b3]=true;exact um h b1 b2 b3
            · rw [if_neg c3] at a;cases a
theorem dw (a:UInt8) (m:Bs):decodeGo ⟨(a::m).toArray⟩=decodeN (m.length+1) a.toNat (m.getD 0 0).toNat (m.getD 1 0).toNat (m.getD 2 0).toNat:=by
 unfold decodeGo;have c:¬(⟨(a::m).toArray⟩:ByteArray).size=0:=by show ¬(a::m).toArray.size=0;simp
 rw [if_neg c,decode_at];have b:∀k,((⟨(a::m).toArray⟩:ByteArray).get! k)=(a::m).getD k 0:=by intro k;show (a::m).toArray[k]! =_;rw [getElem!_def];simp only [List.getElem?_toArray,List.getD_eq_getElem?_getD];cases (a::m)[k]? <;>rfl
 rw [b,b,b,b];rfl
theorem rf {d:UInt8} {c lo e:Nat} (h:tj d c lo e) (m:Bs) (j:Nat) (b:Bool) (a:tI c lo e m=(j,b)):
 (b=true->(decodeGo ⟨(d::m).toArray⟩).2=j/\2<=j/\j<=m.length+1)/\(b=false->decodeGo ⟨(d::m).toArray⟩=(65533,1)):=by
 have f:=h.s2;have g:=h.s4;rw [dw,h.dec _ _ _ _ (by omega) (al _) (al _) (al _)];unfold slowN;cases m with
 |nil=>cases a;exact ⟨λh=>(by cases h),λ_=>if_pos (by simp;omega)⟩
 |cons b1 r=>
  simp only [tI] at a;simp only [ay,ao];by_cases c1:b1.toNat<lo∨e<b1.toNat
  · rw [if_pos c1] at a;cases a;exact ⟨λh=>(by cases h),λ_=>by simp [c1]⟩
  · rw [if_neg c1] at a;simp only [if_neg c1];by_cases z2:c=2
    · rw [if_pos z2] at a;cases a;subst z2;refine ⟨λ_=>⟨?_,by omega,by omega⟩,λh=>by cases h⟩;rw [if_neg (by omega)];rfl
    · rw [if_neg z2] at a;cases r with
      |nil=>cases a;exact ⟨λh=>(by cases h),λ_=>if_pos (by simp;omega)⟩
      |cons b2 q=>
       simp only [ay,ao,a6] at a ⊢;by_cases c2:b2.toNat<128∨191<b2.toNat
       · rw [if_pos c2] at a;cases a;exact ⟨λh=>(by cases h),λ_=>by simp [c2];intros;omega⟩
       · rw [if_neg c2] at a;simp only [if_neg c2];by_cases z3:c=3
         · rw [if_pos z3] at a;cases a;subst z3;refine ⟨λ_=>⟨?_,by omega,by omega⟩,λh=>by cases h⟩;rw [if_neg (by omega)];rfl
         · rw [if_neg z3] at a;cases q with
           |nil=>cases a;exact ⟨λh=>(by cases h),λ_=>if_pos (by simp;omega)⟩
           |cons b3 p=>
            simp only [ay,ao] at a ⊢;by_cases c3:b3.toNat<128∨191<b3.toNat
            · rw [if_pos c3] at a;cases a;exact ⟨λh=>(by cases h),λ_=>by rw [if_neg (by omega),if_neg (by omega),if_neg (by omega),if_pos c3]⟩
            · rw [if_neg c3] at a;cases a;obtain rfl:c=4:=by omega
              refine ⟨λ_=>⟨?_,by omega,by omega⟩,λh=>by cases h⟩;rw [if_neg (by omega),if_neg (by omega),if_neg (by omega),if_neg c3]
theorem Bl {n:Nat} (h:194<=n/\n<224):firstT n=2:=by unfold firstT;rw [if_neg (by omega),if_neg (by omega),if_pos (by omega)]
theorem zA {n:Nat} (h:n=224):firstT n=19:=by subst h;rfl
theorem Bj {n:Nat} (h:(225<=n/\n<237)∨(238<=n/\n<240)):firstT n=3:=by
 unfold firstT;rcases h with h|h
 · rw [if_neg (by omega),if_neg (by omega),if_neg (by omega),if_neg (by omega),if_pos (by omega)]
 · rw [if_neg (by omega),if_neg (by omega),if_neg (by omega),if_neg (by omega),if_neg (by omega),if_neg (by omega),if_pos (by omega)]
theorem zy {n:Nat} (h:n=237):firstT n=35:=by subst h;rfl
theorem zx {n:Nat} (h:n=240):firstT n=52:=by subst h;rfl
theorem Bi {n:Nat} (h:241<=n/\n<244):firstT n=4:=by
 unfold firstT;rw [if_neg (by omega),if_neg (by omega),if_neg (by omega),if_neg (by omega),if_neg (by omega),if_neg (by omega),if_neg (by omega),if_neg (by omega),if_pos (by omega)]
theorem zw {n:Nat} (h:n=244):firstT n=68:=by subst h;rfl
theorem xq {n:Nat} (h:(128<=n/\n<194)∨245<=n):firstT n=241:=by
 unfold firstT;rcases h with h|h
 · rw [if_neg (by omega),if_pos (by omega)]
 · rw [if_neg (by omega),if_neg (by omega),if_neg (by omega),if_neg (by omega),if_neg (by omega),if_neg (by omega),if_neg (by omega),if_neg (by omega),if_neg (by omega),if_neg (by omega)]
theorem us (a:UInt8):a.toNat<128∨((128<=a.toNat/\a.toNat<194)∨245<=a.toNat)∨∃k lo j,tj a k lo j:=by
 have l:=a.toNat_lt;rcases Nat.lt_or_ge a.toNat 128 with h|h
 · exact .inl h
 right;rcases (show ((128<=a.toNat/\a.toNat<194)∨245<=a.toNat)∨(194<=a.toNat/\a.toNat<224)∨a.toNat=224∨((225<=a.toNat/\a.toNat<237)∨(238<=a.toNat/\a.toNat<240))∨a.toNat=237∨a.toNat=240∨(241<=a.toNat/\a.toNat<244)∨a.toNat=244 by omega) with h|h|h|h|h|h|h|h
 · exact .inl h
 all_goals right
 · have b:firstT a.toNat=2:=Bl h;refine ⟨2,128,191,zV (by simp [ch0]) h,by omega,by rw [b],by rw [b];rfl,by rw [b];rfl,λn c d e i h1 f g=>(slow_C2 n _ c d e i h1 f g h).symm,by omega,by omega,by omega,by omega⟩
 · have b:firstT a.toNat=19:=zA h;refine ⟨3,160,191,B4 (by simp [ch0]) h,by omega,by rw [b],by rw [b];rfl,by rw [b];rfl,λn c d e i h1 f g=>(slow_E0 n _ c d e i h1 f g h).symm,by omega,by omega,by omega,by omega⟩
 · have b:firstT a.toNat=3:=Bj h;refine ⟨3,128,191,B0 (by simp [ch0]) (by omega),by omega,by rw [b],by rw [b];rfl,by rw [b];rfl,λn c d e i h1 f g=>(slow_E1 n _ c d e i h1 f g h).symm,by omega,by omega,by omega,by omega⟩
 · have b:firstT a.toNat=35:=zy h;refine ⟨3,128,159,B3 (by simp [ch0]) h,by omega,by rw [b],by rw [b];rfl,by rw [b];rfl,λn c d e i h1 f g=>(slow_ED n _ c d e i h1 f g h).symm,by omega,by omega,by omega,by omega⟩
 · have b:firstT a.toNat=52:=zx h;refine ⟨4,144,191,BZ (by simp [ch0]) h,by omega,by rw [b],by rw [b];rfl,by rw [b];rfl,λn c d e i h1 f g=>(slow_F0 n _ c d e i h1 f g h).symm,by omega,by omega,by omega,by omega⟩
 · have b:firstT a.toNat=4:=Bi h;refine ⟨4,128,191,BW (by simp [ch0]) (by omega),by omega,by rw [b],by rw [b];rfl,by rw [b];rfl,λn c d e i h1 f g=>(slow_F1 n _ c d e i h1 f g h).symm,by omega,by omega,by omega,by omega⟩
 · have b:firstT a.toNat=68:=zw h;refine ⟨4,128,143,BX (by simp [ch0]) h,by omega,by rw [b],by rw [b];rfl,by rw [b];rfl,λn c d e i h1 f g=>(slow_F4 n _ c d e i h1 f g h).symm,by omega,by omega,by omega,by omega⟩
def ei (r:Nat×Nat):Bool:=decide (r.1=65533)&&decide (r.2<2)
theorem sB (a:UInt8) (m:Bs) (n:32<=a.toNat) (i:Nat):
 (ei (decodeGo ⟨(a::m).toArray⟩)=true->bP ch0 (a::m) i= .error (i+jK (a::m)))/\
 (ei (decodeGo ⟨(a::m).toArray⟩)=false->1<=(decodeGo ⟨(a::m).toArray⟩).2/\(decodeGo ⟨(a::m).toArray⟩).2<=m.length+1/\bP ch0 (a::m) i=bP ch0 ((a::m).drop (decodeGo ⟨(a::m).toArray⟩).2) (i+(decodeGo ⟨(a::m).toArray⟩).2)):=by
 rcases us a with h|h|⟨q,lo,p,h⟩
 · have d:decodeGo ⟨(a::m).toArray⟩=(a.toNat,1):=by rw [dw];unfold decodeN;rw [if_pos h]
   rw [d];constructor
   · intro c;simp [ei] at c;omega
   · intro _;refine ⟨by simp,by simp,?_⟩;simp only [bP];rw [if_neg (by omega),sN (by simp [ch0]) ⟨n,h⟩];simp only [au,aS];exact fd _ _ rfl rfl _ _
 · have d:decodeGo ⟨(a::m).toArray⟩=(65533,1):=by
    rw [dw];unfold decodeN;rw [if_neg (by omega)];by_cases g1:a.toNat / 32=6/\1<m.length+1/\(m.getD 0 0).toNat / 64=2
    · rw [if_pos g1,if_neg (by omega)]
    · rw [if_neg g1,if_neg (by omega)];by_cases g3:a.toNat / 8=30/\(1<m.length+1/\(m.getD 0 0).toNat / 64=2)/\(2<m.length+1/\(m.getD 1 0).toNat / 64=2)/\(3<m.length+1/\(m.getD 2 0).toNat / 64=2)
      · rw [if_pos g3,if_neg (by omega)]
      · rw [if_neg g3]
   rw [d];have o:jK (a::m)=0:=by refine gu (by simp) (λj s=>by omega) ?_;have:firstT a.toNat=241:=xq h;simp [fullB,this]
   constructor
   · intro _;simp only [bP];rw [if_neg (by omega),lq (by simp [ch0]) (by omega),o];rfl
   · intro c;simp [ei] at c
 · cases hs:tI q lo p m with
   |mk j b=>
    obtain ⟨f,g⟩:=rf h m j b hs;have e:=wl h m i j b hs;cases b
    · rw [g rfl];constructor
      · intro _;rw [e,rh h m j hs];rfl
      · intro c;simp [ei] at c
    · obtain ⟨k,r,l⟩:=f rfl;constructor
      · intro c;simp only [ei,Bool.and_eq_true,decide_eq_true_eq] at c;omega
      · intro _;rw [k];exact ⟨by omega,l,by rw [e];rfl⟩
open Go.Lib
def yS (r:Except Nat Nat) (n:Nat):Bool:=match r with
 | .ok k=>decide (k=n)
 | .error _=>false
theorem oe:∀(l:Bs) (x:Ch) (i:Nat),(match chRun x l with
 |some y=>decide (y.left=0)
 |none=>false)=yS (bP x l i) (i+l.length)
 |[],x,i=>by
  simp only [chRun,bP]
  by_cases h:x.left=0<;>simp [h,yS]
 |c::l,x,i=>by
  simp only [chRun,bP]
  by_cases h:x.left=0/\c.toNat<32
  · rw [if_pos h,lq (by omega) (.inl h.2)]
    simp [yS]
  · rw [if_neg h]
    cases hn:chNext x c with
    |none=>simp [yS]
    |some y=>
     simp only
     rw [oe l y (i+1)]
     rw [show i+1+l.length=i+(c::l).length from by simp;omega]
theorem mr (l:Bs) (i:Nat):aR l=yS (bP ch0 l i) (i+l.length):=by
 unfold aR;exact oe l ch0 i
theorem uw (a:UInt8) (m:Bs) (h:a.toNat<32):aR (a::m)=false:=by
 unfold aR;rw [chRun,lq (by simp [ch0]) (.inl h)]
theorem sg (a:UInt8) (m:Bs) (f:32<=a.toNat):
 (ei (decodeGo ⟨(a::m).toArray⟩)=true->aR (a::m)=false)/\
 (ei (decodeGo ⟨(a::m).toArray⟩)=false->1<=(decodeGo ⟨(a::m).toArray⟩).2/\(decodeGo ⟨(a::m).toArray⟩).2<=m.length+1/\aR (a::m)=aR ((a::m).drop (decodeGo ⟨(a::m).toArray⟩).2)):=by
 obtain ⟨h1,e⟩:=sB a m f 0;constructor
 · intro h;rw [mr _ 0,h1 h];rfl
 · intro h;obtain ⟨b,c,d⟩:=e h;refine ⟨b,c,?_⟩;rw [mr (a::m) 0,d,mr _ (0+(decodeGo ⟨(a::m).toArray⟩).2)];congr 1
   rw [List.length_drop,show 0+(decodeGo ⟨(a::m).toArray⟩).2+((a::m).length - (decodeGo ⟨(a::m).toArray⟩).2)=0+(a::m).length from by simp only [ay] at *;omega]
theorem zo (l:Bs) (i:Nat):(⟨l.toArray⟩:ByteArray).get! i=l.getD i 0:=by
 show (l.toArray)[i]! =_;simp [getElem!_def,List.getD];cases l[i]? <;>rfl
theorem sE (l:Bs) (p:Nat) (h:p<l.length):a5 ⟨l.toArray⟩ p=decodeGo ⟨(l.drop p).toArray⟩:=by
 unfold decodeGo;rw [if_neg (by show ¬(l.drop p).toArray.size=0;simp;omega),decode_at,decode_at];simp only [zo];have e:∀j,(l.drop p).getD j 0=l.getD (p+j) 0:=λj=>by simp [List.getD]
 rw [e,e,e,e];show decodeN (l.toArray.size - p) _ _ _ _=decodeN ((l.drop p).toArray.size - 0) _ _ _ _;simp
theorem sF {n a b c d:Nat} (h:(decodeN n a b c d).1<128):a=(decodeN n a b c d).1:=by
 revert h;unfold decodeN;repeat' split
 all_goals (simp;try omega)
theorem qp {n a b c d:Nat} (e:a<256) (h1:b<256) (f:c<256) (h:(decodeN n a b c d).1=65533):
 (decodeN n a b c d).2<2∨(a=239/\b=191/\c=189/\2<n):=by
 have g:=e;have i:=h1;have j:=f;revert h;unfold decodeN;repeat' split
 all_goals (simp;try omega)
theorem qo (n a:Nat) (h:2<n):decodeN n 239 191 189 a=(65533,3):=by
 unfold decodeN;rw [if_neg (by omega),if_neg (by omega),if_pos ⟨by omega,⟨by omega,by omega⟩,⟨by omega,by omega⟩⟩];simp
def fX (l:Bs):Bool:=decide ((decodeGo ⟨l.toArray⟩).1<32)||(decide ((decodeGo ⟨l.toArray⟩).1=65533)&& !pH [239,191,189] l)
theorem tQ (a:UInt8) (m:Bs) (l:32<=a.toNat):fX (a::m)=ei (decodeGo ⟨(a::m).toArray⟩):=by
 unfold fX ei;rw [dw];have k:¬(decodeN (m.length+1) a.toNat (m.getD 0 0).toNat (m.getD 1 0).toNat (m.getD 2 0).toNat).1<32:=λh=>by have:=sF (Nat.lt_trans h (by omega));omega
 rw [decide_eq_false k,Bool.false_or];by_cases hr:(decodeN (m.length+1) a.toNat (m.getD 0 0).toNat (m.getD 1 0).toNat (m.getD 2 0).toNat).1=65533
 · rw [decide_eq_true hr,Bool.true_and,Bool.true_and];have f:=qp (al _) (al _) (al _) hr;by_cases hp:pH [239,191,189] (a::m)=true
   · rw [hp];have e:(a::m).take 3=[239,191,189]:=by simpa [pH] using hp
     match m,e with
     |m0::m1::q,e=>
      simp only [List.take_succ_cons,List.take_zero,List.cons.injEq,and_true] at e;obtain ⟨rfl,rfl,rfl⟩:=e;have:=qo ((191::189::q:Bs).length+1) (((191::189::q:Bs).getD 2 0).toNat) (by simp);simp only [ao,a6] at this ⊢;erw [this]
      rfl
   · rw [Bool.not_eq_true] at hp;rw [hp];rcases f with f|⟨h1,c,d,b⟩
     · rw [decide_eq_true f];rfl
     · exfalso;match m,c,d,b with
       |m0::m1::q,c,d,b=> have g:a=239:=UInt8.toNat_inj.mp (by rw [h1];rfl);have i:m0=191:=UInt8.toNat_inj.mp (by simpa using c);have j:m1=189:=UInt8.toNat_inj.mp (by simpa using d);subst g i j;simp [pH] at hp
       |[m0],c,d,b=>simp at b
       |[],c,d,b=>simp at b
 · rw [decide_eq_false hr,Bool.false_and,Bool.false_and]
theorem wH (a:UInt8) (m:Bs):(fX (a::m)=true->aR (a::m)=false)/\
 (fX (a::m)=false->1<=(decodeGo ⟨(a::m).toArray⟩).2/\(decodeGo ⟨(a::m).toArray⟩).2<=m.length+1/\aR (a::m)=aR ((a::m).drop (decodeGo ⟨(a::m).toArray⟩).2)):=by
 by_cases hb:32<=a.toNat
 · rw [tQ a m hb];exact sg a m hb
 · have b:(decodeGo ⟨(a::m).toArray⟩)=(a.toNat,1):=by rw [dw];unfold decodeN;rw [if_pos (by omega)]
   have:fX (a::m)=true:=by unfold fX;rw [b];simp;omega
   rw [this];exact ⟨λ_=>uw a m (by omega),λh=>by cases h⟩
open Go.RowKit
theorem jf {w:World} {k:Nat} {s:ByteArray} {p:Nat} (h:w.heap[k]? =X (.stringIter s p)):w.iterPos k=p:=by simp [World.iterPos,h]
theorem oh (l:Bs) (w:World) (E:l.length<=1000000000):Calls prog 155 #[S l] w λe w'=>e=a0 (a1 (aR l))/\Bw w w':=by
 go_enter func155,ntmps155;go_wp2_with fail
 go_loopw [3] (λv wr=>∃(a:Nat),wr.heap[w.heap.size]? =X (.stringIter ⟨l.toArray⟩ a)/\Bw w wr/\a<=l.length/\Hid (aR l=aR (l.drop a))) (λ_ wr=>l.length - wr.iterPos w.heap.size)
 case atStart=>exact ⟨0,World.iter_heap w _ 0,(Below.refl _ _).alloc (av _) _,by omega,rfl⟩
 case round=>
  obtain ⟨a,g,q,G,i⟩:=hrel;have y:=jf g;by_cases hp:a<l.length
  · have t:∀d,(Instr.next (a2 (X ⟨w.heap.size,0,Y⟩)) true d).run prog wr=_:=λd=>Lib.run_next_any_at wr w.heap.size ⟨l.toArray⟩ a d g hp;have h:=Lib.iterAt_heap wr w.heap.size ⟨l.toArray⟩ a (a+(a5 ⟨l.toArray⟩ a).2) g;have f:=Lib.below_iterAt q (k:=w.heap.size) (av _) ⟨l.toArray⟩ (a+(a5 ⟨l.toArray⟩ a).2);obtain ⟨c,m,s⟩:∃c m,l.drop a=c::m:=⟨l[a],l.drop (a+1),List.drop_eq_getElem_cons hp⟩;have n:=wH c m;rw [<- s] at n;have F:m.length+1=l.length - a:=by have:=congrArg List.length s;simpa using this.symm
    unfold fX at n;rw [sE l a hp] at t h f;obtain ⟨u,x⟩:∃u,u=wr.iterAt w.heap.size ⟨l.toArray⟩ (a+(Lib.decodeGo ⟨(l.drop a).toArray⟩).2):=⟨_,rfl⟩;rw [<- x] at t h f;generalize (Lib.decodeGo ⟨(l.drop a).toArray⟩).1=r at *;generalize (Lib.decodeGo ⟨(l.drop a).toArray⟩).2=z at *;have j:=Z n;clear x g q n s;by_cases h1:r<32
    · have b:Hid (aR l=false):=by rw [i.o];exact j.o.1 (by simp [h1])
      go_wp2_with fail
      go_ret;exact ⟨an b.symm,f⟩
    · have D:¬(r:Int)<32:=by omega
      by_cases h2:r=65533
      · have A:(r:Int)=65533:=by omega
        cases hx:pH [239,191,189] (l.drop a)
        · have b:Hid (aR l=false):=by rw [i.o];exact j.o.1 (by simp [h2,hx])
          have p:=Z hx;clear hx;go_wp2_with (go_at_call 205;((with_reducible refine ad (gk (l.drop a) [239,191,189] _) ?_);rintro e w' ⟨rfl,rfl⟩;rw [p.o]))
          go_ret;exact ⟨an b.symm,f⟩
        · obtain ⟨B,C,b⟩:=j.o.2 (by simp [h2,hx]);have p:=Z hx;clear hx;rw [List.drop_drop] at b;have o:=Z (i.trans b);clear b;go_wp2_with (go_at_call 205;((with_reducible refine ad (gk (l.drop a) [239,191,189] _) ?_);rintro e w' ⟨rfl,rfl⟩;rw [p.o]))
          go_roundw
          case rel=>exact ⟨a+z,h,f,by omega,o⟩
          case measure=>rw [y,jf h];omega
      · have A:¬(r:Int)=65533:=by omega
        obtain ⟨B,C,b⟩:=j.o.2 (by simp [h1,h2]);rw [List.drop_drop] at b;have o:=Z (i.trans b);clear b;go_wp2_with fail
        go_roundw
        case rel=>exact ⟨a+z,h,f,by omega,o⟩
        case measure=>rw [y,jf h];omega
  · have t:∀d,(Instr.next (a2 (X ⟨w.heap.size,0,Y⟩)) true d).run prog wr=_:=λd=>Lib.run_next_end_at wr w.heap.size ⟨l.toArray⟩ a d g hp;have b:Hid (aR l=true):=by rw [i.o,List.drop_eq_nil_of_le (by omega)];rfl
    clear g;go_wp2_with fail
    go_ret;exact ⟨an b.symm,q⟩
open Go.RowKit
end
section
open Go.RowKit
attribute [local go_sem ↓] Go.wp_at_zero Go.wp_at_succ
theorem vX (c:UInt8) (t:Bs) (w:World) (d:t.length<=1000000000):Calls prog 158 #[.agg #[J a3 c.toNat,S t]] w λe w'=>e=a0 (a1 (!(aR t&&fe c)))/\Bw w w':=by
 have a:=Z (λW=>oh t W d);cases hs:fe c
 · go_enter func158,ntmps158;go_wp2_with (go_at_call 159;((with_reducible refine ad (pm c _) ?_);rintro e w' ⟨rfl,rfl⟩;rw [hs]))
   go_ret;exact ⟨an (by simp),am _ _⟩
 · go_enter func158,ntmps158
   go_wp2_with (first
    |(go_at_call 159;((with_reducible refine ad (pm c _) ?_);rintro e w' ⟨rfl,rfl⟩;rw [hs]))
    |(go_at_call 155;((with_reducible refine ad (a.o _) ?_);rintro e w' ⟨rfl,b⟩)))
   go_ret;exact ⟨an (by simp),btr (am _ _) b (by simp)⟩
theorem zk (v:Value) (c:List cB) (w:World) (r:aD 0 w.heap.size w v c) (I:c.length<=1000000) (p:∀s∈c,s.text.length<=1000000000):
 Calls prog 206 #[v, .func (.func 158) #[] #[]] w λe w'=>(∃k:Int,e=a0 (J U k)/\(0<=k↔c.all dt=false))/\Bw w w':=by
 have x:=Z r;have u:=Z p;obtain ⟨a,A,rfl,_⟩:=r;clear p;go_enter func206,ntmps206;go_wp2_with fail
 go_loopw [8] (λi wr=>∃(k:Nat),k<=c.length/\i=J U k/\Hid ((c.take k).all dt=true)/\Bw w wr) (λi _=>c.length - (intOf i).toNat)
 case atStart=>exact ⟨0,Nat.zero_le _,rfl,rfl,Below.refl _ _⟩
 case round=>
  obtain ⟨k,H,rfl,m,d⟩:=hrel;by_cases hlt:k<c.length
  · have t:aD 0 w.heap.size wr (Value.slice a c.length A) c:=x.kept (aX d (av _));obtain ⟨b,M,F,D,G,_,K,L⟩:=t.sub k hlt;cases D;have l:=List.getElem_mem hlt;have o:=Z (λW=>vX c[k].code c[k].text W (u _ l));have y:Hid ((c.take (k+1)).all dt=(aR c[k].text&&fe c[k].code)):=by rw [List.take_succ_eq_append_getElem hlt,List.all_append,m.o];simp [dt,Hid]
    have n:Hid ((aR c[k].text&&fe c[k].code)=false->c.all dt=false):=λh=>by
     have:¬(c.all dt=true):=λB=>by have:=List.all_eq_true.mp B _ l;unfold dt at this;rw [h] at this;cases this
     simpa using this
    clear l t;generalize c[k].text=T at *;generalize c[k].code=C at *;generalize hq:(aR T&&fe C)=q at *;clear hq;cases q
    · obtain ⟨f,g⟩:∃f:Prop,f=(c.all dt=false):=⟨_,rfl⟩;have E:f:=g ▸ n.o rfl;have z:Hid (f->c.all dt=false):=λh=>g ▸ h;clear n g;go_wp2_with (go_at_call 158;((with_reducible refine ad (o.o _) ?_);rintro e w' ⟨rfl,j⟩))
      go_ret;exact ⟨⟨k,rfl,⟨λ_=>z E,λ_=>Int.natCast_nonneg _⟩⟩,btr d j d.size⟩
    · go_wp2_with (go_at_call 158;((with_reducible refine ad (o.o _) ?_);rintro e w' ⟨rfl,j⟩))
      go_roundw
      case rel=>exact ⟨k+1,by omega,by go_num,y,btr d j d.size⟩
      case measure=>simp [intOf];omega
  · go_wp2_with fail
    go_ret;refine ⟨⟨-1,rfl,?_⟩,d⟩;have:=m.o;rw [List.take_of_length_le (by omega)] at this;rw [this];simp
theorem sI (v:Value) (b:List cB) (w:World) (f:aD 0 w.heap.size w v b) (j:b.length<=1000000) (i:∀s∈b,s.text.length<=1000000000):
 Calls prog 157 #[v, .func (.func 158) #[] #[]] w λe w'=>e=a0 (a1 (!b.all dt))/\Bw w w':=by
 have H:=Z (zk v b w f j i);obtain ⟨a,l,rfl,_⟩:=f;go_enter func157,ntmps157;cases hq:b.all dt
 · go_wp2_with (go_at_call 206;((with_reducible refine ad H.o ?_);rintro e w' ⟨⟨k,rfl,c⟩,d⟩;have g:0<=k:=c.mpr hq;clear c))
   go_ret;exact ⟨an (by simp;try omega),d⟩
 · go_wp2_with (go_at_call 206;((with_reducible refine ad H.o ?_);rintro e w' ⟨⟨k,rfl,c⟩,d⟩;have g:¬0<=k:=(λh=>by have:=c.mp h;rw [hq] at this;cases this);clear c))
   go_ret;exact ⟨an (by simp;try omega),d⟩
open Go.RowKit
theorem oM (f:af) (d:Value) (w:World) (h:bu f.tag=false):
 Calls prog 110 #[fieldV f d] w λe w'=>e=a0 (J U (wrongF f))/\Bw w w':=by
 have c:=Z (yg f h);obtain ⟨g,k,data,l⟩:=f;simp only at h;have a:=Z (λW=>tE g W);rw [h] at a;unfold fieldV;go_enter func110,ntmps110;go_wp2_with (go_at_call 153;((with_reducible refine ad (a.o _) ?_);rintro e w1 ⟨rfl,b⟩;obtain ⟨i,j⟩:=aE b))
 go_ret;exact ⟨aH c.o.symm,btr (am _ _) b (by simp)⟩
theorem mZ (f:af) (d:Value) (w:World) (z:∃a u,d=a4 a f.subs.length u) (A:(fieldBytes f).length<=1000000) (h:bu f.tag=true) (l:fL f.tag=true):
 Calls prog 110 #[fieldV f d] w λe w'=>e=a0 (J U (wrongF f))/\Bw w w':=by
 have g:=Z (uY f h l);obtain ⟨a,u,rfl⟩:=z;have q:=bN f 0;obtain ⟨y,r,data,s⟩:=f;simp only at h l q;have v:data.length<=1000000000:=by simp at q;omega
 have k:=Z (λW=>tE y W);rw [h] at k;have j:=Z (λW=>mD y W);rw [l] at j;have i:=Z (λW=>oh data W v);clear q A v h l;unfold fieldV;cases ht:aR data
 · rw [ht] at i g;go_enter func110,ntmps110
   go_wp2_with first
    |(go_at_call 153;((with_reducible refine ad (k.o _) ?_);rintro e w1 ⟨rfl,b⟩;obtain ⟨m,o⟩:=aE b))
    |(go_at_call 154;((with_reducible refine ad (j.o _) ?_);rintro e w' ⟨rfl,rfl⟩))
    |(go_at_call 155;((with_reducible refine ad (i.o _) ?_);rintro e t ⟨rfl,c⟩;obtain ⟨n,p⟩:=aE c))
   go_ret;exact ⟨aH (g.o.trans (by simp)).symm,btr (btr (am _ _) b (by simp)) c (ax (by simp) b.size)⟩
 · rw [ht] at i g;by_cases hi:r=[]
   · subst hi;by_cases hs:s=[]
     · subst hs;go_enter func110,ntmps110
       go_wp2_with first
        |(go_at_call 153;((with_reducible refine ad (k.o _) ?_);rintro e w1 ⟨rfl,b⟩;obtain ⟨m,o⟩:=aE b;have x:w.heap.size<w1.heap.size:=(by have:=b.size;simp at this;omega)))
        |(go_at_call 154;((with_reducible refine ad (j.o _) ?_);rintro e w' ⟨rfl,rfl⟩))
        |(go_at_call 155;((with_reducible refine ad (i.o _) ?_);rintro e t ⟨rfl,c⟩;obtain ⟨n,p⟩:=aE c))
       all_goals go_ret
       all_goals exact ⟨aH (g.o.trans (by simp)).symm,btr (btr (am _ _) b (by simp)) c (ax (by simp) b.size)⟩
     · have D:0<s.length:=List.length_pos_iff.mpr hs;have E:((s.length:Int)==0)=false:=beq_eq_false_iff_ne.2 (by omega);go_enter func110,ntmps110
       go_wp2_with first
        |(go_at_call 153;((with_reducible refine ad (k.o _) ?_);rintro e w1 ⟨rfl,b⟩;obtain ⟨m,o⟩:=aE b;have x:w.heap.size<w1.heap.size:=(by have:=b.size;simp at this;omega)))
        |(go_at_call 154;((with_reducible refine ad (j.o _) ?_);rintro e w' ⟨rfl,rfl⟩))
        |(go_at_call 155;((with_reducible refine ad (i.o _) ?_);rintro e t ⟨rfl,c⟩;obtain ⟨n,p⟩:=aE c))
       all_goals go_ret
       all_goals exact ⟨aH (g.o.trans (by simp [hs])).symm,btr (btr (am _ _) b (by simp)) c (ax (by simp) b.size)⟩
   · have B:(r==[])=false:=by simpa using hi
     have C:r.isEmpty=false:=by simpa using hi
     go_enter func110,ntmps110
     go_wp2_with first
      |(go_at_call 153;((with_reducible refine ad (k.o _) ?_);rintro e w1 ⟨rfl,b⟩;obtain ⟨m,o⟩:=aE b;have x:w.heap.size<w1.heap.size:=(by have:=b.size;simp at this;omega)))
      |(go_at_call 154;((with_reducible refine ad (j.o _) ?_);rintro e w' ⟨rfl,rfl⟩))
      |(go_at_call 155;((with_reducible refine ad (i.o _) ?_);rintro e t ⟨rfl,c⟩;obtain ⟨n,p⟩:=aE c))
     all_goals go_ret
     all_goals exact ⟨aH (g.o.trans (by simp [hi])).symm,btr (btr (am _ _) b (by simp)) c (ax (by simp) b.size)⟩
theorem mY (f:af) (d:Value) (w:World) (A:aD 0 w.heap.size w d f.subs) (E:(fieldBytes f).length<=1000000) (F:f.subs.length<=1000000) (h:bu f.tag=true) (z:fL f.tag=false):
 Calls prog 110 #[fieldV f d] w λe w'=>e=a0 (J U (wrongF f))/\Bw w w':=by
 have o:=Z (oS f h z);have C:=Z (λi h=>ax (vf f i h) E);obtain ⟨k,r,data,c⟩:=f;simp only at h z A F
 have B:Hid (∀W,Bw w W->Calls prog 157 #[d, .func (.func 158) #[] #[]] W λe w'=>e=a0 (a1 (!c.all dt))/\Bw W w'):=λW b=>
  sI d c W ((A.kept (aX b (av _))).mono (av _) b.size) F (λs H=>by
   obtain ⟨i,x,rfl⟩:=List.getElem_of_mem H
   have:=C i x
   simp only at this
   omega)
 have m:=Z (λW=>tE k W);rw [h] at m;have l:=Z (λW=>mD k W);rw [z] at l;obtain ⟨a,K,rfl,_⟩:=A;clear E h z C;unfold fieldV;by_cases hd0:data=[]
 · subst hd0;by_cases x:r.length=2
   · obtain ⟨p,q,rfl⟩:∃p q,r=[p,q]:=by
      match r,x with
      |[p,q],_=>exact ⟨p,q,rfl⟩
     clear x;have n:=Z (λW=>sk p W);have t:=Z (λW=>sk q W);have g:Hid (wrongF ⟨k,[p,q],[],c⟩=if gj p&&gj q&& !c.isEmpty&&c.all dt then 0 else 14):=by rw [o.o];simp [iL,Hid]
     clear o;by_cases hse:c=[]
     · have j:Hid (wrongF ⟨k,[p,q],[],c⟩=14):=by rw [g.o,hse];simp [Hid]
       have R:((c.length:Int)==0)=true:=by simp [hse]
       have I:¬(0:Int)<c.length:=by simp [hse]
       clear g hse;go_enter func110,ntmps110
       go_wp2_with first
        |(go_at_call 153;((with_reducible refine ad (m.o _) ?_);rintro e w1 ⟨rfl,b⟩;obtain ⟨u,v⟩:=aE b;have y:w.heap.size<w1.heap.size:=(by have:=b.size;simp at this;omega)))
        |(go_at_call 154;((with_reducible refine ad (l.o _) ?_);rintro e w' ⟨rfl,rfl⟩))
       go_ret;exact ⟨aH j.o.symm,btr (am _ _) b (by simp)⟩
     · have Q:0<c.length:=List.length_pos_iff.mpr hse;have I:(0:Int)<c.length:=by omega
       have G:c.isEmpty=false:=by simpa using hse
       rw [G] at g;clear hse;cases hp:gj p
       · rw [hp] at n g;have j:Hid (wrongF ⟨k,[p,q],[],c⟩=14):=by rw [g.o];simp [Hid]
         clear g;go_enter func110,ntmps110
         go_wp2_with first
          |(go_at_call 153;((with_reducible refine ad (m.o _) ?_);rintro e w1 ⟨rfl,b⟩;obtain ⟨u,v⟩:=aE b;have y:w.heap.size<w1.heap.size:=(by have:=b.size;simp at this;omega)))
          |(go_at_call 154;((with_reducible refine ad (l.o _) ?_);rintro e w' ⟨rfl,rfl⟩))
          |(go_at_call_of 156 (aT aC p.toNat);((with_reducible refine ad (n.o _) ?_);rintro e w' ⟨rfl,rfl⟩))
          |(go_at_call_of 156 (aT aC q.toNat);((with_reducible refine ad (t.o _) ?_);rintro e w' ⟨rfl,rfl⟩))
         go_ret;exact ⟨aH j.o.symm,btr (am _ _) b (by simp)⟩
       · cases hq:gj q
         · rw [hp] at n g;rw [hq] at t g;have j:Hid (wrongF ⟨k,[p,q],[],c⟩=14):=by rw [g.o];simp [Hid]
           clear g;go_enter func110,ntmps110
           go_wp2_with first
            |(go_at_call 153;((with_reducible refine ad (m.o _) ?_);rintro e w1 ⟨rfl,b⟩;obtain ⟨u,v⟩:=aE b;have y:w.heap.size<w1.heap.size:=(by have:=b.size;simp at this;omega)))
            |(go_at_call 154;((with_reducible refine ad (l.o _) ?_);rintro e w' ⟨rfl,rfl⟩))
            |(go_at_call_of 156 (aT aC p.toNat);((with_reducible refine ad (n.o _) ?_);rintro e w' ⟨rfl,rfl⟩))
            |(go_at_call_of 156 (aT aC q.toNat);((with_reducible refine ad (t.o _) ?_);rintro e w' ⟨rfl,rfl⟩))
           go_ret;exact ⟨aH j.o.symm,btr (am _ _) b (by simp)⟩
         · rw [hp] at n g;rw [hq] at t g;cases ha:c.all dt
           all_goals
            rw [ha] at B g
            go_enter func110,ntmps110
            go_wp2_with first
             |(go_at_call 153;((with_reducible refine ad (m.o _) ?_);rintro e w1 ⟨rfl,b⟩;obtain ⟨u,v⟩:=aE b;have y:w.heap.size<w1.heap.size:=(by have:=b.size;simp at this;omega)))
             |(go_at_call 154;((with_reducible refine ad (l.o _) ?_);rintro e w' ⟨rfl,rfl⟩))
             |(go_at_call_of 156 (aT aC p.toNat);((with_reducible refine ad (n.o _) ?_);rintro e w' ⟨rfl,rfl⟩))
             |(go_at_call_of 156 (aT aC q.toNat);((with_reducible refine ad (t.o _) ?_);rintro e w' ⟨rfl,rfl⟩))
             |(go_at_call 157;((with_reducible refine ad (B.o _ (btr (am _ _) b (by simp))) ?_);rintro e T ⟨rfl,D⟩;obtain ⟨L,O⟩:=aE D))
            go_ret
            exact ⟨aH (g.o.trans (by simp)).symm,btr (btr (am _ _) b (by simp)) D (ax (by simp) b.size)⟩
   · have P:((r.length:Int)==2)=false:=by simp;omega
     have j:Hid (wrongF ⟨k,r,[],c⟩=14):=by rw [o.o];simp [iL,x,Hid]
     clear o;go_enter func110,ntmps110
     go_wp2_with first
      |(go_at_call 153;((with_reducible refine ad (m.o _) ?_);rintro e w1 ⟨rfl,b⟩;obtain ⟨u,v⟩:=aE b;have y:w.heap.size<w1.heap.size:=(by have:=b.size;simp at this;omega)))
      |(go_at_call 154;((with_reducible refine ad (l.o _) ?_);rintro e w' ⟨rfl,rfl⟩))
     go_ret;exact ⟨aH j.o.symm,btr (am _ _) b (by simp)⟩
 · have M:(data==[])=false:=by simpa using hd0
   have N:data.isEmpty=false:=by simpa using hd0
   have j:Hid (wrongF ⟨k,r,data,c⟩=14):=by rw [o.o];simp [hd0,Hid]
   clear o;go_enter func110,ntmps110
   go_wp2_with first
    |(go_at_call 153;((with_reducible refine ad (m.o _) ?_);rintro e w1 ⟨rfl,b⟩;obtain ⟨u,v⟩:=aE b;have y:w.heap.size<w1.heap.size:=(by have:=b.size;simp at this;omega)))
    |(go_at_call 154;((with_reducible refine ad (l.o _) ?_);rintro e w' ⟨rfl,rfl⟩))
   go_ret;exact ⟨aH j.o.symm,btr (am _ _) b (by simp)⟩
theorem yc (f:af) (d:Value) (w:World) (g:aD 0 w.heap.size w d f.subs) (c:(fieldBytes f).length<=1000000) (j:f.subs.length<=1000000):
 Calls prog 110 #[fieldV f d] w λe w'=>e=a0 (J U (wrongF f))/\Bw w w':=by
 have i:∃a b,d=a4 a f.subs.length b:=by obtain ⟨a,b,h,_⟩:=g;exact ⟨a,b,h⟩
 cases h:bu f.tag
 · exact oM f d w h
 · cases hc:fL f.tag
   · exact mY f d w g c j h hc
   · exact mZ f d w i c h hc
end
section
open Go.RowKit
open Go.RowKit
open Go.RowKit
def after (M:Bs) (i:Nat) (r:Except Nat Nat) (g:Bs->af) (a:Bs->Nat->Bs->Except Int af):Except Int af:=match r with
 | .error j=> .error (if j<i+M.length then (j:Int) else (j:Int) - 1)
 | .ok j=>match M.drop (j - i) with
   |[]=> .error ((j:Int) - 1)
   |c::r=>if c.toNat=30 then (if r=[] then .ok (g (M.take (j - i))) else .error ((j:Int)+1)) else if c.toNat=31 then a (M.take (j - i)) (j+1) r else .error j
end
end Go.Proofs.YtjcimanddakkaaaGreatDoor
