/- Lemmas. -/
import Derived.Test.YtjcimanddakkaaaGreatDoorX0
import Derived.Test.YtjcimanddakkaaaGreatDoorX1
import Derived.Laws.BitsLemmas
import Derived.Deep.QuietTactic
import Derived.BigQuiet
import Derived.Lib.OthersKept
set_option maxRecDepth 100000
set_option maxHeartbeats 8000000
namespace Go.Proofs.YtjcimanddakkaaaGreatDoor
open Go.Calls renaming mono→a0a
open Go.Lib renaming hid→a0b
open Go.Proofs.Tryz renaming prog→a0c
open _root_.UInt8 renaming toNat_lt→a0d
open _root_.List renaming getD_cons_zero→a0e,drop_succ_cons→a0f,length_cons→a0i,drop_zero→a0k,getD_cons_succ→a0o
open _root_.Nat renaming le_refl→a0g,le_trans→a0h
open Go.IntKind renaming u8→a0j
open Go.Value renaming int→a0l
open Go.RowKit renaming Below→a0m
open Go.Utf8 renaming decode→a0n
section
open Go.RowKit
def fullB:Bs->Bool
 |[]=>false
 |b0::l=>decide (Lib.firstT b0.toNat%8<=l.length+1)||(match l with
  |[]=>false
  |b1::m=>decide (b1.toNat<Lib.accLo (Lib.firstT b0.toNat / 16))||decide (Lib.accHi (Lib.firstT b0.toNat / 16)<b1.toNat)||(match m with
   |[]=>false
   |b2::_=>decide (b2.toNat<128)||decide (191<b2.toNat)))
open Go.RowKit
def brokenTo (l:Bs):Nat->Nat
 |0=>0
 |k+1=>if brokenTo l k<k then brokenTo l k else if fullB (l.take (k+1)) then k else k+1
theorem rn (l:Bs) (k n:Nat) (h:brokenTo l k=k) (a:fullB (l.take (k+1))=true) (b:k<n):brokenTo l n=k:=by
 induction n with
 |zero=>omega
 |succ n ih=>
  by_cases hk:k=n
  · subst hk;unfold brokenTo;rw [h,if_neg (by omega),if_pos a]
  · have:=ih (by omega);unfold brokenTo;rw [this,if_pos (by omega)]
def iV (l:Bs):Nat:=brokenTo l l.length
open Go.Lib
def bK:Ch->Bs->Nat->Except Nat Nat
 |x,[],i=>if x.left=0 then .ok i else .error i
 |x,c::l,i=>if x.left=0/\c.toNat<32 then .ok i else match chNext x c with
  |some y=>bK y l (i+1)
  |none=> .error i
theorem rd (x y:Ch) (a:x.left=0) (b:y.left=0) (c:UInt8):chNext x c=chNext y c:=by
 unfold chNext;simp [a,b]
theorem eD (x y:Ch) (a:x.left=0) (b:y.left=0) (l:Bs) (i:Nat):bK x l i=bK y l i:=by
 cases l with
 |nil=>simp [bK,a,b]
 |cons c l=>simp only [bK,a,b,rd x y a b]
theorem hE (x:Ch) (a:0<x.left) (c:UInt8) (l:Bs) (i:Nat):bK x (c::l) i=if c.toNat<x.low∨x.high<c.toNat then .error i else bK ⟨x.left - 1,128,191⟩ l (i+1):=by
 simp only [bK];rw [if_neg (by omega)];unfold chNext;simp only [a,if_true];by_cases h:c.toNat<x.low∨x.high<c.toNat
 · rw [if_pos h,if_pos h]
 · rw [if_neg h,if_neg h]
theorem fY (x:Ch) (a:0<x.left) (i:Nat):bK x [] i= .error i:=by simp [bK];omega
structure rC (b0:UInt8) (sz lo hi:Nat):Prop where
 ch:chNext ch0 b0=some ⟨sz - 1,lo,hi⟩
 big:¬b0.toNat<32
 f8:firstT b0.toNat%8=sz
 lo':accLo (firstT b0.toNat / 16)=lo
 hi':accHi (firstT b0.toNat / 16)=hi
 dec:∀n b1 b2 b3,1<=n->b1<256->b2<256->b3<256->decodeN n b0.toNat b1 b2 b3=slowN n b0.toNat b1 b2 b3 sz lo hi
 s2:2<=sz
 s4:sz<=4
 l1:128<=lo
 h1:hi<=191
def rT (a lo b:Nat):Bs->Nat×Bool
 |[]=>(1,false)
 |b1::r=>if b1.toNat<lo∨b<b1.toNat then (1,false) else if a=2 then (2,true) else match r with
  |[]=>(2,false)
  |b2::q=>if b2.toNat<128∨191<b2.toNat then (2,false) else if a=3 then (3,true) else match q with
   |[]=>(3,false)
   |b3::_=>if b3.toNat<128∨191<b3.toNat then (3,false) else (4,true)
theorem uu {d:UInt8} {c lo e:Nat} (h:rC d c lo e) (m:Bs) (i j:Nat) (b:Bool) (a:rT c lo e m=(j,b)):
 bK ch0 (d::m) i=if b then bK ch0 ((d::m).drop j) (i+j) else .error (i+j):=by
 have g:=h.s2;have k:=h.s4;have f:bK ch0 (d::m) i=bK ⟨c - 1,lo,e⟩ m (i+1):=by simp only [bK];rw [if_neg (by have:=h.big;omega),h.ch]
 rw [f];cases m with
 |nil=>cases a;rw [fY _ (by simp;omega)];rfl
 |cons b1 r=>
  rw [hE _ (by simp;omega)];simp only [rT] at a;by_cases c1:b1.toNat<lo∨e<b1.toNat
  · rw [if_pos c1] at a;cases a;rw [if_pos c1];rfl
  · rw [if_neg c1] at a;rw [if_neg c1];by_cases z2:c=2
    · rw [if_pos z2] at a;cases a;simp only [if_true,a0f,a0k];exact eD _ _ (by simp [z2]) rfl _ _
    · rw [if_neg z2] at a;cases r with
      |nil=>cases a;rw [fY _ (by simp;omega)];rfl
      |cons b2 q=>
       rw [hE _ (by simp;omega)];simp only at a ⊢;by_cases c2:b2.toNat<128∨191<b2.toNat
       · rw [if_pos c2] at a;cases a;rw [if_pos c2];rfl
       · rw [if_neg c2] at a;rw [if_neg c2];by_cases z3:c=3
         · rw [if_pos z3] at a;cases a;simp only [if_true,a0f,a0k];exact eD _ _ (by simp [z3]) rfl _ _
         · rw [if_neg z3] at a;cases q with
           |nil=>cases a;rw [fY _ (by simp;omega)];rfl
           |cons b3 p=>
            rw [hE _ (by simp;omega)];simp only at a ⊢;by_cases c3:b3.toNat<128∨191<b3.toNat
            · rw [if_pos c3] at a;cases a;rw [if_pos c3];rfl
            · rw [if_neg c3] at a;cases a;rw [if_neg c3];simp only [if_true,a0f,a0k];exact eD _ _ (by simp;omega) rfl _ _
theorem fH {l:Bs} {k:Nat} (d:k<l.length) (a:∀j,j<k->fullB (l.take (j+1))=false) (b:fullB (l.take (k+1))=true):iV l=k:=by
 have c:∀j,j<=k->brokenTo l j=j:=by
  intro j;induction j with
  |zero=>intro _;rfl
  |succ j ih=>intro e;unfold brokenTo;rw [ih (by omega),if_neg (by omega),a j (by omega)];rfl
 exact rn l k _ (c k (a0g _)) b d
theorem gv {l:Bs} (a:∀j,j<l.length->fullB (l.take (j+1))=false):iV l=l.length:=by
 have b:∀j,j<=l.length->brokenTo l j=j:=by
  intro j;induction j with
  |zero=>intro _;rfl
  |succ j ih=>intro c;unfold brokenTo;rw [ih (by omega),if_neg (by omega),a j (by omega)];rfl
 exact b _ (a0g _)
theorem sB {a:UInt8} {c lo b:Nat} (h:rC a c lo b):fullB [a]=false:=by
 have:=h.s2;simp [fullB,h.f8];omega
theorem sA {b:UInt8} {d lo c:Nat} (h:rC b d lo c) (a:UInt8):fullB [b,a]=(decide (d<=2)||(decide (a.toNat<lo)||decide (c<a.toNat))):=by
 simp [fullB,h.f8,h.lo',h.hi']
theorem sy {c:UInt8} {e lo d:Nat} (h:rC c e lo d) (a b:UInt8):fullB [c,a,b]=(decide (e<=3)||(decide (a.toNat<lo)||decide (d<a.toNat)||(decide (b.toNat<128)||decide (191<b.toNat)))):=by
 simp [fullB,h.f8,h.lo',h.hi']
theorem sw {a:UInt8} {f lo e:Nat} (h:rC a f lo e) (b c d:UInt8):fullB [a,b,c,d]=true:=by
 have:=h.s4;simp [fullB,h.f8];left;omega
theorem pH {c:UInt8} {f lo g:Nat} (h:rC c f lo g) (m:Bs) (k:Nat) (a:rT f lo g m=(k,false)):iV (c::m)=k:=by
 have o:=h.s2;have s:=h.s4;have d:=sB h;cases m with
 |nil=>
  cases a;refine (gv ?_).trans rfl;intro j b;have:j=0:=by simp at b;omega
  subst this;simpa using d
 |cons b1 r=>
  have i:=sA h b1;simp only [rT] at a;by_cases c1:b1.toNat<lo∨g<b1.toNat
  · rw [if_pos c1] at a;cases a;refine fH (by simp) ?_ ?_
    · intro j b;have:j=0:=by omega
      subst this;simpa using d
    · show fullB [c,b1]=true;rw [i];simp;omega
  · rw [if_neg c1] at a;by_cases z2:f=2
    · rw [if_pos z2] at a;cases a
    · rw [if_neg z2] at a;have e:fullB [c,b1]=false:=by rw [i];simp;omega
      cases r with
      |nil=>
       cases a;refine (gv ?_).trans rfl;intro j b;have:j=0∨j=1:=by simp at b;omega
       rcases this with rfl|rfl
       · simpa using d
       · simpa using e
      |cons b2 q=>
       have l:=sy h b1 b2;simp only at a;by_cases c2:b2.toNat<128∨191<b2.toNat
       · rw [if_pos c2] at a;cases a;refine fH (by simp) ?_ ?_
         · intro j b;have:j=0∨j=1:=by omega
           rcases this with rfl|rfl
           · simpa using d
           · simpa using e
         · show fullB [c,b1,b2]=true;rw [l];simp;omega
       · rw [if_neg c2] at a;by_cases z3:f=3
         · rw [if_pos z3] at a;cases a
         · rw [if_neg z3] at a;have n:fullB [c,b1,b2]=false:=by rw [l];simp;omega
           cases q with
           |nil=>
            cases a;refine (gv ?_).trans rfl;intro j b;have:j=0∨j=1∨j=2:=by simp at b;omega
            rcases this with rfl|rfl|rfl
            · simpa using d
            · simpa using e
            · simpa using n
           |cons b3 p=>
            simp only at a;by_cases c3:b3.toNat<128∨191<b3.toNat
            · rw [if_pos c3] at a;cases a;refine fH (by simp) ?_ ?_
              · intro j b;have:j=0∨j=1∨j=2:=by omega
                rcases this with rfl|rfl|rfl
                · simpa using d
                · simpa using e
                · simpa using n
              · show fullB [c,b1,b2,b3]=true;exact sw h b1 b2 b3
            · rw [if_neg c3] at a;cases a
theorem dg (a:UInt8) (m:Bs):decodeGo ⟨(a::m).toArray⟩=decodeN (m.length+1) a.toNat (m.getD 0 0).toNat (m.getD 1 0).toNat (m.getD 2 0).toNat:=by
 unfold decodeGo;have c:¬(⟨(a::m).toArray⟩:ByteArray).size=0:=by show ¬(a::m).toArray.size=0;simp
 rw [if_neg c,decode_at];have b:∀k,((⟨(a::m).toArray⟩:ByteArray).get! k)=(a::m).getD k 0:=by intro k;show (a::m).toArray[k]! =_;rw [getElem!_def];simp only [List.getElem?_toArray,List.getD_eq_getElem?_getD];cases (a::m)[k]? <;>rfl
 rw [b,b,b,b];rfl
theorem pG {d:UInt8} {c lo e:Nat} (h:rC d c lo e) (m:Bs) (j:Nat) (b:Bool) (a:rT c lo e m=(j,b)):
 (b=true->(decodeGo ⟨(d::m).toArray⟩).2=j/\2<=j/\j<=m.length+1)/\(b=false->decodeGo ⟨(d::m).toArray⟩=(65533,1)):=by
 have f:=h.s2;have g:=h.s4;rw [dg,h.dec _ _ _ _ (by omega) (a0d _) (a0d _) (a0d _)];unfold slowN;cases m with
 |nil=>cases a;exact ⟨λh=>(by cases h),λ_=>if_pos (by simp;omega)⟩
 |cons b1 r=>
  simp only [rT] at a;simp only [a0i,a0e];by_cases c1:b1.toNat<lo∨e<b1.toNat
  · rw [if_pos c1] at a;cases a;exact ⟨λh=>(by cases h),λ_=>by simp [c1]⟩
  · rw [if_neg c1] at a;simp only [if_neg c1];by_cases z2:c=2
    · rw [if_pos z2] at a;cases a;subst z2;refine ⟨λ_=>⟨?_,by omega,by omega⟩,λh=>by cases h⟩;rw [if_neg (by omega)];rfl
    · rw [if_neg z2] at a;cases r with
      |nil=>cases a;exact ⟨λh=>(by cases h),λ_=>if_pos (by simp;omega)⟩
      |cons b2 q=>
       simp only [a0i,a0e,a0o] at a ⊢;by_cases c2:b2.toNat<128∨191<b2.toNat
       · rw [if_pos c2] at a;cases a;exact ⟨λh=>(by cases h),λ_=>by simp [c2];intros;omega⟩
       · rw [if_neg c2] at a;simp only [if_neg c2];by_cases z3:c=3
         · rw [if_pos z3] at a;cases a;subst z3;refine ⟨λ_=>⟨?_,by omega,by omega⟩,λh=>by cases h⟩;rw [if_neg (by omega)];rfl
         · rw [if_neg z3] at a;cases q with
           |nil=>cases a;exact ⟨λh=>(by cases h),λ_=>if_pos (by simp;omega)⟩
           |cons b3 p=>
            simp only [a0i,a0e] at a ⊢;by_cases c3:b3.toNat<128∨191<b3.toNat
            · rw [if_pos c3] at a;cases a;exact ⟨λh=>(by cases h),λ_=>by rw [if_neg (by omega),if_neg (by omega),if_neg (by omega),if_pos c3]⟩
            · rw [if_neg c3] at a;cases a;obtain rfl:c=4:=by omega
              refine ⟨λ_=>⟨?_,by omega,by omega⟩,λh=>by cases h⟩;rw [if_neg (by omega),if_neg (by omega),if_neg (by omega),if_neg c3]
theorem zm {n:Nat} (h:194<=n/\n<224):firstT n=2:=by unfold firstT;rw [if_neg (by omega),if_neg (by omega),if_pos (by omega)]
theorem xF {n:Nat} (h:n=224):firstT n=19:=by subst h;rfl
theorem zl {n:Nat} (h:(225<=n/\n<237)∨(238<=n/\n<240)):firstT n=3:=by
 unfold firstT;rcases h with h|h
 · rw [if_neg (by omega),if_neg (by omega),if_neg (by omega),if_neg (by omega),if_pos (by omega)]
 · rw [if_neg (by omega),if_neg (by omega),if_neg (by omega),if_neg (by omega),if_neg (by omega),if_neg (by omega),if_pos (by omega)]
theorem xE {n:Nat} (h:n=237):firstT n=35:=by subst h;rfl
theorem xD {n:Nat} (h:n=240):firstT n=52:=by subst h;rfl
theorem zk {n:Nat} (h:241<=n/\n<244):firstT n=4:=by
 unfold firstT;rw [if_neg (by omega),if_neg (by omega),if_neg (by omega),if_neg (by omega),if_neg (by omega),if_neg (by omega),if_neg (by omega),if_neg (by omega),if_pos (by omega)]
theorem xC {n:Nat} (h:n=244):firstT n=68:=by subst h;rfl
theorem vl {n:Nat} (h:(128<=n/\n<194)∨245<=n):firstT n=241:=by
 unfold firstT;rcases h with h|h
 · rw [if_neg (by omega),if_pos (by omega)]
 · rw [if_neg (by omega),if_neg (by omega),if_neg (by omega),if_neg (by omega),if_neg (by omega),if_neg (by omega),if_neg (by omega),if_neg (by omega),if_neg (by omega),if_neg (by omega)]
theorem sD (a:UInt8):a.toNat<128∨((128<=a.toNat/\a.toNat<194)∨245<=a.toNat)∨∃l lo k,rC a l lo k:=by
 have m:=a.toNat_lt;rcases Nat.lt_or_ge a.toNat 128 with h|h
 · exact .inl h
 right;rcases (show ((128<=a.toNat/\a.toNat<194)∨245<=a.toNat)∨(194<=a.toNat/\a.toNat<224)∨a.toNat=224∨((225<=a.toNat/\a.toNat<237)∨(238<=a.toNat/\a.toNat<240))∨a.toNat=237∨a.toNat=240∨(241<=a.toNat/\a.toNat<244)∨a.toNat=244 by omega) with h|h|h|h|h|h|h|h
 · exact .inl h
 all_goals right
 · have b:firstT a.toNat=2:=zm h;refine ⟨2,128,191,xU (by simp [ch0]) h,by omega,by rw [b],by rw [b];rfl,by rw [b];rfl,λn c d e j f g i=>(slow_C2 n _ c d e j f g i h).symm,by omega,by omega,by omega,by omega⟩
 · have b:firstT a.toNat=19:=xF h;refine ⟨3,160,191,zU (by simp [ch0]) h,by omega,by rw [b],by rw [b];rfl,by rw [b];rfl,λn c d e j f g i=>(slow_E0 n _ c d e j f g i h).symm,by omega,by omega,by omega,by omega⟩
 · have b:firstT a.toNat=3:=zl h;refine ⟨3,128,191,zS (by simp [ch0]) (by omega),by omega,by rw [b],by rw [b];rfl,by rw [b];rfl,λn c d e j f g i=>(slow_E1 n _ c d e j f g i h).symm,by omega,by omega,by omega,by omega⟩
 · have b:firstT a.toNat=35:=xE h;refine ⟨3,128,159,zT (by simp [ch0]) h,by omega,by rw [b],by rw [b];rfl,by rw [b];rfl,λn c d e j f g i=>(slow_ED n _ c d e j f g i h).symm,by omega,by omega,by omega,by omega⟩
 · have b:firstT a.toNat=52:=xD h;refine ⟨4,144,191,zR (by simp [ch0]) h,by omega,by rw [b],by rw [b];rfl,by rw [b];rfl,λn c d e j f g i=>(slow_F0 n _ c d e j f g i h).symm,by omega,by omega,by omega,by omega⟩
 · have b:firstT a.toNat=4:=zk h;refine ⟨4,128,191,zP (by simp [ch0]) (by omega),by omega,by rw [b],by rw [b];rfl,by rw [b];rfl,λn c d e j f g i=>(slow_F1 n _ c d e j f g i h).symm,by omega,by omega,by omega,by omega⟩
 · have b:firstT a.toNat=68:=xC h;refine ⟨4,128,143,zQ (by simp [ch0]) h,by omega,by rw [b],by rw [b];rfl,by rw [b];rfl,λn c d e j f g i=>(slow_F4 n _ c d e j f g i h).symm,by omega,by omega,by omega,by omega⟩
def dR (r:Nat×Nat):Bool:=decide (r.1=65533)&&decide (r.2<2)
theorem qP (a:UInt8) (m:Bs) (n:32<=a.toNat) (i:Nat):
 (dR (decodeGo ⟨(a::m).toArray⟩)=true->bK ch0 (a::m) i= .error (i+iV (a::m)))/\
 (dR (decodeGo ⟨(a::m).toArray⟩)=false->1<=(decodeGo ⟨(a::m).toArray⟩).2/\(decodeGo ⟨(a::m).toArray⟩).2<=m.length+1/\bK ch0 (a::m) i=bK ch0 ((a::m).drop (decodeGo ⟨(a::m).toArray⟩).2) (i+(decodeGo ⟨(a::m).toArray⟩).2)):=by
 rcases sD a with h|h|⟨q,lo,p,h⟩
 · have d:decodeGo ⟨(a::m).toArray⟩=(a.toNat,1):=by rw [dg];unfold decodeN;rw [if_pos h]
   rw [d];constructor
   · intro c;simp [dR] at c;omega
   · intro _;refine ⟨by simp,by simp,?_⟩;simp only [bK];rw [if_neg (by omega),qZ (by simp [ch0]) ⟨n,h⟩];simp only [a0f,a0k];exact eD _ _ rfl rfl _ _
 · have d:decodeGo ⟨(a::m).toArray⟩=(65533,1):=by
    rw [dg];unfold decodeN;rw [if_neg (by omega)];by_cases g1:a.toNat / 32=6/\1<m.length+1/\(m.getD 0 0).toNat / 64=2
    · rw [if_pos g1,if_neg (by omega)]
    · rw [if_neg g1,if_neg (by omega)];by_cases g3:a.toNat / 8=30/\(1<m.length+1/\(m.getD 0 0).toNat / 64=2)/\(2<m.length+1/\(m.getD 1 0).toNat / 64=2)/\(3<m.length+1/\(m.getD 2 0).toNat / 64=2)
      · rw [if_pos g3,if_neg (by omega)]
      · rw [if_neg g3]
   rw [d];have o:iV (a::m)=0:=by refine fH (by simp) (λj s=>by omega) ?_;have:firstT a.toNat=241:=vl h;simp [fullB,this]
   constructor
   · intro _;simp only [bK];rw [if_neg (by omega),ke (by simp [ch0]) (by omega),o];rfl
   · intro c;simp [dR] at c
 · cases hs:rT q lo p m with
   |mk j b=>
    obtain ⟨f,g⟩:=pG h m j b hs;have e:=uu h m i j b hs;cases b
    · rw [g rfl];constructor
      · intro _;rw [e,pH h m j hs];rfl
      · intro c;simp [dR] at c
    · obtain ⟨k,r,l⟩:=f rfl;constructor
      · intro c;simp only [dR,Bool.and_eq_true,decide_eq_true_eq] at c;omega
      · intro _;rw [k];exact ⟨by omega,l,by rw [e];rfl⟩
open Go.Lib
def wX (r:Except Nat Nat) (n:Nat):Bool:=match r with
 | .ok k=>decide (k=n)
 | .error _=>false
theorem mV:∀(l:Bs) (x:Ch) (i:Nat),(match chRun x l with
 |some y=>decide (y.left=0)
 |none=>false)=wX (bK x l i) (i+l.length)
 |[],x,i=>by
  simp only [chRun,bK]
  by_cases h:x.left=0<;>simp [h,wX]
 |c::l,x,i=>by
  simp only [chRun,bK]
  by_cases h:x.left=0/\c.toNat<32
  · rw [if_pos h,ke (by omega) (.inl h.2)]
    simp [wX]
  · rw [if_neg h]
    cases hn:chNext x c with
    |none=>simp [wX]
    |some y=>
     simp only
     rw [mV l y (i+1)]
     rw [show i+1+l.length=i+(c::l).length from by simp;omega]
theorem lc (l:Bs) (i:Nat):aP l=wX (bK ch0 l i) (i+l.length):=by
 unfold aP;exact mV l ch0 i
theorem sH (a:UInt8) (m:Bs) (h:a.toNat<32):aP (a::m)=false:=by
 unfold aP;rw [chRun,ke (by simp [ch0]) (.inl h)]
theorem qD (a:UInt8) (m:Bs) (g:32<=a.toNat):
 (dR (decodeGo ⟨(a::m).toArray⟩)=true->aP (a::m)=false)/\
 (dR (decodeGo ⟨(a::m).toArray⟩)=false->1<=(decodeGo ⟨(a::m).toArray⟩).2/\(decodeGo ⟨(a::m).toArray⟩).2<=m.length+1/\aP (a::m)=aP ((a::m).drop (decodeGo ⟨(a::m).toArray⟩).2)):=by
 obtain ⟨e,f⟩:=qP a m g 0;constructor
 · intro h;rw [lc _ 0,e h];rfl
 · intro h;obtain ⟨b,c,d⟩:=f h;refine ⟨b,c,?_⟩;rw [lc (a::m) 0,d,lc _ (0+(decodeGo ⟨(a::m).toArray⟩).2)];congr 1
   rw [List.length_drop,show 0+(decodeGo ⟨(a::m).toArray⟩).2+((a::m).length - (decodeGo ⟨(a::m).toArray⟩).2)=0+(a::m).length from by simp only [a0i] at *;omega]
theorem xu (l:Bs) (i:Nat):(⟨l.toArray⟩:ByteArray).get! i=l.getD i 0:=by
 show (l.toArray)[i]! =_;simp [getElem!_def,List.getD];cases l[i]? <;>rfl
theorem qR (l:Bs) (p:Nat) (h:p<l.length):a0n ⟨l.toArray⟩ p=decodeGo ⟨(l.drop p).toArray⟩:=by
 unfold decodeGo;rw [if_neg (by show ¬(l.drop p).toArray.size=0;simp;omega),decode_at,decode_at];simp only [xu];have e:∀j,(l.drop p).getD j 0=l.getD (p+j) 0:=λj=>by simp [List.getD]
 rw [e,e,e,e];show decodeN (l.toArray.size - p) _ _ _ _=decodeN ((l.drop p).toArray.size - 0) _ _ _ _;simp
theorem qS {n a b c d:Nat} (h:(decodeN n a b c d).1<128):a=(decodeN n a b c d).1:=by
 revert h;unfold decodeN;repeat' split
 all_goals (simp;try omega)
theorem oQ {n a b c d:Nat} (e:a<256) (f:b<256) (g:c<256) (h:(decodeN n a b c d).1=65533):
 (decodeN n a b c d).2<2∨(a=239/\b=191/\c=189/\2<n):=by
 have i:=e;have j:=f;have k:=g;revert h;unfold decodeN;repeat' split
 all_goals (simp;try omega)
theorem oP (n a:Nat) (h:2<n):decodeN n 239 191 189 a=(65533,3):=by
 unfold decodeN;rw [if_neg (by omega),if_neg (by omega),if_pos ⟨by omega,⟨by omega,by omega⟩,⟨by omega,by omega⟩⟩];simp
def fo (l:Bs):Bool:=decide ((decodeGo ⟨l.toArray⟩).1<32)||(decide ((decodeGo ⟨l.toArray⟩).1=65533)&& !ol [239,191,189] l)
theorem rZ (a:UInt8) (m:Bs) (n:32<=a.toNat):fo (a::m)=dR (decodeGo ⟨(a::m).toArray⟩):=by
 unfold fo dR;rw [dg];have l:¬(decodeN (m.length+1) a.toNat (m.getD 0 0).toNat (m.getD 1 0).toNat (m.getD 2 0).toNat).1<32:=λh=>by have:=qS (Nat.lt_trans h (by omega));omega
 rw [decide_eq_false l,Bool.false_or];by_cases hr:(decodeN (m.length+1) a.toNat (m.getD 0 0).toNat (m.getD 1 0).toNat (m.getD 2 0).toNat).1=65533
 · rw [decide_eq_true hr,Bool.true_and,Bool.true_and];have f:=oQ (a0d _) (a0d _) (a0d _) hr;by_cases hp:ol [239,191,189] (a::m)=true
   · rw [hp];have e:(a::m).take 3=[239,191,189]:=by simpa [ol] using hp
     match m,e with
     |m0::m1::q,e=>
      simp only [List.take_succ_cons,List.take_zero,List.cons.injEq,and_true] at e;obtain ⟨rfl,rfl,rfl⟩:=e;have:=oP ((191::189::q:Bs).length+1) (((191::189::q:Bs).getD 2 0).toNat) (by simp);simp only [a0e,a0o] at this ⊢;erw [this]
      rfl
   · rw [Bool.not_eq_true] at hp;rw [hp];rcases f with f|⟨k,c,d,b⟩
     · rw [decide_eq_true f];rfl
     · exfalso;match m,c,d,b with
       |m0::m1::q,c,d,b=> have g:a=239:=UInt8.toNat_inj.mp (by rw [k];rfl);have i:m0=191:=UInt8.toNat_inj.mp (by simpa using c);have j:m1=189:=UInt8.toNat_inj.mp (by simpa using d);subst g i j;simp [ol] at hp
       |[m0],c,d,b=>simp at b
       |[],c,d,b=>simp at b
 · rw [decide_eq_false hr,Bool.false_and,Bool.false_and]
theorem uJ (a:UInt8) (m:Bs):(fo (a::m)=true->aP (a::m)=false)/\
 (fo (a::m)=false->1<=(decodeGo ⟨(a::m).toArray⟩).2/\(decodeGo ⟨(a::m).toArray⟩).2<=m.length+1/\aP (a::m)=aP ((a::m).drop (decodeGo ⟨(a::m).toArray⟩).2)):=by
 by_cases hb:32<=a.toNat
 · rw [rZ a m hb];exact qD a m hb
 · have b:(decodeGo ⟨(a::m).toArray⟩)=(a.toNat,1):=by rw [dg];unfold decodeN;rw [if_pos (by omega)]
   have:fo (a::m)=true:=by unfold fo;rw [b];simp;omega
   rw [this];exact ⟨λ_=>sH a m (by omega),λh=>by cases h⟩
open Go.RowKit
theorem ik {w:World} {k:Nat} {s:ByteArray} {p:Nat} (h:w.heap[k]? =some (.stringIter s p)):w.iterPos k=p:=by simp [World.iterPos,h]
theorem mW (l:Bs) (w:World) (E:l.length<=1000000000):Calls a0c 155 #[S l] w λe w'=>e= .returned (.bool (aP l))/\a0m w.heap.size w w':=by
 go_enter Tryz.func155,Tryz.ntmps155;go_wp2_with fail
 go_loopw [3] (λv wr=>∃(a:Nat),wr.heap[w.heap.size]? =some (.stringIter ⟨l.toArray⟩ a)/\a0m w.heap.size w wr/\a<=l.length/\Hid (aP l=aP (l.drop a))) (λ_ wr=>l.length - wr.iterPos w.heap.size)
 case atStart=>exact ⟨0,World.iter_heap w _ 0,(Below.refl _ _).alloc (a0g _) _,by omega,rfl⟩
 case round=>
  obtain ⟨a,g,q,G,i⟩:=hrel;have y:=ik g;by_cases hp:a<l.length
  · have t:∀d,(Instr.next (.pointer (some ⟨w.heap.size,0,none⟩)) true d).run a0c wr=_:=λd=>Lib.run_next_any_at wr w.heap.size ⟨l.toArray⟩ a d g hp;have h:=Lib.iterAt_heap wr w.heap.size ⟨l.toArray⟩ a (a+(a0n ⟨l.toArray⟩ a).2) g;have f:=Lib.below_iterAt q (k:=w.heap.size) (a0g _) ⟨l.toArray⟩ (a+(a0n ⟨l.toArray⟩ a).2);obtain ⟨c,m,s⟩:∃c m,l.drop a=c::m:=⟨l[a],l.drop (a+1),List.drop_eq_getElem_cons hp⟩;have n:=uJ c m;rw [<- s] at n;have F:m.length+1=l.length - a:=by have:=congrArg List.length s;simpa using this.symm
    unfold fo at n;rw [qR l a hp] at t h f;obtain ⟨u,x⟩:∃u,u=wr.iterAt w.heap.size ⟨l.toArray⟩ (a+(Lib.decodeGo ⟨(l.drop a).toArray⟩).2):=⟨_,rfl⟩;rw [<- x] at t h f;generalize (Lib.decodeGo ⟨(l.drop a).toArray⟩).1=r at *;generalize (Lib.decodeGo ⟨(l.drop a).toArray⟩).2=z at *;have j:=a0b n;clear x g q n s;by_cases h1:r<32
    · have b:Hid (aP l=false):=by rw [i.out];exact j.out.1 (by simp [h1])
      go_wp2_with fail
      go_ret;exact ⟨ap b.symm,f⟩
    · have D:¬(r:Int)<32:=by omega
      by_cases h2:r=65533
      · have A:(r:Int)=65533:=by omega
        cases hx:ol [239,191,189] (l.drop a)
        · have b:Hid (aP l=false):=by rw [i.out];exact j.out.1 (by simp [h2,hx])
          have p:=a0b hx;clear hx;go_wp2_with (go_at_call 205;((with_reducible refine a0a (fD (l.drop a) [239,191,189] _) ?_);rintro e w' ⟨rfl,rfl⟩;rw [p.out]))
          go_ret;exact ⟨ap b.symm,f⟩
        · obtain ⟨B,C,b⟩:=j.out.2 (by simp [h2,hx]);have p:=a0b hx;clear hx;rw [List.drop_drop] at b;have o:=a0b (i.trans b);clear b;go_wp2_with (go_at_call 205;((with_reducible refine a0a (fD (l.drop a) [239,191,189] _) ?_);rintro e w' ⟨rfl,rfl⟩;rw [p.out]))
          go_roundw
          case rel=>exact ⟨a+z,h,f,by omega,o⟩
          case measure=>rw [y,ik h];omega
      · have A:¬(r:Int)=65533:=by omega
        obtain ⟨B,C,b⟩:=j.out.2 (by simp [h1,h2]);rw [List.drop_drop] at b;have o:=a0b (i.trans b);clear b;go_wp2_with fail
        go_roundw
        case rel=>exact ⟨a+z,h,f,by omega,o⟩
        case measure=>rw [y,ik h];omega
  · have t:∀d,(Instr.next (.pointer (some ⟨w.heap.size,0,none⟩)) true d).run a0c wr=_:=λd=>Lib.run_next_end_at wr w.heap.size ⟨l.toArray⟩ a d g hp;have b:Hid (aP l=true):=by rw [i.out,List.drop_eq_nil_of_le (by omega)];rfl
    clear g;go_wp2_with fail
    go_ret;exact ⟨ap b.symm,q⟩
open Go.RowKit
end
section
open Go.RowKit
attribute [local go_sem ↓] Go.wp_at_zero Go.wp_at_succ
theorem ui (c:UInt8) (t:Bs) (w:World) (d:t.length<=1000000000):Calls a0c 158 #[.agg #[.int .u8 c.toNat,S t]] w λe w'=>e= .returned (.bool (!(aP t&&eE c)))/\a0m w.heap.size w w':=by
 have a:=a0b (λW=>mW t W d);cases hs:eE c
 · go_enter Tryz.func158,Tryz.ntmps158;go_wp2_with (go_at_call 159;((with_reducible refine a0a (nT c _) ?_);rintro e w' ⟨rfl,rfl⟩;rw [hs]))
   go_ret;exact ⟨ap (by simp),am _ _⟩
 · go_enter Tryz.func158,Tryz.ntmps158
   go_wp2_with (first
    |(go_at_call 159;((with_reducible refine a0a (nT c _) ?_);rintro e w' ⟨rfl,rfl⟩;rw [hs]))
    |(go_at_call 155;((with_reducible refine a0a (a.out _) ?_);rintro e w' ⟨rfl,b⟩)))
   go_ret;exact ⟨ap (by simp),btr (am _ _) b (by simp)⟩
theorem xp (v:Value) (c:List ci) (w:World) (p:az 0 w.heap.size w v c) (H:c.length<=1000000) (o:∀s∈c,s.text.length<=1000000000):
 Calls a0c 206 #[v, .func (.func 158) #[] #[]] w λe w'=>(∃k:Int,e= .returned (.int .i64 k)/\(0<=k↔c.all db=false))/\a0m w.heap.size w w':=by
 have u:=a0b p;have t:=a0b o;obtain ⟨a,z,rfl,_⟩:=p;clear o;go_enter Tryz.func206,Tryz.ntmps206;go_wp2_with fail
 go_loopw [8] (λi wr=>∃(k:Nat),k<=c.length/\i= .int .i64 k/\Hid ((c.take k).all db=true)/\a0m w.heap.size w wr) (λi _=>c.length - (intOf i).toNat)
 case atStart=>exact ⟨0,Nat.zero_le _,rfl,rfl,Below.refl _ _⟩
 case round=>
  obtain ⟨k,G,rfl,l,d⟩:=hrel;by_cases hlt:k<c.length
  · have r:az 0 w.heap.size wr (Value.slice a c.length z) c:=u.kept (bd d (a0g _));obtain ⟨b,K,E,B,F,_,I,J⟩:=r.sub k hlt;cases B;have j:=List.getElem_mem hlt;have n:=a0b (λW=>ui c[k].code c[k].text W (t _ j));have x:Hid ((c.take (k+1)).all db=(aP c[k].text&&eE c[k].code)):=by rw [List.take_succ_eq_append_getElem hlt,List.all_append,l.out];simp [db,Hid]
    have m:Hid ((aP c[k].text&&eE c[k].code)=false->c.all db=false):=λh=>by
     have:¬(c.all db=true):=λA=>by have:=List.all_eq_true.mp A _ j;unfold db at this;rw [h] at this;cases this
     simpa using this
    clear j r;generalize c[k].text=T at *;generalize c[k].code=C at *;generalize hq:(aP T&&eE C)=q at *;clear hq;cases q
    · obtain ⟨Z,f⟩:∃Z:Prop,Z=(c.all db=false):=⟨_,rfl⟩;have D:Z:=f ▸ m.out rfl;have y:Hid (Z->c.all db=false):=λh=>f ▸ h;clear m f;go_wp2_with (go_at_call 158;((with_reducible refine a0a (n.out _) ?_);rintro e w' ⟨rfl,g⟩))
      go_ret;exact ⟨⟨k,rfl,⟨λ_=>y D,λ_=>Int.natCast_nonneg _⟩⟩,btr d g d.size⟩
    · go_wp2_with (go_at_call 158;((with_reducible refine a0a (n.out _) ?_);rintro e w' ⟨rfl,g⟩))
      go_roundw
      case rel=>exact ⟨k+1,by omega,by go_num,x,btr d g d.size⟩
      case measure=>simp [intOf];omega
  · go_wp2_with fail
    go_ret;refine ⟨⟨-1,rfl,?_⟩,d⟩;have:=l.out;rw [List.take_of_length_le (by omega)] at this;rw [this];simp
theorem qV (v:Value) (b:List ci) (w:World) (f:az 0 w.heap.size w v b) (j:b.length<=1000000) (i:∀s∈b,s.text.length<=1000000000):
 Calls a0c 157 #[v, .func (.func 158) #[] #[]] w λe w'=>e= .returned (.bool (!b.all db))/\a0m w.heap.size w w':=by
 have H:=a0b (xp v b w f j i);obtain ⟨a,l,rfl,_⟩:=f;go_enter Tryz.func157,Tryz.ntmps157;cases hq:b.all db
 · go_wp2_with (go_at_call 206;((with_reducible refine a0a H.out ?_);rintro e w' ⟨⟨k,rfl,c⟩,d⟩;have g:0<=k:=c.mpr hq;clear c))
   go_ret;exact ⟨ap (by simp;try omega),d⟩
 · go_wp2_with (go_at_call 206;((with_reducible refine a0a H.out ?_);rintro e w' ⟨⟨k,rfl,c⟩,d⟩;have g:¬0<=k:=(λh=>by have:=c.mp h;rw [hq] at this;cases this);clear c))
   go_ret;exact ⟨ap (by simp;try omega),d⟩
open Go.RowKit
theorem ns (f:af) (d:Value) (w:World) (h:bp f.tag=false):
 Calls a0c 110 #[fieldV f d] w λe w'=>e= .returned (.int .i64 (wrongF f))/\a0m w.heap.size w w':=by
 have c:=a0b (wd f h);obtain ⟨g,l,i,m⟩:=f;simp only at h;have a:=a0b (λW=>rP g W);rw [h] at a;unfold fieldV;go_enter Tryz.func110,Tryz.ntmps110;go_wp2_with (go_at_call 153;((with_reducible refine a0a (a.out _) ?_);rintro e w1 ⟨rfl,b⟩;obtain ⟨j,k⟩:=aE b))
 go_ret;exact ⟨aG c.out.symm,btr (am _ _) b (by simp)⟩
theorem lS (f:af) (d:Value) (w:World) (A:∃a v,d= .slice a f.subs.length v) (B:(fieldBytes f).length<=1000000) (h:bp f.tag=true) (l:fa f.tag=true):
 Calls a0c 110 #[fieldV f d] w λe w'=>e= .returned (.int .i64 (wrongF f))/\a0m w.heap.size w w':=by
 have g:=a0b (tt f h l);obtain ⟨a,v,rfl⟩:=A;have r:=bI f 0;obtain ⟨z,s,m,t⟩:=f;simp only at h l r;have x:m.length<=1000000000:=by simp at r;omega
 have k:=a0b (λW=>rP z W);rw [h] at k;have j:=a0b (λW=>lr z W);rw [l] at j;have i:=a0b (λW=>mW m W x);clear r B x h l;unfold fieldV;cases ht:aP m
 · rw [ht] at i g;go_enter Tryz.func110,Tryz.ntmps110
   go_wp2_with first
    |(go_at_call 153;((with_reducible refine a0a (k.out _) ?_);rintro e w1 ⟨rfl,b⟩;obtain ⟨n,p⟩:=aE b))
    |(go_at_call 154;((with_reducible refine a0a (j.out _) ?_);rintro e w' ⟨rfl,rfl⟩))
    |(go_at_call 155;((with_reducible refine a0a (i.out _) ?_);rintro e u ⟨rfl,c⟩;obtain ⟨o,q⟩:=aE c))
   go_ret;exact ⟨aG (g.out.trans (by simp)).symm,btr (btr (am _ _) b (by simp)) c (a0h (by simp) b.size)⟩
 · rw [ht] at i g;by_cases hi:s=[]
   · subst hi;by_cases hs:t=[]
     · subst hs;go_enter Tryz.func110,Tryz.ntmps110
       go_wp2_with first
        |(go_at_call 153;((with_reducible refine a0a (k.out _) ?_);rintro e w1 ⟨rfl,b⟩;obtain ⟨n,p⟩:=aE b;have y:w.heap.size<w1.heap.size:=(by have:=b.size;simp at this;omega)))
        |(go_at_call 154;((with_reducible refine a0a (j.out _) ?_);rintro e w' ⟨rfl,rfl⟩))
        |(go_at_call 155;((with_reducible refine a0a (i.out _) ?_);rintro e u ⟨rfl,c⟩;obtain ⟨o,q⟩:=aE c))
       all_goals go_ret
       all_goals exact ⟨aG (g.out.trans (by simp)).symm,btr (btr (am _ _) b (by simp)) c (a0h (by simp) b.size)⟩
     · have E:0<t.length:=List.length_pos_iff.mpr hs;have F:((t.length:Int)==0)=false:=beq_eq_false_iff_ne.2 (by omega);go_enter Tryz.func110,Tryz.ntmps110
       go_wp2_with first
        |(go_at_call 153;((with_reducible refine a0a (k.out _) ?_);rintro e w1 ⟨rfl,b⟩;obtain ⟨n,p⟩:=aE b;have y:w.heap.size<w1.heap.size:=(by have:=b.size;simp at this;omega)))
        |(go_at_call 154;((with_reducible refine a0a (j.out _) ?_);rintro e w' ⟨rfl,rfl⟩))
        |(go_at_call 155;((with_reducible refine a0a (i.out _) ?_);rintro e u ⟨rfl,c⟩;obtain ⟨o,q⟩:=aE c))
       all_goals go_ret
       all_goals exact ⟨aG (g.out.trans (by simp [hs])).symm,btr (btr (am _ _) b (by simp)) c (a0h (by simp) b.size)⟩
   · have C:(s==[])=false:=by simpa using hi
     have D:s.isEmpty=false:=by simpa using hi
     go_enter Tryz.func110,Tryz.ntmps110
     go_wp2_with first
      |(go_at_call 153;((with_reducible refine a0a (k.out _) ?_);rintro e w1 ⟨rfl,b⟩;obtain ⟨n,p⟩:=aE b;have y:w.heap.size<w1.heap.size:=(by have:=b.size;simp at this;omega)))
      |(go_at_call 154;((with_reducible refine a0a (j.out _) ?_);rintro e w' ⟨rfl,rfl⟩))
      |(go_at_call 155;((with_reducible refine a0a (i.out _) ?_);rintro e u ⟨rfl,c⟩;obtain ⟨o,q⟩:=aE c))
     all_goals go_ret
     all_goals exact ⟨aG (g.out.trans (by simp [hi])).symm,btr (btr (am _ _) b (by simp)) c (a0h (by simp) b.size)⟩
theorem lR (f:af) (d:Value) (w:World) (B:az 0 w.heap.size w d f.subs) (F:(fieldBytes f).length<=1000000) (G:f.subs.length<=1000000) (h:bp f.tag=true) (A:fa f.tag=false):
 Calls a0c 110 #[fieldV f d] w λe w'=>e= .returned (.int .i64 (wrongF f))/\a0m w.heap.size w w':=by
 have o:=a0b (nv f h A);have D:=a0b (λi h=>a0h (tw f i h) F);obtain ⟨k,r,z,c⟩:=f;simp only at h A B G
 have C:Hid (∀W,a0m w.heap.size w W->Calls a0c 157 #[d, .func (.func 158) #[] #[]] W λe w'=>e= .returned (.bool (!c.all db))/\a0m W.heap.size W w'):=λW b=>
  qV d c W ((B.kept (bd b (a0g _))).mono (a0g _) b.size) G (λs I=>by
   obtain ⟨i,x,rfl⟩:=List.getElem_of_mem I
   have:=D i x
   simp only at this
   omega)
 have m:=a0b (λW=>rP k W);rw [h] at m;have l:=a0b (λW=>lr k W);rw [A] at l;obtain ⟨a,K,rfl,_⟩:=B;clear F h A D;unfold fieldV;by_cases hd0:z=[]
 · subst hd0;by_cases x:r.length=2
   · obtain ⟨p,q,rfl⟩:∃p q,r=[p,q]:=by
      match r,x with
      |[p,q],_=>exact ⟨p,q,rfl⟩
     clear x;have n:=a0b (λW=>qH p W);have t:=a0b (λW=>qH q W);have g:Hid (wrongF ⟨k,[p,q],[],c⟩=if fC p&&fC q&& !c.isEmpty&&c.all db then 0 else 14):=by rw [o.out];simp [gX,Hid]
     clear o;by_cases hse:c=[]
     · have j:Hid (wrongF ⟨k,[p,q],[],c⟩=14):=by rw [g.out,hse];simp [Hid]
       have R:((c.length:Int)==0)=true:=by simp [hse]
       have J:¬(0:Int)<c.length:=by simp [hse]
       clear g hse;go_enter Tryz.func110,Tryz.ntmps110
       go_wp2_with first
        |(go_at_call 153;((with_reducible refine a0a (m.out _) ?_);rintro e w1 ⟨rfl,b⟩;obtain ⟨u,v⟩:=aE b;have y:w.heap.size<w1.heap.size:=(by have:=b.size;simp at this;omega)))
        |(go_at_call 154;((with_reducible refine a0a (l.out _) ?_);rintro e w' ⟨rfl,rfl⟩))
       go_ret;exact ⟨aG j.out.symm,btr (am _ _) b (by simp)⟩
     · have Q:0<c.length:=List.length_pos_iff.mpr hse;have J:(0:Int)<c.length:=by omega
       have H:c.isEmpty=false:=by simpa using hse
       rw [H] at g;clear hse;cases hp:fC p
       · rw [hp] at n g;have j:Hid (wrongF ⟨k,[p,q],[],c⟩=14):=by rw [g.out];simp [Hid]
         clear g;go_enter Tryz.func110,Tryz.ntmps110
         go_wp2_with first
          |(go_at_call 153;((with_reducible refine a0a (m.out _) ?_);rintro e w1 ⟨rfl,b⟩;obtain ⟨u,v⟩:=aE b;have y:w.heap.size<w1.heap.size:=(by have:=b.size;simp at this;omega)))
          |(go_at_call 154;((with_reducible refine a0a (l.out _) ?_);rintro e w' ⟨rfl,rfl⟩))
          |(go_at_call_of 156 (a0l a0j p.toNat);((with_reducible refine a0a (n.out _) ?_);rintro e w' ⟨rfl,rfl⟩))
          |(go_at_call_of 156 (a0l a0j q.toNat);((with_reducible refine a0a (t.out _) ?_);rintro e w' ⟨rfl,rfl⟩))
         go_ret;exact ⟨aG j.out.symm,btr (am _ _) b (by simp)⟩
       · cases hq:fC q
         · rw [hp] at n g;rw [hq] at t g;have j:Hid (wrongF ⟨k,[p,q],[],c⟩=14):=by rw [g.out];simp [Hid]
           clear g;go_enter Tryz.func110,Tryz.ntmps110
           go_wp2_with first
            |(go_at_call 153;((with_reducible refine a0a (m.out _) ?_);rintro e w1 ⟨rfl,b⟩;obtain ⟨u,v⟩:=aE b;have y:w.heap.size<w1.heap.size:=(by have:=b.size;simp at this;omega)))
            |(go_at_call 154;((with_reducible refine a0a (l.out _) ?_);rintro e w' ⟨rfl,rfl⟩))
            |(go_at_call_of 156 (a0l a0j p.toNat);((with_reducible refine a0a (n.out _) ?_);rintro e w' ⟨rfl,rfl⟩))
            |(go_at_call_of 156 (a0l a0j q.toNat);((with_reducible refine a0a (t.out _) ?_);rintro e w' ⟨rfl,rfl⟩))
           go_ret;exact ⟨aG j.out.symm,btr (am _ _) b (by simp)⟩
         · rw [hp] at n g;rw [hq] at t g;cases ha:c.all db
           all_goals
            rw [ha] at C g
            go_enter Tryz.func110,Tryz.ntmps110
            go_wp2_with first
             |(go_at_call 153;((with_reducible refine a0a (m.out _) ?_);rintro e w1 ⟨rfl,b⟩;obtain ⟨u,v⟩:=aE b;have y:w.heap.size<w1.heap.size:=(by have:=b.size;simp at this;omega)))
             |(go_at_call 154;((with_reducible refine a0a (l.out _) ?_);rintro e w' ⟨rfl,rfl⟩))
             |(go_at_call_of 156 (a0l a0j p.toNat);((with_reducible refine a0a (n.out _) ?_);rintro e w' ⟨rfl,rfl⟩))
             |(go_at_call_of 156 (a0l a0j q.toNat);((with_reducible refine a0a (t.out _) ?_);rintro e w' ⟨rfl,rfl⟩))
             |(go_at_call 157;((with_reducible refine a0a (C.out _ (btr (am _ _) b (by simp))) ?_);rintro e T ⟨rfl,E⟩;obtain ⟨L,O⟩:=aE E))
            go_ret
            exact ⟨aG (g.out.trans (by simp)).symm,btr (btr (am _ _) b (by simp)) E (a0h (by simp) b.size)⟩
   · have P:((r.length:Int)==2)=false:=by simp;omega
     have j:Hid (wrongF ⟨k,r,[],c⟩=14):=by rw [o.out];simp [gX,x,Hid]
     clear o;go_enter Tryz.func110,Tryz.ntmps110
     go_wp2_with first
      |(go_at_call 153;((with_reducible refine a0a (m.out _) ?_);rintro e w1 ⟨rfl,b⟩;obtain ⟨u,v⟩:=aE b;have y:w.heap.size<w1.heap.size:=(by have:=b.size;simp at this;omega)))
      |(go_at_call 154;((with_reducible refine a0a (l.out _) ?_);rintro e w' ⟨rfl,rfl⟩))
     go_ret;exact ⟨aG j.out.symm,btr (am _ _) b (by simp)⟩
 · have M:(z==[])=false:=by simpa using hd0
   have N:z.isEmpty=false:=by simpa using hd0
   have j:Hid (wrongF ⟨k,r,z,c⟩=14):=by rw [o.out];simp [hd0,Hid]
   clear o;go_enter Tryz.func110,Tryz.ntmps110
   go_wp2_with first
    |(go_at_call 153;((with_reducible refine a0a (m.out _) ?_);rintro e w1 ⟨rfl,b⟩;obtain ⟨u,v⟩:=aE b;have y:w.heap.size<w1.heap.size:=(by have:=b.size;simp at this;omega)))
    |(go_at_call 154;((with_reducible refine a0a (l.out _) ?_);rintro e w' ⟨rfl,rfl⟩))
   go_ret;exact ⟨aG j.out.symm,btr (am _ _) b (by simp)⟩
theorem vX (f:af) (d:Value) (w:World) (g:az 0 w.heap.size w d f.subs) (c:(fieldBytes f).length<=1000000) (j:f.subs.length<=1000000):
 Calls a0c 110 #[fieldV f d] w λe w'=>e= .returned (.int .i64 (wrongF f))/\a0m w.heap.size w w':=by
 have i:∃a b,d= .slice a f.subs.length b:=by obtain ⟨a,b,h,_⟩:=g;exact ⟨a,b,h⟩
 cases h:bp f.tag
 · exact ns f d w h
 · cases hc:fa f.tag
   · exact lR f d w g c j h hc
   · exact lS f d w i c h hc
end
section
open Go.RowKit
open Go.RowKit
open Go.RowKit
def after (M:Bs) (i:Nat) (r:Except Nat Nat) (g:Bs->af) (a:Bs->Nat->Bs->Except Int af):Except Int af:=match r with
 | .error j=> .error (if j<i+M.length then (j:Int) else (j:Int) - 1)
 | .ok j=>match M.drop (j - i) with
   |[]=> .error ((j:Int) - 1)
   |c::r=>if c.toNat=30 then (if r=[] then .ok (g (M.take (j - i))) else .error ((j:Int)+1)) else if c.toNat=31 then a (M.take (j - i)) (j+1) r else .error j
end
end Go.Proofs.YtjcimanddakkaaaGreatDoor
