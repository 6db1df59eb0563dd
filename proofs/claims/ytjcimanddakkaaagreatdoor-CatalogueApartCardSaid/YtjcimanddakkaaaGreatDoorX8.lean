/- Lemmas. -/
import Derived.Test.YtjcimanddakkaaaGreatDoorX0
import Derived.Test.YtjcimanddakkaaaGreatDoorX1
import Derived.Test.YtjcimanddakkaaaGreatDoorX6
import Derived.Test.YtjcimanddakkaaaGreatDoorX7
import Derived.KernelRfl
set_option maxRecDepth 100000
set_option maxHeartbeats 8000000
namespace Go.Proofs.YtjcimanddakkaaaGreatDoor
open Go.Calls renaming mono→a0a
open Go.Lib renaming hid→a0b
open Go.Proofs.Tryz renaming prog→a0c
open _root_.Nat renaming le_refl→a0d
open _root_.List renaming take_succ_eq_append_getElem→a0e,length→a0j,take_length→a0k,getElem_mem→a0l
open Go.RowKit.Below renaming refl→a0f
open Go.RowKit renaming Below→a0g
open Go renaming World→a0h,Calls→a0m
open Go.Value renaming slice→a0i
section
open Go.RowKit
theorem AX {r:aB} (h:letterB r.kind=true) (c:letterB r.level=true) (d:aI r.fields=0) (a:bJ r.fields=true∨999<r.fields.length∨99999<26+12 * r.fields.length+(cL r.fields).length):co r=([],2):=by
 have b:wrongR r=2:=by
  rw [nt r h c d,if_pos];rw [jg];simp only [Bool.or_eq_true,decide_eq_true_eq];rcases a with a|a|a
  · exact .inl (.inl a)
  · exact .inl (.inr a)
  · exact .inr a
 unfold co;rw [if_neg (by rw [b];decide),b]
theorem AY {r:aB} (h:letterB r.kind=true) (a:letterB r.level=true) (b:aI r.fields=0) (d:bJ r.fields=false) (e:r.fields.length<=999) (f:26+12 * r.fields.length+(cL r.fields).length<=99999):co r=(v8 r,0):=by
 have c:wrongR r=0:=by rw [nt r h a b,if_neg];rw [jg,d];simp only [Bool.false_or,Bool.or_eq_true,decide_eq_true_eq];omega
 unfold co;rw [if_pos c]
theorem z7 {a:List af} {k:Nat} (b:k<a.length) (h:9999<(fieldBytes a[k]).length):bJ a=true:=by
 unfold bJ;rw [List.any_eq_true];exact ⟨a[k],a0l b,by simpa using h⟩
theorem wk {a:List af} {k:Nat} (b:k<a.length) (h:bJ (a.take k)=false) (c:(fieldBytes a[k]).length<=9999):bJ (a.take (k+1))=false:=by
 unfold bJ at *;rw [a0e b,List.any_append,h];simp;omega
structure Two (x:Nat) (g1 g2:Option Nat) (D A:Bs) (w:a0h):Prop where
 one:Bld (x+2) x g1 D w
 two:Bld (x+2) (x+1) g2 A w
 ne:∀j,g1=some j->g2=some j->False
theorem Two.below {x:Nat} {a c:Option Nat} {D A:Bs} {w w':a0h} (h:Two x a c D A w) (b:a0g w.heap.size w w'):Two x a c D A w':=⟨h.one.below b,h.two.below b,h.ne⟩
theorem Two.fst {x:Nat} {c f a:Option Nat} {D A d:Bs} {w w':a0h} (h:Two x c f D A w) (m:Bld (x+2) x a d w') (n:a=c∨∃k,a=some k/\w.heap.size<=k) (l:Fr x c w w'):Two x a f d A w':=
 ⟨m,h.two.keep (l.block _ h.two.old (by omega) (λe=>by have:=(h.one.row _ e.symm).1;omega)) (λk b=>l.block k (h.two.row k b).2 (by have:=(h.two.row k b).1;omega) (λe=>h.ne k e.symm b)),
  λj g i=>by
   rcases n with rfl|⟨k,rfl,b⟩
   · exact h.ne j g i
   · have:=(h.two.row j i).2;injection g;omega⟩
theorem Two.snd {x:Nat} {f c a:Option Nat} {D A d:Bs} {w w':a0h} (h:Two x f c D A w) (m:Bld (x+2) (x+1) a d w') (n:a=c∨∃k,a=some k/\w.heap.size<=k) (l:Fr (x+1) c w w'):Two x f a D d w':=
 ⟨h.one.keep (l.block _ h.one.old (by omega) (λe=>by have:=(h.two.row _ e.symm).1;omega)) (λk b=>l.block k (h.one.row k b).2 (by have:=(h.one.row k b).1;omega) (λe=>h.ne k b e.symm)),m,
  λj g i=>by
   rcases n with rfl|⟨k,rfl,b⟩
   · exact h.ne j g i
   · have:=(h.one.row j g).2;injection i;omega⟩
theorem Two.size {x:Nat} {a b:Option Nat} {D A:Bs} {w:a0h} (h:Two x a b D A w):x+2<=w.heap.size:=h.two.old
theorem yj (w:a0h):Two w.heap.size none none [] [] ((w.alloc (Obj.cells #[.pointer none, .slice none 0 0] 187)).alloc (Obj.cells #[.pointer none, .slice none 0 0] 187)):=by
 have a:=kg w w.heap.size (w.heap.size+2) rfl (by omega);exact ⟨a.alloc _,kg _ (w.heap.size+1) (w.heap.size+2) (by simp) (by omega),λ_ h=>by cases h⟩
theorem Bld.slot {B b:Nat} {g:Option Nat} {l:Bs} {w:a0h} (h:Bld B b g l w):∃a c,w.cell? ⟨b,1,none⟩=some (.slice a l.length c):=by
 obtain ⟨i,p,v,d,k,e,f,j⟩:=h;obtain ⟨a,c,rfl⟩:=bH e;exact ⟨a,c,by rw [Lib.cell_of_heap d];rfl⟩
theorem xj (b:Nat) (a:Option Addr) (n c:Nat) (w:a0h) (c1:w.cell? ⟨b,1,none⟩=some (.slice a n c)):a0m a0c 114 #[.pointer (some ⟨b,0,none⟩)] w λe w'=>e= .returned (.int .i64 n)/\w'=w:=by
 go_enter Tryz.func114,Tryz.ntmps114;go_wp2_with fail
 go_ret;exact ⟨rfl,rfl⟩
end
section
open Go.RowKit
attribute [local go_sem ↓] Go.wp_at_zero Go.wp_at_succ
theorem AG {r:aB} (h:(letterB r.kind&&letterB r.level)=false):co r=([],12):=by
 have a:=mx r h;unfold co;rw [if_neg (by rw [a];decide),a]
theorem jS (r:aB) (x:Value) (w:a0h) (h:(letterB r.kind&&letterB r.level)=false):
 a0m a0c 62 #[fq r x] w λe w'=>e= .returned (.tuple #[S (co r).1, .int .i64 (co r).2])/\a0g w.heap.size w w':=by
 have a:=a0b (AG h);rw [a.out];obtain ⟨b,c,d⟩:=r;simp only at h;unfold fq;cases hk:letterB b
 · go_enter Tryz.func62,Tryz.ntmps62;go_wp2_with (go_at_call 109;refine (jl _ _).mono ?_;rintro e w' ⟨rfl,rfl⟩)
   go_ret2;exact ⟨rfl,am _ _⟩
 · have f:letterB c=false:=by simpa [hk] using h
   clear h;go_enter Tryz.func62,Tryz.ntmps62;go_wp2_with (go_at_call 109;refine (jl _ _).mono ?_;rintro e w' ⟨rfl,rfl⟩)
   go_ret2;exact ⟨rfl,am _ _⟩
theorem qL (n:Nat) (w:a0h) (a:n<100000000000):
 a0m a0c 113 #[.int .i64 n, .int .i64 4] w λe w'=>e= .returned (S (fixedN 4 n))/\a0g w.heap.size w w':=sN n w (by omega) (by omega)
theorem jL (n:Nat) (w:a0h) (a:n<100000000000):
 a0m a0c 113 #[.int .i64 n, .int .i64 5] w λe w'=>e= .returned (S (fixedN 5 n))/\a0g w.heap.size w w':=sL n w (by omega) (by omega)
theorem jK (n:Nat) (v:Int) (b:v=n) (w:a0h) (a:n<100000000000):
 a0m a0c 113 #[.int .i64 v, .int .i64 5] w λe w'=>e= .returned (S (fixedN 5 n))/\a0g w.heap.size w w':=by subst b;exact jL n w a
theorem ii (b:Nat) (a:Option Addr) (n c:Nat) (w:a0h) (c1:w.cell? ⟨b,1,none⟩=some (.slice a n c)):a0m a0c 114 #[.pointer (some ⟨b,0,none⟩)] w λe w'=>e= .returned (.int .i64 n)/\w=w':=
 (xj b a n c w c1).mono λ_ _ ⟨h,e⟩=>⟨h,e.symm⟩
theorem Two.other {x:Nat} {b c:Option Nat} {D A:Bs} {w w':a0h} (h:Two x b c D A w) (d:Fr x b w w'):Bld (x+2) (x+1) c A w':=
 h.two.keep (d.block _ h.two.old (by omega) (λe=>by have:=(h.one.row _ e.symm).1;omega)) (λk a=>d.block k (h.two.row k a).2 (by have:=(h.two.row k a).1;omega) (λe=>h.ne k e.symm a))
def zW (r:aB) (w:a0h) (e:Ending) (w':a0h):Prop:=e= .returned (.tuple #[S (co r).1, .int .i64 (co r).2])/\a0g w.heap.size w w'
theorem uj {r:aB} (h:letterB r.kind=true) (c:letterB r.level=true) (a:aI r.fields≠0):co r=([],aI r.fields):=by
 have b:=pg r h c a;unfold co;rw [if_neg (by rw [b];exact a),b]
theorem lV (r:aB) (x:Value) (w:a0h) (hs:ai 0 w.heap.size w x r.fields) (bb:bL r.fields) (h:letterB r.kind=true) (h2:letterB r.level=true):
 a0m a0c 62 #[fq r x] w (zW r w):=by
 have HF:=a0b (uj h h2);have H2:=a0b (AX h h2);have H0:=a0b (AY h h2);obtain ⟨B,C,c⟩:=r;simp only at h h2 hs bb HF H2 H0;have HS:=a0b hs;obtain ⟨a,P,rfl⟩:=hs.shape;obtain ⟨hn,bc⟩:=bb;have b2:=a0b bc;clear hs bc;unfold fq;go_enter Tryz.func62,Tryz.ntmps62;go_wp2_with (go_at_call 109;refine (jl _ _).mono ?_;rintro e w' ⟨rfl,rfl⟩)
 go_loopw [28] (λi wr=>∃(k:Nat),k<=c.length/\i= .int .i64 k/\Hid (aI (c.take k)=0)/\
  a0g (w.heap.size+1) (w.alloc (Obj.cells #[.int .u8 B.toNat, .int .u8 C.toNat,a0i a c.length P] 62)) wr) (λi _=>c.length - (intOf i).toNat)
 case atStart=>exact ⟨0,Nat.zero_le _,rfl,rfl,a0f _ _⟩
 case round=>
  obtain ⟨k,hk,rfl,q,z⟩:=hrel;have b5:wr.cell? ⟨w.heap.size,2,none⟩=some (a0i a c.length P):=by rw [z.cell (p:=⟨w.heap.size,2,none⟩) (by simp)];go_simp
  have aC:w.heap.size<wr.heap.size:=bq b5;by_cases hlt:k<c.length
  · have Y:ai 0 w.heap.size wr (a0i a c.length P) c:=(HS.out.kept (bd (am w _) (a0d _))).kept (bd z (by omega));obtain ⟨b,cx,c3,d,hv,_,_,cm,cp,cq,cs,J⟩:=Y.field k hlt;cases hv;obtain ⟨u,v,rfl⟩:∃u v,d= .slice u c[k].subs.length v:=by obtain ⟨x1,x2,x3,_⟩:=J;exact ⟨x1,x2,x3⟩
    have N:=a0l hlt;have X:(fieldBytes c[k]).length<=1000000:=b2 _ N;have ax:=Nat.le_trans (cF c[k]) X;have a3:Hid (∀W,a0g wr.heap.size wr W->az 0 W.heap.size W (.slice u c[k].subs.length v) c[k].subs):=λW y=>(J.kept (bd y (by omega))).mono (a0d _) (by have:=y.size;omega);have a6:Hid (∀W,a0g wr.heap.size wr W->a0m a0c 110 #[fieldV c[k] (.slice u c[k].subs.length v)] W λe w'=>e= .returned (.int .i64 (wrongF c[k]))/\a0g W.heap.size W w'):=λW y=>vX _ _ W (a3 W y) X ax;have a8:=a0b (eL c k hlt q.out);have ac:=a0b (fP c k hlt q.out);clear Y N J;unfold fieldV at a6;generalize c[k]=f at *;by_cases hw:wrongF f=0
    · rw [hw] at a6;have HN:=a0b (ac hw);clear ac a8;go_wp2_with (go_at_call 110;((with_reducible refine a0a (a6.out _ (am _ _)) ?_);rintro e w1 ⟨rfl,T⟩))
      go_roundw
      case rel=>exact ⟨k+1,by omega,by go_num,HN,(z.alloc (by omega) _).trans (T.mono (by simp;omega))⟩
      case measure=>simp [intOf];omega
    · have H:Hid (co ⟨B,C,c⟩=([],wrongF f)):=by have hx:=a8.out;rw [if_neg hw] at hx;have:=HF.out (by rw [hx];exact hw);rw [hx] at this;exact this
      clear ac a8;generalize wrongF f=er at *;go_wp2_with (go_at_call 110;((with_reducible refine a0a (a6.out _ (am _ _)) ?_);rintro e w1 ⟨rfl,T⟩))
      go_ret2;refine ⟨by rw [H.out];rfl,btr (am w _) ((z.alloc (by omega) _).trans (T.mono (by simp;omega))) (by omega)⟩
  · have a7:Hid (aI c=0):=by have:=q.out;rw [List.take_of_length_le (by omega)] at this;exact this
    generalize wr=g at *;have HT:=a0b (yj g);clear q HF;go_wp2_with fail
    go_loopw [41] (λi wq=>∃(k:Nat) (D A:Bs) (Q R:Option Nat),k<=c.length/\i= .int .i64 k/\Hid (D=dE 0 (c.take k))/\Hid (A=cL (c.take k))/\D.length=12 * k/\A.length<=9999 * k/\Hid (bJ (c.take k)=false)/\
     Hid (Two g.heap.size Q R D A wq)/\a0g g.heap.size g wq) (λi _=>c.length - (intOf i).toNat)
    case atStart=>exact ⟨0,[],[],none,none,Nat.zero_le _,rfl,rfl,rfl,rfl,by simp,rfl,HT,((a0f _ g).alloc (a0d _) _).alloc (by simp) _⟩
    case round=>
     obtain ⟨j,D,A,Q,R,hj,rfl,HD,q,cd,cz,ad,s,I⟩:=hrel;have d3:=s.size;by_cases hlj:j<c.length
     · have Y:ai 0 w.heap.size wr (a0i a c.length P) c:=((HS.out.kept (bd (am w _) (a0d _))).kept (bd z (by omega))).kept (bd I (by omega));obtain ⟨b,cx,c3,d,hv,_,_,cm,cp,cq,cs,J⟩:=Y.field j hlj;cases hv;obtain ⟨u,v,rfl⟩:∃u v,d= .slice u c[j].subs.length v:=by obtain ⟨x1,x2,x3,_⟩:=J;exact ⟨x1,x2,x3⟩
       have N:=a0l hlj;have X:(fieldBytes c[j]).length<=1000000:=b2 _ N;have ax:=Nat.le_trans (cF c[j]) X;have a3:Hid (∀W,a0g wr.heap.size wr W->az 0 W.heap.size W (.slice u c[j].subs.length v) c[j].subs):=λW y=>(J.kept (bd y (by omega))).mono (a0d _) (by have:=y.size;omega);have au:Hid (∀W,a0g wr.heap.size wr W->a0m a0c 111 #[fieldV c[j] (.slice u c[j].subs.length v)] W λe w'=>e= .returned (S (fieldBytes c[j]))/\a0g W.heap.size W w'):=λW y=>xY _ _ W (a3 W y) X ax;have HG:Hid (c[j].tag.length=3):=gK (rE (fO a7.out _ N));have d1:c[j].tag.length<=3:=by rw [HG.out];exact a0d 3
       have al:=a0b (λh=>H2 a7.out (.inl (z7 hlj h)));have ao:=a0b (wk hlj ad.out);have HT:Hid (D++(c[j].tag++fixedN 4 (fieldBytes c[j]).length++fixedN 5 A.length)=dE 0 (c.take (j+1))):=by rw [a0e hlj,oO,HD.out,q.out];simp [Hid]
       have L:Hid (A++fieldBytes c[j]=cL (c.take (j+1))):=by rw [a0e hlj,qT,q.out];rfl
       clear Y N J;unfold fieldV at au;generalize c[j]=f at *;by_cases hF:(fieldBytes f).length<=9999
       · have c0:=a0b (ao hF);clear ao al;generalize fieldBytes f=F at *;generalize f.tag=G at *;generalize f.ind=Gi at *;generalize f.data=Gd at *;generalize f.subs.length=gn at *;clear a3;go_wp2_with (go_at_call 111;((with_reducible refine a0a (au.out _ (am _ _)) ?_);rintro e K ⟨rfl,U⟩;have bs:K.cell? ⟨wr.heap.size,0,none⟩=some (S G):=(by rw [U.cell (p:=⟨wr.heap.size,0,none⟩) (by simp)];go_simp)))
         obtain ⟨a2,n2,E⟩:=(s.out.below ((aN wr _).trans (U.mono (by simp)))).two.slot;have bY:Hid (Two g.heap.size Q R D A K):=s.out.below (btr (aN wr _) U (by simp));have d0:D.length<=12000000:=by omega
         have cy:A.length<=9999000000:=by omega
         have q1:¬9223372036854775807<a0j G+4:=by omega
         have q2:¬9223372036854775807<a0j G+4+5:=by omega
         have q3:¬9223372036854775807<a0j G+(4+5):=by omega
         have d4:wr.heap.size<K.heap.size:=by have:=U.size;simp at this;exact this
         go_region_held3 (λw'=>w'.cell? ⟨wr.heap.size,0,none⟩=some (S G)/\w'.cell? ⟨g.heap.size+1,1,none⟩=some (.slice a2 A.length n2)) (go_keep)
          (first
           |(go_at_call_of 113 (Value.int IntKind.i64 ↑(a0j F));((with_reducible refine a0a (qL F.length _ (by omega)) ?_);rintro e w3 ⟨rfl,m⟩;have Z:=fd m))
           |(go_at_call 114;have s3:w3.cell? ⟨g.heap.size+1,1,none⟩=some (.slice a2 A.length n2):=Z _ _ E;((with_reducible refine a0a (ii _ _ _ _ _ s3) ?_);rintro e d5 ⟨rfl,rfl⟩))
           |(go_at_call_of 113 (Value.int IntKind.i64 ↑(a0j A));((with_reducible refine a0a (jL A.length _ (by omega)) ?_);rintro e w4 ⟨rfl,n⟩;have a0:=fd n))
           |(go_at_call 112;have M:=((bY.out.below (a0f _ K).drew).below m).below n;((with_reducible refine a0a (fV (g.heap.size+2) g.heap.size Q D (G++(fixedN 4 F.length++fixedN 5 A.length)) _ M.one M.size (by simp [dQ];omega)) ?_);rintro e w5 ⟨rfl,c4,b3,b8,V⟩;have k5:w5.cell? ⟨wr.heap.size,0,none⟩=some (S G):=(by rw [V.cell (by have:=n.size;have:=m.size;simp at *;omega) (by omega) (λe=>by have:=(s.out.one.row _ e.symm).2;omega)];exact a0 _ _ (Z _ _ bs));have k6:w5.cell? ⟨g.heap.size+1,1,none⟩=some (.slice a2 A.length n2):=(by rw [V.cell (by have:=M.size;omega) (by omega) (λe=>by have:=(s.out.one.row _ e.symm).1;omega)];exact a0 _ _ s3);have a4:=a0b (M.fst b3 b8 V);have bw:=a0b (M.one.fr V (lo:=g.heap.size) (a0d _));clear M b3 b8 V)))
         have bv:Hid (a0g g.heap.size g w5):=by have z4:=n.size;have z3:K.heap.size<=w3.heap.size:=m.size;exact (((I.trans ((aN wr _).mono (by omega))).trans (U.mono (by simp;omega))).trans ((a0f g.heap.size K).drew.trans ((m.mono (by simp;omega)).trans (n.mono (by omega))))).trans bw.out
         clear Z a0 E s3 m n bs k5 k6;go_wp2_with (go_at_call 112;((with_reducible refine a0a (fV (g.heap.size+2) (g.heap.size+1) R A F _ a4.out.two a4.out.size (by omega)) ?_);rintro e w6 ⟨rfl,c5,c6,cl,b7⟩))
         go_roundw
         case rel=>
          refine ⟨j+1,D++(G++fixedN 4 F.length++fixedN 5 A.length),A++F,c4,c5,by omega,by go_num,HT,L,?_,by simp;omega,c0,?_,bv.out.trans (a4.out.two.fr b7 (by omega))⟩
          · have:=HG.out;simp [dQ];omega
          · have:=a4.snd c6 cl b7;simpa [Hid] using this
         case measure=>simp [intOf];omega
       · have H:=a0b (al.out (by omega));clear ao al;generalize fieldBytes f=F at *;go_wp2_with (go_at_call 111;((with_reducible refine a0a (au.out _ (am _ _)) ?_);rintro e w1 ⟨rfl,T⟩))
         go_ret2;refine ⟨by rw [H.out];rfl,btr (am w _) (z.trans (((I.mono (by omega)).alloc (by omega) _).trans (T.mono (by simp;omega)))) (by omega)⟩
     · obtain rfl:j=c.length:=by omega
       have aT:Hid (D=dE 0 c):=by have:=HD.out;rwa [a0k] at this
       have L:Hid (A=cL c):=by have:=q.out;rwa [a0k] at this
       have b1:Hid (bJ c=false):=by have:=ad.out;rwa [a0k] at this
       clear HD q ad hlj hj;have cP:D.length<=12 * c.length:=by omega
       have cQ:12 * c.length<=D.length:=by omega
       have O:Hid (999<c.length∨99999<26+12 * c.length+A.length->co ⟨B,C,c⟩=([],2)):=λh=>H2.out a7.out (.inr (by rw [<- L.out];exact h));have a5:Hid (c.length<=999->26+12 * c.length+A.length<=99999->∀l:Bs,l=iL ⟨B,C,c⟩ (25+D.length+A.length+1) (25+D.length)++D++[30]++A++[29]->Ending.returned (.tuple #[S l, .int .i64 0])= .returned (.tuple #[S (co ⟨B,C,c⟩).1, .int .i64 (co ⟨B,C,c⟩).2])):=by intro h9 h5 l hl;have:=H0.out a7.out b1.out h9 (by rw [<- L.out];exact h5);rw [this,hl,aT.out,L.out];rfl
       clear aT L b1 H2 H0 cd;obtain ⟨a1,n1,s1⟩:=s.one.slot;obtain ⟨a2,n2,E⟩:=s.two.slot;have b6:wr.cell? ⟨w.heap.size,2,none⟩=some (a0i a c.length P):=by rw [I.cell (p:=⟨w.heap.size,2,none⟩) aC];exact b5
       have av:a0g w.heap.size w wr:=btr (am w _) (z.trans (I.mono (by omega))) (by omega);by_cases h9:c.length<=999
       · by_cases h5:26+12 * c.length+A.length<=99999
         · have c7:wr.cell? ⟨w.heap.size,0,none⟩=some (.int .u8 B.toNat):=by rw [I.cell (p:=⟨w.heap.size,0,none⟩) aC,z.cell (p:=⟨w.heap.size,0,none⟩) (by simp)];go_simp
           have c9:wr.cell? ⟨w.heap.size,1,none⟩=some (.int .u8 C.toNat):=by rw [I.cell (p:=⟨w.heap.size,1,none⟩) aC,z.cell (p:=⟨w.heap.size,1,none⟩) (by simp)];go_simp
           have b0:=a0b (a5 h9 h5);clear a5 O;go_wp2_with (go_at_call 114;((first |(with_reducible refine a0a (ii _ _ _ _ _ s1) ?_)|(with_reducible refine a0a (ii _ _ _ _ _ E) ?_));rintro e w' ⟨rfl,rfl⟩))
           go_cut [14] (λt g=>∃l:Bs,t=S l/\Hid (l=iL ⟨B,C,c⟩ (25+D.length+A.length+1) (25+D.length))/\l.length<=24/\a0g wr.heap.size wr g)
           case first=>
            have bk:w.heap.size<wr.heap.size:=by omega
            have c1:∀o,(wr.alloc o).cell? ⟨w.heap.size,0,none⟩=some (.int .u8 B.toNat):=λo=>by rw [aR _ _ _ _ bk];exact c7
            have c2:∀o,(wr.alloc o).cell? ⟨w.heap.size,1,none⟩=some (.int .u8 C.toNat):=λo=>by rw [aR _ _ _ _ bk];exact c9
            have bt:True:=trivial;clear s b6 s1 E b0
            go_region_with
             (first
              |(go_at_call 113;have _t:=bt;go_must (refine (jK (25+D.length+A.length+1) _ (by omega) _ (by omega)).mono ?_);clear _t bt;rintro e w3 ⟨rfl,m⟩;have Z:=fd m;obtain ⟨cb,cg⟩:=aE m)
              |(go_at_call 113;go_must (refine (jK (25+D.length) _ (by omega) _ (by omega)).mono ?_);rintro e w4 ⟨rfl,n⟩;have a0:=fd n;obtain ⟨cc,ch⟩:=aE n))
            all_goals
             clear Z a0 cb cg cc ch c1 c2
             go_wp2_with fail
             go_meet
             have cu:=m.size
             have cv:=n.size
             simp only [World.size_drew,World.size_alloc] at cu cv
             refine ⟨_,rfl,by simp [iL,Hid],by simp [dQ],?_⟩
             first
              |exact ((aN wr _).drew.trans (m.mono (by first |omega|(simp;omega)|simp))).trans (n.mono (by first |omega|(simp;omega)|simp))
              |exact (((a0f _ wr).drew.trans (m.mono (by first |omega|(simp;omega)|simp))).alloc (by first |omega|(simp;omega)|simp) _).trans (n.mono (by first |omega|(simp;omega)|simp))
              |exact (((a0f _ wr).drew.trans (m.mono (by first |omega|(simp;omega)|simp))).trans (n.mono (by first |omega|(simp;omega)|simp))).alloc (by first |omega|(simp;omega)|simp) _
           case rest=>
            obtain ⟨ld,rfl,bO,d2,b4⟩:=hcut;have a9:=s.below b4;clear s1 E b6
            go_wp2_with (first
             |(go_at_call_of 115 (Value.pointer (some ⟨g.heap.size,0,none⟩));((with_reducible refine a0a (eO (g.heap.size+2) g.heap.size Q D _ a9.one (by omega)) ?_);rintro e K ⟨rfl,ay⟩;have aS:=a0b (a9.other (ay.fr g.heap.size));have bA:=a0b (a9.one.fr (ay.fr g.heap.size) (lo:=g.heap.size) (a0d _));clear ay)))
            ((with_reducible refine a0a (eO (g.heap.size+2) (g.heap.size+1) R A _ aS.out (by omega)) ?_);rintro e w3 ⟨rfl,b9⟩;have bB:=a0b (aS.out.fr (b9.fr (g.heap.size+1)) (lo:=g.heap.size) (by omega));clear b9)
            go_wp2_with fail
            go_ret2;refine ⟨b0.out _ (by rw [bO.out];simp),av.trans ((b4.mono (by omega)).trans ((bA.out.mono (by omega)).trans (bB.out.mono (by omega))))⟩
         · have H:=a0b (O.out (.inr (by omega)));clear a5 O;go_wp2_with (go_at_call 114;((first |(with_reducible refine a0a (ii _ _ _ _ _ s1) ?_)|(with_reducible refine a0a (ii _ _ _ _ _ E) ?_));rintro e w' ⟨rfl,rfl⟩))
           go_ret2;exact ⟨by rw [H.out];rfl,av⟩
       · have H:=a0b (O.out (.inl (by omega)));clear a5 O;go_wp2_with (go_at_call 114;((first |(with_reducible refine a0a (ii _ _ _ _ _ s1) ?_)|(with_reducible refine a0a (ii _ _ _ _ _ E) ?_));rintro e w' ⟨rfl,rfl⟩))
         go_ret2;exact ⟨by rw [H.out];rfl,av⟩
end
section
open Go.RowKit
attribute [local go_sem ↓] Go.wp_at_zero Go.wp_at_succ
theorem vZ (r:aB) (v:Value) (w:a0h) (b:d7 0 w.heap.size w v r) (c:bL r.fields):a0m a0c 62 #[v] w (zW r w):=by
 obtain ⟨x,rfl,a⟩:=b;cases h:(letterB r.kind&&letterB r.level)
 · exact jS r x w h
 · simp only [Bool.and_eq_true] at h;exact lV r x w a c h.1 h.2
theorem v6 (r:aB):(co r).2=wrongR r:=by
 unfold co;split
 · rename_i h;rw [h]
 · rfl
theorem wK (r:aB) (v:Value) (w:a0h) (c:d7 0 w.heap.size w v r) (g:bL r.fields):
 a0m a0c 58 #[v] w λe w'=>e= .returned (.bool (decide (wrongR r=0)))/\a0g w.heap.size w w':=by
 have f:Hid (∀W,a0g w.heap.size w W->a0m a0c 62 #[v] W λe w'=>e= .returned (.tuple #[S (co r).1, .int .i64 (wrongR r)])/\a0g W.heap.size W w'):=λW b=>by have:=vZ r v W ((c.kept (bd b (a0d _))).mono (a0d _) b.size) g;rw [<- v6];exact this
 obtain ⟨x,rfl,d⟩:=c;obtain ⟨a,h,rfl⟩:=d.shape;clear d;unfold fq at *;generalize wrongR r=e at *;generalize (co r).1=s at *;go_enter Tryz.func58,Tryz.ntmps58;go_wp2_with (go_at_call 62;((with_reducible refine a0a (f.out _ (am _ _)) ?_);rintro e w1 ⟨rfl,b⟩))
 go_ret;exact ⟨ap (by rw [Bool.eq_iff_iff];simp),btr (am w _) b (by simp)⟩
theorem yq (c f d g:UInt8) (a b:List af) (x y:Value) (w:a0h) (i:ai 0 w.heap.size w x a) (j:ai 0 w.heap.size w y b) (h:bL a):
 a0m a0c 87 #[.agg #[.int .u8 c.toNat, .int .u8 f.toNat,x], .agg #[.int .u8 d.toNat, .int .u8 g.toNat,y]] w λe w'=>e= .returned (.bool (sameR ⟨c,f,a⟩ ⟨d,g,b⟩))/\a0g w.heap.size w w':=
 yt ⟨c,f,a⟩ ⟨d,g,b⟩ _ _ w ⟨x,rfl,i⟩ ⟨y,rfl,j⟩ h
end
end Go.Proofs.YtjcimanddakkaaaGreatDoor
