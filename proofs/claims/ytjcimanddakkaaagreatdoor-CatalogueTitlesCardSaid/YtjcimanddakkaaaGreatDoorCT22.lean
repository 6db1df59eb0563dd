/- Lemmas. -/
import Derived.Test.YtjcimanddakkaaaGreatDoorCT9
set_option maxRecDepth 100000
set_option maxHeartbeats 8000000
namespace Go.Proofs.YtjcimanddakkaaaGreatDoor
open Go.Value renaming int→J,bool→a2,slice→aC
open Go.IntKind renaming i64→U,u8→a1
open _root_.Option renaming some→X,none→Y
open Go.Ending renaming returned→aS
open Go.Obj renaming cells→aT
open Go.Lib renaming hid→Z
open Tryz
open Go.World renaming alloc_heap_new→bb,ownsRow_nil→bc
open _root_.List renaming flatMap_cons→bd,getElem?_eq_getElem→bA,getElem?_eq_none→bB
open _root_.Nat renaming succ_mul→bk,lt_or_ge→bl,le_refl→bt
open Go renaming Value→bs,World→bw
open Go.RowKit.Below renaming refl→bv
open _root_.Bool renaming and_eq_false_iff→bO
section
open Go.RowKit Go.Maps Go.Shelf
def verCells(p:RK×VX):List bs:=[J U p.1.1,J U p.1.2,J U p.2.1.1,J a1 p.2.1.2.kind,J a1 p.2.1.2.level,p.2.2]
def dropCells(p:RK×Int):List bs:=[J U p.1.1,J U p.1.2,J U p.2]
def decCells(p:PK×(Int×Bool)):List bs:=[J U p.1.1.1,J U p.1.1.2,J U p.1.2.1,J U p.1.2.2,J U p.2.1,a2 p.2.2]
def restM(F:Nat->Prop)(p:Nat)(a b c:bs)(k:Nat):Prop:=F k/\k≠p/\a.ownBlock≠X k/\b.ownBlock≠X k/\c.ownBlock≠X k
structure dM(F:Nat->Prop)(w:bw)(p:Nat)(v1 v2 v3:bs)(xs:List (RK×VX))(d:aB):Prop where
 blk:w.heap[p]?=some (.cells #[v1,v2,v3] 34 (0,0))
 vx:xs.map (λp=>(p.1,p.2.1))=d.vs
 vs:w.ownsRow 0 64 6 v1 xs (xs.flatMap verCells)
 fx:∀q∈xs,dL (restM F p v1 v2 v3) w q
 ds:w.ownsRow 0 142 3 v2 d.ds (d.ds.flatMap dropCells)
 ps:w.ownsRow 0 38 6 v3 d.ps (d.ps.flatMap decCells)
 fp:F p
 f1:∀g,v1.ownBlock=some g->F g
 f2:∀g,v2.ownBlock=some g->F g
 f3:∀g,v3.ownBlock=some g->F g
 lt:∀k,F k->k<w
 ok:bp d
def bX(F:Nat->Prop)(w:bw)(p:Nat)(d:aB):Prop:=∃a b c e,dM F w p a b c e d
theorem dM.step{F:Nat->Prop}{w w':bw}{p:Nat}{e f i:bs}{j:List (RK×VX)}{d:aB}(h:dM F w p e f i j d)(b:∀k,F k->w'.heap[k]?=w.heap[k]?)(c:w.heap.size<=w'):dM F w' p e f i j d:=
 ⟨(b p h.fp).trans h.blk,h.vx,aj h.vs (λg a=>b g (h.f1 g a)),λq m=>(h.fx q m).step (λk n=>b k n.1) c,aj h.ds (λg a=>b g (h.f2 g a)),aj h.ps (λg a=>b g (h.f3 g a)),h.fp,h.f1,h.f2,h.f3,λk l=>Nat.lt_of_lt_of_le (h.lt k l) c,h.ok⟩
theorem dM.below{F:Nat->Prop}{w w':bw}{p:Nat}{b c e:bs}{f:List (RK×VX)}{d:aB}(h:dM F w p b c e f d)(a:Bw w w'):dM F w' p b c e f d:=
 h.step (λk g=>a.block k (h.lt k g)) a.size
theorem bX.step{F:Nat->Prop}{w w':bw}{p:Nat}{d:aB}(h:bX F w p d)(a:∀k,F k->w'.heap[k]?=w.heap[k]?)(b:w.heap.size<=w'):bX F w' p d:=by
 obtain⟨c,e,f,g,h⟩:=h;exact⟨c,e,f,g,h.step a b⟩
theorem bX.below{F:Nat->Prop}{w w':bw}{p:Nat}{d:aB}(h:bX F w p d)(a:Bw w w'):bX F w' p d:=by
 obtain⟨b,c,e,f,h⟩:=h;exact⟨b,c,e,f,h.below a⟩
theorem dM.sx{F:Nat->Prop}{w:bw}{p:Nat}{c e f:bs}{b:List (RK×VX)}{d:aB}(h:dM F w p c e f b d):aH ltRK b:=by
 have a:=h.ok.ok.vs;rw[<- h.vx]at a;unfold aH at a ⊢;rw[List.pairwise_map]at a;exact a
theorem dM.len{F:Nat->Prop}{w:bw}{p:Nat}{b c e:bs}{a:List (RK×VX)}{d:aB}(h:dM F w p b c e a d):a.length=d.vs:=by rw[<- h.vx];simp
theorem dM.lx{F:Nat->Prop}{w:bw}{p:Nat}{b c e:bs}{a:List (RK×VX)}{d:aB}(h:dM F w p b c e a d):a.length<=5000:=by rw[h.len];exact h.ok.vlen
theorem lF{α:Type}(enc:α->List bs)(n:Nat)(hn:∀x,(enc x).length=n):∀(a:List α)(m i:Nat)(hm:m<a),i<n->(a.flatMap enc)[m*n+i]?=(enc a[m])[i]?
 |x::a,0,i,hm,hi=>by
  rw[bd,Nat.zero_mul,Nat.zero_add,List.getElem?_append_left (by rw[hn];exact hi)];rfl
 |x::a,m+1,i,hm,hi=>by
  rw[bd,List.getElem?_append_right (by rw[hn,bk];omega),hn,show(m+1)*n+i-n=m*n+i by rw[bk];omega,lF enc n hn a m i (by simpa using hm) hi]
  rfl
theorem bR{α:Type}(enc:α->List bs)(n:Nat)(hn:∀x,(enc x).length=n)(b:List α):(b.flatMap enc).length=b*n:=by
 induction b with
 |nil=>simp
 |cons a l ih=>rw[bd,List.length_append,hn,ih,List.length_cons,bk];omega
theorem bT{α:Type}{w:bw}{e k:Nat}{v:bs}{enc:α->List bs}{a:List α}(d:∀x,(enc x).length=k)(h:w.ownsRow 0 e k v a (a.flatMap enc))(m:Nat)(f:m<a):
 ∃g c,v=aC (X ⟨g,0,Y⟩) a c/\g<w/\∀i u,(enc a[m])[i]?=X u->w.cell? ⟨g,m*k+i,Y⟩=X u:=by
 rcases h.2 with⟨rfl,q⟩|⟨g,l,p,rfl,_⟩
 .omega
 refine⟨g,l,rfl,(h.lt g (by simp[Value.ownBlock])).2,λi u j=>?_⟩;have o:i<k:=by rw[<- d a[m]];exact(List.getElem?_eq_some_iff.1 j).1
 have b:=lF enc k d a m i f o;rw[j]at b;have n:m*k+i<a*k:=by have:=Nat.mul_le_mul_right k (show m+1<=a from f);rw[bk]at this;omega
 rw[h.cellAt _ n];exact b
theorem CQ(w:bw):Calls prog 33 #[] w λe w'=>e=aS (.pointer w)/\w'=w.alloc (aT #[aC Y 0 0,aC Y 0 0,aC Y 0 0] 34):=by
 go_enter func33,ntmps33;go_wp2;go_ret;exact⟨rfl,rfl⟩
theorem Bb(w:bw):bX (λk=>k=w) (w.alloc (aT #[aC Y 0 0,aC Y 0 0,aC Y 0 0] 34)) w cat0:=by
 refine⟨aC Y 0 0,aC Y 0 0,aC Y 0 0,[],bb w _,rfl,bc _ _ _ _,?_,bc _ _ _ _,bc _ _ _ _,rfl,?_,?_,?_,λk b=>by rw[b];simp,qI⟩
 .intro p c;cases c
 .intro m a;cases a
 .intro m a;cases a
 intro m a;cases a
theorem vU(F:Nat->Prop)(w:bw)(p:Nat)(v1 M v3:bs)(xs:List (RK×VX))(d:aB)(h:dM F w p v1 M v3 xs d)(k:RK):
 Calls prog 81 #[.pointer p,recK k] w λe w'=>e=aS (.tuple #[(placeK ltRK d.ds k),a2 (findK d.ds k).isSome])/\Bw w w':=by
 have ax:d.ds.length<=5000:=h.ok.dlen;have a4:=Z (en aY h.ok.ok.ds k);have au:Hid (∀i(h2:i<d.ds.length),i<placeK ltRK d.ds k->ltRK d.ds[i].1 k=true):=λi h2 hi=>mr d.ds k i hi h2;have ao:Hid (∀h:placeK ltRK d.ds k<d.ds,ltRK d.ds[placeK ltRK d.ds k].1 k=false):=λh=>mu d.ds k h;have a9:=gW (lt:=ltRK) d.ds k;obtain⟨l,o⟩:=k;obtain⟨w1,B⟩:=Qe (w.alloc (aT #[l,o] 36));have R:Bw w w1:=by rw[<- B];exact(bv _ w).alloc (bt _) _
 have m:=bb w (aT #[l,o] 36);rw[B]at m;have HK:=Z m;have G:=Z (h.below R);have a3:=Z R;have ad:w1.heap.size=w+1:=by rw[<- B];simp
 have a6:=Z ad;have av:=Z B;obtain⟨va,vc,hv⟩:=aQ h.ds;have a5:Hid (w1.ownsRow 0 142 3 M d.ds (d.ds.flatMap dropCells)):=G.ds
 have P:Hid (∀W,Bw w1 W->W.cell? ⟨p,1,Y⟩=X M/\W.cell? w=X (J U l)/\W.cell? ⟨w,1,Y⟩=X (J U o)):=λW x=>
  ⟨(ab ((x.block _ (G.o.lt p G.o.fp)).trans G.o.blk) 1).trans rfl,(ab ((x.block _ (by omega)).trans m) 0).trans rfl,(ab ((x.block _ (by omega)).trans m) 1).trans rfl⟩
 obtain⟨q,hq⟩:=Qe (placeK ltRK d.ds (l,o));rw[hq]at a9;have u:=Z hq;obtain⟨N,I⟩:=Qe d.ds.length;rw[I]at ax a9;have H:=Z I;have ac:M=aC va N vc:=by rw[<- I];exact hv
 rw[ac]at a5 P;clear h R m ad B hv hq I ac;unfold recK;dsimp only;go_enter func81,ntmps81;go_wp2_with fail;rw[av.o];go_loopw [6] (λj wr=>∃i:Nat,j=J U i/\i<=q/\Hid (Bw w1 wr)) (λj _=>N-(intOf j).toNat)
 exact⟨0,rfl,Nat.zero_le _,bv _ _⟩;obtain⟨i,rfl,hi,C⟩:=hrel;by_cases hlt:i<N;rotate_left
 .obtain rfl:i=N:=by omega
  obtain rfl:q=i:=by omega
  have t:Hid (∀W,Bw w1 W->(W.cell? ⟨p,1,Y⟩=X (aC va q vc)/\W.cell? w=X (J U l)/\W.cell? ⟨w,1,Y⟩=X (J U o))):=P.o;have n:Bw w1 wr.drew:=C.drew;go_wp2_with fail;refine Wb w1 999 ?_;refine Qd [0,1,2,3,4] n t ?_;refine Ds 5 n ?_;refine Qc [6,7] n ?_;refine tfS 8 rfl n ?_;(try go_simp)
  refine tfS 9 rfl n ?_;(try go_simp)
  refine tfS 10 rfl n ?_;(try go_simp)
  refine tfS 11 rfl n ?_;(try go_simp)
  refine tfS 12 rfl n ?_;(try go_simp)
  refine tfS 13 rfl n ?_;(try go_simp)
  refine tfS 14 rfl n ?_;(try go_simp)
  refine tfS 15 rfl n ?_;(try go_simp)
  refine tfS 16 rfl n ?_;(try go_simp)
  refine tfS 17 rfl n ?_;(try go_simp)
  refine Qc [18] n ?_
  refine dN ?_;go_wp2_with fail;have f:Bw w1 wr.drew.drew:=C.drew.drew;refine Wb w1 999 ?_;refine Qd [0,1,2,3,4,5] f t ?_;refine Ds 6 f ?_;refine Qc [7,8] f ?_;refine tfS 9 rfl f ?_;(try go_simp)
  refine tfS 10 rfl f ?_;(try go_simp)
  refine tfS 11 rfl f ?_;(try go_simp)
  refine tfS 12 rfl f ?_;(try go_simp)
  refine tfS 13 rfl f ?_;(try go_simp)
  refine tfS 14 rfl f ?_;(try go_simp)
  refine tfS 15 rfl f ?_;(try go_simp)
  refine tfS 16 rfl f ?_;(try go_simp)
  refine tfS 17 rfl f ?_;(try go_simp)
  refine tfS 18 rfl f ?_;(try go_simp)
  refine Qc [19,20,21] f ?_;refine dN ?_;go_wp2_with fail;go_ret2;refine⟨?_,a3.o.trans (f.mono (by have:=a6.o;omega))⟩;have T:findK d.ds (l,o)=Y:=by have:=a4.o;rw[u.o,bB (by rw[H.o];exact bt _)]at this;exact this
  rw[T,u.o];rfl
 have a0:i<d.ds:=by rw[H.o];exact hlt
 have aa:=a5.o;rw[<- H.o]at aa;obtain⟨g,c,he,hg,L⟩:=bT (enc:=dropCells) (λ_=>rfl) aa i a0;injection he with he1 he2 he3
 subst he1 he3;obtain⟨e,A⟩:=Qe (d.ds[i]);rw[A]at L;have D:Hid (i<q->ltRK e.1 (l,o)=true):=λV=>by rw[<- A];exact au.o i a0 (by rw[u.o];exact V)
 have E:Hid (i=q->ltRK e.1 (l,o)=false):=λV=>by subst V;have h1:=ao.o (by rw[u.o];exact a0);simp only[u.o]at h1;rw[<- A];exact h1
 have al:=Z A;obtain⟨⟨r,s⟩,em⟩:=e;have Q:=L 0 _ rfl;have c1:=L 1 _ rfl;rw[Nat.add_zero]at Q
 have t:Hid (∀W,Bw w1 W->(W.cell? ⟨p,1,Y⟩=X (aC g N vc)/\W.cell? w=X (J U l)/\W.cell? ⟨w,1,Y⟩=X (J U o))/\W.cell? ⟨g,i*3,Y⟩=X (J U r)/\W.cell? ⟨g,i*3+1,Y⟩=X (J U s)):=λW x=>
  ⟨P W x,((aq x).1 g _ hg).trans Q,((aq x).1 g _ hg).trans c1⟩
 have HL:Hid (∀W,Calls prog 25 #[.agg #[r,s],.agg #[l,o]] W λe w'=>e=aS (a2 (ltRK (r,s) (l,o)))/\Bw W w'):=λW=>jI (r,s) (l,o) W;have az:(i:Int)<(N:Int):=by omega
 have n:Bw w1 wr.drew:=C.drew;have ay:=C.size;dsimp only at D E;generalize hltv:ltRK (r,s) (l,o)=b at*;clear L Q c1 hltv A;go_wp2_with fail;refine Wb w1 999 ?_;refine Qd [0,1,2,3,4] n t ?_;refine Ds 5 n ?_;refine Qd [6,7,8,9,10,11,12,13,14,15,16] n t ?_;refine Dq 17 λK m=>?_;go_simp;go_at_call 25;refine(HL _).mono ?_;rintro e w3⟨rfl,a7⟩;have f:Bw w1 w3:=n.trans (a7.mono ay);refine m _ _ (λ_=>f) ?_;clear m K;refine Qc [18] f ?_
 refine dN ?_;have O:=Z f;clear f n a7;cases b;rotate_left
 .have a8:i<q:=by
   rcases bl i q with h|h
   .exact h
   have:=E.o (by omega);cases this
  clear D E;go_wp2_with fail;go_roundw;exact⟨i+1,by go_num,by omega,O⟩;simp[intOf];omega
 have a8:i=q:=by
  rcases bl i q with h|h
  .have:=D h;cases this
  omega
 subst a8;clear D E;go_wp2_with fail;have f:Bw w1 w3.drew:=O.drew;refine Wb w1 999 ?_;refine Qd [0,1,2,3,4,5] f t ?_;refine Ds 6 f ?_;refine Qd [7,8,9,10,11,12,13,14,15,16,17] f t ?_;refine cn (i:=18) (v:=a2 (decide (r=l)&&decide (s=o))) rfl (by kernel_rfl) (by kernel_rfl) (by kernel_rfl) (by rfl) (λ_ _ _ h=>h) f (Or.inl ⟨by rfl,?_⟩) ?_;focus (intro w' h;by_cases g1:r=l<;>by_cases y:s=o<;>simp[g1,y]<;>go_simp<;>rfl)
 (try go_simp)
 refine Qc [19,20,21] f ?_;refine dN ?_;go_wp2_with fail;go_ret2;refine⟨?_,a3.o.trans (O.o.drew.mono (by have:=a6.o;omega))⟩;have T:findK d.ds (l,o)=if(r,s)=(l,o)then X em else Y:=by have:=a4.o;rw[u.o,bA (by rw[H.o];exact hlt),al.o]at this;exact this
 rw[T,u.o];by_cases hk:(r,s)=(l,o)
 .rw[if_pos hk];injection hk with g1 y
  rw[decide_eq_true g1,decide_eq_true y];rfl
 rw[if_neg hk];have:(decide (r=l)&&decide (s=o))=false:=by
  rw[bO,decide_eq_false_iff_not,decide_eq_false_iff_not];rcases Classical.em (r=l)with g|g
  .exact .inr λy=>hk (by rw[g,y])
  exact .inl g
 rw[this];rfl
theorem tG(F:Nat->Prop)(w:bw)(p:Nat)(O v2 v3:bs)(l:List (RK×VX))(d:aB)(h:dM F w p O v2 v3 l d)(k:RK):
 Calls prog 86 #[.pointer p,recK k] w λe w'=>e=aS (.tuple #[(placeK ltRK l k),a2 (findK l k).isSome])/\Bw w w':=by
 have ax:l.length<=5000:=h.lx;have a4:=Z (en aY h.sx k);have au:Hid (∀i(h2:i<l.length),i<placeK ltRK l k->ltRK l[i].1 k=true):=λi h2 hi=>mr l k i hi h2;have ao:Hid (∀h:placeK ltRK l k<l,ltRK l[placeK ltRK l k].1 k=false):=λh=>mu l k h;have a9:=gW (lt:=ltRK) l k;obtain⟨m,r⟩:=k;obtain⟨w1,C⟩:=Qe (w.alloc (aT #[m,r] 36));have T:Bw w w1:=by rw[<- C];exact(bv _ w).alloc (bt _) _
 have n:=bb w (aT #[m,r] 36);rw[C]at n;have HK:=Z n;have H:=Z (h.below T);have a3:=Z T;have ad:w1.heap.size=w+1:=by rw[<- C];simp
 have a6:=Z ad;have av:=Z C;obtain⟨va,vc,hv⟩:=aQ h.vs;have a5:Hid (w1.ownsRow 0 64 6 O l (l.flatMap verCells)):=H.vs
 have Q:Hid (∀W,Bw w1 W->W.cell? p=X O/\W.cell? w=X (J U m)/\W.cell? ⟨w,1,Y⟩=X (J U r)):=λW y=>
  ⟨(ab ((y.block _ (H.o.lt p H.o.fp)).trans H.o.blk) 0).trans rfl,(ab ((y.block _ (by omega)).trans n) 0).trans rfl,(ab ((y.block _ (by omega)).trans n) 1).trans rfl⟩
 obtain⟨q,hq⟩:=Qe (placeK ltRK l (m,r));rw[hq]at a9;have x:=Z hq;obtain⟨N,L⟩:=Qe l.length;rw[L]at ax a9;have I:=Z L;have ac:O=aC va N vc:=by rw[<- L];exact hv
 rw[ac]at a5 Q;clear h T n ad C hv hq L ac;unfold recK;dsimp only;go_enter func86,ntmps86;go_wp2_with fail;rw[av.o];go_loopw [6] (λj wr=>∃i:Nat,j=J U i/\i<=q/\Hid (Bw w1 wr)) (λj _=>N-(intOf j).toNat)
 exact⟨0,rfl,Nat.zero_le _,bv _ _⟩;obtain⟨i,rfl,hi,D⟩:=hrel;by_cases hlt:i<N;rotate_left
 .obtain rfl:i=N:=by omega
  obtain rfl:q=i:=by omega
  have u:Hid (∀W,Bw w1 W->(W.cell? p=X (aC va q vc)/\W.cell? w=X (J U m)/\W.cell? ⟨w,1,Y⟩=X (J U r))):=Q.o;have o:Bw w1 wr.drew:=D.drew;go_wp2_with fail;refine Wb w1 999 ?_;refine Qd [0,1,2,3,4] o u ?_;refine Ds 5 o ?_;refine Qc [6,7] o ?_;refine tfS 8 rfl o ?_;(try go_simp)
  refine tfS 9 rfl o ?_;(try go_simp)
  refine tfS 10 rfl o ?_;(try go_simp)
  refine tfS 11 rfl o ?_;(try go_simp)
  refine tfS 12 rfl o ?_;(try go_simp)
  refine tfS 13 rfl o ?_;(try go_simp)
  refine tfS 14 rfl o ?_;(try go_simp)
  refine tfS 15 rfl o ?_;(try go_simp)
  refine tfS 16 rfl o ?_;(try go_simp)
  refine tfS 17 rfl o ?_;(try go_simp)
  refine Qc [18] o ?_
  refine dN ?_;go_wp2_with fail;have f:Bw w1 wr.drew.drew:=D.drew.drew;refine Wb w1 999 ?_;refine Qd [0,1,2,3,4,5] f u ?_;refine Ds 6 f ?_;refine Qc [7,8] f ?_;refine tfS 9 rfl f ?_;(try go_simp)
  refine tfS 10 rfl f ?_;(try go_simp)
  refine tfS 11 rfl f ?_;(try go_simp)
  refine tfS 12 rfl f ?_;(try go_simp)
  refine tfS 13 rfl f ?_;(try go_simp)
  refine tfS 14 rfl f ?_;(try go_simp)
  refine tfS 15 rfl f ?_;(try go_simp)
  refine tfS 16 rfl f ?_;(try go_simp)
  refine tfS 17 rfl f ?_;(try go_simp)
  refine tfS 18 rfl f ?_;(try go_simp)
  refine Qc [19,20,21] f ?_;refine dN ?_;go_wp2_with fail;go_ret2;refine⟨?_,a3.o.trans (f.mono (by have:=a6.o;omega))⟩;have V:findK l (m,r)=Y:=by have:=a4.o;rw[x.o,bB (by rw[I.o];exact bt _)]at this;exact this
  rw[V,x.o];rfl
 have a0:i<l:=by rw[I.o];exact hlt
 have aa:=a5.o;rw[<- I.o]at aa;obtain⟨g,c,he,hg,M⟩:=bT (enc:=verCells) (λ_=>rfl) aa i a0;injection he with he1 he2 he3
 subst he1 he3;obtain⟨e,B⟩:=Qe (l[i]);rw[B]at M;have E:Hid (i<q->ltRK e.1 (m,r)=true):=λhh=>by rw[<- B];exact au.o i a0 (by rw[x.o];exact hh)
 have G:Hid (i=q->ltRK e.1 (m,r)=false):=λhh=>by subst hh;have h1:=ao.o (by rw[x.o];exact a0);simp only[x.o]at h1;rw[<- B];exact h1
 have al:=Z B;obtain⟨⟨s,t⟩,em⟩:=e;have R:=M 0 _ rfl;have c1:=M 1 _ rfl;rw[Nat.add_zero]at R
 have u:Hid (∀W,Bw w1 W->(W.cell? p=X (aC g N vc)/\W.cell? w=X (J U m)/\W.cell? ⟨w,1,Y⟩=X (J U r))/\W.cell? ⟨g,i*6,Y⟩=X (J U s)/\W.cell? ⟨g,i*6+1,Y⟩=X (J U t)):=λW y=>
  ⟨Q W y,((aq y).1 g _ hg).trans R,((aq y).1 g _ hg).trans c1⟩
 have HL:Hid (∀W,Calls prog 25 #[.agg #[s,t],.agg #[m,r]] W λe w'=>e=aS (a2 (ltRK (s,t) (m,r)))/\Bw W w'):=λW=>jI (s,t) (m,r) W;have az:(i:Int)<(N:Int):=by omega
 have o:Bw w1 wr.drew:=D.drew;have ay:=D.size;dsimp only at E G;generalize hltv:ltRK (s,t) (m,r)=b at*;clear M R c1 hltv B;go_wp2_with fail;refine Wb w1 999 ?_;refine Qd [0,1,2,3,4] o u ?_;refine Ds 5 o ?_;refine Qd [6,7,8,9,10,11,12,13,14,15,16] o u ?_;refine Dq 17 λK n=>?_;go_simp;go_at_call 25;refine(HL _).mono ?_;rintro e w3⟨rfl,a7⟩;have f:Bw w1 w3:=o.trans (a7.mono ay);refine n _ _ (λ_=>f) ?_;clear n K;refine Qc [18] f ?_
 refine dN ?_;have P:=Z f;clear f o a7;cases b;rotate_left
 .have a8:i<q:=by
   rcases bl i q with h|h
   .exact h
   have:=G.o (by omega);cases this
  clear E G;go_wp2_with fail;go_roundw;exact⟨i+1,by go_num,by omega,P⟩;simp[intOf];omega
 have a8:i=q:=by
  rcases bl i q with h|h
  .have:=E h;cases this
  omega
 subst a8;clear E G;go_wp2_with fail;have f:Bw w1 w3.drew:=P.drew;refine Wb w1 999 ?_;refine Qd [0,1,2,3,4,5] f u ?_;refine Ds 6 f ?_;refine Qd [7,8,9,10,11,12,13,14,15,16,17] f u ?_;refine cn (i:=18) (v:=a2 (decide (s=m)&&decide (t=r))) rfl (by kernel_rfl) (by kernel_rfl) (by kernel_rfl) (by rfl) (λ_ _ _ h=>h) f (Or.inl ⟨by rfl,?_⟩) ?_;focus (intro w' h;by_cases g1:s=m<;>by_cases z:t=r<;>simp[g1,z]<;>go_simp<;>rfl)
 (try go_simp)
 refine Qc [19,20,21] f ?_;refine dN ?_;go_wp2_with fail;go_ret2;refine⟨?_,a3.o.trans (P.o.drew.mono (by have:=a6.o;omega))⟩;have V:findK l (m,r)=if(s,t)=(m,r)then X em else Y:=by have:=a4.o;rw[x.o,bA (by rw[I.o];exact hlt),al.o]at this;exact this
 rw[V,x.o];by_cases hk:(s,t)=(m,r)
 .rw[if_pos hk];injection hk with g1 z
  rw[decide_eq_true g1,decide_eq_true z];rfl
 rw[if_neg hk];have:(decide (s=m)&&decide (t=r))=false:=by
  rw[bO,decide_eq_false_iff_not,decide_eq_false_iff_not];rcases Classical.em (s=m)with g|g
  .exact .inr λz=>hk (by rw[g,z])
  exact .inl g
 rw[this];rfl
end
end Go.Proofs.YtjcimanddakkaaaGreatDoor
