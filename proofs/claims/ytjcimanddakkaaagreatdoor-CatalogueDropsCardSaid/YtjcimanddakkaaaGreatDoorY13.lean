/- Lemmas. -/
import Derived.Test.YtjcimanddakkaaaGreatDoorY8
import Derived.Test.YtjcimanddakkaaaGreatDoorY12
set_option maxRecDepth 100000
set_option maxHeartbeats 8000000
namespace Go.Proofs.YtjcimanddakkaaaGreatDoor
open _root_.Option renaming some→X,none→Y
open Go.Obj renaming cells→fn
open Go.Value renaming pointer→fs,int→J,slice→hy,bool→hz,map→hA
open Go.Ending renaming returned→hb
open Go.IntKind renaming i64→U,u8→hu
open Go.Lib renaming hid→Z
open Tryz
open _root_.Nat renaming le_refl→hC,zero_le→hG
open Go.ChangeMaps renaming setBlock→hD
open Go.RowKit.Below renaming refl→hH,heap_setCell→hL
open _root_.List renaming pairwise_map→hI,length_map→hK,filter_append→hN,map_append→hQ,find?_cons→hR
open Go.Calls renaming mono→hJ
open Go.Instr renaming lookup→hO
open Go renaming World→hP,Value→hS
open Go.World renaming alloc_heap_new→hT,size_setCell→hX
open _root_.Option renaming isSome_none→hV,getD_none→hY
section
open Go.RowKit Go.Maps Go.Shelf
theorem l8 {P:Program} {e:Region.Mode} {b:Array Oper} {Q:Exit->Act->hP->Prop} {S:hP->Prop} {z i:Nat} {o:Oper} {n:Nat} {d:Array Bool} {a:Act} {w:hP} (q:b[i]? =X o) (g:Region.ready e b d=[i]) (p:Region.wanted o (yielded b a.tmps)=true)
 (h:∀K:Act->hP->Prop,(∀c w',(i≠z->S w')->anyT P e b Q S z n (d.setIfInBounds i true) c w'->K c w')->o.wp P a w K Q):anyT P e b Q S z (n+1) d a w:=by
 refine ⟨λk=>absurd k (by rw [g];simp),λj f=>?_⟩;rw [g] at f;obtain rfl:j=i:=by simpa using f
 unfold wpOp;rw [q];simp only [p,if_true];exact .inl (h _ λc w' l m=>⟨l,m⟩)
theorem km {w:hP} {b t:Nat} {x y z u v q:hS} (h:w.heap[b]? =X (fn #[x,y,z,u,v,q] t (0,0))):w.cell? ⟨b,0,Y⟩=X x/\w.cell? ⟨b,1,Y⟩=X y/\w.cell? ⟨b,2,Y⟩=X z/\w.cell? ⟨b,3,Y⟩=X u/\w.cell? ⟨b,4,Y⟩=X v/\w.cell? ⟨b,5,Y⟩=X q:=
 ⟨(aa h 0).trans rfl,(aa h 1).trans rfl,(aa h 2).trans rfl,(aa h 3).trans rfl,(aa h 4).trans rfl,(aa h 5).trans rfl⟩
theorem fJ {K V:Type} [DecidableEq K] (l:List (K×V)) (f:K->V->hS) (k:K):lookL (l.map λp=>(p.1,f p.1 p.2)) k=(findK l k).map (f k):=by
 induction l with
 |nil=>rfl
 |cons p l ih=>
  unfold findK at ih ⊢;rw [List.map_cons,dh,hR];by_cases h:p.1=k
  · rw [if_pos h];simp [h]
  · rw [if_neg h,ih];simp [h]
theorem qW {K V W:Type} [DecidableEq K] (l:List (K×(V×W))) (k:K):findK (l.map λp=>(p.1,p.2.1)) k=(findK l k).map (·.1):=by
 induction l with
 |nil=>rfl
 |cons p l ih=>
  unfold findK at ih ⊢;rw [List.map_cons,hR,hR];by_cases h:p.1=k
  · simp [h]
  · simp only [h,decide_false];exact ih
theorem ue {K V:Type} [DecidableEq K] {l:List (K×V)} {k:K} {v:V} (h:findK l k=X v):(k,v)∈l:=by
 unfold findK at h;rw [Option.map_eq_some_iff] at h;obtain ⟨p,b,rfl⟩:=h;have c:=List.mem_of_find?_eq_some b;have a:=List.find?_some b;simp at a;rw [<- a];exact c
def putX (d:aq) (k:RK) (n:Int) (r:az):Int:=aL (findK d.vs k).isSome (decide (((findK d.vs k).getD (0,⟨0,0,[]⟩)).1=n)&&decide (((findK d.vs k).getD (0,⟨0,0,[]⟩)).2=r)) ((findK d.vs k).getD (0,⟨0,0,[]⟩)).1 n d.vs.length
theorem put_eq (d:aq) (k:RK) (n:Int) (r:az) (a:wrongR r=0):putC d k n r=if putX d k n r=0 then ({d with vs:=insL ltRK d.vs k (n,r)},0) else (d,putX d k n r):=by
 unfold putC putX;rw [if_neg (by simpa using a)];cases findK d.vs k with
 |none=>simp only [hV,hY];rw [ln (decide (0=n)&&decide ((⟨0,0,[]⟩:az)=r))]
 |some m=>rfl
theorem aZ.put {d:aq} (h:aZ d) {k:RK} {n:Int} {r:az} (b:rkOk k) (c:i64B n) (e:wrongR r=0) (f:putX d k n r=0):aZ {d with vs:=insL ltRK d.vs k (n,r)}:=by
 refine ⟨⟨cM aK h.ok.vs _ _,h.ok.ds,h.ok.ps,h.ok.apart⟩,?_,h.dlen,h.plen,cN aK h.ok.vs h.right e,cN aK h.ok.vs h.vnum c,h.dnum,h.pnum,cN aK h.ok.vs h.vkey b,h.dkey,h.pkey⟩;exact oS aK h.ok.vs k (n,r) h.vlen λa=>fH f a
theorem eN {r:az} (h:wrongR r=0):r.fields.length<=1000000/\(∀f∈r.fields,f.subs.length<=1000000)/\bH r.fields:=by
 have a:=wO h;refine ⟨by have:=a.many;omega,λf b=>?_,by have:=a.many;omega,λf b=>by have:=a.long f b;omega⟩;have c:=a.long f b;have d:=cK f;omega
theorem jl.ins {F G:Nat->Prop} {w a:hP} {m:Nat} {k:RK} {n:Int} {r:az} {x:hS} {lo b:Nat} {ps:List (RK×VX)} {d:VL} (e:ps.map (λp=>(p.1,p.2.1))=d) (f:∀p∈ps,dM F w p) (c:aw ltRK d)
 (i:∀q,F q->a.heap[q]? =w.heap[q]?) (u:w.heap.size<=a.heap.size) (g:∀q,F q->G q) (s:ai lo b a x r.fields) (h:b<=a.heap.size) (t:∀q,lo<=q->q<b->G q) (j:ak recB a m ((insL ltRK ps k ((n,r),x)).map λp=>(p.1,iL p.1 p.2))):
 jl G a (X m) (insL ltRK d k (n,r)):=by
 have o:aw ltRK ps:=by rw [<- e] at c;unfold aw at c ⊢;rw [hI] at c;exact c
 refine ⟨insL ltRK ps k ((n,r),x),by rw [<- e];exact ub ltRK (λq:VX=>q.1) ps k ((n,r),x),j,?_⟩;refine cN aK o (λp l=>((f p l).step i u).wide g) ⟨lo,b,s,h,t⟩
theorem dP.put1 {F:Nat->Prop} {w j:hP} {c a b e:Nat} {E:hS} {d:aq} {G:Nat->Prop} {vs:VL} (h:dP F w c (X a) (X b) (X e) E d) (o:ar a w j) (l:∀k,F k->G k) (z:∀k,G k->k<w.heap.size)
 (C:jl (restF G c (X a) (X b) (X e)) j (X a) vs) (A:aZ {d with vs:=vs}):
 dP G (j.setCell ⟨c,3,Y⟩ (fs Y)) c (X a) (X b) (X e) (fs Y) {d with vs:=vs}:=by
 have v:c≠b:=λe=>(aj (show ak recB w b _ from h.ds) h.blk) e.symm;have s:c≠a:=λe=>by obtain ⟨ps,_,i,_⟩:=h.vs;exact (aj (show ak recB w a _ from i) h.blk) e.symm
 have x:c≠e:=λp=>(aj (show ak pairB w e _ from h.ps) h.blk) p.symm;rcases h.one with ⟨g,_⟩|⟨H,I,p,g,i,n,q,r,u⟩
 · cases g
 injection g with g;injection i with i;injection n with n
 subst g;subst i;subst n;have t:∀k,k≠c->k≠a->(j.setCell ⟨c,3,Y⟩ (fs Y)).heap[k]? =w.heap[k]? :=λk g i=>(hL _ _ _ _ g).trans (o.block k i);have D:(j.setCell ⟨c,3,Y⟩ (fs Y)).heap.size=w.heap.size:=by rw [hX,o.size]
 refine ⟨?_,C.step (λm f=>by injection f with f;subst f;exact hL _ _ _ _ (Ne.symm s)) (λk B=>hL _ _ _ _ B.2.1) (by rw [hX];exact hC _),?_,?_, .inl rfl,l _ h.fc,λm f=>l _ (h.f1 m f),λm f=>l _ (h.f2 m f),λm f=>l _ (h.f3 m f), .inr ⟨a,b,e,rfl,rfl,rfl,q,r,u⟩,λk y=>by rw [D];exact z k y,A⟩
 · exact am ((o.block c s).trans h.blk) 3 (fs Y)
 · exact ak.block (show ak recB w b _ from h.ds) (t b (Ne.symm v) (Ne.symm q))
 · exact ak.block (show ak pairB w e _ from h.ps) (t e (Ne.symm x) (Ne.symm r))
theorem ag.own {F c:Nat->Prop} {w d e:hP} {b:Nat} (s:ag F w c d) (a:ar b d e) (h:w.heap.size<=b):ag F w c e:=
 ⟨a.os.trans s.os,a.tape.trans s.tape,a.output.trans s.output,by rw [a.size];exact s.size,λk f g=>(a.block k (by omega)).trans (s.block k f g),s.new⟩
theorem ag.more {F b G:Nat->Prop} {w w':hP} (s:ag F w b w') (h:∀k,G k->b k∨w.heap.size<=k):ag F w G w':=
 ⟨s.os,s.tape,s.output,s.size,s.block,λk c=>by
  rcases h k c with a|a
  · exact s.new k a
  · exact .inr a⟩
theorem jw (F:Nat->Prop) (w:hP) (c:Nat) (d:aq) (h:be F w c d) (k:RK) (n:Int) (r:az) (x:hS) (hk:rkOk k) (hn:i64B n) (lo hi:Nat) (hx:ai lo hi w x r.fields) (gf:hi<=w.heap.size) (hF:∀q,lo<=q->q<hi->¬F q) (fx:bH r.fields):
 Calls prog 29 #[fs (X ⟨c,0,Y⟩),kf k n r x] w λe w'=>e=hb (J U (putC d k n r).2)/\∃A,be A w' c (putC d k n r).1/\ag F w A w':=by
 have ad:=Z (put_eq d k n r);have dd:Hid (wrongR r≠0->putC d k n r=(d,11)):=λhw=>by unfold putC;rw [if_pos hw]
 have bt:Hid (wrongR r=0->putX d k n r=0->aZ {d with vs:=insL ltRK d.vs k (n,r)}):=by obtain ⟨_,_,_,_,h⟩:=h;exact λhr hx=>h.ok.put hk hn hr hx
 have b6:Hid (putX d k n r=aL (findK d.vs k).isSome (decide (((findK d.vs k).getD (0,⟨0,0,[]⟩)).1=n)&&decide (((findK d.vs k).getD (0,⟨0,0,[]⟩)).2=r)) ((findK d.vs k).getD (0,⟨0,0,[]⟩)).1 n d.vs.length):=rfl;have g7:Hid (wrongR r=0->r.fields.length<=1000000/\(∀f∈r.fields,f.subs.length<=1000000)/\bH r.fields):=eN;obtain ⟨m1,m2,m3,kn,h⟩:=h;obtain ⟨P,Q,rfl⟩:=hx.shape;obtain ⟨W1,ex⟩:=Qe (w.alloc (fn #[J U k.1,J U k.2,J U n,J hu r.kind.toNat,J hu r.level.toNat,hy P r.fields.length Q] 64));have d5:Bw w W1:=by rw [<- ex];exact (hH _ w).alloc (hC _) _
 have hB:W1.heap[w.heap.size]? =X (fn #[J U k.1,J U k.2,J U n,J hu r.kind.toNat,J hu r.level.toNat,hy P r.fields.length Q] 64 (0,0)):=by rw [<- ex];exact hT w _
 have d1:Hid (W1.heap.size=w.heap.size+1):=by unfold Hid;rw [<- ex];simp
 have cu:ai lo hi W1 (hy P r.fields.length Q) r.fields:=hx.kept (λq _ g=>d5.block q (by omega))
 have HR:Hid (∀W,Bw W1 W->Calls prog 58 #[.agg #[J hu r.kind.toNat,J hu r.level.toNat,hy P r.fields.length Q]] W λe w'=>e=hb (hz (decide (wrongR r=0)))/\Bw W w'):=λW T=>
  wP r _ W ⟨_,rfl,(cu.kept (λq _ g=>T.block q (by have:=d1.o;omega))).mono (hG _) (by have:=T.size;have:=d1.o;omega)⟩ fx
 have HM:=Z (h.below d5);have g8:=Z cu;have HB:=Z hB;have cQ:=Z d5;have fz:=Z h.lt;have dr:Hid (hi<=w.heap.size):=gf;have g0:=Z hF;obtain ⟨s,t⟩:=k;obtain ⟨l,lv,a⟩:=r;unfold kf;dsimp only at *;obtain ⟨b0,b1,b2,b3,b4,b5⟩:=km hB;clear h d5 hB hx cu gf hF fx;by_cases hr:wrongR ⟨l,lv,a⟩=0
 · rw [decide_eq_true hr] at HR;have g6:=Z hr;obtain ⟨f0,gd,fx⟩:=g7 hr;have dk:=Z gd;clear hr g7 dd gd;have ad:=Z (ad g6.o);have bt:=Z (bt g6.o);go_enter func29,ntmps29;go_wp2_with (go_at_call 58;((with_reducible refine hJ (HR.o _ (hH _ _)) ?_);rintro e B ⟨rfl,ax⟩))
   have aT:=Z (HM.below ax);have d2:=(ax.block _ (ae HB.o)).trans HB.o;have d9:Hid (Bw w B):=btr cQ.o ax cQ.size;clear b0 b1 b2 b3 b4 b5 HR
   obtain ⟨kk,H,r',x',th,dz,bv,ch,hd,hg⟩:∃(kk:RK) (H:Int) (r':az) (x':hS) (th:Bool),Hid (∀W,(∀m,m1=X m->W.heap[m]? =B.heap[m]?)->(hO 113 (.map m1) (.agg #[J U s,J U t]) true).run prog W= .ok (.tuple #[kf kk H r' x',hz th]) W)/\
    Hid (putX d (s,t) n ⟨l,lv,a⟩=aL th (decide (H=n)&&decide (r'=⟨l,lv,a⟩)) H n d.vs.length)/\(∃cy bc,ai cy bc B x' r'.fields/\bc<=B.heap.size)/\r'.fields.length<=1000000/\(∀f∈r'.fields,f.subs.length<=1000000):=by
    obtain ⟨ps,q1,q2,q3⟩:=aT.vs
    have d6:∀W,(∀m,m1=X m->W.heap[m]? =B.heap[m]?)->(hO 113 (.map m1) (.agg #[J U s,J U t]) true).run prog W= .ok (.tuple #[((findK ps (s,t)).map (iL (s,t))).getD (.agg #[J U 0,J U 0,J U 0,J hu 0,J hu 0,hy Y 0 0]),hz ((findK ps (s,t)).map (iL (s,t))).isSome]) W:=λW hW=>by
     have:=cj.look_ok (w:=W) (q2.block hW) underlying113 kI (s,t) hk
     rw [fJ] at this
     exact this
    have gP:findK d.vs (s,t)=(findK ps (s,t)).map (·.1):=by rw [<- q1];exact qW ps (s,t)
    rw [gP] at b6
    cases hf:findK ps (s,t) with
    |none=>
     rw [hf] at d6 b6
     exact ⟨(0,0),0,⟨0,0,[]⟩,hy Y 0 0,false,d6,b6,⟨0,0,⟨[],rfl,(by intro p hp;cases hp),Y,0,rfl,λh=>absurd rfl h⟩,hG _⟩,hG _,(by intro f hf;cases hf)⟩
    |some v=>
     rw [hf] at d6 b6
     obtain ⟨⟨H,r'⟩,x'⟩:=v
     have hm:=ue hf
     obtain ⟨cy,bc,g1,g2,_⟩:=q3 _ hm
     have ha:((s,t),(H,r'))∈d.vs:=by rw [<- q1];exact List.mem_map.2 ⟨_,hm,rfl⟩
     obtain ⟨s1,s2,_⟩:=eN (aT.ok.right _ ha)
     exact ⟨(s,t),H,r',x',true,d6,b6,⟨cy,bc,g1,g2⟩,s1,s2⟩
   obtain ⟨cy,bc,ch,gQ⟩:=ch;obtain ⟨cz,cP,rfl⟩:=ch.shape;obtain ⟨gp,gq⟩:=kk;obtain ⟨bw,bA,av⟩:=r';unfold kf at dz;dsimp only at *;obtain ⟨b0,b1,b2,b3,b4,b5⟩:=km d2;have V:B.drew.cell? ⟨c,0,Y⟩=X (.map m1)/\B.drew.cell? ⟨w.heap.size,0,Y⟩=X (J U s)/\B.drew.cell? ⟨w.heap.size,1,Y⟩=X (J U t)/\(∀m,m1=X m->B.drew.heap[m]? =B.heap[m]?):=⟨(aa aT.blk 0).trans rfl,b0,b1,λ_ _=>rfl⟩;have dx:Hid (∀W,Bw B W->W.cell? ⟨c,0,Y⟩=X (.map m1)/\W.cell? ⟨w.heap.size,0,Y⟩=X (J U s)/\W.cell? ⟨w.heap.size,1,Y⟩=X (J U t)/\(∀m,m1=X m->W.heap[m]? =B.heap[m]?)):=λW T=>⟨fk T _ _ V.1,fk T _ _ V.2.1,fk T _ _ V.2.2.1,λm hm=>T.block m (aT.lt m (aT.f1 m hm))⟩;clear b0 b1 b2 b3 b4 b5;refine wT (λW=>W.cell? ⟨c,0,Y⟩=X (.map m1)/\W.cell? ⟨w.heap.size,0,Y⟩=X (J U s)/\W.cell? ⟨w.heap.size,1,Y⟩=X (J U t)/\(∀m,m1=X m->W.heap[m]? =B.heap[m]?)) 12 ?_;refine Qb [0,4,1,5,2,3] V (λw' h=>h) ?_;refine tk 6 ?_ rfl V ?_ ?_;rotate_left;intro w' h;obtain ⟨h0,I,h2,h3⟩:=h;have hl:=dz w' h3;go_simp;rfl;try go_simp
   refine Qb [7,8,9] V (λw' h=>h) ?_;refine Dp 10 λK b=>?_;go_simp;have gb:∀o,Bw B (B.drew.alloc o):=λo=>(hH _ B).drew.alloc (hC _) o;refine b _ _ (λ_=>dx _ (gb _)) ?_;clear b K;refine Dp 11 λK b=>?_;go_simp;have eQ:∀o,Bw B (B.alloc o).drew:=λo=>((hH _ B).alloc (hC _) o).drew;refine b _ _ (λ_=>dx _ (eQ _)) ?_;clear b K;refine Dl 12 ?_;obtain ⟨M,c5⟩:=Qe ((B.alloc (fn #[J U gp,J U gq,J U H,J hu bw.toNat,J hu bA.toNat,hy cz av.length cP] 64)).drew);have d4:M.heap[B.heap.size]? =X (fn #[J U gp,J U gq,J U H,J hu bw.toNat,J hu bA.toNat,hy cz av.length cP] 64 (0,0)):=by rw [<- c5];exact hT B _
   have b9:Bw B M:=by rw [<- c5];exact eQ _
   have ht:Hid (M.heap.size=B.heap.size+1):=by unfold Hid;rw [<- c5];show (B.alloc _).heap.size=_;simp
   have ao:=Z (aT.below b9);have d3:=(b9.block _ (ae d2)).trans d2;have a6:Hid (Bw w M):=btr d9.o b9 d9.size;have gt:Hid (ai cy bc M (hy cz av.length cP) av):=ch.kept (λq _ g=>b9.block q (by omega));have e1:Hid (ai lo hi M (hy P a.length Q) a):=g8.o.kept (λq _ g=>(b9.block q (by have:=ax.size;have:=d1.o;have:=dr.o;omega)).trans (ax.block q (by have:=d1.o;have:=dr.o;omega)));have al:Hid (bc<=M.heap.size/\hi<=M.heap.size):=by have:=a6.o.size;have:=dr.o;have:=b9.size;exact ⟨by omega,by omega⟩
   rw [c5];clear V dx gb eQ c5 b9 dz aT d2 d9 ch gQ HM g8 HB
   have fy:Hid (∀W,Bw M W->W.cell? ⟨c,0,Y⟩=X (.map m1)/\(W.cell? ⟨w.heap.size,2,Y⟩=X (J U n)/\W.cell? ⟨w.heap.size,3,Y⟩=X (J hu l.toNat)/\W.cell? ⟨w.heap.size,4,Y⟩=X (J hu lv.toNat)/\W.cell? ⟨w.heap.size,5,Y⟩=X (hy P a.length Q))/\
    W.cell? ⟨B.heap.size,2,Y⟩=X (J U H)/\W.cell? ⟨B.heap.size,3,Y⟩=X (J hu bw.toNat)/\W.cell? ⟨B.heap.size,4,Y⟩=X (J hu bA.toNat)/\W.cell? ⟨B.heap.size,5,Y⟩=X (hy cz av.length cP)):=λW T=>by
    obtain ⟨_,_,g2,g3,g4,g5⟩:=km ((T.block _ (ae d3)).trans d3)
    obtain ⟨_,_,f2,f3,f4,f5⟩:=km ((T.block _ (ae d4)).trans d4)
    exact ⟨(aa ((T.block c (ao.lt c ao.fc)).trans ao.blk) 0).trans rfl,⟨g2,g3,g4,g5⟩,f2,f3,f4,f5⟩
   have gi:∀W ty,Bw M W->(Builtin.len_ #[113] ty #[.map m1]).run prog W= .ok (J U d.vs.length) W:=λW ty T=>by obtain ⟨ps,q1,q2,_⟩:=(ao.below T).vs;have:=cj.len q2 underlying113 ty;rw [hK,show ps.length=d.vs.length by rw [<- q1];simp] at this;exact this
   have dy:=Z gi;clear gi;have d0:=Z d3;have hh:=Z d4;clear d3 d4;have a2:Bw M M.drew:=(hH _ M).drew;obtain ⟨au,g9⟩:=Qe (putX d (s,t) n ⟨l,lv,a⟩);rw [g9] at bv ad bt;obtain ⟨d7,f7⟩:=Qe d.vs.length;rw [f7] at bv dy;have hj:=Z f7;clear g9 b6 f7;by_cases hnn:H=n
   · subst hnn;have gO:(H==H)=true:=by simp
     obtain ⟨q,g⟩:=Qe (decide ((⟨bw,bA,av⟩:az)=⟨l,lv,a⟩));have gs:Hid (∀W,Bw M W->Calls prog 59 #[.agg #[J hu bw.toNat,J hu bA.toNat,hy cz av.length cP], .agg #[J hu l.toNat,J hu lv.toNat,hy P a.length Q]] W λe w'=>e=hb (hz q)/\Bw W w'):=λW T=>by rw [<- g];exact yA _ _ ⟨bw,bA,av⟩ ⟨l,lv,a⟩ W ⟨_,rfl,(gt.o.kept (λq _ h=>T.block q (by have:=al.o.1;omega))).mono (hG _) (by have:=al.o.1;have:=T.size;omega)⟩ ⟨_,rfl,(e1.o.kept (λq _ h=>T.block q (by have:=al.o.2;omega))).mono (hG _) (by have:=al.o.2;have:=T.size;omega)⟩ hd f0 hg dk.o
     rw [decide_eq_true rfl,g,Bool.true_and] at bv;have HN:Hid (∀W,Calls prog 56 #[hz th,hz q,J U H,J U H,J U d7] W λe w'=>e=hb (J U au)/\W=w'):=λW=>by rw [bv.o];exact gA _ _ _ _ _ W
     clear g;go_wp2_with fail
     refine Wb M 23 ?_;refine Qb [0,1,3,13,15,17,2,4,14,16,18,5,19,6,20,7,9,8,10] a2 fy ?_;refine l8 (i:=11) rfl (by kernel_rfl) (by rfl) (λK b=>?_);go_simp;go_at_call 59;refine (gs _ a2).mono ?_;rintro e w6 ⟨rfl,gz⟩;have O:Bw M w6:=a2.trans gz;refine b _ _ (λ_=>O) ?_;clear b K;go_simp;refine Qa [12] O ?_
     have f6:=λty=>dy w6 ty O;refine Ds 21 O ?_;refine Dp 22 λK b=>?_;go_simp;go_at_call 56;refine (HN _).mono ?_;rintro e w9 ⟨rfl,rfl⟩;refine b _ _ (λ_=>O) ?_;clear b K;refine Dl 23 ?_;clear f6;by_cases hx:au=0
     · subst hx;have dc:Hid (putC d (s,t) H ⟨l,lv,a⟩=({d with vs:=insL ltRK d.vs (s,t) (H,⟨l,lv,a⟩)},0)):=by unfold Hid;rw [ad.o,if_pos rfl]
       have ds:Hid (aZ {d with vs:=insL ltRK d.vs (s,t) (H,⟨l,lv,a⟩)}):=bt rfl;have e0:=Z (ao.below O);have ay:=Z ((O.block _ (ae d0.o)).trans d0.o);have e2:Hid (ai lo hi w6 (hy P a.length Q) a):=e1.o.kept (λq _ h=>O.block q (by have:=al.o.2;omega));have da:Hid (Bw w w6):=btr a6.o O a6.size;have bB:Hid (hi<=w6.heap.size):=by have:=al.o.2;have:=O.size;unfold Hid;omega
       have cd:¬F w.heap.size:=λhf=>by have:=fz.o _ hf;omega
       have d8:Hid (Calls prog 57 #[fs (X ⟨c,0,Y⟩)] w6 λe z=>e=hb (.tuple #[])/\∃A j mb me,Hid (dP A z c (X j) (X mb) (X me) kn d)/\Hid (ag F w6 A z)/\Hid (z.heap[w.heap.size]? =X (fn #[J U s,J U t,J U H,J hu l.toNat,J hu lv.toNat,hy P a.length Q] 64 (0,0)))/\
        Hid (Calls prog 60 #[.agg #[J hu l.toNat,J hu lv.toNat,hy P a.length Q]] z λe y=>∃D E,e=hb (.agg #[J hu l.toNat,J hu lv.toNat,hy D a.length E])/\Hid (ai z.heap.size y.heap.size y (hy D a.length E) a)/\Hid (Bw z y)/\
         y.cell? ⟨w.heap.size,3,Y⟩=X (J hu l.toNat)/\y.cell? ⟨w.heap.size,4,Y⟩=X (J hu lv.toNat)/\y.cell? ⟨w.heap.size,5,Y⟩=X (hy P a.length Q)/\y.frozen? ⟨w.heap.size,3,Y⟩=false/\y.frozen? ⟨w.heap.size,4,Y⟩=false/\y.frozen? ⟨w.heap.size,5,Y⟩=false)/\
        z.cell? ⟨w.heap.size,3,Y⟩=X (J hu l.toNat)/\z.cell? ⟨w.heap.size,4,Y⟩=X (J hu lv.toNat)/\z.cell? ⟨w.heap.size,5,Y⟩=X (hy P a.length Q)):=by
        refine (gJ e0.o).mono ?_
        rintro e z ⟨he,A,j,mb,me,hM,V⟩
        have a7:=(V.block _ (ae ay.o) cd).trans ay.o
        have es:ai lo hi z (hy P a.length Q) a:=e2.o.kept (λq I h=>V.block q (by have:=bB.o;omega) (g0.o q I h))
        obtain ⟨_,_,_,b3,b4,b5⟩:=km a7
        refine ⟨he,A,j,mb,me,hM,V,a7,?_,b3,b4,b5⟩
        refine (xe (.agg #[J hu l.toNat,J hu lv.toNat,hy P a.length Q]) ⟨l,lv,a⟩ z ⟨_,rfl,es.mono (hG _) (Nat.le_trans bB.o V.size)⟩ f0 dk.o).mono ?_
        rintro e y ⟨v',he,⟨x2,hv,cv⟩,c7⟩
        obtain ⟨D,E,rfl⟩:=cv.shape
        have a0:=(c7.block _ (ae a7)).trans a7
        obtain ⟨_,_,_,b3,b4,b5⟩:=km a0
        exact ⟨D,E,by rw [he,hv];rfl,cv,c7,b3,b4,b5,ab a0 3,ab a0 4,ab a0 5⟩
       go_wp2_with (first
        |(go_at_call 57;((with_reducible refine hJ d8.o ?_);rintro e z ⟨rfl,A,j,mb,me,bO,c0,aC,bY,b3,b4,b5⟩))
        |(go_at_call 60;((with_reducible refine hJ bY.o ?_);rintro e y ⟨D,E,rfl,em,a5,e3,e4,e5,f3,f4,f5⟩)))
       obtain ⟨u,a9⟩:=Qe (((y.setCell ⟨w.heap.size,3,Y⟩ (J hu l.toNat)).setCell ⟨w.heap.size,4,Y⟩ (J hu lv.toNat)).setCell ⟨w.heap.size,5,Y⟩ (hy D a.length E));have a0:=(a5.block _ (ae aC.o)).trans aC.o;have b7:u.heap[w.heap.size]? =X (fn #[J U s,J U t,J U H,J hu l.toNat,J hu lv.toNat,hy D a.length E] 64 (0,0)):=by rw [<- a9];exact am (am (am a0 3 (J hu l.toNat)) 4 (J hu lv.toNat)) 5 (hy D a.length E)
       have a3:ar w.heap.size y u:=by rw [<- a9];exact (((ar.refl _ y).setCell 3 _).setCell 4 _).setCell 5 _
       have f8:¬A w.heap.size:=c0.not (ae ay.o) cd;have a1:dP A u c (X j) (X mb) (X me) kn d:=(bO.o.below a5.o).step (λq g=>a3.block q (λe=>f8 (e ▸ g))) (by rw [a3.size];exact hC _);have gy:w.heap.size<z.heap.size:=ae aC.o;have c6:ai z.heap.size y.heap.size u (hy D a.length E) a:=em.o.kept (λq I _=>a3.block q (by omega));have cx:u.heap.size=y.heap.size:=a3.size;rw [a9];clear a9 a0 e3 e4 e5 f3 f4 f5 b3 b4 b5 bY;obtain ⟨ps,q1,q2,q3⟩:=a1.vs;have cp:aw ltRK ps:=by have hs:=a1.ok.ok.vs;rw [<- q1] at hs;unfold aw at hs ⊢;rw [hI] at hs;exact hs
       have hc:ps.length<=5000:=by have:=a1.ok.vlen;rw [<- q1] at this;simpa using this
       have ac:ak recB u j (ps.map λp=>(p.1,iL p.1 p.2)):=q2;obtain ⟨st,c2,c1,cl,c9,ce,cq⟩:=ak.entry (w:=u.drew) (ak.drew ac) gC underlying113 kI (s,t) hk (by rw [hK];unfold maxLen;omega);have bb:c≠j:=λe=>(aj ac a1.blk) e.symm;have er:w.heap.size≠j:=λe=>(aj ac b7) e.symm;have aS:Hid (∀W,ar j u W->W.cell? ⟨c,0,Y⟩=X (hA (X j))/\W.cell? ⟨w.heap.size,0,Y⟩=X (J U s)/\W.cell? ⟨w.heap.size,1,Y⟩=X (J U t)/\W.cell? ⟨w.heap.size,2,Y⟩=X (J U H)/\W.cell? ⟨w.heap.size,3,Y⟩=X (J hu l.toNat)/\W.cell? ⟨w.heap.size,4,Y⟩=X (J hu lv.toNat)/\W.cell? ⟨w.heap.size,5,Y⟩=X (hy D a.length E)):=λW ho=>by obtain ⟨p0,p1,p2,p3,p4,p5⟩:=km ((ho.block _ er).trans b7);exact ⟨(aa ((ho.block c bb).trans a1.blk) 0).trans rfl,p0,p1,p2,p3,p4,p5⟩
       have bk:ar j u u.drew:=(ar.refl j u).drew;have c4:=aS _ bk;have L:=Z a1;have e8:=Z q1;have e9:=Z q3;have eg:=Z cp;have eq:=Z c6;have e7:=Z a3;clear a1 b7 q1 q2 q3 cp c6 a3 ac;refine wT (λW=>W.cell? ⟨c,0,Y⟩=X (hA (X j))/\W.cell? ⟨w.heap.size,0,Y⟩=X (J U s)/\W.cell? ⟨w.heap.size,1,Y⟩=X (J U t)/\W.cell? ⟨w.heap.size,2,Y⟩=X (J U H)/\W.cell? ⟨w.heap.size,3,Y⟩=X (J hu l.toNat)/\W.cell? ⟨w.heap.size,4,Y⟩=X (J hu lv.toNat)/\W.cell? ⟨w.heap.size,5,Y⟩=X (hy D a.length E)) 13 ?_;refine Qb [0,4,6,7,1,5,2,3] c4 (λw' h=>h) ?_;refine Dp 8 λK b=>?_;refine bo rfl cl ?_;have bs:ar j u (hD u.drew j (.map c2 c1)):=bk.trans ce;have b8:=aS _ bs;generalize hD u.drew j (.map c2 c1)=w4 at *;refine b _ _ (λ_=>b8) ?_;clear b K;go_simp;refine Qb [9] b8 (λw' h=>h) ?_
       refine Dp 10 λK b=>?_;obtain ⟨R,cm,cc,cg⟩:=cq w4 (.agg #[J U s,J U t,J U H,J hu l.toNat,J hu lv.toNat,hy D a.length E]) c9;refine aW rfl cm ?_;have N:ar j u R:=bs.trans cg;have a8:=aS _ N;refine b _ _ (λ_=>a8) ?_;clear b K;go_simp;refine Ds 11 a8 ?_;refine Qb [12] a8 (λw' h=>h) ?_
       have cb:ak recB R j ((insL ltRK ps (s,t) ((H,⟨l,lv,a⟩),hy D a.length E)).map λp=>(p.1,iL p.1 p.2)):=cc.perm (iU aK eg.o (λk v=>iL k v) (s,t) ((H,⟨l,lv,a⟩),hy D a.length E));have a4:∀q,A q->q<z.heap.size:=bO.lt;have gx:=a5.size;have cs:jl (restF (λq=>A q∨(z.heap.size<=q/\q<y.heap.size)) c (X j) (X mb) (X me)) R (X j) (insL ltRK d.vs (s,t) (H,⟨l,lv,a⟩)):=by
        have h9:=a4 j (L.f1 j rfl);refine jl.ins e8.o e9.o L.o.ok.ok.vs (λq g=>N.block q (λe=>g.2.2.1 (by rw [e]))) (by rw [N.size];exact hC _) (λq g=>⟨.inl g.1,g.2⟩) (eq.o.kept (λq I _=>N.block q (by omega))) (by rw [N.size,cx];exact hC _) (λq I h2=>⟨.inr ⟨I,h2⟩,?_,λe=>?_,λe=>?_,λe=>?_⟩) cb
        · have:=a4 c L.o.fc;omega
        · injection e with e;omega
        · injection e with e;have:=a4 mb (L.o.f2 mb rfl);omega
        · injection e with e;have:=a4 me (L.o.f3 me rfl);omega
       have hF:=L.o.put1 (G:=λq=>A q∨(z.heap.size<=q/\q<y.heap.size)) N (λq g=> .inl g) (λq g=>by rw [cx];rcases g with g|g;have:=a4 q g;omega;exact g.2) cs ds.o;have c3:R.cell? ⟨c,3,Y⟩=X kn:=(N.cell (p:=⟨c,3,Y⟩) bb).trans ((aa L.blk 3).trans rfl);have f3:R.frozen? ⟨c,3,Y⟩=false:=(N.frozen (p:=⟨c,3,Y⟩) bb).trans (ab L.blk 3);have HF:=Z hF;have e6:=Z N;clear hF c4 b8 a8 cc cb cm cg ce cq cl c9 N bk bs cs;refine Dl 13 ?_;go_wp2_with fail
       go_ret;rw [dc.o];refine ⟨rfl,_,⟨_,_,_,_,HF.o⟩,?_⟩;have f9:ag F w F w6:=ag.of_below da.o;have fl:ag F w A y:=(f9.trans c0.o).trans (ag.of_below a5.o);have fp:ag F w A u:=fl.own e7.o (hC _);have fr:ag A u A R:=ag.of_only e6.o (L.f1 j rfl);have ft:ag A R A (R.setCell ⟨c,3,Y⟩ (fs Y)):=ag.of_only (ar.setCell (ar.refl c R) 3 _) L.fc;refine ((fp.trans fr).trans ft).more λq g=>?_;rcases g with g|g
       · exact .inl g
       · exact .inr (by omega)
     · have ej:=Z hx;have cu:(au==0)=false:=by simpa using hx
       go_wp2_with fail
       go_ret;rw [ad.o,if_neg ej.o];exact ⟨rfl,F,⟨_,_,_,_,ao.below O⟩,ag.of_below (btr a6.o O a6.size)⟩
   · have gO:(H==n)=false:=by simpa using hnn
     rw [decide_eq_false hnn,Bool.false_and] at bv;have HN:Hid (∀W,Calls prog 56 #[hz th,hz false,J U H,J U n,J U d7] W λe w'=>e=hb (J U au)/\W=w'):=λW=>by rw [bv.o];exact gA _ _ _ _ _ W
     have O:=a2;go_wp2_with fail
     refine Wb M 23 ?_;refine Qb [0,1,3,13,15,17,2,4,14,16,18,5,19,6,20] a2 fy ?_;refine tf 7 rfl a2 ?_;(try go_simp)
     refine tf 9 rfl a2 ?_;(try go_simp)
     refine tf 8 rfl a2 ?_;(try go_simp)
     refine tf 10 rfl a2 ?_;(try go_simp)
     refine tf 11 rfl a2 ?_;(try go_simp)
     refine Qa [12] a2 ?_
     have f6:=λty=>dy M.drew ty a2;refine Ds 21 a2 ?_;refine Dp 22 λK b=>?_;go_simp;go_at_call 56;refine (HN _).mono ?_;rintro e w9 ⟨rfl,rfl⟩;refine b _ _ (λ_=>a2) ?_;clear b K;refine Dl 23 ?_;obtain ⟨w6,gn⟩:=Qe M.drew;rw [gn] at O ⊢;clear f6 gn;by_cases hx:au=0
     · subst hx;have dc:Hid (putC d (s,t) n ⟨l,lv,a⟩=({d with vs:=insL ltRK d.vs (s,t) (n,⟨l,lv,a⟩)},0)):=by unfold Hid;rw [ad.o,if_pos rfl]
       have ds:Hid (aZ {d with vs:=insL ltRK d.vs (s,t) (n,⟨l,lv,a⟩)}):=bt rfl;have e0:=Z (ao.below O);have ay:=Z ((O.block _ (ae d0.o)).trans d0.o);have e2:Hid (ai lo hi w6 (hy P a.length Q) a):=e1.o.kept (λq _ h=>O.block q (by have:=al.o.2;omega));have da:Hid (Bw w w6):=btr a6.o O a6.size;have bB:Hid (hi<=w6.heap.size):=by have:=al.o.2;have:=O.size;unfold Hid;omega
       have cd:¬F w.heap.size:=λhf=>by have:=fz.o _ hf;omega
       have d8:Hid (Calls prog 57 #[fs (X ⟨c,0,Y⟩)] w6 λe z=>e=hb (.tuple #[])/\∃A j mb me,Hid (dP A z c (X j) (X mb) (X me) kn d)/\Hid (ag F w6 A z)/\Hid (z.heap[w.heap.size]? =X (fn #[J U s,J U t,J U n,J hu l.toNat,J hu lv.toNat,hy P a.length Q] 64 (0,0)))/\
        Hid (Calls prog 60 #[.agg #[J hu l.toNat,J hu lv.toNat,hy P a.length Q]] z λe y=>∃D E,e=hb (.agg #[J hu l.toNat,J hu lv.toNat,hy D a.length E])/\Hid (ai z.heap.size y.heap.size y (hy D a.length E) a)/\Hid (Bw z y)/\
         y.cell? ⟨w.heap.size,3,Y⟩=X (J hu l.toNat)/\y.cell? ⟨w.heap.size,4,Y⟩=X (J hu lv.toNat)/\y.cell? ⟨w.heap.size,5,Y⟩=X (hy P a.length Q)/\y.frozen? ⟨w.heap.size,3,Y⟩=false/\y.frozen? ⟨w.heap.size,4,Y⟩=false/\y.frozen? ⟨w.heap.size,5,Y⟩=false)/\
        z.cell? ⟨w.heap.size,3,Y⟩=X (J hu l.toNat)/\z.cell? ⟨w.heap.size,4,Y⟩=X (J hu lv.toNat)/\z.cell? ⟨w.heap.size,5,Y⟩=X (hy P a.length Q)):=by
        refine (gJ e0.o).mono ?_
        rintro e z ⟨he,A,j,mb,me,hM,V⟩
        have a7:=(V.block _ (ae ay.o) cd).trans ay.o
        have es:ai lo hi z (hy P a.length Q) a:=e2.o.kept (λq I h=>V.block q (by have:=bB.o;omega) (g0.o q I h))
        obtain ⟨_,_,_,b3,b4,b5⟩:=km a7
        refine ⟨he,A,j,mb,me,hM,V,a7,?_,b3,b4,b5⟩
        refine (xe (.agg #[J hu l.toNat,J hu lv.toNat,hy P a.length Q]) ⟨l,lv,a⟩ z ⟨_,rfl,es.mono (hG _) (Nat.le_trans bB.o V.size)⟩ f0 dk.o).mono ?_
        rintro e y ⟨v',he,⟨x2,hv,cv⟩,c7⟩
        obtain ⟨D,E,rfl⟩:=cv.shape
        have a0:=(c7.block _ (ae a7)).trans a7
        obtain ⟨_,_,_,b3,b4,b5⟩:=km a0
        exact ⟨D,E,by rw [he,hv];rfl,cv,c7,b3,b4,b5,ab a0 3,ab a0 4,ab a0 5⟩
       go_wp2_with (first
        |(go_at_call 57;((with_reducible refine hJ d8.o ?_);rintro e z ⟨rfl,A,j,mb,me,bO,c0,aC,bY,b3,b4,b5⟩))
        |(go_at_call 60;((with_reducible refine hJ bY.o ?_);rintro e y ⟨D,E,rfl,em,a5,e3,e4,e5,f3,f4,f5⟩)))
       obtain ⟨u,a9⟩:=Qe (((y.setCell ⟨w.heap.size,3,Y⟩ (J hu l.toNat)).setCell ⟨w.heap.size,4,Y⟩ (J hu lv.toNat)).setCell ⟨w.heap.size,5,Y⟩ (hy D a.length E));have a0:=(a5.block _ (ae aC.o)).trans aC.o;have b7:u.heap[w.heap.size]? =X (fn #[J U s,J U t,J U n,J hu l.toNat,J hu lv.toNat,hy D a.length E] 64 (0,0)):=by rw [<- a9];exact am (am (am a0 3 (J hu l.toNat)) 4 (J hu lv.toNat)) 5 (hy D a.length E)
       have a3:ar w.heap.size y u:=by rw [<- a9];exact (((ar.refl _ y).setCell 3 _).setCell 4 _).setCell 5 _
       have f8:¬A w.heap.size:=c0.not (ae ay.o) cd;have a1:dP A u c (X j) (X mb) (X me) kn d:=(bO.o.below a5.o).step (λq g=>a3.block q (λe=>f8 (e ▸ g))) (by rw [a3.size];exact hC _);have gy:w.heap.size<z.heap.size:=ae aC.o;have c6:ai z.heap.size y.heap.size u (hy D a.length E) a:=em.o.kept (λq I _=>a3.block q (by omega));have cx:u.heap.size=y.heap.size:=a3.size;rw [a9];clear a9 a0 e3 e4 e5 f3 f4 f5 b3 b4 b5 bY;obtain ⟨ps,q1,q2,q3⟩:=a1.vs;have cp:aw ltRK ps:=by have hs:=a1.ok.ok.vs;rw [<- q1] at hs;unfold aw at hs ⊢;rw [hI] at hs;exact hs
       have hc:ps.length<=5000:=by have:=a1.ok.vlen;rw [<- q1] at this;simpa using this
       have ac:ak recB u j (ps.map λp=>(p.1,iL p.1 p.2)):=q2;obtain ⟨st,c2,c1,cl,c9,ce,cq⟩:=ak.entry (w:=u.drew) (ak.drew ac) gC underlying113 kI (s,t) hk (by rw [hK];unfold maxLen;omega);have bb:c≠j:=λe=>(aj ac a1.blk) e.symm;have er:w.heap.size≠j:=λe=>(aj ac b7) e.symm;have aS:Hid (∀W,ar j u W->W.cell? ⟨c,0,Y⟩=X (hA (X j))/\W.cell? ⟨w.heap.size,0,Y⟩=X (J U s)/\W.cell? ⟨w.heap.size,1,Y⟩=X (J U t)/\W.cell? ⟨w.heap.size,2,Y⟩=X (J U n)/\W.cell? ⟨w.heap.size,3,Y⟩=X (J hu l.toNat)/\W.cell? ⟨w.heap.size,4,Y⟩=X (J hu lv.toNat)/\W.cell? ⟨w.heap.size,5,Y⟩=X (hy D a.length E)):=λW ho=>by obtain ⟨p0,p1,p2,p3,p4,p5⟩:=km ((ho.block _ er).trans b7);exact ⟨(aa ((ho.block c bb).trans a1.blk) 0).trans rfl,p0,p1,p2,p3,p4,p5⟩
       have bk:ar j u u.drew:=(ar.refl j u).drew;have c4:=aS _ bk;have L:=Z a1;have e8:=Z q1;have e9:=Z q3;have eg:=Z cp;have eq:=Z c6;have e7:=Z a3;clear a1 b7 q1 q2 q3 cp c6 a3 ac;refine wT (λW=>W.cell? ⟨c,0,Y⟩=X (hA (X j))/\W.cell? ⟨w.heap.size,0,Y⟩=X (J U s)/\W.cell? ⟨w.heap.size,1,Y⟩=X (J U t)/\W.cell? ⟨w.heap.size,2,Y⟩=X (J U n)/\W.cell? ⟨w.heap.size,3,Y⟩=X (J hu l.toNat)/\W.cell? ⟨w.heap.size,4,Y⟩=X (J hu lv.toNat)/\W.cell? ⟨w.heap.size,5,Y⟩=X (hy D a.length E)) 13 ?_;refine Qb [0,4,6,7,1,5,2,3] c4 (λw' h=>h) ?_;refine Dp 8 λK b=>?_;refine bo rfl cl ?_;have bs:ar j u (hD u.drew j (.map c2 c1)):=bk.trans ce;have b8:=aS _ bs;generalize hD u.drew j (.map c2 c1)=w4 at *;refine b _ _ (λ_=>b8) ?_;clear b K;go_simp;refine Qb [9] b8 (λw' h=>h) ?_
       refine Dp 10 λK b=>?_;obtain ⟨R,cm,cc,cg⟩:=cq w4 (.agg #[J U s,J U t,J U n,J hu l.toNat,J hu lv.toNat,hy D a.length E]) c9;refine aW rfl cm ?_;have N:ar j u R:=bs.trans cg;have a8:=aS _ N;refine b _ _ (λ_=>a8) ?_;clear b K;go_simp;refine Ds 11 a8 ?_;refine Qb [12] a8 (λw' h=>h) ?_
       have cb:ak recB R j ((insL ltRK ps (s,t) ((n,⟨l,lv,a⟩),hy D a.length E)).map λp=>(p.1,iL p.1 p.2)):=cc.perm (iU aK eg.o (λk v=>iL k v) (s,t) ((n,⟨l,lv,a⟩),hy D a.length E));have a4:∀q,A q->q<z.heap.size:=bO.lt;have gx:=a5.size;have cs:jl (restF (λq=>A q∨(z.heap.size<=q/\q<y.heap.size)) c (X j) (X mb) (X me)) R (X j) (insL ltRK d.vs (s,t) (n,⟨l,lv,a⟩)):=by
        have h9:=a4 j (L.f1 j rfl);refine jl.ins e8.o e9.o L.o.ok.ok.vs (λq g=>N.block q (λe=>g.2.2.1 (by rw [e]))) (by rw [N.size];exact hC _) (λq g=>⟨.inl g.1,g.2⟩) (eq.o.kept (λq I _=>N.block q (by omega))) (by rw [N.size,cx];exact hC _) (λq I h2=>⟨.inr ⟨I,h2⟩,?_,λe=>?_,λe=>?_,λe=>?_⟩) cb
        · have:=a4 c L.o.fc;omega
        · injection e with e;omega
        · injection e with e;have:=a4 mb (L.o.f2 mb rfl);omega
        · injection e with e;have:=a4 me (L.o.f3 me rfl);omega
       have hF:=L.o.put1 (G:=λq=>A q∨(z.heap.size<=q/\q<y.heap.size)) N (λq g=> .inl g) (λq g=>by rw [cx];rcases g with g|g;have:=a4 q g;omega;exact g.2) cs ds.o;have c3:R.cell? ⟨c,3,Y⟩=X kn:=(N.cell (p:=⟨c,3,Y⟩) bb).trans ((aa L.blk 3).trans rfl);have f3:R.frozen? ⟨c,3,Y⟩=false:=(N.frozen (p:=⟨c,3,Y⟩) bb).trans (ab L.blk 3);have HF:=Z hF;have e6:=Z N;clear hF c4 b8 a8 cc cb cm cg ce cq cl c9 N bk bs cs;refine Dl 13 ?_;go_wp2_with fail
       go_ret;rw [dc.o];refine ⟨rfl,_,⟨_,_,_,_,HF.o⟩,?_⟩;have f9:ag F w F w6:=ag.of_below da.o;have fl:ag F w A y:=(f9.trans c0.o).trans (ag.of_below a5.o);have fp:ag F w A u:=fl.own e7.o (hC _);have fr:ag A u A R:=ag.of_only e6.o (L.f1 j rfl);have ft:ag A R A (R.setCell ⟨c,3,Y⟩ (fs Y)):=ag.of_only (ar.setCell (ar.refl c R) 3 _) L.fc;refine ((fp.trans fr).trans ft).more λq g=>?_;rcases g with g|g
       · exact .inl g
       · exact .inr (by omega)
     · have ej:=Z hx;have cu:(au==0)=false:=by simpa using hx
       go_wp2_with fail
       go_ret;rw [ad.o,if_neg ej.o];exact ⟨rfl,F,⟨_,_,_,_,ao.below O⟩,ag.of_below (btr a6.o O a6.size)⟩
 · rw [decide_eq_false hr] at HR;have HE:=Z (dd hr);clear ad dd bt b6 hr;go_enter func29,ntmps29;go_wp2_with (go_at_call 58;((with_reducible refine hJ (HR.o _ (hH _ _)) ?_);rintro e B ⟨rfl,ax⟩))
   go_ret;rw [HE.o];exact ⟨rfl,F,⟨_,_,_,_,HM.below ax⟩,ag.of_below (btr cQ.o ax cQ.size)⟩
theorem vv (a b:Int) (n:Int) (k l:Int) (x:hS) (w:hP):(Instr.field 64 (.agg #[J U a,J U b,J U n,J hu k,J hu l,x]) 1).run prog w= .ok (J U n) w:=by kernel_rfl
theorem vu (a b:Int) (n:Int) (k l:Int) (o:Option Addr) (m c:Nat) (w:hP):(Instr.field 64 (.agg #[J U a,J U b,J U n,J hu k,J hu l,hy o m c]) 2).run prog w= .ok (.agg #[J hu k,J hu l,hy o m c]) w:=by kernel_rfl
theorem sU (a:Int) (j:Bool) (w:hP):(Instr.field 139 (.agg #[J U a,hz j]) 1).run prog w= .ok (hz j) w:=by kernel_rfl
def inC (d:aq) (p:RK×(Int×az)):Bool:=match findK d.ds p.1 with
 |some n=>decide (n<=p.2.1)
 |none=>true
theorem pF (d:aq):thereC d=d.vs.filter (inC d):=rfl
theorem tQ (l:List RK):∀u∈l.flatMap rkCells,u.oneCell'=true:=by
 intro u a;obtain ⟨p,b,a⟩:=List.mem_flatMap.1 a;simp only [rkCells,List.mem_cons,List.not_mem_nil,or_false] at a;rcases a with rfl|rfl<;>rfl
theorem oq (l:List RK):(l.flatMap rkCells).length=l.length * 2:=by
 induction l with
 |nil=>rfl
 |cons p ps ih=>rw [List.flatMap_cons,List.length_append,ih];simp [rkCells];omega
theorem j8 (w:hP) (o:Obj) (x y:hS) (t:TypeId):∀j v,[x,y][j]? =X v->((w.alloc o).alloc (fn #[x,y] t)).drew.drew.cell? ((⟨w.heap.size+1,0,Y⟩:Addr).add j)=X v:=by
 have h:=cell_two_new (w.alloc o) x y t;rw [World.size_alloc] at h;exact h
theorem m8 {w:hP} {B e k n:Nat} {v:hS} {a:List hS} (h:w.ownsRow B e k v n a):w.drew.drew.ownsRow B e k v n a:=h
theorem tP {w:hP} {B e k n:Nat} {v:hS} {b:List hS} {o a:Obj} (h:w.ownsRow B e k v n b):((w.alloc o).alloc a).ownsRow B e k v n b:=(h.alloc o).alloc a
theorem wy (F:Nat->Prop) (w:hP) (c:Nat) (z m2 m3:Option Nat) (kn:hS) (d:aq) (h:dP F w c z m2 m3 kn d):
 Calls prog 77 #[fs (X ⟨c,0,Y⟩)] w λe w'=>∃v,e=hb v/\w'.ownsRow w.heap.size 36 2 v ((thereC d).map (·.1)).length (((thereC d).map (·.1)).flatMap rkCells)/\Bw w w':=by
 obtain ⟨ps,O,q2,q3⟩:=h.vs;have b3:cO ltRK (ps.map (·.1))=d.vs.map (·.1):=by rw [<- O,List.map_map];refine ca aK (.refl _) ?_;have y:=h.ok.ok.vs;rw [<- O] at y;unfold aw at y;rw [hI] at y ⊢;exact y
 have a6:ps.length=d.vs.length:=by rw [<- O];simp
 have c1:=h.ok.vlen;have HK:=Z (zk z w);have a3:Bw w (w.alloc (fn #[.map z] 113)):=(hH _ w).alloc (hC _) _;have a8:=uZ 8 (by omega) w.heap.size z (ps.map λp=>(p.1,iL p.1 p.2)) (w.alloc (fn #[.map z] 113)) (by rw [World.cell?_alloc_new];rfl) (q2.block (λb L=>a3.block b (h.lt b (h.f1 b L)))) (λb L=>by have:=h.lt b (h.f1 b L);simp;omega);have b5:(ps.map λp=>(p.1,iL p.1 p.2)).map (·.1)=ps.map (·.1):=by rw [List.map_map];rfl
 rw [b5] at a8;have P:=Z (js 10 (by omega) 108 #[fs (X ⟨w.heap.size,0,Y⟩)] (enters_of func108 (by kernel_rfl) rfl) (ps.map (·.1)) (by simp;omega) _ _ (λcg x hx=>by have:=hx.1;simp at this;omega) _ a8);rw [b3] at P;have a5:(ps.map (·.1)).length=(d.vs.map (·.1)).length:=by simp [a6]
 rw [a5] at P;have c0:w.cell? ⟨c,0,Y⟩=X (.map z):=(aa h.blk 0).trans rfl;have I:=Z h;have ao:=Z a3;have ay:=Z O;have bw:=Z q2;have bA:=Z q3;have bv:=Z a6;have bs:(w.alloc (fn #[.map z] 113)).heap.size=w.heap.size+1:=by simp
 have c3:=Z bs;clear a8 b5 b3 a5 h a3 O q2 q3 a6 bs;obtain ⟨i0,hi,bb,bc,bk⟩:=info_parts i36;have HI:=Z hi;have au:=Z bb;have av:=Z bc;have ax:=Z bk;clear hi bb bc bk;obtain ⟨s,R⟩:=Qe (d.vs.map (·.1));rw [R] at P;have a5:s.length<=5000:=by rw [<- R];simpa using c1
 have a1:=Z R;clear R;go_enter func77,ntmps77
 go_wp2_with (first
  |(go_at_call 61;((with_reducible refine hJ HK.o ?_);rintro e w1 ⟨rfl,rfl⟩))
  |(go_at_call 47;((with_reducible refine hJ P.o ?_);rintro e C ⟨v,rfl,a7,b1⟩;obtain ⟨va,vc,rfl⟩:=aM a7;have bB:=Z a7;have bt:=Z b1;clear a7 b1)))
 have aS:Bw w C:=ao.trans (bt.mono ao.size);have A:=Z aS;clear aS;go_loopw [3,5,6,7,15] (λc2 _p _a _b i wr=>∃(k:Nat) (G:Option Addr) (H:Nat) (g:List RK),k<=s.length/\i=J U k/\Hid (g=((d.vs.take k).filter (inC d)).map (·.1))/\c2=hy G g.length H/\Hid (wr.ownsRow (C.heap.size) 36 2 (hy G g.length H) g.length (g.flatMap rkCells))/\Hid (Bw C wr)) (λ_ _ _ _ i _=>s.length - (intOf i).toNat)
 case atStart=>exact ⟨0,Y,0,[],hG _,rfl,rfl,rfl,World.ownsRow_nil _ _ _ _,hH _ _⟩
 case round=>
  obtain ⟨k,G,H,g,hk,rfl,K,rfl,E,t⟩:=hrel;by_cases hlt:k<s.length
  · have a9:k<d.vs.length:=by rw [<- a1.o] at hlt;simpa using hlt
    have cd:k<ps.length:=by rw [bv.o];exact a9
    have aC:=Z ((bf bB.o).kept (w':=wr) (λq _ hq=>t.block q hq));have b7:eh 0 C.heap.size wr (hy va s.length vc) s:=aC.mono (hG _) (hC _);obtain ⟨b,ce,c4,he,_,c7,e0,e1⟩:=b7.one k hlt;cases he;have Q:Hid (d.vs.take (k+1)=d.vs.take k++[d.vs[k]]):=List.take_succ_eq_append_getElem a9;have b4:s[k]=d.vs[k].1:=by simp [<- a1.o]
    have B:=I.below (A.trans (t.mono A.size));obtain ⟨p,hp⟩:=Qe (d.vs[k]);have V:p∈d.vs:=by rw [<- hp];exact List.getElem_mem a9
    rw [hp] at Q b4;obtain ⟨⟨a,f⟩,n,r⟩:=p;have b6:rkOk (a,f):=I.ok.vkey _ V;rw [b4] at e0 e1;dsimp only at e0 e1;have M:∃x,findK ps (a,f)=X ((n,r),x):=by
     rw [<- ay.o] at V;obtain ⟨q,hq,he⟩:=List.mem_map.1 V;obtain ⟨qk,qv,qx⟩:=q;injection he with h1 h2
     dsimp only at h1 h2;subst h1;subst h2;have y:=I.ok.ok.vs;rw [<- ay.o] at y;unfold aw at y;rw [hI] at y;exact ⟨qx,(cR aK (l:=ps) y).2 hq⟩
    obtain ⟨x,M⟩:=M;obtain ⟨_,_,b2,_,_⟩:=bA _ (ue M);obtain ⟨xa,xc,b9⟩:=b2.shape;dsimp only at b9;subst b9;clear b2;have b0:∀W,Bw wr W->(hO 113 (.map z) (.agg #[J U a,J U f]) false).run prog W= .ok (.agg #[J U a,J U f,J U n,J hu r.kind.toNat,J hu r.level.toNat,hy xa r.fields.length xc]) W:=λW hW=>by have bY:Bw w W:=(A.o.trans (t.o.mono A.o.size)).trans (hW.mono (by have:=A.o.size;have:=t.o.size;omega));have:=cj.look (w:=W) (bw.block (λb L=>bY.block b (I.lt b (I.f1 b L)))) underlying113 kI (a,f) b6;rw [fJ,M] at this;exact this
    have aT:∀W,Bw wr W->(hO 114 (.map m2) (.agg #[J U a,J U f]) true).run prog W= .ok (.tuple #[J U ((findK d.ds (a,f)).getD 0),hz (findK d.ds (a,f)).isSome]) W:=λW hW=>by have:=cj.look_ok (w:=W) ((B.below hW).ds) underlying114 wb (a,f) b6;rw [fe d.ds (λn=>Value.int U n)] at this;refine Eq.trans this ?_;cases findK d.ds (a,f)<;>rfl
    have b8:∀o,Bw wr (wr.alloc o).drew:=λo=>((hH _ wr).alloc (hC _) o).drew;have T:=λo=>aT _ (b8 o);have cb:=λo=>b0 _ (b8 o).drew;have c9:=λW=>vv a f n r.kind.toNat r.level.toNat (hy xa r.fields.length xc) W;have c6:∀o,(wr.alloc o).cell? ⟨c,1,Y⟩=X (.map m2):=λo=>by rw [aU _ _ _ _ (B.lt c B.fc)];exact (aa B.blk 1).trans rfl
    have c5:∀o,(wr.alloc o).cell? ⟨c,0,Y⟩=X (.map z):=λo=>by rw [aU _ _ _ _ (B.lt c B.fc)];exact (aa B.blk 0).trans rfl
    have cc:g.length<=5000:=by rw [K.o,hK];have:=List.length_filter_le (inC d) (d.vs.take k);rw [List.length_take] at this;omega
    have ac:=t.size;clear b0 aT M B b7 aC V hp;have u:Hid (inC d ((a,f),n,r)=match findK d.ds (a,f) with |some m=>decide (m<=n)|none=>true):=rfl;cases hf:findK d.ds (a,f) with
    |none=>
     rw [hf] at T u;dsimp only at u;simp only [hY,hV] at T;clear hf;go_wp2_with fail
     go_region;go_wp2_with fail
     go_region;go_wp2_with (at_builtin;refine wpList_append_own_at _ rfl _ _ 52 rfl C.heap.size 36 i0 (.agg #[J U 0,J U 0]) 2 16 underlying52 HI.o au.o av.o ax.o rfl (by decide) (hy G g.length H) _ _ rfl (m8 (tP E.o)) ⟨wr.heap.size+1,0,Y⟩ 1 1 [J U a,J U f] rfl rfl (j8 _ _ _ _ _) (by simp [Value.oneCell']) (by unfold maxLen;omega) (by omega) (by simp;omega) ?_;intro v' w5 D N _ bO;obtain ⟨ad,al,rfl⟩:=bF D;have a2:=Z D;have a0:=Z N;clear D N)
     go_roundw
     case rel=>
      refine ⟨k+1,ad,al,g++[(a,f)],by omega,by go_num,?_,by simp,?_,?_⟩
      · unfold Hid;rw [Q.o,hN,hQ,K.o];simp [u.o]
      · have:=a2.o;exact Z (by simpa [rkCells] using this)
      · have a4:Bw C ((wr.alloc (fn #[J U a,J U f] 36)).alloc (fn #[J U a,J U f] 36)).drew.drew:=(((t.o.alloc ac _).alloc (by simp;omega) _).drew).drew;exact a4.grown a0.o (by simp;omega) (λj hj=>(E.o.lt j hj).1)
     case measure=>simp [intOf];omega
    |some m=>
     rw [hf] at T u;dsimp only at u;simp only [Option.getD_some,Option.isSome_some] at T;clear hf;by_cases hmn:m<=n
     · rw [decide_eq_true hmn] at u;go_wp2_with fail
       go_region;go_wp2_with fail
       go_region;go_wp2_with (at_builtin;refine wpList_append_own_at _ rfl _ _ 52 rfl C.heap.size 36 i0 (.agg #[J U 0,J U 0]) 2 16 underlying52 HI.o au.o av.o ax.o rfl (by decide) (hy G g.length H) _ _ rfl (m8 (tP E.o)) ⟨wr.heap.size+1,0,Y⟩ 1 1 [J U a,J U f] rfl rfl (j8 _ _ _ _ _) (by simp [Value.oneCell']) (by unfold maxLen;omega) (by omega) (by simp;omega) ?_;intro v' w5 D N _ bO;obtain ⟨ad,al,rfl⟩:=bF D;have a2:=Z D;have a0:=Z N;clear D N)
       go_roundw
       case rel=>
        refine ⟨k+1,ad,al,g++[(a,f)],by omega,by go_num,?_,by simp,?_,?_⟩
        · unfold Hid;rw [Q.o,hN,hQ,K.o];simp [u.o]
        · have:=a2.o;exact Z (by simpa [rkCells] using this)
        · have a4:Bw C ((wr.alloc (fn #[J U a,J U f] 36)).alloc (fn #[J U a,J U f] 36)).drew.drew:=(((t.o.alloc ac _).alloc (by simp;omega) _).drew).drew;exact a4.grown a0.o (by simp;omega) (λj hj=>(E.o.lt j hj).1)
       case measure=>simp [intOf];omega
     · rw [decide_eq_false hmn] at u;go_wp2_with fail
       go_region;go_wp2_with fail
       go_region;go_wp2_with fail
       go_roundw
       case rel=> refine ⟨k+1,G,H,g,by omega,by go_num,?_,rfl,(E.o.alloc _),(t.o.alloc ac _).drew.drew⟩;unfold Hid;rw [Q.o,hN,hQ,K.o];simp [u.o]
       case measure=>simp [intOf];omega
  · have HE:Hid (g=(thereC d).map (·.1)):=by
     unfold Hid
     rw [K.o,pF,List.take_of_length_le (by have:s.length=d.vs.length:=by rw [<- a1.o];simp
                                           omega)]
    go_wp2_with fail
    go_ret;rw [<- HE.o];exact ⟨_,rfl,bu E.o A.size,A.trans (t.mono A.size)⟩
end
end Go.Proofs.YtjcimanddakkaaaGreatDoor
