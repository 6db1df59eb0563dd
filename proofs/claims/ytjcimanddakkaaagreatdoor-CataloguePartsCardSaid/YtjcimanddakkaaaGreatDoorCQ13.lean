/- Lemmas. -/
import Derived.Test.YtjcimanddakkaaaGreatDoorCQ9
import Derived.Test.YtjcimanddakkaaaGreatDoorCQ12
set_option maxRecDepth 100000
set_option maxHeartbeats 8000000
namespace Go.Proofs.YtjcimanddakkaaaGreatDoor
open _root_.Option renaming some→X,none→Y
open Go.Obj renaming cells→fn
open Go.Value renaming pointer→fs,int→J,slice→hh,bool→hj,map→hq
open Go.Ending renaming returned→h1
open Go.IntKind renaming i64→U,u8→hb
open Go.Lib renaming hid→Z
open Tryz
open _root_.Nat renaming le_refl→ht,zero_le→hy
open Go.ChangeMaps renaming setBlock→hu
open Go.Calls renaming mono→hz
open Go.RowKit.Below renaming refl→hA,heap_setCell→hC
open _root_.List renaming pairwise_map→hD,length_map→hG,find?_cons→hH
open Go.World renaming alloc_heap_new→hI,size_setCell→hJ
section
open Go.RowKit Go.Maps Go.Shelf
theorem m8{P:Program}{e:Region.Mode}{b:Array Oper}{Q:Exit->Act->World->Prop}{S:World->Prop}{z i:Nat}{o:Oper}{n:Nat}{d:Array Bool}{a:Act}{w:World}(q:b[i]?=X o)(g:Region.ready e b d=[i])(p:Region.wanted o (yielded b a.tmps)=true)
 (h:∀K:Act->World->Prop,(∀c w',(i≠z->S w')->anyT P e b Q S z n (d.setIfInBounds i true) c w'->K c w')->o.wp P a w K Q):anyT P e b Q S z (n+1) d a w:=by
 refine⟨λk=>absurd k (by rw[g];simp),λj f=>?_⟩;rw[g]at f;obtain rfl:j=i:=by simpa using f
 unfold wpOp;rw[q];simp only[p,if_true];exact .inl (h _ λc w' l m=>⟨l,m⟩)
theorem ll{w:World}{b t:Nat}{x y z u v q:Value}(h:w.heap[b]?=X (fn #[x,y,z,u,v,q] t (0,0))):w.cell? ⟨b,0,Y⟩=X x/\w.cell? ⟨b,1,Y⟩=X y/\w.cell? ⟨b,2,Y⟩=X z/\w.cell? ⟨b,3,Y⟩=X u/\w.cell? ⟨b,4,Y⟩=X v/\w.cell? ⟨b,5,Y⟩=X q:=
 ⟨(aa h 0).trans rfl,(aa h 1).trans rfl,(aa h 2).trans rfl,(aa h 3).trans rfl,(aa h 4).trans rfl,(aa h 5).trans rfl⟩
theorem ge{K V:Type}[DecidableEq K](l:List (K×V))(f:K->V->Value)(k:K):lookL (l.map λp=>(p.1,f p.1 p.2)) k=(findK l k).map (f k):=by
 induction l with
 |nil=>rfl
 |cons p l ih=>
  unfold findK at ih ⊢;rw[List.map_cons,dt,hH];by_cases h:p.1=k
  .rw[if_pos h];simp[h]
  rw[if_neg h,ih];simp[h]
theorem sj{K V W:Type}[DecidableEq K](l:List (K×(V×W)))(k:K):findK (l.map λp=>(p.1,p.2.1)) k=(findK l k).map (·.1):=by
 induction l with
 |nil=>rfl
 |cons p l ih=>
  unfold findK at ih ⊢;rw[List.map_cons,hH,hH];by_cases h:p.1=k
  .simp[h]
  simp only[h,decide_false];exact ih
theorem vD{K V:Type}[DecidableEq K]{l:List (K×V)}{k:K}{v:V}(h:findK l k=X v):(k,v)∈l:=by
 unfold findK at h;rw[Option.map_eq_some_iff]at h;obtain⟨p,b,rfl⟩:=h;have c:=List.mem_of_find?_eq_some b;have a:=List.find?_some b;simp at a;rw[<- a];exact c
def putX(d:ar)(k:RK)(n:Int)(r:aA):Int:=bg (findK d.vs k).isSome (decide (((findK d.vs k).getD (0,⟨0,0,[]⟩)).1=n)&&decide (((findK d.vs k).getD (0,⟨0,0,[]⟩)).2=r)) ((findK d.vs k).getD (0,⟨0,0,[]⟩)).1 n d.vs.length
theorem put_eq(d:ar)(k:RK)(n:Int)(r:aA)(a:wrongR r=0):putC d k n r=if putX d k n r=0 then({d with vs:=insL ltRK d.vs k (n,r)},0)else(d,putX d k n r):=by
 unfold putC putX;rw[if_neg (by simpa using a)];cases findK d.vs k with
 |none=>simp only[Option.isSome_none,Option.getD_none];rw[mr (decide (0=n)&&decide ((⟨0,0,[]⟩:aA)=r))]
 |some m=>rfl
theorem bi.put{d:ar}(h:bi d){k:RK}{n:Int}{r:aA}(b:rkOk k)(hn:i64B n)(c:wrongR r=0)(e:putX d k n r=0):bi {d with vs:=insL ltRK d.vs k (n,r)}:=by
 refine⟨⟨eP aW h.ok.vs _ _,h.ok.ds,h.ok.ps,h.ok.apart⟩,?_,h.dlen,h.plen,cR aW h.ok.vs h.right c,cR aW h.ok.vs h.vnum hn,h.dnum,h.pnum,cR aW h.ok.vs h.vkey b,h.dkey,h.pkey⟩;exact p9 aW h.ok.vs k (n,r) h.vlen λa=>fZ e a
theorem ek{r:aA}(h:wrongR r=0):r.fields.length<=1000000/\(∀f∈r.fields,f.subs.length<=1000000)/\bo r.fields:=by
 have a:=yz h;refine⟨by have:=a.many;omega,λf b=>?_,by have:=a.many;omega,λf b=>by have:=a.long f b;omega⟩;have c:=a.long f b;have d:=ci f;omega
theorem jM.ins{F G:Nat->Prop}{w a:World}{m:Nat}{k:RK}{n:Int}{r:aA}{x:Value}{lo b:Nat}{ps:List (RK×VX)}{d:VL}(e:ps.map (λp=>(p.1,p.2.1))=d)(f:∀p∈ps,dT F w p)(c:aB ltRK d)
 (i:∀q,F q->a.heap[q]?=w.heap[q]?)(u:w.heap.size<=a.heap.size)(g:∀q,F q->G q)(s:ag lo b a x r.fields)(h:b<=a.heap.size)(t:∀q,lo<=q->q<b->G q)(j:ak recB a m ((insL ltRK ps k ((n,r),x)).map λp=>(p.1,jo p.1 p.2))):
 jM G a (X m) (insL ltRK d k (n,r)):=by
 have o:aB ltRK ps:=by rw[<- e]at c;unfold aB at c ⊢;rw[hD]at c;exact c
 refine⟨insL ltRK ps k ((n,r),x),by rw[<- e];exact vz ltRK (λq:VX=>q.1) ps k ((n,r),x),j,?_⟩;refine cR aW o (λp l=>((f p l).step i u).wide g) ⟨lo,b,s,h,t⟩
theorem dU.put1{F:Nat->Prop}{w j:World}{c a b e:Nat}{E:Value}{d:ar}{G:Nat->Prop}{vs:VL}(h:dU F w c (X a) (X b) (X e) E d)(o:az a w j)(l:∀k,F k->G k)(z:∀k,G k->k<w.heap.size)
 (C:jM (restF G c (X a) (X b) (X e)) j (X a) vs)(A:bi {d with vs:=vs}):
 dU G (j.setCell ⟨c,3,Y⟩ (fs Y)) c (X a) (X b) (X e) (fs Y) {d with vs:=vs}:=by
 have v:c≠b:=λe=>(aj (show ak recB w b _ from h.ds) h.blk) e.symm;have s:c≠a:=λe=>by obtain⟨ps,_,i,_⟩:=h.vs;exact(aj (show ak recB w a _ from i) h.blk) e.symm
 have x:c≠e:=λp=>(aj (show ak pairB w e _ from h.ps) h.blk) p.symm;rcases h.one with⟨g,_⟩|⟨H,I,p,g,i,n,q,r,u⟩
 .cases g
 injection g with g;injection i with i;injection n with n
 subst g;subst i;subst n;have t:∀k,k≠c->k≠a->(j.setCell ⟨c,3,Y⟩ (fs Y)).heap[k]?=w.heap[k]?:=λk g i=>(hC _ _ _ _ g).trans (o.block k i);have D:(j.setCell ⟨c,3,Y⟩ (fs Y)).heap.size=w.heap.size:=by rw[hJ,o.size]
 refine⟨?_,C.step (λm f=>by injection f with f;subst f;exact hC _ _ _ _ (Ne.symm s)) (λk B=>hC _ _ _ _ B.2.1) (by rw[hJ];exact ht _),?_,?_,.inl rfl,l _ h.fc,λm f=>l _ (h.f1 m f),λm f=>l _ (h.f2 m f),λm f=>l _ (h.f3 m f),.inr ⟨a,b,e,rfl,rfl,rfl,q,r,u⟩,λk y=>by rw[D];exact z k y,A⟩
 .exact aq ((o.block c s).trans h.blk) 3 (fs Y)
 .exact ak.block (show ak recB w b _ from h.ds) (t b (Ne.symm v) (Ne.symm q))
 exact ak.block (show ak pairB w e _ from h.ps) (t e (Ne.symm x) (Ne.symm r))
theorem ah.own{F c:Nat->Prop}{w d e:World}{b:Nat}(s:ah F w c d)(a:az b d e)(g:w.heap.size<=b):ah F w c e:=
 ⟨a.os.trans s.os,a.tape.trans s.tape,a.output.trans s.output,by rw[a.size];exact s.size,λk f hn=>(a.block k (by omega)).trans (s.block k f hn),s.new⟩
theorem ah.more{F b G:Nat->Prop}{w w':World}(s:ah F w b w')(h:∀k,G k->b k∨w.heap.size<=k):ah F w G w':=
 ⟨s.os,s.tape,s.output,s.size,s.block,λk c=>by
  rcases h k c with a|a
  .exact s.new k a
  .exact .inr a⟩
theorem tQ(F:Nat->Prop)(w:World)(c:Nat)(d:ar)(h:bq F w c d)(k:RK)(n:Int)(r:aA)(x:Value)(hk:rkOk k)(hn:i64B n)(lo hi:Nat)(hx:ag lo hi w x r.fields)(g9:hi<=w.heap.size)(hF:∀q,lo<=q->q<hi->¬F q)(fp:bo r.fields):
 Calls prog 29 #[fs (X ⟨c,0,Y⟩),lc k n r x] w λe w'=>e=h1 (J U (putC d k n r).2)/\∃A,bq A w' c (putC d k n r).1/\ah F w A w':=by
 have ad:=Z (put_eq d k n r);have d9:Hid (wrongR r≠0->putC d k n r=(d,11)):=λhw=>by unfold putC;rw[if_pos hw]
 have bl:Hid (wrongR r=0->putX d k n r=0->bi {d with vs:=insL ltRK d.vs k (n,r)}):=by obtain⟨_,_,_,_,h⟩:=h;exactλhr hx=>h.ok.put hk hn hr hx
 have b6:Hid (putX d k n r=bg (findK d.vs k).isSome (decide (((findK d.vs k).getD (0,⟨0,0,[]⟩)).1=n)&&decide (((findK d.vs k).getD (0,⟨0,0,[]⟩)).2=r)) ((findK d.vs k).getD (0,⟨0,0,[]⟩)).1 n d.vs.length):=rfl;have fz:Hid (wrongR r=0->r.fields.length<=1000000/\(∀f∈r.fields,f.subs.length<=1000000)/\bo r.fields):=ek;obtain⟨m1,m2,m3,kn,h⟩:=h;obtain⟨P,Q,rfl⟩:=hx.shape;obtain⟨W1,er⟩:=Qe (w.alloc (fn #[J U k.1,J U k.2,J U n,J hb r.kind.toNat,J hb r.level.toNat,hh P r.fields.length Q] 64));have d2:Bw w W1:=by rw[<- er];exact(hA _ w).alloc (ht _) _
 have hB:W1.heap[w.heap.size]?=X (fn #[J U k.1,J U k.2,J U n,J hb r.kind.toNat,J hb r.level.toNat,hh P r.fields.length Q] 64 (0,0)):=by rw[<- er];exact hI w _
 have cP:Hid (W1.heap.size=w.heap.size+1):=by unfold Hid;rw[<- er];simp
 have cp:ag lo hi W1 (hh P r.fields.length Q) r.fields:=hx.kept (λq _ g=>d2.block q (by omega))
 have HR:Hid (∀W,Bw W1 W->Calls prog 58 #[.agg #[J hb r.kind.toNat,J hb r.level.toNat,hh P r.fields.length Q]] W λe w'=>e=h1 (hj (decide (wrongR r=0)))/\Bw W w'):=λW T=>
  yA r _ W ⟨_,rfl,(cp.kept (λq _ g=>T.block q (by have:=cP.o;omega))).mono (hy _) (by have:=T.size;have:=cP.o;omega)⟩ fp
 have HM:=Z (h.below d2);have g0:=Z cp;have HB:=Z hB;have cy:=Z d2;have ft:=Z h.lt;have dc:Hid (hi<=w.heap.size):=g9;have fx:=Z hF;obtain⟨s,t⟩:=k;obtain⟨l,lv,a⟩:=r;unfold lc;dsimp only at*;obtain⟨b0,b1,b2,b3,b4,b5⟩:=ll hB;clear h d2 hB hx cp g9 hF fp;by_cases hr:wrongR ⟨l,lv,a⟩=0;rotate_left
 .rw[decide_eq_false hr]at HR;have HE:=Z (d9 hr);clear ad d9 bl b6 hr;go_enter func29,ntmps29;go_wp2_with (go_at_call 58;(refine hz (HR.o _ (hA _ _)) ?_;rintro e B⟨rfl,ax⟩))
  go_ret;rw[HE.o];exact⟨rfl,F,⟨_,_,_,_,HM.below ax⟩,ah.of_below (btr cy.o ax cy.size)⟩
 rw[decide_eq_true hr]at HR;have fy:=Z hr;obtain⟨ex,g8,fp⟩:=fz hr;have da:=Z g8;clear hr fz d9 g8;have ad:=Z (ad fy.o);have bl:=Z (bl fy.o);go_enter func29,ntmps29;go_wp2_with (go_at_call 58;(refine hz (HR.o _ (hA _ _)) ?_;rintro e B⟨rfl,ax⟩))
 have aT:=Z (HM.below ax);have cQ:=(ax.block _ (ae HB.o)).trans HB.o;have d6:Hid (Bw w B):=btr cy.o ax cy.size;clear b0 b1 b2 b3 b4 b5 HR
 obtain⟨kk,H,r',x',th,dx,bs,cd,h9,ha⟩:∃(kk:RK)(H:Int)(r':aA)(x':Value)(th:Bool),Hid (∀W,(∀m,m1=X m->W.heap[m]?=B.heap[m]?)->(Instr.lookup 113 (.map m1) (.agg #[J U s,J U t]) true).run prog W=.ok (.tuple #[lc kk H r' x',hj th]) W)/\
  Hid (putX d (s,t) n ⟨l,lv,a⟩=bg th (decide (H=n)&&decide (r'=⟨l,lv,a⟩)) H n d.vs.length)/\(∃cu bc,ag cu bc B x' r'.fields/\bc<=B.heap.size)/\r'.fields.length<=1000000/\(∀f∈r'.fields,f.subs.length<=1000000):=by
  obtain⟨ps,q1,q2,q3⟩:=aT.vs
  have d3:∀W,(∀m,m1=X m->W.heap[m]?=B.heap[m]?)->(Instr.lookup 113 (.map m1) (.agg #[J U s,J U t]) true).run prog W=.ok (.tuple #[((findK ps (s,t)).map (jo (s,t))).getD (.agg #[J U 0,J U 0,J U 0,J hb 0,J hb 0,hh Y 0 0]),hj ((findK ps (s,t)).map (jo (s,t))).isSome]) W:=λW hW=>by
   have:=cw.look_ok (w:=W) (q2.block hW) underlying113 lH (s,t) hk
   rw[ge]at this
   exact this
  have gy:findK d.vs (s,t)=(findK ps (s,t)).map (·.1):=by rw[<- q1];exact sj ps (s,t)
  rw[gy]at b6
  cases hf:findK ps (s,t)with
  |none=>
   rw[hf]at d3 b6
   exact⟨(0,0),0,⟨0,0,[]⟩,hh Y 0 0,false,d3,b6,⟨0,0,⟨[],rfl,(by intro p hp;cases hp),Y,0,rfl,λh=>absurd rfl h⟩,hy _⟩,hy _,(by intro f hf;cases hf)⟩
  |some v=>
   rw[hf]at d3 b6
   obtain⟨⟨H,r'⟩,x'⟩:=v
   have hm:=vD hf
   obtain⟨cu,bc,g1,g2,_⟩:=q3 _ hm
   have gP:((s,t),(H,r'))∈d.vs:=by rw[<- q1];exact List.mem_map.2 ⟨_,hm,rfl⟩
   obtain⟨s1,s2,_⟩:=ek (aT.ok.right _ gP)
   exact⟨(s,t),H,r',x',true,d3,b6,⟨cu,bc,g1,g2⟩,s1,s2⟩
 obtain⟨cu,bc,cd,gz⟩:=cd;obtain⟨cv,cx,rfl⟩:=cd.shape;obtain⟨gf,gi⟩:=kk;obtain⟨bt,bv,av⟩:=r';unfold lc at dx;dsimp only at*;obtain⟨b0,b1,b2,b3,b4,b5⟩:=ll cQ;have V:B.drew.cell? ⟨c,0,Y⟩=X (.map m1)/\B.drew.cell? ⟨w.heap.size,0,Y⟩=X (J U s)/\B.drew.cell? ⟨w.heap.size,1,Y⟩=X (J U t)/\(∀m,m1=X m->B.drew.heap[m]?=B.heap[m]?):=⟨(aa aT.blk 0).trans rfl,b0,b1,λ_ _=>rfl⟩;have dk:Hid (∀W,Bw B W->W.cell? ⟨c,0,Y⟩=X (.map m1)/\W.cell? ⟨w.heap.size,0,Y⟩=X (J U s)/\W.cell? ⟨w.heap.size,1,Y⟩=X (J U t)/\(∀m,m1=X m->W.heap[m]?=B.heap[m]?)):=λW T=>⟨fM T _ _ V.1,fM T _ _ V.2.1,fM T _ _ V.2.2.1,λm hm=>T.block m (aT.lt m (aT.f1 m hm))⟩;clear b0 b1 b2 b3 b4 b5;refine wT (λW=>W.cell? ⟨c,0,Y⟩=X (.map m1)/\W.cell? ⟨w.heap.size,0,Y⟩=X (J U s)/\W.cell? ⟨w.heap.size,1,Y⟩=X (J U t)/\(∀m,m1=X m->W.heap[m]?=B.heap[m]?)) 12 ?_;refine Qb [0,4,1,5,2,3] V (λw' h=>h) ?_;refine tk 6 ?_ rfl V ?_ ?_;rotate_left;intro w' h;obtain⟨h0,I,h2,h3⟩:=h;have hl:=dx w' h3;go_simp;rfl;try go_simp
 refine Qb [7,8,9] V (λw' h=>h) ?_;refine Dp 10 λK b=>?_;go_simp;have g7:∀o,Bw B (B.drew.alloc o):=λo=>(hA _ B).drew.alloc (ht _) o;refine b _ _ (λ_=>dk _ (g7 _)) ?_;clear b K;refine Dp 11 λK b=>?_;go_simp;have es:∀o,Bw B (B.alloc o).drew:=λo=>((hA _ B).alloc (ht _) o).drew;refine b _ _ (λ_=>dk _ (es _)) ?_;clear b K;refine Dl 12 ?_;obtain⟨M,c2⟩:=Qe ((B.alloc (fn #[J U gf,J U gi,J U H,J hb bt.toNat,J hb bv.toNat,hh cv av.length cx] 64)).drew);have d1:M.heap[B.heap.size]?=X (fn #[J U gf,J U gi,J U H,J hb bt.toNat,J hb bv.toNat,hh cv av.length cx] 64 (0,0)):=by rw[<- c2];exact hI B _
 have b9:Bw B M:=by rw[<- c2];exact es _
 have hg:Hid (M.heap.size=B.heap.size+1):=by unfold Hid;rw[<- c2];show(B.alloc _).heap.size=_;simp
 have ao:=Z (aT.below b9);have d0:=(b9.block _ (ae cQ)).trans cQ;have a6:Hid (Bw w M):=btr d6.o b9 d6.size;have gp:Hid (ag cu bc M (hh cv av.length cx) av):=cd.kept (λq _ g=>b9.block q (by omega));have dz:Hid (ag lo hi M (hh P a.length Q) a):=g0.o.kept (λq _ g=>(b9.block q (by have:=ax.size;have:=cP.o;have:=dc.o;omega)).trans (ax.block q (by have:=cP.o;have:=dc.o;omega)));have al:Hid (bc<=M.heap.size/\hi<=M.heap.size):=by have:=a6.o.size;have:=dc.o;have:=b9.size;exact⟨by omega,by omega⟩
 rw[c2];clear V dk g7 es c2 b9 dx aT cQ d6 cd gz HM g0 HB
 have fr:Hid (∀W,Bw M W->W.cell? ⟨c,0,Y⟩=X (.map m1)/\(W.cell? ⟨w.heap.size,2,Y⟩=X (J U n)/\W.cell? ⟨w.heap.size,3,Y⟩=X (J hb l.toNat)/\W.cell? ⟨w.heap.size,4,Y⟩=X (J hb lv.toNat)/\W.cell? ⟨w.heap.size,5,Y⟩=X (hh P a.length Q))/\
  W.cell? ⟨B.heap.size,2,Y⟩=X (J U H)/\W.cell? ⟨B.heap.size,3,Y⟩=X (J hb bt.toNat)/\W.cell? ⟨B.heap.size,4,Y⟩=X (J hb bv.toNat)/\W.cell? ⟨B.heap.size,5,Y⟩=X (hh cv av.length cx)):=λW T=>by
  obtain⟨_,_,g2,g3,g4,g5⟩:=ll ((T.block _ (ae d0)).trans d0)
  obtain⟨_,_,f2,f3,f4,f5⟩:=ll ((T.block _ (ae d1)).trans d1)
  exact⟨(aa ((T.block c (ao.lt c ao.fc)).trans ao.blk) 0).trans rfl,⟨g2,g3,g4,g5⟩,f2,f3,f4,f5⟩
 have gb:∀W ty,Bw M W->(Builtin.len_ #[113] ty #[.map m1]).run prog W=.ok (J U d.vs.length) W:=λW ty T=>by obtain⟨ps,q1,q2,_⟩:=(ao.below T).vs;have:=cw.len q2 underlying113 ty;rw[hG,show ps.length=d.vs.length by rw[<- q1];simp]at this;exact this
 have ds:=Z gb;clear gb;have cz:=Z d0;have hc:=Z d1;clear d0 d1;have a2:Bw M M.drew:=(hA _ M).drew;obtain⟨au,g6⟩:=Qe (putX d (s,t) n ⟨l,lv,a⟩);rw[g6]at bs ad bl;obtain⟨d4,f0⟩:=Qe d.vs.length;rw[f0]at bs ds;have hd:=Z f0;clear g6 b6 f0;by_cases hnn:H=n
 .subst hnn;have gx:(H==H)=true:=by simp
  obtain⟨q,g⟩:=Qe (decide ((⟨bt,bv,av⟩:aA)=⟨l,lv,a⟩));have gn:Hid (∀W,Bw M W->Calls prog 59 #[.agg #[J hb bt.toNat,J hb bv.toNat,hh cv av.length cx],.agg #[J hb l.toNat,J hb lv.toNat,hh P a.length Q]] W λe w'=>e=h1 (hj q)/\Bw W w'):=λW T=>by rw[<- g];exact Al _ _ ⟨bt,bv,av⟩ ⟨l,lv,a⟩ W ⟨_,rfl,(gp.o.kept (λq _ h=>T.block q (by have:=al.o.1;omega))).mono (hy _) (by have:=al.o.1;have:=T.size;omega)⟩ ⟨_,rfl,(dz.o.kept (λq _ h=>T.block q (by have:=al.o.2;omega))).mono (hy _) (by have:=al.o.2;have:=T.size;omega)⟩ h9 ex ha da.o
  rw[decide_eq_true rfl,g,Bool.true_and]at bs;have HN:Hid (∀W,Calls prog 56 #[hj th,hj q,J U H,J U H,J U d4] W λe w'=>e=h1 (J U au)/\W=w'):=λW=>by rw[bs.o];exact gT _ _ _ _ _ W
  clear g;go_wp2_with fail;refine Wb M 23 ?_;refine Qb [0,1,3,13,15,17,2,4,14,16,18,5,19,6,20,7,9,8,10] a2 fr ?_;refine m8 (i:=11) rfl (by kernel_rfl) (by rfl) (λK b=>?_);go_simp;go_at_call 59;refine(gn _ a2).mono ?_;rintro e w6⟨rfl,gt⟩;have O:Bw M w6:=a2.trans gt;refine b _ _ (λ_=>O) ?_;clear b K;go_simp;refine Qa [12] O ?_
  have eQ:=λty=>ds w6 ty O;refine Ds 21 O ?_;refine Dp 22 λK b=>?_;go_simp;go_at_call 56;refine(HN _).mono ?_;rintro e w9⟨rfl,rfl⟩;refine b _ _ (λ_=>O) ?_;clear b K;refine Dl 23 ?_;clear eQ;by_cases hx:au=0;rotate_left
  .have e9:=Z hx;have cp:(au==0)=false:=by simpa using hx
   go_wp2_with fail;go_ret;rw[ad.o,if_neg e9.o];exact⟨rfl,F,⟨_,_,_,_,ao.below O⟩,ah.of_below (btr a6.o O a6.size)⟩
  subst hx;have d8:Hid (putC d (s,t) H ⟨l,lv,a⟩=({d with vs:=insL ltRK d.vs (s,t) (H,⟨l,lv,a⟩)},0)):=by unfold Hid;rw[ad.o,if_pos rfl]
  have dd:Hid (bi {d with vs:=insL ltRK d.vs (s,t) (H,⟨l,lv,a⟩)}):=bl rfl;have dy:=Z (ao.below O);have ay:=Z ((O.block _ (ae cz.o)).trans cz.o);have e0:Hid (ag lo hi w6 (hh P a.length Q) a):=dz.o.kept (λq _ h=>O.block q (by have:=al.o.2;omega));have d7:Hid (Bw w w6):=btr a6.o O a6.size;have bw:Hid (hi<=w6.heap.size):=by have:=al.o.2;have:=O.size;unfold Hid;omega
  have c9:¬F w.heap.size:=λhf=>by have:=ft.o _ hf;omega
  have d5:Hid (Calls prog 57 #[fs (X ⟨c,0,Y⟩)] w6 λe z=>e=h1 (.tuple #[])/\∃A j mb me,Hid (dU A z c (X j) (X mb) (X me) kn d)/\Hid (ah F w6 A z)/\Hid (z.heap[w.heap.size]?=X (fn #[J U s,J U t,J U H,J hb l.toNat,J hb lv.toNat,hh P a.length Q] 64 (0,0)))/\
   Hid (Calls prog 60 #[.agg #[J hb l.toNat,J hb lv.toNat,hh P a.length Q]] z λe y=>∃D E,e=h1 (.agg #[J hb l.toNat,J hb lv.toNat,hh D a.length E])/\Hid (ag z.heap.size y.heap.size y (hh D a.length E) a)/\Hid (Bw z y)/\
    y.cell? ⟨w.heap.size,3,Y⟩=X (J hb l.toNat)/\y.cell? ⟨w.heap.size,4,Y⟩=X (J hb lv.toNat)/\y.cell? ⟨w.heap.size,5,Y⟩=X (hh P a.length Q)/\y.frozen? ⟨w.heap.size,3,Y⟩=false/\y.frozen? ⟨w.heap.size,4,Y⟩=false/\y.frozen? ⟨w.heap.size,5,Y⟩=false)/\
   z.cell? ⟨w.heap.size,3,Y⟩=X (J hb l.toNat)/\z.cell? ⟨w.heap.size,4,Y⟩=X (J hb lv.toNat)/\z.cell? ⟨w.heap.size,5,Y⟩=X (hh P a.length Q)):=by
   refine(ie dy.o).mono ?_
   rintro e z⟨he,A,j,mb,me,hM,V⟩
   have a7:=(V.block _ (ae ay.o) c9).trans ay.o
   have eq:ag lo hi z (hh P a.length Q) a:=e0.o.kept (λq I h=>V.block q (by have:=bw.o;omega) (fx.o q I h))
   obtain⟨_,_,_,b3,b4,b5⟩:=ll a7
   refine⟨he,A,j,mb,me,hM,V,a7,?_,b3,b4,b5⟩
   refine(yM (.agg #[J hb l.toNat,J hb lv.toNat,hh P a.length Q]) ⟨l,lv,a⟩ z ⟨_,rfl,eq.mono (hy _) (Nat.le_trans bw.o V.size)⟩ ex da.o).mono ?_
   rintro e y⟨v',he,⟨x2,hv,cq⟩,c5⟩
   obtain⟨D,E,rfl⟩:=cq.shape
   have a0:=(c5.block _ (ae a7)).trans a7
   obtain⟨_,_,_,b3,b4,b5⟩:=ll a0
   exact⟨D,E,by rw[he,hv];rfl,cq,c5,b3,b4,b5,ab a0 3,ab a0 4,ab a0 5⟩
  go_wp2_with (first
   |(go_at_call 57;((with_reducible refine hz d5.o ?_);rintro e z⟨rfl,A,j,mb,me,bA,bO,aC,bB,b3,b4,b5⟩))
   |(go_at_call 60;((with_reducible refine hz bB.o ?_);rintro e y⟨D,E,rfl,eg,a5,e3,e4,e5,f3,f4,f5⟩)))
  obtain⟨u,a9⟩:=Qe (((y.setCell ⟨w.heap.size,3,Y⟩ (J hb l.toNat)).setCell ⟨w.heap.size,4,Y⟩ (J hb lv.toNat)).setCell ⟨w.heap.size,5,Y⟩ (hh D a.length E));have a0:=(a5.block _ (ae aC.o)).trans aC.o;have b7:u.heap[w.heap.size]?=X (fn #[J U s,J U t,J U H,J hb l.toNat,J hb lv.toNat,hh D a.length E] 64 (0,0)):=by rw[<- a9];exact aq (aq (aq a0 3 (J hb l.toNat)) 4 (J hb lv.toNat)) 5 (hh D a.length E)
  have a3:az w.heap.size y u:=by rw[<- a9];exact(((az.refl _ y).setCell 3 _).setCell 4 _).setCell 5 _
  have f6:¬A w.heap.size:=bO.not (ae ay.o) c9;have a1:dU A u c (X j) (X mb) (X me) kn d:=(bA.o.below a5.o).step (λq g=>a3.block q (λe=>f6 (e▸g))) (by rw[a3.size];exact ht _);have gs:w.heap.size<z.heap.size:=ae aC.o;have c4:ag z.heap.size y.heap.size u (hh D a.length E) a:=eg.o.kept (λq I _=>a3.block q (by omega));have cs:u.heap.size=y.heap.size:=a3.size;rw[a9];clear a9 a0 e3 e4 e5 f3 f4 f5 b3 b4 b5 bB;obtain⟨ps,q1,q2,q3⟩:=a1.vs;have cl:aB ltRK ps:=by have hs:=a1.ok.ok.vs;rw[<- q1]at hs;unfold aB at hs ⊢;rw[hD]at hs;exact hs
  have gQ:ps.length<=5000:=by have:=a1.ok.vlen;rw[<- q1]at this;simpa using this
  have ac:ak recB u j (ps.map λp=>(p.1,jo p.1 p.2)):=q2;obtain⟨st,c0,bY,cg,c6,cb,cm⟩:=ak.entry (w:=u.drew) (ak.drew ac) gV underlying113 lH (s,t) hk (by rw[hG];unfold maxLen;omega);have bb:c≠j:=λe=>(aj ac a1.blk) e.symm;have em:w.heap.size≠j:=λe=>(aj ac b7) e.symm;have aS:Hid (∀W,az j u W->W.cell? ⟨c,0,Y⟩=X (hq (X j))/\W.cell? ⟨w.heap.size,0,Y⟩=X (J U s)/\W.cell? ⟨w.heap.size,1,Y⟩=X (J U t)/\W.cell? ⟨w.heap.size,2,Y⟩=X (J U H)/\W.cell? ⟨w.heap.size,3,Y⟩=X (J hb l.toNat)/\W.cell? ⟨w.heap.size,4,Y⟩=X (J hb lv.toNat)/\W.cell? ⟨w.heap.size,5,Y⟩=X (hh D a.length E)):=λW ho=>by obtain⟨p0,p1,p2,p3,p4,p5⟩:=ll ((ho.block _ em).trans b7);exact⟨(aa ((ho.block c bb).trans a1.blk) 0).trans rfl,p0,p1,p2,p3,p4,p5⟩
  have bd:az j u u.drew:=(az.refl j u).drew;have c1:=aS _ bd;have L:=Z a1;have e6:=Z q1;have e7:=Z q3;have e8:=Z cl;have ej:=Z c4;have e2:=Z a3;clear a1 b7 q1 q2 q3 cl c4 a3 ac;refine wT (λW=>W.cell? ⟨c,0,Y⟩=X (hq (X j))/\W.cell? ⟨w.heap.size,0,Y⟩=X (J U s)/\W.cell? ⟨w.heap.size,1,Y⟩=X (J U t)/\W.cell? ⟨w.heap.size,2,Y⟩=X (J U H)/\W.cell? ⟨w.heap.size,3,Y⟩=X (J hb l.toNat)/\W.cell? ⟨w.heap.size,4,Y⟩=X (J hb lv.toNat)/\W.cell? ⟨w.heap.size,5,Y⟩=X (hh D a.length E)) 13 ?_;refine Qb [0,4,6,7,1,5,2,3] c1 (λw' h=>h) ?_;refine Dp 8 λK b=>?_;refine bF rfl cg ?_;have bk:az j u (hu u.drew j (.map c0 bY)):=bd.trans cb;have b8:=aS _ bk;generalize hu u.drew j (.map c0 bY)=w4 at*;refine b _ _ (λ_=>b8) ?_;clear b K;go_simp;refine Qb [9] b8 (λw' h=>h) ?_
  refine Dp 10 λK b=>?_;obtain⟨R,ch,c8,cc⟩:=cm w4 (.agg #[J U s,J U t,J U H,J hb l.toNat,J hb lv.toNat,hh D a.length E]) c6;refine bj rfl ch ?_;have N:az j u R:=bk.trans cc;have a8:=aS _ N;refine b _ _ (λ_=>a8) ?_;clear b K;go_simp;refine Ds 11 a8 ?_;refine Qb [12] a8 (λw' h=>h) ?_
  have c7:ak recB R j ((insL ltRK ps (s,t) ((H,⟨l,lv,a⟩),hh D a.length E)).map λp=>(p.1,jo p.1 p.2)):=c8.perm (jv aW e8.o (λk v=>jo k v) (s,t) ((H,⟨l,lv,a⟩),hh D a.length E));have a4:∀q,A q->q<z.heap.size:=bA.lt;have gq:=a5.size;have cn:jM (restF (λq=>A q∨(z.heap.size<=q/\q<y.heap.size)) c (X j) (X mb) (X me)) R (X j) (insL ltRK d.vs (s,t) (H,⟨l,lv,a⟩)):=by
   have gO:=a4 j (L.f1 j rfl);refine jM.ins e6.o e7.o L.o.ok.ok.vs (λq g=>N.block q (λe=>g.2.2.1 (by rw[e]))) (by rw[N.size];exact ht _) (λq g=>⟨.inl g.1,g.2⟩) (ej.o.kept (λq I _=>N.block q (by omega))) (by rw[N.size,cs];exact ht _) (λq I h2=>⟨.inr ⟨I,h2⟩,?_,λe=>?_,λe=>?_,λe=>?_⟩) c7
   .have:=a4 c L.o.fc;omega
   .injection e with e;omega
   .injection e with e;have:=a4 mb (L.o.f2 mb rfl);omega
   injection e with e;have:=a4 me (L.o.f3 me rfl);omega
  have hF:=L.o.put1 (G:=λq=>A q∨(z.heap.size<=q/\q<y.heap.size)) N (λq g=>.inl g) (λq g=>by rw[cs];rcases g with g|g;have:=a4 q g;omega;exact g.2) cn dd.o;have c3:R.cell? ⟨c,3,Y⟩=X kn:=(N.cell (p:=⟨c,3,Y⟩) bb).trans ((aa L.blk 3).trans rfl);have f3:R.frozen? ⟨c,3,Y⟩=false:=(N.frozen (p:=⟨c,3,Y⟩) bb).trans (ab L.blk 3);have HF:=Z hF;have e1:=Z N;clear hF c1 b8 a8 c8 c7 ch cc cb cm cg c6 N bd bk cn;refine Dl 13 ?_;go_wp2_with fail;go_ret;rw[d8.o];refine⟨rfl,_,⟨_,_,_,_,HF.o⟩,?_⟩;have f7:ah F w F w6:=ah.of_below d7.o;have f8:ah F w A y:=(f7.trans bO.o).trans (ah.of_below a5.o);have f9:ah F w A u:=f8.own e2.o (ht _);have fb:ah A u A R:=ah.of_only e1.o (L.f1 j rfl);have fl:ah A R A (R.setCell ⟨c,3,Y⟩ (fs Y)):=ah.of_only (az.setCell (az.refl c R) 3 _) L.fc;refine((f9.trans fb).trans fl).more λq g=>?_;rcases g with g|g
  .exact .inl g
  exact .inr (by omega)
 have gx:(H==n)=false:=by simpa using hnn
 rw[decide_eq_false hnn,Bool.false_and]at bs;have HN:Hid (∀W,Calls prog 56 #[hj th,hj false,J U H,J U n,J U d4] W λe w'=>e=h1 (J U au)/\W=w'):=λW=>by rw[bs.o];exact gT _ _ _ _ _ W
 have O:=a2;go_wp2_with fail;refine Wb M 23 ?_;refine Qb [0,1,3,13,15,17,2,4,14,16,18,5,19,6,20] a2 fr ?_;refine tf 7 rfl a2 ?_;(try go_simp)
 refine tf 9 rfl a2 ?_;(try go_simp)
 refine tf 8 rfl a2 ?_;(try go_simp)
 refine tf 10 rfl a2 ?_;(try go_simp)
 refine tf 11 rfl a2 ?_;(try go_simp)
 refine Qa [12] a2 ?_
 have eQ:=λty=>ds M.drew ty a2;refine Ds 21 a2 ?_;refine Dp 22 λK b=>?_;go_simp;go_at_call 56;refine(HN _).mono ?_;rintro e w9⟨rfl,rfl⟩;refine b _ _ (λ_=>a2) ?_;clear b K;refine Dl 23 ?_;obtain⟨w6,gd⟩:=Qe M.drew;rw[gd]at O ⊢;clear eQ gd;by_cases hx:au=0;rotate_left
 .have e9:=Z hx;have cp:(au==0)=false:=by simpa using hx
  go_wp2_with fail;go_ret;rw[ad.o,if_neg e9.o];exact⟨rfl,F,⟨_,_,_,_,ao.below O⟩,ah.of_below (btr a6.o O a6.size)⟩
 subst hx;have d8:Hid (putC d (s,t) n ⟨l,lv,a⟩=({d with vs:=insL ltRK d.vs (s,t) (n,⟨l,lv,a⟩)},0)):=by unfold Hid;rw[ad.o,if_pos rfl]
 have dd:Hid (bi {d with vs:=insL ltRK d.vs (s,t) (n,⟨l,lv,a⟩)}):=bl rfl;have dy:=Z (ao.below O);have ay:=Z ((O.block _ (ae cz.o)).trans cz.o);have e0:Hid (ag lo hi w6 (hh P a.length Q) a):=dz.o.kept (λq _ h=>O.block q (by have:=al.o.2;omega));have d7:Hid (Bw w w6):=btr a6.o O a6.size;have bw:Hid (hi<=w6.heap.size):=by have:=al.o.2;have:=O.size;unfold Hid;omega
 have c9:¬F w.heap.size:=λhf=>by have:=ft.o _ hf;omega
 have d5:Hid (Calls prog 57 #[fs (X ⟨c,0,Y⟩)] w6 λe z=>e=h1 (.tuple #[])/\∃A j mb me,Hid (dU A z c (X j) (X mb) (X me) kn d)/\Hid (ah F w6 A z)/\Hid (z.heap[w.heap.size]?=X (fn #[J U s,J U t,J U n,J hb l.toNat,J hb lv.toNat,hh P a.length Q] 64 (0,0)))/\
  Hid (Calls prog 60 #[.agg #[J hb l.toNat,J hb lv.toNat,hh P a.length Q]] z λe y=>∃D E,e=h1 (.agg #[J hb l.toNat,J hb lv.toNat,hh D a.length E])/\Hid (ag z.heap.size y.heap.size y (hh D a.length E) a)/\Hid (Bw z y)/\
   y.cell? ⟨w.heap.size,3,Y⟩=X (J hb l.toNat)/\y.cell? ⟨w.heap.size,4,Y⟩=X (J hb lv.toNat)/\y.cell? ⟨w.heap.size,5,Y⟩=X (hh P a.length Q)/\y.frozen? ⟨w.heap.size,3,Y⟩=false/\y.frozen? ⟨w.heap.size,4,Y⟩=false/\y.frozen? ⟨w.heap.size,5,Y⟩=false)/\
  z.cell? ⟨w.heap.size,3,Y⟩=X (J hb l.toNat)/\z.cell? ⟨w.heap.size,4,Y⟩=X (J hb lv.toNat)/\z.cell? ⟨w.heap.size,5,Y⟩=X (hh P a.length Q)):=by
  refine(ie dy.o).mono ?_
  rintro e z⟨he,A,j,mb,me,hM,V⟩
  have a7:=(V.block _ (ae ay.o) c9).trans ay.o
  have eq:ag lo hi z (hh P a.length Q) a:=e0.o.kept (λq I h=>V.block q (by have:=bw.o;omega) (fx.o q I h))
  obtain⟨_,_,_,b3,b4,b5⟩:=ll a7
  refine⟨he,A,j,mb,me,hM,V,a7,?_,b3,b4,b5⟩
  refine(yM (.agg #[J hb l.toNat,J hb lv.toNat,hh P a.length Q]) ⟨l,lv,a⟩ z ⟨_,rfl,eq.mono (hy _) (Nat.le_trans bw.o V.size)⟩ ex da.o).mono ?_
  rintro e y⟨v',he,⟨x2,hv,cq⟩,c5⟩
  obtain⟨D,E,rfl⟩:=cq.shape
  have a0:=(c5.block _ (ae a7)).trans a7
  obtain⟨_,_,_,b3,b4,b5⟩:=ll a0
  exact⟨D,E,by rw[he,hv];rfl,cq,c5,b3,b4,b5,ab a0 3,ab a0 4,ab a0 5⟩
 go_wp2_with (first
  |(go_at_call 57;((with_reducible refine hz d5.o ?_);rintro e z⟨rfl,A,j,mb,me,bA,bO,aC,bB,b3,b4,b5⟩))
  |(go_at_call 60;((with_reducible refine hz bB.o ?_);rintro e y⟨D,E,rfl,eg,a5,e3,e4,e5,f3,f4,f5⟩)))
 obtain⟨u,a9⟩:=Qe (((y.setCell ⟨w.heap.size,3,Y⟩ (J hb l.toNat)).setCell ⟨w.heap.size,4,Y⟩ (J hb lv.toNat)).setCell ⟨w.heap.size,5,Y⟩ (hh D a.length E));have a0:=(a5.block _ (ae aC.o)).trans aC.o;have b7:u.heap[w.heap.size]?=X (fn #[J U s,J U t,J U n,J hb l.toNat,J hb lv.toNat,hh D a.length E] 64 (0,0)):=by rw[<- a9];exact aq (aq (aq a0 3 (J hb l.toNat)) 4 (J hb lv.toNat)) 5 (hh D a.length E)
 have a3:az w.heap.size y u:=by rw[<- a9];exact(((az.refl _ y).setCell 3 _).setCell 4 _).setCell 5 _
 have f6:¬A w.heap.size:=bO.not (ae ay.o) c9;have a1:dU A u c (X j) (X mb) (X me) kn d:=(bA.o.below a5.o).step (λq g=>a3.block q (λe=>f6 (e▸g))) (by rw[a3.size];exact ht _);have gs:w.heap.size<z.heap.size:=ae aC.o;have c4:ag z.heap.size y.heap.size u (hh D a.length E) a:=eg.o.kept (λq I _=>a3.block q (by omega));have cs:u.heap.size=y.heap.size:=a3.size;rw[a9];clear a9 a0 e3 e4 e5 f3 f4 f5 b3 b4 b5 bB;obtain⟨ps,q1,q2,q3⟩:=a1.vs;have cl:aB ltRK ps:=by have hs:=a1.ok.ok.vs;rw[<- q1]at hs;unfold aB at hs ⊢;rw[hD]at hs;exact hs
 have gQ:ps.length<=5000:=by have:=a1.ok.vlen;rw[<- q1]at this;simpa using this
 have ac:ak recB u j (ps.map λp=>(p.1,jo p.1 p.2)):=q2;obtain⟨st,c0,bY,cg,c6,cb,cm⟩:=ak.entry (w:=u.drew) (ak.drew ac) gV underlying113 lH (s,t) hk (by rw[hG];unfold maxLen;omega);have bb:c≠j:=λe=>(aj ac a1.blk) e.symm;have em:w.heap.size≠j:=λe=>(aj ac b7) e.symm;have aS:Hid (∀W,az j u W->W.cell? ⟨c,0,Y⟩=X (hq (X j))/\W.cell? ⟨w.heap.size,0,Y⟩=X (J U s)/\W.cell? ⟨w.heap.size,1,Y⟩=X (J U t)/\W.cell? ⟨w.heap.size,2,Y⟩=X (J U n)/\W.cell? ⟨w.heap.size,3,Y⟩=X (J hb l.toNat)/\W.cell? ⟨w.heap.size,4,Y⟩=X (J hb lv.toNat)/\W.cell? ⟨w.heap.size,5,Y⟩=X (hh D a.length E)):=λW ho=>by obtain⟨p0,p1,p2,p3,p4,p5⟩:=ll ((ho.block _ em).trans b7);exact⟨(aa ((ho.block c bb).trans a1.blk) 0).trans rfl,p0,p1,p2,p3,p4,p5⟩
 have bd:az j u u.drew:=(az.refl j u).drew;have c1:=aS _ bd;have L:=Z a1;have e6:=Z q1;have e7:=Z q3;have e8:=Z cl;have ej:=Z c4;have e2:=Z a3;clear a1 b7 q1 q2 q3 cl c4 a3 ac;refine wT (λW=>W.cell? ⟨c,0,Y⟩=X (hq (X j))/\W.cell? ⟨w.heap.size,0,Y⟩=X (J U s)/\W.cell? ⟨w.heap.size,1,Y⟩=X (J U t)/\W.cell? ⟨w.heap.size,2,Y⟩=X (J U n)/\W.cell? ⟨w.heap.size,3,Y⟩=X (J hb l.toNat)/\W.cell? ⟨w.heap.size,4,Y⟩=X (J hb lv.toNat)/\W.cell? ⟨w.heap.size,5,Y⟩=X (hh D a.length E)) 13 ?_;refine Qb [0,4,6,7,1,5,2,3] c1 (λw' h=>h) ?_;refine Dp 8 λK b=>?_;refine bF rfl cg ?_;have bk:az j u (hu u.drew j (.map c0 bY)):=bd.trans cb;have b8:=aS _ bk;generalize hu u.drew j (.map c0 bY)=w4 at*;refine b _ _ (λ_=>b8) ?_;clear b K;go_simp;refine Qb [9] b8 (λw' h=>h) ?_
 refine Dp 10 λK b=>?_;obtain⟨R,ch,c8,cc⟩:=cm w4 (.agg #[J U s,J U t,J U n,J hb l.toNat,J hb lv.toNat,hh D a.length E]) c6;refine bj rfl ch ?_;have N:az j u R:=bk.trans cc;have a8:=aS _ N;refine b _ _ (λ_=>a8) ?_;clear b K;go_simp;refine Ds 11 a8 ?_;refine Qb [12] a8 (λw' h=>h) ?_
 have c7:ak recB R j ((insL ltRK ps (s,t) ((n,⟨l,lv,a⟩),hh D a.length E)).map λp=>(p.1,jo p.1 p.2)):=c8.perm (jv aW e8.o (λk v=>jo k v) (s,t) ((n,⟨l,lv,a⟩),hh D a.length E));have a4:∀q,A q->q<z.heap.size:=bA.lt;have gq:=a5.size;have cn:jM (restF (λq=>A q∨(z.heap.size<=q/\q<y.heap.size)) c (X j) (X mb) (X me)) R (X j) (insL ltRK d.vs (s,t) (n,⟨l,lv,a⟩)):=by
  have gO:=a4 j (L.f1 j rfl);refine jM.ins e6.o e7.o L.o.ok.ok.vs (λq g=>N.block q (λe=>g.2.2.1 (by rw[e]))) (by rw[N.size];exact ht _) (λq g=>⟨.inl g.1,g.2⟩) (ej.o.kept (λq I _=>N.block q (by omega))) (by rw[N.size,cs];exact ht _) (λq I h2=>⟨.inr ⟨I,h2⟩,?_,λe=>?_,λe=>?_,λe=>?_⟩) c7
  .have:=a4 c L.o.fc;omega
  .injection e with e;omega
  .injection e with e;have:=a4 mb (L.o.f2 mb rfl);omega
  injection e with e;have:=a4 me (L.o.f3 me rfl);omega
 have hF:=L.o.put1 (G:=λq=>A q∨(z.heap.size<=q/\q<y.heap.size)) N (λq g=>.inl g) (λq g=>by rw[cs];rcases g with g|g;have:=a4 q g;omega;exact g.2) cn dd.o;have c3:R.cell? ⟨c,3,Y⟩=X kn:=(N.cell (p:=⟨c,3,Y⟩) bb).trans ((aa L.blk 3).trans rfl);have f3:R.frozen? ⟨c,3,Y⟩=false:=(N.frozen (p:=⟨c,3,Y⟩) bb).trans (ab L.blk 3);have HF:=Z hF;have e1:=Z N;clear hF c1 b8 a8 c8 c7 ch cc cb cm cg c6 N bd bk cn;refine Dl 13 ?_;go_wp2_with fail;go_ret;rw[d8.o];refine⟨rfl,_,⟨_,_,_,_,HF.o⟩,?_⟩;have f7:ah F w F w6:=ah.of_below d7.o;have f8:ah F w A y:=(f7.trans bO.o).trans (ah.of_below a5.o);have f9:ah F w A u:=f8.own e2.o (ht _);have fb:ah A u A R:=ah.of_only e1.o (L.f1 j rfl);have fl:ah A R A (R.setCell ⟨c,3,Y⟩ (fs Y)):=ah.of_only (az.setCell (az.refl c R) 3 _) L.fc;refine((f9.trans fb).trans fl).more λq g=>?_;rcases g with g|g
 .exact .inl g
 exact .inr (by omega)
end
end Go.Proofs.YtjcimanddakkaaaGreatDoor
