/- Lemmas. -/
import Derived.Test.YtjcimanddakkaaaGreatDoorCT9
import Derived.Test.YtjcimanddakkaaaGreatDoorCT12
set_option maxRecDepth 100000
set_option maxHeartbeats 8000000
namespace Go.Proofs.YtjcimanddakkaaaGreatDoor
open _root_.Option renaming some→X,none→Y
open Go.Obj renaming cells→fn
open Go.Value renaming pointer→fs,int→J,slice→ha,bool→hb,map→hc
open Go.Ending renaming returned→h1
open Go.IntKind renaming i64→U,u8→h9
open Go.Lib renaming hid→Z
open Tryz
open _root_.Nat renaming le_refl→hd,zero_le→hh
open Go.ChangeMaps renaming setBlock→hg
open Go.Calls renaming mono→hj
open Go.RowKit.Below renaming refl→hq,heap_setCell→ht
open _root_.List renaming pairwise_map→hu,length_map→hy,find?_cons→hz
open Go.World renaming alloc_heap_new→hA,size_setCell→hC
section
open Go.RowKit Go.Maps Go.Shelf
theorem ng{P:Program}{e:Region.Mode}{b:Array Oper}{Q:Exit->Act->World->Prop}{S:World->Prop}{z i:Nat}{o:Oper}{n:Nat}{d:Array Bool}{a:Act}{w:World}(q:b[i]?=X o)(g:Region.ready e b d=[i])(p:Region.wanted o (yielded b a.tmps)=true)
 (h:∀K:Act->World->Prop,(∀c w',(i≠z->S w')->anyT P e b Q S z n (d.setIfInBounds i true) c w'->K c w')->o.wp P a w K Q):anyT P e b Q S z (n+1) d a w:=by
 refine⟨λk=>absurd k (by rw[g];simp),λj f=>?_⟩;rw[g]at f;obtain rfl:j=i:=by simpa using f
 unfold wpOp;rw[q];simp only[p,if_true];exact .inl (h _ λc w' l m=>⟨l,m⟩)
theorem lr{w:World}{b t:Nat}{x y z u v q:Value}(h:w.heap[b]?=X (fn #[x,y,z,u,v,q] t (0,0))):w.cell? b=X x/\w.cell? ⟨b,1,Y⟩=X y/\w.cell? ⟨b,2,Y⟩=X z/\w.cell? ⟨b,3,Y⟩=X u/\w.cell? ⟨b,4,Y⟩=X v/\w.cell? ⟨b,5,Y⟩=X q:=
 ⟨(ab h 0).trans rfl,(ab h 1).trans rfl,(ab h 2).trans rfl,(ab h 3).trans rfl,(ab h 4).trans rfl,(ab h 5).trans rfl⟩
theorem gr{K V:Type}[DecidableEq K](l:List (K×V))(f:K->V->Value)(k:K):lookL (l.map λp=>(p.1,f p.1 p.2)) k=(findK l k).map (f k):=by
 induction l with
 |nil=>rfl
 |cons p l ih=>
  unfold findK at ih ⊢;rw[List.map_cons,dD,hz];by_cases h:p.1=k
  .rw[if_pos h];simp[h]
  rw[if_neg h,ih];simp[h]
theorem sK{K V W:Type}[DecidableEq K](l:List (K×(V×W)))(k:K):findK (l.map λp=>(p.1,p.2.1)) k=(findK l k).map (·.1):=by
 induction l with
 |nil=>rfl
 |cons p l ih=>
  unfold findK at ih ⊢;rw[List.map_cons,hz,hz];by_cases h:p.1=k
  .simp[h]
  simp only[h,decide_false];exact ih
theorem vT{K V:Type}[DecidableEq K]{l:List (K×V)}{k:K}{v:V}(h:findK l k=X v):(k,v)∈l:=by
 unfold findK at h;rw[Option.map_eq_some_iff]at h;obtain⟨p,b,rfl⟩:=h;have c:=List.mem_of_find?_eq_some b;have a:=List.find?_some b;simp at a;rw[<- a];exact c
def putX(d:aB)(k:RK)(n:Int)(r:aG):Int:=bh (findK d.vs k).isSome (decide (((findK d.vs k).getD (0,⟨0,0,[]⟩)).1=n)&&decide (((findK d.vs k).getD (0,⟨0,0,[]⟩)).2=r)) ((findK d.vs k).getD (0,⟨0,0,[]⟩)).1 n d.vs
theorem put_eq(d:aB)(k:RK)(n:Int)(r:aG)(a:wrongR r=0):putC d k n r=if putX d k n r=0 then({d with vs:=insL ltRK d.vs k (n,r)},0)else(d,putX d k n r):=by
 unfold putC putX;rw[if_neg (by simpa using a)];cases findK d.vs k with
 |none=>simp only[Option.isSome_none,Option.getD_none];rw[mz (decide (0=n)&&decide ((⟨0,0,[]⟩:aG)=r))]
 |some m=>rfl
theorem bp.put{d:aB}(h:bp d){k:RK}{n:Int}{r:aG}(b:rkOk k)(hn:i64B n)(c:wrongR r=0)(e:putX d k n r=0):bp {d with vs:=insL ltRK d.vs k (n,r)}:=by
 refine⟨⟨ff aY h.ok.vs _ _,h.ok.ds,h.ok.ps,h.ok.apart⟩,?_,h.dlen,h.plen,cZ aY h.ok.vs h.right c,cZ aY h.ok.vs h.vnum hn,h.dnum,h.pnum,cZ aY h.ok.vs h.vkey b,h.dkey,h.pkey⟩;exact qp aY h.ok.vs k (n,r) h.vlen λa=>gk e a
theorem eC{r:aG}(h:wrongR r=0):r.fields.length<=1000000/\(∀f∈r.fields,f.subs.length<=1000000)/\br r.fields:=by
 have a:=yV h;refine⟨by have:=a.many;omega,λf b=>?_,by have:=a.many;omega,λf b=>by have:=a.long f b;omega⟩;have c:=a.long f b;have d:=cr f;omega
theorem jT.ins{F G:Nat->Prop}{w a:World}{m:Nat}{k:RK}{n:Int}{r:aG}{x:Value}{lo b:Nat}{ps:List (RK×VX)}{d:VL}(e:ps.map (λp=>(p.1,p.2.1))=d)(f:∀p∈ps,dL F w p)(c:aH ltRK d)
 (i:∀q,F q->a.heap[q]?=w.heap[q]?)(u:w.heap.size<=a)(g:∀q,F q->G q)(s:ah lo b a x r.fields)(h:b<=a)(t:∀q,lo<=q->q<b->G q)(j:an recB a m ((insL ltRK ps k ((n,r),x)).map λp=>(p.1,ju p.1 p.2))):
 jT G a (X m) (insL ltRK d k (n,r)):=by
 have o:aH ltRK ps:=by rw[<- e]at c;unfold aH at c ⊢;rw[hu]at c;exact c
 refine⟨insL ltRK ps k ((n,r),x),by rw[<- e];exact vQ ltRK (λq:VX=>q.1) ps k ((n,r),x),j,?_⟩;refine cZ aY o (λp l=>((f p l).step i u).wide g) ⟨lo,b,s,h,t⟩
theorem ed.put1{F:Nat->Prop}{w j:World}{c a b e:Nat}{E:Value}{d:aB}{G:Nat->Prop}{vs:VL}(h:ed F w c (X a) (X b) (X e) E d)(o:aF a w j)(l:∀k,F k->G k)(z:∀k,G k->k<w)
 (C:jT (restF G c (X a) (X b) (X e)) j (X a) vs)(A:bp {d with vs:=vs}):
 ed G (j.setCell ⟨c,3,Y⟩ (fs Y)) c (X a) (X b) (X e) (fs Y) {d with vs:=vs}:=by
 have v:c≠b:=λe=>(ak (show an recB w b _ from h.ds) h.blk) e.symm;have s:c≠a:=λe=>by obtain⟨ps,_,i,_⟩:=h.vs;exact(ak (show an recB w a _ from i) h.blk) e.symm
 have x:c≠e:=λp=>(ak (show an pairB w e _ from h.ps) h.blk) p.symm;rcases h.one with⟨g,_⟩|⟨H,I,p,g,i,n,q,r,u⟩
 .cases g
 injection g with g;injection i with i;injection n with n
 subst g;subst i;subst n;have t:∀k,k≠c->k≠a->(j.setCell ⟨c,3,Y⟩ (fs Y)).heap[k]?=w.heap[k]?:=λk g i=>(ht _ _ _ _ g).trans (o.block k i);have D:(j.setCell ⟨c,3,Y⟩ (fs Y)).heap.size=w:=by rw[hC,o.size]
 refine⟨?_,C.step (λm f=>by injection f with f;subst f;exact ht _ _ _ _ (Ne.symm s)) (λk B=>ht _ _ _ _ B.2.1) (by rw[hC];exact hd _),?_,?_,.inl rfl,l _ h.fc,λm f=>l _ (h.f1 m f),λm f=>l _ (h.f2 m f),λm f=>l _ (h.f3 m f),.inr ⟨a,b,e,rfl,rfl,rfl,q,r,u⟩,λk y=>by rw[D];exact z k y,A⟩
 .exact aA ((o.block c s).trans h.blk) 3 (fs Y)
 .exact an.block (show an recB w b _ from h.ds) (t b (Ne.symm v) (Ne.symm q))
 exact an.block (show an pairB w e _ from h.ps) (t e (Ne.symm x) (Ne.symm r))
theorem ai.own{F c:Nat->Prop}{w d e:World}{b:Nat}(s:ai F w c d)(a:aF b d e)(g:w<=b):ai F w c e:=
 ⟨a.os.trans s.os,a.tape.trans s.tape,a.output.trans s.output,by rw[a.size];exact s.size,λk f hn=>(a.block k (by omega)).trans (s.block k f hn),s.new⟩
theorem ai.more{F b G:Nat->Prop}{w w':World}(s:ai F w b w')(h:∀k,G k->b k∨w<=k):ai F w G w':=
 ⟨s.os,s.tape,s.output,s.size,s.block,λk c=>by
  rcases h k c with a|a
  .exact s.new k a
  .exact .inr a⟩
theorem ue(F:Nat->Prop)(w:World)(c:Nat)(d:aB)(h:bG F w c d)(k:RK)(n:Int)(r:aG)(x:Value)(hk:rkOk k)(hn:i64B n)(lo hi:Nat)(hx:ah lo hi w x r.fields)(fz:hi<=w)(hF:∀q,lo<=q->q<hi->¬F q)(f7:br r.fields):
 Calls prog 29 #[.pointer c,li k n r x] w λe w'=>e=h1 (J U (putC d k n r).2)/\∃A,bG A w' c (putC d k n r).1/\ai F w A w':=by
 have ac:=Z (put_eq d k n r);have d6:Hid (wrongR r≠0->putC d k n r=(d,11)):=λhw=>by unfold putC;rw[if_pos hw]
 have bd:Hid (wrongR r=0->putX d k n r=0->bp {d with vs:=insL ltRK d.vs k (n,r)}):=by obtain⟨_,_,_,_,h⟩:=h;exactλhr hx=>h.ok.put hk hn hr hx
 have aS:Hid (putX d k n r=bh (findK d.vs k).isSome (decide (((findK d.vs k).getD (0,⟨0,0,[]⟩)).1=n)&&decide (((findK d.vs k).getD (0,⟨0,0,[]⟩)).2=r)) ((findK d.vs k).getD (0,⟨0,0,[]⟩)).1 n d.vs):=rfl;have fp:Hid (wrongR r=0->r.fields.length<=1000000/\(∀f∈r.fields,f.subs.length<=1000000)/\br r.fields):=eC;obtain⟨m1,m2,m3,kn,h⟩:=h;obtain⟨P,Q,rfl⟩:=hx.shape;obtain⟨W1,eb⟩:=Qe (w.alloc (fn #[k.1,k.2,n,J h9 r.kind,J h9 r.level,ha P r.fields Q] 64));have cQ:Bw w W1:=by rw[<- eb];exact(hq _ w).alloc (hd _) _
 have hB:W1.heap[w.heap.size]?=X (fn #[k.1,k.2,n,J h9 r.kind,J h9 r.level,ha P r.fields Q] 64 (0,0)):=by rw[<- eb];exact hA w _
 have cx:Hid (W1.heap.size=w+1):=by unfold Hid;rw[<- eb];simp
 have cj:ah lo hi W1 (ha P r.fields Q) r.fields:=hx.kept (λq _ g=>cQ.block q (by omega))
 have HR:Hid (∀W,Bw W1 W->Calls prog 58 #[.agg #[J h9 r.kind,J h9 r.level,ha P r.fields Q]] W λe w'=>e=h1 (hb (decide (wrongR r=0)))/\Bw W w'):=λW T=>
  yW r _ W ⟨_,rfl,(cj.kept (λq _ g=>T.block q (by have:=cx.o;omega))).mono (hh _) (by have:=T.size;have:=cx.o;omega)⟩ f7
 have HM:=Z (h.below cQ);have fr:=Z cj;have HB:=Z hB;have cu:=Z cQ;have f9:=Z h.lt;have d8:Hid (hi<=w):=fz;have fb:=Z hF;obtain⟨s,t⟩:=k;obtain⟨l,lv,a⟩:=r;unfold li;dsimp only at*;obtain⟨b0,b1,b2,b3,b4,b5⟩:=lr hB;clear h cQ hB hx cj fz hF f7;by_cases hr:wrongR ⟨l,lv,a⟩=0;rotate_left
 .rw[decide_eq_false hr]at HR;have HE:=Z (d6 hr);clear ac d6 bd aS hr;go_enter func29,ntmps29;go_wp2_with (go_at_call 58;(refine hj (HR.o _ (hq _ _)) ?_;rintro e B⟨rfl,av⟩))
  go_ret;rw[HE.o];exact⟨rfl,F,⟨_,_,_,_,HM.below av⟩,ai.of_below (btr cu.o av cu.size)⟩
 rw[decide_eq_true hr]at HR;have fl:=Z hr;obtain⟨ej,fy,f7⟩:=fp hr;have d7:=Z fy;clear hr fp d6 fy;have ac:=Z (ac fl.o);have bd:=Z (bd fl.o);go_enter func29,ntmps29;go_wp2_with (go_at_call 58;(refine hj (HR.o _ (hq _ _)) ?_;rintro e B⟨rfl,av⟩))
 have aC:=Z (HM.below av);have cy:=(av.block _ (af HB.o)).trans HB.o;have d3:Hid (Bw w B):=btr cu.o av cu.size;clear b0 b1 b2 b3 b4 b5 HR
 obtain⟨kk,H,r',x',th,dd,bk,cb,gy,gz⟩:∃(kk:RK)(H:Int)(r':aG)(x':Value)(th:Bool),Hid (∀W,(∀m,m1=X m->W.heap[m]?=B.heap[m]?)->(Instr.lookup 113 (.map m1) (.agg #[s,t]) true).run prog W=.ok (.tuple #[li kk H r' x',hb th]) W)/\
  Hid (putX d (s,t) n ⟨l,lv,a⟩=bh th (decide (H=n)&&decide (r'=⟨l,lv,a⟩)) H n d.vs)/\(∃cp b9,ah cp b9 B x' r'.fields/\b9<=B)/\r'.fields.length<=1000000/\(∀f∈r'.fields,f.subs.length<=1000000):=by
  obtain⟨ps,q1,q2,q3⟩:=aC.vs
  have d0:∀W,(∀m,m1=X m->W.heap[m]?=B.heap[m]?)->(Instr.lookup 113 (.map m1) (.agg #[s,t]) true).run prog W=.ok (.tuple #[((findK ps (s,t)).map (ju (s,t))).getD (.agg #[J U 0,J U 0,J U 0,J h9 0,J h9 0,ha Y 0 0]),hb ((findK ps (s,t)).map (ju (s,t))).isSome]) W:=λW hW=>by
   have:=cI.look_ok (w:=W) (q2.block hW) underlying113 lL (s,t) hk
   rw[gr]at this
   exact this
  have gp:findK d.vs (s,t)=(findK ps (s,t)).map (·.1):=by rw[<- q1];exact sK ps (s,t)
  rw[gp]at aS
  cases hf:findK ps (s,t)with
  |none=>
   rw[hf]at d0 aS
   exact⟨(0,0),0,⟨0,0,[]⟩,ha Y 0 0,false,d0,aS,⟨0,0,⟨[],rfl,(by intro p hp;cases hp),Y,0,rfl,λh=>absurd rfl h⟩,hh _⟩,hh _,(by intro f hf;cases hf)⟩
  |some v=>
   rw[hf]at d0 aS
   obtain⟨⟨H,r'⟩,x'⟩:=v
   have hm:=vT hf
   obtain⟨cp,b9,g1,g2,_⟩:=q3 _ hm
   have gt:((s,t),(H,r'))∈d.vs:=by rw[<- q1];exact List.mem_map.2 ⟨_,hm,rfl⟩
   obtain⟨s1,s2,_⟩:=eC (aC.ok.right _ gt)
   exact⟨(s,t),H,r',x',true,d0,aS,⟨cp,b9,g1,g2⟩,s1,s2⟩
 obtain⟨cp,b9,cb,gq⟩:=cb;obtain⟨cq,cs,rfl⟩:=cb.shape;obtain⟨g7,g8⟩:=kk;obtain⟨bl,bs,au⟩:=r';unfold li at dd;dsimp only at*;obtain⟨b0,b1,b2,b3,b4,b5⟩:=lr cy;have V:B.drew.cell? c=X (.map m1)/\B.drew.cell? w=X (J U s)/\B.drew.cell? ⟨w,1,Y⟩=X (J U t)/\(∀m,m1=X m->B.drew.heap[m]?=B.heap[m]?):=⟨(ab aC.blk 0).trans rfl,b0,b1,λ_ _=>rfl⟩;have da:Hid (∀W,Bw B W->W.cell? c=X (.map m1)/\W.cell? w=X (J U s)/\W.cell? ⟨w,1,Y⟩=X (J U t)/\(∀m,m1=X m->W.heap[m]?=B.heap[m]?)):=λW T=>⟨fV T _ _ V.1,fV T _ _ V.2.1,fV T _ _ V.2.2.1,λm hm=>T.block m (aC.lt m (aC.f1 m hm))⟩;clear b0 b1 b2 b3 b4 b5;refine wT (λW=>W.cell? c=X (.map m1)/\W.cell? w=X (J U s)/\W.cell? ⟨w,1,Y⟩=X (J U t)/\(∀m,m1=X m->W.heap[m]?=B.heap[m]?)) 12 ?_;refine Qb [0,4,1,5,2,3] V (λw' h=>h) ?_;refine tk 6 ?_ rfl V ?_ ?_;rotate_left;intro w' h;obtain⟨h0,I,h2,h3⟩:=h;have hl:=dd w' h3;go_simp;rfl;try go_simp
 refine Qb [7,8,9] V (λw' h=>h) ?_;refine Dp 10 λK b=>?_;go_simp;have fx:∀o,Bw B (B.drew.alloc o):=λo=>(hq _ B).drew.alloc (hd _) o;refine b _ _ (λ_=>da _ (fx _)) ?_;clear b K;refine Dp 11 λK b=>?_;go_simp;have eg:∀o,Bw B (B.alloc o).drew:=λo=>((hq _ B).alloc (hd _) o).drew;refine b _ _ (λ_=>da _ (eg _)) ?_;clear b K;refine Dl 12 ?_;obtain⟨M,c0⟩:=Qe ((B.alloc (fn #[g7,g8,H,J h9 bl,J h9 bs,ha cq au cs] 64)).drew);have cP:M.heap[B.heap.size]?=X (fn #[g7,g8,H,J h9 bl,J h9 bs,ha cq au cs] 64 (0,0)):=by rw[<- c0];exact hA B _
 have b7:Bw B M:=by rw[<- c0];exact eg _
 have gQ:Hid (M.heap.size=B+1):=by unfold Hid;rw[<- c0];show(B.alloc _).heap.size=_;simp
 have al:=Z (aC.below b7);have cz:=(b7.block _ (af cy)).trans cy;have a6:Hid (Bw w M):=btr d3.o b7 d3.size;have gb:Hid (ah cp b9 M (ha cq au cs) au):=cb.kept (λq _ g=>b7.block q (by omega));have dq:Hid (ah lo hi M (ha P a Q) a):=fr.o.kept (λq _ g=>(b7.block q (by have:=av.size;have:=cx.o;have:=d8.o;omega)).trans (av.block q (by have:=cx.o;have:=d8.o;omega)));have ad:Hid (b9<=M/\hi<=M):=by have:=a6.o.size;have:=d8.o;have:=b7.size;exact⟨by omega,by omega⟩
 rw[c0];clear V da fx eg c0 b7 dd aC cy d3 cb gq HM fr HB
 have f8:Hid (∀W,Bw M W->W.cell? c=X (.map m1)/\(W.cell? ⟨w,2,Y⟩=X (J U n)/\W.cell? ⟨w,3,Y⟩=X (J h9 l)/\W.cell? ⟨w,4,Y⟩=X (J h9 lv)/\W.cell? ⟨w,5,Y⟩=X (ha P a Q))/\
  W.cell? ⟨B,2,Y⟩=X (J U H)/\W.cell? ⟨B,3,Y⟩=X (J h9 bl)/\W.cell? ⟨B,4,Y⟩=X (J h9 bs)/\W.cell? ⟨B,5,Y⟩=X (ha cq au cs)):=λW T=>by
  obtain⟨_,_,g2,g3,g4,g5⟩:=lr ((T.block _ (af cz)).trans cz)
  obtain⟨_,_,f2,f3,f4,f5⟩:=lr ((T.block _ (af cP)).trans cP)
  exact⟨(ab ((T.block c (al.lt c al.fc)).trans al.blk) 0).trans rfl,⟨g2,g3,g4,g5⟩,f2,f3,f4,f5⟩
 have g0:∀W ty,Bw M W->(Builtin.len_ #[113] ty #[.map m1]).run prog W=.ok d.vs W:=λW ty T=>by obtain⟨ps,q1,q2,_⟩:=(al.below T).vs;have:=cI.len q2 underlying113 ty;rw[hy,show ps.length=d.vs by rw[<- q1];simp]at this;exact this
 have dc:=Z g0;clear g0;have cv:=Z cz;have gO:=Z cP;clear cz cP;have a2:Bw M M.drew:=(hq _ M).drew;obtain⟨ao,ft⟩:=Qe (putX d (s,t) n ⟨l,lv,a⟩);rw[ft]at bk ac bd;obtain⟨d1,eq⟩:=Qe d.vs.length;rw[eq]at bk dc;have gP:=Z eq;clear ft aS eq;by_cases hnn:H=n
 .subst hnn;have gn:(H==H)=true:=by simp
  obtain⟨q,g⟩:=Qe (decide ((⟨bl,bs,au⟩:aG)=⟨l,lv,a⟩));have g9:Hid (∀W,Bw M W->Calls prog 59 #[.agg #[J h9 bl,J h9 bs,ha cq au cs],.agg #[J h9 l,J h9 lv,ha P a Q]] W λe w'=>e=h1 (hb q)/\Bw W w'):=λW T=>by rw[<- g];exact AP _ _ ⟨bl,bs,au⟩ ⟨l,lv,a⟩ W ⟨_,rfl,(gb.o.kept (λq _ h=>T.block q (by have:=ad.o.1;omega))).mono (hh _) (by have:=ad.o.1;have:=T.size;omega)⟩ ⟨_,rfl,(dq.o.kept (λq _ h=>T.block q (by have:=ad.o.2;omega))).mono (hh _) (by have:=ad.o.2;have:=T.size;omega)⟩ gy ej gz d7.o
  rw[decide_eq_true rfl,g,Bool.true_and]at bk;have HN:Hid (∀W,Calls prog 56 #[hb th,hb q,H,H,J U d1] W λe w'=>e=h1 (J U ao)/\W=w'):=λW=>by rw[bk.o];exact gZ _ _ _ _ _ W
  clear g;go_wp2_with fail;refine Wb M 23 ?_;refine Qb [0,1,3,13,15,17,2,4,14,16,18,5,19,6,20,7,9,8,10] a2 f8 ?_;refine ng (i:=11) rfl (by kernel_rfl) (by rfl) (λK b=>?_);go_simp;go_at_call 59;refine(g9 _ a2).mono ?_;rintro e w6⟨rfl,gi⟩;have O:Bw M w6:=a2.trans gi;refine b _ _ (λ_=>O) ?_;clear b K;go_simp;refine Qa [12] O ?_
  have em:=λty=>dc w6 ty O;refine Ds 21 O ?_;refine Dp 22 λK b=>?_;go_simp;go_at_call 56;refine(HN _).mono ?_;rintro e w9⟨rfl,rfl⟩;refine b _ _ (λ_=>O) ?_;clear b K;refine Dl 23 ?_;clear em;by_cases hx:ao=0;rotate_left
  .have e2:=Z hx;have cj:(ao==0)=false:=by simpa using hx
   go_wp2_with fail;go_ret;rw[ac.o,if_neg e2.o];exact⟨rfl,F,⟨_,_,_,_,al.below O⟩,ai.of_below (btr a6.o O a6.size)⟩
  subst hx;have d5:Hid (putC d (s,t) H ⟨l,lv,a⟩=({d with vs:=insL ltRK d.vs (s,t) (H,⟨l,lv,a⟩)},0)):=by unfold Hid;rw[ac.o,if_pos rfl]
  have d9:Hid (bp {d with vs:=insL ltRK d.vs (s,t) (H,⟨l,lv,a⟩)}):=bd rfl;have dk:=Z (al.below O);have ax:=Z ((O.block _ (af cv.o)).trans cv.o);have ds:Hid (ah lo hi w6 (ha P a Q) a):=dq.o.kept (λq _ h=>O.block q (by have:=ad.o.2;omega));have d4:Hid (Bw w w6):=btr a6.o O a6.size;have bt:Hid (hi<=w6):=by have:=ad.o.2;have:=O.size;unfold Hid;omega
  have c7:¬F w:=λhf=>by have:=f9.o _ hf;omega
  have d2:Hid (Calls prog 57 #[.pointer c] w6 λe z=>e=h1 (.tuple #[])/\∃A j mb me,Hid (ed A z c (X j) (X mb) (X me) kn d)/\Hid (ai F w6 A z)/\Hid (z.heap[w.heap.size]?=X (fn #[s,t,H,J h9 l,J h9 lv,ha P a Q] 64 (0,0)))/\
   Hid (Calls prog 60 #[.agg #[J h9 l,J h9 lv,ha P a Q]] z λe y=>∃D E,e=h1 (.agg #[J h9 l,J h9 lv,ha D a E])/\Hid (ah z y y (ha D a E) a)/\Hid (Bw z y)/\
    y.cell? ⟨w,3,Y⟩=X (J h9 l)/\y.cell? ⟨w,4,Y⟩=X (J h9 lv)/\y.cell? ⟨w,5,Y⟩=X (ha P a Q)/\y.frozen? ⟨w,3,Y⟩=false/\y.frozen? ⟨w,4,Y⟩=false/\y.frozen? ⟨w,5,Y⟩=false)/\
   z.cell? ⟨w,3,Y⟩=X (J h9 l)/\z.cell? ⟨w,4,Y⟩=X (J h9 lv)/\z.cell? ⟨w,5,Y⟩=X (ha P a Q)):=by
   refine(im dk.o).mono ?_
   rintro e z⟨he,A,j,mb,me,hM,V⟩
   have a7:=(V.block _ (af ax.o) c7).trans ax.o
   have e9:ah lo hi z (ha P a Q) a:=ds.o.kept (λq I h=>V.block q (by have:=bt.o;omega) (fb.o q I h))
   obtain⟨_,_,_,b3,b4,b5⟩:=lr a7
   refine⟨he,A,j,mb,me,hM,V,a7,?_,b3,b4,b5⟩
   refine(zk (.agg #[J h9 l,J h9 lv,ha P a Q]) ⟨l,lv,a⟩ z ⟨_,rfl,e9.mono (hh _) (Nat.le_trans bt.o V.size)⟩ ej d7.o).mono ?_
   rintro e y⟨v',he,⟨x2,hv,cl⟩,c2⟩
   obtain⟨D,E,rfl⟩:=cl.shape
   have a0:=(c2.block _ (af a7)).trans a7
   obtain⟨_,_,_,b3,b4,b5⟩:=lr a0
   exact⟨D,E,by rw[he,hv];rfl,cl,c2,b3,b4,b5,ae a0 3,ae a0 4,ae a0 5⟩
  go_wp2_with (first
   |(go_at_call 57;((with_reducible refine hj d2.o ?_);rintro e z⟨rfl,A,j,mb,me,bv,bA,ay,bw,b3,b4,b5⟩))
   |(go_at_call 60;((with_reducible refine hj bw.o ?_);rintro e y⟨D,E,rfl,e6,a5,e3,e4,e5,f3,f4,f5⟩)))
  obtain⟨u,a9⟩:=Qe (((y.setCell ⟨w,3,Y⟩ (J h9 l)).setCell ⟨w,4,Y⟩ (J h9 lv)).setCell ⟨w,5,Y⟩ (ha D a E));have a0:=(a5.block _ (af ay.o)).trans ay.o;have aT:u.heap[w.heap.size]?=X (fn #[s,t,H,J h9 l,J h9 lv,ha D a E] 64 (0,0)):=by rw[<- a9];exact aA (aA (aA a0 3 (J h9 l)) 4 (J h9 lv)) 5 (ha D a E)
  have a3:aF w y u:=by rw[<- a9];exact(((aF.refl _ y).setCell 3 _).setCell 4 _).setCell 5 _
  have er:¬A w:=bA.not (af ax.o) c7;have a1:ed A u c (X j) (X mb) (X me) kn d:=(bv.o.below a5.o).step (λq g=>a3.block q (λe=>er (e▸g))) (by rw[a3.size];exact hd _);have gf:w.heap.size<z:=af ay.o;have c1:ah z y u (ha D a E) a:=e6.o.kept (λq I _=>a3.block q (by omega));have cm:u.heap.size=y:=a3.size;rw[a9];clear a9 a0 e3 e4 e5 f3 f4 f5 b3 b4 b5 bw;obtain⟨ps,q1,q2,q3⟩:=a1.vs;have cg:aH ltRK ps:=by have hs:=a1.ok.ok.vs;rw[<- q1]at hs;unfold aH at hs ⊢;rw[hu]at hs;exact hs
  have gx:ps.length<=5000:=by have:=a1.ok.vlen;rw[<- q1]at this;simpa using this
  have aa:an recB u j (ps.map λp=>(p.1,ju p.1 p.2)):=q2;obtain⟨st,bO,bB,cc,c4,c9,ch⟩:=an.entry (w:=u.drew) (an.drew aa) hU underlying113 lL (s,t) hk (by rw[hy];unfold maxLen;omega);have b8:c≠j:=λe=>(ak aa a1.blk) e.symm;have e8:w≠j:=λe=>(ak aa aT) e.symm;have az:Hid (∀W,aF j u W->W.cell? c=X (hc (X j))/\W.cell? w=X (J U s)/\W.cell? ⟨w,1,Y⟩=X (J U t)/\W.cell? ⟨w,2,Y⟩=X (J U H)/\W.cell? ⟨w,3,Y⟩=X (J h9 l)/\W.cell? ⟨w,4,Y⟩=X (J h9 lv)/\W.cell? ⟨w,5,Y⟩=X (ha D a E)):=λW ho=>by obtain⟨p0,p1,p2,p3,p4,p5⟩:=lr ((ho.block _ e8).trans aT);exact⟨(ab ((ho.block c b8).trans a1.blk) 0).trans rfl,p0,p1,p2,p3,p4,p5⟩
  have bb:aF j u u.drew:=(aF.refl j u).drew;have bY:=az _ bb;have L:=Z a1;have dz:=Z q1;have e0:=Z q3;have e1:=Z cg;have e7:=Z c1;have dy:=Z a3;clear a1 aT q1 q2 q3 cg c1 a3 aa;refine wT (λW=>W.cell? c=X (hc (X j))/\W.cell? w=X (J U s)/\W.cell? ⟨w,1,Y⟩=X (J U t)/\W.cell? ⟨w,2,Y⟩=X (J U H)/\W.cell? ⟨w,3,Y⟩=X (J h9 l)/\W.cell? ⟨w,4,Y⟩=X (J h9 lv)/\W.cell? ⟨w,5,Y⟩=X (ha D a E)) 13 ?_;refine Qb [0,4,6,7,1,5,2,3] bY (λw' h=>h) ?_;refine Dp 8 λK b=>?_;refine bH rfl cc ?_;have bc:aF j u (hg u.drew j (.map bO bB)):=bb.trans c9;have b6:=az _ bc;generalize hg u.drew j (.map bO bB)=w4 at*;refine b _ _ (λ_=>b6) ?_;clear b K;go_simp;refine Qb [9] b6 (λw' h=>h) ?_
  refine Dp 10 λK b=>?_;obtain⟨R,cd,c6,ca⟩:=ch w4 (.agg #[s,t,H,J h9 l,J h9 lv,ha D a E]) c4;refine bj rfl cd ?_;have N:aF j u R:=bc.trans ca;have a8:=az _ N;refine b _ _ (λ_=>a8) ?_;clear b K;go_simp;refine Ds 11 a8 ?_;refine Qb [12] a8 (λw' h=>h) ?_
  have c5:an recB R j ((insL ltRK ps (s,t) ((H,⟨l,lv,a⟩),ha D a E)).map λp=>(p.1,ju p.1 p.2)):=c6.perm (jB aY e1.o (λk v=>ju k v) (s,t) ((H,⟨l,lv,a⟩),ha D a E));have a4:∀q,A q->q<z:=bv.lt;have gd:=a5.size;have ci:jT (restF (λq=>A q∨(z<=q/\q<y)) c (X j) (X mb) (X me)) R (X j) (insL ltRK d.vs (s,t) (H,⟨l,lv,a⟩)):=by
   have gs:=a4 j (L.f1 j rfl);refine jT.ins dz.o e0.o L.o.ok.ok.vs (λq g=>N.block q (λe=>g.2.2.1 (by rw[e]))) (by rw[N.size];exact hd _) (λq g=>⟨.inl g.1,g.2⟩) (e7.o.kept (λq I _=>N.block q (by omega))) (by rw[N.size,cm];exact hd _) (λq I h2=>⟨.inr ⟨I,h2⟩,?_,λe=>?_,λe=>?_,λe=>?_⟩) c5
   .have:=a4 c L.o.fc;omega
   .injection e with e;omega
   .injection e with e;have:=a4 mb (L.o.f2 mb rfl);omega
   injection e with e;have:=a4 me (L.o.f3 me rfl);omega
  have hF:=L.o.put1 (G:=λq=>A q∨(z<=q/\q<y)) N (λq g=>.inl g) (λq g=>by rw[cm];rcases g with g|g;have:=a4 q g;omega;exact g.2) ci d9.o;have c3:R.cell? ⟨c,3,Y⟩=X kn:=(N.cell (p:=⟨c,3,Y⟩) b8).trans ((ab L.blk 3).trans rfl);have f3:R.frozen? ⟨c,3,Y⟩=false:=(N.frozen (p:=⟨c,3,Y⟩) b8).trans (ae L.blk 3);have HF:=Z hF;have dx:=Z N;clear hF bY b6 a8 c6 c5 cd ca c9 ch cc c4 N bb bc ci;refine Dl 13 ?_;go_wp2_with fail;go_ret;rw[d5.o];refine⟨rfl,_,⟨_,_,_,_,HF.o⟩,?_⟩;have es:ai F w F w6:=ai.of_below d4.o;have ex:ai F w A y:=(es.trans bA.o).trans (ai.of_below a5.o);have eQ:ai F w A u:=ex.own dy.o (hd _);have f0:ai A u A R:=ai.of_only dx.o (L.f1 j rfl);have f6:ai A R A (R.setCell ⟨c,3,Y⟩ (fs Y)):=ai.of_only (aF.setCell (aF.refl c R) 3 _) L.fc;refine((eQ.trans f0).trans f6).more λq g=>?_;rcases g with g|g
  .exact .inl g
  exact .inr (by omega)
 have gn:(H==n)=false:=by simpa using hnn
 rw[decide_eq_false hnn,Bool.false_and]at bk;have HN:Hid (∀W,Calls prog 56 #[hb th,hb false,H,n,J U d1] W λe w'=>e=h1 (J U ao)/\W=w'):=λW=>by rw[bk.o];exact gZ _ _ _ _ _ W
 have O:=a2;go_wp2_with fail;refine Wb M 23 ?_;refine Qb [0,1,3,13,15,17,2,4,14,16,18,5,19,6,20] a2 f8 ?_;refine tf 7 rfl a2 ?_;(try go_simp)
 refine tf 9 rfl a2 ?_;(try go_simp)
 refine tf 8 rfl a2 ?_;(try go_simp)
 refine tf 10 rfl a2 ?_;(try go_simp)
 refine tf 11 rfl a2 ?_;(try go_simp)
 refine Qa [12] a2 ?_
 have em:=λty=>dc M.drew ty a2;refine Ds 21 a2 ?_;refine Dp 22 λK b=>?_;go_simp;go_at_call 56;refine(HN _).mono ?_;rintro e w9⟨rfl,rfl⟩;refine b _ _ (λ_=>a2) ?_;clear b K;refine Dl 23 ?_;obtain⟨w6,g6⟩:=Qe M.drew;rw[g6]at O ⊢;clear em g6;by_cases hx:ao=0;rotate_left
 .have e2:=Z hx;have cj:(ao==0)=false:=by simpa using hx
  go_wp2_with fail;go_ret;rw[ac.o,if_neg e2.o];exact⟨rfl,F,⟨_,_,_,_,al.below O⟩,ai.of_below (btr a6.o O a6.size)⟩
 subst hx;have d5:Hid (putC d (s,t) n ⟨l,lv,a⟩=({d with vs:=insL ltRK d.vs (s,t) (n,⟨l,lv,a⟩)},0)):=by unfold Hid;rw[ac.o,if_pos rfl]
 have d9:Hid (bp {d with vs:=insL ltRK d.vs (s,t) (n,⟨l,lv,a⟩)}):=bd rfl;have dk:=Z (al.below O);have ax:=Z ((O.block _ (af cv.o)).trans cv.o);have ds:Hid (ah lo hi w6 (ha P a Q) a):=dq.o.kept (λq _ h=>O.block q (by have:=ad.o.2;omega));have d4:Hid (Bw w w6):=btr a6.o O a6.size;have bt:Hid (hi<=w6):=by have:=ad.o.2;have:=O.size;unfold Hid;omega
 have c7:¬F w:=λhf=>by have:=f9.o _ hf;omega
 have d2:Hid (Calls prog 57 #[.pointer c] w6 λe z=>e=h1 (.tuple #[])/\∃A j mb me,Hid (ed A z c (X j) (X mb) (X me) kn d)/\Hid (ai F w6 A z)/\Hid (z.heap[w.heap.size]?=X (fn #[s,t,n,J h9 l,J h9 lv,ha P a Q] 64 (0,0)))/\
  Hid (Calls prog 60 #[.agg #[J h9 l,J h9 lv,ha P a Q]] z λe y=>∃D E,e=h1 (.agg #[J h9 l,J h9 lv,ha D a E])/\Hid (ah z y y (ha D a E) a)/\Hid (Bw z y)/\
   y.cell? ⟨w,3,Y⟩=X (J h9 l)/\y.cell? ⟨w,4,Y⟩=X (J h9 lv)/\y.cell? ⟨w,5,Y⟩=X (ha P a Q)/\y.frozen? ⟨w,3,Y⟩=false/\y.frozen? ⟨w,4,Y⟩=false/\y.frozen? ⟨w,5,Y⟩=false)/\
  z.cell? ⟨w,3,Y⟩=X (J h9 l)/\z.cell? ⟨w,4,Y⟩=X (J h9 lv)/\z.cell? ⟨w,5,Y⟩=X (ha P a Q)):=by
  refine(im dk.o).mono ?_
  rintro e z⟨he,A,j,mb,me,hM,V⟩
  have a7:=(V.block _ (af ax.o) c7).trans ax.o
  have e9:ah lo hi z (ha P a Q) a:=ds.o.kept (λq I h=>V.block q (by have:=bt.o;omega) (fb.o q I h))
  obtain⟨_,_,_,b3,b4,b5⟩:=lr a7
  refine⟨he,A,j,mb,me,hM,V,a7,?_,b3,b4,b5⟩
  refine(zk (.agg #[J h9 l,J h9 lv,ha P a Q]) ⟨l,lv,a⟩ z ⟨_,rfl,e9.mono (hh _) (Nat.le_trans bt.o V.size)⟩ ej d7.o).mono ?_
  rintro e y⟨v',he,⟨x2,hv,cl⟩,c2⟩
  obtain⟨D,E,rfl⟩:=cl.shape
  have a0:=(c2.block _ (af a7)).trans a7
  obtain⟨_,_,_,b3,b4,b5⟩:=lr a0
  exact⟨D,E,by rw[he,hv];rfl,cl,c2,b3,b4,b5,ae a0 3,ae a0 4,ae a0 5⟩
 go_wp2_with (first
  |(go_at_call 57;((with_reducible refine hj d2.o ?_);rintro e z⟨rfl,A,j,mb,me,bv,bA,ay,bw,b3,b4,b5⟩))
  |(go_at_call 60;((with_reducible refine hj bw.o ?_);rintro e y⟨D,E,rfl,e6,a5,e3,e4,e5,f3,f4,f5⟩)))
 obtain⟨u,a9⟩:=Qe (((y.setCell ⟨w,3,Y⟩ (J h9 l)).setCell ⟨w,4,Y⟩ (J h9 lv)).setCell ⟨w,5,Y⟩ (ha D a E));have a0:=(a5.block _ (af ay.o)).trans ay.o;have aT:u.heap[w.heap.size]?=X (fn #[s,t,n,J h9 l,J h9 lv,ha D a E] 64 (0,0)):=by rw[<- a9];exact aA (aA (aA a0 3 (J h9 l)) 4 (J h9 lv)) 5 (ha D a E)
 have a3:aF w y u:=by rw[<- a9];exact(((aF.refl _ y).setCell 3 _).setCell 4 _).setCell 5 _
 have er:¬A w:=bA.not (af ax.o) c7;have a1:ed A u c (X j) (X mb) (X me) kn d:=(bv.o.below a5.o).step (λq g=>a3.block q (λe=>er (e▸g))) (by rw[a3.size];exact hd _);have gf:w.heap.size<z:=af ay.o;have c1:ah z y u (ha D a E) a:=e6.o.kept (λq I _=>a3.block q (by omega));have cm:u.heap.size=y:=a3.size;rw[a9];clear a9 a0 e3 e4 e5 f3 f4 f5 b3 b4 b5 bw;obtain⟨ps,q1,q2,q3⟩:=a1.vs;have cg:aH ltRK ps:=by have hs:=a1.ok.ok.vs;rw[<- q1]at hs;unfold aH at hs ⊢;rw[hu]at hs;exact hs
 have gx:ps.length<=5000:=by have:=a1.ok.vlen;rw[<- q1]at this;simpa using this
 have aa:an recB u j (ps.map λp=>(p.1,ju p.1 p.2)):=q2;obtain⟨st,bO,bB,cc,c4,c9,ch⟩:=an.entry (w:=u.drew) (an.drew aa) hU underlying113 lL (s,t) hk (by rw[hy];unfold maxLen;omega);have b8:c≠j:=λe=>(ak aa a1.blk) e.symm;have e8:w≠j:=λe=>(ak aa aT) e.symm;have az:Hid (∀W,aF j u W->W.cell? c=X (hc (X j))/\W.cell? w=X (J U s)/\W.cell? ⟨w,1,Y⟩=X (J U t)/\W.cell? ⟨w,2,Y⟩=X (J U n)/\W.cell? ⟨w,3,Y⟩=X (J h9 l)/\W.cell? ⟨w,4,Y⟩=X (J h9 lv)/\W.cell? ⟨w,5,Y⟩=X (ha D a E)):=λW ho=>by obtain⟨p0,p1,p2,p3,p4,p5⟩:=lr ((ho.block _ e8).trans aT);exact⟨(ab ((ho.block c b8).trans a1.blk) 0).trans rfl,p0,p1,p2,p3,p4,p5⟩
 have bb:aF j u u.drew:=(aF.refl j u).drew;have bY:=az _ bb;have L:=Z a1;have dz:=Z q1;have e0:=Z q3;have e1:=Z cg;have e7:=Z c1;have dy:=Z a3;clear a1 aT q1 q2 q3 cg c1 a3 aa;refine wT (λW=>W.cell? c=X (hc (X j))/\W.cell? w=X (J U s)/\W.cell? ⟨w,1,Y⟩=X (J U t)/\W.cell? ⟨w,2,Y⟩=X (J U n)/\W.cell? ⟨w,3,Y⟩=X (J h9 l)/\W.cell? ⟨w,4,Y⟩=X (J h9 lv)/\W.cell? ⟨w,5,Y⟩=X (ha D a E)) 13 ?_;refine Qb [0,4,6,7,1,5,2,3] bY (λw' h=>h) ?_;refine Dp 8 λK b=>?_;refine bH rfl cc ?_;have bc:aF j u (hg u.drew j (.map bO bB)):=bb.trans c9;have b6:=az _ bc;generalize hg u.drew j (.map bO bB)=w4 at*;refine b _ _ (λ_=>b6) ?_;clear b K;go_simp;refine Qb [9] b6 (λw' h=>h) ?_
 refine Dp 10 λK b=>?_;obtain⟨R,cd,c6,ca⟩:=ch w4 (.agg #[s,t,n,J h9 l,J h9 lv,ha D a E]) c4;refine bj rfl cd ?_;have N:aF j u R:=bc.trans ca;have a8:=az _ N;refine b _ _ (λ_=>a8) ?_;clear b K;go_simp;refine Ds 11 a8 ?_;refine Qb [12] a8 (λw' h=>h) ?_
 have c5:an recB R j ((insL ltRK ps (s,t) ((n,⟨l,lv,a⟩),ha D a E)).map λp=>(p.1,ju p.1 p.2)):=c6.perm (jB aY e1.o (λk v=>ju k v) (s,t) ((n,⟨l,lv,a⟩),ha D a E));have a4:∀q,A q->q<z:=bv.lt;have gd:=a5.size;have ci:jT (restF (λq=>A q∨(z<=q/\q<y)) c (X j) (X mb) (X me)) R (X j) (insL ltRK d.vs (s,t) (n,⟨l,lv,a⟩)):=by
  have gs:=a4 j (L.f1 j rfl);refine jT.ins dz.o e0.o L.o.ok.ok.vs (λq g=>N.block q (λe=>g.2.2.1 (by rw[e]))) (by rw[N.size];exact hd _) (λq g=>⟨.inl g.1,g.2⟩) (e7.o.kept (λq I _=>N.block q (by omega))) (by rw[N.size,cm];exact hd _) (λq I h2=>⟨.inr ⟨I,h2⟩,?_,λe=>?_,λe=>?_,λe=>?_⟩) c5
  .have:=a4 c L.o.fc;omega
  .injection e with e;omega
  .injection e with e;have:=a4 mb (L.o.f2 mb rfl);omega
  injection e with e;have:=a4 me (L.o.f3 me rfl);omega
 have hF:=L.o.put1 (G:=λq=>A q∨(z<=q/\q<y)) N (λq g=>.inl g) (λq g=>by rw[cm];rcases g with g|g;have:=a4 q g;omega;exact g.2) ci d9.o;have c3:R.cell? ⟨c,3,Y⟩=X kn:=(N.cell (p:=⟨c,3,Y⟩) b8).trans ((ab L.blk 3).trans rfl);have f3:R.frozen? ⟨c,3,Y⟩=false:=(N.frozen (p:=⟨c,3,Y⟩) b8).trans (ae L.blk 3);have HF:=Z hF;have dx:=Z N;clear hF bY b6 a8 c6 c5 cd ca c9 ch cc c4 N bb bc ci;refine Dl 13 ?_;go_wp2_with fail;go_ret;rw[d5.o];refine⟨rfl,_,⟨_,_,_,_,HF.o⟩,?_⟩;have es:ai F w F w6:=ai.of_below d4.o;have ex:ai F w A y:=(es.trans bA.o).trans (ai.of_below a5.o);have eQ:ai F w A u:=ex.own dy.o (hd _);have f0:ai A u A R:=ai.of_only dx.o (L.f1 j rfl);have f6:ai A R A (R.setCell ⟨c,3,Y⟩ (fs Y)):=ai.of_only (aF.setCell (aF.refl c R) 3 _) L.fc;refine((eQ.trans f0).trans f6).more λq g=>?_;rcases g with g|g
 .exact .inl g
 exact .inr (by omega)
end
end Go.Proofs.YtjcimanddakkaaaGreatDoor
