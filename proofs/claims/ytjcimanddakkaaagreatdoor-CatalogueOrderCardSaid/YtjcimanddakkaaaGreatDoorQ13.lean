/- Lemmas. -/
import Derived.Test.YtjcimanddakkaaaGreatDoorQ8
import Derived.Test.YtjcimanddakkaaaGreatDoorQ12
set_option maxRecDepth 100000
set_option maxHeartbeats 8000000
namespace Go.Proofs.YtjcimanddakkaaaGreatDoor
open _root_.Option renaming some→X,none→Y
open Go.Obj renaming cells→fn
open Go.Value renaming pointer→fs,int→J,slice→hd,bool→hg,map→hh
open Go.Ending renaming returned→hb
open Go.IntKind renaming i64→U,u8→hc
open Go.Lib renaming hid→Z
open Tryz
open _root_.Nat renaming le_refl→ht,zero_le→hy
open Go.ChangeMaps renaming setBlock→hu
open Go.RowKit.Below renaming refl→hz,heap_setCell→hE
open _root_.List renaming pairwise_map→hA,length_map→hD,filter_append→hG,map_append→hJ,find?_cons→hK
open Go.Calls renaming mono→hC
open Go.Instr renaming lookup→hH
open Go renaming World→hI,Value→hL
open Go.World renaming alloc_heap_new→hN,size_setCell→hP
open _root_.Option renaming isSome_none→hO,getD_none→hQ
section
open Go.RowKit Go.Maps Go.Shelf
theorem mR {P:Program} {e:Region.Mode} {b:Array Oper} {Q:Exit->Act->hI->Prop} {S:hI->Prop} {z i:Nat} {o:Oper} {n:Nat} {d:Array Bool} {a:Act} {w:hI} (p:b[i]? =X o) (g:Region.ready e b d=[i]) (m:Region.wanted o (yielded b a.tmps)=true)
 (h:∀K:Act->hI->Prop,(∀c w',(i≠z->S w')->anyT P e b Q S z n (d.setIfInBounds i true) c w'->K c w')->o.wp P a w K Q):anyT P e b Q S z (n+1) d a w:=by
 refine ⟨λk=>absurd k (by rw [g];simp),λj f=>?_⟩;rw [g] at f;obtain rfl:j=i:=by simpa using f
 unfold wpOp;rw [p];simp only [m,if_true];exact .inl (h _ λc w' h1 l=>⟨h1,l⟩)
theorem kY {w:hI} {b t:Nat} {x y z u v q:hL} (h:w.heap[b]? =X (fn #[x,y,z,u,v,q] t (0,0))):w.cell? ⟨b,0,Y⟩=X x/\w.cell? ⟨b,1,Y⟩=X y/\w.cell? ⟨b,2,Y⟩=X z/\w.cell? ⟨b,3,Y⟩=X u/\w.cell? ⟨b,4,Y⟩=X v/\w.cell? ⟨b,5,Y⟩=X q:=
 ⟨(aa h 0).trans rfl,(aa h 1).trans rfl,(aa h 2).trans rfl,(aa h 3).trans rfl,(aa h 4).trans rfl,(aa h 5).trans rfl⟩
theorem eW {K V:Type} [DecidableEq K] (l:List (K×V)) (f:K->V->hL) (k:K):lookL (l.map λp=>(p.1,f p.1 p.2)) k=(findK l k).map (f k):=by
 induction l with
 |nil=>rfl
 |cons p l ih=>
  unfold findK at ih ⊢;rw [List.map_cons,dm,hK];by_cases h:p.1=k
  · rw [if_pos h];simp [h]
  · rw [if_neg h,ih];simp [h]
theorem sA {K V W:Type} [DecidableEq K] (l:List (K×(V×W))) (k:K):findK (l.map λp=>(p.1,p.2.1)) k=(findK l k).map (·.1):=by
 induction l with
 |nil=>rfl
 |cons p l ih=>
  unfold findK at ih ⊢;rw [List.map_cons,hK,hK];by_cases h:p.1=k
  · simp [h]
  · simp only [h,decide_false];exact ih
theorem qi {K V:Type} [DecidableEq K] {l:List (K×V)} {k:K} {v:V} (h:findK l k=X v):(k,v)∈l:=by
 unfold findK at h;rw [Option.map_eq_some_iff] at h;obtain ⟨p,b,rfl⟩:=h;have h1:=List.mem_of_find?_eq_some b;have a:=List.find?_some b;simp at a;rw [<- a];exact h1
def putX (d:ar) (k:RK) (n:Int) (r:az):Int:=aJ (findK d.vs k).isSome (decide (((findK d.vs k).getD (0,⟨0,0,[]⟩)).1=n)&&decide (((findK d.vs k).getD (0,⟨0,0,[]⟩)).2=r)) ((findK d.vs k).getD (0,⟨0,0,[]⟩)).1 n d.vs.length
theorem put_eq (d:ar) (k:RK) (n:Int) (r:az) (a:wrongR r=0):putC d k n r=if putX d k n r=0 then ({d with vs:=insL ltRK d.vs k (n,r)},0) else (d,putX d k n r):=by
 unfold putC putX;rw [if_neg (by simpa using a)];cases findK d.vs k with
 |none=>simp only [hO,hQ];rw [l8 (decide (0=n)&&decide ((⟨0,0,[]⟩:az)=r))]
 |some m=>rfl
theorem bd.put {d:ar} (h:bd d) {k:RK} {n:Int} {r:az} (b:rkOk k) (c:i64B n) (e:wrongR r=0) (f:putX d k n r=0):bd {d with vs:=insL ltRK d.vs k (n,r)}:=by
 refine ⟨⟨bW aN h.ok.vs _ _,h.ok.ds,h.ok.ps,h.ok.apart⟩,?_,h.dlen,h.plen,cO aN h.ok.vs h.right e,cO aN h.ok.vs h.vnum c,h.dnum,h.pnum,cO aN h.ok.vs h.vkey b,h.dkey,h.pkey⟩;exact p8 aN h.ok.vs k (n,r) h.vlen λa=>gg f a
theorem eo {r:az} (h:wrongR r=0):r.fields.length<=1000000/\(∀f∈r.fields,f.subs.length<=1000000)/\bR r.fields:=by
 have a:=yF h;refine ⟨by have:=a.many;omega,λf b=>?_,by have:=a.many;omega,λf b=>by have:=a.long f b;omega⟩;have h1:=a.long f b;have c:=cM f;omega
theorem jM.ins {F G:Nat->Prop} {w a:hI} {m:Nat} {k:RK} {n:Int} {r:az} {x:hL} {lo b:Nat} {ps:List (RK×VX)} {d:VL} (e:ps.map (λp=>(p.1,p.2.1))=d) (f:∀p∈ps,dT F w p) (c:aq ltRK d)
 (i:∀q,F q->a.heap[q]? =w.heap[q]?) (u:w.heap.size<=a.heap.size) (g:∀q,F q->G q) (s:ai lo b a x r.fields) (h:b<=a.heap.size) (t:∀q,lo<=q->q<b->G q) (j:ak recB a m ((insL ltRK ps k ((n,r),x)).map λp=>(p.1,iC p.1 p.2))):
 jM G a (X m) (insL ltRK d k (n,r)):=by
 have o:aq ltRK ps:=by rw [<- e] at c;unfold aq at c ⊢;rw [hA] at c;exact c
 refine ⟨insL ltRK ps k ((n,r),x),by rw [<- e];exact vO ltRK (λq:VX=>q.1) ps k ((n,r),x),j,?_⟩;refine cO aN o (λp l=>((f p l).step i u).wide g) ⟨lo,b,s,h,t⟩
theorem dF.put1 {F:Nat->Prop} {w i:hI} {c a b e:Nat} {D:hL} {d:ar} {G:Nat->Prop} {vs:VL} (h:dF F w c (X a) (X b) (X e) D d) (n:aw a w i) (j:∀k,F k->G k) (y:∀k,G k->k<w.heap.size)
 (B:jM (restF G c (X a) (X b) (X e)) i (X a) vs) (z:bd {d with vs:=vs}):
 dF G (i.setCell ⟨c,3,Y⟩ (fs Y)) c (X a) (X b) (X e) (fs Y) {d with vs:=vs}:=by
 have u:c≠b:=λe=>(aj (show ak recB w b _ from h.ds) h.blk) e.symm;have r:c≠a:=λe=>by obtain ⟨ps,_,g,_⟩:=h.vs;exact (aj (show ak recB w a _ from g) h.blk) e.symm
 have v:c≠e:=λo=>(aj (show ak pairB w e _ from h.ps) h.blk) o.symm;rcases h.one with ⟨h1,_⟩|⟨E,H,o,h1,g,l,p,q,t⟩
 · cases h1
 injection h1 with h1;injection g with g;injection l with l
 subst h1;subst g;subst l;have s:∀k,k≠c->k≠a->(i.setCell ⟨c,3,Y⟩ (fs Y)).heap[k]? =w.heap[k]? :=λk h1 g=>(hE _ _ _ _ h1).trans (n.block k g);have C:(i.setCell ⟨c,3,Y⟩ (fs Y)).heap.size=w.heap.size:=by rw [hP,n.size]
 refine ⟨?_,B.step (λm f=>by injection f with f;subst f;exact hE _ _ _ _ (Ne.symm r)) (λk A=>hE _ _ _ _ A.2.1) (by rw [hP];exact ht _),?_,?_, .inl rfl,j _ h.fc,λm f=>j _ (h.f1 m f),λm f=>j _ (h.f2 m f),λm f=>j _ (h.f3 m f), .inr ⟨a,b,e,rfl,rfl,rfl,p,q,t⟩,λk x=>by rw [C];exact y k x,z⟩
 · exact ap ((n.block c r).trans h.blk) 3 (fs Y)
 · exact ak.block (show ak recB w b _ from h.ds) (s b (Ne.symm u) (Ne.symm p))
 · exact ak.block (show ak pairB w e _ from h.ps) (s e (Ne.symm v) (Ne.symm q))
theorem ag.own {F c:Nat->Prop} {w d e:hI} {b:Nat} (s:ag F w c d) (a:aw b d e) (h:w.heap.size<=b):ag F w c e:=
 ⟨a.os.trans s.os,a.tape.trans s.tape,a.output.trans s.output,by rw [a.size];exact s.size,λk f g=>(a.block k (by omega)).trans (s.block k f g),s.new⟩
theorem ag.more {F a G:Nat->Prop} {w w':hI} (s:ag F w a w') (h:∀k,G k->a k∨w.heap.size<=k):ag F w G w':=
 ⟨s.os,s.tape,s.output,s.size,s.block,λk b=>by
  rcases h k b with h1|h1
  · exact s.new k h1
  · exact .inr h1⟩
theorem tW (F:Nat->Prop) (w:hI) (c:Nat) (d:ar) (h:bf F w c d) (k:RK) (n:Int) (r:az) (x:hL) (hk:rkOk k) (hn:i64B n) (lo hi:Nat) (hx:ai lo hi w x r.fields) (g7:hi<=w.heap.size) (hF:∀q,lo<=q->q<hi->¬F q) (f9:bR r.fields):
 Calls prog 29 #[fs (X ⟨c,0,Y⟩),kT k n r x] w λe w'=>e=hb (J U (putC d k n r).2)/\∃A,bf A w' c (putC d k n r).1/\ag F w A w':=by
 have ad:=Z (put_eq d k n r);have da:Hid (wrongR r≠0->putC d k n r=(d,11)):=λhw=>by unfold putC;rw [if_pos hw]
 have bs:Hid (wrongR r=0->putX d k n r=0->bd {d with vs:=insL ltRK d.vs k (n,r)}):=by obtain ⟨_,_,_,_,h⟩:=h;exact λhr hx=>h.ok.put hk hn hr hx
 have b6:Hid (putX d k n r=aJ (findK d.vs k).isSome (decide (((findK d.vs k).getD (0,⟨0,0,[]⟩)).1=n)&&decide (((findK d.vs k).getD (0,⟨0,0,[]⟩)).2=r)) ((findK d.vs k).getD (0,⟨0,0,[]⟩)).1 n d.vs.length):=rfl;have fx:Hid (wrongR r=0->r.fields.length<=1000000/\(∀f∈r.fields,f.subs.length<=1000000)/\bR r.fields):=eo;obtain ⟨m1,m2,m3,kn,h⟩:=h;obtain ⟨O,P,rfl⟩:=hx.shape;obtain ⟨W1,ej⟩:=Qe (w.alloc (fn #[J U k.1,J U k.2,J U n,J hc r.kind.toNat,J hc r.level.toNat,hd O r.fields.length P] 64));have d3:Bw w W1:=by rw [<- ej];exact (hz _ w).alloc (ht _) _
 have hB:W1.heap[w.heap.size]? =X (fn #[J U k.1,J U k.2,J U n,J hc r.kind.toNat,J hc r.level.toNat,hd O r.fields.length P] 64 (0,0)):=by rw [<- ej];exact hN w _
 have cQ:Hid (W1.heap.size=w.heap.size+1):=by unfold Hid;rw [<- ej];simp
 have cq:ai lo hi W1 (hd O r.fields.length P) r.fields:=hx.kept (λq _ g=>d3.block q (by omega))
 have HR:Hid (∀W,Bw W1 W->Calls prog 58 #[.agg #[J hc r.kind.toNat,J hc r.level.toNat,hd O r.fields.length P]] W λe w'=>e=hb (hg (decide (wrongR r=0)))/\Bw W w'):=λW R=>
  yG r _ W ⟨_,rfl,(cq.kept (λq _ g=>R.block q (by have:=cQ.o;omega))).mono (hy _) (by have:=R.size;have:=cQ.o;omega)⟩ f9
 have HM:=Z (h.below d3);have fy:=Z cq;have HB:=Z hB;have cz:=Z d3;have fp:=Z h.lt;have dd:Hid (hi<=w.heap.size):=g7;have fr:=Z hF;obtain ⟨s,t⟩:=k;obtain ⟨l,lv,a⟩:=r;unfold kT;dsimp only at *;obtain ⟨b0,b1,b2,b3,b4,b5⟩:=kY hB;clear h d3 hB hx cq g7 hF f9;by_cases hr:wrongR ⟨l,lv,a⟩=0
 · rw [decide_eq_true hr] at HR;have ft:=Z hr;obtain ⟨eq,g6,f9⟩:=fx hr;have dc:=Z g6;clear hr fx da g6;have ad:=Z (ad ft.o);have bs:=Z (bs ft.o);go_enter func29,ntmps29;go_wp2_with (go_at_call 58;((with_reducible refine hC (HR.o _ (hz _ _)) ?_);rintro e B ⟨rfl,ax⟩))
   have aT:=Z (HM.below ax);have d0:=(ax.block _ (ae HB.o)).trans HB.o;have d7:Hid (Bw w B):=btr cz.o ax cz.size;clear b0 b1 b2 b3 b4 b5 HR
   obtain ⟨kk,H,r',x',th,dp,bt,cd,gO,gP⟩:∃(kk:RK) (H:Int) (r':az) (x':hL) (th:Bool),Hid (∀W,(∀m,m1=X m->W.heap[m]? =B.heap[m]?)->(hH 113 (.map m1) (.agg #[J U s,J U t]) true).run prog W= .ok (.tuple #[kT kk H r' x',hg th]) W)/\
    Hid (putX d (s,t) n ⟨l,lv,a⟩=aJ th (decide (H=n)&&decide (r'=⟨l,lv,a⟩)) H n d.vs.length)/\(∃cv bc,ai cv bc B x' r'.fields/\bc<=B.heap.size)/\r'.fields.length<=1000000/\(∀f∈r'.fields,f.subs.length<=1000000):=by
    obtain ⟨ps,q1,q2,q3⟩:=aT.vs
    have d4:∀W,(∀m,m1=X m->W.heap[m]? =B.heap[m]?)->(hH 113 (.map m1) (.agg #[J U s,J U t]) true).run prog W= .ok (.tuple #[((findK ps (s,t)).map (iC (s,t))).getD (.agg #[J U 0,J U 0,J U 0,J hc 0,J hc 0,hd Y 0 0]),hg ((findK ps (s,t)).map (iC (s,t))).isSome]) W:=λW hW=>by
     have:=bQ.look_ok (w:=W) (q2.block hW) underlying113 jO (s,t) hk
     rw [eW] at this
     exact this
    have gs:findK d.vs (s,t)=(findK ps (s,t)).map (·.1):=by rw [<- q1];exact sA ps (s,t)
    rw [gs] at b6
    cases hf:findK ps (s,t) with
    |none=>
     rw [hf] at d4 b6
     exact ⟨(0,0),0,⟨0,0,[]⟩,hd Y 0 0,false,d4,b6,⟨0,0,⟨[],rfl,(by intro p hp;cases hp),Y,0,rfl,λh=>absurd rfl h⟩,hy _⟩,hy _,(by intro f hf;cases hf)⟩
    |some v=>
     rw [hf] at d4 b6
     obtain ⟨⟨H,r'⟩,x'⟩:=v
     have hm:=qi hf
     obtain ⟨cv,bc,g1,g2,_⟩:=q3 _ hm
     have gy:((s,t),(H,r'))∈d.vs:=by rw [<- q1];exact List.mem_map.2 ⟨_,hm,rfl⟩
     obtain ⟨s1,s2,_⟩:=eo (aT.ok.right _ gy)
     exact ⟨(s,t),H,r',x',true,d4,b6,⟨cv,bc,g1,g2⟩,s1,s2⟩
   obtain ⟨cv,bc,cd,gt⟩:=cd;obtain ⟨cx,cy,rfl⟩:=cd.shape;obtain ⟨gb,gc⟩:=kk;obtain ⟨bw,bA,av⟩:=r';unfold kT at dp;dsimp only at *;obtain ⟨b0,b1,b2,b3,b4,b5⟩:=kY d0;have T:B.drew.cell? ⟨c,0,Y⟩=X (.map m1)/\B.drew.cell? ⟨w.heap.size,0,Y⟩=X (J U s)/\B.drew.cell? ⟨w.heap.size,1,Y⟩=X (J U t)/\(∀m,m1=X m->B.drew.heap[m]? =B.heap[m]?):=⟨(aa aT.blk 0).trans rfl,b0,b1,λ_ _=>rfl⟩;have dk:Hid (∀W,Bw B W->W.cell? ⟨c,0,Y⟩=X (.map m1)/\W.cell? ⟨w.heap.size,0,Y⟩=X (J U s)/\W.cell? ⟨w.heap.size,1,Y⟩=X (J U t)/\(∀m,m1=X m->W.heap[m]? =B.heap[m]?)):=λW R=>⟨fN R _ _ T.1,fN R _ _ T.2.1,fN R _ _ T.2.2.1,λm hm=>R.block m (aT.lt m (aT.f1 m hm))⟩;clear b0 b1 b2 b3 b4 b5;refine wT (λW=>W.cell? ⟨c,0,Y⟩=X (.map m1)/\W.cell? ⟨w.heap.size,0,Y⟩=X (J U s)/\W.cell? ⟨w.heap.size,1,Y⟩=X (J U t)/\(∀m,m1=X m->W.heap[m]? =B.heap[m]?)) 12 ?_;refine Qb [0,4,1,5,2,3] T (λw' h=>h) ?_;refine tk 6 ?_ rfl T ?_ ?_;rotate_left;intro w' h;obtain ⟨h0,h1,h2,h3⟩:=h;have hl:=dp w' h3;go_simp;rfl;try go_simp
   refine Qb [7,8,9] T (λw' h=>h) ?_;refine Dp 10 λK b=>?_;go_simp;have g0:∀o,Bw B (B.drew.alloc o):=λo=>(hz _ B).drew.alloc (ht _) o;refine b _ _ (λ_=>dk _ (g0 _)) ?_;clear b K;refine Dp 11 λK b=>?_;go_simp;have em:∀o,Bw B (B.alloc o).drew:=λo=>((hz _ B).alloc (ht _) o).drew;refine b _ _ (λ_=>dk _ (em _)) ?_;clear b K;refine Dl 12 ?_;obtain ⟨L,c2⟩:=Qe ((B.alloc (fn #[J U gb,J U gc,J U H,J hc bw.toNat,J hc bA.toNat,hd cx av.length cy] 64)).drew);have d2:L.heap[B.heap.size]? =X (fn #[J U gb,J U gc,J U H,J hc bw.toNat,J hc bA.toNat,hd cx av.length cy] 64 (0,0)):=by rw [<- c2];exact hN B _
   have b9:Bw B L:=by rw [<- c2];exact em _
   have ha:Hid (L.heap.size=B.heap.size+1):=by unfold Hid;rw [<- c2];show (B.alloc _).heap.size=_;simp
   have ao:=Z (aT.below b9);have d1:=(b9.block _ (ae d0)).trans d0;have a6:Hid (Bw w L):=btr d7.o b9 d7.size;have gf:Hid (ai cv bc L (hd cx av.length cy) av):=cd.kept (λq _ g=>b9.block q (by omega));have dx:Hid (ai lo hi L (hd O a.length P) a):=fy.o.kept (λq _ g=>(b9.block q (by have:=ax.size;have:=cQ.o;have:=dd.o;omega)).trans (ax.block q (by have:=cQ.o;have:=dd.o;omega)));have al:Hid (bc<=L.heap.size/\hi<=L.heap.size):=by have:=a6.o.size;have:=dd.o;have:=b9.size;exact ⟨by omega,by omega⟩
   rw [c2];clear T dk g0 em c2 b9 dp aT d0 d7 cd gt HM fy HB
   have fl:Hid (∀W,Bw L W->W.cell? ⟨c,0,Y⟩=X (.map m1)/\(W.cell? ⟨w.heap.size,2,Y⟩=X (J U n)/\W.cell? ⟨w.heap.size,3,Y⟩=X (J hc l.toNat)/\W.cell? ⟨w.heap.size,4,Y⟩=X (J hc lv.toNat)/\W.cell? ⟨w.heap.size,5,Y⟩=X (hd O a.length P))/\
    W.cell? ⟨B.heap.size,2,Y⟩=X (J U H)/\W.cell? ⟨B.heap.size,3,Y⟩=X (J hc bw.toNat)/\W.cell? ⟨B.heap.size,4,Y⟩=X (J hc bA.toNat)/\W.cell? ⟨B.heap.size,5,Y⟩=X (hd cx av.length cy)):=λW R=>by
    obtain ⟨_,_,g2,g3,g4,g5⟩:=kY ((R.block _ (ae d1)).trans d1)
    obtain ⟨_,_,f2,f3,f4,f5⟩:=kY ((R.block _ (ae d2)).trans d2)
    exact ⟨(aa ((R.block c (ao.lt c ao.fc)).trans ao.blk) 0).trans rfl,⟨g2,g3,g4,g5⟩,f2,f3,f4,f5⟩
   have g8:∀W ty,Bw L W->(Builtin.len_ #[113] ty #[.map m1]).run prog W= .ok (J U d.vs.length) W:=λW ty R=>by obtain ⟨ps,q1,q2,_⟩:=(ao.below R).vs;have:=bQ.len q2 underlying113 ty;rw [hD,show ps.length=d.vs.length by rw [<- q1];simp] at this;exact this
   have dn:=Z g8;clear g8;have cP:=Z d1;have gQ:=Z d2;clear d1 d2;have a2:Bw L L.drew:=(hz _ L).drew;obtain ⟨au,fz⟩:=Qe (putX d (s,t) n ⟨l,lv,a⟩);rw [fz] at bt ad bs;obtain ⟨d5,es⟩:=Qe d.vs.length;rw [es] at bt dn;have h9:=Z es;clear fz b6 es;by_cases hnn:H=n
   · subst hnn;have gq:(H==H)=true:=by simp
     obtain ⟨q,g⟩:=Qe (decide ((⟨bw,bA,av⟩:az)=⟨l,lv,a⟩));have gd:Hid (∀W,Bw L W->Calls prog 59 #[.agg #[J hc bw.toNat,J hc bA.toNat,hd cx av.length cy], .agg #[J hc l.toNat,J hc lv.toNat,hd O a.length P]] W λe w'=>e=hb (hg q)/\Bw W w'):=λW R=>by rw [<- g];exact Ay _ _ ⟨bw,bA,av⟩ ⟨l,lv,a⟩ W ⟨_,rfl,(gf.o.kept (λq _ h=>R.block q (by have:=al.o.1;omega))).mono (hy _) (by have:=al.o.1;have:=R.size;omega)⟩ ⟨_,rfl,(dx.o.kept (λq _ h=>R.block q (by have:=al.o.2;omega))).mono (hy _) (by have:=al.o.2;have:=R.size;omega)⟩ gO eq gP dc.o
     rw [decide_eq_true rfl,g,Bool.true_and] at bt;have HN:Hid (∀W,Calls prog 56 #[hg th,hg q,J U H,J U H,J U d5] W λe w'=>e=hb (J U au)/\W=w'):=λW=>by rw [bt.o];exact gU _ _ _ _ _ W
     clear g;go_wp2_with fail
     refine Wb L 23 ?_;refine Qb [0,1,3,13,15,17,2,4,14,16,18,5,19,6,20,7,9,8,10] a2 fl ?_;refine mR (i:=11) rfl (by kernel_rfl) (by rfl) (λK b=>?_);go_simp;go_at_call 59;refine (gd _ a2).mono ?_;rintro e w6 ⟨rfl,gp⟩;have N:Bw L w6:=a2.trans gp;refine b _ _ (λ_=>N) ?_;clear b K;go_simp;refine Qa [12] N ?_
     have er:=λty=>dn w6 ty N;refine Ds 21 N ?_;refine Dp 22 λK b=>?_;go_simp;go_at_call 56;refine (HN _).mono ?_;rintro e w9 ⟨rfl,rfl⟩;refine b _ _ (λ_=>N) ?_;clear b K;refine Dl 23 ?_;clear er;by_cases hx:au=0
     · subst hx;have d9:Hid (putC d (s,t) H ⟨l,lv,a⟩=({d with vs:=insL ltRK d.vs (s,t) (H,⟨l,lv,a⟩)},0)):=by unfold Hid;rw [ad.o,if_pos rfl]
       have di:Hid (bd {d with vs:=insL ltRK d.vs (s,t) (H,⟨l,lv,a⟩)}):=bs rfl;have ds:=Z (ao.below N);have ay:=Z ((N.block _ (ae cP.o)).trans cP.o);have dy:Hid (ai lo hi w6 (hd O a.length P) a):=dx.o.kept (λq _ h=>N.block q (by have:=al.o.2;omega));have d8:Hid (Bw w w6):=btr a6.o N a6.size;have bB:Hid (hi<=w6.heap.size):=by have:=al.o.2;have:=N.size;unfold Hid;omega
       have ca:¬F w.heap.size:=λhf=>by have:=fp.o _ hf;omega
       have d6:Hid (Calls prog 57 #[fs (X ⟨c,0,Y⟩)] w6 λe z=>e=hb (.tuple #[])/\∃A j V me,Hid (dF A z c (X j) (X V) (X me) kn d)/\Hid (ag F w6 A z)/\Hid (z.heap[w.heap.size]? =X (fn #[J U s,J U t,J U H,J hc l.toNat,J hc lv.toNat,hd O a.length P] 64 (0,0)))/\
        Hid (Calls prog 60 #[.agg #[J hc l.toNat,J hc lv.toNat,hd O a.length P]] z λe y=>∃D E,e=hb (.agg #[J hc l.toNat,J hc lv.toNat,hd D a.length E])/\Hid (ai z.heap.size y.heap.size y (hd D a.length E) a)/\Hid (Bw z y)/\
         y.cell? ⟨w.heap.size,3,Y⟩=X (J hc l.toNat)/\y.cell? ⟨w.heap.size,4,Y⟩=X (J hc lv.toNat)/\y.cell? ⟨w.heap.size,5,Y⟩=X (hd O a.length P)/\y.frozen? ⟨w.heap.size,3,Y⟩=false/\y.frozen? ⟨w.heap.size,4,Y⟩=false/\y.frozen? ⟨w.heap.size,5,Y⟩=false)/\
        z.cell? ⟨w.heap.size,3,Y⟩=X (J hc l.toNat)/\z.cell? ⟨w.heap.size,4,Y⟩=X (J hc lv.toNat)/\z.cell? ⟨w.heap.size,5,Y⟩=X (hd O a.length P)):=by
        refine (ii ds.o).mono ?_
        rintro e z ⟨he,A,j,V,me,hM,T⟩
        have a7:=(T.block _ (ae ay.o) ca).trans ay.o
        have eg:ai lo hi z (hd O a.length P) a:=dy.o.kept (λq h1 h=>T.block q (by have:=bB.o;omega) (fr.o q h1 h))
        obtain ⟨_,_,_,b3,b4,b5⟩:=kY a7
        refine ⟨he,A,j,V,me,hM,T,a7,?_,b3,b4,b5⟩
        refine (yQ (.agg #[J hc l.toNat,J hc lv.toNat,hd O a.length P]) ⟨l,lv,a⟩ z ⟨_,rfl,eg.mono (hy _) (Nat.le_trans bB.o T.size)⟩ eq dc.o).mono ?_
        rintro e y ⟨v',he,⟨x2,hv,cs⟩,c5⟩
        obtain ⟨D,E,rfl⟩:=cs.shape
        have a0:=(c5.block _ (ae a7)).trans a7
        obtain ⟨_,_,_,b3,b4,b5⟩:=kY a0
        exact ⟨D,E,by rw [he,hv];rfl,cs,c5,b3,b4,b5,ab a0 3,ab a0 4,ab a0 5⟩
       go_wp2_with (first
        |(go_at_call 57;((with_reducible refine hC d6.o ?_);rintro e z ⟨rfl,A,j,V,me,bD,bT,aC,bO,b3,b4,b5⟩))
        |(go_at_call 60;((with_reducible refine hC bO.o ?_);rintro e y ⟨D,E,rfl,e8,a5,e3,e4,e5,f3,f4,f5⟩)))
       obtain ⟨u,a9⟩:=Qe (((y.setCell ⟨w.heap.size,3,Y⟩ (J hc l.toNat)).setCell ⟨w.heap.size,4,Y⟩ (J hc lv.toNat)).setCell ⟨w.heap.size,5,Y⟩ (hd D a.length E));have a0:=(a5.block _ (ae aC.o)).trans aC.o;have b7:u.heap[w.heap.size]? =X (fn #[J U s,J U t,J U H,J hc l.toNat,J hc lv.toNat,hd D a.length E] 64 (0,0)):=by rw [<- a9];exact ap (ap (ap a0 3 (J hc l.toNat)) 4 (J hc lv.toNat)) 5 (hd D a.length E)
       have a3:aw w.heap.size y u:=by rw [<- a9];exact (((aw.refl _ y).setCell 3 _).setCell 4 _).setCell 5 _
       have ex:¬A w.heap.size:=bT.not (ae ay.o) ca;have a1:dF A u c (X j) (X V) (X me) kn d:=(bD.o.below a5.o).step (λq g=>a3.block q (λe=>ex (e ▸ g))) (by rw [a3.size];exact ht _);have gn:w.heap.size<z.heap.size:=ae aC.o;have c4:ai z.heap.size y.heap.size u (hd D a.length E) a:=e8.o.kept (λq h1 _=>a3.block q (by omega));have cu:u.heap.size=y.heap.size:=a3.size;rw [a9];clear a9 a0 e3 e4 e5 f3 f4 f5 b3 b4 b5 bO;obtain ⟨ps,q1,q2,q3⟩:=a1.vs;have cl:aq ltRK ps:=by have hs:=a1.ok.ok.vs;rw [<- q1] at hs;unfold aq at hs ⊢;rw [hA] at hs;exact hs
       have gz:ps.length<=5000:=by have:=a1.ok.vlen;rw [<- q1] at this;simpa using this
       have ac:ak recB u j (ps.map λp=>(p.1,iC p.1 p.2)):=q2;obtain ⟨st,c0,bY,cg,c6,cb,cm⟩:=ak.entry (w:=u.drew) (ak.drew ac) gX underlying113 jO (s,t) hk (by rw [hD];unfold maxLen;omega);have bb:c≠j:=λe=>(aj ac a1.blk) e.symm;have ee:w.heap.size≠j:=λe=>(aj ac b7) e.symm;have aS:Hid (∀W,aw j u W->W.cell? ⟨c,0,Y⟩=X (hh (X j))/\W.cell? ⟨w.heap.size,0,Y⟩=X (J U s)/\W.cell? ⟨w.heap.size,1,Y⟩=X (J U t)/\W.cell? ⟨w.heap.size,2,Y⟩=X (J U H)/\W.cell? ⟨w.heap.size,3,Y⟩=X (J hc l.toNat)/\W.cell? ⟨w.heap.size,4,Y⟩=X (J hc lv.toNat)/\W.cell? ⟨w.heap.size,5,Y⟩=X (hd D a.length E)):=λW ho=>by obtain ⟨p0,p1,p2,p3,p4,p5⟩:=kY ((ho.block _ ee).trans b7);exact ⟨(aa ((ho.block c bb).trans a1.blk) 0).trans rfl,p0,p1,p2,p3,p4,p5⟩
       have bk:aw j u u.drew:=(aw.refl j u).drew;have c1:=aS _ bk;have I:=Z a1;have e1:=Z q1;have e2:=Z q3;have e6:=Z cl;have e9:=Z c4;have e0:=Z a3;clear a1 b7 q1 q2 q3 cl c4 a3 ac;refine wT (λW=>W.cell? ⟨c,0,Y⟩=X (hh (X j))/\W.cell? ⟨w.heap.size,0,Y⟩=X (J U s)/\W.cell? ⟨w.heap.size,1,Y⟩=X (J U t)/\W.cell? ⟨w.heap.size,2,Y⟩=X (J U H)/\W.cell? ⟨w.heap.size,3,Y⟩=X (J hc l.toNat)/\W.cell? ⟨w.heap.size,4,Y⟩=X (J hc lv.toNat)/\W.cell? ⟨w.heap.size,5,Y⟩=X (hd D a.length E)) 13 ?_;refine Qb [0,4,6,7,1,5,2,3] c1 (λw' h=>h) ?_;refine Dp 8 λK b=>?_;refine bq rfl cg ?_;have bp:aw j u (hu u.drew j (.map c0 bY)):=bk.trans cb;have b8:=aS _ bp;generalize hu u.drew j (.map c0 bY)=w4 at *;refine b _ _ (λ_=>b8) ?_;clear b K;go_simp;refine Qb [9] b8 (λw' h=>h) ?_
       refine Dp 10 λK b=>?_;obtain ⟨Q,ch,c9,cc⟩:=cm w4 (.agg #[J U s,J U t,J U H,J hc l.toNat,J hc lv.toNat,hd D a.length E]) c6;refine aY rfl ch ?_;have M:aw j u Q:=bp.trans cc;have a8:=aS _ M;refine b _ _ (λ_=>a8) ?_;clear b K;go_simp;refine Ds 11 a8 ?_;refine Qb [12] a8 (λw' h=>h) ?_
       have c7:ak recB Q j ((insL ltRK ps (s,t) ((H,⟨l,lv,a⟩),hd D a.length E)).map λp=>(p.1,iC p.1 p.2)):=c9.perm (jy aN e6.o (λk v=>iC k v) (s,t) ((H,⟨l,lv,a⟩),hd D a.length E));have a4:∀q,A q->q<z.heap.size:=bD.lt;have gi:=a5.size;have cp:jM (restF (λq=>A q∨(z.heap.size<=q/\q<y.heap.size)) c (X j) (X V) (X me)) Q (X j) (insL ltRK d.vs (s,t) (H,⟨l,lv,a⟩)):=by
        have gx:=a4 j (I.f1 j rfl);refine jM.ins e1.o e2.o I.o.ok.ok.vs (λq g=>M.block q (λe=>g.2.2.1 (by rw [e]))) (by rw [M.size];exact ht _) (λq g=>⟨.inl g.1,g.2⟩) (e9.o.kept (λq h1 _=>M.block q (by omega))) (by rw [M.size,cu];exact ht _) (λq h1 h2=>⟨.inr ⟨h1,h2⟩,?_,λe=>?_,λe=>?_,λe=>?_⟩) c7
        · have:=a4 c I.o.fc;omega
        · injection e with e;omega
        · injection e with e;have:=a4 V (I.o.f2 V rfl);omega
        · injection e with e;have:=a4 me (I.o.f3 me rfl);omega
       have hF:=I.o.put1 (G:=λq=>A q∨(z.heap.size<=q/\q<y.heap.size)) M (λq g=> .inl g) (λq g=>by rw [cu];rcases g with g|g;have:=a4 q g;omega;exact g.2) cp di.o;have c3:Q.cell? ⟨c,3,Y⟩=X kn:=(M.cell (p:=⟨c,3,Y⟩) bb).trans ((aa I.blk 3).trans rfl);have f3:Q.frozen? ⟨c,3,Y⟩=false:=(M.frozen (p:=⟨c,3,Y⟩) bb).trans (ab I.blk 3);have HF:=Z hF;have dz:=Z M;clear hF c1 b8 a8 c9 c7 ch cc cb cm cg c6 M bk bp cp;refine Dl 13 ?_;go_wp2_with fail
       go_ret;rw [d9.o];refine ⟨rfl,_,⟨_,_,_,_,HF.o⟩,?_⟩;have eQ:ag F w F w6:=ag.of_below d8.o;have f0:ag F w A y:=(eQ.trans bT.o).trans (ag.of_below a5.o);have f6:ag F w A u:=f0.own e0.o (ht _);have f7:ag A u A Q:=ag.of_only dz.o (I.f1 j rfl);have f8:ag A Q A (Q.setCell ⟨c,3,Y⟩ (fs Y)):=ag.of_only (aw.setCell (aw.refl c Q) 3 _) I.fc;refine ((f6.trans f7).trans f8).more λq g=>?_;rcases g with g|g
       · exact .inl g
       · exact .inr (by omega)
     · have e7:=Z hx;have cq:(au==0)=false:=by simpa using hx
       go_wp2_with fail
       go_ret;rw [ad.o,if_neg e7.o];exact ⟨rfl,F,⟨_,_,_,_,ao.below N⟩,ag.of_below (btr a6.o N a6.size)⟩
   · have gq:(H==n)=false:=by simpa using hnn
     rw [decide_eq_false hnn,Bool.false_and] at bt;have HN:Hid (∀W,Calls prog 56 #[hg th,hg false,J U H,J U n,J U d5] W λe w'=>e=hb (J U au)/\W=w'):=λW=>by rw [bt.o];exact gU _ _ _ _ _ W
     have N:=a2;go_wp2_with fail
     refine Wb L 23 ?_;refine Qb [0,1,3,13,15,17,2,4,14,16,18,5,19,6,20] a2 fl ?_;refine tf 7 rfl a2 ?_;(try go_simp)
     refine tf 9 rfl a2 ?_;(try go_simp)
     refine tf 8 rfl a2 ?_;(try go_simp)
     refine tf 10 rfl a2 ?_;(try go_simp)
     refine tf 11 rfl a2 ?_;(try go_simp)
     refine Qa [12] a2 ?_
     have er:=λty=>dn L.drew ty a2;refine Ds 21 a2 ?_;refine Dp 22 λK b=>?_;go_simp;go_at_call 56;refine (HN _).mono ?_;rintro e w9 ⟨rfl,rfl⟩;refine b _ _ (λ_=>a2) ?_;clear b K;refine Dl 23 ?_;obtain ⟨w6,g9⟩:=Qe L.drew;rw [g9] at N ⊢;clear er g9;by_cases hx:au=0
     · subst hx;have d9:Hid (putC d (s,t) n ⟨l,lv,a⟩=({d with vs:=insL ltRK d.vs (s,t) (n,⟨l,lv,a⟩)},0)):=by unfold Hid;rw [ad.o,if_pos rfl]
       have di:Hid (bd {d with vs:=insL ltRK d.vs (s,t) (n,⟨l,lv,a⟩)}):=bs rfl;have ds:=Z (ao.below N);have ay:=Z ((N.block _ (ae cP.o)).trans cP.o);have dy:Hid (ai lo hi w6 (hd O a.length P) a):=dx.o.kept (λq _ h=>N.block q (by have:=al.o.2;omega));have d8:Hid (Bw w w6):=btr a6.o N a6.size;have bB:Hid (hi<=w6.heap.size):=by have:=al.o.2;have:=N.size;unfold Hid;omega
       have ca:¬F w.heap.size:=λhf=>by have:=fp.o _ hf;omega
       have d6:Hid (Calls prog 57 #[fs (X ⟨c,0,Y⟩)] w6 λe z=>e=hb (.tuple #[])/\∃A j V me,Hid (dF A z c (X j) (X V) (X me) kn d)/\Hid (ag F w6 A z)/\Hid (z.heap[w.heap.size]? =X (fn #[J U s,J U t,J U n,J hc l.toNat,J hc lv.toNat,hd O a.length P] 64 (0,0)))/\
        Hid (Calls prog 60 #[.agg #[J hc l.toNat,J hc lv.toNat,hd O a.length P]] z λe y=>∃D E,e=hb (.agg #[J hc l.toNat,J hc lv.toNat,hd D a.length E])/\Hid (ai z.heap.size y.heap.size y (hd D a.length E) a)/\Hid (Bw z y)/\
         y.cell? ⟨w.heap.size,3,Y⟩=X (J hc l.toNat)/\y.cell? ⟨w.heap.size,4,Y⟩=X (J hc lv.toNat)/\y.cell? ⟨w.heap.size,5,Y⟩=X (hd O a.length P)/\y.frozen? ⟨w.heap.size,3,Y⟩=false/\y.frozen? ⟨w.heap.size,4,Y⟩=false/\y.frozen? ⟨w.heap.size,5,Y⟩=false)/\
        z.cell? ⟨w.heap.size,3,Y⟩=X (J hc l.toNat)/\z.cell? ⟨w.heap.size,4,Y⟩=X (J hc lv.toNat)/\z.cell? ⟨w.heap.size,5,Y⟩=X (hd O a.length P)):=by
        refine (ii ds.o).mono ?_
        rintro e z ⟨he,A,j,V,me,hM,T⟩
        have a7:=(T.block _ (ae ay.o) ca).trans ay.o
        have eg:ai lo hi z (hd O a.length P) a:=dy.o.kept (λq h1 h=>T.block q (by have:=bB.o;omega) (fr.o q h1 h))
        obtain ⟨_,_,_,b3,b4,b5⟩:=kY a7
        refine ⟨he,A,j,V,me,hM,T,a7,?_,b3,b4,b5⟩
        refine (yQ (.agg #[J hc l.toNat,J hc lv.toNat,hd O a.length P]) ⟨l,lv,a⟩ z ⟨_,rfl,eg.mono (hy _) (Nat.le_trans bB.o T.size)⟩ eq dc.o).mono ?_
        rintro e y ⟨v',he,⟨x2,hv,cs⟩,c5⟩
        obtain ⟨D,E,rfl⟩:=cs.shape
        have a0:=(c5.block _ (ae a7)).trans a7
        obtain ⟨_,_,_,b3,b4,b5⟩:=kY a0
        exact ⟨D,E,by rw [he,hv];rfl,cs,c5,b3,b4,b5,ab a0 3,ab a0 4,ab a0 5⟩
       go_wp2_with (first
        |(go_at_call 57;((with_reducible refine hC d6.o ?_);rintro e z ⟨rfl,A,j,V,me,bD,bT,aC,bO,b3,b4,b5⟩))
        |(go_at_call 60;((with_reducible refine hC bO.o ?_);rintro e y ⟨D,E,rfl,e8,a5,e3,e4,e5,f3,f4,f5⟩)))
       obtain ⟨u,a9⟩:=Qe (((y.setCell ⟨w.heap.size,3,Y⟩ (J hc l.toNat)).setCell ⟨w.heap.size,4,Y⟩ (J hc lv.toNat)).setCell ⟨w.heap.size,5,Y⟩ (hd D a.length E));have a0:=(a5.block _ (ae aC.o)).trans aC.o;have b7:u.heap[w.heap.size]? =X (fn #[J U s,J U t,J U n,J hc l.toNat,J hc lv.toNat,hd D a.length E] 64 (0,0)):=by rw [<- a9];exact ap (ap (ap a0 3 (J hc l.toNat)) 4 (J hc lv.toNat)) 5 (hd D a.length E)
       have a3:aw w.heap.size y u:=by rw [<- a9];exact (((aw.refl _ y).setCell 3 _).setCell 4 _).setCell 5 _
       have ex:¬A w.heap.size:=bT.not (ae ay.o) ca;have a1:dF A u c (X j) (X V) (X me) kn d:=(bD.o.below a5.o).step (λq g=>a3.block q (λe=>ex (e ▸ g))) (by rw [a3.size];exact ht _);have gn:w.heap.size<z.heap.size:=ae aC.o;have c4:ai z.heap.size y.heap.size u (hd D a.length E) a:=e8.o.kept (λq h1 _=>a3.block q (by omega));have cu:u.heap.size=y.heap.size:=a3.size;rw [a9];clear a9 a0 e3 e4 e5 f3 f4 f5 b3 b4 b5 bO;obtain ⟨ps,q1,q2,q3⟩:=a1.vs;have cl:aq ltRK ps:=by have hs:=a1.ok.ok.vs;rw [<- q1] at hs;unfold aq at hs ⊢;rw [hA] at hs;exact hs
       have gz:ps.length<=5000:=by have:=a1.ok.vlen;rw [<- q1] at this;simpa using this
       have ac:ak recB u j (ps.map λp=>(p.1,iC p.1 p.2)):=q2;obtain ⟨st,c0,bY,cg,c6,cb,cm⟩:=ak.entry (w:=u.drew) (ak.drew ac) gX underlying113 jO (s,t) hk (by rw [hD];unfold maxLen;omega);have bb:c≠j:=λe=>(aj ac a1.blk) e.symm;have ee:w.heap.size≠j:=λe=>(aj ac b7) e.symm;have aS:Hid (∀W,aw j u W->W.cell? ⟨c,0,Y⟩=X (hh (X j))/\W.cell? ⟨w.heap.size,0,Y⟩=X (J U s)/\W.cell? ⟨w.heap.size,1,Y⟩=X (J U t)/\W.cell? ⟨w.heap.size,2,Y⟩=X (J U n)/\W.cell? ⟨w.heap.size,3,Y⟩=X (J hc l.toNat)/\W.cell? ⟨w.heap.size,4,Y⟩=X (J hc lv.toNat)/\W.cell? ⟨w.heap.size,5,Y⟩=X (hd D a.length E)):=λW ho=>by obtain ⟨p0,p1,p2,p3,p4,p5⟩:=kY ((ho.block _ ee).trans b7);exact ⟨(aa ((ho.block c bb).trans a1.blk) 0).trans rfl,p0,p1,p2,p3,p4,p5⟩
       have bk:aw j u u.drew:=(aw.refl j u).drew;have c1:=aS _ bk;have I:=Z a1;have e1:=Z q1;have e2:=Z q3;have e6:=Z cl;have e9:=Z c4;have e0:=Z a3;clear a1 b7 q1 q2 q3 cl c4 a3 ac;refine wT (λW=>W.cell? ⟨c,0,Y⟩=X (hh (X j))/\W.cell? ⟨w.heap.size,0,Y⟩=X (J U s)/\W.cell? ⟨w.heap.size,1,Y⟩=X (J U t)/\W.cell? ⟨w.heap.size,2,Y⟩=X (J U n)/\W.cell? ⟨w.heap.size,3,Y⟩=X (J hc l.toNat)/\W.cell? ⟨w.heap.size,4,Y⟩=X (J hc lv.toNat)/\W.cell? ⟨w.heap.size,5,Y⟩=X (hd D a.length E)) 13 ?_;refine Qb [0,4,6,7,1,5,2,3] c1 (λw' h=>h) ?_;refine Dp 8 λK b=>?_;refine bq rfl cg ?_;have bp:aw j u (hu u.drew j (.map c0 bY)):=bk.trans cb;have b8:=aS _ bp;generalize hu u.drew j (.map c0 bY)=w4 at *;refine b _ _ (λ_=>b8) ?_;clear b K;go_simp;refine Qb [9] b8 (λw' h=>h) ?_
       refine Dp 10 λK b=>?_;obtain ⟨Q,ch,c9,cc⟩:=cm w4 (.agg #[J U s,J U t,J U n,J hc l.toNat,J hc lv.toNat,hd D a.length E]) c6;refine aY rfl ch ?_;have M:aw j u Q:=bp.trans cc;have a8:=aS _ M;refine b _ _ (λ_=>a8) ?_;clear b K;go_simp;refine Ds 11 a8 ?_;refine Qb [12] a8 (λw' h=>h) ?_
       have c7:ak recB Q j ((insL ltRK ps (s,t) ((n,⟨l,lv,a⟩),hd D a.length E)).map λp=>(p.1,iC p.1 p.2)):=c9.perm (jy aN e6.o (λk v=>iC k v) (s,t) ((n,⟨l,lv,a⟩),hd D a.length E));have a4:∀q,A q->q<z.heap.size:=bD.lt;have gi:=a5.size;have cp:jM (restF (λq=>A q∨(z.heap.size<=q/\q<y.heap.size)) c (X j) (X V) (X me)) Q (X j) (insL ltRK d.vs (s,t) (n,⟨l,lv,a⟩)):=by
        have gx:=a4 j (I.f1 j rfl);refine jM.ins e1.o e2.o I.o.ok.ok.vs (λq g=>M.block q (λe=>g.2.2.1 (by rw [e]))) (by rw [M.size];exact ht _) (λq g=>⟨.inl g.1,g.2⟩) (e9.o.kept (λq h1 _=>M.block q (by omega))) (by rw [M.size,cu];exact ht _) (λq h1 h2=>⟨.inr ⟨h1,h2⟩,?_,λe=>?_,λe=>?_,λe=>?_⟩) c7
        · have:=a4 c I.o.fc;omega
        · injection e with e;omega
        · injection e with e;have:=a4 V (I.o.f2 V rfl);omega
        · injection e with e;have:=a4 me (I.o.f3 me rfl);omega
       have hF:=I.o.put1 (G:=λq=>A q∨(z.heap.size<=q/\q<y.heap.size)) M (λq g=> .inl g) (λq g=>by rw [cu];rcases g with g|g;have:=a4 q g;omega;exact g.2) cp di.o;have c3:Q.cell? ⟨c,3,Y⟩=X kn:=(M.cell (p:=⟨c,3,Y⟩) bb).trans ((aa I.blk 3).trans rfl);have f3:Q.frozen? ⟨c,3,Y⟩=false:=(M.frozen (p:=⟨c,3,Y⟩) bb).trans (ab I.blk 3);have HF:=Z hF;have dz:=Z M;clear hF c1 b8 a8 c9 c7 ch cc cb cm cg c6 M bk bp cp;refine Dl 13 ?_;go_wp2_with fail
       go_ret;rw [d9.o];refine ⟨rfl,_,⟨_,_,_,_,HF.o⟩,?_⟩;have eQ:ag F w F w6:=ag.of_below d8.o;have f0:ag F w A y:=(eQ.trans bT.o).trans (ag.of_below a5.o);have f6:ag F w A u:=f0.own e0.o (ht _);have f7:ag A u A Q:=ag.of_only dz.o (I.f1 j rfl);have f8:ag A Q A (Q.setCell ⟨c,3,Y⟩ (fs Y)):=ag.of_only (aw.setCell (aw.refl c Q) 3 _) I.fc;refine ((f6.trans f7).trans f8).more λq g=>?_;rcases g with g|g
       · exact .inl g
       · exact .inr (by omega)
     · have e7:=Z hx;have cq:(au==0)=false:=by simpa using hx
       go_wp2_with fail
       go_ret;rw [ad.o,if_neg e7.o];exact ⟨rfl,F,⟨_,_,_,_,ao.below N⟩,ag.of_below (btr a6.o N a6.size)⟩
 · rw [decide_eq_false hr] at HR;have HE:=Z (da hr);clear ad da bs b6 hr;go_enter func29,ntmps29;go_wp2_with (go_at_call 58;((with_reducible refine hC (HR.o _ (hz _ _)) ?_);rintro e B ⟨rfl,ax⟩))
   go_ret;rw [HE.o];exact ⟨rfl,F,⟨_,_,_,_,HM.below ax⟩,ag.of_below (btr cz.o ax cz.size)⟩
theorem xu (a b:Int) (n:Int) (k l:Int) (x:hL) (w:hI):(Instr.field 64 (.agg #[J U a,J U b,J U n,J hc k,J hc l,x]) 1).run prog w= .ok (J U n) w:=by kernel_rfl
theorem xt (a b:Int) (n:Int) (k l:Int) (o:Option Addr) (m c:Nat) (w:hI):(Instr.field 64 (.agg #[J U a,J U b,J U n,J hc k,J hc l,hd o m c]) 2).run prog w= .ok (.agg #[J hc k,J hc l,hd o m c]) w:=by kernel_rfl
theorem my (a:Int) (j:Bool) (w:hI):(Instr.field 139 (.agg #[J U a,hg j]) 1).run prog w= .ok (hg j) w:=by kernel_rfl
def inC (d:ar) (p:RK×(Int×az)):Bool:=match findK d.ds p.1 with
 |some n=>decide (n<=p.2.1)
 |none=>true
theorem qW (d:ar):thereC d=d.vs.filter (inC d):=rfl
theorem vu (l:List RK):∀u∈l.flatMap rkCells,u.oneCell'=true:=by
 intro u a;obtain ⟨p,b,a⟩:=List.mem_flatMap.1 a;simp only [rkCells,List.mem_cons,List.not_mem_nil,or_false] at a;rcases a with rfl|rfl<;>rfl
theorem pC (l:List RK):(l.flatMap rkCells).length=l.length * 2:=by
 induction l with
 |nil=>rfl
 |cons p ps ih=>rw [List.flatMap_cons,List.length_append,ih];simp [rkCells];omega
theorem kQ (w:hI) (o:Obj) (x y:hL) (t:TypeId):∀j v,[x,y][j]? =X v->((w.alloc o).alloc (fn #[x,y] t)).drew.drew.cell? ((⟨w.heap.size+1,0,Y⟩:Addr).add j)=X v:=by
 have h:=cell_two_new (w.alloc o) x y t;rw [World.size_alloc] at h;exact h
theorem nR {w:hI} {B e k n:Nat} {v:hL} {a:List hL} (h:w.ownsRow B e k v n a):w.drew.drew.ownsRow B e k v n a:=h
theorem vr {w:hI} {B e k n:Nat} {v:hL} {b:List hL} {o a:Obj} (h:w.ownsRow B e k v n b):((w.alloc o).alloc a).ownsRow B e k v n b:=(h.alloc o).alloc a
theorem yq (F:Nat->Prop) (w:hI) (c:Nat) (z m2 m3:Option Nat) (kn:hL) (d:ar) (h:dF F w c z m2 m3 kn d):
 Calls prog 77 #[fs (X ⟨c,0,Y⟩)] w λe w'=>∃v,e=hb v/\w'.ownsRow w.heap.size 36 2 v ((thereC d).map (·.1)).length (((thereC d).map (·.1)).flatMap rkCells)/\Bw w w':=by
 obtain ⟨ps,O,q2,q3⟩:=h.vs;have b3:cw ltRK (ps.map (·.1))=d.vs.map (·.1):=by rw [<- O,List.map_map];refine bh aN (.refl _) ?_;have y:=h.ok.ok.vs;rw [<- O] at y;unfold aq at y;rw [hA] at y ⊢;exact y
 have a6:ps.length=d.vs.length:=by rw [<- O];simp
 have bT:=h.ok.vlen;have HK:=Z (vK z w);have a3:Bw w (w.alloc (fn #[.map z] 113)):=(hz _ w).alloc (ht _) _;have a8:=nZ 8 (by omega) w.heap.size z (ps.map λp=>(p.1,iC p.1 p.2)) (w.alloc (fn #[.map z] 113)) (by rw [World.cell?_alloc_new];rfl) (q2.block (λb L=>a3.block b (h.lt b (h.f1 b L)))) (λb L=>by have:=h.lt b (h.f1 b L);simp;omega);have b5:(ps.map λp=>(p.1,iC p.1 p.2)).map (·.1)=ps.map (·.1):=by rw [List.map_map];rfl
 rw [b5] at a8;have P:=Z (fv 10 (by omega) 108 #[fs (X ⟨w.heap.size,0,Y⟩)] (enters_of func108 (by kernel_rfl) rfl) (ps.map (·.1)) (by simp;omega) _ _ (λcc x hx=>by have:=hx.1;simp at this;omega) _ a8);rw [b3] at P;have a5:(ps.map (·.1)).length=(d.vs.map (·.1)).length:=by simp [a6]
 rw [a5] at P;have c0:w.cell? ⟨c,0,Y⟩=X (.map z):=(aa h.blk 0).trans rfl;have I:=Z h;have ao:=Z a3;have ay:=Z O;have bw:=Z q2;have bA:=Z q3;have bt:=Z a6;have bp:(w.alloc (fn #[.map z] 113)).heap.size=w.heap.size+1:=by simp
 have c1:=Z bp;clear a8 b5 b3 a5 h a3 O q2 q3 a6 bp;obtain ⟨i0,hi,bb,bc,bk⟩:=info_parts i36;have HI:=Z hi;have au:=Z bb;have av:=Z bc;have ax:=Z bk;clear hi bb bc bk;obtain ⟨s,R⟩:=Qe (d.vs.map (·.1));rw [R] at P;have a5:s.length<=5000:=by rw [<- R];simpa using bT
 have a1:=Z R;clear R;go_enter func77,ntmps77
 go_wp2_with (first
  |(go_at_call 61;((with_reducible refine hC HK.o ?_);rintro e w1 ⟨rfl,rfl⟩))
  |(go_at_call 47;((with_reducible refine hC P.o ?_);rintro e C ⟨v,rfl,a7,b1⟩;obtain ⟨va,vc,rfl⟩:=aK a7;have bB:=Z a7;have bs:=Z b1;clear a7 b1)))
 have aS:Bw w C:=ao.trans (bs.mono ao.size);have A:=Z aS;clear aS;go_loopw [3,5,6,7,15] (λbY _p _a _b i wr=>∃(k:Nat) (G:Option Addr) (H:Nat) (g:List RK),k<=s.length/\i=J U k/\Hid (g=((d.vs.take k).filter (inC d)).map (·.1))/\bY=hd G g.length H/\Hid (wr.ownsRow (C.heap.size) 36 2 (hd G g.length H) g.length (g.flatMap rkCells))/\Hid (Bw C wr)) (λ_ _ _ _ i _=>s.length - (intOf i).toNat)
 case atStart=>exact ⟨0,Y,0,[],hy _,rfl,rfl,rfl,World.ownsRow_nil _ _ _ _,hz _ _⟩
 case round=>
  obtain ⟨k,G,H,g,hk,rfl,K,rfl,E,t⟩:=hrel;by_cases hlt:k<s.length
  · have a9:k<d.vs.length:=by rw [<- a1.o] at hlt;simpa using hlt
    have ca:k<ps.length:=by rw [bt.o];exact a9
    have aC:=Z ((aP bB.o).kept (w':=wr) (λq _ hq=>t.block q hq));have b7:eB 0 C.heap.size wr (hd va s.length vc) s:=aC.mono (hy _) (ht _);obtain ⟨b,cb,c2,he,_,c5,e0,e1⟩:=b7.one k hlt;cases he;have Q:Hid (d.vs.take (k+1)=d.vs.take k++[d.vs[k]]):=List.take_succ_eq_append_getElem a9;have b4:s[k]=d.vs[k].1:=by simp [<- a1.o]
    have B:=I.below (A.trans (t.mono A.size));obtain ⟨p,hp⟩:=Qe (d.vs[k]);have V:p∈d.vs:=by rw [<- hp];exact List.getElem_mem a9
    rw [hp] at Q b4;obtain ⟨⟨a,f⟩,n,r⟩:=p;have b6:rkOk (a,f):=I.ok.vkey _ V;rw [b4] at e0 e1;dsimp only at e0 e1;have M:∃x,findK ps (a,f)=X ((n,r),x):=by
     rw [<- ay.o] at V;obtain ⟨q,hq,he⟩:=List.mem_map.1 V;obtain ⟨qk,qv,qx⟩:=q;injection he with h1 h2
     dsimp only at h1 h2;subst h1;subst h2;have y:=I.ok.ok.vs;rw [<- ay.o] at y;unfold aq at y;rw [hA] at y;exact ⟨qx,(cR aN (l:=ps) y).2 hq⟩
    obtain ⟨x,M⟩:=M;obtain ⟨_,_,b2,_,_⟩:=bA _ (qi M);obtain ⟨xa,xc,b9⟩:=b2.shape;dsimp only at b9;subst b9;clear b2;have b0:∀W,Bw wr W->(hH 113 (.map z) (.agg #[J U a,J U f]) false).run prog W= .ok (.agg #[J U a,J U f,J U n,J hc r.kind.toNat,J hc r.level.toNat,hd xa r.fields.length xc]) W:=λW hW=>by have bO:Bw w W:=(A.o.trans (t.o.mono A.o.size)).trans (hW.mono (by have:=A.o.size;have:=t.o.size;omega));have:=bQ.look (w:=W) (bw.block (λb L=>bO.block b (I.lt b (I.f1 b L)))) underlying113 jO (a,f) b6;rw [eW,M] at this;exact this
    have aT:∀W,Bw wr W->(hH 114 (.map m2) (.agg #[J U a,J U f]) true).run prog W= .ok (.tuple #[J U ((findK d.ds (a,f)).getD 0),hg (findK d.ds (a,f)).isSome]) W:=λW hW=>by have:=bQ.look_ok (w:=W) ((B.below hW).ds) underlying114 uT (a,f) b6;rw [ea d.ds (λn=>Value.int U n)] at this;refine Eq.trans this ?_;cases findK d.ds (a,f)<;>rfl
    have b8:∀o,Bw wr (wr.alloc o).drew:=λo=>((hz _ wr).alloc (ht _) o).drew;have T:=λo=>aT _ (b8 o);have c7:=λo=>b0 _ (b8 o).drew;have c6:=λW=>xu a f n r.kind.toNat r.level.toNat (hd xa r.fields.length xc) W;have c4:∀o,(wr.alloc o).cell? ⟨c,1,Y⟩=X (.map m2):=λo=>by rw [aV _ _ _ _ (B.lt c B.fc)];exact (aa B.blk 1).trans rfl
    have c3:∀o,(wr.alloc o).cell? ⟨c,0,Y⟩=X (.map z):=λo=>by rw [aV _ _ _ _ (B.lt c B.fc)];exact (aa B.blk 0).trans rfl
    have c9:g.length<=5000:=by rw [K.o,hD];have:=List.length_filter_le (inC d) (d.vs.take k);rw [List.length_take] at this;omega
    have ac:=t.size;clear b0 aT M B b7 aC V hp;have u:Hid (inC d ((a,f),n,r)=match findK d.ds (a,f) with |some m=>decide (m<=n)|none=>true):=rfl;cases hf:findK d.ds (a,f) with
    |none=>
     rw [hf] at T u;dsimp only at u;simp only [hQ,hO] at T;clear hf;go_wp2_with fail
     go_region;go_wp2_with fail
     go_region;go_wp2_with (at_builtin;refine wpList_append_own_at _ rfl _ _ 52 rfl C.heap.size 36 i0 (.agg #[J U 0,J U 0]) 2 16 underlying52 HI.o au.o av.o ax.o rfl (by decide) (hd G g.length H) _ _ rfl (nR (vr E.o)) ⟨wr.heap.size+1,0,Y⟩ 1 1 [J U a,J U f] rfl rfl (kQ _ _ _ _ _) (by simp [Value.oneCell']) (by unfold maxLen;omega) (by omega) (by simp;omega) ?_;intro v' w5 D N _ bD;obtain ⟨ad,al,rfl⟩:=bF D;have a2:=Z D;have a0:=Z N;clear D N)
     go_roundw
     case rel=>
      refine ⟨k+1,ad,al,g++[(a,f)],by omega,by go_num,?_,by simp,?_,?_⟩
      · unfold Hid;rw [Q.o,hG,hJ,K.o];simp [u.o]
      · have:=a2.o;exact Z (by simpa [rkCells] using this)
      · have a4:Bw C ((wr.alloc (fn #[J U a,J U f] 36)).alloc (fn #[J U a,J U f] 36)).drew.drew:=(((t.o.alloc ac _).alloc (by simp;omega) _).drew).drew;exact a4.grown a0.o (by simp;omega) (λj hj=>(E.o.lt j hj).1)
     case measure=>simp [intOf];omega
    |some m=>
     rw [hf] at T u;dsimp only at u;simp only [Option.getD_some,Option.isSome_some] at T;clear hf;by_cases hmn:m<=n
     · rw [decide_eq_true hmn] at u;go_wp2_with fail
       go_region;go_wp2_with fail
       go_region;go_wp2_with (at_builtin;refine wpList_append_own_at _ rfl _ _ 52 rfl C.heap.size 36 i0 (.agg #[J U 0,J U 0]) 2 16 underlying52 HI.o au.o av.o ax.o rfl (by decide) (hd G g.length H) _ _ rfl (nR (vr E.o)) ⟨wr.heap.size+1,0,Y⟩ 1 1 [J U a,J U f] rfl rfl (kQ _ _ _ _ _) (by simp [Value.oneCell']) (by unfold maxLen;omega) (by omega) (by simp;omega) ?_;intro v' w5 D N _ bD;obtain ⟨ad,al,rfl⟩:=bF D;have a2:=Z D;have a0:=Z N;clear D N)
       go_roundw
       case rel=>
        refine ⟨k+1,ad,al,g++[(a,f)],by omega,by go_num,?_,by simp,?_,?_⟩
        · unfold Hid;rw [Q.o,hG,hJ,K.o];simp [u.o]
        · have:=a2.o;exact Z (by simpa [rkCells] using this)
        · have a4:Bw C ((wr.alloc (fn #[J U a,J U f] 36)).alloc (fn #[J U a,J U f] 36)).drew.drew:=(((t.o.alloc ac _).alloc (by simp;omega) _).drew).drew;exact a4.grown a0.o (by simp;omega) (λj hj=>(E.o.lt j hj).1)
       case measure=>simp [intOf];omega
     · rw [decide_eq_false hmn] at u;go_wp2_with fail
       go_region;go_wp2_with fail
       go_region;go_wp2_with fail
       go_roundw
       case rel=> refine ⟨k+1,G,H,g,by omega,by go_num,?_,rfl,(E.o.alloc _),(t.o.alloc ac _).drew.drew⟩;unfold Hid;rw [Q.o,hG,hJ,K.o];simp [u.o]
       case measure=>simp [intOf];omega
  · have HE:Hid (g=(thereC d).map (·.1)):=by
     unfold Hid
     rw [K.o,qW,List.take_of_length_le (by have:s.length=d.vs.length:=by rw [<- a1.o];simp
                                           omega)]
    go_wp2_with fail
    go_ret;rw [<- HE.o];exact ⟨_,rfl,bz E.o A.size,A.trans (t.mono A.size)⟩
end
end Go.Proofs.YtjcimanddakkaaaGreatDoor
