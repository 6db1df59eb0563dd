/- Lemmas. -/
import Derived.Test.YtjcimanddakkaaaGreatDoorZ8
import Derived.Test.YtjcimanddakkaaaGreatDoorZ12
set_option maxRecDepth 100000
set_option maxHeartbeats 8000000
namespace Go.Proofs.YtjcimanddakkaaaGreatDoor
open _root_.Option renaming some→X,none→Y
open Go.Obj renaming cells→fn
open Go.Value renaming pointer→fs,int→J,slice→hu,bool→hy,map→hz
open Go.Ending renaming returned→hb
open Go.IntKind renaming i64→U,u8→ht
open Go.Lib renaming hid→Z
open Tryz
open _root_.Nat renaming le_refl→hA,zero_le→hD
open Go.ChangeMaps renaming setBlock→hC
open Go.RowKit.Below renaming refl→hE,heap_setCell→hJ
open _root_.List renaming pairwise_map→hG,length_map→hI,filter_append→hK,map_append→hO,find?_cons→hP
open Go.Calls renaming mono→hH
open Go.Instr renaming lookup→hL
open Go renaming World→hN,Value→hQ
open Go.World renaming alloc_heap_new→hR,size_setCell→hT
open _root_.Option renaming isSome_none→hS,getD_none→hV
section
open Go.RowKit Go.Maps Go.Shelf
theorem mC {P:Program} {e:Region.Mode} {b:Array Oper} {Q:Exit->Act->hN->Prop} {S:hN->Prop} {z i:Nat} {o:Oper} {n:Nat} {d:Array Bool} {a:Act} {w:hN} (q:b[i]? =X o) (g:Region.ready e b d=[i]) (p:Region.wanted o (yielded b a.tmps)=true)
 (h:∀K:Act->hN->Prop,(∀c w',(i≠z->S w')->anyT P e b Q S z n (d.setIfInBounds i true) c w'->K c w')->o.wp P a w K Q):anyT P e b Q S z (n+1) d a w:=by
 refine ⟨λk=>absurd k (by rw [g];simp),λj f=>?_⟩;rw [g] at f;obtain rfl:j=i:=by simpa using f
 unfold wpOp;rw [q];simp only [p,if_true];exact .inl (h _ λc w' l m=>⟨l,m⟩)
theorem kN {w:hN} {b t:Nat} {x y z u v q:hQ} (h:w.heap[b]? =X (fn #[x,y,z,u,v,q] t (0,0))):w.cell? ⟨b,0,Y⟩=X x/\w.cell? ⟨b,1,Y⟩=X y/\w.cell? ⟨b,2,Y⟩=X z/\w.cell? ⟨b,3,Y⟩=X u/\w.cell? ⟨b,4,Y⟩=X v/\w.cell? ⟨b,5,Y⟩=X q:=
 ⟨(aa h 0).trans rfl,(aa h 1).trans rfl,(aa h 2).trans rfl,(aa h 3).trans rfl,(aa h 4).trans rfl,(aa h 5).trans rfl⟩
theorem eP {K V:Type} [DecidableEq K] (l:List (K×V)) (f:K->V->hQ) (k:K):lookL (l.map λp=>(p.1,f p.1 p.2)) k=(findK l k).map (f k):=by
 induction l with
 |nil=>rfl
 |cons p l ih=>
  unfold findK at ih ⊢;rw [List.map_cons,c8,hP];by_cases h:p.1=k
  · rw [if_pos h];simp [h]
  · rw [if_neg h,ih];simp [h]
theorem rZ {K V W:Type} [DecidableEq K] (l:List (K×(V×W))) (k:K):findK (l.map λp=>(p.1,p.2.1)) k=(findK l k).map (·.1):=by
 induction l with
 |nil=>rfl
 |cons p l ih=>
  unfold findK at ih ⊢;rw [List.map_cons,hP,hP];by_cases h:p.1=k
  · simp [h]
  · simp only [h,decide_false];exact ih
theorem pP {K V:Type} [DecidableEq K] {l:List (K×V)} {k:K} {v:V} (h:findK l k=X v):(k,v)∈l:=by
 unfold findK at h;rw [Option.map_eq_some_iff] at h;obtain ⟨p,b,rfl⟩:=h;have c:=List.mem_of_find?_eq_some b;have a:=List.find?_some b;simp at a;rw [<- a];exact c
def putX (d:aE) (k:RK) (n:Int) (r:az):Int:=aY (findK d.vs k).isSome (decide (((findK d.vs k).getD (0,⟨0,0,[]⟩)).1=n)&&decide (((findK d.vs k).getD (0,⟨0,0,[]⟩)).2=r)) ((findK d.vs k).getD (0,⟨0,0,[]⟩)).1 n d.vs.length
theorem put_eq (d:aE) (k:RK) (n:Int) (r:az) (a:wrongR r=0):putC d k n r=if putX d k n r=0 then ({d with vs:=insL ltRK d.vs k (n,r)},0) else (d,putX d k n r):=by
 unfold putC putX;rw [if_neg (by simpa using a)];cases findK d.vs k with
 |none=>simp only [hS,hV];rw [lI (decide (0=n)&&decide ((⟨0,0,[]⟩:az)=r))]
 |some m=>rfl
theorem bf.put {d:aE} (h:bf d) {k:RK} {n:Int} {r:az} (b:rkOk k) (c:i64B n) (e:wrongR r=0) (f:putX d k n r=0):bf {d with vs:=insL ltRK d.vs k (n,r)}:=by
 refine ⟨⟨eR aN h.ok.vs _ _,h.ok.ds,h.ok.ps,h.ok.apart⟩,?_,h.dlen,h.plen,dv aN h.ok.vs h.right e,dv aN h.ok.vs h.vnum c,h.dnum,h.pnum,dv aN h.ok.vs h.vkey b,h.dkey,h.pkey⟩;exact pL aN h.ok.vs k (n,r) h.vlen λa=>fT f a
theorem dC {r:az} (h:wrongR r=0):r.fields.length<=1000000/\(∀f∈r.fields,f.subs.length<=1000000)/\bI r.fields:=by
 have a:=qX h;refine ⟨by have:=a.many;omega,λf b=>?_,by have:=a.many;omega,λf b=>by have:=a.long f b;omega⟩;have c:=a.long f b;have d:=cA f;omega
theorem jA.ins {F G:Nat->Prop} {w a:hN} {m:Nat} {k:RK} {n:Int} {r:az} {x:hQ} {lo b:Nat} {ps:List (RK×VX)} {d:VL} (e:ps.map (λp=>(p.1,p.2.1))=d) (f:∀p∈ps,dU F w p) (c:aw ltRK d)
 (i:∀q,F q->a.heap[q]? =w.heap[q]?) (u:w.heap.size<=a.heap.size) (g:∀q,F q->G q) (s:ai lo b a x r.fields) (h:b<=a.heap.size) (t:∀q,lo<=q->q<b->G q) (j:am recB a m ((insL ltRK ps k ((n,r),x)).map λp=>(p.1,ir p.1 p.2))):
 jA G a (X m) (insL ltRK d k (n,r)):=by
 have o:aw ltRK ps:=by rw [<- e] at c;unfold aw at c ⊢;rw [hG] at c;exact c
 refine ⟨insL ltRK ps k ((n,r),x),by rw [<- e];exact uW ltRK (λq:VX=>q.1) ps k ((n,r),x),j,?_⟩;refine dv aN o (λp l=>((f p l).step i u).wide g) ⟨lo,b,s,h,t⟩
theorem dw.put1 {F:Nat->Prop} {w j:hN} {c a b e:Nat} {E:hQ} {d:aE} {G:Nat->Prop} {vs:VL} (h:dw F w c (X a) (X b) (X e) E d) (o:aq a w j) (l:∀k,F k->G k) (z:∀k,G k->k<w.heap.size)
 (C:jA (restF G c (X a) (X b) (X e)) j (X a) vs) (A:bf {d with vs:=vs}):
 dw G (j.setCell ⟨c,3,Y⟩ (fs Y)) c (X a) (X b) (X e) (fs Y) {d with vs:=vs}:=by
 have v:c≠b:=λe=>(aj (show am recB w b _ from h.ds) h.blk) e.symm;have s:c≠a:=λe=>by obtain ⟨ps,_,i,_⟩:=h.vs;exact (aj (show am recB w a _ from i) h.blk) e.symm
 have x:c≠e:=λp=>(aj (show am pairB w e _ from h.ps) h.blk) p.symm;rcases h.one with ⟨g,_⟩|⟨H,I,p,g,i,n,q,r,u⟩
 · cases g
 injection g with g;injection i with i;injection n with n
 subst g;subst i;subst n;have t:∀k,k≠c->k≠a->(j.setCell ⟨c,3,Y⟩ (fs Y)).heap[k]? =w.heap[k]? :=λk g i=>(hJ _ _ _ _ g).trans (o.block k i);have D:(j.setCell ⟨c,3,Y⟩ (fs Y)).heap.size=w.heap.size:=by rw [hT,o.size]
 refine ⟨?_,C.step (λm f=>by injection f with f;subst f;exact hJ _ _ _ _ (Ne.symm s)) (λk B=>hJ _ _ _ _ B.2.1) (by rw [hT];exact hA _),?_,?_, .inl rfl,l _ h.fc,λm f=>l _ (h.f1 m f),λm f=>l _ (h.f2 m f),λm f=>l _ (h.f3 m f), .inr ⟨a,b,e,rfl,rfl,rfl,q,r,u⟩,λk y=>by rw [D];exact z k y,A⟩
 · exact an ((o.block c s).trans h.blk) 3 (fs Y)
 · exact am.block (show am recB w b _ from h.ds) (t b (Ne.symm v) (Ne.symm q))
 · exact am.block (show am pairB w e _ from h.ps) (t e (Ne.symm x) (Ne.symm r))
theorem ah.own {F c:Nat->Prop} {w d e:hN} {b:Nat} (s:ah F w c d) (a:aq b d e) (h:w.heap.size<=b):ah F w c e:=
 ⟨a.os.trans s.os,a.tape.trans s.tape,a.output.trans s.output,by rw [a.size];exact s.size,λk f g=>(a.block k (by omega)).trans (s.block k f g),s.new⟩
theorem ah.more {F b G:Nat->Prop} {w w':hN} (s:ah F w b w') (h:∀k,G k->b k∨w.heap.size<=k):ah F w G w':=
 ⟨s.os,s.tape,s.output,s.size,s.block,λk c=>by
  rcases h k c with a|a
  · exact s.new k a
  · exact .inr a⟩
theorem tv (F:Nat->Prop) (w:hN) (c:Nat) (d:aE) (h:bL F w c d) (k:RK) (n:Int) (r:az) (x:hQ) (hk:rkOk k) (hn:i64B n) (lo hi:Nat) (hx:ai lo hi w x r.fields) (gd:hi<=w.heap.size) (hF:∀q,lo<=q->q<hi->¬F q) (ft:bI r.fields):
 Calls prog 29 #[fs (X ⟨c,0,Y⟩),kI k n r x] w λe w'=>e=hb (J U (putC d k n r).2)/\∃A,bL A w' c (putC d k n r).1/\ah F w A w':=by
 have ad:=Z (put_eq d k n r);have di:Hid (wrongR r≠0->putC d k n r=(d,11)):=λhw=>by unfold putC;rw [if_pos hw]
 have bt:Hid (wrongR r=0->putX d k n r=0->bf {d with vs:=insL ltRK d.vs k (n,r)}):=by obtain ⟨_,_,_,_,h⟩:=h;exact λhr hx=>h.ok.put hk hn hr hx
 have b6:Hid (putX d k n r=aY (findK d.vs k).isSome (decide (((findK d.vs k).getD (0,⟨0,0,[]⟩)).1=n)&&decide (((findK d.vs k).getD (0,⟨0,0,[]⟩)).2=r)) ((findK d.vs k).getD (0,⟨0,0,[]⟩)).1 n d.vs.length):=rfl;have g6:Hid (wrongR r=0->r.fields.length<=1000000/\(∀f∈r.fields,f.subs.length<=1000000)/\bI r.fields):=dC;obtain ⟨m1,m2,m3,kn,h⟩:=h;obtain ⟨P,Q,rfl⟩:=hx.shape;obtain ⟨W1,es⟩:=Qe (w.alloc (fn #[J U k.1,J U k.2,J U n,J ht r.kind.toNat,J ht r.level.toNat,hu P r.fields.length Q] 64));have d6:Bw w W1:=by rw [<- es];exact (hE _ w).alloc (hA _) _
 have hB:W1.heap[w.heap.size]? =X (fn #[J U k.1,J U k.2,J U n,J ht r.kind.toNat,J ht r.level.toNat,hu P r.fields.length Q] 64 (0,0)):=by rw [<- es];exact hR w _
 have d2:Hid (W1.heap.size=w.heap.size+1):=by unfold Hid;rw [<- es];simp
 have cv:ai lo hi W1 (hu P r.fields.length Q) r.fields:=hx.kept (λq _ g=>d6.block q (by omega))
 have HR:Hid (∀W,Bw W1 W->Calls prog 58 #[.agg #[J ht r.kind.toNat,J ht r.level.toNat,hu P r.fields.length Q]] W λe w'=>e=hb (hy (decide (wrongR r=0)))/\Bw W w'):=λW T=>
  xS r _ W ⟨_,rfl,(cv.kept (λq _ g=>T.block q (by have:=d2.o;omega))).mono (hD _) (by have:=T.size;have:=d2.o;omega)⟩ ft
 have HM:=Z (h.below d6);have g7:=Z cv;have HB:=Z hB;have d0:=Z d6;have fy:=Z h.lt;have dn:Hid (hi<=w.heap.size):=gd;have fz:=Z hF;obtain ⟨s,t⟩:=k;obtain ⟨l,lv,a⟩:=r;unfold kI;dsimp only at *;obtain ⟨b0,b1,b2,b3,b4,b5⟩:=kN hB;clear h d6 hB hx cv gd hF ft;by_cases hr:wrongR ⟨l,lv,a⟩=0
 · rw [decide_eq_true hr] at HR;have g0:=Z hr;obtain ⟨eQ,gb,ft⟩:=g6 hr;have dk:=Z gb;clear hr g6 di gb;have ad:=Z (ad g0.o);have bt:=Z (bt g0.o);go_enter func29,ntmps29;go_wp2_with (go_at_call 58;((with_reducible refine hH (HR.o _ (hE _ _)) ?_);rintro e B ⟨rfl,ax⟩))
   have aT:=Z (HM.below ax);have d3:=(ax.block _ (ae HB.o)).trans HB.o;have da:Hid (Bw w B):=btr d0.o ax d0.size;clear b0 b1 b2 b3 b4 b5 HR
   obtain ⟨kk,H,r',x',th,dy,bw,cl,hc,hd⟩:∃(kk:RK) (H:Int) (r':az) (x':hQ) (th:Bool),Hid (∀W,(∀m,m1=X m->W.heap[m]? =B.heap[m]?)->(hL 113 (.map m1) (.agg #[J U s,J U t]) true).run prog W= .ok (.tuple #[kI kk H r' x',hy th]) W)/\
    Hid (putX d (s,t) n ⟨l,lv,a⟩=aY th (decide (H=n)&&decide (r'=⟨l,lv,a⟩)) H n d.vs.length)/\(∃cz bc,ai cz bc B x' r'.fields/\bc<=B.heap.size)/\r'.fields.length<=1000000/\(∀f∈r'.fields,f.subs.length<=1000000):=by
    obtain ⟨ps,q1,q2,q3⟩:=aT.vs
    have d7:∀W,(∀m,m1=X m->W.heap[m]? =B.heap[m]?)->(hL 113 (.map m1) (.agg #[J U s,J U t]) true).run prog W= .ok (.tuple #[((findK ps (s,t)).map (ir (s,t))).getD (.agg #[J U 0,J U 0,J U 0,J ht 0,J ht 0,hu Y 0 0]),hy ((findK ps (s,t)).map (ir (s,t))).isSome]) W:=λW hW=>by
     have:=bW.look_ok (w:=W) (q2.block hW) underlying113 jD (s,t) hk
     rw [eP] at this
     exact this
    have gO:findK d.vs (s,t)=(findK ps (s,t)).map (·.1):=by rw [<- q1];exact rZ ps (s,t)
    rw [gO] at b6
    cases hf:findK ps (s,t) with
    |none=>
     rw [hf] at d7 b6
     exact ⟨(0,0),0,⟨0,0,[]⟩,hu Y 0 0,false,d7,b6,⟨0,0,⟨[],rfl,(by intro p hp;cases hp),Y,0,rfl,λh=>absurd rfl h⟩,hD _⟩,hD _,(by intro f hf;cases hf)⟩
    |some v=>
     rw [hf] at d7 b6
     obtain ⟨⟨H,r'⟩,x'⟩:=v
     have hm:=pP hf
     obtain ⟨cz,bc,g1,g2,_⟩:=q3 _ hm
     have h9:((s,t),(H,r'))∈d.vs:=by rw [<- q1];exact List.mem_map.2 ⟨_,hm,rfl⟩
     obtain ⟨s1,s2,_⟩:=dC (aT.ok.right _ h9)
     exact ⟨(s,t),H,r',x',true,d7,b6,⟨cz,bc,g1,g2⟩,s1,s2⟩
   obtain ⟨cz,bc,cl,gP⟩:=cl;obtain ⟨cP,cQ,rfl⟩:=cl.shape;obtain ⟨gn,gp⟩:=kk;obtain ⟨bA,bB,av⟩:=r';unfold kI at dy;dsimp only at *;obtain ⟨b0,b1,b2,b3,b4,b5⟩:=kN d3;have V:B.drew.cell? ⟨c,0,Y⟩=X (.map m1)/\B.drew.cell? ⟨w.heap.size,0,Y⟩=X (J U s)/\B.drew.cell? ⟨w.heap.size,1,Y⟩=X (J U t)/\(∀m,m1=X m->B.drew.heap[m]? =B.heap[m]?):=⟨(aa aT.blk 0).trans rfl,b0,b1,λ_ _=>rfl⟩;have ds:Hid (∀W,Bw B W->W.cell? ⟨c,0,Y⟩=X (.map m1)/\W.cell? ⟨w.heap.size,0,Y⟩=X (J U s)/\W.cell? ⟨w.heap.size,1,Y⟩=X (J U t)/\(∀m,m1=X m->W.heap[m]? =B.heap[m]?)):=λW T=>⟨ep T _ _ V.1,ep T _ _ V.2.1,ep T _ _ V.2.2.1,λm hm=>T.block m (aT.lt m (aT.f1 m hm))⟩;clear b0 b1 b2 b3 b4 b5;refine wT (λW=>W.cell? ⟨c,0,Y⟩=X (.map m1)/\W.cell? ⟨w.heap.size,0,Y⟩=X (J U s)/\W.cell? ⟨w.heap.size,1,Y⟩=X (J U t)/\(∀m,m1=X m->W.heap[m]? =B.heap[m]?)) 12 ?_;refine Qb [0,4,1,5,2,3] V (λw' h=>h) ?_;refine tk 6 ?_ rfl V ?_ ?_;rotate_left;intro w' h;obtain ⟨h0,I,h2,h3⟩:=h;have hl:=dy w' h3;go_simp;rfl;try go_simp
   refine Qb [7,8,9] V (λw' h=>h) ?_;refine Dp 10 λK b=>?_;go_simp;have g9:∀o,Bw B (B.drew.alloc o):=λo=>(hE _ B).drew.alloc (hA _) o;refine b _ _ (λ_=>ds _ (g9 _)) ?_;clear b K;refine Dp 11 λK b=>?_;go_simp;have ex:∀o,Bw B (B.alloc o).drew:=λo=>((hE _ B).alloc (hA _) o).drew;refine b _ _ (λ_=>ds _ (ex _)) ?_;clear b K;refine Dl 12 ?_;obtain ⟨M,c6⟩:=Qe ((B.alloc (fn #[J U gn,J U gp,J U H,J ht bA.toNat,J ht bB.toNat,hu cP av.length cQ] 64)).drew);have d5:M.heap[B.heap.size]? =X (fn #[J U gn,J U gp,J U H,J ht bA.toNat,J ht bB.toNat,hu cP av.length cQ] 64 (0,0)):=by rw [<- c6];exact hR B _
   have b9:Bw B M:=by rw [<- c6];exact ex _
   have hj:Hid (M.heap.size=B.heap.size+1):=by unfold Hid;rw [<- c6];show (B.alloc _).heap.size=_;simp
   have ao:=Z (aT.below b9);have d4:=(b9.block _ (ae d3)).trans d3;have a6:Hid (Bw w M):=btr da.o b9 da.size;have gs:Hid (ai cz bc M (hu cP av.length cQ) av):=cl.kept (λq _ g=>b9.block q (by omega));have e0:Hid (ai lo hi M (hu P a.length Q) a):=g7.o.kept (λq _ g=>(b9.block q (by have:=ax.size;have:=d2.o;have:=dn.o;omega)).trans (ax.block q (by have:=d2.o;have:=dn.o;omega)));have al:Hid (bc<=M.heap.size/\hi<=M.heap.size):=by have:=a6.o.size;have:=dn.o;have:=b9.size;exact ⟨by omega,by omega⟩
   rw [c6];clear V ds g9 ex c6 b9 dy aT d3 da cl gP HM g7 HB
   have fx:Hid (∀W,Bw M W->W.cell? ⟨c,0,Y⟩=X (.map m1)/\(W.cell? ⟨w.heap.size,2,Y⟩=X (J U n)/\W.cell? ⟨w.heap.size,3,Y⟩=X (J ht l.toNat)/\W.cell? ⟨w.heap.size,4,Y⟩=X (J ht lv.toNat)/\W.cell? ⟨w.heap.size,5,Y⟩=X (hu P a.length Q))/\
    W.cell? ⟨B.heap.size,2,Y⟩=X (J U H)/\W.cell? ⟨B.heap.size,3,Y⟩=X (J ht bA.toNat)/\W.cell? ⟨B.heap.size,4,Y⟩=X (J ht bB.toNat)/\W.cell? ⟨B.heap.size,5,Y⟩=X (hu cP av.length cQ)):=λW T=>by
    obtain ⟨_,_,g2,g3,g4,g5⟩:=kN ((T.block _ (ae d4)).trans d4)
    obtain ⟨_,_,f2,f3,f4,f5⟩:=kN ((T.block _ (ae d5)).trans d5)
    exact ⟨(aa ((T.block c (ao.lt c ao.fc)).trans ao.blk) 0).trans rfl,⟨g2,g3,g4,g5⟩,f2,f3,f4,f5⟩
   have gf:∀W ty,Bw M W->(Builtin.len_ #[113] ty #[.map m1]).run prog W= .ok (J U d.vs.length) W:=λW ty T=>by obtain ⟨ps,q1,q2,_⟩:=(ao.below T).vs;have:=bW.len q2 underlying113 ty;rw [hI,show ps.length=d.vs.length by rw [<- q1];simp] at this;exact this
   have dx:=Z gf;clear gf;have d1:=Z d4;have hg:=Z d5;clear d4 d5;have a2:Bw M M.drew:=(hE _ M).drew;obtain ⟨au,g8⟩:=Qe (putX d (s,t) n ⟨l,lv,a⟩);rw [g8] at bw ad bt;obtain ⟨d8,f6⟩:=Qe d.vs.length;rw [f6] at bw dx;have hh:=Z f6;clear g8 b6 f6;by_cases hnn:H=n
   · subst hnn;have gz:(H==H)=true:=by simp
     obtain ⟨q,g⟩:=Qe (decide ((⟨bA,bB,av⟩:az)=⟨l,lv,a⟩));have gq:Hid (∀W,Bw M W->Calls prog 59 #[.agg #[J ht bA.toNat,J ht bB.toNat,hu cP av.length cQ], .agg #[J ht l.toNat,J ht lv.toNat,hu P a.length Q]] W λe w'=>e=hb (hy q)/\Bw W w'):=λW T=>by rw [<- g];exact zA _ _ ⟨bA,bB,av⟩ ⟨l,lv,a⟩ W ⟨_,rfl,(gs.o.kept (λq _ h=>T.block q (by have:=al.o.1;omega))).mono (hD _) (by have:=al.o.1;have:=T.size;omega)⟩ ⟨_,rfl,(e0.o.kept (λq _ h=>T.block q (by have:=al.o.2;omega))).mono (hD _) (by have:=al.o.2;have:=T.size;omega)⟩ hc eQ hd dk.o
     rw [decide_eq_true rfl,g,Bool.true_and] at bw;have HN:Hid (∀W,Calls prog 56 #[hy th,hy q,J U H,J U H,J U d8] W λe w'=>e=hb (J U au)/\W=w'):=λW=>by rw [bw.o];exact gH _ _ _ _ _ W
     clear g;go_wp2_with fail
     refine Wb M 23 ?_;refine Qb [0,1,3,13,15,17,2,4,14,16,18,5,19,6,20,7,9,8,10] a2 fx ?_;refine mC (i:=11) rfl (by kernel_rfl) (by rfl) (λK b=>?_);go_simp;go_at_call 59;refine (gq _ a2).mono ?_;rintro e w6 ⟨rfl,gy⟩;have O:Bw M w6:=a2.trans gy;refine b _ _ (λ_=>O) ?_;clear b K;go_simp;refine Qa [12] O ?_
     have f0:=λty=>dx w6 ty O;refine Ds 21 O ?_;refine Dp 22 λK b=>?_;go_simp;go_at_call 56;refine (HN _).mono ?_;rintro e w9 ⟨rfl,rfl⟩;refine b _ _ (λ_=>O) ?_;clear b K;refine Dl 23 ?_;clear f0;by_cases hx:au=0
     · subst hx;have dd:Hid (putC d (s,t) H ⟨l,lv,a⟩=({d with vs:=insL ltRK d.vs (s,t) (H,⟨l,lv,a⟩)},0)):=by unfold Hid;rw [ad.o,if_pos rfl]
       have dr:Hid (bf {d with vs:=insL ltRK d.vs (s,t) (H,⟨l,lv,a⟩)}):=bt rfl;have dz:=Z (ao.below O);have ay:=Z ((O.block _ (ae d1.o)).trans d1.o);have e1:Hid (ai lo hi w6 (hu P a.length Q) a):=e0.o.kept (λq _ h=>O.block q (by have:=al.o.2;omega));have dc:Hid (Bw w w6):=btr a6.o O a6.size;have bO:Hid (hi<=w6.heap.size):=by have:=al.o.2;have:=O.size;unfold Hid;omega
       have cd:¬F w.heap.size:=λhf=>by have:=fy.o _ hf;omega
       have d9:Hid (Calls prog 57 #[fs (X ⟨c,0,Y⟩)] w6 λe z=>e=hb (.tuple #[])/\∃A j mb me,Hid (dw A z c (X j) (X mb) (X me) kn d)/\Hid (ah F w6 A z)/\Hid (z.heap[w.heap.size]? =X (fn #[J U s,J U t,J U H,J ht l.toNat,J ht lv.toNat,hu P a.length Q] 64 (0,0)))/\
        Hid (Calls prog 60 #[.agg #[J ht l.toNat,J ht lv.toNat,hu P a.length Q]] z λe y=>∃D E,e=hb (.agg #[J ht l.toNat,J ht lv.toNat,hu D a.length E])/\Hid (ai z.heap.size y.heap.size y (hu D a.length E) a)/\Hid (Bw z y)/\
         y.cell? ⟨w.heap.size,3,Y⟩=X (J ht l.toNat)/\y.cell? ⟨w.heap.size,4,Y⟩=X (J ht lv.toNat)/\y.cell? ⟨w.heap.size,5,Y⟩=X (hu P a.length Q)/\y.frozen? ⟨w.heap.size,3,Y⟩=false/\y.frozen? ⟨w.heap.size,4,Y⟩=false/\y.frozen? ⟨w.heap.size,5,Y⟩=false)/\
        z.cell? ⟨w.heap.size,3,Y⟩=X (J ht l.toNat)/\z.cell? ⟨w.heap.size,4,Y⟩=X (J ht lv.toNat)/\z.cell? ⟨w.heap.size,5,Y⟩=X (hu P a.length Q)):=by
        refine (gT dz.o).mono ?_
        rintro e z ⟨he,A,j,mb,me,hM,V⟩
        have a7:=(V.block _ (ae ay.o) cd).trans ay.o
        have er:ai lo hi z (hu P a.length Q) a:=e1.o.kept (λq I h=>V.block q (by have:=bO.o;omega) (fz.o q I h))
        obtain ⟨_,_,_,b3,b4,b5⟩:=kN a7
        refine ⟨he,A,j,mb,me,hM,V,a7,?_,b3,b4,b5⟩
        refine (x9 (.agg #[J ht l.toNat,J ht lv.toNat,hu P a.length Q]) ⟨l,lv,a⟩ z ⟨_,rfl,er.mono (hD _) (Nat.le_trans bO.o V.size)⟩ eQ dk.o).mono ?_
        rintro e y ⟨v',he,⟨x2,hv,cx⟩,c9⟩
        obtain ⟨D,E,rfl⟩:=cx.shape
        have a0:=(c9.block _ (ae a7)).trans a7
        obtain ⟨_,_,_,b3,b4,b5⟩:=kN a0
        exact ⟨D,E,by rw [he,hv];rfl,cx,c9,b3,b4,b5,ab a0 3,ab a0 4,ab a0 5⟩
       go_wp2_with (first
        |(go_at_call 57;((with_reducible refine hH d9.o ?_);rintro e z ⟨rfl,A,j,mb,me,bY,c1,aC,c0,b3,b4,b5⟩))
        |(go_at_call 60;((with_reducible refine hH c0.o ?_);rintro e y ⟨D,E,rfl,ej,a5,e3,e4,e5,f3,f4,f5⟩)))
       obtain ⟨u,a9⟩:=Qe (((y.setCell ⟨w.heap.size,3,Y⟩ (J ht l.toNat)).setCell ⟨w.heap.size,4,Y⟩ (J ht lv.toNat)).setCell ⟨w.heap.size,5,Y⟩ (hu D a.length E));have a0:=(a5.block _ (ae aC.o)).trans aC.o;have b7:u.heap[w.heap.size]? =X (fn #[J U s,J U t,J U H,J ht l.toNat,J ht lv.toNat,hu D a.length E] 64 (0,0)):=by rw [<- a9];exact an (an (an a0 3 (J ht l.toNat)) 4 (J ht lv.toNat)) 5 (hu D a.length E)
       have a3:aq w.heap.size y u:=by rw [<- a9];exact (((aq.refl _ y).setCell 3 _).setCell 4 _).setCell 5 _
       have f7:¬A w.heap.size:=c1.not (ae ay.o) cd;have a1:dw A u c (X j) (X mb) (X me) kn d:=(bY.o.below a5.o).step (λq g=>a3.block q (λe=>f7 (e ▸ g))) (by rw [a3.size];exact hA _);have gx:w.heap.size<z.heap.size:=ae aC.o;have c7:ai z.heap.size y.heap.size u (hu D a.length E) a:=ej.o.kept (λq I _=>a3.block q (by omega));have cy:u.heap.size=y.heap.size:=a3.size;rw [a9];clear a9 a0 e3 e4 e5 f3 f4 f5 b3 b4 b5 c0;obtain ⟨ps,q1,q2,q3⟩:=a1.vs;have cq:aw ltRK ps:=by have hs:=a1.ok.ok.vs;rw [<- q1] at hs;unfold aw at hs ⊢;rw [hG] at hs;exact hs
       have ha:ps.length<=5000:=by have:=a1.ok.vlen;rw [<- q1] at this;simpa using this
       have ac:am recB u j (ps.map λp=>(p.1,ir p.1 p.2)):=q2;obtain ⟨st,c4,c2,cm,ca,cg,cs⟩:=am.entry (w:=u.drew) (am.drew ac) gJ underlying113 jD (s,t) hk (by rw [hI];unfold maxLen;omega);have bb:c≠j:=λe=>(aj ac a1.blk) e.symm;have eq:w.heap.size≠j:=λe=>(aj ac b7) e.symm;have aS:Hid (∀W,aq j u W->W.cell? ⟨c,0,Y⟩=X (hz (X j))/\W.cell? ⟨w.heap.size,0,Y⟩=X (J U s)/\W.cell? ⟨w.heap.size,1,Y⟩=X (J U t)/\W.cell? ⟨w.heap.size,2,Y⟩=X (J U H)/\W.cell? ⟨w.heap.size,3,Y⟩=X (J ht l.toNat)/\W.cell? ⟨w.heap.size,4,Y⟩=X (J ht lv.toNat)/\W.cell? ⟨w.heap.size,5,Y⟩=X (hu D a.length E)):=λW ho=>by obtain ⟨p0,p1,p2,p3,p4,p5⟩:=kN ((ho.block _ eq).trans b7);exact ⟨(aa ((ho.block c bb).trans a1.blk) 0).trans rfl,p0,p1,p2,p3,p4,p5⟩
       have bk:aq j u u.drew:=(aq.refl j u).drew;have c5:=aS _ bk;have L:=Z a1;have e7:=Z q1;have e8:=Z q3;have e9:=Z cq;have em:=Z c7;have e6:=Z a3;clear a1 b7 q1 q2 q3 cq c7 a3 ac;refine wT (λW=>W.cell? ⟨c,0,Y⟩=X (hz (X j))/\W.cell? ⟨w.heap.size,0,Y⟩=X (J U s)/\W.cell? ⟨w.heap.size,1,Y⟩=X (J U t)/\W.cell? ⟨w.heap.size,2,Y⟩=X (J U H)/\W.cell? ⟨w.heap.size,3,Y⟩=X (J ht l.toNat)/\W.cell? ⟨w.heap.size,4,Y⟩=X (J ht lv.toNat)/\W.cell? ⟨w.heap.size,5,Y⟩=X (hu D a.length E)) 13 ?_;refine Qb [0,4,6,7,1,5,2,3] c5 (λw' h=>h) ?_;refine Dp 8 λK b=>?_;refine bp rfl cm ?_;have bs:aq j u (hC u.drew j (.map c4 c2)):=bk.trans cg;have b8:=aS _ bs;generalize hC u.drew j (.map c4 c2)=w4 at *;refine b _ _ (λ_=>b8) ?_;clear b K;go_simp;refine Qb [9] b8 (λw' h=>h) ?_
       refine Dp 10 λK b=>?_;obtain ⟨R,cp,cc,ch⟩:=cs w4 (.agg #[J U s,J U t,J U H,J ht l.toNat,J ht lv.toNat,hu D a.length E]) ca;refine aZ rfl cp ?_;have N:aq j u R:=bs.trans ch;have a8:=aS _ N;refine b _ _ (λ_=>a8) ?_;clear b K;go_simp;refine Ds 11 a8 ?_;refine Qb [12] a8 (λw' h=>h) ?_
       have cb:am recB R j ((insL ltRK ps (s,t) ((H,⟨l,lv,a⟩),hu D a.length E)).map λp=>(p.1,ir p.1 p.2)):=cc.perm (jj aN e9.o (λk v=>ir k v) (s,t) ((H,⟨l,lv,a⟩),hu D a.length E));have a4:∀q,A q->q<z.heap.size:=bY.lt;have gt:=a5.size;have cu:jA (restF (λq=>A q∨(z.heap.size<=q/\q<y.heap.size)) c (X j) (X mb) (X me)) R (X j) (insL ltRK d.vs (s,t) (H,⟨l,lv,a⟩)):=by
        have gQ:=a4 j (L.f1 j rfl);refine jA.ins e7.o e8.o L.o.ok.ok.vs (λq g=>N.block q (λe=>g.2.2.1 (by rw [e]))) (by rw [N.size];exact hA _) (λq g=>⟨.inl g.1,g.2⟩) (em.o.kept (λq I _=>N.block q (by omega))) (by rw [N.size,cy];exact hA _) (λq I h2=>⟨.inr ⟨I,h2⟩,?_,λe=>?_,λe=>?_,λe=>?_⟩) cb
        · have:=a4 c L.o.fc;omega
        · injection e with e;omega
        · injection e with e;have:=a4 mb (L.o.f2 mb rfl);omega
        · injection e with e;have:=a4 me (L.o.f3 me rfl);omega
       have hF:=L.o.put1 (G:=λq=>A q∨(z.heap.size<=q/\q<y.heap.size)) N (λq g=> .inl g) (λq g=>by rw [cy];rcases g with g|g;have:=a4 q g;omega;exact g.2) cu dr.o;have c3:R.cell? ⟨c,3,Y⟩=X kn:=(N.cell (p:=⟨c,3,Y⟩) bb).trans ((aa L.blk 3).trans rfl);have f3:R.frozen? ⟨c,3,Y⟩=false:=(N.frozen (p:=⟨c,3,Y⟩) bb).trans (ab L.blk 3);have HF:=Z hF;have e2:=Z N;clear hF c5 b8 a8 cc cb cp ch cg cs cm ca N bk bs cu;refine Dl 13 ?_;go_wp2_with fail
       go_ret;rw [dd.o];refine ⟨rfl,_,⟨_,_,_,_,HF.o⟩,?_⟩;have f8:ah F w F w6:=ah.of_below dc.o;have f9:ah F w A y:=(f8.trans c1.o).trans (ah.of_below a5.o);have fl:ah F w A u:=f9.own e6.o (hA _);have fp:ah A u A R:=ah.of_only e2.o (L.f1 j rfl);have fr:ah A R A (R.setCell ⟨c,3,Y⟩ (fs Y)):=ah.of_only (aq.setCell (aq.refl c R) 3 _) L.fc;refine ((fl.trans fp).trans fr).more λq g=>?_;rcases g with g|g
       · exact .inl g
       · exact .inr (by omega)
     · have eg:=Z hx;have cv:(au==0)=false:=by simpa using hx
       go_wp2_with fail
       go_ret;rw [ad.o,if_neg eg.o];exact ⟨rfl,F,⟨_,_,_,_,ao.below O⟩,ah.of_below (btr a6.o O a6.size)⟩
   · have gz:(H==n)=false:=by simpa using hnn
     rw [decide_eq_false hnn,Bool.false_and] at bw;have HN:Hid (∀W,Calls prog 56 #[hy th,hy false,J U H,J U n,J U d8] W λe w'=>e=hb (J U au)/\W=w'):=λW=>by rw [bw.o];exact gH _ _ _ _ _ W
     have O:=a2;go_wp2_with fail
     refine Wb M 23 ?_;refine Qb [0,1,3,13,15,17,2,4,14,16,18,5,19,6,20] a2 fx ?_;refine tf 7 rfl a2 ?_;(try go_simp)
     refine tf 9 rfl a2 ?_;(try go_simp)
     refine tf 8 rfl a2 ?_;(try go_simp)
     refine tf 10 rfl a2 ?_;(try go_simp)
     refine tf 11 rfl a2 ?_;(try go_simp)
     refine Qa [12] a2 ?_
     have f0:=λty=>dx M.drew ty a2;refine Ds 21 a2 ?_;refine Dp 22 λK b=>?_;go_simp;go_at_call 56;refine (HN _).mono ?_;rintro e w9 ⟨rfl,rfl⟩;refine b _ _ (λ_=>a2) ?_;clear b K;refine Dl 23 ?_;obtain ⟨w6,gi⟩:=Qe M.drew;rw [gi] at O ⊢;clear f0 gi;by_cases hx:au=0
     · subst hx;have dd:Hid (putC d (s,t) n ⟨l,lv,a⟩=({d with vs:=insL ltRK d.vs (s,t) (n,⟨l,lv,a⟩)},0)):=by unfold Hid;rw [ad.o,if_pos rfl]
       have dr:Hid (bf {d with vs:=insL ltRK d.vs (s,t) (n,⟨l,lv,a⟩)}):=bt rfl;have dz:=Z (ao.below O);have ay:=Z ((O.block _ (ae d1.o)).trans d1.o);have e1:Hid (ai lo hi w6 (hu P a.length Q) a):=e0.o.kept (λq _ h=>O.block q (by have:=al.o.2;omega));have dc:Hid (Bw w w6):=btr a6.o O a6.size;have bO:Hid (hi<=w6.heap.size):=by have:=al.o.2;have:=O.size;unfold Hid;omega
       have cd:¬F w.heap.size:=λhf=>by have:=fy.o _ hf;omega
       have d9:Hid (Calls prog 57 #[fs (X ⟨c,0,Y⟩)] w6 λe z=>e=hb (.tuple #[])/\∃A j mb me,Hid (dw A z c (X j) (X mb) (X me) kn d)/\Hid (ah F w6 A z)/\Hid (z.heap[w.heap.size]? =X (fn #[J U s,J U t,J U n,J ht l.toNat,J ht lv.toNat,hu P a.length Q] 64 (0,0)))/\
        Hid (Calls prog 60 #[.agg #[J ht l.toNat,J ht lv.toNat,hu P a.length Q]] z λe y=>∃D E,e=hb (.agg #[J ht l.toNat,J ht lv.toNat,hu D a.length E])/\Hid (ai z.heap.size y.heap.size y (hu D a.length E) a)/\Hid (Bw z y)/\
         y.cell? ⟨w.heap.size,3,Y⟩=X (J ht l.toNat)/\y.cell? ⟨w.heap.size,4,Y⟩=X (J ht lv.toNat)/\y.cell? ⟨w.heap.size,5,Y⟩=X (hu P a.length Q)/\y.frozen? ⟨w.heap.size,3,Y⟩=false/\y.frozen? ⟨w.heap.size,4,Y⟩=false/\y.frozen? ⟨w.heap.size,5,Y⟩=false)/\
        z.cell? ⟨w.heap.size,3,Y⟩=X (J ht l.toNat)/\z.cell? ⟨w.heap.size,4,Y⟩=X (J ht lv.toNat)/\z.cell? ⟨w.heap.size,5,Y⟩=X (hu P a.length Q)):=by
        refine (gT dz.o).mono ?_
        rintro e z ⟨he,A,j,mb,me,hM,V⟩
        have a7:=(V.block _ (ae ay.o) cd).trans ay.o
        have er:ai lo hi z (hu P a.length Q) a:=e1.o.kept (λq I h=>V.block q (by have:=bO.o;omega) (fz.o q I h))
        obtain ⟨_,_,_,b3,b4,b5⟩:=kN a7
        refine ⟨he,A,j,mb,me,hM,V,a7,?_,b3,b4,b5⟩
        refine (x9 (.agg #[J ht l.toNat,J ht lv.toNat,hu P a.length Q]) ⟨l,lv,a⟩ z ⟨_,rfl,er.mono (hD _) (Nat.le_trans bO.o V.size)⟩ eQ dk.o).mono ?_
        rintro e y ⟨v',he,⟨x2,hv,cx⟩,c9⟩
        obtain ⟨D,E,rfl⟩:=cx.shape
        have a0:=(c9.block _ (ae a7)).trans a7
        obtain ⟨_,_,_,b3,b4,b5⟩:=kN a0
        exact ⟨D,E,by rw [he,hv];rfl,cx,c9,b3,b4,b5,ab a0 3,ab a0 4,ab a0 5⟩
       go_wp2_with (first
        |(go_at_call 57;((with_reducible refine hH d9.o ?_);rintro e z ⟨rfl,A,j,mb,me,bY,c1,aC,c0,b3,b4,b5⟩))
        |(go_at_call 60;((with_reducible refine hH c0.o ?_);rintro e y ⟨D,E,rfl,ej,a5,e3,e4,e5,f3,f4,f5⟩)))
       obtain ⟨u,a9⟩:=Qe (((y.setCell ⟨w.heap.size,3,Y⟩ (J ht l.toNat)).setCell ⟨w.heap.size,4,Y⟩ (J ht lv.toNat)).setCell ⟨w.heap.size,5,Y⟩ (hu D a.length E));have a0:=(a5.block _ (ae aC.o)).trans aC.o;have b7:u.heap[w.heap.size]? =X (fn #[J U s,J U t,J U n,J ht l.toNat,J ht lv.toNat,hu D a.length E] 64 (0,0)):=by rw [<- a9];exact an (an (an a0 3 (J ht l.toNat)) 4 (J ht lv.toNat)) 5 (hu D a.length E)
       have a3:aq w.heap.size y u:=by rw [<- a9];exact (((aq.refl _ y).setCell 3 _).setCell 4 _).setCell 5 _
       have f7:¬A w.heap.size:=c1.not (ae ay.o) cd;have a1:dw A u c (X j) (X mb) (X me) kn d:=(bY.o.below a5.o).step (λq g=>a3.block q (λe=>f7 (e ▸ g))) (by rw [a3.size];exact hA _);have gx:w.heap.size<z.heap.size:=ae aC.o;have c7:ai z.heap.size y.heap.size u (hu D a.length E) a:=ej.o.kept (λq I _=>a3.block q (by omega));have cy:u.heap.size=y.heap.size:=a3.size;rw [a9];clear a9 a0 e3 e4 e5 f3 f4 f5 b3 b4 b5 c0;obtain ⟨ps,q1,q2,q3⟩:=a1.vs;have cq:aw ltRK ps:=by have hs:=a1.ok.ok.vs;rw [<- q1] at hs;unfold aw at hs ⊢;rw [hG] at hs;exact hs
       have ha:ps.length<=5000:=by have:=a1.ok.vlen;rw [<- q1] at this;simpa using this
       have ac:am recB u j (ps.map λp=>(p.1,ir p.1 p.2)):=q2;obtain ⟨st,c4,c2,cm,ca,cg,cs⟩:=am.entry (w:=u.drew) (am.drew ac) gJ underlying113 jD (s,t) hk (by rw [hI];unfold maxLen;omega);have bb:c≠j:=λe=>(aj ac a1.blk) e.symm;have eq:w.heap.size≠j:=λe=>(aj ac b7) e.symm;have aS:Hid (∀W,aq j u W->W.cell? ⟨c,0,Y⟩=X (hz (X j))/\W.cell? ⟨w.heap.size,0,Y⟩=X (J U s)/\W.cell? ⟨w.heap.size,1,Y⟩=X (J U t)/\W.cell? ⟨w.heap.size,2,Y⟩=X (J U n)/\W.cell? ⟨w.heap.size,3,Y⟩=X (J ht l.toNat)/\W.cell? ⟨w.heap.size,4,Y⟩=X (J ht lv.toNat)/\W.cell? ⟨w.heap.size,5,Y⟩=X (hu D a.length E)):=λW ho=>by obtain ⟨p0,p1,p2,p3,p4,p5⟩:=kN ((ho.block _ eq).trans b7);exact ⟨(aa ((ho.block c bb).trans a1.blk) 0).trans rfl,p0,p1,p2,p3,p4,p5⟩
       have bk:aq j u u.drew:=(aq.refl j u).drew;have c5:=aS _ bk;have L:=Z a1;have e7:=Z q1;have e8:=Z q3;have e9:=Z cq;have em:=Z c7;have e6:=Z a3;clear a1 b7 q1 q2 q3 cq c7 a3 ac;refine wT (λW=>W.cell? ⟨c,0,Y⟩=X (hz (X j))/\W.cell? ⟨w.heap.size,0,Y⟩=X (J U s)/\W.cell? ⟨w.heap.size,1,Y⟩=X (J U t)/\W.cell? ⟨w.heap.size,2,Y⟩=X (J U n)/\W.cell? ⟨w.heap.size,3,Y⟩=X (J ht l.toNat)/\W.cell? ⟨w.heap.size,4,Y⟩=X (J ht lv.toNat)/\W.cell? ⟨w.heap.size,5,Y⟩=X (hu D a.length E)) 13 ?_;refine Qb [0,4,6,7,1,5,2,3] c5 (λw' h=>h) ?_;refine Dp 8 λK b=>?_;refine bp rfl cm ?_;have bs:aq j u (hC u.drew j (.map c4 c2)):=bk.trans cg;have b8:=aS _ bs;generalize hC u.drew j (.map c4 c2)=w4 at *;refine b _ _ (λ_=>b8) ?_;clear b K;go_simp;refine Qb [9] b8 (λw' h=>h) ?_
       refine Dp 10 λK b=>?_;obtain ⟨R,cp,cc,ch⟩:=cs w4 (.agg #[J U s,J U t,J U n,J ht l.toNat,J ht lv.toNat,hu D a.length E]) ca;refine aZ rfl cp ?_;have N:aq j u R:=bs.trans ch;have a8:=aS _ N;refine b _ _ (λ_=>a8) ?_;clear b K;go_simp;refine Ds 11 a8 ?_;refine Qb [12] a8 (λw' h=>h) ?_
       have cb:am recB R j ((insL ltRK ps (s,t) ((n,⟨l,lv,a⟩),hu D a.length E)).map λp=>(p.1,ir p.1 p.2)):=cc.perm (jj aN e9.o (λk v=>ir k v) (s,t) ((n,⟨l,lv,a⟩),hu D a.length E));have a4:∀q,A q->q<z.heap.size:=bY.lt;have gt:=a5.size;have cu:jA (restF (λq=>A q∨(z.heap.size<=q/\q<y.heap.size)) c (X j) (X mb) (X me)) R (X j) (insL ltRK d.vs (s,t) (n,⟨l,lv,a⟩)):=by
        have gQ:=a4 j (L.f1 j rfl);refine jA.ins e7.o e8.o L.o.ok.ok.vs (λq g=>N.block q (λe=>g.2.2.1 (by rw [e]))) (by rw [N.size];exact hA _) (λq g=>⟨.inl g.1,g.2⟩) (em.o.kept (λq I _=>N.block q (by omega))) (by rw [N.size,cy];exact hA _) (λq I h2=>⟨.inr ⟨I,h2⟩,?_,λe=>?_,λe=>?_,λe=>?_⟩) cb
        · have:=a4 c L.o.fc;omega
        · injection e with e;omega
        · injection e with e;have:=a4 mb (L.o.f2 mb rfl);omega
        · injection e with e;have:=a4 me (L.o.f3 me rfl);omega
       have hF:=L.o.put1 (G:=λq=>A q∨(z.heap.size<=q/\q<y.heap.size)) N (λq g=> .inl g) (λq g=>by rw [cy];rcases g with g|g;have:=a4 q g;omega;exact g.2) cu dr.o;have c3:R.cell? ⟨c,3,Y⟩=X kn:=(N.cell (p:=⟨c,3,Y⟩) bb).trans ((aa L.blk 3).trans rfl);have f3:R.frozen? ⟨c,3,Y⟩=false:=(N.frozen (p:=⟨c,3,Y⟩) bb).trans (ab L.blk 3);have HF:=Z hF;have e2:=Z N;clear hF c5 b8 a8 cc cb cp ch cg cs cm ca N bk bs cu;refine Dl 13 ?_;go_wp2_with fail
       go_ret;rw [dd.o];refine ⟨rfl,_,⟨_,_,_,_,HF.o⟩,?_⟩;have f8:ah F w F w6:=ah.of_below dc.o;have f9:ah F w A y:=(f8.trans c1.o).trans (ah.of_below a5.o);have fl:ah F w A u:=f9.own e6.o (hA _);have fp:ah A u A R:=ah.of_only e2.o (L.f1 j rfl);have fr:ah A R A (R.setCell ⟨c,3,Y⟩ (fs Y)):=ah.of_only (aq.setCell (aq.refl c R) 3 _) L.fc;refine ((fl.trans fp).trans fr).more λq g=>?_;rcases g with g|g
       · exact .inl g
       · exact .inr (by omega)
     · have eg:=Z hx;have cv:(au==0)=false:=by simpa using hx
       go_wp2_with fail
       go_ret;rw [ad.o,if_neg eg.o];exact ⟨rfl,F,⟨_,_,_,_,ao.below O⟩,ah.of_below (btr a6.o O a6.size)⟩
 · rw [decide_eq_false hr] at HR;have HE:=Z (di hr);clear ad di bt b6 hr;go_enter func29,ntmps29;go_wp2_with (go_at_call 58;((with_reducible refine hH (HR.o _ (hE _ _)) ?_);rintro e B ⟨rfl,ax⟩))
   go_ret;rw [HE.o];exact ⟨rfl,F,⟨_,_,_,_,HM.below ax⟩,ah.of_below (btr d0.o ax d0.size)⟩
theorem wy (a b:Int) (n:Int) (k l:Int) (x:hQ) (w:hN):(Instr.field 64 (.agg #[J U a,J U b,J U n,J ht k,J ht l,x]) 1).run prog w= .ok (J U n) w:=by kernel_rfl
theorem ww (a b:Int) (n:Int) (k l:Int) (o:Option Addr) (m c:Nat) (w:hN):(Instr.field 64 (.agg #[J U a,J U b,J U n,J ht k,J ht l,hu o m c]) 2).run prog w= .ok (.agg #[J ht k,J ht l,hu o m c]) w:=by kernel_rfl
theorem lY (a:Int) (j:Bool) (w:hN):(Instr.field 139 (.agg #[J U a,hy j]) 1).run prog w= .ok (hy j) w:=by kernel_rfl
def inC (d:aE) (p:RK×(Int×az)):Bool:=match findK d.ds p.1 with
 |some n=>decide (n<=p.2.1)
 |none=>true
theorem qD (d:aE):thereC d=d.vs.filter (inC d):=rfl
theorem uH (l:List RK):∀u∈l.flatMap rkCells,u.oneCell'=true:=by
 intro u a;obtain ⟨p,b,a⟩:=List.mem_flatMap.1 a;simp only [rkCells,List.mem_cons,List.not_mem_nil,or_false] at a;rcases a with rfl|rfl<;>rfl
theorem oZ (l:List RK):(l.flatMap rkCells).length=l.length * 2:=by
 induction l with
 |nil=>rfl
 |cons p ps ih=>rw [List.flatMap_cons,List.length_append,ih];simp [rkCells];omega
theorem kF (w:hN) (o:Obj) (x y:hQ) (t:TypeId):∀j v,[x,y][j]? =X v->((w.alloc o).alloc (fn #[x,y] t)).drew.drew.cell? ((⟨w.heap.size+1,0,Y⟩:Addr).add j)=X v:=by
 have h:=cell_two_new (w.alloc o) x y t;rw [World.size_alloc] at h;exact h
theorem nB {w:hN} {B e k n:Nat} {v:hQ} {a:List hQ} (h:w.ownsRow B e k v n a):w.drew.drew.ownsRow B e k v n a:=h
theorem uG {w:hN} {B e k n:Nat} {v:hQ} {b:List hQ} {o a:Obj} (h:w.ownsRow B e k v n b):((w.alloc o).alloc a).ownsRow B e k v n b:=(h.alloc o).alloc a
theorem xC (F:Nat->Prop) (w:hN) (c:Nat) (z m2 m3:Option Nat) (kn:hQ) (d:aE) (h:dw F w c z m2 m3 kn d):
 Calls prog 77 #[fs (X ⟨c,0,Y⟩)] w λe w'=>∃v,e=hb v/\w'.ownsRow w.heap.size 36 2 v ((thereC d).map (·.1)).length (((thereC d).map (·.1)).flatMap rkCells)/\Bw w w':=by
 obtain ⟨ps,O,q2,q3⟩:=h.vs;have b3:cC ltRK (ps.map (·.1))=d.vs.map (·.1):=by rw [<- O,List.map_map];refine bq aN (.refl _) ?_;have y:=h.ok.ok.vs;rw [<- O] at y;unfold aw at y;rw [hG] at y ⊢;exact y
 have a6:ps.length=d.vs.length:=by rw [<- O];simp
 have c2:=h.ok.vlen;have HK:=Z (uU z w);have a3:Bw w (w.alloc (fn #[.map z] 113)):=(hE _ w).alloc (hA _) _;have a8:=nM 8 (by omega) w.heap.size z (ps.map λp=>(p.1,ir p.1 p.2)) (w.alloc (fn #[.map z] 113)) (by rw [World.cell?_alloc_new];rfl) (q2.block (λb L=>a3.block b (h.lt b (h.f1 b L)))) (λb L=>by have:=h.lt b (h.f1 b L);simp;omega);have b5:(ps.map λp=>(p.1,ir p.1 p.2)).map (·.1)=ps.map (·.1):=by rw [List.map_map];rfl
 rw [b5] at a8;have P:=Z (gX 10 (by omega) 108 #[fs (X ⟨w.heap.size,0,Y⟩)] (enters_of func108 (by kernel_rfl) rfl) (ps.map (·.1)) (by simp;omega) _ _ (λch x hx=>by have:=hx.1;simp at this;omega) _ a8);rw [b3] at P;have a5:(ps.map (·.1)).length=(d.vs.map (·.1)).length:=by simp [a6]
 rw [a5] at P;have c0:w.cell? ⟨c,0,Y⟩=X (.map z):=(aa h.blk 0).trans rfl;have I:=Z h;have ao:=Z a3;have ay:=Z O;have bA:=Z q2;have bB:=Z q3;have bw:=Z a6;have bs:(w.alloc (fn #[.map z] 113)).heap.size=w.heap.size+1:=by simp
 have c4:=Z bs;clear a8 b5 b3 a5 h a3 O q2 q3 a6 bs;obtain ⟨i0,hi,bb,bc,bk⟩:=info_parts i36;have HI:=Z hi;have au:=Z bb;have av:=Z bc;have ax:=Z bk;clear hi bb bc bk;obtain ⟨s,R⟩:=Qe (d.vs.map (·.1));rw [R] at P;have a5:s.length<=5000:=by rw [<- R];simpa using c2
 have a1:=Z R;clear R;go_enter func77,ntmps77
 go_wp2_with (first
  |(go_at_call 61;((with_reducible refine hH HK.o ?_);rintro e w1 ⟨rfl,rfl⟩))
  |(go_at_call 47;((with_reducible refine hH P.o ?_);rintro e C ⟨v,rfl,a7,b1⟩;obtain ⟨va,vc,rfl⟩:=aI a7;have bO:=Z a7;have bt:=Z b1;clear a7 b1)))
 have aS:Bw w C:=ao.trans (bt.mono ao.size);have A:=Z aS;clear aS;go_loopw [3,5,6,7,15] (λc3 _p _a _b i wr=>∃(k:Nat) (G:Option Addr) (H:Nat) (g:List RK),k<=s.length/\i=J U k/\Hid (g=((d.vs.take k).filter (inC d)).map (·.1))/\c3=hu G g.length H/\Hid (wr.ownsRow (C.heap.size) 36 2 (hu G g.length H) g.length (g.flatMap rkCells))/\Hid (Bw C wr)) (λ_ _ _ _ i _=>s.length - (intOf i).toNat)
 case atStart=>exact ⟨0,Y,0,[],hD _,rfl,rfl,rfl,World.ownsRow_nil _ _ _ _,hE _ _⟩
 case round=>
  obtain ⟨k,G,H,g,hk,rfl,K,rfl,E,t⟩:=hrel;by_cases hlt:k<s.length
  · have a9:k<d.vs.length:=by rw [<- a1.o] at hlt;simpa using hlt
    have cd:k<ps.length:=by rw [bw.o];exact a9
    have aC:=Z ((aX bO.o).kept (w':=wr) (λq _ hq=>t.block q hq));have b7:eu 0 C.heap.size wr (hu va s.length vc) s:=aC.mono (hD _) (hA _);obtain ⟨b,cg,c5,he,_,c9,e0,e1⟩:=b7.one k hlt;cases he;have Q:Hid (d.vs.take (k+1)=d.vs.take k++[d.vs[k]]):=List.take_succ_eq_append_getElem a9;have b4:s[k]=d.vs[k].1:=by simp [<- a1.o]
    have B:=I.below (A.trans (t.mono A.size));obtain ⟨p,hp⟩:=Qe (d.vs[k]);have V:p∈d.vs:=by rw [<- hp];exact List.getElem_mem a9
    rw [hp] at Q b4;obtain ⟨⟨a,f⟩,n,r⟩:=p;have b6:rkOk (a,f):=I.ok.vkey _ V;rw [b4] at e0 e1;dsimp only at e0 e1;have M:∃x,findK ps (a,f)=X ((n,r),x):=by
     rw [<- ay.o] at V;obtain ⟨q,hq,he⟩:=List.mem_map.1 V;obtain ⟨qk,qv,qx⟩:=q;injection he with h1 h2
     dsimp only at h1 h2;subst h1;subst h2;have y:=I.ok.ok.vs;rw [<- ay.o] at y;unfold aw at y;rw [hG] at y;exact ⟨qx,(dQ aN (l:=ps) y).2 hq⟩
    obtain ⟨x,M⟩:=M;obtain ⟨_,_,b2,_,_⟩:=bB _ (pP M);obtain ⟨xa,xc,b9⟩:=b2.shape;dsimp only at b9;subst b9;clear b2;have b0:∀W,Bw wr W->(hL 113 (.map z) (.agg #[J U a,J U f]) false).run prog W= .ok (.agg #[J U a,J U f,J U n,J ht r.kind.toNat,J ht r.level.toNat,hu xa r.fields.length xc]) W:=λW hW=>by have c1:Bw w W:=(A.o.trans (t.o.mono A.o.size)).trans (hW.mono (by have:=A.o.size;have:=t.o.size;omega));have:=bW.look (w:=W) (bA.block (λb L=>c1.block b (I.lt b (I.f1 b L)))) underlying113 jD (a,f) b6;rw [eP,M] at this;exact this
    have aT:∀W,Bw wr W->(hL 114 (.map m2) (.agg #[J U a,J U f]) true).run prog W= .ok (.tuple #[J U ((findK d.ds (a,f)).getD 0),hy (findK d.ds (a,f)).isSome]) W:=λW hW=>by have:=bW.look_ok (w:=W) ((B.below hW).ds) underlying114 un (a,f) b6;rw [dY d.ds (λn=>Value.int U n)] at this;refine Eq.trans this ?_;cases findK d.ds (a,f)<;>rfl
    have b8:∀o,Bw wr (wr.alloc o).drew:=λo=>((hE _ wr).alloc (hA _) o).drew;have T:=λo=>aT _ (b8 o);have cb:=λo=>b0 _ (b8 o).drew;have ca:=λW=>wy a f n r.kind.toNat r.level.toNat (hu xa r.fields.length xc) W;have c7:∀o,(wr.alloc o).cell? ⟨c,1,Y⟩=X (.map m2):=λo=>by rw [aM _ _ _ _ (B.lt c B.fc)];exact (aa B.blk 1).trans rfl
    have c6:∀o,(wr.alloc o).cell? ⟨c,0,Y⟩=X (.map z):=λo=>by rw [aM _ _ _ _ (B.lt c B.fc)];exact (aa B.blk 0).trans rfl
    have cc:g.length<=5000:=by rw [K.o,hI];have:=List.length_filter_le (inC d) (d.vs.take k);rw [List.length_take] at this;omega
    have ac:=t.size;clear b0 aT M B b7 aC V hp;have u:Hid (inC d ((a,f),n,r)=match findK d.ds (a,f) with |some m=>decide (m<=n)|none=>true):=rfl;cases hf:findK d.ds (a,f) with
    |none=>
     rw [hf] at T u;dsimp only at u;simp only [hV,hS] at T;clear hf;go_wp2_with fail
     go_region;go_wp2_with fail
     go_region;go_wp2_with (at_builtin;refine wpList_append_own_at _ rfl _ _ 52 rfl C.heap.size 36 i0 (.agg #[J U 0,J U 0]) 2 16 underlying52 HI.o au.o av.o ax.o rfl (by decide) (hu G g.length H) _ _ rfl (nB (uG E.o)) ⟨wr.heap.size+1,0,Y⟩ 1 1 [J U a,J U f] rfl rfl (kF _ _ _ _ _) (by simp [Value.oneCell']) (by unfold maxLen;omega) (by omega) (by simp;omega) ?_;intro v' w5 D N _ bY;obtain ⟨ad,al,rfl⟩:=bM D;have a2:=Z D;have a0:=Z N;clear D N)
     go_roundw
     case rel=>
      refine ⟨k+1,ad,al,g++[(a,f)],by omega,by go_num,?_,by simp,?_,?_⟩
      · unfold Hid;rw [Q.o,hK,hO,K.o];simp [u.o]
      · have:=a2.o;exact Z (by simpa [rkCells] using this)
      · have a4:Bw C ((wr.alloc (fn #[J U a,J U f] 36)).alloc (fn #[J U a,J U f] 36)).drew.drew:=(((t.o.alloc ac _).alloc (by simp;omega) _).drew).drew;exact a4.grown a0.o (by simp;omega) (λj hj=>(E.o.lt j hj).1)
     case measure=>simp [intOf];omega
    |some m=>
     rw [hf] at T u;dsimp only at u;simp only [Option.getD_some,Option.isSome_some] at T;clear hf;by_cases hmn:m<=n
     · rw [decide_eq_true hmn] at u;go_wp2_with fail
       go_region;go_wp2_with fail
       go_region;go_wp2_with (at_builtin;refine wpList_append_own_at _ rfl _ _ 52 rfl C.heap.size 36 i0 (.agg #[J U 0,J U 0]) 2 16 underlying52 HI.o au.o av.o ax.o rfl (by decide) (hu G g.length H) _ _ rfl (nB (uG E.o)) ⟨wr.heap.size+1,0,Y⟩ 1 1 [J U a,J U f] rfl rfl (kF _ _ _ _ _) (by simp [Value.oneCell']) (by unfold maxLen;omega) (by omega) (by simp;omega) ?_;intro v' w5 D N _ bY;obtain ⟨ad,al,rfl⟩:=bM D;have a2:=Z D;have a0:=Z N;clear D N)
       go_roundw
       case rel=>
        refine ⟨k+1,ad,al,g++[(a,f)],by omega,by go_num,?_,by simp,?_,?_⟩
        · unfold Hid;rw [Q.o,hK,hO,K.o];simp [u.o]
        · have:=a2.o;exact Z (by simpa [rkCells] using this)
        · have a4:Bw C ((wr.alloc (fn #[J U a,J U f] 36)).alloc (fn #[J U a,J U f] 36)).drew.drew:=(((t.o.alloc ac _).alloc (by simp;omega) _).drew).drew;exact a4.grown a0.o (by simp;omega) (λj hj=>(E.o.lt j hj).1)
       case measure=>simp [intOf];omega
     · rw [decide_eq_false hmn] at u;go_wp2_with fail
       go_region;go_wp2_with fail
       go_region;go_wp2_with fail
       go_roundw
       case rel=> refine ⟨k+1,G,H,g,by omega,by go_num,?_,rfl,(E.o.alloc _),(t.o.alloc ac _).drew.drew⟩;unfold Hid;rw [Q.o,hK,hO,K.o];simp [u.o]
       case measure=>simp [intOf];omega
  · have HE:Hid (g=(thereC d).map (·.1)):=by
     unfold Hid
     rw [K.o,qD,List.take_of_length_le (by have:s.length=d.vs.length:=by rw [<- a1.o];simp
                                           omega)]
    go_wp2_with fail
    go_ret;rw [<- HE.o];exact ⟨_,rfl,bG E.o A.size,A.trans (t.mono A.size)⟩
end
end Go.Proofs.YtjcimanddakkaaaGreatDoor
