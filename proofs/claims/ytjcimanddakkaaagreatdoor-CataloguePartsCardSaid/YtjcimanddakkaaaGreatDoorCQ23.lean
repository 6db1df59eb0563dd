/- Lemmas. -/
import Derived.Test.YtjcimanddakkaaaGreatDoorCQ13
import Derived.Test.YtjcimanddakkaaaGreatDoorCQ22
import Derived.Deep.CutBlock
set_option maxRecDepth 100000
set_option maxHeartbeats 8000000
namespace Go.Proofs.YtjcimanddakkaaaGreatDoor
open _root_.Option renaming some→X,none→Y
open Go.Value renaming slice→a1,int→J,pointer→fn,bool→hk
open Go.IntKind renaming i64→U,u8→hI
open Go.Obj renaming cells→a2
open Go.Ending renaming returned→hb
open Go.Lib renaming hid→Z
open Tryz
open Go.World renaming size_setCell→hJ,alloc_heap_new→hM,ownsRow_lit→hZ
open Go.RowKit.Below renaming heap_setCell→hK,heap_alloc→hY,refl→it
open _root_.List renaming flatMap_cons→hL,length_append→hP,length_take→hQ,length_drop→hR,not_mem_nil→hV,flatMap_append→hW,mem_cons→hX,length_cons→ia,eq_nil_of_length_eq_zero→iv,mem_of_mem_take→iD,mem_of_mem_drop→iF,length_set→i4,getElem?_eq_getElem→i7
open _root_.Nat renaming le_refl→hO,zero_le→hT,zero_add→ib,min_eq_left→ih,succ_mul→iQ,mul_le_mul_right→iS,lt_or_ge→i8
open Go.Calls renaming mono→hS
open Go renaming Value→iN,World→iP,Calls→i2
open _root_.Int renaming lt_trichotomy→i1
open _root_.Or renaming inl→i6
section
open Go.RowKit Go.Maps Go.Shelf
section
variable {K V:Type} [DecidableEq K] {lt:K->K->Bool}
theorem lz(T:Tot lt){l:List (K×V)}(e:aB lt l){k:K}{v:V}(h:findK l k=X v):∃b:placeK lt l k<l.length,l[placeK lt l k]=(k,v):=by
 rw[eS T e]at h;cases hg:l[placeK lt l k]? with
 |none=>rw[hg]at h;cases h
 |some p=>
  rw[hg]at h;obtain⟨b,d⟩:=List.getElem?_eq_some_iff.1 hg;refine⟨b,?_⟩;rw[d];have h:(if p.1=k then X p.2 else Y)=X v:=h;split at h
  .rename_i c;injection h with h
   exact Prod.ext c h
  cases h
theorem si(T:Tot lt){l:List (K×V)}(c:aB lt l){k:K}(h:findK l k=Y):(l[placeK lt l k]?).map (·.1)≠X k:=by
 rw[eS T c]at h;cases hg:l[placeK lt l k]? with
 |none=>simp
 |some p=> rw[hg]at h;have h:(if p.1=k then X p.2 else Y)=Y:=h;intro b;simp at b;rw[if_pos b]at h;cases h
theorem p6(T:Tot lt){l:List (K×V)}(d:aB lt l){k:K}{v:V}(h:findK l k=X v)(u:V):insL lt l k u=l.set (placeK lt l k) (k,u):=by
 obtain⟨b,c⟩:=lz T d h;rw[r3,if_pos (by rw[i7 b,c];rfl),List.set_eq_take_append_cons_drop,if_pos b]
theorem p7(T:Tot lt){l:List (K×V)}(b:aB lt l){k:K}(h:findK l k=Y)(u:V):insL lt l k u=l.take (placeK lt l k)++(k,u)::l.drop (placeK lt l k):=by
 rw[r3,if_neg (si T b h)]
end
theorem eR{α:Type}(enc:α->List iN)(n:Nat)(hn:∀x,(enc x).length=n):∀(b:List α)(m i:Nat)(u:iN)(y:α)(hm:m<b.length),i<n->(enc b[m]).set i u=enc y->(b.flatMap enc).set (m*n+i) u=(b.set m y).flatMap enc
 |x::b,0,i,u,y,hm,hi,he=>by
  rw[hL,Nat.zero_mul,ib,List.set_append_left _ _ (by rw[hn];exact hi),List.set_cons_zero,hL]
  rw[show(enc x).set i u=enc y from he]
 |x::b,m+1,i,u,y,hm,hi,he=>by
  rw[hL,List.set_append_right _ _ (by rw[hn,iQ];omega),hn,show(m+1)*n+i-n=m*n+i by rw[iQ];omega,List.set_cons_succ,hL,eR enc n hn b m i u y (by simpa using hm) hi he]
section
variable {P:Program} {o:Oper} {a:Act} {K:Act->iP->Prop} {Q:Exit->Act->iP->Prop} {w:iP}
theorem dV{s x:Operand}{t:TypeId}(e:o.op=.call {callee:=.builtin .append,args:= #[s,x],argTypes:= #[t,t]}){b c v:iN}(g:a.eval s=b)(h:a.eval x=c){w':iP}(f:(Builtin.append_ #[t,t] o.type #[b,c]).run P w=.ok v w')(d:K (a.put o.dst v) w'):o.wp P a w K Q:=by
 unfold Oper.wp execOp;simp only[e,resolve,invoke,builtin,Sem.run_bind,Sem.run_pure,Result.andThen_ok,List.map_toArray,List.map_cons,List.map_nil,g,h,f];exact d
end
theorem kp{α:Type}(enc:α->List iN)(n:Nat)(hn:∀x,(enc x).length=n):∀(b:List α)(q:Nat),(b.drop q).flatMap enc=(b.flatMap enc).drop (q*n)
 |[],q=>by simp
 |x::b,0=>by simp
 |x::b,q+1=>by rw[List.drop_succ_cons,kp enc n hn b q,hL,iQ,Nat.add_comm,<- List.drop_drop,List.drop_left' (hn x)]
theorem kj{α:Type}(enc:α->List iN)(n:Nat)(hn:∀x,(enc x).length=n):∀(b:List α)(q:Nat),(b.take q).flatMap enc=(b.flatMap enc).take (q*n)
 |[],q=>by simp
 |x::b,0=>by simp
 |x::b,q+1=>by rw[List.take_succ_cons,hL,kj enc n hn b q,hL,iQ,Nat.add_comm (q*n),List.take_append,hn,List.take_of_length_le (show(enc x).length<=n+q*n by rw[hn];omega),Nat.add_sub_cancel_left]
theorem pE{α:Type}{enc:α->List iN}{k e g N c n l:Nat}{w:iP}{f:List α}(r:∀x,(enc x).length=k)(h:w.ownsRow 0 e k (a1 (X ⟨g,0,Y⟩) N c) N (f.flatMap enc))(v:f.length=N)(q:Nat)(y:q<=N){d:Nat}(t:q<N->d=q*k)(p:g<l):
 aJ 0 l w (a1 (X ⟨g,d,Y⟩) (N-q) n) (N-q) ((f.drop q).flatMap enc):=by
 refine⟨_,_,rfl,λs=>⟨g,d,rfl,hT _,p,λj x b=>?_⟩⟩;have u:q<N:=by
  rcases i8 q N with i|i
  .exact i
  exact absurd (by rw[List.drop_of_length_le (by omega)];rfl) s
 rw[kp enc k r,List.getElem?_drop]at b;rw[t u];have m:=(List.getElem?_eq_some_iff.1 b).1;rw[h.1]at m;rw[h.cellAt _ m];exact b
theorem pF{α:Type}{enc:α->List iN}{k e g N c d:Nat}{w:iP}{f:List α}(l:∀x,(enc x).length=k)(h:w.ownsRow 0 e k (a1 (X ⟨g,0,Y⟩) N c) N (f.flatMap enc))(q:Nat)(m:q<=N)(i:g<d):
 aJ 0 d w (a1 (X ⟨g,0,Y⟩) q c) q ((f.take q).flatMap enc):=by
 refine⟨_,_,rfl,λp=>⟨g,0,rfl,hT _,i,λj x b=>?_⟩⟩;rw[kj enc k l,List.getElem?_take]at b;split at b
 .rename_i n;have:q*k<=N*k:=iS k m;rw[ib,h.cellAt _ (by omega)];exact b
 cases b
theorem C7:(prog.info? 142).map (λi=>(i.zero,i.size,i.bytes))=X (X (.agg #[J U 0,J U 0,J U 0]),3,24):=by kernel_rfl
theorem iy(l:List (RK×Int)):∀u∈l.flatMap dropCells,u.oneCell'=true:=by
 intro u b;obtain⟨p,c,b⟩:=List.mem_flatMap.1 b;simp only[dropCells,hX,hV,or_false]at b;rcases b with rfl|rfl|rfl<;>rfl
theorem j6{w:iP}{B C e f k j n m:Nat}{u v:iN}{l ys:List iN}(h:w.ownsRow B e k u n l)(b:w.ownsRow C f j v m ys)(c:e≠f){g:Nat}(d:u.ownBlock=X g):v.ownBlock≠X g:=λi=>by
 obtain⟨c1,t1⟩:=aH h d;obtain⟨c2,t2⟩:=aH b i;rw[t1]at t2;injection t2 with t2
 injection t2 with _ t2
 exact c t2
theorem eA{w:iP}{B e k n t p:Nat}{u:iN}{j:List iN}{b:Array iN}(h:w.ownsRow B e k u n j)(i:w.heap[p]?=X (a2 b t (0,0)))(d:e≠t){g:Nat}(f:u.ownBlock=X g):g≠p:=λc=>by
 obtain⟨c1,t1⟩:=aH h f;rw[c,i]at t1;injection t1 with t1
 injection t1 with _ t1
 exact d t1.symm
theorem eI.put2{F e:Nat->Prop}{w w':iP}{p:Nat}{l m n vN:iN}{s:List (RK×VX)}{d:ar}{ds:List (RK×Int)}(h:eI F w p l m n s d)(f:∀k,F k->e k)(t:∀k,e k->k<w'.heap.size)(j:∀k,F k->k≠p->m.ownBlock≠X k->w'.heap[k]?=w.heap[k]?)
 (u:w'.heap[p]?=X (a2 #[l,vN,n] 34 (0,0)))(c:w'.ownsRow 0 142 3 vN ds.length (ds.flatMap dropCells))(r:∀g,vN.ownBlock=X g->e g/\(m.ownBlock=X g∨¬F g))(x:w.heap.size<=w'.heap.size)(y:bi {d with ds:=ds}):eI e w' p l vN n s {d with ds:=ds}:=by
 refine⟨u,h.vx,ai h.vs (λg b=>j g (h.f1 g b) (eA h.vs h.blk (by decide) b) (j6 h.vs h.ds (by decide) b)),λq v=>?_,c,ai h.ps (λg b=>j g (h.f3 g b) (eA h.ps h.blk (by decide) b) (j6 h.ps h.ds (by decide) b)),f p h.fp,λg b=>f g (h.f1 g b),λg b=>(r g b).1,λg b=>f g (h.f3 g b),t,y⟩;refine((h.fx q v).step (λk c=>j k c.1 c.2.1 c.2.2.2.1) x).wide λk c=>⟨f k c.1,c.2.1,c.2.2.1,λb=>?_,c.2.2.2.2⟩;rcases(r k b).2 with i|i
 .exact c.2.2.2.1 i
 exact i c.1
theorem eI.put3{F e:Nat->Prop}{w w':iP}{p:Nat}{l m n vN:iN}{s:List (RK×VX)}{d:ar}{ps:List (PK×(Int×Bool))}(h:eI F w p l m n s d)(f:∀k,F k->e k)(t:∀k,e k->k<w'.heap.size)(j:∀k,F k->k≠p->n.ownBlock≠X k->w'.heap[k]?=w.heap[k]?)
 (u:w'.heap[p]?=X (a2 #[l,m,vN] 34 (0,0)))(c:w'.ownsRow 0 38 6 vN ps.length (ps.flatMap decCells))(r:∀g,vN.ownBlock=X g->e g/\(n.ownBlock=X g∨¬F g))(x:w.heap.size<=w'.heap.size)(y:bi {d with ps:=ps}):eI e w' p l m vN s {d with ps:=ps}:=by
 refine⟨u,h.vx,ai h.vs (λg b=>j g (h.f1 g b) (eA h.vs h.blk (by decide) b) (j6 h.vs h.ps (by decide) b)),λq v=>?_,ai h.ds (λg b=>j g (h.f2 g b) (eA h.ds h.blk (by decide) b) (j6 h.ds h.ps (by decide) b)),c,f p h.fp,λg b=>f g (h.f1 g b),λg b=>f g (h.f2 g b),λg b=>(r g b).1,t,y⟩;refine((h.fx q v).step (λk c=>j k c.1 c.2.1 c.2.2.2.2) x).wide λk c=>⟨f k c.1,c.2.1,c.2.2.1,c.2.2.2.1,λb=>?_⟩;rcases(r k b).2 with i|i
 .exact c.2.2.2.2 i
 exact i c.1
theorem eI.put1{F e:Nat->Prop}{w w':iP}{p:Nat}{r j l vN:iN}{t ys:List (RK×VX)}{d:ar}(h:eI F w p r j l t d)(i:∀k,F k->e k)(u:∀k,e k->k<w'.heap.size)(n:∀k,F k->k≠p->r.ownBlock≠X k->w'.heap[k]?=w.heap[k]?)
 (v:w'.heap[p]?=X (a2 #[vN,j,l] 34 (0,0)))(c:w'.ownsRow 0 64 6 vN ys.length (ys.flatMap verCells))(s:∀g,vN.ownBlock=X g->e g/\(r.ownBlock=X g∨¬F g))(y:w.heap.size<=w'.heap.size)(z:bi {d with vs:=ys.map λp=>(p.1,p.2.1)})
 (x:∀q∈ys,q∈t∨dT (restM e p vN j l) w' q):eI e w' p vN j l ys {d with vs:=ys.map λp=>(p.1,p.2.1)}:=by
 refine⟨v,rfl,c,λq f=>?_,ai h.ds (λg b=>n g (h.f2 g b) (eA h.ds h.blk (by decide) b) (j6 h.ds h.vs (by decide) b)),ai h.ps (λg b=>n g (h.f3 g b) (eA h.ps h.blk (by decide) b) (j6 h.ps h.vs (by decide) b)),i p h.fp,λg b=>(s g b).1,λg b=>i g (h.f2 g b),λg b=>i g (h.f3 g b),u,z⟩;rcases x q f with f|f
 .refine((h.fx q f).step (λk c=>n k c.1 c.2.1 c.2.2.1) y).wide λk c=>⟨i k c.1,c.2.1,λb=>?_,c.2.2.2.1,c.2.2.2.2⟩;rcases(s k b).2 with m|m
  .exact c.2.2.1 m
  exact m c.1
 exact f
theorem Bv(F:Nat->Prop)(w:iP)(p:Nat)(d:ar)(h:cI F w p d)(k:RK)(n:Int)(s:rkOk k)(hn:i64B n):
 i2 prog 42 #[fn (X ⟨p,0,Y⟩),recK k,J U n] w λe w'=>e=hb (J U (dropC d k n).2)/\∃F',cI F' w' p (dropC d k n).1/\ah F w F' w':=by
 obtain⟨v1,v2,v3,xs,h⟩:=h;have cg:Hid (dJ d k n=0->bi {d with ds:=insL ltRK d.ds k n}):=λhx=>h.ok.drop s hn hx;have bd:=Z (ql d k n);obtain⟨b,f⟩:=k;obtain⟨w1,c7⟩:=Qe (w.alloc (a2 #[J U b,J U f] 36));have cv:Bw w w1:=by rw[<- c7];exact(it _ w).alloc (hO _) _
 have I:=hM w (a2 #[J U b,J U f] 36);rw[c7]at I;have HK:=Z I;have r:=Z (h.below cv);have ad:=Z cv;have d9:w1.heap.size=w.heap.size+1:=by rw[<- c7];simp
 have b7:=Z d9;have d1:=Z c7;have d0:=Z h.lt;have ac:=Z (Bu F w1 p v1 v2 v3 xs d r.o (b,f));have c1:=gR (lt:=ltRK) d.ds (b,f);have d3:=h.ok.dlen;clear cv d9 c7 I;cases T:findK d.ds (b,f)with
 |some m=>
  obtain⟨hq,he⟩:=lz aW h.ok.ok.ds T;have a6:=Z (p6 aW h.ok.ok.ds T n);obtain⟨g,c,hv,hg,hc⟩:=cV (enc:=dropCells) (λ_=>rfl) r.ds _ hq;rw[he]at hc;have c2:=hc 2 _ rfl;have al:Hid (dJ d (b,f) n=bg true (decide (m=n)) m n d.ds.length):=by unfold Hid dJ;rw[T];rfl
  rw[T]at ac;obtain⟨q,b8⟩:=Qe (placeK ltRK d.ds (b,f));rw[b8]at ac hq c2 a6;have HE:Hid (∃hq:q<d.ds.length,d.ds[q]=((b,f),m)):=by subst b8;exact⟨hq,he⟩
  have da:=Z c2;obtain⟨N,hN⟩:=Qe d.ds.length;rw[hN]at hv hq d3 al;have E:=Z hN;subst hv;have eq:(q:Int)<(N:Int):=by omega
  have M:Hid (∀W,Bw w1 W->W.cell? ⟨p,1,Y⟩=X (a1 (X ⟨g,0,Y⟩) N c)/\W.cell? ⟨g,q*3+2,Y⟩=X (J U m)/\W.frozen? ⟨g,q*3+2,Y⟩=false):=λW D=>
   ⟨(aa ((D.block _ (r.o.lt p r.o.fp)).trans r.o.blk) 1).trans rfl,((an D).1 g _ hg).trans da.o,(by have:=(r.o.below D).ds;rw[E.o]at this;exact this.frozenAt _)⟩
  have em:=hq;clear hc c2 he b8 hN T c1 h hq;have au:Hid (i2 prog 81 #[fn (X ⟨p,0,Y⟩),.agg #[J U b,J U f]] (w.alloc (a2 #[J U b,J U f] 36)) λe w'=>e=hb (.tuple #[J U q,hk true])/\Bw w1 w'):=by unfold Hid;rw[d1.o];exact ac.o
  clear ac;unfold recK;dsimp only;rcases i1 m n with bY|bY|bY;rotate_left
  .subst bY;have G:Hid (dJ d (b,f) m=22):=by unfold Hid;rw[al.o,decide_eq_true rfl];rfl
   have a4:Hid (dropC d (b,f) m=(d,22)):=by unfold Hid;rw[bd.o,if_neg (by rw[G.o];decide),G.o]
   go_enter func42,ntmps42;go_wp2_with (go_at_call 81;(refine hS au.o ?_;rintro e t⟨rfl,y⟩;obtain⟨p1,p2,p3⟩:=M.o t y;have x:=Z y;clear y))
   go_ret;rw[a4.o];exact⟨rfl,F,⟨_,_,_,_,r.o.below x.o⟩,ah.of_below (ad.o.trans (x.o.mono (by have:=b7.o;omega)))⟩
  .have G:Hid (dJ d (b,f) n=30):=by unfold Hid;rw[al.o,decide_eq_false (show m≠n by omega)];unfold bg;simp;omega
   have a4:Hid (dropC d (b,f) n=(d,30)):=by unfold Hid;rw[bd.o,if_neg (by rw[G.o];decide),G.o]
   have f1:(m==n)=false:=by simp;omega
   have f2:¬(m=n):=by omega
   go_enter func42,ntmps42;go_wp2_with (go_at_call 81;(refine hS au.o ?_;rintro e t⟨rfl,y⟩;obtain⟨p1,p2,p3⟩:=M.o t y;have x:=Z y;clear y))
   go_ret;rw[a4.o];exact⟨rfl,F,⟨_,_,_,_,r.o.below x.o⟩,ah.of_below (ad.o.trans (x.o.mono (by have:=b7.o;omega)))⟩
  have G:Hid (dJ d (b,f) n=0):=by unfold Hid;rw[al.o,decide_eq_false (show m≠n by omega)];unfold bg;simp;omega
  have a4:Hid (dropC d (b,f) n=({d with ds:=insL ltRK d.ds (b,f) n},0)):=by unfold Hid;rw[bd.o,if_pos G.o]
  have f1:(m==n)=false:=by simp;omega
  have f2:¬(m=n):=by omega
  have f3:¬(n<m):=by omega
  have e7:=Z bY;clear bY;go_enter func42,ntmps42;go_wp2_with (go_at_call 81;(refine hS au.o ?_;rintro e t⟨rfl,y⟩;obtain⟨p1,p2,p3⟩:=M.o t y;have x:=Z y;clear y))
  go_ret;rw[a4.o];have ao:=r.below x.o;have e6:ah F w F t:=ah.of_below (ad.o.trans (x.o.mono (by have:=b7.o;omega)));refine⟨rfl,F,?_,?_⟩
  .obtain⟨e5,e0⟩:=HE.o;have b9:=ao.ds;rw[E.o]at b9;have d5:=(b9.stored (q*3+2) (J U n)).1;rw[eR dropCells 3 (λ_=>rfl) d.ds q 2 _ ((b,f),n) e5 (by omega) (by rw[e0];rfl),<- a6.o]at d5;have e4:N=(insL ltRK d.ds (b,f) n).length:=by rw[a6.o,i4,E.o]
   refine⟨v1,_,v3,xs,ao.put2 (vN:=a1 (X ⟨g,0,Y⟩) N c) (λ_ h=>h) (λk s=>by rw[hJ];exact ao.lt k s) (λk _ _ a7=>hK _ _ _ _ (λe=>a7 (by rw[e];rfl))) ?_ (e4▸d5) (λR l=>⟨ao.f2 R l,.inl l⟩) (by rw[hJ];exact hO _) (cg.o G.o)⟩;rw[hK _ _ _ _ (Ne.symm (eA ao.ds ao.blk (by decide) (g:=g) rfl))];exact ao.blk
  exact e6.trans (ah.of_only (az.setCell (az.refl g t) _ _) (ao.f2 g rfl))
 |none=>
  have a6:=Z (p7 aW h.ok.ok.ds T n);have al:Hid (dJ d (b,f) n=if 5000<=d.ds.length then 2 else 0):=by unfold Hid dJ;rw[T];show bg false _ _ _ _=_;unfold bg;simp
  rw[T]at ac;obtain⟨q,b8⟩:=Qe (placeK ltRK d.ds (b,f));rw[b8]at ac c1 a6;obtain⟨N,hN⟩:=Qe d.ds.length;rw[hN]at d3 c1 al;have E:=Z hN;obtain⟨va,vc,hv⟩:=aQ h.ds;rw[hN]at hv;subst hv
  have M:Hid (∀W,Bw w1 W->W.cell? ⟨p,1,Y⟩=X (a1 va N vc)/\W.cell? ⟨w.heap.size,0,Y⟩=X (J U b)/\W.cell? ⟨w.heap.size,1,Y⟩=X (J U f)):=λW D=>
   ⟨(aa ((D.block _ (r.o.lt p r.o.fp)).trans r.o.blk) 1).trans rfl,(aa ((D.block _ (by have:=b7.o;omega)).trans HK.o) 0).trans rfl,(aa ((D.block _ (by have:=b7.o;omega)).trans HK.o) 1).trans rfl⟩
  clear b8 hN T h;have au:Hid (i2 prog 81 #[fn (X ⟨p,0,Y⟩),.agg #[J U b,J U f]] (w.alloc (a2 #[J U b,J U f] 36)) λe w'=>e=hb (.tuple #[J U q,hk false])/\Bw w1 w'):=by unfold Hid;rw[d1.o];exact ac.o
  clear ac;unfold recK;dsimp only;by_cases h5:5000<=N
  .have G:Hid (dJ d (b,f) n=2):=by unfold Hid;rw[al.o,if_pos h5]
   have a4:Hid (dropC d (b,f) n=(d,2)):=by unfold Hid;rw[bd.o,if_neg (by rw[G.o];decide),G.o]
   have dy:(5000:Int)<=(N:Int):=by omega
   go_enter func42,ntmps42;go_wp2_with (go_at_call 81;(refine hS au.o ?_;rintro e t⟨rfl,y⟩;obtain⟨p1,p2,p3⟩:=M.o t y;have x:=Z y;clear y))
   go_ret;rw[a4.o];exact⟨rfl,F,⟨_,_,_,_,r.o.below x.o⟩,ah.of_below (ad.o.trans (x.o.mono (by have:=b7.o;omega)))⟩
  have G:Hid (dJ d (b,f) n=0):=by unfold Hid;rw[al.o,if_neg h5]
  have a4:Hid (dropC d (b,f) n=({d with ds:=insL ltRK d.ds (b,f) n},0)):=by unfold Hid;rw[bd.o,if_pos G.o]
  have dy:¬((5000:Int)<=(N:Int)):=by omega
  have es:(q:Int)<=(N:Int):=by omega
  obtain⟨i0,hi,d6,d7,d8⟩:=info_parts C7;have HI:=Z hi;have b1:=Z d6;have b2:=Z d7;have b3:=Z d8;clear hi d6 d7 d8;rcases r.ds.2 with⟨hv,d4⟩|⟨g,e8,e9,hv,_,_,d2,_⟩
  .injection hv with e1 e2 e3
   subst e1 e3;rw[E.o]at d4;subst d4;obtain rfl:q=0:=by omega
   have cp:Hid (∀W,Bw w1 W->aJ 0 w1.heap.size W (a1 Y 0 0) 0 ((d.ds.drop 0).flatMap dropCells)):=λW D=>by have:d.ds=[]:=iv E.o;rw[this];exact⟨Y,0,rfl,λh=>absurd rfl h⟩
   have cq:Hid (∀W,Bw w1 W->aJ 0 w1.heap.size W (a1 Y 0 0) 0 ((d.ds.take 0).flatMap dropCells)):=λW D=>⟨Y,0,rfl,λh=>absurd rfl h⟩;clear e2;have cm:Hid (((d.ds.take 0).flatMap dropCells).length=0*3):=by unfold Hid;rw[bS dropCells 3 (λ_=>rfl),hQ,E.o,ih (by omega)]
   have bk:Hid (((d.ds.drop 0).flatMap dropCells).length=(0)*3):=by unfold Hid;rw[bS dropCells 3 (λ_=>rfl),hR,E.o]
   have cc:Hid (([J U b,J U f,J U n]++(d.ds.drop 0).flatMap dropCells:List iN).length=(1+(0))*3):=by unfold Hid;rw[hP,bk.o];show 3+_=_;omega
   have c9:Hid ((insL ltRK d.ds (b,f) n).flatMap dropCells=([]++(d.ds.take 0).flatMap dropCells)++([J U b,J U f,J U n]++(d.ds.drop 0).flatMap dropCells)):=by unfold Hid;rw[a6.o,hW,hL];rfl
   have cb:Hid ((insL ltRK d.ds (b,f) n).length=0+(1+(0))):=by unfold Hid;rw[a6.o,hP,ia,hQ,hR,E.o];omega
   have ch:Hid (∀u∈(d.ds.take 0).flatMap dropCells,u.oneCell'=true):=iy _;have bt:Hid (∀u∈(d.ds.drop 0).flatMap dropCells,u.oneCell'=true):=iy _;have cl:Hid (∀u∈[J U b,J U f,J U n]++(d.ds.drop 0).flatMap dropCells,u.oneCell'=true):=λu hu=>by
    rcases List.mem_append.1 hu with hu|hu
    .simp only[hX,hV,or_false]at hu;rcases hu with rfl|rfl|rfl<;>rfl
    exact bt u hu
   generalize(d.ds.take 0).flatMap dropCells=TK at*;generalize(d.ds.drop 0).flatMap dropCells=DR at*;go_enter func42,ntmps42;go_upto_region 11 with(go_at_call 81;(refine hS au.o ?_;rintro e t⟨rfl,y⟩;obtain⟨p1,p2,p3⟩:=M.o t y;have x:=Z y;clear y))
   clear p1 p2 p3;have aT:Bw w1 t.drew:=x.drew;refine Wb w1 999 ?_;refine Qd [0,1,4,8,2,5,6,7] aT M ?_;refine ca (i:=9) (v:=a1 Y 0 0) rfl (by kernel_rfl) (by kernel_rfl) (by kernel_rfl) (by rfl) (λ_ _ _ h=>h) aT (i6 ⟨by rfl,?_⟩) ?_;focus (intro w' h;(first|(go_simp;done)|(go_simp;rfl)))
   (try go_simp)
   refine Dp 3 λK I=>?_;go_simp;obtain⟨H,a3⟩:=Qe ((t.alloc (a2 #[J U b,J U f,J U n] 142)).drew);have a0:Bw w1 H:=by rw[<- a3];exact(x.o.alloc x.o.size _).drew
   have bO:H.ownsRow w1.heap.size 142 3 (a1 (X ⟨t.heap.size,0,Y⟩) 1 1) 1 [J U b,J U f,J U n]:=by rw[<- a3];exact hZ (base:=w1.heap.size) (e:=142) (size:=3) t #[J U b,J U f,J U n] 1 x.o.size (by unfold maxLen;omega) rfl
   have cQ:H.heap.size=t.heap.size+1:=by rw[<- a3];show(t.alloc _).heap.size=_;simp
   rw[a3];refine I _ _ (λ_=>a0) ?_;clear I K;clear a3;obtain⟨b4,c4,z,c3,aC,bA,cx⟩:=bu (P:=prog) H w1.heap.size 31 31 142 i0 (.agg #[J U 0,J U 0,J U 0]) 3 24 underlying31 HI.o b1.o b2.o b3.o rfl (by decide) t.heap.size 1 1 [J U b,J U f,J U n] bO w1.heap.size (a1 Y 0 0) (0) DR (cp.o H a0) bk.o bt.o (by unfold maxLen;omega) (by omega) a0.size;have C:Bw w1 z:=a0.grown bA a0.size (λj A=>by injection A with A;have:=x.o.size;omega);refine Dp 10 λK I=>?_;refine dV rfl rfl rfl c3 ?_;refine I _ _ (λ_=>C) ?_;clear I K;go_simp;refine Qc [11] C ?_
   refine dN ?_;have cd:=Z aC;have dx:=Z C;have cy:b4<z.heap.size:=(aC.lt b4 rfl).2;have c8:=Z (dq (B:=w1.heap.size) (e:=142) (k:=3) (w:=z.alloc (a2 #[] 142)) (hM z _) C.size);have a5:Hid (Bw w1 (z.alloc (a2 #[] 142))):=C.alloc C.size _;have bc:Hid (w1.heap.size<=(z.alloc (a2 #[] 142)).heap.size):=a5.size;have cn:Hid (w1.heap.size<=z.heap.size):=C.size;obtain⟨s1,_,_⟩:=M z C;have s2:(z.alloc (a2 #[] 142)).cell? ⟨p,1,Y⟩=X (a1 Y 0 0):=(M _ a5.o).1;clear aC bA cx a0 aT C bO c3 cQ
   go_wp2_with (first
    |(at_builtin;(refine aF _ rfl _ _ 31 rfl w1.heap.size 142 i0 (.agg #[J U 0,J U 0,J U 0]) 3 24 underlying31 HI.o b1.o b2.o b3.o rfl (by decide) z.heap.size 0 0 [] rfl c8.o w1.heap.size (a1 Y 0 0) 0 TK rfl (cq.o _ a5.o) cm.o ch.o (by unfold maxLen;omega) (by omega) bc.o ?_;intro b5 c5 w5 aS ay _;have bv:Hid (Bw w1 w5):=a5.o.grown ay bc.o (λj A=>by injection A with A;have:=cn.o;omega);rw[ib]at aS;have bl:=Z aS;have cs:Hid (w5.ownsRow w1.heap.size 142 3 (a1 (X ⟨b4,0,Y⟩) (1+(0)) c4) (1+(0)) ([J U b,J U f,J U n]++DR)):=ai cd.o (λR l=>by have l:X b4=X R:=l;injection l with l;subst l;rw[ay.block _ (by simp;omega) (λe=>by injection e with e;omega)];exact hY _ _ _ cy);have bw:Hid (w1.heap.size<=w5.heap.size):=bv.o.size;clear aS ay))
    |(at_builtin;(refine aF _ rfl _ _ 31 rfl w1.heap.size 142 i0 (.agg #[J U 0,J U 0,J U 0]) 3 24 underlying31 HI.o b1.o b2.o b3.o rfl (by decide) b5 0 c5 ([]++TK) rfl bl.o w5.heap.size (a1 (X ⟨b4,0,Y⟩) (1+(0)) c4) (1+(0)) ([J U b,J U f,J U n]++DR) rfl ((aN cs.o).mono (hT _) (hO _)) cc.o cl.o (by unfold maxLen;omega) (by omega) bw.o ?_;intro O c6 L c0 bB _;have b0:Bw w1 L:=bv.o.grown bB bw.o (λj A=>by injection A with A;subst A;exact(bl.o.lt _ rfl).1);have bs:=Z c0;have a8:=(b0.block p (r.o.lt p r.o.fp)).trans r.o.blk;have y1:=(aa a8 1).trans rfl;have z1:=ab a8 1;have dk:=Z a8;have av:=Z b0;clear c0 bB a8 b0)))
   go_ret;rw[a4.o];refine⟨rfl,?_⟩;have ax:=r.below av.o;have cu:w.heap.size<=w1.heap.size:=ad.size;have dz:w1.heap.size<=L.heap.size:=av.size;have b9:L.ownsRow 0 142 3 (a1 (X ⟨O,0,Y⟩) (0+(1+(0))) c6) (insL ltRK d.ds (b,f) n).length ((insL ltRK d.ds (b,f) n).flatMap dropCells):=by rw[c9.o,cb.o];exact aD bs.o (hT _)
   have cz:=bs.lt O rfl;have a7:O≠p:=λe=>by have:=r.o.lt p r.o.fp;omega
   refine⟨λk=>F k∨(w.heap.size<=k/\k<L.heap.size),⟨v1,_,v3,xs,ax.put2 (w':=L.setCell ⟨p,1,Y⟩ _) (vN:=a1 (X ⟨O,0,Y⟩) (0+(1+(0))) c6) (λk s=>.inl s) (λk s=>?_) (λk _ a7 _=>hK _ _ _ _ a7) ((aq ax.blk 1 _).trans rfl) (ai b9 (λR l=>by have l:X O=X R:=l;injection l with l;subst l;exact hK _ _ _ _ a7)) (λR l=>?_) (by rw[hJ];exact hO _) (cg.o G.o)⟩,?_⟩
   .rw[hJ];rcases s with s|s
    .exact ax.lt k s
    exact s.2
   .have l:X O=X R:=l;injection l with l
    subst l;exact⟨.inr ⟨by omega,cz.2⟩,.inr (λT=>by have:=d0.o _ T;omega)⟩
   have D:Bw w L:=ad.trans (av.mono cu);exact((ah.of_below D).trans (ah.of_only (az.setCell (az.refl p L) 1 _) r.fp)).more λk s=>by
    rcases s with s|s
    .exact .inl s
    exact .inr s.1
  injection hv with e1 e2 e3
  subst e1 e3;have d2:N<=vc:=by rw[<- E.o];exact d2
  have er:(q:Int)<=(vc:Int):=by omega
  have eg:(N:Int)<=(vc:Int):=by omega
  clear e2;obtain⟨bb,cP⟩:=Qe ((if vc=q then 0 else q*3));have dc:Hid (q<N->bb=q*3):=λh=>by rw[<- cP,if_neg (by omega)]
  have cp:Hid (∀W,Bw w1 W->aJ 0 w1.heap.size W (a1 (X ⟨g,bb,Y⟩) (N-q) (vc-q)) (N-q) ((d.ds.drop q).flatMap dropCells)):=λW D=>by have hr:=(r.below D).ds;rw[E.o]at hr;exact pE (enc:=dropCells) (k:=3) (λ_=>rfl) hr (by rw[E.o]) q c1 dc.o (r.o.ds.lt g rfl).2
  have cq:Hid (∀W,Bw w1 W->aJ 0 w1.heap.size W (a1 (X ⟨g,0,Y⟩) q vc) q ((d.ds.take q).flatMap dropCells)):=λW D=>by have hr:=(r.below D).ds;rw[E.o]at hr;exact pF (enc:=dropCells) (k:=3) (λ_=>rfl) hr q c1 (r.ds.lt g rfl).2
  have dd:=Z cP;clear cP;have cm:Hid (((d.ds.take q).flatMap dropCells).length=q*3):=by unfold Hid;rw[bS dropCells 3 (λ_=>rfl),hQ,E.o,ih (by omega)]
  have bk:Hid (((d.ds.drop q).flatMap dropCells).length=(N-q)*3):=by unfold Hid;rw[bS dropCells 3 (λ_=>rfl),hR,E.o]
  have cc:Hid (([J U b,J U f,J U n]++(d.ds.drop q).flatMap dropCells:List iN).length=(1+(N-q))*3):=by unfold Hid;rw[hP,bk.o];show 3+_=_;omega
  have c9:Hid ((insL ltRK d.ds (b,f) n).flatMap dropCells=([]++(d.ds.take q).flatMap dropCells)++([J U b,J U f,J U n]++(d.ds.drop q).flatMap dropCells)):=by unfold Hid;rw[a6.o,hW,hL];rfl
  have cb:Hid ((insL ltRK d.ds (b,f) n).length=q+(1+(N-q))):=by unfold Hid;rw[a6.o,hP,ia,hQ,hR,E.o];omega
  have ch:Hid (∀u∈(d.ds.take q).flatMap dropCells,u.oneCell'=true):=iy _;have bt:Hid (∀u∈(d.ds.drop q).flatMap dropCells,u.oneCell'=true):=iy _;have cl:Hid (∀u∈[J U b,J U f,J U n]++(d.ds.drop q).flatMap dropCells,u.oneCell'=true):=λu hu=>by
   rcases List.mem_append.1 hu with hu|hu
   .simp only[hX,hV,or_false]at hu;rcases hu with rfl|rfl|rfl<;>rfl
   exact bt u hu
  generalize(d.ds.take q).flatMap dropCells=TK at*;generalize(d.ds.drop q).flatMap dropCells=DR at*;go_enter func42,ntmps42;go_upto_region 11 with(go_at_call 81;(refine hS au.o ?_;rintro e t⟨rfl,y⟩;obtain⟨p1,p2,p3⟩:=M.o t y;have x:=Z y;clear y))
  clear p1 p2 p3;have aT:Bw w1 t.drew:=x.drew;refine Wb w1 999 ?_;refine Qd [0,1,4,8,2,5,6,7] aT M ?_;refine ca (i:=9) (v:=a1 (X ⟨g,bb,Y⟩) (N-q) (vc-q)) rfl (by kernel_rfl) (by kernel_rfl) (by kernel_rfl) (by rfl) (λ_ _ _ h=>h) aT (i6 ⟨by rfl,?_⟩) ?_;focus (intro w' h;go_simp;rw[<- dd.o];(first|rfl|(split<;>simp_all)))
  (try go_simp)
  refine Dp 3 λK I=>?_;go_simp;obtain⟨H,a3⟩:=Qe ((t.alloc (a2 #[J U b,J U f,J U n] 142)).drew);have a0:Bw w1 H:=by rw[<- a3];exact(x.o.alloc x.o.size _).drew
  have bO:H.ownsRow w1.heap.size 142 3 (a1 (X ⟨t.heap.size,0,Y⟩) 1 1) 1 [J U b,J U f,J U n]:=by rw[<- a3];exact hZ (base:=w1.heap.size) (e:=142) (size:=3) t #[J U b,J U f,J U n] 1 x.o.size (by unfold maxLen;omega) rfl
  have cQ:H.heap.size=t.heap.size+1:=by rw[<- a3];show(t.alloc _).heap.size=_;simp
  rw[a3];refine I _ _ (λ_=>a0) ?_;clear I K;clear a3;obtain⟨b4,c4,z,c3,aC,bA,cx⟩:=bu (P:=prog) H w1.heap.size 31 31 142 i0 (.agg #[J U 0,J U 0,J U 0]) 3 24 underlying31 HI.o b1.o b2.o b3.o rfl (by decide) t.heap.size 1 1 [J U b,J U f,J U n] bO w1.heap.size (a1 (X ⟨g,bb,Y⟩) (N-q) (vc-q)) (N-q) DR (cp.o H a0) bk.o bt.o (by unfold maxLen;omega) (by omega) a0.size;have C:Bw w1 z:=a0.grown bA a0.size (λj A=>by injection A with A;have:=x.o.size;omega);refine Dp 10 λK I=>?_;refine dV rfl rfl rfl c3 ?_;refine I _ _ (λ_=>C) ?_;clear I K;go_simp;refine Qc [11] C ?_
  refine dN ?_;have cd:=Z aC;have dx:=Z C;have cy:b4<z.heap.size:=(aC.lt b4 rfl).2;have c8:=Z (dq (B:=w1.heap.size) (e:=142) (k:=3) (w:=z.alloc (a2 #[] 142)) (hM z _) C.size);have a5:Hid (Bw w1 (z.alloc (a2 #[] 142))):=C.alloc C.size _;have bc:Hid (w1.heap.size<=(z.alloc (a2 #[] 142)).heap.size):=a5.size;have cn:Hid (w1.heap.size<=z.heap.size):=C.size;obtain⟨s1,_,_⟩:=M z C;have s2:(z.alloc (a2 #[] 142)).cell? ⟨p,1,Y⟩=X (a1 (X ⟨g,0,Y⟩) N vc):=(M _ a5.o).1;clear aC bA cx a0 aT C bO c3 cQ
  go_wp2_with (first
   |(at_builtin;(refine aF _ rfl _ _ 31 rfl w1.heap.size 142 i0 (.agg #[J U 0,J U 0,J U 0]) 3 24 underlying31 HI.o b1.o b2.o b3.o rfl (by decide) z.heap.size 0 0 [] rfl c8.o w1.heap.size (a1 (X ⟨g,0,Y⟩) q vc) q TK rfl (cq.o _ a5.o) cm.o ch.o (by unfold maxLen;omega) (by omega) bc.o ?_;intro b5 c5 w5 aS ay _;have bv:Hid (Bw w1 w5):=a5.o.grown ay bc.o (λj A=>by injection A with A;have:=cn.o;omega);rw[ib]at aS;have bl:=Z aS;have cs:Hid (w5.ownsRow w1.heap.size 142 3 (a1 (X ⟨b4,0,Y⟩) (1+(N-q)) c4) (1+(N-q)) ([J U b,J U f,J U n]++DR)):=ai cd.o (λR l=>by have l:X b4=X R:=l;injection l with l;subst l;rw[ay.block _ (by simp;omega) (λe=>by injection e with e;omega)];exact hY _ _ _ cy);have bw:Hid (w1.heap.size<=w5.heap.size):=bv.o.size;clear aS ay))
   |(at_builtin;(refine aF _ rfl _ _ 31 rfl w1.heap.size 142 i0 (.agg #[J U 0,J U 0,J U 0]) 3 24 underlying31 HI.o b1.o b2.o b3.o rfl (by decide) b5 q c5 ([]++TK) rfl bl.o w5.heap.size (a1 (X ⟨b4,0,Y⟩) (1+(N-q)) c4) (1+(N-q)) ([J U b,J U f,J U n]++DR) rfl ((aN cs.o).mono (hT _) (hO _)) cc.o cl.o (by unfold maxLen;omega) (by omega) bw.o ?_;intro O c6 L c0 bB _;have b0:Bw w1 L:=bv.o.grown bB bw.o (λj A=>by injection A with A;subst A;exact(bl.o.lt _ rfl).1);have bs:=Z c0;have a8:=(b0.block p (r.o.lt p r.o.fp)).trans r.o.blk;have y1:=(aa a8 1).trans rfl;have z1:=ab a8 1;have dk:=Z a8;have av:=Z b0;clear c0 bB a8 b0)))
  go_ret;rw[a4.o];refine⟨rfl,?_⟩;have ax:=r.below av.o;have cu:w.heap.size<=w1.heap.size:=ad.size;have dz:w1.heap.size<=L.heap.size:=av.size;have b9:L.ownsRow 0 142 3 (a1 (X ⟨O,0,Y⟩) (q+(1+(N-q))) c6) (insL ltRK d.ds (b,f) n).length ((insL ltRK d.ds (b,f) n).flatMap dropCells):=by rw[c9.o,cb.o];exact aD bs.o (hT _)
  have cz:=bs.lt O rfl;have a7:O≠p:=λe=>by have:=r.o.lt p r.o.fp;omega
  refine⟨λk=>F k∨(w.heap.size<=k/\k<L.heap.size),⟨v1,_,v3,xs,ax.put2 (w':=L.setCell ⟨p,1,Y⟩ _) (vN:=a1 (X ⟨O,0,Y⟩) (q+(1+(N-q))) c6) (λk s=>.inl s) (λk s=>?_) (λk _ a7 _=>hK _ _ _ _ a7) ((aq ax.blk 1 _).trans rfl) (ai b9 (λR l=>by have l:X O=X R:=l;injection l with l;subst l;exact hK _ _ _ _ a7)) (λR l=>?_) (by rw[hJ];exact hO _) (cg.o G.o)⟩,?_⟩
  .rw[hJ];rcases s with s|s
   .exact ax.lt k s
   exact s.2
  .have l:X O=X R:=l;injection l with l
   subst l;exact⟨.inr ⟨by omega,cz.2⟩,.inr (λT=>by have:=d0.o _ T;omega)⟩
  have D:Bw w L:=ad.trans (av.mono cu);exact((ah.of_below D).trans (ah.of_only (az.setCell (az.refl p L) 1 _) r.fp)).more λk s=>by
   rcases s with s|s
   .exact .inl s
   exact .inr s.1
end
section
open Go.RowKit Go.Maps Go.Shelf
theorem C4:(prog.info? 64).map (λi=>(i.zero,i.size,i.bytes))=X (X (.agg #[J U 0,J U 0,J U 0,J hI 0,J hI 0,a1 Y 0 0]),6,56):=by kernel_rfl
theorem jm(l:List (RK×VX))(h:∀p∈l,p.2.2.oneCell'=true):∀u∈l.flatMap verCells,u.oneCell'=true:=by
 intro u b;obtain⟨p,c,b⟩:=List.mem_flatMap.1 b;simp only[verCells,hX,hV,or_false]at b;rcases b with rfl|rfl|rfl|rfl|rfl|rfl<;>first|rfl|exact h p c
theorem uy{lo d:Nat}{w:iP}{x:iN}{b:List af}(h:ag lo d w x b):x.oneCell'=true:=by
 obtain⟨a,c,rfl⟩:=h.shape;rfl
theorem oz{α:Type}(enc:α->List iN)(n:Nat)(hn:∀x,(enc x).length=n)(b:List α)(q:Nat)(c:q<b.length)(y:α):(b.flatMap enc).take (q*n)++enc y++(b.flatMap enc).drop (q*n+n)=(b.set q y).flatMap enc:=by
 rw[List.set_eq_take_append_cons_drop,if_pos c,hW,hL,kj enc n hn,kp enc n hn,iQ,List.append_assoc]
theorem Av{W:iP}{g N c:Nat}{b:List (RK×VX)}(h:W.ownsRow 0 64 6 (a1 (X ⟨g,0,Y⟩) N c) N (b.flatMap verCells))(i:b.length=N)(q:Nat)(e:q<N)(y:RK×VX):
 ((((((W.setCell ⟨g,q*6,Y⟩ (J U y.1.1)).setCell ⟨g,q*6+1,Y⟩ (J U y.1.2)).setCell ⟨g,q*6+2,Y⟩ (J U y.2.1.1)).setCell ⟨g,q*6+3,Y⟩ (J hI y.2.1.2.kind.toNat)).setCell ⟨g,q*6+4,Y⟩ (J hI y.2.1.2.level.toNat)).setCell ⟨g,q*6+5,Y⟩ y.2.2).ownsRow 0 64 6 (a1 (X ⟨g,0,Y⟩) N c) N ((b.set q y).flatMap verCells)/\
   az g W ((((((W.setCell ⟨g,q*6,Y⟩ (J U y.1.1)).setCell ⟨g,q*6+1,Y⟩ (J U y.1.2)).setCell ⟨g,q*6+2,Y⟩ (J U y.2.1.1)).setCell ⟨g,q*6+3,Y⟩ (J hI y.2.1.2.kind.toNat)).setCell ⟨g,q*6+4,Y⟩ (J hI y.2.1.2.level.toNat)).setCell ⟨g,q*6+5,Y⟩ y.2.2):=by
 have d:(b.flatMap verCells).length=N*6:=h.1;have f:(q+1)*6<=N*6:=iS 6 e;have:=cY (verCells y) (q*6) W _ h (by rw[d];show q*6+6<=_;omega);rw[show q*6+(verCells y).length=q*6+6 from rfl,oz verCells 6 (λ_=>rfl) b q (by omega) y]at this;exact this
theorem tN{W:iP}{p lo b:Nat}{vN d e:iN}{c:Nat->Prop}{k:RK}{n:Int}{r:aA}{x:iN}(h:ag lo b W x r.fields)(g:b<=W.heap.size)(f:∀q,lo<=q->q<b->c q/\q≠p/\vN.ownBlock≠X q/\d.ownBlock≠X q/\e.ownBlock≠X q):dT (restM c p vN d e) W (k,((n,r),x)):=
 ⟨lo,b,h,g,f⟩
theorem B6{b:List (RK×VX)}{d:ar}(h:b.map (λp=>(p.1,p.2.1))=d.vs)(k:RK)(v:Int×aA)(x:iN):(insL ltRK b k (v,x)).map (λp=>(p.1,p.2.1))=insL ltRK d.vs k v:=by
 rw[<- h];exact vz ltRK (λp:VX=>p.1) b k (v,x)
theorem Cj(F:Nat->Prop)(w0 w:iP)(p:Nat)(d:ar)(hm:cI F w0 p d)(cq:Bw w0 w)(k:RK)(n:Int)(f lv:UInt8)(b:List af)(x:iN)(hx:ag w0.heap.size w.heap.size w x b)(bB:bo b)(E:rkOk k)(hn:i64B n):
 i2 prog 46 #[fn (X ⟨p,0,Y⟩),lc k n ⟨f,lv,b⟩ x] w λe w'=>e=hb (J U (putC d k n ⟨f,lv,b⟩).2)/\∃F',cI F' w' p (putC d k n ⟨f,lv,b⟩).1/\ah F w0 F' w':=by
 obtain⟨v1,v2,v3,t,h⟩:=hm;have ac:=Z h.lt;obtain⟨A,C,rfl⟩:=hx.shape;obtain⟨l,s⟩:=k;obtain⟨w1,cc⟩:=Qe (w.alloc (a2 #[J U l,J U s,J U n,J hI f.toNat,J hI lv.toNat,a1 A b.length C] 64));have d5:Bw w w1:=by rw[<- cc];exact(it _ w).alloc (hO _) _
 have R:=hM w (a2 #[J U l,J U s,J U n,J hI f.toNat,J hI lv.toNat,a1 A b.length C] 64);rw[cc]at R;have HK:=Z R;have D:=Z ((h.below cq).below d5);have bc:Hid (Bw w0 w1):=cq.trans (d5.mono cq.size);have d0:w1.heap.size=w.heap.size+1:=by rw[<- cc];simp
 have aC:=Z d0;have bd:Hid (w0.heap.size<=w.heap.size):=cq.size;have HX:Hid (ag w0.heap.size w.heap.size w1 (a1 A b.length C) b):=hx.kept (λq _ M=>d5.block q M);have g9:=Z cc;have bl:Hid (i2 prog 85 #[.agg #[J hI f.toNat,J hI lv.toNat,a1 A b.length C]] (w.alloc (a2 #[J U l,J U s,J U n,J hI f.toNat,J hI lv.toNat,a1 A b.length C] 64)) λe w'=>e=hb (hk (decide (wrongR ⟨f,lv,b⟩=0)))/\Bw w1 w'):=by unfold Hid;rw[cc];exact yB ⟨f,lv,b⟩ _ w1 ⟨_,rfl,HX.o.mono (hT _) (by omega)⟩ bB
 have bO:Hid (∀W,Bw w1 W->(W.cell? ⟨w.heap.size,0,Y⟩=X (J U l)/\W.cell? ⟨w.heap.size,1,Y⟩=X (J U s)/\W.cell? ⟨w.heap.size,2,Y⟩=X (J U n)/\W.cell? ⟨w.heap.size,3,Y⟩=X (J hI f.toNat)/\W.cell? ⟨w.heap.size,4,Y⟩=X (J hI lv.toNat)/\W.cell? ⟨w.heap.size,5,Y⟩=X (a1 A b.length C))):=λW H=>
  ll ((H.block _ (by omega)).trans R)
 have g8:=Z bB;clear d5 d0 cc R cq hx bB;unfold lc;dsimp only;by_cases hr:wrongR ⟨f,lv,b⟩=0;rotate_left
 .have a7:Hid (putC d (l,s) n ⟨f,lv,b⟩=(d,11)):=by unfold Hid putC;rw[if_pos hr]
  rw[decide_eq_false hr]at bl;clear hr;go_enter func46,ntmps46;go_wp2_with (go_at_call 85;(refine hS bl.o ?_;rintro e w2⟨rfl,a6⟩;have a4:=Z a6;clear a6))
  go_ret;rw[a7.o];exact⟨rfl,F,⟨_,_,_,_,D.o.below a4.o⟩,ah.of_below (bc.o.trans (a4.o.mono (by have:=bd.o;have:=aC.o;omega)))⟩
 rw[decide_eq_true hr]at bl;have dx:Hid (putX d (l,s) n ⟨f,lv,b⟩=0->bi {d with vs:=insL ltRK d.vs (l,s) (n,⟨f,lv,b⟩)}):=λhx=>h.ok.put E hn hr hx;have bY:=Z (put_eq d (l,s) n ⟨f,lv,b⟩ hr);have bb:Hid (∀W,Bw w1 W->i2 prog 86 #[fn (X ⟨p,0,Y⟩),.agg #[J U l,J U s]] W λe w'=>e=hb (.tuple #[J U (placeK ltRK t (l,s)),hk (findK t (l,s)).isSome])/\Bw W w'):=λW H=>tj F W p v1 v2 v3 t d (D.below H) (l,s);have cz:=gR (lt:=ltRK) t (l,s);have f0:=h.lx;have g1:=Z h.len;have g2:=Z h.vx;have c8:findK d.vs (l,s)=(findK t (l,s)).map (·.1):=by rw[<- h.vx];exact sj t (l,s)
 have c3:=Z (B6 h.vx (l,s) (n,(⟨f,lv,b⟩:aA)) (a1 A b.length C));clear hr;cases hf:findK t (l,s)with
 |some m=>
  obtain⟨⟨O,aS,aT,a8⟩,x'⟩:=m;obtain⟨M,he⟩:=lz aW h.sx hf;have al:=Z (p6 aW h.sx hf ((n,(⟨f,lv,b⟩:aA)),a1 A b.length C));have eg:((l,s),((O,(⟨aS,aT,a8⟩:aA)),x'))∈t:=by rw[<- he];exact List.getElem_mem M
  obtain⟨gx,gi,c9,eQ,_⟩:=D.fx _ eg;dsimp only at c9;obtain⟨d7,d8,rfl⟩:=c9.shape;have f9:Hid (ag 0 w1.heap.size w1 (a1 d7 a8.length d8) a8):=c9.mono (hT _) eQ;have fz:Hid (bo a8):=by
   have g6:((l,s),(O,(⟨aS,aT,a8⟩:aA)))∈d.vs:=by rw[<- g2.o];exact List.mem_map.2 ⟨_,eg,rfl⟩
   exact(ek (h.ok.right _ g6)).2.2
  obtain⟨g,c,hv,hg,hc⟩:=cV (enc:=verCells) (λ_=>rfl) D.vs _ M;rw[he]at hc;rw[hf]at c8;have ay:Hid (putX d (l,s) n ⟨f,lv,b⟩=bg true (decide (O=n)&&decide ((⟨aS,aT,a8⟩:aA)=⟨f,lv,b⟩)) O n d.vs.length):=by unfold Hid putX;rw[c8];rfl
  rw[hf]at bb;obtain⟨q,cb⟩:=Qe (placeK ltRK t (l,s));rw[cb]at bb M hc al;have HE:Hid (∃M:q<t.length,t[q]=((l,s),((O,(⟨aS,aT,a8⟩:aA)),a1 d7 a8.length d8))):=by subst cb;exact⟨M,he⟩
  have HC:=Z hc;obtain⟨N,hN⟩:=Qe t.length;rw[hN]at hv M f0;have HN:=Z hN;subst hv;have gn:(q:Int)<(N:Int):=by omega
  have b1:Hid (∀W,Bw w1 W->W.cell? ⟨p,0,Y⟩=X (a1 (X ⟨g,0,Y⟩) N c)/\W.cell? ⟨g,q*6+2,Y⟩=X (J U O)/\W.cell? ⟨g,q*6+3,Y⟩=X (J hI aS.toNat)/\W.cell? ⟨g,q*6+4,Y⟩=X (J hI aT.toNat)/\W.cell? ⟨g,q*6+5,Y⟩=X (a1 d7 a8.length d8)):=λW H=>
   ⟨(aa ((H.block _ (D.lt p D.fp)).trans D.blk) 0).trans rfl,((an H).1 g _ hg).trans (HC 2 _ rfl),((an H).1 g _ hg).trans (HC 3 _ rfl),((an H).1 g _ hg).trans (HC 4 _ rfl),((an H).1 g _ hg).trans (HC 5 _ rfl)⟩
  have eq:Hid (∀W,Bw w1 W->i2 prog 87 #[.agg #[J hI aS.toNat,J hI aT.toNat,a1 d7 a8.length d8],.agg #[J hI f.toNat,J hI lv.toNat,a1 A b.length C]] W λe w'=>e=hb (hk (sameR ⟨aS,aT,a8⟩ ⟨f,lv,b⟩))/\Bw W w'):=λW H=>
   Ak aS aT f lv a8 b _ _ W ((f9.o.kept (λq _ M=>H.block q M)).mono (hO _) H.size) ((HX.o.kept (λq _ M=>H.block q (by have:=aC.o;omega))).mono (hT _) (by have:=H.size;have:=aC.o;omega)) fz.o
  obtain⟨sm,bB⟩:=Qe (sameR ⟨aS,aT,a8⟩ ⟨f,lv,b⟩);rw[bB]at eq;have g0:Hid (decide ((⟨aS,aT,a8⟩:aA)=⟨f,lv,b⟩)=sm):=by unfold Hid;rw[<- bB,Bool.eq_iff_iff,decide_eq_true_eq,nS]
  rw[g0.o]at ay;clear hc he cb hN hf cz h M c8 eg c9 eQ bB;have ao:=Z (λW H=>(⟨b1 W H,bO W H⟩:_/\_));go_enter func46,ntmps46
  go_upto_region 6 with(first
   |(go_at_call 85;((with_reducible refine hS bl.o ?_);rintro e w2⟨rfl,a6⟩;obtain⟨t0,t1,t2,t3,t4,t5⟩:=bO.o w2 a6;have a4:=Z a6;clear a6))
   |(go_at_call 86;((with_reducible refine hS (bb.o _ a4.o) ?_);rintro e w3⟨rfl,ax⟩;have a0:Hid (Bw w1 w3):=a4.o.trans (ax.mono a4.o.size);clear ax t0 t1 t2 t3 t4 t5)))
  have a3:Bw w1 w3.drew:=a0.drew;refine Wb w1 999 ?_;refine Qd [0,4,8,1,9,2,3,5,6,7] a3 ao ?_;refine Dp 10 λK R=>?_;go_simp;go_at_call 87;refine(eq _ a3).mono ?_;rintro e L⟨rfl,c7⟩;have T:Bw w1 L:=a3.trans (c7.mono a3.size);refine R _ _ (λ_=>T) ?_;clear R K;refine Qc [11] T ?_
  refine dN ?_;have au:=Z T;clear c7 T a3;have b9:Bw w1 L.drew:=au.drew;rcases i1 O n with cx|cx|cx;rotate_left
  .subst cx;have f1:(O==O)=true:=by simp
   have f3:O<=O:=Int.le_refl _;cases sm
   .have a5:Hid (putX d (l,s) O ⟨f,lv,b⟩=30):=by unfold Hid;rw[ay.o,decide_eq_true rfl];unfold bg;simp
    have a7:Hid (putC d (l,s) O ⟨f,lv,b⟩=(d,30)):=by unfold Hid;rw[bY.o,if_neg (by rw[a5.o];decide),a5.o]
    go_wp2_with fail;refine Wb w1 999 ?_;refine Qd [0,1,2,3,4,5,6,7,8,9,10,11,12,13] b9 ao ?_;refine dN ?_;go_wp2_with fail;have a9:Bw w1 L.drew.drew:=au.drew.drew;refine Wb w1 999 ?_;refine Qd [0,1,2,3,4,5,6,7,8,9,10] a9 ao ?_;refine dN ?_;go_wp2_with fail;go_ret;rw[a7.o];exact⟨rfl,F,⟨_,_,_,_,D.o.below au.o.drew.drew⟩,ah.of_below (bc.o.trans (au.o.drew.drew.mono (by have:=bd.o;have:=aC.o;omega)))⟩
   have a5:Hid (putX d (l,s) O ⟨f,lv,b⟩=22):=by unfold Hid;rw[ay.o,decide_eq_true rfl];rfl
   have a7:Hid (putC d (l,s) O ⟨f,lv,b⟩=(d,22)):=by unfold Hid;rw[bY.o,if_neg (by rw[a5.o];decide),a5.o]
   go_wp2_with fail;refine Wb w1 999 ?_;refine Qd [0,1,2,3,4,5,6,7,8,9,10,11,12,13] b9 ao ?_;refine dN ?_;go_wp2_with fail;go_ret;rw[a7.o];exact⟨rfl,F,⟨_,_,_,_,D.o.below au.o.drew⟩,ah.of_below (bc.o.trans (au.o.drew.mono (by have:=bd.o;have:=aC.o;omega)))⟩
  .have a5:Hid (putX d (l,s) n ⟨f,lv,b⟩=30):=by unfold Hid;rw[ay.o,decide_eq_false (show O≠n by omega)];unfold bg;simp;omega
   have a7:Hid (putC d (l,s) n ⟨f,lv,b⟩=(d,30)):=by unfold Hid;rw[bY.o,if_neg (by rw[a5.o];decide),a5.o]
   have f1:(O==n)=false:=by simp;omega
   have f2:¬(O=n):=by omega
   have f3:n<=O:=by omega
   clear cx;go_wp2_with fail;refine Wb w1 999 ?_;refine Qd [0,1,2,3,4,5,6,7,8,9,10,11] b9 ao ?_;refine tfS 12 rfl b9 ?_;(try go_simp)
   refine Qc [13] b9 ?_
   refine dN ?_;go_wp2_with fail;have a9:Bw w1 L.drew.drew:=au.drew.drew;refine Wb w1 999 ?_;refine Qd [0,1,2,3,4,5,6,7,8,9,10] a9 ao ?_;refine dN ?_;go_wp2_with fail;go_ret;rw[a7.o];exact⟨rfl,F,⟨_,_,_,_,D.o.below au.o.drew.drew⟩,ah.of_below (bc.o.trans (au.o.drew.drew.mono (by have:=bd.o;have:=aC.o;omega)))⟩
  have a5:Hid (putX d (l,s) n ⟨f,lv,b⟩=0):=by unfold Hid;rw[ay.o,decide_eq_false (show O≠n by omega)];unfold bg;simp;omega
  have a7:Hid (putC d (l,s) n ⟨f,lv,b⟩=({d with vs:=insL ltRK d.vs (l,s) (n,⟨f,lv,b⟩)},0)):=by unfold Hid;rw[bY.o,if_pos a5.o]
  have f1:(O==n)=false:=by simp;omega
  have f2:¬(O=n):=by omega
  have f3:¬(n<=O):=by omega
  clear cx;go_wp2_with fail;refine Wb w1 999 ?_;refine Qd [0,1,2,3,4,5,6,7,8,9,10,11] b9 ao ?_;refine tfS 12 rfl b9 ?_;(try go_simp)
  refine Qc [13] b9 ?_
  refine dN ?_;go_wp2_with fail;have a9:Bw w1 L.drew.drew:=au.drew.drew;refine Wb w1 999 ?_;refine Qd [0,1,2,3,4,5,6,7,8,9,10] a9 ao ?_;refine dN ?_;go_wp2_with fail;have bk:Bw w1 L.drew.drew.drew:=au.drew.drew.drew;refine Wb w1 7 ?_;refine Qb [0,4,5,1,2,3,6] bk ao ?_;obtain⟨W5,es⟩:=Qe L.drew.drew.drew;rw[es]at bk ⊢;have d2:=Z bk;have ad:=(D.below bk).vs;rw[HN.o]at ad;have ft:=Z ad;have z0:=ad.frozenAt (q*6);have z1:=ad.frozenAt (q*6+1);have z2:=ad.frozenAt (q*6+2);have z3:=ad.frozenAt (q*6+3);have z4:=ad.frozenAt (q*6+4);have z5:=ad.frozenAt (q*6+5);have y0:W5.cell? ⟨g,q*6,Y⟩=X (J U l):=((an bk).1 g _ hg).trans (HC 0 _ rfl);have y1:W5.cell? ⟨g,q*6+1,Y⟩=X (J U s):=((an bk).1 g _ hg).trans (HC 1 _ rfl);obtain⟨s0,s2,s3,s4,s5⟩:=b1 W5 bk;clear es ad bk b9 a9;refine Dl 7 ?_;obtain⟨cQ,d6⟩:=Av ft.o HN.o q (by omega) ((l,s),((n,(⟨f,lv,b⟩:aA)),a1 A b.length C));rw[<- al.o]at cQ;dsimp only at cQ d6;obtain⟨W6,d4⟩:=Qe (((((((W5.setCell ⟨g,q*6,Y⟩ (J U l)).setCell ⟨g,q*6+1,Y⟩ (J U s)).setCell ⟨g,q*6+2,Y⟩ (J U n)).setCell ⟨g,q*6+3,Y⟩ (J hI f.toNat)).setCell ⟨g,q*6+4,Y⟩ (J hI lv.toNat)).setCell ⟨g,q*6+5,Y⟩ (a1 A b.length C)));rw[d4]at cQ d6 ⊢;have fy:=Z cQ;have av:=Z d6;clear d4 cQ d6 s0 s2 s3 s4 s5 z0 z1 z2 z3 z4 z5 y0 y1;go_wp2_with fail;go_ret;rw[a7.o];refine⟨rfl,?_⟩;have d3:=D.below d2.o;have g5:N=(insL ltRK t (l,s) ((n,(⟨f,lv,b⟩:aA)),a1 A b.length C)).length:=by rw[al.o,i4,HN.o]
  have ex:=D.f1 g rfl;have g4:g≠p:=eA D.vs D.blk (by decide) rfl;have gt:W6.heap.size=W5.heap.size:=av.size;have gs:=d2.size;have f8:=bd.o;have d0:=aC.o;refine⟨λk=>F k∨(w0.heap.size<=k/\k<W6.heap.size),⟨a1 (X ⟨g,0,Y⟩) N c,v2,v3,insL ltRK t (l,s) ((n,(⟨f,lv,b⟩:aA)),a1 A b.length C),?_⟩,?_⟩
  .rw[<- c3.o];refine d3.put1 (vN:=a1 (X ⟨g,0,Y⟩) N c) (λk E=>.inl E) (λk E=>?_) (λk _ _ b7=>av.o.block k (λe=>b7 (by rw[e];rfl))) ((av.o.block p (Ne.symm g4)).trans d3.blk) (g5▸fy.o) (λg' G=>⟨.inl (d3.f1 g' G),.inl G⟩) (by omega) (by rw[c3.o];exact dx.o a5.o) (λy I=>?_)
   .rcases E with E|E
    .have:=d3.lt k E;omega
    exact E.2
   rw[al.o]at I;rcases List.mem_or_eq_of_mem_set I with I|rfl
   .exact .inl I
   refine .inr (tN (r:=⟨f,lv,b⟩) ((HX.o.kept (λq _ M=>d2.o.block q (by omega))).kept (λq h1 _=>av.o.block q (λe=>by have:=ac.o g ex;omega))) (by omega) λq h1 h2=>⟨.inr ⟨h1,by omega⟩,λe=>by have:=ac.o p D.o.fp;omega,λe=>by have:=ac.o q (D.o.f1 q e);omega,λe=>by have:=ac.o q (D.o.f2 q e);omega,λe=>by have:=ac.o q (D.o.f3 q e);omega⟩)
  have H:Bw w0 W5:=bc.o.trans (d2.o.mono (by omega));exact((ah.of_below H).trans (ah.of_only av.o ex)).more λk E=>by
   rcases E with E|E
   .exact .inl E
   exact .inr E.1
 |none=>
  have al:=Z (p7 aW h.sx hf ((n,(⟨f,lv,b⟩:aA)),a1 A b.length C));rw[hf]at c8;have ay:Hid (putX d (l,s) n ⟨f,lv,b⟩=if 5000<=d.vs.length then 2 else 0):=by unfold Hid putX;rw[c8];show bg false _ _ _ _=_;unfold bg;simp
  rw[<- g1.o]at ay;rw[hf]at bb;obtain⟨q,cb⟩:=Qe (placeK ltRK t (l,s));rw[cb]at bb cz al;obtain⟨N,hN⟩:=Qe t.length;rw[hN]at f0 cz ay;have HN:=Z hN;obtain⟨va,vc,hv⟩:=aQ h.vs;rw[hN]at hv;subst hv;have b1:Hid (∀W,Bw w1 W->W.cell? ⟨p,0,Y⟩=X (a1 va N vc)):=λW H=>(aa ((H.block _ (D.lt p D.fp)).trans D.blk) 0).trans rfl;have ao:=Z (λW H=>(⟨b1 W H,bO W H⟩:_/\_));have d1:Hid (∀q∈t,q.2.2.oneCell'=true):=λq M=>by obtain⟨_,_,c9,_⟩:=D.fx q M;exact uy c9
  clear cb hN hf h c8;by_cases h5:5000<=N
  .have a5:Hid (putX d (l,s) n ⟨f,lv,b⟩=2):=by unfold Hid;rw[ay.o,if_pos h5]
   have a7:Hid (putC d (l,s) n ⟨f,lv,b⟩=(d,2)):=by unfold Hid;rw[bY.o,if_neg (by rw[a5.o];decide),a5.o]
   have g3:(5000:Int)<=(N:Int):=by omega
   go_enter func46,ntmps46
   go_wp2_with (first
    |(go_at_call 85;((with_reducible refine hS bl.o ?_);rintro e w2⟨rfl,a6⟩;obtain⟨t0,t1,t2,t3,t4,t5⟩:=bO.o w2 a6;have a4:=Z a6;clear a6))
    |(go_at_call 86;((with_reducible refine hS (bb.o _ a4.o) ?_);rintro e w3⟨rfl,ax⟩;have a0:Hid (Bw w1 w3):=a4.o.trans (ax.mono a4.o.size);have s0:=b1.o w3 a0.o;clear ax t0 t1 t2 t3 t4 t5)))
   go_ret;rw[a7.o];exact⟨rfl,F,⟨_,_,_,_,D.o.below a0.o⟩,ah.of_below (bc.o.trans (a0.o.mono (by have:=bd.o;have:=aC.o;omega)))⟩
  have a5:Hid (putX d (l,s) n ⟨f,lv,b⟩=0):=by unfold Hid;rw[ay.o,if_neg h5]
  have a7:Hid (putC d (l,s) n ⟨f,lv,b⟩=({d with vs:=insL ltRK d.vs (l,s) (n,⟨f,lv,b⟩)},0)):=by unfold Hid;rw[bY.o,if_pos a5.o]
  have g3:¬((5000:Int)<=(N:Int)):=by omega
  have gq:(q:Int)<=(N:Int):=by omega
  obtain⟨i0,hi,f5,f6,f7⟩:=info_parts C4;have HI:=Z hi;have c0:=Z f5;have c1:=Z f6;have c2:=Z f7;clear hi f5 f6 f7;rcases D.vs.2 with⟨hv,f4⟩|⟨g,gb,gd,hv,_,_,er,_⟩
  .injection hv with e1 e2 e3
   subst e1 e3;rw[HN.o]at f4;subst f4;obtain rfl:q=0:=by omega
   have e5:Hid (∀W,Bw w1 W->aJ 0 w1.heap.size W (a1 Y 0 0) 0 ((t.drop 0).flatMap verCells)):=λW H=>by have:t=[]:=iv HN.o;rw[this];exact⟨Y,0,rfl,λh=>absurd rfl h⟩
   have e6:Hid (∀W,Bw w1 W->aJ 0 w1.heap.size W (a1 Y 0 0) 0 ((t.take 0).flatMap verCells)):=λW H=>⟨Y,0,rfl,λh=>absurd rfl h⟩;clear e2;have e0:Hid (((t.take 0).flatMap verCells).length=0*6):=by unfold Hid;rw[bS verCells 6 (λ_=>rfl),hQ,HN.o,ih (by omega)]
   have ch:Hid (((t.drop 0).flatMap verCells).length=(0)*6):=by unfold Hid;rw[bS verCells 6 (λ_=>rfl),hR,HN.o]
   have dd:Hid (([J U l,J U s,J U n,J hI f.toNat,J hI lv.toNat,a1 A b.length C]++(t.drop 0).flatMap verCells:List iN).length=(1+(0))*6):=by unfold Hid;rw[hP,ch.o];show 6+_=_;omega
   have da:Hid ((insL ltRK t (l,s) ((n,(⟨f,lv,b⟩:aA)),a1 A b.length C)).flatMap verCells=([]++(t.take 0).flatMap verCells)++([J U l,J U s,J U n,J hI f.toNat,J hI lv.toNat,a1 A b.length C]++(t.drop 0).flatMap verCells)):=by unfold Hid;rw[al.o,hW,hL];rfl
   have dc:Hid ((insL ltRK t (l,s) ((n,(⟨f,lv,b⟩:aA)),a1 A b.length C)).length=0+(1+(0))):=by unfold Hid;rw[al.o,hP,ia,hQ,hR,HN.o];omega
   have dy:Hid (∀u∈(t.take 0).flatMap verCells,u.oneCell'=true):=jm _ λq M=>d1 q (iD M);have cm:Hid (∀u∈(t.drop 0).flatMap verCells,u.oneCell'=true):=jm _ λq M=>d1 q (iF M);have dz:Hid (∀u∈[J U l,J U s,J U n,J hI f.toNat,J hI lv.toNat,a1 A b.length C]++(t.drop 0).flatMap verCells,u.oneCell'=true):=λu hu=>by
    rcases List.mem_append.1 hu with hu|hu
    .simp only[hX,hV,or_false]at hu;rcases hu with rfl|rfl|rfl|rfl|rfl|rfl<;>rfl
    exact cm u hu
   have dk:Hid (∀y∈insL ltRK t (l,s) ((n,(⟨f,lv,b⟩:aA)),a1 A b.length C),y∈t∨y=((l,s),((n,(⟨f,lv,b⟩:aA)),a1 A b.length C))):=λy I=>by
    rw[al.o]at I;rcases List.mem_append.1 I with I|I
    .exact .inl (iD I)
    rcases List.mem_cons.1 I with I|I
    .exact .inr I
    exact .inl (iF I)
   generalize(t.take 0).flatMap verCells=TK at*;generalize(t.drop 0).flatMap verCells=DR at*;go_enter func46,ntmps46
   go_upto_region 15 with(first
    |(go_at_call 85;((with_reducible refine hS bl.o ?_);rintro e w2⟨rfl,a6⟩;obtain⟨t0,t1,t2,t3,t4,t5⟩:=bO.o w2 a6;have a4:=Z a6;clear a6))
    |(go_at_call 86;((with_reducible refine hS (bb.o _ a4.o) ?_);rintro e w3⟨rfl,ax⟩;have a0:Hid (Bw w1 w3):=a4.o.trans (ax.mono a4.o.size);have s0:=b1.o w3 a0.o;clear ax t0 t1 t2 t3 t4 t5)))
   clear s0;have bA:Bw w1 w3.drew:=a0.drew;refine Wb w1 999 ?_;refine Qd [0,2,6,3,4,5] bA ao ?_;refine ca (i:=7) (v:=a1 Y 0 0) rfl (by kernel_rfl) (by kernel_rfl) (by kernel_rfl) (by rfl) (λ_ _ _ h=>h) bA (i6 ⟨by rfl,?_⟩) ?_;focus (intro w' h;(first|(go_simp;done)|(go_simp;rfl)))
   (try go_simp)
   refine Dp 1 λK R=>?_;go_simp;obtain⟨W3,b3⟩:=Qe ((w3.alloc (a2 #[J U l,J U s,J U n,J hI f.toNat,J hI lv.toNat,a1 A b.length C] 64)).drew);have a3:Bw w1 W3:=by rw[<- b3];exact(a0.o.alloc a0.o.size _).drew
   have cv:W3.ownsRow w1.heap.size 64 6 (a1 (X ⟨w3.heap.size,0,Y⟩) 1 1) 1 [J U l,J U s,J U n,J hI f.toNat,J hI lv.toNat,a1 A b.length C]:=by rw[<- b3];exact hZ (base:=w1.heap.size) (e:=64) (size:=6) w3 #[J U l,J U s,J U n,J hI f.toNat,J hI lv.toNat,a1 A b.length C] 1 a0.o.size (by unfold maxLen;omega) rfl
   rw[b3];refine R _ _ (λ_=>a3) ?_;clear R K;clear b3;obtain⟨b4,c4,L,cP,bv,cs,c7⟩:=bu (P:=prog) W3 w1.heap.size 30 30 64 i0 (.agg #[J U 0,J U 0,J U 0,J hI 0,J hI 0,a1 Y 0 0]) 6 56 underlying30 HI.o c0.o c1.o c2.o rfl (by decide) w3.heap.size 1 1 [J U l,J U s,J U n,J hI f.toNat,J hI lv.toNat,a1 A b.length C] cv w1.heap.size (a1 Y 0 0) (0) DR (e5.o W3 a3) ch.o cm.o (by unfold maxLen;omega) (by omega) a3.size;have T:Bw w1 L:=a3.grown cs a3.size (λj ej=>by injection ej with ej;have:=a0.o.size;omega);refine Dp 8 λK R=>?_;refine dV rfl rfl rfl cP ?_;refine R _ _ (λ_=>T) ?_;clear R K;go_simp;refine Qc [9] T ?_
   refine dN ?_;have ds:=Z bv;have fr:=Z T;have e8:b4<L.heap.size:=(bv.lt b4 rfl).2;have d9:=Z (dq (B:=w1.heap.size) (e:=64) (k:=6) (w:=L.alloc (a2 #[] 64)) (hM L _) T.size);have b0:Hid (Bw w1 (L.alloc (a2 #[] 64))):=T.alloc T.size _;have cg:Hid (w1.heap.size<=(L.alloc (a2 #[] 64)).heap.size):=b0.size;have e4:Hid (w1.heap.size<=L.heap.size):=T.size;have s2:(L.alloc (a2 #[] 64)).cell? ⟨p,0,Y⟩=X (a1 Y 0 0):=b1 _ b0.o;clear bv cs c7 a3 bA T cv cP
   go_wp2_with (first
    |(at_builtin;refine aF _ rfl _ _ 30 rfl w1.heap.size 64 i0 (.agg #[J U 0,J U 0,J U 0,J hI 0,J hI 0,a1 Y 0 0]) 6 56 underlying30 HI.o c0.o c1.o c2.o rfl (by decide) L.heap.size 0 0 [] rfl d9.o w1.heap.size (a1 Y 0 0) 0 TK rfl (e6.o _ b0.o) e0.o dy.o (by unfold maxLen;omega) (by omega) cg.o ?_;intro b5 c5 w5 bw bt _;have cn:Hid (Bw w1 w5):=b0.o.grown bt cg.o (λj ej=>by injection ej with ej;have:=e4.o;omega);rw[ib]at bw;have cl:=Z bw;have e7:Hid (w5.ownsRow w1.heap.size 64 6 (a1 (X ⟨b4,0,Y⟩) (1+(0)) c4) (1+(0)) ([J U l,J U s,J U n,J hI f.toNat,J hI lv.toNat,a1 A b.length C]++DR)):=ai ds.o (λg' G=>by have G:X b4=X g':=G;injection G with G;subst G;rw[bt.block _ (by simp;omega) (λe=>by injection e with e;omega)];exact hY _ _ _ e8);have cp:Hid (w1.heap.size<=w5.heap.size):=cn.o.size;clear bw bt)
    |(at_builtin;refine aF _ rfl _ _ 30 rfl w1.heap.size 64 i0 (.agg #[J U 0,J U 0,J U 0,J hI 0,J hI 0,a1 Y 0 0]) 6 56 underlying30 HI.o c0.o c1.o c2.o rfl (by decide) b5 0 c5 ([]++TK) rfl cl.o w5.heap.size (a1 (X ⟨b4,0,Y⟩) (1+(0)) c4) (1+(0)) ([J U l,J U s,J U n,J hI f.toNat,J hI lv.toNat,a1 A b.length C]++DR) rfl ((aN e7.o).mono (hT _) (hO _)) dd.o dz.o (by unfold maxLen;omega) (by omega) cp.o ?_;intro b6 c6 w6 cy cu _;have a9:Bw w1 w6:=cn.o.grown cu cp.o (λj ej=>by injection ej with ej;subst ej;exact(cl.o.lt _ rfl).1);have av:=Z cy;have b8:=(a9.block p (D.o.lt p D.o.fp)).trans D.o.blk;have y1:=(aa b8 0).trans rfl;have z1:=ab b8 0;have fl:=Z b8;have b2:=Z a9;clear cy cu b8 a9))
   go_ret;rw[a7.o];refine⟨rfl,?_⟩;have bs:=D.below b2.o;have f8:=bd.o;have d0:=aC.o;have d4:w1.heap.size<=w6.heap.size:=b2.size;have ad:w6.ownsRow 0 64 6 (a1 (X ⟨b6,0,Y⟩) (0+(1+(0))) c6) (insL ltRK t (l,s) ((n,(⟨f,lv,b⟩:aA)),a1 A b.length C)).length ((insL ltRK t (l,s) ((n,(⟨f,lv,b⟩:aA)),a1 A b.length C)).flatMap verCells):=by rw[da.o,dc.o];exact aD av.o (hT _)
   have e9:=av.lt b6 rfl;have g7:=ac p D.fp;have b7:b6≠p:=λe=>by omega
   refine⟨λk=>F k∨(w0.heap.size<=k/\k<w6.heap.size),⟨a1 (X ⟨b6,0,Y⟩) (0+(1+(0))) c6,v2,v3,insL ltRK t (l,s) ((n,(⟨f,lv,b⟩:aA)),a1 A b.length C),?_⟩,?_⟩
   .rw[<- c3.o];refine bs.put1 (w':=w6.setCell ⟨p,0,Y⟩ _) (vN:=a1 (X ⟨b6,0,Y⟩) (0+(1+(0))) c6) (λk E=>.inl E) (λk E=>?_) (λk _ b7 _=>hK _ _ _ _ b7) ((aq bs.blk 0 _).trans rfl) (ai ad (λg' G=>by have G:X b6=X g':=G;injection G with G;subst G;exact hK _ _ _ _ b7)) (λg' G=>?_) (by rw[hJ];exact hO _) (by rw[c3.o];exact dx.o a5.o) (λy I=>?_)
    .rw[hJ];rcases E with E|E
     .exact bs.lt k E
     exact E.2
    .have G:X b6=X g':=G;injection G with G
     subst G;exact⟨.inr ⟨by omega,e9.2⟩,.inr (λhf=>by have:=ac.o _ hf;omega)⟩
    rcases dk.o y I with I|rfl
    .exact .inl I
    refine .inr (tN (r:=⟨f,lv,b⟩) ((HX.o.kept (λq _ M=>b2.o.block q (by omega))).kept (λq h1 _=>hK _ _ _ _ (λ(e:q=p)=>by omega))) (by rw[hJ];omega) λq h1 h2=>⟨.inr ⟨h1,by omega⟩,λe=>by omega,λe=>by have e:X b6=X q:=e;injection e with e;omega,λe=>by have:=ac.o q (D.o.f2 q e);omega,λe=>by have:=ac.o q (D.o.f3 q e);omega⟩)
   have H:Bw w0 w6:=bc.o.trans (b2.o.mono (by omega));exact((ah.of_below H).trans (ah.of_only (az.setCell (az.refl p w6) 0 _) D.fp)).more λk E=>by
    rcases E with E|E
    .exact .inl E
    exact .inr E.1
  injection hv with e1 e2 e3
  subst e1 e3;have er:N<=vc:=by rw[<- HN.o];exact er
  have gp:(q:Int)<=(vc:Int):=by omega
  have gf:(N:Int)<=(vc:Int):=by omega
  clear e2;obtain⟨cd,em⟩:=Qe ((if vc=q then 0 else q*6));have fb:Hid (q<N->cd=q*6):=λh=>by rw[<- em,if_neg (by omega)]
  have e5:Hid (∀W,Bw w1 W->aJ 0 w1.heap.size W (a1 (X ⟨g,cd,Y⟩) (N-q) (vc-q)) (N-q) ((t.drop q).flatMap verCells)):=λW H=>by have hr:=(D.below H).vs;rw[HN.o]at hr;exact pE (enc:=verCells) (k:=6) (λ_=>rfl) hr (by rw[HN.o]) q cz fb.o (D.o.vs.lt g rfl).2
  have e6:Hid (∀W,Bw w1 W->aJ 0 w1.heap.size W (a1 (X ⟨g,0,Y⟩) q vc) q ((t.take q).flatMap verCells)):=λW H=>by have hr:=(D.below H).vs;rw[HN.o]at hr;exact pF (enc:=verCells) (k:=6) (λ_=>rfl) hr q cz (D.vs.lt g rfl).2
  have fc:=Z em;clear em;have e0:Hid (((t.take q).flatMap verCells).length=q*6):=by unfold Hid;rw[bS verCells 6 (λ_=>rfl),hQ,HN.o,ih (by omega)]
  have ch:Hid (((t.drop q).flatMap verCells).length=(N-q)*6):=by unfold Hid;rw[bS verCells 6 (λ_=>rfl),hR,HN.o]
  have dd:Hid (([J U l,J U s,J U n,J hI f.toNat,J hI lv.toNat,a1 A b.length C]++(t.drop q).flatMap verCells:List iN).length=(1+(N-q))*6):=by unfold Hid;rw[hP,ch.o];show 6+_=_;omega
  have da:Hid ((insL ltRK t (l,s) ((n,(⟨f,lv,b⟩:aA)),a1 A b.length C)).flatMap verCells=([]++(t.take q).flatMap verCells)++([J U l,J U s,J U n,J hI f.toNat,J hI lv.toNat,a1 A b.length C]++(t.drop q).flatMap verCells)):=by unfold Hid;rw[al.o,hW,hL];rfl
  have dc:Hid ((insL ltRK t (l,s) ((n,(⟨f,lv,b⟩:aA)),a1 A b.length C)).length=q+(1+(N-q))):=by unfold Hid;rw[al.o,hP,ia,hQ,hR,HN.o];omega
  have dy:Hid (∀u∈(t.take q).flatMap verCells,u.oneCell'=true):=jm _ λq M=>d1 q (iD M);have cm:Hid (∀u∈(t.drop q).flatMap verCells,u.oneCell'=true):=jm _ λq M=>d1 q (iF M);have dz:Hid (∀u∈[J U l,J U s,J U n,J hI f.toNat,J hI lv.toNat,a1 A b.length C]++(t.drop q).flatMap verCells,u.oneCell'=true):=λu hu=>by
   rcases List.mem_append.1 hu with hu|hu
   .simp only[hX,hV,or_false]at hu;rcases hu with rfl|rfl|rfl|rfl|rfl|rfl<;>rfl
   exact cm u hu
  have dk:Hid (∀y∈insL ltRK t (l,s) ((n,(⟨f,lv,b⟩:aA)),a1 A b.length C),y∈t∨y=((l,s),((n,(⟨f,lv,b⟩:aA)),a1 A b.length C))):=λy I=>by
   rw[al.o]at I;rcases List.mem_append.1 I with I|I
   .exact .inl (iD I)
   rcases List.mem_cons.1 I with I|I
   .exact .inr I
   exact .inl (iF I)
  generalize(t.take q).flatMap verCells=TK at*;generalize(t.drop q).flatMap verCells=DR at*;go_enter func46,ntmps46
  go_upto_region 15 with(first
   |(go_at_call 85;((with_reducible refine hS bl.o ?_);rintro e w2⟨rfl,a6⟩;obtain⟨t0,t1,t2,t3,t4,t5⟩:=bO.o w2 a6;have a4:=Z a6;clear a6))
   |(go_at_call 86;((with_reducible refine hS (bb.o _ a4.o) ?_);rintro e w3⟨rfl,ax⟩;have a0:Hid (Bw w1 w3):=a4.o.trans (ax.mono a4.o.size);have s0:=b1.o w3 a0.o;clear ax t0 t1 t2 t3 t4 t5)))
  clear s0;have bA:Bw w1 w3.drew:=a0.drew;refine Wb w1 999 ?_;refine Qd [0,2,6,3,4,5] bA ao ?_;refine ca (i:=7) (v:=a1 (X ⟨g,cd,Y⟩) (N-q) (vc-q)) rfl (by kernel_rfl) (by kernel_rfl) (by kernel_rfl) (by rfl) (λ_ _ _ h=>h) bA (i6 ⟨by rfl,?_⟩) ?_;focus (intro w' h;go_simp;rw[<- fc.o];(first|rfl|(split<;>simp_all)))
  (try go_simp)
  refine Dp 1 λK R=>?_;go_simp;obtain⟨W3,b3⟩:=Qe ((w3.alloc (a2 #[J U l,J U s,J U n,J hI f.toNat,J hI lv.toNat,a1 A b.length C] 64)).drew);have a3:Bw w1 W3:=by rw[<- b3];exact(a0.o.alloc a0.o.size _).drew
  have cv:W3.ownsRow w1.heap.size 64 6 (a1 (X ⟨w3.heap.size,0,Y⟩) 1 1) 1 [J U l,J U s,J U n,J hI f.toNat,J hI lv.toNat,a1 A b.length C]:=by rw[<- b3];exact hZ (base:=w1.heap.size) (e:=64) (size:=6) w3 #[J U l,J U s,J U n,J hI f.toNat,J hI lv.toNat,a1 A b.length C] 1 a0.o.size (by unfold maxLen;omega) rfl
  rw[b3];refine R _ _ (λ_=>a3) ?_;clear R K;clear b3;obtain⟨b4,c4,L,cP,bv,cs,c7⟩:=bu (P:=prog) W3 w1.heap.size 30 30 64 i0 (.agg #[J U 0,J U 0,J U 0,J hI 0,J hI 0,a1 Y 0 0]) 6 56 underlying30 HI.o c0.o c1.o c2.o rfl (by decide) w3.heap.size 1 1 [J U l,J U s,J U n,J hI f.toNat,J hI lv.toNat,a1 A b.length C] cv w1.heap.size (a1 (X ⟨g,cd,Y⟩) (N-q) (vc-q)) (N-q) DR (e5.o W3 a3) ch.o cm.o (by unfold maxLen;omega) (by omega) a3.size;have T:Bw w1 L:=a3.grown cs a3.size (λj ej=>by injection ej with ej;have:=a0.o.size;omega);refine Dp 8 λK R=>?_;refine dV rfl rfl rfl cP ?_;refine R _ _ (λ_=>T) ?_;clear R K;go_simp;refine Qc [9] T ?_
  refine dN ?_;have ds:=Z bv;have fr:=Z T;have e8:b4<L.heap.size:=(bv.lt b4 rfl).2;have d9:=Z (dq (B:=w1.heap.size) (e:=64) (k:=6) (w:=L.alloc (a2 #[] 64)) (hM L _) T.size);have b0:Hid (Bw w1 (L.alloc (a2 #[] 64))):=T.alloc T.size _;have cg:Hid (w1.heap.size<=(L.alloc (a2 #[] 64)).heap.size):=b0.size;have e4:Hid (w1.heap.size<=L.heap.size):=T.size;have s2:(L.alloc (a2 #[] 64)).cell? ⟨p,0,Y⟩=X (a1 (X ⟨g,0,Y⟩) N vc):=b1 _ b0.o;clear bv cs c7 a3 bA T cv cP
  go_wp2_with (first
   |(at_builtin;refine aF _ rfl _ _ 30 rfl w1.heap.size 64 i0 (.agg #[J U 0,J U 0,J U 0,J hI 0,J hI 0,a1 Y 0 0]) 6 56 underlying30 HI.o c0.o c1.o c2.o rfl (by decide) L.heap.size 0 0 [] rfl d9.o w1.heap.size (a1 (X ⟨g,0,Y⟩) q vc) q TK rfl (e6.o _ b0.o) e0.o dy.o (by unfold maxLen;omega) (by omega) cg.o ?_;intro b5 c5 w5 bw bt _;have cn:Hid (Bw w1 w5):=b0.o.grown bt cg.o (λj ej=>by injection ej with ej;have:=e4.o;omega);rw[ib]at bw;have cl:=Z bw;have e7:Hid (w5.ownsRow w1.heap.size 64 6 (a1 (X ⟨b4,0,Y⟩) (1+(N-q)) c4) (1+(N-q)) ([J U l,J U s,J U n,J hI f.toNat,J hI lv.toNat,a1 A b.length C]++DR)):=ai ds.o (λg' G=>by have G:X b4=X g':=G;injection G with G;subst G;rw[bt.block _ (by simp;omega) (λe=>by injection e with e;omega)];exact hY _ _ _ e8);have cp:Hid (w1.heap.size<=w5.heap.size):=cn.o.size;clear bw bt)
   |(at_builtin;refine aF _ rfl _ _ 30 rfl w1.heap.size 64 i0 (.agg #[J U 0,J U 0,J U 0,J hI 0,J hI 0,a1 Y 0 0]) 6 56 underlying30 HI.o c0.o c1.o c2.o rfl (by decide) b5 q c5 ([]++TK) rfl cl.o w5.heap.size (a1 (X ⟨b4,0,Y⟩) (1+(N-q)) c4) (1+(N-q)) ([J U l,J U s,J U n,J hI f.toNat,J hI lv.toNat,a1 A b.length C]++DR) rfl ((aN e7.o).mono (hT _) (hO _)) dd.o dz.o (by unfold maxLen;omega) (by omega) cp.o ?_;intro b6 c6 w6 cy cu _;have a9:Bw w1 w6:=cn.o.grown cu cp.o (λj ej=>by injection ej with ej;subst ej;exact(cl.o.lt _ rfl).1);have av:=Z cy;have b8:=(a9.block p (D.o.lt p D.o.fp)).trans D.o.blk;have y1:=(aa b8 0).trans rfl;have z1:=ab b8 0;have fl:=Z b8;have b2:=Z a9;clear cy cu b8 a9))
  go_ret;rw[a7.o];refine⟨rfl,?_⟩;have bs:=D.below b2.o;have f8:=bd.o;have d0:=aC.o;have d4:w1.heap.size<=w6.heap.size:=b2.size;have ad:w6.ownsRow 0 64 6 (a1 (X ⟨b6,0,Y⟩) (q+(1+(N-q))) c6) (insL ltRK t (l,s) ((n,(⟨f,lv,b⟩:aA)),a1 A b.length C)).length ((insL ltRK t (l,s) ((n,(⟨f,lv,b⟩:aA)),a1 A b.length C)).flatMap verCells):=by rw[da.o,dc.o];exact aD av.o (hT _)
  have e9:=av.lt b6 rfl;have g7:=ac p D.fp;have b7:b6≠p:=λe=>by omega
  refine⟨λk=>F k∨(w0.heap.size<=k/\k<w6.heap.size),⟨a1 (X ⟨b6,0,Y⟩) (q+(1+(N-q))) c6,v2,v3,insL ltRK t (l,s) ((n,(⟨f,lv,b⟩:aA)),a1 A b.length C),?_⟩,?_⟩
  .rw[<- c3.o];refine bs.put1 (w':=w6.setCell ⟨p,0,Y⟩ _) (vN:=a1 (X ⟨b6,0,Y⟩) (q+(1+(N-q))) c6) (λk E=>.inl E) (λk E=>?_) (λk _ b7 _=>hK _ _ _ _ b7) ((aq bs.blk 0 _).trans rfl) (ai ad (λg' G=>by have G:X b6=X g':=G;injection G with G;subst G;exact hK _ _ _ _ b7)) (λg' G=>?_) (by rw[hJ];exact hO _) (by rw[c3.o];exact dx.o a5.o) (λy I=>?_)
   .rw[hJ];rcases E with E|E
    .exact bs.lt k E
    exact E.2
   .have G:X b6=X g':=G;injection G with G
    subst G;exact⟨.inr ⟨by omega,e9.2⟩,.inr (λhf=>by have:=ac.o _ hf;omega)⟩
   rcases dk.o y I with I|rfl
   .exact .inl I
   refine .inr (tN (r:=⟨f,lv,b⟩) ((HX.o.kept (λq _ M=>b2.o.block q (by omega))).kept (λq h1 _=>hK _ _ _ _ (λ(e:q=p)=>by omega))) (by rw[hJ];omega) λq h1 h2=>⟨.inr ⟨h1,by omega⟩,λe=>by omega,λe=>by have e:X b6=X q:=e;injection e with e;omega,λe=>by have:=ac.o q (D.o.f2 q e);omega,λe=>by have:=ac.o q (D.o.f3 q e);omega⟩)
  have H:Bw w0 w6:=bc.o.trans (b2.o.mono (by omega));exact((ah.of_below H).trans (ah.of_only (az.setCell (az.refl p w6) 0 _) D.fp)).more λk E=>by
   rcases E with E|E
   .exact .inl E
   exact .inr E.1
theorem C5:(prog.info? 38).map (λi=>(i.zero,i.size,i.bytes))=X (X (.agg #[J U 0,J U 0,J U 0,J U 0,J U 0,hk false]),6,48):=by kernel_rfl
theorem jI(l:List (PK×(Int×Bool))):∀u∈l.flatMap decCells,u.oneCell'=true:=by
 intro u b;obtain⟨p,c,b⟩:=List.mem_flatMap.1 b;simp only[decCells,hX,hV,or_false]at b;rcases b with rfl|rfl|rfl|rfl|rfl|rfl<;>rfl
theorem BA{W:iP}{g N c:Nat}{b:List (PK×(Int×Bool))}(h:W.ownsRow 0 38 6 (a1 (X ⟨g,0,Y⟩) N c) N (b.flatMap decCells))(i:b.length=N)(q:Nat)(e:q<N)(y:PK×(Int×Bool)):
 ((((((W.setCell ⟨g,q*6,Y⟩ (J U y.1.1.1)).setCell ⟨g,q*6+1,Y⟩ (J U y.1.1.2)).setCell ⟨g,q*6+2,Y⟩ (J U y.1.2.1)).setCell ⟨g,q*6+3,Y⟩ (J U y.1.2.2)).setCell ⟨g,q*6+4,Y⟩ (J U y.2.1)).setCell ⟨g,q*6+5,Y⟩ (hk y.2.2)).ownsRow 0 38 6 (a1 (X ⟨g,0,Y⟩) N c) N ((b.set q y).flatMap decCells)/\
   az g W ((((((W.setCell ⟨g,q*6,Y⟩ (J U y.1.1.1)).setCell ⟨g,q*6+1,Y⟩ (J U y.1.1.2)).setCell ⟨g,q*6+2,Y⟩ (J U y.1.2.1)).setCell ⟨g,q*6+3,Y⟩ (J U y.1.2.2)).setCell ⟨g,q*6+4,Y⟩ (J U y.2.1)).setCell ⟨g,q*6+5,Y⟩ (hk y.2.2)):=by
 have d:(b.flatMap decCells).length=N*6:=h.1;have f:(q+1)*6<=N*6:=iS 6 e;have:=cY (decCells y) (q*6) W _ h (by rw[d];show q*6+6<=_;omega);rw[show q*6+(decCells y).length=q*6+6 from rfl,oz decCells 6 (λ_=>rfl) b q (by omega) y]at this;exact this
theorem yW(b c g h A f d k l B:Int)(i j:Bool)(w:iP):i2 prog 137 #[.agg #[J U b,J U c,J U g,J U h,J U A,hk i],.agg #[J U f,J U d,J U k,J U l,J U B,hk j]] w λe w'=>e=hb (hk (ltPK ((b,c),g,h) ((f,d),k,l)))/\Bw w w':=by
 have t:Hid (∀W,i2 prog 25 #[.agg #[J U b,J U c],.agg #[J U f,J U d]] W λe w'=>e=hb (hk (ltRK (b,c) (f,d)))/\Bw W w'):=λW=>iq (b,c) (f,d) W;have v:Hid (∀W,i2 prog 25 #[.agg #[J U g,J U h],.agg #[J U k,J U l]] W λe w'=>e=hb (hk (ltRK (g,h) (k,l)))/\Bw W w'):=λW=>iq (g,h) (k,l) W;have p:Hid (ltPK ((b,c),g,h) ((f,d),k,l)=if(b,c)=(f,d)then ltRK (g,h) (k,l)else ltRK (b,c) (f,d)):=rfl;generalize ltRK (b,c) (f,d)=x at*;generalize ltRK (g,h) (k,l)=y at*;generalize ltPK ((b,c),g,h) ((f,d),k,l)=z at*;have n:Hid (∀o s,Bw w ((w.alloc o).alloc s)):=λo s=>((it _ w).alloc (hO _) o).alloc (by simp) s;by_cases h1:b=f
 .subst h1;by_cases h2:c=d
  .subst h2;rw[if_pos rfl]at p;go_enter func137,ntmps137;go_wp2_with (first|(go_at_call 25;((with_reducible refine hS (v.o _) ?_);rintro e u⟨rfl,m⟩;have q:=Z m;clear m)))
   go_ret;exact⟨by rw[p.o];rfl,(n.o _ _).trans (q.o.mono (n.o _ _).size)⟩
  have r:¬((b,c)=(b,d)):=λe=>h2 (by injection e);rw[if_neg r]at p;have C:(c !=d)=true:=by simp[h2]
  go_enter func137,ntmps137;go_wp2_with (first|(go_at_call 25;((with_reducible refine hS (t.o _) ?_);rintro e u⟨rfl,m⟩;have q:=Z m;clear m)))
  go_ret;exact⟨by rw[p.o];rfl,(n.o _ _).trans (q.o.mono (n.o _ _).size)⟩
 have r:¬((b,c)=(f,d)):=λe=>h1 (by injection e);rw[if_neg r]at p;have C:(b !=f)=true:=by simp[h1]
 go_enter func137,ntmps137;go_wp2_with (first|(go_at_call 25;((with_reducible refine hS (t.o _) ?_);rintro e u⟨rfl,m⟩;have q:=Z m;clear m)))
 go_ret;exact⟨by rw[p.o];rfl,(n.o _ _).trans (q.o.mono (n.o _ _).size)⟩
theorem oD(F:Nat->Prop)(w:iP)(p:Nat)(d:ar)(h:cI F w p d)(a b:RK)(n:Int)(j:Bool)(ha:rkOk a)(y:rkOk b)(hn:i64B n):
 i2 prog 82 #[fn (X ⟨p,0,Y⟩),recK a,recK b,J U n,hk j] w λe w'=>e=hb (J U (decideC d a b n j).2)/\∃F',cI F' w' p (decideC d a b n j).1/\ah F w F' w':=by
 obtain⟨v1,v2,v3,xs,h⟩:=h;have d3:=Z h.lt;have b3:=Z h;have f2:Hid (∀o o',Bw w ((w.alloc o).alloc o')):=λo o'=>((it _ w).alloc (hO _) o).alloc (by simp) o';by_cases hab:a=b
 .subst hab;have a6:Hid (decideC d a a n j=(d,1)):=by unfold Hid decideC;rw[if_pos rfl]
  obtain⟨G,H⟩:=a;clear h;unfold recK;dsimp only;go_enter func82,ntmps82;go_wp2_with fail;go_ret;rw[a6.o];exact⟨rfl,F,⟨_,_,_,_,b3.below (f2 _ _)⟩,ah.of_below (f2 _ _)⟩
 have d4:Hid (el d (pairK a b) n j=0->bi {d with ps:=insL ltPK d.ps (pairK a b) (n,j)}):=λhx=>h.ok.decide hab ha y hn hx;have b8:=Z (kr d a b n j hab);obtain⟨G,H⟩:=a;obtain⟨I,L⟩:=b;have d5:Hid (pairK (G,H) (I,L)=if ltRK (I,L) (G,H)then((I,L),(G,H))else((G,H),(I,L))):=rfl;have fc:Hid (∀W,i2 prog 25 #[.agg #[J U I,J U L],.agg #[J U G,J U H]] W λe w'=>e=hb (hk (ltRK (I,L) (G,H)))/\Bw W w'):=λW=>iq (I,L) (G,H) W;generalize ltRK (I,L) (G,H)=lt at*;obtain⟨⟨⟨r,s⟩,p3,x⟩,hp⟩:∃P,pairK (G,H) (I,L)=P:=⟨_,rfl⟩;rw[hp]at d4 b8 d5;clear hp ha y;have fb:=q36 G H I L;rw[decide_eq_false hab]at fb;obtain⟨M,c9⟩:=Qe ((w.alloc (a2 #[J U G,J U H] 36)).alloc (a2 #[J U I,J U L] 36));have fx:Bw w M:=by rw[<- c9];exact f2.o _ _
 have g5:M.heap.size=w.heap.size+2:=by rw[<- c9];simp
 have hA:M.heap[w.heap.size]?=X (a2 #[J U G,J U H] 36 (0,0)):=by rw[<- c9,hY _ _ _ (by simp)];exact hM w _
 have hB:M.heap[w.heap.size+1]?=X (a2 #[J U I,J U L] 36 (0,0)):=by have:=hM (w.alloc (a2 #[J U G,J U H] 36)) (a2 #[J U I,J U L] 36);rw[World.size_alloc,c9]at this;exact this
 have HA:=Z hA;have b7:=Z hB;have dd:=Z fx;have bc:=Z g5;have HW:=Z c9;clear hA hB fx g5 c9 hab h;unfold recK;dsimp only;go_enter func82,ntmps82;go_upto_region 3 with fail;rw[HW.o];have c0:M.cell? ⟨w.heap.size,0,Y⟩=X (J U G):=(aa HA.o 0).trans rfl;have c1:M.cell? ⟨w.heap.size,1,Y⟩=X (J U H):=(aa HA.o 1).trans rfl;have c2:M.cell? ⟨w.heap.size+1,0,Y⟩=X (J U I):=(aa b7.o 0).trans rfl;have c3:M.cell? ⟨w.heap.size+1,1,Y⟩=X (J U L):=(aa b7.o 1).trans rfl;have gq:=Z fb;clear fb;go_upto_region 4 with fail;obtain⟨W3,a8⟩:=Qe (M.alloc (a2 #[J U G,J U H,J U I,J U L,J U n,hk j] 38));have cv:Bw M W3:=by rw[<- a8];exact(it _ M).alloc (hO _) _
 have d7:W3.heap[M.heap.size]?=X (a2 #[J U G,J U H,J U I,J U L,J U n,hk j] 38 (0,0)):=by rw[<- a8];exact hM M _
 rw[a8];have au:=Z cv;have g7:=Z d7
 have dy:Hid (∀W,Bw W3 W->(W.cell? ⟨w.heap.size,0,Y⟩=X (J U G)/\W.cell? ⟨w.heap.size,1,Y⟩=X (J U H))/\(W.cell? ⟨w.heap.size+1,0,Y⟩=X (J U I)/\W.cell? ⟨w.heap.size+1,1,Y⟩=X (J U L))/\W.heap[M.heap.size]?=X (a2 #[J U G,J U H,J U I,J U L,J U n,hk j] 38 (0,0))):=λW y=>
  have d9:Bw M W:=au.trans (y.mono au.size)
  ⟨⟨(aa ((d9.block _ (ae HA.o)).trans HA.o) 0).trans rfl,(aa ((d9.block _ (ae HA.o)).trans HA.o) 1).trans rfl⟩,⟨(aa ((d9.block _ (ae b7.o)).trans b7.o) 0).trans rfl,(aa ((d9.block _ (ae b7.o)).trans b7.o) 1).trans rfl⟩,(y.block _ (ae d7)).trans d7⟩
 clear cv d7 a8 c0 c1 c2 c3;obtain⟨⟨c0,c1⟩,⟨c2,c3⟩,_⟩:=dy W3 (it _ _);go_upto_if 24 with(go_at_call 25;(refine hS (fc.o _) ?_;rintro e T⟨rfl,c7⟩;have ds:=Z c7;clear c7))
 clear c0 c1 c2 c3;go_cut [] (λwx=>Hid (Bw w wx/\wx.heap[M.heap.size]?=X (a2 #[J U r,J U s,J U p3,J U x,J U n,hk j] 38 (0,0))))
 case first=>
  have d8:Bw w T:=dd.trans ((au.trans (ds.mono au.size)).mono dd.size);obtain⟨⟨c0,c1⟩,⟨c2,c3⟩,c4⟩:=dy T ds.o;cases lt
  .have HP:=d5.o;simp only[Bool.false_eq_true,if_false,Prod.mk.injEq]at HP;obtain⟨⟨rfl,rfl⟩,rfl,rfl⟩:=HP;have dx:=Z c4;have dk:=Z d8;clear c4 d8;go_wp2_with fail;go_meet;exact⟨dk.o,dx.o⟩
  have HP:=d5.o;simp only[if_true,Prod.mk.injEq]at HP;obtain⟨⟨rfl,rfl⟩,rfl,rfl⟩:=HP;have z0:=ab c4 0;have z1:=ab c4 1;have z2:=ab c4 2;have z3:=ab c4 3;have y0:=(aa c4 0).trans rfl;have y1:=(aa c4 1).trans rfl;have y2:=(aa c4 2).trans rfl;have y3:=(aa c4 3).trans rfl;have dx:=Z c4;have dk:=Z d8;have ho:¬(M.heap.size=w.heap.size):=by have:=bc.o;omega
  have hs:¬(M.heap.size=w.heap.size+1):=by have:=bc.o;omega
  have ht:¬(w.heap.size=M.heap.size):=by have:=bc.o;omega
  have hw:¬(w.heap.size+1=M.heap.size):=by have:=bc.o;omega
  clear c4 d8;go_wp2_with fail;go_meet;refine⟨?_,(aq (aq (aq (aq dx.o 0 _) 1 _) 2 _) 3 _).trans rfl⟩;have hz:=bc.o;exact(((dk.o.setCell (p:=⟨M.heap.size,0,Y⟩) (by simp;omega) _).setCell (p:=⟨M.heap.size,1,Y⟩) (by simp;omega) _).setCell (p:=⟨M.heap.size,2,Y⟩) (by simp;omega) _).setCell (p:=⟨M.heap.size,3,Y⟩) (by simp;omega) _
 obtain⟨f7,hD⟩:=hcut;clear au g7 dy b7 HA gq HW fc d5 ds;have C:=Z (b3.below f7);have aT:=Z f7;have HD:=Z hD;generalize hDD:M.heap.size=D at*;have h4:Hid (w.heap.size<=D):=by have:=bc.o;unfold Hid;omega
 clear hDD dd bc f7 hD;generalize wc=W5 at*;have h6:=Z (eS dG b3.ok.ok.ps ((r,s),p3,x));have gf:Hid (∀i(h2:i<d.ps.length),i<placeK ltPK d.ps ((r,s),p3,x)->ltPK d.ps[i].1 ((r,s),p3,x)=true):=λi h2 hi=>mh d.ps _ i hi h2;have gd:Hid (∀h:placeK ltPK d.ps ((r,s),p3,x)<d.ps.length,ltPK d.ps[placeK ltPK d.ps ((r,s),p3,x)].1 ((r,s),p3,x)=false):=λh=>mi d.ps _ h;have dc:=gR (lt:=ltPK) d.ps ((r,s),p3,x);have gO:=b3.ok.plen;obtain⟨va,vc,hv⟩:=aQ C.ps;subst hv;obtain⟨q,hq⟩:=Qe (placeK ltPK d.ps ((r,s),p3,x));rw[hq]at dc;have HQ:=Z hq;obtain⟨N,hN⟩:=Qe d.ps.length;rw[hN]at gO dc;have R:=Z hN;have cu:Hid (W5.ownsRow 0 38 6 (a1 va N vc) N (d.ps.flatMap decCells)):=by have:=C.o.ps;rw[hN]at this;exact this
 have av:Hid (∀W,Bw W5 W->W.cell? ⟨p,2,Y⟩=X (a1 va N vc)/\W.cell? ⟨D,0,Y⟩=X (J U r)/\W.cell? ⟨D,1,Y⟩=X (J U s)/\W.cell? ⟨D,2,Y⟩=X (J U p3)/\W.cell? ⟨D,3,Y⟩=X (J U x)/\W.cell? ⟨D,4,Y⟩=X (J U n)/\W.cell? ⟨D,5,Y⟩=X (hk j)):=λW y=>
  ⟨by have:=(aa ((y.block _ (C.o.lt p C.o.fp)).trans C.o.blk) 2).trans rfl;rw[hN]at this;exact this,ll ((y.block _ (ae HD.o)).trans HD.o)⟩
 clear hq hN;go_upto_block 0 with fail;go_cut [12] (λt wx=>t=J U q/\Hid (Bw W5 wx))
 case first=>
  go_wp2_with fail;go_loopw [12] (λt wr=>∃i:Nat,t=J U i/\i<=q/\Hid (Bw W5 wr)) (λt _=>N-(intOf t).toNat)
  exact⟨0,rfl,hT _,it _ _⟩;obtain⟨i,rfl,hi,HB⟩:=hrel;have a3:Bw W5 wr.drew:=HB.drew;have h3:=HB.size;by_cases hlt:i<N;rotate_left
  .obtain rfl:i=N:=by omega
   obtain rfl:q=i:=by omega
   go_wp2_with fail;refine Wb W5 999 ?_;refine Qd [0,1,2,3,4] a3 av ?_;refine Ds 5 a3 ?_;refine Qc [6,7] a3 ?_;refine tfS 8 rfl a3 ?_;(try go_simp)
   refine tfS 9 rfl a3 ?_;(try go_simp)
   refine tfS 10 rfl a3 ?_;(try go_simp)
   refine tfS 11 rfl a3 ?_;(try go_simp)
   refine tfS 12 rfl a3 ?_;(try go_simp)
   refine tfS 13 rfl a3 ?_;(try go_simp)
   refine tfS 14 rfl a3 ?_;(try go_simp)
   refine tfS 15 rfl a3 ?_;(try go_simp)
   refine tfS 16 rfl a3 ?_;(try go_simp)
   refine Qc [17] a3 ?_
   refine dN ?_;have au:=Z a3;clear a3;go_wp2_with fail;go_meet;exact⟨rfl,au⟩
  have c8:i<d.ps.length:=by rw[R.o];exact hlt
  have ac:=cu.o;rw[<- R.o]at ac;obtain⟨g,c,he,O,hc⟩:=cV (enc:=decCells) (λ_=>rfl) ac i c8;injection he with he1 he2 he3
  subst he1 he3;obtain⟨e,bl⟩:=Qe (d.ps[i]);rw[bl]at hc;have HI:Hid (i<q->ltPK e.1 ((r,s),p3,x)=true):=λhh=>by rw[<- bl];exact gf.o i c8 (by rw[HQ.o];exact hh)
  have ao:Hid (i=q->ltPK e.1 ((r,s),p3,x)=false):=λhh=>by subst hh;have h1:=gd.o (by rw[HQ.o];exact c8);simp only[HQ.o]at h1;rw[<- bl];exact h1
  obtain⟨⟨⟨e1,e2⟩,e3,e4⟩,e5,e6⟩:=e;have a0:=Z hc
  have HC:Hid (∀W,Bw W5 W->(W.cell? ⟨p,2,Y⟩=X (a1 (X ⟨g,0,Y⟩) N vc)/\W.cell? ⟨D,0,Y⟩=X (J U r)/\W.cell? ⟨D,1,Y⟩=X (J U s)/\W.cell? ⟨D,2,Y⟩=X (J U p3)/\W.cell? ⟨D,3,Y⟩=X (J U x)/\W.cell? ⟨D,4,Y⟩=X (J U n)/\W.cell? ⟨D,5,Y⟩=X (hk j))/\W.cell? ⟨g,i*6,Y⟩=X (J U e1)/\W.cell? ⟨g,i*6+1,Y⟩=X (J U e2)/\W.cell? ⟨g,i*6+2,Y⟩=X (J U e3)/\W.cell? ⟨g,i*6+3,Y⟩=X (J U e4)/\W.cell? ⟨g,i*6+4,Y⟩=X (J U e5)/\W.cell? ⟨g,i*6+5,Y⟩=X (hk e6)):=λW y=>
   ⟨av W y,((an y).1 g _ O).trans (a0 0 _ rfl),((an y).1 g _ O).trans (a0 1 _ rfl),((an y).1 g _ O).trans (a0 2 _ rfl),((an y).1 g _ O).trans (a0 3 _ rfl),((an y).1 g _ O).trans (a0 4 _ rfl),((an y).1 g _ O).trans (a0 5 _ rfl)⟩
  have HL:Hid (∀W,i2 prog 137 #[.agg #[J U e1,J U e2,J U e3,J U e4,J U e5,hk e6],.agg #[J U r,J U s,J U p3,J U x,J U n,hk j]] W λe w'=>e=hb (hk (ltPK ((e1,e2),e3,e4) ((r,s),p3,x)))/\Bw W w'):=λW=>yW e1 e2 e3 e4 e5 r s p3 x n e6 j W;have gy:(i:Int)<(N:Int):=by omega
  dsimp only at HI ao;generalize hltv:ltPK ((e1,e2),e3,e4) ((r,s),p3,x)=bb at*;clear hc hltv bl;go_wp2_with fail;refine Wb W5 999 ?_;refine Qd [0,1,2,3,4] a3 HC ?_;refine Ds 5 a3 ?_;refine Qd [6,7,8,9,10,11,12,13,14,15] a3 HC ?_;refine Dq 16 λK A=>?_;go_simp;go_at_call 137;refine(HL _).mono ?_;rintro e w3⟨rfl,cv⟩;have a5:Bw W5 w3:=a3.trans (cv.mono h3);refine A _ _ (λ_=>a5) ?_;clear A K;refine Qc [17] a5 ?_
  refine dN ?_;have au:=Z a5;clear a5 a3 cv;cases bb
  .have fz:i=q:=by
    rcases i8 i q with h|h
    .have:=HI h;cases this
    omega
   subst fz;clear HI ao;go_wp2_with fail;go_meet;exact⟨rfl,au⟩
  have fz:i<q:=by
   rcases i8 i q with h|h
   .exact h
   have:=ao.o (by omega);cases this
  clear HI ao;go_wp2_with fail;go_roundw
  case rel=>exact⟨i+1,by go_num,by omega,au⟩
  simp[intOf];omega
 obtain⟨rfl,d2⟩:=hcut;generalize wc=W6 at*;have hH:=d2.size;have dz:Hid (∀m,findK d.ps ((r,s),p3,x)=X m->el d ((r,s),p3,x) n j=bg true (decide (m.1=n)&&decide (m.2=j)) m.1 n d.ps.length):=λm hm=>by unfold el;rw[hm];rfl
 cases hf:findK d.ps ((r,s),p3,x)with
 |some m=>
  obtain⟨n',j'⟩:=m;obtain⟨f9,he⟩:=lz dG b3.ok.ok.ps hf;have ay:=Z (p6 dG b3.ok.ok.ps hf (n,j));have b0:=Z (dz _ hf);have ac:=cu.o;rw[<- R.o]at ac;obtain⟨g,c,hv,O,hc⟩:=cV (enc:=decCells) (λ_=>rfl) ac _ f9;injection hv with hv1 hv2 hv3
  subst hv1 hv3;rw[he]at hc;simp only[HQ.o]at hc he ay;have hC:q<N:=by rw[HQ.o,R.o]at f9;exact f9
  have a0:=Z hc;have hy:(q:Int)<(N:Int):=by omega
  have HC:Hid (∀W,Bw W5 W->(W.cell? ⟨p,2,Y⟩=X (a1 (X ⟨g,0,Y⟩) N vc)/\W.cell? ⟨D,0,Y⟩=X (J U r)/\W.cell? ⟨D,1,Y⟩=X (J U s)/\W.cell? ⟨D,2,Y⟩=X (J U p3)/\W.cell? ⟨D,3,Y⟩=X (J U x)/\W.cell? ⟨D,4,Y⟩=X (J U n)/\W.cell? ⟨D,5,Y⟩=X (hk j))/\W.cell? ⟨g,q*6,Y⟩=X (J U r)/\W.cell? ⟨g,q*6+1,Y⟩=X (J U s)/\W.cell? ⟨g,q*6+2,Y⟩=X (J U p3)/\W.cell? ⟨g,q*6+3,Y⟩=X (J U x)/\W.cell? ⟨g,q*6+4,Y⟩=X (J U n')/\W.cell? ⟨g,q*6+5,Y⟩=X (hk j')):=λW y=>
   ⟨av W y,((an y).1 g _ O).trans (a0 0 _ rfl),((an y).1 g _ O).trans (a0 1 _ rfl),((an y).1 g _ O).trans (a0 2 _ rfl),((an y).1 g _ O).trans (a0 3 _ rfl),((an y).1 g _ O).trans (a0 4 _ rfl),((an y).1 g _ O).trans (a0 5 _ rfl)⟩
  clear hc he hf ac dz;go_upto_region 10 with fail;have l:Bw W5 W6.drew:=d2.drew;refine Wb W5 999 ?_;refine Qd [0,1,2,3,4] l HC ?_;refine Ds 5 l ?_;refine Qd [6,7,8,9,10,11,12,13,14,15,16,17,18,19,20,21,22,23,24,25,26,27,28,29,30,31,32] l HC ?_;refine dN ?_;go_upto_region 11 with fail;have al:Bw W5 W6.drew.drew:=d2.drew.drew;refine Wb W5 999 ?_;refine Qd [0,1,2,3,4,5,6,7] al HC ?_;obtain⟨bd,fy⟩:=Qe ((decide (n'=n)&&decide (j'=j)));have cg:=Z fy;clear fy;refine ca (i:=8) (v:=hk bd) rfl (by kernel_rfl) (by kernel_rfl) (by kernel_rfl) (by rfl) (λ_ _ _ h=>h) al (i6 ⟨by rfl,?_⟩) ?_;focus (intro w' h;rw[<- cg.o];by_cases g1:n'=n<;>cases j'<;>cases j<;>simp[g1]<;>go_simp<;>rfl)
  (try go_simp)
  refine Qc [9] al ?_
  refine dN ?_;obtain⟨W7,fr⟩:=Qe W6.drew.drew;rw[fr]at al ⊢;have d6:=Z al;clear fr al l;obtain⟨⟨h0,t0,t1,t2,t3,t4,t5⟩,s0,s1,s2,s3,s4,s5⟩:=HC W7 d6.o;have eq:Hid (∀e,decideC d (G,H) (I,L) n j=(d,e)->(Ending.returned (J U e)=Ending.returned (J U (decideC d (G,H) (I,L) n j).2)/\∃F',cI F' W7 p (decideC d (G,H) (I,L) n j).1/\ah F w F' W7)):=λe he=>by rw[he];exact⟨rfl,F,⟨_,_,_,_,C.below d6.o⟩,ah.of_below (aT.trans (d6.mono aT.size))⟩
  rcases i1 n' n with cP|cP|cP;rotate_left
  .subst cP;by_cases hj:j'=j
   .subst hj;have a4:Hid (el d ((r,s),p3,x) n' j'=22):=by unfold Hid;rw[b0.o];dsimp only;rw[decide_eq_true rfl,decide_eq_true rfl];rfl
    obtain rfl:bd=true:=by rw[<- cg.o,decide_eq_true rfl,decide_eq_true rfl];rfl
    have a6:Hid (decideC d (G,H) (I,L) n' j'=(d,22)):=by unfold Hid;rw[b8.o,if_neg (by rw[a4.o];decide),a4.o]
    go_wp2_with fail;go_ret;exact⟨by rw[a6.o];rfl,(eq.o 22 a6.o).2⟩
   have a4:Hid (el d ((r,s),p3,x) n' j=30):=by unfold Hid;rw[b0.o];dsimp only;rw[decide_eq_true rfl,decide_eq_false hj];unfold bg;simp
   have a6:Hid (decideC d (G,H) (I,L) n' j=(d,30)):=by unfold Hid;rw[b8.o,if_neg (by rw[a4.o];decide),a4.o]
   obtain rfl:bd=false:=by rw[<- cg.o,decide_eq_false hj,Bool.and_false]
   have f3:n'<=n':=Int.le_refl _;clear hj;go_wp2_with fail;go_ret;exact⟨by rw[a6.o];rfl,(eq.o 30 a6.o).2⟩
  .have a4:Hid (el d ((r,s),p3,x) n j=30):=by unfold Hid;rw[b0.o];dsimp only;rw[decide_eq_false (show n'≠n by omega)];unfold bg;simp;omega
   have a6:Hid (decideC d (G,H) (I,L) n j=(d,30)):=by unfold Hid;rw[b8.o,if_neg (by rw[a4.o];decide),a4.o]
   obtain rfl:bd=false:=by rw[<- cg.o,decide_eq_false (show n'≠n by omega)];rfl
   have f3:n<=n':=by omega
   clear cP;go_wp2_with fail;go_ret;exact⟨by rw[a6.o];rfl,(eq.o 30 a6.o).2⟩
  have a4:Hid (el d ((r,s),p3,x) n j=0):=by unfold Hid;rw[b0.o];dsimp only;rw[decide_eq_false (show n'≠n by omega)];unfold bg;simp;omega
  obtain rfl:bd=false:=by rw[<- cg.o,decide_eq_false (show n'≠n by omega)];rfl
  have f3:¬(n<=n'):=by omega
  clear cP;have a6:Hid (decideC d (G,H) (I,L) n j=({d with ps:=insL ltPK d.ps ((r,s),p3,x) (n,j)},0)):=by unfold Hid;rw[b8.o,if_pos a4.o]
  go_upto_region 15 with fail;have al:Bw W5 W7.drew:=d6.drew;clear h0 t0 t1 t2 t3 t4 t5 s0 s1 s2 s3 s4 s5;refine Wb W5 7 ?_;refine Qb [0,4,5,1,2,3,6] al HC ?_;obtain⟨W8,fs⟩:=Qe W7.drew;rw[fs]at al ⊢;have cs:=Z al;have aS:=(C.below al).ps;rw[R.o]at aS;have gn:=Z aS;have z0:=aS.frozenAt (q*6);have z1:=aS.frozenAt (q*6+1);have z2:=aS.frozenAt (q*6+2);have z3:=aS.frozenAt (q*6+3);have z4:=aS.frozenAt (q*6+4);have z5:=aS.frozenAt (q*6+5);obtain⟨_,s0,s1,s2,s3,s4,s5⟩:=HC W8 al;clear fs aS al;refine Dl 7 ?_;obtain⟨d1,da⟩:=BA gn.o R.o q (by omega) (((r,s),p3,x),(n,j));rw[<- ay.o]at d1;dsimp only at d1 da;obtain⟨W9,ft⟩:=Qe (((((((W8.setCell ⟨g,q*6,Y⟩ (J U r)).setCell ⟨g,q*6+1,Y⟩ (J U s)).setCell ⟨g,q*6+2,Y⟩ (J U p3)).setCell ⟨g,q*6+3,Y⟩ (J U x)).setCell ⟨g,q*6+4,Y⟩ (J U n)).setCell ⟨g,q*6+5,Y⟩ (hk j)));rw[ft]at d1 da ⊢;have gp:=Z d1;have cm:=Z da;clear ft d1 da s0 s1 s2 s3 s4 s5 z0 z1 z2 z3 z4 z5;go_wp2_with fail;go_ret;rw[a6.o];refine⟨rfl,F,⟨v1,v2,_,xs,(C.o.below cs.o).put3 (vN:=a1 (X ⟨g,0,Y⟩) N vc) (λ_ h=>h) (λk E=>by rw[cm.o.size];exact(C.o.below cs.o).lt k E) (λk _ _ a9=>cm.o.block k (λe=>a9 (by rw[e,R.o];rfl))) ?_ ?_ (λg' z=>⟨(C.o.below cs.o).f3 g' z,.inl z⟩) (by rw[cm.o.size];exact hO _) (d4.o a4.o)⟩,?_⟩
  .exact(cm.o.block p (Ne.symm (eA C.o.ps C.o.blk (by decide) (g:=g) rfl))).trans (by have:=(C.o.below cs.o).blk;rw[R.o]at this;exact this)
  .have gz:N=(insL ltPK d.ps ((r,s),p3,x) (n,j)).length:=by rw[ay.o,i4,R.o]
   exact gz▸gp.o
  exact(ah.of_below (aT.trans (cs.mono aT.size))).trans (ah.of_only cm.o (C.f3 g rfl))
 |none=>
  have ay:=Z (p7 dG b3.ok.ok.ps hf (n,j));have fl:=Z (si dG b3.ok.ok.ps hf);have b0:Hid (el d ((r,s),p3,x) n j=if 5000<=d.ps.length then 2 else 0):=by unfold Hid el;rw[hf];show bg false _ _ _ _=_;unfold bg;simp
  simp only[HQ.o]at ay fl;rw[R.o]at b0;clear hf dz;go_upto_region 10 with fail;go_cut [81] (λt wx=>t=hk false/\Hid (Bw W5 wx))
  case first=>
   have l:Bw W5 W6.drew:=d2.drew;by_cases hlt:q<N;rotate_left
   .obtain rfl:q=N:=by omega
    refine Wb W5 999 ?_;refine Qd [0,1,2,3,4] l av ?_;refine Ds 5 l ?_;refine Qc [6,7] l ?_;refine tfS 8 rfl l ?_;(try go_simp)
    refine tfS 9 rfl l ?_;(try go_simp)
    refine tfS 10 rfl l ?_;(try go_simp)
    refine tfS 11 rfl l ?_;(try go_simp)
    refine tfS 12 rfl l ?_;(try go_simp)
    refine tfS 13 rfl l ?_;(try go_simp)
    refine tfS 14 rfl l ?_;(try go_simp)
    refine tfS 15 rfl l ?_;(try go_simp)
    refine tfS 16 rfl l ?_;(try go_simp)
    refine tfS 17 rfl l ?_;(try go_simp)
    refine tfS 18 rfl l ?_;(try go_simp)
    refine Qc [19,20] l ?_;refine tfS 21 rfl l ?_;(try go_simp)
    refine tfS 22 rfl l ?_;(try go_simp)
    refine tfS 23 rfl l ?_;(try go_simp)
    refine tfS 24 rfl l ?_;(try go_simp)
    refine tfS 25 rfl l ?_;(try go_simp)
    refine tfS 26 rfl l ?_;(try go_simp)
    refine tfS 27 rfl l ?_;(try go_simp)
    refine tfS 28 rfl l ?_;(try go_simp)
    refine tfS 29 rfl l ?_;(try go_simp)
    refine tfS 30 rfl l ?_;(try go_simp)
    refine tfS 31 rfl l ?_;(try go_simp)
    refine Qc [32] l ?_
    refine dN ?_;go_wp2_with fail;go_meet;exact⟨rfl,l⟩
   have c8:q<d.ps.length:=by rw[R.o];exact hlt
   have ac:=cu.o;rw[<- R.o]at ac;obtain⟨g,c,he,O,hc⟩:=cV (enc:=decCells) (λ_=>rfl) ac q c8;injection he with he1 he2 he3
   subst he1 he3;have a9:=fl.o;rw[i7 c8]at a9;obtain⟨e,bl⟩:=Qe (d.ps[q]);rw[bl]at hc a9;obtain⟨⟨⟨e1,e2⟩,e3,e4⟩,e5,e6⟩:=e;have a0:=Z hc
   have HC:Hid (∀W,Bw W5 W->(W.cell? ⟨p,2,Y⟩=X (a1 (X ⟨g,0,Y⟩) N vc)/\W.cell? ⟨D,0,Y⟩=X (J U r)/\W.cell? ⟨D,1,Y⟩=X (J U s)/\W.cell? ⟨D,2,Y⟩=X (J U p3)/\W.cell? ⟨D,3,Y⟩=X (J U x)/\W.cell? ⟨D,4,Y⟩=X (J U n)/\W.cell? ⟨D,5,Y⟩=X (hk j))/\W.cell? ⟨g,q*6,Y⟩=X (J U e1)/\W.cell? ⟨g,q*6+1,Y⟩=X (J U e2)/\W.cell? ⟨g,q*6+2,Y⟩=X (J U e3)/\W.cell? ⟨g,q*6+3,Y⟩=X (J U e4)/\W.cell? ⟨g,q*6+4,Y⟩=X (J U e5)/\W.cell? ⟨g,q*6+5,Y⟩=X (hk e6)):=λW y=>
    ⟨av W y,((an y).1 g _ O).trans (a0 0 _ rfl),((an y).1 g _ O).trans (a0 1 _ rfl),((an y).1 g _ O).trans (a0 2 _ rfl),((an y).1 g _ O).trans (a0 3 _ rfl),((an y).1 g _ O).trans (a0 4 _ rfl),((an y).1 g _ O).trans (a0 5 _ rfl)⟩
   have gy:(q:Int)<(N:Int):=by omega
   obtain⟨bA,hA⟩:=Qe ((decide (e1=r)&&decide (e2=s)));obtain⟨bB,hB⟩:=Qe ((decide (e3=p3)&&decide (e4=x)));have g6:Hid (bA=true->bB=false):=λh=>by
    rw[<- hA,Bool.and_eq_true,decide_eq_true_eq,decide_eq_true_eq]at h;obtain⟨rfl,rfl⟩:=h;rw[<- hB,Bool.and_eq_false_iff,decide_eq_false_iff_not,decide_eq_false_iff_not];rcases Classical.em (e3=p3)with g1|g1
    .exact .inr λg2=>a9 (by rw[g1,g2];rfl)
    exact .inl g1
   have HA:=Z hA;have HB:=Z hB;clear hc bl hA hB a9 ac;refine Wb W5 999 ?_;refine Qd [0,1,2,3,4] l HC ?_;refine Ds 5 l ?_;refine Qd [6,7,8,9,10,11,12,13,14,15,16,17] l HC ?_;refine ca (i:=18) (v:=hk bA) rfl (by kernel_rfl) (by kernel_rfl) (by kernel_rfl) (by rfl) (λ_ _ _ h=>h) l (i6 ⟨by rfl,?_⟩) ?_;focus (intro w' h;rw[<- HA.o];by_cases g1:e1=r<;>by_cases g2:e2=s<;>simp[g1,g2]<;>go_simp<;>rfl)
   (try go_simp)
   refine Qc [19,20] l ?_;cases bA;rotate_left
   .obtain rfl:=g6 rfl;refine Qd [21,22,23,24,25,26,27,28,29,30] l HC ?_;refine ca (i:=31) (v:=hk false) rfl (by kernel_rfl) (by kernel_rfl) (by kernel_rfl) (by rfl) (λ_ _ _ h=>h) l (i6 ⟨by rfl,?_⟩) ?_;focus (intro w' h;rw[<- HB.o];by_cases g1:e3=p3<;>by_cases g2:e4=x<;>simp[g1,g2]<;>go_simp<;>rfl)
    (try go_simp)
    refine Qc [32] l ?_
    refine dN ?_;go_wp2_with fail;go_meet;exact⟨rfl,l⟩
   skip;refine tfS 21 rfl l ?_;(try go_simp)
   refine tfS 22 rfl l ?_;(try go_simp)
   refine tfS 23 rfl l ?_;(try go_simp)
   refine tfS 24 rfl l ?_;(try go_simp)
   refine tfS 25 rfl l ?_;(try go_simp)
   refine tfS 26 rfl l ?_;(try go_simp)
   refine tfS 27 rfl l ?_;(try go_simp)
   refine tfS 28 rfl l ?_;(try go_simp)
   refine tfS 29 rfl l ?_;(try go_simp)
   refine tfS 30 rfl l ?_;(try go_simp)
   refine tfS 31 rfl l ?_;(try go_simp)
   refine Qc [32] l ?_
   refine dN ?_;go_wp2_with fail;go_meet;exact⟨rfl,l⟩
  obtain⟨rfl,ad⟩:=hcut;generalize wc=W7 at*;have HZ:Hid (w.heap.size<=W5.heap.size):=aT.size;obtain⟨h0,t0,t1,t2,t3,t4,t5⟩:=av W7 ad.o;by_cases h5:5000<=N
  .have a4:Hid (el d ((r,s),p3,x) n j=2):=by unfold Hid;rw[b0.o,if_pos h5]
   have a6:Hid (decideC d (G,H) (I,L) n j=(d,2)):=by unfold Hid;rw[b8.o,if_neg (by rw[a4.o];decide),a4.o]
   have gs:(5000:Int)<=(N:Int):=by omega
   go_wp2_with fail;go_ret;rw[a6.o];exact⟨rfl,F,⟨_,_,_,_,C.below ad.o⟩,ah.of_below (aT.trans (ad.mono HZ.o))⟩
  have a4:Hid (el d ((r,s),p3,x) n j=0):=by unfold Hid;rw[b0.o,if_neg h5]
  have a6:Hid (decideC d (G,H) (I,L) n j=({d with ps:=insL ltPK d.ps ((r,s),p3,x) (n,j)},0)):=by unfold Hid;rw[b8.o,if_pos a4.o]
  have gs:¬((5000:Int)<=(N:Int)):=by omega
  have hG:(q:Int)<=(N:Int):=by omega
  obtain⟨i0,hi,g0,g3,g4⟩:=info_parts C5;have HI:=Z hi;have bO:=Z g0;have bY:=Z g3;have ao:=Z g4;clear hi g0 g3 g4;rcases cu.2 with⟨hv,gP⟩|⟨g,h7,h8,hv,hl,_,h9,_⟩
  .injection hv with e1 e2 e3
   subst e1 e3;subst gP;obtain rfl:q=0:=by omega
   have f0:Hid (∀W,Bw W5 W->aJ 0 W5.heap.size W (a1 Y 0 0) 0 ((d.ps.drop 0).flatMap decCells)):=λW y=>by have:d.ps=[]:=iv R.o;rw[this];exact⟨Y,0,rfl,λh=>absurd rfl h⟩
   have f1:Hid (∀W,Bw W5 W->aJ 0 W5.heap.size W (a1 Y 0 0) 0 ((d.ps.take 0).flatMap decCells)):=λW y=>⟨Y,0,rfl,λh=>absurd rfl h⟩;clear e2;have ex:Hid (((d.ps.take 0).flatMap decCells).length=0*6):=by unfold Hid;rw[bS decCells 6 (λ_=>rfl),hQ,R.o,ih (by omega)]
   have cd:Hid (((d.ps.drop 0).flatMap decCells).length=(0)*6):=by unfold Hid;rw[bS decCells 6 (λ_=>rfl),hR,R.o]
   have e9:Hid (([J U r,J U s,J U p3,J U x,J U n,hk j]++(d.ps.drop 0).flatMap decCells:List iN).length=(1+(0))*6):=by unfold Hid;rw[hP,cd.o];show 6+_=_;omega
   have e7:Hid ((insL ltPK d.ps ((r,s),p3,x) (n,j)).flatMap decCells=([]++(d.ps.take 0).flatMap decCells)++([J U r,J U s,J U p3,J U x,J U n,hk j]++(d.ps.drop 0).flatMap decCells)):=by unfold Hid;rw[ay.o,hW,hL];rfl
   have e8:Hid ((insL ltPK d.ps ((r,s),p3,x) (n,j)).length=0+(1+(0))):=by unfold Hid;rw[ay.o,hP,ia,hQ,hR,R.o];omega
   have er:Hid (∀u∈(d.ps.take 0).flatMap decCells,u.oneCell'=true):=jI _;have cn:Hid (∀u∈(d.ps.drop 0).flatMap decCells,u.oneCell'=true):=jI _;have es:Hid (∀u∈[J U r,J U s,J U p3,J U x,J U n,hk j]++(d.ps.drop 0).flatMap decCells,u.oneCell'=true):=λu hu=>by
    rcases List.mem_append.1 hu with hu|hu
    .simp only[hX,hV,or_false]at hu;rcases hu with rfl|rfl|rfl|rfl|rfl|rfl<;>rfl
    exact cn u hu
   generalize(d.ps.take 0).flatMap decCells=TK at*;generalize(d.ps.drop 0).flatMap decCells=DR at*;go_upto_region 19 with fail;clear h0 t0 t1 t2 t3 t4 t5;have bw:Bw W5 W7.drew:=ad.drew;refine Wb W5 999 ?_;refine Qd [0,2,6,3,4,5] bw av ?_;refine ca (i:=7) (v:=a1 Y 0 0) rfl (by kernel_rfl) (by kernel_rfl) (by kernel_rfl) (by rfl) (λ_ _ _ h=>h) bw (i6 ⟨by rfl,?_⟩) ?_;focus (intro w' h;(first|(go_simp;done)|(go_simp;rfl)))
   (try go_simp)
   refine Dp 1 λK A=>?_;go_simp;obtain⟨W3,a8⟩:=Qe ((W7.alloc (a2 #[J U r,J U s,J U p3,J U x,J U n,hk j] 38)).drew);have a5:Bw W5 W3:=by rw[<- a8];exact(ad.o.alloc ad.o.size _).drew
   have cz:W3.ownsRow W5.heap.size 38 6 (a1 (X ⟨W7.heap.size,0,Y⟩) 1 1) 1 [J U r,J U s,J U p3,J U x,J U n,hk j]:=by rw[<- a8];exact hZ (base:=W5.heap.size) (e:=38) (size:=6) W7 #[J U r,J U s,J U p3,J U x,J U n,hk j] 1 ad.o.size (by unfold maxLen;omega) rfl
   rw[a8];refine A _ _ (λ_=>a5) ?_;clear A K;clear a8;obtain⟨b4,c4,T,d0,bt,cx,c7⟩:=bu (P:=prog) W3 W5.heap.size 32 32 38 i0 (.agg #[J U 0,J U 0,J U 0,J U 0,J U 0,hk false]) 6 48 underlying32 HI.o bO.o bY.o ao.o rfl (by decide) W7.heap.size 1 1 [J U r,J U s,J U p3,J U x,J U n,hk j] cz W5.heap.size (a1 Y 0 0) (0) DR (f0.o W3 a5) cd.o cn.o (by unfold maxLen;omega) (by omega) a5.size;have a7:Bw W5 T:=a5.grown cx a5.size (λj ej=>by injection ej with ej;have:=ad.o.size;omega);refine Dp 8 λK A=>?_;refine dV rfl rfl rfl d0 ?_;refine A _ _ (λ_=>a7) ?_;clear A K;go_simp;refine Qc [9] a7 ?_
   refine dN ?_;have eg:=Z bt;have gi:=Z a7;have f5:b4<T.heap.size:=(bt.lt b4 rfl).2;have e0:=Z (dq (B:=W5.heap.size) (e:=38) (k:=6) (w:=T.alloc (a2 #[] 38)) (hM T _) a7.size);have ax:Hid (Bw W5 (T.alloc (a2 #[] 38))):=a7.alloc a7.size _;have cc:Hid (W5.heap.size<=(T.alloc (a2 #[] 38)).heap.size):=ax.size;have eQ:Hid (W5.heap.size<=T.heap.size):=a7.size;have s2:(T.alloc (a2 #[] 38)).cell? ⟨p,2,Y⟩=X (a1 Y 0 0):=(av _ ax.o).1;clear bt cx c7 a5 bw a7 cz d0
   go_wp2_with (first
    |(at_builtin;refine aF _ rfl _ _ 32 rfl W5.heap.size 38 i0 (.agg #[J U 0,J U 0,J U 0,J U 0,J U 0,hk false]) 6 48 underlying32 HI.o bO.o bY.o ao.o rfl (by decide) T.heap.size 0 0 [] rfl e0.o W5.heap.size (a1 Y 0 0) 0 TK rfl (f1.o _ ax.o) ex.o er.o (by unfold maxLen;omega) (by omega) cc.o ?_;intro b5 c5 w5 bv bs _;have cp:Hid (Bw W5 w5):=ax.o.grown bs cc.o (λj ej=>by injection ej with ej;have:=eQ.o;omega);rw[ib]at bv;have ch:=Z bv;have f4:Hid (w5.ownsRow W5.heap.size 38 6 (a1 (X ⟨b4,0,Y⟩) (1+(0)) c4) (1+(0)) ([J U r,J U s,J U p3,J U x,J U n,hk j]++DR)):=ai eg.o (λg' z=>by have z:X b4=X g':=z;injection z with z;subst z;rw[bs.block _ (by simp;omega) (λe=>by injection e with e;omega)];exact hY _ _ _ f5);have cq:Hid (W5.heap.size<=w5.heap.size):=cp.o.size;clear bv bs)
    |(at_builtin;refine aF _ rfl _ _ 32 rfl W5.heap.size 38 i0 (.agg #[J U 0,J U 0,J U 0,J U 0,J U 0,hk false]) 6 48 underlying32 HI.o bO.o bY.o ao.o rfl (by decide) b5 0 c5 ([]++TK) rfl ch.o w5.heap.size (a1 (X ⟨b4,0,Y⟩) (1+(0)) c4) (1+(0)) ([J U r,J U s,J U p3,J U x,J U n,hk j]++DR) rfl ((aN f4.o).mono (hT _) (hO _)) e9.o es.o (by unfold maxLen;omega) (by omega) cq.o ?_;intro b6 c6 w6 cQ cy _;have l:Bw W5 w6:=cp.o.grown cy cq.o (λj ej=>by injection ej with ej;subst ej;exact(ch.o.lt _ rfl).1);have cl:=Z cQ;have aC:=(l.block p (C.o.lt p C.o.fp)).trans C.o.blk;have y1:=(aa aC 2).trans rfl;have z1:=ab aC 2;have gb:=Z aC;have b9:=Z l;clear cQ cy aC l))
   go_ret;rw[a6.o];refine⟨rfl,?_⟩;have bk:=C.below b9.o;have gt:=HZ.o;have gx:W5.heap.size<=w6.heap.size:=b9.size;have ac:w6.ownsRow 0 38 6 (a1 (X ⟨b6,0,Y⟩) (0+(1+(0))) c6) (insL ltPK d.ps ((r,s),p3,x) (n,j)).length ((insL ltPK d.ps ((r,s),p3,x) (n,j)).flatMap decCells):=by rw[e7.o,e8.o];exact aD cl.o (hT _)
   have f6:=cl.lt b6 rfl;have gQ:=d3 p C.fp;have a9:b6≠p:=λe=>by omega
   refine⟨λk=>F k∨(w.heap.size<=k/\k<w6.heap.size),⟨v1,v2,a1 (X ⟨b6,0,Y⟩) (0+(1+(0))) c6,xs,bk.put3 (w':=w6.setCell ⟨p,2,Y⟩ _) (vN:=a1 (X ⟨b6,0,Y⟩) (0+(1+(0))) c6) (λk E=>.inl E) (λk E=>?_) (λk _ a9 _=>hK _ _ _ _ a9) ((aq bk.blk 2 _).trans rfl) (ai ac (λg' z=>by have z:X b6=X g':=z;injection z with z;subst z;exact hK _ _ _ _ a9)) (λg' z=>?_) (by rw[hJ];exact hO _) (d4.o a4.o)⟩,?_⟩
   .rw[hJ];rcases E with E|E
    .exact bk.lt k E
    exact E.2
   .have z:X b6=X g':=z;injection z with z
    subst z;exact⟨.inr ⟨by omega,f6.2⟩,.inr (λhf=>by have:=d3.o _ hf;omega)⟩
   have y:Bw w w6:=aT.o.trans (b9.o.mono (by omega));exact((ah.of_below y).trans (ah.of_only (az.setCell (az.refl p w6) 2 _) C.fp)).more λk E=>by
    rcases E with E|E
    .exact .inl E
    exact .inr E.1
  injection hv with e1 e2 e3
  subst e1 e3;have hF:(q:Int)<=(vc:Int):=by omega
  have hd:(N:Int)<=(vc:Int):=by omega
  have O:=(cu.lt g rfl).2;clear e2;obtain⟨cb,f8⟩:=Qe ((if vc=q then 0 else q*6));have g8:Hid (q<N->cb=q*6):=λh=>by rw[<- f8,if_neg (by omega)]
  have f0:Hid (∀W,Bw W5 W->aJ 0 W5.heap.size W (a1 (X ⟨g,cb,Y⟩) (N-q) (vc-q)) (N-q) ((d.ps.drop q).flatMap decCells)):=λW y=>by have hr:=(C.below y).ps;rw[R.o]at hr;exact pE (enc:=decCells) (k:=6) (λ_=>rfl) hr (by rw[R.o]) q dc g8.o O
  have f1:Hid (∀W,Bw W5 W->aJ 0 W5.heap.size W (a1 (X ⟨g,0,Y⟩) q vc) q ((d.ps.take q).flatMap decCells)):=λW y=>by have hr:=(C.below y).ps;rw[R.o]at hr;exact pF (enc:=decCells) (k:=6) (λ_=>rfl) hr q dc O
  have g9:=Z f8;clear f8;have ex:Hid (((d.ps.take q).flatMap decCells).length=q*6):=by unfold Hid;rw[bS decCells 6 (λ_=>rfl),hQ,R.o,ih (by omega)]
  have cd:Hid (((d.ps.drop q).flatMap decCells).length=(N-q)*6):=by unfold Hid;rw[bS decCells 6 (λ_=>rfl),hR,R.o]
  have e9:Hid (([J U r,J U s,J U p3,J U x,J U n,hk j]++(d.ps.drop q).flatMap decCells:List iN).length=(1+(N-q))*6):=by unfold Hid;rw[hP,cd.o];show 6+_=_;omega
  have e7:Hid ((insL ltPK d.ps ((r,s),p3,x) (n,j)).flatMap decCells=([]++(d.ps.take q).flatMap decCells)++([J U r,J U s,J U p3,J U x,J U n,hk j]++(d.ps.drop q).flatMap decCells)):=by unfold Hid;rw[ay.o,hW,hL];rfl
  have e8:Hid ((insL ltPK d.ps ((r,s),p3,x) (n,j)).length=q+(1+(N-q))):=by unfold Hid;rw[ay.o,hP,ia,hQ,hR,R.o];omega
  have er:Hid (∀u∈(d.ps.take q).flatMap decCells,u.oneCell'=true):=jI _;have cn:Hid (∀u∈(d.ps.drop q).flatMap decCells,u.oneCell'=true):=jI _;have es:Hid (∀u∈[J U r,J U s,J U p3,J U x,J U n,hk j]++(d.ps.drop q).flatMap decCells,u.oneCell'=true):=λu hu=>by
   rcases List.mem_append.1 hu with hu|hu
   .simp only[hX,hV,or_false]at hu;rcases hu with rfl|rfl|rfl|rfl|rfl|rfl<;>rfl
   exact cn u hu
  generalize(d.ps.take q).flatMap decCells=TK at*;generalize(d.ps.drop q).flatMap decCells=DR at*;go_upto_region 19 with fail;clear h0 t0 t1 t2 t3 t4 t5;have bw:Bw W5 W7.drew:=ad.drew;refine Wb W5 999 ?_;refine Qd [0,2,6,3,4,5] bw av ?_;refine ca (i:=7) (v:=a1 (X ⟨g,cb,Y⟩) (N-q) (vc-q)) rfl (by kernel_rfl) (by kernel_rfl) (by kernel_rfl) (by rfl) (λ_ _ _ h=>h) bw (i6 ⟨by rfl,?_⟩) ?_;focus (intro w' h;go_simp;rw[<- g9.o];(first|rfl|(split<;>simp_all)))
  (try go_simp)
  refine Dp 1 λK A=>?_;go_simp;obtain⟨W3,a8⟩:=Qe ((W7.alloc (a2 #[J U r,J U s,J U p3,J U x,J U n,hk j] 38)).drew);have a5:Bw W5 W3:=by rw[<- a8];exact(ad.o.alloc ad.o.size _).drew
  have cz:W3.ownsRow W5.heap.size 38 6 (a1 (X ⟨W7.heap.size,0,Y⟩) 1 1) 1 [J U r,J U s,J U p3,J U x,J U n,hk j]:=by rw[<- a8];exact hZ (base:=W5.heap.size) (e:=38) (size:=6) W7 #[J U r,J U s,J U p3,J U x,J U n,hk j] 1 ad.o.size (by unfold maxLen;omega) rfl
  rw[a8];refine A _ _ (λ_=>a5) ?_;clear A K;clear a8;obtain⟨b4,c4,T,d0,bt,cx,c7⟩:=bu (P:=prog) W3 W5.heap.size 32 32 38 i0 (.agg #[J U 0,J U 0,J U 0,J U 0,J U 0,hk false]) 6 48 underlying32 HI.o bO.o bY.o ao.o rfl (by decide) W7.heap.size 1 1 [J U r,J U s,J U p3,J U x,J U n,hk j] cz W5.heap.size (a1 (X ⟨g,cb,Y⟩) (N-q) (vc-q)) (N-q) DR (f0.o W3 a5) cd.o cn.o (by unfold maxLen;omega) (by omega) a5.size;have a7:Bw W5 T:=a5.grown cx a5.size (λj ej=>by injection ej with ej;have:=ad.o.size;omega);refine Dp 8 λK A=>?_;refine dV rfl rfl rfl d0 ?_;refine A _ _ (λ_=>a7) ?_;clear A K;go_simp;refine Qc [9] a7 ?_
  refine dN ?_;have eg:=Z bt;have gi:=Z a7;have f5:b4<T.heap.size:=(bt.lt b4 rfl).2;have e0:=Z (dq (B:=W5.heap.size) (e:=38) (k:=6) (w:=T.alloc (a2 #[] 38)) (hM T _) a7.size);have ax:Hid (Bw W5 (T.alloc (a2 #[] 38))):=a7.alloc a7.size _;have cc:Hid (W5.heap.size<=(T.alloc (a2 #[] 38)).heap.size):=ax.size;have eQ:Hid (W5.heap.size<=T.heap.size):=a7.size;have s2:(T.alloc (a2 #[] 38)).cell? ⟨p,2,Y⟩=X (a1 (X ⟨g,0,Y⟩) N vc):=(av _ ax.o).1;clear bt cx c7 a5 bw a7 cz d0
  go_wp2_with (first
   |(at_builtin;refine aF _ rfl _ _ 32 rfl W5.heap.size 38 i0 (.agg #[J U 0,J U 0,J U 0,J U 0,J U 0,hk false]) 6 48 underlying32 HI.o bO.o bY.o ao.o rfl (by decide) T.heap.size 0 0 [] rfl e0.o W5.heap.size (a1 (X ⟨g,0,Y⟩) q vc) q TK rfl (f1.o _ ax.o) ex.o er.o (by unfold maxLen;omega) (by omega) cc.o ?_;intro b5 c5 w5 bv bs _;have cp:Hid (Bw W5 w5):=ax.o.grown bs cc.o (λj ej=>by injection ej with ej;have:=eQ.o;omega);rw[ib]at bv;have ch:=Z bv;have f4:Hid (w5.ownsRow W5.heap.size 38 6 (a1 (X ⟨b4,0,Y⟩) (1+(N-q)) c4) (1+(N-q)) ([J U r,J U s,J U p3,J U x,J U n,hk j]++DR)):=ai eg.o (λg' z=>by have z:X b4=X g':=z;injection z with z;subst z;rw[bs.block _ (by simp;omega) (λe=>by injection e with e;omega)];exact hY _ _ _ f5);have cq:Hid (W5.heap.size<=w5.heap.size):=cp.o.size;clear bv bs)
   |(at_builtin;refine aF _ rfl _ _ 32 rfl W5.heap.size 38 i0 (.agg #[J U 0,J U 0,J U 0,J U 0,J U 0,hk false]) 6 48 underlying32 HI.o bO.o bY.o ao.o rfl (by decide) b5 q c5 ([]++TK) rfl ch.o w5.heap.size (a1 (X ⟨b4,0,Y⟩) (1+(N-q)) c4) (1+(N-q)) ([J U r,J U s,J U p3,J U x,J U n,hk j]++DR) rfl ((aN f4.o).mono (hT _) (hO _)) e9.o es.o (by unfold maxLen;omega) (by omega) cq.o ?_;intro b6 c6 w6 cQ cy _;have l:Bw W5 w6:=cp.o.grown cy cq.o (λj ej=>by injection ej with ej;subst ej;exact(ch.o.lt _ rfl).1);have cl:=Z cQ;have aC:=(l.block p (C.o.lt p C.o.fp)).trans C.o.blk;have y1:=(aa aC 2).trans rfl;have z1:=ab aC 2;have gb:=Z aC;have b9:=Z l;clear cQ cy aC l))
  go_ret;rw[a6.o];refine⟨rfl,?_⟩;have bk:=C.below b9.o;have gt:=HZ.o;have gx:W5.heap.size<=w6.heap.size:=b9.size;have ac:w6.ownsRow 0 38 6 (a1 (X ⟨b6,0,Y⟩) (q+(1+(N-q))) c6) (insL ltPK d.ps ((r,s),p3,x) (n,j)).length ((insL ltPK d.ps ((r,s),p3,x) (n,j)).flatMap decCells):=by rw[e7.o,e8.o];exact aD cl.o (hT _)
  have f6:=cl.lt b6 rfl;have gQ:=d3 p C.fp;have a9:b6≠p:=λe=>by omega
  refine⟨λk=>F k∨(w.heap.size<=k/\k<w6.heap.size),⟨v1,v2,a1 (X ⟨b6,0,Y⟩) (q+(1+(N-q))) c6,xs,bk.put3 (w':=w6.setCell ⟨p,2,Y⟩ _) (vN:=a1 (X ⟨b6,0,Y⟩) (q+(1+(N-q))) c6) (λk E=>.inl E) (λk E=>?_) (λk _ a9 _=>hK _ _ _ _ a9) ((aq bk.blk 2 _).trans rfl) (ai ac (λg' z=>by have z:X b6=X g':=z;injection z with z;subst z;exact hK _ _ _ _ a9)) (λg' z=>?_) (by rw[hJ];exact hO _) (d4.o a4.o)⟩,?_⟩
  .rw[hJ];rcases E with E|E
   .exact bk.lt k E
   exact E.2
  .have z:X b6=X g':=z;injection z with z
   subst z;exact⟨.inr ⟨by omega,f6.2⟩,.inr (λhf=>by have:=d3.o _ hf;omega)⟩
  have y:Bw w w6:=aT.o.trans (b9.o.mono (by omega));exact((ah.of_below y).trans (ah.of_only (az.setCell (az.refl p w6) 2 _) C.fp)).more λk E=>by
   rcases E with E|E
   .exact .inl E
   exact .inr E.1
theorem zX(F:Nat->Prop)(w:iP)(p:Nat)(d:ar)(h:cI F w p d)(a b:RK)(n:Int)(v:rkOk a)(x:rkOk b)(hn:i64B n):
 i2 prog 43 #[fn (X ⟨p,0,Y⟩),recK a,recK b,J U n] w λe w'=>e=hb (J U (decideC d a b n false).2)/\∃c,cI c w' p (decideC d a b n false).1/\ah F w c w':=by
 have j:Hid (∀o f,Bw w ((w.alloc o).alloc f)):=λo f=>((it _ w).alloc (hO _) o).alloc (by simp) f
 have m:Hid (∀o f,i2 prog 82 #[fn (X ⟨p,0,Y⟩),recK a,recK b,J U n,hk false] ((w.alloc o).alloc f) λe w'=>e=hb (J U (decideC d a b n false).2)/\∃c,cI c w' p (decideC d a b n false).1/\ah F w c w'):=λo f=>
  (oD F _ p d (h.below (j o f)) a b n false v x hn).mono λe w'⟨y,c,g,i⟩=>⟨y,c,g,(ah.of_below (j o f)).trans i⟩
 obtain⟨q,s⟩:=a;obtain⟨t,u⟩:=b;clear h;generalize decideC d (q,s) (t,u) n false=r at*;unfold recK at*;dsimp only at*;go_enter func43,ntmps43;go_wp2_with (go_at_call 82;(refine hS (m.o _ _) ?_;rintro e z⟨rfl,c,g,i⟩;have k:=Z g;have l:=Z i;clear g i))
 go_ret;exact⟨rfl,c,k.o,l.o⟩
theorem Bc(F:Nat->Prop)(w:iP)(p:Nat)(d:ar)(h:cI F w p d)(a b:RK)(n:Int)(v:rkOk a)(x:rkOk b)(hn:i64B n):
 i2 prog 44 #[fn (X ⟨p,0,Y⟩),recK a,recK b,J U n] w λe w'=>e=hb (J U (decideC d a b n true).2)/\∃c,cI c w' p (decideC d a b n true).1/\ah F w c w':=by
 have j:Hid (∀o f,Bw w ((w.alloc o).alloc f)):=λo f=>((it _ w).alloc (hO _) o).alloc (by simp) f
 have m:Hid (∀o f,i2 prog 82 #[fn (X ⟨p,0,Y⟩),recK a,recK b,J U n,hk true] ((w.alloc o).alloc f) λe w'=>e=hb (J U (decideC d a b n true).2)/\∃c,cI c w' p (decideC d a b n true).1/\ah F w c w'):=λo f=>
  (oD F _ p d (h.below (j o f)) a b n true v x hn).mono λe w'⟨y,c,g,i⟩=>⟨y,c,g,(ah.of_below (j o f)).trans i⟩
 obtain⟨q,s⟩:=a;obtain⟨t,u⟩:=b;clear h;generalize decideC d (q,s) (t,u) n true=r at*;unfold recK at*;dsimp only at*;go_enter func44,ntmps44;go_wp2_with (go_at_call 82;(refine hS (m.o _ _) ?_;rintro e z⟨rfl,c,g,i⟩;have k:=Z g;have l:=Z i;clear g i))
 go_ret;exact⟨rfl,c,k.o,l.o⟩
end
end Go.Proofs.YtjcimanddakkaaaGreatDoor
