/- Lemmas. -/
import Derived.Test.YtjcimanddakkaaaGreatDoorCT13
import Derived.Test.YtjcimanddakkaaaGreatDoorCT22
import Derived.Deep.CutBlock
set_option maxRecDepth 100000
set_option maxHeartbeats 8000000
namespace Go.Proofs.YtjcimanddakkaaaGreatDoor
open _root_.Option renaming some→X,none→Y
open Go.Value renaming slice→a1,int→J,bool→hb
open Go.IntKind renaming i64→U,u8→hk
open Go.Obj renaming cells→a2
open Go.Ending renaming returned→fn
open Go.Lib renaming hid→Z
open Tryz
open Go.World renaming size_setCell→hy,alloc_heap_new→hG,ownsRow_lit→hS
open Go.RowKit.Below renaming heap_setCell→hC,heap_alloc→hR,refl→hX
open _root_.List renaming flatMap_cons→hF,length_append→hI,length_take→hJ,length_drop→hK,not_mem_nil→hO,flatMap_append→hP,mem_cons→hQ,length_cons→hT,eq_nil_of_length_eq_zero→hY,mem_of_mem_take→hZ,mem_of_mem_drop→ia,length_set→iN,getElem?_eq_getElem→iQ
open _root_.Nat renaming le_refl→hH,zero_le→hM,zero_add→hV,min_eq_left→hW,succ_mul→it,mul_le_mul_right→iv,lt_or_ge→iS
open Go.Calls renaming mono→hL
open Go renaming Value→ib,World→ih,Calls→iF
open _root_.Int renaming lt_trichotomy→iD
open _root_.Or renaming inl→iP
section
open Go.RowKit Go.Maps Go.Shelf
section
variable {K V:Type} [DecidableEq K] {lt:K->K->Bool}
theorem lG(T:Tot lt){l:List (K×V)}(e:aH lt l){k:K}{v:V}(h:findK l k=X v):∃b:placeK lt l k<l,l[placeK lt l k]=(k,v):=by
 rw[en T e]at h;cases hg:l[placeK lt l k]? with
 |none=>rw[hg]at h;cases h
 |some p=>
  rw[hg]at h;obtain⟨b,d⟩:=List.getElem?_eq_some_iff.1 hg;refine⟨b,?_⟩;rw[d];have h:(if p.1=k then X p.2 else Y)=X v:=h;split at h
  .rename_i c;injection h with h
   exact Prod.ext c h
  cases h
theorem sJ(T:Tot lt){l:List (K×V)}(c:aH lt l){k:K}(h:findK l k=Y):(l[placeK lt l k]?).map (·.1)≠X k:=by
 rw[en T c]at h;cases hg:l[placeK lt l k]? with
 |none=>simp
 |some p=> rw[hg]at h;have h:(if p.1=k then X p.2 else Y)=Y:=h;intro b;simp at b;rw[if_pos b]at h;cases h
theorem qj(T:Tot lt){l:List (K×V)}(d:aH lt l){k:K}{v:V}(h:findK l k=X v)(u:V):insL lt l k u=l.set (placeK lt l k) (k,u):=by
 obtain⟨b,c⟩:=lG T d h;rw[sy,if_pos (by rw[iQ b,c];rfl),List.set_eq_take_append_cons_drop,if_pos b]
theorem ql(T:Tot lt){l:List (K×V)}(b:aH lt l){k:K}(h:findK l k=Y)(u:V):insL lt l k u=l.take (placeK lt l k)++(k,u)::l.drop (placeK lt l k):=by
 rw[sy,if_neg (sJ T b h)]
end
theorem fg{α:Type}(enc:α->List ib)(n:Nat)(hn:∀x,(enc x).length=n):∀(b:List α)(m i:Nat)(u:ib)(y:α)(hm:m<b),i<n->(enc b[m]).set i u=enc y->(b.flatMap enc).set (m*n+i) u=(b.set m y).flatMap enc
 |x::b,0,i,u,y,hm,hi,he=>by
  rw[hF,Nat.zero_mul,hV,List.set_append_left _ _ (by rw[hn];exact hi),List.set_cons_zero,hF]
  rw[show(enc x).set i u=enc y from he]
 |x::b,m+1,i,u,y,hm,hi,he=>by
  rw[hF,List.set_append_right _ _ (by rw[hn,it];omega),hn,show(m+1)*n+i-n=m*n+i by rw[it];omega,List.set_cons_succ,hF,fg enc n hn b m i u y (by simpa using hm) hi he]
section
variable {P:Program} {o:Oper} {a:Act} {K:Act->ih->Prop} {Q:Exit->Act->ih->Prop} {w:ih}
theorem ee{s x:Operand}{t:TypeId}(e:o.op=.call {callee:=.builtin .append,args:= #[s,x],argTypes:= #[t,t]}){b c v:ib}(g:a.eval s=b)(h:a.eval x=c){w':ih}(f:(Builtin.append_ #[t,t] o.type #[b,c]).run P w=.ok v w')(d:K (a.put o.dst v) w'):o.wp P a w K Q:=by
 unfold Oper.wp execOp;simp only[e,resolve,invoke,builtin,Sem.run_bind,Sem.run_pure,Result.andThen_ok,List.map_toArray,List.map_cons,List.map_nil,g,h,f];exact d
end
theorem kE{α:Type}(enc:α->List ib)(n:Nat)(hn:∀x,(enc x).length=n):∀(b:List α)(q:Nat),(b.drop q).flatMap enc=(b.flatMap enc).drop (q*n)
 |[],q=>by simp
 |x::b,0=>by simp
 |x::b,q+1=>by rw[List.drop_succ_cons,kE enc n hn b q,hF,it,Nat.add_comm,<- List.drop_drop,List.drop_left' (hn x)]
theorem kC{α:Type}(enc:α->List ib)(n:Nat)(hn:∀x,(enc x).length=n):∀(b:List α)(q:Nat),(b.take q).flatMap enc=(b.flatMap enc).take (q*n)
 |[],q=>by simp
 |x::b,0=>by simp
 |x::b,q+1=>by rw[List.take_succ_cons,hF,kC enc n hn b q,hF,it,Nat.add_comm (q*n),List.take_append,hn,List.take_of_length_le (show(enc x).length<=n+q*n by rw[hn];omega),Nat.add_sub_cancel_left]
theorem pK{α:Type}{enc:α->List ib}{k e g N c n l:Nat}{w:ih}{f:List α}(r:∀x,(enc x).length=k)(h:w.ownsRow 0 e k (a1 g N c) N (f.flatMap enc))(v:f=N)(q:Nat)(y:q<=N){d:Nat}(t:q<N->d=q*k)(p:g<l):
 aL 0 l w (a1 (X ⟨g,d,Y⟩) (N-q) n) (N-q) ((f.drop q).flatMap enc):=by
 refine⟨_,_,rfl,λs=>⟨g,d,rfl,hM _,p,λj x b=>?_⟩⟩;have u:q<N:=by
  rcases iS q N with i|i
  .exact i
  exact absurd (by rw[List.drop_of_length_le (by omega)];rfl) s
 rw[kE enc k r,List.getElem?_drop]at b;rw[t u];have m:=(List.getElem?_eq_some_iff.1 b).1;rw[h.1]at m;rw[h.cellAt _ m];exact b
theorem pL{α:Type}{enc:α->List ib}{k e g N c d:Nat}{w:ih}{f:List α}(l:∀x,(enc x).length=k)(h:w.ownsRow 0 e k (a1 g N c) N (f.flatMap enc))(q:Nat)(m:q<=N)(i:g<d):
 aL 0 d w (a1 g q c) q ((f.take q).flatMap enc):=by
 refine⟨_,_,rfl,λp=>⟨g,0,rfl,hM _,i,λj x b=>?_⟩⟩;rw[kC enc k l,List.getElem?_take]at b;split at b
 .rename_i n;have:q*k<=N*k:=iv k m;rw[hV,h.cellAt _ (by omega)];exact b
 cases b
theorem DD:(prog.info? 142).map (λi=>(i.zero,i.size,i.bytes))=X (X (.agg #[J U 0,J U 0,J U 0]),3,24):=by kernel_rfl
theorem iC(l:List (RK×Int)):∀u∈l.flatMap dropCells,u.oneCell'=true:=by
 intro u b;obtain⟨p,c,b⟩:=List.mem_flatMap.1 b;simp only[dropCells,hQ,hO,or_false]at b;rcases b with rfl|rfl|rfl<;>rfl
theorem kh{w:ih}{B C e f k j n m:Nat}{u v:ib}{l ys:List ib}(h:w.ownsRow B e k u n l)(b:w.ownsRow C f j v m ys)(c:e≠f){g:Nat}(d:u.ownBlock=X g):v.ownBlock≠X g:=λi=>by
 obtain⟨c1,t1⟩:=aK h d;obtain⟨c2,t2⟩:=aK b i;rw[t1]at t2;injection t2 with t2
 injection t2 with _ t2
 exact c t2
theorem eO{w:ih}{B e k n t p:Nat}{u:ib}{j:List ib}{b:Array ib}(h:w.ownsRow B e k u n j)(i:w.heap[p]?=X (a2 b t (0,0)))(d:e≠t){g:Nat}(f:u.ownBlock=X g):g≠p:=λc=>by
 obtain⟨c1,t1⟩:=aK h f;rw[c,i]at t1;injection t1 with t1
 injection t1 with _ t1
 exact d t1.symm
theorem dM.put2{F e:Nat->Prop}{w w':ih}{p:Nat}{l m n vN:ib}{s:List (RK×VX)}{d:aB}{ds:List (RK×Int)}(h:dM F w p l m n s d)(f:∀k,F k->e k)(t:∀k,e k->k<w')(j:∀k,F k->k≠p->m.ownBlock≠X k->w'.heap[k]?=w.heap[k]?)
 (u:w'.heap[p]?=X (a2 #[l,vN,n] 34 (0,0)))(c:w'.ownsRow 0 142 3 vN ds (ds.flatMap dropCells))(r:∀g,vN.ownBlock=X g->e g/\(m.ownBlock=X g∨¬F g))(x:w.heap.size<=w')(y:bp {d with ds:=ds}):dM e w' p l vN n s {d with ds:=ds}:=by
 refine⟨u,h.vx,aj h.vs (λg b=>j g (h.f1 g b) (eO h.vs h.blk (by decide) b) (kh h.vs h.ds (by decide) b)),λq v=>?_,c,aj h.ps (λg b=>j g (h.f3 g b) (eO h.ps h.blk (by decide) b) (kh h.ps h.ds (by decide) b)),f p h.fp,λg b=>f g (h.f1 g b),λg b=>(r g b).1,λg b=>f g (h.f3 g b),t,y⟩;refine((h.fx q v).step (λk c=>j k c.1 c.2.1 c.2.2.2.1) x).wide λk c=>⟨f k c.1,c.2.1,c.2.2.1,λb=>?_,c.2.2.2.2⟩;rcases(r k b).2 with i|i
 .exact c.2.2.2.1 i
 exact i c.1
theorem dM.put3{F e:Nat->Prop}{w w':ih}{p:Nat}{l m n vN:ib}{s:List (RK×VX)}{d:aB}{ps:List (PK×(Int×Bool))}(h:dM F w p l m n s d)(f:∀k,F k->e k)(t:∀k,e k->k<w')(j:∀k,F k->k≠p->n.ownBlock≠X k->w'.heap[k]?=w.heap[k]?)
 (u:w'.heap[p]?=X (a2 #[l,m,vN] 34 (0,0)))(c:w'.ownsRow 0 38 6 vN ps (ps.flatMap decCells))(r:∀g,vN.ownBlock=X g->e g/\(n.ownBlock=X g∨¬F g))(x:w.heap.size<=w')(y:bp {d with ps:=ps}):dM e w' p l m vN s {d with ps:=ps}:=by
 refine⟨u,h.vx,aj h.vs (λg b=>j g (h.f1 g b) (eO h.vs h.blk (by decide) b) (kh h.vs h.ps (by decide) b)),λq v=>?_,aj h.ds (λg b=>j g (h.f2 g b) (eO h.ds h.blk (by decide) b) (kh h.ds h.ps (by decide) b)),c,f p h.fp,λg b=>f g (h.f1 g b),λg b=>f g (h.f2 g b),λg b=>(r g b).1,t,y⟩;refine((h.fx q v).step (λk c=>j k c.1 c.2.1 c.2.2.2.2) x).wide λk c=>⟨f k c.1,c.2.1,c.2.2.1,c.2.2.2.1,λb=>?_⟩;rcases(r k b).2 with i|i
 .exact c.2.2.2.2 i
 exact i c.1
theorem dM.put1{F e:Nat->Prop}{w w':ih}{p:Nat}{r j l vN:ib}{t ys:List (RK×VX)}{d:aB}(h:dM F w p r j l t d)(i:∀k,F k->e k)(u:∀k,e k->k<w')(n:∀k,F k->k≠p->r.ownBlock≠X k->w'.heap[k]?=w.heap[k]?)
 (v:w'.heap[p]?=X (a2 #[vN,j,l] 34 (0,0)))(c:w'.ownsRow 0 64 6 vN ys (ys.flatMap verCells))(s:∀g,vN.ownBlock=X g->e g/\(r.ownBlock=X g∨¬F g))(y:w.heap.size<=w')(z:bp {d with vs:=ys.map λp=>(p.1,p.2.1)})
 (x:∀q∈ys,q∈t∨dL (restM e p vN j l) w' q):dM e w' p vN j l ys {d with vs:=ys.map λp=>(p.1,p.2.1)}:=by
 refine⟨v,rfl,c,λq f=>?_,aj h.ds (λg b=>n g (h.f2 g b) (eO h.ds h.blk (by decide) b) (kh h.ds h.vs (by decide) b)),aj h.ps (λg b=>n g (h.f3 g b) (eO h.ps h.blk (by decide) b) (kh h.ps h.vs (by decide) b)),i p h.fp,λg b=>(s g b).1,λg b=>i g (h.f2 g b),λg b=>i g (h.f3 g b),u,z⟩;rcases x q f with f|f
 .refine((h.fx q f).step (λk c=>n k c.1 c.2.1 c.2.2.1) y).wide λk c=>⟨i k c.1,c.2.1,λb=>?_,c.2.2.2.1,c.2.2.2.2⟩;rcases(s k b).2 with m|m
  .exact c.2.2.1 m
  exact m c.1
 exact f
theorem BW(F:Nat->Prop)(w:ih)(p:Nat)(d:aB)(h:bX F w p d)(k:RK)(n:Int)(s:rkOk k)(hn:i64B n):
 iF prog 42 #[.pointer p,recK k,n] w λe w'=>e=fn (J U (dropC d k n).2)/\∃F',bX F' w' p (dropC d k n).1/\ai F w F' w':=by
 obtain⟨v1,v2,v3,xs,h⟩:=h;have cc:Hid (dU d k n=0->bp {d with ds:=insL ltRK d.ds k n}):=λhx=>h.ok.drop s hn hx;have bb:=Z (qB d k n);obtain⟨b,f⟩:=k;obtain⟨w1,c1⟩:=Qe (w.alloc (a2 #[b,f] 36));have cq:Bw w w1:=by rw[<- c1];exact(hX _ w).alloc (hH _) _
 have I:=hG w (a2 #[b,f] 36);rw[c1]at I;have HK:=Z I;have r:=Z (h.below cq);have ac:=Z cq;have d6:w1.heap.size=w+1:=by rw[<- c1];simp
 have b2:=Z d6;have cP:=Z c1;have cz:=Z h.lt;have aa:=Z (vU F w1 p v1 v2 v3 xs d r.o (b,f));have bY:=gW (lt:=ltRK) d.ds (b,f);have d0:=h.ok.dlen;clear cq d6 c1 I;cases T:findK d.ds (b,f)with
 |some m=>
  obtain⟨hq,he⟩:=lG aY h.ok.ok.ds T;have a6:=Z (qj aY h.ok.ok.ds T n);obtain⟨g,c,hv,hg,hc⟩:=bT (enc:=dropCells) (λ_=>rfl) r.ds _ hq;rw[he]at hc;have c2:=hc 2 _ rfl;have ad:Hid (dU d (b,f) n=bh true (decide (m=n)) m n d.ds):=by unfold Hid dU;rw[T];rfl
  rw[T]at aa;obtain⟨q,b3⟩:=Qe (placeK ltRK d.ds (b,f));rw[b3]at aa hq c2 a6;have HE:Hid (∃hq:q<d.ds,d.ds[q]=((b,f),m)):=by subst b3;exact⟨hq,he⟩
  have d7:=Z c2;obtain⟨N,hN⟩:=Qe d.ds.length;rw[hN]at hv hq d0 ad;have E:=Z hN;subst hv;have e8:(q:Int)<(N:Int):=by omega
  have M:Hid (∀W,Bw w1 W->W.cell? ⟨p,1,Y⟩=X (a1 g N c)/\W.cell? ⟨g,q*3+2,Y⟩=X (J U m)/\W.frozen? ⟨g,q*3+2,Y⟩=false):=λW D=>
   ⟨(ab ((D.block _ (r.o.lt p r.o.fp)).trans r.o.blk) 1).trans rfl,((aq D).1 g _ hg).trans d7.o,(by have:=(r.o.below D).ds;rw[E.o]at this;exact this.frozenAt _)⟩
  have e7:=hq;clear hc c2 he b3 hN T bY h hq;have ao:Hid (iF prog 81 #[.pointer p,.agg #[b,f]] (w.alloc (a2 #[b,f] 36)) λe w'=>e=fn (.tuple #[J U q,hb true])/\Bw w1 w'):=by unfold Hid;rw[cP.o];exact aa.o
  clear aa;unfold recK;dsimp only;rcases iD m n with bB|bB|bB;rotate_left
  .subst bB;have G:Hid (dU d (b,f) m=22):=by unfold Hid;rw[ad.o,decide_eq_true rfl];rfl
   have a4:Hid (dropC d (b,f) m=(d,22)):=by unfold Hid;rw[bb.o,if_neg (by rw[G.o];decide),G.o]
   go_enter func42,ntmps42;go_wp2_with (go_at_call 81;(refine hL ao.o ?_;rintro e t⟨rfl,y⟩;obtain⟨p1,p2,p3⟩:=M.o t y;have x:=Z y;clear y))
   go_ret;rw[a4.o];exact⟨rfl,F,⟨_,_,_,_,r.o.below x.o⟩,ai.of_below (ac.o.trans (x.o.mono (by have:=b2.o;omega)))⟩
  .have G:Hid (dU d (b,f) n=30):=by unfold Hid;rw[ad.o,decide_eq_false (show m≠n by omega)];unfold bh;simp;omega
   have a4:Hid (dropC d (b,f) n=(d,30)):=by unfold Hid;rw[bb.o,if_neg (by rw[G.o];decide),G.o]
   have f1:(m==n)=false:=by simp;omega
   have f2:¬(m=n):=by omega
   go_enter func42,ntmps42;go_wp2_with (go_at_call 81;(refine hL ao.o ?_;rintro e t⟨rfl,y⟩;obtain⟨p1,p2,p3⟩:=M.o t y;have x:=Z y;clear y))
   go_ret;rw[a4.o];exact⟨rfl,F,⟨_,_,_,_,r.o.below x.o⟩,ai.of_below (ac.o.trans (x.o.mono (by have:=b2.o;omega)))⟩
  have G:Hid (dU d (b,f) n=0):=by unfold Hid;rw[ad.o,decide_eq_false (show m≠n by omega)];unfold bh;simp;omega
  have a4:Hid (dropC d (b,f) n=({d with ds:=insL ltRK d.ds (b,f) n},0)):=by unfold Hid;rw[bb.o,if_pos G.o]
  have f1:(m==n)=false:=by simp;omega
  have f2:¬(m=n):=by omega
  have f3:¬(n<m):=by omega
  have e0:=Z bB;clear bB;go_enter func42,ntmps42;go_wp2_with (go_at_call 81;(refine hL ao.o ?_;rintro e t⟨rfl,y⟩;obtain⟨p1,p2,p3⟩:=M.o t y;have x:=Z y;clear y))
  go_ret;rw[a4.o];have al:=r.below x.o;have dz:ai F w F t:=ai.of_below (ac.o.trans (x.o.mono (by have:=b2.o;omega)));refine⟨rfl,F,?_,?_⟩
  .obtain⟨dy,dq⟩:=HE.o;have b7:=al.ds;rw[E.o]at b7;have d2:=(b7.stored (q*3+2) n).1;rw[fg dropCells 3 (λ_=>rfl) d.ds q 2 _ ((b,f),n) dy (by omega) (by rw[dq];rfl),<- a6.o]at d2;have dx:N=(insL ltRK d.ds (b,f) n).length:=by rw[a6.o,iN,E.o]
   refine⟨v1,_,v3,xs,al.put2 (vN:=a1 g N c) (λ_ h=>h) (λk s=>by rw[hy];exact al.lt k s) (λk _ _ a7=>hC _ _ _ _ (λe=>a7 (by rw[e];rfl))) ?_ (dx▸d2) (λR l=>⟨al.f2 R l,.inl l⟩) (by rw[hy];exact hH _) (cc.o G.o)⟩;rw[hC _ _ _ _ (Ne.symm (eO al.ds al.blk (by decide) (g:=g) rfl))];exact al.blk
  exact dz.trans (ai.of_only (aF.setCell (aF.refl g t) _ _) (al.f2 g rfl))
 |none=>
  have a6:=Z (ql aY h.ok.ok.ds T n);have ad:Hid (dU d (b,f) n=if 5000<=d.ds.length then 2 else 0):=by unfold Hid dU;rw[T];show bh false _ _ _ _=_;unfold bh;simp
  rw[T]at aa;obtain⟨q,b3⟩:=Qe (placeK ltRK d.ds (b,f));rw[b3]at aa bY a6;obtain⟨N,hN⟩:=Qe d.ds.length;rw[hN]at d0 bY ad;have E:=Z hN;obtain⟨va,vc,hv⟩:=aQ h.ds;rw[hN]at hv;subst hv
  have M:Hid (∀W,Bw w1 W->W.cell? ⟨p,1,Y⟩=X (a1 va N vc)/\W.cell? w=X (J U b)/\W.cell? ⟨w,1,Y⟩=X (J U f)):=λW D=>
   ⟨(ab ((D.block _ (r.o.lt p r.o.fp)).trans r.o.blk) 1).trans rfl,(ab ((D.block _ (by have:=b2.o;omega)).trans HK.o) 0).trans rfl,(ab ((D.block _ (by have:=b2.o;omega)).trans HK.o) 1).trans rfl⟩
  clear b3 hN T h;have ao:Hid (iF prog 81 #[.pointer p,.agg #[b,f]] (w.alloc (a2 #[b,f] 36)) λe w'=>e=fn (.tuple #[J U q,hb false])/\Bw w1 w'):=by unfold Hid;rw[cP.o];exact aa.o
  clear aa;unfold recK;dsimp only;by_cases h5:5000<=N
  .have G:Hid (dU d (b,f) n=2):=by unfold Hid;rw[ad.o,if_pos h5]
   have a4:Hid (dropC d (b,f) n=(d,2)):=by unfold Hid;rw[bb.o,if_neg (by rw[G.o];decide),G.o]
   have dd:(5000:Int)<=(N:Int):=by omega
   go_enter func42,ntmps42;go_wp2_with (go_at_call 81;(refine hL ao.o ?_;rintro e t⟨rfl,y⟩;obtain⟨p1,p2,p3⟩:=M.o t y;have x:=Z y;clear y))
   go_ret;rw[a4.o];exact⟨rfl,F,⟨_,_,_,_,r.o.below x.o⟩,ai.of_below (ac.o.trans (x.o.mono (by have:=b2.o;omega)))⟩
  have G:Hid (dU d (b,f) n=0):=by unfold Hid;rw[ad.o,if_neg h5]
  have a4:Hid (dropC d (b,f) n=({d with ds:=insL ltRK d.ds (b,f) n},0)):=by unfold Hid;rw[bb.o,if_pos G.o]
  have dd:¬((5000:Int)<=(N:Int)):=by omega
  have eb:(q:Int)<=(N:Int):=by omega
  obtain⟨i0,hi,d3,d4,d5⟩:=info_parts DD;have HI:=Z hi;have aT:=Z d3;have b0:=Z d4;have b1:=Z d5;clear hi d3 d4 d5;rcases r.ds.2 with⟨hv,d1⟩|⟨g,e4,e5,hv,_,_,cQ,_⟩
  .injection hv with e1 e2 e3
   subst e1 e3;rw[E.o]at d1;subst d1;obtain rfl:q=0:=by omega
   have cj:Hid (∀W,Bw w1 W->aL 0 w1 W (a1 Y 0 0) 0 ((d.ds.drop 0).flatMap dropCells)):=λW D=>by have:d.ds=[]:=hY E.o;rw[this];exact⟨Y,0,rfl,λh=>absurd rfl h⟩
   have cl:Hid (∀W,Bw w1 W->aL 0 w1 W (a1 Y 0 0) 0 ((d.ds.take 0).flatMap dropCells)):=λW D=>⟨Y,0,rfl,λh=>absurd rfl h⟩;clear e2;have ch:Hid (((d.ds.take 0).flatMap dropCells).length=0*3):=by unfold Hid;rw[bR dropCells 3 (λ_=>rfl),hJ,E.o,hW (by omega)]
   have bc:Hid (((d.ds.drop 0).flatMap dropCells).length=(0)*3):=by unfold Hid;rw[bR dropCells 3 (λ_=>rfl),hK,E.o]
   have ca:Hid (([J U b,J U f,J U n]++(d.ds.drop 0).flatMap dropCells:List ib).length=(1+(0))*3):=by unfold Hid;rw[hI,bc.o];show 3+_=_;omega
   have c7:Hid ((insL ltRK d.ds (b,f) n).flatMap dropCells=([]++(d.ds.take 0).flatMap dropCells)++([J U b,J U f,J U n]++(d.ds.drop 0).flatMap dropCells)):=by unfold Hid;rw[a6.o,hP,hF];rfl
   have c9:Hid ((insL ltRK d.ds (b,f) n).length=0+(1+(0))):=by unfold Hid;rw[a6.o,hI,hT,hJ,hK,E.o];omega
   have cd:Hid (∀u∈(d.ds.take 0).flatMap dropCells,u.oneCell'=true):=iC _;have bl:Hid (∀u∈(d.ds.drop 0).flatMap dropCells,u.oneCell'=true):=iC _;have cg:Hid (∀u∈[J U b,J U f,J U n]++(d.ds.drop 0).flatMap dropCells,u.oneCell'=true):=λu hu=>by
    rcases List.mem_append.1 hu with hu|hu
    .simp only[hQ,hO,or_false]at hu;rcases hu with rfl|rfl|rfl<;>rfl
    exact bl u hu
   generalize(d.ds.take 0).flatMap dropCells=TK at*;generalize(d.ds.drop 0).flatMap dropCells=DR at*;go_enter func42,ntmps42;go_upto_region 11 with(go_at_call 81;(refine hL ao.o ?_;rintro e t⟨rfl,y⟩;obtain⟨p1,p2,p3⟩:=M.o t y;have x:=Z y;clear y))
   clear p1 p2 p3;have aC:Bw w1 t.drew:=x.drew;refine Wb w1 999 ?_;refine Qd [0,1,4,8,2,5,6,7] aC M ?_;refine cn (i:=9) (v:=a1 Y 0 0) rfl (by kernel_rfl) (by kernel_rfl) (by kernel_rfl) (by rfl) (λ_ _ _ h=>h) aC (iP ⟨by rfl,?_⟩) ?_;focus (intro w' h;(first|(go_simp;done)|(go_simp;rfl)))
   (try go_simp)
   refine Dp 3 λK I=>?_;go_simp;obtain⟨H,a3⟩:=Qe ((t.alloc (a2 #[b,f,n] 142)).drew);have a0:Bw w1 H:=by rw[<- a3];exact(x.o.alloc x.o.size _).drew
   have bA:H.ownsRow w1 142 3 (a1 t 1 1) 1 [J U b,J U f,J U n]:=by rw[<- a3];exact hS (base:=w1.heap.size) (e:=142) (size:=3) t #[b,f,n] 1 x.o.size (by unfold maxLen;omega) rfl
   have cy:H.heap.size=t+1:=by rw[<- a3];show(t.alloc _).heap.size=_;simp
   rw[a3];refine I _ _ (λ_=>a0) ?_;clear I K;clear a3;obtain⟨b4,c4,z,c0,ay,bv,cs⟩:=bz (P:=prog) H w1 31 31 142 i0 (.agg #[J U 0,J U 0,J U 0]) 3 24 underlying31 HI.o aT.o b0.o b1.o rfl (by decide) t 1 1 [J U b,J U f,J U n] bA w1 (a1 Y 0 0) (0) DR (cj.o H a0) bc.o bl.o (by unfold maxLen;omega) (by omega) a0.size;have C:Bw w1 z:=a0.grown bv a0.size (λj A=>by injection A with A;have:=x.o.size;omega);refine Dp 10 λK I=>?_;refine ee rfl rfl rfl c0 ?_;refine I _ _ (λ_=>C) ?_;clear I K;go_simp;refine Qc [11] C ?_
   refine dN ?_;have cb:=Z ay;have dc:=Z C;have cu:b4<z:=(ay.lt b4 rfl).2;have c3:=Z (dA (B:=w1.heap.size) (e:=142) (k:=3) (w:=z.alloc (a2 #[] 142)) (hG z _) C.size);have a5:Hid (Bw w1 (z.alloc (a2 #[] 142))):=C.alloc C.size _;have b9:Hid (w1<=(z.alloc (a2 #[] 142)).heap.size):=a5.size;have ci:Hid (w1.heap.size<=z):=C.size;obtain⟨s1,_,_⟩:=M z C;have s2:(z.alloc (a2 #[] 142)).cell? ⟨p,1,Y⟩=X (a1 Y 0 0):=(M _ a5.o).1;clear ay bv cs a0 aC C bA c0 cy
   go_wp2_with (first
    |(at_builtin;(refine aJ _ rfl _ _ 31 rfl w1 142 i0 (.agg #[J U 0,J U 0,J U 0]) 3 24 underlying31 HI.o aT.o b0.o b1.o rfl (by decide) z 0 0 [] rfl c3.o w1 (a1 Y 0 0) 0 TK rfl (cl.o _ a5.o) ch.o cd.o (by unfold maxLen;omega) (by omega) b9.o ?_;intro b5 c5 w5 az ax _;have bs:Hid (Bw w1 w5):=a5.o.grown ax b9.o (λj A=>by injection A with A;have:=ci.o;omega);rw[hV]at az;have bd:=Z az;have cm:Hid (w5.ownsRow w1 142 3 (a1 b4 (1+(0)) c4) (1+(0)) ([J U b,J U f,J U n]++DR)):=aj cb.o (λR l=>by have l:X b4=X R:=l;injection l with l;subst l;rw[ax.block _ (by simp;omega) (λe=>by injection e with e;omega)];exact hR _ _ _ cu);have bt:Hid (w1.heap.size<=w5):=bs.o.size;clear az ax))
    |(at_builtin;(refine aJ _ rfl _ _ 31 rfl w1 142 i0 (.agg #[J U 0,J U 0,J U 0]) 3 24 underlying31 HI.o aT.o b0.o b1.o rfl (by decide) b5 0 c5 ([]++TK) rfl bd.o w5 (a1 b4 (1+(0)) c4) (1+(0)) ([J U b,J U f,J U n]++DR) rfl ((aM cm.o).mono (hM _) (hH _)) ca.o cg.o (by unfold maxLen;omega) (by omega) bt.o ?_;intro O c6 L bO bw _;have aS:Bw w1 L:=bs.o.grown bw bt.o (λj A=>by injection A with A;subst A;exact(bd.o.lt _ rfl).1);have bk:=Z bO;have a8:=(aS.block p (r.o.lt p r.o.fp)).trans r.o.blk;have y1:=(ab a8 1).trans rfl;have z1:=ae a8 1;have da:=Z a8;have au:=Z aS;clear bO bw a8 aS)))
   go_ret;rw[a4.o];refine⟨rfl,?_⟩;have av:=r.below au.o;have cp:w.heap.size<=w1:=ac.size;have dk:w1.heap.size<=L:=au.size;have b7:L.ownsRow 0 142 3 (a1 O (0+(1+(0))) c6) (insL ltRK d.ds (b,f) n).length ((insL ltRK d.ds (b,f) n).flatMap dropCells):=by rw[c7.o,c9.o];exact aD bk.o (hM _)
   have cv:=bk.lt O rfl;have a7:O≠p:=λe=>by have:=r.o.lt p r.o.fp;omega
   refine⟨λk=>F k∨(w<=k/\k<L),⟨v1,_,v3,xs,av.put2 (w':=L.setCell ⟨p,1,Y⟩ _) (vN:=a1 O (0+(1+(0))) c6) (λk s=>.inl s) (λk s=>?_) (λk _ a7 _=>hC _ _ _ _ a7) ((aA av.blk 1 _).trans rfl) (aj b7 (λR l=>by have l:X O=X R:=l;injection l with l;subst l;exact hC _ _ _ _ a7)) (λR l=>?_) (by rw[hy];exact hH _) (cc.o G.o)⟩,?_⟩
   .rw[hy];rcases s with s|s
    .exact av.lt k s
    exact s.2
   .have l:X O=X R:=l;injection l with l
    subst l;exact⟨.inr ⟨by omega,cv.2⟩,.inr (λT=>by have:=cz.o _ T;omega)⟩
   have D:Bw w L:=ac.trans (au.mono cp);exact((ai.of_below D).trans (ai.of_only (aF.setCell (aF.refl p L) 1 _) r.fp)).more λk s=>by
    rcases s with s|s
    .exact .inl s
    exact .inr s.1
  injection hv with e1 e2 e3
  subst e1 e3;have cQ:N<=vc:=by rw[<- E.o];exact cQ
  have e9:(q:Int)<=(vc:Int):=by omega
  have e6:(N:Int)<=(vc:Int):=by omega
  clear e2;obtain⟨b8,cx⟩:=Qe ((if vc=q then 0 else q*3));have d8:Hid (q<N->b8=q*3):=λh=>by rw[<- cx,if_neg (by omega)]
  have cj:Hid (∀W,Bw w1 W->aL 0 w1 W (a1 (X ⟨g,b8,Y⟩) (N-q) (vc-q)) (N-q) ((d.ds.drop q).flatMap dropCells)):=λW D=>by have hr:=(r.below D).ds;rw[E.o]at hr;exact pK (enc:=dropCells) (k:=3) (λ_=>rfl) hr (by rw[E.o]) q bY d8.o (r.o.ds.lt g rfl).2
  have cl:Hid (∀W,Bw w1 W->aL 0 w1 W (a1 g q vc) q ((d.ds.take q).flatMap dropCells)):=λW D=>by have hr:=(r.below D).ds;rw[E.o]at hr;exact pL (enc:=dropCells) (k:=3) (λ_=>rfl) hr q bY (r.ds.lt g rfl).2
  have d9:=Z cx;clear cx;have ch:Hid (((d.ds.take q).flatMap dropCells).length=q*3):=by unfold Hid;rw[bR dropCells 3 (λ_=>rfl),hJ,E.o,hW (by omega)]
  have bc:Hid (((d.ds.drop q).flatMap dropCells).length=(N-q)*3):=by unfold Hid;rw[bR dropCells 3 (λ_=>rfl),hK,E.o]
  have ca:Hid (([J U b,J U f,J U n]++(d.ds.drop q).flatMap dropCells:List ib).length=(1+(N-q))*3):=by unfold Hid;rw[hI,bc.o];show 3+_=_;omega
  have c7:Hid ((insL ltRK d.ds (b,f) n).flatMap dropCells=([]++(d.ds.take q).flatMap dropCells)++([J U b,J U f,J U n]++(d.ds.drop q).flatMap dropCells)):=by unfold Hid;rw[a6.o,hP,hF];rfl
  have c9:Hid ((insL ltRK d.ds (b,f) n).length=q+(1+(N-q))):=by unfold Hid;rw[a6.o,hI,hT,hJ,hK,E.o];omega
  have cd:Hid (∀u∈(d.ds.take q).flatMap dropCells,u.oneCell'=true):=iC _;have bl:Hid (∀u∈(d.ds.drop q).flatMap dropCells,u.oneCell'=true):=iC _;have cg:Hid (∀u∈[J U b,J U f,J U n]++(d.ds.drop q).flatMap dropCells,u.oneCell'=true):=λu hu=>by
   rcases List.mem_append.1 hu with hu|hu
   .simp only[hQ,hO,or_false]at hu;rcases hu with rfl|rfl|rfl<;>rfl
   exact bl u hu
  generalize(d.ds.take q).flatMap dropCells=TK at*;generalize(d.ds.drop q).flatMap dropCells=DR at*;go_enter func42,ntmps42;go_upto_region 11 with(go_at_call 81;(refine hL ao.o ?_;rintro e t⟨rfl,y⟩;obtain⟨p1,p2,p3⟩:=M.o t y;have x:=Z y;clear y))
  clear p1 p2 p3;have aC:Bw w1 t.drew:=x.drew;refine Wb w1 999 ?_;refine Qd [0,1,4,8,2,5,6,7] aC M ?_;refine cn (i:=9) (v:=a1 (X ⟨g,b8,Y⟩) (N-q) (vc-q)) rfl (by kernel_rfl) (by kernel_rfl) (by kernel_rfl) (by rfl) (λ_ _ _ h=>h) aC (iP ⟨by rfl,?_⟩) ?_;focus (intro w' h;go_simp;rw[<- d9.o];(first|rfl|(split<;>simp_all)))
  (try go_simp)
  refine Dp 3 λK I=>?_;go_simp;obtain⟨H,a3⟩:=Qe ((t.alloc (a2 #[b,f,n] 142)).drew);have a0:Bw w1 H:=by rw[<- a3];exact(x.o.alloc x.o.size _).drew
  have bA:H.ownsRow w1 142 3 (a1 t 1 1) 1 [J U b,J U f,J U n]:=by rw[<- a3];exact hS (base:=w1.heap.size) (e:=142) (size:=3) t #[b,f,n] 1 x.o.size (by unfold maxLen;omega) rfl
  have cy:H.heap.size=t+1:=by rw[<- a3];show(t.alloc _).heap.size=_;simp
  rw[a3];refine I _ _ (λ_=>a0) ?_;clear I K;clear a3;obtain⟨b4,c4,z,c0,ay,bv,cs⟩:=bz (P:=prog) H w1 31 31 142 i0 (.agg #[J U 0,J U 0,J U 0]) 3 24 underlying31 HI.o aT.o b0.o b1.o rfl (by decide) t 1 1 [J U b,J U f,J U n] bA w1 (a1 (X ⟨g,b8,Y⟩) (N-q) (vc-q)) (N-q) DR (cj.o H a0) bc.o bl.o (by unfold maxLen;omega) (by omega) a0.size;have C:Bw w1 z:=a0.grown bv a0.size (λj A=>by injection A with A;have:=x.o.size;omega);refine Dp 10 λK I=>?_;refine ee rfl rfl rfl c0 ?_;refine I _ _ (λ_=>C) ?_;clear I K;go_simp;refine Qc [11] C ?_
  refine dN ?_;have cb:=Z ay;have dc:=Z C;have cu:b4<z:=(ay.lt b4 rfl).2;have c3:=Z (dA (B:=w1.heap.size) (e:=142) (k:=3) (w:=z.alloc (a2 #[] 142)) (hG z _) C.size);have a5:Hid (Bw w1 (z.alloc (a2 #[] 142))):=C.alloc C.size _;have b9:Hid (w1<=(z.alloc (a2 #[] 142)).heap.size):=a5.size;have ci:Hid (w1.heap.size<=z):=C.size;obtain⟨s1,_,_⟩:=M z C;have s2:(z.alloc (a2 #[] 142)).cell? ⟨p,1,Y⟩=X (a1 g N vc):=(M _ a5.o).1;clear ay bv cs a0 aC C bA c0 cy
  go_wp2_with (first
   |(at_builtin;(refine aJ _ rfl _ _ 31 rfl w1 142 i0 (.agg #[J U 0,J U 0,J U 0]) 3 24 underlying31 HI.o aT.o b0.o b1.o rfl (by decide) z 0 0 [] rfl c3.o w1 (a1 g q vc) q TK rfl (cl.o _ a5.o) ch.o cd.o (by unfold maxLen;omega) (by omega) b9.o ?_;intro b5 c5 w5 az ax _;have bs:Hid (Bw w1 w5):=a5.o.grown ax b9.o (λj A=>by injection A with A;have:=ci.o;omega);rw[hV]at az;have bd:=Z az;have cm:Hid (w5.ownsRow w1 142 3 (a1 b4 (1+(N-q)) c4) (1+(N-q)) ([J U b,J U f,J U n]++DR)):=aj cb.o (λR l=>by have l:X b4=X R:=l;injection l with l;subst l;rw[ax.block _ (by simp;omega) (λe=>by injection e with e;omega)];exact hR _ _ _ cu);have bt:Hid (w1.heap.size<=w5):=bs.o.size;clear az ax))
   |(at_builtin;(refine aJ _ rfl _ _ 31 rfl w1 142 i0 (.agg #[J U 0,J U 0,J U 0]) 3 24 underlying31 HI.o aT.o b0.o b1.o rfl (by decide) b5 q c5 ([]++TK) rfl bd.o w5 (a1 b4 (1+(N-q)) c4) (1+(N-q)) ([J U b,J U f,J U n]++DR) rfl ((aM cm.o).mono (hM _) (hH _)) ca.o cg.o (by unfold maxLen;omega) (by omega) bt.o ?_;intro O c6 L bO bw _;have aS:Bw w1 L:=bs.o.grown bw bt.o (λj A=>by injection A with A;subst A;exact(bd.o.lt _ rfl).1);have bk:=Z bO;have a8:=(aS.block p (r.o.lt p r.o.fp)).trans r.o.blk;have y1:=(ab a8 1).trans rfl;have z1:=ae a8 1;have da:=Z a8;have au:=Z aS;clear bO bw a8 aS)))
  go_ret;rw[a4.o];refine⟨rfl,?_⟩;have av:=r.below au.o;have cp:w.heap.size<=w1:=ac.size;have dk:w1.heap.size<=L:=au.size;have b7:L.ownsRow 0 142 3 (a1 O (q+(1+(N-q))) c6) (insL ltRK d.ds (b,f) n).length ((insL ltRK d.ds (b,f) n).flatMap dropCells):=by rw[c7.o,c9.o];exact aD bk.o (hM _)
  have cv:=bk.lt O rfl;have a7:O≠p:=λe=>by have:=r.o.lt p r.o.fp;omega
  refine⟨λk=>F k∨(w<=k/\k<L),⟨v1,_,v3,xs,av.put2 (w':=L.setCell ⟨p,1,Y⟩ _) (vN:=a1 O (q+(1+(N-q))) c6) (λk s=>.inl s) (λk s=>?_) (λk _ a7 _=>hC _ _ _ _ a7) ((aA av.blk 1 _).trans rfl) (aj b7 (λR l=>by have l:X O=X R:=l;injection l with l;subst l;exact hC _ _ _ _ a7)) (λR l=>?_) (by rw[hy];exact hH _) (cc.o G.o)⟩,?_⟩
  .rw[hy];rcases s with s|s
   .exact av.lt k s
   exact s.2
  .have l:X O=X R:=l;injection l with l
   subst l;exact⟨.inr ⟨by omega,cv.2⟩,.inr (λT=>by have:=cz.o _ T;omega)⟩
  have D:Bw w L:=ac.trans (au.mono cp);exact((ai.of_below D).trans (ai.of_only (aF.setCell (aF.refl p L) 1 _) r.fp)).more λk s=>by
   rcases s with s|s
   .exact .inl s
   exact .inr s.1
end
section
open Go.RowKit Go.Maps Go.Shelf
theorem CX:(prog.info? 64).map (λi=>(i.zero,i.size,i.bytes))=X (X (.agg #[J U 0,J U 0,J U 0,J hk 0,J hk 0,a1 Y 0 0]),6,56):=by kernel_rfl
theorem jt(l:List (RK×VX))(h:∀p∈l,p.2.2.oneCell'=true):∀u∈l.flatMap verCells,u.oneCell'=true:=by
 intro u b;obtain⟨p,c,b⟩:=List.mem_flatMap.1 b;simp only[verCells,hQ,hO,or_false]at b;rcases b with rfl|rfl|rfl|rfl|rfl|rfl<;>first|rfl|exact h p c
theorem uL{lo d:Nat}{w:ih}{x:ib}{b:List ag}(h:ah lo d w x b):x.oneCell'=true:=by
 obtain⟨a,c,rfl⟩:=h.shape;rfl
theorem oK{α:Type}(enc:α->List ib)(n:Nat)(hn:∀x,(enc x).length=n)(b:List α)(q:Nat)(c:q<b)(y:α):(b.flatMap enc).take (q*n)++enc y++(b.flatMap enc).drop (q*n+n)=(b.set q y).flatMap enc:=by
 rw[List.set_eq_take_append_cons_drop,if_pos c,hP,hF,kC enc n hn,kE enc n hn,it,List.append_assoc]
theorem AY{W:ih}{g N c:Nat}{b:List (RK×VX)}(h:W.ownsRow 0 64 6 (a1 g N c) N (b.flatMap verCells))(i:b=N)(q:Nat)(e:q<N)(y:RK×VX):
 ((((((W.setCell ⟨g,q*6,Y⟩ y.1.1).setCell ⟨g,q*6+1,Y⟩ y.1.2).setCell ⟨g,q*6+2,Y⟩ y.2.1.1).setCell ⟨g,q*6+3,Y⟩ (J hk y.2.1.2.kind)).setCell ⟨g,q*6+4,Y⟩ (J hk y.2.1.2.level)).setCell ⟨g,q*6+5,Y⟩ y.2.2).ownsRow 0 64 6 (a1 g N c) N ((b.set q y).flatMap verCells)/\
   aF g W ((((((W.setCell ⟨g,q*6,Y⟩ y.1.1).setCell ⟨g,q*6+1,Y⟩ y.1.2).setCell ⟨g,q*6+2,Y⟩ y.2.1.1).setCell ⟨g,q*6+3,Y⟩ (J hk y.2.1.2.kind)).setCell ⟨g,q*6+4,Y⟩ (J hk y.2.1.2.level)).setCell ⟨g,q*6+5,Y⟩ y.2.2):=by
 have d:(b.flatMap verCells).length=N*6:=h.1;have f:(q+1)*6<=N*6:=iv 6 e;have:=dg (verCells y) (q*6) W _ h (by rw[d];show q*6+6<=_;omega);rw[show q*6+(verCells y).length=q*6+6 from rfl,oK verCells 6 (λ_=>rfl) b q (by omega) y]at this;exact this
theorem ub{W:ih}{p lo b:Nat}{vN d e:ib}{c:Nat->Prop}{k:RK}{n:Int}{r:aG}{x:ib}(h:ah lo b W x r.fields)(g:b<=W)(f:∀q,lo<=q->q<b->c q/\q≠p/\vN.ownBlock≠X q/\d.ownBlock≠X q/\e.ownBlock≠X q):dL (restM c p vN d e) W (k,((n,r),x)):=
 ⟨lo,b,h,g,f⟩
theorem Cz{b:List (RK×VX)}{d:aB}(h:b.map (λp=>(p.1,p.2.1))=d.vs)(k:RK)(v:Int×aG)(x:ib):(insL ltRK b k (v,x)).map (λp=>(p.1,p.2.1))=insL ltRK d.vs k v:=by
 rw[<- h];exact vQ ltRK (λp:VX=>p.1) b k (v,x)
theorem CL(F:Nat->Prop)(w0 w:ih)(p:Nat)(d:aB)(hm:bX F w0 p d)(cl:Bw w0 w)(k:RK)(n:Int)(f lv:UInt8)(b:List ag)(x:ib)(hx:ah w0 w w x b)(bw:br b)(E:rkOk k)(hn:i64B n):
 iF prog 46 #[.pointer p,li k n ⟨f,lv,b⟩ x] w λe w'=>e=fn (J U (putC d k n ⟨f,lv,b⟩).2)/\∃F',bX F' w' p (putC d k n ⟨f,lv,b⟩).1/\ai F w0 F' w':=by
 obtain⟨v1,v2,v3,t,h⟩:=hm;have aa:=Z h.lt;obtain⟨A,C,rfl⟩:=hx.shape;obtain⟨l,s⟩:=k;obtain⟨w1,ca⟩:=Qe (w.alloc (a2 #[l,s,n,J hk f,J hk lv,a1 A b C] 64));have d2:Bw w w1:=by rw[<- ca];exact(hX _ w).alloc (hH _) _
 have R:=hG w (a2 #[l,s,n,J hk f,J hk lv,a1 A b C] 64);rw[ca]at R;have HK:=Z R;have D:=Z ((h.below cl).below d2);have b9:Hid (Bw w0 w1):=cl.trans (d2.mono cl.size);have cz:w1.heap.size=w+1:=by rw[<- ca];simp
 have ay:=Z cz;have bb:Hid (w0.heap.size<=w):=cl.size;have HX:Hid (ah w0 w w1 (a1 A b C) b):=hx.kept (λq _ M=>d2.block q M);have g4:=Z ca;have bd:Hid (iF prog 85 #[.agg #[J hk f,J hk lv,a1 A b C]] (w.alloc (a2 #[l,s,n,J hk f,J hk lv,a1 A b C] 64)) λe w'=>e=fn (hb (decide (wrongR ⟨f,lv,b⟩=0)))/\Bw w1 w'):=by unfold Hid;rw[ca];exact yX ⟨f,lv,b⟩ _ w1 ⟨_,rfl,HX.o.mono (hM _) (by omega)⟩ bw
 have bA:Hid (∀W,Bw w1 W->(W.cell? w=X (J U l)/\W.cell? ⟨w,1,Y⟩=X (J U s)/\W.cell? ⟨w,2,Y⟩=X (J U n)/\W.cell? ⟨w,3,Y⟩=X (J hk f)/\W.cell? ⟨w,4,Y⟩=X (J hk lv)/\W.cell? ⟨w,5,Y⟩=X (a1 A b C))):=λW H=>
  lr ((H.block _ (by omega)).trans R)
 have g3:=Z bw;clear d2 cz ca R cl hx bw;unfold li;dsimp only;by_cases hr:wrongR ⟨f,lv,b⟩=0;rotate_left
 .have a7:Hid (putC d (l,s) n ⟨f,lv,b⟩=(d,11)):=by unfold Hid putC;rw[if_pos hr]
  rw[decide_eq_false hr]at bd;clear hr;go_enter func46,ntmps46;go_wp2_with (go_at_call 85;(refine hL bd.o ?_;rintro e w2⟨rfl,a6⟩;have a4:=Z a6;clear a6))
  go_ret;rw[a7.o];exact⟨rfl,F,⟨_,_,_,_,D.o.below a4.o⟩,ai.of_below (b9.o.trans (a4.o.mono (by have:=bb.o;have:=ay.o;omega)))⟩
 rw[decide_eq_true hr]at bd;have dd:Hid (putX d (l,s) n ⟨f,lv,b⟩=0->bp {d with vs:=insL ltRK d.vs (l,s) (n,⟨f,lv,b⟩)}):=λhx=>h.ok.put E hn hr hx;have bB:=Z (put_eq d (l,s) n ⟨f,lv,b⟩ hr);have b8:Hid (∀W,Bw w1 W->iF prog 86 #[.pointer p,.agg #[l,s]] W λe w'=>e=fn (.tuple #[(placeK ltRK t (l,s)),hb (findK t (l,s)).isSome])/\Bw W w'):=λW H=>tG F W p v1 v2 v3 t d (D.below H) (l,s);have cv:=gW (lt:=ltRK) t (l,s);have eq:=h.lx;have fr:=Z h.len;have ft:=Z h.vx;have c3:findK d.vs (l,s)=(findK t (l,s)).map (·.1):=by rw[<- h.vx];exact sK t (l,s)
 have c1:=Z (Cz h.vx (l,s) (n,(⟨f,lv,b⟩:aG)) (a1 A b C));clear hr;cases hf:findK t (l,s)with
 |some m=>
  obtain⟨⟨O,az,aC,a8⟩,x'⟩:=m;obtain⟨M,he⟩:=lG aY h.sx hf;have ad:=Z (qj aY h.sx hf ((n,(⟨f,lv,b⟩:aG)),a1 A b C));have e6:((l,s),((O,(⟨az,aC,a8⟩:aG)),x'))∈t:=by rw[<- he];exact List.getElem_mem M
  obtain⟨gn,g8,c7,em,_⟩:=D.fx _ e6;dsimp only at c7;obtain⟨d4,d5,rfl⟩:=c7.shape;have f4:Hid (ah 0 w1 w1 (a1 d4 a8 d5) a8):=c7.mono (hM _) em;have fc:Hid (br a8):=by
   have g1:((l,s),(O,(⟨az,aC,a8⟩:aG)))∈d.vs:=by rw[<- ft.o];exact List.mem_map.2 ⟨_,e6,rfl⟩
   exact(eC (h.ok.right _ g1)).2.2
  obtain⟨g,c,hv,hg,hc⟩:=bT (enc:=verCells) (λ_=>rfl) D.vs _ M;rw[he]at hc;rw[hf]at c3;have ax:Hid (putX d (l,s) n ⟨f,lv,b⟩=bh true (decide (O=n)&&decide ((⟨az,aC,a8⟩:aG)=⟨f,lv,b⟩)) O n d.vs):=by unfold Hid putX;rw[c3];rfl
  rw[hf]at b8;obtain⟨q,c9⟩:=Qe (placeK ltRK t (l,s));rw[c9]at b8 M hc ad;have HE:Hid (∃M:q<t,t[q]=((l,s),((O,(⟨az,aC,a8⟩:aG)),a1 d4 a8 d5))):=by subst c9;exact⟨M,he⟩
  have HC:=Z hc;obtain⟨N,hN⟩:=Qe t.length;rw[hN]at hv M eq;have HN:=Z hN;subst hv;have g9:(q:Int)<(N:Int):=by omega
  have aT:Hid (∀W,Bw w1 W->W.cell? p=X (a1 g N c)/\W.cell? ⟨g,q*6+2,Y⟩=X (J U O)/\W.cell? ⟨g,q*6+3,Y⟩=X (J hk az)/\W.cell? ⟨g,q*6+4,Y⟩=X (J hk aC)/\W.cell? ⟨g,q*6+5,Y⟩=X (a1 d4 a8 d5)):=λW H=>
   ⟨(ab ((H.block _ (D.lt p D.fp)).trans D.blk) 0).trans rfl,((aq H).1 g _ hg).trans (HC 2 _ rfl),((aq H).1 g _ hg).trans (HC 3 _ rfl),((aq H).1 g _ hg).trans (HC 4 _ rfl),((aq H).1 g _ hg).trans (HC 5 _ rfl)⟩
  have e8:Hid (∀W,Bw w1 W->iF prog 87 #[.agg #[J hk az,J hk aC,a1 d4 a8 d5],.agg #[J hk f,J hk lv,a1 A b C]] W λe w'=>e=fn (hb (sameR ⟨az,aC,a8⟩ ⟨f,lv,b⟩))/\Bw W w'):=λW H=>
   AO az aC f lv a8 b _ _ W ((f4.o.kept (λq _ M=>H.block q M)).mono (hH _) H.size) ((HX.o.kept (λq _ M=>H.block q (by have:=ay.o;omega))).mono (hM _) (by have:=H.size;have:=ay.o;omega)) fc.o
  obtain⟨sm,bw⟩:=Qe (sameR ⟨az,aC,a8⟩ ⟨f,lv,b⟩);rw[bw]at e8;have fl:Hid (decide ((⟨az,aC,a8⟩:aG)=⟨f,lv,b⟩)=sm):=by unfold Hid;rw[<- bw,Bool.eq_iff_iff,decide_eq_true_eq,oh]
  rw[fl.o]at ax;clear hc he c9 hN hf cv h M c3 e6 c7 em bw;have al:=Z (λW H=>(⟨aT W H,bA W H⟩:_/\_));go_enter func46,ntmps46
  go_upto_region 6 with(first
   |(go_at_call 85;((with_reducible refine hL bd.o ?_);rintro e w2⟨rfl,a6⟩;obtain⟨t0,t1,t2,t3,t4,t5⟩:=bA.o w2 a6;have a4:=Z a6;clear a6))
   |(go_at_call 86;((with_reducible refine hL (b8.o _ a4.o) ?_);rintro e w3⟨rfl,av⟩;have a0:Hid (Bw w1 w3):=a4.o.trans (av.mono a4.o.size);clear av t0 t1 t2 t3 t4 t5)))
  have a3:Bw w1 w3.drew:=a0.drew;refine Wb w1 999 ?_;refine Qd [0,4,8,1,9,2,3,5,6,7] a3 al ?_;refine Dp 10 λK R=>?_;go_simp;go_at_call 87;refine(e8 _ a3).mono ?_;rintro e L⟨rfl,c2⟩;have T:Bw w1 L:=a3.trans (c2.mono a3.size);refine R _ _ (λ_=>T) ?_;clear R K;refine Qc [11] T ?_
  refine dN ?_;have ao:=Z T;clear c2 T a3;have b7:Bw w1 L.drew:=ao.drew;rcases iD O n with cs|cs|cs;rotate_left
  .subst cs;have f1:(O==O)=true:=by simp
   have f3:O<=O:=Int.le_refl _;cases sm
   .have a5:Hid (putX d (l,s) O ⟨f,lv,b⟩=30):=by unfold Hid;rw[ax.o,decide_eq_true rfl];unfold bh;simp
    have a7:Hid (putC d (l,s) O ⟨f,lv,b⟩=(d,30)):=by unfold Hid;rw[bB.o,if_neg (by rw[a5.o];decide),a5.o]
    go_wp2_with fail;refine Wb w1 999 ?_;refine Qd [0,1,2,3,4,5,6,7,8,9,10,11,12,13] b7 al ?_;refine dN ?_;go_wp2_with fail;have a9:Bw w1 L.drew.drew:=ao.drew.drew;refine Wb w1 999 ?_;refine Qd [0,1,2,3,4,5,6,7,8,9,10] a9 al ?_;refine dN ?_;go_wp2_with fail;go_ret;rw[a7.o];exact⟨rfl,F,⟨_,_,_,_,D.o.below ao.o.drew.drew⟩,ai.of_below (b9.o.trans (ao.o.drew.drew.mono (by have:=bb.o;have:=ay.o;omega)))⟩
   have a5:Hid (putX d (l,s) O ⟨f,lv,b⟩=22):=by unfold Hid;rw[ax.o,decide_eq_true rfl];rfl
   have a7:Hid (putC d (l,s) O ⟨f,lv,b⟩=(d,22)):=by unfold Hid;rw[bB.o,if_neg (by rw[a5.o];decide),a5.o]
   go_wp2_with fail;refine Wb w1 999 ?_;refine Qd [0,1,2,3,4,5,6,7,8,9,10,11,12,13] b7 al ?_;refine dN ?_;go_wp2_with fail;go_ret;rw[a7.o];exact⟨rfl,F,⟨_,_,_,_,D.o.below ao.o.drew⟩,ai.of_below (b9.o.trans (ao.o.drew.mono (by have:=bb.o;have:=ay.o;omega)))⟩
  .have a5:Hid (putX d (l,s) n ⟨f,lv,b⟩=30):=by unfold Hid;rw[ax.o,decide_eq_false (show O≠n by omega)];unfold bh;simp;omega
   have a7:Hid (putC d (l,s) n ⟨f,lv,b⟩=(d,30)):=by unfold Hid;rw[bB.o,if_neg (by rw[a5.o];decide),a5.o]
   have f1:(O==n)=false:=by simp;omega
   have f2:¬(O=n):=by omega
   have f3:n<=O:=by omega
   clear cs;go_wp2_with fail;refine Wb w1 999 ?_;refine Qd [0,1,2,3,4,5,6,7,8,9,10,11] b7 al ?_;refine tfS 12 rfl b7 ?_;(try go_simp)
   refine Qc [13] b7 ?_
   refine dN ?_;go_wp2_with fail;have a9:Bw w1 L.drew.drew:=ao.drew.drew;refine Wb w1 999 ?_;refine Qd [0,1,2,3,4,5,6,7,8,9,10] a9 al ?_;refine dN ?_;go_wp2_with fail;go_ret;rw[a7.o];exact⟨rfl,F,⟨_,_,_,_,D.o.below ao.o.drew.drew⟩,ai.of_below (b9.o.trans (ao.o.drew.drew.mono (by have:=bb.o;have:=ay.o;omega)))⟩
  have a5:Hid (putX d (l,s) n ⟨f,lv,b⟩=0):=by unfold Hid;rw[ax.o,decide_eq_false (show O≠n by omega)];unfold bh;simp;omega
  have a7:Hid (putC d (l,s) n ⟨f,lv,b⟩=({d with vs:=insL ltRK d.vs (l,s) (n,⟨f,lv,b⟩)},0)):=by unfold Hid;rw[bB.o,if_pos a5.o]
  have f1:(O==n)=false:=by simp;omega
  have f2:¬(O=n):=by omega
  have f3:¬(n<=O):=by omega
  clear cs;go_wp2_with fail;refine Wb w1 999 ?_;refine Qd [0,1,2,3,4,5,6,7,8,9,10,11] b7 al ?_;refine tfS 12 rfl b7 ?_;(try go_simp)
  refine Qc [13] b7 ?_
  refine dN ?_;go_wp2_with fail;have a9:Bw w1 L.drew.drew:=ao.drew.drew;refine Wb w1 999 ?_;refine Qd [0,1,2,3,4,5,6,7,8,9,10] a9 al ?_;refine dN ?_;go_wp2_with fail;have bc:Bw w1 L.drew.drew.drew:=ao.drew.drew.drew;refine Wb w1 7 ?_;refine Qb [0,4,5,1,2,3,6] bc al ?_;obtain⟨W5,eb⟩:=Qe L.drew.drew.drew;rw[eb]at bc ⊢;have cQ:=Z bc;have ac:=(D.below bc).vs;rw[HN.o]at ac;have f9:=Z ac;have z0:=ac.frozenAt (q*6);have z1:=ac.frozenAt (q*6+1);have z2:=ac.frozenAt (q*6+2);have z3:=ac.frozenAt (q*6+3);have z4:=ac.frozenAt (q*6+4);have z5:=ac.frozenAt (q*6+5);have y0:W5.cell? ⟨g,q*6,Y⟩=X (J U l):=((aq bc).1 g _ hg).trans (HC 0 _ rfl);have y1:W5.cell? ⟨g,q*6+1,Y⟩=X (J U s):=((aq bc).1 g _ hg).trans (HC 1 _ rfl);obtain⟨s0,s2,s3,s4,s5⟩:=aT W5 bc;clear eb ac bc b7 a9;refine Dl 7 ?_;obtain⟨cy,d3⟩:=AY f9.o HN.o q (by omega) ((l,s),((n,(⟨f,lv,b⟩:aG)),a1 A b C));rw[<- ad.o]at cy;dsimp only at cy d3;obtain⟨W6,d1⟩:=Qe (((((((W5.setCell ⟨g,q*6,Y⟩ l).setCell ⟨g,q*6+1,Y⟩ s).setCell ⟨g,q*6+2,Y⟩ n).setCell ⟨g,q*6+3,Y⟩ (J hk f)).setCell ⟨g,q*6+4,Y⟩ (J hk lv)).setCell ⟨g,q*6+5,Y⟩ (a1 A b C)));rw[d1]at cy d3 ⊢;have fb:=Z cy;have au:=Z d3;clear d1 cy d3 s0 s2 s3 s4 s5 z0 z1 z2 z3 z4 z5 y0 y1;go_wp2_with fail;go_ret;rw[a7.o];refine⟨rfl,?_⟩;have d0:=D.below cQ.o;have g0:N=(insL ltRK t (l,s) ((n,(⟨f,lv,b⟩:aG)),a1 A b C)).length:=by rw[ad.o,iN,HN.o]
  have eg:=D.f1 g rfl;have fz:g≠p:=eO D.vs D.blk (by decide) rfl;have gi:W6.heap.size=W5:=au.size;have gf:=cQ.size;have f0:=bb.o;have cz:=ay.o;refine⟨λk=>F k∨(w0<=k/\k<W6),⟨a1 g N c,v2,v3,insL ltRK t (l,s) ((n,(⟨f,lv,b⟩:aG)),a1 A b C),?_⟩,?_⟩
  .rw[<- c1.o];refine d0.put1 (vN:=a1 g N c) (λk E=>.inl E) (λk E=>?_) (λk _ _ b2=>au.o.block k (λe=>b2 (by rw[e];rfl))) ((au.o.block p (Ne.symm fz)).trans d0.blk) (g0▸fb.o) (λg' G=>⟨.inl (d0.f1 g' G),.inl G⟩) (by omega) (by rw[c1.o];exact dd.o a5.o) (λy I=>?_)
   .rcases E with E|E
    .have:=d0.lt k E;omega
    exact E.2
   rw[ad.o]at I;rcases List.mem_or_eq_of_mem_set I with I|rfl
   .exact .inl I
   refine .inr (ub (r:=⟨f,lv,b⟩) ((HX.o.kept (λq _ M=>cQ.o.block q (by omega))).kept (λq h1 _=>au.o.block q (λe=>by have:=aa.o g eg;omega))) (by omega) λq h1 h2=>⟨.inr ⟨h1,by omega⟩,λe=>by have:=aa.o p D.o.fp;omega,λe=>by have:=aa.o q (D.o.f1 q e);omega,λe=>by have:=aa.o q (D.o.f2 q e);omega,λe=>by have:=aa.o q (D.o.f3 q e);omega⟩)
  have H:Bw w0 W5:=b9.o.trans (cQ.o.mono (by omega));exact((ai.of_below H).trans (ai.of_only au.o eg)).more λk E=>by
   rcases E with E|E
   .exact .inl E
   exact .inr E.1
 |none=>
  have ad:=Z (ql aY h.sx hf ((n,(⟨f,lv,b⟩:aG)),a1 A b C));rw[hf]at c3;have ax:Hid (putX d (l,s) n ⟨f,lv,b⟩=if 5000<=d.vs.length then 2 else 0):=by unfold Hid putX;rw[c3];show bh false _ _ _ _=_;unfold bh;simp
  rw[<- fr.o]at ax;rw[hf]at b8;obtain⟨q,c9⟩:=Qe (placeK ltRK t (l,s));rw[c9]at b8 cv ad;obtain⟨N,hN⟩:=Qe t.length;rw[hN]at eq cv ax;have HN:=Z hN;obtain⟨va,vc,hv⟩:=aQ h.vs;rw[hN]at hv;subst hv;have aT:Hid (∀W,Bw w1 W->W.cell? p=X (a1 va N vc)):=λW H=>(ab ((H.block _ (D.lt p D.fp)).trans D.blk) 0).trans rfl;have al:=Z (λW H=>(⟨aT W H,bA W H⟩:_/\_));have cP:Hid (∀q∈t,q.2.2.oneCell'=true):=λq M=>by obtain⟨_,_,c7,_⟩:=D.fx q M;exact uL c7
  clear c9 hN hf h c3;by_cases h5:5000<=N
  .have a5:Hid (putX d (l,s) n ⟨f,lv,b⟩=2):=by unfold Hid;rw[ax.o,if_pos h5]
   have a7:Hid (putC d (l,s) n ⟨f,lv,b⟩=(d,2)):=by unfold Hid;rw[bB.o,if_neg (by rw[a5.o];decide),a5.o]
   have fy:(5000:Int)<=(N:Int):=by omega
   go_enter func46,ntmps46
   go_wp2_with (first
    |(go_at_call 85;((with_reducible refine hL bd.o ?_);rintro e w2⟨rfl,a6⟩;obtain⟨t0,t1,t2,t3,t4,t5⟩:=bA.o w2 a6;have a4:=Z a6;clear a6))
    |(go_at_call 86;((with_reducible refine hL (b8.o _ a4.o) ?_);rintro e w3⟨rfl,av⟩;have a0:Hid (Bw w1 w3):=a4.o.trans (av.mono a4.o.size);have s0:=aT.o w3 a0.o;clear av t0 t1 t2 t3 t4 t5)))
   go_ret;rw[a7.o];exact⟨rfl,F,⟨_,_,_,_,D.o.below a0.o⟩,ai.of_below (b9.o.trans (a0.o.mono (by have:=bb.o;have:=ay.o;omega)))⟩
  have a5:Hid (putX d (l,s) n ⟨f,lv,b⟩=0):=by unfold Hid;rw[ax.o,if_neg h5]
  have a7:Hid (putC d (l,s) n ⟨f,lv,b⟩=({d with vs:=insL ltRK d.vs (l,s) (n,⟨f,lv,b⟩)},0)):=by unfold Hid;rw[bB.o,if_pos a5.o]
  have fy:¬((5000:Int)<=(N:Int)):=by omega
  have gd:(q:Int)<=(N:Int):=by omega
  obtain⟨i0,hi,es,ex,eQ⟩:=info_parts CX;have HI:=Z hi;have bO:=Z es;have bY:=Z ex;have c0:=Z eQ;clear hi es ex eQ;rcases D.vs.2 with⟨hv,er⟩|⟨g,g5,g6,hv,_,_,e9,_⟩
  .injection hv with e1 e2 e3
   subst e1 e3;rw[HN.o]at er;subst er;obtain rfl:q=0:=by omega
   have dy:Hid (∀W,Bw w1 W->aL 0 w1 W (a1 Y 0 0) 0 ((t.drop 0).flatMap verCells)):=λW H=>by have:t=[]:=hY HN.o;rw[this];exact⟨Y,0,rfl,λh=>absurd rfl h⟩
   have dz:Hid (∀W,Bw w1 W->aL 0 w1 W (a1 Y 0 0) 0 ((t.take 0).flatMap verCells)):=λW H=>⟨Y,0,rfl,λh=>absurd rfl h⟩;clear e2;have ds:Hid (((t.take 0).flatMap verCells).length=0*6):=by unfold Hid;rw[bR verCells 6 (λ_=>rfl),hJ,HN.o,hW (by omega)]
   have cd:Hid (((t.drop 0).flatMap verCells).length=(0)*6):=by unfold Hid;rw[bR verCells 6 (λ_=>rfl),hK,HN.o]
   have d9:Hid (([J U l,J U s,J U n,J hk f,J hk lv,a1 A b C]++(t.drop 0).flatMap verCells:List ib).length=(1+(0))*6):=by unfold Hid;rw[hI,cd.o];show 6+_=_;omega
   have d7:Hid ((insL ltRK t (l,s) ((n,(⟨f,lv,b⟩:aG)),a1 A b C)).flatMap verCells=([]++(t.take 0).flatMap verCells)++([J U l,J U s,J U n,J hk f,J hk lv,a1 A b C]++(t.drop 0).flatMap verCells)):=by unfold Hid;rw[ad.o,hP,hF];rfl
   have d8:Hid ((insL ltRK t (l,s) ((n,(⟨f,lv,b⟩:aG)),a1 A b C)).length=0+(1+(0))):=by unfold Hid;rw[ad.o,hI,hT,hJ,hK,HN.o];omega
   have dk:Hid (∀u∈(t.take 0).flatMap verCells,u.oneCell'=true):=jt _ λq M=>cP q (hZ M);have ch:Hid (∀u∈(t.drop 0).flatMap verCells,u.oneCell'=true):=jt _ λq M=>cP q (ia M);have dq:Hid (∀u∈[J U l,J U s,J U n,J hk f,J hk lv,a1 A b C]++(t.drop 0).flatMap verCells,u.oneCell'=true):=λu hu=>by
    rcases List.mem_append.1 hu with hu|hu
    .simp only[hQ,hO,or_false]at hu;rcases hu with rfl|rfl|rfl|rfl|rfl|rfl<;>rfl
    exact ch u hu
   have da:Hid (∀y∈insL ltRK t (l,s) ((n,(⟨f,lv,b⟩:aG)),a1 A b C),y∈t∨y=((l,s),((n,(⟨f,lv,b⟩:aG)),a1 A b C))):=λy I=>by
    rw[ad.o]at I;rcases List.mem_append.1 I with I|I
    .exact .inl (hZ I)
    rcases List.mem_cons.1 I with I|I
    .exact .inr I
    exact .inl (ia I)
   generalize(t.take 0).flatMap verCells=TK at*;generalize(t.drop 0).flatMap verCells=DR at*;go_enter func46,ntmps46
   go_upto_region 15 with(first
    |(go_at_call 85;((with_reducible refine hL bd.o ?_);rintro e w2⟨rfl,a6⟩;obtain⟨t0,t1,t2,t3,t4,t5⟩:=bA.o w2 a6;have a4:=Z a6;clear a6))
    |(go_at_call 86;((with_reducible refine hL (b8.o _ a4.o) ?_);rintro e w3⟨rfl,av⟩;have a0:Hid (Bw w1 w3):=a4.o.trans (av.mono a4.o.size);have s0:=aT.o w3 a0.o;clear av t0 t1 t2 t3 t4 t5)))
   clear s0;have bv:Bw w1 w3.drew:=a0.drew;refine Wb w1 999 ?_;refine Qd [0,2,6,3,4,5] bv al ?_;refine cn (i:=7) (v:=a1 Y 0 0) rfl (by kernel_rfl) (by kernel_rfl) (by kernel_rfl) (by rfl) (λ_ _ _ h=>h) bv (iP ⟨by rfl,?_⟩) ?_;focus (intro w' h;(first|(go_simp;done)|(go_simp;rfl)))
   (try go_simp)
   refine Dp 1 λK R=>?_;go_simp;obtain⟨W3,b1⟩:=Qe ((w3.alloc (a2 #[l,s,n,J hk f,J hk lv,a1 A b C] 64)).drew);have a3:Bw w1 W3:=by rw[<- b1];exact(a0.o.alloc a0.o.size _).drew
   have cq:W3.ownsRow w1 64 6 (a1 w3 1 1) 1 [J U l,J U s,J U n,J hk f,J hk lv,a1 A b C]:=by rw[<- b1];exact hS (base:=w1.heap.size) (e:=64) (size:=6) w3 #[l,s,n,J hk f,J hk lv,a1 A b C] 1 a0.o.size (by unfold maxLen;omega) rfl
   rw[b1];refine R _ _ (λ_=>a3) ?_;clear R K;clear b1;obtain⟨b4,c4,L,cx,bs,cm,c2⟩:=bz (P:=prog) W3 w1 30 30 64 i0 (.agg #[J U 0,J U 0,J U 0,J hk 0,J hk 0,a1 Y 0 0]) 6 56 underlying30 HI.o bO.o bY.o c0.o rfl (by decide) w3 1 1 [J U l,J U s,J U n,J hk f,J hk lv,a1 A b C] cq w1 (a1 Y 0 0) (0) DR (dy.o W3 a3) cd.o ch.o (by unfold maxLen;omega) (by omega) a3.size;have T:Bw w1 L:=a3.grown cm a3.size (λj ej=>by injection ej with ej;have:=a0.o.size;omega);refine Dp 8 λK R=>?_;refine ee rfl rfl rfl cx ?_;refine R _ _ (λ_=>T) ?_;clear R K;go_simp;refine Qc [9] T ?_
   refine dN ?_;have dc:=Z bs;have f8:=Z T;have e4:b4<L:=(bs.lt b4 rfl).2;have d6:=Z (dA (B:=w1.heap.size) (e:=64) (k:=6) (w:=L.alloc (a2 #[] 64)) (hG L _) T.size);have aS:Hid (Bw w1 (L.alloc (a2 #[] 64))):=T.alloc T.size _;have cc:Hid (w1<=(L.alloc (a2 #[] 64)).heap.size):=aS.size;have dx:Hid (w1.heap.size<=L):=T.size;have s2:(L.alloc (a2 #[] 64)).cell? p=X (a1 Y 0 0):=aT _ aS.o;clear bs cm c2 a3 bv T cq cx
   go_wp2_with (first
    |(at_builtin;refine aJ _ rfl _ _ 30 rfl w1 64 i0 (.agg #[J U 0,J U 0,J U 0,J hk 0,J hk 0,a1 Y 0 0]) 6 56 underlying30 HI.o bO.o bY.o c0.o rfl (by decide) L 0 0 [] rfl d6.o w1 (a1 Y 0 0) 0 TK rfl (dz.o _ aS.o) ds.o dk.o (by unfold maxLen;omega) (by omega) cc.o ?_;intro b5 c5 w5 bt bl _;have ci:Hid (Bw w1 w5):=aS.o.grown bl cc.o (λj ej=>by injection ej with ej;have:=dx.o;omega);rw[hV]at bt;have cg:=Z bt;have e0:Hid (w5.ownsRow w1 64 6 (a1 b4 (1+(0)) c4) (1+(0)) ([J U l,J U s,J U n,J hk f,J hk lv,a1 A b C]++DR)):=aj dc.o (λg' G=>by have G:X b4=X g':=G;injection G with G;subst G;rw[bl.block _ (by simp;omega) (λe=>by injection e with e;omega)];exact hR _ _ _ e4);have cj:Hid (w1.heap.size<=w5):=ci.o.size;clear bt bl)
    |(at_builtin;refine aJ _ rfl _ _ 30 rfl w1 64 i0 (.agg #[J U 0,J U 0,J U 0,J hk 0,J hk 0,a1 Y 0 0]) 6 56 underlying30 HI.o bO.o bY.o c0.o rfl (by decide) b5 0 c5 ([]++TK) rfl cg.o w5 (a1 b4 (1+(0)) c4) (1+(0)) ([J U l,J U s,J U n,J hk f,J hk lv,a1 A b C]++DR) rfl ((aM e0.o).mono (hM _) (hH _)) d9.o dq.o (by unfold maxLen;omega) (by omega) cj.o ?_;intro b6 c6 w6 cu cp _;have a9:Bw w1 w6:=ci.o.grown cp cj.o (λj ej=>by injection ej with ej;subst ej;exact(cg.o.lt _ rfl).1);have au:=Z cu;have b3:=(a9.block p (D.o.lt p D.o.fp)).trans D.o.blk;have y1:=(ab b3 0).trans rfl;have z1:=ae b3 0;have f7:=Z b3;have b0:=Z a9;clear cu cp b3 a9))
   go_ret;rw[a7.o];refine⟨rfl,?_⟩;have bk:=D.below b0.o;have f0:=bb.o;have cz:=ay.o;have d1:w1.heap.size<=w6:=b0.size;have ac:w6.ownsRow 0 64 6 (a1 b6 (0+(1+(0))) c6) (insL ltRK t (l,s) ((n,(⟨f,lv,b⟩:aG)),a1 A b C)).length ((insL ltRK t (l,s) ((n,(⟨f,lv,b⟩:aG)),a1 A b C)).flatMap verCells):=by rw[d7.o,d8.o];exact aD au.o (hM _)
   have e5:=au.lt b6 rfl;have g2:=aa p D.fp;have b2:b6≠p:=λe=>by omega
   refine⟨λk=>F k∨(w0<=k/\k<w6),⟨a1 b6 (0+(1+(0))) c6,v2,v3,insL ltRK t (l,s) ((n,(⟨f,lv,b⟩:aG)),a1 A b C),?_⟩,?_⟩
   .rw[<- c1.o];refine bk.put1 (w':=w6.setCell p _) (vN:=a1 b6 (0+(1+(0))) c6) (λk E=>.inl E) (λk E=>?_) (λk _ b2 _=>hC _ _ _ _ b2) ((aA bk.blk 0 _).trans rfl) (aj ac (λg' G=>by have G:X b6=X g':=G;injection G with G;subst G;exact hC _ _ _ _ b2)) (λg' G=>?_) (by rw[hy];exact hH _) (by rw[c1.o];exact dd.o a5.o) (λy I=>?_)
    .rw[hy];rcases E with E|E
     .exact bk.lt k E
     exact E.2
    .have G:X b6=X g':=G;injection G with G
     subst G;exact⟨.inr ⟨by omega,e5.2⟩,.inr (λhf=>by have:=aa.o _ hf;omega)⟩
    rcases da.o y I with I|rfl
    .exact .inl I
    refine .inr (ub (r:=⟨f,lv,b⟩) ((HX.o.kept (λq _ M=>b0.o.block q (by omega))).kept (λq h1 _=>hC _ _ _ _ (λ(e:q=p)=>by omega))) (by rw[hy];omega) λq h1 h2=>⟨.inr ⟨h1,by omega⟩,λe=>by omega,λe=>by have e:X b6=X q:=e;injection e with e;omega,λe=>by have:=aa.o q (D.o.f2 q e);omega,λe=>by have:=aa.o q (D.o.f3 q e);omega⟩)
   have H:Bw w0 w6:=b9.o.trans (b0.o.mono (by omega));exact((ai.of_below H).trans (ai.of_only (aF.setCell (aF.refl p w6) 0 _) D.fp)).more λk E=>by
    rcases E with E|E
    .exact .inl E
    exact .inr E.1
  injection hv with e1 e2 e3
  subst e1 e3;have e9:N<=vc:=by rw[<- HN.o];exact e9
  have gb:(q:Int)<=(vc:Int):=by omega
  have g7:(N:Int)<=(vc:Int):=by omega
  clear e2;obtain⟨cb,e7⟩:=Qe ((if vc=q then 0 else q*6));have f5:Hid (q<N->cb=q*6):=λh=>by rw[<- e7,if_neg (by omega)]
  have dy:Hid (∀W,Bw w1 W->aL 0 w1 W (a1 (X ⟨g,cb,Y⟩) (N-q) (vc-q)) (N-q) ((t.drop q).flatMap verCells)):=λW H=>by have hr:=(D.below H).vs;rw[HN.o]at hr;exact pK (enc:=verCells) (k:=6) (λ_=>rfl) hr (by rw[HN.o]) q cv f5.o (D.o.vs.lt g rfl).2
  have dz:Hid (∀W,Bw w1 W->aL 0 w1 W (a1 g q vc) q ((t.take q).flatMap verCells)):=λW H=>by have hr:=(D.below H).vs;rw[HN.o]at hr;exact pL (enc:=verCells) (k:=6) (λ_=>rfl) hr q cv (D.vs.lt g rfl).2
  have f6:=Z e7;clear e7;have ds:Hid (((t.take q).flatMap verCells).length=q*6):=by unfold Hid;rw[bR verCells 6 (λ_=>rfl),hJ,HN.o,hW (by omega)]
  have cd:Hid (((t.drop q).flatMap verCells).length=(N-q)*6):=by unfold Hid;rw[bR verCells 6 (λ_=>rfl),hK,HN.o]
  have d9:Hid (([J U l,J U s,J U n,J hk f,J hk lv,a1 A b C]++(t.drop q).flatMap verCells:List ib).length=(1+(N-q))*6):=by unfold Hid;rw[hI,cd.o];show 6+_=_;omega
  have d7:Hid ((insL ltRK t (l,s) ((n,(⟨f,lv,b⟩:aG)),a1 A b C)).flatMap verCells=([]++(t.take q).flatMap verCells)++([J U l,J U s,J U n,J hk f,J hk lv,a1 A b C]++(t.drop q).flatMap verCells)):=by unfold Hid;rw[ad.o,hP,hF];rfl
  have d8:Hid ((insL ltRK t (l,s) ((n,(⟨f,lv,b⟩:aG)),a1 A b C)).length=q+(1+(N-q))):=by unfold Hid;rw[ad.o,hI,hT,hJ,hK,HN.o];omega
  have dk:Hid (∀u∈(t.take q).flatMap verCells,u.oneCell'=true):=jt _ λq M=>cP q (hZ M);have ch:Hid (∀u∈(t.drop q).flatMap verCells,u.oneCell'=true):=jt _ λq M=>cP q (ia M);have dq:Hid (∀u∈[J U l,J U s,J U n,J hk f,J hk lv,a1 A b C]++(t.drop q).flatMap verCells,u.oneCell'=true):=λu hu=>by
   rcases List.mem_append.1 hu with hu|hu
   .simp only[hQ,hO,or_false]at hu;rcases hu with rfl|rfl|rfl|rfl|rfl|rfl<;>rfl
   exact ch u hu
  have da:Hid (∀y∈insL ltRK t (l,s) ((n,(⟨f,lv,b⟩:aG)),a1 A b C),y∈t∨y=((l,s),((n,(⟨f,lv,b⟩:aG)),a1 A b C))):=λy I=>by
   rw[ad.o]at I;rcases List.mem_append.1 I with I|I
   .exact .inl (hZ I)
   rcases List.mem_cons.1 I with I|I
   .exact .inr I
   exact .inl (ia I)
  generalize(t.take q).flatMap verCells=TK at*;generalize(t.drop q).flatMap verCells=DR at*;go_enter func46,ntmps46
  go_upto_region 15 with(first
   |(go_at_call 85;((with_reducible refine hL bd.o ?_);rintro e w2⟨rfl,a6⟩;obtain⟨t0,t1,t2,t3,t4,t5⟩:=bA.o w2 a6;have a4:=Z a6;clear a6))
   |(go_at_call 86;((with_reducible refine hL (b8.o _ a4.o) ?_);rintro e w3⟨rfl,av⟩;have a0:Hid (Bw w1 w3):=a4.o.trans (av.mono a4.o.size);have s0:=aT.o w3 a0.o;clear av t0 t1 t2 t3 t4 t5)))
  clear s0;have bv:Bw w1 w3.drew:=a0.drew;refine Wb w1 999 ?_;refine Qd [0,2,6,3,4,5] bv al ?_;refine cn (i:=7) (v:=a1 (X ⟨g,cb,Y⟩) (N-q) (vc-q)) rfl (by kernel_rfl) (by kernel_rfl) (by kernel_rfl) (by rfl) (λ_ _ _ h=>h) bv (iP ⟨by rfl,?_⟩) ?_;focus (intro w' h;go_simp;rw[<- f6.o];(first|rfl|(split<;>simp_all)))
  (try go_simp)
  refine Dp 1 λK R=>?_;go_simp;obtain⟨W3,b1⟩:=Qe ((w3.alloc (a2 #[l,s,n,J hk f,J hk lv,a1 A b C] 64)).drew);have a3:Bw w1 W3:=by rw[<- b1];exact(a0.o.alloc a0.o.size _).drew
  have cq:W3.ownsRow w1 64 6 (a1 w3 1 1) 1 [J U l,J U s,J U n,J hk f,J hk lv,a1 A b C]:=by rw[<- b1];exact hS (base:=w1.heap.size) (e:=64) (size:=6) w3 #[l,s,n,J hk f,J hk lv,a1 A b C] 1 a0.o.size (by unfold maxLen;omega) rfl
  rw[b1];refine R _ _ (λ_=>a3) ?_;clear R K;clear b1;obtain⟨b4,c4,L,cx,bs,cm,c2⟩:=bz (P:=prog) W3 w1 30 30 64 i0 (.agg #[J U 0,J U 0,J U 0,J hk 0,J hk 0,a1 Y 0 0]) 6 56 underlying30 HI.o bO.o bY.o c0.o rfl (by decide) w3 1 1 [J U l,J U s,J U n,J hk f,J hk lv,a1 A b C] cq w1 (a1 (X ⟨g,cb,Y⟩) (N-q) (vc-q)) (N-q) DR (dy.o W3 a3) cd.o ch.o (by unfold maxLen;omega) (by omega) a3.size;have T:Bw w1 L:=a3.grown cm a3.size (λj ej=>by injection ej with ej;have:=a0.o.size;omega);refine Dp 8 λK R=>?_;refine ee rfl rfl rfl cx ?_;refine R _ _ (λ_=>T) ?_;clear R K;go_simp;refine Qc [9] T ?_
  refine dN ?_;have dc:=Z bs;have f8:=Z T;have e4:b4<L:=(bs.lt b4 rfl).2;have d6:=Z (dA (B:=w1.heap.size) (e:=64) (k:=6) (w:=L.alloc (a2 #[] 64)) (hG L _) T.size);have aS:Hid (Bw w1 (L.alloc (a2 #[] 64))):=T.alloc T.size _;have cc:Hid (w1<=(L.alloc (a2 #[] 64)).heap.size):=aS.size;have dx:Hid (w1.heap.size<=L):=T.size;have s2:(L.alloc (a2 #[] 64)).cell? p=X (a1 g N vc):=aT _ aS.o;clear bs cm c2 a3 bv T cq cx
  go_wp2_with (first
   |(at_builtin;refine aJ _ rfl _ _ 30 rfl w1 64 i0 (.agg #[J U 0,J U 0,J U 0,J hk 0,J hk 0,a1 Y 0 0]) 6 56 underlying30 HI.o bO.o bY.o c0.o rfl (by decide) L 0 0 [] rfl d6.o w1 (a1 g q vc) q TK rfl (dz.o _ aS.o) ds.o dk.o (by unfold maxLen;omega) (by omega) cc.o ?_;intro b5 c5 w5 bt bl _;have ci:Hid (Bw w1 w5):=aS.o.grown bl cc.o (λj ej=>by injection ej with ej;have:=dx.o;omega);rw[hV]at bt;have cg:=Z bt;have e0:Hid (w5.ownsRow w1 64 6 (a1 b4 (1+(N-q)) c4) (1+(N-q)) ([J U l,J U s,J U n,J hk f,J hk lv,a1 A b C]++DR)):=aj dc.o (λg' G=>by have G:X b4=X g':=G;injection G with G;subst G;rw[bl.block _ (by simp;omega) (λe=>by injection e with e;omega)];exact hR _ _ _ e4);have cj:Hid (w1.heap.size<=w5):=ci.o.size;clear bt bl)
   |(at_builtin;refine aJ _ rfl _ _ 30 rfl w1 64 i0 (.agg #[J U 0,J U 0,J U 0,J hk 0,J hk 0,a1 Y 0 0]) 6 56 underlying30 HI.o bO.o bY.o c0.o rfl (by decide) b5 q c5 ([]++TK) rfl cg.o w5 (a1 b4 (1+(N-q)) c4) (1+(N-q)) ([J U l,J U s,J U n,J hk f,J hk lv,a1 A b C]++DR) rfl ((aM e0.o).mono (hM _) (hH _)) d9.o dq.o (by unfold maxLen;omega) (by omega) cj.o ?_;intro b6 c6 w6 cu cp _;have a9:Bw w1 w6:=ci.o.grown cp cj.o (λj ej=>by injection ej with ej;subst ej;exact(cg.o.lt _ rfl).1);have au:=Z cu;have b3:=(a9.block p (D.o.lt p D.o.fp)).trans D.o.blk;have y1:=(ab b3 0).trans rfl;have z1:=ae b3 0;have f7:=Z b3;have b0:=Z a9;clear cu cp b3 a9))
  go_ret;rw[a7.o];refine⟨rfl,?_⟩;have bk:=D.below b0.o;have f0:=bb.o;have cz:=ay.o;have d1:w1.heap.size<=w6:=b0.size;have ac:w6.ownsRow 0 64 6 (a1 b6 (q+(1+(N-q))) c6) (insL ltRK t (l,s) ((n,(⟨f,lv,b⟩:aG)),a1 A b C)).length ((insL ltRK t (l,s) ((n,(⟨f,lv,b⟩:aG)),a1 A b C)).flatMap verCells):=by rw[d7.o,d8.o];exact aD au.o (hM _)
  have e5:=au.lt b6 rfl;have g2:=aa p D.fp;have b2:b6≠p:=λe=>by omega
  refine⟨λk=>F k∨(w0<=k/\k<w6),⟨a1 b6 (q+(1+(N-q))) c6,v2,v3,insL ltRK t (l,s) ((n,(⟨f,lv,b⟩:aG)),a1 A b C),?_⟩,?_⟩
  .rw[<- c1.o];refine bk.put1 (w':=w6.setCell p _) (vN:=a1 b6 (q+(1+(N-q))) c6) (λk E=>.inl E) (λk E=>?_) (λk _ b2 _=>hC _ _ _ _ b2) ((aA bk.blk 0 _).trans rfl) (aj ac (λg' G=>by have G:X b6=X g':=G;injection G with G;subst G;exact hC _ _ _ _ b2)) (λg' G=>?_) (by rw[hy];exact hH _) (by rw[c1.o];exact dd.o a5.o) (λy I=>?_)
   .rw[hy];rcases E with E|E
    .exact bk.lt k E
    exact E.2
   .have G:X b6=X g':=G;injection G with G
    subst G;exact⟨.inr ⟨by omega,e5.2⟩,.inr (λhf=>by have:=aa.o _ hf;omega)⟩
   rcases da.o y I with I|rfl
   .exact .inl I
   refine .inr (ub (r:=⟨f,lv,b⟩) ((HX.o.kept (λq _ M=>b0.o.block q (by omega))).kept (λq h1 _=>hC _ _ _ _ (λ(e:q=p)=>by omega))) (by rw[hy];omega) λq h1 h2=>⟨.inr ⟨h1,by omega⟩,λe=>by omega,λe=>by have e:X b6=X q:=e;injection e with e;omega,λe=>by have:=aa.o q (D.o.f2 q e);omega,λe=>by have:=aa.o q (D.o.f3 q e);omega⟩)
  have H:Bw w0 w6:=b9.o.trans (b0.o.mono (by omega));exact((ai.of_below H).trans (ai.of_only (aF.setCell (aF.refl p w6) 0 _) D.fp)).more λk E=>by
   rcases E with E|E
   .exact .inl E
   exact .inr E.1
theorem DB:(prog.info? 38).map (λi=>(i.zero,i.size,i.bytes))=X (X (.agg #[J U 0,J U 0,J U 0,J U 0,J U 0,hb false]),6,48):=by kernel_rfl
theorem jO(l:List (PK×(Int×Bool))):∀u∈l.flatMap decCells,u.oneCell'=true:=by
 intro u b;obtain⟨p,c,b⟩:=List.mem_flatMap.1 b;simp only[decCells,hQ,hO,or_false]at b;rcases b with rfl|rfl|rfl|rfl|rfl|rfl<;>rfl
theorem B0{W:ih}{g N c:Nat}{b:List (PK×(Int×Bool))}(h:W.ownsRow 0 38 6 (a1 g N c) N (b.flatMap decCells))(i:b=N)(q:Nat)(e:q<N)(y:PK×(Int×Bool)):
 ((((((W.setCell ⟨g,q*6,Y⟩ y.1.1.1).setCell ⟨g,q*6+1,Y⟩ y.1.1.2).setCell ⟨g,q*6+2,Y⟩ y.1.2.1).setCell ⟨g,q*6+3,Y⟩ y.1.2.2).setCell ⟨g,q*6+4,Y⟩ y.2.1).setCell ⟨g,q*6+5,Y⟩ (hb y.2.2)).ownsRow 0 38 6 (a1 g N c) N ((b.set q y).flatMap decCells)/\
   aF g W ((((((W.setCell ⟨g,q*6,Y⟩ y.1.1.1).setCell ⟨g,q*6+1,Y⟩ y.1.1.2).setCell ⟨g,q*6+2,Y⟩ y.1.2.1).setCell ⟨g,q*6+3,Y⟩ y.1.2.2).setCell ⟨g,q*6+4,Y⟩ y.2.1).setCell ⟨g,q*6+5,Y⟩ (hb y.2.2)):=by
 have d:(b.flatMap decCells).length=N*6:=h.1;have f:(q+1)*6<=N*6:=iv 6 e;have:=dg (decCells y) (q*6) W _ h (by rw[d];show q*6+6<=_;omega);rw[show q*6+(decCells y).length=q*6+6 from rfl,oK decCells 6 (λ_=>rfl) b q (by omega) y]at this;exact this
theorem zv(b c g h A f d k l B:Int)(i j:Bool)(w:ih):iF prog 137 #[.agg #[b,c,g,h,A,hb i],.agg #[f,d,k,l,B,hb j]] w λe w'=>e=fn (hb (ltPK ((b,c),g,h) ((f,d),k,l)))/\Bw w w':=by
 have t:Hid (∀W,iF prog 25 #[.agg #[b,c],.agg #[f,d]] W λe w'=>e=fn (hb (ltRK (b,c) (f,d)))/\Bw W w'):=λW=>jI (b,c) (f,d) W;have v:Hid (∀W,iF prog 25 #[.agg #[g,h],.agg #[k,l]] W λe w'=>e=fn (hb (ltRK (g,h) (k,l)))/\Bw W w'):=λW=>jI (g,h) (k,l) W;have p:Hid (ltPK ((b,c),g,h) ((f,d),k,l)=if(b,c)=(f,d)then ltRK (g,h) (k,l)else ltRK (b,c) (f,d)):=rfl;generalize ltRK (b,c) (f,d)=x at*;generalize ltRK (g,h) (k,l)=y at*;generalize ltPK ((b,c),g,h) ((f,d),k,l)=z at*;have n:Hid (∀o s,Bw w ((w.alloc o).alloc s)):=λo s=>((hX _ w).alloc (hH _) o).alloc (by simp) s;by_cases h1:b=f
 .subst h1;by_cases h2:c=d
  .subst h2;rw[if_pos rfl]at p;go_enter func137,ntmps137;go_wp2_with (first|(go_at_call 25;((with_reducible refine hL (v.o _) ?_);rintro e u⟨rfl,m⟩;have q:=Z m;clear m)))
   go_ret;exact⟨by rw[p.o];rfl,(n.o _ _).trans (q.o.mono (n.o _ _).size)⟩
  have r:¬((b,c)=(b,d)):=λe=>h2 (by injection e);rw[if_neg r]at p;have C:(c !=d)=true:=by simp[h2]
  go_enter func137,ntmps137;go_wp2_with (first|(go_at_call 25;((with_reducible refine hL (t.o _) ?_);rintro e u⟨rfl,m⟩;have q:=Z m;clear m)))
  go_ret;exact⟨by rw[p.o];rfl,(n.o _ _).trans (q.o.mono (n.o _ _).size)⟩
 have r:¬((b,c)=(f,d)):=λe=>h1 (by injection e);rw[if_neg r]at p;have C:(b !=f)=true:=by simp[h1]
 go_enter func137,ntmps137;go_wp2_with (first|(go_at_call 25;((with_reducible refine hL (t.o _) ?_);rintro e u⟨rfl,m⟩;have q:=Z m;clear m)))
 go_ret;exact⟨by rw[p.o];rfl,(n.o _ _).trans (q.o.mono (n.o _ _).size)⟩
theorem oP(F:Nat->Prop)(w:ih)(p:Nat)(d:aB)(h:bX F w p d)(a b:RK)(n:Int)(j:Bool)(ha:rkOk a)(y:rkOk b)(hn:i64B n):
 iF prog 82 #[.pointer p,recK a,recK b,n,hb j] w λe w'=>e=fn (J U (decideC d a b n j).2)/\∃F',bX F' w' p (decideC d a b n j).1/\ai F w F' w':=by
 obtain⟨v1,v2,v3,xs,h⟩:=h;have d0:=Z h.lt;have aT:=Z h;have es:Hid (∀o o',Bw w ((w.alloc o).alloc o')):=λo o'=>((hX _ w).alloc (hH _) o).alloc (by simp) o';by_cases hab:a=b
 .subst hab;have a6:Hid (decideC d a a n j=(d,1)):=by unfold Hid decideC;rw[if_pos rfl]
  obtain⟨G,H⟩:=a;clear h;unfold recK;dsimp only;go_enter func82,ntmps82;go_wp2_with fail;go_ret;rw[a6.o];exact⟨rfl,F,⟨_,_,_,_,aT.below (es _ _)⟩,ai.of_below (es _ _)⟩
 have d1:Hid (eD d (pairK a b) n j=0->bp {d with ps:=insL ltPK d.ps (pairK a b) (n,j)}):=λhx=>h.ok.decide hab ha y hn hx;have b3:=Z (kF d a b n j hab);obtain⟨G,H⟩:=a;obtain⟨I,L⟩:=b;have d2:Hid (pairK (G,H) (I,L)=if ltRK (I,L) (G,H)then((I,L),(G,H))else((G,H),(I,L))):=rfl;have f6:Hid (∀W,iF prog 25 #[.agg #[I,L],.agg #[G,H]] W λe w'=>e=fn (hb (ltRK (I,L) (G,H)))/\Bw W w'):=λW=>jI (I,L) (G,H) W;generalize ltRK (I,L) (G,H)=lt at*;obtain⟨⟨⟨r,s⟩,p3,x⟩,hp⟩:∃P,pairK (G,H) (I,L)=P:=⟨_,rfl⟩;rw[hp]at d1 b3 d2;clear hp ha y;have f5:=q36 G H I L;rw[decide_eq_false hab]at f5;obtain⟨M,c7⟩:=Qe ((w.alloc (a2 #[G,H] 36)).alloc (a2 #[I,L] 36));have fc:Bw w M:=by rw[<- c7];exact es.o _ _
 have fy:M.heap.size=w+2:=by rw[<- c7];simp
 have hA:M.heap[w.heap.size]?=X (a2 #[G,H] 36 (0,0)):=by rw[<- c7,hR _ _ _ (by simp)];exact hG w _
 have hB:M.heap[w.heap.size+1]?=X (a2 #[I,L] 36 (0,0)):=by have:=hG (w.alloc (a2 #[G,H] 36)) (a2 #[I,L] 36);rw[World.size_alloc,c7]at this;exact this
 have HA:=Z hA;have b0:=Z hB;have d9:=Z fc;have b8:=Z fy;have HW:=Z c7;clear hA hB fc fy c7 hab h;unfold recK;dsimp only;go_enter func82,ntmps82;go_upto_region 3 with fail;rw[HW.o];have c0:M.cell? w=X (J U G):=(ab HA.o 0).trans rfl;have c1:M.cell? ⟨w,1,Y⟩=X (J U H):=(ab HA.o 1).trans rfl;have c2:M.cell? ⟨w.heap.size+1,0,Y⟩=X (J U I):=(ab b0.o 0).trans rfl;have c3:M.cell? ⟨w.heap.size+1,1,Y⟩=X (J U L):=(ab b0.o 1).trans rfl;have gd:=Z f5;clear f5;go_upto_region 4 with fail;obtain⟨W3,a8⟩:=Qe (M.alloc (a2 #[G,H,I,L,n,hb j] 38));have cq:Bw M W3:=by rw[<- a8];exact(hX _ M).alloc (hH _) _
 have d4:W3.heap[M.heap.size]?=X (a2 #[G,H,I,L,n,hb j] 38 (0,0)):=by rw[<- a8];exact hG M _
 rw[a8];have ao:=Z cq;have g0:=Z d4
 have dk:Hid (∀W,Bw W3 W->(W.cell? w=X (J U G)/\W.cell? ⟨w,1,Y⟩=X (J U H))/\(W.cell? ⟨w.heap.size+1,0,Y⟩=X (J U I)/\W.cell? ⟨w.heap.size+1,1,Y⟩=X (J U L))/\W.heap[M.heap.size]?=X (a2 #[G,H,I,L,n,hb j] 38 (0,0))):=λW y=>
  have d6:Bw M W:=ao.trans (y.mono ao.size)
  ⟨⟨(ab ((d6.block _ (af HA.o)).trans HA.o) 0).trans rfl,(ab ((d6.block _ (af HA.o)).trans HA.o) 1).trans rfl⟩,⟨(ab ((d6.block _ (af b0.o)).trans b0.o) 0).trans rfl,(ab ((d6.block _ (af b0.o)).trans b0.o) 1).trans rfl⟩,(y.block _ (af d4)).trans d4⟩
 clear cq d4 a8 c0 c1 c2 c3;obtain⟨⟨c0,c1⟩,⟨c2,c3⟩,_⟩:=dk W3 (hX _ _);go_upto_if 24 with(go_at_call 25;(refine hL (f6.o _) ?_;rintro e T⟨rfl,bO⟩;have dc:=Z bO;clear bO))
 clear c0 c1 c2 c3;go_cut [] (λwx=>Hid (Bw w wx/\wx.heap[M.heap.size]?=X (a2 #[r,s,p3,x,n,hb j] 38 (0,0))))
 case first=>
  have d5:Bw w T:=d9.trans ((ao.trans (dc.mono ao.size)).mono d9.size);obtain⟨⟨c0,c1⟩,⟨c2,c3⟩,c4⟩:=dk T dc.o;cases lt
  .have HP:=d2.o;simp only[Bool.false_eq_true,if_false,Prod.mk.injEq]at HP;obtain⟨⟨rfl,rfl⟩,rfl,rfl⟩:=HP;have dd:=Z c4;have da:=Z d5;clear c4 d5;go_wp2_with fail;go_meet;exact⟨da.o,dd.o⟩
  have HP:=d2.o;simp only[if_true,Prod.mk.injEq]at HP;obtain⟨⟨rfl,rfl⟩,rfl,rfl⟩:=HP;have z0:=ae c4 0;have z1:=ae c4 1;have z2:=ae c4 2;have z3:=ae c4 3;have y0:=(ab c4 0).trans rfl;have y1:=(ab c4 1).trans rfl;have y2:=(ab c4 2).trans rfl;have y3:=(ab c4 3).trans rfl;have dd:=Z c4;have da:=Z d5;have h7:¬(M.heap.size=w):=by have:=b8.o;omega
  have h8:¬(M.heap.size=w+1):=by have:=b8.o;omega
  have h9:¬(w.heap.size=M):=by have:=b8.o;omega
  have hd:¬(w.heap.size+1=M):=by have:=b8.o;omega
  clear c4 d5;go_wp2_with fail;go_meet;refine⟨?_,(aA (aA (aA (aA dd.o 0 _) 1 _) 2 _) 3 _).trans rfl⟩;have hz:=b8.o;exact(((da.o.setCell (p:=⟨M,0,Y⟩) (by simp;omega) _).setCell (p:=⟨M,1,Y⟩) (by simp;omega) _).setCell (p:=⟨M,2,Y⟩) (by simp;omega) _).setCell (p:=⟨M,3,Y⟩) (by simp;omega) _
 obtain⟨f1,hD⟩:=hcut;clear ao g0 dk b0 HA gd HW f6 d2 dc;have C:=Z (aT.below f1);have aC:=Z f1;have HD:=Z hD;generalize hDD:M.heap.size=D at*;have gz:Hid (w<=D):=by have:=b8.o;unfold Hid;omega
 clear hDD d9 b8 f1 hD;generalize wc=W5 at*;have gO:=Z (en dQ aT.ok.ok.ps ((r,s),p3,x));have g7:Hid (∀i(h2:i<d.ps.length),i<placeK ltPK d.ps ((r,s),p3,x)->ltPK d.ps[i].1 ((r,s),p3,x)=true):=λi h2 hi=>mr d.ps _ i hi h2;have g6:Hid (∀h:placeK ltPK d.ps ((r,s),p3,x)<d.ps,ltPK d.ps[placeK ltPK d.ps ((r,s),p3,x)].1 ((r,s),p3,x)=false):=λh=>mu d.ps _ h;have d8:=gW (lt:=ltPK) d.ps ((r,s),p3,x);have gs:=aT.ok.plen;obtain⟨va,vc,hv⟩:=aQ C.ps;subst hv;obtain⟨q,hq⟩:=Qe (placeK ltPK d.ps ((r,s),p3,x));rw[hq]at d8;have HQ:=Z hq;obtain⟨N,hN⟩:=Qe d.ps.length;rw[hN]at gs d8;have R:=Z hN;have cp:Hid (W5.ownsRow 0 38 6 (a1 va N vc) N (d.ps.flatMap decCells)):=by have:=C.o.ps;rw[hN]at this;exact this
 have au:Hid (∀W,Bw W5 W->W.cell? ⟨p,2,Y⟩=X (a1 va N vc)/\W.cell? D=X (J U r)/\W.cell? ⟨D,1,Y⟩=X (J U s)/\W.cell? ⟨D,2,Y⟩=X (J U p3)/\W.cell? ⟨D,3,Y⟩=X (J U x)/\W.cell? ⟨D,4,Y⟩=X (J U n)/\W.cell? ⟨D,5,Y⟩=X (hb j)):=λW y=>
  ⟨by have:=(ab ((y.block _ (C.o.lt p C.o.fp)).trans C.o.blk) 2).trans rfl;rw[hN]at this;exact this,lr ((y.block _ (af HD.o)).trans HD.o)⟩
 clear hq hN;go_upto_block 0 with fail;go_cut [12] (λt wx=>t=J U q/\Hid (Bw W5 wx))
 case first=>
  go_wp2_with fail;go_loopw [12] (λt wr=>∃i:Nat,t=J U i/\i<=q/\Hid (Bw W5 wr)) (λt _=>N-(intOf t).toNat)
  exact⟨0,rfl,hM _,hX _ _⟩;obtain⟨i,rfl,hi,HB⟩:=hrel;have a3:Bw W5 wr.drew:=HB.drew;have gy:=HB.size;by_cases hlt:i<N;rotate_left
  .obtain rfl:i=N:=by omega
   obtain rfl:q=i:=by omega
   go_wp2_with fail;refine Wb W5 999 ?_;refine Qd [0,1,2,3,4] a3 au ?_;refine Ds 5 a3 ?_;refine Qc [6,7] a3 ?_;refine tfS 8 rfl a3 ?_;(try go_simp)
   refine tfS 9 rfl a3 ?_;(try go_simp)
   refine tfS 10 rfl a3 ?_;(try go_simp)
   refine tfS 11 rfl a3 ?_;(try go_simp)
   refine tfS 12 rfl a3 ?_;(try go_simp)
   refine tfS 13 rfl a3 ?_;(try go_simp)
   refine tfS 14 rfl a3 ?_;(try go_simp)
   refine tfS 15 rfl a3 ?_;(try go_simp)
   refine tfS 16 rfl a3 ?_;(try go_simp)
   refine Qc [17] a3 ?_
   refine dN ?_;have ao:=Z a3;clear a3;go_wp2_with fail;go_meet;exact⟨rfl,ao⟩
  have bY:i<d.ps:=by rw[R.o];exact hlt
  have aa:=cp.o;rw[<- R.o]at aa;obtain⟨g,c,he,O,hc⟩:=bT (enc:=decCells) (λ_=>rfl) aa i bY;injection he with he1 he2 he3
  subst he1 he3;obtain⟨e,bd⟩:=Qe (d.ps[i]);rw[bd]at hc;have HI:Hid (i<q->ltPK e.1 ((r,s),p3,x)=true):=λhh=>by rw[<- bd];exact g7.o i bY (by rw[HQ.o];exact hh)
  have al:Hid (i=q->ltPK e.1 ((r,s),p3,x)=false):=λhh=>by subst hh;have h1:=g6.o (by rw[HQ.o];exact bY);simp only[HQ.o]at h1;rw[<- bd];exact h1
  obtain⟨⟨⟨e1,e2⟩,e3,e4⟩,e5,e6⟩:=e;have a0:=Z hc
  have HC:Hid (∀W,Bw W5 W->(W.cell? ⟨p,2,Y⟩=X (a1 g N vc)/\W.cell? D=X (J U r)/\W.cell? ⟨D,1,Y⟩=X (J U s)/\W.cell? ⟨D,2,Y⟩=X (J U p3)/\W.cell? ⟨D,3,Y⟩=X (J U x)/\W.cell? ⟨D,4,Y⟩=X (J U n)/\W.cell? ⟨D,5,Y⟩=X (hb j))/\W.cell? ⟨g,i*6,Y⟩=X (J U e1)/\W.cell? ⟨g,i*6+1,Y⟩=X (J U e2)/\W.cell? ⟨g,i*6+2,Y⟩=X (J U e3)/\W.cell? ⟨g,i*6+3,Y⟩=X (J U e4)/\W.cell? ⟨g,i*6+4,Y⟩=X (J U e5)/\W.cell? ⟨g,i*6+5,Y⟩=X (hb e6)):=λW y=>
   ⟨au W y,((aq y).1 g _ O).trans (a0 0 _ rfl),((aq y).1 g _ O).trans (a0 1 _ rfl),((aq y).1 g _ O).trans (a0 2 _ rfl),((aq y).1 g _ O).trans (a0 3 _ rfl),((aq y).1 g _ O).trans (a0 4 _ rfl),((aq y).1 g _ O).trans (a0 5 _ rfl)⟩
  have HL:Hid (∀W,iF prog 137 #[.agg #[e1,e2,e3,e4,e5,hb e6],.agg #[r,s,p3,x,n,hb j]] W λe w'=>e=fn (hb (ltPK ((e1,e2),e3,e4) ((r,s),p3,x)))/\Bw W w'):=λW=>zv e1 e2 e3 e4 e5 r s p3 x n e6 j W;have gp:(i:Int)<(N:Int):=by omega
  dsimp only at HI al;generalize hltv:ltPK ((e1,e2),e3,e4) ((r,s),p3,x)=bb at*;clear hc hltv bd;go_wp2_with fail;refine Wb W5 999 ?_;refine Qd [0,1,2,3,4] a3 HC ?_;refine Ds 5 a3 ?_;refine Qd [6,7,8,9,10,11,12,13,14,15] a3 HC ?_;refine Dq 16 λK A=>?_;go_simp;go_at_call 137;refine(HL _).mono ?_;rintro e w3⟨rfl,cq⟩;have a5:Bw W5 w3:=a3.trans (cq.mono gy);refine A _ _ (λ_=>a5) ?_;clear A K;refine Qc [17] a5 ?_
  refine dN ?_;have ao:=Z a5;clear a5 a3 cq;cases bb
  .have fr:i=q:=by
    rcases iS i q with h|h
    .have:=HI h;cases this
    omega
   subst fr;clear HI al;go_wp2_with fail;go_meet;exact⟨rfl,ao⟩
  have fr:i<q:=by
   rcases iS i q with h|h
   .exact h
   have:=al.o (by omega);cases this
  clear HI al;go_wp2_with fail;go_roundw
  case rel=>exact⟨i+1,by go_num,by omega,ao⟩
  simp[intOf];omega
 obtain⟨rfl,cQ⟩:=hcut;generalize wc=W6 at*;have hw:=cQ.size;have dq:Hid (∀m,findK d.ps ((r,s),p3,x)=X m->eD d ((r,s),p3,x) n j=bh true (decide (m.1=n)&&decide (m.2=j)) m.1 n d.ps):=λm hm=>by unfold eD;rw[hm];rfl
 cases hf:findK d.ps ((r,s),p3,x)with
 |some m=>
  obtain⟨n',j'⟩:=m;obtain⟨f4,he⟩:=lG dQ aT.ok.ok.ps hf;have ax:=Z (qj dQ aT.ok.ok.ps hf (n,j));have aS:=Z (dq _ hf);have aa:=cp.o;rw[<- R.o]at aa;obtain⟨g,c,hv,O,hc⟩:=bT (enc:=decCells) (λ_=>rfl) aa _ f4;injection hv with hv1 hv2 hv3
  subst hv1 hv3;rw[he]at hc;simp only[HQ.o]at hc he ax;have ho:q<N:=by rw[HQ.o,R.o]at f4;exact f4
  have a0:=Z hc;have hl:(q:Int)<(N:Int):=by omega
  have HC:Hid (∀W,Bw W5 W->(W.cell? ⟨p,2,Y⟩=X (a1 g N vc)/\W.cell? D=X (J U r)/\W.cell? ⟨D,1,Y⟩=X (J U s)/\W.cell? ⟨D,2,Y⟩=X (J U p3)/\W.cell? ⟨D,3,Y⟩=X (J U x)/\W.cell? ⟨D,4,Y⟩=X (J U n)/\W.cell? ⟨D,5,Y⟩=X (hb j))/\W.cell? ⟨g,q*6,Y⟩=X (J U r)/\W.cell? ⟨g,q*6+1,Y⟩=X (J U s)/\W.cell? ⟨g,q*6+2,Y⟩=X (J U p3)/\W.cell? ⟨g,q*6+3,Y⟩=X (J U x)/\W.cell? ⟨g,q*6+4,Y⟩=X (J U n')/\W.cell? ⟨g,q*6+5,Y⟩=X (hb j')):=λW y=>
   ⟨au W y,((aq y).1 g _ O).trans (a0 0 _ rfl),((aq y).1 g _ O).trans (a0 1 _ rfl),((aq y).1 g _ O).trans (a0 2 _ rfl),((aq y).1 g _ O).trans (a0 3 _ rfl),((aq y).1 g _ O).trans (a0 4 _ rfl),((aq y).1 g _ O).trans (a0 5 _ rfl)⟩
  clear hc he hf aa dq;go_upto_region 10 with fail;have l:Bw W5 W6.drew:=cQ.drew;refine Wb W5 999 ?_;refine Qd [0,1,2,3,4] l HC ?_;refine Ds 5 l ?_;refine Qd [6,7,8,9,10,11,12,13,14,15,16,17,18,19,20,21,22,23,24,25,26,27,28,29,30,31,32] l HC ?_;refine dN ?_;go_upto_region 11 with fail;have ad:Bw W5 W6.drew.drew:=cQ.drew.drew;refine Wb W5 999 ?_;refine Qd [0,1,2,3,4,5,6,7] ad HC ?_;obtain⟨b9,fl⟩:=Qe ((decide (n'=n)&&decide (j'=j)));have cc:=Z fl;clear fl;refine cn (i:=8) (v:=hb b9) rfl (by kernel_rfl) (by kernel_rfl) (by kernel_rfl) (by rfl) (λ_ _ _ h=>h) ad (iP ⟨by rfl,?_⟩) ?_;focus (intro w' h;rw[<- cc.o];by_cases g1:n'=n<;>cases j'<;>cases j<;>simp[g1]<;>go_simp<;>rfl)
  (try go_simp)
  refine Qc [9] ad ?_
  refine dN ?_;obtain⟨W7,f8⟩:=Qe W6.drew.drew;rw[f8]at ad ⊢;have d3:=Z ad;clear f8 ad l;obtain⟨⟨h0,t0,t1,t2,t3,t4,t5⟩,s0,s1,s2,s3,s4,s5⟩:=HC W7 d3.o;have e7:Hid (∀e,decideC d (G,H) (I,L) n j=(d,e)->(Ending.returned (J U e)=Ending.returned (J U (decideC d (G,H) (I,L) n j).2)/\∃F',bX F' W7 p (decideC d (G,H) (I,L) n j).1/\ai F w F' W7)):=λe he=>by rw[he];exact⟨rfl,F,⟨_,_,_,_,C.below d3.o⟩,ai.of_below (aC.trans (d3.mono aC.size))⟩
  rcases iD n' n with cx|cx|cx;rotate_left
  .subst cx;by_cases hj:j'=j
   .subst hj;have a4:Hid (eD d ((r,s),p3,x) n' j'=22):=by unfold Hid;rw[aS.o];dsimp only;rw[decide_eq_true rfl,decide_eq_true rfl];rfl
    obtain rfl:b9=true:=by rw[<- cc.o,decide_eq_true rfl,decide_eq_true rfl];rfl
    have a6:Hid (decideC d (G,H) (I,L) n' j'=(d,22)):=by unfold Hid;rw[b3.o,if_neg (by rw[a4.o];decide),a4.o]
    go_wp2_with fail;go_ret;exact⟨by rw[a6.o];rfl,(e7.o 22 a6.o).2⟩
   have a4:Hid (eD d ((r,s),p3,x) n' j=30):=by unfold Hid;rw[aS.o];dsimp only;rw[decide_eq_true rfl,decide_eq_false hj];unfold bh;simp
   have a6:Hid (decideC d (G,H) (I,L) n' j=(d,30)):=by unfold Hid;rw[b3.o,if_neg (by rw[a4.o];decide),a4.o]
   obtain rfl:b9=false:=by rw[<- cc.o,decide_eq_false hj,Bool.and_false]
   have f3:n'<=n':=Int.le_refl _;clear hj;go_wp2_with fail;go_ret;exact⟨by rw[a6.o];rfl,(e7.o 30 a6.o).2⟩
  .have a4:Hid (eD d ((r,s),p3,x) n j=30):=by unfold Hid;rw[aS.o];dsimp only;rw[decide_eq_false (show n'≠n by omega)];unfold bh;simp;omega
   have a6:Hid (decideC d (G,H) (I,L) n j=(d,30)):=by unfold Hid;rw[b3.o,if_neg (by rw[a4.o];decide),a4.o]
   obtain rfl:b9=false:=by rw[<- cc.o,decide_eq_false (show n'≠n by omega)];rfl
   have f3:n<=n':=by omega
   clear cx;go_wp2_with fail;go_ret;exact⟨by rw[a6.o];rfl,(e7.o 30 a6.o).2⟩
  have a4:Hid (eD d ((r,s),p3,x) n j=0):=by unfold Hid;rw[aS.o];dsimp only;rw[decide_eq_false (show n'≠n by omega)];unfold bh;simp;omega
  obtain rfl:b9=false:=by rw[<- cc.o,decide_eq_false (show n'≠n by omega)];rfl
  have f3:¬(n<=n'):=by omega
  clear cx;have a6:Hid (decideC d (G,H) (I,L) n j=({d with ps:=insL ltPK d.ps ((r,s),p3,x) (n,j)},0)):=by unfold Hid;rw[b3.o,if_pos a4.o]
  go_upto_region 15 with fail;have ad:Bw W5 W7.drew:=d3.drew;clear h0 t0 t1 t2 t3 t4 t5 s0 s1 s2 s3 s4 s5;refine Wb W5 7 ?_;refine Qb [0,4,5,1,2,3,6] ad HC ?_;obtain⟨W8,f9⟩:=Qe W7.drew;rw[f9]at ad ⊢;have cm:=Z ad;have az:=(C.below ad).ps;rw[R.o]at az;have g9:=Z az;have z0:=az.frozenAt (q*6);have z1:=az.frozenAt (q*6+1);have z2:=az.frozenAt (q*6+2);have z3:=az.frozenAt (q*6+3);have z4:=az.frozenAt (q*6+4);have z5:=az.frozenAt (q*6+5);obtain⟨_,s0,s1,s2,s3,s4,s5⟩:=HC W8 ad;clear f9 az ad;refine Dl 7 ?_;obtain⟨cP,d7⟩:=B0 g9.o R.o q (by omega) (((r,s),p3,x),(n,j));rw[<- ax.o]at cP;dsimp only at cP d7;obtain⟨W9,fb⟩:=Qe (((((((W8.setCell ⟨g,q*6,Y⟩ r).setCell ⟨g,q*6+1,Y⟩ s).setCell ⟨g,q*6+2,Y⟩ p3).setCell ⟨g,q*6+3,Y⟩ x).setCell ⟨g,q*6+4,Y⟩ n).setCell ⟨g,q*6+5,Y⟩ (hb j)));rw[fb]at cP d7 ⊢;have gb:=Z cP;have ch:=Z d7;clear fb cP d7 s0 s1 s2 s3 s4 s5 z0 z1 z2 z3 z4 z5;go_wp2_with fail;go_ret;rw[a6.o];refine⟨rfl,F,⟨v1,v2,_,xs,(C.o.below cm.o).put3 (vN:=a1 g N vc) (λ_ h=>h) (λk E=>by rw[ch.o.size];exact(C.o.below cm.o).lt k E) (λk _ _ a9=>ch.o.block k (λe=>a9 (by rw[e,R.o];rfl))) ?_ ?_ (λg' z=>⟨(C.o.below cm.o).f3 g' z,.inl z⟩) (by rw[ch.o.size];exact hH _) (d1.o a4.o)⟩,?_⟩
  .exact(ch.o.block p (Ne.symm (eO C.o.ps C.o.blk (by decide) (g:=g) rfl))).trans (by have:=(C.o.below cm.o).blk;rw[R.o]at this;exact this)
  .have gq:N=(insL ltPK d.ps ((r,s),p3,x) (n,j)).length:=by rw[ax.o,iN,R.o]
   exact gq▸gb.o
  exact(ai.of_below (aC.trans (cm.mono aC.size))).trans (ai.of_only ch.o (C.f3 g rfl))
 |none=>
  have ax:=Z (ql dQ aT.ok.ok.ps hf (n,j));have f7:=Z (sJ dQ aT.ok.ok.ps hf);have aS:Hid (eD d ((r,s),p3,x) n j=if 5000<=d.ps.length then 2 else 0):=by unfold Hid eD;rw[hf];show bh false _ _ _ _=_;unfold bh;simp
  simp only[HQ.o]at ax f7;rw[R.o]at aS;clear hf dq;go_upto_region 10 with fail;go_cut [81] (λt wx=>t=hb false/\Hid (Bw W5 wx))
  case first=>
   have l:Bw W5 W6.drew:=cQ.drew;by_cases hlt:q<N;rotate_left
   .obtain rfl:q=N:=by omega
    refine Wb W5 999 ?_;refine Qd [0,1,2,3,4] l au ?_;refine Ds 5 l ?_;refine Qc [6,7] l ?_;refine tfS 8 rfl l ?_;(try go_simp)
    refine tfS 9 rfl l ?_;(try go_simp)
    refine tfS 10 rfl l ?_;(try go_simp)
    refine tfS 11 rfl l ?_;(try go_simp)
    refine tfS 12 rfl l ?_;(try go_simp)
    refine tfS 13 rfl l ?_;(try go_simp)
    refine tfS 14 rfl l ?_;(try go_simp)
    refine tfS 15 rfl l ?_;(try go_simp)
    refine tfS 16 rfl l ?_;(try go_simp)
    refine tfS 17 rfl l ?_;(try go_simp)
    refine tfS 18 rfl l ?_;(try go_simp)
    refine Qc [19,20] l ?_;refine tfS 21 rfl l ?_;(try go_simp)
    refine tfS 22 rfl l ?_;(try go_simp)
    refine tfS 23 rfl l ?_;(try go_simp)
    refine tfS 24 rfl l ?_;(try go_simp)
    refine tfS 25 rfl l ?_;(try go_simp)
    refine tfS 26 rfl l ?_;(try go_simp)
    refine tfS 27 rfl l ?_;(try go_simp)
    refine tfS 28 rfl l ?_;(try go_simp)
    refine tfS 29 rfl l ?_;(try go_simp)
    refine tfS 30 rfl l ?_;(try go_simp)
    refine tfS 31 rfl l ?_;(try go_simp)
    refine Qc [32] l ?_
    refine dN ?_;go_wp2_with fail;go_meet;exact⟨rfl,l⟩
   have bY:q<d.ps:=by rw[R.o];exact hlt
   have aa:=cp.o;rw[<- R.o]at aa;obtain⟨g,c,he,O,hc⟩:=bT (enc:=decCells) (λ_=>rfl) aa q bY;injection he with he1 he2 he3
   subst he1 he3;have a9:=f7.o;rw[iQ bY]at a9;obtain⟨e,bd⟩:=Qe (d.ps[q]);rw[bd]at hc a9;obtain⟨⟨⟨e1,e2⟩,e3,e4⟩,e5,e6⟩:=e;have a0:=Z hc
   have HC:Hid (∀W,Bw W5 W->(W.cell? ⟨p,2,Y⟩=X (a1 g N vc)/\W.cell? D=X (J U r)/\W.cell? ⟨D,1,Y⟩=X (J U s)/\W.cell? ⟨D,2,Y⟩=X (J U p3)/\W.cell? ⟨D,3,Y⟩=X (J U x)/\W.cell? ⟨D,4,Y⟩=X (J U n)/\W.cell? ⟨D,5,Y⟩=X (hb j))/\W.cell? ⟨g,q*6,Y⟩=X (J U e1)/\W.cell? ⟨g,q*6+1,Y⟩=X (J U e2)/\W.cell? ⟨g,q*6+2,Y⟩=X (J U e3)/\W.cell? ⟨g,q*6+3,Y⟩=X (J U e4)/\W.cell? ⟨g,q*6+4,Y⟩=X (J U e5)/\W.cell? ⟨g,q*6+5,Y⟩=X (hb e6)):=λW y=>
    ⟨au W y,((aq y).1 g _ O).trans (a0 0 _ rfl),((aq y).1 g _ O).trans (a0 1 _ rfl),((aq y).1 g _ O).trans (a0 2 _ rfl),((aq y).1 g _ O).trans (a0 3 _ rfl),((aq y).1 g _ O).trans (a0 4 _ rfl),((aq y).1 g _ O).trans (a0 5 _ rfl)⟩
   have gp:(q:Int)<(N:Int):=by omega
   obtain⟨bA,hA⟩:=Qe ((decide (e1=r)&&decide (e2=s)));obtain⟨bB,hB⟩:=Qe ((decide (e3=p3)&&decide (e4=x)));have fz:Hid (bA=true->bB=false):=λh=>by
    rw[<- hA,Bool.and_eq_true,decide_eq_true_eq,decide_eq_true_eq]at h;obtain⟨rfl,rfl⟩:=h;rw[<- hB,Bool.and_eq_false_iff,decide_eq_false_iff_not,decide_eq_false_iff_not];rcases Classical.em (e3=p3)with g1|g1
    .exact .inr λg2=>a9 (by rw[g1,g2];rfl)
    exact .inl g1
   have HA:=Z hA;have HB:=Z hB;clear hc bd hA hB a9 aa;refine Wb W5 999 ?_;refine Qd [0,1,2,3,4] l HC ?_;refine Ds 5 l ?_;refine Qd [6,7,8,9,10,11,12,13,14,15,16,17] l HC ?_;refine cn (i:=18) (v:=hb bA) rfl (by kernel_rfl) (by kernel_rfl) (by kernel_rfl) (by rfl) (λ_ _ _ h=>h) l (iP ⟨by rfl,?_⟩) ?_;focus (intro w' h;rw[<- HA.o];by_cases g1:e1=r<;>by_cases g2:e2=s<;>simp[g1,g2]<;>go_simp<;>rfl)
   (try go_simp)
   refine Qc [19,20] l ?_;cases bA;rotate_left
   .obtain rfl:=fz rfl;refine Qd [21,22,23,24,25,26,27,28,29,30] l HC ?_;refine cn (i:=31) (v:=hb false) rfl (by kernel_rfl) (by kernel_rfl) (by kernel_rfl) (by rfl) (λ_ _ _ h=>h) l (iP ⟨by rfl,?_⟩) ?_;focus (intro w' h;rw[<- HB.o];by_cases g1:e3=p3<;>by_cases g2:e4=x<;>simp[g1,g2]<;>go_simp<;>rfl)
    (try go_simp)
    refine Qc [32] l ?_
    refine dN ?_;go_wp2_with fail;go_meet;exact⟨rfl,l⟩
   skip;refine tfS 21 rfl l ?_;(try go_simp)
   refine tfS 22 rfl l ?_;(try go_simp)
   refine tfS 23 rfl l ?_;(try go_simp)
   refine tfS 24 rfl l ?_;(try go_simp)
   refine tfS 25 rfl l ?_;(try go_simp)
   refine tfS 26 rfl l ?_;(try go_simp)
   refine tfS 27 rfl l ?_;(try go_simp)
   refine tfS 28 rfl l ?_;(try go_simp)
   refine tfS 29 rfl l ?_;(try go_simp)
   refine tfS 30 rfl l ?_;(try go_simp)
   refine tfS 31 rfl l ?_;(try go_simp)
   refine Qc [32] l ?_
   refine dN ?_;go_wp2_with fail;go_meet;exact⟨rfl,l⟩
  obtain⟨rfl,ac⟩:=hcut;generalize wc=W7 at*;have HZ:Hid (w.heap.size<=W5):=aC.size;obtain⟨h0,t0,t1,t2,t3,t4,t5⟩:=au W7 ac.o;by_cases h5:5000<=N
  .have a4:Hid (eD d ((r,s),p3,x) n j=2):=by unfold Hid;rw[aS.o,if_pos h5]
   have a6:Hid (decideC d (G,H) (I,L) n j=(d,2)):=by unfold Hid;rw[b3.o,if_neg (by rw[a4.o];decide),a4.o]
   have gf:(5000:Int)<=(N:Int):=by omega
   go_wp2_with fail;go_ret;rw[a6.o];exact⟨rfl,F,⟨_,_,_,_,C.below ac.o⟩,ai.of_below (aC.trans (ac.mono HZ.o))⟩
  have a4:Hid (eD d ((r,s),p3,x) n j=0):=by unfold Hid;rw[aS.o,if_neg h5]
  have a6:Hid (decideC d (G,H) (I,L) n j=({d with ps:=insL ltPK d.ps ((r,s),p3,x) (n,j)},0)):=by unfold Hid;rw[b3.o,if_pos a4.o]
  have gf:¬((5000:Int)<=(N:Int)):=by omega
  have ht:(q:Int)<=(N:Int):=by omega
  obtain⟨i0,hi,fs,ft,fx⟩:=info_parts DB;have HI:=Z hi;have bv:=Z fs;have bw:=Z ft;have al:=Z fx;clear hi fs ft fx;rcases cp.2 with⟨hv,gt⟩|⟨g,gP,gQ,hv,h6,_,h3,_⟩
  .injection hv with e1 e2 e3
   subst e1 e3;subst gt;obtain rfl:q=0:=by omega
   have eq:Hid (∀W,Bw W5 W->aL 0 W5 W (a1 Y 0 0) 0 ((d.ps.drop 0).flatMap decCells)):=λW y=>by have:d.ps=[]:=hY R.o;rw[this];exact⟨Y,0,rfl,λh=>absurd rfl h⟩
   have er:Hid (∀W,Bw W5 W->aL 0 W5 W (a1 Y 0 0) 0 ((d.ps.take 0).flatMap decCells)):=λW y=>⟨Y,0,rfl,λh=>absurd rfl h⟩;clear e2;have eb:Hid (((d.ps.take 0).flatMap decCells).length=0*6):=by unfold Hid;rw[bR decCells 6 (λ_=>rfl),hJ,R.o,hW (by omega)]
   have cb:Hid (((d.ps.drop 0).flatMap decCells).length=(0)*6):=by unfold Hid;rw[bR decCells 6 (λ_=>rfl),hK,R.o]
   have dz:Hid (([J U r,J U s,J U p3,J U x,J U n,hb j]++(d.ps.drop 0).flatMap decCells:List ib).length=(1+(0))*6):=by unfold Hid;rw[hI,cb.o];show 6+_=_;omega
   have dx:Hid ((insL ltPK d.ps ((r,s),p3,x) (n,j)).flatMap decCells=([]++(d.ps.take 0).flatMap decCells)++([J U r,J U s,J U p3,J U x,J U n,hb j]++(d.ps.drop 0).flatMap decCells)):=by unfold Hid;rw[ax.o,hP,hF];rfl
   have dy:Hid ((insL ltPK d.ps ((r,s),p3,x) (n,j)).length=0+(1+(0))):=by unfold Hid;rw[ax.o,hI,hT,hJ,hK,R.o];omega
   have e8:Hid (∀u∈(d.ps.take 0).flatMap decCells,u.oneCell'=true):=jO _;have ci:Hid (∀u∈(d.ps.drop 0).flatMap decCells,u.oneCell'=true):=jO _;have e9:Hid (∀u∈[J U r,J U s,J U p3,J U x,J U n,hb j]++(d.ps.drop 0).flatMap decCells,u.oneCell'=true):=λu hu=>by
    rcases List.mem_append.1 hu with hu|hu
    .simp only[hQ,hO,or_false]at hu;rcases hu with rfl|rfl|rfl|rfl|rfl|rfl<;>rfl
    exact ci u hu
   generalize(d.ps.take 0).flatMap decCells=TK at*;generalize(d.ps.drop 0).flatMap decCells=DR at*;go_upto_region 19 with fail;clear h0 t0 t1 t2 t3 t4 t5;have bt:Bw W5 W7.drew:=ac.drew;refine Wb W5 999 ?_;refine Qd [0,2,6,3,4,5] bt au ?_;refine cn (i:=7) (v:=a1 Y 0 0) rfl (by kernel_rfl) (by kernel_rfl) (by kernel_rfl) (by rfl) (λ_ _ _ h=>h) bt (iP ⟨by rfl,?_⟩) ?_;focus (intro w' h;(first|(go_simp;done)|(go_simp;rfl)))
   (try go_simp)
   refine Dp 1 λK A=>?_;go_simp;obtain⟨W3,a8⟩:=Qe ((W7.alloc (a2 #[r,s,p3,x,n,hb j] 38)).drew);have a5:Bw W5 W3:=by rw[<- a8];exact(ac.o.alloc ac.o.size _).drew
   have cv:W3.ownsRow W5 38 6 (a1 (X ⟨W7,0,Y⟩) 1 1) 1 [J U r,J U s,J U p3,J U x,J U n,hb j]:=by rw[<- a8];exact hS (base:=W5.heap.size) (e:=38) (size:=6) W7 #[r,s,p3,x,n,hb j] 1 ac.o.size (by unfold maxLen;omega) rfl
   rw[a8];refine A _ _ (λ_=>a5) ?_;clear A K;clear a8;obtain⟨b4,c4,T,cz,bl,cs,bO⟩:=bz (P:=prog) W3 W5 32 32 38 i0 (.agg #[J U 0,J U 0,J U 0,J U 0,J U 0,hb false]) 6 48 underlying32 HI.o bv.o bw.o al.o rfl (by decide) W7 1 1 [J U r,J U s,J U p3,J U x,J U n,hb j] cv W5 (a1 Y 0 0) (0) DR (eq.o W3 a5) cb.o ci.o (by unfold maxLen;omega) (by omega) a5.size;have a7:Bw W5 T:=a5.grown cs a5.size (λj ej=>by injection ej with ej;have:=ac.o.size;omega);refine Dp 8 λK A=>?_;refine ee rfl rfl rfl cz ?_;refine A _ _ (λ_=>a7) ?_;clear A K;go_simp;refine Qc [9] a7 ?_
   refine dN ?_;have e0:=Z bl;have g8:=Z a7;have eQ:b4<T:=(bl.lt b4 rfl).2;have ds:=Z (dA (B:=W5.heap.size) (e:=38) (k:=6) (w:=T.alloc (a2 #[] 38)) (hG T _) a7.size);have av:Hid (Bw W5 (T.alloc (a2 #[] 38))):=a7.alloc a7.size _;have ca:Hid (W5<=(T.alloc (a2 #[] 38)).heap.size):=av.size;have eg:Hid (W5.heap.size<=T):=a7.size;have s2:(T.alloc (a2 #[] 38)).cell? ⟨p,2,Y⟩=X (a1 Y 0 0):=(au _ av.o).1;clear bl cs bO a5 bt a7 cv cz
   go_wp2_with (first
    |(at_builtin;refine aJ _ rfl _ _ 32 rfl W5 38 i0 (.agg #[J U 0,J U 0,J U 0,J U 0,J U 0,hb false]) 6 48 underlying32 HI.o bv.o bw.o al.o rfl (by decide) T 0 0 [] rfl ds.o W5 (a1 Y 0 0) 0 TK rfl (er.o _ av.o) eb.o e8.o (by unfold maxLen;omega) (by omega) ca.o ?_;intro b5 c5 w5 bs bk _;have cj:Hid (Bw W5 w5):=av.o.grown bk ca.o (λj ej=>by injection ej with ej;have:=eg.o;omega);rw[hV]at bs;have cd:=Z bs;have ex:Hid (w5.ownsRow W5 38 6 (a1 b4 (1+(0)) c4) (1+(0)) ([J U r,J U s,J U p3,J U x,J U n,hb j]++DR)):=aj e0.o (λg' z=>by have z:X b4=X g':=z;injection z with z;subst z;rw[bk.block _ (by simp;omega) (λe=>by injection e with e;omega)];exact hR _ _ _ eQ);have cl:Hid (W5.heap.size<=w5):=cj.o.size;clear bs bk)
    |(at_builtin;refine aJ _ rfl _ _ 32 rfl W5 38 i0 (.agg #[J U 0,J U 0,J U 0,J U 0,J U 0,hb false]) 6 48 underlying32 HI.o bv.o bw.o al.o rfl (by decide) b5 0 c5 ([]++TK) rfl cd.o w5 (a1 b4 (1+(0)) c4) (1+(0)) ([J U r,J U s,J U p3,J U x,J U n,hb j]++DR) rfl ((aM ex.o).mono (hM _) (hH _)) dz.o e9.o (by unfold maxLen;omega) (by omega) cl.o ?_;intro b6 c6 w6 cy cu _;have l:Bw W5 w6:=cj.o.grown cu cl.o (λj ej=>by injection ej with ej;subst ej;exact(cd.o.lt _ rfl).1);have cg:=Z cy;have ay:=(l.block p (C.o.lt p C.o.fp)).trans C.o.blk;have y1:=(ab ay 2).trans rfl;have z1:=ae ay 2;have g5:=Z ay;have b7:=Z l;clear cy cu ay l))
   go_ret;rw[a6.o];refine⟨rfl,?_⟩;have bc:=C.below b7.o;have gi:=HZ.o;have gn:W5.heap.size<=w6:=b7.size;have aa:w6.ownsRow 0 38 6 (a1 b6 (0+(1+(0))) c6) (insL ltPK d.ps ((r,s),p3,x) (n,j)).length ((insL ltPK d.ps ((r,s),p3,x) (n,j)).flatMap decCells):=by rw[dx.o,dy.o];exact aD cg.o (hM _)
   have f0:=cg.lt b6 rfl;have gx:=d0 p C.fp;have a9:b6≠p:=λe=>by omega
   refine⟨λk=>F k∨(w<=k/\k<w6),⟨v1,v2,a1 b6 (0+(1+(0))) c6,xs,bc.put3 (w':=w6.setCell ⟨p,2,Y⟩ _) (vN:=a1 b6 (0+(1+(0))) c6) (λk E=>.inl E) (λk E=>?_) (λk _ a9 _=>hC _ _ _ _ a9) ((aA bc.blk 2 _).trans rfl) (aj aa (λg' z=>by have z:X b6=X g':=z;injection z with z;subst z;exact hC _ _ _ _ a9)) (λg' z=>?_) (by rw[hy];exact hH _) (d1.o a4.o)⟩,?_⟩
   .rw[hy];rcases E with E|E
    .exact bc.lt k E
    exact E.2
   .have z:X b6=X g':=z;injection z with z
    subst z;exact⟨.inr ⟨by omega,f0.2⟩,.inr (λhf=>by have:=d0.o _ hf;omega)⟩
   have y:Bw w w6:=aC.o.trans (b7.o.mono (by omega));exact((ai.of_below y).trans (ai.of_only (aF.setCell (aF.refl p w6) 2 _) C.fp)).more λk E=>by
    rcases E with E|E
    .exact .inl E
    exact .inr E.1
  injection hv with e1 e2 e3
  subst e1 e3;have hs:(q:Int)<=(vc:Int):=by omega
  have h4:(N:Int)<=(vc:Int):=by omega
  have O:=(cp.lt g rfl).2;clear e2;obtain⟨c9,f2⟩:=Qe ((if vc=q then 0 else q*6));have g3:Hid (q<N->c9=q*6):=λh=>by rw[<- f2,if_neg (by omega)]
  have eq:Hid (∀W,Bw W5 W->aL 0 W5 W (a1 (X ⟨g,c9,Y⟩) (N-q) (vc-q)) (N-q) ((d.ps.drop q).flatMap decCells)):=λW y=>by have hr:=(C.below y).ps;rw[R.o]at hr;exact pK (enc:=decCells) (k:=6) (λ_=>rfl) hr (by rw[R.o]) q d8 g3.o O
  have er:Hid (∀W,Bw W5 W->aL 0 W5 W (a1 g q vc) q ((d.ps.take q).flatMap decCells)):=λW y=>by have hr:=(C.below y).ps;rw[R.o]at hr;exact pL (enc:=decCells) (k:=6) (λ_=>rfl) hr q d8 O
  have g4:=Z f2;clear f2;have eb:Hid (((d.ps.take q).flatMap decCells).length=q*6):=by unfold Hid;rw[bR decCells 6 (λ_=>rfl),hJ,R.o,hW (by omega)]
  have cb:Hid (((d.ps.drop q).flatMap decCells).length=(N-q)*6):=by unfold Hid;rw[bR decCells 6 (λ_=>rfl),hK,R.o]
  have dz:Hid (([J U r,J U s,J U p3,J U x,J U n,hb j]++(d.ps.drop q).flatMap decCells:List ib).length=(1+(N-q))*6):=by unfold Hid;rw[hI,cb.o];show 6+_=_;omega
  have dx:Hid ((insL ltPK d.ps ((r,s),p3,x) (n,j)).flatMap decCells=([]++(d.ps.take q).flatMap decCells)++([J U r,J U s,J U p3,J U x,J U n,hb j]++(d.ps.drop q).flatMap decCells)):=by unfold Hid;rw[ax.o,hP,hF];rfl
  have dy:Hid ((insL ltPK d.ps ((r,s),p3,x) (n,j)).length=q+(1+(N-q))):=by unfold Hid;rw[ax.o,hI,hT,hJ,hK,R.o];omega
  have e8:Hid (∀u∈(d.ps.take q).flatMap decCells,u.oneCell'=true):=jO _;have ci:Hid (∀u∈(d.ps.drop q).flatMap decCells,u.oneCell'=true):=jO _;have e9:Hid (∀u∈[J U r,J U s,J U p3,J U x,J U n,hb j]++(d.ps.drop q).flatMap decCells,u.oneCell'=true):=λu hu=>by
   rcases List.mem_append.1 hu with hu|hu
   .simp only[hQ,hO,or_false]at hu;rcases hu with rfl|rfl|rfl|rfl|rfl|rfl<;>rfl
   exact ci u hu
  generalize(d.ps.take q).flatMap decCells=TK at*;generalize(d.ps.drop q).flatMap decCells=DR at*;go_upto_region 19 with fail;clear h0 t0 t1 t2 t3 t4 t5;have bt:Bw W5 W7.drew:=ac.drew;refine Wb W5 999 ?_;refine Qd [0,2,6,3,4,5] bt au ?_;refine cn (i:=7) (v:=a1 (X ⟨g,c9,Y⟩) (N-q) (vc-q)) rfl (by kernel_rfl) (by kernel_rfl) (by kernel_rfl) (by rfl) (λ_ _ _ h=>h) bt (iP ⟨by rfl,?_⟩) ?_;focus (intro w' h;go_simp;rw[<- g4.o];(first|rfl|(split<;>simp_all)))
  (try go_simp)
  refine Dp 1 λK A=>?_;go_simp;obtain⟨W3,a8⟩:=Qe ((W7.alloc (a2 #[r,s,p3,x,n,hb j] 38)).drew);have a5:Bw W5 W3:=by rw[<- a8];exact(ac.o.alloc ac.o.size _).drew
  have cv:W3.ownsRow W5 38 6 (a1 (X ⟨W7,0,Y⟩) 1 1) 1 [J U r,J U s,J U p3,J U x,J U n,hb j]:=by rw[<- a8];exact hS (base:=W5.heap.size) (e:=38) (size:=6) W7 #[r,s,p3,x,n,hb j] 1 ac.o.size (by unfold maxLen;omega) rfl
  rw[a8];refine A _ _ (λ_=>a5) ?_;clear A K;clear a8;obtain⟨b4,c4,T,cz,bl,cs,bO⟩:=bz (P:=prog) W3 W5 32 32 38 i0 (.agg #[J U 0,J U 0,J U 0,J U 0,J U 0,hb false]) 6 48 underlying32 HI.o bv.o bw.o al.o rfl (by decide) W7 1 1 [J U r,J U s,J U p3,J U x,J U n,hb j] cv W5 (a1 (X ⟨g,c9,Y⟩) (N-q) (vc-q)) (N-q) DR (eq.o W3 a5) cb.o ci.o (by unfold maxLen;omega) (by omega) a5.size;have a7:Bw W5 T:=a5.grown cs a5.size (λj ej=>by injection ej with ej;have:=ac.o.size;omega);refine Dp 8 λK A=>?_;refine ee rfl rfl rfl cz ?_;refine A _ _ (λ_=>a7) ?_;clear A K;go_simp;refine Qc [9] a7 ?_
  refine dN ?_;have e0:=Z bl;have g8:=Z a7;have eQ:b4<T:=(bl.lt b4 rfl).2;have ds:=Z (dA (B:=W5.heap.size) (e:=38) (k:=6) (w:=T.alloc (a2 #[] 38)) (hG T _) a7.size);have av:Hid (Bw W5 (T.alloc (a2 #[] 38))):=a7.alloc a7.size _;have ca:Hid (W5<=(T.alloc (a2 #[] 38)).heap.size):=av.size;have eg:Hid (W5.heap.size<=T):=a7.size;have s2:(T.alloc (a2 #[] 38)).cell? ⟨p,2,Y⟩=X (a1 g N vc):=(au _ av.o).1;clear bl cs bO a5 bt a7 cv cz
  go_wp2_with (first
   |(at_builtin;refine aJ _ rfl _ _ 32 rfl W5 38 i0 (.agg #[J U 0,J U 0,J U 0,J U 0,J U 0,hb false]) 6 48 underlying32 HI.o bv.o bw.o al.o rfl (by decide) T 0 0 [] rfl ds.o W5 (a1 g q vc) q TK rfl (er.o _ av.o) eb.o e8.o (by unfold maxLen;omega) (by omega) ca.o ?_;intro b5 c5 w5 bs bk _;have cj:Hid (Bw W5 w5):=av.o.grown bk ca.o (λj ej=>by injection ej with ej;have:=eg.o;omega);rw[hV]at bs;have cd:=Z bs;have ex:Hid (w5.ownsRow W5 38 6 (a1 b4 (1+(N-q)) c4) (1+(N-q)) ([J U r,J U s,J U p3,J U x,J U n,hb j]++DR)):=aj e0.o (λg' z=>by have z:X b4=X g':=z;injection z with z;subst z;rw[bk.block _ (by simp;omega) (λe=>by injection e with e;omega)];exact hR _ _ _ eQ);have cl:Hid (W5.heap.size<=w5):=cj.o.size;clear bs bk)
   |(at_builtin;refine aJ _ rfl _ _ 32 rfl W5 38 i0 (.agg #[J U 0,J U 0,J U 0,J U 0,J U 0,hb false]) 6 48 underlying32 HI.o bv.o bw.o al.o rfl (by decide) b5 q c5 ([]++TK) rfl cd.o w5 (a1 b4 (1+(N-q)) c4) (1+(N-q)) ([J U r,J U s,J U p3,J U x,J U n,hb j]++DR) rfl ((aM ex.o).mono (hM _) (hH _)) dz.o e9.o (by unfold maxLen;omega) (by omega) cl.o ?_;intro b6 c6 w6 cy cu _;have l:Bw W5 w6:=cj.o.grown cu cl.o (λj ej=>by injection ej with ej;subst ej;exact(cd.o.lt _ rfl).1);have cg:=Z cy;have ay:=(l.block p (C.o.lt p C.o.fp)).trans C.o.blk;have y1:=(ab ay 2).trans rfl;have z1:=ae ay 2;have g5:=Z ay;have b7:=Z l;clear cy cu ay l))
  go_ret;rw[a6.o];refine⟨rfl,?_⟩;have bc:=C.below b7.o;have gi:=HZ.o;have gn:W5.heap.size<=w6:=b7.size;have aa:w6.ownsRow 0 38 6 (a1 b6 (q+(1+(N-q))) c6) (insL ltPK d.ps ((r,s),p3,x) (n,j)).length ((insL ltPK d.ps ((r,s),p3,x) (n,j)).flatMap decCells):=by rw[dx.o,dy.o];exact aD cg.o (hM _)
  have f0:=cg.lt b6 rfl;have gx:=d0 p C.fp;have a9:b6≠p:=λe=>by omega
  refine⟨λk=>F k∨(w<=k/\k<w6),⟨v1,v2,a1 b6 (q+(1+(N-q))) c6,xs,bc.put3 (w':=w6.setCell ⟨p,2,Y⟩ _) (vN:=a1 b6 (q+(1+(N-q))) c6) (λk E=>.inl E) (λk E=>?_) (λk _ a9 _=>hC _ _ _ _ a9) ((aA bc.blk 2 _).trans rfl) (aj aa (λg' z=>by have z:X b6=X g':=z;injection z with z;subst z;exact hC _ _ _ _ a9)) (λg' z=>?_) (by rw[hy];exact hH _) (d1.o a4.o)⟩,?_⟩
  .rw[hy];rcases E with E|E
   .exact bc.lt k E
   exact E.2
  .have z:X b6=X g':=z;injection z with z
   subst z;exact⟨.inr ⟨by omega,f0.2⟩,.inr (λhf=>by have:=d0.o _ hf;omega)⟩
  have y:Bw w w6:=aC.o.trans (b7.o.mono (by omega));exact((ai.of_below y).trans (ai.of_only (aF.setCell (aF.refl p w6) 2 _) C.fp)).more λk E=>by
   rcases E with E|E
   .exact .inl E
   exact .inr E.1
theorem Av(F:Nat->Prop)(w:ih)(p:Nat)(d:aB)(h:bX F w p d)(a b:RK)(n:Int)(v:rkOk a)(x:rkOk b)(hn:i64B n):
 iF prog 43 #[.pointer p,recK a,recK b,n] w λe w'=>e=fn (J U (decideC d a b n false).2)/\∃c,bX c w' p (decideC d a b n false).1/\ai F w c w':=by
 have j:Hid (∀o f,Bw w ((w.alloc o).alloc f)):=λo f=>((hX _ w).alloc (hH _) o).alloc (by simp) f
 have m:Hid (∀o f,iF prog 82 #[.pointer p,recK a,recK b,n,hb false] ((w.alloc o).alloc f) λe w'=>e=fn (J U (decideC d a b n false).2)/\∃c,bX c w' p (decideC d a b n false).1/\ai F w c w'):=λo f=>
  (oP F _ p d (h.below (j o f)) a b n false v x hn).mono λe w'⟨y,c,g,i⟩=>⟨y,c,g,(ai.of_below (j o f)).trans i⟩
 obtain⟨q,s⟩:=a;obtain⟨t,u⟩:=b;clear h;generalize decideC d (q,s) (t,u) n false=r at*;unfold recK at*;dsimp only at*;go_enter func43,ntmps43;go_wp2_with (go_at_call 82;(refine hL (m.o _ _) ?_;rintro e z⟨rfl,c,g,i⟩;have k:=Z g;have l:=Z i;clear g i))
 go_ret;exact⟨rfl,c,k.o,l.o⟩
theorem BK(F:Nat->Prop)(w:ih)(p:Nat)(d:aB)(h:bX F w p d)(a b:RK)(n:Int)(v:rkOk a)(x:rkOk b)(hn:i64B n):
 iF prog 44 #[.pointer p,recK a,recK b,n] w λe w'=>e=fn (J U (decideC d a b n true).2)/\∃c,bX c w' p (decideC d a b n true).1/\ai F w c w':=by
 have j:Hid (∀o f,Bw w ((w.alloc o).alloc f)):=λo f=>((hX _ w).alloc (hH _) o).alloc (by simp) f
 have m:Hid (∀o f,iF prog 82 #[.pointer p,recK a,recK b,n,hb true] ((w.alloc o).alloc f) λe w'=>e=fn (J U (decideC d a b n true).2)/\∃c,bX c w' p (decideC d a b n true).1/\ai F w c w'):=λo f=>
  (oP F _ p d (h.below (j o f)) a b n true v x hn).mono λe w'⟨y,c,g,i⟩=>⟨y,c,g,(ai.of_below (j o f)).trans i⟩
 obtain⟨q,s⟩:=a;obtain⟨t,u⟩:=b;clear h;generalize decideC d (q,s) (t,u) n true=r at*;unfold recK at*;dsimp only at*;go_enter func44,ntmps44;go_wp2_with (go_at_call 82;(refine hL (m.o _ _) ?_;rintro e z⟨rfl,c,g,i⟩;have k:=Z g;have l:=Z i;clear g i))
 go_ret;exact⟨rfl,c,k.o,l.o⟩
end
end Go.Proofs.YtjcimanddakkaaaGreatDoor
