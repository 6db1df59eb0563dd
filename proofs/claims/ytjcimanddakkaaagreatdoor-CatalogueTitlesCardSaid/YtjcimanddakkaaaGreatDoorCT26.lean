/- Lemmas. -/
import Derived.Test.YtjcimanddakkaaaGreatDoorCT24
set_option maxRecDepth 100000
set_option maxHeartbeats 8000000
namespace Go.Proofs.YtjcimanddakkaaaGreatDoor
open _root_.Option renaming some→X,none→Y
open Go.Obj renaming cells→a9
open Go.Value renaming slice→aa,int→J
open Go.IntKind renaming i64→U,u8→ad
open Tryz
open _root_.List renaming range→al,take_succ_eq_append_getElem→ao,getD_eq_getElem?_getD→au,foldl_append→av
open Go.Obj renaming cells→ax
open Go renaming Value→ay
section
open Go.RowKit Go.Maps Go.Shelf
theorem ce{L:VL}{i j:Nat}(h:j<i):keyC (L.take i) j=keyC L j:=by
 unfold keyC;rw[au,List.getElem?_take_of_lt h,au]
theorem Cb{L:VL}(l:aH ltRK L){i:Nat}(c:i<L.length)(k:RK):atC (L.take (i+1)) k=if k=keyC L i then X i else atC (L.take i) k:=by
 have e:L.take (i+1)=L.take i++[L[i]]:=ao c;have g:keyC L i=L[i].1:=cD c;have d:(L.take i).length=i:=by rw[List.length_take];omega
 unfold atC;rw[e,List.findIdx?_append,d];cases hf:(L.take i).findIdx? (λp=>decide (p.1=k))with
 |some j=> rw[Option.some_or];have b:=at_some (L:=L.take i) (k:=k) (i:=j) hf;rw[d]at b;rw[ce b.1]at b;rw[if_neg];intro a;rw[a]at b;have:=cY l (by omega) c b.2;omega
 |none=>
  rw[Option.none_or,g];by_cases a:k=L[i].1
  .rw[if_pos a];simp[a]
  have f:¬L[i].1=k:=λh=>a h.symm;rw[if_neg a];simp[List.findIdx?_cons,f]
theorem dS{n t:Nat}(h:t<n):(al n).getD t 0=t:=by
 rw[au,List.getElem?_range h];rfl
theorem pU{l m:List Nat}(c:l.Pairwise (· < ·))(d:m.Pairwise (· < ·))(h:∀i,i∈l↔i∈m):l=m:=by
 have e:l.Nodup:=c.imp λ{a b}h=>Nat.ne_of_lt h;have f:m.Nodup:=d.imp λ{a b}h=>Nat.ne_of_lt h;exact((List.perm_ext_iff_of_nodup e f).2 h).eq_of_pairwise (λa b _ _ g j=>by omega) c d
theorem kY{L:VL}{n:Nat}(b:L.length=n){t:Nat}(h:t<n):bg L (al n) t=[keyC L t]:=by
 unfold bg;rw[b];have:(al n).filter (λi=>decide ((al n).getD i 0=t))=[t]:=by
  have e:(al n).filter (λi=>decide ((al n).getD i 0=t))=(al n).filter (λi=>decide (i=t)):=by apply List.filter_congr;intro i a;rw[dS (List.mem_range.1 a)]
  rw[e];refine pU (List.Pairwise.filter _ List.pairwise_lt_range) (List.pairwise_singleton _ _) (λi=>?_);rw[List.mem_filter,List.mem_range,List.mem_singleton,decide_eq_true_eq];constructor
  .exactλh=>h.2
  rintro rfl;exact⟨h,rfl⟩
 rw[this];rfl
theorem gV{L:VL}(h:aH ltRK L)(i:Nat):aH ltRK (L.take i):=List.Pairwise.sublist (List.take_sublist i L) h
theorem hE{L:VL}{i:Nat}(h:i<=L.length):(L.take i).length=i:=by rw[List.length_take];omega
theorem A8{L:VL}(c:aH ltRK L){i:Nat}(b:i<L.length){l:List (RK×ay)}(h:∀k,lookL l k=(atC (L.take i) k).map λj=>recK (keyC (L.take i) ((al i).getD j 0))):
 ∀k,lookL (putL l (keyC L i) (recK (keyC L i))) k=(atC (L.take (i+1)) k).map λj=>recK (keyC (L.take (i+1)) ((al (i+1)).getD j 0)):=by
 intro k;rw[dH,Cb c b];by_cases e:k=keyC L i
 .rw[if_pos e,if_pos e];simp only[Option.map_some];rw[dS (by omega),ce (by omega)]
 rw[if_neg e,if_neg e,h];cases ha:atC (L.take i) k with
 |none=>rfl
 |some j=> have a:=(at_some ha).1;rw[hE (by omega)]at a;simp only[Option.map_some];rw[dS a,dS (by omega),ce a,ce (by omega)]
theorem A7{W:World}{a nb:Nat}{k:RK}(h:W.heap[nb]?=X (a9 #[k.1,k.2] 36 (0,0)))(b:a<=nb):W.ownsRow a 36 2 (aa nb 1 1) [k].length ([k].flatMap rkCells):=
 ⟨by simp[rkCells],.inr ⟨nb,1,_,rfl,b,h,by simp,by unfold maxLen;omega,by simp,by simp[rkCells]⟩⟩
theorem zr{L:VL}(H:aH ltRK L){i:Nat}(E:i<L.length){z nb:Nat}{W m:World}{l:List (RK×ay)}{I:Nat}
 (s:∀k,(lookL l k).isSome=true↔∃t,t<(L.take i).length/\(al i).getD t 0=t/\keyC (L.take i) t=k)
 (D:∀t,t<(L.take i).length->(al i).getD t 0=t->∃(v:ay)(j:List RK),lookL l (keyC (L.take i) t)=X v/\W.ownsRow z 36 2 v j (j.flatMap rkCells)/\j.Perm (bg (L.take i) (al i) t))
 (N:∀n o p r,lookL l n=X p->lookL l o=X r->n≠o->p.ownBlock≠r.ownBlock)
 (R:an recB m I (putL l (keyC L i) (aa nb 1 1)))(T:m.heap[nb]?=X (a9 #[J U (keyC L i).1,J U (keyC L i).2] 36 (0,0)))(P:z<=nb)(V:W<=nb)
 (a:∀(q:Nat)(c:Array ay),W.heap[q]?=X (ax c 36 (0,0))->m.heap[q]?=W.heap[q]?):C7 z m I (L.take (i+1)) (al (i+1)):=by
 have x:=hE (L:=L) (i:=i) (by omega);have y:=hE (L:=L) (i:=i+1) (by omega);have Q:∀k v,lookL l k=X v->∀g,v.ownBlock=X g->g<W:=λk v w g u=>(lD s D w g u).2;have a0:lookL l (keyC L i)=Y:=by
  cases hl:lookL l (keyC L i)with
  |none=>rfl
  |some v=> obtain⟨t,b,_,a⟩:=(s _).1 (by rw[hl];rfl);rw[x]at b;rw[ce b]at a;have:=cY H (by omega) E a;omega
 refine⟨_,R,λk=>?_,λt b K=>?_,λn o p r f d F=>?_⟩
 .rw[dH];by_cases e:k=keyC L i
  .rw[if_pos e];exact⟨λ_=>⟨i,by omega,dS (by omega),by rw[ce (by omega),e]⟩,λ_=>rfl⟩
  rw[if_neg e,s];constructor
  .rintro⟨t,b,K,a⟩;rw[x]at b;exact⟨t,by omega,dS (by omega),by rw[ce (by omega),<- ce b];exact a⟩
  rintro⟨t,b,K,a⟩;rw[y]at b;rw[ce (by omega)]at a;have:t≠i:=λh=>e (by rw[<- a,h]);exact⟨t,by omega,dS (by omega),by rw[ce (by omega)];exact a⟩
 .rw[y]at b;rw[ce (by omega),dH,kY y b,ce (by omega)];by_cases e:t=i
  .subst e;rw[if_pos rfl];exact⟨_,[keyC L t],rfl,A7 T P,.refl _⟩
  rw[if_neg (λh=>e (cY H (by omega) E h))];obtain⟨v,j,A,B,C⟩:=D t (by omega) (dS (by omega));rw[ce (by omega)]at A;rw[kY x (by omega),ce (by omega)]at C;exact⟨v,j,A,aj B (λg u=>by obtain⟨c,O⟩:=aK B u;exact a g c O),C⟩
 rw[dH]at f d;have G:∀k v,lookL l k=X v->(Value.slice nb 1 1).ownBlock≠v.ownBlock:=λk v w e=>by have:=Q k v w nb e.symm;omega
 split at f
 .injection f with f
  subst f;split at d
  .rename_i M h;exact absurd (M.trans h.symm) F
  exact G _ _ d
 split at d
 .injection d with d
  subst d;exactλe=>G _ _ f e.symm
 exact N n o p r f d F
theorem UN.grow{lo r:Nat}{F:Nat->Prop}{W a:World}{u s t n m c:Nat}{D E G:Option Nat}{A:ay}{d:aB}{L:VL}{i:Nat}(h:UN lo r F W u s t n m c D E G A d (L.take i) (al i))(p:aH ltRK L)(w:i<L.length)(a6:L.length<=5000)(a1:∀j,j<L.length->rkOk (keyC L j))
 {C f:List (RK×ay)}(M:∀k,lookL C k=(atC (L.take i) k).map λj=>recK (keyC (L.take i) ((al i).getD j 0)))(a2:an recB a n (putL C (keyC L i) (recK (keyC L i))))
 (V:∀k,(lookL f k).isSome=true↔∃t,t<(L.take i).length/\(al i).getD t 0=t/\keyC (L.take i) t=k)
 (h3:∀t,t<(L.take i).length->(al i).getD t 0=t->∃(v:ay)(xs:List RK),lookL f (keyC (L.take i) t)=X v/\W.ownsRow r 36 2 v xs (xs.flatMap rkCells)/\xs.Perm (bg (L.take i) (al i) t))
 (h4:∀y z I K,lookL f y=X I->lookL f z=X K->y≠z->I.ownBlock≠K.ownBlock)
 {nb:Nat}(hm:an recB a m (putL f (keyC L i) (aa nb 1 1)))(a4:a.heap[nb]?=X (a9 #[J U (keyC L i).1,J U (keyC L i).2] 36 (0,0)))(a0:W<=nb)
 (x:∀q,q<W.heap.size->q≠n->q≠m->a.heap[q]?=W.heap[q]?)(hz:W<=a.heap.size):UN lo r F a u s t n m c D E G A d (L.take (i+1)) (al (i+1)):=by
 obtain⟨N,O,P,Q,R,g6,T,g8⟩:=h.los;have B:=hE (L:=L) (i:=i+1) (by omega);obtain⟨a8,a5,_⟩:=h.of;obtain⟨a7,a3,_⟩:=h.mem;have l:∀(q:Nat)(g:Array ay)(H:TypeId),W.heap[q]?=X (ax g H (0,0))->a.heap[q]?=W.heap[q]?:=λq g H b=>x q (af b) (ak a5 b).symm (ak a3 b).symm;refine⟨(l _ _ _ h.vt).trans h.vt,(l _ _ _ h.vc).trans h.vc,(l _ _ _ h.tb).trans h.tb,⟨_,a2,A8 p w M⟩,zr p w V h3 h4 hm a4 (by omega) a0 (λq g b=>l q g _ b),h.cat.step (λk o=>x k (h.cat.lt k o) (λe=>by have:=h.lof k o;omega) (λe=>by have:=h.lof k o;omega)) hz,h.ne,⟨N,O,P,Q,R,by omega,T,by omega⟩,h.lof,by rw[B];exact cw.range _,gV p _,λj hj=>?_,by omega⟩;rw[B]at hj;rw[ce (by omega)];exact a1 j (by omega)
theorem UN.keep{lo n:Nat}{F:Nat->Prop}{W f:World}{s r t I H c:Nat}{D E G:Option Nat}{C:ay}{d:aB}{L:VL}{set:List Nat}(h:UN lo n F W s r t I H c D E G C d L set){a:TypeId}(h1:a≠96)(h2:a≠24)(h3:a≠95)(h4:a≠36)
 (m:∀q,q<W.heap.size->(q<n∨∀c,W.heap[q]?≠X (ax c a (0,0)))->f.heap[q]?=W.heap[q]?)(hz:W<=f.heap.size):UN lo n F f s r t I H c D E G C d L set:=by
 obtain⟨Q,R,T,V,g5,g6,g7,g8⟩:=h.los;have i:∀{q:Nat}{w:Array ay}{u:TypeId},W.heap[q]?=X (ax w u (0,0))->a≠u->f.heap[q]?=W.heap[q]?:=λ{q w u}B hu=>m q (af B) (.inr λc e=>by rw[B]at e;injection e with e;injection e with _ e;exact hu e.symm)
 have A:∀{b:Nat},(∃x c,W.heap[b]?=X (.map x c))->f.heap[b]?=W.heap[b]?:=λ{b} ⟨x,c,y⟩=>m _ (af y) (.inr λc' j=>by rw[y]at j;injection j with j;exact Obj.noConfusion j);obtain⟨l,o,K⟩:=h.of;obtain⟨l',p,M,N,O⟩:=h.mem;refine⟨(i h.vt h1).trans h.vt,(i h.vc h2).trans h.vc,(i h.tb h3).trans h.tb,⟨l,o.block (A o.mp),K⟩,⟨l',p.block (A p.mp),M,λt ht rt=>?_,O⟩,h.cat.step (λk z=>m k (h.cat.lt k z) (.inl (by have:=h.lof k z;omega))) hz,h.ne,⟨Q,R,T,V,g5,by omega,g7,by omega⟩,h.lof,h.ok,h.srt,h.key,h.len⟩;obtain⟨v,xs,c1,c2,P⟩:=N t ht rt;exact⟨v,xs,c1,aj c2 (λg hg=>by obtain⟨c,a0⟩:=aK c2 hg;exact i a0 h4),P⟩
def el(ps:List (PK×(Int×Bool)))(L:VL)(a:List (PK×(Int×Bool))):List Nat:=(joinedC a L).foldl (λset q=>dn ps L set q.1 q.2) (al L.length)
theorem oe(ps:List (PK×(Int×Bool)))(L:VL)(j:Nat)(h:j<ps):el ps L (ps.take (j+1))=if ps[j].2.2 then bP ps L (el ps L (ps.take j)) ps[j].1 else el ps L (ps.take j):=by
 unfold el joinedC;rw[ao h,List.filterMap_append,av];unfold bP;cases h2:ps[j].2.2 with
 |false=>simp[h2]
 |true=>
  simp only[List.filterMap_cons,List.filterMap_nil,h2,if_true];cases h3:atC L ps[j].1.1 with
  |none=>simp
  |some a=>
   cases h4:atC L ps[j].1.2 with
   |none=>simp
   |some b=>simp
def iG(ps:List (PK×(Int×Bool)))(L:VL)(a:List (Nat×Nat)):List Nat:=a.foldl (λset q=>dn ps L set q.1 q.2) (el ps L ps)
theorem wI(ps:List (PK×(Int×Bool))){L:VL}(b:aH ltRK L)(a:List (Nat×Nat))(j:Nat)(h:j<a)(c:a[j].1<L.length)(d:a[j].2<L.length):iG ps L (a.take (j+1))=bP ps L (iG ps L (a.take j)) (keyC L a[j].1,keyC L a[j].2):=by
 unfold iG bP;rw[ao h,av];dsimp only;rw[fD b c,fD b d];rfl
theorem od(d:aB):iG d.ps (thereC d) (pairsR ((thereC d).map λp=>p.2.2))=setsC d:=by
 unfold iG el setsC;rw[av]
theorem i62:(prog.info? 62).map (λi=>(i.zero,i.size,i.bytes))=X (X (.agg #[J ad 0,J ad 0,aa Y 0 0]),3,32):=by kernel_rfl
def restL(d:aB)(ps:List (RK×VX)):List (RK×VX):=ps.filter λp=>inC d (p.1,p.2.1)
theorem iZ{d:aB}{ps:List (RK×VX)}(h:ps.map (λp=>(p.1,p.2.1))=d.vs):(restL d ps).map (λp=>(p.1,p.2.1))=thereC d:=by
 unfold restL;rw[q8,<- h,List.filter_map];rfl
def recX(l:List (RK×VX)):List (aG×ay):=l.map λp=>(p.2.1.2,p.2.2)
theorem wR{d:aB}(b:d.Ok){ps:List (RK×VX)}(h:ps.map (λp=>(p.1,p.2.1))=d.vs){p:RK×VX}(c:p∈restL d ps):findK ps p.1=X p.2:=by
 have a:=b.vs;rw[<- h]at a;unfold aH at a;rw[List.pairwise_map]at a;exact(fh aY (l:=ps) a).2 (List.mem_filter.1 c).1
end
end Go.Proofs.YtjcimanddakkaaaGreatDoor
