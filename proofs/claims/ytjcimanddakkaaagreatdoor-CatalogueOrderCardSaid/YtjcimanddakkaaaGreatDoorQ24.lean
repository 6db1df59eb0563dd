/- Lemmas. -/
import Derived.Test.YtjcimanddakkaaaGreatDoorQ23
set_option maxRecDepth 100000
set_option maxHeartbeats 8000000
namespace Go.Proofs.YtjcimanddakkaaaGreatDoor
open _root_.Option renaming some→X,none→Y
open Go.Obj renaming cells→a9
open Go.Value renaming int→J,slice→ad
open Go.IntKind renaming i64→U,u8→al
open Tryz
open _root_.List renaming range→ao,take_succ_eq_append_getElem→au,getD_eq_getElem?_getD→av,foldl_append→ax
open Go.Obj renaming cells→ay
open Go renaming Value→aC
section
open Go.RowKit Go.Maps Go.Shelf
theorem bV {L:VL} {i j:Nat} (h:j<i):keyC (L.take i) j=keyC L j:=by
 unfold keyC;rw [av,List.getElem?_take_of_lt h,av]
theorem BJ {L:VL} (g:aq ltRK L) {i:Nat} (b:i<L.length) (k:RK):atC (L.take (i+1)) k=if k=keyC L i then X i else atC (L.take i) k:=by
 have e:L.take (i+1)=L.take i++[L[i]]:=au b;have f:keyC L i=L[i].1:=cF b;have c:(L.take i).length=i:=by rw [List.length_take];omega
 unfold atC;rw [e,List.findIdx?_append,c];cases hf:(L.take i).findIdx? (λp=>decide (p.1=k)) with
 |some j=> rw [Option.some_or];have h1:=at_some (L:=L.take i) (k:=k) (i:=j) hf;rw [c] at h1;rw [bV h1.1] at h1;rw [if_neg];intro a;rw [a] at h1;have:=cN g (by omega) b h1.2;omega
 |none=>
  rw [Option.none_or,f];by_cases a:k=L[i].1
  · rw [if_pos a];simp [a]
  · have d:¬L[i].1=k:=λh=>a h.symm;rw [if_neg a];simp [List.findIdx?_cons,d]
theorem dH {n t:Nat} (h:t<n):(ao n).getD t 0=t:=by
 rw [av,List.getElem?_range h];rfl
theorem pJ {l m:List Nat} (h1:l.Pairwise (· < ·)) (c:m.Pairwise (· < ·)) (h:∀i,i∈l↔i∈m):l=m:=by
 have d:l.Nodup:=h1.imp λ{a b} h=>Nat.ne_of_lt h;have e:m.Nodup:=c.imp λ{a b} h=>Nat.ne_of_lt h;exact ((List.perm_ext_iff_of_nodup d e).2 h).eq_of_pairwise (λa b _ _ f g=>by omega) h1 c
theorem kP {L:VL} {n:Nat} (b:L.length=n) {t:Nat} (h:t<n):aW L (ao n) t=[keyC L t]:=by
 unfold aW;rw [b];have:(ao n).filter (λi=>decide ((ao n).getD i 0=t))=[t]:=by
  have e:(ao n).filter (λi=>decide ((ao n).getD i 0=t))=(ao n).filter (λi=>decide (i=t)):=by apply List.filter_congr;intro i a;rw [dH (List.mem_range.1 a)]
  rw [e];refine pJ (List.Pairwise.filter _ List.pairwise_lt_range) (List.pairwise_singleton _ _) (λi=>?_);rw [List.mem_filter,List.mem_range,List.mem_singleton,decide_eq_true_eq];constructor
  · exact λh=>h.2
  · rintro rfl;exact ⟨h,rfl⟩
 rw [this];rfl
theorem gN {L:VL} (h:aq ltRK L) (i:Nat):aq ltRK (L.take i):=List.Pairwise.sublist (List.take_sublist i L) h
theorem gW {L:VL} {i:Nat} (h:i<=L.length):(L.take i).length=i:=by rw [List.length_take];omega
theorem AM {L:VL} (c:aq ltRK L) {i:Nat} (b:i<L.length) {l:List (RK×aC)} (h:∀k,lookL l k=(atC (L.take i) k).map λj=>recK (keyC (L.take i) ((ao i).getD j 0))):
 ∀k,lookL (putL l (keyC L i) (recK (keyC L i))) k=(atC (L.take (i+1)) k).map λj=>recK (keyC (L.take (i+1)) ((ao (i+1)).getD j 0)):=by
 intro k;rw [dv,BJ c b];by_cases e:k=keyC L i
 · rw [if_pos e,if_pos e];simp only [Option.map_some];rw [dH (by omega),bV (by omega)]
 · rw [if_neg e,if_neg e,h];cases ha:atC (L.take i) k with
   |none=>rfl
   |some j=> have a:=(at_some ha).1;rw [gW (by omega)] at a;simp only [Option.map_some];rw [dH a,dH (by omega),bV a,bV (by omega)]
theorem AL {W:World} {a nb:Nat} {k:RK} (h:W.heap[nb]? =X (a9 #[J U k.1,J U k.2] 36 (0,0))) (b:a<=nb):W.ownsRow a 36 2 (ad (X ⟨nb,0,Y⟩) 1 1) [k].length ([k].flatMap rkCells):=
 ⟨by simp [rkCells], .inr ⟨nb,1,_,rfl,b,h,by simp,by unfold maxLen;omega,by simp,by simp [rkCells]⟩⟩
theorem yX {L:VL} (H:aq ltRK L) {i:Nat} (E:i<L.length) {z nb:Nat} {W m:World} {l:List (RK×aC)} {I:Nat}
 (s:∀k,(lookL l k).isSome=true↔∃t,t<(L.take i).length/\(ao i).getD t 0=t/\keyC (L.take i) t=k)
 (D:∀t,t<(L.take i).length->(ao i).getD t 0=t->∃(v:aC) (j:List RK),lookL l (keyC (L.take i) t)=X v/\W.ownsRow z 36 2 v j.length (j.flatMap rkCells)/\j.Perm (aW (L.take i) (ao i) t))
 (N:∀n o p r,lookL l n=X p->lookL l o=X r->n≠o->p.ownBlock≠r.ownBlock)
 (R:ak recB m I (putL l (keyC L i) (ad (X ⟨nb,0,Y⟩) 1 1))) (T:m.heap[nb]? =X (a9 #[J U (keyC L i).1,J U (keyC L i).2] 36 (0,0))) (P:z<=nb) (V:W.heap.size<=nb)
 (a:∀(q:Nat) (c:Array aC),W.heap[q]? =X (ay c 36 (0,0))->m.heap[q]? =W.heap[q]?):CI z m I (L.take (i+1)) (ao (i+1)):=by
 have x:=gW (L:=L) (i:=i) (by omega);have y:=gW (L:=L) (i:=i+1) (by omega);have Q:∀k v,lookL l k=X v->∀g,v.ownBlock=X g->g<W.heap.size:=λk v w g u=>(lj s D w g u).2;have a0:lookL l (keyC L i)=Y:=by
  cases hl:lookL l (keyC L i) with
  |none=>rfl
  |some v=> obtain ⟨t,b,_,a⟩:=(s _).1 (by rw [hl];rfl);rw [x] at b;rw [bV b] at a;have:=cN H (by omega) E a;omega
 refine ⟨_,R,λk=>?_,λt b K=>?_,λn o p r f d F=>?_⟩
 · rw [dv];by_cases e:k=keyC L i
   · rw [if_pos e];exact ⟨λ_=>⟨i,by omega,dH (by omega),by rw [bV (by omega),e]⟩,λ_=>rfl⟩
   · rw [if_neg e,s];constructor
     · rintro ⟨t,b,K,a⟩;rw [x] at b;exact ⟨t,by omega,dH (by omega),by rw [bV (by omega), <- bV b];exact a⟩
     · rintro ⟨t,b,K,a⟩;rw [y] at b;rw [bV (by omega)] at a;have:t≠i:=λh=>e (by rw [<- a,h]);exact ⟨t,by omega,dH (by omega),by rw [bV (by omega)];exact a⟩
 · rw [y] at b;rw [bV (by omega),dv,kP y b,bV (by omega)];by_cases e:t=i
   · subst e;rw [if_pos rfl];exact ⟨_,[keyC L t],rfl,AL T P, .refl _⟩
   · rw [if_neg (λh=>e (cN H (by omega) E h))];obtain ⟨v,j,A,B,C⟩:=D t (by omega) (dH (by omega));rw [bV (by omega)] at A;rw [kP x (by omega),bV (by omega)] at C;exact ⟨v,j,A,ah B (λg u=>by obtain ⟨c,O⟩:=aA B u;exact a g c O),C⟩
 · rw [dv] at f d;have G:∀k v,lookL l k=X v->(Value.slice (X ⟨nb,0,Y⟩) 1 1).ownBlock≠v.ownBlock:=λk v w e=>by have:=Q k v w nb e.symm;omega
   split at f
   · injection f with f
     subst f;split at d
     · rename_i M h;exact absurd (M.trans h.symm) F
     · exact G _ _ d
   · split at d
     · injection d with d
       subst d;exact λe=>G _ _ f e.symm
     · exact N n o p r f d F
theorem UN.grow {lo p:Nat} {F:Nat->Prop} {W a:World} {s r t m l c:Nat} {C D E:Option Nat} {z:aC} {d:ar} {L:VL} {i:Nat} (h:UN lo p F W s r t m l c C D E z d (L.take i) (ao i)) (o:aq ltRK L) (u:i<L.length) (a6:L.length<=5000) (a1:∀j,j<L.length->rkOk (keyC L j))
 {B f:List (RK×aC)} (K:∀k,lookL B k=(atC (L.take i) k).map λj=>recK (keyC (L.take i) ((ao i).getD j 0))) (a2:ak recB a m (putL B (keyC L i) (recK (keyC L i))))
 (T:∀k,(lookL f k).isSome=true↔∃t,t<(L.take i).length/\(ao i).getD t 0=t/\keyC (L.take i) t=k)
 (V:∀t,t<(L.take i).length->(ao i).getD t 0=t->∃(v:aC) (xs:List RK),lookL f (keyC (L.take i) t)=X v/\W.ownsRow p 36 2 v xs.length (xs.flatMap rkCells)/\xs.Perm (aW (L.take i) (ao i) t))
 (h4:∀x y H I,lookL f x=X H->lookL f y=X I->x≠y->H.ownBlock≠I.ownBlock)
 {nb:Nat} (hm:ak recB a l (putL f (keyC L i) (ad (X ⟨nb,0,Y⟩) 1 1))) (a4:a.heap[nb]? =X (a9 #[J U (keyC L i).1,J U (keyC L i).2] 36 (0,0))) (a0:W.heap.size<=nb)
 (w:∀q,q<W.heap.size->q≠m->q≠l->a.heap[q]? =W.heap[q]?) (hz:W.heap.size<=a.heap.size):UN lo p F a s r t m l c C D E z d (L.take (i+1)) (ao (i+1)):=by
 obtain ⟨M,N,O,P,Q,g6,R,g8⟩:=h.los;have A:=gW (L:=L) (i:=i+1) (by omega);obtain ⟨a8,a5,_⟩:=h.of;obtain ⟨a7,a3,_⟩:=h.mem;have g:∀(q:Nat) (cs:Array aC) (G:TypeId),W.heap[q]? =X (ay cs G (0,0))->a.heap[q]? =W.heap[q]? :=λq cs G b=>w q (ae b) (aj a5 b).symm (aj a3 b).symm;refine ⟨(g _ _ _ h.vt).trans h.vt,(g _ _ _ h.vc).trans h.vc,(g _ _ _ h.tb).trans h.tb,⟨_,a2,AM o u K⟩,yX o u T V h4 hm a4 (by omega) a0 (λq cs b=>g q cs _ b),h.cat.step (λk n=>w k (h.cat.lt k n) (λe=>by have:=h.lof k n;omega) (λe=>by have:=h.lof k n;omega)) hz,h.ne,⟨M,N,O,P,Q,by omega,R,by omega⟩,h.lof,by rw [A];exact dS.range _,gN o _,λj hj=>?_,by omega⟩;rw [A] at hj;rw [bV (by omega)];exact a1 j (by omega)
theorem UN.keep {lo n:Nat} {F:Nat->Prop} {W f:World} {s r t H G c:Nat} {C D E:Option Nat} {B:aC} {d:ar} {L:VL} {set:List Nat} (h:UN lo n F W s r t H G c C D E B d L set) {a:TypeId} (h1:a≠96) (h2:a≠24) (h3:a≠95) (h4:a≠36)
 (m:∀q,q<W.heap.size->(q<n∨∀c,W.heap[q]? ≠X (ay c a (0,0)))->f.heap[q]? =W.heap[q]?) (hz:W.heap.size<=f.heap.size):UN lo n F f s r t H G c C D E B d L set:=by
 obtain ⟨P,Q,R,T,V,g6,g7,g8⟩:=h.los;have i:∀{q:Nat} {cs:Array aC} {u:TypeId},W.heap[q]? =X (ay cs u (0,0))->a≠u->f.heap[q]? =W.heap[q]? :=λ{q cs u} A hu=>m q (ae A) (.inr λc e=>by rw [A] at e;injection e with e;injection e with _ e;exact hu e.symm)
 have z:∀{b:Nat},(∃w c,W.heap[b]? =X (.map w c))->f.heap[b]? =W.heap[b]? :=λ{b} ⟨w,c,x⟩=>m _ (ae x) (.inr λc' j=>by rw [x] at j;injection j with j;exact Obj.noConfusion j);obtain ⟨l,o,I⟩:=h.of;obtain ⟨l',p,K,M,N⟩:=h.mem;refine ⟨(i h.vt h1).trans h.vt,(i h.vc h2).trans h.vc,(i h.tb h3).trans h.tb,⟨l,o.block (z o.mp),I⟩,⟨l',p.block (z p.mp),K,λt ht rt=>?_,N⟩,h.cat.step (λk y=>m k (h.cat.lt k y) (.inl (by have:=h.lof k y;omega))) hz,h.ne,⟨P,Q,R,T,V,by omega,g7,by omega⟩,h.lof,h.ok,h.srt,h.key,h.len⟩;obtain ⟨v,xs,c1,c2,O⟩:=M t ht rt;exact ⟨v,xs,c1,ah c2 (λg hg=>by obtain ⟨c,a0⟩:=aA c2 hg;exact i a0 h4),O⟩
def lO (ps:List (PK×(Int×Bool))) (L:VL) (a:List (PK×(Int×Bool))):List Nat:=(joinedC a L).foldl (λset q=>gJ ps L set q.1 q.2) (ao L.length)
theorem ww (ps:List (PK×(Int×Bool))) (L:VL) (j:Nat) (h:j<ps.length):lO ps L (ps.take (j+1))=if ps[j].2.2 then ci ps L (lO ps L (ps.take j)) ps[j].1 else lO ps L (ps.take j):=by
 unfold lO joinedC;rw [au h,List.filterMap_append,ax];unfold ci;cases h2:ps[j].2.2 with
 |false=>simp [h2]
 |true=>
  simp only [List.filterMap_cons,List.filterMap_nil,h2,if_true];cases h3:atC L ps[j].1.1 with
  |none=>simp
  |some a=>
   cases h4:atC L ps[j].1.2 with
   |none=>simp
   |some b=>simp
def po (ps:List (PK×(Int×Bool))) (L:VL) (a:List (Nat×Nat)):List Nat:=a.foldl (λset q=>gJ ps L set q.1 q.2) (lO ps L ps)
theorem wv (ps:List (PK×(Int×Bool))) {L:VL} (b:aq ltRK L) (a:List (Nat×Nat)) (j:Nat) (h:j<a.length) (h1:a[j].1<L.length) (c:a[j].2<L.length):po ps L (a.take (j+1))=ci ps L (po ps L (a.take j)) (keyC L a[j].1,keyC L a[j].2):=by
 unfold po ci;rw [au h,ax];dsimp only;rw [fu b h1,fu b c];rfl
theorem wt (d:ar):po d.ps (thereC d) (pairsR ((thereC d).map λp=>p.2.2))=setsC d:=by
 unfold po lO setsC;rw [ax]
theorem i62:(prog.info? 62).map (λi=>(i.zero,i.size,i.bytes))=X (X (.agg #[J al 0,J al 0,ad Y 0 0]),3,32):=by kernel_rfl
def restL (d:ar) (ps:List (RK×VX)):List (RK×VX):=ps.filter λp=>inC d (p.1,p.2.1)
theorem tU {d:ar} {ps:List (RK×VX)} (h:ps.map (λp=>(p.1,p.2.1))=d.vs):(restL d ps).map (λp=>(p.1,p.2.1))=thereC d:=by
 unfold restL;rw [qW, <- h,List.filter_map];rfl
def recX (l:List (RK×VX)):List (az×aC):=l.map λp=>(p.2.1.2,p.2.2)
theorem wJ {d:ar} (b:d.Ok) {ps:List (RK×VX)} (h:ps.map (λp=>(p.1,p.2.1))=d.vs) {p:RK×VX} (c:p∈restL d ps):findK ps p.1=X p.2:=by
 have a:=b.vs;rw [<- h] at a;unfold aq at a;rw [List.pairwise_map] at a;exact (cR aN (l:=ps) a).2 (List.mem_filter.1 c).1
end
end Go.Proofs.YtjcimanddakkaaaGreatDoor
