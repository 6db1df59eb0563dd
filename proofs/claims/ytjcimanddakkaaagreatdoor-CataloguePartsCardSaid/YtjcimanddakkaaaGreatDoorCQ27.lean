/- Lemmas. -/
import Derived.Test.YtjcimanddakkaaaGreatDoorCQ26
set_option maxRecDepth 100000
set_option maxHeartbeats 8000000
namespace Go.Proofs.YtjcimanddakkaaaGreatDoor
open _root_.Option renaming some→X,none→Y
open Go.Value renaming pointer→a2
open Tryz
open Go renaming Value→aS
section
open Go.RowKit Go.Maps Go.Shelf
structure fO(lm R:Nat)(w:World)(l left:List (RK×aS))(L:VL)(set:List Nat):Prop where
 isS:∀k,(lookL l k).isSome=true↔∃t,t<L.length/\set.getD t 0=t/\keyC L t=k
 row:∀t,t<L.length->set.getD t 0=t->∃(v:aS)(xs:List RK),lookL l (keyC L t)=some v/\w.ownsRow lm 36 2 v xs.length (xs.flatMap rkCells)/\xs.Perm (be L set t)/\((keyC L t,v)∉left->xs=be L set t)
 dis:∀k1 k2 v1 v2,lookL l k1=some v1->lookL l k2=some v2->k1≠k2->v1.ownBlock≠v2.ownBlock
 lt:∀k v,lookL l k=some v->∀g,v.ownBlock=some g->g<R
section
variable {lm R:Nat} {w w':World} {l left:List (RK×aS)} {L:VL} {set:List Nat}
theorem fO.at(h:fO lm R w l left L set){k:RK}{v:aS}(e:lookL l k=X v):∃(t:Nat)(a:List RK),t<L.length/\set.getD t 0=t/\keyC L t=k/\w.ownsRow lm 36 2 v a.length (a.flatMap rkCells)/\a.Perm (be L set t):=by
 obtain⟨t,d,f,c⟩:=(h.isS k).1 (by rw[e];rfl);obtain⟨j,a,b,g,i,_⟩:=h.row t d f;rw[c,e]at b;injection b with b
 subst b;exact⟨t,a,d,f,c,g,i⟩
theorem fO.far(h:fO lm R w l left L set)(e:∀k v,lookL l k=X v->∀g,v.ownBlock=X g->w'.heap[g]?=w.heap[g]?):fO lm R w' l left L set:=by
 refine⟨h.isS,λt f i=>?_,h.dis,h.lt⟩;obtain⟨v,j,a,b,c,d⟩:=h.row t f i;exact⟨v,j,a,ai b (e _ v a),c,d⟩
theorem jY{K:Type}(lt:K->K->Bool)(a:List K):(cU lt a).length=a.length:=(di lt a).length_eq
theorem fO.next(h:fO lm R w l left L set)(o:aB ltRK L){k:RK}{v:aS}(f:lookL l k=X v){t:Nat}{c:List RK}(C:t<L.length)(d:keyC L t=k)(B:c.Perm (be L set t))
 (n:w'.ownsRow lm 36 2 v c.length ((cU ltRK c).flatMap rkCells))(y:∀q,q<w.heap.size->v.ownBlock≠X q->w'.heap[q]?=w.heap[q]?):fO lm R w' l (cB left k) L set:=by
 refine⟨h.isS,λs p D=>?_,h.dis,h.lt⟩;obtain⟨u,ys,a,i,r,x⟩:=h.row s p D;by_cases e:s=t
 .subst e;rw[d,f]at a;injection a with a
  subst a;have b:cU ltRK c=be L set s:=co aW B (gl o set s);rw[<- jY ltRK c,b]at n;exact⟨v,_,by rw[d];exact f,n,.refl _,λ_=>rfl⟩
 have m:keyC L s≠k:=λb=>e (cO o p C (by rw[b,d]));refine⟨u,ys,a,ai i (λg j=>y g (i.lt g j).2 (λb=>h.dis _ _ _ _ a f m (by rw[j,b]))),r,λz=>x (λA=>z ?_)⟩;unfold cB;rw[List.mem_filter];exact⟨A,by simpa using m⟩
theorem UN.sortI{lo:Nat}{F:Nat->Prop}{o n t B i c:Nat}{y z A:Option Nat}{x:aS}{d:ar}(h:UN lo lm F w o n t B i c y z A x d L set):∃l,ak recB w i l/\fO lm w.heap.size w l l L set:=by
 obtain⟨l,b,e,f,p⟩:=h.mem;have hn:=b.nodup;refine⟨l,b,e,λt s C=>?_,p,λk v u g q=>(ly e f u g q).2⟩;obtain⟨v,D,a,j,m⟩:=f t s C;exact⟨v,D,a,j,m,λr=>absurd ((bz hn).1 a) r⟩
structure fP(lm:Nat)(ws wr:World):Prop where
 b:Below lm ws wr
 k:∀q,q<ws.heap.size->(∀c,ws.heap[q]?≠some (Obj.cells c 36 (0,0)))->wr.heap[q]?=ws.heap[q]?
theorem fP.of{a:World}(h:Bw a w)(b:lm<=a.heap.size):fP lm a w:=⟨h.mono b,λq c _=>h.block q c⟩
theorem fP.only{a:World}(h:fP lm a w){r:Nat}(c:az r w w')(g:a.heap.size<=r)(f:lm<=a.heap.size):fP lm a w':=
 ⟨h.b.trans (c.below (by omega)),λq e d=>(c.block q (by omega)).trans (h.k q e d)⟩
theorem fP.sort{f:World}(h:fP lm f w){v:aS}{n:Nat}{t:List aS}(i:w.ownsRow lm 36 2 v n t)(m:w'.os=w.os/\w'.tape=w.tape/\w'.output=w.output/\w.heap.size<=w'.heap.size/\∀q,q<w.heap.size->v.ownBlock≠X q->w'.heap[q]?=w.heap[q]?)(x:lm<=f.heap.size):fP lm f w':=by
 obtain⟨o,p,r,s,j⟩:=m;refine⟨h.b.trans ⟨o,p,r,s,λq a=>?_⟩,λq a d=>?_⟩
 .by_cases e:q<w.heap.size
  .exact j q e (λc=>by have:=(i.lt q c).1;omega)
  have:=h.b.size;omega
 refine(j q (Nat.lt_of_lt_of_le a h.b.size) (λc=>?_)).trans (h.k q a d);obtain⟨u,g⟩:=aH i c;rw[h.k q a d]at g;exact d _ g
end
theorem UN.done{lo lm R:Nat}{F:Nat->Prop}{i wr:World}{bt bc t O A c:Nat}{x y z:Option Nat}{kn:aS}{d:ar}{L:VL}{set:List Nat}(h:UN lo lm F i bt bc t O A c x y z kn d L set)(hL:thereC d=L)(au:setsC d=set)(j:fP lm i wr){l:List (RK×aS)}(V:ak recB wr A l)(hs:fO lm R wr l [] L set):
 dU (λk=>F k∨(lo<=k/\k<wr.heap.size)) (wr.setCell ⟨c,3,Y⟩ (a2 (X ⟨t,0,Y⟩))) c x y z (a2 (X ⟨t,0,Y⟩)) d/\dn (restF (λk=>F k∨(lo<=k/\k<wr.heap.size)) c x y z) (wr.setCell ⟨c,3,Y⟩ (a2 (X ⟨t,0,Y⟩))) t L set:=by
 obtain⟨g1,g2,g3,Q,g5,g6,g7,g8⟩:=h.los;have a:=h.cat;have ax:c<lo:=h.lof c a.fc;have hz:i.heap.size<=wr.heap.size:=j.b.size;obtain⟨W,D⟩:=Qe (wr.setCell ⟨c,3,Y⟩ (a2 (X ⟨t,0,Y⟩)));have aC:W.heap.size=wr.heap.size:=by rw[<- D];simp
 have o:∀k,k≠c->W.heap[k]?=wr.heap[k]?:=λk j=>by rw[<- D];exact Below.heap_setCell _ _ _ _ j
 have a8:∀k,k<lm->k≠c->W.heap[k]?=i.heap[k]?:=λk a7 f=>(o k f).trans (j.b.block k a7);have C:∀k,F k->k≠c->W.heap[k]?=i.heap[k]?:=λk n f=>a8 k (by have:=h.lof k n;omega) f;have a5:∀{q:Nat}{I:Array aS}{G:TypeId},i.heap[q]?=X (Obj.cells I G (0,0))->G≠36->q≠c->W.heap[q]?=X (Obj.cells I G (0,0)):=λ{q I G}N ht f=>((o q f).trans (j.k q (ae N) (λc2 e=>by rw[N]at e;injection e with e;injection e with _ e;exact ht e))).trans N;have a9:∀{b:Nat}{l:List (RK×aS)},ak recB i b l->lo<=b->ak recB W b l:=λ{b l}r ay=>r.block ((o b (by omega)).trans (j.k b r.lt (λc2 e=>absurd rfl (aj r e))));have f:∀{K:Type}[DecidableEq K]{kt:TypeId}{B:ev prog kt K}{mv:Option Nat}{l:List (K×aS)},cw B i mv l->∀b,mv=X b->b≠c:=λ{K _ kt B mv l}r b e=>by subst e;exact aj (show ak B i b l from r) a.blk
 have E:∀k,lo<=k->k<wr.heap.size->restF (λk=>F k∨(lo<=k/\k<wr.heap.size)) c x y z k:=λk h1 h2=>⟨.inr ⟨h1,h2⟩,by omega,λe=>by have:=h.lof k (a.f1 k e);omega,λe=>by have:=h.lof k (a.f2 k e);omega,λe=>by have:=h.lof k (a.f3 k e);omega⟩;have T:dn (restF (λk=>F k∨(lo<=k/\k<wr.heap.size)) c x y z) W t L set:=by
  obtain⟨av,a0,ad⟩:=h.of;have tl:=ae h.tb;refine⟨O,A,a5 h.tb (by decide) (by omega),E t g3 (by omega),E O Q (by have:=a0.lt;omega),E A g5 V.lt,⟨av,a9 a0 Q,ad⟩,⟨l,V.block (o A (by omega)),hs.isS,λs a3 rs=>?_⟩⟩;obtain⟨v,xs,a1,H,_,a4⟩:=hs.row s a3 rs;obtain rfl:=a4 (by simp);have ac:=mQ a3 rs;have al:0<(be L set s).length:=List.length_pos_iff.2 ac;obtain⟨g,P,rfl,_⟩:=World.ownsRow.form H al;have a6:=H.lt g rfl;refine⟨_,a1,g,_,P,rfl,E g (by omega) a6.2,?_⟩;have ao:W.ownsRow lm 36 2 (.slice (X ⟨g,0,Y⟩) (be L set s).length P) (be L set s).length ((be L set s).flatMap rkCells):=ai H (λg2 M=>by
   injection M with M
   subst M;exact o g (by omega))
  exact(aN ao).mono (Nat.zero_le _) (Nat.le_refl _)
 rw[D];refine⟨⟨?_,?_,?_,?_,.inr ⟨t,rfl,by rw[hL,au];exact T⟩,.inl a.fc,λm e=>.inl (a.f1 m e),λm e=>.inl (a.f2 m e),λm e=>.inl (a.f3 m e),a.one,λk n=>?_,a.ok⟩,T⟩
 .rw[<- D];exact aq ((j.b.block c (by omega)).trans a.blk) 3 _
 .obtain⟨ps,p1,p2,p3⟩:=a.vs;refine⟨ps,p1,p2.block (λb e=>C b (a.f1 b e) (f p2 b e)),λp hp=>?_⟩;exact((p3 p hp).step (λk u=>C k u.1 u.2.1) (by omega)).wide (λk u=>⟨.inl u.1,u.2⟩)
 .exact a.ds.block (λb e=>C b (a.f2 b e) (f a.ds b e))
 .exact a.ps.block (λb e=>C b (a.f3 b e) (f a.ps b e))
 rcases n with n|n
 .have:=h.lof k n;omega
 omega
end
end Go.Proofs.YtjcimanddakkaaaGreatDoor
