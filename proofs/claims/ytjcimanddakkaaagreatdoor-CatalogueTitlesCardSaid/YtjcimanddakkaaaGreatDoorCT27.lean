/- Lemmas. -/
import Derived.Test.YtjcimanddakkaaaGreatDoorCT26
set_option maxRecDepth 100000
set_option maxHeartbeats 8000000
namespace Go.Proofs.YtjcimanddakkaaaGreatDoor
open _root_.Option renaming some→X,none→Y
open Tryz
open Go renaming Value→az
section
open Go.RowKit Go.Maps Go.Shelf
structure fX(lm R:Nat)(w:World)(l left:List (RK×az))(L:VL)(set:List Nat):Prop where
 isS:∀k,(lookL l k).isSome=true↔∃t,t<L.length/\set.getD t 0=t/\keyC L t=k
 row:∀t,t<L.length->set.getD t 0=t->∃(v:az)(xs:List RK),lookL l (keyC L t)=some v/\w.ownsRow lm 36 2 v xs (xs.flatMap rkCells)/\xs.Perm (bg L set t)/\((keyC L t,v)∉left->xs=bg L set t)
 dis:∀k1 k2 v1 v2,lookL l k1=some v1->lookL l k2=some v2->k1≠k2->v1.ownBlock≠v2.ownBlock
 lt:∀k v,lookL l k=some v->∀g,v.ownBlock=some g->g<R
section
variable {lm R:Nat} {w w':World} {l left:List (RK×az)} {L:VL} {set:List Nat}
theorem fX.at(h:fX lm R w l left L set){k:RK}{v:az}(e:lookL l k=X v):∃(t:Nat)(a:List RK),t<L.length/\set.getD t 0=t/\keyC L t=k/\w.ownsRow lm 36 2 v a (a.flatMap rkCells)/\a.Perm (bg L set t):=by
 obtain⟨t,d,f,c⟩:=(h.isS k).1 (by rw[e];rfl);obtain⟨j,a,b,g,i,_⟩:=h.row t d f;rw[c,e]at b;injection b with b
 subst b;exact⟨t,a,d,f,c,g,i⟩
theorem fX.far(h:fX lm R w l left L set)(e:∀k v,lookL l k=X v->∀g,v.ownBlock=X g->w'.heap[g]?=w.heap[g]?):fX lm R w' l left L set:=by
 refine⟨h.isS,λt f i=>?_,h.dis,h.lt⟩;obtain⟨v,j,a,b,c,d⟩:=h.row t f i;exact⟨v,j,a,aj b (e _ v a),c,d⟩
theorem ke{K:Type}(lt:K->K->Bool)(a:List K):(de lt a).length=a:=(dp lt a).length_eq
theorem fX.next(h:fX lm R w l left L set)(o:aH ltRK L){k:RK}{v:az}(f:lookL l k=X v){t:Nat}{c:List RK}(C:t<L.length)(d:keyC L t=k)(B:c.Perm (bg L set t))
 (n:w'.ownsRow lm 36 2 v c ((de ltRK c).flatMap rkCells))(y:∀q,q<w.heap.size->v.ownBlock≠X q->w'.heap[q]?=w.heap[q]?):fX lm R w' l (cK left k) L set:=by
 refine⟨h.isS,λs p D=>?_,h.dis,h.lt⟩;obtain⟨u,ys,a,i,r,x⟩:=h.row s p D;by_cases e:s=t
 .subst e;rw[d,f]at a;injection a with a
  subst a;have b:de ltRK c=bg L set s:=cB aY B (jP o set s);rw[<- ke ltRK c,b]at n;exact⟨v,_,by rw[d];exact f,n,.refl _,λ_=>rfl⟩
 have m:keyC L s≠k:=λb=>e (cY o p C (by rw[b,d]));refine⟨u,ys,a,aj i (λg j=>y g (i.lt g j).2 (λb=>h.dis _ _ _ _ a f m (by rw[j,b]))),r,λz=>x (λA=>z ?_)⟩;unfold cK;rw[List.mem_filter];exact⟨A,by simpa using m⟩
theorem UN.sortI{lo:Nat}{F:Nat->Prop}{o n t B i c:Nat}{y z A:Option Nat}{x:az}{d:aB}(h:UN lo lm F w o n t B i c y z A x d L set):∃l,an recB w i l/\fX lm w w l l L set:=by
 obtain⟨l,b,e,f,p⟩:=h.mem;have hn:=b.nodup;refine⟨l,b,e,λt s C=>?_,p,λk v u g q=>(lD e f u g q).2⟩;obtain⟨v,D,a,j,m⟩:=f t s C;exact⟨v,D,a,j,m,λr=>absurd ((bC hn).1 a) r⟩
structure fY(lm:Nat)(ws wr:World):Prop where
 b:Below lm ws wr
 k:∀q,q<ws.heap.size->(∀c,ws.heap[q]?≠some (Obj.cells c 36 (0,0)))->wr.heap[q]?=ws.heap[q]?
theorem fY.of{a:World}(h:Bw a w)(b:lm<=a):fY lm a w:=⟨h.mono b,λq c _=>h.block q c⟩
theorem fY.only{a:World}(h:fY lm a w){r:Nat}(c:aF r w w')(g:a<=r)(f:lm<=a):fY lm a w':=
 ⟨h.b.trans (c.below (by omega)),λq e d=>(c.block q (by omega)).trans (h.k q e d)⟩
theorem fY.sort{f:World}(h:fY lm f w){v:az}{n:Nat}{t:List az}(i:w.ownsRow lm 36 2 v n t)(m:w'.os=w.os/\w'.tape=w.tape/\w'.output=w.output/\w.heap.size<=w'/\∀q,q<w.heap.size->v.ownBlock≠X q->w'.heap[q]?=w.heap[q]?)(x:lm<=f):fY lm f w':=by
 obtain⟨o,p,r,s,j⟩:=m;refine⟨h.b.trans ⟨o,p,r,s,λq a=>?_⟩,λq a d=>?_⟩
 .by_cases e:q<w
  .exact j q e (λc=>by have:=(i.lt q c).1;omega)
  have:=h.b.size;omega
 refine(j q (Nat.lt_of_lt_of_le a h.b.size) (λc=>?_)).trans (h.k q a d);obtain⟨u,g⟩:=aK i c;rw[h.k q a d]at g;exact d _ g
end
theorem UN.done{lo lm R:Nat}{F:Nat->Prop}{i wr:World}{bt bc t O A c:Nat}{x y z:Option Nat}{kn:az}{d:aB}{L:VL}{set:List Nat}(h:UN lo lm F i bt bc t O A c x y z kn d L set)(hL:thereC d=L)(ao:setsC d=set)(j:fY lm i wr){l:List (RK×az)}(V:an recB wr A l)(hs:fX lm R wr l [] L set):
 ed (λk=>F k∨(lo<=k/\k<wr)) (wr.setCell ⟨c,3,Y⟩ (.pointer t)) c x y z (.pointer t) d/\dv (restF (λk=>F k∨(lo<=k/\k<wr)) c x y z) (wr.setCell ⟨c,3,Y⟩ (.pointer t)) t L set:=by
 obtain⟨g1,g2,g3,Q,g5,g6,g7,g8⟩:=h.los;have a:=h.cat;have av:c<lo:=h.lof c a.fc;have hz:i.heap.size<=wr:=j.b.size;obtain⟨W,D⟩:=Qe (wr.setCell ⟨c,3,Y⟩ (.pointer t));have ay:W.heap.size=wr:=by rw[<- D];simp
 have o:∀k,k≠c->W.heap[k]?=wr.heap[k]?:=λk j=>by rw[<- D];exact Below.heap_setCell _ _ _ _ j
 have a8:∀k,k<lm->k≠c->W.heap[k]?=i.heap[k]?:=λk a7 f=>(o k f).trans (j.b.block k a7);have C:∀k,F k->k≠c->W.heap[k]?=i.heap[k]?:=λk n f=>a8 k (by have:=h.lof k n;omega) f;have a5:∀{q:Nat}{I:Array az}{G:TypeId},i.heap[q]?=X (Obj.cells I G (0,0))->G≠36->q≠c->W.heap[q]?=X (Obj.cells I G (0,0)):=λ{q I G}N ht f=>((o q f).trans (j.k q (af N) (λc2 e=>by rw[N]at e;injection e with e;injection e with _ e;exact ht e))).trans N;have a9:∀{b:Nat}{l:List (RK×az)},an recB i b l->lo<=b->an recB W b l:=λ{b l}r ax=>r.block ((o b (by omega)).trans (j.k b r.lt (λc2 e=>absurd rfl (ak r e))));have f:∀{K:Type}[DecidableEq K]{kt:TypeId}{B:eJ prog kt K}{mv:Option Nat}{l:List (K×az)},cI B i mv l->∀b,mv=X b->b≠c:=λ{K _ kt B mv l}r b e=>by subst e;exact ak (show an B i b l from r) a.blk
 have E:∀k,lo<=k->k<wr->restF (λk=>F k∨(lo<=k/\k<wr)) c x y z k:=λk h1 h2=>⟨.inr ⟨h1,h2⟩,by omega,λe=>by have:=h.lof k (a.f1 k e);omega,λe=>by have:=h.lof k (a.f2 k e);omega,λe=>by have:=h.lof k (a.f3 k e);omega⟩;have T:dv (restF (λk=>F k∨(lo<=k/\k<wr)) c x y z) W t L set:=by
  obtain⟨au,a0,ac⟩:=h.of;have tl:=af h.tb;refine⟨O,A,a5 h.tb (by decide) (by omega),E t g3 (by omega),E O Q (by have:=a0.lt;omega),E A g5 V.lt,⟨au,a9 a0 Q,ac⟩,⟨l,V.block (o A (by omega)),hs.isS,λs a3 rs=>?_⟩⟩;obtain⟨v,xs,a1,H,_,a4⟩:=hs.row s a3 rs;obtain rfl:=a4 (by simp);have aa:=mU a3 rs;have ad:0<(bg L set s).length:=List.length_pos_iff.2 aa;obtain⟨g,P,rfl,_⟩:=World.ownsRow.form H ad;have a6:=H.lt g rfl;refine⟨_,a1,g,_,P,rfl,E g (by omega) a6.2,?_⟩;have al:W.ownsRow lm 36 2 (.slice g (bg L set s).length P) (bg L set s).length ((bg L set s).flatMap rkCells):=aj H (λg2 M=>by
   injection M with M
   subst M;exact o g (by omega))
  exact(aM al).mono (Nat.zero_le _) (Nat.le_refl _)
 rw[D];refine⟨⟨?_,?_,?_,?_,.inr ⟨t,rfl,by rw[hL,ao];exact T⟩,.inl a.fc,λm e=>.inl (a.f1 m e),λm e=>.inl (a.f2 m e),λm e=>.inl (a.f3 m e),a.one,λk n=>?_,a.ok⟩,T⟩
 .rw[<- D];exact aA ((j.b.block c (by omega)).trans a.blk) 3 _
 .obtain⟨ps,p1,p2,p3⟩:=a.vs;refine⟨ps,p1,p2.block (λb e=>C b (a.f1 b e) (f p2 b e)),λp hp=>?_⟩;exact((p3 p hp).step (λk u=>C k u.1 u.2.1) (by omega)).wide (λk u=>⟨.inl u.1,u.2⟩)
 .exact a.ds.block (λb e=>C b (a.f2 b e) (f a.ds b e))
 .exact a.ps.block (λb e=>C b (a.f3 b e) (f a.ps b e))
 rcases n with n|n
 .have:=h.lof k n;omega
 omega
end
end Go.Proofs.YtjcimanddakkaaaGreatDoor
