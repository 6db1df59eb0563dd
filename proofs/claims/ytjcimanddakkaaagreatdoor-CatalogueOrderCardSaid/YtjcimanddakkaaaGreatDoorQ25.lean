/- Lemmas. -/
import Derived.Test.YtjcimanddakkaaaGreatDoorQ24
set_option maxRecDepth 100000
set_option maxHeartbeats 8000000
namespace Go.Proofs.YtjcimanddakkaaaGreatDoor
open _root_.Option renaming some→X,none→Y
open Go.Value renaming pointer→a2
open Tryz
open Go renaming Value→aC
section
open Go.RowKit Go.Maps Go.Shelf
structure fQ (lm R:Nat) (w:World) (l left:List (RK×aC)) (L:VL) (set:List Nat):Prop where
 isS:∀k,(lookL l k).isSome=true↔∃t,t<L.length/\set.getD t 0=t/\keyC L t=k
 row:∀t,t<L.length->set.getD t 0=t->∃(v:aC) (xs:List RK),lookL l (keyC L t)=some v/\w.ownsRow lm 36 2 v xs.length (xs.flatMap rkCells)/\xs.Perm (aW L set t)/\((keyC L t,v)∉left->xs=aW L set t)
 dis:∀k1 k2 v1 v2,lookL l k1=some v1->lookL l k2=some v2->k1≠k2->v1.ownBlock≠v2.ownBlock
 lt:∀k v,lookL l k=some v->∀g,v.ownBlock=some g->g<R
section
variable {lm R:Nat} {w w':World} {l left:List (RK×aC)} {L:VL} {set:List Nat}
theorem fQ.at (h:fQ lm R w l left L set) {k:RK} {v:aC} (d:lookL l k=X v):∃(t:Nat) (a:List RK),t<L.length/\set.getD t 0=t/\keyC L t=k/\w.ownsRow lm 36 2 v a.length (a.flatMap rkCells)/\a.Perm (aW L set t):=by
 obtain ⟨t,c,e,b⟩:=(h.isS k).1 (by rw [d];rfl);obtain ⟨i,a,h1,f,g,_⟩:=h.row t c e;rw [b,d] at h1;injection h1 with h1
 subst h1;exact ⟨t,a,c,e,b,f,g⟩
theorem fQ.far (h:fQ lm R w l left L set) (d:∀k v,lookL l k=X v->∀g,v.ownBlock=X g->w'.heap[g]? =w.heap[g]?):fQ lm R w' l left L set:=by
 refine ⟨h.isS,λt e f=>?_,h.dis,h.lt⟩;obtain ⟨v,i,h1,a,b,c⟩:=h.row t e f;exact ⟨v,i,h1,ah a (d _ v h1),b,c⟩
theorem jT {K:Type} (lt:K->K->Bool) (a:List K):(cw lt a).length=a.length:=(cZ lt a).length_eq
theorem fQ.next (h:fQ lm R w l left L set) (n:aq ltRK L) {k:RK} {v:aC} (d:lookL l k=X v) {t:Nat} {b:List RK} (B:t<L.length) (c:keyC L t=k) (A:b.Perm (aW L set t))
 (m:w'.ownsRow lm 36 2 v b.length ((cw ltRK b).flatMap rkCells)) (x:∀q,q<w.heap.size->v.ownBlock≠X q->w'.heap[q]? =w.heap[q]?):fQ lm R w' l (cn left k) L set:=by
 refine ⟨h.isS,λs o C=>?_,h.dis,h.lt⟩;obtain ⟨u,ys,h1,f,p,r⟩:=h.row s o C;by_cases e:s=t
 · subst e;rw [c,d] at h1;injection h1 with h1
   subst h1;have a:cw ltRK b=aW L set s:=bh aN A (jI n set s);rw [<- jT ltRK b,a] at m;exact ⟨v,_,by rw [c];exact d,m, .refl _,λ_=>rfl⟩
 · have j:keyC L s≠k:=λa=>e (cN n o B (by rw [a,c]));refine ⟨u,ys,h1,ah f (λg i=>x g (f.lt g i).2 (λa=>h.dis _ _ _ _ h1 d j (by rw [i,a]))),p,λy=>r (λz=>y ?_)⟩;unfold cn;rw [List.mem_filter];exact ⟨z,by simpa using j⟩
theorem UN.sortI {lo:Nat} {F:Nat->Prop} {n m t B f c:Nat} {y z A:Option Nat} {x:aC} {d:ar} (h:UN lo lm F w n m t B f c y z A x d L set):∃l,ak recB w f l/\fQ lm w.heap.size w l l L set:=by
 obtain ⟨l,h1,b,e,o⟩:=h.mem;have r:=h1.nodup;refine ⟨l,h1,b,λt s C=>?_,o,λk v u g p=>(lj b e u g p).2⟩;obtain ⟨v,D,a,i,j⟩:=e t s C;exact ⟨v,D,a,i,j,λq=>absurd ((bl r).1 a) q⟩
structure fS (lm:Nat) (ws wr:World):Prop where
 b:Below lm ws wr
 k:∀q,q<ws.heap.size->(∀c,ws.heap[q]? ≠some (Obj.cells c 36 (0,0)))->wr.heap[q]? =ws.heap[q]?
theorem fS.of {a:World} (h:Bw a w) (b:lm<=a.heap.size):fS lm a w:=⟨h.mono b,λq c _=>h.block q c⟩
theorem fS.only {a:World} (h:fS lm a w) {r:Nat} (c:aw r w w') (g:a.heap.size<=r) (f:lm<=a.heap.size):fS lm a w':=
 ⟨h.b.trans (c.below (by omega)),λq e d=>(c.block q (by omega)).trans (h.k q e d)⟩
theorem fS.sort {f:World} (h:fS lm f w) {v:aC} {n:Nat} {t:List aC} (i:w.ownsRow lm 36 2 v n t) (m:w'.os=w.os/\w'.tape=w.tape/\w'.output=w.output/\w.heap.size<=w'.heap.size/\∀q,q<w.heap.size->v.ownBlock≠X q->w'.heap[q]? =w.heap[q]?) (x:lm<=f.heap.size):fS lm f w':=by
 obtain ⟨o,p,r,s,j⟩:=m;refine ⟨h.b.trans ⟨o,p,r,s,λq a=>?_⟩,λq a d=>?_⟩
 · by_cases e:q<w.heap.size
   · exact j q e (λc=>by have:=(i.lt q c).1;omega)
   · have:=h.b.size;omega
 · refine (j q (Nat.lt_of_lt_of_le a h.b.size) (λc=>?_)).trans (h.k q a d);obtain ⟨u,g⟩:=aA i c;rw [h.k q a d] at g;exact d _ g
end
theorem UN.done {lo lm R:Nat} {F:Nat->Prop} {i wr:World} {bt bc t N A c:Nat} {x y z:Option Nat} {kn:aC} {d:ar} {L:VL} {set:List Nat} (h:UN lo lm F i bt bc t N A c x y z kn d L set) (hL:thereC d=L) (ao:setsC d=set) (j:fS lm i wr) {l:List (RK×aC)} (T:ak recB wr A l) (hs:fQ lm R wr l [] L set):
 dF (λk=>F k∨(lo<=k/\k<wr.heap.size)) (wr.setCell ⟨c,3,Y⟩ (a2 (X ⟨t,0,Y⟩))) c x y z (a2 (X ⟨t,0,Y⟩)) d/\de (restF (λk=>F k∨(lo<=k/\k<wr.heap.size)) c x y z) (wr.setCell ⟨c,3,Y⟩ (a2 (X ⟨t,0,Y⟩))) t L set:=by
 obtain ⟨g1,g2,g3,P,g5,g6,g7,g8⟩:=h.los;have a:=h.cat;have av:c<lo:=h.lof c a.fc;have hz:i.heap.size<=wr.heap.size:=j.b.size;obtain ⟨W,D⟩:=Qe (wr.setCell ⟨c,3,Y⟩ (a2 (X ⟨t,0,Y⟩)));have ay:W.heap.size=wr.heap.size:=by rw [<- D];simp
 have o:∀k,k≠c->W.heap[k]? =wr.heap[k]? :=λk j=>by rw [<- D];exact Below.heap_setCell _ _ _ _ j
 have a7:∀k,k<lm->k≠c->W.heap[k]? =i.heap[k]? :=λk a6 f=>(o k f).trans (j.b.block k a6);have C:∀k,F k->k≠c->W.heap[k]? =i.heap[k]? :=λk n f=>a7 k (by have:=h.lof k n;omega) f;have a3:∀{q:Nat} {cs:Array aC} {G:TypeId},i.heap[q]? =X (Obj.cells cs G (0,0))->G≠36->q≠c->W.heap[q]? =X (Obj.cells cs G (0,0)):=λ{q cs G} M ht f=>((o q f).trans (j.k q (ae M) (λc2 e=>by rw [M] at e;injection e with e;injection e with _ e;exact ht e))).trans M;have a8:∀{b:Nat} {l:List (RK×aC)},ak recB i b l->lo<=b->ak recB W b l:=λ{b l} r ax=>r.block ((o b (by omega)).trans (j.k b r.lt (λc2 e=>absurd rfl (aj r e))));have f:∀{K:Type} [DecidableEq K] {kt:TypeId} {B:ez prog kt K} {mv:Option Nat} {l:List (K×aC)},bQ B i mv l->∀b,mv=X b->b≠c:=λ{K _ kt B mv l} r b e=>by subst e;exact aj (show ak B i b l from r) a.blk
 have E:∀k,lo<=k->k<wr.heap.size->restF (λk=>F k∨(lo<=k/\k<wr.heap.size)) c x y z k:=λk h1 h2=>⟨.inr ⟨h1,h2⟩,by omega,λe=>by have:=h.lof k (a.f1 k e);omega,λe=>by have:=h.lof k (a.f2 k e);omega,λe=>by have:=h.lof k (a.f3 k e);omega⟩;have Q:de (restF (λk=>F k∨(lo<=k/\k<wr.heap.size)) c x y z) W t L set:=by
  obtain ⟨au,V,ac⟩:=h.of;have tl:=ae h.tb;refine ⟨N,A,a3 h.tb (by decide) (by omega),E t g3 (by omega),E N P (by have:=V.lt;omega),E A g5 T.lt,⟨au,a8 V P,ac⟩,⟨l,T.block (o A (by omega)),hs.isS,λs a0 rs=>?_⟩⟩;obtain ⟨v,xs,a1,H,_,a4⟩:=hs.row s a0 rs;obtain rfl:=a4 (by simp);have a9:=mG a0 rs;have ad:0<(aW L set s).length:=List.length_pos_iff.2 a9;obtain ⟨g,O,rfl,_⟩:=World.ownsRow.form H ad;have a5:=H.lt g rfl;refine ⟨_,a1,g,_,O,rfl,E g (by omega) a5.2,?_⟩;have al:W.ownsRow lm 36 2 (.slice (X ⟨g,0,Y⟩) (aW L set s).length O) (aW L set s).length ((aW L set s).flatMap rkCells):=ah H (λg2 I=>by
   injection I with I
   subst I;exact o g (by omega))
  exact (aP al).mono (Nat.zero_le _) (Nat.le_refl _)
 rw [D];refine ⟨⟨?_,?_,?_,?_, .inr ⟨t,rfl,by rw [hL,ao];exact Q⟩, .inl a.fc,λm e=> .inl (a.f1 m e),λm e=> .inl (a.f2 m e),λm e=> .inl (a.f3 m e),a.one,λk n=>?_,a.ok⟩,Q⟩
 · rw [<- D];exact ap ((j.b.block c (by omega)).trans a.blk) 3 _
 · obtain ⟨ps,p1,p2,p3⟩:=a.vs;refine ⟨ps,p1,p2.block (λb e=>C b (a.f1 b e) (f p2 b e)),λp hp=>?_⟩;exact ((p3 p hp).step (λk u=>C k u.1 u.2.1) (by omega)).wide (λk u=>⟨.inl u.1,u.2⟩)
 · exact a.ds.block (λb e=>C b (a.f2 b e) (f a.ds b e))
 · exact a.ps.block (λb e=>C b (a.f3 b e) (f a.ps b e))
 · rcases n with n|n
   · have:=h.lof k n;omega
   · omega
end
end Go.Proofs.YtjcimanddakkaaaGreatDoor
