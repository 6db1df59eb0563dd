/- Lemmas. -/
import Derived.Test.YtjcimanddakkaaaGreatDoorZ13
set_option maxRecDepth 100000
set_option maxHeartbeats 8000000
namespace Go.Proofs.YtjcimanddakkaaaGreatDoor
open _root_.Option renaming some→X,none→Y
open Go.Value renaming int→J,slice→fn,map→g1,bool→gP,pointer→hb
open Go.IntKind renaming i64→U
open Go.Ending renaming returned→hK
open Go.Obj renaming cells→ih
open Go.Lib renaming hid→Z
open Tryz
open Go.World renaming alloc_heap_new→mk
open _root_.Nat renaming le_refl→nq,zero_le→vN,le_trans→wb,min_eq_left→w5,zero_add→xc,le_of_lt→xk
open Go.RowKit.Below renaming refl→r1,heap_setCell→wc
open Go.Instr renaming lookup→r2
open Go.Value renaming ownBlock→wa
open Go renaming World→wf,Value→wx,results_none→wB,bodyPost_ret→xa,TypeId→xv
open _root_.List renaming take_of_length_le→wq,take_succ_eq_append_getElem→w0,getElem_mem→w2
open _root_.Option.some renaming injEq→ws
open Go.World.ownsRow renaming form→w4
open Go.Calls renaming mono→xb
open Go.Result renaming andThen_ok→x0
section
open Go.RowKit Go.Maps Go.Shelf
structure BG (lo:Nat) (w:wf) (b:Nat) (L:VL) (set:List Nat):Prop where
 ex:∃l,am recB w b l/\(∀k,(lookL l k).isSome=true↔∃t,t<L.length/\set.getD t 0=t/\keyC L t=k)/\
  (∀t,t<L.length->set.getD t 0=t->∃(v:wx) (xs:List RK),lookL l (keyC L t)=some v/\w.ownsRow lo 36 2 v xs.length (xs.flatMap rkCells)/\xs.Perm (aW L set t))/\
  ∀k1 k2 v1 v2,lookL l k1=some v1->lookL l k2=some v2->k1≠k2->v1.ownBlock≠v2.ownBlock
theorem kR {lo:Nat} {w:wf} {L:VL} {set:List Nat} {k:RK} {l:List (RK×wx)} (i:∀k,(lookL l k).isSome=true↔∃t,t<L.length/\set.getD t 0=t/\keyC L t=k) (e:∀t,t<L.length->set.getD t 0=t->∃(v:wx) (c:List RK),lookL l (keyC L t)=X v/\w.ownsRow lo 36 2 v c.length (c.flatMap rkCells)/\c.Perm (aW L set t)) {v:wx} (d:lookL l k=X v):
 ∀g,v.ownBlock=X g->lo<=g/\g<w.heap.size:=by
 obtain ⟨t,m,n,h⟩:=(i k).1 (by rw [d];rfl);obtain ⟨p,c,b,j,_⟩:=e t m n;rw [h,d] at b;injection b with b
 subst b;exact λg f=>j.lt g f
structure UN (lo lm:Nat) (F:Nat->Prop) (w:wf) (bt bc t mo mm c:Nat) (m1 m2 m3:Option Nat) (kn:wx) (d:aE) (L:VL) (set:List Nat):Prop where
 vt:Bk w bt #[.pointer (some ⟨t,0,none⟩)] 96
 vc:Bk w bc #[.pointer (some ⟨c,0,none⟩)] 24
 tb:Bk w t #[.map (some mo), .map (some mm)] 95
 of:BF w mo L set
 mem:BG lm w mm L set
 cat:dw F w c m1 m2 m3 kn d
 ne:mo≠mm
 los:lo<=bt/\lo<=bc/\lo<=t/\lo<=mo/\lo<=mm/\lo<=w.heap.size/\lo<=lm/\lm<=w.heap.size
 lof:∀k,F k->k<lo
 ok:dS L.length set
 srt:aw ltRK L
 key:∀i,i<L.length->rkOk (keyC L i)
 len:L.length<=5000
theorem UN.below {lo n:Nat} {F:Nat->Prop} {w w':wf} {j i t u s c:Nat} {p q r:Option Nat} {m:wx} {d:aE} {L:VL} {set:List Nat} (h:UN lo n F w j i t u s c p q r m d L set) (b:Bw w w'):UN lo n F w' j i t u s c p q r m d L set:=by
 obtain ⟨l,e,x⟩:=h.of;obtain ⟨V,f,y,z,A⟩:=h.mem;refine ⟨(b.block _ (ae h.vt)).trans h.vt,(b.block _ (ae h.vc)).trans h.vc,(b.block _ (ae h.tb)).trans h.tb,⟨l,e.block (b.block _ e.lt),x⟩,⟨V,f.block (b.block _ f.lt),y,λt T W=>?_,A⟩,h.cat.below b,h.ne,?_,h.lof,h.ok,h.srt,h.key,h.len⟩
 · obtain ⟨v,xs,N,k,O⟩:=z t T W;exact ⟨v,xs,N,ag k (λg R=>b.block g (k.lt g R).2),O⟩
 · obtain ⟨B,C,D,E,G,H,I,M⟩:=h.los;exact ⟨B,C,D,E,G,wb H b.size,I,wb M b.size⟩
def UFr (b:Nat) (w w':wf) (e d:Nat):Prop:=∀q,q<w.heap.size->q≠e->q≠d->(q<b∨∀c,w.heap[q]? ≠X (Obj.cells c 36 (0,0)))->w'.heap[q]? =w.heap[q]?
theorem yc {L:VL} {set:List Nat} (u:aw ltRK L) (m:dS L.length set) {l g:List (RK×wx)} (h:∀k,lookL l k=(atC L k).map λi=>recK (keyC L (set.getD i 0))) {x y:Nat} {zs:List RK} (f:zs.Perm (aW L (mergeS set x y) (min x y)))
 (n:∀k,lookL g k=if k∈zs then X (recK (keyC L (min x y))) else lookL l k):∀k,lookL g k=(atC L k).map λi=>recK (keyC L ((mergeS set x y).getD i 0)):=by
 intro k;rw [n,h];have v:∀i,i<L.length->((mergeS set x y).getD i 0=min x y↔set.getD i 0=x∨set.getD i 0=y∨set.getD i 0=min x y):=λi b=>by
  rw [cE (by rw [m.len];exact b)];split
  · rename_i h;exact ⟨λ_=>h.elim .inl (λh=> .inr (.inl h)),λ_=>rfl⟩
  · rename_i h;exact ⟨λe=> .inr (.inr e),λe=>by rcases e with e|e|e;exact absurd (.inl e) h;exact absurd (.inr e) h;exact e⟩
 cases ha:atC L k with
 |none=>
  have:k∉zs:=λc=>by obtain ⟨i,b,_,q⟩:=ba.1 (f.mem_iff.1 c);exact at_none ha i b q
  rw [if_neg this];rfl
 |some i=>
  obtain ⟨b,c⟩:=at_some ha;simp only [Option.map_some];by_cases hmem:k∈zs
  · rw [if_pos hmem];obtain ⟨j,r,s,t⟩:=ba.1 (f.mem_iff.1 hmem);have:j=i:=cK u r b (by rw [t,c]);subst this;rw [s]
  · rw [if_neg hmem];have d:(mergeS set x y).getD i 0≠min x y:=λe=>hmem (f.mem_iff.2 (ba.2 ⟨i,b,e,c⟩));rw [cE (by rw [m.len];exact b)] at d ⊢;split at d
    · exact absurd rfl d
    · rename_i p;rw [if_neg p]
theorem vW {lo:Nat} {w w':wf} {b:Nat} {L:VL} {set:List Nat} (E:aw ltRK L) (G:dS L.length set) {x y:Nat} (a8:x≠y) (hx:x<L.length) (hy:y<L.length) (H:set.getD x 0=x) (I:set.getD y 0=y) {l F:List (RK×wx)} (h2:∀k,(lookL l k).isSome=true↔∃t,t<L.length/\set.getD t 0=t/\keyC L t=k)
 (h3:∀t,t<L.length->set.getD t 0=t->∃(v:wx) (A:List RK),lookL l (keyC L t)=X v/\w.ownsRow lo 36 2 v A.length (A.flatMap rkCells)/\A.Perm (aW L set t)) (h4:∀q n s z,lookL l q=X s->lookL l n=X z->q≠n->s.ownBlock≠z.ownBlock)
 (hm:am recB w' b F) {v:wx} {zs:List RK} (B:∀k,lookL F k=if k=keyC L (min x y) then X v else if k=keyC L (max x y) then Y else lookL l k) (hv:w'.ownsRow lo 36 2 v zs.length (zs.flatMap rkCells)) (hz:zs.Perm (aW L (mergeS set x y) (min x y)))
 (a0:∀k u,k≠keyC L (min x y)->k≠keyC L (max x y)->lookL l k=X u->∀g,u.ownBlock=X g->w'.heap[g]? =w.heap[g]?) (T:∀k u,k≠keyC L (min x y)->lookL l k=X u->v.ownBlock≠u.ownBlock):BG lo w' b L (mergeS set x y):=by
 have C:min x y<L.length:=by omega
 have R:max x y<L.length:=by omega
 have a4:min x y≠max x y:=by omega
 have r:∀t,t<L.length->((mergeS set x y).getD t 0=t↔set.getD t 0=t/\t≠max x y):=λt c=>by
  rw [cE (by rw [G.len];exact c)];have a6:=G.le t c;constructor
  · intro e;split at e
    · rename_i h;have:t=x∨t=y:=by omega
      rcases this with rfl|rfl
      · exact ⟨H,by omega⟩
      · exact ⟨I,by omega⟩
    · rename_i h;refine ⟨e,λd=>h ?_⟩;rcases Nat.le_total x y with m|m
      · rw [Nat.max_eq_right m] at d;subst d;exact .inr I
      · rw [Nat.max_eq_left m] at d;subst d;exact .inl H
  · rintro ⟨e,a7⟩;split
    · rename_i h;rw [e] at h;omega
    · exact e
 have N:∀t,t<L.length->t≠min x y->keyC L t≠keyC L (min x y):=λt c D e=>D (cK E c C e);have O:∀t,t<L.length->t≠max x y->keyC L t≠keyC L (max x y):=λt c D e=>D (cK E c R e);refine ⟨F,hm,λk=>?_,λt c p=>?_,λq n s z i f j=>?_⟩
 · rw [B];by_cases e1:k=keyC L (min x y)
   · rw [if_pos e1];exact ⟨λ_=>⟨min x y,C,(r _ C).2 ⟨by rcases Nat.le_total x y with m|m;rw [w5 m];exact H;rw [Nat.min_eq_right m];exact I,a4⟩,e1.symm⟩,λ_=>rfl⟩
   · rw [if_neg e1];by_cases d:k=keyC L (max x y)
     · rw [if_pos d];refine ⟨λh=>(by cases h),?_⟩;rintro ⟨t,c,p,j⟩;exact absurd (cK E c R (by rw [j,d])) ((r t c).1 p).2
     · rw [if_neg d,h2];constructor
       · rintro ⟨t,c,p,j⟩;exact ⟨t,c,(r t c).2 ⟨p,λe=>d (by rw [<- j,e])⟩,j⟩
       · rintro ⟨t,c,p,j⟩;exact ⟨t,c,((r t c).1 p).1,j⟩
 · obtain ⟨a5,V⟩:=(r t c).1 p;rw [B];by_cases e1:t=min x y
   · subst e1;rw [if_pos rfl];exact ⟨v,zs,rfl,hv,hz⟩
   · rw [if_neg (N t c e1),if_neg (O t c V)];obtain ⟨u,A,M,W,a3⟩:=h3 t c a5;refine ⟨u,A,M,ag W (a0 _ u (N t c e1) (O t c V) M),?_⟩;rw [sk G.len (by omega) (by omega)];exact a3
 · rw [B] at i f;by_cases e1:q=keyC L (min x y)
   · rw [if_pos e1] at i;injection i with i
     subst i;have d:n≠keyC L (min x y):=λe=>j (by rw [e1,e]);rw [if_neg d] at f;split at f
     · cases f
     · exact T n z d f
   · rw [if_neg e1] at i;split at i
     · cases i
     · by_cases d:n=keyC L (min x y)
       · rw [if_pos d] at f;injection f with f
         subst f;exact λe=>T q s e1 i e.symm
       · rw [if_neg d] at f;split at f
         · cases f
         · exact h4 q n s z i f j
end
section
open Go.RowKit Go.Maps Go.Shelf
theorem sK:∀u:wf,(zeroValue 36).run prog u= .ok (.agg #[J U 0,J U 0]) u:=λu=>by kernel_rfl
theorem eN:∀u:wf,(zeroValue 52).run prog u= .ok (fn Y 0 0) u:=λu=>by kernel_rfl
def bZ (ps:List (PK×(Int×Bool))) (L:VL) (set:List Nat) (p:PK):List Nat:=match atC L p.1,atC L p.2 with
 |some a,X b=>gw ps L set a b
 |_,_=>set
def titK (L:VL) (set:List Nat) (k:RK):RK:=((atC L k).map λi=>keyC L (set.getD i 0)).getD (0,0)
theorem UN.look {lo r:Nat} {F:Nat->Prop} {w:wf} {i g t b s c:Nat} {n p q:Option Nat} {m:wx} {d:aE} {L:VL} {set:List Nat} (h:UN lo r F w i g t b s c n p q m d L set) (k:RK) (j:rkOk k):
 (r2 92 (g1 (X b)) (recK k) true).run prog w= .ok (.tuple #[recK (titK L set k),gP (atC L k).isSome]) w:=by
 obtain ⟨l,e,f⟩:=h.of;have:=am.look_ok e underlying92 (sK w) k j;rw [f] at this;refine Eq.trans this ?_;unfold titK;cases atC L k<;>rfl
theorem fm {K:Type} [DecidableEq K]:∀(l m:List K),l.Nodup->(∀k∈l,k∈m)->l.length<=m.length
 |[],_,_,_=>vN _
 |a::l,m,hn,h=>by
  obtain ⟨d,f⟩:=List.nodup_cons.1 hn
  have b:=h a List.mem_cons_self
  have:=fm l (m.erase a) f (λk c=>(List.mem_erase_of_ne (λ(e:k=a)=>d (e ▸ c))).2 (h k (List.mem_cons_of_mem _ c)))
  rw [List.length_erase_of_mem b] at this
  have:=List.length_pos_of_mem b
  simp only [List.length_cons];omega
theorem pm {w:wf} {b:Nat} {l:List (RK×wx)} {L:VL} (h:am recB w b l) (f:∀k,(lookL l k).isSome=true->(atC L k).isSome=true):l.length<=L.length:=by
 have:=fm (l.map (·.1)) ((List.range L.length).map (keyC L)) h.nodup (λk g=>by obtain ⟨i,e⟩:=Option.isSome_iff_exists.1 (f k (rv.2 g));obtain ⟨c,d⟩:=at_some e;exact List.mem_map.2 ⟨i,by simpa using c,d⟩)
 simpa using this
theorem am.put_run {P:Program} {f:xv} {K:Type} [DecidableEq K] {B:et P f K} {w:wf} {b:Nat} {l:List (K×wx)} (h:am B w b l) {t e:xv} (q:P.underlying t=X (.map f e)) (m:l.length<maxLen) (k:K) (c:B.ok k) (v:wx):
 ∃w',(Instr.mapUpdate t (g1 (X b)) (B.kv k) v).run P w= .ok () w'/\am B w' b (putL l k v)/\aq b w w':=by
 obtain ⟨s,g,i,j⟩:=h;obtain ⟨w',p,n,r⟩:=g.store B.keyed q m (B.key k c) (val:=v) (d:= .held v) (ps:=[]) rfl;exact ⟨w',p,am.put_of i j c v n,ef r⟩
theorem am.del_run {P:Program} {c:xv} {K:Type} [DecidableEq K] {B:et P c K} {w:wf} {b:Nat} {l:List (K×wx)} (h:am B w b l) {t e:xv} (p:P.underlying t=X (.map c e)) (k:K) (d:B.ok k) (f:xv):
 ∃w',(Builtin.delete_ #[t,c] f #[g1 (X b),B.kv k]).run P w= .ok (.tuple #[]) w'/\am B w' b (ct l k)/\aq b w w':=by
 obtain ⟨r,g,i,j⟩:=h;obtain ⟨w',n,m,q⟩:=g.drop B.keyed p (B.key k d) f;exact ⟨w',n,am.del_of i j d m,ef q⟩
section
variable {P:Program} {o:Oper} {a:Act} {K:Act->wf->Prop} {Q:Exit->Act->wf->Prop} {w:wf}
theorem kZ {s x:Operand} {t:xv} (e:o.op= .call {callee:= .builtin .append,args:= #[s,x],argTypes:= #[t,t]}) {b c v:wx} (g:a.eval s=b) (h:a.eval x=c) {w':wf} (f:(Builtin.append_ #[t,t] o.type #[b,c]).run P w= .ok v w') (d:K (a.put o.dst v) w'):o.wp P a w K Q:=by
 unfold Oper.wp execOp;simp only [e,resolve,invoke,builtin,Sem.run_bind,Sem.run_pure,x0,List.map_toArray,List.map_cons,List.map_nil,g,h,f];exact d
theorem fK {t:xv} {m s x:Operand} (c:o.op=Op.mapUpdate t m s x) {w':wf} (d:(Instr.mapUpdate t (a.eval m) (a.eval s) (a.eval x)).run P w= .ok () w') (b:K (a.put o.dst undef) w'):o.wp P a w K Q:=by
 unfold Oper.wp;simp [execOp,c,d,Result.andThen];exact b
theorem sL {s x:Operand} {t k:xv} (e:o.op= .call {callee:= .builtin .delete,args:= #[s,x],argTypes:= #[t,k]}) {b c v:wx} (g:a.eval s=b) (h:a.eval x=c) {w':wf} (f:(Builtin.delete_ #[t,k] o.type #[b,c]).run P w= .ok v w') (d:K (a.put o.dst v) w'):o.wp P a w K Q:=by
 unfold Oper.wp execOp;simp only [e,resolve,invoke,builtin,Sem.run_bind,Sem.run_pure,x0,List.map_toArray,List.map_cons,List.map_nil,g,h,f];exact d
end
structure Sd (L:VL) (set:List Nat) (lm:List (RK×wx)) (w1:wf) (ml I:Nat) (p1 p2:Int) (g c:Nat) (l:List RK):Prop where
 s1:lookL lm (p1,p2)=some (.slice (some ⟨g,0,none⟩) l.length c)
 s2:w1.ownsRow ml 36 2 (.slice (some ⟨g,0,none⟩) l.length c) l.length (l.flatMap rkCells)
 s3:l.Perm (aW L set I)
 ok:rkOk (p1,p2)
 key:keyC L I=(p1,p2)
 lt:I<L.length
 rep:set.getD I 0=I
 len:l.length<=5000
def Bn (L:VL) (set:List Nat) (c:List (RK×wx)) (w1 e:wf) (d:Nat) (W:wf) (r:List Nat):Prop:=
 ∃(I b:Nat) (p1 p2 q1 q2:Int) (gp cp:Nat) (ps:List RK) (gq cq:Nat) (qs:List RK),Sd L set c w1 d I p1 p2 gp cp ps/\Sd L set c w1 d b q1 q2 gq cq qs/\I<b/\r=mergeS set I b/\
  Bk W w1.heap.size #[J U p1,J U p2] 36/\Bk W e.heap.size #[J U q1,J U q2] 36
def dq (ps:List (PK×(Int×Bool))) (r s:RK):Prop:=∀n,findK ps (pairK r s)≠X (n,false)
theorem p9 {ps:List (PK×(Int×Bool))} {b ys:List RK} (h:∀r∈b,∀s∈ys,dq ps r s):iY ps b ys=false:=by
 cases hx:iY ps b ys
 · rfl
 · obtain ⟨r,d,s,e,n,c⟩:=iX.1 hx;exact absurd c (h r d s e n)
theorem uy {α:Type} {l:List α} {k:Nat} (h:k<l.length) {P:α->Prop} (c:∀a∈l.take k,P a) (d:P l[k]):∀a∈l.take (k+1),P a:=by
 intro a b;rw [w0 h] at b;rcases List.mem_append.1 b with b|b
 · exact c a b
 · rw [List.mem_singleton.1 b];exact d
theorem qC (lo ml:Nat) (F:Nat->Prop) (w:wf) (bt bc t f A c:Nat) (m1 m2 m3:Option Nat) (kn:wx) (d:aE) (L:VL) (set:List Nat) (h:UN lo ml F w bt bc t f A c m1 m2 m3 kn d L set) (p:PK) (hp:pkOk p):
 Calls prog 78 #[pairV p,hb (X ⟨bt,0,Y⟩),hb (X ⟨bc,0,Y⟩)] w λe w'=>e=hK (.tuple #[])/\UN lo ml F w' bt bc t f A c m1 m2 m3 kn d L (bZ d.ps L set p)/\Below lo w w'/\UFr ml w w' f A:=by
 obtain ⟨⟨a1,a2⟩,b1,b2⟩:=p;obtain ⟨o4,o5⟩:=hp;dsimp only at o4 o5;obtain ⟨w1,j4⟩:=Qe (w.alloc (ih #[J U a1,J U a2,J U b1,J U b2] 134));have bB:Bw w w1:=by rw [<- j4];exact (r1 _ w).alloc (nq _) _
 have hB:w1.heap[w.heap.size]? =X (ih #[J U a1,J U a2,J U b1,J U b2] 134 (0,0)):=by rw [<- j4];exact mk w _
 have M:=Z (h.below bB);have ha:Hid (lo<=w.heap.size):=h.los.2.2.2.2.2.1;have c6:=Z bB;have d2:Hid (∀W,Bw w1 W->Below lo w W/\UFr ml w W f A):=λW C=>⟨(bB.mono ha.o).trans (C.mono (wb ha.o bB.size)),λq hq _ _ _=>(C.block q (Nat.lt_of_lt_of_le hq bB.size)).trans (bB.block q hq)⟩;have eQ:Hid (ml<=w.heap.size/\lo<=ml):=⟨h.los.2.2.2.2.2.2.2,h.los.2.2.2.2.2.2.1⟩;have pn:w1.heap.size=w.heap.size+1:=by rw [<- j4];simp
 have r4:=Z pn
 have HK:Hid (∀W,Bw w1 W->Cl W bt 0 (hb (X ⟨t,0,Y⟩))/\Cl W t 0 (g1 (X f))/\Cl W t 1 (g1 (X A))/\(Cl W w.heap.size 0 (J U a1)/\Cl W w.heap.size 1 (J U a2)/\Cl W w.heap.size 2 (J U b1)/\Cl W w.heap.size 3 (J U b2))/\
  (Cl W bc 0 (hb (X ⟨c,0,Y⟩))/\Cl W c 2 (.map m3))/\∀k1 k2:Int,rkOk (k1,k2)->(r2 92 (g1 (X f)) (.agg #[J U k1,J U k2]) true).run prog W= .ok (.tuple #[.agg #[J U (titK L set (k1,k2)).1,J U (titK L set (k1,k2)).2],gP (atC L (k1,k2)).isSome]) W):=λW C=>by
  have hu:=M.below C
  obtain ⟨e0,e1⟩:=cU hu.tb
  have e2:=m8 ((C.block _ (ae hB)).trans hB)
  exact ⟨(aa hu.vt 0).trans rfl,e0,e1,e2,⟨(aa hu.vc 0).trans rfl,(aa hu.cat.blk 2).trans rfl⟩,λk1 k2 hk=>hu.look (k1,k2) hk⟩
 have HB:=Z hB;unfold pairV;dsimp only;clear h bB hB pn;have dx:Bw w1 w1.drew:=(r1 _ w1).drew;have es:Hid (∀W,Bw w1 W->(r2 92 (g1 (X f)) (.agg #[J U a1,J U a2]) true).run prog W= .ok (.tuple #[.agg #[J U (titK L set (a1,a2)).1,J U (titK L set (a1,a2)).2],gP (atC L (a1,a2)).isSome]) W):=λW C=>(HK W C).2.2.2.2.2 a1 a2 o4;have ex:Hid (∀W,Bw w1 W->(r2 92 (g1 (X f)) (.agg #[J U b1,J U b2]) true).run prog W= .ok (.tuple #[.agg #[J U (titK L set (b1,b2)).1,J U (titK L set (b1,b2)).2],gP (atC L (b1,b2)).isSome]) W):=λW C=>(HK W C).2.2.2.2.2 b1 b2 o5;obtain ⟨⟨x1,x2⟩,hx⟩:∃x,titK L set (a1,a2)=x:=⟨_,rfl⟩;obtain ⟨⟨O,T⟩,hy⟩:∃y,titK L set (b1,b2)=y:=⟨_,rfl⟩;obtain ⟨ia,hO⟩:=Qe (atC L (a1,a2));obtain ⟨ib,hP⟩:=Qe (atC L (b1,b2));rw [hx,hO] at es;rw [hy,hP] at ex;dsimp only at es ex;have qx:=Z hx;have qz:=Z hy;have cz:=Z hO;have eq:=Z hP;obtain ⟨jn,i4⟩:=Qe ia.isSome;obtain ⟨k7,j3⟩:=Qe ib.isSome;rw [i4] at es;rw [j3] at ex;have ky:=Z i4;have lf:=Z j3;clear hx hy hO hP i4 j3;go_enter func78,ntmps78;go_wp2;refine Wb w1 12 ?_;refine Qb [0,4,1,5,2,3] dx HK ?_;refine Qb [6] dx es ?_
 refine Qa [7,8,9] dx ?_;refine Dp 10 λK b=>?_;go_simp;have ad:∀o,Bw w1 (w1.drew.alloc o):=λo=>dx.alloc (nq _) o;refine b _ _ (λ_=>ad _) ?_;clear b K;refine Dp 11 λK b=>?_;go_simp;have au:∀o,Bw w1 (w1.alloc o).drew:=λo=>((r1 _ w1).alloc (nq _) o).drew;refine b _ _ (λ_=>au _) ?_;clear b K;refine Dl 12 ?_;obtain ⟨D,e6⟩:=Qe ((w1.alloc (ih #[J U x1,J U x2] 36)).drew);have qv:Hid (D.heap[w1.heap.size]? =X (ih #[J U x1,J U x2] 36 (0,0))):=by unfold Hid;rw [<- e6];exact mk w1 _
 have hH:Bw w1 D:=by rw [<- e6];exact au _
 have f8:Hid (D.heap.size=w1.heap.size+1):=by unfold Hid;rw [<- e6];show (w1.alloc _).heap.size=_;simp
 rw [e6];clear ad au e6;go_wp2_with fail
 have dy:Bw w1 D.drew:=hH.drew;refine Wb w1 12 ?_;refine Qb [0,4,1,5,2,3] dy HK ?_;refine Qb [6] dy ex ?_
 refine Qa [7,8,9] dy ?_;refine Dp 10 λK b=>?_;go_simp;have ad:∀o,Bw w1 (D.drew.alloc o):=λo=>dy.alloc (by have:=f8.o;show w1.heap.size<=D.heap.size;omega) o;refine b _ _ (λ_=>ad _) ?_;clear b K;refine Dp 11 λK b=>?_;go_simp;have au:∀o,Bw w1 (D.alloc o).drew:=λo=>(hH.alloc (by have:=f8.o;omega) o).drew;refine b _ _ (λ_=>au _) ?_;clear b K;refine Dl 12 ?_;obtain ⟨w3,b4⟩:=Qe ((D.alloc (ih #[J U O,J U T] 36)).drew);have d5:Hid (w3.heap[D.heap.size]? =X (ih #[J U O,J U T] 36 (0,0))):=by unfold Hid;rw [<- b4];exact mk D _
 have hI:Bw w1 w3:=by rw [<- b4];exact au _
 have mb:Bw D w3:=by rw [<- b4];exact ((r1 _ D).alloc (nq _) _).drew
 have d3:Hid (Bk w3 w1.heap.size #[J U x1,J U x2] 36):=(mb.block _ (by have:=f8.o;omega)).trans qv.o;have ay:=Z hI;have a0:=Z (M.below hI);have hA:Hid (w3.heap.size=D.heap.size+1/\D.heap.size=w1.heap.size+1/\w1.heap.size=w.heap.size+1):=⟨by rw [<- b4];show (D.alloc _).heap.size=_;simp,f8.o,r4.o⟩;rw [b4];obtain ⟨rc,rg⟩:=cU d3.o;obtain ⟨rk,rl⟩:=cU d5.o;clear ad au b4 dy mb hH dx hI;have k5:=λW=>q36 x1 x2 O T W;cases jn
 · have HE:Hid (bZ d.ps L set ((a1,a2),(b1,b2))=set):=by
    unfold Hid bZ;dsimp only;rw [cz.o];have:=ky.o;cases ia with
    |none=>rfl
    |some i=>cases this
   go_wp2_with fail
   refine xa (wB rfl _ _ _) rfl ?_;rw [HE.o];exact ⟨rfl,a0.o,d2 _ ay.o⟩
 · cases k7
   · have HE:Hid (bZ d.ps L set ((a1,a2),(b1,b2))=set):=by
      unfold Hid bZ;dsimp only;rw [cz.o,eq.o];have:=lf.o;cases ib with
      |none=>cases ia<;>rfl
      |some i=>cases this
     go_wp2_with fail
     refine xa (wB rfl _ _ _) rfl ?_;rw [HE.o];exact ⟨rfl,a0.o,d2 _ ay.o⟩
   · obtain ⟨ja,rfl⟩:∃ja,ia=X ja:=Option.isSome_iff_exists.1 ky.o;obtain ⟨jb,rfl⟩:∃jb,ib=X jb:=Option.isSome_iff_exists.1 lf.o;have HE:Hid (bZ d.ps L set ((a1,a2),(b1,b2))=gw d.ps L set ja jb):=by unfold Hid bZ;dsimp only;rw [cz.o,eq.o]
     have cl:keyC L (set.getD ja 0)=(x1,x2):=by have:=qx.o;unfold titK at this;rw [cz.o] at this;exact this
     have cp:keyC L (set.getD jb 0)=(O,T):=by have:=qz.o;unfold titK at this;rw [eq.o] at this;exact this
     have hQ:=(at_some cz.o).1;have hR:=(at_some eq.o).1;have ft:=a0.ok.lt hQ;have fx:=a0.ok.lt hR;have b7:=a0.ok.rep ja hQ;have b8:=a0.ok.rep jb hR;have cv:=Z (qB d.ps L set ja jb);obtain ⟨a6,hX⟩:=Qe (set.getD ja 0);obtain ⟨a7,hY⟩:=Qe (set.getD jb 0);rw [hX] at cl ft b7 cv;rw [hY] at cp fx b8 cv;by_cases hXY:a6=a7
     · have e7:(x1,x2)=(O,T):=by rw [<- cl, <- cp,hXY]
       rw [decide_eq_true e7] at k5;have cs:Hid (bZ d.ps L set ((a1,a2),(b1,b2))=set):=by unfold Hid;rw [HE.o,cv.o,if_pos hXY]
       clear hXY e7 hX hY cl cp;go_wp2_with fail
       refine xa (wB rfl _ _ _) rfl ?_;rw [cs.o];exact ⟨rfl,a0.o,d2 _ ay.o⟩
     · have e7:¬((x1,x2)=(O,T)):=λe=>hXY (cK a0.o.srt ft fx (by rw [cl,cp,e]));rw [decide_eq_false e7] at k5;have cs:Hid (bZ d.ps L set ((a1,a2),(b1,b2))=if j9 d.ps L set a6 a7 then set else mergeS set a6 a7):=by unfold Hid;rw [HE.o,cv.o,if_neg hXY]
       have ls:=Z hXY;have f6:=Z cl;have f7:=Z cp;have hw:=Z b7;have hz:=Z b8;have d4:=Z ft;have d6:=Z fx;clear hXY e7 hX hY cl cp b7 b8 HE cv ft fx hQ hR;go_wp2_with fail
       obtain ⟨lm,g7,n0,g8,nb⟩:=M.mem;obtain ⟨vx,xs,f9,fc,bs⟩:=g8 a6 d4.o hw.o;obtain ⟨vy,ys,fl,fp,bw⟩:=g8 a7 d6.o hz.o;have dk:am recB w3 A lm:=g7.block (ay.block _ g7.lt);have hC:w3.ownsRow ml 36 2 vx xs.length (xs.flatMap rkCells):=ag fc (λg hg=>ay.block g (fc.lt g hg).2);have hD:w3.ownsRow ml 36 2 vy ys.length (ys.flatMap rkCells):=ag fp (λg hg=>ay.block g (fp.lt g hg).2);have t1:0<xs.length:=by rw [bs.length_eq];exact List.length_pos_iff.2 (mn d4.o hw.o)
       have t2:0<ys.length:=by rw [bw.length_eq];exact List.length_pos_iff.2 (mn d6.o hz.o)
       have pb:xs.length<=5000:=by rw [bs.length_eq];exact wb (jY _ _ _) a0.o.len
       have pk:ys.length<=5000:=by rw [bw.length_eq];exact wb (jY _ _ _) a0.o.len
       obtain ⟨gx,cx,rfl,_⟩:=w4 hC t1;obtain ⟨gy,cy,rfl,_⟩:=w4 hD t2;rw [f6.o] at f9;rw [f7.o] at fl;have pa:rkOk (x1,x2):=by rw [<- f6.o];exact a0.o.key a6 d4.o
       have pi:rkOk (O,T):=by rw [<- f7.o];exact a0.o.key a7 d6.o
       have ks:Hid (∀W,Bw w3 W->(r2 93 (g1 (X A)) (.agg #[J U x1,J U x2]) false).run prog W= .ok (fn (X ⟨gx,0,Y⟩) xs.length cx) W):=λW C=>by have:=am.look (w:=W) (dk.block (C.block _ dk.lt)) underlying93 (eN W) (x1,x2) pa;rw [f9] at this;exact this
       have kt:Hid (∀W,Bw w3 W->(r2 93 (g1 (X A)) (.agg #[J U O,J U T]) false).run prog W= .ok (fn (X ⟨gy,0,Y⟩) ys.length cy) W):=λW C=>by have:=am.look (w:=W) (dk.block (C.block _ dk.lt)) underlying93 (eN W) (O,T) pi;rw [fl] at this;exact this
       have lk:Hid (∀W,Bw w3 W->eu 0 w3.heap.size W (fn (X ⟨gx,0,Y⟩) xs.length cx) xs):=λW C=>((aX hC).mono (vN _) (nq _)).kept (λq _ hq=>C.block q hq);have lx:Hid (∀W,Bw w3 W->eu 0 w3.heap.size W (fn (X ⟨gy,0,Y⟩) ys.length cy) ys):=λW C=>((aX hD).mono (vN _) (nq _)).kept (λq _ hq=>C.block q hq);have qy:Hid (∀r∈xs,rkOk r):=λr hr=>by obtain ⟨i,hi,_,hk⟩:=ba.1 (bs.mem_iff.1 hr);rw [<- hk];exact a0.o.key i hi
       have r0:Hid (∀r∈ys,rkOk r):=λr hr=>by obtain ⟨i,hi,_,hk⟩:=ba.1 (bw.mem_iff.1 hr);rw [<- hk];exact a0.o.key i hi
       have te:Hid (∀r∈xs,∀s∈ys,r≠s):=λr hr s hs e=>by obtain ⟨i,hi,h1,hk⟩:=ba.1 (bs.mem_iff.1 hr);obtain ⟨j,hj,h2,dd⟩:=ba.1 (bw.mem_iff.1 hs);have:=cK a0.o.srt hi hj (by rw [hk,dd,e]);subst this;exact ls (h1.symm.trans h2)
       have k8:Hid (j9 d.ps L set a6 a7=iY d.ps xs ys):=zg a0.cat.ok.ok.ps a0.cat.ok.ok.apart a0.srt bs bw;have bb:Hid (∀W,Bw w3 W->Cl W bt 0 (hb (X ⟨t,0,Y⟩))/\Cl W t 0 (g1 (X f))/\Cl W t 1 (g1 (X A))/\Cl W bc 0 (hb (X ⟨c,0,Y⟩))/\Cl W c 2 (.map m3)/\(Cl W w1.heap.size 0 (J U x1)/\Cl W w1.heap.size 1 (J U x2))/\Cl W D.heap.size 0 (J U O)/\Cl W D.heap.size 1 (J U T)):=λW C=>by have hu:=a0.below C;obtain ⟨e0,e1⟩:=cU hu.tb;exact ⟨(aa hu.vt 0).trans rfl,e0,e1,(aa hu.vc 0).trans rfl,(aa hu.cat.blk 2).trans rfl,cU ((C.block _ (ae d3.o)).trans d3.o),cU ((C.block _ (ae d5.o)).trans d5.o)⟩
       have ko:Hid (∀W,Bw w3 W->∀q1 q2 q3 q4:Int,pkOk ((q1,q2),q3,q4)->(r2 115 (.map m3) (.agg #[J U q1,J U q2,J U q3,J U q4]) true).run prog W= .ok (.tuple #[.agg #[J U ((findK d.ps ((q1,q2),q3,q4)).getD (0,false)).1,gP ((findK d.ps ((q1,q2),q3,q4)).getD (0,false)).2],gP (findK d.ps ((q1,q2),q3,q4)).isSome]) W):=λW C q1 q2 q3 q4 hq=>by have:=bW.look_ok (w:=W) (a0.below C).cat.ps underlying115 fI ((q1,q2),q3,q4) hq;rw [dY d.ps ff] at this;refine Eq.trans this ?_;cases findK d.ps ((q1,q2),q3,q4)<;>rfl
       obtain ⟨k0,k1,k2,k3,k4,_,_⟩:=bb w3 (r1 _ _);have sn:=ks w3.drew (r1 _ w3).drew;have ca:=Z g7;have d0:=Z n0;have f4:=Z g8;have f5:=Z nb;have q7:=Z f9;have qa:=Z fc;have qb:=Z bs;have qc:=Z fl;have qd:=Z fp;have qe:=Z bw;clear dk g7 n0 g8 nb f9 hC fc bs fl hD fp bw k5;go_region;go_wp2_with fail
       clear sn k0 k1 k2 k3 k4 rc rg rk rl;go_loopw [9,11,12,13,14,55,66] (λ_a _b _c _d _e i _f wr=>∃k:Nat,k<=xs.length/\i=J U k/\Hid (Bw w3 wr)/\Hid (∀r∈xs.take k,∀s∈ys,dq d.ps r s)) (λ_ _ _ _ _ i _ _=>xs.length - (intOf i).toNat)
       case atStart=>exact ⟨0,vN _,rfl,(r1 _ w3).drew,λr hr=>by simp at hr⟩
       case round=>
        obtain ⟨k,hk,rfl,c7,hc⟩:=hrel;by_cases hlt:k<xs.length
        · obtain ⟨b',px,lB,he,_,md,e0,e1⟩:=(lk wr c7.o).one k hlt;cases he;have cc:Hid (xs[k]∈xs):=w2 hlt;have d1:Hid (∀{P:RK->Prop},(∀a∈xs.take k,P a)->P xs[k]->∀a∈xs.take (k+1),P a):=λh1 h2=>uy hlt h1 h2;obtain ⟨r,hr⟩:=Qe (xs[k]);rw [hr] at e0 e1 cc d1;obtain ⟨l,z⟩:=r;dsimp only at e0 e1;rw [xc] at e0 e1;clear hr;have t0:=c7.size;have bO:∀o,Bw w3 (wr.alloc o):=λo=>c7.alloc t0 o;have s6:=λo=>(bb _ (bO o)).1;have s8:=λo=>(bb _ (bO o)).2.2.1;have dd:=λo=>(bb _ (bO o)).2.2.2.2.2.2.1;have sa:=λo=>(bb _ (bO o)).2.2.2.2.2.2.2;have sp:=λo=>kt _ (bO o).drew;go_wp2_with fail
          go_region;go_wp2_with fail
          have h7:Hid (Bw w3 (wr.alloc (ih #[J U l,J U z] 36)).drew):=(bO _).drew;obtain ⟨wz,b9⟩:=Qe ((wr.alloc (ih #[J U l,J U z] 36)).drew);have l4:Hid (wz.heap[wr.heap.size]? =X (ih #[J U l,J U z] 36 (0,0))):=by unfold Hid;rw [<- b9];exact mk wr _
          rw [b9] at h7 ⊢;have qt:Hid (wr.heap.size<wz.heap.size):=ae l4.o;clear s6 s8 dd sa sp bO b9 e0 e1;generalize wr.heap.size=R at *;go_loopw [11,12,13,14,66] (λ_b _c _d _e i wr=>∃m:Nat,m<=ys.length/\i=J U m/\Hid (Bw wz wr)/\Hid (∀s∈ys.take m,dq d.ps (l,z) s)) (λ_ _ _ _ i _=>ys.length - (intOf i).toNat)
          case atStart=>exact ⟨0,vN _,rfl,r1 _ _,λs hs=>by simp at hs⟩
          case round=>
           obtain ⟨m,hm,rfl,em,kv⟩:=hrel;have cq:Hid (Bw w3 wr):=btr h7.o em.o h7.size;by_cases hlt2:m<ys.length
           · obtain ⟨b',px,lB,he,_,md,e0,e1⟩:=(lx wr cq.o).one m hlt2;cases he;have ht:Hid (ys[m]∈ys):=w2 hlt2;have le:Hid (∀{P:RK->Prop},(∀a∈ys.take m,P a)->P ys[m]->∀a∈ys.take (m+1),P a):=λh1 h2=>uy hlt2 h1 h2;obtain ⟨s,hs⟩:=Qe (ys[m]);rw [hs] at e0 e1 ht le;obtain ⟨E,H⟩:=s;dsimp only at e0 e1;rw [xc] at e0 e1;clear hs;have tO:=cq.size;have gq:Bk wr R #[J U l,J U z] 36:=(em.block _ qt.o).trans l4.o;have e5:=ae gq;obtain ⟨r9,k6⟩:=cU gq;have oc:∀o,(wr.alloc o).cell? ⟨R,0,Y⟩=X (J U l):=λo=>by rw [aM _ _ _ _ e5];exact r9
             have ob:∀o,(wr.alloc o).cell? ⟨R,1,Y⟩=X (J U z):=λo=>by rw [aM _ _ _ _ e5];exact k6
             obtain ⟨Wp,fs⟩:=Qe ((wr.alloc (ih #[J U E,J U H] 36)).alloc (ih #[J U l,J U z,J U E,J U H] 134));have hL:Bw wr Wp:=by rw [<- fs];exact ((r1 _ wr).alloc (nq _) _).alloc (by simp) _
             have pv:Wp.heap.size=wr.heap.size+2:=by rw [<- fs];simp
             have m5:Wp.heap[wr.heap.size]? =X (ih #[J U E,J U H] 36 (0,0)):=by rw [<- fs,Below.heap_alloc _ _ _ (by simp)];exact mk wr _
             have m4:Wp.heap[wr.heap.size+1]? =X (ih #[J U l,J U z,J U E,J U H] 134 (0,0)):=by rw [<- fs];have:=mk (wr.alloc (ih #[J U E,J U H] 36)) (ih #[J U l,J U z,J U E,J U H] 134);rwa [World.size_alloc] at this
             have er:Hid (∀W2,bo Wp W2->Bk W2 (wr.heap.size+1) #[J U l,J U z,J U E,J U H] 134/\Bk W2 wr.heap.size #[J U E,J U H] 36/\Bk W2 R #[J U l,J U z] 36/\Bw wr W2):=λW2 hg=>by have C:=hg.below;exact ⟨(C.block _ (by omega)).trans m4,(C.block _ (by omega)).trans m5,(C.block _ (by omega)).trans ((hL.block _ e5).trans gq),hL.trans (C.mono (by omega))⟩
             have d7:=Z pv;have td:=Z e5;obtain ⟨v0,v1⟩:=cU (er Wp (bo.refl _)).2.1;obtain ⟨v2,v3⟩:=cU (er Wp (bo.refl _)).2.2.1;clear hL pv m5 m4 e5 gq;have HC:Hid (∀W,Calls prog 49 #[.agg #[J U E,J U H], .agg #[J U l,J U z]] W λe w'=>e=hK (J U (br (E,H) (l,z)))/\bo W w'):=λW=>eV (E,H) (l,z) W;have aT:(br (E,H) (l,z)<0)↔ltRK (E,H) (l,z)=true:=eL _ _;have l3:Hid (pkOk (pairK (l,z) (E,H))):=pj (qy _ cc.o) (r0 _ ht.o);have cb:Hid (pairK (l,z) (E,H)=if ltRK (E,H) (l,z) then ((E,H),(l,z)) else ((l,z),(E,H))):=rfl;have l6:Hid (dq d.ps (l,z) (E,H)->∀a∈ys.take (m+1),dq d.ps (l,z) a):=λh=>le kv.o h;have gO:Hid (∀n,findK d.ps (pairK (l,z) (E,H))=X (n,false)->bZ d.ps L set ((a1,a2),(b1,b2))=set):=λn hn=>by rw [cs.o,if_pos];rw [k8.o,iX];exact ⟨_,cc.o,_,ht.o,n,hn⟩
             by_cases hltc:ltRK (E,H) (l,z)=true
             focus
              have hM:br (E,H) (l,z)<0:=aT.2 hltc
              rw [if_pos hltc] at cb
              generalize br (E,H) (l,z)=cm at *
              clear hltc aT
              go_wp2_with (go_at_call 49;go_loud (((with_reducible refine xb (HC.o _) ?_);rintro e W2 ⟨rfl,av⟩;obtain ⟨g0,N,g2,g5⟩:=er.o _ av;obtain ⟨z0,z1⟩:=cU N;obtain ⟨z2,z3⟩:=cU g2;obtain ⟨p0,p1,p2,p3⟩:=m8 g0;have f0:=ab g0 0;have f1:=ab g0 1;have f2:=ab g0 2;have f3:=ab g0 3;have G0:=Z g0;have G5:=Z g5;clear g0 N g2 g5 av)))
              have b5:Hid ((((((W2.setCell ⟨wr.heap.size+1,0,Y⟩ (J U E)).setCell ⟨wr.heap.size+1,1,Y⟩ (J U H)).setCell ⟨wr.heap.size+1,2,Y⟩ (J U l)).setCell ⟨wr.heap.size+1,3,Y⟩ (J U z))).heap[wr.heap.size+1]? =X (ih #[J U E,J U H,J U l,J U z] 134 (0,0))):=an (an (an (an G0.o 0 (J U E)) 1 (J U H)) 2 (J U l)) 3 (J U z)
              have ej:Hid (Bw wr ((((W2.setCell ⟨wr.heap.size+1,0,Y⟩ (J U E)).setCell ⟨wr.heap.size+1,1,Y⟩ (J U H)).setCell ⟨wr.heap.size+1,2,Y⟩ (J U l)).setCell ⟨wr.heap.size+1,3,Y⟩ (J U z))):=(((G5.o.setCell (by simp) _).setCell (by simp) _).setCell (by simp) _).setCell (by simp) _
              generalize ((((W2.setCell ⟨wr.heap.size+1,0,Y⟩ (J U E)).setCell ⟨wr.heap.size+1,1,Y⟩ (J U H)).setCell ⟨wr.heap.size+1,2,Y⟩ (J U l)).setCell ⟨wr.heap.size+1,3,Y⟩ (J U z))=W3 at *
              clear z0 z1 z2 z3 p0 p1 p2 p3 f0 f1 f2 f3 e0 e1 r9 k6 oc ob v0 v1 v2 v3
              have h8:Hid (∃p1 p2 q1 q2:Int,pairK (l,z) (E,H)=((p1,p2),(q1,q2))/\Bk W3 (wr.heap.size+1) #[J U p1,J U p2,J U q1,J U q2] 134):=⟨E,H,l,z,cb.o,b5.o⟩
              clear cb b5
             rotate_left
             focus
              have hM:¬(br (E,H) (l,z)<0):=λhh=>hltc (aT.1 hh)
              rw [if_neg hltc] at cb
              generalize br (E,H) (l,z)=cm at *
              clear hltc aT
              go_wp2_with (go_at_call 49;go_loud (((with_reducible refine xb (HC.o _) ?_);rintro e W3 ⟨rfl,av⟩;obtain ⟨g0,N,g2,g5⟩:=er.o _ av;have b5:=Z g0;have ej:=Z g5;clear g0 N g2 g5 av)))
              clear e0 e1 r9 k6 oc ob v0 v1 v2 v3
              have h8:Hid (∃p1 p2 q1 q2:Int,pairK (l,z) (E,H)=((p1,p2),(q1,q2))/\Bk W3 (wr.heap.size+1) #[J U p1,J U p2,J U q1,J U q2] 134):=⟨l,z,E,H,cb.o,b5.o⟩
              clear cb b5
             all_goals
              obtain ⟨a4,a5,a9,ac,iv,b4⟩:=h8.o
              rw [iv] at l3 gO
              have ho:Hid ((∀n,findK d.ps ((a4,a5),(a9,ac))≠X (n,false))->dq d.ps (l,z) (E,H)):=λh=>by unfold dq;rw [iv];exact h
              have b5:=Z b4
              clear iv b4 h8
              have eg:Hid (Bw w3 W3):=btr cq.o ej.o cq.size
              have hG:=eg.size
              obtain ⟨ov,i6⟩:=Qe (findK d.ps ((a4,a5),(a9,ac)))
              have kq:Hid (∀W,Bw W3 W->(r2 115 (.map m3) (.agg #[J U a4,J U a5,J U a9,J U ac]) true).run prog W= .ok (.tuple #[.agg #[J U (ov.getD (0,false)).1,gP (ov.getD (0,false)).2],gP ov.isSome]) W):=λW C=>by
               rw [<- i6];exact ko.o W (btr eg.o C hG) a4 a5 a9 ac l3.o
              rw [i6] at gO ho
              obtain ⟨o1,nF⟩:=Qe ((ov.getD (0,false)).1)
              obtain ⟨o2,i2⟩:=Qe ((ov.getD (0,false)).2)
              obtain ⟨th,j2⟩:=Qe ov.isSome
              rw [nF,i2,j2] at kq
              have kx:=Z i2
              have ld:=Z j2
              clear i6 nF i2 j2
              have qf:Hid (∀W,Bw W3 W->Cl W bc 0 (hb (X ⟨c,0,Y⟩))/\Cl W c 2 (.map m3)/\Cl W (wr.heap.size+1) 0 (J U a4)/\Cl W (wr.heap.size+1) 1 (J U a5)/\Cl W (wr.heap.size+1) 2 (J U a9)/\Cl W (wr.heap.size+1) 3 (J U ac)):=λW C=>by
               obtain ⟨_,_,_,N,g2,_⟩:=bb W (btr eg.o C hG)
               exact ⟨N,g2,m8 ((C.block _ (ae b5.o)).trans b5.o)⟩
              have dz:Bw W3 W3.drew:=(r1 _ W3).drew
              refine Wb W3 11 ?_
              have B:=tkL [0,4,1,2,3]
              repeat (refine tkI B ?_ rfl dz ?_ ?_;rotate_left;intro w' h;obtain ⟨h0,h1,h2,h3,h4,h5⟩:=qf w' h;go_simp;rfl;(try go_simp);replace B:=tkO B)
              clear B
              refine Qb [5] dz kq ?_
              have B:=tkL [6,7,8]
              repeat (refine tkI B ?_ rfl dz ?_ ?_;rotate_left;intro w' h;go_simp;rfl;(try go_simp);replace B:=tkO B)
              clear B
              refine Dp 9 λK b=>?_
              go_simp
              have ad:∀o,Bw W3 (W3.drew.alloc o):=λo=>dz.alloc (nq _) o
              refine b _ _ (λ_=>ad _) ?_
              clear b K
              refine Dp 10 λK b=>?_
              go_simp
              have au:∀o,Bw W3 (W3.alloc o).drew:=λo=>((r1 _ W3).alloc (nq _) o).drew
              refine b _ _ (λ_=>au _) ?_
              clear b K
              refine Dp 11 λK b=>?_
              go_simp
              refine b _ _ (λh=>absurd rfl h) ?_
              clear b K
              refine dN ?_
              obtain ⟨W4,fr⟩:=Qe ((W3.alloc (ih #[J U o1,gP o2] 139)).drew)
              have m0:W4.heap[W3.heap.size]? =X (ih #[J U o1,gP o2] 139 (0,0)):=by rw [<- fr];exact mk W3 _
              have hJ:Bw W3 W4:=by rw [<- fr];exact au _
              rw [fr]
              obtain ⟨ts,tx⟩:=cU m0
              have k9:Hid (Bw w3 W4):=btr eg.o hJ hG
              have ka:Hid (Bw wz W4):=btr em.o (btr ej.o hJ ej.size) em.size
              clear ad au fr m0 hJ dz
              cases th
              · have HN:Hid (dq d.ps (l,z) (E,H)):=ho (λn=>by
                 have:=ld.o
                 cases ov with
                 |none=>simp
                 |some v=>cases this)
                go_wp2_with fail
                go_roundw
                case rel=>exact ⟨m+1,by omega,by go_num,ka,l6.o HN.o⟩
                case measure=>simp [intOf];omega
              · cases o2
                · obtain ⟨v,rfl⟩:∃v,ov=X v:=Option.isSome_iff_exists.1 ld.o
                  have HR:Hid (bZ d.ps L set ((a1,a2),(b1,b2))=set):=gO v.1 (by
                   have:=kx.o
                   obtain ⟨v1,v2⟩:=v
                   simp at this
                   rw [this])
                  go_wp2_with fail
                  refine xa (wB rfl _ _ _) rfl ?_
                  rw [HR.o]
                  exact ⟨rfl,a0.below k9.o,d2 _ (btr ay.o k9.o ay.size)⟩
                · have HN:Hid (dq d.ps (l,z) (E,H)):=ho (λn hn=>by
                   have:=kx.o
                   rw [hn] at this
                   cases this)
                  go_wp2_with fail
                  go_roundw
                  case rel=>exact ⟨m+1,by omega,by go_num,ka,l6.o HN.o⟩
                  case measure=>simp [intOf];omega
           · have hd:Hid (∀s∈ys,dq d.ps (l,z) s):=by have:=kv.o;rw [wq (by omega)] at this;exact this
             go_wp2_with fail
             go_roundw
             case rel=>exact ⟨k+1,by omega,by go_num,cq,d1.o hc.o hd.o⟩
             case measure=>simp [intOf];omega
        · skip;have ma:iY d.ps xs ys=false:=p9 (by have:=hc.o;rw [wq (by omega)] at this;exact this);have kd:Hid (bZ d.ps L set ((a1,a2),(b1,b2))=mergeS set a6 a7):=by unfold Hid;rw [cs.o,k8.o,ma];rfl
          have kb:Hid (Bw w1 wr):=btr ay.o c7.o ay.size;have b7:Bk wr w1.heap.size #[J U x1,J U x2] 36:=(c7.block _ (ae d3.o)).trans d3.o;have b8:Bk wr D.heap.size #[J U O,J U T] 36:=(c7.block _ (ae d5.o)).trans d5.o;have lv:Hid (∀W,Bw wr W->Bk W w1.heap.size #[J U x1,J U x2] 36/\Bk W D.heap.size #[J U O,J U T] 36/\Bw w1 W):=λW C=>⟨(C.block _ (ae b7)).trans b7,(C.block _ (ae b8)).trans b8,btr kb.o C kb.size⟩;obtain ⟨py,pz⟩:=cU b7;obtain ⟨q0,q5⟩:=cU b8;have HC:Hid (∀W,Calls prog 49 #[.agg #[J U O,J U T], .agg #[J U x1,J U x2]] W λe w'=>e=hK (J U (br (O,T) (x1,x2)))/\bo W w'):=λW=>eV (O,T) (x1,x2) W;have aT:(br (O,T) (x1,x2)<0)↔ltRK (O,T) (x1,x2)=true:=eL _ _;have g6:ltRK (O,T) (x1,x2)=true↔a7<a6:=by rw [<- f6.o, <- f7.o];exact tR a0.o.srt d6.o d4.o
          clear b7 b8 hc cs lk lx ks kt bb ko ma;have l7:Hid (Sd L set lm w1 ml a6 x1 x2 gx cx xs):=⟨q7.o,qa.o,qb.o,pa,f6.o,d4.o,hw.o,pb⟩;have la:Hid (Sd L set lm w1 ml a7 O T gy cy ys):=⟨qc.o,qd.o,qe.o,pi,f7.o,d6.o,hz.o,pk⟩;by_cases hltc:ltRK (O,T) (x1,x2)=true
          focus
           have hM:br (O,T) (x1,x2)<0:=aT.2 hltc
           have ao:Hid (a7<a6):=g6.1 hltc
           generalize br (O,T) (x1,x2)=cm at *
           clear hltc aT g6
           have lE:¬(w1.heap.size=D.heap.size):=by have:=hA.o;omega
           have rs:¬(D.heap.size=w1.heap.size):=λe=>lE e.symm
           go_wp2_with (go_at_call 49;go_loud (((with_reducible refine xb (HC.o _) ?_);rintro e W2 ⟨rfl,av⟩;obtain ⟨g0,N,g5⟩:=lv.o _ av.below;obtain ⟨z0,z1⟩:=cU g0;obtain ⟨z2,z3⟩:=cU N;have f0:=ab g0 0;have f1:=ab g0 1;have f2:=ab N 0;have f3:=ab N 1;have G0:=Z g0;have G1:=Z N;have G5:=Z g5;clear g0 N g5 av)))
           obtain ⟨I,d9⟩:=Qe ((((W2.setCell ⟨w1.heap.size,0,Y⟩ (J U O)).setCell ⟨w1.heap.size,1,Y⟩ (J U T)).setCell ⟨D.heap.size,0,Y⟩ (J U x1)).setCell ⟨D.heap.size,1,Y⟩ (J U x2))
           have bk:Hid (I.heap[w1.heap.size]? =X (ih #[J U O,J U T] 36 (0,0))):=by
            unfold Hid
            rw [<- d9,wc _ _ _ _ (by simp;omega),wc _ _ _ _ (by simp;omega)]
            exact an (an G0.o 0 (J U O)) 1 (J U T)
           have b6:Hid (I.heap[D.heap.size]? =X (ih #[J U x1,J U x2] 36 (0,0))):=by
            unfold Hid
            rw [<- d9]
            have g9:((W2.setCell ⟨w1.heap.size,0,Y⟩ (J U O)).setCell ⟨w1.heap.size,1,Y⟩ (J U T)).heap[D.heap.size]? =X (ih #[J U O,J U T] 36 (0,0)):=by
             rw [wc _ _ _ _ (by simp;omega),wc _ _ _ _ (by simp;omega)];exact G1.o
            exact an (an g9 0 (J U x1)) 1 (J U x2)
           have aC:Hid (Bw w1 I):=by
            unfold Hid
            rw [<- d9]
            have:=hA.o
            exact (((G5.o.setCell (by simp) _).setCell (by simp) _).setCell (by simp;omega) _).setCell (by simp;omega) _
           rw [d9]
           clear d9 z0 z1 z2 z3 f0 f1 f2 f3 py pz q0 q5 lE rs
           have h9:Hid (Bn L set lm w1 D ml I (bZ d.ps L set ((a1,a2),(b1,b2)))):=⟨a7,a6,O,T,x1,x2,gy,cy,ys,gx,cx,xs,la.o,l7.o,ao.o,kd.trans (tG set a6 a7),bk.o,b6.o⟩
           clear bk b6 ao
          rotate_left
          focus
           have hM:¬(br (O,T) (x1,x2)<0):=λhh=>hltc (aT.1 hh)
           have ao:Hid (a6<a7):=by
            unfold Hid
            have h1:¬a7<a6:=λh=>hltc (g6.2 h)
            have h2:=ls.o
            omega
           generalize br (O,T) (x1,x2)=cm at *
           clear hltc aT g6
           go_wp2_with (go_at_call 49;go_loud (((with_reducible refine xb (HC.o _) ?_);rintro e I ⟨rfl,av⟩;obtain ⟨g0,N,g5⟩:=lv.o _ av.below;have bk:=Z g0;have b6:=Z N;have aC:=Z g5;clear g0 N g5 av)))
           clear py pz q0 q5
           have h9:Hid (Bn L set lm w1 D ml I (bZ d.ps L set ((a1,a2),(b1,b2)))):=⟨a6,a7,x1,x2,O,T,gx,cx,xs,gy,cy,ys,l7.o,la.o,ao.o,kd.o,bk.o,b6.o⟩
           clear bk b6 ao
          all_goals
           obtain ⟨iP,iQ,a4,a5,a9,ac,V,cP,lP,gQ,cQ,lQ,iN,iS,mP,da,p5,pf⟩:=h9.o
           have a3:=Z iN
           have a8:=Z iS
           have ao:=Z mP
           have q6:=Z da
           have bk:=Z p5
           have b6:=Z pf
           have pb:=iN.len
           have pk:=iS.len
           clear iN iS mP da p5 pf h9
           obtain ⟨i0,hi,pc,pd,pe⟩:=info_parts i36
           have al:=M.below aC.o
           have c5:am recB I A lm:=ca.block (aC.block _ ca.lt)
           have hN:ml<=V/\V<w1.heap.size:=a3.s2.lt V rfl
           have s0:ml<=gQ/\gQ<w1.heap.size:=a8.s2.lt gQ rfl
           have it:¬((a4,a5)=((a9,ac):RK)):=λe2=>by
            have:=cK a0.o.srt a3.o.lt a8.o.lt (by rw [a3.o.key,a8.o.key,e2])
            have h2:=ao.o
            omega
           have ms:V≠gQ:=λe=>f5.o _ _ _ _ a3.o.s1 a8.o.s1 it (by simp [wa,e])
           have e4:I.ownsRow ml 36 2 (fn (X ⟨V,0,Y⟩) lP.length cP) lP.length (lP.flatMap rkCells):=ag a3.s2 (λg hg=>aC.block g (a3.s2.lt g hg).2)
           have gs:I.ownsRow ml 36 2 (fn (X ⟨gQ,0,Y⟩) lQ.length cQ) lQ.length (lQ.flatMap rkCells):=ag a8.s2 (λg hg=>aC.block g (a8.s2.lt g hg).2)
           have nE:A<w1.heap.size:=ca.lt
           have ax:A≠bt/\A≠t/\A≠V/\A≠gQ:=by
            obtain ⟨cu,b0⟩:=aA e4 rfl
            obtain ⟨tr,ry⟩:=aA gs rfl
            exact ⟨aj c5 al.vt,aj c5 al.tb,aj c5 b0,aj c5 ry⟩
           have bY:V≠bt/\V≠t:=by
            obtain ⟨cu,b0⟩:=aA e4 rfl
            exact ⟨dt b0 al.vt (by decide),dt b0 al.tb (by decide)⟩
           have oN:=aC.size
           have t3:w1.heap.size<D.heap.size:=by have:=hA.o;omega
           have c9:Hid (∀W:wf,(∀q,q=bt∨q=t∨q=w1.heap.size∨q=D.heap.size->W.heap[q]? =I.heap[q]?)->Cl W bt 0 (hb (X ⟨t,0,Y⟩))/\Cl W t 1 (g1 (X A))/\(Cl W w1.heap.size 0 (J U a4)/\Cl W w1.heap.size 1 (J U a5))/\(Cl W D.heap.size 0 (J U a9)/\Cl W D.heap.size 1 (J U ac))/\Cl W t 0 (g1 (X f))):=λW hW=>by
            have N:=(hW bt (.inl rfl)).trans al.vt
            have g2:=(hW t (.inr (.inl rfl))).trans al.tb
            exact ⟨(aa N 0).trans rfl,(cU g2).2,cU ((hW _ (.inr (.inr (.inl rfl)))).trans bk.o),cU ((hW _ (.inr (.inr (.inr rfl)))).trans b6.o),(cU g2).1⟩
           have i8:rkOk (a4,a5):=a3.ok
           have oa:rkOk (a9,ac):=a8.ok
           have sm:(r2 93 (g1 (X A)) (.agg #[J U a9,J U ac]) false).run prog I.drew= .ok (fn (X ⟨gQ,0,Y⟩) lQ.length cQ) I.drew:=by
            have:=am.look (w:=I.drew) (am.drew c5) underlying93 (eN I.drew) (a9,ac) oa
            rw [a8.o.s1] at this;exact this
           have se:lm.length<=5000:=wb (pm ca.o (λk hk=>by
            obtain ⟨t',h1,_,h3⟩:=(d0 k).1 hk
            rw [<- h3,gg M.o.srt h1];rfl)) M.o.len
           obtain ⟨st,rr,ra,iF,mc,gi,oR⟩:=am.entry (w:=I.drew) (am.drew c5) gJ underlying93 eN (a4,a5) i8 (by unfold maxLen;omega)
           rw [a3.o.s1] at iF
           have hE:=c9 I.drew (λ_ _=>rfl)
           go_wp2_with fail
           refine wT (λW=>Cl W bt 0 (hb (X ⟨t,0,Y⟩))/\Cl W t 1 (g1 (X A))/\(Cl W w1.heap.size 0 (J U a4)/\Cl W w1.heap.size 1 (J U a5))/\(Cl W D.heap.size 0 (J U a9)/\Cl W D.heap.size 1 (J U ac))/\Cl W t 0 (g1 (X f))) 15 ?_
           have B:=tkL [0,4,5,9,1,6,2,7,3,8]
           repeat (refine tkI B ?_ rfl hE ?_ ?_;rotate_left;intro w' h;obtain ⟨h0,h1,⟨h2,h3⟩,⟨h4,h5⟩,_⟩:=h;go_simp;rfl;(try go_simp);replace B:=tkO B)
           clear B
           refine Dp 10 λK b=>?_
           go_simp
           refine b _ _ (λ_=>hE) ?_
           clear b K
           refine Dp 11 λK b=>?_
           refine bp rfl iF ?_
           generalize hw6:Go.ChangeMaps.setBlock I.drew A (.map rr ra)=w6 at *
           have cd:∀q,q≠A->w6.heap[q]? =I.heap[q]? :=λq hq=>gi.block q hq
           have t5:w6.heap.size=I.heap.size:=gi.size
           have hF:=c9.o w6 (λq hq=>cd q (by rcases hq with rfl|rfl|rfl|rfl;exact ax.1.symm;exact ax.2.1.symm;omega;omega))
           refine b _ _ (λ_=>hF) ?_
           clear b K
           go_simp
           have B:=tkL [12,14]
           repeat (refine tkI B ?_ rfl hF ?_ ?_;rotate_left;intro w' h;go_simp;rfl;(try go_simp);replace B:=tkO B)
           clear B
           obtain ⟨gb,d8,w7,iD,ds,c0,mp⟩:=bj (P:=prog) w6 ml 52 52 36 i0 _ 2 16 underlying52 hi pc pd pe rfl (by decide) V lP.length cP (lP.flatMap rkCells) (ag e4 (λg hg=>cd g (by simp [wa] at hg;omega))) I.heap.size (fn (X ⟨gQ,0,Y⟩) lQ.length cQ) lQ.length (lQ.flatMap rkCells) (((aX gs).mono (vN _) (nq _)) |> λh=>(aX (ag gs (λg hg=>cd g (by simp [wa] at hg;omega)))).mono (vN _) (by omega)) (oZ lQ) (uH lQ) (by unfold maxLen;omega) (by omega) (by have:=eQ.o.1;have:=c6.o.size;omega)
           obtain ⟨zs,e8⟩:=Qe (lP++lQ)
           have pt:lP.length+lQ.length=zs.length:=by rw [<- e8];simp
           have da:lP.flatMap rkCells++lQ.flatMap rkCells=zs.flatMap rkCells:=by rw [<- e8,List.flatMap_append]
           rw [pt] at iD ds
           rw [da] at ds
           have d7:Hid (zs.Perm (aW L (mergeS set iP iQ) iP)):=by
            have:=wR M.o.srt M.o.ok.len (show iP≠iQ from λe=>by have:=ao.o;omega) a3.o.s3 a8.o.s3
            rw [e8,w5 (xk ao.o)] at this
            exact this
           have up:zs.length<=10000:=by omega
           have tl:=Z e8
           clear e8 da
           refine Dp 13 λK b=>?_
           refine kZ rfl rfl rfl iD ?_
           have di:∀q,q<w6.heap.size->q≠V->w7.heap[q]? =w6.heap[q]? :=λq hq i1=>c0.block q hq (λe=>i1 (by injection e))
           have lT:D.heap.size<I.heap.size:=ae b6.o
           have me:bt<I.heap.size:=ae al.vt
           have p4:t<I.heap.size:=ae al.tb
           have m7:=c9.o w7 (λq hq=>(di q (by rcases hq with rfl|rfl|rfl|rfl<;>omega) (by rcases hq with rfl|rfl|rfl|rfl;exact bY.1.symm;exact bY.2.symm;omega;omega)).trans (cd q (by rcases hq with rfl|rfl|rfl|rfl;exact ax.1.symm;exact ax.2.1.symm;omega;omega)))
           refine b _ _ (λ_=>m7) ?_
           clear b K
           obtain ⟨w8,oj,nf,dr⟩:=oR w7 (fn (X ⟨gb,0,Y⟩) zs.length d8) ((di A (by omega) ax.2.2.1).trans mc)
           refine Dp 15 λK b=>?_
           refine aZ rfl oj ?_
           refine b _ _ (λh=>absurd rfl h) ?_
           clear b K
           refine dN ?_
           have mt:aq A I w6:=(aq.refl A I).drew.trans gi
           have j0:ah (λq=>q=f∨q=A∨q=V) I (λq=>q=f∨q=A∨q=V) w8:=
            ((ah.of_only mt (.inr (.inl rfl))).trans (⟨c0.os,c0.tape,c0.output,c0.size,λk hk hn=>di k hk (λe=>hn (.inr (.inr e))),λ_ h=> .inl h⟩:ah _ w6 _ w7)).trans (ah.of_only dr (.inr (.inl rfl)))
           have fy:gb=V∨I.heap.size<=gb:=by rcases mp with e|e;exact .inl e;right;omega
           obtain ⟨e9,dn,mv⟩:=al.of
           have b3:f≠bt/\f≠t/\f≠A:=⟨aj dn al.vt,aj dn al.tb,al.ne⟩
           have ny:f<w1.heap.size:=by obtain ⟨l1,N,_⟩:=M.of;exact N.lt
           have gf:f≠V:=by
            obtain ⟨cu,b0⟩:=aA e4 rfl
            exact aj dn b0
           have hZ:f≠gb:=by rcases fy with e|e;rw [e];exact gf;omega
           have t6:w6.heap.size<=w7.heap.size:=c0.size
           have t7:w8.heap.size=w7.heap.size:=dr.size
           have rW:gb<w7.heap.size:=(ds.lt gb rfl).2
           have gd:A≠gb:=by rcases fy with e|e;rw [e];exact ax.2.2.1;omega
           obtain ⟨w9,oi,hV,nO⟩:=am.del_run (w:=w8.drew) (am.drew nf) underlying93 (a9,ac) oa 0
           have dc:aq A w8 w9:=(aq.refl A w8).drew.trans nO
           have j1:ah (λq=>q=f∨q=A∨q=V) I (λq=>q=f∨q=A∨q=V) w9:=j0.trans (ah.of_only dc (.inr (.inl rfl)))
           have gt:ah (λq=>q=f∨q=A∨q=V) I (λq=>q=f∨q=A∨q=V) w9.drew:=j1.trans (ah.of_below (r1 _ w9).drew)
           have gn:w9.drew.ownsRow ml 36 2 (fn (X ⟨gb,0,Y⟩) zs.length d8) zs.length (zs.flatMap rkCells):=ag ds (λg hg=>by
            simp only [wa,ws] at hg
            subst hg
            exact (dc.block _ (λe=>gd e.symm)).trans (dr.block _ (λe=>gd e.symm)))
           have gp:∀q,q=bt∨q=t∨q=w1.heap.size∨q=D.heap.size->q<I.heap.size/\q≠f/\q≠A/\q≠V:=λq hq=>by
            rcases hq with rfl|rfl|rfl|rfl
            · exact ⟨me,b3.1.symm,ax.1.symm,bY.1.symm⟩
            · exact ⟨p4,b3.2.1.symm,ax.2.1.symm,bY.2.symm⟩
            · exact ⟨by omega,by omega,by omega,by omega⟩
            · exact ⟨lT,by omega,by omega,by omega⟩
           have bA:=c9 w8.drew (λq hq=>by obtain ⟨N,g2,g3,g4⟩:=gp q hq;exact j0.block q N (by rintro (e|e|e);exact g2 e;exact g3 e;exact g4 e))
           have rt:=c9 w9 (λq hq=>by obtain ⟨N,g2,g3,g4⟩:=gp q hq;exact j1.block q N (by rintro (e|e|e);exact g2 e;exact g3 e;exact g4 e))
           have sl:(r2 93 (g1 (X A)) (.agg #[J U a4,J U a5]) false).run prog w9.drew= .ok (fn (X ⟨gb,0,Y⟩) zs.length d8) w9.drew:=by
            have:=am.look (w:=w9.drew) (am.drew hV) underlying93 (eN w9.drew) (a4,a5) i8
            rw [lJ,if_neg it,dj,if_pos rfl] at this;exact this
           have su:am recB w9.drew f e9:=dn.block (by
            have e1:w9.drew.heap[f]? =w8.heap[f]? :=dc.block f b3.2.2
            exact e1.trans ((dr.block f b3.2.2).trans ((di f (by omega) gf).trans (cd f b3.2.2))))
           have kc:Hid (∀W,ah (λq=>q=f) w9.drew (λq=>q=f) W->(Cl W bt 0 (hb (X ⟨t,0,Y⟩))/\Cl W t 0 (g1 (X f))/\(Cl W w1.heap.size 0 (J U a4)/\Cl W w1.heap.size 1 (J U a5)))/\eu 0 W.heap.size W (fn (X ⟨gb,0,Y⟩) zs.length d8) zs):=λW C=>by
            have t4:=gt.size
            obtain ⟨N,g2,g3,g4,g5⟩:=c9 W (λq hq=>by
             obtain ⟨N,g2,g3,g4⟩:=gp q hq
             exact (C.block q (by omega) g2).trans (gt.block q N (by rintro (e|e|e);exact g2 e;exact g3 e;exact g4 e)))
            exact ⟨⟨N,g5,g3⟩,(aX (ag gn (λg hg=>C.block g (gn.lt g hg).2 (by
             simp only [wa,ws] at hg
             subst hg
             exact hZ.symm)))).mono (vN _) (nq _)⟩
           have kl:=Z mv
           have qn:=Z hV
           have l5:=Z gt
           have kz:=Z gn
           have tc:=Z dc
           have qq:Hid (f≠A/\f≠V/\f≠gb/\A≠gb/\(gb=V∨I.heap.size<=gb)/\f≠bt/\f≠t/\A≠bt/\A≠t/\V≠bt/\V≠t/\V≠gQ/\f<w1.heap.size/\A<w1.heap.size/\V<w1.heap.size/\ml<=V/\w1.heap.size<=I.heap.size/\bt<w1.heap.size/\t<w1.heap.size):=⟨b3.2.2,gf,hZ,gd,fy,b3.1,b3.2.1,ax.1,ax.2.1,bY.1,bY.2,ms,ny,nE,hN.2,hN.1,oN,ae M.vt,ae M.tb⟩
           have tz:=i8
           clear j0 j1 gt gn dc mt gp hV nO sm iF e4 gs c5 al ax bY hN s0 ms b3 ny gf hZ gd fy mp cd di t5 t6 t7 rW hE hF m7 mc gi oR ds c0 iD oj nf dr mv hi pc pd pe lT me p4 t3 oN nE dn se pt
           go_wp2_with fail
           obtain ⟨z0,z1,z2,z3,z4⟩:=id bA
           refine wT (λW=>Cl W bt 0 (hb (X ⟨t,0,Y⟩))/\Cl W t 1 (g1 (X A))/\(Cl W w1.heap.size 0 (J U a4)/\Cl W w1.heap.size 1 (J U a5))/\(Cl W D.heap.size 0 (J U a9)/\Cl W D.heap.size 1 (J U ac))/\Cl W t 0 (g1 (X f))) 5 ?_
           refine Qb [4] bA (λw' h=>h) ?_
           refine Dp 0 λK b=>?_
           go_simp
           refine b _ _ (λ_=>bA) ?_
           clear b K
           refine Dp 1 λK b=>?_
           go_simp
           refine b _ _ (λ_=>bA) ?_
           clear b K
           refine Dp 2 λK b=>?_
           go_simp
           refine b _ _ (λ_=>bA) ?_
           clear b K
           refine Qb [3] bA (λw' h=>h) ?_
           refine Dp 5 λK b=>?_
           refine sL rfl rfl rfl oi ?_
           refine b _ _ (λh=>absurd rfl h) ?_
           clear b K
           refine dN ?_
           clear z0 z1 z2 z3 z4 bA oi
           go_wp2_with fail
           obtain ⟨z0,z1,⟨z2,z3⟩,⟨z4,z5⟩,z6⟩:=rt
           go_simp
           go_big_region
           go_wp2_with fail
           clear z0 z1 z2 z3 z4 z5 z6 sl
           go_loopw [16,130] (λ_x i wr=>∃m:Nat,m<=zs.length/\i=J U m/\Hid (ah (λq=>q=f) w9.drew (λq=>q=f) wr)/\Hid (∃l2,am recB wr f l2/\∀k,lookL l2 k=if k∈zs.take m then X (recK (a4,a5)) else lookL e9 k)) (λ_ i _=>zs.length - (intOf i).toNat)
           case atStart=>exact ⟨0,vN _,rfl,ah.refl _ _,e9,su,λk=>by simp⟩
           case round=>
            obtain ⟨m,hm,rfl,hv,kk⟩:=hrel
            by_cases hlt3:m<zs.length
            · obtain ⟨_,oF⟩:=kc wr hv.o
              obtain ⟨b',px,lB,he,_,md,e0,e1⟩:=oF.one m hlt3
              cases he
              have cc:Hid (zs[m]∈zs):=w2 hlt3
              have d1:Hid (zs.take (m+1)=zs.take m++[zs[m]]):=w0 hlt3
              obtain ⟨r,hr⟩:=Qe (zs[m])
              rw [hr] at e0 e1 cc d1
              obtain ⟨l,z⟩:=r
              dsimp only at e0 e1
              rw [xc] at e0 e1
              clear hr oF
              have ad:Bw wr (wr.alloc (ih #[J U l,J U z] 36)).drew:=((r1 _ wr).alloc (nq _) _).drew
              obtain ⟨wz,b9⟩:=Qe ((wr.alloc (ih #[J U l,J U z] 36)).drew)
              have hnew:wz.heap[wr.heap.size]? =X (ih #[J U l,J U z] 36 (0,0)):=by rw [<- b9];exact mk wr _
              rw [b9] at ad
              have lb:Hid (ah (λq=>q=f) w9.drew (λq=>q=f) wz):=hv.trans (ah.of_below ad)
              obtain ⟨⟨g0,N,g2,g3⟩,_⟩:=kc wz lb.o
              obtain ⟨g4,g5⟩:=cU hnew
              obtain ⟨l2,fz,hT⟩:=kk.o
              have sC:rkOk (l,z):=by
               obtain ⟨i,hi,_,hk⟩:=ba.1 (d7.mem_iff.1 cc.o)
               rw [<- hk];exact M.o.key i hi
              have sb:l2.length<=5000:=wb (pm fz (λk hk=>by
               rw [hT] at hk
               split at hk
               · rename_i dd
                 obtain ⟨i,hi,_,s4⟩:=ba.1 (d7.mem_iff.1 (List.mem_of_mem_take dd))
                 rw [<- s4,gg M.o.srt hi];rfl
               · rw [kl.o] at hk
                 simpa using hk)) M.o.len
              obtain ⟨wu,op,nz,o3⟩:=am.put_run (w:=wz) (fz.block (ad.block _ fz.lt)) underlying92 (by unfold maxLen;omega) (l,z) sC (recK (a4,a5))
              have qs:Hid (ah (λq=>q=f) w9.drew (λq=>q=f) wu):=lb.trans (ah.of_only o3 rfl)
              have qk:Hid (∃l2,am recB wu f l2/\∀k,lookL l2 k=if k∈zs.take (m+1) then X (recK (a4,a5)) else lookL e9 k):=⟨_,nz,λk=>by
               rw [dj,hT,d1.o]
               by_cases e:k=(l,z)
               · rw [if_pos e,if_pos (by rw [e];simp)]
               · rw [if_neg e]
                 by_cases e2:k∈zs.take m
                 · rw [if_pos e2,if_pos (List.mem_append_left _ e2)]
                 · rw [if_neg e2,if_neg (by simp [e,e2])]⟩
              clear ad hnew fz hT nz o3 sb
              go_wp2_with fail
              refine wT (λW=>W=wz) 6 ?_
              rw [b9]
              have B:=tkL [0,4,5,1,2,3]
              repeat (refine tkI B ?_ rfl rfl ?_ ?_;rotate_left;intro w' h;obtain rfl:=h;go_simp;rfl;(try go_simp);replace B:=tkO B)
              clear B
              refine Dp 6 λK b=>?_
              refine fK rfl op ?_
              refine b _ _ (λh=>absurd rfl h) ?_
              clear b K
              refine dN ?_
              clear b9 g0 N g2 g3 g4 g5 e0 e1 op
              go_wp2_with fail
              go_roundw
              case rel=>exact ⟨m+1,by omega,by go_num,qs,qk⟩
              case measure=>simp [intOf];omega
            · have hd:Hid (∃l2,am recB wr f l2/\∀k,lookL l2 k=if k∈zs then X (recK (a4,a5)) else lookL e9 k):=by
               obtain ⟨l2,q1,q2⟩:=kk.o
               rw [wq (by omega)] at q2
               exact ⟨l2,q1,q2⟩
              go_wp2_with fail
              refine bodyPost_end (wB rfl _ _ _) rfl ?_
              rw [q6.o]
              obtain ⟨l2,q1,q2⟩:=hd.o
              obtain ⟨n1,n2,n3,n4,n5,n6,n7,n8,n9,t8,t9,v7,v9,va,vb,vd,vn,vq,vr⟩:=qq.o
              have aS:=M.below aC.o
              have hS:=hv.o
              have m6:=l5.trans (hS.widen (G:=λq=>q=f∨q=A∨q=V) (λk h=> .inl h))
              have t4:=l5.size
              have v4:=hS.size
              have HQ:∀q,q<I.heap.size->q≠f->q≠A->q≠V->wr.heap[q]? =I.heap[q]? :=λq N g2 g3 g4=>m6.block q N (by rintro (e|e|e);exact g2 e;exact g3 e;exact g4 e)
              obtain ⟨v5,nx,_⟩:=M.of
              obtain ⟨cu,b0⟩:=aA a3.s2 rfl
              have c1:f≠bc:=aj nx M.vc
              have c2:A≠bc:=aj ca.o M.vc
              have c3:V≠bc:=dt b0 M.vc (by decide)
              have c4:=M.los
              have ch:min iP iQ=iP:=w5 (xk ao.o)
              have ss:max iP iQ=iQ:=Nat.max_eq_right (xk ao.o)
              have i1:iP≠iQ:=λe=>by have:=ao.o;omega
              refine ⟨rfl,⟨(HQ bt (ae aS.vt) n6.symm n8.symm t8.symm).trans aS.vt,(HQ bc (ae aS.vc) c1.symm c2.symm c3.symm).trans aS.vc,(HQ t (ae aS.tb) n7.symm n9.symm t9.symm).trans aS.tb,⟨l2,q1,yc M.o.srt M.o.ok kl.o (zs:=zs) (by rw [ch];exact d7.o) (by rw [ch,a3.o.key];exact q2)⟩,
               vW M.o.srt M.o.ok i1 a3.o.lt a8.o.lt a3.o.rep a8.o.rep d0.o f4.o f5.o (v:=fn (X ⟨gb,0,Y⟩) zs.length d8) (zs:=zs) (qn.o.block (hS.block A (by omega) n1.symm)) ?hl (ag kz.o (λg hg=>hS.block g (kz.o.lt g hg).2 (by
                simp only [wa,ws] at hg
                subst hg
                exact n3.symm))) (by rw [ch];exact d7.o) ?hkeep ?hnew,
               aS.cat.step (λk hf=>HQ k (aS.cat.lt k hf) (by have:=M.o.lof k hf;omega) (by have:=M.o.lof k hf;omega) (by have:=M.o.lof k hf;omega)) (by omega),aS.ne,?los,aS.lof,M.o.ok.merge a3.o.lt a8.o.lt a3.o.rep a8.o.rep,M.o.srt,M.o.key,M.o.len⟩,?bel⟩
              case hl=>
               intro k
               rw [ch,ss,a3.o.key,a8.o.key,lJ,dj]
               by_cases e:k=(a4,a5)
               · rw [if_neg (λe2=>it (e.symm.trans e2)),if_pos e,if_pos e]
               · rw [if_neg e,if_neg e]
              case hkeep=>
               intro k u k1 k2 hu g hg
               rw [ch,a3.o.key] at k1
               obtain ⟨f1,f2⟩:=kR d0.o f4.o hu g hg
               have f3:g≠V:=λe=>f5.o _ _ _ _ hu a3.o.s1 k1 (by rw [hg,e];rfl)
               obtain ⟨t',sM,ta,s5⟩:=(d0.o k).1 (by rw [hu];rfl)
               obtain ⟨v',vs,gz,sz,_⟩:=f4 t' sM ta
               rw [s5,hu] at gz
               injection gz with gz
               subst gz
               obtain ⟨cg,mf⟩:=aA sz hg
               exact (HQ g (by omega) (aj nx mf).symm (aj ca.o mf).symm f3).trans (aC.o.block g f2)
              case hnew=>
               intro k u k1 hu
               rw [ch,a3.o.key] at k1
               intro e
               have e2:u.ownBlock=X gb:=e.symm
               obtain ⟨f1,f2⟩:=kR d0.o f4.o hu gb e2
               rcases n5 with e3|e3
               · exact f5.o _ _ _ _ hu a3.o.s1 k1 (by rw [e2,e3];rfl)
               · omega
              case los=>exact ⟨c4.1,c4.2.1,c4.2.2.1,c4.2.2.2.1,c4.2.2.2.2.1,by have:=ha.o;have:=c6.o.size;omega,eQ.o.2,by have:=eQ.o.1;have:=c6.o.size;omega⟩
              case bel=>
               have ty:=eQ.o
               have rx:=c6.size
               refine ⟨(d2.o _ aC.o).1.trans (m6.below (λk hk=>by rcases hk with rfl|rfl|rfl;exact c4.2.2.2.1;exact c4.2.2.2.2.1;omega) (by omega)).1,λq hq q1 q2 q3=>?_⟩
               have sx:q<w1.heap.size:=Nat.lt_of_lt_of_le hq rx
               refine ((HQ q (by omega) q1 q2 (λe=>?_)).trans (aC.o.block q sx)).trans (c6.o.block q hq)
               rcases q3 with q3|q3
               · omega
               · refine q3 cu ?_
                 rw [<- c6.o.block q hq,e]
                 exact b0
end
end Go.Proofs.YtjcimanddakkaaaGreatDoor
