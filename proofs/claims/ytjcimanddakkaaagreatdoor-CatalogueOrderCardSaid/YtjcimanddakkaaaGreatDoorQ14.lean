/- Lemmas. -/
import Derived.Test.YtjcimanddakkaaaGreatDoorQ13
set_option maxRecDepth 100000
set_option maxHeartbeats 8000000
namespace Go.Proofs.YtjcimanddakkaaaGreatDoor
open _root_.Option renaming some→X,none→Y
open Go.Value renaming int→J,slice→fn,map→g1,bool→gP,pointer→hb
open Go.IntKind renaming i64→U
open Go.Ending renaming returned→hK
open Go.Obj renaming cells→ih
open Go.Lib renaming hid→Z
open Tryz
open Go.World renaming alloc_heap_new→mk
open _root_.Nat renaming le_refl→nq,zero_le→ua,le_trans→uc,min_eq_left→v5,zero_add→wa,le_of_lt→wb
open Go.RowKit.Below renaming refl→r1,heap_setCell→uo
open Go.Instr renaming lookup→r2
open Go.Value renaming ownBlock→ub
open Go renaming World→up,Value→vd,results_none→vn,bodyPost_ret→v7,TypeId→wc
open _root_.List renaming take_of_length_le→va,take_succ_eq_append_getElem→vs,getElem_mem→vN
open _root_.Option.some renaming injEq→vb
open Go.World.ownsRow renaming form→v4
open Go.Calls renaming mono→v9
open Go.Result renaming andThen_ok→wf
section
open Go.RowKit Go.Maps Go.Shelf
structure CI (lo:Nat) (w:up) (b:Nat) (L:VL) (set:List Nat):Prop where
 ex:∃l,ak recB w b l/\(∀k,(lookL l k).isSome=true↔∃t,t<L.length/\set.getD t 0=t/\keyC L t=k)/\
  (∀t,t<L.length->set.getD t 0=t->∃(v:vd) (xs:List RK),lookL l (keyC L t)=some v/\w.ownsRow lo 36 2 v xs.length (xs.flatMap rkCells)/\xs.Perm (aW L set t))/\
  ∀k1 k2 v1 v2,lookL l k1=some v1->lookL l k2=some v2->k1≠k2->v1.ownBlock≠v2.ownBlock
theorem lj {lo:Nat} {w:up} {L:VL} {set:List Nat} {k:RK} {l:List (RK×vd)} (i:∀k,(lookL l k).isSome=true↔∃t,t<L.length/\set.getD t 0=t/\keyC L t=k) (e:∀t,t<L.length->set.getD t 0=t->∃(v:vd) (c:List RK),lookL l (keyC L t)=X v/\w.ownsRow lo 36 2 v c.length (c.flatMap rkCells)/\c.Perm (aW L set t)) {v:vd} (d:lookL l k=X v):
 ∀g,v.ownBlock=X g->lo<=g/\g<w.heap.size:=by
 obtain ⟨t,m,n,h⟩:=(i k).1 (by rw [d];rfl);obtain ⟨p,c,b,j,_⟩:=e t m n;rw [h,d] at b;injection b with b
 subst b;exact λg f=>j.lt g f
structure UN (lo lm:Nat) (F:Nat->Prop) (w:up) (bt bc t mo mm c:Nat) (m1 m2 m3:Option Nat) (kn:vd) (d:ar) (L:VL) (set:List Nat):Prop where
 vt:Bk w bt #[.pointer (some ⟨t,0,none⟩)] 96
 vc:Bk w bc #[.pointer (some ⟨c,0,none⟩)] 24
 tb:Bk w t #[.map (some mo), .map (some mm)] 95
 of:CH w mo L set
 mem:CI lm w mm L set
 cat:dF F w c m1 m2 m3 kn d
 ne:mo≠mm
 los:lo<=bt/\lo<=bc/\lo<=t/\lo<=mo/\lo<=mm/\lo<=w.heap.size/\lo<=lm/\lm<=w.heap.size
 lof:∀k,F k->k<lo
 ok:dS L.length set
 srt:aq ltRK L
 key:∀i,i<L.length->rkOk (keyC L i)
 len:L.length<=5000
theorem UN.below {lo n:Nat} {F:Nat->Prop} {w w':up} {j i t u s c:Nat} {p q r:Option Nat} {m:vd} {d:ar} {L:VL} {set:List Nat} (h:UN lo n F w j i t u s c p q r m d L set) (b:Bw w w'):UN lo n F w' j i t u s c p q r m d L set:=by
 obtain ⟨l,e,x⟩:=h.of;obtain ⟨T,f,y,z,A⟩:=h.mem;refine ⟨(b.block _ (ae h.vt)).trans h.vt,(b.block _ (ae h.vc)).trans h.vc,(b.block _ (ae h.tb)).trans h.tb,⟨l,e.block (b.block _ e.lt),x⟩,⟨T,f.block (b.block _ f.lt),y,λt R V=>?_,A⟩,h.cat.below b,h.ne,?_,h.lof,h.ok,h.srt,h.key,h.len⟩
 · obtain ⟨v,W,h1,k,N⟩:=z t R V;exact ⟨v,W,h1,ah k (λg O=>b.block g (k.lt g O).2),N⟩
 · obtain ⟨B,C,D,E,G,H,I,M⟩:=h.los;exact ⟨B,C,D,E,G,uc H b.size,I,uc M b.size⟩
def UFr (b:Nat) (w w':up) (e d:Nat):Prop:=∀q,q<w.heap.size->q≠e->q≠d->(q<b∨∀c,w.heap[q]? ≠X (Obj.cells c 36 (0,0)))->w'.heap[q]? =w.heap[q]?
theorem yT {L:VL} {set:List Nat} (u:aq ltRK L) (m:dS L.length set) {l g:List (RK×vd)} (h:∀k,lookL l k=(atC L k).map λi=>recK (keyC L (set.getD i 0))) {x y:Nat} {zs:List RK} (f:zs.Perm (aW L (mergeS set x y) (min x y)))
 (n:∀k,lookL g k=if k∈zs then X (recK (keyC L (min x y))) else lookL l k):∀k,lookL g k=(atC L k).map λi=>recK (keyC L ((mergeS set x y).getD i 0)):=by
 intro k;rw [n,h];have v:∀i,i<L.length->((mergeS set x y).getD i 0=min x y↔set.getD i 0=x∨set.getD i 0=y∨set.getD i 0=min x y):=λi b=>by
  rw [cE (by rw [m.len];exact b)];split
  · rename_i h;exact ⟨λ_=>h.elim .inl (λh=> .inr (.inl h)),λ_=>rfl⟩
  · rename_i h;exact ⟨λe=> .inr (.inr e),λe=>by rcases e with e|e|e;exact absurd (.inl e) h;exact absurd (.inr e) h;exact e⟩
 cases ha:atC L k with
 |none=>
  have:k∉zs:=λc=>by obtain ⟨i,b,_,q⟩:=aZ.1 (f.mem_iff.1 c);exact at_none ha i b q
  rw [if_neg this];rfl
 |some i=>
  obtain ⟨b,c⟩:=at_some ha;simp only [Option.map_some];by_cases hmem:k∈zs
  · rw [if_pos hmem];obtain ⟨j,r,s,t⟩:=aZ.1 (f.mem_iff.1 hmem);have:j=i:=cN u r b (by rw [t,c]);subst this;rw [s]
  · rw [if_neg hmem];have d:(mergeS set x y).getD i 0≠min x y:=λe=>hmem (f.mem_iff.2 (aZ.2 ⟨i,b,e,c⟩));rw [cE (by rw [m.len];exact b)] at d ⊢;split at d
    · exact absurd rfl d
    · rename_i p;rw [if_neg p]
theorem wQ {lo:Nat} {w w':up} {b:Nat} {L:VL} {set:List Nat} (E:aq ltRK L) (G:dS L.length set) {x y:Nat} (a8:x≠y) (hx:x<L.length) (hy:y<L.length) (H:set.getD x 0=x) (I:set.getD y 0=y) {l F:List (RK×vd)} (h2:∀k,(lookL l k).isSome=true↔∃t,t<L.length/\set.getD t 0=t/\keyC L t=k)
 (h3:∀t,t<L.length->set.getD t 0=t->∃(v:vd) (A:List RK),lookL l (keyC L t)=X v/\w.ownsRow lo 36 2 v A.length (A.flatMap rkCells)/\A.Perm (aW L set t)) (h4:∀q n s z,lookL l q=X s->lookL l n=X z->q≠n->s.ownBlock≠z.ownBlock)
 (hm:ak recB w' b F) {v:vd} {zs:List RK} (B:∀k,lookL F k=if k=keyC L (min x y) then X v else if k=keyC L (max x y) then Y else lookL l k) (hv:w'.ownsRow lo 36 2 v zs.length (zs.flatMap rkCells)) (hz:zs.Perm (aW L (mergeS set x y) (min x y)))
 (a0:∀k u,k≠keyC L (min x y)->k≠keyC L (max x y)->lookL l k=X u->∀g,u.ownBlock=X g->w'.heap[g]? =w.heap[g]?) (T:∀k u,k≠keyC L (min x y)->lookL l k=X u->v.ownBlock≠u.ownBlock):CI lo w' b L (mergeS set x y):=by
 have C:min x y<L.length:=by omega
 have R:max x y<L.length:=by omega
 have a4:min x y≠max x y:=by omega
 have r:∀t,t<L.length->((mergeS set x y).getD t 0=t↔set.getD t 0=t/\t≠max x y):=λt c=>by
  rw [cE (by rw [G.len];exact c)];have a6:=G.le t c;constructor
  · intro e;split at e
    · rename_i h;have:t=x∨t=y:=by omega
      rcases this with rfl|rfl
      · exact ⟨H,by omega⟩
      · exact ⟨I,by omega⟩
    · rename_i h;refine ⟨e,λd=>h ?_⟩;rcases Nat.le_total x y with m|m
      · rw [Nat.max_eq_right m] at d;subst d;exact .inr I
      · rw [Nat.max_eq_left m] at d;subst d;exact .inl H
  · rintro ⟨e,a7⟩;split
    · rename_i h;rw [e] at h;omega
    · exact e
 have N:∀t,t<L.length->t≠min x y->keyC L t≠keyC L (min x y):=λt c D e=>D (cN E c C e);have O:∀t,t<L.length->t≠max x y->keyC L t≠keyC L (max x y):=λt c D e=>D (cN E c R e);refine ⟨F,hm,λk=>?_,λt c p=>?_,λq n s z i f j=>?_⟩
 · rw [B];by_cases e1:k=keyC L (min x y)
   · rw [if_pos e1];exact ⟨λ_=>⟨min x y,C,(r _ C).2 ⟨by rcases Nat.le_total x y with m|m;rw [v5 m];exact H;rw [Nat.min_eq_right m];exact I,a4⟩,e1.symm⟩,λ_=>rfl⟩
   · rw [if_neg e1];by_cases d:k=keyC L (max x y)
     · rw [if_pos d];refine ⟨λh=>(by cases h),?_⟩;rintro ⟨t,c,p,j⟩;exact absurd (cN E c R (by rw [j,d])) ((r t c).1 p).2
     · rw [if_neg d,h2];constructor
       · rintro ⟨t,c,p,j⟩;exact ⟨t,c,(r t c).2 ⟨p,λe=>d (by rw [<- j,e])⟩,j⟩
       · rintro ⟨t,c,p,j⟩;exact ⟨t,c,((r t c).1 p).1,j⟩
 · obtain ⟨a5,V⟩:=(r t c).1 p;rw [B];by_cases e1:t=min x y
   · subst e1;rw [if_pos rfl];exact ⟨v,zs,rfl,hv,hz⟩
   · rw [if_neg (N t c e1),if_neg (O t c V)];obtain ⟨u,A,M,W,a3⟩:=h3 t c a5;refine ⟨u,A,M,ah W (a0 _ u (N t c e1) (O t c V) M),?_⟩;rw [sP G.len (by omega) (by omega)];exact a3
 · rw [B] at i f;by_cases e1:q=keyC L (min x y)
   · rw [if_pos e1] at i;injection i with i
     subst i;have d:n≠keyC L (min x y):=λe=>j (by rw [e1,e]);rw [if_neg d] at f;split at f
     · cases f
     · exact T n z d f
   · rw [if_neg e1] at i;split at i
     · cases i
     · by_cases d:n=keyC L (min x y)
       · rw [if_pos d] at f;injection f with f
         subst f;exact λe=>T q s e1 i e.symm
       · rw [if_neg d] at f;split at f
         · cases f
         · exact h4 q n s z i f j
end
section
open Go.RowKit Go.Maps Go.Shelf
theorem oL:∀u:up,(zeroValue 36).run prog u= .ok (.agg #[J U 0,J U 0]) u:=λu=>by kernel_rfl
theorem eS:∀u:up,(zeroValue 52).run prog u= .ok (fn Y 0 0) u:=λu=>by kernel_rfl
def ci (ps:List (PK×(Int×Bool))) (L:VL) (set:List Nat) (p:PK):List Nat:=match atC L p.1,atC L p.2 with
 |some a,X b=>gJ ps L set a b
 |_,_=>set
def titK (L:VL) (set:List Nat) (k:RK):RK:=((atC L k).map λi=>keyC L (set.getD i 0)).getD (0,0)
theorem UN.look {lo r:Nat} {F:Nat->Prop} {w:up} {i g t b s c:Nat} {n p q:Option Nat} {m:vd} {d:ar} {L:VL} {set:List Nat} (h:UN lo r F w i g t b s c n p q m d L set) (k:RK) (j:rkOk k):
 (r2 92 (g1 (X b)) (recK k) true).run prog w= .ok (.tuple #[recK (titK L set k),gP (atC L k).isSome]) w:=by
 obtain ⟨l,e,f⟩:=h.of;have:=ak.look_ok e underlying92 (oL w) k j;rw [f] at this;refine Eq.trans this ?_;unfold titK;cases atC L k<;>rfl
theorem fE {K:Type} [DecidableEq K]:∀(l m:List K),l.Nodup->(∀k∈l,k∈m)->l.length<=m.length
 |[],_,_,_=>ua _
 |a::l,m,hn,h=>by
  obtain ⟨h1,d⟩:=List.nodup_cons.1 hn
  have b:=h a List.mem_cons_self
  have:=fE l (m.erase a) d (λk c=>(List.mem_erase_of_ne (λ(e:k=a)=>h1 (e ▸ c))).2 (h k (List.mem_cons_of_mem _ c)))
  rw [List.length_erase_of_mem b] at this
  have:=List.length_pos_of_mem b
  simp only [List.length_cons];omega
theorem pL {w:up} {b:Nat} {l:List (RK×vd)} {L:VL} (h:ak recB w b l) (e:∀k,(lookL l k).isSome=true->(atC L k).isSome=true):l.length<=L.length:=by
 have:=fE (l.map (·.1)) ((List.range L.length).map (keyC L)) h.nodup (λk f=>by obtain ⟨i,d⟩:=Option.isSome_iff_exists.1 (e k (rT.2 f));obtain ⟨h1,c⟩:=at_some d;exact List.mem_map.2 ⟨i,by simpa using h1,c⟩)
 simpa using this
theorem ak.put_run {P:Program} {f:wc} {K:Type} [DecidableEq K] {B:ez P f K} {w:up} {b:Nat} {l:List (K×vd)} (h:ak B w b l) {t e:wc} (p:P.underlying t=X (.map f e)) (j:l.length<maxLen) (k:K) (c:B.ok k) (v:vd):
 ∃w',(Instr.mapUpdate t (g1 (X b)) (B.kv k) v).run P w= .ok () w'/\ak B w' b (putL l k v)/\aw b w w':=by
 obtain ⟨r,h1,g,i⟩:=h;obtain ⟨w',n,m,q⟩:=h1.store B.keyed p j (B.key k c) (val:=v) (d:= .held v) (ps:=[]) rfl;exact ⟨w',n,ak.put_of g i c v m,en q⟩
theorem ak.del_run {P:Program} {c:wc} {K:Type} [DecidableEq K] {B:ez P c K} {w:up} {b:Nat} {l:List (K×vd)} (h:ak B w b l) {t e:wc} (n:P.underlying t=X (.map c e)) (k:K) (d:B.ok k) (f:wc):
 ∃w',(Builtin.delete_ #[t,c] f #[g1 (X b),B.kv k]).run P w= .ok (.tuple #[]) w'/\ak B w' b (cn l k)/\aw b w w':=by
 obtain ⟨q,h1,g,i⟩:=h;obtain ⟨w',m,j,p⟩:=h1.drop B.keyed n (B.key k d) f;exact ⟨w',m,ak.del_of g i d j,en p⟩
section
variable {P:Program} {o:Oper} {a:Act} {K:Act->up->Prop} {Q:Exit->Act->up->Prop} {w:up}
theorem iT {s x:Operand} {t:wc} (e:o.op= .call {callee:= .builtin .append,args:= #[s,x],argTypes:= #[t,t]}) {b c v:vd} (g:a.eval s=b) (h:a.eval x=c) {w':up} (f:(Builtin.append_ #[t,t] o.type #[b,c]).run P w= .ok v w') (d:K (a.put o.dst v) w'):o.wp P a w K Q:=by
 unfold Oper.wp execOp;simp only [e,resolve,invoke,builtin,Sem.run_bind,Sem.run_pure,wf,List.map_toArray,List.map_cons,List.map_nil,g,h,f];exact d
theorem fU {t:wc} {m s x:Operand} (c:o.op=Op.mapUpdate t m s x) {w':up} (d:(Instr.mapUpdate t (a.eval m) (a.eval s) (a.eval x)).run P w= .ok () w') (b:K (a.put o.dst undef) w'):o.wp P a w K Q:=by
 unfold Oper.wp;simp [execOp,c,d,Result.andThen];exact b
theorem tp {s x:Operand} {t k:wc} (e:o.op= .call {callee:= .builtin .delete,args:= #[s,x],argTypes:= #[t,k]}) {b c v:vd} (g:a.eval s=b) (h:a.eval x=c) {w':up} (f:(Builtin.delete_ #[t,k] o.type #[b,c]).run P w= .ok v w') (d:K (a.put o.dst v) w'):o.wp P a w K Q:=by
 unfold Oper.wp execOp;simp only [e,resolve,invoke,builtin,Sem.run_bind,Sem.run_pure,wf,List.map_toArray,List.map_cons,List.map_nil,g,h,f];exact d
end
structure Sd (L:VL) (set:List Nat) (lm:List (RK×vd)) (w1:up) (ml I:Nat) (p1 p2:Int) (g c:Nat) (l:List RK):Prop where
 s1:lookL lm (p1,p2)=some (.slice (some ⟨g,0,none⟩) l.length c)
 s2:w1.ownsRow ml 36 2 (.slice (some ⟨g,0,none⟩) l.length c) l.length (l.flatMap rkCells)
 s3:l.Perm (aW L set I)
 ok:rkOk (p1,p2)
 key:keyC L I=(p1,p2)
 lt:I<L.length
 rep:set.getD I 0=I
 len:l.length<=5000
def Bn (L:VL) (set:List Nat) (c:List (RK×vd)) (w1 e:up) (d:Nat) (W:up) (r:List Nat):Prop:=
 ∃(I b:Nat) (p1 p2 q1 q2:Int) (gp cp:Nat) (ps:List RK) (gq cq:Nat) (qs:List RK),Sd L set c w1 d I p1 p2 gp cp ps/\Sd L set c w1 d b q1 q2 gq cq qs/\I<b/\r=mergeS set I b/\
  Bk W w1.heap.size #[J U p1,J U p2] 36/\Bk W e.heap.size #[J U q1,J U q2] 36
def dC (ps:List (PK×(Int×Bool))) (r s:RK):Prop:=∀n,findK ps (pairK r s)≠X (n,false)
theorem qG {ps:List (PK×(Int×Bool))} {b ys:List RK} (h:∀r∈b,∀s∈ys,dC ps r s):jm ps b ys=false:=by
 cases hx:jm ps b ys
 · rfl
 · obtain ⟨r,d,s,e,n,c⟩:=jl.1 hx;exact absurd c (h r d s e n)
theorem vh {α:Type} {l:List α} {k:Nat} (h:k<l.length) {P:α->Prop} (h1:∀a∈l.take k,P a) (c:P l[k]):∀a∈l.take (k+1),P a:=by
 intro a b;rw [vs h] at b;rcases List.mem_append.1 b with b|b
 · exact h1 a b
 · rw [List.mem_singleton.1 b];exact c
theorem qV (lo ml:Nat) (F:Nat->Prop) (w:up) (bt bc t f A c:Nat) (m1 m2 m3:Option Nat) (kn:vd) (d:ar) (L:VL) (set:List Nat) (h:UN lo ml F w bt bc t f A c m1 m2 m3 kn d L set) (p:PK) (hp:pkOk p):
 Calls prog 78 #[pairV p,hb (X ⟨bt,0,Y⟩),hb (X ⟨bc,0,Y⟩)] w λe w'=>e=hK (.tuple #[])/\UN lo ml F w' bt bc t f A c m1 m2 m3 kn d L (ci d.ps L set p)/\Below lo w w'/\UFr ml w w' f A:=by
 obtain ⟨⟨a1,a2⟩,b1,b2⟩:=p;obtain ⟨nb,nf⟩:=hp;dsimp only at nb nf;obtain ⟨w1,iN⟩:=Qe (w.alloc (ih #[J U a1,J U a2,J U b1,J U b2] 134));have bA:Bw w w1:=by rw [<- iN];exact (r1 _ w).alloc (nq _) _
 have hB:w1.heap[w.heap.size]? =X (ih #[J U a1,J U a2,J U b1,J U b2] 134 (0,0)):=by rw [<- iN];exact mk w _
 have M:=Z (h.below bA);have gz:Hid (lo<=w.heap.size):=h.los.2.2.2.2.2.1;have c0:=Z bA;have cz:Hid (∀W,Bw w1 W->Below lo w W/\UFr ml w W f A):=λW C=>⟨(bA.mono gz.o).trans (C.mono (uc gz.o bA.size)),λq hq _ _ _=>(C.block q (Nat.lt_of_lt_of_le hq bA.size)).trans (bA.block q hq)⟩;have eq:Hid (ml<=w.heap.size/\lo<=ml):=⟨h.los.2.2.2.2.2.2.2,h.los.2.2.2.2.2.2.1⟩;have oR:w1.heap.size=w.heap.size+1:=by rw [<- iN];simp
 have qf:=Z oR
 have HK:Hid (∀W,Bw w1 W->Cl W bt 0 (hb (X ⟨t,0,Y⟩))/\Cl W t 0 (g1 (X f))/\Cl W t 1 (g1 (X A))/\(Cl W w.heap.size 0 (J U a1)/\Cl W w.heap.size 1 (J U a2)/\Cl W w.heap.size 2 (J U b1)/\Cl W w.heap.size 3 (J U b2))/\
  (Cl W bc 0 (hb (X ⟨c,0,Y⟩))/\Cl W c 2 (.map m3))/\∀k1 k2:Int,rkOk (k1,k2)->(r2 92 (g1 (X f)) (.agg #[J U k1,J U k2]) true).run prog W= .ok (.tuple #[.agg #[J U (titK L set (k1,k2)).1,J U (titK L set (k1,k2)).2],gP (atC L (k1,k2)).isSome]) W):=λW C=>by
  have hu:=M.below C
  obtain ⟨e0,e1⟩:=db hu.tb
  have e2:=ns ((C.block _ (ae hB)).trans hB)
  exact ⟨(aa hu.vt 0).trans rfl,e0,e1,e2,⟨(aa hu.vc 0).trans rfl,(aa hu.cat.blk 2).trans rfl⟩,λk1 k2 hk=>hu.look (k1,k2) hk⟩
 have HB:=Z hB;unfold pairV;dsimp only;clear h bA hB oR;have dn:Bw w1 w1.drew:=(r1 _ w1).drew;have ej:Hid (∀W,Bw w1 W->(r2 92 (g1 (X f)) (.agg #[J U a1,J U a2]) true).run prog W= .ok (.tuple #[.agg #[J U (titK L set (a1,a2)).1,J U (titK L set (a1,a2)).2],gP (atC L (a1,a2)).isSome]) W):=λW C=>(HK W C).2.2.2.2.2 a1 a2 nb;have em:Hid (∀W,Bw w1 W->(r2 92 (g1 (X f)) (.agg #[J U b1,J U b2]) true).run prog W= .ok (.tuple #[.agg #[J U (titK L set (b1,b2)).1,J U (titK L set (b1,b2)).2],gP (atC L (b1,b2)).isSome]) W):=λW C=>(HK W C).2.2.2.2.2 b1 b2 nf;obtain ⟨⟨x1,x2⟩,hx⟩:∃x,titK L set (a1,a2)=x:=⟨_,rfl⟩;obtain ⟨⟨O,T⟩,hy⟩:∃y,titK L set (b1,b2)=y:=⟨_,rfl⟩;obtain ⟨ia,hI⟩:=Qe (atC L (a1,a2));obtain ⟨ib,hJ⟩:=Qe (atC L (b1,b2));rw [hx,hI] at ej;rw [hy,hJ] at em;dsimp only at ej em;have qb:=Z hx;have qd:=Z hy;have cq:=Z hI;have ee:=Z hJ;obtain ⟨iS,hT⟩:=Qe ia.isSome;obtain ⟨j2,iF⟩:=Qe ib.isSome;rw [hT] at ej;rw [iF] at em;have kl:=Z hT;have l5:=Z iF;clear hx hy hI hJ hT iF;go_enter func78,ntmps78;go_wp2;refine Wb w1 12 ?_;refine Qb [0,4,1,5,2,3] dn HK ?_;refine Qb [6] dn ej ?_
 refine Qa [7,8,9] dn ?_;refine Dp 10 λK b=>?_;go_simp;have ad:∀o,Bw w1 (w1.drew.alloc o):=λo=>dn.alloc (nq _) o;refine b _ _ (λ_=>ad _) ?_;clear b K;refine Dp 11 λK b=>?_;go_simp;have au:∀o,Bw w1 (w1.alloc o).drew:=λo=>((r1 _ w1).alloc (nq _) o).drew;refine b _ _ (λ_=>au _) ?_;clear b K;refine Dl 12 ?_;obtain ⟨D,dz⟩:=Qe ((w1.alloc (ih #[J U x1,J U x2] 36)).drew);have qa:Hid (D.heap[w1.heap.size]? =X (ih #[J U x1,J U x2] 36 (0,0))):=by unfold Hid;rw [<- dz];exact mk w1 _
 have hC:Bw w1 D:=by rw [<- dz];exact au _
 have f4:Hid (D.heap.size=w1.heap.size+1):=by unfold Hid;rw [<- dz];show (w1.alloc _).heap.size=_;simp
 rw [dz];clear ad au dz;go_wp2_with fail
 have dp:Bw w1 D.drew:=hC.drew;refine Wb w1 12 ?_;refine Qb [0,4,1,5,2,3] dp HK ?_;refine Qb [6] dp em ?_
 refine Qa [7,8,9] dp ?_;refine Dp 10 λK b=>?_;go_simp;have ad:∀o,Bw w1 (D.drew.alloc o):=λo=>dp.alloc (by have:=f4.o;show w1.heap.size<=D.heap.size;omega) o;refine b _ _ (λ_=>ad _) ?_;clear b K;refine Dp 11 λK b=>?_;go_simp;have au:∀o,Bw w1 (D.alloc o).drew:=λo=>(hC.alloc (by have:=f4.o;omega) o).drew;refine b _ _ (λ_=>au _) ?_;clear b K;refine Dl 12 ?_;obtain ⟨w3,b4⟩:=Qe ((D.alloc (ih #[J U O,J U T] 36)).drew);have d2:Hid (w3.heap[D.heap.size]? =X (ih #[J U O,J U T] 36 (0,0))):=by unfold Hid;rw [<- b4];exact mk D _
 have hD:Bw w1 w3:=by rw [<- b4];exact au _
 have lB:Bw D w3:=by rw [<- b4];exact ((r1 _ D).alloc (nq _) _).drew
 have d0:Hid (Bk w3 w1.heap.size #[J U x1,J U x2] 36):=(lB.block _ (by have:=f4.o;omega)).trans qa.o;have ay:=Z hD;have a0:=Z (M.below hD);have ho:Hid (w3.heap.size=D.heap.size+1/\D.heap.size=w1.heap.size+1/\w1.heap.size=w.heap.size+1):=⟨by rw [<- b4];show (D.alloc _).heap.size=_;simp,f4.o,qf.o⟩;rw [b4];obtain ⟨qn,qq⟩:=db d0.o;obtain ⟨qs,qt⟩:=db d2.o;clear ad au b4 dp lB hC dn hD;have j0:=λW=>q36 x1 x2 O T W;cases iS
 · have HE:Hid (ci d.ps L set ((a1,a2),(b1,b2))=set):=by
    unfold Hid ci;dsimp only;rw [cq.o];have:=kl.o;cases ia with
    |none=>rfl
    |some i=>cases this
   go_wp2_with fail
   refine v7 (vn rfl _ _ _) rfl ?_;rw [HE.o];exact ⟨rfl,a0.o,cz _ ay.o⟩
 · cases j2
   · have HE:Hid (ci d.ps L set ((a1,a2),(b1,b2))=set):=by
      unfold Hid ci;dsimp only;rw [cq.o,ee.o];have:=l5.o;cases ib with
      |none=>cases ia<;>rfl
      |some i=>cases this
     go_wp2_with fail
     refine v7 (vn rfl _ _ _) rfl ?_;rw [HE.o];exact ⟨rfl,a0.o,cz _ ay.o⟩
   · obtain ⟨ja,rfl⟩:∃ja,ia=X ja:=Option.isSome_iff_exists.1 kl.o;obtain ⟨jb,rfl⟩:∃jb,ib=X jb:=Option.isSome_iff_exists.1 l5.o;have HE:Hid (ci d.ps L set ((a1,a2),(b1,b2))=gJ d.ps L set ja jb):=by unfold Hid ci;dsimp only;rw [cq.o,ee.o]
     have cc:keyC L (set.getD ja 0)=(x1,x2):=by have:=qb.o;unfold titK at this;rw [cq.o] at this;exact this
     have cd:keyC L (set.getD jb 0)=(O,T):=by have:=qd.o;unfold titK at this;rw [ee.o] at this;exact this
     have hL:=(at_some cq.o).1;have hM:=(at_some ee.o).1;have fl:=a0.ok.lt hL;have fp:=a0.ok.lt hM;have b7:=a0.ok.rep ja hL;have b8:=a0.ok.rep jb hM;have cp:=Z (qU d.ps L set ja jb);obtain ⟨a6,hX⟩:=Qe (set.getD ja 0);obtain ⟨a7,hY⟩:=Qe (set.getD jb 0);rw [hX] at cc fl b7 cp;rw [hY] at cd fp b8 cp;by_cases hXY:a6=a7
     · have e4:(x1,x2)=(O,T):=by rw [<- cc, <- cd,hXY]
       rw [decide_eq_true e4] at j0;have cl:Hid (ci d.ps L set ((a1,a2),(b1,b2))=set):=by unfold Hid;rw [HE.o,cp.o,if_pos hXY]
       clear hXY e4 hX hY cc cd;go_wp2_with fail
       refine v7 (vn rfl _ _ _) rfl ?_;rw [cl.o];exact ⟨rfl,a0.o,cz _ ay.o⟩
     · have e4:¬((x1,x2)=(O,T)):=λe=>hXY (cN a0.o.srt fl fp (by rw [cc,cd,e]));rw [decide_eq_false e4] at j0;have cl:Hid (ci d.ps L set ((a1,a2),(b1,b2))=if kw d.ps L set a6 a7 then set else mergeS set a6 a7):=by unfold Hid;rw [HE.o,cp.o,if_neg hXY]
       have l7:=Z hXY;have ex:=Z cc;have eQ:=Z cd;have hc:=Z b7;have hd:=Z b8;have d1:=Z fl;have d3:=Z fp;clear hXY e4 hX hY cc cd b7 b8 HE cp fl fp hL hM;go_wp2_with fail
       obtain ⟨lm,fx,mc,fy,md⟩:=M.mem;obtain ⟨vx,xs,f5,f6,bp⟩:=fy a6 d1.o hc.o;obtain ⟨vy,ys,f7,f8,bs⟩:=fy a7 d3.o hd.o;have dc:ak recB w3 A lm:=fx.block (ay.block _ fx.lt);have ht:w3.ownsRow ml 36 2 vx xs.length (xs.flatMap rkCells):=ah f6 (λg hg=>ay.block g (f6.lt g hg).2);have hv:w3.ownsRow ml 36 2 vy ys.length (ys.flatMap rkCells):=ah f8 (λg hg=>ay.block g (f8.lt g hg).2);have sl:0<xs.length:=by rw [bp.length_eq];exact List.length_pos_iff.2 (mG d1.o hc.o)
       have sm:0<ys.length:=by rw [bs.length_eq];exact List.length_pos_iff.2 (mG d3.o hd.o)
       have og:xs.length<=5000:=by rw [bp.length_eq];exact uc (ki _ _ _) a0.o.len
       have oN:ys.length<=5000:=by rw [bs.length_eq];exact uc (ki _ _ _) a0.o.len
       obtain ⟨gx,cx,rfl,_⟩:=v4 ht sl;obtain ⟨gy,cy,rfl,_⟩:=v4 hv sm;rw [ex.o] at f5;rw [eQ.o] at f7;have oc:rkOk (x1,x2):=by rw [<- ex.o];exact a0.o.key a6 d1.o
       have oF:rkOk (O,T):=by rw [<- eQ.o];exact a0.o.key a7 d3.o
       have kb:Hid (∀W,Bw w3 W->(r2 93 (g1 (X A)) (.agg #[J U x1,J U x2]) false).run prog W= .ok (fn (X ⟨gx,0,Y⟩) xs.length cx) W):=λW C=>by have:=ak.look (w:=W) (dc.block (C.block _ dc.lt)) underlying93 (eS W) (x1,x2) oc;rw [f5] at this;exact this
       have kc:Hid (∀W,Bw w3 W->(r2 93 (g1 (X A)) (.agg #[J U O,J U T]) false).run prog W= .ok (fn (X ⟨gy,0,Y⟩) ys.length cy) W):=λW C=>by have:=ak.look (w:=W) (dc.block (C.block _ dc.lt)) underlying93 (eS W) (O,T) oF;rw [f7] at this;exact this
       have l6:Hid (∀W,Bw w3 W->eB 0 w3.heap.size W (fn (X ⟨gx,0,Y⟩) xs.length cx) xs):=λW C=>((aP ht).mono (ua _) (nq _)).kept (λq _ hq=>C.block q hq);have lb:Hid (∀W,Bw w3 W->eB 0 w3.heap.size W (fn (X ⟨gy,0,Y⟩) ys.length cy) ys):=λW C=>((aP hv).mono (ua _) (nq _)).kept (λq _ hq=>C.block q hq);have qc:Hid (∀r∈xs,rkOk r):=λr hr=>by obtain ⟨i,hi,_,hk⟩:=aZ.1 (bp.mem_iff.1 hr);rw [<- hk];exact a0.o.key i hi
       have qe:Hid (∀r∈ys,rkOk r):=λr hr=>by obtain ⟨i,hi,_,hk⟩:=aZ.1 (bs.mem_iff.1 hr);rw [<- hk];exact a0.o.key i hi
       have t2:Hid (∀r∈xs,∀s∈ys,r≠s):=λr hr s hs e=>by obtain ⟨i,hi,h1,hk⟩:=aZ.1 (bp.mem_iff.1 hr);obtain ⟨j,hj,h2,d9⟩:=aZ.1 (bs.mem_iff.1 hs);have:=cN a0.o.srt hi hj (by rw [hk,d9,e]);subst this;exact l7 (h1.symm.trans h2)
       have j3:Hid (kw d.ps L set a6 a7=jm d.ps xs ys):=Ae a0.cat.ok.ok.ps a0.cat.ok.ok.apart a0.srt bp bs;have bb:Hid (∀W,Bw w3 W->Cl W bt 0 (hb (X ⟨t,0,Y⟩))/\Cl W t 0 (g1 (X f))/\Cl W t 1 (g1 (X A))/\Cl W bc 0 (hb (X ⟨c,0,Y⟩))/\Cl W c 2 (.map m3)/\(Cl W w1.heap.size 0 (J U x1)/\Cl W w1.heap.size 1 (J U x2))/\Cl W D.heap.size 0 (J U O)/\Cl W D.heap.size 1 (J U T)):=λW C=>by have hu:=a0.below C;obtain ⟨e0,e1⟩:=db hu.tb;exact ⟨(aa hu.vt 0).trans rfl,e0,e1,(aa hu.vc 0).trans rfl,(aa hu.cat.blk 2).trans rfl,db ((C.block _ (ae d0.o)).trans d0.o),db ((C.block _ (ae d2.o)).trans d2.o)⟩
       have k9:Hid (∀W,Bw w3 W->∀q1 q2 q3 q4:Int,pkOk ((q1,q2),q3,q4)->(r2 115 (.map m3) (.agg #[J U q1,J U q2,J U q3,J U q4]) true).run prog W= .ok (.tuple #[.agg #[J U ((findK d.ps ((q1,q2),q3,q4)).getD (0,false)).1,gP ((findK d.ps ((q1,q2),q3,q4)).getD (0,false)).2],gP (findK d.ps ((q1,q2),q3,q4)).isSome]) W):=λW C q1 q2 q3 q4 hq=>by have:=bQ.look_ok (w:=W) (a0.below C).cat.ps underlying115 fT ((q1,q2),q3,q4) hq;rw [ea d.ps fo] at this;refine Eq.trans this ?_;cases findK d.ps ((q1,q2),q3,q4)<;>rfl
       obtain ⟨k0,k1,k2,k3,k4,_,_⟩:=bb w3 (r1 _ _);have rW:=kb w3.drew (r1 _ w3).drew;have c6:=Z fx;have cs:=Z mc;have er:=Z fy;have es:=Z md;have pi:=Z f5;have pk:=Z f6;have pn:=Z bp;have pt:=Z f7;have pv:=Z f8;have px:=Z bs;clear dc fx mc fy md f5 ht f6 bp f7 hv f8 bs j0;go_region;go_wp2_with fail
       clear rW k0 k1 k2 k3 k4 qn qq qs qt;go_loopw [9,11,12,13,14,55,66] (λ_a _b _c _d _e i _f wr=>∃k:Nat,k<=xs.length/\i=J U k/\Hid (Bw w3 wr)/\Hid (∀r∈xs.take k,∀s∈ys,dC d.ps r s)) (λ_ _ _ _ _ i _ _=>xs.length - (intOf i).toNat)
       case atStart=>exact ⟨0,ua _,rfl,(r1 _ w3).drew,λr hr=>by simp at hr⟩
       case round=>
        obtain ⟨k,hk,rfl,c4,gO⟩:=hrel;by_cases hlt:k<xs.length
        · obtain ⟨b',pa,lc,he,_,lT,e0,e1⟩:=(l6 wr c4.o).one k hlt;cases he;have c9:Hid (xs[k]∈xs):=vN hlt;have cv:Hid (∀{P:RK->Prop},(∀a∈xs.take k,P a)->P xs[k]->∀a∈xs.take (k+1),P a):=λh1 h2=>vh hlt h1 h2;obtain ⟨r,hr⟩:=Qe (xs[k]);rw [hr] at e0 e1 c9 cv;obtain ⟨l,z⟩:=r;dsimp only at e0 e1;rw [wa] at e0 e1;clear hr;have se:=c4.size;have bB:∀o,Bw w3 (wr.alloc o):=λo=>c4.alloc se o;have rk:=λo=>(bb _ (bB o)).1;have rl:=λo=>(bb _ (bB o)).2.2.1;have d9:=λo=>(bb _ (bB o)).2.2.2.2.2.2.1;have rr:=λo=>(bb _ (bB o)).2.2.2.2.2.2.2;have s0:=λo=>kc _ (bB o).drew;go_wp2_with fail
          go_region;go_wp2_with fail
          have gq:Hid (Bw w3 (wr.alloc (ih #[J U l,J U z] 36)).drew):=(bB _).drew;obtain ⟨wz,b9⟩:=Qe ((wr.alloc (ih #[J U l,J U z] 36)).drew);have ks:Hid (wz.heap[wr.heap.size]? =X (ih #[J U l,J U z] 36 (0,0))):=by unfold Hid;rw [<- b9];exact mk wr _
          rw [b9] at gq ⊢;have q7:Hid (wr.heap.size<wz.heap.size):=ae ks.o;clear rk rl d9 rr s0 bB b9 e0 e1;generalize wr.heap.size=R at *;go_loopw [11,12,13,14,66] (λ_b _c _d _e i wr=>∃m:Nat,m<=ys.length/\i=J U m/\Hid (Bw wz wr)/\Hid (∀s∈ys.take m,dC d.ps (l,z) s)) (λ_ _ _ _ i _=>ys.length - (intOf i).toNat)
          case atStart=>exact ⟨0,ua _,rfl,r1 _ _,λs hs=>by simp at hs⟩
          case round=>
           obtain ⟨m,hm,rfl,e9,kd⟩:=hrel;have ch:Hid (Bw w3 wr):=btr gq.o e9.o gq.size;by_cases hlt2:m<ys.length
           · obtain ⟨b',pa,lc,he,_,lT,e0,e1⟩:=(lb wr ch.o).one m hlt2;cases he;have h9:Hid (ys[m]∈ys):=vN hlt2;have l4:Hid (∀{P:RK->Prop},(∀a∈ys.take m,P a)->P ys[m]->∀a∈ys.take (m+1),P a):=λh1 h2=>vh hlt2 h1 h2;obtain ⟨s,hs⟩:=Qe (ys[m]);rw [hs] at e0 e1 h9 l4;obtain ⟨E,H⟩:=s;dsimp only at e0 e1;rw [wa] at e0 e1;clear hs;have t9:=ch.size;have gd:Bk wr R #[J U l,J U z] 36:=(e9.block _ q7.o).trans ks.o;have dy:=ae gd;obtain ⟨r9,j1⟩:=db gd;have nz:∀o,(wr.alloc o).cell? ⟨R,0,Y⟩=X (J U l):=λo=>by rw [aV _ _ _ _ dy];exact r9
             have ny:∀o,(wr.alloc o).cell? ⟨R,1,Y⟩=X (J U z):=λo=>by rw [aV _ _ _ _ dy];exact j1
             obtain ⟨Wp,fc⟩:=Qe ((wr.alloc (ih #[J U E,J U H] 36)).alloc (ih #[J U l,J U z,J U E,J U H] 134));have hF:Bw wr Wp:=by rw [<- fc];exact ((r1 _ wr).alloc (nq _) _).alloc (by simp) _
             have p5:Wp.heap.size=wr.heap.size+2:=by rw [<- fc];simp
             have lp:Wp.heap[wr.heap.size]? =X (ih #[J U E,J U H] 36 (0,0)):=by rw [<- fc,Below.heap_alloc _ _ _ (by simp)];exact mk wr _
             have lk:Wp.heap[wr.heap.size+1]? =X (ih #[J U l,J U z,J U E,J U H] 134 (0,0)):=by rw [<- fc];have:=mk (wr.alloc (ih #[J U E,J U H] 36)) (ih #[J U l,J U z,J U E,J U H] 134);rwa [World.size_alloc] at this
             have eg:Hid (∀W2,bo Wp W2->Bk W2 (wr.heap.size+1) #[J U l,J U z,J U E,J U H] 134/\Bk W2 wr.heap.size #[J U E,J U H] 36/\Bk W2 R #[J U l,J U z] 36/\Bw wr W2):=λW2 hg=>by have C:=hg.below;exact ⟨(C.block _ (by omega)).trans lk,(C.block _ (by omega)).trans lp,(C.block _ (by omega)).trans ((hF.block _ dy).trans gd),hF.trans (C.mono (by omega))⟩
             have d4:=Z p5;have t1:=Z dy;obtain ⟨v0,v1⟩:=db (eg Wp (bo.refl _)).2.1;obtain ⟨v2,v3⟩:=db (eg Wp (bo.refl _)).2.2.1;clear hF p5 lp lk dy gd;have HC:Hid (∀W,Calls prog 49 #[.agg #[J U E,J U H], .agg #[J U l,J U z]] W λe w'=>e=hK (J U (br (E,H) (l,z)))/\bo W w'):=λW=>fa (E,H) (l,z) W;have aT:(br (E,H) (l,z)<0)↔ltRK (E,H) (l,z)=true:=eP _ _;have kq:Hid (pkOk (pairK (l,z) (E,H))):=pK (qc _ c9.o) (qe _ h9.o);have c7:Hid (pairK (l,z) (E,H)=if ltRK (E,H) (l,z) then ((E,H),(l,z)) else ((l,z),(E,H))):=rfl;have kv:Hid (dC d.ps (l,z) (E,H)->∀a∈ys.take (m+1),dC d.ps (l,z) a):=λh=>l4 kd.o h;have gp:Hid (∀n,findK d.ps (pairK (l,z) (E,H))=X (n,false)->ci d.ps L set ((a1,a2),(b1,b2))=set):=λn hn=>by rw [cl.o,if_pos];rw [j3.o,jl];exact ⟨_,c9.o,_,h9.o,n,hn⟩
             by_cases hltc:ltRK (E,H) (l,z)=true
             focus
              have hG:br (E,H) (l,z)<0:=aT.2 hltc
              rw [if_pos hltc] at c7
              generalize br (E,H) (l,z)=cm at *
              clear hltc aT
              go_wp2_with (go_at_call 49;go_loud (((with_reducible refine v9 (HC.o _) ?_);rintro e W2 ⟨rfl,av⟩;obtain ⟨g0,N,g2,g5⟩:=eg.o _ av;obtain ⟨z0,z1⟩:=db N;obtain ⟨z2,z3⟩:=db g2;obtain ⟨p0,p1,p2,p3⟩:=ns g0;have f0:=ab g0 0;have f1:=ab g0 1;have f2:=ab g0 2;have f3:=ab g0 3;have G0:=Z g0;have G5:=Z g5;clear g0 N g2 g5 av)))
              have b5:Hid ((((((W2.setCell ⟨wr.heap.size+1,0,Y⟩ (J U E)).setCell ⟨wr.heap.size+1,1,Y⟩ (J U H)).setCell ⟨wr.heap.size+1,2,Y⟩ (J U l)).setCell ⟨wr.heap.size+1,3,Y⟩ (J U z))).heap[wr.heap.size+1]? =X (ih #[J U E,J U H,J U l,J U z] 134 (0,0))):=ap (ap (ap (ap G0.o 0 (J U E)) 1 (J U H)) 2 (J U l)) 3 (J U z)
              have e8:Hid (Bw wr ((((W2.setCell ⟨wr.heap.size+1,0,Y⟩ (J U E)).setCell ⟨wr.heap.size+1,1,Y⟩ (J U H)).setCell ⟨wr.heap.size+1,2,Y⟩ (J U l)).setCell ⟨wr.heap.size+1,3,Y⟩ (J U z))):=(((G5.o.setCell (by simp) _).setCell (by simp) _).setCell (by simp) _).setCell (by simp) _
              generalize ((((W2.setCell ⟨wr.heap.size+1,0,Y⟩ (J U E)).setCell ⟨wr.heap.size+1,1,Y⟩ (J U H)).setCell ⟨wr.heap.size+1,2,Y⟩ (J U l)).setCell ⟨wr.heap.size+1,3,Y⟩ (J U z))=W3 at *
              clear z0 z1 z2 z3 p0 p1 p2 p3 f0 f1 f2 f3 e0 e1 r9 j1 nz ny v0 v1 v2 v3
              have gs:Hid (∃p1 p2 q1 q2:Int,pairK (l,z) (E,H)=((p1,p2),(q1,q2))/\Bk W3 (wr.heap.size+1) #[J U p1,J U p2,J U q1,J U q2] 134):=⟨E,H,l,z,c7.o,b5.o⟩
              clear c7 b5
             rotate_left
             focus
              have hG:¬(br (E,H) (l,z)<0):=λhh=>hltc (aT.1 hh)
              rw [if_neg hltc] at c7
              generalize br (E,H) (l,z)=cm at *
              clear hltc aT
              go_wp2_with (go_at_call 49;go_loud (((with_reducible refine v9 (HC.o _) ?_);rintro e W3 ⟨rfl,av⟩;obtain ⟨g0,N,g2,g5⟩:=eg.o _ av;have b5:=Z g0;have e8:=Z g5;clear g0 N g2 g5 av)))
              clear e0 e1 r9 j1 nz ny v0 v1 v2 v3
              have gs:Hid (∃p1 p2 q1 q2:Int,pairK (l,z) (E,H)=((p1,p2),(q1,q2))/\Bk W3 (wr.heap.size+1) #[J U p1,J U p2,J U q1,J U q2] 134):=⟨l,z,E,H,c7.o,b5.o⟩
              clear c7 b5
             all_goals
              obtain ⟨a4,a5,a9,ac,i2,b4⟩:=gs.o
              rw [i2] at kq gp
              have h8:Hid ((∀n,findK d.ps ((a4,a5),(a9,ac))≠X (n,false))->dC d.ps (l,z) (E,H)):=λh=>by unfold dC;rw [i2];exact h
              have b5:=Z b4
              clear i2 b4 gs
              have e7:Hid (Bw w3 W3):=btr ch.o e8.o ch.size
              have hA:=e7.size
              obtain ⟨ov,hV⟩:=Qe (findK d.ps ((a4,a5),(a9,ac)))
              have ka:Hid (∀W,Bw W3 W->(r2 115 (.map m3) (.agg #[J U a4,J U a5,J U a9,J U ac]) true).run prog W= .ok (.tuple #[.agg #[J U (ov.getD (0,false)).1,gP (ov.getD (0,false)).2],gP ov.isSome]) W):=λW C=>by
               rw [<- hV];exact k9.o W (btr e7.o C hA) a4 a5 a9 ac kq.o
              rw [hV] at gp h8
              obtain ⟨o1,mv⟩:=Qe ((ov.getD (0,false)).1)
              obtain ⟨o2,hR⟩:=Qe ((ov.getD (0,false)).2)
              obtain ⟨th,iD⟩:=Qe ov.isSome
              rw [mv,hR,iD] at ka
              have kk:=Z hR
              have l3:=Z iD
              clear hV mv hR iD
              have py:Hid (∀W,Bw W3 W->Cl W bc 0 (hb (X ⟨c,0,Y⟩))/\Cl W c 2 (.map m3)/\Cl W (wr.heap.size+1) 0 (J U a4)/\Cl W (wr.heap.size+1) 1 (J U a5)/\Cl W (wr.heap.size+1) 2 (J U a9)/\Cl W (wr.heap.size+1) 3 (J U ac)):=λW C=>by
               obtain ⟨_,_,_,N,g2,_⟩:=bb W (btr e7.o C hA)
               exact ⟨N,g2,ns ((C.block _ (ae b5.o)).trans b5.o)⟩
              have ds:Bw W3 W3.drew:=(r1 _ W3).drew
              refine Wb W3 11 ?_
              have B:=tkL [0,4,1,2,3]
              repeat (refine tkI B ?_ rfl ds ?_ ?_;rotate_left;intro w' h;obtain ⟨h0,h1,h2,h3,h4,h5⟩:=py w' h;go_simp;rfl;(try go_simp);replace B:=tkO B)
              clear B
              refine Qb [5] ds ka ?_
              have B:=tkL [6,7,8]
              repeat (refine tkI B ?_ rfl ds ?_ ?_;rotate_left;intro w' h;go_simp;rfl;(try go_simp);replace B:=tkO B)
              clear B
              refine Dp 9 λK b=>?_
              go_simp
              have ad:∀o,Bw W3 (W3.drew.alloc o):=λo=>ds.alloc (nq _) o
              refine b _ _ (λ_=>ad _) ?_
              clear b K
              refine Dp 10 λK b=>?_
              go_simp
              have au:∀o,Bw W3 (W3.alloc o).drew:=λo=>((r1 _ W3).alloc (nq _) o).drew
              refine b _ _ (λ_=>au _) ?_
              clear b K
              refine Dp 11 λK b=>?_
              go_simp
              refine b _ _ (λh=>absurd rfl h) ?_
              clear b K
              refine dN ?_
              obtain ⟨W4,f9⟩:=Qe ((W3.alloc (ih #[J U o1,gP o2] 139)).drew)
              have lf:W4.heap[W3.heap.size]? =X (ih #[J U o1,gP o2] 139 (0,0)):=by rw [<- f9];exact mk W3 _
              have hE:Bw W3 W4:=by rw [<- f9];exact au _
              rw [f9]
              obtain ⟨t5,t6⟩:=db lf
              have j4:Hid (Bw w3 W4):=btr e7.o hE hA
              have jj:Hid (Bw wz W4):=btr e9.o (btr e8.o hE e8.size) e9.size
              clear ad au f9 lf hE ds
              cases th
              · have HN:Hid (dC d.ps (l,z) (E,H)):=h8 (λn=>by
                 have:=l3.o
                 cases ov with
                 |none=>simp
                 |some v=>cases this)
                go_wp2_with fail
                go_roundw
                case rel=>exact ⟨m+1,by omega,by go_num,jj,kv.o HN.o⟩
                case measure=>simp [intOf];omega
              · cases o2
                · obtain ⟨v,rfl⟩:∃v,ov=X v:=Option.isSome_iff_exists.1 l3.o
                  have HR:Hid (ci d.ps L set ((a1,a2),(b1,b2))=set):=gp v.1 (by
                   have:=kk.o
                   obtain ⟨v1,v2⟩:=v
                   simp at this
                   rw [this])
                  go_wp2_with fail
                  refine v7 (vn rfl _ _ _) rfl ?_
                  rw [HR.o]
                  exact ⟨rfl,a0.below j4.o,cz _ (btr ay.o j4.o ay.size)⟩
                · have HN:Hid (dC d.ps (l,z) (E,H)):=h8 (λn hn=>by
                   have:=kk.o
                   rw [hn] at this
                   cases this)
                  go_wp2_with fail
                  go_roundw
                  case rel=>exact ⟨m+1,by omega,by go_num,jj,kv.o HN.o⟩
                  case measure=>simp [intOf];omega
           · have h7:Hid (∀s∈ys,dC d.ps (l,z) s):=by have:=kd.o;rw [va (by omega)] at this;exact this
             go_wp2_with fail
             go_roundw
             case rel=>exact ⟨k+1,by omega,by go_num,ch,cv.o gO.o h7.o⟩
             case measure=>simp [intOf];omega
        · skip;have lx:jm d.ps xs ys=false:=qG (by have:=gO.o;rw [va (by omega)] at this;exact this);have k6:Hid (ci d.ps L set ((a1,a2),(b1,b2))=mergeS set a6 a7):=by unfold Hid;rw [cl.o,j3.o,lx];rfl
          have jn:Hid (Bw w1 wr):=btr ay.o c4.o ay.size;have b7:Bk wr w1.heap.size #[J U x1,J U x2] 36:=(c4.block _ (ae d0.o)).trans d0.o;have b8:Bk wr D.heap.size #[J U O,J U T] 36:=(c4.block _ (ae d2.o)).trans d2.o;have la:Hid (∀W,Bw wr W->Bk W w1.heap.size #[J U x1,J U x2] 36/\Bk W D.heap.size #[J U O,J U T] 36/\Bw w1 W):=λW C=>⟨(C.block _ (ae b7)).trans b7,(C.block _ (ae b8)).trans b8,btr jn.o C jn.size⟩;obtain ⟨pb,pc⟩:=db b7;obtain ⟨pd,pe⟩:=db b8;have HC:Hid (∀W,Calls prog 49 #[.agg #[J U O,J U T], .agg #[J U x1,J U x2]] W λe w'=>e=hK (J U (br (O,T) (x1,x2)))/\bo W w'):=λW=>fa (O,T) (x1,x2) W;have aT:(br (O,T) (x1,x2)<0)↔ltRK (O,T) (x1,x2)=true:=eP _ _;have ft:ltRK (O,T) (x1,x2)=true↔a7<a6:=by rw [<- ex.o, <- eQ.o];exact uv a0.o.srt d3.o d1.o
          clear b7 b8 gO cl l6 lb kb kc bb k9 lx;have kx:Hid (Sd L set lm w1 ml a6 x1 x2 gx cx xs):=⟨pi.o,pk.o,pn.o,oc,ex.o,d1.o,hc.o,og⟩;have ky:Hid (Sd L set lm w1 ml a7 O T gy cy ys):=⟨pt.o,pv.o,px.o,oF,eQ.o,d3.o,hd.o,oN⟩;by_cases hltc:ltRK (O,T) (x1,x2)=true
          focus
           have hG:br (O,T) (x1,x2)<0:=aT.2 hltc
           have ao:Hid (a7<a6):=ft.1 hltc
           generalize br (O,T) (x1,x2)=cm at *
           clear hltc aT ft
           have ld:¬(w1.heap.size=D.heap.size):=by have:=ho.o;omega
           have qx:¬(D.heap.size=w1.heap.size):=λe=>ld e.symm
           go_wp2_with (go_at_call 49;go_loud (((with_reducible refine v9 (HC.o _) ?_);rintro e W2 ⟨rfl,av⟩;obtain ⟨g0,N,g5⟩:=la.o _ av.below;obtain ⟨z0,z1⟩:=db g0;obtain ⟨z2,z3⟩:=db N;have f0:=ab g0 0;have f1:=ab g0 1;have f2:=ab N 0;have f3:=ab N 1;have G0:=Z g0;have G1:=Z N;have G5:=Z g5;clear g0 N g5 av)))
           obtain ⟨I,d6⟩:=Qe ((((W2.setCell ⟨w1.heap.size,0,Y⟩ (J U O)).setCell ⟨w1.heap.size,1,Y⟩ (J U T)).setCell ⟨D.heap.size,0,Y⟩ (J U x1)).setCell ⟨D.heap.size,1,Y⟩ (J U x2))
           have bk:Hid (I.heap[w1.heap.size]? =X (ih #[J U O,J U T] 36 (0,0))):=by
            unfold Hid
            rw [<- d6,uo _ _ _ _ (by simp;omega),uo _ _ _ _ (by simp;omega)]
            exact ap (ap G0.o 0 (J U O)) 1 (J U T)
           have b6:Hid (I.heap[D.heap.size]? =X (ih #[J U x1,J U x2] 36 (0,0))):=by
            unfold Hid
            rw [<- d6]
            have g9:((W2.setCell ⟨w1.heap.size,0,Y⟩ (J U O)).setCell ⟨w1.heap.size,1,Y⟩ (J U T)).heap[D.heap.size]? =X (ih #[J U O,J U T] 36 (0,0)):=by
             rw [uo _ _ _ _ (by simp;omega),uo _ _ _ _ (by simp;omega)];exact G1.o
            exact ap (ap g9 0 (J U x1)) 1 (J U x2)
           have aC:Hid (Bw w1 I):=by
            unfold Hid
            rw [<- d6]
            have:=ho.o
            exact (((G5.o.setCell (by simp) _).setCell (by simp) _).setCell (by simp;omega) _).setCell (by simp;omega) _
           rw [d6]
           clear d6 z0 z1 z2 z3 f0 f1 f2 f3 pb pc pd pe ld qx
           have gt:Hid (Bn L set lm w1 D ml I (ci d.ps L set ((a1,a2),(b1,b2)))):=⟨a7,a6,O,T,x1,x2,gy,cy,ys,gx,cx,xs,ky.o,kx.o,ao.o,k6.trans (ui set a6 a7),bk.o,b6.o⟩
           clear bk b6 ao
          rotate_left
          focus
           have hG:¬(br (O,T) (x1,x2)<0):=λhh=>hltc (aT.1 hh)
           have ao:Hid (a6<a7):=by
            unfold Hid
            have h1:¬a7<a6:=λh=>hltc (ft.2 h)
            have h2:=l7.o
            omega
           generalize br (O,T) (x1,x2)=cm at *
           clear hltc aT ft
           go_wp2_with (go_at_call 49;go_loud (((with_reducible refine v9 (HC.o _) ?_);rintro e I ⟨rfl,av⟩;obtain ⟨g0,N,g5⟩:=la.o _ av.below;have bk:=Z g0;have b6:=Z N;have aC:=Z g5;clear g0 N g5 av)))
           clear pb pc pd pe
           have gt:Hid (Bn L set lm w1 D ml I (ci d.ps L set ((a1,a2),(b1,b2)))):=⟨a6,a7,x1,x2,O,T,gx,cx,xs,gy,cy,ys,kx.o,ky.o,ao.o,k6.o,bk.o,b6.o⟩
           clear bk b6 ao
          all_goals
           obtain ⟨iP,iQ,a4,a5,a9,ac,V,cP,lP,gQ,cQ,lQ,i7,i8,mb,d7,ob,ot⟩:=gt.o
           have a3:=Z i7
           have a8:=Z i8
           have ao:=Z mb
           have pf:=Z d7
           have bk:=Z ob
           have b6:=Z ot
           have og:=i7.len
           have oN:=i8.len
           clear i7 i8 mb d7 ob ot gt
           obtain ⟨i0,hi,oi,oj,op⟩:=info_parts i36
           have al:=M.below aC.o
           have bY:ak recB I A lm:=c6.block (aC.block _ c6.lt)
           have hH:ml<=V/\V<w1.heap.size:=a3.s2.lt V rfl
           have ra:ml<=gQ/\gQ<w1.heap.size:=a8.s2.lt gQ rfl
           have i1:¬((a4,a5)=((a9,ac):RK)):=λe2=>by
            have:=cN a0.o.srt a3.o.lt a8.o.lt (by rw [a3.o.key,a8.o.key,e2])
            have h2:=ao.o
            omega
           have m6:V≠gQ:=λe=>es.o _ _ _ _ a3.o.s1 a8.o.s1 i1 (by simp [ub,e])
           have dx:I.ownsRow ml 36 2 (fn (X ⟨V,0,Y⟩) lP.length cP) lP.length (lP.flatMap rkCells):=ah a3.s2 (λg hg=>aC.block g (a3.s2.lt g hg).2)
           have gf:I.ownsRow ml 36 2 (fn (X ⟨gQ,0,Y⟩) lQ.length cQ) lQ.length (lQ.flatMap rkCells):=ah a8.s2 (λg hg=>aC.block g (a8.s2.lt g hg).2)
           have mt:A<w1.heap.size:=c6.lt
           have ax:A≠bt/\A≠t/\A≠V/\A≠gQ:=by
            obtain ⟨cu,b0⟩:=aA dx rfl
            obtain ⟨t4,r0⟩:=aA gf rfl
            exact ⟨aj bY al.vt,aj bY al.tb,aj bY b0,aj bY r0⟩
           have bD:V≠bt/\V≠t:=by
            obtain ⟨cu,b0⟩:=aA dx rfl
            exact ⟨df b0 al.vt (by decide),df b0 al.tb (by decide)⟩
           have o4:=aC.size
           have sn:w1.heap.size<D.heap.size:=by have:=ho.o;omega
           have c5:Hid (∀W:up,(∀q,q=bt∨q=t∨q=w1.heap.size∨q=D.heap.size->W.heap[q]? =I.heap[q]?)->Cl W bt 0 (hb (X ⟨t,0,Y⟩))/\Cl W t 1 (g1 (X A))/\(Cl W w1.heap.size 0 (J U a4)/\Cl W w1.heap.size 1 (J U a5))/\(Cl W D.heap.size 0 (J U a9)/\Cl W D.heap.size 1 (J U ac))/\Cl W t 0 (g1 (X f))):=λW hW=>by
            have N:=(hW bt (.inl rfl)).trans al.vt
            have g2:=(hW t (.inr (.inl rfl))).trans al.tb
            exact ⟨(aa N 0).trans rfl,(db g2).2,db ((hW _ (.inr (.inr (.inl rfl)))).trans bk.o),db ((hW _ (.inr (.inr (.inr rfl)))).trans b6.o),(db g2).1⟩
           have hZ:rkOk (a4,a5):=a3.ok
           have nx:rkOk (a9,ac):=a8.ok
           have ry:(r2 93 (g1 (X A)) (.agg #[J U a9,J U ac]) false).run prog I.drew= .ok (fn (X ⟨gQ,0,Y⟩) lQ.length cQ) I.drew:=by
            have:=ak.look (w:=I.drew) (ak.drew bY) underlying93 (eS I.drew) (a9,ac) nx
            rw [a8.o.s1] at this;exact this
           have rt:lm.length<=5000:=uc (pL c6.o (λk hk=>by
            obtain ⟨t',h1,_,h3⟩:=(cs k).1 hk
            rw [<- h3,fu M.o.srt h1];rfl)) M.o.len
           obtain ⟨st,qv,qk,i6,lE,g7,o5⟩:=ak.entry (w:=I.drew) (ak.drew bY) gX underlying93 eS (a4,a5) hZ (by unfold maxLen;omega)
           rw [a3.o.s1] at i6
           have hw:=c5 I.drew (λ_ _=>rfl)
           go_wp2_with fail
           refine wT (λW=>Cl W bt 0 (hb (X ⟨t,0,Y⟩))/\Cl W t 1 (g1 (X A))/\(Cl W w1.heap.size 0 (J U a4)/\Cl W w1.heap.size 1 (J U a5))/\(Cl W D.heap.size 0 (J U a9)/\Cl W D.heap.size 1 (J U ac))/\Cl W t 0 (g1 (X f))) 15 ?_
           have B:=tkL [0,4,5,9,1,6,2,7,3,8]
           repeat (refine tkI B ?_ rfl hw ?_ ?_;rotate_left;intro w' h;obtain ⟨h0,h1,⟨h2,h3⟩,⟨h4,h5⟩,_⟩:=h;go_simp;rfl;(try go_simp);replace B:=tkO B)
           clear B
           refine Dp 10 λK b=>?_
           go_simp
           refine b _ _ (λ_=>hw) ?_
           clear b K
           refine Dp 11 λK b=>?_
           refine bq rfl i6 ?_
           generalize hw6:Go.ChangeMaps.setBlock I.drew A (.map qv qk)=w6 at *
           have ca:∀q,q≠A->w6.heap[q]? =I.heap[q]? :=λq hq=>g7.block q hq
           have ss:w6.heap.size=I.heap.size:=g7.size
           have hz:=c5.o w6 (λq hq=>ca q (by rcases hq with rfl|rfl|rfl|rfl;exact ax.1.symm;exact ax.2.1.symm;omega;omega))
           refine b _ _ (λ_=>hz) ?_
           clear b K
           go_simp
           have B:=tkL [12,14]
           repeat (refine tkI B ?_ rfl hz ?_ ?_;rotate_left;intro w' h;go_simp;rfl;(try go_simp);replace B:=tkO B)
           clear B
           obtain ⟨gb,d5,w7,i4,dk,bO,m5⟩:=bj (P:=prog) w6 ml 52 52 36 i0 _ 2 16 underlying52 hi oi oj op rfl (by decide) V lP.length cP (lP.flatMap rkCells) (ah dx (λg hg=>ca g (by simp [ub] at hg;omega))) I.heap.size (fn (X ⟨gQ,0,Y⟩) lQ.length cQ) lQ.length (lQ.flatMap rkCells) (((aP gf).mono (ua _) (nq _)) |> λh=>(aP (ah gf (λg hg=>ca g (by simp [ub] at hg;omega)))).mono (ua _) (by omega)) (pC lQ) (vu lQ) (by unfold maxLen;omega) (by omega) (by have:=eq.o.1;have:=c0.o.size;omega)
           obtain ⟨zs,e5⟩:=Qe (lP++lQ)
           have p4:lP.length+lQ.length=zs.length:=by rw [<- e5];simp
           have d7:lP.flatMap rkCells++lQ.flatMap rkCells=zs.flatMap rkCells:=by rw [<- e5,List.flatMap_append]
           rw [p4] at i4 dk
           rw [d7] at dk
           have d4:Hid (zs.Perm (aW L (mergeS set iP iQ) iP)):=by
            have:=xL M.o.srt M.o.ok.len (show iP≠iQ from λe=>by have:=ao.o;omega) a3.o.s3 a8.o.s3
            rw [e5,v5 (wb ao.o)] at this
            exact this
           have ta:zs.length<=10000:=by omega
           have t3:=Z e5
           clear e5 d7
           refine Dp 13 λK b=>?_
           refine iT rfl rfl rfl i4 ?_
           have da:∀q,q<w6.heap.size->q≠V->w7.heap[q]? =w6.heap[q]? :=λq hq hQ=>bO.block q hq (λe=>hQ (by injection e))
           have le:D.heap.size<I.heap.size:=ae b6.o
           have m0:bt<I.heap.size:=ae al.vt
           have oa:t<I.heap.size:=ae al.tb
           have lv:=c5.o w7 (λq hq=>(da q (by rcases hq with rfl|rfl|rfl|rfl<;>omega) (by rcases hq with rfl|rfl|rfl|rfl;exact bD.1.symm;exact bD.2.symm;omega;omega)).trans (ca q (by rcases hq with rfl|rfl|rfl|rfl;exact ax.1.symm;exact ax.2.1.symm;omega;omega)))
           refine b _ _ (λ_=>lv) ?_
           clear b K
           obtain ⟨w8,nF,me,di⟩:=o5 w7 (fn (X ⟨gb,0,Y⟩) zs.length d5) ((da A (by omega) ax.2.2.1).trans lE)
           refine Dp 15 λK b=>?_
           refine aY rfl nF ?_
           refine b _ _ (λh=>absurd rfl h) ?_
           clear b K
           refine dN ?_
           have m7:aw A I w6:=(aw.refl A I).drew.trans g7
           have it:ag (λq=>q=f∨q=A∨q=V) I (λq=>q=f∨q=A∨q=V) w8:=
            ((ag.of_only m7 (.inr (.inl rfl))).trans (⟨bO.os,bO.tape,bO.output,bO.size,λk hk hn=>da k hk (λe=>hn (.inr (.inr e))),λ_ h=> .inl h⟩:ag _ w6 _ w7)).trans (ag.of_only di (.inr (.inl rfl)))
           have fr:gb=V∨I.heap.size<=gb:=by rcases m5 with e|e;exact .inl e;right;omega
           obtain ⟨e6,dd,ma⟩:=al.of
           have b3:f≠bt/\f≠t/\f≠A:=⟨aj dd al.vt,aj dd al.tb,al.ne⟩
           have mp:f<w1.heap.size:=by obtain ⟨l1,N,_⟩:=M.of;exact N.lt
           have g6:f≠V:=by
            obtain ⟨cu,b0⟩:=aA dx rfl
            exact aj dd b0
           have hP:f≠gb:=by rcases fr with e|e;rw [e];exact g6;omega
           have su:w6.heap.size<=w7.heap.size:=bO.size
           have sx:w8.heap.size=w7.heap.size:=di.size
           have r4:gb<w7.heap.size:=(dk.lt gb rfl).2
           have fz:A≠gb:=by rcases fr with e|e;rw [e];exact ax.2.2.1;omega
           obtain ⟨w9,nE,hO,mP⟩:=ak.del_run (w:=w8.drew) (ak.drew me) underlying93 (a9,ac) nx 0
           have d8:aw A w8 w9:=(aw.refl A w8).drew.trans mP
           have iv:ag (λq=>q=f∨q=A∨q=V) I (λq=>q=f∨q=A∨q=V) w9:=it.trans (ag.of_only d8 (.inr (.inl rfl)))
           have gi:ag (λq=>q=f∨q=A∨q=V) I (λq=>q=f∨q=A∨q=V) w9.drew:=iv.trans (ag.of_below (r1 _ w9).drew)
           have g8:w9.drew.ownsRow ml 36 2 (fn (X ⟨gb,0,Y⟩) zs.length d5) zs.length (zs.flatMap rkCells):=ah dk (λg hg=>by
            simp only [ub,vb] at hg
            subst hg
            exact (d8.block _ (λe=>fz e.symm)).trans (di.block _ (λe=>fz e.symm)))
           have gc:∀q,q=bt∨q=t∨q=w1.heap.size∨q=D.heap.size->q<I.heap.size/\q≠f/\q≠A/\q≠V:=λq hq=>by
            rcases hq with rfl|rfl|rfl|rfl
            · exact ⟨m0,b3.1.symm,ax.1.symm,bD.1.symm⟩
            · exact ⟨oa,b3.2.1.symm,ax.2.1.symm,bD.2.symm⟩
            · exact ⟨by omega,by omega,by omega,by omega⟩
            · exact ⟨le,by omega,by omega,by omega⟩
           have bw:=c5 w8.drew (λq hq=>by obtain ⟨N,g2,g3,g4⟩:=gc q hq;exact it.block q N (by rintro (e|e|e);exact g2 e;exact g3 e;exact g4 e))
           have qy:=c5 w9 (λq hq=>by obtain ⟨N,g2,g3,g4⟩:=gc q hq;exact iv.block q N (by rintro (e|e|e);exact g2 e;exact g3 e;exact g4 e))
           have rx:(r2 93 (g1 (X A)) (.agg #[J U a4,J U a5]) false).run prog w9.drew= .ok (fn (X ⟨gb,0,Y⟩) zs.length d5) w9.drew:=by
            have:=ak.look (w:=w9.drew) (ak.drew hO) underlying93 (eS w9.drew) (a4,a5) hZ
            rw [l9,if_neg i1,dv,if_pos rfl] at this;exact this
           have s5:ak recB w9.drew f e6:=dd.block (by
            have e1:w9.drew.heap[f]? =w8.heap[f]? :=d8.block f b3.2.2
            exact e1.trans ((di.block f b3.2.2).trans ((da f (by omega) g6).trans (ca f b3.2.2))))
           have k5:Hid (∀W,ag (λq=>q=f) w9.drew (λq=>q=f) W->(Cl W bt 0 (hb (X ⟨t,0,Y⟩))/\Cl W t 0 (g1 (X f))/\(Cl W w1.heap.size 0 (J U a4)/\Cl W w1.heap.size 1 (J U a5)))/\eB 0 W.heap.size W (fn (X ⟨gb,0,Y⟩) zs.length d5) zs):=λW C=>by
            have sp:=gi.size
            obtain ⟨N,g2,g3,g4,g5⟩:=c5 W (λq hq=>by
             obtain ⟨N,g2,g3,g4⟩:=gc q hq
             exact (C.block q (by omega) g2).trans (gi.block q N (by rintro (e|e|e);exact g2 e;exact g3 e;exact g4 e)))
            exact ⟨⟨N,g5,g3⟩,(aP (ah g8 (λg hg=>C.block g (g8.lt g hg).2 (by
             simp only [ub,vb] at hg
             subst hg
             exact hP.symm)))).mono (ua _) (nq _)⟩
           have k8:=Z ma
           have q0:=Z hO
           have kt:=Z gi
           have ko:=Z g8
           have t0:=Z d8
           have q5:Hid (f≠A/\f≠V/\f≠gb/\A≠gb/\(gb=V∨I.heap.size<=gb)/\f≠bt/\f≠t/\A≠bt/\A≠t/\V≠bt/\V≠t/\V≠gQ/\f<w1.heap.size/\A<w1.heap.size/\V<w1.heap.size/\ml<=V/\w1.heap.size<=I.heap.size/\bt<w1.heap.size/\t<w1.heap.size):=⟨b3.2.2,g6,hP,fz,fr,b3.1,b3.2.1,ax.1,ax.2.1,bD.1,bD.2,m6,mp,mt,hH.2,hH.1,o4,ae M.vt,ae M.tb⟩
           have t8:=hZ
           clear it iv gi g8 d8 m7 gc hO mP ry i6 dx gf bY al ax bD hH ra m6 b3 mp g6 hP fz fr m5 ca da ss su sx r4 hw hz lv lE g7 o5 dk bO i4 nF me di ma hi oi oj op le m0 oa sn o4 mt dd rt p4
           go_wp2_with fail
           obtain ⟨z0,z1,z2,z3,z4⟩:=id bw
           refine wT (λW=>Cl W bt 0 (hb (X ⟨t,0,Y⟩))/\Cl W t 1 (g1 (X A))/\(Cl W w1.heap.size 0 (J U a4)/\Cl W w1.heap.size 1 (J U a5))/\(Cl W D.heap.size 0 (J U a9)/\Cl W D.heap.size 1 (J U ac))/\Cl W t 0 (g1 (X f))) 5 ?_
           refine Qb [4] bw (λw' h=>h) ?_
           refine Dp 0 λK b=>?_
           go_simp
           refine b _ _ (λ_=>bw) ?_
           clear b K
           refine Dp 1 λK b=>?_
           go_simp
           refine b _ _ (λ_=>bw) ?_
           clear b K
           refine Dp 2 λK b=>?_
           go_simp
           refine b _ _ (λ_=>bw) ?_
           clear b K
           refine Qb [3] bw (λw' h=>h) ?_
           refine Dp 5 λK b=>?_
           refine tp rfl rfl rfl nE ?_
           refine b _ _ (λh=>absurd rfl h) ?_
           clear b K
           refine dN ?_
           clear z0 z1 z2 z3 z4 bw nE
           go_wp2_with fail
           obtain ⟨z0,z1,⟨z2,z3⟩,⟨z4,z5⟩,z6⟩:=qy
           go_simp
           go_big_region
           go_wp2_with fail
           clear z0 z1 z2 z3 z4 z5 z6 rx
           go_loopw [16,130] (λ_x i wr=>∃m:Nat,m<=zs.length/\i=J U m/\Hid (ag (λq=>q=f) w9.drew (λq=>q=f) wr)/\Hid (∃l2,ak recB wr f l2/\∀k,lookL l2 k=if k∈zs.take m then X (recK (a4,a5)) else lookL e6 k)) (λ_ i _=>zs.length - (intOf i).toNat)
           case atStart=>exact ⟨0,ua _,rfl,ag.refl _ _,e6,s5,λk=>by simp⟩
           case round=>
            obtain ⟨m,hm,rfl,ha,k7⟩:=hrel
            by_cases hlt3:m<zs.length
            · obtain ⟨_,o3⟩:=k5 wr ha.o
              obtain ⟨b',pa,lc,he,_,lT,e0,e1⟩:=o3.one m hlt3
              cases he
              have c9:Hid (zs[m]∈zs):=vN hlt3
              have cv:Hid (zs.take (m+1)=zs.take m++[zs[m]]):=vs hlt3
              obtain ⟨r,hr⟩:=Qe (zs[m])
              rw [hr] at e0 e1 c9 cv
              obtain ⟨l,z⟩:=r
              dsimp only at e0 e1
              rw [wa] at e0 e1
              clear hr o3
              have ad:Bw wr (wr.alloc (ih #[J U l,J U z] 36)).drew:=((r1 _ wr).alloc (nq _) _).drew
              obtain ⟨wz,b9⟩:=Qe ((wr.alloc (ih #[J U l,J U z] 36)).drew)
              have hnew:wz.heap[wr.heap.size]? =X (ih #[J U l,J U z] 36 (0,0)):=by rw [<- b9];exact mk wr _
              rw [b9] at ad
              have kz:Hid (ag (λq=>q=f) w9.drew (λq=>q=f) wz):=ha.trans (ag.of_below ad)
              obtain ⟨⟨g0,N,g2,g3⟩,_⟩:=k5 wz kz.o
              obtain ⟨g4,g5⟩:=db hnew
              obtain ⟨l2,fs,hN⟩:=k7.o
              have sa:rkOk (l,z):=by
               obtain ⟨i,hi,_,hk⟩:=aZ.1 (d4.mem_iff.1 c9.o)
               rw [<- hk];exact M.o.key i hi
              have rs:l2.length<=5000:=uc (pL fs (λk hk=>by
               rw [hN] at hk
               split at hk
               · rename_i d9
                 obtain ⟨i,hi,_,rc⟩:=aZ.1 (d4.mem_iff.1 (List.mem_of_mem_take d9))
                 rw [<- rc,fu M.o.srt hi];rfl
               · rw [k8.o] at hk
                 simpa using hk)) M.o.len
              obtain ⟨wu,nO,ms,n0⟩:=ak.put_run (w:=wz) (fs.block (ad.block _ fs.lt)) underlying92 (by unfold maxLen;omega) (l,z) sa (recK (a4,a5))
              have q6:Hid (ag (λq=>q=f) w9.drew (λq=>q=f) wu):=kz.trans (ag.of_only n0 rfl)
              have pz:Hid (∃l2,ak recB wu f l2/\∀k,lookL l2 k=if k∈zs.take (m+1) then X (recK (a4,a5)) else lookL e6 k):=⟨_,ms,λk=>by
               rw [dv,hN,cv.o]
               by_cases e:k=(l,z)
               · rw [if_pos e,if_pos (by rw [e];simp)]
               · rw [if_neg e]
                 by_cases e2:k∈zs.take m
                 · rw [if_pos e2,if_pos (List.mem_append_left _ e2)]
                 · rw [if_neg e2,if_neg (by simp [e,e2])]⟩
              clear ad hnew fs hN ms n0 rs
              go_wp2_with fail
              refine wT (λW=>W=wz) 6 ?_
              rw [b9]
              have B:=tkL [0,4,5,1,2,3]
              repeat (refine tkI B ?_ rfl rfl ?_ ?_;rotate_left;intro w' h;obtain rfl:=h;go_simp;rfl;(try go_simp);replace B:=tkO B)
              clear B
              refine Dp 6 λK b=>?_
              refine fU rfl nO ?_
              refine b _ _ (λh=>absurd rfl h) ?_
              clear b K
              refine dN ?_
              clear b9 g0 N g2 g3 g4 g5 e0 e1 nO
              go_wp2_with fail
              go_roundw
              case rel=>exact ⟨m+1,by omega,by go_num,q6,pz⟩
              case measure=>simp [intOf];omega
            · have h7:Hid (∃l2,ak recB wr f l2/\∀k,lookL l2 k=if k∈zs then X (recK (a4,a5)) else lookL e6 k):=by
               obtain ⟨l2,q1,q2⟩:=k7.o
               rw [va (by omega)] at q2
               exact ⟨l2,q1,q2⟩
              go_wp2_with fail
              refine bodyPost_end (vn rfl _ _ _) rfl ?_
              rw [pf.o]
              obtain ⟨l2,q1,q2⟩:=h7.o
              obtain ⟨n1,n2,n3,n4,n5,n6,n7,n8,n9,sz,sC,te,tl,tr,ts,tt,tx,ty,tz⟩:=q5.o
              have aS:=M.below aC.o
              have hS:=ha.o
              have ls:=kt.trans (hS.widen (G:=λq=>q=f∨q=A∨q=V) (λk h=> .inl h))
              have sp:=kt.size
              have tc:=hS.size
              have HQ:∀q,q<I.heap.size->q≠f->q≠A->q≠V->wr.heap[q]? =I.heap[q]? :=λq N g2 g3 g4=>ls.block q N (by rintro (e|e|e);exact g2 e;exact g3 e;exact g4 e)
              obtain ⟨td,mf,_⟩:=M.of
              obtain ⟨cu,b0⟩:=aA a3.s2 rfl
              have c1:f≠bc:=aj mf M.vc
              have c2:A≠bc:=aj c6.o M.vc
              have c3:V≠bc:=df b0 M.vc (by decide)
              have bT:=M.los
              have cb:min iP iQ=iP:=v5 (wb ao.o)
              have s4:max iP iQ=iQ:=Nat.max_eq_right (wb ao.o)
              have hQ:iP≠iQ:=λe=>by have:=ao.o;omega
              refine ⟨rfl,⟨(HQ bt (ae aS.vt) n6.symm n8.symm sz.symm).trans aS.vt,(HQ bc (ae aS.vc) c1.symm c2.symm c3.symm).trans aS.vc,(HQ t (ae aS.tb) n7.symm n9.symm sC.symm).trans aS.tb,⟨l2,q1,yT M.o.srt M.o.ok k8.o (zs:=zs) (by rw [cb];exact d4.o) (by rw [cb,a3.o.key];exact q2)⟩,
               wQ M.o.srt M.o.ok hQ a3.o.lt a8.o.lt a3.o.rep a8.o.rep cs.o er.o es.o (v:=fn (X ⟨gb,0,Y⟩) zs.length d5) (zs:=zs) (q0.o.block (hS.block A (by omega) n1.symm)) ?hl (ah ko.o (λg hg=>hS.block g (ko.o.lt g hg).2 (by
                simp only [ub,vb] at hg
                subst hg
                exact n3.symm))) (by rw [cb];exact d4.o) ?hkeep ?hnew,
               aS.cat.step (λk hf=>HQ k (aS.cat.lt k hf) (by have:=M.o.lof k hf;omega) (by have:=M.o.lof k hf;omega) (by have:=M.o.lof k hf;omega)) (by omega),aS.ne,?los,aS.lof,M.o.ok.merge a3.o.lt a8.o.lt a3.o.rep a8.o.rep,M.o.srt,M.o.key,M.o.len⟩,?bel⟩
              case hl=>
               intro k
               rw [cb,s4,a3.o.key,a8.o.key,l9,dv]
               by_cases e:k=(a4,a5)
               · rw [if_neg (λe2=>i1 (e.symm.trans e2)),if_pos e,if_pos e]
               · rw [if_neg e,if_neg e]
              case hkeep=>
               intro k u k1 k2 hu g hg
               rw [cb,a3.o.key] at k1
               obtain ⟨f1,f2⟩:=lj cs.o er.o hu g hg
               have f3:g≠V:=λe=>es.o _ _ _ _ hu a3.o.s1 k1 (by rw [hg,e];rfl)
               obtain ⟨t',sb,sM,rg⟩:=(cs.o k).1 (by rw [hu];rfl)
               obtain ⟨v',tO,gn,s8,_⟩:=er t' sb sM
               rw [rg,hu] at gn
               injection gn with gn
               subst gn
               obtain ⟨cg,m4⟩:=aA s8 hg
               exact (HQ g (by omega) (aj mf m4).symm (aj c6.o m4).symm f3).trans (aC.o.block g f2)
              case hnew=>
               intro k u k1 hu
               rw [cb,a3.o.key] at k1
               intro e
               have e2:u.ownBlock=X gb:=e.symm
               obtain ⟨f1,f2⟩:=lj cs.o er.o hu gb e2
               rcases n5 with e3|e3
               · exact es.o _ _ _ _ hu a3.o.s1 k1 (by rw [e2,e3];rfl)
               · omega
              case los=>exact ⟨bT.1,bT.2.1,bT.2.2.1,bT.2.2.2.1,bT.2.2.2.2.1,by have:=gz.o;have:=c0.o.size;omega,eq.o.2,by have:=eq.o.1;have:=c0.o.size;omega⟩
              case bel=>
               have t7:=eq.o
               have qz:=c0.size
               refine ⟨(cz.o _ aC.o).1.trans (ls.below (λk hk=>by rcases hk with rfl|rfl|rfl;exact bT.2.2.2.1;exact bT.2.2.2.2.1;omega) (by omega)).1,λq hq q1 q2 q3=>?_⟩
               have s6:q<w1.heap.size:=Nat.lt_of_lt_of_le hq qz
               refine ((HQ q (by omega) q1 q2 (λe=>?_)).trans (aC.o.block q s6)).trans (c0.o.block q hq)
               rcases q3 with q3|q3
               · omega
               · refine q3 cu ?_
                 rw [<- c0.o.block q hq,e]
                 exact b0
end
end Go.Proofs.YtjcimanddakkaaaGreatDoor
