/- Lemmas. -/
import Derived.Test.YtjcimanddakkaaaGreatDoorY13
set_option maxRecDepth 100000
set_option maxHeartbeats 8000000
namespace Go.Proofs.YtjcimanddakkaaaGreatDoor
open _root_.Option renaming some→X,none→Y
open Go.Value renaming int→J,slice→fn,map→g1,bool→gP,pointer→hb
open Go.IntKind renaming i64→U
open Go.Ending renaming returned→hK
open Go.Obj renaming cells→ih
open Go.Lib renaming hid→Z
open Tryz
open Go.World renaming alloc_heap_new→mk
open _root_.Nat renaming le_refl→nq,zero_le→wc,le_trans→wq,min_eq_left→x0,zero_add→x5,le_of_lt→x6
open Go.RowKit.Below renaming refl→r1,heap_setCell→ws
open Go.Instr renaming lookup→r2
open Go.Value renaming ownBlock→wf
open Go renaming World→wx,Value→xa,results_none→xb,bodyPost_ret→x3,TypeId→x7
open _root_.List renaming take_of_length_le→wB,take_succ_eq_append_getElem→xc,getElem_mem→xk
open _root_.Option.some renaming injEq→w2
open Go.World.ownsRow renaming form→xv
open Go.Calls renaming mono→x4
open Go.Result renaming andThen_ok→y0
section
open Go.RowKit Go.Maps Go.Shelf
structure AX (lo:Nat) (w:wx) (b:Nat) (L:VL) (set:List Nat):Prop where
 ex:∃l,ak recB w b l/\(∀k,(lookL l k).isSome=true↔∃t,t<L.length/\set.getD t 0=t/\keyC L t=k)/\
  (∀t,t<L.length->set.getD t 0=t->∃(v:xa) (xs:List RK),lookL l (keyC L t)=some v/\w.ownsRow lo 36 2 v xs.length (xs.flatMap rkCells)/\xs.Perm (aV L set t))/\
  ∀k1 k2 v1 v2,lookL l k1=some v1->lookL l k2=some v2->k1≠k2->v1.ownBlock≠v2.ownBlock
theorem kB {lo:Nat} {w:wx} {L:VL} {set:List Nat} {k:RK} {l:List (RK×xa)} (i:∀k,(lookL l k).isSome=true↔∃t,t<L.length/\set.getD t 0=t/\keyC L t=k) (e:∀t,t<L.length->set.getD t 0=t->∃(v:xa) (c:List RK),lookL l (keyC L t)=X v/\w.ownsRow lo 36 2 v c.length (c.flatMap rkCells)/\c.Perm (aV L set t)) {v:xa} (d:lookL l k=X v):
 ∀g,v.ownBlock=X g->lo<=g/\g<w.heap.size:=by
 obtain ⟨t,m,n,h⟩:=(i k).1 (by rw [d];rfl);obtain ⟨p,c,b,j,_⟩:=e t m n;rw [h,d] at b;injection b with b
 subst b;exact λg f=>j.lt g f
structure UN (lo lm:Nat) (F:Nat->Prop) (w:wx) (bt bc t mo mm c:Nat) (m1 m2 m3:Option Nat) (kn:xa) (d:aq) (L:VL) (set:List Nat):Prop where
 vt:Bk w bt #[.pointer (some ⟨t,0,none⟩)] 96
 vc:Bk w bc #[.pointer (some ⟨c,0,none⟩)] 24
 tb:Bk w t #[.map (some mo), .map (some mm)] 95
 of:AW w mo L set
 mem:AX lm w mm L set
 cat:dP F w c m1 m2 m3 kn d
 ne:mo≠mm
 los:lo<=bt/\lo<=bc/\lo<=t/\lo<=mo/\lo<=mm/\lo<=w.heap.size/\lo<=lm/\lm<=w.heap.size
 lof:∀k,F k->k<lo
 ok:dK L.length set
 srt:aw ltRK L
 key:∀i,i<L.length->rkOk (keyC L i)
 len:L.length<=5000
theorem UN.below {lo n:Nat} {F:Nat->Prop} {w w':wx} {j i t u s c:Nat} {p q r:Option Nat} {m:xa} {d:aq} {L:VL} {set:List Nat} (h:UN lo n F w j i t u s c p q r m d L set) (b:Bw w w'):UN lo n F w' j i t u s c p q r m d L set:=by
 obtain ⟨l,e,x⟩:=h.of;obtain ⟨V,f,y,z,A⟩:=h.mem;refine ⟨(b.block _ (ae h.vt)).trans h.vt,(b.block _ (ae h.vc)).trans h.vc,(b.block _ (ae h.tb)).trans h.tb,⟨l,e.block (b.block _ e.lt),x⟩,⟨V,f.block (b.block _ f.lt),y,λt T W=>?_,A⟩,h.cat.below b,h.ne,?_,h.lof,h.ok,h.srt,h.key,h.len⟩
 · obtain ⟨v,xs,N,k,O⟩:=z t T W;exact ⟨v,xs,N,ah k (λg R=>b.block g (k.lt g R).2),O⟩
 · obtain ⟨B,C,D,E,G,H,I,M⟩:=h.los;exact ⟨B,C,D,E,G,wq H b.size,I,wq M b.size⟩
def UFr (b:Nat) (w w':wx) (e d:Nat):Prop:=∀q,q<w.heap.size->q≠e->q≠d->(q<b∨∀c,w.heap[q]? ≠X (Obj.cells c 36 (0,0)))->w'.heap[q]? =w.heap[q]?
theorem xh {L:VL} {set:List Nat} (u:aw ltRK L) (m:dK L.length set) {l g:List (RK×xa)} (h:∀k,lookL l k=(atC L k).map λi=>recK (keyC L (set.getD i 0))) {x y:Nat} {zs:List RK} (f:zs.Perm (aV L (mergeS set x y) (min x y)))
 (n:∀k,lookL g k=if k∈zs then X (recK (keyC L (min x y))) else lookL l k):∀k,lookL g k=(atC L k).map λi=>recK (keyC L ((mergeS set x y).getD i 0)):=by
 intro k;rw [n,h];have v:∀i,i<L.length->((mergeS set x y).getD i 0=min x y↔set.getD i 0=x∨set.getD i 0=y∨set.getD i 0=min x y):=λi b=>by
  rw [cB (by rw [m.len];exact b)];split
  · rename_i h;exact ⟨λ_=>h.elim .inl (λh=> .inr (.inl h)),λ_=>rfl⟩
  · rename_i h;exact ⟨λe=> .inr (.inr e),λe=>by rcases e with e|e|e;exact absurd (.inl e) h;exact absurd (.inr e) h;exact e⟩
 cases ha:atC L k with
 |none=>
  have:k∉zs:=λc=>by obtain ⟨i,b,_,q⟩:=aX.1 (f.mem_iff.1 c);exact at_none ha i b q
  rw [if_neg this];rfl
 |some i=>
  obtain ⟨b,c⟩:=at_some ha;simp only [Option.map_some];by_cases hmem:k∈zs
  · rw [if_pos hmem];obtain ⟨j,r,s,t⟩:=aX.1 (f.mem_iff.1 hmem);have:j=i:=cL u r b (by rw [t,c]);subst this;rw [s]
  · rw [if_neg hmem];have d:(mergeS set x y).getD i 0≠min x y:=λe=>hmem (f.mem_iff.2 (aX.2 ⟨i,b,e,c⟩));rw [cB (by rw [m.len];exact b)] at d ⊢;split at d
    · exact absurd rfl d
    · rename_i p;rw [if_neg p]
theorem uU {lo:Nat} {w w':wx} {b:Nat} {L:VL} {set:List Nat} (E:aw ltRK L) (G:dK L.length set) {x y:Nat} (a8:x≠y) (hx:x<L.length) (hy:y<L.length) (H:set.getD x 0=x) (I:set.getD y 0=y) {l F:List (RK×xa)} (h2:∀k,(lookL l k).isSome=true↔∃t,t<L.length/\set.getD t 0=t/\keyC L t=k)
 (h3:∀t,t<L.length->set.getD t 0=t->∃(v:xa) (A:List RK),lookL l (keyC L t)=X v/\w.ownsRow lo 36 2 v A.length (A.flatMap rkCells)/\A.Perm (aV L set t)) (h4:∀q n s z,lookL l q=X s->lookL l n=X z->q≠n->s.ownBlock≠z.ownBlock)
 (hm:ak recB w' b F) {v:xa} {zs:List RK} (B:∀k,lookL F k=if k=keyC L (min x y) then X v else if k=keyC L (max x y) then Y else lookL l k) (hv:w'.ownsRow lo 36 2 v zs.length (zs.flatMap rkCells)) (hz:zs.Perm (aV L (mergeS set x y) (min x y)))
 (a0:∀k u,k≠keyC L (min x y)->k≠keyC L (max x y)->lookL l k=X u->∀g,u.ownBlock=X g->w'.heap[g]? =w.heap[g]?) (T:∀k u,k≠keyC L (min x y)->lookL l k=X u->v.ownBlock≠u.ownBlock):AX lo w' b L (mergeS set x y):=by
 have C:min x y<L.length:=by omega
 have R:max x y<L.length:=by omega
 have a4:min x y≠max x y:=by omega
 have r:∀t,t<L.length->((mergeS set x y).getD t 0=t↔set.getD t 0=t/\t≠max x y):=λt c=>by
  rw [cB (by rw [G.len];exact c)];have a6:=G.le t c;constructor
  · intro e;split at e
    · rename_i h;have:t=x∨t=y:=by omega
      rcases this with rfl|rfl
      · exact ⟨H,by omega⟩
      · exact ⟨I,by omega⟩
    · rename_i h;refine ⟨e,λd=>h ?_⟩;rcases Nat.le_total x y with m|m
      · rw [Nat.max_eq_right m] at d;subst d;exact .inr I
      · rw [Nat.max_eq_left m] at d;subst d;exact .inl H
  · rintro ⟨e,a7⟩;split
    · rename_i h;rw [e] at h;omega
    · exact e
 have N:∀t,t<L.length->t≠min x y->keyC L t≠keyC L (min x y):=λt c D e=>D (cL E c C e);have O:∀t,t<L.length->t≠max x y->keyC L t≠keyC L (max x y):=λt c D e=>D (cL E c R e);refine ⟨F,hm,λk=>?_,λt c p=>?_,λq n s z i f j=>?_⟩
 · rw [B];by_cases e1:k=keyC L (min x y)
   · rw [if_pos e1];exact ⟨λ_=>⟨min x y,C,(r _ C).2 ⟨by rcases Nat.le_total x y with m|m;rw [x0 m];exact H;rw [Nat.min_eq_right m];exact I,a4⟩,e1.symm⟩,λ_=>rfl⟩
   · rw [if_neg e1];by_cases d:k=keyC L (max x y)
     · rw [if_pos d];refine ⟨λh=>(by cases h),?_⟩;rintro ⟨t,c,p,j⟩;exact absurd (cL E c R (by rw [j,d])) ((r t c).1 p).2
     · rw [if_neg d,h2];constructor
       · rintro ⟨t,c,p,j⟩;exact ⟨t,c,(r t c).2 ⟨p,λe=>d (by rw [<- j,e])⟩,j⟩
       · rintro ⟨t,c,p,j⟩;exact ⟨t,c,((r t c).1 p).1,j⟩
 · obtain ⟨a5,V⟩:=(r t c).1 p;rw [B];by_cases e1:t=min x y
   · subst e1;rw [if_pos rfl];exact ⟨v,zs,rfl,hv,hz⟩
   · rw [if_neg (N t c e1),if_neg (O t c V)];obtain ⟨u,A,M,W,a3⟩:=h3 t c a5;refine ⟨u,A,M,ah W (a0 _ u (N t c e1) (O t c V) M),?_⟩;rw [rn G.len (by omega) (by omega)];exact a3
 · rw [B] at i f;by_cases e1:q=keyC L (min x y)
   · rw [if_pos e1] at i;injection i with i
     subst i;have d:n≠keyC L (min x y):=λe=>j (by rw [e1,e]);rw [if_neg d] at f;split at f
     · cases f
     · exact T n z d f
   · rw [if_neg e1] at i;split at i
     · cases i
     · by_cases d:n=keyC L (min x y)
       · rw [if_pos d] at f;injection f with f
         subst f;exact λe=>T q s e1 i e.symm
       · rw [if_neg d] at f;split at f
         · cases f
         · exact h4 q n s z i f j
end
section
open Go.RowKit Go.Maps Go.Shelf
theorem kJ:∀u:wx,(zeroValue 36).run prog u= .ok (.agg #[J U 0,J U 0]) u:=λu=>by kernel_rfl
theorem eD:∀u:wx,(zeroValue 52).run prog u= .ok (fn Y 0 0) u:=λu=>by kernel_rfl
def bW (ps:List (PK×(Int×Bool))) (L:VL) (set:List Nat) (p:PK):List Nat:=match atC L p.1,atC L p.2 with
 |some a,X b=>gj ps L set a b
 |_,_=>set
def titK (L:VL) (set:List Nat) (k:RK):RK:=((atC L k).map λi=>keyC L (set.getD i 0)).getD (0,0)
theorem UN.look {lo r:Nat} {F:Nat->Prop} {w:wx} {i g t b s c:Nat} {n p q:Option Nat} {m:xa} {d:aq} {L:VL} {set:List Nat} (h:UN lo r F w i g t b s c n p q m d L set) (k:RK) (j:rkOk k):
 (r2 92 (g1 (X b)) (recK k) true).run prog w= .ok (.tuple #[recK (titK L set k),gP (atC L k).isSome]) w:=by
 obtain ⟨l,e,f⟩:=h.of;have:=ak.look_ok e underlying92 (kJ w) k j;rw [f] at this;refine Eq.trans this ?_;unfold titK;cases atC L k<;>rfl
theorem fb {K:Type} [DecidableEq K]:∀(l m:List K),l.Nodup->(∀k∈l,k∈m)->l.length<=m.length
 |[],_,_,_=>wc _
 |a::l,m,hn,h=>by
  obtain ⟨d,f⟩:=List.nodup_cons.1 hn
  have b:=h a List.mem_cons_self
  have:=fb l (m.erase a) f (λk c=>(List.mem_erase_of_ne (λ(e:k=a)=>d (e ▸ c))).2 (h k (List.mem_cons_of_mem _ c)))
  rw [List.length_erase_of_mem b] at this
  have:=List.length_pos_of_mem b
  simp only [List.length_cons];omega
theorem oD {w:wx} {b:Nat} {l:List (RK×xa)} {L:VL} (h:ak recB w b l) (f:∀k,(lookL l k).isSome=true->(atC L k).isSome=true):l.length<=L.length:=by
 have:=fb (l.map (·.1)) ((List.range L.length).map (keyC L)) h.nodup (λk g=>by obtain ⟨i,e⟩:=Option.isSome_iff_exists.1 (f k (qu.2 g));obtain ⟨c,d⟩:=at_some e;exact List.mem_map.2 ⟨i,by simpa using c,d⟩)
 simpa using this
theorem ak.put_run {P:Program} {f:x7} {K:Type} [DecidableEq K] {B:ee P f K} {w:wx} {b:Nat} {l:List (K×xa)} (h:ak B w b l) {t e:x7} (q:P.underlying t=X (.map f e)) (m:l.length<maxLen) (k:K) (c:B.ok k) (v:xa):
 ∃w',(Instr.mapUpdate t (g1 (X b)) (B.kv k) v).run P w= .ok () w'/\ak B w' b (putL l k v)/\ar b w w':=by
 obtain ⟨s,g,i,j⟩:=h;obtain ⟨w',p,n,r⟩:=g.store B.keyed q m (B.key k c) (val:=v) (d:= .held v) (ps:=[]) rfl;exact ⟨w',p,ak.put_of i j c v n,dY r⟩
theorem ak.del_run {P:Program} {c:x7} {K:Type} [DecidableEq K] {B:ee P c K} {w:wx} {b:Nat} {l:List (K×xa)} (h:ak B w b l) {t e:x7} (p:P.underlying t=X (.map c e)) (k:K) (d:B.ok k) (f:x7):
 ∃w',(Builtin.delete_ #[t,c] f #[g1 (X b),B.kv k]).run P w= .ok (.tuple #[]) w'/\ak B w' b (co l k)/\ar b w w':=by
 obtain ⟨r,g,i,j⟩:=h;obtain ⟨w',n,m,q⟩:=g.drop B.keyed p (B.key k d) f;exact ⟨w',n,ak.del_of i j d m,dY q⟩
section
variable {P:Program} {o:Oper} {a:Act} {K:Act->wx->Prop} {Q:Exit->Act->wx->Prop} {w:wx}
theorem ik {s x:Operand} {t:x7} (e:o.op= .call {callee:= .builtin .append,args:= #[s,x],argTypes:= #[t,t]}) {b c v:xa} (g:a.eval s=b) (h:a.eval x=c) {w':wx} (f:(Builtin.append_ #[t,t] o.type #[b,c]).run P w= .ok v w') (d:K (a.put o.dst v) w'):o.wp P a w K Q:=by
 unfold Oper.wp execOp;simp only [e,resolve,invoke,builtin,Sem.run_bind,Sem.run_pure,y0,List.map_toArray,List.map_cons,List.map_nil,g,h,f];exact d
theorem fw {t:x7} {m s x:Operand} (c:o.op=Op.mapUpdate t m s x) {w':wx} (d:(Instr.mapUpdate t (a.eval m) (a.eval s) (a.eval x)).run P w= .ok () w') (b:K (a.put o.dst undef) w'):o.wp P a w K Q:=by
 unfold Oper.wp;simp [execOp,c,d,Result.andThen];exact b
theorem rL {s x:Operand} {t k:x7} (e:o.op= .call {callee:= .builtin .delete,args:= #[s,x],argTypes:= #[t,k]}) {b c v:xa} (g:a.eval s=b) (h:a.eval x=c) {w':wx} (f:(Builtin.delete_ #[t,k] o.type #[b,c]).run P w= .ok v w') (d:K (a.put o.dst v) w'):o.wp P a w K Q:=by
 unfold Oper.wp execOp;simp only [e,resolve,invoke,builtin,Sem.run_bind,Sem.run_pure,y0,List.map_toArray,List.map_cons,List.map_nil,g,h,f];exact d
end
structure Sd (L:VL) (set:List Nat) (lm:List (RK×xa)) (w1:wx) (ml I:Nat) (p1 p2:Int) (g c:Nat) (l:List RK):Prop where
 s1:lookL lm (p1,p2)=some (.slice (some ⟨g,0,none⟩) l.length c)
 s2:w1.ownsRow ml 36 2 (.slice (some ⟨g,0,none⟩) l.length c) l.length (l.flatMap rkCells)
 s3:l.Perm (aV L set I)
 ok:rkOk (p1,p2)
 key:keyC L I=(p1,p2)
 lt:I<L.length
 rep:set.getD I 0=I
 len:l.length<=5000
def Bn (L:VL) (set:List Nat) (c:List (RK×xa)) (w1 e:wx) (d:Nat) (W:wx) (r:List Nat):Prop:=
 ∃(I b:Nat) (p1 p2 q1 q2:Int) (gp cp:Nat) (ps:List RK) (gq cq:Nat) (qs:List RK),Sd L set c w1 d I p1 p2 gp cp ps/\Sd L set c w1 d b q1 q2 gq cq qs/\I<b/\r=mergeS set I b/\
  Bk W w1.heap.size #[J U p1,J U p2] 36/\Bk W e.heap.size #[J U q1,J U q2] 36
def dp (ps:List (PK×(Int×Bool))) (r s:RK):Prop:=∀n,findK ps (pairK r s)≠X (n,false)
theorem pm {ps:List (PK×(Int×Bool))} {b ys:List RK} (h:∀r∈b,∀s∈ys,dp ps r s):iE ps b ys=false:=by
 cases hx:iE ps b ys
 · rfl
 · obtain ⟨r,d,s,e,n,c⟩:=iC.1 hx;exact absurd c (h r d s e n)
theorem tF {α:Type} {l:List α} {k:Nat} (h:k<l.length) {P:α->Prop} (c:∀a∈l.take k,P a) (d:P l[k]):∀a∈l.take (k+1),P a:=by
 intro a b;rw [xc h] at b;rcases List.mem_append.1 b with b|b
 · exact c a b
 · rw [List.mem_singleton.1 b];exact d
theorem pD (lo ml:Nat) (F:Nat->Prop) (w:wx) (bt bc t f A c:Nat) (m1 m2 m3:Option Nat) (kn:xa) (d:aq) (L:VL) (set:List Nat) (h:UN lo ml F w bt bc t f A c m1 m2 m3 kn d L set) (p:PK) (hp:pkOk p):
 Calls prog 78 #[pairV p,hb (X ⟨bt,0,Y⟩),hb (X ⟨bc,0,Y⟩)] w λe w'=>e=hK (.tuple #[])/\UN lo ml F w' bt bc t f A c m1 m2 m3 kn d L (bW d.ps L set p)/\Below lo w w'/\UFr ml w w' f A:=by
 obtain ⟨⟨a1,a2⟩,b1,b2⟩:=p;obtain ⟨o5,oa⟩:=hp;dsimp only at o5 oa;obtain ⟨w1,k5⟩:=Qe (w.alloc (ih #[J U a1,J U a2,J U b1,J U b2] 134));have bA:Bw w w1:=by rw [<- k5];exact (r1 _ w).alloc (nq _) _
 have hB:w1.heap[w.heap.size]? =X (ih #[J U a1,J U a2,J U b1,J U b2] 134 (0,0)):=by rw [<- k5];exact mk w _
 have M:=Z (h.below bA);have hc:Hid (lo<=w.heap.size):=h.los.2.2.2.2.2.1;have c5:=Z bA;have d1:Hid (∀W,Bw w1 W->Below lo w W/\UFr ml w W f A):=λW C=>⟨(bA.mono hc.o).trans (C.mono (wq hc.o bA.size)),λq hq _ _ _=>(C.block q (Nat.lt_of_lt_of_le hq bA.size)).trans (bA.block q hq)⟩;have f4:Hid (ml<=w.heap.size/\lo<=ml):=⟨h.los.2.2.2.2.2.2.2,h.los.2.2.2.2.2.2.1⟩;have px:w1.heap.size=w.heap.size+1:=by rw [<- k5];simp
 have rc:=Z px
 have HK:Hid (∀W,Bw w1 W->Cl W bt 0 (hb (X ⟨t,0,Y⟩))/\Cl W t 0 (g1 (X f))/\Cl W t 1 (g1 (X A))/\(Cl W w.heap.size 0 (J U a1)/\Cl W w.heap.size 1 (J U a2)/\Cl W w.heap.size 2 (J U b1)/\Cl W w.heap.size 3 (J U b2))/\
  (Cl W bc 0 (hb (X ⟨c,0,Y⟩))/\Cl W c 2 (.map m3))/\∀k1 k2:Int,rkOk (k1,k2)->(r2 92 (g1 (X f)) (.agg #[J U k1,J U k2]) true).run prog W= .ok (.tuple #[.agg #[J U (titK L set (k1,k2)).1,J U (titK L set (k1,k2)).2],gP (atC L (k1,k2)).isSome]) W):=λW C=>by
  have hu:=M.below C
  obtain ⟨e0,e1⟩:=cZ hu.tb
  have e2:=mI ((C.block _ (ae hB)).trans hB)
  exact ⟨(aa hu.vt 0).trans rfl,e0,e1,e2,⟨(aa hu.vc 0).trans rfl,(aa hu.cat.blk 2).trans rfl⟩,λk1 k2 hk=>hu.look (k1,k2) hk⟩
 have HB:=Z hB;unfold pairV;dsimp only;clear h bA hB px;have dy:Bw w1 w1.drew:=(r1 _ w1).drew;have ex:Hid (∀W,Bw w1 W->(r2 92 (g1 (X f)) (.agg #[J U a1,J U a2]) true).run prog W= .ok (.tuple #[.agg #[J U (titK L set (a1,a2)).1,J U (titK L set (a1,a2)).2],gP (atC L (a1,a2)).isSome]) W):=λW C=>(HK W C).2.2.2.2.2 a1 a2 o5;have eQ:Hid (∀W,Bw w1 W->(r2 92 (g1 (X f)) (.agg #[J U b1,J U b2]) true).run prog W= .ok (.tuple #[.agg #[J U (titK L set (b1,b2)).1,J U (titK L set (b1,b2)).2],gP (atC L (b1,b2)).isSome]) W):=λW C=>(HK W C).2.2.2.2.2 b1 b2 oa;obtain ⟨⟨x1,x2⟩,hx⟩:∃x,titK L set (a1,a2)=x:=⟨_,rfl⟩;obtain ⟨⟨O,T⟩,hy⟩:∃y,titK L set (b1,b2)=y:=⟨_,rfl⟩;obtain ⟨ia,hQ⟩:=Qe (atC L (a1,a2));obtain ⟨ib,hR⟩:=Qe (atC L (b1,b2));rw [hx,hQ] at ex;rw [hy,hR] at eQ;dsimp only at ex eQ;have r0:=Z hx;have ra:=Z hy;have cv:=Z hQ;have er:=Z hR;obtain ⟨k6,i8⟩:=Qe ia.isSome;obtain ⟨k9,jn⟩:=Qe ib.isSome;rw [i8] at ex;rw [jn] at eQ;have l3:=Z i8;have lp:=Z jn;clear hx hy hQ hR i8 jn;go_enter func78,ntmps78;go_wp2;refine Wb w1 12 ?_;refine Qb [0,4,1,5,2,3] dy HK ?_;refine Qb [6] dy ex ?_
 refine Qa [7,8,9] dy ?_;refine Dp 10 λK b=>?_;go_simp;have ad:∀o,Bw w1 (w1.drew.alloc o):=λo=>dy.alloc (nq _) o;refine b _ _ (λ_=>ad _) ?_;clear b K;refine Dp 11 λK b=>?_;go_simp;have au:∀o,Bw w1 (w1.alloc o).drew:=λo=>((r1 _ w1).alloc (nq _) o).drew;refine b _ _ (λ_=>au _) ?_;clear b K;refine Dl 12 ?_;obtain ⟨D,e7⟩:=Qe ((w1.alloc (ih #[J U x1,J U x2] 36)).drew);have qz:Hid (D.heap[w1.heap.size]? =X (ih #[J U x1,J U x2] 36 (0,0))):=by unfold Hid;rw [<- e7];exact mk w1 _
 have hJ:Bw w1 D:=by rw [<- e7];exact au _
 have f9:Hid (D.heap.size=w1.heap.size+1):=by unfold Hid;rw [<- e7];show (w1.alloc _).heap.size=_;simp
 rw [e7];clear ad au e7;go_wp2_with fail
 have dz:Bw w1 D.drew:=hJ.drew;refine Wb w1 12 ?_;refine Qb [0,4,1,5,2,3] dz HK ?_;refine Qb [6] dz eQ ?_
 refine Qa [7,8,9] dz ?_;refine Dp 10 λK b=>?_;go_simp;have ad:∀o,Bw w1 (D.drew.alloc o):=λo=>dz.alloc (by have:=f9.o;show w1.heap.size<=D.heap.size;omega) o;refine b _ _ (λ_=>ad _) ?_;clear b K;refine Dp 11 λK b=>?_;go_simp;have au:∀o,Bw w1 (D.alloc o).drew:=λo=>(hJ.alloc (by have:=f9.o;omega) o).drew;refine b _ _ (λ_=>au _) ?_;clear b K;refine Dl 12 ?_;obtain ⟨w3,b4⟩:=Qe ((D.alloc (ih #[J U O,J U T] 36)).drew);have d4:Hid (w3.heap[D.heap.size]? =X (ih #[J U O,J U T] 36 (0,0))):=by unfold Hid;rw [<- b4];exact mk D _
 have hL:Bw w1 w3:=by rw [<- b4];exact au _
 have mc:Bw D w3:=by rw [<- b4];exact ((r1 _ D).alloc (nq _) _).drew
 have d2:Hid (Bk w3 w1.heap.size #[J U x1,J U x2] 36):=(mc.block _ (by have:=f9.o;omega)).trans qz.o;have ay:=Z hL;have a0:=Z (M.below hL);have hC:Hid (w3.heap.size=D.heap.size+1/\D.heap.size=w1.heap.size+1/\w1.heap.size=w.heap.size+1):=⟨by rw [<- b4];show (D.alloc _).heap.size=_;simp,f9.o,rc.o⟩;rw [b4];obtain ⟨rk,rl⟩:=cZ d2.o;obtain ⟨rr,rs⟩:=cZ d4.o;clear ad au b4 dz mc hJ dy hL;have k7:=λW=>q36 x1 x2 O T W;cases k6
 · have HE:Hid (bW d.ps L set ((a1,a2),(b1,b2))=set):=by
    unfold Hid bW;dsimp only;rw [cv.o];have:=l3.o;cases ia with
    |none=>rfl
    |some i=>cases this
   go_wp2_with fail
   refine x3 (xb rfl _ _ _) rfl ?_;rw [HE.o];exact ⟨rfl,a0.o,d1 _ ay.o⟩
 · cases k9
   · have HE:Hid (bW d.ps L set ((a1,a2),(b1,b2))=set):=by
      unfold Hid bW;dsimp only;rw [cv.o,er.o];have:=lp.o;cases ib with
      |none=>cases ia<;>rfl
      |some i=>cases this
     go_wp2_with fail
     refine x3 (xb rfl _ _ _) rfl ?_;rw [HE.o];exact ⟨rfl,a0.o,d1 _ ay.o⟩
   · obtain ⟨ja,rfl⟩:∃ja,ia=X ja:=Option.isSome_iff_exists.1 l3.o;obtain ⟨jb,rfl⟩:∃jb,ib=X jb:=Option.isSome_iff_exists.1 lp.o;have HE:Hid (bW d.ps L set ((a1,a2),(b1,b2))=gj d.ps L set ja jb):=by unfold Hid bW;dsimp only;rw [cv.o,er.o]
     have ch:keyC L (set.getD ja 0)=(x1,x2):=by have:=r0.o;unfold titK at this;rw [cv.o] at this;exact this
     have cl:keyC L (set.getD jb 0)=(O,T):=by have:=ra.o;unfold titK at this;rw [er.o] at this;exact this
     have hT:=(at_some cv.o).1;have hV:=(at_some er.o).1;have fx:=a0.ok.lt hT;have fy:=a0.ok.lt hV;have b7:=a0.ok.rep ja hT;have b8:=a0.ok.rep jb hV;have cs:=Z (pC d.ps L set ja jb);obtain ⟨a6,hX⟩:=Qe (set.getD ja 0);obtain ⟨a7,hY⟩:=Qe (set.getD jb 0);rw [hX] at ch fx b7 cs;rw [hY] at cl fy b8 cs;by_cases hXY:a6=a7
     · have e8:(x1,x2)=(O,T):=by rw [<- ch, <- cl,hXY]
       rw [decide_eq_true e8] at k7;have cq:Hid (bW d.ps L set ((a1,a2),(b1,b2))=set):=by unfold Hid;rw [HE.o,cs.o,if_pos hXY]
       clear hXY e8 hX hY ch cl;go_wp2_with fail
       refine x3 (xb rfl _ _ _) rfl ?_;rw [cq.o];exact ⟨rfl,a0.o,d1 _ ay.o⟩
     · have e8:¬((x1,x2)=(O,T)):=λe=>hXY (cL a0.o.srt fx fy (by rw [ch,cl,e]));rw [decide_eq_false e8] at k7;have cq:Hid (bW d.ps L set ((a1,a2),(b1,b2))=if jP d.ps L set a6 a7 then set else mergeS set a6 a7):=by unfold Hid;rw [HE.o,cs.o,if_neg hXY]
       have lv:=Z hXY;have f7:=Z ch;have f8:=Z cl;have hz:=Z b7;have hA:=Z b8;have d3:=Z fx;have d5:=Z fy;clear hXY e8 hX hY ch cl b7 b8 HE cs fx fy hT hV;go_wp2_with fail
       obtain ⟨lm,g8,nb,gd,nf⟩:=M.mem;obtain ⟨vx,xs,fc,fl,bs⟩:=gd a6 d3.o hz.o;obtain ⟨vy,ys,fp,fr,bv⟩:=gd a7 d5.o hA.o;have dk:ak recB w3 A lm:=g8.block (ay.block _ g8.lt);have hD:w3.ownsRow ml 36 2 vx xs.length (xs.flatMap rkCells):=ah fl (λg hg=>ay.block g (fl.lt g hg).2);have hF:w3.ownsRow ml 36 2 vy ys.length (ys.flatMap rkCells):=ah fr (λg hg=>ay.block g (fr.lt g hg).2);have t4:0<xs.length:=by rw [bs.length_eq];exact List.length_pos_iff.2 (lR d3.o hz.o)
       have t5:0<ys.length:=by rw [bv.length_eq];exact List.length_pos_iff.2 (lR d5.o hA.o)
       have pc:xs.length<=5000:=by rw [bs.length_eq];exact wq (jJ _ _ _) a0.o.len
       have pv:ys.length<=5000:=by rw [bv.length_eq];exact wq (jJ _ _ _) a0.o.len
       obtain ⟨gx,cx,rfl,_⟩:=xv hD t4;obtain ⟨gy,cy,rfl,_⟩:=xv hF t5;rw [f7.o] at fc;rw [f8.o] at fp;have pb:rkOk (x1,x2):=by rw [<- f7.o];exact a0.o.key a6 d3.o
       have pt:rkOk (O,T):=by rw [<- f8.o];exact a0.o.key a7 d5.o
       have kv:Hid (∀W,Bw w3 W->(r2 93 (g1 (X A)) (.agg #[J U x1,J U x2]) false).run prog W= .ok (fn (X ⟨gx,0,Y⟩) xs.length cx) W):=λW C=>by have:=ak.look (w:=W) (dk.block (C.block _ dk.lt)) underlying93 (eD W) (x1,x2) pb;rw [fc] at this;exact this
       have kx:Hid (∀W,Bw w3 W->(r2 93 (g1 (X A)) (.agg #[J U O,J U T]) false).run prog W= .ok (fn (X ⟨gy,0,Y⟩) ys.length cy) W):=λW C=>by have:=ak.look (w:=W) (dk.block (C.block _ dk.lt)) underlying93 (eD W) (O,T) pt;rw [fp] at this;exact this
       have ls:Hid (∀W,Bw w3 W->eh 0 w3.heap.size W (fn (X ⟨gx,0,Y⟩) xs.length cx) xs):=λW C=>((bf hD).mono (wc _) (nq _)).kept (λq _ hq=>C.block q hq);have lB:Hid (∀W,Bw w3 W->eh 0 w3.heap.size W (fn (X ⟨gy,0,Y⟩) ys.length cy) ys):=λW C=>((bf hF).mono (wc _) (nq _)).kept (λq _ hq=>C.block q hq);have r4:Hid (∀r∈xs,rkOk r):=λr hr=>by obtain ⟨i,hi,_,hk⟩:=aX.1 (bs.mem_iff.1 hr);rw [<- hk];exact a0.o.key i hi
       have rb:Hid (∀r∈ys,rkOk r):=λr hr=>by obtain ⟨i,hi,_,hk⟩:=aX.1 (bv.mem_iff.1 hr);rw [<- hk];exact a0.o.key i hi
       have ts:Hid (∀r∈xs,∀s∈ys,r≠s):=λr hr s hs e=>by obtain ⟨i,hi,h1,hk⟩:=aX.1 (bs.mem_iff.1 hr);obtain ⟨j,hj,h2,dc⟩:=aX.1 (bv.mem_iff.1 hs);have:=cL a0.o.srt hi hj (by rw [hk,dc,e]);subst this;exact lv (h1.symm.trans h2)
       have ka:Hid (jP d.ps L set a6 a7=iE d.ps xs ys):=yj a0.cat.ok.ok.ps a0.cat.ok.ok.apart a0.srt bs bv;have bb:Hid (∀W,Bw w3 W->Cl W bt 0 (hb (X ⟨t,0,Y⟩))/\Cl W t 0 (g1 (X f))/\Cl W t 1 (g1 (X A))/\Cl W bc 0 (hb (X ⟨c,0,Y⟩))/\Cl W c 2 (.map m3)/\(Cl W w1.heap.size 0 (J U x1)/\Cl W w1.heap.size 1 (J U x2))/\Cl W D.heap.size 0 (J U O)/\Cl W D.heap.size 1 (J U T)):=λW C=>by have hu:=a0.below C;obtain ⟨e0,e1⟩:=cZ hu.tb;exact ⟨(aa hu.vt 0).trans rfl,e0,e1,(aa hu.vc 0).trans rfl,(aa hu.cat.blk 2).trans rfl,cZ ((C.block _ (ae d2.o)).trans d2.o),cZ ((C.block _ (ae d4.o)).trans d4.o)⟩
       have ks:Hid (∀W,Bw w3 W->∀q1 q2 q3 q4:Int,pkOk ((q1,q2),q3,q4)->(r2 115 (.map m3) (.agg #[J U q1,J U q2,J U q3,J U q4]) true).run prog W= .ok (.tuple #[.agg #[J U ((findK d.ps ((q1,q2),q3,q4)).getD (0,false)).1,gP ((findK d.ps ((q1,q2),q3,q4)).getD (0,false)).2],gP (findK d.ps ((q1,q2),q3,q4)).isSome]) W):=λW C q1 q2 q3 q4 hq=>by have:=cj.look_ok (w:=W) (a0.below C).cat.ps underlying115 gL ((q1,q2),q3,q4) hq;rw [fe d.ps ga] at this;refine Eq.trans this ?_;cases findK d.ps ((q1,q2),q3,q4)<;>rfl
       obtain ⟨k0,k1,k2,k3,k4,_,_⟩:=bb w3 (r1 _ _);have su:=kv w3.drew (r1 _ w3).drew;have c9:=Z g8;have cz:=Z nb;have f5:=Z gd;have f6:=Z nf;have qc:=Z fc;have qd:=Z fl;have qe:=Z bs;have qf:=Z fp;have qk:=Z fr;have qn:=Z bv;clear dk g8 nb gd nf fc hD fl bs fp hF fr bv k7;go_region;go_wp2_with fail
       clear su k0 k1 k2 k3 k4 rk rl rr rs;go_loopw [9,11,12,13,14,55,66] (λ_a _b _c _d _e i _f wr=>∃k:Nat,k<=xs.length/\i=J U k/\Hid (Bw w3 wr)/\Hid (∀r∈xs.take k,∀s∈ys,dp d.ps r s)) (λ_ _ _ _ _ i _ _=>xs.length - (intOf i).toNat)
       case atStart=>exact ⟨0,wc _,rfl,(r1 _ w3).drew,λr hr=>by simp at hr⟩
       case round=>
        obtain ⟨k,hk,rfl,c6,hd⟩:=hrel;by_cases hlt:k<xs.length
        · obtain ⟨b',q0,lE,he,_,me,e0,e1⟩:=(ls wr c6.o).one k hlt;cases he;have cc:Hid (xs[k]∈xs):=xk hlt;have d0:Hid (∀{P:RK->Prop},(∀a∈xs.take k,P a)->P xs[k]->∀a∈xs.take (k+1),P a):=λh1 h2=>tF hlt h1 h2;obtain ⟨r,hr⟩:=Qe (xs[k]);rw [hr] at e0 e1 cc d0;obtain ⟨l,z⟩:=r;dsimp only at e0 e1;rw [x5] at e0 e1;clear hr;have t3:=c6.size;have bB:∀o,Bw w3 (wr.alloc o):=λo=>c6.alloc t3 o;have sa:=λo=>(bb _ (bB o)).1;have sb:=λo=>(bb _ (bB o)).2.2.1;have dc:=λo=>(bb _ (bB o)).2.2.2.2.2.2.1;have se:=λo=>(bb _ (bB o)).2.2.2.2.2.2.2;have sx:=λo=>kx _ (bB o).drew;go_wp2_with fail
          go_region;go_wp2_with fail
          have h8:Hid (Bw w3 (wr.alloc (ih #[J U l,J U z] 36)).drew):=(bB _).drew;obtain ⟨wz,b9⟩:=Qe ((wr.alloc (ih #[J U l,J U z] 36)).drew);have l6:Hid (wz.heap[wr.heap.size]? =X (ih #[J U l,J U z] 36 (0,0))):=by unfold Hid;rw [<- b9];exact mk wr _
          rw [b9] at h8 ⊢;have qy:Hid (wr.heap.size<wz.heap.size):=ae l6.o;clear sa sb dc se sx bB b9 e0 e1;generalize wr.heap.size=R at *;go_loopw [11,12,13,14,66] (λ_b _c _d _e i wr=>∃m:Nat,m<=ys.length/\i=J U m/\Hid (Bw wz wr)/\Hid (∀s∈ys.take m,dp d.ps (l,z) s)) (λ_ _ _ _ i _=>ys.length - (intOf i).toNat)
          case atStart=>exact ⟨0,wc _,rfl,r1 _ _,λs hs=>by simp at hs⟩
          case round=>
           obtain ⟨m,hm,rfl,eq,ky⟩:=hrel;have cp:Hid (Bw w3 wr):=btr h8.o eq.o h8.size;by_cases hlt2:m<ys.length
           · obtain ⟨b',q0,lE,he,_,me,e0,e1⟩:=(lB wr cp.o).one m hlt2;cases he;have hv:Hid (ys[m]∈ys):=xk hlt2;have lk:Hid (∀{P:RK->Prop},(∀a∈ys.take m,P a)->P ys[m]->∀a∈ys.take (m+1),P a):=λh1 h2=>tF hlt2 h1 h2;obtain ⟨s,hs⟩:=Qe (ys[m]);rw [hs] at e0 e1 hv lk;obtain ⟨E,H⟩:=s;dsimp only at e0 e1;rw [x5] at e0 e1;clear hs;have v4:=cp.size;have gs:Bk wr R #[J U l,J U z] 36:=(eq.block _ qy.o).trans l6.o;have e6:=ae gs;obtain ⟨r9,k8⟩:=cZ gs;have oi:∀o,(wr.alloc o).cell? ⟨R,0,Y⟩=X (J U l):=λo=>by rw [aU _ _ _ _ e6];exact r9
             have oc:∀o,(wr.alloc o).cell? ⟨R,1,Y⟩=X (J U z):=λo=>by rw [aU _ _ _ _ e6];exact k8
             obtain ⟨Wp,ft⟩:=Qe ((wr.alloc (ih #[J U E,J U H] 36)).alloc (ih #[J U l,J U z,J U E,J U H] 134));have hN:Bw wr Wp:=by rw [<- ft];exact ((r1 _ wr).alloc (nq _) _).alloc (by simp) _
             have pz:Wp.heap.size=wr.heap.size+2:=by rw [<- ft];simp
             have m6:Wp.heap[wr.heap.size]? =X (ih #[J U E,J U H] 36 (0,0)):=by rw [<- ft,Below.heap_alloc _ _ _ (by simp)];exact mk wr _
             have m5:Wp.heap[wr.heap.size+1]? =X (ih #[J U l,J U z,J U E,J U H] 134 (0,0)):=by rw [<- ft];have:=mk (wr.alloc (ih #[J U E,J U H] 36)) (ih #[J U l,J U z,J U E,J U H] 134);rwa [World.size_alloc] at this
             have es:Hid (∀W2,bn Wp W2->Bk W2 (wr.heap.size+1) #[J U l,J U z,J U E,J U H] 134/\Bk W2 wr.heap.size #[J U E,J U H] 36/\Bk W2 R #[J U l,J U z] 36/\Bw wr W2):=λW2 hg=>by have C:=hg.below;exact ⟨(C.block _ (by omega)).trans m5,(C.block _ (by omega)).trans m6,(C.block _ (by omega)).trans ((hN.block _ e6).trans gs),hN.trans (C.mono (by omega))⟩
             have d6:=Z pz;have tr:=Z e6;obtain ⟨v0,v1⟩:=cZ (es Wp (bn.refl _)).2.1;obtain ⟨v2,v3⟩:=cZ (es Wp (bn.refl _)).2.2.1;clear hN pz m6 m5 e6 gs;have HC:Hid (∀W,Calls prog 49 #[.agg #[J U E,J U H], .agg #[J U l,J U z]] W λe w'=>e=hK (J U (bp (E,H) (l,z)))/\bn W w'):=λW=>eJ (E,H) (l,z) W;have aT:(bp (E,H) (l,z)<0)↔ltRK (E,H) (l,z)=true:=eC _ _;have l5:Hid (pkOk (pairK (l,z) (E,H))):=oC (r4 _ cc.o) (rb _ hv.o);have cb:Hid (pairK (l,z) (E,H)=if ltRK (E,H) (l,z) then ((E,H),(l,z)) else ((l,z),(E,H))):=rfl;have la:Hid (dp d.ps (l,z) (E,H)->∀a∈ys.take (m+1),dp d.ps (l,z) a):=λh=>lk ky.o h;have h7:Hid (∀n,findK d.ps (pairK (l,z) (E,H))=X (n,false)->bW d.ps L set ((a1,a2),(b1,b2))=set):=λn hn=>by rw [cq.o,if_pos];rw [ka.o,iC];exact ⟨_,cc.o,_,hv.o,n,hn⟩
             by_cases hltc:ltRK (E,H) (l,z)=true
             focus
              have hO:bp (E,H) (l,z)<0:=aT.2 hltc
              rw [if_pos hltc] at cb
              generalize bp (E,H) (l,z)=cm at *
              clear hltc aT
              go_wp2_with (go_at_call 49;go_loud (((with_reducible refine x4 (HC.o _) ?_);rintro e W2 ⟨rfl,av⟩;obtain ⟨g0,N,g2,g5⟩:=es.o _ av;obtain ⟨z0,z1⟩:=cZ N;obtain ⟨z2,z3⟩:=cZ g2;obtain ⟨p0,p1,p2,p3⟩:=mI g0;have f0:=ab g0 0;have f1:=ab g0 1;have f2:=ab g0 2;have f3:=ab g0 3;have G0:=Z g0;have G5:=Z g5;clear g0 N g2 g5 av)))
              have b5:Hid ((((((W2.setCell ⟨wr.heap.size+1,0,Y⟩ (J U E)).setCell ⟨wr.heap.size+1,1,Y⟩ (J U H)).setCell ⟨wr.heap.size+1,2,Y⟩ (J U l)).setCell ⟨wr.heap.size+1,3,Y⟩ (J U z))).heap[wr.heap.size+1]? =X (ih #[J U E,J U H,J U l,J U z] 134 (0,0))):=am (am (am (am G0.o 0 (J U E)) 1 (J U H)) 2 (J U l)) 3 (J U z)
              have em:Hid (Bw wr ((((W2.setCell ⟨wr.heap.size+1,0,Y⟩ (J U E)).setCell ⟨wr.heap.size+1,1,Y⟩ (J U H)).setCell ⟨wr.heap.size+1,2,Y⟩ (J U l)).setCell ⟨wr.heap.size+1,3,Y⟩ (J U z))):=(((G5.o.setCell (by simp) _).setCell (by simp) _).setCell (by simp) _).setCell (by simp) _
              generalize ((((W2.setCell ⟨wr.heap.size+1,0,Y⟩ (J U E)).setCell ⟨wr.heap.size+1,1,Y⟩ (J U H)).setCell ⟨wr.heap.size+1,2,Y⟩ (J U l)).setCell ⟨wr.heap.size+1,3,Y⟩ (J U z))=W3 at *
              clear z0 z1 z2 z3 p0 p1 p2 p3 f0 f1 f2 f3 e0 e1 r9 k8 oi oc v0 v1 v2 v3
              have h9:Hid (∃p1 p2 q1 q2:Int,pairK (l,z) (E,H)=((p1,p2),(q1,q2))/\Bk W3 (wr.heap.size+1) #[J U p1,J U p2,J U q1,J U q2] 134):=⟨E,H,l,z,cb.o,b5.o⟩
              clear cb b5
             rotate_left
             focus
              have hO:¬(bp (E,H) (l,z)<0):=λhh=>hltc (aT.1 hh)
              rw [if_neg hltc] at cb
              generalize bp (E,H) (l,z)=cm at *
              clear hltc aT
              go_wp2_with (go_at_call 49;go_loud (((with_reducible refine x4 (HC.o _) ?_);rintro e W3 ⟨rfl,av⟩;obtain ⟨g0,N,g2,g5⟩:=es.o _ av;have b5:=Z g0;have em:=Z g5;clear g0 N g2 g5 av)))
              clear e0 e1 r9 k8 oi oc v0 v1 v2 v3
              have h9:Hid (∃p1 p2 q1 q2:Int,pairK (l,z) (E,H)=((p1,p2),(q1,q2))/\Bk W3 (wr.heap.size+1) #[J U p1,J U p2,J U q1,J U q2] 134):=⟨l,z,E,H,cb.o,b5.o⟩
              clear cb b5
             all_goals
              obtain ⟨a4,a5,a9,ac,iF,b4⟩:=h9.o
              rw [iF] at l5 h7
              have ht:Hid ((∀n,findK d.ps ((a4,a5),(a9,ac))≠X (n,false))->dp d.ps (l,z) (E,H)):=λh=>by unfold dp;rw [iF];exact h
              have b5:=Z b4
              clear iF b4 h9
              have ej:Hid (Bw w3 W3):=btr cp.o em.o cp.size
              have hI:=ej.size
              obtain ⟨ov,it⟩:=Qe (findK d.ps ((a4,a5),(a9,ac)))
              have kt:Hid (∀W,Bw W3 W->(r2 115 (.map m3) (.agg #[J U a4,J U a5,J U a9,J U ac]) true).run prog W= .ok (.tuple #[.agg #[J U (ov.getD (0,false)).1,gP (ov.getD (0,false)).2],gP ov.isSome]) W):=λW C=>by
               rw [<- it];exact ks.o W (btr ej.o C hI) a4 a5 a9 ac l5.o
              rw [it] at h7 ht
              obtain ⟨o1,nO⟩:=Qe ((ov.getD (0,false)).1)
              obtain ⟨o2,i6⟩:=Qe ((ov.getD (0,false)).2)
              obtain ⟨th,j4⟩:=Qe ov.isSome
              rw [nO,i6,j4] at kt
              have kz:=Z i6
              have lf:=Z j4
              clear it nO i6 j4
              have qq:Hid (∀W,Bw W3 W->Cl W bc 0 (hb (X ⟨c,0,Y⟩))/\Cl W c 2 (.map m3)/\Cl W (wr.heap.size+1) 0 (J U a4)/\Cl W (wr.heap.size+1) 1 (J U a5)/\Cl W (wr.heap.size+1) 2 (J U a9)/\Cl W (wr.heap.size+1) 3 (J U ac)):=λW C=>by
               obtain ⟨_,_,_,N,g2,_⟩:=bb W (btr ej.o C hI)
               exact ⟨N,g2,mI ((C.block _ (ae b5.o)).trans b5.o)⟩
              have e4:Bw W3 W3.drew:=(r1 _ W3).drew
              refine Wb W3 11 ?_
              have B:=tkL [0,4,1,2,3]
              repeat (refine tkI B ?_ rfl e4 ?_ ?_;rotate_left;intro w' h;obtain ⟨h0,h1,h2,h3,h4,h5⟩:=qq w' h;go_simp;rfl;(try go_simp);replace B:=tkO B)
              clear B
              refine Qb [5] e4 kt ?_
              have B:=tkL [6,7,8]
              repeat (refine tkI B ?_ rfl e4 ?_ ?_;rotate_left;intro w' h;go_simp;rfl;(try go_simp);replace B:=tkO B)
              clear B
              refine Dp 9 λK b=>?_
              go_simp
              have ad:∀o,Bw W3 (W3.drew.alloc o):=λo=>e4.alloc (nq _) o
              refine b _ _ (λ_=>ad _) ?_
              clear b K
              refine Dp 10 λK b=>?_
              go_simp
              have au:∀o,Bw W3 (W3.alloc o).drew:=λo=>((r1 _ W3).alloc (nq _) o).drew
              refine b _ _ (λ_=>au _) ?_
              clear b K
              refine Dp 11 λK b=>?_
              go_simp
              refine b _ _ (λh=>absurd rfl h) ?_
              clear b K
              refine dN ?_
              obtain ⟨W4,fs⟩:=Qe ((W3.alloc (ih #[J U o1,gP o2] 139)).drew)
              have m4:W4.heap[W3.heap.size]? =X (ih #[J U o1,gP o2] 139 (0,0)):=by rw [<- fs];exact mk W3 _
              have hM:Bw W3 W4:=by rw [<- fs];exact au _
              rw [fs]
              obtain ⟨ty,tz⟩:=cZ m4
              have kb:Hid (Bw w3 W4):=btr ej.o hM hI
              have kc:Hid (Bw wz W4):=btr eq.o (btr em.o hM em.size) eq.size
              clear ad au fs m4 hM e4
              cases th
              · have HN:Hid (dp d.ps (l,z) (E,H)):=ht (λn=>by
                 have:=lf.o
                 cases ov with
                 |none=>simp
                 |some v=>cases this)
                go_wp2_with fail
                go_roundw
                case rel=>exact ⟨m+1,by omega,by go_num,kc,la.o HN.o⟩
                case measure=>simp [intOf];omega
              · cases o2
                · obtain ⟨v,rfl⟩:∃v,ov=X v:=Option.isSome_iff_exists.1 lf.o
                  have HR:Hid (bW d.ps L set ((a1,a2),(b1,b2))=set):=h7 v.1 (by
                   have:=kz.o
                   obtain ⟨v1,v2⟩:=v
                   simp at this
                   rw [this])
                  go_wp2_with fail
                  refine x3 (xb rfl _ _ _) rfl ?_
                  rw [HR.o]
                  exact ⟨rfl,a0.below kb.o,d1 _ (btr ay.o kb.o ay.size)⟩
                · have HN:Hid (dp d.ps (l,z) (E,H)):=ht (λn hn=>by
                   have:=kz.o
                   rw [hn] at this
                   cases this)
                  go_wp2_with fail
                  go_roundw
                  case rel=>exact ⟨m+1,by omega,by go_num,kc,la.o HN.o⟩
                  case measure=>simp [intOf];omega
           · have ho:Hid (∀s∈ys,dp d.ps (l,z) s):=by have:=ky.o;rw [wB (by omega)] at this;exact this
             go_wp2_with fail
             go_roundw
             case rel=>exact ⟨k+1,by omega,by go_num,cp,d0.o hd.o ho.o⟩
             case measure=>simp [intOf];omega
        · skip;have mb:iE d.ps xs ys=false:=pm (by have:=hd.o;rw [wB (by omega)] at this;exact this);have kl:Hid (bW d.ps L set ((a1,a2),(b1,b2))=mergeS set a6 a7):=by unfold Hid;rw [cq.o,ka.o,mb];rfl
          have kd:Hid (Bw w1 wr):=btr ay.o c6.o ay.size;have b7:Bk wr w1.heap.size #[J U x1,J U x2] 36:=(c6.block _ (ae d2.o)).trans d2.o;have b8:Bk wr D.heap.size #[J U O,J U T] 36:=(c6.block _ (ae d4.o)).trans d4.o;have lx:Hid (∀W,Bw wr W->Bk W w1.heap.size #[J U x1,J U x2] 36/\Bk W D.heap.size #[J U O,J U T] 36/\Bw w1 W):=λW C=>⟨(C.block _ (ae b7)).trans b7,(C.block _ (ae b8)).trans b8,btr kd.o C kd.size⟩;obtain ⟨q5,q6⟩:=cZ b7;obtain ⟨q7,qa⟩:=cZ b8;have HC:Hid (∀W,Calls prog 49 #[.agg #[J U O,J U T], .agg #[J U x1,J U x2]] W λe w'=>e=hK (J U (bp (O,T) (x1,x2)))/\bn W w'):=λW=>eJ (O,T) (x1,x2) W;have aT:(bp (O,T) (x1,x2)<0)↔ltRK (O,T) (x1,x2)=true:=eC _ _;have g7:ltRK (O,T) (x1,x2)=true↔a7<a6:=by rw [<- f7.o, <- f8.o];exact sK a0.o.srt d5.o d3.o
          clear b7 b8 hd cq ls lB kv kx bb ks mb;have lb:Hid (Sd L set lm w1 ml a6 x1 x2 gx cx xs):=⟨qc.o,qd.o,qe.o,pb,f7.o,d3.o,hz.o,pc⟩;have ld:Hid (Sd L set lm w1 ml a7 O T gy cy ys):=⟨qf.o,qk.o,qn.o,pt,f8.o,d5.o,hA.o,pv⟩;by_cases hltc:ltRK (O,T) (x1,x2)=true
          focus
           have hO:bp (O,T) (x1,x2)<0:=aT.2 hltc
           have ao:Hid (a7<a6):=g7.1 hltc
           generalize bp (O,T) (x1,x2)=cm at *
           clear hltc aT g7
           have lT:¬(w1.heap.size=D.heap.size):=by have:=hC.o;omega
           have rx:¬(D.heap.size=w1.heap.size):=λe=>lT e.symm
           go_wp2_with (go_at_call 49;go_loud (((with_reducible refine x4 (HC.o _) ?_);rintro e W2 ⟨rfl,av⟩;obtain ⟨g0,N,g5⟩:=lx.o _ av.below;obtain ⟨z0,z1⟩:=cZ g0;obtain ⟨z2,z3⟩:=cZ N;have f0:=ab g0 0;have f1:=ab g0 1;have f2:=ab N 0;have f3:=ab N 1;have G0:=Z g0;have G1:=Z N;have G5:=Z g5;clear g0 N g5 av)))
           obtain ⟨I,d8⟩:=Qe ((((W2.setCell ⟨w1.heap.size,0,Y⟩ (J U O)).setCell ⟨w1.heap.size,1,Y⟩ (J U T)).setCell ⟨D.heap.size,0,Y⟩ (J U x1)).setCell ⟨D.heap.size,1,Y⟩ (J U x2))
           have bk:Hid (I.heap[w1.heap.size]? =X (ih #[J U O,J U T] 36 (0,0))):=by
            unfold Hid
            rw [<- d8,ws _ _ _ _ (by simp;omega),ws _ _ _ _ (by simp;omega)]
            exact am (am G0.o 0 (J U O)) 1 (J U T)
           have b6:Hid (I.heap[D.heap.size]? =X (ih #[J U x1,J U x2] 36 (0,0))):=by
            unfold Hid
            rw [<- d8]
            have g9:((W2.setCell ⟨w1.heap.size,0,Y⟩ (J U O)).setCell ⟨w1.heap.size,1,Y⟩ (J U T)).heap[D.heap.size]? =X (ih #[J U O,J U T] 36 (0,0)):=by
             rw [ws _ _ _ _ (by simp;omega),ws _ _ _ _ (by simp;omega)];exact G1.o
            exact am (am g9 0 (J U x1)) 1 (J U x2)
           have aC:Hid (Bw w1 I):=by
            unfold Hid
            rw [<- d8]
            have:=hC.o
            exact (((G5.o.setCell (by simp) _).setCell (by simp) _).setCell (by simp;omega) _).setCell (by simp;omega) _
           rw [d8]
           clear d8 z0 z1 z2 z3 f0 f1 f2 f3 q5 q6 q7 qa lT rx
           have ha:Hid (Bn L set lm w1 D ml I (bW d.ps L set ((a1,a2),(b1,b2)))):=⟨a7,a6,O,T,x1,x2,gy,cy,ys,gx,cx,xs,ld.o,lb.o,ao.o,kl.trans (sw set a6 a7),bk.o,b6.o⟩
           clear bk b6 ao
          rotate_left
          focus
           have hO:¬(bp (O,T) (x1,x2)<0):=λhh=>hltc (aT.1 hh)
           have ao:Hid (a6<a7):=by
            unfold Hid
            have h1:¬a7<a6:=λh=>hltc (g7.2 h)
            have h2:=lv.o
            omega
           generalize bp (O,T) (x1,x2)=cm at *
           clear hltc aT g7
           go_wp2_with (go_at_call 49;go_loud (((with_reducible refine x4 (HC.o _) ?_);rintro e I ⟨rfl,av⟩;obtain ⟨g0,N,g5⟩:=lx.o _ av.below;have bk:=Z g0;have b6:=Z N;have aC:=Z g5;clear g0 N g5 av)))
           clear q5 q6 q7 qa
           have ha:Hid (Bn L set lm w1 D ml I (bW d.ps L set ((a1,a2),(b1,b2)))):=⟨a6,a7,x1,x2,O,T,gx,cx,xs,gy,cy,ys,lb.o,ld.o,ao.o,kl.o,bk.o,b6.o⟩
           clear bk b6 ao
          all_goals
           obtain ⟨iP,iQ,a4,a5,a9,ac,V,cP,lP,gQ,cQ,lQ,j0,j1,n0,d9,pa,pk⟩:=ha.o
           have a3:=Z j0
           have a8:=Z j1
           have ao:=Z n0
           have qb:=Z d9
           have bk:=Z pa
           have b6:=Z pk
           have pc:=j0.len
           have pv:=j1.len
           clear j0 j1 n0 d9 pa pk ha
           obtain ⟨i0,hi,pd,pe,pf⟩:=info_parts i36
           have al:=M.below aC.o
           have c4:ak recB I A lm:=c9.block (aC.block _ c9.lt)
           have hP:ml<=V/\V<w1.heap.size:=a3.s2.lt V rfl
           have s5:ml<=gQ/\gQ<w1.heap.size:=a8.s2.lt gQ rfl
           have iD:¬((a4,a5)=((a9,ac):RK)):=λe2=>by
            have:=cL a0.o.srt a3.o.lt a8.o.lt (by rw [a3.o.key,a8.o.key,e2])
            have h2:=ao.o
            omega
           have mt:V≠gQ:=λe=>f6.o _ _ _ _ a3.o.s1 a8.o.s1 iD (by simp [wf,e])
           have e5:I.ownsRow ml 36 2 (fn (X ⟨V,0,Y⟩) lP.length cP) lP.length (lP.flatMap rkCells):=ah a3.s2 (λg hg=>aC.block g (a3.s2.lt g hg).2)
           have gt:I.ownsRow ml 36 2 (fn (X ⟨gQ,0,Y⟩) lQ.length cQ) lQ.length (lQ.flatMap rkCells):=ah a8.s2 (λg hg=>aC.block g (a8.s2.lt g hg).2)
           have nF:A<w1.heap.size:=c9.lt
           have ax:A≠bt/\A≠t/\A≠V/\A≠gQ:=by
            obtain ⟨cu,b0⟩:=aD e5 rfl
            obtain ⟨tx,s0⟩:=aD gt rfl
            exact ⟨aj c4 al.vt,aj c4 al.tb,aj c4 b0,aj c4 s0⟩
           have bO:V≠bt/\V≠t:=by
            obtain ⟨cu,b0⟩:=aD e5 rfl
            exact ⟨db b0 al.vt (by decide),db b0 al.tb (by decide)⟩
           have oR:=aC.size
           have t6:w1.heap.size<D.heap.size:=by have:=hC.o;omega
           have c7:Hid (∀W:wx,(∀q,q=bt∨q=t∨q=w1.heap.size∨q=D.heap.size->W.heap[q]? =I.heap[q]?)->Cl W bt 0 (hb (X ⟨t,0,Y⟩))/\Cl W t 1 (g1 (X A))/\(Cl W w1.heap.size 0 (J U a4)/\Cl W w1.heap.size 1 (J U a5))/\(Cl W D.heap.size 0 (J U a9)/\Cl W D.heap.size 1 (J U ac))/\Cl W t 0 (g1 (X f))):=λW hW=>by
            have N:=(hW bt (.inl rfl)).trans al.vt
            have g2:=(hW t (.inr (.inl rfl))).trans al.tb
            exact ⟨(aa N 0).trans rfl,(cZ g2).2,cZ ((hW _ (.inr (.inr (.inl rfl)))).trans bk.o),cZ ((hW _ (.inr (.inr (.inr rfl)))).trans b6.o),(cZ g2).1⟩
           have iv:rkOk (a4,a5):=a3.ok
           have ob:rkOk (a9,ac):=a8.ok
           have ss:(r2 93 (g1 (X A)) (.agg #[J U a9,J U ac]) false).run prog I.drew= .ok (fn (X ⟨gQ,0,Y⟩) lQ.length cQ) I.drew:=by
            have:=ak.look (w:=I.drew) (ak.drew c4) underlying93 (eD I.drew) (a9,ac) ob
            rw [a8.o.s1] at this;exact this
           have sm:lm.length<=5000:=wq (oD c9.o (λk hk=>by
            obtain ⟨t',h1,_,h3⟩:=(cz k).1 hk
            rw [<- h3,eU M.o.srt h1];rfl)) M.o.len
           obtain ⟨st,rt,rg,iS,md,gn,p4⟩:=ak.entry (w:=I.drew) (ak.drew c4) gC underlying93 eD (a4,a5) iv (by unfold maxLen;omega)
           rw [a3.o.s1] at iS
           have hG:=c7 I.drew (λ_ _=>rfl)
           go_wp2_with fail
           refine wT (λW=>Cl W bt 0 (hb (X ⟨t,0,Y⟩))/\Cl W t 1 (g1 (X A))/\(Cl W w1.heap.size 0 (J U a4)/\Cl W w1.heap.size 1 (J U a5))/\(Cl W D.heap.size 0 (J U a9)/\Cl W D.heap.size 1 (J U ac))/\Cl W t 0 (g1 (X f))) 15 ?_
           have B:=tkL [0,4,5,9,1,6,2,7,3,8]
           repeat (refine tkI B ?_ rfl hG ?_ ?_;rotate_left;intro w' h;obtain ⟨h0,h1,⟨h2,h3⟩,⟨h4,h5⟩,_⟩:=h;go_simp;rfl;(try go_simp);replace B:=tkO B)
           clear B
           refine Dp 10 λK b=>?_
           go_simp
           refine b _ _ (λ_=>hG) ?_
           clear b K
           refine Dp 11 λK b=>?_
           refine bo rfl iS ?_
           generalize hw6:Go.ChangeMaps.setBlock I.drew A (.map rt rg)=w6 at *
           have cd:∀q,q≠A->w6.heap[q]? =I.heap[q]? :=λq hq=>gn.block q hq
           have t8:w6.heap.size=I.heap.size:=gn.size
           have hH:=c7.o w6 (λq hq=>cd q (by rcases hq with rfl|rfl|rfl|rfl;exact ax.1.symm;exact ax.2.1.symm;omega;omega))
           refine b _ _ (λ_=>hH) ?_
           clear b K
           go_simp
           have B:=tkL [12,14]
           repeat (refine tkI B ?_ rfl hH ?_ ?_;rotate_left;intro w' h;go_simp;rfl;(try go_simp);replace B:=tkO B)
           clear B
           obtain ⟨gb,d7,w7,iN,dx,bY,ms⟩:=bh (P:=prog) w6 ml 52 52 36 i0 _ 2 16 underlying52 hi pd pe pf rfl (by decide) V lP.length cP (lP.flatMap rkCells) (ah e5 (λg hg=>cd g (by simp [wf] at hg;omega))) I.heap.size (fn (X ⟨gQ,0,Y⟩) lQ.length cQ) lQ.length (lQ.flatMap rkCells) (((bf gt).mono (wc _) (nq _)) |> λh=>(bf (ah gt (λg hg=>cd g (by simp [wf] at hg;omega)))).mono (wc _) (by omega)) (oq lQ) (tQ lQ) (by unfold maxLen;omega) (by omega) (by have:=f4.o.1;have:=c5.o.size;omega)
           obtain ⟨zs,e9⟩:=Qe (lP++lQ)
           have py:lP.length+lQ.length=zs.length:=by rw [<- e9];simp
           have d9:lP.flatMap rkCells++lQ.flatMap rkCells=zs.flatMap rkCells:=by rw [<- e9,List.flatMap_append]
           rw [py] at iN dx
           rw [d9] at dx
           have d6:Hid (zs.Perm (aV L (mergeS set iP iQ) iP)):=by
            have:=vL M.o.srt M.o.ok.len (show iP≠iQ from λe=>by have:=ao.o;omega) a3.o.s3 a8.o.s3
            rw [e9,x0 (x6 ao.o)] at this
            exact this
           have v5:zs.length<=10000:=by omega
           have tt:=Z e9
           clear e9 d9
           refine Dp 13 λK b=>?_
           refine ik rfl rfl rfl iN ?_
           have dd:∀q,q<w6.heap.size->q≠V->w7.heap[q]? =w6.heap[q]? :=λq hq i4=>bY.block q hq (λe=>i4 (by injection e))
           have m0:D.heap.size<I.heap.size:=ae b6.o
           have mf:bt<I.heap.size:=ae al.vt
           have p5:t<I.heap.size:=ae al.tb
           have ma:=c7.o w7 (λq hq=>(dd q (by rcases hq with rfl|rfl|rfl|rfl<;>omega) (by rcases hq with rfl|rfl|rfl|rfl;exact bO.1.symm;exact bO.2.symm;omega;omega)).trans (cd q (by rcases hq with rfl|rfl|rfl|rfl;exact ax.1.symm;exact ax.2.1.symm;omega;omega)))
           refine b _ _ (λ_=>ma) ?_
           clear b K
           obtain ⟨w8,op,nx,ds⟩:=p4 w7 (fn (X ⟨gb,0,Y⟩) zs.length d7) ((dd A (by omega) ax.2.2.1).trans md)
           refine Dp 15 λK b=>?_
           refine aW rfl op ?_
           refine b _ _ (λh=>absurd rfl h) ?_
           clear b K
           refine dN ?_
           have mv:ar A I w6:=(ar.refl A I).drew.trans gn
           have j2:ag (λq=>q=f∨q=A∨q=V) I (λq=>q=f∨q=A∨q=V) w8:=
            ((ag.of_only mv (.inr (.inl rfl))).trans (⟨bY.os,bY.tape,bY.output,bY.size,λk hk hn=>dd k hk (λe=>hn (.inr (.inr e))),λ_ h=> .inl h⟩:ag _ w6 _ w7)).trans (ag.of_only ds (.inr (.inl rfl)))
           have fz:gb=V∨I.heap.size<=gb:=by rcases ms with e|e;exact .inl e;right;omega
           obtain ⟨eg,dr,mP⟩:=al.of
           have b3:f≠bt/\f≠t/\f≠A:=⟨aj dr al.vt,aj dr al.tb,al.ne⟩
           have nz:f<w1.heap.size:=by obtain ⟨l1,N,_⟩:=M.of;exact N.lt
           have gi:f≠V:=by
            obtain ⟨cu,b0⟩:=aD e5 rfl
            exact aj dr b0
           have i2:f≠gb:=by rcases fz with e|e;rw [e];exact gi;omega
           have t9:w6.heap.size<=w7.heap.size:=bY.size
           have ta:w8.heap.size=w7.heap.size:=ds.size
           have s4:gb<w7.heap.size:=(dx.lt gb rfl).2
           have gf:A≠gb:=by rcases fz with e|e;rw [e];exact ax.2.2.1;omega
           obtain ⟨w9,oj,i1,o3⟩:=ak.del_run (w:=w8.drew) (ak.drew nx) underlying93 (a9,ac) ob 0
           have da:ar A w8 w9:=(ar.refl A w8).drew.trans o3
           have j3:ag (λq=>q=f∨q=A∨q=V) I (λq=>q=f∨q=A∨q=V) w9:=j2.trans (ag.of_only da (.inr (.inl rfl)))
           have gz:ag (λq=>q=f∨q=A∨q=V) I (λq=>q=f∨q=A∨q=V) w9.drew:=j3.trans (ag.of_below (r1 _ w9).drew)
           have gp:w9.drew.ownsRow ml 36 2 (fn (X ⟨gb,0,Y⟩) zs.length d7) zs.length (zs.flatMap rkCells):=ah dx (λg hg=>by
            simp only [wf,w2] at hg
            subst hg
            exact (da.block _ (λe=>gf e.symm)).trans (ds.block _ (λe=>gf e.symm)))
           have gq:∀q,q=bt∨q=t∨q=w1.heap.size∨q=D.heap.size->q<I.heap.size/\q≠f/\q≠A/\q≠V:=λq hq=>by
            rcases hq with rfl|rfl|rfl|rfl
            · exact ⟨mf,b3.1.symm,ax.1.symm,bO.1.symm⟩
            · exact ⟨p5,b3.2.1.symm,ax.2.1.symm,bO.2.symm⟩
            · exact ⟨by omega,by omega,by omega,by omega⟩
            · exact ⟨m0,by omega,by omega,by omega⟩
           have bw:=c7 w8.drew (λq hq=>by obtain ⟨N,g2,g3,g4⟩:=gq q hq;exact j2.block q N (by rintro (e|e|e);exact g2 e;exact g3 e;exact g4 e))
           have ry:=c7 w9 (λq hq=>by obtain ⟨N,g2,g3,g4⟩:=gq q hq;exact j3.block q N (by rintro (e|e|e);exact g2 e;exact g3 e;exact g4 e))
           have sp:(r2 93 (g1 (X A)) (.agg #[J U a4,J U a5]) false).run prog w9.drew= .ok (fn (X ⟨gb,0,Y⟩) zs.length d7) w9.drew:=by
            have:=ak.look (w:=w9.drew) (ak.drew i1) underlying93 (eD w9.drew) (a4,a5) iv
            rw [lq,if_neg iD,dl,if_pos rfl] at this;exact this
           have sC:ak recB w9.drew f eg:=dr.block (by
            have e1:w9.drew.heap[f]? =w8.heap[f]? :=da.block f b3.2.2
            exact e1.trans ((ds.block f b3.2.2).trans ((dd f (by omega) gi).trans (cd f b3.2.2))))
           have kk:Hid (∀W,ag (λq=>q=f) w9.drew (λq=>q=f) W->(Cl W bt 0 (hb (X ⟨t,0,Y⟩))/\Cl W t 0 (g1 (X f))/\(Cl W w1.heap.size 0 (J U a4)/\Cl W w1.heap.size 1 (J U a5)))/\eh 0 W.heap.size W (fn (X ⟨gb,0,Y⟩) zs.length d7) zs):=λW C=>by
            have t7:=gz.size
            obtain ⟨N,g2,g3,g4,g5⟩:=c7 W (λq hq=>by
             obtain ⟨N,g2,g3,g4⟩:=gq q hq
             exact (C.block q (by omega) g2).trans (gz.block q N (by rintro (e|e|e);exact g2 e;exact g3 e;exact g4 e)))
            exact ⟨⟨N,g5,g3⟩,(bf (ah gp (λg hg=>C.block g (gp.lt g hg).2 (by
             simp only [wf,w2] at hg
             subst hg
             exact i2.symm)))).mono (wc _) (nq _)⟩
           have kq:=Z mP
           have qt:=Z i1
           have l7:=Z gz
           have l4:=Z gp
           have tl:=Z da
           have qv:Hid (f≠A/\f≠V/\f≠gb/\A≠gb/\(gb=V∨I.heap.size<=gb)/\f≠bt/\f≠t/\A≠bt/\A≠t/\V≠bt/\V≠t/\V≠gQ/\f<w1.heap.size/\A<w1.heap.size/\V<w1.heap.size/\ml<=V/\w1.heap.size<=I.heap.size/\bt<w1.heap.size/\t<w1.heap.size):=⟨b3.2.2,gi,i2,gf,fz,b3.1,b3.2.1,ax.1,ax.2.1,bO.1,bO.2,mt,nz,nF,hP.2,hP.1,oR,ae M.vt,ae M.tb⟩
           have up:=iv
           clear j2 j3 gz gp da mv gq i1 o3 ss iS e5 gt c4 al ax bO hP s5 mt b3 nz gi i2 gf fz ms cd dd t8 t9 ta s4 hG hH ma md gn p4 dx bY iN op nx ds mP hi pd pe pf m0 mf p5 t6 oR nF dr sm py
           go_wp2_with fail
           obtain ⟨z0,z1,z2,z3,z4⟩:=id bw
           refine wT (λW=>Cl W bt 0 (hb (X ⟨t,0,Y⟩))/\Cl W t 1 (g1 (X A))/\(Cl W w1.heap.size 0 (J U a4)/\Cl W w1.heap.size 1 (J U a5))/\(Cl W D.heap.size 0 (J U a9)/\Cl W D.heap.size 1 (J U ac))/\Cl W t 0 (g1 (X f))) 5 ?_
           refine Qb [4] bw (λw' h=>h) ?_
           refine Dp 0 λK b=>?_
           go_simp
           refine b _ _ (λ_=>bw) ?_
           clear b K
           refine Dp 1 λK b=>?_
           go_simp
           refine b _ _ (λ_=>bw) ?_
           clear b K
           refine Dp 2 λK b=>?_
           go_simp
           refine b _ _ (λ_=>bw) ?_
           clear b K
           refine Qb [3] bw (λw' h=>h) ?_
           refine Dp 5 λK b=>?_
           refine rL rfl rfl rfl oj ?_
           refine b _ _ (λh=>absurd rfl h) ?_
           clear b K
           refine dN ?_
           clear z0 z1 z2 z3 z4 bw oj
           go_wp2_with fail
           obtain ⟨z0,z1,⟨z2,z3⟩,⟨z4,z5⟩,z6⟩:=ry
           go_simp
           go_big_region
           go_wp2_with fail
           clear z0 z1 z2 z3 z4 z5 z6 sp
           go_loopw [16,130] (λ_x i wr=>∃m:Nat,m<=zs.length/\i=J U m/\Hid (ag (λq=>q=f) w9.drew (λq=>q=f) wr)/\Hid (∃l2,ak recB wr f l2/\∀k,lookL l2 k=if k∈zs.take m then X (recK (a4,a5)) else lookL eg k)) (λ_ i _=>zs.length - (intOf i).toNat)
           case atStart=>exact ⟨0,wc _,rfl,ag.refl _ _,eg,sC,λk=>by simp⟩
           case round=>
            obtain ⟨m,hm,rfl,hw,ko⟩:=hrel
            by_cases hlt3:m<zs.length
            · obtain ⟨_,oN⟩:=kk wr hw.o
              obtain ⟨b',q0,lE,he,_,me,e0,e1⟩:=oN.one m hlt3
              cases he
              have cc:Hid (zs[m]∈zs):=xk hlt3
              have d0:Hid (zs.take (m+1)=zs.take m++[zs[m]]):=xc hlt3
              obtain ⟨r,hr⟩:=Qe (zs[m])
              rw [hr] at e0 e1 cc d0
              obtain ⟨l,z⟩:=r
              dsimp only at e0 e1
              rw [x5] at e0 e1
              clear hr oN
              have ad:Bw wr (wr.alloc (ih #[J U l,J U z] 36)).drew:=((r1 _ wr).alloc (nq _) _).drew
              obtain ⟨wz,b9⟩:=Qe ((wr.alloc (ih #[J U l,J U z] 36)).drew)
              have hnew:wz.heap[wr.heap.size]? =X (ih #[J U l,J U z] 36 (0,0)):=by rw [<- b9];exact mk wr _
              rw [b9] at ad
              have le:Hid (ag (λq=>q=f) w9.drew (λq=>q=f) wz):=hw.trans (ag.of_below ad)
              obtain ⟨⟨g0,N,g2,g3⟩,_⟩:=kk wz le.o
              obtain ⟨g4,g5⟩:=cZ hnew
              obtain ⟨l2,g6,hZ⟩:=ko.o
              have t1:rkOk (l,z):=by
               obtain ⟨i,hi,_,hk⟩:=aX.1 (d6.mem_iff.1 cc.o)
               rw [<- hk];exact M.o.key i hi
              have sl:l2.length<=5000:=wq (oD g6 (λk hk=>by
               rw [hZ] at hk
               split at hk
               · rename_i dc
                 obtain ⟨i,hi,_,s6⟩:=aX.1 (d6.mem_iff.1 (List.mem_of_mem_take dc))
                 rw [<- s6,eU M.o.srt hi];rfl
               · rw [kq.o] at hk
                 simpa using hk)) M.o.len
              obtain ⟨wu,oF,nE,o4⟩:=ak.put_run (w:=wz) (g6.block (ad.block _ g6.lt)) underlying92 (by unfold maxLen;omega) (l,z) t1 (recK (a4,a5))
              have qx:Hid (ag (λq=>q=f) w9.drew (λq=>q=f) wu):=le.trans (ag.of_only o4 rfl)
              have qs:Hid (∃l2,ak recB wu f l2/\∀k,lookL l2 k=if k∈zs.take (m+1) then X (recK (a4,a5)) else lookL eg k):=⟨_,nE,λk=>by
               rw [dl,hZ,d0.o]
               by_cases e:k=(l,z)
               · rw [if_pos e,if_pos (by rw [e];simp)]
               · rw [if_neg e]
                 by_cases e2:k∈zs.take m
                 · rw [if_pos e2,if_pos (List.mem_append_left _ e2)]
                 · rw [if_neg e2,if_neg (by simp [e,e2])]⟩
              clear ad hnew g6 hZ nE o4 sl
              go_wp2_with fail
              refine wT (λW=>W=wz) 6 ?_
              rw [b9]
              have B:=tkL [0,4,5,1,2,3]
              repeat (refine tkI B ?_ rfl rfl ?_ ?_;rotate_left;intro w' h;obtain rfl:=h;go_simp;rfl;(try go_simp);replace B:=tkO B)
              clear B
              refine Dp 6 λK b=>?_
              refine fw rfl oF ?_
              refine b _ _ (λh=>absurd rfl h) ?_
              clear b K
              refine dN ?_
              clear b9 g0 N g2 g3 g4 g5 e0 e1 oF
              go_wp2_with fail
              go_roundw
              case rel=>exact ⟨m+1,by omega,by go_num,qx,qs⟩
              case measure=>simp [intOf];omega
            · have ho:Hid (∃l2,ak recB wr f l2/\∀k,lookL l2 k=if k∈zs then X (recK (a4,a5)) else lookL eg k):=by
               obtain ⟨l2,q1,q2⟩:=ko.o
               rw [wB (by omega)] at q2
               exact ⟨l2,q1,q2⟩
              go_wp2_with fail
              refine bodyPost_end (xb rfl _ _ _) rfl ?_
              rw [qb.o]
              obtain ⟨l2,q1,q2⟩:=ho.o
              obtain ⟨n1,n2,n3,n4,n5,n6,n7,n8,n9,tc,td,va,vb,vd,vs,vN,w0,w4,w5⟩:=qv.o
              have aS:=M.below aC.o
              have hS:=hw.o
              have m7:=l7.trans (hS.widen (G:=λq=>q=f∨q=A∨q=V) (λk h=> .inl h))
              have t7:=l7.size
              have v7:=hS.size
              have HQ:∀q,q<I.heap.size->q≠f->q≠A->q≠V->wr.heap[q]? =I.heap[q]? :=λq N g2 g3 g4=>m7.block q N (by rintro (e|e|e);exact g2 e;exact g3 e;exact g4 e)
              obtain ⟨v9,ny,_⟩:=M.of
              obtain ⟨cu,b0⟩:=aD a3.s2 rfl
              have c1:f≠bc:=aj ny M.vc
              have c2:A≠bc:=aj c9.o M.vc
              have c3:V≠bc:=db b0 M.vc (by decide)
              have c0:=M.los
              have ce:min iP iQ=iP:=x0 (x6 ao.o)
              have sz:max iP iQ=iQ:=Nat.max_eq_right (x6 ao.o)
              have i4:iP≠iQ:=λe=>by have:=ao.o;omega
              refine ⟨rfl,⟨(HQ bt (ae aS.vt) n6.symm n8.symm tc.symm).trans aS.vt,(HQ bc (ae aS.vc) c1.symm c2.symm c3.symm).trans aS.vc,(HQ t (ae aS.tb) n7.symm n9.symm td.symm).trans aS.tb,⟨l2,q1,xh M.o.srt M.o.ok kq.o (zs:=zs) (by rw [ce];exact d6.o) (by rw [ce,a3.o.key];exact q2)⟩,
               uU M.o.srt M.o.ok i4 a3.o.lt a8.o.lt a3.o.rep a8.o.rep cz.o f5.o f6.o (v:=fn (X ⟨gb,0,Y⟩) zs.length d7) (zs:=zs) (qt.o.block (hS.block A (by omega) n1.symm)) ?hl (ah l4.o (λg hg=>hS.block g (l4.o.lt g hg).2 (by
                simp only [wf,w2] at hg
                subst hg
                exact n3.symm))) (by rw [ce];exact d6.o) ?hkeep ?hnew,
               aS.cat.step (λk hf=>HQ k (aS.cat.lt k hf) (by have:=M.o.lof k hf;omega) (by have:=M.o.lof k hf;omega) (by have:=M.o.lof k hf;omega)) (by omega),aS.ne,?los,aS.lof,M.o.ok.merge a3.o.lt a8.o.lt a3.o.rep a8.o.rep,M.o.srt,M.o.key,M.o.len⟩,?bel⟩
              case hl=>
               intro k
               rw [ce,sz,a3.o.key,a8.o.key,lq,dl]
               by_cases e:k=(a4,a5)
               · rw [if_neg (λe2=>iD (e.symm.trans e2)),if_pos e,if_pos e]
               · rw [if_neg e,if_neg e]
              case hkeep=>
               intro k u k1 k2 hu g hg
               rw [ce,a3.o.key] at k1
               obtain ⟨f1,f2⟩:=kB cz.o f5.o hu g hg
               have f3:g≠V:=λe=>f6.o _ _ _ _ hu a3.o.s1 k1 (by rw [hg,e];rfl)
               obtain ⟨t',t2,te,s8⟩:=(cz.o k).1 (by rw [hu];rfl)
               obtain ⟨v',wa,gO,t0,_⟩:=f5 t' t2 te
               rw [s8,hu] at gO
               injection gO with gO
               subst gO
               obtain ⟨cg,mp⟩:=aD t0 hg
               exact (HQ g (by omega) (aj ny mp).symm (aj c9.o mp).symm f3).trans (aC.o.block g f2)
              case hnew=>
               intro k u k1 hu
               rw [ce,a3.o.key] at k1
               intro e
               have e2:u.ownBlock=X gb:=e.symm
               obtain ⟨f1,f2⟩:=kB cz.o f5.o hu gb e2
               rcases n5 with e3|e3
               · exact f6.o _ _ _ _ hu a3.o.s1 k1 (by rw [e2,e3];rfl)
               · omega
              case los=>exact ⟨c0.1,c0.2.1,c0.2.2.1,c0.2.2.2.1,c0.2.2.2.2.1,by have:=hc.o;have:=c5.o.size;omega,f4.o.2,by have:=f4.o.1;have:=c5.o.size;omega⟩
              case bel=>
               have tO:=f4.o
               have rW:=c5.size
               refine ⟨(d1.o _ aC.o).1.trans (m7.below (λk hk=>by rcases hk with rfl|rfl|rfl;exact c0.2.2.2.1;exact c0.2.2.2.2.1;omega) (by omega)).1,λq hq q1 q2 q3=>?_⟩
               have sM:q<w1.heap.size:=Nat.lt_of_lt_of_le hq rW
               refine ((HQ q (by omega) q1 q2 (λe=>?_)).trans (aC.o.block q sM)).trans (c5.o.block q hq)
               rcases q3 with q3|q3
               · omega
               · refine q3 cu ?_
                 rw [<- c5.o.block q hq,e]
                 exact b0
end
end Go.Proofs.YtjcimanddakkaaaGreatDoor
