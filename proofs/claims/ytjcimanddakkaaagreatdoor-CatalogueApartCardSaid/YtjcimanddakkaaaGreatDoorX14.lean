/- Lemmas. -/
import Derived.Test.YtjcimanddakkaaaGreatDoorX0
import Derived.Test.YtjcimanddakkaaaGreatDoorX13
set_option maxRecDepth 100000
set_option maxHeartbeats 8000000
namespace Go.Proofs.YtjcimanddakkaaaGreatDoor
open Go.Lib renaming hid→a0a
open Go.World renaming alloc_heap_new→a0b
open Go.Proofs.Tryz renaming prog→a0c
open Go.RowKit renaming Below→a0d
open _root_.Nat renaming le_refl→a0e,zero_le→a0h,le_trans→a0j,min_eq_left→a0t,zero_add→a0w,le_of_lt→a0x
open Go.RowKit.Below renaming refl→a0f,heap_setCell→a0k
open Go.Instr renaming lookup→a0g
open Go.Value renaming ownBlock→a0i
open Go renaming World→a0l,Value→a0o,results_none→a0p,bodyPost_ret→a0u,TypeId→a0y
open _root_.List renaming take_of_length_le→a0m,take_succ_eq_append_getElem→a0q,getElem_mem→a0r
open _root_.Option.some renaming injEq→a0n
open Go.World.ownsRow renaming form→a0s
open Go.Calls renaming mono→a0v
open Go.Result renaming andThen_ok→a0z
section
open Go.RowKit Go.Maps Go.Shelf
structure AD (lo:Nat) (w:a0l) (b:Nat) (L:VL) (set:List Nat):Prop where
 ex:∃l,ak recB w b l/\(∀k,(lookL l k).isSome=true↔∃t,t<L.length/\set.getD t 0=t/\keyC L t=k)/\
  (∀t,t<L.length->set.getD t 0=t->∃(v:a0o) (xs:List RK),lookL l (keyC L t)=some v/\w.ownsRow lo 36 2 v xs.length (xs.flatMap rkCells)/\xs.Perm (aU L set t))/\
  ∀k1 k2 v1 v2,lookL l k1=some v1->lookL l k2=some v2->k1≠k2->v1.ownBlock≠v2.ownBlock
theorem j7 {lo:Nat} {w:a0l} {L:VL} {set:List Nat} {k:RK} {l:List (RK×a0o)} (i:∀k,(lookL l k).isSome=true↔∃t,t<L.length/\set.getD t 0=t/\keyC L t=k) (e:∀t,t<L.length->set.getD t 0=t->∃(v:a0o) (c:List RK),lookL l (keyC L t)=some v/\w.ownsRow lo 36 2 v c.length (c.flatMap rkCells)/\c.Perm (aU L set t)) {v:a0o} (d:lookL l k=some v):
 ∀g,v.ownBlock=some g->lo<=g/\g<w.heap.size:=by
 obtain ⟨t,m,n,h⟩:=(i k).1 (by rw [d];rfl);obtain ⟨p,c,b,j,_⟩:=e t m n;rw [h,d] at b;injection b with b
 subst b;exact λg f=>j.lt g f
structure UN (lo lm:Nat) (F:Nat->Prop) (w:a0l) (bt bc t mo mm c:Nat) (m1 m2 m3:Option Nat) (kn:a0o) (d:ar) (L:VL) (set:List Nat):Prop where
 vt:w.heap[bt]? =some (.cells #[.pointer (some ⟨t,0,none⟩)] 96 (0,0))
 vc:w.heap[bc]? =some (.cells #[.pointer (some ⟨c,0,none⟩)] 24 (0,0))
 tb:w.heap[t]? =some (.cells #[.map (some mo), .map (some mm)] 95 (0,0))
 of:AB w mo L set
 mem:AD lm w mm L set
 cat:dG F w c m1 m2 m3 kn d
 ne:mo≠mm
 los:lo<=bt/\lo<=bc/\lo<=t/\lo<=mo/\lo<=mm/\lo<=w.heap.size/\lo<=lm/\lm<=w.heap.size
 lof:∀k,F k->k<lo
 ok:cw L.length set
 srt:aw ltRK L
 key:∀i,i<L.length->rkOk (keyC L i)
 len:L.length<=5000
theorem UN.below {lo n:Nat} {F:Nat->Prop} {w w':a0l} {j i t u s c:Nat} {p q r:Option Nat} {m:a0o} {d:ar} {L:VL} {set:List Nat} (h:UN lo n F w j i t u s c p q r m d L set) (b:a0d w.heap.size w w'):UN lo n F w' j i t u s c p q r m d L set:=by
 obtain ⟨l,e,x⟩:=h.of;obtain ⟨T,f,y,z,A⟩:=h.mem;refine ⟨(b.block _ (ae h.vt)).trans h.vt,(b.block _ (ae h.vc)).trans h.vc,(b.block _ (ae h.tb)).trans h.tb,⟨l,e.block (b.block _ e.lt),x⟩,⟨T,f.block (b.block _ f.lt),y,λt R U=>?_,A⟩,h.cat.below b,h.ne,?_,h.lof,h.ok,h.srt,h.key,h.len⟩
 · obtain ⟨v,V,M,k,N⟩:=z t R U;exact ⟨v,V,M,ah k (λg O=>b.block g (k.lt g O).2),N⟩
 · obtain ⟨B,C,D,E,G,H,I,J⟩:=h.los;exact ⟨B,C,D,E,G,a0j H b.size,I,a0j J b.size⟩
def UFr (b:Nat) (w w':a0l) (e d:Nat):Prop:=∀q,q<w.heap.size->q≠e->q≠d->(q<b∨∀c,w.heap[q]? ≠some (Obj.cells c 36 (0,0)))->w'.heap[q]? =w.heap[q]?
theorem wY {L:VL} {set:List Nat} (u:aw ltRK L) (m:cw L.length set) {l g:List (RK×a0o)} (h:∀k,lookL l k=(atC L k).map λi=>recK (keyC L (set.getD i 0))) {x y:Nat} {zs:List RK} (f:zs.Perm (aU L (mergeS set x y) (min x y)))
 (n:∀k,lookL g k=if k∈zs then some (recK (keyC L (min x y))) else lookL l k):∀k,lookL g k=(atC L k).map λi=>recK (keyC L ((mergeS set x y).getD i 0)):=by
 intro k;rw [n,h];have v:∀i,i<L.length->((mergeS set x y).getD i 0=min x y↔set.getD i 0=x∨set.getD i 0=y∨set.getD i 0=min x y):=λi b=>by
  rw [bg (by rw [m.len];exact b)];split
  · rename_i h;exact ⟨λ_=>h.elim .inl (λh=> .inr (.inl h)),λ_=>rfl⟩
  · rename_i h;exact ⟨λe=> .inr (.inr e),λe=>by rcases e with e|e|e;exact absurd (.inl e) h;exact absurd (.inr e) h;exact e⟩
 cases ha:atC L k with
 |none=>
  have:k∉zs:=λc=>by obtain ⟨i,b,_,q⟩:=aX.1 (f.mem_iff.1 c);exact at_none ha i b q
  rw [if_neg this];rfl
 |some i=>
  obtain ⟨b,c⟩:=at_some ha;simp only [Option.map_some];by_cases hmem:k∈zs
  · rw [if_pos hmem];obtain ⟨j,r,s,t⟩:=aX.1 (f.mem_iff.1 hmem);have:j=i:=cn u r b (by rw [t,c]);subst this;rw [s]
  · rw [if_neg hmem];have d:(mergeS set x y).getD i 0≠min x y:=λe=>hmem (f.mem_iff.2 (aX.2 ⟨i,b,e,c⟩));rw [bg (by rw [m.len];exact b)] at d ⊢;split at d
    · exact absurd rfl d
    · rename_i p;rw [if_neg p]
theorem uQ {lo:Nat} {w w':a0l} {b:Nat} {L:VL} {set:List Nat} (E:aw ltRK L) (G:cw L.length set) {x y:Nat} (a7:x≠y) (hx:x<L.length) (hy:y<L.length) (H:set.getD x 0=x) (I:set.getD y 0=y) {l F:List (RK×a0o)} (W:∀k,(lookL l k).isSome=true↔∃t,t<L.length/\set.getD t 0=t/\keyC L t=k)
 (X:∀t,t<L.length->set.getD t 0=t->∃(v:a0o) (A:List RK),lookL l (keyC L t)=some v/\w.ownsRow lo 36 2 v A.length (A.flatMap rkCells)/\A.Perm (aU L set t)) (Y:∀q n s z,lookL l q=some s->lookL l n=some z->q≠n->s.ownBlock≠z.ownBlock)
 (hm:ak recB w' b F) {v:a0o} {zs:List RK} (B:∀k,lookL F k=if k=keyC L (min x y) then some v else if k=keyC L (max x y) then none else lookL l k) (hv:w'.ownsRow lo 36 2 v zs.length (zs.flatMap rkCells)) (hz:zs.Perm (aU L (mergeS set x y) (min x y)))
 (Z:∀k u,k≠keyC L (min x y)->k≠keyC L (max x y)->lookL l k=some u->∀g,u.ownBlock=some g->w'.heap[g]? =w.heap[g]?) (R:∀k u,k≠keyC L (min x y)->lookL l k=some u->v.ownBlock≠u.ownBlock):AD lo w' b L (mergeS set x y):=by
 have C:min x y<L.length:=by omega
 have O:max x y<L.length:=by omega
 have a0:min x y≠max x y:=by omega
 have r:∀t,t<L.length->((mergeS set x y).getD t 0=t↔set.getD t 0=t/\t≠max x y):=λt c=>by
  rw [bg (by rw [G.len];exact c)];have a5:=G.le t c;constructor
  · intro e;split at e
    · rename_i h;have:t=x∨t=y:=by omega
      rcases this with rfl|rfl
      · exact ⟨H,by omega⟩
      · exact ⟨I,by omega⟩
    · rename_i h;refine ⟨e,λd=>h ?_⟩;rcases Nat.le_total x y with m|m
      · rw [Nat.max_eq_right m] at d;subst d;exact .inr I
      · rw [Nat.max_eq_left m] at d;subst d;exact .inl H
  · rintro ⟨e,a6⟩;split
    · rename_i h;rw [e] at h;omega
    · exact e
 have M:∀t,t<L.length->t≠min x y->keyC L t≠keyC L (min x y):=λt c D e=>D (cn E c C e);have N:∀t,t<L.length->t≠max x y->keyC L t≠keyC L (max x y):=λt c D e=>D (cn E c O e);refine ⟨F,hm,λk=>?_,λt c p=>?_,λq n s z i f j=>?_⟩
 · rw [B];by_cases e1:k=keyC L (min x y)
   · rw [if_pos e1];exact ⟨λ_=>⟨min x y,C,(r _ C).2 ⟨by rcases Nat.le_total x y with m|m;rw [a0t m];exact H;rw [Nat.min_eq_right m];exact I,a0⟩,e1.symm⟩,λ_=>rfl⟩
   · rw [if_neg e1];by_cases d:k=keyC L (max x y)
     · rw [if_pos d];refine ⟨λh=>(by cases h),?_⟩;rintro ⟨t,c,p,j⟩;exact absurd (cn E c O (by rw [j,d])) ((r t c).1 p).2
     · rw [if_neg d,W];constructor
       · rintro ⟨t,c,p,j⟩;exact ⟨t,c,(r t c).2 ⟨p,λe=>d (by rw [<- j,e])⟩,j⟩
       · rintro ⟨t,c,p,j⟩;exact ⟨t,c,((r t c).1 p).1,j⟩
 · obtain ⟨a4,T⟩:=(r t c).1 p;rw [B];by_cases e1:t=min x y
   · subst e1;rw [if_pos rfl];exact ⟨v,zs,rfl,hv,hz⟩
   · rw [if_neg (M t c e1),if_neg (N t c T)];obtain ⟨u,A,J,U,V⟩:=X t c a4;refine ⟨u,A,J,ah U (Z _ u (M t c e1) (N t c T) J),?_⟩;rw [q9 G.len (by omega) (by omega)];exact V
 · rw [B] at i f;by_cases e1:q=keyC L (min x y)
   · rw [if_pos e1] at i;injection i with i
     subst i;have d:n≠keyC L (min x y):=λe=>j (by rw [e1,e]);rw [if_neg d] at f;split at f
     · cases f
     · exact R n z d f
   · rw [if_neg e1] at i;split at i
     · cases i
     · by_cases d:n=keyC L (min x y)
       · rw [if_pos d] at f;injection f with f
         subst f;exact λe=>R q s e1 i e.symm
       · rw [if_neg d] at f;split at f
         · cases f
         · exact Y q n s z i f j
end
section
open Go.RowKit Go.Maps Go.Shelf
theorem nr:∀u:a0l,(zeroValue 36).run a0c u= .ok (.agg #[.int .i64 0, .int .i64 0]) u:=λu=>by kernel_rfl
theorem et:∀u:a0l,(zeroValue 52).run a0c u= .ok (.slice none 0 0) u:=λu=>by kernel_rfl
def bV (ps:List (PK×(Int×Bool))) (L:VL) (set:List Nat) (p:PK):List Nat:=match atC L p.1,atC L p.2 with
 |some a,some b=>cK ps L set a b
 |_,_=>set
def titK (L:VL) (set:List Nat) (k:RK):RK:=((atC L k).map λi=>keyC L (set.getD i 0)).getD (0,0)
theorem UN.look {lo r:Nat} {F:Nat->Prop} {w:a0l} {i g t b s c:Nat} {n p q:Option Nat} {m:a0o} {d:ar} {L:VL} {set:List Nat} (h:UN lo r F w i g t b s c n p q m d L set) (k:RK) (j:rkOk k):
 (a0g 92 (.map (some b)) (recK k) true).run a0c w= .ok (.tuple #[recK (titK L set k), .bool (atC L k).isSome]) w:=by
 obtain ⟨l,e,f⟩:=h.of;have:=ak.look_ok e Tryz.underlying92 (nr w) k j;rw [f] at this;refine Eq.trans this ?_;unfold titK;cases atC L k<;>rfl
theorem eU {K:Type} [DecidableEq K]:∀(l m:List K),l.Nodup->(∀k∈l,k∈m)->l.length<=m.length
 |[],_,_,_=>a0h _
 |a::l,m,hn,h=>by
  obtain ⟨d,f⟩:=List.nodup_cons.1 hn
  have b:=h a List.mem_cons_self
  have:=eU l (m.erase a) f (λk c=>(List.mem_erase_of_ne (λ(e:k=a)=>d (e ▸ c))).2 (h k (List.mem_cons_of_mem _ c)))
  rw [List.length_erase_of_mem b] at this
  have:=List.length_pos_of_mem b
  simp only [List.length_cons];omega
theorem ot {w:a0l} {b:Nat} {l:List (RK×a0o)} {L:VL} (h:ak recB w b l) (f:∀k,(lookL l k).isSome=true->(atC L k).isSome=true):l.length<=L.length:=by
 have:=eU (l.map (·.1)) ((List.range L.length).map (keyC L)) h.nodup (λk g=>by obtain ⟨i,e⟩:=Option.isSome_iff_exists.1 (f k (qg.2 g));obtain ⟨c,d⟩:=at_some e;exact List.mem_map.2 ⟨i,by simpa using c,d⟩)
 simpa using this
theorem ak.put_run {P:Program} {f:a0y} {K:Type} [DecidableEq K] {B:dZ P f K} {w:a0l} {b:Nat} {l:List (K×a0o)} (h:ak B w b l) {t e:a0y} (q:P.underlying t=some (.map f e)) (m:l.length<maxLen) (k:K) (c:B.ok k) (v:a0o):
 ∃w',(Instr.mapUpdate t (.map (some b)) (B.kv k) v).run P w= .ok () w'/\ak B w' b (putL l k v)/\aq b w w':=by
 obtain ⟨s,g,i,j⟩:=h;obtain ⟨w',p,n,r⟩:=g.store B.keyed q m (B.key k c) (val:=v) (d:= .held v) (ps:=[]) rfl;exact ⟨w',p,ak.put_of i j c v n,dT r⟩
theorem ak.del_run {P:Program} {c:a0y} {K:Type} [DecidableEq K] {B:dZ P c K} {w:a0l} {b:Nat} {l:List (K×a0o)} (h:ak B w b l) {t e:a0y} (p:P.underlying t=some (.map c e)) (k:K) (d:B.ok k) (f:a0y):
 ∃w',(Builtin.delete_ #[t,c] f #[.map (some b),B.kv k]).run P w= .ok (.tuple #[]) w'/\ak B w' b (cB l k)/\aq b w w':=by
 obtain ⟨r,g,i,j⟩:=h;obtain ⟨w',n,m,q⟩:=g.drop B.keyed p (B.key k d) f;exact ⟨w',n,ak.del_of i j d m,dT q⟩
section
variable {P:Program} {o:Oper} {a:Act} {K:Act->a0l->Prop} {Q:Exit->Act->a0l->Prop} {w:a0l}
theorem kj {s x:Operand} {t:a0y} (e:o.op= .call {callee:= .builtin .append,args:= #[s,x],argTypes:= #[t,t]}) {b c v:a0o} (g:a.eval s=b) (h:a.eval x=c) {w':a0l} (f:(Builtin.append_ #[t,t] o.type #[b,c]).run P w= .ok v w') (d:K (a.put o.dst v) w'):o.wp P a w K Q:=by
 unfold Oper.wp execOp;simp only [e,resolve,invoke,builtin,Sem.run_bind,Sem.run_pure,a0z,List.map_toArray,List.map_cons,List.map_nil,g,h,f];exact d
theorem fj {t:a0y} {m s x:Operand} (c:o.op=Op.mapUpdate t m s x) {w':a0l} (d:(Instr.mapUpdate t (a.eval m) (a.eval s) (a.eval x)).run P w= .ok () w') (b:K (a.put o.dst undef) w'):o.wp P a w K Q:=by
 unfold Oper.wp;simp [execOp,c,d,Result.andThen];exact b
theorem rF {s x:Operand} {t k:a0y} (e:o.op= .call {callee:= .builtin .delete,args:= #[s,x],argTypes:= #[t,k]}) {b c v:a0o} (g:a.eval s=b) (h:a.eval x=c) {w':a0l} (f:(Builtin.delete_ #[t,k] o.type #[b,c]).run P w= .ok v w') (d:K (a.put o.dst v) w'):o.wp P a w K Q:=by
 unfold Oper.wp execOp;simp only [e,resolve,invoke,builtin,Sem.run_bind,Sem.run_pure,a0z,List.map_toArray,List.map_cons,List.map_nil,g,h,f];exact d
end
structure Sd (L:VL) (set:List Nat) (lm:List (RK×a0o)) (w1:a0l) (ml I:Nat) (p1 p2:Int) (g c:Nat) (l:List RK):Prop where
 s1:lookL lm (p1,p2)=some (.slice (some ⟨g,0,none⟩) l.length c)
 s2:w1.ownsRow ml 36 2 (.slice (some ⟨g,0,none⟩) l.length c) l.length (l.flatMap rkCells)
 s3:l.Perm (aU L set I)
 ok:rkOk (p1,p2)
 key:keyC L I=(p1,p2)
 lt:I<L.length
 rep:set.getD I 0=I
 len:l.length<=5000
def Bn (L:VL) (set:List Nat) (b:List (RK×a0o)) (w1 d:a0l) (c:Nat) (W:a0l) (r:List Nat):Prop:=
 ∃(I J:Nat) (p1 p2 q1 q2:Int) (gp cp:Nat) (ps:List RK) (gq cq:Nat) (qs:List RK),Sd L set b w1 c I p1 p2 gp cp ps/\Sd L set b w1 c J q1 q2 gq cq qs/\I<J/\r=mergeS set I J/\
  W.heap[w1.heap.size]? =some (.cells #[.int .i64 p1, .int .i64 p2] 36 (0,0))/\W.heap[d.heap.size]? =some (.cells #[.int .i64 q1, .int .i64 q2] 36 (0,0))
def di (ps:List (PK×(Int×Bool))) (r s:RK):Prop:=∀n,findK ps (pairK r s)≠some (n,false)
theorem o6 {ps:List (PK×(Int×Bool))} {b ys:List RK} (h:∀r∈b,∀s∈ys,di ps r s):ir ps b ys=false:=by
 cases hx:ir ps b ys
 · rfl
 · obtain ⟨r,d,s,e,n,c⟩:=iq.1 hx;exact absurd c (h r d s e n)
theorem tB {α:Type} {l:List α} {k:Nat} (h:k<l.length) {P:α->Prop} (c:∀a∈l.take k,P a) (d:P l[k]):∀a∈l.take (k+1),P a:=by
 intro a b;rw [a0q h] at b;rcases List.mem_append.1 b with b|b
 · exact c a b
 · rw [List.mem_singleton.1 b];exact d
theorem pp (lo ml:Nat) (F:Nat->Prop) (w:a0l) (bt bc t f A c:Nat) (m1 m2 m3:Option Nat) (kn:a0o) (d:ar) (L:VL) (set:List Nat) (h:UN lo ml F w bt bc t f A c m1 m2 m3 kn d L set) (p:PK) (hp:pkOk p):
 Calls a0c 78 #[pairV p, .pointer (some ⟨bt,0,none⟩), .pointer (some ⟨bc,0,none⟩)] w λe w'=>e= .returned (.tuple #[])/\UN lo ml F w' bt bc t f A c m1 m2 m3 kn d L (bV d.ps L set p)/\a0d lo w w'/\UFr ml w w' f A:=by
 obtain ⟨⟨a1,a2⟩,b1,b2⟩:=p;obtain ⟨oa,ob⟩:=hp;dsimp only at oa ob;obtain ⟨w1,k7⟩:∃w1,w.alloc (.cells #[.int .i64 a1, .int .i64 a2, .int .i64 b1, .int .i64 b2] 134)=w1:=⟨_,rfl⟩;have bv:a0d w.heap.size w w1:=by rw [<- k7];exact (a0f _ w).alloc (a0e _) _
 have hB:w1.heap[w.heap.size]? =some (.cells #[.int .i64 a1, .int .i64 a2, .int .i64 b1, .int .i64 b2] 134 (0,0)):=by rw [<- k7];exact a0b w _
 have M:=a0a (h.below bv);have ho:Hid (lo<=w.heap.size):=h.los.2.2.2.2.2.1;have c0:=a0a bv;have d0:Hid (∀W,a0d w1.heap.size w1 W->a0d lo w W/\UFr ml w W f A):=λW C=>⟨(bv.mono ho.out).trans (C.mono (a0j ho.out bv.size)),λq V _ _ _=>(C.block q (Nat.lt_of_lt_of_le V bv.size)).trans (bv.block q V)⟩;have f5:Hid (ml<=w.heap.size/\lo<=ml):=⟨h.los.2.2.2.2.2.2.2,h.los.2.2.2.2.2.2.1⟩;have py:w1.heap.size=w.heap.size+1:=by rw [<- k7];simp
 have rg:=a0a py
 have HK:Hid (∀W,a0d w1.heap.size w1 W->W.cell? ⟨bt,0,none⟩=some (.pointer (some ⟨t,0,none⟩))/\W.cell? ⟨t,0,none⟩=some (.map (some f))/\W.cell? ⟨t,1,none⟩=some (.map (some A))/\(W.cell? ⟨w.heap.size,0,none⟩=some (.int .i64 a1)/\W.cell? ⟨w.heap.size,1,none⟩=some (.int .i64 a2)/\W.cell? ⟨w.heap.size,2,none⟩=some (.int .i64 b1)/\W.cell? ⟨w.heap.size,3,none⟩=some (.int .i64 b2))/\
  (W.cell? ⟨bc,0,none⟩=some (.pointer (some ⟨c,0,none⟩))/\W.cell? ⟨c,2,none⟩=some (.map m3))/\∀k1 k2:Int,rkOk (k1,k2)->(a0g 92 (.map (some f)) (.agg #[.int .i64 k1, .int .i64 k2]) true).run a0c W= .ok (.tuple #[.agg #[.int .i64 (titK L set (k1,k2)).1, .int .i64 (titK L set (k1,k2)).2], .bool (atC L (k1,k2)).isSome]) W):=λW C=>by
  have hu:=M.below C
  obtain ⟨e0,e1⟩:=cT hu.tb
  have e2:=mn ((C.block _ (ae hB)).trans hB)
  exact ⟨(aa hu.vt 0).trans rfl,e0,e1,e2,⟨(aa hu.vc 0).trans rfl,(aa hu.cat.blk 2).trans rfl⟩,λk1 k2 hk=>hu.look (k1,k2) hk⟩
 have HB:=a0a hB;unfold pairV;dsimp only;clear h bv hB py;have dB:a0d w1.heap.size w1 w1.drew:=(a0f _ w1).drew;have eQ:Hid (∀W,a0d w1.heap.size w1 W->(a0g 92 (.map (some f)) (.agg #[.int .i64 a1, .int .i64 a2]) true).run a0c W= .ok (.tuple #[.agg #[.int .i64 (titK L set (a1,a2)).1, .int .i64 (titK L set (a1,a2)).2], .bool (atC L (a1,a2)).isSome]) W):=λW C=>(HK W C).2.2.2.2.2 a1 a2 oa;have f4:Hid (∀W,a0d w1.heap.size w1 W->(a0g 92 (.map (some f)) (.agg #[.int .i64 b1, .int .i64 b2]) true).run a0c W= .ok (.tuple #[.agg #[.int .i64 (titK L set (b1,b2)).1, .int .i64 (titK L set (b1,b2)).2], .bool (atC L (b1,b2)).isSome]) W):=λW C=>(HK W C).2.2.2.2.2 b1 b2 ob;obtain ⟨⟨Z,x2⟩,hx⟩:∃x,titK L set (a1,a2)=x:=⟨_,rfl⟩;obtain ⟨⟨O,T⟩,hy⟩:∃y,titK L set (b1,b2)=y:=⟨_,rfl⟩;obtain ⟨ia,hT⟩:∃ia,atC L (a1,a2)=ia:=⟨_,rfl⟩;obtain ⟨ib,hV⟩:∃ib,atC L (b1,b2)=ib:=⟨_,rfl⟩;rw [hx,hT] at eQ;rw [hy,hV] at f4;dsimp only at eQ f4;have r4:=a0a hx;have ra:=a0a hy;have cs:=a0a hT;have es:=a0a hV;obtain ⟨k8,iv⟩:∃k8,ia.isSome=k8:=⟨_,rfl⟩;obtain ⟨kb,k6⟩:∃kb,ib.isSome=kb:=⟨_,rfl⟩;rw [iv] at eQ;rw [k6] at f4;have l5:=a0a iv;have lv:=a0a k6;clear hx hy hT hV iv k6;go_enter Tryz.func78,Tryz.ntmps78;go_wp2;refine wT (λW=>a0d w1.heap.size w1 W) 12 ?_;have B:=tkL [0,4,1,5,2,3];repeat (refine tkI B ?_ rfl dB ?_ ?_;rotate_left;intro w' h;obtain ⟨h0,h1,h2,⟨h3,h4,h5,h6⟩,_,_⟩:=HK w' h;go_simp;rfl;(try go_simp);replace B:=tkO B)
 clear B;refine tk 6 ?_ rfl dB ?_ ?_;rotate_left;intro w' h;have hl:=eQ w' h;go_simp;rfl;try go_simp
 have B:=tkL [7,8,9];repeat (refine tkI B ?_ rfl dB ?_ ?_;rotate_left;intro w' h;go_simp;rfl;(try go_simp);replace B:=tkO B)
 clear B;refine dO 10 rfl λK b=>?_;go_simp;have a9:∀o,a0d w1.heap.size w1 (w1.drew.alloc o):=λo=>dB.alloc (a0e _) o;refine b _ _ (λ_=>a9 _) ?_;clear b K;refine dO 11 rfl λK b=>?_;go_simp;have al:∀o,a0d w1.heap.size w1 (w1.alloc o).drew:=λo=>((a0f _ w1).alloc (a0e _) o).drew;refine b _ _ (λ_=>al _) ?_;clear b K;refine dO 12 rfl λK b=>?_;go_simp;refine b _ _ (λh=>absurd rfl h) ?_;clear b K;refine dN ?_;obtain ⟨D,e8⟩:∃D,(w1.alloc (.cells #[.int .i64 Z, .int .i64 x2] 36)).drew=D:=⟨_,rfl⟩;have r0:Hid (D.heap[w1.heap.size]? =some (.cells #[.int .i64 Z, .int .i64 x2] 36 (0,0))):=by unfold Hid;rw [<- e8];exact a0b w1 _
 have hM:a0d w1.heap.size w1 D:=by rw [<- e8];exact al _
 have fl:Hid (D.heap.size=w1.heap.size+1):=by unfold Hid;rw [<- e8];show (w1.alloc _).heap.size=_;simp
 rw [e8];clear a9 al e8;go_wp2_with fail
 have e4:a0d w1.heap.size w1 D.drew:=hM.drew;refine wT (λW=>a0d w1.heap.size w1 W) 12 ?_;have B:=tkL [0,4,1,5,2,3];repeat (refine tkI B ?_ rfl e4 ?_ ?_;rotate_left;intro w' h;obtain ⟨h0,h1,h2,⟨h3,h4,h5,h6⟩,_,_⟩:=HK w' h;go_simp;rfl;(try go_simp);replace B:=tkO B)
 clear B;refine tk 6 ?_ rfl e4 ?_ ?_;rotate_left;intro w' h;have hl:=f4 w' h;go_simp;rfl;try go_simp
 have B:=tkL [7,8,9];repeat (refine tkI B ?_ rfl e4 ?_ ?_;rotate_left;intro w' h;go_simp;rfl;(try go_simp);replace B:=tkO B)
 clear B;refine dO 10 rfl λK b=>?_;go_simp;have a9:∀o,a0d w1.heap.size w1 (D.drew.alloc o):=λo=>e4.alloc (by have:=fl.out;show w1.heap.size<=D.heap.size;omega) o;refine b _ _ (λ_=>a9 _) ?_;clear b K;refine dO 11 rfl λK b=>?_;go_simp;have al:∀o,a0d w1.heap.size w1 (D.alloc o).drew:=λo=>(hM.alloc (by have:=fl.out;omega) o).drew;refine b _ _ (λ_=>al _) ?_;clear b K;refine dO 12 rfl λK b=>?_;go_simp;refine b _ _ (λh=>absurd rfl h) ?_;clear b K;refine dN ?_;obtain ⟨E,b0⟩:∃E,(D.alloc (.cells #[.int .i64 O, .int .i64 T] 36)).drew=E:=⟨_,rfl⟩;have d3:Hid (E.heap[D.heap.size]? =some (.cells #[.int .i64 O, .int .i64 T] 36 (0,0))):=by unfold Hid;rw [<- b0];exact a0b D _
 have hN:a0d w1.heap.size w1 E:=by rw [<- b0];exact al _
 have me:a0d D.heap.size D E:=by rw [<- b0];exact ((a0f _ D).alloc (a0e _) _).drew
 have d1:Hid (E.heap[w1.heap.size]? =some (.cells #[.int .i64 Z, .int .i64 x2] 36 (0,0))):=(me.block _ (by have:=fl.out;omega)).trans r0.out;have av:=a0a hN;have a0:=a0a (M.below hN);have hF:Hid (E.heap.size=D.heap.size+1/\D.heap.size=w1.heap.size+1/\w1.heap.size=w.heap.size+1):=⟨by rw [<- b0];show (D.alloc _).heap.size=_;simp,fl.out,rg.out⟩;rw [b0];obtain ⟨rl,rr⟩:=cT d1.out;obtain ⟨rs,rt⟩:=cT d3.out;clear a9 al b0 e4 me hM dB hN;have k9:=λW=>q36 Z x2 O T W;cases k8
 · have HE:Hid (bV d.ps L set ((a1,a2),(b1,b2))=set):=by
    unfold Hid bV;dsimp only;rw [cs.out];have:=l5.out;cases ia with
    |none=>rfl
    |some i=>cases this
   go_wp2_with fail
   refine a0u (a0p rfl _ _ _) rfl ?_;rw [HE.out];exact ⟨rfl,a0.out,d0 _ av.out⟩
 · cases kb
   · have HE:Hid (bV d.ps L set ((a1,a2),(b1,b2))=set):=by
      unfold Hid bV;dsimp only;rw [cs.out,es.out];have:=lv.out;cases ib with
      |none=>cases ia<;>rfl
      |some i=>cases this
     go_wp2_with fail
     refine a0u (a0p rfl _ _ _) rfl ?_;rw [HE.out];exact ⟨rfl,a0.out,d0 _ av.out⟩
   · obtain ⟨ja,rfl⟩:∃ja,ia=some ja:=Option.isSome_iff_exists.1 l5.out;obtain ⟨jb,rfl⟩:∃jb,ib=some jb:=Option.isSome_iff_exists.1 lv.out;have HE:Hid (bV d.ps L set ((a1,a2),(b1,b2))=cK d.ps L set ja jb):=by unfold Hid bV;dsimp only;rw [cs.out,es.out]
     have cd:keyC L (set.getD ja 0)=(Z,x2):=by have:=r4.out;unfold titK at this;rw [cs.out] at this;exact this
     have ch:keyC L (set.getD jb 0)=(O,T):=by have:=ra.out;unfold titK at this;rw [es.out] at this;exact this
     have hZ:=(at_some cs.out).1;have i1:=(at_some es.out).1;have fz:=a0.ok.lt hZ;have g6:=a0.ok.lt i1;have b5:=a0.ok.rep ja hZ;have b6:=a0.ok.rep jb i1;have cq:=a0a (fX d.ps L set ja jb);obtain ⟨X,hX⟩:∃X,set.getD ja 0=X:=⟨_,rfl⟩;obtain ⟨Y,hY⟩:∃Y,set.getD jb 0=Y:=⟨_,rfl⟩;rw [hX] at cd fz b5 cq;rw [hY] at ch g6 b6 cq;by_cases hXY:X=Y
     · have e9:(Z,x2)=(O,T):=by rw [<- cd, <- ch,hXY]
       rw [decide_eq_true e9] at k9;have cp:Hid (bV d.ps L set ((a1,a2),(b1,b2))=set):=by unfold Hid;rw [HE.out,cq.out,if_pos hXY]
       clear hXY e9 hX hY cd ch;go_wp2_with fail
       refine a0u (a0p rfl _ _ _) rfl ?_;rw [cp.out];exact ⟨rfl,a0.out,d0 _ av.out⟩
     · have e9:¬((Z,x2)=(O,T)):=λe=>hXY (cn a0.out.srt fz g6 (by rw [cd,ch,e]));rw [decide_eq_false e9] at k9;have cp:Hid (bV d.ps L set ((a1,a2),(b1,b2))=if eN d.ps L set X Y then set else mergeS set X Y):=by unfold Hid;rw [HE.out,cq.out,if_neg hXY]
       have lB:=a0a hXY;have f9:=a0a cd;have fc:=a0a ch;have hC:=a0a b5;have hD:=a0a b6;have d2:=a0a fz;have d4:=a0a g6;clear hXY e9 hX hY cd ch b5 b6 HE cq fz g6 hZ i1;go_wp2_with fail
       obtain ⟨lm,gf,nx,gi,ny⟩:=M.mem;obtain ⟨vx,xs,fp,fr,bb⟩:=gi X d2.out hC.out;obtain ⟨vy,ys,fs,ft,bk⟩:=gi Y d4.out hD.out;have ds:ak recB E A lm:=gf.block (av.block _ gf.lt);have hG:E.ownsRow ml 36 2 vx xs.length (xs.flatMap rkCells):=ah fr (λg hg=>av.block g (fr.lt g hg).2);have hH:E.ownsRow ml 36 2 vy ys.length (ys.flatMap rkCells):=ah ft (λg hg=>av.block g (ft.lt g hg).2);have t5:0<xs.length:=by rw [bb.length_eq];exact List.length_pos_iff.2 (ly d2.out hC.out)
       have t6:0<ys.length:=by rw [bk.length_eq];exact List.length_pos_iff.2 (ly d4.out hD.out)
       have pd:xs.length<=5000:=by rw [bb.length_eq];exact a0j (jv _ _ _) a0.out.len
       have px:ys.length<=5000:=by rw [bk.length_eq];exact a0j (jv _ _ _) a0.out.len
       obtain ⟨gx,cx,rfl,_⟩:=a0s hG t5;obtain ⟨gy,cy,rfl,_⟩:=a0s hH t6;rw [f9.out] at fp;rw [fc.out] at fs;have pc:rkOk (Z,x2):=by rw [<- f9.out];exact a0.out.key X d2.out
       have pv:rkOk (O,T):=by rw [<- fc.out];exact a0.out.key Y d4.out
       have ky:Hid (∀W,a0d E.heap.size E W->(a0g 93 (.map (some A)) (.agg #[.int .i64 Z, .int .i64 x2]) false).run a0c W= .ok (.slice (some ⟨gx,0,none⟩) xs.length cx) W):=λW C=>by have:=ak.look (w:=W) (ds.block (C.block _ ds.lt)) Tryz.underlying93 (et W) (Z,x2) pc;rw [fp] at this;exact this
       have kz:Hid (∀W,a0d E.heap.size E W->(a0g 93 (.map (some A)) (.agg #[.int .i64 O, .int .i64 T]) false).run a0c W= .ok (.slice (some ⟨gy,0,none⟩) ys.length cy) W):=λW C=>by have:=ak.look (w:=W) (ds.block (C.block _ ds.lt)) Tryz.underlying93 (et W) (O,T) pv;rw [fs] at this;exact this
       have lx:Hid (∀W,a0d E.heap.size E W->d9 0 E.heap.size W (.slice (some ⟨gx,0,none⟩) xs.length cx) xs):=λW C=>((bm hG).mono (a0h _) (a0e _)).kept (λq _ V=>C.block q V);have lT:Hid (∀W,a0d E.heap.size E W->d9 0 E.heap.size W (.slice (some ⟨gy,0,none⟩) ys.length cy) ys):=λW C=>((bm hH).mono (a0h _) (a0e _)).kept (λq _ V=>C.block q V);have r5:Hid (∀r∈xs,rkOk r):=λr hr=>by obtain ⟨i,hi,_,hk⟩:=aX.1 (bb.mem_iff.1 hr);rw [<- hk];exact a0.out.key i hi
       have rc:Hid (∀r∈ys,rkOk r):=λr hr=>by obtain ⟨i,hi,_,hk⟩:=aX.1 (bk.mem_iff.1 hr);rw [<- hk];exact a0.out.key i hi
       have tx:Hid (∀r∈xs,∀s∈ys,r≠s):=λr hr s hs e=>by obtain ⟨i,hi,h1,hk⟩:=aX.1 (bb.mem_iff.1 hr);obtain ⟨j,hj,h2,dd⟩:=aX.1 (bk.mem_iff.1 hs);have:=cn a0.out.srt hi hj (by rw [hk,dd,e]);subst this;exact lB (h1.symm.trans h2)
       have kc:Hid (eN d.ps L set X Y=ir d.ps xs ys):=yb a0.cat.ok.ok.ps a0.cat.ok.ok.apart a0.srt bb bk;have b8:Hid (∀W,a0d E.heap.size E W->W.cell? ⟨bt,0,none⟩=some (.pointer (some ⟨t,0,none⟩))/\W.cell? ⟨t,0,none⟩=some (.map (some f))/\W.cell? ⟨t,1,none⟩=some (.map (some A))/\W.cell? ⟨bc,0,none⟩=some (.pointer (some ⟨c,0,none⟩))/\W.cell? ⟨c,2,none⟩=some (.map m3)/\(W.cell? ⟨w1.heap.size,0,none⟩=some (.int .i64 Z)/\W.cell? ⟨w1.heap.size,1,none⟩=some (.int .i64 x2))/\W.cell? ⟨D.heap.size,0,none⟩=some (.int .i64 O)/\W.cell? ⟨D.heap.size,1,none⟩=some (.int .i64 T)):=λW C=>by have hu:=a0.below C;obtain ⟨e0,e1⟩:=cT hu.tb;exact ⟨(aa hu.vt 0).trans rfl,e0,e1,(aa hu.vc 0).trans rfl,(aa hu.cat.blk 2).trans rfl,cT ((C.block _ (ae d1.out)).trans d1.out),cT ((C.block _ (ae d3.out)).trans d3.out)⟩
       have kv:Hid (∀W,a0d E.heap.size E W->∀q1 q2 q3 q4:Int,pkOk ((q1,q2),q3,q4)->(a0g 115 (.map m3) (.agg #[.int .i64 q1, .int .i64 q2, .int .i64 q3, .int .i64 q4]) true).run a0c W= .ok (.tuple #[.agg #[.int .i64 ((findK d.ps ((q1,q2),q3,q4)).getD (0,false)).1, .bool ((findK d.ps ((q1,q2),q3,q4)).getD (0,false)).2], .bool (findK d.ps ((q1,q2),q3,q4)).isSome]) W):=λW C q1 q2 q3 q4 V=>by have:=cj.look_ok (w:=W) (a0.below C).cat.ps Tryz.underlying115 gB ((q1,q2),q3,q4) V;rw [eW d.ps fR] at this;refine Eq.trans this ?_;cases findK d.ps ((q1,q2),q3,q4)<;>rfl
       obtain ⟨k0,k1,k2,k3,k4,_,_⟩:=b8 E (a0f _ _);have sx:=ky E.drew (a0f _ E).drew;have c6:=a0a gf;have cv:=a0a nx;have f6:=a0a gi;have f8:=a0a ny;have qd:=a0a fp;have qe:=a0a fr;have qf:=a0a bb;have qk:=a0a fs;have qn:=a0a ft;have qq:=a0a bk;clear ds gf nx gi ny fp hG fr bb fs hH ft bk k9;go_region;go_wp2_with fail
       clear sx k0 k1 k2 k3 k4 rl rr rs rt;go_loopw [9,11,12,13,14,55,66] (λ_a _b _c _d _e i _f wr=>∃k:Nat,k<=xs.length/\i= .int .i64 k/\Hid (a0d E.heap.size E wr)/\Hid (∀r∈xs.take k,∀s∈ys,di d.ps r s)) (λ_ _ _ _ _ i _ _=>xs.length - (intOf i).toNat)
       case atStart=>exact ⟨0,a0h _,rfl,(a0f _ E).drew,λr hr=>by simp at hr⟩
       case round=>
        obtain ⟨k,hk,rfl,c4,ht⟩:=hrel;by_cases hlt:k<xs.length
        · obtain ⟨b',q5,m0,he,_,mp,e0,e1⟩:=(lx wr c4.out).one k hlt;cases he;have c9:Hid (xs[k]∈xs):=a0r hlt;have cz:Hid (∀{P:RK->Prop},(∀a∈xs.take k,P a)->P xs[k]->∀a∈xs.take (k+1),P a):=λh1 h2=>tB hlt h1 h2;obtain ⟨r,hr⟩:∃r,xs[k]=r:=⟨_,rfl⟩;rw [hr] at e0 e1 c9 cz;obtain ⟨l,z⟩:=r;dsimp only at e0 e1;rw [a0w] at e0 e1;clear hr;have t4:=c4.size;have bw:∀o,a0d E.heap.size E (wr.alloc o):=λo=>c4.alloc t4 o;have sb:=λo=>(b8 _ (bw o)).1;have se:=λo=>(b8 _ (bw o)).2.2.1;have dd:=λo=>(b8 _ (bw o)).2.2.2.2.2.2.1;have sl:=λo=>(b8 _ (bw o)).2.2.2.2.2.2.2;have sz:=λo=>kz _ (bw o).drew;go_wp2_with fail
          go_region;go_wp2_with fail
          have ha:Hid (a0d E.heap.size E (wr.alloc (.cells #[.int .i64 l, .int .i64 z] 36)).drew):=(bw _).drew;obtain ⟨wz,b7⟩:∃wz,(wr.alloc (.cells #[.int .i64 l, .int .i64 z] 36)).drew=wz:=⟨_,rfl⟩;have la:Hid (wz.heap[wr.heap.size]? =some (.cells #[.int .i64 l, .int .i64 z] 36 (0,0))):=by unfold Hid;rw [<- b7];exact a0b wr _
          rw [b7] at ha ⊢;have qz:Hid (wr.heap.size<wz.heap.size):=ae la.out;clear sb se dd sl sz bw b7 e0 e1;generalize wr.heap.size=R at *;go_loopw [11,12,13,14,66] (λ_b _c _d _e i wr=>∃m:Nat,m<=ys.length/\i= .int .i64 m/\Hid (a0d wz.heap.size wz wr)/\Hid (∀s∈ys.take m,di d.ps (l,z) s)) (λ_ _ _ _ i _=>ys.length - (intOf i).toNat)
          case atStart=>exact ⟨0,a0h _,rfl,a0f _ _,λs hs=>by simp at hs⟩
          case round=>
           obtain ⟨m,hm,rfl,er,l3⟩:=hrel;have cl:Hid (a0d E.heap.size E wr):=btr ha.out er.out ha.size;by_cases hlt2:m<ys.length
           · obtain ⟨b',q5,m0,he,_,mp,e0,e1⟩:=(lT wr cl.out).one m hlt2;cases he;have hz:Hid (ys[m]∈ys):=a0r hlt2;have ls:Hid (∀{P:RK->Prop},(∀a∈ys.take m,P a)->P ys[m]->∀a∈ys.take (m+1),P a):=λh1 h2=>tB hlt2 h1 h2;obtain ⟨s,hs⟩:∃s,ys[m]=s:=⟨_,rfl⟩;rw [hs] at e0 e1 hz ls;obtain ⟨H,I⟩:=s;dsimp only at e0 e1;rw [a0w] at e0 e1;clear hs;have v5:=cl.size;have gz:wr.heap[R]? =some (.cells #[.int .i64 l, .int .i64 z] 36 (0,0)):=(er.block _ qz.out).trans la.out;have e7:=ae gz;obtain ⟨r9,ka⟩:=cT gz;have oj:∀o,(wr.alloc o).cell? ⟨R,0,none⟩=some (.int .i64 l):=λo=>by rw [aR _ _ _ _ e7];exact r9
             have oi:∀o,(wr.alloc o).cell? ⟨R,1,none⟩=some (.int .i64 z):=λo=>by rw [aR _ _ _ _ e7];exact ka
             obtain ⟨Wp,fy⟩:∃Wp,(wr.alloc (.cells #[.int .i64 H, .int .i64 I] 36)).alloc (.cells #[.int .i64 l, .int .i64 z, .int .i64 H, .int .i64 I] 134)=Wp:=⟨_,rfl⟩;have hP:a0d wr.heap.size wr Wp:=by rw [<- fy];exact ((a0f _ wr).alloc (a0e _) _).alloc (by simp) _
             have q0:Wp.heap.size=wr.heap.size+2:=by rw [<- fy];simp
             have ma:Wp.heap[wr.heap.size]? =some (.cells #[.int .i64 H, .int .i64 I] 36 (0,0)):=by rw [<- fy,Below.heap_alloc _ _ _ (by simp)];exact a0b wr _
             have m7:Wp.heap[wr.heap.size+1]? =some (.cells #[.int .i64 l, .int .i64 z, .int .i64 H, .int .i64 I] 134 (0,0)):=by rw [<- fy];have:=a0b (wr.alloc (.cells #[.int .i64 H, .int .i64 I] 36)) (.cells #[.int .i64 l, .int .i64 z, .int .i64 H, .int .i64 I] 134);rwa [World.size_alloc] at this
             have ex:Hid (∀W2,bl Wp W2->W2.heap[wr.heap.size+1]? =some (.cells #[.int .i64 l, .int .i64 z, .int .i64 H, .int .i64 I] 134 (0,0))/\W2.heap[wr.heap.size]? =some (.cells #[.int .i64 H, .int .i64 I] 36 (0,0))/\W2.heap[R]? =some (.cells #[.int .i64 l, .int .i64 z] 36 (0,0))/\a0d wr.heap.size wr W2):=λW2 hg=>by have C:=hg.below;exact ⟨(C.block _ (by omega)).trans m7,(C.block _ (by omega)).trans ma,(C.block _ (by omega)).trans ((hP.block _ e7).trans gz),hP.trans (C.mono (by omega))⟩
             have d5:=a0a q0;have ts:=a0a e7;obtain ⟨v0,v1⟩:=cT (ex Wp (bl.refl _)).2.1;obtain ⟨v2,v3⟩:=cT (ex Wp (bl.refl _)).2.2.1;clear hP q0 ma m7 e7 gz;have HC:Hid (∀W,Calls a0c 49 #[.agg #[.int .i64 H, .int .i64 I], .agg #[.int .i64 l, .int .i64 z]] W λe w'=>e= .returned (.int .i64 (bo (H,I) (l,z)))/\bl W w'):=λW=>eC (H,I) (l,z) W;have aC:(bo (H,I) (l,z)<0)↔ltRK (H,I) (l,z)=true:=ep _ _;have l7:Hid (pkOk (pairK (l,z) (H,I))):=oq (r5 _ c9.out) (rc _ hz.out);have c7:Hid (pairK (l,z) (H,I)=if ltRK (H,I) (l,z) then ((H,I),(l,z)) else ((l,z),(H,I))):=rfl;have ld:Hid (di d.ps (l,z) (H,I)->∀a∈ys.take (m+1),di d.ps (l,z) a):=λh=>ls l3.out h;have h9:Hid (∀n,findK d.ps (pairK (l,z) (H,I))=some (n,false)->bV d.ps L set ((a1,a2),(b1,b2))=set):=λn hn=>by rw [cp.out,if_pos];rw [kc.out,iq];exact ⟨_,c9.out,_,hz.out,n,hn⟩
             by_cases hltc:ltRK (H,I) (l,z)=true
             focus
              have hQ:bo (H,I) (l,z)<0:=aC.2 hltc
              rw [if_pos hltc] at c7
              generalize bo (H,I) (l,z)=cm at *
              clear hltc aC
              go_wp2_with (go_at_call 49;go_loud (((with_reducible refine a0v (HC.out _) ?_);rintro e W2 ⟨rfl,ao⟩;obtain ⟨g0,N,g2,g5⟩:=ex.out _ ao;obtain ⟨z0,z1⟩:=cT N;obtain ⟨z2,z3⟩:=cT g2;obtain ⟨p0,p1,p2,p3⟩:=mn g0;have f0:=ab g0 0;have f1:=ab g0 1;have f2:=ab g0 2;have f3:=ab g0 3;have G0:=a0a g0;have G5:=a0a g5;clear g0 N g2 g5 ao)))
              have b3:Hid ((((((W2.setCell ⟨wr.heap.size+1,0,none⟩ (.int .i64 H)).setCell ⟨wr.heap.size+1,1,none⟩ (.int .i64 I)).setCell ⟨wr.heap.size+1,2,none⟩ (.int .i64 l)).setCell ⟨wr.heap.size+1,3,none⟩ (.int .i64 z))).heap[wr.heap.size+1]? =some (.cells #[.int .i64 H, .int .i64 I, .int .i64 l, .int .i64 z] 134 (0,0))):=an (an (an (an G0.out 0 (.int .i64 H)) 1 (.int .i64 I)) 2 (.int .i64 l)) 3 (.int .i64 z)
              have eq:Hid (a0d wr.heap.size wr ((((W2.setCell ⟨wr.heap.size+1,0,none⟩ (.int .i64 H)).setCell ⟨wr.heap.size+1,1,none⟩ (.int .i64 I)).setCell ⟨wr.heap.size+1,2,none⟩ (.int .i64 l)).setCell ⟨wr.heap.size+1,3,none⟩ (.int .i64 z))):=(((G5.out.setCell (by simp) _).setCell (by simp) _).setCell (by simp) _).setCell (by simp) _
              generalize ((((W2.setCell ⟨wr.heap.size+1,0,none⟩ (.int .i64 H)).setCell ⟨wr.heap.size+1,1,none⟩ (.int .i64 I)).setCell ⟨wr.heap.size+1,2,none⟩ (.int .i64 l)).setCell ⟨wr.heap.size+1,3,none⟩ (.int .i64 z))=W3 at *
              clear z0 z1 z2 z3 p0 p1 p2 p3 f0 f1 f2 f3 e0 e1 r9 ka oj oi v0 v1 v2 v3
              have hc:Hid (∃p1 p2 q1 q2:Int,pairK (l,z) (H,I)=((p1,p2),(q1,q2))/\W3.heap[wr.heap.size+1]? =some (.cells #[.int .i64 p1, .int .i64 p2, .int .i64 q1, .int .i64 q2] 134 (0,0))):=⟨H,I,l,z,c7.out,b3.out⟩
              clear c7 b3
             rotate_left
             focus
              have hQ:¬(bo (H,I) (l,z)<0):=λhh=>hltc (aC.1 hh)
              rw [if_neg hltc] at c7
              generalize bo (H,I) (l,z)=cm at *
              clear hltc aC
              go_wp2_with (go_at_call 49;go_loud (((with_reducible refine a0v (HC.out _) ?_);rintro e W3 ⟨rfl,ao⟩;obtain ⟨g0,N,g2,g5⟩:=ex.out _ ao;have b3:=a0a g0;have eq:=a0a g5;clear g0 N g2 g5 ao)))
              clear e0 e1 r9 ka oj oi v0 v1 v2 v3
              have hc:Hid (∃p1 p2 q1 q2:Int,pairK (l,z) (H,I)=((p1,p2),(q1,q2))/\W3.heap[wr.heap.size+1]? =some (.cells #[.int .i64 p1, .int .i64 p2, .int .i64 q1, .int .i64 q2] 134 (0,0))):=⟨l,z,H,I,c7.out,b3.out⟩
              clear c7 b3
             all_goals
              obtain ⟨a4,a5,a7,a8,iS,b0⟩:=hc.out
              rw [iS] at l7 h9
              have hw:Hid ((∀n,findK d.ps ((a4,a5),(a7,a8))≠some (n,false))->di d.ps (l,z) (H,I)):=λh=>by unfold di;rw [iS];exact h
              have b3:=a0a b0
              clear iS b0 hc
              have em:Hid (a0d E.heap.size E W3):=btr cl.out eq.out cl.size
              have hL:=em.size
              obtain ⟨ov,iD⟩:∃ov,findK d.ps ((a4,a5),(a7,a8))=ov:=⟨_,rfl⟩
              have kx:Hid (∀W,a0d W3.heap.size W3 W->(a0g 115 (.map m3) (.agg #[.int .i64 a4, .int .i64 a5, .int .i64 a7, .int .i64 a8]) true).run a0c W= .ok (.tuple #[.agg #[.int .i64 (ov.getD (0,false)).1, .bool (ov.getD (0,false)).2], .bool ov.isSome]) W):=λW C=>by
               rw [<- iD];exact kv.out W (btr em.out C hL) a4 a5 a7 a8 l7.out
              rw [iD] at h9 hw
              obtain ⟨o1,o3⟩:∃o1,(ov.getD (0,false)).1=o1:=⟨_,rfl⟩
              obtain ⟨o2,it⟩:∃o2,(ov.getD (0,false)).2=o2:=⟨_,rfl⟩
              obtain ⟨th,k5⟩:∃th,ov.isSome=th:=⟨_,rfl⟩
              rw [o3,it,k5] at kx
              have l4:=a0a it
              have lp:=a0a k5
              clear iD o3 it k5
              have qs:Hid (∀W,a0d W3.heap.size W3 W->W.cell? ⟨bc,0,none⟩=some (.pointer (some ⟨c,0,none⟩))/\W.cell? ⟨c,2,none⟩=some (.map m3)/\W.cell? ⟨wr.heap.size+1,0,none⟩=some (.int .i64 a4)/\W.cell? ⟨wr.heap.size+1,1,none⟩=some (.int .i64 a5)/\W.cell? ⟨wr.heap.size+1,2,none⟩=some (.int .i64 a7)/\W.cell? ⟨wr.heap.size+1,3,none⟩=some (.int .i64 a8)):=λW C=>by
               obtain ⟨_,_,_,N,g2,_⟩:=b8 W (btr em.out C hL)
               exact ⟨N,g2,mn ((C.block _ (ae b3.out)).trans b3.out)⟩
              have e5:a0d W3.heap.size W3 W3.drew:=(a0f _ W3).drew
              refine wT (λW=>a0d W3.heap.size W3 W) 11 ?_
              have B:=tkL [0,4,1,2,3]
              repeat (refine tkI B ?_ rfl e5 ?_ ?_;rotate_left;intro w' h;obtain ⟨h0,h1,h2,h3,h4,h5⟩:=qs w' h;go_simp;rfl;(try go_simp);replace B:=tkO B)
              clear B
              refine tk 5 ?_ rfl e5 ?_ ?_;rotate_left;intro w' h;have hl:=kx w' h;go_simp;rfl;try go_simp
              have B:=tkL [6,7,8]
              repeat (refine tkI B ?_ rfl e5 ?_ ?_;rotate_left;intro w' h;go_simp;rfl;(try go_simp);replace B:=tkO B)
              clear B
              refine dO 9 rfl λK b=>?_
              go_simp
              have a9:∀o,a0d W3.heap.size W3 (W3.drew.alloc o):=λo=>e5.alloc (a0e _) o
              refine b _ _ (λ_=>a9 _) ?_
              clear b K
              refine dO 10 rfl λK b=>?_
              go_simp
              have al:∀o,a0d W3.heap.size W3 (W3.alloc o).drew:=λo=>((a0f _ W3).alloc (a0e _) o).drew
              refine b _ _ (λ_=>al _) ?_
              clear b K
              refine dO 11 rfl λK b=>?_
              go_simp
              refine b _ _ (λh=>absurd rfl h) ?_
              clear b K
              refine dN ?_
              obtain ⟨W4,fx⟩:∃W4,(W3.alloc (.cells #[.int .i64 o1, .bool o2] 139)).drew=W4:=⟨_,rfl⟩
              have m6:W4.heap[W3.heap.size]? =some (.cells #[.int .i64 o1, .bool o2] 139 (0,0)):=by rw [<- fx];exact a0b W3 _
              have hO:a0d W3.heap.size W3 W4:=by rw [<- fx];exact al _
              rw [fx]
              obtain ⟨tO,ue⟩:=cT m6
              have kd:Hid (a0d E.heap.size E W4):=btr em.out hO hL
              have kk:Hid (a0d wz.heap.size wz W4):=btr er.out (btr eq.out hO eq.size) er.size
              clear a9 al fx m6 hO e5
              cases th
              · have HN:Hid (di d.ps (l,z) (H,I)):=hw (λn=>by
                 have:=lp.out
                 cases ov with
                 |none=>simp
                 |some v=>cases this)
                go_wp2_with fail
                go_roundw
                case rel=>exact ⟨m+1,by omega,by go_num,kk,ld.out HN.out⟩
                case measure=>simp [intOf];omega
              · cases o2
                · obtain ⟨v,rfl⟩:∃v,ov=some v:=Option.isSome_iff_exists.1 lp.out
                  have HR:Hid (bV d.ps L set ((a1,a2),(b1,b2))=set):=h9 v.1 (by
                   have:=l4.out
                   obtain ⟨v1,v2⟩:=v
                   simp at this
                   rw [this])
                  go_wp2_with fail
                  refine a0u (a0p rfl _ _ _) rfl ?_
                  rw [HR.out]
                  exact ⟨rfl,a0.below kd.out,d0 _ (btr av.out kd.out av.size)⟩
                · have HN:Hid (di d.ps (l,z) (H,I)):=hw (λn hn=>by
                   have:=l4.out
                   rw [hn] at this
                   cases this)
                  go_wp2_with fail
                  go_roundw
                  case rel=>exact ⟨m+1,by omega,by go_num,kk,ld.out HN.out⟩
                  case measure=>simp [intOf];omega
           · have hv:Hid (∀s∈ys,di d.ps (l,z) s):=by have:=l3.out;rw [a0m (by omega)] at this;exact this
             go_wp2_with fail
             go_roundw
             case rel=>exact ⟨k+1,by omega,by go_num,cl,cz.out ht.out hv.out⟩
             case measure=>simp [intOf];omega
        · skip;have md:ir d.ps xs ys=false:=o6 (by have:=ht.out;rw [a0m (by omega)] at this;exact this);have kq:Hid (bV d.ps L set ((a1,a2),(b1,b2))=mergeS set X Y):=by unfold Hid;rw [cp.out,kc.out,md];rfl
          have kl:Hid (a0d w1.heap.size w1 wr):=btr av.out c4.out av.size;have b5:wr.heap[w1.heap.size]? =some (.cells #[.int .i64 Z, .int .i64 x2] 36 (0,0)):=(c4.block _ (ae d1.out)).trans d1.out;have b6:wr.heap[D.heap.size]? =some (.cells #[.int .i64 O, .int .i64 T] 36 (0,0)):=(c4.block _ (ae d3.out)).trans d3.out;have lE:Hid (∀W,a0d wr.heap.size wr W->W.heap[w1.heap.size]? =some (.cells #[.int .i64 Z, .int .i64 x2] 36 (0,0))/\W.heap[D.heap.size]? =some (.cells #[.int .i64 O, .int .i64 T] 36 (0,0))/\a0d w1.heap.size w1 W):=λW C=>⟨(C.block _ (ae b5)).trans b5,(C.block _ (ae b6)).trans b6,btr kl.out C kl.size⟩;obtain ⟨q6,q7⟩:=cT b5;obtain ⟨qa,qb⟩:=cT b6;have HC:Hid (∀W,Calls a0c 49 #[.agg #[.int .i64 O, .int .i64 T], .agg #[.int .i64 Z, .int .i64 x2]] W λe w'=>e= .returned (.int .i64 (bo (O,T) (Z,x2)))/\bl W w'):=λW=>eC (O,T) (Z,x2) W;have aC:(bo (O,T) (Z,x2)<0)↔ltRK (O,T) (Z,x2)=true:=ep _ _;have gd:ltRK (O,T) (Z,x2)=true↔Y<X:=by rw [<- f9.out, <- fc.out];exact sF a0.out.srt d4.out d2.out
          clear b5 b6 ht cp lx lT ky kz b8 kv md;have le:Hid (Sd L set lm w1 ml X Z x2 gx cx xs):=⟨qd.out,qe.out,qf.out,pc,f9.out,d2.out,hC.out,pd⟩;have lf:Hid (Sd L set lm w1 ml Y O T gy cy ys):=⟨qk.out,qn.out,qq.out,pv,fc.out,d4.out,hD.out,px⟩;by_cases hltc:ltRK (O,T) (Z,x2)=true
          focus
           have hQ:bo (O,T) (Z,x2)<0:=aC.2 hltc
           have ad:Hid (Y<X):=gd.1 hltc
           generalize bo (O,T) (Z,x2)=cm at *
           clear hltc aC gd
           have m4:¬(w1.heap.size=D.heap.size):=by have:=hF.out;omega
           have ry:¬(D.heap.size=w1.heap.size):=λe=>m4 e.symm
           go_wp2_with (go_at_call 49;go_loud (((with_reducible refine a0v (HC.out _) ?_);rintro e W2 ⟨rfl,ao⟩;obtain ⟨g0,N,g5⟩:=lE.out _ ao.below;obtain ⟨z0,z1⟩:=cT g0;obtain ⟨z2,z3⟩:=cT N;have f0:=ab g0 0;have f1:=ab g0 1;have f2:=ab N 0;have f3:=ab N 1;have G0:=a0a g0;have G1:=a0a N;have G5:=a0a g5;clear g0 N g5 ao)))
           obtain ⟨J,d8⟩:∃J,(((W2.setCell ⟨w1.heap.size,0,none⟩ (.int .i64 O)).setCell ⟨w1.heap.size,1,none⟩ (.int .i64 T)).setCell ⟨D.heap.size,0,none⟩ (.int .i64 Z)).setCell ⟨D.heap.size,1,none⟩ (.int .i64 x2)=J:=⟨_,rfl⟩
           have b9:Hid (J.heap[w1.heap.size]? =some (.cells #[.int .i64 O, .int .i64 T] 36 (0,0))):=by
            unfold Hid
            rw [<- d8,a0k _ _ _ _ (by simp;omega),a0k _ _ _ _ (by simp;omega)]
            exact an (an G0.out 0 (.int .i64 O)) 1 (.int .i64 T)
           have b4:Hid (J.heap[D.heap.size]? =some (.cells #[.int .i64 Z, .int .i64 x2] 36 (0,0))):=by
            unfold Hid
            rw [<- d8]
            have g9:((W2.setCell ⟨w1.heap.size,0,none⟩ (.int .i64 O)).setCell ⟨w1.heap.size,1,none⟩ (.int .i64 T)).heap[D.heap.size]? =some (.cells #[.int .i64 O, .int .i64 T] 36 (0,0)):=by
             rw [a0k _ _ _ _ (by simp;omega),a0k _ _ _ _ (by simp;omega)];exact G1.out
            exact an (an g9 0 (.int .i64 Z)) 1 (.int .i64 x2)
           have ax:Hid (a0d w1.heap.size w1 J):=by
            unfold Hid
            rw [<- d8]
            have:=hF.out
            exact (((G5.out.setCell (by simp) _).setCell (by simp) _).setCell (by simp;omega) _).setCell (by simp;omega) _
           rw [d8]
           clear d8 z0 z1 z2 z3 f0 f1 f2 f3 q6 q7 qa qb m4 ry
           have hd:Hid (Bn L set lm w1 D ml J (bV d.ps L set ((a1,a2),(b1,b2)))):=⟨Y,X,O,T,Z,x2,gy,cy,ys,gx,cx,xs,lf.out,le.out,ad.out,kq.trans (so set X Y),b9.out,b4.out⟩
           clear b9 b4 ad
          rotate_left
          focus
           have hQ:¬(bo (O,T) (Z,x2)<0):=λhh=>hltc (aC.1 hh)
           have ad:Hid (X<Y):=by
            unfold Hid
            have h1:¬Y<X:=λh=>hltc (gd.2 h)
            have h2:=lB.out
            omega
           generalize bo (O,T) (Z,x2)=cm at *
           clear hltc aC gd
           go_wp2_with (go_at_call 49;go_loud (((with_reducible refine a0v (HC.out _) ?_);rintro e J ⟨rfl,ao⟩;obtain ⟨g0,N,g5⟩:=lE.out _ ao.below;have b9:=a0a g0;have b4:=a0a N;have ax:=a0a g5;clear g0 N g5 ao)))
           clear q6 q7 qa qb
           have hd:Hid (Bn L set lm w1 D ml J (bV d.ps L set ((a1,a2),(b1,b2)))):=⟨X,Y,Z,x2,O,T,gx,cx,xs,gy,cy,ys,le.out,lf.out,ad.out,kq.out,b9.out,b4.out⟩
           clear b9 b4 ad
          all_goals
           obtain ⟨iP,iQ,a4,a5,a7,a8,U,cP,lP,gQ,cQ,lQ,j2,j3,nf,da,pb,pt⟩:=hd.out
           have a3:=a0a j2
           have a6:=a0a j3
           have ad:=a0a nf
           have qc:=a0a da
           have b9:=a0a pb
           have b4:=a0a pt
           have pd:=j2.len
           have px:=j3.len
           clear j2 j3 nf da pb pt hd
           obtain ⟨i0,hi,pe,pf,pk⟩:=info_parts i36
           have ac:=M.below ax.out
           have bY:ak recB J A lm:=c6.block (ax.block _ c6.lt)
           have hR:ml<=U/\U<w1.heap.size:=a3.s2.lt U rfl
           have s6:ml<=gQ/\gQ<w1.heap.size:=a6.s2.lt gQ rfl
           have iN:¬((a4,a5)=((a7,a8):RK)):=λe2=>by
            have:=cn a0.out.srt a3.out.lt a6.out.lt (by rw [a3.out.key,a6.out.key,e2])
            have h2:=ad.out
            omega
           have mP:U≠gQ:=λe=>f8.out _ _ _ _ a3.out.s1 a6.out.s1 iN (by simp [a0i,e])
           have e6:J.ownsRow ml 36 2 (.slice (some ⟨U,0,none⟩) lP.length cP) lP.length (lP.flatMap rkCells):=ah a3.s2 (λg hg=>ax.block g (a3.s2.lt g hg).2)
           have gO:J.ownsRow ml 36 2 (.slice (some ⟨gQ,0,none⟩) lQ.length cQ) lQ.length (lQ.flatMap rkCells):=ah a6.s2 (λg hg=>ax.block g (a6.s2.lt g hg).2)
           have nO:A<w1.heap.size:=c6.lt
           have au:A≠bt/\A≠t/\A≠U/\A≠gQ:=by
            obtain ⟨cu,aS⟩:=aD e6 rfl
            obtain ⟨tz,s4⟩:=aD gO rfl
            exact ⟨aj bY ac.vt,aj bY ac.tb,aj bY aS,aj bY s4⟩
           have bA:U≠bt/\U≠t:=by
            obtain ⟨cu,aS⟩:=aD e6 rfl
            exact ⟨dj aS ac.vt (by decide),dj aS ac.tb (by decide)⟩
           have p4:=ax.size
           have t8:w1.heap.size<D.heap.size:=by have:=hF.out;omega
           have c5:Hid (∀W:a0l,(∀q,q=bt∨q=t∨q=w1.heap.size∨q=D.heap.size->W.heap[q]? =J.heap[q]?)->W.cell? ⟨bt,0,none⟩=some (.pointer (some ⟨t,0,none⟩))/\W.cell? ⟨t,1,none⟩=some (.map (some A))/\(W.cell? ⟨w1.heap.size,0,none⟩=some (.int .i64 a4)/\W.cell? ⟨w1.heap.size,1,none⟩=some (.int .i64 a5))/\(W.cell? ⟨D.heap.size,0,none⟩=some (.int .i64 a7)/\W.cell? ⟨D.heap.size,1,none⟩=some (.int .i64 a8))/\W.cell? ⟨t,0,none⟩=some (.map (some f))):=λW hW=>by
            have N:=(hW bt (.inl rfl)).trans ac.vt
            have g2:=(hW t (.inr (.inl rfl))).trans ac.tb
            exact ⟨(aa N 0).trans rfl,(cT g2).2,cT ((hW _ (.inr (.inr (.inl rfl)))).trans b9.out),cT ((hW _ (.inr (.inr (.inr rfl)))).trans b4.out),(cT g2).1⟩
           have iF:rkOk (a4,a5):=a3.ok
           have oc:rkOk (a7,a8):=a6.ok
           have su:(a0g 93 (.map (some A)) (.agg #[.int .i64 a7, .int .i64 a8]) false).run a0c J.drew= .ok (.slice (some ⟨gQ,0,none⟩) lQ.length cQ) J.drew:=by
            have:=ak.look (w:=J.drew) (ak.drew bY) Tryz.underlying93 (et J.drew) (a7,a8) oc
            rw [a6.out.s1] at this;exact this
           have sp:lm.length<=5000:=a0j (ot c6.out (λk hk=>by
            obtain ⟨t',h1,_,h3⟩:=(cv k).1 hk
            rw [<- h3,fK M.out.srt h1];rfl)) M.out.len
           obtain ⟨st,rx,rk,j1,mf,gq,p5⟩:=ak.entry (w:=J.drew) (ak.drew bY) gj Tryz.underlying93 et (a4,a5) iF (by unfold maxLen;omega)
           rw [a3.out.s1] at j1
           have hI:=c5 J.drew (λ_ _=>rfl)
           go_wp2_with fail
           refine wT (λW=>W.cell? ⟨bt,0,none⟩=some (.pointer (some ⟨t,0,none⟩))/\W.cell? ⟨t,1,none⟩=some (.map (some A))/\(W.cell? ⟨w1.heap.size,0,none⟩=some (.int .i64 a4)/\W.cell? ⟨w1.heap.size,1,none⟩=some (.int .i64 a5))/\(W.cell? ⟨D.heap.size,0,none⟩=some (.int .i64 a7)/\W.cell? ⟨D.heap.size,1,none⟩=some (.int .i64 a8))/\W.cell? ⟨t,0,none⟩=some (.map (some f))) 15 ?_
           have B:=tkL [0,4,5,9,1,6,2,7,3,8]
           repeat (refine tkI B ?_ rfl hI ?_ ?_;rotate_left;intro w' h;obtain ⟨h0,h1,⟨h2,h3⟩,⟨h4,h5⟩,_⟩:=h;go_simp;rfl;(try go_simp);replace B:=tkO B)
           clear B
           refine dO 10 rfl λK b=>?_
           go_simp
           refine b _ _ (λ_=>hI) ?_
           clear b K
           refine dO 11 rfl λK b=>?_
           refine bn rfl j1 ?_
           generalize hw6:Go.ChangeMaps.setBlock J.drew A (.map rx rk)=w6 at *
           have cb:∀q,q≠A->w6.heap[q]? =J.heap[q]? :=λq V=>gq.block q V
           have ta:w6.heap.size=J.heap.size:=gq.size
           have hJ:=c5.out w6 (λq V=>cb q (by rcases V with rfl|rfl|rfl|rfl;exact au.1.symm;exact au.2.1.symm;omega;omega))
           refine b _ _ (λ_=>hJ) ?_
           clear b K
           go_simp
           have B:=tkL [12,14]
           repeat (refine tkI B ?_ rfl hJ ?_ ?_;rotate_left;intro w' h;go_simp;rfl;(try go_simp);replace B:=tkO B)
           clear B
           obtain ⟨gb,d6,w7,j0,dz,bB,mv⟩:=bf (P:=a0c) w6 ml 52 52 36 i0 _ 2 16 Tryz.underlying52 hi pe pf pk rfl (by decide) U lP.length cP (lP.flatMap rkCells) (ah e6 (λg hg=>cb g (by simp [a0i] at hg;omega))) J.heap.size (.slice (some ⟨gQ,0,none⟩) lQ.length cQ) lQ.length (lQ.flatMap rkCells) (((bm gO).mono (a0h _) (a0e _)) |> λh=>(bm (ah gO (λg hg=>cb g (by simp [a0i] at hg;omega)))).mono (a0h _) (by omega)) (od lQ) (tK lQ) (by unfold maxLen;omega) (by omega) (by have:=f5.out.1;have:=c0.out.size;omega)
           obtain ⟨zs,eg⟩:∃zs,lP++lQ=zs:=⟨_,rfl⟩
           have pz:lP.length+lQ.length=zs.length:=by rw [<- eg];simp
           have da:lP.flatMap rkCells++lQ.flatMap rkCells=zs.flatMap rkCells:=by rw [<- eg,List.flatMap_append]
           rw [pz] at j0 dz
           rw [da] at dz
           have d5:Hid (zs.Perm (aU L (mergeS set iP iQ) iP)):=by
            have:=vF M.out.srt M.out.ok.len (show iP≠iQ from λe=>by have:=ad.out;omega) a3.out.s3 a6.out.s3
            rw [eg,a0t (a0x ad.out)] at this
            exact this
           have v7:zs.length<=10000:=by omega
           have ty:=a0a eg
           clear eg da
           refine dO 13 rfl λK b=>?_
           refine kj rfl rfl rfl j0 ?_
           have dk:∀q,q<w6.heap.size->q≠U->w7.heap[q]? =w6.heap[q]? :=λq V i8=>bB.block q V (λe=>i8 (by injection e))
           have m5:D.heap.size<J.heap.size:=ae b4.out
           have ms:bt<J.heap.size:=ae ac.vt
           have pa:t<J.heap.size:=ae ac.tb
           have mc:=c5.out w7 (λq V=>(dk q (by rcases V with rfl|rfl|rfl|rfl<;>omega) (by rcases V with rfl|rfl|rfl|rfl;exact bA.1.symm;exact bA.2.symm;omega;omega)).trans (cb q (by rcases V with rfl|rfl|rfl|rfl;exact au.1.symm;exact au.2.1.symm;omega;omega)))
           refine b _ _ (λ_=>mc) ?_
           clear b K
           obtain ⟨w8,oF,nz,dy⟩:=p5 w7 (.slice (some ⟨gb,0,none⟩) zs.length d6) ((dk A (by omega) au.2.2.1).trans mf)
           refine dO 15 rfl λK b=>?_
           refine aW rfl oF ?_
           refine b _ _ (λh=>absurd rfl h) ?_
           clear b K
           refine dN ?_
           have n0:aq A J w6:=(aq.refl A J).drew.trans gq
           have j4:ag (λq=>q=f∨q=A∨q=U) J (λq=>q=f∨q=A∨q=U) w8:=
            ((ag.of_only n0 (.inr (.inl rfl))).trans (⟨bB.os,bB.tape,bB.output,bB.size,λk hk hn=>dk k hk (λe=>hn (.inr (.inr e))),λ_ h=> .inl h⟩:ag _ w6 _ w7)).trans (ag.of_only dy (.inr (.inl rfl)))
           have g7:gb=U∨J.heap.size<=gb:=by rcases mv with e|e;exact .inl e;right;omega
           obtain ⟨ej,dx,nb⟩:=ac.of
           have aT:f≠bt/\f≠t/\f≠A:=⟨aj dx ac.vt,aj dx ac.tb,ac.ne⟩
           have nF:f<w1.heap.size:=by obtain ⟨l1,N,_⟩:=M.of;exact N.lt
           have gp:f≠U:=by
            obtain ⟨cu,aS⟩:=aD e6 rfl
            exact aj dx aS
           have i6:f≠gb:=by rcases g7 with e|e;rw [e];exact gp;omega
           have tc:w6.heap.size<=w7.heap.size:=bB.size
           have td:w8.heap.size=w7.heap.size:=dy.size
           have s5:gb<w7.heap.size:=(dz.lt gb rfl).2
           have gn:A≠gb:=by rcases g7 with e|e;rw [e];exact au.2.2.1;omega
           obtain ⟨w9,op,i4,o4⟩:=ak.del_run (w:=w8.drew) (ak.drew nz) Tryz.underlying93 (a7,a8) oc 0
           have dc:aq A w8 w9:=(aq.refl A w8).drew.trans o4
           have jn:ag (λq=>q=f∨q=A∨q=U) J (λq=>q=f∨q=A∨q=U) w9:=j4.trans (ag.of_only dc (.inr (.inl rfl)))
           have h7:ag (λq=>q=f∨q=A∨q=U) J (λq=>q=f∨q=A∨q=U) w9.drew:=jn.trans (ag.of_below (a0f _ w9).drew)
           have gs:w9.drew.ownsRow ml 36 2 (.slice (some ⟨gb,0,none⟩) zs.length d6) zs.length (zs.flatMap rkCells):=ah dz (λg hg=>by
            simp only [a0i,a0n] at hg
            subst hg
            exact (dc.block _ (λe=>gn e.symm)).trans (dy.block _ (λe=>gn e.symm)))
           have gt:∀q,q=bt∨q=t∨q=w1.heap.size∨q=D.heap.size->q<J.heap.size/\q≠f/\q≠A/\q≠U:=λq V=>by
            rcases V with rfl|rfl|rfl|rfl
            · exact ⟨ms,aT.1.symm,au.1.symm,bA.1.symm⟩
            · exact ⟨pa,aT.2.1.symm,au.2.1.symm,bA.2.symm⟩
            · exact ⟨by omega,by omega,by omega,by omega⟩
            · exact ⟨m5,by omega,by omega,by omega⟩
           have bs:=c5 w8.drew (λq V=>by obtain ⟨N,g2,g3,g4⟩:=gt q V;exact j4.block q N (by rintro (e|e|e);exact g2 e;exact g3 e;exact g4 e))
           have rW:=c5 w9 (λq V=>by obtain ⟨N,g2,g3,g4⟩:=gt q V;exact jn.block q N (by rintro (e|e|e);exact g2 e;exact g3 e;exact g4 e))
           have ss:(a0g 93 (.map (some A)) (.agg #[.int .i64 a4, .int .i64 a5]) false).run a0c w9.drew= .ok (.slice (some ⟨gb,0,none⟩) zs.length d6) w9.drew:=by
            have:=ak.look (w:=w9.drew) (ak.drew i4) Tryz.underlying93 (et w9.drew) (a4,a5) iF
            rw [kT,if_neg iN,df,if_pos rfl] at this;exact this
           have sM:ak recB w9.drew f ej:=dx.block (by
            have e1:w9.drew.heap[f]? =w8.heap[f]? :=dc.block f aT.2.2
            exact e1.trans ((dy.block f aT.2.2).trans ((dk f (by omega) gp).trans (cb f aT.2.2))))
           have ko:Hid (∀W,ag (λq=>q=f) w9.drew (λq=>q=f) W->(W.cell? ⟨bt,0,none⟩=some (.pointer (some ⟨t,0,none⟩))/\W.cell? ⟨t,0,none⟩=some (.map (some f))/\(W.cell? ⟨w1.heap.size,0,none⟩=some (.int .i64 a4)/\W.cell? ⟨w1.heap.size,1,none⟩=some (.int .i64 a5)))/\d9 0 W.heap.size W (.slice (some ⟨gb,0,none⟩) zs.length d6) zs):=λW C=>by
            have t9:=h7.size
            obtain ⟨N,g2,g3,g4,g5⟩:=c5 W (λq V=>by
             obtain ⟨N,g2,g3,g4⟩:=gt q V
             exact (C.block q (by omega) g2).trans (h7.block q N (by rintro (e|e|e);exact g2 e;exact g3 e;exact g4 e)))
            exact ⟨⟨N,g5,g3⟩,(bm (ah gs (λg hg=>C.block g (gs.lt g hg).2 (by
             simp only [a0i,a0n] at hg
             subst hg
             exact i6.symm)))).mono (a0h _) (a0e _)⟩
           have kt:=a0a nb
           have qv:=a0a i4
           have lb:=a0a h7
           have l6:=a0a gs
           have tr:=a0a dc
           have qx:Hid (f≠A/\f≠U/\f≠gb/\A≠gb/\(gb=U∨J.heap.size<=gb)/\f≠bt/\f≠t/\A≠bt/\A≠t/\U≠bt/\U≠t/\U≠gQ/\f<w1.heap.size/\A<w1.heap.size/\U<w1.heap.size/\ml<=U/\w1.heap.size<=J.heap.size/\bt<w1.heap.size/\t<w1.heap.size):=⟨aT.2.2,gp,i6,gn,g7,aT.1,aT.2.1,au.1,au.2.1,bA.1,bA.2,mP,nF,nO,hR.2,hR.1,p4,ae M.vt,ae M.tb⟩
           have v4:=iF
           clear j4 jn h7 gs dc n0 gt i4 o4 su j1 e6 gO bY ac au bA hR s6 mP aT nF gp i6 gn g7 mv cb dk ta tc td s5 hI hJ mc mf gq p5 dz bB j0 oF nz dy nb hi pe pf pk m5 ms pa t8 p4 nO dx sp pz
           go_wp2_with fail
           obtain ⟨z0,z1,z2,z3,z4⟩:=id bs
           refine wT (λW=>W.cell? ⟨bt,0,none⟩=some (.pointer (some ⟨t,0,none⟩))/\W.cell? ⟨t,1,none⟩=some (.map (some A))/\(W.cell? ⟨w1.heap.size,0,none⟩=some (.int .i64 a4)/\W.cell? ⟨w1.heap.size,1,none⟩=some (.int .i64 a5))/\(W.cell? ⟨D.heap.size,0,none⟩=some (.int .i64 a7)/\W.cell? ⟨D.heap.size,1,none⟩=some (.int .i64 a8))/\W.cell? ⟨t,0,none⟩=some (.map (some f))) 5 ?_
           refine tk 4 ?_ rfl bs ?_ ?_;rotate_left;intro w' h;obtain ⟨h0,h1,⟨h2,h3⟩,⟨h4,h5⟩,_⟩:=h;go_simp;rfl;try go_simp
           refine dO 0 rfl λK b=>?_
           go_simp
           refine b _ _ (λ_=>bs) ?_
           clear b K
           refine dO 1 rfl λK b=>?_
           go_simp
           refine b _ _ (λ_=>bs) ?_
           clear b K
           refine dO 2 rfl λK b=>?_
           go_simp
           refine b _ _ (λ_=>bs) ?_
           clear b K
           refine tk 3 ?_ rfl bs ?_ ?_;rotate_left;intro w' h;obtain ⟨h0,h1,⟨h2,h3⟩,⟨h4,h5⟩,_⟩:=h;go_simp;rfl;try go_simp
           refine dO 5 rfl λK b=>?_
           refine rF rfl rfl rfl op ?_
           refine b _ _ (λh=>absurd rfl h) ?_
           clear b K
           refine dN ?_
           clear z0 z1 z2 z3 z4 bs op
           go_wp2_with fail
           obtain ⟨z0,z1,⟨z2,z3⟩,⟨z4,z5⟩,z6⟩:=rW
           go_simp
           go_big_region
           go_wp2_with fail
           clear z0 z1 z2 z3 z4 z5 z6 ss
           go_loopw [16,130] (λ_x i wr=>∃m:Nat,m<=zs.length/\i= .int .i64 m/\Hid (ag (λq=>q=f) w9.drew (λq=>q=f) wr)/\Hid (∃l2,ak recB wr f l2/\∀k,lookL l2 k=if k∈zs.take m then some (recK (a4,a5)) else lookL ej k)) (λ_ i _=>zs.length - (intOf i).toNat)
           case atStart=>exact ⟨0,a0h _,rfl,ag.refl _ _,ej,sM,λk=>by simp⟩
           case round=>
            obtain ⟨m,hm,rfl,hA,ks⟩:=hrel
            by_cases hlt3:m<zs.length
            · obtain ⟨_,oR⟩:=ko wr hA.out
              obtain ⟨b',q5,m0,he,_,mp,e0,e1⟩:=oR.one m hlt3
              cases he
              have c9:Hid (zs[m]∈zs):=a0r hlt3
              have cz:Hid (zs.take (m+1)=zs.take m++[zs[m]]):=a0q hlt3
              obtain ⟨r,hr⟩:∃r,zs[m]=r:=⟨_,rfl⟩
              rw [hr] at e0 e1 c9 cz
              obtain ⟨l,z⟩:=r
              dsimp only at e0 e1
              rw [a0w] at e0 e1
              clear hr oR
              have a9:a0d wr.heap.size wr (wr.alloc (.cells #[.int .i64 l, .int .i64 z] 36)).drew:=((a0f _ wr).alloc (a0e _) _).drew
              obtain ⟨wz,b7⟩:∃wz,(wr.alloc (.cells #[.int .i64 l, .int .i64 z] 36)).drew=wz:=⟨_,rfl⟩
              have hnew:wz.heap[wr.heap.size]? =some (.cells #[.int .i64 l, .int .i64 z] 36 (0,0)):=by rw [<- b7];exact a0b wr _
              rw [b7] at a9
              have lk:Hid (ag (λq=>q=f) w9.drew (λq=>q=f) wz):=hA.trans (ag.of_below a9)
              obtain ⟨⟨g0,N,g2,g3⟩,_⟩:=ko wz lk.out
              obtain ⟨g4,g5⟩:=cT hnew
              obtain ⟨l2,g8,i2⟩:=ks.out
              have t2:rkOk (l,z):=by
               obtain ⟨i,hi,_,hk⟩:=aX.1 (d5.mem_iff.1 c9.out)
               rw [<- hk];exact M.out.key i hi
              have sm:l2.length<=5000:=a0j (ot g8 (λk hk=>by
               rw [i2] at hk
               split at hk
               · rename_i dd
                 obtain ⟨i,hi,_,s8⟩:=aX.1 (d5.mem_iff.1 (List.mem_of_mem_take dd))
                 rw [<- s8,fK M.out.srt hi];rfl
               · rw [kt.out] at hk
                 simpa using hk)) M.out.len
              obtain ⟨wu,oN,nN,o5⟩:=ak.put_run (w:=wz) (g8.block (a9.block _ g8.lt)) Tryz.underlying92 (by unfold maxLen;omega) (l,z) t2 (recK (a4,a5))
              have qy:Hid (ag (λq=>q=f) w9.drew (λq=>q=f) wu):=lk.trans (ag.of_only o5 rfl)
              have qt:Hid (∃l2,ak recB wu f l2/\∀k,lookL l2 k=if k∈zs.take (m+1) then some (recK (a4,a5)) else lookL ej k):=⟨_,nN,λk=>by
               rw [df,i2,cz.out]
               by_cases e:k=(l,z)
               · rw [if_pos e,if_pos (by rw [e];simp)]
               · rw [if_neg e]
                 by_cases e2:k∈zs.take m
                 · rw [if_pos e2,if_pos (List.mem_append_left _ e2)]
                 · rw [if_neg e2,if_neg (by simp [e,e2])]⟩
              clear a9 hnew g8 i2 nN o5 sm
              go_wp2_with fail
              refine wT (λW=>W=wz) 6 ?_
              rw [b7]
              have B:=tkL [0,4,5,1,2,3]
              repeat (refine tkI B ?_ rfl rfl ?_ ?_;rotate_left;intro w' h;obtain rfl:=h;go_simp;rfl;(try go_simp);replace B:=tkO B)
              clear B
              refine dO 6 rfl λK b=>?_
              refine fj rfl oN ?_
              refine b _ _ (λh=>absurd rfl h) ?_
              clear b K
              refine dN ?_
              clear b7 g0 N g2 g3 g4 g5 e0 e1 oN
              go_wp2_with fail
              go_roundw
              case rel=>exact ⟨m+1,by omega,by go_num,qy,qt⟩
              case measure=>simp [intOf];omega
            · have hv:Hid (∃l2,ak recB wr f l2/\∀k,lookL l2 k=if k∈zs then some (recK (a4,a5)) else lookL ej k):=by
               obtain ⟨l2,q1,q2⟩:=ks.out
               rw [a0m (by omega)] at q2
               exact ⟨l2,q1,q2⟩
              go_wp2_with fail
              refine bodyPost_end (a0p rfl _ _ _) rfl ?_
              rw [qc.out]
              obtain ⟨l2,q1,q2⟩:=hv.out
              obtain ⟨n1,n2,n3,n4,n5,n6,n7,n8,n9,te,tf,vb,vd,vs,vN,w0,w4,w5,wa⟩:=qx.out
              have ay:=M.below ax.out
              have hS:=hA.out
              have mb:=lb.trans (hS.widen (G:=λq=>q=f∨q=A∨q=U) (λk h=> .inl h))
              have t9:=lb.size
              have v9:=hS.size
              have HQ:∀q,q<J.heap.size->q≠f->q≠A->q≠U->wr.heap[q]? =J.heap[q]? :=λq N g2 g3 g4=>mb.block q N (by rintro (e|e|e);exact g2 e;exact g3 e;exact g4 e)
              obtain ⟨va,nE,_⟩:=M.of
              obtain ⟨cu,aS⟩:=aD a3.s2 rfl
              have c1:f≠bc:=aj nE M.vc
              have c2:A≠bc:=aj c6.out M.vc
              have c3:U≠bc:=dj aS M.vc (by decide)
              have bO:=M.los
              have cc:min iP iQ=iP:=a0t (a0x ad.out)
              have sC:max iP iQ=iQ:=Nat.max_eq_right (a0x ad.out)
              have i8:iP≠iQ:=λe=>by have:=ad.out;omega
              refine ⟨rfl,⟨(HQ bt (ae ay.vt) n6.symm n8.symm te.symm).trans ay.vt,(HQ bc (ae ay.vc) c1.symm c2.symm c3.symm).trans ay.vc,(HQ t (ae ay.tb) n7.symm n9.symm tf.symm).trans ay.tb,⟨l2,q1,wY M.out.srt M.out.ok kt.out (zs:=zs) (by rw [cc];exact d5.out) (by rw [cc,a3.out.key];exact q2)⟩,
               uQ M.out.srt M.out.ok i8 a3.out.lt a6.out.lt a3.out.rep a6.out.rep cv.out f6.out f8.out (v:= .slice (some ⟨gb,0,none⟩) zs.length d6) (zs:=zs) (qv.out.block (hS.block A (by omega) n1.symm)) ?hl (ah l6.out (λg hg=>hS.block g (l6.out.lt g hg).2 (by
                simp only [a0i,a0n] at hg
                subst hg
                exact n3.symm))) (by rw [cc];exact d5.out) ?hkeep ?hnew,
               ay.cat.step (λk hf=>HQ k (ay.cat.lt k hf) (by have:=M.out.lof k hf;omega) (by have:=M.out.lof k hf;omega) (by have:=M.out.lof k hf;omega)) (by omega),ay.ne,?los,ay.lof,M.out.ok.merge a3.out.lt a6.out.lt a3.out.rep a6.out.rep,M.out.srt,M.out.key,M.out.len⟩,?bel⟩
              case hl=>
               intro k
               rw [cc,sC,a3.out.key,a6.out.key,kT,df]
               by_cases e:k=(a4,a5)
               · rw [if_neg (λe2=>iN (e.symm.trans e2)),if_pos e,if_pos e]
               · rw [if_neg e,if_neg e]
              case hkeep=>
               intro k u k1 k2 hu g hg
               rw [cc,a3.out.key] at k1
               obtain ⟨f1,f2⟩:=j7 cv.out f6.out hu g hg
               have f3:g≠U:=λe=>f8.out _ _ _ _ hu a3.out.s1 k1 (by rw [hg,e];rfl)
               obtain ⟨t',t3,tl,sa⟩:=(cv.out k).1 (by rw [hu];rfl)
               obtain ⟨v',wf,h8,t1,_⟩:=f6 t' t3 tl
               rw [sa,hu] at h8
               injection h8 with h8
               subst h8
               obtain ⟨cg,mt⟩:=aD t1 hg
               exact (HQ g (by omega) (aj nE mt).symm (aj c6.out mt).symm f3).trans (ax.out.block g f2)
              case hnew=>
               intro k u k1 hu
               rw [cc,a3.out.key] at k1
               intro e
               have e2:u.ownBlock=some gb:=e.symm
               obtain ⟨f1,f2⟩:=j7 cv.out f6.out hu gb e2
               rcases n5 with e3|e3
               · exact f8.out _ _ _ _ hu a3.out.s1 k1 (by rw [e2,e3];rfl)
               · omega
              case los=>exact ⟨bO.1,bO.2.1,bO.2.2.1,bO.2.2.2.1,bO.2.2.2.2.1,by have:=ho.out;have:=c0.out.size;omega,f5.out.2,by have:=f5.out.1;have:=c0.out.size;omega⟩
              case bel=>
               have up:=f5.out
               have s0:=c0.size
               refine ⟨(d0.out _ ax.out).1.trans (mb.below (λk hk=>by rcases hk with rfl|rfl|rfl;exact bO.2.2.2.1;exact bO.2.2.2.2.1;omega) (by omega)).1,λq V q1 q2 q3=>?_⟩
               have t0:q<w1.heap.size:=Nat.lt_of_lt_of_le V s0
               refine ((HQ q (by omega) q1 q2 (λe=>?_)).trans (ax.out.block q t0)).trans (c0.out.block q V)
               rcases q3 with q3|q3
               · omega
               · refine q3 cu ?_
                 rw [<- c0.out.block q V,e]
                 exact aS
end
end Go.Proofs.YtjcimanddakkaaaGreatDoor
