/- Lemmas. -/
import Derived.Test.YtjcimanddakkaaaGreatDoorCQ16
set_option maxRecDepth 100000
set_option maxHeartbeats 8000000
namespace Go.Proofs.YtjcimanddakkaaaGreatDoor
open _root_.Option renaming some→X,none→Y
open Go.Value renaming int→J,slice→fn,map→g1,bool→gP,pointer→hb
open Go.IntKind renaming i64→U
open Go.Ending renaming returned→hK
open Go.Obj renaming cells→ih
open Go.Lib renaming hid→Z
open Tryz
open Go.World renaming alloc_heap_new→mk
open _root_.Nat renaming le_refl→nq,zero_le→tz,le_trans→ua,min_eq_left→v6,zero_add→v9,le_of_lt→wa
open Go.RowKit.Below renaming refl→r1,heap_setCell→uc
open Go.Instr renaming lookup→r2
open Go.Value renaming ownBlock→tO
open Go renaming World→up,Value→vd,results_none→vs,bodyPost_ret→v7,TypeId→wc
open _root_.List renaming take_of_length_le→va,take_succ_eq_append_getElem→vN,getElem_mem→v4
open _root_.Option.some renaming injEq→vb
open Go.World.ownsRow renaming form→v5
open Go.Calls renaming mono→v8
open Go.Result renaming andThen_ok→wf
section
open Go.RowKit Go.Maps Go.Shelf
structure CF(lo:Nat)(w:up)(b:Nat)(L:VL)(set:List Nat):Prop where
 ex:∃l,ak recB w b l/\(∀k,(lookL l k).isSome=true↔∃t,t<L.length/\set.getD t 0=t/\keyC L t=k)/\
  (∀t,t<L.length->set.getD t 0=t->∃(v:vd)(xs:List RK),lookL l (keyC L t)=some v/\w.ownsRow lo 36 2 v xs.length (xs.flatMap rkCells)/\xs.Perm (be L set t))/\
  ∀k1 k2 v1 v2,lookL l k1=some v1->lookL l k2=some v2->k1≠k2->v1.ownBlock≠v2.ownBlock
theorem ly{lo:Nat}{w:up}{L:VL}{set:List Nat}{k:RK}{l:List (RK×vd)}(i:∀k,(lookL l k).isSome=true↔∃t,t<L.length/\set.getD t 0=t/\keyC L t=k)(e:∀t,t<L.length->set.getD t 0=t->∃(v:vd)(c:List RK),lookL l (keyC L t)=X v/\w.ownsRow lo 36 2 v c.length (c.flatMap rkCells)/\c.Perm (be L set t)){v:vd}(d:lookL l k=X v):
 ∀g,v.ownBlock=X g->lo<=g/\g<w.heap.size:=by
 obtain⟨t,m,n,h⟩:=(i k).1 (by rw[d];rfl);obtain⟨p,c,b,j,_⟩:=e t m n;rw[h,d]at b;injection b with b
 subst b;exactλg f=>j.lt g f
structure UN(lo lm:Nat)(F:Nat->Prop)(w:up)(bt bc t mo mm c:Nat)(m1 m2 m3:Option Nat)(kn:vd)(d:ar)(L:VL)(set:List Nat):Prop where
 vt:Bk w bt #[.pointer (some ⟨t,0,none⟩)] 96
 vc:Bk w bc #[.pointer (some ⟨c,0,none⟩)] 24
 tb:Bk w t #[.map (some mo),.map (some mm)] 95
 of:CE w mo L set
 mem:CF lm w mm L set
 cat:dU F w c m1 m2 m3 kn d
 ne:mo≠mm
 los:lo<=bt/\lo<=bc/\lo<=t/\lo<=mo/\lo<=mm/\lo<=w.heap.size/\lo<=lm/\lm<=w.heap.size
 lof:∀k,F k->k<lo
 ok:cL L.length set
 srt:aB ltRK L
 key:∀i,i<L.length->rkOk (keyC L i)
 len:L.length<=5000
theorem UN.below{lo n:Nat}{F:Nat->Prop}{w w':up}{j i t u s c:Nat}{p q r:Option Nat}{m:vd}{d:ar}{L:VL}{set:List Nat}(h:UN lo n F w j i t u s c p q r m d L set)(b:Bw w w'):UN lo n F w' j i t u s c p q r m d L set:=by
 obtain⟨l,e,x⟩:=h.of;obtain⟨V,f,y,z,A⟩:=h.mem;refine⟨(b.block _ (ae h.vt)).trans h.vt,(b.block _ (ae h.vc)).trans h.vc,(b.block _ (ae h.tb)).trans h.tb,⟨l,e.block (b.block _ e.lt),x⟩,⟨V,f.block (b.block _ f.lt),y,λt T W=>?_,A⟩,h.cat.below b,h.ne,?_,h.lof,h.ok,h.srt,h.key,h.len⟩
 .obtain⟨v,xs,N,k,O⟩:=z t T W;exact⟨v,xs,N,ai k (λg R=>b.block g (k.lt g R).2),O⟩
 obtain⟨B,C,D,E,G,H,I,M⟩:=h.los;exact⟨B,C,D,E,G,ua H b.size,I,ua M b.size⟩
def UFr(b:Nat)(w w':up)(e d:Nat):Prop:=∀q,q<w.heap.size->q≠e->q≠d->(q<b∨∀c,w.heap[q]?≠X (Obj.cells c 36 (0,0)))->w'.heap[q]?=w.heap[q]?
theorem yP{L:VL}{set:List Nat}(u:aB ltRK L)(m:cL L.length set){l g:List (RK×vd)}(h:∀k,lookL l k=(atC L k).map λi=>recK (keyC L (set.getD i 0))){x y:Nat}{zs:List RK}(f:zs.Perm (be L (mergeS set x y) (min x y)))
 (n:∀k,lookL g k=if k∈zs then X (recK (keyC L (min x y)))else lookL l k):∀k,lookL g k=(atC L k).map λi=>recK (keyC L ((mergeS set x y).getD i 0)):=by
 intro k;rw[n,h];have v:∀i,i<L.length->((mergeS set x y).getD i 0=min x y↔set.getD i 0=x∨set.getD i 0=y∨set.getD i 0=min x y):=λi b=>by
  rw[bI (by rw[m.len];exact b)];split
  .rename_i h;exact⟨λ_=>h.elim .inl (λh=>.inr (.inl h)),λ_=>rfl⟩
  rename_i h;exact⟨λe=>.inr (.inr e),λe=>by rcases e with e|e|e;exact absurd (.inl e) h;exact absurd (.inr e) h;exact e⟩
 cases ha:atC L k with
 |none=>
  have:k∉zs:=λc=>by obtain⟨i,b,_,q⟩:=aV.1 (f.mem_iff.1 c);exact at_none ha i b q
  rw[if_neg this];rfl
 |some i=>
  obtain⟨b,c⟩:=at_some ha;simp only[Option.map_some];by_cases hmem:k∈zs
  .rw[if_pos hmem];obtain⟨j,r,s,t⟩:=aV.1 (f.mem_iff.1 hmem);have:j=i:=cO u r b (by rw[t,c]);subst this;rw[s]
  rw[if_neg hmem];have d:(mergeS set x y).getD i 0≠min x y:=λe=>hmem (f.mem_iff.2 (aV.2 ⟨i,b,e,c⟩));rw[bI (by rw[m.len];exact b)]at d ⊢;split at d
  .exact absurd rfl d
  rename_i p;rw[if_neg p]
theorem wI{lo:Nat}{w w':up}{b:Nat}{L:VL}{set:List Nat}(D:aB ltRK L)(F:cL L.length set){x y:Nat}(a8:x≠y)(hx:x<L.length)(hy:y<L.length)(G:set.getD x 0=x)(H:set.getD y 0=y){l E:List (RK×vd)}(h2:∀k,(lookL l k).isSome=true↔∃t,t<L.length/\set.getD t 0=t/\keyC L t=k)
 (h3:∀t,t<L.length->set.getD t 0=t->∃(v:vd)(A:List RK),lookL l (keyC L t)=X v/\w.ownsRow lo 36 2 v A.length (A.flatMap rkCells)/\A.Perm (be L set t))(h4:∀q n s z,lookL l q=X s->lookL l n=X z->q≠n->s.ownBlock≠z.ownBlock)
 (hm:ak recB w' b E){v:vd}{zs:List RK}(B:∀k,lookL E k=if k=keyC L (min x y)then X v else if k=keyC L (max x y)then Y else lookL l k)(hv:w'.ownsRow lo 36 2 v zs.length (zs.flatMap rkCells))(hz:zs.Perm (be L (mergeS set x y) (min x y)))
 (a0:∀k u,k≠keyC L (min x y)->k≠keyC L (max x y)->lookL l k=X u->∀g,u.ownBlock=X g->w'.heap[g]?=w.heap[g]?)(R:∀k u,k≠keyC L (min x y)->lookL l k=X u->v.ownBlock≠u.ownBlock):CF lo w' b L (mergeS set x y):=by
 have C:min x y<L.length:=by omega
 have O:max x y<L.length:=by omega
 have a4:min x y≠max x y:=by omega
 have r:∀t,t<L.length->((mergeS set x y).getD t 0=t↔set.getD t 0=t/\t≠max x y):=λt c=>by
  rw[bI (by rw[F.len];exact c)];have a6:=F.le t c;constructor
  .intro e;split at e
   .rename_i h;have:t=x∨t=y:=by omega
    rcases this with rfl|rfl
    .exact⟨G,by omega⟩
    exact⟨H,by omega⟩
   rename_i h;refine⟨e,λd=>h ?_⟩;rcases Nat.le_total x y with m|m
   .rw[Nat.max_eq_right m]at d;subst d;exact .inr H
   rw[Nat.max_eq_left m]at d;subst d;exact .inl G
  rintro⟨e,a7⟩;split
  .rename_i h;rw[e]at h;omega
  exact e
 have M:∀t,t<L.length->t≠min x y->keyC L t≠keyC L (min x y):=λt c hn e=>hn (cO D c C e);have N:∀t,t<L.length->t≠max x y->keyC L t≠keyC L (max x y):=λt c hn e=>hn (cO D c O e);refine⟨E,hm,λk=>?_,λt c p=>?_,λq n s z i f j=>?_⟩
 .rw[B];by_cases e1:k=keyC L (min x y)
  .rw[if_pos e1];exact⟨λ_=>⟨min x y,C,(r _ C).2 ⟨by rcases Nat.le_total x y with m|m;rw[v6 m];exact G;rw[Nat.min_eq_right m];exact H,a4⟩,e1.symm⟩,λ_=>rfl⟩
  rw[if_neg e1];by_cases d:k=keyC L (max x y)
  .rw[if_pos d];refine⟨λh=>(by cases h),?_⟩;rintro⟨t,c,p,j⟩;exact absurd (cO D c O (by rw[j,d])) ((r t c).1 p).2
  rw[if_neg d,h2];constructor
  .rintro⟨t,c,p,j⟩;exact⟨t,c,(r t c).2 ⟨p,λe=>d (by rw[<- j,e])⟩,j⟩
  rintro⟨t,c,p,j⟩;exact⟨t,c,((r t c).1 p).1,j⟩
 .obtain⟨a5,T⟩:=(r t c).1 p;rw[B];by_cases e1:t=min x y
  .subst e1;rw[if_pos rfl];exact⟨v,zs,rfl,hv,hz⟩
  rw[if_neg (M t c e1),if_neg (N t c T)];obtain⟨u,A,I,V,W⟩:=h3 t c a5;refine⟨u,A,I,ai V (a0 _ u (M t c e1) (N t c T) I),?_⟩;rw[sH F.len (by omega) (by omega)];exact W
 rw[B]at i f;by_cases e1:q=keyC L (min x y)
 .rw[if_pos e1]at i;injection i with i
  subst i;have d:n≠keyC L (min x y):=λe=>j (by rw[e1,e]);rw[if_neg d]at f;split at f
  .cases f
  exact R n z d f
 rw[if_neg e1]at i;split at i
 .cases i
 by_cases d:n=keyC L (min x y)
 .rw[if_pos d]at f;injection f with f
  subst f;exactλe=>R q s e1 i e.symm
 rw[if_neg d]at f;split at f
 .cases f
 exact h4 q n s z i f j
end
section
open Go.RowKit Go.Maps Go.Shelf
theorem lI:∀u:up,(zeroValue 36).run prog u=.ok (.agg #[J U 0,J U 0]) u:=λu=>by kernel_rfl
theorem eN:∀u:up,(zeroValue 52).run prog u=.ok (fn Y 0 0) u:=λu=>by kernel_rfl
def cf(ps:List (PK×(Int×Bool)))(L:VL)(set:List Nat)(p:PK):List Nat:=match atC L p.1,atC L p.2 with
 |some a,X b=>dw ps L set a b
 |_,_=>set
def titK(L:VL)(set:List Nat)(k:RK):RK:=((atC L k).map λi=>keyC L (set.getD i 0)).getD (0,0)
theorem UN.look{lo r:Nat}{F:Nat->Prop}{w:up}{i g t b s c:Nat}{n p q:Option Nat}{m:vd}{d:ar}{L:VL}{set:List Nat}(h:UN lo r F w i g t b s c n p q m d L set)(k:RK)(j:rkOk k):
 (r2 92 (g1 (X b)) (recK k) true).run prog w=.ok (.tuple #[recK (titK L set k),gP (atC L k).isSome]) w:=by
 obtain⟨l,e,f⟩:=h.of;have:=ak.look_ok e underlying92 (lI w) k j;rw[f]at this;refine Eq.trans this ?_;unfold titK;cases atC L k<;>rfl
theorem fD{K:Type}[DecidableEq K]:∀(l m:List K),l.Nodup->(∀k∈l,k∈m)->l.length<=m.length
 |[],_,_,_=>tz _
 |a::l,m,hn,h=>by
  obtain⟨d,f⟩:=List.nodup_cons.1 hn
  have b:=h a List.mem_cons_self
  have:=fD l (m.erase a) f (λk c=>(List.mem_erase_of_ne (λ(e:k=a)=>d (e▸c))).2 (h k (List.mem_cons_of_mem _ c)))
  rw[List.length_erase_of_mem b]at this
  have:=List.length_pos_of_mem b
  simp only[List.length_cons];omega
theorem pP{w:up}{b:Nat}{l:List (RK×vd)}{L:VL}(h:ak recB w b l)(f:∀k,(lookL l k).isSome=true->(atC L k).isSome=true):l.length<=L.length:=by
 have:=fD (l.map (·.1)) ((List.range L.length).map (keyC L)) h.nodup (λk g=>by obtain⟨i,e⟩:=Option.isSome_iff_exists.1 (f k (rI.2 g));obtain⟨c,d⟩:=at_some e;exact List.mem_map.2 ⟨i,by simpa using c,d⟩)
 simpa using this
theorem ak.put_run{P:Program}{f:wc}{K:Type}[DecidableEq K]{B:ev P f K}{w:up}{b:Nat}{l:List (K×vd)}(h:ak B w b l){t e:wc}(p:P.underlying t=X (.map f e))(hn:l.length<maxLen)(k:K)(c:B.ok k)(v:vd):
 ∃w',(Instr.mapUpdate t (g1 (X b)) (B.kv k) v).run P w=.ok () w'/\ak B w' b (putL l k v)/\az b w w':=by
 obtain⟨r,g,i,j⟩:=h;obtain⟨w',n,m,q⟩:=g.store B.keyed p hn (B.key k c) (val:=v) (d:=.held v) (ps:=[]) rfl;exact⟨w',n,ak.put_of i j c v m,ei q⟩
theorem ak.del_run{P:Program}{c:wc}{K:Type}[DecidableEq K]{B:ev P c K}{w:up}{b:Nat}{l:List (K×vd)}(h:ak B w b l){t e:wc}(p:P.underlying t=X (.map c e))(k:K)(d:B.ok k)(f:wc):
 ∃w',(Builtin.delete_ #[t,c] f #[g1 (X b),B.kv k]).run P w=.ok (.tuple #[]) w'/\ak B w' b (cB l k)/\az b w w':=by
 obtain⟨r,g,i,j⟩:=h;obtain⟨w',n,m,q⟩:=g.drop B.keyed p (B.key k d) f;exact⟨w',n,ak.del_of i j d m,ei q⟩
section
variable {P:Program} {o:Oper} {a:Act} {K:Act->up->Prop} {Q:Exit->Act->up->Prop} {w:up}
theorem iJ{s x:Operand}{t:wc}(e:o.op=.call {callee:=.builtin .append,args:= #[s,x],argTypes:= #[t,t]}){b c v:vd}(g:a.eval s=b)(h:a.eval x=c){w':up}(f:(Builtin.append_ #[t,t] o.type #[b,c]).run P w=.ok v w')(d:K (a.put o.dst v) w'):o.wp P a w K Q:=by
 unfold Oper.wp execOp;simp only[e,resolve,invoke,builtin,Sem.run_bind,Sem.run_pure,wf,List.map_toArray,List.map_cons,List.map_nil,g,h,f];exact d
theorem fQ{t:wc}{m s x:Operand}(c:o.op=Op.mapUpdate t m s x){w':up}(d:(Instr.mapUpdate t (a.eval m) (a.eval s) (a.eval x)).run P w=.ok () w')(b:K (a.put o.dst undef) w'):o.wp P a w K Q:=by
 unfold Oper.wp;simp[execOp,c,d,Result.andThen];exact b
theorem tg{s x:Operand}{t k:wc}(e:o.op=.call {callee:=.builtin .delete,args:= #[s,x],argTypes:= #[t,k]}){b c v:vd}(g:a.eval s=b)(h:a.eval x=c){w':up}(f:(Builtin.delete_ #[t,k] o.type #[b,c]).run P w=.ok v w')(d:K (a.put o.dst v) w'):o.wp P a w K Q:=by
 unfold Oper.wp execOp;simp only[e,resolve,invoke,builtin,Sem.run_bind,Sem.run_pure,wf,List.map_toArray,List.map_cons,List.map_nil,g,h,f];exact d
end
structure Sd(L:VL)(set:List Nat)(lm:List (RK×vd))(w1:up)(ml I:Nat)(p1 p2:Int)(g c:Nat)(l:List RK):Prop where
 s1:lookL lm (p1,p2)=some (.slice (some ⟨g,0,none⟩) l.length c)
 s2:w1.ownsRow ml 36 2 (.slice (some ⟨g,0,none⟩) l.length c) l.length (l.flatMap rkCells)
 s3:l.Perm (be L set I)
 ok:rkOk (p1,p2)
 key:keyC L I=(p1,p2)
 lt:I<L.length
 rep:set.getD I 0=I
 len:l.length<=5000
def Bn(L:VL)(set:List Nat)(c:List (RK×vd))(w1 e:up)(d:Nat)(W:up)(r:List Nat):Prop:=
 ∃(I b:Nat)(p1 p2 q1 q2:Int)(gp cp:Nat)(ps:List RK)(gq cq:Nat)(qs:List RK),Sd L set c w1 d I p1 p2 gp cp ps/\Sd L set c w1 d b q1 q2 gq cq qs/\I<b/\r=mergeS set I b/\
  Bk W w1.heap.size #[J U p1,J U p2] 36/\Bk W e.heap.size #[J U q1,J U q2] 36
def dF(ps:List (PK×(Int×Bool)))(r s:RK):Prop:=∀n,findK ps (pairK r s)≠X (n,false)
theorem qF{ps:List (PK×(Int×Bool))}{b ys:List RK}(h:∀r∈b,∀s∈ys,dF ps r s):jj ps b ys=false:=by
 cases hx:jj ps b ys
 .rfl
 obtain⟨r,c,s,d,n,hn⟩:=ji.1 hx;exact absurd hn (h r c s d n)
theorem uW{α:Type}{l:List α}{k:Nat}(h:k<l.length){P:α->Prop}(c:∀a∈l.take k,P a)(d:P l[k]):∀a∈l.take (k+1),P a:=by
 intro a b;rw[vN h]at b;rcases List.mem_append.1 b with b|b
 .exact c a b
 rw[List.mem_singleton.1 b];exact d
theorem qR(lo ml:Nat)(F:Nat->Prop)(w:up)(bt bc t f A c:Nat)(m1 m2 m3:Option Nat)(kn:vd)(d:ar)(L:VL)(set:List Nat)(h:UN lo ml F w bt bc t f A c m1 m2 m3 kn d L set)(p:PK)(hp:pkOk p):
 Calls prog 78 #[pairV p,hb (X ⟨bt,0,Y⟩),hb (X ⟨bc,0,Y⟩)] w λe w'=>e=hK (.tuple #[])/\UN lo ml F w' bt bc t f A c m1 m2 m3 kn d L (cf d.ps L set p)/\Below lo w w'/\UFr ml w w' f A:=by
 obtain⟨⟨a1,a2⟩,b1,b2⟩:=p;obtain⟨nz,nE⟩:=hp;dsimp only at nz nE;obtain⟨w1,j2⟩:=Qe (w.alloc (ih #[J U a1,J U a2,J U b1,J U b2] 134));have bv:Bw w w1:=by rw[<- j2];exact(r1 _ w).alloc (nq _) _
 have hB:w1.heap[w.heap.size]?=X (ih #[J U a1,J U a2,J U b1,J U b2] 134 (0,0)):=by rw[<- j2];exact mk w _
 have M:=Z (h.below bv);have h8:Hid (lo<=w.heap.size):=h.los.2.2.2.2.2.1;have c0:=Z bv;have cv:Hid (∀W,Bw w1 W->Below lo w W/\UFr ml w W f A):=λW C=>⟨(bv.mono h8.o).trans (C.mono (ua h8.o bv.size)),λq hq _ _ _=>(C.block q (Nat.lt_of_lt_of_le hq bv.size)).trans (bv.block q hq)⟩;have ex:Hid (ml<=w.heap.size/\lo<=ml):=⟨h.los.2.2.2.2.2.2.2,h.los.2.2.2.2.2.2.1⟩;have pc:w1.heap.size=w.heap.size+1:=by rw[<- j2];simp
 have qk:=Z pc
 have HK:Hid (∀W,Bw w1 W->Cl W bt 0 (hb (X ⟨t,0,Y⟩))/\Cl W t 0 (g1 (X f))/\Cl W t 1 (g1 (X A))/\(Cl W w.heap.size 0 (J U a1)/\Cl W w.heap.size 1 (J U a2)/\Cl W w.heap.size 2 (J U b1)/\Cl W w.heap.size 3 (J U b2))/\
  (Cl W bc 0 (hb (X ⟨c,0,Y⟩))/\Cl W c 2 (.map m3))/\∀k1 k2:Int,rkOk (k1,k2)->(r2 92 (g1 (X f)) (.agg #[J U k1,J U k2]) true).run prog W=.ok (.tuple #[.agg #[J U (titK L set (k1,k2)).1,J U (titK L set (k1,k2)).2],gP (atC L (k1,k2)).isSome]) W):=λW C=>by
  have hu:=M.below C
  obtain⟨e0,e1⟩:=dm hu.tb
  have e2:=nB ((C.block _ (ae hB)).trans hB)
  exact⟨(aa hu.vt 0).trans rfl,e0,e1,e2,⟨(aa hu.vc 0).trans rfl,(aa hu.cat.blk 2).trans rfl⟩,λk1 k2 hk=>hu.look (k1,k2) hk⟩
 have HB:=Z hB;unfold pairV;dsimp only;clear h bv hB pc;have ds:Bw w1 w1.drew:=(r1 _ w1).drew;have er:Hid (∀W,Bw w1 W->(r2 92 (g1 (X f)) (.agg #[J U a1,J U a2]) true).run prog W=.ok (.tuple #[.agg #[J U (titK L set (a1,a2)).1,J U (titK L set (a1,a2)).2],gP (atC L (a1,a2)).isSome]) W):=λW C=>(HK W C).2.2.2.2.2 a1 a2 nz;have es:Hid (∀W,Bw w1 W->(r2 92 (g1 (X f)) (.agg #[J U b1,J U b2]) true).run prog W=.ok (.tuple #[.agg #[J U (titK L set (b1,b2)).1,J U (titK L set (b1,b2)).2],gP (atC L (b1,b2)).isSome]) W):=λW C=>(HK W C).2.2.2.2.2 b1 b2 nE;obtain⟨⟨x1,x2⟩,hx⟩:∃x,titK L set (a1,a2)=x:=⟨_,rfl⟩;obtain⟨⟨O,T⟩,hy⟩:∃y,titK L set (b1,b2)=y:=⟨_,rfl⟩;obtain⟨ia,hN⟩:=Qe (atC L (a1,a2));obtain⟨ib,hO⟩:=Qe (atC L (b1,b2));rw[hx,hN]at er;rw[hy,hO]at es;dsimp only at er es;have qc:=Z hx;have qe:=Z hy;have cp:=Z hN;have em:=Z hO;obtain⟨j3,i2⟩:=Qe ia.isSome;obtain⟨k5,j1⟩:=Qe ib.isSome;rw[i2]at er;rw[j1]at es;have kv:=Z i2;have ld:=Z j1;clear hx hy hN hO i2 j1;go_enter func78,ntmps78;go_wp2;refine Wb w1 12 ?_;refine Qb [0,4,1,5,2,3] ds HK ?_;refine Qb [6] ds er ?_
 refine Qa [7,8,9] ds ?_;refine Dp 10 λK b=>?_;go_simp;have ad:∀o,Bw w1 (w1.drew.alloc o):=λo=>ds.alloc (nq _) o;refine b _ _ (λ_=>ad _) ?_;clear b K;refine Dp 11 λK b=>?_;go_simp;have au:∀o,Bw w1 (w1.alloc o).drew:=λo=>((r1 _ w1).alloc (nq _) o).drew;refine b _ _ (λ_=>au _) ?_;clear b K;refine Dl 12 ?_;obtain⟨D,e5⟩:=Qe ((w1.alloc (ih #[J U x1,J U x2] 36)).drew);have qb:Hid (D.heap[w1.heap.size]?=X (ih #[J U x1,J U x2] 36 (0,0))):=by unfold Hid;rw[<- e5];exact mk w1 _
 have hG:Bw w1 D:=by rw[<- e5];exact au _
 have f7:Hid (D.heap.size=w1.heap.size+1):=by unfold Hid;rw[<- e5];show(w1.alloc _).heap.size=_;simp
 rw[e5];clear ad au e5;go_wp2_with fail;have dx:Bw w1 D.drew:=hG.drew;refine Wb w1 12 ?_;refine Qb [0,4,1,5,2,3] dx HK ?_;refine Qb [6] dx es ?_
 refine Qa [7,8,9] dx ?_;refine Dp 10 λK b=>?_;go_simp;have ad:∀o,Bw w1 (D.drew.alloc o):=λo=>dx.alloc (by have:=f7.o;show w1.heap.size<=D.heap.size;omega) o;refine b _ _ (λ_=>ad _) ?_;clear b K;refine Dp 11 λK b=>?_;go_simp;have au:∀o,Bw w1 (D.alloc o).drew:=λo=>(hG.alloc (by have:=f7.o;omega) o).drew;refine b _ _ (λ_=>au _) ?_;clear b K;refine Dl 12 ?_;obtain⟨w3,b4⟩:=Qe ((D.alloc (ih #[J U O,J U T] 36)).drew);have d1:Hid (w3.heap[D.heap.size]?=X (ih #[J U O,J U T] 36 (0,0))):=by unfold Hid;rw[<- b4];exact mk D _
 have hH:Bw w1 w3:=by rw[<- b4];exact au _
 have m6:Bw D w3:=by rw[<- b4];exact((r1 _ D).alloc (nq _) _).drew
 have cz:Hid (Bk w3 w1.heap.size #[J U x1,J U x2] 36):=(m6.block _ (by have:=f7.o;omega)).trans qb.o;have ay:=Z hH;have a0:=Z (M.below hH);have hw:Hid (w3.heap.size=D.heap.size+1/\D.heap.size=w1.heap.size+1/\w1.heap.size=w.heap.size+1):=⟨by rw[<- b4];show(D.alloc _).heap.size=_;simp,f7.o,qk.o⟩;rw[b4];obtain⟨qo,qq⟩:=dm cz.o;obtain⟨qs,qt⟩:=dm d1.o;clear ad au b4 dx m6 hG ds hH;have j4:=λW=>q36 x1 x2 O T W;cases j3
 .have HE:Hid (cf d.ps L set ((a1,a2),(b1,b2))=set):=by
   unfold Hid cf;dsimp only;rw[cp.o];have:=kv.o;cases ia with
   |none=>rfl
   |some i=>cases this
  go_wp2_with fail;refine v7 (vs rfl _ _ _) rfl ?_;rw[HE.o];exact⟨rfl,a0.o,cv _ ay.o⟩
 cases k5
 .have HE:Hid (cf d.ps L set ((a1,a2),(b1,b2))=set):=by
   unfold Hid cf;dsimp only;rw[cp.o,em.o];have:=ld.o;cases ib with
   |none=>cases ia<;>rfl
   |some i=>cases this
  go_wp2_with fail;refine v7 (vs rfl _ _ _) rfl ?_;rw[HE.o];exact⟨rfl,a0.o,cv _ ay.o⟩
 obtain⟨ja,rfl⟩:∃ja,ia=X ja:=Option.isSome_iff_exists.1 kv.o;obtain⟨jb,rfl⟩:∃jb,ib=X jb:=Option.isSome_iff_exists.1 ld.o;have HE:Hid (cf d.ps L set ((a1,a2),(b1,b2))=dw d.ps L set ja jb):=by unfold Hid cf;dsimp only;rw[cp.o,em.o]
 have cc:keyC L (set.getD ja 0)=(x1,x2):=by have:=qc.o;unfold titK at this;rw[cp.o]at this;exact this
 have cd:keyC L (set.getD jb 0)=(O,T):=by have:=qe.o;unfold titK at this;rw[em.o]at this;exact this
 have hP:=(at_some cp.o).1;have hQ:=(at_some em.o).1;have fr:=a0.ok.lt hP;have fs:=a0.ok.lt hQ;have b7:=a0.ok.rep ja hP;have b8:=a0.ok.rep jb hQ;have cn:=Z (jp d.ps L set ja jb);obtain⟨a6,hX⟩:=Qe (set.getD ja 0);obtain⟨a7,hY⟩:=Qe (set.getD jb 0);rw[hX]at cc fr b7 cn;rw[hY]at cd fs b8 cn;by_cases hXY:a6=a7
 .have e6:(x1,x2)=(O,T):=by rw[<- cc,<- cd,hXY]
  rw[decide_eq_true e6]at j4;have cl:Hid (cf d.ps L set ((a1,a2),(b1,b2))=set):=by unfold Hid;rw[HE.o,cn.o,if_pos hXY]
  clear hXY e6 hX hY cc cd;go_wp2_with fail;refine v7 (vs rfl _ _ _) rfl ?_;rw[cl.o];exact⟨rfl,a0.o,cv _ ay.o⟩
 have e6:¬((x1,x2)=(O,T)):=λe=>hXY (cO a0.o.srt fr fs (by rw[cc,cd,e]));rw[decide_eq_false e6]at j4;have cl:Hid (cf d.ps L set ((a1,a2),(b1,b2))=if gv d.ps L set a6 a7 then set else mergeS set a6 a7):=by unfold Hid;rw[HE.o,cn.o,if_neg hXY]
 have lf:=Z hXY;have f5:=Z cc;have f6:=Z cd;have ht:=Z b7;have hv:=Z b8;have d0:=Z fr;have d2:=Z fs;clear hXY e6 hX hY cc cd b7 b8 HE cn fr fs hP hQ;go_wp2_with fail;obtain⟨lm,fz,ms,g6,mt⟩:=M.mem;obtain⟨vx,xs,f8,f9,bk⟩:=g6 a6 d0.o ht.o;obtain⟨vy,ys,fb,fc,bl⟩:=g6 a7 d2.o hv.o;have da:ak recB w3 A lm:=fz.block (ay.block _ fz.lt);have hz:w3.ownsRow ml 36 2 vx xs.length (xs.flatMap rkCells):=ai f9 (λg hg=>ay.block g (f9.lt g hg).2);have hA:w3.ownsRow ml 36 2 vy ys.length (ys.flatMap rkCells):=ai fc (λg hg=>ay.block g (fc.lt g hg).2);have se:0<xs.length:=by rw[bk.length_eq];exact List.length_pos_iff.2 (mQ d0.o ht.o)
 have sk:0<ys.length:=by rw[bl.length_eq];exact List.length_pos_iff.2 (mQ d2.o hv.o)
 have oF:xs.length<=5000:=by rw[bk.length_eq];exact ua (kw _ _ _) a0.o.len
 have pb:ys.length<=5000:=by rw[bl.length_eq];exact ua (kw _ _ _) a0.o.len
 obtain⟨gx,cx,rfl,_⟩:=v5 hz se;obtain⟨gy,cy,rfl,_⟩:=v5 hA sk;rw[f5.o]at f8;rw[f6.o]at fb;have op:rkOk (x1,x2):=by rw[<- f5.o];exact a0.o.key a6 d0.o
 have pa:rkOk (O,T):=by rw[<- f6.o];exact a0.o.key a7 d2.o
 have ko:Hid (∀W,Bw w3 W->(r2 93 (g1 (X A)) (.agg #[J U x1,J U x2]) false).run prog W=.ok (fn (X ⟨gx,0,Y⟩) xs.length cx) W):=λW C=>by have:=ak.look (w:=W) (da.block (C.block _ da.lt)) underlying93 (eN W) (x1,x2) op;rw[f8]at this;exact this
 have kq:Hid (∀W,Bw w3 W->(r2 93 (g1 (X A)) (.agg #[J U O,J U T]) false).run prog W=.ok (fn (X ⟨gy,0,Y⟩) ys.length cy) W):=λW C=>by have:=ak.look (w:=W) (da.block (C.block _ da.lt)) underlying93 (eN W) (O,T) pa;rw[fb]at this;exact this
 have le:Hid (∀W,Bw w3 W->ey 0 w3.heap.size W (fn (X ⟨gx,0,Y⟩) xs.length cx) xs):=λW C=>((aN hz).mono (tz _) (nq _)).kept (λq _ hq=>C.block q hq);have lp:Hid (∀W,Bw w3 W->ey 0 w3.heap.size W (fn (X ⟨gy,0,Y⟩) ys.length cy) ys):=λW C=>((aN hA).mono (tz _) (nq _)).kept (λq _ hq=>C.block q hq);have qd:Hid (∀r∈xs,rkOk r):=λr hr=>by obtain⟨i,hi,_,hk⟩:=aV.1 (bk.mem_iff.1 hr);rw[<- hk];exact a0.o.key i hi
 have qf:Hid (∀r∈ys,rkOk r):=λr hr=>by obtain⟨i,hi,_,hk⟩:=aV.1 (bl.mem_iff.1 hr);rw[<- hk];exact a0.o.key i hi
 have t0:Hid (∀r∈xs,∀s∈ys,r≠s):=λr hr s hs e=>by obtain⟨i,hi,h1,hk⟩:=aV.1 (bk.mem_iff.1 hr);obtain⟨j,hj,h2,d8⟩:=aV.1 (bl.mem_iff.1 hs);have:=cO a0.o.srt hi hj (by rw[hk,d8,e]);subst this;exact lf (h1.symm.trans h2)
 have k6:Hid (gv d.ps L set a6 a7=jj d.ps xs ys):=zW a0.cat.ok.ok.ps a0.cat.ok.ok.apart a0.srt bk bl;have bb:Hid (∀W,Bw w3 W->Cl W bt 0 (hb (X ⟨t,0,Y⟩))/\Cl W t 0 (g1 (X f))/\Cl W t 1 (g1 (X A))/\Cl W bc 0 (hb (X ⟨c,0,Y⟩))/\Cl W c 2 (.map m3)/\(Cl W w1.heap.size 0 (J U x1)/\Cl W w1.heap.size 1 (J U x2))/\Cl W D.heap.size 0 (J U O)/\Cl W D.heap.size 1 (J U T)):=λW C=>by have hu:=a0.below C;obtain⟨e0,e1⟩:=dm hu.tb;exact⟨(aa hu.vt 0).trans rfl,e0,e1,(aa hu.vc 0).trans rfl,(aa hu.cat.blk 2).trans rfl,dm ((C.block _ (ae cz.o)).trans cz.o),dm ((C.block _ (ae d1.o)).trans d1.o)⟩
 have kk:Hid (∀W,Bw w3 W->∀q1 q2 q3 q4:Int,pkOk ((q1,q2),q3,q4)->(r2 115 (.map m3) (.agg #[J U q1,J U q2,J U q3,J U q4]) true).run prog W=.ok (.tuple #[.agg #[J U ((findK d.ps ((q1,q2),q3,q4)).getD (0,false)).1,gP ((findK d.ps ((q1,q2),q3,q4)).getD (0,false)).2],gP (findK d.ps ((q1,q2),q3,q4)).isSome]) W):=λW C q1 q2 q3 q4 hq=>by have:=cw.look_ok (w:=W) (a0.below C).cat.ps underlying115 ij ((q1,q2),q3,q4) hq;rw[fF d.ps gE]at this;refine Eq.trans this ?_;cases findK d.ps ((q1,q2),q3,q4)<;>rfl
 obtain⟨k0,k1,k2,k3,k4,_,_⟩:=bb w3 (r1 _ _);have ry:=ko w3.drew (r1 _ w3).drew;have c6:=Z fz;have cq:=Z ms;have eQ:=Z g6;have f4:=Z mt;have po:=Z f8;have pr:=Z f9;have pt:=Z bk;have pv:=Z fb;have px:=Z fc;have py:=Z bl;clear da fz ms g6 mt f8 hz f9 bk fb hA fc bl j4;go_region;go_wp2_with fail;clear ry k0 k1 k2 k3 k4 qo qq qs qt;go_loopw [9,11,12,13,14,55,66] (λ_a _b _c _d _e i _f wr=>∃k:Nat,k<=xs.length/\i=J U k/\Hid (Bw w3 wr)/\Hid (∀r∈xs.take k,∀s∈ys,dF d.ps r s)) (λ_ _ _ _ _ i _ _=>xs.length-(intOf i).toNat)
 case atStart=>exact⟨0,tz _,rfl,(r1 _ w3).drew,λr hr=>by simp at hr⟩
 obtain⟨k,hk,rfl,c4,h9⟩:=hrel;by_cases hlt:k<xs.length
 .obtain⟨b',pf,ls,he,_,ma,e0,e1⟩:=(le wr c4.o).one k hlt;cases he;have c8:Hid (xs[k]∈xs):=v4 hlt;have cs:Hid (∀{P:RK->Prop},(∀a∈xs.take k,P a)->P xs[k]->∀a∈xs.take (k+1),P a):=λh1 h2=>uW hlt h1 h2;obtain⟨r,hr⟩:=Qe (xs[k]);rw[hr]at e0 e1 c8 cs;obtain⟨l,z⟩:=r;dsimp only at e0 e1;rw[v9]at e0 e1;clear hr;have sb:=c4.size;have bw:∀o,Bw w3 (wr.alloc o):=λo=>c4.alloc sb o;have rg:=λo=>(bb _ (bw o)).1;have rk:=λo=>(bb _ (bw o)).2.2.1;have d8:=λo=>(bb _ (bw o)).2.2.2.2.2.2.1;have rl:=λo=>(bb _ (bw o)).2.2.2.2.2.2.2;have rW:=λo=>kq _ (bw o).drew;go_wp2_with fail;go_region;go_wp2_with fail;have gz:Hid (Bw w3 (wr.alloc (ih #[J U l,J U z] 36)).drew):=(bw _).drew;obtain⟨wz,b9⟩:=Qe ((wr.alloc (ih #[J U l,J U z] 36)).drew);have kz:Hid (wz.heap[wr.heap.size]?=X (ih #[J U l,J U z] 36 (0,0))):=by unfold Hid;rw[<- b9];exact mk wr _
  rw[b9]at gz ⊢;have qa:Hid (wr.heap.size<wz.heap.size):=ae kz.o;clear rg rk d8 rl rW bw b9 e0 e1;generalize wr.heap.size=R at*;go_loopw [11,12,13,14,66] (λ_b _c _d _e i wr=>∃m:Nat,m<=ys.length/\i=J U m/\Hid (Bw wz wr)/\Hid (∀s∈ys.take m,dF d.ps (l,z) s)) (λ_ _ _ _ i _=>ys.length-(intOf i).toNat)
  exact⟨0,tz _,rfl,r1 _ _,λs hs=>by simp at hs⟩;obtain⟨m,hm,rfl,ej,ks⟩:=hrel;have ch:Hid (Bw w3 wr):=btr gz.o ej.o gz.size;by_cases hlt2:m<ys.length;rotate_left
  .have ha:Hid (∀s∈ys,dF d.ps (l,z) s):=by have:=ks.o;rw[va (by omega)]at this;exact this
   go_wp2_with fail;go_roundw;exact⟨k+1,by omega,by go_num,ch,cs.o h9.o ha.o⟩;simp[intOf];omega
  obtain⟨b',pf,ls,he,_,ma,e0,e1⟩:=(lp wr ch.o).one m hlt2;cases he;have hd:Hid (ys[m]∈ys):=v4 hlt2;have lb:Hid (∀{P:RK->Prop},(∀a∈ys.take m,P a)->P ys[m]->∀a∈ys.take (m+1),P a):=λh1 h2=>uW hlt2 h1 h2;obtain⟨s,hs⟩:=Qe (ys[m]);rw[hs]at e0 e1 hd lb;obtain⟨E,H⟩:=s;dsimp only at e0 e1;rw[v9]at e0 e1;clear hs;have t7:=ch.size;have gn:Bk wr R #[J U l,J U z] 36:=(ej.block _ qa.o).trans kz.o;have e4:=ae gn;obtain⟨r9,jn⟩:=dm gn;have o3:∀o,(wr.alloc o).cell? ⟨R,0,Y⟩=X (J U l):=λo=>by rw[bf _ _ _ _ e4];exact r9
  have nO:∀o,(wr.alloc o).cell? ⟨R,1,Y⟩=X (J U z):=λo=>by rw[bf _ _ _ _ e4];exact jn
  obtain⟨Wp,fp⟩:=Qe ((wr.alloc (ih #[J U E,J U H] 36)).alloc (ih #[J U l,J U z,J U E,J U H] 134));have hJ:Bw wr Wp:=by rw[<- fp];exact((r1 _ wr).alloc (nq _) _).alloc (by simp) _
  have pe:Wp.heap.size=wr.heap.size+2:=by rw[<- fp];simp
  have lT:Wp.heap[wr.heap.size]?=X (ih #[J U E,J U H] 36 (0,0)):=by rw[<- fp,Below.heap_alloc _ _ _ (by simp)];exact mk wr _
  have lE:Wp.heap[wr.heap.size+1]?=X (ih #[J U l,J U z,J U E,J U H] 134 (0,0)):=by rw[<- fp];have:=mk (wr.alloc (ih #[J U E,J U H] 36)) (ih #[J U l,J U z,J U E,J U H] 134);rwa[World.size_alloc]at this
  have eq:Hid (∀W2,bE Wp W2->Bk W2 (wr.heap.size+1) #[J U l,J U z,J U E,J U H] 134/\Bk W2 wr.heap.size #[J U E,J U H] 36/\Bk W2 R #[J U l,J U z] 36/\Bw wr W2):=λW2 hg=>by have C:=hg.below;exact⟨(C.block _ (by omega)).trans lE,(C.block _ (by omega)).trans lT,(C.block _ (by omega)).trans ((hJ.block _ e4).trans gn),hJ.trans (C.mono (by omega))⟩
  have d3:=Z pe;have sM:=Z e4;obtain⟨v0,v1⟩:=dm (eq Wp (bE.refl _)).2.1;obtain⟨v2,v3⟩:=dm (eq Wp (bE.refl _)).2.2.1;clear hJ pe lT lE e4 gn;have HC:Hid (∀W,Calls prog 49 #[.agg #[J U E,J U H],.agg #[J U l,J U z]] W λe w'=>e=hK (J U (bG (E,H) (l,z)))/\bE W w'):=λW=>eV (E,H) (l,z) W;have aT:(bG (E,H) (l,z)<0)↔ltRK (E,H) (l,z)=true:=eL _ _;have ky:Hid (pkOk (pairK (l,z) (E,H))):=pO (qd _ c8.o) (qf _ hd.o);have c7:Hid (pairK (l,z) (E,H)=if ltRK (E,H) (l,z)then((E,H),(l,z))else((l,z),(E,H))):=rfl;have l4:Hid (dF d.ps (l,z) (E,H)->∀a∈ys.take (m+1),dF d.ps (l,z) a):=λh=>lb ks.o h;have gt:Hid (∀n,findK d.ps (pairK (l,z) (E,H))=X (n,false)->cf d.ps L set ((a1,a2),(b1,b2))=set):=λn hn=>by rw[cl.o,if_pos];rw[k6.o,ji];exact⟨_,c8.o,_,hd.o,n,hn⟩
  by_cases hltc:ltRK (E,H) (l,z)=true
  focus
   have hL:bG (E,H) (l,z)<0:=aT.2 hltc
   rw[if_pos hltc]at c7
   generalize bG (E,H) (l,z)=cm at*
   clear hltc aT
   go_wp2_with (go_at_call 49;go_loud (((with_reducible refine v8 (HC.o _) ?_);rintro e W2⟨rfl,av⟩;obtain⟨g0,N,g2,g5⟩:=eq.o _ av;obtain⟨z0,z1⟩:=dm N;obtain⟨z2,z3⟩:=dm g2;obtain⟨p0,p1,p2,p3⟩:=nB g0;have f0:=ab g0 0;have f1:=ab g0 1;have f2:=ab g0 2;have f3:=ab g0 3;have G0:=Z g0;have G5:=Z g5;clear g0 N g2 g5 av)))
   have b5:Hid ((((((W2.setCell ⟨wr.heap.size+1,0,Y⟩ (J U E)).setCell ⟨wr.heap.size+1,1,Y⟩ (J U H)).setCell ⟨wr.heap.size+1,2,Y⟩ (J U l)).setCell ⟨wr.heap.size+1,3,Y⟩ (J U z))).heap[wr.heap.size+1]?=X (ih #[J U E,J U H,J U l,J U z] 134 (0,0))):=aq (aq (aq (aq G0.o 0 (J U E)) 1 (J U H)) 2 (J U l)) 3 (J U z)
   have eg:Hid (Bw wr ((((W2.setCell ⟨wr.heap.size+1,0,Y⟩ (J U E)).setCell ⟨wr.heap.size+1,1,Y⟩ (J U H)).setCell ⟨wr.heap.size+1,2,Y⟩ (J U l)).setCell ⟨wr.heap.size+1,3,Y⟩ (J U z))):=(((G5.o.setCell (by simp) _).setCell (by simp) _).setCell (by simp) _).setCell (by simp) _
   generalize((((W2.setCell ⟨wr.heap.size+1,0,Y⟩ (J U E)).setCell ⟨wr.heap.size+1,1,Y⟩ (J U H)).setCell ⟨wr.heap.size+1,2,Y⟩ (J U l)).setCell ⟨wr.heap.size+1,3,Y⟩ (J U z))=W3 at*
   clear z0 z1 z2 z3 p0 p1 p2 p3 f0 f1 f2 f3 e0 e1 r9 jn o3 nO v0 v1 v2 v3
   have gO:Hid (∃p1 p2 q1 q2:Int,pairK (l,z) (E,H)=((p1,p2),(q1,q2))/\Bk W3 (wr.heap.size+1) #[J U p1,J U p2,J U q1,J U q2] 134):=⟨E,H,l,z,c7.o,b5.o⟩
   clear c7 b5
  rotate_left
  focus
   have hL:¬(bG (E,H) (l,z)<0):=λhh=>hltc (aT.1 hh)
   rw[if_neg hltc]at c7
   generalize bG (E,H) (l,z)=cm at*
   clear hltc aT
   go_wp2_with (go_at_call 49;go_loud (((with_reducible refine v8 (HC.o _) ?_);rintro e W3⟨rfl,av⟩;obtain⟨g0,N,g2,g5⟩:=eq.o _ av;have b5:=Z g0;have eg:=Z g5;clear g0 N g2 g5 av)))
   clear e0 e1 r9 jn o3 nO v0 v1 v2 v3
   have gO:Hid (∃p1 p2 q1 q2:Int,pairK (l,z) (E,H)=((p1,p2),(q1,q2))/\Bk W3 (wr.heap.size+1) #[J U p1,J U p2,J U q1,J U q2] 134):=⟨l,z,E,H,c7.o,b5.o⟩
   clear c7 b5
  all_goals
   obtain⟨a4,a5,a9,ac,i8,b4⟩:=gO.o
   rw[i8]at ky gt
   have hc:Hid ((∀n,findK d.ps ((a4,a5),(a9,ac))≠X (n,false))->dF d.ps (l,z) (E,H)):=λh=>by unfold dF;rw[i8];exact h
   have b5:=Z b4
   clear i8 b4 gO
   have e9:Hid (Bw w3 W3):=btr ch.o eg.o ch.size
   have hF:=e9.size
   obtain⟨ov,i4⟩:=Qe (findK d.ps ((a4,a5),(a9,ac)))
   have kl:Hid (∀W,Bw W3 W->(r2 115 (.map m3) (.agg #[.int .i64 a4,.int .i64 a5,.int .i64 a9,.int .i64 ac]) true).run prog W=.ok (.tuple #[.agg #[.int .i64 (ov.getD (0,false)).1,.bool (ov.getD (0,false)).2],.bool ov.isSome]) W):=λW C=>by
    rw[<- i4];exact kk.o W (btr e9.o C hF) a4 a5 a9 ac ky.o
   rw[i4]at gt hc
   obtain⟨o1,nn⟩:=Qe ((ov.getD (0,false)).1)
   obtain⟨o2,i1⟩:=Qe ((ov.getD (0,false)).2)
   obtain⟨th,j0⟩:=Qe ov.isSome
   rw[nn,i1,j0]at kl
   have kt:=Z i1
   have la:=Z j0
   clear i4 nn i1 j0
   have pz:Hid (∀W,Bw W3 W->Cl W bc 0 (hb (X ⟨c,0,Y⟩))/\Cl W c 2 (.map m3)/\Cl W (wr.heap.size+1) 0 (J U a4)/\Cl W (wr.heap.size+1) 1 (J U a5)/\Cl W (wr.heap.size+1) 2 (J U a9)/\Cl W (wr.heap.size+1) 3 (J U ac)):=λW C=>by
    obtain⟨_,_,_,N,g2,_⟩:=bb W (btr e9.o C hF)
    exact⟨N,g2,nB ((C.block _ (ae b5.o)).trans b5.o)⟩
   have dy:Bw W3 W3.drew:=(r1 _ W3).drew
   refine Wb W3 11 ?_
   have B:=tkL [0,4,1,2,3]
   repeat(refine tkI B ?_ rfl dy ?_ ?_;rotate_left;intro w' h;obtain⟨h0,h1,h2,h3,h4,h5⟩:=pz w' h;go_simp;rfl;(try go_simp);replace B:=tkO B)
   clear B
   refine Qb [5] dy kl ?_
   have B:=tkL [6,7,8]
   repeat(refine tkI B ?_ rfl dy ?_ ?_;rotate_left;intro w' h;go_simp;rfl;(try go_simp);replace B:=tkO B)
   clear B
   refine Dp 9 λK b=>?_
   go_simp
   have ad:∀o,Bw W3 (W3.drew.alloc o):=λo=>dy.alloc (nq _) o
   refine b _ _ (λ_=>ad _) ?_
   clear b K
   refine Dp 10 λK b=>?_
   go_simp
   have au:∀o,Bw W3 (W3.alloc o).drew:=λo=>((r1 _ W3).alloc (nq _) o).drew
   refine b _ _ (λ_=>au _) ?_
   clear b K
   refine Dp 11 λK b=>?_
   go_simp
   refine b _ _ (λh=>absurd rfl h) ?_
   clear b K
   refine dN ?_
   obtain⟨W4,fl⟩:=Qe ((W3.alloc (ih #[J U o1,gP o2] 139)).drew)
   have lB:W4.heap[W3.heap.size]?=X (ih #[J U o1,gP o2] 139 (0,0)):=by rw[<- fl];exact mk W3 _
   have hI:Bw W3 W4:=by rw[<- fl];exact au _
   rw[fl]
   obtain⟨t3,t4⟩:=dm lB
   have k7:Hid (Bw w3 W4):=btr e9.o hI hF
   have k8:Hid (Bw wz W4):=btr ej.o (btr eg.o hI eg.size) ej.size
   clear ad au fl lB hI dy
   cases th
   .have HN:Hid (dF d.ps (l,z) (E,H)):=hc (λn=>by
     have:=la.o
     cases ov with
     |none=>simp
     |some v=>cases this)
    go_wp2_with fail
    go_roundw
    case rel=>exact⟨m+1,by omega,by go_num,k8,l4.o HN.o⟩
    case measure=>simp[intOf];omega
   .cases o2
    .obtain⟨v,rfl⟩:∃v,ov=X v:=Option.isSome_iff_exists.1 la.o
     have HR:Hid (cf d.ps L set ((a1,a2),(b1,b2))=set):=gt v.1 (by
      have:=kt.o
      obtain⟨v1,v2⟩:=v
      simp at this
      rw[this])
     go_wp2_with fail
     refine v7 (vs rfl _ _ _) rfl ?_
     rw[HR.o]
     exact⟨rfl,a0.below k7.o,cv _ (btr ay.o k7.o ay.size)⟩
    .have HN:Hid (dF d.ps (l,z) (E,H)):=hc (λn hn=>by
      have:=kt.o
      rw[hn]at this
      cases this)
     go_wp2_with fail
     go_roundw
     case rel=>exact⟨m+1,by omega,by go_num,k8,l4.o HN.o⟩
     case measure=>simp[intOf];omega
 skip;have m5:jj d.ps xs ys=false:=qF (by have:=h9.o;rw[va (by omega)]at this;exact this);have kb:Hid (cf d.ps L set ((a1,a2),(b1,b2))=mergeS set a6 a7):=by unfold Hid;rw[cl.o,k6.o,m5];rfl
 have k9:Hid (Bw w1 wr):=btr ay.o c4.o ay.size;have b7:Bk wr w1.heap.size #[J U x1,J U x2] 36:=(c4.block _ (ae cz.o)).trans cz.o;have b8:Bk wr D.heap.size #[J U O,J U T] 36:=(c4.block _ (ae d1.o)).trans d1.o;have lk:Hid (∀W,Bw wr W->Bk W w1.heap.size #[J U x1,J U x2] 36/\Bk W D.heap.size #[J U O,J U T] 36/\Bw w1 W):=λW C=>⟨(C.block _ (ae b7)).trans b7,(C.block _ (ae b8)).trans b8,btr k9.o C k9.size⟩;obtain⟨pi,pj⟩:=dm b7;obtain⟨pk,pl⟩:=dm b8;have HC:Hid (∀W,Calls prog 49 #[.agg #[J U O,J U T],.agg #[J U x1,J U x2]] W λe w'=>e=hK (J U (bG (O,T) (x1,x2)))/\bE W w'):=λW=>eV (O,T) (x1,x2) W;have aT:(bG (O,T) (x1,x2)<0)↔ltRK (O,T) (x1,x2)=true:=eL _ _;have fy:ltRK (O,T) (x1,x2)=true↔a7<a6:=by rw[<- f5.o,<- f6.o];exact mx a0.o.srt d2.o d0.o
 clear b7 b8 h9 cl le lp ko kq bb kk m5;have l5:Hid (Sd L set lm w1 ml a6 x1 x2 gx cx xs):=⟨po.o,pr.o,pt.o,op,f5.o,d0.o,ht.o,oF⟩;have l6:Hid (Sd L set lm w1 ml a7 O T gy cy ys):=⟨pv.o,px.o,py.o,pa,f6.o,d2.o,hv.o,pb⟩;by_cases hltc:ltRK (O,T) (x1,x2)=true
 focus
  have hL:bG (O,T) (x1,x2)<0:=aT.2 hltc
  have ao:Hid (a7<a6):=fy.1 hltc
  generalize bG (O,T) (x1,x2)=cm at*
  clear hltc aT fy
  have lv:¬(w1.heap.size=D.heap.size):=by have:=hw.o;omega
  have qx:¬(D.heap.size=w1.heap.size):=λe=>lv e.symm
  go_wp2_with (go_at_call 49;go_loud (((with_reducible refine v8 (HC.o _) ?_);rintro e W2⟨rfl,av⟩;obtain⟨g0,N,g5⟩:=lk.o _ av.below;obtain⟨z0,z1⟩:=dm g0;obtain⟨z2,z3⟩:=dm N;have f0:=ab g0 0;have f1:=ab g0 1;have f2:=ab N 0;have f3:=ab N 1;have G0:=Z g0;have G1:=Z N;have G5:=Z g5;clear g0 N g5 av)))
  obtain⟨I,d5⟩:=Qe ((((W2.setCell ⟨w1.heap.size,0,Y⟩ (J U O)).setCell ⟨w1.heap.size,1,Y⟩ (J U T)).setCell ⟨D.heap.size,0,Y⟩ (J U x1)).setCell ⟨D.heap.size,1,Y⟩ (J U x2))
  have bd:Hid (I.heap[w1.heap.size]?=X (ih #[J U O,J U T] 36 (0,0))):=by
   unfold Hid
   rw[<- d5,uc _ _ _ _ (by simp;omega),uc _ _ _ _ (by simp;omega)]
   exact aq (aq G0.o 0 (J U O)) 1 (J U T)
  have b6:Hid (I.heap[D.heap.size]?=X (ih #[J U x1,J U x2] 36 (0,0))):=by
   unfold Hid
   rw[<- d5]
   have g9:((W2.setCell ⟨w1.heap.size,0,Y⟩ (J U O)).setCell ⟨w1.heap.size,1,Y⟩ (J U T)).heap[D.heap.size]?=X (ih #[J U O,J U T] 36 (0,0)):=by
    rw[uc _ _ _ _ (by simp;omega),uc _ _ _ _ (by simp;omega)];exact G1.o
   exact aq (aq g9 0 (J U x1)) 1 (J U x2)
  have aC:Hid (Bw w1 I):=by
   unfold Hid
   rw[<- d5]
   have:=hw.o
   exact(((G5.o.setCell (by simp) _).setCell (by simp) _).setCell (by simp;omega) _).setCell (by simp;omega) _
  rw[d5]
  clear d5 z0 z1 z2 z3 f0 f1 f2 f3 pi pj pk pl lv qx
  have h7:Hid (Bn L set lm w1 D ml I (cf d.ps L set ((a1,a2),(b1,b2)))):=⟨a7,a6,O,T,x1,x2,gy,cy,ys,gx,cx,xs,l6.o,l5.o,ao.o,kb.trans (ue set a6 a7),bd.o,b6.o⟩
  clear bd b6 ao
 rotate_left
 focus
  have hL:¬(bG (O,T) (x1,x2)<0):=λhh=>hltc (aT.1 hh)
  have ao:Hid (a6<a7):=by
   unfold Hid
   have h1:¬a7<a6:=λh=>hltc (fy.2 h)
   have h2:=lf.o
   omega
  generalize bG (O,T) (x1,x2)=cm at*
  clear hltc aT fy
  go_wp2_with (go_at_call 49;go_loud (((with_reducible refine v8 (HC.o _) ?_);rintro e I⟨rfl,av⟩;obtain⟨g0,N,g5⟩:=lk.o _ av.below;have bd:=Z g0;have b6:=Z N;have aC:=Z g5;clear g0 N g5 av)))
  clear pi pj pk pl
  have h7:Hid (Bn L set lm w1 D ml I (cf d.ps L set ((a1,a2),(b1,b2)))):=⟨a6,a7,x1,x2,O,T,gx,cx,xs,gy,cy,ys,l5.o,l6.o,ao.o,kb.o,bd.o,b6.o⟩
  clear bd b6 ao
 all_goals
  obtain⟨iP,iQ,a4,a5,a9,ac,V,cP,lP,gQ,cQ,lQ,iD,iF,mp,d6,oj,p5⟩:=h7.o
  have a3:=Z iD
  have a8:=Z iF
  have ao:=Z mp
  have pn:=Z d6
  have bd:=Z oj
  have b6:=Z p5
  have oF:=iD.len
  have pb:=iF.len
  clear iD iF mp d6 oj p5 h7
  obtain⟨i0,hi,oN,oR,p4⟩:=info_parts i36
  have al:=M.below aC.o
  have bY:ak recB I A lm:=c6.block (aC.block _ c6.lt)
  have hM:ml<=V/\V<w1.heap.size:=a3.s2.lt V rfl
  have r8:ml<=gQ/\gQ<w1.heap.size:=a8.s2.lt gQ rfl
  have i7:¬((a4,a5)=((a9,ac):RK)):=λe2=>by
   have:=cO a0.o.srt a3.o.lt a8.o.lt (by rw[a3.o.key,a8.o.key,e2])
   have h2:=ao.o
   omega
  have me:V≠gQ:=λe=>f4.o _ _ _ _ a3.o.s1 a8.o.s1 i7 (by simp[tO,e])
  have dz:I.ownsRow ml 36 2 (fn (X ⟨V,0,Y⟩) lP.length cP) lP.length (lP.flatMap rkCells):=ai a3.s2 (λg hg=>aC.block g (a3.s2.lt g hg).2)
  have gp:I.ownsRow ml 36 2 (fn (X ⟨gQ,0,Y⟩) lQ.length cQ) lQ.length (lQ.flatMap rkCells):=ai a8.s2 (λg hg=>aC.block g (a8.s2.lt g hg).2)
  have nf:A<w1.heap.size:=c6.lt
  have ax:A≠bt/\A≠t/\A≠V/\A≠gQ:=by
   obtain⟨cu,b0⟩:=aH dz rfl
   obtain⟨t2,r0⟩:=aH gp rfl
   exact⟨aj bY al.vt,aj bY al.tb,aj bY b0,aj bY r0⟩
  have bA:V≠bt/\V≠t:=by
   obtain⟨cu,b0⟩:=aH dz rfl
   exact⟨dp b0 al.vt (by decide),dp b0 al.tb (by decide)⟩
  have oc:=aC.size
  have sl:w1.heap.size<D.heap.size:=by have:=hw.o;omega
  have c5:Hid (∀W:up,(∀q,q=bt∨q=t∨q=w1.heap.size∨q=D.heap.size->W.heap[q]?=I.heap[q]?)->Cl W bt 0 (hb (X ⟨t,0,Y⟩))/\Cl W t 1 (g1 (X A))/\(Cl W w1.heap.size 0 (J U a4)/\Cl W w1.heap.size 1 (J U a5))/\(Cl W D.heap.size 0 (J U a9)/\Cl W D.heap.size 1 (J U ac))/\Cl W t 0 (g1 (X f))):=λW hW=>by
   have N:=(hW bt (.inl rfl)).trans al.vt
   have g2:=(hW t (.inr (.inl rfl))).trans al.tb
   exact⟨(aa N 0).trans rfl,(dm g2).2,dm ((hW _ (.inr (.inr (.inl rfl)))).trans bd.o),dm ((hW _ (.inr (.inr (.inr rfl)))).trans b6.o),(dm g2).1⟩
  have i6:rkOk (a4,a5):=a3.ok
  have nF:rkOk (a9,ac):=a8.ok
  have rx:(r2 93 (g1 (X A)) (.agg #[J U a9,J U ac]) false).run prog I.drew=.ok (fn (X ⟨gQ,0,Y⟩) lQ.length cQ) I.drew:=by
   have:=ak.look (w:=I.drew) (ak.drew bY) underlying93 (eN I.drew) (a9,ac) nF
   rw[a8.o.s1]at this;exact this
  have rs:lm.length<=5000:=ua (pP c6.o (λk hk=>by
   obtain⟨t',h1,_,h3⟩:=(cq k).1 hk
   rw[<- h3,eX M.o.srt h1];rfl)) M.o.len
  obtain⟨st,qv,qn,iv,m7,gd,og⟩:=ak.entry (w:=I.drew) (ak.drew bY) gV underlying93 eN (a4,a5) i6 (by unfold maxLen;omega)
  rw[a3.o.s1]at iv
  have hC:=c5 I.drew (λ_ _=>rfl)
  go_wp2_with fail
  refine wT (λW=>Cl W bt 0 (hb (X ⟨t,0,Y⟩))/\Cl W t 1 (g1 (X A))/\(Cl W w1.heap.size 0 (J U a4)/\Cl W w1.heap.size 1 (J U a5))/\(Cl W D.heap.size 0 (J U a9)/\Cl W D.heap.size 1 (J U ac))/\Cl W t 0 (g1 (X f))) 15 ?_
  have B:=tkL [0,4,5,9,1,6,2,7,3,8]
  repeat(refine tkI B ?_ rfl hC ?_ ?_;rotate_left;intro w' h;obtain⟨h0,h1,⟨h2,h3⟩,⟨h4,h5⟩,_⟩:=h;go_simp;rfl;(try go_simp);replace B:=tkO B)
  clear B
  refine Dp 10 λK b=>?_
  go_simp
  refine b _ _ (λ_=>hC) ?_
  clear b K
  refine Dp 11 λK b=>?_
  refine bF rfl iv ?_
  generalize hw6:Go.ChangeMaps.setBlock I.drew A (.map qv qn)=w6 at*
  have c9:∀q,q≠A->w6.heap[q]?=I.heap[q]?:=λq hq=>gd.block q hq
  have so:w6.heap.size=I.heap.size:=gd.size
  have hD:=c5.o w6 (λq hq=>c9 q (by rcases hq with rfl|rfl|rfl|rfl;exact ax.1.symm;exact ax.2.1.symm;omega;omega))
  refine b _ _ (λ_=>hD) ?_
  clear b K
  go_simp
  have B:=tkL [12,14]
  repeat(refine tkI B ?_ rfl hD ?_ ?_;rotate_left;intro w' h;go_simp;rfl;(try go_simp);replace B:=tkO B)
  clear B
  obtain⟨gb,d4,w7,it,dk,bB,md⟩:=bu (P:=prog) w6 ml 52 52 36 i0 _ 2 16 underlying52 hi oN oR p4 rfl (by decide) V lP.length cP (lP.flatMap rkCells) (ai dz (λg hg=>c9 g (by simp[tO]at hg;omega))) I.heap.size (fn (X ⟨gQ,0,Y⟩) lQ.length cQ) lQ.length (lQ.flatMap rkCells) (((aN gp).mono (tz _) (nq _)) |> λh=>(aN (ai gp (λg hg=>c9 g (by simp[tO]at hg;omega)))).mono (tz _) (by omega)) (pG lQ) (vj lQ) (by unfold maxLen;omega) (by omega) (by have:=ex.o.1;have:=c0.o.size;omega)
  obtain⟨zs,e7⟩:=Qe (lP++lQ)
  have pd:lP.length+lQ.length=zs.length:=by rw[<- e7];simp
  have d6:lP.flatMap rkCells++lQ.flatMap rkCells=zs.flatMap rkCells:=by rw[<- e7,List.flatMap_append]
  rw[pd]at it dk
  rw[d6]at dk
  have d3:Hid (zs.Perm (be L (mergeS set iP iQ) iP)):=by
   have:=xA M.o.srt M.o.ok.len (show iP≠iQ fromλe=>by have:=ao.o;omega) a3.o.s3 a8.o.s3
   rw[e7,v6 (wa ao.o)]at this
   exact this
  have t8:zs.length<=10000:=by omega
  have t1:=Z e7
  clear e7 d6
  refine Dp 13 λK b=>?_
  refine iJ rfl rfl rfl it ?_
  have d9:∀q,q<w6.heap.size->q≠V->w7.heap[q]?=w6.heap[q]?:=λq hq hZ=>bB.block q hq (λe=>hZ (by injection e))
  have lx:D.heap.size<I.heap.size:=ae b6.o
  have mb:bt<I.heap.size:=ae al.vt
  have oi:t<I.heap.size:=ae al.tb
  have m4:=c5.o w7 (λq hq=>(d9 q (by rcases hq with rfl|rfl|rfl|rfl<;>omega) (by rcases hq with rfl|rfl|rfl|rfl;exact bA.1.symm;exact bA.2.symm;omega;omega)).trans (c9 q (by rcases hq with rfl|rfl|rfl|rfl;exact ax.1.symm;exact ax.2.1.symm;omega;omega)))
  refine b _ _ (λ_=>m4) ?_
  clear b K
  obtain⟨w8,o5,mv,dd⟩:=og w7 (fn (X ⟨gb,0,Y⟩) zs.length d4) ((d9 A (by omega) ax.2.2.1).trans m7)
  refine Dp 15 λK b=>?_
  refine bj rfl o5 ?_
  refine b _ _ (λh=>absurd rfl h) ?_
  clear b K
  refine dN ?_
  have mf:az A I w6:=(az.refl A I).drew.trans gd
  have iN:ah (λq=>q=f∨q=A∨q=V) I (λq=>q=f∨q=A∨q=V) w8:=
   ((ah.of_only mf (.inr (.inl rfl))).trans (⟨bB.os,bB.tape,bB.output,bB.size,λk hk hn=>d9 k hk (λe=>hn (.inr (.inr e))),λ_ h=>.inl h⟩:ah _ w6 _ w7)).trans (ah.of_only dd (.inr (.inl rfl)))
  have ft:gb=V∨I.heap.size<=gb:=by rcases md with e|e;exact .inl e;right;omega
  obtain⟨e8,dc,mn⟩:=al.of
  have b3:f≠bt/\f≠t/\f≠A:=⟨aj dc al.vt,aj dc al.tb,al.ne⟩
  have n0:f<w1.heap.size:=by obtain⟨l1,N,_⟩:=M.of;exact N.lt
  have g8:f≠V:=by
   obtain⟨cu,b0⟩:=aH dz rfl
   exact aj dc b0
  have hV:f≠gb:=by rcases ft with e|e;rw[e];exact g8;omega
  have sp:w6.heap.size<=w7.heap.size:=bB.size
  have ss:w8.heap.size=w7.heap.size:=dd.size
  have r4:gb<w7.heap.size:=(dk.lt gb rfl).2
  have g7:A≠gb:=by rcases ft with e|e;rw[e];exact ax.2.2.1;omega
  obtain⟨w9,o4,hT,nx⟩:=ak.del_run (w:=w8.drew) (ak.drew mv) underlying93 (a9,ac) nF 0
  have d7:az A w8 w9:=(az.refl A w8).drew.trans nx
  have iS:ah (λq=>q=f∨q=A∨q=V) I (λq=>q=f∨q=A∨q=V) w9:=iN.trans (ah.of_only d7 (.inr (.inl rfl)))
  have gq:ah (λq=>q=f∨q=A∨q=V) I (λq=>q=f∨q=A∨q=V) w9.drew:=iS.trans (ah.of_below (r1 _ w9).drew)
  have gf:w9.drew.ownsRow ml 36 2 (fn (X ⟨gb,0,Y⟩) zs.length d4) zs.length (zs.flatMap rkCells):=ai dk (λg hg=>by
   simp only[tO,vb]at hg
   subst hg
   exact(d7.block _ (λe=>g7 e.symm)).trans (dd.block _ (λe=>g7 e.symm)))
  have gi:∀q,q=bt∨q=t∨q=w1.heap.size∨q=D.heap.size->q<I.heap.size/\q≠f/\q≠A/\q≠V:=λq hq=>by
   rcases hq with rfl|rfl|rfl|rfl
   .exact⟨mb,b3.1.symm,ax.1.symm,bA.1.symm⟩
   .exact⟨oi,b3.2.1.symm,ax.2.1.symm,bA.2.symm⟩
   .exact⟨by omega,by omega,by omega,by omega⟩
   .exact⟨lx,by omega,by omega,by omega⟩
  have bs:=c5 w8.drew (λq hq=>by obtain⟨N,g2,g3,g4⟩:=gi q hq;exact iN.block q N (by rintro(e|e|e);exact g2 e;exact g3 e;exact g4 e))
  have qy:=c5 w9 (λq hq=>by obtain⟨N,g2,g3,g4⟩:=gi q hq;exact iS.block q N (by rintro(e|e|e);exact g2 e;exact g3 e;exact g4 e))
  have rt:(r2 93 (g1 (X A)) (.agg #[J U a4,J U a5]) false).run prog w9.drew=.ok (fn (X ⟨gb,0,Y⟩) zs.length d4) w9.drew:=by
   have:=ak.look (w:=w9.drew) (ak.drew hT) underlying93 (eN w9.drew) (a4,a5) i6
   rw[mu,if_neg i7,dC,if_pos rfl]at this;exact this
  have s4:ak recB w9.drew f e8:=dc.block (by
   have e1:w9.drew.heap[f]?=w8.heap[f]?:=d7.block f b3.2.2
   exact e1.trans ((dd.block f b3.2.2).trans ((d9 f (by omega) g8).trans (c9 f b3.2.2))))
  have ka:Hid (∀W,ah (λq=>q=f) w9.drew (λq=>q=f) W->(Cl W bt 0 (hb (X ⟨t,0,Y⟩))/\Cl W t 0 (g1 (X f))/\(Cl W w1.heap.size 0 (J U a4)/\Cl W w1.heap.size 1 (J U a5)))/\ey 0 W.heap.size W (fn (X ⟨gb,0,Y⟩) zs.length d4) zs):=λW C=>by
   have sm:=gq.size
   obtain⟨N,g2,g3,g4,g5⟩:=c5 W (λq hq=>by
    obtain⟨N,g2,g3,g4⟩:=gi q hq
    exact(C.block q (by omega) g2).trans (gq.block q N (by rintro(e|e|e);exact g2 e;exact g3 e;exact g4 e)))
   exact⟨⟨N,g5,g3⟩,(aN (ai gf (λg hg=>C.block g (gf.lt g hg).2 (by
    simp only[tO,vb]at hg
    subst hg
    exact hV.symm)))).mono (tz _) (nq _)⟩
  have kd:=Z mn
  have q5:=Z hT
  have l3:=Z gq
  have kx:=Z gf
  have sC:=Z d7
  have q6:Hid (f≠A/\f≠V/\f≠gb/\A≠gb/\(gb=V∨I.heap.size<=gb)/\f≠bt/\f≠t/\A≠bt/\A≠t/\V≠bt/\V≠t/\V≠gQ/\f<w1.heap.size/\A<w1.heap.size/\V<w1.heap.size/\ml<=V/\w1.heap.size<=I.heap.size/\bt<w1.heap.size/\t<w1.heap.size):=⟨b3.2.2,g8,hV,g7,ft,b3.1,b3.2.1,ax.1,ax.2.1,bA.1,bA.2,me,n0,nf,hM.2,hM.1,oc,ae M.vt,ae M.tb⟩
  have t6:=i6
  clear iN iS gq gf d7 mf gi hT nx rx iv dz gp bY al ax bA hM r8 me b3 n0 g8 hV g7 ft md c9 d9 so sp ss r4 hC hD m4 m7 gd og dk bB it o5 mv dd mn hi oN oR p4 lx mb oi sl oc nf dc rs pd
  go_wp2_with fail
  obtain⟨z0,z1,z2,z3,z4⟩:=id bs
  refine wT (λW=>Cl W bt 0 (hb (X ⟨t,0,Y⟩))/\Cl W t 1 (g1 (X A))/\(Cl W w1.heap.size 0 (J U a4)/\Cl W w1.heap.size 1 (J U a5))/\(Cl W D.heap.size 0 (J U a9)/\Cl W D.heap.size 1 (J U ac))/\Cl W t 0 (g1 (X f))) 5 ?_
  refine Qb [4] bs (λw' h=>h) ?_
  refine Dp 0 λK b=>?_
  go_simp
  refine b _ _ (λ_=>bs) ?_
  clear b K
  refine Dp 1 λK b=>?_
  go_simp
  refine b _ _ (λ_=>bs) ?_
  clear b K
  refine Dp 2 λK b=>?_
  go_simp
  refine b _ _ (λ_=>bs) ?_
  clear b K
  refine Qb [3] bs (λw' h=>h) ?_
  refine Dp 5 λK b=>?_
  refine tg rfl rfl rfl o4 ?_
  refine b _ _ (λh=>absurd rfl h) ?_
  clear b K
  refine dN ?_
  clear z0 z1 z2 z3 z4 bs o4
  go_wp2_with fail
  obtain⟨z0,z1,⟨z2,z3⟩,⟨z4,z5⟩,z6⟩:=qy
  go_simp
  go_big_region
  go_wp2_with fail
  clear z0 z1 z2 z3 z4 z5 z6 rt
  go_loopw [16,130] (λ_x i wr=>∃m:Nat,m<=zs.length/\i=J U m/\Hid (ah (λq=>q=f) w9.drew (λq=>q=f) wr)/\Hid (∃l2,ak recB wr f l2/\∀k,lookL l2 k=if k∈zs.take m then X (recK (a4,a5))else lookL e8 k)) (λ_ i _=>zs.length-(intOf i).toNat)
  case atStart=>exact⟨0,tz _,rfl,ah.refl _ _,e8,s4,λk=>by simp⟩
  case round=>
   obtain⟨m,hm,rfl,ho,kc⟩:=hrel
   by_cases hlt3:m<zs.length
   .obtain⟨_,ob⟩:=ka wr ho.o
    obtain⟨b',pf,ls,he,_,ma,e0,e1⟩:=ob.one m hlt3
    cases he
    have c8:Hid (zs[m]∈zs):=v4 hlt3
    have cs:Hid (zs.take (m+1)=zs.take m++[zs[m]]):=vN hlt3
    obtain⟨r,hr⟩:=Qe (zs[m])
    rw[hr]at e0 e1 c8 cs
    obtain⟨l,z⟩:=r
    dsimp only at e0 e1
    rw[v9]at e0 e1
    clear hr ob
    have ad:Bw wr (wr.alloc (ih #[J U l,J U z] 36)).drew:=((r1 _ wr).alloc (nq _) _).drew
    obtain⟨wz,b9⟩:=Qe ((wr.alloc (ih #[J U l,J U z] 36)).drew)
    have hnew:wz.heap[wr.heap.size]?=X (ih #[J U l,J U z] 36 (0,0)):=by rw[<- b9];exact mk wr _
    rw[b9]at ad
    have l7:Hid (ah (λq=>q=f) w9.drew (λq=>q=f) wz):=ho.trans (ah.of_below ad)
    obtain⟨⟨g0,N,g2,g3⟩,_⟩:=ka wz l7.o
    obtain⟨g4,g5⟩:=dm hnew
    obtain⟨l2,fx,hR⟩:=kc.o
    have s8:rkOk (l,z):=by
     obtain⟨i,hi,_,hk⟩:=aV.1 (d3.mem_iff.1 c8.o)
     rw[<- hk];exact M.o.key i hi
    have rr:l2.length<=5000:=ua (pP fx (λk hk=>by
     rw[hR]at hk
     split at hk
     .rename_i d8
      obtain⟨i,hi,_,ra⟩:=aV.1 (d3.mem_iff.1 (List.mem_of_mem_take d8))
      rw[<- ra,eX M.o.srt hi];rfl
     .rw[kd.o]at hk
      simpa using hk)) M.o.len
    obtain⟨wu,oa,nb,ny⟩:=ak.put_run (w:=wz) (fx.block (ad.block _ fx.lt)) underlying92 (by unfold maxLen;omega) (l,z) s8 (recK (a4,a5))
    have q7:Hid (ah (λq=>q=f) w9.drew (λq=>q=f) wu):=l7.trans (ah.of_only ny rfl)
    have q0:Hid (∃l2,ak recB wu f l2/\∀k,lookL l2 k=if k∈zs.take (m+1)then X (recK (a4,a5))else lookL e8 k):=⟨_,nb,λk=>by
     rw[dC,hR,cs.o]
     by_cases e:k=(l,z)
     .rw[if_pos e,if_pos (by rw[e];simp)]
     .rw[if_neg e]
      by_cases e2:k∈zs.take m
      .rw[if_pos e2,if_pos (List.mem_append_left _ e2)]
      .rw[if_neg e2,if_neg (by simp[e,e2])]⟩
    clear ad hnew fx hR nb ny rr
    go_wp2_with fail
    refine wT (λW=>W=wz) 6 ?_
    rw[b9]
    have B:=tkL [0,4,5,1,2,3]
    repeat(refine tkI B ?_ rfl rfl ?_ ?_;rotate_left;intro w' h;obtain rfl:=h;go_simp;rfl;(try go_simp);replace B:=tkO B)
    clear B
    refine Dp 6 λK b=>?_
    refine fQ rfl oa ?_
    refine b _ _ (λh=>absurd rfl h) ?_
    clear b K
    refine dN ?_
    clear b9 g0 N g2 g3 g4 g5 e0 e1 oa
    go_wp2_with fail
    go_roundw
    case rel=>exact⟨m+1,by omega,by go_num,q7,q0⟩
    case measure=>simp[intOf];omega
   .have ha:Hid (∃l2,ak recB wr f l2/\∀k,lookL l2 k=if k∈zs then X (recK (a4,a5))else lookL e8 k):=by
     obtain⟨l2,q1,q2⟩:=kc.o
     rw[va (by omega)]at q2
     exact⟨l2,q1,q2⟩
    go_wp2_with fail
    refine bodyPost_end (vs rfl _ _ _) rfl ?_
    rw[pn.o]
    obtain⟨l2,q1,q2⟩:=ha.o
    obtain⟨n1,n2,n3,n4,n5,n6,n7,n8,n9,su,sx,tc,td,te,tl,tr,ts,tt,tx⟩:=q6.o
    have aS:=M.below aC.o
    have hS:=ho.o
    have m0:=l3.trans (hS.widen (G:=λq=>q=f∨q=A∨q=V) (λk h=>.inl h))
    have sm:=l3.size
    have t9:=hS.size
    have HQ:∀q,q<I.heap.size->q≠f->q≠A->q≠V->wr.heap[q]?=I.heap[q]?:=λq N g2 g3 g4=>m0.block q N (by rintro(e|e|e);exact g2 e;exact g3 e;exact g4 e)
    obtain⟨ta,mP,_⟩:=M.of
    obtain⟨cu,b0⟩:=aH a3.s2 rfl
    have c1:f≠bc:=aj mP M.vc
    have c2:A≠bc:=aj c6.o M.vc
    have c3:V≠bc:=dp b0 M.vc (by decide)
    have bO:=M.los
    have cb:min iP iQ=iP:=v6 (wa ao.o)
    have s0:max iP iQ=iQ:=Nat.max_eq_right (wa ao.o)
    have hZ:iP≠iQ:=λe=>by have:=ao.o;omega
    refine⟨rfl,⟨(HQ bt (ae aS.vt) n6.symm n8.symm su.symm).trans aS.vt,(HQ bc (ae aS.vc) c1.symm c2.symm c3.symm).trans aS.vc,(HQ t (ae aS.tb) n7.symm n9.symm sx.symm).trans aS.tb,⟨l2,q1,yP M.o.srt M.o.ok kd.o (zs:=zs) (by rw[cb];exact d3.o) (by rw[cb,a3.o.key];exact q2)⟩,
     wI M.o.srt M.o.ok hZ a3.o.lt a8.o.lt a3.o.rep a8.o.rep cq.o eQ.o f4.o (v:=fn (X ⟨gb,0,Y⟩) zs.length d4) (zs:=zs) (q5.o.block (hS.block A (by omega) n1.symm)) ?hl (ai kx.o (λg hg=>hS.block g (kx.o.lt g hg).2 (by
      simp only[tO,vb]at hg
      subst hg
      exact n3.symm))) (by rw[cb];exact d3.o) ?hkeep ?hnew,
     aS.cat.step (λk hf=>HQ k (aS.cat.lt k hf) (by have:=M.o.lof k hf;omega) (by have:=M.o.lof k hf;omega) (by have:=M.o.lof k hf;omega)) (by omega),aS.ne,?los,aS.lof,M.o.ok.merge a3.o.lt a8.o.lt a3.o.rep a8.o.rep,M.o.srt,M.o.key,M.o.len⟩,?bel⟩
    case hl=>
     intro k
     rw[cb,s0,a3.o.key,a8.o.key,mu,dC]
     by_cases e:k=(a4,a5)
     .rw[if_neg (λe2=>i7 (e.symm.trans e2)),if_pos e,if_pos e]
     .rw[if_neg e,if_neg e]
    case hkeep=>
     intro k u k1 k2 hu g hg
     rw[cb,a3.o.key]at k1
     obtain⟨f1,f2⟩:=ly cq.o eQ.o hu g hg
     have f3:g≠V:=λe=>f4.o _ _ _ _ hu a3.o.s1 k1 (by rw[hg,e];rfl)
     obtain⟨t',sa,sz,rc⟩:=(cq.o k).1 (by rw[hu];rfl)
     obtain⟨v',ty,gs,s6,_⟩:=eQ t' sa sz
     rw[rc,hu]at gs
     injection gs with gs
     subst gs
     obtain⟨cg,mc⟩:=aH s6 hg
     exact(HQ g (by omega) (aj mP mc).symm (aj c6.o mc).symm f3).trans (aC.o.block g f2)
    case hnew=>
     intro k u k1 hu
     rw[cb,a3.o.key]at k1
     intro e
     have e2:u.ownBlock=X gb:=e.symm
     obtain⟨f1,f2⟩:=ly cq.o eQ.o hu gb e2
     rcases n5 with e3|e3
     .exact f4.o _ _ _ _ hu a3.o.s1 k1 (by rw[e2,e3];rfl)
     .omega
    case los=>exact⟨bO.1,bO.2.1,bO.2.2.1,bO.2.2.2.1,bO.2.2.2.2.1,by have:=h8.o;have:=c0.o.size;omega,ex.o.2,by have:=ex.o.1;have:=c0.o.size;omega⟩
    case bel=>
     have t5:=ex.o
     have qz:=c0.size
     refine⟨(cv.o _ aC.o).1.trans (m0.below (λk hk=>by rcases hk with rfl|rfl|rfl;exact bO.2.2.2.1;exact bO.2.2.2.2.1;omega) (by omega)).1,λq hq q1 q2 q3=>?_⟩
     have s5:q<w1.heap.size:=Nat.lt_of_lt_of_le hq qz
     refine((HQ q (by omega) q1 q2 (λe=>?_)).trans (aC.o.block q s5)).trans (c0.o.block q hq)
     rcases q3 with q3|q3
     .omega
     .refine q3 cu ?_
      rw[<- c0.o.block q hq,e]
      exact b0
end
end Go.Proofs.YtjcimanddakkaaaGreatDoor
