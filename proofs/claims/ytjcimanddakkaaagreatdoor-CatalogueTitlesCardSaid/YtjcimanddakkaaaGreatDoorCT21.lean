/- Lemmas. -/
import Derived.Test.YtjcimanddakkaaaGreatDoorCT16
set_option maxRecDepth 100000
set_option maxHeartbeats 8000000
namespace Go.Proofs.YtjcimanddakkaaaGreatDoor
open _root_.Option renaming some→X,none→Y
open Go.Value renaming int→J,slice→fn,map→g1,bool→gP
open Go.IntKind renaming i64→U
open Go.Ending renaming returned→hb
open Go.Obj renaming cells→hK
open Go.Lib renaming hid→Z
open Tryz
open Go.World renaming alloc_heap_new→ih
open _root_.Nat renaming le_refl→mk,zero_le→r2,le_trans→ts,min_eq_left→vb,zero_add→vz,le_of_lt→vN
open Go.RowKit.Below renaming refl→nq,heap_setCell→tt
open Go.Instr renaming lookup→r1
open Go.Value renaming ownBlock→tr
open Go renaming World→tx,Value→tO,results_none→ua,bodyPost_ret→vd,TypeId→v4
open _root_.List renaming take_of_length_le→ty,take_succ_eq_append_getElem→uc,getElem_mem→up
open _root_.Option.some renaming injEq→tz
open Go.World.ownsRow renaming form→va
open Go.Calls renaming mono→vs
open Go.Result renaming andThen_ok→v5
section
open Go.RowKit Go.Maps Go.Shelf
structure C7(lo:Nat)(w:tx)(b:Nat)(L:VL)(set:List Nat):Prop where
 ex:∃l,an recB w b l/\(∀k,(lookL l k).isSome=true↔∃t,t<L.length/\set.getD t 0=t/\keyC L t=k)/\
  (∀t,t<L.length->set.getD t 0=t->∃(v:tO)(xs:List RK),lookL l (keyC L t)=some v/\w.ownsRow lo 36 2 v xs (xs.flatMap rkCells)/\xs.Perm (bg L set t))/\
  ∀k1 k2 v1 v2,lookL l k1=some v1->lookL l k2=some v2->k1≠k2->v1.ownBlock≠v2.ownBlock
theorem lD{lo:Nat}{w:tx}{L:VL}{set:List Nat}{k:RK}{l:List (RK×tO)}(i:∀k,(lookL l k).isSome=true↔∃t,t<L.length/\set.getD t 0=t/\keyC L t=k)(e:∀t,t<L.length->set.getD t 0=t->∃(v:tO)(c:List RK),lookL l (keyC L t)=X v/\w.ownsRow lo 36 2 v c (c.flatMap rkCells)/\c.Perm (bg L set t)){v:tO}(d:lookL l k=X v):
 ∀g,v.ownBlock=X g->lo<=g/\g<w:=by
 obtain⟨t,m,n,h⟩:=(i k).1 (by rw[d];rfl);obtain⟨p,c,b,j,_⟩:=e t m n;rw[h,d]at b;injection b with b
 subst b;exactλg f=>j.lt g f
structure UN(lo lm:Nat)(F:Nat->Prop)(w:tx)(bt bc t mo mm c:Nat)(m1 m2 m3:Option Nat)(kn:tO)(d:aB)(L:VL)(set:List Nat):Prop where
 vt:Bk w bt #[.pointer t] 96
 vc:Bk w bc #[.pointer c] 24
 tb:Bk w t #[.map (some mo),.map (some mm)] 95
 of:C6 w mo L set
 mem:C7 lm w mm L set
 cat:ed F w c m1 m2 m3 kn d
 ne:mo≠mm
 los:lo<=bt/\lo<=bc/\lo<=t/\lo<=mo/\lo<=mm/\lo<=w/\lo<=lm/\lm<=w
 lof:∀k,F k->k<lo
 ok:cw L.length set
 srt:aH ltRK L
 key:∀i,i<L.length->rkOk (keyC L i)
 len:L.length<=5000
theorem UN.below{lo n:Nat}{F:Nat->Prop}{w w':tx}{j i t u s c:Nat}{p q r:Option Nat}{m:tO}{d:aB}{L:VL}{set:List Nat}(h:UN lo n F w j i t u s c p q r m d L set)(b:Bw w w'):UN lo n F w' j i t u s c p q r m d L set:=by
 obtain⟨l,e,x⟩:=h.of;obtain⟨V,f,y,z,A⟩:=h.mem;refine⟨(b.block _ (af h.vt)).trans h.vt,(b.block _ (af h.vc)).trans h.vc,(b.block _ (af h.tb)).trans h.tb,⟨l,e.block (b.block _ e.lt),x⟩,⟨V,f.block (b.block _ f.lt),y,λt T W=>?_,A⟩,h.cat.below b,h.ne,?_,h.lof,h.ok,h.srt,h.key,h.len⟩
 .obtain⟨v,xs,N,k,O⟩:=z t T W;exact⟨v,xs,N,aj k (λg R=>b.block g (k.lt g R).2),O⟩
 obtain⟨B,C,D,E,G,H,I,M⟩:=h.los;exact⟨B,C,D,E,G,ts H b.size,I,ts M b.size⟩
def UFr(b:Nat)(w w':tx)(e d:Nat):Prop:=∀q,q<w.heap.size->q≠e->q≠d->(q<b∨∀c,w.heap[q]?≠X (Obj.cells c 36 (0,0)))->w'.heap[q]?=w.heap[q]?
theorem zn{L:VL}{set:List Nat}(u:aH ltRK L)(m:cw L.length set){l g:List (RK×tO)}(h:∀k,lookL l k=(atC L k).map λi=>recK (keyC L (set.getD i 0))){x y:Nat}{zs:List RK}(f:zs.Perm (bg L (mergeS set x y) (min x y)))
 (n:∀k,lookL g k=if k∈zs then X (recK (keyC L (min x y)))else lookL l k):∀k,lookL g k=(atC L k).map λi=>recK (keyC L ((mergeS set x y).getD i 0)):=by
 intro k;rw[n,h];have v:∀i,i<L.length->((mergeS set x y).getD i 0=min x y↔set.getD i 0=x∨set.getD i 0=y∨set.getD i 0=min x y):=λi b=>by
  rw[cO (by rw[m.len];exact b)];split
  .rename_i h;exact⟨λ_=>h.elim .inl (λh=>.inr (.inl h)),λ_=>rfl⟩
  rename_i h;exact⟨λe=>.inr (.inr e),λe=>by rcases e with e|e|e;exact absurd (.inl e) h;exact absurd (.inr e) h;exact e⟩
 cases ha:atC L k with
 |none=>
  have:k∉zs:=λc=>by obtain⟨i,b,_,q⟩:=bn.1 (f.mem_iff.1 c);exact at_none ha i b q
  rw[if_neg this];rfl
 |some i=>
  obtain⟨b,c⟩:=at_some ha;simp only[Option.map_some];by_cases hmem:k∈zs
  .rw[if_pos hmem];obtain⟨j,r,s,t⟩:=bn.1 (f.mem_iff.1 hmem);have:j=i:=cY u r b (by rw[t,c]);subst this;rw[s]
  rw[if_neg hmem];have d:(mergeS set x y).getD i 0≠min x y:=λe=>hmem (f.mem_iff.2 (bn.2 ⟨i,b,e,c⟩));rw[cO (by rw[m.len];exact b)]at d ⊢;split at d
  .exact absurd rfl d
  rename_i p;rw[if_neg p]
theorem wZ{lo:Nat}{w w':tx}{b:Nat}{L:VL}{set:List Nat}(D:aH ltRK L)(F:cw L.length set){x y:Nat}(a8:x≠y)(hx:x<L.length)(hy:y<L.length)(G:set.getD x 0=x)(H:set.getD y 0=y){l E:List (RK×tO)}(h2:∀k,(lookL l k).isSome=true↔∃t,t<L.length/\set.getD t 0=t/\keyC L t=k)
 (h3:∀t,t<L.length->set.getD t 0=t->∃(v:tO)(A:List RK),lookL l (keyC L t)=X v/\w.ownsRow lo 36 2 v A (A.flatMap rkCells)/\A.Perm (bg L set t))(h4:∀q n s z,lookL l q=X s->lookL l n=X z->q≠n->s.ownBlock≠z.ownBlock)
 (hm:an recB w' b E){v:tO}{zs:List RK}(B:∀k,lookL E k=if k=keyC L (min x y)then X v else if k=keyC L (max x y)then Y else lookL l k)(hv:w'.ownsRow lo 36 2 v zs (zs.flatMap rkCells))(hz:zs.Perm (bg L (mergeS set x y) (min x y)))
 (a0:∀k u,k≠keyC L (min x y)->k≠keyC L (max x y)->lookL l k=X u->∀g,u.ownBlock=X g->w'.heap[g]?=w.heap[g]?)(R:∀k u,k≠keyC L (min x y)->lookL l k=X u->v.ownBlock≠u.ownBlock):C7 lo w' b L (mergeS set x y):=by
 have C:min x y<L.length:=by omega
 have O:max x y<L.length:=by omega
 have a4:min x y≠max x y:=by omega
 have r:∀t,t<L.length->((mergeS set x y).getD t 0=t↔set.getD t 0=t/\t≠max x y):=λt c=>by
  rw[cO (by rw[F.len];exact c)];have a6:=F.le t c;constructor
  .intro e;split at e
   .rename_i h;have:t=x∨t=y:=by omega
    rcases this with rfl|rfl
    .exact⟨G,by omega⟩
    exact⟨H,by omega⟩
   rename_i h;refine⟨e,λd=>h ?_⟩;rcases Nat.le_total x y with m|m
   .rw[Nat.max_eq_right m]at d;subst d;exact .inr H
   rw[Nat.max_eq_left m]at d;subst d;exact .inl G
  rintro⟨e,a7⟩;split
  .rename_i h;rw[e]at h;omega
  exact e
 have M:∀t,t<L.length->t≠min x y->keyC L t≠keyC L (min x y):=λt c hn e=>hn (cY D c C e);have N:∀t,t<L.length->t≠max x y->keyC L t≠keyC L (max x y):=λt c hn e=>hn (cY D c O e);refine⟨E,hm,λk=>?_,λt c p=>?_,λq n s z i f j=>?_⟩
 .rw[B];by_cases e1:k=keyC L (min x y)
  .rw[if_pos e1];exact⟨λ_=>⟨min x y,C,(r _ C).2 ⟨by rcases Nat.le_total x y with m|m;rw[vb m];exact G;rw[Nat.min_eq_right m];exact H,a4⟩,e1.symm⟩,λ_=>rfl⟩
  rw[if_neg e1];by_cases d:k=keyC L (max x y)
  .rw[if_pos d];refine⟨λh=>(by cases h),?_⟩;rintro⟨t,c,p,j⟩;exact absurd (cY D c O (by rw[j,d])) ((r t c).1 p).2
  rw[if_neg d,h2];constructor
  .rintro⟨t,c,p,j⟩;exact⟨t,c,(r t c).2 ⟨p,λe=>d (by rw[<- j,e])⟩,j⟩
  rintro⟨t,c,p,j⟩;exact⟨t,c,((r t c).1 p).1,j⟩
 .obtain⟨a5,T⟩:=(r t c).1 p;rw[B];by_cases e1:t=min x y
  .subst e1;rw[if_pos rfl];exact⟨v,zs,rfl,hv,hz⟩
  rw[if_neg (M t c e1),if_neg (N t c T)];obtain⟨u,A,I,V,W⟩:=h3 t c a5;refine⟨u,A,I,aj V (a0 _ u (M t c e1) (N t c T) I),?_⟩;rw[sY F.len (by omega) (by omega)];exact W
 rw[B]at i f;by_cases e1:q=keyC L (min x y)
 .rw[if_pos e1]at i;injection i with i
  subst i;have d:n≠keyC L (min x y):=λe=>j (by rw[e1,e]);rw[if_neg d]at f;split at f
  .cases f
  exact R n z d f
 rw[if_neg e1]at i;split at i
 .cases i
 by_cases d:n=keyC L (min x y)
 .rw[if_pos d]at f;injection f with f
  subst f;exactλe=>R q s e1 i e.symm
 rw[if_neg d]at f;split at f
 .cases f
 exact h4 q n s z i f j
end
section
open Go.RowKit Go.Maps Go.Shelf
theorem lM:∀u:tx,(zeroValue 36).run prog u=.ok (.agg #[J U 0,J U 0]) u:=λu=>by kernel_rfl
theorem fd:∀u:tx,(zeroValue 52).run prog u=.ok (fn Y 0 0) u:=λu=>by kernel_rfl
def bP(ps:List (PK×(Int×Bool)))(L:VL)(set:List Nat)(p:PK):List Nat:=match atC L p.1,atC L p.2 with
 |some a,X b=>dn ps L set a b
 |_,_=>set
def titK(L:VL)(set:List Nat)(k:RK):RK:=((atC L k).map λi=>keyC L (set.getD i 0)).getD (0,0)
theorem UN.look{lo r:Nat}{F:Nat->Prop}{w:tx}{i g t b s c:Nat}{n p q:Option Nat}{m:tO}{d:aB}{L:VL}{set:List Nat}(h:UN lo r F w i g t b s c n p q m d L set)(k:RK)(j:rkOk k):
 (r1 92 (g1 (X b)) (recK k) true).run prog w=.ok (.tuple #[recK (titK L set k),gP (atC L k).isSome]) w:=by
 obtain⟨l,e,f⟩:=h.of;have:=an.look_ok e underlying92 (lM w) k j;rw[f]at this;refine Eq.trans this ?_;unfold titK;cases atC L k<;>rfl
theorem fK{K:Type}[DecidableEq K]:∀(l m:List K),l.Nodup->(∀k∈l,k∈m)->l.length<=m
 |[],_,_,_=>r2 _
 |a::l,m,hn,h=>by
  obtain⟨d,f⟩:=List.nodup_cons.1 hn
  have b:=h a List.mem_cons_self
  have:=fK l (m.erase a) f (λk c=>(List.mem_erase_of_ne (λ(e:k=a)=>d (e▸c))).2 (h k (List.mem_cons_of_mem _ c)))
  rw[List.length_erase_of_mem b]at this
  have:=List.length_pos_of_mem b
  simp only[List.length_cons];omega
theorem pW{w:tx}{b:Nat}{l:List (RK×tO)}{L:VL}(h:an recB w b l)(f:∀k,(lookL l k).isSome=true->(atC L k).isSome=true):l<=L.length:=by
 have:=fK (l.map (·.1)) ((List.range L.length).map (keyC L)) h.nodup (λk g=>by obtain⟨i,e⟩:=Option.isSome_iff_exists.1 (f k (rU.2 g));obtain⟨c,d⟩:=at_some e;exact List.mem_map.2 ⟨i,by simpa using c,d⟩)
 simpa using this
theorem an.put_run{P:Program}{f:v4}{K:Type}[DecidableEq K]{B:eJ P f K}{w:tx}{b:Nat}{l:List (K×tO)}(h:an B w b l){t e:v4}(p:P.underlying t=X (.map f e))(hn:l<maxLen)(k:K)(c:B.ok k)(v:tO):
 ∃w',(Instr.mapUpdate t (g1 (X b)) (B.kv k) v).run P w=.ok () w'/\an B w' b (putL l k v)/\aF b w w':=by
 obtain⟨r,g,i,j⟩:=h;obtain⟨w',n,m,q⟩:=g.store B.keyed p hn (B.key k c) (val:=v) (d:=.held v) (ps:=[]) rfl;exact⟨w',n,an.put_of i j c v m,eA q⟩
theorem an.del_run{P:Program}{c:v4}{K:Type}[DecidableEq K]{B:eJ P c K}{w:tx}{b:Nat}{l:List (K×tO)}(h:an B w b l){t e:v4}(p:P.underlying t=X (.map c e))(k:K)(d:B.ok k)(f:v4):
 ∃w',(Builtin.delete_ #[t,c] f #[g1 (X b),B.kv k]).run P w=.ok (.tuple #[]) w'/\an B w' b (cK l k)/\aF b w w':=by
 obtain⟨r,g,i,j⟩:=h;obtain⟨w',n,m,q⟩:=g.drop B.keyed p (B.key k d) f;exact⟨w',n,an.del_of i j d m,eA q⟩
section
variable {P:Program} {o:Oper} {a:Act} {K:Act->tx->Prop} {Q:Exit->Act->tx->Prop} {w:tx}
theorem iR{s x:Operand}{t:v4}(e:o.op=.call {callee:=.builtin .append,args:= #[s,x],argTypes:= #[t,t]}){b c v:tO}(g:a.eval s=b)(h:a.eval x=c){w':tx}(f:(Builtin.append_ #[t,t] o.type #[b,c]).run P w=.ok v w')(d:K (a.put o.dst v) w'):o.wp P a w K Q:=by
 unfold Oper.wp execOp;simp only[e,resolve,invoke,builtin,Sem.run_bind,Sem.run_pure,v5,List.map_toArray,List.map_cons,List.map_nil,g,h,f];exact d
theorem fZ{t:v4}{m s x:Operand}(c:o.op=Op.mapUpdate t m s x){w':tx}(d:(Instr.mapUpdate t (a.eval m) (a.eval s) (a.eval x)).run P w=.ok () w')(b:K (a.put o.dst undef) w'):o.wp P a w K Q:=by
 unfold Oper.wp;simp[execOp,c,d,Result.andThen];exact b
theorem tE{s x:Operand}{t k:v4}(e:o.op=.call {callee:=.builtin .delete,args:= #[s,x],argTypes:= #[t,k]}){b c v:tO}(g:a.eval s=b)(h:a.eval x=c){w':tx}(f:(Builtin.delete_ #[t,k] o.type #[b,c]).run P w=.ok v w')(d:K (a.put o.dst v) w'):o.wp P a w K Q:=by
 unfold Oper.wp execOp;simp only[e,resolve,invoke,builtin,Sem.run_bind,Sem.run_pure,v5,List.map_toArray,List.map_cons,List.map_nil,g,h,f];exact d
end
structure Sd(L:VL)(set:List Nat)(lm:List (RK×tO))(w1:tx)(ml I:Nat)(p1 p2:Int)(g c:Nat)(l:List RK):Prop where
 s1:lookL lm (p1,p2)=some (.slice g l c)
 s2:w1.ownsRow ml 36 2 (.slice g l c) l (l.flatMap rkCells)
 s3:l.Perm (bg L set I)
 ok:rkOk (p1,p2)
 key:keyC L I=(p1,p2)
 lt:I<L.length
 rep:set.getD I 0=I
 len:l.length<=5000
def Bn(L:VL)(set:List Nat)(c:List (RK×tO))(w1 e:tx)(d:Nat)(W:tx)(r:List Nat):Prop:=
 ∃(I b:Nat)(p1 p2 q1 q2:Int)(gp cp:Nat)(ps:List RK)(gq cq:Nat)(qs:List RK),Sd L set c w1 d I p1 p2 gp cp ps/\Sd L set c w1 d b q1 q2 gq cq qs/\I<b/\r=mergeS set I b/\
  Bk W w1 #[p1,p2] 36/\Bk W e #[q1,q2] 36
def dK(ps:List (PK×(Int×Bool)))(r s:RK):Prop:=∀n,findK ps (pairK r s)≠X (n,false)
theorem qN{ps:List (PK×(Int×Bool))}{b ys:List RK}(h:∀r∈b,∀s∈ys,dK ps r s):jo ps b ys=false:=by
 cases hx:jo ps b ys
 .rfl
 obtain⟨r,c,s,d,n,hn⟩:=jm.1 hx;exact absurd hn (h r c s d n)
theorem vm{α:Type}{l:List α}{k:Nat}(h:k<l){P:α->Prop}(c:∀a∈l.take k,P a)(d:P l[k]):∀a∈l.take (k+1),P a:=by
 intro a b;rw[uc h]at b;rcases List.mem_append.1 b with b|b
 .exact c a b
 rw[List.mem_singleton.1 b];exact d
theorem qY(lo ml:Nat)(F:Nat->Prop)(w:tx)(bt bc t f A c:Nat)(m1 m2 m3:Option Nat)(kn:tO)(d:aB)(L:VL)(set:List Nat)(h:UN lo ml F w bt bc t f A c m1 m2 m3 kn d L set)(p:PK)(hp:pkOk p):
 Calls prog 78 #[pairV p,.pointer bt,.pointer bc] w λe w'=>e=hb (.tuple #[])/\UN lo ml F w' bt bc t f A c m1 m2 m3 kn d L (bP d.ps L set p)/\Below lo w w'/\UFr ml w w' f A:=by
 obtain⟨⟨a1,a2⟩,b1,b2⟩:=p;obtain⟨nf,nn⟩:=hp;dsimp only at nf nn;obtain⟨w1,iN⟩:=Qe (w.alloc (hK #[a1,a2,b1,b2] 134));have bl:Bw w w1:=by rw[<- iN];exact(nq _ w).alloc (mk _) _
 have hB:w1.heap[w.heap.size]?=X (hK #[a1,a2,b1,b2] 134 (0,0)):=by rw[<- iN];exact ih w _
 have M:=Z (h.below bl);have gs:Hid (lo<=w):=h.los.2.2.2.2.2.1;have bO:=Z bl;have cp:Hid (∀W,Bw w1 W->Below lo w W/\UFr ml w W f A):=λW C=>⟨(bl.mono gs.o).trans (C.mono (ts gs.o bl.size)),λq hq _ _ _=>(C.block q (Nat.lt_of_lt_of_le hq bl.size)).trans (bl.block q hq)⟩;have ej:Hid (ml<=w/\lo<=ml):=⟨h.los.2.2.2.2.2.2.2,h.los.2.2.2.2.2.2.1⟩;have oR:w1.heap.size=w+1:=by rw[<- iN];simp
 have qe:=Z oR
 have HK:Hid (∀W,Bw w1 W->Cl W bt 0 (.pointer t)/\Cl W t 0 (g1 (X f))/\Cl W t 1 (g1 (X A))/\(Cl W w 0 a1/\Cl W w 1 a2/\Cl W w 2 b1/\Cl W w 3 b2)/\
  (Cl W bc 0 (.pointer c)/\Cl W c 2 (.map m3))/\∀k1 k2:Int,rkOk (k1,k2)->(r1 92 (g1 (X f)) (.agg #[k1,k2]) true).run prog W=.ok (.tuple #[.agg #[J U (titK L set (k1,k2)).1,J U (titK L set (k1,k2)).2],gP (atC L (k1,k2)).isSome]) W):=λW C=>by
  have hu:=M.below C
  obtain⟨e0,e1⟩:=du hu.tb
  have e2:=nL ((C.block _ (af hB)).trans hB)
  exact⟨(ab hu.vt 0).trans rfl,e0,e1,e2,⟨(ab hu.vc 0).trans rfl,(ab hu.cat.blk 2).trans rfl⟩,λk1 k2 hk=>hu.look (k1,k2) hk⟩
 have HB:=Z hB;unfold pairV;dsimp only;clear h bl hB oR;have dc:Bw w1 w1.drew:=(nq _ w1).drew;have eb:Hid (∀W,Bw w1 W->(r1 92 (g1 (X f)) (.agg #[a1,a2]) true).run prog W=.ok (.tuple #[.agg #[J U (titK L set (a1,a2)).1,J U (titK L set (a1,a2)).2],gP (atC L (a1,a2)).isSome]) W):=λW C=>(HK W C).2.2.2.2.2 a1 a2 nf;have eg:Hid (∀W,Bw w1 W->(r1 92 (g1 (X f)) (.agg #[b1,b2]) true).run prog W=.ok (.tuple #[.agg #[J U (titK L set (b1,b2)).1,J U (titK L set (b1,b2)).2],gP (atC L (b1,b2)).isSome]) W):=λW C=>(HK W C).2.2.2.2.2 b1 b2 nn;obtain⟨⟨x1,x2⟩,hx⟩:∃x,titK L set (a1,a2)=x:=⟨_,rfl⟩;obtain⟨⟨O,T⟩,hy⟩:∃y,titK L set (b1,b2)=y:=⟨_,rfl⟩;obtain⟨ia,hH⟩:=Qe (atC L (a1,a2));obtain⟨ib,hI⟩:=Qe (atC L (b1,b2));rw[hx,hH]at eb;rw[hy,hI]at eg;dsimp only at eb eg;have qa:=Z hx;have qc:=Z hy;have ci:=Z hH;have e8:=Z hI;obtain⟨iS,hR⟩:=Qe ia.isSome;obtain⟨j2,iF⟩:=Qe ib.isSome;rw[hR]at eb;rw[iF]at eg;have ko:=Z hR;have l6:=Z iF;clear hx hy hH hI hR iF;go_enter func78,ntmps78;go_wp2;refine Wb w1 12 ?_;refine Qb [0,4,1,5,2,3] dc HK ?_;refine Qb [6] dc eb ?_
 refine Qa [7,8,9] dc ?_;refine Dp 10 λK b=>?_;go_simp;have ac:∀o,Bw w1 (w1.drew.alloc o):=λo=>dc.alloc (mk _) o;refine b _ _ (λ_=>ac _) ?_;clear b K;refine Dp 11 λK b=>?_;go_simp;have ao:∀o,Bw w1 (w1.alloc o).drew:=λo=>((nq _ w1).alloc (mk _) o).drew;refine b _ _ (λ_=>ao _) ?_;clear b K;refine Dl 12 ?_;obtain⟨D,dx⟩:=Qe ((w1.alloc (hK #[x1,x2] 36)).drew);have q7:Hid (D.heap[w1.heap.size]?=X (hK #[x1,x2] 36 (0,0))):=by unfold Hid;rw[<- dx];exact ih w1 _
 have hz:Bw w1 D:=by rw[<- dx];exact ao _
 have ex:Hid (D.heap.size=w1+1):=by unfold Hid;rw[<- dx];show(w1.alloc _).heap.size=_;simp
 rw[dx];clear ac ao dx;go_wp2_with fail;have dd:Bw w1 D.drew:=hz.drew;refine Wb w1 12 ?_;refine Qb [0,4,1,5,2,3] dd HK ?_;refine Qb [6] dd eg ?_
 refine Qa [7,8,9] dd ?_;refine Dp 10 λK b=>?_;go_simp;have ac:∀o,Bw w1 (D.drew.alloc o):=λo=>dd.alloc (by have:=ex.o;show w1.heap.size<=D;omega) o;refine b _ _ (λ_=>ac _) ?_;clear b K;refine Dp 11 λK b=>?_;go_simp;have ao:∀o,Bw w1 (D.alloc o).drew:=λo=>(hz.alloc (by have:=ex.o;omega) o).drew;refine b _ _ (λ_=>ao _) ?_;clear b K;refine Dl 12 ?_;obtain⟨w3,b0⟩:=Qe ((D.alloc (hK #[O,T] 36)).drew);have cv:Hid (w3.heap[D.heap.size]?=X (hK #[O,T] 36 (0,0))):=by unfold Hid;rw[<- b0];exact ih D _
 have hA:Bw w1 w3:=by rw[<- b0];exact ao _
 have lT:Bw D w3:=by rw[<- b0];exact((nq _ D).alloc (mk _) _).drew
 have cq:Hid (Bk w3 w1 #[x1,x2] 36):=(lT.block _ (by have:=ex.o;omega)).trans q7.o;have ax:=Z hA;have a0:=Z (M.below hA);have hc:Hid (w3.heap.size=D+1/\D.heap.size=w1+1/\w1.heap.size=w+1):=⟨by rw[<- b0];show(D.alloc _).heap.size=_;simp,ex.o,qe.o⟩;rw[b0];obtain⟨qk,qn⟩:=du cq.o;obtain⟨qo,qq⟩:=du cv.o;clear ac ao b0 dd lT hz dc hA;have j0:=λW=>q36 x1 x2 O T W;cases iS
 .have HE:Hid (bP d.ps L set ((a1,a2),(b1,b2))=set):=by
   unfold Hid bP;dsimp only;rw[ci.o];have:=ko.o;cases ia with
   |none=>rfl
   |some i=>cases this
  go_wp2_with fail;refine vd (ua rfl _ _ _) rfl ?_;rw[HE.o];exact⟨rfl,a0.o,cp _ ax.o⟩
 cases j2
 .have HE:Hid (bP d.ps L set ((a1,a2),(b1,b2))=set):=by
   unfold Hid bP;dsimp only;rw[ci.o,e8.o];have:=l6.o;cases ib with
   |none=>cases ia<;>rfl
   |some i=>cases this
  go_wp2_with fail;refine vd (ua rfl _ _ _) rfl ?_;rw[HE.o];exact⟨rfl,a0.o,cp _ ax.o⟩
 obtain⟨ja,rfl⟩:∃ja,ia=X ja:=Option.isSome_iff_exists.1 ko.o;obtain⟨jb,rfl⟩:∃jb,ib=X jb:=Option.isSome_iff_exists.1 l6.o;have HE:Hid (bP d.ps L set ((a1,a2),(b1,b2))=dn d.ps L set ja jb):=by unfold Hid bP;dsimp only;rw[ci.o,e8.o]
 have ca:keyC L (set.getD ja 0)=(x1,x2):=by have:=qa.o;unfold titK at this;rw[ci.o]at this;exact this
 have cb:keyC L (set.getD jb 0)=(O,T):=by have:=qc.o;unfold titK at this;rw[e8.o]at this;exact this
 have hJ:=(at_some ci.o).1;have hL:=(at_some e8.o).1;have f9:=a0.ok.lt hJ;have fb:=a0.ok.lt hL;have b5:=a0.ok.rep ja hJ;have b6:=a0.ok.rep jb hL;have ch:=Z (lR d.ps L set ja jb);obtain⟨a6,hX⟩:=Qe (set.getD ja 0);obtain⟨a7,hY⟩:=Qe (set.getD jb 0);rw[hX]at ca f9 b5 ch;rw[hY]at cb fb b6 ch;by_cases hXY:a6=a7
 .have dy:(x1,x2)=(O,T):=by rw[<- ca,<- cb,hXY]
  rw[decide_eq_true dy]at j0;have cd:Hid (bP d.ps L set ((a1,a2),(b1,b2))=set):=by unfold Hid;rw[HE.o,ch.o,if_pos hXY]
  clear hXY dy hX hY ca cb;go_wp2_with fail;refine vd (ua rfl _ _ _) rfl ?_;rw[cd.o];exact⟨rfl,a0.o,cp _ ax.o⟩
 have dy:¬((x1,x2)=(O,T)):=λe=>hXY (cY a0.o.srt f9 fb (by rw[ca,cb,e]));rw[decide_eq_false dy]at j0;have cd:Hid (bP d.ps L set ((a1,a2),(b1,b2))=if jp d.ps L set a6 a7 then set else mergeS set a6 a7):=by unfold Hid;rw[HE.o,ch.o,if_neg hXY]
 have la:=Z hXY;have er:=Z ca;have es:=Z cb;have h9:=Z b5;have ha:=Z b6;have cs:=Z f9;have cz:=Z fb;clear hXY dy hX hY ca cb b5 b6 HE ch f9 fb hJ hL;go_wp2_with fail;obtain⟨lm,fr,me,fs,mf⟩:=M.mem;obtain⟨vx,xs,eQ,f4,bb⟩:=fs a6 cs.o h9.o;obtain⟨vy,ys,f5,f6,bd⟩:=fs a7 cz.o ha.o;have d7:an recB w3 A lm:=fr.block (ax.block _ fr.lt);have hd:w3.ownsRow ml 36 2 vx xs (xs.flatMap rkCells):=aj f4 (λg hg=>ax.block g (f4.lt g hg).2);have ho:w3.ownsRow ml 36 2 vy ys (ys.flatMap rkCells):=aj f6 (λg hg=>ax.block g (f6.lt g hg).2);have sb:0<xs.length:=by rw[bb.length_eq];exact List.length_pos_iff.2 (mU cs.o h9.o)
 have sc:0<ys.length:=by rw[bd.length_eq];exact List.length_pos_iff.2 (mU cz.o ha.o)
 have oc:xs.length<=5000:=by rw[bb.length_eq];exact ts (kH _ _ _) a0.o.len
 have oN:ys.length<=5000:=by rw[bd.length_eq];exact ts (kH _ _ _) a0.o.len
 obtain⟨gx,cx,rfl,_⟩:=va hd sb;obtain⟨gy,cy,rfl,_⟩:=va ho sc;rw[er.o]at eQ;rw[es.o]at f5;have ob:rkOk (x1,x2):=by rw[<- er.o];exact a0.o.key a6 cs.o
 have oF:rkOk (O,T):=by rw[<- es.o];exact a0.o.key a7 cz.o
 have kc:Hid (∀W,Bw w3 W->(r1 93 (g1 (X A)) (.agg #[x1,x2]) false).run prog W=.ok (fn gx xs cx) W):=λW C=>by have:=an.look (w:=W) (d7.block (C.block _ d7.lt)) underlying93 (fd W) (x1,x2) ob;rw[eQ]at this;exact this
 have kd:Hid (∀W,Bw w3 W->(r1 93 (g1 (X A)) (.agg #[O,T]) false).run prog W=.ok (fn gy ys cy) W):=λW C=>by have:=an.look (w:=W) (d7.block (C.block _ d7.lt)) underlying93 (fd W) (O,T) oF;rw[f5]at this;exact this
 have l7:Hid (∀W,Bw w3 W->eL 0 w3 W (fn gx xs cx) xs):=λW C=>((aM hd).mono (r2 _) (mk _)).kept (λq _ hq=>C.block q hq);have ld:Hid (∀W,Bw w3 W->eL 0 w3 W (fn gy ys cy) ys):=λW C=>((aM ho).mono (r2 _) (mk _)).kept (λq _ hq=>C.block q hq);have qb:Hid (∀r∈xs,rkOk r):=λr hr=>by obtain⟨i,hi,_,hk⟩:=bn.1 (bb.mem_iff.1 hr);rw[<- hk];exact a0.o.key i hi
 have qd:Hid (∀r∈ys,rkOk r):=λr hr=>by obtain⟨i,hi,_,hk⟩:=bn.1 (bd.mem_iff.1 hr);rw[<- hk];exact a0.o.key i hi
 have su:Hid (∀r∈xs,∀s∈ys,r≠s):=λr hr s hs e=>by obtain⟨i,hi,h1,hk⟩:=bn.1 (bb.mem_iff.1 hr);obtain⟨j,hj,h2,d5⟩:=bn.1 (bd.mem_iff.1 hs);have:=cY a0.o.srt hi hj (by rw[hk,d5,e]);subst this;exact la (h1.symm.trans h2)
 have j3:Hid (jp d.ps L set a6 a7=jo d.ps xs ys):=Au a0.cat.ok.ok.ps a0.cat.ok.ok.apart a0.srt bb bd;have b8:Hid (∀W,Bw w3 W->Cl W bt 0 (.pointer t)/\Cl W t 0 (g1 (X f))/\Cl W t 1 (g1 (X A))/\Cl W bc 0 (.pointer c)/\Cl W c 2 (.map m3)/\(Cl W w1 0 x1/\Cl W w1 1 x2)/\Cl W D 0 O/\Cl W D 1 T):=λW C=>by have hu:=a0.below C;obtain⟨e0,e1⟩:=du hu.tb;exact⟨(ab hu.vt 0).trans rfl,e0,e1,(ab hu.vc 0).trans rfl,(ab hu.cat.blk 2).trans rfl,du ((C.block _ (af cq.o)).trans cq.o),du ((C.block _ (af cv.o)).trans cv.o)⟩
 have ka:Hid (∀W,Bw w3 W->∀q1 q2 q3 q4:Int,pkOk ((q1,q2),q3,q4)->(r1 115 (.map m3) (.agg #[q1,q2,q3,q4]) true).run prog W=.ok (.tuple #[.agg #[J U ((findK d.ps ((q1,q2),q3,q4)).getD (0,false)).1,gP ((findK d.ps ((q1,q2),q3,q4)).getD (0,false)).2],gP (findK d.ps ((q1,q2),q3,q4)).isSome]) W):=λW C q1 q2 q3 q4 hq=>by have:=cI.look_ok (w:=W) (a0.below C).cat.ps underlying115 iq ((q1,q2),q3,q4) hq;rw[fN d.ps gJ]at this;refine Eq.trans this ?_;cases findK d.ps ((q1,q2),q3,q4)<;>rfl
 obtain⟨k0,k1,k2,k3,k4,_,_⟩:=b8 w3 (nq _ _);have rx:=kc w3.drew (nq _ w3).drew;have c4:=Z fr;have cj:=Z me;have em:=Z fs;have eq:=Z mf;have pk:=Z eQ;have pl:=Z f4;have po:=Z bb;have pr:=Z f5;have pt:=Z f6;have pv:=Z bd;clear d7 fr me fs mf eQ hd f4 bb f5 ho f6 bd j0;go_region;go_wp2_with fail;clear rx k0 k1 k2 k3 k4 qk qn qo qq;go_loopw [9,11,12,13,14,55,66] (λ_a _b _c _d _e i _f wr=>∃k:Nat,k<=xs/\i=J U k/\Hid (Bw w3 wr)/\Hid (∀r∈xs.take k,∀s∈ys,dK d.ps r s)) (λ_ _ _ _ _ i _ _=>xs-(intOf i).toNat)
 case atStart=>exact⟨0,r2 _,rfl,(nq _ w3).drew,λr hr=>by simp at hr⟩
 obtain⟨k,hk,rfl,bY,gt⟩:=hrel;by_cases hlt:k<xs
 .obtain⟨b',pa,le,he,_,m4,e0,e1⟩:=(l7 wr bY.o).one k hlt;cases he;have c6:Hid (xs[k]∈xs):=up hlt;have cl:Hid (∀{P:RK->Prop},(∀a∈xs.take k,P a)->P xs[k]->∀a∈xs.take (k+1),P a):=λh1 h2=>vm hlt h1 h2;obtain⟨r,hr⟩:=Qe (xs[k]);rw[hr]at e0 e1 c6 cl;obtain⟨l,z⟩:=r;dsimp only at e0 e1;rw[vz]at e0 e1;clear hr;have sa:=bY.size;have bs:∀o,Bw w3 (wr.alloc o):=λo=>bY.alloc sa o;have rc:=λo=>(b8 _ (bs o)).1;have rg:=λo=>(b8 _ (bs o)).2.2.1;have d5:=λo=>(b8 _ (bs o)).2.2.2.2.2.2.1;have rk:=λo=>(b8 _ (bs o)).2.2.2.2.2.2.2;have ry:=λo=>kd _ (bs o).drew;go_wp2_with fail;go_region;go_wp2_with fail;have gn:Hid (Bw w3 (wr.alloc (hK #[l,z] 36)).drew):=(bs _).drew;obtain⟨wz,b7⟩:=Qe ((wr.alloc (hK #[l,z] 36)).drew);have kt:Hid (wz.heap[wr.heap.size]?=X (hK #[l,z] 36 (0,0))):=by unfold Hid;rw[<- b7];exact ih wr _
  rw[b7]at gn ⊢;have q6:Hid (wr.heap.size<wz):=af kt.o;clear rc rg d5 rk ry bs b7 e0 e1;generalize wr.heap.size=R at*;go_loopw [11,12,13,14,66] (λ_b _c _d _e i wr=>∃m:Nat,m<=ys/\i=J U m/\Hid (Bw wz wr)/\Hid (∀s∈ys.take m,dK d.ps (l,z) s)) (λ_ _ _ _ i _=>ys-(intOf i).toNat)
  exact⟨0,r2 _,rfl,nq _ _,λs hs=>by simp at hs⟩;obtain⟨m,hm,rfl,e7,kk⟩:=hrel;have cc:Hid (Bw w3 wr):=btr gn.o e7.o gn.size;by_cases hlt2:m<ys;rotate_left
  .have gz:Hid (∀s∈ys,dK d.ps (l,z) s):=by have:=kk.o;rw[ty (by omega)]at this;exact this
   go_wp2_with fail;go_roundw;exact⟨k+1,by omega,by go_num,cc,cl.o gt.o gz.o⟩;simp[intOf];omega
  obtain⟨b',pa,le,he,_,m4,e0,e1⟩:=(ld wr cc.o).one m hlt2;cases he;have h7:Hid (ys[m]∈ys):=up hlt2;have l5:Hid (∀{P:RK->Prop},(∀a∈ys.take m,P a)->P ys[m]->∀a∈ys.take (m+1),P a):=λh1 h2=>vm hlt2 h1 h2;obtain⟨s,hs⟩:=Qe (ys[m]);rw[hs]at e0 e1 h7 l5;obtain⟨E,H⟩:=s;dsimp only at e0 e1;rw[vz]at e0 e1;clear hs;have t2:=cc.size;have g7:Bk wr R #[l,z] 36:=(e7.block _ q6.o).trans kt.o;have ds:=af g7;obtain⟨r9,j1⟩:=du g7;have ny:∀o,(wr.alloc o).cell? R=X (J U l):=λo=>by rw[bf _ _ _ _ ds];exact r9
  have nx:∀o,(wr.alloc o).cell? ⟨R,1,Y⟩=X (J U z):=λo=>by rw[bf _ _ _ _ ds];exact j1
  obtain⟨Wp,f8⟩:=Qe ((wr.alloc (hK #[E,H] 36)).alloc (hK #[l,z,E,H] 134));have hD:Bw wr Wp:=by rw[<- f8];exact((nq _ wr).alloc (mk _) _).alloc (by simp) _
  have p5:Wp.heap.size=wr+2:=by rw[<- f8];simp
  have lv:Wp.heap[wr.heap.size]?=X (hK #[E,H] 36 (0,0)):=by rw[<- f8,Below.heap_alloc _ _ _ (by simp)];exact ih wr _
  have ls:Wp.heap[wr.heap.size+1]?=X (hK #[l,z,E,H] 134 (0,0)):=by rw[<- f8];have:=ih (wr.alloc (hK #[E,H] 36)) (hK #[l,z,E,H] 134);rwa[World.size_alloc]at this
  have e9:Hid (∀W2,bF Wp W2->Bk W2 (wr.heap.size+1) #[l,z,E,H] 134/\Bk W2 wr #[E,H] 36/\Bk W2 R #[l,z] 36/\Bw wr W2):=λW2 hg=>by have C:=hg.below;exact⟨(C.block _ (by omega)).trans ls,(C.block _ (by omega)).trans lv,(C.block _ (by omega)).trans ((hD.block _ ds).trans g7),hD.trans (C.mono (by omega))⟩
  have d0:=Z p5;have ss:=Z ds;obtain⟨v0,v1⟩:=du (e9 Wp (bF.refl _)).2.1;obtain⟨v2,v3⟩:=du (e9 Wp (bF.refl _)).2.2.1;clear hD p5 lv ls ds g7;have HC:Hid (∀W,Calls prog 49 #[.agg #[E,H],.agg #[l,z]] W λe w'=>e=hb (bI (E,H) (l,z))/\bF W w'):=λW=>fj (E,H) (l,z) W;have aC:(bI (E,H) (l,z)<0)↔ltRK (E,H) (l,z)=true:=eZ _ _;have ks:Hid (pkOk (pairK (l,z) (E,H))):=pV (qb _ c6.o) (qd _ h7.o);have c5:Hid (pairK (l,z) (E,H)=if ltRK (E,H) (l,z)then((E,H),(l,z))else((l,z),(E,H))):=rfl;have kx:Hid (dK d.ps (l,z) (E,H)->∀a∈ys.take (m+1),dK d.ps (l,z) a):=λh=>l5 kk.o h;have gi:Hid (∀n,findK d.ps (pairK (l,z) (E,H))=X (n,false)->bP d.ps L set ((a1,a2),(b1,b2))=set):=λn hn=>by rw[cd.o,if_pos];rw[j3.o,jm];exact⟨_,c6.o,_,h7.o,n,hn⟩
  by_cases hltc:ltRK (E,H) (l,z)=true
  focus
   have hF:bI (E,H) (l,z)<0:=aC.2 hltc
   rw[if_pos hltc]at c5
   generalize bI (E,H) (l,z)=cm at*
   clear hltc aC
   go_wp2_with (go_at_call 49;go_loud (((with_reducible refine vs (HC.o _) ?_);rintro e W2⟨rfl,au⟩;obtain⟨g0,N,g2,g5⟩:=e9.o _ au;obtain⟨z0,z1⟩:=du N;obtain⟨z2,z3⟩:=du g2;obtain⟨p0,p1,p2,p3⟩:=nL g0;have f0:=ae g0 0;have f1:=ae g0 1;have f2:=ae g0 2;have f3:=ae g0 3;have G0:=Z g0;have G5:=Z g5;clear g0 N g2 g5 au)))
   have b3:Hid ((((((W2.setCell ⟨wr.heap.size+1,0,Y⟩ E).setCell ⟨wr.heap.size+1,1,Y⟩ H).setCell ⟨wr.heap.size+1,2,Y⟩ l).setCell ⟨wr.heap.size+1,3,Y⟩ z)).heap[wr.heap.size+1]?=X (hK #[E,H,l,z] 134 (0,0))):=aA (aA (aA (aA G0.o 0 E) 1 H) 2 l) 3 z
   have e6:Hid (Bw wr ((((W2.setCell ⟨wr.heap.size+1,0,Y⟩ E).setCell ⟨wr.heap.size+1,1,Y⟩ H).setCell ⟨wr.heap.size+1,2,Y⟩ l).setCell ⟨wr.heap.size+1,3,Y⟩ z)):=(((G5.o.setCell (by simp) _).setCell (by simp) _).setCell (by simp) _).setCell (by simp) _
   generalize((((W2.setCell ⟨wr.heap.size+1,0,Y⟩ E).setCell ⟨wr.heap.size+1,1,Y⟩ H).setCell ⟨wr.heap.size+1,2,Y⟩ l).setCell ⟨wr.heap.size+1,3,Y⟩ z)=W3 at*
   clear z0 z1 z2 z3 p0 p1 p2 p3 f0 f1 f2 f3 e0 e1 r9 j1 ny nx v0 v1 v2 v3
   have gp:Hid (∃p1 p2 q1 q2:Int,pairK (l,z) (E,H)=((p1,p2),(q1,q2))/\Bk W3 (wr.heap.size+1) #[p1,p2,q1,q2] 134):=⟨E,H,l,z,c5.o,b3.o⟩
   clear c5 b3
  rotate_left
  focus
   have hF:¬(bI (E,H) (l,z)<0):=λhh=>hltc (aC.1 hh)
   rw[if_neg hltc]at c5
   generalize bI (E,H) (l,z)=cm at*
   clear hltc aC
   go_wp2_with (go_at_call 49;go_loud (((with_reducible refine vs (HC.o _) ?_);rintro e W3⟨rfl,au⟩;obtain⟨g0,N,g2,g5⟩:=e9.o _ au;have b3:=Z g0;have e6:=Z g5;clear g0 N g2 g5 au)))
   clear e0 e1 r9 j1 ny nx v0 v1 v2 v3
   have gp:Hid (∃p1 p2 q1 q2:Int,pairK (l,z) (E,H)=((p1,p2),(q1,q2))/\Bk W3 (wr.heap.size+1) #[p1,p2,q1,q2] 134):=⟨l,z,E,H,c5.o,b3.o⟩
   clear c5 b3
  all_goals
   obtain⟨a4,a5,a9,aa,i1,b0⟩:=gp.o
   rw[i1]at ks gi
   have gO:Hid ((∀n,findK d.ps ((a4,a5),(a9,aa))≠X (n,false))->dK d.ps (l,z) (E,H)):=λh=>by unfold dK;rw[i1];exact h
   have b3:=Z b0
   clear i1 b0 gp
   have e5:Hid (Bw w3 W3):=btr cc.o e6.o cc.size
   have hw:=e5.size
   obtain⟨ov,hT⟩:=Qe (findK d.ps ((a4,a5),(a9,aa)))
   have kb:Hid (∀W,Bw W3 W->(r1 115 (.map m3) (.agg #[a4,a5,a9,aa]) true).run prog W=.ok (.tuple #[.agg #[J U (ov.getD (0,false)).1,gP (ov.getD (0,false)).2],gP ov.isSome]) W):=λW C=>by
    rw[<- hT];exact ka.o W (btr e5.o C hw) a4 a5 a9 aa ks.o
   rw[hT]at gi gO
   obtain⟨o1,mP⟩:=Qe ((ov.getD (0,false)).1)
   obtain⟨o2,hQ⟩:=Qe ((ov.getD (0,false)).2)
   obtain⟨th,iD⟩:=Qe ov.isSome
   rw[mP,hQ,iD]at kb
   have kl:=Z hQ
   have l4:=Z iD
   clear hT mP hQ iD
   have px:Hid (∀W,Bw W3 W->Cl W bc 0 (.pointer c)/\Cl W c 2 (.map m3)/\Cl W (wr.heap.size+1) 0 a4/\Cl W (wr.heap.size+1) 1 a5/\Cl W (wr.heap.size+1) 2 a9/\Cl W (wr.heap.size+1) 3 aa):=λW C=>by
    obtain⟨_,_,_,N,g2,_⟩:=b8 W (btr e5.o C hw)
    exact⟨N,g2,nL ((C.block _ (af b3.o)).trans b3.o)⟩
   have dk:Bw W3 W3.drew:=(nq _ W3).drew
   refine Wb W3 11 ?_
   have B:=tkL [0,4,1,2,3]
   repeat(refine tkI B ?_ rfl dk ?_ ?_;rotate_left;intro w' h;obtain⟨h0,h1,h2,h3,h4,h5⟩:=px w' h;go_simp;rfl;(try go_simp);replace B:=tkO B)
   clear B
   refine Qb [5] dk kb ?_
   have B:=tkL [6,7,8]
   repeat(refine tkI B ?_ rfl dk ?_ ?_;rotate_left;intro w' h;go_simp;rfl;(try go_simp);replace B:=tkO B)
   clear B
   refine Dp 9 λK b=>?_
   go_simp
   have ac:∀o,Bw W3 (W3.drew.alloc o):=λo=>dk.alloc (mk _) o
   refine b _ _ (λ_=>ac _) ?_
   clear b K
   refine Dp 10 λK b=>?_
   go_simp
   have ao:∀o,Bw W3 (W3.alloc o).drew:=λo=>((nq _ W3).alloc (mk _) o).drew
   refine b _ _ (λ_=>ao _) ?_
   clear b K
   refine Dp 11 λK b=>?_
   go_simp
   refine b _ _ (λh=>absurd rfl h) ?_
   clear b K
   refine dN ?_
   obtain⟨W4,f7⟩:=Qe ((W3.alloc (hK #[J U o1,gP o2] 139)).drew)
   have lp:W4.heap[W3.heap.size]?=X (hK #[J U o1,gP o2] 139 (0,0)):=by rw[<- f7];exact ih W3 _
   have hC:Bw W3 W4:=by rw[<- f7];exact ao _
   rw[f7]
   obtain⟨sC,sM⟩:=du lp
   have j4:Hid (Bw w3 W4):=btr e5.o hC hw
   have jn:Hid (Bw wz W4):=btr e7.o (btr e6.o hC e6.size) e7.size
   clear ac ao f7 lp hC dk
   cases th
   .have HN:Hid (dK d.ps (l,z) (E,H)):=gO (λn=>by
     have:=l4.o
     cases ov with
     |none=>simp
     |some v=>cases this)
    go_wp2_with fail
    go_roundw
    case rel=>exact⟨m+1,by omega,by go_num,jn,kx.o HN.o⟩
    case measure=>simp[intOf];omega
   .cases o2
    .obtain⟨v,rfl⟩:∃v,ov=X v:=Option.isSome_iff_exists.1 l4.o
     have HR:Hid (bP d.ps L set ((a1,a2),(b1,b2))=set):=gi v.1 (by
      have:=kl.o
      obtain⟨v1,v2⟩:=v
      simp at this
      rw[this])
     go_wp2_with fail
     refine vd (ua rfl _ _ _) rfl ?_
     rw[HR.o]
     exact⟨rfl,a0.below j4.o,cp _ (btr ax.o j4.o ax.size)⟩
    .have HN:Hid (dK d.ps (l,z) (E,H)):=gO (λn hn=>by
      have:=kl.o
      rw[hn]at this
      cases this)
     go_wp2_with fail
     go_roundw
     case rel=>exact⟨m+1,by omega,by go_num,jn,kx.o HN.o⟩
     case measure=>simp[intOf];omega
 skip;have lE:jo d.ps xs ys=false:=qN (by have:=gt.o;rw[ty (by omega)]at this;exact this);have k7:Hid (bP d.ps L set ((a1,a2),(b1,b2))=mergeS set a6 a7):=by unfold Hid;rw[cd.o,j3.o,lE];rfl
 have k5:Hid (Bw w1 wr):=btr ax.o bY.o ax.size;have b5:Bk wr w1 #[x1,x2] 36:=(bY.block _ (af cq.o)).trans cq.o;have b6:Bk wr D #[O,T] 36:=(bY.block _ (af cv.o)).trans cv.o;have lb:Hid (∀W,Bw wr W->Bk W w1 #[x1,x2] 36/\Bk W D #[O,T] 36/\Bw w1 W):=λW C=>⟨(C.block _ (af b5)).trans b5,(C.block _ (af b6)).trans b6,btr k5.o C k5.size⟩;obtain⟨pb,pc⟩:=du b5;obtain⟨pd,pe⟩:=du b6;have HC:Hid (∀W,Calls prog 49 #[.agg #[O,T],.agg #[x1,x2]] W λe w'=>e=hb (bI (O,T) (x1,x2))/\bF W w'):=λW=>fj (O,T) (x1,x2) W;have aC:(bI (O,T) (x1,x2)<0)↔ltRK (O,T) (x1,x2)=true:=eZ _ _;have fp:ltRK (O,T) (x1,x2)=true↔a7<a6:=by rw[<- er.o,<- es.o];exact uB a0.o.srt cz.o cs.o
 clear b5 b6 gt cd l7 ld kc kd b8 ka lE;have ky:Hid (Sd L set lm w1 ml a6 x1 x2 gx cx xs):=⟨pk.o,pl.o,po.o,ob,er.o,cs.o,h9.o,oc⟩;have kz:Hid (Sd L set lm w1 ml a7 O T gy cy ys):=⟨pr.o,pt.o,pv.o,oF,es.o,cz.o,ha.o,oN⟩;by_cases hltc:ltRK (O,T) (x1,x2)=true
 focus
  have hF:bI (O,T) (x1,x2)<0:=aC.2 hltc
  have al:Hid (a7<a6):=fp.1 hltc
  generalize bI (O,T) (x1,x2)=cm at*
  clear hltc aC fp
  have lf:¬(w1.heap.size=D):=by have:=hc.o;omega
  have qt:¬(D.heap.size=w1):=λe=>lf e.symm
  go_wp2_with (go_at_call 49;go_loud (((with_reducible refine vs (HC.o _) ?_);rintro e W2⟨rfl,au⟩;obtain⟨g0,N,g5⟩:=lb.o _ au.below;obtain⟨z0,z1⟩:=du g0;obtain⟨z2,z3⟩:=du N;have f0:=ae g0 0;have f1:=ae g0 1;have f2:=ae N 0;have f3:=ae N 1;have G0:=Z g0;have G1:=Z N;have G5:=Z g5;clear g0 N g5 au)))
  obtain⟨I,d2⟩:=Qe ((((W2.setCell ⟨w1,0,Y⟩ O).setCell ⟨w1,1,Y⟩ T).setCell ⟨D,0,Y⟩ x1).setCell ⟨D,1,Y⟩ x2)
  have b9:Hid (I.heap[w1.heap.size]?=X (hK #[O,T] 36 (0,0))):=by
   unfold Hid
   rw[<- d2,tt _ _ _ _ (by simp;omega),tt _ _ _ _ (by simp;omega)]
   exact aA (aA G0.o 0 O) 1 T
  have b4:Hid (I.heap[D.heap.size]?=X (hK #[x1,x2] 36 (0,0))):=by
   unfold Hid
   rw[<- d2]
   have g9:((W2.setCell ⟨w1,0,Y⟩ O).setCell ⟨w1,1,Y⟩ T).heap[D.heap.size]?=X (hK #[O,T] 36 (0,0)):=by
    rw[tt _ _ _ _ (by simp;omega),tt _ _ _ _ (by simp;omega)];exact G1.o
   exact aA (aA g9 0 x1) 1 x2
  have ay:Hid (Bw w1 I):=by
   unfold Hid
   rw[<- d2]
   have:=hc.o
   exact(((G5.o.setCell (by simp) _).setCell (by simp) _).setCell (by simp;omega) _).setCell (by simp;omega) _
  rw[d2]
  clear d2 z0 z1 z2 z3 f0 f1 f2 f3 pb pc pd pe lf qt
  have gq:Hid (Bn L set lm w1 D ml I (bP d.ps L set ((a1,a2),(b1,b2)))):=⟨a7,a6,O,T,x1,x2,gy,cy,ys,gx,cx,xs,kz.o,ky.o,al.o,k7.trans (uo set a6 a7),b9.o,b4.o⟩
  clear b9 b4 al
 rotate_left
 focus
  have hF:¬(bI (O,T) (x1,x2)<0):=λhh=>hltc (aC.1 hh)
  have al:Hid (a6<a7):=by
   unfold Hid
   have h1:¬a7<a6:=λh=>hltc (fp.2 h)
   have h2:=la.o
   omega
  generalize bI (O,T) (x1,x2)=cm at*
  clear hltc aC fp
  go_wp2_with (go_at_call 49;go_loud (((with_reducible refine vs (HC.o _) ?_);rintro e I⟨rfl,au⟩;obtain⟨g0,N,g5⟩:=lb.o _ au.below;have b9:=Z g0;have b4:=Z N;have ay:=Z g5;clear g0 N g5 au)))
  clear pb pc pd pe
  have gq:Hid (Bn L set lm w1 D ml I (bP d.ps L set ((a1,a2),(b1,b2)))):=⟨a6,a7,x1,x2,O,T,gx,cx,xs,gy,cy,ys,ky.o,kz.o,al.o,k7.o,b9.o,b4.o⟩
  clear b9 b4 al
 all_goals
  obtain⟨iP,iQ,a4,a5,a9,aa,V,cP,lP,gQ,cQ,lQ,i6,i8,md,d3,oa,op⟩:=gq.o
  have a3:=Z i6
  have a8:=Z i8
  have al:=Z md
  have pf:=Z d3
  have b9:=Z oa
  have b4:=Z op
  have oc:=i6.len
  have oN:=i8.len
  clear i6 i8 md d3 oa op gq
  obtain⟨i0,hi,og,oi,oj⟩:=info_parts i36
  have ad:=M.below ay.o
  have bB:an recB I A lm:=c4.block (ay.block _ c4.lt)
  have hG:ml<=V/\V<w1:=a3.s2.lt V rfl
  have r0:ml<=gQ/\gQ<w1:=a8.s2.lt gQ rfl
  have hZ:¬((a4,a5)=((a9,aa):RK)):=λe2=>by
   have:=cY a0.o.srt a3.o.lt a8.o.lt (by rw[a3.o.key,a8.o.key,e2])
   have h2:=al.o
   omega
  have ma:V≠gQ:=λe=>eq.o _ _ _ _ a3.o.s1 a8.o.s1 hZ (by simp[tr,e])
  have dq:I.ownsRow ml 36 2 (fn V lP cP) lP (lP.flatMap rkCells):=aj a3.s2 (λg hg=>ay.block g (a3.s2.lt g hg).2)
  have g8:I.ownsRow ml 36 2 (fn gQ lQ cQ) lQ (lQ.flatMap rkCells):=aj a8.s2 (λg hg=>ay.block g (a8.s2.lt g hg).2)
  have mv:A<w1:=c4.lt
  have av:A≠bt/\A≠t/\A≠V/\A≠gQ:=by
   obtain⟨cu,aS⟩:=aK dq rfl
   obtain⟨sz,qy⟩:=aK g8 rfl
   exact⟨ak bB ad.vt,ak bB ad.tb,ak bB aS,ak bB qy⟩
  have bv:V≠bt/\V≠t:=by
   obtain⟨cu,aS⟩:=aK dq rfl
   exact⟨dw aS ad.vt (by decide),dw aS ad.tb (by decide)⟩
  have o3:=ay.size
  have se:w1.heap.size<D:=by have:=hc.o;omega
  have c0:Hid (∀W:tx,(∀q,q=bt∨q=t∨q=w1∨q=D->W.heap[q]?=I.heap[q]?)->Cl W bt 0 (.pointer t)/\Cl W t 1 (g1 (X A))/\(Cl W w1 0 a4/\Cl W w1 1 a5)/\(Cl W D 0 a9/\Cl W D 1 aa)/\Cl W t 0 (g1 (X f))):=λW hW=>by
   have N:=(hW bt (.inl rfl)).trans ad.vt
   have g2:=(hW t (.inr (.inl rfl))).trans ad.tb
   exact⟨(ab N 0).trans rfl,(du g2).2,du ((hW _ (.inr (.inr (.inl rfl)))).trans b9.o),du ((hW _ (.inr (.inr (.inr rfl)))).trans b4.o),(du g2).1⟩
  have hV:rkOk (a4,a5):=a3.ok
  have nu:rkOk (a9,aa):=a8.ok
  have rt:(r1 93 (g1 (X A)) (.agg #[a9,aa]) false).run prog I.drew=.ok (fn gQ lQ cQ) I.drew:=by
   have:=an.look (w:=I.drew) (an.drew bB) underlying93 (fd I.drew) (a9,aa) nu
   rw[a8.o.s1]at this;exact this
  have rr:lm.length<=5000:=ts (pW c4.o (λk hk=>by
   obtain⟨t',h1,_,h3⟩:=(cj k).1 hk
   rw[<- h3,fD M.o.srt h1];rfl)) M.o.len
  obtain⟨st,qs,qf,i4,m0,fy,o4⟩:=an.entry (w:=I.drew) (an.drew bB) hU underlying93 fd (a4,a5) hV (by unfold maxLen;omega)
  rw[a3.o.s1]at i4
  have ht:=c0 I.drew (λ_ _=>rfl)
  go_wp2_with fail
  refine wT (λW=>Cl W bt 0 (.pointer t)/\Cl W t 1 (g1 (X A))/\(Cl W w1 0 a4/\Cl W w1 1 a5)/\(Cl W D 0 a9/\Cl W D 1 aa)/\Cl W t 0 (g1 (X f))) 15 ?_
  have B:=tkL [0,4,5,9,1,6,2,7,3,8]
  repeat(refine tkI B ?_ rfl ht ?_ ?_;rotate_left;intro w' h;obtain⟨h0,h1,⟨h2,h3⟩,⟨h4,h5⟩,_⟩:=h;go_simp;rfl;(try go_simp);replace B:=tkO B)
  clear B
  refine Dp 10 λK b=>?_
  go_simp
  refine b _ _ (λ_=>ht) ?_
  clear b K
  refine Dp 11 λK b=>?_
  refine bH rfl i4 ?_
  generalize hw6:Go.ChangeMaps.setBlock I.drew A (.map qs qf)=w6 at*
  have c7:∀q,q≠A->w6.heap[q]?=I.heap[q]?:=λq hq=>fy.block q hq
  have sj:w6.heap.size=I:=fy.size
  have hv:=c0.o w6 (λq hq=>c7 q (by rcases hq with rfl|rfl|rfl|rfl;exact av.1.symm;exact av.2.1.symm;omega;omega))
  refine b _ _ (λ_=>hv) ?_
  clear b K
  go_simp
  have B:=tkL [12,14]
  repeat(refine tkI B ?_ rfl hv ?_ ?_;rotate_left;intro w' h;go_simp;rfl;(try go_simp);replace B:=tkO B)
  clear B
  obtain⟨gb,d1,w7,i2,da,bw,m7⟩:=bz (P:=prog) w6 ml 52 52 36 i0 _ 2 16 underlying52 hi og oi oj rfl (by decide) V lP cP (lP.flatMap rkCells) (aj dq (λg hg=>c7 g (by simp[tr]at hg;omega))) I (fn gQ lQ cQ) lQ (lQ.flatMap rkCells) (((aM g8).mono (r2 _) (mk _)) |> λh=>(aM (aj g8 (λg hg=>c7 g (by simp[tr]at hg;omega)))).mono (r2 _) (by omega)) (pM lQ) (vB lQ) (by unfold maxLen;omega) (by omega) (by have:=ej.o.1;have:=bO.o.size;omega)
  obtain⟨zs,dz⟩:=Qe (lP++lQ)
  have p4:lP.length+lQ=zs:=by rw[<- dz];simp
  have d3:lP.flatMap rkCells++lQ.flatMap rkCells=zs.flatMap rkCells:=by rw[<- dz,List.flatMap_append]
  rw[p4]at i2 da
  rw[d3]at da
  have d0:Hid (zs.Perm (bg L (mergeS set iP iQ) iP)):=by
   have:=xU M.o.srt M.o.ok.len (show iP≠iQ fromλe=>by have:=al.o;omega) a3.o.s3 a8.o.s3
   rw[dz,vb (vN al.o)]at this
   exact this
  have t3:zs.length<=10000:=by omega
  have sx:=Z dz
  clear dz d3
  refine Dp 13 λK b=>?_
  refine iR rfl rfl rfl i2 ?_
  have d6:∀q,q<w6.heap.size->q≠V->w7.heap[q]?=w6.heap[q]?:=λq hq hP=>bw.block q hq (λe=>hP (by injection e))
  have lk:D.heap.size<I:=af b4.o
  have m5:bt<I:=af ad.vt
  have o5:t<I:=af ad.tb
  have lB:=c0.o w7 (λq hq=>(d6 q (by rcases hq with rfl|rfl|rfl|rfl<;>omega) (by rcases hq with rfl|rfl|rfl|rfl;exact bv.1.symm;exact bv.2.symm;omega;omega)).trans (c7 q (by rcases hq with rfl|rfl|rfl|rfl;exact av.1.symm;exact av.2.1.symm;omega;omega)))
  refine b _ _ (λ_=>lB) ?_
  clear b K
  obtain⟨w8,nE,mn,d9⟩:=o4 w7 (fn gb zs d1) ((d6 A (by omega) av.2.2.1).trans m0)
  refine Dp 15 λK b=>?_
  refine bj rfl nE ?_
  refine b _ _ (λh=>absurd rfl h) ?_
  clear b K
  refine dN ?_
  have mb:aF A I w6:=(aF.refl A I).drew.trans fy
  have it:ai (λq=>q=f∨q=A∨q=V) I (λq=>q=f∨q=A∨q=V) w8:=
   ((ai.of_only mb (.inr (.inl rfl))).trans (⟨bw.os,bw.tape,bw.output,bw.size,λk hk hn=>d6 k hk (λe=>hn (.inr (.inr e))),λ_ h=>.inl h⟩:ai _ w6 _ w7)).trans (ai.of_only d9 (.inr (.inl rfl)))
  have fc:gb=V∨I<=gb:=by rcases m7 with e|e;exact .inl e;right;omega
  obtain⟨e4,d8,mc⟩:=ad.of
  have aT:f≠bt/\f≠t/\f≠A:=⟨ak d8 ad.vt,ak d8 ad.tb,ad.ne⟩
  have ms:f<w1:=by obtain⟨l1,N,_⟩:=M.of;exact N.lt
  have fx:f≠V:=by
   obtain⟨cu,aS⟩:=aK dq rfl
   exact ak d8 aS
  have hO:f≠gb:=by rcases fc with e|e;rw[e];exact fx;omega
  have sk:w6.heap.size<=w7:=bw.size
  have sl:w8.heap.size=w7:=d9.size
  have qz:gb<w7:=(da.lt gb rfl).2
  have ft:A≠gb:=by rcases fc with e|e;rw[e];exact av.2.2.1;omega
  obtain⟨w9,nz,hN,n0⟩:=an.del_run (w:=w8.drew) (an.drew mn) underlying93 (a9,aa) nu 0
  have d4:aF A w8 w9:=(aF.refl A w8).drew.trans n0
  have iv:ai (λq=>q=f∨q=A∨q=V) I (λq=>q=f∨q=A∨q=V) w9:=it.trans (ai.of_only d4 (.inr (.inl rfl)))
  have gd:ai (λq=>q=f∨q=A∨q=V) I (λq=>q=f∨q=A∨q=V) w9.drew:=iv.trans (ai.of_below (nq _ w9).drew)
  have fz:w9.drew.ownsRow ml 36 2 (fn gb zs d1) zs (zs.flatMap rkCells):=aj da (λg hg=>by
   simp only[tr,tz]at hg
   subst hg
   exact(d4.block _ (λe=>ft e.symm)).trans (d9.block _ (λe=>ft e.symm)))
  have g6:∀q,q=bt∨q=t∨q=w1∨q=D->q<I/\q≠f/\q≠A/\q≠V:=λq hq=>by
   rcases hq with rfl|rfl|rfl|rfl
   .exact⟨m5,aT.1.symm,av.1.symm,bv.1.symm⟩
   .exact⟨o5,aT.2.1.symm,av.2.1.symm,bv.2.symm⟩
   .exact⟨by omega,by omega,by omega,by omega⟩
   .exact⟨lk,by omega,by omega,by omega⟩
  have bk:=c0 w8.drew (λq hq=>by obtain⟨N,g2,g3,g4⟩:=g6 q hq;exact it.block q N (by rintro(e|e|e);exact g2 e;exact g3 e;exact g4 e))
  have qv:=c0 w9 (λq hq=>by obtain⟨N,g2,g3,g4⟩:=g6 q hq;exact iv.block q N (by rintro(e|e|e);exact g2 e;exact g3 e;exact g4 e))
  have rs:(r1 93 (g1 (X A)) (.agg #[a4,a5]) false).run prog w9.drew=.ok (fn gb zs d1) w9.drew:=by
   have:=an.look (w:=w9.drew) (an.drew hN) underlying93 (fd w9.drew) (a4,a5) hV
   rw[mB,if_neg hZ,dH,if_pos rfl]at this;exact this
  have s0:an recB w9.drew f e4:=d8.block (by
   have e1:w9.drew.heap[f]?=w8.heap[f]?:=d4.block f aT.2.2
   exact e1.trans ((d9.block f aT.2.2).trans ((d6 f (by omega) fx).trans (c7 f aT.2.2))))
  have k6:Hid (∀W,ai (λq=>q=f) w9.drew (λq=>q=f) W->(Cl W bt 0 (.pointer t)/\Cl W t 0 (g1 (X f))/\(Cl W w1 0 a4/\Cl W w1 1 a5))/\eL 0 W W (fn gb zs d1) zs):=λW C=>by
   have si:=gd.size
   obtain⟨N,g2,g3,g4,g5⟩:=c0 W (λq hq=>by
    obtain⟨N,g2,g3,g4⟩:=g6 q hq
    exact(C.block q (by omega) g2).trans (gd.block q N (by rintro(e|e|e);exact g2 e;exact g3 e;exact g4 e)))
   exact⟨⟨N,g5,g3⟩,(aM (aj fz (λg hg=>C.block g (fz.lt g hg).2 (by
    simp only[tr,tz]at hg
    subst hg
    exact hO.symm)))).mono (r2 _) (mk _)⟩
  have k9:=Z mc
  have pz:=Z hN
  have kv:=Z gd
  have kq:=Z fz
  have sq:=Z d4
  have q0:Hid (f≠A/\f≠V/\f≠gb/\A≠gb/\(gb=V∨I<=gb)/\f≠bt/\f≠t/\A≠bt/\A≠t/\V≠bt/\V≠t/\V≠gQ/\f<w1/\A<w1/\V<w1/\ml<=V/\w1.heap.size<=I/\bt<w1/\t<w1):=⟨aT.2.2,fx,hO,ft,fc,aT.1,aT.2.1,av.1,av.2.1,bv.1,bv.2,ma,ms,mv,hG.2,hG.1,o3,af M.vt,af M.tb⟩
  have t1:=hV
  clear it iv gd fz d4 mb g6 hN n0 rt i4 dq g8 bB ad av bv hG r0 ma aT ms fx hO ft fc m7 c7 d6 sj sk sl qz ht hv lB m0 fy o4 da bw i2 nE mn d9 mc hi og oi oj lk m5 o5 se o3 mv d8 rr p4
  go_wp2_with fail
  obtain⟨z0,z1,z2,z3,z4⟩:=id bk
  refine wT (λW=>Cl W bt 0 (.pointer t)/\Cl W t 1 (g1 (X A))/\(Cl W w1 0 a4/\Cl W w1 1 a5)/\(Cl W D 0 a9/\Cl W D 1 aa)/\Cl W t 0 (g1 (X f))) 5 ?_
  refine Qb [4] bk (λw' h=>h) ?_
  refine Dp 0 λK b=>?_
  go_simp
  refine b _ _ (λ_=>bk) ?_
  clear b K
  refine Dp 1 λK b=>?_
  go_simp
  refine b _ _ (λ_=>bk) ?_
  clear b K
  refine Dp 2 λK b=>?_
  go_simp
  refine b _ _ (λ_=>bk) ?_
  clear b K
  refine Qb [3] bk (λw' h=>h) ?_
  refine Dp 5 λK b=>?_
  refine tE rfl rfl rfl nz ?_
  refine b _ _ (λh=>absurd rfl h) ?_
  clear b K
  refine dN ?_
  clear z0 z1 z2 z3 z4 bk nz
  go_wp2_with fail
  obtain⟨z0,z1,⟨z2,z3⟩,⟨z4,z5⟩,z6⟩:=qv
  go_simp
  go_big_region
  go_wp2_with fail
  clear z0 z1 z2 z3 z4 z5 z6 rs
  go_loopw [16,130] (λ_x i wr=>∃m:Nat,m<=zs/\i=J U m/\Hid (ai (λq=>q=f) w9.drew (λq=>q=f) wr)/\Hid (∃l2,an recB wr f l2/\∀k,lookL l2 k=if k∈zs.take m then X (recK (a4,a5))else lookL e4 k)) (λ_ i _=>zs-(intOf i).toNat)
  case atStart=>exact⟨0,r2 _,rfl,ai.refl _ _,e4,s0,λk=>by simp⟩
  case round=>
   obtain⟨m,hm,rfl,h8,k8⟩:=hrel
   by_cases hlt3:m<zs
   .obtain⟨_,nO⟩:=k6 wr h8.o
    obtain⟨b',pa,le,he,_,m4,e0,e1⟩:=nO.one m hlt3
    cases he
    have c6:Hid (zs[m]∈zs):=up hlt3
    have cl:Hid (zs.take (m+1)=zs.take m++[zs[m]]):=uc hlt3
    obtain⟨r,hr⟩:=Qe (zs[m])
    rw[hr]at e0 e1 c6 cl
    obtain⟨l,z⟩:=r
    dsimp only at e0 e1
    rw[vz]at e0 e1
    clear hr nO
    have ac:Bw wr (wr.alloc (hK #[l,z] 36)).drew:=((nq _ wr).alloc (mk _) _).drew
    obtain⟨wz,b7⟩:=Qe ((wr.alloc (hK #[l,z] 36)).drew)
    have hnew:wz.heap[wr.heap.size]?=X (hK #[l,z] 36 (0,0)):=by rw[<- b7];exact ih wr _
    rw[b7]at ac
    have l3:Hid (ai (λq=>q=f) w9.drew (λq=>q=f) wz):=h8.trans (ai.of_below ac)
    obtain⟨⟨g0,N,g2,g3⟩,_⟩:=k6 wz l3.o
    obtain⟨g4,g5⟩:=du hnew
    obtain⟨l2,fl,hM⟩:=k8.o
    have s6:rkOk (l,z):=by
     obtain⟨i,hi,_,hk⟩:=bn.1 (d0.mem_iff.1 c6.o)
     rw[<- hk];exact M.o.key i hi
    have rl:l2.length<=5000:=ts (pW fl (λk hk=>by
     rw[hM]at hk
     split at hk
     .rename_i d5
      obtain⟨i,hi,_,r4⟩:=bn.1 (d0.mem_iff.1 (List.mem_of_mem_take d5))
      rw[<- r4,fD M.o.srt hi];rfl
     .rw[k9.o]at hk
      simpa using hk)) M.o.len
    obtain⟨wu,nF,mt,nb⟩:=an.put_run (w:=wz) (fl.block (ac.block _ fl.lt)) underlying92 (by unfold maxLen;omega) (l,z) s6 (recK (a4,a5))
    have q5:Hid (ai (λq=>q=f) w9.drew (λq=>q=f) wu):=l3.trans (ai.of_only nb rfl)
    have py:Hid (∃l2,an recB wu f l2/\∀k,lookL l2 k=if k∈zs.take (m+1)then X (recK (a4,a5))else lookL e4 k):=⟨_,mt,λk=>by
     rw[dH,hM,cl.o]
     by_cases e:k=(l,z)
     .rw[if_pos e,if_pos (by rw[e];simp)]
     .rw[if_neg e]
      by_cases e2:k∈zs.take m
      .rw[if_pos e2,if_pos (List.mem_append_left _ e2)]
      .rw[if_neg e2,if_neg (by simp[e,e2])]⟩
    clear ac hnew fl hM mt nb rl
    go_wp2_with fail
    refine wT (λW=>W=wz) 6 ?_
    rw[b7]
    have B:=tkL [0,4,5,1,2,3]
    repeat(refine tkI B ?_ rfl rfl ?_ ?_;rotate_left;intro w' h;obtain rfl:=h;go_simp;rfl;(try go_simp);replace B:=tkO B)
    clear B
    refine Dp 6 λK b=>?_
    refine fZ rfl nF ?_
    refine b _ _ (λh=>absurd rfl h) ?_
    clear b K
    refine dN ?_
    clear b7 g0 N g2 g3 g4 g5 e0 e1 nF
    go_wp2_with fail
    go_roundw
    case rel=>exact⟨m+1,by omega,by go_num,q5,py⟩
    case measure=>simp[intOf];omega
   .have gz:Hid (∃l2,an recB wr f l2/\∀k,lookL l2 k=if k∈zs then X (recK (a4,a5))else lookL e4 k):=by
     obtain⟨l2,q1,q2⟩:=k8.o
     rw[ty (by omega)]at q2
     exact⟨l2,q1,q2⟩
    go_wp2_with fail
    refine bodyPost_end (ua rfl _ _ _) rfl ?_
    rw[pf.o]
    obtain⟨l2,q1,q2⟩:=gz.o
    obtain⟨n1,n2,n3,n4,n5,n6,n7,n8,n9,sm,so,t6,t7,t8,t9,ta,tc,td,te⟩:=q0.o
    have az:=M.below ay.o
    have hS:=h8.o
    have lx:=kv.trans (hS.widen (G:=λq=>q=f∨q=A∨q=V) (λk h=>.inl h))
    have si:=kv.size
    have t4:=hS.size
    have HQ:∀q,q<I.heap.size->q≠f->q≠A->q≠V->wr.heap[q]?=I.heap[q]?:=λq N g2 g3 g4=>lx.block q N (by rintro(e|e|e);exact g2 e;exact g3 e;exact g4 e)
    obtain⟨t5,mp,_⟩:=M.of
    obtain⟨cu,aS⟩:=aK a3.s2 rfl
    have c1:f≠bc:=ak mp M.vc
    have c2:A≠bc:=ak c4.o M.vc
    have c3:V≠bc:=dw aS M.vc (by decide)
    have bA:=M.los
    have c9:min iP iQ=iP:=vb (vN al.o)
    have rW:max iP iQ=iQ:=Nat.max_eq_right (vN al.o)
    have hP:iP≠iQ:=λe=>by have:=al.o;omega
    refine⟨rfl,⟨(HQ bt (af az.vt) n6.symm n8.symm sm.symm).trans az.vt,(HQ bc (af az.vc) c1.symm c2.symm c3.symm).trans az.vc,(HQ t (af az.tb) n7.symm n9.symm so.symm).trans az.tb,⟨l2,q1,zn M.o.srt M.o.ok k9.o (zs:=zs) (by rw[c9];exact d0.o) (by rw[c9,a3.o.key];exact q2)⟩,
     wZ M.o.srt M.o.ok hP a3.o.lt a8.o.lt a3.o.rep a8.o.rep cj.o em.o eq.o (v:=fn gb zs d1) (zs:=zs) (pz.o.block (hS.block A (by omega) n1.symm)) ?hl (aj kq.o (λg hg=>hS.block g (kq.o.lt g hg).2 (by
      simp only[tr,tz]at hg
      subst hg
      exact n3.symm))) (by rw[c9];exact d0.o) ?hkeep ?hnew,
     az.cat.step (λk hf=>HQ k (az.cat.lt k hf) (by have:=M.o.lof k hf;omega) (by have:=M.o.lof k hf;omega) (by have:=M.o.lof k hf;omega)) (by omega),az.ne,?los,az.lof,M.o.ok.merge a3.o.lt a8.o.lt a3.o.rep a8.o.rep,M.o.srt,M.o.key,M.o.len⟩,?bel⟩
    case hl=>
     intro k
     rw[c9,rW,a3.o.key,a8.o.key,mB,dH]
     by_cases e:k=(a4,a5)
     .rw[if_neg (λe2=>hZ (e.symm.trans e2)),if_pos e,if_pos e]
     .rw[if_neg e,if_neg e]
    case hkeep=>
     intro k u k1 k2 hu g hg
     rw[c9,a3.o.key]at k1
     obtain⟨f1,f2⟩:=lD cj.o em.o hu g hg
     have f3:g≠V:=λe=>eq.o _ _ _ _ hu a3.o.s1 k1 (by rw[hg,e];rfl)
     obtain⟨t',s8,sp,ra⟩:=(cj.o k).1 (by rw[hu];rfl)
     obtain⟨v',tl,gf,s5,_⟩:=em t' s8 sp
     rw[ra,hu]at gf
     injection gf with gf
     subst gf
     obtain⟨cg,m6⟩:=aK s5 hg
     exact(HQ g (by omega) (ak mp m6).symm (ak c4.o m6).symm f3).trans (ay.o.block g f2)
    case hnew=>
     intro k u k1 hu
     rw[c9,a3.o.key]at k1
     intro e
     have e2:u.ownBlock=X gb:=e.symm
     obtain⟨f1,f2⟩:=lD cj.o em.o hu gb e2
     rcases n5 with e3|e3
     .exact eq.o _ _ _ _ hu a3.o.s1 k1 (by rw[e2,e3];rfl)
     .omega
    case los=>exact⟨bA.1,bA.2.1,bA.2.2.1,bA.2.2.2.1,bA.2.2.2.2.1,by have:=gs.o;have:=bO.o.size;omega,ej.o.2,by have:=ej.o.1;have:=bO.o.size;omega⟩
    case bel=>
     have t0:=ej.o
     have qx:=bO.size
     refine⟨(cp.o _ ay.o).1.trans (lx.below (λk hk=>by rcases hk with rfl|rfl|rfl;exact bA.2.2.2.1;exact bA.2.2.2.2.1;omega) (by omega)).1,λq hq q1 q2 q3=>?_⟩
     have s4:q<w1:=Nat.lt_of_lt_of_le hq qx
     refine((HQ q (by omega) q1 q2 (λe=>?_)).trans (ay.o.block q s4)).trans (bO.o.block q hq)
     rcases q3 with q3|q3
     .omega
     .refine q3 cu ?_
      rw[<- bO.o.block q hq,e]
      exact aS
end
end Go.Proofs.YtjcimanddakkaaaGreatDoor
