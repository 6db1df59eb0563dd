/- Lemmas. -/
import Derived.Test.YtjcimanddakkaaaGreatDoorX0
import Derived.Test.YtjcimanddakkaaaGreatDoorX14
import Derived.Test.YtjcimanddakkaaaGreatDoorX23
set_option maxRecDepth 100000
set_option maxHeartbeats 8000000
namespace Go.Proofs.YtjcimanddakkaaaGreatDoor
open _root_.List renaming range→a0a,take_succ_eq_append_getElem→a0b,getD_eq_getElem?_getD→a0c,foldl_append→a0d
open Go.Obj renaming cells→a0e
open Go renaming Value→a0f
section
open Go.RowKit Go.Maps Go.Shelf
theorem bR {L:VL} {i j:Nat} (h:j<i):keyC (L.take i) j=keyC L j:=by
 unfold keyC;rw [a0c,List.getElem?_take_of_lt h,a0c]
theorem zF {L:VL} (l:aw ltRK L) {i:Nat} (c:i<L.length) (k:RK):atC (L.take (i+1)) k=if k=keyC L i then some i else atC (L.take i) k:=by
 have e:L.take (i+1)=L.take i++[L[i]]:=a0b c;have g:keyC L i=L[i].1:=dA c;have d:(L.take i).length=i:=by rw [List.length_take];omega
 unfold atC;rw [e,List.findIdx?_append,d];cases hf:(L.take i).findIdx? (λp=>decide (p.1=k)) with
 |some j=> rw [Option.some_or];have b:=at_some (L:=L.take i) (k:=k) (i:=j) hf;rw [d] at b;rw [bR b.1] at b;rw [if_neg];intro a;rw [a] at b;have:=cn l (by omega) c b.2;omega
 |none=>
  rw [Option.none_or,g];by_cases a:k=L[i].1
  · rw [if_pos a];simp [a]
  · have f:¬L[i].1=k:=λh=>a h.symm;rw [if_neg a];simp [List.findIdx?_cons,f]
theorem dp {n t:Nat} (h:t<n):(a0a n).getD t 0=t:=by
 rw [a0c,List.getElem?_range h];rfl
theorem oo {l m:List Nat} (c:l.Pairwise (· < ·)) (d:m.Pairwise (· < ·)) (h:∀i,i∈l↔i∈m):l=m:=by
 have e:l.Nodup:=c.imp λ{a b} h=>Nat.ne_of_lt h;have f:m.Nodup:=d.imp λ{a b} h=>Nat.ne_of_lt h;exact ((List.perm_ext_iff_of_nodup e f).2 h).eq_of_pairwise (λa b _ _ g j=>by omega) c d
theorem jP {L:VL} {n:Nat} (b:L.length=n) {t:Nat} (h:t<n):aU L (a0a n) t=[keyC L t]:=by
 unfold aU;rw [b];have:(a0a n).filter (λi=>decide ((a0a n).getD i 0=t))=[t]:=by
  have e:(a0a n).filter (λi=>decide ((a0a n).getD i 0=t))=(a0a n).filter (λi=>decide (i=t)):=by apply List.filter_congr;intro i a;rw [dp (List.mem_range.1 a)]
  rw [e];refine oo (List.Pairwise.filter _ List.pairwise_lt_range) (List.pairwise_singleton _ _) (λi=>?_);rw [List.mem_filter,List.mem_range,List.mem_singleton,decide_eq_true_eq];constructor
  · exact λh=>h.2
  · rintro rfl;exact ⟨h,rfl⟩
 rw [this];rfl
theorem ga {L:VL} (h:aw ltRK L) (i:Nat):aw ltRK (L.take i):=List.Pairwise.sublist (List.take_sublist i L) h
theorem gh {L:VL} {i:Nat} (h:i<=L.length):(L.take i).length=i:=by rw [List.length_take];omega
theorem yG {L:VL} (c:aw ltRK L) {i:Nat} (b:i<L.length) {l:List (RK×a0f)} (h:∀k,lookL l k=(atC (L.take i) k).map λj=>recK (keyC (L.take i) ((a0a i).getD j 0))):
 ∀k,lookL (putL l (keyC L i) (recK (keyC L i))) k=(atC (L.take (i+1)) k).map λj=>recK (keyC (L.take (i+1)) ((a0a (i+1)).getD j 0)):=by
 intro k;rw [df,zF c b];by_cases e:k=keyC L i
 · rw [if_pos e,if_pos e];simp only [Option.map_some];rw [dp (by omega),bR (by omega)]
 · rw [if_neg e,if_neg e,h];cases ha:atC (L.take i) k with
   |none=>rfl
   |some j=> have a:=(at_some ha).1;rw [gh (by omega)] at a;simp only [Option.map_some];rw [dp a,dp (by omega),bR a,bR (by omega)]
theorem yF {W:World} {a nb:Nat} {k:RK} (h:W.heap[nb]? =some (.cells #[.int .i64 k.1, .int .i64 k.2] 36 (0,0))) (b:a<=nb):W.ownsRow a 36 2 (.slice (some ⟨nb,0,none⟩) 1 1) [k].length ([k].flatMap rkCells):=
 ⟨by simp [rkCells], .inr ⟨nb,1,_,rfl,b,h,by simp,by unfold maxLen;omega,by simp,by simp [rkCells]⟩⟩
theorem xf {L:VL} (H:aw ltRK L) {i:Nat} (E:i<L.length) {z nb:Nat} {W m:World} {l:List (RK×a0f)} {I:Nat}
 (s:∀k,(lookL l k).isSome=true↔∃t,t<(L.take i).length/\(a0a i).getD t 0=t/\keyC (L.take i) t=k)
 (D:∀t,t<(L.take i).length->(a0a i).getD t 0=t->∃(v:a0f) (j:List RK),lookL l (keyC (L.take i) t)=some v/\W.ownsRow z 36 2 v j.length (j.flatMap rkCells)/\j.Perm (aU (L.take i) (a0a i) t))
 (M:∀n o p r,lookL l n=some p->lookL l o=some r->n≠o->p.ownBlock≠r.ownBlock)
 (Q:ak recB m I (putL l (keyC L i) (.slice (some ⟨nb,0,none⟩) 1 1))) (R:m.heap[nb]? =some (.cells #[.int .i64 (keyC L i).1, .int .i64 (keyC L i).2] 36 (0,0))) (O:z<=nb) (T:W.heap.size<=nb)
 (a:∀(q:Nat) (c:Array a0f),W.heap[q]? =some (a0e c 36 (0,0))->m.heap[q]? =W.heap[q]?):AD z m I (L.take (i+1)) (a0a (i+1)):=by
 have x:=gh (L:=L) (i:=i) (by omega);have y:=gh (L:=L) (i:=i+1) (by omega);have P:∀k v,lookL l k=some v->∀g,v.ownBlock=some g->g<W.heap.size:=λk v w g u=>(j7 s D w g u).2;have U:lookL l (keyC L i)=none:=by
  cases hl:lookL l (keyC L i) with
  |none=>rfl
  |some v=> obtain ⟨t,b,_,a⟩:=(s _).1 (by rw [hl];rfl);rw [x] at b;rw [bR b] at a;have:=cn H (by omega) E a;omega
 refine ⟨_,Q,λk=>?_,λt b J=>?_,λn o p r f d F=>?_⟩
 · rw [df];by_cases e:k=keyC L i
   · rw [if_pos e];exact ⟨λ_=>⟨i,by omega,dp (by omega),by rw [bR (by omega),e]⟩,λ_=>rfl⟩
   · rw [if_neg e,s];constructor
     · rintro ⟨t,b,J,a⟩;rw [x] at b;exact ⟨t,by omega,dp (by omega),by rw [bR (by omega), <- bR b];exact a⟩
     · rintro ⟨t,b,J,a⟩;rw [y] at b;rw [bR (by omega)] at a;have:t≠i:=λh=>e (by rw [<- a,h]);exact ⟨t,by omega,dp (by omega),by rw [bR (by omega)];exact a⟩
 · rw [y] at b;rw [bR (by omega),df,jP y b,bR (by omega)];by_cases e:t=i
   · subst e;rw [if_pos rfl];exact ⟨_,[keyC L t],rfl,yF R O, .refl _⟩
   · rw [if_neg (λh=>e (cn H (by omega) E h))];obtain ⟨v,j,A,B,C⟩:=D t (by omega) (dp (by omega));rw [bR (by omega)] at A;rw [jP x (by omega),bR (by omega)] at C;exact ⟨v,j,A,ah B (λg u=>by obtain ⟨c,N⟩:=aD B u;exact a g c N),C⟩
 · rw [df] at f d;have G:∀k v,lookL l k=some v->(Value.slice (some ⟨nb,0,none⟩) 1 1).ownBlock≠v.ownBlock:=λk v w e=>by have:=P k v w nb e.symm;omega
   split at f
   · injection f with f
     subst f;split at d
     · rename_i K h;exact absurd (K.trans h.symm) F
     · exact G _ _ d
   · split at d
     · injection d with d
       subst d;exact λe=>G _ _ f e.symm
     · exact M n o p r f d F
theorem UN.grow {lo r:Nat} {F:Nat->Prop} {W a:World} {u s t n m c:Nat} {D E G:Option Nat} {A:a0f} {d:ar} {L:VL} {i:Nat} (h:UN lo r F W u s t n m c D E G A d (L.take i) (a0a i)) (p:aw ltRK L) (w:i<L.length) (a4:L.length<=5000) (Z:∀j,j<L.length->rkOk (keyC L j))
 {C f:List (RK×a0f)} (K:∀k,lookL C k=(atC (L.take i) k).map λj=>recK (keyC (L.take i) ((a0a i).getD j 0))) (a0:ak recB a n (putL C (keyC L i) (recK (keyC L i))))
 (T:∀k,(lookL f k).isSome=true↔∃t,t<(L.take i).length/\(a0a i).getD t 0=t/\keyC (L.take i) t=k)
 (U:∀t,t<(L.take i).length->(a0a i).getD t 0=t->∃(v:a0f) (xs:List RK),lookL f (keyC (L.take i) t)=some v/\W.ownsRow r 36 2 v xs.length (xs.flatMap rkCells)/\xs.Perm (aU (L.take i) (a0a i) t))
 (V:∀y z I J,lookL f y=some I->lookL f z=some J->y≠z->I.ownBlock≠J.ownBlock)
 {nb:Nat} (hm:ak recB a m (putL f (keyC L i) (.slice (some ⟨nb,0,none⟩) 1 1))) (a2:a.heap[nb]? =some (.cells #[.int .i64 (keyC L i).1, .int .i64 (keyC L i).2] 36 (0,0))) (X:W.heap.size<=nb)
 (x:∀q,q<W.heap.size->q≠n->q≠m->a.heap[q]? =W.heap[q]?) (hz:W.heap.size<=a.heap.size):UN lo r F a u s t n m c D E G A d (L.take (i+1)) (a0a (i+1)):=by
 obtain ⟨M,N,O,P,Q,g6,R,g8⟩:=h.los;have B:=gh (L:=L) (i:=i+1) (by omega);obtain ⟨a6,a3,_⟩:=h.of;obtain ⟨a5,a1,_⟩:=h.mem;have l:∀(q:Nat) (g:Array a0f) (H:TypeId),W.heap[q]? =some (a0e g H (0,0))->a.heap[q]? =W.heap[q]? :=λq g H b=>x q (ae b) (aj a3 b).symm (aj a1 b).symm;refine ⟨(l _ _ _ h.vt).trans h.vt,(l _ _ _ h.vc).trans h.vc,(l _ _ _ h.tb).trans h.tb,⟨_,a0,yG p w K⟩,xf p w T U V hm a2 (by omega) X (λq g b=>l q g _ b),h.cat.step (λk o=>x k (h.cat.lt k o) (λe=>by have:=h.lof k o;omega) (λe=>by have:=h.lof k o;omega)) hz,h.ne,⟨M,N,O,P,Q,by omega,R,by omega⟩,h.lof,by rw [B];exact cw.range _,ga p _,λj Y=>?_,by omega⟩;rw [B] at Y;rw [bR (by omega)];exact Z j (by omega)
theorem UN.keep {lo n:Nat} {F:Nat->Prop} {W f:World} {s r t I H c:Nat} {D E G:Option Nat} {C:a0f} {d:ar} {L:VL} {set:List Nat} (h:UN lo n F W s r t I H c D E G C d L set) {a:TypeId} (X:a≠96) (Y:a≠24) (Z:a≠95) (h4:a≠36)
 (m:∀q,q<W.heap.size->(q<n∨∀c,W.heap[q]? ≠some (a0e c a (0,0)))->f.heap[q]? =W.heap[q]?) (hz:W.heap.size<=f.heap.size):UN lo n F f s r t I H c D E G C d L set:=by
 obtain ⟨P,Q,R,T,U,g6,V,g8⟩:=h.los;have i:∀{q:Nat} {w:Array a0f} {u:TypeId},W.heap[q]? =some (a0e w u (0,0))->a≠u->f.heap[q]? =W.heap[q]? :=λ{q w u} B hu=>m q (ae B) (.inr λc e=>by rw [B] at e;injection e with e;injection e with _ e;exact hu e.symm)
 have A:∀{b:Nat},(∃x c,W.heap[b]? =some (.map x c))->f.heap[b]? =W.heap[b]? :=λ{b} ⟨x,c,y⟩=>m _ (ae y) (.inr λc' j=>by rw [y] at j;injection j with j;exact Obj.noConfusion j);obtain ⟨l,o,J⟩:=h.of;obtain ⟨l',p,K,M,N⟩:=h.mem;refine ⟨(i h.vt X).trans h.vt,(i h.vc Y).trans h.vc,(i h.tb Z).trans h.tb,⟨l,o.block (A o.mp),J⟩,⟨l',p.block (A p.mp),K,λt ht rt=>?_,N⟩,h.cat.step (λk z=>m k (h.cat.lt k z) (.inl (by have:=h.lof k z;omega))) hz,h.ne,⟨P,Q,R,T,U,by omega,V,by omega⟩,h.lof,h.ok,h.srt,h.key,h.len⟩;obtain ⟨v,xs,c1,c2,O⟩:=M t ht rt;exact ⟨v,xs,c1,ah c2 (λg hg=>by obtain ⟨c,a0⟩:=aD c2 hg;exact i a0 h4),O⟩
def kG (ps:List (PK×(Int×Bool))) (L:VL) (a:List (PK×(Int×Bool))):List Nat:=(joinedC a L).foldl (λset q=>cK ps L set q.1 q.2) (a0a L.length)
theorem uD (ps:List (PK×(Int×Bool))) (L:VL) (j:Nat) (h:j<ps.length):kG ps L (ps.take (j+1))=if ps[j].2.2 then bV ps L (kG ps L (ps.take j)) ps[j].1 else kG ps L (ps.take j):=by
 unfold kG joinedC;rw [a0b h,List.filterMap_append,a0d];unfold bV;cases h2:ps[j].2.2 with
 |false=>simp [h2]
 |true=>
  simp only [List.filterMap_cons,List.filterMap_nil,h2,if_true];cases h3:atC L ps[j].1.1 with
  |none=>simp
  |some a=>
   cases h4:atC L ps[j].1.2 with
   |none=>simp
   |some b=>simp
def nU (ps:List (PK×(Int×Bool))) (L:VL) (a:List (Nat×Nat)):List Nat:=a.foldl (λset q=>cK ps L set q.1 q.2) (kG ps L ps)
theorem uC (ps:List (PK×(Int×Bool))) {L:VL} (b:aw ltRK L) (a:List (Nat×Nat)) (j:Nat) (h:j<a.length) (c:a[j].1<L.length) (d:a[j].2<L.length):nU ps L (a.take (j+1))=bV ps L (nU ps L (a.take j)) (keyC L a[j].1,keyC L a[j].2):=by
 unfold nU bV;rw [a0b h,a0d];dsimp only;rw [fK b c,fK b d];rfl
theorem uB (d:ar):nU d.ps (thereC d) (pairsR ((thereC d).map λp=>p.2.2))=setsC d:=by
 unfold nU kG setsC;rw [a0d]
theorem i62:(Tryz.prog.info? 62).map (λi=>(i.zero,i.size,i.bytes))=some (some (.agg #[.int .u8 0, .int .u8 0, .slice none 0 0]),3,32):=by kernel_rfl
def restL (d:ar) (ps:List (RK×VX)):List (RK×VX):=ps.filter λp=>inC d (p.1,p.2.1)
theorem r7 {d:ar} {ps:List (RK×VX)} (h:ps.map (λp=>(p.1,p.2.1))=d.vs):(restL d ps).map (λp=>(p.1,p.2.1))=thereC d:=by
 unfold restL;rw [pr, <- h,List.filter_map];rfl
def recX (l:List (RK×VX)):List (aB×a0f):=l.map λp=>(p.2.1.2,p.2.2)
theorem uL {d:ar} (b:d.Ok) {ps:List (RK×VX)} (h:ps.map (λp=>(p.1,p.2.1))=d.vs) {p:RK×VX} (c:p∈restL d ps):findK ps p.1=some p.2:=by
 have a:=b.vs;rw [<- h] at a;unfold aw at a;rw [List.pairwise_map] at a;exact (eA aL (l:=ps) a).2 (List.mem_filter.1 c).1
end
end Go.Proofs.YtjcimanddakkaaaGreatDoor
