/- Lemmas. -/
import Derived.Test.YtjcimanddakkaaaGreatDoorX0
import Derived.Test.YtjcimanddakkaaaGreatDoorX1
import Derived.Test.YtjcimanddakkaaaGreatDoorX3
import Derived.Test.YtjcimanddakkaaaGreatDoorX10
import Derived.Test.YtjcimanddakkaaaGreatDoorX11
import Derived.Sort.MapsRangeIn
import Derived.Sort.LoopGhostIn
import Derived.Lib.RowBridge
set_option maxRecDepth 100000
set_option maxHeartbeats 8000000
namespace Go.Proofs.YtjcimanddakkaaaGreatDoor
open Go.Lib renaming hid→a0a
open Go.Proofs.Tryz renaming prog→a0b
open Go.World renaming putObj_heap_other→a0c,alloc_heap_new→a0w,putObj_heap_same→a0L,ownsRow_nil→a0Q
open Go.Value renaming int→a0d,ownBlock→a0v
open _root_.Nat renaming le_refl→a0e,reduceSub→a0t,reduceAdd→a0u,le_trans→a0y
open _root_.List renaming length_cons→a0f,append_toArray→a0i,length_append→a0j,size_toArray→a0k,push_toArray→a0l,nil_append→a0m,cons_append→a0p,length_nil→a0q,getElem?_eq_getElem→a0z,length_pos_of_mem→a0B,map_cons→a0D,append_assoc→a0F,eq_nil_of_length_eq_zero→a0H,length_map→a0J,mem_cons_self→a0R
open _root_.Array renaming replicate_zero→a0g,replicate_succ→a0h,getElem?_eq_none→a0M
open _root_.Bool renaming not_eq_true'→a0n
open Go renaming World→a0o,Value→a0s,callsIn_of_wp→a0C,KeepsOthers→a0N
open Go.Fence renaming wide→a0r
open Go.KeepsOthers renaming alloc→a0x
open Go.RowKit.Below renaming heap_alloc→a0A,refl→a0K,heap_setCell→a0P
open Go.Obj renaming cells→a0E
open Go.RowKit renaming Below→a0G
open Go.Result renaming andThen→a0I
open Go.WideAt renaming sameKey_self→a0O
section
open Go.RowKit Go.Maps Go.Shelf Go.WideShapes
attribute [local go_sem] Oper.semAt_some
set_option linter.unusedSectionVars false
section
variable {P:Program} {kt:TypeId} {K:Type} [DecidableEq K] {B:dZ P kt K} {F:Fence} {nF:Nat}
variable (w:a0o) {ops:Array Oper} {rest:List Oper} {o:Oper} {a:Act} {Q:Exit->Act->a0o->Prop}
theorem pi (A:o.guard=none) (m:Operand) (t:TypeId) (E:o.op=Op.range t m) (e:TypeId) (H:P.underlying t=some (.map kt e))
 (b:Nat) (l:List (K×a0s)) (D:a.eval m= .map (some b)) (h:ak B w b l)
 (y:∀w',cf B w' b w.heap.size l l->a0G w.heap.size w w'->w'.heap.size=w.heap.size+1->wpListIn F nF P ops Q rest (a.put o.dst (.pointer (some ⟨w.heap.size,0,none⟩))) w'):wpListIn F nF P ops Q (o::rest) a w:=by
 have j:=h.nodup;obtain ⟨u,g,f,i⟩:=h;refine wpListIn_range_own w A m t E kt e B.keyed H heldR b _ _ D g λw' v c x=>y w' ⟨u,_,_,v,f,i,List.Sublist.refl _,λp d=>?_,λz r=>?_⟩ ⟨c.os,c.tape,c.output,c.size,λk C=>c.block k C (by simp)⟩ x
 · refine ⟨λ_=>d,λ_=>?_⟩;exact Maps.has_true_of_atKey λz=>ak.at_some g f j (i p d) ((bu j).2 d) z
 · rw [Maps.has_eq,List.any_eq_true] at r;obtain ⟨q,G,e⟩:=r;obtain ⟨p,d,s⟩:=List.mem_map.1 (f.mem_iff.1 G);exact ⟨p,d,by rw [<- WideAt.sameKey_eq e, <- s]⟩
theorem rG (hg:o.guard=none) (L:Operand) (a8:o.op=Op.next L false) (b r:Nat) (l left:List (K×a0s)) (a6:a.eval L= .pointer (some ⟨r,0,none⟩)) (h:cf B w b r l left)
 (a0:left=[]->wpListIn F nF P ops Q rest (a.put o.dst (.tuple #[.bool false])) w)
 (a3:∀(p:K×a0s) (w':a0o),p∈left->B.ok p.1->cf B w' b r l (cB left p.1)->(cB left p.1).length<left.length->aq r w w'->
  (Instr.entry (.pointer (some ⟨r,0,none⟩))).run P w'= .ok (.tuple #[B.kv p.1,p.2]) w'->wpListIn F nF P ops Q rest (a.put o.dst (.tuple #[.bool true,B.kv p.1,p.2])) w'):
 wpListIn F nF P ops Q (o::rest) a w:=by
 have g:=h.map.nodup;obtain ⟨Z,f,X,M,N,G,u,O,R⟩:=h;refine wpListIn_next_ranges w hg L a8 kt B.keyed heldR (λv:a0s=>v) (λv:a0s=>v) (λkey V _=>⟨key,rfl⟩) (λv y _=>⟨v,rfl⟩) b r _ _ f X a6 M (λh0 hl=>a0 ?_) λx c V y w' Y I a7 U a4 a9 al A ac a5=>?_
 · rcases left with _|⟨p,left⟩
   · rfl
   · have:=(O p (u.subset a0R)).2 a0R;rw [hl] at this;cases this
 · obtain ⟨p,i,e⟩:=R V a7;have J:=u.subset i;have C:=G p J;have ad:x=B.kv p.1:=B.keyed.inj I (by rw [<- e];exact B.key _ C);have hc:p.2=c:=by have H:=a4 (.held undef);rw [<- e,ak.at_some M.owns N g C ((bu g (k:=p.1) (v:=p.2)).2 J)] at H;simp only [heldR,Option.some.injEq] at U;rw [<- U] at H;injection H
   have T:(left.map (·.1)).Nodup:=g.sublist (u.map _);subst ad;subst hc;refine a3 p w' i C ⟨Z,_,Y,a9,N,G,(List.filter_sublist).trans u,λq j=>?_,λz D=>?_⟩ (xK i) ⟨A.os,A.tape,A.output,ac,λk hk=>?_⟩ a5
   · rw [gM T i, <- O q j];simp only [Bool.and_eq_true,a0n];constructor
     · rintro ⟨E,t⟩;refine ⟨E,λd=>?_⟩;rw [d,e,a0O (B.keyed.key I)] at t;cases t
     · rintro ⟨E,t⟩;refine ⟨E,Maps.sameKey_ne λd=>t ?_⟩;rw [<- e] at d;have s:=B.lit_inj (G q j) C d;have m:=(bu g (k:=q.1) (v:=q.2)).2 j;have W:=(bu g (k:=p.1) (v:=p.2)).2 J;rw [s,W] at m;injection m with m
       exact Prod.ext s m.symm
   · simp only [Bool.and_eq_true,a0n] at D;obtain ⟨q,j,d⟩:=R z D.1;refine ⟨q,(gM T i).2 ⟨j,λs=>?_⟩,d⟩;rw [<- d,s,e,a0O (B.keyed.key I)] at D;cases D.2
   · by_cases hk2:k<w.heap.size
     · exact A.block k hk2 (by simpa using hk)
     · rw [a0M (by omega),a0M (by omega)]
theorem tM (a b:Int):recB.kv (a,b)= .agg #[.int .i64 a, .int .i64 b]:=rfl
theorem wU (a b c d:Int):pairB.kv ((a,b),(c,d))= .agg #[.int .i64 a, .int .i64 b, .int .i64 c, .int .i64 d]:=rfl
def dP (B:dZ P kt K) (w:a0o) (mv:Option Nat) (r:Nat) (l left:List (K×a0s)):Prop:=match mv with
 |none=>l=[]/\left=[]/\w.heap[r]? =some (.mapIter none 0 #[] 0)
 |some b=>cf B w b r l left
theorem dP.lt {w:a0o} {mv:Option Nat} {r:Nat} {l left:List (K×a0s)} (h:dP B w mv r l left):r<w.heap.size:=by
 cases mv with
 |none=>exact ae h.2.2
 |some b=>exact cf.lt h
theorem dP.kept {w w':a0o} {mv:Option Nat} {r:Nat} {l left:List (K×a0s)} (h:dP B w mv r l left) (c:a0N w w'):dP B w' mv r l left:=by
 cases mv with
 |none=>exact ⟨h.1,h.2.1,c.same r _ h.2.2 rfl⟩
 |some b=> have h:cf B w b r l left:=h;obtain ⟨i,f,e,⟨g,c1,u,v,d,j,k,m,p,q,s⟩,t⟩:=h;exact ⟨i,f,e,⟨g,c1,u,v,d,c.same b _ j rfl,k,m,p,c.same r _ q rfl,s⟩,t⟩
theorem dP.nodup {w:a0o} {mv:Option Nat} {r:Nat} {l left:List (K×a0s)} (h:dP B w mv r l left):(left.map (·.1)).Nodup:=by
 cases mv with
 |none=> obtain ⟨_,c,_⟩:=h;subst c;exact List.nodup_nil
 |some b=> have h:cf B w b r l left:=h;have e:=h.map.nodup;obtain ⟨i,f,g,j,c,k,d,_⟩:=h;exact e.sublist (d.map _)
theorem kO {l:List (K×a0s)} (b:(l.map (·.1)).Nodup) {k:K} {v:a0s} (c:(k,v)∈l):([k]++(cB l k).map (·.1)).Perm (l.map (·.1)):=by
 induction l with
 |nil=>cases c
 |cons p l ih=>
  rw [a0D,List.nodup_cons] at b;unfold cB at ih ⊢;rw [List.filter_cons];by_cases e:p.1=k
  · rw [if_neg (by simp [e])];have:l.filter (λq=> !decide (q.1=k))=l:=by rw [List.filter_eq_self];intro q g;simp only [a0n,decide_eq_false_iff_not];intro d;exact b.1 (by rw [e, <- d];exact List.mem_map.2 ⟨q,g,rfl⟩)
    rw [this,a0D,e];exact .refl _
  · rw [if_pos (by simp [e]),a0D,a0D];have f:(k,v)∈l:=by
     rcases List.mem_cons.1 c with h|h
     · exact absurd (by rw [<- h]) e
     · exact h
    exact (List.Perm.swap _ _ _).trans ((ih b.2 f).cons _)
theorem fW (g:o.guard=none) (m:Operand) (t:TypeId) (d:o.op=Op.range t m) (e:TypeId) (j:P.underlying t=some (.map kt e))
 (mv:Option Nat) (l:List (K×a0s)) (i:a.eval m= .map mv) (h:cj B w mv l)
 (f:∀w',dP B w' mv w.heap.size l l->a0G w.heap.size w w'->w'.heap.size=w.heap.size+1->wpListIn F nF P ops Q rest (a.put o.dst (.pointer (some ⟨w.heap.size,0,none⟩))) w'):wpListIn F nF P ops Q (o::rest) a w:=by
 cases mv with
 |some b=>exact pi w g m t d e j b l i h f
 |none=> have h:l=[]:=h;subst h;refine wpListIn_plain g λr k=>?_;unfold Oper.wpIn;refine ⟨by simp [Oper.about,d],?_⟩;rw [Oper.semAt_plain F _ _ (by rw [d];intro c q;cases q)];have p:a0G w.heap.size w (w.alloc (.mapIter none 0 #[] 0)):=(a0K _ w).alloc (a0e _) _;have:=f (w.alloc (.mapIter none 0 #[] 0)) ⟨rfl,rfl,a0w w _⟩ p (by simp);simp [execOp,d,i,Instr.range,run_underlying j,a0I];exact k _ _ this
theorem gZ (g:o.guard=none) (e:Operand) (d:o.op=Op.next e false) (mv:Option Nat) (r:Nat) (l left:List (K×a0s)) (i:a.eval e= .pointer (some ⟨r,0,none⟩)) (h:dP B w mv r l left)
 (f:left=[]->wpListIn F nF P ops Q rest (a.put o.dst (.tuple #[.bool false])) w)
 (k:∀(p:K×a0s) (w':a0o),p∈left->B.ok p.1->dP B w' mv r l (cB left p.1)->(cB left p.1).length<left.length->aq r w w'->
  (Instr.entry (.pointer (some ⟨r,0,none⟩))).run P w'= .ok (.tuple #[B.kv p.1,p.2]) w'->wpListIn F nF P ops Q rest (a.put o.dst (.tuple #[.bool true,B.kv p.1,p.2])) w'):
 wpListIn F nF P ops Q (o::rest) a w:=by
 cases mv with
 |some b=>exact rG w g e d b r l left i h f k
 |none=>
  obtain ⟨_,s,t⟩:=h;refine wpListIn_plain g λv j=>?_;unfold Oper.wpIn;refine ⟨by simp [Oper.about,d],?_⟩;rw [Oper.semAt_plain F _ _ (by rw [d];intro c m;cases m)];have u:(Instr.next (.pointer (some ⟨r,0,none⟩)) false o.type).run P w= .ok (.tuple #[.bool false]) w:=by
   have q:(getObj r).run P w= .ok (.mapIter none 0 #[] 0) w:=by simp [getObj,Sem.run,t]
   simp [Instr.next,q,a0I]
  simp [execOp,d,i,u,a0I];exact j _ _ (f s)
end
theorem xl (n:Nat) (hn:1<=n) (q:Nat) (mv:Option Nat) (l:List (RK×a0s)) (r:a0o) (z:r.cell? ⟨q,0,none⟩=some (.map mv)) (L:cj recB r mv l) (a7:∀b,mv=some b->b<r.heap.size):
 iY a0r n a0b 95 #[.pointer (some ⟨q,0,none⟩)] (λx:RK=> #[recK x]) (λxs=>xs.Perm (l.map (·.1))) (λ_=>True) (λd x=>d.length<l.length/\rkOk x) (λ_=>False) r:=by
 intro ad J Jx W y D G C;have c0:W.cell? ⟨q,0,none⟩=some (.map mv):=(y.cell (p:=⟨q,0,none⟩) (bq z)).trans z;have a6:cj recB W mv l:=L.block (λb hb=>y.block b (a7 b hb));have s:=a0a D;have HY:=a0a G;have T:=a0a C;clear D G C y z L;refine a0C Tryz.func95 rfl trivial ?_ rfl;simp only [Tryz.ntmps95,a0k,a0f,a0q,a0u,a0t,a0h,a0g,a0l,a0i,a0m,a0p];gi_wp2_with (refine fW _ rfl _ _ rfl 52 Tryz.underlying93 mv l rfl a6 ?_;intro w1 N i R)
 have H:J (λk=>k=W.heap.size) [] w1:=s.out _ _ _ _ _ T.out ⟨i.os,i.tape,i.output,i.size,λk c _ _=>i.block k c,λk c=> .inr (by rw [c];exact a0e _),λk c=>by rw [c,R];omega⟩;have Y:=a0a N;have U:=a0a H;have av:W.heap.size<w1.heap.size:=by omega
 clear N H i R;gi_loopg [] (l.length+1) (λg wr=>∃d left,left.length<g/\Hid (dP recB wr mv W.heap.size l left)/\Hid (J (λk=>k=W.heap.size) d wr)/\Hid ((d++left.map (·.1)).Perm (l.map (·.1))))
 case atStart=>exact ⟨[],l,by omega,Y,U,by unfold Hid;simp⟩
 case round=>
  obtain ⟨d,left,ay,u,A,t⟩:=hrel;have aC:W.heap.size<wr.heap.size:=u.lt;gi_wp2_with (refine gZ _ rfl _ rfl mv W.heap.size l left rfl u.out ?_ ?_)
  · intro a4;subst a4;gi_wp2
    go_end0
    refine ⟨⟨_,rfl⟩, .inl ⟨_,d,?_,A.out⟩⟩;have:=t.out;simpa using this
  · intro f h v m M a9 O a5 j a1;have ac:d.length<l.length:=by have h1:=t.length_eq;simp only [a0j,a0J] at h1;have:=a0B M;omega
    have aS:m.heap.size=wr.heap.size:=j.size;have I:J (λk=>k=W.heap.size) d m:=s.out _ _ _ _ _ A.out ⟨j.os,j.tape,j.output,by omega,λk _ c _=>j.block k c,λk c=> .inl c,λk c=>by rw [c];omega⟩;have V:=a0a I;have Z:=a0a O;have al:=a0a j;clear O I;simp only [tM] at a1 ⊢;obtain ⟨fn,b0,ao,au,hy,E⟩:=HY.out (λk=>k=W.heap.size) d (f,h) (m.alloc (a0E #[a0d .i64 f,a0d .i64 h] 36)) (s.out _ _ _ _ _ V.out (cN.alloc (λk c=>by rw [c];omega) _)) ⟨ac,a9⟩;have a0:=a0a E;clear E;have aT:(Instr.yield ad #[Value.agg #[a0d .i64 f,a0d .i64 h]]).run a0b (m.alloc (a0E #[a0d .i64 f,a0d .i64 h] 36))=_:=hy;gi_wp2
    refine a0.mono ?_;have X:Hid (((d++[(f,h)])++(cB left (f,h)).map (·.1)).Perm (l.map (·.1))):=by refine List.Perm.trans ?_ t.out;rw [a0F];exact (kO u.nodup M).append_left d
    rintro e w3 (⟨rfl,a2,ax,a8⟩|⟨rfl,a3⟩)
    · gi_wp2
      gi_roundg (left.length)
      case rel=> refine ⟨d++[(f,h)],cB left (f,h),a5,?_,a2,X⟩;exact (Z.kept ((a0x m _).trans a8))
      case measure=>omega
    · gi_wp2
      refine bodyPost_ret (results_none rfl _ _ _) rfl ?_;exact ⟨⟨_,rfl⟩, .inr ⟨_,d++[(f,h)],trivial,a3⟩⟩
theorem uV (n:Nat) (hn:1<=n) (q:Nat) (mv:Option Nat) (l:List (RK×a0s)) (r:a0o) (z:r.cell? ⟨q,0,none⟩=some (.map mv)) (L:cj recB r mv l) (a7:∀b,mv=some b->b<r.heap.size):
 iY a0r n a0b 108 #[.pointer (some ⟨q,0,none⟩)] (λx:RK=> #[recK x]) (λxs=>xs.Perm (l.map (·.1))) (λ_=>True) (λd x=>d.length<l.length/\rkOk x) (λ_=>False) r:=by
 intro ad J Jx W y D G C;have c0:W.cell? ⟨q,0,none⟩=some (.map mv):=(y.cell (p:=⟨q,0,none⟩) (bq z)).trans z;have a6:cj recB W mv l:=L.block (λb hb=>y.block b (a7 b hb));have s:=a0a D;have HY:=a0a G;have T:=a0a C;clear D G C y z L;refine a0C Tryz.func108 rfl trivial ?_ rfl;simp only [Tryz.ntmps108,a0k,a0f,a0q,a0u,a0t,a0h,a0g,a0l,a0i,a0m,a0p];gi_wp2_with (refine fW _ rfl _ _ rfl 64 Tryz.underlying113 mv l rfl a6 ?_;intro w1 N i R)
 have H:J (λk=>k=W.heap.size) [] w1:=s.out _ _ _ _ _ T.out ⟨i.os,i.tape,i.output,i.size,λk c _ _=>i.block k c,λk c=> .inr (by rw [c];exact a0e _),λk c=>by rw [c,R];omega⟩;have Y:=a0a N;have U:=a0a H;have av:W.heap.size<w1.heap.size:=by omega
 clear N H i R;gi_loopg [] (l.length+1) (λg wr=>∃d left,left.length<g/\Hid (dP recB wr mv W.heap.size l left)/\Hid (J (λk=>k=W.heap.size) d wr)/\Hid ((d++left.map (·.1)).Perm (l.map (·.1))))
 case atStart=>exact ⟨[],l,by omega,Y,U,by unfold Hid;simp⟩
 case round=>
  obtain ⟨d,left,ay,u,A,t⟩:=hrel;have aC:W.heap.size<wr.heap.size:=u.lt;gi_wp2_with (refine gZ _ rfl _ rfl mv W.heap.size l left rfl u.out ?_ ?_)
  · intro a4;subst a4;gi_wp2
    go_end0
    refine ⟨⟨_,rfl⟩, .inl ⟨_,d,?_,A.out⟩⟩;have:=t.out;simpa using this
  · intro f h v m M a9 O a5 j a1;have ac:d.length<l.length:=by have h1:=t.length_eq;simp only [a0j,a0J] at h1;have:=a0B M;omega
    have aS:m.heap.size=wr.heap.size:=j.size;have I:J (λk=>k=W.heap.size) d m:=s.out _ _ _ _ _ A.out ⟨j.os,j.tape,j.output,by omega,λk _ c _=>j.block k c,λk c=> .inl c,λk c=>by rw [c];omega⟩;have V:=a0a I;have Z:=a0a O;have al:=a0a j;clear O I;simp only [tM] at a1 ⊢;obtain ⟨fn,b0,ao,au,hy,E⟩:=HY.out (λk=>k=W.heap.size) d (f,h) (m.alloc (a0E #[a0d .i64 f,a0d .i64 h] 36)) (s.out _ _ _ _ _ V.out (cN.alloc (λk c=>by rw [c];omega) _)) ⟨ac,a9⟩;have a0:=a0a E;clear E;have aT:(Instr.yield ad #[Value.agg #[a0d .i64 f,a0d .i64 h]]).run a0b (m.alloc (a0E #[a0d .i64 f,a0d .i64 h] 36))=_:=hy;gi_wp2
    refine a0.mono ?_;have X:Hid (((d++[(f,h)])++(cB left (f,h)).map (·.1)).Perm (l.map (·.1))):=by refine List.Perm.trans ?_ t.out;rw [a0F];exact (kO u.nodup M).append_left d
    rintro e w3 (⟨rfl,a2,ax,a8⟩|⟨rfl,a3⟩)
    · gi_wp2
      gi_roundg (left.length)
      case rel=> refine ⟨d++[(f,h)],cB left (f,h),a5,?_,a2,X⟩;exact (Z.kept ((a0x m _).trans a8))
      case measure=>omega
    · gi_wp2
      refine bodyPost_ret (results_none rfl _ _ _) rfl ?_;exact ⟨⟨_,rfl⟩, .inr ⟨_,d++[(f,h)],trivial,a3⟩⟩
theorem uU (n:Nat) (hn:1<=n) (s:Nat) (mv:Option Nat) (l:List (PK×a0s)) (t:a0o) (C:t.cell? ⟨s,0,none⟩=some (.map mv)) (N:cj pairB t mv l) (a9:∀b,mv=some b->b<t.heap.size):
 iY a0r n a0b 121 #[.pointer (some ⟨s,0,none⟩)] (λx:PK=> #[pairV x]) (λxs=>xs.Perm (l.map (·.1))) (λ_=>True) (λd x=>d.length<l.length/\pkOk x) (λ_=>False) t:=by
 intro ao J Jx W A G I E;have c0:W.cell? ⟨s,0,none⟩=some (.map mv):=(A.cell (p:=⟨s,0,none⟩) (bq C)).trans C;have a8:cj pairB W mv l:=N.block (λb hb=>A.block b (a9 b hb));have u:=a0a G;have HY:=a0a I;have V:=a0a E;clear G I E A C N;refine a0C Tryz.func121 rfl trivial ?_ rfl;simp only [Tryz.ntmps121,a0k,a0f,a0q,a0u,a0t,a0h,a0g,a0l,a0i,a0m,a0p];gi_wp2_with (refine fW _ rfl _ _ rfl 139 Tryz.underlying115 mv l rfl a8 ?_;intro w1 R m U)
 have L:J (λk=>k=W.heap.size) [] w1:=u.out _ _ _ _ _ V.out ⟨m.os,m.tape,m.output,m.size,λk c _ _=>m.block k c,λk c=> .inr (by rw [c];exact a0e _),λk c=>by rw [c,U];omega⟩;have a0:=a0a R;have X:=a0a L;have ay:W.heap.size<w1.heap.size:=by omega
 clear R L m U;gi_loopg [] (l.length+1) (λg wr=>∃d left,left.length<g/\Hid (dP pairB wr mv W.heap.size l left)/\Hid (J (λk=>k=W.heap.size) d wr)/\Hid ((d++left.map (·.1)).Perm (l.map (·.1))))
 case atStart=>exact ⟨[],l,by omega,a0,X,by unfold Hid;simp⟩
 case round=>
  obtain ⟨d,left,aS,z,D,y⟩:=hrel;have aT:W.heap.size<wr.heap.size:=z.lt;gi_wp2_with (refine gZ _ rfl _ rfl mv W.heap.size l left rfl z.out ?_ ?_)
  · intro a6;subst a6;gi_wp2
    go_end0
    refine ⟨⟨_,rfl⟩, .inl ⟨_,d,?_,D.out⟩⟩;have:=y.out;simpa using this
  · intro f h i j v r O ad T a7 q a3;have al:d.length<l.length:=by have h1:=y.length_eq;simp only [a0j,a0J] at h1;have:=a0B O;omega
    have b0:r.heap.size=wr.heap.size:=q.size;have M:J (λk=>k=W.heap.size) d r:=u.out _ _ _ _ _ D.out ⟨q.os,q.tape,q.output,by omega,λk _ c _=>q.block k c,λk c=> .inl c,λk c=>by rw [c];omega⟩;have Y:=a0a M;have a1:=a0a T;have au:=a0a q;clear T M;simp only [wU] at a3 ⊢;obtain ⟨fn,b2,av,ax,hy,H⟩:=HY.out (λk=>k=W.heap.size) d ((f,h),(i,j)) (r.alloc (a0E #[a0d .i64 f,a0d .i64 h,a0d .i64 i,a0d .i64 j] 134)) (u.out _ _ _ _ _ Y.out (cN.alloc (λk c=>by rw [c];omega) _)) ⟨al,ad⟩;have a2:=a0a H;clear H;have b1:(Instr.yield ao #[Value.agg #[a0d .i64 f,a0d .i64 h,a0d .i64 i,a0d .i64 j]]).run a0b (r.alloc (a0E #[a0d .i64 f,a0d .i64 h,a0d .i64 i,a0d .i64 j] 134))=_:=hy;gi_wp2
    refine a2.mono ?_;have Z:Hid (((d++[((f,h),(i,j))])++(cB left ((f,h),(i,j))).map (·.1)).Perm (l.map (·.1))):=by refine List.Perm.trans ?_ y.out;rw [a0F];exact (kO z.nodup O).append_left d
    rintro e w3 (⟨rfl,a4,aC,ac⟩|⟨rfl,a5⟩)
    · gi_wp2
      gi_roundg (left.length)
      case rel=> refine ⟨d++[((f,h),(i,j))],cB left ((f,h),(i,j)),a7,?_,a4,Z⟩;exact (a1.kept ((a0x r _).trans ac))
      case measure=>omega
    · gi_wp2
      refine bodyPost_ret (results_none rfl _ _ _) rfl ?_;exact ⟨⟨_,rfl⟩, .inr ⟨_,d++[((f,h),(i,j))],trivial,a5⟩⟩
theorem za (mv:Option Nat) (w:a0o):Calls a0b 51 #[.map mv] w λe w'=>e= .returned (.func (.func 95) #[] #[.pointer (some ⟨w.heap.size,0,none⟩)])/\w'=w.alloc (.cells #[.map mv] 93):=by
 go_enter Tryz.func51,Tryz.ntmps51;go_wp2_with fail
 go_ret;exact ⟨rfl,rfl⟩
theorem yZ (mv:Option Nat) (w:a0o):Calls a0b 61 #[.map mv] w λe w'=>e= .returned (.func (.func 108) #[] #[.pointer (some ⟨w.heap.size,0,none⟩)])/\w'=w.alloc (.cells #[.map mv] 113):=by
 go_enter Tryz.func61,Tryz.ntmps61;go_wp2_with fail
 go_ret;exact ⟨rfl,rfl⟩
theorem yY (mv:Option Nat) (w:a0o):Calls a0b 66 #[.map mv] w λe w'=>e= .returned (.func (.func 121) #[] #[.pointer (some ⟨w.heap.size,0,none⟩)])/\w'=w.alloc (.cells #[.map mv] 115):=by
 go_enter Tryz.func66,Tryz.ntmps66;go_wp2_with fail
 go_ret;exact ⟨rfl,rfl⟩
end
section
open Go.RowKit Go.Shelf
section
variable {F:Fence} {n:Nat} {P:Program}
theorem mz {α:Type} {g:Operand} {ps:Array Tmp} {assign body:Code} {Q:Exit->Act->a0o->Prop} {a:Act} {w:a0o}
 (bw:F.round=none) (h1:1<=n) {gf:Nat} {lb:Array a0s} (hg:a.eval g= .func (.func gf) #[] lb) (av:F.fn gf) (eg:∀args w,(callFunc gf args).run P w= .ok (.enter gf args) w)
 {a0:α->Array a0s} {S Sp:List α->Prop} {G:List α->α->Prop} {M0:Nat->Prop} {w0:a0o} (bA:iY F (n - 1) P gf lb a0 S Sp G M0 w0) (a4:∀k,M0 k->k<w.heap.size) (al:a0G w0.heap.size w0 w) (bv:∀x,(a0 x).size=ps.size)
 (I:(Nat->Prop)->List α->a0o->Prop) (Z:Code->(Nat->Prop)->List α->a0o->Prop) (E:gA w.heap.size I) (a2:∀c,gA w.heap.size (Z c)) (a6:∀M s X,I M s X->∀k,M k->k<X.heap.size) (a7:∀c M s X,Z c M s X->∀k,M k->k<X.heap.size)
 (h0:I M0 [] w) (a₁:α->Nat->Act) (ob:α->Obj)
 (b4:∀(l:Nat) (x:α) (W:a0o) (K:Act->a0o->Prop),K (a₁ x W.heap.size) (W.alloc (ob x))->
  assign.wpIn (F.inRound l) (n - 1 - 1) P (Exit.then K (λ_ _ _=>False)) {tmps:=(ps.zip (a0 x)).foldl (λt (p,v)=>t.setIfInBounds p v) a.tmps,defers:=[]} W)
 (b6:∀(l:Nat) (M:Nat->Prop) (d:List α) (x:α) (W:a0o) (N:Nat),I M d W->G d x->w.heap.size<=N->W.heap[N]? =some (ob x)->body.wpIn (F.inRound l) (n - 1 - 1) P (zN M I Z (d++[x]) W) (a₁ x N) W)
 (b7:∀(D:Nat) (M:Nat->Prop) (xs:List α) (W:a0o),w.heap.size<=D->S xs->I M xs W->W.heap[D]? =some (.deferred (some []))->Q .normal {a with defers:={target:= .collected D,args:= #[]}::a.defers} W)
 (bB:∀(D:Nat) (c:Code) (M:Nat->Prop) (d:List α) (W:a0o),w.heap.size<=D->Sp d->Z c M d W->W.heap[D]? =some (.deferred (some []))->c.wpIn F n P Q {a with defers:={target:= .collected D,args:= #[]}::a.defers} W):
 (Code.rangeFunc g ps assign body).wpIn F n P Q a w:=by
 refine wpIn_rangeFunc ?_;intro fn b8;rw [bw];obtain ⟨rec,A⟩:∃rec:LoopState->Option Code->Loop,rec=λst pe=>{state:=st,pending:=pe,fn,tmps:=a.tmps,params:=ps,assign,body,defers:=w.heap.size}:=⟨_,rfl⟩;obtain ⟨r,R⟩:∃r,(w.alloc (.deferred (some []))).alloc (.loop (rec .ready none))=r:=⟨_,rfl⟩;have aC:r.heap[w.heap.size+1]? =some (.loop (rec .ready none)):=by rw [<- R];have:=a0w (w.alloc (.deferred (some []))) (.loop (rec .ready none));rwa [World.size_alloc] at this
 have ay:r.heap[w.heap.size]? =some (.deferred (some [])):=by rw [<- R];exact (a0A _ _ _ (by simp)).trans (a0w w _)
 have ax:I M0 [] r:=by rw [<- R];exact E _ _ _ _ _ (E _ _ _ _ _ h0 (cN.alloc a4 _)) (cN.alloc (λk b=>by have:=a4 k b;simp;omega) _)
 have bO:r.heap.size=w.heap.size+2:=by rw [<- R];simp
 have b5:a0G w0.heap.size w0 r:=by rw [<- R];exact al.trans ((((a0K _ w).alloc (a0e _) _).alloc (by simp) _).mono al.size)
 refine ⟨w.heap.size+1,[{target:= .collected w.heap.size,args:= #[]}],r,{target:= .fn (.func gf) lb,args:= #[.func (.yield (w.heap.size+1)) #[] #[]]},r,gf,
  #[.func (.yield (w.heap.size+1)) #[] #[]]++lb,r,?_,?_,?_,?_,λ_=>h1,?_⟩
 · rw [<- R,A];exact run_enterLoop_outer _ _ _ _ _
 · simp only [resolve,hg];simp [go_sem]
 · intro f' ao;simp [Target.leads] at ao;subst ao;exact av
 · simp [invoke,go_sem,eg]
 · refine (bA (w.heap.size+1)
    (λM d W=>I M d W/\¬M (w.heap.size+1)/\¬M w.heap.size/\W.heap[w.heap.size+1]? =some (.loop (rec .ready none))/\W.heap[w.heap.size]? =some (.deferred (some [])))
    (λM d W=>∃c,Z c M d W/\W.heap[w.heap.size+1]? =some (.loop (rec .done (some c)))/\W.heap[w.heap.size]? =some (.deferred (some [])))
    r b5
    (λM s X M' Y hs y=>by
     obtain ⟨z,U,n2,j,b⟩:=hs
     have bk:w.heap.size+1<X.heap.size:=(Array.getElem?_eq_some_iff.1 j).1
     have hT:cN w.heap.size M X M' Y:=⟨y.os,y.tape,y.output,y.size,λk b h2 h3=>y.block k b h2 λhB o J=>h3 (by omega) o J,y.new,y.lt⟩
     exact ⟨E _ _ _ _ _ z hT,λh=>by rcases y.new _ h with h|h;exact U h;omega,λh=>by rcases y.new _ h with h|h;exact n2 h;omega,
      (y.block _ bk U (λhB=>by omega)).trans j,(y.block _ (by omega) n2 (λhB=>by omega)).trans b⟩)
    ?_ ⟨ax,λh=>by have:=a4 _ h;omega,λh=>by have:=a4 _ h;omega,aC,ay⟩).mono ?_
   ·
    rintro M d x W ⟨z,U,n2,j,b⟩ bt
    have a9:w.heap.size+1<W.heap.size:=(Array.getElem?_eq_some_iff.1 j).1
    have hy:=run_yield (P:=P) (args:=a0 x) j (by rw [A];exact bv x)
    rw [A] at hy
    refine ⟨fn,_,assign,body,hy,?_⟩
    obtain ⟨V,O⟩:∃V,W.alloc (ob x)=V:=⟨_,rfl⟩
    have ac:∀k,k<W.heap.size->V.heap[k]? =W.heap[k]? :=λk b=>by rw [<- O];exact a0A W _ k b
    have aT:V.heap[W.heap.size]? =some (ob x):=by rw [<- O];exact a0w W _
    have bY:V.heap.size=W.heap.size+1:=by rw [<- O];simp
    have a8:V.heap[w.heap.size+1]? =some (.loop (rec .ready none)):=(ac _ a9).trans j
    have a5:V.heap[w.heap.size]? =some (.deferred (some [])):=(ac _ (by omega)).trans b
    have ad:=a6 _ _ _ z
    have au:I M d V:=by rw [<- O];exact E _ _ _ _ _ z (cN.alloc ad _)
    have b3:∀(W9:a0o),lO M V W9/\a0N V W9->lO M W W9/\a0N W W9:=λW9 h=>⟨λk b=>(h.1 k b).trans (ac k (ad k b)),(by rw [<- O] at h;exact (a0x W _).trans h.2)⟩
    have b0:W.heap.size≠w.heap.size+1:=by omega
    have b1:w.heap.size<=W.heap.size:=by omega
    have a9:w.heap.size+1<V.heap.size:=by omega
    refine roundIn_of_wpIn b8 (b4 _ x W _ ?_)
    rw [O]
    refine ⟨_,run_beginRound a8 (by rw [A]),?_⟩
    have bs:(V.putObj (w.heap.size+1) (.loop {rec .ready none with state:= .busy})).heap[w.heap.size+1]? =some (.loop {rec .ready none with state:= .busy}):=a0L a9
    have bb:(V.putObj (w.heap.size+1) (.loop {rec .ready none with state:= .busy})).heap[w.heap.size]? =some (.deferred (some [])):=(a0c (by omega)).trans a5
    have aS:=a6 _ _ _ au
    have b9:=E _ _ _ _ _ au (cN.put aS (w.heap.size+1) (by omega) _ (.loop {rec .ready none with state:= .busy}) a8 rfl)
    refine wpIn_mono (b6 _ M d x _ W.heap.size b9 bt b1 ((a0c b0).trans aT)) ?_
    have a1:∀(q:Option Code) (f:a0o),a0N (V.putObj (w.heap.size+1) (.loop {rec .ready none with state:= .busy})) f->
     (Instr.endRound (w.heap.size+1) q).run P f= .ok (.bool q.isNone) (f.putObj (w.heap.size+1) (.loop (rec (if q.isNone then .ready else .done) q)))/\
     f.heap[w.heap.size+1]? =some (.loop {rec .ready none with state:= .busy})/\
     (f.putObj (w.heap.size+1) (.loop (rec (if q.isNone then .ready else .done) q))).heap[w.heap.size+1]? =some (.loop (rec (if q.isNone then .ready else .done) q))/\
     (f.putObj (w.heap.size+1) (.loop (rec (if q.isNone then .ready else .done) q))).heap[w.heap.size]? =some (.deferred (some [])):=λq f i=>by
     have m:=i.same _ _ bs rfl
     have:=run_endRound (P:=P) q m
     rw [A] at this ⊢
     exact ⟨this,by rw [A] at m;exact m,a0L (Array.getElem?_eq_some_iff.1 m).1,(a0c (by omega)).trans (i.same _ _ bb rfl)⟩
    rintro e a3 f T
    cases e with
    |normal=>
     obtain ⟨i,bc,u⟩:=T
     obtain ⟨L,m,C,H⟩:=a1 none f i
     refine ⟨_,_,L, .inl ⟨rfl,⟨E _ _ _ _ _ u (cN.put (a6 _ _ _ u) _ (by omega) _ _ m rfl),U,n2,C,H⟩,b3 _ ⟨λk a5=>?_,?_⟩⟩⟩
     · have e1:k≠w.heap.size+1:=λe=>U (e ▸ a5)
       exact ((a0c (by omega)).trans (bc k a5)).trans (a0c (by omega))
     · refine ⟨a0y (a0y (grownBy_putObj' V (w.heap.size+1) _).size i.size) (grownBy_putObj' f (w.heap.size+1) _).size,λk o J hc=>?_⟩
       by_cases e1:k=w.heap.size+1
       · subst e1
         rw [a8] at J
         injection J with J
         subst J
         exact C
       · exact (a0c (by omega)).trans (i.same k o ((a0c (by omega)).trans J) hc)
    |ret=>
     obtain ⟨i,u⟩:=T
     obtain ⟨L,m,C,H⟩:=a1 (some .ret) f i
     exact ⟨_,_,L, .inr ⟨rfl, .ret,a2 _ _ _ _ _ _ u (cN.put (a7 _ _ _ _ u) _ (by omega) _ _ m rfl),C,H⟩⟩
    |exit id=>
     obtain ⟨i,u⟩:=T
     obtain ⟨L,m,C,H⟩:=a1 (some (.exit id)) f i
     exact ⟨_,_,L, .inr ⟨rfl, .exit id,a2 _ _ _ _ _ _ u (cN.put (a7 _ _ _ _ u) _ (by omega) _ _ m rfl),C,H⟩⟩
    |goto t=>
     obtain ⟨i,u⟩:=T
     obtain ⟨L,m,C,H⟩:=a1 (some (.goto t)) f i
     exact ⟨_,_,L, .inr ⟨rfl, .goto t,a2 _ _ _ _ _ _ u (cN.put (a7 _ _ _ _ u) _ (by omega) _ _ m rfl),C,H⟩⟩
    |panic ch=>exact T.elim
    |outgrown=>exact T.elim
   ·
    rintro e W2 ⟨⟨v,rfl⟩,(⟨M,xs,hS,z,U,n2,j,b⟩|⟨M,d,b2,c,z,j,b⟩)⟩
    · exact ⟨none,_,by have:=run_endLoop (P:=P) j (by rw [A];simp);rw [A] at this;exact this,b7 _ M xs _ (a0e _) hS (E _ _ _ _ _ z (cN.put (a6 _ _ _ z) _ (by omega) _ _ j rfl)) ((a0c (by omega)).trans b)⟩
    · exact ⟨some c,_,by have:=run_endLoop (P:=P) j (by rw [A];simp);rw [A] at this;exact this,bB _ c M d _ (a0e _) b2 (a2 c _ _ _ _ _ z (cN.put (a7 _ _ _ _ z) _ (by omega) _ _ j rfl)) ((a0c (by omega)).trans b)⟩
end
end
section
open Go.RowKit Go.Maps Go.Shelf
attribute [local go_sem] Oper.semAt_some
theorem Ba:(Tryz.prog.info? 134).map (λi=>(i.zero,i.size,i.bytes))=some (some (.agg #[.int .i64 0, .int .i64 0, .int .i64 0, .int .i64 0]),4,32):=by kernel_rfl
def pkCells (a:PK):List a0s:=[.int .i64 a.1.1, .int .i64 a.1.2, .int .i64 a.2.1, .int .i64 a.2.2]
structure zJ (w:a0o) (Bo:Nat) (M:Nat->Prop) (pre:List RK) (W:a0o):Prop where
 o:∃v,Boxed W Bo 52 v/\W.ownsRow w.heap.size 36 2 v pre.length (pre.flatMap rkCells)/\∀g,v.ownBlock=some g->¬M g
 b:a0G w.heap.size w W
 lt:∀k,M k->k<W.heap.size/\w.heap.size<=k
 box:¬M Bo
theorem zJ.stable (w:a0o) (p B:Nat) (E:w.heap.size<=B):gA B (zJ w p):=by
 intro M s X C Y h d;obtain ⟨v,m,r,A⟩:=h.o;have z:∀k,k<X.heap.size->¬M k->(∃u t,X.heap[k]? =some (.cells u t (0,0)))->Y.heap[k]? =X.heap[k]? :=λk c x q=>by obtain ⟨u,t,q⟩:=q;exact d.block k c x λ_ o l=>by rw [q] at l;injection l with l;subst l;rfl
 refine ⟨⟨v,(z p (ae m) h.box ⟨_,_,m⟩).trans m,ah r (λg f=>?_),λg f i=>?_⟩,?_,λk j=>⟨d.lt k j,?_⟩,λi=>?_⟩
 · obtain ⟨D,y⟩:=aD r f;exact z g (ae y) (A g f) ⟨_,_,y⟩
 · have:=kJ r g f;rcases d.new g i with c|c
   · exact A g f c
   · omega
 · have e:=h.b;exact ⟨d.os.trans e.os,d.tape.trans e.tape,d.output.trans e.output,a0y e.size d.size,λk j=>(d.block k (by have:=e.size;omega) (λi=>by have:=(h.lt k i).2;omega) (λx=>by omega)).trans (e.block k j)⟩
 · rcases d.new k j with c|c
   · exact (h.lt k c).2
   · have:=h.b.size;omega
 · rcases d.new p i with c|c
   · exact h.box c
   · have:=ae m;omega
theorem mu (n:Nat) (hn:3<=n) (g:Nat) (lb:Array a0s) (eg:∀args w,(callFunc g args).run a0b w= .ok (.enter g args) w) (L Sp:List RK->Prop) (G:List RK->RK->Prop) (hG:∀f x,G f x->f.length<100000000) (w:a0o)
 (a8:iY a0r (n - 1) a0b g lb (λx:RK=> #[recK x]) L Sp G (λ_=>False) w):
 CallsIn a0r n a0b 140 #[.slice none 0 0, .func (.func g) #[] lb] w λe w'=>∃(v:a0s) (t:List RK),e= .returned v/\L t/\w'.ownsRow w.heap.size 36 2 v t.length (t.flatMap rkCells)/\a0G w.heap.size w w':=by
 have C:1<=n:=by omega
 refine callsIn_of_wp_marks Tryz.func140 rfl trivial ?_ rfl;simp only [Tryz.ntmps140,a0k,a0f,a0q,a0u,a0t,a0h,a0g,a0l,a0i,a0m,a0p];gi_wp2
 have bO:=Boxed.new w 52 (.slice none 0 0);have E:a0G w.heap.size w (w.alloc (.cells #[.slice none 0 0] 52)):=(a0K _ w).alloc (a0e _) _
 refine mz rfl C (gf:=g) (lb:=lb) rfl trivial eg a8 (λk d=>d.elim) E (λ_=>rfl) (zJ w w.heap.size) (λ_ _ _ _=>False) (zJ.stable w _ _ E.size) (λ_ _ _ _ _ _ h _=>h) (λM s X h k d=>(h.lt k d).1) (λ_ _ _ _ h=>h.elim)
  ⟨⟨_,bO,a0Q _ _ _ _,λg hg=>by cases hg⟩,E,λk d=>d.elim,λh=>h⟩
  (λx N=>{tmps:= #[.slice none 0 0, .func (.func g) #[] lb, .pointer (some ⟨w.heap.size,0,none⟩),undef, .slice none 0 0, .pointer (some ⟨N,0,none⟩), .func (.func g) #[] lb,recK x,undef,undef,undef,undef,undef],defers:=[]}) (λx=> .cells (rkCells x).toArray 36) ?assign ?body ?done ?stop
 case assign=>
  intro l x W K j;obtain ⟨z,A⟩:=x;unfold recK rkCells at *;dsimp only at *;gi_wp2
  exact j
 case body=>
  rintro l M f x W N h U ao H;have U:=hG _ _ U;obtain ⟨v,r,p,Z⟩:=h.o;have hc:=r.cell;obtain ⟨i0,hi,ac,ad,al⟩:=info_parts i36;have i:=a0a h.b;have u:=a0a p;have HV:=a0a r;have J:=a0a Z;have I:=a0a h;clear h p r Z;obtain ⟨z,A⟩:=x;unfold recK at *;unfold rkCells at H;dsimp only at H ⊢;have a3:Hid ((f++[(z,A)]).flatMap rkCells=f.flatMap rkCells++[.int .i64 z, .int .i64 A]):=by unfold Hid;simp [rkCells]
  obtain ⟨n0,n1⟩:=cT H;generalize hxs:f.flatMap rkCells=xs0 at *;clear hxs;gi_wp2_with (gi_at_builtin;refine wpListIn_append_own_at _ rfl _ _ 52 rfl w.heap.size 36 i0 (.agg #[.int .i64 0, .int .i64 0]) 2 16 Tryz.underlying52 hi ac ad al rfl (by decide) _ _ _ rfl (u.out.alloc _) ⟨W.heap.size,0,none⟩ 1 1 [.int .i64 z, .int .i64 A] rfl rfl (cell_two_new _ _ _ _) (by simp [Value.oneCell']) (by unfold maxLen;omega) (by omega) (by have:=i.out.size;simp;omega) ?_;intro v' w1 a0 T _ V;obtain ⟨g',a4,rfl⟩:=ownsRow_succ a0;obtain ⟨a1,a9,a7,a5,O⟩:=HV.out.appended (by decide) u.out i.out.size (a0e _) a0 T;have au:=a1.cell;have av:=a1.frozen;have a2:=a0a V;clear V)
  have ax:=i.size;have y:=I.lt;have R:=I.box;have a6:∀k,M k->(w1.setCell ⟨w.heap.size,0,none⟩ (.slice (some ⟨g',0,none⟩) (f.length+1) a4)).heap[k]? =W.heap[k]? :=λk d=>by have C:=(y k d).1;rw [a0P _ _ _ _ (λ(e:k=w.heap.size)=>R (e ▸ d)),T.block k (by simp;omega) (λe=>J.out k e.symm d),a0A _ _ _ C]
  refine ⟨a5,a6,⟨⟨_,a9,?_,λq m Y=>?_⟩,i.trans O,λk d=>⟨?_,(y k d).2⟩,R⟩⟩
  · rw [a0j,a3.out];exact a7
  · rcases a2.out with e|e
    · exact J q (e ▸ m) Y
    · rw [e] at m;injection m with m
      have:=(y q Y).1;simp at m;omega
  · exact Nat.lt_of_lt_of_le (y k d).1 O.size
 case done=>
  rintro D M t W hD hS h j;obtain ⟨v,r,p,_⟩:=h.o;have hc:=r.cell;have u:=a0a p;have i:=a0a h.b;clear h p;gi_wp2
  refine ⟨by simp, .inl ⟨_,_,rfl,run_takeDeferred j,?_⟩⟩;exact ⟨_,results_tmp rfl _ _ _,v,t,rfl,hS,ownsRow_putObj u.out _ j rfl,i.out.trans (belowK_b (w:=w) (a0e _) W D _ _ (by simp at hD;omega) j rfl rfl)⟩
 case stop=> rintro D c M f W _ _ h _;exact h.elim
theorem sT (n:Nat) (q:4<=n) (g:Nat) (lb:Array a0s) (h:∀args w,(callFunc g args).run a0b w= .ok (.enter g args) w) (c d:List RK->Prop) (G:List RK->RK->Prop) (i:∀f x,G f x->f.length<100000000) (w:a0o)
 (m:iY a0r (n - 1 - 1) a0b g lb (λx:RK=> #[recK x]) c d G (λ_=>False) w):
 Calls a0b 88 #[.func (.func g) #[] lb] w λe w'=>∃(v:a0s) (b:List RK),e= .returned v/\c b/\w'.ownsRow w.heap.size 36 2 v b.length (b.flatMap rkCells)/\a0G w.heap.size w w':=by
 have p:1<=n:=by omega
 refine (callsIn_wide (n:=n)).1 ?_;refine a0C Tryz.func88 rfl trivial ?_ rfl;simp only [Tryz.ntmps88,a0k,a0f,a0q,a0u,a0t,a0h,a0g,a0l,a0i,a0m,a0p];gi_wp2_with (refine ⟨trivial,?_⟩;gi_at_call 140;refine (mu (n - 1) (by omega) g lb h c d G i _ m).mono ?_;rintro e w' ⟨v,b,rfl,j,l,k⟩)
 go_ret;exact ⟨v,b,rfl,j,l,k⟩
structure zK (w:a0o) (Bo:Nat) (M:Nat->Prop) (pre:List PK) (W:a0o):Prop where
 o:∃v,Boxed W Bo 131 v/\W.ownsRow w.heap.size 134 4 v pre.length (pre.flatMap pkCells)/\∀g,v.ownBlock=some g->¬M g
 b:a0G w.heap.size w W
 lt:∀k,M k->k<W.heap.size/\w.heap.size<=k
 box:¬M Bo
theorem zK.stable (w:a0o) (p B:Nat) (E:w.heap.size<=B):gA B (zK w p):=by
 intro M s X C Y h d;obtain ⟨v,m,r,A⟩:=h.o;have z:∀k,k<X.heap.size->¬M k->(∃u t,X.heap[k]? =some (.cells u t (0,0)))->Y.heap[k]? =X.heap[k]? :=λk c x q=>by obtain ⟨u,t,q⟩:=q;exact d.block k c x λ_ o l=>by rw [q] at l;injection l with l;subst l;rfl
 refine ⟨⟨v,(z p (ae m) h.box ⟨_,_,m⟩).trans m,ah r (λg f=>?_),λg f i=>?_⟩,?_,λk j=>⟨d.lt k j,?_⟩,λi=>?_⟩
 · obtain ⟨D,y⟩:=aD r f;exact z g (ae y) (A g f) ⟨_,_,y⟩
 · have:=kJ r g f;rcases d.new g i with c|c
   · exact A g f c
   · omega
 · have e:=h.b;exact ⟨d.os.trans e.os,d.tape.trans e.tape,d.output.trans e.output,a0y e.size d.size,λk j=>(d.block k (by have:=e.size;omega) (λi=>by have:=(h.lt k i).2;omega) (λx=>by omega)).trans (e.block k j)⟩
 · rcases d.new k j with c|c
   · exact (h.lt k c).2
   · have:=h.b.size;omega
 · rcases d.new p i with c|c
   · exact h.box c
   · have:=ae m;omega
theorem mr (n:Nat) (hn:3<=n) (g:Nat) (lb:Array a0s) (eg:∀args w,(callFunc g args).run a0b w= .ok (.enter g args) w) (R Sp:List PK->Prop) (G:List PK->PK->Prop) (hG:∀f x,G f x->f.length<100000000) (w:a0o)
 (a9:iY a0r (n - 1) a0b g lb (λx:PK=> #[pairV x]) R Sp G (λ_=>False) w):
 CallsIn a0r n a0b 163 #[.slice none 0 0, .func (.func g) #[] lb] w λe w'=>∃(v:a0s) (t:List PK),e= .returned v/\R t/\w'.ownsRow w.heap.size 134 4 v t.length (t.flatMap pkCells)/\a0G w.heap.size w w':=by
 have H:1<=n:=by omega
 refine callsIn_of_wp_marks Tryz.func163 rfl trivial ?_ rfl;simp only [Tryz.ntmps163,a0k,a0f,a0q,a0u,a0t,a0h,a0g,a0l,a0i,a0m,a0p];gi_wp2
 have bO:=Boxed.new w 131 (.slice none 0 0);have I:a0G w.heap.size w (w.alloc (.cells #[.slice none 0 0] 131)):=(a0K _ w).alloc (a0e _) _
 refine mz rfl H (gf:=g) (lb:=lb) rfl trivial eg a9 (λk d=>d.elim) I (λ_=>rfl) (zK w w.heap.size) (λ_ _ _ _=>False) (zK.stable w _ _ I.size) (λ_ _ _ _ _ _ h _=>h) (λM s X h k d=>(h.lt k d).1) (λ_ _ _ _ h=>h.elim)
  ⟨⟨_,bO,a0Q _ _ _ _,λg hg=>by cases hg⟩,I,λk d=>d.elim,λh=>h⟩
  (λx N=>{tmps:= #[.slice none 0 0, .func (.func g) #[] lb, .pointer (some ⟨w.heap.size,0,none⟩),undef, .slice none 0 0, .pointer (some ⟨N,0,none⟩), .func (.func g) #[] lb,pairV x,undef,undef,undef,undef,undef],defers:=[]}) (λx=> .cells (pkCells x).toArray 134) ?assign ?body ?done ?stop
 case assign=>
  intro l x W K j;obtain ⟨⟨z,A⟩,C,E⟩:=x;unfold pairV pkCells at *;dsimp only at *;gi_wp2
  exact j
 case body=>
  rintro l M f x W N h Y au J;have Y:=hG _ _ Y;obtain ⟨v,r,p,a0⟩:=h.o;have hc:=r.cell;obtain ⟨i0,hi,ad,al,ao⟩:=info_parts Ba;have i:=a0a h.b;have u:=a0a p;have HV:=a0a r;have O:=a0a a0;have L:=a0a h;clear h p r a0;obtain ⟨⟨z,A⟩,C,E⟩:=x;unfold pairV at *;unfold pkCells at J;dsimp only at J ⊢;have a4:Hid ((f++[((z,A),C,E)]).flatMap pkCells=f.flatMap pkCells++[.int .i64 z, .int .i64 A, .int .i64 C, .int .i64 E]):=by unfold Hid;simp [pkCells]
  obtain ⟨n0,n1,n2,n3⟩:=mn J;generalize hxs:f.flatMap pkCells=xs0 at *;clear hxs;gi_wp2_with (gi_at_builtin;refine wpListIn_append_own_at _ rfl _ _ 131 rfl w.heap.size 134 i0 (.agg #[.int .i64 0, .int .i64 0, .int .i64 0, .int .i64 0]) 4 32 Tryz.underlying131 hi ad al ao rfl (by decide) _ _ _ rfl (u.out.alloc _) ⟨W.heap.size,0,none⟩ 1 1 [.int .i64 z, .int .i64 A, .int .i64 C, .int .i64 E] rfl rfl (mj _ _ _ _ _ _) (by simp [Value.oneCell']) (by unfold maxLen;omega) (by omega) (by have:=i.out.size;simp;omega) ?_;intro v' w1 a1 V _ Z;obtain ⟨g',a5,rfl⟩:=ownsRow_succ a1;obtain ⟨a2,ac,a8,a6,T⟩:=HV.out.appended (by decide) u.out i.out.size (a0e _) a1 V;have av:=a2.cell;have ax:=a2.frozen;have a3:=a0a Z;clear Z)
  have ay:=i.size;have y:=L.lt;have U:=L.box;have a7:∀k,M k->(w1.setCell ⟨w.heap.size,0,none⟩ (.slice (some ⟨g',0,none⟩) (f.length+1) a5)).heap[k]? =W.heap[k]? :=λk d=>by have H:=(y k d).1;rw [a0P _ _ _ _ (λ(e:k=w.heap.size)=>U (e ▸ d)),V.block k (by simp;omega) (λe=>O.out k e.symm d),a0A _ _ _ H]
  refine ⟨a6,a7,⟨⟨_,ac,?_,λq m hm=>?_⟩,i.trans T,λk d=>⟨?_,(y k d).2⟩,U⟩⟩
  · rw [a0j,a4.out];exact a8
  · rcases a3.out with e|e
    · exact O q (e ▸ m) hm
    · rw [e] at m;injection m with m
      have:=(y q hm).1;simp at m;omega
  · exact Nat.lt_of_lt_of_le (y k d).1 T.size
 case done=>
  rintro D M t W hD hS h j;obtain ⟨v,r,p,_⟩:=h.o;have hc:=r.cell;have u:=a0a p;have i:=a0a h.b;clear h p;gi_wp2
  refine ⟨by simp, .inl ⟨_,_,rfl,run_takeDeferred j,?_⟩⟩;exact ⟨_,results_tmp rfl _ _ _,v,t,rfl,hS,ownsRow_putObj u.out _ j rfl,i.out.trans (belowK_b (w:=w) (a0e _) W D _ _ (by simp at hD;omega) j rfl rfl)⟩
 case stop=> rintro D c M f W _ _ h _;exact h.elim
theorem qY (n:Nat) (q:4<=n) (g:Nat) (lb:Array a0s) (h:∀args w,(callFunc g args).run a0b w= .ok (.enter g args) w) (c d:List PK->Prop) (G:List PK->PK->Prop) (i:∀f x,G f x->f.length<100000000) (w:a0o)
 (m:iY a0r (n - 1 - 1) a0b g lb (λx:PK=> #[pairV x]) c d G (λ_=>False) w):
 Calls a0b 119 #[.func (.func g) #[] lb] w λe w'=>∃(v:a0s) (b:List PK),e= .returned v/\c b/\w'.ownsRow w.heap.size 134 4 v b.length (b.flatMap pkCells)/\a0G w.heap.size w w':=by
 have p:1<=n:=by omega
 refine (callsIn_wide (n:=n)).1 ?_;refine a0C Tryz.func119 rfl trivial ?_ rfl;simp only [Tryz.ntmps119,a0k,a0f,a0q,a0u,a0t,a0h,a0g,a0l,a0i,a0m,a0p];gi_wp2_with (refine ⟨trivial,?_⟩;gi_at_call 163;refine (mr (n - 1) (by omega) g lb h c d G i _ m).mono ?_;rintro e w' ⟨v,b,rfl,j,l,k⟩)
 go_ret;exact ⟨v,b,rfl,j,l,k⟩
end
section
open Go.RowKit Go.Maps Go.Shelf Go.Lib Go.Sort
section
variable {α:Type} [Inhabited α]
theorem li (enc:α->List a0s) (k:Nat) (m:0<k) (d:∀x,(enc x).length=k) (b:List α):flatK enc k b.toArray=(b.flatMap enc).toArray:=by
 have p:(b.flatMap enc).length=b.length * k:=by
  induction b with
  |nil=>simp
  |cons a l ih=>rw [List.flatMap_cons,a0j,d,ih,a0f,Nat.add_mul];omega
 apply Array.ext
 · simp [p]
 · intro t f v;have q:t<b.toArray.size * k:=by simpa using f
   have r:t<b.length * k:=by simpa using q
   have g:=get_flatK enc k b.toArray t q;rw [getElem!_pos (flatK enc k b.toArray) t f] at g;rw [g];have h:t / k<b.length:=(Nat.div_lt_iff_lt_mul m).2 r;have i:t%k<k:=Nat.mod_lt _ m;have e:=de enc k d b (t / k) h (t%k) i;rw [Nat.div_add_mod' t k] at e;have s:b.toArray[t / k]! =b[t / k]:=by rw [getElem!_pos b.toArray (t / k) (by simpa using h)];simp
   rw [s];have j:t%k<(enc b[t / k]).length:=by rw [d];exact i
   rw [getElem!_pos (enc b[t / k]) (t%k) j];have c:(b.flatMap enc)[t]? =some ((enc b[t / k])[t%k]):=by rw [e];exact a0z j
   have u:t<(b.flatMap enc).length:=by rw [p];exact r
   rw [a0z u] at c;injection c with c
   simpa using c.symm
theorem cJ {lo e k g c n:Nat}:∀(b:List a0s) (s:Nat) (w:a0o) (xs:List a0s),w.ownsRow lo e k (.slice (some ⟨g,0,none⟩) n c) n xs->s+b.length<=xs.length->
 (w.setCells g s b).ownsRow lo e k (.slice (some ⟨g,0,none⟩) n c) n (xs.take s++b++xs.drop (s+b.length))/\aq g w (w.setCells g s b)
 |[],s,w,xs,h,hs=>⟨by simpa [World.setCells] using h,aq.refl _ _⟩
 |v::b,s,w,xs,h,hs=>by
  have m:s+1+b.length<=xs.length:=by simp at hs;omega
  have j:=(h.stored s v).1
  obtain ⟨d,l⟩:=cJ b (s+1) _ _ j (by simpa using m)
  refine ⟨?_,((aq.refl g w).setCell s v).trans l⟩
  have f:(xs.set s v).take (s+1)=xs.take s++[v]:=by
   rw [List.take_succ_eq_append_getElem (by simp;omega)]
   simp [List.take_set_of_le]
  have i:(xs.set s v).drop (s+1+b.length)=xs.drop (s+(b.length+1)):=by
   rw [List.drop_set_of_lt (by omega)]
   congr 1
   omega
  rw [f,i] at d
  simpa [World.setCells] using d
theorem gF {lo e k g d:Nat} (enc:α->List a0s) (l:0<k) (i:∀x,(enc x).length=k) {w:a0o} {b:List α} (h:w.ownsRow lo e k (.slice (some ⟨g,0,none⟩) b.length d) b.length (b.flatMap enc)):HoldsK enc k w g 0 b.toArray:=by
 intro j c;rw [li enc k l i] at c ⊢;have f:j<(b.flatMap enc).length:=by simpa using c
 rw [Nat.zero_add];refine ⟨?_,h.frozenAt j⟩;rw [h.cellAt j (by have:=h.1;omega),getElem!_pos _ j c];rw [a0z f];simp
theorem iu {lo e k g j:Nat} (enc:α->List a0s) (t:0<k) (m:∀x,(enc x).length=k) {w:a0o} {b ys:List α} (p:ys.length=b.length) (h:w.ownsRow lo e k (.slice (some ⟨g,0,none⟩) b.length j) b.length (b.flatMap enc)) (n:Nat) (c:Array Obj):
 (sortWorldK enc k w g 0 n ys.toArray c).ownsRow lo e k (.slice (some ⟨g,0,none⟩) b.length j) b.length (ys.flatMap enc)/\(sortWorldK enc k w g 0 n ys.toArray c).os=w.os/\(sortWorldK enc k w g 0 n ys.toArray c).tape=w.tape/\(sortWorldK enc k w g 0 n ys.toArray c).output=w.output/\
  w.heap.size<=(sortWorldK enc k w g 0 n ys.toArray c).heap.size/\∀q,q<w.heap.size->q≠g->(sortWorldK enc k w g 0 n ys.toArray c).heap[q]? =w.heap[q]? :=by
 have A:=gF enc t m h;have i:∀zs:List α,(zs.flatMap enc).length=zs.length * k:=λzs=>by
  induction zs with
  |nil=>simp
  |cons a l ih=>rw [List.flatMap_cons,a0j,m,ih,a0f,Nat.add_mul];omega
 have v:sortWorldK enc k w g 0 n ys.toArray c=Sort.grow ((w.drewN n).setCells g 0 (ys.flatMap enc)) c:=by unfold sortWorldK putRowK;rw [li enc k t m];have:=Lib.putRow_eq_setCells id w g 0 (flatK enc k b.toArray) (ys.flatMap enc) n A (by rw [i,p,size_flatK];simp);rw [this];simp
 have y:(w.drewN n).ownsRow lo e k (.slice (some ⟨g,0,none⟩) b.length j) b.length (b.flatMap enc):=h;obtain ⟨r,f⟩:=cJ (ys.flatMap enc) 0 (w.drewN n) (b.flatMap enc) y (by rw [i,i,p];omega);have z:(ys.flatMap enc).length=(b.flatMap enc).length:=by rw [i,i,p]
 rw [List.take_zero,a0m,Nat.zero_add,z,List.drop_length,List.append_nil] at r;rw [v];have u:((w.drewN n).setCells g 0 (ys.flatMap enc)).heap.size=w.heap.size:=f.size;have s:∀q,q<w.heap.size->(Sort.grow ((w.drewN n).setCells g 0 (ys.flatMap enc)) c).heap[q]? =((w.drewN n).setCells g 0 (ys.flatMap enc)).heap[q]? :=λq d=>by show (((w.drewN n).setCells g 0 (ys.flatMap enc)).heap++c)[q]? =_;rw [Array.getElem?_append_left (by rw [u];exact d)]
 have C:=(h.lt g (by simp [a0v])).2;refine ⟨ah r (λq d=>?_),f.os,f.tape,f.output,by rw [Sort.size_grow,u];omega,λq d D=>(s q d).trans (f.block q D)⟩;simp [a0v] at d;subst d;exact s _ C
end
theorem nJ {K:Type} {lt:K->K->Bool} (T:Tot lt):Sort.SWO lt:=by
 refine ⟨T.irr,T.tr,λx y z d b=>?_⟩;cases h3:lt x z
 · rfl
 · exfalso;by_cases e:y=x
   · subst e;rw [h3] at b;cases b
   · rcases T.tot y x e with c|c
     · have:=T.tr _ _ _ c h3;rw [this] at b;cases b
     · rw [c] at d;cases d
def cM {K:Type} (lt:K->K->Bool) (b:List K):List K:=b.mergeSort λx y=> !(lt y x)
theorem cR {K:Type} (lt:K->K->Bool) (b:List K):(cM lt b).Perm b:=List.mergeSort_perm _ _
theorem fk {K:Type} {lt:K->K->Bool} (T:Tot lt) (d:List K):(cM lt d).Pairwise λa b=>(!(lt b a))=true:=by
 refine List.pairwise_mergeSort (le:=λx y=> !(lt y x)) (λa b c e f=>?_) (λa b=>?_) d
 · simp only [a0n] at *;exact (nJ T).ntrans _ _ _ f e
 · simp only [Bool.or_eq_true,a0n];cases h:lt b a
   · exact .inl rfl
   · exact .inr (T.asym h)
theorem cH {K:Type} {lt:K->K->Bool} (T:Tot lt) {c ys:List K} (g:c.Perm ys) (i:ys.Pairwise λa b=>lt a b=true):cM lt c=ys:=by
 refine ((cR lt c).trans g).eq_of_pairwise (λa b _ _ d f=>?_) (fk T c) (i.imp λ{a b} h=>by simp [T.asym h]);simp only [a0n] at d f;by_cases e:a=b
 · exact e
 · rcases T.tot a b e with h|h
   · rw [f] at h;cases h
   · rw [d] at h;cases h
theorem pM {K:Type} {lt:K->K->Bool} (T:Tot lt) {c ys:List K} (g:c.Perm ys):cM lt c=cM lt ys:=by
 refine ((cR lt c).trans (g.trans (cR lt ys).symm)).eq_of_pairwise (λa b _ _ d f=>?_) (fk T c) (fk T ys);simp only [a0n] at d f;by_cases e:a=b
 · exact e
 · rcases T.tot a b e with h|h
   · rw [f] at h;cases h
   · rw [d] at h;cases h
theorem gG:ltOf bo=ltRK:=by
 funext a b
 unfold ltOf;rw [Bool.eq_iff_iff,decide_eq_true_eq];exact ep a b
theorem oy:ltOf ni=ltPK:=by
 funext a b
 unfold ltOf;rw [Bool.eq_iff_iff,decide_eq_true_eq];exact vC a b
theorem pI (lo:Nat) (w:a0o) (v:a0s) (b:List RK) (h:w.ownsRow lo 36 2 v b.length (b.flatMap rkCells)) (L:b.length<=1000000):
 Calls a0b 80 #[v, .func (.func 49) #[] #[]] w λe w'=>e= .returned (.tuple #[])/\w'.ownsRow lo 36 2 v b.length ((cM ltRK b).flatMap rkCells)/\w'.os=w.os/\w'.tape=w.tape/\w'.output=w.output/\w.heap.size<=w'.heap.size/\∀q,q<w.heap.size->v.ownBlock≠some q->w'.heap[q]? =w.heap[q]? :=by
 rcases h.2 with ⟨rfl,z⟩|⟨g,u,H,rfl,_⟩
 · have G:b=[]:=a0H z;subst G;refine (AnyF.slices_SortFunc_none tF none 0 (.func (.func 49) #[] #[]) w).mono ?_;rintro e w' ⟨rfl,rfl⟩;exact ⟨rfl,by simpa [cM] using h,rfl,rfl,rfl,a0e _,λ_ _ _=>rfl⟩
 · have C:=(h.lt g (by simp [a0v])).2;have A:=gF rkCells (by decide) (λ_=>rfl) h;have:=AnyQ.slices_SortFunc_total tF 2 Tryz.isAgg36 Tryz.sizeOf36 rkCells (λ_=>rfl) (λx v i=>by
    simp only [rkCells,List.mem_cons,List.not_mem_nil,or_false] at i;rcases i with rfl|rfl<;>rfl) bo (by rw [gG];exact nJ aL) 49 #[] g 0 u b.toArray w (enters_of Tryz.func49 (by kernel_rfl) rfl)
    (λm j I J x y=>(eC x y _).mono λe w' f=>⟨f.1,f.2⟩) A C (by simp;omega) (λx y c d=>by
     rw [gG] at c d;by_cases e:x=y
     · exact e
     · rcases aL.tot x y e with h|h
       · rw [c] at h;cases h
       · rw [d] at h;cases h)
   refine (this).mono ?_;rintro e w' ⟨rfl,n,j,rfl⟩;rw [gG];obtain ⟨k,l,p,r,s,t⟩:=iu (ys:=cM ltRK b) rkCells (by decide) (λ_=>rfl) (cR ltRK b).length_eq h n j;exact ⟨rfl,k,l,p,r,s,λq E D=>t q E (λe=>D (by rw [e];simp [a0v]))⟩
theorem mJ (n:Nat) (M:4<=n) (g:Nat) (lb:Array a0s) (H:∀args w,(callFunc g args).run a0b w= .ok (.enter g args) w) (c:List RK) (L:c.length<=1000000) (E:List RK->Prop) (G:List RK->RK->Prop) (I:∀u x,G u x->u.length<100000000) (w:a0o)
 (t:iY a0r (n - 1 - 1) a0b g lb (λx:RK=> #[recK x]) (λh=>h.Perm c) E G (λ_=>False) w):
 Calls a0b 47 #[.func (.func g) #[] lb, .func (.func 49) #[] #[]] w λe w'=>∃v,e= .returned v/\w'.ownsRow w.heap.size 36 2 v c.length ((cM ltRK c).flatMap rkCells)/\a0G w.heap.size w w':=by
 have z:=a0a (sT n M g lb H _ _ _ I _ t);clear t;go_enter Tryz.func47,Tryz.ntmps47;go_wp2_with (go_at_call 88;((with_reducible refine Calls.mono z.out ?_);rintro e w1 ⟨v,h,rfl,f,d,s⟩;have D:=a0a (pI w.heap.size w1 v h d (by rw [f.length_eq];exact L));have i:=a0a f;have b:=a0a s;have C:=a0a d;clear f d s))
 go_at_call 80;refine D.mono ?_;rintro e N ⟨rfl,j,l,m,p,q,r⟩;have A:=a0a j;have y:Hid (a0G w.heap.size w N):=⟨l.trans b.out.os,m.trans b.out.tape,p.trans b.out.output,a0y b.out.size q,λk J=>(r k (by have:=b.out.size;omega) (λe=>by have:=(C.out.lt k e).1;omega)).trans (b.out.block k J)⟩;clear j l m p q r;go_wp2;go_ret;refine ⟨v,rfl,?_,y.out⟩;have:=A.out;rw [i.out.length_eq,pM aL i.out] at this;exact this
theorem uw (lo:Nat) (w:a0o) (v:a0s) (b:List PK) (h:w.ownsRow lo 134 4 v b.length (b.flatMap pkCells)) (L:b.length<=1000000):
 Calls a0b 120 #[v, .func (.func 67) #[] #[]] w λe w'=>e= .returned (.tuple #[])/\w'.ownsRow lo 134 4 v b.length ((cM ltPK b).flatMap pkCells)/\w'.os=w.os/\w'.tape=w.tape/\w'.output=w.output/\w.heap.size<=w'.heap.size/\∀q,q<w.heap.size->v.ownBlock≠some q->w'.heap[q]? =w.heap[q]? :=by
 rcases h.2 with ⟨rfl,z⟩|⟨g,u,H,rfl,_⟩
 · have G:b=[]:=a0H z;subst G;refine (AnyF.slices_SortFunc_none pL none 0 (.func (.func 67) #[] #[]) w).mono ?_;rintro e w' ⟨rfl,rfl⟩;exact ⟨rfl,by simpa [cM] using h,rfl,rfl,rfl,a0e _,λ_ _ _=>rfl⟩
 · have C:=(h.lt g (by simp [a0v])).2;have A:=gF pkCells (by decide) (λ_=>rfl) h;have:=AnyQ.slices_SortFunc_total pL 4 Tryz.isAgg134 Tryz.sizeOf134 pkCells (λ_=>rfl) (λx v i=>by
    simp only [pkCells,List.mem_cons,List.not_mem_nil,or_false] at i;rcases i with rfl|rfl|rfl|rfl<;>rfl) ni (by rw [oy];exact nJ dm) 67 #[] g 0 u b.toArray w (enters_of Tryz.func67 (by kernel_rfl) rfl)
    (λm j I J x y=>(jX x y _).mono λe w' f=>⟨f.1,f.2⟩) A C (by simp;omega) (λx y c d=>by
     rw [oy] at c d;by_cases e:x=y
     · exact e
     · rcases dm.tot x y e with h|h
       · rw [c] at h;cases h
       · rw [d] at h;cases h)
   refine (this).mono ?_;rintro e w' ⟨rfl,n,j,rfl⟩;rw [oy];obtain ⟨k,l,p,r,s,t⟩:=iu (ys:=cM ltPK b) pkCells (by decide) (λ_=>rfl) (cR ltPK b).length_eq h n j;exact ⟨rfl,k,l,p,r,s,λq E D=>t q E (λe=>D (by rw [e];simp [a0v]))⟩
theorem ux (n:Nat) (M:4<=n) (g:Nat) (lb:Array a0s) (H:∀args w,(callFunc g args).run a0b w= .ok (.enter g args) w) (c:List PK) (L:c.length<=1000000) (E:List PK->Prop) (G:List PK->PK->Prop) (I:∀u x,G u x->u.length<100000000) (w:a0o)
 (t:iY a0r (n - 1 - 1) a0b g lb (λx:PK=> #[pairV x]) (λh=>h.Perm c) E G (λ_=>False) w):
 Calls a0b 65 #[.func (.func g) #[] lb, .func (.func 67) #[] #[]] w λe w'=>∃v,e= .returned v/\w'.ownsRow w.heap.size 134 4 v c.length ((cM ltPK c).flatMap pkCells)/\a0G w.heap.size w w':=by
 have z:=a0a (qY n M g lb H _ _ _ I _ t);clear t;go_enter Tryz.func65,Tryz.ntmps65;go_wp2_with (go_at_call 119;((with_reducible refine Calls.mono z.out ?_);rintro e w1 ⟨v,h,rfl,f,d,s⟩;have D:=a0a (uw w.heap.size w1 v h d (by rw [f.length_eq];exact L));have i:=a0a f;have b:=a0a s;have C:=a0a d;clear f d s))
 go_at_call 120;refine D.mono ?_;rintro e N ⟨rfl,j,l,m,p,q,r⟩;have A:=a0a j;have y:Hid (a0G w.heap.size w N):=⟨l.trans b.out.os,m.trans b.out.tape,p.trans b.out.output,a0y b.out.size q,λk J=>(r k (by have:=b.out.size;omega) (λe=>by have:=(C.out.lt k e).1;omega)).trans (b.out.block k J)⟩;clear j l m p q r;go_wp2;go_ret;refine ⟨v,rfl,?_,y.out⟩;have:=A.out;rw [i.out.length_eq,pM dm i.out] at this;exact this
end
end Go.Proofs.YtjcimanddakkaaaGreatDoor
