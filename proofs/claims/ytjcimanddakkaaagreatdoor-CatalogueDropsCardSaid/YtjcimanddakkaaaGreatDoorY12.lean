/- Lemmas. -/
import Derived.Test.YtjcimanddakkaaaGreatDoorY11
set_option maxRecDepth 100000
set_option maxHeartbeats 8000000
namespace Go.Proofs.YtjcimanddakkaaaGreatDoor
open _root_.Option renaming none→Y,some→X
open Go.Value renaming map→c3,pointer→c4,bool→c5,int→J,slice→c9
open Go.IntKind renaming i64→U
open Go.Lib renaming hid→Z
open Go.Ending renaming returned→c6
open Go.Obj renaming cells→c7
open Tryz
open Go.Value renaming int→cb,ownBlock→ds
open Go.World renaming putObj_heap_other→cc,alloc_heap_new→dx,putObj_heap_same→e7,ownsRow_nil→fs
open _root_.Nat renaming le_refl→cd,reduceSub→da,reduceAdd→dc,le_trans→dz,add_assoc→e9
open _root_.Array renaming replicate_zero→ce,replicate_succ→cg,getElem?_eq_none→e8
open _root_.List renaming length_cons→cl,append_toArray→cm,length_append→cp,size_toArray→cq,push_toArray→cs,nil_append→cu,cons_append→cx,length_nil→cy,take_succ_eq_append_getElem→dk,length_pos_of_mem→dr,getElem?_eq_getElem→ej,append_assoc→em,length_map→eQ,map_cons→e2,eq_nil_of_length_eq_zero→e3,take_of_length_le→fc,mem_cons_self→ft
open Go renaming World→cv,Value→cQ,callsIn_of_wp→dy,results_none→e5,bodyPost_ret→e6,KeepsOthers→fl,Calls→fx
open _root_.Bool renaming not_eq_true'→cz
open Go.Fence renaming wide→cP
open Go.KeepsOthers renaming alloc→dd
open Go.Obj renaming cells→er
open Go.RowKit.Below renaming heap_alloc→ex,refl→e0,heap_setCell→fr
open Go.Result renaming andThen→e4
open Go.WideAt renaming sameKey_self→fp
section
open Go.RowKit Go.Maps Go.Shelf Go.WideShapes
attribute [local go_sem] Oper.semAt_some
set_option linter.unusedSectionVars false
section
variable {P:Program} {kt:TypeId} {K:Type} [DecidableEq K] {B:ee P kt K} {F:Fence} {nF:Nat}
variable (w:cv) {ops:Array Oper} {rest:List Oper} {o:Oper} {a:Act} {Q:Exit->Act->cv->Prop}
theorem pu (A:o.guard=Y) (m:Operand) (t:TypeId) (E:o.op=Op.range t m) (e:TypeId) (H:P.underlying t=X (.map kt e))
 (b:Nat) (l:List (K×cQ)) (D:a.eval m=c3 (X b)) (h:ak B w b l)
 (y:∀w',cn B w' b w.heap.size l l->Bw w w'->w'.heap.size=w.heap.size+1->wpListIn F nF P ops Q rest (a.put o.dst (c4 (X ⟨w.heap.size,0,Y⟩))) w'):wpListIn F nF P ops Q (o::rest) a w:=by
 have j:=h.nodup;obtain ⟨u,g,f,i⟩:=h;refine wpListIn_range_own w A m t E kt e B.keyed H heldR b _ _ D g λw' v c x=>y w' ⟨u,_,_,v,f,i,List.Sublist.refl _,λp d=>?_,λz r=>?_⟩ ⟨c.os,c.tape,c.output,c.size,λk C=>c.block k C (by simp)⟩ x
 · refine ⟨λ_=>d,λ_=>?_⟩;exact Maps.has_true_of_atKey λz=>ak.at_some g f j (i p d) ((bi j).2 d) z
 · rw [Maps.has_eq,List.any_eq_true] at r;obtain ⟨q,G,e⟩:=r;obtain ⟨p,d,s⟩:=List.mem_map.1 (f.mem_iff.1 G);exact ⟨p,d,by rw [<- WideAt.sameKey_eq e, <- s]⟩
theorem rM (hg:o.guard=Y) (M:Operand) (ac:o.op=Op.next M false) (b r:Nat) (l left:List (K×cQ)) (a8:a.eval M=c4 (X ⟨r,0,Y⟩)) (h:cn B w b r l left)
 (a4:left=[]->wpListIn F nF P ops Q rest (a.put o.dst (.tuple #[c5 false])) w)
 (a5:∀(p:K×cQ) (w':cv),p∈left->B.ok p.1->cn B w' b r l (co left p.1)->(co left p.1).length<left.length->ar r w w'->
  (Instr.entry (c4 (X ⟨r,0,Y⟩))).run P w'= .ok (.tuple #[B.kv p.1,p.2]) w'->wpListIn F nF P ops Q rest (a.put o.dst (.tuple #[c5 true,B.kv p.1,p.2])) w'):
 wpListIn F nF P ops Q (o::rest) a w:=by
 have g:=h.map.nodup;obtain ⟨es,f,a0,N,O,G,u,R,T⟩:=h;refine wpListIn_next_ranges w hg M ac kt B.keyed heldR (λv:cQ=>v) (λv:cQ=>v) (λkey kl _=>⟨key,rfl⟩) (λv y _=>⟨v,rfl⟩) b r _ _ f a0 a8 N (λh0 hl=>a4 ?_) λx c kl y w' a3 I a9 W a6 ad au A al a7=>?_
 · rcases left with _|⟨p,left⟩
   · rfl
   · have:=(R p (u.subset ft)).2 ft;rw [hl] at this;cases this
 · obtain ⟨p,i,e⟩:=T kl a9;have L:=u.subset i;have C:=G p L;have ao:x=B.kv p.1:=B.keyed.inj I (by rw [<- e];exact B.key _ C);have hc:p.2=c:=by have H:=a6 (.held undef);rw [<- e,ak.at_some N.owns O g C ((bi g (k:=p.1) (v:=p.2)).2 L)] at H;simp only [heldR,Option.some.injEq] at W;rw [<- W] at H;injection H
   have V:(left.map (·.1)).Nodup:=g.sublist (u.map _);subst ao;subst hc;refine a5 p w' i C ⟨es,_,a3,ad,O,G,(List.filter_sublist).trans u,λq j=>?_,λz D=>?_⟩ (xS i) ⟨A.os,A.tape,A.output,al,λk hk=>?_⟩ a7
   · rw [gY V i, <- R q j];simp only [Bool.and_eq_true,cz];constructor
     · rintro ⟨E,t⟩;refine ⟨E,λd=>?_⟩;rw [d,e,fp (B.keyed.key I)] at t;cases t
     · rintro ⟨E,t⟩;refine ⟨E,Maps.sameKey_ne λd=>t ?_⟩;rw [<- e] at d;have s:=B.lit_inj (G q j) C d;have m:=(bi g (k:=q.1) (v:=q.2)).2 j;have a2:=(bi g (k:=p.1) (v:=p.2)).2 L;rw [s,a2] at m;injection m with m
       exact Prod.ext s m.symm
   · simp only [Bool.and_eq_true,cz] at D;obtain ⟨q,j,d⟩:=T z D.1;refine ⟨q,(gY V i).2 ⟨j,λs=>?_⟩,d⟩;rw [<- d,s,e,fp (B.keyed.key I)] at D;cases D.2
   · by_cases hk2:k<w.heap.size
     · exact A.block k hk2 (by simpa using hk)
     · rw [e8 (by omega),e8 (by omega)]
theorem ox (a b:Int):recB.kv (a,b)= .agg #[J U a,J U b]:=rfl
theorem xd (a b c d:Int):pairB.kv ((a,b),(c,d))= .agg #[J U a,J U b,J U c,J U d]:=rfl
def dL (B:ee P kt K) (w:cv) (mv:Option Nat) (r:Nat) (l left:List (K×cQ)):Prop:=match mv with
 |none=>l=[]/\left=[]/\w.heap[r]? =X (.mapIter Y 0 #[] 0)
 |some b=>cn B w b r l left
theorem dL.lt {w:cv} {mv:Option Nat} {r:Nat} {l left:List (K×cQ)} (h:dL B w mv r l left):r<w.heap.size:=by
 cases mv with
 |none=>exact ae h.2.2
 |some b=>exact cn.lt h
theorem dL.kept {w w':cv} {mv:Option Nat} {r:Nat} {l left:List (K×cQ)} (h:dL B w mv r l left) (c:fl w w'):dL B w' mv r l left:=by
 cases mv with
 |none=>exact ⟨h.1,h.2.1,c.same r _ h.2.2 rfl⟩
 |some b=> have h:cn B w b r l left:=h;obtain ⟨i,f,e,⟨g,c1,u,v,d,j,k,m,p,q,s⟩,t⟩:=h;exact ⟨i,f,e,⟨g,c1,u,v,d,c.same b _ j rfl,k,m,p,c.same r _ q rfl,s⟩,t⟩
theorem dL.nodup {w:cv} {mv:Option Nat} {r:Nat} {l left:List (K×cQ)} (h:dL B w mv r l left):(left.map (·.1)).Nodup:=by
 cases mv with
 |none=> obtain ⟨_,c,_⟩:=h;subst c;exact List.nodup_nil
 |some b=> have h:cn B w b r l left:=h;have e:=h.map.nodup;obtain ⟨i,f,g,j,c,k,d,_⟩:=h;exact e.sublist (d.map _)
theorem iV {l:List (K×cQ)} (b:(l.map (·.1)).Nodup) {k:K} {v:cQ} (c:(k,v)∈l):([k]++(co l k).map (·.1)).Perm (l.map (·.1)):=by
 induction l with
 |nil=>cases c
 |cons p l ih=>
  rw [e2,List.nodup_cons] at b;unfold co at ih ⊢;rw [List.filter_cons];by_cases e:p.1=k
  · rw [if_neg (by simp [e])];have:l.filter (λq=> !decide (q.1=k))=l:=by rw [List.filter_eq_self];intro q g;simp only [cz,decide_eq_false_iff_not];intro d;exact b.1 (by rw [e, <- d];exact List.mem_map.2 ⟨q,g,rfl⟩)
    rw [this,e2,e];exact .refl _
  · rw [if_pos (by simp [e]),e2,e2];have f:(k,v)∈l:=by
     rcases List.mem_cons.1 c with h|h
     · exact absurd (by rw [<- h]) e
     · exact h
    exact (List.Perm.swap _ _ _).trans ((ih b.2 f).cons _)
theorem eK (g:o.guard=Y) (m:Operand) (t:TypeId) (d:o.op=Op.range t m) (e:TypeId) (j:P.underlying t=X (.map kt e))
 (mv:Option Nat) (l:List (K×cQ)) (i:a.eval m= .map mv) (h:cj B w mv l)
 (f:∀w',dL B w' mv w.heap.size l l->Bw w w'->w'.heap.size=w.heap.size+1->wpListIn F nF P ops Q rest (a.put o.dst (c4 (X ⟨w.heap.size,0,Y⟩))) w'):wpListIn F nF P ops Q (o::rest) a w:=by
 cases mv with
 |some b=>exact pu w g m t d e j b l i h f
 |none=> have h:l=[]:=h;subst h;refine wpListIn_plain g λr k=>?_;unfold Oper.wpIn;refine ⟨by simp [Oper.about,d],?_⟩;rw [Oper.semAt_plain F _ _ (by rw [d];intro c q;cases q)];have p:Bw w (w.alloc (.mapIter Y 0 #[] 0)):=(e0 _ w).alloc (cd _) _;have:=f (w.alloc (.mapIter Y 0 #[] 0)) ⟨rfl,rfl,dx w _⟩ p (by simp);simp [execOp,d,i,Instr.range,run_underlying j,e4];exact k _ _ this
theorem fA (g:o.guard=Y) (e:Operand) (d:o.op=Op.next e false) (mv:Option Nat) (r:Nat) (l left:List (K×cQ)) (i:a.eval e=c4 (X ⟨r,0,Y⟩)) (h:dL B w mv r l left)
 (f:left=[]->wpListIn F nF P ops Q rest (a.put o.dst (.tuple #[c5 false])) w)
 (k:∀(p:K×cQ) (w':cv),p∈left->B.ok p.1->dL B w' mv r l (co left p.1)->(co left p.1).length<left.length->ar r w w'->
  (Instr.entry (c4 (X ⟨r,0,Y⟩))).run P w'= .ok (.tuple #[B.kv p.1,p.2]) w'->wpListIn F nF P ops Q rest (a.put o.dst (.tuple #[c5 true,B.kv p.1,p.2])) w'):
 wpListIn F nF P ops Q (o::rest) a w:=by
 cases mv with
 |some b=>exact rM w g e d b r l left i h f k
 |none=>
  obtain ⟨_,s,t⟩:=h;refine wpListIn_plain g λv j=>?_;unfold Oper.wpIn;refine ⟨by simp [Oper.about,d],?_⟩;rw [Oper.semAt_plain F _ _ (by rw [d];intro c m;cases m)];have u:(Instr.next (c4 (X ⟨r,0,Y⟩)) false o.type).run P w= .ok (.tuple #[c5 false]) w:=by
   have q:(getObj r).run P w= .ok (.mapIter Y 0 #[] 0) w:=by simp [getObj,Sem.run,t]
   simp [Instr.next,q,e4]
  simp [execOp,d,i,u,e4];exact j _ _ (f s)
end
theorem xt (n:Nat) (hn:1<=n) (q:Nat) (mv:Option Nat) (l:List (RK×cQ)) (r:cv) (A:r.cell? ⟨q,0,Y⟩=X (.map mv)) (M:cj recB r mv l) (al:∀b,mv=X b->b<r.heap.size):
 iI cP n prog 89 #[c4 (X ⟨q,0,Y⟩)] (λx:RK=> #[recK x]) (λxs=>xs.Perm (l.map (·.1))) (λ_=>True) (λd x=>d.length<l.length/\rkOk x) (λ_=>False) r:=by
 intro ax y Jx W z E H D;have c0:W.cell? ⟨q,0,Y⟩=X (.map mv):=(z.cell (p:=⟨q,0,Y⟩) (bm A)).trans A;have ad:cj recB W mv l:=M.block (λb hb=>z.block b (al b hb));have s:=Z E;have HY:=Z H;have V:=Z D;clear E H D z A M;refine dy func89 rfl trivial ?_ rfl;simp only [ntmps89,cq,cl,cy,dc,da,cg,ce,cs,cm,cu,cx];gi_wp2_with (refine eK _ rfl _ _ rfl 36 underlying92 mv l rfl ad ?_;intro w1 O i T)
 have I:y (λk=>k=W.heap.size) [] w1:=s.o _ _ _ _ _ V.o ⟨i.os,i.tape,i.output,i.size,λk c _ _=>i.block k c,λk c=> .inr (by rw [c];exact cd _),λk c=>by rw [c,T];omega⟩;have a3:=Z O;have a0:=Z I;have aT:W.heap.size<w1.heap.size:=by omega
 clear O I i T;gi_loopg [] (l.length+1) (λg wr=>∃d left,left.length<g/\Hid (dL recB wr mv W.heap.size l left)/\Hid (y (λk=>k=W.heap.size) d wr)/\Hid ((d++left.map (·.1)).Perm (l.map (·.1))))
 case atStart=>exact ⟨[],l,by omega,a3,a0,by unfold Hid;simp⟩
 case round=>
  obtain ⟨d,left,b1,u,C,t⟩:=hrel;have b2:W.heap.size<wr.heap.size:=u.lt;gi_wp2_with (refine fA _ rfl _ rfl mv W.heap.size l left rfl u.o ?_ ?_)
  · intro a9;subst a9;gi_wp2
    go_end0
    refine ⟨⟨_,rfl⟩, .inl ⟨_,d,?_,C.o⟩⟩;have:=t.o;simpa using this
  · intro f h v m N au R ac j a6;have av:d.length<l.length:=by have h1:=t.length_eq;simp only [cp,eQ] at h1;have:=dr N;omega
    have b3:m.heap.size=wr.heap.size:=j.size;have L:y (λk=>k=W.heap.size) d m:=s.o _ _ _ _ _ C.o ⟨j.os,j.tape,j.output,by omega,λk _ c _=>j.block k c,λk c=> .inl c,λk c=>by rw [c];omega⟩;have a1:=Z L;have a4:=Z R;have ay:=Z j;clear R L;simp only [ox] at a6 ⊢;obtain ⟨fn,b5,aC,aS,hy,G⟩:=HY.o (λk=>k=W.heap.size) d (f,h) (m.alloc (er #[cb U f,cb U h] 36)) (s.o _ _ _ _ _ a1.o (cV.alloc (λk c=>by rw [c];omega) _)) ⟨av,au⟩;have a5:=Z G;clear G;have b4:(Instr.yield ax #[Value.agg #[cb U f,cb U h]]).run prog (m.alloc (er #[cb U f,cb U h] 36))=_:=hy;gi_wp2
    refine a5.mono ?_;have a2:Hid (((d++[(f,h)])++(co left (f,h)).map (·.1)).Perm (l.map (·.1))):=by refine List.Perm.trans ?_ t.o;rw [em];exact (iV u.nodup N).append_left d
    rintro e w3 (⟨rfl,a7,b0,ao⟩|⟨rfl,a8⟩)
    · gi_wp2
      gi_roundg (left.length)
      case rel=> refine ⟨d++[(f,h)],co left (f,h),ac,?_,a7,a2⟩;exact (a4.kept ((dd m _).trans ao))
      case measure=>omega
    · gi_wp2
      refine e6 (e5 rfl _ _ _) rfl ?_;exact ⟨⟨_,rfl⟩, .inr ⟨_,d++[(f,h)],trivial,a8⟩⟩
theorem xr (n:Nat) (hn:1<=n) (q:Nat) (mv:Option Nat) (l:List (RK×cQ)) (r:cv) (A:r.cell? ⟨q,0,Y⟩=X (.map mv)) (M:cj recB r mv l) (al:∀b,mv=X b->b<r.heap.size):
 iI cP n prog 95 #[c4 (X ⟨q,0,Y⟩)] (λx:RK=> #[recK x]) (λxs=>xs.Perm (l.map (·.1))) (λ_=>True) (λd x=>d.length<l.length/\rkOk x) (λ_=>False) r:=by
 intro ax y Jx W z E H D;have c0:W.cell? ⟨q,0,Y⟩=X (.map mv):=(z.cell (p:=⟨q,0,Y⟩) (bm A)).trans A;have ad:cj recB W mv l:=M.block (λb hb=>z.block b (al b hb));have s:=Z E;have HY:=Z H;have V:=Z D;clear E H D z A M;refine dy func95 rfl trivial ?_ rfl;simp only [ntmps95,cq,cl,cy,dc,da,cg,ce,cs,cm,cu,cx];gi_wp2_with (refine eK _ rfl _ _ rfl 52 underlying93 mv l rfl ad ?_;intro w1 O i T)
 have I:y (λk=>k=W.heap.size) [] w1:=s.o _ _ _ _ _ V.o ⟨i.os,i.tape,i.output,i.size,λk c _ _=>i.block k c,λk c=> .inr (by rw [c];exact cd _),λk c=>by rw [c,T];omega⟩;have a3:=Z O;have a0:=Z I;have aT:W.heap.size<w1.heap.size:=by omega
 clear O I i T;gi_loopg [] (l.length+1) (λg wr=>∃d left,left.length<g/\Hid (dL recB wr mv W.heap.size l left)/\Hid (y (λk=>k=W.heap.size) d wr)/\Hid ((d++left.map (·.1)).Perm (l.map (·.1))))
 case atStart=>exact ⟨[],l,by omega,a3,a0,by unfold Hid;simp⟩
 case round=>
  obtain ⟨d,left,b1,u,C,t⟩:=hrel;have b2:W.heap.size<wr.heap.size:=u.lt;gi_wp2_with (refine fA _ rfl _ rfl mv W.heap.size l left rfl u.o ?_ ?_)
  · intro a9;subst a9;gi_wp2
    go_end0
    refine ⟨⟨_,rfl⟩, .inl ⟨_,d,?_,C.o⟩⟩;have:=t.o;simpa using this
  · intro f h v m N au R ac j a6;have av:d.length<l.length:=by have h1:=t.length_eq;simp only [cp,eQ] at h1;have:=dr N;omega
    have b3:m.heap.size=wr.heap.size:=j.size;have L:y (λk=>k=W.heap.size) d m:=s.o _ _ _ _ _ C.o ⟨j.os,j.tape,j.output,by omega,λk _ c _=>j.block k c,λk c=> .inl c,λk c=>by rw [c];omega⟩;have a1:=Z L;have a4:=Z R;have ay:=Z j;clear R L;simp only [ox] at a6 ⊢;obtain ⟨fn,b5,aC,aS,hy,G⟩:=HY.o (λk=>k=W.heap.size) d (f,h) (m.alloc (er #[cb U f,cb U h] 36)) (s.o _ _ _ _ _ a1.o (cV.alloc (λk c=>by rw [c];omega) _)) ⟨av,au⟩;have a5:=Z G;clear G;have b4:(Instr.yield ax #[Value.agg #[cb U f,cb U h]]).run prog (m.alloc (er #[cb U f,cb U h] 36))=_:=hy;gi_wp2
    refine a5.mono ?_;have a2:Hid (((d++[(f,h)])++(co left (f,h)).map (·.1)).Perm (l.map (·.1))):=by refine List.Perm.trans ?_ t.o;rw [em];exact (iV u.nodup N).append_left d
    rintro e w3 (⟨rfl,a7,b0,ao⟩|⟨rfl,a8⟩)
    · gi_wp2
      gi_roundg (left.length)
      case rel=> refine ⟨d++[(f,h)],co left (f,h),ac,?_,a7,a2⟩;exact (a4.kept ((dd m _).trans ao))
      case measure=>omega
    · gi_wp2
      refine e6 (e5 rfl _ _ _) rfl ?_;exact ⟨⟨_,rfl⟩, .inr ⟨_,d++[(f,h)],trivial,a8⟩⟩
theorem uZ (n:Nat) (hn:1<=n) (q:Nat) (mv:Option Nat) (l:List (RK×cQ)) (r:cv) (A:r.cell? ⟨q,0,Y⟩=X (.map mv)) (M:cj recB r mv l) (al:∀b,mv=X b->b<r.heap.size):
 iI cP n prog 108 #[c4 (X ⟨q,0,Y⟩)] (λx:RK=> #[recK x]) (λxs=>xs.Perm (l.map (·.1))) (λ_=>True) (λd x=>d.length<l.length/\rkOk x) (λ_=>False) r:=by
 intro ax y Jx W z E H D;have c0:W.cell? ⟨q,0,Y⟩=X (.map mv):=(z.cell (p:=⟨q,0,Y⟩) (bm A)).trans A;have ad:cj recB W mv l:=M.block (λb hb=>z.block b (al b hb));have s:=Z E;have HY:=Z H;have V:=Z D;clear E H D z A M;refine dy func108 rfl trivial ?_ rfl;simp only [ntmps108,cq,cl,cy,dc,da,cg,ce,cs,cm,cu,cx];gi_wp2_with (refine eK _ rfl _ _ rfl 64 underlying113 mv l rfl ad ?_;intro w1 O i T)
 have I:y (λk=>k=W.heap.size) [] w1:=s.o _ _ _ _ _ V.o ⟨i.os,i.tape,i.output,i.size,λk c _ _=>i.block k c,λk c=> .inr (by rw [c];exact cd _),λk c=>by rw [c,T];omega⟩;have a3:=Z O;have a0:=Z I;have aT:W.heap.size<w1.heap.size:=by omega
 clear O I i T;gi_loopg [] (l.length+1) (λg wr=>∃d left,left.length<g/\Hid (dL recB wr mv W.heap.size l left)/\Hid (y (λk=>k=W.heap.size) d wr)/\Hid ((d++left.map (·.1)).Perm (l.map (·.1))))
 case atStart=>exact ⟨[],l,by omega,a3,a0,by unfold Hid;simp⟩
 case round=>
  obtain ⟨d,left,b1,u,C,t⟩:=hrel;have b2:W.heap.size<wr.heap.size:=u.lt;gi_wp2_with (refine fA _ rfl _ rfl mv W.heap.size l left rfl u.o ?_ ?_)
  · intro a9;subst a9;gi_wp2
    go_end0
    refine ⟨⟨_,rfl⟩, .inl ⟨_,d,?_,C.o⟩⟩;have:=t.o;simpa using this
  · intro f h v m N au R ac j a6;have av:d.length<l.length:=by have h1:=t.length_eq;simp only [cp,eQ] at h1;have:=dr N;omega
    have b3:m.heap.size=wr.heap.size:=j.size;have L:y (λk=>k=W.heap.size) d m:=s.o _ _ _ _ _ C.o ⟨j.os,j.tape,j.output,by omega,λk _ c _=>j.block k c,λk c=> .inl c,λk c=>by rw [c];omega⟩;have a1:=Z L;have a4:=Z R;have ay:=Z j;clear R L;simp only [ox] at a6 ⊢;obtain ⟨fn,b5,aC,aS,hy,G⟩:=HY.o (λk=>k=W.heap.size) d (f,h) (m.alloc (er #[cb U f,cb U h] 36)) (s.o _ _ _ _ _ a1.o (cV.alloc (λk c=>by rw [c];omega) _)) ⟨av,au⟩;have a5:=Z G;clear G;have b4:(Instr.yield ax #[Value.agg #[cb U f,cb U h]]).run prog (m.alloc (er #[cb U f,cb U h] 36))=_:=hy;gi_wp2
    refine a5.mono ?_;have a2:Hid (((d++[(f,h)])++(co left (f,h)).map (·.1)).Perm (l.map (·.1))):=by refine List.Perm.trans ?_ t.o;rw [em];exact (iV u.nodup N).append_left d
    rintro e w3 (⟨rfl,a7,b0,ao⟩|⟨rfl,a8⟩)
    · gi_wp2
      gi_roundg (left.length)
      case rel=> refine ⟨d++[(f,h)],co left (f,h),ac,?_,a7,a2⟩;exact (a4.kept ((dd m _).trans ao))
      case measure=>omega
    · gi_wp2
      refine e6 (e5 rfl _ _ _) rfl ?_;exact ⟨⟨_,rfl⟩, .inr ⟨_,d++[(f,h)],trivial,a8⟩⟩
theorem uY (n:Nat) (hn:1<=n) (s:Nat) (mv:Option Nat) (l:List (PK×cQ)) (t:cv) (D:t.cell? ⟨s,0,Y⟩=X (.map mv)) (O:cj pairB t mv l) (ao:∀b,mv=X b->b<t.heap.size):
 iI cP n prog 121 #[c4 (X ⟨s,0,Y⟩)] (λx:PK=> #[pairV x]) (λxs=>xs.Perm (l.map (·.1))) (λ_=>True) (λd x=>d.length<l.length/\pkOk x) (λ_=>False) t:=by
 intro ay A Jx W C H L G;have c0:W.cell? ⟨s,0,Y⟩=X (.map mv):=(C.cell (p:=⟨s,0,Y⟩) (bm D)).trans D;have al:cj pairB W mv l:=O.block (λb hb=>C.block b (ao b hb));have u:=Z H;have HY:=Z L;have H0:=Z G;clear H L G C D O;refine dy func121 rfl trivial ?_ rfl;simp only [ntmps121,cq,cl,cy,dc,da,cg,ce,cs,cm,cu,cx];gi_wp2_with (refine eK _ rfl _ _ rfl 139 underlying115 mv l rfl al ?_;intro w1 T m a0)
 have M:A (λk=>k=W.heap.size) [] w1:=u.o _ _ _ _ _ H0.o ⟨m.os,m.tape,m.output,m.size,λk c _ _=>m.block k c,λk c=> .inr (by rw [c];exact cd _),λk c=>by rw [c,a0];omega⟩;have a4:=Z T;have a1:=Z M;have b0:W.heap.size<w1.heap.size:=by omega
 clear T M m a0;gi_loopg [] (l.length+1) (λg wr=>∃d left,left.length<g/\Hid (dL pairB wr mv W.heap.size l left)/\Hid (A (λk=>k=W.heap.size) d wr)/\Hid ((d++left.map (·.1)).Perm (l.map (·.1))))
 case atStart=>exact ⟨[],l,by omega,a4,a1,by unfold Hid;simp⟩
 case round=>
  obtain ⟨d,left,b2,z,E,y⟩:=hrel;have b3:W.heap.size<wr.heap.size:=z.lt;gi_wp2_with (refine fA _ rfl _ rfl mv W.heap.size l left rfl z.o ?_ ?_)
  · intro ac;subst ac;gi_wp2
    go_end0
    refine ⟨⟨_,rfl⟩, .inl ⟨_,d,?_,E.o⟩⟩;have:=y.o;simpa using this
  · intro f h i j v r R av V ad q a7;have ax:d.length<l.length:=by have h1:=y.length_eq;simp only [cp,eQ] at h1;have:=dr R;omega
    have b4:r.heap.size=wr.heap.size:=q.size;have N:A (λk=>k=W.heap.size) d r:=u.o _ _ _ _ _ E.o ⟨q.os,q.tape,q.output,by omega,λk _ c _=>q.block k c,λk c=> .inl c,λk c=>by rw [c];omega⟩;have a2:=Z N;have a5:=Z V;have aC:=Z q;clear V N;simp only [xd] at a7 ⊢;obtain ⟨fn,b6,aS,aT,hy,I⟩:=HY.o (λk=>k=W.heap.size) d ((f,h),(i,j)) (r.alloc (er #[cb U f,cb U h,cb U i,cb U j] 134)) (u.o _ _ _ _ _ a2.o (cV.alloc (λk c=>by rw [c];omega) _)) ⟨ax,av⟩;have a6:=Z I;clear I;have b5:(Instr.yield ay #[Value.agg #[cb U f,cb U h,cb U i,cb U j]]).run prog (r.alloc (er #[cb U f,cb U h,cb U i,cb U j] 134))=_:=hy;gi_wp2
    refine a6.mono ?_;have a3:Hid (((d++[((f,h),(i,j))])++(co left ((f,h),(i,j))).map (·.1)).Perm (l.map (·.1))):=by refine List.Perm.trans ?_ y.o;rw [em];exact (iV z.nodup R).append_left d
    rintro e w3 (⟨rfl,a8,b1,au⟩|⟨rfl,a9⟩)
    · gi_wp2
      gi_roundg (left.length)
      case rel=> refine ⟨d++[((f,h),(i,j))],co left ((f,h),(i,j)),ad,?_,a8,a3⟩;exact (a5.kept ((dd r _).trans au))
      case measure=>omega
    · gi_wp2
      refine e6 (e5 rfl _ _ _) rfl ?_;exact ⟨⟨_,rfl⟩, .inr ⟨_,d++[((f,h),(i,j))],trivial,a9⟩⟩
theorem zm (mv:Option Nat) (w:cv):fx prog 48 #[.map mv] w λe w'=>e=c6 (.func (.func 89) #[] #[c4 (X ⟨w.heap.size,0,Y⟩)])/\w'=w.alloc (c7 #[.map mv] 92):=by
 go_enter func48,ntmps48;go_wp2_with fail
 go_ret;exact ⟨rfl,rfl⟩
theorem zl (mv:Option Nat) (w:cv):fx prog 51 #[.map mv] w λe w'=>e=c6 (.func (.func 95) #[] #[c4 (X ⟨w.heap.size,0,Y⟩)])/\w'=w.alloc (c7 #[.map mv] 93):=by
 go_enter func51,ntmps51;go_wp2_with fail
 go_ret;exact ⟨rfl,rfl⟩
theorem zk (mv:Option Nat) (w:cv):fx prog 61 #[.map mv] w λe w'=>e=c6 (.func (.func 108) #[] #[c4 (X ⟨w.heap.size,0,Y⟩)])/\w'=w.alloc (c7 #[.map mv] 113):=by
 go_enter func61,ntmps61;go_wp2_with fail
 go_ret;exact ⟨rfl,rfl⟩
theorem zj (mv:Option Nat) (w:cv):fx prog 66 #[.map mv] w λe w'=>e=c6 (.func (.func 121) #[] #[c4 (X ⟨w.heap.size,0,Y⟩)])/\w'=w.alloc (c7 #[.map mv] 115):=by
 go_enter func66,ntmps66;go_wp2_with fail
 go_ret;exact ⟨rfl,rfl⟩
end
section
open Go.RowKit Go.Shelf
section
variable {F:Fence} {n:Nat} {P:Program}
theorem mQ {α:Type} {g:Operand} {ps:Array Tmp} {assign body:Code} {Q:Exit->Act->cv->Prop} {a:Act} {w:cv}
 (bB:F.round=Y) (h1:1<=n) {gf:Nat} {lb:Array cQ} (hg:a.eval g= .func (.func gf) #[] lb) (ay:F.fn gf) (eg:∀args w,(callFunc gf args).run P w= .ok (.enter gf args) w)
 {a1:α->Array cQ} {S Sp:List α->Prop} {G:List α->α->Prop} {M0:Nat->Prop} {w0:cv} (bO:iI F (n - 1) P gf lb a1 S Sp G M0 w0) (a5:∀k,M0 k->k<w.heap.size) (ao:Bw w0 w) (bA:∀x,(a1 x).size=ps.size)
 (I:(Nat->Prop)->List α->cv->Prop) (Ix:Code->(Nat->Prop)->List α->cv->Prop) (H:gK w.heap.size I) (a4:∀c,gK w.heap.size (Ix c)) (a7:∀M s C,I M s C->∀k,M k->k<C.heap.size) (a8:∀c M s C,Ix c M s C->∀k,M k->k<C.heap.size)
 (h0:I M0 [] w) (a₁:α->Nat->Act) (ob:α->Obj)
 (b6:∀(l:Nat) (x:α) (W:cv) (K:Act->cv->Prop),K (a₁ x W.heap.size) (W.alloc (ob x))->
  assign.wpIn (F.inRound l) (n - 1 - 1) P (Exit.then K (λ_ _ _=>False)) {tmps:=(ps.zip (a1 x)).foldl (λt (p,v)=>t.setIfInBounds p v) a.tmps,defers:=[]} W)
 (b8:∀(l:Nat) (M:Nat->Prop) (d:List α) (x:α) (W:cv) (N:Nat),I M d W->G d x->w.heap.size<=N->W.heap[N]? =X (ob x)->body.wpIn (F.inRound l) (n - 1 - 1) P (Ab M I Ix (d++[x]) W) (a₁ x N) W)
 (b9:∀(D:Nat) (M:Nat->Prop) (xs:List α) (W:cv),w.heap.size<=D->S xs->I M xs W->W.heap[D]? =X (.deferred (X []))->Q .normal {a with defers:={target:= .collected D,args:= #[]}::a.defers} W)
 (bY:∀(D:Nat) (c:Code) (M:Nat->Prop) (d:List α) (W:cv),w.heap.size<=D->Sp d->Ix c M d W->W.heap[D]? =X (.deferred (X []))->c.wpIn F n P Q {a with defers:={target:= .collected D,args:= #[]}::a.defers} W):
 (Code.rangeFunc g ps assign body).wpIn F n P Q a w:=by
 refine wpIn_rangeFunc ?_;intro fn bb;rw [bB];obtain ⟨rec,A⟩:∃rec:LoopState->Option Code->Loop,rec=λst pe=>{state:=st,pending:=pe,fn,tmps:=a.tmps,params:=ps,assign,body,defers:=w.heap.size}:=⟨_,rfl⟩;obtain ⟨r,a0⟩:=Qe ((w.alloc (.deferred (X []))).alloc (.loop (rec .ready Y)));have aT:r.heap[w.heap.size+1]? =X (.loop (rec .ready Y)):=by rw [<- a0];have:=dx (w.alloc (.deferred (X []))) (.loop (rec .ready Y));rwa [World.size_alloc] at this
 have aS:r.heap[w.heap.size]? =X (.deferred (X [])):=by rw [<- a0];exact (ex _ _ _ (by simp)).trans (dx w _)
 have aC:I M0 [] r:=by rw [<- a0];exact H _ _ _ _ _ (H _ _ _ _ _ h0 (cV.alloc a5 _)) (cV.alloc (λk b=>by have:=a5 k b;simp;omega) _)
 have c0:r.heap.size=w.heap.size+2:=by rw [<- a0];simp
 have b7:Bw w0 r:=by rw [<- a0];exact ao.trans ((((e0 _ w).alloc (cd _) _).alloc (by simp) _).mono ao.size)
 refine ⟨w.heap.size+1,[{target:= .collected w.heap.size,args:= #[]}],r,{target:= .fn (.func gf) lb,args:= #[.func (.yield (w.heap.size+1)) #[] #[]]},r,gf,
  #[.func (.yield (w.heap.size+1)) #[] #[]]++lb,r,?_,?_,?_,?_,λ_=>h1,?_⟩
 · rw [<- a0,A];exact run_enterLoop_outer _ _ _ _ _
 · simp only [resolve,hg];simp [go_sem]
 · intro f' au;simp [Target.leads] at au;subst au;exact ay
 · simp [invoke,go_sem,eg]
 · refine (bO (w.heap.size+1)
    (λM d W=>I M d W/\¬M (w.heap.size+1)/\¬M w.heap.size/\W.heap[w.heap.size+1]? =X (.loop (rec .ready Y))/\W.heap[w.heap.size]? =X (.deferred (X [])))
    (λM d W=>∃c,Ix c M d W/\W.heap[w.heap.size+1]? =X (.loop (rec .done (X c)))/\W.heap[w.heap.size]? =X (.deferred (X [])))
    r b7
    (λM s C M' ax hs y=>by
     obtain ⟨z,n1,n2,j,b⟩:=hs
     have bt:w.heap.size+1<C.heap.size:=(Array.getElem?_eq_some_iff.1 j).1
     have hT:cV w.heap.size M C M' ax:=⟨y.os,y.tape,y.output,y.size,λk b h2 h3=>y.block k b h2 λhB o O=>h3 (by omega) o O,y.new,y.lt⟩
     exact ⟨H _ _ _ _ _ z hT,λh=>by rcases y.new _ h with h|h;exact n1 h;omega,λh=>by rcases y.new _ h with h|h;exact n2 h;omega,
      (y.block _ bt n1 (λhB=>by omega)).trans j,(y.block _ (by omega) n2 (λhB=>by omega)).trans b⟩)
    ?_ ⟨aC,λh=>by have:=a5 _ h;omega,λh=>by have:=a5 _ h;omega,aT,aS⟩).mono ?_
   ·
    rintro M d x W ⟨z,n1,n2,j,b⟩ bw
    have ac:w.heap.size+1<W.heap.size:=(Array.getElem?_eq_some_iff.1 j).1
    have hy:=run_yield (P:=P) (args:=a1 x) j (by rw [A];exact bA x)
    rw [A] at hy
    refine ⟨fn,_,assign,body,hy,?_⟩
    obtain ⟨V,T⟩:=Qe (W.alloc (ob x))
    have ad:∀k,k<W.heap.size->V.heap[k]? =W.heap[k]? :=λk b=>by rw [<- T];exact ex W _ k b
    have b1:V.heap[W.heap.size]? =X (ob x):=by rw [<- T];exact dx W _
    have c1:V.heap.size=W.heap.size+1:=by rw [<- T];simp
    have a9:V.heap[w.heap.size+1]? =X (.loop (rec .ready Y)):=(ad _ ac).trans j
    have a6:V.heap[w.heap.size]? =X (.deferred (X [])):=(ad _ (by omega)).trans b
    have al:=a7 _ _ _ z
    have av:I M d V:=by rw [<- T];exact H _ _ _ _ _ z (cV.alloc al _)
    have b5:∀(W9:cv),mj M V W9/\fl V W9->mj M W W9/\fl W W9:=λW9 h=>⟨λk b=>(h.1 k b).trans (ad k (al k b)),(by rw [<- T] at h;exact (dd W _).trans h.2)⟩
    have b2:W.heap.size≠w.heap.size+1:=by omega
    have b3:w.heap.size<=W.heap.size:=by omega
    have ac:w.heap.size+1<V.heap.size:=by omega
    refine roundIn_of_wpIn bb (b6 _ x W _ ?_)
    rw [T]
    refine ⟨_,run_beginRound a9 (by rw [A]),?_⟩
    have bv:(V.putObj (w.heap.size+1) (.loop {rec .ready Y with state:= .busy})).heap[w.heap.size+1]? =X (.loop {rec .ready Y with state:= .busy}):=e7 ac
    have bk:(V.putObj (w.heap.size+1) (.loop {rec .ready Y with state:= .busy})).heap[w.heap.size]? =X (.deferred (X [])):=(cc (by omega)).trans a6
    have b0:=a7 _ _ _ av
    have bc:=H _ _ _ _ _ av (cV.put b0 (w.heap.size+1) (by omega) _ (.loop {rec .ready Y with state:= .busy}) a9 rfl)
    refine wpIn_mono (b8 _ M d x _ W.heap.size bc bw b3 ((cc b2).trans b1)) ?_
    have a2:∀(q:Option Code) (f:cv),fl (V.putObj (w.heap.size+1) (.loop {rec .ready Y with state:= .busy})) f->
     (Instr.endRound (w.heap.size+1) q).run P f= .ok (c5 q.isNone) (f.putObj (w.heap.size+1) (.loop (rec (if q.isNone then .ready else .done) q)))/\
     f.heap[w.heap.size+1]? =X (.loop {rec .ready Y with state:= .busy})/\
     (f.putObj (w.heap.size+1) (.loop (rec (if q.isNone then .ready else .done) q))).heap[w.heap.size+1]? =X (.loop (rec (if q.isNone then .ready else .done) q))/\
     (f.putObj (w.heap.size+1) (.loop (rec (if q.isNone then .ready else .done) q))).heap[w.heap.size]? =X (.deferred (X [])):=λq f i=>by
     have m:=i.same _ _ bv rfl
     have:=run_endRound (P:=P) q m
     rw [A] at this ⊢
     exact ⟨this,by rw [A] at m;exact m,e7 (Array.getElem?_eq_some_iff.1 m).1,(cc (by omega)).trans (i.same _ _ bk rfl)⟩
    rintro e a3 f hp
    cases e with
    |normal=>
     obtain ⟨i,bs,u⟩:=hp
     obtain ⟨R,m,E,L⟩:=a2 Y f i
     refine ⟨_,_,R, .inl ⟨rfl,⟨H _ _ _ _ _ u (cV.put (a7 _ _ _ u) _ (by omega) _ _ m rfl),n1,n2,E,L⟩,b5 _ ⟨λk a6=>?_,?_⟩⟩⟩
     · have e1:k≠w.heap.size+1:=λe=>n1 (e ▸ a6)
       exact ((cc (by omega)).trans (bs k a6)).trans (cc (by omega))
     · refine ⟨dz (dz (grownBy_putObj' V (w.heap.size+1) _).size i.size) (grownBy_putObj' f (w.heap.size+1) _).size,λk o O hc=>?_⟩
       by_cases e1:k=w.heap.size+1
       · subst e1
         rw [a9] at O
         injection O with O
         subst O
         exact E
       · exact (cc (by omega)).trans (i.same k o ((cc (by omega)).trans O) hc)
    |ret=>
     obtain ⟨i,u⟩:=hp
     obtain ⟨R,m,E,L⟩:=a2 (X .ret) f i
     exact ⟨_,_,R, .inr ⟨rfl, .ret,a4 _ _ _ _ _ _ u (cV.put (a8 _ _ _ _ u) _ (by omega) _ _ m rfl),E,L⟩⟩
    |exit id=>
     obtain ⟨i,u⟩:=hp
     obtain ⟨R,m,E,L⟩:=a2 (X (.exit id)) f i
     exact ⟨_,_,R, .inr ⟨rfl, .exit id,a4 _ _ _ _ _ _ u (cV.put (a8 _ _ _ _ u) _ (by omega) _ _ m rfl),E,L⟩⟩
    |goto t=>
     obtain ⟨i,u⟩:=hp
     obtain ⟨R,m,E,L⟩:=a2 (X (.goto t)) f i
     exact ⟨_,_,R, .inr ⟨rfl, .goto t,a4 _ _ _ _ _ _ u (cV.put (a8 _ _ _ _ u) _ (by omega) _ _ m rfl),E,L⟩⟩
    |panic ch=>exact hp.elim
    |outgrown=>exact hp.elim
   ·
    rintro e W2 ⟨⟨v,rfl⟩,(⟨M,xs,hS,z,n1,n2,j,b⟩|⟨M,d,b4,c,z,j,b⟩)⟩
    · exact ⟨Y,_,by have:=run_endLoop (P:=P) j (by rw [A];simp);rw [A] at this;exact this,b9 _ M xs _ (cd _) hS (H _ _ _ _ _ z (cV.put (a7 _ _ _ z) _ (by omega) _ _ j rfl)) ((cc (by omega)).trans b)⟩
    · exact ⟨X c,_,by have:=run_endLoop (P:=P) j (by rw [A];simp);rw [A] at this;exact this,bY _ c M d _ (cd _) b4 (a4 c _ _ _ _ _ z (cV.put (a8 _ _ _ _ z) _ (by omega) _ _ j rfl)) ((cc (by omega)).trans b)⟩
end
end
section
open Go.RowKit Go.Maps Go.Shelf
attribute [local go_sem] Oper.semAt_some
theorem BA:(prog.info? 134).map (λi=>(i.zero,i.size,i.bytes))=X (X (.agg #[J U 0,J U 0,J U 0,J U 0]),4,32):=by kernel_rfl
def pkCells (a:PK):List cQ:=[J U a.1.1,J U a.1.2,J U a.2.1,J U a.2.2]
structure zZ (w:cv) (Bo:Nat) (M:Nat->Prop) (pre:List RK) (W:cv):Prop where
 o:∃v,Boxed W Bo 52 v/\W.ownsRow w.heap.size 36 2 v pre.length (pre.flatMap rkCells)/\∀g,v.ownBlock=some g->¬M g
 b:Bw w W
 lt:∀k,M k->k<W.heap.size/\w.heap.size<=k
 box:¬M Bo
theorem zZ.stable (w:cv) (p B:Nat) (H:w.heap.size<=B):gK B (zZ w p):=by
 intro M s q E D h d;obtain ⟨v,m,u,C⟩:=h.o;have A:∀k,k<q.heap.size->¬M k->(∃x t,q.heap[k]? =X (c7 x t (0,0)))->D.heap[k]? =q.heap[k]? :=λk c y r=>by obtain ⟨x,t,r⟩:=r;exact d.block k c y λ_ o l=>by rw [r] at l;injection l with l;subst l;rfl
 refine ⟨⟨v,(A p (ae m) h.box ⟨_,_,m⟩).trans m,ah u (λg f=>?_),λg f i=>?_⟩,?_,λk j=>⟨d.lt k j,?_⟩,λi=>?_⟩
 · obtain ⟨G,z⟩:=aD u f;exact A g (ae z) (C g f) ⟨_,_,z⟩
 · have:=kZ u g f;rcases d.new g i with c|c
   · exact C g f c
   · omega
 · have e:=h.b;exact ⟨d.os.trans e.os,d.tape.trans e.tape,d.output.trans e.output,dz e.size d.size,λk j=>(d.block k (by have:=e.size;omega) (λi=>by have:=(h.lt k i).2;omega) (λy=>by omega)).trans (e.block k j)⟩
 · rcases d.new k j with c|c
   · exact (h.lt k c).2
   · have:=h.b.size;omega
 · rcases d.new p i with c|c
   · exact h.box c
   · have:=ae m;omega
theorem mL (n:Nat) (hn:3<=n) (g:Nat) (lb:Array cQ) (eg:∀args w,(callFunc g args).run prog w= .ok (.enter g args) w) (O Sp:List RK->Prop) (G:List RK->RK->Prop) (hG:∀f x,G f x->f.length<100000000) (w:cv)
 (ad:iI cP (n - 1) prog g lb (λx:RK=> #[recK x]) O Sp G (λ_=>False) w):
 CallsIn cP n prog 140 #[c9 Y 0 0, .func (.func g) #[] lb] w λe w'=>∃(v:cQ) (t:List RK),e=c6 v/\O t/\w'.ownsRow w.heap.size 36 2 v t.length (t.flatMap rkCells)/\Bw w w':=by
 have C:1<=n:=by omega
 refine callsIn_of_wp_marks func140 rfl trivial ?_ rfl;simp only [ntmps140,cq,cl,cy,dc,da,cg,ce,cs,cm,cu,cx];gi_wp2
 have bO:=Boxed.new w 52 (c9 Y 0 0);have E:Bw w (w.alloc (c7 #[c9 Y 0 0] 52)):=(e0 _ w).alloc (cd _) _
 refine mQ rfl C (gf:=g) (lb:=lb) rfl trivial eg ad (λk d=>d.elim) E (λ_=>rfl) (zZ w w.heap.size) (λ_ _ _ _=>False) (zZ.stable w _ _ E.size) (λ_ _ _ _ _ _ h _=>h) (λM s ax h k d=>(h.lt k d).1) (λ_ _ _ _ h=>h.elim)
  ⟨⟨_,bO,fs _ _ _ _,λg hg=>by cases hg⟩,E,λk d=>d.elim,λh=>h⟩
  (λx N=>{tmps:= #[c9 Y 0 0, .func (.func g) #[] lb,c4 (X ⟨w.heap.size,0,Y⟩),undef,c9 Y 0 0,c4 (X ⟨N,0,Y⟩), .func (.func g) #[] lb,recK x,undef,undef,undef,undef,undef],defers:=[]}) (λx=> .cells (rkCells x).toArray 36) ?assign ?body ?done ?stop
 case assign=>
  intro l x W K j;obtain ⟨z,A⟩:=x;unfold recK rkCells at *;dsimp only at *;gi_wp2
  exact j
 case body=>
  rintro l M f x W N h a0 ay H;have a0:=hG _ _ a0;obtain ⟨v,r,p,a2⟩:=h.o;have hc:=r.cell;obtain ⟨i0,hi,ao,au,av⟩:=info_parts i36;have i:=Z h.b;have u:=Z p;have HV:=Z r;have L:=Z a2;have I:=Z h;clear h p r a2;obtain ⟨z,A⟩:=x;unfold recK at *;unfold rkCells at H;dsimp only at H ⊢;have a6:Hid ((f++[(z,A)]).flatMap rkCells=f.flatMap rkCells++[J U z,J U A]):=by unfold Hid;simp [rkCells]
  obtain ⟨n0,n1⟩:=cZ H;generalize hxs:f.flatMap rkCells=xs0 at *;clear hxs;gi_wp2_with (gi_at_builtin;refine wpListIn_append_own_at _ rfl _ _ 52 rfl w.heap.size 36 i0 (.agg #[J U 0,J U 0]) 2 16 underlying52 hi ao au av rfl (by decide) _ _ _ rfl (u.o.alloc _) ⟨W.heap.size,0,Y⟩ 1 1 [J U z,J U A] rfl rfl (cell_two_new _ _ _ _) (by simp [Value.oneCell']) (by unfold maxLen;omega) (by omega) (by have:=i.o.size;simp;omega) ?_;intro v' w1 a3 V _ a1;obtain ⟨g',a7,rfl⟩:=ownsRow_succ a3;obtain ⟨a4,al,ac,a8,R⟩:=HV.o.appended (by decide) u.o i.o.size (cd _) a3 V;have aC:=a4.cell;have aS:=a4.frozen;have a5:=Z a1;clear a1)
  have aT:=i.size;have y:=I.lt;have T:=I.box;have a9:∀k,M k->(w1.setCell ⟨w.heap.size,0,Y⟩ (c9 (X ⟨g',0,Y⟩) (f.length+1) a7)).heap[k]? =W.heap[k]? :=λk d=>by have C:=(y k d).1;rw [fr _ _ _ _ (λ(e:k=w.heap.size)=>T (e ▸ d)),V.block k (by simp;omega) (λe=>L.o k e.symm d),ex _ _ _ C]
  refine ⟨a8,a9,⟨⟨_,al,?_,λq m hm=>?_⟩,i.trans R,λk d=>⟨?_,(y k d).2⟩,T⟩⟩
  · rw [cp,a6.o];exact ac
  · rcases a5.o with e|e
    · exact L q (e ▸ m) hm
    · rw [e] at m;injection m with m
      have:=(y q hm).1;simp at m;omega
  · exact Nat.lt_of_lt_of_le (y k d).1 R.size
 case done=>
  rintro D M t W hD hS h j;obtain ⟨v,r,p,_⟩:=h.o;have hc:=r.cell;have u:=Z p;have i:=Z h.b;clear h p;gi_wp2
  refine ⟨by simp, .inl ⟨_,_,rfl,run_takeDeferred j,?_⟩⟩;exact ⟨_,results_tmp rfl _ _ _,v,t,rfl,hS,ownsRow_putObj u.o _ j rfl,i.o.trans (belowK_b (w:=w) (cd _) W D _ _ (by simp at hD;omega) j rfl rfl)⟩
 case stop=> rintro D c M f W _ _ h _;exact h.elim
theorem sX (n:Nat) (q:4<=n) (g:Nat) (lb:Array cQ) (h:∀args w,(callFunc g args).run prog w= .ok (.enter g args) w) (c d:List RK->Prop) (G:List RK->RK->Prop) (i:∀f x,G f x->f.length<100000000) (w:cv)
 (m:iI cP (n - 1 - 1) prog g lb (λx:RK=> #[recK x]) c d G (λ_=>False) w):
 fx prog 88 #[.func (.func g) #[] lb] w λe w'=>∃(v:cQ) (b:List RK),e=c6 v/\c b/\w'.ownsRow w.heap.size 36 2 v b.length (b.flatMap rkCells)/\Bw w w':=by
 have p:1<=n:=by omega
 refine (callsIn_wide (n:=n)).1 ?_;refine dy func88 rfl trivial ?_ rfl;simp only [ntmps88,cq,cl,cy,dc,da,cg,ce,cs,cm,cu,cx];gi_wp2_with (refine ⟨trivial,?_⟩;gi_at_call 140;refine (mL (n - 1) (by omega) g lb h c d G i _ m).mono ?_;rintro e w' ⟨v,b,rfl,j,l,k⟩)
 go_ret;exact ⟨v,b,rfl,j,l,k⟩
structure z7 (w:cv) (Bo:Nat) (M:Nat->Prop) (pre:List PK) (W:cv):Prop where
 o:∃v,Boxed W Bo 131 v/\W.ownsRow w.heap.size 134 4 v pre.length (pre.flatMap pkCells)/\∀g,v.ownBlock=some g->¬M g
 b:Bw w W
 lt:∀k,M k->k<W.heap.size/\w.heap.size<=k
 box:¬M Bo
theorem z7.stable (w:cv) (p B:Nat) (H:w.heap.size<=B):gK B (z7 w p):=by
 intro M s q E D h d;obtain ⟨v,m,u,C⟩:=h.o;have A:∀k,k<q.heap.size->¬M k->(∃x t,q.heap[k]? =X (c7 x t (0,0)))->D.heap[k]? =q.heap[k]? :=λk c y r=>by obtain ⟨x,t,r⟩:=r;exact d.block k c y λ_ o l=>by rw [r] at l;injection l with l;subst l;rfl
 refine ⟨⟨v,(A p (ae m) h.box ⟨_,_,m⟩).trans m,ah u (λg f=>?_),λg f i=>?_⟩,?_,λk j=>⟨d.lt k j,?_⟩,λi=>?_⟩
 · obtain ⟨G,z⟩:=aD u f;exact A g (ae z) (C g f) ⟨_,_,z⟩
 · have:=kZ u g f;rcases d.new g i with c|c
   · exact C g f c
   · omega
 · have e:=h.b;exact ⟨d.os.trans e.os,d.tape.trans e.tape,d.output.trans e.output,dz e.size d.size,λk j=>(d.block k (by have:=e.size;omega) (λi=>by have:=(h.lt k i).2;omega) (λy=>by omega)).trans (e.block k j)⟩
 · rcases d.new k j with c|c
   · exact (h.lt k c).2
   · have:=h.b.size;omega
 · rcases d.new p i with c|c
   · exact h.box c
   · have:=ae m;omega
theorem mK (n:Nat) (hn:3<=n) (g:Nat) (lb:Array cQ) (eg:∀args w,(callFunc g args).run prog w= .ok (.enter g args) w) (T Sp:List PK->Prop) (G:List PK->PK->Prop) (hG:∀f x,G f x->f.length<100000000) (w:cv)
 (ao:iI cP (n - 1) prog g lb (λx:PK=> #[pairV x]) T Sp G (λ_=>False) w):
 CallsIn cP n prog 163 #[c9 Y 0 0, .func (.func g) #[] lb] w λe w'=>∃(v:cQ) (t:List PK),e=c6 v/\T t/\w'.ownsRow w.heap.size 134 4 v t.length (t.flatMap pkCells)/\Bw w w':=by
 have H:1<=n:=by omega
 refine callsIn_of_wp_marks func163 rfl trivial ?_ rfl;simp only [ntmps163,cq,cl,cy,dc,da,cg,ce,cs,cm,cu,cx];gi_wp2
 have bO:=Boxed.new w 131 (c9 Y 0 0);have I:Bw w (w.alloc (c7 #[c9 Y 0 0] 131)):=(e0 _ w).alloc (cd _) _
 refine mQ rfl H (gf:=g) (lb:=lb) rfl trivial eg ao (λk d=>d.elim) I (λ_=>rfl) (z7 w w.heap.size) (λ_ _ _ _=>False) (z7.stable w _ _ I.size) (λ_ _ _ _ _ _ h _=>h) (λM s aC h k d=>(h.lt k d).1) (λ_ _ _ _ h=>h.elim)
  ⟨⟨_,bO,fs _ _ _ _,λg hg=>by cases hg⟩,I,λk d=>d.elim,λh=>h⟩
  (λx N=>{tmps:= #[c9 Y 0 0, .func (.func g) #[] lb,c4 (X ⟨w.heap.size,0,Y⟩),undef,c9 Y 0 0,c4 (X ⟨N,0,Y⟩), .func (.func g) #[] lb,pairV x,undef,undef,undef,undef,undef],defers:=[]}) (λx=> .cells (pkCells x).toArray 134) ?assign ?body ?done ?stop
 case assign=>
  intro l x W K j;obtain ⟨⟨z,A⟩,C,E⟩:=x;unfold pairV pkCells at *;dsimp only at *;gi_wp2
  exact j
 case body=>
  rintro l M f x W N h a2 aS L;have a2:=hG _ _ a2;obtain ⟨v,r,p,a4⟩:=h.o;have hc:=r.cell;obtain ⟨i0,hi,av,ax,ay⟩:=info_parts BA;have i:=Z h.b;have u:=Z p;have HV:=Z r;have R:=Z a4;have O:=Z h;clear h p r a4;obtain ⟨⟨z,A⟩,C,E⟩:=x;unfold pairV at *;unfold pkCells at L;dsimp only at L ⊢;have a8:Hid ((f++[((z,A),C,E)]).flatMap pkCells=f.flatMap pkCells++[J U z,J U A,J U C,J U E]):=by unfold Hid;simp [pkCells]
  obtain ⟨n0,n1,n2,n3⟩:=mI L;generalize hxs:f.flatMap pkCells=xs0 at *;clear hxs;gi_wp2_with (gi_at_builtin;refine wpListIn_append_own_at _ rfl _ _ 131 rfl w.heap.size 134 i0 (.agg #[J U 0,J U 0,J U 0,J U 0]) 4 32 underlying131 hi av ax ay rfl (by decide) _ _ _ rfl (u.o.alloc _) ⟨W.heap.size,0,Y⟩ 1 1 [J U z,J U A,J U C,J U E] rfl rfl (mH _ _ _ _ _ _) (by simp [Value.oneCell']) (by unfold maxLen;omega) (by omega) (by have:=i.o.size;simp;omega) ?_;intro v' w1 a5 a1 _ a3;obtain ⟨g',a9,rfl⟩:=ownsRow_succ a5;obtain ⟨a6,au,al,ac,V⟩:=HV.o.appended (by decide) u.o i.o.size (cd _) a5 a1;have aT:=a6.cell;have b0:=a6.frozen;have a7:=Z a3;clear a3)
  have b1:=i.size;have y:=O.lt;have a0:=O.box;have ad:∀k,M k->(w1.setCell ⟨w.heap.size,0,Y⟩ (c9 (X ⟨g',0,Y⟩) (f.length+1) a9)).heap[k]? =W.heap[k]? :=λk d=>by have H:=(y k d).1;rw [fr _ _ _ _ (λ(e:k=w.heap.size)=>a0 (e ▸ d)),a1.block k (by simp;omega) (λe=>R.o k e.symm d),ex _ _ _ H]
  refine ⟨ac,ad,⟨⟨_,au,?_,λq m hm=>?_⟩,i.trans V,λk d=>⟨?_,(y k d).2⟩,a0⟩⟩
  · rw [cp,a8.o];exact al
  · rcases a7.o with e|e
    · exact R q (e ▸ m) hm
    · rw [e] at m;injection m with m
      have:=(y q hm).1;simp at m;omega
  · exact Nat.lt_of_lt_of_le (y k d).1 V.size
 case done=>
  rintro D M t W hD hS h j;obtain ⟨v,r,p,_⟩:=h.o;have hc:=r.cell;have u:=Z p;have i:=Z h.b;clear h p;gi_wp2
  refine ⟨by simp, .inl ⟨_,_,rfl,run_takeDeferred j,?_⟩⟩;exact ⟨_,results_tmp rfl _ _ _,v,t,rfl,hS,ownsRow_putObj u.o _ j rfl,i.o.trans (belowK_b (w:=w) (cd _) W D _ _ (by simp at hD;omega) j rfl rfl)⟩
 case stop=> rintro D c M f W _ _ h _;exact h.elim
theorem ri (n:Nat) (q:4<=n) (g:Nat) (lb:Array cQ) (h:∀args w,(callFunc g args).run prog w= .ok (.enter g args) w) (c d:List PK->Prop) (G:List PK->PK->Prop) (i:∀f x,G f x->f.length<100000000) (w:cv)
 (m:iI cP (n - 1 - 1) prog g lb (λx:PK=> #[pairV x]) c d G (λ_=>False) w):
 fx prog 119 #[.func (.func g) #[] lb] w λe w'=>∃(v:cQ) (b:List PK),e=c6 v/\c b/\w'.ownsRow w.heap.size 134 4 v b.length (b.flatMap pkCells)/\Bw w w':=by
 have p:1<=n:=by omega
 refine (callsIn_wide (n:=n)).1 ?_;refine dy func119 rfl trivial ?_ rfl;simp only [ntmps119,cq,cl,cy,dc,da,cg,ce,cs,cm,cu,cx];gi_wp2_with (refine ⟨trivial,?_⟩;gi_at_call 163;refine (mK (n - 1) (by omega) g lb h c d G i _ m).mono ?_;rintro e w' ⟨v,b,rfl,j,l,k⟩)
 go_ret;exact ⟨v,b,rfl,j,l,k⟩
end
section
open Go.RowKit Go.Maps Go.Shelf Go.Lib Go.Sort
section
variable {α:Type} [Inhabited α]
theorem lG (enc:α->List cQ) (k:Nat) (m:0<k) (d:∀x,(enc x).length=k) (b:List α):flatK enc k b.toArray=(b.flatMap enc).toArray:=by
 have p:(b.flatMap enc).length=b.length * k:=by
  induction b with
  |nil=>simp
  |cons a l ih=>rw [List.flatMap_cons,cp,d,ih,cl,Nat.add_mul];omega
 apply Array.ext
 · simp [p]
 · intro t f v;have q:t<b.toArray.size * k:=by simpa using f
   have r:t<b.length * k:=by simpa using q
   have g:=get_flatK enc k b.toArray t q;rw [getElem!_pos (flatK enc k b.toArray) t f] at g;rw [g];have h:t / k<b.length:=(Nat.div_lt_iff_lt_mul m).2 r;have i:t%k<k:=Nat.mod_lt _ m;have e:=cC enc k d b (t / k) h (t%k) i;rw [Nat.div_add_mod' t k] at e;have s:b.toArray[t / k]! =b[t / k]:=by rw [getElem!_pos b.toArray (t / k) (by simpa using h)];simp
   rw [s];have j:t%k<(enc b[t / k]).length:=by rw [d];exact i
   rw [getElem!_pos (enc b[t / k]) (t%k) j];have c:(b.flatMap enc)[t]? =X ((enc b[t / k])[t%k]):=by rw [e];exact ej j
   have u:t<(b.flatMap enc).length:=by rw [p];exact r
   rw [ej u] at c;injection c with c
   simpa using c.symm
theorem cT {lo e k g c n:Nat}:∀(b:List cQ) (s:Nat) (w:cv) (xs:List cQ),w.ownsRow lo e k (c9 (X ⟨g,0,Y⟩) n c) n xs->s+b.length<=xs.length->
 (w.setCells g s b).ownsRow lo e k (c9 (X ⟨g,0,Y⟩) n c) n (xs.take s++b++xs.drop (s+b.length))/\ar g w (w.setCells g s b)
 |[],s,w,xs,h,hs=>⟨by simpa [World.setCells] using h,ar.refl _ _⟩
 |v::b,s,w,xs,h,hs=>by
  have m:s+1+b.length<=xs.length:=by simp at hs;omega
  have j:=(h.stored s v).1
  obtain ⟨d,l⟩:=cT b (s+1) _ _ j (by simpa using m)
  refine ⟨?_,((ar.refl g w).setCell s v).trans l⟩
  have f:(xs.set s v).take (s+1)=xs.take s++[v]:=by
   rw [dk (by simp;omega)]
   simp [List.take_set_of_le]
  have i:(xs.set s v).drop (s+1+b.length)=xs.drop (s+(b.length+1)):=by
   rw [List.drop_set_of_lt (by omega)]
   congr 1
   omega
  rw [f,i] at d
  simpa [World.setCells] using d
theorem gR {lo e k g d:Nat} (enc:α->List cQ) (l:0<k) (i:∀x,(enc x).length=k) {w:cv} {b:List α} (h:w.ownsRow lo e k (c9 (X ⟨g,0,Y⟩) b.length d) b.length (b.flatMap enc)):HoldsK enc k w g 0 b.toArray:=by
 intro j c;rw [lG enc k l i] at c ⊢;have f:j<(b.flatMap enc).length:=by simpa using c
 rw [Nat.zero_add];refine ⟨?_,h.frozenAt j⟩;rw [h.cellAt j (by have:=h.1;omega),getElem!_pos _ j c];rw [ej f];simp
theorem iG {lo e k g j:Nat} (enc:α->List cQ) (t:0<k) (m:∀x,(enc x).length=k) {w:cv} {b ys:List α} (p:ys.length=b.length) (h:w.ownsRow lo e k (c9 (X ⟨g,0,Y⟩) b.length j) b.length (b.flatMap enc)) (n:Nat) (c:Array Obj):
 (sortWorldK enc k w g 0 n ys.toArray c).ownsRow lo e k (c9 (X ⟨g,0,Y⟩) b.length j) b.length (ys.flatMap enc)/\(sortWorldK enc k w g 0 n ys.toArray c).os=w.os/\(sortWorldK enc k w g 0 n ys.toArray c).tape=w.tape/\(sortWorldK enc k w g 0 n ys.toArray c).output=w.output/\
  w.heap.size<=(sortWorldK enc k w g 0 n ys.toArray c).heap.size/\∀q,q<w.heap.size->q≠g->(sortWorldK enc k w g 0 n ys.toArray c).heap[q]? =w.heap[q]? :=by
 have A:=gR enc t m h;have i:∀zs:List α,(zs.flatMap enc).length=zs.length * k:=λzs=>by
  induction zs with
  |nil=>simp
  |cons a l ih=>rw [List.flatMap_cons,cp,m,ih,cl,Nat.add_mul];omega
 have v:sortWorldK enc k w g 0 n ys.toArray c=Sort.grow ((w.drewN n).setCells g 0 (ys.flatMap enc)) c:=by unfold sortWorldK putRowK;rw [lG enc k t m];have:=Lib.putRow_eq_setCells id w g 0 (flatK enc k b.toArray) (ys.flatMap enc) n A (by rw [i,p,size_flatK];simp);rw [this];simp
 have y:(w.drewN n).ownsRow lo e k (c9 (X ⟨g,0,Y⟩) b.length j) b.length (b.flatMap enc):=h;obtain ⟨r,f⟩:=cT (ys.flatMap enc) 0 (w.drewN n) (b.flatMap enc) y (by rw [i,i,p];omega);have z:(ys.flatMap enc).length=(b.flatMap enc).length:=by rw [i,i,p]
 rw [List.take_zero,cu,Nat.zero_add,z,List.drop_length,List.append_nil] at r;rw [v];have u:((w.drewN n).setCells g 0 (ys.flatMap enc)).heap.size=w.heap.size:=f.size;have s:∀q,q<w.heap.size->(Sort.grow ((w.drewN n).setCells g 0 (ys.flatMap enc)) c).heap[q]? =((w.drewN n).setCells g 0 (ys.flatMap enc)).heap[q]? :=λq d=>by show (((w.drewN n).setCells g 0 (ys.flatMap enc)).heap++c)[q]? =_;rw [Array.getElem?_append_left (by rw [u];exact d)]
 have C:=(h.lt g (by simp [ds])).2;refine ⟨ah r (λq d=>?_),f.os,f.tape,f.output,by rw [Sort.size_grow,u];omega,λq d D=>(s q d).trans (f.block q D)⟩;simp [ds] at d;subst d;exact s _ C
end
theorem nS {K:Type} {lt:K->K->Bool} (T:Tot lt):Sort.SWO lt:=by
 refine ⟨T.irr,T.tr,λx y z d b=>?_⟩;cases h3:lt x z
 · rfl
 · exfalso;by_cases e:y=x
   · subst e;rw [h3] at b;cases b
   · rcases T.tot y x e with c|c
     · have:=T.tr _ _ _ c h3;rw [this] at b;cases b
     · rw [c] at d;cases d
def cO {K:Type} (lt:K->K->Bool) (b:List K):List K:=b.mergeSort λx y=> !(lt y x)
theorem cX {K:Type} (lt:K->K->Bool) (b:List K):(cO lt b).Perm b:=List.mergeSort_perm _ _
theorem fB {K:Type} {lt:K->K->Bool} (T:Tot lt) (d:List K):(cO lt d).Pairwise λa b=>(!(lt b a))=true:=by
 refine List.pairwise_mergeSort (le:=λx y=> !(lt y x)) (λa b c e f=>?_) (λa b=>?_) d
 · simp only [cz] at *;exact (nS T).ntrans _ _ _ f e
 · simp only [Bool.or_eq_true,cz];cases h:lt b a
   · exact .inl rfl
   · exact .inr (T.asym h)
theorem ca {K:Type} {lt:K->K->Bool} (T:Tot lt) {c ys:List K} (g:c.Perm ys) (i:ys.Pairwise λa b=>lt a b=true):cO lt c=ys:=by
 refine ((cX lt c).trans g).eq_of_pairwise (λa b _ _ d f=>?_) (fB T c) (i.imp λ{a b} h=>by simp [T.asym h]);simp only [cz] at d f;by_cases e:a=b
 · exact e
 · rcases T.tot a b e with h|h
   · rw [f] at h;cases h
   · rw [d] at h;cases h
theorem pU {K:Type} {lt:K->K->Bool} (T:Tot lt) {c ys:List K} (g:c.Perm ys):cO lt c=cO lt ys:=by
 refine ((cX lt c).trans (g.trans (cX lt ys).symm)).eq_of_pairwise (λa b _ _ d f=>?_) (fB T c) (fB T ys);simp only [cz] at d f;by_cases e:a=b
 · exact e
 · rcases T.tot a b e with h|h
   · rw [f] at h;cases h
   · rw [d] at h;cases h
theorem gS:ltOf bp=ltRK:=by
 funext a b
 unfold ltOf;rw [Bool.eq_iff_iff,decide_eq_true_eq];exact eC a b
theorem oI:ltOf nv=ltPK:=by
 funext a b
 unfold ltOf;rw [Bool.eq_iff_iff,decide_eq_true_eq];exact vI a b
theorem pQ (lo:Nat) (w:cv) (v:cQ) (b:List RK) (h:w.ownsRow lo 36 2 v b.length (b.flatMap rkCells)) (M:b.length<=1000000):
 fx prog 80 #[v, .func (.func 49) #[] #[]] w λe w'=>e=c6 (.tuple #[])/\w'.ownsRow lo 36 2 v b.length ((cO ltRK b).flatMap rkCells)/\w'.os=w.os/\w'.tape=w.tape/\w'.output=w.output/\w.heap.size<=w'.heap.size/\∀q,q<w.heap.size->v.ownBlock≠X q->w'.heap[q]? =w.heap[q]? :=by
 rcases h.2 with ⟨rfl,z⟩|⟨g,u,H,rfl,_⟩
 · have G:b=[]:=e3 z;subst G;refine (AnyF.slices_SortFunc_none tJ Y 0 (.func (.func 49) #[] #[]) w).mono ?_;rintro e w' ⟨rfl,rfl⟩;exact ⟨rfl,by simpa [cO] using h,rfl,rfl,rfl,cd _,λ_ _ _=>rfl⟩
 · have C:=(h.lt g (by simp [ds])).2;have A:=gR rkCells (by decide) (λ_=>rfl) h;have:=AnyQ.slices_SortFunc_total tJ 2 Tryz.isAgg36 sizeOf36 rkCells (λ_=>rfl) (λx v i=>by
    simp only [rkCells,List.mem_cons,List.not_mem_nil,or_false] at i;rcases i with rfl|rfl<;>rfl) bp (by rw [gS];exact nS aK) 49 #[] g 0 u b.toArray w (enters_of func49 (by kernel_rfl) rfl)
    (λm j I L x y=>(eJ x y _).mono λe w' f=>⟨f.1,f.2⟩) A C (by simp;omega) (λx y c d=>by
     rw [gS] at c d;by_cases e:x=y
     · exact e
     · rcases aK.tot x y e with h|h
       · rw [c] at h;cases h
       · rw [d] at h;cases h)
   refine (this).mono ?_;rintro e w' ⟨rfl,n,j,rfl⟩;rw [gS];obtain ⟨k,l,p,r,s,t⟩:=iG (ys:=cO ltRK b) rkCells (by decide) (λ_=>rfl) (cX ltRK b).length_eq h n j;exact ⟨rfl,k,l,p,r,s,λq E D=>t q E (λe=>D (by rw [e];simp [ds]))⟩
theorem js (n:Nat) (N:4<=n) (g:Nat) (lb:Array cQ) (H:∀args w,(callFunc g args).run prog w= .ok (.enter g args) w) (c:List RK) (M:c.length<=1000000) (E:List RK->Prop) (G:List RK->RK->Prop) (I:∀u x,G u x->u.length<100000000) (w:cv)
 (t:iI cP (n - 1 - 1) prog g lb (λx:RK=> #[recK x]) (λh=>h.Perm c) E G (λ_=>False) w):
 fx prog 47 #[.func (.func g) #[] lb, .func (.func 49) #[] #[]] w λe w'=>∃v,e=c6 v/\w'.ownsRow w.heap.size 36 2 v c.length ((cO ltRK c).flatMap rkCells)/\Bw w w':=by
 have z:=Z (sX n N g lb H _ _ _ I _ t);clear t;go_enter func47,ntmps47;go_wp2_with (go_at_call 88;((with_reducible refine Calls.mono z.o ?_);rintro e w1 ⟨v,h,rfl,f,d,s⟩;have D:=Z (pQ w.heap.size w1 v h d (by rw [f.length_eq];exact M));have i:=Z f;have b:=Z s;have C:=Z d;clear f d s))
 go_at_call 80;refine D.mono ?_;rintro e O ⟨rfl,j,l,m,p,q,r⟩;have A:=Z j;have y:Hid (Bw w O):=⟨l.trans b.o.os,m.trans b.o.tape,p.trans b.o.output,dz b.o.size q,λk L=>(r k (by have:=b.o.size;omega) (λe=>by have:=(C.o.lt k e).1;omega)).trans (b.o.block k L)⟩;clear j l m p q r;go_wp2;go_ret;refine ⟨v,rfl,?_,y.o⟩;have:=A.o;rw [i.o.length_eq,pU aK i.o] at this;exact this
theorem uA (lo:Nat) (w:cv) (v:cQ) (b:List PK) (h:w.ownsRow lo 134 4 v b.length (b.flatMap pkCells)) (M:b.length<=1000000):
 fx prog 120 #[v, .func (.func 67) #[] #[]] w λe w'=>e=c6 (.tuple #[])/\w'.ownsRow lo 134 4 v b.length ((cO ltPK b).flatMap pkCells)/\w'.os=w.os/\w'.tape=w.tape/\w'.output=w.output/\w.heap.size<=w'.heap.size/\∀q,q<w.heap.size->v.ownBlock≠X q->w'.heap[q]? =w.heap[q]? :=by
 rcases h.2 with ⟨rfl,z⟩|⟨g,u,H,rfl,_⟩
 · have G:b=[]:=e3 z;subst G;refine (AnyF.slices_SortFunc_none pT Y 0 (.func (.func 67) #[] #[]) w).mono ?_;rintro e w' ⟨rfl,rfl⟩;exact ⟨rfl,by simpa [cO] using h,rfl,rfl,rfl,cd _,λ_ _ _=>rfl⟩
 · have C:=(h.lt g (by simp [ds])).2;have A:=gR pkCells (by decide) (λ_=>rfl) h;have:=AnyQ.slices_SortFunc_total pT 4 Tryz.isAgg134 sizeOf134 pkCells (λ_=>rfl) (λx v i=>by
    simp only [pkCells,List.mem_cons,List.not_mem_nil,or_false] at i;rcases i with rfl|rfl|rfl|rfl<;>rfl) nv (by rw [oI];exact nS dt) 67 #[] g 0 u b.toArray w (enters_of func67 (by kernel_rfl) rfl)
    (λm j I L x y=>(kj x y _).mono λe w' f=>⟨f.1,f.2⟩) A C (by simp;omega) (λx y c d=>by
     rw [oI] at c d;by_cases e:x=y
     · exact e
     · rcases dt.tot x y e with h|h
       · rw [c] at h;cases h
       · rw [d] at h;cases h)
   refine (this).mono ?_;rintro e w' ⟨rfl,n,j,rfl⟩;rw [oI];obtain ⟨k,l,p,r,s,t⟩:=iG (ys:=cO ltPK b) pkCells (by decide) (λ_=>rfl) (cX ltPK b).length_eq h n j;exact ⟨rfl,k,l,p,r,s,λq E D=>t q E (λe=>D (by rw [e];simp [ds]))⟩
theorem uB (n:Nat) (N:4<=n) (g:Nat) (lb:Array cQ) (H:∀args w,(callFunc g args).run prog w= .ok (.enter g args) w) (c:List PK) (M:c.length<=1000000) (E:List PK->Prop) (G:List PK->PK->Prop) (I:∀u x,G u x->u.length<100000000) (w:cv)
 (t:iI cP (n - 1 - 1) prog g lb (λx:PK=> #[pairV x]) (λh=>h.Perm c) E G (λ_=>False) w):
 fx prog 65 #[.func (.func g) #[] lb, .func (.func 67) #[] #[]] w λe w'=>∃v,e=c6 v/\w'.ownsRow w.heap.size 134 4 v c.length ((cO ltPK c).flatMap pkCells)/\Bw w w':=by
 have z:=Z (ri n N g lb H _ _ _ I _ t);clear t;go_enter func65,ntmps65;go_wp2_with (go_at_call 119;((with_reducible refine Calls.mono z.o ?_);rintro e w1 ⟨v,h,rfl,f,d,s⟩;have D:=Z (uA w.heap.size w1 v h d (by rw [f.length_eq];exact M));have i:=Z f;have b:=Z s;have C:=Z d;clear f d s))
 go_at_call 120;refine D.mono ?_;rintro e O ⟨rfl,j,l,m,p,q,r⟩;have A:=Z j;have y:Hid (Bw w O):=⟨l.trans b.o.os,m.trans b.o.tape,p.trans b.o.output,dz b.o.size q,λk L=>(r k (by have:=b.o.size;omega) (λe=>by have:=(C.o.lt k e).1;omega)).trans (b.o.block k L)⟩;clear j l m p q r;go_wp2;go_ret;refine ⟨v,rfl,?_,y.o⟩;have:=A.o;rw [i.o.length_eq,pU dt i.o] at this;exact this
end
section
open Go.RowKit Go.Maps Go.Shelf
def fY (lo b:Nat) (w:cv) (v:cQ) (l:List PK):Prop:=aF lo b w v l.length (l.flatMap pkCells)
theorem fY.kept {lo b:Nat} {w w':cv} {v:cQ} {l:List PK} (h:fY lo b w v l) (k:fS lo b w w'):fY lo b w' v l:=aF.kept h k
theorem fY.one {lo g:Nat} {w:cv} {v:cQ} {l:List PK} (h:fY lo g w v l) (i:Nat) (d:i<l.length):
 ∃b c f,v=c9 (X ⟨b,c,Y⟩) l.length f/\lo<=b/\b<g/\w.cell? ⟨b,c+i * 4,Y⟩=X (J U l[i].1.1)/\w.cell? ⟨b,c+i * 4+1,Y⟩=X (J U l[i].1.2)/\
  w.cell? ⟨b,c+i * 4+2,Y⟩=X (J U l[i].2.1)/\w.cell? ⟨b,c+i * 4+3,Y⟩=X (J U l[i].2.2):=by
 obtain ⟨a,f,x,h⟩:=h;have u:l.flatMap pkCells≠[]:=by
  cases l with
  |nil=>simp at d
  |cons s l=>simp [pkCells]
 obtain ⟨b,c,t,q,r,e⟩:=h u;subst t;have j:=cC pkCells 4 (λ_=>rfl) l i d 0 (by omega);have k:=cC pkCells 4 (λ_=>rfl) l i d 1 (by omega);have m:=cC pkCells 4 (λ_=>rfl) l i d 2 (by omega);have p:=cC pkCells 4 (λ_=>rfl) l i d 3 (by omega);exact ⟨b,c,f,x,q,r,e _ _ j,by rw [e9];exact e _ _ k,by rw [e9];exact e _ _ m,by rw [e9];exact e _ _ p⟩
theorem mA (u v:cQ) (l m:List PK) (w:cv) (t:fY 0 w.heap.size w u l) (x:fY 0 w.heap.size w v m) (hl:l.length<=1000000) (hm:m.length<=1000000):
 fx prog 14 #[u,v] w λe w'=>e=c6 (c5 (decide (l=m)))/\Bw w w':=by
 have M:=Z t;have N:=Z x;obtain ⟨a,c,rfl,_⟩:=t;obtain ⟨a',c',rfl,_⟩:=x;by_cases hlm:l.length=m.length
 · have a0:((l.length:Int)!=(m.length:Int))=false:=by simp;omega
   have a9:m.length<=l.length:=by omega
   have a8:l.length<=m.length:=by omega
   have a1:=Z hlm;clear hlm;go_enter func14,ntmps14;go_wp2_with fail
   go_loopw [5] (λi wr=>∃k:Nat,k<=l.length/\i=J U k/\Hid (l.take k=m.take k)/\Bw w wr) (λi _=>l.length - (intOf i).toNat)
   case atStart=>exact ⟨0,Nat.zero_le _,rfl,rfl,e0 _ _⟩
   case round=>
    obtain ⟨k,hk,rfl,j,d⟩:=hrel;by_cases hlt:k<l.length
    · have s:k<m.length:=by omega
      obtain ⟨b,ac,a2,g,_,a4,O,c1,c2,R⟩:=(fY.kept M.o (aY d (cd _))).one k hlt;cases g;obtain ⟨b',ad,a3,g,_,a5,T,V,W,d3⟩:=(fY.kept N.o (aY d (cd _))).one k s;cases g;have a7:(k:Int)<(m.length:Int):=by omega
      have r:Hid (l.take (k+1)=l.take k++[l[k]]/\m.take (k+1)=m.take k++[m[k]]):=⟨dk hlt,dk s⟩;have L:Hid (l=m->l[k]=m[k]):=λh=>by subst h;rfl
      generalize l[k]=p at *;generalize m[k]=q at *;obtain ⟨⟨y,z⟩,A,C⟩:=p;obtain ⟨⟨D,E⟩,G,H⟩:=q;dsimp only at O c1 c2 R T V W d3;have a6:b<wr.heap.size:=by have:=d.size;omega
      by_cases hpq:((y,z),A,C)=((D,E),G,H)
      · cases hpq;go_wp2_with fail
        go_region;go_wp2_with fail
        go_roundw
        case rel=>exact ⟨k+1,by omega,by go_num,by unfold Hid;rw [r.o.1,r.o.2,j.o],d.drew⟩
        case measure=>simp [intOf];omega
      · have f:Hid (l≠m):=λh=>hpq (L h);by_cases h1:y=D
        · subst h1;by_cases h2:z=E
          · subst h2;by_cases h3:A=G
            · subst h3;have h4:¬C=H:=λh=>hpq (by rw [h]);clear hpq;go_wp2_with fail
              go_region;go_wp2_with fail
              go_ret;exact ⟨ap (by symm;exact decide_eq_false f.o),d.drew⟩
            · clear hpq;go_wp2_with fail
              go_region;go_wp2_with fail
              go_ret;exact ⟨ap (by symm;exact decide_eq_false f.o),d.drew⟩
          · clear hpq;go_wp2_with fail
            go_region;go_wp2_with fail
            go_ret;exact ⟨ap (by symm;exact decide_eq_false f.o),d.drew⟩
        · clear hpq;go_wp2_with fail
          go_region;go_wp2_with fail
          go_ret;exact ⟨ap (by symm;exact decide_eq_false f.o),d.drew⟩
    · have I:Hid (l=m):=by have:=j.o;rw [fc (by omega),fc (by omega)] at this;exact this
      go_wp2_with fail
      go_ret;exact ⟨ap (by symm;exact decide_eq_true I.o),d⟩
 · have a0:((l.length:Int)!=(m.length:Int))=true:=by simp;omega
   go_enter func14,ntmps14;go_wp2_with fail
   go_ret;exact ⟨ap (by symm;exact decide_eq_false (λh=>hlm (by rw [h]))),e0 _ _⟩
end
end Go.Proofs.YtjcimanddakkaaaGreatDoor
