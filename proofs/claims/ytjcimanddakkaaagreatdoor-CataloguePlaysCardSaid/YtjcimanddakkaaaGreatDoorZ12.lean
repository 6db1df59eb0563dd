/- Lemmas. -/
import Derived.Test.YtjcimanddakkaaaGreatDoorZ11
set_option maxRecDepth 100000
set_option maxHeartbeats 8000000
namespace Go.Proofs.YtjcimanddakkaaaGreatDoor
open _root_.Option renaming none→Y,some→X
open Go.Value renaming map→c3,pointer→c4,bool→c5,int→J,slice→c9
open Go.IntKind renaming i64→U,u8→ca
open Go.Lib renaming hid→Z
open Go.Ending renaming returned→c6
open Go.Obj renaming cells→c7
open Tryz
open _root_.List renaming length_append→cb,length_cons→cg,append_toArray→cu,size_toArray→cx,push_toArray→cy,nil_append→cz,length_nil→cP,cons_append→cQ,append_assoc→dc,not_mem_nil→er,getElem?_eq_getElem→e3,mem_cons→e6,take_of_length_le→e8,length_pos_of_mem→e9,eq_nil_of_length_eq_zero→fl,mem_cons_self→fp,flatMap_cons→ft,getElem_mem→fy,length_map→fz,flatMap_append→gi,map_cons→gq,take_succ_eq_append_getElem→gx,take_append_drop→g9,mem_of_mem_take→ha,mem_cons_of_mem→hd
open _root_.Nat renaming le_refl→cc,reduceSub→dk,reduceAdd→dr,le_trans→em,lt_of_lt_of_le→gt,zero_le→g0
open Go.World renaming putObj_heap_other→cd,alloc_heap_new→dd,putObj_heap_same→e7,ownsRow_nil→gs,size_alloc→gO
open Go.Value renaming int→cl,ownBlock→fc,oneCell'→gb
open _root_.Array renaming replicate_zero→cm,replicate_succ→cq,getElem?_eq_none→g6
open Go renaming World→cv,Value→dx,callsIn_of_wp→eQ,results_none→gn,bodyPost_ret→gp,Calls→gy,callsIn_of_wp_marks→gz,KeepsOthers→gP,ownsRow_succ→g2,run_takeDeferred→g5,grownBy_putObj'→g7,Operand→he
open Go.Calls renaming mono→da
open Go.RowKit.Below renaming heap_setCell→dy,heap_alloc→ex,refl→fs
open Go.Fence renaming wide→dz
open _root_.Bool renaming not_eq_true'→ej
open Go.KeepsOthers renaming alloc→e4
open Go.Obj renaming cells→fx
open _root_.UInt8 renaming ofNat→gd
open Go.Result renaming andThen→gQ
open _root_.Int renaming tmod_eq_emod_of_nonneg→g4
open Go.WideAt renaming sameKey_self→g8
section
open Go.RowKit Go.Maps Go.Shelf Go.WideShapes
attribute [local go_sem] Oper.semAt_some
set_option linter.unusedSectionVars false
section
variable {P:Program} {kt:TypeId} {K:Type} [DecidableEq K] {B:et P kt K} {F:Fence} {nF:Nat}
variable (w:cv) {ops:Array Oper} {rest:List Oper} {o:Oper} {a:Act} {Q:Exit->Act->cv->Prop}
theorem qp (A:o.guard=Y) (m:he) (t:TypeId) (E:o.op=Op.range t m) (e:TypeId) (H:P.underlying t=X (.map kt e))
 (b:Nat) (l:List (K×dx)) (D:a.eval m=c3 (X b)) (h:am B w b l)
 (y:∀w',cn B w' b w.heap.size l l->Bw w w'->w'.heap.size=w.heap.size+1->wpListIn F nF P ops Q rest (a.put o.dst (c4 (X ⟨w.heap.size,0,Y⟩))) w'):wpListIn F nF P ops Q (o::rest) a w:=by
 have j:=h.nodup;obtain ⟨u,g,f,i⟩:=h;refine wpListIn_range_own w A m t E kt e B.keyed H heldR b _ _ D g λw' v c x=>y w' ⟨u,_,_,v,f,i,List.Sublist.refl _,λp d=>?_,λz r=>?_⟩ ⟨c.os,c.tape,c.output,c.size,λk C=>c.block k C (by simp)⟩ x
 · refine ⟨λ_=>d,λ_=>?_⟩;exact Maps.has_true_of_atKey λz=>am.at_some g f j (i p d) ((bz j).2 d) z
 · rw [Maps.has_eq,List.any_eq_true] at r;obtain ⟨q,G,e⟩:=r;obtain ⟨p,d,s⟩:=List.mem_map.1 (f.mem_iff.1 G);exact ⟨p,d,by rw [<- WideAt.sameKey_eq e, <- s]⟩
theorem sN (hg:o.guard=Y) (M:he) (ac:o.op=Op.next M false) (b r:Nat) (l left:List (K×dx)) (a8:a.eval M=c4 (X ⟨r,0,Y⟩)) (h:cn B w b r l left)
 (a4:left=[]->wpListIn F nF P ops Q rest (a.put o.dst (.tuple #[c5 false])) w)
 (a5:∀(p:K×dx) (w':cv),p∈left->B.ok p.1->cn B w' b r l (ct left p.1)->(ct left p.1).length<left.length->aq r w w'->
  (Instr.entry (c4 (X ⟨r,0,Y⟩))).run P w'= .ok (.tuple #[B.kv p.1,p.2]) w'->wpListIn F nF P ops Q rest (a.put o.dst (.tuple #[c5 true,B.kv p.1,p.2])) w'):
 wpListIn F nF P ops Q (o::rest) a w:=by
 have g:=h.map.nodup;obtain ⟨es,f,a0,N,O,G,u,R,T⟩:=h;refine wpListIn_next_ranges w hg M ac kt B.keyed heldR (λv:dx=>v) (λv:dx=>v) (λkey kl _=>⟨key,rfl⟩) (λv y _=>⟨v,rfl⟩) b r _ _ f a0 a8 N (λh0 hl=>a4 ?_) λx c kl y w' a3 I a9 W a6 ad au A al a7=>?_
 · rcases left with _|⟨p,left⟩
   · rfl
   · have:=(R p (u.subset fp)).2 fp;rw [hl] at this;cases this
 · obtain ⟨p,i,e⟩:=T kl a9;have L:=u.subset i;have C:=G p L;have ao:x=B.kv p.1:=B.keyed.inj I (by rw [<- e];exact B.key _ C);have hc:p.2=c:=by have H:=a6 (.held undef);rw [<- e,am.at_some N.owns O g C ((bz g (k:=p.1) (v:=p.2)).2 L)] at H;simp only [heldR,Option.some.injEq] at W;rw [<- W] at H;injection H
   have V:(left.map (·.1)).Nodup:=g.sublist (u.map _);subst ao;subst hc;refine a5 p w' i C ⟨es,_,a3,ad,O,G,(List.filter_sublist).trans u,λq j=>?_,λz D=>?_⟩ (yK i) ⟨A.os,A.tape,A.output,al,λk hk=>?_⟩ a7
   · rw [im V i, <- R q j];simp only [Bool.and_eq_true,ej];constructor
     · rintro ⟨E,t⟩;refine ⟨E,λd=>?_⟩;rw [d,e,g8 (B.keyed.key I)] at t;cases t
     · rintro ⟨E,t⟩;refine ⟨E,Maps.sameKey_ne λd=>t ?_⟩;rw [<- e] at d;have s:=B.lit_inj (G q j) C d;have m:=(bz g (k:=q.1) (v:=q.2)).2 j;have a2:=(bz g (k:=p.1) (v:=p.2)).2 L;rw [s,a2] at m;injection m with m
       exact Prod.ext s m.symm
   · simp only [Bool.and_eq_true,ej] at D;obtain ⟨q,j,d⟩:=T z D.1;refine ⟨q,(im V i).2 ⟨j,λs=>?_⟩,d⟩;rw [<- d,s,e,g8 (B.keyed.key I)] at D;cases D.2
   · by_cases hk2:k<w.heap.size
     · exact A.block k hk2 (by simpa using hk)
     · rw [g6 (by omega),g6 (by omega)]
theorem o7 (a b:Int):recB.kv (a,b)= .agg #[J U a,J U b]:=rfl
theorem x8 (a b c d:Int):pairB.kv ((a,b),(c,d))= .agg #[J U a,J U b,J U c,J U d]:=rfl
def dT (B:et P kt K) (w:cv) (mv:Option Nat) (r:Nat) (l left:List (K×dx)):Prop:=match mv with
 |none=>l=[]/\left=[]/\w.heap[r]? =X (.mapIter Y 0 #[] 0)
 |some b=>cn B w b r l left
theorem dT.lt {w:cv} {mv:Option Nat} {r:Nat} {l left:List (K×dx)} (h:dT B w mv r l left):r<w.heap.size:=by
 cases mv with
 |none=>exact ae h.2.2
 |some b=>exact cn.lt h
theorem dT.kept {w w':cv} {mv:Option Nat} {r:Nat} {l left:List (K×dx)} (h:dT B w mv r l left) (c:gP w w'):dT B w' mv r l left:=by
 cases mv with
 |none=>exact ⟨h.1,h.2.1,c.same r _ h.2.2 rfl⟩
 |some b=> have h:cn B w b r l left:=h;obtain ⟨i,f,e,⟨g,c1,u,v,d,j,k,m,p,q,s⟩,t⟩:=h;exact ⟨i,f,e,⟨g,c1,u,v,d,c.same b _ j rfl,k,m,p,c.same r _ q rfl,s⟩,t⟩
theorem dT.nodup {w:cv} {mv:Option Nat} {r:Nat} {l left:List (K×dx)} (h:dT B w mv r l left):(left.map (·.1)).Nodup:=by
 cases mv with
 |none=> obtain ⟨_,c,_⟩:=h;subst c;exact List.nodup_nil
 |some b=> have h:cn B w b r l left:=h;have e:=h.map.nodup;obtain ⟨i,f,g,j,c,k,d,_⟩:=h;exact e.sublist (d.map _)
theorem jk {l:List (K×dx)} (b:(l.map (·.1)).Nodup) {k:K} {v:dx} (c:(k,v)∈l):([k]++(ct l k).map (·.1)).Perm (l.map (·.1)):=by
 induction l with
 |nil=>cases c
 |cons p l ih=>
  rw [gq,List.nodup_cons] at b;unfold ct at ih ⊢;rw [List.filter_cons];by_cases e:p.1=k
  · rw [if_neg (by simp [e])];have:l.filter (λq=> !decide (q.1=k))=l:=by rw [List.filter_eq_self];intro q g;simp only [ej,decide_eq_false_iff_not];intro d;exact b.1 (by rw [e, <- d];exact List.mem_map.2 ⟨q,g,rfl⟩)
    rw [this,gq,e];exact .refl _
  · rw [if_pos (by simp [e]),gq,gq];have f:(k,v)∈l:=by
     rcases List.mem_cons.1 c with h|h
     · exact absurd (by rw [<- h]) e
     · exact h
    exact (List.Perm.swap _ _ _).trans ((ih b.2 f).cons _)
theorem eW (g:o.guard=Y) (m:he) (t:TypeId) (d:o.op=Op.range t m) (e:TypeId) (j:P.underlying t=X (.map kt e))
 (mv:Option Nat) (l:List (K×dx)) (i:a.eval m= .map mv) (h:bW B w mv l)
 (f:∀w',dT B w' mv w.heap.size l l->Bw w w'->w'.heap.size=w.heap.size+1->wpListIn F nF P ops Q rest (a.put o.dst (c4 (X ⟨w.heap.size,0,Y⟩))) w'):wpListIn F nF P ops Q (o::rest) a w:=by
 cases mv with
 |some b=>exact qp w g m t d e j b l i h f
 |none=> have h:l=[]:=h;subst h;refine wpListIn_plain g λr k=>?_;unfold Oper.wpIn;refine ⟨by simp [Oper.about,d],?_⟩;rw [Oper.semAt_plain F _ _ (by rw [d];intro c q;cases q)];have p:Bw w (w.alloc (.mapIter Y 0 #[] 0)):=(fs _ w).alloc (cc _) _;have:=f (w.alloc (.mapIter Y 0 #[] 0)) ⟨rfl,rfl,dd w _⟩ p (by simp);simp [execOp,d,i,Instr.range,run_underlying j,gQ];exact k _ _ this
theorem fL (g:o.guard=Y) (e:he) (d:o.op=Op.next e false) (mv:Option Nat) (r:Nat) (l left:List (K×dx)) (i:a.eval e=c4 (X ⟨r,0,Y⟩)) (h:dT B w mv r l left)
 (f:left=[]->wpListIn F nF P ops Q rest (a.put o.dst (.tuple #[c5 false])) w)
 (k:∀(p:K×dx) (w':cv),p∈left->B.ok p.1->dT B w' mv r l (ct left p.1)->(ct left p.1).length<left.length->aq r w w'->
  (Instr.entry (c4 (X ⟨r,0,Y⟩))).run P w'= .ok (.tuple #[B.kv p.1,p.2]) w'->wpListIn F nF P ops Q rest (a.put o.dst (.tuple #[c5 true,B.kv p.1,p.2])) w'):
 wpListIn F nF P ops Q (o::rest) a w:=by
 cases mv with
 |some b=>exact sN w g e d b r l left i h f k
 |none=>
  obtain ⟨_,s,t⟩:=h;refine wpListIn_plain g λv j=>?_;unfold Oper.wpIn;refine ⟨by simp [Oper.about,d],?_⟩;rw [Oper.semAt_plain F _ _ (by rw [d];intro c m;cases m)];have u:(Instr.next (c4 (X ⟨r,0,Y⟩)) false o.type).run P w= .ok (.tuple #[c5 false]) w:=by
   have q:(getObj r).run P w= .ok (.mapIter Y 0 #[] 0) w:=by simp [getObj,Sem.run,t]
   simp [Instr.next,q,gQ]
  simp [execOp,d,i,u,gQ];exact j _ _ (f s)
end
theorem yl (n:Nat) (hn:1<=n) (q:Nat) (mv:Option Nat) (l:List (RK×dx)) (r:cv) (A:r.cell? ⟨q,0,Y⟩=X (.map mv)) (M:bW recB r mv l) (al:∀b,mv=X b->b<r.heap.size):
 jc dz n prog 95 #[c4 (X ⟨q,0,Y⟩)] (λx:RK=> #[recK x]) (λxs=>xs.Perm (l.map (·.1))) (λ_=>True) (λd x=>d.length<l.length/\rkOk x) (λ_=>False) r:=by
 intro ax y Jx W z E H D;have c0:W.cell? ⟨q,0,Y⟩=X (.map mv):=(z.cell (p:=⟨q,0,Y⟩) (bh A)).trans A;have ad:bW recB W mv l:=M.block (λb hb=>z.block b (al b hb));have s:=Z E;have HY:=Z H;have V:=Z D;clear E H D z A M;refine eQ func95 rfl trivial ?_ rfl;simp only [ntmps95,cx,cg,cP,dr,dk,cq,cm,cy,cu,cz,cQ];gi_wp2_with (refine eW _ rfl _ _ rfl 52 underlying93 mv l rfl ad ?_;intro w1 O i T)
 have I:y (λk=>k=W.heap.size) [] w1:=s.o _ _ _ _ _ V.o ⟨i.os,i.tape,i.output,i.size,λk c _ _=>i.block k c,λk c=> .inr (by rw [c];exact cc _),λk c=>by rw [c,T];omega⟩;have a3:=Z O;have a0:=Z I;have aT:W.heap.size<w1.heap.size:=by omega
 clear O I i T;gi_loopg [] (l.length+1) (λg wr=>∃d left,left.length<g/\Hid (dT recB wr mv W.heap.size l left)/\Hid (y (λk=>k=W.heap.size) d wr)/\Hid ((d++left.map (·.1)).Perm (l.map (·.1))))
 case atStart=>exact ⟨[],l,by omega,a3,a0,by unfold Hid;simp⟩
 case round=>
  obtain ⟨d,left,b1,u,C,t⟩:=hrel;have b2:W.heap.size<wr.heap.size:=u.lt;gi_wp2_with (refine fL _ rfl _ rfl mv W.heap.size l left rfl u.o ?_ ?_)
  · intro a9;subst a9;gi_wp2
    go_end0
    refine ⟨⟨_,rfl⟩, .inl ⟨_,d,?_,C.o⟩⟩;have:=t.o;simpa using this
  · intro f h v m N au R ac j a6;have av:d.length<l.length:=by have h1:=t.length_eq;simp only [cb,fz] at h1;have:=e9 N;omega
    have b3:m.heap.size=wr.heap.size:=j.size;have L:y (λk=>k=W.heap.size) d m:=s.o _ _ _ _ _ C.o ⟨j.os,j.tape,j.output,by omega,λk _ c _=>j.block k c,λk c=> .inl c,λk c=>by rw [c];omega⟩;have a1:=Z L;have a4:=Z R;have ay:=Z j;clear R L;simp only [o7] at a6 ⊢;obtain ⟨fn,b5,aC,aS,hy,G⟩:=HY.o (λk=>k=W.heap.size) d (f,h) (m.alloc (fx #[cl U f,cl U h] 36)) (s.o _ _ _ _ _ a1.o (cO.alloc (λk c=>by rw [c];omega) _)) ⟨av,au⟩;have a5:=Z G;clear G;have b4:(Instr.yield ax #[Value.agg #[cl U f,cl U h]]).run prog (m.alloc (fx #[cl U f,cl U h] 36))=_:=hy;gi_wp2
    refine a5.mono ?_;have a2:Hid (((d++[(f,h)])++(ct left (f,h)).map (·.1)).Perm (l.map (·.1))):=by refine List.Perm.trans ?_ t.o;rw [dc];exact (jk u.nodup N).append_left d
    rintro e w3 (⟨rfl,a7,b0,ao⟩|⟨rfl,a8⟩)
    · gi_wp2
      gi_roundg (left.length)
      case rel=> refine ⟨d++[(f,h)],ct left (f,h),ac,?_,a7,a2⟩;exact (a4.kept ((e4 m _).trans ao))
      case measure=>omega
    · gi_wp2
      refine gp (gn rfl _ _ _) rfl ?_;exact ⟨⟨_,rfl⟩, .inr ⟨_,d++[(f,h)],trivial,a8⟩⟩
theorem nM (n:Nat) (hn:1<=n) (q:Nat) (mv:Option Nat) (l:List (RK×dx)) (r:cv) (A:r.cell? ⟨q,0,Y⟩=X (.map mv)) (M:bW recB r mv l) (al:∀b,mv=X b->b<r.heap.size):
 jc dz n prog 108 #[c4 (X ⟨q,0,Y⟩)] (λx:RK=> #[recK x]) (λxs=>xs.Perm (l.map (·.1))) (λ_=>True) (λd x=>d.length<l.length/\rkOk x) (λ_=>False) r:=by
 intro ax y Jx W z E H D;have c0:W.cell? ⟨q,0,Y⟩=X (.map mv):=(z.cell (p:=⟨q,0,Y⟩) (bh A)).trans A;have ad:bW recB W mv l:=M.block (λb hb=>z.block b (al b hb));have s:=Z E;have HY:=Z H;have V:=Z D;clear E H D z A M;refine eQ func108 rfl trivial ?_ rfl;simp only [ntmps108,cx,cg,cP,dr,dk,cq,cm,cy,cu,cz,cQ];gi_wp2_with (refine eW _ rfl _ _ rfl 64 underlying113 mv l rfl ad ?_;intro w1 O i T)
 have I:y (λk=>k=W.heap.size) [] w1:=s.o _ _ _ _ _ V.o ⟨i.os,i.tape,i.output,i.size,λk c _ _=>i.block k c,λk c=> .inr (by rw [c];exact cc _),λk c=>by rw [c,T];omega⟩;have a3:=Z O;have a0:=Z I;have aT:W.heap.size<w1.heap.size:=by omega
 clear O I i T;gi_loopg [] (l.length+1) (λg wr=>∃d left,left.length<g/\Hid (dT recB wr mv W.heap.size l left)/\Hid (y (λk=>k=W.heap.size) d wr)/\Hid ((d++left.map (·.1)).Perm (l.map (·.1))))
 case atStart=>exact ⟨[],l,by omega,a3,a0,by unfold Hid;simp⟩
 case round=>
  obtain ⟨d,left,b1,u,C,t⟩:=hrel;have b2:W.heap.size<wr.heap.size:=u.lt;gi_wp2_with (refine fL _ rfl _ rfl mv W.heap.size l left rfl u.o ?_ ?_)
  · intro a9;subst a9;gi_wp2
    go_end0
    refine ⟨⟨_,rfl⟩, .inl ⟨_,d,?_,C.o⟩⟩;have:=t.o;simpa using this
  · intro f h v m N au R ac j a6;have av:d.length<l.length:=by have h1:=t.length_eq;simp only [cb,fz] at h1;have:=e9 N;omega
    have b3:m.heap.size=wr.heap.size:=j.size;have L:y (λk=>k=W.heap.size) d m:=s.o _ _ _ _ _ C.o ⟨j.os,j.tape,j.output,by omega,λk _ c _=>j.block k c,λk c=> .inl c,λk c=>by rw [c];omega⟩;have a1:=Z L;have a4:=Z R;have ay:=Z j;clear R L;simp only [o7] at a6 ⊢;obtain ⟨fn,b5,aC,aS,hy,G⟩:=HY.o (λk=>k=W.heap.size) d (f,h) (m.alloc (fx #[cl U f,cl U h] 36)) (s.o _ _ _ _ _ a1.o (cO.alloc (λk c=>by rw [c];omega) _)) ⟨av,au⟩;have a5:=Z G;clear G;have b4:(Instr.yield ax #[Value.agg #[cl U f,cl U h]]).run prog (m.alloc (fx #[cl U f,cl U h] 36))=_:=hy;gi_wp2
    refine a5.mono ?_;have a2:Hid (((d++[(f,h)])++(ct left (f,h)).map (·.1)).Perm (l.map (·.1))):=by refine List.Perm.trans ?_ t.o;rw [dc];exact (jk u.nodup N).append_left d
    rintro e w3 (⟨rfl,a7,b0,ao⟩|⟨rfl,a8⟩)
    · gi_wp2
      gi_roundg (left.length)
      case rel=> refine ⟨d++[(f,h)],ct left (f,h),ac,?_,a7,a2⟩;exact (a4.kept ((e4 m _).trans ao))
      case measure=>omega
    · gi_wp2
      refine gp (gn rfl _ _ _) rfl ?_;exact ⟨⟨_,rfl⟩, .inr ⟨_,d++[(f,h)],trivial,a8⟩⟩
theorem v6 (n:Nat) (hn:1<=n) (q:Nat) (mv:Option Nat) (l:List (RK×dx)) (r:cv) (A:r.cell? ⟨q,0,Y⟩=X (.map mv)) (M:bW recB r mv l) (al:∀b,mv=X b->b<r.heap.size):
 jc dz n prog 118 #[c4 (X ⟨q,0,Y⟩)] (λx:RK=> #[recK x]) (λxs=>xs.Perm (l.map (·.1))) (λ_=>True) (λd x=>d.length<l.length/\rkOk x) (λ_=>False) r:=by
 intro ax y Jx W z E H D;have c0:W.cell? ⟨q,0,Y⟩=X (.map mv):=(z.cell (p:=⟨q,0,Y⟩) (bh A)).trans A;have ad:bW recB W mv l:=M.block (λb hb=>z.block b (al b hb));have s:=Z E;have HY:=Z H;have V:=Z D;clear E H D z A M;refine eQ func118 rfl trivial ?_ rfl;simp only [ntmps118,cx,cg,cP,dr,dk,cq,cm,cy,cu,cz,cQ];gi_wp2_with (refine eW _ rfl _ _ rfl 3 underlying114 mv l rfl ad ?_;intro w1 O i T)
 have I:y (λk=>k=W.heap.size) [] w1:=s.o _ _ _ _ _ V.o ⟨i.os,i.tape,i.output,i.size,λk c _ _=>i.block k c,λk c=> .inr (by rw [c];exact cc _),λk c=>by rw [c,T];omega⟩;have a3:=Z O;have a0:=Z I;have aT:W.heap.size<w1.heap.size:=by omega
 clear O I i T;gi_loopg [] (l.length+1) (λg wr=>∃d left,left.length<g/\Hid (dT recB wr mv W.heap.size l left)/\Hid (y (λk=>k=W.heap.size) d wr)/\Hid ((d++left.map (·.1)).Perm (l.map (·.1))))
 case atStart=>exact ⟨[],l,by omega,a3,a0,by unfold Hid;simp⟩
 case round=>
  obtain ⟨d,left,b1,u,C,t⟩:=hrel;have b2:W.heap.size<wr.heap.size:=u.lt;gi_wp2_with (refine fL _ rfl _ rfl mv W.heap.size l left rfl u.o ?_ ?_)
  · intro a9;subst a9;gi_wp2
    go_end0
    refine ⟨⟨_,rfl⟩, .inl ⟨_,d,?_,C.o⟩⟩;have:=t.o;simpa using this
  · intro f h v m N au R ac j a6;have av:d.length<l.length:=by have h1:=t.length_eq;simp only [cb,fz] at h1;have:=e9 N;omega
    have b3:m.heap.size=wr.heap.size:=j.size;have L:y (λk=>k=W.heap.size) d m:=s.o _ _ _ _ _ C.o ⟨j.os,j.tape,j.output,by omega,λk _ c _=>j.block k c,λk c=> .inl c,λk c=>by rw [c];omega⟩;have a1:=Z L;have a4:=Z R;have ay:=Z j;clear R L;simp only [o7] at a6 ⊢;obtain ⟨fn,b5,aC,aS,hy,G⟩:=HY.o (λk=>k=W.heap.size) d (f,h) (m.alloc (fx #[cl U f,cl U h] 36)) (s.o _ _ _ _ _ a1.o (cO.alloc (λk c=>by rw [c];omega) _)) ⟨av,au⟩;have a5:=Z G;clear G;have b4:(Instr.yield ax #[Value.agg #[cl U f,cl U h]]).run prog (m.alloc (fx #[cl U f,cl U h] 36))=_:=hy;gi_wp2
    refine a5.mono ?_;have a2:Hid (((d++[(f,h)])++(ct left (f,h)).map (·.1)).Perm (l.map (·.1))):=by refine List.Perm.trans ?_ t.o;rw [dc];exact (jk u.nodup N).append_left d
    rintro e w3 (⟨rfl,a7,b0,ao⟩|⟨rfl,a8⟩)
    · gi_wp2
      gi_roundg (left.length)
      case rel=> refine ⟨d++[(f,h)],ct left (f,h),ac,?_,a7,a2⟩;exact (a4.kept ((e4 m _).trans ao))
      case measure=>omega
    · gi_wp2
      refine gp (gn rfl _ _ _) rfl ?_;exact ⟨⟨_,rfl⟩, .inr ⟨_,d++[(f,h)],trivial,a8⟩⟩
theorem nL (n:Nat) (hn:1<=n) (s:Nat) (mv:Option Nat) (l:List (PK×dx)) (t:cv) (D:t.cell? ⟨s,0,Y⟩=X (.map mv)) (O:bW pairB t mv l) (ao:∀b,mv=X b->b<t.heap.size):
 jc dz n prog 121 #[c4 (X ⟨s,0,Y⟩)] (λx:PK=> #[pairV x]) (λxs=>xs.Perm (l.map (·.1))) (λ_=>True) (λd x=>d.length<l.length/\pkOk x) (λ_=>False) t:=by
 intro ay A Jx W C H L G;have c0:W.cell? ⟨s,0,Y⟩=X (.map mv):=(C.cell (p:=⟨s,0,Y⟩) (bh D)).trans D;have al:bW pairB W mv l:=O.block (λb hb=>C.block b (ao b hb));have u:=Z H;have HY:=Z L;have H0:=Z G;clear H L G C D O;refine eQ func121 rfl trivial ?_ rfl;simp only [ntmps121,cx,cg,cP,dr,dk,cq,cm,cy,cu,cz,cQ];gi_wp2_with (refine eW _ rfl _ _ rfl 139 underlying115 mv l rfl al ?_;intro w1 T m a0)
 have M:A (λk=>k=W.heap.size) [] w1:=u.o _ _ _ _ _ H0.o ⟨m.os,m.tape,m.output,m.size,λk c _ _=>m.block k c,λk c=> .inr (by rw [c];exact cc _),λk c=>by rw [c,a0];omega⟩;have a4:=Z T;have a1:=Z M;have b0:W.heap.size<w1.heap.size:=by omega
 clear T M m a0;gi_loopg [] (l.length+1) (λg wr=>∃d left,left.length<g/\Hid (dT pairB wr mv W.heap.size l left)/\Hid (A (λk=>k=W.heap.size) d wr)/\Hid ((d++left.map (·.1)).Perm (l.map (·.1))))
 case atStart=>exact ⟨[],l,by omega,a4,a1,by unfold Hid;simp⟩
 case round=>
  obtain ⟨d,left,b2,z,E,y⟩:=hrel;have b3:W.heap.size<wr.heap.size:=z.lt;gi_wp2_with (refine fL _ rfl _ rfl mv W.heap.size l left rfl z.o ?_ ?_)
  · intro ac;subst ac;gi_wp2
    go_end0
    refine ⟨⟨_,rfl⟩, .inl ⟨_,d,?_,E.o⟩⟩;have:=y.o;simpa using this
  · intro f h i j v r R av V ad q a7;have ax:d.length<l.length:=by have h1:=y.length_eq;simp only [cb,fz] at h1;have:=e9 R;omega
    have b4:r.heap.size=wr.heap.size:=q.size;have N:A (λk=>k=W.heap.size) d r:=u.o _ _ _ _ _ E.o ⟨q.os,q.tape,q.output,by omega,λk _ c _=>q.block k c,λk c=> .inl c,λk c=>by rw [c];omega⟩;have a2:=Z N;have a5:=Z V;have aC:=Z q;clear V N;simp only [x8] at a7 ⊢;obtain ⟨fn,b6,aS,aT,hy,I⟩:=HY.o (λk=>k=W.heap.size) d ((f,h),(i,j)) (r.alloc (fx #[cl U f,cl U h,cl U i,cl U j] 134)) (u.o _ _ _ _ _ a2.o (cO.alloc (λk c=>by rw [c];omega) _)) ⟨ax,av⟩;have a6:=Z I;clear I;have b5:(Instr.yield ay #[Value.agg #[cl U f,cl U h,cl U i,cl U j]]).run prog (r.alloc (fx #[cl U f,cl U h,cl U i,cl U j] 134))=_:=hy;gi_wp2
    refine a6.mono ?_;have a3:Hid (((d++[((f,h),(i,j))])++(ct left ((f,h),(i,j))).map (·.1)).Perm (l.map (·.1))):=by refine List.Perm.trans ?_ y.o;rw [dc];exact (jk z.nodup R).append_left d
    rintro e w3 (⟨rfl,a8,b1,au⟩|⟨rfl,a9⟩)
    · gi_wp2
      gi_roundg (left.length)
      case rel=> refine ⟨d++[((f,h),(i,j))],ct left ((f,h),(i,j)),ad,?_,a8,a3⟩;exact (a5.kept ((e4 r _).trans au))
      case measure=>omega
    · gi_wp2
      refine gp (gn rfl _ _ _) rfl ?_;exact ⟨⟨_,rfl⟩, .inr ⟨_,d++[((f,h),(i,j))],trivial,a9⟩⟩
theorem Af (mv:Option Nat) (w:cv):gy prog 51 #[.map mv] w λe w'=>e=c6 (.func (.func 95) #[] #[c4 (X ⟨w.heap.size,0,Y⟩)])/\w'=w.alloc (c7 #[.map mv] 93):=by
 go_enter func51,ntmps51;go_wp2_with fail
 go_ret;exact ⟨rfl,rfl⟩
theorem uU (mv:Option Nat) (w:cv):gy prog 61 #[.map mv] w λe w'=>e=c6 (.func (.func 108) #[] #[c4 (X ⟨w.heap.size,0,Y⟩)])/\w'=w.alloc (c7 #[.map mv] 113):=by
 go_enter func61,ntmps61;go_wp2_with fail
 go_ret;exact ⟨rfl,rfl⟩
theorem Ae (mv:Option Nat) (w:cv):gy prog 64 #[.map mv] w λe w'=>e=c6 (.func (.func 118) #[] #[c4 (X ⟨w.heap.size,0,Y⟩)])/\w'=w.alloc (c7 #[.map mv] 114):=by
 go_enter func64,ntmps64;go_wp2_with fail
 go_ret;exact ⟨rfl,rfl⟩
theorem uT (mv:Option Nat) (w:cv):gy prog 66 #[.map mv] w λe w'=>e=c6 (.func (.func 121) #[] #[c4 (X ⟨w.heap.size,0,Y⟩)])/\w'=w.alloc (c7 #[.map mv] 115):=by
 go_enter func66,ntmps66;go_wp2_with fail
 go_ret;exact ⟨rfl,rfl⟩
end
section
open Go.RowKit Go.Shelf
section
variable {F:Fence} {n:Nat} {P:Program}
theorem ni {α:Type} {g:he} {ps:Array Tmp} {assign body:Code} {Q:Exit->Act->cv->Prop} {a:Act} {w:cv}
 (bO:F.round=Y) (h1:1<=n) {gf:Nat} {lb:Array dx} (hg:a.eval g= .func (.func gf) #[] lb) (ay:F.fn gf) (eg:∀args w,(callFunc gf args).run P w= .ok (.enter gf args) w)
 {a1:α->Array dx} {S Sp:List α->Prop} {G:List α->α->Prop} {M0:Nat->Prop} {w0:cv} (bY:jc F (n - 1) P gf lb a1 S Sp G M0 w0) (a5:∀k,M0 k->k<w.heap.size) (ao:Bw w0 w) (bB:∀x,(a1 x).size=ps.size)
 (I:(Nat->Prop)->List α->cv->Prop) (Ix:Code->(Nat->Prop)->List α->cv->Prop) (H:gU w.heap.size I) (a4:∀c,gU w.heap.size (Ix c)) (a7:∀M s C,I M s C->∀k,M k->k<C.heap.size) (a8:∀c M s C,Ix c M s C->∀k,M k->k<C.heap.size)
 (h0:I M0 [] w) (a₁:α->Nat->Act) (ob:α->Obj)
 (b6:∀(l:Nat) (x:α) (W:cv) (K:Act->cv->Prop),K (a₁ x W.heap.size) (W.alloc (ob x))->
  assign.wpIn (F.inRound l) (n - 1 - 1) P (Exit.then K (λ_ _ _=>False)) {tmps:=(ps.zip (a1 x)).foldl (λt (p,v)=>t.setIfInBounds p v) a.tmps,defers:=[]} W)
 (b8:∀(l:Nat) (M:Nat->Prop) (d:List α) (x:α) (W:cv) (N:Nat),I M d W->G d x->w.heap.size<=N->W.heap[N]? =X (ob x)->body.wpIn (F.inRound l) (n - 1 - 1) P (AR M I Ix (d++[x]) W) (a₁ x N) W)
 (b9:∀(D:Nat) (M:Nat->Prop) (xs:List α) (W:cv),w.heap.size<=D->S xs->I M xs W->W.heap[D]? =X (.deferred (X []))->Q .normal {a with defers:={target:= .collected D,args:= #[]}::a.defers} W)
 (c0:∀(D:Nat) (c:Code) (M:Nat->Prop) (d:List α) (W:cv),w.heap.size<=D->Sp d->Ix c M d W->W.heap[D]? =X (.deferred (X []))->c.wpIn F n P Q {a with defers:={target:= .collected D,args:= #[]}::a.defers} W):
 (Code.rangeFunc g ps assign body).wpIn F n P Q a w:=by
 refine wpIn_rangeFunc ?_;intro fn bb;rw [bO];obtain ⟨rec,A⟩:∃rec:LoopState->Option Code->Loop,rec=λst pe=>{state:=st,pending:=pe,fn,tmps:=a.tmps,params:=ps,assign,body,defers:=w.heap.size}:=⟨_,rfl⟩;obtain ⟨r,a0⟩:=Qe ((w.alloc (.deferred (X []))).alloc (.loop (rec .ready Y)));have aT:r.heap[w.heap.size+1]? =X (.loop (rec .ready Y)):=by rw [<- a0];have:=dd (w.alloc (.deferred (X []))) (.loop (rec .ready Y));rwa [gO] at this
 have aS:r.heap[w.heap.size]? =X (.deferred (X [])):=by rw [<- a0];exact (ex _ _ _ (by simp)).trans (dd w _)
 have aC:I M0 [] r:=by rw [<- a0];exact H _ _ _ _ _ (H _ _ _ _ _ h0 (cO.alloc a5 _)) (cO.alloc (λk b=>by have:=a5 k b;simp;omega) _)
 have c1:r.heap.size=w.heap.size+2:=by rw [<- a0];simp
 have b7:Bw w0 r:=by rw [<- a0];exact ao.trans ((((fs _ w).alloc (cc _) _).alloc (by simp) _).mono ao.size)
 refine ⟨w.heap.size+1,[{target:= .collected w.heap.size,args:= #[]}],r,{target:= .fn (.func gf) lb,args:= #[.func (.yield (w.heap.size+1)) #[] #[]]},r,gf,
  #[.func (.yield (w.heap.size+1)) #[] #[]]++lb,r,?_,?_,?_,?_,λ_=>h1,?_⟩
 · rw [<- a0,A];exact run_enterLoop_outer _ _ _ _ _
 · simp only [resolve,hg];simp [go_sem]
 · intro f' au;simp [Target.leads] at au;subst au;exact ay
 · simp [invoke,go_sem,eg]
 · refine (bY (w.heap.size+1)
    (λM d W=>I M d W/\¬M (w.heap.size+1)/\¬M w.heap.size/\W.heap[w.heap.size+1]? =X (.loop (rec .ready Y))/\W.heap[w.heap.size]? =X (.deferred (X [])))
    (λM d W=>∃c,Ix c M d W/\W.heap[w.heap.size+1]? =X (.loop (rec .done (X c)))/\W.heap[w.heap.size]? =X (.deferred (X [])))
    r b7
    (λM s C M' ax hs y=>by
     obtain ⟨z,n1,n2,j,b⟩:=hs
     have bt:w.heap.size+1<C.heap.size:=(Array.getElem?_eq_some_iff.1 j).1
     have hT:cO w.heap.size M C M' ax:=⟨y.os,y.tape,y.output,y.size,λk b h2 h3=>y.block k b h2 λhB o O=>h3 (by omega) o O,y.new,y.lt⟩
     exact ⟨H _ _ _ _ _ z hT,λh=>by rcases y.new _ h with h|h;exact n1 h;omega,λh=>by rcases y.new _ h with h|h;exact n2 h;omega,
      (y.block _ bt n1 (λhB=>by omega)).trans j,(y.block _ (by omega) n2 (λhB=>by omega)).trans b⟩)
    ?_ ⟨aC,λh=>by have:=a5 _ h;omega,λh=>by have:=a5 _ h;omega,aT,aS⟩).mono ?_
   ·
    rintro M d x W ⟨z,n1,n2,j,b⟩ bA
    have ac:w.heap.size+1<W.heap.size:=(Array.getElem?_eq_some_iff.1 j).1
    have hy:=run_yield (P:=P) (args:=a1 x) j (by rw [A];exact bB x)
    rw [A] at hy
    refine ⟨fn,_,assign,body,hy,?_⟩
    obtain ⟨V,T⟩:=Qe (W.alloc (ob x))
    have ad:∀k,k<W.heap.size->V.heap[k]? =W.heap[k]? :=λk b=>by rw [<- T];exact ex W _ k b
    have b1:V.heap[W.heap.size]? =X (ob x):=by rw [<- T];exact dd W _
    have c2:V.heap.size=W.heap.size+1:=by rw [<- T];simp
    have a9:V.heap[w.heap.size+1]? =X (.loop (rec .ready Y)):=(ad _ ac).trans j
    have a6:V.heap[w.heap.size]? =X (.deferred (X [])):=(ad _ (by omega)).trans b
    have al:=a7 _ _ _ z
    have av:I M d V:=by rw [<- T];exact H _ _ _ _ _ z (cO.alloc al _)
    have b5:∀(W9:cv),mI M V W9/\gP V W9->mI M W W9/\gP W W9:=λW9 h=>⟨λk b=>(h.1 k b).trans (ad k (al k b)),(by rw [<- T] at h;exact (e4 W _).trans h.2)⟩
    have b2:W.heap.size≠w.heap.size+1:=by omega
    have b3:w.heap.size<=W.heap.size:=by omega
    have ac:w.heap.size+1<V.heap.size:=by omega
    refine roundIn_of_wpIn bb (b6 _ x W _ ?_)
    rw [T]
    refine ⟨_,run_beginRound a9 (by rw [A]),?_⟩
    have bw:(V.putObj (w.heap.size+1) (.loop {rec .ready Y with state:= .busy})).heap[w.heap.size+1]? =X (.loop {rec .ready Y with state:= .busy}):=e7 ac
    have bk:(V.putObj (w.heap.size+1) (.loop {rec .ready Y with state:= .busy})).heap[w.heap.size]? =X (.deferred (X [])):=(cd (by omega)).trans a6
    have b0:=a7 _ _ _ av
    have bc:=H _ _ _ _ _ av (cO.put b0 (w.heap.size+1) (by omega) _ (.loop {rec .ready Y with state:= .busy}) a9 rfl)
    refine wpIn_mono (b8 _ M d x _ W.heap.size bc bA b3 ((cd b2).trans b1)) ?_
    have a2:∀(q:Option Code) (f:cv),gP (V.putObj (w.heap.size+1) (.loop {rec .ready Y with state:= .busy})) f->
     (Instr.endRound (w.heap.size+1) q).run P f= .ok (c5 q.isNone) (f.putObj (w.heap.size+1) (.loop (rec (if q.isNone then .ready else .done) q)))/\
     f.heap[w.heap.size+1]? =X (.loop {rec .ready Y with state:= .busy})/\
     (f.putObj (w.heap.size+1) (.loop (rec (if q.isNone then .ready else .done) q))).heap[w.heap.size+1]? =X (.loop (rec (if q.isNone then .ready else .done) q))/\
     (f.putObj (w.heap.size+1) (.loop (rec (if q.isNone then .ready else .done) q))).heap[w.heap.size]? =X (.deferred (X [])):=λq f i=>by
     have m:=i.same _ _ bw rfl
     have:=run_endRound (P:=P) q m
     rw [A] at this ⊢
     exact ⟨this,by rw [A] at m;exact m,e7 (Array.getElem?_eq_some_iff.1 m).1,(cd (by omega)).trans (i.same _ _ bk rfl)⟩
    rintro e a3 f hp
    cases e with
    |normal=>
     obtain ⟨i,bs,u⟩:=hp
     obtain ⟨R,m,E,L⟩:=a2 Y f i
     refine ⟨_,_,R, .inl ⟨rfl,⟨H _ _ _ _ _ u (cO.put (a7 _ _ _ u) _ (by omega) _ _ m rfl),n1,n2,E,L⟩,b5 _ ⟨λk a6=>?_,?_⟩⟩⟩
     · have e1:k≠w.heap.size+1:=λe=>n1 (e ▸ a6)
       exact ((cd (by omega)).trans (bs k a6)).trans (cd (by omega))
     · refine ⟨em (em (g7 V (w.heap.size+1) _).size i.size) (g7 f (w.heap.size+1) _).size,λk o O hc=>?_⟩
       by_cases e1:k=w.heap.size+1
       · subst e1
         rw [a9] at O
         injection O with O
         subst O
         exact E
       · exact (cd (by omega)).trans (i.same k o ((cd (by omega)).trans O) hc)
    |ret=>
     obtain ⟨i,u⟩:=hp
     obtain ⟨R,m,E,L⟩:=a2 (X .ret) f i
     exact ⟨_,_,R, .inr ⟨rfl, .ret,a4 _ _ _ _ _ _ u (cO.put (a8 _ _ _ _ u) _ (by omega) _ _ m rfl),E,L⟩⟩
    |exit id=>
     obtain ⟨i,u⟩:=hp
     obtain ⟨R,m,E,L⟩:=a2 (X (.exit id)) f i
     exact ⟨_,_,R, .inr ⟨rfl, .exit id,a4 _ _ _ _ _ _ u (cO.put (a8 _ _ _ _ u) _ (by omega) _ _ m rfl),E,L⟩⟩
    |goto t=>
     obtain ⟨i,u⟩:=hp
     obtain ⟨R,m,E,L⟩:=a2 (X (.goto t)) f i
     exact ⟨_,_,R, .inr ⟨rfl, .goto t,a4 _ _ _ _ _ _ u (cO.put (a8 _ _ _ _ u) _ (by omega) _ _ m rfl),E,L⟩⟩
    |panic ch=>exact hp.elim
    |outgrown=>exact hp.elim
   ·
    rintro e W2 ⟨⟨v,rfl⟩,(⟨M,xs,hS,z,n1,n2,j,b⟩|⟨M,d,b4,c,z,j,b⟩)⟩
    · exact ⟨Y,_,by have:=run_endLoop (P:=P) j (by rw [A];simp);rw [A] at this;exact this,b9 _ M xs _ (cc _) hS (H _ _ _ _ _ z (cO.put (a7 _ _ _ z) _ (by omega) _ _ j rfl)) ((cd (by omega)).trans b)⟩
    · exact ⟨X c,_,by have:=run_endLoop (P:=P) j (by rw [A];simp);rw [A] at this;exact this,c0 _ c M d _ (cc _) b4 (a4 c _ _ _ _ _ z (cO.put (a8 _ _ _ _ z) _ (by omega) _ _ j rfl)) ((cd (by omega)).trans b)⟩
end
end
section
open Go.RowKit Go.Maps Go.Shelf
attribute [local go_sem] Oper.semAt_some
theorem Cf:(prog.info? 134).map (λi=>(i.zero,i.size,i.bytes))=X (X (.agg #[J U 0,J U 0,J U 0,J U 0]),4,32):=by kernel_rfl
def pkCells (a:PK):List dx:=[J U a.1.1,J U a.1.2,J U a.2.1,J U a.2.2]
structure AN (w:cv) (Bo:Nat) (M:Nat->Prop) (pre:List RK) (W:cv):Prop where
 o:∃v,Boxed W Bo 52 v/\W.ownsRow w.heap.size 36 2 v pre.length (pre.flatMap rkCells)/\∀g,v.ownBlock=some g->¬M g
 b:Bw w W
 lt:∀k,M k->k<W.heap.size/\w.heap.size<=k
 box:¬M Bo
theorem AN.stable (w:cv) (p B:Nat) (G:w.heap.size<=B):gU B (AN w p):=by
 intro M s q D C h d;obtain ⟨v,m,u,A⟩:=h.o;have z:∀k,k<q.heap.size->¬M k->(∃cs t,q.heap[k]? =X (c7 cs t (0,0)))->C.heap[k]? =q.heap[k]? :=λk c x r=>by obtain ⟨cs,t,r⟩:=r;exact d.block k c x λ_ o l=>by rw [r] at l;injection l with l;subst l;rfl
 refine ⟨⟨v,(z p (ae m) h.box ⟨_,_,m⟩).trans m,ag u (λg f=>?_),λg f i=>?_⟩,?_,λk j=>⟨d.lt k j,?_⟩,λi=>?_⟩
 · obtain ⟨E,y⟩:=aA u f;exact z g (ae y) (A g f) ⟨_,_,y⟩
 · have:=lz u g f;rcases d.new g i with c|c
   · exact A g f c
   · omega
 · have e:=h.b;exact ⟨d.os.trans e.os,d.tape.trans e.tape,d.output.trans e.output,em e.size d.size,λk j=>(d.block k (by have:=e.size;omega) (λi=>by have:=(h.lt k i).2;omega) (λx=>by omega)).trans (e.block k j)⟩
 · rcases d.new k j with c|c
   · exact (h.lt k c).2
   · have:=h.b.size;omega
 · rcases d.new p i with c|c
   · exact h.box c
   · have:=ae m;omega
theorem nc (n:Nat) (hn:3<=n) (g:Nat) (lb:Array dx) (eg:∀args w,(callFunc g args).run prog w= .ok (.enter g args) w) (O Sp:List RK->Prop) (G:List RK->RK->Prop) (hG:∀f x,G f x->f.length<100000000) (w:cv)
 (ad:jc dz (n - 1) prog g lb (λx:RK=> #[recK x]) O Sp G (λ_=>False) w):
 CallsIn dz n prog 140 #[c9 Y 0 0, .func (.func g) #[] lb] w λe w'=>∃(v:dx) (t:List RK),e=c6 v/\O t/\w'.ownsRow w.heap.size 36 2 v t.length (t.flatMap rkCells)/\Bw w w':=by
 have C:1<=n:=by omega
 refine gz func140 rfl trivial ?_ rfl;simp only [ntmps140,cx,cg,cP,dr,dk,cq,cm,cy,cu,cz,cQ];gi_wp2
 have bO:=Boxed.new w 52 (c9 Y 0 0);have E:Bw w (w.alloc (c7 #[c9 Y 0 0] 52)):=(fs _ w).alloc (cc _) _
 refine ni rfl C (gf:=g) (lb:=lb) rfl trivial eg ad (λk d=>d.elim) E (λ_=>rfl) (AN w w.heap.size) (λ_ _ _ _=>False) (AN.stable w _ _ E.size) (λ_ _ _ _ _ _ h _=>h) (λM s ax h k d=>(h.lt k d).1) (λ_ _ _ _ h=>h.elim)
  ⟨⟨_,bO,gs _ _ _ _,λg hg=>by cases hg⟩,E,λk d=>d.elim,λh=>h⟩
  (λx N=>{tmps:= #[c9 Y 0 0, .func (.func g) #[] lb,c4 (X ⟨w.heap.size,0,Y⟩),undef,c9 Y 0 0,c4 (X ⟨N,0,Y⟩), .func (.func g) #[] lb,recK x,undef,undef,undef,undef,undef],defers:=[]}) (λx=> .cells (rkCells x).toArray 36) ?assign ?body ?done ?stop
 case assign=>
  intro l x W K j;obtain ⟨z,A⟩:=x;unfold recK rkCells at *;dsimp only at *;gi_wp2
  exact j
 case body=>
  rintro l M f x W N h a0 ay H;have a0:=hG _ _ a0;obtain ⟨v,r,p,a2⟩:=h.o;have hc:=r.cell;obtain ⟨i0,hi,ao,au,av⟩:=info_parts i36;have i:=Z h.b;have u:=Z p;have HV:=Z r;have L:=Z a2;have I:=Z h;clear h p r a2;obtain ⟨z,A⟩:=x;unfold recK at *;unfold rkCells at H;dsimp only at H ⊢;have a6:Hid ((f++[(z,A)]).flatMap rkCells=f.flatMap rkCells++[J U z,J U A]):=by unfold Hid;simp [rkCells]
  obtain ⟨n0,n1⟩:=cU H;generalize hxs:f.flatMap rkCells=xs0 at *;clear hxs;gi_wp2_with (gi_at_builtin;refine wpListIn_append_own_at _ rfl _ _ 52 rfl w.heap.size 36 i0 (.agg #[J U 0,J U 0]) 2 16 underlying52 hi ao au av rfl (by decide) _ _ _ rfl (u.o.alloc _) ⟨W.heap.size,0,Y⟩ 1 1 [J U z,J U A] rfl rfl (cell_two_new _ _ _ _) (by simp [gb]) (by unfold maxLen;omega) (by omega) (by have:=i.o.size;simp;omega) ?_;intro v' w1 a3 V _ a1;obtain ⟨g',a7,rfl⟩:=g2 a3;obtain ⟨a4,al,ac,a8,R⟩:=HV.o.appended (by decide) u.o i.o.size (cc _) a3 V;have aC:=a4.cell;have aS:=a4.frozen;have a5:=Z a1;clear a1)
  have aT:=i.size;have y:=I.lt;have T:=I.box;have a9:∀k,M k->(w1.setCell ⟨w.heap.size,0,Y⟩ (c9 (X ⟨g',0,Y⟩) (f.length+1) a7)).heap[k]? =W.heap[k]? :=λk d=>by have C:=(y k d).1;rw [dy _ _ _ _ (λ(e:k=w.heap.size)=>T (e ▸ d)),V.block k (by simp;omega) (λe=>L.o k e.symm d),ex _ _ _ C]
  refine ⟨a8,a9,⟨⟨_,al,?_,λq m hm=>?_⟩,i.trans R,λk d=>⟨?_,(y k d).2⟩,T⟩⟩
  · rw [cb,a6.o];exact ac
  · rcases a5.o with e|e
    · exact L q (e ▸ m) hm
    · rw [e] at m;injection m with m
      have:=(y q hm).1;simp at m;omega
  · exact gt (y k d).1 R.size
 case done=>
  rintro D M t W hD hS h j;obtain ⟨v,r,p,_⟩:=h.o;have hc:=r.cell;have u:=Z p;have i:=Z h.b;clear h p;gi_wp2
  refine ⟨by simp, .inl ⟨_,_,rfl,g5 j,?_⟩⟩;exact ⟨_,results_tmp rfl _ _ _,v,t,rfl,hS,ownsRow_putObj u.o _ j rfl,i.o.trans (belowK_b (w:=w) (cc _) W D _ _ (by simp at hD;omega) j rfl rfl)⟩
 case stop=> rintro D c M f W _ _ h _;exact h.elim
theorem uc (n:Nat) (q:4<=n) (g:Nat) (lb:Array dx) (h:∀args w,(callFunc g args).run prog w= .ok (.enter g args) w) (c d:List RK->Prop) (G:List RK->RK->Prop) (i:∀f x,G f x->f.length<100000000) (w:cv)
 (m:jc dz (n - 1 - 1) prog g lb (λx:RK=> #[recK x]) c d G (λ_=>False) w):
 gy prog 88 #[.func (.func g) #[] lb] w λe w'=>∃(v:dx) (b:List RK),e=c6 v/\c b/\w'.ownsRow w.heap.size 36 2 v b.length (b.flatMap rkCells)/\Bw w w':=by
 have p:1<=n:=by omega
 refine (callsIn_wide (n:=n)).1 ?_;refine eQ func88 rfl trivial ?_ rfl;simp only [ntmps88,cx,cg,cP,dr,dk,cq,cm,cy,cu,cz,cQ];gi_wp2_with (refine ⟨trivial,?_⟩;gi_at_call 140;refine (nc (n - 1) (by omega) g lb h c d G i _ m).mono ?_;rintro e w' ⟨v,b,rfl,j,l,k⟩)
 go_ret;exact ⟨v,b,rfl,j,l,k⟩
structure AO (w:cv) (Bo:Nat) (M:Nat->Prop) (pre:List PK) (W:cv):Prop where
 o:∃v,Boxed W Bo 131 v/\W.ownsRow w.heap.size 134 4 v pre.length (pre.flatMap pkCells)/\∀g,v.ownBlock=some g->¬M g
 b:Bw w W
 lt:∀k,M k->k<W.heap.size/\w.heap.size<=k
 box:¬M Bo
theorem AO.stable (w:cv) (p B:Nat) (G:w.heap.size<=B):gU B (AO w p):=by
 intro M s q D C h d;obtain ⟨v,m,u,A⟩:=h.o;have z:∀k,k<q.heap.size->¬M k->(∃cs t,q.heap[k]? =X (c7 cs t (0,0)))->C.heap[k]? =q.heap[k]? :=λk c x r=>by obtain ⟨cs,t,r⟩:=r;exact d.block k c x λ_ o l=>by rw [r] at l;injection l with l;subst l;rfl
 refine ⟨⟨v,(z p (ae m) h.box ⟨_,_,m⟩).trans m,ag u (λg f=>?_),λg f i=>?_⟩,?_,λk j=>⟨d.lt k j,?_⟩,λi=>?_⟩
 · obtain ⟨E,y⟩:=aA u f;exact z g (ae y) (A g f) ⟨_,_,y⟩
 · have:=lz u g f;rcases d.new g i with c|c
   · exact A g f c
   · omega
 · have e:=h.b;exact ⟨d.os.trans e.os,d.tape.trans e.tape,d.output.trans e.output,em e.size d.size,λk j=>(d.block k (by have:=e.size;omega) (λi=>by have:=(h.lt k i).2;omega) (λx=>by omega)).trans (e.block k j)⟩
 · rcases d.new k j with c|c
   · exact (h.lt k c).2
   · have:=h.b.size;omega
 · rcases d.new p i with c|c
   · exact h.box c
   · have:=ae m;omega
theorem na (n:Nat) (hn:3<=n) (g:Nat) (lb:Array dx) (eg:∀args w,(callFunc g args).run prog w= .ok (.enter g args) w) (T Sp:List PK->Prop) (G:List PK->PK->Prop) (hG:∀f x,G f x->f.length<100000000) (w:cv)
 (ao:jc dz (n - 1) prog g lb (λx:PK=> #[pairV x]) T Sp G (λ_=>False) w):
 CallsIn dz n prog 163 #[c9 Y 0 0, .func (.func g) #[] lb] w λe w'=>∃(v:dx) (t:List PK),e=c6 v/\T t/\w'.ownsRow w.heap.size 134 4 v t.length (t.flatMap pkCells)/\Bw w w':=by
 have H:1<=n:=by omega
 refine gz func163 rfl trivial ?_ rfl;simp only [ntmps163,cx,cg,cP,dr,dk,cq,cm,cy,cu,cz,cQ];gi_wp2
 have bO:=Boxed.new w 131 (c9 Y 0 0);have I:Bw w (w.alloc (c7 #[c9 Y 0 0] 131)):=(fs _ w).alloc (cc _) _
 refine ni rfl H (gf:=g) (lb:=lb) rfl trivial eg ao (λk d=>d.elim) I (λ_=>rfl) (AO w w.heap.size) (λ_ _ _ _=>False) (AO.stable w _ _ I.size) (λ_ _ _ _ _ _ h _=>h) (λM s aC h k d=>(h.lt k d).1) (λ_ _ _ _ h=>h.elim)
  ⟨⟨_,bO,gs _ _ _ _,λg hg=>by cases hg⟩,I,λk d=>d.elim,λh=>h⟩
  (λx N=>{tmps:= #[c9 Y 0 0, .func (.func g) #[] lb,c4 (X ⟨w.heap.size,0,Y⟩),undef,c9 Y 0 0,c4 (X ⟨N,0,Y⟩), .func (.func g) #[] lb,pairV x,undef,undef,undef,undef,undef],defers:=[]}) (λx=> .cells (pkCells x).toArray 134) ?assign ?body ?done ?stop
 case assign=>
  intro l x W K j;obtain ⟨⟨z,A⟩,C,E⟩:=x;unfold pairV pkCells at *;dsimp only at *;gi_wp2
  exact j
 case body=>
  rintro l M f x W N h a2 aS L;have a2:=hG _ _ a2;obtain ⟨v,r,p,a4⟩:=h.o;have hc:=r.cell;obtain ⟨i0,hi,av,ax,ay⟩:=info_parts Cf;have i:=Z h.b;have u:=Z p;have HV:=Z r;have R:=Z a4;have O:=Z h;clear h p r a4;obtain ⟨⟨z,A⟩,C,E⟩:=x;unfold pairV at *;unfold pkCells at L;dsimp only at L ⊢;have a8:Hid ((f++[((z,A),C,E)]).flatMap pkCells=f.flatMap pkCells++[J U z,J U A,J U C,J U E]):=by unfold Hid;simp [pkCells]
  obtain ⟨n0,n1,n2,n3⟩:=m8 L;generalize hxs:f.flatMap pkCells=xs0 at *;clear hxs;gi_wp2_with (gi_at_builtin;refine wpListIn_append_own_at _ rfl _ _ 131 rfl w.heap.size 134 i0 (.agg #[J U 0,J U 0,J U 0,J U 0]) 4 32 underlying131 hi av ax ay rfl (by decide) _ _ _ rfl (u.o.alloc _) ⟨W.heap.size,0,Y⟩ 1 1 [J U z,J U A,J U C,J U E] rfl rfl (mZ _ _ _ _ _ _) (by simp [gb]) (by unfold maxLen;omega) (by omega) (by have:=i.o.size;simp;omega) ?_;intro v' w1 a5 a1 _ a3;obtain ⟨g',a9,rfl⟩:=g2 a5;obtain ⟨a6,au,al,ac,V⟩:=HV.o.appended (by decide) u.o i.o.size (cc _) a5 a1;have aT:=a6.cell;have b0:=a6.frozen;have a7:=Z a3;clear a3)
  have b1:=i.size;have y:=O.lt;have a0:=O.box;have ad:∀k,M k->(w1.setCell ⟨w.heap.size,0,Y⟩ (c9 (X ⟨g',0,Y⟩) (f.length+1) a9)).heap[k]? =W.heap[k]? :=λk d=>by have H:=(y k d).1;rw [dy _ _ _ _ (λ(e:k=w.heap.size)=>a0 (e ▸ d)),a1.block k (by simp;omega) (λe=>R.o k e.symm d),ex _ _ _ H]
  refine ⟨ac,ad,⟨⟨_,au,?_,λq m hm=>?_⟩,i.trans V,λk d=>⟨?_,(y k d).2⟩,a0⟩⟩
  · rw [cb,a8.o];exact al
  · rcases a7.o with e|e
    · exact R q (e ▸ m) hm
    · rw [e] at m;injection m with m
      have:=(y q hm).1;simp at m;omega
  · exact gt (y k d).1 V.size
 case done=>
  rintro D M t W hD hS h j;obtain ⟨v,r,p,_⟩:=h.o;have hc:=r.cell;have u:=Z p;have i:=Z h.b;clear h p;gi_wp2
  refine ⟨by simp, .inl ⟨_,_,rfl,g5 j,?_⟩⟩;exact ⟨_,results_tmp rfl _ _ _,v,t,rfl,hS,ownsRow_putObj u.o _ j rfl,i.o.trans (belowK_b (w:=w) (cc _) W D _ _ (by simp at hD;omega) j rfl rfl)⟩
 case stop=> rintro D c M f W _ _ h _;exact h.elim
theorem sh (n:Nat) (q:4<=n) (g:Nat) (lb:Array dx) (h:∀args w,(callFunc g args).run prog w= .ok (.enter g args) w) (c d:List PK->Prop) (G:List PK->PK->Prop) (i:∀f x,G f x->f.length<100000000) (w:cv)
 (m:jc dz (n - 1 - 1) prog g lb (λx:PK=> #[pairV x]) c d G (λ_=>False) w):
 gy prog 119 #[.func (.func g) #[] lb] w λe w'=>∃(v:dx) (b:List PK),e=c6 v/\c b/\w'.ownsRow w.heap.size 134 4 v b.length (b.flatMap pkCells)/\Bw w w':=by
 have p:1<=n:=by omega
 refine (callsIn_wide (n:=n)).1 ?_;refine eQ func119 rfl trivial ?_ rfl;simp only [ntmps119,cx,cg,cP,dr,dk,cq,cm,cy,cu,cz,cQ];gi_wp2_with (refine ⟨trivial,?_⟩;gi_at_call 163;refine (na (n - 1) (by omega) g lb h c d G i _ m).mono ?_;rintro e w' ⟨v,b,rfl,j,l,k⟩)
 go_ret;exact ⟨v,b,rfl,j,l,k⟩
end
section
open Go.RowKit Go.Maps Go.Shelf Go.Lib Go.Sort
section
variable {α:Type} [Inhabited α]
theorem lW (enc:α->List dx) (k:Nat) (m:0<k) (d:∀x,(enc x).length=k) (b:List α):flatK enc k b.toArray=(b.flatMap enc).toArray:=by
 have p:(b.flatMap enc).length=b.length * k:=by
  induction b with
  |nil=>simp
  |cons a l ih=>rw [ft,cb,d,ih,cg,Nat.add_mul];omega
 apply Array.ext
 · simp [p]
 · intro t f v;have q:t<b.toArray.size * k:=by simpa using f
   have r:t<b.length * k:=by simpa using q
   have g:=get_flatK enc k b.toArray t q;rw [getElem!_pos (flatK enc k b.toArray) t f] at g;rw [g];have h:t / k<b.length:=(Nat.div_lt_iff_lt_mul m).2 r;have i:t%k<k:=Nat.mod_lt _ m;have e:=dl enc k d b (t / k) h (t%k) i;rw [Nat.div_add_mod' t k] at e;have s:b.toArray[t / k]! =b[t / k]:=by rw [getElem!_pos b.toArray (t / k) (by simpa using h)];simp
   rw [s];have j:t%k<(enc b[t / k]).length:=by rw [d];exact i
   rw [getElem!_pos (enc b[t / k]) (t%k) j];have c:(b.flatMap enc)[t]? =X ((enc b[t / k])[t%k]):=by rw [e];exact e3 j
   have u:t<(b.flatMap enc).length:=by rw [p];exact r
   rw [e3 u] at c;injection c with c
   simpa using c.symm
theorem cM {lo e k g c n:Nat}:∀(b:List dx) (s:Nat) (w:cv) (xs:List dx),w.ownsRow lo e k (c9 (X ⟨g,0,Y⟩) n c) n xs->s+b.length<=xs.length->
 (w.setCells g s b).ownsRow lo e k (c9 (X ⟨g,0,Y⟩) n c) n (xs.take s++b++xs.drop (s+b.length))/\aq g w (w.setCells g s b)
 |[],s,w,xs,h,hs=>⟨by simpa [World.setCells] using h,aq.refl _ _⟩
 |v::b,s,w,xs,h,hs=>by
  have m:s+1+b.length<=xs.length:=by simp at hs;omega
  have j:=(h.stored s v).1
  obtain ⟨d,l⟩:=cM b (s+1) _ _ j (by simpa using m)
  refine ⟨?_,((aq.refl g w).setCell s v).trans l⟩
  have f:(xs.set s v).take (s+1)=xs.take s++[v]:=by
   rw [gx (by simp;omega)]
   simp [List.take_set_of_le]
  have i:(xs.set s v).drop (s+1+b.length)=xs.drop (s+(b.length+1)):=by
   rw [List.drop_set_of_lt (by omega)]
   congr 1
   omega
  rw [f,i] at d
  simpa [World.setCells] using d
theorem gZ {lo e k g d:Nat} (enc:α->List dx) (l:0<k) (i:∀x,(enc x).length=k) {w:cv} {b:List α} (h:w.ownsRow lo e k (c9 (X ⟨g,0,Y⟩) b.length d) b.length (b.flatMap enc)):HoldsK enc k w g 0 b.toArray:=by
 intro j c;rw [lW enc k l i] at c ⊢;have f:j<(b.flatMap enc).length:=by simpa using c
 rw [Nat.zero_add];refine ⟨?_,h.frozenAt j⟩;rw [h.cellAt j (by have:=h.1;omega),getElem!_pos _ j c];rw [e3 f];simp
theorem iZ {lo e k g j:Nat} (enc:α->List dx) (t:0<k) (m:∀x,(enc x).length=k) {w:cv} {b ys:List α} (p:ys.length=b.length) (h:w.ownsRow lo e k (c9 (X ⟨g,0,Y⟩) b.length j) b.length (b.flatMap enc)) (n:Nat) (c:Array Obj):
 (sortWorldK enc k w g 0 n ys.toArray c).ownsRow lo e k (c9 (X ⟨g,0,Y⟩) b.length j) b.length (ys.flatMap enc)/\(sortWorldK enc k w g 0 n ys.toArray c).os=w.os/\(sortWorldK enc k w g 0 n ys.toArray c).tape=w.tape/\(sortWorldK enc k w g 0 n ys.toArray c).output=w.output/\
  w.heap.size<=(sortWorldK enc k w g 0 n ys.toArray c).heap.size/\∀q,q<w.heap.size->q≠g->(sortWorldK enc k w g 0 n ys.toArray c).heap[q]? =w.heap[q]? :=by
 have A:=gZ enc t m h;have i:∀zs:List α,(zs.flatMap enc).length=zs.length * k:=λzs=>by
  induction zs with
  |nil=>simp
  |cons a l ih=>rw [ft,cb,m,ih,cg,Nat.add_mul];omega
 have v:sortWorldK enc k w g 0 n ys.toArray c=Sort.grow ((w.drewN n).setCells g 0 (ys.flatMap enc)) c:=by unfold sortWorldK putRowK;rw [lW enc k t m];have:=Lib.putRow_eq_setCells id w g 0 (flatK enc k b.toArray) (ys.flatMap enc) n A (by rw [i,p,size_flatK];simp);rw [this];simp
 have y:(w.drewN n).ownsRow lo e k (c9 (X ⟨g,0,Y⟩) b.length j) b.length (b.flatMap enc):=h;obtain ⟨r,f⟩:=cM (ys.flatMap enc) 0 (w.drewN n) (b.flatMap enc) y (by rw [i,i,p];omega);have z:(ys.flatMap enc).length=(b.flatMap enc).length:=by rw [i,i,p]
 rw [List.take_zero,cz,Nat.zero_add,z,List.drop_length,List.append_nil] at r;rw [v];have u:((w.drewN n).setCells g 0 (ys.flatMap enc)).heap.size=w.heap.size:=f.size;have s:∀q,q<w.heap.size->(Sort.grow ((w.drewN n).setCells g 0 (ys.flatMap enc)) c).heap[q]? =((w.drewN n).setCells g 0 (ys.flatMap enc)).heap[q]? :=λq d=>by show (((w.drewN n).setCells g 0 (ys.flatMap enc)).heap++c)[q]? =_;rw [Array.getElem?_append_left (by rw [u];exact d)]
 have C:=(h.lt g (by simp [fc])).2;refine ⟨ag r (λq d=>?_),f.os,f.tape,f.output,by rw [Sort.size_grow,u];omega,λq d D=>(s q d).trans (f.block q D)⟩;simp [fc] at d;subst d;exact s _ C
end
theorem oG {K:Type} {lt:K->K->Bool} (T:Tot lt):Sort.SWO lt:=by
 refine ⟨T.irr,T.tr,λx y z d b=>?_⟩;cases h3:lt x z
 · rfl
 · exfalso;by_cases e:y=x
   · subst e;rw [h3] at b;cases b
   · rcases T.tot y x e with c|c
     · have:=T.tr _ _ _ c h3;rw [this] at b;cases b
     · rw [c] at d;cases d
def cC {K:Type} (lt:K->K->Bool) (b:List K):List K:=b.mergeSort λx y=> !(lt y x)
theorem cS {K:Type} (lt:K->K->Bool) (b:List K):(cC lt b).Perm b:=List.mergeSort_perm _ _
theorem fM {K:Type} {lt:K->K->Bool} (T:Tot lt) (d:List K):(cC lt d).Pairwise λa b=>(!(lt b a))=true:=by
 refine List.pairwise_mergeSort (le:=λx y=> !(lt y x)) (λa b c e f=>?_) (λa b=>?_) d
 · simp only [ej] at *;exact (oG T).ntrans _ _ _ f e
 · simp only [Bool.or_eq_true,ej];cases h:lt b a
   · exact .inl rfl
   · exact .inr (T.asym h)
theorem bq {K:Type} {lt:K->K->Bool} (T:Tot lt) {c ys:List K} (g:c.Perm ys) (i:ys.Pairwise λa b=>lt a b=true):cC lt c=ys:=by
 refine ((cS lt c).trans g).eq_of_pairwise (λa b _ _ d f=>?_) (fM T c) (i.imp λ{a b} h=>by simp [T.asym h]);simp only [ej] at d f;by_cases e:a=b
 · exact e
 · rcases T.tot a b e with h|h
   · rw [f] at h;cases h
   · rw [d] at h;cases h
theorem qS {K:Type} {lt:K->K->Bool} (T:Tot lt) {c ys:List K} (g:c.Perm ys):cC lt c=cC lt ys:=by
 refine ((cS lt c).trans (g.trans (cS lt ys).symm)).eq_of_pairwise (λa b _ _ d f=>?_) (fM T c) (fM T ys);simp only [ej] at d f;by_cases e:a=b
 · exact e
 · rcases T.tot a b e with h|h
   · rw [f] at h;cases h
   · rw [d] at h;cases h
theorem ic:ltOf br=ltRK:=by
 funext a b
 unfold ltOf;rw [Bool.eq_iff_iff,decide_eq_true_eq];exact eL a b
theorem pu:ltOf od=ltPK:=by
 funext a b
 unfold ltOf;rw [Bool.eq_iff_iff,decide_eq_true_eq];exact wO a b
theorem qO (lo:Nat) (w:cv) (v:dx) (b:List RK) (h:w.ownsRow lo 36 2 v b.length (b.flatMap rkCells)) (M:b.length<=1000000):
 gy prog 80 #[v, .func (.func 49) #[] #[]] w λe w'=>e=c6 (.tuple #[])/\w'.ownsRow lo 36 2 v b.length ((cC ltRK b).flatMap rkCells)/\w'.os=w.os/\w'.tape=w.tape/\w'.output=w.output/\w.heap.size<=w'.heap.size/\∀q,q<w.heap.size->v.ownBlock≠X q->w'.heap[q]? =w.heap[q]? :=by
 rcases h.2 with ⟨rfl,z⟩|⟨g,u,H,rfl,_⟩
 · have G:b=[]:=fl z;subst G;refine (AnyF.slices_SortFunc_none uC Y 0 (.func (.func 49) #[] #[]) w).mono ?_;rintro e w' ⟨rfl,rfl⟩;exact ⟨rfl,by simpa [cC] using h,rfl,rfl,rfl,cc _,λ_ _ _=>rfl⟩
 · have C:=(h.lt g (by simp [fc])).2;have A:=gZ rkCells (by decide) (λ_=>rfl) h;have:=AnyQ.slices_SortFunc_total uC 2 Tryz.isAgg36 sizeOf36 rkCells (λ_=>rfl) (λx v i=>by
    simp only [rkCells,e6,er,or_false] at i;rcases i with rfl|rfl<;>rfl) br (by rw [ic];exact oG aN) 49 #[] g 0 u b.toArray w (enters_of func49 (by kernel_rfl) rfl)
    (λm j I L x y=>(eV x y _).mono λe w' f=>⟨f.1,f.2⟩) A C (by simp;omega) (λx y c d=>by
     rw [ic] at c d;by_cases e:x=y
     · exact e
     · rcases aN.tot x y e with h|h
       · rw [c] at h;cases h
       · rw [d] at h;cases h)
   refine (this).mono ?_;rintro e w' ⟨rfl,n,j,rfl⟩;rw [ic];obtain ⟨k,l,p,r,s,t⟩:=iZ (ys:=cC ltRK b) rkCells (by decide) (λ_=>rfl) (cS ltRK b).length_eq h n j;exact ⟨rfl,k,l,p,r,s,λq E D=>t q E (λe=>D (by rw [e];simp [fc]))⟩
theorem gX (n:Nat) (N:4<=n) (g:Nat) (lb:Array dx) (H:∀args w,(callFunc g args).run prog w= .ok (.enter g args) w) (c:List RK) (M:c.length<=1000000) (E:List RK->Prop) (G:List RK->RK->Prop) (I:∀u x,G u x->u.length<100000000) (w:cv)
 (t:jc dz (n - 1 - 1) prog g lb (λx:RK=> #[recK x]) (λh=>h.Perm c) E G (λ_=>False) w):
 gy prog 47 #[.func (.func g) #[] lb, .func (.func 49) #[] #[]] w λe w'=>∃v,e=c6 v/\w'.ownsRow w.heap.size 36 2 v c.length ((cC ltRK c).flatMap rkCells)/\Bw w w':=by
 have z:=Z (uc n N g lb H _ _ _ I _ t);clear t;go_enter func47,ntmps47;go_wp2_with (go_at_call 88;((with_reducible refine da z.o ?_);rintro e w1 ⟨v,h,rfl,f,d,s⟩;have D:=Z (qO w.heap.size w1 v h d (by rw [f.length_eq];exact M));have i:=Z f;have b:=Z s;have C:=Z d;clear f d s))
 go_at_call 80;refine D.mono ?_;rintro e O ⟨rfl,j,l,m,p,q,r⟩;have A:=Z j;have y:Hid (Bw w O):=⟨l.trans b.o.os,m.trans b.o.tape,p.trans b.o.output,em b.o.size q,λk L=>(r k (by have:=b.o.size;omega) (λe=>by have:=(C.o.lt k e).1;omega)).trans (b.o.block k L)⟩;clear j l m p q r;go_wp2;go_ret;refine ⟨v,rfl,?_,y.o⟩;have:=A.o;rw [i.o.length_eq,qS aN i.o] at this;exact this
theorem vD (lo:Nat) (w:cv) (v:dx) (b:List PK) (h:w.ownsRow lo 134 4 v b.length (b.flatMap pkCells)) (M:b.length<=1000000):
 gy prog 120 #[v, .func (.func 67) #[] #[]] w λe w'=>e=c6 (.tuple #[])/\w'.ownsRow lo 134 4 v b.length ((cC ltPK b).flatMap pkCells)/\w'.os=w.os/\w'.tape=w.tape/\w'.output=w.output/\w.heap.size<=w'.heap.size/\∀q,q<w.heap.size->v.ownBlock≠X q->w'.heap[q]? =w.heap[q]? :=by
 rcases h.2 with ⟨rfl,z⟩|⟨g,u,H,rfl,_⟩
 · have G:b=[]:=fl z;subst G;refine (AnyF.slices_SortFunc_none qR Y 0 (.func (.func 67) #[] #[]) w).mono ?_;rintro e w' ⟨rfl,rfl⟩;exact ⟨rfl,by simpa [cC] using h,rfl,rfl,rfl,cc _,λ_ _ _=>rfl⟩
 · have C:=(h.lt g (by simp [fc])).2;have A:=gZ pkCells (by decide) (λ_=>rfl) h;have:=AnyQ.slices_SortFunc_total qR 4 Tryz.isAgg134 sizeOf134 pkCells (λ_=>rfl) (λx v i=>by
    simp only [pkCells,e6,er,or_false] at i;rcases i with rfl|rfl|rfl|rfl<;>rfl) od (by rw [pu];exact oG df) 67 #[] g 0 u b.toArray w (enters_of func67 (by kernel_rfl) rfl)
    (λm j I L x y=>(kM x y _).mono λe w' f=>⟨f.1,f.2⟩) A C (by simp;omega) (λx y c d=>by
     rw [pu] at c d;by_cases e:x=y
     · exact e
     · rcases df.tot x y e with h|h
       · rw [c] at h;cases h
       · rw [d] at h;cases h)
   refine (this).mono ?_;rintro e w' ⟨rfl,n,j,rfl⟩;rw [pu];obtain ⟨k,l,p,r,s,t⟩:=iZ (ys:=cC ltPK b) pkCells (by decide) (λ_=>rfl) (cS ltPK b).length_eq h n j;exact ⟨rfl,k,l,p,r,s,λq E D=>t q E (λe=>D (by rw [e];simp [fc]))⟩
theorem nu (n:Nat) (N:4<=n) (g:Nat) (lb:Array dx) (H:∀args w,(callFunc g args).run prog w= .ok (.enter g args) w) (c:List PK) (M:c.length<=1000000) (E:List PK->Prop) (G:List PK->PK->Prop) (I:∀u x,G u x->u.length<100000000) (w:cv)
 (t:jc dz (n - 1 - 1) prog g lb (λx:PK=> #[pairV x]) (λh=>h.Perm c) E G (λ_=>False) w):
 gy prog 65 #[.func (.func g) #[] lb, .func (.func 67) #[] #[]] w λe w'=>∃v,e=c6 v/\w'.ownsRow w.heap.size 134 4 v c.length ((cC ltPK c).flatMap pkCells)/\Bw w w':=by
 have z:=Z (sh n N g lb H _ _ _ I _ t);clear t;go_enter func65,ntmps65;go_wp2_with (go_at_call 119;((with_reducible refine da z.o ?_);rintro e w1 ⟨v,h,rfl,f,d,s⟩;have D:=Z (vD w.heap.size w1 v h d (by rw [f.length_eq];exact M));have i:=Z f;have b:=Z s;have C:=Z d;clear f d s))
 go_at_call 120;refine D.mono ?_;rintro e O ⟨rfl,j,l,m,p,q,r⟩;have A:=Z j;have y:Hid (Bw w O):=⟨l.trans b.o.os,m.trans b.o.tape,p.trans b.o.output,em b.o.size q,λk L=>(r k (by have:=b.o.size;omega) (λe=>by have:=(C.o.lt k e).1;omega)).trans (b.o.block k L)⟩;clear j l m p q r;go_wp2;go_ret;refine ⟨v,rfl,?_,y.o⟩;have:=A.o;rw [i.o.length_eq,qS df i.o] at this;exact this
end
section
open Go.RowKit Go.Shelf
def bv (l:Bs):List dx:=l.map λc=>J ca c.toNat
theorem za (a b:Bs):bv (a++b)=bv a++bv b:=by simp [bv]
theorem wN (w:cv) (a:Addr) (b:Nat) (l:Bs) (c:∀j u,(bv l)[j]? =X u->w.cell? (a.add j)=X u):(convert 76 9 (c9 (X a) l.length b)).run prog w= .ok (S l) w:=
 run_convert_bytes_back w 76 9 5 a b l underlying76 underlying5 underlying9 (λj d=>c j _ (by simp [bv,d]))
theorem hU (n:Nat) (h:n<18446744073709551616):∀w,gy prog 72 #[J .u64 n] w λe w'=>e=c6 (S (numR n))/\Bw w w':=by
 induction n using Nat.strongRecOn with
 |ind n ih=>
  intro w;by_cases hn:n<128
  · have b:=Z (fS hn);have l:IntKind.u8.wrap (n:Int)=n:=IntWalk.u8_in _ (by omega);clear ih;go_enter func72,ntmps72;go_wp2_with fail
    go_ret;rw [b.o];exact ⟨rfl,ak w _⟩
  · obtain ⟨m,i⟩:∃m,m=n / 128:=⟨_,rfl⟩;obtain ⟨r,j⟩:∃r,r=n%128:=⟨_,rfl⟩;have b:=jo hn;have c:=ih (n / 128) (by omega) (by omega);rw [<- i] at b c;rw [<- j] at b;have t:(n:Int).tmod 128=r:=by rw [g4 (by omega)];omega
    have u:IntKind.u64.wrap (m:Int)=m:=IntWalk.u64_in _ (by omega);have q:(n:Int) / 128=m:=by omega
    have z:r<128:=by omega
    have p:IntKind.u8.wrap ((r:Int)+128)=r+128:=IntWalk.u8_in _ (by omega);have s:IntKind.u64.wrap ((r:Int)+128)=r+128:=IntWalk.u64_in _ (by omega);have g:((r:Int)+128).toNat=r+128:=by omega
    have b:=Z b;have c:=Z c;have y:=gG m 9 (by omega);have A:¬9223372036854775807<1+(numR m).length:=by omega
    have C:¬9223372036854775807<(numR m).length+1:=by omega
    have k:=Z g;clear ih h i j g;go_enter func72,ntmps72;go_wp2_with fail
    go_region_with (go_at_call 72;((with_reducible refine da (c.o _) ?_);rintro e w1 ⟨rfl,f⟩;obtain ⟨v,x⟩:=ar f;have d:=Z f;clear f))
    all_goals
     go_wp2_with fail
     go_ret
     rw [b.o,k.o]
     first
      |exact ⟨rfl,btr (ak w _).drew d.o (by simp)⟩
      |exact ⟨rfl,btr (btr (fs _ w).drew d.o (cc _)) (ak _ _) d.size⟩
attribute [local go_sem] Oper.semAt_some
def xi (B:Nat) (I:Bs->Nat->cv->Prop):Prop:=
 ∀d m b c e,I d m b->b.grownBy c e->(∀r,e=X r->B<=r/\∃o:Obj,b.heap[r]? =X o/\o.isCells=false)->I d m c
theorem xi.put {B:Nat} {I:Bs->Nat->cv->Prop} (h:xi B I) {d:Bs} {m:Nat} {b:cv} (g:I d m b) (l:Nat) (i:B<=l) (o c:Obj) (j:b.heap[l]? =X o) (f:o.isCells=false):I d m (b.putObj l c):=
 h d m b _ (X l) g (g7 b l c) (λr e=>by cases e;exact ⟨i,o,j,f⟩)
theorem xi.alloc {B:Nat} {I:Bs->Nat->cv->Prop} (h:xi B I) {d:Bs} {m:Nat} {b:cv} (c:I d m b) (o:Obj):I d m (b.alloc o):=
 h d m b _ Y c (World.grownBy_alloc b o Y) (λr e=>by cases e)
def BB (I:Bs->Nat->cv->Prop) (d:Bs) (m:Nat) (W:cv):Exit->Act->cv->Prop
 | .normal,_,W'=>gP W W'/\I d m W'
 |_,_,_=>False
section
variable {F:Fence} {n:Nat} {P:Program}
def zm (F:Fence) (n:Nat) (P:Program) (gf:Nat) (lb:Array dx) (Bn:Nat) (N:Nat):Prop:=
 ∀(l:Nat) (J:Bs->Nat->cv->Prop) (W:cv),(∀d m b,J d m b->b.cell? ⟨Bn,0,Y⟩=X (.int .u64 m)/\b.frozen? ⟨Bn,0,Y⟩=false)->
  (∀d m (c:Nat) b,J d m b->J d c (b.setCell ⟨Bn,0,Y⟩ (.int .u64 c)))->
  (∀d m (g:Nat) b,g<128->J d m b->d.length<=9->YieldAt F (n - 1) P l #[.int ca g,c5 (decide (0<m))] b λe h=>e=c6 (c5 true)/\J (d++[gd (if 0<m then g+128 else g)]) m h)->
  J [] N W->CallsIn F n P gf (#[.func (.yield l) #[] #[]]++lb) W λe f=>(∃v,e=c6 v)/\J (numR N) 0 f
theorem qr {g:he} {ps:Array Tmp} {assign body:Code} {Q:Exit->Act->cv->Prop} {a:Act} {w:cv} (ad:F.round=Y) (L:1<=n) {gf:Nat} {lb:Array dx} {Bn N:Nat}
 (hg:a.eval g= .func (.func gf) #[] lb) (M:F.fn gf) (G:∀args w,(callFunc gf args).run P w= .ok (.enter gf args) w) (al:zm F (n - 1) P gf lb Bn N) (ac:ps.size=2)
 (I:Bs->Nat->cv->Prop) (k:xi w.heap.size I) (a1:∀d m b,I d m b->b.cell? ⟨Bn,0,Y⟩=X (J .u64 m)/\b.frozen? ⟨Bn,0,Y⟩=false)
 (ao:∀d m (r:Nat) b,I d m b->I d r (b.setCell ⟨Bn,0,Y⟩ (J .u64 r))) (au:Bn<w.heap.size) (H:I [] N w) (z:Nat->Bool->Act)
 (V:∀(l:Nat) (x:Nat) (t:Bool) (W:cv) (K:Act->cv->Prop),K (z x t) W->
  assign.wpIn (F.inRound l) (n - 1 - 1) P (Exit.then K (λ_ _ _=>False)) {tmps:=(ps.zip #[J ca (x:Int),c5 t]).foldl (λt (p,v)=>t.setIfInBounds p v) a.tmps,defers:=[]} W)
 (a0:∀(l:Nat) (d:Bs) (m x:Nat) (W:cv),x<128->I d m W->d.length<=9->body.wpIn (F.inRound l) (n - 1 - 1) P (BB I (d++[gd (if 0<m then x+128 else x)]) m W) (z x (decide (0<m))) W)
 (a2:∀(D:Nat) (W:cv),w.heap.size<=D->I (numR N) 0 W->W.heap[D]? =X (.deferred (X []))->Q .normal {a with defers:={target:= .collected D,args:= #[]}::a.defers} W):
 (Code.rangeFunc g ps assign body).wpIn F n P Q a w:=by
 refine wpIn_rangeFunc ?_;intro fn a4;rw [ad];obtain ⟨rec,h⟩:∃rec:LoopState->Loop,rec=λst=>{state:=st,pending:=Y,fn,tmps:=a.tmps,params:=ps,assign,body,defers:=w.heap.size}:=⟨_,rfl⟩;obtain ⟨c,q⟩:=Qe ((w.alloc (.deferred (X []))).alloc (.loop (rec .ready)));have T:c.heap[w.heap.size+1]? =X (.loop (rec .ready)):=by rw [<- q];have:=dd (w.alloc (.deferred (X []))) (.loop (rec .ready));rwa [gO] at this
 have R:c.heap[w.heap.size]? =X (.deferred (X [])):=by rw [<- q];exact (ex _ _ _ (by simp)).trans (dd w _)
 have O:I [] N c:=by rw [<- q];exact k.alloc (k.alloc H _) _
 refine ⟨w.heap.size+1,[{target:= .collected w.heap.size,args:= #[]}],c,{target:= .fn (.func gf) lb,args:= #[.func (.yield (w.heap.size+1)) #[] #[]]},c,gf,
  #[.func (.yield (w.heap.size+1)) #[] #[]]++lb,c,?_,?_,?_,?_,λ_=>L,?_⟩
 · rw [<- q,h];exact run_enterLoop_outer _ _ _ _ _
 · simp only [resolve,hg];simp [go_sem]
 · intro f' A;simp [Target.leads] at A;subst A;exact M
 · simp [invoke,go_sem,G]
 · refine (al (w.heap.size+1) (λd m W=>I d m W/\W.heap[w.heap.size+1]? =X (.loop (rec .ready))/\W.heap[w.heap.size]? =X (.deferred (X []))) c
    (λd m b i=>a1 d m b i.1) (λd m r b i=>⟨ao d m r b i.1,(dy _ _ _ _ (by simp;omega)).trans i.2.1,(dy _ _ _ _ (by simp;omega)).trans i.2.2⟩) ?_ ⟨O,T,R⟩).mono ?_
   · rintro d m x W i ⟨s,f,u⟩ a8;have a9:w.heap.size+1<W.heap.size:=(Array.getElem?_eq_some_iff.1 f).1;have E:=run_yield (P:=P) (args:= #[J ca (x:Int),c5 (decide (0<m))]) f (by rw [h];simp [ac]);rw [h] at E;refine ⟨fn,_,assign,body,E,roundIn_of_wpIn a4 (V _ x _ W _ ⟨_,run_beginRound f (by rw [h]),?_⟩)⟩;have a7:(W.putObj (w.heap.size+1) (.loop {rec .ready with state:= .busy})).heap[w.heap.size+1]? =X (.loop {rec .ready with state:= .busy}):=e7 a9;have a6:(W.putObj (w.heap.size+1) (.loop {rec .ready with state:= .busy})).heap[w.heap.size]? =X (.deferred (X [])):=(cd (by omega)).trans u;refine wpIn_mono (a0 _ d m x _ i (k.put s _ (by omega) _ _ f rfl) a8) ?_;rintro e a3 W3 j;cases e with
     |normal=> obtain ⟨C,a5⟩:=j;have y:=C.same _ _ a7 rfl;have hr:=run_endRound (P:=P) Y y;refine ⟨_,_,hr,rfl,k.put a5 _ (by omega) _ _ y rfl,?_,(cd (by omega)).trans (C.same _ _ a6 rfl)⟩;rw [e7 (Array.getElem?_eq_some_iff.1 y).1,h];rfl
     |ret=>exact j.elim
     |exit id=>exact j.elim
     |goto t=>exact j.elim
     |panic ch=>exact j.elim
     |outgrown=>exact j.elim
   · rintro e W2 ⟨⟨v,rfl⟩,s,f,u⟩;exact ⟨Y,_,by have:=run_endLoop (P:=P) f (by rw [h];simp);rw [h] at this;exact this,a2 _ _ (cc _) (k.put s _ (by omega) _ _ f rfl) ((cd (by omega)).trans u)⟩
end
def pB (W:cv) (Bn:Nat):Nat:=match W.cell? ⟨Bn,0,Y⟩ with
 |some (J _ z)=>z.toNat
 |_=>0
theorem tW (F:Fence) (n:Nat) (a0:F.fn 208) (a3:F.round=Y) (hn:1<=n) (Bn N:Nat) (hN:N<18446744073709551616):zm F n prog 208 #[c4 (X ⟨Bn,0,Y⟩)] Bn N:=by
 intro l H W A E z T;refine eQ func208 rfl a0 ?_ a3;simp only [ntmps208,cx,cg,cP,dr,dk,cq,cm,cy,cu,cz,cQ];have k:=Z A;have G:=Z E;have v:=Z z;clear A E z;gi_wp2
 gi_loopw [3] (λ_ wr=>∃(d:Bs) (m:Nat),Hid (H d m wr)/\Hid (d++numR m=numR N)/\m<18446744073709551616) (λ_ wr=>pB wr Bn)
 case atStart=>exact ⟨[],N,T,rfl,hN⟩
 case round=>
  obtain ⟨d,m,u,p,hm⟩:=hrel;obtain ⟨c1,f1⟩:=k d m wr u.o;obtain ⟨b,h⟩:∃b,b=m / 128:=⟨_,rfl⟩;obtain ⟨r,i⟩:∃r,r=m%128:=⟨_,rfl⟩;have D:r<128:=by omega
  have q:=Z (G d m b wr u.o);have e5:(m:Int).tmod 128=r:=by rw [g4 (by omega)];omega
  have O:(m:Int) / 128=b:=by omega
  have e2:IntKind.u8.wrap (r:Int)=r:=IntWalk.u8_in _ (by omega);have C:d.length<=9:=by have V:=congrArg List.length p.o;have h2:=gG N 9 (by omega);have h3:=po m;simp at V;omega
  have a1:pB wr Bn=m:=by unfold pB;rw [c1];simp
  by_cases hpos:0<b
  · have t:=Z (show numR m=gd (r+128)::numR b from by rw [h,i];exact jo (by omega));obtain ⟨fn,a4,L,M,j,f⟩:=v d b r _ D q.o C;simp only [hpos,decide_true] at j;have g:=Z f;have a2:b<m:=by omega
    have HM:=Z h;clear f i h;gi_wp2
    refine g.mono ?_;rintro e I ⟨rfl,c⟩;obtain ⟨x,R⟩:=k _ _ _ c;have s:=Z c;have a5:¬b=0:=by omega
    clear c;gi_wp2
    go_roundw
    case rel=> refine ⟨_,b,s,?_,by omega⟩;rw [if_pos hpos];show _=_;rw [<- p.o,t.o,dc];rfl
    case measure=> rw [a1];unfold pB;rw [x];simpa using a2
  · obtain rfl:b=0:=by omega
    have t:=Z (show numR m=[gd r] from by rw [i,fS (by omega)];congr 2;omega);obtain ⟨fn,a4,L,M,j,f⟩:=v d 0 r _ D q.o C;simp only [Nat.lt_irrefl,decide_false] at j;have g:=Z f;clear f i h hpos;rw [show ((0:Nat):Int)=0 from rfl] at O j g q;gi_wp2
    refine g.mono ?_;rintro e I ⟨rfl,c⟩;obtain ⟨x,R⟩:=k _ _ _ c;have s:=Z c;clear c;gi_wp2
    refine gp (gn rfl _ _ _) rfl ⟨⟨_,rfl⟩,?_⟩;have y:=s.o;rw [if_neg (Nat.lt_irrefl 0), <- t.o,p.o] at y;exact y
theorem wk (F:Fence) (n:Nat) (b:F.fn 162) (c:F.round=Y) (N:Nat) (w:cv):
 CallsIn F n prog 162 #[J .u64 N] w λe w'=>e=c6 (.func (.func 208) #[] #[c4 (X ⟨w.heap.size,0,Y⟩)])/\w'=w.alloc (c7 #[J .u64 N] 143):=by
 refine eQ func162 rfl b ?_ c;simp only [ntmps162,cx,cg,cP,dr,dk,cq,cm,cy,cu,cz,cQ];gi_wp2
 go_ret;exact ⟨rfl,rfl⟩
structure iC (w:cv) (Bn Bo:Nat) (d:Bs) (m:Nat) (W:cv):Prop where
 c:W.heap[Bn]? =some (.cells #[.int .u64 (m:Int)] 143 (0,0))
 o:∃v,Boxed W Bo 76 v/\W.ownsRow w.heap.size 5 1 v d.length (bv d)
 b:Bw w W
theorem iC.far {w i b:cv} {Bn f:Nat} {d:Bs} {m:Nat} (h:iC w Bn f d m i) (p:Bw w b) (e:∀(k:Nat) (o:Obj),i.heap[k]? =X o->o.isCells=true->b.heap[k]? =X o):iC w Bn f d m b:=by
 obtain ⟨v,r,l⟩:=h.o;refine ⟨e _ _ h.c rfl,⟨v,e _ _ r rfl,ag l (λg q=>?_)⟩,p⟩;obtain ⟨s,j⟩:=aA l q;rw [j];exact e _ _ j rfl
theorem iC.firm (w:cv) (Bn l B:Nat) (p:w.heap.size<=B):xi B (iC w Bn l):=by
 intro d m r s u h i j;refine h.far (h.b.grown i h.b.size (λk e=>em p (j k e).1)) (λk o f q=>?_);refine (i.block k (ae f) (λe=>?_)).trans f;obtain ⟨_,t,c,g⟩:=j k e.symm;rw [f] at c;injection c with c
 subst c;rw [q] at g;cases g
theorem iC.set {w j:cv} {Bn i:Nat} {d:Bs} {m:Nat} (h:iC w Bn i d m j) (r:i≠Bn) (p:w.heap.size<=Bn) (l:Nat):iC w Bn i d l (j.setCell ⟨Bn,0,Y⟩ (J .u64 l)):=by
 obtain ⟨v,s,k⟩:=h.o;refine ⟨(an h.c 0 _).trans rfl,⟨v,(dy _ _ _ _ r).trans s,ag k (λg q=>dy _ _ _ _ (λ(e:g=Bn)=>?_))⟩,h.b.setCell p _⟩;obtain ⟨t,f⟩:=aA k q;rw [e,h.c] at f;injection f with f
 injection f with _ f
 exact absurd f (by decide)
theorem ri {w W w1:cv} {Bn c m n:Nat} {v:dx} {i:List dx} {o:Obj} (h:W.heap[Bn]? =X (c7 #[J .u64 (m:Int)] 143 (0,0))) (g:W.ownsRow w.heap.size 5 1 v n i) (d:(W.alloc o).grownBy w1 v.ownBlock) (f:Bn≠c) (u:dx):
 (w1.setCell ⟨c,0,Y⟩ u).heap[Bn]? =X (c7 #[J .u64 (m:Int)] 143 (0,0)):=by
 rw [dy _ _ _ _ f,d.block Bn (by have:=ae h;simp;omega) (λe=>?_),ex _ _ _ (ae h)]
 · exact h
 · obtain ⟨j,b⟩:=aA g e.symm;rw [h] at b;injection b with b
   injection b with _ b
   exact absurd b (by decide)
theorem Bj:∀x:Fin 128,bits .or ca (x.val:Int) 128=((x.val+128:Nat):Int):=by decide
open Go.RowKit Go.Shelf
attribute [local go_sem] Oper.semAt_some
theorem vU (F:Fence) (n:Nat) (a7:F.fn 116) (a8:F.fn 162) (V:F.fn 208) (u:F.round=Y) (hn:3<=n) (N:Nat) (hN:N<18446744073709551616) (w:cv):
 CallsIn F n prog 116 #[J .u64 N] w λe w'=>e=c6 (S (numR N))/\Bw w w':=by
 have h1:1<=n:=by omega
 refine gz func116 rfl a7 ?_ u;simp only [ntmps116,cx,cg,cP,dr,dk,cq,cm,cy,cu,cz,cQ];gi_wp2_with (gi_at_call 162;refine (wk F (n - 1) a8 u _ _).mono ?_;rintro e w' ⟨rfl,rfl⟩)
 have bO:=Boxed.new w 76 (c9 Y 0 0);have a1:=dd (w.alloc (c7 #[c9 Y 0 0] 76)) (c7 #[J .u64 (N:Int)] 143);rw [gO] at a1;have a0:Bw w ((w.alloc (c7 #[c9 Y 0 0] 76)).alloc (c7 #[J .u64 (N:Int)] 143)):=((fs _ w).alloc (cc _) _).alloc (by simp) _
 refine qr u h1 (gf:=208) (lb:= #[c4 (X ⟨w.heap.size+1,0,Y⟩)]) rfl V (enters_of func208 (by kernel_rfl) rfl) (tW F (n - 1) V u (by omega) (w.heap.size+1) N hN) rfl
  (iC w (w.heap.size+1) w.heap.size) (iC.firm w _ _ _ a0.size) (λd m a5 h=>⟨by rw [aa h.c];rfl,ab h.c 0⟩) (λd m m' a5 h=>h.set (by omega) (by omega) m') (by simp) ⟨a1,⟨_,bO.alloc _,gs _ _ _ _⟩,a0⟩
  (λx t=>{tmps:= #[J .u64 N,undef, .string ⟨#[]⟩,c4 (X ⟨w.heap.size,0,Y⟩),J ca x,c5 t,J .u64 N, .func (.func 208) #[] #[c4 (X ⟨w.heap.size+1,0,Y⟩)],J ca x,c5 t,undef,undef,undef,undef,undef,undef,undef,undef,undef],defers:=[]}) ?assign ?body ?done
 case assign=>
  intro l x t W K s;gi_wp2
  exact s
 case body=>
  rintro l d m x W hx h ao;obtain ⟨z,O⟩:∃z,z=gd (if 0<m then x+128 else x):=⟨_,rfl⟩;rw [<- O];have T:=Z O;clear O;obtain ⟨v,q,j⟩:=h.o;have hc:=q.cell;have H:=Z h;obtain ⟨i0,hi,a2,a3,a4⟩:=info_parts i5;have f:=Z h.b;have i:=Z j;have R:=Z q;clear h j q;by_cases hm:0<m
  · obtain ⟨y,M⟩:∃y,y=x+128:=⟨_,rfl⟩;have e1:bits .or ca (x:Int) 128=(y:Int):=by rw [M];exact Bj ⟨x,hx⟩
    have HY:=Z M;clear M;gi_wp2_with (gi_at_builtin;refine wpListIn_append_own _ rfl _ _ 76 rfl w.heap.size 5 i0 (J ca 0) 1 1 underlying76 hi a2 a3 a4 rfl (by decide) _ _ _ rfl (i.o.alloc _) ⟨W.heap.size,0,Y⟩ 1 1 [J ca (y:Int)] rfl rfl (cell_one_new _ _ _) (by simp [gb]) (by unfold maxLen;omega) (by omega) (by have:=f.o.size;simp;omega) ?_;intro v' w1 p k _;obtain ⟨g',a6,rfl⟩:=g2 p;obtain ⟨r,L,I,E,A⟩:=R.o.appended (by decide) i.o f.o.size (cc _) p k;have a9:=r.cell;have ac:=r.frozen)
    have G:=ri H.c i.o k (Nat.succ_ne_self w.heap.size);refine ⟨E,⟨G _,⟨_,L,?_⟩,f.trans A⟩⟩;rw [cb,za];have C:z.toNat=y:=by rw [T.o,if_pos hm,HY.o];exact ofNat_toNat (by omega)
    simpa [bv,C] using I
  · obtain rfl:m=0:=by omega
    have au:decide (0<0)=false:=rfl;gi_wp2_with (gi_at_builtin;refine wpListIn_append_own _ rfl _ _ 76 rfl w.heap.size 5 i0 (J ca 0) 1 1 underlying76 hi a2 a3 a4 rfl (by decide) _ _ _ rfl (i.o.alloc _) ⟨W.heap.size,0,Y⟩ 1 1 [J ca (x:Int)] rfl rfl (cell_one_new _ _ _) (by simp [gb]) (by unfold maxLen;omega) (by omega) (by have:=f.o.size;simp;omega) ?_;intro v' w1 p k _;obtain ⟨g',a6,rfl⟩:=g2 p;obtain ⟨r,L,I,E,A⟩:=R.o.appended (by decide) i.o f.o.size (cc _) p k;have a9:=r.cell;have ac:=r.frozen)
    have G:=ri H.c i.o k (Nat.succ_ne_self w.heap.size);refine ⟨E,⟨G _,⟨_,L,?_⟩,f.trans A⟩⟩;rw [cb,za];have C:z.toNat=x:=by rw [T.o,if_neg (Nat.lt_irrefl 0)];exact ofNat_toNat (by omega)
    simpa [bv,C] using I
 case done=>
  rintro D W hD h s;obtain ⟨v,q,j⟩:=h.o;have hc:=q.cell;have al:(convert 76 9 v).run prog W= .ok (S (numR N)) W:=by
   rcases j.2 with ⟨rfl,hl⟩|⟨g,cp,ad,rfl,_⟩
   · exact absurd (fl hl) (rj N)
   · exact wN W ⟨g,0,Y⟩ _ _ (j.cells (g:=g) rfl)
  have f:=Z h.b;clear j h;gi_wp2
  refine ⟨by simp, .inl ⟨_,_,rfl,g5 s,?_⟩⟩;exact ⟨_,results_tmp rfl _ _ _,rfl,f.o.trans (belowK_b (w:=w) (cc _) W D _ _ (by simp at hD;omega) s rfl rfl)⟩
theorem fR (N:Nat) (b:N<18446744073709551616) (w:cv):gy prog 116 #[J .u64 N] w λe w'=>e=c6 (S (numR N))/\Bw w w':=
 callsIn_wide.1 (vU dz 3 trivial trivial trivial rfl (cc _) N b w)
end
section
open Go.RowKit Go.Shelf
theorem xm (a:Nat) (h:a<18446744073709551616):a^^^18446744073709551615=18446744073709551615 - a:=by
 apply Nat.eq_of_testBit_eq;intro i;have b:(18446744073709551615:Nat)=2^64 - 1:=rfl;have c:(18446744073709551615:Nat) - a=2^64 - (a+1):=by rw [b];omega
 rw [Nat.testBit_xor,c,Nat.testBit_two_pow_sub_succ (by simpa using h),b,Nat.testBit_two_pow_sub_one];by_cases hi:i<64
 · simp [hi]
 · have:a.testBit i=false:=Nat.testBit_lt_two_pow (gt h (by show 2^64<=2^i;exact Nat.pow_le_pow_right (by decide) (by omega)));simp [hi,this]
theorem vF (n:Int) (h:i64B n) (w:cv):gy prog 73 #[J U n] w λe w'=>e=c6 (J .u64 (bl n))/\w=w':=by
 unfold i64B at h;by_cases h0:0<=n
 · go_enter func73,ntmps73;go_wp2_with fail
   go_ret;refine ⟨congrArg Ending.returned (congrArg (cl .u64) (?_:2 * n=_)),rfl⟩;unfold bl;rw [if_pos h0];omega
 · go_enter func73,ntmps73;go_wp2_with fail
   go_ret;refine ⟨congrArg Ending.returned (congrArg (cl .u64) (?_:2 * (-1 - n)+1=_)),rfl⟩;unfold bl;rw [if_neg (by omega)];omega
theorem sZ (n:Int) (h:i64B n) (w:cv):gy prog 117 #[J U n] w λe w'=>e=c6 (J .u64 (bl n))/\w=w':=by
 have d:=h;unfold i64B at d;have key:bits BinOp.xor IntKind.u64 (IntKind.u64.wrap (IntKind.u64.wrap n * 2)) (IntKind.u64.wrap (n / 9223372036854775808))=(bl n:Int):=by
  unfold bl;simp only [IntKind.wrap_u64];by_cases h0:0<=n
  · rw [if_pos h0];have b:n / 9223372036854775808%18446744073709551616=((0:Nat):Int):=by omega
    have c:n%18446744073709551616 * 2%18446744073709551616=(((2 * n).toNat:Nat):Int):=by omega
    rw [b,c,bits_xor_u64_nat _ _ (by omega) (by decide),Nat.xor_zero]
  · rw [if_neg h0];have b:n / 9223372036854775808%18446744073709551616=((18446744073709551615:Nat):Int):=by omega
    have c:n%18446744073709551616 * 2%18446744073709551616=(((18446744073709551616+2 * n).toNat:Nat):Int):=by omega
    rw [b,c,bits_xor_u64_nat _ _ (by omega) (by decide),xm _ (by omega)];congr 1
    omega
 clear d;go_enter func117,ntmps117;go_wp2_with fail
 go_ret;exact ⟨rfl,rfl⟩
end
section
open Go.RowKit Go.Maps Go.Shelf
def intV (n:Int):dx:=J U n
def bsV (s:Bs):dx:=S s
theorem jg {lo g:Nat} {w:cv} {v:dx} {α:Type} {f:α->dx} {l:List α} (h:aF lo g w v l.length (l.map f)) (k:Nat) (i:k<l.length):
 ∃b c d,v=c9 (X ⟨b,c,Y⟩) l.length d/\b<g/\w.cell? ⟨b,c+k,Y⟩=X (f l[k]):=by
 obtain ⟨a,d,q,h⟩:=h;obtain ⟨b,c,p,_,j,m⟩:=h (λe=>by rw [List.map_eq_nil_iff] at e;subst e;simp at i);refine ⟨b,c,d,by rw [q,p],j,m k _ ?_⟩;rw [List.getElem?_map,e3 i];rfl
theorem jI {n:Int} (h:i64B n):bl n<18446744073709551616:=by
 unfold i64B at h;unfold bl;split<;>omega
theorem dE {n:Nat} (h:n<18446744073709551616):(numR n).length<=10:=gG n 9 (by omega)
theorem ik (l:List Int) (b:∀n∈l,i64B n):((l.flatMap λn=>numR (bl n))).length<=10 * l.length:=by
 induction l with
 |nil=>simp
 |cons a l ih=> rw [ft,cb,cg];have:=dE (jI (b a fp));have:=ih λn c=>b n (hd _ c);omega
theorem cN {α β:Type} (f:α->List β) (l:List α) (k:Nat) (h:k<l.length):(l.take (k+1)).flatMap f=(l.take k).flatMap f++f l[k]:=by
 rw [gx h,gi];simp
theorem ig (n:Nat) (h:n<=100000000000):IntKind.u64.wrap (n:Int)=(n:Int):=IntWalk.u64_in _ (by omega)
theorem pH (l:List Int) (v:dx) (w:cv) (h:aF 0 w.heap.size w v l.length (l.map intV)) (j:∀n∈l,i64B n) (hl:l.length<=100000):
 gy prog 36 #[v] w λe w'=>e=c6 (S (intsR l))/\Bw w w':=by
 have E:=Z h;have q:=Z j;have x:=ik l j;have N:=Z x;have D:=Z (hU l.length (by omega));have r:=Z (dE (n:=l.length) (by omega));have V:=ig l.length (by omega);obtain ⟨a,O,rfl,_⟩:=h;clear x j;go_enter func36,ntmps36;go_wp2_with (go_at_call 72;((with_reducible refine da (D.o _) ?_);rintro e w1 ⟨rfl,t⟩))
 have A:=Z t;clear t;go_loopw [3,4] (λs i wr=>∃(k:Nat) (c:Bs),k<=l.length/\i=J U k/\s=S c/\Hid (c=numR l.length++(l.take k).flatMap λn=>numR (bl n))/\c.length<=2000000/\Hid (Bw w wr)) (λ_ i _=>l.length - (intOf i).toNat)
 case atStart=>exact ⟨0,numR l.length,g0 _,rfl,rfl,by unfold Hid;simp,by have:=r.o;omega,A⟩
 case round=>
  obtain ⟨k,c,hk,rfl,rfl,p,a0,d⟩:=hrel;by_cases hlt:k<l.length
  · obtain ⟨b,a3,R,L,_,G⟩:=jg (E.kept (aP d.o (cc _))) k hlt;cases L;unfold intV at G;have m:=q _ (fy hlt);have f:Hid (c++numR (bl l[k])=numR l.length++(l.take (k+1)).flatMap λn=>numR (bl n)):=by unfold Hid;rw [cN _ _ _ hlt,p.o,dc]
    have g:(numR l.length++(l.take (k+1)).flatMap λn=>numR (bl n)).length<=1000010:=by have H:=ik (l.take (k+1)) (λn I=>q n (ha I));have W:=r.o;rw [cb];rw [List.length_take] at H;omega
    rw [<- f.o] at g;generalize l[k]=n at *;have z:=Z (vF n m);have y:=Z (hU (bl n) (jI m));generalize numR (bl n)=T at *;generalize bl n=sn at *;have a1:¬9223372036854775807<c.length+T.length:=by simp at g;omega
    have a2:c.length+T.length<=2000000:=by simp at g;omega
    clear g m
    go_wp2_with (first
     |(go_at_call 73;((with_reducible refine da (z.o _) ?_);rintro e M ⟨rfl,rfl⟩))
     |(go_at_call 72;((with_reducible refine da (y.o _) ?_);rintro e M ⟨rfl,u⟩;have C:=Z u;clear u)))
    go_roundw
    case rel=>exact ⟨k+1,_,by omega,by go_num,rfl,f,by simp;omega,d.o.trans (C.o.mono d.o.size)⟩
    case measure=>simp [intOf];omega
  · have f:Hid (c=intsR l):=by unfold Hid intsR;rw [p.o,e8 (by omega)]
    go_wp2_with fail
    go_ret;rw [f.o];exact ⟨rfl,d.o⟩
theorem pG (l:List Int) (v:dx) (w:cv) (h:aF 0 w.heap.size w v l.length (l.map intV)) (E:∀n∈l,i64B n) (hl:l.length<=100000):
 gy prog 63 #[v] w λe w'=>e=c6 (S (intsR l))/\Bw w w':=by
 have HS:=Z h;have z:=Z E;have HN:=Z (fR l.length (by omega));have s:=Z (dE (n:=l.length) (by omega));have e1:=ig l.length (by omega);obtain ⟨a,a7,rfl,_⟩:=h;clear E;have A:=Z (iq w w.heap.size (w.heap.size+1) rfl (by omega));go_enter func63,ntmps63
 go_wp2_with (first
  |(go_at_call 116;((with_reducible refine da (HN.o _) ?_);rintro e w1 ⟨rfl,q⟩;have M:w.heap.size+1<=w1.heap.size:=(by have:=q.size;simpa using this);have C:=Z (A.o.below q);have a2:=Z M;have R:=Z q;clear q M))
  |(go_at_call 112;((with_reducible refine da (dI (w.heap.size+1) w.heap.size Y [] (numR l.length) w1 C.o a2.o (by have:=s.o;simp;omega)) ?_);rintro e x ⟨rfl,g1,I,a5,L⟩;have W:=Z I;have a1:=Z L;clear I a5 L)))
 have a0:Hid (Bw w x):=(aL w _).trans ((R.o.mono (by simp)).trans (C.o.fr a1.o (cc _)));clear A;go_loopw [13] (λi wr=>∃(k:Nat) (c:Bs) (g:Option Nat),k<=l.length/\i=J U k/\Hid (c=numR l.length++(l.take k).flatMap λn=>numR (bl n))/\c.length<=2000000/\Hid (Bld (w.heap.size+1) w.heap.size g c wr)/\Hid (Bw w wr)) (λi _=>l.length - (intOf i).toNat)
 case atStart=>exact ⟨0,numR l.length,g1,g0 _,rfl,by unfold Hid;simp,by have:=s.o;omega,W,a0⟩
 case round=>
  obtain ⟨k,c,g,hk,rfl,y,a4,d,m⟩:=hrel;by_cases hlt:k<l.length
  · obtain ⟨b,ac,a8,hv,_,e0⟩:=jg (HS.kept (aP m.o (cc _))) k hlt;cases hv;unfold intV at e0;have t:=z _ (fy hlt);have p:Hid (c++numR (bl l[k])=numR l.length++(l.take (k+1)).flatMap λn=>numR (bl n)):=by unfold Hid;rw [cN _ _ _ hlt,y.o,dc]
    have u:(numR l.length++(l.take (k+1)).flatMap λn=>numR (bl n)).length<=1000010:=by have h1:=ik (l.take (k+1)) (λn hn=>z n (ha hn));have h2:=s.o;rw [cb];rw [List.length_take] at h1;omega
    rw [<- p.o] at u;generalize l[k]=n at *;have O:=Z (sZ n t);have N:=Z (fR (bl n) (jI t));generalize numR (bl n)=T at *;generalize bl n=sn at *;have D:Hid (c.length+T.length<=2000000):=by unfold Hid;simp at u;omega
    have a3:Hid (w.heap.size+1<=wr.heap.size):=by have:=d.o.old;unfold Hid;omega
    clear u t
    go_wp2_with (first
     |(go_at_call 117;((with_reducible refine da (O.o _) ?_);rintro e x ⟨rfl,rfl⟩))
     |(go_at_call 116;((with_reducible refine da (N.o _) ?_);rintro e x ⟨rfl,G⟩;have j:=Z G;clear G))
     |(go_at_call 112;((with_reducible refine da (dI (w.heap.size+1) w.heap.size g c T _ (d.o.below j.o) (em a3.o j.o.size) (by have:=D.o;omega)) ?_);rintro e w3 ⟨rfl,g3,H,a6,f⟩;have V:=Z H;have r:=Z f;clear H a6 f)))
    go_roundw
    case rel=>exact ⟨k+1,c++T,g3,by omega,by go_num,p,by have:=D.o;simp;omega,V,m.o.trans ((j.o.mono m.o.size).trans ((d.o.below j.o).fr r.o (cc _)))⟩
    case measure=>simp [intOf];omega
  · have p:Hid (intsR l=c):=by unfold Hid intsR;rw [y.o,e8 (by omega)]
    have a9:=a4;go_wp2_with (go_at_call 115;((with_reducible refine da (dX (w.heap.size+1) w.heap.size g c _ d.o (by omega)) ?_);rintro e w3 ⟨rfl,f⟩;have r:=Z (f.fr w.heap.size);clear f))
    go_ret;rw [p.o];exact ⟨rfl,m.trans (d.fr r.o (cc _))⟩
def co (s:Bs):Bs:=numR s.length++s
theorem pl (l:List Bs):packR l=numR l.length++l.flatMap co:=rfl
theorem uJ (l:List Bs) (v:dx) (w:cv) (h:aF 0 w.heap.size w v l.length (l.map bsV)) (t:∀s∈l,s.length<=10000000000) (hl:l.length<=100000) (z:(l.flatMap co).length<=10000000000):
 gy prog 38 #[v] w λe w'=>e=c6 (S (packR l))/\Bw w w':=by
 have I:=Z h;have C:=Z t;have L:=Z z;have H:=Z (hU l.length (by omega));have p:=Z (dE (n:=l.length) (by omega));have e1:=ig l.length (by omega);obtain ⟨a,V,rfl,_⟩:=h;clear t z;go_enter func38,ntmps38;go_wp2_with (go_at_call 72;((with_reducible refine da (H.o _) ?_);rintro e w1 ⟨rfl,u⟩))
 have D:=Z u;clear u;go_loopw [3,4] (λs i wr=>∃(k:Nat) (c:Bs),k<=l.length/\i=J U k/\s=S c/\Hid (c=numR l.length++(l.take k).flatMap co)/\c.length<=20000000000/\Hid (Bw w wr)) (λ_ i _=>l.length - (intOf i).toNat)
 case atStart=>exact ⟨0,numR l.length,g0 _,rfl,rfl,by unfold Hid;simp,by have:=p.o;omega,D⟩
 case round=>
  obtain ⟨k,c,hk,rfl,rfl,m,a1,f⟩:=hrel;by_cases hlt:k<l.length
  · obtain ⟨b,N,W,M,a2,q⟩:=jg (I.kept (aP f.o (cc _))) k hlt;cases M;unfold bsV at q;have x:=C _ (fy hlt);have d:Hid (c++co l[k]=numR l.length++(l.take (k+1)).flatMap co):=by unfold Hid;rw [cN _ _ _ hlt,m.o,dc]
    have j:(numR l.length++(l.take (k+1)).flatMap co).length<=10000000010:=by
     have h1:((l.take (k+1)).flatMap co).length<=(l.flatMap co).length:=by have:=congrArg (λl=>(l.flatMap co).length) (g9 (k+1) l);simp only [gi,cb] at this;omega
     have h2:=p.o;have h3:=L.o;rw [cb];omega
    rw [<- d.o] at j;generalize l[k]=s at *;have e2:=ig s.length (by omega);have A:=Z (hU s.length (by omega));have y:c.length+((numR s.length).length+s.length)<=10000000010:=by simpa [co] using j
    have r:c++co s=c++((numR s.length)++s):=rfl;rw [r] at d;clear r j;generalize numR s.length=T at *;have a3:¬9223372036854775807<c.length+T.length:=by omega
    have a4:¬9223372036854775807<c.length+(T.length+s.length):=by omega
    have G:=Z y;have R:=Z x;clear x y;go_wp2_with fail
    go_region_with (go_at_call 72;((with_reducible refine da (A.o _) ?_);rintro e O ⟨rfl,g⟩;have a0:O.cell? ⟨b,N+k,Y⟩=X (S s):=(ep g _ _ q);have E:=Z g;clear g))
    all_goals
     go_wp2_with fail
     go_roundw
     case rel=>exact ⟨k+1,_,by omega,by go_num,rfl,d,by have:=G.o;simp;omega,f.o.trans ((fs _ wr).drew.trans E.o |>.mono f.o.size)⟩
     case measure=>simp [intOf];omega
  · have d:Hid (c=packR l):=by unfold Hid;rw [pl,m.o,e8 (by omega)]
    go_wp2_with fail
    go_ret;rw [d.o];exact ⟨rfl,f.o⟩
theorem uI (l:List Bs) (v:dx) (w:cv) (h:aF 0 w.heap.size w v l.length (l.map bsV)) (D:∀s∈l,s.length<=10000000000) (hl:l.length<=100000) (M:(l.flatMap co).length<=10000000000):
 gy prog 68 #[v] w λe w'=>e=c6 (S (packR l))/\Bw w w':=by
 have HS:=Z h;have V:=Z D;have HN:=Z (fR l.length (by omega));have t:=Z (dE (n:=l.length) (by omega));have e1:=ig l.length (by omega);obtain ⟨a,ac,rfl,_⟩:=h;have HT:=Z M;clear D M;have y:=Z (iq w w.heap.size (w.heap.size+1) rfl (by omega));go_enter func68,ntmps68
 go_wp2_with (first
  |(go_at_call 116;((with_reducible refine da (HN.o _) ?_);rintro e w1 ⟨rfl,q⟩;have N:w.heap.size+1<=w1.heap.size:=(by have:=q.size;simpa using this);have z:=Z (y.o.below q);have a4:=Z N;have W:=Z q;clear q N))
  |(go_at_call 112;((with_reducible refine da (dI (w.heap.size+1) w.heap.size Y [] (numR l.length) w1 z.o a4.o (by have:=t.o;simp;omega)) ?_);rintro e O ⟨rfl,g1,H,a8,I⟩;have a1:=Z H;have a3:=Z I;clear H a8 I)))
 have a2:Hid (Bw w O):=(aL w _).trans ((W.o.mono (by simp)).trans (z.o.fr a3.o (cc _)));clear y;go_loopw [13] (λi wr=>∃(k:Nat) (c:Bs) (g:Option Nat),k<=l.length/\i=J U k/\Hid (c=numR l.length++(l.take k).flatMap co)/\c.length<=20000000000/\Hid (Bld (w.heap.size+1) w.heap.size g c wr)/\Hid (Bw w wr)) (λi _=>l.length - (intOf i).toNat)
 case atStart=>exact ⟨0,numR l.length,g1,g0 _,rfl,by unfold Hid;simp,by have:=t.o;omega,a1,a2⟩
 case round=>
  obtain ⟨k,c,g,hk,rfl,x,a6,d,p⟩:=hrel;by_cases hlt:k<l.length
  · obtain ⟨b,au,ad,hv,_,e0⟩:=jg (HS.kept (aP p.o (cc _))) k hlt;cases hv;unfold bsV at e0;have a7:=V _ (fy hlt);have f:Hid (c++co l[k]=numR l.length++(l.take (k+1)).flatMap co):=by unfold Hid;rw [cN _ _ _ hlt,x.o,dc]
    have u:(numR l.length++(l.take (k+1)).flatMap co).length<=10000000010:=by
     have h1:((l.take (k+1)).flatMap co).length<=(l.flatMap co).length:=by have:=congrArg (λl=>(l.flatMap co).length) (g9 (k+1) l);simp only [gi,cb] at this;omega
     have h2:=t.o;have h3:=HT.o;rw [cb];omega
    rw [<- f.o] at u;generalize l[k]=s at *;have e2:=ig s.length (by omega);have R:=Z (fR s.length (by omega));have L:c.length+((numR s.length).length+s.length)<=10000000010:=by simpa [co] using u
    have C:c++co s=c++((numR s.length)++s):=rfl;rw [C] at f;clear C u;generalize numR s.length=T at *;have ao:¬9223372036854775807<T.length+s.length:=by omega
    have A:=Z L;have a5:Hid (w.heap.size+1<=wr.heap.size):=by have:=d.o.old;unfold Hid;omega
    clear a7 L
    go_wp2_with (first
     |(go_at_call 116;((with_reducible refine da (R.o _) ?_);rintro e O ⟨rfl,E⟩;have m:=Z E;clear E))
     |(go_at_call 112;((with_reducible refine da (dI (w.heap.size+1) w.heap.size g c (T++s) _ (d.o.below m.o) (em a5.o m.o.size) (by have:=A.o;simp;omega)) ?_);rintro e w3 ⟨rfl,g3,G,a9,j⟩;have a0:=Z G;have r:=Z j;clear G a9 j)))
    go_roundw
    case rel=>exact ⟨k+1,c++(T++s),g3,by omega,by go_num,f,by have:=A.o;simp;omega,a0,p.o.trans ((m.o.mono p.o.size).trans ((d.o.below m.o).fr r.o (cc _)))⟩
    case measure=>simp [intOf];omega
  · have f:Hid (packR l=c):=by unfold Hid;rw [pl,x.o,e8 (by omega)]
    have al:=a6;go_wp2_with (go_at_call 115;((with_reducible refine da (dX (w.heap.size+1) w.heap.size g c _ d.o (by omega)) ?_);rintro e w3 ⟨rfl,j⟩;have r:=Z (j.fr w.heap.size);clear j))
    go_ret;rw [f.o];exact ⟨rfl,p.trans (d.fr r.o (cc _))⟩
def verS (p:RK×(Int×az)):List Bs:=[intsR [p.1.1,p.1.2,p.2.1],(aV p.2.2).1]
def dropI (p:RK×Int):List Int:=[p.1.1,p.1.2,p.2]
def decI (p:PK×(Int×Bool)):List Int:=[p.1.1.1,p.1.1.2,p.1.2.1,p.1.2.2,p.2.1,if p.2.2 then 1 else 0]
def encR (d:aE):Bs:=packR [packR (d.vs.flatMap verS),intsR (d.ds.flatMap dropI),intsR (d.ps.flatMap decI)]
theorem oY {k:RK} (h:rkOk k):i64B k.1/\i64B k.2:=by
 obtain ⟨b,c⟩:=h;exact ⟨b,c⟩
theorem lU (l:List Int) (b:∀n∈l,i64B n) (e:l.length<=100000):(intsR l).length<=10 * l.length+10:=by
 have c:=ik l b;have d:=dE (n:=l.length) (by omega);unfold intsR;rw [cb];omega
theorem rf (s:Bs) (h:s.length<=10000000000):(co s).length<=s.length+10:=by
 have b:=dE (n:=s.length) (by omega);unfold co;rw [cb];omega
theorem dP {α β:Type} (f:α->List β) (K:Nat) (l:List α) (h:∀a∈l,(f a).length<=K):(l.flatMap f).length<=l.length * K:=by
 induction l with
 |nil=>simp
 |cons a l ih=> rw [ft,cb,cg,Nat.succ_mul];have:=h a fp;have:=ih λx b=>h x (hd _ b);omega
theorem xt {p:RK×(Int×az)} (h:wrongR p.2.2=0) (d:rkOk p.1) (i:i64B p.2.1):∀s∈verS p,s.length<=99999:=by
 intro s c;obtain ⟨f,g⟩:=oY d;simp only [verS,e6,er,or_false] at c;rcases c with rfl|rfl
 · have:=lU [p.1.1,p.1.2,p.2.1] (λn b=>by simp only [e6,er,or_false] at b;rcases b with rfl|rfl|rfl<;>assumption) (by simp);simp at this;omega
 · have e:aV p.2.2=(fJ p.2.2,0):=if_pos h;rw [e];exact (oq h).2
structure B0 (d:aE):Prop where
 vs:∀s∈d.vs.flatMap verS,s.length<=99999
 vn:(d.vs.flatMap verS).length<=10000
 vt:((d.vs.flatMap verS).flatMap co).length<=1100000000
 di:∀n∈d.ds.flatMap dropI,i64B n
 dn:(d.ds.flatMap dropI).length<=15000
 pi:∀n∈d.ps.flatMap decI,i64B n
 pn:(d.ps.flatMap decI).length<=30000
 l3:∀s∈[packR (d.vs.flatMap verS),intsR (d.ds.flatMap dropI),intsR (d.ps.flatMap decI)],s.length<=10000000000
 t3:([packR (d.vs.flatMap verS),intsR (d.ds.flatMap dropI),intsR (d.ps.flatMap decI)].flatMap co).length<=10000000000
theorem yG {d:aE} (h:bf d):B0 d:=by
 have j:∀s∈d.vs.flatMap verS,s.length<=99999:=λs b=>by obtain ⟨p,e,b⟩:=List.mem_flatMap.1 b;exact xt (h.right p e) (h.vkey p e) (h.vnum p e) s b
 have l:(d.vs.flatMap verS).length<=10000:=by have:=dP verS 2 d.vs (λa _=>cc _);have:=h.vlen;omega
 have r:((d.vs.flatMap verS).flatMap co).length<=1100000000:=by have f:=dP co 100009 (d.vs.flatMap verS) (λs b=>by have:=j s b;have:=rf s (by omega);omega);have m:=Nat.mul_le_mul_right 100009 l;omega
 have f:∀n∈d.ds.flatMap dropI,i64B n:=λn c=>by obtain ⟨p,e,c⟩:=List.mem_flatMap.1 c;obtain ⟨g,i⟩:=oY (h.dkey p e);have u:=h.dnum p e;simp only [dropI,e6,er,or_false] at c;rcases c with rfl|rfl|rfl<;>assumption
 have m:(d.ds.flatMap dropI).length<=15000:=by have:=dP dropI 3 d.ds (λa _=>cc _);have:=h.dlen;omega
 have q:∀n∈d.ps.flatMap decI,i64B n:=λn c=>by
  obtain ⟨p,e,c⟩:=List.mem_flatMap.1 c;obtain ⟨g,i⟩:=h.pkey p e;obtain ⟨g,u⟩:=oY g;obtain ⟨i,z⟩:=oY i;have A:=h.pnum p e;simp only [decI,e6,er,or_false] at c;rcases c with rfl|rfl|rfl|rfl|rfl|rfl
  · assumption
  · assumption
  · assumption
  · assumption
  · assumption
  · unfold i64B;split<;>decide
 have t:(d.ps.flatMap decI).length<=30000:=by have:=dP decI 6 d.ps (λa _=>cc _);have:=h.plen;omega
 have x:(packR (d.vs.flatMap verS)).length<=1100000010:=by have:=dE (n:=(d.vs.flatMap verS).length) (by omega);rw [pl,cb];omega
 have y:=lU _ f (by omega);have v:=lU _ q (by omega);have k:∀s∈[packR (d.vs.flatMap verS),intsR (d.ds.flatMap dropI),intsR (d.ps.flatMap decI)],s.length<=1100000010:=λs b=>by simp only [e6,er,or_false] at b;rcases b with rfl|rfl|rfl<;>omega
 refine ⟨j,l,r,f,m,q,t,λs b=>em (k s b) (by omega),?_⟩;have:=dP co 1100000020 [packR (d.vs.flatMap verS),intsR (d.ds.flatMap dropI),intsR (d.ps.flatMap decI)] (λs b=>by have:=k s b;have:=rf s (by omega);omega);simp only [cg,cP] at this;omega
end
end Go.Proofs.YtjcimanddakkaaaGreatDoor
