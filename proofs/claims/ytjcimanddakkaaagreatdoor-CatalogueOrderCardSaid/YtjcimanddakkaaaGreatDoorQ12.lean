/- Lemmas. -/
import Derived.Test.YtjcimanddakkaaaGreatDoorQ4
import Derived.Test.YtjcimanddakkaaaGreatDoorQ11
set_option maxRecDepth 100000
set_option maxHeartbeats 8000000
namespace Go.Proofs.YtjcimanddakkaaaGreatDoor
open _root_.Option renaming none→Y,some→X
open Go.Value renaming map→c3,pointer→c4,bool→c5,int→J,slice→c9
open Go.IntKind renaming i64→U,u8→ca
open Go.Lib renaming hid→Z
open Go.Ending renaming returned→c6
open Go.Obj renaming cells→c7
open Tryz
open _root_.Nat renaming le_refl→cb,reduceSub→dc,reduceAdd→dd,le_trans→ex,lt_of_lt_of_le→gp,add_assoc→g2,zero_le→g8
open _root_.List renaming length_append→cc,length_cons→cl,append_toArray→cu,size_toArray→cx,push_toArray→cy,nil_append→cz,length_nil→cP,cons_append→cQ,take_succ_eq_append_getElem→da,append_assoc→dx,take_of_length_le→dy,not_mem_nil→ee,length_pos_of_mem→e3,getElem?_eq_getElem→e7,mem_cons→e8,eq_nil_of_length_eq_zero→fp,length_map→fs,mem_cons_self→ft,flatMap_cons→fy,map_cons→gi,getElem_mem→gx,mem_cons_of_mem→g5,flatMap_append→g6,mem_singleton→g9
open Go.World renaming putObj_heap_other→cd,alloc_heap_new→dk,putObj_heap_same→e9,ownsRow_nil→gn,size_alloc→gs
open Go.Value renaming int→cg,ownBlock→fc,oneCell'→gc
open _root_.Array renaming replicate_zero→cm,replicate_succ→cq,getElem?_eq_none→gQ
open Go renaming World→cv,Value→dp,callsIn_of_wp→e4,results_none→fz,bodyPost_ret→gb,callsIn_of_wp_marks→gq,KeepsOthers→gt,Calls→gy,ownsRow_succ→gO,run_takeDeferred→gP,grownBy_putObj'→g0,Operand→g7
open Go.Fence renaming wide→dz
open Go.RowKit.Below renaming heap_setCell→ej,heap_alloc→e6,refl→fx
open Go.Calls renaming mono→em
open _root_.Bool renaming not_eq_true'→er
open Go.KeepsOthers renaming alloc→eQ
open Go.Obj renaming cells→fl
open _root_.UInt8 renaming ofNat→gd
open Go.Result renaming andThen→gz
open Go.WideAt renaming sameKey_self→g4
section
open Go.RowKit Go.Maps Go.Shelf Go.WideShapes
attribute [local go_sem] Oper.semAt_some
set_option linter.unusedSectionVars false
section
variable {P:Program} {kt:TypeId} {K:Type} [DecidableEq K] {B:ez P kt K} {F:Fence} {nF:Nat}
variable (w:cv) {ops:Array Oper} {rest:List Oper} {o:Oper} {a:Act} {Q:Exit->Act->cv->Prop}
theorem qP (y:o.guard=Y) (m:g7) (t:TypeId) (D:o.op=Op.range t m) (e:TypeId) (G:P.underlying t=X (.map kt e))
 (b:Nat) (l:List (K×dp)) (C:a.eval m=c3 (X b)) (h:ak B w b l)
 (x:∀w',ct B w' b w.heap.size l l->Bw w w'->w'.heap.size=w.heap.size+1->wpListIn F nF P ops Q rest (a.put o.dst (c4 (X ⟨w.heap.size,0,Y⟩))) w'):wpListIn F nF P ops Q (o::rest) a w:=by
 have i:=h.nodup;obtain ⟨s,h1,f,g⟩:=h;refine wpListIn_range_own w y m t D kt e B.keyed G heldR b _ _ C h1 λw' u c v=>x w' ⟨s,_,_,u,f,g,List.Sublist.refl _,λp d=>?_,λz j=>?_⟩ ⟨c.os,c.tape,c.output,c.size,λk A=>c.block k A (by simp)⟩ v
 · refine ⟨λ_=>d,λ_=>?_⟩;exact Maps.has_true_of_atKey λz=>ak.at_some h1 f i (g p d) ((bl i).2 d) z
 · rw [Maps.has_eq,List.any_eq_true] at j;obtain ⟨q,E,e⟩:=j;obtain ⟨p,d,r⟩:=List.mem_map.1 (f.mem_iff.1 E);exact ⟨p,d,by rw [<- WideAt.sameKey_eq e, <- r]⟩
theorem tq (hg:o.guard=Y) (M:g7) (ac:o.op=Op.next M false) (b r:Nat) (l left:List (K×dp)) (a8:a.eval M=c4 (X ⟨r,0,Y⟩)) (h:ct B w b r l left)
 (a4:left=[]->wpListIn F nF P ops Q rest (a.put o.dst (.tuple #[c5 false])) w)
 (a5:∀(p:K×dp) (w':cv),p∈left->B.ok p.1->ct B w' b r l (cn left p.1)->(cn left p.1).length<left.length->aw r w w'->
  (Instr.entry (c4 (X ⟨r,0,Y⟩))).run P w'= .ok (.tuple #[B.kv p.1,p.2]) w'->wpListIn F nF P ops Q rest (a.put o.dst (.tuple #[c5 true,B.kv p.1,p.2])) w'):
 wpListIn F nF P ops Q (o::rest) a w:=by
 have g:=h.map.nodup;obtain ⟨es,f,a0,h1,N,G,u,O,R⟩:=h;refine wpListIn_next_ranges w hg M ac kt B.keyed heldR (λv:dp=>v) (λv:dp=>v) (λkey W _=>⟨key,rfl⟩) (λv y _=>⟨v,rfl⟩) b r _ _ f a0 a8 h1 (λh0 hl=>a4 ?_) λx c W y w' a3 I a9 V a6 ad au A al a7=>?_
 · rcases left with _|⟨p,left⟩
   · rfl
   · have:=(O p (u.subset ft)).2 ft;rw [hl] at this;cases this
 · obtain ⟨p,i,e⟩:=R W a9;have L:=u.subset i;have C:=G p L;have ao:x=B.kv p.1:=B.keyed.inj I (by rw [<- e];exact B.key _ C);have hc:p.2=c:=by have H:=a6 (.held undef);rw [<- e,ak.at_some h1.owns N g C ((bl g (k:=p.1) (v:=p.2)).2 L)] at H;simp only [heldR,Option.some.injEq] at V;rw [<- V] at H;injection H
   have T:(left.map (·.1)).Nodup:=g.sublist (u.map _);subst ao;subst hc;refine a5 p w' i C ⟨es,_,a3,ad,N,G,(List.filter_sublist).trans u,λq j=>?_,λz D=>?_⟩ (zI i) ⟨A.os,A.tape,A.output,al,λk hk=>?_⟩ a7
   · rw [iy T i, <- O q j];simp only [Bool.and_eq_true,er];constructor
     · rintro ⟨E,t⟩;refine ⟨E,λd=>?_⟩;rw [d,e,g4 (B.keyed.key I)] at t;cases t
     · rintro ⟨E,t⟩;refine ⟨E,Maps.sameKey_ne λd=>t ?_⟩;rw [<- e] at d;have s:=B.lit_inj (G q j) C d;have m:=(bl g (k:=q.1) (v:=q.2)).2 j;have a2:=(bl g (k:=p.1) (v:=p.2)).2 L;rw [s,a2] at m;injection m with m
       exact Prod.ext s m.symm
   · simp only [Bool.and_eq_true,er] at D;obtain ⟨q,j,d⟩:=R z D.1;refine ⟨q,(iy T i).2 ⟨j,λs=>?_⟩,d⟩;rw [<- d,s,e,g4 (B.keyed.key I)] at D;cases D.2
   · by_cases hk2:k<w.heap.size
     · exact A.block k hk2 (by simpa using hk)
     · rw [gQ (by omega),gQ (by omega)]
theorem lh (a b:Int):recB.kv (a,b)= .agg #[J U a,J U b]:=rfl
theorem yP (a b c d:Int):pairB.kv ((a,b),(c,d))= .agg #[J U a,J U b,J U c,J U d]:=rfl
def dE (B:ez P kt K) (w:cv) (mv:Option Nat) (r:Nat) (l left:List (K×dp)):Prop:=match mv with
 |none=>l=[]/\left=[]/\w.heap[r]? =X (.mapIter Y 0 #[] 0)
 |some b=>ct B w b r l left
theorem dE.lt {w:cv} {mv:Option Nat} {r:Nat} {l left:List (K×dp)} (h:dE B w mv r l left):r<w.heap.size:=by
 cases mv with
 |none=>exact ae h.2.2
 |some b=>exact ct.lt h
theorem dE.kept {w w':cv} {mv:Option Nat} {r:Nat} {l left:List (K×dp)} (h:dE B w mv r l left) (c:gt w w'):dE B w' mv r l left:=by
 cases mv with
 |none=>exact ⟨h.1,h.2.1,c.same r _ h.2.2 rfl⟩
 |some b=> have h:ct B w b r l left:=h;obtain ⟨i,f,e,⟨g,c1,u,v,d,j,k,m,p,q,s⟩,t⟩:=h;exact ⟨i,f,e,⟨g,c1,u,v,d,c.same b _ j rfl,k,m,p,c.same r _ q rfl,s⟩,t⟩
theorem dE.nodup {w:cv} {mv:Option Nat} {r:Nat} {l left:List (K×dp)} (h:dE B w mv r l left):(left.map (·.1)).Nodup:=by
 cases mv with
 |none=> obtain ⟨_,c,_⟩:=h;subst c;exact List.nodup_nil
 |some b=> have h:ct B w b r l left:=h;have e:=h.map.nodup;obtain ⟨i,f,g,h1,c,j,d,_⟩:=h;exact e.sublist (d.map _)
theorem gS {l:List (K×dp)} (b:(l.map (·.1)).Nodup) {k:K} {v:dp} (c:(k,v)∈l):([k]++(cn l k).map (·.1)).Perm (l.map (·.1)):=by
 induction l with
 |nil=>cases c
 |cons p l ih=>
  rw [gi,List.nodup_cons] at b;unfold cn at ih ⊢;rw [List.filter_cons];by_cases e:p.1=k
  · rw [if_neg (by simp [e])];have:l.filter (λq=> !decide (q.1=k))=l:=by rw [List.filter_eq_self];intro q g;simp only [er,decide_eq_false_iff_not];intro d;exact b.1 (by rw [e, <- d];exact List.mem_map.2 ⟨q,g,rfl⟩)
    rw [this,gi,e];exact .refl _
  · rw [if_pos (by simp [e]),gi,gi];have f:(k,v)∈l:=by
     rcases List.mem_cons.1 c with h|h
     · exact absurd (by rw [<- h]) e
     · exact h
    exact (List.Perm.swap _ _ _).trans ((ih b.2 f).cons _)
theorem ek (g:o.guard=Y) (m:g7) (t:TypeId) (d:o.op=Op.range t m) (e:TypeId) (j:P.underlying t=X (.map kt e))
 (mv:Option Nat) (l:List (K×dp)) (i:a.eval m= .map mv) (h:bQ B w mv l)
 (f:∀w',dE B w' mv w.heap.size l l->Bw w w'->w'.heap.size=w.heap.size+1->wpListIn F nF P ops Q rest (a.put o.dst (c4 (X ⟨w.heap.size,0,Y⟩))) w'):wpListIn F nF P ops Q (o::rest) a w:=by
 cases mv with
 |some b=>exact qP w g m t d e j b l i h f
 |none=> have h:l=[]:=h;subst h;refine wpListIn_plain g λr k=>?_;unfold Oper.wpIn;refine ⟨by simp [Oper.about,d],?_⟩;rw [Oper.semAt_plain F _ _ (by rw [d];intro c q;cases q)];have p:Bw w (w.alloc (.mapIter Y 0 #[] 0)):=(fx _ w).alloc (cb _) _;have:=f (w.alloc (.mapIter Y 0 #[] 0)) ⟨rfl,rfl,dk w _⟩ p (by simp);simp [execOp,d,i,Instr.range,run_underlying j,gz];exact k _ _ this
theorem eT (g:o.guard=Y) (e:g7) (d:o.op=Op.next e false) (mv:Option Nat) (r:Nat) (l left:List (K×dp)) (i:a.eval e=c4 (X ⟨r,0,Y⟩)) (h:dE B w mv r l left)
 (f:left=[]->wpListIn F nF P ops Q rest (a.put o.dst (.tuple #[c5 false])) w)
 (k:∀(p:K×dp) (w':cv),p∈left->B.ok p.1->dE B w' mv r l (cn left p.1)->(cn left p.1).length<left.length->aw r w w'->
  (Instr.entry (c4 (X ⟨r,0,Y⟩))).run P w'= .ok (.tuple #[B.kv p.1,p.2]) w'->wpListIn F nF P ops Q rest (a.put o.dst (.tuple #[c5 true,B.kv p.1,p.2])) w'):
 wpListIn F nF P ops Q (o::rest) a w:=by
 cases mv with
 |some b=>exact tq w g e d b r l left i h f k
 |none=>
  obtain ⟨_,s,t⟩:=h;refine wpListIn_plain g λv j=>?_;unfold Oper.wpIn;refine ⟨by simp [Oper.about,d],?_⟩;rw [Oper.semAt_plain F _ _ (by rw [d];intro c m;cases m)];have u:(Instr.next (c4 (X ⟨r,0,Y⟩)) false o.type).run P w= .ok (.tuple #[c5 false]) w:=by
   have q:(getObj r).run P w= .ok (.mapIter Y 0 #[] 0) w:=by simp [getObj,Sem.run,t]
   simp [Instr.next,q,gz]
  simp [execOp,d,i,u,gz];exact j _ _ (f s)
end
theorem zf (n:Nat) (hn:1<=n) (q:Nat) (mv:Option Nat) (l:List (RK×dp)) (r:cv) (A:r.cell? ⟨q,0,Y⟩=X (.map mv)) (M:bQ recB r mv l) (al:∀b,mv=X b->b<r.heap.size):
 iE dz n prog 89 #[c4 (X ⟨q,0,Y⟩)] (λx:RK=> #[recK x]) (λxs=>xs.Perm (l.map (·.1))) (λ_=>True) (λd x=>d.length<l.length/\rkOk x) (λ_=>False) r:=by
 intro ax y Jx W z E H D;have c0:W.cell? ⟨q,0,Y⟩=X (.map mv):=(z.cell (p:=⟨q,0,Y⟩) (bi A)).trans A;have ad:bQ recB W mv l:=M.block (λb hb=>z.block b (al b hb));have s:=Z E;have HY:=Z H;have V:=Z D;clear E H D z A M;refine e4 func89 rfl trivial ?_ rfl;simp only [ntmps89,cx,cl,cP,dd,dc,cq,cm,cy,cu,cz,cQ];gi_wp2_with (refine ek _ rfl _ _ rfl 36 underlying92 mv l rfl ad ?_;intro w1 O i T)
 have I:y (λk=>k=W.heap.size) [] w1:=s.o _ _ _ _ _ V.o ⟨i.os,i.tape,i.output,i.size,λk c _ _=>i.block k c,λk c=> .inr (by rw [c];exact cb _),λk c=>by rw [c,T];omega⟩;have a3:=Z O;have a0:=Z I;have aT:W.heap.size<w1.heap.size:=by omega
 clear O I i T;gi_loopg [] (l.length+1) (λg wr=>∃d left,left.length<g/\Hid (dE recB wr mv W.heap.size l left)/\Hid (y (λk=>k=W.heap.size) d wr)/\Hid ((d++left.map (·.1)).Perm (l.map (·.1))))
 case atStart=>exact ⟨[],l,by omega,a3,a0,by unfold Hid;simp⟩
 case round=>
  obtain ⟨d,left,b1,u,C,t⟩:=hrel;have b2:W.heap.size<wr.heap.size:=u.lt;gi_wp2_with (refine eT _ rfl _ rfl mv W.heap.size l left rfl u.o ?_ ?_)
  · intro a9;subst a9;gi_wp2
    go_end0
    refine ⟨⟨_,rfl⟩, .inl ⟨_,d,?_,C.o⟩⟩;have:=t.o;simpa using this
  · intro f h v m N au R ac j a6;have av:d.length<l.length:=by have h1:=t.length_eq;simp only [cc,fs] at h1;have:=e3 N;omega
    have b3:m.heap.size=wr.heap.size:=j.size;have L:y (λk=>k=W.heap.size) d m:=s.o _ _ _ _ _ C.o ⟨j.os,j.tape,j.output,by omega,λk _ c _=>j.block k c,λk c=> .inl c,λk c=>by rw [c];omega⟩;have a1:=Z L;have a4:=Z R;have ay:=Z j;clear R L;simp only [lh] at a6 ⊢;obtain ⟨fn,b5,aC,aS,hy,G⟩:=HY.o (λk=>k=W.heap.size) d (f,h) (m.alloc (fl #[cg U f,cg U h] 36)) (s.o _ _ _ _ _ a1.o (cS.alloc (λk c=>by rw [c];omega) _)) ⟨av,au⟩;have a5:=Z G;clear G;have b4:(Instr.yield ax #[Value.agg #[cg U f,cg U h]]).run prog (m.alloc (fl #[cg U f,cg U h] 36))=_:=hy;gi_wp2
    refine a5.mono ?_;have a2:Hid (((d++[(f,h)])++(cn left (f,h)).map (·.1)).Perm (l.map (·.1))):=by refine List.Perm.trans ?_ t.o;rw [dx];exact (gS u.nodup N).append_left d
    rintro e w3 (⟨rfl,a7,b0,ao⟩|⟨rfl,a8⟩)
    · gi_wp2
      gi_roundg (left.length)
      case rel=> refine ⟨d++[(f,h)],cn left (f,h),ac,?_,a7,a2⟩;exact (a4.kept ((eQ m _).trans ao))
      case measure=>omega
    · gi_wp2
      refine gb (fz rfl _ _ _) rfl ?_;exact ⟨⟨_,rfl⟩, .inr ⟨_,d++[(f,h)],trivial,a8⟩⟩
theorem ze (n:Nat) (hn:1<=n) (q:Nat) (mv:Option Nat) (l:List (RK×dp)) (r:cv) (A:r.cell? ⟨q,0,Y⟩=X (.map mv)) (M:bQ recB r mv l) (al:∀b,mv=X b->b<r.heap.size):
 iE dz n prog 95 #[c4 (X ⟨q,0,Y⟩)] (λx:RK=> #[recK x]) (λxs=>xs.Perm (l.map (·.1))) (λ_=>True) (λd x=>d.length<l.length/\rkOk x) (λ_=>False) r:=by
 intro ax y Jx W z E H D;have c0:W.cell? ⟨q,0,Y⟩=X (.map mv):=(z.cell (p:=⟨q,0,Y⟩) (bi A)).trans A;have ad:bQ recB W mv l:=M.block (λb hb=>z.block b (al b hb));have s:=Z E;have HY:=Z H;have V:=Z D;clear E H D z A M;refine e4 func95 rfl trivial ?_ rfl;simp only [ntmps95,cx,cl,cP,dd,dc,cq,cm,cy,cu,cz,cQ];gi_wp2_with (refine ek _ rfl _ _ rfl 52 underlying93 mv l rfl ad ?_;intro w1 O i T)
 have I:y (λk=>k=W.heap.size) [] w1:=s.o _ _ _ _ _ V.o ⟨i.os,i.tape,i.output,i.size,λk c _ _=>i.block k c,λk c=> .inr (by rw [c];exact cb _),λk c=>by rw [c,T];omega⟩;have a3:=Z O;have a0:=Z I;have aT:W.heap.size<w1.heap.size:=by omega
 clear O I i T;gi_loopg [] (l.length+1) (λg wr=>∃d left,left.length<g/\Hid (dE recB wr mv W.heap.size l left)/\Hid (y (λk=>k=W.heap.size) d wr)/\Hid ((d++left.map (·.1)).Perm (l.map (·.1))))
 case atStart=>exact ⟨[],l,by omega,a3,a0,by unfold Hid;simp⟩
 case round=>
  obtain ⟨d,left,b1,u,C,t⟩:=hrel;have b2:W.heap.size<wr.heap.size:=u.lt;gi_wp2_with (refine eT _ rfl _ rfl mv W.heap.size l left rfl u.o ?_ ?_)
  · intro a9;subst a9;gi_wp2
    go_end0
    refine ⟨⟨_,rfl⟩, .inl ⟨_,d,?_,C.o⟩⟩;have:=t.o;simpa using this
  · intro f h v m N au R ac j a6;have av:d.length<l.length:=by have h1:=t.length_eq;simp only [cc,fs] at h1;have:=e3 N;omega
    have b3:m.heap.size=wr.heap.size:=j.size;have L:y (λk=>k=W.heap.size) d m:=s.o _ _ _ _ _ C.o ⟨j.os,j.tape,j.output,by omega,λk _ c _=>j.block k c,λk c=> .inl c,λk c=>by rw [c];omega⟩;have a1:=Z L;have a4:=Z R;have ay:=Z j;clear R L;simp only [lh] at a6 ⊢;obtain ⟨fn,b5,aC,aS,hy,G⟩:=HY.o (λk=>k=W.heap.size) d (f,h) (m.alloc (fl #[cg U f,cg U h] 36)) (s.o _ _ _ _ _ a1.o (cS.alloc (λk c=>by rw [c];omega) _)) ⟨av,au⟩;have a5:=Z G;clear G;have b4:(Instr.yield ax #[Value.agg #[cg U f,cg U h]]).run prog (m.alloc (fl #[cg U f,cg U h] 36))=_:=hy;gi_wp2
    refine a5.mono ?_;have a2:Hid (((d++[(f,h)])++(cn left (f,h)).map (·.1)).Perm (l.map (·.1))):=by refine List.Perm.trans ?_ t.o;rw [dx];exact (gS u.nodup N).append_left d
    rintro e w3 (⟨rfl,a7,b0,ao⟩|⟨rfl,a8⟩)
    · gi_wp2
      gi_roundg (left.length)
      case rel=> refine ⟨d++[(f,h)],cn left (f,h),ac,?_,a7,a2⟩;exact (a4.kept ((eQ m _).trans ao))
      case measure=>omega
    · gi_wp2
      refine gb (fz rfl _ _ _) rfl ?_;exact ⟨⟨_,rfl⟩, .inr ⟨_,d++[(f,h)],trivial,a8⟩⟩
theorem nZ (n:Nat) (hn:1<=n) (q:Nat) (mv:Option Nat) (l:List (RK×dp)) (r:cv) (A:r.cell? ⟨q,0,Y⟩=X (.map mv)) (M:bQ recB r mv l) (al:∀b,mv=X b->b<r.heap.size):
 iE dz n prog 108 #[c4 (X ⟨q,0,Y⟩)] (λx:RK=> #[recK x]) (λxs=>xs.Perm (l.map (·.1))) (λ_=>True) (λd x=>d.length<l.length/\rkOk x) (λ_=>False) r:=by
 intro ax y Jx W z E H D;have c0:W.cell? ⟨q,0,Y⟩=X (.map mv):=(z.cell (p:=⟨q,0,Y⟩) (bi A)).trans A;have ad:bQ recB W mv l:=M.block (λb hb=>z.block b (al b hb));have s:=Z E;have HY:=Z H;have V:=Z D;clear E H D z A M;refine e4 func108 rfl trivial ?_ rfl;simp only [ntmps108,cx,cl,cP,dd,dc,cq,cm,cy,cu,cz,cQ];gi_wp2_with (refine ek _ rfl _ _ rfl 64 underlying113 mv l rfl ad ?_;intro w1 O i T)
 have I:y (λk=>k=W.heap.size) [] w1:=s.o _ _ _ _ _ V.o ⟨i.os,i.tape,i.output,i.size,λk c _ _=>i.block k c,λk c=> .inr (by rw [c];exact cb _),λk c=>by rw [c,T];omega⟩;have a3:=Z O;have a0:=Z I;have aT:W.heap.size<w1.heap.size:=by omega
 clear O I i T;gi_loopg [] (l.length+1) (λg wr=>∃d left,left.length<g/\Hid (dE recB wr mv W.heap.size l left)/\Hid (y (λk=>k=W.heap.size) d wr)/\Hid ((d++left.map (·.1)).Perm (l.map (·.1))))
 case atStart=>exact ⟨[],l,by omega,a3,a0,by unfold Hid;simp⟩
 case round=>
  obtain ⟨d,left,b1,u,C,t⟩:=hrel;have b2:W.heap.size<wr.heap.size:=u.lt;gi_wp2_with (refine eT _ rfl _ rfl mv W.heap.size l left rfl u.o ?_ ?_)
  · intro a9;subst a9;gi_wp2
    go_end0
    refine ⟨⟨_,rfl⟩, .inl ⟨_,d,?_,C.o⟩⟩;have:=t.o;simpa using this
  · intro f h v m N au R ac j a6;have av:d.length<l.length:=by have h1:=t.length_eq;simp only [cc,fs] at h1;have:=e3 N;omega
    have b3:m.heap.size=wr.heap.size:=j.size;have L:y (λk=>k=W.heap.size) d m:=s.o _ _ _ _ _ C.o ⟨j.os,j.tape,j.output,by omega,λk _ c _=>j.block k c,λk c=> .inl c,λk c=>by rw [c];omega⟩;have a1:=Z L;have a4:=Z R;have ay:=Z j;clear R L;simp only [lh] at a6 ⊢;obtain ⟨fn,b5,aC,aS,hy,G⟩:=HY.o (λk=>k=W.heap.size) d (f,h) (m.alloc (fl #[cg U f,cg U h] 36)) (s.o _ _ _ _ _ a1.o (cS.alloc (λk c=>by rw [c];omega) _)) ⟨av,au⟩;have a5:=Z G;clear G;have b4:(Instr.yield ax #[Value.agg #[cg U f,cg U h]]).run prog (m.alloc (fl #[cg U f,cg U h] 36))=_:=hy;gi_wp2
    refine a5.mono ?_;have a2:Hid (((d++[(f,h)])++(cn left (f,h)).map (·.1)).Perm (l.map (·.1))):=by refine List.Perm.trans ?_ t.o;rw [dx];exact (gS u.nodup N).append_left d
    rintro e w3 (⟨rfl,a7,b0,ao⟩|⟨rfl,a8⟩)
    · gi_wp2
      gi_roundg (left.length)
      case rel=> refine ⟨d++[(f,h)],cn left (f,h),ac,?_,a7,a2⟩;exact (a4.kept ((eQ m _).trans ao))
      case measure=>omega
    · gi_wp2
      refine gb (fz rfl _ _ _) rfl ?_;exact ⟨⟨_,rfl⟩, .inr ⟨_,d++[(f,h)],trivial,a8⟩⟩
theorem wV (n:Nat) (hn:1<=n) (q:Nat) (mv:Option Nat) (l:List (RK×dp)) (r:cv) (A:r.cell? ⟨q,0,Y⟩=X (.map mv)) (M:bQ recB r mv l) (al:∀b,mv=X b->b<r.heap.size):
 iE dz n prog 118 #[c4 (X ⟨q,0,Y⟩)] (λx:RK=> #[recK x]) (λxs=>xs.Perm (l.map (·.1))) (λ_=>True) (λd x=>d.length<l.length/\rkOk x) (λ_=>False) r:=by
 intro ax y Jx W z E H D;have c0:W.cell? ⟨q,0,Y⟩=X (.map mv):=(z.cell (p:=⟨q,0,Y⟩) (bi A)).trans A;have ad:bQ recB W mv l:=M.block (λb hb=>z.block b (al b hb));have s:=Z E;have HY:=Z H;have V:=Z D;clear E H D z A M;refine e4 func118 rfl trivial ?_ rfl;simp only [ntmps118,cx,cl,cP,dd,dc,cq,cm,cy,cu,cz,cQ];gi_wp2_with (refine ek _ rfl _ _ rfl 3 underlying114 mv l rfl ad ?_;intro w1 O i T)
 have I:y (λk=>k=W.heap.size) [] w1:=s.o _ _ _ _ _ V.o ⟨i.os,i.tape,i.output,i.size,λk c _ _=>i.block k c,λk c=> .inr (by rw [c];exact cb _),λk c=>by rw [c,T];omega⟩;have a3:=Z O;have a0:=Z I;have aT:W.heap.size<w1.heap.size:=by omega
 clear O I i T;gi_loopg [] (l.length+1) (λg wr=>∃d left,left.length<g/\Hid (dE recB wr mv W.heap.size l left)/\Hid (y (λk=>k=W.heap.size) d wr)/\Hid ((d++left.map (·.1)).Perm (l.map (·.1))))
 case atStart=>exact ⟨[],l,by omega,a3,a0,by unfold Hid;simp⟩
 case round=>
  obtain ⟨d,left,b1,u,C,t⟩:=hrel;have b2:W.heap.size<wr.heap.size:=u.lt;gi_wp2_with (refine eT _ rfl _ rfl mv W.heap.size l left rfl u.o ?_ ?_)
  · intro a9;subst a9;gi_wp2
    go_end0
    refine ⟨⟨_,rfl⟩, .inl ⟨_,d,?_,C.o⟩⟩;have:=t.o;simpa using this
  · intro f h v m N au R ac j a6;have av:d.length<l.length:=by have h1:=t.length_eq;simp only [cc,fs] at h1;have:=e3 N;omega
    have b3:m.heap.size=wr.heap.size:=j.size;have L:y (λk=>k=W.heap.size) d m:=s.o _ _ _ _ _ C.o ⟨j.os,j.tape,j.output,by omega,λk _ c _=>j.block k c,λk c=> .inl c,λk c=>by rw [c];omega⟩;have a1:=Z L;have a4:=Z R;have ay:=Z j;clear R L;simp only [lh] at a6 ⊢;obtain ⟨fn,b5,aC,aS,hy,G⟩:=HY.o (λk=>k=W.heap.size) d (f,h) (m.alloc (fl #[cg U f,cg U h] 36)) (s.o _ _ _ _ _ a1.o (cS.alloc (λk c=>by rw [c];omega) _)) ⟨av,au⟩;have a5:=Z G;clear G;have b4:(Instr.yield ax #[Value.agg #[cg U f,cg U h]]).run prog (m.alloc (fl #[cg U f,cg U h] 36))=_:=hy;gi_wp2
    refine a5.mono ?_;have a2:Hid (((d++[(f,h)])++(cn left (f,h)).map (·.1)).Perm (l.map (·.1))):=by refine List.Perm.trans ?_ t.o;rw [dx];exact (gS u.nodup N).append_left d
    rintro e w3 (⟨rfl,a7,b0,ao⟩|⟨rfl,a8⟩)
    · gi_wp2
      gi_roundg (left.length)
      case rel=> refine ⟨d++[(f,h)],cn left (f,h),ac,?_,a7,a2⟩;exact (a4.kept ((eQ m _).trans ao))
      case measure=>omega
    · gi_wp2
      refine gb (fz rfl _ _ _) rfl ?_;exact ⟨⟨_,rfl⟩, .inr ⟨_,d++[(f,h)],trivial,a8⟩⟩
theorem nY (n:Nat) (hn:1<=n) (s:Nat) (mv:Option Nat) (l:List (PK×dp)) (t:cv) (D:t.cell? ⟨s,0,Y⟩=X (.map mv)) (O:bQ pairB t mv l) (ao:∀b,mv=X b->b<t.heap.size):
 iE dz n prog 121 #[c4 (X ⟨s,0,Y⟩)] (λx:PK=> #[pairV x]) (λxs=>xs.Perm (l.map (·.1))) (λ_=>True) (λd x=>d.length<l.length/\pkOk x) (λ_=>False) t:=by
 intro ay A Jx W C H L G;have c0:W.cell? ⟨s,0,Y⟩=X (.map mv):=(C.cell (p:=⟨s,0,Y⟩) (bi D)).trans D;have al:bQ pairB W mv l:=O.block (λb hb=>C.block b (ao b hb));have u:=Z H;have HY:=Z L;have H0:=Z G;clear H L G C D O;refine e4 func121 rfl trivial ?_ rfl;simp only [ntmps121,cx,cl,cP,dd,dc,cq,cm,cy,cu,cz,cQ];gi_wp2_with (refine ek _ rfl _ _ rfl 139 underlying115 mv l rfl al ?_;intro w1 T m a0)
 have M:A (λk=>k=W.heap.size) [] w1:=u.o _ _ _ _ _ H0.o ⟨m.os,m.tape,m.output,m.size,λk c _ _=>m.block k c,λk c=> .inr (by rw [c];exact cb _),λk c=>by rw [c,a0];omega⟩;have a4:=Z T;have a1:=Z M;have b0:W.heap.size<w1.heap.size:=by omega
 clear T M m a0;gi_loopg [] (l.length+1) (λg wr=>∃d left,left.length<g/\Hid (dE pairB wr mv W.heap.size l left)/\Hid (A (λk=>k=W.heap.size) d wr)/\Hid ((d++left.map (·.1)).Perm (l.map (·.1))))
 case atStart=>exact ⟨[],l,by omega,a4,a1,by unfold Hid;simp⟩
 case round=>
  obtain ⟨d,left,b2,z,E,y⟩:=hrel;have b3:W.heap.size<wr.heap.size:=z.lt;gi_wp2_with (refine eT _ rfl _ rfl mv W.heap.size l left rfl z.o ?_ ?_)
  · intro ac;subst ac;gi_wp2
    go_end0
    refine ⟨⟨_,rfl⟩, .inl ⟨_,d,?_,E.o⟩⟩;have:=y.o;simpa using this
  · intro f h i j v r R av V ad q a7;have ax:d.length<l.length:=by have h1:=y.length_eq;simp only [cc,fs] at h1;have:=e3 R;omega
    have b4:r.heap.size=wr.heap.size:=q.size;have N:A (λk=>k=W.heap.size) d r:=u.o _ _ _ _ _ E.o ⟨q.os,q.tape,q.output,by omega,λk _ c _=>q.block k c,λk c=> .inl c,λk c=>by rw [c];omega⟩;have a2:=Z N;have a5:=Z V;have aC:=Z q;clear V N;simp only [yP] at a7 ⊢;obtain ⟨fn,b6,aS,aT,hy,I⟩:=HY.o (λk=>k=W.heap.size) d ((f,h),(i,j)) (r.alloc (fl #[cg U f,cg U h,cg U i,cg U j] 134)) (u.o _ _ _ _ _ a2.o (cS.alloc (λk c=>by rw [c];omega) _)) ⟨ax,av⟩;have a6:=Z I;clear I;have b5:(Instr.yield ay #[Value.agg #[cg U f,cg U h,cg U i,cg U j]]).run prog (r.alloc (fl #[cg U f,cg U h,cg U i,cg U j] 134))=_:=hy;gi_wp2
    refine a6.mono ?_;have a3:Hid (((d++[((f,h),(i,j))])++(cn left ((f,h),(i,j))).map (·.1)).Perm (l.map (·.1))):=by refine List.Perm.trans ?_ y.o;rw [dx];exact (gS z.nodup R).append_left d
    rintro e w3 (⟨rfl,a8,b1,au⟩|⟨rfl,a9⟩)
    · gi_wp2
      gi_roundg (left.length)
      case rel=> refine ⟨d++[((f,h),(i,j))],cn left ((f,h),(i,j)),ad,?_,a8,a3⟩;exact (a5.kept ((eQ r _).trans au))
      case measure=>omega
    · gi_wp2
      refine gb (fz rfl _ _ _) rfl ?_;exact ⟨⟨_,rfl⟩, .inr ⟨_,d++[((f,h),(i,j))],trivial,a9⟩⟩
theorem A9 (mv:Option Nat) (w:cv):gy prog 48 #[.map mv] w λe w'=>e=c6 (.func (.func 89) #[] #[c4 (X ⟨w.heap.size,0,Y⟩)])/\w'=w.alloc (c7 #[.map mv] 92):=by
 go_enter func48,ntmps48;go_wp2_with fail
 go_ret;exact ⟨rfl,rfl⟩
theorem A8 (mv:Option Nat) (w:cv):gy prog 51 #[.map mv] w λe w'=>e=c6 (.func (.func 95) #[] #[c4 (X ⟨w.heap.size,0,Y⟩)])/\w'=w.alloc (c7 #[.map mv] 93):=by
 go_enter func51,ntmps51;go_wp2_with fail
 go_ret;exact ⟨rfl,rfl⟩
theorem vK (mv:Option Nat) (w:cv):gy prog 61 #[.map mv] w λe w'=>e=c6 (.func (.func 108) #[] #[c4 (X ⟨w.heap.size,0,Y⟩)])/\w'=w.alloc (c7 #[.map mv] 113):=by
 go_enter func61,ntmps61;go_wp2_with fail
 go_ret;exact ⟨rfl,rfl⟩
theorem A7 (mv:Option Nat) (w:cv):gy prog 64 #[.map mv] w λe w'=>e=c6 (.func (.func 118) #[] #[c4 (X ⟨w.heap.size,0,Y⟩)])/\w'=w.alloc (c7 #[.map mv] 114):=by
 go_enter func64,ntmps64;go_wp2_with fail
 go_ret;exact ⟨rfl,rfl⟩
theorem vJ (mv:Option Nat) (w:cv):gy prog 66 #[.map mv] w λe w'=>e=c6 (.func (.func 121) #[] #[c4 (X ⟨w.heap.size,0,Y⟩)])/\w'=w.alloc (c7 #[.map mv] 115):=by
 go_enter func66,ntmps66;go_wp2_with fail
 go_ret;exact ⟨rfl,rfl⟩
end
section
open Go.RowKit Go.Shelf
section
variable {F:Fence} {n:Nat} {P:Program}
theorem nC {α:Type} {g:g7} {ps:Array Tmp} {assign body:Code} {Q:Exit->Act->cv->Prop} {a:Act} {w:cv}
 (bB:F.round=Y) (h1:1<=n) {gf:Nat} {lb:Array dp} (hg:a.eval g= .func (.func gf) #[] lb) (ay:F.fn gf) (eg:∀args w,(callFunc gf args).run P w= .ok (.enter gf args) w)
 {a1:α->Array dp} {S Sp:List α->Prop} {G:List α->α->Prop} {M0:Nat->Prop} {w0:cv} (bD:iE F (n - 1) P gf lb a1 S Sp G M0 w0) (a5:∀k,M0 k->k<w.heap.size) (ao:Bw w0 w) (bA:∀x,(a1 x).size=ps.size)
 (I:(Nat->Prop)->List α->cv->Prop) (Ix:Code->(Nat->Prop)->List α->cv->Prop) (H:ij w.heap.size I) (a4:∀c,ij w.heap.size (Ix c)) (a7:∀M s C,I M s C->∀k,M k->k<C.heap.size) (a8:∀c M s C,Ix c M s C->∀k,M k->k<C.heap.size)
 (h0:I M0 [] w) (a₁:α->Nat->Act) (ob:α->Obj)
 (b6:∀(l:Nat) (x:α) (W:cv) (K:Act->cv->Prop),K (a₁ x W.heap.size) (W.alloc (ob x))->
  assign.wpIn (F.inRound l) (n - 1 - 1) P (Exit.then K (λ_ _ _=>False)) {tmps:=(ps.zip (a1 x)).foldl (λt (p,v)=>t.setIfInBounds p v) a.tmps,defers:=[]} W)
 (b8:∀(l:Nat) (M:Nat->Prop) (d:List α) (x:α) (W:cv) (N:Nat),I M d W->G d x->w.heap.size<=N->W.heap[N]? =X (ob x)->body.wpIn (F.inRound l) (n - 1 - 1) P (BS M I Ix (d++[x]) W) (a₁ x N) W)
 (b9:∀(D:Nat) (M:Nat->Prop) (xs:List α) (W:cv),w.heap.size<=D->S xs->I M xs W->W.heap[D]? =X (.deferred (X []))->Q .normal {a with defers:={target:= .collected D,args:= #[]}::a.defers} W)
 (bO:∀(D:Nat) (c:Code) (M:Nat->Prop) (d:List α) (W:cv),w.heap.size<=D->Sp d->Ix c M d W->W.heap[D]? =X (.deferred (X []))->c.wpIn F n P Q {a with defers:={target:= .collected D,args:= #[]}::a.defers} W):
 (Code.rangeFunc g ps assign body).wpIn F n P Q a w:=by
 refine wpIn_rangeFunc ?_;intro fn bb;rw [bB];obtain ⟨rec,A⟩:∃rec:LoopState->Option Code->Loop,rec=λst pe=>{state:=st,pending:=pe,fn,tmps:=a.tmps,params:=ps,assign,body,defers:=w.heap.size}:=⟨_,rfl⟩;obtain ⟨r,a0⟩:=Qe ((w.alloc (.deferred (X []))).alloc (.loop (rec .ready Y)));have aT:r.heap[w.heap.size+1]? =X (.loop (rec .ready Y)):=by rw [<- a0];have:=dk (w.alloc (.deferred (X []))) (.loop (rec .ready Y));rwa [gs] at this
 have aS:r.heap[w.heap.size]? =X (.deferred (X [])):=by rw [<- a0];exact (e6 _ _ _ (by simp)).trans (dk w _)
 have aC:I M0 [] r:=by rw [<- a0];exact H _ _ _ _ _ (H _ _ _ _ _ h0 (cS.alloc a5 _)) (cS.alloc (λk b=>by have:=a5 k b;simp;omega) _)
 have bT:r.heap.size=w.heap.size+2:=by rw [<- a0];simp
 have b7:Bw w0 r:=by rw [<- a0];exact ao.trans ((((fx _ w).alloc (cb _) _).alloc (by simp) _).mono ao.size)
 refine ⟨w.heap.size+1,[{target:= .collected w.heap.size,args:= #[]}],r,{target:= .fn (.func gf) lb,args:= #[.func (.yield (w.heap.size+1)) #[] #[]]},r,gf,
  #[.func (.yield (w.heap.size+1)) #[] #[]]++lb,r,?_,?_,?_,?_,λ_=>h1,?_⟩
 · rw [<- a0,A];exact run_enterLoop_outer _ _ _ _ _
 · simp only [resolve,hg];simp [go_sem]
 · intro f' au;simp [Target.leads] at au;subst au;exact ay
 · simp [invoke,go_sem,eg]
 · refine (bD (w.heap.size+1)
    (λM d W=>I M d W/\¬M (w.heap.size+1)/\¬M w.heap.size/\W.heap[w.heap.size+1]? =X (.loop (rec .ready Y))/\W.heap[w.heap.size]? =X (.deferred (X [])))
    (λM d W=>∃c,Ix c M d W/\W.heap[w.heap.size+1]? =X (.loop (rec .done (X c)))/\W.heap[w.heap.size]? =X (.deferred (X [])))
    r b7
    (λM s C M' ax hs y=>by
     obtain ⟨z,n1,n2,j,b⟩:=hs
     have bs:w.heap.size+1<C.heap.size:=(Array.getElem?_eq_some_iff.1 j).1
     have hT:cS w.heap.size M C M' ax:=⟨y.os,y.tape,y.output,y.size,λk b h2 h3=>y.block k b h2 λhB o O=>h3 (by omega) o O,y.new,y.lt⟩
     exact ⟨H _ _ _ _ _ z hT,λh=>by rcases y.new _ h with h|h;exact n1 h;omega,λh=>by rcases y.new _ h with h|h;exact n2 h;omega,
      (y.block _ bs n1 (λhB=>by omega)).trans j,(y.block _ (by omega) n2 (λhB=>by omega)).trans b⟩)
    ?_ ⟨aC,λh=>by have:=a5 _ h;omega,λh=>by have:=a5 _ h;omega,aT,aS⟩).mono ?_
   ·
    rintro M d x W ⟨z,n1,n2,j,b⟩ bw
    have ac:w.heap.size+1<W.heap.size:=(Array.getElem?_eq_some_iff.1 j).1
    have hy:=run_yield (P:=P) (args:=a1 x) j (by rw [A];exact bA x)
    rw [A] at hy
    refine ⟨fn,_,assign,body,hy,?_⟩
    obtain ⟨V,T⟩:=Qe (W.alloc (ob x))
    have ad:∀k,k<W.heap.size->V.heap[k]? =W.heap[k]? :=λk b=>by rw [<- T];exact e6 W _ k b
    have b1:V.heap[W.heap.size]? =X (ob x):=by rw [<- T];exact dk W _
    have bY:V.heap.size=W.heap.size+1:=by rw [<- T];simp
    have a9:V.heap[w.heap.size+1]? =X (.loop (rec .ready Y)):=(ad _ ac).trans j
    have a6:V.heap[w.heap.size]? =X (.deferred (X [])):=(ad _ (by omega)).trans b
    have al:=a7 _ _ _ z
    have av:I M d V:=by rw [<- T];exact H _ _ _ _ _ z (cS.alloc al _)
    have b5:∀(W9:cv),mW M V W9/\gt V W9->mW M W W9/\gt W W9:=λW9 h=>⟨λk b=>(h.1 k b).trans (ad k (al k b)),(by rw [<- T] at h;exact (eQ W _).trans h.2)⟩
    have b2:W.heap.size≠w.heap.size+1:=by omega
    have b3:w.heap.size<=W.heap.size:=by omega
    have ac:w.heap.size+1<V.heap.size:=by omega
    refine roundIn_of_wpIn bb (b6 _ x W _ ?_)
    rw [T]
    refine ⟨_,run_beginRound a9 (by rw [A]),?_⟩
    have bt:(V.putObj (w.heap.size+1) (.loop {rec .ready Y with state:= .busy})).heap[w.heap.size+1]? =X (.loop {rec .ready Y with state:= .busy}):=e9 ac
    have bk:(V.putObj (w.heap.size+1) (.loop {rec .ready Y with state:= .busy})).heap[w.heap.size]? =X (.deferred (X [])):=(cd (by omega)).trans a6
    have b0:=a7 _ _ _ av
    have bc:=H _ _ _ _ _ av (cS.put b0 (w.heap.size+1) (by omega) _ (.loop {rec .ready Y with state:= .busy}) a9 rfl)
    refine wpIn_mono (b8 _ M d x _ W.heap.size bc bw b3 ((cd b2).trans b1)) ?_
    have a2:∀(q:Option Code) (f:cv),gt (V.putObj (w.heap.size+1) (.loop {rec .ready Y with state:= .busy})) f->
     (Instr.endRound (w.heap.size+1) q).run P f= .ok (c5 q.isNone) (f.putObj (w.heap.size+1) (.loop (rec (if q.isNone then .ready else .done) q)))/\
     f.heap[w.heap.size+1]? =X (.loop {rec .ready Y with state:= .busy})/\
     (f.putObj (w.heap.size+1) (.loop (rec (if q.isNone then .ready else .done) q))).heap[w.heap.size+1]? =X (.loop (rec (if q.isNone then .ready else .done) q))/\
     (f.putObj (w.heap.size+1) (.loop (rec (if q.isNone then .ready else .done) q))).heap[w.heap.size]? =X (.deferred (X [])):=λq f i=>by
     have m:=i.same _ _ bt rfl
     have:=run_endRound (P:=P) q m
     rw [A] at this ⊢
     exact ⟨this,by rw [A] at m;exact m,e9 (Array.getElem?_eq_some_iff.1 m).1,(cd (by omega)).trans (i.same _ _ bk rfl)⟩
    rintro e a3 f hp
    cases e with
    |normal=>
     obtain ⟨i,bp,u⟩:=hp
     obtain ⟨R,m,E,L⟩:=a2 Y f i
     refine ⟨_,_,R, .inl ⟨rfl,⟨H _ _ _ _ _ u (cS.put (a7 _ _ _ u) _ (by omega) _ _ m rfl),n1,n2,E,L⟩,b5 _ ⟨λk a6=>?_,?_⟩⟩⟩
     · have e1:k≠w.heap.size+1:=λe=>n1 (e ▸ a6)
       exact ((cd (by omega)).trans (bp k a6)).trans (cd (by omega))
     · refine ⟨ex (ex (g0 V (w.heap.size+1) _).size i.size) (g0 f (w.heap.size+1) _).size,λk o O hc=>?_⟩
       by_cases e1:k=w.heap.size+1
       · subst e1
         rw [a9] at O
         injection O with O
         subst O
         exact E
       · exact (cd (by omega)).trans (i.same k o ((cd (by omega)).trans O) hc)
    |ret=>
     obtain ⟨i,u⟩:=hp
     obtain ⟨R,m,E,L⟩:=a2 (X .ret) f i
     exact ⟨_,_,R, .inr ⟨rfl, .ret,a4 _ _ _ _ _ _ u (cS.put (a8 _ _ _ _ u) _ (by omega) _ _ m rfl),E,L⟩⟩
    |exit id=>
     obtain ⟨i,u⟩:=hp
     obtain ⟨R,m,E,L⟩:=a2 (X (.exit id)) f i
     exact ⟨_,_,R, .inr ⟨rfl, .exit id,a4 _ _ _ _ _ _ u (cS.put (a8 _ _ _ _ u) _ (by omega) _ _ m rfl),E,L⟩⟩
    |goto t=>
     obtain ⟨i,u⟩:=hp
     obtain ⟨R,m,E,L⟩:=a2 (X (.goto t)) f i
     exact ⟨_,_,R, .inr ⟨rfl, .goto t,a4 _ _ _ _ _ _ u (cS.put (a8 _ _ _ _ u) _ (by omega) _ _ m rfl),E,L⟩⟩
    |panic ch=>exact hp.elim
    |outgrown=>exact hp.elim
   ·
    rintro e W2 ⟨⟨v,rfl⟩,(⟨M,xs,hS,z,n1,n2,j,b⟩|⟨M,d,b4,c,z,j,b⟩)⟩
    · exact ⟨Y,_,by have:=run_endLoop (P:=P) j (by rw [A];simp);rw [A] at this;exact this,b9 _ M xs _ (cb _) hS (H _ _ _ _ _ z (cS.put (a7 _ _ _ z) _ (by omega) _ _ j rfl)) ((cd (by omega)).trans b)⟩
    · exact ⟨X c,_,by have:=run_endLoop (P:=P) j (by rw [A];simp);rw [A] at this;exact this,bO _ c M d _ (cb _) b4 (a4 c _ _ _ _ _ z (cS.put (a8 _ _ _ _ z) _ (by omega) _ _ j rfl)) ((cd (by omega)).trans b)⟩
end
end
section
open Go.RowKit Go.Maps Go.Shelf
attribute [local go_sem] Oper.semAt_some
theorem Di:(prog.info? 134).map (λi=>(i.zero,i.size,i.bytes))=X (X (.agg #[J U 0,J U 0,J U 0,J U 0]),4,32):=by kernel_rfl
def pkCells (a:PK):List dp:=[J U a.1.1,J U a.1.2,J U a.2.1,J U a.2.2]
structure BO (w:cv) (Bo:Nat) (M:Nat->Prop) (pre:List RK) (W:cv):Prop where
 o:∃v,Boxed W Bo 52 v/\W.ownsRow w.heap.size 36 2 v pre.length (pre.flatMap rkCells)/\∀g,v.ownBlock=some g->¬M g
 b:Bw w W
 lt:∀k,M k->k<W.heap.size/\w.heap.size<=k
 box:¬M Bo
theorem BO.stable (w:cv) (m B:Nat) (E:w.heap.size<=B):ij B (BO w m):=by
 intro M s p C A h c;obtain ⟨v,l,r,z⟩:=h.o;have y:∀k,k<p.heap.size->¬M k->(∃cs t,p.heap[k]? =X (c7 cs t (0,0)))->A.heap[k]? =p.heap[k]? :=λk h1 u q=>by obtain ⟨cs,t,q⟩:=q;exact c.block k h1 u λ_ o j=>by rw [q] at j;injection j with j;subst j;rfl
 refine ⟨⟨v,(y m (ae l) h.box ⟨_,_,l⟩).trans l,ah r (λg e=>?_),λg e f=>?_⟩,?_,λk i=>⟨c.lt k i,?_⟩,λf=>?_⟩
 · obtain ⟨D,x⟩:=aA r e;exact y g (ae x) (z g e) ⟨_,_,x⟩
 · have:=lS r g e;rcases c.new g f with h1|h1
   · exact z g e h1
   · omega
 · have d:=h.b;exact ⟨c.os.trans d.os,c.tape.trans d.tape,c.output.trans d.output,ex d.size c.size,λk i=>(c.block k (by have:=d.size;omega) (λf=>by have:=(h.lt k f).2;omega) (λu=>by omega)).trans (d.block k i)⟩
 · rcases c.new k i with h1|h1
   · exact (h.lt k h1).2
   · have:=h.b.size;omega
 · rcases c.new m f with h1|h1
   · exact h.box h1
   · have:=ae l;omega
theorem nv (n:Nat) (hn:3<=n) (g:Nat) (lb:Array dp) (eg:∀args w,(callFunc g args).run prog w= .ok (.enter g args) w) (L Sp:List RK->Prop) (G:List RK->RK->Prop) (hG:∀f x,G f x->f.length<100000000) (w:cv)
 (ac:iE dz (n - 1) prog g lb (λx:RK=> #[recK x]) L Sp G (λ_=>False) w):
 CallsIn dz n prog 140 #[c9 Y 0 0, .func (.func g) #[] lb] w λe w'=>∃(v:dp) (t:List RK),e=c6 v/\L t/\w'.ownsRow w.heap.size 36 2 v t.length (t.flatMap rkCells)/\Bw w w':=by
 have h1:1<=n:=by omega
 refine gq func140 rfl trivial ?_ rfl;simp only [ntmps140,cx,cl,cP,dd,dc,cq,cm,cy,cu,cz,cQ];gi_wp2
 have bO:=Boxed.new w 52 (c9 Y 0 0);have C:Bw w (w.alloc (c7 #[c9 Y 0 0] 52)):=(fx _ w).alloc (cb _) _
 refine nC rfl h1 (gf:=g) (lb:=lb) rfl trivial eg ac (λk d=>d.elim) C (λ_=>rfl) (BO w w.heap.size) (λ_ _ _ _=>False) (BO.stable w _ _ C.size) (λ_ _ _ _ _ _ h _=>h) (λM s av h k d=>(h.lt k d).1) (λ_ _ _ _ h=>h.elim)
  ⟨⟨_,bO,gn _ _ _ _,λg hg=>by cases hg⟩,C,λk d=>d.elim,λh=>h⟩
  (λx N=>{tmps:= #[c9 Y 0 0, .func (.func g) #[] lb,c4 (X ⟨w.heap.size,0,Y⟩),undef,c9 Y 0 0,c4 (X ⟨N,0,Y⟩), .func (.func g) #[] lb,recK x,undef,undef,undef,undef,undef],defers:=[]}) (λx=> .cells (rkCells x).toArray 36) ?assign ?body ?done ?stop
 case assign=>
  intro l x W K j;obtain ⟨z,A⟩:=x;unfold recK rkCells at *;dsimp only at *;gi_wp2
  exact j
 case body=>
  rintro l M f x W N h V ax E;have V:=hG _ _ V;obtain ⟨v,r,p,a1⟩:=h.o;have hc:=r.cell;obtain ⟨i0,hi,al,ao,au⟩:=info_parts i36;have i:=Z h.b;have u:=Z p;have HV:=Z r;have I:=Z a1;have H:=Z h;clear h p r a1;obtain ⟨z,A⟩:=x;unfold recK at *;unfold rkCells at E;dsimp only at E ⊢;have a5:Hid ((f++[(z,A)]).flatMap rkCells=f.flatMap rkCells++[J U z,J U A]):=by unfold Hid;simp [rkCells]
  obtain ⟨n0,n1⟩:=db E;generalize hxs:f.flatMap rkCells=xs0 at *;clear hxs;gi_wp2_with (gi_at_builtin;refine wpListIn_append_own_at _ rfl _ _ 52 rfl w.heap.size 36 i0 (.agg #[J U 0,J U 0]) 2 16 underlying52 hi al ao au rfl (by decide) _ _ _ rfl (u.o.alloc _) ⟨W.heap.size,0,Y⟩ 1 1 [J U z,J U A] rfl rfl (cell_two_new _ _ _ _) (by simp [gc]) (by unfold maxLen;omega) (by omega) (by have:=i.o.size;simp;omega) ?_;intro v' w1 a2 T _ a0;obtain ⟨g',a6,rfl⟩:=gO a2;obtain ⟨a3,ad,a9,a7,O⟩:=HV.o.appended (by decide) u.o i.o.size (cb _) a2 T;have ay:=a3.cell;have aC:=a3.frozen;have a4:=Z a0;clear a0)
  have aS:=i.size;have y:=H.lt;have R:=H.box;have a8:∀k,M k->(w1.setCell ⟨w.heap.size,0,Y⟩ (c9 (X ⟨g',0,Y⟩) (f.length+1) a6)).heap[k]? =W.heap[k]? :=λk d=>by have h1:=(y k d).1;rw [ej _ _ _ _ (λ(e:k=w.heap.size)=>R (e ▸ d)),T.block k (by simp;omega) (λe=>I.o k e.symm d),e6 _ _ _ h1]
  refine ⟨a7,a8,⟨⟨_,ad,?_,λq m hm=>?_⟩,i.trans O,λk d=>⟨?_,(y k d).2⟩,R⟩⟩
  · rw [cc,a5.o];exact a9
  · rcases a4.o with e|e
    · exact I q (e ▸ m) hm
    · rw [e] at m;injection m with m
      have:=(y q hm).1;simp at m;omega
  · exact gp (y k d).1 O.size
 case done=>
  rintro D M t W hD hS h j;obtain ⟨v,r,p,_⟩:=h.o;have hc:=r.cell;have u:=Z p;have i:=Z h.b;clear h p;gi_wp2
  refine ⟨by simp, .inl ⟨_,_,rfl,gP j,?_⟩⟩;exact ⟨_,results_tmp rfl _ _ _,v,t,rfl,hS,ownsRow_putObj u.o _ j rfl,i.o.trans (belowK_b (w:=w) (cb _) W D _ _ (by simp at hD;omega) j rfl rfl)⟩
 case stop=> rintro D c M f W _ _ h _;exact h.elim
theorem uH (n:Nat) (p:4<=n) (g:Nat) (lb:Array dp) (h:∀args w,(callFunc g args).run prog w= .ok (.enter g args) w) (c d:List RK->Prop) (G:List RK->RK->Prop) (i:∀f x,G f x->f.length<100000000) (w:cv)
 (m:iE dz (n - 1 - 1) prog g lb (λx:RK=> #[recK x]) c d G (λ_=>False) w):
 gy prog 88 #[.func (.func g) #[] lb] w λe w'=>∃(v:dp) (b:List RK),e=c6 v/\c b/\w'.ownsRow w.heap.size 36 2 v b.length (b.flatMap rkCells)/\Bw w w':=by
 have h1:1<=n:=by omega
 refine (callsIn_wide (n:=n)).1 ?_;refine e4 func88 rfl trivial ?_ rfl;simp only [ntmps88,cx,cl,cP,dd,dc,cq,cm,cy,cu,cz,cQ];gi_wp2_with (refine ⟨trivial,?_⟩;gi_at_call 140;refine (nv (n - 1) (by omega) g lb h c d G i _ m).mono ?_;rintro e w' ⟨v,b,rfl,j,l,k⟩)
 go_ret;exact ⟨v,b,rfl,j,l,k⟩
structure BP (w:cv) (Bo:Nat) (M:Nat->Prop) (pre:List PK) (W:cv):Prop where
 o:∃v,Boxed W Bo 131 v/\W.ownsRow w.heap.size 134 4 v pre.length (pre.flatMap pkCells)/\∀g,v.ownBlock=some g->¬M g
 b:Bw w W
 lt:∀k,M k->k<W.heap.size/\w.heap.size<=k
 box:¬M Bo
theorem BP.stable (w:cv) (m B:Nat) (E:w.heap.size<=B):ij B (BP w m):=by
 intro M s p C A h c;obtain ⟨v,l,r,z⟩:=h.o;have y:∀k,k<p.heap.size->¬M k->(∃cs t,p.heap[k]? =X (c7 cs t (0,0)))->A.heap[k]? =p.heap[k]? :=λk h1 u q=>by obtain ⟨cs,t,q⟩:=q;exact c.block k h1 u λ_ o j=>by rw [q] at j;injection j with j;subst j;rfl
 refine ⟨⟨v,(y m (ae l) h.box ⟨_,_,l⟩).trans l,ah r (λg e=>?_),λg e f=>?_⟩,?_,λk i=>⟨c.lt k i,?_⟩,λf=>?_⟩
 · obtain ⟨D,x⟩:=aA r e;exact y g (ae x) (z g e) ⟨_,_,x⟩
 · have:=lS r g e;rcases c.new g f with h1|h1
   · exact z g e h1
   · omega
 · have d:=h.b;exact ⟨c.os.trans d.os,c.tape.trans d.tape,c.output.trans d.output,ex d.size c.size,λk i=>(c.block k (by have:=d.size;omega) (λf=>by have:=(h.lt k f).2;omega) (λu=>by omega)).trans (d.block k i)⟩
 · rcases c.new k i with h1|h1
   · exact (h.lt k h1).2
   · have:=h.b.size;omega
 · rcases c.new m f with h1|h1
   · exact h.box h1
   · have:=ae l;omega
theorem nu (n:Nat) (hn:3<=n) (g:Nat) (lb:Array dp) (eg:∀args w,(callFunc g args).run prog w= .ok (.enter g args) w) (R Sp:List PK->Prop) (G:List PK->PK->Prop) (hG:∀f x,G f x->f.length<100000000) (w:cv)
 (al:iE dz (n - 1) prog g lb (λx:PK=> #[pairV x]) R Sp G (λ_=>False) w):
 CallsIn dz n prog 163 #[c9 Y 0 0, .func (.func g) #[] lb] w λe w'=>∃(v:dp) (t:List PK),e=c6 v/\R t/\w'.ownsRow w.heap.size 134 4 v t.length (t.flatMap pkCells)/\Bw w w':=by
 have h1:1<=n:=by omega
 refine gq func163 rfl trivial ?_ rfl;simp only [ntmps163,cx,cl,cP,dd,dc,cq,cm,cy,cu,cz,cQ];gi_wp2
 have bO:=Boxed.new w 131 (c9 Y 0 0);have H:Bw w (w.alloc (c7 #[c9 Y 0 0] 131)):=(fx _ w).alloc (cb _) _
 refine nC rfl h1 (gf:=g) (lb:=lb) rfl trivial eg al (λk d=>d.elim) H (λ_=>rfl) (BP w w.heap.size) (λ_ _ _ _=>False) (BP.stable w _ _ H.size) (λ_ _ _ _ _ _ h _=>h) (λM s ay h k d=>(h.lt k d).1) (λ_ _ _ _ h=>h.elim)
  ⟨⟨_,bO,gn _ _ _ _,λg hg=>by cases hg⟩,H,λk d=>d.elim,λh=>h⟩
  (λx N=>{tmps:= #[c9 Y 0 0, .func (.func g) #[] lb,c4 (X ⟨w.heap.size,0,Y⟩),undef,c9 Y 0 0,c4 (X ⟨N,0,Y⟩), .func (.func g) #[] lb,pairV x,undef,undef,undef,undef,undef],defers:=[]}) (λx=> .cells (pkCells x).toArray 134) ?assign ?body ?done ?stop
 case assign=>
  intro l x W K j;obtain ⟨⟨z,A⟩,C,E⟩:=x;unfold pairV pkCells at *;dsimp only at *;gi_wp2
  exact j
 case body=>
  rintro l M f x W N h a1 aC I;have a1:=hG _ _ a1;obtain ⟨v,r,p,a3⟩:=h.o;have hc:=r.cell;obtain ⟨i0,hi,au,av,ax⟩:=info_parts Di;have i:=Z h.b;have u:=Z p;have HV:=Z r;have O:=Z a3;have L:=Z h;clear h p r a3;obtain ⟨⟨z,A⟩,C,E⟩:=x;unfold pairV at *;unfold pkCells at I;dsimp only at I ⊢;have a7:Hid ((f++[((z,A),C,E)]).flatMap pkCells=f.flatMap pkCells++[J U z,J U A,J U C,J U E]):=by unfold Hid;simp [pkCells]
  obtain ⟨n0,n1,n2,n3⟩:=ns I;generalize hxs:f.flatMap pkCells=xs0 at *;clear hxs;gi_wp2_with (gi_at_builtin;refine wpListIn_append_own_at _ rfl _ _ 131 rfl w.heap.size 134 i0 (.agg #[J U 0,J U 0,J U 0,J U 0]) 4 32 underlying131 hi au av ax rfl (by decide) _ _ _ rfl (u.o.alloc _) ⟨W.heap.size,0,Y⟩ 1 1 [J U z,J U A,J U C,J U E] rfl rfl (nr _ _ _ _ _ _) (by simp [gc]) (by unfold maxLen;omega) (by omega) (by have:=i.o.size;simp;omega) ?_;intro v' w1 a4 a0 _ a2;obtain ⟨g',a8,rfl⟩:=gO a4;obtain ⟨a5,ao,ad,a9,T⟩:=HV.o.appended (by decide) u.o i.o.size (cb _) a4 a0;have aS:=a5.cell;have aT:=a5.frozen;have a6:=Z a2;clear a2)
  have b0:=i.size;have y:=L.lt;have V:=L.box;have ac:∀k,M k->(w1.setCell ⟨w.heap.size,0,Y⟩ (c9 (X ⟨g',0,Y⟩) (f.length+1) a8)).heap[k]? =W.heap[k]? :=λk d=>by have h1:=(y k d).1;rw [ej _ _ _ _ (λ(e:k=w.heap.size)=>V (e ▸ d)),a0.block k (by simp;omega) (λe=>O.o k e.symm d),e6 _ _ _ h1]
  refine ⟨a9,ac,⟨⟨_,ao,?_,λq m hm=>?_⟩,i.trans T,λk d=>⟨?_,(y k d).2⟩,V⟩⟩
  · rw [cc,a7.o];exact ad
  · rcases a6.o with e|e
    · exact O q (e ▸ m) hm
    · rw [e] at m;injection m with m
      have:=(y q hm).1;simp at m;omega
  · exact gp (y k d).1 T.size
 case done=>
  rintro D M t W hD hS h j;obtain ⟨v,r,p,_⟩:=h.o;have hc:=r.cell;have u:=Z p;have i:=Z h.b;clear h p;gi_wp2
  refine ⟨by simp, .inl ⟨_,_,rfl,gP j,?_⟩⟩;exact ⟨_,results_tmp rfl _ _ _,v,t,rfl,hS,ownsRow_putObj u.o _ j rfl,i.o.trans (belowK_b (w:=w) (cb _) W D _ _ (by simp at hD;omega) j rfl rfl)⟩
 case stop=> rintro D c M f W _ _ h _;exact h.elim
theorem sL (n:Nat) (p:4<=n) (g:Nat) (lb:Array dp) (h:∀args w,(callFunc g args).run prog w= .ok (.enter g args) w) (c d:List PK->Prop) (G:List PK->PK->Prop) (i:∀f x,G f x->f.length<100000000) (w:cv)
 (m:iE dz (n - 1 - 1) prog g lb (λx:PK=> #[pairV x]) c d G (λ_=>False) w):
 gy prog 119 #[.func (.func g) #[] lb] w λe w'=>∃(v:dp) (b:List PK),e=c6 v/\c b/\w'.ownsRow w.heap.size 134 4 v b.length (b.flatMap pkCells)/\Bw w w':=by
 have h1:1<=n:=by omega
 refine (callsIn_wide (n:=n)).1 ?_;refine e4 func119 rfl trivial ?_ rfl;simp only [ntmps119,cx,cl,cP,dd,dc,cq,cm,cy,cu,cz,cQ];gi_wp2_with (refine ⟨trivial,?_⟩;gi_at_call 163;refine (nu (n - 1) (by omega) g lb h c d G i _ m).mono ?_;rintro e w' ⟨v,b,rfl,j,l,k⟩)
 go_ret;exact ⟨v,b,rfl,j,l,k⟩
end
section
open Go.RowKit Go.Maps Go.Shelf Go.Lib Go.Sort
section
variable {α:Type} [Inhabited α]
theorem mx (enc:α->List dp) (k:Nat) (j:0<k) (d:∀x,(enc x).length=k) (b:List α):flatK enc k b.toArray=(b.flatMap enc).toArray:=by
 have m:(b.flatMap enc).length=b.length * k:=by
  induction b with
  |nil=>simp
  |cons a l ih=>rw [fy,cc,d,ih,cl,Nat.add_mul];omega
 apply Array.ext
 · simp [m]
 · intro t h1 u;have p:t<b.toArray.size * k:=by simpa using h1
   have q:t<b.length * k:=by simpa using p
   have f:=get_flatK enc k b.toArray t p;rw [getElem!_pos (flatK enc k b.toArray) t h1] at f;rw [f];have g:t / k<b.length:=(Nat.div_lt_iff_lt_mul j).2 q;have h:t%k<k:=Nat.mod_lt _ j;have e:=cJ enc k d b (t / k) g (t%k) h;rw [Nat.div_add_mod' t k] at e;have r:b.toArray[t / k]! =b[t / k]:=by rw [getElem!_pos b.toArray (t / k) (by simpa using g)];simp
   rw [r];have i:t%k<(enc b[t / k]).length:=by rw [d];exact h
   rw [getElem!_pos (enc b[t / k]) (t%k) i];have c:(b.flatMap enc)[t]? =X ((enc b[t / k])[t%k]):=by rw [e];exact e7 i
   have s:t<(b.flatMap enc).length:=by rw [m];exact q
   rw [e7 s] at c;injection c with c
   simpa using c.symm
theorem cU {lo e k g c n:Nat}:∀(b:List dp) (s:Nat) (w:cv) (xs:List dp),w.ownsRow lo e k (c9 (X ⟨g,0,Y⟩) n c) n xs->s+b.length<=xs.length->
 (w.setCells g s b).ownsRow lo e k (c9 (X ⟨g,0,Y⟩) n c) n (xs.take s++b++xs.drop (s+b.length))/\aw g w (w.setCells g s b)
 |[],s,w,xs,h,hs=>⟨by simpa [World.setCells] using h,aw.refl _ _⟩
 |v::b,s,w,xs,h,hs=>by
  have l:s+1+b.length<=xs.length:=by simp at hs;omega
  have h1:=(h.stored s v).1
  obtain ⟨d,j⟩:=cU b (s+1) _ _ h1 (by simpa using l)
  refine ⟨?_,((aw.refl g w).setCell s v).trans j⟩
  have f:(xs.set s v).take (s+1)=xs.take s++[v]:=by
   rw [da (by simp;omega)]
   simp [List.take_set_of_le]
  have i:(xs.set s v).drop (s+1+b.length)=xs.drop (s+(b.length+1)):=by
   rw [List.drop_set_of_lt (by omega)]
   congr 1
   omega
  rw [f,i] at d
  simpa [World.setCells] using d
theorem ip {lo e k g d:Nat} (enc:α->List dp) (l:0<k) (i:∀x,(enc x).length=k) {w:cv} {b:List α} (h:w.ownsRow lo e k (c9 (X ⟨g,0,Y⟩) b.length d) b.length (b.flatMap enc)):HoldsK enc k w g 0 b.toArray:=by
 intro j c;rw [mx enc k l i] at c ⊢;have f:j<(b.flatMap enc).length:=by simpa using c
 rw [Nat.zero_add];refine ⟨?_,h.frozenAt j⟩;rw [h.cellAt j (by have:=h.1;omega),getElem!_pos _ j c];rw [e7 f];simp
theorem jo {lo e k g j:Nat} (enc:α->List dp) (t:0<k) (m:∀x,(enc x).length=k) {w:cv} {b ys:List α} (p:ys.length=b.length) (h:w.ownsRow lo e k (c9 (X ⟨g,0,Y⟩) b.length j) b.length (b.flatMap enc)) (n:Nat) (c:Array Obj):
 (sortWorldK enc k w g 0 n ys.toArray c).ownsRow lo e k (c9 (X ⟨g,0,Y⟩) b.length j) b.length (ys.flatMap enc)/\(sortWorldK enc k w g 0 n ys.toArray c).os=w.os/\(sortWorldK enc k w g 0 n ys.toArray c).tape=w.tape/\(sortWorldK enc k w g 0 n ys.toArray c).output=w.output/\
  w.heap.size<=(sortWorldK enc k w g 0 n ys.toArray c).heap.size/\∀q,q<w.heap.size->q≠g->(sortWorldK enc k w g 0 n ys.toArray c).heap[q]? =w.heap[q]? :=by
 have z:=ip enc t m h;have i:∀zs:List α,(zs.flatMap enc).length=zs.length * k:=λzs=>by
  induction zs with
  |nil=>simp
  |cons a l ih=>rw [fy,cc,m,ih,cl,Nat.add_mul];omega
 have v:sortWorldK enc k w g 0 n ys.toArray c=Sort.grow ((w.drewN n).setCells g 0 (ys.flatMap enc)) c:=by unfold sortWorldK putRowK;rw [mx enc k t m];have:=Lib.putRow_eq_setCells id w g 0 (flatK enc k b.toArray) (ys.flatMap enc) n z (by rw [i,p,size_flatK];simp);rw [this];simp
 have h1:(w.drewN n).ownsRow lo e k (c9 (X ⟨g,0,Y⟩) b.length j) b.length (b.flatMap enc):=h;obtain ⟨r,f⟩:=cU (ys.flatMap enc) 0 (w.drewN n) (b.flatMap enc) h1 (by rw [i,i,p];omega);have y:(ys.flatMap enc).length=(b.flatMap enc).length:=by rw [i,i,p]
 rw [List.take_zero,cz,Nat.zero_add,y,List.drop_length,List.append_nil] at r;rw [v];have u:((w.drewN n).setCells g 0 (ys.flatMap enc)).heap.size=w.heap.size:=f.size;have s:∀q,q<w.heap.size->(Sort.grow ((w.drewN n).setCells g 0 (ys.flatMap enc)) c).heap[q]? =((w.drewN n).setCells g 0 (ys.flatMap enc)).heap[q]? :=λq d=>by show (((w.drewN n).setCells g 0 (ys.flatMap enc)).heap++c)[q]? =_;rw [Array.getElem?_append_left (by rw [u];exact d)]
 have A:=(h.lt g (by simp [fc])).2;refine ⟨ah r (λq d=>?_),f.os,f.tape,f.output,by rw [Sort.size_grow,u];omega,λq d C=>(s q d).trans (f.block q C)⟩;simp [fc] at d;subst d;exact s _ A
end
theorem o6 {K:Type} {lt:K->K->Bool} (T:Tot lt):Sort.SWO lt:=by
 refine ⟨T.irr,T.tr,λx y z h1 b=>?_⟩;cases h3:lt x z
 · rfl
 · exfalso;by_cases e:y=x
   · subst e;rw [h3] at b;cases b
   · rcases T.tot y x e with c|c
     · have:=T.tr _ _ _ c h3;rw [this] at b;cases b
     · rw [c] at h1;cases h1
def cw {K:Type} (lt:K->K->Bool) (b:List K):List K:=b.mergeSort λx y=> !(lt y x)
theorem cZ {K:Type} (lt:K->K->Bool) (b:List K):(cw lt b).Perm b:=List.mergeSort_perm _ _
theorem fV {K:Type} {lt:K->K->Bool} (T:Tot lt) (d:List K):(cw lt d).Pairwise λa b=>(!(lt b a))=true:=by
 refine List.pairwise_mergeSort (le:=λx y=> !(lt y x)) (λa b c h1 e=>?_) (λa b=>?_) d
 · simp only [er] at *;exact (o6 T).ntrans _ _ _ e h1
 · simp only [Bool.or_eq_true,er];cases h:lt b a
   · exact .inl rfl
   · exact .inr (T.asym h)
theorem bh {K:Type} {lt:K->K->Bool} (T:Tot lt) {c ys:List K} (f:c.Perm ys) (g:ys.Pairwise λa b=>lt a b=true):cw lt c=ys:=by
 refine ((cZ lt c).trans f).eq_of_pairwise (λa b _ _ h1 d=>?_) (fV T c) (g.imp λ{a b} h=>by simp [T.asym h]);simp only [er] at h1 d;by_cases e:a=b
 · exact e
 · rcases T.tot a b e with h|h
   · rw [d] at h;cases h
   · rw [h1] at h;cases h
theorem ro {K:Type} {lt:K->K->Bool} (T:Tot lt) {c ys:List K} (f:c.Perm ys):cw lt c=cw lt ys:=by
 refine ((cZ lt c).trans (f.trans (cZ lt ys).symm)).eq_of_pairwise (λa b _ _ h1 d=>?_) (fV T c) (fV T ys);simp only [er] at h1 d;by_cases e:a=b
 · exact e
 · rcases T.tot a b e with h|h
   · rw [d] at h;cases h
   · rw [h1] at h;cases h
theorem iq:ltOf br=ltRK:=by
 funext a b
 unfold ltOf;rw [Bool.eq_iff_iff,decide_eq_true_eq];exact eP a b
theorem pR:ltOf oG=ltPK:=by
 funext a b
 unfold ltOf;rw [Bool.eq_iff_iff,decide_eq_true_eq];exact xI a b
theorem ri (lo:Nat) (w:cv) (v:dp) (b:List RK) (h:w.ownsRow lo 36 2 v b.length (b.flatMap rkCells)) (L:b.length<=1000000):
 gy prog 80 #[v, .func (.func 49) #[] #[]] w λe w'=>e=c6 (.tuple #[])/\w'.ownsRow lo 36 2 v b.length ((cw ltRK b).flatMap rkCells)/\w'.os=w.os/\w'.tape=w.tape/\w'.output=w.output/\w.heap.size<=w'.heap.size/\∀q,q<w.heap.size->v.ownBlock≠X q->w'.heap[q]? =w.heap[q]? :=by
 rcases h.2 with ⟨rfl,u⟩|⟨g,t,G,rfl,_⟩
 · have E:b=[]:=fp u;subst E;refine (AnyF.slices_SortFunc_none vl Y 0 (.func (.func 49) #[] #[]) w).mono ?_;rintro e w' ⟨rfl,rfl⟩;exact ⟨rfl,by simpa [cw] using h,rfl,rfl,rfl,cb _,λ_ _ _=>rfl⟩
 · have A:=(h.lt g (by simp [fc])).2;have z:=ip rkCells (by decide) (λ_=>rfl) h;have:=AnyQ.slices_SortFunc_total vl 2 Tryz.isAgg36 sizeOf36 rkCells (λ_=>rfl) (λx v f=>by
    simp only [rkCells,e8,ee,or_false] at f;rcases f with rfl|rfl<;>rfl) br (by rw [iq];exact o6 aN) 49 #[] g 0 t b.toArray w (enters_of func49 (by kernel_rfl) rfl)
    (λm i H I x y=>(fa x y _).mono λe w' d=>⟨d.1,d.2⟩) z A (by simp;omega) (λx y h1 c=>by
     rw [iq] at h1 c;by_cases e:x=y
     · exact e
     · rcases aN.tot x y e with h|h
       · rw [h1] at h;cases h
       · rw [c] at h;cases h)
   refine (this).mono ?_;rintro e w' ⟨rfl,n,i,rfl⟩;rw [iq];obtain ⟨j,k,l,p,r,s⟩:=jo (ys:=cw ltRK b) rkCells (by decide) (λ_=>rfl) (cZ ltRK b).length_eq h n i;exact ⟨rfl,j,k,l,p,r,λq D C=>s q D (λe=>C (by rw [e];simp [fc]))⟩
theorem fv (n:Nat) (M:4<=n) (g:Nat) (lb:Array dp) (E:∀args w,(callFunc g args).run prog w= .ok (.enter g args) w) (c:List RK) (L:c.length<=1000000) (D:List RK->Prop) (G:List RK->RK->Prop) (H:∀t x,G t x->t.length<100000000) (w:cv)
 (s:iE dz (n - 1 - 1) prog g lb (λx:RK=> #[recK x]) (λh=>h.Perm c) D G (λ_=>False) w):
 gy prog 47 #[.func (.func g) #[] lb, .func (.func 49) #[] #[]] w λe w'=>∃v,e=c6 v/\w'.ownsRow w.heap.size 36 2 v c.length ((cw ltRK c).flatMap rkCells)/\Bw w w':=by
 have y:=Z (uH n M g lb E _ _ _ H _ s);clear s;go_enter func47,ntmps47;go_wp2_with (go_at_call 88;((with_reducible refine em y.o ?_);rintro e w1 ⟨v,h,rfl,f,d,r⟩;have C:=Z (ri w.heap.size w1 v h d (by rw [f.length_eq];exact L));have i:=Z f;have b:=Z r;have A:=Z d;clear f d r))
 go_at_call 80;refine C.mono ?_;rintro e N ⟨rfl,h1,j,l,m,p,q⟩;have z:=Z h1;have u:Hid (Bw w N):=⟨j.trans b.o.os,l.trans b.o.tape,m.trans b.o.output,ex b.o.size p,λk I=>(q k (by have:=b.o.size;omega) (λe=>by have:=(A.o.lt k e).1;omega)).trans (b.o.block k I)⟩;clear h1 j l m p q;go_wp2;go_ret;refine ⟨v,rfl,?_,u.o⟩;have:=z.o;rw [i.o.length_eq,ro aN i.o] at this;exact this
theorem wn (lo:Nat) (w:cv) (v:dp) (b:List PK) (h:w.ownsRow lo 134 4 v b.length (b.flatMap pkCells)) (L:b.length<=1000000):
 gy prog 120 #[v, .func (.func 67) #[] #[]] w λe w'=>e=c6 (.tuple #[])/\w'.ownsRow lo 134 4 v b.length ((cw ltPK b).flatMap pkCells)/\w'.os=w.os/\w'.tape=w.tape/\w'.output=w.output/\w.heap.size<=w'.heap.size/\∀q,q<w.heap.size->v.ownBlock≠X q->w'.heap[q]? =w.heap[q]? :=by
 rcases h.2 with ⟨rfl,u⟩|⟨g,t,G,rfl,_⟩
 · have E:b=[]:=fp u;subst E;refine (AnyF.slices_SortFunc_none rn Y 0 (.func (.func 67) #[] #[]) w).mono ?_;rintro e w' ⟨rfl,rfl⟩;exact ⟨rfl,by simpa [cw] using h,rfl,rfl,rfl,cb _,λ_ _ _=>rfl⟩
 · have A:=(h.lt g (by simp [fc])).2;have z:=ip pkCells (by decide) (λ_=>rfl) h;have:=AnyQ.slices_SortFunc_total rn 4 Tryz.isAgg134 sizeOf134 pkCells (λ_=>rfl) (λx v f=>by
    simp only [pkCells,e8,ee,or_false] at f;rcases f with rfl|rfl|rfl|rfl<;>rfl) oG (by rw [pR];exact o6 cY) 67 #[] g 0 t b.toArray w (enters_of func67 (by kernel_rfl) rfl)
    (λm i H I x y=>(kX x y _).mono λe w' d=>⟨d.1,d.2⟩) z A (by simp;omega) (λx y h1 c=>by
     rw [pR] at h1 c;by_cases e:x=y
     · exact e
     · rcases cY.tot x y e with h|h
       · rw [h1] at h;cases h
       · rw [c] at h;cases h)
   refine (this).mono ?_;rintro e w' ⟨rfl,n,i,rfl⟩;rw [pR];obtain ⟨j,k,l,p,r,s⟩:=jo (ys:=cw ltPK b) pkCells (by decide) (λ_=>rfl) (cZ ltPK b).length_eq h n i;exact ⟨rfl,j,k,l,p,r,λq D C=>s q D (λe=>C (by rw [e];simp [fc]))⟩
theorem nN (n:Nat) (M:4<=n) (g:Nat) (lb:Array dp) (E:∀args w,(callFunc g args).run prog w= .ok (.enter g args) w) (c:List PK) (L:c.length<=1000000) (D:List PK->Prop) (G:List PK->PK->Prop) (H:∀t x,G t x->t.length<100000000) (w:cv)
 (s:iE dz (n - 1 - 1) prog g lb (λx:PK=> #[pairV x]) (λh=>h.Perm c) D G (λ_=>False) w):
 gy prog 65 #[.func (.func g) #[] lb, .func (.func 67) #[] #[]] w λe w'=>∃v,e=c6 v/\w'.ownsRow w.heap.size 134 4 v c.length ((cw ltPK c).flatMap pkCells)/\Bw w w':=by
 have y:=Z (sL n M g lb E _ _ _ H _ s);clear s;go_enter func65,ntmps65;go_wp2_with (go_at_call 119;((with_reducible refine em y.o ?_);rintro e w1 ⟨v,h,rfl,f,d,r⟩;have C:=Z (wn w.heap.size w1 v h d (by rw [f.length_eq];exact L));have i:=Z f;have b:=Z r;have A:=Z d;clear f d r))
 go_at_call 120;refine C.mono ?_;rintro e N ⟨rfl,h1,j,l,m,p,q⟩;have z:=Z h1;have u:Hid (Bw w N):=⟨j.trans b.o.os,l.trans b.o.tape,m.trans b.o.output,ex b.o.size p,λk I=>(q k (by have:=b.o.size;omega) (λe=>by have:=(A.o.lt k e).1;omega)).trans (b.o.block k I)⟩;clear h1 j l m p q;go_wp2;go_ret;refine ⟨v,rfl,?_,u.o⟩;have:=z.o;rw [i.o.length_eq,ro cY i.o] at this;exact this
end
section
open Go.RowKit Go.Maps Go.Shelf
def fb (lo b:Nat) (w:cv) (v:dp) (l:List PK):Prop:=aB lo b w v l.length (l.flatMap pkCells)
theorem fb.kept {lo b:Nat} {w w':cv} {v:dp} {l:List PK} (h:fb lo b w v l) (k:jq lo b w w'):fb lo b w' v l:=aB.kept h k
theorem fb.one {lo g:Nat} {w:cv} {v:dp} {l:List PK} (h:fb lo g w v l) (i:Nat) (d:i<l.length):
 ∃b c f,v=c9 (X ⟨b,c,Y⟩) l.length f/\lo<=b/\b<g/\w.cell? ⟨b,c+i * 4,Y⟩=X (J U l[i].1.1)/\w.cell? ⟨b,c+i * 4+1,Y⟩=X (J U l[i].1.2)/\
  w.cell? ⟨b,c+i * 4+2,Y⟩=X (J U l[i].2.1)/\w.cell? ⟨b,c+i * 4+3,Y⟩=X (J U l[i].2.2):=by
 obtain ⟨a,f,u,h⟩:=h;have t:l.flatMap pkCells≠[]:=by
  cases l with
  |nil=>simp at d
  |cons s l=>simp [pkCells]
 obtain ⟨b,c,r,h1,q,e⟩:=h t;subst r;have j:=cJ pkCells 4 (λ_=>rfl) l i d 0 (by omega);have k:=cJ pkCells 4 (λ_=>rfl) l i d 1 (by omega);have m:=cJ pkCells 4 (λ_=>rfl) l i d 2 (by omega);have p:=cJ pkCells 4 (λ_=>rfl) l i d 3 (by omega);exact ⟨b,c,f,u,h1,q,e _ _ j,by rw [g2];exact e _ _ k,by rw [g2];exact e _ _ m,by rw [g2];exact e _ _ p⟩
theorem ni (u v:dp) (l m:List PK) (w:cv) (t:fb 0 w.heap.size w u l) (x:fb 0 w.heap.size w v m) (hl:l.length<=1000000) (hm:m.length<=1000000):
 gy prog 14 #[u,v] w λe w'=>e=c6 (c5 (decide (l=m)))/\Bw w w':=by
 have M:=Z t;have N:=Z x;obtain ⟨a,c,rfl,_⟩:=t;obtain ⟨a',c',rfl,_⟩:=x;by_cases hlm:l.length=m.length
 · have a0:((l.length:Int)!=(m.length:Int))=false:=by simp;omega
   have a9:m.length<=l.length:=by omega
   have a8:l.length<=m.length:=by omega
   have a1:=Z hlm;clear hlm;go_enter func14,ntmps14;go_wp2_with fail
   go_loopw [5] (λi wr=>∃k:Nat,k<=l.length/\i=J U k/\Hid (l.take k=m.take k)/\Bw w wr) (λi _=>l.length - (intOf i).toNat)
   case atStart=>exact ⟨0,g8 _,rfl,rfl,fx _ _⟩
   case round=>
    obtain ⟨k,hk,rfl,j,d⟩:=hrel;by_cases hlt:k<l.length
    · have s:k<m.length:=by omega
      obtain ⟨b,ac,a2,g,_,a4,O,c1,c2,R⟩:=(fb.kept M.o (aX d (cb _))).one k hlt;cases g;obtain ⟨b',ad,a3,g,_,a5,T,V,W,d3⟩:=(fb.kept N.o (aX d (cb _))).one k s;cases g;have a7:(k:Int)<(m.length:Int):=by omega
      have r:Hid (l.take (k+1)=l.take k++[l[k]]/\m.take (k+1)=m.take k++[m[k]]):=⟨da hlt,da s⟩;have L:Hid (l=m->l[k]=m[k]):=λh=>by subst h;rfl
      generalize l[k]=p at *;generalize m[k]=q at *;obtain ⟨⟨y,z⟩,A,C⟩:=p;obtain ⟨⟨D,E⟩,G,H⟩:=q;dsimp only at O c1 c2 R T V W d3;have a6:b<wr.heap.size:=by have:=d.size;omega
      by_cases hpq:((y,z),A,C)=((D,E),G,H)
      · cases hpq;go_wp2_with fail
        go_region;go_wp2_with fail
        go_roundw
        case rel=>exact ⟨k+1,by omega,by go_num,by unfold Hid;rw [r.o.1,r.o.2,j.o],d.drew⟩
        case measure=>simp [intOf];omega
      · have f:Hid (l≠m):=λh=>hpq (L h);by_cases h1:y=D
        · subst h1;by_cases h2:z=E
          · subst h2;by_cases h3:A=G
            · subst h3;have h4:¬C=H:=λh=>hpq (by rw [h]);clear hpq;go_wp2_with fail
              go_region;go_wp2_with fail
              go_ret;exact ⟨an (by symm;exact decide_eq_false f.o),d.drew⟩
            · clear hpq;go_wp2_with fail
              go_region;go_wp2_with fail
              go_ret;exact ⟨an (by symm;exact decide_eq_false f.o),d.drew⟩
          · clear hpq;go_wp2_with fail
            go_region;go_wp2_with fail
            go_ret;exact ⟨an (by symm;exact decide_eq_false f.o),d.drew⟩
        · clear hpq;go_wp2_with fail
          go_region;go_wp2_with fail
          go_ret;exact ⟨an (by symm;exact decide_eq_false f.o),d.drew⟩
    · have I:Hid (l=m):=by have:=j.o;rw [dy (by omega),dy (by omega)] at this;exact this
      go_wp2_with fail
      go_ret;exact ⟨an (by symm;exact decide_eq_true I.o),d⟩
 · have a0:((l.length:Int)!=(m.length:Int))=true:=by simp;omega
   go_enter func14,ntmps14;go_wp2_with fail
   go_ret;exact ⟨an (by symm;exact decide_eq_false (λh=>hlm (by rw [h]))),fx _ _⟩
end
section
open Go.RowKit Go.Shelf
def bv (l:Bs):List dp:=l.map λc=>J ca c.toNat
theorem z7 (a b:Bs):bv (a++b)=bv a++bv b:=by simp [bv]
theorem xH (w:cv) (a:Addr) (b:Nat) (l:Bs) (c:∀j u,(bv l)[j]? =X u->w.cell? (a.add j)=X u):(convert 76 9 (c9 (X a) l.length b)).run prog w= .ok (S l) w:=
 run_convert_bytes_back w 76 9 5 a b l underlying76 underlying5 underlying9 (λj d=>c j _ (by simp [bv,d]))
attribute [local go_sem] Oper.semAt_some
def x8 (B:Nat) (I:Bs->Nat->cv->Prop):Prop:=
 ∀d m b c e,I d m b->b.grownBy c e->(∀r,e=X r->B<=r/\∃o:Obj,b.heap[r]? =X o/\o.isCells=false)->I d m c
theorem x8.put {B:Nat} {I:Bs->Nat->cv->Prop} (h:x8 B I) {d:Bs} {m:Nat} {b:cv} (g:I d m b) (l:Nat) (i:B<=l) (o c:Obj) (j:b.heap[l]? =X o) (f:o.isCells=false):I d m (b.putObj l c):=
 h d m b _ (X l) g (g0 b l c) (λr e=>by cases e;exact ⟨i,o,j,f⟩)
theorem x8.alloc {B:Nat} {I:Bs->Nat->cv->Prop} (h:x8 B I) {d:Bs} {m:Nat} {b:cv} (c:I d m b) (o:Obj):I d m (b.alloc o):=
 h d m b _ Y c (World.grownBy_alloc b o Y) (λr e=>by cases e)
def Cy (I:Bs->Nat->cv->Prop) (d:Bs) (m:Nat) (W:cv):Exit->Act->cv->Prop
 | .normal,_,W'=>gt W W'/\I d m W'
 |_,_,_=>False
section
variable {F:Fence} {n:Nat} {P:Program}
def Ak (F:Fence) (n:Nat) (P:Program) (gf:Nat) (lb:Array dp) (Bn:Nat) (N:Nat):Prop:=
 ∀(l:Nat) (J:Bs->Nat->cv->Prop) (W:cv),(∀d m b,J d m b->b.cell? ⟨Bn,0,Y⟩=X (.int .u64 m)/\b.frozen? ⟨Bn,0,Y⟩=false)->
  (∀d m (c:Nat) b,J d m b->J d c (b.setCell ⟨Bn,0,Y⟩ (.int .u64 c)))->
  (∀d m (g:Nat) b,g<128->J d m b->d.length<=9->YieldAt F (n - 1) P l #[.int ca g,c5 (decide (0<m))] b λe h=>e=c6 (c5 true)/\J (d++[gd (if 0<m then g+128 else g)]) m h)->
  J [] N W->CallsIn F n P gf (#[.func (.yield l) #[] #[]]++lb) W λe f=>(∃v,e=c6 v)/\J (numR N) 0 f
theorem qQ {g:g7} {ps:Array Tmp} {assign body:Code} {Q:Exit->Act->cv->Prop} {a:Act} {w:cv} (ac:F.round=Y) (h1:1<=n) {gf:Nat} {lb:Array dp} {Bn N:Nat}
 (hg:a.eval g= .func (.func gf) #[] lb) (L:F.fn gf) (G:∀args w,(callFunc gf args).run P w= .ok (.enter gf args) w) (ad:Ak F (n - 1) P gf lb Bn N) (a9:ps.size=2)
 (I:Bs->Nat->cv->Prop) (k:x8 w.heap.size I) (a0:∀d m b,I d m b->b.cell? ⟨Bn,0,Y⟩=X (J .u64 m)/\b.frozen? ⟨Bn,0,Y⟩=false)
 (al:∀d m (r:Nat) b,I d m b->I d r (b.setCell ⟨Bn,0,Y⟩ (J .u64 r))) (ao:Bn<w.heap.size) (H:I [] N w) (z:Nat->Bool->Act)
 (T:∀(l:Nat) (x:Nat) (t:Bool) (W:cv) (K:Act->cv->Prop),K (z x t) W->
  assign.wpIn (F.inRound l) (n - 1 - 1) P (Exit.then K (λ_ _ _=>False)) {tmps:=(ps.zip #[J ca (x:Int),c5 t]).foldl (λt (p,v)=>t.setIfInBounds p v) a.tmps,defers:=[]} W)
 (V:∀(l:Nat) (d:Bs) (m x:Nat) (W:cv),x<128->I d m W->d.length<=9->body.wpIn (F.inRound l) (n - 1 - 1) P (Cy I (d++[gd (if 0<m then x+128 else x)]) m W) (z x (decide (0<m))) W)
 (a1:∀(D:Nat) (W:cv),w.heap.size<=D->I (numR N) 0 W->W.heap[D]? =X (.deferred (X []))->Q .normal {a with defers:={target:= .collected D,args:= #[]}::a.defers} W):
 (Code.rangeFunc g ps assign body).wpIn F n P Q a w:=by
 refine wpIn_rangeFunc ?_;intro fn a2;rw [ac];obtain ⟨rec,h⟩:∃rec:LoopState->Loop,rec=λst=>{state:=st,pending:=Y,fn,tmps:=a.tmps,params:=ps,assign,body,defers:=w.heap.size}:=⟨_,rfl⟩;obtain ⟨c,q⟩:=Qe ((w.alloc (.deferred (X []))).alloc (.loop (rec .ready)));have R:c.heap[w.heap.size+1]? =X (.loop (rec .ready)):=by rw [<- q];have:=dk (w.alloc (.deferred (X []))) (.loop (rec .ready));rwa [gs] at this
 have O:c.heap[w.heap.size]? =X (.deferred (X [])):=by rw [<- q];exact (e6 _ _ _ (by simp)).trans (dk w _)
 have M:I [] N c:=by rw [<- q];exact k.alloc (k.alloc H _) _
 refine ⟨w.heap.size+1,[{target:= .collected w.heap.size,args:= #[]}],c,{target:= .fn (.func gf) lb,args:= #[.func (.yield (w.heap.size+1)) #[] #[]]},c,gf,
  #[.func (.yield (w.heap.size+1)) #[] #[]]++lb,c,?_,?_,?_,?_,λ_=>h1,?_⟩
 · rw [<- q,h];exact run_enterLoop_outer _ _ _ _ _
 · simp only [resolve,hg];simp [go_sem]
 · intro f' A;simp [Target.leads] at A;subst A;exact L
 · simp [invoke,go_sem,G]
 · refine (ad (w.heap.size+1) (λd m W=>I d m W/\W.heap[w.heap.size+1]? =X (.loop (rec .ready))/\W.heap[w.heap.size]? =X (.deferred (X []))) c
    (λd m b i=>a0 d m b i.1) (λd m r b i=>⟨al d m r b i.1,(ej _ _ _ _ (by simp;omega)).trans i.2.1,(ej _ _ _ _ (by simp;omega)).trans i.2.2⟩) ?_ ⟨M,R,O⟩).mono ?_
   · rintro d m x W i ⟨s,f,u⟩ a7;have a8:w.heap.size+1<W.heap.size:=(Array.getElem?_eq_some_iff.1 f).1;have E:=run_yield (P:=P) (args:= #[J ca (x:Int),c5 (decide (0<m))]) f (by rw [h];simp [a9]);rw [h] at E;refine ⟨fn,_,assign,body,E,roundIn_of_wpIn a2 (T _ x _ W _ ⟨_,run_beginRound f (by rw [h]),?_⟩)⟩;have a6:(W.putObj (w.heap.size+1) (.loop {rec .ready with state:= .busy})).heap[w.heap.size+1]? =X (.loop {rec .ready with state:= .busy}):=e9 a8;have a5:(W.putObj (w.heap.size+1) (.loop {rec .ready with state:= .busy})).heap[w.heap.size]? =X (.deferred (X [])):=(cd (by omega)).trans u;refine wpIn_mono (V _ d m x _ i (k.put s _ (by omega) _ _ f rfl) a7) ?_;rintro e a3 W3 j;cases e with
     |normal=> obtain ⟨C,a4⟩:=j;have y:=C.same _ _ a6 rfl;have hr:=run_endRound (P:=P) Y y;refine ⟨_,_,hr,rfl,k.put a4 _ (by omega) _ _ y rfl,?_,(cd (by omega)).trans (C.same _ _ a5 rfl)⟩;rw [e9 (Array.getElem?_eq_some_iff.1 y).1,h];rfl
     |ret=>exact j.elim
     |exit id=>exact j.elim
     |goto t=>exact j.elim
     |panic ch=>exact j.elim
     |outgrown=>exact j.elim
   · rintro e W2 ⟨⟨v,rfl⟩,s,f,u⟩;exact ⟨Y,_,by have:=run_endLoop (P:=P) f (by rw [h];simp);rw [h] at this;exact this,a1 _ _ (cb _) (k.put s _ (by omega) _ _ f rfl) ((cd (by omega)).trans u)⟩
end
def pU (W:cv) (Bn:Nat):Nat:=match W.cell? ⟨Bn,0,Y⟩ with
 |some (J _ z)=>z.toNat
 |_=>0
theorem uA (F:Fence) (n:Nat) (V:F.fn 208) (a2:F.round=Y) (hn:1<=n) (Bn N:Nat) (hN:N<18446744073709551616):Ak F n prog 208 #[c4 (X ⟨Bn,0,Y⟩)] Bn N:=by
 intro l H W A E z T;refine e4 func208 rfl V ?_ a2;simp only [ntmps208,cx,cl,cP,dd,dc,cq,cm,cy,cu,cz,cQ];have k:=Z A;have G:=Z E;have v:=Z z;clear A E z;gi_wp2
 gi_loopw [3] (λ_ wr=>∃(d:Bs) (m:Nat),Hid (H d m wr)/\Hid (d++numR m=numR N)/\m<18446744073709551616) (λ_ wr=>pU wr Bn)
 case atStart=>exact ⟨[],N,T,rfl,hN⟩
 case round=>
  obtain ⟨d,m,u,p,hm⟩:=hrel;obtain ⟨c1,f1⟩:=k d m wr u.o;obtain ⟨b,h⟩:∃b,b=m / 128:=⟨_,rfl⟩;obtain ⟨r,i⟩:∃r,r=m%128:=⟨_,rfl⟩;have D:r<128:=by omega
  have q:=Z (G d m b wr u.o);have e5:(m:Int).tmod 128=r:=by rw [Int.tmod_eq_emod_of_nonneg (by omega)];omega
  have O:(m:Int) / 128=b:=by omega
  have e2:IntKind.u8.wrap (r:Int)=r:=IntWalk.u8_in _ (by omega);have C:d.length<=9:=by have h1:=congrArg List.length p.o;have h2:=kE N 9 (by omega);have h3:=pM m;simp at h1;omega
  have a0:pU wr Bn=m:=by unfold pU;rw [c1];simp
  by_cases hpos:0<b
  · have t:=Z (show numR m=gd (r+128)::numR b from by rw [h,i];exact lZ (by omega));obtain ⟨fn,a3,L,M,j,f⟩:=v d b r _ D q.o C;simp only [hpos,decide_true] at j;have g:=Z f;have a1:b<m:=by omega
    have HM:=Z h;clear f i h;gi_wp2
    refine g.mono ?_;rintro e I ⟨rfl,c⟩;obtain ⟨x,R⟩:=k _ _ _ c;have s:=Z c;have a4:¬b=0:=by omega
    clear c;gi_wp2
    go_roundw
    case rel=> refine ⟨_,b,s,?_,by omega⟩;rw [if_pos hpos];show _=_;rw [<- p.o,t.o,dx];rfl
    case measure=> rw [a0];unfold pU;rw [x];simpa using a1
  · obtain rfl:b=0:=by omega
    have t:=Z (show numR m=[gd r] from by rw [i,jc (by omega)];congr 2;omega);obtain ⟨fn,a3,L,M,j,f⟩:=v d 0 r _ D q.o C;simp only [Nat.lt_irrefl,decide_false] at j;have g:=Z f;clear f i h hpos;rw [show ((0:Nat):Int)=0 from rfl] at O j g q;gi_wp2
    refine g.mono ?_;rintro e I ⟨rfl,c⟩;obtain ⟨x,R⟩:=k _ _ _ c;have s:=Z c;clear c;gi_wp2
    refine gb (fz rfl _ _ _) rfl ⟨⟨_,rfl⟩,?_⟩;have y:=s.o;rw [if_neg (Nat.lt_irrefl 0), <- t.o,p.o] at y;exact y
theorem xk (F:Fence) (n:Nat) (b:F.fn 162) (c:F.round=Y) (N:Nat) (w:cv):
 CallsIn F n prog 162 #[J .u64 N] w λe w'=>e=c6 (.func (.func 208) #[] #[c4 (X ⟨w.heap.size,0,Y⟩)])/\w'=w.alloc (c7 #[J .u64 N] 143):=by
 refine e4 func162 rfl b ?_ c;simp only [ntmps162,cx,cl,cP,dd,dc,cq,cm,cy,cu,cz,cQ];gi_wp2
 go_ret;exact ⟨rfl,rfl⟩
structure iO (w:cv) (Bn Bo:Nat) (d:Bs) (m:Nat) (W:cv):Prop where
 c:W.heap[Bn]? =some (.cells #[.int .u64 (m:Int)] 143 (0,0))
 o:∃v,Boxed W Bo 76 v/\W.ownsRow w.heap.size 5 1 v d.length (bv d)
 b:Bw w W
theorem iO.far {w i b:cv} {Bn f:Nat} {d:Bs} {m:Nat} (h:iO w Bn f d m i) (p:Bw w b) (e:∀(k:Nat) (o:Obj),i.heap[k]? =X o->o.isCells=true->b.heap[k]? =X o):iO w Bn f d m b:=by
 obtain ⟨v,r,l⟩:=h.o;refine ⟨e _ _ h.c rfl,⟨v,e _ _ r rfl,ah l (λg q=>?_)⟩,p⟩;obtain ⟨s,j⟩:=aA l q;rw [j];exact e _ _ j rfl
theorem iO.firm (w:cv) (Bn l B:Nat) (p:w.heap.size<=B):x8 B (iO w Bn l):=by
 intro d m r s u h i j;refine h.far (h.b.grown i h.b.size (λk e=>ex p (j k e).1)) (λk o f q=>?_);refine (i.block k (ae f) (λe=>?_)).trans f;obtain ⟨_,t,c,g⟩:=j k e.symm;rw [f] at c;injection c with c
 subst c;rw [q] at g;cases g
theorem iO.set {w j:cv} {Bn i:Nat} {d:Bs} {m:Nat} (h:iO w Bn i d m j) (r:i≠Bn) (p:w.heap.size<=Bn) (l:Nat):iO w Bn i d l (j.setCell ⟨Bn,0,Y⟩ (J .u64 l)):=by
 obtain ⟨v,s,k⟩:=h.o;refine ⟨(ap h.c 0 _).trans rfl,⟨v,(ej _ _ _ _ r).trans s,ah k (λg q=>ej _ _ _ _ (λ(e:g=Bn)=>?_))⟩,h.b.setCell p _⟩;obtain ⟨t,f⟩:=aA k q;rw [e,h.c] at f;injection f with f
 injection f with _ f
 exact absurd f (by decide)
theorem rL {w W w1:cv} {Bn c m n:Nat} {v:dp} {i:List dp} {o:Obj} (h:W.heap[Bn]? =X (c7 #[J .u64 (m:Int)] 143 (0,0))) (g:W.ownsRow w.heap.size 5 1 v n i) (d:(W.alloc o).grownBy w1 v.ownBlock) (f:Bn≠c) (u:dp):
 (w1.setCell ⟨c,0,Y⟩ u).heap[Bn]? =X (c7 #[J .u64 (m:Int)] 143 (0,0)):=by
 rw [ej _ _ _ _ f,d.block Bn (by have:=ae h;simp;omega) (λe=>?_),e6 _ _ _ (ae h)]
 · exact h
 · obtain ⟨j,b⟩:=aA g e.symm;rw [h] at b;injection b with b
   injection b with _ b
   exact absurd b (by decide)
theorem Co:∀x:Fin 128,bits .or ca (x.val:Int) 128=((x.val+128:Nat):Int):=by decide
open Go.RowKit Go.Shelf
attribute [local go_sem] Oper.semAt_some
theorem wO (F:Fence) (n:Nat) (a7:F.fn 116) (a8:F.fn 162) (V:F.fn 208) (u:F.round=Y) (hn:3<=n) (N:Nat) (hN:N<18446744073709551616) (w:cv):
 CallsIn F n prog 116 #[J .u64 N] w λe w'=>e=c6 (S (numR N))/\Bw w w':=by
 have h1:1<=n:=by omega
 refine gq func116 rfl a7 ?_ u;simp only [ntmps116,cx,cl,cP,dd,dc,cq,cm,cy,cu,cz,cQ];gi_wp2_with (gi_at_call 162;refine (xk F (n - 1) a8 u _ _).mono ?_;rintro e w' ⟨rfl,rfl⟩)
 have bO:=Boxed.new w 76 (c9 Y 0 0);have a1:=dk (w.alloc (c7 #[c9 Y 0 0] 76)) (c7 #[J .u64 (N:Int)] 143);rw [gs] at a1;have a0:Bw w ((w.alloc (c7 #[c9 Y 0 0] 76)).alloc (c7 #[J .u64 (N:Int)] 143)):=((fx _ w).alloc (cb _) _).alloc (by simp) _
 refine qQ u h1 (gf:=208) (lb:= #[c4 (X ⟨w.heap.size+1,0,Y⟩)]) rfl V (enters_of func208 (by kernel_rfl) rfl) (uA F (n - 1) V u (by omega) (w.heap.size+1) N hN) rfl
  (iO w (w.heap.size+1) w.heap.size) (iO.firm w _ _ _ a0.size) (λd m a5 h=>⟨by rw [aa h.c];rfl,ab h.c 0⟩) (λd m m' a5 h=>h.set (by omega) (by omega) m') (by simp) ⟨a1,⟨_,bO.alloc _,gn _ _ _ _⟩,a0⟩
  (λx t=>{tmps:= #[J .u64 N,undef, .string ⟨#[]⟩,c4 (X ⟨w.heap.size,0,Y⟩),J ca x,c5 t,J .u64 N, .func (.func 208) #[] #[c4 (X ⟨w.heap.size+1,0,Y⟩)],J ca x,c5 t,undef,undef,undef,undef,undef,undef,undef,undef,undef],defers:=[]}) ?assign ?body ?done
 case assign=>
  intro l x t W K s;gi_wp2
  exact s
 case body=>
  rintro l d m x W hx h ao;obtain ⟨z,O⟩:∃z,z=gd (if 0<m then x+128 else x):=⟨_,rfl⟩;rw [<- O];have T:=Z O;clear O;obtain ⟨v,q,j⟩:=h.o;have hc:=q.cell;have H:=Z h;obtain ⟨i0,hi,a2,a3,a4⟩:=info_parts i5;have f:=Z h.b;have i:=Z j;have R:=Z q;clear h j q;by_cases hm:0<m
  · obtain ⟨y,M⟩:∃y,y=x+128:=⟨_,rfl⟩;have e1:bits .or ca (x:Int) 128=(y:Int):=by rw [M];exact Co ⟨x,hx⟩
    have HY:=Z M;clear M;gi_wp2_with (gi_at_builtin;refine wpListIn_append_own _ rfl _ _ 76 rfl w.heap.size 5 i0 (J ca 0) 1 1 underlying76 hi a2 a3 a4 rfl (by decide) _ _ _ rfl (i.o.alloc _) ⟨W.heap.size,0,Y⟩ 1 1 [J ca (y:Int)] rfl rfl (cell_one_new _ _ _) (by simp [gc]) (by unfold maxLen;omega) (by omega) (by have:=f.o.size;simp;omega) ?_;intro v' w1 p k _;obtain ⟨g',a6,rfl⟩:=gO p;obtain ⟨r,L,I,E,A⟩:=R.o.appended (by decide) i.o f.o.size (cb _) p k;have a9:=r.cell;have ac:=r.frozen)
    have G:=rL H.c i.o k (Nat.succ_ne_self w.heap.size);refine ⟨E,⟨G _,⟨_,L,?_⟩,f.trans A⟩⟩;rw [cc,z7];have C:z.toNat=y:=by rw [T.o,if_pos hm,HY.o];exact ofNat_toNat (by omega)
    simpa [bv,C] using I
  · obtain rfl:m=0:=by omega
    have au:decide (0<0)=false:=rfl;gi_wp2_with (gi_at_builtin;refine wpListIn_append_own _ rfl _ _ 76 rfl w.heap.size 5 i0 (J ca 0) 1 1 underlying76 hi a2 a3 a4 rfl (by decide) _ _ _ rfl (i.o.alloc _) ⟨W.heap.size,0,Y⟩ 1 1 [J ca (x:Int)] rfl rfl (cell_one_new _ _ _) (by simp [gc]) (by unfold maxLen;omega) (by omega) (by have:=f.o.size;simp;omega) ?_;intro v' w1 p k _;obtain ⟨g',a6,rfl⟩:=gO p;obtain ⟨r,L,I,E,A⟩:=R.o.appended (by decide) i.o f.o.size (cb _) p k;have a9:=r.cell;have ac:=r.frozen)
    have G:=rL H.c i.o k (Nat.succ_ne_self w.heap.size);refine ⟨E,⟨G _,⟨_,L,?_⟩,f.trans A⟩⟩;rw [cc,z7];have C:z.toNat=x:=by rw [T.o,if_neg (Nat.lt_irrefl 0)];exact ofNat_toNat (by omega)
    simpa [bv,C] using I
 case done=>
  rintro D W hD h s;obtain ⟨v,q,j⟩:=h.o;have hc:=q.cell;have al:(convert 76 9 v).run prog W= .ok (S (numR N)) W:=by
   rcases j.2 with ⟨rfl,hl⟩|⟨g,cp,ad,rfl,_⟩
   · exact absurd (fp hl) (rM N)
   · exact xH W ⟨g,0,Y⟩ _ _ (j.cells (g:=g) rfl)
  have f:=Z h.b;clear j h;gi_wp2
  refine ⟨by simp, .inl ⟨_,_,rfl,gP s,?_⟩⟩;exact ⟨_,results_tmp rfl _ _ _,rfl,f.o.trans (belowK_b (w:=w) (cb _) W D _ _ (by simp at hD;omega) s rfl rfl)⟩
theorem ge (N:Nat) (b:N<18446744073709551616) (w:cv):gy prog 116 #[J .u64 N] w λe w'=>e=c6 (S (numR N))/\Bw w w':=
 callsIn_wide.1 (wO dz 3 trivial trivial trivial rfl (cb _) N b w)
end
section
open Go.RowKit Go.Shelf
theorem yb (a:Nat) (h:a<18446744073709551616):a^^^18446744073709551615=18446744073709551615 - a:=by
 apply Nat.eq_of_testBit_eq;intro i;have b:(18446744073709551615:Nat)=2^64 - 1:=rfl;have c:(18446744073709551615:Nat) - a=2^64 - (a+1):=by rw [b];omega
 rw [Nat.testBit_xor,c,Nat.testBit_two_pow_sub_succ (by simpa using h),b,Nat.testBit_two_pow_sub_one];by_cases hi:i<64
 · simp [hi]
 · have:a.testBit i=false:=Nat.testBit_lt_two_pow (gp h (by show 2^64<=2^i;exact Nat.pow_le_pow_right (by decide) (by omega)));simp [hi,this]
theorem tK (n:Int) (h:i64B n) (w:cv):gy prog 117 #[J U n] w λe w'=>e=c6 (J .u64 (cW n))/\w=w':=by
 have d:=h;unfold i64B at d;have key:bits BinOp.xor IntKind.u64 (IntKind.u64.wrap (IntKind.u64.wrap n * 2)) (IntKind.u64.wrap (n / 9223372036854775808))=(cW n:Int):=by
  unfold cW;simp only [IntKind.wrap_u64];by_cases h0:0<=n
  · rw [if_pos h0];have b:n / 9223372036854775808%18446744073709551616=((0:Nat):Int):=by omega
    have c:n%18446744073709551616 * 2%18446744073709551616=(((2 * n).toNat:Nat):Int):=by omega
    rw [b,c,bits_xor_u64_nat _ _ (by omega) (by decide),Nat.xor_zero]
  · rw [if_neg h0];have b:n / 9223372036854775808%18446744073709551616=((18446744073709551615:Nat):Int):=by omega
    have c:n%18446744073709551616 * 2%18446744073709551616=(((18446744073709551616+2 * n).toNat:Nat):Int):=by omega
    rw [b,c,bits_xor_u64_nat _ _ (by omega) (by decide),yb _ (by omega)];congr 1
    omega
 clear d;go_enter func117,ntmps117;go_wp2_with fail
 go_ret;exact ⟨rfl,rfl⟩
end
section
open Go.RowKit Go.Maps Go.Shelf
def intV (n:Int):dp:=J U n
def bsV (s:Bs):dp:=S s
theorem rp {lo g:Nat} {w:cv} {v:dp} {α:Type} {f:α->dp} {l:List α} (h:aB lo g w v l.length (l.map f)) (k:Nat) (i:k<l.length):
 ∃b c d,v=c9 (X ⟨b,c,Y⟩) l.length d/\b<g/\w.cell? ⟨b,c+k,Y⟩=X (f l[k]):=by
 obtain ⟨a,d,q,h⟩:=h;obtain ⟨b,c,p,_,j,m⟩:=h (λe=>by rw [List.map_eq_nil_iff] at e;subst e;simp at i);refine ⟨b,c,d,by rw [q,p],j,m k _ ?_⟩;rw [List.getElem?_map,e7 i];rfl
theorem nP {n:Int} (h:i64B n):cW n<18446744073709551616:=by
 unfold i64B at h;unfold cW;split<;>omega
theorem eO {n:Nat} (h:n<18446744073709551616):(numR n).length<=10:=kE n 9 (by omega)
theorem ol (l:List Int) (b:∀n∈l,i64B n):((l.flatMap λn=>numR (cW n))).length<=10 * l.length:=by
 induction l with
 |nil=>simp
 |cons a l ih=> rw [fy,cc,cl];have:=eO (nP (b a ft));have:=ih λn c=>b n (g5 _ c);omega
theorem fK {α β:Type} (f:α->List β) (l:List α) (k:Nat) (h:k<l.length):(l.take (k+1)).flatMap f=(l.take k).flatMap f++f l[k]:=by
 rw [da h,g6];simp
theorem pS (n:Nat) (h:n<=100000000000):IntKind.u64.wrap (n:Int)=(n:Int):=IntWalk.u64_in _ (by omega)
theorem pZ (l:List Int) (v:dp) (w:cv) (h:aB 0 w.heap.size w v l.length (l.map intV)) (E:∀n∈l,i64B n) (hl:l.length<=100000):
 gy prog 63 #[v] w λe w'=>e=c6 (S (intsR l))/\Bw w w':=by
 have HS:=Z h;have z:=Z E;have HN:=Z (ge l.length (by omega));have s:=Z (eO (n:=l.length) (by omega));have e1:=pS l.length (by omega);obtain ⟨a,a7,rfl,_⟩:=h;clear E;have A:=Z (iB w w.heap.size (w.heap.size+1) rfl (by omega));go_enter func63,ntmps63
 go_wp2_with (first
  |(go_at_call 116;((with_reducible refine em (HN.o _) ?_);rintro e w1 ⟨rfl,q⟩;have M:w.heap.size+1<=w1.heap.size:=(by have:=q.size;simpa using this);have C:=Z (A.o.below q);have a2:=Z M;have R:=Z q;clear q M))
  |(go_at_call 112;((with_reducible refine em (dK (w.heap.size+1) w.heap.size Y [] (numR l.length) w1 C.o a2.o (by have:=s.o;simp;omega)) ?_);rintro e x ⟨rfl,g1,I,a5,L⟩;have W:=Z I;have a1:=Z L;clear I a5 L)))
 have a0:Hid (Bw w x):=(aM w _).trans ((R.o.mono (by simp)).trans (C.o.fr a1.o (cb _)));clear A;go_loopw [13] (λi wr=>∃(k:Nat) (c:Bs) (g:Option Nat),k<=l.length/\i=J U k/\Hid (c=numR l.length++(l.take k).flatMap λn=>numR (cW n))/\c.length<=2000000/\Hid (Bld (w.heap.size+1) w.heap.size g c wr)/\Hid (Bw w wr)) (λi _=>l.length - (intOf i).toNat)
 case atStart=>exact ⟨0,numR l.length,g1,g8 _,rfl,by unfold Hid;simp,by have:=s.o;omega,W,a0⟩
 case round=>
  obtain ⟨k,c,g,hk,rfl,y,a4,d,m⟩:=hrel;by_cases hlt:k<l.length
  · obtain ⟨b,ac,a8,hv,_,e0⟩:=rp (HS.kept (aX m.o (cb _))) k hlt;cases hv;unfold intV at e0;have t:=z _ (gx hlt);have p:Hid (c++numR (cW l[k])=numR l.length++(l.take (k+1)).flatMap λn=>numR (cW n)):=by unfold Hid;rw [fK _ _ _ hlt,y.o,dx]
    have u:(numR l.length++(l.take (k+1)).flatMap λn=>numR (cW n)).length<=1000010:=by have h1:=ol (l.take (k+1)) (λn hn=>z n (List.mem_of_mem_take hn));have h2:=s.o;rw [cc];rw [List.length_take] at h1;omega
    rw [<- p.o] at u;generalize l[k]=n at *;have O:=Z (tK n t);have N:=Z (ge (cW n) (nP t));generalize numR (cW n)=T at *;generalize cW n=sn at *;have D:Hid (c.length+T.length<=2000000):=by unfold Hid;simp at u;omega
    have a3:Hid (w.heap.size+1<=wr.heap.size):=by have:=d.o.old;unfold Hid;omega
    clear u t
    go_wp2_with (first
     |(go_at_call 117;((with_reducible refine em (O.o _) ?_);rintro e x ⟨rfl,rfl⟩))
     |(go_at_call 116;((with_reducible refine em (N.o _) ?_);rintro e x ⟨rfl,G⟩;have j:=Z G;clear G))
     |(go_at_call 112;((with_reducible refine em (dK (w.heap.size+1) w.heap.size g c T _ (d.o.below j.o) (ex a3.o j.o.size) (by have:=D.o;omega)) ?_);rintro e w3 ⟨rfl,g3,H,a6,f⟩;have V:=Z H;have r:=Z f;clear H a6 f)))
    go_roundw
    case rel=>exact ⟨k+1,c++T,g3,by omega,by go_num,p,by have:=D.o;simp;omega,V,m.o.trans ((j.o.mono m.o.size).trans ((d.o.below j.o).fr r.o (cb _)))⟩
    case measure=>simp [intOf];omega
  · have p:Hid (intsR l=c):=by unfold Hid intsR;rw [y.o,dy (by omega)]
    have a9:=a4;go_wp2_with (go_at_call 115;((with_reducible refine em (dX (w.heap.size+1) w.heap.size g c _ d.o (by omega)) ?_);rintro e w3 ⟨rfl,f⟩;have r:=Z (f.fr w.heap.size);clear f))
    go_ret;rw [p.o];exact ⟨rfl,m.trans (d.fr r.o (cb _))⟩
def dU (s:Bs):Bs:=numR s.length++s
theorem vw (l:List Bs):packR l=numR l.length++l.flatMap dU:=rfl
theorem vz (l:List Bs) (v:dp) (w:cv) (h:aB 0 w.heap.size w v l.length (l.map bsV)) (D:∀s∈l,s.length<=10000000000) (hl:l.length<=100000) (M:(l.flatMap dU).length<=10000000000):
 gy prog 68 #[v] w λe w'=>e=c6 (S (packR l))/\Bw w w':=by
 have HS:=Z h;have V:=Z D;have HN:=Z (ge l.length (by omega));have t:=Z (eO (n:=l.length) (by omega));have e1:=pS l.length (by omega);obtain ⟨a,ac,rfl,_⟩:=h;have HT:=Z M;clear D M;have y:=Z (iB w w.heap.size (w.heap.size+1) rfl (by omega));go_enter func68,ntmps68
 go_wp2_with (first
  |(go_at_call 116;((with_reducible refine em (HN.o _) ?_);rintro e w1 ⟨rfl,q⟩;have N:w.heap.size+1<=w1.heap.size:=(by have:=q.size;simpa using this);have z:=Z (y.o.below q);have a4:=Z N;have W:=Z q;clear q N))
  |(go_at_call 112;((with_reducible refine em (dK (w.heap.size+1) w.heap.size Y [] (numR l.length) w1 z.o a4.o (by have:=t.o;simp;omega)) ?_);rintro e O ⟨rfl,g1,H,a8,I⟩;have a1:=Z H;have a3:=Z I;clear H a8 I)))
 have a2:Hid (Bw w O):=(aM w _).trans ((W.o.mono (by simp)).trans (z.o.fr a3.o (cb _)));clear y;go_loopw [13] (λi wr=>∃(k:Nat) (c:Bs) (g:Option Nat),k<=l.length/\i=J U k/\Hid (c=numR l.length++(l.take k).flatMap dU)/\c.length<=20000000000/\Hid (Bld (w.heap.size+1) w.heap.size g c wr)/\Hid (Bw w wr)) (λi _=>l.length - (intOf i).toNat)
 case atStart=>exact ⟨0,numR l.length,g1,g8 _,rfl,by unfold Hid;simp,by have:=t.o;omega,a1,a2⟩
 case round=>
  obtain ⟨k,c,g,hk,rfl,x,a6,d,p⟩:=hrel;by_cases hlt:k<l.length
  · obtain ⟨b,au,ad,hv,_,e0⟩:=rp (HS.kept (aX p.o (cb _))) k hlt;cases hv;unfold bsV at e0;have a7:=V _ (gx hlt);have f:Hid (c++dU l[k]=numR l.length++(l.take (k+1)).flatMap dU):=by unfold Hid;rw [fK _ _ _ hlt,x.o,dx]
    have u:(numR l.length++(l.take (k+1)).flatMap dU).length<=10000000010:=by
     have h1:((l.take (k+1)).flatMap dU).length<=(l.flatMap dU).length:=by have:=congrArg (λl=>(l.flatMap dU).length) (List.take_append_drop (k+1) l);simp only [g6,cc] at this;omega
     have h2:=t.o;have h3:=HT.o;rw [cc];omega
    rw [<- f.o] at u;generalize l[k]=s at *;have e2:=pS s.length (by omega);have R:=Z (ge s.length (by omega));have L:c.length+((numR s.length).length+s.length)<=10000000010:=by simpa [dU] using u
    have C:c++dU s=c++((numR s.length)++s):=rfl;rw [C] at f;clear C u;generalize numR s.length=T at *;have ao:¬9223372036854775807<T.length+s.length:=by omega
    have A:=Z L;have a5:Hid (w.heap.size+1<=wr.heap.size):=by have:=d.o.old;unfold Hid;omega
    clear a7 L
    go_wp2_with (first
     |(go_at_call 116;((with_reducible refine em (R.o _) ?_);rintro e O ⟨rfl,E⟩;have m:=Z E;clear E))
     |(go_at_call 112;((with_reducible refine em (dK (w.heap.size+1) w.heap.size g c (T++s) _ (d.o.below m.o) (ex a5.o m.o.size) (by have:=A.o;simp;omega)) ?_);rintro e w3 ⟨rfl,g3,G,a9,j⟩;have a0:=Z G;have r:=Z j;clear G a9 j)))
    go_roundw
    case rel=>exact ⟨k+1,c++(T++s),g3,by omega,by go_num,f,by have:=A.o;simp;omega,a0,p.o.trans ((m.o.mono p.o.size).trans ((d.o.below m.o).fr r.o (cb _)))⟩
    case measure=>simp [intOf];omega
  · have f:Hid (packR l=c):=by unfold Hid;rw [vw,x.o,dy (by omega)]
    have al:=a6;go_wp2_with (go_at_call 115;((with_reducible refine em (dX (w.heap.size+1) w.heap.size g c _ d.o (by omega)) ?_);rintro e w3 ⟨rfl,j⟩;have r:=Z (j.fr w.heap.size);clear j))
    go_ret;rw [f.o];exact ⟨rfl,p.trans (d.fr r.o (cb _))⟩
def verS (p:RK×(Int×az)):List Bs:=[intsR [p.1.1,p.1.2,p.2.1],(bE p.2.2).1]
def dropI (p:RK×Int):List Int:=[p.1.1,p.1.2,p.2]
def decI (p:PK×(Int×Bool)):List Int:=[p.1.1.1,p.1.1.2,p.1.2.1,p.1.2.2,p.2.1,if p.2.2 then 1 else 0]
def encR (d:ar):Bs:=packR [packR (d.vs.flatMap verS),intsR (d.ds.flatMap dropI),intsR (d.ps.flatMap decI)]
theorem pB {k:RK} (h:rkOk k):i64B k.1/\i64B k.2:=by
 obtain ⟨h1,b⟩:=h;exact ⟨h1,b⟩
theorem mu (l:List Int) (b:∀n∈l,i64B n) (d:l.length<=100000):(intsR l).length<=10 * l.length+10:=by
 have h1:=ol l b;have c:=eO (n:=l.length) (by omega);unfold intsR;rw [cc];omega
theorem rJ (s:Bs) (h:s.length<=10000000000):(dU s).length<=s.length+10:=by
 have b:=eO (n:=s.length) (by omega);unfold dU;rw [cc];omega
theorem fh {α β:Type} (f:α->List β) (K:Nat) (l:List α) (h:∀a∈l,(f a).length<=K):(l.flatMap f).length<=l.length * K:=by
 induction l with
 |nil=>simp
 |cons a l ih=> rw [fy,cc,cl,Nat.succ_mul];have:=h a ft;have:=ih λx b=>h x (g5 _ b);omega
theorem yh {p:RK×(Int×az)} (h:wrongR p.2.2=0) (d:rkOk p.1) (g:i64B p.2.1):∀s∈verS p,s.length<=99999:=by
 intro s c;obtain ⟨h1,f⟩:=pB d;simp only [verS,e8,ee,or_false] at c;rcases c with rfl|rfl
 · have:=mu [p.1.1,p.1.2,p.2.1] (λn b=>by simp only [e8,ee,or_false] at b;rcases b with rfl|rfl|rfl<;>assumption) (by simp);simp at this;omega
 · have e:bE p.2.2=(iR p.2.2,0):=if_pos h;rw [e];exact (oO h).2
structure C6 (d:ar):Prop where
 vs:∀s∈d.vs.flatMap verS,s.length<=99999
 vn:(d.vs.flatMap verS).length<=10000
 vt:((d.vs.flatMap verS).flatMap dU).length<=1100000000
 di:∀n∈d.ds.flatMap dropI,i64B n
 dn:(d.ds.flatMap dropI).length<=15000
 pi:∀n∈d.ps.flatMap decI,i64B n
 pn:(d.ps.flatMap decI).length<=30000
 l3:∀s∈[packR (d.vs.flatMap verS),intsR (d.ds.flatMap dropI),intsR (d.ps.flatMap decI)],s.length<=10000000000
 t3:([packR (d.vs.flatMap verS),intsR (d.ds.flatMap dropI),intsR (d.ps.flatMap decI)].flatMap dU).length<=10000000000
theorem Cz {d:ar} (h:bd d):C6 d:=by
 have h1:∀s∈d.vs.flatMap verS,s.length<=99999:=λs b=>by obtain ⟨p,e,b⟩:=List.mem_flatMap.1 b;exact yh (h.right p e) (h.vkey p e) (h.vnum p e) s b
 have k:(d.vs.flatMap verS).length<=10000:=by have:=fh verS 2 d.vs (λa _=>cb _);have:=h.vlen;omega
 have q:((d.vs.flatMap verS).flatMap dU).length<=1100000000:=by have f:=fh dU 100009 (d.vs.flatMap verS) (λs b=>by have:=h1 s b;have:=rJ s (by omega);omega);have l:=Nat.mul_le_mul_right 100009 k;omega
 have f:∀n∈d.ds.flatMap dropI,i64B n:=λn c=>by obtain ⟨p,e,c⟩:=List.mem_flatMap.1 c;obtain ⟨g,i⟩:=pB (h.dkey p e);have t:=h.dnum p e;simp only [dropI,e8,ee,or_false] at c;rcases c with rfl|rfl|rfl<;>assumption
 have l:(d.ds.flatMap dropI).length<=15000:=by have:=fh dropI 3 d.ds (λa _=>cb _);have:=h.dlen;omega
 have m:∀n∈d.ps.flatMap decI,i64B n:=λn c=>by
  obtain ⟨p,e,c⟩:=List.mem_flatMap.1 c;obtain ⟨g,i⟩:=h.pkey p e;obtain ⟨g,t⟩:=pB g;obtain ⟨i,y⟩:=pB i;have z:=h.pnum p e;simp only [decI,e8,ee,or_false] at c;rcases c with rfl|rfl|rfl|rfl|rfl|rfl
  · assumption
  · assumption
  · assumption
  · assumption
  · assumption
  · unfold i64B;split<;>decide
 have r:(d.ps.flatMap decI).length<=30000:=by have:=fh decI 6 d.ps (λa _=>cb _);have:=h.plen;omega
 have v:(packR (d.vs.flatMap verS)).length<=1100000010:=by have:=eO (n:=(d.vs.flatMap verS).length) (by omega);rw [vw,cc];omega
 have x:=mu _ f (by omega);have u:=mu _ m (by omega);have j:∀s∈[packR (d.vs.flatMap verS),intsR (d.ds.flatMap dropI),intsR (d.ps.flatMap decI)],s.length<=1100000010:=λs b=>by simp only [e8,ee,or_false] at b;rcases b with rfl|rfl|rfl<;>omega
 refine ⟨h1,k,q,f,l,m,r,λs b=>ex (j s b) (by omega),?_⟩;have:=fh dU 1100000020 [packR (d.vs.flatMap verS),intsR (d.ds.flatMap dropI),intsR (d.ps.flatMap decI)] (λs b=>by have:=j s b;have:=rJ s (by omega);omega);simp only [cl,cP] at this;omega
end
section
open Go.RowKit
def dR (y x:bG):Bool:=
 if decide (x.k.emod 8<5)=decide (y.k.emod 8<5)/\decide (x.k.emod 8>5)=decide (y.k.emod 8>5) then
  (if y.k.emod 8>5 then decide (recI x.a=recI y.b/\recI x.b=recI y.a)||decide (recI x.a=recI y.a/\recI x.b=recI y.b) else decide (recI x.a=recI y.a))
 else false
theorem uI {y x:bG} (h:dR y x=false):gE y x:=by
 intro b;unfold dR at h;have g:0<=x.k.emod 8/\x.k.emod 8<8:=⟨Int.emod_nonneg _ (by omega),Int.emod_lt_of_pos _ (by omega)⟩;have i:0<=y.k.emod 8/\y.k.emod 8<8:=⟨Int.emod_nonneg _ (by omega),Int.emod_lt_of_pos _ (by omega)⟩;unfold clsA at b ⊢;generalize y.k.emod 8=q at *;generalize x.k.emod 8=p at *;have f:(p<5↔q<5)/\(p>5↔q>5):=by
  split at b
  · split at b
    · omega
    · split at b<;>cases b
  · split at b
    · split at b
      · cases b
      · split at b
        · omega
        · cases b
    · split at b
      · cases b
      · split at b
        · cases b
        · omega
 rw [if_pos ⟨decide_eq_decide.2 f.1,decide_eq_decide.2 f.2⟩] at h;by_cases hq:q>5
 · rw [if_pos hq] at h;rw [if_pos (by rw [if_neg (by omega),if_pos (by omega)])];rw [Bool.or_eq_false_iff,decide_eq_false_iff_not,decide_eq_false_iff_not] at h;rintro (⟨c,d⟩|⟨c,d⟩)
   · exact h.2 ⟨c.symm,d.symm⟩
   · exact h.1 ⟨d.symm,c.symm⟩
 · rw [if_neg hq] at h;rw [if_neg (by split;decide;split;omega;decide)];exact λe=>by rw [decide_eq_true e.symm] at h;cases h
def kH (l:List bG) (x:bG):List bG:=if l.all (λy=> !dR y x) then l++[x] else l
theorem wY {l:List bG} (h:l.Pairwise gE) (x:bG):(kH l x).Pairwise gE:=by
 unfold kH;split
 · rename_i c;refine List.pairwise_append.2 ⟨h,List.pairwise_singleton _ _,λy d z b=>?_⟩;rw [g9] at b;subst b;have:=List.all_eq_true.1 c y d;exact uI (by simpa using this)
 · exact h
def keptA (l:List bG):List bG:=l.foldl kH []
theorem od (l:List bG) (k:Nat) (h:k<l.length):keptA (l.take (k+1))=kH (keptA (l.take k)) l[k]:=by
 unfold keptA;rw [da h,List.foldl_append];rfl
theorem xe (l:List bG) (x:bG):(kH l x).length<=l.length+1:=by
 unfold kH;split<;>simp
theorem vL {P:bG->Prop}:∀(k:Nat) (l:List bG),(∀x∈l,P x)->(keptA (l.take k)).length<=k/\(keptA (l.take k)).Pairwise gE/\∀x∈keptA (l.take k),P x
 |0,l,_=>by rw [List.take_zero];exact ⟨cb _,List.Pairwise.nil,λ_ h=>absurd h ee⟩
 |k+1,l,hl=>by
  obtain ⟨h1,d,c⟩:=vL k l hl
  by_cases hk:k<l.length
  · rw [od l k hk]
    have:=xe (keptA (l.take k)) l[k]
    refine ⟨by omega,wY d _,λx b=>?_⟩
    unfold kH at b
    split at b
    · rcases List.mem_append.1 b with b|b
      · exact c x b
      · rw [g9] at b;subst b;exact hl _ (gx hk)
    · exact c x b
  · rw [dy (by omega:l.length<=k)] at h1 d c
    rw [dy (by omega:l.length<=k+1)]
    exact ⟨by omega,d,c⟩
theorem wW {K M:List bG} (h:M.Perm K) (b:K.Pairwise gE) (c:K.length<=30):runC M cat0=runC K cat0:=
 (yD h.symm lr CR (by omega) b).symm
theorem wI (l:List bG) (b:l.length<=30):(runC l cat0).vs.length<=1000:=by
 have:=(Low.run l lr CR).lv;omega
end
end Go.Proofs.YtjcimanddakkaaaGreatDoor
