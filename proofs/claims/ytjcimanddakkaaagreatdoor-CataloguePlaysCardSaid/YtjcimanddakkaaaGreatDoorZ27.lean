/- Lemmas. -/
import Derived.Test.YtjcimanddakkaaaGreatDoorZ9
import Derived.Test.YtjcimanddakkaaaGreatDoorZ26
import Derived.Test.YtjcimanddakkaaaGreatDoorZ28
set_option maxRecDepth 100000
set_option maxHeartbeats 8000000
namespace Go.Proofs.YtjcimanddakkaaaGreatDoor
open Go.Value renaming pointer→fn,int→J,slice→nq,bool→qn,map→Dy
open _root_.Option renaming some→X,none→Y
open Go.IntKind renaming i64→U,u8→Dz
open Go.Ending renaming returned→h1
open Go.Lib renaming hid→Z
open Go.Obj renaming cells→ih
open Tryz
open Go.World renaming alloc_heap_new→DA,cell?_of_block→DE
open Go.Calls renaming mono→DB
open Go.RowKit.Below renaming refl→DC,heap_setCell→DP
open _root_.Nat renaming le_refl→DD,add_assoc→DG,zero_le→DQ
open Go renaming World→DF,bodyPost_ret→DH,Calls→DI
open Go.RowKit renaming Below→DJ
open _root_.Prod renaming ext→DK
open _root_.List renaming length_append→DL,getElem_mem→DM,take_of_length_le→DN,flatMap_append→DO
section
open Go.RowKit Go.Maps Go.Shelf
theorem oK {f:af} {N:Nat} (h:(fieldBytes f).length<=N) (n b c:Int):(fieldBytes (gC f n b c)).length<=N+100:=by
 have d:=fP (l:=textsL) (N:=10) (by decide) c;have g:=fP (l:=gL) (N:=10) (by decide) c;have e:=cI f;unfold gC;repeat' split
 · have a:=cI {f with tag:=pick iH c};simp only at a;omega
 · have a:=cI {f with data:=f.data++pick textsL c};simp only [DL] at a;omega
 · have a:=cI {f with ind:=pick gL c};simp only at a;omega
 · have a:=cI {f with subs:=[]};simp only [List.flatMap_nil,List.length_nil] at a;omega
 · have a:=cI {f with subs:=f.subs++[⟨u8I b,pick textsL c⟩]};simp only [DO,DL,List.flatMap_cons,List.flatMap_nil,List.append_nil,aU,List.length_cons] at a;omega
 · have a:=cI {f with subs:=f.subs++[⟨122,pick textsL c⟩]};simp only [DO,DL,List.flatMap_cons,List.flatMap_nil,List.append_nil,aU,List.length_cons] at a;omega
 · omega
theorem tg (x:eG):bI (saidR x).fields:=by
 have key:∀q:Six,∀n b c:Int,bI (spoilR (madeR q) n b c).fields:=λq n b c=>by
  obtain ⟨g,d⟩:=iM q;unfold spoilR;repeat' split
  · exact ⟨by simp,λf a=>by cases a⟩
  · exact ⟨by dsimp only;omega,λf a=>by have:=d f a;omega⟩
  · exact ⟨by dsimp only;omega,λf a=>by have:=d f a;omega⟩
  · refine ⟨by dsimp only;rw [List.length_modify];omega,λf a=>?_⟩;dsimp only at a;obtain ⟨i,e,rfl⟩:=List.mem_iff_getElem.1 a;rw [List.getElem_modify];rw [List.length_modify] at e;have h:=d _ (DM e);split
    · have:=oK h n b c;omega
    · omega
 unfold saidR;dsimp only;split
 · exact key _ _ _ _
 · obtain ⟨g,d⟩:=iM (if x.b.tmod 3≠0 then workQ x.b else x.q);exact ⟨by omega,λf a=>by have:=d f a;omega⟩
structure bQ (FC FM:Nat->Prop) (w:DF) (c p:Nat) (d:aE):Prop where
 cat:bL FC w c d
 mod:cr FM w p d
 dis:∀k,FC k->FM k->False
theorem bL.lt {F:Nat->Prop} {w:DF} {c:Nat} {d:aE} (h:bL F w c d):∀k,F k->k<w.heap.size:=by obtain ⟨_,_,_,_,h⟩:=h;exact h.lt
theorem cr.lt {F:Nat->Prop} {w:DF} {p:Nat} {d:aE} (h:cr F w p d):∀k,F k->k<w.heap.size:=by obtain ⟨_,_,_,_,h⟩:=h;exact h.lt
theorem bL.ok {F:Nat->Prop} {w:DF} {c:Nat} {d:aE} (h:bL F w c d):bf d:=by obtain ⟨_,_,_,_,h⟩:=h;exact h.ok
theorem bQ.below {a b:Nat->Prop} {w w':DF} {c p:Nat} {d:aE} (h:bQ a b w c p d) (e:Bw w w'):bQ a b w' c p d:=⟨h.cat.below e,h.mod.below e,h.dis⟩
theorem bQ.one {a b g:Nat->Prop} {w w1:DF} {c p:Nat} {d:aE} (h:bQ a b w c p d) (f:ah a w g w1):cr b w1 p d:=
 h.mod.step (λk e=>f.block k (h.mod.lt k e) (λi=>h.dis k i e)) f.size
theorem bQ.two {o f e l:Nat->Prop} {w w1 n:DF} {c p:Nat} {d q:aE} (h:bQ o f w c p d) (r:bL e w1 c q) (i:ah o w e w1) (v:cr l n p q) (b:ah f w1 l n):
 bQ e l n c p q/\ah (λk=>o k∨f k) w (λk=>e k∨l k) n:=by
 have u:∀k,e k->f k->False:=λk a j=>by
  rcases i.new k a with m|m
  · exact h.dis k m j
  · have:=h.mod.lt k j;omega
 refine ⟨⟨r.step (λk a=>b.block k (r.lt k a) (λj=>u k a j)) b.size,v,λk a j=>?_⟩,?_⟩
 · rcases b.new k j with m|m
   · exact u k a m
   · have:=r.lt k a;omega
 · have x:ah (λk=>o k∨f k) w (λk=>e k∨f k) w1:=⟨i.os,i.tape,i.output,i.size,λk a t=>i.block k a (λs=>t (.inl s)),λk a=>a.elim (λg=>(i.new k g).imp .inl id) (λg=> .inl (.inr g))⟩;have y:ah (λk=>e k∨f k) w1 (λk=>e k∨l k) n:=⟨b.os,b.tape,b.output,b.size,λk a t=>b.block k a (λs=>t (.inr s)),λk a=>a.elim (λg=> .inl (.inl g)) (λg=>(b.new k g).imp .inr id)⟩;exact x.trans y
theorem BS (y u:Nat->Prop) (w:DF) (c p:Nat) (d:aE) (h:bQ y u w c p d) (k a b v D E G H I L:Int) (hx:zn ⟨k,a,b,v,⟨D,E,G,H,I,L⟩⟩):
 DI prog 13 #[.agg #[fn (X ⟨c,0,Y⟩),fn (X ⟨p,0,Y⟩)], .agg #[J U k,J U a,J U b,J U v,J U D,J U E,J U G,J U H,J U I,J U L]] w λe w'=>∃B C:Nat->Prop,
  e=h1 (.tuple #[J U (actC d ⟨k,a,b,v,⟨D,E,G,H,I,L⟩⟩).2,J U (actC d ⟨k,a,b,v,⟨D,E,G,H,I,L⟩⟩).2])/\bQ B C w' c p (actC d ⟨k,a,b,v,⟨D,E,G,H,I,L⟩⟩).1/\ah (λk=>y k∨u k) w (λk=>B k∨C k) w':=by
 obtain ⟨bc,hX⟩:∃bc:eG,(⟨k,a,b,v,⟨D,E,G,H,I,L⟩⟩:eG)=bc:=⟨_,rfl⟩;have a7:=zC k a b v D E G H I L hx;have cp:=tg ⟨k,a,b,v,⟨D,E,G,H,I,L⟩⟩;have cd:actC d bc=if k.emod 8=5 then dropC d (recI a) (v.emod 6) else if k.emod 8=6 then decideC d (recI a) (recI b) (v.emod 6) false else if k.emod 8=7 then decideC d (recI a) (recI b) (v.emod 6) true else putC d (recI a) (v.emod 6) (saidR bc):=by rw [<- hX];rfl
 obtain ⟨R,hR⟩:=Qe (saidR ⟨k,a,b,v,⟨D,E,G,H,I,L⟩⟩);rw [hR] at a7 cp;rw [<- hX,hR] at cd;have a8:=Z cd;obtain ⟨A,hA⟩:=Qe (actC d ⟨k,a,b,v,⟨D,E,G,H,I,L⟩⟩);rw [hA] at a8 ⊢;obtain ⟨n,hn⟩:=Qe (v.emod 6);have al:i64B n:=by rw [<- hn];exact js v
 obtain ⟨mk,cm,lk⟩:=cF k 8 (by omega);have da:Hid (∀W,DI prog 24 #[J U k,J U 8] W λe w'=>e=h1 (J U (mk:Int))/\W=w'):=cZ k 8 mk (by omega) (by omega) cm;have dc:Hid (∀W,DI prog 24 #[J U v,J U 6] W λe w'=>e=h1 (J U n)/\W=w'):=λW=>by rw [<- hn];exact jM v 6 W (by omega) (by omega)
 rw [hn] at a8 a7;have bY:=λW:DF=>tt a W hx.a;have c0:=λW:DF=>tt b W hx.b;have a6:=eZ a;have b5:=eZ b;obtain ⟨⟨s,t⟩,d5⟩:∃rr,recI a=rr:=⟨_,rfl⟩;obtain ⟨⟨b1,b2⟩,d6⟩:∃rr,recI b=rr:=⟨_,rfl⟩;rw [d5] at bY a6 a8 a7;rw [d6] at c0 b5 a8;dsimp only [recK] at bY c0;have dk:=Z bY;have dn:=Z c0;have cv:=Z a7;have cz:=Z cp;have b9:Hid (k.emod 8=mk):=cm;obtain ⟨w2,b6⟩:=Qe ((w.alloc (ih #[fn (X ⟨c,0,Y⟩),fn (X ⟨p,0,Y⟩)] 27)).alloc (ih #[J U k,J U a,J U b,J U v,J U D,J U E,J U G,J U H,J U I,J U L] 47));have d2:Bw w w2:=by rw [<- b6];exact ((DC _ w).alloc (DD _) _).alloc (by simp) _
 have cQ:w2.heap[w.heap.size]? =X (ih #[fn (X ⟨c,0,Y⟩),fn (X ⟨p,0,Y⟩)] 27 (0,0)):=by rw [<- b6,Below.heap_alloc _ _ _ (by simp)];exact DA w _
 have bk:w2.heap[w.heap.size+1]? =X (ih #[J U k,J U a,J U b,J U v,J U D,J U E,J U G,J U H,J U I,J U L] 47 (0,0)):=by rw [<- b6];have:=DA (w.alloc (ih #[fn (X ⟨c,0,Y⟩),fn (X ⟨p,0,Y⟩)] 27)) (ih #[J U k,J U a,J U b,J U v,J U D,J U E,J U G,J U H,J U I,J U L] 47);rwa [World.size_alloc] at this
 have ds:=Z b6;have b3:=Z d2;have cq:=Z cQ;have c4:=Z bk;have HH:=Z h;have c3:Hid (∀W,Bw w2 W->W.cell? ⟨w.heap.size+1,0,Y⟩=X (J U k)/\W.cell? ⟨w.heap.size+1,1,Y⟩=X (J U a)/\W.cell? ⟨w.heap.size+1,2,Y⟩=X (J U b)/\W.cell? ⟨w.heap.size+1,3,Y⟩=X (J U v)):=λW hW=>by have l:=(hW.block _ (ae bk)).trans bk;exact ⟨(aa l 0).trans rfl,(aa l 1).trans rfl,(aa l 2).trans rfl,(aa l 3).trans rfl⟩
 clear hX cd hR hA hn cm bY c0 d5 d6 a7 cp b6 d2 cQ bk h hx;go_enter func13,ntmps13;go_upto_region 1 with fail
 rw [ds.o];obtain ⟨_,x1,_,_⟩:=c3 w2 (DC _ _);go_upto_region 2 with (go_at_call 20;((with_reducible refine DB (dk.o _) ?_);rintro e w3 ⟨rfl,bt⟩))
 obtain ⟨q6,bB⟩:=Qe w3.heap.size;obtain ⟨w4,c1⟩:=Qe (w3.alloc (ih #[J U s,J U t] 36));have ay:w4.heap[q6]? =X (ih #[J U s,J U t] 36 (0,0)):=by rw [<- c1, <- bB];exact DA w3 _
 have cg:Bw w2 w4:=by rw [<- c1];exact bt.alloc bt.size _
 have e2:w2.heap.size<=q6:=by rw [<- bB];exact bt.size
 rw [bB,c1];clear bB c1 bt x1;obtain ⟨_,_,x2,_⟩:=c3 w4 cg;have cb:=Z ay;have b7:=Z cg;clear ay cg;go_upto_region 3 with (go_at_call 20;((with_reducible refine DB (dn.o _) ?_);rintro e w5 ⟨rfl,bw⟩))
 obtain ⟨q7,bO⟩:=Qe w5.heap.size;obtain ⟨f,c2⟩:=Qe (w5.alloc (ih #[J U b1,J U b2] 36));have bs:f.heap[q7]? =X (ih #[J U b1,J U b2] 36 (0,0)):=by rw [<- c2, <- bO];exact DA w5 _
 have ch:Bw w4 f:=by rw [<- c2];exact bw.alloc bw.size _
 have e3:w4.heap.size<=q7:=by rw [<- bO];exact bw.size
 have aC:Bw w2 f:=b7.trans (ch.mono b7.size);have ay:f.heap[q6]? =X (ih #[J U s,J U t] 36 (0,0)):=(ch.block _ (ae cb.o)).trans cb.o;rw [bO,c2];clear bO c2 bw x2;obtain ⟨x0,_,_,x3⟩:=c3 f aC;have HP:Hid (bQ y u f c p d):=HH.below (b3.trans (aC.mono b3.size));have bb:Hid (ah (λk=>y k∨u k) w (λk=>y k∨u k) f):=ah.of_below (b3.trans (aC.mono b3.size));have ca:Hid (w.heap.size<=q6/\w.heap.size<=q7/\q6<f.heap.size/\q7<f.heap.size/\w.heap.size+1<f.heap.size):=by have l:=b3.size;have h2:=ae ay;have h3:=ae bs;have h4:=b7.size;have h5:=ae c4.o;have h6:=aC.size;exact ⟨by omega,by omega,h2,h3,by omega⟩
 have a5:Hid (∀k,y k∨u k->k<w.heap.size):=λk r=>r.elim (HH.cat.lt k) (HH.mod.lt k);have b8:Hid (∀W:DF,(∀q,w.heap.size<=q->q<f.heap.size->W.heap[q]? =f.heap[q]?)->(W.cell? ⟨w.heap.size,0,Y⟩=X (fn (X ⟨c,0,Y⟩))/\W.cell? ⟨w.heap.size,1,Y⟩=X (fn (X ⟨p,0,Y⟩)))/\(W.cell? ⟨q6,0,Y⟩=X (J U s)/\W.cell? ⟨q6,1,Y⟩=X (J U t))/\(W.cell? ⟨q7,0,Y⟩=X (J U b1)/\W.cell? ⟨q7,1,Y⟩=X (J U b2))):=λW hW=>by have hl:=ca.o;have g0:=(hW w.heap.size (DD _) (by omega)).trans ((aC.block _ (ae cq.o)).trans cq.o);have g1:=(hW q6 hl.1 hl.2.2.1).trans ay;have g2:=(hW q7 hl.2.1 hl.2.2.2.1).trans bs;exact ⟨⟨(aa g0 0).trans rfl,(aa g0 1).trans rfl⟩,⟨(aa g1 0).trans rfl,(aa g1 1).trans rfl⟩,(aa g2 0).trans rfl,(aa g2 1).trans rfl⟩
 have d7:∀q,w.heap.size<=q->q<f.heap.size->f.drew.heap[q]? =f.heap[q]? :=λ_ _ _=>rfl;have ac:Hid (∀(F F':Nat->Prop) (W W':DF),(∀k,F k->k<w.heap.size)->(∀q,w.heap.size<=q->q<f.heap.size->W.heap[q]? =f.heap[q]?)->f.heap.size<=W.heap.size->ah F W F' W'->∀q,w.heap.size<=q->q<f.heap.size->W'.heap[q]? =f.heap[q]?):=λF F' W W' hF hS hz hs q hq b0=>(hs.block q (by omega) (λhf=>by have:=hF q hf;omega)).trans (hS q hq b0);have d8:=Z aC;have e0:=Z ay;have e1:=Z bs;have a9:=Z d7;clear aC ay bs ch cb b7 d7
 go_upto_block 0 with (first
  |(go_at_call 24;((with_reducible refine DB (dc.o _) ?_);rintro e o ⟨rfl,rfl⟩))
  |(go_at_call 24;((with_reducible refine DB (da.o _) ?_);rintro e o ⟨rfl,rfl⟩)))
 by_cases h5:mk=5
 · subst h5;have O:Hid (dropC d (s,t) n=A):=by unfold Hid;rw [a8.o,b9.o];rw [if_pos (by omega)]
   have hP:=HP.below (DC _ f).drew;have i:=uY y f.drew c d hP.cat (s,t) n a6 al;dsimp only [recK] at i;rw [O.o] at i;have ao:=Z i;clear i hP;go_wp2_with fail
   refine wT (λW:DF=>∀q,w.heap.size<=q->q<f.heap.size->W.heap[q]? =f.heap[q]?) 999 ?_;refine Qd [0,2,3,5,7,8,1,6] a9.o b8 ?_;refine Dp 4 λK j=>?_;go_simp;go_at_call 27;with_reducible refine DB ao.o ?_
   rintro e o ⟨rfl,B,V,m⟩;have a0:=ac y B f.drew o (λk r=>a5 k (.inl r)) a9.o (DD _) m;have ad:=bQ.one (HP.below (DC _ f).drew) m;have i:=Aw u o p d ad (s,t) n a6 al;dsimp only [recK] at i;rw [O.o] at i;have au:=Z i;have b4:=Z V;have a4:=Z m;have T:=Z a0;clear i V m ad a0;refine j _ _ (λ_=>T.o) ?_;clear j K;go_simp;refine Dp 9 λK j=>?_;go_simp;go_at_call 42;with_reducible refine DB au.o ?_
   rintro e N ⟨rfl,C,hM,x⟩;have a3:=ac u C o N (λk r=>a5 k (.inr r)) T.o (by have l:=a4.size;exact l) x;have M:=Z a3;have av:=Z hM;have ax:=Z x;clear hM x a3;refine j _ _ (λ_=>M.o) ?_;clear j K;go_simp;refine Qc [10,11] M.o ?_;refine dN ?_;go_wp2_with fail
   refine DH (v:= .tuple #[J U A.2,J U A.2]) (by simp [results,Tryz.results13,go_sem]) rfl ?_;obtain ⟨aS,aT⟩:=bQ.two (HP.below (DC _ f).drew) b4.o a4.o av.o ax.o;exact ⟨B,C,rfl,aS,(bb.trans (ah.of_below (DC _ f).drew)).trans aT⟩
 by_cases h6:mk=6
 · subst h6;have O:Hid (decideC d (s,t) (b1,b2) n false=A):=by unfold Hid;rw [a8.o,b9.o];rw [if_neg (by omega),if_pos (by omega)]
   have hP:=HP.below (DC _ f).drew;have i:=sE y f.drew c d hP.cat (s,t) (b1,b2) n a6 b5 al;dsimp only [recK] at i;rw [O.o] at i;have ao:=Z i;clear i hP;go_wp2_with fail
   refine wT (λW:DF=>∀q,w.heap.size<=q->q<f.heap.size->W.heap[q]? =f.heap[q]?) 999 ?_;refine Qd [0,2,3,4,6,8,9,10,1,7] a9.o b8 ?_;refine Dp 5 λK j=>?_;go_simp;go_at_call 39;with_reducible refine DB ao.o ?_
   rintro e o ⟨rfl,B,V,m⟩;have a0:=ac y B f.drew o (λk r=>a5 k (.inl r)) a9.o (DD _) m;have ad:=bQ.one (HP.below (DC _ f).drew) m;have i:=zh u o p d ad (s,t) (b1,b2) n a6 b5 al;dsimp only [recK] at i;rw [O.o] at i;have au:=Z i;have b4:=Z V;have a4:=Z m;have T:=Z a0;clear i V m ad a0;refine j _ _ (λ_=>T.o) ?_;clear j K;go_simp;refine Dp 11 λK j=>?_;go_simp;go_at_call 43;with_reducible refine DB au.o ?_
   rintro e N ⟨rfl,C,hM,x⟩;have a3:=ac u C o N (λk r=>a5 k (.inr r)) T.o (by have l:=a4.size;exact l) x;have M:=Z a3;have av:=Z hM;have ax:=Z x;clear hM x a3;refine j _ _ (λ_=>M.o) ?_;clear j K;go_simp;refine Qc [12,13] M.o ?_;refine dN ?_;go_wp2_with fail
   refine DH (v:= .tuple #[J U A.2,J U A.2]) (by simp [results,Tryz.results13,go_sem]) rfl ?_;obtain ⟨aS,aT⟩:=bQ.two (HP.below (DC _ f).drew) b4.o a4.o av.o ax.o;exact ⟨B,C,rfl,aS,(bb.trans (ah.of_below (DC _ f).drew)).trans aT⟩
 by_cases h7:mk=7
 · subst h7;have O:Hid (decideC d (s,t) (b1,b2) n true=A):=by unfold Hid;rw [a8.o,b9.o];rw [if_neg (by omega),if_neg (by omega),if_pos (by omega)]
   have hP:=HP.below (DC _ f).drew;have i:=uV y f.drew c d hP.cat (s,t) (b1,b2) n a6 b5 al;dsimp only [recK] at i;rw [O.o] at i;have ao:=Z i;clear i hP;go_wp2_with fail
   refine wT (λW:DF=>∀q,w.heap.size<=q->q<f.heap.size->W.heap[q]? =f.heap[q]?) 999 ?_;refine Qd [0,2,3,4,6,8,9,10,1,7] a9.o b8 ?_;refine Dp 5 λK j=>?_;go_simp;go_at_call 40;with_reducible refine DB ao.o ?_
   rintro e o ⟨rfl,B,V,m⟩;have a0:=ac y B f.drew o (λk r=>a5 k (.inl r)) a9.o (DD _) m;have ad:=bQ.one (HP.below (DC _ f).drew) m;have i:=Ak u o p d ad (s,t) (b1,b2) n a6 b5 al;dsimp only [recK] at i;rw [O.o] at i;have au:=Z i;have b4:=Z V;have a4:=Z m;have T:=Z a0;clear i V m ad a0;refine j _ _ (λ_=>T.o) ?_;clear j K;go_simp;refine Dp 11 λK j=>?_;go_simp;go_at_call 44;with_reducible refine DB au.o ?_
   rintro e N ⟨rfl,C,hM,x⟩;have a3:=ac u C o N (λk r=>a5 k (.inr r)) T.o (by have l:=a4.size;exact l) x;have M:=Z a3;have av:=Z hM;have ax:=Z x;clear hM x a3;refine j _ _ (λ_=>M.o) ?_;clear j K;go_simp;refine Qc [12,13] M.o ?_;refine dN ?_;go_wp2_with fail
   refine DH (v:= .tuple #[J U A.2,J U A.2]) (by simp [results,Tryz.results13,go_sem]) rfl ?_;obtain ⟨aS,aT⟩:=bQ.two (HP.below (DC _ f).drew) b4.o a4.o av.o ax.o;exact ⟨B,C,rfl,aS,(bb.trans (ah.of_below (DC _ f).drew)).trans aT⟩
 have c5:((mk:Int)==5)=false:=by simp;omega
 have c6:((mk:Int)==6)=false:=by simp;omega
 have c7:((mk:Int)==7)=false:=by simp;omega
 have O:Hid (putC d (s,t) n R=A):=by unfold Hid;rw [a8.o,b9.o];rw [if_neg (by omega),if_neg (by omega),if_neg (by omega)]
 obtain ⟨R1,R2,R3⟩:=R;have a7:=cv.o;dsimp only [kI] at a7;have cx:=Z a7;have cy:Hid (bI R3):=cz.o;have dd:Hid (∀W:DF,(∀q,w.heap.size<=q->q<f.heap.size->W.heap[q]? =f.heap[q]?)->(W.cell? ⟨w.heap.size+1,0,Y⟩=X (J U k)/\W.cell? ⟨w.heap.size+1,1,Y⟩=X (J U a)/\W.cell? ⟨w.heap.size+1,2,Y⟩=X (J U b)/\W.cell? ⟨w.heap.size+1,3,Y⟩=X (J U v))/\W.cell? ⟨w.heap.size+1,4,Y⟩=X (J U D)/\W.cell? ⟨w.heap.size+1,5,Y⟩=X (J U E)/\W.cell? ⟨w.heap.size+1,6,Y⟩=X (J U G)/\W.cell? ⟨w.heap.size+1,7,Y⟩=X (J U H)/\W.cell? ⟨w.heap.size+1,8,Y⟩=X (J U I)/\W.cell? ⟨w.heap.size+1,9,Y⟩=X (J U L)):=λW hW=>by have l:=(hW (w.heap.size+1) (by omega) ca.o.2.2.2.2).trans ((d8.o.block _ (ae c4.o)).trans c4.o);exact ⟨⟨(aa l 0).trans rfl,(aa l 1).trans rfl,(aa l 2).trans rfl,(aa l 3).trans rfl⟩,(aa l 4).trans rfl,(aa l 5).trans rfl,(aa l 6).trans rfl,(aa l 7).trans rfl,(aa l 8).trans rfl,(aa l 9).trans rfl⟩
 clear a7 cv cz;go_upto_region 11 with fail
 refine wT (λW:DF=>∀q,w.heap.size<=q->q<f.heap.size->W.heap[q]? =f.heap[q]?) 999 ?_;refine Qd [0,5,1,6] a9.o b8 ?_;refine Qd [2,7] a9.o dd ?_;refine Dp 3 λK j=>?_;go_simp;go_at_call 45;with_reducible refine DB (cx.o f.drew) ?_
 rintro e o ⟨va,vc,rfl,d3,bA⟩;have a0:∀q,w.heap.size<=q->q<f.heap.size->o.heap[q]? =f.heap[q]? :=λq _ b0=>bA.block q b0;have cc:=(HP.below (DC _ f).drew).below bA;have i:=tv y o c d cc.cat (s,t) n ⟨R1,R2,R3⟩ (nq va R3.length vc) a6 al f.heap.size o.heap.size d3 (DD _) (λq l _ hF=>by have h2:=a5.o q (.inl hF);have h3:=ca.o;omega) cy.o;rw [O.o] at i;dsimp only [kI] at i;have ao:=Z i;have T:=Z a0;have cs:=Z cc;have c9:Hid (Bw f o):=(DC _ f).drew.trans bA;clear i a0 cc d3 bA;refine j _ _ (λ_=>T.o) ?_;clear j K;go_simp;refine Dp 4 λK j=>?_;go_simp;go_at_call 29;with_reducible refine DB ao.o ?_
 rintro e N ⟨rfl,B,V,m⟩;have a3:=ac y B o N (λk r=>a5 k (.inl r)) T.o c9.size m;have av:Hid (cr u N p d):=bQ.one cs.o m;have d9:=Z V;have a4:=Z m;have M:=Z a3;have cP:Hid (f.heap.size<=N.heap.size):=Nat.le_trans c9.size m.size;clear V m a3;refine j _ _ (λ_=>M.o) ?_;clear j K;go_simp;refine Dp 8 λK j=>?_;go_simp;go_at_call 45;with_reducible refine DB (cx.o N) ?_
 rintro e w9 ⟨dx,dy,rfl,d4,cl⟩;have d1:∀q,w.heap.size<=q->q<f.heap.size->w9.heap[q]? =f.heap[q]? :=λq hq b0=>(cl.block q (Nat.lt_of_lt_of_le b0 cP.o)).trans (M q hq b0);have i:=Bh u N w9 p d av.o cl (s,t) n R1 R2 R3 (nq dx R3.length dy) d4 cy.o a6 al;rw [O.o] at i;dsimp only [kI] at i;have au:=Z i;have dr:=Z d1;clear i d1 d4 cl;refine j _ _ (λ_=>dr.o) ?_;clear j K;go_simp;refine Dp 9 λK j=>?_;go_simp;go_at_call 46;with_reducible refine DB au.o ?_
 rintro e dz ⟨rfl,C,hM,x⟩;have d0:=ac u C N dz (λk r=>a5 k (.inr r)) M.o cP.o x;have cu:=Z d0;have di:=Z hM;have ax:=Z x;clear hM x d0;refine j _ _ (λ_=>cu.o) ?_;clear j K;go_simp;refine Qc [10,11] cu.o ?_;refine dN ?_;go_wp2_with fail
 refine DH (v:= .tuple #[J U A.2,J U A.2]) (by simp [results,Tryz.results13,go_sem]) rfl ?_;obtain ⟨aS,aT⟩:=bQ.two cs.o d9.o a4.o di.o ax.o;exact ⟨B,C,rfl,aS,(bb.trans (ah.of_below c9.o)).trans aT⟩
def um (x:eG):List Value:=[J U x.k,J U x.a,J U x.b,J U x.v,J U x.q.a,J U x.q.b,J U x.q.c,J U x.q.d,J U x.q.e,J U x.q.f]
structure kh (w:DF) (v:Value) (l:List eG):Prop where
 at_:aF 0 w.heap.size w v l.length (l.flatMap um)
 ok:∀x∈l,zn x
 len:l.length<=maxLen
theorem kh.keep {w w':DF} {v:Value} {l:List eG} (h:kh w v l) (a:Bw w w'):kh w' v l:=
 ⟨(h.at_.kept (λq _ b=>a.block q b)).mono (DD _) a.size,h.ok,h.len⟩
theorem xO (l:List eG) (k:Nat) (h:k<l.length):runC (l.take (k+1)) cat0=(actC (runC (l.take k) cat0) l[k]).1:=by
 rw [List.take_succ_eq_append_getElem h,xP];rfl
theorem zJ (v:Value) (l:List eG) (w:DF) (h:kh w v l):
 DI prog 11 #[v] w λe w'=>∃(c p:Nat) (f g:Nat->Prop),e=h1 (.tuple #[.agg #[fn (X ⟨c,0,Y⟩),fn (X ⟨p,0,Y⟩)],qn true])/\bQ f g w' c p (playC l)/\Bw w w'/\∀k,f k∨g k->w.heap.size<=k:=by
 have j:=h.at_;obtain ⟨a,ch,rfl,_⟩:=id j;obtain ⟨w1,M⟩:=Qe (w.alloc (ih #[fn Y,fn Y] 27));have z1:w1.heap.size=w.heap.size+1:=by rw [<- M];simp
 have b2:w1.heap[w.heap.size]? =X (ih #[fn Y,fn Y] 27 (0,0)):=by rw [<- M];exact DA w _
 obtain ⟨r,O⟩:=Qe (w1.alloc (ih #[Dy Y,Dy Y,Dy Y,fn Y] 117));have z2:r.heap.size=w.heap.size+2:=by rw [<- O];simp [z1]
 obtain ⟨t,R⟩:=Qe (r.alloc (ih #[nq Y 0 0,nq Y 0 0,nq Y 0 0] 34));have z3:t.heap.size=w.heap.size+3:=by rw [<- R];simp [z2]
 obtain ⟨u,T⟩:=Qe (t.alloc (ih #[fn (X ⟨w.heap.size+1,0,Y⟩),fn (X ⟨w.heap.size+2,0,Y⟩)] 27));have z4:u.heap.size=w.heap.size+4:=by rw [<- T];simp [z3]
 have b0:bL (λk=>k=w.heap.size+1) r (w.heap.size+1) cat0:=by have:=uM w1;rw [z1,O] at this;exact this
 have b1:cr (λk=>k=w.heap.size+2) t (w.heap.size+2) cat0:=by have:=zP r;rw [z2,R] at this;exact this
 have a0:Bw r t:=by rw [<- R];exact (DC _ r).alloc (DD _) _
 have H:Bw t u:=by rw [<- T];exact (DC _ t).alloc (DD _) _
 have ad:Bw w1 r:=by rw [<- O];exact (DC _ w1).alloc (DD _) _
 have aT:Bw w w1:=by rw [<- M];exact (DC _ w).alloc (DD _) _
 have aS:Hid (bQ (λk=>k=w.heap.size+1) (λk=>k=w.heap.size+2) u (w.heap.size+1) (w.heap.size+2) cat0):=⟨(b0.below a0).below H,b1.below H,λk B h2=>by omega⟩;have b4:u.heap[w.heap.size]? =X (ih #[fn Y,fn Y] 27 (0,0)):=((H.block _ (by omega)).trans ((a0.block _ (by omega)).trans (ad.block _ (by omega)))).trans b2;have b6:u.heap[w.heap.size+3]? =X (ih #[fn (X ⟨w.heap.size+1,0,Y⟩),fn (X ⟨w.heap.size+2,0,Y⟩)] 27 (0,0)):=by rw [<- z3, <- T];exact DA t _
 have bw:Hid (Bw w u):=((aT.trans (ad.mono (by omega))).trans (a0.mono (by omega))).trans (H.mono (by omega));have c0:=Z b4;have ac:=Z b6;have au:=Z (yf w1);have av:=Z (Bp r);rw [z1,O] at au;rw [z2,R] at av;have c4:=Z M;have c5:=Z T;have c6:=Z z3;have cg:=Z z4;have V:=Z h;clear M O R T z1 z2 z3 z4 b2 b4 b6 b0 b1 aT ad a0 H h j;go_enter func11,ntmps11;go_upto_region 1 with fail
 rw [c4.o]
 go_upto_region 2 with (first
  |(go_at_call 32;((with_reducible refine DB au.o ?_);rintro e wx ⟨rfl,D⟩;have D:=D.symm;subst D))
  |(go_at_call 33;((with_reducible refine DB av.o ?_);rintro e wx ⟨rfl,D⟩;have D:=D.symm;subst D)))
 rw [c6.o,c5.o];have t0:u.cell? ⟨w.heap.size+3,0,Y⟩=X (fn (X ⟨w.heap.size+1,0,Y⟩)):=(aa ac.o 0).trans rfl;go_upto_region 5 with fail
 clear t0;obtain ⟨c,hc⟩:=Qe (w.heap.size+1);obtain ⟨p,hp⟩:=Qe (w.heap.size+2);obtain ⟨N,hN⟩:=Qe l.length;rw [hc,hp] at aS ac;have HN:=Z hN;have a1:N<=maxLen:=by rw [<- hN];exact V.o.len
 have bO:=Z a1;rw [hc,hp,hN];have bA:Hid (w.heap.size<=c/\w.heap.size<=p/\c<w.heap.size+3/\p<w.heap.size+3/\c≠w.heap.size/\p≠w.heap.size):=⟨by omega,by omega,by omega,by omega,by omega,by omega⟩;clear hc hp hN a1;go_loopw [5] (λi wr=>∃(k:Nat) (f g:Nat->Prop),k<=N/\k<=40/\i=J U k/\Hid (bQ f g wr c p (runC (l.take k) cat0))/\Hid (∀q,f q∨g q->w.heap.size<=q/\q≠w.heap.size/\q≠w.heap.size+3)/\Hid (wr.heap[w.heap.size]? =X (ih #[fn Y,fn Y] 27 (0,0)))/\Hid (wr.heap[w.heap.size+3]? =X (ih #[fn (X ⟨c,0,Y⟩),fn (X ⟨p,0,Y⟩)] 27 (0,0)))/\Hid (Bw w wr)) (λi _=>N - (intOf i).toNat)
 case atStart=>exact ⟨0,_,_,DQ _,DQ _,rfl,aS.o,λq m=>by have:=bA.o;rcases m with h|h<;>omega,c0.o,ac.o,bw.o⟩
 case round=>
  obtain ⟨k,f,g,hk,cq,rfl,HP,y,E,F,G⟩:=hrel;have a1:=bO.o;unfold maxLen at a1;by_cases hlt:k<N/\k<40
  · obtain ⟨a4,bb⟩:=hlt;have a5:k<l.length:=by rw [HN.o];exact a4
    have a6:=xO l k a5;have c9:=(V.keep G.o).at_;have ao:=V.ok _ (DM a5);obtain ⟨x,hx⟩:=Qe (l[k]);obtain ⟨a2,c2,hv,b9⟩:=c9;have al:l.flatMap um≠[]:=by intro e;have B:=List.flatMap_eq_nil_iff.1 e _ (DM a5);cases B
    obtain ⟨b,d,ha,_,ca,b8⟩:=b9 al;subst ha;injection hv with hv1 hv2 bk
    subst hv1;have j:∀i,i<10->wr.cell? ⟨b,d+(k * 10+i),Y⟩=(um x)[i]? :=λi hi=>by have n:=dl um 10 (λ_=>rfl) l k a5 i hi;rw [hx] at n;have I:i<(um x).length:=hi;rw [List.getElem?_eq_getElem I] at n ⊢;exact b8 _ _ n
    rw [hx] at a6 ao;obtain ⟨xk,xa,xb,xv,⟨qa,qb,qc,qd,qe,qf⟩⟩:=x;have y0:wr.cell? ⟨b,d+k * 10,Y⟩=X (J U xk):=(j 0 (by omega)).trans rfl;have y1:wr.cell? ⟨b,d+k * 10+1,Y⟩=X (J U xa):=(by rw [DG];exact (j 1 (by omega)).trans rfl);have y2:wr.cell? ⟨b,d+k * 10+2,Y⟩=X (J U xb):=(by rw [DG];exact (j 2 (by omega)).trans rfl);have y3:wr.cell? ⟨b,d+k * 10+3,Y⟩=X (J U xv):=(by rw [DG];exact (j 3 (by omega)).trans rfl);have y4:wr.cell? ⟨b,d+k * 10+4,Y⟩=X (J U qa):=(by rw [DG];exact (j 4 (by omega)).trans rfl);have y5:wr.cell? ⟨b,d+k * 10+5,Y⟩=X (J U qb):=(by rw [DG];exact (j 5 (by omega)).trans rfl);have y6:wr.cell? ⟨b,d+k * 10+6,Y⟩=X (J U qc):=(by rw [DG];exact (j 6 (by omega)).trans rfl);have y7:wr.cell? ⟨b,d+k * 10+7,Y⟩=X (J U qd):=(by rw [DG];exact (j 7 (by omega)).trans rfl);have y8:wr.cell? ⟨b,d+k * 10+8,Y⟩=X (J U qe):=(by rw [DG];exact (j 8 (by omega)).trans rfl);have y9:wr.cell? ⟨b,d+k * 10+9,Y⟩=X (J U qf):=(by rw [DG];exact (j 9 (by omega)).trans rfl);have HY:Hid (∀W:DF,(W.heap[b]? =wr.heap[b]? /\W.heap[w.heap.size+3]? =wr.heap[w.heap.size+3]?)->(W.cell? ⟨w.heap.size+3,0,Y⟩=X (fn (X ⟨c,0,Y⟩))/\W.cell? ⟨w.heap.size+3,1,Y⟩=X (fn (X ⟨p,0,Y⟩)))/\(W.cell? ⟨b,d+k * 10,Y⟩=X (J U xk)/\W.cell? ⟨b,d+k * 10+1,Y⟩=X (J U xa)/\W.cell? ⟨b,d+k * 10+2,Y⟩=X (J U xb)/\W.cell? ⟨b,d+k * 10+3,Y⟩=X (J U xv))/\W.cell? ⟨b,d+k * 10+4,Y⟩=X (J U qa)/\W.cell? ⟨b,d+k * 10+5,Y⟩=X (J U qb)/\W.cell? ⟨b,d+k * 10+6,Y⟩=X (J U qc)/\W.cell? ⟨b,d+k * 10+7,Y⟩=X (J U qd)/\W.cell? ⟨b,d+k * 10+8,Y⟩=X (J U qe)/\W.cell? ⟨b,d+k * 10+9,Y⟩=X (J U qf)):=λW hW=>by have o:∀i,W.cell? ⟨b,i,Y⟩=wr.cell? ⟨b,i,Y⟩:=λi=>DE (a:=⟨b,i,Y⟩) hW.1;have ht:=hW.2.trans F.o;exact ⟨⟨(aa ht 0).trans rfl,(aa ht 1).trans rfl⟩,⟨(o _).trans y0,(o _).trans y1,(o _).trans y2,(o _).trans y3⟩,(o _).trans y4,(o _).trans y5,(o _).trans y6,(o _).trans y7,(o _).trans y8,(o _).trans y9⟩
    have ay:=Z (BS f g wr.drew c p _ (HP.below (DC _ wr).drew) xk xa xb xv qa qb qc qd qe qf ao);obtain ⟨A,hA⟩:=Qe (actC (runC (l.take k) cat0) ⟨xk,xa,xb,xv,⟨qa,qb,qc,qd,qe,qf⟩⟩);rw [hA] at ay a6;have c1:=Z a6;have b7:b<w.heap.size:=by
     obtain ⟨a3,c3,bk,cb⟩:=V.at_;obtain ⟨b3,cu,c7,_,cp,_⟩:=cb al;subst c7;injection bk with n _ _
     injection n with n
     injection n with n _ _
     omega
    have ax:=Z b7;clear j b8 b9 al ca y0 y1 y2 y3 y4 y5 y6 y7 y8 y9 a6 hx hA b7 ao;have cd:wr.drew.heap[b]? =wr.heap[b]? /\wr.drew.heap[w.heap.size+3]? =wr.heap[w.heap.size+3]? :=⟨rfl,rfl⟩;have i1:(k:Int)<(N:Int):=by omega
    have i2:(k:Int)<40:=by omega
    go_upto_region 7 with fail
    refine wT (λW:DF=>W.heap[b]? =wr.heap[b]? /\W.heap[w.heap.size+3]? =wr.heap[w.heap.size+3]?) 999 ?_;refine Qd [0,1,2,3,4] cd HY ?_;refine Dp 5 λK hK=>?_;go_simp;go_at_call 13;with_reducible refine DB ay.o ?_
    rintro e w5 ⟨bs,bt,rfl,C,a7⟩;have hz:=G.size;have bc:=ae F.o
    have b5:w5.heap[b]? =wr.heap[b]? /\w5.heap[w.heap.size+3]? =wr.heap[w.heap.size+3]? :=
     ⟨a7.block b (by show b<wr.heap.size;have:=ax.o;omega) (λL=>by have:=y.o b L;have:=ax.o;omega),a7.block _ (by show w.heap.size+3<wr.heap.size;omega) (λL=>by have:=y.o _ L;omega)⟩
    have a8:=Z b5;have bY:=Z C;have a9:=Z a7;clear C a7 b5 hz bc;refine hK _ _ (λ_=>a8.o) ?_;clear hK K;go_simp;refine Qc [6,7,8,9,10] a8.o ?_;refine dN ?_;go_wp2_with fail
    go_roundw
    case rel=>
     have hz:=G.size;have bc:=ae F.o;have cc:=ae E.o;refine ⟨k+1,a4,bb,by go_num,bs,bt,?_,λq m=>?_,?_,a8.2.trans F.o,?_⟩
     · unfold Hid;rw [c1.o];exact bY.o
     · rcases a9.new q m with B|B
       · exact y q B
       · have h2:wr.heap.size<=q:=B;omega
     · exact (a9.o.block w.heap.size cc (λL=>by have:=y.o _ L;omega)).trans E.o
     · exact G.trans (Below.trans (DC _ wr).drew (a9.below (λq m=>(y q m).1) hz).1)
    case measure=>simp [intOf];omega
  · have r0:wr.cell? ⟨w.heap.size,0,Y⟩=X (fn Y):=(aa E.o 0).trans rfl;have r1:wr.cell? ⟨w.heap.size,1,Y⟩=X (fn Y):=(aa E.o 1).trans rfl;have f0:=ab E.o 0;have f1:=ab E.o 1;have t0:wr.cell? ⟨w.heap.size+3,0,Y⟩=X (fn (X ⟨c,0,Y⟩)):=(aa F.o 0).trans rfl;have t1:wr.cell? ⟨w.heap.size+3,1,Y⟩=X (fn (X ⟨p,0,Y⟩)):=(aa F.o 1).trans rfl;have bB:Hid (runC (l.take k) cat0=playC l):=by
     unfold Hid playC;by_cases h4:k=40
     · rw [h4]
     · have cs:k=N:=by omega
       rw [DN (by rw [HN.o];omega),DN (by rw [HN.o];omega)]
    have aC:Hid (∃f g:Nat->Prop,bQ f g ((wr.setCell ⟨w.heap.size,0,Y⟩ (fn (X ⟨c,0,Y⟩))).setCell ⟨w.heap.size,1,Y⟩ (fn (X ⟨p,0,Y⟩))) c p (playC l)/\Bw w ((wr.setCell ⟨w.heap.size,0,Y⟩ (fn (X ⟨c,0,Y⟩))).setCell ⟨w.heap.size,1,Y⟩ (fn (X ⟨p,0,Y⟩)))/\∀k,f k∨g k->w.heap.size<=k):=by
     have C:=HP.o;rw [bB.o] at C;have ho:∀q,q≠w.heap.size->((wr.setCell ⟨w.heap.size,0,Y⟩ (fn (X ⟨c,0,Y⟩))).setCell ⟨w.heap.size,1,Y⟩ (fn (X ⟨p,0,Y⟩))).heap[q]? =wr.heap[q]? :=λq m=>by rw [DP _ _ _ _ m,DP _ _ _ _ m]
     exact ⟨f,g,⟨C.cat.step (λq m=>ho q (y.o q (.inl m)).2.1) (by simp),C.mod.step (λq m=>ho q (y.o q (.inr m)).2.1) (by simp),C.dis⟩,(G.o.setCell (p:=⟨w.heap.size,0,Y⟩) (by simp) _).setCell (p:=⟨w.heap.size,1,Y⟩) (by simp) _,λq m=>(y.o q m).1⟩
    by_cases a4:k<N
    · have bb:¬k<40:=λh=>hlt ⟨a4,h⟩;have i1:(k:Int)<(N:Int):=by omega
      have i2:¬(k:Int)<40:=by omega
      go_wp2_with fail
      refine DH (v:= .tuple #[.agg #[fn (X ⟨c,0,Y⟩),fn (X ⟨p,0,Y⟩)],qn true]) (by rw [cY rfl];go_simp) rfl ?_;obtain ⟨f,g,n,I,e3⟩:=aC.o;exact ⟨c,p,rfl,f,g,n,I,e3⟩
    · have i1:¬(k:Int)<(N:Int):=by omega
      go_wp2_with fail
      refine DH (v:= .tuple #[.agg #[fn (X ⟨c,0,Y⟩),fn (X ⟨p,0,Y⟩)],qn true]) (by rw [cY rfl];go_simp) rfl ?_;obtain ⟨f,g,n,I,e3⟩:=aC.o;exact ⟨c,p,rfl,f,g,n,I,e3⟩
end
section
open Go.RowKit Go.Maps Go.Shelf
section
variable {P:Program} {md:Region.Mode} {ops:Array Oper} {Q:Exit->Act->DF->Prop} {S:DF->Prop} {z:Nat}
theorem ec {i j:Nat} {o g:Oper} {n:Nat} {e:Array Bool} {a:Act} {w:DF} (q:ops[i]? =X o) (r:ops[j]? =X g)
 (h:Region.ready md ops e=[i,j]) (m:Region.wanted o (yielded ops a.tmps)=true) (p:Region.wanted g (yielded ops a.tmps)=true)
 (c:∀K:Act->DF->Prop,(∀b w',(i≠z->S w')->anyT P md ops Q S z n (e.setIfInBounds i true) b w'->K b w')->o.wp P a w K Q)
 (d:∀K:Act->DF->Prop,(∀b w',(j≠z->S w')->anyT P md ops Q S z n (e.setIfInBounds j true) b w'->K b w')->g.wp P a w K Q):anyT P md ops Q S z (n+1) e a w:=by
 refine ⟨λl=>absurd l (by rw [h];simp),λk f=>?_⟩;rw [h] at f;simp only [List.mem_cons,List.not_mem_nil,or_false] at f;rcases f with rfl|rfl
 · unfold wpOp;rw [q];simp only [m,if_true];exact .inl (c _ λb w' c d=>⟨c,d⟩)
 · unfold wpOp;rw [r];simp only [p,if_true];exact .inl (d _ λb w' c d=>⟨c,d⟩)
end
structure cH (F:Nat->Prop) (W:DF) (v:Value) (l:List RK):Prop where
 ex:∃a c,v= .slice a l.length c/\(l≠[]->∃b off,a=some ⟨b,off,none⟩/\b<W.heap.size/\¬F b/\∀j x,(l.flatMap rkCells)[j]? =some x->W.cell? ⟨b,off+j,none⟩=some x)
theorem Bf {l:List RK} (h:l.flatMap rkCells≠[]):l≠[]:=λe=>h (by rw [e];rfl)
theorem cH.at {F:Nat->Prop} {W:DF} {v:Value} {l:List RK} (h:cH F W v l):eu 0 W.heap.size W v l:=by
 obtain ⟨a,c,i,h⟩:=h;refine ⟨a,c,i,λg=>?_⟩;obtain ⟨b,j,d,e,_,f⟩:=h (Bf g);exact ⟨b,j,d,DQ _,e,f⟩
theorem cH.step {F f:Nat->Prop} {W g:DF} {v:Value} {l:List RK} (h:cH F W v l) (e:ah F W f g):cH f g v l:=by
 obtain ⟨a,c,o,h⟩:=h;refine ⟨a,c,o,λn=>?_⟩;obtain ⟨b,q,k,d,i,m⟩:=h n;refine ⟨b,q,k,Nat.lt_of_lt_of_le d e.size,e.not d i,λj x p=>?_⟩;rw [DE (w:=W) (e.block b d i)];exact m j x p
theorem cH.of_owns {F:Nat->Prop} {W:DF} {v:Value} {l:List RK} {B:Nat} (h:W.ownsRow B 36 2 v l.length (l.flatMap rkCells)) (f:∀g,v.ownBlock=X g->¬F g):cH F W v l:=by
 obtain ⟨a,c,rfl⟩:=aI h;refine ⟨a,c,rfl,λe=>?_⟩;obtain ⟨g,k,i,_⟩:=h.form (List.length_pos_iff.2 e);cases i;refine ⟨g,0,rfl,(h.lt g rfl).2,f g rfl,λj x b=>?_⟩;have d:=h.cellAt j (by have:=(List.getElem?_eq_some_iff.1 b).1;rw [oZ] at this;exact this);rw [Nat.zero_add,d];exact b
theorem cH.new {F:Nat->Prop} {W:DF} {q:Nat} {l:List RK} {t:TypeId} (n:Nat) (b:n=l.length) (h:W.heap[q]? =X (.cells (l.flatMap rkCells).toArray t (0,0))) (a:¬F q):cH F W (nq (X ⟨q,0,Y⟩) n n) l:=by
 subst b;refine ⟨_,_,rfl,λ_=>⟨q,0,rfl,ae h,a,λj x c=>?_⟩⟩;rw [Nat.zero_add,aa h, <- c];simp
structure SnS (B:Nat) (w w1:DF) (F:Nat->Prop) (W:DF) (d:aE):Prop where
 cat:bL F W B d
 fl:∀k,F k->B<=k/\¬(B+1<=k/\k<=B+5)
 box:∀q,B+1<=q->q<=B+5->W.heap[q]? =w1.heap[q]?
 b:DJ B w W
 sz:B+6<=W.heap.size
theorem SnS.step {B:Nat} {w w1 W f:DF} {F e:Nat->Prop} {d i:aE} (h:SnS B w w1 F W d) (l:bL e f B i) (c:ah F W e f):SnS B w w1 e f i:=by
 have n:=h.sz;refine ⟨l,λk g=>?_,λq a j=>?_,h.b.trans (c.below (λk g=>(h.fl k g).1) (by omega)).1,Nat.le_trans h.sz c.size⟩
 · rcases c.new k g with a|a
   · exact h.fl k a
   · omega
 · exact (c.block q (by omega) (λm=>(h.fl q m).2 ⟨a,j⟩)).trans (h.box q a j)
theorem SnS.below {B:Nat} {w w1 W a:DF} {F:Nat->Prop} {d:aE} (h:SnS B w w1 F W d) (b:DJ W.heap.size W a):SnS B w w1 F a d:=h.step (h.cat.below b) (ah.of_below b)
theorem lg (t:Bs) (h:t.length<=1000):bI (ee t).fields:=by
 refine ⟨by simp [ee],λf a=>?_⟩;simp only [ee,List.mem_cons,List.not_mem_nil,or_false] at a;rcases a with rfl|rfl
 · simp [fieldBytes,aU]
 · simp [fieldBytes,aU];omega
def uF:Nat->aE
 |0=>cat0
 |1=>Bc
 |2=>Bb
 |_=>vK
def keyAt:Nat->RK
 |0=>(1,1)
 |1=>(1,2)
 |_=>(2,1)
theorem Bg (k:Nat) (d:k<3):putC (uF k) (keyAt k) 1 (ee iz)=(uF (k+1),0):=by
 obtain ⟨a,b,c,_⟩:=uE;have:k=0∨k=1∨k=2:=by omega
 rcases this with rfl|rfl|rfl
 · exact DK rfl a
 · exact DK rfl b
 · exact DK rfl c
theorem bH {k:RK} (h:0<=k.1/\k.1<=100/\0<=k.2/\k.2<=100):rkOk k:=by
 unfold rkOk i64B;omega
theorem Bv (k:Nat):rkOk (keyAt k):=by
 refine bH ?_;unfold keyAt;split<;>decide
theorem BO:putC vK (2,2) 1 (ee nR)=(kJ,0):=DK rfl uE.2.2.2
theorem BV:decideC kJ (1,1) (2,1) 1 false=(jh,0):=DK rfl fN.1
theorem BT:decideC jh (2,2) (2,1) 1 true=(xM,0):=DK rfl dA.1
theorem BU:dropC xM (1,1) 2=(mS,0):=DK rfl dA.2.1
theorem vJ (w:DF):DI prog 10 #[] w λe w'=>e=h1 (qn true)/\DJ w.heap.size w w':=by
 obtain ⟨B,hB⟩:=Qe w.heap.size;have hE:=yf w;have hM:=uM w;obtain ⟨O,f1⟩:=Qe (w.alloc (ih #[Dy Y,Dy Y,Dy Y,fn Y] 117));obtain ⟨R,cg⟩:=Qe (O.alloc (ih #[J U 1,J U 1] 36));obtain ⟨T,ch⟩:=Qe (R.alloc (ih #[J U 1,J U 2] 36));obtain ⟨u4,cl⟩:=Qe (T.alloc (ih #[J U 2,J U 1] 36));obtain ⟨p,cm⟩:=Qe (u4.alloc (ih #[J U 2,J U 2] 36));obtain ⟨w1,cp⟩:=Qe (p.alloc (ih #[J U 1,J U 1,J U 1,J U 2,J U 2,J U 1] 36));have z1:O.heap.size=B+1:=by rw [<- f1, <- hB];simp
 have z2:R.heap.size=B+2:=by rw [<- cg];simp [z1]
 have z3:T.heap.size=B+3:=by rw [<- ch];simp [z2]
 have z4:u4.heap.size=B+4:=by rw [<- cl];simp [z3]
 have z5:p.heap.size=B+5:=by rw [<- cm];simp [z4]
 have z6:w1.heap.size=B+6:=by rw [<- cp];simp [z5]
 rw [f1,hB] at hE hM;have nb:DJ B w O:=by rw [<- f1, <- hB];exact (DC _ w).alloc (DD _) _
 have o:DJ O.heap.size O R:=by rw [<- cg];exact (DC _ O).alloc (DD _) _
 have ne:DJ R.heap.size R T:=by rw [<- ch];exact (DC _ R).alloc (DD _) _
 have nf:DJ T.heap.size T u4:=by rw [<- cl];exact (DC _ T).alloc (DD _) _
 have hD:DJ u4.heap.size u4 p:=by rw [<- cm];exact (DC _ u4).alloc (DD _) _
 have a0:DJ p.heap.size p w1:=by rw [<- cp];exact (DC _ p).alloc (DD _) _
 have hC:DJ T.heap.size T w1:=(nf.trans (hD.mono (by omega))).trans (a0.mono (by omega));have hA:DJ R.heap.size R w1:=ne.trans (hC.mono (by omega));have hz:DJ O.heap.size O w1:=o.trans (hA.mono (by omega));have dc:w1.heap[B+1]? =X (ih #[J U 1,J U 1] 36 (0,0)):=(hA.block _ (by omega)).trans (by rw [<- cg, <- z1];exact DA O _);have dd:w1.heap[B+2]? =X (ih #[J U 1,J U 2] 36 (0,0)):=(hC.block _ (by omega)).trans (by rw [<- ch, <- z2];exact DA R _);have di:w1.heap[B+3]? =X (ih #[J U 2,J U 1] 36 (0,0)):=((a0.block _ (by omega)).trans (hD.block _ (by omega))).trans (by rw [<- cl, <- z3];exact DA T _);have oN:w1.heap[B+4]? =X (ih #[J U 2,J U 2] 36 (0,0)):=(a0.block _ (by omega)).trans (by rw [<- cm, <- z4];exact DA u4 _);have hG:w1.heap[B+5]? =X (ih #[J U 1,J U 1,J U 1,J U 2,J U 2,J U 1] 36 (0,0)):=by rw [<- cp, <- z5];exact DA p _
 have AT:Hid (SnS B w w1 (λk=>k=B) w1 cat0):=⟨(hM.below hz),λk hk=>by omega,λ_ _ _=>rfl,nb.trans (hz.mono (by omega)),by omega⟩;have u:Hid (∀W:DF,(∀q,B+1<=q->q<=B+5->W.heap[q]? =w1.heap[q]?)->(W.cell? ⟨B+1,0,Y⟩=X (J U 1)/\W.cell? ⟨B+1,1,Y⟩=X (J U 1))/\(W.cell? ⟨B+2,0,Y⟩=X (J U 1)/\W.cell? ⟨B+2,1,Y⟩=X (J U 2))/\(W.cell? ⟨B+3,0,Y⟩=X (J U 2)/\W.cell? ⟨B+3,1,Y⟩=X (J U 1))/\(W.cell? ⟨B+4,0,Y⟩=X (J U 2)/\W.cell? ⟨B+4,1,Y⟩=X (J U 2))/\W.cell? ⟨B+5,0,Y⟩=X (J U 1)/\W.cell? ⟨B+5,1,Y⟩=X (J U 1)/\W.cell? ⟨B+5,2,Y⟩=X (J U 1)/\W.cell? ⟨B+5,3,Y⟩=X (J U 2)/\W.cell? ⟨B+5,4,Y⟩=X (J U 2)/\W.cell? ⟨B+5,5,Y⟩=X (J U 1)):=λW h=>by have g1:=(h (B+1) (by omega) (by omega)).trans dc;have g2:=(h (B+2) (by omega) (by omega)).trans dd;have g3:=(h (B+3) (by omega) (by omega)).trans di;have g4:=(h (B+4) (by omega) (by omega)).trans oN;have g5:=(h (B+5) (by omega) (by omega)).trans hG;exact ⟨⟨(aa g1 0).trans rfl,(aa g1 1).trans rfl⟩,⟨(aa g2 0).trans rfl,(aa g2 1).trans rfl⟩,⟨(aa g3 0).trans rfl,(aa g3 1).trans rfl⟩,⟨(aa g4 0).trans rfl,(aa g4 1).trans rfl⟩,(aa g5 0).trans rfl,(aa g5 1).trans rfl,(aa g5 2).trans rfl,(aa g5 3).trans rfl,(aa g5 4).trans rfl,(aa g5 5).trans rfl⟩
 have m1:p.cell? ⟨B+1,0,Y⟩=X (J U 1):=(DE (a:=⟨B+1,0,Y⟩) (a0.block (B+1) (by omega))).symm.trans ((aa dc 0).trans rfl);have m2:p.cell? ⟨B+1,1,Y⟩=X (J U 1):=(DE (a:=⟨B+1,1,Y⟩) (a0.block (B+1) (by omega))).symm.trans ((aa dc 1).trans rfl);have m3:p.cell? ⟨B+2,0,Y⟩=X (J U 1):=(DE (a:=⟨B+2,0,Y⟩) (a0.block (B+2) (by omega))).symm.trans ((aa dd 0).trans rfl);have m4:p.cell? ⟨B+2,1,Y⟩=X (J U 2):=(DE (a:=⟨B+2,1,Y⟩) (a0.block (B+2) (by omega))).symm.trans ((aa dd 1).trans rfl);have m5:p.cell? ⟨B+3,0,Y⟩=X (J U 2):=(DE (a:=⟨B+3,0,Y⟩) (a0.block (B+3) (by omega))).symm.trans ((aa di 0).trans rfl);have m6:p.cell? ⟨B+3,1,Y⟩=X (J U 1):=(DE (a:=⟨B+3,1,Y⟩) (a0.block (B+3) (by omega))).symm.trans ((aa di 1).trans rfl);have sx:=Z hE;have vr:=Z hG;have B1:=Z cg;have B2:=Z ch;have Bo:=Z cl;have Bq:=Z cm;have By:=Z cp;have c6:Hid (O.heap.size=B+1/\R.heap.size=B+2/\T.heap.size=B+3/\u4.heap.size=B+4/\p.heap.size=B+5):=⟨z1,z2,z3,z4,z5⟩;rw [hB];clear hB hE hM f1 cg ch cl cm cp z1 z2 z3 z4 z5 z6 nb o ne nf hD a0 hC hA hz dc dd di oN hG;go_enter func10,ntmps10;go_upto_region 2 with (go_at_call 32;((with_reducible refine DB sx.o ?_);rintro e wx ⟨rfl,k3⟩;have k3:=k3.symm;subst k3))
 go_upto_region 5 with fail
 rw [c6.o.1,B1.o];go_upto_region 6 with fail
 rw [c6.o.2.1,B2.o];go_upto_region 7 with fail
 rw [c6.o.2.2.1,Bo.o];go_upto_region 8 with fail
 rw [c6.o.2.2.2.1,Bq.o];go_upto_region 10 with fail
 rw [c6.o.2.2.2.2,By.o];clear m1 m2 m3 m4 m5 m6;go_loopw [7] (λi wr=>∃(k:Nat) (F:Nat->Prop),k<=3/\i=J U k/\Hid (SnS B w w1 F wr (uF k))) (λi _=>3 - (intOf i).toNat)
 case atStart=>exact ⟨0,_,by omega,rfl,AT⟩
 case round=>
  obtain ⟨k,F,hk,rfl,V⟩:=hrel;by_cases hlt:k<3
  · have i1:(k:Int)<3:=by omega
    obtain ⟨⟨s4,s5⟩,e4⟩:∃kk,keyAt k=kk:=⟨_,rfl⟩;have vn:Hid (∀W:DF,(∀q,B+1<=q->q<=B+5->W.heap[q]? =w1.heap[q]?)->W.cell? ⟨B+5,k * 2,Y⟩=X (J U s4)/\W.cell? ⟨B+5,k * 2+1,Y⟩=X (J U s5)):=λW h=>by
     obtain ⟨_,_,_,_,A,C,v,x,o,y⟩:=u W h;have:k=0∨k=1∨k=2:=by omega
     rcases this with rfl|rfl|rfl
     · obtain ⟨rfl,rfl⟩:=Prod.mk.inj e4.symm;exact ⟨A,C⟩
     · obtain ⟨rfl,rfl⟩:=Prod.mk.inj e4.symm;exact ⟨v,x⟩
     · obtain ⟨rfl,rfl⟩:=Prod.mk.inj e4.symm;exact ⟨o,y⟩
    go_upto_region 12 with fail
    have n:=Z (V.below (DC _ wr).drew);go_wp2_with fail
    refine wT (λW:DF=>∀q,B+1<=q->q<=B+5->W.heap[q]? =w1.heap[q]?) 999 ?_;refine Qc [0,1,2] n.box ?_;refine Qd [3,4] n.box vn ?_;refine Dp 5 λK d=>?_;go_simp;go_at_call 28;refine DB (show DI prog 28 #[.string ⟨#[78,97,110,97]⟩] wr.drew _ from ur iz wr.drew) ?_;rintro e W1 ⟨sn,ss,rfl,p2,hJ⟩;have d3:=Z (n.below hJ);have Co:=Z hJ;have vd:=Z p2;clear hJ p2;refine d _ _ (λ_=>d3.box) ?_;clear d K;go_simp;refine Qc [6] d3.box ?_
    refine Dp 7 λK d=>?_;go_simp;have e3:=tv F W1 B (uF k) d3.o.cat (keyAt k) 1 (ee iz) (nq sn 2 ss) (Bv k) (by unfold i64B;decide) wr.drew.heap.size W1.heap.size vd.o (DD _) (λq r _ hF=>by have s:=n.o.cat.lt q hF;omega) (lg iz (by decide));rw [Bg k (by omega)] at e3;rw [e4] at e3;have tr:Hid (DI prog 29 #[fn (X ⟨B,0,Y⟩), .agg #[J U s4,J U s5,J U 1,J Dz 97,J Dz 109,nq sn 2 ss]] W1 _):=e3;clear e3;go_at_call 29;with_reducible refine DB tr.o ?_
    rintro e W7 ⟨rfl,F8,oF,s6⟩;have gP:=Z (d3.step oF s6);clear oF s6;refine d _ _ (λ_=>gP.box) ?_;clear d K;go_simp;refine Qc [8] gP.box ?_
    refine dN ?_;go_wp2_with fail
    go_roundw
    case rel=>exact ⟨k+1,F8,by omega,by go_num,gP⟩
    case measure=>simp [intOf];omega
  · obtain rfl:k=3:=by omega
    have V:Hid (SnS B w w1 F wr vK):=V;clear hlt hk;go_upto_region 14 with fail
    go_cut [8] (λt wx=>t=qn true/\∃F:Nat->Prop,Hid (SnS B w w1 F wx kJ))
    case first=>
     generalize wr=wc at *;have n:=Z (V.below (DC _ wc).drew);go_wp2_with fail
     refine wT (λW:DF=>∀q,B+1<=q->q<=B+5->W.heap[q]? =w1.heap[q]?) 999 ?_;have vq:Hid (cH F wc.drew (nq (X ⟨B+5,0,Y⟩) 3 3) [(1,1),(1,2),(2,1)]):=cH.new 3 rfl ((n.o.box (B+5) (by omega) (by omega)).trans vr.o) (λf=>(n.o.fl _ f).2 ⟨by omega,by omega⟩);refine Qd [0,1] n.box u ?_;refine Dp 2 λK d=>?_;go_simp;go_at_call 28;refine DB (show DI prog 28 #[.string ⟨#[71,101,114,109,105,110,97,108]⟩] wc.drew _ from ur nR wc.drew) ?_;rintro e hr ⟨sm,sp,rfl,p1,dn⟩;have d2:=Z (n.below dn);have Cn:=Z dn;have vc:=Z p1;have w7:=Z (vq.step (ah.of_below dn));clear dn p1;refine d _ _ (λ_=>d2.box) ?_;clear d K;go_simp;refine Qc [3] d2.box ?_
     refine Dp 4 λK d=>?_;go_simp;have hZ:=tv F hr B vK d2.o.cat (2,2) 1 (ee nR) (nq sm 2 sp) (bH (by decide)) (by unfold i64B;decide) wc.drew.heap.size hr.heap.size vc.o (DD _) (λq r _ hF=>by have s:=n.o.cat.lt q hF;omega) (lg nR (by decide));rw [BO] at hZ;have t3:Hid (DI prog 29 #[fn (X ⟨B,0,Y⟩), .agg #[J U 2,J U 2,J U 1,J Dz 97,J Dz 109,nq sm 2 sp]] hr _):=hZ;clear hZ;go_at_call 29;with_reducible refine DB t3.o ?_
     rintro e a3 ⟨rfl,cP,nO,k4⟩;have ad:=Z (d2.step nO k4);have l5:=Z (w7.step k4);clear nO k4;refine d _ _ (λ_=>ad.box) ?_;clear d K;go_simp;refine Qc [5,6] ad.box ?_;refine Qd [7,9,10] ad.box u ?_;refine ec (i:=8) (j:=11) rfl rfl (by kernel_rfl) (by rfl) (by rfl) (λK d=>?_) (λK d=>?_)
     · go_simp;have iv:=eI cP a3 B kJ ad.cat (by decide+kernel);rw [kP.1] at iv;have t9:Hid (DI prog 18 #[fn (X ⟨B,0,Y⟩)] a3 _):=iv;clear iv;go_at_call 18;with_reducible refine DB t9.o ?_
       rintro e aC ⟨Dm,gO,rfl,o4,k6,rt,qe⟩;have xk:=Z (cH.of_owns (l:=[(1,1),(2,2)]) rt qe);clear rt qe;have hg:=Z (ad.step o4 k6);have y1:=Z (l5.step k6);clear o4 k6;refine d _ _ (λ_=>hg.box) ?_;clear d K;go_simp;refine Dq 11 λK d=>?_;go_simp;obtain ⟨hx,fr⟩:=Qe (aC.alloc (ih #[J U 1,J U 1,J U 2,J U 2] 36));obtain ⟨gf,er⟩:=Qe aC.heap.size;have e0:DJ aC.heap.size aC hx:=by rw [<- fr];exact (DC _ aC).alloc (DD _) _
       have qv:hx.heap[gf]? =X (ih #[J U 1,J U 1,J U 2,J U 2] 36 (0,0)):=by rw [<- fr, <- er];exact DA aC _
       have pi:¬gO gf:=λf=>by have r:=hg.o.cat.lt gf f;have s:aC.heap.size=gf:=er;omega
       have n2:=Z (hg.below e0);have ys:=Z (y1.step (ah.of_below e0));have lT:=Z (xk.step (ah.of_below e0));have lQ:=Z (cH.new (F:=gO) (l:=[(1,1),(2,2)]) 2 rfl qv pi);try rw [er]
       try rw [fr]
       clear fr er e0 qv pi;refine d _ _ (λ_=>n2.box) ?_;clear d K;go_simp;refine Dq 12 λK d=>?_;go_simp;have ja:=cB _ _ [(1,1),(2,2)] [(1,1),(2,2)] hx lT.at lQ.at (by decide) (by decide);rw [show decide (([(1,1),(2,2)]:List RK)=[(1,1),(2,2)])=true from by decide] at ja;have va:=Z ja;clear ja;go_at_call 17;with_reducible refine DB va.o ?_
       rintro e n8 ⟨rfl,cd⟩;have c5:=Z (n2.below cd);have zz:=Z (ys.step (ah.of_below cd));have A1:=Z (lT.step (ah.of_below cd));have A2:=Z (lQ.step (ah.of_below cd));clear cd;refine d _ _ (λ_=>c5.box) ?_;clear d K;go_simp;refine Qc [13,14] c5.box ?_;refine Qd [15,16,18] c5.box u ?_;refine Dq 17 λK d=>?_;go_simp;have jb:=ck gO n8 B kJ c5.cat (by decide+kernel) (1,1) (bH (by decide));rw [kP.2] at jb;have th:Hid (DI prog 22 #[fn (X ⟨B,0,Y⟩), .agg #[J U 1,J U 1]] n8 _):=jb;clear jb;go_at_call 22;with_reducible refine DB th.o ?_
       rintro e C6 ⟨Dw,Cm,rfl,os,cy,s2,r1⟩;have ma:=Z (cH.of_owns (l:=[(1,1),(1,2),(2,1)]) s2 r1);clear s2 r1;have n5:=Z (c5.step os cy);have mb:=Z (zz.step cy);have Ac:=Z (A1.step cy);have As:=Z (A2.step cy);clear os cy;refine d _ _ (λ_=>n5.box) ?_;clear d K;go_simp;refine Dq 19 λK d=>?_;go_simp;have jn:=cB _ _ [(1,1),(1,2),(2,1)] [(1,1),(1,2),(2,1)] C6 ma.at mb.at (by decide) (by decide);rw [show decide (([(1,1),(1,2),(2,1)]:List RK)=[(1,1),(1,2),(2,1)])=true from by decide] at jn;have vb:=Z jn;clear jn;go_at_call 17;with_reducible refine DB vb.o ?_
       rintro e Dc ⟨rfl,c2⟩;have hp:=Z (n5.below c2);have CZ:=Z (mb.step (ah.of_below c2));have D0:=Z (Ac.step (ah.of_below c2));have D1:=Z (As.step (ah.of_below c2));have D2:=Z (ma.step (ah.of_below c2));clear c2;refine d _ _ (λ_=>hp.box) ?_;clear d K;go_simp;refine Qc [20,21] hp.box ?_;refine dN ?_;go_wp2_with fail
       go_meet;exact ⟨rfl,_,hp⟩
     · go_simp;obtain ⟨da,fx⟩:=Qe (a3.alloc (ih #[J U 1,J U 1,J U 2,J U 2] 36));obtain ⟨gq,f0⟩:=Qe a3.heap.size;have hL:DJ a3.heap.size a3 da:=by rw [<- fx];exact (DC _ a3).alloc (DD _) _
       have r2:da.heap[gq]? =X (ih #[J U 1,J U 1,J U 2,J U 2] 36 (0,0)):=by rw [<- fx, <- f0];exact DA a3 _
       have pt:¬cP gq:=λf=>by have r:=ad.o.cat.lt gq f;have s:a3.heap.size=gq:=f0;omega
       have hq:=Z (ad.below hL);have AC:=Z (l5.step (ah.of_below hL));have At:=Z (cH.new (F:=cP) (l:=[(1,1),(2,2)]) 2 rfl r2 pt);try rw [f0]
       try rw [fx]
       clear fx f0 hL r2 pt;refine d _ _ (λ_=>hq.box) ?_;clear d K;go_simp;refine Dq 8 λK d=>?_;go_simp;have k2:=eI cP da B kJ hq.cat (by decide+kernel);rw [kP.1] at k2;have tl:Hid (DI prog 18 #[fn (X ⟨B,0,Y⟩)] da _):=k2;clear k2;go_at_call 18;with_reducible refine DB tl.o ?_
       rintro e C7 ⟨Dx,su,rfl,ov,gz,s3,r4⟩;have mc:=Z (cH.of_owns (l:=[(1,1),(2,2)]) s3 r4);clear s3 r4;have n6:=Z (hq.step ov gz);have AS:=Z (AC.step gz);have me:=Z (At.step gz);clear ov gz;refine d _ _ (λ_=>n6.box) ?_;clear d K;go_simp;refine Dq 12 λK d=>?_;go_simp;have hN:=cB _ _ [(1,1),(2,2)] [(1,1),(2,2)] C7 mc.at me.at (by decide) (by decide);rw [show decide (([(1,1),(2,2)]:List RK)=[(1,1),(2,2)])=true from by decide] at hN;have ts:=Z hN;clear hN;go_at_call 17;with_reducible refine DB ts.o ?_
       rintro e n9 ⟨rfl,c7⟩;have c3:=Z (n6.below c7);have vs:=Z (AS.step (ah.of_below c7));have vt:=Z (me.step (ah.of_below c7));have vx:=Z (mc.step (ah.of_below c7));clear c7;refine d _ _ (λ_=>c3.box) ?_;clear d K;go_simp;refine Qc [13,14] c3.box ?_;refine Qd [15,16,18] c3.box u ?_;refine Dq 17 λK d=>?_;go_simp;have hO:=ck su n9 B kJ c3.cat (by decide+kernel) (1,1) (bH (by decide));rw [kP.2] at hO;have sz:Hid (DI prog 22 #[fn (X ⟨B,0,Y⟩), .agg #[J U 1,J U 1]] n9 _):=hO;clear hO;go_at_call 22;with_reducible refine DB sz.o ?_
       rintro e BY ⟨Dd,C8,rfl,nx,cq,r9,pv⟩;have kc:=Z (cH.of_owns (l:=[(1,1),(1,2),(2,1)]) r9 pv);clear r9 pv;have mf:=Z (c3.step nx cq);have kd:=Z (vs.step cq);have vy:=Z (vt.step cq);have vN:=Z (vx.step cq);clear nx cq;refine d _ _ (λ_=>mf.box) ?_;clear d K;go_simp;refine Dq 19 λK d=>?_;go_simp;have hP:=cB _ _ [(1,1),(1,2),(2,1)] [(1,1),(1,2),(2,1)] BY kc.at kd.at (by decide) (by decide);rw [show decide (([(1,1),(1,2),(2,1)]:List RK)=[(1,1),(1,2),(2,1)])=true from by decide] at hP;have tx:=Z hP;clear hP;go_at_call 17;with_reducible refine DB tx.o ?_
       rintro e D3 ⟨rfl,bs⟩;have gQ:=Z (mf.below bs);have Cp:=Z (kd.step (ah.of_below bs));have Cq:=Z (vy.step (ah.of_below bs));have Cr:=Z (vN.step (ah.of_below bs));have Cs:=Z (kc.step (ah.of_below bs));clear bs;refine d _ _ (λ_=>gQ.box) ?_;clear d K;go_simp;refine Qc [20,21] gQ.box ?_;refine dN ?_;go_wp2_with fail
       go_meet;exact ⟨rfl,_,gQ⟩
    case rest=>
     obtain ⟨rfl,F,V⟩:=hcut;go_upto_region 15 with fail
     go_cut [9] (λt wx=>t=qn true/\∃F:Nat->Prop,Hid (SnS B w w1 F wx jh))
     case first=>
      have n:=Z (V.below (DC _ wc).drew);go_wp2_with fail
      refine wT (λW:DF=>∀q,B+1<=q->q<=B+5->W.heap[q]? =w1.heap[q]?) 999 ?_;refine Qd [0,1,2] n.box u ?_;refine Dp 3 λK d=>?_;go_simp;have hQ:=sE F wc.drew B kJ n.cat (1,1) (2,1) 1 (bH (by decide)) (bH (by decide)) (by unfold i64B;decide);rw [BV] at hQ;have sC:Hid (DI prog 39 #[fn (X ⟨B,0,Y⟩), .agg #[J U 1,J U 1], .agg #[J U 2,J U 1],J U 1] wc.drew _):=hQ;clear hQ;go_at_call 39;with_reducible refine DB sC.o ?_
      rintro e a1 ⟨rfl,cz,ny,s8⟩;have a8:=Z (n.step ny s8);clear ny s8;refine d _ _ (λ_=>a8.box) ?_;clear d K;go_simp;refine Qc [4,5] a8.box ?_;refine Qd [6,8,9,10] a8.box u ?_;refine ec (i:=7) (j:=11) rfl rfl (by kernel_rfl) (by rfl) (by rfl) (λK d=>?_) (λK d=>?_)
      · go_simp;have hR:=eI cz a1 B jh a8.cat (by decide+kernel);rw [fN.2.1] at hR;have sM:Hid (DI prog 18 #[fn (X ⟨B,0,Y⟩)] a1 _):=hR;clear hR;go_at_call 18;with_reducible refine DB sM.o ?_
        rintro e av ⟨De,bc,rfl,nz,sa,ra,px⟩;have w0:=Z (cH.of_owns (l:=[(1,1),(2,1),(2,2)]) ra px);clear ra px;have h0:=Z (a8.step nz sa);clear nz sa;refine d _ _ (λ_=>h0.box) ?_;clear d K;go_simp;refine Dq 11 λK d=>?_;go_simp;obtain ⟨hs,f2⟩:=Qe (av.alloc (ih #[J U 1,J U 1,J U 2,J U 1,J U 2,J U 2] 36));obtain ⟨fy,e5⟩:=Qe av.heap.size;have hH:DJ av.heap.size av hs:=by rw [<- f2];exact (DC _ av).alloc (DD _) _
        have py:hs.heap[fy]? =X (ih #[J U 1,J U 1,J U 2,J U 1,J U 2,J U 2] 36 (0,0)):=by rw [<- f2, <- e5];exact DA av _
        have p3:¬bc fy:=λf=>by have r:=h0.o.cat.lt fy f;have s:av.heap.size=fy:=e5;omega
        have ml:=Z (h0.below hH);have kn:=Z (w0.step (ah.of_below hH));have kl:=Z (cH.new (F:=bc) (l:=[(1,1),(2,1),(2,2)]) 3 rfl py p3);try rw [e5]
        try rw [f2]
        clear f2 e5 hH py p3;refine d _ _ (λ_=>ml.box) ?_;clear d K;go_simp;refine Dq 12 λK d=>?_;go_simp;have hS:=cB _ _ [(1,1),(2,1),(2,2)] [(1,1),(2,1),(2,2)] hs kn.at kl.at (by decide) (by decide);rw [show decide (([(1,1),(2,1),(2,2)]:List RK)=[(1,1),(2,1),(2,2)])=true from by decide] at hS;have ty:=Z hS;clear hS;go_at_call 17;with_reducible refine DB ty.o ?_
        rintro e a2 ⟨rfl,dk⟩;have a9:=Z (ml.below dk);have ko:=Z (kn.step (ah.of_below dk));have kq:=Z (kl.step (ah.of_below dk));clear dk;refine d _ _ (λ_=>a9.box) ?_;clear d K;go_simp;refine Qc [13,14] a9.box ?_;refine Qd [15,16,18,19] a9.box u ?_;refine ec (i:=17) (j:=20) rfl rfl (by kernel_rfl) (by rfl) (by rfl) (λK d=>?_) (λK d=>?_)
        · go_simp;have hT:=ck bc a2 B jh a9.cat (by decide+kernel) (1,1) (bH (by decide));rw [fN.2.2] at hT;have t0:Hid (DI prog 22 #[fn (X ⟨B,0,Y⟩), .agg #[J U 1,J U 1]] a2 _):=hT;clear hT;go_at_call 22;with_reducible refine DB t0.o ?_
          rintro e ax ⟨Df,k8,rfl,nE,gs,rc,pz⟩;have w2:=Z (cH.of_owns (l:=[(1,1),(1,2)]) rc pz);clear rc pz;have h3:=Z (a9.step nE gs);have w3:=Z (ko.step gs);have w4:=Z (kq.step gs);clear nE gs;refine d _ _ (λ_=>h3.box) ?_;clear d K;go_simp;refine Dq 20 λK d=>?_;go_simp;obtain ⟨ht,f3⟩:=Qe (ax.alloc (ih #[J U 1,J U 1,J U 1,J U 2] 36));obtain ⟨fz,e6⟩:=Qe ax.heap.size;have c9:DJ ax.heap.size ax ht:=by rw [<- f3];exact (DC _ ax).alloc (DD _) _
          have q0:ht.heap[fz]? =X (ih #[J U 1,J U 1,J U 1,J U 2] 36 (0,0)):=by rw [<- f3, <- e6];exact DA ax _
          have p4:¬k8 fz:=λf=>by have r:=h3.o.cat.lt fz f;have s:ax.heap.size=fz:=e6;omega
          have mm:=Z (h3.below c9);have w5:=Z (w3.step (ah.of_below c9));have w6:=Z (w4.step (ah.of_below c9));have kt:=Z (w2.step (ah.of_below c9));have ks:=Z (cH.new (F:=k8) (l:=[(1,1),(1,2)]) 2 rfl q0 p4);try rw [e6]
          try rw [f3]
          clear f3 e6 c9 q0 p4;refine d _ _ (λ_=>mm.box) ?_;clear d K;go_simp;refine Dq 21 λK d=>?_;go_simp;have hV:=cB _ _ [(1,1),(1,2)] [(1,1),(1,2)] ht kt.at ks.at (by decide) (by decide);rw [show decide (([(1,1),(1,2)]:List RK)=[(1,1),(1,2)])=true from by decide] at hV;have tz:=Z hV;clear hV;go_at_call 17;with_reducible refine DB tz.o ?_
          rintro e D4 ⟨rfl,bt⟩;have h4:=Z (mm.below bt);have Ct:=Z (w5.step (ah.of_below bt));have Cu:=Z (w6.step (ah.of_below bt));have Cv:=Z (kt.step (ah.of_below bt));have Cw:=Z (ks.step (ah.of_below bt));clear bt;refine d _ _ (λ_=>h4.box) ?_;clear d K;go_simp;refine Qc [22,23] h4.box ?_;refine dN ?_;go_wp2_with fail
          go_meet;exact ⟨rfl,_,h4⟩
        · go_simp;obtain ⟨d4,f4⟩:=Qe (a2.alloc (ih #[J U 1,J U 1,J U 1,J U 2] 36));obtain ⟨g0,e7⟩:=Qe a2.heap.size;have dr:DJ a2.heap.size a2 d4:=by rw [<- f4];exact (DC _ a2).alloc (DD _) _
          have q1:d4.heap[g0]? =X (ih #[J U 1,J U 1,J U 1,J U 2] 36 (0,0)):=by rw [<- f4, <- e7];exact DA a2 _
          have p5:¬bc g0:=λf=>by have r:=a9.o.cat.lt g0 f;have s:a2.heap.size=g0:=e7;omega
          have h5:=Z (a9.below dr);have w9:=Z (ko.step (ah.of_below dr));have wa:=Z (kq.step (ah.of_below dr));have w8:=Z (cH.new (F:=bc) (l:=[(1,1),(1,2)]) 2 rfl q1 p5);try rw [e7]
          try rw [f4]
          clear f4 e7 dr q1 p5;refine d _ _ (λ_=>h5.box) ?_;clear d K;go_simp;refine Dq 17 λK d=>?_;go_simp;have hW:=ck bc d4 B jh h5.cat (by decide+kernel) (1,1) (bH (by decide));rw [fN.2.2] at hW;have t1:Hid (DI prog 22 #[fn (X ⟨B,0,Y⟩), .agg #[J U 1,J U 1]] d4 _):=hW;clear hW;go_at_call 22;with_reducible refine DB t1.o ?_
          rintro e C0 ⟨Dg,C9,rfl,nF,cs,rg,q2⟩;have kv:=Z (cH.of_owns (l:=[(1,1),(1,2)]) rg q2);clear rg q2;have mo:=Z (h5.step nF cs);have wb:=Z (w9.step cs);have wf:=Z (wa.step cs);have kx:=Z (w8.step cs);clear nF cs;refine d _ _ (λ_=>mo.box) ?_;clear d K;go_simp;refine Dq 21 λK d=>?_;go_simp;have hX:=cB _ _ [(1,1),(1,2)] [(1,1),(1,2)] C0 kv.at kx.at (by decide) (by decide);rw [show decide (([(1,1),(1,2)]:List RK)=[(1,1),(1,2)])=true from by decide] at hX;have tO:=Z hX;clear hX;go_at_call 17;with_reducible refine DB tO.o ?_
          rintro e D5 ⟨rfl,bw⟩;have h6:=Z (mo.below bw);have Cx:=Z (wb.step (ah.of_below bw));have Cy:=Z (wf.step (ah.of_below bw));have Cz:=Z (kx.step (ah.of_below bw));have CA:=Z (kv.step (ah.of_below bw));clear bw;refine d _ _ (λ_=>h6.box) ?_;clear d K;go_simp;refine Qc [22,23] h6.box ?_;refine dN ?_;go_wp2_with fail
          go_meet;exact ⟨rfl,_,h6⟩
      · go_simp;obtain ⟨d5,f5⟩:=Qe (a1.alloc (ih #[J U 1,J U 1,J U 2,J U 1,J U 2,J U 2] 36));obtain ⟨g6,e8⟩:=Qe a1.heap.size;have oR:DJ a1.heap.size a1 d5:=by rw [<- f5];exact (DC _ a1).alloc (DD _) _
        have q3:d5.heap[g6]? =X (ih #[J U 1,J U 1,J U 2,J U 1,J U 2,J U 2] 36 (0,0)):=by rw [<- f5, <- e8];exact DA a1 _
        have pa:¬cz g6:=λf=>by have r:=a8.o.cat.lt g6 f;have s:a1.heap.size=g6:=e8;omega
        have h7:=Z (a8.below oR);have wp:=Z (cH.new (F:=cz) (l:=[(1,1),(2,1),(2,2)]) 3 rfl q3 pa);try rw [e8]
        try rw [f5]
        clear f5 e8 oR q3 pa;refine d _ _ (λ_=>h7.box) ?_;clear d K;go_simp;refine Dq 7 λK d=>?_;go_simp;have hY:=eI cz d5 B jh h7.cat (by decide+kernel);rw [fN.2.1] at hY;have t2:Hid (DI prog 18 #[fn (X ⟨B,0,Y⟩)] d5 _):=hY;clear hY;go_at_call 18;with_reducible refine DB t2.o ?_
        rintro e C1 ⟨Dh,cQ,rfl,o1,k5,rk,q4⟩;have ky:=Z (cH.of_owns (l:=[(1,1),(2,1),(2,2)]) rk q4);clear rk q4;have mp:=Z (h7.step o1 k5);have kz:=Z (wp.step k5);clear o1 k5;refine d _ _ (λ_=>mp.box) ?_;clear d K;go_simp;refine Dq 12 λK d=>?_;go_simp;have i0:=cB _ _ [(1,1),(2,1),(2,2)] [(1,1),(2,1),(2,2)] C1 ky.at kz.at (by decide) (by decide);rw [show decide (([(1,1),(2,1),(2,2)]:List RK)=[(1,1),(2,1),(2,2)])=true from by decide] at i0;have up:=Z i0;clear i0;go_at_call 17;with_reducible refine DB up.o ?_
        rintro e a4 ⟨rfl,ds⟩;have ac:=Z (mp.below ds);have l1:=Z (kz.step (ah.of_below ds));have l2:=Z (ky.step (ah.of_below ds));clear ds;refine d _ _ (λ_=>ac.box) ?_;clear d K;go_simp;refine Qc [13,14] ac.box ?_;refine Qd [15,16,18,19] ac.box u ?_;refine ec (i:=17) (j:=20) rfl rfl (by kernel_rfl) (by rfl) (by rfl) (λK d=>?_) (λK d=>?_)
        · go_simp;have i2:=ck cQ a4 B jh ac.cat (by decide+kernel) (1,1) (bH (by decide));rw [fN.2.2] at i2;have t4:Hid (DI prog 22 #[fn (X ⟨B,0,Y⟩), .agg #[J U 1,J U 1]] a4 _):=i2;clear i2;go_at_call 22;with_reducible refine DB t4.o ?_
          rintro e ay ⟨Di,k9,rfl,o2,gt,rl,q5⟩;have wq:=Z (cH.of_owns (l:=[(1,1),(1,2)]) rl q5);clear rl q5;have h8:=Z (ac.step o2 gt);have ws:=Z (l1.step gt);have wu:=Z (l2.step gt);clear o2 gt;refine d _ _ (λ_=>h8.box) ?_;clear d K;go_simp;refine Dq 20 λK d=>?_;go_simp;obtain ⟨hu,f6⟩:=Qe (ay.alloc (ih #[J U 1,J U 1,J U 1,J U 2] 36));obtain ⟨g7,e9⟩:=Qe ay.heap.size;have ca:DJ ay.heap.size ay hu:=by rw [<- f6];exact (DC _ ay).alloc (DD _) _
          have q6:hu.heap[g7]? =X (ih #[J U 1,J U 1,J U 1,J U 2] 36 (0,0)):=by rw [<- f6, <- e9];exact DA ay _
          have pb:¬k9 g7:=λf=>by have r:=h8.o.cat.lt g7 f;have s:ay.heap.size=g7:=e9;omega
          have ms:=Z (h8.below ca);have wz:=Z (ws.step (ah.of_below ca));have wB:=Z (wu.step (ah.of_below ca));have l4:=Z (wq.step (ah.of_below ca));have l3:=Z (cH.new (F:=k9) (l:=[(1,1),(1,2)]) 2 rfl q6 pb);try rw [e9]
          try rw [f6]
          clear f6 e9 ca q6 pb;refine d _ _ (λ_=>ms.box) ?_;clear d K;go_simp;refine Dq 21 λK d=>?_;go_simp;have i4:=cB _ _ [(1,1),(1,2)] [(1,1),(1,2)] hu l4.at l3.at (by decide) (by decide);rw [show decide (([(1,1),(1,2)]:List RK)=[(1,1),(1,2)])=true from by decide] at i4;have v0:=Z i4;clear i4;go_at_call 17;with_reducible refine DB v0.o ?_
          rintro e D6 ⟨rfl,bA⟩;have h9:=Z (ms.below bA);have CB:=Z (wz.step (ah.of_below bA));have CC:=Z (wB.step (ah.of_below bA));have CD:=Z (l4.step (ah.of_below bA));have CE:=Z (l3.step (ah.of_below bA));clear bA;refine d _ _ (λ_=>h9.box) ?_;clear d K;go_simp;refine Qc [22,23] h9.box ?_;refine dN ?_;go_wp2_with fail
          go_meet;exact ⟨rfl,_,h9⟩
        · go_simp;obtain ⟨d6,f7⟩:=Qe (a4.alloc (ih #[J U 1,J U 1,J U 1,J U 2] 36));obtain ⟨g8,eg⟩:=Qe a4.heap.size;have dx:DJ a4.heap.size a4 d6:=by rw [<- f7];exact (DC _ a4).alloc (DD _) _
          have q7:d6.heap[g8]? =X (ih #[J U 1,J U 1,J U 1,J U 2] 36 (0,0)):=by rw [<- f7, <- eg];exact DA a4 _
          have pc:¬cQ g8:=λf=>by have r:=ac.o.cat.lt g8 f;have s:a4.heap.size=g8:=eg;omega
          have ha:=Z (ac.below dx);have x1:=Z (l1.step (ah.of_below dx));have x2:=Z (l2.step (ah.of_below dx));have x0:=Z (cH.new (F:=cQ) (l:=[(1,1),(1,2)]) 2 rfl q7 pc);try rw [eg]
          try rw [f7]
          clear f7 eg dx q7 pc;refine d _ _ (λ_=>ha.box) ?_;clear d K;go_simp;refine Dq 17 λK d=>?_;go_simp;have i6:=ck cQ d6 B jh ha.cat (by decide+kernel) (1,1) (bH (by decide));rw [fN.2.2] at i6;have t5:Hid (DI prog 22 #[fn (X ⟨B,0,Y⟩), .agg #[J U 1,J U 1]] d6 _):=i6;clear i6;go_at_call 22;with_reducible refine DB t5.o ?_
          rintro e C2 ⟨Dk,Ci,rfl,o3,cu,rr,qa⟩;have l6:=Z (cH.of_owns (l:=[(1,1),(1,2)]) rr qa);clear rr qa;have mt:=Z (ha.step o3 cu);have x3:=Z (x1.step cu);have x4:=Z (x2.step cu);have l7:=Z (x0.step cu);clear o3 cu;refine d _ _ (λ_=>mt.box) ?_;clear d K;go_simp;refine Dq 21 λK d=>?_;go_simp;have i8:=cB _ _ [(1,1),(1,2)] [(1,1),(1,2)] C2 l6.at l7.at (by decide) (by decide);rw [show decide (([(1,1),(1,2)]:List RK)=[(1,1),(1,2)])=true from by decide] at i8;have v1:=Z i8;clear i8;go_at_call 17;with_reducible refine DB v1.o ?_
          rintro e D7 ⟨rfl,bB⟩;have hb:=Z (mt.below bB);have CF:=Z (x3.step (ah.of_below bB));have CG:=Z (x4.step (ah.of_below bB));have CH:=Z (l7.step (ah.of_below bB));have CI:=Z (l6.step (ah.of_below bB));clear bB;refine d _ _ (λ_=>hb.box) ?_;clear d K;go_simp;refine Qc [22,23] hb.box ?_;refine dN ?_;go_wp2_with fail
          go_meet;exact ⟨rfl,_,hb⟩
     case rest=>
      obtain ⟨rfl,F,V⟩:=hcut;go_upto_region 16 with fail
      go_cut [10] (λt wx=>t=qn true/\∃F:Nat->Prop,Hid (SnS B w w1 F wx mS))
      case first=>
       have n:=Z (V.below (DC _ wc).drew);go_wp2_with fail
       refine wT (λW:DF=>∀q,B+1<=q->q<=B+5->W.heap[q]? =w1.heap[q]?) 999 ?_;refine Qd [0,1,2] n.box u ?_;refine Dp 3 λK d=>?_;go_simp;have ia:=uV F wc.drew B jh n.cat (2,2) (2,1) 1 (bH (by decide)) (bH (by decide)) (by unfold i64B;decide);rw [BT] at ia;have t6:Hid (DI prog 40 #[fn (X ⟨B,0,Y⟩), .agg #[J U 2,J U 2], .agg #[J U 2,J U 1],J U 1] wc.drew _):=ia;clear ia;go_at_call 40;with_reducible refine DB t6.o ?_
       rintro e n7 ⟨rfl,st,o5,sb⟩;have c4:=Z (n.step o5 sb);clear o5 sb;refine d _ _ (λ_=>c4.box) ?_;clear d K;go_simp;refine Qc [4,5] c4.box ?_;refine Qd [6,7] c4.box u ?_;refine Dq 8 λK d=>?_;go_simp;have ib:=uY st n7 B xM c4.cat (1,1) 2 (bH (by decide)) (by unfold i64B;decide);rw [BU] at ib;have t7:Hid (DI prog 27 #[fn (X ⟨B,0,Y⟩), .agg #[J U 1,J U 1],J U 2] n7 _):=ib;clear ib;go_at_call 27;with_reducible refine DB t7.o ?_
       rintro e a5 ⟨rfl,d0,oa,se⟩;have al:=Z (c4.step oa se);clear oa se;refine d _ _ (λ_=>al.box) ?_;clear d K;go_simp;refine Qc [9,10,11] al.box ?_;refine Qd [12,14] al.box u ?_;refine ec (i:=13) (j:=15) rfl rfl (by kernel_rfl) (by rfl) (by rfl) (λK d=>?_) (λK d=>?_)
       · go_simp;have it:=eI d0 a5 B mS al.cat (by decide+kernel);rw [dA.2.2.1] at it;have t8:Hid (DI prog 18 #[fn (X ⟨B,0,Y⟩)] a5 _):=it;clear it;go_at_call 18;with_reducible refine DB t8.o ?_
         rintro e aS ⟨Dn,bk,rfl,ob,sl,rs,qb⟩;have x5:=Z (cH.of_owns (l:=[(1,2)]) rs qb);clear rs qb;have hc:=Z (al.step ob sl);clear ob sl;refine d _ _ (λ_=>hc.box) ?_;clear d K;go_simp;refine Dq 15 λK d=>?_;go_simp;obtain ⟨hv,f8⟩:=Qe (aS.alloc (ih #[J U 1,J U 2] 36));obtain ⟨g9,ej⟩:=Qe aS.heap.size;have hI:DJ aS.heap.size aS hv:=by rw [<- f8];exact (DC _ aS).alloc (DD _) _
         have qc:hv.heap[g9]? =X (ih #[J U 1,J U 2] 36 (0,0)):=by rw [<- f8, <- ej];exact DA aS _
         have pd:¬bk g9:=λf=>by have r:=hc.o.cat.lt g9 f;have s:aS.heap.size=g9:=ej;omega
         have mv:=Z (hc.below hI);have lb:=Z (x5.step (ah.of_below hI));have la:=Z (cH.new (F:=bk) (l:=[(1,2)]) 1 rfl qc pd);try rw [ej]
         try rw [f8]
         clear f8 ej hI qc pd;refine d _ _ (λ_=>mv.box) ?_;clear d K;go_simp;refine Dq 16 λK d=>?_;go_simp;have iD:=cB _ _ [(1,2)] [(1,2)] hv lb.at la.at (by decide) (by decide);rw [show decide (([(1,2)]:List RK)=[(1,2)])=true from by decide] at iD;have v2:=Z iD;clear iD;go_at_call 17;with_reducible refine DB v2.o ?_
         rintro e a6 ⟨rfl,dy⟩;have ao:=Z (mv.below dy);have ld:=Z (lb.step (ah.of_below dy));have le:=Z (la.step (ah.of_below dy));clear dy;refine d _ _ (λ_=>ao.box) ?_;clear d K;go_simp;refine Qc [17,18] ao.box ?_;refine Qd [19,20,22,23,24] ao.box u ?_;refine ec (i:=21) (j:=25) rfl rfl (by kernel_rfl) (by rfl) (by rfl) (λK d=>?_) (λK d=>?_)
         · go_simp;have iF:=ck bk a6 B mS ao.cat (by decide+kernel) (1,2) (bH (by decide));rw [dA.2.2.2] at iF;have ta:Hid (DI prog 22 #[fn (X ⟨B,0,Y⟩), .agg #[J U 1,J U 2]] a6 _):=iF;clear iF;go_at_call 22;with_reducible refine DB ta.o ?_
           rintro e aT ⟨Do,ka,rfl,oc,gx,rx,qd⟩;have x6:=Z (cH.of_owns (l:=[(1,2),(2,1),(2,2)]) rx qd);clear rx qd;have hd:=Z (ao.step oc gx);have x7:=Z (ld.step gx);have xa:=Z (le.step gx);clear oc gx;refine d _ _ (λ_=>hd.box) ?_;clear d K;go_simp;refine Dq 25 λK d=>?_;go_simp;obtain ⟨hw,f9⟩:=Qe (aT.alloc (ih #[J U 1,J U 2,J U 2,J U 1,J U 2,J U 2] 36));obtain ⟨gb,em⟩:=Qe aT.heap.size;have cb:DJ aT.heap.size aT hw:=by rw [<- f9];exact (DC _ aT).alloc (DD _) _
           have qf:hw.heap[gb]? =X (ih #[J U 1,J U 2,J U 2,J U 1,J U 2,J U 2] 36 (0,0)):=by rw [<- f9, <- em];exact DA aT _
           have pe:¬ka gb:=λf=>by have r:=hd.o.cat.lt gb f;have s:aT.heap.size=gb:=em;omega
           have mP:=Z (hd.below cb);have xb:=Z (x7.step (ah.of_below cb));have xc:=Z (xa.step (ah.of_below cb));have lk:=Z (x6.step (ah.of_below cb));have lf:=Z (cH.new (F:=ka) (l:=[(1,2),(2,1),(2,2)]) 3 rfl qf pe);try rw [em]
           try rw [f9]
           clear f9 em cb qf pe;refine d _ _ (λ_=>mP.box) ?_;clear d K;go_simp;refine Dq 26 λK d=>?_;go_simp;have iN:=cB _ _ [(1,2),(2,1),(2,2)] [(1,2),(2,1),(2,2)] hw lk.at lf.at (by decide) (by decide);rw [show decide (([(1,2),(2,1),(2,2)]:List RK)=[(1,2),(2,1),(2,2)])=true from by decide] at iN;have v3:=Z iN;clear iN;go_at_call 17;with_reducible refine DB v3.o ?_
           rintro e D8 ⟨rfl,bO⟩;have he:=Z (mP.below bO);have CJ:=Z (xb.step (ah.of_below bO));have CK:=Z (xc.step (ah.of_below bO));have CL:=Z (lk.step (ah.of_below bO));have CM:=Z (lf.step (ah.of_below bO));clear bO;refine d _ _ (λ_=>he.box) ?_;clear d K;go_simp;refine Qc [27,28] he.box ?_;refine dN ?_;go_wp2_with fail
           go_meet;exact ⟨rfl,_,he⟩
         · go_simp;obtain ⟨d7,fc⟩:=Qe (a6.alloc (ih #[J U 1,J U 2,J U 2,J U 1,J U 2,J U 2] 36));obtain ⟨gd,eq⟩:=Qe a6.heap.size;have dz:DJ a6.heap.size a6 d7:=by rw [<- fc];exact (DC _ a6).alloc (DD _) _
           have qk:d7.heap[gd]? =X (ih #[J U 1,J U 2,J U 2,J U 1,J U 2,J U 2] 36 (0,0)):=by rw [<- fc, <- eq];exact DA a6 _
           have pf:¬bk gd:=λf=>by have r:=ao.o.cat.lt gd f;have s:a6.heap.size=gd:=eq;omega
           have hh:=Z (ao.below dz);have xv:=Z (ld.step (ah.of_below dz));have y0:=Z (le.step (ah.of_below dz));have xs:=Z (cH.new (F:=bk) (l:=[(1,2),(2,1),(2,2)]) 3 rfl qk pf);try rw [eq]
           try rw [fc]
           clear fc eq dz qk pf;refine d _ _ (λ_=>hh.box) ?_;clear d K;go_simp;refine Dq 21 λK d=>?_;go_simp;have iP:=ck bk d7 B mS hh.cat (by decide+kernel) (1,2) (bH (by decide));rw [dA.2.2.2] at iP;have tb:Hid (DI prog 22 #[fn (X ⟨B,0,Y⟩), .agg #[J U 1,J U 2]] d7 _):=iP;clear iP;go_at_call 22;with_reducible refine DB tb.o ?_
           rintro e C3 ⟨Dr,Cj,rfl,oi,cv,ry,qq⟩;have lm:=Z (cH.of_owns (l:=[(1,2),(2,1),(2,2)]) ry qq);clear ry qq;have n0:=Z (hh.step oi cv);have y2:=Z (xv.step cv);have y3:=Z (y0.step cv);have lo:=Z (xs.step cv);clear oi cv;refine d _ _ (λ_=>n0.box) ?_;clear d K;go_simp;refine Dq 26 λK d=>?_;go_simp;have iQ:=cB _ _ [(1,2),(2,1),(2,2)] [(1,2),(2,1),(2,2)] C3 lm.at lo.at (by decide) (by decide);rw [show decide (([(1,2),(2,1),(2,2)]:List RK)=[(1,2),(2,1),(2,2)])=true from by decide] at iQ;have v4:=Z iQ;clear iQ;go_at_call 17;with_reducible refine DB v4.o ?_
           rintro e D9 ⟨rfl,bY⟩;have hi:=Z (n0.below bY);have CN:=Z (y2.step (ah.of_below bY));have CO:=Z (y3.step (ah.of_below bY));have CP:=Z (lo.step (ah.of_below bY));have CQ:=Z (lm.step (ah.of_below bY));clear bY;refine d _ _ (λ_=>hi.box) ?_;clear d K;go_simp;refine Qc [27,28] hi.box ?_;refine dN ?_;go_wp2_with fail
           go_meet;exact ⟨rfl,_,hi⟩
       · go_simp;obtain ⟨d8,fp⟩:=Qe (a5.alloc (ih #[J U 1,J U 2] 36));obtain ⟨gi,es⟩:=Qe a5.heap.size;have p0:DJ a5.heap.size a5 d8:=by rw [<- fp];exact (DC _ a5).alloc (DD _) _
         have qs:d8.heap[gi]? =X (ih #[J U 1,J U 2] 36 (0,0)):=by rw [<- fp, <- es];exact DA a5 _
         have pk:¬d0 gi:=λf=>by have r:=al.o.cat.lt gi f;have s:a5.heap.size=gi:=es;omega
         have hj:=Z (al.below p0);have y4:=Z (cH.new (F:=d0) (l:=[(1,2)]) 1 rfl qs pk);try rw [es]
         try rw [fp]
         clear fp es p0 qs pk;refine d _ _ (λ_=>hj.box) ?_;clear d K;go_simp;refine Dq 13 λK d=>?_;go_simp;have iS:=eI d0 d8 B mS hj.cat (by decide+kernel);rw [dA.2.2.1] at iS;have tc:Hid (DI prog 18 #[fn (X ⟨B,0,Y⟩)] d8 _):=iS;clear iS;go_at_call 18;with_reducible refine DB tc.o ?_
         rintro e C4 ⟨Dt,d1,rfl,oj,k7,rW,qt⟩;have ls:=Z (cH.of_owns (l:=[(1,2)]) rW qt);clear rW qt;have n1:=Z (hj.step oj k7);have lv:=Z (y4.step k7);clear oj k7;refine d _ _ (λ_=>n1.box) ?_;clear d K;go_simp;refine Dq 16 λK d=>?_;go_simp;have j0:=cB _ _ [(1,2)] [(1,2)] C4 ls.at lv.at (by decide) (by decide);rw [show decide (([(1,2)]:List RK)=[(1,2)])=true from by decide] at j0;have v5:=Z j0;clear j0;go_at_call 17;with_reducible refine DB v5.o ?_
         rintro e a7 ⟨rfl,e1⟩;have au:=Z (n1.below e1);have lx:=Z (lv.step (ah.of_below e1));have lB:=Z (ls.step (ah.of_below e1));clear e1;refine d _ _ (λ_=>au.box) ?_;clear d K;go_simp;refine Qc [17,18] au.box ?_;refine Qd [19,20,22,23,24] au.box u ?_;refine ec (i:=21) (j:=25) rfl rfl (by kernel_rfl) (by rfl) (by rfl) (λK d=>?_) (λK d=>?_)
         · go_simp;have j1:=ck d1 a7 B mS au.cat (by decide+kernel) (1,2) (bH (by decide));rw [dA.2.2.2] at j1;have td:Hid (DI prog 22 #[fn (X ⟨B,0,Y⟩), .agg #[J U 1,J U 2]] a7 _):=j1;clear j1;go_at_call 22;with_reducible refine DB td.o ?_
           rintro e bb ⟨Du,kb,rfl,ok,gy,s0,qx⟩;have y5:=Z (cH.of_owns (l:=[(1,2),(2,1),(2,2)]) s0 qx);clear s0 qx;have hl:=Z (au.step ok gy);have y6:=Z (lx.step gy);have y7:=Z (lB.step gy);clear ok gy;refine d _ _ (λ_=>hl.box) ?_;clear d K;go_simp;refine Dq 25 λK d=>?_;go_simp;obtain ⟨hy,fs⟩:=Qe (bb.alloc (ih #[J U 1,J U 2,J U 2,J U 1,J U 2,J U 2] 36));obtain ⟨gn,ex⟩:=Qe bb.heap.size;have cc:DJ bb.heap.size bb hy:=by rw [<- fs];exact (DC _ bb).alloc (DD _) _
           have qy:hy.heap[gn]? =X (ih #[J U 1,J U 2,J U 2,J U 1,J U 2,J U 2] 36 (0,0)):=by rw [<- fs, <- ex];exact DA bb _
           have pn:¬kb gn:=λf=>by have r:=hl.o.cat.lt gn f;have s:bb.heap.size=gn:=ex;omega
           have n3:=Z (hl.below cc);have y8:=Z (y6.step (ah.of_below cc));have y9:=Z (y7.step (ah.of_below cc));have lP:=Z (y5.step (ah.of_below cc));have lE:=Z (cH.new (F:=kb) (l:=[(1,2),(2,1),(2,2)]) 3 rfl qy pn);try rw [ex]
           try rw [fs]
           clear fs ex cc qy pn;refine d _ _ (λ_=>n3.box) ?_;clear d K;go_simp;refine Dq 26 λK d=>?_;go_simp;have j2:=cB _ _ [(1,2),(2,1),(2,2)] [(1,2),(2,1),(2,2)] hy lP.at lE.at (by decide) (by decide);rw [show decide (([(1,2),(2,1),(2,2)]:List RK)=[(1,2),(2,1),(2,2)])=true from by decide] at j2;have v7:=Z j2;clear j2;go_at_call 17;with_reducible refine DB v7.o ?_
           rintro e Da ⟨rfl,c0⟩;have hm:=Z (n3.below c0);have CR:=Z (y8.step (ah.of_below c0));have CS:=Z (y9.step (ah.of_below c0));have CT:=Z (lP.step (ah.of_below c0));have CU:=Z (lE.step (ah.of_below c0));clear c0;refine d _ _ (λ_=>hm.box) ?_;clear d K;go_simp;refine Qc [27,28] hm.box ?_;refine dN ?_;go_wp2_with fail
           go_meet;exact ⟨rfl,_,hm⟩
         · go_simp;obtain ⟨d9,ft⟩:=Qe (a7.alloc (ih #[J U 1,J U 2,J U 2,J U 1,J U 2,J U 2] 36));obtain ⟨gp,eQ⟩:=Qe a7.heap.size;have e2:DJ a7.heap.size a7 d9:=by rw [<- ft];exact (DC _ a7).alloc (DD _) _
           have qz:d9.heap[gp]? =X (ih #[J U 1,J U 2,J U 2,J U 1,J U 2,J U 2] 36 (0,0)):=by rw [<- ft, <- eQ];exact DA a7 _
           have ps:¬d1 gp:=λf=>by have r:=au.o.cat.lt gp f;have s:a7.heap.size=gp:=eQ;omega
           have hn:=Z (au.below e2);have z9:=Z (lx.step (ah.of_below e2));have zd:=Z (lB.step (ah.of_below e2));have z0:=Z (cH.new (F:=d1) (l:=[(1,2),(2,1),(2,2)]) 3 rfl qz ps);try rw [eQ]
           try rw [ft]
           clear ft eQ e2 qz ps;refine d _ _ (λ_=>hn.box) ?_;clear d K;go_simp;refine Dq 21 λK d=>?_;go_simp;have j3:=ck d1 d9 B mS hn.cat (by decide+kernel) (1,2) (bH (by decide));rw [dA.2.2.2] at j3;have te:Hid (DI prog 22 #[fn (X ⟨B,0,Y⟩), .agg #[J U 1,J U 2]] d9 _):=j3;clear j3;go_at_call 22;with_reducible refine DB te.o ?_
           rintro e C5 ⟨Dv,Ck,rfl,op,cx,s1,r0⟩;have m0:=Z (cH.of_owns (l:=[(1,2),(2,1),(2,2)]) s1 r0);clear s1 r0;have n4:=Z (hn.step op cx);have zp:=Z (z9.step cx);have zs:=Z (zd.step cx);have m7:=Z (z0.step cx);clear op cx;refine d _ _ (λ_=>n4.box) ?_;clear d K;go_simp;refine Dq 26 λK d=>?_;go_simp;have j4:=cB _ _ [(1,2),(2,1),(2,2)] [(1,2),(2,1),(2,2)] C5 m0.at m7.at (by decide) (by decide);rw [show decide (([(1,2),(2,1),(2,2)]:List RK)=[(1,2),(2,1),(2,2)])=true from by decide] at j4;have v9:=Z j4;clear j4;go_at_call 17;with_reducible refine DB v9.o ?_
           rintro e Db ⟨rfl,c1⟩;have ho:=Z (n4.below c1);have CV:=Z (zp.step (ah.of_below c1));have CW:=Z (zs.step (ah.of_below c1));have CX:=Z (m7.step (ah.of_below c1));have CY:=Z (m0.step (ah.of_below c1));clear c1;refine d _ _ (λ_=>ho.box) ?_;clear d K;go_simp;refine Qc [27,28] ho.box ?_;refine dN ?_;go_wp2_with fail
           go_meet;exact ⟨rfl,_,ho⟩
      case rest=>
       obtain ⟨rfl,F,V⟩:=hcut;go_wp2_with fail
       refine DH (results_tmp rfl _ _ _) rfl ⟨rfl,V.b⟩
end
end Go.Proofs.YtjcimanddakkaaaGreatDoor
