/- Lemmas. -/
import Derived.Test.YtjcimanddakkaaaGreatDoorY9
import Derived.Test.YtjcimanddakkaaaGreatDoorY26
import Derived.Test.YtjcimanddakkaaaGreatDoorY28
set_option maxRecDepth 100000
set_option maxHeartbeats 8000000
namespace Go.Proofs.YtjcimanddakkaaaGreatDoor
open Go.Value renaming pointer→fn,int→J,slice→nq,bool→qn,map→CU
open _root_.Option renaming some→X,none→Y
open Go.IntKind renaming i64→U,u8→CV
open Go.Ending renaming returned→h1
open Go.Lib renaming hid→Z
open Go.Obj renaming cells→ih
open Tryz
open Go.World renaming alloc_heap_new→CW,cell?_of_block→Da
open Go.Calls renaming mono→CX
open Go.RowKit.Below renaming refl→CY,heap_setCell→Dn
open _root_.Nat renaming le_refl→CZ,add_assoc→Dc,zero_le→Do
open Go renaming World→Db,bodyPost_ret→Dd,Calls→De
open Go.RowKit renaming Below→Df
open _root_.Prod renaming ext→Dg
open _root_.List renaming length_append→Dh,getElem_mem→Di,take_of_length_le→Dk,flatMap_append→Dm
section
open Go.RowKit Go.Maps Go.Shelf
theorem nW {f:af} {N:Nat} (h:(fieldBytes f).length<=N) (n b c:Int):(fieldBytes (gm f n b c)).length<=N+100:=by
 have d:=fF (l:=textsL) (N:=10) (by decide) c;have g:=fF (l:=gE) (N:=10) (by decide) c;have e:=cG f;unfold gm;repeat' split
 · have a:=cG {f with tag:=pick io c};simp only at a;omega
 · have a:=cG {f with data:=f.data++pick textsL c};simp only [Dh] at a;omega
 · have a:=cG {f with ind:=pick gE c};simp only at a;omega
 · have a:=cG {f with subs:=[]};simp only [List.flatMap_nil,List.length_nil] at a;omega
 · have a:=cG {f with subs:=f.subs++[⟨u8I b,pick textsL c⟩]};simp only [Dm,Dh,List.flatMap_cons,List.flatMap_nil,List.append_nil,aR,List.length_cons] at a;omega
 · have a:=cG {f with subs:=f.subs++[⟨122,pick textsL c⟩]};simp only [Dm,Dh,List.flatMap_cons,List.flatMap_nil,List.append_nil,aR,List.length_cons] at a;omega
 · omega
theorem r7 (x:dE):bH (saidR x).fields:=by
 have key:∀q:Six,∀n b c:Int,bH (spoilR (madeR q) n b c).fields:=λq n b c=>by
  obtain ⟨g,d⟩:=ir q;unfold spoilR;repeat' split
  · exact ⟨by simp,λf a=>by cases a⟩
  · exact ⟨by dsimp only;omega,λf a=>by have:=d f a;omega⟩
  · exact ⟨by dsimp only;omega,λf a=>by have:=d f a;omega⟩
  · refine ⟨by dsimp only;rw [List.length_modify];omega,λf a=>?_⟩;dsimp only at a;obtain ⟨i,e,rfl⟩:=List.mem_iff_getElem.1 a;rw [List.getElem_modify];rw [List.length_modify] at e;have h:=d _ (Di e);split
    · have:=nW h n b c;omega
    · omega
 unfold saidR;dsimp only;split
 · exact key _ _ _ _
 · obtain ⟨g,d⟩:=ir (if x.b.tmod 3≠0 then workQ x.b else x.q);exact ⟨by omega,λf a=>by have:=d f a;omega⟩
structure bU (FC FM:Nat->Prop) (w:Db) (c p:Nat) (d:aq):Prop where
 cat:be FC w c d
 mod:ci FM w p d
 dis:∀k,FC k->FM k->False
theorem be.lt {F:Nat->Prop} {w:Db} {c:Nat} {d:aq} (h:be F w c d):∀k,F k->k<w.heap.size:=by obtain ⟨_,_,_,_,h⟩:=h;exact h.lt
theorem ci.lt {F:Nat->Prop} {w:Db} {p:Nat} {d:aq} (h:ci F w p d):∀k,F k->k<w.heap.size:=by obtain ⟨_,_,_,_,h⟩:=h;exact h.lt
theorem be.ok {F:Nat->Prop} {w:Db} {c:Nat} {d:aq} (h:be F w c d):aZ d:=by obtain ⟨_,_,_,_,h⟩:=h;exact h.ok
theorem bU.below {a b:Nat->Prop} {w w':Db} {c p:Nat} {d:aq} (h:bU a b w c p d) (e:Bw w w'):bU a b w' c p d:=⟨h.cat.below e,h.mod.below e,h.dis⟩
theorem bU.one {a b g:Nat->Prop} {w w1:Db} {c p:Nat} {d:aq} (h:bU a b w c p d) (f:ag a w g w1):ci b w1 p d:=
 h.mod.step (λk e=>f.block k (h.mod.lt k e) (λi=>h.dis k i e)) f.size
theorem bU.two {o f e l:Nat->Prop} {w w1 n:Db} {c p:Nat} {d q:aq} (h:bU o f w c p d) (r:be e w1 c q) (i:ag o w e w1) (v:ci l n p q) (b:ag f w1 l n):
 bU e l n c p q/\ag (λk=>o k∨f k) w (λk=>e k∨l k) n:=by
 have u:∀k,e k->f k->False:=λk a j=>by
  rcases i.new k a with m|m
  · exact h.dis k m j
  · have:=h.mod.lt k j;omega
 refine ⟨⟨r.step (λk a=>b.block k (r.lt k a) (λj=>u k a j)) b.size,v,λk a j=>?_⟩,?_⟩
 · rcases b.new k j with m|m
   · exact u k a m
   · have:=r.lt k a;omega
 · have x:ag (λk=>o k∨f k) w (λk=>e k∨f k) w1:=⟨i.os,i.tape,i.output,i.size,λk a t=>i.block k a (λs=>t (.inl s)),λk a=>a.elim (λg=>(i.new k g).imp .inl id) (λg=> .inl (.inr g))⟩;have y:ag (λk=>e k∨f k) w1 (λk=>e k∨l k) n:=⟨b.os,b.tape,b.output,b.size,λk a t=>b.block k a (λs=>t (.inr s)),λk a=>a.elim (λg=> .inl (.inl g)) (λg=>(b.new k g).imp .inr id)⟩;exact x.trans y
theorem Ba (y u:Nat->Prop) (w:Db) (c p:Nat) (d:aq) (h:bU y u w c p d) (k a b v D E G H I L:Int) (hx:yp ⟨k,a,b,v,⟨D,E,G,H,I,L⟩⟩):
 De prog 13 #[.agg #[fn (X ⟨c,0,Y⟩),fn (X ⟨p,0,Y⟩)], .agg #[J U k,J U a,J U b,J U v,J U D,J U E,J U G,J U H,J U I,J U L]] w λe w'=>∃B C:Nat->Prop,
  e=h1 (.tuple #[J U (actC d ⟨k,a,b,v,⟨D,E,G,H,I,L⟩⟩).2,J U (actC d ⟨k,a,b,v,⟨D,E,G,H,I,L⟩⟩).2])/\bU B C w' c p (actC d ⟨k,a,b,v,⟨D,E,G,H,I,L⟩⟩).1/\ag (λk=>y k∨u k) w (λk=>B k∨C k) w':=by
 obtain ⟨bc,hX⟩:∃bc:dE,(⟨k,a,b,v,⟨D,E,G,H,I,L⟩⟩:dE)=bc:=⟨_,rfl⟩;have a7:=yC k a b v D E G H I L hx;have cm:=r7 ⟨k,a,b,v,⟨D,E,G,H,I,L⟩⟩;have cd:actC d bc=if k.emod 8=5 then dropC d (recI a) (v.emod 6) else if k.emod 8=6 then decideC d (recI a) (recI b) (v.emod 6) false else if k.emod 8=7 then decideC d (recI a) (recI b) (v.emod 6) true else putC d (recI a) (v.emod 6) (saidR bc):=by rw [<- hX];rfl
 obtain ⟨R,hR⟩:=Qe (saidR ⟨k,a,b,v,⟨D,E,G,H,I,L⟩⟩);rw [hR] at a7 cm;rw [<- hX,hR] at cd;have a8:=Z cd;obtain ⟨A,hA⟩:=Qe (actC d ⟨k,a,b,v,⟨D,E,G,H,I,L⟩⟩);rw [hA] at a8 ⊢;obtain ⟨n,hn⟩:=Qe (v.emod 6);have al:i64B n:=by rw [<- hn];exact je v
 obtain ⟨mk,cl,lk⟩:=cD k 8 (by omega);have d9:Hid (∀W,De prog 24 #[J U k,J U 8] W λe w'=>e=h1 (J U (mk:Int))/\W=w'):=dg k 8 mk (by omega) (by omega) cl;have da:Hid (∀W,De prog 24 #[J U v,J U 6] W λe w'=>e=h1 (J U n)/\W=w'):=λW=>by rw [<- hn];exact jy v 6 W (by omega) (by omega)
 rw [hn] at a8 a7;have bO:=λW:Db=>ow a W hx.a;have bY:=λW:Db=>ow b W hx.b;have a6:=ek a;have b5:=ek b;obtain ⟨⟨s,t⟩,d4⟩:∃rr,recI a=rr:=⟨_,rfl⟩;obtain ⟨⟨b1,b2⟩,d5⟩:∃rr,recI b=rr:=⟨_,rfl⟩;rw [d4] at bO a6 a8 a7;rw [d5] at bY b5 a8;dsimp only [recK] at bO bY;have dk:=Z bO;have dr:=Z bY;have cu:=Z a7;have cy:=Z cm;have b9:Hid (k.emod 8=mk):=cl;obtain ⟨w2,b6⟩:=Qe ((w.alloc (ih #[fn (X ⟨c,0,Y⟩),fn (X ⟨p,0,Y⟩)] 27)).alloc (ih #[J U k,J U a,J U b,J U v,J U D,J U E,J U G,J U H,J U I,J U L] 47));have d1:Bw w w2:=by rw [<- b6];exact ((CY _ w).alloc (CZ _) _).alloc (by simp) _
 have cP:w2.heap[w.heap.size]? =X (ih #[fn (X ⟨c,0,Y⟩),fn (X ⟨p,0,Y⟩)] 27 (0,0)):=by rw [<- b6,Below.heap_alloc _ _ _ (by simp)];exact CW w _
 have bk:w2.heap[w.heap.size+1]? =X (ih #[J U k,J U a,J U b,J U v,J U D,J U E,J U G,J U H,J U I,J U L] 47 (0,0)):=by rw [<- b6];have:=CW (w.alloc (ih #[fn (X ⟨c,0,Y⟩),fn (X ⟨p,0,Y⟩)] 27)) (ih #[J U k,J U a,J U b,J U v,J U D,J U E,J U G,J U H,J U I,J U L] 47);rwa [World.size_alloc] at this
 have dx:=Z b6;have b3:=Z d1;have cp:=Z cP;have c3:=Z bk;have HH:=Z h;have c2:Hid (∀W,Bw w2 W->W.cell? ⟨w.heap.size+1,0,Y⟩=X (J U k)/\W.cell? ⟨w.heap.size+1,1,Y⟩=X (J U a)/\W.cell? ⟨w.heap.size+1,2,Y⟩=X (J U b)/\W.cell? ⟨w.heap.size+1,3,Y⟩=X (J U v)):=λW hW=>by have l:=(hW.block _ (ae bk)).trans bk;exact ⟨(aa l 0).trans rfl,(aa l 1).trans rfl,(aa l 2).trans rfl,(aa l 3).trans rfl⟩
 clear hX cd hR hA hn cl bO bY d4 d5 a7 cm b6 d1 cP bk h hx;go_enter func13,ntmps13;go_upto_region 1 with fail
 rw [dx.o];obtain ⟨_,x1,_,_⟩:=c2 w2 (CY _ _);go_upto_region 2 with (go_at_call 20;((with_reducible refine CX (dk.o _) ?_);rintro e w3 ⟨rfl,bt⟩))
 obtain ⟨q6,bA⟩:=Qe w3.heap.size;obtain ⟨w4,c0⟩:=Qe (w3.alloc (ih #[J U s,J U t] 36));have ay:w4.heap[q6]? =X (ih #[J U s,J U t] 36 (0,0)):=by rw [<- c0, <- bA];exact CW w3 _
 have ce:Bw w2 w4:=by rw [<- c0];exact bt.alloc bt.size _
 have e3:w2.heap.size<=q6:=by rw [<- bA];exact bt.size
 rw [bA,c0];clear bA c0 bt x1;obtain ⟨_,_,x2,_⟩:=c2 w4 ce;have cb:=Z ay;have b7:=Z ce;clear ay ce;go_upto_region 3 with (go_at_call 20;((with_reducible refine CX (dr.o _) ?_);rintro e w5 ⟨rfl,bv⟩))
 obtain ⟨q7,bB⟩:=Qe w5.heap.size;obtain ⟨f,c1⟩:=Qe (w5.alloc (ih #[J U b1,J U b2] 36));have bs:f.heap[q7]? =X (ih #[J U b1,J U b2] 36 (0,0)):=by rw [<- c1, <- bB];exact CW w5 _
 have cg:Bw w4 f:=by rw [<- c1];exact bv.alloc bv.size _
 have e4:w4.heap.size<=q7:=by rw [<- bB];exact bv.size
 have aC:Bw w2 f:=b7.trans (cg.mono b7.size);have ay:f.heap[q6]? =X (ih #[J U s,J U t] 36 (0,0)):=(cg.block _ (ae cb.o)).trans cb.o;rw [bB,c1];clear bB c1 bv x2;obtain ⟨x0,_,_,x3⟩:=c2 f aC;have HP:Hid (bU y u f c p d):=HH.below (b3.trans (aC.mono b3.size));have bb:Hid (ag (λk=>y k∨u k) w (λk=>y k∨u k) f):=ag.of_below (b3.trans (aC.mono b3.size));have c9:Hid (w.heap.size<=q6/\w.heap.size<=q7/\q6<f.heap.size/\q7<f.heap.size/\w.heap.size+1<f.heap.size):=by have l:=b3.size;have h2:=ae ay;have h3:=ae bs;have h4:=b7.size;have h5:=ae c3.o;have h6:=aC.size;exact ⟨by omega,by omega,h2,h3,by omega⟩
 have a5:Hid (∀k,y k∨u k->k<w.heap.size):=λk r=>r.elim (HH.cat.lt k) (HH.mod.lt k);have b8:Hid (∀W:Db,(∀q,w.heap.size<=q->q<f.heap.size->W.heap[q]? =f.heap[q]?)->(W.cell? ⟨w.heap.size,0,Y⟩=X (fn (X ⟨c,0,Y⟩))/\W.cell? ⟨w.heap.size,1,Y⟩=X (fn (X ⟨p,0,Y⟩)))/\(W.cell? ⟨q6,0,Y⟩=X (J U s)/\W.cell? ⟨q6,1,Y⟩=X (J U t))/\(W.cell? ⟨q7,0,Y⟩=X (J U b1)/\W.cell? ⟨q7,1,Y⟩=X (J U b2))):=λW hW=>by have hl:=c9.o;have g0:=(hW w.heap.size (CZ _) (by omega)).trans ((aC.block _ (ae cp.o)).trans cp.o);have g1:=(hW q6 hl.1 hl.2.2.1).trans ay;have g2:=(hW q7 hl.2.1 hl.2.2.2.1).trans bs;exact ⟨⟨(aa g0 0).trans rfl,(aa g0 1).trans rfl⟩,⟨(aa g1 0).trans rfl,(aa g1 1).trans rfl⟩,(aa g2 0).trans rfl,(aa g2 1).trans rfl⟩
 have d6:∀q,w.heap.size<=q->q<f.heap.size->f.drew.heap[q]? =f.heap[q]? :=λ_ _ _=>rfl;have ac:Hid (∀(F F':Nat->Prop) (W W':Db),(∀k,F k->k<w.heap.size)->(∀q,w.heap.size<=q->q<f.heap.size->W.heap[q]? =f.heap[q]?)->f.heap.size<=W.heap.size->ag F W F' W'->∀q,w.heap.size<=q->q<f.heap.size->W'.heap[q]? =f.heap[q]?):=λF F' W W' hF hS hz hs q hq b0=>(hs.block q (by omega) (λhf=>by have:=hF q hf;omega)).trans (hS q hq b0);have d7:=Z aC;have e1:=Z ay;have e2:=Z bs;have a9:=Z d6;clear aC ay bs cg cb b7 d6
 go_upto_block 0 with (first
  |(go_at_call 24;((with_reducible refine CX (da.o _) ?_);rintro e o ⟨rfl,rfl⟩))
  |(go_at_call 24;((with_reducible refine CX (d9.o _) ?_);rintro e o ⟨rfl,rfl⟩)))
 by_cases h5:mk=5
 · subst h5;have O:Hid (dropC d (s,t) n=A):=by unfold Hid;rw [a8.o,b9.o];rw [if_pos (by omega)]
   have hP:=HP.below (CY _ f).drew;have i:=jf y f.drew c d hP.cat (s,t) n a6 al;dsimp only [recK] at i;rw [O.o] at i;have ao:=Z i;clear i hP;go_wp2_with fail
   refine wT (λW:Db=>∀q,w.heap.size<=q->q<f.heap.size->W.heap[q]? =f.heap[q]?) 999 ?_;refine Qd [0,2,3,5,7,8,1,6] a9.o b8 ?_;refine Dp 4 λK j=>?_;go_simp;go_at_call 27;with_reducible refine CX ao.o ?_
   rintro e o ⟨rfl,B,V,m⟩;have a0:=ac y B f.drew o (λk r=>a5 k (.inl r)) a9.o (CZ _) m;have ad:=bU.one (HP.below (CY _ f).drew) m;have i:=zI u o p d ad (s,t) n a6 al;dsimp only [recK] at i;rw [O.o] at i;have au:=Z i;have b4:=Z V;have a4:=Z m;have T:=Z a0;clear i V m ad a0;refine j _ _ (λ_=>T.o) ?_;clear j K;go_simp;refine Dp 9 λK j=>?_;go_simp;go_at_call 42;with_reducible refine CX au.o ?_
   rintro e N ⟨rfl,C,hM,x⟩;have a3:=ac u C o N (λk r=>a5 k (.inr r)) T.o (by have l:=a4.size;exact l) x;have M:=Z a3;have av:=Z hM;have ax:=Z x;clear hM x a3;refine j _ _ (λ_=>M.o) ?_;clear j K;go_simp;refine Qc [10,11] M.o ?_;refine dN ?_;go_wp2_with fail
   refine Dd (v:= .tuple #[J U A.2,J U A.2]) (by simp [results,Tryz.results13,go_sem]) rfl ?_;obtain ⟨aS,aT⟩:=bU.two (HP.below (CY _ f).drew) b4.o a4.o av.o ax.o;exact ⟨B,C,rfl,aS,(bb.trans (ag.of_below (CY _ f).drew)).trans aT⟩
 by_cases h6:mk=6
 · subst h6;have O:Hid (decideC d (s,t) (b1,b2) n false=A):=by unfold Hid;rw [a8.o,b9.o];rw [if_neg (by omega),if_pos (by omega)]
   have hP:=HP.below (CY _ f).drew;have i:=rE y f.drew c d hP.cat (s,t) (b1,b2) n a6 b5 al;dsimp only [recK] at i;rw [O.o] at i;have ao:=Z i;clear i hP;go_wp2_with fail
   refine wT (λW:Db=>∀q,w.heap.size<=q->q<f.heap.size->W.heap[q]? =f.heap[q]?) 999 ?_;refine Qd [0,2,3,4,6,8,9,10,1,7] a9.o b8 ?_;refine Dp 5 λK j=>?_;go_simp;go_at_call 39;with_reducible refine CX ao.o ?_
   rintro e o ⟨rfl,B,V,m⟩;have a0:=ac y B f.drew o (λk r=>a5 k (.inl r)) a9.o (CZ _) m;have ad:=bU.one (HP.below (CY _ f).drew) m;have i:=yk u o p d ad (s,t) (b1,b2) n a6 b5 al;dsimp only [recK] at i;rw [O.o] at i;have au:=Z i;have b4:=Z V;have a4:=Z m;have T:=Z a0;clear i V m ad a0;refine j _ _ (λ_=>T.o) ?_;clear j K;go_simp;refine Dp 11 λK j=>?_;go_simp;go_at_call 43;with_reducible refine CX au.o ?_
   rintro e N ⟨rfl,C,hM,x⟩;have a3:=ac u C o N (λk r=>a5 k (.inr r)) T.o (by have l:=a4.size;exact l) x;have M:=Z a3;have av:=Z hM;have ax:=Z x;clear hM x a3;refine j _ _ (λ_=>M.o) ?_;clear j K;go_simp;refine Qc [12,13] M.o ?_;refine dN ?_;go_wp2_with fail
   refine Dd (v:= .tuple #[J U A.2,J U A.2]) (by simp [results,Tryz.results13,go_sem]) rfl ?_;obtain ⟨aS,aT⟩:=bU.two (HP.below (CY _ f).drew) b4.o a4.o av.o ax.o;exact ⟨B,C,rfl,aS,(bb.trans (ag.of_below (CY _ f).drew)).trans aT⟩
 by_cases h7:mk=7
 · subst h7;have O:Hid (decideC d (s,t) (b1,b2) n true=A):=by unfold Hid;rw [a8.o,b9.o];rw [if_neg (by omega),if_neg (by omega),if_pos (by omega)]
   have hP:=HP.below (CY _ f).drew;have i:=ua y f.drew c d hP.cat (s,t) (b1,b2) n a6 b5 al;dsimp only [recK] at i;rw [O.o] at i;have ao:=Z i;clear i hP;go_wp2_with fail
   refine wT (λW:Db=>∀q,w.heap.size<=q->q<f.heap.size->W.heap[q]? =f.heap[q]?) 999 ?_;refine Qd [0,2,3,4,6,8,9,10,1,7] a9.o b8 ?_;refine Dp 5 λK j=>?_;go_simp;go_at_call 40;with_reducible refine CX ao.o ?_
   rintro e o ⟨rfl,B,V,m⟩;have a0:=ac y B f.drew o (λk r=>a5 k (.inl r)) a9.o (CZ _) m;have ad:=bU.one (HP.below (CY _ f).drew) m;have i:=zt u o p d ad (s,t) (b1,b2) n a6 b5 al;dsimp only [recK] at i;rw [O.o] at i;have au:=Z i;have b4:=Z V;have a4:=Z m;have T:=Z a0;clear i V m ad a0;refine j _ _ (λ_=>T.o) ?_;clear j K;go_simp;refine Dp 11 λK j=>?_;go_simp;go_at_call 44;with_reducible refine CX au.o ?_
   rintro e N ⟨rfl,C,hM,x⟩;have a3:=ac u C o N (λk r=>a5 k (.inr r)) T.o (by have l:=a4.size;exact l) x;have M:=Z a3;have av:=Z hM;have ax:=Z x;clear hM x a3;refine j _ _ (λ_=>M.o) ?_;clear j K;go_simp;refine Qc [12,13] M.o ?_;refine dN ?_;go_wp2_with fail
   refine Dd (v:= .tuple #[J U A.2,J U A.2]) (by simp [results,Tryz.results13,go_sem]) rfl ?_;obtain ⟨aS,aT⟩:=bU.two (HP.below (CY _ f).drew) b4.o a4.o av.o ax.o;exact ⟨B,C,rfl,aS,(bb.trans (ag.of_below (CY _ f).drew)).trans aT⟩
 have c5:((mk:Int)==5)=false:=by simp;omega
 have c6:((mk:Int)==6)=false:=by simp;omega
 have c7:((mk:Int)==7)=false:=by simp;omega
 have O:Hid (putC d (s,t) n R=A):=by unfold Hid;rw [a8.o,b9.o];rw [if_neg (by omega),if_neg (by omega),if_neg (by omega)]
 obtain ⟨R1,R2,R3⟩:=R;have a7:=cu.o;dsimp only [kf] at a7;have cv:=Z a7;have cx:Hid (bH R3):=cy.o;have dc:Hid (∀W:Db,(∀q,w.heap.size<=q->q<f.heap.size->W.heap[q]? =f.heap[q]?)->(W.cell? ⟨w.heap.size+1,0,Y⟩=X (J U k)/\W.cell? ⟨w.heap.size+1,1,Y⟩=X (J U a)/\W.cell? ⟨w.heap.size+1,2,Y⟩=X (J U b)/\W.cell? ⟨w.heap.size+1,3,Y⟩=X (J U v))/\W.cell? ⟨w.heap.size+1,4,Y⟩=X (J U D)/\W.cell? ⟨w.heap.size+1,5,Y⟩=X (J U E)/\W.cell? ⟨w.heap.size+1,6,Y⟩=X (J U G)/\W.cell? ⟨w.heap.size+1,7,Y⟩=X (J U H)/\W.cell? ⟨w.heap.size+1,8,Y⟩=X (J U I)/\W.cell? ⟨w.heap.size+1,9,Y⟩=X (J U L)):=λW hW=>by have l:=(hW (w.heap.size+1) (by omega) c9.o.2.2.2.2).trans ((d7.o.block _ (ae c3.o)).trans c3.o);exact ⟨⟨(aa l 0).trans rfl,(aa l 1).trans rfl,(aa l 2).trans rfl,(aa l 3).trans rfl⟩,(aa l 4).trans rfl,(aa l 5).trans rfl,(aa l 6).trans rfl,(aa l 7).trans rfl,(aa l 8).trans rfl,(aa l 9).trans rfl⟩
 clear a7 cu cy;go_upto_region 11 with fail
 refine wT (λW:Db=>∀q,w.heap.size<=q->q<f.heap.size->W.heap[q]? =f.heap[q]?) 999 ?_;refine Qd [0,5,1,6] a9.o b8 ?_;refine Qd [2,7] a9.o dc ?_;refine Dp 3 λK j=>?_;go_simp;go_at_call 45;with_reducible refine CX (cv.o f.drew) ?_
 rintro e o ⟨va,vc,rfl,d2,bw⟩;have a0:∀q,w.heap.size<=q->q<f.heap.size->o.heap[q]? =f.heap[q]? :=λq _ b0=>bw.block q b0;have cc:=(HP.below (CY _ f).drew).below bw;have i:=jw y o c d cc.cat (s,t) n ⟨R1,R2,R3⟩ (nq va R3.length vc) a6 al f.heap.size o.heap.size d2 (CZ _) (λq l _ hF=>by have h2:=a5.o q (.inl hF);have h3:=c9.o;omega) cx.o;rw [O.o] at i;dsimp only [kf] at i;have ao:=Z i;have T:=Z a0;have cq:=Z cc;have c4:Hid (Bw f o):=(CY _ f).drew.trans bw;clear i a0 cc d2 bw;refine j _ _ (λ_=>T.o) ?_;clear j K;go_simp;refine Dp 4 λK j=>?_;go_simp;go_at_call 29;with_reducible refine CX ao.o ?_
 rintro e N ⟨rfl,B,V,m⟩;have a3:=ac y B o N (λk r=>a5 k (.inl r)) T.o c4.size m;have av:Hid (ci u N p d):=bU.one cq.o m;have d8:=Z V;have a4:=Z m;have M:=Z a3;have cz:Hid (f.heap.size<=N.heap.size):=Nat.le_trans c4.size m.size;clear V m a3;refine j _ _ (λ_=>M.o) ?_;clear j K;go_simp;refine Dp 8 λK j=>?_;go_simp;go_at_call 45;with_reducible refine CX (cv.o N) ?_
 rintro e w9 ⟨dy,dz,rfl,d3,ch⟩;have d0:∀q,w.heap.size<=q->q<f.heap.size->w9.heap[q]? =f.heap[q]? :=λq hq b0=>(ch.block q (Nat.lt_of_lt_of_le b0 cz.o)).trans (M q hq b0);have i:=Az u N w9 p d av.o ch (s,t) n R1 R2 R3 (nq dy R3.length dz) d3 cx.o a6 al;rw [O.o] at i;dsimp only [kf] at i;have au:=Z i;have ds:=Z d0;clear i d0 d3 ch;refine j _ _ (λ_=>ds.o) ?_;clear j K;go_simp;refine Dp 9 λK j=>?_;go_simp;go_at_call 46;with_reducible refine CX au.o ?_
 rintro e e0 ⟨rfl,C,hM,x⟩;have cQ:=ac u C N e0 (λk r=>a5 k (.inr r)) M.o cz.o x;have cs:=Z cQ;have dd:=Z hM;have ax:=Z x;clear hM x cQ;refine j _ _ (λ_=>cs.o) ?_;clear j K;go_simp;refine Qc [10,11] cs.o ?_;refine dN ?_;go_wp2_with fail
 refine Dd (v:= .tuple #[J U A.2,J U A.2]) (by simp [results,Tryz.results13,go_sem]) rfl ?_;obtain ⟨aS,aT⟩:=bU.two cq.o d8.o a4.o dd.o ax.o;exact ⟨B,C,rfl,aS,(bb.trans (ag.of_below c4.o)).trans aT⟩
def tq (x:dE):List Value:=[J U x.k,J U x.a,J U x.b,J U x.v,J U x.q.a,J U x.q.b,J U x.q.c,J U x.q.d,J U x.q.e,J U x.q.f]
structure jT (w:Db) (v:Value) (l:List dE):Prop where
 at_:aF 0 w.heap.size w v l.length (l.flatMap tq)
 ok:∀x∈l,yp x
 len:l.length<=maxLen
theorem jT.keep {w w':Db} {v:Value} {l:List dE} (h:jT w v l) (a:Bw w w'):jT w' v l:=
 ⟨(h.at_.kept (λq _ b=>a.block q b)).mono (CZ _) a.size,h.ok,h.len⟩
theorem wL (l:List dE) (k:Nat) (h:k<l.length):runC (l.take (k+1)) cat0=(actC (runC (l.take k) cat0) l[k]).1:=by
 rw [List.take_succ_eq_append_getElem h,wM];rfl
theorem yK (v:Value) (l:List dE) (w:Db) (h:jT w v l):
 De prog 11 #[v] w λe w'=>∃(c p:Nat) (f g:Nat->Prop),e=h1 (.tuple #[.agg #[fn (X ⟨c,0,Y⟩),fn (X ⟨p,0,Y⟩)],qn true])/\bU f g w' c p (playC l)/\Bw w w'/\∀k,f k∨g k->w.heap.size<=k:=by
 have j:=h.at_;obtain ⟨a,cg,rfl,_⟩:=id j;obtain ⟨w1,M⟩:=Qe (w.alloc (ih #[fn Y,fn Y] 27));have z1:w1.heap.size=w.heap.size+1:=by rw [<- M];simp
 have b2:w1.heap[w.heap.size]? =X (ih #[fn Y,fn Y] 27 (0,0)):=by rw [<- M];exact CW w _
 obtain ⟨r,O⟩:=Qe (w1.alloc (ih #[CU Y,CU Y,CU Y,fn Y] 117));have z2:r.heap.size=w.heap.size+2:=by rw [<- O];simp [z1]
 obtain ⟨t,R⟩:=Qe (r.alloc (ih #[nq Y 0 0,nq Y 0 0,nq Y 0 0] 34));have z3:t.heap.size=w.heap.size+3:=by rw [<- R];simp [z2]
 obtain ⟨u,T⟩:=Qe (t.alloc (ih #[fn (X ⟨w.heap.size+1,0,Y⟩),fn (X ⟨w.heap.size+2,0,Y⟩)] 27));have z4:u.heap.size=w.heap.size+4:=by rw [<- T];simp [z3]
 have b0:be (λk=>k=w.heap.size+1) r (w.heap.size+1) cat0:=by have:=tU w1;rw [z1,O] at this;exact this
 have b1:ci (λk=>k=w.heap.size+2) t (w.heap.size+2) cat0:=by have:=yR r;rw [z2,R] at this;exact this
 have a0:Bw r t:=by rw [<- R];exact (CY _ r).alloc (CZ _) _
 have H:Bw t u:=by rw [<- T];exact (CY _ t).alloc (CZ _) _
 have ad:Bw w1 r:=by rw [<- O];exact (CY _ w1).alloc (CZ _) _
 have aT:Bw w w1:=by rw [<- M];exact (CY _ w).alloc (CZ _) _
 have aS:Hid (bU (λk=>k=w.heap.size+1) (λk=>k=w.heap.size+2) u (w.heap.size+1) (w.heap.size+2) cat0):=⟨(b0.below a0).below H,b1.below H,λk B h2=>by omega⟩;have b4:u.heap[w.heap.size]? =X (ih #[fn Y,fn Y] 27 (0,0)):=((H.block _ (by omega)).trans ((a0.block _ (by omega)).trans (ad.block _ (by omega)))).trans b2;have b6:u.heap[w.heap.size+3]? =X (ih #[fn (X ⟨w.heap.size+1,0,Y⟩),fn (X ⟨w.heap.size+2,0,Y⟩)] 27 (0,0)):=by rw [<- z3, <- T];exact CW t _
 have bv:Hid (Bw w u):=((aT.trans (ad.mono (by omega))).trans (a0.mono (by omega))).trans (H.mono (by omega));have bY:=Z b4;have ac:=Z b6;have au:=Z (xl w1);have av:=Z (AG r);rw [z1,O] at au;rw [z2,R] at av;have c1:=Z M;have c4:=Z T;have c5:=Z z3;have ce:=Z z4;have V:=Z h;clear M O R T z1 z2 z3 z4 b2 b4 b6 b0 b1 aT ad a0 H h j;go_enter func11,ntmps11;go_upto_region 1 with fail
 rw [c1.o]
 go_upto_region 2 with (first
  |(go_at_call 32;((with_reducible refine CX au.o ?_);rintro e wx ⟨rfl,D⟩;have D:=D.symm;subst D))
  |(go_at_call 33;((with_reducible refine CX av.o ?_);rintro e wx ⟨rfl,D⟩;have D:=D.symm;subst D)))
 rw [c5.o,c4.o];have t0:u.cell? ⟨w.heap.size+3,0,Y⟩=X (fn (X ⟨w.heap.size+1,0,Y⟩)):=(aa ac.o 0).trans rfl;go_upto_region 5 with fail
 clear t0;obtain ⟨c,hc⟩:=Qe (w.heap.size+1);obtain ⟨p,hp⟩:=Qe (w.heap.size+2);obtain ⟨N,hN⟩:=Qe l.length;rw [hc,hp] at aS ac;have HN:=Z hN;have a1:N<=maxLen:=by rw [<- hN];exact V.o.len
 have bB:=Z a1;rw [hc,hp,hN];have bw:Hid (w.heap.size<=c/\w.heap.size<=p/\c<w.heap.size+3/\p<w.heap.size+3/\c≠w.heap.size/\p≠w.heap.size):=⟨by omega,by omega,by omega,by omega,by omega,by omega⟩;clear hc hp hN a1;go_loopw [5] (λi wr=>∃(k:Nat) (f g:Nat->Prop),k<=N/\k<=40/\i=J U k/\Hid (bU f g wr c p (runC (l.take k) cat0))/\Hid (∀q,f q∨g q->w.heap.size<=q/\q≠w.heap.size/\q≠w.heap.size+3)/\Hid (wr.heap[w.heap.size]? =X (ih #[fn Y,fn Y] 27 (0,0)))/\Hid (wr.heap[w.heap.size+3]? =X (ih #[fn (X ⟨c,0,Y⟩),fn (X ⟨p,0,Y⟩)] 27 (0,0)))/\Hid (Bw w wr)) (λi _=>N - (intOf i).toNat)
 case atStart=>exact ⟨0,_,_,Do _,Do _,rfl,aS.o,λq m=>by have:=bw.o;rcases m with h|h<;>omega,bY.o,ac.o,bv.o⟩
 case round=>
  obtain ⟨k,f,g,hk,cp,rfl,HP,y,E,F,G⟩:=hrel;have a1:=bB.o;unfold maxLen at a1;by_cases hlt:k<N/\k<40
  · obtain ⟨a4,bb⟩:=hlt;have a5:k<l.length:=by rw [HN.o];exact a4
    have a6:=wL l k a5;have c7:=(V.keep G.o).at_;have ao:=V.ok _ (Di a5);obtain ⟨x,hx⟩:=Qe (l[k]);obtain ⟨a2,c2,hv,b9⟩:=c7;have al:l.flatMap tq≠[]:=by intro e;have B:=List.flatMap_eq_nil_iff.1 e _ (Di a5);cases B
    obtain ⟨b,d,ha,_,c9,b8⟩:=b9 al;subst ha;injection hv with hv1 hv2 bk
    subst hv1;have j:∀i,i<10->wr.cell? ⟨b,d+(k * 10+i),Y⟩=(tq x)[i]? :=λi hi=>by have n:=cC tq 10 (λ_=>rfl) l k a5 i hi;rw [hx] at n;have I:i<(tq x).length:=hi;rw [List.getElem?_eq_getElem I] at n ⊢;exact b8 _ _ n
    rw [hx] at a6 ao;obtain ⟨xk,xa,xb,xv,⟨qa,qb,qc,qd,qe,qf⟩⟩:=x;have y0:wr.cell? ⟨b,d+k * 10,Y⟩=X (J U xk):=(j 0 (by omega)).trans rfl;have y1:wr.cell? ⟨b,d+k * 10+1,Y⟩=X (J U xa):=(by rw [Dc];exact (j 1 (by omega)).trans rfl);have y2:wr.cell? ⟨b,d+k * 10+2,Y⟩=X (J U xb):=(by rw [Dc];exact (j 2 (by omega)).trans rfl);have y3:wr.cell? ⟨b,d+k * 10+3,Y⟩=X (J U xv):=(by rw [Dc];exact (j 3 (by omega)).trans rfl);have y4:wr.cell? ⟨b,d+k * 10+4,Y⟩=X (J U qa):=(by rw [Dc];exact (j 4 (by omega)).trans rfl);have y5:wr.cell? ⟨b,d+k * 10+5,Y⟩=X (J U qb):=(by rw [Dc];exact (j 5 (by omega)).trans rfl);have y6:wr.cell? ⟨b,d+k * 10+6,Y⟩=X (J U qc):=(by rw [Dc];exact (j 6 (by omega)).trans rfl);have y7:wr.cell? ⟨b,d+k * 10+7,Y⟩=X (J U qd):=(by rw [Dc];exact (j 7 (by omega)).trans rfl);have y8:wr.cell? ⟨b,d+k * 10+8,Y⟩=X (J U qe):=(by rw [Dc];exact (j 8 (by omega)).trans rfl);have y9:wr.cell? ⟨b,d+k * 10+9,Y⟩=X (J U qf):=(by rw [Dc];exact (j 9 (by omega)).trans rfl);have HY:Hid (∀W:Db,(W.heap[b]? =wr.heap[b]? /\W.heap[w.heap.size+3]? =wr.heap[w.heap.size+3]?)->(W.cell? ⟨w.heap.size+3,0,Y⟩=X (fn (X ⟨c,0,Y⟩))/\W.cell? ⟨w.heap.size+3,1,Y⟩=X (fn (X ⟨p,0,Y⟩)))/\(W.cell? ⟨b,d+k * 10,Y⟩=X (J U xk)/\W.cell? ⟨b,d+k * 10+1,Y⟩=X (J U xa)/\W.cell? ⟨b,d+k * 10+2,Y⟩=X (J U xb)/\W.cell? ⟨b,d+k * 10+3,Y⟩=X (J U xv))/\W.cell? ⟨b,d+k * 10+4,Y⟩=X (J U qa)/\W.cell? ⟨b,d+k * 10+5,Y⟩=X (J U qb)/\W.cell? ⟨b,d+k * 10+6,Y⟩=X (J U qc)/\W.cell? ⟨b,d+k * 10+7,Y⟩=X (J U qd)/\W.cell? ⟨b,d+k * 10+8,Y⟩=X (J U qe)/\W.cell? ⟨b,d+k * 10+9,Y⟩=X (J U qf)):=λW hW=>by have o:∀i,W.cell? ⟨b,i,Y⟩=wr.cell? ⟨b,i,Y⟩:=λi=>Da (a:=⟨b,i,Y⟩) hW.1;have ht:=hW.2.trans F.o;exact ⟨⟨(aa ht 0).trans rfl,(aa ht 1).trans rfl⟩,⟨(o _).trans y0,(o _).trans y1,(o _).trans y2,(o _).trans y3⟩,(o _).trans y4,(o _).trans y5,(o _).trans y6,(o _).trans y7,(o _).trans y8,(o _).trans y9⟩
    have ay:=Z (Ba f g wr.drew c p _ (HP.below (CY _ wr).drew) xk xa xb xv qa qb qc qd qe qf ao);obtain ⟨A,hA⟩:=Qe (actC (runC (l.take k) cat0) ⟨xk,xa,xb,xv,⟨qa,qb,qc,qd,qe,qf⟩⟩);rw [hA] at ay a6;have c0:=Z a6;have b7:b<w.heap.size:=by
     obtain ⟨a3,c3,bk,cb⟩:=V.at_;obtain ⟨b3,cs,c6,_,cm,_⟩:=cb al;subst c6;injection bk with n _ _
     injection n with n
     injection n with n _ _
     omega
    have ax:=Z b7;clear j b8 b9 al c9 y0 y1 y2 y3 y4 y5 y6 y7 y8 y9 a6 hx hA b7 ao;have cd:wr.drew.heap[b]? =wr.heap[b]? /\wr.drew.heap[w.heap.size+3]? =wr.heap[w.heap.size+3]? :=⟨rfl,rfl⟩;have i1:(k:Int)<(N:Int):=by omega
    have i2:(k:Int)<40:=by omega
    go_upto_region 7 with fail
    refine wT (λW:Db=>W.heap[b]? =wr.heap[b]? /\W.heap[w.heap.size+3]? =wr.heap[w.heap.size+3]?) 999 ?_;refine Qd [0,1,2,3,4] cd HY ?_;refine Dp 5 λK hK=>?_;go_simp;go_at_call 13;with_reducible refine CX ay.o ?_
    rintro e w5 ⟨bs,bt,rfl,C,a7⟩;have hz:=G.size;have bc:=ae F.o
    have b5:w5.heap[b]? =wr.heap[b]? /\w5.heap[w.heap.size+3]? =wr.heap[w.heap.size+3]? :=
     ⟨a7.block b (by show b<wr.heap.size;have:=ax.o;omega) (λL=>by have:=y.o b L;have:=ax.o;omega),a7.block _ (by show w.heap.size+3<wr.heap.size;omega) (λL=>by have:=y.o _ L;omega)⟩
    have a8:=Z b5;have bO:=Z C;have a9:=Z a7;clear C a7 b5 hz bc;refine hK _ _ (λ_=>a8.o) ?_;clear hK K;go_simp;refine Qc [6,7,8,9,10] a8.o ?_;refine dN ?_;go_wp2_with fail
    go_roundw
    case rel=>
     have hz:=G.size;have bc:=ae F.o;have cc:=ae E.o;refine ⟨k+1,a4,bb,by go_num,bs,bt,?_,λq m=>?_,?_,a8.2.trans F.o,?_⟩
     · unfold Hid;rw [c0.o];exact bO.o
     · rcases a9.new q m with B|B
       · exact y q B
       · have h2:wr.heap.size<=q:=B;omega
     · exact (a9.o.block w.heap.size cc (λL=>by have:=y.o _ L;omega)).trans E.o
     · exact G.trans (Below.trans (CY _ wr).drew (a9.below (λq m=>(y q m).1) hz).1)
    case measure=>simp [intOf];omega
  · have r0:wr.cell? ⟨w.heap.size,0,Y⟩=X (fn Y):=(aa E.o 0).trans rfl;have r1:wr.cell? ⟨w.heap.size,1,Y⟩=X (fn Y):=(aa E.o 1).trans rfl;have f0:=ab E.o 0;have f1:=ab E.o 1;have t0:wr.cell? ⟨w.heap.size+3,0,Y⟩=X (fn (X ⟨c,0,Y⟩)):=(aa F.o 0).trans rfl;have t1:wr.cell? ⟨w.heap.size+3,1,Y⟩=X (fn (X ⟨p,0,Y⟩)):=(aa F.o 1).trans rfl;have bA:Hid (runC (l.take k) cat0=playC l):=by
     unfold Hid playC;by_cases h4:k=40
     · rw [h4]
     · have cq:k=N:=by omega
       rw [Dk (by rw [HN.o];omega),Dk (by rw [HN.o];omega)]
    have aC:Hid (∃f g:Nat->Prop,bU f g ((wr.setCell ⟨w.heap.size,0,Y⟩ (fn (X ⟨c,0,Y⟩))).setCell ⟨w.heap.size,1,Y⟩ (fn (X ⟨p,0,Y⟩))) c p (playC l)/\Bw w ((wr.setCell ⟨w.heap.size,0,Y⟩ (fn (X ⟨c,0,Y⟩))).setCell ⟨w.heap.size,1,Y⟩ (fn (X ⟨p,0,Y⟩)))/\∀k,f k∨g k->w.heap.size<=k):=by
     have C:=HP.o;rw [bA.o] at C;have ho:∀q,q≠w.heap.size->((wr.setCell ⟨w.heap.size,0,Y⟩ (fn (X ⟨c,0,Y⟩))).setCell ⟨w.heap.size,1,Y⟩ (fn (X ⟨p,0,Y⟩))).heap[q]? =wr.heap[q]? :=λq m=>by rw [Dn _ _ _ _ m,Dn _ _ _ _ m]
     exact ⟨f,g,⟨C.cat.step (λq m=>ho q (y.o q (.inl m)).2.1) (by simp),C.mod.step (λq m=>ho q (y.o q (.inr m)).2.1) (by simp),C.dis⟩,(G.o.setCell (p:=⟨w.heap.size,0,Y⟩) (by simp) _).setCell (p:=⟨w.heap.size,1,Y⟩) (by simp) _,λq m=>(y.o q m).1⟩
    by_cases a4:k<N
    · have bb:¬k<40:=λh=>hlt ⟨a4,h⟩;have i1:(k:Int)<(N:Int):=by omega
      have i2:¬(k:Int)<40:=by omega
      go_wp2_with fail
      refine Dd (v:= .tuple #[.agg #[fn (X ⟨c,0,Y⟩),fn (X ⟨p,0,Y⟩)],qn true]) (by rw [bK rfl];go_simp) rfl ?_;obtain ⟨f,g,n,I,e3⟩:=aC.o;exact ⟨c,p,rfl,f,g,n,I,e3⟩
    · have i1:¬(k:Int)<(N:Int):=by omega
      go_wp2_with fail
      refine Dd (v:= .tuple #[.agg #[fn (X ⟨c,0,Y⟩),fn (X ⟨p,0,Y⟩)],qn true]) (by rw [bK rfl];go_simp) rfl ?_;obtain ⟨f,g,n,I,e3⟩:=aC.o;exact ⟨c,p,rfl,f,g,n,I,e3⟩
end
section
open Go.RowKit Go.Maps Go.Shelf
section
variable {P:Program} {md:Region.Mode} {ops:Array Oper} {Q:Exit->Act->Db->Prop} {S:Db->Prop} {z:Nat}
theorem dV {i j:Nat} {o g:Oper} {n:Nat} {e:Array Bool} {a:Act} {w:Db} (q:ops[i]? =X o) (r:ops[j]? =X g)
 (h:Region.ready md ops e=[i,j]) (m:Region.wanted o (yielded ops a.tmps)=true) (p:Region.wanted g (yielded ops a.tmps)=true)
 (c:∀K:Act->Db->Prop,(∀b w',(i≠z->S w')->anyT P md ops Q S z n (e.setIfInBounds i true) b w'->K b w')->o.wp P a w K Q)
 (d:∀K:Act->Db->Prop,(∀b w',(j≠z->S w')->anyT P md ops Q S z n (e.setIfInBounds j true) b w'->K b w')->g.wp P a w K Q):anyT P md ops Q S z (n+1) e a w:=by
 refine ⟨λl=>absurd l (by rw [h];simp),λk f=>?_⟩;rw [h] at f;simp only [List.mem_cons,List.not_mem_nil,or_false] at f;rcases f with rfl|rfl
 · unfold wpOp;rw [q];simp only [m,if_true];exact .inl (c _ λb w' c d=>⟨c,d⟩)
 · unfold wpOp;rw [r];simp only [p,if_true];exact .inl (d _ λb w' c d=>⟨c,d⟩)
end
structure cE (F:Nat->Prop) (W:Db) (v:Value) (l:List RK):Prop where
 ex:∃a c,v= .slice a l.length c/\(l≠[]->∃b off,a=some ⟨b,off,none⟩/\b<W.heap.size/\¬F b/\∀j x,(l.flatMap rkCells)[j]? =some x->W.cell? ⟨b,off+j,none⟩=some x)
theorem Ax {l:List RK} (h:l.flatMap rkCells≠[]):l≠[]:=λe=>h (by rw [e];rfl)
theorem cE.at {F:Nat->Prop} {W:Db} {v:Value} {l:List RK} (h:cE F W v l):eh 0 W.heap.size W v l:=by
 obtain ⟨a,c,i,h⟩:=h;refine ⟨a,c,i,λg=>?_⟩;obtain ⟨b,j,d,e,_,f⟩:=h (Ax g);exact ⟨b,j,d,Do _,e,f⟩
theorem cE.step {F f:Nat->Prop} {W g:Db} {v:Value} {l:List RK} (h:cE F W v l) (e:ag F W f g):cE f g v l:=by
 obtain ⟨a,c,o,h⟩:=h;refine ⟨a,c,o,λn=>?_⟩;obtain ⟨b,q,k,d,i,m⟩:=h n;refine ⟨b,q,k,Nat.lt_of_lt_of_le d e.size,e.not d i,λj x p=>?_⟩;rw [Da (w:=W) (e.block b d i)];exact m j x p
theorem cE.of_owns {F:Nat->Prop} {W:Db} {v:Value} {l:List RK} {B:Nat} (h:W.ownsRow B 36 2 v l.length (l.flatMap rkCells)) (f:∀g,v.ownBlock=X g->¬F g):cE F W v l:=by
 obtain ⟨a,c,rfl⟩:=aM h;refine ⟨a,c,rfl,λe=>?_⟩;obtain ⟨g,k,i,_⟩:=h.form (List.length_pos_iff.2 e);cases i;refine ⟨g,0,rfl,(h.lt g rfl).2,f g rfl,λj x b=>?_⟩;have d:=h.cellAt j (by have:=(List.getElem?_eq_some_iff.1 b).1;rw [oq] at this;exact this);rw [Nat.zero_add,d];exact b
theorem cE.new {F:Nat->Prop} {W:Db} {q:Nat} {l:List RK} {t:TypeId} (n:Nat) (b:n=l.length) (h:W.heap[q]? =X (.cells (l.flatMap rkCells).toArray t (0,0))) (a:¬F q):cE F W (nq (X ⟨q,0,Y⟩) n n) l:=by
 subst b;refine ⟨_,_,rfl,λ_=>⟨q,0,rfl,ae h,a,λj x c=>?_⟩⟩;rw [Nat.zero_add,aa h, <- c];simp
structure SnS (B:Nat) (w w1:Db) (F:Nat->Prop) (W:Db) (d:aq):Prop where
 cat:be F W B d
 fl:∀k,F k->B<=k/\¬(B+1<=k/\k<=B+5)
 box:∀q,B+1<=q->q<=B+5->W.heap[q]? =w1.heap[q]?
 b:Df B w W
 sz:B+6<=W.heap.size
theorem SnS.step {B:Nat} {w w1 W f:Db} {F e:Nat->Prop} {d i:aq} (h:SnS B w w1 F W d) (l:be e f B i) (c:ag F W e f):SnS B w w1 e f i:=by
 have n:=h.sz;refine ⟨l,λk g=>?_,λq a j=>?_,h.b.trans (c.below (λk g=>(h.fl k g).1) (by omega)).1,Nat.le_trans h.sz c.size⟩
 · rcases c.new k g with a|a
   · exact h.fl k a
   · omega
 · exact (c.block q (by omega) (λm=>(h.fl q m).2 ⟨a,j⟩)).trans (h.box q a j)
theorem SnS.below {B:Nat} {w w1 W a:Db} {F:Nat->Prop} {d:aq} (h:SnS B w w1 F W d) (b:Df W.heap.size W a):SnS B w w1 F a d:=h.step (h.cat.below b) (ag.of_below b)
theorem il (t:Bs) (h:t.length<=1000):bH (bN t).fields:=by
 refine ⟨by simp [bN],λf a=>?_⟩;simp only [bN,List.mem_cons,List.not_mem_nil,or_false] at a;rcases a with rfl|rfl
 · simp [fieldBytes,aR]
 · simp [fieldBytes,aR];omega
def tM:Nat->aq
 |0=>cat0
 |1=>Au
 |2=>Ar
 |_=>uH
def keyAt:Nat->RK
 |0=>(1,1)
 |1=>(1,2)
 |_=>(2,1)
theorem Ay (k:Nat) (d:k<3):putC (tM k) (keyAt k) 1 (bN cF)=(tM (k+1),0):=by
 obtain ⟨a,b,c,_⟩:=tL;have:k=0∨k=1∨k=2:=by omega
 rcases this with rfl|rfl|rfl
 · exact Dg rfl a
 · exact Dg rfl b
 · exact Dg rfl c
theorem bD {k:RK} (h:0<=k.1/\k.1<=100/\0<=k.2/\k.2<=100):rkOk k:=by
 unfold rkOk i64B;omega
theorem AK (k:Nat):rkOk (keyAt k):=by
 refine bD ?_;unfold keyAt;split<;>decide
theorem A6:putC uH (2,2) 1 (bN lD)=(kg,0):=Dg rfl tL.2.2.2
theorem Bd:decideC kg (1,1) (2,1) 1 false=(iR,0):=Dg rfl fC.1
theorem Bb:decideC iR (2,2) (2,1) 1 true=(wK,0):=Dg rfl du.1
theorem Bc:dropC wK (1,1) 2=(mz,0):=Dg rfl du.2.1
theorem uG (w:Db):De prog 10 #[] w λe w'=>e=h1 (qn true)/\Df w.heap.size w w':=by
 obtain ⟨B,hB⟩:=Qe w.heap.size;have hH:=xl w;have hO:=tU w;obtain ⟨O,f2⟩:=Qe (w.alloc (ih #[CU Y,CU Y,CU Y,fn Y] 117));obtain ⟨R,ce⟩:=Qe (O.alloc (ih #[J U 1,J U 1] 36));obtain ⟨T,cg⟩:=Qe (R.alloc (ih #[J U 1,J U 2] 36));obtain ⟨u4,ch⟩:=Qe (T.alloc (ih #[J U 2,J U 1] 36));obtain ⟨p,cl⟩:=Qe (u4.alloc (ih #[J U 2,J U 2] 36));obtain ⟨w1,cm⟩:=Qe (p.alloc (ih #[J U 1,J U 1,J U 1,J U 2,J U 2,J U 1] 36));have z1:O.heap.size=B+1:=by rw [<- f2, <- hB];simp
 have z2:R.heap.size=B+2:=by rw [<- ce];simp [z1]
 have z3:T.heap.size=B+3:=by rw [<- cg];simp [z2]
 have z4:u4.heap.size=B+4:=by rw [<- ch];simp [z3]
 have z5:p.heap.size=B+5:=by rw [<- cl];simp [z4]
 have z6:w1.heap.size=B+6:=by rw [<- cm];simp [z5]
 rw [f2,hB] at hH hO;have ne:Df B w O:=by rw [<- f2, <- hB];exact (CY _ w).alloc (CZ _) _
 have o:Df O.heap.size O R:=by rw [<- ce];exact (CY _ O).alloc (CZ _) _
 have nf:Df R.heap.size R T:=by rw [<- cg];exact (CY _ R).alloc (CZ _) _
 have nx:Df T.heap.size T u4:=by rw [<- ch];exact (CY _ T).alloc (CZ _) _
 have hG:Df u4.heap.size u4 p:=by rw [<- cl];exact (CY _ u4).alloc (CZ _) _
 have a0:Df p.heap.size p w1:=by rw [<- cm];exact (CY _ p).alloc (CZ _) _
 have hD:Df T.heap.size T w1:=(nx.trans (hG.mono (by omega))).trans (a0.mono (by omega));have hC:Df R.heap.size R w1:=nf.trans (hD.mono (by omega));have hA:Df O.heap.size O w1:=o.trans (hC.mono (by omega));have da:w1.heap[B+1]? =X (ih #[J U 1,J U 1] 36 (0,0)):=(hC.block _ (by omega)).trans (by rw [<- ce, <- z1];exact CW O _);have dc:w1.heap[B+2]? =X (ih #[J U 1,J U 2] 36 (0,0)):=(hD.block _ (by omega)).trans (by rw [<- cg, <- z2];exact CW R _);have dd:w1.heap[B+3]? =X (ih #[J U 2,J U 1] 36 (0,0)):=((a0.block _ (by omega)).trans (hG.block _ (by omega))).trans (by rw [<- ch, <- z3];exact CW T _);have oR:w1.heap[B+4]? =X (ih #[J U 2,J U 2] 36 (0,0)):=(a0.block _ (by omega)).trans (by rw [<- cl, <- z4];exact CW u4 _);have hI:w1.heap[B+5]? =X (ih #[J U 1,J U 1,J U 1,J U 2,J U 2,J U 1] 36 (0,0)):=by rw [<- cm, <- z5];exact CW p _
 have B2:Hid (SnS B w w1 (λk=>k=B) w1 cat0):=⟨(hO.below hA),λk hk=>by omega,λ_ _ _=>rfl,ne.trans (hA.mono (by omega)),by omega⟩;have u:Hid (∀W:Db,(∀q,B+1<=q->q<=B+5->W.heap[q]? =w1.heap[q]?)->(W.cell? ⟨B+1,0,Y⟩=X (J U 1)/\W.cell? ⟨B+1,1,Y⟩=X (J U 1))/\(W.cell? ⟨B+2,0,Y⟩=X (J U 1)/\W.cell? ⟨B+2,1,Y⟩=X (J U 2))/\(W.cell? ⟨B+3,0,Y⟩=X (J U 2)/\W.cell? ⟨B+3,1,Y⟩=X (J U 1))/\(W.cell? ⟨B+4,0,Y⟩=X (J U 2)/\W.cell? ⟨B+4,1,Y⟩=X (J U 2))/\W.cell? ⟨B+5,0,Y⟩=X (J U 1)/\W.cell? ⟨B+5,1,Y⟩=X (J U 1)/\W.cell? ⟨B+5,2,Y⟩=X (J U 1)/\W.cell? ⟨B+5,3,Y⟩=X (J U 2)/\W.cell? ⟨B+5,4,Y⟩=X (J U 2)/\W.cell? ⟨B+5,5,Y⟩=X (J U 1)):=λW h=>by have g1:=(h (B+1) (by omega) (by omega)).trans da;have g2:=(h (B+2) (by omega) (by omega)).trans dc;have g3:=(h (B+3) (by omega) (by omega)).trans dd;have g4:=(h (B+4) (by omega) (by omega)).trans oR;have g5:=(h (B+5) (by omega) (by omega)).trans hI;exact ⟨⟨(aa g1 0).trans rfl,(aa g1 1).trans rfl⟩,⟨(aa g2 0).trans rfl,(aa g2 1).trans rfl⟩,⟨(aa g3 0).trans rfl,(aa g3 1).trans rfl⟩,⟨(aa g4 0).trans rfl,(aa g4 1).trans rfl⟩,(aa g5 0).trans rfl,(aa g5 1).trans rfl,(aa g5 2).trans rfl,(aa g5 3).trans rfl,(aa g5 4).trans rfl,(aa g5 5).trans rfl⟩
 have m1:p.cell? ⟨B+1,0,Y⟩=X (J U 1):=(Da (a:=⟨B+1,0,Y⟩) (a0.block (B+1) (by omega))).symm.trans ((aa da 0).trans rfl);have m2:p.cell? ⟨B+1,1,Y⟩=X (J U 1):=(Da (a:=⟨B+1,1,Y⟩) (a0.block (B+1) (by omega))).symm.trans ((aa da 1).trans rfl);have m3:p.cell? ⟨B+2,0,Y⟩=X (J U 1):=(Da (a:=⟨B+2,0,Y⟩) (a0.block (B+2) (by omega))).symm.trans ((aa dc 0).trans rfl);have m4:p.cell? ⟨B+2,1,Y⟩=X (J U 2):=(Da (a:=⟨B+2,1,Y⟩) (a0.block (B+2) (by omega))).symm.trans ((aa dc 1).trans rfl);have m5:p.cell? ⟨B+3,0,Y⟩=X (J U 2):=(Da (a:=⟨B+3,0,Y⟩) (a0.block (B+3) (by omega))).symm.trans ((aa dd 0).trans rfl);have m6:p.cell? ⟨B+3,1,Y⟩=X (J U 1):=(Da (a:=⟨B+3,1,Y⟩) (a0.block (B+3) (by omega))).symm.trans ((aa dd 1).trans rfl);have sM:=Z hH;have vN:=Z hI;have B3:=Z ce;have B4:=Z cg;have B5:=Z ch;have B6:=Z cl;have B7:=Z cm;have c5:Hid (O.heap.size=B+1/\R.heap.size=B+2/\T.heap.size=B+3/\u4.heap.size=B+4/\p.heap.size=B+5):=⟨z1,z2,z3,z4,z5⟩;rw [hB];clear hB hH hO f2 ce cg ch cl cm z1 z2 z3 z4 z5 z6 ne o nf nx hG a0 hD hC hA da dc dd oR hI;go_enter func10,ntmps10;go_upto_region 2 with (go_at_call 32;((with_reducible refine CX sM.o ?_);rintro e wx ⟨rfl,k5⟩;have k5:=k5.symm;subst k5))
 go_upto_region 5 with fail
 rw [c5.o.1,B3.o];go_upto_region 6 with fail
 rw [c5.o.2.1,B4.o];go_upto_region 7 with fail
 rw [c5.o.2.2.1,B5.o];go_upto_region 8 with fail
 rw [c5.o.2.2.2.1,B6.o];go_upto_region 10 with fail
 rw [c5.o.2.2.2.2,B7.o];clear m1 m2 m3 m4 m5 m6;go_loopw [7] (λi wr=>∃(k:Nat) (F:Nat->Prop),k<=3/\i=J U k/\Hid (SnS B w w1 F wr (tM k))) (λi _=>3 - (intOf i).toNat)
 case atStart=>exact ⟨0,_,by omega,rfl,B2⟩
 case round=>
  obtain ⟨k,F,hk,rfl,V⟩:=hrel;by_cases hlt:k<3
  · have i1:(k:Int)<3:=by omega
    obtain ⟨⟨s6,s8⟩,e5⟩:∃kk,keyAt k=kk:=⟨_,rfl⟩;have vx:Hid (∀W:Db,(∀q,B+1<=q->q<=B+5->W.heap[q]? =w1.heap[q]?)->W.cell? ⟨B+5,k * 2,Y⟩=X (J U s6)/\W.cell? ⟨B+5,k * 2+1,Y⟩=X (J U s8)):=λW h=>by
     obtain ⟨_,_,_,_,A,C,v,x,o,y⟩:=u W h;have:k=0∨k=1∨k=2:=by omega
     rcases this with rfl|rfl|rfl
     · obtain ⟨rfl,rfl⟩:=Prod.mk.inj e5.symm;exact ⟨A,C⟩
     · obtain ⟨rfl,rfl⟩:=Prod.mk.inj e5.symm;exact ⟨v,x⟩
     · obtain ⟨rfl,rfl⟩:=Prod.mk.inj e5.symm;exact ⟨o,y⟩
    go_upto_region 12 with fail
    have n:=Z (V.below (CY _ wr).drew);go_wp2_with fail
    refine wT (λW:Db=>∀q,B+1<=q->q<=B+5->W.heap[q]? =w1.heap[q]?) 999 ?_;refine Qc [0,1,2] n.box ?_;refine Qd [3,4] n.box vx ?_;refine Dp 5 λK d=>?_;go_simp;go_at_call 28;refine CX (show De prog 28 #[.string ⟨#[78,97,110,97]⟩] wr.drew _ from kp cF wr.drew) ?_;rintro e W1 ⟨st,sx,rfl,p3,hM⟩;have d2:=Z (n.below hM);have BN:=Z hM;have vt:=Z p3;clear hM p3;refine d _ _ (λ_=>d2.box) ?_;clear d K;go_simp;refine Qc [6] d2.box ?_
    refine Dp 7 λK d=>?_;go_simp;have e4:=jw F W1 B (tM k) d2.o.cat (keyAt k) 1 (bN cF) (nq st 2 sx) (AK k) (by unfold i64B;decide) wr.drew.heap.size W1.heap.size vt.o (CZ _) (λq r _ hF=>by have s:=n.o.cat.lt q hF;omega) (il cF (by decide));rw [Ay k (by omega)] at e4;rw [e5] at e4;have tx:Hid (De prog 29 #[fn (X ⟨B,0,Y⟩), .agg #[J U s6,J U s8,J U 1,J CV 97,J CV 109,nq st 2 sx]] W1 _):=e4;clear e4;go_at_call 29;with_reducible refine CX tx.o ?_
    rintro e W7 ⟨rfl,F8,oN,sa⟩;have gQ:=Z (d2.step oN sa);clear oN sa;refine d _ _ (λ_=>gQ.box) ?_;clear d K;go_simp;refine Qc [8] gQ.box ?_
    refine dN ?_;go_wp2_with fail
    go_roundw
    case rel=>exact ⟨k+1,F8,by omega,by go_num,gQ⟩
    case measure=>simp [intOf];omega
  · obtain rfl:k=3:=by omega
    have V:Hid (SnS B w w1 F wr uH):=V;clear hlt hk;go_upto_region 14 with fail
    go_cut [8] (λt wx=>t=qn true/\∃F:Nat->Prop,Hid (SnS B w w1 F wx kg))
    case first=>
     generalize wr=wc at *;have n:=Z (V.below (CY _ wc).drew);go_wp2_with fail
     refine wT (λW:Db=>∀q,B+1<=q->q<=B+5->W.heap[q]? =w1.heap[q]?) 999 ?_;have vy:Hid (cE F wc.drew (nq (X ⟨B+5,0,Y⟩) 3 3) [(1,1),(1,2),(2,1)]):=cE.new 3 rfl ((n.o.box (B+5) (by omega) (by omega)).trans vN.o) (λf=>(n.o.fl _ f).2 ⟨by omega,by omega⟩);refine Qd [0,1] n.box u ?_;refine Dp 2 λK d=>?_;go_simp;go_at_call 28;refine CX (show De prog 28 #[.string ⟨#[71,101,114,109,105,110,97,108]⟩] wc.drew _ from kp lD wc.drew) ?_;rintro e hs ⟨ss,su,rfl,p2,dr⟩;have d1:=Z (n.below dr);have BM:=Z dr;have vs:=Z p2;have wp:=Z (vy.step (ag.of_below dr));clear dr p2;refine d _ _ (λ_=>d1.box) ?_;clear d K;go_simp;refine Qc [3] d1.box ?_
     refine Dp 4 λK d=>?_;go_simp;have i2:=jw F hs B uH d1.o.cat (2,2) 1 (bN lD) (nq ss 2 su) (bD (by decide)) (by unfold i64B;decide) wc.drew.heap.size hs.heap.size vs.o (CZ _) (λq r _ hF=>by have s:=n.o.cat.lt q hF;omega) (il lD (by decide));rw [A6] at i2;have t6:Hid (De prog 29 #[fn (X ⟨B,0,Y⟩), .agg #[J U 2,J U 2,J U 1,J CV 97,J CV 109,nq ss 2 su]] hs _):=i2;clear i2;go_at_call 29;with_reducible refine CX t6.o ?_
     rintro e a3 ⟨rfl,cz,o1,k6⟩;have ad:=Z (d1.step o1 k6);have l7:=Z (wp.step k6);clear o1 k6;refine d _ _ (λ_=>ad.box) ?_;clear d K;go_simp;refine Qc [5,6] ad.box ?_;refine Qd [7,9,10] ad.box u ?_;refine dV (i:=8) (j:=11) rfl rfl (by kernel_rfl) (by rfl) (by rfl) (λK d=>?_) (λK d=>?_)
     · go_simp;have iF:=eA cz a3 B kg ad.cat (by decide+kernel);rw [ku.1] at iF;have tc:Hid (De prog 18 #[fn (X ⟨B,0,Y⟩)] a3 _):=iF;clear iF;go_at_call 18;with_reducible refine CX tc.o ?_
       rintro e aC ⟨CL,gP,rfl,o5,k8,ry,qq⟩;have y3:=Z (cE.of_owns (l:=[(1,1),(2,2)]) ry qq);clear ry qq;have hh:=Z (ad.step o5 k8);have y7:=Z (l7.step k8);clear o5 k8;refine d _ _ (λ_=>hh.box) ?_;clear d K;go_simp;refine Dq 11 λK d=>?_;go_simp;obtain ⟨hy,fs⟩:=Qe (aC.alloc (ih #[J U 1,J U 1,J U 2,J U 2] 36));obtain ⟨gi,es⟩:=Qe aC.heap.size;have e1:Df aC.heap.size aC hy:=by rw [<- fs];exact (CY _ aC).alloc (CZ _) _
       have qz:hy.heap[gi]? =X (ih #[J U 1,J U 1,J U 2,J U 2] 36 (0,0)):=by rw [<- fs, <- es];exact CW aC _
       have ps:¬gP gi:=λf=>by have r:=hh.o.cat.lt gi f;have s:aC.heap.size=gi:=es;omega
       have n3:=Z (hh.below e1);have zs:=Z (y7.step (ag.of_below e1));have m0:=Z (y3.step (ag.of_below e1));have lT:=Z (cE.new (F:=gP) (l:=[(1,1),(2,2)]) 2 rfl qz ps);try rw [es]
       try rw [fs]
       clear fs es e1 qz ps;refine d _ _ (λ_=>n3.box) ?_;clear d K;go_simp;refine Dq 12 λK d=>?_;go_simp;have jn:=ct _ _ [(1,1),(2,2)] [(1,1),(2,2)] hy m0.at lT.at (by decide) (by decide);rw [show decide (([(1,1),(2,2)]:List RK)=[(1,1),(2,2)])=true from by decide] at jn;have vc:=Z jn;clear jn;go_at_call 17;with_reducible refine CX vc.o ?_
       rintro e n9 ⟨rfl,cd⟩;have c4:=Z (n3.below cd);have Ac:=Z (zs.step (ag.of_below cd));have As:=Z (m0.step (ag.of_below cd));have At:=Z (lT.step (ag.of_below cd));clear cd;refine d _ _ (λ_=>c4.box) ?_;clear d K;go_simp;refine Qc [13,14] c4.box ?_;refine Qd [15,16,18] c4.box u ?_;refine Dq 17 λK d=>?_;go_simp;have k2:=ck gP n9 B kg c4.cat (by decide+kernel) (1,1) (bD (by decide));rw [ku.2] at k2;have ts:Hid (De prog 22 #[fn (X ⟨B,0,Y⟩), .agg #[J U 1,J U 1]] n9 _):=k2;clear k2;go_at_call 22;with_reducible refine CX ts.o ?_
       rintro e BE ⟨CS,BL,rfl,ov,cx,s4,r9⟩;have mb:=Z (cE.of_owns (l:=[(1,1),(1,2),(2,1)]) s4 r9);clear s4 r9;have n6:=Z (c4.step ov cx);have mc:=Z (Ac.step cx);have AC:=Z (As.step cx);have AS:=Z (At.step cx);clear ov cx;refine d _ _ (λ_=>n6.box) ?_;clear d K;go_simp;refine Dq 19 λK d=>?_;go_simp;have k3:=ct _ _ [(1,1),(1,2),(2,1)] [(1,1),(1,2),(2,1)] BE mb.at mc.at (by decide) (by decide);rw [show decide (([(1,1),(1,2),(2,1)]:List RK)=[(1,1),(1,2),(2,1)])=true from by decide] at k3;have vd:=Z k3;clear k3;go_at_call 17;with_reducible refine CX vd.o ?_
       rintro e CD ⟨rfl,c1⟩;have hq:=Z (n6.below c1);have Cq:=Z (mc.step (ag.of_below c1));have Cr:=Z (AC.step (ag.of_below c1));have Cs:=Z (AS.step (ag.of_below c1));have Ct:=Z (mb.step (ag.of_below c1));clear c1;refine d _ _ (λ_=>hq.box) ?_;clear d K;go_simp;refine Qc [20,21] hq.box ?_;refine dN ?_;go_wp2_with fail
       go_meet;exact ⟨rfl,_,hq⟩
     · go_simp;obtain ⟨d9,fy⟩:=Qe (a3.alloc (ih #[J U 1,J U 1,J U 2,J U 2] 36));obtain ⟨gs,f1⟩:=Qe a3.heap.size;have hN:Df a3.heap.size a3 d9:=by rw [<- fy];exact (CY _ a3).alloc (CZ _) _
       have ra:d9.heap[gs]? =X (ih #[J U 1,J U 1,J U 2,J U 2] 36 (0,0)):=by rw [<- fy, <- f1];exact CW a3 _
       have py:¬cz gs:=λf=>by have r:=ad.o.cat.lt gs f;have s:a3.heap.size=gs:=f1;omega
       have hr:=Z (ad.below hN);have B0:=Z (l7.step (ag.of_below hN));have AT:=Z (cE.new (F:=cz) (l:=[(1,1),(2,2)]) 2 rfl ra py);try rw [f1]
       try rw [fy]
       clear fy f1 hN ra py;refine d _ _ (λ_=>hr.box) ?_;clear d K;go_simp;refine Dq 8 λK d=>?_;go_simp;have k4:=eA cz d9 B kg hr.cat (by decide+kernel);rw [ku.1] at k4;have tt:Hid (De prog 18 #[fn (X ⟨B,0,Y⟩)] d9 _):=k4;clear k4;go_at_call 18;with_reducible refine CX tt.o ?_
       rintro e BF ⟨CT,sC,rfl,oF,gO,s5,rb⟩;have me:=Z (cE.of_owns (l:=[(1,1),(2,2)]) s5 rb);clear s5 rb;have n7:=Z (hr.step oF gO);have B1:=Z (B0.step gO);have mf:=Z (AT.step gO);clear oF gO;refine d _ _ (λ_=>n7.box) ?_;clear d K;go_simp;refine Dq 12 λK d=>?_;go_simp;have hP:=ct _ _ [(1,1),(2,2)] [(1,1),(2,2)] BF me.at mf.at (by decide) (by decide);rw [show decide (([(1,1),(2,2)]:List RK)=[(1,1),(2,2)])=true from by decide] at hP;have ty:=Z hP;clear hP;go_at_call 17;with_reducible refine CX ty.o ?_
       rintro e nb ⟨rfl,c6⟩;have c2:=Z (n7.below c6);have w0:=Z (B1.step (ag.of_below c6));have w2:=Z (mf.step (ag.of_below c6));have w3:=Z (me.step (ag.of_below c6));clear c6;refine d _ _ (λ_=>c2.box) ?_;clear d K;go_simp;refine Qc [13,14] c2.box ?_;refine Qd [15,16,18] c2.box u ?_;refine Dq 17 λK d=>?_;go_simp;have hQ:=ck sC nb B kg c2.cat (by decide+kernel) (1,1) (bD (by decide));rw [ku.2] at hQ;have t0:Hid (De prog 22 #[fn (X ⟨B,0,Y⟩), .agg #[J U 1,J U 1]] nb _):=hQ;clear hQ;go_at_call 22;with_reducible refine CX t0.o ?_
       rintro e B8 ⟨CE,BG,rfl,ny,cp,rc,pz⟩;have kl:=Z (cE.of_owns (l:=[(1,1),(1,2),(2,1)]) rc pz);clear rc pz;have ml:=Z (c2.step ny cp);have kn:=Z (w0.step cp);have w4:=Z (w2.step cp);have w5:=Z (w3.step cp);clear ny cp;refine d _ _ (λ_=>ml.box) ?_;clear d K;go_simp;refine Dq 19 λK d=>?_;go_simp;have hR:=ct _ _ [(1,1),(1,2),(2,1)] [(1,1),(1,2),(2,1)] B8 kl.at kn.at (by decide) (by decide);rw [show decide (([(1,1),(1,2),(2,1)]:List RK)=[(1,1),(1,2),(2,1)])=true from by decide] at hR;have tz:=Z hR;clear hR;go_at_call 17;with_reducible refine CX tz.o ?_
       rintro e Cu ⟨rfl,bs⟩;have h0:=Z (ml.below bs);have BO:=Z (kn.step (ag.of_below bs));have BP:=Z (w4.step (ag.of_below bs));have BQ:=Z (w5.step (ag.of_below bs));have BR:=Z (kl.step (ag.of_below bs));clear bs;refine d _ _ (λ_=>h0.box) ?_;clear d K;go_simp;refine Qc [20,21] h0.box ?_;refine dN ?_;go_wp2_with fail
       go_meet;exact ⟨rfl,_,h0⟩
    case rest=>
     obtain ⟨rfl,F,V⟩:=hcut;go_upto_region 15 with fail
     go_cut [9] (λt wx=>t=qn true/\∃F:Nat->Prop,Hid (SnS B w w1 F wx iR))
     case first=>
      have n:=Z (V.below (CY _ wc).drew);go_wp2_with fail
      refine wT (λW:Db=>∀q,B+1<=q->q<=B+5->W.heap[q]? =w1.heap[q]?) 999 ?_;refine Qd [0,1,2] n.box u ?_;refine Dp 3 λK d=>?_;go_simp;have hS:=rE F wc.drew B kg n.cat (1,1) (2,1) 1 (bD (by decide)) (bD (by decide)) (by unfold i64B;decide);rw [Bd] at hS;have t1:Hid (De prog 39 #[fn (X ⟨B,0,Y⟩), .agg #[J U 1,J U 1], .agg #[J U 2,J U 1],J U 1] wc.drew _):=hS;clear hS;go_at_call 39;with_reducible refine CX t1.o ?_
      rintro e a1 ⟨rfl,cy,nz,sb⟩;have a8:=Z (n.step nz sb);clear nz sb;refine d _ _ (λ_=>a8.box) ?_;clear d K;go_simp;refine Qc [4,5] a8.box ?_;refine Qd [6,8,9,10] a8.box u ?_;refine dV (i:=7) (j:=11) rfl rfl (by kernel_rfl) (by rfl) (by rfl) (λK d=>?_) (λK d=>?_)
      · go_simp;have hT:=eA cy a1 B iR a8.cat (by decide+kernel);rw [fC.2.1] at hT;have t2:Hid (De prog 18 #[fn (X ⟨B,0,Y⟩)] a1 _):=hT;clear hT;go_at_call 18;with_reducible refine CX t2.o ?_
        rintro e av ⟨CF,bc,rfl,nE,se,rg,q0⟩;have w6:=Z (cE.of_owns (l:=[(1,1),(2,1),(2,2)]) rg q0);clear rg q0;have h3:=Z (a8.step nE se);clear nE se;refine d _ _ (λ_=>h3.box) ?_;clear d K;go_simp;refine Dq 11 λK d=>?_;go_simp;obtain ⟨ht,f3⟩:=Qe (av.alloc (ih #[J U 1,J U 1,J U 2,J U 1,J U 2,J U 2] 36));obtain ⟨fz,e6⟩:=Qe av.heap.size;have hJ:Df av.heap.size av ht:=by rw [<- f3];exact (CY _ av).alloc (CZ _) _
        have q1:ht.heap[fz]? =X (ih #[J U 1,J U 1,J U 2,J U 1,J U 2,J U 2] 36 (0,0)):=by rw [<- f3, <- e6];exact CW av _
        have p4:¬bc fz:=λf=>by have r:=h3.o.cat.lt fz f;have s:av.heap.size=fz:=e6;omega
        have mm:=Z (h3.below hJ);have kq:=Z (w6.step (ag.of_below hJ));have ko:=Z (cE.new (F:=bc) (l:=[(1,1),(2,1),(2,2)]) 3 rfl q1 p4);try rw [e6]
        try rw [f3]
        clear f3 e6 hJ q1 p4;refine d _ _ (λ_=>mm.box) ?_;clear d K;go_simp;refine Dq 12 λK d=>?_;go_simp;have hV:=ct _ _ [(1,1),(2,1),(2,2)] [(1,1),(2,1),(2,2)] ht kq.at ko.at (by decide) (by decide);rw [show decide (([(1,1),(2,1),(2,2)]:List RK)=[(1,1),(2,1),(2,2)])=true from by decide] at hV;have tO:=Z hV;clear hV;go_at_call 17;with_reducible refine CX tO.o ?_
        rintro e a2 ⟨rfl,dk⟩;have a9:=Z (mm.below dk);have ks:=Z (kq.step (ag.of_below dk));have kt:=Z (ko.step (ag.of_below dk));clear dk;refine d _ _ (λ_=>a9.box) ?_;clear d K;go_simp;refine Qc [13,14] a9.box ?_;refine Qd [15,16,18,19] a9.box u ?_;refine dV (i:=17) (j:=20) rfl rfl (by kernel_rfl) (by rfl) (by rfl) (λK d=>?_) (λK d=>?_)
        · go_simp;have hW:=ck bc a2 B iR a9.cat (by decide+kernel) (1,1) (bD (by decide));rw [fC.2.2] at hW;have t3:Hid (De prog 22 #[fn (X ⟨B,0,Y⟩), .agg #[J U 1,J U 1]] a2 _):=hW;clear hW;go_at_call 22;with_reducible refine CX t3.o ?_
          rintro e ax ⟨CG,ka,rfl,nF,gt,rk,q2⟩;have w7:=Z (cE.of_owns (l:=[(1,1),(1,2)]) rk q2);clear rk q2;have h4:=Z (a9.step nF gt);have w8:=Z (ks.step gt);have w9:=Z (kt.step gt);clear nF gt;refine d _ _ (λ_=>h4.box) ?_;clear d K;go_simp;refine Dq 20 λK d=>?_;go_simp;obtain ⟨hu,f4⟩:=Qe (ax.alloc (ih #[J U 1,J U 1,J U 1,J U 2] 36));obtain ⟨g0,e7⟩:=Qe ax.heap.size;have c7:Df ax.heap.size ax hu:=by rw [<- f4];exact (CY _ ax).alloc (CZ _) _
          have q3:hu.heap[g0]? =X (ih #[J U 1,J U 1,J U 1,J U 2] 36 (0,0)):=by rw [<- f4, <- e7];exact CW ax _
          have p5:¬ka g0:=λf=>by have r:=h4.o.cat.lt g0 f;have s:ax.heap.size=g0:=e7;omega
          have mo:=Z (h4.below c7);have wa:=Z (w8.step (ag.of_below c7));have wf:=Z (w9.step (ag.of_below c7));have kx:=Z (w7.step (ag.of_below c7));have kv:=Z (cE.new (F:=ka) (l:=[(1,1),(1,2)]) 2 rfl q3 p5);try rw [e7]
          try rw [f4]
          clear f4 e7 c7 q3 p5;refine d _ _ (λ_=>mo.box) ?_;clear d K;go_simp;refine Dq 21 λK d=>?_;go_simp;have hX:=ct _ _ [(1,1),(1,2)] [(1,1),(1,2)] hu kx.at kv.at (by decide) (by decide);rw [show decide (([(1,1),(1,2)]:List RK)=[(1,1),(1,2)])=true from by decide] at hX;have up:=Z hX;clear hX;go_at_call 17;with_reducible refine CX up.o ?_
          rintro e Cv ⟨rfl,bt⟩;have h5:=Z (mo.below bt);have BS:=Z (wa.step (ag.of_below bt));have BT:=Z (wf.step (ag.of_below bt));have BU:=Z (kx.step (ag.of_below bt));have BV:=Z (kv.step (ag.of_below bt));clear bt;refine d _ _ (λ_=>h5.box) ?_;clear d K;go_simp;refine Qc [22,23] h5.box ?_;refine dN ?_;go_wp2_with fail
          go_meet;exact ⟨rfl,_,h5⟩
        · go_simp;obtain ⟨d3,f5⟩:=Qe (a2.alloc (ih #[J U 1,J U 1,J U 1,J U 2] 36));obtain ⟨g6,e8⟩:=Qe a2.heap.size;have ds:Df a2.heap.size a2 d3:=by rw [<- f5];exact (CY _ a2).alloc (CZ _) _
          have q4:d3.heap[g6]? =X (ih #[J U 1,J U 1,J U 1,J U 2] 36 (0,0)):=by rw [<- f5, <- e8];exact CW a2 _
          have pa:¬bc g6:=λf=>by have r:=a9.o.cat.lt g6 f;have s:a2.heap.size=g6:=e8;omega
          have h6:=Z (a9.below ds);have ws:=Z (ks.step (ag.of_below ds));have wu:=Z (kt.step (ag.of_below ds));have wq:=Z (cE.new (F:=bc) (l:=[(1,1),(1,2)]) 2 rfl q4 pa);try rw [e8]
          try rw [f5]
          clear f5 e8 ds q4 pa;refine d _ _ (λ_=>h6.box) ?_;clear d K;go_simp;refine Dq 17 λK d=>?_;go_simp;have hY:=ck bc d3 B iR h6.cat (by decide+kernel) (1,1) (bD (by decide));rw [fC.2.2] at hY;have t4:Hid (De prog 22 #[fn (X ⟨B,0,Y⟩), .agg #[J U 1,J U 1]] d3 _):=hY;clear hY;go_at_call 22;with_reducible refine CX t4.o ?_
          rintro e B9 ⟨CH,BH,rfl,nO,cq,rl,q5⟩;have ky:=Z (cE.of_owns (l:=[(1,1),(1,2)]) rl q5);clear rl q5;have mp:=Z (h6.step nO cq);have wz:=Z (ws.step cq);have wB:=Z (wu.step cq);have kz:=Z (wq.step cq);clear nO cq;refine d _ _ (λ_=>mp.box) ?_;clear d K;go_simp;refine Dq 21 λK d=>?_;go_simp;have hZ:=ct _ _ [(1,1),(1,2)] [(1,1),(1,2)] B9 ky.at kz.at (by decide) (by decide);rw [show decide (([(1,1),(1,2)]:List RK)=[(1,1),(1,2)])=true from by decide] at hZ;have v0:=Z hZ;clear hZ;go_at_call 17;with_reducible refine CX v0.o ?_
          rintro e Cw ⟨rfl,bv⟩;have h7:=Z (mp.below bv);have BW:=Z (wz.step (ag.of_below bv));have BX:=Z (wB.step (ag.of_below bv));have BY:=Z (kz.step (ag.of_below bv));have BZ:=Z (ky.step (ag.of_below bv));clear bv;refine d _ _ (λ_=>h7.box) ?_;clear d K;go_simp;refine Qc [22,23] h7.box ?_;refine dN ?_;go_wp2_with fail
          go_meet;exact ⟨rfl,_,h7⟩
      · go_simp;obtain ⟨d4,f6⟩:=Qe (a1.alloc (ih #[J U 1,J U 1,J U 2,J U 1,J U 2,J U 2] 36));obtain ⟨g7,e9⟩:=Qe a1.heap.size;have p0:Df a1.heap.size a1 d4:=by rw [<- f6];exact (CY _ a1).alloc (CZ _) _
        have q6:d4.heap[g7]? =X (ih #[J U 1,J U 1,J U 2,J U 1,J U 2,J U 2] 36 (0,0)):=by rw [<- f6, <- e9];exact CW a1 _
        have pb:¬cy g7:=λf=>by have r:=a8.o.cat.lt g7 f;have s:a1.heap.size=g7:=e9;omega
        have h8:=Z (a8.below p0);have x0:=Z (cE.new (F:=cy) (l:=[(1,1),(2,1),(2,2)]) 3 rfl q6 pb);try rw [e9]
        try rw [f6]
        clear f6 e9 p0 q6 pb;refine d _ _ (λ_=>h8.box) ?_;clear d K;go_simp;refine Dq 7 λK d=>?_;go_simp;have i0:=eA cy d4 B iR h8.cat (by decide+kernel);rw [fC.2.1] at i0;have t5:Hid (De prog 18 #[fn (X ⟨B,0,Y⟩)] d4 _):=i0;clear i0;go_at_call 18;with_reducible refine CX t5.o ?_
        rintro e Bo ⟨CI,cP,rfl,o2,k7,rr,q7⟩;have l1:=Z (cE.of_owns (l:=[(1,1),(2,1),(2,2)]) rr q7);clear rr q7;have ms:=Z (h8.step o2 k7);have l2:=Z (x0.step k7);clear o2 k7;refine d _ _ (λ_=>ms.box) ?_;clear d K;go_simp;refine Dq 12 λK d=>?_;go_simp;have i4:=ct _ _ [(1,1),(2,1),(2,2)] [(1,1),(2,1),(2,2)] Bo l1.at l2.at (by decide) (by decide);rw [show decide (([(1,1),(2,1),(2,2)]:List RK)=[(1,1),(2,1),(2,2)])=true from by decide] at i4;have v1:=Z i4;clear i4;go_at_call 17;with_reducible refine CX v1.o ?_
        rintro e a4 ⟨rfl,dx⟩;have ac:=Z (ms.below dx);have l3:=Z (l2.step (ag.of_below dx));have l4:=Z (l1.step (ag.of_below dx));clear dx;refine d _ _ (λ_=>ac.box) ?_;clear d K;go_simp;refine Qc [13,14] ac.box ?_;refine Qd [15,16,18,19] ac.box u ?_;refine dV (i:=17) (j:=20) rfl rfl (by kernel_rfl) (by rfl) (by rfl) (λK d=>?_) (λK d=>?_)
        · go_simp;have i6:=ck cP a4 B iR ac.cat (by decide+kernel) (1,1) (bD (by decide));rw [fC.2.2] at i6;have t7:Hid (De prog 22 #[fn (X ⟨B,0,Y⟩), .agg #[J U 1,J U 1]] a4 _):=i6;clear i6;go_at_call 22;with_reducible refine CX t7.o ?_
          rintro e ay ⟨CJ,kb,rfl,o3,gx,rs,qa⟩;have x1:=Z (cE.of_owns (l:=[(1,1),(1,2)]) rs qa);clear rs qa;have h9:=Z (ac.step o3 gx);have x2:=Z (l3.step gx);have x3:=Z (l4.step gx);clear o3 gx;refine d _ _ (λ_=>h9.box) ?_;clear d K;go_simp;refine Dq 20 λK d=>?_;go_simp;obtain ⟨hv,f7⟩:=Qe (ay.alloc (ih #[J U 1,J U 1,J U 1,J U 2] 36));obtain ⟨g8,eg⟩:=Qe ay.heap.size;have c9:Df ay.heap.size ay hv:=by rw [<- f7];exact (CY _ ay).alloc (CZ _) _
          have qb:hv.heap[g8]? =X (ih #[J U 1,J U 1,J U 1,J U 2] 36 (0,0)):=by rw [<- f7, <- eg];exact CW ay _
          have pc:¬kb g8:=λf=>by have r:=h9.o.cat.lt g8 f;have s:ay.heap.size=g8:=eg;omega
          have mt:=Z (h9.below c9);have x4:=Z (x2.step (ag.of_below c9));have x5:=Z (x3.step (ag.of_below c9));have l6:=Z (x1.step (ag.of_below c9));have l5:=Z (cE.new (F:=kb) (l:=[(1,1),(1,2)]) 2 rfl qb pc);try rw [eg]
          try rw [f7]
          clear f7 eg c9 qb pc;refine d _ _ (λ_=>mt.box) ?_;clear d K;go_simp;refine Dq 21 λK d=>?_;go_simp;have i8:=ct _ _ [(1,1),(1,2)] [(1,1),(1,2)] hv l6.at l5.at (by decide) (by decide);rw [show decide (([(1,1),(1,2)]:List RK)=[(1,1),(1,2)])=true from by decide] at i8;have v2:=Z i8;clear i8;go_at_call 17;with_reducible refine CX v2.o ?_
          rintro e Cx ⟨rfl,bw⟩;have ha:=Z (mt.below bw);have C0:=Z (x4.step (ag.of_below bw));have C1:=Z (x5.step (ag.of_below bw));have C2:=Z (l6.step (ag.of_below bw));have C3:=Z (l5.step (ag.of_below bw));clear bw;refine d _ _ (λ_=>ha.box) ?_;clear d K;go_simp;refine Qc [22,23] ha.box ?_;refine dN ?_;go_wp2_with fail
          go_meet;exact ⟨rfl,_,ha⟩
        · go_simp;obtain ⟨d5,f8⟩:=Qe (a4.alloc (ih #[J U 1,J U 1,J U 1,J U 2] 36));obtain ⟨g9,ej⟩:=Qe a4.heap.size;have dy:Df a4.heap.size a4 d5:=by rw [<- f8];exact (CY _ a4).alloc (CZ _) _
          have qc:d5.heap[g9]? =X (ih #[J U 1,J U 1,J U 1,J U 2] 36 (0,0)):=by rw [<- f8, <- ej];exact CW a4 _
          have pd:¬cP g9:=λf=>by have r:=ac.o.cat.lt g9 f;have s:a4.heap.size=g9:=ej;omega
          have hb:=Z (ac.below dy);have x7:=Z (l3.step (ag.of_below dy));have xa:=Z (l4.step (ag.of_below dy));have x6:=Z (cE.new (F:=cP) (l:=[(1,1),(1,2)]) 2 rfl qc pd);try rw [ej]
          try rw [f8]
          clear f8 ej dy qc pd;refine d _ _ (λ_=>hb.box) ?_;clear d K;go_simp;refine Dq 17 λK d=>?_;go_simp;have ia:=ck cP d5 B iR hb.cat (by decide+kernel) (1,1) (bD (by decide));rw [fC.2.2] at ia;have t8:Hid (De prog 22 #[fn (X ⟨B,0,Y⟩), .agg #[J U 1,J U 1]] d5 _):=ia;clear ia;go_at_call 22;with_reducible refine CX t8.o ?_
          rintro e Bq ⟨CK,BI,rfl,o4,cs,rt,qd⟩;have la:=Z (cE.of_owns (l:=[(1,1),(1,2)]) rt qd);clear rt qd;have mv:=Z (hb.step o4 cs);have xb:=Z (x7.step cs);have xc:=Z (xa.step cs);have lb:=Z (x6.step cs);clear o4 cs;refine d _ _ (λ_=>mv.box) ?_;clear d K;go_simp;refine Dq 21 λK d=>?_;go_simp;have ib:=ct _ _ [(1,1),(1,2)] [(1,1),(1,2)] Bq la.at lb.at (by decide) (by decide);rw [show decide (([(1,1),(1,2)]:List RK)=[(1,1),(1,2)])=true from by decide] at ib;have v3:=Z ib;clear ib;go_at_call 17;with_reducible refine CX v3.o ?_
          rintro e Cy ⟨rfl,bA⟩;have hc:=Z (mv.below bA);have C4:=Z (xb.step (ag.of_below bA));have C5:=Z (xc.step (ag.of_below bA));have C6:=Z (lb.step (ag.of_below bA));have C7:=Z (la.step (ag.of_below bA));clear bA;refine d _ _ (λ_=>hc.box) ?_;clear d K;go_simp;refine Qc [22,23] hc.box ?_;refine dN ?_;go_wp2_with fail
          go_meet;exact ⟨rfl,_,hc⟩
     case rest=>
      obtain ⟨rfl,F,V⟩:=hcut;go_upto_region 16 with fail
      go_cut [10] (λt wx=>t=qn true/\∃F:Nat->Prop,Hid (SnS B w w1 F wx mz))
      case first=>
       have n:=Z (V.below (CY _ wc).drew);go_wp2_with fail
       refine wT (λW:Db=>∀q,B+1<=q->q<=B+5->W.heap[q]? =w1.heap[q]?) 999 ?_;refine Qd [0,1,2] n.box u ?_;refine Dp 3 λK d=>?_;go_simp;have it:=ua F wc.drew B iR n.cat (2,2) (2,1) 1 (bD (by decide)) (bD (by decide)) (by unfold i64B;decide);rw [Bb] at it;have t9:Hid (De prog 40 #[fn (X ⟨B,0,Y⟩), .agg #[J U 2,J U 2], .agg #[J U 2,J U 1],J U 1] wc.drew _):=it;clear it;go_at_call 40;with_reducible refine CX t9.o ?_
       rintro e n8 ⟨rfl,sz,oa,sl⟩;have c3:=Z (n.step oa sl);clear oa sl;refine d _ _ (λ_=>c3.box) ?_;clear d K;go_simp;refine Qc [4,5] c3.box ?_;refine Qd [6,7] c3.box u ?_;refine Dq 8 λK d=>?_;go_simp;have iv:=jf sz n8 B wK c3.cat (1,1) 2 (bD (by decide)) (by unfold i64B;decide);rw [Bc] at iv;have ta:Hid (De prog 27 #[fn (X ⟨B,0,Y⟩), .agg #[J U 1,J U 1],J U 2] n8 _):=iv;clear iv;go_at_call 27;with_reducible refine CX ta.o ?_
       rintro e a5 ⟨rfl,cQ,ob,sm⟩;have al:=Z (c3.step ob sm);clear ob sm;refine d _ _ (λ_=>al.box) ?_;clear d K;go_simp;refine Qc [9,10,11] al.box ?_;refine Qd [12,14] al.box u ?_;refine dV (i:=13) (j:=15) rfl rfl (by kernel_rfl) (by rfl) (by rfl) (λK d=>?_) (λK d=>?_)
       · go_simp;have iD:=eA cQ a5 B mz al.cat (by decide+kernel);rw [du.2.2.1] at iD;have tb:Hid (De prog 18 #[fn (X ⟨B,0,Y⟩)] a5 _):=iD;clear iD;go_at_call 18;with_reducible refine CX tb.o ?_
         rintro e aS ⟨CM,bk,rfl,oc,sp,rx,qe⟩;have xk:=Z (cE.of_owns (l:=[(1,2)]) rx qe);clear rx qe;have hd:=Z (al.step oc sp);clear oc sp;refine d _ _ (λ_=>hd.box) ?_;clear d K;go_simp;refine Dq 15 λK d=>?_;go_simp;obtain ⟨hw,f9⟩:=Qe (aS.alloc (ih #[J U 1,J U 2] 36));obtain ⟨gb,em⟩:=Qe aS.heap.size;have hL:Df aS.heap.size aS hw:=by rw [<- f9];exact (CY _ aS).alloc (CZ _) _
         have qf:hw.heap[gb]? =X (ih #[J U 1,J U 2] 36 (0,0)):=by rw [<- f9, <- em];exact CW aS _
         have pe:¬bk gb:=λf=>by have r:=hd.o.cat.lt gb f;have s:aS.heap.size=gb:=em;omega
         have mP:=Z (hd.below hL);have le:=Z (xk.step (ag.of_below hL));have ld:=Z (cE.new (F:=bk) (l:=[(1,2)]) 1 rfl qf pe);try rw [em]
         try rw [f9]
         clear f9 em hL qf pe;refine d _ _ (λ_=>mP.box) ?_;clear d K;go_simp;refine Dq 16 λK d=>?_;go_simp;have iN:=ct _ _ [(1,2)] [(1,2)] hw le.at ld.at (by decide) (by decide);rw [show decide (([(1,2)]:List RK)=[(1,2)])=true from by decide] at iN;have v4:=Z iN;clear iN;go_at_call 17;with_reducible refine CX v4.o ?_
         rintro e a6 ⟨rfl,dz⟩;have ao:=Z (mP.below dz);have lf:=Z (le.step (ag.of_below dz));have lk:=Z (ld.step (ag.of_below dz));clear dz;refine d _ _ (λ_=>ao.box) ?_;clear d K;go_simp;refine Qc [17,18] ao.box ?_;refine Qd [19,20,22,23,24] ao.box u ?_;refine dV (i:=21) (j:=25) rfl rfl (by kernel_rfl) (by rfl) (by rfl) (λK d=>?_) (λK d=>?_)
         · go_simp;have iP:=ck bk a6 B mz ao.cat (by decide+kernel) (1,2) (bD (by decide));rw [du.2.2.2] at iP;have td:Hid (De prog 22 #[fn (X ⟨B,0,Y⟩), .agg #[J U 1,J U 2]] a6 _):=iP;clear iP;go_at_call 22;with_reducible refine CX td.o ?_
           rintro e aT ⟨CN,kc,rfl,oi,gy,rW,qk⟩;have xs:=Z (cE.of_owns (l:=[(1,2),(2,1),(2,2)]) rW qk);clear rW qk;have he:=Z (ao.step oi gy);have xv:=Z (lf.step gy);have y0:=Z (lk.step gy);clear oi gy;refine d _ _ (λ_=>he.box) ?_;clear d K;go_simp;refine Dq 25 λK d=>?_;go_simp;obtain ⟨hx,fc⟩:=Qe (aT.alloc (ih #[J U 1,J U 2,J U 2,J U 1,J U 2,J U 2] 36));obtain ⟨gd,eq⟩:=Qe aT.heap.size;have cb:Df aT.heap.size aT hx:=by rw [<- fc];exact (CY _ aT).alloc (CZ _) _
           have qs:hx.heap[gd]? =X (ih #[J U 1,J U 2,J U 2,J U 1,J U 2,J U 2] 36 (0,0)):=by rw [<- fc, <- eq];exact CW aT _
           have pf:¬kc gd:=λf=>by have r:=he.o.cat.lt gd f;have s:aT.heap.size=gd:=eq;omega
           have n0:=Z (he.below cb);have y1:=Z (xv.step (ag.of_below cb));have y2:=Z (y0.step (ag.of_below cb));have lo:=Z (xs.step (ag.of_below cb));have lm:=Z (cE.new (F:=kc) (l:=[(1,2),(2,1),(2,2)]) 3 rfl qs pf);try rw [eq]
           try rw [fc]
           clear fc eq cb qs pf;refine d _ _ (λ_=>n0.box) ?_;clear d K;go_simp;refine Dq 26 λK d=>?_;go_simp;have iQ:=ct _ _ [(1,2),(2,1),(2,2)] [(1,2),(2,1),(2,2)] hx lo.at lm.at (by decide) (by decide);rw [show decide (([(1,2),(2,1),(2,2)]:List RK)=[(1,2),(2,1),(2,2)])=true from by decide] at iQ;have v5:=Z iQ;clear iQ;go_at_call 17;with_reducible refine CX v5.o ?_
           rintro e Cz ⟨rfl,bB⟩;have hg:=Z (n0.below bB);have C8:=Z (y1.step (ag.of_below bB));have C9:=Z (y2.step (ag.of_below bB));have Ca:=Z (lo.step (ag.of_below bB));have Cb:=Z (lm.step (ag.of_below bB));clear bB;refine d _ _ (λ_=>hg.box) ?_;clear d K;go_simp;refine Qc [27,28] hg.box ?_;refine dN ?_;go_wp2_with fail
           go_meet;exact ⟨rfl,_,hg⟩
         · go_simp;obtain ⟨d6,fp⟩:=Qe (a6.alloc (ih #[J U 1,J U 2,J U 2,J U 1,J U 2,J U 2] 36));obtain ⟨gf,er⟩:=Qe a6.heap.size;have e0:Df a6.heap.size a6 d6:=by rw [<- fp];exact (CY _ a6).alloc (CZ _) _
           have qt:d6.heap[gf]? =X (ih #[J U 1,J U 2,J U 2,J U 1,J U 2,J U 2] 36 (0,0)):=by rw [<- fp, <- er];exact CW a6 _
           have pk:¬bk gf:=λf=>by have r:=ao.o.cat.lt gf f;have s:a6.heap.size=gf:=er;omega
           have hi:=Z (ao.below e0);have y5:=Z (lf.step (ag.of_below e0));have y6:=Z (lk.step (ag.of_below e0));have y4:=Z (cE.new (F:=bk) (l:=[(1,2),(2,1),(2,2)]) 3 rfl qt pk);try rw [er]
           try rw [fp]
           clear fp er e0 qt pk;refine d _ _ (λ_=>hi.box) ?_;clear d K;go_simp;refine Dq 21 λK d=>?_;go_simp;have iS:=ck bk d6 B mz hi.cat (by decide+kernel) (1,2) (bD (by decide));rw [du.2.2.2] at iS;have te:Hid (De prog 22 #[fn (X ⟨B,0,Y⟩), .agg #[J U 1,J U 2]] d6 _):=iS;clear iS;go_at_call 22;with_reducible refine CX te.o ?_
           rintro e By ⟨CO,BJ,rfl,oj,cu,s0,qv⟩;have lp:=Z (cE.of_owns (l:=[(1,2),(2,1),(2,2)]) s0 qv);clear s0 qv;have n1:=Z (hi.step oj cu);have y8:=Z (y5.step cu);have y9:=Z (y6.step cu);have ls:=Z (y4.step cu);clear oj cu;refine d _ _ (λ_=>n1.box) ?_;clear d K;go_simp;refine Dq 26 λK d=>?_;go_simp;have j0:=ct _ _ [(1,2),(2,1),(2,2)] [(1,2),(2,1),(2,2)] By lp.at ls.at (by decide) (by decide);rw [show decide (([(1,2),(2,1),(2,2)]:List RK)=[(1,2),(2,1),(2,2)])=true from by decide] at j0;have v7:=Z j0;clear j0;go_at_call 17;with_reducible refine CX v7.o ?_
           rintro e CA ⟨rfl,bO⟩;have hj:=Z (n1.below bO);have Cc:=Z (y8.step (ag.of_below bO));have Cd:=Z (y9.step (ag.of_below bO));have Ce:=Z (ls.step (ag.of_below bO));have Cf:=Z (lp.step (ag.of_below bO));clear bO;refine d _ _ (λ_=>hj.box) ?_;clear d K;go_simp;refine Qc [27,28] hj.box ?_;refine dN ?_;go_wp2_with fail
           go_meet;exact ⟨rfl,_,hj⟩
       · go_simp;obtain ⟨d7,fr⟩:=Qe (a5.alloc (ih #[J U 1,J U 2] 36));obtain ⟨gn,ex⟩:=Qe a5.heap.size;have p1:Df a5.heap.size a5 d7:=by rw [<- fr];exact (CY _ a5).alloc (CZ _) _
         have qx:d7.heap[gn]? =X (ih #[J U 1,J U 2] 36 (0,0)):=by rw [<- fr, <- ex];exact CW a5 _
         have pt:¬cQ gn:=λf=>by have r:=al.o.cat.lt gn f;have s:a5.heap.size=gn:=ex;omega
         have hl:=Z (al.below p1);have ys:=Z (cE.new (F:=cQ) (l:=[(1,2)]) 1 rfl qx pt);try rw [ex]
         try rw [fr]
         clear fr ex p1 qx pt;refine d _ _ (λ_=>hl.box) ?_;clear d K;go_simp;refine Dq 13 λK d=>?_;go_simp;have j1:=eA cQ d7 B mz hl.cat (by decide+kernel);rw [du.2.2.1] at j1;have th:Hid (De prog 18 #[fn (X ⟨B,0,Y⟩)] d7 _):=j1;clear j1;go_at_call 18;with_reducible refine CX th.o ?_
         rintro e BC ⟨CP,d0,rfl,ok,k9,s1,qy⟩;have lv:=Z (cE.of_owns (l:=[(1,2)]) s1 qy);clear s1 qy;have n2:=Z (hl.step ok k9);have lx:=Z (ys.step k9);clear ok k9;refine d _ _ (λ_=>n2.box) ?_;clear d K;go_simp;refine Dq 16 λK d=>?_;go_simp;have j2:=ct _ _ [(1,2)] [(1,2)] BC lv.at lx.at (by decide) (by decide);rw [show decide (([(1,2)]:List RK)=[(1,2)])=true from by decide] at j2;have v9:=Z j2;clear j2;go_at_call 17;with_reducible refine CX v9.o ?_
         rintro e a7 ⟨rfl,e2⟩;have au:=Z (n2.below e2);have lB:=Z (lx.step (ag.of_below e2));have lE:=Z (lv.step (ag.of_below e2));clear e2;refine d _ _ (λ_=>au.box) ?_;clear d K;go_simp;refine Qc [17,18] au.box ?_;refine Qd [19,20,22,23,24] au.box u ?_;refine dV (i:=21) (j:=25) rfl rfl (by kernel_rfl) (by rfl) (by rfl) (λK d=>?_) (λK d=>?_)
         · go_simp;have j3:=ck d0 a7 B mz au.cat (by decide+kernel) (1,2) (bD (by decide));rw [du.2.2.2] at j3;have tl:Hid (De prog 22 #[fn (X ⟨B,0,Y⟩), .agg #[J U 1,J U 2]] a7 _):=j3;clear j3;go_at_call 22;with_reducible refine CX tl.o ?_
           rintro e bb ⟨CQ,kd,rfl,op,gz,s2,r0⟩;have z0:=Z (cE.of_owns (l:=[(1,2),(2,1),(2,2)]) s2 r0);clear s2 r0;have hm:=Z (au.step op gz);have z9:=Z (lB.step gz);have zb:=Z (lE.step gz);clear op gz;refine d _ _ (λ_=>hm.box) ?_;clear d K;go_simp;refine Dq 25 λK d=>?_;go_simp;obtain ⟨hz,ft⟩:=Qe (bb.alloc (ih #[J U 1,J U 2,J U 2,J U 1,J U 2,J U 2] 36));obtain ⟨gp,eQ⟩:=Qe bb.heap.size;have cc:Df bb.heap.size bb hz:=by rw [<- ft];exact (CY _ bb).alloc (CZ _) _
           have r1:hz.heap[gp]? =X (ih #[J U 1,J U 2,J U 2,J U 1,J U 2,J U 2] 36 (0,0)):=by rw [<- ft, <- eQ];exact CW bb _
           have pv:¬kd gp:=λf=>by have r:=hm.o.cat.lt gp f;have s:bb.heap.size=gp:=eQ;omega
           have n4:=Z (hm.below cc);have zd:=Z (z9.step (ag.of_below cc));have zp:=Z (zb.step (ag.of_below cc));have lQ:=Z (z0.step (ag.of_below cc));have lP:=Z (cE.new (F:=kd) (l:=[(1,2),(2,1),(2,2)]) 3 rfl r1 pv);try rw [eQ]
           try rw [ft]
           clear ft eQ cc r1 pv;refine d _ _ (λ_=>n4.box) ?_;clear d K;go_simp;refine Dq 26 λK d=>?_;go_simp;have j4:=ct _ _ [(1,2),(2,1),(2,2)] [(1,2),(2,1),(2,2)] hz lQ.at lP.at (by decide) (by decide);rw [show decide (([(1,2),(2,1),(2,2)]:List RK)=[(1,2),(2,1),(2,2)])=true from by decide] at j4;have va:=Z j4;clear j4;go_at_call 17;with_reducible refine CX va.o ?_
           rintro e CB ⟨rfl,bY⟩;have hn:=Z (n4.below bY);have Cg:=Z (zd.step (ag.of_below bY));have Ci:=Z (zp.step (ag.of_below bY));have Cj:=Z (lQ.step (ag.of_below bY));have Ck:=Z (lP.step (ag.of_below bY));clear bY;refine d _ _ (λ_=>hn.box) ?_;clear d K;go_simp;refine Qc [27,28] hn.box ?_;refine dN ?_;go_wp2_with fail
           go_meet;exact ⟨rfl,_,hn⟩
         · go_simp;obtain ⟨d8,fx⟩:=Qe (a7.alloc (ih #[J U 1,J U 2,J U 2,J U 1,J U 2,J U 2] 36));obtain ⟨gq,f0⟩:=Qe a7.heap.size;have e3:Df a7.heap.size a7 d8:=by rw [<- fx];exact (CY _ a7).alloc (CZ _) _
           have r2:d8.heap[gq]? =X (ih #[J U 1,J U 2,J U 2,J U 1,J U 2,J U 2] 36 (0,0)):=by rw [<- fx, <- f0];exact CW a7 _
           have px:¬d0 gq:=λf=>by have r:=au.o.cat.lt gq f;have s:a7.heap.size=gq:=f0;omega
           have ho:=Z (au.below e3);have zA:=Z (lB.step (ag.of_below e3));have zB:=Z (lE.step (ag.of_below e3));have zz:=Z (cE.new (F:=d0) (l:=[(1,2),(2,1),(2,2)]) 3 rfl r2 px);try rw [f0]
           try rw [fx]
           clear fx f0 e3 r2 px;refine d _ _ (λ_=>ho.box) ?_;clear d K;go_simp;refine Dq 21 λK d=>?_;go_simp;have ja:=ck d0 d8 B mz ho.cat (by decide+kernel) (1,2) (bD (by decide));rw [du.2.2.2] at ja;have tr:Hid (De prog 22 #[fn (X ⟨B,0,Y⟩), .agg #[J U 1,J U 2]] d8 _):=ja;clear ja;go_at_call 22;with_reducible refine CX tr.o ?_
           rintro e BD ⟨CR,BK,rfl,os,cv,s3,r4⟩;have m7:=Z (cE.of_owns (l:=[(1,2),(2,1),(2,2)]) s3 r4);clear s3 r4;have n5:=Z (ho.step os cv);have A1:=Z (zA.step cv);have A2:=Z (zB.step cv);have ma:=Z (zz.step cv);clear os cv;refine d _ _ (λ_=>n5.box) ?_;clear d K;go_simp;refine Dq 26 λK d=>?_;go_simp;have jb:=ct _ _ [(1,2),(2,1),(2,2)] [(1,2),(2,1),(2,2)] BD m7.at ma.at (by decide) (by decide);rw [show decide (([(1,2),(2,1),(2,2)]:List RK)=[(1,2),(2,1),(2,2)])=true from by decide] at jb;have vb:=Z jb;clear jb;go_at_call 17;with_reducible refine CX vb.o ?_
           rintro e CC ⟨rfl,c0⟩;have hp:=Z (n5.below c0);have Cm:=Z (A1.step (ag.of_below c0));have Cn:=Z (A2.step (ag.of_below c0));have Co:=Z (ma.step (ag.of_below c0));have Cp:=Z (m7.step (ag.of_below c0));clear c0;refine d _ _ (λ_=>hp.box) ?_;clear d K;go_simp;refine Qc [27,28] hp.box ?_;refine dN ?_;go_wp2_with fail
           go_meet;exact ⟨rfl,_,hp⟩
      case rest=>
       obtain ⟨rfl,F,V⟩:=hcut;go_wp2_with fail
       refine Dd (results_tmp rfl _ _ _) rfl ⟨rfl,V.b⟩
end
end Go.Proofs.YtjcimanddakkaaaGreatDoor
