/- Lemmas. -/
import Derived.Test.YtjcimanddakkaaaGreatDoorCQ28
import Derived.Test.YtjcimanddakkaaaGreatDoorCQ31
import Derived.Test.YtjcimanddakkaaaGreatDoorCQ33
set_option maxRecDepth 100000
set_option maxHeartbeats 8000000
namespace Go.Proofs.YtjcimanddakkaaaGreatDoor
open Go.Value renaming pointer→fn,int→J,slice→nq,bool→qn,map→E7
open _root_.Option renaming some→X,none→Y
open Go.IntKind renaming i64→U,u8→E8
open Go.Ending renaming returned→h1
open Go.Lib renaming hid→Z
open Go.Obj renaming cells→ih
open Tryz
open Go.World renaming alloc_heap_new→Ea,cell?_of_block→Ee
open Go.Calls renaming mono→Eb
open Go.RowKit.Below renaming refl→Ec,heap_setCell→Ep
open _root_.Nat renaming le_refl→Ed,add_assoc→Eg,zero_le→Er
open Go renaming World→Ef,bodyPost_ret→Eh,Calls→Ei
open Go.RowKit renaming Below→Ej
open _root_.Prod renaming ext→Ek
open _root_.List renaming length_append→El,getElem_mem→Em,take_of_length_le→En,flatMap_append→Eo
section
open Go.RowKit Go.Maps Go.Shelf
theorem pm{f:af}{N:Nat}(h:(fieldBytes f).length<=N)(n b c:Int):(fieldBytes (gM f n b c)).length<=N+100:=by
 have d:=fY (l:=textsL) (N:=10) (by decide) c;have g:=fY (l:=gX) (N:=10) (by decide) c;have e:=cJ f;unfold gM;repeat' split
 .have a:=cJ {f with tag:=pick iO c};simp only at a;omega
 .have a:=cJ {f with data:=f.data++pick textsL c};simp only[El]at a;omega
 .have a:=cJ {f with ind:=pick gX c};simp only at a;omega
 .have a:=cJ {f with subs:=[]};simp only[List.flatMap_nil,List.length_nil]at a;omega
 .have a:=cJ {f with subs:=f.subs++[⟨u8I b,pick textsL c⟩]};simp only[Eo,El,List.flatMap_cons,List.flatMap_nil,List.append_nil,aR,List.length_cons]at a;omega
 .have a:=cJ {f with subs:=f.subs++[⟨122,pick textsL c⟩]};simp only[Eo,El,List.flatMap_cons,List.flatMap_nil,List.append_nil,aR,List.length_cons]at a;omega
 omega
theorem tG(x:dg):bo (saidR x).fields:=by
 have key:∀q:Six,∀n b c:Int,bo (spoilR (madeR q) n b c).fields:=λq n b c=>by
  obtain⟨g,d⟩:=iW q;unfold spoilR;repeat' split
  .exact⟨by simp,λf a=>by cases a⟩
  .exact⟨by dsimp only;omega,λf a=>by have:=d f a;omega⟩
  .exact⟨by dsimp only;omega,λf a=>by have:=d f a;omega⟩
  refine⟨by dsimp only;rw[List.length_modify];omega,λf a=>?_⟩;dsimp only at a;obtain⟨i,e,rfl⟩:=List.mem_iff_getElem.1 a;rw[List.getElem_modify];rw[List.length_modify]at e;have h:=d _ (Em e);split
  .have:=pm h n b c;omega
  omega
 unfold saidR;dsimp only;split
 .exact key _ _ _ _
 obtain⟨g,d⟩:=iW (if x.b.tmod 3≠0 then workQ x.b else x.q);exact⟨by omega,λf a=>by have:=d f a;omega⟩
structure bM(FC FM:Nat->Prop)(w:Ef)(c p:Nat)(d:ar):Prop where
 cat:bq FC w c d
 mod:cI FM w p d
 dis:∀k,FC k->FM k->False
theorem bq.lt{F:Nat->Prop}{w:Ef}{c:Nat}{d:ar}(h:bq F w c d):∀k,F k->k<w.heap.size:=by obtain⟨_,_,_,_,h⟩:=h;exact h.lt
theorem cI.lt{F:Nat->Prop}{w:Ef}{p:Nat}{d:ar}(h:cI F w p d):∀k,F k->k<w.heap.size:=by obtain⟨_,_,_,_,h⟩:=h;exact h.lt
theorem bq.ok{F:Nat->Prop}{w:Ef}{c:Nat}{d:ar}(h:bq F w c d):bi d:=by obtain⟨_,_,_,_,h⟩:=h;exact h.ok
theorem bM.below{a b:Nat->Prop}{w w':Ef}{c p:Nat}{d:ar}(h:bM a b w c p d)(e:Bw w w'):bM a b w' c p d:=⟨h.cat.below e,h.mod.below e,h.dis⟩
theorem bM.one{a b g:Nat->Prop}{w w1:Ef}{c p:Nat}{d:ar}(h:bM a b w c p d)(f:ah a w g w1):cI b w1 p d:=
 h.mod.step (λk e=>f.block k (h.mod.lt k e) (λi=>h.dis k i e)) f.size
theorem bM.two{o f e l:Nat->Prop}{w w1 n:Ef}{c p:Nat}{d q:ar}(h:bM o f w c p d)(r:bq e w1 c q)(i:ah o w e w1)(u:cI l n p q)(b:ah f w1 l n):
 bM e l n c p q/\ah (λk=>o k∨f k) w (λk=>e k∨l k) n:=by
 have t:∀k,e k->f k->False:=λk a j=>by
  rcases i.new k a with m|m
  .exact h.dis k m j
  have:=h.mod.lt k j;omega
 refine⟨⟨r.step (λk a=>b.block k (r.lt k a) (λj=>t k a j)) b.size,u,λk a j=>?_⟩,?_⟩
 .rcases b.new k j with m|m
  .exact t k a m
  have:=r.lt k a;omega
 have v:ah (λk=>o k∨f k) w (λk=>e k∨f k) w1:=⟨i.os,i.tape,i.output,i.size,λk a hn=>i.block k a (λs=>hn (.inl s)),λk a=>a.elim (λg=>(i.new k g).imp .inl id) (λg=>.inl (.inr g))⟩;have x:ah (λk=>e k∨f k) w1 (λk=>e k∨l k) n:=⟨b.os,b.tape,b.output,b.size,λk a hn=>b.block k a (λs=>hn (.inr s)),λk a=>a.elim (λg=>.inl (.inl g)) (λg=>(b.new k g).imp .inr id)⟩;exact v.trans x
theorem CO(y u:Nat->Prop)(w:Ef)(c p:Nat)(d:ar)(h:bM y u w c p d)(k a b v D E G H I L:Int)(hx:s7 ⟨k,a,b,v,⟨D,E,G,H,I,L⟩⟩):
 Ei prog 13 #[.agg #[fn (X ⟨c,0,Y⟩),fn (X ⟨p,0,Y⟩)],.agg #[J U k,J U a,J U b,J U v,J U D,J U E,J U G,J U H,J U I,J U L]] w λe w'=>∃B C:Nat->Prop,
  e=h1 (.tuple #[J U (actC d ⟨k,a,b,v,⟨D,E,G,H,I,L⟩⟩).2,J U (actC d ⟨k,a,b,v,⟨D,E,G,H,I,L⟩⟩).2])/\bM B C w' c p (actC d ⟨k,a,b,v,⟨D,E,G,H,I,L⟩⟩).1/\ah (λk=>y k∨u k) w (λk=>B k∨C k) w':=by
 obtain⟨bc,hX⟩:∃bc:dg,(⟨k,a,b,v,⟨D,E,G,H,I,L⟩⟩:dg)=bc:=⟨_,rfl⟩;have a7:=Ap k a b v D E G H I L hx;have ch:=tG ⟨k,a,b,v,⟨D,E,G,H,I,L⟩⟩;have c9:actC d bc=if k.emod 8=5 then dropC d (recI a) (v.emod 6)else if k.emod 8=6 then decideC d (recI a) (recI b) (v.emod 6) false else if k.emod 8=7 then decideC d (recI a) (recI b) (v.emod 6) true else putC d (recI a) (v.emod 6) (saidR bc):=by rw[<- hX];rfl
 obtain⟨R,hR⟩:=Qe (saidR ⟨k,a,b,v,⟨D,E,G,H,I,L⟩⟩);rw[hR]at a7 ch;rw[<- hX,hR]at c9;have a8:=Z c9;obtain⟨A,hA⟩:=Qe (actC d ⟨k,a,b,v,⟨D,E,G,H,I,L⟩⟩);rw[hA]at a8 ⊢;obtain⟨n,hn⟩:=Qe (v.emod 6);have al:i64B n:=by rw[<- hn];exact jG v
 obtain⟨mk,cg,lk⟩:=cG k 8 (by omega);have d6:Hid (∀W,Ei prog 24 #[J U k,J U 8] W λe w'=>e=h1 (J U (mk:Int))/\W=w'):=dr k 8 mk (by omega) (by omega) cg;have d7:Hid (∀W,Ei prog 24 #[J U v,J U 6] W λe w'=>e=h1 (J U n)/\W=w'):=λW=>by rw[<- hn];exact iV v 6 W (by omega) (by omega)
 rw[hn]at a8 a7;have bA:=λW:Ef=>tM a W hx.a;have bB:=λW:Ef=>tM b W hx.b;have a6:=fe a;have b5:=fe b;obtain⟨⟨s,t⟩,d1⟩:∃rr,recI a=rr:=⟨_,rfl⟩;obtain⟨⟨b1,b2⟩,d2⟩:∃rr,recI b=rr:=⟨_,rfl⟩;rw[d1]at bA a6 a8 a7;rw[d2]at bB b5 a8;dsimp only[recK]at bA bB;have da:=Z bA;have dc:=Z bB;have cp:=Z a7;have cu:=Z ch;have b9:Hid (k.emod 8=mk):=cg;obtain⟨w2,b6⟩:=Qe ((w.alloc (ih #[fn (X ⟨c,0,Y⟩),fn (X ⟨p,0,Y⟩)] 27)).alloc (ih #[J U k,J U a,J U b,J U v,J U D,J U E,J U G,J U H,J U I,J U L] 47));have cP:Bw w w2:=by rw[<- b6];exact((Ec _ w).alloc (Ed _) _).alloc (by simp) _
 have cx:w2.heap[w.heap.size]?=X (ih #[fn (X ⟨c,0,Y⟩),fn (X ⟨p,0,Y⟩)] 27 (0,0)):=by rw[<- b6,Below.heap_alloc _ _ _ (by simp)];exact Ea w _
 have bd:w2.heap[w.heap.size+1]?=X (ih #[J U k,J U a,J U b,J U v,J U D,J U E,J U G,J U H,J U I,J U L] 47 (0,0)):=by rw[<- b6];have:=Ea (w.alloc (ih #[fn (X ⟨c,0,Y⟩),fn (X ⟨p,0,Y⟩)] 27)) (ih #[J U k,J U a,J U b,J U v,J U D,J U E,J U G,J U H,J U I,J U L] 47);rwa[World.size_alloc]at this
 have dk:=Z b6;have b3:=Z cP;have cl:=Z cx;have c1:=Z bd;have HH:=Z h;have c0:Hid (∀W,Bw w2 W->W.cell? ⟨w.heap.size+1,0,Y⟩=X (J U k)/\W.cell? ⟨w.heap.size+1,1,Y⟩=X (J U a)/\W.cell? ⟨w.heap.size+1,2,Y⟩=X (J U b)/\W.cell? ⟨w.heap.size+1,3,Y⟩=X (J U v)):=λW hW=>by have l:=(hW.block _ (ae bd)).trans bd;exact⟨(aa l 0).trans rfl,(aa l 1).trans rfl,(aa l 2).trans rfl,(aa l 3).trans rfl⟩
 clear hX c9 hR hA hn cg bA bB d1 d2 a7 ch b6 cP cx bd h hx;go_enter func13,ntmps13;go_upto_region 1 with fail;rw[dk.o];obtain⟨_,x1,_,_⟩:=c0 w2 (Ec _ _);go_upto_region 2 with(go_at_call 20;(refine Eb (da.o _) ?_;rintro e w3⟨rfl,bl⟩))
 obtain⟨q6,bv⟩:=Qe w3.heap.size;obtain⟨w4,bO⟩:=Qe (w3.alloc (ih #[J U s,J U t] 36));have ay:w4.heap[q6]?=X (ih #[J U s,J U t] 36 (0,0)):=by rw[<- bO,<- bv];exact Ea w3 _
 have cb:Bw w2 w4:=by rw[<- bO];exact bl.alloc bl.size _
 have e1:w2.heap.size<=q6:=by rw[<- bv];exact bl.size
 rw[bv,bO];clear bv bO bl x1;obtain⟨_,_,x2,_⟩:=c0 w4 cb;have c4:=Z ay;have b7:=Z cb;clear ay cb;go_upto_region 3 with(go_at_call 20;(refine Eb (dc.o _) ?_;rintro e w5⟨rfl,bs⟩))
 obtain⟨q7,bw⟩:=Qe w5.heap.size;obtain⟨f,bY⟩:=Qe (w5.alloc (ih #[J U b1,J U b2] 36));have bk:f.heap[q7]?=X (ih #[J U b1,J U b2] 36 (0,0)):=by rw[<- bY,<- bw];exact Ea w5 _
 have cc:Bw w4 f:=by rw[<- bY];exact bs.alloc bs.size _
 have e2:w4.heap.size<=q7:=by rw[<- bw];exact bs.size
 have aC:Bw w2 f:=b7.trans (cc.mono b7.size);have ay:f.heap[q6]?=X (ih #[J U s,J U t] 36 (0,0)):=(cc.block _ (ae c4.o)).trans c4.o;rw[bw,bY];clear bw bY bs x2;obtain⟨x0,_,_,x3⟩:=c0 f aC;have HP:Hid (bM y u f c p d):=HH.below (b3.trans (aC.mono b3.size));have bb:Hid (ah (λk=>y k∨u k) w (λk=>y k∨u k) f):=ah.of_below (b3.trans (aC.mono b3.size));have c3:Hid (w.heap.size<=q6/\w.heap.size<=q7/\q6<f.heap.size/\q7<f.heap.size/\w.heap.size+1<f.heap.size):=by have l:=b3.size;have h2:=ae ay;have h3:=ae bk;have h4:=b7.size;have h5:=ae c1.o;have h6:=aC.size;exact⟨by omega,by omega,h2,h3,by omega⟩
 have a5:Hid (∀k,y k∨u k->k<w.heap.size):=λk r=>r.elim (HH.cat.lt k) (HH.mod.lt k);have b8:Hid (∀W:Ef,(∀q,w.heap.size<=q->q<f.heap.size->W.heap[q]?=f.heap[q]?)->(W.cell? ⟨w.heap.size,0,Y⟩=X (fn (X ⟨c,0,Y⟩))/\W.cell? ⟨w.heap.size,1,Y⟩=X (fn (X ⟨p,0,Y⟩)))/\(W.cell? ⟨q6,0,Y⟩=X (J U s)/\W.cell? ⟨q6,1,Y⟩=X (J U t))/\(W.cell? ⟨q7,0,Y⟩=X (J U b1)/\W.cell? ⟨q7,1,Y⟩=X (J U b2))):=λW hW=>by have hl:=c3.o;have g0:=(hW w.heap.size (Ed _) (by omega)).trans ((aC.block _ (ae cl.o)).trans cl.o);have g1:=(hW q6 hl.1 hl.2.2.1).trans ay;have g2:=(hW q7 hl.2.1 hl.2.2.2.1).trans bk;exact⟨⟨(aa g0 0).trans rfl,(aa g0 1).trans rfl⟩,⟨(aa g1 0).trans rfl,(aa g1 1).trans rfl⟩,(aa g2 0).trans rfl,(aa g2 1).trans rfl⟩
 have d3:∀q,w.heap.size<=q->q<f.heap.size->f.drew.heap[q]?=f.heap[q]?:=λ_ _ _=>rfl;have ac:Hid (∀(F F':Nat->Prop)(W W':Ef),(∀k,F k->k<w.heap.size)->(∀q,w.heap.size<=q->q<f.heap.size->W.heap[q]?=f.heap[q]?)->f.heap.size<=W.heap.size->ah F W F' W'->∀q,w.heap.size<=q->q<f.heap.size->W'.heap[q]?=f.heap[q]?):=λF F' W W' hF hS hz hs q hq b0=>(hs.block q (by omega) (λhf=>by have:=hF q hf;omega)).trans (hS q hq b0);have d4:=Z aC;have dz:=Z ay;have e0:=Z bk;have a9:=Z d3;clear aC ay bk cc c4 b7 d3
 go_upto_block 0 with(first
  |(go_at_call 24;((with_reducible refine Eb (d7.o _) ?_);rintro e o⟨rfl,rfl⟩))
  |(go_at_call 24;((with_reducible refine Eb (d6.o _) ?_);rintro e o⟨rfl,rfl⟩)))
 by_cases h5:mk=5
 .subst h5;have O:Hid (dropC d (s,t) n=A):=by unfold Hid;rw[a8.o,b9.o];rw[if_pos (by omega)]
  have hP:=HP.below (Ec _ f).drew;have i:=vE y f.drew c d hP.cat (s,t) n a6 al;dsimp only[recK]at i;rw[O.o]at i;have ao:=Z i;clear i hP;go_wp2_with fail;refine wT (λW:Ef=>∀q,w.heap.size<=q->q<f.heap.size->W.heap[q]?=f.heap[q]?) 999 ?_;refine Qd [0,2,3,5,7,8,1,6] a9.o b8 ?_;refine Dp 4 λK j=>?_;go_simp;go_at_call 27;with_reducible refine Eb ao.o ?_
  rintro e o⟨rfl,B,V,m⟩;have a0:=ac y B f.drew o (λk r=>a5 k (.inl r)) a9.o (Ed _) m;have ad:=bM.one (HP.below (Ec _ f).drew) m;have i:=Bv u o p d ad (s,t) n a6 al;dsimp only[recK]at i;rw[O.o]at i;have au:=Z i;have b4:=Z V;have a4:=Z m;have T:=Z a0;clear i V m ad a0;refine j _ _ (λ_=>T.o) ?_;clear j K;go_simp;refine Dp 9 λK j=>?_;go_simp;go_at_call 42;with_reducible refine Eb au.o ?_
  rintro e N⟨rfl,C,hM,x⟩;have a3:=ac u C o N (λk r=>a5 k (.inr r)) T.o (by have l:=a4.size;exact l) x;have M:=Z a3;have av:=Z hM;have ax:=Z x;clear hM x a3;refine j _ _ (λ_=>M.o) ?_;clear j K;go_simp;refine Qc [10,11] M.o ?_;refine dN ?_;go_wp2_with fail;refine Eh (v:=.tuple #[J U A.2,J U A.2]) (by simp[results,Tryz.results13,go_sem]) rfl ?_;obtain⟨aS,aT⟩:=bM.two (HP.below (Ec _ f).drew) b4.o a4.o av.o ax.o;exact⟨B,C,rfl,aS,(bb.trans (ah.of_below (Ec _ f).drew)).trans aT⟩
 by_cases h6:mk=6
 .subst h6;have O:Hid (decideC d (s,t) (b1,b2) n false=A):=by unfold Hid;rw[a8.o,b9.o];rw[if_neg (by omega),if_pos (by omega)]
  have hP:=HP.below (Ec _ f).drew;have i:=sT y f.drew c d hP.cat (s,t) (b1,b2) n a6 b5 al;dsimp only[recK]at i;rw[O.o]at i;have ao:=Z i;clear i hP;go_wp2_with fail;refine wT (λW:Ef=>∀q,w.heap.size<=q->q<f.heap.size->W.heap[q]?=f.heap[q]?) 999 ?_;refine Qd [0,2,3,4,6,8,9,10,1,7] a9.o b8 ?_;refine Dp 5 λK j=>?_;go_simp;go_at_call 39;with_reducible refine Eb ao.o ?_
  rintro e o⟨rfl,B,V,m⟩;have a0:=ac y B f.drew o (λk r=>a5 k (.inl r)) a9.o (Ed _) m;have ad:=bM.one (HP.below (Ec _ f).drew) m;have i:=zX u o p d ad (s,t) (b1,b2) n a6 b5 al;dsimp only[recK]at i;rw[O.o]at i;have au:=Z i;have b4:=Z V;have a4:=Z m;have T:=Z a0;clear i V m ad a0;refine j _ _ (λ_=>T.o) ?_;clear j K;go_simp;refine Dp 11 λK j=>?_;go_simp;go_at_call 43;with_reducible refine Eb au.o ?_
  rintro e N⟨rfl,C,hM,x⟩;have a3:=ac u C o N (λk r=>a5 k (.inr r)) T.o (by have l:=a4.size;exact l) x;have M:=Z a3;have av:=Z hM;have ax:=Z x;clear hM x a3;refine j _ _ (λ_=>M.o) ?_;clear j K;go_simp;refine Qc [12,13] M.o ?_;refine dN ?_;go_wp2_with fail;refine Eh (v:=.tuple #[J U A.2,J U A.2]) (by simp[results,Tryz.results13,go_sem]) rfl ?_;obtain⟨aS,aT⟩:=bM.two (HP.below (Ec _ f).drew) b4.o a4.o av.o ax.o;exact⟨B,C,rfl,aS,(bb.trans (ah.of_below (Ec _ f).drew)).trans aT⟩
 by_cases h7:mk=7
 .subst h7;have O:Hid (decideC d (s,t) (b1,b2) n true=A):=by unfold Hid;rw[a8.o,b9.o];rw[if_neg (by omega),if_neg (by omega),if_pos (by omega)]
  have hP:=HP.below (Ec _ f).drew;have i:=vv y f.drew c d hP.cat (s,t) (b1,b2) n a6 b5 al;dsimp only[recK]at i;rw[O.o]at i;have ao:=Z i;clear i hP;go_wp2_with fail;refine wT (λW:Ef=>∀q,w.heap.size<=q->q<f.heap.size->W.heap[q]?=f.heap[q]?) 999 ?_;refine Qd [0,2,3,4,6,8,9,10,1,7] a9.o b8 ?_;refine Dp 5 λK j=>?_;go_simp;go_at_call 40;with_reducible refine Eb ao.o ?_
  rintro e o⟨rfl,B,V,m⟩;have a0:=ac y B f.drew o (λk r=>a5 k (.inl r)) a9.o (Ed _) m;have ad:=bM.one (HP.below (Ec _ f).drew) m;have i:=Bc u o p d ad (s,t) (b1,b2) n a6 b5 al;dsimp only[recK]at i;rw[O.o]at i;have au:=Z i;have b4:=Z V;have a4:=Z m;have T:=Z a0;clear i V m ad a0;refine j _ _ (λ_=>T.o) ?_;clear j K;go_simp;refine Dp 11 λK j=>?_;go_simp;go_at_call 44;with_reducible refine Eb au.o ?_
  rintro e N⟨rfl,C,hM,x⟩;have a3:=ac u C o N (λk r=>a5 k (.inr r)) T.o (by have l:=a4.size;exact l) x;have M:=Z a3;have av:=Z hM;have ax:=Z x;clear hM x a3;refine j _ _ (λ_=>M.o) ?_;clear j K;go_simp;refine Qc [12,13] M.o ?_;refine dN ?_;go_wp2_with fail;refine Eh (v:=.tuple #[J U A.2,J U A.2]) (by simp[results,Tryz.results13,go_sem]) rfl ?_;obtain⟨aS,aT⟩:=bM.two (HP.below (Ec _ f).drew) b4.o a4.o av.o ax.o;exact⟨B,C,rfl,aS,(bb.trans (ah.of_below (Ec _ f).drew)).trans aT⟩
 have c5:((mk:Int)==5)=false:=by simp;omega
 have c6:((mk:Int)==6)=false:=by simp;omega
 have c7:((mk:Int)==7)=false:=by simp;omega
 have O:Hid (putC d (s,t) n R=A):=by unfold Hid;rw[a8.o,b9.o];rw[if_neg (by omega),if_neg (by omega),if_neg (by omega)]
 obtain⟨R1,R2,R3⟩:=R;have a7:=cp.o;dsimp only[lc]at a7;have cq:=Z a7;have cs:Hid (bo R3):=cu.o;have d8:Hid (∀W:Ef,(∀q,w.heap.size<=q->q<f.heap.size->W.heap[q]?=f.heap[q]?)->(W.cell? ⟨w.heap.size+1,0,Y⟩=X (J U k)/\W.cell? ⟨w.heap.size+1,1,Y⟩=X (J U a)/\W.cell? ⟨w.heap.size+1,2,Y⟩=X (J U b)/\W.cell? ⟨w.heap.size+1,3,Y⟩=X (J U v))/\W.cell? ⟨w.heap.size+1,4,Y⟩=X (J U D)/\W.cell? ⟨w.heap.size+1,5,Y⟩=X (J U E)/\W.cell? ⟨w.heap.size+1,6,Y⟩=X (J U G)/\W.cell? ⟨w.heap.size+1,7,Y⟩=X (J U H)/\W.cell? ⟨w.heap.size+1,8,Y⟩=X (J U I)/\W.cell? ⟨w.heap.size+1,9,Y⟩=X (J U L)):=λW hW=>by have l:=(hW (w.heap.size+1) (by omega) c3.o.2.2.2.2).trans ((d4.o.block _ (ae c1.o)).trans c1.o);exact⟨⟨(aa l 0).trans rfl,(aa l 1).trans rfl,(aa l 2).trans rfl,(aa l 3).trans rfl⟩,(aa l 4).trans rfl,(aa l 5).trans rfl,(aa l 6).trans rfl,(aa l 7).trans rfl,(aa l 8).trans rfl,(aa l 9).trans rfl⟩
 clear a7 cp cu;go_upto_region 11 with fail;refine wT (λW:Ef=>∀q,w.heap.size<=q->q<f.heap.size->W.heap[q]?=f.heap[q]?) 999 ?_;refine Qd [0,5,1,6] a9.o b8 ?_;refine Qd [2,7] a9.o d8 ?_;refine Dp 3 λK j=>?_;go_simp;go_at_call 45;with_reducible refine Eb (cq.o f.drew) ?_
 rintro e o⟨va,vc,rfl,cQ,bt⟩;have a0:∀q,w.heap.size<=q->q<f.heap.size->o.heap[q]?=f.heap[q]?:=λq _ b0=>bt.block q b0;have c8:=(HP.below (Ec _ f).drew).below bt;have i:=tQ y o c d c8.cat (s,t) n ⟨R1,R2,R3⟩ (nq va R3.length vc) a6 al f.heap.size o.heap.size cQ (Ed _) (λq l _ hF=>by have h2:=a5.o q (.inl hF);have h3:=c3.o;omega) cs.o;rw[O.o]at i;dsimp only[lc]at i;have ao:=Z i;have T:=Z a0;have cm:=Z c8;have c2:Hid (Bw f o):=(Ec _ f).drew.trans bt;clear i a0 c8 cQ bt;refine j _ _ (λ_=>T.o) ?_;clear j K;go_simp;refine Dp 4 λK j=>?_;go_simp;go_at_call 29;with_reducible refine Eb ao.o ?_
 rintro e N⟨rfl,B,V,m⟩;have a3:=ac y B o N (λk r=>a5 k (.inl r)) T.o c2.size m;have av:Hid (cI u N p d):=bM.one cm.o m;have d5:=Z V;have a4:=Z m;have M:=Z a3;have cv:Hid (f.heap.size<=N.heap.size):=Nat.le_trans c2.size m.size;clear V m a3;refine j _ _ (λ_=>M.o) ?_;clear j K;go_simp;refine Dp 8 λK j=>?_;go_simp;go_at_call 45;with_reducible refine Eb (cq.o N) ?_
 rintro e w9⟨ds,dx,rfl,d0,cd⟩;have cz:∀q,w.heap.size<=q->q<f.heap.size->w9.heap[q]?=f.heap[q]?:=λq hq b0=>(cd.block q (Nat.lt_of_lt_of_le b0 cv.o)).trans (M q hq b0);have i:=Cj u N w9 p d av.o cd (s,t) n R1 R2 R3 (nq ds R3.length dx) d0 cs.o a6 al;rw[O.o]at i;dsimp only[lc]at i;have au:=Z i;have dd:=Z cz;clear i cz d0 cd;refine j _ _ (λ_=>dd.o) ?_;clear j K;go_simp;refine Dp 9 λK j=>?_;go_simp;go_at_call 46;with_reducible refine Eb au.o ?_
 rintro e dy⟨rfl,C,hM,x⟩;have cy:=ac u C N dy (λk r=>a5 k (.inr r)) M.o cv.o x;have cn:=Z cy;have d9:=Z hM;have ax:=Z x;clear hM x cy;refine j _ _ (λ_=>cn.o) ?_;clear j K;go_simp;refine Qc [10,11] cn.o ?_;refine dN ?_;go_wp2_with fail;refine Eh (v:=.tuple #[J U A.2,J U A.2]) (by simp[results,Tryz.results13,go_sem]) rfl ?_;obtain⟨aS,aT⟩:=bM.two cm.o d5.o a4.o d9.o ax.o;exact⟨B,C,rfl,aS,(bb.trans (ah.of_below c2.o)).trans aT⟩
def actL(x:dg):List Value:=[J U x.k,J U x.a,J U x.b,J U x.v,J U x.q.a,J U x.q.b,J U x.q.c,J U x.q.d,J U x.q.e,J U x.q.f]
structure ii(w:Ef)(v:Value)(l:List dg):Prop where
 at_:aJ 0 w.heap.size w v l.length (l.flatMap actL)
 ok:∀x∈l,s7 x
 len:l.length<=maxLen
theorem ii.keep{w w':Ef}{v:Value}{l:List dg}(h:ii w v l)(a:Bw w w'):ii w' v l:=
 ⟨(h.at_.kept (λq _ b=>a.block q b)).mono (Ed _) a.size,h.ok,h.len⟩
theorem yw(l:List dg)(k:Nat)(h:k<l.length):runC (l.take (k+1)) cat0=(actC (runC (l.take k) cat0) l[k]).1:=by
 rw[List.take_succ_eq_append_getElem h,yx];rfl
theorem AB(v:Value)(l:List dg)(w:Ef)(h:ii w v l):
 Ei prog 11 #[v] w λe w'=>∃(c p:Nat)(f g:Nat->Prop),e=h1 (.tuple #[.agg #[fn (X ⟨c,0,Y⟩),fn (X ⟨p,0,Y⟩)],qn true])/\bM f g w' c p (playC l)/\Bw w w'/\∀k,f k∨g k->w.heap.size<=k:=by
 have j:=h.at_;obtain⟨a,cc,rfl,_⟩:=id j;obtain⟨w1,M⟩:=Qe (w.alloc (ih #[fn Y,fn Y] 27));have z1:w1.heap.size=w.heap.size+1:=by rw[<- M];simp
 have b2:w1.heap[w.heap.size]?=X (ih #[fn Y,fn Y] 27 (0,0)):=by rw[<- M];exact Ea w _
 obtain⟨r,O⟩:=Qe (w1.alloc (ih #[E7 Y,E7 Y,E7 Y,fn Y] 117));have z2:r.heap.size=w.heap.size+2:=by rw[<- O];simp[z1]
 obtain⟨t,R⟩:=Qe (r.alloc (ih #[nq Y 0 0,nq Y 0 0,nq Y 0 0] 34));have z3:t.heap.size=w.heap.size+3:=by rw[<- R];simp[z2]
 obtain⟨u,T⟩:=Qe (t.alloc (ih #[fn (X ⟨w.heap.size+1,0,Y⟩),fn (X ⟨w.heap.size+2,0,Y⟩)] 27));have z4:u.heap.size=w.heap.size+4:=by rw[<- T];simp[z3]
 have b0:bq (λk=>k=w.heap.size+1) r (w.heap.size+1) cat0:=by have:=vn w1;rw[z1,O]at this;exact this
 have b1:cI (λk=>k=w.heap.size+2) t (w.heap.size+2) cat0:=by have:=AK r;rw[z2,R]at this;exact this
 have a0:Bw r t:=by rw[<- R];exact(Ec _ r).alloc (Ed _) _
 have H:Bw t u:=by rw[<- T];exact(Ec _ t).alloc (Ed _) _
 have ad:Bw w1 r:=by rw[<- O];exact(Ec _ w1).alloc (Ed _) _
 have aT:Bw w w1:=by rw[<- M];exact(Ec _ w).alloc (Ed _) _
 have aS:Hid (bM (λk=>k=w.heap.size+1) (λk=>k=w.heap.size+2) u (w.heap.size+1) (w.heap.size+2) cat0):=⟨(b0.below a0).below H,b1.below H,λk B h2=>by omega⟩;have b4:u.heap[w.heap.size]?=X (ih #[fn Y,fn Y] 27 (0,0)):=((H.block _ (by omega)).trans ((a0.block _ (by omega)).trans (ad.block _ (by omega)))).trans b2;have b6:u.heap[w.heap.size+3]?=X (ih #[fn (X ⟨w.heap.size+1,0,Y⟩),fn (X ⟨w.heap.size+2,0,Y⟩)] 27 (0,0)):=by rw[<- z3,<- T];exact Ea t _
 have bs:Hid (Bw w u):=((aT.trans (ad.mono (by omega))).trans (a0.mono (by omega))).trans (H.mono (by omega));have bB:=Z b4;have ac:=Z b6;have au:=Z (yR w1);have av:=Z (Cp r);rw[z1,O]at au;rw[z2,R]at av;have bY:=Z M;have c0:=Z T;have c1:=Z z3;have cb:=Z z4;have V:=Z h;clear M O R T z1 z2 z3 z4 b2 b4 b6 b0 b1 aT ad a0 H h j;go_enter func11,ntmps11;go_upto_region 1 with fail;rw[bY.o]
 go_upto_region 2 with(first
  |(go_at_call 32;((with_reducible refine Eb au.o ?_);rintro e wx⟨rfl,D⟩;have D:=D.symm;subst D))
  |(go_at_call 33;((with_reducible refine Eb av.o ?_);rintro e wx⟨rfl,D⟩;have D:=D.symm;subst D)))
 rw[c1.o,c0.o];have t0:u.cell? ⟨w.heap.size+3,0,Y⟩=X (fn (X ⟨w.heap.size+1,0,Y⟩)):=(aa ac.o 0).trans rfl;go_upto_region 5 with fail;clear t0;obtain⟨c,hc⟩:=Qe (w.heap.size+1);obtain⟨p,hp⟩:=Qe (w.heap.size+2);obtain⟨N,hN⟩:=Qe l.length;rw[hc,hp]at aS ac;have HN:=Z hN;have a1:N<=maxLen:=by rw[<- hN];exact V.o.len
 have bw:=Z a1;rw[hc,hp,hN];have bt:Hid (w.heap.size<=c/\w.heap.size<=p/\c<w.heap.size+3/\p<w.heap.size+3/\c≠w.heap.size/\p≠w.heap.size):=⟨by omega,by omega,by omega,by omega,by omega,by omega⟩;clear hc hp hN a1;go_loopw [5] (λi wr=>∃(k:Nat)(f g:Nat->Prop),k<=N/\k<=40/\i=J U k/\Hid (bM f g wr c p (runC (l.take k) cat0))/\Hid (∀q,f q∨g q->w.heap.size<=q/\q≠w.heap.size/\q≠w.heap.size+3)/\Hid (wr.heap[w.heap.size]?=X (ih #[fn Y,fn Y] 27 (0,0)))/\Hid (wr.heap[w.heap.size+3]?=X (ih #[fn (X ⟨c,0,Y⟩),fn (X ⟨p,0,Y⟩)] 27 (0,0)))/\Hid (Bw w wr)) (λi _=>N-(intOf i).toNat)
 exact⟨0,_,_,Er _,Er _,rfl,aS.o,λq m=>by have:=bt.o;rcases m with h|h<;>omega,bB.o,ac.o,bs.o⟩;obtain⟨k,f,g,hk,cl,rfl,HP,y,E,F,G⟩:=hrel;have a1:=bw.o;unfold maxLen at a1;by_cases hlt:k<N/\k<40;rotate_left
 .have r0:wr.cell? ⟨w.heap.size,0,Y⟩=X (fn Y):=(aa E.o 0).trans rfl;have r1:wr.cell? ⟨w.heap.size,1,Y⟩=X (fn Y):=(aa E.o 1).trans rfl;have f0:=ab E.o 0;have f1:=ab E.o 1;have t0:wr.cell? ⟨w.heap.size+3,0,Y⟩=X (fn (X ⟨c,0,Y⟩)):=(aa F.o 0).trans rfl;have t1:wr.cell? ⟨w.heap.size+3,1,Y⟩=X (fn (X ⟨p,0,Y⟩)):=(aa F.o 1).trans rfl;have bv:Hid (runC (l.take k) cat0=playC l):=by
   unfold Hid playC;by_cases h4:k=40
   .rw[h4]
   have cm:k=N:=by omega
   rw[En (by rw[HN.o];omega),En (by rw[HN.o];omega)]
  have aC:Hid (∃f g:Nat->Prop,bM f g ((wr.setCell ⟨w.heap.size,0,Y⟩ (fn (X ⟨c,0,Y⟩))).setCell ⟨w.heap.size,1,Y⟩ (fn (X ⟨p,0,Y⟩))) c p (playC l)/\Bw w ((wr.setCell ⟨w.heap.size,0,Y⟩ (fn (X ⟨c,0,Y⟩))).setCell ⟨w.heap.size,1,Y⟩ (fn (X ⟨p,0,Y⟩)))/\∀k,f k∨g k->w.heap.size<=k):=by
   have C:=HP.o;rw[bv.o]at C;have ho:∀q,q≠w.heap.size->((wr.setCell ⟨w.heap.size,0,Y⟩ (fn (X ⟨c,0,Y⟩))).setCell ⟨w.heap.size,1,Y⟩ (fn (X ⟨p,0,Y⟩))).heap[q]?=wr.heap[q]?:=λq m=>by rw[Ep _ _ _ _ m,Ep _ _ _ _ m]
   exact⟨f,g,⟨C.cat.step (λq m=>ho q (y.o q (.inl m)).2.1) (by simp),C.mod.step (λq m=>ho q (y.o q (.inr m)).2.1) (by simp),C.dis⟩,(G.o.setCell (p:=⟨w.heap.size,0,Y⟩) (by simp) _).setCell (p:=⟨w.heap.size,1,Y⟩) (by simp) _,λq m=>(y.o q m).1⟩
  by_cases a4:k<N
  .have bb:¬k<40:=λh=>hlt ⟨a4,h⟩;have i1:(k:Int)<(N:Int):=by omega
   have i2:¬(k:Int)<40:=by omega
   go_wp2_with fail;refine Eh (v:=.tuple #[.agg #[fn (X ⟨c,0,Y⟩),fn (X ⟨p,0,Y⟩)],qn true]) (by rw[bx rfl];go_simp) rfl ?_;obtain⟨f,g,n,I,e3⟩:=aC.o;exact⟨c,p,rfl,f,g,n,I,e3⟩
  have i1:¬(k:Int)<(N:Int):=by omega
  go_wp2_with fail;refine Eh (v:=.tuple #[.agg #[fn (X ⟨c,0,Y⟩),fn (X ⟨p,0,Y⟩)],qn true]) (by rw[bx rfl];go_simp) rfl ?_;obtain⟨f,g,n,I,e3⟩:=aC.o;exact⟨c,p,rfl,f,g,n,I,e3⟩
 obtain⟨a4,bb⟩:=hlt;have a5:k<l.length:=by rw[HN.o];exact a4
 have a6:=yw l k a5;have c5:=(V.keep G.o).at_;have ao:=V.ok _ (Em a5);obtain⟨x,hx⟩:=Qe (l[k]);obtain⟨a2,c2,hv,b9⟩:=c5;have al:l.flatMap actL≠[]:=by intro e;have B:=List.flatMap_eq_nil_iff.1 e _ (Em a5);cases B
 obtain⟨b,d,ha,_,c6,b8⟩:=b9 al;subst ha;injection hv with hv1 hv2 bd
 subst hv1;have j:∀i,i<10->wr.cell? ⟨b,d+(k*10+i),Y⟩=(actL x)[i]?:=λi hi=>by have n:=cW actL 10 (λ_=>rfl) l k a5 i hi;rw[hx]at n;have I:i<(actL x).length:=hi;rw[List.getElem?_eq_getElem I]at n ⊢;exact b8 _ _ n
 rw[hx]at a6 ao;obtain⟨xk,xa,xb,xv,⟨qa,qb,qc,qd,qe,qf⟩⟩:=x;have y0:wr.cell? ⟨b,d+k*10,Y⟩=X (J U xk):=(j 0 (by omega)).trans rfl;have y1:wr.cell? ⟨b,d+k*10+1,Y⟩=X (J U xa):=(by rw[Eg];exact(j 1 (by omega)).trans rfl);have y2:wr.cell? ⟨b,d+k*10+2,Y⟩=X (J U xb):=(by rw[Eg];exact(j 2 (by omega)).trans rfl);have y3:wr.cell? ⟨b,d+k*10+3,Y⟩=X (J U xv):=(by rw[Eg];exact(j 3 (by omega)).trans rfl);have y4:wr.cell? ⟨b,d+k*10+4,Y⟩=X (J U qa):=(by rw[Eg];exact(j 4 (by omega)).trans rfl);have y5:wr.cell? ⟨b,d+k*10+5,Y⟩=X (J U qb):=(by rw[Eg];exact(j 5 (by omega)).trans rfl);have y6:wr.cell? ⟨b,d+k*10+6,Y⟩=X (J U qc):=(by rw[Eg];exact(j 6 (by omega)).trans rfl);have y7:wr.cell? ⟨b,d+k*10+7,Y⟩=X (J U qd):=(by rw[Eg];exact(j 7 (by omega)).trans rfl);have y8:wr.cell? ⟨b,d+k*10+8,Y⟩=X (J U qe):=(by rw[Eg];exact(j 8 (by omega)).trans rfl);have y9:wr.cell? ⟨b,d+k*10+9,Y⟩=X (J U qf):=(by rw[Eg];exact(j 9 (by omega)).trans rfl);have HY:Hid (∀W:Ef,(W.heap[b]?=wr.heap[b]? /\W.heap[w.heap.size+3]?=wr.heap[w.heap.size+3]?)->(W.cell? ⟨w.heap.size+3,0,Y⟩=X (fn (X ⟨c,0,Y⟩))/\W.cell? ⟨w.heap.size+3,1,Y⟩=X (fn (X ⟨p,0,Y⟩)))/\(W.cell? ⟨b,d+k*10,Y⟩=X (J U xk)/\W.cell? ⟨b,d+k*10+1,Y⟩=X (J U xa)/\W.cell? ⟨b,d+k*10+2,Y⟩=X (J U xb)/\W.cell? ⟨b,d+k*10+3,Y⟩=X (J U xv))/\W.cell? ⟨b,d+k*10+4,Y⟩=X (J U qa)/\W.cell? ⟨b,d+k*10+5,Y⟩=X (J U qb)/\W.cell? ⟨b,d+k*10+6,Y⟩=X (J U qc)/\W.cell? ⟨b,d+k*10+7,Y⟩=X (J U qd)/\W.cell? ⟨b,d+k*10+8,Y⟩=X (J U qe)/\W.cell? ⟨b,d+k*10+9,Y⟩=X (J U qf)):=λW hW=>by have o:∀i,W.cell? ⟨b,i,Y⟩=wr.cell? ⟨b,i,Y⟩:=λi=>Ee (a:=⟨b,i,Y⟩) hW.1;have ht:=hW.2.trans F.o;exact⟨⟨(aa ht 0).trans rfl,(aa ht 1).trans rfl⟩,⟨(o _).trans y0,(o _).trans y1,(o _).trans y2,(o _).trans y3⟩,(o _).trans y4,(o _).trans y5,(o _).trans y6,(o _).trans y7,(o _).trans y8,(o _).trans y9⟩
 have ay:=Z (CO f g wr.drew c p _ (HP.below (Ec _ wr).drew) xk xa xb xv qa qb qc qd qe qf ao);obtain⟨A,hA⟩:=Qe (actC (runC (l.take k) cat0) ⟨xk,xa,xb,xv,⟨qa,qb,qc,qd,qe,qf⟩⟩);rw[hA]at ay a6;have bO:=Z a6;have b7:b<w.heap.size:=by
  obtain⟨a3,c3,bd,c7⟩:=V.at_;obtain⟨b3,cn,c4,_,ch,_⟩:=c7 al;subst c4;injection bd with n _ _
  injection n with n
  injection n with n _ _
  omega
 have ax:=Z b7;clear j b8 b9 al c6 y0 y1 y2 y3 y4 y5 y6 y7 y8 y9 a6 hx hA b7 ao;have c9:wr.drew.heap[b]?=wr.heap[b]? /\wr.drew.heap[w.heap.size+3]?=wr.heap[w.heap.size+3]?:=⟨rfl,rfl⟩;have i1:(k:Int)<(N:Int):=by omega
 have i2:(k:Int)<40:=by omega
 go_upto_region 7 with fail;refine wT (λW:Ef=>W.heap[b]?=wr.heap[b]? /\W.heap[w.heap.size+3]?=wr.heap[w.heap.size+3]?) 999 ?_;refine Qd [0,1,2,3,4] c9 HY ?_;refine Dp 5 λK hK=>?_;go_simp;go_at_call 13;with_reducible refine Eb ay.o ?_
 rintro e w5⟨bk,bl,rfl,C,a7⟩;have hz:=G.size;have bc:=ae F.o
 have b5:w5.heap[b]?=wr.heap[b]? /\w5.heap[w.heap.size+3]?=wr.heap[w.heap.size+3]?:=
  ⟨a7.block b (by show b<wr.heap.size;have:=ax.o;omega) (λL=>by have:=y.o b L;have:=ax.o;omega),a7.block _ (by show w.heap.size+3<wr.heap.size;omega) (λL=>by have:=y.o _ L;omega)⟩
 have a8:=Z b5;have bA:=Z C;have a9:=Z a7;clear C a7 b5 hz bc;refine hK _ _ (λ_=>a8.o) ?_;clear hK K;go_simp;refine Qc [6,7,8,9,10] a8.o ?_;refine dN ?_;go_wp2_with fail;go_roundw
 case rel=>
  have hz:=G.size;have bc:=ae F.o;have c8:=ae E.o;refine⟨k+1,a4,bb,by go_num,bk,bl,?_,λq m=>?_,?_,a8.2.trans F.o,?_⟩
  .unfold Hid;rw[bO.o];exact bA.o
  .rcases a9.new q m with B|B
   .exact y q B
   have h2:wr.heap.size<=q:=B;omega
  .exact(a9.o.block w.heap.size c8 (λL=>by have:=y.o _ L;omega)).trans E.o
  exact G.trans (Below.trans (Ec _ wr).drew (a9.below (λq m=>(y q m).1) hz).1)
 simp[intOf];omega
end
section
open Go.RowKit Go.Maps Go.Shelf
section
variable {P:Program} {md:Region.Mode} {ops:Array Oper} {Q:Exit->Act->Ef->Prop} {S:Ef->Prop} {z:Nat}
theorem ec{i j:Nat}{o g:Oper}{n:Nat}{e:Array Bool}{a:Act}{w:Ef}(q:ops[i]?=X o)(r:ops[j]?=X g)
 (h:Region.ready md ops e=[i,j])(m:Region.wanted o (yielded ops a.tmps)=true)(p:Region.wanted g (yielded ops a.tmps)=true)
 (c:∀K:Act->Ef->Prop,(∀b w',(i≠z->S w')->anyT P md ops Q S z n (e.setIfInBounds i true) b w'->K b w')->o.wp P a w K Q)
 (d:∀K:Act->Ef->Prop,(∀b w',(j≠z->S w')->anyT P md ops Q S z n (e.setIfInBounds j true) b w'->K b w')->g.wp P a w K Q):anyT P md ops Q S z (n+1) e a w:=by
 refine⟨λl=>absurd l (by rw[h];simp),λk f=>?_⟩;rw[h]at f;simp only[List.mem_cons,List.not_mem_nil,or_false]at f;rcases f with rfl|rfl
 .unfold wpOp;rw[q];simp only[m,if_true];exact .inl (c _ λb w' c d=>⟨c,d⟩)
 unfold wpOp;rw[r];simp only[p,if_true];exact .inl (d _ λb w' c d=>⟨c,d⟩)
end
structure cH(F:Nat->Prop)(W:Ef)(v:Value)(l:List RK):Prop where
 ex:∃a c,v=.slice a l.length c/\(l≠[]->∃b off,a=some ⟨b,off,none⟩/\b<W.heap.size/\¬F b/\∀j x,(l.flatMap rkCells)[j]?=some x->W.cell? ⟨b,off+j,none⟩=some x)
theorem Cf{l:List RK}(h:l.flatMap rkCells≠[]):l≠[]:=λe=>h (by rw[e];rfl)
theorem cH.at{F:Nat->Prop}{W:Ef}{v:Value}{l:List RK}(h:cH F W v l):ey 0 W.heap.size W v l:=by
 obtain⟨a,c,i,h⟩:=h;refine⟨a,c,i,λg=>?_⟩;obtain⟨b,j,d,e,_,f⟩:=h (Cf g);exact⟨b,j,d,Er _,e,f⟩
theorem cH.step{F f:Nat->Prop}{W g:Ef}{v:Value}{l:List RK}(h:cH F W v l)(e:ah F W f g):cH f g v l:=by
 obtain⟨a,c,o,h⟩:=h;refine⟨a,c,o,λn=>?_⟩;obtain⟨b,q,k,d,i,m⟩:=h n;refine⟨b,q,k,Nat.lt_of_lt_of_le d e.size,e.not d i,λj x p=>?_⟩;rw[Ee (w:=W) (e.block b d i)];exact m j x p
theorem cH.of_owns{F:Nat->Prop}{W:Ef}{v:Value}{l:List RK}{B:Nat}(h:W.ownsRow B 36 2 v l.length (l.flatMap rkCells))(f:∀g,v.ownBlock=X g->¬F g):cH F W v l:=by
 obtain⟨a,c,rfl⟩:=aQ h;refine⟨a,c,rfl,λe=>?_⟩;obtain⟨g,k,i,_⟩:=h.form (List.length_pos_iff.2 e);cases i;refine⟨g,0,rfl,(h.lt g rfl).2,f g rfl,λj x b=>?_⟩;have d:=h.cellAt j (by have:=(List.getElem?_eq_some_iff.1 b).1;rw[pG]at this;exact this);rw[Nat.zero_add,d];exact b
theorem cH.new{F:Nat->Prop}{W:Ef}{q:Nat}{l:List RK}{t:TypeId}(n:Nat)(hn:n=l.length)(h:W.heap[q]?=X (.cells (l.flatMap rkCells).toArray t (0,0)))(a:¬F q):cH F W (nq (X ⟨q,0,Y⟩) n n) l:=by
 subst hn;refine⟨_,_,rfl,λ_=>⟨q,0,rfl,ae h,a,λj x b=>?_⟩⟩;rw[Nat.zero_add,aa h,<- b];simp
structure SnS(B:Nat)(w w1:Ef)(F:Nat->Prop)(W:Ef)(d:ar):Prop where
 cat:bq F W B d
 fl:∀k,F k->B<=k/\¬(B+1<=k/\k<=B+5)
 box:∀q,B+1<=q->q<=B+5->W.heap[q]?=w1.heap[q]?
 b:Ej B w W
 sz:B+6<=W.heap.size
theorem SnS.step{B:Nat}{w w1 W f:Ef}{F e:Nat->Prop}{d i:ar}(h:SnS B w w1 F W d)(l:bq e f B i)(c:ah F W e f):SnS B w w1 e f i:=by
 have n:=h.sz;refine⟨l,λk g=>?_,λq a j=>?_,h.b.trans (c.below (λk g=>(h.fl k g).1) (by omega)).1,Nat.le_trans h.sz c.size⟩
 .rcases c.new k g with a|a
  .exact h.fl k a
  omega
 exact(c.block q (by omega) (λm=>(h.fl q m).2 ⟨a,j⟩)).trans (h.box q a j)
theorem SnS.below{B:Nat}{w w1 W a:Ef}{F:Nat->Prop}{d:ar}(h:SnS B w w1 F W d)(b:Ej W.heap.size W a):SnS B w w1 F a d:=h.step (h.cat.below b) (ah.of_below b)
theorem lK(t:Bs)(h:t.length<=1000):bo (eh t).fields:=by
 refine⟨by simp[eh],λf a=>?_⟩;simp only[eh,List.mem_cons,List.not_mem_nil,or_false]at a;rcases a with rfl|rfl
 .simp[fieldBytes,aR]
 simp[fieldBytes,aR];omega
def vh:Nat->ar
 |0=>cat0
 |1=>Cc
 |2=>Cb
 |_=>wm
def keyAt:Nat->RK
 |0=>(1,1)
 |1=>(1,2)
 |_=>(2,1)
theorem Ci(k:Nat)(d:k<3):putC (vh k) (keyAt k) 1 (eh iG)=(vh (k+1),0):=by
 obtain⟨a,b,c,_⟩:=vg;have:k=0∨k=1∨k=2:=by omega
 rcases this with rfl|rfl|rfl
 .exact Ek rfl a
 .exact Ek rfl b
 exact Ek rfl c
theorem bK{k:RK}(h:0<=k.1/\k.1<=100/\0<=k.2/\k.2<=100):rkOk k:=by
 unfold rkOk i64B;omega
theorem Ct(k:Nat):rkOk (keyAt k):=by
 refine bK ?_;unfold keyAt;split<;>decide
theorem CK:putC wm (2,2) 1 (eh oy)=(lg,0):=Ek rfl vg.2.2.2
theorem CR:decideC lg (1,1) (2,1) 1 false=(jt,0):=Ek rfl fV.1
theorem CP:decideC jt (2,2) (2,1) 1 true=(yv,0):=Ek rfl dH.1
theorem CQ:dropC yv (1,1) 2=(nm,0):=Ek rfl dH.2.1
theorem wl(w:Ef):Ei prog 10 #[] w λe w'=>e=h1 (qn true)/\Ej w.heap.size w w':=by
 obtain⟨B,hB⟩:=Qe w.heap.size;have hC:=yR w;have hL:=vn w;obtain⟨O,f0⟩:=Qe (w.alloc (ih #[E7 Y,E7 Y,E7 Y,fn Y] 117));obtain⟨R,cb⟩:=Qe (O.alloc (ih #[J U 1,J U 1] 36));obtain⟨T,cc⟩:=Qe (R.alloc (ih #[J U 1,J U 2] 36));obtain⟨u4,cd⟩:=Qe (T.alloc (ih #[J U 2,J U 1] 36));obtain⟨p,cg⟩:=Qe (u4.alloc (ih #[J U 2,J U 2] 36));obtain⟨w1,ch⟩:=Qe (p.alloc (ih #[J U 1,J U 1,J U 1,J U 2,J U 2,J U 1] 36));have z1:O.heap.size=B+1:=by rw[<- f0,<- hB];simp
 have z2:R.heap.size=B+2:=by rw[<- cb];simp[z1]
 have z3:T.heap.size=B+3:=by rw[<- cc];simp[z2]
 have z4:u4.heap.size=B+4:=by rw[<- cd];simp[z3]
 have z5:p.heap.size=B+5:=by rw[<- cg];simp[z4]
 have z6:w1.heap.size=B+6:=by rw[<- ch];simp[z5]
 rw[f0,hB]at hC hL;have n6:Ej B w O:=by rw[<- f0,<- hB];exact(Ec _ w).alloc (Ed _) _
 have o:Ej O.heap.size O R:=by rw[<- cb];exact(Ec _ O).alloc (Ed _) _
 have n7:Ej R.heap.size R T:=by rw[<- cc];exact(Ec _ R).alloc (Ed _) _
 have n8:Ej T.heap.size T u4:=by rw[<- cd];exact(Ec _ T).alloc (Ed _) _
 have hA:Ej u4.heap.size u4 p:=by rw[<- cg];exact(Ec _ u4).alloc (Ed _) _
 have a0:Ej p.heap.size p w1:=by rw[<- ch];exact(Ec _ p).alloc (Ed _) _
 have hz:Ej T.heap.size T w1:=(n8.trans (hA.mono (by omega))).trans (a0.mono (by omega));have hy:Ej R.heap.size R w1:=n7.trans (hz.mono (by omega));have hx:Ej O.heap.size O w1:=o.trans (hy.mono (by omega));have d7:w1.heap[B+1]?=X (ih #[J U 1,J U 1] 36 (0,0)):=(hy.block _ (by omega)).trans (by rw[<- cb,<- z1];exact Ea O _);have d8:w1.heap[B+2]?=X (ih #[J U 1,J U 2] 36 (0,0)):=(hz.block _ (by omega)).trans (by rw[<- cc,<- z2];exact Ea R _);have d9:w1.heap[B+3]?=X (ih #[J U 2,J U 1] 36 (0,0)):=((a0.block _ (by omega)).trans (hA.block _ (by omega))).trans (by rw[<- cd,<- z3];exact Ea T _);have oj:w1.heap[B+4]?=X (ih #[J U 2,J U 2] 36 (0,0)):=(a0.block _ (by omega)).trans (by rw[<- cg,<- z4];exact Ea u4 _);have hD:w1.heap[B+5]?=X (ih #[J U 1,J U 1,J U 1,J U 2,J U 2,J U 1] 36 (0,0)):=by rw[<- ch,<- z5];exact Ea p _
 have y9:Hid (SnS B w w1 (λk=>k=B) w1 cat0):=⟨(hL.below hx),λk hk=>by omega,λ_ _ _=>rfl,n6.trans (hx.mono (by omega)),by omega⟩;have u:Hid (∀W:Ef,(∀q,B+1<=q->q<=B+5->W.heap[q]?=w1.heap[q]?)->(W.cell? ⟨B+1,0,Y⟩=X (J U 1)/\W.cell? ⟨B+1,1,Y⟩=X (J U 1))/\(W.cell? ⟨B+2,0,Y⟩=X (J U 1)/\W.cell? ⟨B+2,1,Y⟩=X (J U 2))/\(W.cell? ⟨B+3,0,Y⟩=X (J U 2)/\W.cell? ⟨B+3,1,Y⟩=X (J U 1))/\(W.cell? ⟨B+4,0,Y⟩=X (J U 2)/\W.cell? ⟨B+4,1,Y⟩=X (J U 2))/\W.cell? ⟨B+5,0,Y⟩=X (J U 1)/\W.cell? ⟨B+5,1,Y⟩=X (J U 1)/\W.cell? ⟨B+5,2,Y⟩=X (J U 1)/\W.cell? ⟨B+5,3,Y⟩=X (J U 2)/\W.cell? ⟨B+5,4,Y⟩=X (J U 2)/\W.cell? ⟨B+5,5,Y⟩=X (J U 1)):=λW h=>by have g1:=(h (B+1) (by omega) (by omega)).trans d7;have g2:=(h (B+2) (by omega) (by omega)).trans d8;have g3:=(h (B+3) (by omega) (by omega)).trans d9;have g4:=(h (B+4) (by omega) (by omega)).trans oj;have g5:=(h (B+5) (by omega) (by omega)).trans hD;exact⟨⟨(aa g1 0).trans rfl,(aa g1 1).trans rfl⟩,⟨(aa g2 0).trans rfl,(aa g2 1).trans rfl⟩,⟨(aa g3 0).trans rfl,(aa g3 1).trans rfl⟩,⟨(aa g4 0).trans rfl,(aa g4 1).trans rfl⟩,(aa g5 0).trans rfl,(aa g5 1).trans rfl,(aa g5 2).trans rfl,(aa g5 3).trans rfl,(aa g5 4).trans rfl,(aa g5 5).trans rfl⟩
 have m1:p.cell? ⟨B+1,0,Y⟩=X (J U 1):=(Ee (a:=⟨B+1,0,Y⟩) (a0.block (B+1) (by omega))).symm.trans ((aa d7 0).trans rfl);have m2:p.cell? ⟨B+1,1,Y⟩=X (J U 1):=(Ee (a:=⟨B+1,1,Y⟩) (a0.block (B+1) (by omega))).symm.trans ((aa d7 1).trans rfl);have m3:p.cell? ⟨B+2,0,Y⟩=X (J U 1):=(Ee (a:=⟨B+2,0,Y⟩) (a0.block (B+2) (by omega))).symm.trans ((aa d8 0).trans rfl);have m4:p.cell? ⟨B+2,1,Y⟩=X (J U 2):=(Ee (a:=⟨B+2,1,Y⟩) (a0.block (B+2) (by omega))).symm.trans ((aa d8 1).trans rfl);have m5:p.cell? ⟨B+3,0,Y⟩=X (J U 2):=(Ee (a:=⟨B+3,0,Y⟩) (a0.block (B+3) (by omega))).symm.trans ((aa d9 0).trans rfl);have m6:p.cell? ⟨B+3,1,Y⟩=X (J U 1):=(Ee (a:=⟨B+3,1,Y⟩) (a0.block (B+3) (by omega))).symm.trans ((aa d9 1).trans rfl);have s6:=Z hC;have uc:=Z hD;have ya:=Z cb;have yc:=Z cc;have ys:=Z cd;have z0:=Z cg;have z9:=Z ch;have c3:Hid (O.heap.size=B+1/\R.heap.size=B+2/\T.heap.size=B+3/\u4.heap.size=B+4/\p.heap.size=B+5):=⟨z1,z2,z3,z4,z5⟩;rw[hB];clear hB hC hL f0 cb cc cd cg ch z1 z2 z3 z4 z5 z6 n6 o n7 n8 hA a0 hz hy hx d7 d8 d9 oj hD;go_enter func10,ntmps10;go_upto_region 2 with(go_at_call 32;(refine Eb s6.o ?_;rintro e wx⟨rfl,jn⟩;have jn:=jn.symm;subst jn))
 go_upto_region 5 with fail;rw[c3.o.1,ya.o];go_upto_region 6 with fail;rw[c3.o.2.1,yc.o];go_upto_region 7 with fail;rw[c3.o.2.2.1,ys.o];go_upto_region 8 with fail;rw[c3.o.2.2.2.1,z0.o];go_upto_region 10 with fail;rw[c3.o.2.2.2.2,z9.o];clear m1 m2 m3 m4 m5 m6;go_loopw [7] (λi wr=>∃(k:Nat)(F:Nat->Prop),k<=3/\i=J U k/\Hid (SnS B w w1 F wr (vh k))) (λi _=>3-(intOf i).toNat)
 exact⟨0,_,by omega,rfl,y9⟩;obtain⟨k,F,hk,rfl,V⟩:=hrel;by_cases hlt:k<3
 .have i1:(k:Int)<3:=by omega
  obtain⟨⟨rk,rl⟩,e3⟩:∃kk,keyAt k=kk:=⟨_,rfl⟩;have tO:Hid (∀W:Ef,(∀q,B+1<=q->q<=B+5->W.heap[q]?=w1.heap[q]?)->W.cell? ⟨B+5,k*2,Y⟩=X (J U rk)/\W.cell? ⟨B+5,k*2+1,Y⟩=X (J U rl)):=λW h=>by
   obtain⟨_,_,_,_,A,C,v,x,o,y⟩:=u W h;have:k=0∨k=1∨k=2:=by omega
   rcases this with rfl|rfl|rfl
   .obtain⟨rfl,rfl⟩:=Prod.mk.inj e3.symm;exact⟨A,C⟩
   .obtain⟨rfl,rfl⟩:=Prod.mk.inj e3.symm;exact⟨v,x⟩
   obtain⟨rfl,rfl⟩:=Prod.mk.inj e3.symm;exact⟨o,y⟩
  go_upto_region 12 with fail;have n:=Z (V.below (Ec _ wr).drew);go_wp2_with fail;refine wT (λW:Ef=>∀q,B+1<=q->q<=B+5->W.heap[q]?=w1.heap[q]?) 999 ?_;refine Qc [0,1,2] n.box ?_;refine Qd [3,4] n.box tO ?_;refine Dp 5 λK d=>?_;go_simp;go_at_call 28;refine Eb (show Ei prog 28 #[.string ⟨#[78,97,110,97]⟩] wr.drew _ from uP iG wr.drew) ?_;rintro e W1⟨s1,s3,rfl,ov,hI⟩;have cQ:=Z (n.below hI);have Bq:=Z hI;have tz:=Z ov;clear hI ov;refine d _ _ (λ_=>cQ.box) ?_;clear d K;go_simp;refine Qc [6] cQ.box ?_
  refine Dp 7 λK d=>?_;go_simp;have e2:=tQ F W1 B (vh k) cQ.o.cat (keyAt k) 1 (eh iG) (nq s1 2 s3) (Ct k) (by unfold i64B;decide) wr.drew.heap.size W1.heap.size tz.o (Ed _) (λq r _ hF=>by have s:=n.o.cat.lt q hF;omega) (lK iG (by decide));rw[Ci k (by omega)]at e2;rw[e3]at e2;have t4:Hid (Ei prog 29 #[fn (X ⟨B,0,Y⟩),.agg #[J U rk,J U rl,J U 1,J E8 97,J E8 109,nq s1 2 s3]] W1 _):=e2;clear e2;go_at_call 29;with_reducible refine Eb t4.o ?_
  rintro e W7⟨rfl,F8,oi,rr⟩;have gz:=Z (cQ.step oi rr);clear oi rr;refine d _ _ (λ_=>gz.box) ?_;clear d K;go_simp;refine Qc [8] gz.box ?_
  refine dN ?_;go_wp2_with fail;go_roundw;exact⟨k+1,F8,by omega,by go_num,gz⟩;simp[intOf];omega
 obtain rfl:k=3:=by omega
 have V:Hid (SnS B w w1 F wr wm):=V;clear hlt hk;go_upto_region 14 with fail;go_cut [8] (λt wx=>t=qn true/\∃F:Nat->Prop,Hid (SnS B w w1 F wx lg))
 case first=>
  generalize wr=wc at*;have n:=Z (V.below (Ec _ wc).drew);go_wp2_with fail;refine wT (λW:Ef=>∀q,B+1<=q->q<=B+5->W.heap[q]?=w1.heap[q]?) 999 ?_;have ua:Hid (cH F wc.drew (nq (X ⟨B+5,0,Y⟩) 3 3) [(1,1),(1,2),(2,1)]):=cH.new 3 rfl ((n.o.box (B+5) (by omega) (by omega)).trans uc.o) (λf=>(n.o.fl _ f).2 ⟨by omega,by omega⟩);refine Qd [0,1] n.box u ?_;refine Dp 2 λK d=>?_;go_simp;go_at_call 28;refine Eb (show Ei prog 28 #[.string ⟨#[71,101,114,109,105,110,97,108]⟩] wc.drew _ from uP oy wc.drew) ?_;rintro e hp⟨s0,s2,rfl,os,dc⟩;have cP:=Z (n.below dc);have Bo:=Z dc;have ty:=Z os;have va:=Z (ua.step (ah.of_below dc));clear dc os;refine d _ _ (λ_=>cP.box) ?_;clear d K;go_simp;refine Qc [3] cP.box ?_
  refine Dp 4 λK d=>?_;go_simp;have hY:=tQ F hp B wm cP.o.cat (2,2) 1 (eh oy) (nq s0 2 s2) (bK (by decide)) (by unfold i64B;decide) wc.drew.heap.size hp.heap.size ty.o (Ed _) (λq r _ hF=>by have s:=n.o.cat.lt q hF;omega) (lK oy (by decide));rw[CK]at hY;have sm:Hid (Ei prog 29 #[fn (X ⟨B,0,Y⟩),.agg #[J U 2,J U 2,J U 1,J E8 97,J E8 109,nq s0 2 s2]] hp _):=hY;clear hY;go_at_call 29;with_reducible refine Eb sm.o ?_
  rintro e a3⟨rfl,cv,nx,k2⟩;have ad:=Z (cP.step nx k2);have l3:=Z (va.step k2);clear nx k2;refine d _ _ (λ_=>ad.box) ?_;clear d K;go_simp;refine Qc [5,6] ad.box ?_;refine Qd [7,9,10] ad.box u ?_;refine ec (i:=8) (j:=11) rfl rfl (by kernel_rfl) (by rfl) (by rfl) (λK d=>?_) (λK d=>?_)
  .go_simp;have ib:=dX cv a3 B lg ad.cat (by decide+kernel);rw[lr.1]at ib;have sx:Hid (Ei prog 18 #[fn (X ⟨B,0,Y⟩)] a3 _):=ib;clear ib;go_at_call 18;with_reducible refine Eb sx.o ?_
   rintro e aC⟨DY,gy,rfl,nF,k4,r1,q2⟩;have wu:=Z (cH.of_owns (l:=[(1,1),(2,2)]) r1 q2);clear r1 q2;have hd:=Z (ad.step nF k4);have x1:=Z (l3.step k4);clear nF k4;refine d _ _ (λ_=>hd.box) ?_;clear d K;go_simp;refine Dq 11 λK d=>?_;go_simp;obtain⟨hv,fc⟩:=Qe (aC.alloc (ih #[J U 1,J U 1,J U 2,J U 2] 36));obtain⟨gb,eq⟩:=Qe aC.heap.size;have dz:Ej aC.heap.size aC hv:=by rw[<- fc];exact(Ec _ aC).alloc (Ed _) _
   have qa:hv.heap[gb]?=X (ih #[J U 1,J U 1,J U 2,J U 2] 36 (0,0)):=by rw[<- fc,<- eq];exact Ea aC _
   have pa:¬gy gb:=λf=>by have r:=hd.o.cat.lt gb f;have s:aC.heap.size=gb:=eq;omega
   have mv:=Z (hd.below dz);have xc:=Z (x1.step (ah.of_below dz));have lE:=Z (wu.step (ah.of_below dz));have lB:=Z (cH.new (F:=gy) (l:=[(1,1),(2,2)]) 2 rfl qa pa);try rw[eq]
   try rw[fc]
   clear fc eq dz qa pa;refine d _ _ (λ_=>mv.box) ?_;clear d K;go_simp;refine Dq 12 λK d=>?_;go_simp;have j3:=cC _ _ [(1,1),(2,2)] [(1,1),(2,2)] hv lE.at lB.at (by decide) (by decide);rw[show decide (([(1,1),(2,2)]:List RK)=[(1,1),(2,2)])=true from by decide]at j3;have tt:=Z j3;clear j3;go_at_call 17;with_reducible refine Eb tt.o ?_
   rintro e n4⟨rfl,c9⟩;have c2:=Z (mv.below c9);have y1:=Z (xc.step (ah.of_below c9));have y2:=Z (lE.step (ah.of_below c9));have y3:=Z (lB.step (ah.of_below c9));clear c9;refine d _ _ (λ_=>c2.box) ?_;clear d K;go_simp;refine Qc [13,14] c2.box ?_;refine Qd [15,16,18] c2.box u ?_;refine Dq 17 λK d=>?_;go_simp;have j4:=bV gy n4 B lg c2.cat (by decide+kernel) (1,1) (bK (by decide));rw[lr.2]at j4;have t2:Hid (Ei prog 22 #[fn (X ⟨B,0,Y⟩),.agg #[J U 1,J U 1]] n4 _):=j4;clear j4;go_at_call 22;with_reducible refine Eb t2.o ?_
   rintro e As⟨E5,B2,rfl,oc,cs,rc,qf⟩;have lT:=Z (cH.of_owns (l:=[(1,1),(1,2),(2,1)]) rc qf);clear rc qf;have n1:=Z (c2.step oc cs);have m0:=Z (y1.step cs);have y4:=Z (y2.step cs);have y5:=Z (y3.step cs);clear oc cs;refine d _ _ (λ_=>n1.box) ?_;clear d K;go_simp;refine Dq 19 λK d=>?_;go_simp;have ja:=cC _ _ [(1,1),(1,2),(2,1)] [(1,1),(1,2),(2,1)] As lT.at m0.at (by decide) (by decide);rw[show decide (([(1,1),(1,2),(2,1)]:List RK)=[(1,1),(1,2),(2,1)])=true from by decide]at ja;have tx:=Z ja;clear ja;go_at_call 17;with_reducible refine Eb tx.o ?_
   rintro e DQ⟨rfl,bY⟩;have hn:=Z (n1.below bY);have DD:=Z (m0.step (ah.of_below bY));have DE:=Z (y4.step (ah.of_below bY));have DF:=Z (y5.step (ah.of_below bY));have DG:=Z (lT.step (ah.of_below bY));clear bY;refine d _ _ (λ_=>hn.box) ?_;clear d K;go_simp;refine Qc [20,21] hn.box ?_;refine dN ?_;go_wp2_with fail;go_meet;exact⟨rfl,_,hn⟩
  go_simp;obtain⟨d6,fs⟩:=Qe (a3.alloc (ih #[J U 1,J U 1,J U 2,J U 2] 36));obtain⟨gn,eQ⟩:=Qe a3.heap.size;have hJ:Ej a3.heap.size a3 d6:=by rw[<- fs];exact(Ec _ a3).alloc (Ed _) _
  have qk:d6.heap[gn]?=X (ih #[J U 1,J U 1,J U 2,J U 2] 36 (0,0)):=by rw[<- fs,<- eQ];exact Ea a3 _
  have pe:¬cv gn:=λf=>by have r:=ad.o.cat.lt gn f;have s:a3.heap.size=gn:=eQ;omega
  have ho:=Z (ad.below hJ);have y7:=Z (l3.step (ah.of_below hJ));have y6:=Z (cH.new (F:=cv) (l:=[(1,1),(2,2)]) 2 rfl qk pe);try rw[eQ]
  try rw[fs]
  clear fs eQ hJ qk pe;refine d _ _ (λ_=>ho.box) ?_;clear d K;go_simp;refine Dq 8 λK d=>?_;go_simp;have jb:=dX cv d6 B lg ho.cat (by decide+kernel);rw[lr.1]at jb;have t3:Hid (Ei prog 18 #[fn (X ⟨B,0,Y⟩)] d6 _):=jb;clear jb;go_at_call 18;with_reducible refine Eb t3.o ?_
  rintro e At⟨E6,s5,rfl,og,gx,rg,qo⟩;have m7:=Z (cH.of_owns (l:=[(1,1),(2,2)]) rg qo);clear rg qo;have n2:=Z (ho.step og gx);have y8:=Z (y7.step gx);have ma:=Z (y6.step gx);clear og gx;refine d _ _ (λ_=>n2.box) ?_;clear d K;go_simp;refine Dq 12 λK d=>?_;go_simp;have hM:=cC _ _ [(1,1),(2,2)] [(1,1),(2,2)] At m7.at ma.at (by decide) (by decide);rw[show decide (([(1,1),(2,2)]:List RK)=[(1,1),(2,2)])=true from by decide]at hM;have t5:=Z hM;clear hM;go_at_call 17;with_reducible refine Eb t5.o ?_
  rintro e n5⟨rfl,c4⟩;have c0:=Z (n2.below c4);have up:=Z (y8.step (ah.of_below c4));have v0:=Z (ma.step (ah.of_below c4));have v1:=Z (m7.step (ah.of_below c4));clear c4;refine d _ _ (λ_=>c0.box) ?_;clear d K;go_simp;refine Qc [13,14] c0.box ?_;refine Qd [15,16,18] c0.box u ?_;refine Dq 17 λK d=>?_;go_simp;have hN:=bV s5 n5 B lg c0.cat (by decide+kernel) (1,1) (bK (by decide));rw[lr.2]at hN;have s8:Hid (Ei prog 22 #[fn (X ⟨B,0,Y⟩),.agg #[J U 1,J U 1]] n5 _):=hN;clear hN;go_at_call 22;with_reducible refine Eb s8.o ?_
  rintro e zd⟨DR,AA,rfl,n9,cl,qq,pf⟩;have ka:=Z (cH.of_owns (l:=[(1,1),(1,2),(2,1)]) qq pf);clear qq pf;have mb:=Z (c0.step n9 cl);have kb:=Z (up.step cl);have v2:=Z (v0.step cl);have v3:=Z (v1.step cl);clear n9 cl;refine d _ _ (λ_=>mb.box) ?_;clear d K;go_simp;refine Dq 19 λK d=>?_;go_simp;have hO:=cC _ _ [(1,1),(1,2),(2,1)] [(1,1),(1,2),(2,1)] zd ka.at kb.at (by decide) (by decide);rw[show decide (([(1,1),(1,2),(2,1)]:List RK)=[(1,1),(1,2),(2,1)])=true from by decide]at hO;have t6:=Z hO;clear hO;go_at_call 17;with_reducible refine Eb t6.o ?_
  rintro e DH⟨rfl,bk⟩;have gO:=Z (mb.below bk);have By:=Z (kb.step (ah.of_below bk));have BY:=Z (v2.step (ah.of_below bk));have D0:=Z (v3.step (ah.of_below bk));have D1:=Z (ka.step (ah.of_below bk));clear bk;refine d _ _ (λ_=>gO.box) ?_;clear d K;go_simp;refine Qc [20,21] gO.box ?_;refine dN ?_;go_wp2_with fail;go_meet;exact⟨rfl,_,gO⟩
 obtain⟨rfl,F,V⟩:=hcut;go_upto_region 15 with fail;go_cut [9] (λt wx=>t=qn true/\∃F:Nat->Prop,Hid (SnS B w w1 F wx jt))
 case first=>
  have n:=Z (V.below (Ec _ wc).drew);go_wp2_with fail;refine wT (λW:Ef=>∀q,B+1<=q->q<=B+5->W.heap[q]?=w1.heap[q]?) 999 ?_;refine Qd [0,1,2] n.box u ?_;refine Dp 3 λK d=>?_;go_simp;have hP:=sT F wc.drew B lg n.cat (1,1) (2,1) 1 (bK (by decide)) (bK (by decide)) (by unfold i64B;decide);rw[CR]at hP;have sa:Hid (Ei prog 39 #[fn (X ⟨B,0,Y⟩),.agg #[J U 1,J U 1],.agg #[J U 2,J U 1],J U 1] wc.drew _):=hP;clear hP;go_at_call 39;with_reducible refine Eb sa.o ?_
  rintro e a1⟨rfl,cu,nb,rs⟩;have a8:=Z (n.step nb rs);clear nb rs;refine d _ _ (λ_=>a8.box) ?_;clear d K;go_simp;refine Qc [4,5] a8.box ?_;refine Qd [6,8,9,10] a8.box u ?_;refine ec (i:=7) (j:=11) rfl rfl (by kernel_rfl) (by rfl) (by rfl) (λK d=>?_) (λK d=>?_)
  .go_simp;have hQ:=dX cu a1 B jt a8.cat (by decide+kernel);rw[fV.2.1]at hQ;have sb:Hid (Ei prog 18 #[fn (X ⟨B,0,Y⟩)] a1 _):=hQ;clear hQ;go_at_call 18;with_reducible refine Eb sb.o ?_
   rintro e av⟨DS,bc,rfl,ne,rt,qs,pi⟩;have v4:=Z (cH.of_owns (l:=[(1,1),(2,1),(2,2)]) qs pi);clear qs pi;have gP:=Z (a8.step ne rt);clear ne rt;refine d _ _ (λ_=>gP.box) ?_;clear d K;go_simp;refine Dq 11 λK d=>?_;go_simp;obtain⟨hq,f1⟩:=Qe (av.alloc (ih #[J U 1,J U 1,J U 2,J U 1,J U 2,J U 2] 36));obtain⟨ft,e4⟩:=Qe av.heap.size;have hG:Ej av.heap.size av hq:=by rw[<- f1];exact(Ec _ av).alloc (Ed _) _
   have pj:hq.heap[ft]?=X (ih #[J U 1,J U 1,J U 2,J U 1,J U 2,J U 2] 36 (0,0)):=by rw[<- f1,<- e4];exact Ea av _
   have oF:¬bc ft:=λf=>by have r:=gP.o.cat.lt ft f;have s:av.heap.size=ft:=e4;omega
   have mc:=Z (gP.below hG);have kd:=Z (v4.step (ah.of_below hG));have kc:=Z (cH.new (F:=bc) (l:=[(1,1),(2,1),(2,2)]) 3 rfl pj oF);try rw[e4]
   try rw[f1]
   clear f1 e4 hG pj oF;refine d _ _ (λ_=>mc.box) ?_;clear d K;go_simp;refine Dq 12 λK d=>?_;go_simp;have hR:=cC _ _ [(1,1),(2,1),(2,2)] [(1,1),(2,1),(2,2)] hq kd.at kc.at (by decide) (by decide);rw[show decide (([(1,1),(2,1),(2,2)]:List RK)=[(1,1),(2,1),(2,2)])=true from by decide]at hR;have t7:=Z hR;clear hR;go_at_call 17;with_reducible refine Eb t7.o ?_
   rintro e a2⟨rfl,da⟩;have a9:=Z (mc.below da);have kl:=Z (kd.step (ah.of_below da));have kn:=Z (kc.step (ah.of_below da));clear da;refine d _ _ (λ_=>a9.box) ?_;clear d K;go_simp;refine Qc [13,14] a9.box ?_;refine Qd [15,16,18,19] a9.box u ?_;refine ec (i:=17) (j:=20) rfl rfl (by kernel_rfl) (by rfl) (by rfl) (λK d=>?_) (λK d=>?_)
   .go_simp;have hS:=bV bc a2 B jt a9.cat (by decide+kernel) (1,1) (bK (by decide));rw[fV.2.2]at hS;have se:Hid (Ei prog 22 #[fn (X ⟨B,0,Y⟩),.agg #[J U 1,J U 1]] a2 _):=hS;clear hS;go_at_call 22;with_reducible refine Eb se.o ?_
    rintro e ax⟨DT,k6,rfl,nf,gp,qt,pk⟩;have v5:=Z (cH.of_owns (l:=[(1,1),(1,2)]) qt pk);clear qt pk;have gQ:=Z (a9.step nf gp);have v6:=Z (kl.step gp);have v7:=Z (kn.step gp);clear nf gp;refine d _ _ (λ_=>gQ.box) ?_;clear d K;go_simp;refine Dq 20 λK d=>?_;go_simp;obtain⟨hr,f2⟩:=Qe (ax.alloc (ih #[J U 1,J U 1,J U 1,J U 2] 36));obtain⟨fx,e5⟩:=Qe ax.heap.size;have c5:Ej ax.heap.size ax hr:=by rw[<- f2];exact(Ec _ ax).alloc (Ed _) _
    have pl:hr.heap[fx]?=X (ih #[J U 1,J U 1,J U 1,J U 2] 36 (0,0)):=by rw[<- f2,<- e5];exact Ea ax _
    have oN:¬k6 fx:=λf=>by have r:=gQ.o.cat.lt fx f;have s:ax.heap.size=fx:=e5;omega
    have me:=Z (gQ.below c5);have v8:=Z (v6.step (ah.of_below c5));have v9:=Z (v7.step (ah.of_below c5));have kq:=Z (v5.step (ah.of_below c5));have ko:=Z (cH.new (F:=k6) (l:=[(1,1),(1,2)]) 2 rfl pl oN);try rw[e5]
    try rw[f2]
    clear f2 e5 c5 pl oN;refine d _ _ (λ_=>me.box) ?_;clear d K;go_simp;refine Dq 21 λK d=>?_;go_simp;have hT:=cC _ _ [(1,1),(1,2)] [(1,1),(1,2)] hr kq.at ko.at (by decide) (by decide);rw[show decide (([(1,1),(1,2)]:List RK)=[(1,1),(1,2)])=true from by decide]at hT;have t8:=Z hT;clear hT;go_at_call 17;with_reducible refine Eb t8.o ?_
    rintro e DI⟨rfl,bl⟩;have h0:=Z (me.below bl);have D2:=Z (v8.step (ah.of_below bl));have D3:=Z (v9.step (ah.of_below bl));have D4:=Z (kq.step (ah.of_below bl));have D5:=Z (ko.step (ah.of_below bl));clear bl;refine d _ _ (λ_=>h0.box) ?_;clear d K;go_simp;refine Qc [22,23] h0.box ?_;refine dN ?_;go_wp2_with fail;go_meet;exact⟨rfl,_,h0⟩
   go_simp;obtain⟨d0,f3⟩:=Qe (a2.alloc (ih #[J U 1,J U 1,J U 1,J U 2] 36));obtain⟨fy,e6⟩:=Qe a2.heap.size;have dd:Ej a2.heap.size a2 d0:=by rw[<- f3];exact(Ec _ a2).alloc (Ed _) _
   have pn:d0.heap[fy]?=X (ih #[J U 1,J U 1,J U 1,J U 2] 36 (0,0)):=by rw[<- f3,<- e6];exact Ea a2 _
   have oR:¬bc fy:=λf=>by have r:=a9.o.cat.lt fy f;have s:a2.heap.size=fy:=e6;omega
   have h3:=Z (a9.below dd);have vc:=Z (kl.step (ah.of_below dd));have vd:=Z (kn.step (ah.of_below dd));have vb:=Z (cH.new (F:=bc) (l:=[(1,1),(1,2)]) 2 rfl pn oR);try rw[e6]
   try rw[f3]
   clear f3 e6 dd pn oR;refine d _ _ (λ_=>h3.box) ?_;clear d K;go_simp;refine Dq 17 λK d=>?_;go_simp;have hV:=bV bc d0 B jt h3.cat (by decide+kernel) (1,1) (bK (by decide));rw[fV.2.2]at hV;have sk:Hid (Ei prog 22 #[fn (X ⟨B,0,Y⟩),.agg #[J U 1,J U 1]] d0 _):=hV;clear hV;go_at_call 22;with_reducible refine Eb sk.o ?_
   rintro e zp⟨DU,AC,rfl,nn,cm,qv,po⟩;have ks:=Z (cH.of_owns (l:=[(1,1),(1,2)]) qv po);clear qv po;have mf:=Z (h3.step nn cm);have vs:=Z (vc.step cm);have vt:=Z (vd.step cm);have kt:=Z (vb.step cm);clear nn cm;refine d _ _ (λ_=>mf.box) ?_;clear d K;go_simp;refine Dq 21 λK d=>?_;go_simp;have hW:=cC _ _ [(1,1),(1,2)] [(1,1),(1,2)] zp ks.at kt.at (by decide) (by decide);rw[show decide (([(1,1),(1,2)]:List RK)=[(1,1),(1,2)])=true from by decide]at hW;have t9:=Z hW;clear hW;go_at_call 17;with_reducible refine Eb t9.o ?_
   rintro e DJ⟨rfl,bs⟩;have h4:=Z (mf.below bs);have D6:=Z (vs.step (ah.of_below bs));have D7:=Z (vt.step (ah.of_below bs));have D8:=Z (kt.step (ah.of_below bs));have D9:=Z (ks.step (ah.of_below bs));clear bs;refine d _ _ (λ_=>h4.box) ?_;clear d K;go_simp;refine Qc [22,23] h4.box ?_;refine dN ?_;go_wp2_with fail;go_meet;exact⟨rfl,_,h4⟩
  go_simp;obtain⟨d1,f4⟩:=Qe (a1.alloc (ih #[J U 1,J U 1,J U 2,J U 1,J U 2,J U 2] 36));obtain⟨fz,e7⟩:=Qe a1.heap.size;have ok:Ej a1.heap.size a1 d1:=by rw[<- f4];exact(Ec _ a1).alloc (Ed _) _
  have pr:d1.heap[fz]?=X (ih #[J U 1,J U 1,J U 2,J U 1,J U 2,J U 2] 36 (0,0)):=by rw[<- f4,<- e7];exact Ea a1 _
  have p0:¬cu fz:=λf=>by have r:=a8.o.cat.lt fz f;have s:a1.heap.size=fz:=e7;omega
  have h5:=Z (a8.below ok);have vx:=Z (cH.new (F:=cu) (l:=[(1,1),(2,1),(2,2)]) 3 rfl pr p0);try rw[e7]
  try rw[f4]
  clear f4 e7 ok pr p0;refine d _ _ (λ_=>h5.box) ?_;clear d K;go_simp;refine Dq 7 λK d=>?_;go_simp;have hX:=dX cu d1 B jt h5.cat (by decide+kernel);rw[fV.2.1]at hX;have sl:Hid (Ei prog 18 #[fn (X ⟨B,0,Y⟩)] d1 _):=hX;clear hX;go_at_call 18;with_reducible refine Eb sl.o ?_
  rintro e zs⟨DV,cx,rfl,ny,k3,qx,ps⟩;have kv:=Z (cH.of_owns (l:=[(1,1),(2,1),(2,2)]) qx ps);clear qx ps;have ml:=Z (h5.step ny k3);have kx:=Z (vx.step k3);clear ny k3;refine d _ _ (λ_=>ml.box) ?_;clear d K;go_simp;refine Dq 12 λK d=>?_;go_simp;have hZ:=cC _ _ [(1,1),(2,1),(2,2)] [(1,1),(2,1),(2,2)] zs kv.at kx.at (by decide) (by decide);rw[show decide (([(1,1),(2,1),(2,2)]:List RK)=[(1,1),(2,1),(2,2)])=true from by decide]at hZ;have ta:=Z hZ;clear hZ;go_at_call 17;with_reducible refine Eb ta.o ?_
  rintro e a4⟨rfl,dk⟩;have ac:=Z (ml.below dk);have ky:=Z (kx.step (ah.of_below dk));have kz:=Z (kv.step (ah.of_below dk));clear dk;refine d _ _ (λ_=>ac.box) ?_;clear d K;go_simp;refine Qc [13,14] ac.box ?_;refine Qd [15,16,18,19] ac.box u ?_;refine ec (i:=17) (j:=20) rfl rfl (by kernel_rfl) (by rfl) (by rfl) (λK d=>?_) (λK d=>?_)
  .go_simp;have i0:=bV cx a4 B jt ac.cat (by decide+kernel) (1,1) (bK (by decide));rw[fV.2.2]at i0;have so:Hid (Ei prog 22 #[fn (X ⟨B,0,Y⟩),.agg #[J U 1,J U 1]] a4 _):=i0;clear i0;go_at_call 22;with_reducible refine Eb so.o ?_
   rintro e ay⟨DW,k7,rfl,nz,gq,qy,pt⟩;have vy:=Z (cH.of_owns (l:=[(1,1),(1,2)]) qy pt);clear qy pt;have h6:=Z (ac.step nz gq);have vN:=Z (ky.step gq);have w0:=Z (kz.step gq);clear nz gq;refine d _ _ (λ_=>h6.box) ?_;clear d K;go_simp;refine Dq 20 λK d=>?_;go_simp;obtain⟨hs,f5⟩:=Qe (ay.alloc (ih #[J U 1,J U 1,J U 1,J U 2] 36));obtain⟨g0,e8⟩:=Qe ay.heap.size;have c6:Ej ay.heap.size ay hs:=by rw[<- f5];exact(Ec _ ay).alloc (Ed _) _
   have pv:hs.heap[g0]?=X (ih #[J U 1,J U 1,J U 1,J U 2] 36 (0,0)):=by rw[<- f5,<- e8];exact Ea ay _
   have p1:¬k7 g0:=λf=>by have r:=h6.o.cat.lt g0 f;have s:ay.heap.size=g0:=e8;omega
   have mm:=Z (h6.below c6);have w2:=Z (vN.step (ah.of_below c6));have w3:=Z (w0.step (ah.of_below c6));have l2:=Z (vy.step (ah.of_below c6));have l1:=Z (cH.new (F:=k7) (l:=[(1,1),(1,2)]) 2 rfl pv p1);try rw[e8]
   try rw[f5]
   clear f5 e8 c6 pv p1;refine d _ _ (λ_=>mm.box) ?_;clear d K;go_simp;refine Dq 21 λK d=>?_;go_simp;have i2:=cC _ _ [(1,1),(1,2)] [(1,1),(1,2)] hs l2.at l1.at (by decide) (by decide);rw[show decide (([(1,1),(1,2)]:List RK)=[(1,1),(1,2)])=true from by decide]at i2;have tb:=Z i2;clear i2;go_at_call 17;with_reducible refine Eb tb.o ?_
   rintro e DK⟨rfl,bt⟩;have h7:=Z (mm.below bt);have Da:=Z (w2.step (ah.of_below bt));have Db:=Z (w3.step (ah.of_below bt));have Dc:=Z (l2.step (ah.of_below bt));have Dd:=Z (l1.step (ah.of_below bt));clear bt;refine d _ _ (λ_=>h7.box) ?_;clear d K;go_simp;refine Qc [22,23] h7.box ?_;refine dN ?_;go_wp2_with fail;go_meet;exact⟨rfl,_,h7⟩
  go_simp;obtain⟨d2,f6⟩:=Qe (a4.alloc (ih #[J U 1,J U 1,J U 1,J U 2] 36));obtain⟨g6,e9⟩:=Qe a4.heap.size;have ds:Ej a4.heap.size a4 d2:=by rw[<- f6];exact(Ec _ a4).alloc (Ed _) _
  have px:d2.heap[g6]?=X (ih #[J U 1,J U 1,J U 1,J U 2] 36 (0,0)):=by rw[<- f6,<- e9];exact Ea a4 _
  have p2:¬cx g6:=λf=>by have r:=ac.o.cat.lt g6 f;have s:a4.heap.size=g6:=e9;omega
  have h8:=Z (ac.below ds);have w5:=Z (ky.step (ah.of_below ds));have w6:=Z (kz.step (ah.of_below ds));have w4:=Z (cH.new (F:=cx) (l:=[(1,1),(1,2)]) 2 rfl px p2);try rw[e9]
  try rw[f6]
  clear f6 e9 ds px p2;refine d _ _ (λ_=>h8.box) ?_;clear d K;go_simp;refine Dq 17 λK d=>?_;go_simp;have i4:=bV cx d2 B jt h8.cat (by decide+kernel) (1,1) (bK (by decide));rw[fV.2.2]at i4;have sp:Hid (Ei prog 22 #[fn (X ⟨B,0,Y⟩),.agg #[J U 1,J U 1]] d2 _):=i4;clear i4;go_at_call 22;with_reducible refine Eb sp.o ?_
  rintro e zz⟨DX,AS,rfl,nE,cn,qz,py⟩;have l4:=Z (cH.of_owns (l:=[(1,1),(1,2)]) qz py);clear qz py;have mn:=Z (h8.step nE cn);have w7:=Z (w5.step cn);have w8:=Z (w6.step cn);have l5:=Z (w4.step cn);clear nE cn;refine d _ _ (λ_=>mn.box) ?_;clear d K;go_simp;refine Dq 21 λK d=>?_;go_simp;have i6:=cC _ _ [(1,1),(1,2)] [(1,1),(1,2)] zz l4.at l5.at (by decide) (by decide);rw[show decide (([(1,1),(1,2)]:List RK)=[(1,1),(1,2)])=true from by decide]at i6;have tc:=Z i6;clear i6;go_at_call 17;with_reducible refine Eb tc.o ?_
  rintro e DL⟨rfl,bv⟩;have h9:=Z (mn.below bv);have De:=Z (w7.step (ah.of_below bv));have Df:=Z (w8.step (ah.of_below bv));have Dg:=Z (l5.step (ah.of_below bv));have Dh:=Z (l4.step (ah.of_below bv));clear bv;refine d _ _ (λ_=>h9.box) ?_;clear d K;go_simp;refine Qc [22,23] h9.box ?_;refine dN ?_;go_wp2_with fail;go_meet;exact⟨rfl,_,h9⟩
 obtain⟨rfl,F,V⟩:=hcut;go_upto_region 16 with fail;go_cut [10] (λt wx=>t=qn true/\∃F:Nat->Prop,Hid (SnS B w w1 F wx nm))
 case first=>
  have n:=Z (V.below (Ec _ wc).drew);go_wp2_with fail;refine wT (λW:Ef=>∀q,B+1<=q->q<=B+5->W.heap[q]?=w1.heap[q]?) 999 ?_;refine Qd [0,1,2] n.box u ?_;refine Dp 3 λK d=>?_;go_simp;have i7:=vv F wc.drew B jt n.cat (2,2) (2,1) 1 (bK (by decide)) (bK (by decide)) (by unfold i64B;decide);rw[CP]at i7;have ss:Hid (Ei prog 40 #[fn (X ⟨B,0,Y⟩),.agg #[J U 2,J U 2],.agg #[J U 2,J U 1],J U 1] wc.drew _):=i7;clear i7;go_at_call 40;with_reducible refine Eb ss.o ?_
  rintro e n3⟨rfl,s4,nO,rx⟩;have c1:=Z (n.step nO rx);clear nO rx;refine d _ _ (λ_=>c1.box) ?_;clear d K;go_simp;refine Qc [4,5] c1.box ?_;refine Qd [6,7] c1.box u ?_;refine Dq 8 λK d=>?_;go_simp;have i8:=vE s4 n3 B yv c1.cat (1,1) 2 (bK (by decide)) (by unfold i64B;decide);rw[CQ]at i8;have st:Hid (Ei prog 27 #[fn (X ⟨B,0,Y⟩),.agg #[J U 1,J U 1],J U 2] n3 _):=i8;clear i8;go_at_call 27;with_reducible refine Eb st.o ?_
  rintro e a5⟨rfl,cy,o1,ry⟩;have al:=Z (c1.step o1 ry);clear o1 ry;refine d _ _ (λ_=>al.box) ?_;clear d K;go_simp;refine Qc [9,10,11] al.box ?_;refine Qd [12,14] al.box u ?_;refine ec (i:=13) (j:=15) rfl rfl (by kernel_rfl) (by rfl) (by rfl) (λK d=>?_) (λK d=>?_)
  .go_simp;have ia:=dX cy a5 B nm al.cat (by decide+kernel);rw[dH.2.2.1]at ia;have su:Hid (Ei prog 18 #[fn (X ⟨B,0,Y⟩)] a5 _):=ia;clear ia;go_at_call 18;with_reducible refine Eb su.o ?_
   rintro e aS⟨DZ,bd,rfl,o2,rW,r0,pz⟩;have w9:=Z (cH.of_owns (l:=[(1,2)]) r0 pz);clear r0 pz;have ha:=Z (al.step o2 rW);clear o2 rW;refine d _ _ (λ_=>ha.box) ?_;clear d K;go_simp;refine Dq 15 λK d=>?_;go_simp;obtain⟨ht,f7⟩:=Qe (aS.alloc (ih #[J U 1,J U 2] 36));obtain⟨g7,eg⟩:=Qe aS.heap.size;have hH:Ej aS.heap.size aS ht:=by rw[<- f7];exact(Ec _ aS).alloc (Ed _) _
   have q0:ht.heap[g7]?=X (ih #[J U 1,J U 2] 36 (0,0)):=by rw[<- f7,<- eg];exact Ea aS _
   have p3:¬bd g7:=λf=>by have r:=ha.o.cat.lt g7 f;have s:aS.heap.size=g7:=eg;omega
   have mo:=Z (ha.below hH);have l7:=Z (w9.step (ah.of_below hH));have l6:=Z (cH.new (F:=bd) (l:=[(1,2)]) 1 rfl q0 p3);try rw[eg]
   try rw[f7]
   clear f7 eg hH q0 p3;refine d _ _ (λ_=>mo.box) ?_;clear d K;go_simp;refine Dq 16 λK d=>?_;go_simp;have it:=cC _ _ [(1,2)] [(1,2)] ht l7.at l6.at (by decide) (by decide);rw[show decide (([(1,2)]:List RK)=[(1,2)])=true from by decide]at it;have td:=Z it;clear it;go_at_call 17;with_reducible refine Eb td.o ?_
   rintro e a6⟨rfl,dx⟩;have ao:=Z (mo.below dx);have la:=Z (l7.step (ah.of_below dx));have lb:=Z (l6.step (ah.of_below dx));clear dx;refine d _ _ (λ_=>ao.box) ?_;clear d K;go_simp;refine Qc [17,18] ao.box ?_;refine Qd [19,20,22,23,24] ao.box u ?_;refine ec (i:=21) (j:=25) rfl rfl (by kernel_rfl) (by rfl) (by rfl) (λK d=>?_) (λK d=>?_)
   .go_simp;have iv:=bV bd a6 B nm ao.cat (by decide+kernel) (1,2) (bK (by decide));rw[dH.2.2.2]at iv;have sz:Hid (Ei prog 22 #[fn (X ⟨B,0,Y⟩),.agg #[J U 1,J U 2]] a6 _):=iv;clear iv;go_at_call 22;with_reducible refine Eb sz.o ?_
    rintro e aT⟨E0,k8,rfl,o3,gs,r2,q1⟩;have wa:=Z (cH.of_owns (l:=[(1,2),(2,1),(2,2)]) r2 q1);clear r2 q1;have hb:=Z (ao.step o3 gs);have wf:=Z (la.step gs);have wp:=Z (lb.step gs);clear o3 gs;refine d _ _ (λ_=>hb.box) ?_;clear d K;go_simp;refine Dq 25 λK d=>?_;go_simp;obtain⟨hu,f8⟩:=Qe (aT.alloc (ih #[J U 1,J U 2,J U 2,J U 1,J U 2,J U 2] 36));obtain⟨g8,ej⟩:=Qe aT.heap.size;have c7:Ej aT.heap.size aT hu:=by rw[<- f8];exact(Ec _ aT).alloc (Ed _) _
    have q3:hu.heap[g8]?=X (ih #[J U 1,J U 2,J U 2,J U 1,J U 2,J U 2] 36 (0,0)):=by rw[<- f8,<- ej];exact Ea aT _
    have p4:¬k8 g8:=λf=>by have r:=hb.o.cat.lt g8 f;have s:aT.heap.size=g8:=ej;omega
    have mp:=Z (hb.below c7);have wq:=Z (wf.step (ah.of_below c7));have ws:=Z (wp.step (ah.of_below c7));have le:=Z (wa.step (ah.of_below c7));have ld:=Z (cH.new (F:=k8) (l:=[(1,2),(2,1),(2,2)]) 3 rfl q3 p4);try rw[ej]
    try rw[f8]
    clear f8 ej c7 q3 p4;refine d _ _ (λ_=>mp.box) ?_;clear d K;go_simp;refine Dq 26 λK d=>?_;go_simp;have iD:=cC _ _ [(1,2),(2,1),(2,2)] [(1,2),(2,1),(2,2)] hu le.at ld.at (by decide) (by decide);rw[show decide (([(1,2),(2,1),(2,2)]:List RK)=[(1,2),(2,1),(2,2)])=true from by decide]at iD;have te:=Z iD;clear iD;go_at_call 17;with_reducible refine Eb te.o ?_
    rintro e DM⟨rfl,bw⟩;have hc:=Z (mp.below bw);have Di:=Z (wq.step (ah.of_below bw));have Dk:=Z (ws.step (ah.of_below bw));have Dm:=Z (le.step (ah.of_below bw));have Dn:=Z (ld.step (ah.of_below bw));clear bw;refine d _ _ (λ_=>hc.box) ?_;clear d K;go_simp;refine Qc [27,28] hc.box ?_;refine dN ?_;go_wp2_with fail;go_meet;exact⟨rfl,_,hc⟩
   go_simp;obtain⟨d3,f9⟩:=Qe (a6.alloc (ih #[J U 1,J U 2,J U 2,J U 1,J U 2,J U 2] 36));obtain⟨g9,em⟩:=Qe a6.heap.size;have dy:Ej a6.heap.size a6 d3:=by rw[<- f9];exact(Ec _ a6).alloc (Ed _) _
   have q4:d3.heap[g9]?=X (ih #[J U 1,J U 2,J U 2,J U 1,J U 2,J U 2] 36 (0,0)):=by rw[<- f9,<- em];exact Ea a6 _
   have p5:¬bd g9:=λf=>by have r:=ao.o.cat.lt g9 f;have s:a6.heap.size=g9:=em;omega
   have he:=Z (ao.below dy);have wB:=Z (la.step (ah.of_below dy));have x0:=Z (lb.step (ah.of_below dy));have wz:=Z (cH.new (F:=bd) (l:=[(1,2),(2,1),(2,2)]) 3 rfl q4 p5);try rw[em]
   try rw[f9]
   clear f9 em dy q4 p5;refine d _ _ (λ_=>he.box) ?_;clear d K;go_simp;refine Dq 21 λK d=>?_;go_simp;have iF:=bV bd d3 B nm he.cat (by decide+kernel) (1,2) (bK (by decide));rw[dH.2.2.2]at iF;have sC:Hid (Ei prog 22 #[fn (X ⟨B,0,Y⟩),.agg #[J U 1,J U 2]] d3 _):=iF;clear iF;go_at_call 22;with_reducible refine Eb sC.o ?_
   rintro e A1⟨E1,AT,rfl,o4,cp,r4,q5⟩;have lf:=Z (cH.of_owns (l:=[(1,2),(2,1),(2,2)]) r4 q5);clear r4 q5;have ms:=Z (he.step o4 cp);have x2:=Z (wB.step cp);have x3:=Z (x0.step cp);have lk:=Z (wz.step cp);clear o4 cp;refine d _ _ (λ_=>ms.box) ?_;clear d K;go_simp;refine Dq 26 λK d=>?_;go_simp;have iN:=cC _ _ [(1,2),(2,1),(2,2)] [(1,2),(2,1),(2,2)] A1 lf.at lk.at (by decide) (by decide);rw[show decide (([(1,2),(2,1),(2,2)]:List RK)=[(1,2),(2,1),(2,2)])=true from by decide]at iN;have th:=Z iN;clear iN;go_at_call 17;with_reducible refine Eb th.o ?_
   rintro e DN⟨rfl,bA⟩;have hg:=Z (ms.below bA);have Do:=Z (x2.step (ah.of_below bA));have Dr:=Z (x3.step (ah.of_below bA));have Dt:=Z (lk.step (ah.of_below bA));have Du:=Z (lf.step (ah.of_below bA));clear bA;refine d _ _ (λ_=>hg.box) ?_;clear d K;go_simp;refine Qc [27,28] hg.box ?_;refine dN ?_;go_wp2_with fail;go_meet;exact⟨rfl,_,hg⟩
  go_simp;obtain⟨d4,fb⟩:=Qe (a5.alloc (ih #[J U 1,J U 2] 36));obtain⟨gd,er⟩:=Qe a5.heap.size;have op:Ej a5.heap.size a5 d4:=by rw[<- fb];exact(Ec _ a5).alloc (Ed _) _
  have q6:d4.heap[gd]?=X (ih #[J U 1,J U 2] 36 (0,0)):=by rw[<- fb,<- er];exact Ea a5 _
  have pb:¬cy gd:=λf=>by have r:=al.o.cat.lt gd f;have s:a5.heap.size=gd:=er;omega
  have hh:=Z (al.below op);have x4:=Z (cH.new (F:=cy) (l:=[(1,2)]) 1 rfl q6 pb);try rw[er]
  try rw[fb]
  clear fb er op q6 pb;refine d _ _ (λ_=>hh.box) ?_;clear d K;go_simp;refine Dq 13 λK d=>?_;go_simp;have iP:=dX cy d4 B nm hh.cat (by decide+kernel);rw[dH.2.2.1]at iP;have sM:Hid (Ei prog 18 #[fn (X ⟨B,0,Y⟩)] d4 _):=iP;clear iP;go_at_call 18;with_reducible refine Eb sM.o ?_
  rintro e A2⟨E2,cz,rfl,o5,k5,r8,q7⟩;have lm:=Z (cH.of_owns (l:=[(1,2)]) r8 q7);clear r8 q7;have mt:=Z (hh.step o5 k5);have lo:=Z (x4.step k5);clear o5 k5;refine d _ _ (λ_=>mt.box) ?_;clear d K;go_simp;refine Dq 16 λK d=>?_;go_simp;have iQ:=cC _ _ [(1,2)] [(1,2)] A2 lm.at lo.at (by decide) (by decide);rw[show decide (([(1,2)]:List RK)=[(1,2)])=true from by decide]at iQ;have tl:=Z iQ;clear iQ;go_at_call 17;with_reducible refine Eb tl.o ?_
  rintro e a7⟨rfl,e0⟩;have au:=Z (mt.below e0);have lp:=Z (lo.step (ah.of_below e0));have ls:=Z (lm.step (ah.of_below e0));clear e0;refine d _ _ (λ_=>au.box) ?_;clear d K;go_simp;refine Qc [17,18] au.box ?_;refine Qd [19,20,22,23,24] au.box u ?_;refine ec (i:=21) (j:=25) rfl rfl (by kernel_rfl) (by rfl) (by rfl) (λK d=>?_) (λK d=>?_)
  .go_simp;have iS:=bV cz a7 B nm au.cat (by decide+kernel) (1,2) (bK (by decide));rw[dH.2.2.2]at iS;have t0:Hid (Ei prog 22 #[fn (X ⟨B,0,Y⟩),.agg #[J U 1,J U 2]] a7 _):=iS;clear iS;go_at_call 22;with_reducible refine Eb t0.o ?_
   rintro e bb⟨E3,k9,rfl,oa,gt,r9,qb⟩;have x5:=Z (cH.of_owns (l:=[(1,2),(2,1),(2,2)]) r9 qb);clear r9 qb;have hi:=Z (au.step oa gt);have x6:=Z (lp.step gt);have x7:=Z (ls.step gt);clear oa gt;refine d _ _ (λ_=>hi.box) ?_;clear d K;go_simp;refine Dq 25 λK d=>?_;go_simp;obtain⟨hw,fp⟩:=Qe (bb.alloc (ih #[J U 1,J U 2,J U 2,J U 1,J U 2,J U 2] 36));obtain⟨gf,es⟩:=Qe bb.heap.size;have c8:Ej bb.heap.size bb hw:=by rw[<- fp];exact(Ec _ bb).alloc (Ed _) _
   have qc:hw.heap[gf]?=X (ih #[J U 1,J U 2,J U 2,J U 1,J U 2,J U 2] 36 (0,0)):=by rw[<- fp,<- es];exact Ea bb _
   have pc:¬k9 gf:=λf=>by have r:=hi.o.cat.lt gf f;have s:bb.heap.size=gf:=es;omega
   have mP:=Z (hi.below c8);have xa:=Z (x6.step (ah.of_below c8));have xb:=Z (x7.step (ah.of_below c8));have lx:=Z (x5.step (ah.of_below c8));have lv:=Z (cH.new (F:=k9) (l:=[(1,2),(2,1),(2,2)]) 3 rfl qc pc);try rw[es]
   try rw[fp]
   clear fp es c8 qc pc;refine d _ _ (λ_=>mP.box) ?_;clear d K;go_simp;refine Dq 26 λK d=>?_;go_simp;have j0:=cC _ _ [(1,2),(2,1),(2,2)] [(1,2),(2,1),(2,2)] hw lx.at lv.at (by decide) (by decide);rw[show decide (([(1,2),(2,1),(2,2)]:List RK)=[(1,2),(2,1),(2,2)])=true from by decide]at j0;have tr:=Z j0;clear j0;go_at_call 17;with_reducible refine Eb tr.o ?_
   rintro e DO⟨rfl,bB⟩;have hj:=Z (mP.below bB);have Dv:=Z (xa.step (ah.of_below bB));have Dw:=Z (xb.step (ah.of_below bB));have Dx:=Z (lx.step (ah.of_below bB));have Dy:=Z (lv.step (ah.of_below bB));clear bB;refine d _ _ (λ_=>hj.box) ?_;clear d K;go_simp;refine Qc [27,28] hj.box ?_;refine dN ?_;go_wp2_with fail;go_meet;exact⟨rfl,_,hj⟩
  go_simp;obtain⟨d5,fr⟩:=Qe (a7.alloc (ih #[J U 1,J U 2,J U 2,J U 1,J U 2,J U 2] 36));obtain⟨gi,ex⟩:=Qe a7.heap.size;have e1:Ej a7.heap.size a7 d5:=by rw[<- fr];exact(Ec _ a7).alloc (Ed _) _
  have qd:d5.heap[gi]?=X (ih #[J U 1,J U 2,J U 2,J U 1,J U 2,J U 2] 36 (0,0)):=by rw[<- fr,<- ex];exact Ea a7 _
  have pd:¬cz gi:=λf=>by have r:=au.o.cat.lt gi f;have s:a7.heap.size=gi:=ex;omega
  have hl:=Z (au.below e1);have xk:=Z (lp.step (ah.of_below e1));have xs:=Z (ls.step (ah.of_below e1));have xd:=Z (cH.new (F:=cz) (l:=[(1,2),(2,1),(2,2)]) 3 rfl qd pd);try rw[ex]
  try rw[fr]
  clear fr ex e1 qd pd;refine d _ _ (λ_=>hl.box) ?_;clear d K;go_simp;refine Dq 21 λK d=>?_;go_simp;have j1:=bV cz d5 B nm hl.cat (by decide+kernel) (1,2) (bK (by decide));rw[dH.2.2.2]at j1;have t1:Hid (Ei prog 22 #[fn (X ⟨B,0,Y⟩),.agg #[J U 1,J U 2]] d5 _):=j1;clear j1;go_at_call 22;with_reducible refine Eb t1.o ?_
  rintro e Ac⟨E4,B1,rfl,ob,cq,ra,qe⟩;have lP:=Z (cH.of_owns (l:=[(1,2),(2,1),(2,2)]) ra qe);clear ra qe;have n0:=Z (hl.step ob cq);have xv:=Z (xk.step cq);have y0:=Z (xs.step cq);have lQ:=Z (xd.step cq);clear ob cq;refine d _ _ (λ_=>n0.box) ?_;clear d K;go_simp;refine Dq 26 λK d=>?_;go_simp;have j2:=cC _ _ [(1,2),(2,1),(2,2)] [(1,2),(2,1),(2,2)] Ac lP.at lQ.at (by decide) (by decide);rw[show decide (([(1,2),(2,1),(2,2)]:List RK)=[(1,2),(2,1),(2,2)])=true from by decide]at j2;have ts:=Z j2;clear j2;go_at_call 17;with_reducible refine Eb ts.o ?_
  rintro e DP⟨rfl,bO⟩;have hm:=Z (n0.below bO);have Dz:=Z (xv.step (ah.of_below bO));have DA:=Z (y0.step (ah.of_below bO));have DB:=Z (lQ.step (ah.of_below bO));have DC:=Z (lP.step (ah.of_below bO));clear bO;refine d _ _ (λ_=>hm.box) ?_;clear d K;go_simp;refine Qc [27,28] hm.box ?_;refine dN ?_;go_wp2_with fail;go_meet;exact⟨rfl,_,hm⟩
 obtain⟨rfl,F,V⟩:=hcut;go_wp2_with fail;refine Eh (results_tmp rfl _ _ _) rfl ⟨rfl,V.b⟩
end
end Go.Proofs.YtjcimanddakkaaaGreatDoor
