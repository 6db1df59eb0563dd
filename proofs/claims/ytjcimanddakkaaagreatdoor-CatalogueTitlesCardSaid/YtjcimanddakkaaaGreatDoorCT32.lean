/- Lemmas. -/
import Derived.Test.YtjcimanddakkaaaGreatDoorCT28
import Derived.Test.YtjcimanddakkaaaGreatDoorCT31
import Derived.Test.YtjcimanddakkaaaGreatDoorCT33
set_option maxRecDepth 100000
set_option maxHeartbeats 8000000
namespace Go.Proofs.YtjcimanddakkaaaGreatDoor
open Go.Ending renaming returned→fn
open Go.Value renaming int→J,slice→ih,bool→nq,pointer→qn,map→Ep
open Go.IntKind renaming i64→U,u8→Er
open Go.Lib renaming hid→Z
open Go.Obj renaming cells→h1
open _root_.Option renaming some→X,none→Y
open Tryz
open Go.World renaming alloc_heap_new→Es,cell?_of_block→Ew
open Go.Calls renaming mono→Et
open Go.RowKit.Below renaming refl→Eu,heap_setCell→EH
open _root_.Nat renaming le_refl→Ev,add_assoc→Ey,zero_le→EI
open Go renaming World→Ex,bodyPost_ret→Ez,Calls→EA
open Go.RowKit renaming Below→EB
open _root_.Prod renaming ext→EC
open _root_.List renaming length_append→ED,getElem_mem→EE,take_of_length_le→EF,flatMap_append→EG
section
open Go.RowKit Go.Maps Go.Shelf
theorem pC{f:ag}{N:Nat}(h:(fieldBytes f).length<=N)(n b c:Int):(fieldBytes (gU f n b c)).length<=N+100:=by
 have d:=gj (l:=textsL) (N:=10) (by decide) c;have g:=gj (l:=ie) (N:=10) (by decide) c;have e:=cT f;unfold gU;repeat' split
 .have a:=cT {f with tag:=pick iW c};simp only at a;omega
 .have a:=cT {f with data:=f.data++pick textsL c};simp only[ED]at a;omega
 .have a:=cT {f with ind:=pick ie c};simp only at a;omega
 .have a:=cT {f with subs:=[]};simp only[List.flatMap_nil,List.length_nil]at a;omega
 .have a:=cT {f with subs:=f.subs++[⟨u8I b,pick textsL c⟩]};simp only[EG,ED,List.flatMap_cons,List.flatMap_nil,List.append_nil,aV,List.length_cons]at a;omega
 .have a:=cT {f with subs:=f.subs++[⟨122,pick textsL c⟩]};simp only[EG,ED,List.flatMap_cons,List.flatMap_nil,List.append_nil,aV,List.length_cons]at a;omega
 omega
theorem tV(x:dP):br (saidR x).fields:=by
 have key:∀q:Six,∀n b c:Int,br (spoilR (madeR q) n b c).fields:=λq n b c=>by
  obtain⟨g,d⟩:=jc q;unfold spoilR;repeat' split
  .exact⟨by simp,λf a=>by cases a⟩
  .exact⟨by dsimp only;omega,λf a=>by have:=d f a;omega⟩
  .exact⟨by dsimp only;omega,λf a=>by have:=d f a;omega⟩
  refine⟨by dsimp only;rw[List.length_modify];omega,λf a=>?_⟩;dsimp only at a;obtain⟨i,e,rfl⟩:=List.mem_iff_getElem.1 a;rw[List.getElem_modify];rw[List.length_modify]at e;have h:=d _ (EE e);split
  .have:=pC h n b c;omega
  omega
 unfold saidR;dsimp only;split
 .exact key _ _ _ _
 obtain⟨g,d⟩:=jc (if x.b.tmod 3≠0 then workQ x.b else x.q);exact⟨by omega,λf a=>by have:=d f a;omega⟩
structure bN(FC FM:Nat->Prop)(w:Ex)(c p:Nat)(d:aB):Prop where
 cat:bG FC w c d
 mod:bX FM w p d
 dis:∀k,FC k->FM k->False
theorem bG.lt{F:Nat->Prop}{w:Ex}{c:Nat}{d:aB}(h:bG F w c d):∀k,F k->k<w:=by obtain⟨_,_,_,_,h⟩:=h;exact h.lt
theorem bX.lt{F:Nat->Prop}{w:Ex}{p:Nat}{d:aB}(h:bX F w p d):∀k,F k->k<w:=by obtain⟨_,_,_,_,h⟩:=h;exact h.lt
theorem bG.ok{F:Nat->Prop}{w:Ex}{c:Nat}{d:aB}(h:bG F w c d):bp d:=by obtain⟨_,_,_,_,h⟩:=h;exact h.ok
theorem bN.below{a b:Nat->Prop}{w w':Ex}{c p:Nat}{d:aB}(h:bN a b w c p d)(e:Bw w w'):bN a b w' c p d:=⟨h.cat.below e,h.mod.below e,h.dis⟩
theorem bN.one{a b g:Nat->Prop}{w w1:Ex}{c p:Nat}{d:aB}(h:bN a b w c p d)(f:ai a w g w1):bX b w1 p d:=
 h.mod.step (λk e=>f.block k (h.mod.lt k e) (λi=>h.dis k i e)) f.size
theorem bN.two{o f e l:Nat->Prop}{w w1 n:Ex}{c p:Nat}{d q:aB}(h:bN o f w c p d)(r:bG e w1 c q)(i:ai o w e w1)(u:bX l n p q)(b:ai f w1 l n):
 bN e l n c p q/\ai (λk=>o k∨f k) w (λk=>e k∨l k) n:=by
 have t:∀k,e k->f k->False:=λk a j=>by
  rcases i.new k a with m|m
  .exact h.dis k m j
  have:=h.mod.lt k j;omega
 refine⟨⟨r.step (λk a=>b.block k (r.lt k a) (λj=>t k a j)) b.size,u,λk a j=>?_⟩,?_⟩
 .rcases b.new k j with m|m
  .exact t k a m
  have:=r.lt k a;omega
 have v:ai (λk=>o k∨f k) w (λk=>e k∨f k) w1:=⟨i.os,i.tape,i.output,i.size,λk a hn=>i.block k a (λs=>hn (.inl s)),λk a=>a.elim (λg=>(i.new k g).imp .inl id) (λg=>.inl (.inr g))⟩;have x:ai (λk=>e k∨f k) w1 (λk=>e k∨l k) n:=⟨b.os,b.tape,b.output,b.size,λk a hn=>b.block k a (λs=>hn (.inr s)),λk a=>a.elim (λg=>.inl (.inl g)) (λg=>(b.new k g).imp .inr id)⟩;exact v.trans x
theorem Co(y u:Nat->Prop)(w:Ex)(c p:Nat)(d:aB)(h:bN y u w c p d)(k a b v D E G H I L:Int)(hx:AD ⟨k,a,b,v,⟨D,E,G,H,I,L⟩⟩):
 EA prog 13 #[.agg #[.pointer c,.pointer p],.agg #[k,a,b,v,D,E,G,H,I,L]] w λe w'=>∃B C:Nat->Prop,
  e=fn (.tuple #[J U (actC d ⟨k,a,b,v,⟨D,E,G,H,I,L⟩⟩).2,J U (actC d ⟨k,a,b,v,⟨D,E,G,H,I,L⟩⟩).2])/\bN B C w' c p (actC d ⟨k,a,b,v,⟨D,E,G,H,I,L⟩⟩).1/\ai (λk=>y k∨u k) w (λk=>B k∨C k) w':=by
 obtain⟨b9,hX⟩:∃b9:dP,(⟨k,a,b,v,⟨D,E,G,H,I,L⟩⟩:dP)=b9:=⟨_,rfl⟩;have a7:=AU k a b v D E G H I L hx;have cd:=tV ⟨k,a,b,v,⟨D,E,G,H,I,L⟩⟩;have c4:actC d b9=if k.emod 8=5 then dropC d (recI a) (v.emod 6)else if k.emod 8=6 then decideC d (recI a) (recI b) (v.emod 6) false else if k.emod 8=7 then decideC d (recI a) (recI b) (v.emod 6) true else putC d (recI a) (v.emod 6) (saidR b9):=by rw[<- hX];rfl
 obtain⟨R,hR⟩:=Qe (saidR ⟨k,a,b,v,⟨D,E,G,H,I,L⟩⟩);rw[hR]at a7 cd;rw[<- hX,hR]at c4;have a8:=Z c4;obtain⟨A,hA⟩:=Qe (actC d ⟨k,a,b,v,⟨D,E,G,H,I,L⟩⟩);rw[hA]at a8 ⊢;obtain⟨n,hn⟩:=Qe (v.emod 6);have ad:i64B n:=by rw[<- hn];exact jM v
 obtain⟨mk,cc,lk⟩:=cR k 8 (by omega);have d3:Hid (∀W,EA prog 24 #[k,J U 8] W λe w'=>e=fn (mk:Int)/\W=w'):=dC k 8 mk (by omega) (by omega) cc;have d4:Hid (∀W,EA prog 24 #[v,J U 6] W λe w'=>e=fn (J U n)/\W=w'):=λW=>by rw[<- hn];exact ki v 6 W (by omega) (by omega)
 rw[hn]at a8 a7;have bv:=λW:Ex=>pP a W hx.a;have bw:=λW:Ex=>pP b W hx.b;have a6:=eN a;have b3:=eN b;obtain⟨⟨s,t⟩,cP⟩:∃rr,recI a=rr:=⟨_,rfl⟩;obtain⟨⟨b1,b2⟩,cQ⟩:∃rr,recI b=rr:=⟨_,rfl⟩;rw[cP]at bv a6 a8 a7;rw[cQ]at bw b3 a8;dsimp only[recK]at bv bw;have d7:=Z bv;have d8:=Z bw;have cj:=Z a7;have cp:=Z cd;have b7:Hid (k.emod 8=mk):=cc;obtain⟨w2,b4⟩:=Qe ((w.alloc (h1 #[.pointer c,.pointer p] 27)).alloc (h1 #[k,a,b,v,D,E,G,H,I,L] 47));have cx:Bw w w2:=by rw[<- b4];exact((Eu _ w).alloc (Ev _) _).alloc (by simp) _
 have cs:w2.heap[w.heap.size]?=X (h1 #[.pointer c,.pointer p] 27 (0,0)):=by rw[<- b4,Below.heap_alloc _ _ _ (by simp)];exact Es w _
 have bb:w2.heap[w.heap.size+1]?=X (h1 #[k,a,b,v,D,E,G,H,I,L] 47 (0,0)):=by rw[<- b4];have:=Es (w.alloc (h1 #[.pointer c,.pointer p] 27)) (h1 #[k,a,b,v,D,E,G,H,I,L] 47);rwa[World.size_alloc]at this
 have da:=Z b4;have aT:=Z cx;have cg:=Z cs;have bY:=Z bb;have HH:=Z h;have bO:Hid (∀W,Bw w2 W->W.cell? ⟨w.heap.size+1,0,Y⟩=X (J U k)/\W.cell? ⟨w.heap.size+1,1,Y⟩=X (J U a)/\W.cell? ⟨w.heap.size+1,2,Y⟩=X (J U b)/\W.cell? ⟨w.heap.size+1,3,Y⟩=X (J U v)):=λW hW=>by have l:=(hW.block _ (af bb)).trans bb;exact⟨(ab l 0).trans rfl,(ab l 1).trans rfl,(ab l 2).trans rfl,(ab l 3).trans rfl⟩
 clear hX c4 hR hA hn cc bv bw cP cQ a7 cd b4 cx cs bb h hx;go_enter func13,ntmps13;go_upto_region 1 with fail;rw[da.o];obtain⟨_,x1,_,_⟩:=bO w2 (Eu _ _);go_upto_region 2 with(go_at_call 20;(refine Et (d7.o _) ?_;rintro e w3⟨rfl,bd⟩))
 obtain⟨q6,bs⟩:=Qe w3.heap.size;obtain⟨w4,bA⟩:=Qe (w3.alloc (h1 #[s,t] 36));have ax:w4.heap[q6]?=X (h1 #[s,t] 36 (0,0)):=by rw[<- bA,<- bs];exact Es w3 _
 have c9:Bw w2 w4:=by rw[<- bA];exact bd.alloc bd.size _
 have dx:w2<=q6:=by rw[<- bs];exact bd.size
 rw[bs,bA];clear bs bA bd x1;obtain⟨_,_,x2,_⟩:=bO w4 c9;have c2:=Z ax;have b5:=Z c9;clear ax c9;go_upto_region 3 with(go_at_call 20;(refine Et (d8.o _) ?_;rintro e w5⟨rfl,bk⟩))
 obtain⟨q7,bt⟩:=Qe w5.heap.size;obtain⟨f,bB⟩:=Qe (w5.alloc (h1 #[b1,b2] 36));have bc:f.heap[q7]?=X (h1 #[b1,b2] 36 (0,0)):=by rw[<- bB,<- bt];exact Es w5 _
 have ca:Bw w4 f:=by rw[<- bB];exact bk.alloc bk.size _
 have dy:w4<=q7:=by rw[<- bt];exact bk.size
 have ay:Bw w2 f:=b5.trans (ca.mono b5.size);have ax:f.heap[q6]?=X (h1 #[s,t] 36 (0,0)):=(ca.block _ (af c2.o)).trans c2.o;rw[bt,bB];clear bt bB bk x2;obtain⟨x0,_,_,x3⟩:=bO f ay;have HP:Hid (bN y u f c p d):=HH.below (aT.trans (ay.mono aT.size));have b8:Hid (ai (λk=>y k∨u k) w (λk=>y k∨u k) f):=ai.of_below (aT.trans (ay.mono aT.size));have c1:Hid (w<=q6/\w<=q7/\q6<f/\q7<f/\w.heap.size+1<f):=by have l:=aT.size;have h2:=af ax;have h3:=af bc;have h4:=b5.size;have h5:=af bY.o;have h6:=ay.size;exact⟨by omega,by omega,h2,h3,by omega⟩
 have a5:Hid (∀k,y k∨u k->k<w):=λk r=>r.elim (HH.cat.lt k) (HH.mod.lt k);have b6:Hid (∀W:Ex,(∀q,w.heap.size<=q->q<f->W.heap[q]?=f.heap[q]?)->(W.cell? w=X (.pointer c)/\W.cell? ⟨w,1,Y⟩=X (.pointer p))/\(W.cell? ⟨q6,0,Y⟩=X (J U s)/\W.cell? ⟨q6,1,Y⟩=X (J U t))/\(W.cell? ⟨q7,0,Y⟩=X (J U b1)/\W.cell? ⟨q7,1,Y⟩=X (J U b2))):=λW hW=>by have hl:=c1.o;have g0:=(hW w (Ev _) (by omega)).trans ((ay.block _ (af cg.o)).trans cg.o);have g1:=(hW q6 hl.1 hl.2.2.1).trans ax;have g2:=(hW q7 hl.2.1 hl.2.2.2.1).trans bc;exact⟨⟨(ab g0 0).trans rfl,(ab g0 1).trans rfl⟩,⟨(ab g1 0).trans rfl,(ab g1 1).trans rfl⟩,(ab g2 0).trans rfl,(ab g2 1).trans rfl⟩
 have d0:∀q,w.heap.size<=q->q<f->f.drew.heap[q]?=f.heap[q]?:=λ_ _ _=>rfl;have aa:Hid (∀(F F':Nat->Prop)(W W':Ex),(∀k,F k->k<w)->(∀q,w.heap.size<=q->q<f->W.heap[q]?=f.heap[q]?)->f.heap.size<=W->ai F W F' W'->∀q,w.heap.size<=q->q<f->W'.heap[q]?=f.heap[q]?):=λF F' W W' hF hS hz hs q hq aS=>(hs.block q (by omega) (λhf=>by have:=hF q hf;omega)).trans (hS q hq aS);have d1:=Z ay;have dq:=Z ax;have ds:=Z bc;have a9:=Z d0;clear ay ax bc ca c2 b5 d0
 go_upto_block 0 with(first
  |(go_at_call 24;((with_reducible refine Et (d4.o _) ?_);rintro e o⟨rfl,rfl⟩))
  |(go_at_call 24;((with_reducible refine Et (d3.o _) ?_);rintro e o⟨rfl,rfl⟩)))
 by_cases h5:mk=5
 .subst h5;have O:Hid (dropC d (s,t) n=A):=by unfold Hid;rw[a8.o,b7.o];rw[if_pos (by omega)]
  have hP:=HP.below (Eu _ f).drew;have i:=vV y f.drew c d hP.cat (s,t) n a6 ad;dsimp only[recK]at i;rw[O.o]at i;have al:=Z i;clear i hP;go_wp2_with fail;refine wT (λW:Ex=>∀q,w.heap.size<=q->q<f->W.heap[q]?=f.heap[q]?) 999 ?_;refine Qd [0,2,3,5,7,8,1,6] a9.o b6 ?_;refine Dp 4 λK j=>?_;go_simp;go_at_call 27;with_reducible refine Et al.o ?_
  rintro e o⟨rfl,B,V,m⟩;have a0:=aa y B f.drew o (λk r=>a5 k (.inl r)) a9.o (Ev _) m;have ac:=bN.one (HP.below (Eu _ f).drew) m;have i:=BW u o p d ac (s,t) n a6 ad;dsimp only[recK]at i;rw[O.o]at i;have ao:=Z i;have b0:=Z V;have a4:=Z m;have T:=Z a0;clear i V m ac a0;refine j _ _ (λ_=>T.o) ?_;clear j K;go_simp;refine Dp 9 λK j=>?_;go_simp;go_at_call 42;with_reducible refine Et ao.o ?_
  rintro e N⟨rfl,C,hM,x⟩;have a3:=aa u C o N (λk r=>a5 k (.inr r)) T.o (by have l:=a4.size;exact l) x;have M:=Z a3;have au:=Z hM;have av:=Z x;clear hM x a3;refine j _ _ (λ_=>M.o) ?_;clear j K;go_simp;refine Qc [10,11] M.o ?_;refine dN ?_;go_wp2_with fail;refine Ez (v:=.tuple #[J U A.2,J U A.2]) (by simp[results,Tryz.results13,go_sem]) rfl ?_;obtain⟨az,aC⟩:=bN.two (HP.below (Eu _ f).drew) b0.o a4.o au.o av.o;exact⟨B,C,rfl,az,(b8.trans (ai.of_below (Eu _ f).drew)).trans aC⟩
 by_cases h6:mk=6
 .subst h6;have O:Hid (decideC d (s,t) (b1,b2) n false=A):=by unfold Hid;rw[a8.o,b7.o];rw[if_neg (by omega),if_pos (by omega)]
  have hP:=HP.below (Eu _ f).drew;have i:=tu y f.drew c d hP.cat (s,t) (b1,b2) n a6 b3 ad;dsimp only[recK]at i;rw[O.o]at i;have al:=Z i;clear i hP;go_wp2_with fail;refine wT (λW:Ex=>∀q,w.heap.size<=q->q<f->W.heap[q]?=f.heap[q]?) 999 ?_;refine Qd [0,2,3,4,6,8,9,10,1,7] a9.o b6 ?_;refine Dp 5 λK j=>?_;go_simp;go_at_call 39;with_reducible refine Et al.o ?_
  rintro e o⟨rfl,B,V,m⟩;have a0:=aa y B f.drew o (λk r=>a5 k (.inl r)) a9.o (Ev _) m;have ac:=bN.one (HP.below (Eu _ f).drew) m;have i:=Av u o p d ac (s,t) (b1,b2) n a6 b3 ad;dsimp only[recK]at i;rw[O.o]at i;have ao:=Z i;have b0:=Z V;have a4:=Z m;have T:=Z a0;clear i V m ac a0;refine j _ _ (λ_=>T.o) ?_;clear j K;go_simp;refine Dp 11 λK j=>?_;go_simp;go_at_call 43;with_reducible refine Et ao.o ?_
  rintro e N⟨rfl,C,hM,x⟩;have a3:=aa u C o N (λk r=>a5 k (.inr r)) T.o (by have l:=a4.size;exact l) x;have M:=Z a3;have au:=Z hM;have av:=Z x;clear hM x a3;refine j _ _ (λ_=>M.o) ?_;clear j K;go_simp;refine Qc [12,13] M.o ?_;refine dN ?_;go_wp2_with fail;refine Ez (v:=.tuple #[J U A.2,J U A.2]) (by simp[results,Tryz.results13,go_sem]) rfl ?_;obtain⟨az,aC⟩:=bN.two (HP.below (Eu _ f).drew) b0.o a4.o au.o av.o;exact⟨B,C,rfl,az,(b8.trans (ai.of_below (Eu _ f).drew)).trans aC⟩
 by_cases h7:mk=7
 .subst h7;have O:Hid (decideC d (s,t) (b1,b2) n true=A):=by unfold Hid;rw[a8.o,b7.o];rw[if_neg (by omega),if_neg (by omega),if_pos (by omega)]
  have hP:=HP.below (Eu _ f).drew;have i:=vO y f.drew c d hP.cat (s,t) (b1,b2) n a6 b3 ad;dsimp only[recK]at i;rw[O.o]at i;have al:=Z i;clear i hP;go_wp2_with fail;refine wT (λW:Ex=>∀q,w.heap.size<=q->q<f->W.heap[q]?=f.heap[q]?) 999 ?_;refine Qd [0,2,3,4,6,8,9,10,1,7] a9.o b6 ?_;refine Dp 5 λK j=>?_;go_simp;go_at_call 40;with_reducible refine Et al.o ?_
  rintro e o⟨rfl,B,V,m⟩;have a0:=aa y B f.drew o (λk r=>a5 k (.inl r)) a9.o (Ev _) m;have ac:=bN.one (HP.below (Eu _ f).drew) m;have i:=BK u o p d ac (s,t) (b1,b2) n a6 b3 ad;dsimp only[recK]at i;rw[O.o]at i;have ao:=Z i;have b0:=Z V;have a4:=Z m;have T:=Z a0;clear i V m ac a0;refine j _ _ (λ_=>T.o) ?_;clear j K;go_simp;refine Dp 11 λK j=>?_;go_simp;go_at_call 44;with_reducible refine Et ao.o ?_
  rintro e N⟨rfl,C,hM,x⟩;have a3:=aa u C o N (λk r=>a5 k (.inr r)) T.o (by have l:=a4.size;exact l) x;have M:=Z a3;have au:=Z hM;have av:=Z x;clear hM x a3;refine j _ _ (λ_=>M.o) ?_;clear j K;go_simp;refine Qc [12,13] M.o ?_;refine dN ?_;go_wp2_with fail;refine Ez (v:=.tuple #[J U A.2,J U A.2]) (by simp[results,Tryz.results13,go_sem]) rfl ?_;obtain⟨az,aC⟩:=bN.two (HP.below (Eu _ f).drew) b0.o a4.o au.o av.o;exact⟨B,C,rfl,az,(b8.trans (ai.of_below (Eu _ f).drew)).trans aC⟩
 have c5:((mk:Int)==5)=false:=by simp;omega
 have c6:((mk:Int)==6)=false:=by simp;omega
 have c7:((mk:Int)==7)=false:=by simp;omega
 have O:Hid (putC d (s,t) n R=A):=by unfold Hid;rw[a8.o,b7.o];rw[if_neg (by omega),if_neg (by omega),if_neg (by omega)]
 obtain⟨R1,R2,R3⟩:=R;have a7:=cj.o;dsimp only[li]at a7;have cl:=Z a7;have cm:Hid (br R3):=cp.o;have d5:Hid (∀W:Ex,(∀q,w.heap.size<=q->q<f->W.heap[q]?=f.heap[q]?)->(W.cell? ⟨w.heap.size+1,0,Y⟩=X (J U k)/\W.cell? ⟨w.heap.size+1,1,Y⟩=X (J U a)/\W.cell? ⟨w.heap.size+1,2,Y⟩=X (J U b)/\W.cell? ⟨w.heap.size+1,3,Y⟩=X (J U v))/\W.cell? ⟨w.heap.size+1,4,Y⟩=X (J U D)/\W.cell? ⟨w.heap.size+1,5,Y⟩=X (J U E)/\W.cell? ⟨w.heap.size+1,6,Y⟩=X (J U G)/\W.cell? ⟨w.heap.size+1,7,Y⟩=X (J U H)/\W.cell? ⟨w.heap.size+1,8,Y⟩=X (J U I)/\W.cell? ⟨w.heap.size+1,9,Y⟩=X (J U L)):=λW hW=>by have l:=(hW (w.heap.size+1) (by omega) c1.o.2.2.2.2).trans ((d1.o.block _ (af bY.o)).trans bY.o);exact⟨⟨(ab l 0).trans rfl,(ab l 1).trans rfl,(ab l 2).trans rfl,(ab l 3).trans rfl⟩,(ab l 4).trans rfl,(ab l 5).trans rfl,(ab l 6).trans rfl,(ab l 7).trans rfl,(ab l 8).trans rfl,(ab l 9).trans rfl⟩
 clear a7 cj cp;go_upto_region 11 with fail;refine wT (λW:Ex=>∀q,w.heap.size<=q->q<f->W.heap[q]?=f.heap[q]?) 999 ?_;refine Qd [0,5,1,6] a9.o b6 ?_;refine Qd [2,7] a9.o d5 ?_;refine Dp 3 λK j=>?_;go_simp;go_at_call 45;with_reducible refine Et (cl.o f.drew) ?_
 rintro e o⟨va,vc,rfl,cy,bl⟩;have a0:∀q,w.heap.size<=q->q<f->o.heap[q]?=f.heap[q]?:=λq _ aS=>bl.block q aS;have c3:=(HP.below (Eu _ f).drew).below bl;have i:=ue y o c d c3.cat (s,t) n ⟨R1,R2,R3⟩ (ih va R3.length vc) a6 ad f o cy (Ev _) (λq l _ hF=>by have h2:=a5.o q (.inl hF);have h3:=c1.o;omega) cm.o;rw[O.o]at i;dsimp only[li]at i;have al:=Z i;have T:=Z a0;have ch:=Z c3;have c0:Hid (Bw f o):=(Eu _ f).drew.trans bl;clear i a0 c3 cy bl;refine j _ _ (λ_=>T.o) ?_;clear j K;go_simp;refine Dp 4 λK j=>?_;go_simp;go_at_call 29;with_reducible refine Et al.o ?_
 rintro e N⟨rfl,B,V,m⟩;have a3:=aa y B o N (λk r=>a5 k (.inl r)) T.o c0.size m;have au:Hid (bX u N p d):=bN.one ch.o m;have d2:=Z V;have a4:=Z m;have M:=Z a3;have cq:Hid (f.heap.size<=N):=Nat.le_trans c0.size m.size;clear V m a3;refine j _ _ (λ_=>M.o) ?_;clear j K;go_simp;refine Dp 8 λK j=>?_;go_simp;go_at_call 45;with_reducible refine Et (cl.o N) ?_
 rintro e w9⟨dc,dd,rfl,cz,cb⟩;have cv:∀q,w.heap.size<=q->q<f->w9.heap[q]?=f.heap[q]?:=λq hq aS=>(cb.block q (Nat.lt_of_lt_of_le aS cq.o)).trans (M q hq aS);have i:=CL u N w9 p d au.o cb (s,t) n R1 R2 R3 (ih dc R3.length dd) cz cm.o a6 ad;rw[O.o]at i;dsimp only[li]at i;have ao:=Z i;have d9:=Z cv;clear i cv cz cb;refine j _ _ (λ_=>d9.o) ?_;clear j K;go_simp;refine Dp 9 λK j=>?_;go_simp;go_at_call 46;with_reducible refine Et ao.o ?_
 rintro e dk⟨rfl,C,hM,x⟩;have cu:=aa u C N dk (λk r=>a5 k (.inr r)) M.o cq.o x;have ci:=Z cu;have d6:=Z hM;have av:=Z x;clear hM x cu;refine j _ _ (λ_=>ci.o) ?_;clear j K;go_simp;refine Qc [10,11] ci.o ?_;refine dN ?_;go_wp2_with fail;refine Ez (v:=.tuple #[J U A.2,J U A.2]) (by simp[results,Tryz.results13,go_sem]) rfl ?_;obtain⟨az,aC⟩:=bN.two ch.o d2.o a4.o d6.o av.o;exact⟨B,C,rfl,az,(b8.trans (ai.of_below c0.o)).trans aC⟩
def actL(x:dP):List Value:=[J U x.k,J U x.a,J U x.b,J U x.v,J U x.q.a,J U x.q.b,J U x.q.c,J U x.q.d,J U x.q.e,J U x.q.f]
structure ip(w:Ex)(v:Value)(l:List dP):Prop where
 at_:aL 0 w w v l (l.flatMap actL)
 ok:∀x∈l,AD x
 len:l<=maxLen
theorem ip.keep{w w':Ex}{v:Value}{l:List dP}(h:ip w v l)(a:Bw w w'):ip w' v l:=
 ⟨(h.at_.kept (λq _ b=>a.block q b)).mono (Ev _) a.size,h.ok,h.len⟩
theorem rD(l:List dP)(k:Nat)(h:k<l):runC (l.take (k+1)) cat0=(actC (runC (l.take k) cat0) l[k]).1:=by
 rw[List.take_succ_eq_append_getElem h,yT];rfl
theorem A4(v:Value)(l:List dP)(w:Ex)(h:ip w v l):
 EA prog 11 #[v] w λe w'=>∃(c p:Nat)(f g:Nat->Prop),e=fn (.tuple #[.agg #[.pointer c,.pointer p],nq true])/\bN f g w' c p (jC l)/\Bw w w'/\∀k,f k∨g k->w<=k:=by
 have j:=h.at_;obtain⟨a,ca,rfl,_⟩:=id j;obtain⟨w1,M⟩:=Qe (w.alloc (h1 #[qn Y,qn Y] 27));have z1:w1.heap.size=w+1:=by rw[<- M];simp
 have b0:w1.heap[w.heap.size]?=X (h1 #[qn Y,qn Y] 27 (0,0)):=by rw[<- M];exact Es w _
 obtain⟨r,O⟩:=Qe (w1.alloc (h1 #[Ep Y,Ep Y,Ep Y,qn Y] 117));have z2:r.heap.size=w+2:=by rw[<- O];simp[z1]
 obtain⟨t,R⟩:=Qe (r.alloc (h1 #[ih Y 0 0,ih Y 0 0,ih Y 0 0] 34));have z3:t.heap.size=w+3:=by rw[<- R];simp[z2]
 obtain⟨u,T⟩:=Qe (t.alloc (h1 #[qn (X ⟨w.heap.size+1,0,Y⟩),qn (X ⟨w.heap.size+2,0,Y⟩)] 27));have z4:u.heap.size=w+4:=by rw[<- T];simp[z3]
 have aS:bG (λk=>k=w+1) r (w.heap.size+1) cat0:=by have:=vG w1;rw[z1,O]at this;exact this
 have aT:bX (λk=>k=w+2) t (w.heap.size+2) cat0:=by have:=Bb r;rw[z2,R]at this;exact this
 have a0:Bw r t:=by rw[<- R];exact(Eu _ r).alloc (Ev _) _
 have H:Bw t u:=by rw[<- T];exact(Eu _ t).alloc (Ev _) _
 have ac:Bw w1 r:=by rw[<- O];exact(Eu _ w1).alloc (Ev _) _
 have aC:Bw w w1:=by rw[<- M];exact(Eu _ w).alloc (Ev _) _
 have az:Hid (bN (λk=>k=w+1) (λk=>k=w+2) u (w.heap.size+1) (w.heap.size+2) cat0):=⟨(aS.below a0).below H,aT.below H,λk B h2=>by omega⟩;have b1:u.heap[w.heap.size]?=X (h1 #[qn Y,qn Y] 27 (0,0)):=((H.block _ (by omega)).trans ((a0.block _ (by omega)).trans (ac.block _ (by omega)))).trans b0;have b4:u.heap[w.heap.size+3]?=X (h1 #[qn (X ⟨w.heap.size+1,0,Y⟩),qn (X ⟨w.heap.size+2,0,Y⟩)] 27 (0,0)):=by rw[<- z3,<- T];exact Es t _
 have bk:Hid (Bw w u):=((aC.trans (ac.mono (by omega))).trans (a0.mono (by omega))).trans (H.mono (by omega));have bw:=Z b1;have aa:=Z b4;have ao:=Z (zq w1);have au:=Z (CQ r);rw[z1,O]at ao;rw[z2,R]at au;have bB:=Z M;have bO:=Z T;have bY:=Z z3;have c9:=Z z4;have V:=Z h;clear M O R T z1 z2 z3 z4 b0 b1 b4 aS aT aC ac a0 H h j;go_enter func11,ntmps11;go_upto_region 1 with fail;rw[bB.o]
 go_upto_region 2 with(first
  |(go_at_call 32;((with_reducible refine Et ao.o ?_);rintro e wx⟨rfl,D⟩;have D:=D.symm;subst D))
  |(go_at_call 33;((with_reducible refine Et au.o ?_);rintro e wx⟨rfl,D⟩;have D:=D.symm;subst D)))
 rw[bY.o,bO.o];have t0:u.cell? ⟨w.heap.size+3,0,Y⟩=X (qn (X ⟨w.heap.size+1,0,Y⟩)):=(ab aa.o 0).trans rfl;go_upto_region 5 with fail;clear t0;obtain⟨c,hc⟩:=Qe (w.heap.size+1);obtain⟨p,hp⟩:=Qe (w.heap.size+2);obtain⟨N,hN⟩:=Qe l.length;rw[hc,hp]at az aa;have HN:=Z hN;have a1:N<=maxLen:=by rw[<- hN];exact V.o.len
 have bt:=Z a1;rw[hc,hp,hN];have bl:Hid (w<=c/\w<=p/\c<w+3/\p<w+3/\c≠w/\p≠w):=⟨by omega,by omega,by omega,by omega,by omega,by omega⟩;clear hc hp hN a1;go_loopw [5] (λi wr=>∃(k:Nat)(f g:Nat->Prop),k<=N/\k<=40/\i=J U k/\Hid (bN f g wr c p (runC (l.take k) cat0))/\Hid (∀q,f q∨g q->w<=q/\q≠w/\q≠w+3)/\Hid (wr.heap[w.heap.size]?=X (h1 #[qn Y,qn Y] 27 (0,0)))/\Hid (wr.heap[w.heap.size+3]?=X (h1 #[qn (X ⟨c,0,Y⟩),qn (X ⟨p,0,Y⟩)] 27 (0,0)))/\Hid (Bw w wr)) (λi _=>N-(intOf i).toNat)
 exact⟨0,_,_,EI _,EI _,rfl,az.o,λq m=>by have:=bl.o;rcases m with h|h<;>omega,bw.o,aa.o,bk.o⟩;obtain⟨k,f,g,hk,cg,rfl,HP,y,E,F,G⟩:=hrel;have a1:=bt.o;unfold maxLen at a1;by_cases hlt:k<N/\k<40;rotate_left
 .have r0:wr.cell? w=X (qn Y):=(ab E.o 0).trans rfl;have r1:wr.cell? ⟨w,1,Y⟩=X (qn Y):=(ab E.o 1).trans rfl;have f0:=ae E.o 0;have f1:=ae E.o 1;have t0:wr.cell? ⟨w.heap.size+3,0,Y⟩=X (qn (X ⟨c,0,Y⟩)):=(ab F.o 0).trans rfl;have t1:wr.cell? ⟨w.heap.size+3,1,Y⟩=X (qn (X ⟨p,0,Y⟩)):=(ab F.o 1).trans rfl;have bs:Hid (runC (l.take k) cat0=jC l):=by
   unfold Hid jC;by_cases h4:k=40
   .rw[h4]
   have ch:k=N:=by omega
   rw[EF (by rw[HN.o];omega),EF (by rw[HN.o];omega)]
  have ay:Hid (∃f g:Nat->Prop,bN f g ((wr.setCell w (qn (X ⟨c,0,Y⟩))).setCell ⟨w,1,Y⟩ (qn (X ⟨p,0,Y⟩))) c p (jC l)/\Bw w ((wr.setCell w (qn (X ⟨c,0,Y⟩))).setCell ⟨w,1,Y⟩ (qn (X ⟨p,0,Y⟩)))/\∀k,f k∨g k->w<=k):=by
   have C:=HP.o;rw[bs.o]at C;have ho:∀q,q≠w.heap.size->((wr.setCell w (qn (X ⟨c,0,Y⟩))).setCell ⟨w,1,Y⟩ (qn (X ⟨p,0,Y⟩))).heap[q]?=wr.heap[q]?:=λq m=>by rw[EH _ _ _ _ m,EH _ _ _ _ m]
   exact⟨f,g,⟨C.cat.step (λq m=>ho q (y.o q (.inl m)).2.1) (by simp),C.mod.step (λq m=>ho q (y.o q (.inr m)).2.1) (by simp),C.dis⟩,(G.o.setCell (p:=w) (by simp) _).setCell (p:=⟨w,1,Y⟩) (by simp) _,λq m=>(y.o q m).1⟩
  by_cases a4:k<N
  .have b8:¬k<40:=λh=>hlt ⟨a4,h⟩;have i1:(k:Int)<(N:Int):=by omega
   have i2:¬(k:Int)<40:=by omega
   go_wp2_with fail;refine Ez (v:=.tuple #[.agg #[qn (X ⟨c,0,Y⟩),qn (X ⟨p,0,Y⟩)],nq true]) (by rw[bm rfl];go_simp) rfl ?_;obtain⟨f,g,n,I,e3⟩:=ay.o;exact⟨c,p,rfl,f,g,n,I,e3⟩
  have i1:¬(k:Int)<(N:Int):=by omega
  go_wp2_with fail;refine Ez (v:=.tuple #[.agg #[qn (X ⟨c,0,Y⟩),qn (X ⟨p,0,Y⟩)],nq true]) (by rw[bm rfl];go_simp) rfl ?_;obtain⟨f,g,n,I,e3⟩:=ay.o;exact⟨c,p,rfl,f,g,n,I,e3⟩
 obtain⟨a4,b8⟩:=hlt;have a5:k<l:=by rw[HN.o];exact a4
 have a6:=rD l k a5;have c1:=(V.keep G.o).at_;have al:=V.ok _ (EE a5);obtain⟨x,hx⟩:=Qe (l[k]);obtain⟨a2,c2,hv,b7⟩:=c1;have ad:l.flatMap actL≠[]:=by intro e;have B:=List.flatMap_eq_nil_iff.1 e _ (EE a5);cases B
 obtain⟨b,d,ha,_,c4,b6⟩:=b7 ad;subst ha;injection hv with hv1 hv2 bb
 subst hv1;have j:∀i,i<10->wr.cell? ⟨b,d+(k*10+i),Y⟩=(actL x)[i]?:=λi hi=>by have n:=cE actL 10 (λ_=>rfl) l k a5 i hi;rw[hx]at n;have I:i<(actL x).length:=hi;rw[List.getElem?_eq_getElem I]at n ⊢;exact b6 _ _ n
 rw[hx]at a6 al;obtain⟨xk,xa,xb,xv,⟨qa,qb,qc,qd,qe,qf⟩⟩:=x;have y0:wr.cell? ⟨b,d+k*10,Y⟩=X (J U xk):=(j 0 (by omega)).trans rfl;have y1:wr.cell? ⟨b,d+k*10+1,Y⟩=X (J U xa):=(by rw[Ey];exact(j 1 (by omega)).trans rfl);have y2:wr.cell? ⟨b,d+k*10+2,Y⟩=X (J U xb):=(by rw[Ey];exact(j 2 (by omega)).trans rfl);have y3:wr.cell? ⟨b,d+k*10+3,Y⟩=X (J U xv):=(by rw[Ey];exact(j 3 (by omega)).trans rfl);have y4:wr.cell? ⟨b,d+k*10+4,Y⟩=X (J U qa):=(by rw[Ey];exact(j 4 (by omega)).trans rfl);have y5:wr.cell? ⟨b,d+k*10+5,Y⟩=X (J U qb):=(by rw[Ey];exact(j 5 (by omega)).trans rfl);have y6:wr.cell? ⟨b,d+k*10+6,Y⟩=X (J U qc):=(by rw[Ey];exact(j 6 (by omega)).trans rfl);have y7:wr.cell? ⟨b,d+k*10+7,Y⟩=X (J U qd):=(by rw[Ey];exact(j 7 (by omega)).trans rfl);have y8:wr.cell? ⟨b,d+k*10+8,Y⟩=X (J U qe):=(by rw[Ey];exact(j 8 (by omega)).trans rfl);have y9:wr.cell? ⟨b,d+k*10+9,Y⟩=X (J U qf):=(by rw[Ey];exact(j 9 (by omega)).trans rfl);have HY:Hid (∀W:Ex,(W.heap[b]?=wr.heap[b]? /\W.heap[w.heap.size+3]?=wr.heap[w.heap.size+3]?)->(W.cell? ⟨w.heap.size+3,0,Y⟩=X (qn (X ⟨c,0,Y⟩))/\W.cell? ⟨w.heap.size+3,1,Y⟩=X (qn (X ⟨p,0,Y⟩)))/\(W.cell? ⟨b,d+k*10,Y⟩=X (J U xk)/\W.cell? ⟨b,d+k*10+1,Y⟩=X (J U xa)/\W.cell? ⟨b,d+k*10+2,Y⟩=X (J U xb)/\W.cell? ⟨b,d+k*10+3,Y⟩=X (J U xv))/\W.cell? ⟨b,d+k*10+4,Y⟩=X (J U qa)/\W.cell? ⟨b,d+k*10+5,Y⟩=X (J U qb)/\W.cell? ⟨b,d+k*10+6,Y⟩=X (J U qc)/\W.cell? ⟨b,d+k*10+7,Y⟩=X (J U qd)/\W.cell? ⟨b,d+k*10+8,Y⟩=X (J U qe)/\W.cell? ⟨b,d+k*10+9,Y⟩=X (J U qf)):=λW hW=>by have o:∀i,W.cell? ⟨b,i,Y⟩=wr.cell? ⟨b,i,Y⟩:=λi=>Ew (a:=⟨b,i,Y⟩) hW.1;have ht:=hW.2.trans F.o;exact⟨⟨(ab ht 0).trans rfl,(ab ht 1).trans rfl⟩,⟨(o _).trans y0,(o _).trans y1,(o _).trans y2,(o _).trans y3⟩,(o _).trans y4,(o _).trans y5,(o _).trans y6,(o _).trans y7,(o _).trans y8,(o _).trans y9⟩
 have ax:=Z (Co f g wr.drew c p _ (HP.below (Eu _ wr).drew) xk xa xb xv qa qb qc qd qe qf al);obtain⟨A,hA⟩:=Qe (actC (runC (l.take k) cat0) ⟨xk,xa,xb,xv,⟨qa,qb,qc,qd,qe,qf⟩⟩);rw[hA]at ax a6;have bA:=Z a6;have b5:b<w:=by
  obtain⟨a3,c3,bb,c5⟩:=V.at_;obtain⟨b3,ci,c0,_,cd,_⟩:=c5 ad;subst c0;injection bb with n _ _
  injection n with n
  injection n with n _ _
  omega
 have av:=Z b5;clear j b6 b7 ad c4 y0 y1 y2 y3 y4 y5 y6 y7 y8 y9 a6 hx hA b5 al;have c7:wr.drew.heap[b]?=wr.heap[b]? /\wr.drew.heap[w.heap.size+3]?=wr.heap[w.heap.size+3]?:=⟨rfl,rfl⟩;have i1:(k:Int)<(N:Int):=by omega
 have i2:(k:Int)<40:=by omega
 go_upto_region 7 with fail;refine wT (λW:Ex=>W.heap[b]?=wr.heap[b]? /\W.heap[w.heap.size+3]?=wr.heap[w.heap.size+3]?) 999 ?_;refine Qd [0,1,2,3,4] c7 HY ?_;refine Dp 5 λK hK=>?_;go_simp;go_at_call 13;with_reducible refine Et ax.o ?_
 rintro e w5⟨bc,bd,rfl,C,a7⟩;have hz:=G.size;have b9:=af F.o
 have b2:w5.heap[b]?=wr.heap[b]? /\w5.heap[w.heap.size+3]?=wr.heap[w.heap.size+3]?:=
  ⟨a7.block b (by show b<wr;have:=av.o;omega) (λL=>by have:=y.o b L;have:=av.o;omega),a7.block _ (by show w.heap.size+3<wr;omega) (λL=>by have:=y.o _ L;omega)⟩
 have a8:=Z b2;have bv:=Z C;have a9:=Z a7;clear C a7 b2 hz b9;refine hK _ _ (λ_=>a8.o) ?_;clear hK K;go_simp;refine Qc [6,7,8,9,10] a8.o ?_;refine dN ?_;go_wp2_with fail;go_roundw
 case rel=>
  have hz:=G.size;have b9:=af F.o;have c6:=af E.o;refine⟨k+1,a4,b8,by go_num,bc,bd,?_,λq m=>?_,?_,a8.2.trans F.o,?_⟩
  .unfold Hid;rw[bA.o];exact bv.o
  .rcases a9.new q m with B|B
   .exact y q B
   have h2:wr<=q:=B;omega
  .exact(a9.o.block w c6 (λL=>by have:=y.o _ L;omega)).trans E.o
  exact G.trans (Below.trans (Eu _ wr).drew (a9.below (λq m=>(y q m).1) hz).1)
 simp[intOf];omega
end
section
open Go.RowKit Go.Maps Go.Shelf
section
variable {P:Program} {md:Region.Mode} {ops:Array Oper} {Q:Exit->Act->Ex->Prop} {S:Ex->Prop} {z:Nat}
theorem eu{i j:Nat}{o g:Oper}{n:Nat}{e:Array Bool}{a:Act}{w:Ex}(q:ops[i]?=X o)(r:ops[j]?=X g)
 (h:Region.ready md ops e=[i,j])(m:Region.wanted o (yielded ops a.tmps)=true)(p:Region.wanted g (yielded ops a.tmps)=true)
 (c:∀K:Act->Ex->Prop,(∀b w',(i≠z->S w')->anyT P md ops Q S z n (e.setIfInBounds i true) b w'->K b w')->o.wp P a w K Q)
 (d:∀K:Act->Ex->Prop,(∀b w',(j≠z->S w')->anyT P md ops Q S z n (e.setIfInBounds j true) b w'->K b w')->g.wp P a w K Q):anyT P md ops Q S z (n+1) e a w:=by
 refine⟨λl=>absurd l (by rw[h];simp),λk f=>?_⟩;rw[h]at f;simp only[List.mem_cons,List.not_mem_nil,or_false]at f;rcases f with rfl|rfl
 .unfold wpOp;rw[q];simp only[m,if_true];exact .inl (c _ λb w' c d=>⟨c,d⟩)
 unfold wpOp;rw[r];simp only[p,if_true];exact .inl (d _ λb w' c d=>⟨c,d⟩)
end
structure cS(F:Nat->Prop)(W:Ex)(v:Value)(l:List RK):Prop where
 ex:∃a c,v=.slice a l c/\(l≠[]->∃b off,a=some ⟨b,off,none⟩/\b<W/\¬F b/\∀j x,(l.flatMap rkCells)[j]?=some x->W.cell? ⟨b,off+j,none⟩=some x)
theorem CI{l:List RK}(h:l.flatMap rkCells≠[]):l≠[]:=λe=>h (by rw[e];rfl)
theorem cS.at{F:Nat->Prop}{W:Ex}{v:Value}{l:List RK}(h:cS F W v l):eL 0 W W v l:=by
 obtain⟨a,c,i,h⟩:=h;refine⟨a,c,i,λg=>?_⟩;obtain⟨b,j,d,e,_,f⟩:=h (CI g);exact⟨b,j,d,EI _,e,f⟩
theorem cS.step{F f:Nat->Prop}{W g:Ex}{v:Value}{l:List RK}(h:cS F W v l)(e:ai F W f g):cS f g v l:=by
 obtain⟨a,c,o,h⟩:=h;refine⟨a,c,o,λn=>?_⟩;obtain⟨b,q,k,d,i,m⟩:=h n;refine⟨b,q,k,Nat.lt_of_lt_of_le d e.size,e.not d i,λj x p=>?_⟩;rw[Ew (w:=W) (e.block b d i)];exact m j x p
theorem cS.of_owns{F:Nat->Prop}{W:Ex}{v:Value}{l:List RK}{B:Nat}(h:W.ownsRow B 36 2 v l (l.flatMap rkCells))(f:∀g,v.ownBlock=X g->¬F g):cS F W v l:=by
 obtain⟨a,c,rfl⟩:=aQ h;refine⟨a,c,rfl,λe=>?_⟩;obtain⟨g,k,i,_⟩:=h.form (List.length_pos_iff.2 e);cases i;refine⟨g,0,rfl,(h.lt g rfl).2,f g rfl,λj x b=>?_⟩;have d:=h.cellAt j (by have:=(List.getElem?_eq_some_iff.1 b).1;rw[pM]at this;exact this);rw[Nat.zero_add,d];exact b
theorem cS.new{F:Nat->Prop}{W:Ex}{q:Nat}{l:List RK}{t:TypeId}(n:Nat)(hn:n=l)(h:W.heap[q]?=X (.cells (l.flatMap rkCells).toArray t (0,0)))(a:¬F q):cS F W (ih q n n) l:=by
 subst hn;refine⟨_,_,rfl,λ_=>⟨q,0,rfl,af h,a,λj x b=>?_⟩⟩;rw[Nat.zero_add,ab h,<- b];simp
structure SnS(B:Nat)(w w1:Ex)(F:Nat->Prop)(W:Ex)(d:aB):Prop where
 cat:bG F W B d
 fl:∀k,F k->B<=k/\¬(B+1<=k/\k<=B+5)
 box:∀q,B+1<=q->q<=B+5->W.heap[q]?=w1.heap[q]?
 b:EB B w W
 sz:B+6<=W
theorem SnS.step{B:Nat}{w w1 W f:Ex}{F e:Nat->Prop}{d i:aB}(h:SnS B w w1 F W d)(l:bG e f B i)(c:ai F W e f):SnS B w w1 e f i:=by
 have n:=h.sz;refine⟨l,λk g=>?_,λq a j=>?_,h.b.trans (c.below (λk g=>(h.fl k g).1) (by omega)).1,Nat.le_trans h.sz c.size⟩
 .rcases c.new k g with a|a
  .exact h.fl k a
  omega
 exact(c.block q (by omega) (λm=>(h.fl q m).2 ⟨a,j⟩)).trans (h.box q a j)
theorem SnS.below{B:Nat}{w w1 W a:Ex}{F:Nat->Prop}{d:aB}(h:SnS B w w1 F W d)(b:EB W W a):SnS B w w1 F a d:=h.step (h.cat.below b) (ai.of_below b)
theorem lO(t:Bs)(h:t.length<=1000):br (ez t).fields:=by
 refine⟨by simp[ez],λf a=>?_⟩;simp only[ez,List.mem_cons,List.not_mem_nil,or_false]at a;rcases a with rfl|rfl
 .simp[fieldBytes,aV]
 simp[fieldBytes,aV];omega
def vv:Nat->aB
 |0=>cat0
 |1=>CF
 |2=>CE
 |_=>wK
def keyAt:Nat->RK
 |0=>(1,1)
 |1=>(1,2)
 |_=>(2,1)
theorem CK(k:Nat)(d:k<3):putC (vv k) (keyAt k) 1 (ez iL)=(vv (k+1),0):=by
 obtain⟨a,b,c,_⟩:=vu;have:k=0∨k=1∨k=2:=by omega
 rcases this with rfl|rfl|rfl
 .exact EC rfl a
 .exact EC rfl b
 exact EC rfl c
theorem bK{k:RK}(h:0<=k.1/\k.1<=100/\0<=k.2/\k.2<=100):rkOk k:=by
 unfold rkOk i64B;omega
theorem CU(k:Nat):rkOk (keyAt k):=by
 refine bK ?_;unfold keyAt;split<;>decide
theorem Dc:putC wK (2,2) 1 (ez oJ)=(lj,0):=EC rfl vu.2.2.2
theorem Di:decideC lj (1,1) (2,1) 1 false=(jz,0):=EC rfl ge.1
theorem Dg:decideC jz (2,2) (2,1) 1 true=(yR,0):=EC rfl dR.1
theorem Dh:dropC yR (1,1) 2=(nv,0):=EC rfl dR.2.1
theorem wJ(w:Ex):EA prog 10 #[] w λe w'=>e=fn (nq true)/\EB w w w':=by
 obtain⟨B,hB⟩:=Qe w.heap.size;have hw:=zq w;have hD:=vG w;obtain⟨O,eq⟩:=Qe (w.alloc (h1 #[Ep Y,Ep Y,Ep Y,qn Y] 117));obtain⟨R,c9⟩:=Qe (O.alloc (h1 #[J U 1,J U 1] 36));obtain⟨T,ca⟩:=Qe (R.alloc (h1 #[J U 1,J U 2] 36));obtain⟨u4,cb⟩:=Qe (T.alloc (h1 #[J U 2,J U 1] 36));obtain⟨p,cc⟩:=Qe (u4.alloc (h1 #[J U 2,J U 2] 36));obtain⟨w1,cd⟩:=Qe (p.alloc (h1 #[J U 1,J U 1,J U 1,J U 2,J U 2,J U 1] 36));have z1:O=B+1:=by rw[<- eq,<- hB];simp
 have z2:R=B+2:=by rw[<- c9];simp[z1]
 have z3:T=B+3:=by rw[<- ca];simp[z2]
 have z4:u4=B+4:=by rw[<- cb];simp[z3]
 have z5:p=B+5:=by rw[<- cc];simp[z4]
 have z6:w1=B+6:=by rw[<- cd];simp[z5]
 rw[eq,hB]at hw hD;have n2:EB B w O:=by rw[<- eq,<- hB];exact(Eu _ w).alloc (Ev _) _
 have o:EB O O R:=by rw[<- c9];exact(Eu _ O).alloc (Ev _) _
 have n3:EB R R T:=by rw[<- ca];exact(Eu _ R).alloc (Ev _) _
 have n4:EB T T u4:=by rw[<- cb];exact(Eu _ T).alloc (Ev _) _
 have hv:EB u4 u4 p:=by rw[<- cc];exact(Eu _ u4).alloc (Ev _) _
 have a0:EB p p w1:=by rw[<- cd];exact(Eu _ p).alloc (Ev _) _
 have hu:EB T T w1:=(n4.trans (hv.mono (by omega))).trans (a0.mono (by omega));have ht:EB R R w1:=n3.trans (hu.mono (by omega));have hs:EB O O w1:=o.trans (ht.mono (by omega));have d4:w1.heap[B+1]?=X (h1 #[J U 1,J U 1] 36 (0,0)):=(ht.block _ (by omega)).trans (by rw[<- c9,<- z1];exact Es O _);have d5:w1.heap[B+2]?=X (h1 #[J U 1,J U 2] 36 (0,0)):=(hu.block _ (by omega)).trans (by rw[<- ca,<- z2];exact Es R _);have d6:w1.heap[B+3]?=X (h1 #[J U 2,J U 1] 36 (0,0)):=((a0.block _ (by omega)).trans (hv.block _ (by omega))).trans (by rw[<- cb,<- z3];exact Es T _);have oa:w1.heap[B+4]?=X (h1 #[J U 2,J U 2] 36 (0,0)):=(a0.block _ (by omega)).trans (by rw[<- cc,<- z4];exact Es u4 _);have hx:w1.heap[B+5]?=X (h1 #[J U 1,J U 1,J U 1,J U 2,J U 2,J U 1] 36 (0,0)):=by rw[<- cd,<- z5];exact Es p _
 have y2:Hid (SnS B w w1 (λk=>k=B) w1 cat0):=⟨(hD.below hs),λk hk=>by omega,λ_ _ _=>rfl,n2.trans (hs.mono (by omega)),by omega⟩;have u:Hid (∀W:Ex,(∀q,B+1<=q->q<=B+5->W.heap[q]?=w1.heap[q]?)->(W.cell? ⟨B+1,0,Y⟩=X (J U 1)/\W.cell? ⟨B+1,1,Y⟩=X (J U 1))/\(W.cell? ⟨B+2,0,Y⟩=X (J U 1)/\W.cell? ⟨B+2,1,Y⟩=X (J U 2))/\(W.cell? ⟨B+3,0,Y⟩=X (J U 2)/\W.cell? ⟨B+3,1,Y⟩=X (J U 1))/\(W.cell? ⟨B+4,0,Y⟩=X (J U 2)/\W.cell? ⟨B+4,1,Y⟩=X (J U 2))/\W.cell? ⟨B+5,0,Y⟩=X (J U 1)/\W.cell? ⟨B+5,1,Y⟩=X (J U 1)/\W.cell? ⟨B+5,2,Y⟩=X (J U 1)/\W.cell? ⟨B+5,3,Y⟩=X (J U 2)/\W.cell? ⟨B+5,4,Y⟩=X (J U 2)/\W.cell? ⟨B+5,5,Y⟩=X (J U 1)):=λW h=>by have g1:=(h (B+1) (by omega) (by omega)).trans d4;have g2:=(h (B+2) (by omega) (by omega)).trans d5;have g3:=(h (B+3) (by omega) (by omega)).trans d6;have g4:=(h (B+4) (by omega) (by omega)).trans oa;have g5:=(h (B+5) (by omega) (by omega)).trans hx;exact⟨⟨(ab g1 0).trans rfl,(ab g1 1).trans rfl⟩,⟨(ab g2 0).trans rfl,(ab g2 1).trans rfl⟩,⟨(ab g3 0).trans rfl,(ab g3 1).trans rfl⟩,⟨(ab g4 0).trans rfl,(ab g4 1).trans rfl⟩,(ab g5 0).trans rfl,(ab g5 1).trans rfl,(ab g5 2).trans rfl,(ab g5 3).trans rfl,(ab g5 4).trans rfl,(ab g5 5).trans rfl⟩
 have m1:p.cell? ⟨B+1,0,Y⟩=X (J U 1):=(Ew (a:=⟨B+1,0,Y⟩) (a0.block (B+1) (by omega))).symm.trans ((ab d4 0).trans rfl);have m2:p.cell? ⟨B+1,1,Y⟩=X (J U 1):=(Ew (a:=⟨B+1,1,Y⟩) (a0.block (B+1) (by omega))).symm.trans ((ab d4 1).trans rfl);have m3:p.cell? ⟨B+2,0,Y⟩=X (J U 1):=(Ew (a:=⟨B+2,0,Y⟩) (a0.block (B+2) (by omega))).symm.trans ((ab d5 0).trans rfl);have m4:p.cell? ⟨B+2,1,Y⟩=X (J U 2):=(Ew (a:=⟨B+2,1,Y⟩) (a0.block (B+2) (by omega))).symm.trans ((ab d5 1).trans rfl);have m5:p.cell? ⟨B+3,0,Y⟩=X (J U 2):=(Ew (a:=⟨B+3,0,Y⟩) (a0.block (B+3) (by omega))).symm.trans ((ab d6 0).trans rfl);have m6:p.cell? ⟨B+3,1,Y⟩=X (J U 1):=(Ew (a:=⟨B+3,1,Y⟩) (a0.block (B+3) (by omega))).symm.trans ((ab d6 1).trans rfl);have s5:=Z hw;have tx:=Z hx;have y3:=Z c9;have y4:=Z ca;have y5:=Z cb;have y6:=Z cc;have y7:=Z cd;have c1:Hid (O=B+1/\R=B+2/\T=B+3/\u4=B+4/\p=B+5):=⟨z1,z2,z3,z4,z5⟩;rw[hB];clear hB hw hD eq c9 ca cb cc cd z1 z2 z3 z4 z5 z6 n2 o n3 n4 hv a0 hu ht hs d4 d5 d6 oa hx;go_enter func10,ntmps10;go_upto_region 2 with(go_at_call 32;(refine Et s5.o ?_;rintro e wx⟨rfl,j3⟩;have j3:=j3.symm;subst j3))
 go_upto_region 5 with fail;rw[c1.o.1,y3.o];go_upto_region 6 with fail;rw[c1.o.2.1,y4.o];go_upto_region 7 with fail;rw[c1.o.2.2.1,y5.o];go_upto_region 8 with fail;rw[c1.o.2.2.2.1,y6.o];go_upto_region 10 with fail;rw[c1.o.2.2.2.2,y7.o];clear m1 m2 m3 m4 m5 m6;go_loopw [7] (λi wr=>∃(k:Nat)(F:Nat->Prop),k<=3/\i=J U k/\Hid (SnS B w w1 F wr (vv k))) (λi _=>3-(intOf i).toNat)
 exact⟨0,_,by omega,rfl,y2⟩;obtain⟨k,F,hk,rfl,V⟩:=hrel;by_cases hlt:k<3
 .have i1:(k:Int)<3:=by omega
  obtain⟨⟨rg,rk⟩,dz⟩:∃kk,keyAt k=kk:=⟨_,rfl⟩;have ts:Hid (∀W:Ex,(∀q,B+1<=q->q<=B+5->W.heap[q]?=w1.heap[q]?)->W.cell? ⟨B+5,k*2,Y⟩=X (J U rg)/\W.cell? ⟨B+5,k*2+1,Y⟩=X (J U rk)):=λW h=>by
   obtain⟨_,_,_,_,A,C,v,x,o,y⟩:=u W h;have:k=0∨k=1∨k=2:=by omega
   rcases this with rfl|rfl|rfl
   .obtain⟨rfl,rfl⟩:=Prod.mk.inj dz.symm;exact⟨A,C⟩
   .obtain⟨rfl,rfl⟩:=Prod.mk.inj dz.symm;exact⟨v,x⟩
   obtain⟨rfl,rfl⟩:=Prod.mk.inj dz.symm;exact⟨o,y⟩
  go_upto_region 12 with fail;have n:=Z (V.below (Eu _ wr).drew);go_wp2_with fail;refine wT (λW:Ex=>∀q,B+1<=q->q<=B+5->W.heap[q]?=w1.heap[q]?) 999 ?_;refine Qc [0,1,2] n.box ?_;refine Qd [3,4] n.box ts ?_;refine Dp 5 λK d=>?_;go_simp;go_at_call 28;refine Et (show EA prog 28 #[.string ⟨#[78,97,110,97]⟩] wr.drew _ from vf iL wr.drew) ?_;rintro e W1⟨s0,s2,rfl,oi,hA⟩;have cy:=Z (n.below hA);have As:=Z hA;have tr:=Z oi;clear hA oi;refine d _ _ (λ_=>cy.box) ?_;clear d K;go_simp;refine Qc [6] cy.box ?_
  refine Dp 7 λK d=>?_;go_simp;have dy:=ue F W1 B (vv k) cy.o.cat (keyAt k) 1 (ez iL) (ih s0 2 s2) (CU k) (by unfold i64B;decide) wr.drew W1 tr.o (Ev _) (λq r _ hF=>by have s:=n.o.cat.lt q hF;omega) (lO iL (by decide));rw[CK k (by omega)]at dy;rw[dz]at dy;have sM:Hid (EA prog 29 #[qn (X ⟨B,0,Y⟩),.agg #[rg,rk,J U 1,J Er 97,J Er 109,ih s0 2 s2]] W1 _):=dy;clear dy;go_at_call 29;with_reducible refine Et sM.o ?_
  rintro e W7⟨rfl,F8,o5,rl⟩;have gq:=Z (cy.step o5 rl);clear o5 rl;refine d _ _ (λ_=>gq.box) ?_;clear d K;go_simp;refine Qc [8] gq.box ?_
  refine dN ?_;go_wp2_with fail;go_roundw;exact⟨k+1,F8,by omega,by go_num,gq⟩;simp[intOf];omega
 obtain rfl:k=3:=by omega
 have V:Hid (SnS B w w1 F wr wK):=V;clear hlt hk;go_upto_region 14 with fail;go_cut [8] (λt wx=>t=nq true/\∃F:Nat->Prop,Hid (SnS B w w1 F wx lj))
 case first=>
  generalize wr=wc at*;have n:=Z (V.below (Eu _ wc).drew);go_wp2_with fail;refine wT (λW:Ex=>∀q,B+1<=q->q<=B+5->W.heap[q]?=w1.heap[q]?) 999 ?_;have tt:Hid (cS F wc.drew (ih (X ⟨B+5,0,Y⟩) 3 3) [(1,1),(1,2),(2,1)]):=cS.new 3 rfl ((n.o.box (B+5) (by omega) (by omega)).trans tx.o) (λf=>(n.o.fl _ f).2 ⟨by omega,by omega⟩);refine Qd [0,1] n.box u ?_;refine Dp 2 λK d=>?_;go_simp;go_at_call 28;refine Et (show EA prog 28 #[.string ⟨#[71,101,114,109,105,110,97,108]⟩] wc.drew _ from vf oJ wc.drew) ?_;rintro e hj⟨rW,s1,rfl,og,d8⟩;have cx:=Z (n.below d8);have Ac:=Z d8;have tl:=Z og;have v5:=Z (tt.step (ai.of_below d8));clear d8 og;refine d _ _ (λ_=>cx.box) ?_;clear d K;go_simp;refine Qc [3] cx.box ?_
  refine Dp 4 λK d=>?_;go_simp;have hS:=ue F hj B wK cx.o.cat (2,2) 1 (ez oJ) (ih rW 2 s1) (bK (by decide)) (by unfold i64B;decide) wc.drew hj tl.o (Ev _) (λq r _ hF=>by have s:=n.o.cat.lt q hF;omega) (lO oJ (by decide));rw[Dc]at hS;have si:Hid (EA prog 29 #[qn (X ⟨B,0,Y⟩),.agg #[J U 2,J U 2,J U 1,J Er 97,J Er 109,ih rW 2 s1]] hj _):=hS;clear hS;go_at_call 29;with_reducible refine Et si.o ?_
  rintro e a3⟨rfl,cq,nb,j4⟩;have ac:=Z (cx.step nb j4);have ky:=Z (v5.step j4);clear nb j4;refine d _ _ (λ_=>ac.box) ?_;clear d K;go_simp;refine Qc [5,6] ac.box ?_;refine Qd [7,9,10] ac.box u ?_;refine eu (i:=8) (j:=11) rfl rfl (by kernel_rfl) (by rfl) (by rfl) (λK d=>?_) (λK d=>?_)
  .go_simp;have i4:=eh cq a3 B lj ac.cat (by decide+kernel);rw[ly.1]at i4;have sp:Hid (EA prog 18 #[qn (X ⟨B,0,Y⟩)] a3 _):=i4;clear i4;go_at_call 18;with_reducible refine Et sp.o ?_
   rintro e ay⟨Eg,gp,rfl,nu,jb,qz,q0⟩;have wa:=Z (cS.of_owns (l:=[(1,1),(2,2)]) qz q0);clear qz q0;have h8:=Z (ac.step nu jb);have wq:=Z (ky.step jb);clear nu jb;refine d _ _ (λ_=>h8.box) ?_;clear d K;go_simp;refine Dq 11 λK d=>?_;go_simp;obtain⟨hq,f6⟩:=Qe (ay.alloc (h1 #[J U 1,J U 1,J U 2,J U 2] 36));obtain⟨g0,e9⟩:=Qe ay.heap.size;have dq:EB ay ay hq:=by rw[<- f6];exact(Eu _ ay).alloc (Ev _) _
   have q6:hq.heap[g0]?=X (h1 #[J U 1,J U 1,J U 2,J U 2] 36 (0,0)):=by rw[<- f6,<- e9];exact Es ay _
   have p1:¬gp g0:=λf=>by have r:=h8.o.cat.lt g0 f;have s:ay=g0:=e9;omega
   have mo:=Z (h8.below dq);have x3:=Z (wq.step (ai.of_below dq));have ls:=Z (wa.step (ai.of_below dq));have lp:=Z (cS.new (F:=gp) (l:=[(1,1),(2,2)]) 2 rfl q6 p1);try rw[e9]
   try rw[f6]
   clear f6 e9 dq q6 p1;refine d _ _ (λ_=>mo.box) ?_;clear d K;go_simp;refine Dq 12 λK d=>?_;go_simp;have iS:=cC _ _ [(1,1),(2,2)] [(1,1),(2,2)] hq ls.at lp.at (by decide) (by decide);rw[show decide (([(1,1),(2,2)]:List RK)=[(1,1),(2,2)])=true from by decide]at iS;have te:=Z iS;clear iS;go_at_call 17;with_reducible refine Et te.o ?_
   rintro e n0⟨rfl,c7⟩;have c0:=Z (mo.below c7);have xb:=Z (x3.step (ai.of_below c7));have xc:=Z (ls.step (ai.of_below c7));have xd:=Z (lp.step (ai.of_below c7));clear c7;refine d _ _ (λ_=>c0.box) ?_;clear d K;go_simp;refine Qc [13,14] c0.box ?_;refine Qd [15,16,18] c0.box u ?_;refine Dq 17 λK d=>?_;go_simp;have j0:=cf gp n0 B lj c0.cat (by decide+kernel) (1,1) (bK (by decide));rw[ly.2]at j0;have sz:Hid (EA prog 22 #[qn (X ⟨B,0,Y⟩),.agg #[J U 1,J U 1]] n0 _):=j0;clear j0;go_at_call 22;with_reducible refine Et sz.o ?_
   rintro e za⟨En,A2,rfl,o3,cm,ra,qd⟩;have lB:=Z (cS.of_owns (l:=[(1,1),(1,2),(2,1)]) ra qd);clear ra qd;have mt:=Z (c0.step o3 cm);have lE:=Z (xb.step cm);have xk:=Z (xc.step cm);have xs:=Z (xd.step cm);clear o3 cm;refine d _ _ (λ_=>mt.box) ?_;clear d K;go_simp;refine Dq 19 λK d=>?_;go_simp;have j1:=cC _ _ [(1,1),(1,2),(2,1)] [(1,1),(1,2),(2,1)] za lB.at lE.at (by decide) (by decide);rw[show decide (([(1,1),(1,2),(2,1)]:List RK)=[(1,1),(1,2),(2,1)])=true from by decide]at j1;have th:=Z j1;clear j1;go_at_call 17;with_reducible refine Et th.o ?_
   rintro e E8⟨rfl,bB⟩;have hh:=Z (mt.below bB);have DV:=Z (lE.step (ai.of_below bB));have DW:=Z (xk.step (ai.of_below bB));have DX:=Z (xs.step (ai.of_below bB));have DY:=Z (lB.step (ai.of_below bB));clear bB;refine d _ _ (λ_=>hh.box) ?_;clear d K;go_simp;refine Qc [20,21] hh.box ?_;refine dN ?_;go_wp2_with fail;go_meet;exact⟨rfl,_,hh⟩
  go_simp;obtain⟨d3,f9⟩:=Qe (a3.alloc (h1 #[J U 1,J U 1,J U 2,J U 2] 36));obtain⟨g9,em⟩:=Qe a3.heap.size;have hC:EB a3 a3 d3:=by rw[<- f9];exact(Eu _ a3).alloc (Ev _) _
  have qe:d3.heap[g9]?=X (h1 #[J U 1,J U 1,J U 2,J U 2] 36 (0,0)):=by rw[<- f9,<- em];exact Es a3 _
  have p5:¬cq g9:=λf=>by have r:=ac.o.cat.lt g9 f;have s:a3=g9:=em;omega
  have hi:=Z (ac.below hC);have y0:=Z (ky.step (ai.of_below hC));have xv:=Z (cS.new (F:=cq) (l:=[(1,1),(2,2)]) 2 rfl qe p5);try rw[em]
  try rw[f9]
  clear f9 em hC qe p5;refine d _ _ (λ_=>hi.box) ?_;clear d K;go_simp;refine Dq 8 λK d=>?_;go_simp;have j2:=eh cq d3 B lj hi.cat (by decide+kernel);rw[ly.1]at j2;have sC:Hid (EA prog 18 #[qn (X ⟨B,0,Y⟩)] d3 _):=j2;clear j2;go_at_call 18;with_reducible refine Et sC.o ?_
  rintro e zb⟨Eo,s4,rfl,o4,gn,rc,qf⟩;have lP:=Z (cS.of_owns (l:=[(1,1),(2,2)]) rc qf);clear rc qf;have mv:=Z (hi.step o4 gn);have y1:=Z (y0.step gn);have lQ:=Z (xv.step gn);clear o4 gn;refine d _ _ (λ_=>mv.box) ?_;clear d K;go_simp;refine Dq 12 λK d=>?_;go_simp;have hG:=cC _ _ [(1,1),(2,2)] [(1,1),(2,2)] zb lP.at lQ.at (by decide) (by decide);rw[show decide (([(1,1),(2,2)]:List RK)=[(1,1),(2,2)])=true from by decide]at hG;have t0:=Z hG;clear hG;go_at_call 17;with_reducible refine Et t0.o ?_
  rintro e n1⟨rfl,c2⟩;have bO:=Z (mv.below c2);have ty:=Z (y1.step (ai.of_below c2));have tz:=Z (lQ.step (ai.of_below c2));have tO:=Z (lP.step (ai.of_below c2));clear c2;refine d _ _ (λ_=>bO.box) ?_;clear d K;go_simp;refine Qc [13,14] bO.box ?_;refine Qd [15,16,18] bO.box u ?_;refine Dq 17 λK d=>?_;go_simp;have hH:=cf s4 n1 B lj bO.cat (by decide+kernel) (1,1) (bK (by decide));rw[ly.2]at hH;have s6:Hid (EA prog 22 #[qn (X ⟨B,0,Y⟩),.agg #[J U 1,J U 1]] n1 _):=hH;clear hH;go_at_call 22;with_reducible refine Et s6.o ?_
  rintro e y8⟨E9,zd,rfl,n5,cg,qk,pa⟩;have k6:=Z (cS.of_owns (l:=[(1,1),(1,2),(2,1)]) qk pa);clear qk pa;have lT:=Z (bO.step n5 cg);have k7:=Z (ty.step cg);have ua:=Z (tz.step cg);have uc:=Z (tO.step cg);clear n5 cg;refine d _ _ (λ_=>lT.box) ?_;clear d K;go_simp;refine Dq 19 λK d=>?_;go_simp;have hI:=cC _ _ [(1,1),(1,2),(2,1)] [(1,1),(1,2),(2,1)] y8 k6.at k7.at (by decide) (by decide);rw[show decide (([(1,1),(1,2),(2,1)]:List RK)=[(1,1),(1,2),(2,1)])=true from by decide]at hI;have t1:=Z hI;clear hI;go_at_call 17;with_reducible refine Et t1.o ?_
  rintro e DZ⟨rfl,bc⟩;have gs:=Z (lT.below bc);have At:=Z (k7.step (ai.of_below bc));have AA:=Z (ua.step (ai.of_below bc));have AC:=Z (uc.step (ai.of_below bc));have AS:=Z (k6.step (ai.of_below bc));clear bc;refine d _ _ (λ_=>gs.box) ?_;clear d K;go_simp;refine Qc [20,21] gs.box ?_;refine dN ?_;go_wp2_with fail;go_meet;exact⟨rfl,_,gs⟩
 obtain⟨rfl,F,V⟩:=hcut;go_upto_region 15 with fail;go_cut [9] (λt wx=>t=nq true/\∃F:Nat->Prop,Hid (SnS B w w1 F wx jz))
 case first=>
  have n:=Z (V.below (Eu _ wc).drew);go_wp2_with fail;refine wT (λW:Ex=>∀q,B+1<=q->q<=B+5->W.heap[q]?=w1.heap[q]?) 999 ?_;refine Qd [0,1,2] n.box u ?_;refine Dp 3 λK d=>?_;go_simp;have hJ:=tu F wc.drew B lj n.cat (1,1) (2,1) 1 (bK (by decide)) (bK (by decide)) (by unfold i64B;decide);rw[Di]at hJ;have s8:Hid (EA prog 39 #[qn (X ⟨B,0,Y⟩),.agg #[J U 1,J U 1],.agg #[J U 2,J U 1],J U 1] wc.drew _):=hJ;clear hJ;go_at_call 39;with_reducible refine Et s8.o ?_
  rintro e a1⟨rfl,cp,n6,rr⟩;have a8:=Z (n.step n6 rr);clear n6 rr;refine d _ _ (λ_=>a8.box) ?_;clear d K;go_simp;refine Qc [4,5] a8.box ?_;refine Qd [6,8,9,10] a8.box u ?_;refine eu (i:=7) (j:=11) rfl rfl (by kernel_rfl) (by rfl) (by rfl) (λK d=>?_) (λK d=>?_)
  .go_simp;have hL:=eh cp a1 B jz a8.cat (by decide+kernel);rw[ge.2.1]at hL;have sa:Hid (EA prog 18 #[qn (X ⟨B,0,Y⟩)] a1 _):=hL;clear hL;go_at_call 18;with_reducible refine Et sa.o ?_
   rintro e au⟨Ea,aT,rfl,n7,rs,qo,pb⟩;have up:=Z (cS.of_owns (l:=[(1,1),(2,1),(2,2)]) qo pb);clear qo pb;have gt:=Z (a8.step n7 rs);clear n7 rs;refine d _ _ (λ_=>gt.box) ?_;clear d K;go_simp;refine Dq 11 λK d=>?_;go_simp;obtain⟨hl,er⟩:=Qe (au.alloc (h1 #[J U 1,J U 1,J U 2,J U 1,J U 2,J U 2] 36));obtain⟨fb,e0⟩:=Qe au.heap.size;have hy:EB au au hl:=by rw[<- er];exact(Eu _ au).alloc (Ev _) _
   have pc:hl.heap[fb]?=X (h1 #[J U 1,J U 1,J U 2,J U 1,J U 2,J U 2] 36 (0,0)):=by rw[<- er,<- e0];exact Es au _
   have oj:¬aT fb:=λf=>by have r:=gt.o.cat.lt fb f;have s:au=fb:=e0;omega
   have m0:=Z (gt.below hy);have k9:=Z (up.step (ai.of_below hy));have k8:=Z (cS.new (F:=aT) (l:=[(1,1),(2,1),(2,2)]) 3 rfl pc oj);try rw[e0]
   try rw[er]
   clear er e0 hy pc oj;refine d _ _ (λ_=>m0.box) ?_;clear d K;go_simp;refine Dq 12 λK d=>?_;go_simp;have hM:=cC _ _ [(1,1),(2,1),(2,2)] [(1,1),(2,1),(2,2)] hl k9.at k8.at (by decide) (by decide);rw[show decide (([(1,1),(2,1),(2,2)]:List RK)=[(1,1),(2,1),(2,2)])=true from by decide]at hM;have t2:=Z hM;clear hM;go_at_call 17;with_reducible refine Et t2.o ?_
   rintro e a2⟨rfl,d7⟩;have a9:=Z (m0.below d7);have ka:=Z (k9.step (ai.of_below d7));have kb:=Z (k8.step (ai.of_below d7));clear d7;refine d _ _ (λ_=>a9.box) ?_;clear d K;go_simp;refine Qc [13,14] a9.box ?_;refine Qd [15,16,18,19] a9.box u ?_;refine eu (i:=17) (j:=20) rfl rfl (by kernel_rfl) (by rfl) (by rfl) (λK d=>?_) (λK d=>?_)
   .go_simp;have hN:=cf aT a2 B jz a9.cat (by decide+kernel) (1,1) (bK (by decide));rw[ge.2.2]at hN;have sb:Hid (EA prog 22 #[qn (X ⟨B,0,Y⟩),.agg #[J U 1,J U 1]] a2 _):=hN;clear hN;go_at_call 22;with_reducible refine Et sb.o ?_
    rintro e av⟨Eb,k2,rfl,n8,gb,qq,pd⟩;have v0:=Z (cS.of_owns (l:=[(1,1),(1,2)]) qq pd);clear qq pd;have gx:=Z (a9.step n8 gb);have v1:=Z (ka.step gb);have v2:=Z (kb.step gb);clear n8 gb;refine d _ _ (λ_=>gx.box) ?_;clear d K;go_simp;refine Dq 20 λK d=>?_;go_simp;obtain⟨hm,es⟩:=Qe (av.alloc (h1 #[J U 1,J U 1,J U 1,J U 2] 36));obtain⟨fc,e1⟩:=Qe av.heap.size;have c3:EB av av hm:=by rw[<- es];exact(Eu _ av).alloc (Ev _) _
    have pe:hm.heap[fc]?=X (h1 #[J U 1,J U 1,J U 1,J U 2] 36 (0,0)):=by rw[<- es,<- e1];exact Es av _
    have ok:¬k2 fc:=λf=>by have r:=gx.o.cat.lt fc f;have s:av=fc:=e1;omega
    have m7:=Z (gx.below c3);have v3:=Z (v1.step (ai.of_below c3));have v4:=Z (v2.step (ai.of_below c3));have kd:=Z (v0.step (ai.of_below c3));have kc:=Z (cS.new (F:=k2) (l:=[(1,1),(1,2)]) 2 rfl pe ok);try rw[e1]
    try rw[es]
    clear es e1 c3 pe ok;refine d _ _ (λ_=>m7.box) ?_;clear d K;go_simp;refine Dq 21 λK d=>?_;go_simp;have hO:=cC _ _ [(1,1),(1,2)] [(1,1),(1,2)] hm kd.at kc.at (by decide) (by decide);rw[show decide (([(1,1),(1,2)]:List RK)=[(1,1),(1,2)])=true from by decide]at hO;have t3:=Z hO;clear hO;go_at_call 17;with_reducible refine Et t3.o ?_
    rintro e E0⟨rfl,bd⟩;have gy:=Z (m7.below bd);have AT:=Z (v3.step (ai.of_below bd));have B1:=Z (v4.step (ai.of_below bd));have B2:=Z (kd.step (ai.of_below bd));have Bo:=Z (kc.step (ai.of_below bd));clear bd;refine d _ _ (λ_=>gy.box) ?_;clear d K;go_simp;refine Qc [22,23] gy.box ?_;refine dN ?_;go_wp2_with fail;go_meet;exact⟨rfl,_,gy⟩
   go_simp;obtain⟨cz,ex⟩:=Qe (a2.alloc (h1 #[J U 1,J U 1,J U 1,J U 2] 36));obtain⟨fp,e2⟩:=Qe a2.heap.size;have d9:EB a2 a2 cz:=by rw[<- ex];exact(Eu _ a2).alloc (Ev _) _
   have pf:cz.heap[fp]?=X (h1 #[J U 1,J U 1,J U 1,J U 2] 36 (0,0)):=by rw[<- ex,<- e2];exact Es a2 _
   have op:¬aT fp:=λf=>by have r:=a9.o.cat.lt fp f;have s:a2=fp:=e2;omega
   have gz:=Z (a9.below d9);have v7:=Z (ka.step (ai.of_below d9));have v9:=Z (kb.step (ai.of_below d9));have v6:=Z (cS.new (F:=aT) (l:=[(1,1),(1,2)]) 2 rfl pf op);try rw[e2]
   try rw[ex]
   clear ex e2 d9 pf op;refine d _ _ (λ_=>gz.box) ?_;clear d K;go_simp;refine Dq 17 λK d=>?_;go_simp;have hP:=cf aT cz B jz gz.cat (by decide+kernel) (1,1) (bK (by decide));rw[ge.2.2]at hP;have sc:Hid (EA prog 22 #[qn (X ⟨B,0,Y⟩),.agg #[J U 1,J U 1]] cz _):=hP;clear hP;go_at_call 22;with_reducible refine Et sc.o ?_
   rintro e y9⟨Ec,zp,rfl,n9,ch,qs,pk⟩;have kl:=Z (cS.of_owns (l:=[(1,1),(1,2)]) qs pk);clear qs pk;have ma:=Z (gz.step n9 ch);have va:=Z (v7.step ch);have vb:=Z (v9.step ch);have kn:=Z (v6.step ch);clear n9 ch;refine d _ _ (λ_=>ma.box) ?_;clear d K;go_simp;refine Dq 21 λK d=>?_;go_simp;have hQ:=cC _ _ [(1,1),(1,2)] [(1,1),(1,2)] y9 kl.at kn.at (by decide) (by decide);rw[show decide (([(1,1),(1,2)]:List RK)=[(1,1),(1,2)])=true from by decide]at hQ;have t4:=Z hQ;clear hQ;go_at_call 17;with_reducible refine Et t4.o ?_
   rintro e E1⟨rfl,bk⟩;have gO:=Z (ma.below bk);have Bq:=Z (va.step (ai.of_below bk));have By:=Z (vb.step (ai.of_below bk));have BY:=Z (kn.step (ai.of_below bk));have D0:=Z (kl.step (ai.of_below bk));clear bk;refine d _ _ (λ_=>gO.box) ?_;clear d K;go_simp;refine Qc [22,23] gO.box ?_;refine dN ?_;go_wp2_with fail;go_meet;exact⟨rfl,_,gO⟩
  go_simp;obtain⟨cP,eQ⟩:=Qe (a1.alloc (h1 #[J U 1,J U 1,J U 2,J U 1,J U 2,J U 2] 36));obtain⟨fr,e3⟩:=Qe a1.heap.size;have ob:EB a1 a1 cP:=by rw[<- eQ];exact(Eu _ a1).alloc (Ev _) _
  have pl:cP.heap[fr]?=X (h1 #[J U 1,J U 1,J U 2,J U 1,J U 2,J U 2] 36 (0,0)):=by rw[<- eQ,<- e3];exact Es a1 _
  have os:¬cp fr:=λf=>by have r:=a8.o.cat.lt fr f;have s:a1=fr:=e3;omega
  have gP:=Z (a8.below ob);have vc:=Z (cS.new (F:=cp) (l:=[(1,1),(2,1),(2,2)]) 3 rfl pl os);try rw[e3]
  try rw[eQ]
  clear eQ e3 ob pl os;refine d _ _ (λ_=>gP.box) ?_;clear d K;go_simp;refine Dq 7 λK d=>?_;go_simp;have hR:=eh cp cP B jz gP.cat (by decide+kernel);rw[ge.2.1]at hR;have se:Hid (EA prog 18 #[qn (X ⟨B,0,Y⟩)] cP _):=hR;clear hR;go_at_call 18;with_reducible refine Et se.o ?_
  rintro e ya⟨Ed,cs,rfl,ne,ja,qt,po⟩;have ko:=Z (cS.of_owns (l:=[(1,1),(2,1),(2,2)]) qt po);clear qt po;have mb:=Z (gP.step ne ja);have kq:=Z (vc.step ja);clear ne ja;refine d _ _ (λ_=>mb.box) ?_;clear d K;go_simp;refine Dq 12 λK d=>?_;go_simp;have hT:=cC _ _ [(1,1),(2,1),(2,2)] [(1,1),(2,1),(2,2)] ya ko.at kq.at (by decide) (by decide);rw[show decide (([(1,1),(2,1),(2,2)]:List RK)=[(1,1),(2,1),(2,2)])=true from by decide]at hT;have t5:=Z hT;clear hT;go_at_call 17;with_reducible refine Et t5.o ?_
  rintro e a4⟨rfl,da⟩;have aa:=Z (mb.below da);have ks:=Z (kq.step (ai.of_below da));have kt:=Z (ko.step (ai.of_below da));clear da;refine d _ _ (λ_=>aa.box) ?_;clear d K;go_simp;refine Qc [13,14] aa.box ?_;refine Qd [15,16,18,19] aa.box u ?_;refine eu (i:=17) (j:=20) rfl rfl (by kernel_rfl) (by rfl) (by rfl) (λK d=>?_) (λK d=>?_)
  .go_simp;have hV:=cf cs a4 B jz aa.cat (by decide+kernel) (1,1) (bK (by decide));rw[ge.2.2]at hV;have sj:Hid (EA prog 22 #[qn (X ⟨B,0,Y⟩),.agg #[J U 1,J U 1]] a4 _):=hV;clear hV;go_at_call 22;with_reducible refine Et sj.o ?_
   rintro e ax⟨Ee,k3,rfl,nf,gd,qv,pr⟩;have vd:=Z (cS.of_owns (l:=[(1,1),(1,2)]) qv pr);clear qv pr;have gQ:=Z (aa.step nf gd);have vs:=Z (ks.step gd);have vt:=Z (kt.step gd);clear nf gd;refine d _ _ (λ_=>gQ.box) ?_;clear d K;go_simp;refine Dq 20 λK d=>?_;go_simp;obtain⟨hn,f0⟩:=Qe (ax.alloc (h1 #[J U 1,J U 1,J U 1,J U 2] 36));obtain⟨fs,e4⟩:=Qe ax.heap.size;have c4:EB ax ax hn:=by rw[<- f0];exact(Eu _ ax).alloc (Ev _) _
   have ps:hn.heap[fs]?=X (h1 #[J U 1,J U 1,J U 1,J U 2] 36 (0,0)):=by rw[<- f0,<- e4];exact Es ax _
   have ov:¬k3 fs:=λf=>by have r:=gQ.o.cat.lt fs f;have s:ax=fs:=e4;omega
   have mc:=Z (gQ.below c4);have vx:=Z (vs.step (ai.of_below c4));have vy:=Z (vt.step (ai.of_below c4));have kx:=Z (vd.step (ai.of_below c4));have kv:=Z (cS.new (F:=k3) (l:=[(1,1),(1,2)]) 2 rfl ps ov);try rw[e4]
   try rw[f0]
   clear f0 e4 c4 ps ov;refine d _ _ (λ_=>mc.box) ?_;clear d K;go_simp;refine Dq 21 λK d=>?_;go_simp;have hW:=cC _ _ [(1,1),(1,2)] [(1,1),(1,2)] hn kx.at kv.at (by decide) (by decide);rw[show decide (([(1,1),(1,2)]:List RK)=[(1,1),(1,2)])=true from by decide]at hW;have t6:=Z hW;clear hW;go_at_call 17;with_reducible refine Et t6.o ?_
   rintro e E2⟨rfl,bl⟩;have h0:=Z (mc.below bl);have D1:=Z (vx.step (ai.of_below bl));have D2:=Z (vy.step (ai.of_below bl));have D3:=Z (kx.step (ai.of_below bl));have D4:=Z (kv.step (ai.of_below bl));clear bl;refine d _ _ (λ_=>h0.box) ?_;clear d K;go_simp;refine Qc [22,23] h0.box ?_;refine dN ?_;go_wp2_with fail;go_meet;exact⟨rfl,_,h0⟩
  go_simp;obtain⟨cQ,f1⟩:=Qe (a4.alloc (h1 #[J U 1,J U 1,J U 1,J U 2] 36));obtain⟨ft,e5⟩:=Qe a4.heap.size;have dc:EB a4 a4 cQ:=by rw[<- f1];exact(Eu _ a4).alloc (Ev _) _
  have pt:cQ.heap[ft]?=X (h1 #[J U 1,J U 1,J U 1,J U 2] 36 (0,0)):=by rw[<- f1,<- e5];exact Es a4 _
  have oF:¬cs ft:=λf=>by have r:=aa.o.cat.lt ft f;have s:a4=ft:=e5;omega
  have h3:=Z (aa.below dc);have vN:=Z (ks.step (ai.of_below dc));have w0:=Z (kt.step (ai.of_below dc));have vz:=Z (cS.new (F:=cs) (l:=[(1,1),(1,2)]) 2 rfl pt oF);try rw[e5]
  try rw[f1]
  clear f1 e5 dc pt oF;refine d _ _ (λ_=>h3.box) ?_;clear d K;go_simp;refine Dq 17 λK d=>?_;go_simp;have hX:=cf cs cQ B jz h3.cat (by decide+kernel) (1,1) (bK (by decide));rw[ge.2.2]at hX;have sk:Hid (EA prog 22 #[qn (X ⟨B,0,Y⟩),.agg #[J U 1,J U 1]] cQ _):=hX;clear hX;go_at_call 22;with_reducible refine Et sk.o ?_
  rintro e yc⟨Ef,zs,rfl,nn,ci,qx,pv⟩;have kz:=Z (cS.of_owns (l:=[(1,1),(1,2)]) qx pv);clear qx pv;have me:=Z (h3.step nn ci);have w2:=Z (vN.step ci);have w3:=Z (w0.step ci);have l1:=Z (vz.step ci);clear nn ci;refine d _ _ (λ_=>me.box) ?_;clear d K;go_simp;refine Dq 21 λK d=>?_;go_simp;have hY:=cC _ _ [(1,1),(1,2)] [(1,1),(1,2)] yc kz.at l1.at (by decide) (by decide);rw[show decide (([(1,1),(1,2)]:List RK)=[(1,1),(1,2)])=true from by decide]at hY;have t7:=Z hY;clear hY;go_at_call 17;with_reducible refine Et t7.o ?_
  rintro e E3⟨rfl,bs⟩;have h4:=Z (me.below bs);have D5:=Z (w2.step (ai.of_below bs));have D6:=Z (w3.step (ai.of_below bs));have D7:=Z (l1.step (ai.of_below bs));have D8:=Z (kz.step (ai.of_below bs));clear bs;refine d _ _ (λ_=>h4.box) ?_;clear d K;go_simp;refine Qc [22,23] h4.box ?_;refine dN ?_;go_wp2_with fail;go_meet;exact⟨rfl,_,h4⟩
 obtain⟨rfl,F,V⟩:=hcut;go_upto_region 16 with fail;go_cut [10] (λt wx=>t=nq true/\∃F:Nat->Prop,Hid (SnS B w w1 F wx nv))
 case first=>
  have n:=Z (V.below (Eu _ wc).drew);go_wp2_with fail;refine wT (λW:Ex=>∀q,B+1<=q->q<=B+5->W.heap[q]?=w1.heap[q]?) 999 ?_;refine Qd [0,1,2] n.box u ?_;refine Dp 3 λK d=>?_;go_simp;have hZ:=vO F wc.drew B jz n.cat (2,2) (2,1) 1 (bK (by decide)) (bK (by decide)) (by unfold i64B;decide);rw[Dg]at hZ;have sl:Hid (EA prog 40 #[qn (X ⟨B,0,Y⟩),.agg #[J U 2,J U 2],.agg #[J U 2,J U 1],J U 1] wc.drew _):=hZ;clear hZ;go_at_call 40;with_reducible refine Et sl.o ?_
  rintro e mP⟨rfl,s3,nx,rt⟩;have bY:=Z (n.step nx rt);clear nx rt;refine d _ _ (λ_=>bY.box) ?_;clear d K;go_simp;refine Qc [4,5] bY.box ?_;refine Qd [6,7] bY.box u ?_;refine Dq 8 λK d=>?_;go_simp;have i0:=vV s3 mP B yR bY.cat (1,1) 2 (bK (by decide)) (by unfold i64B;decide);rw[Dh]at i0;have sm:Hid (EA prog 27 #[qn (X ⟨B,0,Y⟩),.agg #[J U 1,J U 1],J U 2] mP _):=i0;clear i0;go_at_call 27;with_reducible refine Et sm.o ?_
  rintro e a5⟨rfl,cu,ny,rx⟩;have ad:=Z (bY.step ny rx);clear ny rx;refine d _ _ (λ_=>ad.box) ?_;clear d K;go_simp;refine Qc [9,10,11] ad.box ?_;refine Qd [12,14] ad.box u ?_;refine eu (i:=13) (j:=15) rfl rfl (by kernel_rfl) (by rfl) (by rfl) (λK d=>?_) (λK d=>?_)
  .go_simp;have i2:=eh cu a5 B nv ad.cat (by decide+kernel);rw[dR.2.2.1]at i2;have so:Hid (EA prog 18 #[qn (X ⟨B,0,Y⟩)] a5 _):=i2;clear i2;go_at_call 18;with_reducible refine Et so.o ?_
   rintro e az⟨Eh,bb,rfl,nz,ry,qy,px⟩;have w4:=Z (cS.of_owns (l:=[(1,2)]) qy px);clear qy px;have h5:=Z (ad.step nz ry);clear nz ry;refine d _ _ (λ_=>h5.box) ?_;clear d K;go_simp;refine Dq 15 λK d=>?_;go_simp;obtain⟨ho,f2⟩:=Qe (az.alloc (h1 #[J U 1,J U 2] 36));obtain⟨fx,e6⟩:=Qe az.heap.size;have hz:EB az az ho:=by rw[<- f2];exact(Eu _ az).alloc (Ev _) _
   have py:ho.heap[fx]?=X (h1 #[J U 1,J U 2] 36 (0,0)):=by rw[<- f2,<- e6];exact Es az _
   have oN:¬bb fx:=λf=>by have r:=h5.o.cat.lt fx f;have s:az=fx:=e6;omega
   have mf:=Z (h5.below hz);have l3:=Z (w4.step (ai.of_below hz));have l2:=Z (cS.new (F:=bb) (l:=[(1,2)]) 1 rfl py oN);try rw[e6]
   try rw[f2]
   clear f2 e6 hz py oN;refine d _ _ (λ_=>mf.box) ?_;clear d K;go_simp;refine Dq 16 λK d=>?_;go_simp;have i6:=cC _ _ [(1,2)] [(1,2)] ho l3.at l2.at (by decide) (by decide);rw[show decide (([(1,2)]:List RK)=[(1,2)])=true from by decide]at i6;have t8:=Z i6;clear i6;go_at_call 17;with_reducible refine Et t8.o ?_
   rintro e a6⟨rfl,dd⟩;have al:=Z (mf.below dd);have l4:=Z (l3.step (ai.of_below dd));have l5:=Z (l2.step (ai.of_below dd));clear dd;refine d _ _ (λ_=>al.box) ?_;clear d K;go_simp;refine Qc [17,18] al.box ?_;refine Qd [19,20,22,23,24] al.box u ?_;refine eu (i:=21) (j:=25) rfl rfl (by kernel_rfl) (by rfl) (by rfl) (λK d=>?_) (λK d=>?_)
   .go_simp;have i8:=cf bb a6 B nv al.cat (by decide+kernel) (1,2) (bK (by decide));rw[dR.2.2.2]at i8;have sq:Hid (EA prog 22 #[qn (X ⟨B,0,Y⟩),.agg #[J U 1,J U 2]] a6 _):=i8;clear i8;go_at_call 22;with_reducible refine Et sq.o ?_
    rintro e aC⟨Ei,k4,rfl,nE,gf,r0,pz⟩;have w5:=Z (cS.of_owns (l:=[(1,2),(2,1),(2,2)]) r0 pz);clear r0 pz;have h6:=Z (al.step nE gf);have w6:=Z (l4.step gf);have w7:=Z (l5.step gf);clear nE gf;refine d _ _ (λ_=>h6.box) ?_;clear d K;go_simp;refine Dq 25 λK d=>?_;go_simp;obtain⟨hp,f3⟩:=Qe (aC.alloc (h1 #[J U 1,J U 2,J U 2,J U 1,J U 2,J U 2] 36));obtain⟨fy,e7⟩:=Qe aC.heap.size;have c5:EB aC aC hp:=by rw[<- f3];exact(Eu _ aC).alloc (Ev _) _
    have q1:hp.heap[fy]?=X (h1 #[J U 1,J U 2,J U 2,J U 1,J U 2,J U 2] 36 (0,0)):=by rw[<- f3,<- e7];exact Es aC _
    have oR:¬k4 fy:=λf=>by have r:=h6.o.cat.lt fy f;have s:aC=fy:=e7;omega
    have ml:=Z (h6.below c5);have w8:=Z (w6.step (ai.of_below c5));have w9:=Z (w7.step (ai.of_below c5));have l7:=Z (w5.step (ai.of_below c5));have l6:=Z (cS.new (F:=k4) (l:=[(1,2),(2,1),(2,2)]) 3 rfl q1 oR);try rw[e7]
    try rw[f3]
    clear f3 e7 c5 q1 oR;refine d _ _ (λ_=>ml.box) ?_;clear d K;go_simp;refine Dq 26 λK d=>?_;go_simp;have ia:=cC _ _ [(1,2),(2,1),(2,2)] [(1,2),(2,1),(2,2)] hp l7.at l6.at (by decide) (by decide);rw[show decide (([(1,2),(2,1),(2,2)]:List RK)=[(1,2),(2,1),(2,2)])=true from by decide]at ia;have t9:=Z ia;clear ia;go_at_call 17;with_reducible refine Et t9.o ?_
    rintro e E4⟨rfl,bt⟩;have h7:=Z (ml.below bt);have D9:=Z (w8.step (ai.of_below bt));have Do:=Z (w9.step (ai.of_below bt));have DH:=Z (l7.step (ai.of_below bt));have DI:=Z (l6.step (ai.of_below bt));clear bt;refine d _ _ (λ_=>h7.box) ?_;clear d K;go_simp;refine Qc [27,28] h7.box ?_;refine dN ?_;go_wp2_with fail;go_meet;exact⟨rfl,_,h7⟩
   go_simp;obtain⟨d0,f4⟩:=Qe (a6.alloc (h1 #[J U 1,J U 2,J U 2,J U 1,J U 2,J U 2] 36));obtain⟨fz,e8⟩:=Qe a6.heap.size;have dk:EB a6 a6 d0:=by rw[<- f4];exact(Eu _ a6).alloc (Ev _) _
   have q2:d0.heap[fz]?=X (h1 #[J U 1,J U 2,J U 2,J U 1,J U 2,J U 2] 36 (0,0)):=by rw[<- f4,<- e8];exact Es a6 _
   have p0:¬bb fz:=λf=>by have r:=al.o.cat.lt fz f;have s:a6=fz:=e8;omega
   have h9:=Z (al.below dk);have wf:=Z (l4.step (ai.of_below dk));have wp:=Z (l5.step (ai.of_below dk));have wb:=Z (cS.new (F:=bb) (l:=[(1,2),(2,1),(2,2)]) 3 rfl q2 p0);try rw[e8]
   try rw[f4]
   clear f4 e8 dk q2 p0;refine d _ _ (λ_=>h9.box) ?_;clear d K;go_simp;refine Dq 21 λK d=>?_;go_simp;have ib:=cf bb d0 B nv h9.cat (by decide+kernel) (1,2) (bK (by decide));rw[dR.2.2.2]at ib;have ss:Hid (EA prog 22 #[qn (X ⟨B,0,Y⟩),.agg #[J U 1,J U 2]] d0 _):=ib;clear ib;go_at_call 22;with_reducible refine Et ss.o ?_
   rintro e ys⟨Ej,zz,rfl,nF,cj,r1,q3⟩;have la:=Z (cS.of_owns (l:=[(1,2),(2,1),(2,2)]) r1 q3);clear r1 q3;have mm:=Z (h9.step nF cj);have ws:=Z (wf.step cj);have wu:=Z (wp.step cj);have lb:=Z (wb.step cj);clear nF cj;refine d _ _ (λ_=>mm.box) ?_;clear d K;go_simp;refine Dq 26 λK d=>?_;go_simp;have it:=cC _ _ [(1,2),(2,1),(2,2)] [(1,2),(2,1),(2,2)] ys la.at lb.at (by decide) (by decide);rw[show decide (([(1,2),(2,1),(2,2)]:List RK)=[(1,2),(2,1),(2,2)])=true from by decide]at it;have ta:=Z it;clear it;go_at_call 17;with_reducible refine Et ta.o ?_
   rintro e E5⟨rfl,bv⟩;have ha:=Z (mm.below bv);have DJ:=Z (ws.step (ai.of_below bv));have DK:=Z (wu.step (ai.of_below bv));have DL:=Z (lb.step (ai.of_below bv));have DM:=Z (la.step (ai.of_below bv));clear bv;refine d _ _ (λ_=>ha.box) ?_;clear d K;go_simp;refine Qc [27,28] ha.box ?_;refine dN ?_;go_wp2_with fail;go_meet;exact⟨rfl,_,ha⟩
  go_simp;obtain⟨d1,f5⟩:=Qe (a5.alloc (h1 #[J U 1,J U 2] 36));obtain⟨g6,eb⟩:=Qe a5.heap.size;have oc:EB a5 a5 d1:=by rw[<- f5];exact(Eu _ a5).alloc (Ev _) _
  have q4:d1.heap[g6]?=X (h1 #[J U 1,J U 2] 36 (0,0)):=by rw[<- f5,<- eb];exact Es a5 _
  have p2:¬cu g6:=λf=>by have r:=ad.o.cat.lt g6 f;have s:a5=g6:=eb;omega
  have hb:=Z (ad.below oc);have wy:=Z (cS.new (F:=cu) (l:=[(1,2)]) 1 rfl q4 p2);try rw[eb]
  try rw[f5]
  clear f5 eb oc q4 p2;refine d _ _ (λ_=>hb.box) ?_;clear d K;go_simp;refine Dq 13 λK d=>?_;go_simp;have iv:=eh cu d1 B nv hb.cat (by decide+kernel);rw[dR.2.2.1]at iv;have st:Hid (EA prog 18 #[qn (X ⟨B,0,Y⟩)] d1 _):=iv;clear iv;go_at_call 18;with_reducible refine Et st.o ?_
  rintro e z0⟨Ek,cv,rfl,nO,jn,r2,q5⟩;have ld:=Z (cS.of_owns (l:=[(1,2)]) r2 q5);clear r2 q5;have mn:=Z (hb.step nO jn);have le:=Z (wy.step jn);clear nO jn;refine d _ _ (λ_=>mn.box) ?_;clear d K;go_simp;refine Dq 16 λK d=>?_;go_simp;have iD:=cC _ _ [(1,2)] [(1,2)] z0 ld.at le.at (by decide) (by decide);rw[show decide (([(1,2)]:List RK)=[(1,2)])=true from by decide]at iD;have tb:=Z iD;clear iD;go_at_call 17;with_reducible refine Et tb.o ?_
  rintro e a7⟨rfl,ds⟩;have ao:=Z (mn.below ds);have lf:=Z (le.step (ai.of_below ds));have lk:=Z (ld.step (ai.of_below ds));clear ds;refine d _ _ (λ_=>ao.box) ?_;clear d K;go_simp;refine Qc [17,18] ao.box ?_;refine Qd [19,20,22,23,24] ao.box u ?_;refine eu (i:=21) (j:=25) rfl rfl (by kernel_rfl) (by rfl) (by rfl) (λK d=>?_) (λK d=>?_)
  .go_simp;have iF:=cf cv a7 B nv ao.cat (by decide+kernel) (1,2) (bK (by decide));rw[dR.2.2.2]at iF;have su:Hid (EA prog 22 #[qn (X ⟨B,0,Y⟩),.agg #[J U 1,J U 2]] a7 _):=iF;clear iF;go_at_call 22;with_reducible refine Et su.o ?_
   rintro e aS⟨El,k5,rfl,o1,gi,r4,q7⟩;have wz:=Z (cS.of_owns (l:=[(1,2),(2,1),(2,2)]) r4 q7);clear r4 q7;have hc:=Z (ao.step o1 gi);have wB:=Z (lf.step gi);have x0:=Z (lk.step gi);clear o1 gi;refine d _ _ (λ_=>hc.box) ?_;clear d K;go_simp;refine Dq 25 λK d=>?_;go_simp;obtain⟨hr,f7⟩:=Qe (aS.alloc (h1 #[J U 1,J U 2,J U 2,J U 1,J U 2,J U 2] 36));obtain⟨g7,eg⟩:=Qe aS.heap.size;have c6:EB aS aS hr:=by rw[<- f7];exact(Eu _ aS).alloc (Ev _) _
   have qa:hr.heap[g7]?=X (h1 #[J U 1,J U 2,J U 2,J U 1,J U 2,J U 2] 36 (0,0)):=by rw[<- f7,<- eg];exact Es aS _
   have p3:¬k5 g7:=λf=>by have r:=hc.o.cat.lt g7 f;have s:aS=g7:=eg;omega
   have mp:=Z (hc.below c6);have x1:=Z (wB.step (ai.of_below c6));have x2:=Z (x0.step (ai.of_below c6));have lo:=Z (wz.step (ai.of_below c6));have lm:=Z (cS.new (F:=k5) (l:=[(1,2),(2,1),(2,2)]) 3 rfl qa p3);try rw[eg]
   try rw[f7]
   clear f7 eg c6 qa p3;refine d _ _ (λ_=>mp.box) ?_;clear d K;go_simp;refine Dq 26 λK d=>?_;go_simp;have iN:=cC _ _ [(1,2),(2,1),(2,2)] [(1,2),(2,1),(2,2)] hr lo.at lm.at (by decide) (by decide);rw[show decide (([(1,2),(2,1),(2,2)]:List RK)=[(1,2),(2,1),(2,2)])=true from by decide]at iN;have tc:=Z iN;clear iN;go_at_call 17;with_reducible refine Et tc.o ?_
   rintro e E6⟨rfl,bw⟩;have hd:=Z (mp.below bw);have DN:=Z (x1.step (ai.of_below bw));have DO:=Z (x2.step (ai.of_below bw));have DP:=Z (lo.step (ai.of_below bw));have DQ:=Z (lm.step (ai.of_below bw));clear bw;refine d _ _ (λ_=>hd.box) ?_;clear d K;go_simp;refine Qc [27,28] hd.box ?_;refine dN ?_;go_wp2_with fail;go_meet;exact⟨rfl,_,hd⟩
  go_simp;obtain⟨d2,f8⟩:=Qe (a7.alloc (h1 #[J U 1,J U 2,J U 2,J U 1,J U 2,J U 2] 36));obtain⟨g8,ej⟩:=Qe a7.heap.size;have dx:EB a7 a7 d2:=by rw[<- f8];exact(Eu _ a7).alloc (Ev _) _
  have qb:d2.heap[g8]?=X (h1 #[J U 1,J U 2,J U 2,J U 1,J U 2,J U 2] 36 (0,0)):=by rw[<- f8,<- ej];exact Es a7 _
  have p4:¬cv g8:=λf=>by have r:=ao.o.cat.lt g8 f;have s:a7=g8:=ej;omega
  have he:=Z (ao.below dx);have x5:=Z (lf.step (ai.of_below dx));have x6:=Z (lk.step (ai.of_below dx));have x4:=Z (cS.new (F:=cv) (l:=[(1,2),(2,1),(2,2)]) 3 rfl qb p4);try rw[ej]
  try rw[f8]
  clear f8 ej dx qb p4;refine d _ _ (λ_=>he.box) ?_;clear d K;go_simp;refine Dq 21 λK d=>?_;go_simp;have iP:=cf cv d2 B nv he.cat (by decide+kernel) (1,2) (bK (by decide));rw[dR.2.2.2]at iP;have sx:Hid (EA prog 22 #[qn (X ⟨B,0,Y⟩),.agg #[J U 1,J U 2]] d2 _):=iP;clear iP;go_at_call 22;with_reducible refine Et sx.o ?_
  rintro e z9⟨Em,A1,rfl,o2,cl,r9,qc⟩;have lv:=Z (cS.of_owns (l:=[(1,2),(2,1),(2,2)]) r9 qc);clear r9 qc;have ms:=Z (he.step o2 cl);have x7:=Z (x5.step cl);have xa:=Z (x6.step cl);have lx:=Z (x4.step cl);clear o2 cl;refine d _ _ (λ_=>ms.box) ?_;clear d K;go_simp;refine Dq 26 λK d=>?_;go_simp;have iQ:=cC _ _ [(1,2),(2,1),(2,2)] [(1,2),(2,1),(2,2)] z9 lv.at lx.at (by decide) (by decide);rw[show decide (([(1,2),(2,1),(2,2)]:List RK)=[(1,2),(2,1),(2,2)])=true from by decide]at iQ;have td:=Z iQ;clear iQ;go_at_call 17;with_reducible refine Et td.o ?_
  rintro e E7⟨rfl,bA⟩;have hg:=Z (ms.below bA);have DR:=Z (x7.step (ai.of_below bA));have DS:=Z (xa.step (ai.of_below bA));have DT:=Z (lx.step (ai.of_below bA));have DU:=Z (lv.step (ai.of_below bA));clear bA;refine d _ _ (λ_=>hg.box) ?_;clear d K;go_simp;refine Qc [27,28] hg.box ?_;refine dN ?_;go_wp2_with fail;go_meet;exact⟨rfl,_,hg⟩
 obtain⟨rfl,F,V⟩:=hcut;go_wp2_with fail;refine Ez (results_tmp rfl _ _ _) rfl ⟨rfl,V.b⟩
end
end Go.Proofs.YtjcimanddakkaaaGreatDoor
