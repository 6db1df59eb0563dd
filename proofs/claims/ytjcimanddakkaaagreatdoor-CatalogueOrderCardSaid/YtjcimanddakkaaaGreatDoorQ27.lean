/- Lemmas. -/
import Derived.Test.YtjcimanddakkaaaGreatDoorQ9
import Derived.Test.YtjcimanddakkaaaGreatDoorQ26
import Derived.Test.YtjcimanddakkaaaGreatDoorQ28
set_option maxRecDepth 100000
set_option maxHeartbeats 8000000
namespace Go.Proofs.YtjcimanddakkaaaGreatDoor
open Go.Value renaming pointer→fn,int→J,slice→nq,bool→qn,map→Eb
open _root_.Option renaming some→X,none→Y
open Go.IntKind renaming i64→U,u8→Ec
open Go.Ending renaming returned→hK
open Go.Lib renaming hid→Z
open Go.Obj renaming cells→ih
open Tryz
open Go.World renaming alloc_heap_new→Ed,cell?_of_block→Eh
open Go.Calls renaming mono→Ee
open Go.RowKit.Below renaming refl→Ef
open _root_.Nat renaming le_refl→Eg
open Go renaming World→Ei,Calls→Ej,bodyPost_ret→El
open Go.RowKit renaming Below→Ek
open _root_.Prod renaming ext→Em
open _root_.List renaming length_append→En,flatMap_append→Eo
section
open Go.RowKit Go.Maps Go.Shelf
theorem pg {f:af} {N:Nat} (h:(fieldBytes f).length<=N) (n b c:Int):(fieldBytes (gM f n b c)).length<=N+100:=by
 have h1:=fZ (l:=textsL) (N:=10) (by decide) c;have d:=fZ (l:=gZ) (N:=10) (by decide) c;have e:=cK f;unfold gM;repeat' split
 · have a:=cK {f with tag:=pick iV c};simp only at a;omega
 · have a:=cK {f with data:=f.data++pick textsL c};simp only [En] at a;omega
 · have a:=cK {f with ind:=pick gZ c};simp only at a;omega
 · have a:=cK {f with subs:=[]};simp only [List.flatMap_nil,List.length_nil] at a;omega
 · have a:=cK {f with subs:=f.subs++[⟨u8I b,pick textsL c⟩]};simp only [Eo,En,List.flatMap_cons,List.flatMap_nil,List.append_nil,aU,List.length_cons] at a;omega
 · have a:=cK {f with subs:=f.subs++[⟨122,pick textsL c⟩]};simp only [Eo,En,List.flatMap_cons,List.flatMap_nil,List.append_nil,aU,List.length_cons] at a;omega
 · omega
theorem tN (x:bG):bR (saidR x).fields:=by
 have key:∀q:Six,∀n b c:Int,bR (spoilR (madeR q) n b c).fields:=λq n b c=>by
  obtain ⟨h1,d⟩:=jd q;unfold spoilR;repeat' split
  · exact ⟨by simp,λf a=>by cases a⟩
  · exact ⟨by dsimp only;omega,λf a=>by have:=d f a;omega⟩
  · exact ⟨by dsimp only;omega,λf a=>by have:=d f a;omega⟩
  · refine ⟨by dsimp only;rw [List.length_modify];omega,λf a=>?_⟩;dsimp only at a;obtain ⟨i,e,rfl⟩:=List.mem_iff_getElem.1 a;rw [List.getElem_modify];rw [List.length_modify] at e;have g:=d _ (List.getElem_mem e);split
    · have:=pg g n b c;omega
    · omega
 unfold saidR;dsimp only;split
 · exact key _ _ _ _
 · obtain ⟨h1,d⟩:=jd (if x.b.tmod 3≠0 then workQ x.b else x.q);exact ⟨by omega,λf a=>by have:=d f a;omega⟩
structure ce (FC FM:Nat->Prop) (w:Ei) (c p:Nat) (d:ar):Prop where
 cat:bf FC w c d
 mod:cA FM w p d
 dis:∀k,FC k->FM k->False
theorem bf.lt {F:Nat->Prop} {w:Ei} {c:Nat} {d:ar} (h:bf F w c d):∀k,F k->k<w.heap.size:=by obtain ⟨_,_,_,_,h⟩:=h;exact h.lt
theorem cA.lt {F:Nat->Prop} {w:Ei} {p:Nat} {d:ar} (h:cA F w p d):∀k,F k->k<w.heap.size:=by obtain ⟨_,_,_,_,h⟩:=h;exact h.lt
theorem bf.ok {F:Nat->Prop} {w:Ei} {c:Nat} {d:ar} (h:bf F w c d):bd d:=by obtain ⟨_,_,_,_,h⟩:=h;exact h.ok
theorem ce.below {a b:Nat->Prop} {w w':Ei} {c p:Nat} {d:ar} (h:ce a b w c p d) (e:Bw w w'):ce a b w' c p d:=⟨h.cat.below e,h.mod.below e,h.dis⟩
theorem ce.one {a b g:Nat->Prop} {w w1:Ei} {c p:Nat} {d:ar} (h:ce a b w c p d) (f:ag a w g w1):cA b w1 p d:=
 h.mod.step (λk e=>f.block k (h.mod.lt k e) (λi=>h.dis k i e)) f.size
theorem ce.two {n f e l:Nat->Prop} {w w1 m:Ei} {c p:Nat} {d o:ar} (h:ce n f w c p d) (q:bf e w1 c o) (i:ag n w e w1) (u:cA l m p o) (b:ag f w1 l m):
 ce e l m c p o/\ag (λk=>n k∨f k) w (λk=>e k∨l k) m:=by
 have t:∀k,e k->f k->False:=λk a j=>by
  rcases i.new k a with h1|h1
  · exact h.dis k h1 j
  · have:=h.mod.lt k j;omega
 refine ⟨⟨q.step (λk a=>b.block k (q.lt k a) (λj=>t k a j)) b.size,u,λk a j=>?_⟩,?_⟩
 · rcases b.new k j with h1|h1
   · exact t k a h1
   · have:=q.lt k a;omega
 · have v:ag (λk=>n k∨f k) w (λk=>e k∨f k) w1:=⟨i.os,i.tape,i.output,i.size,λk a s=>i.block k a (λr=>s (.inl r)),λk a=>a.elim (λg=>(i.new k g).imp .inl id) (λg=> .inl (.inr g))⟩;have x:ag (λk=>e k∨f k) w1 (λk=>e k∨l k) m:=⟨b.os,b.tape,b.output,b.size,λk a s=>b.block k a (λr=>s (.inr r)),λk a=>a.elim (λg=> .inl (.inl g)) (λg=>(b.new k g).imp .inr id)⟩;exact v.trans x
theorem BV (x t:Nat->Prop) (w:Ei) (c p:Nat) (d:ar) (h:ce x t w c p d) (k a b v C D E G H I:Int) (hx:tn ⟨k,a,b,v,⟨C,D,E,G,H,I⟩⟩):
 Ej prog 13 #[.agg #[fn (X ⟨c,0,Y⟩),fn (X ⟨p,0,Y⟩)], .agg #[J U k,J U a,J U b,J U v,J U C,J U D,J U E,J U G,J U H,J U I]] w λe w'=>∃y B:Nat->Prop,
  e=hK (.tuple #[J U (actC d ⟨k,a,b,v,⟨C,D,E,G,H,I⟩⟩).2,J U (actC d ⟨k,a,b,v,⟨C,D,E,G,H,I⟩⟩).2])/\ce y B w' c p (actC d ⟨k,a,b,v,⟨C,D,E,G,H,I⟩⟩).1/\ag (λk=>x k∨t k) w (λk=>y k∨B k) w':=by
 obtain ⟨bc,hX⟩:∃bc:bG,(⟨k,a,b,v,⟨C,D,E,G,H,I⟩⟩:bG)=bc:=⟨_,rfl⟩;have a7:=AA k a b v C D E G H I hx;have ch:=tN ⟨k,a,b,v,⟨C,D,E,G,H,I⟩⟩;have ca:actC d bc=if k.emod 8=5 then dropC d (recI a) (v.emod 6) else if k.emod 8=6 then decideC d (recI a) (recI b) (v.emod 6) false else if k.emod 8=7 then decideC d (recI a) (recI b) (v.emod 6) true else putC d (recI a) (v.emod 6) (saidR bc):=by rw [<- hX];rfl
 obtain ⟨R,hR⟩:=Qe (saidR ⟨k,a,b,v,⟨C,D,E,G,H,I⟩⟩);rw [hR] at a7 ch;rw [<- hX,hR] at ca;have a8:=Z ca;obtain ⟨A,hA⟩:=Qe (actC d ⟨k,a,b,v,⟨C,D,E,G,H,I⟩⟩);rw [hA] at a8 ⊢;obtain ⟨n,hn⟩:=Qe (v.emod 6);have al:i64B n:=by rw [<- hn];exact jF v
 obtain ⟨mk,cg,lk⟩:=cG k 8 (by omega);have d7:Hid (∀W,Ej prog 24 #[J U k,J U 8] W λe w'=>e=hK (J U (mk:Int))/\W=w'):=dl k 8 mk (by omega) (by omega) cg;have d8:Hid (∀W,Ej prog 24 #[J U v,J U 6] W λe w'=>e=hK (J U n)/\W=w'):=λW=>by rw [<- hn];exact gV v 6 W (by omega) (by omega)
 rw [hn] at a8 a7;have bD:=λW:Ei=>pF a W hx.a;have bO:=λW:Ei=>pF b W hx.b;have a6:=ff a;have b5:=ff b;obtain ⟨⟨r,s⟩,d2⟩:∃rr,recI a=rr:=⟨_,rfl⟩;obtain ⟨⟨b1,b2⟩,d3⟩:∃rr,recI b=rr:=⟨_,rfl⟩;rw [d2] at bD a6 a8 a7;rw [d3] at bO b5 a8;dsimp only [recK] at bD bO;have dc:=Z bD;have dd:=Z bO;have cq:=Z a7;have cv:=Z ch;have b9:Hid (k.emod 8=mk):=cg;obtain ⟨w2,b6⟩:=Qe ((w.alloc (ih #[fn (X ⟨c,0,Y⟩),fn (X ⟨p,0,Y⟩)] 27)).alloc (ih #[J U k,J U a,J U b,J U v,J U C,J U D,J U E,J U G,J U H,J U I] 47));have cQ:Bw w w2:=by rw [<- b6];exact ((Ef _ w).alloc (Eg _) _).alloc (by simp) _
 have cy:w2.heap[w.heap.size]? =X (ih #[fn (X ⟨c,0,Y⟩),fn (X ⟨p,0,Y⟩)] 27 (0,0)):=by rw [<- b6,Below.heap_alloc _ _ _ (by simp)];exact Ed w _
 have bk:w2.heap[w.heap.size+1]? =X (ih #[J U k,J U a,J U b,J U v,J U C,J U D,J U E,J U G,J U H,J U I] 47 (0,0)):=by rw [<- b6];have:=Ed (w.alloc (ih #[fn (X ⟨c,0,Y⟩),fn (X ⟨p,0,Y⟩)] 27)) (ih #[J U k,J U a,J U b,J U v,J U C,J U D,J U E,J U G,J U H,J U I] 47);rwa [World.size_alloc] at this
 have dk:=Z b6;have b3:=Z cQ;have cl:=Z cy;have c1:=Z bk;have HH:=Z h;have c0:Hid (∀W,Bw w2 W->W.cell? ⟨w.heap.size+1,0,Y⟩=X (J U k)/\W.cell? ⟨w.heap.size+1,1,Y⟩=X (J U a)/\W.cell? ⟨w.heap.size+1,2,Y⟩=X (J U b)/\W.cell? ⟨w.heap.size+1,3,Y⟩=X (J U v)):=λW hW=>by have h1:=(hW.block _ (ae bk)).trans bk;exact ⟨(aa h1 0).trans rfl,(aa h1 1).trans rfl,(aa h1 2).trans rfl,(aa h1 3).trans rfl⟩
 clear hX ca hR hA hn cg bD bO d2 d3 a7 ch b6 cQ cy bk h hx;go_enter func13,ntmps13;go_upto_region 1 with fail
 rw [dk.o];obtain ⟨_,x1,_,_⟩:=c0 w2 (Ef _ _);go_upto_region 2 with (go_at_call 20;((with_reducible refine Ee (dc.o _) ?_);rintro e w3 ⟨rfl,bs⟩))
 obtain ⟨q6,bA⟩:=Qe w3.heap.size;obtain ⟨w4,bT⟩:=Qe (w3.alloc (ih #[J U r,J U s] 36));have ay:w4.heap[q6]? =X (ih #[J U r,J U s] 36 (0,0)):=by rw [<- bT, <- bA];exact Ed w3 _
 have cb:Bw w2 w4:=by rw [<- bT];exact bs.alloc bs.size _
 have dz:w2.heap.size<=q6:=by rw [<- bA];exact bs.size
 rw [bA,bT];clear bA bT bs x1;obtain ⟨_,_,x2,_⟩:=c0 w4 cb;have c4:=Z ay;have b7:=Z cb;clear ay cb;go_upto_region 3 with (go_at_call 20;((with_reducible refine Ee (dd.o _) ?_);rintro e w5 ⟨rfl,bt⟩))
 obtain ⟨q7,bB⟩:=Qe w5.heap.size;obtain ⟨f,bY⟩:=Qe (w5.alloc (ih #[J U b1,J U b2] 36));have bp:f.heap[q7]? =X (ih #[J U b1,J U b2] 36 (0,0)):=by rw [<- bY, <- bB];exact Ed w5 _
 have cc:Bw w4 f:=by rw [<- bY];exact bt.alloc bt.size _
 have e0:w4.heap.size<=q7:=by rw [<- bB];exact bt.size
 have aC:Bw w2 f:=b7.trans (cc.mono b7.size);have ay:f.heap[q6]? =X (ih #[J U r,J U s] 36 (0,0)):=(cc.block _ (ae c4.o)).trans c4.o;rw [bB,bY];clear bB bY bt x2;obtain ⟨x0,_,_,x3⟩:=c0 f aC;have HP:Hid (ce x t f c p d):=HH.below (b3.trans (aC.mono b3.size));have bb:Hid (ag (λk=>x k∨t k) w (λk=>x k∨t k) f):=ag.of_below (b3.trans (aC.mono b3.size));have c3:Hid (w.heap.size<=q6/\w.heap.size<=q7/\q6<f.heap.size/\q7<f.heap.size/\w.heap.size+1<f.heap.size):=by have h1:=b3.size;have h2:=ae ay;have h3:=ae bp;have h4:=b7.size;have h5:=ae c1.o;have h6:=aC.size;exact ⟨by omega,by omega,h2,h3,by omega⟩
 have a5:Hid (∀k,x k∨t k->k<w.heap.size):=λk o=>o.elim (HH.cat.lt k) (HH.mod.lt k);have b8:Hid (∀W:Ei,(∀q,w.heap.size<=q->q<f.heap.size->W.heap[q]? =f.heap[q]?)->(W.cell? ⟨w.heap.size,0,Y⟩=X (fn (X ⟨c,0,Y⟩))/\W.cell? ⟨w.heap.size,1,Y⟩=X (fn (X ⟨p,0,Y⟩)))/\(W.cell? ⟨q6,0,Y⟩=X (J U r)/\W.cell? ⟨q6,1,Y⟩=X (J U s))/\(W.cell? ⟨q7,0,Y⟩=X (J U b1)/\W.cell? ⟨q7,1,Y⟩=X (J U b2))):=λW hW=>by have hl:=c3.o;have g0:=(hW w.heap.size (Eg _) (by omega)).trans ((aC.block _ (ae cl.o)).trans cl.o);have g1:=(hW q6 hl.1 hl.2.2.1).trans ay;have g2:=(hW q7 hl.2.1 hl.2.2.2.1).trans bp;exact ⟨⟨(aa g0 0).trans rfl,(aa g0 1).trans rfl⟩,⟨(aa g1 0).trans rfl,(aa g1 1).trans rfl⟩,(aa g2 0).trans rfl,(aa g2 1).trans rfl⟩
 have d4:∀q,w.heap.size<=q->q<f.heap.size->f.drew.heap[q]? =f.heap[q]? :=λ_ _ _=>rfl;have ac:Hid (∀(F F':Nat->Prop) (W W':Ei),(∀k,F k->k<w.heap.size)->(∀q,w.heap.size<=q->q<f.heap.size->W.heap[q]? =f.heap[q]?)->f.heap.size<=W.heap.size->ag F W F' W'->∀q,w.heap.size<=q->q<f.heap.size->W'.heap[q]? =f.heap[q]?):=λF F' W W' hF hS hz hs q hq b0=>(hs.block q (by omega) (λhf=>by have:=hF q hf;omega)).trans (hS q hq b0);have d5:=Z aC;have dx:=Z ay;have dy:=Z bp;have a9:=Z d4;clear aC ay bp cc c4 b7 d4
 go_upto_block 0 with (first
  |(go_at_call 24;((with_reducible refine Ee (d8.o _) ?_);rintro e m ⟨rfl,rfl⟩))
  |(go_at_call 24;((with_reducible refine Ee (d7.o _) ?_);rintro e m ⟨rfl,rfl⟩)))
 by_cases h5:mk=5
 · subst h5;have N:Hid (dropC d (r,s) n=A):=by unfold Hid;rw [a8.o,b9.o];rw [if_pos (by omega)]
   have hP:=HP.below (Ef _ f).drew;have i:=vQ x f.drew c d hP.cat (r,s) n a6 al;dsimp only [recK] at i;rw [N.o] at i;have ao:=Z i;clear i hP;go_wp2_with fail
   refine wT (λW:Ei=>∀q,w.heap.size<=q->q<f.heap.size->W.heap[q]? =f.heap[q]?) 999 ?_;refine Qd [0,2,3,5,7,8,1,6] a9.o b8 ?_;refine Dp 4 λK j=>?_;go_simp;go_at_call 27;with_reducible refine Ee ao.o ?_
   rintro e m ⟨rfl,y,T,l⟩;have a0:=ac x y f.drew m (λk o=>a5 k (.inl o)) a9.o (Eg _) l;have ad:=ce.one (HP.below (Ef _ f).drew) l;have i:=Bu t m p d ad (r,s) n a6 al;dsimp only [recK] at i;rw [N.o] at i;have au:=Z i;have b4:=Z T;have a4:=Z l;have O:=Z a0;clear i T l ad a0;refine j _ _ (λ_=>O.o) ?_;clear j K;go_simp;refine Dp 9 λK j=>?_;go_simp;go_at_call 42;with_reducible refine Ee au.o ?_
   rintro e M ⟨rfl,B,V,u⟩;have a3:=ac t B m M (λk o=>a5 k (.inr o)) O.o (by have h1:=a4.size;exact h1) u;have L:=Z a3;have av:=Z V;have ax:=Z u;clear V u a3;refine j _ _ (λ_=>L.o) ?_;clear j K;go_simp;refine Qc [10,11] L.o ?_;refine dN ?_;go_wp2_with fail
   refine El (v:= .tuple #[J U A.2,J U A.2]) (by simp [results,Tryz.results13,go_sem]) rfl ?_;obtain ⟨aS,aT⟩:=ce.two (HP.below (Ef _ f).drew) b4.o a4.o av.o ax.o;exact ⟨y,B,rfl,aS,(bb.trans (ag.of_below (Ef _ f).drew)).trans aT⟩
 by_cases h6:mk=6
 · subst h6;have N:Hid (decideC d (r,s) (b1,b2) n false=A):=by unfold Hid;rw [a8.o,b9.o];rw [if_neg (by omega),if_pos (by omega)]
   have hP:=HP.below (Ef _ f).drew;have i:=s7 x f.drew c d hP.cat (r,s) (b1,b2) n a6 b5 al;dsimp only [recK] at i;rw [N.o] at i;have ao:=Z i;clear i hP;go_wp2_with fail
   refine wT (λW:Ei=>∀q,w.heap.size<=q->q<f.heap.size->W.heap[q]? =f.heap[q]?) 999 ?_;refine Qd [0,2,3,4,6,8,9,10,1,7] a9.o b8 ?_;refine Dp 5 λK j=>?_;go_simp;go_at_call 39;with_reducible refine Ee ao.o ?_
   rintro e m ⟨rfl,y,T,l⟩;have a0:=ac x y f.drew m (λk o=>a5 k (.inl o)) a9.o (Eg _) l;have ad:=ce.one (HP.below (Ef _ f).drew) l;have i:=Af t m p d ad (r,s) (b1,b2) n a6 b5 al;dsimp only [recK] at i;rw [N.o] at i;have au:=Z i;have b4:=Z T;have a4:=Z l;have O:=Z a0;clear i T l ad a0;refine j _ _ (λ_=>O.o) ?_;clear j K;go_simp;refine Dp 11 λK j=>?_;go_simp;go_at_call 43;with_reducible refine Ee au.o ?_
   rintro e M ⟨rfl,B,V,u⟩;have a3:=ac t B m M (λk o=>a5 k (.inr o)) O.o (by have h1:=a4.size;exact h1) u;have L:=Z a3;have av:=Z V;have ax:=Z u;clear V u a3;refine j _ _ (λ_=>L.o) ?_;clear j K;go_simp;refine Qc [12,13] L.o ?_;refine dN ?_;go_wp2_with fail
   refine El (v:= .tuple #[J U A.2,J U A.2]) (by simp [results,Tryz.results13,go_sem]) rfl ?_;obtain ⟨aS,aT⟩:=ce.two (HP.below (Ef _ f).drew) b4.o a4.o av.o ax.o;exact ⟨y,B,rfl,aS,(bb.trans (ag.of_below (Ef _ f).drew)).trans aT⟩
 by_cases h7:mk=7
 · subst h7;have N:Hid (decideC d (r,s) (b1,b2) n true=A):=by unfold Hid;rw [a8.o,b9.o];rw [if_neg (by omega),if_neg (by omega),if_pos (by omega)]
   have hP:=HP.below (Ef _ f).drew;have i:=vM x f.drew c d hP.cat (r,s) (b1,b2) n a6 b5 al;dsimp only [recK] at i;rw [N.o] at i;have ao:=Z i;clear i hP;go_wp2_with fail
   refine wT (λW:Ei=>∀q,w.heap.size<=q->q<f.heap.size->W.heap[q]? =f.heap[q]?) 999 ?_;refine Qd [0,2,3,4,6,8,9,10,1,7] a9.o b8 ?_;refine Dp 5 λK j=>?_;go_simp;go_at_call 40;with_reducible refine Ee ao.o ?_
   rintro e m ⟨rfl,y,T,l⟩;have a0:=ac x y f.drew m (λk o=>a5 k (.inl o)) a9.o (Eg _) l;have ad:=ce.one (HP.below (Ef _ f).drew) l;have i:=Be t m p d ad (r,s) (b1,b2) n a6 b5 al;dsimp only [recK] at i;rw [N.o] at i;have au:=Z i;have b4:=Z T;have a4:=Z l;have O:=Z a0;clear i T l ad a0;refine j _ _ (λ_=>O.o) ?_;clear j K;go_simp;refine Dp 11 λK j=>?_;go_simp;go_at_call 44;with_reducible refine Ee au.o ?_
   rintro e M ⟨rfl,B,V,u⟩;have a3:=ac t B m M (λk o=>a5 k (.inr o)) O.o (by have h1:=a4.size;exact h1) u;have L:=Z a3;have av:=Z V;have ax:=Z u;clear V u a3;refine j _ _ (λ_=>L.o) ?_;clear j K;go_simp;refine Qc [12,13] L.o ?_;refine dN ?_;go_wp2_with fail
   refine El (v:= .tuple #[J U A.2,J U A.2]) (by simp [results,Tryz.results13,go_sem]) rfl ?_;obtain ⟨aS,aT⟩:=ce.two (HP.below (Ef _ f).drew) b4.o a4.o av.o ax.o;exact ⟨y,B,rfl,aS,(bb.trans (ag.of_below (Ef _ f).drew)).trans aT⟩
 have c5:((mk:Int)==5)=false:=by simp;omega
 have c6:((mk:Int)==6)=false:=by simp;omega
 have c7:((mk:Int)==7)=false:=by simp;omega
 have N:Hid (putC d (r,s) n R=A):=by unfold Hid;rw [a8.o,b9.o];rw [if_neg (by omega),if_neg (by omega),if_neg (by omega)]
 obtain ⟨R1,R2,R3⟩:=R;have a7:=cq.o;dsimp only [kT] at a7;have cs:=Z a7;have cu:Hid (bR R3):=cv.o;have d9:Hid (∀W:Ei,(∀q,w.heap.size<=q->q<f.heap.size->W.heap[q]? =f.heap[q]?)->(W.cell? ⟨w.heap.size+1,0,Y⟩=X (J U k)/\W.cell? ⟨w.heap.size+1,1,Y⟩=X (J U a)/\W.cell? ⟨w.heap.size+1,2,Y⟩=X (J U b)/\W.cell? ⟨w.heap.size+1,3,Y⟩=X (J U v))/\W.cell? ⟨w.heap.size+1,4,Y⟩=X (J U C)/\W.cell? ⟨w.heap.size+1,5,Y⟩=X (J U D)/\W.cell? ⟨w.heap.size+1,6,Y⟩=X (J U E)/\W.cell? ⟨w.heap.size+1,7,Y⟩=X (J U G)/\W.cell? ⟨w.heap.size+1,8,Y⟩=X (J U H)/\W.cell? ⟨w.heap.size+1,9,Y⟩=X (J U I)):=λW hW=>by have h1:=(hW (w.heap.size+1) (by omega) c3.o.2.2.2.2).trans ((d5.o.block _ (ae c1.o)).trans c1.o);exact ⟨⟨(aa h1 0).trans rfl,(aa h1 1).trans rfl,(aa h1 2).trans rfl,(aa h1 3).trans rfl⟩,(aa h1 4).trans rfl,(aa h1 5).trans rfl,(aa h1 6).trans rfl,(aa h1 7).trans rfl,(aa h1 8).trans rfl,(aa h1 9).trans rfl⟩
 clear a7 cq cv;go_upto_region 11 with fail
 refine wT (λW:Ei=>∀q,w.heap.size<=q->q<f.heap.size->W.heap[q]? =f.heap[q]?) 999 ?_;refine Qd [0,5,1,6] a9.o b8 ?_;refine Qd [2,7] a9.o d9 ?_;refine Dp 3 λK j=>?_;go_simp;go_at_call 45;with_reducible refine Ee (cs.o f.drew) ?_
 rintro e m ⟨va,vc,rfl,d0,bw⟩;have a0:∀q,w.heap.size<=q->q<f.heap.size->m.heap[q]? =f.heap[q]? :=λq _ b0=>bw.block q b0;have c9:=(HP.below (Ef _ f).drew).below bw;have i:=tW x m c d c9.cat (r,s) n ⟨R1,R2,R3⟩ (nq va R3.length vc) a6 al f.heap.size m.heap.size d0 (Eg _) (λq h1 _ hF=>by have h2:=a5.o q (.inl hF);have h3:=c3.o;omega) cu.o;rw [N.o] at i;dsimp only [kT] at i;have ao:=Z i;have O:=Z a0;have cm:=Z c9;have c2:Hid (Bw f m):=(Ef _ f).drew.trans bw;clear i a0 c9 d0 bw;refine j _ _ (λ_=>O.o) ?_;clear j K;go_simp;refine Dp 4 λK j=>?_;go_simp;go_at_call 29;with_reducible refine Ee ao.o ?_
 rintro e M ⟨rfl,y,T,l⟩;have a3:=ac x y m M (λk o=>a5 k (.inl o)) O.o c2.size l;have av:Hid (cA t M p d):=ce.one cm.o l;have d6:=Z T;have a4:=Z l;have L:=Z a3;have cx:Hid (f.heap.size<=M.heap.size):=Nat.le_trans c2.size l.size;clear T l a3;refine j _ _ (λ_=>L.o) ?_;clear j K;go_simp;refine Dp 8 λK j=>?_;go_simp;go_at_call 45;with_reducible refine Ee (cs.o M) ?_
 rintro e w9 ⟨dn,dp,rfl,d1,cd⟩;have cP:∀q,w.heap.size<=q->q<f.heap.size->w9.heap[q]? =f.heap[q]? :=λq hq b0=>(cd.block q (Nat.lt_of_lt_of_le b0 cx.o)).trans (L q hq b0);have i:=Cm t M w9 p d av.o cd (r,s) n R1 R2 R3 (nq dn R3.length dp) d1 cu.o a6 al;rw [N.o] at i;dsimp only [kT] at i;have au:=Z i;have di:=Z cP;clear i cP d1 cd;refine j _ _ (λ_=>di.o) ?_;clear j K;go_simp;refine Dp 9 λK j=>?_;go_simp;go_at_call 46;with_reducible refine Ee au.o ?_
 rintro e ds ⟨rfl,B,V,u⟩;have cz:=ac t B M ds (λk o=>a5 k (.inr o)) L.o cx.o u;have cp:=Z cz;have da:=Z V;have ax:=Z u;clear V u cz;refine j _ _ (λ_=>cp.o) ?_;clear j K;go_simp;refine Qc [10,11] cp.o ?_;refine dN ?_;go_wp2_with fail
 refine El (v:= .tuple #[J U A.2,J U A.2]) (by simp [results,Tryz.results13,go_sem]) rfl ?_;obtain ⟨aS,aT⟩:=ce.two cm.o d6.o a4.o da.o ax.o;exact ⟨y,B,rfl,aS,(bb.trans (ag.of_below c2.o)).trans aT⟩
def actL (x:bG):List Value:=[J U x.k,J U x.a,J U x.b,J U x.v,J U x.q.a,J U x.q.b,J U x.q.c,J U x.q.d,J U x.q.e,J U x.q.f]
structure mX (w:Ei) (v:Value) (l:List bG):Prop where
 at_:aB 0 w.heap.size w v l.length (l.flatMap actL)
 ok:∀x∈l,tn x
 len:l.length<=maxLen
theorem mX.keep {w w':Ei} {v:Value} {l:List bG} (h:mX w v l) (a:Bw w w'):mX w' v l:=
 ⟨(h.at_.kept (λq _ b=>a.block q b)).mono (Eg _) a.size,h.ok,h.len⟩
theorem yC (l:List bG) (k:Nat) (h:k<l.length):runC (l.take (k+1)) cat0=(actC (runC (l.take k) cat0) l[k]).1:=by
 rw [List.take_succ_eq_append_getElem h,rz];rfl
end
section
open Go.RowKit Go.Maps Go.Shelf
section
variable {P:Program} {md:Region.Mode} {ops:Array Oper} {Q:Exit->Act->Ei->Prop} {S:Ei->Prop} {z:Nat}
theorem ef {i j:Nat} {o f:Oper} {n:Nat} {d:Array Bool} {a:Act} {w:Ei} (p:ops[i]? =X o) (q:ops[j]? =X f)
 (g:Region.ready md ops d=[i,j]) (l:Region.wanted o (yielded ops a.tmps)=true) (m:Region.wanted f (yielded ops a.tmps)=true)
 (h1:∀K:Act->Ei->Prop,(∀b w',(i≠z->S w')->anyT P md ops Q S z n (d.setIfInBounds i true) b w'->K b w')->o.wp P a w K Q)
 (c:∀K:Act->Ei->Prop,(∀b w',(j≠z->S w')->anyT P md ops Q S z n (d.setIfInBounds j true) b w'->K b w')->f.wp P a w K Q):anyT P md ops Q S z (n+1) d a w:=by
 refine ⟨λh=>absurd h (by rw [g];simp),λk e=>?_⟩;rw [g] at e;simp only [List.mem_cons,List.not_mem_nil,or_false] at e;rcases e with rfl|rfl
 · unfold wpOp;rw [p];simp only [l,if_true];exact .inl (h1 _ λb w' h1 c=>⟨h1,c⟩)
 · unfold wpOp;rw [q];simp only [m,if_true];exact .inl (c _ λb w' h1 c=>⟨h1,c⟩)
end
structure cI (F:Nat->Prop) (W:Ei) (v:Value) (l:List RK):Prop where
 ex:∃a c,v= .slice a l.length c/\(l≠[]->∃b off,a=some ⟨b,off,none⟩/\b<W.heap.size/\¬F b/\∀j x,(l.flatMap rkCells)[j]? =some x->W.cell? ⟨b,off+j,none⟩=some x)
theorem Ci {l:List RK} (h:l.flatMap rkCells≠[]):l≠[]:=λe=>h (by rw [e];rfl)
theorem cI.at {F:Nat->Prop} {W:Ei} {v:Value} {l:List RK} (h:cI F W v l):eB 0 W.heap.size W v l:=by
 obtain ⟨a,c,g,h⟩:=h;refine ⟨a,c,g,λf=>?_⟩;obtain ⟨b,i,h1,d,_,e⟩:=h (Ci f);exact ⟨b,i,h1,Nat.zero_le _,d,e⟩
theorem cI.step {F f:Nat->Prop} {W g:Ei} {v:Value} {l:List RK} (h:cI F W v l) (e:ag F W f g):cI f g v l:=by
 obtain ⟨a,c,n,h⟩:=h;refine ⟨a,c,n,λm=>?_⟩;obtain ⟨b,p,h1,d,i,k⟩:=h m;refine ⟨b,p,h1,Nat.lt_of_lt_of_le d e.size,e.not d i,λj x o=>?_⟩;rw [Eh (w:=W) (e.block b d i)];exact k j x o
theorem cI.of_owns {F:Nat->Prop} {W:Ei} {v:Value} {l:List RK} {B:Nat} (h:W.ownsRow B 36 2 v l.length (l.flatMap rkCells)) (f:∀g,v.ownBlock=X g->¬F g):cI F W v l:=by
 obtain ⟨a,c,rfl⟩:=aK h;refine ⟨a,c,rfl,λe=>?_⟩;obtain ⟨g,k,i,_⟩:=h.form (List.length_pos_iff.2 e);cases i;refine ⟨g,0,rfl,(h.lt g rfl).2,f g rfl,λj x b=>?_⟩;have d:=h.cellAt j (by have:=(List.getElem?_eq_some_iff.1 b).1;rw [pC] at this;exact this);rw [Nat.zero_add,d];exact b
theorem cI.new {F:Nat->Prop} {W:Ei} {q:Nat} {l:List RK} {t:TypeId} (n:Nat) (b:n=l.length) (h:W.heap[q]? =X (.cells (l.flatMap rkCells).toArray t (0,0))) (a:¬F q):cI F W (nq (X ⟨q,0,Y⟩) n n) l:=by
 subst b;refine ⟨_,_,rfl,λ_=>⟨q,0,rfl,ae h,a,λj x c=>?_⟩⟩;rw [Nat.zero_add,aa h, <- c];simp
structure SnS (B:Nat) (w w1:Ei) (F:Nat->Prop) (W:Ei) (d:ar):Prop where
 cat:bf F W B d
 fl:∀k,F k->B<=k/\¬(B+1<=k/\k<=B+5)
 box:∀q,B+1<=q->q<=B+5->W.heap[q]? =w1.heap[q]?
 b:Ek B w W
 sz:B+6<=W.heap.size
theorem SnS.step {B:Nat} {w w1 W e:Ei} {F c:Nat->Prop} {d g:ar} (h:SnS B w w1 F W d) (j:bf c e B g) (a:ag F W c e):SnS B w w1 c e g:=by
 have m:=h.sz;refine ⟨j,λk f=>?_,λq h1 i=>?_,h.b.trans (a.below (λk f=>(h.fl k f).1) (by omega)).1,Nat.le_trans h.sz a.size⟩
 · rcases a.new k f with h1|h1
   · exact h.fl k h1
   · omega
 · exact (a.block q (by omega) (λl=>(h.fl q l).2 ⟨h1,i⟩)).trans (h.box q h1 i)
theorem SnS.below {B:Nat} {w w1 W a:Ei} {F:Nat->Prop} {d:ar} (h:SnS B w w1 F W d) (b:Ek W.heap.size W a):SnS B w w1 F a d:=h.step (h.cat.below b) (ag.of_below b)
theorem lA (t:Bs) (h:t.length<=1000):bR (el t).fields:=by
 refine ⟨by simp [el],λf a=>?_⟩;simp only [el,List.mem_cons,List.not_mem_nil,or_false] at a;rcases a with rfl|rfl
 · simp [fieldBytes,aU]
 · simp [fieldBytes,aU];omega
def vp:Nat->ar
 |0=>cat0
 |1=>Ce
 |2=>Cd
 |_=>wC
def keyAt:Nat->RK
 |0=>(1,1)
 |1=>(1,2)
 |_=>(2,1)
theorem Ck (k:Nat) (c:k<3):putC (vp k) (keyAt k) 1 (el iK)=(vp (k+1),0):=by
 obtain ⟨h1,a,b,_⟩:=vo;have:k=0∨k=1∨k=2:=by omega
 rcases this with rfl|rfl|rfl
 · exact Em rfl h1
 · exact Em rfl a
 · exact Em rfl b
theorem bJ {k:RK} (h:0<=k.1/\k.1<=100/\0<=k.2/\k.2<=100):rkOk k:=by
 unfold rkOk i64B;omega
theorem Cu (k:Nat):rkOk (keyAt k):=by
 refine bJ ?_;unfold keyAt;split<;>decide
theorem CQ:putC wC (2,2) 1 (el oo)=(kU,0):=Em rfl vo.2.2.2
theorem CX:decideC kU (1,1) (2,1) 1 false=(jv,0):=Em rfl fW.1
theorem CV:decideC jv (2,2) (2,1) 1 true=(yB,0):=Em rfl dG.1
theorem CW:dropC yB (1,1) 2=(nh,0):=Em rfl dG.2.1
theorem wA (w:Ei):Ej prog 10 #[] w λe w'=>e=hK (qn true)/\Ek w.heap.size w w':=by
 obtain ⟨B,hB⟩:=Qe w.heap.size;have hx:=ug w;have hE:=pO w;obtain ⟨N,er⟩:=Qe (w.alloc (ih #[Eb Y,Eb Y,Eb Y,fn Y] 117));obtain ⟨O,ca⟩:=Qe (N.alloc (ih #[J U 1,J U 1] 36));obtain ⟨R,cb⟩:=Qe (O.alloc (ih #[J U 1,J U 2] 36));obtain ⟨u4,cc⟩:=Qe (R.alloc (ih #[J U 2,J U 1] 36));obtain ⟨p,cd⟩:=Qe (u4.alloc (ih #[J U 2,J U 2] 36));obtain ⟨w1,cg⟩:=Qe (p.alloc (ih #[J U 1,J U 1,J U 1,J U 2,J U 2,J U 1] 36));have z1:N.heap.size=B+1:=by rw [<- er, <- hB];simp
 have z2:O.heap.size=B+2:=by rw [<- ca];simp [z1]
 have z3:R.heap.size=B+3:=by rw [<- cb];simp [z2]
 have z4:u4.heap.size=B+4:=by rw [<- cc];simp [z3]
 have z5:p.heap.size=B+5:=by rw [<- cd];simp [z4]
 have z6:w1.heap.size=B+6:=by rw [<- cg];simp [z5]
 rw [er,hB] at hx hE;have n0:Ek B w N:=by rw [<- er, <- hB];exact (Ef _ w).alloc (Eg _) _
 have o:Ek N.heap.size N O:=by rw [<- ca];exact (Ef _ N).alloc (Eg _) _
 have n1:Ek O.heap.size O R:=by rw [<- cb];exact (Ef _ O).alloc (Eg _) _
 have n2:Ek R.heap.size R u4:=by rw [<- cc];exact (Ef _ R).alloc (Eg _) _
 have hw:Ek u4.heap.size u4 p:=by rw [<- cd];exact (Ef _ u4).alloc (Eg _) _
 have V:Ek p.heap.size p w1:=by rw [<- cg];exact (Ef _ p).alloc (Eg _) _
 have hv:Ek R.heap.size R w1:=(n2.trans (hw.mono (by omega))).trans (V.mono (by omega));have hu:Ek O.heap.size O w1:=n1.trans (hv.mono (by omega));have ht:Ek N.heap.size N w1:=o.trans (hu.mono (by omega));have d7:w1.heap[B+1]? =X (ih #[J U 1,J U 1] 36 (0,0)):=(hu.block _ (by omega)).trans (by rw [<- ca, <- z1];exact Ed N _);have d8:w1.heap[B+2]? =X (ih #[J U 1,J U 2] 36 (0,0)):=(hv.block _ (by omega)).trans (by rw [<- cb, <- z2];exact Ed O _);have d9:w1.heap[B+3]? =X (ih #[J U 2,J U 1] 36 (0,0)):=((V.block _ (by omega)).trans (hw.block _ (by omega))).trans (by rw [<- cc, <- z3];exact Ed R _);have oa:w1.heap[B+4]? =X (ih #[J U 2,J U 2] 36 (0,0)):=(V.block _ (by omega)).trans (by rw [<- cd, <- z4];exact Ed u4 _);have hy:w1.heap[B+5]? =X (ih #[J U 1,J U 1,J U 1,J U 2,J U 2,J U 1] 36 (0,0)):=by rw [<- cg, <- z5];exact Ed p _
 have y6:Hid (SnS B w w1 (λk=>k=B) w1 cat0):=⟨(hE.below ht),λk hk=>by omega,λ_ _ _=>rfl,n0.trans (ht.mono (by omega)),by omega⟩;have s:Hid (∀W:Ei,(∀q,B+1<=q->q<=B+5->W.heap[q]? =w1.heap[q]?)->(W.cell? ⟨B+1,0,Y⟩=X (J U 1)/\W.cell? ⟨B+1,1,Y⟩=X (J U 1))/\(W.cell? ⟨B+2,0,Y⟩=X (J U 1)/\W.cell? ⟨B+2,1,Y⟩=X (J U 2))/\(W.cell? ⟨B+3,0,Y⟩=X (J U 2)/\W.cell? ⟨B+3,1,Y⟩=X (J U 1))/\(W.cell? ⟨B+4,0,Y⟩=X (J U 2)/\W.cell? ⟨B+4,1,Y⟩=X (J U 2))/\W.cell? ⟨B+5,0,Y⟩=X (J U 1)/\W.cell? ⟨B+5,1,Y⟩=X (J U 1)/\W.cell? ⟨B+5,2,Y⟩=X (J U 1)/\W.cell? ⟨B+5,3,Y⟩=X (J U 2)/\W.cell? ⟨B+5,4,Y⟩=X (J U 2)/\W.cell? ⟨B+5,5,Y⟩=X (J U 1)):=λW h=>by have g1:=(h (B+1) (by omega) (by omega)).trans d7;have g2:=(h (B+2) (by omega) (by omega)).trans d8;have g3:=(h (B+3) (by omega) (by omega)).trans d9;have g4:=(h (B+4) (by omega) (by omega)).trans oa;have g5:=(h (B+5) (by omega) (by omega)).trans hy;exact ⟨⟨(aa g1 0).trans rfl,(aa g1 1).trans rfl⟩,⟨(aa g2 0).trans rfl,(aa g2 1).trans rfl⟩,⟨(aa g3 0).trans rfl,(aa g3 1).trans rfl⟩,⟨(aa g4 0).trans rfl,(aa g4 1).trans rfl⟩,(aa g5 0).trans rfl,(aa g5 1).trans rfl,(aa g5 2).trans rfl,(aa g5 3).trans rfl,(aa g5 4).trans rfl,(aa g5 5).trans rfl⟩
 have m1:p.cell? ⟨B+1,0,Y⟩=X (J U 1):=(Eh (a:=⟨B+1,0,Y⟩) (V.block (B+1) (by omega))).symm.trans ((aa d7 0).trans rfl);have m2:p.cell? ⟨B+1,1,Y⟩=X (J U 1):=(Eh (a:=⟨B+1,1,Y⟩) (V.block (B+1) (by omega))).symm.trans ((aa d7 1).trans rfl);have m3:p.cell? ⟨B+2,0,Y⟩=X (J U 1):=(Eh (a:=⟨B+2,0,Y⟩) (V.block (B+2) (by omega))).symm.trans ((aa d8 0).trans rfl);have m4:p.cell? ⟨B+2,1,Y⟩=X (J U 2):=(Eh (a:=⟨B+2,1,Y⟩) (V.block (B+2) (by omega))).symm.trans ((aa d8 1).trans rfl);have m5:p.cell? ⟨B+3,0,Y⟩=X (J U 2):=(Eh (a:=⟨B+3,0,Y⟩) (V.block (B+3) (by omega))).symm.trans ((aa d9 0).trans rfl);have m6:p.cell? ⟨B+3,1,Y⟩=X (J U 1):=(Eh (a:=⟨B+3,1,Y⟩) (V.block (B+3) (by omega))).symm.trans ((aa d9 1).trans rfl);have s6:=Z hx;have uc:=Z hy;have y7:=Z ca;have y8:=Z cb;have y9:=Z cc;have ys:=Z cd;have z0:=Z cg;have c2:Hid (N.heap.size=B+1/\O.heap.size=B+2/\R.heap.size=B+3/\u4.heap.size=B+4/\p.heap.size=B+5):=⟨z1,z2,z3,z4,z5⟩;rw [hB];clear hB hx hE er ca cb cc cd cg z1 z2 z3 z4 z5 z6 n0 o n1 n2 hw V hv hu ht d7 d8 d9 oa hy;go_enter func10,ntmps10;go_upto_region 2 with (go_at_call 32;((with_reducible refine Ee s6.o ?_);rintro e wx ⟨rfl,j2⟩;have j2:=j2.symm;subst j2))
 go_upto_region 5 with fail
 rw [c2.o.1,y7.o];go_upto_region 6 with fail
 rw [c2.o.2.1,y8.o];go_upto_region 7 with fail
 rw [c2.o.2.2.1,y9.o];go_upto_region 8 with fail
 rw [c2.o.2.2.2.1,ys.o];go_upto_region 10 with fail
 rw [c2.o.2.2.2.2,z0.o];clear m1 m2 m3 m4 m5 m6;go_loopw [7] (λi wr=>∃(k:Nat) (F:Nat->Prop),k<=3/\i=J U k/\Hid (SnS B w w1 F wr (vp k))) (λi _=>3 - (intOf i).toNat)
 case atStart=>exact ⟨0,_,by omega,rfl,y6⟩
 case round=>
  obtain ⟨k,F,hk,rfl,T⟩:=hrel;by_cases hlt:k<3
  · have i1:(k:Int)<3:=by omega
    obtain ⟨⟨rk,rl⟩,e0⟩:∃kk,keyAt k=kk:=⟨_,rfl⟩;have ua:Hid (∀W:Ei,(∀q,B+1<=q->q<=B+5->W.heap[q]? =w1.heap[q]?)->W.cell? ⟨B+5,k * 2,Y⟩=X (J U rk)/\W.cell? ⟨B+5,k * 2+1,Y⟩=X (J U rl)):=λW h=>by
     obtain ⟨_,_,_,_,y,A,u,v,o,x⟩:=s W h;have:k=0∨k=1∨k=2:=by omega
     rcases this with rfl|rfl|rfl
     · obtain ⟨rfl,rfl⟩:=Prod.mk.inj e0.symm;exact ⟨y,A⟩
     · obtain ⟨rfl,rfl⟩:=Prod.mk.inj e0.symm;exact ⟨u,v⟩
     · obtain ⟨rfl,rfl⟩:=Prod.mk.inj e0.symm;exact ⟨o,x⟩
    go_upto_region 12 with fail
    have n:=Z (T.below (Ef _ wr).drew);go_wp2_with fail
    refine wT (λW:Ei=>∀q,B+1<=q->q<=B+5->W.heap[q]? =w1.heap[q]?) 999 ?_;refine Qc [0,1,2] n.box ?_;refine Qd [3,4] n.box ua ?_;refine Dp 5 λK d=>?_;go_simp;go_at_call 28;refine Ee (show Ej prog 28 #[.string ⟨#[78,97,110,97]⟩] wr.drew _ from uW iK wr.drew) ?_;rintro e W1 ⟨s1,s3,rfl,oi,hC⟩;have cQ:=Z (n.below hC);have B2:=Z hC;have tO:=Z oi;clear hC oi;refine d _ _ (λ_=>cQ.box) ?_;clear d K;go_simp;refine Qc [6] cQ.box ?_
    refine Dp 7 λK d=>?_;go_simp;have dz:=tW F W1 B (vp k) cQ.o.cat (keyAt k) 1 (el iK) (nq s1 2 s3) (Cu k) (by unfold i64B;decide) wr.drew.heap.size W1.heap.size tO.o (Eg _) (λq h1 _ hF=>by have r:=n.o.cat.lt q hF;omega) (lA iK (by decide));rw [Ck k (by omega)] at dz;rw [e0] at dz;have t5:Hid (Ej prog 29 #[fn (X ⟨B,0,Y⟩), .agg #[J U rk,J U rl,J U 1,J Ec 97,J Ec 109,nq s1 2 s3]] W1 _):=dz;clear dz;go_at_call 29;with_reducible refine Ee t5.o ?_
    rintro e W7 ⟨rfl,F8,o5,rr⟩;have gs:=Z (cQ.step o5 rr);clear o5 rr;refine d _ _ (λ_=>gs.box) ?_;clear d K;go_simp;refine Qc [8] gs.box ?_
    refine dN ?_;go_wp2_with fail
    go_roundw
    case rel=>exact ⟨k+1,F8,by omega,by go_num,gs⟩
    case measure=>simp [intOf];omega
  · obtain rfl:k=3:=by omega
    have T:Hid (SnS B w w1 F wr wC):=T;clear hlt hk;go_upto_region 14 with fail
    go_cut [8] (λt wx=>t=qn true/\∃F:Nat->Prop,Hid (SnS B w w1 F wx kU))
    case first=>
     generalize wr=wc at *;have n:=Z (T.below (Ef _ wc).drew);go_wp2_with fail
     refine wT (λW:Ei=>∀q,B+1<=q->q<=B+5->W.heap[q]? =w1.heap[q]?) 999 ?_;have ub:Hid (cI F wc.drew (nq (X ⟨B+5,0,Y⟩) 3 3) [(1,1),(1,2),(2,1)]):=cI.new 3 rfl ((n.o.box (B+5) (by omega) (by omega)).trans uc.o) (λf=>(n.o.fl _ f).2 ⟨by omega,by omega⟩);refine Qd [0,1] n.box s ?_;refine Dp 2 λK d=>?_;go_simp;go_at_call 28;refine Ee (show Ej prog 28 #[.string ⟨#[71,101,114,109,105,110,97,108]⟩] wc.drew _ from uW oo wc.drew) ?_;rintro e hl ⟨s0,s2,rfl,og,dc⟩;have cP:=Z (n.below dc);have B1:=Z dc;have tz:=Z og;have vb:=Z (ub.step (ag.of_below dc));clear dc og;refine d _ _ (λ_=>cP.box) ?_;clear d K;go_simp;refine Qc [3] cP.box ?_
     refine Dp 4 λK d=>?_;go_simp;have hS:=tW F hl B wC cP.o.cat (2,2) 1 (el oo) (nq s0 2 s2) (bJ (by decide)) (by unfold i64B;decide) wc.drew.heap.size hl.heap.size tz.o (Eg _) (λq h1 _ hF=>by have r:=n.o.cat.lt q hF;omega) (lA oo (by decide));rw [CQ] at hS;have sn:Hid (Ej prog 29 #[fn (X ⟨B,0,Y⟩), .agg #[J U 2,J U 2,J U 1,J Ec 97,J Ec 109,nq s0 2 s2]] hl _):=hS;clear hS;go_at_call 29;with_reducible refine Ee sn.o ?_
     rintro e a2 ⟨rfl,cv,n8,j3⟩;have ac:=Z (cP.step n8 j3);have kv:=Z (vb.step j3);clear n8 j3;refine d _ _ (λ_=>ac.box) ?_;clear d K;go_simp;refine Qc [5,6] ac.box ?_;refine Qd [7,9,10] ac.box s ?_;refine ef (i:=8) (j:=11) rfl rfl (by kernel_rfl) (by rfl) (by rfl) (λK d=>?_) (λK d=>?_)
     · go_simp;have i4:=eM cv a2 B kU ac.cat (by decide+kernel);rw [lg.1] at i4;have sz:Hid (Ej prog 18 #[fn (X ⟨B,0,Y⟩)] a2 _):=i4;clear i4;go_at_call 18;with_reducible refine Ee sz.o ?_
       rintro e ay ⟨E2,gq,rfl,nf,ja,r0,q0⟩;have wq:=Z (cI.of_owns (l:=[(1,1),(2,2)]) r0 q0);clear r0 q0;have h9:=Z (ac.step nf ja);have wz:=Z (kv.step ja);clear nf ja;refine d _ _ (λ_=>h9.box) ?_;clear d K;go_simp;refine Dq 11 λK d=>?_;go_simp;obtain ⟨hr,f7⟩:=Qe (ay.alloc (ih #[J U 1,J U 1,J U 2,J U 2] 36));obtain ⟨g7,ee⟩:=Qe ay.heap.size;have ds:Ek ay.heap.size ay hr:=by rw [<- f7];exact (Ef _ ay).alloc (Eg _) _
       have q6:hr.heap[g7]? =X (ih #[J U 1,J U 1,J U 2,J U 2] 36 (0,0)):=by rw [<- f7, <- ee];exact Ed ay _
       have p0:¬gq g7:=λf=>by have h1:=h9.o.cat.lt g7 f;have r:ay.heap.size=g7:=ee;omega
       have ml:=Z (h9.below ds);have x4:=Z (wz.step (ag.of_below ds));have lm:=Z (wq.step (ag.of_below ds));have lk:=Z (cI.new (F:=gq) (l:=[(1,1),(2,2)]) 2 rfl q6 p0);try rw [ee]
       try rw [f7]
       clear f7 ee ds q6 p0;refine d _ _ (λ_=>ml.box) ?_;clear d K;go_simp;refine Dq 12 λK d=>?_;go_simp;have iQ:=cC _ _ [(1,1),(2,2)] [(1,1),(2,2)] hr lm.at lk.at (by decide) (by decide);rw [show decide (([(1,1),(2,2)]:List RK)=[(1,1),(2,2)])=true from by decide] at iQ;have tx:=Z iQ;clear iQ;go_at_call 17;with_reducible refine Ee tx.o ?_
       rintro e mv ⟨rfl,c9⟩;have c1:=Z (ml.below c9);have xc:=Z (x4.step (ag.of_below c9));have xs:=Z (lm.step (ag.of_below c9));have y0:=Z (lk.step (ag.of_below c9));clear c9;refine d _ _ (λ_=>c1.box) ?_;clear d K;go_simp;refine Qc [13,14] c1.box ?_;refine Qd [15,16,18] c1.box s ?_;refine Dq 17 λK d=>?_;go_simp;have iS:=cr gq mv B kU c1.cat (by decide+kernel) (1,1) (bJ (by decide));rw [lg.2] at iS;have t3:Hid (Ej prog 22 #[fn (X ⟨B,0,Y⟩), .agg #[J U 1,J U 1]] mv _):=iS;clear iS;go_at_call 22;with_reducible refine Ee t3.o ?_
       rintro e A1 ⟨E9,AT,rfl,o3,cs,rc,qd⟩;have ls:=Z (cI.of_owns (l:=[(1,1),(1,2),(2,1)]) rc qd);clear rc qd;have mp:=Z (c1.step o3 cs);have lv:=Z (xc.step cs);have y1:=Z (xs.step cs);have y2:=Z (y0.step cs);clear o3 cs;refine d _ _ (λ_=>mp.box) ?_;clear d K;go_simp;refine Dq 19 λK d=>?_;go_simp;have j0:=cC _ _ [(1,1),(1,2),(2,1)] [(1,1),(1,2),(2,1)] A1 ls.at lv.at (by decide) (by decide);rw [show decide (([(1,1),(1,2),(2,1)]:List RK)=[(1,1),(1,2),(2,1)])=true from by decide] at j0;have ty:=Z j0;clear j0;go_at_call 17;with_reducible refine Ee ty.o ?_
       rintro e DU ⟨rfl,bT⟩;have hi:=Z (mp.below bT);have DH:=Z (lv.step (ag.of_below bT));have DI:=Z (y1.step (ag.of_below bT));have DJ:=Z (y2.step (ag.of_below bT));have DK:=Z (ls.step (ag.of_below bT));clear bT;refine d _ _ (λ_=>hi.box) ?_;clear d K;go_simp;refine Qc [20,21] hi.box ?_;refine dN ?_;go_wp2_with fail
       go_meet;exact ⟨rfl,_,hi⟩
     · go_simp;obtain ⟨d6,fc⟩:=Qe (a2.alloc (ih #[J U 1,J U 1,J U 2,J U 2] 36));obtain ⟨gc,eq⟩:=Qe a2.heap.size;have hD:Ek a2.heap.size a2 d6:=by rw [<- fc];exact (Ef _ a2).alloc (Eg _) _
       have qe:d6.heap[gc]? =X (ih #[J U 1,J U 1,J U 2,J U 2] 36 (0,0)):=by rw [<- fc, <- eq];exact Ed a2 _
       have p4:¬cv gc:=λf=>by have h1:=ac.o.cat.lt gc f;have r:a2.heap.size=gc:=eq;omega
       have hj:=Z (ac.below hD);have y4:=Z (kv.step (ag.of_below hD));have y3:=Z (cI.new (F:=cv) (l:=[(1,1),(2,2)]) 2 rfl qe p4);try rw [eq]
       try rw [fc]
       clear fc eq hD qe p4;refine d _ _ (λ_=>hj.box) ?_;clear d K;go_simp;refine Dq 8 λK d=>?_;go_simp;have j1:=eM cv d6 B kU hj.cat (by decide+kernel);rw [lg.1] at j1;have t4:Hid (Ej prog 18 #[fn (X ⟨B,0,Y⟩)] d6 _):=j1;clear j1;go_at_call 18;with_reducible refine Ee t4.o ?_
       rintro e A2 ⟨Ea,s5,rfl,o4,gp,rg,qf⟩;have lx:=Z (cI.of_owns (l:=[(1,1),(2,2)]) rg qf);clear rg qf;have ms:=Z (hj.step o4 gp);have y5:=Z (y4.step gp);have lB:=Z (y3.step gp);clear o4 gp;refine d _ _ (λ_=>ms.box) ?_;clear d K;go_simp;refine Dq 12 λK d=>?_;go_simp;have hG:=cC _ _ [(1,1),(2,2)] [(1,1),(2,2)] A2 lx.at lB.at (by decide) (by decide);rw [show decide (([(1,1),(2,2)]:List RK)=[(1,1),(2,2)])=true from by decide] at hG;have t6:=Z hG;clear hG;go_at_call 17;with_reducible refine Ee t6.o ?_
       rintro e mP ⟨rfl,c3⟩;have bY:=Z (ms.below c3);have uo:=Z (y5.step (ag.of_below c3));have up:=Z (lB.step (ag.of_below c3));have v0:=Z (lx.step (ag.of_below c3));clear c3;refine d _ _ (λ_=>bY.box) ?_;clear d K;go_simp;refine Qc [13,14] bY.box ?_;refine Qd [15,16,18] bY.box s ?_;refine Dq 17 λK d=>?_;go_simp;have hH:=cr s5 mP B kU bY.cat (by decide+kernel) (1,1) (bJ (by decide));rw [lg.2] at hH;have s8:Hid (Ej prog 22 #[fn (X ⟨B,0,Y⟩), .agg #[J U 1,J U 1]] mP _):=hH;clear hH;go_at_call 22;with_reducible refine Ee s8.o ?_
       rintro e z9 ⟨DV,Ac,rfl,n3,ch,qk,p5⟩;have k4:=Z (cI.of_owns (l:=[(1,1),(1,2),(2,1)]) qk p5);clear qk p5;have lE:=Z (bY.step n3 ch);have k5:=Z (uo.step ch);have v1:=Z (up.step ch);have v2:=Z (v0.step ch);clear n3 ch;refine d _ _ (λ_=>lE.box) ?_;clear d K;go_simp;refine Dq 19 λK d=>?_;go_simp;have hI:=cC _ _ [(1,1),(1,2),(2,1)] [(1,1),(1,2),(2,1)] z9 k4.at k5.at (by decide) (by decide);rw [show decide (([(1,1),(1,2),(2,1)]:List RK)=[(1,1),(1,2),(2,1)])=true from by decide] at hI;have t7:=Z hI;clear hI;go_at_call 17;with_reducible refine Ee t7.o ?_
       rintro e DL ⟨rfl,bk⟩;have gt:=Z (lE.below bk);have Bo:=Z (k5.step (ag.of_below bk));have Bq:=Z (v1.step (ag.of_below bk));have By:=Z (v2.step (ag.of_below bk));have BY:=Z (k4.step (ag.of_below bk));clear bk;refine d _ _ (λ_=>gt.box) ?_;clear d K;go_simp;refine Qc [20,21] gt.box ?_;refine dN ?_;go_wp2_with fail
       go_meet;exact ⟨rfl,_,gt⟩
    case rest=>
     obtain ⟨rfl,F,T⟩:=hcut;go_upto_region 15 with fail
     go_cut [9] (λt wx=>t=qn true/\∃F:Nat->Prop,Hid (SnS B w w1 F wx jv))
     case first=>
      have n:=Z (T.below (Ef _ wc).drew);go_wp2_with fail
      refine wT (λW:Ei=>∀q,B+1<=q->q<=B+5->W.heap[q]? =w1.heap[q]?) 999 ?_;refine Qd [0,1,2] n.box s ?_;refine Dp 3 λK d=>?_;go_simp;have hJ:=s7 F wc.drew B kU n.cat (1,1) (2,1) 1 (bJ (by decide)) (bJ (by decide)) (by unfold i64B;decide);rw [CX] at hJ;have sa:Hid (Ej prog 39 #[fn (X ⟨B,0,Y⟩), .agg #[J U 1,J U 1], .agg #[J U 2,J U 1],J U 1] wc.drew _):=hJ;clear hJ;go_at_call 39;with_reducible refine Ee sa.o ?_
      rintro e a0 ⟨rfl,cu,n4,rs⟩;have a7:=Z (n.step n4 rs);clear n4 rs;refine d _ _ (λ_=>a7.box) ?_;clear d K;go_simp;refine Qc [4,5] a7.box ?_;refine Qd [6,8,9,10] a7.box s ?_;refine ef (i:=7) (j:=11) rfl rfl (by kernel_rfl) (by rfl) (by rfl) (λK d=>?_) (λK d=>?_)
      · go_simp;have hL:=eM cu a0 B jv a7.cat (by decide+kernel);rw [fW.2.1] at hL;have sb:Hid (Ej prog 18 #[fn (X ⟨B,0,Y⟩)] a0 _):=hL;clear hL;go_at_call 18;with_reducible refine Ee sb.o ?_
        rintro e au ⟨DW,bb,rfl,n5,rt,qq,pa⟩;have v3:=Z (cI.of_owns (l:=[(1,1),(2,1),(2,2)]) qq pa);clear qq pa;have gx:=Z (a7.step n5 rt);clear n5 rt;refine d _ _ (λ_=>gx.box) ?_;clear d K;go_simp;refine Dq 11 λK d=>?_;go_simp;obtain ⟨hm,es⟩:=Qe (au.alloc (ih #[J U 1,J U 1,J U 2,J U 1,J U 2,J U 2] 36));obtain ⟨fp,e1⟩:=Qe au.heap.size;have hz:Ek au.heap.size au hm:=by rw [<- es];exact (Ef _ au).alloc (Eg _) _
        have pb:hm.heap[fp]? =X (ih #[J U 1,J U 1,J U 2,J U 1,J U 2,J U 2] 36 (0,0)):=by rw [<- es, <- e1];exact Ed au _
        have oj:¬bb fp:=λf=>by have h1:=gx.o.cat.lt fp f;have r:au.heap.size=fp:=e1;omega
        have lP:=Z (gx.below hz);have k7:=Z (v3.step (ag.of_below hz));have k6:=Z (cI.new (F:=bb) (l:=[(1,1),(2,1),(2,2)]) 3 rfl pb oj);try rw [e1]
        try rw [es]
        clear es e1 hz pb oj;refine d _ _ (λ_=>lP.box) ?_;clear d K;go_simp;refine Dq 12 λK d=>?_;go_simp;have hM:=cC _ _ [(1,1),(2,1),(2,2)] [(1,1),(2,1),(2,2)] hm k7.at k6.at (by decide) (by decide);rw [show decide (([(1,1),(2,1),(2,2)]:List RK)=[(1,1),(2,1),(2,2)])=true from by decide] at hM;have t8:=Z hM;clear hM;go_at_call 17;with_reducible refine Ee t8.o ?_
        rintro e a1 ⟨rfl,da⟩;have a8:=Z (lP.below da);have k8:=Z (k7.step (ag.of_below da));have k9:=Z (k6.step (ag.of_below da));clear da;refine d _ _ (λ_=>a8.box) ?_;clear d K;go_simp;refine Qc [13,14] a8.box ?_;refine Qd [15,16,18,19] a8.box s ?_;refine ef (i:=17) (j:=20) rfl rfl (by kernel_rfl) (by rfl) (by rfl) (λK d=>?_) (λK d=>?_)
        · go_simp;have hN:=cr bb a1 B jv a8.cat (by decide+kernel) (1,1) (bJ (by decide));rw [fW.2.2] at hN;have se:Hid (Ej prog 22 #[fn (X ⟨B,0,Y⟩), .agg #[J U 1,J U 1]] a1 _):=hN;clear hN;go_at_call 22;with_reducible refine Ee se.o ?_
          rintro e av ⟨DX,jj,rfl,n6,gd,qs,pc⟩;have v4:=Z (cI.of_owns (l:=[(1,1),(1,2)]) qs pc);clear qs pc;have gy:=Z (a8.step n6 gd);have v5:=Z (k8.step gd);have v7:=Z (k9.step gd);clear n6 gd;refine d _ _ (λ_=>gy.box) ?_;clear d K;go_simp;refine Dq 20 λK d=>?_;go_simp;obtain ⟨hn,ex⟩:=Qe (av.alloc (ih #[J U 1,J U 1,J U 1,J U 2] 36));obtain ⟨fr,e2⟩:=Qe av.heap.size;have c4:Ek av.heap.size av hn:=by rw [<- ex];exact (Ef _ av).alloc (Eg _) _
          have pd:hn.heap[fr]? =X (ih #[J U 1,J U 1,J U 1,J U 2] 36 (0,0)):=by rw [<- ex, <- e2];exact Ed av _
          have ok:¬jj fr:=λf=>by have h1:=gy.o.cat.lt fr f;have r:av.heap.size=fr:=e2;omega
          have lQ:=Z (gy.below c4);have v9:=Z (v5.step (ag.of_below c4));have va:=Z (v7.step (ag.of_below c4));have kb:=Z (v4.step (ag.of_below c4));have ka:=Z (cI.new (F:=jj) (l:=[(1,1),(1,2)]) 2 rfl pd ok);try rw [e2]
          try rw [ex]
          clear ex e2 c4 pd ok;refine d _ _ (λ_=>lQ.box) ?_;clear d K;go_simp;refine Dq 21 λK d=>?_;go_simp;have hO:=cC _ _ [(1,1),(1,2)] [(1,1),(1,2)] hn kb.at ka.at (by decide) (by decide);rw [show decide (([(1,1),(1,2)]:List RK)=[(1,1),(1,2)])=true from by decide] at hO;have t9:=Z hO;clear hO;go_at_call 17;with_reducible refine Ee t9.o ?_
          rintro e DM ⟨rfl,bp⟩;have gz:=Z (lQ.below bp);have C1:=Z (v9.step (ag.of_below bp));have C2:=Z (va.step (ag.of_below bp));have C3:=Z (kb.step (ag.of_below bp));have C4:=Z (ka.step (ag.of_below bp));clear bp;refine d _ _ (λ_=>gz.box) ?_;clear d K;go_simp;refine Qc [22,23] gz.box ?_;refine dN ?_;go_wp2_with fail
          go_meet;exact ⟨rfl,_,gz⟩
        · go_simp;obtain ⟨d0,eQ⟩:=Qe (a1.alloc (ih #[J U 1,J U 1,J U 1,J U 2] 36));obtain ⟨fs,e3⟩:=Qe a1.heap.size;have dd:Ek a1.heap.size a1 d0:=by rw [<- eQ];exact (Ef _ a1).alloc (Eg _) _
          have pe:d0.heap[fs]? =X (ih #[J U 1,J U 1,J U 1,J U 2] 36 (0,0)):=by rw [<- eQ, <- e3];exact Ed a1 _
          have op:¬bb fs:=λf=>by have h1:=a8.o.cat.lt fs f;have r:a1.heap.size=fs:=e3;omega
          have gO:=Z (a8.below dd);have vd:=Z (k8.step (ag.of_below dd));have vn:=Z (k9.step (ag.of_below dd));have vc:=Z (cI.new (F:=bb) (l:=[(1,1),(1,2)]) 2 rfl pe op);try rw [e3]
          try rw [eQ]
          clear eQ e3 dd pe op;refine d _ _ (λ_=>gO.box) ?_;clear d K;go_simp;refine Dq 17 λK d=>?_;go_simp;have hP:=cr bb d0 B jv gO.cat (by decide+kernel) (1,1) (bJ (by decide));rw [fW.2.2] at hP;have sl:Hid (Ej prog 22 #[fn (X ⟨B,0,Y⟩), .agg #[J U 1,J U 1]] d0 _):=hP;clear hP;go_at_call 22;with_reducible refine Ee sl.o ?_
          rintro e zd ⟨DY,As,rfl,n7,cl,qt,pf⟩;have kc:=Z (cI.of_owns (l:=[(1,1),(1,2)]) qt pf);clear qt pf;have lT:=Z (gO.step n7 cl);have vs:=Z (vd.step cl);have vt:=Z (vn.step cl);have kd:=Z (vc.step cl);clear n7 cl;refine d _ _ (λ_=>lT.box) ?_;clear d K;go_simp;refine Dq 21 λK d=>?_;go_simp;have hQ:=cC _ _ [(1,1),(1,2)] [(1,1),(1,2)] zd kc.at kd.at (by decide) (by decide);rw [show decide (([(1,1),(1,2)]:List RK)=[(1,1),(1,2)])=true from by decide] at hQ;have ta:=Z hQ;clear hQ;go_at_call 17;with_reducible refine Ee ta.o ?_
          rintro e DN ⟨rfl,bs⟩;have gP:=Z (lT.below bs);have D0:=Z (vs.step (ag.of_below bs));have D1:=Z (vt.step (ag.of_below bs));have D2:=Z (kd.step (ag.of_below bs));have D3:=Z (kc.step (ag.of_below bs));clear bs;refine d _ _ (λ_=>gP.box) ?_;clear d K;go_simp;refine Qc [22,23] gP.box ?_;refine dN ?_;go_wp2_with fail
          go_meet;exact ⟨rfl,_,gP⟩
      · go_simp;obtain ⟨d1,f0⟩:=Qe (a0.alloc (ih #[J U 1,J U 1,J U 2,J U 1,J U 2,J U 2] 36));obtain ⟨ft,e4⟩:=Qe a0.heap.size;have ob:Ek a0.heap.size a0 d1:=by rw [<- f0];exact (Ef _ a0).alloc (Eg _) _
        have pi:d1.heap[ft]? =X (ih #[J U 1,J U 1,J U 2,J U 1,J U 2,J U 2] 36 (0,0)):=by rw [<- f0, <- e4];exact Ed a0 _
        have os:¬cu ft:=λf=>by have h1:=a7.o.cat.lt ft f;have r:a0.heap.size=ft:=e4;omega
        have gQ:=Z (a7.below ob);have vx:=Z (cI.new (F:=cu) (l:=[(1,1),(2,1),(2,2)]) 3 rfl pi os);try rw [e4]
        try rw [f0]
        clear f0 e4 ob pi os;refine d _ _ (λ_=>gQ.box) ?_;clear d K;go_simp;refine Dq 7 λK d=>?_;go_simp;have hR:=eM cu d1 B jv gQ.cat (by decide+kernel);rw [fW.2.1] at hR;have sm:Hid (Ej prog 18 #[fn (X ⟨B,0,Y⟩)] d1 _):=hR;clear hR;go_at_call 18;with_reducible refine Ee sm.o ?_
        rintro e zp ⟨DZ,cx,rfl,n9,j4,qv,pk⟩;have kl:=Z (cI.of_owns (l:=[(1,1),(2,1),(2,2)]) qv pk);clear qv pk;have m0:=Z (gQ.step n9 j4);have kn:=Z (vx.step j4);clear n9 j4;refine d _ _ (λ_=>m0.box) ?_;clear d K;go_simp;refine Dq 12 λK d=>?_;go_simp;have hT:=cC _ _ [(1,1),(2,1),(2,2)] [(1,1),(2,1),(2,2)] zp kl.at kn.at (by decide) (by decide);rw [show decide (([(1,1),(2,1),(2,2)]:List RK)=[(1,1),(2,1),(2,2)])=true from by decide] at hT;have tb:=Z hT;clear hT;go_at_call 17;with_reducible refine Ee tb.o ?_
        rintro e a3 ⟨rfl,di⟩;have a9:=Z (m0.below di);have ko:=Z (kn.step (ag.of_below di));have kq:=Z (kl.step (ag.of_below di));clear di;refine d _ _ (λ_=>a9.box) ?_;clear d K;go_simp;refine Qc [13,14] a9.box ?_;refine Qd [15,16,18,19] a9.box s ?_;refine ef (i:=17) (j:=20) rfl rfl (by kernel_rfl) (by rfl) (by rfl) (λK d=>?_) (λK d=>?_)
        · go_simp;have hV:=cr cx a3 B jv a9.cat (by decide+kernel) (1,1) (bJ (by decide));rw [fW.2.2] at hV;have sp:Hid (Ej prog 22 #[fn (X ⟨B,0,Y⟩), .agg #[J U 1,J U 1]] a3 _):=hV;clear hV;go_at_call 22;with_reducible refine Ee sp.o ?_
          rintro e ax ⟨E0,jn,rfl,nb,gf,qx,pn⟩;have vy:=Z (cI.of_owns (l:=[(1,1),(1,2)]) qx pn);clear qx pn;have h0:=Z (a9.step nb gf);have vN:=Z (ko.step gf);have w0:=Z (kq.step gf);clear nb gf;refine d _ _ (λ_=>h0.box) ?_;clear d K;go_simp;refine Dq 20 λK d=>?_;go_simp;obtain ⟨ho,f1⟩:=Qe (ax.alloc (ih #[J U 1,J U 1,J U 1,J U 2] 36));obtain ⟨fx,e5⟩:=Qe ax.heap.size;have c5:Ek ax.heap.size ax ho:=by rw [<- f1];exact (Ef _ ax).alloc (Eg _) _
          have ps:ho.heap[fx]? =X (ih #[J U 1,J U 1,J U 1,J U 2] 36 (0,0)):=by rw [<- f1, <- e5];exact Ed ax _
          have ot:¬jn fx:=λf=>by have h1:=h0.o.cat.lt fx f;have r:ax.heap.size=fx:=e5;omega
          have m7:=Z (h0.below c5);have w2:=Z (vN.step (ag.of_below c5));have w3:=Z (w0.step (ag.of_below c5));have kt:=Z (vy.step (ag.of_below c5));have ks:=Z (cI.new (F:=jn) (l:=[(1,1),(1,2)]) 2 rfl ps ot);try rw [e5]
          try rw [f1]
          clear f1 e5 c5 ps ot;refine d _ _ (λ_=>m7.box) ?_;clear d K;go_simp;refine Dq 21 λK d=>?_;go_simp;have hW:=cC _ _ [(1,1),(1,2)] [(1,1),(1,2)] ho kt.at ks.at (by decide) (by decide);rw [show decide (([(1,1),(1,2)]:List RK)=[(1,1),(1,2)])=true from by decide] at hW;have tc:=Z hW;clear hW;go_at_call 17;with_reducible refine Ee tc.o ?_
          rintro e DO ⟨rfl,bt⟩;have h3:=Z (m7.below bt);have D4:=Z (w2.step (ag.of_below bt));have D5:=Z (w3.step (ag.of_below bt));have D6:=Z (kt.step (ag.of_below bt));have D7:=Z (ks.step (ag.of_below bt));clear bt;refine d _ _ (λ_=>h3.box) ?_;clear d K;go_simp;refine Qc [22,23] h3.box ?_;refine dN ?_;go_wp2_with fail
          go_meet;exact ⟨rfl,_,h3⟩
        · go_simp;obtain ⟨d2,f2⟩:=Qe (a3.alloc (ih #[J U 1,J U 1,J U 1,J U 2] 36));obtain ⟨fy,e6⟩:=Qe a3.heap.size;have dk:Ek a3.heap.size a3 d2:=by rw [<- f2];exact (Ef _ a3).alloc (Eg _) _
          have pt:d2.heap[fy]? =X (ih #[J U 1,J U 1,J U 1,J U 2] 36 (0,0)):=by rw [<- f2, <- e6];exact Ed a3 _
          have ov:¬cx fy:=λf=>by have h1:=a9.o.cat.lt fy f;have r:a3.heap.size=fy:=e6;omega
          have h4:=Z (a9.below dk);have w5:=Z (ko.step (ag.of_below dk));have w6:=Z (kq.step (ag.of_below dk));have w4:=Z (cI.new (F:=cx) (l:=[(1,1),(1,2)]) 2 rfl pt ov);try rw [e6]
          try rw [f2]
          clear f2 e6 dk pt ov;refine d _ _ (λ_=>h4.box) ?_;clear d K;go_simp;refine Dq 17 λK d=>?_;go_simp;have hX:=cr cx d2 B jv h4.cat (by decide+kernel) (1,1) (bJ (by decide));rw [fW.2.2] at hX;have ss:Hid (Ej prog 22 #[fn (X ⟨B,0,Y⟩), .agg #[J U 1,J U 1]] d2 _):=hX;clear hX;go_at_call 22;with_reducible refine Ee ss.o ?_
          rintro e zs ⟨E1,At,rfl,ne,cm,qy,pv⟩;have kx:=Z (cI.of_owns (l:=[(1,1),(1,2)]) qy pv);clear qy pv;have ma:=Z (h4.step ne cm);have w7:=Z (w5.step cm);have w8:=Z (w6.step cm);have ky:=Z (w4.step cm);clear ne cm;refine d _ _ (λ_=>ma.box) ?_;clear d K;go_simp;refine Dq 21 λK d=>?_;go_simp;have hY:=cC _ _ [(1,1),(1,2)] [(1,1),(1,2)] zs kx.at ky.at (by decide) (by decide);rw [show decide (([(1,1),(1,2)]:List RK)=[(1,1),(1,2)])=true from by decide] at hY;have td:=Z hY;clear hY;go_at_call 17;with_reducible refine Ee td.o ?_
          rintro e DP ⟨rfl,bw⟩;have h5:=Z (ma.below bw);have D8:=Z (w7.step (ag.of_below bw));have D9:=Z (w8.step (ag.of_below bw));have Dm:=Z (ky.step (ag.of_below bw));have Dn:=Z (kx.step (ag.of_below bw));clear bw;refine d _ _ (λ_=>h5.box) ?_;clear d K;go_simp;refine Qc [22,23] h5.box ?_;refine dN ?_;go_wp2_with fail
          go_meet;exact ⟨rfl,_,h5⟩
     case rest=>
      obtain ⟨rfl,F,T⟩:=hcut;go_upto_region 16 with fail
      go_cut [10] (λt wx=>t=qn true/\∃F:Nat->Prop,Hid (SnS B w w1 F wx nh))
      case first=>
       have n:=Z (T.below (Ef _ wc).drew);go_wp2_with fail
       refine wT (λW:Ei=>∀q,B+1<=q->q<=B+5->W.heap[q]? =w1.heap[q]?) 999 ?_;refine Qd [0,1,2] n.box s ?_;refine Dp 3 λK d=>?_;go_simp;have hZ:=vM F wc.drew B jv n.cat (2,2) (2,1) 1 (bJ (by decide)) (bJ (by decide)) (by unfold i64B;decide);rw [CV] at hZ;have st:Hid (Ej prog 40 #[fn (X ⟨B,0,Y⟩), .agg #[J U 2,J U 2], .agg #[J U 2,J U 1],J U 1] wc.drew _):=hZ;clear hZ;go_at_call 40;with_reducible refine Ee st.o ?_
       rintro e mt ⟨rfl,s4,nx,rx⟩;have c0:=Z (n.step nx rx);clear nx rx;refine d _ _ (λ_=>c0.box) ?_;clear d K;go_simp;refine Qc [4,5] c0.box ?_;refine Qd [6,7] c0.box s ?_;refine Dq 8 λK d=>?_;go_simp;have i0:=vQ s4 mt B yB c0.cat (1,1) 2 (bJ (by decide)) (by unfold i64B;decide);rw [CW] at i0;have su:Hid (Ej prog 27 #[fn (X ⟨B,0,Y⟩), .agg #[J U 1,J U 1],J U 2] mt _):=i0;clear i0;go_at_call 27;with_reducible refine Ee su.o ?_
       rintro e a4 ⟨rfl,cy,ny,ry⟩;have ad:=Z (c0.step ny ry);clear ny ry;refine d _ _ (λ_=>ad.box) ?_;clear d K;go_simp;refine Qc [9,10,11] ad.box ?_;refine Qd [12,14] ad.box s ?_;refine ef (i:=13) (j:=15) rfl rfl (by kernel_rfl) (by rfl) (by rfl) (λK d=>?_) (λK d=>?_)
       · go_simp;have i2:=eM cy a4 B nh ad.cat (by decide+kernel);rw [dG.2.2.1] at i2;have sx:Hid (Ej prog 18 #[fn (X ⟨B,0,Y⟩)] a4 _):=i2;clear i2;go_at_call 18;with_reducible refine Ee sx.o ?_
         rintro e aC ⟨E3,bc,rfl,nz,rW,qz,px⟩;have w9:=Z (cI.of_owns (l:=[(1,2)]) qz px);clear qz px;have h6:=Z (ad.step nz rW);clear nz rW;refine d _ _ (λ_=>h6.box) ?_;clear d K;go_simp;refine Dq 15 λK d=>?_;go_simp;obtain ⟨hp,f3⟩:=Qe (aC.alloc (ih #[J U 1,J U 2] 36));obtain ⟨fz,e7⟩:=Qe aC.heap.size;have hA:Ek aC.heap.size aC hp:=by rw [<- f3];exact (Ef _ aC).alloc (Eg _) _
         have py:hp.heap[fz]? =X (ih #[J U 1,J U 2] 36 (0,0)):=by rw [<- f3, <- e7];exact Ed aC _
         have oF:¬bc fz:=λf=>by have h1:=h6.o.cat.lt fz f;have r:aC.heap.size=fz:=e7;omega
         have mb:=Z (h6.below hA);have l1:=Z (w9.step (ag.of_below hA));have kz:=Z (cI.new (F:=bc) (l:=[(1,2)]) 1 rfl py oF);try rw [e7]
         try rw [f3]
         clear f3 e7 hA py oF;refine d _ _ (λ_=>mb.box) ?_;clear d K;go_simp;refine Dq 16 λK d=>?_;go_simp;have i6:=cC _ _ [(1,2)] [(1,2)] hp l1.at kz.at (by decide) (by decide);rw [show decide (([(1,2)]:List RK)=[(1,2)])=true from by decide] at i6;have te:=Z i6;clear i6;go_at_call 17;with_reducible refine Ee te.o ?_
         rintro e a5 ⟨rfl,dn⟩;have al:=Z (mb.below dn);have l2:=Z (l1.step (ag.of_below dn));have l3:=Z (kz.step (ag.of_below dn));clear dn;refine d _ _ (λ_=>al.box) ?_;clear d K;go_simp;refine Qc [17,18] al.box ?_;refine Qd [19,20,22,23,24] al.box s ?_;refine ef (i:=21) (j:=25) rfl rfl (by kernel_rfl) (by rfl) (by rfl) (λK d=>?_) (λK d=>?_)
         · go_simp;have i7:=cr bc a5 B nh al.cat (by decide+kernel) (1,2) (bJ (by decide));rw [dG.2.2.2] at i7;have sC:Hid (Ej prog 22 #[fn (X ⟨B,0,Y⟩), .agg #[J U 1,J U 2]] a5 _):=i7;clear i7;go_at_call 22;with_reducible refine Ee sC.o ?_
           rintro e aS ⟨E4,k2,rfl,nE,gi,r1,pz⟩;have wa:=Z (cI.of_owns (l:=[(1,2),(2,1),(2,2)]) r1 pz);clear r1 pz;have h7:=Z (al.step nE gi);have wb:=Z (l2.step gi);have wf:=Z (l3.step gi);clear nE gi;refine d _ _ (λ_=>h7.box) ?_;clear d K;go_simp;refine Dq 25 λK d=>?_;go_simp;obtain ⟨hq,f4⟩:=Qe (aS.alloc (ih #[J U 1,J U 2,J U 2,J U 1,J U 2,J U 2] 36));obtain ⟨g0,e8⟩:=Qe aS.heap.size;have c6:Ek aS.heap.size aS hq:=by rw [<- f4];exact (Ef _ aS).alloc (Eg _) _
           have q1:hq.heap[g0]? =X (ih #[J U 1,J U 2,J U 2,J U 1,J U 2,J U 2] 36 (0,0)):=by rw [<- f4, <- e8];exact Ed aS _
           have oN:¬k2 g0:=λf=>by have h1:=h7.o.cat.lt g0 f;have r:aS.heap.size=g0:=e8;omega
           have mc:=Z (h7.below c6);have wi:=Z (wb.step (ag.of_below c6));have wp:=Z (wf.step (ag.of_below c6));have l5:=Z (wa.step (ag.of_below c6));have l4:=Z (cI.new (F:=k2) (l:=[(1,2),(2,1),(2,2)]) 3 rfl q1 oN);try rw [e8]
           try rw [f4]
           clear f4 e8 c6 q1 oN;refine d _ _ (λ_=>mc.box) ?_;clear d K;go_simp;refine Dq 26 λK d=>?_;go_simp;have i8:=cC _ _ [(1,2),(2,1),(2,2)] [(1,2),(2,1),(2,2)] hq l5.at l4.at (by decide) (by decide);rw [show decide (([(1,2),(2,1),(2,2)]:List RK)=[(1,2),(2,1),(2,2)])=true from by decide] at i8;have th:=Z i8;clear i8;go_at_call 17;with_reducible refine Ee th.o ?_
           rintro e DQ ⟨rfl,bA⟩;have h8:=Z (mc.below bA);have Do:=Z (wi.step (ag.of_below bA));have Dr:=Z (wp.step (ag.of_below bA));have Dt:=Z (l5.step (ag.of_below bA));have Du:=Z (l4.step (ag.of_below bA));clear bA;refine d _ _ (λ_=>h8.box) ?_;clear d K;go_simp;refine Qc [27,28] h8.box ?_;refine dN ?_;go_wp2_with fail
           go_meet;exact ⟨rfl,_,h8⟩
         · go_simp;obtain ⟨d3,f5⟩:=Qe (a5.alloc (ih #[J U 1,J U 2,J U 2,J U 1,J U 2,J U 2] 36));obtain ⟨g6,e9⟩:=Qe a5.heap.size;have dp:Ek a5.heap.size a5 d3:=by rw [<- f5];exact (Ef _ a5).alloc (Eg _) _
           have q2:d3.heap[g6]? =X (ih #[J U 1,J U 2,J U 2,J U 1,J U 2,J U 2] 36 (0,0)):=by rw [<- f5, <- e9];exact Ed a5 _
           have oR:¬bc g6:=λf=>by have h1:=al.o.cat.lt g6 f;have r:a5.heap.size=g6:=e9;omega
           have ha:=Z (al.below dp);have wu:=Z (l2.step (ag.of_below dp));have wy:=Z (l3.step (ag.of_below dp));have ws:=Z (cI.new (F:=bc) (l:=[(1,2),(2,1),(2,2)]) 3 rfl q2 oR);try rw [e9]
           try rw [f5]
           clear f5 e9 dp q2 oR;refine d _ _ (λ_=>ha.box) ?_;clear d K;go_simp;refine Dq 21 λK d=>?_;go_simp;have ia:=cr bc d3 B nh ha.cat (by decide+kernel) (1,2) (bJ (by decide));rw [dG.2.2.2] at ia;have sM:Hid (Ej prog 22 #[fn (X ⟨B,0,Y⟩), .agg #[J U 1,J U 2]] d3 _):=ia;clear ia;go_at_call 22;with_reducible refine Ee sM.o ?_
           rintro e zz ⟨E5,AC,rfl,nF,cp,r2,q3⟩;have l6:=Z (cI.of_owns (l:=[(1,2),(2,1),(2,2)]) r2 q3);clear r2 q3;have me:=Z (ha.step nF cp);have wB:=Z (wu.step cp);have wD:=Z (wy.step cp);have l7:=Z (ws.step cp);clear nF cp;refine d _ _ (λ_=>me.box) ?_;clear d K;go_simp;refine Dq 26 λK d=>?_;go_simp;have ib:=cC _ _ [(1,2),(2,1),(2,2)] [(1,2),(2,1),(2,2)] zz l6.at l7.at (by decide) (by decide);rw [show decide (([(1,2),(2,1),(2,2)]:List RK)=[(1,2),(2,1),(2,2)])=true from by decide] at ib;have tl:=Z ib;clear ib;go_at_call 17;with_reducible refine Ee tl.o ?_
           rintro e DR ⟨rfl,bB⟩;have hb:=Z (me.below bB);have Dv:=Z (wB.step (ag.of_below bB));have Dw:=Z (wD.step (ag.of_below bB));have Dx:=Z (l7.step (ag.of_below bB));have Dy:=Z (l6.step (ag.of_below bB));clear bB;refine d _ _ (λ_=>hb.box) ?_;clear d K;go_simp;refine Qc [27,28] hb.box ?_;refine dN ?_;go_wp2_with fail
           go_meet;exact ⟨rfl,_,hb⟩
       · go_simp;obtain ⟨d4,f6⟩:=Qe (a4.alloc (ih #[J U 1,J U 2] 36));obtain ⟨g8,eg⟩:=Qe a4.heap.size;have oc:Ek a4.heap.size a4 d4:=by rw [<- f6];exact (Ef _ a4).alloc (Eg _) _
         have q4:d4.heap[g8]? =X (ih #[J U 1,J U 2] 36 (0,0)):=by rw [<- f6, <- eg];exact Ed a4 _
         have p1:¬cy g8:=λf=>by have h1:=ad.o.cat.lt g8 f;have r:a4.heap.size=g8:=eg;omega
         have hc:=Z (ad.below oc);have wL:=Z (cI.new (F:=cy) (l:=[(1,2)]) 1 rfl q4 p1);try rw [eg]
         try rw [f6]
         clear f6 eg oc q4 p1;refine d _ _ (λ_=>hc.box) ?_;clear d K;go_simp;refine Dq 13 λK d=>?_;go_simp;have it:=eM cy d4 B nh hc.cat (by decide+kernel);rw [dG.2.2.1] at it;have t0:Hid (Ej prog 18 #[fn (X ⟨B,0,Y⟩)] d4 _):=it;clear it;go_at_call 18;with_reducible refine Ee t0.o ?_
         rintro e zD ⟨E6,cz,rfl,nO,jb,r4,q5⟩;have la:=Z (cI.of_owns (l:=[(1,2)]) r4 q5);clear r4 q5;have mf:=Z (hc.step nO jb);have lb:=Z (wL.step jb);clear nO jb;refine d _ _ (λ_=>mf.box) ?_;clear d K;go_simp;refine Dq 16 λK d=>?_;go_simp;have iv:=cC _ _ [(1,2)] [(1,2)] zD la.at lb.at (by decide) (by decide);rw [show decide (([(1,2)]:List RK)=[(1,2)])=true from by decide] at iv;have tr:=Z iv;clear iv;go_at_call 17;with_reducible refine Ee tr.o ?_
         rintro e a6 ⟨rfl,dx⟩;have ao:=Z (mf.below dx);have lc:=Z (lb.step (ag.of_below dx));have ld:=Z (la.step (ag.of_below dx));clear dx;refine d _ _ (λ_=>ao.box) ?_;clear d K;go_simp;refine Qc [17,18] ao.box ?_;refine Qd [19,20,22,23,24] ao.box s ?_;refine ef (i:=21) (j:=25) rfl rfl (by kernel_rfl) (by rfl) (by rfl) (λK d=>?_) (λK d=>?_)
         · go_simp;have iD:=cr cz a6 B nh ao.cat (by decide+kernel) (1,2) (bJ (by decide));rw [dG.2.2.2] at iD;have t1:Hid (Ej prog 22 #[fn (X ⟨B,0,Y⟩), .agg #[J U 1,J U 2]] a6 _):=iD;clear iD;go_at_call 22;with_reducible refine Ee t1.o ?_
           rintro e aT ⟨E7,k3,rfl,o1,gn,r9,q7⟩;have wX:=Z (cI.of_owns (l:=[(1,2),(2,1),(2,2)]) r9 q7);clear r9 q7;have hd:=Z (ao.step o1 gn);have x0:=Z (lc.step gn);have x1:=Z (ld.step gn);clear o1 gn;refine d _ _ (λ_=>hd.box) ?_;clear d K;go_simp;refine Dq 25 λK d=>?_;go_simp;obtain ⟨hs,f8⟩:=Qe (aT.alloc (ih #[J U 1,J U 2,J U 2,J U 1,J U 2,J U 2] 36));obtain ⟨g9,ej⟩:=Qe aT.heap.size;have c7:Ek aT.heap.size aT hs:=by rw [<- f8];exact (Ef _ aT).alloc (Eg _) _
           have qa:hs.heap[g9]? =X (ih #[J U 1,J U 2,J U 2,J U 1,J U 2,J U 2] 36 (0,0)):=by rw [<- f8, <- ej];exact Ed aT _
           have p2:¬k3 g9:=λf=>by have h1:=hd.o.cat.lt g9 f;have r:aT.heap.size=g9:=ej;omega
           have mm:=Z (hd.below c7);have x2:=Z (x0.step (ag.of_below c7));have x3:=Z (x1.step (ag.of_below c7));have lf:=Z (wX.step (ag.of_below c7));have le:=Z (cI.new (F:=k3) (l:=[(1,2),(2,1),(2,2)]) 3 rfl qa p2);try rw [ej]
           try rw [f8]
           clear f8 ej c7 qa p2;refine d _ _ (λ_=>mm.box) ?_;clear d K;go_simp;refine Dq 26 λK d=>?_;go_simp;have iF:=cC _ _ [(1,2),(2,1),(2,2)] [(1,2),(2,1),(2,2)] hs lf.at le.at (by decide) (by decide);rw [show decide (([(1,2),(2,1),(2,2)]:List RK)=[(1,2),(2,1),(2,2)])=true from by decide] at iF;have ts:=Z iF;clear iF;go_at_call 17;with_reducible refine Ee ts.o ?_
           rintro e DS ⟨rfl,bD⟩;have he:=Z (mm.below bD);have Dz:=Z (x2.step (ag.of_below bD));have DA:=Z (x3.step (ag.of_below bD));have DB:=Z (lf.step (ag.of_below bD));have DC:=Z (le.step (ag.of_below bD));clear bD;refine d _ _ (λ_=>he.box) ?_;clear d K;go_simp;refine Qc [27,28] he.box ?_;refine dN ?_;go_wp2_with fail
           go_meet;exact ⟨rfl,_,he⟩
         · go_simp;obtain ⟨d5,f9⟩:=Qe (a6.alloc (ih #[J U 1,J U 2,J U 2,J U 1,J U 2,J U 2] 36));obtain ⟨gb,em⟩:=Qe a6.heap.size;have dy:Ek a6.heap.size a6 d5:=by rw [<- f9];exact (Ef _ a6).alloc (Eg _) _
           have qb:d5.heap[gb]? =X (ih #[J U 1,J U 2,J U 2,J U 1,J U 2,J U 2] 36 (0,0)):=by rw [<- f9, <- em];exact Ed a6 _
           have p3:¬cz gb:=λf=>by have h1:=ao.o.cat.lt gb f;have r:a6.heap.size=gb:=em;omega
           have hg:=Z (ao.below dy);have x6:=Z (lc.step (ag.of_below dy));have x7:=Z (ld.step (ag.of_below dy));have x5:=Z (cI.new (F:=cz) (l:=[(1,2),(2,1),(2,2)]) 3 rfl qb p3);try rw [em]
           try rw [f9]
           clear f9 em dy qb p3;refine d _ _ (λ_=>hg.box) ?_;clear d K;go_simp;refine Dq 21 λK d=>?_;go_simp;have iN:=cr cz d5 B nh hg.cat (by decide+kernel) (1,2) (bJ (by decide));rw [dG.2.2.2] at iN;have t2:Hid (Ej prog 22 #[fn (X ⟨B,0,Y⟩), .agg #[J U 1,J U 2]] d5 _):=iN;clear iN;go_at_call 22;with_reducible refine Ee t2.o ?_
           rintro e zT ⟨E8,AS,rfl,o2,cq,ra,qc⟩;have lo:=Z (cI.of_owns (l:=[(1,2),(2,1),(2,2)]) ra qc);clear ra qc;have mo:=Z (hg.step o2 cq);have xa:=Z (x6.step cq);have xb:=Z (x7.step cq);have lp:=Z (x5.step cq);clear o2 cq;refine d _ _ (λ_=>mo.box) ?_;clear d K;go_simp;refine Dq 26 λK d=>?_;go_simp;have iP:=cC _ _ [(1,2),(2,1),(2,2)] [(1,2),(2,1),(2,2)] zT lo.at lp.at (by decide) (by decide);rw [show decide (([(1,2),(2,1),(2,2)]:List RK)=[(1,2),(2,1),(2,2)])=true from by decide] at iP;have tt:=Z iP;clear iP;go_at_call 17;with_reducible refine Ee tt.o ?_
           rintro e DT ⟨rfl,bO⟩;have hh:=Z (mo.below bO);have DD:=Z (xa.step (ag.of_below bO));have DE:=Z (xb.step (ag.of_below bO));have DF:=Z (lp.step (ag.of_below bO));have DG:=Z (lo.step (ag.of_below bO));clear bO;refine d _ _ (λ_=>hh.box) ?_;clear d K;go_simp;refine Qc [27,28] hh.box ?_;refine dN ?_;go_wp2_with fail
           go_meet;exact ⟨rfl,_,hh⟩
      case rest=>
       obtain ⟨rfl,F,T⟩:=hcut;go_wp2_with fail
       refine El (results_tmp rfl _ _ _) rfl ⟨rfl,T.b⟩
end
end Go.Proofs.YtjcimanddakkaaaGreatDoor
