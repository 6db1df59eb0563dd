/- Lemmas. -/
import Derived.Test.YtjcimanddakkaaaGreatDoorX0
import Derived.Test.YtjcimanddakkaaaGreatDoorX9
import Derived.Test.YtjcimanddakkaaaGreatDoorX22
import Derived.Test.YtjcimanddakkaaaGreatDoorX26
import Derived.Test.YtjcimanddakkaaaGreatDoorX28
set_option maxRecDepth 100000
set_option maxHeartbeats 8000000
namespace Go.Proofs.YtjcimanddakkaaaGreatDoor
open Go.Lib renaming hid→a0a
open Go.World renaming alloc_heap_new→a0b,cell?_of_block→a0g
open Go.Calls renaming mono→a0c
open Go.RowKit.Below renaming refl→a0d,heap_setCell→a0r
open _root_.Nat renaming le_refl→a0e,add_assoc→a0i,zero_le→a0s
open Go.Proofs.Tryz renaming prog→a0f
open Go renaming World→a0h,bodyPost_ret→a0k,Calls→a0l
open Go.RowKit renaming Below→a0j
open _root_.Prod renaming ext→a0m
open _root_.List renaming length_append→a0n,getElem_mem→a0o,take_of_length_le→a0p,flatMap_append→a0q
section
open Go.RowKit Go.Maps Go.Shelf
theorem nP {f:af} {N:Nat} (h:(fieldBytes f).length<=N) (n b c:Int):(fieldBytes (f7 f n b c)).length<=N+100:=by
 have d:=fu (l:=textsL) (N:=10) (by decide) c;have g:=fu (l:=gl) (N:=10) (by decide) c;have e:=cC f;unfold f7;repeat' split
 · have a:=cC {f with tag:=pick hU c};simp only at a;omega
 · have a:=cC {f with data:=f.data++pick textsL c};simp only [a0n] at a;omega
 · have a:=cC {f with ind:=pick gl c};simp only at a;omega
 · have a:=cC {f with subs:=[]};simp only [List.flatMap_nil,List.length_nil] at a;omega
 · have a:=cC {f with subs:=f.subs++[⟨u8I b,pick textsL c⟩]};simp only [a0q,a0n,List.flatMap_cons,List.flatMap_nil,List.append_nil,aQ,List.length_cons] at a;omega
 · have a:=cC {f with subs:=f.subs++[⟨122,pick textsL c⟩]};simp only [a0q,a0n,List.flatMap_cons,List.flatMap_nil,List.append_nil,aQ,List.length_cons] at a;omega
 · omega
theorem rX (x:du):bL (saidR x).fields:=by
 have key:∀q:Six,∀n b c:Int,bL (spoilR (madeR q) n b c).fields:=λq n b c=>by
  obtain ⟨g,d⟩:=ig q;unfold spoilR;repeat' split
  · exact ⟨by simp,λf a=>by cases a⟩
  · exact ⟨by dsimp only;omega,λf a=>by have:=d f a;omega⟩
  · exact ⟨by dsimp only;omega,λf a=>by have:=d f a;omega⟩
  · refine ⟨by dsimp only;rw [List.length_modify];omega,λf a=>?_⟩;dsimp only at a;obtain ⟨i,e,rfl⟩:=List.mem_iff_getElem.1 a;rw [List.getElem_modify];rw [List.length_modify] at e;have h:=d _ (a0o e);split
    · have:=nP h n b c;omega
    · omega
 unfold saidR;dsimp only;split
 · exact key _ _ _ _
 · obtain ⟨g,d⟩:=ig (if x.b.tmod 3≠0 then workQ x.b else x.q);exact ⟨by omega,λf a=>by have:=d f a;omega⟩
structure bj (FC FM:Nat->Prop) (w:a0h) (c p:Nat) (d:ar):Prop where
 cat:bz FC w c d
 mod:bM FM w p d
 dis:∀k,FC k->FM k->False
theorem bz.lt {F:Nat->Prop} {w:a0h} {c:Nat} {d:ar} (h:bz F w c d):∀k,F k->k<w.heap.size:=by obtain ⟨_,_,_,_,h⟩:=h;exact h.lt
theorem bM.lt {F:Nat->Prop} {w:a0h} {p:Nat} {d:ar} (h:bM F w p d):∀k,F k->k<w.heap.size:=by obtain ⟨_,_,_,_,h⟩:=h;exact h.lt
theorem bz.ok {F:Nat->Prop} {w:a0h} {c:Nat} {d:ar} (h:bz F w c d):aY d:=by obtain ⟨_,_,_,_,h⟩:=h;exact h.ok
theorem bj.below {a b:Nat->Prop} {w w':a0h} {c p:Nat} {d:ar} (h:bj a b w c p d) (e:a0j w.heap.size w w'):bj a b w' c p d:=⟨h.cat.below e,h.mod.below e,h.dis⟩
theorem bj.one {a b g:Nat->Prop} {w w1:a0h} {c p:Nat} {d:ar} (h:bj a b w c p d) (f:ag a w g w1):bM b w1 p d:=
 h.mod.step (λk e=>f.block k (h.mod.lt k e) (λi=>h.dis k i e)) f.size
theorem bj.two {o f e l:Nat->Prop} {w w1 n:a0h} {c p:Nat} {d q:ar} (h:bj o f w c p d) (r:bz e w1 c q) (i:ag o w e w1) (v:bM l n p q) (b:ag f w1 l n):
 bj e l n c p q/\ag (λk=>o k∨f k) w (λk=>e k∨l k) n:=by
 have u:∀k,e k->f k->False:=λk a j=>by
  rcases i.new k a with m|m
  · exact h.dis k m j
  · have:=h.mod.lt k j;omega
 refine ⟨⟨r.step (λk a=>b.block k (r.lt k a) (λj=>u k a j)) b.size,v,λk a j=>?_⟩,?_⟩
 · rcases b.new k j with m|m
   · exact u k a m
   · have:=r.lt k a;omega
 · have x:ag (λk=>o k∨f k) w (λk=>e k∨f k) w1:=⟨i.os,i.tape,i.output,i.size,λk a t=>i.block k a (λs=>t (.inl s)),λk a=>a.elim (λg=>(i.new k g).imp .inl id) (λg=> .inl (.inr g))⟩;have y:ag (λk=>e k∨f k) w1 (λk=>e k∨l k) n:=⟨b.os,b.tape,b.output,b.size,λk a t=>b.block k a (λs=>t (.inr s)),λk a=>a.elim (λg=> .inl (.inl g)) (λg=>(b.new k g).imp .inr id)⟩;exact x.trans y
theorem AN (y u:Nat->Prop) (w:a0h) (c p:Nat) (d:ar) (h:bj y u w c p d) (k a b v D E G H I J:Int) (hx:yh ⟨k,a,b,v,⟨D,E,G,H,I,J⟩⟩):
 a0l a0f 13 #[.agg #[.pointer (some ⟨c,0,none⟩), .pointer (some ⟨p,0,none⟩)], .agg #[.int .i64 k, .int .i64 a, .int .i64 b, .int .i64 v, .int .i64 D, .int .i64 E, .int .i64 G, .int .i64 H, .int .i64 I, .int .i64 J]] w λe w'=>∃B C:Nat->Prop,
  e= .returned (.tuple #[.int .i64 (actC d ⟨k,a,b,v,⟨D,E,G,H,I,J⟩⟩).2, .int .i64 (actC d ⟨k,a,b,v,⟨D,E,G,H,I,J⟩⟩).2])/\bj B C w' c p (actC d ⟨k,a,b,v,⟨D,E,G,H,I,J⟩⟩).1/\ag (λk=>y k∨u k) w (λk=>B k∨C k) w':=by
 obtain ⟨X,hX⟩:∃X:du,(⟨k,a,b,v,⟨D,E,G,H,I,J⟩⟩:du)=X:=⟨_,rfl⟩;have a5:=yu k a b v D E G H I J hx;have ch:=rX ⟨k,a,b,v,⟨D,E,G,H,I,J⟩⟩;have c9:actC d X=if k.emod 8=5 then dropC d (recI a) (v.emod 6) else if k.emod 8=6 then decideC d (recI a) (recI b) (v.emod 6) false else if k.emod 8=7 then decideC d (recI a) (recI b) (v.emod 6) true else putC d (recI a) (v.emod 6) (saidR X):=by rw [<- hX];rfl
 obtain ⟨R,hR⟩:∃R,saidR ⟨k,a,b,v,⟨D,E,G,H,I,J⟩⟩=R:=⟨_,rfl⟩;rw [hR] at a5 ch;rw [<- hX,hR] at c9;have a6:=a0a c9;obtain ⟨A,hA⟩:∃A,actC d ⟨k,a,b,v,⟨D,E,G,H,I,J⟩⟩=A:=⟨_,rfl⟩;rw [hA] at a6 ⊢;obtain ⟨n,hn⟩:∃n,v.emod 6=n:=⟨_,rfl⟩;have ac:i64B n:=by rw [<- hn];exact iO v
 obtain ⟨mk,cg,lk⟩:=ct k 8 (by omega);have d8:Hid (∀W,a0l a0f 24 #[.int .i64 k, .int .i64 8] W λe w'=>e= .returned (.int .i64 (mk:Int))/\W=w'):=cY k 8 mk (by omega) (by omega) cg;have da:Hid (∀W,a0l a0f 24 #[.int .i64 v, .int .i64 6] W λe w'=>e= .returned (.int .i64 n)/\W=w'):=λW=>by rw [<- hn];exact jj v 6 W (by omega) (by omega)
 rw [hn] at a6 a5;have bw:=λW:a0h=>r8 a W hx.a;have bA:=λW:a0h=>r8 b W hx.b;have a4:=eG a;have b3:=eG b;obtain ⟨⟨s,t⟩,d2⟩:∃rr,recI a=rr:=⟨_,rfl⟩;obtain ⟨⟨b1,b2⟩,d3⟩:∃rr,recI b=rr:=⟨_,rfl⟩;rw [d2] at bw a4 a6 a5;rw [d3] at bA b3 a6;dsimp only [recK] at bw bA;have dk:=a0a bw;have ds:=a0a bA;have cq:=a0a a5;have cv:=a0a ch;have b7:Hid (k.emod 8=mk):=cg;obtain ⟨L,b4⟩:∃L,(w.alloc (.cells #[.pointer (some ⟨c,0,none⟩), .pointer (some ⟨p,0,none⟩)] 27)).alloc (.cells #[.int .i64 k, .int .i64 a, .int .i64 b, .int .i64 v, .int .i64 D, .int .i64 E, .int .i64 G, .int .i64 H, .int .i64 I, .int .i64 J] 47)=L:=⟨_,rfl⟩;have cQ:a0j w.heap.size w L:=by rw [<- b4];exact ((a0d _ w).alloc (a0e _) _).alloc (by simp) _
 have cy:L.heap[w.heap.size]? =some (.cells #[.pointer (some ⟨c,0,none⟩), .pointer (some ⟨p,0,none⟩)] 27 (0,0)):=by rw [<- b4,Below.heap_alloc _ _ _ (by simp)];exact a0b w _
 have b9:L.heap[w.heap.size+1]? =some (.cells #[.int .i64 k, .int .i64 a, .int .i64 b, .int .i64 v, .int .i64 D, .int .i64 E, .int .i64 G, .int .i64 H, .int .i64 I, .int .i64 J] 47 (0,0)):=by rw [<- b4];have:=a0b (w.alloc (.cells #[.pointer (some ⟨c,0,none⟩), .pointer (some ⟨p,0,none⟩)] 27)) (.cells #[.int .i64 k, .int .i64 a, .int .i64 b, .int .i64 v, .int .i64 D, .int .i64 E, .int .i64 G, .int .i64 H, .int .i64 I, .int .i64 J] 47);rwa [World.size_alloc] at this
 have dy:=a0a b4;have aT:=a0a cQ;have cl:=a0a cy;have c0:=a0a b9;have HH:=a0a h;have bY:Hid (∀W,a0j L.heap.size L W->W.cell? ⟨w.heap.size+1,0,none⟩=some (.int .i64 k)/\W.cell? ⟨w.heap.size+1,1,none⟩=some (.int .i64 a)/\W.cell? ⟨w.heap.size+1,2,none⟩=some (.int .i64 b)/\W.cell? ⟨w.heap.size+1,3,none⟩=some (.int .i64 v)):=λW hW=>by have l:=(hW.block _ (ae b9)).trans b9;exact ⟨(aa l 0).trans rfl,(aa l 1).trans rfl,(aa l 2).trans rfl,(aa l 3).trans rfl⟩
 clear hX c9 hR hA hn cg bw bA d2 d3 a5 ch b4 cQ cy b9 h hx;go_enter Tryz.func13,Tryz.ntmps13;go_upto_region 1 with fail
 rw [dy.out];obtain ⟨_,x1,_,_⟩:=bY L (a0d _ _);go_upto_region 2 with (go_at_call 20;((with_reducible refine a0c (dk.out _) ?_);rintro e w3 ⟨rfl,bc⟩))
 obtain ⟨q6,bt⟩:∃q6,w3.heap.size=q6:=⟨_,rfl⟩;obtain ⟨w4,bB⟩:∃w4,w3.alloc (.cells #[.int .i64 s, .int .i64 t] 36)=w4:=⟨_,rfl⟩;have av:w4.heap[q6]? =some (.cells #[.int .i64 s, .int .i64 t] 36 (0,0)):=by rw [<- bB, <- bt];exact a0b w3 _
 have cb:a0j L.heap.size L w4:=by rw [<- bB];exact bc.alloc bc.size _
 have e3:L.heap.size<=q6:=by rw [<- bt];exact bc.size
 rw [bt,bB];clear bt bB bc x1;obtain ⟨_,_,x2,_⟩:=bY w4 cb;have c3:=a0a av;have b5:=a0a cb;clear av cb;go_upto_region 3 with (go_at_call 20;((with_reducible refine a0c (ds.out _) ?_);rintro e w5 ⟨rfl,bk⟩))
 obtain ⟨q7,bv⟩:∃q7,w5.heap.size=q7:=⟨_,rfl⟩;obtain ⟨f,bO⟩:∃f,w5.alloc (.cells #[.int .i64 b1, .int .i64 b2] 36)=f:=⟨_,rfl⟩;have bb:f.heap[q7]? =some (.cells #[.int .i64 b1, .int .i64 b2] 36 (0,0)):=by rw [<- bO, <- bv];exact a0b w5 _
 have cc:a0j w4.heap.size w4 f:=by rw [<- bO];exact bk.alloc bk.size _
 have e4:w4.heap.size<=q7:=by rw [<- bv];exact bk.size
 have ax:a0j L.heap.size L f:=b5.trans (cc.mono b5.size);have av:f.heap[q6]? =some (.cells #[.int .i64 s, .int .i64 t] 36 (0,0)):=(cc.block _ (ae c3.out)).trans c3.out;rw [bv,bO];clear bv bO bk x2;obtain ⟨x0,_,_,x3⟩:=bY f ax;have HP:Hid (bj y u f c p d):=HH.below (aT.trans (ax.mono aT.size));have b8:Hid (ag (λk=>y k∨u k) w (λk=>y k∨u k) f):=ag.of_below (aT.trans (ax.mono aT.size));have c2:Hid (w.heap.size<=q6/\w.heap.size<=q7/\q6<f.heap.size/\q7<f.heap.size/\w.heap.size+1<f.heap.size):=by have l:=aT.size;have h2:=ae av;have h3:=ae bb;have h4:=b5.size;have h5:=ae c0.out;have h6:=ax.size;exact ⟨by omega,by omega,h2,h3,by omega⟩
 have a3:Hid (∀k,y k∨u k->k<w.heap.size):=λk r=>r.elim (HH.cat.lt k) (HH.mod.lt k);have b6:Hid (∀W:a0h,(∀q,w.heap.size<=q->q<f.heap.size->W.heap[q]? =f.heap[q]?)->(W.cell? ⟨w.heap.size,0,none⟩=some (.pointer (some ⟨c,0,none⟩))/\W.cell? ⟨w.heap.size,1,none⟩=some (.pointer (some ⟨p,0,none⟩)))/\(W.cell? ⟨q6,0,none⟩=some (.int .i64 s)/\W.cell? ⟨q6,1,none⟩=some (.int .i64 t))/\(W.cell? ⟨q7,0,none⟩=some (.int .i64 b1)/\W.cell? ⟨q7,1,none⟩=some (.int .i64 b2))):=λW hW=>by have hl:=c2.out;have g0:=(hW w.heap.size (a0e _) (by omega)).trans ((ax.block _ (ae cl.out)).trans cl.out);have g1:=(hW q6 hl.1 hl.2.2.1).trans av;have g2:=(hW q7 hl.2.1 hl.2.2.2.1).trans bb;exact ⟨⟨(aa g0 0).trans rfl,(aa g0 1).trans rfl⟩,⟨(aa g1 0).trans rfl,(aa g1 1).trans rfl⟩,(aa g2 0).trans rfl,(aa g2 1).trans rfl⟩
 have d4:∀q,w.heap.size<=q->q<f.heap.size->f.drew.heap[q]? =f.heap[q]? :=λ_ _ _=>rfl;have a8:Hid (∀(F F':Nat->Prop) (W W':a0h),(∀k,F k->k<w.heap.size)->(∀q,w.heap.size<=q->q<f.heap.size->W.heap[q]? =f.heap[q]?)->f.heap.size<=W.heap.size->ag F W F' W'->∀q,w.heap.size<=q->q<f.heap.size->W'.heap[q]? =f.heap[q]?):=λF F' W W' hF hS hz hs q hq aS=>(hs.block q (by omega) (λhf=>by have:=hF q hf;omega)).trans (hS q hq aS);have d5:=a0a ax;have e1:=a0a av;have e2:=a0a bb;have a7:=a0a d4;clear ax av bb cc c3 b5 d4
 go_upto_block 0 with (first
  |(go_at_call 24;((with_reducible refine a0c (da.out _) ?_);rintro e o ⟨rfl,rfl⟩))
  |(go_at_call 24;((with_reducible refine a0c (d8.out _) ?_);rintro e o ⟨rfl,rfl⟩)))
 by_cases h5:mk=5
 · subst h5;have O:Hid (dropC d (s,t) n=A):=by unfold Hid;rw [a6.out,b7.out];rw [if_pos (by omega)]
   have hP:=HP.below (a0d _ f).drew;have i:=ua y f.drew c d hP.cat (s,t) n a4 ac;dsimp only [recK] at i;rw [O.out] at i;have ad:=a0a i;clear i hP;go_wp2_with fail
   refine wT (λW:a0h=>∀q,w.heap.size<=q->q<f.heap.size->W.heap[q]? =f.heap[q]?) 999 ?_;have g:=tkL [0,2,3,5,7,8,1,6];repeat (refine tkIS g ?_ rfl a7.out ?_ ?_;rotate_left;intro w' h;obtain ⟨⟨h0,l⟩,⟨h2,h3⟩,h4,h5⟩:=b6 w' h;go_simp;rfl;(try go_simp);replace g:=tkO g)
   clear g;refine dO 4 rfl λK j=>?_;go_simp;go_at_call 27;with_reducible refine a0c ad.out ?_
   rintro e o ⟨rfl,B,U,m⟩;have Y:=a8 y B f.drew o (λk r=>a3 k (.inl r)) a7.out (a0e _) m;have a9:=bj.one (HP.below (a0d _ f).drew) m;have i:=zt u o p d a9 (s,t) n a4 ac;dsimp only [recK] at i;rw [O.out] at i;have al:=a0a i;have b0:=a0a U;have a0:=a0a m;have T:=a0a Y;clear i U m a9 Y;refine j _ _ (λ_=>T.out) ?_;clear j K;go_simp;refine dO 9 rfl λK j=>?_;go_simp;go_at_call 42;with_reducible refine a0c al.out ?_
   rintro e N ⟨rfl,C,V,x⟩;have Z:=a8 u C o N (λk r=>a3 k (.inr r)) T.out (by have l:=a0.size;exact l) x;have M:=a0a Z;have ao:=a0a V;have au:=a0a x;clear V x Z;refine j _ _ (λ_=>M.out) ?_;clear j K;go_simp;have g:=tkL [10,11];repeat (refine tkIS g ?_ rfl M.out ?_ ?_;rotate_left;intro w' h;go_simp;rfl;(try go_simp);replace g:=tkO g)
   clear g;refine dN ?_;go_wp2_with fail
   refine a0k (v:= .tuple #[.int .i64 A.2, .int .i64 A.2]) (by simp [results,Tryz.results13,go_sem]) rfl ?_;obtain ⟨ay,aC⟩:=bj.two (HP.below (a0d _ f).drew) b0.out a0.out ao.out au.out;exact ⟨B,C,rfl,ay,(b8.trans (ag.of_below (a0d _ f).drew)).trans aC⟩
 by_cases h6:mk=6
 · subst h6;have O:Hid (decideC d (s,t) (b1,b2) n false=A):=by unfold Hid;rw [a6.out,b7.out];rw [if_neg (by omega),if_pos (by omega)]
   have hP:=HP.below (a0d _ f).drew;have i:=rq y f.drew c d hP.cat (s,t) (b1,b2) n a4 b3 ac;dsimp only [recK] at i;rw [O.out] at i;have ad:=a0a i;clear i hP;go_wp2_with fail
   refine wT (λW:a0h=>∀q,w.heap.size<=q->q<f.heap.size->W.heap[q]? =f.heap[q]?) 999 ?_;have g:=tkL [0,2,3,4,6,8,9,10,1,7];repeat (refine tkIS g ?_ rfl a7.out ?_ ?_;rotate_left;intro w' h;obtain ⟨⟨h0,l⟩,⟨h2,h3⟩,h4,h5⟩:=b6 w' h;go_simp;rfl;(try go_simp);replace g:=tkO g)
   clear g;refine dO 5 rfl λK j=>?_;go_simp;go_at_call 39;with_reducible refine a0c ad.out ?_
   rintro e o ⟨rfl,B,U,m⟩;have Y:=a8 y B f.drew o (λk r=>a3 k (.inl r)) a7.out (a0e _) m;have a9:=bj.one (HP.below (a0d _ f).drew) m;have i:=yc u o p d a9 (s,t) (b1,b2) n a4 b3 ac;dsimp only [recK] at i;rw [O.out] at i;have al:=a0a i;have b0:=a0a U;have a0:=a0a m;have T:=a0a Y;clear i U m a9 Y;refine j _ _ (λ_=>T.out) ?_;clear j K;go_simp;refine dO 11 rfl λK j=>?_;go_simp;go_at_call 43;with_reducible refine a0c al.out ?_
   rintro e N ⟨rfl,C,V,x⟩;have Z:=a8 u C o N (λk r=>a3 k (.inr r)) T.out (by have l:=a0.size;exact l) x;have M:=a0a Z;have ao:=a0a V;have au:=a0a x;clear V x Z;refine j _ _ (λ_=>M.out) ?_;clear j K;go_simp;have g:=tkL [12,13];repeat (refine tkIS g ?_ rfl M.out ?_ ?_;rotate_left;intro w' h;go_simp;rfl;(try go_simp);replace g:=tkO g)
   clear g;refine dN ?_;go_wp2_with fail
   refine a0k (v:= .tuple #[.int .i64 A.2, .int .i64 A.2]) (by simp [results,Tryz.results13,go_sem]) rfl ?_;obtain ⟨ay,aC⟩:=bj.two (HP.below (a0d _ f).drew) b0.out a0.out ao.out au.out;exact ⟨B,C,rfl,ay,(b8.trans (ag.of_below (a0d _ f).drew)).trans aC⟩
 by_cases h7:mk=7
 · subst h7;have O:Hid (decideC d (s,t) (b1,b2) n true=A):=by unfold Hid;rw [a6.out,b7.out];rw [if_neg (by omega),if_neg (by omega),if_pos (by omega)]
   have hP:=HP.below (a0d _ f).drew;have i:=tW y f.drew c d hP.cat (s,t) (b1,b2) n a4 b3 ac;dsimp only [recK] at i;rw [O.out] at i;have ad:=a0a i;clear i hP;go_wp2_with fail
   refine wT (λW:a0h=>∀q,w.heap.size<=q->q<f.heap.size->W.heap[q]? =f.heap[q]?) 999 ?_;have g:=tkL [0,2,3,4,6,8,9,10,1,7];repeat (refine tkIS g ?_ rfl a7.out ?_ ?_;rotate_left;intro w' h;obtain ⟨⟨h0,l⟩,⟨h2,h3⟩,h4,h5⟩:=b6 w' h;go_simp;rfl;(try go_simp);replace g:=tkO g)
   clear g;refine dO 5 rfl λK j=>?_;go_simp;go_at_call 40;with_reducible refine a0c ad.out ?_
   rintro e o ⟨rfl,B,U,m⟩;have Y:=a8 y B f.drew o (λk r=>a3 k (.inl r)) a7.out (a0e _) m;have a9:=bj.one (HP.below (a0d _ f).drew) m;have i:=zg u o p d a9 (s,t) (b1,b2) n a4 b3 ac;dsimp only [recK] at i;rw [O.out] at i;have al:=a0a i;have b0:=a0a U;have a0:=a0a m;have T:=a0a Y;clear i U m a9 Y;refine j _ _ (λ_=>T.out) ?_;clear j K;go_simp;refine dO 11 rfl λK j=>?_;go_simp;go_at_call 44;with_reducible refine a0c al.out ?_
   rintro e N ⟨rfl,C,V,x⟩;have Z:=a8 u C o N (λk r=>a3 k (.inr r)) T.out (by have l:=a0.size;exact l) x;have M:=a0a Z;have ao:=a0a V;have au:=a0a x;clear V x Z;refine j _ _ (λ_=>M.out) ?_;clear j K;go_simp;have g:=tkL [12,13];repeat (refine tkIS g ?_ rfl M.out ?_ ?_;rotate_left;intro w' h;go_simp;rfl;(try go_simp);replace g:=tkO g)
   clear g;refine dN ?_;go_wp2_with fail
   refine a0k (v:= .tuple #[.int .i64 A.2, .int .i64 A.2]) (by simp [results,Tryz.results13,go_sem]) rfl ?_;obtain ⟨ay,aC⟩:=bj.two (HP.below (a0d _ f).drew) b0.out a0.out ao.out au.out;exact ⟨B,C,rfl,ay,(b8.trans (ag.of_below (a0d _ f).drew)).trans aC⟩
 have c5:((mk:Int)==5)=false:=by simp;omega
 have c6:((mk:Int)==6)=false:=by simp;omega
 have c7:((mk:Int)==7)=false:=by simp;omega
 have O:Hid (putC d (s,t) n R=A):=by unfold Hid;rw [a6.out,b7.out];rw [if_neg (by omega),if_neg (by omega),if_neg (by omega)]
 obtain ⟨R1,R2,R3⟩:=R;have a5:=cq.out;dsimp only [jT] at a5;have cs:=a0a a5;have cu:Hid (bL R3):=cv.out;have dc:Hid (∀W:a0h,(∀q,w.heap.size<=q->q<f.heap.size->W.heap[q]? =f.heap[q]?)->(W.cell? ⟨w.heap.size+1,0,none⟩=some (.int .i64 k)/\W.cell? ⟨w.heap.size+1,1,none⟩=some (.int .i64 a)/\W.cell? ⟨w.heap.size+1,2,none⟩=some (.int .i64 b)/\W.cell? ⟨w.heap.size+1,3,none⟩=some (.int .i64 v))/\W.cell? ⟨w.heap.size+1,4,none⟩=some (.int .i64 D)/\W.cell? ⟨w.heap.size+1,5,none⟩=some (.int .i64 E)/\W.cell? ⟨w.heap.size+1,6,none⟩=some (.int .i64 G)/\W.cell? ⟨w.heap.size+1,7,none⟩=some (.int .i64 H)/\W.cell? ⟨w.heap.size+1,8,none⟩=some (.int .i64 I)/\W.cell? ⟨w.heap.size+1,9,none⟩=some (.int .i64 J)):=λW hW=>by have l:=(hW (w.heap.size+1) (by omega) c2.out.2.2.2.2).trans ((d5.out.block _ (ae c0.out)).trans c0.out);exact ⟨⟨(aa l 0).trans rfl,(aa l 1).trans rfl,(aa l 2).trans rfl,(aa l 3).trans rfl⟩,(aa l 4).trans rfl,(aa l 5).trans rfl,(aa l 6).trans rfl,(aa l 7).trans rfl,(aa l 8).trans rfl,(aa l 9).trans rfl⟩
 clear a5 cq cv;go_upto_region 11 with fail
 refine wT (λW:a0h=>∀q,w.heap.size<=q->q<f.heap.size->W.heap[q]? =f.heap[q]?) 999 ?_;have g:=tkL [0,5,1,6];repeat (refine tkIS g ?_ rfl a7.out ?_ ?_;rotate_left;intro w' h;obtain ⟨⟨h0,l⟩,_⟩:=b6 w' h;go_simp;rfl;(try go_simp);replace g:=tkO g)
 clear g;have g:=tkL [2,7];repeat (refine tkIS g ?_ rfl a7.out ?_ ?_;rotate_left;intro w' h;obtain ⟨⟨h0,l,h2,h3⟩,h4,h5,h6,h7,h8,h9⟩:=dc w' h;go_simp;rfl;(try go_simp);replace g:=tkO g)
 clear g;refine dO 3 rfl λK j=>?_;go_simp;go_at_call 45;with_reducible refine a0c (cs.out f.drew) ?_
 rintro e o ⟨va,vc,rfl,d0,bs⟩;have Y:∀q,w.heap.size<=q->q<f.heap.size->o.heap[q]? =f.heap[q]? :=λq _ aS=>bs.block q aS;have c4:=(HP.below (a0d _ f).drew).below bs;have i:=sd y o c d c4.cat (s,t) n ⟨R1,R2,R3⟩ (.slice va R3.length vc) a4 ac f.heap.size o.heap.size d0 (a0e _) (λq l _ hF=>by have h2:=a3.out q (.inl hF);have h3:=c2.out;omega) cu.out;rw [O.out] at i;dsimp only [jT] at i;have ad:=a0a i;have T:=a0a Y;have cm:=a0a c4;have c1:Hid (a0j f.heap.size f o):=(a0d _ f).drew.trans bs;clear i Y c4 d0 bs;refine j _ _ (λ_=>T.out) ?_;clear j K;go_simp;refine dO 4 rfl λK j=>?_;go_simp;go_at_call 29;with_reducible refine a0c ad.out ?_
 rintro e N ⟨rfl,B,U,m⟩;have Z:=a8 y B o N (λk r=>a3 k (.inl r)) T.out c1.size m;have ao:Hid (bM u N p d):=bj.one cm.out m;have d6:=a0a U;have a0:=a0a m;have M:=a0a Z;have cx:Hid (f.heap.size<=N.heap.size):=Nat.le_trans c1.size m.size;clear U m Z;refine j _ _ (λ_=>M.out) ?_;clear j K;go_simp;refine dO 8 rfl λK j=>?_;go_simp;go_at_call 45;with_reducible refine a0c (cs.out N) ?_
 rintro e w9 ⟨dz,dB,rfl,d1,cd⟩;have cP:∀q,w.heap.size<=q->q<f.heap.size->w9.heap[q]? =f.heap[q]? :=λq hq aS=>(cd.block q (Nat.lt_of_lt_of_le aS cx.out)).trans (M q hq aS);have i:=Aj u N w9 p d ao.out cd (s,t) n R1 R2 R3 (.slice dz R3.length dB) d1 cu.out a4 ac;rw [O.out] at i;dsimp only [jT] at i;have al:=a0a i;have dx:=a0a cP;clear i cP d1 cd;refine j _ _ (λ_=>dx.out) ?_;clear j K;go_simp;refine dO 9 rfl λK j=>?_;go_simp;go_at_call 46;with_reducible refine a0c al.out ?_
 rintro e e0 ⟨rfl,C,V,x⟩;have cz:=a8 u C N e0 (λk r=>a3 k (.inr r)) M.out cx.out x;have cp:=a0a cz;have dd:=a0a V;have au:=a0a x;clear V x cz;refine j _ _ (λ_=>cp.out) ?_;clear j K;go_simp;have g:=tkL [10,11];repeat (refine tkIS g ?_ rfl cp.out ?_ ?_;rotate_left;intro w' h;go_simp;rfl;(try go_simp);replace g:=tkO g)
 clear g;refine dN ?_;go_wp2_with fail
 refine a0k (v:= .tuple #[.int .i64 A.2, .int .i64 A.2]) (by simp [results,Tryz.results13,go_sem]) rfl ?_;obtain ⟨ay,aC⟩:=bj.two cm.out d6.out a0.out dd.out au.out;exact ⟨B,C,rfl,ay,(b8.trans (ag.of_below c1.out)).trans aC⟩
end
section
open Go.RowKit Go.Maps Go.Shelf
def tj (x:du):List Value:=[.int .i64 x.k, .int .i64 x.a, .int .i64 x.b, .int .i64 x.v, .int .i64 x.q.a, .int .i64 x.q.b, .int .i64 x.q.c, .int .i64 x.q.d, .int .i64 x.q.e, .int .i64 x.q.f]
structure jE (w:a0h) (v:Value) (l:List du):Prop where
 at_:aH 0 w.heap.size w v l.length (l.flatMap tj)
 ok:∀x∈l,yh x
 len:l.length<=maxLen
theorem jE.keep {w w':a0h} {v:Value} {l:List du} (h:jE w v l) (a:a0j w.heap.size w w'):jE w' v l:=
 ⟨(h.at_.kept (λq _ b=>a.block q b)).mono (a0e _) a.size,h.ok,h.len⟩
theorem wF (l:List du) (k:Nat) (h:k<l.length):runC (l.take (k+1)) cat0=(actC (runC (l.take k) cat0) l[k]).1:=by
 rw [List.take_succ_eq_append_getElem h,wG];rfl
theorem yC (v:Value) (l:List du) (w:a0h) (h:jE w v l):
 a0l a0f 11 #[v] w λe w'=>∃(c p:Nat) (f g:Nat->Prop),e= .returned (.tuple #[.agg #[.pointer (some ⟨c,0,none⟩), .pointer (some ⟨p,0,none⟩)], .bool true])/\bj f g w' c p (playC l)/\a0j w.heap.size w w'/\∀k,f k∨g k->w.heap.size<=k:=by
 have j:=h.at_;obtain ⟨a,cb,rfl,_⟩:=id j;obtain ⟨w1,L⟩:∃w1,w.alloc (.cells #[.pointer none, .pointer none] 27)=w1:=⟨_,rfl⟩;have z1:w1.heap.size=w.heap.size+1:=by rw [<- L];simp
 have aS:w1.heap[w.heap.size]? =some (.cells #[.pointer none, .pointer none] 27 (0,0)):=by rw [<- L];exact a0b w _
 obtain ⟨o,M⟩:∃o,w1.alloc (.cells #[.map none, .map none, .map none, .pointer none] 117)=o:=⟨_,rfl⟩;have z2:o.heap.size=w.heap.size+2:=by rw [<- M];simp [z1]
 obtain ⟨s,O⟩:∃s,o.alloc (.cells #[.slice none 0 0, .slice none 0 0, .slice none 0 0] 34)=s:=⟨_,rfl⟩;have z3:s.heap.size=w.heap.size+3:=by rw [<- O];simp [z2]
 obtain ⟨u,R⟩:∃u,s.alloc (.cells #[.pointer (some ⟨w.heap.size+1,0,none⟩), .pointer (some ⟨w.heap.size+2,0,none⟩)] 27)=u:=⟨_,rfl⟩;have z4:u.heap.size=w.heap.size+4:=by rw [<- R];simp [z3]
 have ay:bz (λk=>k=w.heap.size+1) o (w.heap.size+1) cat0:=by have:=tQ w1;rw [z1,M] at this;exact this
 have aC:bM (λk=>k=w.heap.size+2) s (w.heap.size+2) cat0:=by have:=yI o;rw [z2,O] at this;exact this
 have U:a0j o.heap.size o s:=by rw [<- O];exact (a0d _ o).alloc (a0e _) _
 have H:a0j s.heap.size s u:=by rw [<- R];exact (a0d _ s).alloc (a0e _) _
 have a7:a0j w1.heap.size w1 o:=by rw [<- M];exact (a0d _ w1).alloc (a0e _) _
 have ax:a0j w.heap.size w w1:=by rw [<- L];exact (a0d _ w).alloc (a0e _) _
 have av:Hid (bj (λk=>k=w.heap.size+1) (λk=>k=w.heap.size+2) u (w.heap.size+1) (w.heap.size+2) cat0):=⟨(ay.below U).below H,aC.below H,λk B h2=>by omega⟩;have aT:u.heap[w.heap.size]? =some (.cells #[.pointer none, .pointer none] 27 (0,0)):=((H.block _ (by omega)).trans ((U.block _ (by omega)).trans (a7.block _ (by omega)))).trans aS;have b1:u.heap[w.heap.size+3]? =some (.cells #[.pointer (some ⟨w.heap.size+1,0,none⟩), .pointer (some ⟨w.heap.size+2,0,none⟩)] 27 (0,0)):=by rw [<- z3, <- R];exact a0b s _
 have bc:Hid (a0j w.heap.size w u):=((ax.trans (a7.mono (by omega))).trans (U.mono (by omega))).trans (H.mono (by omega));have bw:=a0a aT;have a6:=a0a b1;have ac:=a0a (xe w1);have ad:=a0a (An o);rw [z1,M] at ac;rw [z2,O] at ad;have bB:=a0a L;have bO:=a0a R;have bY:=a0a z3;have c9:=a0a z4;have T:=a0a h;clear L M O R z1 z2 z3 z4 aS aT b1 ay aC ax a7 U H h j;go_enter Tryz.func11,Tryz.ntmps11;go_upto_region 1 with fail
 rw [bB.out]
 go_upto_region 2 with (first
  |(go_at_call 32;((with_reducible refine a0c ac.out ?_);rintro e wx ⟨rfl,D⟩;have D:=D.symm;subst D))
  |(go_at_call 33;((with_reducible refine a0c ad.out ?_);rintro e wx ⟨rfl,D⟩;have D:=D.symm;subst D)))
 rw [bY.out,bO.out];have t0:u.cell? ⟨w.heap.size+3,0,none⟩=some (.pointer (some ⟨w.heap.size+1,0,none⟩)):=(aa a6.out 0).trans rfl;go_upto_region 5 with fail
 clear t0;obtain ⟨c,hc⟩:∃c,w.heap.size+1=c:=⟨_,rfl⟩;obtain ⟨p,hp⟩:∃p,w.heap.size+2=p:=⟨_,rfl⟩;obtain ⟨N,V⟩:∃N,l.length=N:=⟨_,rfl⟩;rw [hc,hp] at av a6;have HN:=a0a V;have X:N<=maxLen:=by rw [<- V];exact T.out.len
 have bt:=a0a X;rw [hc,hp,V];have bk:Hid (w.heap.size<=c/\w.heap.size<=p/\c<w.heap.size+3/\p<w.heap.size+3/\c≠w.heap.size/\p≠w.heap.size):=⟨by omega,by omega,by omega,by omega,by omega,by omega⟩;clear hc hp V X;go_loopw [5] (λi wr=>∃(k:Nat) (f g:Nat->Prop),k<=N/\k<=40/\i= .int .i64 k/\Hid (bj f g wr c p (runC (l.take k) cat0))/\Hid (∀q,f q∨g q->w.heap.size<=q/\q≠w.heap.size/\q≠w.heap.size+3)/\Hid (wr.heap[w.heap.size]? =some (.cells #[.pointer none, .pointer none] 27 (0,0)))/\Hid (wr.heap[w.heap.size+3]? =some (.cells #[.pointer (some ⟨c,0,none⟩), .pointer (some ⟨p,0,none⟩)] 27 (0,0)))/\Hid (a0j w.heap.size w wr)) (λi _=>N - (intOf i).toNat)
 case atStart=>exact ⟨0,_,_,a0s _,a0s _,rfl,av.out,λq m=>by have:=bk.out;rcases m with h|h<;>omega,bw.out,a6.out,bc.out⟩
 case round=>
  obtain ⟨k,f,g,hk,ch,rfl,HP,y,E,F,G⟩:=hrel;have X:=bt.out;unfold maxLen at X;by_cases hlt:k<N/\k<40
  · obtain ⟨Y,b6⟩:=hlt;have Z:k<l.length:=by rw [HN.out];exact Y
    have a0:=wF l k Z;have c1:=(T.keep G.out).at_;have a9:=T.ok _ (a0o Z);obtain ⟨x,hx⟩:∃x,l[k]=x:=⟨_,rfl⟩;obtain ⟨a2,c2,hv,b5⟩:=c1;have a8:l.flatMap tj≠[]:=by intro e;have B:=List.flatMap_eq_nil_iff.1 e _ (a0o Z);cases B
    obtain ⟨b,d,ha,_,c4,b4⟩:=b5 a8;subst ha;injection hv with hv1 hv2 b8
    subst hv1;have j:∀i,i<10->wr.cell? ⟨b,d+(k * 10+i),none⟩=(tj x)[i]? :=λi hi=>by have n:=de tj 10 (λ_=>rfl) l k Z i hi;rw [hx] at n;have I:i<(tj x).length:=hi;rw [List.getElem?_eq_getElem I] at n ⊢;exact b4 _ _ n
    rw [hx] at a0 a9;obtain ⟨xk,xa,xb,xv,⟨qa,qb,qc,qd,qe,qf⟩⟩:=x;have y0:wr.cell? ⟨b,d+k * 10,none⟩=some (.int .i64 xk):=(j 0 (by omega)).trans rfl;have y1:wr.cell? ⟨b,d+k * 10+1,none⟩=some (.int .i64 xa):=(by rw [a0i];exact (j 1 (by omega)).trans rfl);have y2:wr.cell? ⟨b,d+k * 10+2,none⟩=some (.int .i64 xb):=(by rw [a0i];exact (j 2 (by omega)).trans rfl);have y3:wr.cell? ⟨b,d+k * 10+3,none⟩=some (.int .i64 xv):=(by rw [a0i];exact (j 3 (by omega)).trans rfl);have y4:wr.cell? ⟨b,d+k * 10+4,none⟩=some (.int .i64 qa):=(by rw [a0i];exact (j 4 (by omega)).trans rfl);have y5:wr.cell? ⟨b,d+k * 10+5,none⟩=some (.int .i64 qb):=(by rw [a0i];exact (j 5 (by omega)).trans rfl);have y6:wr.cell? ⟨b,d+k * 10+6,none⟩=some (.int .i64 qc):=(by rw [a0i];exact (j 6 (by omega)).trans rfl);have y7:wr.cell? ⟨b,d+k * 10+7,none⟩=some (.int .i64 qd):=(by rw [a0i];exact (j 7 (by omega)).trans rfl);have y8:wr.cell? ⟨b,d+k * 10+8,none⟩=some (.int .i64 qe):=(by rw [a0i];exact (j 8 (by omega)).trans rfl);have y9:wr.cell? ⟨b,d+k * 10+9,none⟩=some (.int .i64 qf):=(by rw [a0i];exact (j 9 (by omega)).trans rfl);have HY:Hid (∀W:a0h,(W.heap[b]? =wr.heap[b]? /\W.heap[w.heap.size+3]? =wr.heap[w.heap.size+3]?)->(W.cell? ⟨w.heap.size+3,0,none⟩=some (.pointer (some ⟨c,0,none⟩))/\W.cell? ⟨w.heap.size+3,1,none⟩=some (.pointer (some ⟨p,0,none⟩)))/\(W.cell? ⟨b,d+k * 10,none⟩=some (.int .i64 xk)/\W.cell? ⟨b,d+k * 10+1,none⟩=some (.int .i64 xa)/\W.cell? ⟨b,d+k * 10+2,none⟩=some (.int .i64 xb)/\W.cell? ⟨b,d+k * 10+3,none⟩=some (.int .i64 xv))/\W.cell? ⟨b,d+k * 10+4,none⟩=some (.int .i64 qa)/\W.cell? ⟨b,d+k * 10+5,none⟩=some (.int .i64 qb)/\W.cell? ⟨b,d+k * 10+6,none⟩=some (.int .i64 qc)/\W.cell? ⟨b,d+k * 10+7,none⟩=some (.int .i64 qd)/\W.cell? ⟨b,d+k * 10+8,none⟩=some (.int .i64 qe)/\W.cell? ⟨b,d+k * 10+9,none⟩=some (.int .i64 qf)):=λW hW=>by have r:∀i,W.cell? ⟨b,i,none⟩=wr.cell? ⟨b,i,none⟩:=λi=>a0g (a:=⟨b,i,none⟩) hW.1;have ht:=hW.2.trans F.out;exact ⟨⟨(aa ht 0).trans rfl,(aa ht 1).trans rfl⟩,⟨(r _).trans y0,(r _).trans y1,(r _).trans y2,(r _).trans y3⟩,(r _).trans y4,(r _).trans y5,(r _).trans y6,(r _).trans y7,(r _).trans y8,(r _).trans y9⟩
    have ao:=a0a (AN f g wr.drew c p _ (HP.below (a0d _ wr).drew) xk xa xb xv qa qb qc qd qe qf a9);obtain ⟨A,hA⟩:∃A,actC (runC (l.take k) cat0) ⟨xk,xa,xb,xv,⟨qa,qb,qc,qd,qe,qf⟩⟩=A:=⟨_,rfl⟩;rw [hA] at ao a0;have bA:=a0a a0;have b2:b<w.heap.size:=by
     obtain ⟨a3,c3,b8,c5⟩:=T.at_;obtain ⟨b3,cm,c0,_,cg,_⟩:=c5 a8;subst c0;injection b8 with n _ _
     injection n with n
     injection n with n _ _
     omega
    have al:=a0a b2;clear j b4 b5 a8 c4 y0 y1 y2 y3 y4 y5 y6 y7 y8 y9 a0 hx hA b2 a9;have c7:wr.drew.heap[b]? =wr.heap[b]? /\wr.drew.heap[w.heap.size+3]? =wr.heap[w.heap.size+3]? :=⟨rfl,rfl⟩;have i1:(k:Int)<(N:Int):=by omega
    have i2:(k:Int)<40:=by omega
    go_upto_region 7 with fail
    refine wT (λW:a0h=>W.heap[b]? =wr.heap[b]? /\W.heap[w.heap.size+3]? =wr.heap[w.heap.size+3]?) 999 ?_;have t:=tkL [0,1,2,3,4];repeat (refine tkIS t ?_ rfl c7 ?_ ?_;rotate_left;intro w' h;obtain ⟨⟨h0,B⟩,⟨h2,h3,h4,h5⟩,h6,h7,h8,h9,cc,cd⟩:=HY w' h;go_simp;rfl;(try go_simp);replace t:=tkO t)
    clear t;refine dO 5 rfl λK hK=>?_;go_simp;go_at_call 13;with_reducible refine a0c ao.out ?_
    rintro e w5 ⟨b9,bb,rfl,C,a1⟩;have hz:=G.size;have b7:=ae F.out
    have b0:w5.heap[b]? =wr.heap[b]? /\w5.heap[w.heap.size+3]? =wr.heap[w.heap.size+3]? :=
     ⟨a1.block b (by show b<wr.heap.size;have:=al.out;omega) (λJ=>by have:=y.out b J;have:=al.out;omega),a1.block _ (by show w.heap.size+3<wr.heap.size;omega) (λJ=>by have:=y.out _ J;omega)⟩
    have a4:=a0a b0;have bv:=a0a C;have a5:=a0a a1;clear C a1 b0 hz b7;refine hK _ _ (λ_=>a4.out) ?_;clear hK K;go_simp;have t:=tkL [6,7,8,9,10];repeat (refine tkIS t ?_ rfl a4.out ?_ ?_;rotate_left;intro w' h;go_simp;rfl;(try go_simp);replace t:=tkO t)
    clear t;refine dN ?_;go_wp2_with fail
    go_roundw
    case rel=>
     have hz:=G.size;have b7:=ae F.out;have c6:=ae E.out;refine ⟨k+1,Y,b6,by go_num,b9,bb,?_,λq m=>?_,?_,a4.2.trans F.out,?_⟩
     · unfold Hid;rw [bA.out];exact bv.out
     · rcases a5.new q m with B|B
       · exact y q B
       · have h2:wr.heap.size<=q:=B;omega
     · exact (a5.out.block w.heap.size c6 (λJ=>by have:=y.out _ J;omega)).trans E.out
     · exact G.trans (Below.trans (a0d _ wr).drew (a5.below (λq m=>(y q m).1) hz).1)
    case measure=>simp [intOf];omega
  · have r0:wr.cell? ⟨w.heap.size,0,none⟩=some (.pointer none):=(aa E.out 0).trans rfl;have r1:wr.cell? ⟨w.heap.size,1,none⟩=some (.pointer none):=(aa E.out 1).trans rfl;have f0:=ab E.out 0;have f1:=ab E.out 1;have t0:wr.cell? ⟨w.heap.size+3,0,none⟩=some (.pointer (some ⟨c,0,none⟩)):=(aa F.out 0).trans rfl;have t1:wr.cell? ⟨w.heap.size+3,1,none⟩=some (.pointer (some ⟨p,0,none⟩)):=(aa F.out 1).trans rfl;have bs:Hid (runC (l.take k) cat0=playC l):=by
     unfold Hid playC;by_cases h4:k=40
     · rw [h4]
     · have cl:k=N:=by omega
       rw [a0p (by rw [HN.out];omega),a0p (by rw [HN.out];omega)]
    have au:Hid (∃f g:Nat->Prop,bj f g ((wr.setCell ⟨w.heap.size,0,none⟩ (.pointer (some ⟨c,0,none⟩))).setCell ⟨w.heap.size,1,none⟩ (.pointer (some ⟨p,0,none⟩))) c p (playC l)/\a0j w.heap.size w ((wr.setCell ⟨w.heap.size,0,none⟩ (.pointer (some ⟨c,0,none⟩))).setCell ⟨w.heap.size,1,none⟩ (.pointer (some ⟨p,0,none⟩)))/\∀k,f k∨g k->w.heap.size<=k):=by
     have C:=HP.out;rw [bs.out] at C;have ho:∀q,q≠w.heap.size->((wr.setCell ⟨w.heap.size,0,none⟩ (.pointer (some ⟨c,0,none⟩))).setCell ⟨w.heap.size,1,none⟩ (.pointer (some ⟨p,0,none⟩))).heap[q]? =wr.heap[q]? :=λq m=>by rw [a0r _ _ _ _ m,a0r _ _ _ _ m]
     exact ⟨f,g,⟨C.cat.step (λq m=>ho q (y.out q (.inl m)).2.1) (by simp),C.mod.step (λq m=>ho q (y.out q (.inr m)).2.1) (by simp),C.dis⟩,(G.out.setCell (p:=⟨w.heap.size,0,none⟩) (by simp) _).setCell (p:=⟨w.heap.size,1,none⟩) (by simp) _,λq m=>(y.out q m).1⟩
    by_cases Y:k<N
    · have b6:¬k<40:=λh=>hlt ⟨Y,h⟩;have i1:(k:Int)<(N:Int):=by omega
      have i2:¬(k:Int)<40:=by omega
      go_wp2_with fail
      refine a0k (v:= .tuple #[.agg #[.pointer (some ⟨c,0,none⟩), .pointer (some ⟨p,0,none⟩)], .bool true]) (by rw [bN rfl];go_simp) rfl ?_;obtain ⟨f,g,n,I,e3⟩:=au.out;exact ⟨c,p,rfl,f,g,n,I,e3⟩
    · have i1:¬(k:Int)<(N:Int):=by omega
      go_wp2_with fail
      refine a0k (v:= .tuple #[.agg #[.pointer (some ⟨c,0,none⟩), .pointer (some ⟨p,0,none⟩)], .bool true]) (by rw [bN rfl];go_simp) rfl ?_;obtain ⟨f,g,n,I,e3⟩:=au.out;exact ⟨c,p,rfl,f,g,n,I,e3⟩
end
section
open Go.RowKit Go.Maps Go.Shelf
section
variable {P:Program} {md:Region.Mode} {ops:Array Oper} {Q:Exit->Act->a0h->Prop} {S:a0h->Prop} {z:Nat}
theorem dM {i j:Nat} {o g:Oper} {n:Nat} {e:Array Bool} {a:Act} {w:a0h} (q:ops[i]? =some o) (r:ops[j]? =some g)
 (h:Region.ready md ops e=[i,j]) (m:Region.wanted o (yielded ops a.tmps)=true) (p:Region.wanted g (yielded ops a.tmps)=true)
 (c:∀K:Act->a0h->Prop,(∀b w',(i≠z->S w')->anyT P md ops Q S z n (e.setIfInBounds i true) b w'->K b w')->o.wp P a w K Q)
 (d:∀K:Act->a0h->Prop,(∀b w',(j≠z->S w')->anyT P md ops Q S z n (e.setIfInBounds j true) b w'->K b w')->g.wp P a w K Q):anyT P md ops Q S z (n+1) e a w:=by
 refine ⟨λl=>absurd l (by rw [h];simp),λk f=>?_⟩;rw [h] at f;simp only [List.mem_cons,List.not_mem_nil,or_false] at f;rcases f with rfl|rfl
 · unfold wpOp;rw [q];simp only [m,if_true];exact .inl (c _ λb w' c d=>⟨c,d⟩)
 · unfold wpOp;rw [r];simp only [p,if_true];exact .inl (d _ λb w' c d=>⟨c,d⟩)
end
structure cA (F:Nat->Prop) (W:a0h) (v:Value) (l:List RK):Prop where
 ex:∃a c,v= .slice a l.length c/\(l≠[]->∃b off,a=some ⟨b,off,none⟩/\b<W.heap.size/\¬F b/\∀j x,(l.flatMap rkCells)[j]? =some x->W.cell? ⟨b,off+j,none⟩=some x)
theorem Ag {l:List RK} (h:l.flatMap rkCells≠[]):l≠[]:=λe=>h (by rw [e];rfl)
theorem cA.at {F:Nat->Prop} {W:a0h} {v:Value} {l:List RK} (h:cA F W v l):d9 0 W.heap.size W v l:=by
 obtain ⟨a,c,i,h⟩:=h;refine ⟨a,c,i,λg=>?_⟩;obtain ⟨b,j,d,e,_,f⟩:=h (Ag g);exact ⟨b,j,d,a0s _,e,f⟩
theorem cA.step {F f:Nat->Prop} {W g:a0h} {v:Value} {l:List RK} (h:cA F W v l) (e:ag F W f g):cA f g v l:=by
 obtain ⟨a,c,o,h⟩:=h;refine ⟨a,c,o,λn=>?_⟩;obtain ⟨b,q,k,d,i,m⟩:=h n;refine ⟨b,q,k,Nat.lt_of_lt_of_le d e.size,e.not d i,λj x p=>?_⟩;rw [a0g (w:=W) (e.block b d i)];exact m j x p
theorem cA.of_owns {F:Nat->Prop} {W:a0h} {v:Value} {l:List RK} {B:Nat} (h:W.ownsRow B 36 2 v l.length (l.flatMap rkCells)) (f:∀g,v.ownBlock=some g->¬F g):cA F W v l:=by
 obtain ⟨a,c,rfl⟩:=aK h;refine ⟨a,c,rfl,λe=>?_⟩;obtain ⟨g,k,i,_⟩:=h.form (List.length_pos_iff.2 e);cases i;refine ⟨g,0,rfl,(h.lt g rfl).2,f g rfl,λj x b=>?_⟩;have d:=h.cellAt j (by have:=(List.getElem?_eq_some_iff.1 b).1;rw [od] at this;exact this);rw [Nat.zero_add,d];exact b
theorem cA.new {F:Nat->Prop} {W:a0h} {q:Nat} {l:List RK} {t:TypeId} (n:Nat) (b:n=l.length) (h:W.heap[q]? =some (.cells (l.flatMap rkCells).toArray t (0,0))) (a:¬F q):cA F W (.slice (some ⟨q,0,none⟩) n n) l:=by
 subst b;refine ⟨_,_,rfl,λ_=>⟨q,0,rfl,ae h,a,λj x c=>?_⟩⟩;rw [Nat.zero_add,aa h, <- c];simp
structure SnS (B:Nat) (w w1:a0h) (F:Nat->Prop) (W:a0h) (d:ar):Prop where
 cat:bz F W B d
 fl:∀k,F k->B<=k/\¬(B+1<=k/\k<=B+5)
 box:∀q,B+1<=q->q<=B+5->W.heap[q]? =w1.heap[q]?
 b:a0j B w W
 sz:B+6<=W.heap.size
theorem SnS.step {B:Nat} {w w1 W f:a0h} {F e:Nat->Prop} {d i:ar} (h:SnS B w w1 F W d) (l:bz e f B i) (c:ag F W e f):SnS B w w1 e f i:=by
 have n:=h.sz;refine ⟨l,λk g=>?_,λq a j=>?_,h.b.trans (c.below (λk g=>(h.fl k g).1) (by omega)).1,Nat.le_trans h.sz c.size⟩
 · rcases c.new k g with a|a
   · exact h.fl k a
   · omega
 · exact (c.block q (by omega) (λm=>(h.fl q m).2 ⟨a,j⟩)).trans (h.box q a j)
theorem SnS.below {B:Nat} {w w1 W a:a0h} {F:Nat->Prop} {d:ar} (h:SnS B w w1 F W d) (b:a0j W.heap.size W a):SnS B w w1 F a d:=h.step (h.cat.below b) (ag.of_below b)
theorem kp (t:Bs) (h:t.length<=1000):bL (dS t).fields:=by
 refine ⟨by simp [dS],λf a=>?_⟩;simp only [dS,List.mem_cons,List.not_mem_nil,or_false] at a;rcases a with rfl|rfl
 · simp [fieldBytes,aQ]
 · simp [fieldBytes,aQ];omega
def tI:Nat->ar
 |0=>cat0
 |1=>Ad
 |2=>Ab
 |_=>uF
def keyAt:Nat->RK
 |0=>(1,1)
 |1=>(1,2)
 |_=>(2,1)
theorem Ai (k:Nat) (d:k<3):putC (tI k) (keyAt k) 1 (dS gW)=(tI (k+1),0):=by
 obtain ⟨a,b,c,_⟩:=tH;have:k=0∨k=1∨k=2:=by omega
 rcases this with rfl|rfl|rfl
 · exact a0m rfl a
 · exact a0m rfl b
 · exact a0m rfl c
theorem bF {k:RK} (h:0<=k.1/\k.1<=100/\0<=k.2/\k.2<=100):rkOk k:=by
 unfold rkOk i64B;omega
theorem Ar (k:Nat):rkOk (keyAt k):=by
 refine bF ?_;unfold keyAt;split<;>decide
theorem AJ:putC uF (2,2) 1 (dS mY)=(jU,0):=a0m rfl tH.2.2.2
theorem AQ:decideC jU (1,1) (2,1) 1 false=(iC,0):=a0m rfl fm.1
theorem AO:decideC iC (2,2) (2,1) 1 true=(wD,0):=a0m rfl dn.1
theorem AP:dropC wD (1,1) 2=(lZ,0):=a0m rfl dn.2.1
theorem uE (w:a0h):a0l a0f 10 #[] w λe w'=>e= .returned (.bool true)/\a0j w.heap.size w w':=by
 obtain ⟨B,hB⟩:∃B,w.heap.size=B:=⟨_,rfl⟩;have hI:=xe w;have hP:=tQ w;obtain ⟨N,f2⟩:∃N,w.alloc (.cells #[.map none, .map none, .map none, .pointer none] 117)=N:=⟨_,rfl⟩;obtain ⟨O,c9⟩:∃O,N.alloc (.cells #[.int .i64 1, .int .i64 1] 36)=O:=⟨_,rfl⟩;obtain ⟨R,cb⟩:∃R,O.alloc (.cells #[.int .i64 1, .int .i64 2] 36)=R:=⟨_,rfl⟩;obtain ⟨V,cc⟩:∃V,R.alloc (.cells #[.int .i64 2, .int .i64 1] 36)=V:=⟨_,rfl⟩;obtain ⟨p,cd⟩:∃p,V.alloc (.cells #[.int .i64 2, .int .i64 2] 36)=p:=⟨_,rfl⟩;obtain ⟨w1,cg⟩:∃w1,p.alloc (.cells #[.int .i64 1, .int .i64 1, .int .i64 1, .int .i64 2, .int .i64 2, .int .i64 1] 36)=w1:=⟨_,rfl⟩;have z1:N.heap.size=B+1:=by rw [<- f2, <- hB];simp
 have z2:O.heap.size=B+2:=by rw [<- c9];simp [z1]
 have z3:R.heap.size=B+3:=by rw [<- cb];simp [z2]
 have z4:V.heap.size=B+4:=by rw [<- cc];simp [z3]
 have z5:p.heap.size=B+5:=by rw [<- cd];simp [z4]
 have z6:w1.heap.size=B+6:=by rw [<- cg];simp [z5]
 rw [f2,hB] at hI hP;have nf:a0j B w N:=by rw [<- f2, <- hB];exact (a0d _ w).alloc (a0e _) _
 have o:a0j N.heap.size N O:=by rw [<- c9];exact (a0d _ N).alloc (a0e _) _
 have nx:a0j O.heap.size O R:=by rw [<- cb];exact (a0d _ O).alloc (a0e _) _
 have ny:a0j R.heap.size R V:=by rw [<- cc];exact (a0d _ R).alloc (a0e _) _
 have hH:a0j V.heap.size V p:=by rw [<- cd];exact (a0d _ V).alloc (a0e _) _
 have U:a0j p.heap.size p w1:=by rw [<- cg];exact (a0d _ p).alloc (a0e _) _
 have hG:a0j R.heap.size R w1:=(ny.trans (hH.mono (by omega))).trans (U.mono (by omega));have hD:a0j O.heap.size O w1:=nx.trans (hG.mono (by omega));have hC:a0j N.heap.size N w1:=o.trans (hD.mono (by omega));have d8:w1.heap[B+1]? =some (.cells #[.int .i64 1, .int .i64 1] 36 (0,0)):=(hD.block _ (by omega)).trans (by rw [<- c9, <- z1];exact a0b N _);have da:w1.heap[B+2]? =some (.cells #[.int .i64 1, .int .i64 2] 36 (0,0)):=(hG.block _ (by omega)).trans (by rw [<- cb, <- z2];exact a0b O _);have dc:w1.heap[B+3]? =some (.cells #[.int .i64 2, .int .i64 1] 36 (0,0)):=((U.block _ (by omega)).trans (hH.block _ (by omega))).trans (by rw [<- cc, <- z3];exact a0b R _);have oR:w1.heap[B+4]? =some (.cells #[.int .i64 2, .int .i64 2] 36 (0,0)):=(U.block _ (by omega)).trans (by rw [<- cd, <- z4];exact a0b V _);have hJ:w1.heap[B+5]? =some (.cells #[.int .i64 1, .int .i64 1, .int .i64 1, .int .i64 2, .int .i64 2, .int .i64 1] 36 (0,0)):=by rw [<- cg, <- z5];exact a0b p _
 have B4:Hid (SnS B w w1 (λk=>k=B) w1 cat0):=⟨(hP.below hC),λk hk=>by omega,λ_ _ _=>rfl,nf.trans (hC.mono (by omega)),by omega⟩;have u:Hid (∀W:a0h,(∀q,B+1<=q->q<=B+5->W.heap[q]? =w1.heap[q]?)->(W.cell? ⟨B+1,0,none⟩=some (.int .i64 1)/\W.cell? ⟨B+1,1,none⟩=some (.int .i64 1))/\(W.cell? ⟨B+2,0,none⟩=some (.int .i64 1)/\W.cell? ⟨B+2,1,none⟩=some (.int .i64 2))/\(W.cell? ⟨B+3,0,none⟩=some (.int .i64 2)/\W.cell? ⟨B+3,1,none⟩=some (.int .i64 1))/\(W.cell? ⟨B+4,0,none⟩=some (.int .i64 2)/\W.cell? ⟨B+4,1,none⟩=some (.int .i64 2))/\W.cell? ⟨B+5,0,none⟩=some (.int .i64 1)/\W.cell? ⟨B+5,1,none⟩=some (.int .i64 1)/\W.cell? ⟨B+5,2,none⟩=some (.int .i64 1)/\W.cell? ⟨B+5,3,none⟩=some (.int .i64 2)/\W.cell? ⟨B+5,4,none⟩=some (.int .i64 2)/\W.cell? ⟨B+5,5,none⟩=some (.int .i64 1)):=λW h=>by have g1:=(h (B+1) (by omega) (by omega)).trans d8;have g2:=(h (B+2) (by omega) (by omega)).trans da;have g3:=(h (B+3) (by omega) (by omega)).trans dc;have g4:=(h (B+4) (by omega) (by omega)).trans oR;have g5:=(h (B+5) (by omega) (by omega)).trans hJ;exact ⟨⟨(aa g1 0).trans rfl,(aa g1 1).trans rfl⟩,⟨(aa g2 0).trans rfl,(aa g2 1).trans rfl⟩,⟨(aa g3 0).trans rfl,(aa g3 1).trans rfl⟩,⟨(aa g4 0).trans rfl,(aa g4 1).trans rfl⟩,(aa g5 0).trans rfl,(aa g5 1).trans rfl,(aa g5 2).trans rfl,(aa g5 3).trans rfl,(aa g5 4).trans rfl,(aa g5 5).trans rfl⟩
 have m1:p.cell? ⟨B+1,0,none⟩=some (.int .i64 1):=(a0g (a:=⟨B+1,0,none⟩) (U.block (B+1) (by omega))).symm.trans ((aa d8 0).trans rfl);have m2:p.cell? ⟨B+1,1,none⟩=some (.int .i64 1):=(a0g (a:=⟨B+1,1,none⟩) (U.block (B+1) (by omega))).symm.trans ((aa d8 1).trans rfl);have m3:p.cell? ⟨B+2,0,none⟩=some (.int .i64 1):=(a0g (a:=⟨B+2,0,none⟩) (U.block (B+2) (by omega))).symm.trans ((aa da 0).trans rfl);have m4:p.cell? ⟨B+2,1,none⟩=some (.int .i64 2):=(a0g (a:=⟨B+2,1,none⟩) (U.block (B+2) (by omega))).symm.trans ((aa da 1).trans rfl);have m5:p.cell? ⟨B+3,0,none⟩=some (.int .i64 2):=(a0g (a:=⟨B+3,0,none⟩) (U.block (B+3) (by omega))).symm.trans ((aa dc 0).trans rfl);have m6:p.cell? ⟨B+3,1,none⟩=some (.int .i64 1):=(a0g (a:=⟨B+3,1,none⟩) (U.block (B+3) (by omega))).symm.trans ((aa dc 1).trans rfl);have sM:=a0a hI;have vy:=a0a hJ;have B5:=a0a c9;have B6:=a0a cb;have B7:=a0a cc;have B8:=a0a cd;have B9:=a0a cg;have c1:Hid (N.heap.size=B+1/\O.heap.size=B+2/\R.heap.size=B+3/\V.heap.size=B+4/\p.heap.size=B+5):=⟨z1,z2,z3,z4,z5⟩;rw [hB];clear hB hI hP f2 c9 cb cc cd cg z1 z2 z3 z4 z5 z6 nf o nx ny hH U hG hD hC d8 da dc oR hJ;go_enter Tryz.func10,Tryz.ntmps10;go_upto_region 2 with (go_at_call 32;((with_reducible refine a0c sM.out ?_);rintro e wx ⟨rfl,k6⟩;have k6:=k6.symm;subst k6))
 go_upto_region 5 with fail
 rw [c1.out.1,B5.out];go_upto_region 6 with fail
 rw [c1.out.2.1,B6.out];go_upto_region 7 with fail
 rw [c1.out.2.2.1,B7.out];go_upto_region 8 with fail
 rw [c1.out.2.2.2.1,B8.out];go_upto_region 10 with fail
 rw [c1.out.2.2.2.2,B9.out];clear m1 m2 m3 m4 m5 m6;go_loopw [7] (λi wr=>∃(k:Nat) (F:Nat->Prop),k<=3/\i= .int .i64 k/\Hid (SnS B w w1 F wr (tI k))) (λi _=>3 - (intOf i).toNat)
 case atStart=>exact ⟨0,_,by omega,rfl,B4⟩
 case round=>
  obtain ⟨k,F,hk,rfl,T⟩:=hrel;by_cases hlt:k<3
  · have i1:(k:Int)<3:=by omega
    obtain ⟨⟨s6,s8⟩,e5⟩:∃kk,keyAt k=kk:=⟨_,rfl⟩;have vt:Hid (∀W:a0h,(∀q,B+1<=q->q<=B+5->W.heap[q]? =w1.heap[q]?)->W.cell? ⟨B+5,k * 2,none⟩=some (.int .i64 s6)/\W.cell? ⟨B+5,k * 2+1,none⟩=some (.int .i64 s8)):=λW h=>by
     obtain ⟨_,_,_,_,A,C,v,x,o,y⟩:=u W h;have:k=0∨k=1∨k=2:=by omega
     rcases this with rfl|rfl|rfl
     · obtain ⟨rfl,rfl⟩:=Prod.mk.inj e5.symm;exact ⟨A,C⟩
     · obtain ⟨rfl,rfl⟩:=Prod.mk.inj e5.symm;exact ⟨v,x⟩
     · obtain ⟨rfl,rfl⟩:=Prod.mk.inj e5.symm;exact ⟨o,y⟩
    go_upto_region 12 with fail
    have n:=a0a (T.below (a0d _ wr).drew);go_wp2_with fail
    refine wT (λW:a0h=>∀q,B+1<=q->q<=B+5->W.heap[q]? =w1.heap[q]?) 999 ?_;have c:=tkL [0,1,2];repeat (refine tkIS c ?_ rfl n.box ?_ ?_;rotate_left;intro w' h;go_simp;rfl;(try go_simp);replace c:=tkO c)
    clear c;have c:=tkL [3,4];repeat (refine tkIS c ?_ rfl n.box ?_ ?_;rotate_left;intro w' h;obtain ⟨k0,k1⟩:=vt w' h;go_simp;rfl;(try go_simp);replace c:=tkO c)
    clear c;refine dO 5 rfl λK d=>?_;go_simp;go_at_call 28;refine a0c (show a0l a0f 28 #[.string ⟨#[78,97,110,97]⟩] wr.drew _ from tp gW wr.drew) ?_;rintro e W1 ⟨st,sx,rfl,p3,hN⟩;have cQ:=a0a (n.below hN);have Bu:=a0a hN;have vs:=a0a p3;clear hN p3;refine d _ _ (λ_=>cQ.box) ?_;clear d K;go_simp;refine tkS 6 ?_ rfl cQ.box ?_ ?_;rotate_left;intro w' h;go_simp;rfl;try go_simp
    refine dO 7 rfl λK d=>?_;go_simp;have e4:=sd F W1 B (tI k) cQ.out.cat (keyAt k) 1 (dS gW) (.slice st 2 sx) (Ar k) (by unfold i64B;decide) wr.drew.heap.size W1.heap.size vs.out (a0e _) (λq r _ hF=>by have s:=n.out.cat.lt q hF;omega) (kp gW (by decide));rw [Ai k (by omega)] at e4;rw [e5] at e4;have tx:Hid (a0l a0f 29 #[.pointer (some ⟨B,0,none⟩), .agg #[.int .i64 s6, .int .i64 s8, .int .i64 1, .int .u8 97, .int .u8 109, .slice st 2 sx]] W1 _):=e4;clear e4;go_at_call 29;with_reducible refine a0c tx.out ?_
    rintro e W7 ⟨rfl,F8,oN,sa⟩;have h0:=a0a (cQ.step oN sa);clear oN sa;refine d _ _ (λ_=>h0.box) ?_;clear d K;go_simp;refine tkS 8 ?_ rfl h0.box ?_ ?_;rotate_left;intro w' h;go_simp;rfl;try go_simp
    refine dN ?_;go_wp2_with fail
    go_roundw
    case rel=>exact ⟨k+1,F8,by omega,by go_num,h0⟩
    case measure=>simp [intOf];omega
  · obtain rfl:k=3:=by omega
    have T:Hid (SnS B w w1 F wr uF):=T;clear hlt hk;go_upto_region 14 with fail
    go_cut [8] (λt wx=>t= .bool true/\∃F:Nat->Prop,Hid (SnS B w w1 F wx jU))
    case first=>
     generalize wr=wc at *;have n:=a0a (T.below (a0d _ wc).drew);go_wp2_with fail
     refine wT (λW:a0h=>∀q,B+1<=q->q<=B+5->W.heap[q]? =w1.heap[q]?) 999 ?_;have vx:Hid (cA F wc.drew (.slice (some ⟨B+5,0,none⟩) 3 3) [(1,1),(1,2),(2,1)]):=cA.new 3 rfl ((n.out.box (B+5) (by omega) (by omega)).trans vy.out) (λf=>(n.out.fl _ f).2 ⟨by omega,by omega⟩);have c:=tkL [0,1];repeat (refine tkIS c ?_ rfl n.box ?_ ?_;rotate_left;intro w' h;obtain ⟨⟨D,E⟩,⟨G,H⟩,⟨I,J⟩,⟨L,M⟩,A,C,v,x,o,y⟩:=u w' h;go_simp;rfl;(try go_simp);replace c:=tkO c)
     clear c;refine dO 2 rfl λK d=>?_;go_simp;go_at_call 28;refine a0c (show a0l a0f 28 #[.string ⟨#[71,101,114,109,105,110,97,108]⟩] wc.drew _ from tp mY wc.drew) ?_;rintro e ht ⟨ss,su,rfl,p2,dk⟩;have cP:=a0a (n.below dk);have Bt:=a0a dk;have vd:=a0a p2;have wf:=a0a (vx.step (ag.of_below dk));clear dk p2;refine d _ _ (λ_=>cP.box) ?_;clear d K;go_simp;refine tkS 3 ?_ rfl cP.box ?_ ?_;rotate_left;intro w' h;go_simp;rfl;try go_simp
     refine dO 4 rfl λK d=>?_;go_simp;have i4:=sd F ht B uF cP.out.cat (2,2) 1 (dS mY) (.slice ss 2 su) (bF (by decide)) (by unfold i64B;decide) wc.drew.heap.size ht.heap.size vd.out (a0e _) (λq r _ hF=>by have s:=n.out.cat.lt q hF;omega) (kp mY (by decide));rw [AJ] at i4;have t6:Hid (a0l a0f 29 #[.pointer (some ⟨B,0,none⟩), .agg #[.int .i64 2, .int .i64 2, .int .i64 1, .int .u8 97, .int .u8 109, .slice ss 2 su]] ht _):=i4;clear i4;go_at_call 29;with_reducible refine a0c t6.out ?_
     rintro e Z ⟨rfl,cv,o1,k7⟩;have a7:=a0a (cP.step o1 k7);have la:=a0a (wf.step k7);clear o1 k7;refine d _ _ (λ_=>a7.box) ?_;clear d K;go_simp;have c:=tkL [5,6];repeat (refine tkIS c ?_ rfl a7.box ?_ ?_;rotate_left;intro w' h;go_simp;rfl;(try go_simp);replace c:=tkO c)
     clear c;have c:=tkL [7,9,10];repeat (refine tkIS c ?_ rfl a7.box ?_ ?_;rotate_left;intro w' h;obtain ⟨⟨D,E⟩,⟨G,H⟩,⟨I,J⟩,⟨L,M⟩,A,C,v,x,o,y⟩:=u w' h;go_simp;rfl;(try go_simp);replace c:=tkO c)
     clear c;refine dM (i:=8) (j:=11) rfl rfl (by kernel_rfl) (by rfl) (by rfl) (λK d=>?_) (λK d=>?_)
     · go_simp;have iN:=en cv Z B jU a7.cat (by decide+kernel);rw [jZ.1] at iN;have td:Hid (a0l a0f 18 #[.pointer (some ⟨B,0,none⟩)] Z _):=iN;clear iN;go_at_call 18;with_reducible refine a0c td.out ?_
       rintro e au ⟨Cr,gQ,rfl,o5,k9,ry,qq⟩;have y2:=a0a (cA.of_owns (l:=[(1,1),(2,2)]) ry qq);clear ry qq;have hi:=a0a (a7.step o5 k9);have y6:=a0a (la.step k9);clear o5 k9;refine d _ _ (λ_=>hi.box) ?_;clear d K;go_simp;refine dB 11 rfl λK d=>?_;go_simp;obtain ⟨hz,ft⟩:∃g,au.alloc (.cells #[.int .i64 1, .int .i64 1, .int .i64 2, .int .i64 2] 36)=g:=⟨_,rfl⟩;obtain ⟨gn,es⟩:∃m,au.heap.size=m:=⟨_,rfl⟩;have e1:a0j au.heap.size au hz:=by rw [<- ft];exact (a0d _ au).alloc (a0e _) _
       have qz:hz.heap[gn]? =some (.cells #[.int .i64 1, .int .i64 1, .int .i64 2, .int .i64 2] 36 (0,0)):=by rw [<- ft, <- es];exact a0b au _
       have ps:¬gQ gn:=λf=>by have r:=hi.out.cat.lt gn f;have s:au.heap.size=gn:=es;omega
       have n4:=a0a (hi.below e1);have zs:=a0a (y6.step (ag.of_below e1));have m7:=a0a (y2.step (ag.of_below e1));have m0:=a0a (cA.new (F:=gQ) (l:=[(1,1),(2,2)]) 2 rfl qz ps);try rw [es]
       try rw [ft]
       clear ft es e1 qz ps;refine d _ _ (λ_=>n4.box) ?_;clear d K;go_simp;refine dB 12 rfl λK d=>?_;go_simp;have k2:=ck _ _ [(1,1),(2,2)] [(1,1),(2,2)] hz m7.at m0.at (by decide) (by decide);rw [show decide (([(1,1),(2,2)]:List RK)=[(1,1),(2,2)])=true from by decide] at k2;have vb:=a0a k2;clear k2;go_at_call 17;with_reducible refine a0c vb.out ?_
       rintro e nb ⟨rfl,c7⟩;have c0:=a0a (n4.below c7);have At:=a0a (zs.step (ag.of_below c7));have AC:=a0a (m7.step (ag.of_below c7));have AS:=a0a (m0.step (ag.of_below c7));clear c7;refine d _ _ (λ_=>c0.box) ?_;clear d K;go_simp;have c:=tkL [13,14];repeat (refine tkIS c ?_ rfl c0.box ?_ ?_;rotate_left;intro w' h;go_simp;rfl;(try go_simp);replace c:=tkO c)
       clear c;have c:=tkL [15,16,18];repeat (refine tkIS c ?_ rfl c0.box ?_ ?_;rotate_left;intro w' h;obtain ⟨⟨D,E⟩,⟨G,H⟩,⟨I,J⟩,⟨L,M⟩,A,C,v,x,o,y⟩:=u w' h;go_simp;rfl;(try go_simp);replace c:=tkO c)
       clear c;refine dB 17 rfl λK d=>?_;go_simp;have k3:=ce gQ nb B jU c0.cat (by decide+kernel) (1,1) (bF (by decide));rw [jZ.2] at k3;have tr:Hid (a0l a0f 22 #[.pointer (some ⟨B,0,none⟩), .agg #[.int .i64 1, .int .i64 1]] nb _):=k3;clear k3;go_at_call 22;with_reducible refine a0c tr.out ?_
       rintro e Bj ⟨Cy,Br,rfl,ov,cs,s4,r5⟩;have mc:=a0a (cA.of_owns (l:=[(1,1),(1,2),(2,1)]) s4 r5);clear s4 r5;have n7:=a0a (c0.step ov cs);have me:=a0a (At.step cs);have AT:=a0a (AC.step cs);have B0:=a0a (AS.step cs);clear ov cs;refine d _ _ (λ_=>n7.box) ?_;clear d K;go_simp;refine dB 19 rfl λK d=>?_;go_simp;have k4:=ck _ _ [(1,1),(1,2),(2,1)] [(1,1),(1,2),(2,1)] Bj mc.at me.at (by decide) (by decide);rw [show decide (([(1,1),(1,2),(2,1)]:List RK)=[(1,1),(1,2),(2,1)])=true from by decide] at k4;have vc:=a0a k4;clear k4;go_at_call 17;with_reducible refine a0c vc.out ?_
       rintro e Cj ⟨rfl,bB⟩;have hr:=a0a (n7.below bB);have C5:=a0a (me.step (ag.of_below bB));have C6:=a0a (AT.step (ag.of_below bB));have C7:=a0a (B0.step (ag.of_below bB));have C8:=a0a (mc.step (ag.of_below bB));clear bB;refine d _ _ (λ_=>hr.box) ?_;clear d K;go_simp;have c:=tkL [20,21];repeat (refine tkIS c ?_ rfl hr.box ?_ ?_;rotate_left;intro w' h;go_simp;rfl;(try go_simp);replace c:=tkO c)
       clear c;refine dN ?_;go_wp2_with fail
       go_meet;exact ⟨rfl,_,hr⟩
     · go_simp;obtain ⟨d6,fz⟩:∃g,Z.alloc (.cells #[.int .i64 1, .int .i64 1, .int .i64 2, .int .i64 2] 36)=g:=⟨_,rfl⟩;obtain ⟨gt,f1⟩:∃m,Z.heap.size=m:=⟨_,rfl⟩;have hO:a0j Z.heap.size Z d6:=by rw [<- fz];exact (a0d _ Z).alloc (a0e _) _
       have r9:d6.heap[gt]? =some (.cells #[.int .i64 1, .int .i64 1, .int .i64 2, .int .i64 2] 36 (0,0)):=by rw [<- fz, <- f1];exact a0b Z _
       have py:¬cv gt:=λf=>by have r:=a7.out.cat.lt gt f;have s:Z.heap.size=gt:=f1;omega
       have hs:=a0a (a7.below hO);have B2:=a0a (la.step (ag.of_below hO));have B1:=a0a (cA.new (F:=cv) (l:=[(1,1),(2,2)]) 2 rfl r9 py);try rw [f1]
       try rw [fz]
       clear fz f1 hO r9 py;refine d _ _ (λ_=>hs.box) ?_;clear d K;go_simp;refine dB 8 rfl λK d=>?_;go_simp;have k5:=en cv d6 B jU hs.cat (by decide+kernel);rw [jZ.1] at k5;have ts:Hid (a0l a0f 18 #[.pointer (some ⟨B,0,none⟩)] d6 _):=k5;clear k5;go_at_call 18;with_reducible refine a0c ts.out ?_
       rintro e Bk ⟨Cz,sC,rfl,oF,gP,s5,ra⟩;have mf:=a0a (cA.of_owns (l:=[(1,1),(2,2)]) s5 ra);clear s5 ra;have n8:=a0a (hs.step oF gP);have B3:=a0a (B2.step gP);have ml:=a0a (B1.step gP);clear oF gP;refine d _ _ (λ_=>n8.box) ?_;clear d K;go_simp;refine dB 12 rfl λK d=>?_;go_simp;have hQ:=ck _ _ [(1,1),(2,2)] [(1,1),(2,2)] Bk mf.at ml.at (by decide) (by decide);rw [show decide (([(1,1),(2,2)]:List RK)=[(1,1),(2,2)])=true from by decide] at hQ;have ty:=a0a hQ;clear hQ;go_at_call 17;with_reducible refine a0c ty.out ?_
       rintro e ne ⟨rfl,c2⟩;have bO:=a0a (n8.below c2);have vN:=a0a (B3.step (ag.of_below c2));have w0:=a0a (ml.step (ag.of_below c2));have w2:=a0a (mf.step (ag.of_below c2));clear c2;refine d _ _ (λ_=>bO.box) ?_;clear d K;go_simp;have c:=tkL [13,14];repeat (refine tkIS c ?_ rfl bO.box ?_ ?_;rotate_left;intro w' h;go_simp;rfl;(try go_simp);replace c:=tkO c)
       clear c;have c:=tkL [15,16,18];repeat (refine tkIS c ?_ rfl bO.box ?_ ?_;rotate_left;intro w' h;obtain ⟨⟨D,E⟩,⟨G,H⟩,⟨I,J⟩,⟨L,M⟩,A,C,v,x,o,y⟩:=u w' h;go_simp;rfl;(try go_simp);replace c:=tkO c)
       clear c;refine dB 17 rfl λK d=>?_;go_simp;have hR:=ce sC ne B jU bO.cat (by decide+kernel) (1,1) (bF (by decide));rw [jZ.2] at hR;have t0:Hid (a0l a0f 22 #[.pointer (some ⟨B,0,none⟩), .agg #[.int .i64 1, .int .i64 1]] ne _):=hR;clear hR;go_at_call 22;with_reducible refine a0c t0.out ?_
       rintro e Bc ⟨Ck,Bl,rfl,nz,ch,rc,pz⟩;have kn:=a0a (cA.of_owns (l:=[(1,1),(1,2),(2,1)]) rc pz);clear rc pz;have mm:=a0a (bO.step nz ch);have ko:=a0a (vN.step ch);have w3:=a0a (w0.step ch);have w4:=a0a (w2.step ch);clear nz ch;refine d _ _ (λ_=>mm.box) ?_;clear d K;go_simp;refine dB 19 rfl λK d=>?_;go_simp;have hS:=ck _ _ [(1,1),(1,2),(2,1)] [(1,1),(1,2),(2,1)] Bc kn.at ko.at (by decide) (by decide);rw [show decide (([(1,1),(1,2),(2,1)]:List RK)=[(1,1),(1,2),(2,1)])=true from by decide] at hS;have tz:=a0a hS;clear hS;go_at_call 17;with_reducible refine a0c tz.out ?_
       rintro e C9 ⟨rfl,aT⟩;have h3:=a0a (mm.below aT);have Bv:=a0a (ko.step (ag.of_below aT));have Bw:=a0a (w3.step (ag.of_below aT));have Bx:=a0a (w4.step (ag.of_below aT));have By:=a0a (kn.step (ag.of_below aT));clear aT;refine d _ _ (λ_=>h3.box) ?_;clear d K;go_simp;have c:=tkL [20,21];repeat (refine tkIS c ?_ rfl h3.box ?_ ?_;rotate_left;intro w' h;go_simp;rfl;(try go_simp);replace c:=tkO c)
       clear c;refine dN ?_;go_wp2_with fail
       go_meet;exact ⟨rfl,_,h3⟩
    case rest=>
     obtain ⟨rfl,F,T⟩:=hcut;go_upto_region 15 with fail
     go_cut [9] (λt wx=>t= .bool true/\∃F:Nat->Prop,Hid (SnS B w w1 F wx iC))
     case first=>
      have n:=a0a (T.below (a0d _ wc).drew);go_wp2_with fail
      refine wT (λW:a0h=>∀q,B+1<=q->q<=B+5->W.heap[q]? =w1.heap[q]?) 999 ?_;have c:=tkL [0,1,2];repeat (refine tkIS c ?_ rfl n.box ?_ ?_;rotate_left;intro w' h;obtain ⟨⟨D,E⟩,⟨G,H⟩,⟨I,J⟩,⟨L,M⟩,A,C,v,x,o,y⟩:=u w' h;go_simp;rfl;(try go_simp);replace c:=tkO c)
      clear c;refine dO 3 rfl λK d=>?_;go_simp;have hT:=rq F wc.drew B jU n.cat (1,1) (2,1) 1 (bF (by decide)) (bF (by decide)) (by unfold i64B;decide);rw [AQ] at hT;have t1:Hid (a0l a0f 39 #[.pointer (some ⟨B,0,none⟩), .agg #[.int .i64 1, .int .i64 1], .agg #[.int .i64 2, .int .i64 1], .int .i64 1] wc.drew _):=hT;clear hT;go_at_call 39;with_reducible refine a0c t1.out ?_
      rintro e X ⟨rfl,cu,nE,sb⟩;have a4:=a0a (n.step nE sb);clear nE sb;refine d _ _ (λ_=>a4.box) ?_;clear d K;go_simp;have c:=tkL [4,5];repeat (refine tkIS c ?_ rfl a4.box ?_ ?_;rotate_left;intro w' h;go_simp;rfl;(try go_simp);replace c:=tkO c)
      clear c;have c:=tkL [6,8,9,10];repeat (refine tkIS c ?_ rfl a4.box ?_ ?_;rotate_left;intro w' h;obtain ⟨⟨D,E⟩,⟨G,H⟩,⟨I,J⟩,⟨L,M⟩,A,C,v,x,o,y⟩:=u w' h;go_simp;rfl;(try go_simp);replace c:=tkO c)
      clear c;refine dM (i:=7) (j:=11) rfl rfl (by kernel_rfl) (by rfl) (by rfl) (λK d=>?_) (λK d=>?_)
      · go_simp;have hV:=en cu X B iC a4.cat (by decide+kernel);rw [fm.2.1] at hV;have t2:Hid (a0l a0f 18 #[.pointer (some ⟨B,0,none⟩)] X _):=hV;clear hV;go_at_call 18;with_reducible refine a0c t2.out ?_
        rintro e ad ⟨Cl,aC,rfl,nF,se,rg,q0⟩;have w5:=a0a (cA.of_owns (l:=[(1,1),(2,1),(2,2)]) rg q0);clear rg q0;have h4:=a0a (a4.step nF se);clear nF se;refine d _ _ (λ_=>h4.box) ?_;clear d K;go_simp;refine dB 11 rfl λK d=>?_;go_simp;obtain ⟨hu,f3⟩:∃g,ad.alloc (.cells #[.int .i64 1, .int .i64 1, .int .i64 2, .int .i64 1, .int .i64 2, .int .i64 2] 36)=g:=⟨_,rfl⟩;obtain ⟨g0,e6⟩:∃m,ad.heap.size=m:=⟨_,rfl⟩;have hL:a0j ad.heap.size ad hu:=by rw [<- f3];exact (a0d _ ad).alloc (a0e _) _
        have q1:hu.heap[g0]? =some (.cells #[.int .i64 1, .int .i64 1, .int .i64 2, .int .i64 1, .int .i64 2, .int .i64 2] 36 (0,0)):=by rw [<- f3, <- e6];exact a0b ad _
        have p4:¬aC g0:=λf=>by have r:=h4.out.cat.lt g0 f;have s:ad.heap.size=g0:=e6;omega
        have mo:=a0a (h4.below hL);have ks:=a0a (w5.step (ag.of_below hL));have kq:=a0a (cA.new (F:=aC) (l:=[(1,1),(2,1),(2,2)]) 3 rfl q1 p4);try rw [e6]
        try rw [f3]
        clear f3 e6 hL q1 p4;refine d _ _ (λ_=>mo.box) ?_;clear d K;go_simp;refine dB 12 rfl λK d=>?_;go_simp;have hW:=ck _ _ [(1,1),(2,1),(2,2)] [(1,1),(2,1),(2,2)] hu ks.at kq.at (by decide) (by decide);rw [show decide (([(1,1),(2,1),(2,2)]:List RK)=[(1,1),(2,1),(2,2)])=true from by decide] at hW;have tO:=a0a hW;clear hW;go_at_call 17;with_reducible refine a0c tO.out ?_
        rintro e Y ⟨rfl,dd⟩;have a5:=a0a (mo.below dd);have kt:=a0a (ks.step (ag.of_below dd));have kv:=a0a (kq.step (ag.of_below dd));clear dd;refine d _ _ (λ_=>a5.box) ?_;clear d K;go_simp;have c:=tkL [13,14];repeat (refine tkIS c ?_ rfl a5.box ?_ ?_;rotate_left;intro w' h;go_simp;rfl;(try go_simp);replace c:=tkO c)
        clear c;have c:=tkL [15,16,18,19];repeat (refine tkIS c ?_ rfl a5.box ?_ ?_;rotate_left;intro w' h;obtain ⟨⟨D,E⟩,⟨G,H⟩,⟨I,J⟩,⟨L,M⟩,A,C,v,x,o,y⟩:=u w' h;go_simp;rfl;(try go_simp);replace c:=tkO c)
        clear c;refine dM (i:=17) (j:=20) rfl rfl (by kernel_rfl) (by rfl) (by rfl) (λK d=>?_) (λK d=>?_)
        · go_simp;have hX:=ce aC Y B iC a5.cat (by decide+kernel) (1,1) (bF (by decide));rw [fm.2.2] at hX;have t3:Hid (a0l a0f 22 #[.pointer (some ⟨B,0,none⟩), .agg #[.int .i64 1, .int .i64 1]] Y _):=hX;clear hX;go_at_call 22;with_reducible refine a0c t3.out ?_
          rintro e al ⟨Cm,kb,rfl,nN,gx,rk,q2⟩;have w6:=a0a (cA.of_owns (l:=[(1,1),(1,2)]) rk q2);clear rk q2;have h5:=a0a (a5.step nN gx);have w7:=a0a (kt.step gx);have w8:=a0a (kv.step gx);clear nN gx;refine d _ _ (λ_=>h5.box) ?_;clear d K;go_simp;refine dB 20 rfl λK d=>?_;go_simp;obtain ⟨hv,f4⟩:∃g,al.alloc (.cells #[.int .i64 1, .int .i64 1, .int .i64 1, .int .i64 2] 36)=g:=⟨_,rfl⟩;obtain ⟨g6,e7⟩:∃m,al.heap.size=m:=⟨_,rfl⟩;have c3:a0j al.heap.size al hv:=by rw [<- f4];exact (a0d _ al).alloc (a0e _) _
          have q3:hv.heap[g6]? =some (.cells #[.int .i64 1, .int .i64 1, .int .i64 1, .int .i64 2] 36 (0,0)):=by rw [<- f4, <- e7];exact a0b al _
          have p5:¬kb g6:=λf=>by have r:=h5.out.cat.lt g6 f;have s:al.heap.size=g6:=e7;omega
          have mp:=a0a (h5.below c3);have w9:=a0a (w7.step (ag.of_below c3));have wa:=a0a (w8.step (ag.of_below c3));have ky:=a0a (w6.step (ag.of_below c3));have kx:=a0a (cA.new (F:=kb) (l:=[(1,1),(1,2)]) 2 rfl q3 p5);try rw [e7]
          try rw [f4]
          clear f4 e7 c3 q3 p5;refine d _ _ (λ_=>mp.box) ?_;clear d K;go_simp;refine dB 21 rfl λK d=>?_;go_simp;have hY:=ck _ _ [(1,1),(1,2)] [(1,1),(1,2)] hv ky.at kx.at (by decide) (by decide);rw [show decide (([(1,1),(1,2)]:List RK)=[(1,1),(1,2)])=true from by decide] at hY;have ue:=a0a hY;clear hY;go_at_call 17;with_reducible refine a0c ue.out ?_
          rintro e Ca ⟨rfl,bb⟩;have h6:=a0a (mp.below bb);have Bz:=a0a (w9.step (ag.of_below bb));have BA:=a0a (wa.step (ag.of_below bb));have BB:=a0a (ky.step (ag.of_below bb));have BC:=a0a (kx.step (ag.of_below bb));clear bb;refine d _ _ (λ_=>h6.box) ?_;clear d K;go_simp;have c:=tkL [22,23];repeat (refine tkIS c ?_ rfl h6.box ?_ ?_;rotate_left;intro w' h;go_simp;rfl;(try go_simp);replace c:=tkO c)
          clear c;refine dN ?_;go_wp2_with fail
          go_meet;exact ⟨rfl,_,h6⟩
        · go_simp;obtain ⟨d0,f5⟩:∃g,Y.alloc (.cells #[.int .i64 1, .int .i64 1, .int .i64 1, .int .i64 2] 36)=g:=⟨_,rfl⟩;obtain ⟨g7,e8⟩:∃m,Y.heap.size=m:=⟨_,rfl⟩;have ds:a0j Y.heap.size Y d0:=by rw [<- f5];exact (a0d _ Y).alloc (a0e _) _
          have q4:d0.heap[g7]? =some (.cells #[.int .i64 1, .int .i64 1, .int .i64 1, .int .i64 2] 36 (0,0)):=by rw [<- f5, <- e8];exact a0b Y _
          have pa:¬aC g7:=λf=>by have r:=a5.out.cat.lt g7 f;have s:Y.heap.size=g7:=e8;omega
          have h7:=a0a (a5.below ds);have wq:=a0a (kt.step (ag.of_below ds));have ws:=a0a (kv.step (ag.of_below ds));have wp:=a0a (cA.new (F:=aC) (l:=[(1,1),(1,2)]) 2 rfl q4 pa);try rw [e8]
          try rw [f5]
          clear f5 e8 ds q4 pa;refine d _ _ (λ_=>h7.box) ?_;clear d K;go_simp;refine dB 17 rfl λK d=>?_;go_simp;have hZ:=ce aC d0 B iC h7.cat (by decide+kernel) (1,1) (bF (by decide));rw [fm.2.2] at hZ;have t4:Hid (a0l a0f 22 #[.pointer (some ⟨B,0,none⟩), .agg #[.int .i64 1, .int .i64 1]] d0 _):=hZ;clear hZ;go_at_call 22;with_reducible refine a0c t4.out ?_
          rintro e Bd ⟨Cn,Bm,rfl,nO,cl,rl,q5⟩;have kz:=a0a (cA.of_owns (l:=[(1,1),(1,2)]) rl q5);clear rl q5;have ms:=a0a (h7.step nO cl);have wu:=a0a (wq.step cl);have wz:=a0a (ws.step cl);have l1:=a0a (wp.step cl);clear nO cl;refine d _ _ (λ_=>ms.box) ?_;clear d K;go_simp;refine dB 21 rfl λK d=>?_;go_simp;have i0:=ck _ _ [(1,1),(1,2)] [(1,1),(1,2)] Bd kz.at l1.at (by decide) (by decide);rw [show decide (([(1,1),(1,2)]:List RK)=[(1,1),(1,2)])=true from by decide] at i0;have up:=a0a i0;clear i0;go_at_call 17;with_reducible refine a0c up.out ?_
          rintro e Cb ⟨rfl,bc⟩;have h8:=a0a (ms.below bc);have BD:=a0a (wu.step (ag.of_below bc));have BE:=a0a (wz.step (ag.of_below bc));have BF:=a0a (l1.step (ag.of_below bc));have BG:=a0a (kz.step (ag.of_below bc));clear bc;refine d _ _ (λ_=>h8.box) ?_;clear d K;go_simp;have c:=tkL [22,23];repeat (refine tkIS c ?_ rfl h8.box ?_ ?_;rotate_left;intro w' h;go_simp;rfl;(try go_simp);replace c:=tkO c)
          clear c;refine dN ?_;go_wp2_with fail
          go_meet;exact ⟨rfl,_,h8⟩
      · go_simp;obtain ⟨d1,f6⟩:∃g,X.alloc (.cells #[.int .i64 1, .int .i64 1, .int .i64 2, .int .i64 1, .int .i64 2, .int .i64 2] 36)=g:=⟨_,rfl⟩;obtain ⟨g8,e9⟩:∃m,X.heap.size=m:=⟨_,rfl⟩;have p0:a0j X.heap.size X d1:=by rw [<- f6];exact (a0d _ X).alloc (a0e _) _
        have q6:d1.heap[g8]? =some (.cells #[.int .i64 1, .int .i64 1, .int .i64 2, .int .i64 1, .int .i64 2, .int .i64 2] 36 (0,0)):=by rw [<- f6, <- e9];exact a0b X _
        have pb:¬cu g8:=λf=>by have r:=a4.out.cat.lt g8 f;have s:X.heap.size=g8:=e9;omega
        have h9:=a0a (a4.below p0);have wB:=a0a (cA.new (F:=cu) (l:=[(1,1),(2,1),(2,2)]) 3 rfl q6 pb);try rw [e9]
        try rw [f6]
        clear f6 e9 p0 q6 pb;refine d _ _ (λ_=>h9.box) ?_;clear d K;go_simp;refine dB 7 rfl λK d=>?_;go_simp;have i2:=en cu d1 B iC h9.cat (by decide+kernel);rw [fm.2.1] at i2;have t5:Hid (a0l a0f 18 #[.pointer (some ⟨B,0,none⟩)] d1 _):=i2;clear i2;go_at_call 18;with_reducible refine a0c t5.out ?_
        rintro e Be ⟨Co,cx,rfl,o2,k8,rr,q7⟩;have l2:=a0a (cA.of_owns (l:=[(1,1),(2,1),(2,2)]) rr q7);clear rr q7;have mt:=a0a (h9.step o2 k8);have l3:=a0a (wB.step k8);clear o2 k8;refine d _ _ (λ_=>mt.box) ?_;clear d K;go_simp;refine dB 12 rfl λK d=>?_;go_simp;have i6:=ck _ _ [(1,1),(2,1),(2,2)] [(1,1),(2,1),(2,2)] Be l2.at l3.at (by decide) (by decide);rw [show decide (([(1,1),(2,1),(2,2)]:List RK)=[(1,1),(2,1),(2,2)])=true from by decide] at i6;have v0:=a0a i6;clear i6;go_at_call 17;with_reducible refine a0c v0.out ?_
        rintro e a0 ⟨rfl,dx⟩;have a6:=a0a (mt.below dx);have l4:=a0a (l3.step (ag.of_below dx));have l5:=a0a (l2.step (ag.of_below dx));clear dx;refine d _ _ (λ_=>a6.box) ?_;clear d K;go_simp;have c:=tkL [13,14];repeat (refine tkIS c ?_ rfl a6.box ?_ ?_;rotate_left;intro w' h;go_simp;rfl;(try go_simp);replace c:=tkO c)
        clear c;have c:=tkL [15,16,18,19];repeat (refine tkIS c ?_ rfl a6.box ?_ ?_;rotate_left;intro w' h;obtain ⟨⟨D,E⟩,⟨G,H⟩,⟨I,J⟩,⟨L,M⟩,A,C,v,x,o,y⟩:=u w' h;go_simp;rfl;(try go_simp);replace c:=tkO c)
        clear c;refine dM (i:=17) (j:=20) rfl rfl (by kernel_rfl) (by rfl) (by rfl) (λK d=>?_) (λK d=>?_)
        · go_simp;have i8:=ce cx a0 B iC a6.cat (by decide+kernel) (1,1) (bF (by decide));rw [fm.2.2] at i8;have t8:Hid (a0l a0f 22 #[.pointer (some ⟨B,0,none⟩), .agg #[.int .i64 1, .int .i64 1]] a0 _):=i8;clear i8;go_at_call 22;with_reducible refine a0c t8.out ?_
          rintro e ao ⟨Cp,kc,rfl,o3,gy,rs,qa⟩;have x0:=a0a (cA.of_owns (l:=[(1,1),(1,2)]) rs qa);clear rs qa;have ha:=a0a (a6.step o3 gy);have x1:=a0a (l4.step gy);have x2:=a0a (l5.step gy);clear o3 gy;refine d _ _ (λ_=>ha.box) ?_;clear d K;go_simp;refine dB 20 rfl λK d=>?_;go_simp;obtain ⟨hw,f8⟩:∃g,ao.alloc (.cells #[.int .i64 1, .int .i64 1, .int .i64 1, .int .i64 2] 36)=g:=⟨_,rfl⟩;obtain ⟨g9,eg⟩:∃m,ao.heap.size=m:=⟨_,rfl⟩;have c4:a0j ao.heap.size ao hw:=by rw [<- f8];exact (a0d _ ao).alloc (a0e _) _
          have qb:hw.heap[g9]? =some (.cells #[.int .i64 1, .int .i64 1, .int .i64 1, .int .i64 2] 36 (0,0)):=by rw [<- f8, <- eg];exact a0b ao _
          have pc:¬kc g9:=λf=>by have r:=ha.out.cat.lt g9 f;have s:ao.heap.size=g9:=eg;omega
          have mv:=a0a (ha.below c4);have x3:=a0a (x1.step (ag.of_below c4));have x4:=a0a (x2.step (ag.of_below c4));have l7:=a0a (x0.step (ag.of_below c4));have l6:=a0a (cA.new (F:=kc) (l:=[(1,1),(1,2)]) 2 rfl qb pc);try rw [eg]
          try rw [f8]
          clear f8 eg c4 qb pc;refine d _ _ (λ_=>mv.box) ?_;clear d K;go_simp;refine dB 21 rfl λK d=>?_;go_simp;have ia:=ck _ _ [(1,1),(1,2)] [(1,1),(1,2)] hw l7.at l6.at (by decide) (by decide);rw [show decide (([(1,1),(1,2)]:List RK)=[(1,1),(1,2)])=true from by decide] at ia;have v1:=a0a ia;clear ia;go_at_call 17;with_reducible refine a0c v1.out ?_
          rintro e Cc ⟨rfl,bk⟩;have hb:=a0a (mv.below bk);have BH:=a0a (x3.step (ag.of_below bk));have BI:=a0a (x4.step (ag.of_below bk));have BJ:=a0a (l7.step (ag.of_below bk));have BK:=a0a (l6.step (ag.of_below bk));clear bk;refine d _ _ (λ_=>hb.box) ?_;clear d K;go_simp;have c:=tkL [22,23];repeat (refine tkIS c ?_ rfl hb.box ?_ ?_;rotate_left;intro w' h;go_simp;rfl;(try go_simp);replace c:=tkO c)
          clear c;refine dN ?_;go_wp2_with fail
          go_meet;exact ⟨rfl,_,hb⟩
        · go_simp;obtain ⟨d2,f9⟩:∃g,a0.alloc (.cells #[.int .i64 1, .int .i64 1, .int .i64 1, .int .i64 2] 36)=g:=⟨_,rfl⟩;obtain ⟨gb,ej⟩:∃m,a0.heap.size=m:=⟨_,rfl⟩;have dy:a0j a0.heap.size a0 d2:=by rw [<- f9];exact (a0d _ a0).alloc (a0e _) _
          have qc:d2.heap[gb]? =some (.cells #[.int .i64 1, .int .i64 1, .int .i64 1, .int .i64 2] 36 (0,0)):=by rw [<- f9, <- ej];exact a0b a0 _
          have pd:¬cx gb:=λf=>by have r:=a6.out.cat.lt gb f;have s:a0.heap.size=gb:=ej;omega
          have hc:=a0a (a6.below dy);have x6:=a0a (l4.step (ag.of_below dy));have x7:=a0a (l5.step (ag.of_below dy));have x5:=a0a (cA.new (F:=cx) (l:=[(1,1),(1,2)]) 2 rfl qc pd);try rw [ej]
          try rw [f9]
          clear f9 ej dy qc pd;refine d _ _ (λ_=>hc.box) ?_;clear d K;go_simp;refine dB 17 rfl λK d=>?_;go_simp;have ib:=ce cx d2 B iC hc.cat (by decide+kernel) (1,1) (bF (by decide));rw [fm.2.2] at ib;have t9:Hid (a0l a0f 22 #[.pointer (some ⟨B,0,none⟩), .agg #[.int .i64 1, .int .i64 1]] d2 _):=ib;clear ib;go_at_call 22;with_reducible refine a0c t9.out ?_
          rintro e Bf ⟨Cq,Bo,rfl,o4,cm,rt,qd⟩;have lb:=a0a (cA.of_owns (l:=[(1,1),(1,2)]) rt qd);clear rt qd;have mP:=a0a (hc.step o4 cm);have xa:=a0a (x6.step cm);have xb:=a0a (x7.step cm);have ld:=a0a (x5.step cm);clear o4 cm;refine d _ _ (λ_=>mP.box) ?_;clear d K;go_simp;refine dB 21 rfl λK d=>?_;go_simp;have it:=ck _ _ [(1,1),(1,2)] [(1,1),(1,2)] Bf lb.at ld.at (by decide) (by decide);rw [show decide (([(1,1),(1,2)]:List RK)=[(1,1),(1,2)])=true from by decide] at it;have v2:=a0a it;clear it;go_at_call 17;with_reducible refine a0c v2.out ?_
          rintro e Cd ⟨rfl,bs⟩;have hd:=a0a (mP.below bs);have BL:=a0a (xa.step (ag.of_below bs));have BM:=a0a (xb.step (ag.of_below bs));have BN:=a0a (ld.step (ag.of_below bs));have BO:=a0a (lb.step (ag.of_below bs));clear bs;refine d _ _ (λ_=>hd.box) ?_;clear d K;go_simp;have c:=tkL [22,23];repeat (refine tkIS c ?_ rfl hd.box ?_ ?_;rotate_left;intro w' h;go_simp;rfl;(try go_simp);replace c:=tkO c)
          clear c;refine dN ?_;go_wp2_with fail
          go_meet;exact ⟨rfl,_,hd⟩
     case rest=>
      obtain ⟨rfl,F,T⟩:=hcut;go_upto_region 16 with fail
      go_cut [10] (λt wx=>t= .bool true/\∃F:Nat->Prop,Hid (SnS B w w1 F wx lZ))
      case first=>
       have n:=a0a (T.below (a0d _ wc).drew);go_wp2_with fail
       refine wT (λW:a0h=>∀q,B+1<=q->q<=B+5->W.heap[q]? =w1.heap[q]?) 999 ?_;have c:=tkL [0,1,2];repeat (refine tkIS c ?_ rfl n.box ?_ ?_;rotate_left;intro w' h;obtain ⟨⟨D,E⟩,⟨G,H⟩,⟨I,J⟩,⟨L,M⟩,A,C,v,x,o,y⟩:=u w' h;go_simp;rfl;(try go_simp);replace c:=tkO c)
       clear c;refine dO 3 rfl λK d=>?_;go_simp;have iv:=tW F wc.drew B iC n.cat (2,2) (2,1) 1 (bF (by decide)) (bF (by decide)) (by unfold i64B;decide);rw [AO] at iv;have ta:Hid (a0l a0f 40 #[.pointer (some ⟨B,0,none⟩), .agg #[.int .i64 2, .int .i64 2], .agg #[.int .i64 2, .int .i64 1], .int .i64 1] wc.drew _):=iv;clear iv;go_at_call 40;with_reducible refine a0c ta.out ?_
       rintro e n9 ⟨rfl,sz,oa,sl⟩;have bY:=a0a (n.step oa sl);clear oa sl;refine d _ _ (λ_=>bY.box) ?_;clear d K;go_simp;have c:=tkL [4,5];repeat (refine tkIS c ?_ rfl bY.box ?_ ?_;rotate_left;intro w' h;go_simp;rfl;(try go_simp);replace c:=tkO c)
       clear c;have c:=tkL [6,7];repeat (refine tkIS c ?_ rfl bY.box ?_ ?_;rotate_left;intro w' h;obtain ⟨⟨D,E⟩,⟨G,H⟩,⟨I,J⟩,⟨L,M⟩,A,C,v,x,o,y⟩:=u w' h;go_simp;rfl;(try go_simp);replace c:=tkO c)
       clear c;refine dB 8 rfl λK d=>?_;go_simp;have iD:=ua sz n9 B wD bY.cat (1,1) 2 (bF (by decide)) (by unfold i64B;decide);rw [AP] at iD;have tb:Hid (a0l a0f 27 #[.pointer (some ⟨B,0,none⟩), .agg #[.int .i64 1, .int .i64 1], .int .i64 2] n9 _):=iD;clear iD;go_at_call 27;with_reducible refine a0c tb.out ?_
       rintro e a1 ⟨rfl,cy,ob,sm⟩;have a8:=a0a (bY.step ob sm);clear ob sm;refine d _ _ (λ_=>a8.box) ?_;clear d K;go_simp;have c:=tkL [9,10,11];repeat (refine tkIS c ?_ rfl a8.box ?_ ?_;rotate_left;intro w' h;go_simp;rfl;(try go_simp);replace c:=tkO c)
       clear c;have c:=tkL [12,14];repeat (refine tkIS c ?_ rfl a8.box ?_ ?_;rotate_left;intro w' h;obtain ⟨⟨D,E⟩,⟨G,H⟩,⟨I,J⟩,⟨L,M⟩,A,C,v,x,o,y⟩:=u w' h;go_simp;rfl;(try go_simp);replace c:=tkO c)
       clear c;refine dM (i:=13) (j:=15) rfl rfl (by kernel_rfl) (by rfl) (by rfl) (λK d=>?_) (λK d=>?_)
       · go_simp;have iF:=en cy a1 B lZ a8.cat (by decide+kernel);rw [dn.2.2.1] at iF;have tc:Hid (a0l a0f 18 #[.pointer (some ⟨B,0,none⟩)] a1 _):=iF;clear iF;go_at_call 18;with_reducible refine a0c tc.out ?_
         rintro e av ⟨Cs,aS,rfl,oc,sp,rx,qe⟩;have xc:=a0a (cA.of_owns (l:=[(1,2)]) rx qe);clear rx qe;have he:=a0a (a8.step oc sp);clear oc sp;refine d _ _ (λ_=>he.box) ?_;clear d K;go_simp;refine dB 15 rfl λK d=>?_;go_simp;obtain ⟨hx,fc⟩:∃g,av.alloc (.cells #[.int .i64 1, .int .i64 2] 36)=g:=⟨_,rfl⟩;obtain ⟨gd,em⟩:∃m,av.heap.size=m:=⟨_,rfl⟩;have hM:a0j av.heap.size av hx:=by rw [<- fc];exact (a0d _ av).alloc (a0e _) _
         have qf:hx.heap[gd]? =some (.cells #[.int .i64 1, .int .i64 2] 36 (0,0)):=by rw [<- fc, <- em];exact a0b av _
         have pe:¬aS gd:=λf=>by have r:=he.out.cat.lt gd f;have s:av.heap.size=gd:=em;omega
         have n0:=a0a (he.below hM);have lf:=a0a (xc.step (ag.of_below hM));have le:=a0a (cA.new (F:=aS) (l:=[(1,2)]) 1 rfl qf pe);try rw [em]
         try rw [fc]
         clear fc em hM qf pe;refine d _ _ (λ_=>n0.box) ?_;clear d K;go_simp;refine dB 16 rfl λK d=>?_;go_simp;have iP:=ck _ _ [(1,2)] [(1,2)] hx lf.at le.at (by decide) (by decide);rw [show decide (([(1,2)]:List RK)=[(1,2)])=true from by decide] at iP;have v3:=a0a iP;clear iP;go_at_call 17;with_reducible refine a0c v3.out ?_
         rintro e a2 ⟨rfl,dz⟩;have a9:=a0a (n0.below dz);have lk:=a0a (lf.step (ag.of_below dz));have lm:=a0a (le.step (ag.of_below dz));clear dz;refine d _ _ (λ_=>a9.box) ?_;clear d K;go_simp;have c:=tkL [17,18];repeat (refine tkIS c ?_ rfl a9.box ?_ ?_;rotate_left;intro w' h;go_simp;rfl;(try go_simp);replace c:=tkO c)
         clear c;have c:=tkL [19,20,22,23,24];repeat (refine tkIS c ?_ rfl a9.box ?_ ?_;rotate_left;intro w' h;obtain ⟨⟨D,E⟩,⟨G,H⟩,⟨I,J⟩,⟨L,M⟩,A,C,v,x,o,y⟩:=u w' h;go_simp;rfl;(try go_simp);replace c:=tkO c)
         clear c;refine dM (i:=21) (j:=25) rfl rfl (by kernel_rfl) (by rfl) (by rfl) (λK d=>?_) (λK d=>?_)
         · go_simp;have iQ:=ce aS a2 B lZ a9.cat (by decide+kernel) (1,2) (bF (by decide));rw [dn.2.2.2] at iQ;have te:Hid (a0l a0f 22 #[.pointer (some ⟨B,0,none⟩), .agg #[.int .i64 1, .int .i64 2]] a2 _):=iQ;clear iQ;go_at_call 22;with_reducible refine a0c te.out ?_
           rintro e ax ⟨Ct,kd,rfl,oi,gz,rW,qk⟩;have xk:=a0a (cA.of_owns (l:=[(1,2),(2,1),(2,2)]) rW qk);clear rW qk;have hg:=a0a (a9.step oi gz);have xs:=a0a (lk.step gz);have xv:=a0a (lm.step gz);clear oi gz;refine d _ _ (λ_=>hg.box) ?_;clear d K;go_simp;refine dB 25 rfl λK d=>?_;go_simp;obtain ⟨hy,fp⟩:∃g,ax.alloc (.cells #[.int .i64 1, .int .i64 2, .int .i64 2, .int .i64 1, .int .i64 2, .int .i64 2] 36)=g:=⟨_,rfl⟩;obtain ⟨gf,eq⟩:∃m,ax.heap.size=m:=⟨_,rfl⟩;have c5:a0j ax.heap.size ax hy:=by rw [<- fp];exact (a0d _ ax).alloc (a0e _) _
           have qs:hy.heap[gf]? =some (.cells #[.int .i64 1, .int .i64 2, .int .i64 2, .int .i64 1, .int .i64 2, .int .i64 2] 36 (0,0)):=by rw [<- fp, <- eq];exact a0b ax _
           have pf:¬kd gf:=λf=>by have r:=hg.out.cat.lt gf f;have s:ax.heap.size=gf:=eq;omega
           have n1:=a0a (hg.below c5);have y0:=a0a (xs.step (ag.of_below c5));have y1:=a0a (xv.step (ag.of_below c5));have lp:=a0a (xk.step (ag.of_below c5));have lo:=a0a (cA.new (F:=kd) (l:=[(1,2),(2,1),(2,2)]) 3 rfl qs pf);try rw [eq]
           try rw [fp]
           clear fp eq c5 qs pf;refine d _ _ (λ_=>n1.box) ?_;clear d K;go_simp;refine dB 26 rfl λK d=>?_;go_simp;have iS:=ck _ _ [(1,2),(2,1),(2,2)] [(1,2),(2,1),(2,2)] hy lp.at lo.at (by decide) (by decide);rw [show decide (([(1,2),(2,1),(2,2)]:List RK)=[(1,2),(2,1),(2,2)])=true from by decide] at iS;have v4:=a0a iS;clear iS;go_at_call 17;with_reducible refine a0c v4.out ?_
           rintro e Ce ⟨rfl,bt⟩;have hh:=a0a (n1.below bt);have BP:=a0a (y0.step (ag.of_below bt));have BQ:=a0a (y1.step (ag.of_below bt));have BR:=a0a (lp.step (ag.of_below bt));have BS:=a0a (lo.step (ag.of_below bt));clear bt;refine d _ _ (λ_=>hh.box) ?_;clear d K;go_simp;have c:=tkL [27,28];repeat (refine tkIS c ?_ rfl hh.box ?_ ?_;rotate_left;intro w' h;go_simp;rfl;(try go_simp);replace c:=tkO c)
           clear c;refine dN ?_;go_wp2_with fail
           go_meet;exact ⟨rfl,_,hh⟩
         · go_simp;obtain ⟨d3,fr⟩:∃g,a2.alloc (.cells #[.int .i64 1, .int .i64 2, .int .i64 2, .int .i64 1, .int .i64 2, .int .i64 2] 36)=g:=⟨_,rfl⟩;obtain ⟨gi,er⟩:∃m,a2.heap.size=m:=⟨_,rfl⟩;have e0:a0j a2.heap.size a2 d3:=by rw [<- fr];exact (a0d _ a2).alloc (a0e _) _
           have qt:d3.heap[gi]? =some (.cells #[.int .i64 1, .int .i64 2, .int .i64 2, .int .i64 1, .int .i64 2, .int .i64 2] 36 (0,0)):=by rw [<- fr, <- er];exact a0b a2 _
           have pk:¬aS gi:=λf=>by have r:=a9.out.cat.lt gi f;have s:a2.heap.size=gi:=er;omega
           have hj:=a0a (a9.below e0);have y4:=a0a (lk.step (ag.of_below e0));have y5:=a0a (lm.step (ag.of_below e0));have y3:=a0a (cA.new (F:=aS) (l:=[(1,2),(2,1),(2,2)]) 3 rfl qt pk);try rw [er]
           try rw [fr]
           clear fr er e0 qt pk;refine d _ _ (λ_=>hj.box) ?_;clear d K;go_simp;refine dB 21 rfl λK d=>?_;go_simp;have j0:=ce aS d3 B lZ hj.cat (by decide+kernel) (1,2) (bF (by decide));rw [dn.2.2.2] at j0;have tf:Hid (a0l a0f 22 #[.pointer (some ⟨B,0,none⟩), .agg #[.int .i64 1, .int .i64 2]] d3 _):=j0;clear j0;go_at_call 22;with_reducible refine a0c tf.out ?_
           rintro e Bg ⟨Cu,Bp,rfl,oj,cp,s0,qv⟩;have ls:=a0a (cA.of_owns (l:=[(1,2),(2,1),(2,2)]) s0 qv);clear s0 qv;have n2:=a0a (hj.step oj cp);have y7:=a0a (y4.step cp);have y8:=a0a (y5.step cp);have lv:=a0a (y3.step cp);clear oj cp;refine d _ _ (λ_=>n2.box) ?_;clear d K;go_simp;refine dB 26 rfl λK d=>?_;go_simp;have j1:=ck _ _ [(1,2),(2,1),(2,2)] [(1,2),(2,1),(2,2)] Bg ls.at lv.at (by decide) (by decide);rw [show decide (([(1,2),(2,1),(2,2)]:List RK)=[(1,2),(2,1),(2,2)])=true from by decide] at j1;have v5:=a0a j1;clear j1;go_at_call 17;with_reducible refine a0c v5.out ?_
           rintro e Cf ⟨rfl,bv⟩;have hl:=a0a (n2.below bv);have BT:=a0a (y7.step (ag.of_below bv));have BU:=a0a (y8.step (ag.of_below bv));have BV:=a0a (lv.step (ag.of_below bv));have BW:=a0a (ls.step (ag.of_below bv));clear bv;refine d _ _ (λ_=>hl.box) ?_;clear d K;go_simp;have c:=tkL [27,28];repeat (refine tkIS c ?_ rfl hl.box ?_ ?_;rotate_left;intro w' h;go_simp;rfl;(try go_simp);replace c:=tkO c)
           clear c;refine dN ?_;go_wp2_with fail
           go_meet;exact ⟨rfl,_,hl⟩
       · go_simp;obtain ⟨d4,fs⟩:∃g,a1.alloc (.cells #[.int .i64 1, .int .i64 2] 36)=g:=⟨_,rfl⟩;obtain ⟨gp,ex⟩:∃m,a1.heap.size=m:=⟨_,rfl⟩;have p1:a0j a1.heap.size a1 d4:=by rw [<- fs];exact (a0d _ a1).alloc (a0e _) _
         have qx:d4.heap[gp]? =some (.cells #[.int .i64 1, .int .i64 2] 36 (0,0)):=by rw [<- fs, <- ex];exact a0b a1 _
         have pt:¬cy gp:=λf=>by have r:=a8.out.cat.lt gp f;have s:a1.heap.size=gp:=ex;omega
         have hm:=a0a (a8.below p1);have y9:=a0a (cA.new (F:=cy) (l:=[(1,2)]) 1 rfl qx pt);try rw [ex]
         try rw [fs]
         clear fs ex p1 qx pt;refine d _ _ (λ_=>hm.box) ?_;clear d K;go_simp;refine dB 13 rfl λK d=>?_;go_simp;have j2:=en cy d4 B lZ hm.cat (by decide+kernel);rw [dn.2.2.1] at j2;have th:Hid (a0l a0f 18 #[.pointer (some ⟨B,0,none⟩)] d4 _):=j2;clear j2;go_at_call 18;with_reducible refine a0c th.out ?_
         rintro e Bh ⟨Cv,cz,rfl,ok,ka,s1,qy⟩;have lx:=a0a (cA.of_owns (l:=[(1,2)]) s1 qy);clear s1 qy;have n3:=a0a (hm.step ok ka);have lB:=a0a (y9.step ka);clear ok ka;refine d _ _ (λ_=>n3.box) ?_;clear d K;go_simp;refine dB 16 rfl λK d=>?_;go_simp;have j3:=ck _ _ [(1,2)] [(1,2)] Bh lx.at lB.at (by decide) (by decide);rw [show decide (([(1,2)]:List RK)=[(1,2)])=true from by decide] at j3;have v7:=a0a j3;clear j3;go_at_call 17;with_reducible refine a0c v7.out ?_
         rintro e a3 ⟨rfl,e2⟩;have ac:=a0a (n3.below e2);have lE:=a0a (lB.step (ag.of_below e2));have lP:=a0a (lx.step (ag.of_below e2));clear e2;refine d _ _ (λ_=>ac.box) ?_;clear d K;go_simp;have c:=tkL [17,18];repeat (refine tkIS c ?_ rfl ac.box ?_ ?_;rotate_left;intro w' h;go_simp;rfl;(try go_simp);replace c:=tkO c)
         clear c;have c:=tkL [19,20,22,23,24];repeat (refine tkIS c ?_ rfl ac.box ?_ ?_;rotate_left;intro w' h;obtain ⟨⟨D,E⟩,⟨G,H⟩,⟨I,J⟩,⟨L,M⟩,A,C,v,x,o,y⟩:=u w' h;go_simp;rfl;(try go_simp);replace c:=tkO c)
         clear c;refine dM (i:=21) (j:=25) rfl rfl (by kernel_rfl) (by rfl) (by rfl) (λK d=>?_) (λK d=>?_)
         · go_simp;have j4:=ce cz a3 B lZ ac.cat (by decide+kernel) (1,2) (bF (by decide));rw [dn.2.2.2] at j4;have tk:Hid (a0l a0f 22 #[.pointer (some ⟨B,0,none⟩), .agg #[.int .i64 1, .int .i64 2]] a3 _):=j4;clear j4;go_at_call 22;with_reducible refine a0c tk.out ?_
           rintro e ay ⟨Cw,kl,rfl,op,gO,s2,r0⟩;have ys:=a0a (cA.of_owns (l:=[(1,2),(2,1),(2,2)]) s2 r0);clear s2 r0;have hn:=a0a (ac.step op gO);have z0:=a0a (lE.step gO);have z9:=a0a (lP.step gO);clear op gO;refine d _ _ (λ_=>hn.box) ?_;clear d K;go_simp;refine dB 25 rfl λK d=>?_;go_simp;obtain ⟨hA,fx⟩:∃g,ay.alloc (.cells #[.int .i64 1, .int .i64 2, .int .i64 2, .int .i64 1, .int .i64 2, .int .i64 2] 36)=g:=⟨_,rfl⟩;obtain ⟨gq,eQ⟩:∃m,ay.heap.size=m:=⟨_,rfl⟩;have c6:a0j ay.heap.size ay hA:=by rw [<- fx];exact (a0d _ ay).alloc (a0e _) _
           have r1:hA.heap[gq]? =some (.cells #[.int .i64 1, .int .i64 2, .int .i64 2, .int .i64 1, .int .i64 2, .int .i64 2] 36 (0,0)):=by rw [<- fx, <- eQ];exact a0b ay _
           have pv:¬kl gq:=λf=>by have r:=hn.out.cat.lt gq f;have s:ay.heap.size=gq:=eQ;omega
           have n5:=a0a (hn.below c6);have zd:=a0a (z0.step (ag.of_below c6));have zp:=a0a (z9.step (ag.of_below c6));have lT:=a0a (ys.step (ag.of_below c6));have lQ:=a0a (cA.new (F:=kl) (l:=[(1,2),(2,1),(2,2)]) 3 rfl r1 pv);try rw [eQ]
           try rw [fx]
           clear fx eQ c6 r1 pv;refine d _ _ (λ_=>n5.box) ?_;clear d K;go_simp;refine dB 26 rfl λK d=>?_;go_simp;have ja:=ck _ _ [(1,2),(2,1),(2,2)] [(1,2),(2,1),(2,2)] hA lT.at lQ.at (by decide) (by decide);rw [show decide (([(1,2),(2,1),(2,2)]:List RK)=[(1,2),(2,1),(2,2)])=true from by decide] at ja;have v9:=a0a ja;clear ja;go_at_call 17;with_reducible refine a0c v9.out ?_
           rintro e Cg ⟨rfl,bw⟩;have ho:=a0a (n5.below bw);have BX:=a0a (zd.step (ag.of_below bw));have BY:=a0a (zp.step (ag.of_below bw));have BZ:=a0a (lT.step (ag.of_below bw));have C0:=a0a (lQ.step (ag.of_below bw));clear bw;refine d _ _ (λ_=>ho.box) ?_;clear d K;go_simp;have c:=tkL [27,28];repeat (refine tkIS c ?_ rfl ho.box ?_ ?_;rotate_left;intro w' h;go_simp;rfl;(try go_simp);replace c:=tkO c)
           clear c;refine dN ?_;go_wp2_with fail
           go_meet;exact ⟨rfl,_,ho⟩
         · go_simp;obtain ⟨d5,fy⟩:∃g,a3.alloc (.cells #[.int .i64 1, .int .i64 2, .int .i64 2, .int .i64 1, .int .i64 2, .int .i64 2] 36)=g:=⟨_,rfl⟩;obtain ⟨gs,f0⟩:∃m,a3.heap.size=m:=⟨_,rfl⟩;have e3:a0j a3.heap.size a3 d5:=by rw [<- fy];exact (a0d _ a3).alloc (a0e _) _
           have r2:d5.heap[gs]? =some (.cells #[.int .i64 1, .int .i64 2, .int .i64 2, .int .i64 1, .int .i64 2, .int .i64 2] 36 (0,0)):=by rw [<- fy, <- f0];exact a0b a3 _
           have px:¬cz gs:=λf=>by have r:=ac.out.cat.lt gs f;have s:a3.heap.size=gs:=f0;omega
           have hp:=a0a (ac.below e3);have A1:=a0a (lE.step (ag.of_below e3));have A2:=a0a (lP.step (ag.of_below e3));have zz:=a0a (cA.new (F:=cz) (l:=[(1,2),(2,1),(2,2)]) 3 rfl r2 px);try rw [f0]
           try rw [fy]
           clear fy f0 e3 r2 px;refine d _ _ (λ_=>hp.box) ?_;clear d K;go_simp;refine dB 21 rfl λK d=>?_;go_simp;have jb:=ce cz d5 B lZ hp.cat (by decide+kernel) (1,2) (bF (by decide));rw [dn.2.2.2] at jb;have tl:Hid (a0l a0f 22 #[.pointer (some ⟨B,0,none⟩), .agg #[.int .i64 1, .int .i64 2]] d5 _):=jb;clear jb;go_at_call 22;with_reducible refine a0c tl.out ?_
           rintro e Bi ⟨Cx,Bq,rfl,os,cq,s3,r4⟩;have ma:=a0a (cA.of_owns (l:=[(1,2),(2,1),(2,2)]) s3 r4);clear s3 r4;have n6:=a0a (hp.step os cq);have Ac:=a0a (A1.step cq);have As:=a0a (A2.step cq);have mb:=a0a (zz.step cq);clear os cq;refine d _ _ (λ_=>n6.box) ?_;clear d K;go_simp;refine dB 26 rfl λK d=>?_;go_simp;have jn:=ck _ _ [(1,2),(2,1),(2,2)] [(1,2),(2,1),(2,2)] Bi ma.at mb.at (by decide) (by decide);rw [show decide (([(1,2),(2,1),(2,2)]:List RK)=[(1,2),(2,1),(2,2)])=true from by decide] at jn;have va:=a0a jn;clear jn;go_at_call 17;with_reducible refine a0c va.out ?_
           rintro e Ci ⟨rfl,bA⟩;have hq:=a0a (n6.below bA);have C1:=a0a (Ac.step (ag.of_below bA));have C2:=a0a (As.step (ag.of_below bA));have C3:=a0a (mb.step (ag.of_below bA));have C4:=a0a (ma.step (ag.of_below bA));clear bA;refine d _ _ (λ_=>hq.box) ?_;clear d K;go_simp;have c:=tkL [27,28];repeat (refine tkIS c ?_ rfl hq.box ?_ ?_;rotate_left;intro w' h;go_simp;rfl;(try go_simp);replace c:=tkO c)
           clear c;refine dN ?_;go_wp2_with fail
           go_meet;exact ⟨rfl,_,hq⟩
      case rest=>
       obtain ⟨rfl,F,T⟩:=hcut;go_wp2_with fail
       refine a0k (results_tmp rfl _ _ _) rfl ⟨rfl,T.b⟩
end
end Go.Proofs.YtjcimanddakkaaaGreatDoor
