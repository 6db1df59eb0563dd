/- Lemmas. -/
import Derived.Test.YtjcimanddakkaaaGreatDoorCQ15
import Derived.Test.YtjcimanddakkaaaGreatDoorCQ18
set_option maxRecDepth 100000
set_option maxHeartbeats 8000000
namespace Go.Proofs.YtjcimanddakkaaaGreatDoor
open _root_.Option renaming none→Y,some→X
open Go.Value renaming int→J,slice→hb,bool→hc,pointer→hh
open Go.IntKind renaming u8→a1,i64→U
open Go.Ending renaming returned→fn
open Go.Obj renaming cells→fs
open Go.Lib renaming hid→Z
open Tryz
open _root_.List renaming length_append→hj,length_mergeSort→hk,length_cons→ho,length_nil→hu,map_append→hJ,append_nil→hL,take_of_length_le→hN
open _root_.Nat renaming le_refl→hm,lt_of_lt_of_le→hy,le_trans→hA,one_pos→hP
open Go.World renaming alloc_heap_new→hn,size_alloc→hH,size_setCell→hO
open Go.RowKit.Below renaming refl→hB
open Go renaming wpListIn_append_own_at→hF
open Go.Value renaming oneCell'→hM
section
open Go.RowKit Go.Maps Go.Shelf
attribute [local go_sem] Oper.semAt_some
theorem jS(a:List af)(h:bo a):(aK a).length<=10000000:=by
 unfold aK dA;have b:=cE h ck [97,98];generalize textF (firstF a ck) [97,98]=t at*;generalize yr (firstF a ck)=k;have c:(t.drop k).length<=1000000:=by rw[List.length_drop];omega
 have:=iZ (wordsR (t.drop k));have:=fq (t.drop k);have:=dW (t.drop k);omega
structure qI(W0:World)(D:Nat)(z:Bs)(M:Nat->Prop)(W:World):Prop where
 os:W.os=W0.os
 tape:W.tape=W0.tape
 output:W.output=W0.output
 size:W0.heap.size<=W.heap.size
 block:∀k,k<W0.heap.size->k≠D->W.heap[k]?=W0.heap[k]?
 d:W.heap[D]?=some (.cells #[S z] 9 (0,0))
 m:∀k,M k->k<W.heap.size/\W0.heap.size<=k
theorem qI.turn{b:World}{D:Nat}(l:D<b.heap.size){z:Bs}{M g:Nat->Prop}{c i:World}(h:qI b D z M c)(t:de b.heap.size M c g i):qI b D z g i:=by
 have n:D<c.heap.size:=hy l h.size;refine⟨t.os.trans h.os,t.tape.trans h.tape,t.output.trans h.output,hA h.size t.size,λk a o=>(t.block k (hy a h.size) (λf=>by have:=(h.m k f).2;omega) (λj=>by omega)).trans (h.block k a o),(t.block D n (λf=>by have:=(h.m D f).2;omega) (λj=>by omega)).trans h.d,λk a=>⟨t.lt k a,?_⟩⟩;rcases t.new k a with e|e
 .exact(h.m k e).2
 exact hA h.size e
theorem qI.set{b:World}{D:Nat}{z:Bs}{M:Nat->Prop}{W:World}(h:qI b D z M W)(x:Bs):qI b D x M (W.setCell ⟨D,0,Y⟩ (S x)):=
 ⟨h.os,h.tape,h.output,by rw[hO];exact h.size,λk a c=>(Below.heap_setCell _ _ _ _ c).trans (h.block k a c),(aq h.d 0 _).trans rfl,λk a=>by rw[hO];exact h.m k a⟩
theorem BK(k l:UInt8)(x:Value)(a:List af)(w:World)(hs:ag 0 w.heap.size w x a)(a6:bo a):
 Calls prog 130 #[.agg #[J a1 k.toNat,J a1 l.toNat,x]] w λe w'=>∃v,e=fn v/\w'.ownsRow w.heap.size 9 1 v (keysR a).length ((keysR a).map λs=>S s)/\Bw w w':=by
 obtain⟨w1,bt⟩:=Qe (w.alloc (fs #[J a1 k.toNat,J a1 l.toNat,x] 62));have cP:Bw w w1:=by rw[<- bt];exact(hB _ w).alloc (hm _) _
 have hR:=hn w (fs #[J a1 k.toNat,J a1 l.toNat,x] 62);rw[bt]at hR;have d8:Hid (∀W,Bw w W->ag 0 W.heap.size W x a):=λW N=>(eW hs (hm _) N).mono (hm _) N.size;have f5:Hid (∀W,Bw w W->ag 0 w.heap.size W x a):=λW N=>hs.kept (λg _ hg=>N.block g hg);have HT:Hid (∀W,Bw w W->Calls prog 178 #[.agg #[J a1 k.toNat,J a1 l.toNat,x]] W λe w'=>e=fn (S (aK a))/\Bw W w'):=λW N=>nN k l x a W (d8 W N) a6;have b8:=Z a6;have HX:=Z (λW(N:Bw w W)=>qT k l x a [49,48,48] [97] W (d8 W N) a6);obtain⟨a0,c0,rfl⟩:=hs.shape;have h2:=a6.1;have HR:=Z hR;have ex:=Z cP;have bw:w1.heap.size=w.heap.size+1:=by rw[<- bt];simp
 have fp:=Z bw;have fc:=Z bt;clear hs a6 cP hR bw bt;obtain⟨i0,hi,au,bw,er⟩:=info_parts i9;have HI:=Z hi;have cb:=Z au;have cc:=Z bw;have cd:=Z er;clear hi au bw er;refine(callsIn_wide (n:=10)).1 ?_;refine callsIn_of_wp_marks func130 rfl trivial ?_ rfl;simp only[ntmps130,List.size_toArray,ho,hu,Nat.reduceAdd,Nat.reduceSub,Array.replicate_succ,Array.replicate_zero,List.push_toArray,List.append_toArray,List.nil_append,List.cons_append];gi_wp2
 rw[fc.o];have cx:Hid (∀W,Below (w.heap.size+1) w1 W->Bw w W/\W.cell? ⟨w.heap.size,0,Y⟩=X (J a1 k.toNat)/\W.cell? ⟨w.heap.size,1,Y⟩=X (J a1 l.toNat)/\W.cell? ⟨w.heap.size,2,Y⟩=X (hb a0 a.length c0)):=λW N=>by have h:=(N.block w.heap.size (by omega)).trans HR.o;exact⟨ex.o.trans (N.mono (by omega)),(aa h 0).trans rfl,(aa h 1).trans rfl,(aa h 2).trans rfl⟩
 gi_loopw [3,18] (λv i wr=>∃q:Nat,q<=a.length/\i=J U q/\Hid (wr.ownsRow (w.heap.size+1) 9 1 v ((booksR (a.take q)).map isbnK).length (((booksR (a.take q)).map isbnK).map λs=>S s))/\Hid (Below (w.heap.size+1) w1 wr)/\w.heap.size+1<=wr.heap.size) (λ_ i _=>a.length-(intOf i).toNat)
 case atStart=>exact⟨0,Nat.zero_le _,rfl,World.ownsRow_nil _ _ _ _,hB _ _,by have:=fp.o;omega⟩
 obtain⟨q,hq,rfl,HO,HB,hz⟩:=hrel;by_cases hlt:q<a.length
 .have a4:=(cx wr HB.o).1;have ej:ag 0 w.heap.size wr (hb a0 a.length c0) a:=f5 _ a4;have h6:w.heap.size<=wr.heap.size:=a4.size;obtain⟨b,h8,gx,d,hv,cP,gP,e0,e1,e2,e3,d2⟩:=ej.field q hlt;cases hv;have a6:=b8.2 _ (List.getElem_mem hlt);have HN:=Z (mV a q hlt);rw[ic]at HN;have h4:a[q].subs.length<=1000000:=hA (ci _) a6;have f6:Hid (∀s∈a[q].subs,s.text.length<=1000000):=λs hs=>iR a6 hs;obtain⟨da,dc,rfl,_⟩:=id d2;have f7:=Z d2;have g3:=dl a q b8.o;clear d2 ej a6 a4;generalize a[q].tag=TG at*;generalize a[q].ind=IN at*;generalize a[q].data=DT at*;generalize a[q].subs=ss at*;by_cases hTG:TG=[48,50,48];rotate_left
  .have P:Hid (booksR (a.take (q+1))=booksR (a.take q)):=by unfold Hid;rw[HN.o];unfold bookS;rw[if_neg (show¬TG=cZ from hTG),hL]
   have b1:(TG !=[48,50,48])=true:=by simpa using hTG
   have b2:(TG==[48,50,48])=false:=by simpa using hTG
   gi_wp2
   go_roundw;exact⟨q+1,hlt,by go_num,by unfold Hid;rw[P.o];exact ai HO.o (λg hg=>(bm wr _).block g (HO.o.lt g hg).2),HB.o.trans ((bm wr _).mono hz),by simp;omega⟩;simp[intOf];omega
  subst hTG;obtain⟨R,hR⟩:=Qe wr.heap.size;obtain⟨wq,bv⟩:=Qe (wr.alloc (fs #[S [48,50,48],S IN,S DT,hb da ss.length dc] 123));have c6:Bw wr wq:=by rw[<- bv];exact(hB _ wr).alloc (hm _) _
  have e6:wq.heap[R]?=X (fs #[S [48,50,48],S IN,S DT,hb da ss.length dc] 123 (0,0)):=by rw[<- bv,<- hR];exact hn wr _
  have f1:=Z e6;have f0:Hid (Below (w.heap.size+1) w1 wq):=HB.trans (c6.mono hz);have f2:Hid (wq.ownsRow (w.heap.size+1) 9 1 u3 ((booksR (a.take q)).map isbnK).length (((booksR (a.take q)).map isbnK).map λs=>S s)):=ai HO.o (λg hg=>c6.block g (HO.lt g hg).2);have f8:Hid (aw 0 w.heap.size wq (hb da ss.length dc) ss):=f7.o.kept (λg _ hg=>c6.block g (by omega));have es:wq.heap.size=R+1:=by rw[<- bv,<- hR];simp
  have fr:=Z es;have f4:=Z hR;have fl:=Z bv;have h5:w.heap.size+1<=R:=by omega
  clear bv c6 e6 es hR;gi_wp2
  rw[fl.o,f4.o];gi_loopw [3,28] (λv j wr=>∃p:Nat,p<=ss.length/\j=J U p/\Hid (wr.ownsRow (w.heap.size+1) 9 1 v ((booksR (a.take q)++bookS [48,50,48] (ss.take p)).map isbnK).length (((booksR (a.take q)++bookS [48,50,48] (ss.take p)).map isbnK).map λs=>S s))/\Hid (Below (w.heap.size+1) w1 wr)/\Hid (wr.heap[R]?=X (fs #[S [48,50,48],S IN,S DT,hb da ss.length dc] 123 (0,0)))/\Hid (aw 0 w.heap.size wr (hb da ss.length dc) ss)/\R+1<=wr.heap.size) (λ_ j _=>ss.length-(intOf j).toNat)
  case atStart=>exact⟨0,Nat.zero_le _,rfl,by
   have e:booksR (a.take q)++bookS [48,50,48] (ss.take 0)=booksR (a.take q):=by unfold bookS;simp
   rw[e];exact f2,f0,f1,f8,by have:=fr.o;omega⟩
  obtain⟨p,hp,rfl,a2,bY,a7,c4,gO⟩:=hrel;by_cases hlp:p<ss.length;rotate_left
  .have P:Hid ((booksR (a.take (q+1))).map isbnK=(booksR (a.take q)++bookS [48,50,48] (ss.take p)).map isbnK):=by unfold Hid;rw[HN.o,show ss.take p=ss from hN (by omega)]
   gi_wp2
   go_roundw;exact⟨q+1,hlt,by go_num,by unfold Hid;rw[P.o];exact a2.o,bY.o,by omega⟩;simp[intOf];omega
  obtain⟨b',h9,gy,hv,_,gQ,d0,d1⟩:=c4.sub p hlp;cases hv;have cs:=Z (gr [48,50,48] ss p hlp);have d3:=f6 _ (List.getElem_mem hlp);generalize ss[p].code=C at*;generalize ss[p].text=A at*;have h0:b'<wr.heap.size:=by omega
  have d9:Hid ((bookS [48,50,48] (ss.take p)).length<=1000000):=by have h1:=fL [48,50,48] (ss.take p);rw[List.length_take]at h1;unfold Hid;omega
  obtain⟨f,a9⟩:=Qe (booksR (a.take q)++bookS [48,50,48] (ss.take p));have e7:f.length<=2000000000000:=by have:=g3;have:=d9.o;rw[<- a9,hj];omega
  rw[a9]at a2;have cn:=Z a9;clear a9 d9;obtain⟨LK,c5⟩:=Qe (f.map isbnK);rw[c5]at a2;have gz:LK.length<=2000000000000:=by rw[<- c5,List.length_map];exact e7
  have cq:=Z c5;clear c5 e7;cases hI:isbnR A with
  |none=>
   have c2:Hid (∀W,Calls prog 180 #[S A] W λe w'=>e=fn (.tuple #[S [],hc false])/\Bw W w'):=λW=>by have:=jF A W (by omega);rw[hI]at this;exact this
   have P:Hid ((booksR (a.take q)++bookS [48,50,48] (ss.take (p+1))).map isbnK=LK):=by unfold Hid;rw[cs.o,hI,<- cq.o,<- cn.o];split<;>simp
   clear hI;gi_wp2_with (refine⟨trivial,?_⟩;gi_at_call 180;refine(callsIn_wide.2 (c2.o _)).mono ?_;rintro e H⟨rfl,u⟩;have a5:Bw wr H:=(bm wr _).trans (u.mono (by simp));have E:=Z a5;clear a5 u)
   go_roundw;exact⟨p+1,hlp,by go_num,by unfold Hid;rw[P.o];exact ai a2.o (λg hg=>E.o.block g (a2.o.lt g hg).2),bY.o.trans (E.o.mono (by omega)),(E.o.block _ (ae a7.o)).trans a7.o,c4.o.kept (λg _ hg=>E.o.block g (by omega)),by have:=E.o.size;omega⟩;simp[intOf];omega
  |some n=>
   have c2:Hid (∀W,Calls prog 180 #[S A] W λe w'=>e=fn (.tuple #[S n,hc true])/\Bw W w'):=λW=>by have:=jF A W (by omega);rw[hI]at this;exact this
   have h3:n.length<=13:=ed hI;by_cases hC:C=97;rotate_left
   .have fz:((C.toNat:Int)==97)=false:=by have:C.toNat≠97:=λh=>hC (UInt8.toNat_inj.1 h);simp;omega
    have P:Hid ((booksR (a.take q)++bookS [48,50,48] (ss.take (p+1))).map isbnK=LK):=by unfold Hid;rw[cs.o,<- cq.o,<- cn.o,if_neg (λh=>hC h.2),hL]
    clear hI hC;gi_wp2_with (refine⟨trivial,?_⟩;gi_at_call 180;refine(callsIn_wide.2 (c2.o _)).mono ?_;rintro e H⟨rfl,u⟩;have a5:Bw wr H:=(bm wr _).trans (u.mono (by simp));have z0:=((an u).1 wr.heap.size 0 (by simp));have E:=Z a5;clear a5 u)
    go_roundw;exact⟨p+1,hlp,by go_num,by unfold Hid;rw[P.o];exact ai a2.o (λg hg=>E.o.block g (a2.o.lt g hg).2),bY.o.trans (E.o.mono (by omega)),(E.o.block _ (ae a7.o)).trans a7.o,c4.o.kept (λg _ hg=>E.o.block g (by omega)),by have:=E.o.size;omega⟩;simp[intOf];omega
   have fz:((C.toNat:Int)==97)=true:=by rw[hC];rfl
   have P:Hid ((booksR (a.take q)++bookS [48,50,48] (ss.take (p+1))).map isbnK=LK++[[105,115,98,110,32]++n]):=by unfold Hid;rw[cs.o,hI,<- cq.o,<- cn.o,if_pos ⟨rfl,hC⟩];simp[isbnK]
   have s1:¬9223372036854775807<5+n.length:=by omega
   clear hI hC
   gi_wp2_with (first
    |(refine⟨trivial,?_⟩;gi_at_call 180;refine(callsIn_wide.2 (c2.o _)).mono ?_;rintro e H⟨rfl,u⟩;have a5:Bw wr H:=(bm wr _).trans (u.mono (by simp));have z0:=((an u).1 wr.heap.size 0 (by simp));have a8:Hid (H.ownsRow (w.heap.size+1) 9 1 u3 LK.length (LK.map λs=>S s)):=ai a2.o (λg hg=>a5.block g (a2.o.lt g hg).2);have E:=Z a5;clear a5 u)
    |(gi_at_builtin;(refine hF _ rfl _ _ 81 rfl (w.heap.size+1) 9 i0 (.string ⟨#[]⟩) 1 16 underlying81 HI.o cb.o cc.o cd.o rfl hP u3 LK.length (LK.map λs=>S s) ?_ ?_ ⟨H.heap.size,0,Y⟩ 1 1 [S ([105,115,98,110,32]++n)] ?_ ?_ ?_ ?_ ?_ ?_ ?_ ?_);(focus rfl);(focus exact(a8.o.alloc _));(focus rfl);(focus rfl);(focus exact cell_one_new _ _ _);(focus simp[hM]);(focus (unfold maxLen;omega));(focus omega);(focus (have:=E.o.size;simp;omega));intro v' r ao al _ _;have av:=Z ao;have Q:Bw wr (H.alloc (fs #[S ([105,115,98,110,32]++n)] 9)):=E.o.alloc E.o.size _;have c1:=Z al;have O:=Z Q;clear ao al Q))
   go_roundw
   case rel=>
    have Q:Below (w.heap.size+1) w1 r:=(bY.o.trans (O.o.mono (by omega))).grown c1.o (by have:=O.o.size;omega) (λg hg=>(a8.o.lt g hg).1);have h7:wr.heap.size<=r.heap.size:=hA O.size c1.size;have g2:r.heap[R]?=wr.heap[R]?:=by
     have hl:=hy (ae a7.o) O.size;rw[c1.o.block R hl (λe=>?_)]
     .exact O.block _ (ae a7.o)
     obtain⟨dz,B⟩:=aH a2.o e.symm;rw[a7.o]at B;injection B with B
     injection B with _ B
     exact absurd B (by decide)
    refine⟨p+1,hlp,by go_num,?_,Q,g2.trans a7.o,c4.o.kept (λg _ hg=>?_),by omega⟩
    .unfold Hid;rw[P.o,hj,hJ];exact av.o
    rw[c1.o.block g (hy (show g<wr.heap.size by omega) O.o.size) (λe=>by have:=(a8.o.lt g e.symm).1;omega)];exact O.o.block g (by omega)
   simp[intOf];omega
 have P:Hid ((booksR (a.take q)).map isbnK=(booksR a).map isbnK):=by unfold Hid;rw[hN (by omega)]
 rw[P.o]at HO;obtain⟨a4,r0,r1,r2⟩:=cx wr HB.o;have fx:((booksR a).map isbnK).length<=1000000000000:=by rw[List.length_map];have:=dl a a.length b8.o;rwa[List.take_length]at this
 obtain⟨f,a9⟩:=Qe ((booksR a).map isbnK);rw[a9]at HO fx;have cv:Hid (rawR a=f++(if aK a=[]then[]else[jT a])):=by unfold Hid rawR;rw[a9]
 have dk:=Z (HT wr a4);have ds:Hid (jT a=[116,105,116,108,101,32]++aK a++[32,47,32]++(bh a).headD []):=rfl;have cm:Hid (keysR a=Lib.compact ((rawR a).mergeSort λx y=>decide (x<=y))):=rfl;have bO:=Z a4;have cy:=Z (λW(N:Bw wr W)=>HX W (a4.trans (N.mono a4.size)));have c7:Hid (bh a=wordsR (textF (firstF a [49,48,48]) [97])):=rfl;have dx:=Z (cE b8.o [49,48,48] [97]);clear a9 a4 HX HT;have f9:=Z (jS a b8.o);generalize aK a=o at*;rcases o with _|⟨t,o⟩
 .have f3:Hid (rawR a=f):=by unfold Hid;rw[cv.o,if_pos rfl,hL]
  have b0:=Z (λW(h:W.ownsRow (w.heap.size+1) 9 1 u3 f.length (f.map λs=>S s))=>lX (w.heap.size+1) W u3 f h (by omega));have b3:=Z (λW(h:W.ownsRow (w.heap.size+1) 9 1 u3 f.length ((f.mergeSort λx y=>decide (x<=y)).map λs=>S s))=>gZ (w.heap.size+1) W u3 (f.mergeSort λx y=>decide (x<=y)) (by rw[hk];exact h) (by rw[hk];omega))
  gi_wp2_with (first
   |(refine⟨trivial,?_⟩;gi_at_call 178;refine(callsIn_wide.2 dk.o).mono ?_;rintro e H⟨rfl,u⟩;have a8:Hid (H.ownsRow (w.heap.size+1) 9 1 u3 f.length (f.map λs=>S s)):=ai HO.o (λg hg=>u.block g (HO.lt g hg).2);have bB:=Z u;clear u)
   |(refine⟨trivial,?_⟩;gi_at_call 186;refine(callsIn_wide.2 (b0 _ a8.o)).mono ?_;rintro e r⟨rfl,e9,Q,_⟩;have av:=Z e9;have O:=Z Q;clear e9 Q)
   |(refine⟨trivial,?_⟩;gi_at_call 187;refine(callsIn_wide.2 (b3 _ av.o)).mono ?_;rintro e w5⟨v',rfl,eg,ac,_⟩;have ax:=Z eg;have eQ:=Z ac;clear eg ac))
  refine⟨_,results_tmp rfl _ _ _,?_⟩;have fy:=bO.size;have u:Bw w H:=bO.trans (bB.mono fy);have ac:Bw w w5:=(u.trans (O.o.mono (by omega))).trans (eQ.o.mono (by omega));refine⟨v',rfl,?_,ac⟩;rw[cm.o,f3.o];exact aD ax.o (by omega)
 have d3:(t::o).length<=10000000:=f9.o;obtain⟨V,em⟩:=Qe (textF (firstF a [49,48,48]) [97]);rw[em]at cy c7 dx;have g9:V.length<=1000000:=dx.o;unfold gH at cy;generalize(firstF a [49,48,48]).getD zeroF=g at*;obtain⟨gt,gi,gd,gs⟩:=g;clear em
 gi_wp2_with (first
  |(refine⟨trivial,?_⟩;gi_at_call 178;refine(callsIn_wide.2 dk.o).mono ?_;rintro e H⟨rfl,u⟩;obtain⟨_,ha,hd,he⟩:=cx H (HB.trans (u.mono hz));have a8:Hid (H.ownsRow (w.heap.size+1) 9 1 u3 f.length (f.map λs=>S s)):=ai HO.o (λg hg=>u.block g (HO.lt g hg).2);have fb:=Z (cy H u);have bB:=Z u;clear u)
  |(refine⟨trivial,?_⟩;gi_at_call 184;refine(callsIn_wide.2 fb.o).mono ?_;rintro e r⟨⟨v,rfl,dd,rfl,ad,cp,rfl,_⟩,Q⟩;have av:Hid (r.ownsRow (w.heap.size+1) 9 1 u3 f.length (f.map λs=>S s)):=ai a8.o (λg hg=>Q.block g (a8.lt g hg).2);have O:Hid (Bw wr r):=bB.trans (Q.mono bB.size);clear Q)
  |(refine⟨trivial,?_⟩;gi_at_call 185;refine(callsIn_wide.2 (jP V _)).mono ?_;rintro e w1⟨rfl,rfl⟩))
 obtain⟨I,aT⟩:=Qe ((((r.alloc (fs #[S gt,S gi,S gd,hb ad gs.length cp] 123)).alloc (fs #[S []] 9)).alloc (fs #[S V] 9)));have eq:I.heap.size=r.heap.size+3:=by rw[<- aT];simp
 have cQ:Bw r I:=by rw[<- aT];exact(((hB _ r).alloc (hm _) _).alloc (by simp) _).alloc (by simp;omega) _
 have e4:I.heap[r.heap.size+1]?=X (fs #[S []] 9 (0,0)):=by rw[<- aT,Below.heap_alloc _ _ _ (by simp)];have:=hn (r.alloc (fs #[S gt,S gi,S gd,hb ad gs.length cp] 123)) (fs #[S []] 9);rwa[hH]at this
 have e8:I.cell? ⟨r.heap.size+2,0,Y⟩=X (S V):=by have:=hn ((r.alloc (fs #[S gt,S gi,S gd,hb ad gs.length cp] 123)).alloc (fs #[S []] 9)) (fs #[S V] 9);rw[hH,hH,aT]at this;exact(aa this 0).trans rfl
 have c3:Hid (I.ownsRow (w.heap.size+1) 9 1 u3 f.length (f.map λs=>S s)):=ai av.o (λg hg=>cQ.block g (av.lt g hg).2);have d7:Hid (∀g,u3.ownBlock=X g->g<r.heap.size):=λg hg=>(av.lt g hg).2;have d6:Hid (w.heap.size+1<=r.heap.size/\Bw w I):=by have h1:=O.size;exact⟨by omega,(bO.o.trans (O.o.mono bO.o.size)).trans (cQ.mono (by omega))⟩
 have g6:=jR 9 (by omega) (r.heap.size+2) V g9 I e8;have g8:qI I (r.heap.size+1) [] (λ_=>False) I:=⟨rfl,rfl,rfl,hm _,λ_ _ _=>rfl,e4,λk T=>T.elim⟩;have e5:r.heap.size+1<I.heap.size:=by omega
 have dy:=Z eq;rw[aT];clear aT cQ e4 e8 eq
 refine lJ rfl (by decide) (gf:=247) (lb:= #[hh (X ⟨r.heap.size+2,0,Y⟩)]) ?hg trivial (enters_of func247 (by kernel_rfl) rfl) g6 (λk T=>T.elim) (hB _ _) (λ_=>rfl)
  (λM bA W=>bA=[]/\qI I (r.heap.size+1) [] M W) (λc M bA W=>c=.exit 4/\∃x,bA=[x]/\qI I (r.heap.size+1) x M W) (λM s A M' ft h ht=>⟨h.1,h.2.turn e5 ht⟩) (λc M s A M' ft h ht=>⟨h.1,h.2.imp λx hx=>⟨hx.1,hx.2.turn e5 ht⟩⟩) (λM s A h k T=>(h.2.m k T).1) (λc M s A h k T=>by obtain⟨_,x,_,hw⟩:=h;exact(hw.m k T).1)
  ⟨rfl,g8⟩ ?a1 ?assign ?body ?done ?stop
 case hg=>simp[Act.eval]
 case assign=>
  intro l x W K hK;gi_wp2
  exact hK
 case done=>
  rintro D M zs W hD hS⟨rfl,G⟩b9;obtain⟨z,hz⟩:∃z:Bs,z=[]:=⟨_,rfl⟩;rw[<- hz]at G;have au:(wordsR V).headD []=z:=by rw[<- hS,hz];rfl
  have gn:z.length<=4000000:=by rw[hz];simp
  clear hS hz;have bb:W.ownsRow (w.heap.size+1) 9 1 u3 f.length (f.map λs=>S s):=ai c3.o (λg hg=>G.block g (c3.o.lt g hg).2 (λe=>by have:=d7.o g hg;omega));have g5:W.cell? ⟨r.heap.size+1,0,Y⟩=X (S z):=(aa G.d 0).trans rfl;have g7:o.length+1<=10000000:=by simpa using d3
  have s1:¬9223372036854775807<6+(o.length+1):=by omega
  have gp:¬9223372036854775807<o.length+1+1+1+1+1+1+1+3:=by omega
  have gq:¬9223372036854775807<o.length+3+1+1+1+1+1+1+1+z.length:=by omega
  have b6:Hid (rawR a=f++[[116,105,116,108,101,32]++(t::o)++[32,47,32]++z]):=by unfold Hid;rw[cv.o,if_neg (by simp),ds.o,c7.o,au]
  have cl:Hid (rawR a=f++[[116,105,116,108,101,32]++((t::o)++([32,47,32]++z))]):=by unfold Hid;rw[b6.o];simp
  have b0:=Z (λW v(h:W.ownsRow (w.heap.size+1) 9 1 v (f++[[116,105,116,108,101,32]++((t::o)++([32,47,32]++z))]).length ((f++[[116,105,116,108,101,32]++((t::o)++([32,47,32]++z))]).map λs=>S s))=>lX (w.heap.size+1) W v _ h (by rw[hj];simp only[ho,hu];omega));have b3:=Z (λW v(h:W.ownsRow (w.heap.size+1) 9 1 v (f++[[116,105,116,108,101,32]++((t::o)++([32,47,32]++z))]).length (((f++[[116,105,116,108,101,32]++((t::o)++([32,47,32]++z))]).mergeSort λx y=>decide (x<=y)).map λs=>S s))=>gZ (w.heap.size+1) W v ((f++[[116,105,116,108,101,32]++((t::o)++([32,47,32]++z))]).mergeSort λx y=>decide (x<=y)) (by rw[hk];exact h) (by rw[hk,hj];simp only[ho,hu];omega));have F:=Z G;have ay:=Z bb;have b5:=Z b9;have L:=d6.o;have g4:=F.size;have g1:=dy.o;clear G bb au b9 b6
  gi_wp2_with (first
   |(gi_at_builtin;(refine hF _ rfl _ _ 81 rfl (w.heap.size+1) 9 i0 (.string ⟨#[]⟩) 1 16 underlying81 HI.o cb.o cc.o cd.o rfl hP u3 f.length (f.map λs=>S s) ?_ ?_ ⟨W.heap.size,0,Y⟩ 1 1 [S ([116,105,116,108,101,32]++((t::o)++([32,47,32]++z)))] ?_ ?_ ?_ ?_ ?_ ?_ ?_ ?_);(focus rfl);(focus exact(ay.o.alloc _));(focus rfl);(focus rfl);(focus exact cell_one_new _ _ _);(focus simp[hM]);(focus (unfold maxLen;omega));(focus omega);(focus (simp;omega));intro v' w5 ao al _ _;have ax:Hid (w5.ownsRow (w.heap.size+1) 9 1 v' (f++[[116,105,116,108,101,32]++((t::o)++([32,47,32]++z))]).length ((f++[[116,105,116,108,101,32]++((t::o)++([32,47,32]++z))]).map λs=>S s)):=(by rw[hj,hJ];exact ao);have b4:=Z al;clear ao al)
   |(refine⟨trivial,?_⟩;gi_at_call 186;refine(callsIn_wide.2 (b0 _ _ ax.o)).mono ?_;rintro e w6⟨rfl,bl,bc,bd⟩;have b7:=Z bl;have c8:=Z bc;have cg:=Z bd;clear bl bc bd)
   |(refine⟨trivial,?_⟩;gi_at_call 187;refine(callsIn_wide.2 (b3 _ _ b7.o)).mono ?_;rintro e w7⟨v7,rfl,bs,a3,bk⟩;have cu:=Z bs;have c9:=Z a3;have ch:=Z bk;clear bs a3 bk))
  have aC:Bw W (W.alloc (fs #[S ([116,105,116,108,101,32]++((t::o)++([32,47,32]++z)))] 9)):=(hB _ W).alloc (hm _) _;have cz:=ae b5.o;have aS:∀(A:World)(v:Value)(xs:List Value)n,A.heap[D]?=X (.deferred (X []))->A.ownsRow (w.heap.size+1) 9 1 v n xs->v.ownBlock≠X D:=λA v xs n hX hr e=>by
   obtain⟨dz,B⟩:=aH hr e;rw[hX]at B;injection B with B
   exact Obj.noConfusion B
  have k9:=(aC.block D cz).trans b5.o;have k5:w5.heap[D]?=X (.deferred (X [])):=(b4.block D (ae k9) (λe=>aS _ _ _ _ k9 (ay.alloc _) e.symm)).trans k9;have k6:=(cg D (ae k5) (aS _ _ _ _ k5 ax.o)).trans k5;have k7:=(ch D (ae k6) (aS _ _ _ _ k6 b7.o)).trans k6;refine⟨by simp,.inl ⟨_,_,rfl,run_takeDeferred k7,?_⟩⟩;have g0:w.heap.size+1<=D:=by omega
  have gb:=aC.size;have ac:Below (w.heap.size+1) W w5:=(aC.mono (by omega)).grown b4.o (by omega) (λg hg=>(ay.o.lt g hg).1);have a3:Below (w.heap.size+1) W w7:=(ac.trans c8.o).trans c9.o;have d4:Bw w W:=⟨F.o.os.trans L.2.os,F.o.tape.trans L.2.tape,F.o.output.trans L.2.output,hA L.2.size F.o.size,λk T=>(F.o.block k (by have:=L.2.size;omega) (by omega)).trans (L.2.block k T)⟩;refine⟨_,results_tmp rfl _ _ _,v7,rfl,?_,(d4.trans (a3.mono (by omega))).trans (belowK_b (w:=w) (hm _) w7 D _ _ (by omega) k7 rfl rfl)⟩;rw[cm.o,cl.o];exact ownsRow_putObj (aD cu.o (by omega)) _ k7 rfl
 case stop=>
  rintro D c M bA W hD hS⟨rfl,z,rfl,G⟩b9;obtain⟨zz,d5⟩:=hS.2;have au:(wordsR V).headD []=z:=by rw[<- d5];rfl
  have gn:z.length<=4000000:=by have:=gJ V z (by rw[<- d5];simp);omega
  clear hS d5;have bb:W.ownsRow (w.heap.size+1) 9 1 u3 f.length (f.map λs=>S s):=ai c3.o (λg hg=>G.block g (c3.o.lt g hg).2 (λe=>by have:=d7.o g hg;omega));have g5:W.cell? ⟨r.heap.size+1,0,Y⟩=X (S z):=(aa G.d 0).trans rfl;have g7:o.length+1<=10000000:=by simpa using d3
  have s1:¬9223372036854775807<6+(o.length+1):=by omega
  have gp:¬9223372036854775807<o.length+1+1+1+1+1+1+1+3:=by omega
  have gq:¬9223372036854775807<o.length+3+1+1+1+1+1+1+1+z.length:=by omega
  have b6:Hid (rawR a=f++[[116,105,116,108,101,32]++(t::o)++[32,47,32]++z]):=by unfold Hid;rw[cv.o,if_neg (by simp),ds.o,c7.o,au]
  have cl:Hid (rawR a=f++[[116,105,116,108,101,32]++((t::o)++([32,47,32]++z))]):=by unfold Hid;rw[b6.o];simp
  have b0:=Z (λW v(h:W.ownsRow (w.heap.size+1) 9 1 v (f++[[116,105,116,108,101,32]++((t::o)++([32,47,32]++z))]).length ((f++[[116,105,116,108,101,32]++((t::o)++([32,47,32]++z))]).map λs=>S s))=>lX (w.heap.size+1) W v _ h (by rw[hj];simp only[ho,hu];omega));have b3:=Z (λW v(h:W.ownsRow (w.heap.size+1) 9 1 v (f++[[116,105,116,108,101,32]++((t::o)++([32,47,32]++z))]).length (((f++[[116,105,116,108,101,32]++((t::o)++([32,47,32]++z))]).mergeSort λx y=>decide (x<=y)).map λs=>S s))=>gZ (w.heap.size+1) W v ((f++[[116,105,116,108,101,32]++((t::o)++([32,47,32]++z))]).mergeSort λx y=>decide (x<=y)) (by rw[hk];exact h) (by rw[hk,hj];simp only[ho,hu];omega));have F:=Z G;have ay:=Z bb;have b5:=Z b9;have L:=d6.o;have g4:=F.size;have g1:=dy.o;clear G bb au b9 b6
  gi_wp2_with (first
   |(gi_at_builtin;(refine hF _ rfl _ _ 81 rfl (w.heap.size+1) 9 i0 (.string ⟨#[]⟩) 1 16 underlying81 HI.o cb.o cc.o cd.o rfl hP u3 f.length (f.map λs=>S s) ?_ ?_ ⟨W.heap.size,0,Y⟩ 1 1 [S ([116,105,116,108,101,32]++((t::o)++([32,47,32]++z)))] ?_ ?_ ?_ ?_ ?_ ?_ ?_ ?_);(focus rfl);(focus exact(ay.o.alloc _));(focus rfl);(focus rfl);(focus exact cell_one_new _ _ _);(focus simp[hM]);(focus (unfold maxLen;omega));(focus omega);(focus (simp;omega));intro v' w5 ao al _ _;have ax:Hid (w5.ownsRow (w.heap.size+1) 9 1 v' (f++[[116,105,116,108,101,32]++((t::o)++([32,47,32]++z))]).length ((f++[[116,105,116,108,101,32]++((t::o)++([32,47,32]++z))]).map λs=>S s)):=(by rw[hj,hJ];exact ao);have b4:=Z al;clear ao al)
   |(refine⟨trivial,?_⟩;gi_at_call 186;refine(callsIn_wide.2 (b0 _ _ ax.o)).mono ?_;rintro e w6⟨rfl,bl,bc,bd⟩;have b7:=Z bl;have c8:=Z bc;have cg:=Z bd;clear bl bc bd)
   |(refine⟨trivial,?_⟩;gi_at_call 187;refine(callsIn_wide.2 (b3 _ _ b7.o)).mono ?_;rintro e w7⟨v7,rfl,bs,a3,bk⟩;have cu:=Z bs;have c9:=Z a3;have ch:=Z bk;clear bs a3 bk))
  have aC:Bw W (W.alloc (fs #[S ([116,105,116,108,101,32]++((t::o)++([32,47,32]++z)))] 9)):=(hB _ W).alloc (hm _) _;have cz:=ae b5.o;have aS:∀(A:World)(v:Value)(xs:List Value)n,A.heap[D]?=X (.deferred (X []))->A.ownsRow (w.heap.size+1) 9 1 v n xs->v.ownBlock≠X D:=λA v xs n hX hr e=>by
   obtain⟨dz,B⟩:=aH hr e;rw[hX]at B;injection B with B
   exact Obj.noConfusion B
  have k9:=(aC.block D cz).trans b5.o;have k5:w5.heap[D]?=X (.deferred (X [])):=(b4.block D (ae k9) (λe=>aS _ _ _ _ k9 (ay.alloc _) e.symm)).trans k9;have k6:=(cg D (ae k5) (aS _ _ _ _ k5 ax.o)).trans k5;have k7:=(ch D (ae k6) (aS _ _ _ _ k6 b7.o)).trans k6;refine⟨by simp,.inl ⟨_,_,rfl,run_takeDeferred k7,?_⟩⟩;have g0:w.heap.size+1<=D:=by omega
  have gb:=aC.size;have ac:Below (w.heap.size+1) W w5:=(aC.mono (by omega)).grown b4.o (by omega) (λg hg=>(ay.o.lt g hg).1);have a3:Below (w.heap.size+1) W w7:=(ac.trans c8.o).trans c9.o;have d4:Bw w W:=⟨F.o.os.trans L.2.os,F.o.tape.trans L.2.tape,F.o.output.trans L.2.output,hA L.2.size F.o.size,λk T=>(F.o.block k (by have:=L.2.size;omega) (by omega)).trans (L.2.block k T)⟩;refine⟨_,results_tmp rfl _ _ _,v7,rfl,?_,(d4.trans (a3.mono (by omega))).trans (belowK_b (w:=w) (hm _) w7 D _ _ (by omega) k7 rfl rfl)⟩;rw[cm.o,cl.o];exact ownsRow_putObj (aD cu.o (by omega)) _ k7 rfl
 rintro l M bA x W⟨rfl,G⟩hG;have B:=(aa G.d 0).trans rfl;have hf:=ab G.d 0;have F:=Z G;clear G;gi_wp2
 exact⟨KeepsOthers.setCell _ _ _,rfl,x,rfl,F.set x⟩
end
end Go.Proofs.YtjcimanddakkaaaGreatDoor
