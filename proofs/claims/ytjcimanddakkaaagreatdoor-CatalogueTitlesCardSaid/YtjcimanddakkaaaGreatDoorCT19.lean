/- Lemmas. -/
import Derived.Test.YtjcimanddakkaaaGreatDoorCT15
import Derived.Test.YtjcimanddakkaaaGreatDoorCT18
set_option maxRecDepth 100000
set_option maxHeartbeats 8000000
namespace Go.Proofs.YtjcimanddakkaaaGreatDoor
open Go.Value renaming int→J,slice→h8,bool→h9,pointer→ha
open Go.IntKind renaming u8→a1,i64→U
open Go.Ending renaming returned→fn
open Go.Obj renaming cells→fs
open Go.Lib renaming hid→Z
open _root_.Option renaming some→X,none→Y
open Tryz
open _root_.List renaming length_append→hb,length_mergeSort→hc,length_cons→hh,length_nil→hj,map_append→hy,append_nil→hA,take_of_length_le→hF
open _root_.Nat renaming le_refl→hd,lt_of_lt_of_le→hk,le_trans→hm,one_pos→hJ
open Go.World renaming alloc_heap_new→he,size_alloc→hu,size_setCell→hH
open Go.RowKit.Below renaming refl→hn
open Go renaming wpListIn_append_own_at→ho
open Go.Value renaming oneCell'→hB
section
open Go.RowKit Go.Maps Go.Shelf
attribute [local go_sem] Oper.semAt_some
theorem j5(a:List ag)(h:br a):(aN a).length<=10000000:=by
 unfold aN dG;have b:=cM h cA [97,98];generalize textF (firstF a cA) [97,98]=t at*;generalize yP (firstF a cA)=k;have c:(t.drop k).length<=1000000:=by rw[List.length_drop];omega
 have:=jf (wordsR (t.drop k));have:=fF (t.drop k);have:=ef (t.drop k);omega
structure qQ(W0:World)(D:Nat)(z:Bs)(M:Nat->Prop)(W:World):Prop where
 os:W.os=W0.os
 tape:W.tape=W0.tape
 output:W.output=W0.output
 size:W0.heap.size<=W
 block:∀k,k<W0.heap.size->k≠D->W.heap[k]?=W0.heap[k]?
 d:W.heap[D]?=some (.cells #[S z] 9 (0,0))
 m:∀k,M k->k<W/\W0<=k
theorem qQ.turn{b:World}{D:Nat}(l:D<b){z:Bs}{M g:Nat->Prop}{c i:World}(h:qQ b D z M c)(t:dj b M c g i):qQ b D z g i:=by
 have n:D<c.heap.size:=hk l h.size;refine⟨t.os.trans h.os,t.tape.trans h.tape,t.output.trans h.output,hm h.size t.size,λk a o=>(t.block k (hk a h.size) (λf=>by have:=(h.m k f).2;omega) (λj=>by omega)).trans (h.block k a o),(t.block D n (λf=>by have:=(h.m D f).2;omega) (λj=>by omega)).trans h.d,λk a=>⟨t.lt k a,?_⟩⟩;rcases t.new k a with e|e
 .exact(h.m k e).2
 exact hm h.size e
theorem qQ.set{b:World}{D:Nat}{z:Bs}{M:Nat->Prop}{W:World}(h:qQ b D z M W)(x:Bs):qQ b D x M (W.setCell D (S x)):=
 ⟨h.os,h.tape,h.output,by rw[hH];exact h.size,λk a c=>(Below.heap_setCell _ _ _ _ c).trans (h.block k a c),(aA h.d 0 _).trans rfl,λk a=>by rw[hH];exact h.m k a⟩
theorem Cd(k l:UInt8)(x:Value)(a:List ag)(w:World)(hs:ah 0 w w x a)(a6:br a):
 Calls prog 130 #[.agg #[J a1 k,J a1 l,x]] w λe w'=>∃v,e=fn v/\w'.ownsRow w 9 1 v (keysR a).length ((keysR a).map λs=>S s)/\Bw w w':=by
 obtain⟨w1,bl⟩:=Qe (w.alloc (fs #[J a1 k,J a1 l,x] 62));have cx:Bw w w1:=by rw[<- bl];exact(hn _ w).alloc (hd _) _
 have hR:=he w (fs #[J a1 k,J a1 l,x] 62);rw[bl]at hR;have d5:Hid (∀W,Bw w W->ah 0 W W x a):=λW N=>(fk hs (hd _) N).mono (hd _) N.size;have f0:Hid (∀W,Bw w W->ah 0 w W x a):=λW N=>hs.kept (λg _ hg=>N.block g hg);have HT:Hid (∀W,Bw w W->Calls prog 178 #[.agg #[J a1 k,J a1 l,x]] W λe w'=>e=fn (S (aN a))/\Bw W w'):=λW N=>nW k l x a W (d5 W N) a6;have b6:=Z a6;have HX:=Z (λW(N:Bw w W)=>q9 k l x a [49,48,48] [97] W (d5 W N) a6);obtain⟨a0,c0,rfl⟩:=hs.shape;have gz:=a6.1;have HR:=Z hR;have ej:=Z cx;have bt:w1.heap.size=w+1:=by rw[<- bl];simp
 have f8:=Z bt;have f6:=Z bl;clear hs a6 cx hR bt bl;obtain⟨i0,hi,ao,bt,eb⟩:=info_parts i9;have HI:=Z hi;have c9:=Z ao;have ca:=Z bt;have cb:=Z eb;clear hi ao bt eb;refine(callsIn_wide (n:=10)).1 ?_;refine callsIn_of_wp_marks func130 rfl trivial ?_ rfl;simp only[ntmps130,List.size_toArray,hh,hj,Nat.reduceAdd,Nat.reduceSub,Array.replicate_succ,Array.replicate_zero,List.push_toArray,List.append_toArray,List.nil_append,List.cons_append];gi_wp2
 rw[f6.o];have cs:Hid (∀W,Below (w.heap.size+1) w1 W->Bw w W/\W.cell? w=X (J a1 k)/\W.cell? ⟨w,1,Y⟩=X (J a1 l)/\W.cell? ⟨w,2,Y⟩=X (h8 a0 a c0)):=λW N=>by have h:=(N.block w (by omega)).trans HR.o;exact⟨ej.o.trans (N.mono (by omega)),(ab h 0).trans rfl,(ab h 1).trans rfl,(ab h 2).trans rfl⟩
 gi_loopw [3,18] (λv i wr=>∃q:Nat,q<=a/\i=J U q/\Hid (wr.ownsRow (w.heap.size+1) 9 1 v ((booksR (a.take q)).map isbnK).length (((booksR (a.take q)).map isbnK).map λs=>S s))/\Hid (Below (w.heap.size+1) w1 wr)/\w.heap.size+1<=wr) (λ_ i _=>a-(intOf i).toNat)
 case atStart=>exact⟨0,Nat.zero_le _,rfl,World.ownsRow_nil _ _ _ _,hn _ _,by have:=f8.o;omega⟩
 obtain⟨q,hq,rfl,HO,HB,hz⟩:=hrel;by_cases hlt:q<a
 .have a4:=(cs wr HB.o).1;have e7:ah 0 w wr (h8 a0 a c0) a:=f0 _ a4;have h0:w.heap.size<=wr:=a4.size;obtain⟨b,h3,g9,d,hv,cx,gq,e0,e1,e2,e3,cz⟩:=e7.field q hlt;cases hv;have a6:=b6.2 _ (List.getElem_mem hlt);have HN:=Z (mZ a q hlt);rw[il]at HN;have gP:a[q].subs.length<=1000000:=hm (cr _) a6;have f1:Hid (∀s∈a[q].subs,s.text.length<=1000000):=λs hs=>iX a6 hs;obtain⟨da,dc,rfl,_⟩:=id cz;have f2:=Z cz;have fy:=dt a q b6.o;clear cz e7 a6 a4;generalize a[q].tag=TG at*;generalize a[q].ind=IN at*;generalize a[q].data=DT at*;generalize a[q].subs=ss at*;by_cases hTG:TG=[48,50,48];rotate_left
  .have P:Hid (booksR (a.take (q+1))=booksR (a.take q)):=by unfold Hid;rw[HN.o];unfold bookS;rw[if_neg (show¬TG=dh from hTG),hA]
   have b1:(TG !=[48,50,48])=true:=by simpa using hTG
   have b2:(TG==[48,50,48])=false:=by simpa using hTG
   gi_wp2
   go_roundw;exact⟨q+1,hlt,by go_num,by unfold Hid;rw[P.o];exact aj HO.o (λg hg=>(bo wr _).block g (HO.o.lt g hg).2),HB.o.trans ((bo wr _).mono hz),by simp;omega⟩;simp[intOf];omega
  subst hTG;obtain⟨R,hR⟩:=Qe wr.heap.size;obtain⟨wq,bs⟩:=Qe (wr.alloc (fs #[S [48,50,48],S IN,S DT,h8 da ss dc] 123));have c4:Bw wr wq:=by rw[<- bs];exact(hn _ wr).alloc (hd _) _
  have dy:wq.heap[R]?=X (fs #[S [48,50,48],S IN,S DT,h8 da ss dc] 123 (0,0)):=by rw[<- bs,<- hR];exact he wr _
  have er:=Z dy;have eq:Hid (Below (w.heap.size+1) w1 wq):=HB.trans (c4.mono hz);have es:Hid (wq.ownsRow (w.heap.size+1) 9 1 u3 ((booksR (a.take q)).map isbnK).length (((booksR (a.take q)).map isbnK).map λs=>S s)):=aj HO.o (λg hg=>c4.block g (HO.lt g hg).2);have f3:Hid (aE 0 w wq (h8 da ss dc) ss):=f2.o.kept (λg _ hg=>c4.block g (by omega));have eg:wq=R+1:=by rw[<- bs,<- hR];simp
  have f9:=Z eg;have eQ:=Z hR;have f7:=Z bs;have gQ:w+1<=R:=by omega
  clear bs c4 dy eg hR;gi_wp2
  rw[f7.o,eQ.o];gi_loopw [3,28] (λv j wr=>∃p:Nat,p<=ss/\j=J U p/\Hid (wr.ownsRow (w.heap.size+1) 9 1 v ((booksR (a.take q)++bookS [48,50,48] (ss.take p)).map isbnK).length (((booksR (a.take q)++bookS [48,50,48] (ss.take p)).map isbnK).map λs=>S s))/\Hid (Below (w.heap.size+1) w1 wr)/\Hid (wr.heap[R]?=X (fs #[S [48,50,48],S IN,S DT,h8 da ss dc] 123 (0,0)))/\Hid (aE 0 w wr (h8 da ss dc) ss)/\R+1<=wr) (λ_ j _=>ss-(intOf j).toNat)
  case atStart=>exact⟨0,Nat.zero_le _,rfl,by
   have e:booksR (a.take q)++bookS [48,50,48] (ss.take 0)=booksR (a.take q):=by unfold bookS;simp
   rw[e];exact es,eq,er,f3,by have:=f9.o;omega⟩
  obtain⟨p,hp,rfl,a2,bB,a7,c2,gp⟩:=hrel;by_cases hlp:p<ss;rotate_left
  .have P:Hid ((booksR (a.take (q+1))).map isbnK=(booksR (a.take q)++bookS [48,50,48] (ss.take p)).map isbnK):=by unfold Hid;rw[HN.o,show ss.take p=ss from hF (by omega)]
   gi_wp2
   go_roundw;exact⟨q+1,hlt,by go_num,by unfold Hid;rw[P.o];exact a2.o,bB.o,by omega⟩;simp[intOf];omega
  obtain⟨b',h4,gb,hv,_,gx,d0,d1⟩:=c2.sub p hlp;cases hv;have cl:=Z (gD [48,50,48] ss p hlp);have cP:=f1 _ (List.getElem_mem hlp);generalize ss[p].code=C at*;generalize ss[p].text=A at*;have gy:b'<wr:=by omega
  have d6:Hid ((bookS [48,50,48] (ss.take p)).length<=1000000):=by have h1:=fU [48,50,48] (ss.take p);rw[List.length_take]at h1;unfold Hid;omega
  obtain⟨f,a9⟩:=Qe (booksR (a.take q)++bookS [48,50,48] (ss.take p));have dz:f.length<=2000000000000:=by have:=fy;have:=d6.o;rw[<- a9,hb];omega
  rw[a9]at a2;have ci:=Z a9;clear a9 d6;obtain⟨LK,c3⟩:=Qe (f.map isbnK);rw[c3]at a2;have gn:LK.length<=2000000000000:=by rw[<- c3,List.length_map];exact dz
  have cj:=Z c3;clear c3 dz;cases hI:isbnR A with
  |none=>
   have bY:Hid (∀W,Calls prog 180 #[S A] W λe w'=>e=fn (.tuple #[S [],h9 false])/\Bw W w'):=λW=>by have:=jL A W (by omega);rw[hI]at this;exact this
   have P:Hid ((booksR (a.take q)++bookS [48,50,48] (ss.take (p+1))).map isbnK=LK):=by unfold Hid;rw[cl.o,hI,<- cj.o,<- ci.o];split<;>simp
   clear hI;gi_wp2_with (refine⟨trivial,?_⟩;gi_at_call 180;refine(callsIn_wide.2 (bY.o _)).mono ?_;rintro e H⟨rfl,u⟩;have a5:Bw wr H:=(bo wr _).trans (u.mono (by simp));have E:=Z a5;clear a5 u)
   go_roundw;exact⟨p+1,hlp,by go_num,by unfold Hid;rw[P.o];exact aj a2.o (λg hg=>E.o.block g (a2.o.lt g hg).2),bB.o.trans (E.o.mono (by omega)),(E.o.block _ (af a7.o)).trans a7.o,c2.o.kept (λg _ hg=>E.o.block g (by omega)),by have:=E.o.size;omega⟩;simp[intOf];omega
  |some n=>
   have bY:Hid (∀W,Calls prog 180 #[S A] W λe w'=>e=fn (.tuple #[S n,h9 true])/\Bw W w'):=λW=>by have:=jL A W (by omega);rw[hI]at this;exact this
   have gO:n.length<=13:=ev hI;by_cases hC:C=97;rotate_left
   .have fp:((C.toNat:Int)==97)=false:=by have:C.toNat≠97:=λh=>hC (UInt8.toNat_inj.1 h);simp;omega
    have P:Hid ((booksR (a.take q)++bookS [48,50,48] (ss.take (p+1))).map isbnK=LK):=by unfold Hid;rw[cl.o,<- cj.o,<- ci.o,if_neg (λh=>hC h.2),hA]
    clear hI hC;gi_wp2_with (refine⟨trivial,?_⟩;gi_at_call 180;refine(callsIn_wide.2 (bY.o _)).mono ?_;rintro e H⟨rfl,u⟩;have a5:Bw wr H:=(bo wr _).trans (u.mono (by simp));have z0:=((aq u).1 wr 0 (by simp));have E:=Z a5;clear a5 u)
    go_roundw;exact⟨p+1,hlp,by go_num,by unfold Hid;rw[P.o];exact aj a2.o (λg hg=>E.o.block g (a2.o.lt g hg).2),bB.o.trans (E.o.mono (by omega)),(E.o.block _ (af a7.o)).trans a7.o,c2.o.kept (λg _ hg=>E.o.block g (by omega)),by have:=E.o.size;omega⟩;simp[intOf];omega
   have fp:((C.toNat:Int)==97)=true:=by rw[hC];rfl
   have P:Hid ((booksR (a.take q)++bookS [48,50,48] (ss.take (p+1))).map isbnK=LK++[[105,115,98,110,32]++n]):=by unfold Hid;rw[cl.o,hI,<- cj.o,<- ci.o,if_pos ⟨rfl,hC⟩];simp[isbnK]
   have s1:¬9223372036854775807<5+n.length:=by omega
   clear hI hC
   gi_wp2_with (first
    |(refine⟨trivial,?_⟩;gi_at_call 180;refine(callsIn_wide.2 (bY.o _)).mono ?_;rintro e H⟨rfl,u⟩;have a5:Bw wr H:=(bo wr _).trans (u.mono (by simp));have z0:=((aq u).1 wr 0 (by simp));have a8:Hid (H.ownsRow (w.heap.size+1) 9 1 u3 LK.length (LK.map λs=>S s)):=aj a2.o (λg hg=>a5.block g (a2.o.lt g hg).2);have E:=Z a5;clear a5 u)
    |(gi_at_builtin;(refine ho _ rfl _ _ 81 rfl (w.heap.size+1) 9 i0 (.string ⟨#[]⟩) 1 16 underlying81 HI.o c9.o ca.o cb.o rfl hJ u3 LK.length (LK.map λs=>S s) ?_ ?_ H 1 1 [S ([105,115,98,110,32]++n)] ?_ ?_ ?_ ?_ ?_ ?_ ?_ ?_);(focus rfl);(focus exact(a8.o.alloc _));(focus rfl);(focus rfl);(focus exact cell_one_new _ _ _);(focus simp[hB]);(focus (unfold maxLen;omega));(focus omega);(focus (have:=E.o.size;simp;omega));intro v' r al ac _ _;have au:=Z al;have Q:Bw wr (H.alloc (fs #[S ([105,115,98,110,32]++n)] 9)):=E.o.alloc E.o.size _;have bO:=Z ac;have O:=Z Q;clear al ac Q))
   go_roundw
   case rel=>
    have Q:Below (w.heap.size+1) w1 r:=(bB.o.trans (O.o.mono (by omega))).grown bO.o (by have:=O.o.size;omega) (λg hg=>(a8.o.lt g hg).1);have h2:wr.heap.size<=r:=hm O.size bO.size;have fx:r.heap[R]?=wr.heap[R]?:=by
     have hl:=hk (af a7.o) O.size;rw[bO.o.block R hl (λe=>?_)]
     .exact O.block _ (af a7.o)
     obtain⟨dq,B⟩:=aK a2.o e.symm;rw[a7.o]at B;injection B with B
     injection B with _ B
     exact absurd B (by decide)
    refine⟨p+1,hlp,by go_num,?_,Q,fx.trans a7.o,c2.o.kept (λg _ hg=>?_),by omega⟩
    .unfold Hid;rw[P.o,hb,hy];exact au.o
    rw[bO.o.block g (hk (show g<wr by omega) O.o.size) (λe=>by have:=(a8.o.lt g e.symm).1;omega)];exact O.o.block g (by omega)
   simp[intOf];omega
 have P:Hid ((booksR (a.take q)).map isbnK=(booksR a).map isbnK):=by unfold Hid;rw[hF (by omega)]
 rw[P.o]at HO;obtain⟨a4,r0,r1,r2⟩:=cs wr HB.o;have fc:((booksR a).map isbnK).length<=1000000000000:=by rw[List.length_map];have:=dt a a b6.o;rwa[List.take_length]at this
 obtain⟨f,a9⟩:=Qe ((booksR a).map isbnK);rw[a9]at HO fc;have cq:Hid (rawR a=f++(if aN a=[]then[]else[j6 a])):=by unfold Hid rawR;rw[a9]
 have d7:=Z (HT wr a4);have d8:Hid (j6 a=[116,105,116,108,101,32]++aN a++[32,47,32]++(bi a).headD []):=rfl;have ch:Hid (keysR a=Lib.compact ((rawR a).mergeSort λx y=>decide (x<=y))):=rfl;have bA:=Z a4;have cu:=Z (λW(N:Bw wr W)=>HX W (a4.trans (N.mono a4.size)));have c5:Hid (bi a=wordsR (textF (firstF a [49,48,48]) [97])):=rfl;have d9:=Z (cM b6.o [49,48,48] [97]);clear a9 a4 HX HT;have f4:=Z (j5 a b6.o);generalize aN a=o at*;rcases o with _|⟨t,o⟩
 .have ex:Hid (rawR a=f):=by unfold Hid;rw[cq.o,if_pos rfl,hA]
  have aS:=Z (λW(h:W.ownsRow (w.heap.size+1) 9 1 u3 f.length (f.map λs=>S s))=>l8 (w.heap.size+1) W u3 f h (by omega));have aT:=Z (λW(h:W.ownsRow (w.heap.size+1) 9 1 u3 f.length ((f.mergeSort λx y=>decide (x<=y)).map λs=>S s))=>ii (w.heap.size+1) W u3 (f.mergeSort λx y=>decide (x<=y)) (by rw[hc];exact h) (by rw[hc];omega))
  gi_wp2_with (first
   |(refine⟨trivial,?_⟩;gi_at_call 178;refine(callsIn_wide.2 d7.o).mono ?_;rintro e H⟨rfl,u⟩;have a8:Hid (H.ownsRow (w.heap.size+1) 9 1 u3 f.length (f.map λs=>S s)):=aj HO.o (λg hg=>u.block g (HO.lt g hg).2);have bw:=Z u;clear u)
   |(refine⟨trivial,?_⟩;gi_at_call 186;refine(callsIn_wide.2 (aS _ a8.o)).mono ?_;rintro e r⟨rfl,e5,Q,_⟩;have au:=Z e5;have O:=Z Q;clear e5 Q)
   |(refine⟨trivial,?_⟩;gi_at_call 187;refine(callsIn_wide.2 (aT _ au.o)).mono ?_;rintro e w5⟨v',rfl,e6,aa,_⟩;have av:=Z e6;have em:=Z aa;clear e6 aa))
  refine⟨_,results_tmp rfl _ _ _,?_⟩;have fl:=bA.size;have u:Bw w H:=bA.trans (bw.mono fl);have aa:Bw w w5:=(u.trans (O.o.mono (by omega))).trans (em.o.mono (by omega));refine⟨v',rfl,?_,aa⟩;rw[ch.o,ex.o];exact aD av.o (by omega)
 have cP:(t::o).length<=10000000:=f4.o;obtain⟨V,e8⟩:=Qe (textF (firstF a [49,48,48]) [97]);rw[e8]at cu c5 d9;have g4:V.length<=1000000:=d9.o;unfold gM at cu;generalize(firstF a [49,48,48]).getD zeroF=g at*;obtain⟨gt,gi,gd,gs⟩:=g;clear e8
 gi_wp2_with (first
  |(refine⟨trivial,?_⟩;gi_at_call 178;refine(callsIn_wide.2 d7.o).mono ?_;rintro e H⟨rfl,u⟩;obtain⟨_,h5,h6,h7⟩:=cs H (HB.trans (u.mono hz));have a8:Hid (H.ownsRow (w.heap.size+1) 9 1 u3 f.length (f.map λs=>S s)):=aj HO.o (λg hg=>u.block g (HO.lt g hg).2);have f5:=Z (cu H u);have bw:=Z u;clear u)
  |(refine⟨trivial,?_⟩;gi_at_call 184;refine(callsIn_wide.2 f5.o).mono ?_;rintro e r⟨⟨v,rfl,dd,rfl,ad,cp,rfl,_⟩,Q⟩;have au:Hid (r.ownsRow (w.heap.size+1) 9 1 u3 f.length (f.map λs=>S s)):=aj a8.o (λg hg=>Q.block g (a8.lt g hg).2);have O:Hid (Bw wr r):=bw.trans (Q.mono bw.size);clear Q)
  |(refine⟨trivial,?_⟩;gi_at_call 185;refine(callsIn_wide.2 (jX V _)).mono ?_;rintro e w1⟨rfl,rfl⟩))
 obtain⟨I,aC⟩:=Qe ((((r.alloc (fs #[S gt,S gi,S gd,h8 ad gs cp] 123)).alloc (fs #[S []] 9)).alloc (fs #[S V] 9)));have e9:I.heap.size=r+3:=by rw[<- aC];simp
 have cy:Bw r I:=by rw[<- aC];exact(((hn _ r).alloc (hd _) _).alloc (by simp) _).alloc (by simp;omega) _
 have ds:I.heap[r.heap.size+1]?=X (fs #[S []] 9 (0,0)):=by rw[<- aC,Below.heap_alloc _ _ _ (by simp)];have:=he (r.alloc (fs #[S gt,S gi,S gd,h8 ad gs cp] 123)) (fs #[S []] 9);rwa[hu]at this
 have e4:I.cell? ⟨r.heap.size+2,0,Y⟩=X (S V):=by have:=he ((r.alloc (fs #[S gt,S gi,S gd,h8 ad gs cp] 123)).alloc (fs #[S []] 9)) (fs #[S V] 9);rw[hu,hu,aC]at this;exact(ab this 0).trans rfl
 have c1:Hid (I.ownsRow (w.heap.size+1) 9 1 u3 f.length (f.map λs=>S s)):=aj au.o (λg hg=>cy.block g (au.lt g hg).2);have d4:Hid (∀g,u3.ownBlock=X g->g<r):=λg hg=>(au.lt g hg).2;have d3:Hid (w.heap.size+1<=r/\Bw w I):=by have h1:=O.size;exact⟨by omega,(bA.o.trans (O.o.mono bA.o.size)).trans (cy.mono (by omega))⟩
 have g1:=jZ 9 (by omega) (r.heap.size+2) V g4 I e4;have g3:qQ I (r.heap.size+1) [] (λ_=>False) I:=⟨rfl,rfl,rfl,hd _,λ_ _ _=>rfl,ds,λk T=>T.elim⟩;have dx:r.heap.size+1<I:=by omega
 have dk:=Z e9;rw[aC];clear aC cy ds e4 e9
 refine lN rfl (by decide) (gf:=247) (lb:= #[ha (X ⟨r.heap.size+2,0,Y⟩)]) ?hg trivial (enters_of func247 (by kernel_rfl) rfl) g1 (λk T=>T.elim) (hn _ _) (λ_=>rfl)
  (λM bv W=>bv=[]/\qQ I (r.heap.size+1) [] M W) (λc M bv W=>c=.exit 4/\∃x,bv=[x]/\qQ I (r.heap.size+1) x M W) (λM s A M' fb h ht=>⟨h.1,h.2.turn dx ht⟩) (λc M s A M' fb h ht=>⟨h.1,h.2.imp λx hx=>⟨hx.1,hx.2.turn dx ht⟩⟩) (λM s A h k T=>(h.2.m k T).1) (λc M s A h k T=>by obtain⟨_,x,_,hw⟩:=h;exact(hw.m k T).1)
  ⟨rfl,g3⟩ ?a1 ?assign ?body ?done ?stop
 case hg=>simp[Act.eval]
 case assign=>
  intro l x W K hK;gi_wp2
  exact hK
 case done=>
  rintro D M zs W hD hS⟨rfl,G⟩b7;obtain⟨z,hz⟩:∃z:Bs,z=[]:=⟨_,rfl⟩;rw[<- hz]at G;have ao:(wordsR V).headD []=z:=by rw[<- hS,hz];rfl
  have g6:z.length<=4000000:=by rw[hz];simp
  clear hS hz;have b8:W.ownsRow (w.heap.size+1) 9 1 u3 f.length (f.map λs=>S s):=aj c1.o (λg hg=>G.block g (c1.o.lt g hg).2 (λe=>by have:=d4.o g hg;omega));have g0:W.cell? ⟨r.heap.size+1,0,Y⟩=X (S z):=(ab G.d 0).trans rfl;have g2:o.length+1<=10000000:=by simpa using cP
  have s1:¬9223372036854775807<6+(o.length+1):=by omega
  have g7:¬9223372036854775807<o.length+1+1+1+1+1+1+1+3:=by omega
  have g8:¬9223372036854775807<o.length+3+1+1+1+1+1+1+1+z:=by omega
  have b4:Hid (rawR a=f++[[116,105,116,108,101,32]++(t::o)++[32,47,32]++z]):=by unfold Hid;rw[cq.o,if_neg (by simp),d8.o,c5.o,ao]
  have cg:Hid (rawR a=f++[[116,105,116,108,101,32]++((t::o)++([32,47,32]++z))]):=by unfold Hid;rw[b4.o];simp
  have aS:=Z (λW v(h:W.ownsRow (w.heap.size+1) 9 1 v (f++[[116,105,116,108,101,32]++((t::o)++([32,47,32]++z))]).length ((f++[[116,105,116,108,101,32]++((t::o)++([32,47,32]++z))]).map λs=>S s))=>l8 (w.heap.size+1) W v _ h (by rw[hb];simp only[hh,hj];omega));have aT:=Z (λW v(h:W.ownsRow (w.heap.size+1) 9 1 v (f++[[116,105,116,108,101,32]++((t::o)++([32,47,32]++z))]).length (((f++[[116,105,116,108,101,32]++((t::o)++([32,47,32]++z))]).mergeSort λx y=>decide (x<=y)).map λs=>S s))=>ii (w.heap.size+1) W v ((f++[[116,105,116,108,101,32]++((t::o)++([32,47,32]++z))]).mergeSort λx y=>decide (x<=y)) (by rw[hc];exact h) (by rw[hc,hb];simp only[hh,hj];omega));have F:=Z G;have ax:=Z b8;have b3:=Z b7;have L:=d3.o;have fz:=F.size;have ft:=dk.o;clear G b8 ao b7 b4
  gi_wp2_with (first
   |(gi_at_builtin;(refine ho _ rfl _ _ 81 rfl (w.heap.size+1) 9 i0 (.string ⟨#[]⟩) 1 16 underlying81 HI.o c9.o ca.o cb.o rfl hJ u3 f.length (f.map λs=>S s) ?_ ?_ ⟨W,0,Y⟩ 1 1 [S ([116,105,116,108,101,32]++((t::o)++([32,47,32]++z)))] ?_ ?_ ?_ ?_ ?_ ?_ ?_ ?_);(focus rfl);(focus exact(ax.o.alloc _));(focus rfl);(focus rfl);(focus exact cell_one_new _ _ _);(focus simp[hB]);(focus (unfold maxLen;omega));(focus omega);(focus (simp;omega));intro v' w5 al ac _ _;have av:Hid (w5.ownsRow (w.heap.size+1) 9 1 v' (f++[[116,105,116,108,101,32]++((t::o)++([32,47,32]++z))]).length ((f++[[116,105,116,108,101,32]++((t::o)++([32,47,32]++z))]).map λs=>S s)):=(by rw[hb,hy];exact al);have b0:=Z ac;clear al ac)
   |(refine⟨trivial,?_⟩;gi_at_call 186;refine(callsIn_wide.2 (aS _ _ av.o)).mono ?_;rintro e w6⟨rfl,bd,b9,bb⟩;have b5:=Z bd;have c6:=Z b9;have cc:=Z bb;clear bd b9 bb)
   |(refine⟨trivial,?_⟩;gi_at_call 187;refine(callsIn_wide.2 (aT _ _ b5.o)).mono ?_;rintro e w7⟨v7,rfl,bk,a3,bc⟩;have cm:=Z bk;have c7:=Z a3;have cd:=Z bc;clear bk a3 bc))
  have ay:Bw W (W.alloc (fs #[S ([116,105,116,108,101,32]++((t::o)++([32,47,32]++z)))] 9)):=(hn _ W).alloc (hd _) _;have cv:=af b3.o;have az:∀(A:World)(v:Value)(xs:List Value)n,A.heap[D]?=X (.deferred (X []))->A.ownsRow (w.heap.size+1) 9 1 v n xs->v.ownBlock≠X D:=λA v xs n hX hr e=>by
   obtain⟨dq,B⟩:=aK hr e;rw[hX]at B;injection B with B
   exact Obj.noConfusion B
  have k9:=(ay.block D cv).trans b3.o;have k5:w5.heap[D]?=X (.deferred (X [])):=(b0.block D (af k9) (λe=>az _ _ _ _ k9 (ax.alloc _) e.symm)).trans k9;have k6:=(cc D (af k5) (az _ _ _ _ k5 av.o)).trans k5;have k7:=(cd D (af k6) (az _ _ _ _ k6 b5.o)).trans k6;refine⟨by simp,.inl ⟨_,_,rfl,run_takeDeferred k7,?_⟩⟩;have fr:w+1<=D:=by omega
  have g5:=ay.size;have aa:Below (w.heap.size+1) W w5:=(ay.mono (by omega)).grown b0.o (by omega) (λg hg=>(ax.o.lt g hg).1);have a3:Below (w.heap.size+1) W w7:=(aa.trans c6.o).trans c7.o;have cQ:Bw w W:=⟨F.o.os.trans L.2.os,F.o.tape.trans L.2.tape,F.o.output.trans L.2.output,hm L.2.size F.o.size,λk T=>(F.o.block k (by have:=L.2.size;omega) (by omega)).trans (L.2.block k T)⟩;refine⟨_,results_tmp rfl _ _ _,v7,rfl,?_,(cQ.trans (a3.mono (by omega))).trans (belowK_b (w:=w) (hd _) w7 D _ _ (by omega) k7 rfl rfl)⟩;rw[ch.o,cg.o];exact ownsRow_putObj (aD cm.o (by omega)) _ k7 rfl
 case stop=>
  rintro D c M bv W hD hS⟨rfl,z,rfl,G⟩b7;obtain⟨zz,d2⟩:=hS.2;have ao:(wordsR V).headD []=z:=by rw[<- d2];rfl
  have g6:z.length<=4000000:=by have:=gR V z (by rw[<- d2];simp);omega
  clear hS d2;have b8:W.ownsRow (w.heap.size+1) 9 1 u3 f.length (f.map λs=>S s):=aj c1.o (λg hg=>G.block g (c1.o.lt g hg).2 (λe=>by have:=d4.o g hg;omega));have g0:W.cell? ⟨r.heap.size+1,0,Y⟩=X (S z):=(ab G.d 0).trans rfl;have g2:o.length+1<=10000000:=by simpa using cP
  have s1:¬9223372036854775807<6+(o.length+1):=by omega
  have g7:¬9223372036854775807<o.length+1+1+1+1+1+1+1+3:=by omega
  have g8:¬9223372036854775807<o.length+3+1+1+1+1+1+1+1+z:=by omega
  have b4:Hid (rawR a=f++[[116,105,116,108,101,32]++(t::o)++[32,47,32]++z]):=by unfold Hid;rw[cq.o,if_neg (by simp),d8.o,c5.o,ao]
  have cg:Hid (rawR a=f++[[116,105,116,108,101,32]++((t::o)++([32,47,32]++z))]):=by unfold Hid;rw[b4.o];simp
  have aS:=Z (λW v(h:W.ownsRow (w.heap.size+1) 9 1 v (f++[[116,105,116,108,101,32]++((t::o)++([32,47,32]++z))]).length ((f++[[116,105,116,108,101,32]++((t::o)++([32,47,32]++z))]).map λs=>S s))=>l8 (w.heap.size+1) W v _ h (by rw[hb];simp only[hh,hj];omega));have aT:=Z (λW v(h:W.ownsRow (w.heap.size+1) 9 1 v (f++[[116,105,116,108,101,32]++((t::o)++([32,47,32]++z))]).length (((f++[[116,105,116,108,101,32]++((t::o)++([32,47,32]++z))]).mergeSort λx y=>decide (x<=y)).map λs=>S s))=>ii (w.heap.size+1) W v ((f++[[116,105,116,108,101,32]++((t::o)++([32,47,32]++z))]).mergeSort λx y=>decide (x<=y)) (by rw[hc];exact h) (by rw[hc,hb];simp only[hh,hj];omega));have F:=Z G;have ax:=Z b8;have b3:=Z b7;have L:=d3.o;have fz:=F.size;have ft:=dk.o;clear G b8 ao b7 b4
  gi_wp2_with (first
   |(gi_at_builtin;(refine ho _ rfl _ _ 81 rfl (w.heap.size+1) 9 i0 (.string ⟨#[]⟩) 1 16 underlying81 HI.o c9.o ca.o cb.o rfl hJ u3 f.length (f.map λs=>S s) ?_ ?_ ⟨W,0,Y⟩ 1 1 [S ([116,105,116,108,101,32]++((t::o)++([32,47,32]++z)))] ?_ ?_ ?_ ?_ ?_ ?_ ?_ ?_);(focus rfl);(focus exact(ax.o.alloc _));(focus rfl);(focus rfl);(focus exact cell_one_new _ _ _);(focus simp[hB]);(focus (unfold maxLen;omega));(focus omega);(focus (simp;omega));intro v' w5 al ac _ _;have av:Hid (w5.ownsRow (w.heap.size+1) 9 1 v' (f++[[116,105,116,108,101,32]++((t::o)++([32,47,32]++z))]).length ((f++[[116,105,116,108,101,32]++((t::o)++([32,47,32]++z))]).map λs=>S s)):=(by rw[hb,hy];exact al);have b0:=Z ac;clear al ac)
   |(refine⟨trivial,?_⟩;gi_at_call 186;refine(callsIn_wide.2 (aS _ _ av.o)).mono ?_;rintro e w6⟨rfl,bd,b9,bb⟩;have b5:=Z bd;have c6:=Z b9;have cc:=Z bb;clear bd b9 bb)
   |(refine⟨trivial,?_⟩;gi_at_call 187;refine(callsIn_wide.2 (aT _ _ b5.o)).mono ?_;rintro e w7⟨v7,rfl,bk,a3,bc⟩;have cm:=Z bk;have c7:=Z a3;have cd:=Z bc;clear bk a3 bc))
  have ay:Bw W (W.alloc (fs #[S ([116,105,116,108,101,32]++((t::o)++([32,47,32]++z)))] 9)):=(hn _ W).alloc (hd _) _;have cv:=af b3.o;have az:∀(A:World)(v:Value)(xs:List Value)n,A.heap[D]?=X (.deferred (X []))->A.ownsRow (w.heap.size+1) 9 1 v n xs->v.ownBlock≠X D:=λA v xs n hX hr e=>by
   obtain⟨dq,B⟩:=aK hr e;rw[hX]at B;injection B with B
   exact Obj.noConfusion B
  have k9:=(ay.block D cv).trans b3.o;have k5:w5.heap[D]?=X (.deferred (X [])):=(b0.block D (af k9) (λe=>az _ _ _ _ k9 (ax.alloc _) e.symm)).trans k9;have k6:=(cc D (af k5) (az _ _ _ _ k5 av.o)).trans k5;have k7:=(cd D (af k6) (az _ _ _ _ k6 b5.o)).trans k6;refine⟨by simp,.inl ⟨_,_,rfl,run_takeDeferred k7,?_⟩⟩;have fr:w+1<=D:=by omega
  have g5:=ay.size;have aa:Below (w.heap.size+1) W w5:=(ay.mono (by omega)).grown b0.o (by omega) (λg hg=>(ax.o.lt g hg).1);have a3:Below (w.heap.size+1) W w7:=(aa.trans c6.o).trans c7.o;have cQ:Bw w W:=⟨F.o.os.trans L.2.os,F.o.tape.trans L.2.tape,F.o.output.trans L.2.output,hm L.2.size F.o.size,λk T=>(F.o.block k (by have:=L.2.size;omega) (by omega)).trans (L.2.block k T)⟩;refine⟨_,results_tmp rfl _ _ _,v7,rfl,?_,(cQ.trans (a3.mono (by omega))).trans (belowK_b (w:=w) (hd _) w7 D _ _ (by omega) k7 rfl rfl)⟩;rw[ch.o,cg.o];exact ownsRow_putObj (aD cm.o (by omega)) _ k7 rfl
 rintro l M bv x W⟨rfl,G⟩hG;have B:=(ab G.d 0).trans rfl;have hf:=ae G.d 0;have F:=Z G;clear G;gi_wp2
 exact⟨KeepsOthers.setCell _ _ _,rfl,x,rfl,F.set x⟩
end
end Go.Proofs.YtjcimanddakkaaaGreatDoor
