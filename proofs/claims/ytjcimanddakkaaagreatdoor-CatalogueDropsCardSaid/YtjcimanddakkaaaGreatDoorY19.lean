/- Lemmas. -/
import Derived.Test.YtjcimanddakkaaaGreatDoorY18
set_option maxRecDepth 100000
set_option maxHeartbeats 8000000
namespace Go.Proofs.YtjcimanddakkaaaGreatDoor
open _root_.Option renaming none→Y,some→X
open Go.Value renaming int→J,slice→hb,bool→hc,pointer→hk
open Go.IntKind renaming u8→a1,i64→U
open Go.Ending renaming returned→fn
open Go.Obj renaming cells→fs
open Go.Lib renaming hid→Z
open Tryz
open _root_.List renaming length_append→hn,length_mergeSort→ho,length_cons→hA,length_nil→hB,map_append→hN,append_nil→hO,take_of_length_le→hQ
open _root_.Nat renaming le_refl→hu,lt_of_lt_of_le→hF,le_trans→hH,one_pos→hV
open Go.World renaming alloc_heap_new→hy,size_alloc→hM,size_setCell→hT
open Go.RowKit.Below renaming refl→hJ
open Go renaming wpListIn_append_own_at→hL
open Go.Value renaming oneCell'→hP
section
open Go.RowKit Go.Maps Go.Shelf
attribute [local go_sem] Oper.semAt_some
theorem mT (a:List af) (h:bH a):(aP a).length<=10000000:=by
 unfold aP fT;have b:=eB h bZ [97,98];generalize textF (firstF a bZ) [97,98]=t at *;generalize wI (firstF a bZ)=k;have c:(t.drop k).length<=1000000:=by rw [List.length_drop];omega
 have:=lu (bd (t.drop k));have:=jo (t.drop k);have:=ez (t.drop k);omega
structure pp (W0:World) (D:Nat) (z:Bs) (M:Nat->Prop) (W:World):Prop where
 os:W.os=W0.os
 tape:W.tape=W0.tape
 output:W.output=W0.output
 size:W0.heap.size<=W.heap.size
 block:∀k,k<W0.heap.size->k≠D->W.heap[k]? =W0.heap[k]?
 d:W.heap[D]? =some (.cells #[S z] 9 (0,0))
 m:∀k,M k->k<W.heap.size/\W0.heap.size<=k
theorem pp.turn {b:World} {D:Nat} (l:D<b.heap.size) {z:Bs} {M g:Nat->Prop} {c i:World} (h:pp b D z M c) (t:cV b.heap.size M c g i):pp b D z g i:=by
 have n:D<c.heap.size:=hF l h.size;refine ⟨t.os.trans h.os,t.tape.trans h.tape,t.output.trans h.output,hH h.size t.size,λk a o=>(t.block k (hF a h.size) (λf=>by have:=(h.m k f).2;omega) (λj=>by omega)).trans (h.block k a o),(t.block D n (λf=>by have:=(h.m D f).2;omega) (λj=>by omega)).trans h.d,λk a=>⟨t.lt k a,?_⟩⟩;rcases t.new k a with e|e
 · exact (h.m k e).2
 · exact hH h.size e
theorem pp.set {b:World} {D:Nat} {z:Bs} {M:Nat->Prop} {W:World} (h:pp b D z M W) (x:Bs):pp b D x M (W.setCell ⟨D,0,Y⟩ (S x)):=
 ⟨h.os,h.tape,h.output,by rw [hT];exact h.size,λk a c=>(Below.heap_setCell _ _ _ _ c).trans (h.block k a c),(am h.d 0 _).trans rfl,λk a=>by rw [hT];exact h.m k a⟩
theorem zV (k l:UInt8) (x:Value) (a:List af) (w:World) (hs:ai 0 w.heap.size w x a) (a6:bH a):
 Calls prog 130 #[.agg #[J a1 k.toNat,J a1 l.toNat,x]] w λe w'=>∃v,e=fn v/\w'.ownsRow w.heap.size 9 1 v (keysR a).length ((keysR a).map λs=>S s)/\Bw w w':=by
 obtain ⟨w1,bw⟩:=Qe (w.alloc (fs #[J a1 k.toNat,J a1 l.toNat,x] 62));have d3:Bw w w1:=by rw [<- bw];exact (hJ _ w).alloc (hu _) _
 have hR:=hy w (fs #[J a1 k.toNat,J a1 l.toNat,x] 62);rw [bw] at hR;have dr:Hid (∀W,Bw w W->ai 0 W.heap.size W x a):=λW N=>(fm hs (hu _) N).mono (hu _) N.size;have f7:Hid (∀W,Bw w W->ai 0 w.heap.size W x a):=λW N=>hs.kept (λg _ hg=>N.block g hg);have HT:Hid (∀W,Bw w W->Calls prog 178 #[.agg #[J a1 k.toNat,J a1 l.toNat,x]] W λe w'=>e=fn (S (aP a))/\Bw W w'):=λW N=>mU k l x a W (dr W N) a6;have b8:=Z a6;have HX:=Z (λW (N:Bw w W)=>pG k l x a [49,48,48] [97] W (dr W N) a6);obtain ⟨a0,c0,rfl⟩:=hs.shape;have h5:=a6.1;have HR:=Z hR;have f0:=Z d3;have bB:w1.heap.size=w.heap.size+1:=by rw [<- bw];simp
 have fx:=Z bB;have fr:=Z bw;clear hs a6 d3 hR bB bw;obtain ⟨i0,hi,au,bB,ex⟩:=info_parts i9;have HI:=Z hi;have ce:=Z au;have cg:=Z bB;have ch:=Z ex;clear hi au bB ex;refine (callsIn_wide (n:=10)).1 ?_;refine callsIn_of_wp_marks func130 rfl trivial ?_ rfl;simp only [ntmps130,List.size_toArray,hA,hB,Nat.reduceAdd,Nat.reduceSub,Array.replicate_succ,Array.replicate_zero,List.push_toArray,List.append_toArray,List.nil_append,List.cons_append];gi_wp2
 rw [fr.o];have cP:Hid (∀W,Below (w.heap.size+1) w1 W->Bw w W/\W.cell? ⟨w.heap.size,0,Y⟩=X (J a1 k.toNat)/\W.cell? ⟨w.heap.size,1,Y⟩=X (J a1 l.toNat)/\W.cell? ⟨w.heap.size,2,Y⟩=X (hb a0 a.length c0)):=λW N=>by have h:=(N.block w.heap.size (by omega)).trans HR.o;exact ⟨f0.o.trans (N.mono (by omega)),(aa h 0).trans rfl,(aa h 1).trans rfl,(aa h 2).trans rfl⟩
 gi_loopw [3,18] (λv i wr=>∃q:Nat,q<=a.length/\i=J U q/\Hid (wr.ownsRow (w.heap.size+1) 9 1 v ((booksR (a.take q)).map isbnK).length (((booksR (a.take q)).map isbnK).map λs=>S s))/\Hid (Below (w.heap.size+1) w1 wr)/\w.heap.size+1<=wr.heap.size) (λ_ i _=>a.length - (intOf i).toNat)
 case atStart=>exact ⟨0,Nat.zero_le _,rfl,World.ownsRow_nil _ _ _ _,hJ _ _,by have:=fx.o;omega⟩
 case round=>
  obtain ⟨q,hq,rfl,HO,HB,hz⟩:=hrel;by_cases hlt:q<a.length
  · have a4:=(cP wr HB.o).1;have eq:ai 0 w.heap.size wr (hb a0 a.length c0) a:=f7 _ a4;have h9:w.heap.size<=wr.heap.size:=a4.size;obtain ⟨b,hd,gO,d,hv,d3,h2,e0,e1,e2,e3,d5⟩:=eq.field q hlt;cases hv;have a6:=b8.2 _ (List.getElem_mem hlt);have HN:=Z (lW a q hlt);rw [lY] at HN;have h7:a[q].subs.length<=1000000:=hH (cK _) a6;have f8:Hid (∀s∈a[q].subs,s.text.length<=1000000):=λs hs=>kV a6 hs;obtain ⟨da,dc,rfl,_⟩:=id d5;have f9:=Z d5;have g6:=fQ a q b8.o;clear d5 eq a6 a4;generalize a[q].tag=TG at *;generalize a[q].ind=IN at *;generalize a[q].data=DT at *;generalize a[q].subs=ss at *;by_cases hTG:TG=[48,50,48]
    · subst hTG;obtain ⟨R,hR⟩:=Qe wr.heap.size;obtain ⟨wq,bA⟩:=Qe (wr.alloc (fs #[S [48,50,48],S IN,S DT,hb da ss.length dc] 123));have c9:Bw wr wq:=by rw [<- bA];exact (hJ _ wr).alloc (hu _) _
      have e8:wq.heap[R]? =X (fs #[S [48,50,48],S IN,S DT,hb da ss.length dc] 123 (0,0)):=by rw [<- bA, <- hR];exact hy wr _
      have f3:=Z e8;have f2:Hid (Below (w.heap.size+1) w1 wq):=HB.trans (c9.mono hz);have f4:Hid (wq.ownsRow (w.heap.size+1) 9 1 u3 ((booksR (a.take q)).map isbnK).length (((booksR (a.take q)).map isbnK).map λs=>S s)):=ah HO.o (λg hg=>c9.block g (HO.lt g hg).2);have fc:Hid (aA 0 w.heap.size wq (hb da ss.length dc) ss):=f9.o.kept (λg _ hg=>c9.block g (by omega));have eQ:wq.heap.size=R+1:=by rw [<- bA, <- hR];simp
      have fy:=Z eQ;have f6:=Z hR;have ft:=Z bA;have h8:w.heap.size+1<=R:=by omega
      clear bA c9 e8 eQ hR;gi_wp2
      rw [ft.o,f6.o];gi_loopw [3,28] (λv j wr=>∃p:Nat,p<=ss.length/\j=J U p/\Hid (wr.ownsRow (w.heap.size+1) 9 1 v ((booksR (a.take q)++bookS [48,50,48] (ss.take p)).map isbnK).length (((booksR (a.take q)++bookS [48,50,48] (ss.take p)).map isbnK).map λs=>S s))/\Hid (Below (w.heap.size+1) w1 wr)/\Hid (wr.heap[R]? =X (fs #[S [48,50,48],S IN,S DT,hb da ss.length dc] 123 (0,0)))/\Hid (aA 0 w.heap.size wr (hb da ss.length dc) ss)/\R+1<=wr.heap.size) (λ_ j _=>ss.length - (intOf j).toNat)
      case atStart=>exact ⟨0,Nat.zero_le _,rfl,by
       have e:booksR (a.take q)++bookS [48,50,48] (ss.take 0)=booksR (a.take q):=by unfold bookS;simp
       rw [e];exact f4,f2,f3,fc,by have:=fy.o;omega⟩
      case round=>
       obtain ⟨p,hp,rfl,a2,c2,a7,c6,h0⟩:=hrel;by_cases hlp:p<ss.length
       · obtain ⟨b',he,gP,hv,_,h3,d0,d1⟩:=c6.sub p hlp;cases hv;have cx:=Z (lX [48,50,48] ss p hlp);have d6:=f8 _ (List.getElem_mem hlp);generalize ss[p].code=C at *;generalize ss[p].text=A at *;have h4:b'<wr.heap.size:=by omega
         have ds:Hid ((bookS [48,50,48] (ss.take p)).length<=1000000):=by have h1:=jM [48,50,48] (ss.take p);rw [List.length_take] at h1;unfold Hid;omega
         obtain ⟨f,a9⟩:=Qe (booksR (a.take q)++bookS [48,50,48] (ss.take p));have e9:f.length<=2000000000000:=by have:=g6;have:=ds.o;rw [<- a9,hn];omega
         rw [a9] at a2;have cu:=Z a9;clear a9 ds;obtain ⟨LK,c7⟩:=Qe (f.map isbnK);rw [c7] at a2;have gQ:LK.length<=2000000000000:=by rw [<- c7,List.length_map];exact e9
         have cv:=Z c7;clear c7 e9;cases hI:isbnR A with
         |none=>
          have c4:Hid (∀W,Calls prog 180 #[S A] W λe w'=>e=fn (.tuple #[S [],hc false])/\Bw W w'):=λW=>by have:=jd A W (by omega);rw [hI] at this;exact this
          have P:Hid ((booksR (a.take q)++bookS [48,50,48] (ss.take (p+1))).map isbnK=LK):=by unfold Hid;rw [cx.o,hI, <- cv.o, <- cu.o];split<;>simp
          clear hI;gi_wp2_with (refine ⟨trivial,?_⟩;gi_at_call 180;refine (callsIn_wide.2 (c4.o _)).mono ?_;rintro e H ⟨rfl,u⟩;have a5:Bw wr H:=(ba wr _).trans (u.mono (by simp));have E:=Z a5;clear a5 u)
          go_roundw
          case rel=>exact ⟨p+1,hlp,by go_num,by unfold Hid;rw [P.o];exact ah a2.o (λg hg=>E.o.block g (a2.o.lt g hg).2),c2.o.trans (E.o.mono (by omega)),(E.o.block _ (ae a7.o)).trans a7.o,c6.o.kept (λg _ hg=>E.o.block g (by omega)),by have:=E.o.size;omega⟩
          case measure=>simp [intOf];omega
         |some n=>
          have c4:Hid (∀W,Calls prog 180 #[S A] W λe w'=>e=fn (.tuple #[S n,hc true])/\Bw W w'):=λW=>by have:=jd A W (by omega);rw [hI] at this;exact this
          have h6:n.length<=13:=eR hI;by_cases hC:C=97
          · have g2:((C.toNat:Int)==97)=true:=by rw [hC];rfl
            have P:Hid ((booksR (a.take q)++bookS [48,50,48] (ss.take (p+1))).map isbnK=LK++[[105,115,98,110,32]++n]):=by unfold Hid;rw [cx.o,hI, <- cv.o, <- cu.o,if_pos ⟨rfl,hC⟩];simp [isbnK]
            have s1:¬9223372036854775807<5+n.length:=by omega
            clear hI hC
            gi_wp2_with (first
             |(refine ⟨trivial,?_⟩;gi_at_call 180;refine (callsIn_wide.2 (c4.o _)).mono ?_;rintro e H ⟨rfl,u⟩;have a5:Bw wr H:=(ba wr _).trans (u.mono (by simp));have z0:=((aE u).1 wr.heap.size 0 (by simp));have a8:Hid (H.ownsRow (w.heap.size+1) 9 1 u3 LK.length (LK.map λs=>S s)):=ah a2.o (λg hg=>a5.block g (a2.o.lt g hg).2);have E:=Z a5;clear a5 u)
             |(gi_at_builtin;(refine hL _ rfl _ _ 81 rfl (w.heap.size+1) 9 i0 (.string ⟨#[]⟩) 1 16 underlying81 HI.o ce.o cg.o ch.o rfl hV u3 LK.length (LK.map λs=>S s) ?_ ?_ ⟨H.heap.size,0,Y⟩ 1 1 [S ([105,115,98,110,32]++n)] ?_ ?_ ?_ ?_ ?_ ?_ ?_ ?_);(focus rfl);(focus exact (a8.o.alloc _));(focus rfl);(focus rfl);(focus exact cell_one_new _ _ _);(focus simp [hP]);(focus (unfold maxLen;omega));(focus omega);(focus (have:=E.o.size;simp;omega));intro v' r ao al _ _;have av:=Z ao;have Q:Bw wr (H.alloc (fs #[S ([105,115,98,110,32]++n)] 9)):=E.o.alloc E.o.size _;have c3:=Z al;have O:=Z Q;clear ao al Q))
            go_roundw
            case rel=>
             have Q:Below (w.heap.size+1) w1 r:=(c2.o.trans (O.o.mono (by omega))).grown c3.o (by have:=O.o.size;omega) (λg hg=>(a8.o.lt g hg).1);have ha:wr.heap.size<=r.heap.size:=hH O.size c3.size;have g5:r.heap[R]? =wr.heap[R]? :=by
              have hl:=hF (ae a7.o) O.size;rw [c3.o.block R hl (λe=>?_)]
              · exact O.block _ (ae a7.o)
              · obtain ⟨e5,B⟩:=aD a2.o e.symm;rw [a7.o] at B;injection B with B
                injection B with _ B
                exact absurd B (by decide)
             refine ⟨p+1,hlp,by go_num,?_,Q,g5.trans a7.o,c6.o.kept (λg _ hg=>?_),by omega⟩
             · unfold Hid;rw [P.o,hn,hN];exact av.o
             · rw [c3.o.block g (hF (show g<wr.heap.size by omega) O.o.size) (λe=>by have:=(a8.o.lt g e.symm).1;omega)];exact O.o.block g (by omega)
            case measure=>simp [intOf];omega
          · have g2:((C.toNat:Int)==97)=false:=by have:C.toNat≠97:=λh=>hC (UInt8.toNat_inj.1 h);simp;omega
            have P:Hid ((booksR (a.take q)++bookS [48,50,48] (ss.take (p+1))).map isbnK=LK):=by unfold Hid;rw [cx.o, <- cv.o, <- cu.o,if_neg (λh=>hC h.2),hO]
            clear hI hC;gi_wp2_with (refine ⟨trivial,?_⟩;gi_at_call 180;refine (callsIn_wide.2 (c4.o _)).mono ?_;rintro e H ⟨rfl,u⟩;have a5:Bw wr H:=(ba wr _).trans (u.mono (by simp));have z0:=((aE u).1 wr.heap.size 0 (by simp));have E:=Z a5;clear a5 u)
            go_roundw
            case rel=>exact ⟨p+1,hlp,by go_num,by unfold Hid;rw [P.o];exact ah a2.o (λg hg=>E.o.block g (a2.o.lt g hg).2),c2.o.trans (E.o.mono (by omega)),(E.o.block _ (ae a7.o)).trans a7.o,c6.o.kept (λg _ hg=>E.o.block g (by omega)),by have:=E.o.size;omega⟩
            case measure=>simp [intOf];omega
       · have P:Hid ((booksR (a.take (q+1))).map isbnK=(booksR (a.take q)++bookS [48,50,48] (ss.take p)).map isbnK):=by unfold Hid;rw [HN.o,show ss.take p=ss from hQ (by omega)]
         gi_wp2
         go_roundw
         case rel=>exact ⟨q+1,hlt,by go_num,by unfold Hid;rw [P.o];exact a2.o,c2.o,by omega⟩
         case measure=>simp [intOf];omega
    · have P:Hid (booksR (a.take (q+1))=booksR (a.take q)):=by unfold Hid;rw [HN.o];unfold bookS;rw [if_neg (show ¬TG=eb from hTG),hO]
      have b1:(TG !=[48,50,48])=true:=by simpa using hTG
      have b2:(TG==[48,50,48])=false:=by simpa using hTG
      gi_wp2
      go_roundw
      case rel=>exact ⟨q+1,hlt,by go_num,by unfold Hid;rw [P.o];exact ah HO.o (λg hg=>(ba wr _).block g (HO.o.lt g hg).2),HB.o.trans ((ba wr _).mono hz),by simp;omega⟩
      case measure=>simp [intOf];omega
  · have P:Hid ((booksR (a.take q)).map isbnK=(booksR a).map isbnK):=by unfold Hid;rw [hQ (by omega)]
    rw [P.o] at HO;obtain ⟨a4,r0,r1,r2⟩:=cP wr HB.o;have g0:((booksR a).map isbnK).length<=1000000000000:=by rw [List.length_map];have:=fQ a a.length b8.o;rwa [List.take_length] at this
    obtain ⟨f,a9⟩:=Qe ((booksR a).map isbnK);rw [a9] at HO g0;have cz:Hid (rawR a=f++(if aP a=[] then [] else [nQ a])):=by unfold Hid rawR;rw [a9]
    have dx:=Z (HT wr a4);have dy:Hid (nQ a=[116,105,116,108,101,32]++aP a++[32,47,32]++(br a).headD []):=rfl;have cs:Hid (keysR a=Lib.compact ((rawR a).mergeSort λx y=>decide (x<=y))):=rfl;have c1:=Z a4;have cQ:=Z (λW (N:Bw wr W)=>HX W (a4.trans (N.mono a4.size)));have cb:Hid (br a=bd (textF (firstF a [49,48,48]) [97])):=rfl;have dz:=Z (eB b8.o [49,48,48] [97]);clear a9 a4 HX HT;have fl:=Z (mT a b8.o);generalize aP a=o at *;rcases o with _|⟨t,o⟩
    · have f5:Hid (rawR a=f):=by unfold Hid;rw [cz.o,if_pos rfl,hO]
      have b0:=Z (λW (h:W.ownsRow (w.heap.size+1) 9 1 u3 f.length (f.map λs=>S s))=>kW (w.heap.size+1) W u3 f h (by omega));have b3:=Z (λW (h:W.ownsRow (w.heap.size+1) 9 1 u3 f.length ((f.mergeSort λx y=>decide (x<=y)).map λs=>S s))=>gG (w.heap.size+1) W u3 (f.mergeSort λx y=>decide (x<=y)) (by rw [ho];exact h) (by rw [ho];omega))
      gi_wp2_with (first
       |(refine ⟨trivial,?_⟩;gi_at_call 178;refine (callsIn_wide.2 dx.o).mono ?_;rintro e H ⟨rfl,u⟩;have a8:Hid (H.ownsRow (w.heap.size+1) 9 1 u3 f.length (f.map λs=>S s)):=ah HO.o (λg hg=>u.block g (HO.lt g hg).2);have bY:=Z u;clear u)
       |(refine ⟨trivial,?_⟩;gi_at_call 186;refine (callsIn_wide.2 (b0 _ a8.o)).mono ?_;rintro e r ⟨rfl,ej,Q,_⟩;have av:=Z ej;have O:=Z Q;clear ej Q)
       |(refine ⟨trivial,?_⟩;gi_at_call 187;refine (callsIn_wide.2 (b3 _ av.o)).mono ?_;rintro e w5 ⟨v',rfl,em,ac,_⟩;have ax:=Z em;have f1:=Z ac;clear em ac))
      refine ⟨_,results_tmp rfl _ _ _,?_⟩;have g1:=c1.size;have u:Bw w H:=c1.trans (bY.mono g1);have ac:Bw w w5:=(u.trans (O.o.mono (by omega))).trans (f1.o.mono (by omega));refine ⟨v',rfl,?_,ac⟩;rw [cs.o,f5.o];exact bu ax.o (by omega)
    · have d6:(t::o).length<=10000000:=fl.o;obtain ⟨V,er⟩:=Qe (textF (firstF a [49,48,48]) [97]);rw [er] at cQ cb dz;have gp:V.length<=1000000:=dz.o;unfold mh at cQ;generalize (firstF a [49,48,48]).getD zeroF=g at *;obtain ⟨gt,gi,gd,gs⟩:=g;clear er
      gi_wp2_with (first
       |(refine ⟨trivial,?_⟩;gi_at_call 178;refine (callsIn_wide.2 dx.o).mono ?_;rintro e H ⟨rfl,u⟩;obtain ⟨_,hh,hj,hm⟩:=cP H (HB.trans (u.mono hz));have a8:Hid (H.ownsRow (w.heap.size+1) 9 1 u3 f.length (f.map λs=>S s)):=ah HO.o (λg hg=>u.block g (HO.lt g hg).2);have fp:=Z (cQ H u);have bY:=Z u;clear u)
       |(refine ⟨trivial,?_⟩;gi_at_call 184;refine (callsIn_wide.2 fp.o).mono ?_;rintro e r ⟨⟨v,rfl,dd,rfl,ad,cp,rfl,_⟩,Q⟩;have av:Hid (r.ownsRow (w.heap.size+1) 9 1 u3 f.length (f.map λs=>S s)):=ah a8.o (λg hg=>Q.block g (a8.lt g hg).2);have O:Hid (Bw wr r):=bY.trans (Q.mono bY.size);clear Q)
       |(refine ⟨trivial,?_⟩;gi_at_call 185;refine (callsIn_wide.2 (jp V _)).mono ?_;rintro e w1 ⟨rfl,rfl⟩))
      obtain ⟨I,aT⟩:=Qe ((((r.alloc (fs #[S gt,S gi,S gd,hb ad gs.length cp] 123)).alloc (fs #[S []] 9)).alloc (fs #[S V] 9)));have es:I.heap.size=r.heap.size+3:=by rw [<- aT];simp
      have d4:Bw r I:=by rw [<- aT];exact (((hJ _ r).alloc (hu _) _).alloc (by simp) _).alloc (by simp;omega) _
      have e6:I.heap[r.heap.size+1]? =X (fs #[S []] 9 (0,0)):=by rw [<- aT,Below.heap_alloc _ _ _ (by simp)];have:=hy (r.alloc (fs #[S gt,S gi,S gd,hb ad gs.length cp] 123)) (fs #[S []] 9);rwa [hM] at this
      have eg:I.cell? ⟨r.heap.size+2,0,Y⟩=X (S V):=by have:=hy ((r.alloc (fs #[S gt,S gi,S gd,hb ad gs.length cp] 123)).alloc (fs #[S []] 9)) (fs #[S V] 9);rw [hM,hM,aT] at this;exact (aa this 0).trans rfl
      have c5:Hid (I.ownsRow (w.heap.size+1) 9 1 u3 f.length (f.map λs=>S s)):=ah av.o (λg hg=>d4.block g (av.lt g hg).2);have dk:Hid (∀g,u3.ownBlock=X g->g<r.heap.size):=λg hg=>(av.lt g hg).2;have d9:Hid (w.heap.size+1<=r.heap.size/\Bw w I):=by have h1:=O.size;exact ⟨by omega,(c1.o.trans (O.o.mono c1.o.size)).trans (d4.mono (by omega))⟩
      have g9:=jq 9 (by omega) (r.heap.size+2) V gp I eg;have gn:pp I (r.heap.size+1) [] (λ_=>False) I:=⟨rfl,rfl,rfl,hu _,λ_ _ _=>rfl,e6,λk T=>T.elim⟩;have e7:r.heap.size+1<I.heap.size:=by omega
      have e4:=Z es;rw [aT];clear aT d4 e6 eg es
      refine kK rfl (by decide) (gf:=247) (lb:= #[hk (X ⟨r.heap.size+2,0,Y⟩)]) ?hg trivial (enters_of func247 (by kernel_rfl) rfl) g9 (λk T=>T.elim) (hJ _ _) (λ_=>rfl)
       (λM bO W=>bO=[]/\pp I (r.heap.size+1) [] M W) (λc M bO W=>c= .exit 4/\∃x,bO=[x]/\pp I (r.heap.size+1) x M W) (λM s A M' fz h ht=>⟨h.1,h.2.turn e7 ht⟩) (λc M s A M' fz h ht=>⟨h.1,h.2.imp λx hx=>⟨hx.1,hx.2.turn e7 ht⟩⟩) (λM s A h k T=>(h.2.m k T).1) (λc M s A h k T=>by obtain ⟨_,x,_,hw⟩:=h;exact (hw.m k T).1)
       ⟨rfl,gn⟩ ?a1 ?assign ?body ?done ?stop
      case hg=>simp [Act.eval]
      case assign=>
       intro l x W K hK;gi_wp2
       exact hK
      case done=>
       rintro D M zs W hD hS ⟨rfl,G⟩ b9;obtain ⟨z,hz⟩:∃z:Bs,z=[]:=⟨_,rfl⟩;rw [<- hz] at G;have au:(bd V).headD []=z:=by rw [<- hS,hz];rfl
       have gx:z.length<=4000000:=by rw [hz];simp
       clear hS hz;have bb:W.ownsRow (w.heap.size+1) 9 1 u3 f.length (f.map λs=>S s):=ah c5.o (λg hg=>G.block g (c5.o.lt g hg).2 (λe=>by have:=dk.o g hg;omega));have g8:W.cell? ⟨r.heap.size+1,0,Y⟩=X (S z):=(aa G.d 0).trans rfl;have gb:o.length+1<=10000000:=by simpa using d6
       have s1:¬9223372036854775807<6+(o.length+1):=by omega
       have gy:¬9223372036854775807<o.length+1+1+1+1+1+1+1+3:=by omega
       have gz:¬9223372036854775807<o.length+3+1+1+1+1+1+1+1+z.length:=by omega
       have b6:Hid (rawR a=f++[[116,105,116,108,101,32]++(t::o)++[32,47,32]++z]):=by unfold Hid;rw [cz.o,if_neg (by simp),dy.o,cb.o,au]
       have cq:Hid (rawR a=f++[[116,105,116,108,101,32]++((t::o)++([32,47,32]++z))]):=by unfold Hid;rw [b6.o];simp
       have b0:=Z (λW v (h:W.ownsRow (w.heap.size+1) 9 1 v (f++[[116,105,116,108,101,32]++((t::o)++([32,47,32]++z))]).length ((f++[[116,105,116,108,101,32]++((t::o)++([32,47,32]++z))]).map λs=>S s))=>kW (w.heap.size+1) W v _ h (by rw [hn];simp only [hA,hB];omega));have b3:=Z (λW v (h:W.ownsRow (w.heap.size+1) 9 1 v (f++[[116,105,116,108,101,32]++((t::o)++([32,47,32]++z))]).length (((f++[[116,105,116,108,101,32]++((t::o)++([32,47,32]++z))]).mergeSort λx y=>decide (x<=y)).map λs=>S s))=>gG (w.heap.size+1) W v ((f++[[116,105,116,108,101,32]++((t::o)++([32,47,32]++z))]).mergeSort λx y=>decide (x<=y)) (by rw [ho];exact h) (by rw [ho,hn];simp only [hA,hB];omega));have F:=Z G;have ay:=Z bb;have b5:=Z b9;have L:=d9.o;have g7:=F.size;have g4:=e4.o;clear G bb au b9 b6
       gi_wp2_with (first
        |(gi_at_builtin;(refine hL _ rfl _ _ 81 rfl (w.heap.size+1) 9 i0 (.string ⟨#[]⟩) 1 16 underlying81 HI.o ce.o cg.o ch.o rfl hV u3 f.length (f.map λs=>S s) ?_ ?_ ⟨W.heap.size,0,Y⟩ 1 1 [S ([116,105,116,108,101,32]++((t::o)++([32,47,32]++z)))] ?_ ?_ ?_ ?_ ?_ ?_ ?_ ?_);(focus rfl);(focus exact (ay.o.alloc _));(focus rfl);(focus rfl);(focus exact cell_one_new _ _ _);(focus simp [hP]);(focus (unfold maxLen;omega));(focus omega);(focus (simp;omega));intro v' w5 ao al _ _;have ax:Hid (w5.ownsRow (w.heap.size+1) 9 1 v' (f++[[116,105,116,108,101,32]++((t::o)++([32,47,32]++z))]).length ((f++[[116,105,116,108,101,32]++((t::o)++([32,47,32]++z))]).map λs=>S s)):=(by rw [hn,hN];exact ao);have b4:=Z al;clear ao al)
        |(refine ⟨trivial,?_⟩;gi_at_call 186;refine (callsIn_wide.2 (b0 _ _ ax.o)).mono ?_;rintro e w6 ⟨rfl,bt,bc,bk⟩;have b7:=Z bt;have cc:=Z bc;have cl:=Z bk;clear bt bc bk)
        |(refine ⟨trivial,?_⟩;gi_at_call 187;refine (callsIn_wide.2 (b3 _ _ b7.o)).mono ?_;rintro e w7 ⟨v7,rfl,bv,a3,bs⟩;have cy:=Z bv;have cd:=Z a3;have cm:=Z bs;clear bv a3 bs))
       have aC:Bw W (W.alloc (fs #[S ([116,105,116,108,101,32]++((t::o)++([32,47,32]++z)))] 9)):=(hJ _ W).alloc (hu _) _;have d2:=ae b5.o;have aS:∀(A:World) (v:Value) (xs:List Value) n,A.heap[D]? =X (.deferred (X []))->A.ownsRow (w.heap.size+1) 9 1 v n xs->v.ownBlock≠X D:=λA v xs n hX hr e=>by
        obtain ⟨e5,B⟩:=aD hr e;rw [hX] at B;injection B with B
        exact Obj.noConfusion B
       have k9:=(aC.block D d2).trans b5.o;have k5:w5.heap[D]? =X (.deferred (X [])):=(b4.block D (ae k9) (λe=>aS _ _ _ _ k9 (ay.alloc _) e.symm)).trans k9;have k6:=(cl D (ae k5) (aS _ _ _ _ k5 ax.o)).trans k5;have k7:=(cm D (ae k6) (aS _ _ _ _ k6 b7.o)).trans k6;refine ⟨by simp, .inl ⟨_,_,rfl,run_takeDeferred k7,?_⟩⟩;have g3:w.heap.size+1<=D:=by omega
       have gq:=aC.size;have ac:Below (w.heap.size+1) W w5:=(aC.mono (by omega)).grown b4.o (by omega) (λg hg=>(ay.o.lt g hg).1);have a3:Below (w.heap.size+1) W w7:=(ac.trans cc.o).trans cd.o;have d7:Bw w W:=⟨F.o.os.trans L.2.os,F.o.tape.trans L.2.tape,F.o.output.trans L.2.output,hH L.2.size F.o.size,λk T=>(F.o.block k (by have:=L.2.size;omega) (by omega)).trans (L.2.block k T)⟩;refine ⟨_,results_tmp rfl _ _ _,v7,rfl,?_,(d7.trans (a3.mono (by omega))).trans (belowK_b (w:=w) (hu _) w7 D _ _ (by omega) k7 rfl rfl)⟩;rw [cs.o,cq.o];exact ownsRow_putObj (bu cy.o (by omega)) _ k7 rfl
      case stop=>
       rintro D c M bO W hD hS ⟨rfl,z,rfl,G⟩ b9;obtain ⟨zz,d8⟩:=hS.2;have au:(bd V).headD []=z:=by rw [<- d8];rfl
       have gx:z.length<=4000000:=by have:=kL V z (by rw [<- d8];simp);omega
       clear hS d8;have bb:W.ownsRow (w.heap.size+1) 9 1 u3 f.length (f.map λs=>S s):=ah c5.o (λg hg=>G.block g (c5.o.lt g hg).2 (λe=>by have:=dk.o g hg;omega));have g8:W.cell? ⟨r.heap.size+1,0,Y⟩=X (S z):=(aa G.d 0).trans rfl;have gb:o.length+1<=10000000:=by simpa using d6
       have s1:¬9223372036854775807<6+(o.length+1):=by omega
       have gy:¬9223372036854775807<o.length+1+1+1+1+1+1+1+3:=by omega
       have gz:¬9223372036854775807<o.length+3+1+1+1+1+1+1+1+z.length:=by omega
       have b6:Hid (rawR a=f++[[116,105,116,108,101,32]++(t::o)++[32,47,32]++z]):=by unfold Hid;rw [cz.o,if_neg (by simp),dy.o,cb.o,au]
       have cq:Hid (rawR a=f++[[116,105,116,108,101,32]++((t::o)++([32,47,32]++z))]):=by unfold Hid;rw [b6.o];simp
       have b0:=Z (λW v (h:W.ownsRow (w.heap.size+1) 9 1 v (f++[[116,105,116,108,101,32]++((t::o)++([32,47,32]++z))]).length ((f++[[116,105,116,108,101,32]++((t::o)++([32,47,32]++z))]).map λs=>S s))=>kW (w.heap.size+1) W v _ h (by rw [hn];simp only [hA,hB];omega));have b3:=Z (λW v (h:W.ownsRow (w.heap.size+1) 9 1 v (f++[[116,105,116,108,101,32]++((t::o)++([32,47,32]++z))]).length (((f++[[116,105,116,108,101,32]++((t::o)++([32,47,32]++z))]).mergeSort λx y=>decide (x<=y)).map λs=>S s))=>gG (w.heap.size+1) W v ((f++[[116,105,116,108,101,32]++((t::o)++([32,47,32]++z))]).mergeSort λx y=>decide (x<=y)) (by rw [ho];exact h) (by rw [ho,hn];simp only [hA,hB];omega));have F:=Z G;have ay:=Z bb;have b5:=Z b9;have L:=d9.o;have g7:=F.size;have g4:=e4.o;clear G bb au b9 b6
       gi_wp2_with (first
        |(gi_at_builtin;(refine hL _ rfl _ _ 81 rfl (w.heap.size+1) 9 i0 (.string ⟨#[]⟩) 1 16 underlying81 HI.o ce.o cg.o ch.o rfl hV u3 f.length (f.map λs=>S s) ?_ ?_ ⟨W.heap.size,0,Y⟩ 1 1 [S ([116,105,116,108,101,32]++((t::o)++([32,47,32]++z)))] ?_ ?_ ?_ ?_ ?_ ?_ ?_ ?_);(focus rfl);(focus exact (ay.o.alloc _));(focus rfl);(focus rfl);(focus exact cell_one_new _ _ _);(focus simp [hP]);(focus (unfold maxLen;omega));(focus omega);(focus (simp;omega));intro v' w5 ao al _ _;have ax:Hid (w5.ownsRow (w.heap.size+1) 9 1 v' (f++[[116,105,116,108,101,32]++((t::o)++([32,47,32]++z))]).length ((f++[[116,105,116,108,101,32]++((t::o)++([32,47,32]++z))]).map λs=>S s)):=(by rw [hn,hN];exact ao);have b4:=Z al;clear ao al)
        |(refine ⟨trivial,?_⟩;gi_at_call 186;refine (callsIn_wide.2 (b0 _ _ ax.o)).mono ?_;rintro e w6 ⟨rfl,bt,bc,bk⟩;have b7:=Z bt;have cc:=Z bc;have cl:=Z bk;clear bt bc bk)
        |(refine ⟨trivial,?_⟩;gi_at_call 187;refine (callsIn_wide.2 (b3 _ _ b7.o)).mono ?_;rintro e w7 ⟨v7,rfl,bv,a3,bs⟩;have cy:=Z bv;have cd:=Z a3;have cm:=Z bs;clear bv a3 bs))
       have aC:Bw W (W.alloc (fs #[S ([116,105,116,108,101,32]++((t::o)++([32,47,32]++z)))] 9)):=(hJ _ W).alloc (hu _) _;have d2:=ae b5.o;have aS:∀(A:World) (v:Value) (xs:List Value) n,A.heap[D]? =X (.deferred (X []))->A.ownsRow (w.heap.size+1) 9 1 v n xs->v.ownBlock≠X D:=λA v xs n hX hr e=>by
        obtain ⟨e5,B⟩:=aD hr e;rw [hX] at B;injection B with B
        exact Obj.noConfusion B
       have k9:=(aC.block D d2).trans b5.o;have k5:w5.heap[D]? =X (.deferred (X [])):=(b4.block D (ae k9) (λe=>aS _ _ _ _ k9 (ay.alloc _) e.symm)).trans k9;have k6:=(cl D (ae k5) (aS _ _ _ _ k5 ax.o)).trans k5;have k7:=(cm D (ae k6) (aS _ _ _ _ k6 b7.o)).trans k6;refine ⟨by simp, .inl ⟨_,_,rfl,run_takeDeferred k7,?_⟩⟩;have g3:w.heap.size+1<=D:=by omega
       have gq:=aC.size;have ac:Below (w.heap.size+1) W w5:=(aC.mono (by omega)).grown b4.o (by omega) (λg hg=>(ay.o.lt g hg).1);have a3:Below (w.heap.size+1) W w7:=(ac.trans cc.o).trans cd.o;have d7:Bw w W:=⟨F.o.os.trans L.2.os,F.o.tape.trans L.2.tape,F.o.output.trans L.2.output,hH L.2.size F.o.size,λk T=>(F.o.block k (by have:=L.2.size;omega) (by omega)).trans (L.2.block k T)⟩;refine ⟨_,results_tmp rfl _ _ _,v7,rfl,?_,(d7.trans (a3.mono (by omega))).trans (belowK_b (w:=w) (hu _) w7 D _ _ (by omega) k7 rfl rfl)⟩;rw [cs.o,cq.o];exact ownsRow_putObj (bu cy.o (by omega)) _ k7 rfl
      case body=>
       rintro l M bO x W ⟨rfl,G⟩ hG;have B:=(aa G.d 0).trans rfl;have hf:=ab G.d 0;have F:=Z G;clear G;gi_wp2
       exact ⟨KeepsOthers.setCell _ _ _,rfl,x,rfl,F.set x⟩
end
end Go.Proofs.YtjcimanddakkaaaGreatDoor
