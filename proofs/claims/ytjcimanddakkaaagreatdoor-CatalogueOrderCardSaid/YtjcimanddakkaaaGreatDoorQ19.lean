/- Lemmas. -/
import Derived.Test.YtjcimanddakkaaaGreatDoorQ18
set_option maxRecDepth 100000
set_option maxHeartbeats 8000000
namespace Go.Proofs.YtjcimanddakkaaaGreatDoor
open _root_.Option renaming none→Y,some→X
open Go.Value renaming int→J,slice→ha,bool→hb,pointer→hc
open Go.IntKind renaming u8→a1,i64→U
open Go.Ending renaming returned→fn
open Go.Obj renaming cells→fs
open Go.Lib renaming hid→Z
open Tryz
open _root_.List renaming length_append→hd,length_mergeSort→he,length_cons→hk,length_nil→hm,map_append→hB,append_nil→hE,take_of_length_le→hH
open _root_.Nat renaming le_refl→hh,lt_of_lt_of_le→hn,le_trans→ho,one_pos→hL
open Go.World renaming alloc_heap_new→hj,size_alloc→hA,size_setCell→hJ
open Go.RowKit.Below renaming refl→hu
open Go renaming wpListIn_append_own_at→hy
open Go.Value renaming oneCell'→hF
section
open Go.RowKit Go.Maps Go.Shelf
attribute [local go_sem] Oper.semAt_some
theorem nH (a:List af) (h:bR a):(aQ a).length<=10000000:=by
 unfold aQ gA;have b:=eN h ck [97,98];generalize textF (firstF a ck) [97,98]=t at *;generalize yz (firstF a ck)=k;have h1:(t.drop k).length<=1000000:=by rw [List.length_drop];omega
 have:=mh (be (t.drop k));have:=jP (t.drop k);have:=eL (t.drop k);omega
structure qK (W0:World) (D:Nat) (z:Bs) (M:Nat->Prop) (W:World):Prop where
 os:W.os=W0.os
 tape:W.tape=W0.tape
 output:W.output=W0.output
 size:W0.heap.size<=W.heap.size
 block:∀k,k<W0.heap.size->k≠D->W.heap[k]? =W0.heap[k]?
 d:W.heap[D]? =some (.cells #[S z] 9 (0,0))
 m:∀k,M k->k<W.heap.size/\W0.heap.size<=k
theorem qK.turn {b:World} {D:Nat} (j:D<b.heap.size) {z:Bs} {M f:Nat->Prop} {c g:World} (h:qK b D z M c) (t:cS b.heap.size M c f g):qK b D z f g:=by
 have l:D<c.heap.size:=hn j h.size;refine ⟨t.os.trans h.os,t.tape.trans h.tape,t.output.trans h.output,ho h.size t.size,λk a n=>(t.block k (hn a h.size) (λe=>by have:=(h.m k e).2;omega) (λi=>by omega)).trans (h.block k a n),(t.block D l (λe=>by have:=(h.m D e).2;omega) (λi=>by omega)).trans h.d,λk a=>⟨t.lt k a,?_⟩⟩;rcases t.new k a with h1|h1
 · exact (h.m k h1).2
 · exact ho h.size h1
theorem qK.set {b:World} {D:Nat} {z:Bs} {M:Nat->Prop} {W:World} (h:qK b D z M W) (x:Bs):qK b D x M (W.setCell ⟨D,0,Y⟩ (S x)):=
 ⟨h.os,h.tape,h.output,by rw [hJ];exact h.size,λk a c=>(Below.heap_setCell _ _ _ _ c).trans (h.block k a c),(ap h.d 0 _).trans rfl,λk a=>by rw [hJ];exact h.m k a⟩
theorem BK (k l:UInt8) (x:Value) (a:List af) (w:World) (hs:ai 0 w.heap.size w x a) (a6:bR a):
 Calls prog 130 #[.agg #[J a1 k.toNat,J a1 l.toNat,x]] w λe w'=>∃v,e=fn v/\w'.ownsRow w.heap.size 9 1 v (keysR a).length ((keysR a).map λs=>S s)/\Bw w w':=by
 obtain ⟨w1,bw⟩:=Qe (w.alloc (fs #[J a1 k.toNat,J a1 l.toNat,x] 62));have cQ:Bw w w1:=by rw [<- bw];exact (hu _ w).alloc (hh _) _
 have hR:=hj w (fs #[J a1 k.toNat,J a1 l.toNat,x] 62);rw [bw] at hR;have d9:Hid (∀W,Bw w W->ai 0 W.heap.size W x a):=λW N=>(fO hs (hh _) N).mono (hh _) N.size;have f2:Hid (∀W,Bw w W->ai 0 w.heap.size W x a):=λW N=>hs.kept (λg _ hg=>N.block g hg);have HT:Hid (∀W,Bw w W->Calls prog 178 #[.agg #[J a1 k.toNat,J a1 l.toNat,x]] W λe w'=>e=fn (S (aQ a))/\Bw W w'):=λW N=>nI k l x a W (d9 W N) a6;have b8:=Z a6;have HX:=Z (λW (N:Bw w W)=>qX k l x a [49,48,48] [97] W (d9 W N) a6);obtain ⟨a0,c0,rfl⟩:=hs.shape;have gP:=a6.1;have HR:=Z hR;have eq:=Z cQ;have bB:w1.heap.size=w.heap.size+1:=by rw [<- bw];simp
 have fc:=Z bB;have f8:=Z bw;clear hs a6 cQ hR bB bw;obtain ⟨i0,hi,au,bB,ej⟩:=info_parts i9;have HI:=Z hi;have cb:=Z au;have cc:=Z bB;have cd:=Z ej;clear hi au bB ej;refine (callsIn_wide (n:=10)).1 ?_;refine callsIn_of_wp_marks func130 rfl trivial ?_ rfl;simp only [ntmps130,List.size_toArray,hk,hm,Nat.reduceAdd,Nat.reduceSub,Array.replicate_succ,Array.replicate_zero,List.push_toArray,List.append_toArray,List.nil_append,List.cons_append];gi_wp2
 rw [f8.o];have cy:Hid (∀W,Below (w.heap.size+1) w1 W->Bw w W/\W.cell? ⟨w.heap.size,0,Y⟩=X (J a1 k.toNat)/\W.cell? ⟨w.heap.size,1,Y⟩=X (J a1 l.toNat)/\W.cell? ⟨w.heap.size,2,Y⟩=X (ha a0 a.length c0)):=λW N=>by have h:=(N.block w.heap.size (by omega)).trans HR.o;exact ⟨eq.o.trans (N.mono (by omega)),(aa h 0).trans rfl,(aa h 1).trans rfl,(aa h 2).trans rfl⟩
 gi_loopw [3,18] (λv i wr=>∃q:Nat,q<=a.length/\i=J U q/\Hid (wr.ownsRow (w.heap.size+1) 9 1 v ((booksR (a.take q)).map isbnK).length (((booksR (a.take q)).map isbnK).map λs=>S s))/\Hid (Below (w.heap.size+1) w1 wr)/\w.heap.size+1<=wr.heap.size) (λ_ i _=>a.length - (intOf i).toNat)
 case atStart=>exact ⟨0,Nat.zero_le _,rfl,World.ownsRow_nil _ _ _ _,hu _ _,by have:=fc.o;omega⟩
 case round=>
  obtain ⟨q,hq,rfl,HO,HB,hz⟩:=hrel;by_cases hlt:q<a.length
  · have a4:=(cy wr HB.o).1;have e9:ai 0 w.heap.size wr (ha a0 a.length c0) a:=f2 _ a4;have h3:w.heap.size<=wr.heap.size:=a4.size;obtain ⟨b,h5,gn,d,hv,cQ,gy,e0,e1,e2,e3,d3⟩:=e9.field q hlt;cases hv;have a6:=b8.2 _ (List.getElem_mem hlt);have HN:=Z (mK a q hlt);rw [mM] at HN;have h0:a[q].subs.length<=1000000:=ho (cM _) a6;have f3:Hid (∀s∈a[q].subs,s.text.length<=1000000):=λs hs=>lM a6 hs;obtain ⟨da,dc,rfl,_⟩:=id d3;have f4:=Z d3;have g1:=gv a q b8.o;clear d3 e9 a6 a4;generalize a[q].tag=TG at *;generalize a[q].ind=IN at *;generalize a[q].data=DT at *;generalize a[q].subs=ss at *;by_cases hTG:TG=[48,50,48]
    · subst hTG;obtain ⟨R,hR⟩:=Qe wr.heap.size;obtain ⟨wq,bA⟩:=Qe (wr.alloc (fs #[S [48,50,48],S IN,S DT,ha da ss.length dc] 123));have c6:Bw wr wq:=by rw [<- bA];exact (hu _ wr).alloc (hh _) _
      have e4:wq.heap[R]? =X (fs #[S [48,50,48],S IN,S DT,ha da ss.length dc] 123 (0,0)):=by rw [<- bA, <- hR];exact hj wr _
      have ex:=Z e4;have es:Hid (Below (w.heap.size+1) w1 wq):=HB.trans (c6.mono hz);have eQ:Hid (wq.ownsRow (w.heap.size+1) 9 1 u3 ((booksR (a.take q)).map isbnK).length (((booksR (a.take q)).map isbnK).map λs=>S s)):=ah HO.o (λg hg=>c6.block g (HO.lt g hg).2);have f5:Hid (aD 0 w.heap.size wq (ha da ss.length dc) ss):=f4.o.kept (λg _ hg=>c6.block g (by omega));have em:wq.heap.size=R+1:=by rw [<- bA, <- hR];simp
      have fl:=Z em;have f1:=Z hR;have f9:=Z bA;have h2:w.heap.size+1<=R:=by omega
      clear bA c6 e4 em hR;gi_wp2
      rw [f9.o,f1.o];gi_loopw [3,28] (λv j wr=>∃p:Nat,p<=ss.length/\j=J U p/\Hid (wr.ownsRow (w.heap.size+1) 9 1 v ((booksR (a.take q)++bookS [48,50,48] (ss.take p)).map isbnK).length (((booksR (a.take q)++bookS [48,50,48] (ss.take p)).map isbnK).map λs=>S s))/\Hid (Below (w.heap.size+1) w1 wr)/\Hid (wr.heap[R]? =X (fs #[S [48,50,48],S IN,S DT,ha da ss.length dc] 123 (0,0)))/\Hid (aD 0 w.heap.size wr (ha da ss.length dc) ss)/\R+1<=wr.heap.size) (λ_ j _=>ss.length - (intOf j).toNat)
      case atStart=>exact ⟨0,Nat.zero_le _,rfl,by
       have e:booksR (a.take q)++bookS [48,50,48] (ss.take 0)=booksR (a.take q):=by unfold bookS;simp
       rw [e];exact eQ,es,ex,f5,by have:=fl.o;omega⟩
      case round=>
       obtain ⟨p,hp,rfl,a2,bY,a7,c4,gx⟩:=hrel;by_cases hlp:p<ss.length
       · obtain ⟨b',h6,gp,hv,_,gz,d0,d1⟩:=c4.sub p hlp;cases hv;have cu:=Z (mL [48,50,48] ss p hlp);have d4:=f3 _ (List.getElem_mem hlp);generalize ss[p].code=C at *;generalize ss[p].text=A at *;have gO:b'<wr.heap.size:=by omega
         have di:Hid ((bookS [48,50,48] (ss.take p)).length<=1000000):=by have h1:=kp [48,50,48] (ss.take p);rw [List.length_take] at h1;unfold Hid;omega
         obtain ⟨f,a9⟩:=Qe (booksR (a.take q)++bookS [48,50,48] (ss.take p));have e5:f.length<=2000000000000:=by have:=g1;have:=di.o;rw [<- a9,hd];omega
         rw [a9] at a2;have cq:=Z a9;clear a9 di;obtain ⟨LK,c5⟩:=Qe (f.map isbnK);rw [c5] at a2;have gq:LK.length<=2000000000000:=by rw [<- c5,List.length_map];exact e5
         have cs:=Z c5;clear c5 e5;cases hI:isbnR A with
         |none=>
          have c2:Hid (∀W,Calls prog 180 #[S A] W λe w'=>e=fn (.tuple #[S [],hb false])/\Bw W w'):=λW=>by have:=jE A W (by omega);rw [hI] at this;exact this
          have P:Hid ((booksR (a.take q)++bookS [48,50,48] (ss.take (p+1))).map isbnK=LK):=by unfold Hid;rw [cu.o,hI, <- cs.o, <- cq.o];split<;>simp
          clear hI;gi_wp2_with (refine ⟨trivial,?_⟩;gi_at_call 180;refine (callsIn_wide.2 (c2.o _)).mono ?_;rintro e H ⟨rfl,u⟩;have a5:Bw wr H:=(ba wr _).trans (u.mono (by simp));have E:=Z a5;clear a5 u)
          go_roundw
          case rel=>exact ⟨p+1,hlp,by go_num,by unfold Hid;rw [P.o];exact ah a2.o (λg hg=>E.o.block g (a2.o.lt g hg).2),bY.o.trans (E.o.mono (by omega)),(E.o.block _ (ae a7.o)).trans a7.o,c4.o.kept (λg _ hg=>E.o.block g (by omega)),by have:=E.o.size;omega⟩
          case measure=>simp [intOf];omega
         |some n=>
          have c2:Hid (∀W,Calls prog 180 #[S A] W λe w'=>e=fn (.tuple #[S n,hb true])/\Bw W w'):=λW=>by have:=jE A W (by omega);rw [hI] at this;exact this
          have gQ:n.length<=13:=fk hI;by_cases hC:C=97
          · have fx:((C.toNat:Int)==97)=true:=by rw [hC];rfl
            have P:Hid ((booksR (a.take q)++bookS [48,50,48] (ss.take (p+1))).map isbnK=LK++[[105,115,98,110,32]++n]):=by unfold Hid;rw [cu.o,hI, <- cs.o, <- cq.o,if_pos ⟨rfl,hC⟩];simp [isbnK]
            have s1:¬9223372036854775807<5+n.length:=by omega
            clear hI hC
            gi_wp2_with (first
             |(refine ⟨trivial,?_⟩;gi_at_call 180;refine (callsIn_wide.2 (c2.o _)).mono ?_;rintro e H ⟨rfl,u⟩;have a5:Bw wr H:=(ba wr _).trans (u.mono (by simp));have z0:=((aE u).1 wr.heap.size 0 (by simp));have a8:Hid (H.ownsRow (w.heap.size+1) 9 1 u3 LK.length (LK.map λs=>S s)):=ah a2.o (λg hg=>a5.block g (a2.o.lt g hg).2);have E:=Z a5;clear a5 u)
             |(gi_at_builtin;(refine hy _ rfl _ _ 81 rfl (w.heap.size+1) 9 i0 (.string ⟨#[]⟩) 1 16 underlying81 HI.o cb.o cc.o cd.o rfl hL u3 LK.length (LK.map λs=>S s) ?_ ?_ ⟨H.heap.size,0,Y⟩ 1 1 [S ([105,115,98,110,32]++n)] ?_ ?_ ?_ ?_ ?_ ?_ ?_ ?_);(focus rfl);(focus exact (a8.o.alloc _));(focus rfl);(focus rfl);(focus exact cell_one_new _ _ _);(focus simp [hF]);(focus (unfold maxLen;omega));(focus omega);(focus (have:=E.o.size;simp;omega));intro v' r ao al _ _;have av:=Z ao;have Q:Bw wr (H.alloc (fs #[S ([105,115,98,110,32]++n)] 9)):=E.o.alloc E.o.size _;have c1:=Z al;have O:=Z Q;clear ao al Q))
            go_roundw
            case rel=>
             have Q:Below (w.heap.size+1) w1 r:=(bY.o.trans (O.o.mono (by omega))).grown c1.o (by have:=O.o.size;omega) (λg hg=>(a8.o.lt g hg).1);have h4:wr.heap.size<=r.heap.size:=ho O.size c1.size;have g0:r.heap[R]? =wr.heap[R]? :=by
              have hl:=hn (ae a7.o) O.size;rw [c1.o.block R hl (λe=>?_)]
              · exact O.block _ (ae a7.o)
              · obtain ⟨dx,B⟩:=aA a2.o e.symm;rw [a7.o] at B;injection B with B
                injection B with _ B
                exact absurd B (by decide)
             refine ⟨p+1,hlp,by go_num,?_,Q,g0.trans a7.o,c4.o.kept (λg _ hg=>?_),by omega⟩
             · unfold Hid;rw [P.o,hd,hB];exact av.o
             · rw [c1.o.block g (hn (show g<wr.heap.size by omega) O.o.size) (λe=>by have:=(a8.o.lt g e.symm).1;omega)];exact O.o.block g (by omega)
            case measure=>simp [intOf];omega
          · have fx:((C.toNat:Int)==97)=false:=by have:C.toNat≠97:=λh=>hC (UInt8.toNat_inj.1 h);simp;omega
            have P:Hid ((booksR (a.take q)++bookS [48,50,48] (ss.take (p+1))).map isbnK=LK):=by unfold Hid;rw [cu.o, <- cs.o, <- cq.o,if_neg (λh=>hC h.2),hE]
            clear hI hC;gi_wp2_with (refine ⟨trivial,?_⟩;gi_at_call 180;refine (callsIn_wide.2 (c2.o _)).mono ?_;rintro e H ⟨rfl,u⟩;have a5:Bw wr H:=(ba wr _).trans (u.mono (by simp));have z0:=((aE u).1 wr.heap.size 0 (by simp));have E:=Z a5;clear a5 u)
            go_roundw
            case rel=>exact ⟨p+1,hlp,by go_num,by unfold Hid;rw [P.o];exact ah a2.o (λg hg=>E.o.block g (a2.o.lt g hg).2),bY.o.trans (E.o.mono (by omega)),(E.o.block _ (ae a7.o)).trans a7.o,c4.o.kept (λg _ hg=>E.o.block g (by omega)),by have:=E.o.size;omega⟩
            case measure=>simp [intOf];omega
       · have P:Hid ((booksR (a.take (q+1))).map isbnK=(booksR (a.take q)++bookS [48,50,48] (ss.take p)).map isbnK):=by unfold Hid;rw [HN.o,show ss.take p=ss from hH (by omega)]
         gi_wp2
         go_roundw
         case rel=>exact ⟨q+1,hlt,by go_num,by unfold Hid;rw [P.o];exact a2.o,bY.o,by omega⟩
         case measure=>simp [intOf];omega
    · have P:Hid (booksR (a.take (q+1))=booksR (a.take q)):=by unfold Hid;rw [HN.o];unfold bookS;rw [if_neg (show ¬TG=eu from hTG),hE]
      have b1:(TG !=[48,50,48])=true:=by simpa using hTG
      have b2:(TG==[48,50,48])=false:=by simpa using hTG
      gi_wp2
      go_roundw
      case rel=>exact ⟨q+1,hlt,by go_num,by unfold Hid;rw [P.o];exact ah HO.o (λg hg=>(ba wr _).block g (HO.o.lt g hg).2),HB.o.trans ((ba wr _).mono hz),by simp;omega⟩
      case measure=>simp [intOf];omega
  · have P:Hid ((booksR (a.take q)).map isbnK=(booksR a).map isbnK):=by unfold Hid;rw [hH (by omega)]
    rw [P.o] at HO;obtain ⟨a4,r0,r1,r2⟩:=cy wr HB.o;have fr:((booksR a).map isbnK).length<=1000000000000:=by rw [List.length_map];have:=gv a a.length b8.o;rwa [List.take_length] at this
    obtain ⟨f,a9⟩:=Qe ((booksR a).map isbnK);rw [a9] at HO fr;have cx:Hid (rawR a=f++(if aQ a=[] then [] else [oZ a])):=by unfold Hid rawR;rw [a9]
    have dk:=Z (HT wr a4);have dn:Hid (oZ a=[116,105,116,108,101,32]++aQ a++[32,47,32]++(bx a).headD []):=rfl;have cm:Hid (keysR a=Lib.compact ((rawR a).mergeSort λx y=>decide (x<=y))):=rfl;have bT:=Z a4;have cz:=Z (λW (N:Bw wr W)=>HX W (a4.trans (N.mono a4.size)));have c7:Hid (bx a=be (textF (firstF a [49,48,48]) [97])):=rfl;have dp:=Z (eN b8.o [49,48,48] [97]);clear a9 a4 HX HT;have f6:=Z (nH a b8.o);generalize aQ a=o at *;rcases o with _|⟨t,o⟩
    · have f0:Hid (rawR a=f):=by unfold Hid;rw [cx.o,if_pos rfl,hE]
      have b0:=Z (λW (h:W.ownsRow (w.heap.size+1) 9 1 u3 f.length (f.map λs=>S s))=>lN (w.heap.size+1) W u3 f h (by omega));have b3:=Z (λW (h:W.ownsRow (w.heap.size+1) 9 1 u3 f.length ((f.mergeSort λx y=>decide (x<=y)).map λs=>S s))=>ic (w.heap.size+1) W u3 (f.mergeSort λx y=>decide (x<=y)) (by rw [he];exact h) (by rw [he];omega))
      gi_wp2_with (first
       |(refine ⟨trivial,?_⟩;gi_at_call 178;refine (callsIn_wide.2 dk.o).mono ?_;rintro e H ⟨rfl,u⟩;have a8:Hid (H.ownsRow (w.heap.size+1) 9 1 u3 f.length (f.map λs=>S s)):=ah HO.o (λg hg=>u.block g (HO.lt g hg).2);have bO:=Z u;clear u)
       |(refine ⟨trivial,?_⟩;gi_at_call 186;refine (callsIn_wide.2 (b0 _ a8.o)).mono ?_;rintro e r ⟨rfl,e7,Q,_⟩;have av:=Z e7;have O:=Z Q;clear e7 Q)
       |(refine ⟨trivial,?_⟩;gi_at_call 187;refine (callsIn_wide.2 (b3 _ av.o)).mono ?_;rintro e w5 ⟨v',rfl,e8,ac,_⟩;have ax:=Z e8;have er:=Z ac;clear e8 ac))
      refine ⟨_,results_tmp rfl _ _ _,?_⟩;have ft:=bT.size;have u:Bw w H:=bT.trans (bO.mono ft);have ac:Bw w w5:=(u.trans (O.o.mono (by omega))).trans (er.o.mono (by omega));refine ⟨v',rfl,?_,ac⟩;rw [cm.o,f0.o];exact bz ax.o (by omega)
    · have d4:(t::o).length<=10000000:=f6.o;obtain ⟨V,ee⟩:=Qe (textF (firstF a [49,48,48]) [97]);rw [ee] at cz c7 dp;have g7:V.length<=1000000:=dp.o;unfold mU at cz;generalize (firstF a [49,48,48]).getD zeroF=g at *;obtain ⟨gt,gi,gd,gs⟩:=g;clear ee
      gi_wp2_with (first
       |(refine ⟨trivial,?_⟩;gi_at_call 178;refine (callsIn_wide.2 dk.o).mono ?_;rintro e H ⟨rfl,u⟩;obtain ⟨_,h7,h8,h9⟩:=cy H (HB.trans (u.mono hz));have a8:Hid (H.ownsRow (w.heap.size+1) 9 1 u3 f.length (f.map λs=>S s)):=ah HO.o (λg hg=>u.block g (HO.lt g hg).2);have f7:=Z (cz H u);have bO:=Z u;clear u)
       |(refine ⟨trivial,?_⟩;gi_at_call 184;refine (callsIn_wide.2 f7.o).mono ?_;rintro e r ⟨⟨v,rfl,dd,rfl,ad,cp,rfl,_⟩,Q⟩;have av:Hid (r.ownsRow (w.heap.size+1) 9 1 u3 f.length (f.map λs=>S s)):=ah a8.o (λg hg=>Q.block g (a8.lt g hg).2);have O:Hid (Bw wr r):=bO.trans (Q.mono bO.size);clear Q)
       |(refine ⟨trivial,?_⟩;gi_at_call 185;refine (callsIn_wide.2 (jQ V _)).mono ?_;rintro e w1 ⟨rfl,rfl⟩))
      obtain ⟨I,aT⟩:=Qe ((((r.alloc (fs #[S gt,S gi,S gd,ha ad gs.length cp] 123)).alloc (fs #[S []] 9)).alloc (fs #[S V] 9)));have eg:I.heap.size=r.heap.size+3:=by rw [<- aT];simp
      have d2:Bw r I:=by rw [<- aT];exact (((hu _ r).alloc (hh _) _).alloc (by simp) _).alloc (by simp;omega) _
      have dy:I.heap[r.heap.size+1]? =X (fs #[S []] 9 (0,0)):=by rw [<- aT,Below.heap_alloc _ _ _ (by simp)];have:=hj (r.alloc (fs #[S gt,S gi,S gd,ha ad gs.length cp] 123)) (fs #[S []] 9);rwa [hA] at this
      have e6:I.cell? ⟨r.heap.size+2,0,Y⟩=X (S V):=by have:=hj ((r.alloc (fs #[S gt,S gi,S gd,ha ad gs.length cp] 123)).alloc (fs #[S []] 9)) (fs #[S V] 9);rw [hA,hA,aT] at this;exact (aa this 0).trans rfl
      have c3:Hid (I.ownsRow (w.heap.size+1) 9 1 u3 f.length (f.map λs=>S s)):=ah av.o (λg hg=>d2.block g (av.lt g hg).2);have d8:Hid (∀g,u3.ownBlock=X g->g<r.heap.size):=λg hg=>(av.lt g hg).2;have d7:Hid (w.heap.size+1<=r.heap.size/\Bw w I):=by have h1:=O.size;exact ⟨by omega,(bT.o.trans (O.o.mono bT.o.size)).trans (d2.mono (by omega))⟩
      have g4:=jR 9 (by omega) (r.heap.size+2) V g7 I e6;have g6:qK I (r.heap.size+1) [] (λ_=>False) I:=⟨rfl,rfl,rfl,hh _,λ_ _ _=>rfl,dy,λk T=>T.elim⟩;have dz:r.heap.size+1<I.heap.size:=by omega
      have ds:=Z eg;rw [aT];clear aT d2 dy e6 eg
      refine lz rfl (by decide) (gf:=247) (lb:= #[hc (X ⟨r.heap.size+2,0,Y⟩)]) ?hg trivial (enters_of func247 (by kernel_rfl) rfl) g4 (λk T=>T.elim) (hu _ _) (λ_=>rfl)
       (λM bD W=>bD=[]/\qK I (r.heap.size+1) [] M W) (λc M bD W=>c= .exit 4/\∃x,bD=[x]/\qK I (r.heap.size+1) x M W) (λM s A M' fp h ht=>⟨h.1,h.2.turn dz ht⟩) (λc M s A M' fp h ht=>⟨h.1,h.2.imp λx hx=>⟨hx.1,hx.2.turn dz ht⟩⟩) (λM s A h k T=>(h.2.m k T).1) (λc M s A h k T=>by obtain ⟨_,x,_,hw⟩:=h;exact (hw.m k T).1)
       ⟨rfl,g6⟩ ?a1 ?assign ?body ?done ?stop
      case hg=>simp [Act.eval]
      case assign=>
       intro l x W K hK;gi_wp2
       exact hK
      case done=>
       rintro D M zs W hD hS ⟨rfl,G⟩ b9;obtain ⟨z,hz⟩:∃z:Bs,z=[]:=⟨_,rfl⟩;rw [<- hz] at G;have au:(be V).headD []=z:=by rw [<- hS,hz];rfl
       have g9:z.length<=4000000:=by rw [hz];simp
       clear hS hz;have bb:W.ownsRow (w.heap.size+1) 9 1 u3 f.length (f.map λs=>S s):=ah c3.o (λg hg=>G.block g (c3.o.lt g hg).2 (λe=>by have:=d8.o g hg;omega));have g3:W.cell? ⟨r.heap.size+1,0,Y⟩=X (S z):=(aa G.d 0).trans rfl;have g5:o.length+1<=10000000:=by simpa using d4
       have s1:¬9223372036854775807<6+(o.length+1):=by omega
       have gb:¬9223372036854775807<o.length+1+1+1+1+1+1+1+3:=by omega
       have gc:¬9223372036854775807<o.length+3+1+1+1+1+1+1+1+z.length:=by omega
       have b6:Hid (rawR a=f++[[116,105,116,108,101,32]++(t::o)++[32,47,32]++z]):=by unfold Hid;rw [cx.o,if_neg (by simp),dn.o,c7.o,au]
       have cl:Hid (rawR a=f++[[116,105,116,108,101,32]++((t::o)++([32,47,32]++z))]):=by unfold Hid;rw [b6.o];simp
       have b0:=Z (λW v (h:W.ownsRow (w.heap.size+1) 9 1 v (f++[[116,105,116,108,101,32]++((t::o)++([32,47,32]++z))]).length ((f++[[116,105,116,108,101,32]++((t::o)++([32,47,32]++z))]).map λs=>S s))=>lN (w.heap.size+1) W v _ h (by rw [hd];simp only [hk,hm];omega));have b3:=Z (λW v (h:W.ownsRow (w.heap.size+1) 9 1 v (f++[[116,105,116,108,101,32]++((t::o)++([32,47,32]++z))]).length (((f++[[116,105,116,108,101,32]++((t::o)++([32,47,32]++z))]).mergeSort λx y=>decide (x<=y)).map λs=>S s))=>ic (w.heap.size+1) W v ((f++[[116,105,116,108,101,32]++((t::o)++([32,47,32]++z))]).mergeSort λx y=>decide (x<=y)) (by rw [he];exact h) (by rw [he,hd];simp only [hk,hm];omega));have F:=Z G;have ay:=Z bb;have b5:=Z b9;have L:=d7.o;have g2:=F.size;have fz:=ds.o;clear G bb au b9 b6
       gi_wp2_with (first
        |(gi_at_builtin;(refine hy _ rfl _ _ 81 rfl (w.heap.size+1) 9 i0 (.string ⟨#[]⟩) 1 16 underlying81 HI.o cb.o cc.o cd.o rfl hL u3 f.length (f.map λs=>S s) ?_ ?_ ⟨W.heap.size,0,Y⟩ 1 1 [S ([116,105,116,108,101,32]++((t::o)++([32,47,32]++z)))] ?_ ?_ ?_ ?_ ?_ ?_ ?_ ?_);(focus rfl);(focus exact (ay.o.alloc _));(focus rfl);(focus rfl);(focus exact cell_one_new _ _ _);(focus simp [hF]);(focus (unfold maxLen;omega));(focus omega);(focus (simp;omega));intro v' w5 ao al _ _;have ax:Hid (w5.ownsRow (w.heap.size+1) 9 1 v' (f++[[116,105,116,108,101,32]++((t::o)++([32,47,32]++z))]).length ((f++[[116,105,116,108,101,32]++((t::o)++([32,47,32]++z))]).map λs=>S s)):=(by rw [hd,hB];exact ao);have b4:=Z al;clear ao al)
        |(refine ⟨trivial,?_⟩;gi_at_call 186;refine (callsIn_wide.2 (b0 _ _ ax.o)).mono ?_;rintro e w6 ⟨rfl,bs,bc,bk⟩;have b7:=Z bs;have c9:=Z bc;have cg:=Z bk;clear bs bc bk)
        |(refine ⟨trivial,?_⟩;gi_at_call 187;refine (callsIn_wide.2 (b3 _ _ b7.o)).mono ?_;rintro e w7 ⟨v7,rfl,bt,a3,bp⟩;have cv:=Z bt;have ca:=Z a3;have ch:=Z bp;clear bt a3 bp))
       have aC:Bw W (W.alloc (fs #[S ([116,105,116,108,101,32]++((t::o)++([32,47,32]++z)))] 9)):=(hu _ W).alloc (hh _) _;have cP:=ae b5.o;have aS:∀(A:World) (v:Value) (xs:List Value) n,A.heap[D]? =X (.deferred (X []))->A.ownsRow (w.heap.size+1) 9 1 v n xs->v.ownBlock≠X D:=λA v xs n hX hr e=>by
        obtain ⟨dx,B⟩:=aA hr e;rw [hX] at B;injection B with B
        exact Obj.noConfusion B
       have k9:=(aC.block D cP).trans b5.o;have k5:w5.heap[D]? =X (.deferred (X [])):=(b4.block D (ae k9) (λe=>aS _ _ _ _ k9 (ay.alloc _) e.symm)).trans k9;have k6:=(cg D (ae k5) (aS _ _ _ _ k5 ax.o)).trans k5;have k7:=(ch D (ae k6) (aS _ _ _ _ k6 b7.o)).trans k6;refine ⟨by simp, .inl ⟨_,_,rfl,run_takeDeferred k7,?_⟩⟩;have fy:w.heap.size+1<=D:=by omega
       have g8:=aC.size;have ac:Below (w.heap.size+1) W w5:=(aC.mono (by omega)).grown b4.o (by omega) (λg hg=>(ay.o.lt g hg).1);have a3:Below (w.heap.size+1) W w7:=(ac.trans c9.o).trans ca.o;have d5:Bw w W:=⟨F.o.os.trans L.2.os,F.o.tape.trans L.2.tape,F.o.output.trans L.2.output,ho L.2.size F.o.size,λk T=>(F.o.block k (by have:=L.2.size;omega) (by omega)).trans (L.2.block k T)⟩;refine ⟨_,results_tmp rfl _ _ _,v7,rfl,?_,(d5.trans (a3.mono (by omega))).trans (belowK_b (w:=w) (hh _) w7 D _ _ (by omega) k7 rfl rfl)⟩;rw [cm.o,cl.o];exact ownsRow_putObj (bz cv.o (by omega)) _ k7 rfl
      case stop=>
       rintro D c M bD W hD hS ⟨rfl,z,rfl,G⟩ b9;obtain ⟨zz,d6⟩:=hS.2;have au:(be V).headD []=z:=by rw [<- d6];rfl
       have g9:z.length<=4000000:=by have:=lC V z (by rw [<- d6];simp);omega
       clear hS d6;have bb:W.ownsRow (w.heap.size+1) 9 1 u3 f.length (f.map λs=>S s):=ah c3.o (λg hg=>G.block g (c3.o.lt g hg).2 (λe=>by have:=d8.o g hg;omega));have g3:W.cell? ⟨r.heap.size+1,0,Y⟩=X (S z):=(aa G.d 0).trans rfl;have g5:o.length+1<=10000000:=by simpa using d4
       have s1:¬9223372036854775807<6+(o.length+1):=by omega
       have gb:¬9223372036854775807<o.length+1+1+1+1+1+1+1+3:=by omega
       have gc:¬9223372036854775807<o.length+3+1+1+1+1+1+1+1+z.length:=by omega
       have b6:Hid (rawR a=f++[[116,105,116,108,101,32]++(t::o)++[32,47,32]++z]):=by unfold Hid;rw [cx.o,if_neg (by simp),dn.o,c7.o,au]
       have cl:Hid (rawR a=f++[[116,105,116,108,101,32]++((t::o)++([32,47,32]++z))]):=by unfold Hid;rw [b6.o];simp
       have b0:=Z (λW v (h:W.ownsRow (w.heap.size+1) 9 1 v (f++[[116,105,116,108,101,32]++((t::o)++([32,47,32]++z))]).length ((f++[[116,105,116,108,101,32]++((t::o)++([32,47,32]++z))]).map λs=>S s))=>lN (w.heap.size+1) W v _ h (by rw [hd];simp only [hk,hm];omega));have b3:=Z (λW v (h:W.ownsRow (w.heap.size+1) 9 1 v (f++[[116,105,116,108,101,32]++((t::o)++([32,47,32]++z))]).length (((f++[[116,105,116,108,101,32]++((t::o)++([32,47,32]++z))]).mergeSort λx y=>decide (x<=y)).map λs=>S s))=>ic (w.heap.size+1) W v ((f++[[116,105,116,108,101,32]++((t::o)++([32,47,32]++z))]).mergeSort λx y=>decide (x<=y)) (by rw [he];exact h) (by rw [he,hd];simp only [hk,hm];omega));have F:=Z G;have ay:=Z bb;have b5:=Z b9;have L:=d7.o;have g2:=F.size;have fz:=ds.o;clear G bb au b9 b6
       gi_wp2_with (first
        |(gi_at_builtin;(refine hy _ rfl _ _ 81 rfl (w.heap.size+1) 9 i0 (.string ⟨#[]⟩) 1 16 underlying81 HI.o cb.o cc.o cd.o rfl hL u3 f.length (f.map λs=>S s) ?_ ?_ ⟨W.heap.size,0,Y⟩ 1 1 [S ([116,105,116,108,101,32]++((t::o)++([32,47,32]++z)))] ?_ ?_ ?_ ?_ ?_ ?_ ?_ ?_);(focus rfl);(focus exact (ay.o.alloc _));(focus rfl);(focus rfl);(focus exact cell_one_new _ _ _);(focus simp [hF]);(focus (unfold maxLen;omega));(focus omega);(focus (simp;omega));intro v' w5 ao al _ _;have ax:Hid (w5.ownsRow (w.heap.size+1) 9 1 v' (f++[[116,105,116,108,101,32]++((t::o)++([32,47,32]++z))]).length ((f++[[116,105,116,108,101,32]++((t::o)++([32,47,32]++z))]).map λs=>S s)):=(by rw [hd,hB];exact ao);have b4:=Z al;clear ao al)
        |(refine ⟨trivial,?_⟩;gi_at_call 186;refine (callsIn_wide.2 (b0 _ _ ax.o)).mono ?_;rintro e w6 ⟨rfl,bs,bc,bk⟩;have b7:=Z bs;have c9:=Z bc;have cg:=Z bk;clear bs bc bk)
        |(refine ⟨trivial,?_⟩;gi_at_call 187;refine (callsIn_wide.2 (b3 _ _ b7.o)).mono ?_;rintro e w7 ⟨v7,rfl,bt,a3,bp⟩;have cv:=Z bt;have ca:=Z a3;have ch:=Z bp;clear bt a3 bp))
       have aC:Bw W (W.alloc (fs #[S ([116,105,116,108,101,32]++((t::o)++([32,47,32]++z)))] 9)):=(hu _ W).alloc (hh _) _;have cP:=ae b5.o;have aS:∀(A:World) (v:Value) (xs:List Value) n,A.heap[D]? =X (.deferred (X []))->A.ownsRow (w.heap.size+1) 9 1 v n xs->v.ownBlock≠X D:=λA v xs n hX hr e=>by
        obtain ⟨dx,B⟩:=aA hr e;rw [hX] at B;injection B with B
        exact Obj.noConfusion B
       have k9:=(aC.block D cP).trans b5.o;have k5:w5.heap[D]? =X (.deferred (X [])):=(b4.block D (ae k9) (λe=>aS _ _ _ _ k9 (ay.alloc _) e.symm)).trans k9;have k6:=(cg D (ae k5) (aS _ _ _ _ k5 ax.o)).trans k5;have k7:=(ch D (ae k6) (aS _ _ _ _ k6 b7.o)).trans k6;refine ⟨by simp, .inl ⟨_,_,rfl,run_takeDeferred k7,?_⟩⟩;have fy:w.heap.size+1<=D:=by omega
       have g8:=aC.size;have ac:Below (w.heap.size+1) W w5:=(aC.mono (by omega)).grown b4.o (by omega) (λg hg=>(ay.o.lt g hg).1);have a3:Below (w.heap.size+1) W w7:=(ac.trans c9.o).trans ca.o;have d5:Bw w W:=⟨F.o.os.trans L.2.os,F.o.tape.trans L.2.tape,F.o.output.trans L.2.output,ho L.2.size F.o.size,λk T=>(F.o.block k (by have:=L.2.size;omega) (by omega)).trans (L.2.block k T)⟩;refine ⟨_,results_tmp rfl _ _ _,v7,rfl,?_,(d5.trans (a3.mono (by omega))).trans (belowK_b (w:=w) (hh _) w7 D _ _ (by omega) k7 rfl rfl)⟩;rw [cm.o,cl.o];exact ownsRow_putObj (bz cv.o (by omega)) _ k7 rfl
      case body=>
       rintro l M bD x W ⟨rfl,G⟩ hG;have B:=(aa G.d 0).trans rfl;have hf:=ab G.d 0;have F:=Z G;clear G;gi_wp2
       exact ⟨KeepsOthers.setCell _ _ _,rfl,x,rfl,F.set x⟩
end
end Go.Proofs.YtjcimanddakkaaaGreatDoor
