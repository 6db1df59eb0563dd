/- Lemmas. -/
import Derived.Test.YtjcimanddakkaaaGreatDoorZ18
set_option maxRecDepth 100000
set_option maxHeartbeats 8000000
namespace Go.Proofs.YtjcimanddakkaaaGreatDoor
open _root_.Option renaming none→Y,some→X
open Go.Value renaming int→J,slice→hb,bool→hc,pointer→hk
open Go.IntKind renaming u8→a1,i64→U
open Go.Ending renaming returned→fn
open Go.Obj renaming cells→fs
open Go.Lib renaming hid→Z
open Tryz
open _root_.List renaming length_append→hm,length_mergeSort→hn,length_cons→hy,length_nil→hA,map_append→hL,append_nil→hM,take_of_length_le→hO
open _root_.Nat renaming le_refl→ho,lt_of_lt_of_le→hB,le_trans→hE,one_pos→hQ
open Go.World renaming alloc_heap_new→hu,size_alloc→hJ,size_setCell→hP
open Go.RowKit.Below renaming refl→hF
open Go renaming wpListIn_append_own_at→hH
open Go.Value renaming oneCell'→hN
section
open Go.RowKit Go.Maps Go.Shelf
attribute [local go_sem] Oper.semAt_some
theorem nl (a:List af) (h:bI a):(aQ a).length<=10000000:=by
 unfold aQ gh;have b:=eJ h ci [97,98];generalize textF (firstF a ci) [97,98]=t at *;generalize xK (firstF a ci)=k;have c:(t.drop k).length<=1000000:=by rw [List.length_drop];omega
 have:=lL (be (t.drop k));have:=jE (t.drop k);have:=eH (t.drop k);omega
structure qi (W0:World) (D:Nat) (z:Bs) (M:Nat->Prop) (W:World):Prop where
 os:W.os=W0.os
 tape:W.tape=W0.tape
 output:W.output=W0.output
 size:W0.heap.size<=W.heap.size
 block:∀k,k<W0.heap.size->k≠D->W.heap[k]? =W0.heap[k]?
 d:W.heap[D]? =some (.cells #[S z] 9 (0,0))
 m:∀k,M k->k<W.heap.size/\W0.heap.size<=k
theorem qi.turn {b:World} {D:Nat} (l:D<b.heap.size) {z:Bs} {M g:Nat->Prop} {c i:World} (h:qi b D z M c) (t:cO b.heap.size M c g i):qi b D z g i:=by
 have n:D<c.heap.size:=hB l h.size;refine ⟨t.os.trans h.os,t.tape.trans h.tape,t.output.trans h.output,hE h.size t.size,λk a o=>(t.block k (hB a h.size) (λf=>by have:=(h.m k f).2;omega) (λj=>by omega)).trans (h.block k a o),(t.block D n (λf=>by have:=(h.m D f).2;omega) (λj=>by omega)).trans h.d,λk a=>⟨t.lt k a,?_⟩⟩;rcases t.new k a with e|e
 · exact (h.m k e).2
 · exact hE h.size e
theorem qi.set {b:World} {D:Nat} {z:Bs} {M:Nat->Prop} {W:World} (h:qi b D z M W) (x:Bs):qi b D x M (W.setCell ⟨D,0,Y⟩ (S x)):=
 ⟨h.os,h.tape,h.output,by rw [hP];exact h.size,λk a c=>(Below.heap_setCell _ _ _ _ c).trans (h.block k a c),(an h.d 0 _).trans rfl,λk a=>by rw [hP];exact h.m k a⟩
theorem AJ (k l:UInt8) (x:Value) (a:List af) (w:World) (hs:ai 0 w.heap.size w x a) (a6:bI a):
 Calls prog 130 #[.agg #[J a1 k.toNat,J a1 l.toNat,x]] w λe w'=>∃v,e=fn v/\w'.ownsRow w.heap.size 9 1 v (keysR a).length ((keysR a).map λs=>S s)/\Bw w w':=by
 obtain ⟨w1,bA⟩:=Qe (w.alloc (fs #[J a1 k.toNat,J a1 l.toNat,x] 62));have d4:Bw w w1:=by rw [<- bA];exact (hF _ w).alloc (ho _) _
 have hR:=hu w (fs #[J a1 k.toNat,J a1 l.toNat,x] 62);rw [bA] at hR;have dn:Hid (∀W,Bw w W->ai 0 W.heap.size W x a):=λW N=>(fC hs (ho _) N).mono (ho _) N.size;have f6:Hid (∀W,Bw w W->ai 0 w.heap.size W x a):=λW N=>hs.kept (λg _ hg=>N.block g hg);have HT:Hid (∀W,Bw w W->Calls prog 178 #[.agg #[J a1 k.toNat,J a1 l.toNat,x]] W λe w'=>e=fn (S (aQ a))/\Bw W w'):=λW N=>nm k l x a W (dn W N) a6;have b8:=Z a6;have HX:=Z (λW (N:Bw w W)=>qE k l x a [49,48,48] [97] W (dn W N) a6);obtain ⟨a0,c0,rfl⟩:=hs.shape;have h4:=a6.1;have HR:=Z hR;have eQ:=Z d4;have bO:w1.heap.size=w.heap.size+1:=by rw [<- bA];simp
 have ft:=Z bO;have fp:=Z bA;clear hs a6 d4 hR bO bA;obtain ⟨i0,hi,au,bO,es⟩:=info_parts i9;have HI:=Z hi;have cg:=Z au;have ch:=Z bO;have cl:=Z es;clear hi au bO es;refine (callsIn_wide (n:=10)).1 ?_;refine callsIn_of_wp_marks func130 rfl trivial ?_ rfl;simp only [ntmps130,List.size_toArray,hy,hA,Nat.reduceAdd,Nat.reduceSub,Array.replicate_succ,Array.replicate_zero,List.push_toArray,List.append_toArray,List.nil_append,List.cons_append];gi_wp2
 rw [fp.o];have cQ:Hid (∀W,Below (w.heap.size+1) w1 W->Bw w W/\W.cell? ⟨w.heap.size,0,Y⟩=X (J a1 k.toNat)/\W.cell? ⟨w.heap.size,1,Y⟩=X (J a1 l.toNat)/\W.cell? ⟨w.heap.size,2,Y⟩=X (hb a0 a.length c0)):=λW N=>by have h:=(N.block w.heap.size (by omega)).trans HR.o;exact ⟨eQ.o.trans (N.mono (by omega)),(aa h 0).trans rfl,(aa h 1).trans rfl,(aa h 2).trans rfl⟩
 gi_loopw [3,18] (λv i wr=>∃q:Nat,q<=a.length/\i=J U q/\Hid (wr.ownsRow (w.heap.size+1) 9 1 v ((booksR (a.take q)).map isbnK).length (((booksR (a.take q)).map isbnK).map λs=>S s))/\Hid (Below (w.heap.size+1) w1 wr)/\w.heap.size+1<=wr.heap.size) (λ_ i _=>a.length - (intOf i).toNat)
 case atStart=>exact ⟨0,Nat.zero_le _,rfl,World.ownsRow_nil _ _ _ _,hF _ _,by have:=ft.o;omega⟩
 case round=>
  obtain ⟨q,hq,rfl,HO,HB,hz⟩:=hrel;by_cases hlt:q<a.length
  · have a4:=(cQ wr HB.o).1;have em:ai 0 w.heap.size wr (hb a0 a.length c0) a:=f6 _ a4;have h8:w.heap.size<=wr.heap.size:=a4.size;obtain ⟨b,ha,gz,d,hv,d4,h0,e0,e1,e2,e3,d6⟩:=em.field q hlt;cases hv;have a6:=b8.2 _ (List.getElem_mem hlt);have HN:=Z (mx a q hlt);rw [mz] at HN;have h6:a[q].subs.length<=1000000:=hE (cA _) a6;have f7:Hid (∀s∈a[q].subs,s.text.length<=1000000):=λs hs=>lr a6 hs;obtain ⟨da,dc,rfl,_⟩:=id d6;have f8:=Z d6;have g5:=gc a q b8.o;clear d6 em a6 a4;generalize a[q].tag=TG at *;generalize a[q].ind=IN at *;generalize a[q].data=DT at *;generalize a[q].subs=ss at *;by_cases hTG:TG=[48,50,48]
    · subst hTG;obtain ⟨R,hR⟩:=Qe wr.heap.size;obtain ⟨wq,bB⟩:=Qe (wr.alloc (fs #[S [48,50,48],S IN,S DT,hb da ss.length dc] 123));have ca:Bw wr wq:=by rw [<- bB];exact (hF _ wr).alloc (ho _) _
      have e7:wq.heap[R]? =X (fs #[S [48,50,48],S IN,S DT,hb da ss.length dc] 123 (0,0)):=by rw [<- bB, <- hR];exact hu wr _
      have f2:=Z e7;have f1:Hid (Below (w.heap.size+1) w1 wq):=HB.trans (ca.mono hz);have f3:Hid (wq.ownsRow (w.heap.size+1) 9 1 u3 ((booksR (a.take q)).map isbnK).length (((booksR (a.take q)).map isbnK).map λs=>S s)):=ag HO.o (λg hg=>ca.block g (HO.lt g hg).2);have f9:Hid (aB 0 w.heap.size wq (hb da ss.length dc) ss):=f8.o.kept (λg _ hg=>ca.block g (by omega));have ex:wq.heap.size=R+1:=by rw [<- bB, <- hR];simp
      have fx:=Z ex;have f5:=Z hR;have fr:=Z bB;have h7:w.heap.size+1<=R:=by omega
      clear bB ca e7 ex hR;gi_wp2
      rw [fr.o,f5.o];gi_loopw [3,28] (λv j wr=>∃p:Nat,p<=ss.length/\j=J U p/\Hid (wr.ownsRow (w.heap.size+1) 9 1 v ((booksR (a.take q)++bookS [48,50,48] (ss.take p)).map isbnK).length (((booksR (a.take q)++bookS [48,50,48] (ss.take p)).map isbnK).map λs=>S s))/\Hid (Below (w.heap.size+1) w1 wr)/\Hid (wr.heap[R]? =X (fs #[S [48,50,48],S IN,S DT,hb da ss.length dc] 123 (0,0)))/\Hid (aB 0 w.heap.size wr (hb da ss.length dc) ss)/\R+1<=wr.heap.size) (λ_ j _=>ss.length - (intOf j).toNat)
      case atStart=>exact ⟨0,Nat.zero_le _,rfl,by
       have e:booksR (a.take q)++bookS [48,50,48] (ss.take 0)=booksR (a.take q):=by unfold bookS;simp
       rw [e];exact f3,f1,f2,f9,by have:=fx.o;omega⟩
      case round=>
       obtain ⟨p,hp,rfl,a2,c3,a7,c7,gQ⟩:=hrel;by_cases hlp:p<ss.length
       · obtain ⟨b',hd,gO,hv,_,h2,d0,d1⟩:=c7.sub p hlp;cases hv;have cy:=Z (my [48,50,48] ss p hlp);have d7:=f7 _ (List.getElem_mem hlp);generalize ss[p].code=C at *;generalize ss[p].text=A at *;have h3:b'<wr.heap.size:=by omega
         have dr:Hid ((bookS [48,50,48] (ss.take p)).length<=1000000):=by have h1:=j6 [48,50,48] (ss.take p);rw [List.length_take] at h1;unfold Hid;omega
         obtain ⟨f,a9⟩:=Qe (booksR (a.take q)++bookS [48,50,48] (ss.take p));have e8:f.length<=2000000000000:=by have:=g5;have:=dr.o;rw [<- a9,hm];omega
         rw [a9] at a2;have cv:=Z a9;clear a9 dr;obtain ⟨LK,c9⟩:=Qe (f.map isbnK);rw [c9] at a2;have gP:LK.length<=2000000000000:=by rw [<- c9,List.length_map];exact e8
         have cx:=Z c9;clear c9 e8;cases hI:isbnR A with
         |none=>
          have c5:Hid (∀W,Calls prog 180 #[S A] W λe w'=>e=fn (.tuple #[S [],hc false])/\Bw W w'):=λW=>by have:=jr A W (by omega);rw [hI] at this;exact this
          have P:Hid ((booksR (a.take q)++bookS [48,50,48] (ss.take (p+1))).map isbnK=LK):=by unfold Hid;rw [cy.o,hI, <- cx.o, <- cv.o];split<;>simp
          clear hI;gi_wp2_with (refine ⟨trivial,?_⟩;gi_at_call 180;refine (callsIn_wide.2 (c5.o _)).mono ?_;rintro e H ⟨rfl,u⟩;have a5:Bw wr H:=(bd wr _).trans (u.mono (by simp));have E:=Z a5;clear a5 u)
          go_roundw
          case rel=>exact ⟨p+1,hlp,by go_num,by unfold Hid;rw [P.o];exact ag a2.o (λg hg=>E.o.block g (a2.o.lt g hg).2),c3.o.trans (E.o.mono (by omega)),(E.o.block _ (ae a7.o)).trans a7.o,c7.o.kept (λg _ hg=>E.o.block g (by omega)),by have:=E.o.size;omega⟩
          case measure=>simp [intOf];omega
         |some n=>
          have c5:Hid (∀W,Calls prog 180 #[S A] W λe w'=>e=fn (.tuple #[S n,hc true])/\Bw W w'):=λW=>by have:=jr A W (by omega);rw [hI] at this;exact this
          have h5:n.length<=13:=fd hI;by_cases hC:C=97
          · have g1:((C.toNat:Int)==97)=true:=by rw [hC];rfl
            have P:Hid ((booksR (a.take q)++bookS [48,50,48] (ss.take (p+1))).map isbnK=LK++[[105,115,98,110,32]++n]):=by unfold Hid;rw [cy.o,hI, <- cx.o, <- cv.o,if_pos ⟨rfl,hC⟩];simp [isbnK]
            have s1:¬9223372036854775807<5+n.length:=by omega
            clear hI hC
            gi_wp2_with (first
             |(refine ⟨trivial,?_⟩;gi_at_call 180;refine (callsIn_wide.2 (c5.o _)).mono ?_;rintro e H ⟨rfl,u⟩;have a5:Bw wr H:=(bd wr _).trans (u.mono (by simp));have z0:=((ar u).1 wr.heap.size 0 (by simp));have a8:Hid (H.ownsRow (w.heap.size+1) 9 1 u3 LK.length (LK.map λs=>S s)):=ag a2.o (λg hg=>a5.block g (a2.o.lt g hg).2);have E:=Z a5;clear a5 u)
             |(gi_at_builtin;(refine hH _ rfl _ _ 81 rfl (w.heap.size+1) 9 i0 (.string ⟨#[]⟩) 1 16 underlying81 HI.o cg.o ch.o cl.o rfl hQ u3 LK.length (LK.map λs=>S s) ?_ ?_ ⟨H.heap.size,0,Y⟩ 1 1 [S ([105,115,98,110,32]++n)] ?_ ?_ ?_ ?_ ?_ ?_ ?_ ?_);(focus rfl);(focus exact (a8.o.alloc _));(focus rfl);(focus rfl);(focus exact cell_one_new _ _ _);(focus simp [hN]);(focus (unfold maxLen;omega));(focus omega);(focus (have:=E.o.size;simp;omega));intro v' r ao al _ _;have av:=Z ao;have Q:Bw wr (H.alloc (fs #[S ([105,115,98,110,32]++n)] 9)):=E.o.alloc E.o.size _;have c4:=Z al;have O:=Z Q;clear ao al Q))
            go_roundw
            case rel=>
             have Q:Below (w.heap.size+1) w1 r:=(c3.o.trans (O.o.mono (by omega))).grown c4.o (by have:=O.o.size;omega) (λg hg=>(a8.o.lt g hg).1);have h9:wr.heap.size<=r.heap.size:=hE O.size c4.size;have g4:r.heap[R]? =wr.heap[R]? :=by
              have hl:=hB (ae a7.o) O.size;rw [c4.o.block R hl (λe=>?_)]
              · exact O.block _ (ae a7.o)
              · obtain ⟨e4,B⟩:=aA a2.o e.symm;rw [a7.o] at B;injection B with B
                injection B with _ B
                exact absurd B (by decide)
             refine ⟨p+1,hlp,by go_num,?_,Q,g4.trans a7.o,c7.o.kept (λg _ hg=>?_),by omega⟩
             · unfold Hid;rw [P.o,hm,hL];exact av.o
             · rw [c4.o.block g (hB (show g<wr.heap.size by omega) O.o.size) (λe=>by have:=(a8.o.lt g e.symm).1;omega)];exact O.o.block g (by omega)
            case measure=>simp [intOf];omega
          · have g1:((C.toNat:Int)==97)=false:=by have:C.toNat≠97:=λh=>hC (UInt8.toNat_inj.1 h);simp;omega
            have P:Hid ((booksR (a.take q)++bookS [48,50,48] (ss.take (p+1))).map isbnK=LK):=by unfold Hid;rw [cy.o, <- cx.o, <- cv.o,if_neg (λh=>hC h.2),hM]
            clear hI hC;gi_wp2_with (refine ⟨trivial,?_⟩;gi_at_call 180;refine (callsIn_wide.2 (c5.o _)).mono ?_;rintro e H ⟨rfl,u⟩;have a5:Bw wr H:=(bd wr _).trans (u.mono (by simp));have z0:=((ar u).1 wr.heap.size 0 (by simp));have E:=Z a5;clear a5 u)
            go_roundw
            case rel=>exact ⟨p+1,hlp,by go_num,by unfold Hid;rw [P.o];exact ag a2.o (λg hg=>E.o.block g (a2.o.lt g hg).2),c3.o.trans (E.o.mono (by omega)),(E.o.block _ (ae a7.o)).trans a7.o,c7.o.kept (λg _ hg=>E.o.block g (by omega)),by have:=E.o.size;omega⟩
            case measure=>simp [intOf];omega
       · have P:Hid ((booksR (a.take (q+1))).map isbnK=(booksR (a.take q)++bookS [48,50,48] (ss.take p)).map isbnK):=by unfold Hid;rw [HN.o,show ss.take p=ss from hO (by omega)]
         gi_wp2
         go_roundw
         case rel=>exact ⟨q+1,hlt,by go_num,by unfold Hid;rw [P.o];exact a2.o,c3.o,by omega⟩
         case measure=>simp [intOf];omega
    · have P:Hid (booksR (a.take (q+1))=booksR (a.take q)):=by unfold Hid;rw [HN.o];unfold bookS;rw [if_neg (show ¬TG=ek from hTG),hM]
      have b1:(TG !=[48,50,48])=true:=by simpa using hTG
      have b2:(TG==[48,50,48])=false:=by simpa using hTG
      gi_wp2
      go_roundw
      case rel=>exact ⟨q+1,hlt,by go_num,by unfold Hid;rw [P.o];exact ag HO.o (λg hg=>(bd wr _).block g (HO.o.lt g hg).2),HB.o.trans ((bd wr _).mono hz),by simp;omega⟩
      case measure=>simp [intOf];omega
  · have P:Hid ((booksR (a.take q)).map isbnK=(booksR a).map isbnK):=by unfold Hid;rw [hO (by omega)]
    rw [P.o] at HO;obtain ⟨a4,r0,r1,r2⟩:=cQ wr HB.o;have fz:((booksR a).map isbnK).length<=1000000000000:=by rw [List.length_map];have:=gc a a.length b8.o;rwa [List.take_length] at this
    obtain ⟨f,a9⟩:=Qe ((booksR a).map isbnK);rw [a9] at HO fz;have cP:Hid (rawR a=f++(if aQ a=[] then [] else [oD a])):=by unfold Hid rawR;rw [a9]
    have ds:=Z (HT wr a4);have dx:Hid (oD a=[116,105,116,108,101,32]++aQ a++[32,47,32]++(bx a).headD []):=rfl;have cu:Hid (keysR a=Lib.compact ((rawR a).mergeSort λx y=>decide (x<=y))):=rfl;have c2:=Z a4;have d2:=Z (λW (N:Bw wr W)=>HX W (a4.trans (N.mono a4.size)));have cb:Hid (bx a=be (textF (firstF a [49,48,48]) [97])):=rfl;have dy:=Z (eJ b8.o [49,48,48] [97]);clear a9 a4 HX HT;have fc:=Z (nl a b8.o);generalize aQ a=o at *;rcases o with _|⟨t,o⟩
    · have f4:Hid (rawR a=f):=by unfold Hid;rw [cP.o,if_pos rfl,hM]
      have b0:=Z (λW (h:W.ownsRow (w.heap.size+1) 9 1 u3 f.length (f.map λs=>S s))=>lu (w.heap.size+1) W u3 f h (by omega));have b3:=Z (λW (h:W.ownsRow (w.heap.size+1) 9 1 u3 f.length ((f.mergeSort λx y=>decide (x<=y)).map λs=>S s))=>gN (w.heap.size+1) W u3 (f.mergeSort λx y=>decide (x<=y)) (by rw [hn];exact h) (by rw [hn];omega))
      gi_wp2_with (first
       |(refine ⟨trivial,?_⟩;gi_at_call 178;refine (callsIn_wide.2 ds.o).mono ?_;rintro e H ⟨rfl,u⟩;have a8:Hid (H.ownsRow (w.heap.size+1) 9 1 u3 f.length (f.map λs=>S s)):=ag HO.o (λg hg=>u.block g (HO.lt g hg).2);have c1:=Z u;clear u)
       |(refine ⟨trivial,?_⟩;gi_at_call 186;refine (callsIn_wide.2 (b0 _ a8.o)).mono ?_;rintro e r ⟨rfl,eg,Q,_⟩;have av:=Z eg;have O:=Z Q;clear eg Q)
       |(refine ⟨trivial,?_⟩;gi_at_call 187;refine (callsIn_wide.2 (b3 _ av.o)).mono ?_;rintro e w5 ⟨v',rfl,ej,ac,_⟩;have ax:=Z ej;have f0:=Z ac;clear ej ac))
      refine ⟨_,results_tmp rfl _ _ _,?_⟩;have g0:=c2.size;have u:Bw w H:=c2.trans (c1.mono g0);have ac:Bw w w5:=(u.trans (O.o.mono (by omega))).trans (f0.o.mono (by omega));refine ⟨v',rfl,?_,ac⟩;rw [cu.o,f4.o];exact bG ax.o (by omega)
    · have d7:(t::o).length<=10000000:=fc.o;obtain ⟨V,eq⟩:=Qe (textF (firstF a [49,48,48]) [97]);rw [eq] at d2 cb dy;have gn:V.length<=1000000:=dy.o;unfold mG at d2;generalize (firstF a [49,48,48]).getD zeroF=g at *;obtain ⟨gt,gi,gd,gs⟩:=g;clear eq
      gi_wp2_with (first
       |(refine ⟨trivial,?_⟩;gi_at_call 178;refine (callsIn_wide.2 ds.o).mono ?_;rintro e H ⟨rfl,u⟩;obtain ⟨_,he,hh,hj⟩:=cQ H (HB.trans (u.mono hz));have a8:Hid (H.ownsRow (w.heap.size+1) 9 1 u3 f.length (f.map λs=>S s)):=ag HO.o (λg hg=>u.block g (HO.lt g hg).2);have fl:=Z (d2 H u);have c1:=Z u;clear u)
       |(refine ⟨trivial,?_⟩;gi_at_call 184;refine (callsIn_wide.2 fl.o).mono ?_;rintro e r ⟨⟨v,rfl,dd,rfl,ad,cp,rfl,_⟩,Q⟩;have av:Hid (r.ownsRow (w.heap.size+1) 9 1 u3 f.length (f.map λs=>S s)):=ag a8.o (λg hg=>Q.block g (a8.lt g hg).2);have O:Hid (Bw wr r):=c1.trans (Q.mono c1.size);clear Q)
       |(refine ⟨trivial,?_⟩;gi_at_call 185;refine (callsIn_wide.2 (jF V _)).mono ?_;rintro e w1 ⟨rfl,rfl⟩))
      obtain ⟨I,aT⟩:=Qe ((((r.alloc (fs #[S gt,S gi,S gd,hb ad gs.length cp] 123)).alloc (fs #[S []] 9)).alloc (fs #[S V] 9)));have er:I.heap.size=r.heap.size+3:=by rw [<- aT];simp
      have d5:Bw r I:=by rw [<- aT];exact (((hF _ r).alloc (ho _) _).alloc (by simp) _).alloc (by simp;omega) _
      have e5:I.heap[r.heap.size+1]? =X (fs #[S []] 9 (0,0)):=by rw [<- aT,Below.heap_alloc _ _ _ (by simp)];have:=hu (r.alloc (fs #[S gt,S gi,S gd,hb ad gs.length cp] 123)) (fs #[S []] 9);rwa [hJ] at this
      have e9:I.cell? ⟨r.heap.size+2,0,Y⟩=X (S V):=by have:=hu ((r.alloc (fs #[S gt,S gi,S gd,hb ad gs.length cp] 123)).alloc (fs #[S []] 9)) (fs #[S V] 9);rw [hJ,hJ,aT] at this;exact (aa this 0).trans rfl
      have c6:Hid (I.ownsRow (w.heap.size+1) 9 1 u3 f.length (f.map λs=>S s)):=ag av.o (λg hg=>d5.block g (av.lt g hg).2);have dk:Hid (∀g,u3.ownBlock=X g->g<r.heap.size):=λg hg=>(av.lt g hg).2;have di:Hid (w.heap.size+1<=r.heap.size/\Bw w I):=by have h1:=O.size;exact ⟨by omega,(c2.o.trans (O.o.mono c2.o.size)).trans (d5.mono (by omega))⟩
      have g8:=jG 9 (by omega) (r.heap.size+2) V gn I e9;have gb:qi I (r.heap.size+1) [] (λ_=>False) I:=⟨rfl,rfl,rfl,ho _,λ_ _ _=>rfl,e5,λk T=>T.elim⟩;have e6:r.heap.size+1<I.heap.size:=by omega
      have dz:=Z er;rw [aT];clear aT d5 e5 e9 er
      refine lc rfl (by decide) (gf:=247) (lb:= #[hk (X ⟨r.heap.size+2,0,Y⟩)]) ?hg trivial (enters_of func247 (by kernel_rfl) rfl) g8 (λk T=>T.elim) (hF _ _) (λ_=>rfl)
       (λM bY W=>bY=[]/\qi I (r.heap.size+1) [] M W) (λc M bY W=>c= .exit 4/\∃x,bY=[x]/\qi I (r.heap.size+1) x M W) (λM s A M' fy h ht=>⟨h.1,h.2.turn e6 ht⟩) (λc M s A M' fy h ht=>⟨h.1,h.2.imp λx hx=>⟨hx.1,hx.2.turn e6 ht⟩⟩) (λM s A h k T=>(h.2.m k T).1) (λc M s A h k T=>by obtain ⟨_,x,_,hw⟩:=h;exact (hw.m k T).1)
       ⟨rfl,gb⟩ ?a1 ?assign ?body ?done ?stop
      case hg=>simp [Act.eval]
      case assign=>
       intro l x W K hK;gi_wp2
       exact hK
      case done=>
       rintro D M zs W hD hS ⟨rfl,G⟩ b9;obtain ⟨z,hz⟩:∃z:Bs,z=[]:=⟨_,rfl⟩;rw [<- hz] at G;have au:(be V).headD []=z:=by rw [<- hS,hz];rfl
       have gq:z.length<=4000000:=by rw [hz];simp
       clear hS hz;have bb:W.ownsRow (w.heap.size+1) 9 1 u3 f.length (f.map λs=>S s):=ag c6.o (λg hg=>G.block g (c6.o.lt g hg).2 (λe=>by have:=dk.o g hg;omega));have g7:W.cell? ⟨r.heap.size+1,0,Y⟩=X (S z):=(aa G.d 0).trans rfl;have g9:o.length+1<=10000000:=by simpa using d7
       have s1:¬9223372036854775807<6+(o.length+1):=by omega
       have gx:¬9223372036854775807<o.length+1+1+1+1+1+1+1+3:=by omega
       have gy:¬9223372036854775807<o.length+3+1+1+1+1+1+1+1+z.length:=by omega
       have b6:Hid (rawR a=f++[[116,105,116,108,101,32]++(t::o)++[32,47,32]++z]):=by unfold Hid;rw [cP.o,if_neg (by simp),dx.o,cb.o,au]
       have cs:Hid (rawR a=f++[[116,105,116,108,101,32]++((t::o)++([32,47,32]++z))]):=by unfold Hid;rw [b6.o];simp
       have b0:=Z (λW v (h:W.ownsRow (w.heap.size+1) 9 1 v (f++[[116,105,116,108,101,32]++((t::o)++([32,47,32]++z))]).length ((f++[[116,105,116,108,101,32]++((t::o)++([32,47,32]++z))]).map λs=>S s))=>lu (w.heap.size+1) W v _ h (by rw [hm];simp only [hy,hA];omega));have b3:=Z (λW v (h:W.ownsRow (w.heap.size+1) 9 1 v (f++[[116,105,116,108,101,32]++((t::o)++([32,47,32]++z))]).length (((f++[[116,105,116,108,101,32]++((t::o)++([32,47,32]++z))]).mergeSort λx y=>decide (x<=y)).map λs=>S s))=>gN (w.heap.size+1) W v ((f++[[116,105,116,108,101,32]++((t::o)++([32,47,32]++z))]).mergeSort λx y=>decide (x<=y)) (by rw [hn];exact h) (by rw [hn,hm];simp only [hy,hA];omega));have F:=Z G;have ay:=Z bb;have b5:=Z b9;have L:=di.o;have g6:=F.size;have g3:=dz.o;clear G bb au b9 b6
       gi_wp2_with (first
        |(gi_at_builtin;(refine hH _ rfl _ _ 81 rfl (w.heap.size+1) 9 i0 (.string ⟨#[]⟩) 1 16 underlying81 HI.o cg.o ch.o cl.o rfl hQ u3 f.length (f.map λs=>S s) ?_ ?_ ⟨W.heap.size,0,Y⟩ 1 1 [S ([116,105,116,108,101,32]++((t::o)++([32,47,32]++z)))] ?_ ?_ ?_ ?_ ?_ ?_ ?_ ?_);(focus rfl);(focus exact (ay.o.alloc _));(focus rfl);(focus rfl);(focus exact cell_one_new _ _ _);(focus simp [hN]);(focus (unfold maxLen;omega));(focus omega);(focus (simp;omega));intro v' w5 ao al _ _;have ax:Hid (w5.ownsRow (w.heap.size+1) 9 1 v' (f++[[116,105,116,108,101,32]++((t::o)++([32,47,32]++z))]).length ((f++[[116,105,116,108,101,32]++((t::o)++([32,47,32]++z))]).map λs=>S s)):=(by rw [hm,hL];exact ao);have b4:=Z al;clear ao al)
        |(refine ⟨trivial,?_⟩;gi_at_call 186;refine (callsIn_wide.2 (b0 _ _ ax.o)).mono ?_;rintro e w6 ⟨rfl,bt,bc,bk⟩;have b7:=Z bt;have cc:=Z bc;have cm:=Z bk;clear bt bc bk)
        |(refine ⟨trivial,?_⟩;gi_at_call 187;refine (callsIn_wide.2 (b3 _ _ b7.o)).mono ?_;rintro e w7 ⟨v7,rfl,bw,a3,bs⟩;have cz:=Z bw;have cd:=Z a3;have cq:=Z bs;clear bw a3 bs))
       have aC:Bw W (W.alloc (fs #[S ([116,105,116,108,101,32]++((t::o)++([32,47,32]++z)))] 9)):=(hF _ W).alloc (ho _) _;have d3:=ae b5.o;have aS:∀(A:World) (v:Value) (xs:List Value) n,A.heap[D]? =X (.deferred (X []))->A.ownsRow (w.heap.size+1) 9 1 v n xs->v.ownBlock≠X D:=λA v xs n hX hr e=>by
        obtain ⟨e4,B⟩:=aA hr e;rw [hX] at B;injection B with B
        exact Obj.noConfusion B
       have k9:=(aC.block D d3).trans b5.o;have k5:w5.heap[D]? =X (.deferred (X [])):=(b4.block D (ae k9) (λe=>aS _ _ _ _ k9 (ay.alloc _) e.symm)).trans k9;have k6:=(cm D (ae k5) (aS _ _ _ _ k5 ax.o)).trans k5;have k7:=(cq D (ae k6) (aS _ _ _ _ k6 b7.o)).trans k6;refine ⟨by simp, .inl ⟨_,_,rfl,run_takeDeferred k7,?_⟩⟩;have g2:w.heap.size+1<=D:=by omega
       have gp:=aC.size;have ac:Below (w.heap.size+1) W w5:=(aC.mono (by omega)).grown b4.o (by omega) (λg hg=>(ay.o.lt g hg).1);have a3:Below (w.heap.size+1) W w7:=(ac.trans cc.o).trans cd.o;have d8:Bw w W:=⟨F.o.os.trans L.2.os,F.o.tape.trans L.2.tape,F.o.output.trans L.2.output,hE L.2.size F.o.size,λk T=>(F.o.block k (by have:=L.2.size;omega) (by omega)).trans (L.2.block k T)⟩;refine ⟨_,results_tmp rfl _ _ _,v7,rfl,?_,(d8.trans (a3.mono (by omega))).trans (belowK_b (w:=w) (ho _) w7 D _ _ (by omega) k7 rfl rfl)⟩;rw [cu.o,cs.o];exact ownsRow_putObj (bG cz.o (by omega)) _ k7 rfl
      case stop=>
       rintro D c M bY W hD hS ⟨rfl,z,rfl,G⟩ b9;obtain ⟨zz,d9⟩:=hS.2;have au:(be V).headD []=z:=by rw [<- d9];rfl
       have gq:z.length<=4000000:=by have:=lh V z (by rw [<- d9];simp);omega
       clear hS d9;have bb:W.ownsRow (w.heap.size+1) 9 1 u3 f.length (f.map λs=>S s):=ag c6.o (λg hg=>G.block g (c6.o.lt g hg).2 (λe=>by have:=dk.o g hg;omega));have g7:W.cell? ⟨r.heap.size+1,0,Y⟩=X (S z):=(aa G.d 0).trans rfl;have g9:o.length+1<=10000000:=by simpa using d7
       have s1:¬9223372036854775807<6+(o.length+1):=by omega
       have gx:¬9223372036854775807<o.length+1+1+1+1+1+1+1+3:=by omega
       have gy:¬9223372036854775807<o.length+3+1+1+1+1+1+1+1+z.length:=by omega
       have b6:Hid (rawR a=f++[[116,105,116,108,101,32]++(t::o)++[32,47,32]++z]):=by unfold Hid;rw [cP.o,if_neg (by simp),dx.o,cb.o,au]
       have cs:Hid (rawR a=f++[[116,105,116,108,101,32]++((t::o)++([32,47,32]++z))]):=by unfold Hid;rw [b6.o];simp
       have b0:=Z (λW v (h:W.ownsRow (w.heap.size+1) 9 1 v (f++[[116,105,116,108,101,32]++((t::o)++([32,47,32]++z))]).length ((f++[[116,105,116,108,101,32]++((t::o)++([32,47,32]++z))]).map λs=>S s))=>lu (w.heap.size+1) W v _ h (by rw [hm];simp only [hy,hA];omega));have b3:=Z (λW v (h:W.ownsRow (w.heap.size+1) 9 1 v (f++[[116,105,116,108,101,32]++((t::o)++([32,47,32]++z))]).length (((f++[[116,105,116,108,101,32]++((t::o)++([32,47,32]++z))]).mergeSort λx y=>decide (x<=y)).map λs=>S s))=>gN (w.heap.size+1) W v ((f++[[116,105,116,108,101,32]++((t::o)++([32,47,32]++z))]).mergeSort λx y=>decide (x<=y)) (by rw [hn];exact h) (by rw [hn,hm];simp only [hy,hA];omega));have F:=Z G;have ay:=Z bb;have b5:=Z b9;have L:=di.o;have g6:=F.size;have g3:=dz.o;clear G bb au b9 b6
       gi_wp2_with (first
        |(gi_at_builtin;(refine hH _ rfl _ _ 81 rfl (w.heap.size+1) 9 i0 (.string ⟨#[]⟩) 1 16 underlying81 HI.o cg.o ch.o cl.o rfl hQ u3 f.length (f.map λs=>S s) ?_ ?_ ⟨W.heap.size,0,Y⟩ 1 1 [S ([116,105,116,108,101,32]++((t::o)++([32,47,32]++z)))] ?_ ?_ ?_ ?_ ?_ ?_ ?_ ?_);(focus rfl);(focus exact (ay.o.alloc _));(focus rfl);(focus rfl);(focus exact cell_one_new _ _ _);(focus simp [hN]);(focus (unfold maxLen;omega));(focus omega);(focus (simp;omega));intro v' w5 ao al _ _;have ax:Hid (w5.ownsRow (w.heap.size+1) 9 1 v' (f++[[116,105,116,108,101,32]++((t::o)++([32,47,32]++z))]).length ((f++[[116,105,116,108,101,32]++((t::o)++([32,47,32]++z))]).map λs=>S s)):=(by rw [hm,hL];exact ao);have b4:=Z al;clear ao al)
        |(refine ⟨trivial,?_⟩;gi_at_call 186;refine (callsIn_wide.2 (b0 _ _ ax.o)).mono ?_;rintro e w6 ⟨rfl,bt,bc,bk⟩;have b7:=Z bt;have cc:=Z bc;have cm:=Z bk;clear bt bc bk)
        |(refine ⟨trivial,?_⟩;gi_at_call 187;refine (callsIn_wide.2 (b3 _ _ b7.o)).mono ?_;rintro e w7 ⟨v7,rfl,bw,a3,bs⟩;have cz:=Z bw;have cd:=Z a3;have cq:=Z bs;clear bw a3 bs))
       have aC:Bw W (W.alloc (fs #[S ([116,105,116,108,101,32]++((t::o)++([32,47,32]++z)))] 9)):=(hF _ W).alloc (ho _) _;have d3:=ae b5.o;have aS:∀(A:World) (v:Value) (xs:List Value) n,A.heap[D]? =X (.deferred (X []))->A.ownsRow (w.heap.size+1) 9 1 v n xs->v.ownBlock≠X D:=λA v xs n hX hr e=>by
        obtain ⟨e4,B⟩:=aA hr e;rw [hX] at B;injection B with B
        exact Obj.noConfusion B
       have k9:=(aC.block D d3).trans b5.o;have k5:w5.heap[D]? =X (.deferred (X [])):=(b4.block D (ae k9) (λe=>aS _ _ _ _ k9 (ay.alloc _) e.symm)).trans k9;have k6:=(cm D (ae k5) (aS _ _ _ _ k5 ax.o)).trans k5;have k7:=(cq D (ae k6) (aS _ _ _ _ k6 b7.o)).trans k6;refine ⟨by simp, .inl ⟨_,_,rfl,run_takeDeferred k7,?_⟩⟩;have g2:w.heap.size+1<=D:=by omega
       have gp:=aC.size;have ac:Below (w.heap.size+1) W w5:=(aC.mono (by omega)).grown b4.o (by omega) (λg hg=>(ay.o.lt g hg).1);have a3:Below (w.heap.size+1) W w7:=(ac.trans cc.o).trans cd.o;have d8:Bw w W:=⟨F.o.os.trans L.2.os,F.o.tape.trans L.2.tape,F.o.output.trans L.2.output,hE L.2.size F.o.size,λk T=>(F.o.block k (by have:=L.2.size;omega) (by omega)).trans (L.2.block k T)⟩;refine ⟨_,results_tmp rfl _ _ _,v7,rfl,?_,(d8.trans (a3.mono (by omega))).trans (belowK_b (w:=w) (ho _) w7 D _ _ (by omega) k7 rfl rfl)⟩;rw [cu.o,cs.o];exact ownsRow_putObj (bG cz.o (by omega)) _ k7 rfl
      case body=>
       rintro l M bY x W ⟨rfl,G⟩ hG;have B:=(aa G.d 0).trans rfl;have hf:=ab G.d 0;have F:=Z G;clear G;gi_wp2
       exact ⟨KeepsOthers.setCell _ _ _,rfl,x,rfl,F.set x⟩
end
end Go.Proofs.YtjcimanddakkaaaGreatDoor
