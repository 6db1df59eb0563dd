/- Lemmas. -/
import Derived.Test.YtjcimanddakkaaaGreatDoorX0
import Derived.Test.YtjcimanddakkaaaGreatDoorX16
import Derived.Test.YtjcimanddakkaaaGreatDoorX18
set_option maxRecDepth 100000
set_option maxHeartbeats 8000000
namespace Go.Proofs.YtjcimanddakkaaaGreatDoor
open Go.Lib renaming hid→a0a
open _root_.List renaming length_append→a0b,length_mergeSort→a0c,length_cons→a0g,length_nil→a0h,map_append→a0n,append_nil→a0o,take_of_length_le→a0q
open _root_.Nat renaming le_refl→a0d,lt_of_lt_of_le→a0i,le_trans→a0j,one_pos→a0t
open Go.RowKit renaming Below→a0e
open Go.World renaming alloc_heap_new→a0f,size_alloc→a0m,size_setCell→a0s
open Go.RowKit.Below renaming refl→a0k
open Go renaming wpListIn_append_own_at→a0l
open Go.Value renaming oneCell'→a0p
open Go.Proofs.Tryz renaming prog→a0r
section
open Go.RowKit Go.Maps Go.Shelf
attribute [local go_sem] Oper.semAt_some
theorem mC (a:List af) (h:bL a):(aO a).length<=10000000:=by
 unfold aO fL;have b:=eo h bX [97,98];generalize textF (firstF a bX) [97,98]=t at *;generalize wA (firstF a bX)=k;have c:(t.drop k).length<=1000000:=by rw [List.length_drop];omega
 have:=kV (ba (t.drop k));have:=jc (t.drop k);have:=el (t.drop k);omega
structure o9 (W0:World) (D:Nat) (z:Bs) (M:Nat->Prop) (W:World):Prop where
 os:W.os=W0.os
 tape:W.tape=W0.tape
 output:W.output=W0.output
 size:W0.heap.size<=W.heap.size
 block:∀k,k<W0.heap.size->k≠D->W.heap[k]? =W0.heap[k]?
 d:W.heap[D]? =some (.cells #[S z] 9 (0,0))
 m:∀k,M k->k<W.heap.size/\W0.heap.size<=k
theorem o9.turn {b:World} {D:Nat} (i:D<b.heap.size) {z:Bs} {M f:Nat->Prop} {X Y:World} (h:o9 b D z M X) (t:cN b.heap.size M X f Y):o9 b D z f Y:=by
 have j:D<X.heap.size:=a0i i h.size;refine ⟨t.os.trans h.os,t.tape.trans h.tape,t.output.trans h.output,a0j h.size t.size,λk a l=>(t.block k (a0i a h.size) (λe=>by have:=(h.m k e).2;omega) (λg=>by omega)).trans (h.block k a l),(t.block D j (λe=>by have:=(h.m D e).2;omega) (λg=>by omega)).trans h.d,λk a=>⟨t.lt k a,?_⟩⟩;rcases t.new k a with c|c
 · exact (h.m k c).2
 · exact a0j h.size c
theorem o9.set {b:World} {D:Nat} {z:Bs} {M:Nat->Prop} {W:World} (h:o9 b D z M W) (x:Bs):o9 b D x M (W.setCell ⟨D,0,none⟩ (S x)):=
 ⟨h.os,h.tape,h.output,by rw [a0s];exact h.size,λk a c=>(Below.heap_setCell _ _ _ _ c).trans (h.block k a c),(an h.d 0 _).trans rfl,λk a=>by rw [a0s];exact h.m k a⟩
theorem zG (k l:UInt8) (x:Value) (a:List af) (w:World) (hs:ai 0 w.heap.size w x a) (a4:bL a):
 Calls a0r 130 #[.agg #[.int .u8 k.toNat, .int .u8 l.toNat,x]] w λe w'=>∃v,e= .returned v/\w'.ownsRow w.heap.size 9 1 v (keysR a).length ((keysR a).map λs=>S s)/\a0e w.heap.size w w':=by
 obtain ⟨w1,bt⟩:∃w1,w.alloc (.cells #[.int .u8 k.toNat, .int .u8 l.toNat,x] 62)=w1:=⟨_,rfl⟩;have d2:a0e w.heap.size w w1:=by rw [<- bt];exact (a0k _ w).alloc (a0d _) _
 have hR:=a0f w (.cells #[.int .u8 k.toNat, .int .u8 l.toNat,x] 62);rw [bt] at hR;have dx:Hid (∀W,a0e w.heap.size w W->ai 0 W.heap.size W x a):=λW J=>(fe hs (a0d _) J).mono (a0d _) J.size;have f6:Hid (∀W,a0e w.heap.size w W->ai 0 w.heap.size W x a):=λW J=>hs.kept (λg _ hg=>J.block g hg);have HT:Hid (∀W,a0e w.heap.size w W->Calls a0r 178 #[.agg #[.int .u8 k.toNat, .int .u8 l.toNat,x]] W λe w'=>e= .returned (S (aO a))/\a0e W.heap.size W w'):=λW J=>mD k l x a W (dx W J) a4;have b6:=a0a a4;have HX:=a0a (λW (J:a0e w.heap.size w W)=>pu k l x a [49,48,48] [97] W (dx W J) a4);obtain ⟨a0,c0,rfl⟩:=hs.shape;have h4:=a4.1;have HR:=a0a hR;have eQ:=a0a d2;have bw:w1.heap.size=w.heap.size+1:=by rw [<- bt];simp
 have fx:=a0a bw;have fr:=a0a bt;clear hs a4 d2 hR bw bt;obtain ⟨i0,hi,al,bw,es⟩:=info_parts i9;have HI:=a0a hi;have cc:=a0a al;have cd:=a0a bw;have cg:=a0a es;clear hi al bw es;refine (callsIn_wide (n:=10)).1 ?_;refine callsIn_of_wp_marks Tryz.func130 rfl trivial ?_ rfl;simp only [Tryz.ntmps130,List.size_toArray,a0g,a0h,Nat.reduceAdd,Nat.reduceSub,Array.replicate_succ,Array.replicate_zero,List.push_toArray,List.append_toArray,List.nil_append,List.cons_append];gi_wp2
 rw [fr.out];have cz:Hid (∀W,a0e (w.heap.size+1) w1 W->a0e w.heap.size w W/\W.cell? ⟨w.heap.size,0,none⟩=some (.int .u8 k.toNat)/\W.cell? ⟨w.heap.size,1,none⟩=some (.int .u8 l.toNat)/\W.cell? ⟨w.heap.size,2,none⟩=some (.slice a0 a.length c0)):=λW J=>by have h:=(J.block w.heap.size (by omega)).trans HR.out;exact ⟨eQ.out.trans (J.mono (by omega)),(aa h 0).trans rfl,(aa h 1).trans rfl,(aa h 2).trans rfl⟩
 gi_loopw [3,18] (λv i wr=>∃q:Nat,q<=a.length/\i= .int .i64 q/\Hid (wr.ownsRow (w.heap.size+1) 9 1 v ((booksR (a.take q)).map isbnK).length (((booksR (a.take q)).map isbnK).map λs=>S s))/\Hid (a0e (w.heap.size+1) w1 wr)/\w.heap.size+1<=wr.heap.size) (λ_ i _=>a.length - (intOf i).toNat)
 case atStart=>exact ⟨0,Nat.zero_le _,rfl,World.ownsRow_nil _ _ _ _,a0k _ _,by have:=fx.out;omega⟩
 case round=>
  obtain ⟨q,hq,rfl,T,HB,hz⟩:=hrel;by_cases hlt:q<a.length
  · have a2:=(cz wr HB.out).1;have em:ai 0 w.heap.size wr (.slice a0 a.length c0) a:=f6 _ a2;have h8:w.heap.size<=wr.heap.size:=a2.size;obtain ⟨b,ha,gz,d,hv,d2,h0,e0,e1,e2,e3,d4⟩:=em.field q hlt;cases hv;have a4:=b6.2 _ (List.getElem_mem hlt);have HN:=a0a (lD a q hlt);rw [lG] at HN;have h6:a[q].subs.length<=1000000:=a0j (cF _) a4;have f8:Hid (∀s∈a[q].subs,s.text.length<=1000000):=λs hs=>kE a4 hs;obtain ⟨da,dc,rfl,_⟩:=id d4;have f9:=a0a d4;have g5:=fI a q b6.out;clear d4 em a4 a2;generalize a[q].tag=TG at *;generalize a[q].ind=IN at *;generalize a[q].data=DT at *;generalize a[q].subs=ss at *;by_cases hTG:TG=[48,50,48]
    · subst hTG;obtain ⟨R,hR⟩:∃R,wr.heap.size=R:=⟨_,rfl⟩;obtain ⟨wq,bv⟩:∃wq,wr.alloc (.cells #[S [48,50,48],S IN,S DT, .slice da ss.length dc] 123)=wq:=⟨_,rfl⟩;have c6:a0e wr.heap.size wr wq:=by rw [<- bv];exact (a0k _ wr).alloc (a0d _) _
      have e7:wq.heap[R]? =some (.cells #[S [48,50,48],S IN,S DT, .slice da ss.length dc] 123 (0,0)):=by rw [<- bv, <- hR];exact a0f wr _
      have f2:=a0a e7;have f1:Hid (a0e (w.heap.size+1) w1 wq):=HB.trans (c6.mono hz);have f3:Hid (wq.ownsRow (w.heap.size+1) 9 1 u3 ((booksR (a.take q)).map isbnK).length (((booksR (a.take q)).map isbnK).map λs=>S s)):=ah T.out (λg hg=>c6.block g (T.lt g hg).2);have fc:Hid (az 0 w.heap.size wq (.slice da ss.length dc) ss):=f9.out.kept (λg _ hg=>c6.block g (by omega));have ex:wq.heap.size=R+1:=by rw [<- bv, <- hR];simp
      have fy:=a0a ex;have f5:=a0a hR;have ft:=a0a bv;have h7:w.heap.size+1<=R:=by omega
      clear bv c6 e7 ex hR;gi_wp2
      rw [ft.out,f5.out];gi_loopw [3,28] (λv j wr=>∃p:Nat,p<=ss.length/\j= .int .i64 p/\Hid (wr.ownsRow (w.heap.size+1) 9 1 v ((booksR (a.take q)++bookS [48,50,48] (ss.take p)).map isbnK).length (((booksR (a.take q)++bookS [48,50,48] (ss.take p)).map isbnK).map λs=>S s))/\Hid (a0e (w.heap.size+1) w1 wr)/\Hid (wr.heap[R]? =some (.cells #[S [48,50,48],S IN,S DT, .slice da ss.length dc] 123 (0,0)))/\Hid (az 0 w.heap.size wr (.slice da ss.length dc) ss)/\R+1<=wr.heap.size) (λ_ j _=>ss.length - (intOf j).toNat)
      case atStart=>exact ⟨0,Nat.zero_le _,rfl,by
       have e:booksR (a.take q)++bookS [48,50,48] (ss.take 0)=booksR (a.take q):=by unfold bookS;simp
       rw [e];exact f3,f1,f2,fc,by have:=fy.out;omega⟩
      case round=>
       obtain ⟨p,hp,rfl,U,bY,a5,c4,gQ⟩:=hrel;by_cases hlp:p<ss.length
       · obtain ⟨b',hd,gO,hv,_,h2,d0,d1⟩:=c4.sub p hlp;cases hv;have cv:=a0a (lF [48,50,48] ss p hlp);have d5:=f8 _ (List.getElem_mem hlp);generalize ss[p].code=C at *;generalize ss[p].text=X at *;have h3:b'<wr.heap.size:=by omega
         have dy:Hid ((bookS [48,50,48] (ss.take p)).length<=1000000):=by have h1:=jy [48,50,48] (ss.take p);rw [List.length_take] at h1;unfold Hid;omega
         obtain ⟨f,a7⟩:∃f,booksR (a.take q)++bookS [48,50,48] (ss.take p)=f:=⟨_,rfl⟩;have e8:f.length<=2000000000000:=by have:=g5;have:=dy.out;rw [<- a7,a0b];omega
         rw [a7] at U;have cs:=a0a a7;clear a7 dy;obtain ⟨V,c5⟩:∃V,f.map isbnK=V:=⟨_,rfl⟩;rw [c5] at U;have gP:V.length<=2000000000000:=by rw [<- c5,List.length_map];exact e8
         have cu:=a0a c5;clear c5 e8;cases hI:isbnR X with
         |none=>
          have c2:Hid (∀W,Calls a0r 180 #[S X] W λe w'=>e= .returned (.tuple #[S [], .bool false])/\a0e W.heap.size W w'):=λW=>by have:=iM X W (by omega);rw [hI] at this;exact this
          have N:Hid ((booksR (a.take q)++bookS [48,50,48] (ss.take (p+1))).map isbnK=V):=by unfold Hid;rw [cv.out,hI, <- cu.out, <- cs.out];split<;>simp
          clear hI;gi_wp2_with (refine ⟨trivial,?_⟩;gi_at_call 180;refine (callsIn_wide.2 (c2.out _)).mono ?_;rintro e G ⟨rfl,u⟩;have a3:a0e wr.heap.size wr G:=(aZ wr _).trans (u.mono (by simp));have B:=a0a a3;clear a3 u)
          go_roundw
          case rel=>exact ⟨p+1,hlp,by go_num,by unfold Hid;rw [N.out];exact ah U.out (λg hg=>B.out.block g (U.out.lt g hg).2),bY.out.trans (B.out.mono (by omega)),(B.out.block _ (ae a5.out)).trans a5.out,c4.out.kept (λg _ hg=>B.out.block g (by omega)),by have:=B.out.size;omega⟩
          case measure=>simp [intOf];omega
         |some n=>
          have c2:Hid (∀W,Calls a0r 180 #[S X] W λe w'=>e= .returned (.tuple #[S n, .bool true])/\a0e W.heap.size W w'):=λW=>by have:=iM X W (by omega);rw [hI] at this;exact this
          have h5:n.length<=13:=eK hI;by_cases hC:C=97
          · have g1:((C.toNat:Int)==97)=true:=by rw [hC];rfl
            have N:Hid ((booksR (a.take q)++bookS [48,50,48] (ss.take (p+1))).map isbnK=V++[[105,115,98,110,32]++n]):=by unfold Hid;rw [cv.out,hI, <- cu.out, <- cs.out,if_pos ⟨rfl,hC⟩];simp [isbnK]
            have s1:¬9223372036854775807<5+n.length:=by omega
            clear hI hC
            gi_wp2_with (first
             |(refine ⟨trivial,?_⟩;gi_at_call 180;refine (callsIn_wide.2 (c2.out _)).mono ?_;rintro e G ⟨rfl,u⟩;have a3:a0e wr.heap.size wr G:=(aZ wr _).trans (u.mono (by simp));have z0:=((aE u).1 wr.heap.size 0 (by simp));have a6:Hid (G.ownsRow (w.heap.size+1) 9 1 u3 V.length (V.map λs=>S s)):=ah U.out (λg hg=>a3.block g (U.out.lt g hg).2);have B:=a0a a3;clear a3 u)
             |(gi_at_builtin;(refine a0l _ rfl _ _ 81 rfl (w.heap.size+1) 9 i0 (.string ⟨#[]⟩) 1 16 Tryz.underlying81 HI.out cc.out cd.out cg.out rfl a0t u3 V.length (V.map λs=>S s) ?_ ?_ ⟨G.heap.size,0,none⟩ 1 1 [S ([105,115,98,110,32]++n)] ?_ ?_ ?_ ?_ ?_ ?_ ?_ ?_);(focus rfl);(focus exact (a6.out.alloc _));(focus rfl);(focus rfl);(focus exact cell_one_new _ _ _);(focus simp [a0p]);(focus (unfold maxLen;omega));(focus omega);(focus (have:=B.out.size;simp;omega));intro v' r ac a9 _ _;have ao:=a0a ac;have O:a0e wr.heap.size wr (G.alloc (.cells #[S ([105,115,98,110,32]++n)] 9)):=B.out.alloc B.out.size _;have c1:=a0a a9;have L:=a0a O;clear ac a9 O))
            go_roundw
            case rel=>
             have O:a0e (w.heap.size+1) w1 r:=(bY.out.trans (L.out.mono (by omega))).grown c1.out (by have:=L.out.size;omega) (λg hg=>(a6.out.lt g hg).1);have h9:wr.heap.size<=r.heap.size:=a0j L.size c1.size;have g4:r.heap[R]? =wr.heap[R]? :=by
              have hl:=a0i (ae a5.out) L.size;rw [c1.out.block R hl (λe=>?_)]
              · exact L.block _ (ae a5.out)
              · obtain ⟨e4,A⟩:=aD U.out e.symm;rw [a5.out] at A;injection A with A
                injection A with _ A
                exact absurd A (by decide)
             refine ⟨p+1,hlp,by go_num,?_,O,g4.trans a5.out,c4.out.kept (λg _ hg=>?_),by omega⟩
             · unfold Hid;rw [N.out,a0b,a0n];exact ao.out
             · rw [c1.out.block g (a0i (show g<wr.heap.size by omega) L.out.size) (λe=>by have:=(a6.out.lt g e.symm).1;omega)];exact L.out.block g (by omega)
            case measure=>simp [intOf];omega
          · have g1:((C.toNat:Int)==97)=false:=by have:C.toNat≠97:=λh=>hC (UInt8.toNat_inj.1 h);simp;omega
            have N:Hid ((booksR (a.take q)++bookS [48,50,48] (ss.take (p+1))).map isbnK=V):=by unfold Hid;rw [cv.out, <- cu.out, <- cs.out,if_neg (λh=>hC h.2),a0o]
            clear hI hC;gi_wp2_with (refine ⟨trivial,?_⟩;gi_at_call 180;refine (callsIn_wide.2 (c2.out _)).mono ?_;rintro e G ⟨rfl,u⟩;have a3:a0e wr.heap.size wr G:=(aZ wr _).trans (u.mono (by simp));have z0:=((aE u).1 wr.heap.size 0 (by simp));have B:=a0a a3;clear a3 u)
            go_roundw
            case rel=>exact ⟨p+1,hlp,by go_num,by unfold Hid;rw [N.out];exact ah U.out (λg hg=>B.out.block g (U.out.lt g hg).2),bY.out.trans (B.out.mono (by omega)),(B.out.block _ (ae a5.out)).trans a5.out,c4.out.kept (λg _ hg=>B.out.block g (by omega)),by have:=B.out.size;omega⟩
            case measure=>simp [intOf];omega
       · have N:Hid ((booksR (a.take (q+1))).map isbnK=(booksR (a.take q)++bookS [48,50,48] (ss.take p)).map isbnK):=by unfold Hid;rw [HN.out,show ss.take p=ss from a0q (by omega)]
         gi_wp2
         go_roundw
         case rel=>exact ⟨q+1,hlt,by go_num,by unfold Hid;rw [N.out];exact U.out,bY.out,by omega⟩
         case measure=>simp [intOf];omega
    · have N:Hid (booksR (a.take (q+1))=booksR (a.take q)):=by unfold Hid;rw [HN.out];unfold bookS;rw [if_neg (show ¬TG=dW from hTG),a0o]
      have b1:(TG !=[48,50,48])=true:=by simpa using hTG
      have b2:(TG==[48,50,48])=false:=by simpa using hTG
      gi_wp2
      go_roundw
      case rel=>exact ⟨q+1,hlt,by go_num,by unfold Hid;rw [N.out];exact ah T.out (λg hg=>(aZ wr _).block g (T.out.lt g hg).2),HB.out.trans ((aZ wr _).mono hz),by simp;omega⟩
      case measure=>simp [intOf];omega
  · have N:Hid ((booksR (a.take q)).map isbnK=(booksR a).map isbnK):=by unfold Hid;rw [a0q (by omega)]
    rw [N.out] at T;obtain ⟨a2,r0,r1,r2⟩:=cz wr HB.out;have fz:((booksR a).map isbnK).length<=1000000000000:=by rw [List.length_map];have:=fI a a.length b6.out;rwa [List.take_length] at this
    obtain ⟨f,a7⟩:∃f,(booksR a).map isbnK=f:=⟨_,rfl⟩;rw [a7] at T fz;have cy:Hid (rawR a=f++(if aO a=[] then [] else [nH a])):=by unfold Hid rawR;rw [a7]
    have dz:=a0a (HT wr a2);have dB:Hid (nH a=[116,105,116,108,101,32]++aO a++[32,47,32]++(br a).headD []):=rfl;have cq:Hid (keysR a=Lib.compact ((rawR a).mergeSort λx y=>decide (x<=y))):=rfl;have bO:=a0a a2;have cP:=a0a (λW (J:a0e wr.heap.size wr W)=>HX W (a2.trans (J.mono a2.size)));have c7:Hid (br a=ba (textF (firstF a [49,48,48]) [97])):=rfl;have dN:=a0a (eo b6.out [49,48,48] [97]);clear a7 a2 HX HT;have fl:=a0a (mC a b6.out);generalize aO a=o at *;rcases o with _|⟨t,o⟩
    · have f4:Hid (rawR a=f):=by unfold Hid;rw [cy.out,if_pos rfl,a0o]
      have aS:=a0a (λW (h:W.ownsRow (w.heap.size+1) 9 1 u3 f.length (f.map λs=>S s))=>kF (w.heap.size+1) W u3 f h (by omega));have aT:=a0a (λW (h:W.ownsRow (w.heap.size+1) 9 1 u3 f.length ((f.mergeSort λx y=>decide (x<=y)).map λs=>S s))=>gr (w.heap.size+1) W u3 (f.mergeSort λx y=>decide (x<=y)) (by rw [a0c];exact h) (by rw [a0c];omega))
      gi_wp2_with (first
       |(refine ⟨trivial,?_⟩;gi_at_call 178;refine (callsIn_wide.2 dz.out).mono ?_;rintro e G ⟨rfl,u⟩;have a6:Hid (G.ownsRow (w.heap.size+1) 9 1 u3 f.length (f.map λs=>S s)):=ah T.out (λg hg=>u.block g (T.lt g hg).2);have bB:=a0a u;clear u)
       |(refine ⟨trivial,?_⟩;gi_at_call 186;refine (callsIn_wide.2 (aS _ a6.out)).mono ?_;rintro e r ⟨rfl,eg,O,_⟩;have ao:=a0a eg;have L:=a0a O;clear eg O)
       |(refine ⟨trivial,?_⟩;gi_at_call 187;refine (callsIn_wide.2 (aT _ ao.out)).mono ?_;rintro e w5 ⟨v',rfl,ej,a8,_⟩;have au:=a0a ej;have f0:=a0a a8;clear ej a8))
      refine ⟨_,results_tmp rfl _ _ _,?_⟩;have g0:=bO.size;have u:a0e w.heap.size w G:=bO.trans (bB.mono g0);have a8:a0e w.heap.size w w5:=(u.trans (L.out.mono (by omega))).trans (f0.out.mono (by omega));refine ⟨v',rfl,?_,a8⟩;rw [cq.out,f4.out];exact bE au.out (by omega)
    · have d5:(t::o).length<=10000000:=fl.out;obtain ⟨Q,eq⟩:∃Q,textF (firstF a [49,48,48]) [97]=Q:=⟨_,rfl⟩;rw [eq] at cP c7 dN;have gn:Q.length<=1000000:=dN.out;unfold lM at cP;generalize (firstF a [49,48,48]).getD zeroF=g at *;obtain ⟨gt,gi,gd,gs⟩:=g;clear eq
      gi_wp2_with (first
       |(refine ⟨trivial,?_⟩;gi_at_call 178;refine (callsIn_wide.2 dz.out).mono ?_;rintro e G ⟨rfl,u⟩;obtain ⟨_,he,hh,hj⟩:=cz G (HB.trans (u.mono hz));have a6:Hid (G.ownsRow (w.heap.size+1) 9 1 u3 f.length (f.map λs=>S s)):=ah T.out (λg hg=>u.block g (T.lt g hg).2);have fp:=a0a (cP G u);have bB:=a0a u;clear u)
       |(refine ⟨trivial,?_⟩;gi_at_call 184;refine (callsIn_wide.2 fp.out).mono ?_;rintro e r ⟨⟨v,rfl,dd,rfl,ad,cp,rfl,_⟩,O⟩;have ao:Hid (r.ownsRow (w.heap.size+1) 9 1 u3 f.length (f.map λs=>S s)):=ah a6.out (λg hg=>O.block g (a6.lt g hg).2);have L:Hid (a0e wr.heap.size wr r):=bB.trans (O.mono bB.size);clear O)
       |(refine ⟨trivial,?_⟩;gi_at_call 185;refine (callsIn_wide.2 (jd Q _)).mono ?_;rintro e w1 ⟨rfl,rfl⟩))
      obtain ⟨H,aC⟩:∃H,(((r.alloc (.cells #[S gt,S gi,S gd, .slice ad gs.length cp] 123)).alloc (.cells #[S []] 9)).alloc (.cells #[S Q] 9))=H:=⟨_,rfl⟩;have er:H.heap.size=r.heap.size+3:=by rw [<- aC];simp
      have d3:a0e r.heap.size r H:=by rw [<- aC];exact (((a0k _ r).alloc (a0d _) _).alloc (by simp) _).alloc (by simp;omega) _
      have e5:H.heap[r.heap.size+1]? =some (.cells #[S []] 9 (0,0)):=by rw [<- aC,Below.heap_alloc _ _ _ (by simp)];have:=a0f (r.alloc (.cells #[S gt,S gi,S gd, .slice ad gs.length cp] 123)) (.cells #[S []] 9);rwa [a0m] at this
      have e9:H.cell? ⟨r.heap.size+2,0,none⟩=some (S Q):=by have:=a0f ((r.alloc (.cells #[S gt,S gi,S gd, .slice ad gs.length cp] 123)).alloc (.cells #[S []] 9)) (.cells #[S Q] 9);rw [a0m,a0m,aC] at this;exact (aa this 0).trans rfl
      have c3:Hid (H.ownsRow (w.heap.size+1) 9 1 u3 f.length (f.map λs=>S s)):=ah ao.out (λg hg=>d3.block g (ao.lt g hg).2);have ds:Hid (∀g,u3.ownBlock=some g->g<r.heap.size):=λg hg=>(ao.lt g hg).2;have dk:Hid (w.heap.size+1<=r.heap.size/\a0e w.heap.size w H):=by have h1:=L.size;exact ⟨by omega,(bO.out.trans (L.out.mono bO.out.size)).trans (d3.mono (by omega))⟩
      have g8:=je 9 (by omega) (r.heap.size+2) Q gn H e9;have gb:o9 H (r.heap.size+1) [] (λ_=>False) H:=⟨rfl,rfl,rfl,a0d _,λ_ _ _=>rfl,e5,λk P=>P.elim⟩;have e6:r.heap.size+1<H.heap.size:=by omega
      have dO:=a0a er;rw [aC];clear aC d3 e5 e9 er
      refine km rfl (by decide) (gf:=247) (lb:= #[.pointer (some ⟨r.heap.size+2,0,none⟩)]) ?hg trivial (enters_of Tryz.func247 (by kernel_rfl) rfl) g8 (λk P=>P.elim) (a0k _ _) (λ_=>rfl)
       (λM bA W=>bA=[]/\o9 H (r.heap.size+1) [] M W) (λc M bA W=>c= .exit 4/\∃x,bA=[x]/\o9 H (r.heap.size+1) x M W) (λM s X M' Y h ht=>⟨h.1,h.2.turn e6 ht⟩) (λc M s X M' Y h ht=>⟨h.1,h.2.imp λx hx=>⟨hx.1,hx.2.turn e6 ht⟩⟩) (λM s X h k P=>(h.2.m k P).1) (λc M s X h k P=>by obtain ⟨_,x,_,hw⟩:=h;exact (hw.m k P).1)
       ⟨rfl,gb⟩ ?a1 ?assign ?body ?done ?stop
      case hg=>simp [Act.eval]
      case assign=>
       intro l x W K hK;gi_wp2
       exact hK
      case done=>
       rintro D M zs W hD hS ⟨rfl,F⟩ b7;obtain ⟨z,hz⟩:∃z:Bs,z=[]:=⟨_,rfl⟩;rw [<- hz] at F;have al:(ba Q).headD []=z:=by rw [<- hS,hz];rfl
       have gq:z.length<=4000000:=by rw [hz];simp
       clear hS hz;have b8:W.ownsRow (w.heap.size+1) 9 1 u3 f.length (f.map λs=>S s):=ah c3.out (λg hg=>F.block g (c3.out.lt g hg).2 (λe=>by have:=ds.out g hg;omega));have g7:W.cell? ⟨r.heap.size+1,0,none⟩=some (S z):=(aa F.d 0).trans rfl;have g9:o.length+1<=10000000:=by simpa using d5
       have s1:¬9223372036854775807<6+(o.length+1):=by omega
       have gx:¬9223372036854775807<o.length+1+1+1+1+1+1+1+3:=by omega
       have gy:¬9223372036854775807<o.length+3+1+1+1+1+1+1+1+z.length:=by omega
       have b4:Hid (rawR a=f++[[116,105,116,108,101,32]++(t::o)++[32,47,32]++z]):=by unfold Hid;rw [cy.out,if_neg (by simp),dB.out,c7.out,al]
       have cm:Hid (rawR a=f++[[116,105,116,108,101,32]++((t::o)++([32,47,32]++z))]):=by unfold Hid;rw [b4.out];simp
       have aS:=a0a (λW v (h:W.ownsRow (w.heap.size+1) 9 1 v (f++[[116,105,116,108,101,32]++((t::o)++([32,47,32]++z))]).length ((f++[[116,105,116,108,101,32]++((t::o)++([32,47,32]++z))]).map λs=>S s))=>kF (w.heap.size+1) W v _ h (by rw [a0b];simp only [a0g,a0h];omega));have aT:=a0a (λW v (h:W.ownsRow (w.heap.size+1) 9 1 v (f++[[116,105,116,108,101,32]++((t::o)++([32,47,32]++z))]).length (((f++[[116,105,116,108,101,32]++((t::o)++([32,47,32]++z))]).mergeSort λx y=>decide (x<=y)).map λs=>S s))=>gr (w.heap.size+1) W v ((f++[[116,105,116,108,101,32]++((t::o)++([32,47,32]++z))]).mergeSort λx y=>decide (x<=y)) (by rw [a0c];exact h) (by rw [a0c,a0b];simp only [a0g,a0h];omega));have E:=a0a F;have av:=a0a b8;have b3:=a0a b7;have I:=dk.out;have g6:=E.size;have g3:=dO.out;clear F b8 al b7 b4
       gi_wp2_with (first
        |(gi_at_builtin;(refine a0l _ rfl _ _ 81 rfl (w.heap.size+1) 9 i0 (.string ⟨#[]⟩) 1 16 Tryz.underlying81 HI.out cc.out cd.out cg.out rfl a0t u3 f.length (f.map λs=>S s) ?_ ?_ ⟨W.heap.size,0,none⟩ 1 1 [S ([116,105,116,108,101,32]++((t::o)++([32,47,32]++z)))] ?_ ?_ ?_ ?_ ?_ ?_ ?_ ?_);(focus rfl);(focus exact (av.out.alloc _));(focus rfl);(focus rfl);(focus exact cell_one_new _ _ _);(focus simp [a0p]);(focus (unfold maxLen;omega));(focus omega);(focus (simp;omega));intro v' w5 ac a9 _ _;have au:Hid (w5.ownsRow (w.heap.size+1) 9 1 v' (f++[[116,105,116,108,101,32]++((t::o)++([32,47,32]++z))]).length ((f++[[116,105,116,108,101,32]++((t::o)++([32,47,32]++z))]).map λs=>S s)):=(by rw [a0b,a0n];exact ac);have b0:=a0a a9;clear ac a9)
        |(refine ⟨trivial,?_⟩;gi_at_call 186;refine (callsIn_wide.2 (aS _ _ au.out)).mono ?_;rintro e w6 ⟨rfl,bk,b9,bb⟩;have b5:=a0a bk;have c9:=a0a b9;have ch:=a0a bb;clear bk b9 bb)
        |(refine ⟨trivial,?_⟩;gi_at_call 187;refine (callsIn_wide.2 (aT _ _ b5.out)).mono ?_;rintro e w7 ⟨v7,rfl,bs,Z,bc⟩;have cx:=a0a bs;have cb:=a0a Z;have cl:=a0a bc;clear bs Z bc))
       have ax:a0e W.heap.size W (W.alloc (.cells #[S ([116,105,116,108,101,32]++((t::o)++([32,47,32]++z)))] 9)):=(a0k _ W).alloc (a0d _) _;have cQ:=ae b3.out;have ay:∀(X:World) (v:Value) (xs:List Value) n,X.heap[D]? =some (.deferred (some []))->X.ownsRow (w.heap.size+1) 9 1 v n xs->v.ownBlock≠some D:=λX v xs n hX hr e=>by
        obtain ⟨e4,A⟩:=aD hr e;rw [hX] at A;injection A with A
        exact Obj.noConfusion A
       have k9:=(ax.block D cQ).trans b3.out;have k5:w5.heap[D]? =some (.deferred (some [])):=(b0.block D (ae k9) (λe=>ay _ _ _ _ k9 (av.alloc _) e.symm)).trans k9;have k6:=(ch D (ae k5) (ay _ _ _ _ k5 au.out)).trans k5;have k7:=(cl D (ae k6) (ay _ _ _ _ k6 b5.out)).trans k6;refine ⟨by simp, .inl ⟨_,_,rfl,run_takeDeferred k7,?_⟩⟩;have g2:w.heap.size+1<=D:=by omega
       have gp:=ax.size;have a8:a0e (w.heap.size+1) W w5:=(ax.mono (by omega)).grown b0.out (by omega) (λg hg=>(av.out.lt g hg).1);have Z:a0e (w.heap.size+1) W w7:=(a8.trans c9.out).trans cb.out;have d6:a0e w.heap.size w W:=⟨E.out.os.trans I.2.os,E.out.tape.trans I.2.tape,E.out.output.trans I.2.output,a0j I.2.size E.out.size,λk P=>(E.out.block k (by have:=I.2.size;omega) (by omega)).trans (I.2.block k P)⟩;refine ⟨_,results_tmp rfl _ _ _,v7,rfl,?_,(d6.trans (Z.mono (by omega))).trans (belowK_b (w:=w) (a0d _) w7 D _ _ (by omega) k7 rfl rfl)⟩;rw [cq.out,cm.out];exact ownsRow_putObj (bE cx.out (by omega)) _ k7 rfl
      case stop=>
       rintro D c M bA W hD hS ⟨rfl,z,rfl,F⟩ b7;obtain ⟨zz,d8⟩:=hS.2;have al:(ba Q).headD []=z:=by rw [<- d8];rfl
       have gq:z.length<=4000000:=by have:=kr Q z (by rw [<- d8];simp);omega
       clear hS d8;have b8:W.ownsRow (w.heap.size+1) 9 1 u3 f.length (f.map λs=>S s):=ah c3.out (λg hg=>F.block g (c3.out.lt g hg).2 (λe=>by have:=ds.out g hg;omega));have g7:W.cell? ⟨r.heap.size+1,0,none⟩=some (S z):=(aa F.d 0).trans rfl;have g9:o.length+1<=10000000:=by simpa using d5
       have s1:¬9223372036854775807<6+(o.length+1):=by omega
       have gx:¬9223372036854775807<o.length+1+1+1+1+1+1+1+3:=by omega
       have gy:¬9223372036854775807<o.length+3+1+1+1+1+1+1+1+z.length:=by omega
       have b4:Hid (rawR a=f++[[116,105,116,108,101,32]++(t::o)++[32,47,32]++z]):=by unfold Hid;rw [cy.out,if_neg (by simp),dB.out,c7.out,al]
       have cm:Hid (rawR a=f++[[116,105,116,108,101,32]++((t::o)++([32,47,32]++z))]):=by unfold Hid;rw [b4.out];simp
       have aS:=a0a (λW v (h:W.ownsRow (w.heap.size+1) 9 1 v (f++[[116,105,116,108,101,32]++((t::o)++([32,47,32]++z))]).length ((f++[[116,105,116,108,101,32]++((t::o)++([32,47,32]++z))]).map λs=>S s))=>kF (w.heap.size+1) W v _ h (by rw [a0b];simp only [a0g,a0h];omega));have aT:=a0a (λW v (h:W.ownsRow (w.heap.size+1) 9 1 v (f++[[116,105,116,108,101,32]++((t::o)++([32,47,32]++z))]).length (((f++[[116,105,116,108,101,32]++((t::o)++([32,47,32]++z))]).mergeSort λx y=>decide (x<=y)).map λs=>S s))=>gr (w.heap.size+1) W v ((f++[[116,105,116,108,101,32]++((t::o)++([32,47,32]++z))]).mergeSort λx y=>decide (x<=y)) (by rw [a0c];exact h) (by rw [a0c,a0b];simp only [a0g,a0h];omega));have E:=a0a F;have av:=a0a b8;have b3:=a0a b7;have I:=dk.out;have g6:=E.size;have g3:=dO.out;clear F b8 al b7 b4
       gi_wp2_with (first
        |(gi_at_builtin;(refine a0l _ rfl _ _ 81 rfl (w.heap.size+1) 9 i0 (.string ⟨#[]⟩) 1 16 Tryz.underlying81 HI.out cc.out cd.out cg.out rfl a0t u3 f.length (f.map λs=>S s) ?_ ?_ ⟨W.heap.size,0,none⟩ 1 1 [S ([116,105,116,108,101,32]++((t::o)++([32,47,32]++z)))] ?_ ?_ ?_ ?_ ?_ ?_ ?_ ?_);(focus rfl);(focus exact (av.out.alloc _));(focus rfl);(focus rfl);(focus exact cell_one_new _ _ _);(focus simp [a0p]);(focus (unfold maxLen;omega));(focus omega);(focus (simp;omega));intro v' w5 ac a9 _ _;have au:Hid (w5.ownsRow (w.heap.size+1) 9 1 v' (f++[[116,105,116,108,101,32]++((t::o)++([32,47,32]++z))]).length ((f++[[116,105,116,108,101,32]++((t::o)++([32,47,32]++z))]).map λs=>S s)):=(by rw [a0b,a0n];exact ac);have b0:=a0a a9;clear ac a9)
        |(refine ⟨trivial,?_⟩;gi_at_call 186;refine (callsIn_wide.2 (aS _ _ au.out)).mono ?_;rintro e w6 ⟨rfl,bk,b9,bb⟩;have b5:=a0a bk;have c9:=a0a b9;have ch:=a0a bb;clear bk b9 bb)
        |(refine ⟨trivial,?_⟩;gi_at_call 187;refine (callsIn_wide.2 (aT _ _ b5.out)).mono ?_;rintro e w7 ⟨v7,rfl,bs,Z,bc⟩;have cx:=a0a bs;have cb:=a0a Z;have cl:=a0a bc;clear bs Z bc))
       have ax:a0e W.heap.size W (W.alloc (.cells #[S ([116,105,116,108,101,32]++((t::o)++([32,47,32]++z)))] 9)):=(a0k _ W).alloc (a0d _) _;have cQ:=ae b3.out;have ay:∀(X:World) (v:Value) (xs:List Value) n,X.heap[D]? =some (.deferred (some []))->X.ownsRow (w.heap.size+1) 9 1 v n xs->v.ownBlock≠some D:=λX v xs n hX hr e=>by
        obtain ⟨e4,A⟩:=aD hr e;rw [hX] at A;injection A with A
        exact Obj.noConfusion A
       have k9:=(ax.block D cQ).trans b3.out;have k5:w5.heap[D]? =some (.deferred (some [])):=(b0.block D (ae k9) (λe=>ay _ _ _ _ k9 (av.alloc _) e.symm)).trans k9;have k6:=(ch D (ae k5) (ay _ _ _ _ k5 au.out)).trans k5;have k7:=(cl D (ae k6) (ay _ _ _ _ k6 b5.out)).trans k6;refine ⟨by simp, .inl ⟨_,_,rfl,run_takeDeferred k7,?_⟩⟩;have g2:w.heap.size+1<=D:=by omega
       have gp:=ax.size;have a8:a0e (w.heap.size+1) W w5:=(ax.mono (by omega)).grown b0.out (by omega) (λg hg=>(av.out.lt g hg).1);have Z:a0e (w.heap.size+1) W w7:=(a8.trans c9.out).trans cb.out;have d6:a0e w.heap.size w W:=⟨E.out.os.trans I.2.os,E.out.tape.trans I.2.tape,E.out.output.trans I.2.output,a0j I.2.size E.out.size,λk P=>(E.out.block k (by have:=I.2.size;omega) (by omega)).trans (I.2.block k P)⟩;refine ⟨_,results_tmp rfl _ _ _,v7,rfl,?_,(d6.trans (Z.mono (by omega))).trans (belowK_b (w:=w) (a0d _) w7 D _ _ (by omega) k7 rfl rfl)⟩;rw [cq.out,cm.out];exact ownsRow_putObj (bE cx.out (by omega)) _ k7 rfl
      case body=>
       rintro l M bA x W ⟨rfl,F⟩ hG;have A:=(aa F.d 0).trans rfl;have hf:=ab F.d 0;have E:=a0a F;clear F;gi_wp2
       exact ⟨KeepsOthers.setCell _ _ _,rfl,x,rfl,E.set x⟩
end
end Go.Proofs.YtjcimanddakkaaaGreatDoor
