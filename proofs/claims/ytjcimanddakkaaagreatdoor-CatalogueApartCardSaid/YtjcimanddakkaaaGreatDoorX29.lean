/- Lemmas. -/
import Derived.Test.YtjcimanddakkaaaGreatDoorX0
import Derived.Test.YtjcimanddakkaaaGreatDoorX27
set_option maxRecDepth 100000
set_option maxHeartbeats 8000000
namespace Go.Proofs.YtjcimanddakkaaaGreatDoor
open Go.Lib renaming hid→a0a
open Go.World renaming alloc_heap_new→a0b
open _root_.Nat renaming le_trans→a0c,le_refl→a0d,lt_of_lt_of_le→a0e
open Go.Calls renaming mono→a0f
open Go.RowKit.Below renaming refl→a0g
section
open Go.RowKit Go.Maps Go.Shelf
def apartN (ps:List (PK×(Int×Bool))):Nat:=(ps.filter λp=> !p.2.2).length
theorem rv (ps:List (PK×(Int×Bool))) (k:Nat) (h:k<ps.length):apartN (ps.take (k+1))=apartN (ps.take k)+if ps[k].2.2 then 0 else 1:=by
 unfold apartN;rw [List.take_succ_eq_append_getElem h,List.filter_append,List.length_append];cases h2:ps[k].2.2<;>simp [h2]
theorem nn (ps:List (PK×(Int×Bool))):apartN ps<=ps.length:=List.length_filter_le _ _
theorem ru {ps:List (PK×(Int×Bool))} (h:apartN ps=0):∀p∈ps,p.2.2=true:=λp b=>by
 unfold apartN at h;have a:=List.eq_nil_of_length_eq_zero h;rw [List.filter_eq_nil_iff] at a;have:=a p b;simpa using this
theorem bM.dec {F:Nat->Prop} {w:World} {p:Nat} {d:ar} (h:bM F w p d):∃(f j:Value) (a:Option Addr) (c:Nat),w.heap[p]? =some (.cells #[f,j, .slice a d.ps.length c] 34 (0,0))/\
 ∀k (l:k<d.ps.length),∃g,a=some ⟨g,0,none⟩/\F g/\(w.cell? ⟨g,k * 6,none⟩=some (.int .i64 d.ps[k].1.1.1)/\w.cell? ⟨g,k * 6+1,none⟩=some (.int .i64 d.ps[k].1.1.2)/\w.cell? ⟨g,k * 6+2,none⟩=some (.int .i64 d.ps[k].1.2.1)/\w.cell? ⟨g,k * 6+3,none⟩=some (.int .i64 d.ps[k].1.2.2)/\w.cell? ⟨g,k * 6+4,none⟩=some (.int .i64 d.ps[k].2.1)/\w.cell? ⟨g,k * 6+5,none⟩=some (.bool d.ps[k].2.2)):=by
 obtain ⟨f,j,o,q,h⟩:=h;have e:=h.ps;obtain ⟨a,c,rfl⟩:=aK e;refine ⟨f,j,a,c,h.blk,λk l=>?_⟩;obtain ⟨g,c2,n,_⟩:=e.form (by omega);cases n;have b:∀i,i<6->w.cell? ⟨g,k * 6+i,none⟩=(decCells d.ps[k])[i]? :=λi m=>by rw [e.cellAt (k * 6+i) (by omega),de decCells 6 (λ_=>rfl) _ k l i m]
 exact ⟨g,rfl,h.f3 g rfl,(b 0 (by omega)).trans rfl,(b 1 (by omega)).trans rfl,(b 2 (by omega)).trans rfl,(b 3 (by omega)).trans rfl,(b 4 (by omega)).trans rfl,(b 5 (by omega)).trans rfl⟩
theorem apart_3 (v:Value) (l:List du) (w:World) (h:jE w v l):Calls Tryz.prog 3 #[v] w λe w'=>e= .returned (.bool true)/\Below w.heap.size w w':=by
 have dN:=a0a (uE w);have cb:=a0a (λW (hb:Below w.heap.size w W)=>yC v l W (h.keep hb));obtain ⟨d,hd⟩:∃d,playC l=d:=⟨_,rfl⟩;have bO:=wN l;have c4:=yB l;rw [hd] at cb bO c4;have cm:=a0a bO;have bc:=a0a c4;clear h bO c4 hd;go_enter Tryz.func3,Tryz.ntmps3;go_upto_region 2 with (go_at_call 10;((with_reducible refine a0f dN.out ?_);rintro e w1 ⟨rfl,d6⟩;have Y:=a0a d6;clear d6))
 have cP:=cb w1 Y.out;have dO:=a0a cP;clear cP;go_upto_region 3 with (go_at_call 11;((with_reducible refine a0f dO.out ?_);rintro e U ⟨c,p,X,o,rfl,ds,d8,dd⟩;have ax:=a0a ds;have ao:=a0a d8;have cl:=a0a dd;clear ds d8 dd))
 obtain ⟨T,hT⟩:∃T,U.heap.size=T:=⟨_,rfl⟩;obtain ⟨y,b0⟩:∃y,U.alloc (.cells #[.pointer (some ⟨c,0,none⟩), .pointer (some ⟨p,0,none⟩)] 27)=y:=⟨_,rfl⟩;have d2:y.heap[T]? =some (.cells #[.pointer (some ⟨c,0,none⟩), .pointer (some ⟨p,0,none⟩)] 27 (0,0)):=by rw [<- b0, <- hT];exact a0b U _
 have bB:Below U.heap.size U y:=by rw [<- b0];exact (a0g _ U).alloc (a0d _) _
 have bk:Hid (bj X o y c p d):=ax.below bB;have cc:Hid (Below w.heap.size w y):=(Y.trans (ao.mono Y.size)).trans (bB.mono (a0c Y.size ao.size));have ch:Hid (∀k,X k∨o k->w.heap.size<=k/\k≠T):=λk hk=>⟨a0c Y.size (cl k hk),λe=>by have:k<U.heap.size:=hk.elim (ax.cat.lt k) (ax.mod.lt k);omega⟩
 have bv:=a0a d2;have eg:Hid (w.heap.size<=T):=by unfold Hid;rw [<- hT];exact a0c Y.out.size ao.out.size
 rw [hT,b0];clear hT b0 d2 bB;have cv:Hid (d.ps.length<=40):=cm.lp;obtain ⟨v1,v2,a,c3,O,a9⟩:=bk.mod.dec;have cg:=a0a a9;obtain ⟨n,hn⟩:∃n,d.ps.length=n:=⟨_,rfl⟩;rw [hn] at O;have cu:=a0a O;have HN:=a0a hn;have er:n<=40:=by rw [<- hn];exact cv.out
 clear a9 hn O;go_upto_region 7 with fail
 go_loopw [6,7] (λt i wr=>∃k:Nat,k<=n/\i= .int .i64 k/\t= .int .i64 (apartN (d.ps.take k))/\Hid (wr=y)) (λ_ i _=>n - (intOf i).toNat)
 case atStart=>exact ⟨0,Nat.zero_le _,rfl,rfl,rfl⟩
 case round=>
  obtain ⟨k,hk,rfl,rfl,HW⟩:=hrel;obtain rfl:y=wr:=HW.symm;have t1:y.cell? ⟨T,1,none⟩=some (.pointer (some ⟨p,0,none⟩)):=(aa bv.out 1).trans rfl;have p2:y.cell? ⟨p,2,none⟩=some (.slice a n c3):=(aa cu.out 2).trans rfl;by_cases hlt:k<n
  · have ac:k<d.ps.length:=by rw [HN.out];exact hlt
    obtain ⟨g,rfl,_,_,_,_,_,_,e5⟩:=cg k ac;have c0:=rv d.ps k ac;have eq:apartN (d.ps.take k)<=40:=a0c (nn _) (by rw [List.length_take];omega);obtain ⟨u,dc⟩:∃u,d.ps[k].2.2=u:=⟨_,rfl⟩;rw [dc] at e5 c0;clear dc;have i1:(k:Int)<(n:Int):=by omega
    have cs:=a0a c0;clear c0;rcases u with _|_
    · go_wp2_with fail
      go_roundw
      case rel=>exact ⟨k+1,hlt,by go_num,by rw [cs.out];go_num,a0a trivial⟩
      case measure=>simp [intOf];omega
    · go_wp2_with fail
      go_roundw
      case rel=>exact ⟨k+1,hlt,by go_num,by rw [cs.out];rfl,a0a trivial⟩
      case measure=>simp [intOf];omega
  · obtain rfl:k=n:=by omega
    have dz:d.ps.take k=d.ps:=List.take_of_length_le (by rw [HN.out];exact a0d _);rw [dz];have i1:¬(k:Int)<(k:Int):=by omega
    go_upto_region 12 with fail
    obtain ⟨N,hN⟩:∃N,apartN d.ps=N:=⟨_,rfl⟩;rw [hN];have cq:=a0a hN;have ej:N<=40:=by rw [<- hN];exact a0c (nn _) cv.out
    clear hN dz t1 p2 hlt hk;go_loopw [8] (λi wr=>∃(b:Nat) (X:Nat->Prop),b<=k/\i= .int .i64 b/\Hid (bj X o wr c p d)/\Hid (∀q,X q∨o q->w.heap.size<=q/\q≠T)/\Hid (wr.heap[T]? =some (.cells #[.pointer (some ⟨c,0,none⟩), .pointer (some ⟨p,0,none⟩)] 27 (0,0)))/\Hid (Below w.heap.size w wr)) (λi _=>k - (intOf i).toNat)
    case atStart=>exact ⟨0,X,Nat.zero_le _,rfl,bk.out,ch.out,bv.out,cc.out⟩
    case round=>
     obtain ⟨b,ad,em,rfl,HP,a4,HT,HB⟩:=hrel;clear bk ch bv cc cu cg ax cl ao;have t0:wr.cell? ⟨T,0,none⟩=some (.pointer (some ⟨c,0,none⟩)):=(aa HT.out 0).trans rfl;have t1:wr.cell? ⟨T,1,none⟩=some (.pointer (some ⟨p,0,none⟩)):=(aa HT.out 1).trans rfl;obtain ⟨v1,v2,a,c3,O,a9⟩:=HP.mod.dec;rw [HN.out] at O;have p2:wr.cell? ⟨p,2,none⟩=some (.slice a k c3):=(aa O 2).trans rfl;by_cases hlt:b<k
     · have ac:b<d.ps.length:=by rw [HN.out];exact hlt
       obtain ⟨g,rfl,_,e0,e1,e2,e3,e4,e5⟩:=a9 b ac;have aS:=List.getElem_mem ac;have c5:=bc.pkey _ aS;obtain ⟨x,hx⟩:∃x,d.ps[b]=x:=⟨_,rfl⟩;rw [hx] at e0 e1 e2 e3 e4 e5 aS c5;obtain ⟨⟨⟨G,H⟩,I,J⟩,dB,u⟩:=x;have bb:=a0a aS;have i1:(b:Int)<(k:Int):=by omega
       clear a9 hx O aS;obtain ⟨R,hR⟩:∃R,wr.heap.size=R:=⟨_,rfl⟩;obtain ⟨A,b3⟩:∃A,wr.alloc (.cells #[.int .i64 G, .int .i64 H, .int .i64 I, .int .i64 J, .int .i64 dB, .bool u] 38)=A:=⟨_,rfl⟩;have aC:Below wr.heap.size wr A:=by rw [<- b3];exact (a0g _ wr).alloc (a0d _) _
       have cQ:A.heap[R]? =some (.cells #[.int .i64 G, .int .i64 H, .int .i64 I, .int .i64 J, .int .i64 dB, .bool u] 38 (0,0)):=by rw [<- b3, <- hR];exact a0b wr _
       have av:=a0a (HP.below aC);have d3:=(aC.block _ (ae HT.out)).trans HT.out;have bY:d.vs.length<=1000:=a0c cm.out.lv (by omega);have z:=pq ad A c d av.cat bY (G,H) c5.1;obtain ⟨⟨s1,s2⟩,P⟩:∃s,(titleC d (G,H)).getD (0,0)=s:=⟨_,rfl⟩;obtain ⟨se,Q⟩:∃s,(titleC d (G,H)).isSome=s:=⟨_,rfl⟩;rw [P,Q] at z;dsimp only [recK] at z;have al:=a0a z;have HS:=a0a (⟨P,Q⟩:_/\_);have cz:=a0a b3;have bt:=a0a hR;have Z:=a0a cQ;have a3:=a0a d3;have b6:=a0a aC;clear z P Q b3 hR cQ d3 aC;go_upto_region 15 with fail
       rw [cz.out,bt.out];clear e0 e1 e2 e3 e4 e5 t0 t1 p2;have t0:A.cell? ⟨T,0,none⟩=some (.pointer (some ⟨c,0,none⟩)):=(aa a3.out 0).trans rfl;have r0:A.cell? ⟨R,0,none⟩=some (.int .i64 G):=(aa Z.out 0).trans rfl;have r1:A.cell? ⟨R,1,none⟩=some (.int .i64 H):=(aa Z.out 1).trans rfl;go_upto_region 16 with (go_at_call 12;((with_reducible refine a0f al.out ?_);rintro e B ⟨K,rfl,hC,sC⟩;have b8:=a0a hC;have D:=a0a sC;clear hC sC))
       clear t0 r0 r1;have d1:=ae Z.out;have d5:=ae a3.out;have a5:Hid (¬ad R/\¬ad T):=⟨λhf=>by have:=HP.out.cat.lt R hf;have:=bt.out;omega,λhf=>(a4.out T (.inl hf)).2 rfl⟩;have bs:Hid (B.heap[R]? =_):=(D.block R d1 a5.1).trans Z.out;have bw:Hid (B.heap[T]? =_):=(D.block T d5 a5.2).trans a3.out;have cp:Hid (bM o B p d):=bj.one av.out D.out;obtain ⟨F,aT⟩:∃q,B.heap.size=q:=⟨_,rfl⟩;obtain ⟨m,b4⟩:∃m,B.alloc (.cells #[.int .i64 s1, .int .i64 s2] 36)=m:=⟨_,rfl⟩;have a8:Below B.heap.size B m:=by rw [<- b4];exact (a0g _ B).alloc (a0d _) _
       have dx:m.heap[F]? =some (.cells #[.int .i64 s1, .int .i64 s2] 36 (0,0)):=by rw [<- b4, <- aT];exact a0b B _
       rw [aT,b4];clear b4;have a0:Hid (m.heap[R]? =_):=(a8.block R (ae bs.out)).trans bs.out;have a6:Hid (m.heap[T]? =_):=(a8.block T (ae bw.out)).trans bw.out;have b9:Hid (bz K m c d):=b8.below a8;have z:=pq K m c d b9.out bY (I,J) c5.2;obtain ⟨⟨u1,u2⟩,P⟩:∃s,(titleC d (I,J)).getD (0,0)=s:=⟨_,rfl⟩;obtain ⟨ue,Q⟩:∃s,(titleC d (I,J)).isSome=s:=⟨_,rfl⟩;rw [P,Q] at z;dsimp only [recK] at z;have al:=a0a z;have HU:=a0a (⟨P,Q⟩:_/\_);have b7:=a0a a8;have ay:=a0a dx;have cy:=a0a aT;clear z P Q a8 dx aT d1 d5;have t0:m.cell? ⟨T,0,none⟩=some (.pointer (some ⟨c,0,none⟩)):=(aa a6.out 0).trans rfl;have r0:m.cell? ⟨R,2,none⟩=some (.int .i64 I):=(aa a0.out 2).trans rfl;have r1:m.cell? ⟨R,3,none⟩=some (.int .i64 J):=(aa a0.out 3).trans rfl;go_upto_region 17 with (go_at_call 12;((with_reducible refine a0f al.out ?_);rintro e V ⟨C,rfl,hC,sC⟩;have cd:=a0a hC;have r:=a0a sC;clear hC sC))
       clear t0 r0 r1;obtain ⟨c9,c6⟩:∃q,V.heap.size=q:=⟨_,rfl⟩;obtain ⟨j,b5⟩:∃j,V.alloc (.cells #[.int .i64 u1, .int .i64 u2] 36)=j:=⟨_,rfl⟩;have M:Below V.heap.size V j:=by rw [<- b5];exact (a0g _ V).alloc (a0d _) _
       have c7:j.heap[c9]? =some (.cells #[.int .i64 u1, .int .i64 u2] 36 (0,0)):=by rw [<- b5, <- c6];exact a0b V _
       rw [c6,b5];clear b5;have au:Hid (¬K R/\¬K T/\¬K F):=⟨D.out.not (ae Z.out) a5.out.1,D.out.not (ae a3.out) a5.out.2,λhf=>by have:=b8.out.lt F hf;have:=cy.out;omega⟩;have d0:j.heap[R]? =_:=(M.block R (a0e (ae a0.out) r.size)).trans ((r.block R (ae a0.out) au.1).trans a0.out);have d4:j.heap[T]? =_:=(M.block T (a0e (ae a6.out) r.size)).trans ((r.block T (ae a6.out) au.2.1).trans a6.out);have bA:j.heap[F]? =_:=(M.block F (a0e (ae ay.out) r.size)).trans ((r.block F (ae ay.out) au.2.2).trans ay.out);have x0:j.cell? ⟨F,0,none⟩=some (.int .i64 s1):=(aa bA 0).trans rfl;have x1:j.cell? ⟨F,1,none⟩=some (.int .i64 s2):=(aa bA 1).trans rfl;have y0:j.cell? ⟨c9,0,none⟩=some (.int .i64 u1):=(aa c7 0).trans rfl;have y1:j.cell? ⟨c9,1,none⟩=some (.int .i64 u2):=(aa c7 1).trans rfl;have r5:j.cell? ⟨R,5,none⟩=some (.bool u):=(aa d0 5).trans rfl;have f:Hid (bj C o j c p d/\(∀q,C q∨o q->w.heap.size<=q/\q≠T)/\Below w.heap.size w j):=by
        have dk:bM o m p d:=cp.below b7.out;have da:∀q,K q->o q->False:=λq L E=>by
         rcases D.new q L with h3|h3
         · exact HP.dis q h3 E
         · have h4:=av.mod.lt q E;omega
        have e9:bj K o m c p d:=⟨b9.out,dk,da⟩;have e7:bM o V p d:=bj.one e9 r.out;have dy:ag ad A C j:=((D.trans (ag.of_below b7.out)).trans r.out).trans (ag.of_below M);have hz:=HB.size;have ex:=b6.size;refine ⟨⟨cd.below M,e7.below M,λq L E=>?_⟩,λq hq=>?_,?_⟩
        · rcases r.new q L with h3|h3
          · exact da q h3 E
          · have h4:=dk.lt q E;omega
        · rcases hq with L|L
          · rcases dy.new q L with E|E
            · exact a4 q (.inl E)
            · have h3:=ae a3.out;omega
          · exact a4 q (.inr L)
        · exact HB.out.trans ((b6.out.mono hz).trans (dy.below (λq hq=>(a4.out q (.inl hq)).1) (by omega)).1)
       have a7:=a0a d4;clear d0 d4 bA c7 M c6 cd r b9 D b8;clear a5 bs bw cp a0 a6 b7 ay cy au Z a3 b6 bt cz av al bY HP a4 HT HB;have HQ:Hid (se=true->ue=true->(u=false->¬(s1=u1/\s2=u2))/\(u=true->N=0->s1=u1/\s2=u2)):=by
        intro a1 a2;have b1:titleC d (G,H)=some (s1,s2):=by have c1:=HS.2;rw [a1] at c1;obtain ⟨x,hx⟩:=Option.isSome_iff_exists.mp c1;have c2:=HS.1;rw [hx] at c2 ⊢;exact congrArg some c2
        have b2:titleC d (I,J)=some (u1,u2):=by have c1:=HU.2;rw [a2] at c1;obtain ⟨x,hx⟩:=Option.isSome_iff_exists.mp c1;have c2:=HU.1;rw [hx] at c2 ⊢;exact congrArg some c2
        refine ⟨λhj=>?_,λhj e8=>?_⟩
        · intro he;exact rp bc.out.ok bb.out hj b1 b2 (by rw [he.1,he.2])
        · have e6:=ru (cq.trans e8);have hz:=sG bc.ok e6 bb.out b1 b2;exact ⟨congrArg Prod.fst hz,congrArg Prod.snd hz⟩
       clear HS HU bb cq;have nN:N≠0->¬((N:Int)=0):=by omega
       cases se
       · go_wp2_with fail
         all_goals (first |(refine ⟨⟨b+1,C,hlt,by go_num,a0a f.out.1,a0a f.out.2.1,a7,a0a f.out.2.2⟩,?_⟩;simp [intOf];omega))
       · cases ue
         · go_wp2_with fail
           all_goals (first |(refine ⟨⟨b+1,C,hlt,by go_num,a0a f.out.1,a0a f.out.2.1,a7,a0a f.out.2.2⟩,?_⟩;simp [intOf];omega))
         · have cx:=HQ rfl rfl;cases u
           · have es:=cx.1 rfl;go_wp2_with fail
             all_goals (first |(refine ⟨⟨b+1,C,hlt,by go_num,a0a f.out.1,a0a f.out.2.1,a7,a0a f.out.2.2⟩,?_⟩;simp [intOf];omega))
           · by_cases hN0:N=0
             · obtain ⟨rfl,rfl⟩:=cx.2 rfl hN0;subst hN0;go_wp2_with fail
               all_goals (first |(refine ⟨⟨b+1,C,hlt,by go_num,a0a f.out.1,a0a f.out.2.1,a7,a0a f.out.2.2⟩,?_⟩;simp [intOf];omega))
             · have eQ:=nN hN0;go_wp2_with fail
               all_goals (first |(refine ⟨⟨b+1,C,hlt,by go_num,a0a f.out.1,a0a f.out.2.1,a7,a0a f.out.2.2⟩,?_⟩;simp [intOf];omega))
     · obtain rfl:b=k:=by omega
       have i1:¬(b:Int)<(b:Int):=by omega
       go_wp2_with fail
       go_ret;exact ⟨rfl,HB.out⟩
end
end Go.Proofs.YtjcimanddakkaaaGreatDoor
