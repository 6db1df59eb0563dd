/- Lemmas. -/
import Derived.Test.YtjcimanddakkaaaGreatDoorZ27
set_option maxRecDepth 100000
set_option maxHeartbeats 8000000
namespace Go.Proofs.YtjcimanddakkaaaGreatDoor
open _root_.Option renaming some→X,none→Y
open Go.Obj renaming cells→fl
open Go.Value renaming slice→fn,int→J,pointer→fr,bool→fz
open Go.IntKind renaming i64→U,u8→fy
open Go.Ending renaming returned→ft
open Go.Lib renaming hid→Z
open Tryz
open Go.World renaming alloc_heap_new→gb,ownsRow_nil→gs,size_alloc→gz,cell?_alloc_new→gQ
open _root_.Nat renaming le_refl→gd,le_trans→gn,zero_le→gp,lt_of_lt_of_le→g9,one_pos→hg
open Go.RowKit.Below renaming refl→gf,heap_alloc→gO
open Go.Calls renaming mono→gi
open _root_.List renaming take_of_length_le→gq,length_take→gt,length_map→gx,pairwise_map→gy,getElem_mem→gP,length_append→g8,map_map→ha,getElem_map→hb,map_append→hd
open Go.Instr renaming lookup→g6
open Go renaming Calls→g7,info_parts→hf
section
open Go.RowKit Go.Maps Go.Shelf
theorem pw {W:World} {cs:List Value} {t b n c:Nat} (h:W.heap[b]? =X (fl cs.toArray t (0,0))):aF 0 W.heap.size W (fn (X ⟨b,0,Y⟩) n c) n cs:=
 ⟨_,c,rfl,λ_=>⟨b,0,rfl,gp _,ae h,λj x a=>by rw [Nat.zero_add,aa h j];simpa using a⟩⟩
theorem fD (W:World) (B:Nat) (v:Value) (L a:List Int) (b t:Nat) (p:W.ownsRow B 3 1 v L.length (L.map intV)) (m:W.heap[b]? =X (.cells (a.map intV).toArray t (0,0))) (s:L.length+a.length<=100000) (l:B<=W.heap.size):
 ∃c w',(Builtin.append_ #[84,84] 84 #[v,fn (X ⟨b,0,Y⟩) a.length a.length]).run prog W= .ok c w'/\w'.ownsRow B 3 1 c (L++a).length ((L++a).map intV)/\W.grownBy w' v.ownBlock/\(c.ownBlock=v.ownBlock∨c.ownBlock=X W.heap.size):=by
 obtain ⟨r,o,h,i,k⟩:=hf i3
 obtain ⟨c,w',q,e,f,_,g⟩:=run_append_own_at (P:=prog) (w:=W) B 84 84 3 r (J U 0) 1 8 underlying84 o h i k rfl hg v L.length (L.map intV) p ⟨b,0,Y⟩ a.length a.length (a.map intV) (by simp)
  (λj u d=>by rw [show (⟨b,0,Y⟩:Addr).add j=⟨b,j,Y⟩ from by unfold Addr.add;split<;>simp_all,aa m j];simpa using d) (λu d=>by obtain ⟨n,_,rfl⟩:=List.mem_map.1 d;rfl) (by unfold maxLen;omega) (by omega) l
 refine ⟨c,w',q,?_,f,g⟩;rw [g8,hd];exact e
theorem wD (F:Nat->Prop) (w:World) (p:Nat) (d:aE) (h:cr F w p d):
 g7 prog 31 #[fr (X ⟨p,0,Y⟩)] w λe w'=>e=ft (S (encR d))/\Bw w w':=by
 obtain ⟨v1,v2,v3,G,h⟩:=h;have z:=Z h;have HE:=Z (yG h.ok);have e5:G.length<=5000:=h.lx
 have av:Hid (∀W,Bw w W->W.cell? ⟨p,0,Y⟩=X v1/\W.cell? ⟨p,1,Y⟩=X v2/\W.cell? ⟨p,2,Y⟩=X v3):=λW v=>
  ⟨(aa ((v.block _ (z.lt p z.fp)).trans z.blk) 0).trans rfl,(aa ((v.block _ (z.lt p z.fp)).trans z.blk) 1).trans rfl,(aa ((v.block _ (z.lt p z.fp)).trans z.blk) 2).trans rfl⟩
 obtain ⟨va,vc,hv⟩:=aI h.vs;obtain ⟨N,hN⟩:=Qe G.length;have d4:v1=fn va N vc:=by rw [<- hN];exact hv
 have cl:Hid (w.ownsRow 0 64 6 v1 G.length (G.flatMap verCells)):=h.vs;rw [hN] at e5;have HN:=Z hN;rw [d4] at cl av;obtain ⟨i0,hi,d8,d9,da⟩:=hf i9;have HI:=Z hi;have dy:=Z d8;have dz:=Z d9;have e0:=Z da;clear h hv hN d4 hi d8 d9 da;go_enter func31,ntmps31;go_wp2_with fail
 go_loopw [3,4] (λs i wr=>∃(k:Nat),k<=N/\i=J U k/\Hid (wr.ownsRow w.heap.size 9 1 s ((G.take k).flatMap λq=>verS (q.1,q.2.1)).length (((G.take k).flatMap λq=>verS (q.1,q.2.1)).map bsV))/\Hid (Bw w wr)) (λ_ i _=>N - (intOf i).toNat)
 case atStart=>exact ⟨0,gp _,rfl,gs _ _ _ _,gf _ _⟩
 case round=>
  obtain ⟨k,hk,rfl,E,HB⟩:=hrel;obtain ⟨c0,c1,c2⟩:=av wr HB.o;by_cases hlt:k<N
  · have a7:k<G.length:=by rw [HN.o];exact hlt
    have a0:=cl.o;rw [<- HN.o] at a0;obtain ⟨g,c,he,f,y⟩:=dg (enc:=verCells) (λ_=>rfl) a0 k a7;injection he with he1 he2 he3
    subst he1 he3;have b5:G[k]∈G:=gP a7;have a2:((G.take (k+1)).flatMap λq=>verS (q.1,q.2.1))=((G.take k).flatMap λq=>verS (q.1,q.2.1))++verS (G[k].1,G[k].2.1):=cN _ _ _ a7;have V:=Z a2;obtain ⟨e,a9⟩:=Qe (G[k]);rw [a9] at y b5 V;obtain ⟨⟨l,r⟩,⟨n,⟨Q,R,I⟩⟩,x⟩:=e;obtain ⟨lo,em,cz,cQ,_⟩:=z.fx _ b5;have b4:((l,r),n,(⟨Q,R,I⟩:az))∈d.vs:=by rw [<- z.o.vx];exact List.mem_map.2 ⟨_,b5,rfl⟩
    have cq:Hid (wrongR ⟨Q,R,I⟩=0):=z.ok.right _ b4;have bb:Hid (rkOk (l,r)):=z.ok.vkey _ b4;have cg:Hid (i64B n):=z.ok.vnum _ b4;have HF:Hid (ai 0 w.heap.size w x I):=cz.mono (gp _) cQ;have g0:=y 0 _ rfl;have g1:=y 1 _ rfl;have g2:=y 2 _ rfl;have g3:=y 3 _ rfl;have g4:=y 4 _ rfl;have g5:=y 5 _ rfl;have a6:=ar HB.o;rw [<- a6.1 g _ f] at g0 g1 g2 g3 g4 g5;rw [Nat.add_zero] at g0;clear y a2 b5 b4 cz cQ a0 a9 a6;obtain ⟨xa,xc,rfl⟩:=HF.shape;have a1:Hid (((G.take k).flatMap λq=>verS (q.1,q.2.1)).length<=10000):=by have h1:=dP (λq:RK×VX=>verS (q.1,q.2.1)) 2 (G.take k) (λa _=>gd _);rw [gt] at h1;unfold Hid;omega
    have HW:Hid (∀W,Bw w W->g7 prog 69 #[.agg #[J fy Q.toNat,J fy R.toNat,fn xa I.length xc]] W λe w'=>e=ft (.tuple #[S (aV ⟨Q,R,I⟩).1,J U (aV ⟨Q,R,I⟩).2])/\Bw W w'):=λW v=>
     xo ⟨Q,R,I⟩ _ W ⟨_,rfl,(HF.kept (aP v (gd _))).mono (gd _) v.size⟩ (dC cq.o).2.2
    have e1:Hid (∀W b t,W.heap[b]? =X (fl #[J U l,J U r,J U n] t (0,0))->g7 prog 36 #[fn (X ⟨b,0,Y⟩) 3 3] W λe w'=>e=ft (S (intsR [l,r,n]))/\Bw W w'):=λW b t v=>
     pH [l,r,n] _ W (pw (cs:=[l,r,n].map intV) v) (λm hm=>by
      simp only [List.mem_cons,List.not_mem_nil,or_false] at hm
      rcases hm with rfl|rfl|rfl
      · exact bb.1
      · exact bb.2
      · exact cg.o) (by simp)
    dsimp only at V;rw [show verS ((l,r),(n,(⟨Q,R,I⟩:az)))=[intsR [l,r,n],(aV ⟨Q,R,I⟩).1] from rfl] at V;generalize intsR [l,r,n]=T1 at *;generalize (aV ⟨Q,R,I⟩).1=T2 at *;generalize (aV ⟨Q,R,I⟩).2=e2 at *;clear cq bb cg HF;go_upto_region 6 with fail
    obtain ⟨u,a3⟩:=Qe (wr.alloc (fl #[J U l,J U r,J U n,J fy Q.toNat,J fy R.toNat,fn xa I.length xc] 64));have P:u.heap[wr.heap.size]? =X (fl #[J U l,J U r,J U n,J fy Q.toNat,J fy R.toNat,fn xa I.length xc] 64 (0,0)):=by rw [<- a3];exact gb wr _
    have a4:Bw wr u:=by rw [<- a3];exact (gf _ wr).alloc (gd _) _
    rw [a3];have H:=Z a4;have cu:=Z P;have dr:Hid (Bw w u):=HB.trans (a4.mono HB.size);have b0:Hid (w.heap.size<=wr.heap.size):=HB.size;have c3:u.cell? ⟨wr.heap.size,3,Y⟩=X (J fy Q.toNat):=(aa P 3).trans rfl;have c4:u.cell? ⟨wr.heap.size,4,Y⟩=X (J fy R.toNat):=(aa P 4).trans rfl;have c5:u.cell? ⟨wr.heap.size,5,Y⟩=X (fn xa I.length xc):=(aa P 5).trans rfl;obtain ⟨L,hL⟩:=Qe (((G.take k).flatMap λq=>verS (q.1,q.2.1)));rw [hL] at E V a1;clear a4 P a3 g0 g1 g2 g3 g4 g5 c0 c1 c2 hL
    go_wp2_with (first
     |(go_at_call 69;((with_reducible refine gi (HW.o _ dr.o) ?_);rintro e W2 ⟨rfl,aC⟩;have bB:=Z ((aC.block _ (ae cu.o)).trans cu.o);have d0:W2.cell? ⟨wr.heap.size,0,Y⟩=X (J U l):=((aa bB.o 0).trans rfl);have d1:W2.cell? ⟨wr.heap.size,1,Y⟩=X (J U r):=((aa bB.o 1).trans rfl);have d2:W2.cell? ⟨wr.heap.size,2,Y⟩=X (J U n):=((aa bB.o 2).trans rfl);have au:=Z (H.o.trans (aC.mono H.o.size));clear aC c3 c4 c5))
     |(go_at_call 36;((with_reducible refine gi (e1.o _ _ _ (gb _ _)) ?_);rintro e W4 ⟨rfl,aT⟩;have a8:=Z (au.o.trans (((gf _ W2).alloc (gd _) _).mono au.o.size |>.trans (aT.mono (by have:=au.o.size;simp;omega))));clear aT))
     |(at_builtin;(refine wpList_append_own_at _ rfl _ _ 81 rfl w.heap.size 9 i0 (.string ⟨#[]⟩) 1 16 underlying81 HI.o dy.o dz.o e0.o rfl hg u3 L.length (L.map bsV) ?_ ?_ ⟨W4.heap.size,0,Y⟩ 2 2 [S T1,S T2] ?_ ?_ ?_ ?_ ?_ ?_ ?_ ?_);(focus rfl);(focus exact ag E.o (λg f=>((a8.o.alloc a8.o.size _).block g (E.o.lt g f).2)));(focus rfl);(focus rfl);(focus exact cell_two_new _ _ _ _);(focus simp [Value.oneCell']);(focus (have:=a1.o;unfold maxLen;omega));(focus (have:=a1.o;omega));(focus (have:=a8.o.size;have:=b0.o;simp;omega));intro v' w7 d3 cP _ _;have ay:=Z d3;have ax:=Z cP;clear d3 cP))
    go_roundw
    case rel=>
     refine ⟨k+1,by omega,by go_num,?_,?_⟩
     · unfold Hid;rw [V.o,g8,hd];exact ay.o
     · exact ((HB.o.trans (a8.o.mono b0.o)).alloc (by have:=a8.o.size;have:=b0.o;omega) _).grown ax.o (by have:=a8.o.size;have:=b0.o;simp;omega) (λj ej=>(E.o.lt j ej).1)
    case measure=>simp [intOf];omega
  · have bw:Hid (wr.ownsRow w.heap.size 9 1 u3 (d.vs.flatMap verS).length ((d.vs.flatMap verS).map bsV)):=by
     have:=E.o;rw [gq (by rw [HN.o];omega)] at this;have e:(G.flatMap λq=>verS (q.1,q.2.1))=d.vs.flatMap verS:=by rw [<- z.o.vx,List.flatMap_map]
     rw [e] at this;exact this
    have cd:Hid (∀W,Bw wr W->W.ownsRow w.heap.size 9 1 u3 (d.vs.flatMap verS).length ((d.vs.flatMap verS).map bsV)):=λW v=>ag bw.o (λg f=>v.block g (bw.lt g f).2);clear E hk;obtain ⟨vb,vd,c6⟩:=aI z.ds;obtain ⟨M,hM⟩:=Qe d.ds.length;have e9:M<=5000:=by rw [<- hM];exact z.o.ok.dlen
    have bk:=Z hM;rw [hM] at c6;have cm:Hid (w.ownsRow 0 142 3 v2 d.ds.length (d.ds.flatMap dropCells)):=z.ds;rw [c6] at av cm;clear c6 hM;obtain ⟨j0,hj,d5,d6,d7⟩:=hf i3;have HJ:=Z hj;have e6:=Z d5;have e7:=Z d6;have e8:=Z d7;clear hj d5 d6 d7;go_wp2_with fail
    clear c0 c1 c2 hlt;obtain ⟨wa,c9⟩:=Qe wr;rw [c9] at HB bw cd;rw [c9];clear c9;go_loopw [8,9] (λs i wr=>∃(k:Nat),k<=M/\i=J U k/\Hid (wr.ownsRow w.heap.size 3 1 s ((d.ds.take k).flatMap dropI).length (((d.ds.take k).flatMap dropI).map intV))/\Hid (Bw wa wr)/\Hid (∀g,s.ownBlock=X g->wa.heap.size<=g)) (λ_ i _=>M - (intOf i).toNat)
    case atStart=>exact ⟨0,gp _,rfl,gs _ _ _ _,gf _ _,λg f=>by cases f⟩
    case round=>
     obtain ⟨k,hk,rfl,E,D,HG⟩:=hrel;have T:Hid (Bw w wr):=HB.trans (D.mono HB.size);obtain ⟨c0,c1,c2⟩:=av wr T.o;by_cases hlt:k<M
     · have a7:k<d.ds.length:=by rw [bk.o];exact hlt
       have a0:=cm.o;rw [<- bk.o] at a0;obtain ⟨g,c,he,f,y⟩:=dg (enc:=dropCells) (λ_=>rfl) a0 k a7;injection he with he1 he2 he3
       subst he1 he3;have a2:((d.ds.take (k+1)).flatMap dropI)=((d.ds.take k).flatMap dropI)++dropI d.ds[k]:=cN _ _ _ a7;obtain ⟨e,a9⟩:=Qe (d.ds[k]);rw [a9] at y a2;obtain ⟨⟨l,r⟩,n⟩:=e;have g0:=y 0 _ rfl;have g1:=y 1 _ rfl;have g2:=y 2 _ rfl;rw [Nat.add_zero] at g0;have V:Hid (((d.ds.take (k+1)).flatMap dropI)=((d.ds.take k).flatMap dropI)++[l,r,n]):=a2;have dx:Hid (∀W,Bw wa W->W.cell? ⟨p,1,Y⟩=X (fn (X ⟨g,0,Y⟩) M vd)/\W.cell? ⟨g,k * 3,Y⟩=X (J U l)/\W.cell? ⟨g,k * 3+1,Y⟩=X (J U r)/\W.cell? ⟨g,k * 3+2,Y⟩=X (J U n)):=λW v=>by have cy:=HB.trans (v.mono HB.size);have a6:=(ar cy).1 g;exact ⟨(av W cy).2.1,(a6 _ f).trans g0,(a6 _ f).trans g1,(a6 _ f).trans g2⟩
       have a1:Hid (((d.ds.take k).flatMap dropI).length<=15000):=by have h1:=dP dropI 3 (d.ds.take k) (λa _=>gd _);rw [gt] at h1;unfold Hid;omega
       obtain ⟨L,hL⟩:=Qe ((d.ds.take k).flatMap dropI);rw [hL] at E V a1;have bY:Bw wa wr.drew:=D.drew;have e4:(k:Int)<(M:Int):=by omega
       clear y a2 a9 a0 g0 g1 g2 hL c0 c2 f;go_upto_region 12 with fail
       clear c1;refine Wb wa 29 ?_;refine Qb [0,1,5,10,14,19,23,2,11,20,3,12,21,4,13,22,6,15,24,7,16,25,8,17,26,9,18] bY dx ?_;have cx:∀o,Bw wa (wr.drew.alloc o):=λo=>bY.alloc D.size o;refine Dp 27 λK O=>?_;go_simp;refine O _ _ (λ_=>cx _) ?_;clear O K;obtain ⟨wz,b6⟩:=Qe ((wr.alloc (fl #[J U l,J U r,J U n] 3)).drew);have hZ:wz.heap[wr.heap.size]? =X (fl #[J U l,J U r,J U n] 3 (0,0)):=by rw [<- b6];exact gb wr _
       have b3:Bw wr wz:=by rw [<- b6];exact ((gf _ wr).alloc (gd _) _).drew
       have b2:Bw wa wz:=D.trans (b3.mono D.size);rw [b6];obtain ⟨v',w7,ao,al,ac,ad⟩:=fD wz w.heap.size u8 L [l,r,n] wr.heap.size 3 (ag E.o (λg f=>b3.block g (E.o.lt g f).2)) hZ (by have:=a1.o;simp;omega) (gn T.o.size b3.size);have bO:Bw wa w7:=b2.grown ac b2.size (λj ej=>HG j ej);refine Dp 28 λK O=>?_;refine bi rfl rfl rfl ao ?_;refine O _ _ (λ_=>bO) ?_;clear O K;refine Dl 29 ?_;have aS:=Z bO;have ay:=Z al;have ax:Hid (∀g,v'.ownBlock=X g->wa.heap.size<=g):=λg f=>by
        rcases ad with e|e
        · exact HG.o g (by rw [<- e];exact f)
        · rw [e] at f;injection f with f;rw [<- f];exact b2.size
       clear bO al ac ad ao b2 b3 hZ b6 cx bY;go_wp2_with fail
       go_roundw
       case rel=>exact ⟨k+1,by omega,by go_num,by unfold Hid;rw [V.o];exact ay.o,aS,ax⟩
       case measure=>simp [intOf];omega
     · have bA:Hid (wr.ownsRow w.heap.size 3 1 u8 (d.ds.flatMap dropI).length ((d.ds.flatMap dropI).map intV)):=by have:=E.o;rw [gq (by rw [bk.o];omega)] at this;exact this
       have b8:Hid (∀W,Bw wr W->W.ownsRow w.heap.size 9 1 u3 (d.vs.flatMap verS).length ((d.vs.flatMap verS).map bsV)/\W.ownsRow w.heap.size 3 1 u8 (d.ds.flatMap dropI).length ((d.ds.flatMap dropI).map intV)):=λW v=>
        ⟨cd W (D.trans (v.mono D.size)),ag bA.o (λg f=>v.block g (bA.lt g f).2)⟩
       clear E bA HG hk;obtain ⟨vq,vr,c7⟩:=aI z.ps;obtain ⟨Pn,b1⟩:=Qe d.ps.length;have eg:Pn<=5000:=by rw [<- b1];exact z.o.ok.plen
       have bt:=Z b1;rw [b1] at c7;have cp:Hid (w.ownsRow 0 38 6 v3 d.ps.length (d.ps.flatMap decCells)):=z.ps;rw [c7] at av cp;clear c7 b1;go_wp2_with fail
       clear c0 c1 c2 hlt;obtain ⟨wb,ca⟩:=Qe wr;rw [ca] at T b8;rw [ca];clear ca D;have cb:=T;clear T;go_loopw [10,11] (λs i wr=>∃(k:Nat),k<=Pn/\i=J U k/\Hid (wr.ownsRow w.heap.size 3 1 s ((d.ps.take k).flatMap decI).length (((d.ps.take k).flatMap decI).map intV))/\Hid (Bw wb wr)/\Hid (∀g,s.ownBlock=X g->wb.heap.size<=g)) (λ_ i _=>Pn - (intOf i).toNat)
       case atStart=>exact ⟨0,gp _,rfl,gs _ _ _ _,gf _ _,λg f=>by cases f⟩
       case round=>
        obtain ⟨k,hk,rfl,E,D,HG⟩:=hrel;have T:Hid (Bw w wr):=cb.trans (D.mono cb.size);obtain ⟨c0,c1,c2⟩:=av wr T.o;by_cases hlt:k<Pn
        · have a7:k<d.ps.length:=by rw [bt.o];exact hlt
          have a0:=cp.o;rw [<- bt.o] at a0;obtain ⟨g,c,he,f,y⟩:=dg (enc:=decCells) (λ_=>rfl) a0 k a7;injection he with he1 he2 he3
          subst he1 he3;have a2:((d.ps.take (k+1)).flatMap decI)=((d.ps.take k).flatMap decI)++decI d.ps[k]:=cN _ _ _ a7;obtain ⟨e,a9⟩:=Qe (d.ps[k]);rw [a9] at y a2;obtain ⟨⟨⟨l,r⟩,k3,k4⟩,n,jb⟩:=e;have g0:=y 0 _ rfl;have g1:=y 1 _ rfl;have g2:=y 2 _ rfl;have g3:=y 3 _ rfl;have g4:=y 4 _ rfl;have g5:=y 5 _ rfl;have a6:=ar T.o;rw [<- a6.1 g _ f] at g0 g1 g2 g3 g4 g5;rw [Nat.add_zero] at g0;have bs:Hid (((d.ps.take (k+1)).flatMap decI)=((d.ps.take k).flatMap decI)++[l,r,k3,k4,n,if jb then 1 else 0]):=a2;have a1:Hid (((d.ps.take k).flatMap decI).length<=30000):=by have h1:=dP decI 6 (d.ps.take k) (λa _=>gd _);rw [gt] at h1;unfold Hid;omega
          obtain ⟨L,hL⟩:=Qe ((d.ps.take k).flatMap decI);rw [hL] at E bs a1;have e4:(k:Int)<(Pn:Int):=by omega
          clear y a2 a9 a0 hL c0 c1 f a6;go_upto_region 18 with fail
          obtain ⟨u,a3⟩:=Qe (wr.alloc (fl #[J U l,J U r,J U k3,J U k4,J U n,fz jb] 38));have P:u.heap[wr.heap.size]? =X (fl #[J U l,J U r,J U k3,J U k4,J U n,fz jb] 38 (0,0)):=by rw [<- a3];exact gb wr _
          have a4:Bw wr u:=by rw [<- a3];exact (gf _ wr).alloc (gd _) _
          rw [a3];have H:=Z a4;have x0:u.cell? ⟨wr.heap.size,0,Y⟩=X (J U l):=(aa P 0).trans rfl;have x1:u.cell? ⟨wr.heap.size,1,Y⟩=X (J U r):=(aa P 1).trans rfl;have x2:u.cell? ⟨wr.heap.size,2,Y⟩=X (J U k3):=(aa P 2).trans rfl;have x3:u.cell? ⟨wr.heap.size,3,Y⟩=X (J U k4):=(aa P 3).trans rfl;have x4:u.cell? ⟨wr.heap.size,4,Y⟩=X (J U n):=(aa P 4).trans rfl;have x5:u.cell? ⟨wr.heap.size,5,Y⟩=X (fz jb):=(aa P 5).trans rfl;clear a4 P a3 g0 g1 g2 g3 g4 g5 c2;cases jb
          · have V:Hid (((d.ps.take (k+1)).flatMap decI)=L++[l,r,k3,k4,n,0]):=bs.o
            go_wp2_with (first
             |(at_builtin;obtain ⟨v',w7,ao,al,ac,ad⟩:=fD (u.alloc (fl #[J U l,J U r,J U k3,J U k4,J U n,J U 0] 3)) w.heap.size u10 L [l,r,k3,k4,n,0] u.heap.size 3 (ag E.o (λg f=>(H.o.alloc H.o.size _).block g (E.o.lt g f).2)) (gb u _) (by have:=a1.o;simp;omega) (by have:=T.o.size;have:=H.o.size;simp;omega);refine wpList_plain rfl λK O=>?_;refine bi rfl rfl rfl ao ?_;refine O _ _ ?_;clear O K ao;have ay:=Z al;have b9:=Z ac;have bc:=Z ad;clear al ac ad))
            have a5:Bw wb (u.alloc (fl #[J U l,J U r,J U k3,J U k4,J U n,J U 0] 3)):=(D.trans (H.mono D.size)).alloc (gn D.size H.size) _;have aS:Hid (Bw wb w7):=a5.grown b9.o a5.size (λj ej=>HG j ej);have ax:Hid (∀g,v'.ownBlock=X g->wb.heap.size<=g):=λg f=>by
             rcases bc.o with e|e
             · exact HG.o g (by rw [<- e];exact f)
             · rw [e] at f;injection f with f;rw [<- f];exact a5.size
            clear a5;go_roundw
            case rel=>exact ⟨k+1,by omega,by go_num,by unfold Hid;rw [V.o];exact ay.o,aS,ax⟩
            case measure=>simp [intOf];omega
          · have V:Hid (((d.ps.take (k+1)).flatMap decI)=L++[l,r,k3,k4,n,1]):=bs.o
            go_wp2_with (first
             |(at_builtin;obtain ⟨v',w7,ao,al,ac,ad⟩:=fD (u.alloc (fl #[J U l,J U r,J U k3,J U k4,J U n,J U 1] 3)) w.heap.size u10 L [l,r,k3,k4,n,1] u.heap.size 3 (ag E.o (λg f=>(H.o.alloc H.o.size _).block g (E.o.lt g f).2)) (gb u _) (by have:=a1.o;simp;omega) (by have:=T.o.size;have:=H.o.size;simp;omega);refine wpList_plain rfl λK O=>?_;refine bi rfl rfl rfl ao ?_;refine O _ _ ?_;clear O K ao;have ay:=Z al;have b9:=Z ac;have bc:=Z ad;clear al ac ad))
            have a5:Bw wb (u.alloc (fl #[J U l,J U r,J U k3,J U k4,J U n,J U 1] 3)):=(D.trans (H.mono D.size)).alloc (gn D.size H.size) _;have aS:Hid (Bw wb w7):=a5.grown b9.o a5.size (λj ej=>HG j ej);have ax:Hid (∀g,v'.ownBlock=X g->wb.heap.size<=g):=λg f=>by
             rcases bc.o with e|e
             · exact HG.o g (by rw [<- e];exact f)
             · rw [e] at f;injection f with f;rw [<- f];exact a5.size
            clear a5;go_roundw
            case rel=>exact ⟨k+1,by omega,by go_num,by unfold Hid;rw [V.o];exact ay.o,aS,ax⟩
            case measure=>simp [intOf];omega
        · have ch:Hid (wr.ownsRow w.heap.size 3 1 u10 (d.ps.flatMap decI).length ((d.ps.flatMap decI).map intV)):=by have:=E.o;rw [gq (by rw [bt.o];omega)] at this;exact this
          have dk:Hid (∀W,Bw wr W->g7 prog 38 #[u3] W λe w'=>e=ft (S (packR (d.vs.flatMap verS)))/\Bw W w'):=λW v=>
           uJ _ u3 W ((aX (b8.o W (D.o.trans (v.mono D.o.size))).1).mono (gp _) (gd _)) (λs hs=>gn (HE.o.vs s hs) (by omega)) (gn HE.o.vn (by omega)) (gn HE.o.vt (by omega))
          have dc:Hid (∀W,Bw wr W->g7 prog 36 #[u8] W λe w'=>e=ft (S (intsR (d.ds.flatMap dropI)))/\Bw W w'):=λW v=>
           pH _ u8 W ((aX (b8.o W (D.o.trans (v.mono D.o.size))).2).mono (gp _) (gd _)) HE.o.di (gn HE.o.dn (by omega))
          have dd:Hid (∀W,Bw wr W->g7 prog 36 #[u10] W λe w'=>e=ft (S (intsR (d.ps.flatMap decI)))/\Bw W w'):=λW v=>
           pH _ u10 W ((aX (ag ch.o (λg f=>v.block g (ch.o.lt g f).2))).mono (gp _) (gd _)) HE.o.pi (gn HE.o.pn (by omega))
          have e3:Hid (∀W b t,W.heap[b]? =X (fl #[S (packR (d.vs.flatMap verS)),S (intsR (d.ds.flatMap dropI)),S (intsR (d.ps.flatMap decI))] t (0,0))->g7 prog 38 #[fn (X ⟨b,0,Y⟩) 3 3] W λe w'=>e=ft (S (encR d))/\Bw W w'):=λW b t v=>
           uJ [packR (d.vs.flatMap verS),intsR (d.ds.flatMap dropI),intsR (d.ps.flatMap decI)] _ W (pw (cs:=[packR (d.vs.flatMap verS),intsR (d.ds.flatMap dropI),intsR (d.ps.flatMap decI)].map bsV) v) HE.o.l3 (by simp) HE.o.t3
          generalize packR (d.vs.flatMap verS)=A at *;generalize intsR (d.ds.flatMap dropI)=B at *;generalize intsR (d.ps.flatMap decI)=C at *;clear E hk c0 c1
          go_wp2_with (first
           |(go_at_call_of 38 u3;((with_reducible refine gi (dk.o _ (gf _ _)) ?_);rintro e u ⟨rfl,a4⟩;have H:=Z a4;clear a4))
           |(go_at_call_of 36 u8;((with_reducible refine gi (dc.o _ H.o) ?_);rintro e W2 ⟨rfl,aC⟩;have au:=Z (H.o.trans (aC.mono H.o.size));clear aC))
           |(go_at_call_of 36 u10;((with_reducible refine gi (dd.o _ au.o) ?_);rintro e W3 ⟨rfl,cv⟩;have cc:=Z (au.o.trans (cv.mono au.o.size));clear cv))
           |(go_at_call 38;((with_reducible refine gi (e3.o _ _ _ (gb _ _)) ?_);rintro e W4 ⟨rfl,aT⟩;have a8:=Z aT;clear aT)))
          go_ret;have eq:=cc.size;have h3:Bw w W3:=T.trans (cc.mono T.size);exact ⟨rfl,(h3.alloc h3.size _).trans (a8.o.mono (by have:=h3.size;simp;omega))⟩
theorem xu {F:Nat->Prop} {w:World} {c:Nat} {a s t:Option Nat} {r:Value} {d:aE} (h:dw F w c a s t r d):
 g7 prog 47 #[.func (.func 108) #[] #[fr (X ⟨w.heap.size,0,Y⟩)], .func (.func 49) #[] #[]] (w.alloc (fl #[.map a] 113)) λe w'=>∃v,e=ft v/\w'.ownsRow (w.heap.size+1) 36 2 v d.vs.length ((d.vs.map (·.1)).flatMap rkCells)/\Below (w.heap.size+1) (w.alloc (fl #[.map a] 113)) w':=by
 obtain ⟨ps,i,u,A⟩:=h.vs;have m:cC ltRK (ps.map (·.1))=d.vs.map (·.1):=by rw [<- i,ha];refine bq aN (.refl _) ?_;have f:=h.ok.ok.vs;rw [<- i] at f;unfold aw at f;rw [gy] at f ⊢;exact f
 have o:ps.length=d.vs.length:=by rw [<- i];simp
 have y:=h.ok.vlen;have l:Bw w (w.alloc (fl #[.map a] 113)):=(gf _ w).alloc (gd _) _;have k:=nM 8 (by omega) w.heap.size a (ps.map λp=>(p.1,ir p.1 p.2)) (w.alloc (fl #[.map a] 113)) (by rw [gQ];rfl) (u.block (λb g=>l.block b (h.lt b (h.f1 b g)))) (λb g=>by have:=h.lt b (h.f1 b g);simp;omega);have n:(ps.map λp=>(p.1,ir p.1 p.2)).map (·.1)=ps.map (·.1):=by rw [ha];rfl
 rw [n] at k;have j:=gX 10 (by omega) 108 #[fr (X ⟨w.heap.size,0,Y⟩)] (enters_of func108 (by kernel_rfl) rfl) (ps.map (·.1)) (by simp;omega) _ _ (λz x q=>by have:=q.1;simp at this;omega) _ k;rw [m,gx,o,gz] at j;exact j.mono λe w ⟨v,a,b,c⟩=>⟨v,a,b,c.mono (by simp)⟩
theorem wF {F:Nat->Prop} {w:World} {c:Nat} {q a r:Option Nat} {o:Value} {d:aE} (h:dw F w c q a r o d):
 g7 prog 47 #[.func (.func 118) #[] #[fr (X ⟨w.heap.size,0,Y⟩)], .func (.func 49) #[] #[]] (w.alloc (fl #[.map a] 114)) λe w'=>∃v,e=ft v/\w'.ownsRow (w.heap.size+1) 36 2 v d.ds.length ((d.ds.map (·.1)).flatMap rkCells)/\Below (w.heap.size+1) (w.alloc (fl #[.map a] 114)) w':=by
 have l:cC ltRK (d.ds.map (·.1))=d.ds.map (·.1):=by refine bq aN (.refl _) ?_;have i:=h.ok.ok.ds;unfold aw at i;rw [gy];exact i
 have s:=h.ok.dlen;have k:Bw w (w.alloc (fl #[.map a] 114)):=(gf _ w).alloc (gd _) _;have j:=v6 8 (by omega) w.heap.size a (d.ds.map λp=>(p.1,J U p.2)) (w.alloc (fl #[.map a] 114)) (by rw [gQ];rfl) (h.ds.block (λb f=>k.block b (h.lt b (h.f2 b f)))) (λb f=>by have:=h.lt b (h.f2 b f);simp;omega);have m:(d.ds.map λp=>(p.1,Value.int U p.2)).map (·.1)=d.ds.map (·.1):=by rw [ha];rfl
 rw [m] at j;have g:=gX 10 (by omega) 118 #[fr (X ⟨w.heap.size,0,Y⟩)] (enters_of func118 (by kernel_rfl) rfl) (d.ds.map (·.1)) (by simp;omega) _ _ (λt x n=>by have:=n.1;simp at this;omega) _ j;rw [l,gx,gz] at g;exact g.mono λe w ⟨v,a,b,c⟩=>⟨v,a,b,c.mono (by simp)⟩
theorem yL {F:Nat->Prop} {w:World} {c:Nat} {q r a:Option Nat} {o:Value} {d:aE} (h:dw F w c q r a o d):
 g7 prog 65 #[.func (.func 121) #[] #[fr (X ⟨w.heap.size,0,Y⟩)], .func (.func 67) #[] #[]] (w.alloc (fl #[.map a] 115)) λe w'=>∃v,e=ft v/\w'.ownsRow (w.heap.size+1) 134 4 v d.ps.length ((d.ps.map (·.1)).flatMap pkCells)/\Below (w.heap.size+1) (w.alloc (fl #[.map a] 115)) w':=by
 have l:cC ltPK (d.ps.map (·.1))=d.ps.map (·.1):=by refine bq df (.refl _) ?_;have i:=h.ok.ok.ps;unfold aw at i;rw [gy];exact i
 have s:=h.ok.plen;have k:Bw w (w.alloc (fl #[.map a] 115)):=(gf _ w).alloc (gd _) _;have j:=nL 8 (by omega) w.heap.size a (d.ps.map λp=>(p.1,ff p.2)) (w.alloc (fl #[.map a] 115)) (by rw [gQ];rfl) (h.ps.block (λb f=>k.block b (h.lt b (h.f3 b f)))) (λb f=>by have:=h.lt b (h.f3 b f);simp;omega);have m:(d.ps.map λp=>(p.1,ff p.2)).map (·.1)=d.ps.map (·.1):=by rw [ha];rfl
 rw [m] at j;have g:=nu 10 (by omega) 121 #[fr (X ⟨w.heap.size,0,Y⟩)] (enters_of func121 (by kernel_rfl) rfl) (d.ps.map (·.1)) (by simp;omega) _ _ (λt x n=>by have:=n.1;simp at this;omega) _ j;rw [l,gx,gz] at g;exact g.mono λe w ⟨v,a,b,c⟩=>⟨v,a,b,c.mono (by simp)⟩
theorem jK {α:Type} {w:World} {B e k:Nat} {v:Value} {enc:α->List Value} {a:List α} (d:∀x,(enc x).length=k) (h:w.ownsRow B e k v a.length (a.flatMap enc)) (m:Nat) (f:m<a.length):
 ∃g c,v=fn (X ⟨g,0,Y⟩) a.length c/\g<w.heap.size/\∀i u,(enc a[m])[i]? =X u->w.cell? ⟨g,m * k+i,Y⟩=X u:=by
 rcases h.2 with ⟨rfl,q⟩|⟨g,l,p,rfl,_⟩
 · omega
 · refine ⟨g,l,rfl,(h.lt g (by simp [Value.ownBlock])).2,λi u j=>?_⟩;have o:i<k:=by rw [<- d a[m]];exact (List.getElem?_eq_some_iff.1 j).1
   have b:=pO enc k d a m i f o;rw [j] at b;have n:m * k+i<a.length * k:=by have:=Nat.mul_le_mul_right k (show m+1<=a.length from f);rw [Nat.succ_mul] at this;omega
   rw [h.cellAt _ n];exact b
theorem wE (F:Nat->Prop) (w:World) (c:Nat) (d:aE) (h:bL F w c d):
 g7 prog 30 #[fr (X ⟨c,0,Y⟩)] w λe w'=>e=ft (S (encR d))/\Bw w w':=by
 obtain ⟨m1,m2,m3,kn,h⟩:=h;have G:=Z h;have HE:=Z (yG h.ok)
 have aT:Hid (∀W,Bw w W->W.cell? ⟨c,0,Y⟩=X (.map m1)/\W.cell? ⟨c,1,Y⟩=X (.map m2)/\W.cell? ⟨c,2,Y⟩=X (.map m3)):=λW r=>
  ⟨(aa ((r.block _ (G.lt c G.fc)).trans G.blk) 0).trans rfl,(aa ((r.block _ (G.lt c G.fc)).trans G.blk) 1).trans rfl,(aa ((r.block _ (G.lt c G.fc)).trans G.blk) 2).trans rfl⟩
 obtain ⟨c0,c1,c2⟩:=aT w (gf _ _);obtain ⟨ps,q1,q2,q3⟩:=h.vs;have ch:=Z q1;have d4:=Z q2;have d5:=Z q3;have f3:=h.ok.vlen;obtain ⟨N,hN⟩:=Qe d.vs.length;have cp:=Z (xu h);rw [hN] at cp f3;have HN:=Z hN;obtain ⟨i0,hi,dy,dz,e0⟩:=hf i9;have HI:=Z hi;have e7:=Z dy;have e8:=Z dz;have e9:=Z e0;clear h hN q1 q2 q3 hi dy dz e0;have HK:=Z (uU m1 w);go_enter func30,ntmps30
 go_wp2_with (first
  |(go_at_call 61;((with_reducible refine gi HK.o ?_);rintro e w1 ⟨rfl,rfl⟩))
  |(go_at_call 47;((with_reducible refine gi cp.o ?_);rintro e w2 ⟨v,rfl,P,a2⟩;obtain ⟨va,vc,rfl⟩:=aI P;have b7:=Z P;have b8:=Z (((gf _ w).alloc (gd _) _).trans (a2.mono (by simp)));clear P a2)))
 clear c0 c1 c2 HK cp;go_loopw [3,25] (λs i wr=>∃(k:Nat),k<=N/\i=J U k/\Hid (wr.ownsRow w2.heap.size 9 1 s ((d.vs.take k).flatMap verS).length (((d.vs.take k).flatMap verS).map bsV))/\Hid (Bw w2 wr)) (λ_ i _=>N - (intOf i).toNat)
 case atStart=>exact ⟨0,gp _,rfl,gs _ _ _ _,gf _ _⟩
 case round=>
  obtain ⟨k,hk,rfl,O,R⟩:=hrel;have T:Hid (Bw w wr):=b8.trans (R.mono b8.size);obtain ⟨c0,_,_⟩:=aT wr T.o;by_cases hlt:k<N
  · have av:k<d.vs.length:=by rw [HN.o];exact hlt
    have au:(d.vs.map (·.1)).length=N:=by rw [gx];exact HN.o
    have b2:k<(d.vs.map (·.1)).length:=by rw [au];exact hlt
    have P:=b7.o;rw [<- au] at P;obtain ⟨g,ca,he,V,hc⟩:=jK (enc:=rkCells) (λ_=>rfl) P k b2;injection he with he1 he2 he3
    subst he1 he3;have a1:d.vs[k]∈d.vs:=gP av;have ax:((d.vs.take (k+1)).flatMap verS)=((d.vs.take k).flatMap verS)++verS d.vs[k]:=cN _ _ _ av;rw [hb] at hc;obtain ⟨e,b1⟩:=Qe (d.vs[k]);rw [b1] at hc a1 ax;obtain ⟨⟨f,p⟩,n,⟨kd,lv,fs⟩⟩:=e;have g0:=hc 0 _ rfl;have g1:=hc 1 _ rfl;rw [<- (ar R.o).1 g _ V] at g0 g1;rw [Nat.add_zero] at g0;have d7:Hid (wrongR ⟨kd,lv,fs⟩=0):=G.ok.right _ a1;have bY:Hid (rkOk (f,p)):=G.ok.vkey _ a1;have d3:Hid (i64B n):=G.ok.vnum _ a1;have al:∃x,findK ps (f,p)=X ((n,(⟨kd,lv,fs⟩:az)),x):=by
     rw [<- ch.o] at a1;obtain ⟨q,hq,he⟩:=List.mem_map.1 a1;obtain ⟨qk,qv,qx⟩:=q;injection he with h1 h2
     dsimp only at h1 h2;subst h1;subst h2;have hs:=G.ok.ok.vs;rw [<- ch.o] at hs;unfold aw at hs;rw [gy] at hs;exact ⟨qx,(dQ aN (l:=ps) hs).2 hq⟩
    obtain ⟨x,al⟩:=al;obtain ⟨lo,hi,dd,dr,_⟩:=d5 _ (pP al);have HF:Hid (ai 0 w.heap.size w x fs):=dd.mono (gp _) dr;obtain ⟨xa,xc,rfl⟩:=HF.shape;have cQ:Hid (∀W,Bw w W->(g6 113 (.map m1) (.agg #[J U f,J U p]) false).run prog W= .ok (.agg #[J U f,J U p,J U n,J fy kd.toNat,J fy lv.toNat,fn xa fs.length xc]) W):=λW hW=>by have:=bW.look (w:=W) (d4.block (λb r=>hW.block b (G.lt b (G.f1 b r)))) underlying113 jD (f,p) bY.o;rw [eP,al] at this;exact this
    have cx:∀o o',Bw w ((wr.alloc o).alloc o'):=λo o'=>(T.o.alloc T.o.size o).alloc (by have:=T.o.size;simp;omega) o';have cv:∀o,Bw w (wr.alloc o):=λo=>T.alloc T.size o;have f0:=λo=>cQ _ (cv o).drew;have es:∀o,(wr.alloc o).cell? ⟨c,0,Y⟩=X (.map m1):=λo=>(aT _ (cv o)).1;have f2:=λo o'=>cQ _ (cx o o').drew;have er:∀o o',((wr.alloc o).alloc o').cell? ⟨c,0,Y⟩=X (.map m1):=λo o'=>(aT _ (cx o o')).1;have aC:Hid (((d.vs.take (k+1)).flatMap verS)=((d.vs.take k).flatMap verS)++[intsR [f,p,n],(aV ⟨kd,lv,fs⟩).1]):=ax;have ay:Hid (((d.vs.take k).flatMap verS).length<=10000):=by have h1:=dP verS 2 (d.vs.take k) (λa _=>gd _);rw [gt] at h1;unfold Hid;omega
    have HW:Hid (∀W,Bw w W->g7 prog 62 #[.agg #[J fy kd.toNat,J fy lv.toNat,fn xa fs.length xc]] W λe w'=>e=ft (.tuple #[S (aV ⟨kd,lv,fs⟩).1,J U (aV ⟨kd,lv,fs⟩).2])/\Bw W w'):=λW r=>
     qj ⟨kd,lv,fs⟩ _ W ⟨_,rfl,(HF.kept (aP r (gd _))).mono (gd _) r.size⟩ (dC d7.o).2.2
    have eg:Hid (∀W b t,W.heap[b]? =X (fl #[J U f,J U p,J U n] t (0,0))->g7 prog 63 #[fn (X ⟨b,0,Y⟩) 3 3] W λe w'=>e=ft (S (intsR [f,p,n]))/\Bw W w'):=λW b t r=>
     pG [f,p,n] _ W (pw (cs:=[f,p,n].map intV) r) (λm hm=>by
      simp only [List.mem_cons,List.not_mem_nil,or_false] at hm
      rcases hm with rfl|rfl|rfl
      · exact bY.1
      · exact bY.2
      · exact d3.o) (by simp)
    generalize intsR [f,p,n]=T1 at *;generalize (aV ⟨kd,lv,fs⟩).1=T2 at *;generalize (aV ⟨kd,lv,fs⟩).2=e2 at *;obtain ⟨L,hL⟩:=Qe ((d.vs.take k).flatMap verS);rw [hL] at O aC ay;have f6:(k:Int)<(N:Int):=by omega
    clear d7 bY d3 HF dd dr al hc a1 ax b1 P au b2 av hL cv cx V;go_wp2_with fail
    go_region;obtain ⟨u,a3⟩:=Qe (((wr.alloc (fl #[J U f,J U p] 36)).alloc (fl #[J U f,J U p,J U n,J fy kd.toNat,J fy lv.toNat,fn xa fs.length xc] 64)).drew);have da:u.heap[wr.heap.size]? =X (fl #[J U f,J U p] 36 (0,0)):=by rw [<- a3];exact (gO _ _ _ (by simp)).trans (gb wr _)
    have a9:u.heap[wr.heap.size+1]? =X (fl #[J U f,J U p,J U n,J fy kd.toNat,J fy lv.toNat,fn xa fs.length xc] 64 (0,0)):=by rw [<- a3];have:=gb (wr.alloc (fl #[J U f,J U p] 36)) (fl #[J U f,J U p,J U n,J fy kd.toNat,J fy lv.toNat,fn xa fs.length xc] 64);rw [gz] at this;exact this
    have a8:Bw wr u:=by rw [<- a3];exact (((gf _ wr).alloc (gd _) _).alloc (by simp) _).drew
    rw [a3];have I:=Z a8;have H:=Z a9;have d8:=Z da;have e5:Hid (Bw w u):=T.trans (a8.mono T.size);have c7:Hid (w2.heap.size<=wr.heap.size):=R.size;have c3:u.cell? ⟨wr.heap.size+1,3,Y⟩=X (J fy kd.toNat):=(aa a9 3).trans rfl;have c4:u.cell? ⟨wr.heap.size+1,4,Y⟩=X (J fy lv.toNat):=(aa a9 4).trans rfl;have c5:u.cell? ⟨wr.heap.size+1,5,Y⟩=X (fn xa fs.length xc):=(aa a9 5).trans rfl;clear a8 da a9 a3 g0 g1 c0 f0 f2 er es
    go_wp2_with (first
     |(go_at_call 62;((with_reducible refine gi (HW.o _ e5.o) ?_);rintro e y ⟨rfl,a2⟩;have eq:=Z ((a2.block _ (ae H.o)).trans H.o);have d9:=Z ((a2.block _ (ae d8.o)).trans d8.o);have d0:y.cell? ⟨wr.heap.size,0,Y⟩=X (J U f):=((aa d9.o 0).trans rfl);have d1:y.cell? ⟨wr.heap.size,1,Y⟩=X (J U p):=((aa d9.o 1).trans rfl);have d2:y.cell? ⟨wr.heap.size+1,2,Y⟩=X (J U n):=((aa eq.o 2).trans rfl);have a7:=Z (I.o.trans (a2.mono I.o.size));clear a2 c3 c4 c5))
     |(go_at_call 63;((with_reducible refine gi (eg.o _ _ _ (gb _ _)) ?_);rintro e W4 ⟨rfl,bk⟩;have aS:=Z (a7.o.trans (((gf _ y).alloc (gd _) _).mono a7.o.size |>.trans (bk.mono (by have:=a7.o.size;simp;omega))));clear bk))
     |(at_builtin;(refine wpList_append_own_at _ rfl _ _ 81 rfl w2.heap.size 9 i0 (.string ⟨#[]⟩) 1 16 underlying81 HI.o e7.o e8.o e9.o rfl hg u3 L.length (L.map bsV) ?_ ?_ ⟨W4.heap.size,0,Y⟩ 2 2 [S T1,S T2] ?_ ?_ ?_ ?_ ?_ ?_ ?_ ?_);(focus rfl);(focus exact ag O.o (λg V=>((aS.o.alloc aS.o.size _).block g (O.o.lt g V).2)));(focus rfl);(focus rfl);(focus exact cell_two_new _ _ _ _);(focus simp [Value.oneCell']);(focus (have:=ay.o;unfold maxLen;omega));(focus (have:=ay.o;omega));(focus (have:=aS.o.size;have:=c7.o;simp;omega));intro v' w7 dx dk _ _;have b6:=Z dx;have e6:=Z dk;clear dx dk))
    go_roundw
    case rel=>
     refine ⟨k+1,by omega,by go_num,?_,?_⟩
     · unfold Hid;rw [aC.o,g8,hd];exact b6.o
     · exact ((R.o.trans (aS.o.mono c7.o)).alloc (by have:=aS.o.size;have:=c7.o;omega) _).grown e6.o (by have:=aS.o.size;have:=c7.o;simp;omega) (λj ej=>(O.o.lt j ej).1)
    case measure=>simp [intOf];omega
  · have cl:Hid (wr.ownsRow w2.heap.size 9 1 u3 (d.vs.flatMap verS).length ((d.vs.flatMap verS).map bsV)):=by have:=O.o;rw [gq (by rw [HN.o];omega)] at this;exact this
    have bB:Hid (∀W,Bw wr W->W.ownsRow w2.heap.size 9 1 u3 (d.vs.flatMap verS).length ((d.vs.flatMap verS).map bsV)):=λW r=>ag cl.o (λg V=>r.block g (cl.lt g V).2);clear O hk b7 ch d4 d5;obtain ⟨M,hM⟩:=Qe d.ds.length;have f4:M<=5000:=by rw [<- hM];exact G.o.ok.dlen
    have cc:=Z hM;have cq:=Z (wF (G.below T.o));rw [hM] at cq;have cz:=Z (Ae m2 wr);obtain ⟨_,c1,_⟩:=aT wr T.o;clear hM
    go_wp2_with (first
     |(go_at_call 64;((with_reducible refine gi cz.o ?_);rintro e w1 ⟨rfl,rfl⟩))
     |(go_at_call 47;((with_reducible refine gi cq.o ?_);rintro e wa ⟨v,rfl,P,a2⟩;obtain ⟨va,f8,rfl⟩:=aI P;have b7:=Z P;have bw:=Z (((gf _ wr).alloc (gd _) _).trans (a2.mono (by simp)));clear P a2)))
    clear c0 c1 cz cq hlt;have b9:Hid (Bw w wa):=T.trans (bw.mono T.size);have bB:Hid (∀W,Bw wa W->W.ownsRow w2.heap.size 9 1 u3 (d.vs.flatMap verS).length ((d.vs.flatMap verS).map bsV)):=λW r=>bB W (bw.trans (r.mono bw.size));clear R T bw cl;go_loopw [9,61] (λs i wr=>∃(k:Nat),k<=M/\i=J U k/\Hid (wr.ownsRow wa.heap.size 3 1 s ((d.ds.take k).flatMap dropI).length (((d.ds.take k).flatMap dropI).map intV))/\Hid (Bw wa wr)) (λ_ i _=>M - (intOf i).toNat)
    case atStart=>exact ⟨0,gp _,rfl,gs _ _ _ _,gf _ _⟩
    case round=>
     obtain ⟨k,hk,rfl,O,R⟩:=hrel;have T:Hid (Bw w wr):=b9.trans (R.mono b9.size);by_cases hlt:k<M
     · have av:k<d.ds.length:=by rw [cc.o];exact hlt
       have au:(d.ds.map (·.1)).length=M:=by rw [gx];exact cc.o
       have b2:k<(d.ds.map (·.1)).length:=by rw [au];exact hlt
       have P:=b7.o;rw [<- au] at P;obtain ⟨g,ca,he,V,hc⟩:=jK (enc:=rkCells) (λ_=>rfl) P k b2;injection he with he1 he2 he3
       subst he1 he3;have a1:d.ds[k]∈d.ds:=gP av;have ax:((d.ds.take (k+1)).flatMap dropI)=((d.ds.take k).flatMap dropI)++dropI d.ds[k]:=cN _ _ _ av;rw [hb] at hc;obtain ⟨e,b1⟩:=Qe (d.ds[k]);rw [b1] at hc a1 ax;obtain ⟨⟨f,p⟩,n⟩:=e;have g0:=hc 0 _ rfl;have g1:=hc 1 _ rfl;rw [<- (ar R.o).1 g _ V] at g0 g1;rw [Nat.add_zero] at g0;have al:findK d.ds (f,p)=X n:=(dQ aN (l:=d.ds) G.ok.ok.ds).2 a1;have cb:Hid (∀W,Bw w W->(g6 114 (.map m2) (.agg #[J U f,J U p]) false).run prog W= .ok (J U n) W):=λW hW=>by have:=bW.look (w:=W) ((G.below hW).ds) underlying114 un (f,p) (G.ok.dkey _ a1);rw [dY d.ds (λn=>Value.int U n),al] at this;exact this
       have aC:Hid (((d.ds.take (k+1)).flatMap dropI)=((d.ds.take k).flatMap dropI)++[f,p,n]):=ax;have ay:Hid (((d.ds.take k).flatMap dropI).length<=15000):=by have h1:=dP dropI 3 (d.ds.take k) (λa _=>gd _);rw [gt] at h1;unfold Hid;omega
       obtain ⟨L,hL⟩:=Qe ((d.ds.take k).flatMap dropI);rw [hL] at O aC ay;have eQ:(k:Int)<(M:Int):=by omega
       clear al hc a1 ax b1 P au b2 av hL V;go_upto_region 15 with fail
       obtain ⟨u,a3⟩:=Qe (wr.alloc (fl #[J U f,J U p] 36));have a9:u.heap[wr.heap.size]? =X (fl #[J U f,J U p] 36 (0,0)):=by rw [<- a3];exact gb wr _
       have a8:Bw wr u:=by rw [<- a3];exact (gf _ wr).alloc (gd _) _
       rw [a3];have I:=Z (R.trans (a8.mono R.size));have b5:Hid (∀W,(Bw wa W/\W.heap[wr.heap.size]? =X (fl #[J U f,J U p] 36 (0,0)))->W.cell? ⟨c,1,Y⟩=X (.map m2)/\W.cell? ⟨wr.heap.size,0,Y⟩=X (J U f)/\W.cell? ⟨wr.heap.size,1,Y⟩=X (J U p)/\(g6 114 (.map m2) (.agg #[J U f,J U p]) false).run prog W= .ok (J U n) W):=λW ⟨r,hv⟩=>by have bs:Bw w W:=b9.trans (r.mono b9.size);exact ⟨(aT W bs).2.1,(aa hv 0).trans rfl,(aa hv 1).trans rfl,cb W bs⟩
       have c6:Hid (∀W,Bw wr W->W.ownsRow wa.heap.size 3 1 u9 L.length (L.map intV)):=λW r=>ag O.o (λg V=>r.block g (O.lt g V).2);have a7:=Z a8;have H:=Z a9;have ac:Bw wa u.drew/\u.drew.heap[wr.heap.size]? =X (fl #[J U f,J U p] 36 (0,0)):=⟨I.drew,a9⟩;clear a9 a3 g0 g1;refine wT (λW=>Bw wa W/\W.heap[wr.heap.size]? =X (fl #[J U f,J U p] 36 (0,0))) 13 ?_;refine Qb [0,1,3,5,9,2,4,6,7,8] ac b5 ?_;refine tk 10 (J U n) rfl ac (λw' h=>?_) ?_
       · obtain ⟨h0,h1,h2,h3⟩:=b5 w' h;go_simp
       have b0:∀o,Bw wa (u.drew.alloc o)/\(u.drew.alloc o).heap[wr.heap.size]? =X (fl #[J U f,J U p] 36 (0,0)):=λo=>⟨ac.1.alloc I.size o,(gO _ _ _ (ae H.o)).trans H.o⟩;refine Dp 11 λK z=>?_;go_simp;refine z _ _ (λ_=>b0 _) ?_;clear z K;obtain ⟨Q,a5⟩:=Qe ((u.alloc (fl #[J U f,J U p,J U n] 3)).drew);have hZ:Q.heap[u.heap.size]? =X (fl #[J U f,J U p,J U n] 3 (0,0)):=by rw [<- a5];exact gb u _
       have a0:Bw u Q:=by rw [<- a5];exact ((gf _ u).alloc (gd _) _).drew
       have a4:Bw wa Q:=I.trans (a0.mono I.size);rw [a5];obtain ⟨v',w7,b4,b3,ao,_⟩:=fD Q wa.heap.size u9 L [f,p,n] u.heap.size 3 (c6.o Q (a7.o.trans (a0.mono a7.o.size))) hZ (by have:=ay.o;simp;omega) a4.size
       have ad:Bw wa w7/\w7.heap[wr.heap.size]? =X (fl #[J U f,J U p] 36 (0,0)):=
        ⟨a4.grown ao a4.size (λj ej=>(O.lt j ej).1),(ao.block _ (g9 (ae H.o) a0.size) (λe=>absurd (O.lt _ e.symm).2 (Nat.lt_irrefl _))).trans ((a0.block _ (ae H.o)).trans H.o)⟩
       refine Dp 12 λK z=>?_;refine bi rfl rfl rfl b4 ?_;refine z _ _ (λ_=>ad) ?_;clear z K;refine Dl 13 ?_;have bb:=Z ad.1;have b6:=Z b3;clear ad b3 ao b4 a4 a0 hZ a5 b0 ac;go_wp2_with fail
       go_roundw
       case rel=>exact ⟨k+1,by omega,by go_num,by unfold Hid;rw [aC.o];exact b6.o,bb⟩
       case measure=>simp [intOf];omega
     · have cm:Hid (wr.ownsRow wa.heap.size 3 1 u9 (d.ds.flatMap dropI).length ((d.ds.flatMap dropI).map intV)):=by have:=O.o;rw [gq (by rw [cc.o];omega)] at this;exact this
       have bO:Hid (∀W,Bw wr W->W.ownsRow w2.heap.size 9 1 u3 (d.vs.flatMap verS).length ((d.vs.flatMap verS).map bsV)/\W.ownsRow wa.heap.size 3 1 u9 (d.ds.flatMap dropI).length ((d.ds.flatMap dropI).map intV)):=λW r=>
        ⟨bB W (R.trans (r.mono R.size)),ag cm.o (λg V=>r.block g (cm.lt g V).2)⟩
       clear O cm hk b7 bB;obtain ⟨Pn,c9⟩:=Qe d.ps.length;have f5:Pn<=5000:=by rw [<- c9];exact G.o.ok.plen
       have cg:=Z c9;have cu:=Z (yL (G.below T.o));rw [c9] at cu;have cP:=Z (uT m3 wr);obtain ⟨_,_,c2⟩:=aT wr T.o;clear c9
       go_wp2_with (first
        |(go_at_call 66;((with_reducible refine gi cP.o ?_);rintro e w1 ⟨rfl,rfl⟩))
        |(go_at_call 65;((with_reducible refine gi cu.o ?_);rintro e wb ⟨v,rfl,P,a2⟩;obtain ⟨vb,f9,rfl⟩:=aI P;have b7:=Z P;have bA:=Z (((gf _ wr).alloc (gd _) _).trans (a2.mono (by simp)));clear P a2)))
       clear c2 cP cu hlt;have bt:Hid (Bw w wb):=T.trans (bA.mono T.size);have bO:Hid (∀W,Bw wb W->W.ownsRow w2.heap.size 9 1 u3 (d.vs.flatMap verS).length ((d.vs.flatMap verS).map bsV)/\W.ownsRow wa.heap.size 3 1 u9 (d.ds.flatMap dropI).length ((d.ds.flatMap dropI).map intV)):=λW r=>bO W (bA.trans (r.mono bA.size));clear R T bA b9;go_loopw [10,86] (λs i wr=>∃(k:Nat),k<=Pn/\i=J U k/\Hid (wr.ownsRow wb.heap.size 3 1 s ((d.ps.take k).flatMap decI).length (((d.ps.take k).flatMap decI).map intV))/\Hid (Bw wb wr)) (λ_ i _=>Pn - (intOf i).toNat)
       case atStart=>exact ⟨0,gp _,rfl,gs _ _ _ _,gf _ _⟩
       case round=>
        obtain ⟨k,hk,rfl,O,R⟩:=hrel;have T:Hid (Bw w wr):=bt.trans (R.mono bt.size);by_cases hlt:k<Pn
        · have av:k<d.ps.length:=by rw [cg.o];exact hlt
          have au:(d.ps.map (·.1)).length=Pn:=by rw [gx];exact cg.o
          have b2:k<(d.ps.map (·.1)).length:=by rw [au];exact hlt
          have P:=b7.o;rw [<- au] at P;obtain ⟨g,ca,he,V,hc⟩:=jK (enc:=pkCells) (λ_=>rfl) P k b2;injection he with he1 he2 he3
          subst he1 he3;have a1:d.ps[k]∈d.ps:=gP av;have ax:((d.ps.take (k+1)).flatMap decI)=((d.ps.take k).flatMap decI)++decI d.ps[k]:=cN _ _ _ av;rw [hb] at hc;obtain ⟨e,b1⟩:=Qe (d.ps[k]);rw [b1] at hc a1 ax;obtain ⟨⟨⟨f,p⟩,D,E⟩,n,jb⟩:=e;have g0:=hc 0 _ rfl;have g1:=hc 1 _ rfl;have g2:=hc 2 _ rfl;have g3:=hc 3 _ rfl;rw [<- (ar R.o).1 g _ V] at g0 g1 g2 g3;rw [Nat.add_zero] at g0;have al:findK d.ps ((f,p),D,E)=X (n,jb):=(dQ df (l:=d.ps) G.ok.ok.ps).2 a1;have cb:Hid (∀W,Bw w W->(g6 115 (.map m3) (.agg #[J U f,J U p,J U D,J U E]) false).run prog W= .ok (.agg #[J U n,fz jb]) W):=λW hW=>by have:=bW.look (w:=W) ((G.below hW).ps) underlying115 fI ((f,p),D,E) (G.ok.pkey _ a1);rw [dY d.ps ff,al] at this;exact this
          have cd:Hid (((d.ps.take (k+1)).flatMap decI)=((d.ps.take k).flatMap decI)++[f,p,D,E,n,if jb then 1 else 0]):=ax;have ay:Hid (((d.ps.take k).flatMap decI).length<=30000):=by have h1:=dP decI 6 (d.ps.take k) (λa _=>gd _);rw [gt] at h1;unfold Hid;omega
          obtain ⟨L,hL⟩:=Qe ((d.ps.take k).flatMap decI);rw [hL] at O cd ay;have eQ:(k:Int)<(Pn:Int):=by omega
          clear al hc a1 ax b1 P au b2 av hL V;go_upto_region 21 with fail
          obtain ⟨u,a3⟩:=Qe (wr.alloc (fl #[J U f,J U p,J U D,J U E] 134));have a9:u.heap[wr.heap.size]? =X (fl #[J U f,J U p,J U D,J U E] 134 (0,0)):=by rw [<- a3];exact gb wr _
          have a8:Bw wr u:=by rw [<- a3];exact (gf _ wr).alloc (gd _) _
          rw [a3];have I:=Z (R.trans (a8.mono R.size));have b5:Hid (∀W,(Bw wb W/\W.heap[wr.heap.size]? =X (fl #[J U f,J U p,J U D,J U E] 134 (0,0)))->W.cell? ⟨c,2,Y⟩=X (.map m3)/\W.cell? ⟨wr.heap.size,0,Y⟩=X (J U f)/\W.cell? ⟨wr.heap.size,1,Y⟩=X (J U p)/\W.cell? ⟨wr.heap.size,2,Y⟩=X (J U D)/\W.cell? ⟨wr.heap.size,3,Y⟩=X (J U E)/\(g6 115 (.map m3) (.agg #[J U f,J U p,J U D,J U E]) false).run prog W= .ok (.agg #[J U n,fz jb]) W):=λW ⟨r,hv⟩=>by have bs:Bw w W:=bt.trans (r.mono bt.size);exact ⟨(aT W bs).2.2,(aa hv 0).trans rfl,(aa hv 1).trans rfl,(aa hv 2).trans rfl,(aa hv 3).trans rfl,cb W bs⟩
          have c6:Hid (∀W,Bw wr W->W.ownsRow wb.heap.size 3 1 u10 L.length (L.map intV)):=λW r=>ag O.o (λg V=>r.block g (O.lt g V).2);have a7:=Z a8;have H:=Z a9;clear a9 a3 g0 g1 g2 g3;have ex:=λW=>lY n jb W;obtain ⟨h0,h1,h2,h3,h4,h5⟩:=b5 u ⟨I.o,H.o⟩;obtain ⟨_,_,_,_,_,h6⟩:=b5 u.drew ⟨I.drew,H.o⟩;go_region;clear h0 h1 h2 h3 h4 h5 h6 ex a8;obtain ⟨y,bc⟩:=Qe u.drew;have H:Hid (y.heap[wr.heap.size]? =X (fl #[J U f,J U p,J U D,J U E] 134 (0,0))):=by rw [<- bc];exact H.o
          have I:Hid (Bw wb y):=by rw [<- bc];exact I.o.drew
          have a7:Hid (Bw wr y):=by rw [<- bc];exact a7.o.drew
          rw [bc];clear bc;cases jb
          · have aC:Hid (((d.ps.take (k+1)).flatMap decI)=L++[f,p,D,E,n,0]):=cd.o;go_upto_region 23 with fail
            have ac:Bw wb y.drew/\y.drew.heap[wr.heap.size]? =X (fl #[J U f,J U p,J U D,J U E] 134 (0,0)):=⟨I.drew,H.o⟩;refine wT (λW=>Bw wb W/\W.heap[wr.heap.size]? =X (fl #[J U f,J U p,J U D,J U E] 134 (0,0))) 23 ?_;refine Qb [0,1,4,7,10,13,17,20,2,5,8,11,14,3,6,9,12,15,16,18,19] ac b5 ?_;have b0:∀o,Bw wb (y.drew.alloc o)/\(y.drew.alloc o).heap[wr.heap.size]? =X (fl #[J U f,J U p,J U D,J U E] 134 (0,0)):=λo=>⟨ac.1.alloc I.size o,(gO _ _ _ (ae H.o)).trans H.o⟩;refine Dp 21 λK z=>?_;go_simp;refine z _ _ (λ_=>b0 _) ?_;clear z K;obtain ⟨Q,a5⟩:=Qe ((y.alloc (fl #[J U f,J U p,J U D,J U E,J U n,J U 0] 3)).drew);have hZ:Q.heap[y.heap.size]? =X (fl #[J U f,J U p,J U D,J U E,J U n,J U 0] 3 (0,0)):=by rw [<- a5];exact gb y _
            have a0:Bw y Q:=by rw [<- a5];exact ((gf _ y).alloc (gd _) _).drew
            have a4:Bw wb Q:=I.trans (a0.mono I.size);rw [a5];obtain ⟨v',w7,b4,b3,ao,_⟩:=fD Q wb.heap.size u10 L [f,p,D,E,n,0] y.heap.size 3 (c6.o Q (a7.o.trans (a0.mono a7.o.size))) hZ (by have:=ay.o;simp;omega) a4.size
            have ad:Bw wb w7/\w7.heap[wr.heap.size]? =X (fl #[J U f,J U p,J U D,J U E] 134 (0,0)):=
             ⟨a4.grown ao a4.size (λj ej=>(O.lt j ej).1),(ao.block _ (g9 (ae H.o) a0.size) (λe=>absurd (O.lt _ e.symm).2 (Nat.lt_irrefl _))).trans ((a0.block _ (ae H.o)).trans H.o)⟩
            refine Dp 22 λK z=>?_;refine bi rfl rfl rfl b4 ?_;refine z _ _ (λ_=>ad) ?_;clear z K;refine Dl 23 ?_;have bb:=Z ad.1;have b6:=Z b3;clear ad b3 ao b4 a4 a0 hZ a5 b0 ac;go_wp2_with fail
            go_roundw
            case rel=>exact ⟨k+1,by omega,by go_num,by unfold Hid;rw [aC.o];exact b6.o,bb⟩
            case measure=>simp [intOf];omega
          · have aC:Hid (((d.ps.take (k+1)).flatMap decI)=L++[f,p,D,E,n,1]):=cd.o;go_upto_region 23 with fail
            have ac:Bw wb y.drew/\y.drew.heap[wr.heap.size]? =X (fl #[J U f,J U p,J U D,J U E] 134 (0,0)):=⟨I.drew,H.o⟩;refine wT (λW=>Bw wb W/\W.heap[wr.heap.size]? =X (fl #[J U f,J U p,J U D,J U E] 134 (0,0))) 23 ?_;refine Qb [0,1,4,7,10,13,17,20,2,5,8,11,14,3,6,9,12,15,16,18,19] ac b5 ?_;have b0:∀o,Bw wb (y.drew.alloc o)/\(y.drew.alloc o).heap[wr.heap.size]? =X (fl #[J U f,J U p,J U D,J U E] 134 (0,0)):=λo=>⟨ac.1.alloc I.size o,(gO _ _ _ (ae H.o)).trans H.o⟩;refine Dp 21 λK z=>?_;go_simp;refine z _ _ (λ_=>b0 _) ?_;clear z K;obtain ⟨Q,a5⟩:=Qe ((y.alloc (fl #[J U f,J U p,J U D,J U E,J U n,J U 1] 3)).drew);have hZ:Q.heap[y.heap.size]? =X (fl #[J U f,J U p,J U D,J U E,J U n,J U 1] 3 (0,0)):=by rw [<- a5];exact gb y _
            have a0:Bw y Q:=by rw [<- a5];exact ((gf _ y).alloc (gd _) _).drew
            have a4:Bw wb Q:=I.trans (a0.mono I.size);rw [a5];obtain ⟨v',w7,b4,b3,ao,_⟩:=fD Q wb.heap.size u10 L [f,p,D,E,n,1] y.heap.size 3 (c6.o Q (a7.o.trans (a0.mono a7.o.size))) hZ (by have:=ay.o;simp;omega) a4.size
            have ad:Bw wb w7/\w7.heap[wr.heap.size]? =X (fl #[J U f,J U p,J U D,J U E] 134 (0,0)):=
             ⟨a4.grown ao a4.size (λj ej=>(O.lt j ej).1),(ao.block _ (g9 (ae H.o) a0.size) (λe=>absurd (O.lt _ e.symm).2 (Nat.lt_irrefl _))).trans ((a0.block _ (ae H.o)).trans H.o)⟩
            refine Dp 22 λK z=>?_;refine bi rfl rfl rfl b4 ?_;refine z _ _ (λ_=>ad) ?_;clear z K;refine Dl 23 ?_;have bb:=Z ad.1;have b6:=Z b3;clear ad b3 ao b4 a4 a0 hZ a5 b0 ac;go_wp2_with fail
            go_roundw
            case rel=>exact ⟨k+1,by omega,by go_num,by unfold Hid;rw [aC.o];exact b6.o,bb⟩
            case measure=>simp [intOf];omega
        · have d6:Hid (wr.ownsRow wb.heap.size 3 1 u10 (d.ps.flatMap decI).length ((d.ps.flatMap decI).map intV)):=by have:=O.o;rw [gq (by rw [cg.o];omega)] at this;exact this
          have e4:Hid (∀W,Bw wr W->g7 prog 68 #[u3] W λe w'=>e=ft (S (packR (d.vs.flatMap verS)))/\Bw W w'):=λW r=>
           uI _ u3 W ((aX (bO.o W (R.o.trans (r.mono R.o.size))).1).mono (gp _) (gd _)) (λs hs=>gn (HE.o.vs s hs) (by omega)) (gn HE.o.vn (by omega)) (gn HE.o.vt (by omega))
          have e1:Hid (∀W,Bw wr W->g7 prog 63 #[u9] W λe w'=>e=ft (S (intsR (d.ds.flatMap dropI)))/\Bw W w'):=λW r=>
           pG _ u9 W ((aX (bO.o W (R.o.trans (r.mono R.o.size))).2).mono (gp _) (gd _)) HE.o.di (gn HE.o.dn (by omega))
          have e3:Hid (∀W,Bw wr W->g7 prog 63 #[u10] W λe w'=>e=ft (S (intsR (d.ps.flatMap decI)))/\Bw W w'):=λW r=>
           pG _ u10 W ((aX (ag d6.o (λg V=>r.block g (d6.o.lt g V).2))).mono (gp _) (gd _)) HE.o.pi (gn HE.o.pn (by omega))
          have em:Hid (∀W b t,W.heap[b]? =X (fl #[S (packR (d.vs.flatMap verS)),S (intsR (d.ds.flatMap dropI)),S (intsR (d.ps.flatMap decI))] t (0,0))->g7 prog 68 #[fn (X ⟨b,0,Y⟩) 3 3] W λe w'=>e=ft (S (encR d))/\Bw W w'):=λW b t r=>
           uI [packR (d.vs.flatMap verS),intsR (d.ds.flatMap dropI),intsR (d.ps.flatMap decI)] _ W (pw (cs:=[packR (d.vs.flatMap verS),intsR (d.ds.flatMap dropI),intsR (d.ps.flatMap decI)].map bsV) r) HE.o.l3 (by simp) HE.o.t3
          generalize packR (d.vs.flatMap verS)=A at *;generalize intsR (d.ds.flatMap dropI)=B at *;generalize intsR (d.ps.flatMap decI)=C at *;clear O hk
          go_wp2_with (first
           |(go_at_call_of 68 u3;((with_reducible refine gi (e4.o _ (gf _ _)) ?_);rintro e u ⟨rfl,a8⟩;have I:=Z a8;clear a8))
           |(go_at_call_of 63 u9;((with_reducible refine gi (e1.o _ I.o) ?_);rintro e y ⟨rfl,a2⟩;have b8:=Z (I.o.trans (a2.mono I.o.size));clear a2))
           |(go_at_call_of 63 u10;((with_reducible refine gi (e3.o _ b8.o) ?_);rintro e W3 ⟨rfl,dc⟩;have cy:=Z (b8.o.trans (dc.mono b8.o.size));clear dc))
           |(go_at_call 68;((with_reducible refine gi (em.o _ _ _ (gb _ _)) ?_);rintro e W4 ⟨rfl,bk⟩;have aS:=Z bk;clear bk)))
          go_ret;have f7:=cy.size;have h3:Bw w W3:=T.trans (cy.mono T.size);exact ⟨rfl,(h3.alloc h3.size _).trans (aS.o.mono (by have:=h3.size;simp;omega))⟩
theorem plays_7 (v:Value) (l:List eG) (w:World) (h:kh w v l):g7 prog 7 #[v] w λe w'=>e=ft (fz true)/\Bw w w':=by
 have M:=Z (vJ w);have x:=Z (λW (g:Bw w W)=>zJ v l W (h.keep g));obtain ⟨d,H⟩:=Qe (playC l);rw [H] at x;clear h H;go_enter func7,ntmps7;go_upto_region 2 with (go_at_call 10;((with_reducible refine gi M.o ?_);rintro e w1 ⟨rfl,F⟩;have n:=Z F;clear F))
 have C:=x w1 n.o;have N:=Z C;clear C;go_upto_region 3 with (go_at_call 11;((with_reducible refine gi N.o ?_);rintro e m ⟨c,p,t,u,rfl,I,G,a0⟩;have V:=Z I;have y:=Z G;clear I G a0))
 obtain ⟨T,r⟩:=Qe m.heap.size;obtain ⟨a,o⟩:=Qe (m.alloc (fl #[fr (X ⟨c,0,Y⟩),fr (X ⟨p,0,Y⟩)] 27));have D:a.heap[T]? =X (fl #[fr (X ⟨c,0,Y⟩),fr (X ⟨p,0,Y⟩)] 27 (0,0)):=by rw [<- o, <- r];exact gb m _
 have s:Bw m a:=by rw [<- o];exact (gf _ m).alloc (gd _) _
 have A:Hid (bQ t u a c p d):=V.below s;have z:Hid (Bw w a):=(n.trans (y.mono n.size)).trans (s.mono (gn n.size y.size));have B:=Z D;rw [r,o];clear r o D s
 have R:Hid (∀W,Bw a W->W.cell? ⟨T,0,Y⟩=X (fr (X ⟨c,0,Y⟩))/\W.cell? ⟨T,1,Y⟩=X (fr (X ⟨p,0,Y⟩))):=λW g=>
  have L:=(g.block _ (ae B.o)).trans B.o
  ⟨(aa L 0).trans rfl,(aa L 1).trans rfl⟩
 obtain ⟨E,q⟩:=Qe (encR d);have O:Hid (∀W,Bw a W->g7 prog 30 #[fr (X ⟨c,0,Y⟩)] W λe w'=>e=ft (S E)/\Bw W w'):=λW g=>by rw [<- q];exact wE t W c d (A.cat.below g)
 have P:Hid (∀W,Bw a W->g7 prog 31 #[fr (X ⟨p,0,Y⟩)] W λe w'=>e=ft (S E)/\Bw W w'):=λW g=>by rw [<- q];exact wD u W p d (A.mod.below g)
 clear q;have k:Bw a a.drew:=(gf _ _).drew;refine Wb a 13 ?_;refine Qb [0,1,2,3,4,5,8,6,9] k R ?_;refine Dq 7 λK f=>?_;go_simp;go_at_call 30;refine gi (O _ k) ?_;rintro e W6 ⟨rfl,i⟩;have i:Bw a W6:=k.trans (i.mono k.size);refine f _ _ (λ_=>i) ?_;clear f K;refine Dq 10 λK f=>?_;go_simp;go_at_call 31;refine gi (P _ i) ?_;rintro e W7 ⟨rfl,j⟩;have j:Bw a W7:=i.trans (j.mono i.size);refine f _ _ (λ_=>j) ?_;clear f K;refine Qa [11,12] j ?_;refine Dl 13 ?_;have Q:=Z (z.trans (j.mono z.size));clear i j k;go_wp2_with fail
 go_ret;exact ⟨rfl,Q.o⟩
end
end Go.Proofs.YtjcimanddakkaaaGreatDoor
