/- Lemmas. -/
import Derived.Test.YtjcimanddakkaaaGreatDoorQ5
import Derived.Test.YtjcimanddakkaaaGreatDoorQ25
set_option maxRecDepth 100000
set_option maxHeartbeats 8000000
namespace Go.Proofs.YtjcimanddakkaaaGreatDoor
open Go.Value renaming pointer→fn,map→hk,int→J,slice→hK,bool→k1
open _root_.Option renaming some→X,none→Y
open Go.Ending renaming returned→g3
open Go.Obj renaming cells→hb
open Go.Lib renaming hid→Z
open Go.IntKind renaming i64→U,u8→ih
open Tryz
open _root_.List renaming length_map→k2,getElem_mem→ys,take_of_length_le→y9,length_filter_le→zd,getElem_map→zz,take_succ_eq_append_getElem→z0,pairwise_map→z4,mem_filter→z5,perm_ext_iff_of_nodup→z6,mem_range→z9,range→As,map_map→At,flatMap_append→AS
open Go.World renaming alloc_heap_new→lm,cell?_alloc_new→zD,cell?_of_block→zT,grownBy_alloc→AC,ownsRow_nil→AT
open _root_.Nat renaming le_refl→mk,le_trans→y5,lt_of_lt_of_le→y8,zero_le→zs
open Go.RowKit.Below renaming refl→nq
open Go.ChangeMaps renaming setBlock→qs
open Go.Calls renaming mono→wq
open Go.World.ownsRow renaming form→y6
open Go.Value renaming slice→y7
open Go.Instr renaming lookup→zp
open Go renaming World→Ac
open Go.Addr renaming add→A1
section
open Go.RowKit Go.Maps Go.Shelf
theorem Bm (F:Nat->Prop) (w:Ac) (c:Nat) (d:ar) (h:bf F w c d) (hn:d.vs.length<=1000):
 Calls prog 41 #[fn (X ⟨c,0,Y⟩)] w λe w'=>∃(t:Nat) (F':Nat->Prop) (M V E:Option Nat),e=g3 (fn (X ⟨t,0,Y⟩))/\dF F' w' c M V E (fn (X ⟨t,0,Y⟩)) d/\de (restF F' c M V E) w' t (thereC d) (setsC d)/\ag F w F' w':=by
 obtain ⟨M,V,E,kn,hM⟩:=h;have wi:=hM.lt c hM.fc;obtain ⟨w1,d3⟩:=Qe (w.alloc (hb #[fn (X ⟨c,0,Y⟩)] 24));have aS:Bw w w1:=by rw [<- d3];exact (nq _ w).alloc (mk _) _
 have hV:w1.heap[w.heap.size]? =X (hb #[fn (X ⟨c,0,Y⟩)] 24 (0,0)):=by rw [<- d3];exact lm w _
 have aC:=hM.below aS;have c3:Cl w1 c 3 kn:=(aa aC.blk 3).trans rfl;have cv:Cl w1 w.heap.size 0 (fn (X ⟨c,0,Y⟩)):=(aa hV 0).trans rfl;have fx:=Z d3;rcases hM.kn with rfl|⟨t,rfl,ht⟩
 · have HM:=Z hM;have e9:=Z aS;have HV:=Z hV;clear hM aC hV aS d3;go_enter func41,ntmps41;go_upto_region 1 with fail
   rw [fx.o];go_upto_region 5 with fail
   have tl:= @run_makeMap prog;obtain ⟨m,bk⟩:=Qe w1.heap.size;obtain ⟨N,bt⟩:=Qe ((((w1.alloc (.map #[] 0)).alloc (.map #[] 0)).alloc (hb #[hk (X m),hk (X (m+1))] 95)).alloc (hb #[fn (X ⟨m+2,0,Y⟩)] 96));have ds:Bw w1 N:=by rw [<- bt];exact ((((nq _ w1).alloc (mk _) _).alloc (by simp) _).alloc (by simp;omega) _).alloc (by simp;omega) _
   have z1:(w1.alloc (.map #[] 0)).heap.size=m+1:=by rw [<- bk];simp
   have z2:((w1.alloc (.map #[] 0)).alloc (.map #[] 0)).heap.size=m+2:=by rw [<- bk];simp
   have z3:(((w1.alloc (.map #[] 0)).alloc (.map #[] 0)).alloc (hb #[hk (X m),hk (X (m+1))] 95)).heap.size=m+3:=by rw [<- bk];simp
   have kz:m=w.heap.size+1:=by rw [<- bk, <- fx.o];simp
   have eQ:=Z kz;have iS:ak recB N m []:=by rw [<- bt, <- bk];exact (((ak.made w1).alloc _).alloc _).alloc _
   have iQ:ak recB N (m+1) []:=by rw [<- bt, <- z1];exact ((ak.made (w1.alloc (.map #[] 0))).alloc _).alloc _
   have j1:N.heap[m+2]? =X (hb #[hk (X m),hk (X (m+1))] 95 (0,0)):=by rw [<- bt,Below.heap_alloc _ _ _ (by rw [z3];omega), <- z2];exact lm _ _
   have j2:N.heap[m+3]? =X (hb #[fn (X ⟨m+2,0,Y⟩)] 96 (0,0)):=by rw [<- bt, <- z3];exact lm _ _
   have b4:=(HM.below e9.o).below ds;have g6:=(ds.block _ (ae HV.o)).trans HV.o;have q6:=Z bt;have og:=Z bk;have HZ:=Z (⟨z1,z2,z3⟩:_/\_/\_);have d4:N.heap.size=m+4:=by rw [<- bt, <- bk];simp
   have dk:=Z (yq F N c M V E (fn Y) d b4);have cv2:Cl N w.heap.size 0 (fn (X ⟨c,0,Y⟩)):=(aa g6 0).trans rfl;have i8:=Z iS;have i7:=Z iQ;have py:=Z j1;have q5:=Z j2;have ob:=Z b4;have iF:=Z g6;have ca:=Z d4;have hY:Hid (Bw w N):=e9.trans (ds.mono e9.size);clear kz bk bt ds z1 z2 z3 iS iQ j1 j2 b4 g6 cv c3 d4;go_upto_region 6 with fail
   rw [og.o,show m+1+1=m+2 from rfl,show m+2+1=m+3 from rfl,q6.o];obtain ⟨L,hL⟩:=Qe (thereC d);rw [hL] at dk;have HL:=Z hL;clear hL tl;obtain ⟨ps,q1,q2,q3⟩:=HM.vs;have oN:=Z q1;have oR:=Z q2;have ib:=Z q3;obtain ⟨H,dp⟩:=Qe (restL d ps);have f7:Hid (H.map (λp=>(p.1,p.2.1))=L):=by unfold Hid;rw [<- dp, <- HL.o];exact tU q1
   have op:Hid (∀p∈H,findK ps p.1=X p.2):=λp I=>wJ HM.ok.ok q1 (dp ▸ I);have f6:Hid (∀p∈H,p∈ps):=λp I=>(List.mem_filter.1 (dp ▸ I:p∈restL d ps)).1;have la:H.length=L.length:=by rw [<- f7.o,k2]
   have f5:=Z la;have dz:L.length<=1000:=by rw [<- HL.o];exact y5 (zd _ _) hn
   have cl:Hid (aq ltRK L):=by unfold Hid;rw [<- HL.o];exact dh HM.o.ok.ok
   have d9:Hid (∀j,j<L.length->rkOk (keyC L j)):=λj hj=>by
    have hm:L[j]∈thereC d:=by rw [HL.o];exact ys hj
    rw [cF hj];exact HM.ok.vkey _ (List.mem_filter.1 hm).1
   clear q1 q2 q3 dp la hn;obtain ⟨n,gy⟩:=Qe L.length;have ay:=Z gy;rw [k2] at dk;rw [gy] at dk dz;clear gy;go_upto_region 9 with (go_at_call 77;refine wq dk.o ?_;rintro e w3 ⟨v3,rfl,hC,j3⟩;obtain ⟨a3,k3,rfl⟩:=aK hC;have dd:=Z hC;have c6:=Z j3;clear hC j3)
   obtain ⟨A,gq⟩:=Qe w3.heap.size;have er:=Z gq;have n2:Hid (Bw w w3):=hY.trans (c6.mono hY.size);have pz:Hid (UN w.heap.size A F w3 (m+3) w.heap.size (m+2) m (m+1) c M V E (fn Y) d (L.take 0) (As 0)):=by have l3:=eQ.o;have d4:=ca.o;have wB:=c6.size;have Q:∀q,q<N.heap.size->w3.heap[q]? =N.heap[q]? :=c6.block;refine ⟨(Q _ (by omega)).trans q5.o,(Q _ (ae iF.o)).trans iF.o,(Q _ (by omega)).trans py.o,⟨[],i8.o.block (Q _ i8.o.lt),λk=>rfl⟩,⟨[],i7.o.block (Q _ i7.o.lt),λk=>⟨λh=>(by cases h),?_⟩,λt ht=>absurd ht (by simp),λ_ _ _ _ h=>(by cases h)⟩,ob.o.below c6.o,by omega,⟨by omega,by omega,by omega,by omega,by omega,by omega,by omega,by omega⟩,λk D=>HM.o.lt k D,dS.range 0,gN cl.o 0,λj hj=>absurd hj (by simp),by simp⟩;rintro ⟨t,ht,_⟩;exact absurd ht (by simp)
   have b7:Hid (N.heap.size<=A/\w.heap.size+5<=A/\m=w.heap.size+1):=⟨by rw [<- gq];exact c6.o.size,by have:=ca.o;have:=c6.o.size;have:=eQ.o;omega,eQ.o⟩;clear gq;go_loopw [5,36] (λv i wr=>∃q:Nat,q<=n/\i=J U q/\Hid (UN w.heap.size A F wr (m+3) w.heap.size (m+2) m (m+1) c M V E (fn Y) d (L.take q) (As q))/\Hid (wr.ownsRow A 62 3 v q ((recX (H.take q)).flatMap rdCells))/\Hid (wr.ownsRow N.heap.size 36 2 (hK a3 n k3) n ((L.map (·.1)).flatMap rkCells))/\Hid (Bw w wr)) (λ_ i _=>n - (intOf i).toNat)
   case atStart=>exact ⟨0,zs _,rfl,pz.o,AT _ _ _ _,dd.o,n2.o⟩
   case round=>
    obtain ⟨q,hq,rfl,C,a9,O,a0⟩:=hrel;by_cases hlt:q<n
    · have bs:q<L.length:=by rw [ay.o];exact hlt
      obtain ⟨B,vd,bT,_⟩:=y6 O.o (by omega);cases bT;have a8:∀j,j<2->wr.cell? ⟨B,q * 2+j,Y⟩=(rkCells (keyC L q))[j]? :=λj hj=>by
       have e4:q<(L.map (·.1)).length:=by rw [k2];exact bs
       rw [O.o.cellAt (q * 2+j) (by omega),cJ rkCells 2 (λ_=>rfl) _ q e4 j hj,zz,cF bs]
      have e0:Cl wr B (q * 2) (J U (keyC L q).1):=(a8 0 (by omega)).trans rfl;have e1:Cl wr B (q * 2+1) (J U (keyC L q).2):=(a8 1 (by omega)).trans rfl;have D:=d9 q bs;have ny:=Z (rfl:keyC L q=keyC L q);obtain ⟨⟨y,z⟩,gp⟩:∃k,keyC L q=k:=⟨_,rfl⟩;have da:=Z gp;rw [gp] at e0 e1 D;dsimp only at e0 e1;have oj:=Z D;clear a8 gp ny;obtain ⟨o,ac⟩:=Qe (wr.alloc (hb #[J U y,J U z] 36));have a4:Bw wr o:=by rw [<- ac];exact (nq _ wr).alloc (mk _) _
      have hF:o.heap[wr.heap.size]? =X (hb #[J U y,J U z] 36 (0,0)):=by rw [<- ac];exact lm wr _
      obtain ⟨R,av⟩:=Qe wr.heap.size;rw [av] at hF;have au:=Z (C.below a4);have fl:Hid (o.ownsRow A 62 3 u5 q ((recX (H.take q)).flatMap rdCells)):=ah a9.o (λg u=>a4.block g (a9.lt g u).2);have b6:Hid (o.ownsRow N.heap.size 36 2 (hK (X ⟨B,0,Y⟩) n k3) n ((L.map (·.1)).flatMap rkCells)):=ah O.o (λg u=>a4.block g (O.lt g u).2);have bw:Hid (Bw w o):=a0.trans (a4.mono a0.size);have em:Hid (B<A):=by have h3:=dd.lt B rfl;rw [er.o] at h3;exact h3.2
      have cp:=Z ac;have c7:=Z av;have HF:=Z hF;have ch:Hid (A<=R/\o.heap.size=R+1):=⟨by rw [<- av];exact C.o.los.2.2.2.2.2.2.2,by rw [<- ac, <- av];simp⟩;clear ac av a4 hF C a9 O a0;go_upto_region 11 with fail
      rw [cp.o,c7.o];clear e0 e1;obtain ⟨ao,ko,rfl⟩:=aK fl.o;go_cut [5] (λv wx=>v=hK ao q ko/\Hid (UN w.heap.size A F wx (m+3) w.heap.size (m+2) m (m+1) c M V E (fn Y) d (L.take (q+1)) (As (q+1)))/\Hid (wx.ownsRow A 62 3 (hK ao q ko) q ((recX (H.take q)).flatMap rdCells))/\Hid (wx.ownsRow N.heap.size 36 2 (hK (X ⟨B,0,Y⟩) n k3) n ((L.map (·.1)).flatMap rkCells))/\Hid (Bw w wx)/\Hid (Bk wx R #[J U y,J U z] 36))
      case first=>
       obtain ⟨l1,aC,E1⟩:=au.of;obtain ⟨l2,b4,M2,M3,M4⟩:=au.mem;have tt:=gW (L:=L) (i:=q) (by omega);have i6:Hid (l1.length<maxLen):=by have:=pL (L:=L.take q) aC (λk D=>by rw [E1] at D;simpa using D);unfold Hid maxLen;omega
       have dc:Hid (l2.length<maxLen):=by
        have:=pL (L:=L.take q) b4 (λk D=>by obtain ⟨t,ht,_,dx⟩:=(M2 k).1 D;rw [<- dx,fu (gN cl.o q) ht];rfl)
        unfold Hid maxLen;omega
       have ad:Hid (m+1≠m/\m≠m+1):=⟨by omega,by omega⟩;have aT:Hid (R+1≠m/\R+1≠m+1):=⟨by have:=ch.o.1;have:=b7.o;omega,by have:=ch.o.1;have:=b7.o;omega⟩;have nF:Hid (∀W,ag (λq=>q=m∨q=m+1) o (λq=>q=m∨q=m+1) W->Cl W (m+3) 0 (fn (X ⟨m+2,0,Y⟩))/\(Cl W (m+2) 0 (hk (X m))/\Cl W (m+2) 1 (hk (X (m+1))))/\Cl W R 0 (J U y)/\Cl W R 1 (J U z)):=λW hW=>by have hz:=ch.o;have cc:=b7.o;have b1:=(hW.block (m+3) (ae au.o.vt) (by omega)).trans au.o.vt;have b2:=(hW.block (m+2) (ae au.o.tb) (by omega)).trans au.o.tb;have b3:=(hW.block R (by omega) (by omega)).trans HF.o;exact ⟨(aa b1 0).trans rfl,⟨(aa b2 0).trans rfl,(aa b2 1).trans rfl⟩,(aa b3 0).trans rfl,(aa b3 1).trans rfl⟩
       have d8:Hid (∀W,ag (λq=>q=m∨q=m+1) o (λq=>q=m∨q=m+1) W->ak recB W m (putL l1 (y,z) (.agg #[J U y,J U z]))->ak recB W (m+1) (putL l2 (y,z) (hK (X ⟨R+1,0,Y⟩) 1 1))->Bk W (R+1) #[J U y,J U z] 36->
        Hid (UN w.heap.size A F W (m+3) w.heap.size (m+2) m (m+1) c M V E (fn Y) d (L.take (q+1)) (As (q+1)))/\Hid (W.ownsRow A 62 3 (hK ao q ko) q ((recX (H.take q)).flatMap rdCells))/\Hid (W.ownsRow N.heap.size 36 2 (hK (X ⟨B,0,Y⟩) n k3) n ((L.map (·.1)).flatMap rkCells))/\Hid (Bw w W)/\Hid (Bk W R #[J U y,J U z] 36)):=λW hW h1 h2 h3=>by
        have hz:=ch.o
        have cc:=b7.o
        have gd:=em.o
        have Q:∀p,p<o.heap.size->p≠m->p≠m+1->W.heap[p]? =o.heap[p]? :=λp I p1 p2=>hW.block p I (by omega)
        refine ⟨UN.grow au.o cl.o bs (by rw [ay.o];omega) d9.o E1 (by rw [da.o];exact h1) M2 M3 M4 (nb:=R+1) (by rw [da.o];exact h2) (by rw [da.o];exact h3) (by omega) Q hW.size,ah fl.o (λg u=>?_),ah b6.o (λg u=>?_),?_,(Q R (by omega) (by omega) (by omega)).trans HF.o⟩
        · have hl:=fl.lt g u
          exact Q g hl.2 (by omega) (by omega)
        · have hl:=b6.lt g u
          exact Q g hl.2 (by have:=ca.o;omega) (by have:=ca.o;omega)
        · exact bw.o.trans (hW.below (λk D=>by omega) bw.o.size).1
       clear E1 M2 M3 M4 tt;go_wp2_with fail
       have hH:ag (λq=>q=m∨q=m+1) o (λq=>q=m∨q=m+1) o.drew:=ag.of_below (nq _ o).drew;have aC:=ak.drew aC;have b4:=ak.drew b4;have hS:o.drew.heap.size=R+1:=ch.2;refine wT (λW=>ag (λq=>q=m∨q=m+1) o (λq=>q=m∨q=m+1) W) 999 ?_;generalize o.drew=W0 at *;refine Qd [0,4,5,9,10,11,1,6,2,7,3,8] hH nF ?_;refine cH (i:=12) (j:=13) rfl rfl (by kernel_rfl) rfl rfl (λK s=>?_) (λK s=>?_)
       · skip;go_simp;try rw [hS]
         have fz:Bw W0 (W0.alloc (hb #[J U y,J U z] 36)):=(nq _ W0).alloc (mk _) _;have se:(W0.alloc (hb #[J U y,J U z] 36)).heap[R+1]? =X (hb #[J U y,J U z] 36 (0,0)):=by rw [<- hS];exact lm W0 _
         have lT:=hH.trans (ag.of_below fz);have rs:=aC.block (fz.block m (aC.lt));have ry:=b4.block (fz.block (m+1) (b4.lt));generalize W0.alloc (hb #[J U y,J U z] 36)=Wx1 at *;refine s _ _ (λ_=>lT) ?_;clear s K;go_simp;refine Dp 13 λK s=>?_;obtain ⟨y2,qy,qb,lk,sM,gQ,v4⟩:=ak.entry rs gX underlying92 oL (y,z) D i6.o;refine bq rfl lk ?_;have hN:=lT.trans (ag.of_only gQ (.inl rfl));have ra:=ry.block (gQ.block (m+1) (ad.1));have sa:=(gQ.block (R+1) (aT.1)).trans se;generalize qs Wx1 m (.map qy qb)=Wx7 at *;clear lk;refine s _ _ (λ_=>hN) ?_;clear s K;go_simp;refine Qc [14] hN ?_
         refine Dp 15 λK s=>?_;obtain ⟨q7,tO,tc,hd⟩:=v4 Wx7 (.agg #[J U y,J U z]) sM;refine aY rfl tO ?_;have lQ:=hN.trans (ag.of_only hd (.inl rfl));have rc:=ra.block (hd.block (m+1) (ad.1));have sb:=(hd.block (R+1) (aT.1)).trans sa;refine s _ _ (λ_=>lQ) ?_;clear s K;go_simp;refine Dp 16 λK s=>?_;obtain ⟨x6,qt,qe,lp,t0,h6,v9⟩:=ak.entry rc gX underlying93 eS (y,z) D dc.o;refine bq rfl lp ?_;have hO:=lQ.trans (ag.of_only h6 (.inr rfl));have rg:=tc.block (h6.block m (ad.2));have sl:=(h6.block (R+1) (aT.2)).trans sb;generalize qs q7 (m+1) (.map qt qe)=Wx25 at *;clear lp;refine s _ _ (λ_=>hO) ?_;clear s K;go_simp;refine Qc [17] hO ?_
         refine Dp 18 λK s=>?_;obtain ⟨vy,ua,td,he⟩:=v9 Wx25 (hK (X ⟨R+1,0,Y⟩) 1 1) t0;refine aY rfl ua ?_;have m0:=hO.trans (ag.of_only he (.inr rfl));have rr:=rg.block (he.block m (ad.2));have sm:=(he.block (R+1) (aT.2)).trans sl;refine s _ _ (λ_=>m0) ?_;clear s K;go_simp;refine dN ?_;go_wp2_with fail
         go_meet;exact ⟨rfl,d8 _ m0 rr td sm⟩
       · skip;obtain ⟨x7,qv,qf,ls,g8,h7,me⟩:=ak.entry aC gX underlying92 oL (y,z) D i6.o;refine bq rfl ls ?_;have e7:=hH.trans (ag.of_only h7 (.inl rfl));have hT:=h7.size.trans hS;have g2:=b4.block (h7.block (m+1) (ad.1));generalize qs W0 m (.map qv qf)=Wx43 at *;clear ls;refine s _ _ (λ_=>e7) ?_;clear s K;go_simp;refine Qc [14] e7 ?_
         refine cH (i:=12) (j:=15) rfl rfl (by kernel_rfl) rfl rfl (λK s=>?_) (λK s=>?_)
         · skip;go_simp;try rw [hT]
           have g0:Bw Wx43 (Wx43.alloc (hb #[J U y,J U z] 36)):=(nq _ Wx43).alloc (mk _) _;have sn:(Wx43.alloc (hb #[J U y,J U z] 36)).heap[R+1]? =X (hb #[J U y,J U z] 36 (0,0)):=by rw [<- hT];exact lm Wx43 _
           have m4:=e7.trans (ag.of_below g0);have r0:=(g0.block m (ae g8)).trans g8;have rx:=g2.block (g0.block (m+1) (g2.lt));generalize Wx43.alloc (hb #[J U y,J U z] 36)=Wx54 at *;refine s _ _ (λ_=>m4) ?_;clear s K;go_simp;refine Dp 15 λK s=>?_;obtain ⟨qa,ub,te,hh⟩:=me Wx54 (.agg #[J U y,J U z]) r0;refine aY rfl ub ?_;have m6:=m4.trans (ag.of_only hh (.inl rfl));have rW:=rx.block (hh.block (m+1) (ad.1));have sp:=(hh.block (R+1) (aT.1)).trans sn;refine s _ _ (λ_=>m6) ?_;clear s K;go_simp;refine Dp 16 λK s=>?_;obtain ⟨xb,qx,qk,lv,t1,h8,va⟩:=ak.entry rW gX underlying93 eS (y,z) D dc.o;refine bq rfl lv ?_;have hP:=m6.trans (ag.of_only h8 (.inr rfl));have s0:=te.block (h8.block m (ad.2));have ss:=(h8.block (R+1) (aT.2)).trans sp;generalize qs qa (m+1) (.map qx qk)=Wx67 at *;clear lv;refine s _ _ (λ_=>hP) ?_;clear s K;go_simp;refine Qc [17] hP ?_
           refine Dp 18 λK s=>?_;obtain ⟨vN,uc,th,ho⟩:=va Wx67 (hK (X ⟨R+1,0,Y⟩) 1 1) t1;refine aY rfl uc ?_;have m7:=hP.trans (ag.of_only ho (.inr rfl));have s1:=s0.block (ho.block m (ad.2));have st:=(ho.block (R+1) (aT.2)).trans ss;refine s _ _ (λ_=>m7) ?_;clear s K;go_simp;refine dN ?_;go_wp2_with fail
           go_meet;exact ⟨rfl,d8 _ m7 s1 th st⟩
         · skip;obtain ⟨bD,uo,gt,hw⟩:=me Wx43 (.agg #[J U y,J U z]) g8;refine aY rfl uo ?_;have hQ:=e7.trans (ag.of_only hw (.inl rfl));have hX:=hw.size.trans hT;have g4:=g2.block (hw.block (m+1) (ad.1));refine s _ _ (λ_=>hQ) ?_;clear s K;go_simp;refine cH (i:=12) (j:=16) rfl rfl (by kernel_rfl) rfl rfl (λK s=>?_) (λK s=>?_)
           · skip;go_simp;try rw [hX]
             have g1:Bw bD (bD.alloc (hb #[J U y,J U z] 36)):=(nq _ bD).alloc (mk _) _;have su:(bD.alloc (hb #[J U y,J U z] 36)).heap[R+1]? =X (hb #[J U y,J U z] 36 (0,0)):=by rw [<- hX];exact lm bD _
             have ma:=hQ.trans (ag.of_below g1);have s2:=gt.block (g1.block m (gt.lt));have s3:=g4.block (g1.block (m+1) (g4.lt));generalize bD.alloc (hb #[J U y,J U z] 36)=Wx92 at *;refine s _ _ (λ_=>ma) ?_;clear s K;go_simp;refine Dp 16 λK s=>?_;obtain ⟨y3,qn,qc,lf,sC,gO,v1⟩:=ak.entry s3 gX underlying93 eS (y,z) D dc.o;refine bq rfl lf ?_;have hI:=ma.trans (ag.of_only gO (.inr rfl));have r1:=s2.block (gO.block m (ad.2));have s4:=(gO.block (R+1) (aT.2)).trans su;generalize qs Wx92 (m+1) (.map qn qc)=Wx98 at *;clear lf;refine s _ _ (λ_=>hI) ?_;clear s K;go_simp;refine Qc [17] hI ?_
             refine Dp 18 λK s=>?_;obtain ⟨vn,tx,t9,h9⟩:=v1 Wx98 (hK (X ⟨R+1,0,Y⟩) 1 1) sC;refine aY rfl tx ?_;have lB:=hI.trans (ag.of_only h9 (.inr rfl));have r2:=r1.block (h9.block m (ad.2));have s5:=(h9.block (R+1) (aT.2)).trans s4;refine s _ _ (λ_=>lB) ?_;clear s K;go_simp;refine dN ?_;go_wp2_with fail
             go_meet;exact ⟨rfl,d8 _ lB r2 t9 s5⟩
           · skip;obtain ⟨x5,qq,qd,lo,jb,gP,v2⟩:=ak.entry g4 gX underlying93 eS (y,z) D dc.o;refine bq rfl lo ?_;have hJ:=hQ.trans (ag.of_only gP (.inr rfl));have n0:=gP.size.trans hX;have iP:=gt.block (gP.block m (ad.2));generalize qs bD (m+1) (.map qq qd)=Wx116 at *;clear lo;refine s _ _ (λ_=>hJ) ?_;clear s K;go_simp;refine Qc [17] hJ ?_
             refine Dp 12 λK s=>?_;go_simp;try rw [n0]
             have fy:Bw Wx116 (Wx116.alloc (hb #[J U y,J U z] 36)):=(nq _ Wx116).alloc (mk _) _;have s6:(Wx116.alloc (hb #[J U y,J U z] 36)).heap[R+1]? =X (hb #[J U y,J U z] 36 (0,0)):=by rw [<- n0];exact lm Wx116 _
             have lE:=hJ.trans (ag.of_below fy);have r4:=iP.block (fy.block m (iP.lt));have qz:=(fy.block (m+1) (ae jb)).trans jb;generalize Wx116.alloc (hb #[J U y,J U z] 36)=Wx127 at *;refine s _ _ (λ_=>lE) ?_;clear s K;go_simp;refine Dp 18 λK s=>?_;obtain ⟨vx,tz,ta,hc⟩:=v2 Wx127 (hK (X ⟨R+1,0,Y⟩) 1 1) qz;refine aY rfl tz ?_;have lP:=lE.trans (ag.of_only hc (.inr rfl));have r9:=r4.block (hc.block m (ad.2));have s8:=(hc.block (R+1) (aT.2)).trans s6;refine s _ _ (λ_=>lP) ?_;clear s K;go_simp;refine dN ?_;go_wp2_with fail
             go_meet;exact ⟨rfl,d8 _ lP r9 ta s8⟩
      case rest=>
       obtain ⟨rfl,dn,cg,i4,d6,i0⟩:=hcut;have e5:q<H.length:=by rw [f5.o];exact bs
       have fp:Hid (H.take (q+1)=H.take q++[H[q]]):=z0 e5;have bp:H[q].1=(y,z):=by
        rw [<- da.o,cF bs];have h2:=f7.o;have:L[q]=(H[q].1,H[q].2.1):=by
         have:=zz (l:=H) (f:=λp:RK×VX=>(p.1,p.2.1)) (i:=q) (h:=by rw [k2];exact e5);rw [<- this];congr 1
         exact h2.symm
        rw [this]
       have cz:=op _ (ys e5);have gi:=f6 _ (ys e5);obtain ⟨p,I⟩:=Qe (H[q]);rw [I] at fp bp cz gi;obtain ⟨pk,⟨d5,r⟩,x⟩:=p;dsimp only at bp;subst bp;obtain ⟨_,_,k6,_,_⟩:=ib _ gi;obtain ⟨xa,xc,b8⟩:=k6.shape;dsimp only at b8 cz;subst b8;clear k6 I gi;obtain ⟨rk,rl,fs⟩:=r;dsimp only at cz fp;have pe:Hid ((recX (H.take (q+1))).flatMap rdCells=(recX (H.take q)).flatMap rdCells++[J ih rk.toNat,J ih rl.toNat,hK xa fs.length xc]):=by unfold Hid recX;rw [fp.o,List.map_append,AS];rfl
       have vb:=dn.los;have wb:R<wc.heap.size:=ae i0.o;have mp:∀{g:Nat},(y7 ao q ko).ownBlock=X g->∃cu,Bk wc g cu 62:=λ{g} u=>aA cg.o u;have n6:Hid (∀W,wc.grownBy W (y7 ao q ko).ownBlock->Cl W w.heap.size 0 (fn (X ⟨c,0,Y⟩))/\Cl W c 0 (.map M)/\(Cl W R 0 (J U y)/\Cl W R 1 (J U z))/\(zp 113 (.map M) (.agg #[J U y,J U z]) false).run prog W= .ok (.agg #[J U y,J U z,J U d5,J ih rk.toNat,J ih rl.toNat,hK xa fs.length xc]) W):=λW hW=>by
        have D:∀{g:Nat} {cs:Array Value} {ty:TypeId},wc.heap[g]? =X (hb cs ty (0,0))->ty≠62->W.heap[g]? =X (hb cs ty (0,0)):=λ{g cs ty} u tr=>(hW.block g (ae u) (λe=>by obtain ⟨cu,ax⟩:=mp e.symm;exact df u ax tr rfl)).trans u
        have b1:=D dn.vc (by decide);have b2:=D dn.cat.blk (by decide);have b3:=D i0.o (by decide);refine ⟨(aa b1 0).trans rfl,(aa b2 0).trans rfl,⟨(aa b3 0).trans rfl,(aa b3 1).trans rfl⟩,?_⟩;have t8:bQ recB W M (ps.map λp=>(p.1,iC p.1 p.2)):=by refine oR.block (λb Q=>?_);have t2:=HM.f1 b Q;have k0:=HM.lt b t2;have h1:=d6.block b k0;refine (hW.block b (y8 k0 d6.size) (λe=>?_)).trans h1;have:=(cg.lt b e.symm).1;omega
        have:=bQ.look (w:=W) t8 underlying113 jO (y,z) oj.o;rw [eW,cz] at this;exact this
       have g9:=λW=>xt y z d5 rk.toNat rl.toNat xa fs.length xc W;obtain ⟨iN,k9,mt,mv,mP⟩:=info_parts i62;have HI:=Z k9;have n7:=Z mt;have n8:=Z mv;have n9:=Z mP;clear cz mp k9 mt mv mP;go_wp2_with fail
       have gc:wc.grownBy wc.drew (y7 ao q ko).ownBlock:=⟨rfl,rfl,rfl,mk _,λ_ _ _=>rfl⟩;refine wT (λW=>wc.grownBy W (y7 ao q ko).ownBlock) 999 ?_;refine Qd [0,1,5,2,3,4,6] gc n6 ?_;refine Qd [7] gc (λw' h=>g9 w') ?_
       refine Dp 8 λK s=>?_;go_simp;have k8:wc.grownBy (wc.drew.alloc (hb #[J ih rk.toNat,J ih rl.toNat,hK xa fs.length xc] 62)) (y7 ao q ko).ownBlock:=gc.trans ((AC _ _ Y).but _);refine s _ _ (λ_=>k8) ?_;clear s K;refine Dp 9 λK s=>?_;obtain ⟨v',w7,d1,l7,t5,_,_⟩:=run_append_own_at (P:=prog) (wc.drew.alloc (hb #[J ih rk.toNat,J ih rl.toNat,hK xa fs.length xc] 62)) A 59 59 62 iN (.agg #[J ih 0,J ih 0,hK Y 0 0]) 3 32 underlying59 HI.o n7.o n8.o n9.o rfl (by decide) (hK ao q ko) q _ (World.ownsRow.alloc (w:=wc.drew) cg.o _) ⟨wc.drew.heap.size,0,Y⟩ 1 1 [J ih rk.toNat,J ih rl.toNat,hK xa fs.length xc] rfl (mH wc.drew _ _ _ 62) (by simp [Value.oneCell']) (by unfold maxLen;omega) (by omega) (by have:=vb.2.2.2.2.2.2.2;simp;show A<=wc.heap.size+1;omega);refine iT rfl rfl rfl d1 ?_;obtain ⟨w0,x2,rfl⟩:=aK l7;have bc:=k8.trans t5;refine s _ _ (λ_=>bc) ?_;clear s K;go_simp;refine Qc [10] bc ?_
       refine dN ?_;go_wp2_with fail
       have gf:∀p,p<wc.heap.size->(p<A∨∀c,wc.heap[p]? ≠X (Obj.cells c 62 (0,0)))->w7.heap[p]? =wc.heap[p]? :=λp I h=>bc.block p I (λe=>by
        rcases h with h|h
        · have:=(cg.lt p e.symm).1;omega
        · obtain ⟨cu,ax⟩:=aA cg.o e.symm;exact h cu ax)
       go_roundw
       case rel=>
        refine ⟨q+1,hlt,by go_num,dn.o.keep (by decide) (by decide) (by decide) (by decide) gf bc.size,?_,ah i4.o (λg u=>?_),d6.o.trans ⟨bc.os,bc.tape,bc.output,bc.size,λp I=>gf p (y8 I d6.o.size) (.inl (by have:=b7.o;omega))⟩⟩
        · unfold Hid;rw [pe.o];exact l7
        · obtain ⟨cu,ax⟩:=aA i4.o u;exact gf g (ae ax) (.inr λc e=>by rw [ax] at e;injection e with e;injection e with _ e;exact absurd e (by decide))
       case measure=>simp [intOf];omega
    · obtain rfl:q=n:=by omega
      have ml:L.take q=L:=y9 (by rw [ay.o];omega);have mm:H.take q=H:=y9 (by rw [f5.o,ay.o];omega);rw [ml] at C;rw [mm] at a9;clear ml mm hlt hq;obtain ⟨T,d0⟩:=Qe (d.ps.map (·.1));have e4:T.length<=5000:=by rw [<- d0,k2];exact HM.o.ok.plen
      have aS:Bw wr (wr.alloc (hb #[.map E] 115)):=(nq _ wr).alloc (mk _) _;have hR:=nY 8 (by omega) wr.heap.size E (d.ps.map λp=>(p.1,fo p.2)) (wr.alloc (hb #[.map E] 115)) (by rw [zD];rfl) (C.o.cat.ps.block (λb Q=>aS.block b (C.o.cat.lt b (C.o.cat.f3 b Q)))) (λb Q=>by have:=C.o.cat.lt b (C.o.cat.f3 b Q);simp;omega);have ky:(d.ps.map λp=>(p.1,fo p.2)).map (·.1)=T:=by rw [At, <- d0];rfl
      rw [ky] at hR;have iD:=Z (nN 10 (by omega) 121 #[fn (X ⟨wr.heap.size,0,Y⟩)] (enters_of func121 (by kernel_rfl) rfl) T (by omega) _ _ (λx4 x hx=>by have:=hx.1;rw [k2] at this;have:=HM.o.ok.plen;omega) _ hR);have mc:cw ltPK T=T:=by refine bh cY (.refl _) ?_;have hs:=HM.ok.ok.ps;unfold aq at hs;rw [<- d0,z4];exact hs
      rw [mc] at iD;have ne:=Z (vJ E wr);have cv:=(aa C.vc 0).trans rfl;have c2:Cl wr c 2 (.map E):=(aa C.cat.blk 2).trans rfl;have ej:=Z aS;have f8:=Z d0;clear hR ky mc aS d0;obtain ⟨ao,ko,rfl⟩:=aK a9.o
      go_upto_region 16 with (first
       |(go_at_call 66;((with_reducible refine wq ne.o ?_);rintro e w4 ⟨rfl,rfl⟩))
       |(go_at_call 65;((with_reducible refine wq iD.o ?_);rintro e w5 ⟨v5,rfl,hE,bb⟩;obtain ⟨a5,k5,rfl⟩:=aK hE;have p3:=Z hE;have n3:=Z bb;clear hE bb)))
      have bb:Bw wr w5:=ej.trans (n3.mono ej.size);have q0:Hid (UN w.heap.size A F w5 (m+3) w.heap.size (m+2) m (m+1) c M V E (fn Y) d L (lO d.ps L (d.ps.take 0))):=by have h:=C.below bb;rw [<- ay.o] at h;exact h
      have pn:Hid (w5.ownsRow A 62 3 (hK ao q ko) q ((recX H).flatMap rdCells)):=ah a9.o (λg u=>bb.block g (a9.lt g u).2);have nz:Hid (w5.ownsRow N.heap.size 36 2 (hK a3 q k3) q ((L.map (·.1)).flatMap rkCells)):=ah O.o (λg u=>bb.block g (O.lt g u).2);have n4:Hid (Bw w w5):=a0.trans (bb.mono a0.size);have p4:Hid (w5.ownsRow A 134 4 (hK a5 T.length k5) T.length (T.flatMap pkCells)):=bz p3.o (by have:=C.o.los.2.2.2.2.2.2.2;have:=ej.o.size;omega);clear bb C a9 O a0 cv c2;go_loopw [76] (λi wr=>∃j:Nat,j<=T.length/\i=J U j/\Hid (UN w.heap.size A F wr (m+3) w.heap.size (m+2) m (m+1) c M V E (fn Y) d L (lO d.ps L (d.ps.take j)))/\Hid (wr.ownsRow A 62 3 (hK ao q ko) q ((recX H).flatMap rdCells))/\Hid (wr.ownsRow N.heap.size 36 2 (hK a3 q k3) q ((L.map (·.1)).flatMap rkCells))/\Hid (wr.ownsRow A 134 4 (hK a5 T.length k5) T.length (T.flatMap pkCells))/\Hid (Bw w wr)) (λi _=>T.length - (intOf i).toNat)
      case atStart=>exact ⟨0,zs _,rfl,q0.o,pn.o,nz.o,p4.o,n4.o⟩
      case round=>
       obtain ⟨j,hj,rfl,C,a9,O,al,a0⟩:=hrel;by_cases hlj:j<T.length
       · have kc:j<d.ps.length:=by rw [<- f8.o,k2] at hlj;exact hlj
         obtain ⟨g5,wL,bT,_⟩:=y6 al.o (by omega);cases bT;have lc:T[j]=d.ps[j].1:=by simp [<- f8.o]
         have a8:∀i,i<4->wr.cell? ⟨g5,j * 4+i,Y⟩=(pkCells d.ps[j].1)[i]? :=λi hi=>by rw [al.o.cellAt (j * 4+i) (by omega),cJ pkCells 4 (λ_=>rfl) _ j hlj i hi,lc]
         have b0:=Z (ww d.ps L j kc);have gx:=ys kc;have bp:=HM.ok.pkey _ gx;have gb:findK d.ps d.ps[j].1=X d.ps[j].2:=(cR cY HM.ok.ok.ps).2 gx;obtain ⟨p,I⟩:=Qe (d.ps[j]);rw [I] at a8 b0 bp gb;clear I gx lc;obtain ⟨⟨⟨a1,a2⟩,b1,b2⟩,d5,jn⟩:=p;dsimp only at bp gb b0 a8;have e0:Cl wr g5 (j * 4) (J U a1):=(a8 0 (by omega)).trans rfl;have e1:Cl wr g5 (j * 4+1) (J U a2):=(a8 1 (by omega)).trans rfl;have e2:Cl wr g5 (j * 4+2) (J U b1):=(a8 2 (by omega)).trans rfl;have e3:Cl wr g5 (j * 4+3) (J U b2):=(a8 3 (by omega)).trans rfl;clear a8;obtain ⟨o,ac⟩:=Qe (wr.alloc (hb #[J U a1,J U a2,J U b1,J U b2] 134));have a4:Bw wr o:=by rw [<- ac];exact (nq _ wr).alloc (mk _) _
         have hF:o.heap[wr.heap.size]? =X (hb #[J U a1,J U a2,J U b1,J U b2] 134 (0,0)):=by rw [<- ac];exact lm wr _
         obtain ⟨R,av⟩:=Qe wr.heap.size;rw [av] at hF;have au:=Z (C.below a4);have di:Hid (o.ownsRow A 62 3 (hK ao q ko) q ((recX H).flatMap rdCells)):=ah a9.o (λg u=>a4.block g (a9.lt g u).2);have b6:Hid (o.ownsRow N.heap.size 36 2 (hK a3 q k3) q ((L.map (·.1)).flatMap rkCells)):=ah O.o (λg u=>a4.block g (O.lt g u).2);have b9:Hid (o.ownsRow A 134 4 (hK (X ⟨g5,0,Y⟩) T.length k5) T.length (T.flatMap pkCells)):=ah al.o (λg u=>a4.block g (al.lt g u).2);have bw:Hid (Bw w o):=a0.trans (a4.mono a0.size);have cp:=Z ac;have c7:=Z av;have HF:=Z hF;clear ac a4 hF av C a9 O al a0;have d7:Hid (∀W,Bw o W->Cl W w.heap.size 0 (fn (X ⟨c,0,Y⟩))/\Cl W c 2 (.map E)/\(Cl W R 0 (J U a1)/\Cl W R 1 (J U a2)/\Cl W R 2 (J U b1)/\Cl W R 3 (J U b2))/\(zp 115 (.map E) (.agg #[J U a1,J U a2,J U b1,J U b2]) false).run prog W= .ok (.agg #[J U d5,k1 jn]) W):=λW Q=>by have hu:=au.below Q;have e2:=ns ((Q.block _ (ae HF.o)).trans HF.o);refine ⟨(aa hu.vc 0).trans rfl,(aa hu.cat.blk 2).trans rfl,e2,?_⟩;have:=bQ.look (w:=W) hu.cat.ps underlying115 fT ((a1,a2),b1,b2) bp;rw [eW d.ps (λ_ v=>fo v),gb] at this;exact this
         go_upto_region 18 with fail
         rw [cp.o,c7.o];clear e0 e1 e2 e3;have g9:=λW=>my d5 jn W;go_wp2_with fail
         have bO:Bw o o.drew:=(nq _ o).drew;refine Wb o 999 ?_;refine Qd [0,1,2,3,4,5] bO d7 ?_;refine Qd [6] bO (λw' h=>g9 w') ?_
         refine dN ?_;rcases jn with _|_
         · have cm:Hid (UN w.heap.size A F o.drew (m+3) w.heap.size (m+2) m (m+1) c M V E (fn Y) d L (lO d.ps L (d.ps.take (j+1)))):=by unfold Hid;rw [b0.o,if_neg (by decide)];exact au.below bO
           go_wp2_with fail
           go_roundw
           case rel=> exact ⟨j+1,hlj,by go_num,cm,di,b6,b9,bw.trans (nq _ o).drew⟩
           case measure=>simp [intOf];omega
         · have c5:=qV w.heap.size A F o.drew (m+3) w.heap.size (m+2) m (m+1) c M V E (fn Y) d L (lO d.ps L (d.ps.take j)) (au.below bO) ((a1,a2),b1,b2) bp;dsimp only [pairV] at c5;have fr:=Z c5;obtain ⟨_,_,⟨f0,f1,f2,f3⟩,_⟩:=d7 _ bO;clear c5;go_wp2_with (go_at_call 78;((with_reducible refine wq fr.o ?_);rintro e w6 ⟨rfl,d2,cx,cy⟩;have ft:=Z d2;have ee:=Z cx;have bA:=Z cy;clear d2 cx cy))
           have cc:=b7.o;have cm:Hid (UN w.heap.size A F w6 (m+3) w.heap.size (m+2) m (m+1) c M V E (fn Y) d L (lO d.ps L (d.ps.take (j+1)))):=by unfold Hid;rw [b0.o,if_pos (by decide)];exact ft.o
           go_roundw
           case rel=>
            refine ⟨j+1,hlj,by go_num,cm,ah di.o (λg u=>?_),ah b6.o (λg u=>?_),ah b9.o (λg u=>?_),(bw.trans (nq _ o).drew).trans ee.o⟩
            · have hl:=di.lt g u;obtain ⟨cu,ax⟩:=aA di.o u;exact bA.o g hl.2 (by omega) (by omega) (.inr λc2 e=>by rw [show o.drew.heap[g]? =o.heap[g]? from rfl,ax] at e;injection e with e;injection e with _ e;exact absurd e (by decide))
            · have hl:=b6.lt g u;have kt:=dd.lt g u;rw [er.o] at kt;have d4:=ca.o;exact bA.o g hl.2 (by omega) (by omega) (.inl kt.2)
            · have hl:=b9.lt g u;obtain ⟨cu,ax⟩:=aA b9.o u;exact bA.o g hl.2 (by omega) (by omega) (.inr λc2 e=>by rw [show o.drew.heap[g]? =o.heap[g]? from rfl,ax] at e;injection e with e;injection e with _ e;exact absurd e (by decide))
           case measure=>simp [intOf];omega
       · have gn:j=T.length:=by omega
         subst gn;have lb:d.ps.take T.length=d.ps:=y9 (by rw [<- f8.o,k2];exact mk _);rw [lb] at C;clear lb hlj hj al;obtain ⟨xs,b8⟩:=Qe (recX H);have cb:xs.length=q:=by rw [<- b8];unfold recX;rw [k2,f5.o,ay.o]
         rw [b8] at a9;have lx:mT wr (hK ao q ko) xs:=by refine ⟨by rw [cb];exact (aP a9.o).mono (zs _) (mk _),λp I=>?_⟩;rw [<- b8] at I;obtain ⟨p',hy,rfl⟩:=List.mem_map.1 I;obtain ⟨x3,wp,f1,f2,f3⟩:=ib p' (f6 p' hy);exact (f1.kept (λk a b=>a0.block k (HM.lt k (f3 k a b).1))).mono (zs _) (y5 f2 a0.size)
         have mb:∀p∈xs,bR p.1.fields:=λp I=>by
          rw [<- b8] at I;obtain ⟨p',hy,rfl⟩:=List.mem_map.1 I;have hm:(p'.1,p'.2.1)∈d.vs:=by rw [<- oN.o];exact List.mem_map.2 ⟨p',f6 p' hy,rfl⟩
          exact (eo (HM.ok.right _ hm)).2.2
         obtain ⟨G,cQ⟩:=Qe (pairsR (L.map λp=>p.2.2));have ms:pairsR (xs.map (·.1))=G:=by rw [<- cQ, <- b8, <- f7.o];unfold recX;rw [At,At];rfl
         have hB:=yM wr (hK ao q ko) xs lx (by rw [cb];exact dz) mb;rw [ms] at hB;have ov:=Z hB;have oF:=Z cQ;have wz:G.length<=1000000:=by rw [<- cQ];have h1:=wN (L.map λp=>p.2.2);rw [k2,ay.o] at h1;exact y5 h1 (y5 (Nat.mul_le_mul dz dz) (by decide))
         have ot:Hid (∀(j:Nat) (h:j<G.length),(G[j]).1<L.length/\(G[j]).2<L.length):=λj h=>by have:=rI (l:=L.map λp=>p.2.2) G[j] (by rw [cQ];exact ys h);rwa [k2] at this
         clear lx mb hB ms cQ cb b8;go_upto_region 22 with (go_at_call 79;((with_reducible refine wq ov.o ?_);rintro e w7 ⟨v7,rfl,d1,j4⟩;obtain ⟨a7,k7,rfl⟩:=aK d1;have p5:=Z d1;have eg:=Z j4;clear d1 j4))
         have q4:Hid (UN w.heap.size A F w7 (m+3) w.heap.size (m+2) m (m+1) c M V E (fn Y) d L (po d.ps L (G.take 0))):=C.below eg.o;have nE:Hid (w7.ownsRow N.heap.size 36 2 (hK a3 q k3) q ((L.map (·.1)).flatMap rkCells)):=ah O.o (λg u=>eg.block g (O.lt g u).2);have n5:Hid (Bw w w7):=a0.trans (eg.mono a0.size);have pc:Hid (w7.ownsRow A 67 2 (hK a7 G.length k7) G.length (G.flatMap dM)):=bz p5.o C.los.2.2.2.2.2.2.2;clear C O a0 a9;go_loopw [94] (λi wr=>∃j:Nat,j<=G.length/\i=J U j/\Hid (UN w.heap.size A F wr (m+3) w.heap.size (m+2) m (m+1) c M V E (fn Y) d L (po d.ps L (G.take j)))/\Hid (wr.ownsRow N.heap.size 36 2 (hK a3 q k3) q ((L.map (·.1)).flatMap rkCells))/\Hid (wr.ownsRow A 67 2 (hK a7 G.length k7) G.length (G.flatMap dM))/\Hid (Bw w wr)) (λi _=>G.length - (intOf i).toNat)
         case atStart=>exact ⟨0,zs _,rfl,q4.o,nE.o,pc.o,n5.o⟩
         case round=>
          obtain ⟨j,hj,rfl,C,O,al,a0⟩:=hrel;by_cases hlj:j<G.length
          · obtain ⟨bY,c4⟩:=ot j hlj;have b0:=Z (wv d.ps cl.o G j hlj bY c4);have bs:0<q:=by rw [<- ay.o];omega
            obtain ⟨g7,wX,bT,_⟩:=y6 al.o (by omega);cases bT;obtain ⟨B,vd,bT,_⟩:=y6 O.o bs;cases bT;have a8:∀i,i<2->wr.cell? ⟨g7,j * 2+i,Y⟩=(dM G[j])[i]? :=λi hi=>by rw [al.o.cellAt (j * 2+i) (by omega),cJ dM 2 (λ_=>rfl) _ j hlj i hi]
            have cP:∀a,a<L.length->∀i,i<2->wr.cell? ⟨B,a * 2+i,Y⟩=(rkCells (keyC L a))[i]? :=λa ha i hi=>by
             have e4:a<(L.map (·.1)).length:=by rw [k2];exact ha
             rw [O.o.cellAt (a * 2+i) (by rw [<- ay.o];omega),cJ rkCells 2 (λ_=>rfl) _ a e4 i hi,zz,cF ha]
            obtain ⟨p,I⟩:=Qe (G[j]);rw [I] at bY c4 b0 a8;clear I;obtain ⟨pa,pb⟩:=p;dsimp only at bY c4 b0;have kd:=d9 pa bY;have dx:=d9 pb c4;have x0:=cP pa bY 0 (by omega);have x1:=cP pa bY 1 (by omega);have y0:=cP pb c4 0 (by omega);have y1:=cP pb c4 1 (by omega);rw [ay.o] at bY c4;obtain ⟨ka,kk⟩:=Qe (keyC L pa);obtain ⟨kb,kl⟩:=Qe (keyC L pb);rw [kk] at x0 x1 kd b0;rw [kl] at y0 y1 dx b0;clear kk kl cP;obtain ⟨a1,a2⟩:=ka;obtain ⟨b1,b2⟩:=kb;have x0:Cl wr B (pa * 2) (J U a1):=x0;have x1:Cl wr B (pa * 2+1) (J U a2):=x1;have y0:Cl wr B (pb * 2) (J U b1):=y0;have y1:Cl wr B (pb * 2+1) (J U b2):=y1;have e0:Cl wr g7 (j * 2) (J U (pa:Int)):=(a8 0 (by omega)).trans rfl;have e1:Cl wr g7 (j * 2+1) (J U (pb:Int)):=(a8 1 (by omega)).trans rfl;clear a8;obtain ⟨o,ac⟩:=Qe (wr.alloc (hb #[J U (pa:Int),J U (pb:Int)] 67));have a4:Bw wr o:=by rw [<- ac];exact (nq _ wr).alloc (mk _) _
            have hF:o.heap[wr.heap.size]? =X (hb #[J U (pa:Int),J U (pb:Int)] 67 (0,0)):=by rw [<- ac];exact lm wr _
            obtain ⟨R,av⟩:=Qe wr.heap.size;rw [av] at hF;have gd:B<wr.heap.size:=(O.lt B rfl).2;have b5:∀i,o.cell? ⟨B,i,Y⟩=wr.cell? ⟨B,i,Y⟩:=λi=>zT (a:=⟨B,i,Y⟩) (a4.block B gd);have X0:=Z ((b5 _).trans x0);have X1:=Z ((b5 _).trans x1);have Y0:=Z ((b5 _).trans y0);have Y1:=Z ((b5 _).trans y1);have au:=Z (C.below a4);have b6:Hid (o.ownsRow N.heap.size 36 2 (hK (X ⟨B,0,Y⟩) q k3) q ((L.map (·.1)).flatMap rkCells)):=ah O.o (λg u=>a4.block g (O.lt g u).2);have b9:Hid (o.ownsRow A 67 2 (hK (X ⟨g7,0,Y⟩) G.length k7) G.length (G.flatMap dM)):=ah al.o (λg u=>a4.block g (al.lt g u).2);have bw:Hid (Bw w o):=a0.trans (a4.mono a0.size);have cp:=Z ac;have c7:=Z av;have HF:=Z hF;have pf:=Z C.los.2.2.2.2.2.2.2;clear ac a4 hF av C O al a0 x0 x1 y0 y1 b5 gd;go_upto_region 24 with fail
            rw [cp.o,c7.o];clear e0 e1;have bO:Bw o o.drew:=(nq _ o).drew;have c5:=qV w.heap.size A F o.drew (m+3) w.heap.size (m+2) m (m+1) c M V E (fn Y) d L (po d.ps L (G.take j)) (au.below bO) ((a1,a2),b1,b2) ⟨kd,dx⟩;dsimp only [pairV] at c5;have fr:=Z c5;clear c5;have em:Hid (B<A):=by have h3:=dd.lt B rfl;rw [er.o] at h3;exact h3.2
            have d7:Hid (∀W:Ac,(W.heap[R]? =o.heap[R]? /\W.heap[B]? =o.heap[B]?)->(Cl W R 0 (J U (pa:Int))/\Cl W R 1 (J U (pb:Int)))/\Cl W B (pa * 2) (J U a1)/\Cl W B (pa * 2+1) (J U a2)/\Cl W B (pb * 2) (J U b1)/\Cl W B (pb * 2+1) (J U b2)):=λW Q=>by have jj:=Q.1.trans HF.o;have b5:∀i,W.cell? ⟨B,i,Y⟩=o.cell? ⟨B,i,Y⟩:=λi=>zT (a:=⟨B,i,Y⟩) Q.2;exact ⟨⟨(aa jj 0).trans rfl,(aa jj 1).trans rfl⟩,(b5 _).trans X0.o,(b5 _).trans X1.o,(b5 _).trans Y0.o,(b5 _).trans Y1.o⟩
            have sz:o.drew.heap[R]? =o.heap[R]? /\o.drew.heap[B]? =o.heap[B]? :=⟨rfl,rfl⟩;have i1:(pa:Int)<(q:Int):=by omega
            have i2:(pb:Int)<(q:Int):=by omega
            go_wp2_with fail
            refine wT (λW=>W.heap[R]? =o.heap[R]? /\W.heap[B]? =o.heap[B]?) 999 ?_;refine Qd [0,1,2,3,4,5,6,7,8,9,10,11] sz d7 ?_;refine Dp 12 λK s=>?_;go_simp;go_at_call 78;with_reducible refine wq fr.o ?_
            rintro e w6 ⟨rfl,d2,cx,cy⟩;have ft:=Z d2;have ee:=Z cx;have bA:=Z cy;clear d2 cx cy;have cc:=b7.o;have d4:=ca.o;have kx:=b6.lt B rfl;have sx:R<o.heap.size:=ae HF.o;have wf:A<=R:=by rw [<- c7.o];exact pf.o
            have j0:w6.heap[R]? =o.heap[R]? /\w6.heap[B]? =o.heap[B]? :=
             ⟨bA.o R sx (by omega) (by omega) (.inr λc2 e=>by rw [show o.drew.heap[R]? =o.heap[R]? from rfl,HF.o] at e;injection e with e;injection e with _ e;exact absurd e (by decide)),
              bA.o B kx.2 (by omega) (by omega) (.inl em.o)⟩
            refine s _ _ (λ_=>j0) ?_;clear s K;refine dN ?_;have cm:Hid (UN w.heap.size A F w6 (m+3) w.heap.size (m+2) m (m+1) c M V E (fn Y) d L (po d.ps L (G.take (j+1)))):=by unfold Hid;rw [b0.o];exact ft.o
            go_wp2_with fail
            go_roundw
            case rel=>
             refine ⟨j+1,hlj,by go_num,cm,ah b6.o (λg u=>?_),ah b9.o (λg u=>?_),(bw.trans (nq _ o).drew).trans ee.o⟩
             · injection u with u
               subst u;exact j0.2
             · have hl:=b9.lt g u;obtain ⟨cu,ax⟩:=aA b9.o u;exact bA.o g hl.2 (by omega) (by omega) (.inr λc2 e=>by rw [show o.drew.heap[g]? =o.heap[g]? from rfl,ax] at e;injection e with e;injection e with _ e;exact absurd e (by decide))
            case measure=>simp [intOf];omega
          · have gn:j=G.length:=by omega
            subst gn;rw [List.take_length, <- oF.o, <- HL.o] at C;have c9:Hid (UN w.heap.size A F wr (m+3) w.heap.size (m+2) m (m+1) c M V E (fn Y) d (thereC d) (setsC d)):=by have h:=C.o;rw [wt] at h;exact h
            clear C O al hlj hj;obtain ⟨l6,gs,m5⟩:=c9.sortI;have c0:=(aa c9.vt 0).trans rfl;have c1:=(aa c9.tb 1).trans rfl;obtain ⟨ws,rfl⟩:∃ws,ws=wr:=⟨_,rfl⟩;obtain ⟨R6,cq⟩:=Qe ws.heap.size;have oc:=Z gs;have iv:=Z m5;have ex:=Z c9.los.2.2.2.2.2.2.2;have l4:=gs.nodup;have oi:=Z l4;clear gs m5 l4;go_upto_region 27 with (refine nB _ rfl _ _ rfl 52 underlying93 (m+1) _ rfl oc.o ?_;intro w8 hG ja wD;rw [cq] at hG;have pd:=Z hG;have hZ:=Z ja;clear hG ja)
            have pt:Hid (fQ A R6 w8 l6 l6 (thereC d) (setsC d)):=by have h:=iv.o;rw [cq] at h;exact h.far (λk v hv g u=>hZ.o.block g (by rw [cq];exact h.lt k v hv g u))
            have nf:Hid (fS A ws w8):=fS.of hZ.o ex.o;have cd:=Z cq;clear c0 c1 iv cq;go_simp;go_loopg [] (l6.length+1) (λg wr=>∃left:List (RK×Value),left.length<g/\Hid (ct recB wr (m+1) R6 l6 left)/\Hid (fQ A R6 wr l6 left (thereC d) (setsC d))/\Hid (fS A ws wr))
            case atStart=>exact ⟨l6,by omega,pd,pt,nf⟩
            case round=>
             obtain ⟨left,kx,HR,HS,eq⟩:=hrel;rw [<- cd.o] at HR;go_wp2_with (refine qO _ rfl _ rfl (m+1) ws.heap.size l6 left rfl HR.o ?_ ?_)
             · intro t6;subst t6;have cc:=b7.o;have hu:=c9.o;have D:=eq.o;have k4:=hu.cat.blk;have t3:c<A:=by omega
               have b1:=(D.b.block c t3).trans k4;have b2:=(D.b.block w.heap.size (by omega)).trans hu.vc;have b3:=(D.b.block (m+3) (by omega)).trans hu.vt;have c1:Cl wr w.heap.size 0 (fn (X ⟨c,0,Y⟩)):=(aa b2 0).trans rfl;have c2:Cl wr (m+3) 0 (fn (X ⟨m+2,0,Y⟩)):=(aa b3 0).trans rfl;have c3:Cl wr c 3 (fn Y):=(aa b1 3).trans rfl;have f3:=ab b1 3;have wu:w.heap.size≠c:=by omega
               have wy:m+3≠c:=by omega
               have hD:=UN.done c9.o rfl rfl eq.o HR.map HS.o;have HD:=Z hD;have md:ag F w F (wr.setCell ⟨c,3,Y⟩ (fn (X ⟨m+2,0,Y⟩))):=(ag.of_below (a0.o.trans (D.b.mono (by omega)))).trans (ag.of_only (aw.setCell (aw.refl c wr) 3 _) HM.o.fc);have bB:=Z md;clear hD md b1 b2 b3 k4 hu D cc;go_wp2_with fail
               refine bodyPost_ret (results_tmp rfl _ _ _) rfl ⟨m+2,_,M,V,E,rfl,HD.1,HD.2,?_⟩;exact ⟨bB.os,bB.tape,bB.output,bB.size,bB.block,λk D=>D.imp id (λh=>h.1)⟩
             · intro y z pv w9 I ts le t7 gz t4;have mf:left.Sublist l6:=by obtain ⟨es,f,wa,h1,h2,h3,h4,_⟩:=HR.o;exact h4
               have dy:lookL l6 (y,z)=X pv:=(bl oi.o).2 (mf.subset I);have e8:fQ A R6 w9 l6 left (thereC d) (setsC d):=HS.o.far (λk v hv g u=>gz.block g (by have:=HS.o.lt k v hv g u;have:=cd.o;omega));obtain ⟨t,xs,ht,rt,kq,e6,hA⟩:=e8.at dy;have cb:xs.length<=1000000:=by have h1:=hA.length_eq;have h2:=ki (thereC d) (setsC d) t;rw [HL.o,ay.o] at h2;rw [HL.o] at h1;omega
               have n1:=Z (ri A w9 pv xs e6 cb);have pi:=Z e6;have px:=Z e8;have nx:Hid (fS A ws w9):=eq.only gz (mk _) ex.o;have it:Hid (∀g,pv.ownBlock=X g->A<=g/\g<R6):=λg u=>⟨(e6.lt g u).1,e8.lt (y,z) pv dy g u⟩;have f9:=Z le;have f4:Hid (t<(thereC d).length/\keyC (thereC d) t=(y,z)/\xs.Perm (aW (thereC d) (setsC d) t)):=⟨ht,kq,hA⟩;have nO:=Z dy;have ks:recB.kv (y,z)=recK (y,z):=rfl;rw [ks] at t4;clear mf dy e8 e6 le ht rt kq hA I ts gz cb ks;go_wp2_with (go_at_call 80;((with_reducible refine wq n1.o ?_);rintro e y4 ⟨rfl,ld,l5⟩;have p0:=Z ld;have ia:=Z l5;clear ld l5))
               go_roundg (left.length)
               case rel=>
                obtain ⟨o1,o2,o3,o4,o5⟩:=ia.o;have l3:=f9.map.lt;have up:=f9.lt;have cc:=b7.o;rw [<- cd.o];refine ⟨cn left (y,z),t7,f9.o.kept (o5 _ l3 (λe=>by have:=it.o _ e;omega)) (o5 _ up (λe=>by have:=it.o _ e;have:=cd.o;omega)),?_,nx.o.sort pi.o ia.o ex.o⟩;have v0:aq ltRK (thereC d):=by rw [HL.o];exact cl.o
                rw [cd.o];exact px.next v0 nO.o f4.1 f4.2.1 f4.2.2 p0.o o5
               case measure=>omega
 · have HT:Hid (de (restF F c M V E) w1 t (thereC d) (setsC d)):=ht.step (λk hr=>aS.block k (hM.lt k hr.1)) aS.size;have oa:=Z aC;have bB:Hid (ag F w F w1):=ag.of_below aS;clear hM aC ht aS hV d3;go_enter func41,ntmps41;go_upto_region 1 with fail
   rw [fx.o];go_wp2_with fail
   refine bodyPost_ret (results_tmp rfl _ _ _) rfl ⟨t,F,M,V,E,rfl,oa.o,HT.o,bB.o⟩
theorem tC {d:ar} (h:d.Ok) (k:RK):k∈dg d↔∃t,t<(thereC d).length/\(setsC d).getD t 0=t/\keyC (thereC d) t=k:=by
 rw [nG h,List.mem_map];constructor
 · rintro ⟨t,b,a⟩;rw [z5,z9,decide_eq_true_eq] at b;exact ⟨t,b.1,b.2,a⟩
 · rintro ⟨t,h1,c,a⟩;exact ⟨t,by rw [z5,z9,decide_eq_true_eq];exact ⟨h1,c⟩,a⟩
theorem iG {d:ar} (h:d.Ok):(dg d).Pairwise λa b=>ltRK a b=true:=by
 rw [nG h,z4];refine List.Pairwise.imp_of_mem (λ{a b} f c e=>?_) (List.Pairwise.filter _ List.pairwise_lt_range);rw [z5,z9] at c;exact j5 (dh h) e c.1
theorem rB {l:List RK} (h:l.Pairwise λa b=>ltRK a b=true):l.Nodup:=h.imp λ{a b} h e=>by rw [e,aN.irr] at h;cases h
theorem sd {d:ar} (h:d.Ok) {w:Ac} {b:Nat} {l:List (RK×Value)} (a:ak recB w b l) (e:∀k,(lookL l k).isSome=true↔∃t,t<(thereC d).length/\(setsC d).getD t 0=t/\keyC (thereC d) t=k):cw ltRK (l.map (·.1))=dg d:=by
 refine bh aN ((z6 a.nodup (rB (iG h))).2 λk=>?_) (iG h);rw [tC h, <- e,List.mem_map];constructor
 · rintro ⟨p,f,rfl⟩;rw [(bl a.nodup (k:=p.1) (v:=p.2)).2 f];rfl
 · intro c;obtain ⟨v,g⟩:=Option.isSome_iff_exists.1 c;exact ⟨(k,v),(bl a.nodup).1 g,rfl⟩
theorem lG {d:ar} (h:d.Ok):((thereC d).map (·.1)).Pairwise λa b=>ltRK a b=true:=by
 rw [z4];exact dh h
theorem uu {d:ar} (h:d.Ok) {w:Ac} {b:Nat} {l:List (RK×Value)} (e:ak recB w b l) (j:∀k,lookL l k=(atC (thereC d) k).map λi=>recK (keyC (thereC d) ((setsC d).getD i 0))):cw ltRK (l.map (·.1))=(thereC d).map (·.1):=by
 refine bh aN ((z6 e.nodup (rB (lG h))).2 λk=>?_) (lG h);have g:k∈l.map (·.1)↔(lookL l k).isSome=true:=by
  rw [List.mem_map];constructor
  · rintro ⟨p,f,rfl⟩;rw [(bl e.nodup (k:=p.1) (v:=p.2)).2 f];rfl
  · intro c;obtain ⟨v,m⟩:=Option.isSome_iff_exists.1 c;exact ⟨(k,v),(bl e.nodup).1 m,rfl⟩
 rw [g,j,Option.isSome_map,List.mem_map];cases ha:atC (thereC d) k with
 |some i=> obtain ⟨a,c⟩:=at_some ha;exact ⟨λ_=>⟨_,ys a,by rw [<- cF a];exact c⟩,λ_=>rfl⟩
 |none=> refine ⟨λh=>(by cases h),?_⟩;rintro ⟨p,f,c⟩;obtain ⟨i,a,rfl⟩:=List.mem_iff_getElem.1 f;exact absurd (by rw [cF a];exact c) (at_none ha i a)
theorem tD (d:ar):(dg d).length<=(thereC d).length:=by
 unfold dg;rw [k2];refine y5 (zd _ _) ?_;unfold sameC;rw [k2,List.length_range];exact mk _
theorem ik {d:ar}:(thereC d).length<=d.vs.length:=zd _ _
theorem jw (d:ar):(sameC d).length=(thereC d).length:=by unfold sameC;rw [k2,List.length_range]
structure BN (F F':Nat->Prop) (w w':Ac) (c t mo mm:Nat) (d:ar):Prop where
 cat:bf F' w' c d
 step:ag F w F' w'
 tb:Bk w' t #[.map (some mo), .map (some mm)] 95
 of:CH w' mo (thereC d) (setsC d)
 mem:Aj F' w' mm (thereC d) (setsC d)
 lt:∀k,F' k->k<w'.heap.size
 ft:F' t/\F' mo/\F' mm
 ok:bd d
theorem uE (F:Nat->Prop) (w:Ac) (c:Nat) (d:ar) (h:bf F w c d) (C:d.vs.length<=1000):
 Calls prog 41 #[fn (X ⟨c,0,Y⟩)] w λe w'=>∃(t i f:Nat) (a:Nat->Prop),e=g3 (fn (X ⟨t,0,Y⟩))/\BN F a w w' c t i f d:=by
 refine (Bm F w c d h C).mono ?_;rintro e w' ⟨t,a,G,H,I,rfl,b,B,A⟩;obtain ⟨i,f,h1,q,r,s,u,l,x,y,z⟩:=B;refine ⟨t,i,f,a,rfl,⟨_,_,_,_,b⟩,A,h1,u,⟨l,x,y,λt D E=>?_⟩,b.lt,⟨q.1,r.1,s.1⟩,b.ok⟩;obtain ⟨v,k,g,n,j,m,o,p⟩:=z t D E;exact ⟨v,k,g,n,j,m,o.1,p⟩
theorem eM (F:Nat->Prop) (w:Ac) (c:Nat) (d:ar) (h:bf F w c d) (N:d.vs.length<=1000):
 Calls prog 18 #[fn (X ⟨c,0,Y⟩)] w λe w'=>∃(v:Value) (i:Nat->Prop),e=g3 v/\bf i w' c d/\ag F w i w'/\w'.ownsRow w.heap.size 36 2 v (dg d).length ((dg d).flatMap rkCells)/\∀g,v.ownBlock=X g->¬i g:=by
 have E:=Z (uE F w c d h N);clear h;go_enter func18,ntmps18;go_wp2_with (go_at_call 41;((with_reducible refine wq E.o ?_);rintro e w1 ⟨t,R,m,i,rfl,p⟩;have c1:Cl w1 t 1 (hk (X m)):=((aa p.tb 1).trans rfl);have a:=Z p;clear p))
 obtain ⟨l,j,A,_⟩:=a.mem;have B:=a.ok.ok;have r:=sd B j A;have q:(l.map (·.1)).length=(dg d).length:=by rw [<- r,jT]
 have o:Bw w1 (w1.alloc (hb #[hk (X m)] 93)):=(nq _ w1).alloc (mk _) _;have C:=ze 8 (by omega) w1.heap.size (X m) l (w1.alloc (hb #[hk (X m)] 93)) (by rw [zD];rfl) (ak.block j (o.block _ j.lt)) (λb f=>by injection f with f;subst f;have:=j.lt;simp;omega);have M:l.length<=1000:=by have h1:=tD d;have H:=ik (d:=d);rw [k2] at q;omega
 have y:=Z (fv 10 (by omega) 95 #[fn (X ⟨w1.heap.size,0,Y⟩)] (enters_of func95 (by kernel_rfl) rfl) (l.map (·.1)) (by rw [k2];omega) _ _ (λT x O=>by have:=O.1;omega) _ C);rw [r,q] at y;have G:=Z (A8 (X m) w1);have n:=Z o;clear C r q o j A M B
 go_wp2_with (first
  |(go_at_call 51;((with_reducible refine wq G.o ?_);rintro e w2 ⟨rfl,rfl⟩))
  |(go_at_call 47;((with_reducible refine wq y.o ?_);rintro e P ⟨v,rfl,s,z⟩;obtain ⟨V,W,rfl⟩:=aK s;have u:=Z s;have D:=Z z;clear s z)))
 go_ret;have f:Bw w1 P:=n.trans (D.mono n.size);refine ⟨_,i,rfl,a.cat.step (λk L=>f.block k (a.lt k L)) f.size,a.step.trans (ag.of_below f),bz u.o (y5 a.step.size n.size),λg K I=>?_⟩;have h1:=(u.lt g K).1;have H:=a.lt g I;have Q:=n.size;omega
theorem i69:(prog.info? 69).map (λi=>(i.zero,i.size,i.bytes))=X (X (.agg #[J U 0,J U 0,J U 0,J U 0]),4,32):=by kernel_rfl
theorem uN (w:Ac) (x y z u:Value) (t:TypeId):∀j v,[x,y,z,u][j]? =X v->(w.alloc (hb #[x,y,z,u] t)).cell? ((⟨w.heap.size,0,Y⟩:Addr).add j)=X v:=by
 intro j v a;match j,a with
 |0,a=>simp at a;subst a;simp [A1]
 |1,a=>simp at a;subst a;simp [A1]
 |2,a=>simp at a;subst a;simp [A1]
 |3,a=>simp at a;subst a;simp [A1]
theorem pQ {F:Nat->Prop} {w:Ac} {j:Nat} {d:ar} (y:bd d) (h:Aj F w j (thereC d) (setsC d)) (k:RK) (r:rkOk k):∃(a:Option Addr) (c:Nat),eB 0 w.heap.size w (.slice a (membersC d k).length c) (membersC d k)/\
 ∀W,W.heap[j]? =w.heap[j]? ->(zp 93 (hk (X j)) (recK k) false).run prog W= .ok (.slice a (membersC d k).length c) W:=by
 obtain ⟨l,s,p,u⟩:=h;cases hl:lookL l k with
 |some v=>
  obtain ⟨t,i,o,f⟩:=(p k).1 (by rw [hl];rfl);obtain ⟨B,b,g,n,z,rfl,_,q⟩:=u t i o;rw [f,hl] at b;injection b with b
  subst b;have e:=rQ y.ok i;rw [f] at e;rw [e];obtain ⟨a,c,x,A⟩:=id q;injection x with he1 he2 he3
  subst he2;refine ⟨_,_,q,λW m=>?_⟩;have:=ak.look (ak.block s m) underlying93 (eS W) k r;rw [hl] at this;exact this
 |none=>
  have e:membersC d k=[]:=pP λt i o f=>by have:=(p k).2 ⟨t,i,o,f⟩;rw [hl] at this;cases this
  rw [e];refine ⟨Y,0,⟨Y,0,rfl,λh=>absurd rfl h⟩,λW m=>?_⟩;have:=ak.look (ak.block s m) underlying93 (eS W) k r;rw [hl] at this;exact this
theorem rR (d:ar) (k:RK):(membersC d k).length<=(thereC d).length:=by
 unfold membersC;rw [k2];refine y5 (zd _ _) ?_;rw [jw];exact mk _
theorem cr (F:Nat->Prop) (w:Ac) (c:Nat) (d:ar) (h:bf F w c d) (R:d.vs.length<=1000) (k:RK) (B:rkOk k):
 Calls prog 22 #[fn (X ⟨c,0,Y⟩),recK k] w λe w'=>∃(v:Value) (m:Nat->Prop),e=g3 v/\bf m w' c d/\ag F w m w'/\w'.ownsRow w.heap.size 36 2 v (membersC d k).length ((membersC d k).flatMap rkCells)/\∀g,v.ownBlock=X g->¬m g:=by
 have P:∀k,F k->k<w.heap.size:=by obtain ⟨m1,m2,m3,kn,hM⟩:=h;exact hM.lt
 obtain ⟨b,f⟩:=k;obtain ⟨i,p⟩:=Qe (membersC d (b,f));have Q:i.length<=1000:=by rw [<- p];have h1:=rR d (b,f);have h2:=ik (d:=d);omega
 obtain ⟨l,r⟩:=Qe (w.alloc (hb #[J U b,J U f] 36));have z:Bw w l:=by rw [<- r];exact (nq _ w).alloc (mk _) _
 have L:l.heap[w.heap.size]? =X (hb #[J U b,J U f] 36 (0,0)):=by rw [<- r];exact lm w _
 have o:l.drew.heap[w.heap.size]? =X (hb #[J U b,J U f] 36 (0,0)):=L;have O:=uE F l.drew c d (h.below z.drew) R;have a3:=Z O;have a4:=Z P;have a6:=Z p;have a5:=Z Q;have a7:=Z r;have H:=Z z;rw [p];show Calls prog 22 #[fn (X ⟨c,0,Y⟩), .agg #[J U b,J U f]] w _;clear h R P Q r z O p L;go_enter func22,ntmps22;go_upto_region 1 with fail
 rw [a7.o];have a0:Hid (∀W:Ac,Bk W w.heap.size #[J U b,J U f] 36->Cl W w.heap.size 0 (J U b)/\Cl W w.heap.size 1 (J U f)):=λW h=>⟨(aa h 0).trans rfl,(aa h 1).trans rfl⟩;go_wp2_with fail
 refine wT (λW=>Bk W w.heap.size #[J U b,J U f] 36) 999 ?_;refine Qc [0] o ?_
 refine Qd [5] o a0 ?_
 refine Dp 1 λK n=>?_;go_simp;go_at_call 41;with_reducible refine wq a3.o ?_
 rintro e j ⟨t,mo,G,m,rfl,N⟩;have a:=Z N;clear N;have a8:w.heap.size<l.drew.heap.size:=ae o;have x:Bk j w.heap.size #[J U b,J U f] 36:=(a.o.step.block _ a8 (λy=>by have:=a4.o _ y;omega)).trans o;obtain ⟨V,mc,D,C⟩:=pQ a.ok a.mem (b,f) B;rw [a6.o] at D C;have a2:=Z (λ(W:Ac) (M:Bw j W)=>zW (hK V i.length mc) i.length (i.flatMap rkCells) W ((aB.kept D (λq _ hq=>M.block q hq)).mono (mk _) M.size) (pC i) (vu i) (by have:=a5.o;omega));have T:Bw j j:=nq _ j;refine n _ _ (λ_=>x) ?_;clear n K;go_simp;refine eR (λW=>Bw j W) (λW h=>(h.block _ (ae x)).trans x) _ _ _ _ ?_;have a1:Hid (∀W,Bw j W->Cl W t 1 (hk (X G))/\(zp 93 (hk (X G)) (.agg #[J U b,J U f]) false).run prog W= .ok (hK V i.length mc) W):=λW h=>⟨(aa ((h.block _ (ae a.tb)).trans a.tb) 1).trans rfl,C W (h.block _ (a.lt G a.ft.2.2))⟩;clear C D;refine Qd [2,3,4,6] T a1 ?_;refine Dp 7 λK n=>?_;go_simp;go_at_call 52;with_reducible refine wq (a2.o j T) ?_
 rintro e w4 ⟨v,rfl,E,A⟩;obtain ⟨va,vc,rfl⟩:=aK E;have I:=Z E;have u:=Z A;clear E;refine n _ _ (λ_=>A) ?_;clear n K;go_simp;refine Qc [8] A ?_
 refine dN ?_;go_wp2_with fail
 go_ret;refine ⟨_,m,rfl,a.cat.step (λk B=>u.block k (a.lt k B)) u.size,((ag.of_below H.drew).trans a.step).trans (ag.of_below u.o),bz I.o ?_,λg hg y=>?_⟩
 · exact y5 H.size a.step.size
 · have h1:=(I.lt g hg).1;have h2:=a.lt g y;omega
theorem vq (F:Nat->Prop) (w:Ac) (c:Nat) (d:ar) (h:bf F w c d) (hn:d.vs.length<=1000):
 Calls prog 15 #[fn (X ⟨c,0,Y⟩)] w λe w'=>∃(v:Value) (I:Nat->Prop),e=g3 v/\bf I w' c d/\ag F w I w'/\w'.ownsRow w.heap.size 69 4 v (sameC d).length ((sameC d).flatMap pkCells)/\∀g,v.ownBlock=X g->¬I g:=by
 have bB:=Z (uE F w c d h hn);obtain ⟨i0,hi,bs,bt,bw⟩:=info_parts i69;have HI:=Z hi;have bO:=Z bs;have bT:=Z bt;have bY:=Z bw;clear h hi bs bt bw;go_enter func15,ntmps15;go_upto_region 2 with (go_at_call 41;((with_reducible refine wq bB.o ?_);rintro e w1 ⟨t,j,mm,I,rfl,hf⟩;have c1:Cl w1 t 0 (hk (X j)):=((aa hf.tb 0).trans rfl);have m:=Z hf;clear hf))
 obtain ⟨l,B,hl⟩:=m.of;have ax:=m.ok.ok;have au:=uu ax B hl;have ao:(l.map (·.1)).length=((thereC d).map (·.1)).length:=by rw [<- au,jT]
 have a9:Bw w1 (w1.alloc (hb #[hk (X j)] 92)):=(nq _ w1).alloc (mk _) _;have bb:=zf 8 (by omega) w1.heap.size (X j) l (w1.alloc (hb #[hk (X j)] 92)) (by rw [zD];rfl) (ak.block B (a9.block _ B.lt)) (λb z=>by injection z with z;subst z;have:=B.lt;simp;omega);obtain ⟨L,o⟩:=Qe (thereC d);obtain ⟨set,aC⟩:=Qe (setsC d);have c6:L.length<=1000:=by rw [<- o];have:=ik (d:=d);omega
 have cg:l.length<=1000:=by rw [k2,k2,o] at ao;omega
 have a6:=Z (fv 10 (by omega) 89 #[fn (X ⟨w1.heap.size,0,Y⟩)] (enters_of func89 (by kernel_rfl) rfl) (l.map (·.1)) (by rw [k2];omega) _ _ (λcy x hx=>by have:=hx.1;omega) _ bb);rw [au,ao,o,k2] at a6;have HK:=Z (A9 (X j) w1);have aS:=Z a9;rw [o,aC] at hl;have bc:aq ltRK L:=by rw [<- o];exact dh ax
 have c0:Hid (∀k,k<L.length->∀W:Ac,W.heap[j]? =w1.heap[j]? ->(zp 92 (hk (X j)) (recK (keyC L k)) false).run prog W= .ok (recK (keyC L (set.getD k 0))) W):=λk q W V=>by
  have cd:rkOk (keyC L k):=by
   rw [cF q];have ch:L[k]∈thereC d:=by rw [o];exact ys q
   exact m.ok.vkey _ (List.mem_filter.1 ch).1
  have:=ak.look (ak.block B V) underlying92 (oL W) (keyC L k) cd;rw [hl,fu bc q] at this;exact this
 have c3:Hid (∀k,k<L.length->(sameC d).take (k+1)=(sameC d).take k++[(keyC L k,keyC L (set.getD k 0))]):=λk q=>by
  have cc:k<(sameC d).length:=by rw [jw,o];exact q
  rw [z0 cc];congr 2
  unfold sameC;simp [o,aC]
 have b0:Hid ((sameC d).length=L.length):=by unfold Hid;rw [jw,o]
 obtain ⟨n,av⟩:=Qe L.length;have a4:=Z av;rw [av] at a6 c6;have aT:=Z B.lt;clear bb au ao a9 B hl cg ax o aC bc av
 go_upto_region 4 with (first
  |(go_at_call 48;((with_reducible refine wq HK.o ?_);rintro e w2 ⟨rfl,rfl⟩))
  |(go_at_call 47;((with_reducible refine wq a6.o ?_);rintro e u ⟨v,rfl,ay,b4⟩;obtain ⟨va,vc,rfl⟩:=aK ay;have a5:=Z ay;have bA:=Z b4;clear ay b4)))
 have y:Hid (Bw w1 u):=aS.trans (bA.mono aS.size);clear c1;go_loopw [4,16] (λcs i wr=>∃(k:Nat) (r:Option Addr) (s:Nat),k<=n/\i=J U k/\cs=hK r k s/\Hid (wr.ownsRow u.heap.size 69 4 (hK r k s) k (((sameC d).take k).flatMap pkCells))/\Hid (Bw u wr)) (λ_ i _=>n - (intOf i).toNat)
 case atStart=>exact ⟨0,Y,0,zs _,rfl,rfl,AT _ _ _ _,nq _ _⟩
 case round=>
  obtain ⟨k,r,s,q,rfl,rfl,E,M⟩:=hrel;by_cases hlt:k<n
  · have a0:k<L.length:=by rw [a4.o];exact hlt
    obtain ⟨G,cz,c9,_⟩:=y6 a5.o (by omega);cases c9;have ca:=(a5.lt G rfl).2;have ad:∀i,i<2->wr.cell? ⟨G,k * 2+i,Y⟩=(rkCells (keyC L k))[i]? :=λi hi=>by
     have cl:k<(L.map (·.1)).length:=by rw [k2];exact a0
     rw [zT (a:=⟨G,k * 2+i,Y⟩) (M.o.block G ca),a5.o.cellAt (k * 2+i) (by omega),cJ rkCells 2 (λ_=>rfl) _ k cl i hi,zz,cF a0]
    have e0:Cl wr G (k * 2) (J U (keyC L k).1):=(ad 0 (by omega)).trans rfl;have e1:Cl wr G (k * 2+1) (J U (keyC L k).2):=(ad 1 (by omega)).trans rfl;have a3:=Z (c0 k a0);have a7:=Z (c3 k a0);obtain ⟨⟨C,D⟩,b6⟩:∃kk,keyC L k=kk:=⟨_,rfl⟩;obtain ⟨⟨t1,t2⟩,bp⟩:∃tt,keyC L (set.getD k 0)=tt:=⟨_,rfl⟩;rw [b6] at e0 e1 a3 a7;rw [bp] at a3 a7;dsimp only at e0 e1;clear b6 bp ad;obtain ⟨f,a1⟩:=Qe (wr.alloc (hb #[J U C,J U D] 36));have ac:Bw wr f:=by rw [<- a1];exact (nq _ wr).alloc (mk _) _
    have N:f.heap[wr.heap.size]? =X (hb #[J U C,J U D] 36 (0,0)):=by rw [<- a1];exact lm wr _
    obtain ⟨R,a8⟩:=Qe wr.heap.size;rw [a8] at N;have T:Hid (f.ownsRow u.heap.size 69 4 (hK r k s) k (((sameC d).take k).flatMap pkCells)):=ah E.o (λg H=>ac.block g (E.lt g H).2);have Q:Hid (Bw u f):=M.trans (ac.mono M.size);have c4:=Z a1;have c2:=Z a8;have HF:=Z N;clear a1 ac N a8 E M;have bD:Hid (∀W,f.grownBy W (y7 r k s).ownBlock->(Cl W R 0 (J U C)/\Cl W R 1 (J U D))/\Cl W t 0 (hk (X j))/\(zp 92 (hk (X j)) (.agg #[J U C,J U D]) false).run prog W= .ok (.agg #[J U t1,J U t2]) W):=λW V=>by
     have b9:∀g,g<u.heap.size->W.heap[g]? =u.heap[g]? :=λg H=>(V.block g (y8 H Q.o.size) (λe=>by have:=(T.o.lt g e.symm).1;omega)).trans (Q.o.block g H);have c5:=y.size;have b1:W.heap[R]? =_:=(V.block R (ae HF.o) (λe=>by obtain ⟨cu,c7⟩:=aA T.o e.symm;exact df HF.o c7 (by decide) rfl)).trans HF.o
     have cp:=ae m.tb;have b2:=((b9 t (by omega)).trans (y.o.block t cp)).trans m.o.tb;have b3:=(b9 j (y8 aT.o c5)).trans (y.block j aT.o);exact ⟨⟨(aa b1 0).trans rfl,(aa b1 1).trans rfl⟩,(aa b2 0).trans rfl,a3 W b3⟩
    go_upto_region 6 with fail
    rw [c4.o,c2.o];clear e0 e1;go_wp2_with fail
    have al:f.grownBy f.drew (y7 r k s).ownBlock:=⟨rfl,rfl,rfl,mk _,λ_ _ _=>rfl⟩;refine wT (λW=>f.grownBy W (y7 r k s).ownBlock) 999 ?_;refine Qd [0,1,2,6,3,4,5,7] al bD ?_;refine Qc [8] al ?_
    refine Dp 9 λK O=>?_;go_simp;have b5:f.grownBy (f.drew.alloc (hb #[J U C,J U D,J U t1,J U t2] 69)) (y7 r k s).ownBlock:=al.trans ((AC _ _ Y).but _);refine O _ _ (λ_=>b5) ?_;clear O K;refine Dp 10 λK O=>?_;have b7:k<=1000:=by omega
    have cq:=Q.size;obtain ⟨v',w7,cm,b8,cb,_,_⟩:=run_append_own_at (P:=prog) (f.drew.alloc (hb #[J U C,J U D,J U t1,J U t2] 69)) u.heap.size 49 49 69 i0 (.agg #[J U 0,J U 0,J U 0,J U 0]) 4 32 underlying49 HI.o bO.o bT.o bY.o rfl (by decide) (hK r k s) k _ (World.ownsRow.alloc (w:=f.drew) T.o _) ⟨f.drew.heap.size,0,Y⟩ 1 1 [J U C,J U D,J U t1,J U t2] rfl (uN f.drew _ _ _ _ 69) (by simp [Value.oneCell']) (by unfold maxLen;omega) (by omega) (by simp;show u.heap.size<=f.heap.size+1;omega);refine iT rfl rfl rfl cm ?_;obtain ⟨cv,cx,rfl⟩:=aK b8;have A:=b5.trans cb;refine O _ _ (λ_=>A) ?_;clear O K;go_simp;refine Qc [11] A ?_
    refine dN ?_;go_wp2_with fail
    go_roundw
    case rel=> refine ⟨k+1,_,_,hlt,by go_num,rfl,?_,Q.o.trans ⟨A.os,A.tape,A.output,A.size,λp hp=>A.block p (y8 hp cq) (λe=>by have:=(T.o.lt p e.symm).1;omega)⟩⟩;unfold Hid;rw [a7.o,AS];exact b8
    case measure=>simp [intOf];omega
  · have b7:k=n:=by omega
    subst b7;have bk:(sameC d).take k=sameC d:=y9 (by rw [b0.o,a4.o];exact mk _);rw [bk] at E;clear bk hlt q;go_wp2_with fail
    go_ret;have z:Bw w1 wr:=y.trans (M.mono y.size);refine ⟨_,I,rfl,m.cat.step (λk q=>z.block k (m.lt k q)) z.size,m.step.trans (ag.of_below z),?_,λg H N=>?_⟩
    · rw [b0.o,a4.o];exact bz E.o (y5 m.step.size y.size)
    · have h1:=(E.lt g H).1;have h2:=m.lt g N;have h3:=y.size;omega
end
end Go.Proofs.YtjcimanddakkaaaGreatDoor
