/- Lemmas. -/
import Derived.Test.YtjcimanddakkaaaGreatDoorY5
import Derived.Test.YtjcimanddakkaaaGreatDoorY25
set_option maxRecDepth 100000
set_option maxHeartbeats 8000000
namespace Go.Proofs.YtjcimanddakkaaaGreatDoor
open Go.Value renaming pointer→fn,map→hk,int→J,slice→hK,bool→k1
open _root_.Option renaming some→X,none→Y
open Go.Ending renaming returned→g3
open Go.Obj renaming cells→hb
open Go.Lib renaming hid→Z
open Go.IntKind renaming i64→U,u8→ih
open Tryz
open _root_.List renaming length_map→k2,getElem_mem→AT,take_of_length_le→BD,length_filter_le→BE,getElem_map→BG,take_succ_eq_append_getElem→BK,pairwise_map→BL,mem_filter→BN,perm_ext_iff_of_nodup→BO,mem_range→BQ,range→BR,map_map→BS,flatMap_append→BU
open Go.World renaming alloc_heap_new→lm,cell?_alloc_new→BH,cell?_of_block→BJ,grownBy_alloc→BT,ownsRow_nil→BV
open Go.RowKit.Below renaming refl→mk,heap_setCell→wq,heap_alloc→BM
open _root_.Nat renaming le_refl→nq,le_trans→AS,lt_of_lt_of_le→BC,zero_le→BF
open Go.Calls renaming mono→qs
open Go.ChangeMaps renaming setBlock→AC
open Go.Instr renaming lookup→Bo
open Go.World.ownsRow renaming form→Bq
open Go.Value renaming slice→By
open Go renaming World→BI,bodyPost_ret→BP
open Go.Addr renaming add→BW
section
open Go.RowKit Go.Maps Go.Shelf
theorem zD (F:Nat->Prop) (w:BI) (c:Nat) (d:aq) (h:be F w c d) (hn:d.vs.length<=1000):
 Calls prog 41 #[fn (X ⟨c,0,Y⟩)] w λe w'=>∃(t:Nat) (F':Nat->Prop) (M V E:Option Nat),e=g3 (fn (X ⟨t,0,Y⟩))/\dP F' w' c M V E (fn (X ⟨t,0,Y⟩)) d/\c8 (restF F' c M V E) w' t (thereC d) (setsC d)/\ag F w F' w':=by
 obtain ⟨M,V,E,kn,hM⟩:=h;have y9:=hM.lt c hM.fc;obtain ⟨w1,d5⟩:=Qe (w.alloc (hb #[fn (X ⟨c,0,Y⟩)] 24));have aS:Bw w w1:=by rw [<- d5];exact (mk _ w).alloc (nq _) _
 have hV:w1.heap[w.heap.size]? =X (hb #[fn (X ⟨c,0,Y⟩)] 24 (0,0)):=by rw [<- d5];exact lm w _
 have aC:=hM.below aS;have c3:Cl w1 c 3 kn:=(aa aC.blk 3).trans rfl;have cv:Cl w1 w.heap.size 0 (fn (X ⟨c,0,Y⟩)):=(aa hV 0).trans rfl;have g2:=Z d5;rcases hM.kn with rfl|⟨t,rfl,ht⟩
 · have HM:=Z hM;have eq:=Z aS;have HV:=Z hV;clear hM aC hV aS d5;go_enter func41,ntmps41;go_upto_region 1 with fail
   rw [g2.o];go_upto_region 5 with fail
   have vb:= @run_makeMap prog;obtain ⟨m,bk⟩:=Qe w1.heap.size;obtain ⟨N,bv⟩:=Qe ((((w1.alloc (.map #[] 0)).alloc (.map #[] 0)).alloc (hb #[hk (X m),hk (X (m+1))] 95)).alloc (hb #[fn (X ⟨m+2,0,Y⟩)] 96));have e4:Bw w1 N:=by rw [<- bv];exact ((((mk _ w1).alloc (nq _) _).alloc (by simp) _).alloc (by simp;omega) _).alloc (by simp;omega) _
   have z1:(w1.alloc (.map #[] 0)).heap.size=m+1:=by rw [<- bk];simp
   have z2:((w1.alloc (.map #[] 0)).alloc (.map #[] 0)).heap.size=m+2:=by rw [<- bk];simp
   have z3:(((w1.alloc (.map #[] 0)).alloc (.map #[] 0)).alloc (hb #[hk (X m),hk (X (m+1))] 95)).heap.size=m+3:=by rw [<- bk];simp
   have lf:m=w.heap.size+1:=by rw [<- bk, <- g2.o];simp
   have f8:=Z lf;have k0:ak recB N m []:=by rw [<- bv, <- bk];exact (((ak.made w1).alloc _).alloc _).alloc _
   have jb:ak recB N (m+1) []:=by rw [<- bv, <- z1];exact ((ak.made (w1.alloc (.map #[] 0))).alloc _).alloc _
   have k6:N.heap[m+2]? =X (hb #[hk (X m),hk (X (m+1))] 95 (0,0)):=by rw [<- bv,BM _ _ _ (by rw [z3];omega), <- z2];exact lm _ _
   have k8:N.heap[m+3]? =X (hb #[fn (X ⟨m+2,0,Y⟩)] 96 (0,0)):=by rw [<- bv, <- z3];exact lm _ _
   have b4:=(HM.below eq.o).below e4;have gf:=(e4.block _ (ae HV.o)).trans HV.o;have qy:=Z bv;have p5:=Z bk;have HZ:=Z (⟨z1,z2,z3⟩:_/\_/\_);have d6:N.heap.size=m+4:=by rw [<- bv, <- bk];simp
   have dx:=Z (wy F N c M V E (fn Y) d b4);have cv2:Cl N w.heap.size 0 (fn (X ⟨c,0,Y⟩)):=(aa gf 0).trans rfl;have iQ:=Z k0;have iP:=Z jb;have qn:=Z k6;have qx:=Z k8;have p3:=Z b4;have j4:=Z gf;have cd:=Z d6;have ib:Hid (Bw w N):=eq.trans (e4.mono eq.size);clear lf bk bv e4 z1 z2 z3 k0 jb k6 k8 b4 gf cv c3 d6;go_upto_region 6 with fail
   rw [p5.o,show m+1+1=m+2 from rfl,show m+2+1=m+3 from rfl,qy.o];obtain ⟨L,hL⟩:=Qe (thereC d);rw [hL] at dx;have HL:=Z hL;clear hL vb;obtain ⟨ps,q1,q2,q3⟩:=HM.vs;have py:=Z q1;have pz:=Z q2;have j0:=Z q3;obtain ⟨H,dz⟩:=Qe (restL d ps);have fr:Hid (H.map (λp=>(p.1,p.2.1))=L):=by unfold Hid;rw [<- dz, <- HL.o];exact sg q1
   have pe:Hid (∀p∈H,findK ps p.1=X p.2):=λp I=>uN HM.ok.ok q1 (dz ▸ I);have fp:Hid (∀p∈H,p∈ps):=λp I=>(List.mem_filter.1 (dz ▸ I:p∈restL d ps)).1;have lv:H.length=L.length:=by rw [<- fr.o,k2]
   have fl:=Z lv;have e7:L.length<=1000:=by rw [<- HL.o];exact AS (BE _ _) hn
   have cp:Hid (aw ltRK L):=by unfold Hid;rw [<- HL.o];exact cJ HM.o.ok.ok
   have dc:Hid (∀j,j<L.length->rkOk (keyC L j)):=λj hj=>by
    have hm:L[j]∈thereC d:=by rw [HL.o];exact AT hj
    rw [bQ hj];exact HM.ok.vkey _ (List.mem_filter.1 hm).1
   clear q1 q2 q3 dz lv hn;obtain ⟨n,h7⟩:=Qe L.length;have ay:=Z h7;rw [k2] at dx;rw [h7] at dx e7;clear h7;go_upto_region 9 with (go_at_call 77;refine qs dx.o ?_;rintro e w3 ⟨v3,rfl,hO,k9⟩;obtain ⟨a3,k3,rfl⟩:=aM hO;have dr:=Z hO;have c9:=Z k9;clear hO k9)
   obtain ⟨A,gO⟩:=Qe w3.heap.size;have f6:=Z gO;have nx:Hid (Bw w w3):=ib.trans (c9.mono ib.size);have qq:Hid (UN w.heap.size A F w3 (m+3) w.heap.size (m+2) m (m+1) c M V E (fn Y) d (L.take 0) (BR 0)):=by have lk:=f8.o;have d6:=cd.o;have z6:=c9.size;have Q:∀q,q<N.heap.size->w3.heap[q]? =N.heap[q]? :=c9.block;refine ⟨(Q _ (by omega)).trans qx.o,(Q _ (ae j4.o)).trans j4.o,(Q _ (by omega)).trans qn.o,⟨[],iQ.o.block (Q _ iQ.o.lt),λk=>rfl⟩,⟨[],iP.o.block (Q _ iP.o.lt),λk=>⟨λh=>(by cases h),?_⟩,λt ht=>absurd ht (by simp),λ_ _ _ _ h=>(by cases h)⟩,p3.o.below c9.o,by omega,⟨by omega,by omega,by omega,by omega,by omega,by omega,by omega,by omega⟩,λk D=>HM.o.lt k D,dK.range 0,gr cp.o 0,λj hj=>absurd hj (by simp),by simp⟩;rintro ⟨t,ht,_⟩;exact absurd ht (by simp)
   have b7:Hid (N.heap.size<=A/\w.heap.size+5<=A/\m=w.heap.size+1):=⟨by rw [<- gO];exact c9.o.size,by have:=cd.o;have:=c9.o.size;have:=f8.o;omega,f8.o⟩;clear gO;go_loopw [5,36] (λv i wr=>∃q:Nat,q<=n/\i=J U q/\Hid (UN w.heap.size A F wr (m+3) w.heap.size (m+2) m (m+1) c M V E (fn Y) d (L.take q) (BR q))/\Hid (wr.ownsRow A 62 3 v q ((recX (H.take q)).flatMap rdCells))/\Hid (wr.ownsRow N.heap.size 36 2 (hK a3 n k3) n ((L.map (·.1)).flatMap rkCells))/\Hid (Bw w wr)) (λ_ i _=>n - (intOf i).toNat)
   case atStart=>exact ⟨0,BF _,rfl,qq.o,BV _ _ _ _,dr.o,nx.o⟩
   case round=>
    obtain ⟨q,hq,rfl,C,a9,O,a0⟩:=hrel;by_cases hlt:q<n
    · have bt:q<L.length:=by rw [ay.o];exact hlt
      obtain ⟨B,xk,c4,_⟩:=Bq O.o (by omega);cases c4;have a8:∀j,j<2->wr.cell? ⟨B,q * 2+j,Y⟩=(rkCells (keyC L q))[j]? :=λj hj=>by
       have e8:q<(L.map (·.1)).length:=by rw [k2];exact bt
       rw [O.o.cellAt (q * 2+j) (by omega),cC rkCells 2 (λ_=>rfl) _ q e8 j hj,BG,bQ bt]
      have e0:Cl wr B (q * 2) (J U (keyC L q).1):=(a8 0 (by omega)).trans rfl;have e1:Cl wr B (q * 2+1) (J U (keyC L q).2):=(a8 1 (by omega)).trans rfl;have D:=dc q bt;have op:=Z (rfl:keyC L q=keyC L q);obtain ⟨⟨y,z⟩,gz⟩:∃k,keyC L q=k:=⟨_,rfl⟩;have dd:=Z gz;rw [gz] at e0 e1 D;dsimp only at e0 e1;have pd:=Z D;clear a8 gz op;obtain ⟨o,ac⟩:=Qe (wr.alloc (hb #[J U y,J U z] 36));have a4:Bw wr o:=by rw [<- ac];exact (mk _ wr).alloc (nq _) _
      have hF:o.heap[wr.heap.size]? =X (hb #[J U y,J U z] 36 (0,0)):=by rw [<- ac];exact lm wr _
      obtain ⟨R,av⟩:=Qe wr.heap.size;rw [av] at hF;have au:=Z (C.below a4);have fy:Hid (o.ownsRow A 62 3 u5 q ((recX (H.take q)).flatMap rdCells)):=ah a9.o (λg u=>a4.block g (a9.lt g u).2);have b6:Hid (o.ownsRow N.heap.size 36 2 (hK (X ⟨B,0,Y⟩) n k3) n ((L.map (·.1)).flatMap rkCells)):=ah O.o (λg u=>a4.block g (O.lt g u).2);have bw:Hid (Bw w o):=a0.trans (a4.mono a0.size);have f4:Hid (B<A):=by have h3:=dr.lt B rfl;rw [f6.o] at h3;exact h3.2
      have cx:=Z ac;have cb:=Z av;have HF:=Z hF;have cm:Hid (A<=R/\o.heap.size=R+1):=⟨by rw [<- av];exact C.o.los.2.2.2.2.2.2.2,by rw [<- ac, <- av];simp⟩;clear ac av a4 hF C a9 O a0;go_upto_region 11 with fail
      rw [cx.o,cb.o];clear e0 e1;obtain ⟨ao,ko,rfl⟩:=aM fy.o;go_cut [5] (λv wx=>v=hK ao q ko/\Hid (UN w.heap.size A F wx (m+3) w.heap.size (m+2) m (m+1) c M V E (fn Y) d (L.take (q+1)) (BR (q+1)))/\Hid (wx.ownsRow A 62 3 (hK ao q ko) q ((recX (H.take q)).flatMap rdCells))/\Hid (wx.ownsRow N.heap.size 36 2 (hK (X ⟨B,0,Y⟩) n k3) n ((L.map (·.1)).flatMap rkCells))/\Hid (Bw w wx)/\Hid (Bk wx R #[J U y,J U z] 36))
      case first=>
       obtain ⟨l1,aC,E1⟩:=au.of;obtain ⟨l2,b4,M2,M3,M4⟩:=au.mem;have vy:=gB (L:=L) (i:=q) (by omega);have iF:Hid (l1.length<maxLen):=by have:=oD (L:=L.take q) aC (λk D=>by rw [E1] at D;simpa using D);unfold Hid maxLen;omega
       have dk:Hid (l2.length<maxLen):=by
        have:=oD (L:=L.take q) b4 (λk D=>by obtain ⟨t,ht,_,e5⟩:=(M2 k).1 D;rw [<- e5,eU (gr cp.o q) ht];rfl)
        unfold Hid maxLen;omega
       have ad:Hid (m+1≠m/\m≠m+1):=⟨by omega,by omega⟩;have aT:Hid (R+1≠m/\R+1≠m+1):=⟨by have:=cm.o.1;have:=b7.o;omega,by have:=cm.o.1;have:=b7.o;omega⟩;have oN:Hid (∀W,ag (λq=>q=m∨q=m+1) o (λq=>q=m∨q=m+1) W->Cl W (m+3) 0 (fn (X ⟨m+2,0,Y⟩))/\(Cl W (m+2) 0 (hk (X m))/\Cl W (m+2) 1 (hk (X (m+1))))/\Cl W R 0 (J U y)/\Cl W R 1 (J U z)):=λW hW=>by have hz:=cm.o;have cg:=b7.o;have b1:=(hW.block (m+3) (ae au.o.vt) (by omega)).trans au.o.vt;have b2:=(hW.block (m+2) (ae au.o.tb) (by omega)).trans au.o.tb;have b3:=(hW.block R (by omega) (by omega)).trans HF.o;exact ⟨(aa b1 0).trans rfl,⟨(aa b2 0).trans rfl,(aa b2 1).trans rfl⟩,(aa b3 0).trans rfl,(aa b3 1).trans rfl⟩
       have da:Hid (∀W,ag (λq=>q=m∨q=m+1) o (λq=>q=m∨q=m+1) W->ak recB W m (putL l1 (y,z) (.agg #[J U y,J U z]))->ak recB W (m+1) (putL l2 (y,z) (hK (X ⟨R+1,0,Y⟩) 1 1))->Bk W (R+1) #[J U y,J U z] 36->
        Hid (UN w.heap.size A F W (m+3) w.heap.size (m+2) m (m+1) c M V E (fn Y) d (L.take (q+1)) (BR (q+1)))/\Hid (W.ownsRow A 62 3 (hK ao q ko) q ((recX (H.take q)).flatMap rdCells))/\Hid (W.ownsRow N.heap.size 36 2 (hK (X ⟨B,0,Y⟩) n k3) n ((L.map (·.1)).flatMap rkCells))/\Hid (Bw w W)/\Hid (Bk W R #[J U y,J U z] 36)):=λW hW h1 h2 h3=>by
        have hz:=cm.o
        have cg:=b7.o
        have gs:=f4.o
        have Q:∀p,p<o.heap.size->p≠m->p≠m+1->W.heap[p]? =o.heap[p]? :=λp I p1 p2=>hW.block p I (by omega)
        refine ⟨UN.grow au.o cp.o bt (by rw [ay.o];omega) dc.o E1 (by rw [dd.o];exact h1) M2 M3 M4 (nb:=R+1) (by rw [dd.o];exact h2) (by rw [dd.o];exact h3) (by omega) Q hW.size,ah fy.o (λg u=>?_),ah b6.o (λg u=>?_),?_,(Q R (by omega) (by omega) (by omega)).trans HF.o⟩
        · have hl:=fy.lt g u
          exact Q g hl.2 (by omega) (by omega)
        · have hl:=b6.lt g u
          exact Q g hl.2 (by have:=cd.o;omega) (by have:=cd.o;omega)
        · exact bw.o.trans (hW.below (λk D=>by omega) bw.o.size).1
       clear E1 M2 M3 M4 vy;go_wp2_with fail
       have hR:ag (λq=>q=m∨q=m+1) o (λq=>q=m∨q=m+1) o.drew:=ag.of_below (mk _ o).drew;have aC:=ak.drew aC;have b4:=ak.drew b4;have i6:o.drew.heap.size=R+1:=cm.2;refine wT (λW=>ag (λq=>q=m∨q=m+1) o (λq=>q=m∨q=m+1) W) 999 ?_;generalize o.drew=W0 at *;refine Qd [0,4,5,9,10,11,1,6,2,7,3,8] hR oN ?_;refine bS (i:=12) (j:=13) rfl rfl (by kernel_rfl) rfl rfl (λK s=>?_) (λK s=>?_)
       · skip;go_simp;try rw [i6]
         have g6:Bw W0 (W0.alloc (hb #[J U y,J U z] 36)):=(mk _ W0).alloc (nq _) _;have t2:(W0.alloc (hb #[J U y,J U z] 36)).heap[R+1]? =X (hb #[J U y,J U z] 36 (0,0)):=by rw [<- i6];exact lm W0 _
         have me:=hR.trans (ag.of_below g6);have sb:=aC.block (g6.block m (aC.lt));have sl:=b4.block (g6.block (m+1) (b4.lt));generalize W0.alloc (hb #[J U y,J U z] 36)=Wx1 at *;refine s _ _ (λ_=>me) ?_;clear s K;go_simp;refine Dp 13 λK s=>?_;obtain ⟨Ac,ry,r1,lT,te,hd,x5⟩:=ak.entry sb gC underlying92 kJ (y,z) D iF.o;refine bo rfl lT ?_;have hX:=me.trans (ag.of_only hd (.inl rfl));have s5:=sl.block (hd.block (m+1) (ad.1));have t0:=(hd.block (R+1) (aT.1)).trans t2;generalize AC Wx1 m (.map ry r1)=Wx7 at *;clear lT;refine s _ _ (λ_=>hX) ?_;clear s K;go_simp;refine Qc [14] hX ?_
         refine Dp 15 λK s=>?_;obtain ⟨qz,wa,v2,hA⟩:=x5 Wx7 (.agg #[J U y,J U z]) te;refine aW rfl wa ?_;have md:=hX.trans (ag.of_only hA (.inl rfl));have s6:=s5.block (hA.block (m+1) (ad.1));have t1:=(hA.block (R+1) (aT.1)).trans t0;refine s _ _ (λ_=>md) ?_;clear s K;go_simp;refine Dp 16 λK s=>?_;obtain ⟨zB,rr,r9,m4,th,he,x6⟩:=ak.entry s6 gC underlying93 eD (y,z) D dk.o;refine bo rfl m4 ?_;have hY:=md.trans (ag.of_only he (.inr rfl));have s8:=v2.block (he.block m (ad.2));have t3:=(he.block (R+1) (aT.2)).trans t1;generalize AC qz (m+1) (.map rr r9)=Wx25 at *;clear m4;refine s _ _ (λ_=>hY) ?_;clear s K;go_simp;refine Qc [17] hY ?_
         refine Dp 18 λK s=>?_;obtain ⟨y3,wf,v4,hB⟩:=x6 Wx25 (hK (X ⟨R+1,0,Y⟩) 1 1) th;refine aW rfl wf ?_;have mf:=hY.trans (ag.of_only hB (.inr rfl));have sa:=s8.block (hB.block m (ad.2));have t4:=(hB.block (R+1) (aT.2)).trans t3;refine s _ _ (λ_=>mf) ?_;clear s K;go_simp;refine dN ?_;go_wp2_with fail
         go_meet;exact ⟨rfl,da _ mf sa v4 t4⟩
       · skip;obtain ⟨A1,rs,ra,m5,gi,hh,n1⟩:=ak.entry aC gC underlying92 kJ (y,z) D iF.o;refine bo rfl m5 ?_;have ej:=hR.trans (ag.of_only hh (.inl rfl));have i8:=hh.size.trans i6;have gb:=b4.block (hh.block (m+1) (ad.1));generalize AC W0 m (.map rs ra)=Wx43 at *;clear m5;refine s _ _ (λ_=>ej) ?_;clear s K;go_simp;refine Qc [14] ej ?_
         refine bS (i:=12) (j:=15) rfl rfl (by kernel_rfl) rfl rfl (λK s=>?_) (λK s=>?_)
         · skip;go_simp;try rw [i8]
           have g8:Bw Wx43 (Wx43.alloc (hb #[J U y,J U z] 36)):=(mk _ Wx43).alloc (nq _) _;have t5:(Wx43.alloc (hb #[J U y,J U z] 36)).heap[R+1]? =X (hb #[J U y,J U z] 36 (0,0)):=by rw [<- i8];exact lm Wx43 _
           have ml:=ej.trans (ag.of_below g8);have s0:=(g8.block m (ae gi)).trans gi;have se:=gb.block (g8.block (m+1) (gb.lt));generalize Wx43.alloc (hb #[J U y,J U z] 36)=Wx54 at *;refine s _ _ (λ_=>ml) ?_;clear s K;go_simp;refine Dp 15 λK s=>?_;obtain ⟨r0,wp,v9,hC⟩:=n1 Wx54 (.agg #[J U y,J U z]) s0;refine aW rfl wp ?_;have mp:=ml.trans (ag.of_only hC (.inl rfl));have sm:=se.block (hC.block (m+1) (ad.1));have t6:=(hC.block (R+1) (aT.1)).trans t5;refine s _ _ (λ_=>mp) ?_;clear s K;go_simp;refine Dp 16 λK s=>?_;obtain ⟨A2,rx,rb,m6,tl,ho,x7⟩:=ak.entry sm gC underlying93 eD (y,z) D dk.o;refine bo rfl m6 ?_;have hZ:=mp.trans (ag.of_only ho (.inr rfl));have sp:=v9.block (ho.block m (ad.2));have t7:=(ho.block (R+1) (aT.2)).trans t6;generalize AC r0 (m+1) (.map rx rb)=Wx67 at *;clear m6;refine s _ _ (λ_=>hZ) ?_;clear s K;go_simp;refine Qc [17] hZ ?_
           refine Dp 18 λK s=>?_;obtain ⟨y4,wu,va,hG⟩:=x7 Wx67 (hK (X ⟨R+1,0,Y⟩) 1 1) tl;refine aW rfl wu ?_;have ms:=hZ.trans (ag.of_only hG (.inr rfl));have ss:=sp.block (hG.block m (ad.2));have t8:=(hG.block (R+1) (aT.2)).trans t7;refine s _ _ (λ_=>ms) ?_;clear s K;go_simp;refine dN ?_;go_wp2_with fail
           go_meet;exact ⟨rfl,da _ ms ss va t8⟩
         · skip;obtain ⟨bO,wz,gQ,hH⟩:=n1 Wx43 (.agg #[J U y,J U z]) gi;refine aW rfl wz ?_;have i0:=ej.trans (ag.of_only hH (.inl rfl));have ia:=hH.size.trans i8;have gd:=gb.block (hH.block (m+1) (ad.1));refine s _ _ (λ_=>i0) ?_;clear s K;go_simp;refine bS (i:=12) (j:=16) rfl rfl (by kernel_rfl) rfl rfl (λK s=>?_) (λK s=>?_)
           · skip;go_simp;try rw [ia]
             have g9:Bw bO (bO.alloc (hb #[J U y,J U z] 36)):=(mk _ bO).alloc (nq _) _;have t9:(bO.alloc (hb #[J U y,J U z] 36)).heap[R+1]? =X (hb #[J U y,J U z] 36 (0,0)):=by rw [<- ia];exact lm bO _
             have mt:=i0.trans (ag.of_below g9);have st:=gQ.block (g9.block m (gQ.lt));have su:=gd.block (g9.block (m+1) (gd.lt));generalize bO.alloc (hb #[J U y,J U z] 36)=Wx92 at *;refine s _ _ (λ_=>mt) ?_;clear s K;go_simp;refine Dp 16 λK s=>?_;obtain ⟨As,rc,r2,lQ,td,h9,x3⟩:=ak.entry su gC underlying93 eD (y,z) D dk.o;refine bo rfl lQ ?_;have hS:=mt.trans (ag.of_only h9 (.inr rfl));have s1:=st.block (h9.block m (ad.2));have sx:=(h9.block (R+1) (aT.2)).trans t9;generalize AC Wx92 (m+1) (.map rc r2)=Wx98 at *;clear lQ;refine s _ _ (λ_=>hS) ?_;clear s K;go_simp;refine Qc [17] hS ?_
             refine Dp 18 λK s=>?_;obtain ⟨xv,vN,v0,hw⟩:=x3 Wx98 (hK (X ⟨R+1,0,Y⟩) 1 1) td;refine aW rfl vN ?_;have ma:=hS.trans (ag.of_only hw (.inr rfl));have s2:=s1.block (hw.block m (ad.2));have sz:=(hw.block (R+1) (aT.2)).trans sx;refine s _ _ (λ_=>ma) ?_;clear s K;go_simp;refine dN ?_;go_wp2_with fail
             go_meet;exact ⟨rfl,da _ ma s2 v0 sz⟩
           · skip;obtain ⟨zA,rg,r4,m0,kk,hc,x4⟩:=ak.entry gd gC underlying93 eD (y,z) D dk.o;refine bo rfl m0 ?_;have hT:=i0.trans (ag.of_only hc (.inr rfl));have ne:=hc.size.trans ia;have ja:=gQ.block (hc.block m (ad.2));generalize AC bO (m+1) (.map rg r4)=Wx116 at *;clear m0;refine s _ _ (λ_=>hT) ?_;clear s K;go_simp;refine Qc [17] hT ?_
             refine Dp 12 λK s=>?_;go_simp;try rw [ne]
             have g4:Bw Wx116 (Wx116.alloc (hb #[J U y,J U z] 36)):=(mk _ Wx116).alloc (nq _) _;have sC:(Wx116.alloc (hb #[J U y,J U z] 36)).heap[R+1]? =X (hb #[J U y,J U z] 36 (0,0)):=by rw [<- ne];exact lm Wx116 _
             have mb:=hT.trans (ag.of_below g4);have s3:=ja.block (g4.block m (ja.lt));have rW:=(g4.block (m+1) (ae kk)).trans kk;generalize Wx116.alloc (hb #[J U y,J U z] 36)=Wx127 at *;refine s _ _ (λ_=>mb) ?_;clear s K;go_simp;refine Dp 18 λK s=>?_;obtain ⟨y2,w0,v1,hy⟩:=x4 Wx127 (hK (X ⟨R+1,0,Y⟩) 1 1) rW;refine aW rfl w0 ?_;have mc:=mb.trans (ag.of_only hy (.inr rfl));have s4:=s3.block (hy.block m (ad.2));have sM:=(hy.block (R+1) (aT.2)).trans sC;refine s _ _ (λ_=>mc) ?_;clear s K;go_simp;refine dN ?_;go_wp2_with fail
             go_meet;exact ⟨rfl,da _ mc s4 v1 sM⟩
      case rest=>
       obtain ⟨rfl,dy,cl,iD,d8,iv⟩:=hcut;have e9:q<H.length:=by rw [fl.o];exact bt
       have fz:Hid (H.take (q+1)=H.take q++[H[q]]):=BK e9;have bs:H[q].1=(y,z):=by
        rw [<- dd.o,bQ bt];have h2:=fr.o;have:L[q]=(H[q].1,H[q].2.1):=by
         have:=BG (l:=H) (f:=λp:RK×VX=>(p.1,p.2.1)) (i:=q) (h:=by rw [k2];exact e9);rw [<- this];congr 1
         exact h2.symm
        rw [this]
       have cQ:=pe _ (AT e9);have gx:=fp _ (AT e9);obtain ⟨p,I⟩:=Qe (H[q]);rw [I] at fz bs cQ gx;obtain ⟨pk,⟨d7,r⟩,x⟩:=p;dsimp only at bs;subst bs;obtain ⟨_,_,kt,_,_⟩:=j0 _ gx;obtain ⟨xa,xc,b8⟩:=kt.shape;dsimp only at b8 cQ;subst b8;clear kt I gx;obtain ⟨rk,rl,fs⟩:=r;dsimp only at cQ fz;have qb:Hid ((recX (H.take (q+1))).flatMap rdCells=(recX (H.take q)).flatMap rdCells++[J ih rk.toNat,J ih rl.toNat,hK xa fs.length xc]):=by unfold Hid recX;rw [fz.o,List.map_append,BU];rfl
       have xb:=dy.los;have y7:R<wc.heap.size:=ae iv.o;have n5:∀{g:Nat},(By ao q ko).ownBlock=X g->∃cu,Bk wc g cu 62:=λ{g} u=>aD cl.o u;have nF:Hid (∀W,wc.grownBy W (By ao q ko).ownBlock->Cl W w.heap.size 0 (fn (X ⟨c,0,Y⟩))/\Cl W c 0 (.map M)/\(Cl W R 0 (J U y)/\Cl W R 1 (J U z))/\(Bo 113 (.map M) (.agg #[J U y,J U z]) false).run prog W= .ok (.agg #[J U y,J U z,J U d7,J ih rk.toNat,J ih rl.toNat,hK xa fs.length xc]) W):=λW hW=>by
        have D:∀{g:Nat} {cs:Array Value} {ty:TypeId},wc.heap[g]? =X (hb cs ty (0,0))->ty≠62->W.heap[g]? =X (hb cs ty (0,0)):=λ{g cs ty} u vd=>(hW.block g (ae u) (λe=>by obtain ⟨cu,ax⟩:=n5 e.symm;exact db u ax vd rfl)).trans u
        have b1:=D dy.vc (by decide);have b2:=D dy.cat.blk (by decide);have b3:=D iv.o (by decide);refine ⟨(aa b1 0).trans rfl,(aa b2 0).trans rfl,⟨(aa b3 0).trans rfl,(aa b3 1).trans rfl⟩,?_⟩;have up:cj recB W M (ps.map λp=>(p.1,iL p.1 p.2)):=by refine pz.block (λb Q=>?_);have tr:=HM.f1 b Q;have kq:=HM.lt b tr;have h1:=d8.block b kq;refine (hW.block b (BC kq d8.size) (λe=>?_)).trans h1;have:=(cl.lt b e.symm).1;omega
        have:=cj.look (w:=W) up underlying113 kI (y,z) pd.o;rw [fJ,cQ] at this;exact this
       have gn:=λW=>vu y z d7 rk.toNat rl.toNat xa fs.length xc W;obtain ⟨iN,ky,n7,n8,n9⟩:=info_parts i62;have HI:=Z ky;have nO:=Z n7;have oa:=Z n8;have ob:=Z n9;clear cQ n5 ky n7 n8 n9;go_wp2_with fail
       have gq:wc.grownBy wc.drew (By ao q ko).ownBlock:=⟨rfl,rfl,rfl,nq _,λ_ _ _=>rfl⟩;refine wT (λW=>wc.grownBy W (By ao q ko).ownBlock) 999 ?_;refine Qd [0,1,5,2,3,4,6] gq nF ?_;refine Qd [7] gq (λw' h=>gn w') ?_
       refine Dp 8 λK s=>?_;go_simp;have kx:wc.grownBy (wc.drew.alloc (hb #[J ih rk.toNat,J ih rl.toNat,hK xa fs.length xc] 62)) (By ao q ko).ownBlock:=gq.trans ((BT _ _ Y).but _);refine s _ _ (λ_=>kx) ?_;clear s K;refine Dp 9 λK s=>?_;obtain ⟨v',w7,d3,ls,tx,_,_⟩:=run_append_own_at (P:=prog) (wc.drew.alloc (hb #[J ih rk.toNat,J ih rl.toNat,hK xa fs.length xc] 62)) A 59 59 62 iN (.agg #[J ih 0,J ih 0,hK Y 0 0]) 3 32 underlying59 HI.o nO.o oa.o ob.o rfl (by decide) (hK ao q ko) q _ (World.ownsRow.alloc (w:=wc.drew) cl.o _) ⟨wc.drew.heap.size,0,Y⟩ 1 1 [J ih rk.toNat,J ih rl.toNat,hK xa fs.length xc] rfl (lS wc.drew _ _ _ 62) (by simp [Value.oneCell']) (by unfold maxLen;omega) (by omega) (by have:=xb.2.2.2.2.2.2.2;simp;show A<=wc.heap.size+1;omega);refine ik rfl rfl rfl d3 ?_;obtain ⟨y5,zp,rfl⟩:=aM ls;have bc:=kx.trans tx;refine s _ _ (λ_=>bc) ?_;clear s K;go_simp;refine Qc [10] bc ?_
       refine dN ?_;go_wp2_with fail
       have gt:∀p,p<wc.heap.size->(p<A∨∀c,wc.heap[p]? ≠X (Obj.cells c 62 (0,0)))->w7.heap[p]? =wc.heap[p]? :=λp I h=>bc.block p I (λe=>by
        rcases h with h|h
        · have:=(cl.lt p e.symm).1;omega
        · obtain ⟨cu,ax⟩:=aD cl.o e.symm;exact h cu ax)
       go_roundw
       case rel=>
        refine ⟨q+1,hlt,by go_num,dy.o.keep (by decide) (by decide) (by decide) (by decide) gt bc.size,?_,ah iD.o (λg u=>?_),d8.o.trans ⟨bc.os,bc.tape,bc.output,bc.size,λp I=>gt p (BC I d8.o.size) (.inl (by have:=b7.o;omega))⟩⟩
        · unfold Hid;rw [qb.o];exact ls
        · obtain ⟨cu,ax⟩:=aD iD.o u;exact gt g (ae ax) (.inr λc e=>by rw [ax] at e;injection e with e;injection e with _ e;exact absurd e (by decide))
       case measure=>simp [intOf];omega
    · obtain rfl:q=n:=by omega
      have n3:L.take q=L:=BD (by rw [ay.o];omega);have n4:H.take q=H:=BD (by rw [fl.o,ay.o];omega);rw [n3] at C;rw [n4] at a9;clear n3 n4 hlt hq;obtain ⟨T,d2⟩:=Qe (d.ps.map (·.1));have e8:T.length<=5000:=by rw [<- d2,k2];exact HM.o.ok.plen
      have aS:Bw wr (wr.alloc (hb #[.map E] 115)):=(mk _ wr).alloc (nq _) _;have i4:=uY 8 (by omega) wr.heap.size E (d.ps.map λp=>(p.1,ga p.2)) (wr.alloc (hb #[.map E] 115)) (by rw [BH];rfl) (C.o.cat.ps.block (λb Q=>aS.block b (C.o.cat.lt b (C.o.cat.f3 b Q)))) (λb Q=>by have:=C.o.cat.lt b (C.o.cat.f3 b Q);simp;omega);have le:(d.ps.map λp=>(p.1,ga p.2)).map (·.1)=T:=by rw [BS, <- d2];rfl
      rw [le] at i4;have j3:=Z (uB 10 (by omega) 121 #[fn (X ⟨wr.heap.size,0,Y⟩)] (enters_of func121 (by kernel_rfl) rfl) T (by omega) _ _ (λzz x hx=>by have:=hx.1;rw [k2] at this;have:=HM.o.ok.plen;omega) _ i4);have mP:cO ltPK T=T:=by refine ca dt (.refl _) ?_;have hs:=HM.ok.ok.ps;unfold aw at hs;rw [<- d2,BL];exact hs
      rw [mP] at j3;have oc:=Z (zj E wr);have cv:=(aa C.vc 0).trans rfl;have c2:Cl wr c 2 (.map E):=(aa C.cat.blk 2).trans rfl;have eQ:=Z aS;have ft:=Z d2;clear i4 le mP aS d2;obtain ⟨ao,ko,rfl⟩:=aM a9.o
      go_upto_region 16 with (first
       |(go_at_call 66;((with_reducible refine qs oc.o ?_);rintro e w4 ⟨rfl,rfl⟩))
       |(go_at_call 65;((with_reducible refine qs j3.o ?_);rintro e w5 ⟨v5,rfl,hP,bb⟩;obtain ⟨a5,k5,rfl⟩:=aM hP;have q4:=Z hP;have ny:=Z bb;clear hP bb)))
      have bb:Bw wr w5:=eQ.trans (ny.mono eQ.size);have qt:Hid (UN w.heap.size A F w5 (m+3) w.heap.size (m+2) m (m+1) c M V E (fn Y) d L (kX d.ps L (d.ps.take 0))):=by have h:=C.below bb;rw [<- ay.o] at h;exact h
      have qe:Hid (w5.ownsRow A 62 3 (hK ao q ko) q ((recX H).flatMap rdCells)):=ah a9.o (λg u=>bb.block g (a9.lt g u).2);have ov:Hid (w5.ownsRow N.heap.size 36 2 (hK a3 q k3) q ((L.map (·.1)).flatMap rkCells)):=ah O.o (λg u=>bb.block g (O.lt g u).2);have nz:Hid (Bw w w5):=a0.trans (bb.mono a0.size);have q5:Hid (w5.ownsRow A 134 4 (hK a5 T.length k5) T.length (T.flatMap pkCells)):=bu q4.o (by have:=C.o.los.2.2.2.2.2.2.2;have:=eQ.o.size;omega);clear bb C a9 O a0 cv c2;go_loopw [76] (λi wr=>∃j:Nat,j<=T.length/\i=J U j/\Hid (UN w.heap.size A F wr (m+3) w.heap.size (m+2) m (m+1) c M V E (fn Y) d L (kX d.ps L (d.ps.take j)))/\Hid (wr.ownsRow A 62 3 (hK ao q ko) q ((recX H).flatMap rdCells))/\Hid (wr.ownsRow N.heap.size 36 2 (hK a3 q k3) q ((L.map (·.1)).flatMap rkCells))/\Hid (wr.ownsRow A 134 4 (hK a5 T.length k5) T.length (T.flatMap pkCells))/\Hid (Bw w wr)) (λi _=>T.length - (intOf i).toNat)
      case atStart=>exact ⟨0,BF _,rfl,qt.o,qe.o,ov.o,q5.o,nz.o⟩
      case round=>
       obtain ⟨j,hj,rfl,C,a9,O,al,a0⟩:=hrel;by_cases hlj:j<T.length
       · have kz:j<d.ps.length:=by rw [<- ft.o,k2] at hlj;exact hlj
         obtain ⟨g5,zb,c4,_⟩:=Bq al.o (by omega);cases c4;have lB:T[j]=d.ps[j].1:=by simp [<- ft.o]
         have a8:∀i,i<4->wr.cell? ⟨g5,j * 4+i,Y⟩=(pkCells d.ps[j].1)[i]? :=λi hi=>by rw [al.o.cellAt (j * 4+i) (by omega),cC pkCells 4 (λ_=>rfl) _ j hlj i hi,lB]
         have b0:=Z (uF d.ps L j kz);have h6:=AT kz;have bs:=HM.ok.pkey _ h6;have gp:findK d.ps d.ps[j].1=X d.ps[j].2:=(cR dt HM.ok.ok.ps).2 h6;obtain ⟨p,I⟩:=Qe (d.ps[j]);rw [I] at a8 b0 bs gp;clear I h6 lB;obtain ⟨⟨⟨a1,a2⟩,b1,b2⟩,d7,jn⟩:=p;dsimp only at bs gp b0 a8;have e0:Cl wr g5 (j * 4) (J U a1):=(a8 0 (by omega)).trans rfl;have e1:Cl wr g5 (j * 4+1) (J U a2):=(a8 1 (by omega)).trans rfl;have e2:Cl wr g5 (j * 4+2) (J U b1):=(a8 2 (by omega)).trans rfl;have e3:Cl wr g5 (j * 4+3) (J U b2):=(a8 3 (by omega)).trans rfl;clear a8;obtain ⟨o,ac⟩:=Qe (wr.alloc (hb #[J U a1,J U a2,J U b1,J U b2] 134));have a4:Bw wr o:=by rw [<- ac];exact (mk _ wr).alloc (nq _) _
         have hF:o.heap[wr.heap.size]? =X (hb #[J U a1,J U a2,J U b1,J U b2] 134 (0,0)):=by rw [<- ac];exact lm wr _
         obtain ⟨R,av⟩:=Qe wr.heap.size;rw [av] at hF;have au:=Z (C.below a4);have ds:Hid (o.ownsRow A 62 3 (hK ao q ko) q ((recX H).flatMap rdCells)):=ah a9.o (λg u=>a4.block g (a9.lt g u).2);have b6:Hid (o.ownsRow N.heap.size 36 2 (hK a3 q k3) q ((L.map (·.1)).flatMap rkCells)):=ah O.o (λg u=>a4.block g (O.lt g u).2);have b9:Hid (o.ownsRow A 134 4 (hK (X ⟨g5,0,Y⟩) T.length k5) T.length (T.flatMap pkCells)):=ah al.o (λg u=>a4.block g (al.lt g u).2);have bw:Hid (Bw w o):=a0.trans (a4.mono a0.size);have cx:=Z ac;have cb:=Z av;have HF:=Z hF;clear ac a4 hF av C a9 O al a0;have d9:Hid (∀W,Bw o W->Cl W w.heap.size 0 (fn (X ⟨c,0,Y⟩))/\Cl W c 2 (.map E)/\(Cl W R 0 (J U a1)/\Cl W R 1 (J U a2)/\Cl W R 2 (J U b1)/\Cl W R 3 (J U b2))/\(Bo 115 (.map E) (.agg #[J U a1,J U a2,J U b1,J U b2]) false).run prog W= .ok (.agg #[J U d7,k1 jn]) W):=λW Q=>by have hu:=au.below Q;have e2:=mI ((Q.block _ (ae HF.o)).trans HF.o);refine ⟨(aa hu.vc 0).trans rfl,(aa hu.cat.blk 2).trans rfl,e2,?_⟩;have:=cj.look (w:=W) hu.cat.ps underlying115 gL ((a1,a2),b1,b2) bs;rw [fJ d.ps (λ_ v=>ga v),gp] at this;exact this
         go_upto_region 18 with fail
         rw [cx.o,cb.o];clear e0 e1 e2 e3;have gn:=λW=>sU d7 jn W;go_wp2_with fail
         have bY:Bw o o.drew:=(mk _ o).drew;refine Wb o 999 ?_;refine Qd [0,1,2,3,4,5] bY d9 ?_;refine Qd [6] bY (λw' h=>gn w') ?_
         refine dN ?_;rcases jn with _|_
         · have cq:Hid (UN w.heap.size A F o.drew (m+3) w.heap.size (m+2) m (m+1) c M V E (fn Y) d L (kX d.ps L (d.ps.take (j+1)))):=by unfold Hid;rw [b0.o,if_neg (by decide)];exact au.below bY
           go_wp2_with fail
           go_roundw
           case rel=> exact ⟨j+1,hlj,by go_num,cq,ds,b6,b9,bw.trans (mk _ o).drew⟩
           case measure=>simp [intOf];omega
         · have c7:=pD w.heap.size A F o.drew (m+3) w.heap.size (m+2) m (m+1) c M V E (fn Y) d L (kX d.ps L (d.ps.take j)) (au.below bY) ((a1,a2),b1,b2) bs;dsimp only [pairV] at c7;have g0:=Z c7;obtain ⟨_,_,⟨f0,f1,f2,f3⟩,_⟩:=d9 _ bY;clear c7;go_wp2_with (go_at_call 78;((with_reducible refine qs g0.o ?_);rintro e w6 ⟨rfl,d4,cz,cP⟩;have g1:=Z d4;have er:=Z cz;have bA:=Z cP;clear d4 cz cP))
           have cg:=b7.o;have cq:Hid (UN w.heap.size A F w6 (m+3) w.heap.size (m+2) m (m+1) c M V E (fn Y) d L (kX d.ps L (d.ps.take (j+1)))):=by unfold Hid;rw [b0.o,if_pos (by decide)];exact g1.o
           go_roundw
           case rel=>
            refine ⟨j+1,hlj,by go_num,cq,ah ds.o (λg u=>?_),ah b6.o (λg u=>?_),ah b9.o (λg u=>?_),(bw.trans (mk _ o).drew).trans er.o⟩
            · have hl:=ds.lt g u;obtain ⟨cu,ax⟩:=aD ds.o u;exact bA.o g hl.2 (by omega) (by omega) (.inr λc2 e=>by rw [show o.drew.heap[g]? =o.heap[g]? from rfl,ax] at e;injection e with e;injection e with _ e;exact absurd e (by decide))
            · have hl:=b6.lt g u;have lb:=dr.lt g u;rw [f6.o] at lb;have d6:=cd.o;exact bA.o g hl.2 (by omega) (by omega) (.inl lb.2)
            · have hl:=b9.lt g u;obtain ⟨cu,ax⟩:=aD b9.o u;exact bA.o g hl.2 (by omega) (by omega) (.inr λc2 e=>by rw [show o.drew.heap[g]? =o.heap[g]? from rfl,ax] at e;injection e with e;injection e with _ e;exact absurd e (by decide))
           case measure=>simp [intOf];omega
       · have gy:j=T.length:=by omega
         subst gy;have lx:d.ps.take T.length=d.ps:=BD (by rw [<- ft.o,k2];exact nq _);rw [lx] at C;clear lx hlj hj al;obtain ⟨xs,b8⟩:=Qe (recX H);have ce:xs.length=q:=by rw [<- b8];unfold recX;rw [k2,fl.o,ay.o]
         rw [b8] at a9;have m7:mg wr (hK ao q ko) xs:=by refine ⟨by rw [ce];exact (bf a9.o).mono (BF _) (nq _),λp I=>?_⟩;rw [<- b8] at I;obtain ⟨p',hI,rfl⟩:=List.mem_map.1 I;obtain ⟨zs,ys,f1,f2,f3⟩:=j0 p' (fp p' hI);exact (f1.kept (λk a b=>a0.block k (HM.lt k (f3 k a b).1))).mono (BF _) (AS f2 a0.size)
         have mv:∀p∈xs,bH p.1.fields:=λp I=>by
          rw [<- b8] at I;obtain ⟨p',hI,rfl⟩:=List.mem_map.1 I;have hm:(p'.1,p'.2.1)∈d.vs:=by rw [<- py.o];exact List.mem_map.2 ⟨p',fp p' hI,rfl⟩
          exact (eN (HM.ok.right _ hm)).2.2
         obtain ⟨G,d1⟩:=Qe (pairsR (L.map λp=>p.2.2));have n6:pairsR (xs.map (·.1))=G:=by rw [<- d1, <- b8, <- fr.o];unfold recX;rw [BS,BS];rfl
         have hN:=wY wr (hK ao q ko) xs m7 (by rw [ce];exact e7) mv;rw [n6] at hN;have pt:=Z hN;have px:=Z d1;have z5:G.length<=1000000:=by rw [<- d1];have h1:=uR (L.map λp=>p.2.2);rw [k2,ay.o] at h1;exact AS h1 (AS (Nat.mul_le_mul e7 e7) (by decide))
         have pf:Hid (∀(j:Nat) (h:j<G.length),(G[j]).1<L.length/\(G[j]).2<L.length):=λj h=>by have:=qh (l:=L.map λp=>p.2.2) G[j] (by rw [d1];exact AT h);rwa [k2] at this
         clear m7 mv hN n6 d1 ce b8;go_upto_region 22 with (go_at_call 79;((with_reducible refine qs pt.o ?_);rintro e w7 ⟨v7,rfl,d3,kc⟩;obtain ⟨a7,k7,rfl⟩:=aM d3;have q6:=Z d3;have ex:=Z kc;clear d3 kc))
         have qv:Hid (UN w.heap.size A F w7 (m+3) w.heap.size (m+2) m (m+1) c M V E (fn Y) d L (oe d.ps L (G.take 0))):=C.below ex.o;have oF:Hid (w7.ownsRow N.heap.size 36 2 (hK a3 q k3) q ((L.map (·.1)).flatMap rkCells)):=ah O.o (λg u=>ex.block g (O.lt g u).2);have nE:Hid (Bw w w7):=a0.trans (ex.mono a0.size);have q7:Hid (w7.ownsRow A 67 2 (hK a7 G.length k7) G.length (G.flatMap dG)):=bu q6.o C.los.2.2.2.2.2.2.2;clear C O a0 a9;go_loopw [94] (λi wr=>∃j:Nat,j<=G.length/\i=J U j/\Hid (UN w.heap.size A F wr (m+3) w.heap.size (m+2) m (m+1) c M V E (fn Y) d L (oe d.ps L (G.take j)))/\Hid (wr.ownsRow N.heap.size 36 2 (hK a3 q k3) q ((L.map (·.1)).flatMap rkCells))/\Hid (wr.ownsRow A 67 2 (hK a7 G.length k7) G.length (G.flatMap dG))/\Hid (Bw w wr)) (λi _=>G.length - (intOf i).toNat)
         case atStart=>exact ⟨0,BF _,rfl,qv.o,oF.o,q7.o,nE.o⟩
         case round=>
          obtain ⟨j,hj,rfl,C,O,al,a0⟩:=hrel;by_cases hlj:j<G.length
          · obtain ⟨c5,c6⟩:=pf j hlj;have b0:=Z (uE d.ps cp.o G j hlj c5 c6);have bt:0<q:=by rw [<- ay.o];omega
            obtain ⟨g7,zd,c4,_⟩:=Bq al.o (by omega);cases c4;obtain ⟨B,xk,c4,_⟩:=Bq O.o bt;cases c4;have a8:∀i,i<2->wr.cell? ⟨g7,j * 2+i,Y⟩=(dG G[j])[i]? :=λi hi=>by rw [al.o.cellAt (j * 2+i) (by omega),cC dG 2 (λ_=>rfl) _ j hlj i hi]
            have d0:∀a,a<L.length->∀i,i<2->wr.cell? ⟨B,a * 2+i,Y⟩=(rkCells (keyC L a))[i]? :=λa ha i hi=>by
             have e8:a<(L.map (·.1)).length:=by rw [k2];exact ha
             rw [O.o.cellAt (a * 2+i) (by rw [<- ay.o];omega),cC rkCells 2 (λ_=>rfl) _ a e8 i hi,BG,bQ ha]
            obtain ⟨p,I⟩:=Qe (G[j]);rw [I] at c5 c6 b0 a8;clear I;obtain ⟨pa,pb⟩:=p;dsimp only at c5 c6 b0;have l3:=dc pa c5;have e5:=dc pb c6;have x0:=d0 pa c5 0 (by omega);have x1:=d0 pa c5 1 (by omega);have y0:=d0 pb c6 0 (by omega);have y1:=d0 pb c6 1 (by omega);rw [ay.o] at c5 c6;obtain ⟨ka,l4⟩:=Qe (keyC L pa);obtain ⟨kb,l5⟩:=Qe (keyC L pb);rw [l4] at x0 x1 l3 b0;rw [l5] at y0 y1 e5 b0;clear l4 l5 d0;obtain ⟨a1,a2⟩:=ka;obtain ⟨b1,b2⟩:=kb;have x0:Cl wr B (pa * 2) (J U a1):=x0;have x1:Cl wr B (pa * 2+1) (J U a2):=x1;have y0:Cl wr B (pb * 2) (J U b1):=y0;have y1:Cl wr B (pb * 2+1) (J U b2):=y1;have e0:Cl wr g7 (j * 2) (J U (pa:Int)):=(a8 0 (by omega)).trans rfl;have e1:Cl wr g7 (j * 2+1) (J U (pb:Int)):=(a8 1 (by omega)).trans rfl;clear a8;obtain ⟨o,ac⟩:=Qe (wr.alloc (hb #[J U (pa:Int),J U (pb:Int)] 67));have a4:Bw wr o:=by rw [<- ac];exact (mk _ wr).alloc (nq _) _
            have hF:o.heap[wr.heap.size]? =X (hb #[J U (pa:Int),J U (pb:Int)] 67 (0,0)):=by rw [<- ac];exact lm wr _
            obtain ⟨R,av⟩:=Qe wr.heap.size;rw [av] at hF;have gs:B<wr.heap.size:=(O.lt B rfl).2;have b5:∀i,o.cell? ⟨B,i,Y⟩=wr.cell? ⟨B,i,Y⟩:=λi=>BJ (a:=⟨B,i,Y⟩) (a4.block B gs);have X0:=Z ((b5 _).trans x0);have X1:=Z ((b5 _).trans x1);have Y0:=Z ((b5 _).trans y0);have Y1:=Z ((b5 _).trans y1);have au:=Z (C.below a4);have b6:Hid (o.ownsRow N.heap.size 36 2 (hK (X ⟨B,0,Y⟩) q k3) q ((L.map (·.1)).flatMap rkCells)):=ah O.o (λg u=>a4.block g (O.lt g u).2);have b9:Hid (o.ownsRow A 67 2 (hK (X ⟨g7,0,Y⟩) G.length k7) G.length (G.flatMap dG)):=ah al.o (λg u=>a4.block g (al.lt g u).2);have bw:Hid (Bw w o):=a0.trans (a4.mono a0.size);have cx:=Z ac;have cb:=Z av;have HF:=Z hF;have qc:=Z C.los.2.2.2.2.2.2.2;clear ac a4 hF av C O al a0 x0 x1 y0 y1 b5 gs;go_upto_region 24 with fail
            rw [cx.o,cb.o];clear e0 e1;have bY:Bw o o.drew:=(mk _ o).drew;have c7:=pD w.heap.size A F o.drew (m+3) w.heap.size (m+2) m (m+1) c M V E (fn Y) d L (oe d.ps L (G.take j)) (au.below bY) ((a1,a2),b1,b2) ⟨l3,e5⟩;dsimp only [pairV] at c7;have g0:=Z c7;clear c7;have f4:Hid (B<A):=by have h3:=dr.lt B rfl;rw [f6.o] at h3;exact h3.2
            have d9:Hid (∀W:BI,(W.heap[R]? =o.heap[R]? /\W.heap[B]? =o.heap[B]?)->(Cl W R 0 (J U (pa:Int))/\Cl W R 1 (J U (pb:Int)))/\Cl W B (pa * 2) (J U a1)/\Cl W B (pa * 2+1) (J U a2)/\Cl W B (pb * 2) (J U b1)/\Cl W B (pb * 2+1) (J U b2)):=λW Q=>by have kl:=Q.1.trans HF.o;have b5:∀i,W.cell? ⟨B,i,Y⟩=o.cell? ⟨B,i,Y⟩:=λi=>BJ (a:=⟨B,i,Y⟩) Q.2;exact ⟨⟨(aa kl 0).trans rfl,(aa kl 1).trans rfl⟩,(b5 _).trans X0.o,(b5 _).trans X1.o,(b5 _).trans Y0.o,(b5 _).trans Y1.o⟩
            have tc:o.drew.heap[R]? =o.heap[R]? /\o.drew.heap[B]? =o.heap[B]? :=⟨rfl,rfl⟩;have i1:(pa:Int)<(q:Int):=by omega
            have i2:(pb:Int)<(q:Int):=by omega
            go_wp2_with fail
            refine wT (λW=>W.heap[R]? =o.heap[R]? /\W.heap[B]? =o.heap[B]?) 999 ?_;refine Qd [0,1,2,3,4,5,6,7,8,9,10,11] tc d9 ?_;refine Dp 12 λK s=>?_;go_simp;go_at_call 78;with_reducible refine qs g0.o ?_
            rintro e w6 ⟨rfl,d4,cz,cP⟩;have g1:=Z d4;have er:=Z cz;have bA:=Z cP;clear d4 cz cP;have cg:=b7.o;have d6:=cd.o;have ld:=b6.lt B rfl;have ta:R<o.heap.size:=ae HF.o;have y8:A<=R:=by rw [<- cb.o];exact qc.o
            have k4:w6.heap[R]? =o.heap[R]? /\w6.heap[B]? =o.heap[B]? :=
             ⟨bA.o R ta (by omega) (by omega) (.inr λc2 e=>by rw [show o.drew.heap[R]? =o.heap[R]? from rfl,HF.o] at e;injection e with e;injection e with _ e;exact absurd e (by decide)),
              bA.o B ld.2 (by omega) (by omega) (.inl f4.o)⟩
            refine s _ _ (λ_=>k4) ?_;clear s K;refine dN ?_;have cq:Hid (UN w.heap.size A F w6 (m+3) w.heap.size (m+2) m (m+1) c M V E (fn Y) d L (oe d.ps L (G.take (j+1)))):=by unfold Hid;rw [b0.o];exact g1.o
            go_wp2_with fail
            go_roundw
            case rel=>
             refine ⟨j+1,hlj,by go_num,cq,ah b6.o (λg u=>?_),ah b9.o (λg u=>?_),(bw.trans (mk _ o).drew).trans er.o⟩
             · injection u with u
               subst u;exact k4.2
             · have hl:=b9.lt g u;obtain ⟨cu,ax⟩:=aD b9.o u;exact bA.o g hl.2 (by omega) (by omega) (.inr λc2 e=>by rw [show o.drew.heap[g]? =o.heap[g]? from rfl,ax] at e;injection e with e;injection e with _ e;exact absurd e (by decide))
            case measure=>simp [intOf];omega
          · have gy:j=G.length:=by omega
            subst gy;rw [List.take_length, <- px.o, <- HL.o] at C;have cc:Hid (UN w.heap.size A F wr (m+3) w.heap.size (m+2) m (m+1) c M V E (fn Y) d (thereC d) (setsC d)):=by have h:=C.o;rw [uD] at h;exact h
            clear C O al hlj hj;obtain ⟨l6,gP,mm⟩:=cc.sortI;have c0:=(aa cc.vt 0).trans rfl;have c1:=(aa cc.tb 1).trans rfl;obtain ⟨ws,rfl⟩:∃ws,ws=wr:=⟨_,rfl⟩;obtain ⟨R6,cy⟩:=Qe ws.heap.size;have p4:=Z gP;have j2:=Z mm;have f7:=Z cc.los.2.2.2.2.2.2.2;have lo:=gP.nodup;have pc:=Z lo;clear gP mm lo;go_upto_region 27 with (refine mO _ rfl _ _ rfl 52 underlying93 (m+1) _ rfl p4.o ?_;intro w8 hQ kd z9;rw [cy] at hQ;have qa:=Z hQ;have it:=Z kd;clear hQ kd)
            have qf:Hid (fq A R6 w8 l6 l6 (thereC d) (setsC d)):=by have h:=j2.o;rw [cy] at h;exact h.far (λk v hv g u=>it.o.block g (by rw [cy];exact h.lt k v hv g u))
            have oi:Hid (fv A ws w8):=fv.of it.o f7.o;have ch:=Z cy;clear c0 c1 j2 cy;go_simp;go_loopg [] (l6.length+1) (λg wr=>∃left:List (RK×Value),left.length<g/\Hid (cn recB wr (m+1) R6 l6 left)/\Hid (fq A R6 wr l6 left (thereC d) (setsC d))/\Hid (fv A ws wr))
            case atStart=>exact ⟨l6,by omega,qa,qf,oi⟩
            case round=>
             obtain ⟨left,ld,HR,HS,f5⟩:=hrel;rw [<- ch.o] at HR;go_wp2_with (refine pr _ rfl _ rfl (m+1) ws.heap.size l6 left rfl HR.o ?_ ?_)
             · intro tz;subst tz;have cg:=b7.o;have hu:=cc.o;have D:=f5.o;have ks:=hu.cat.blk;have ts:c<A:=by omega
               have b1:=(D.b.block c ts).trans ks;have b2:=(D.b.block w.heap.size (by omega)).trans hu.vc;have b3:=(D.b.block (m+3) (by omega)).trans hu.vt;have c1:Cl wr w.heap.size 0 (fn (X ⟨c,0,Y⟩)):=(aa b2 0).trans rfl;have c2:Cl wr (m+3) 0 (fn (X ⟨m+2,0,Y⟩)):=(aa b3 0).trans rfl;have c3:Cl wr c 3 (fn Y):=(aa b1 3).trans rfl;have f3:=ab b1 3;have z0:w.heap.size≠c:=by omega
               have z4:m+3≠c:=by omega
               have hD:=UN.done cc.o rfl rfl f5.o HR.map HS.o;have HD:=Z hD;have n0:ag F w F (wr.setCell ⟨c,3,Y⟩ (fn (X ⟨m+2,0,Y⟩))):=(ag.of_below (a0.o.trans (D.b.mono (by omega)))).trans (ag.of_only (ar.setCell (ar.refl c wr) 3 _) HM.o.fc);have bB:=Z n0;clear hD n0 b1 b2 b3 ks hu D cg;go_wp2_with fail
               refine BP (results_tmp rfl _ _ _) rfl ⟨m+2,_,M,V,E,rfl,HD.1,HD.2,?_⟩;exact ⟨bB.os,bB.tape,bB.output,bB.size,bB.block,λk D=>D.imp id (λh=>h.1)⟩
             · intro y z pv w9 I vx lP tO h8 tt;have n2:left.Sublist l6:=by obtain ⟨es,f,y6,h1,h2,h3,h4,_⟩:=HR.o;exact h4
               have e6:lookL l6 (y,z)=X pv:=(bi pc.o).2 (n2.subset I);have em:fq A R6 w9 l6 left (thereC d) (setsC d):=HS.o.far (λk v hv g u=>h8.block g (by have:=HS.o.lt k v hv g u;have:=ch.o;omega));obtain ⟨t,xs,ht,rt,l7,eg,hJ⟩:=em.at e6;have ce:xs.length<=1000000:=by have h1:=hJ.length_eq;have h2:=jJ (thereC d) (setsC d) t;rw [HL.o,ay.o] at h2;rw [HL.o] at h1;omega
               have nf:=Z (pQ A w9 pv xs eg ce);have qd:=Z eg;have qk:=Z em;have oj:Hid (fv A ws w9):=f5.only h8 (nq _) f7.o;have j1:Hid (∀g,pv.ownBlock=X g->A<=g/\g<R6):=λg u=>⟨(eg.lt g u).1,em.lt (y,z) pv e6 g u⟩;have fx:=Z lP;have f9:Hid (t<(thereC d).length/\keyC (thereC d) t=(y,z)/\xs.Perm (aV (thereC d) (setsC d) t)):=⟨ht,l7,hJ⟩;have oR:=Z e6;have la:recB.kv (y,z)=recK (y,z):=rfl;rw [la] at tt;clear n2 e6 em eg lP ht rt l7 hJ I vx h8 ce la;go_wp2_with (go_at_call 80;((with_reducible refine qs nf.o ?_);rintro e At ⟨rfl,lE,lp⟩;have q0:=Z lE;have iS:=Z lp;clear lE lp))
               go_roundg (left.length)
               case rel=>
                obtain ⟨o1,o2,o3,o4,o5⟩:=iS.o;have lk:=fx.map.lt;have wB:=fx.lt;have cg:=b7.o;rw [<- ch.o];refine ⟨co left (y,z),tO,fx.o.kept (o5 _ lk (λe=>by have:=j1.o _ e;omega)) (o5 _ wB (λe=>by have:=j1.o _ e;have:=ch.o;omega)),?_,oj.o.sort qd.o iS.o f7.o⟩;have x2:aw ltRK (thereC d):=by rw [HL.o];exact cp.o
                rw [ch.o];exact qk.next x2 oR.o f9.1 f9.2.1 f9.2.2 q0.o o5
               case measure=>omega
 · have HT:Hid (c8 (restF F c M V E) w1 t (thereC d) (setsC d)):=ht.step (λk hr=>aS.block k (hM.lt k hr.1)) aS.size;have p0:=Z aC;have bB:Hid (ag F w F w1):=ag.of_below aS;clear hM aC ht aS hV d5;go_enter func41,ntmps41;go_upto_region 1 with fail
   rw [g2.o];go_wp2_with fail
   refine BP (results_tmp rfl _ _ _) rfl ⟨t,F,M,V,E,rfl,p0.o,HT.o,bB.o⟩
theorem rS {d:aq} (h:d.Ok) (k:RK):k∈de d↔∃t,t<(thereC d).length/\(setsC d).getD t 0=t/\keyC (thereC d) t=k:=by
 rw [mS h,List.mem_map];constructor
 · rintro ⟨t,b,a⟩;rw [BN,BQ,decide_eq_true_eq] at b;exact ⟨t,b.1,b.2,a⟩
 · rintro ⟨t,c,e,a⟩;exact ⟨t,by rw [BN,BQ,decide_eq_true_eq];exact ⟨c,e⟩,a⟩
theorem hU {d:aq} (h:d.Ok):(de d).Pairwise λa b=>ltRK a b=true:=by
 rw [mS h,BL];refine List.Pairwise.imp_of_mem (λ{a b} f c e=>?_) (List.Pairwise.filter _ List.pairwise_lt_range);rw [BN,BQ] at c;exact iw (cJ h) e c.1
theorem pZ {l:List RK} (h:l.Pairwise λa b=>ltRK a b=true):l.Nodup:=h.imp λ{a b} h e=>by rw [e,aK.irr] at h;cases h
theorem qJ {d:aq} (h:d.Ok) {w:BI} {b:Nat} {l:List (RK×Value)} (a:ak recB w b l) (e:∀k,(lookL l k).isSome=true↔∃t,t<(thereC d).length/\(setsC d).getD t 0=t/\keyC (thereC d) t=k):cO ltRK (l.map (·.1))=de d:=by
 refine ca aK ((BO a.nodup (pZ (hU h))).2 λk=>?_) (hU h);rw [rS h, <- e,List.mem_map];constructor
 · rintro ⟨p,f,rfl⟩;rw [(bi a.nodup (k:=p.1) (v:=p.2)).2 f];rfl
 · intro c;obtain ⟨v,g⟩:=Option.isSome_iff_exists.1 c;exact ⟨(k,v),(bi a.nodup).1 g,rfl⟩
theorem kO {d:aq} (h:d.Ok):((thereC d).map (·.1)).Pairwise λa b=>ltRK a b=true:=by
 rw [BL];exact cJ h
theorem sJ {d:aq} (h:d.Ok) {w:BI} {b:Nat} {l:List (RK×Value)} (e:ak recB w b l) (j:∀k,lookL l k=(atC (thereC d) k).map λi=>recK (keyC (thereC d) ((setsC d).getD i 0))):cO ltRK (l.map (·.1))=(thereC d).map (·.1):=by
 refine ca aK ((BO e.nodup (pZ (kO h))).2 λk=>?_) (kO h);have g:k∈l.map (·.1)↔(lookL l k).isSome=true:=by
  rw [List.mem_map];constructor
  · rintro ⟨p,f,rfl⟩;rw [(bi e.nodup (k:=p.1) (v:=p.2)).2 f];rfl
  · intro c;obtain ⟨v,m⟩:=Option.isSome_iff_exists.1 c;exact ⟨(k,v),(bi e.nodup).1 m,rfl⟩
 rw [g,j,Option.isSome_map,List.mem_map];cases ha:atC (thereC d) k with
 |some i=> obtain ⟨a,c⟩:=at_some ha;exact ⟨λ_=>⟨_,AT a,by rw [<- bQ a];exact c⟩,λ_=>rfl⟩
 |none=> refine ⟨λh=>(by cases h),?_⟩;rintro ⟨p,f,c⟩;obtain ⟨i,a,rfl⟩:=List.mem_iff_getElem.1 f;exact absurd (by rw [bQ a];exact c) (at_none ha i a)
theorem rT (d:aq):(de d).length<=(thereC d).length:=by
 unfold de;rw [k2];refine AS (BE _ _) ?_;unfold sameC;rw [k2,List.length_range];exact nq _
theorem eV {d:aq}:(thereC d).length<=d.vs.length:=BE _ _
theorem gu (d:aq):(sameC d).length=(thereC d).length:=by unfold sameC;rw [k2,List.length_range]
theorem rU {d:aq} (h:d.Ok) {l:List (RK×Value)} (a:∀k,lookL l k=(atC (thereC d) k).map λi=>recK (keyC (thereC d) ((setsC d).getD i 0))) (k:RK):(lookL l k).getD (.agg #[J U 0,J U 0])=recK ((titleC d k).getD (0,0))/\(lookL l k).isSome=(titleC d k).isSome:=by
 rw [a,kN h];cases atC (thereC d) k<;>exact ⟨rfl,rfl⟩
theorem ag.via {F b:Nat->Prop} {w d e:BI} (h:ag F w b d) (a:Below w.heap.size d e):ag F w b e:=
 ⟨a.os.trans h.os,a.tape.trans h.tape,a.output.trans h.output,AS h.size a.size,λk c f=>(a.block k c).trans (h.block k c f),h.new⟩
structure ul (F F':Nat->Prop) (w w':BI) (c t mo mm:Nat) (d:aq):Prop where
 cat:be F' w' c d
 step:ag F w F' w'
 tb:Bk w' t #[.map (some mo), .map (some mm)] 95
 of:AW w' mo (thereC d) (setsC d)
 mem:yo F' w' mm (thereC d) (setsC d)
 lt:∀k,F' k->k<w'.heap.size
 ft:F' t/\F' mo/\F' mm
 ok:aZ d
theorem oV (F:Nat->Prop) (w:BI) (c:Nat) (d:aq) (h:be F w c d) (D:d.vs.length<=1000):
 Calls prog 41 #[fn (X ⟨c,0,Y⟩)] w λe w'=>∃(t i f:Nat) (a:Nat->Prop),e=g3 (fn (X ⟨t,0,Y⟩))/\ul F a w w' c t i f d:=by
 refine (zD F w c d h D).mono ?_;rintro e w' ⟨t,a,H,I,K,rfl,b,C,B⟩;obtain ⟨i,f,q,r,s,u,x,l,y,z,A⟩:=C;refine ⟨t,i,f,a,rfl,⟨_,_,_,_,b⟩,B,q,x,⟨l,y,z,λt E G=>?_⟩,b.lt,⟨r.1,s.1,u.1⟩,b.ok⟩;obtain ⟨v,k,g,n,j,m,o,p⟩:=A t E G;exact ⟨v,k,g,n,j,m,o.1,p⟩
theorem eA (F:Nat->Prop) (w:BI) (c:Nat) (d:aq) (h:be F w c d) (O:d.vs.length<=1000):
 Calls prog 18 #[fn (X ⟨c,0,Y⟩)] w λe w'=>∃(v:Value) (i:Nat->Prop),e=g3 v/\be i w' c d/\ag F w i w'/\w'.ownsRow w.heap.size 36 2 v (de d).length ((de d).flatMap rkCells)/\∀g,v.ownBlock=X g->¬i g:=by
 have E:=Z (oV F w c d h O);clear h;go_enter func18,ntmps18;go_wp2_with (go_at_call 41;((with_reducible refine qs E.o ?_);rintro e w1 ⟨t,T,m,i,rfl,p⟩;have c1:Cl w1 t 1 (hk (X m)):=((aa p.tb 1).trans rfl);have a:=Z p;clear p))
 obtain ⟨l,j,A,_⟩:=a.mem;have B:=a.ok.ok;have r:=qJ B j A;have q:(l.map (·.1)).length=(de d).length:=by rw [<- r,jt]
 have o:Bw w1 (w1.alloc (hb #[hk (X m)] 93)):=(mk _ w1).alloc (nq _) _;have C:=xr 8 (by omega) w1.heap.size (X m) l (w1.alloc (hb #[hk (X m)] 93)) (by rw [BH];rfl) (ak.block j (o.block _ j.lt)) (λb f=>by injection f with f;subst f;have:=j.lt;simp;omega);have N:l.length<=1000:=by have H:=rT d;have I:=eV (d:=d);rw [k2] at q;omega
 have y:=Z (js 10 (by omega) 95 #[fn (X ⟨w1.heap.size,0,Y⟩)] (enters_of func95 (by kernel_rfl) rfl) (l.map (·.1)) (by rw [k2];omega) _ _ (λV x P=>by have:=P.1;omega) _ C);rw [r,q] at y;have G:=Z (zl (X m) w1);have n:=Z o;clear C r q o j A N B
 go_wp2_with (first
  |(go_at_call 51;((with_reducible refine qs G.o ?_);rintro e w2 ⟨rfl,rfl⟩))
  |(go_at_call 47;((with_reducible refine qs y.o ?_);rintro e Q ⟨v,rfl,s,z⟩;obtain ⟨W,vc,rfl⟩:=aM s;have u:=Z s;have D:=Z z;clear s z)))
 go_ret;have f:Bw w1 Q:=n.trans (D.mono n.size);refine ⟨_,i,rfl,a.cat.step (λk M=>f.block k (a.lt k M)) f.size,a.step.trans (ag.of_below f),bu u.o (AS a.step.size n.size),λg L K=>?_⟩;have H:=(u.lt g L).1;have I:=a.lt g K;have R:=n.size;omega
theorem pE (F:Nat->Prop) (w:BI) (c:Nat) (d:aq) (h:be F w c d) (hn:d.vs.length<=1000) (k:RK) (g:rkOk k):
 Calls prog 12 #[fn (X ⟨c,0,Y⟩),recK k] w λe w'=>∃s:Nat->Prop,e=g3 (.tuple #[recK ((titleC d k).getD (0,0)),k1 (titleC d k).isSome])/\be s w' c d/\ag F w s w':=by
 have M:∀k,F k->k<w.heap.size:=by obtain ⟨m1,m2,m3,kn,hM⟩:=h;exact hM.lt
 have aC:aZ d:=by obtain ⟨m1,m2,m3,kn,hM⟩:=h;exact hM.ok
 obtain ⟨m,n⟩:=k;have bA:=kN aC.ok (m,n);obtain ⟨⟨t1,t2⟩,aT⟩:∃tk,(titleC d (m,n)).getD (0,0)=tk:=⟨_,rfl⟩;obtain ⟨N,b0⟩:=Qe ((titleC d (m,n)).isSome);obtain ⟨u,T⟩:=Qe ((w.alloc (hb #[J U m,J U n] 36)).alloc (hb #[J U 0,J U 0] 36));have a9:Bw w u:=by rw [<- T];exact ((mk _ w).alloc (nq _) _).alloc (by simp) _
 have hA:u.heap[w.heap.size]? =X (hb #[J U m,J U n] 36 (0,0)):=by rw [<- T,BM _ _ _ (by simp)];exact lm w _
 have hB:u.heap[w.heap.size+1]? =X (hb #[J U 0,J U 0] 36 (0,0)):=by rw [<- T];have:=lm (w.alloc (hb #[J U m,J U n] 36)) (hb #[J U 0,J U 0] 36);rwa [World.size_alloc] at this
 have ad:u.heap.size=w.heap.size+2:=by rw [<- T];simp
 have b2:=Z M;have b1:Hid (∀W,Bw u W->Calls prog 41 #[fn (X ⟨c,0,Y⟩)] W λe w'=>∃(t b mm:Nat) (s:Nat->Prop),e=g3 (fn (X ⟨t,0,Y⟩))/\ul F s W w' c t b mm d/\Bk w' w.heap.size #[J U m,J U n] 36/\Bk w' (w.heap.size+1) #[J U 0,J U 0] 36/\(t≠w.heap.size/\t≠w.heap.size+1/\b≠w.heap.size/\b≠w.heap.size+1)/\ag F W s w'/\(∀k,s k->k≠w.heap.size/\k≠w.heap.size+1)/\∀W',W'.heap[b]? =w'.heap[b]? ->(Bo 92 (hk (X b)) (.agg #[J U m,J U n]) true).run prog W'= .ok (.tuple #[.agg #[J U t1,J U t2],k1 N]) W'):=λW hW=>by
  have bs:Bw w W:=a9.trans (hW.mono a9.size);refine (oV F W c d (h.below bs) hn).mono ?_;rintro e w' ⟨t,b,mm,s,rfl,x⟩;have H:∀k,s k->k≠w.heap.size/\k≠w.heap.size+1:=λk g=>by
   have bw:=hW.size;rcases x.step.new k g with R|R
   · have:=M k R;omega
   · omega
  have e1:=H t x.ft.1;have e2:=H b x.ft.2.1;have bw:=hW.size;refine ⟨t,b,mm,s,rfl,x,?_,?_,⟨e1.1,e1.2,e2.1,e2.2⟩,x.step,H,λW' bk=>?_⟩
  · exact ((x.step.block _ (by omega) (λhF=>by have:=M _ hF;omega)).trans (hW.block _ (by omega))).trans hA
  · exact ((x.step.block _ (by omega) (λhF=>by have:=M _ hF;omega)).trans (hW.block _ (by omega))).trans hB
  · obtain ⟨l,hm,hl⟩:=x.of;have h3:=ak.look_ok (ak.block hm bk) underlying92 (kJ W') (m,n) g;have e3:=rU aC.ok hl (m,n);rw [e3.1,e3.2,aT,b0] at h3;exact h3
 have bb:=Z T;have HA:=Z hA;have HB:=Z hB;have al:=Z a9;have bc:=Z ad;rw [aT,b0];show Calls prog 12 #[fn (X ⟨c,0,Y⟩), .agg #[J U m,J U n]] w (λe w'=>∃s:Nat->Prop,e=g3 (.tuple #[.agg #[J U t1,J U t2],k1 N])/\be s w' c d/\ag F w s w');clear bA aT b0 T hA hB a9 ad h hn M aC;go_enter func12,ntmps12;go_upto_region 1 with fail
 rw [bb.o];have b4:u.drew.heap[w.heap.size]? =X (hb #[J U m,J U n] 36 (0,0))/\u.drew.heap[w.heap.size+1]? =X (hb #[J U 0,J U 0] 36 (0,0)):=⟨HA.o,HB.o⟩;have b9:Hid (∀W:BI,(Bk W w.heap.size #[J U m,J U n] 36/\Bk W (w.heap.size+1) #[J U 0,J U 0] 36)->Cl W w.heap.size 0 (J U m)/\Cl W w.heap.size 1 (J U n)):=λW h=>⟨(aa h.1 0).trans rfl,(aa h.1 1).trans rfl⟩;go_wp2_with fail
 refine wT (λW:BI=>Bk W w.heap.size #[J U m,J U n] 36/\Bk W (w.heap.size+1) #[J U 0,J U 0] 36) 999 ?_;refine Qc [0] b4 ?_
 refine Qd [5] b4 b9 ?_
 refine bS (i:=1) (j:=10) rfl rfl (by kernel_rfl) rfl rfl (λK r=>?_) (λK r=>?_)
 · go_simp;go_at_call 41;with_reducible refine qs (b1.o u.drew (mk _ u).drew) ?_
   rintro e a ⟨t,b,mm,s,rfl,x,O,P,bv,a7,H,a3⟩;have y:=Z x;have Q:=Z a7;have V:=Z H;have au:=Z a3;have a8:Hid (ag F w F u.drew):=ag.of_below al.drew;clear x a7 H a3;refine r _ _ (λ_=>⟨O,P⟩) ?_;clear r K;go_simp;have ac:(Bk a w.heap.size #[J U m,J U n] 36/\Bk a (w.heap.size+1) #[J U 0,J U 0] 36)/\a.heap[t]? =a.heap[t]? /\a.heap[b]? =a.heap[b]? :=⟨⟨O,P⟩,rfl,rfl⟩;refine dD (λW:BI=>(Bk W w.heap.size #[J U m,J U n] 36/\Bk W (w.heap.size+1) #[J U 0,J U 0] 36)/\W.heap[t]? =a.heap[t]? /\W.heap[b]? =a.heap[b]?) (λW h=>h.1) _ _ _ _ ?_;have ao:Hid (∀W:BI,((Bk W w.heap.size #[J U m,J U n] 36/\Bk W (w.heap.size+1) #[J U 0,J U 0] 36)/\W.heap[t]? =a.heap[t]? /\W.heap[b]? =a.heap[b]?)->Cl W t 0 (hk (X b))/\(Bo 92 (hk (X b)) (.agg #[J U m,J U n]) true).run prog W= .ok (.tuple #[.agg #[J U t1,J U t2],k1 N]) W):=λW h=>⟨(aa (h.2.1.trans y.tb) 0).trans rfl,au W h.2.2⟩;refine Qd [2,3,4,6,7,8,9] ac ao ?_;obtain ⟨q,D⟩:=Qe a.heap.size;obtain ⟨o,G⟩:=Qe (a.alloc (hb #[J U 0,J U 0] 36));have A:o.heap[q]? =X (hb #[J U 0,J U 0] 36 (0,0)):=by rw [<- G, <- D];exact lm a _
   have ax:Below w.heap.size a o:=by rw [<- G];exact (mk _ a).alloc (AS a8.o.size Q.o.size) _
   have a4:∀k,k<q->o.heap[k]? =a.heap[k]? :=λk g=>by rw [<- G];exact BM _ _ _ (by rw [D];exact g)
   have b6:=ae O;have b7:=ae P;have M:=y.lt t y.ft.1;have b8:=y.lt b y.ft.2.1;rw [D] at b6 b7 M b8;have a6:w.heap.size<=q:=by omega
   have I:w.heap.size≠q/\w.heap.size+1≠q/\t≠q/\b≠q:=by omega
   have E:(Bk o w.heap.size #[J U m,J U n] 36/\Bk o (w.heap.size+1) #[J U 0,J U 0] 36)/\o.heap[t]? =a.heap[t]? /\o.heap[b]? =a.heap[b]? :=⟨⟨(a4 _ b6).trans O,(a4 _ b7).trans P⟩,a4 _ M,a4 _ b8⟩;have a5:∀k,s k->k≠q:=λk g=>by have:=y.o.lt k g;omega
   have av:Hid (∀k,s k->o.heap[k]? =a.heap[k]?):=λk g=>a4 k (by have:=y.o.lt k g;omega);refine Dp 10 λK r=>?_;go_simp;try rw [D,G]
   refine r _ _ (λ_=>E) ?_;clear r K;have n0:Cl o q 0 (J U 0):=(aa A 0).trans rfl;have n1:Cl o q 1 (J U 0):=(aa A 1).trans rfl;have f0:=ab A 0;have f1:=ab A 1;refine Dp 11 λK r=>?_;go_simp;obtain ⟨f,C⟩:=Qe ((o.setCell ⟨q,0,Y⟩ (J U t1)).setCell ⟨q,1,Y⟩ (J U t2));have a0:f.heap[q]? =X (hb #[J U t1,J U t2] 36 (0,0)):=by rw [<- C];exact am (am A 0 _) 1 _
   have B:∀k,k≠q->f.heap[k]? =o.heap[k]? :=λk g=>by rw [<- C,wq _ _ _ _ g,wq _ _ _ _ g]
   have ay:Below w.heap.size o f:=by rw [<- C];exact (((mk _ o).setCell (p:=⟨q,0,Y⟩) a6 _).setCell (p:=⟨q,1,Y⟩) a6 _)
   have z:(Bk f w.heap.size #[J U m,J U n] 36/\Bk f (w.heap.size+1) #[J U 0,J U 0] 36)/\f.heap[t]? =a.heap[t]? /\f.heap[b]? =a.heap[b]? :=⟨⟨(B _ I.1).trans E.1.1,(B _ I.2.1).trans E.1.2⟩,(B _ I.2.2.1).trans E.2.1,(B _ I.2.2.2).trans E.2.2⟩;rw [C];refine r _ _ (λ_=>z) ?_;clear r K;clear n0 n1 f0 f1 C;refine Ds 12 z ?_;refine dN ?_;have n0:Cl f q 0 (J U t1):=(aa a0 0).trans rfl;have n1:Cl f q 1 (J U t2):=(aa a0 1).trans rfl;have m0:Cl f (w.heap.size+1) 0 (J U 0):=(aa z.1.2 0).trans rfl;have m1:Cl f (w.heap.size+1) 1 (J U 0):=(aa z.1.2 1).trans rfl;have g0:=ab z.1.2 0;have g1:=ab z.1.2 1;go_wp2_with fail
   refine BP (v:= .tuple #[.agg #[J U t1,J U t2],k1 N]) (by rw [bK rfl];go_simp) rfl ?_;have a2:Below w.heap.size a ((f.setCell ⟨w.heap.size+1,0,Y⟩ (J U t1)).setCell ⟨w.heap.size+1,1,Y⟩ (J U t2)):=((ax.trans ay).setCell (p:=⟨w.heap.size+1,0,Y⟩) (by simp) _).setCell (p:=⟨w.heap.size+1,1,Y⟩) (by simp) _;refine ⟨rfl,s,y.cat.step (λk g=>?_) a2.size,(a8.trans Q.o).via a2⟩;rw [wq _ _ _ _ (V.o k g).2,wq _ _ _ _ (V.o k g).2,B k (a5 k g)];try exact av k g
 · go_simp;obtain ⟨q,D⟩:=Qe u.heap.size;obtain ⟨o,G⟩:=Qe ((u.alloc (hb #[J U 0,J U 0] 36)).drew);have b3:o.heap[q]? =X (hb #[J U 0,J U 0] 36 (0,0)):=by rw [<- G, <- D];exact lm u _
   have a1:Bw u o:=by rw [<- G];exact ((mk _ u).alloc (nq _) _).drew
   have aS:Hid (q=u.heap.size/\o.heap.size=q+1):=⟨D.symm,by rw [<- G, <- D];simp⟩;have b5:Bk o w.heap.size #[J U m,J U n] 36/\Bk o (w.heap.size+1) #[J U 0,J U 0] 36:=⟨(a1.block _ (ae HA.o)).trans HA.o,(a1.block _ (ae HB.o)).trans HB.o⟩;try rw [D]
   try rw [G]
   refine r _ _ (λ_=>b5) ?_;clear r K;refine Dp 1 λK r=>?_;go_simp;go_at_call 41;with_reducible refine qs (b1.o o a1) ?_
   rintro e a ⟨t,b,mm,s,rfl,x,O,P,bv,a7,H,a3⟩;have y:=Z x;have Q:=Z a7;have V:=Z H;have au:=Z a3;have a8:Hid (ag F w F o):=ag.of_below (al.trans (a1.mono al.size));clear x a7 H a3;have ad:=bc.o;have aS:=aS.o;have bt:¬F q:=λx=>by have:=b2.o q x;omega
   have A:Bk a q #[J U 0,J U 0] 36:=(Q.o.block q (by omega) bt).trans b3;have a5:∀k,s k->k≠q:=λk g=>by
    rcases Q.new k g with R|R
    · have:=b2.o k R;omega
    · omega
   have a6:w.heap.size<=q:=by omega
   have I:w.heap.size≠q/\w.heap.size+1≠q/\t≠q/\b≠q:=⟨by omega,by omega,a5 t y.o.ft.1,a5 b y.o.ft.2.1⟩;have ax:Below w.heap.size a a:=mk _ _;have av:Hid (∀k,s k->a.heap[k]? =a.heap[k]?):=λk g=>rfl;clear aS ad a1 G D b3 b5;refine r _ _ (λ_=>⟨O,P⟩) ?_;clear r K;go_simp;have ac:(Bk a w.heap.size #[J U m,J U n] 36/\Bk a (w.heap.size+1) #[J U 0,J U 0] 36)/\a.heap[t]? =a.heap[t]? /\a.heap[b]? =a.heap[b]? :=⟨⟨O,P⟩,rfl,rfl⟩;refine dD (λW:BI=>(Bk W w.heap.size #[J U m,J U n] 36/\Bk W (w.heap.size+1) #[J U 0,J U 0] 36)/\W.heap[t]? =a.heap[t]? /\W.heap[b]? =a.heap[b]?) (λW h=>h.1) _ _ _ _ ?_;have ao:Hid (∀W:BI,((Bk W w.heap.size #[J U m,J U n] 36/\Bk W (w.heap.size+1) #[J U 0,J U 0] 36)/\W.heap[t]? =a.heap[t]? /\W.heap[b]? =a.heap[b]?)->Cl W t 0 (hk (X b))/\(Bo 92 (hk (X b)) (.agg #[J U m,J U n]) true).run prog W= .ok (.tuple #[.agg #[J U t1,J U t2],k1 N]) W):=λW h=>⟨(aa (h.2.1.trans y.tb) 0).trans rfl,au W h.2.2⟩;refine Qd [2,3,4,6,7,8,9] ac ao ?_;have E:=ac;have n0:Cl a q 0 (J U 0):=(aa A 0).trans rfl;have n1:Cl a q 1 (J U 0):=(aa A 1).trans rfl;have f0:=ab A 0;have f1:=ab A 1;refine Dp 11 λK r=>?_;go_simp;obtain ⟨f,C⟩:=Qe ((a.setCell ⟨q,0,Y⟩ (J U t1)).setCell ⟨q,1,Y⟩ (J U t2));have a0:f.heap[q]? =X (hb #[J U t1,J U t2] 36 (0,0)):=by rw [<- C];exact am (am A 0 _) 1 _
   have B:∀k,k≠q->f.heap[k]? =a.heap[k]? :=λk g=>by rw [<- C,wq _ _ _ _ g,wq _ _ _ _ g]
   have ay:Below w.heap.size a f:=by rw [<- C];exact (((mk _ a).setCell (p:=⟨q,0,Y⟩) a6 _).setCell (p:=⟨q,1,Y⟩) a6 _)
   have z:(Bk f w.heap.size #[J U m,J U n] 36/\Bk f (w.heap.size+1) #[J U 0,J U 0] 36)/\f.heap[t]? =a.heap[t]? /\f.heap[b]? =a.heap[b]? :=⟨⟨(B _ I.1).trans E.1.1,(B _ I.2.1).trans E.1.2⟩,(B _ I.2.2.1).trans E.2.1,(B _ I.2.2.2).trans E.2.2⟩;rw [C];refine r _ _ (λ_=>z) ?_;clear r K;clear n0 n1 f0 f1 C;refine Ds 12 z ?_;refine dN ?_;have n0:Cl f q 0 (J U t1):=(aa a0 0).trans rfl;have n1:Cl f q 1 (J U t2):=(aa a0 1).trans rfl;have m0:Cl f (w.heap.size+1) 0 (J U 0):=(aa z.1.2 0).trans rfl;have m1:Cl f (w.heap.size+1) 1 (J U 0):=(aa z.1.2 1).trans rfl;have g0:=ab z.1.2 0;have g1:=ab z.1.2 1;go_wp2_with fail
   refine BP (v:= .tuple #[.agg #[J U t1,J U t2],k1 N]) (by rw [bK rfl];go_simp) rfl ?_;have a2:Below w.heap.size a ((f.setCell ⟨w.heap.size+1,0,Y⟩ (J U t1)).setCell ⟨w.heap.size+1,1,Y⟩ (J U t2)):=((ax.trans ay).setCell (p:=⟨w.heap.size+1,0,Y⟩) (by simp) _).setCell (p:=⟨w.heap.size+1,1,Y⟩) (by simp) _;refine ⟨rfl,s,y.cat.step (λk g=>?_) a2.size,(a8.trans Q.o).via a2⟩;rw [wq _ _ _ _ (V.o k g).2,wq _ _ _ _ (V.o k g).2,B k (a5 k g)];try exact av k g
theorem i69:(prog.info? 69).map (λi=>(i.zero,i.size,i.bytes))=X (X (.agg #[J U 0,J U 0,J U 0,J U 0]),4,32):=by kernel_rfl
theorem tg (w:BI) (x y z u:Value) (t:TypeId):∀j v,[x,y,z,u][j]? =X v->(w.alloc (hb #[x,y,z,u] t)).cell? ((⟨w.heap.size,0,Y⟩:Addr).add j)=X v:=by
 intro j v a;match j,a with
 |0,a=>simp at a;subst a;simp [BW]
 |1,a=>simp at a;subst a;simp [BW]
 |2,a=>simp at a;subst a;simp [BW]
 |3,a=>simp at a;subst a;simp [BW]
theorem oH {F:Nat->Prop} {w:BI} {j:Nat} {d:aq} (y:aZ d) (h:yo F w j (thereC d) (setsC d)) (k:RK) (r:rkOk k):∃(a:Option Addr) (c:Nat),eh 0 w.heap.size w (.slice a (membersC d k).length c) (membersC d k)/\
 ∀W,W.heap[j]? =w.heap[j]? ->(Bo 93 (hk (X j)) (recK k) false).run prog W= .ok (.slice a (membersC d k).length c) W:=by
 obtain ⟨l,s,p,u⟩:=h;cases hl:lookL l k with
 |some v=>
  obtain ⟨t,i,o,f⟩:=(p k).1 (by rw [hl];rfl);obtain ⟨B,b,g,n,z,rfl,_,q⟩:=u t i o;rw [f,hl] at b;injection b with b
  subst b;have e:=qo y.ok i;rw [f] at e;rw [e];obtain ⟨a,c,x,A⟩:=id q;injection x with he1 he2 he3
  subst he2;refine ⟨_,_,q,λW m=>?_⟩;have:=ak.look (ak.block s m) underlying93 (eD W) k r;rw [hl] at this;exact this
 |none=>
  have e:membersC d k=[]:=oG λt i o f=>by have:=(p k).2 ⟨t,i,o,f⟩;rw [hl] at this;cases this
  rw [e];refine ⟨Y,0,⟨Y,0,rfl,λh=>absurd rfl h⟩,λW m=>?_⟩;have:=ak.look (ak.block s m) underlying93 (eD W) k r;rw [hl] at this;exact this
theorem qp (d:aq) (k:RK):(membersC d k).length<=(thereC d).length:=by
 unfold membersC;rw [k2];refine AS (BE _ _) ?_;rw [gu];exact nq _
theorem ck (F:Nat->Prop) (w:BI) (c:Nat) (d:aq) (h:be F w c d) (T:d.vs.length<=1000) (k:RK) (B:rkOk k):
 Calls prog 22 #[fn (X ⟨c,0,Y⟩),recK k] w λe w'=>∃(v:Value) (m:Nat->Prop),e=g3 v/\be m w' c d/\ag F w m w'/\w'.ownsRow w.heap.size 36 2 v (membersC d k).length ((membersC d k).flatMap rkCells)/\∀g,v.ownBlock=X g->¬m g:=by
 have Q:∀k,F k->k<w.heap.size:=by obtain ⟨m1,m2,m3,kn,hM⟩:=h;exact hM.lt
 obtain ⟨b,f⟩:=k;obtain ⟨i,p⟩:=Qe (membersC d (b,f));have R:i.length<=1000:=by rw [<- p];have L:=qp d (b,f);have h2:=eV (d:=d);omega
 obtain ⟨l,r⟩:=Qe (w.alloc (hb #[J U b,J U f] 36));have z:Bw w l:=by rw [<- r];exact (mk _ w).alloc (nq _) _
 have M:l.heap[w.heap.size]? =X (hb #[J U b,J U f] 36 (0,0)):=by rw [<- r];exact lm w _
 have o:l.drew.heap[w.heap.size]? =X (hb #[J U b,J U f] 36 (0,0)):=M;have P:=oV F l.drew c d (h.below z.drew) T;have a3:=Z P;have a4:=Z Q;have a6:=Z p;have a5:=Z R;have a7:=Z r;have H:=Z z;rw [p];show Calls prog 22 #[fn (X ⟨c,0,Y⟩), .agg #[J U b,J U f]] w _;clear h T Q R r z P p M;go_enter func22,ntmps22;go_upto_region 1 with fail
 rw [a7.o];have a0:Hid (∀W:BI,Bk W w.heap.size #[J U b,J U f] 36->Cl W w.heap.size 0 (J U b)/\Cl W w.heap.size 1 (J U f)):=λW h=>⟨(aa h 0).trans rfl,(aa h 1).trans rfl⟩;go_wp2_with fail
 refine wT (λW=>Bk W w.heap.size #[J U b,J U f] 36) 999 ?_;refine Qc [0] o ?_
 refine Qd [5] o a0 ?_
 refine Dp 1 λK n=>?_;go_simp;go_at_call 41;with_reducible refine qs a3.o ?_
 rintro e j ⟨t,mo,G,m,rfl,O⟩;have a:=Z O;clear O;have a8:w.heap.size<l.drew.heap.size:=ae o;have x:Bk j w.heap.size #[J U b,J U f] 36:=(a.o.step.block _ a8 (λy=>by have:=a4.o _ y;omega)).trans o;obtain ⟨ma,mc,D,C⟩:=oH a.ok a.mem (b,f) B;rw [a6.o] at D C;have a2:=Z (λ(W:BI) (N:Bw j W)=>yb (hK ma i.length mc) i.length (i.flatMap rkCells) W ((aF.kept D (λq _ hq=>N.block q hq)).mono (nq _) N.size) (oq i) (tQ i) (by have:=a5.o;omega));have V:Bw j j:=mk _ j;refine n _ _ (λ_=>x) ?_;clear n K;go_simp;refine dD (λW=>Bw j W) (λW h=>(h.block _ (ae x)).trans x) _ _ _ _ ?_;have a1:Hid (∀W,Bw j W->Cl W t 1 (hk (X G))/\(Bo 93 (hk (X G)) (.agg #[J U b,J U f]) false).run prog W= .ok (hK ma i.length mc) W):=λW h=>⟨(aa ((h.block _ (ae a.tb)).trans a.tb) 1).trans rfl,C W (h.block _ (a.lt G a.ft.2.2))⟩;clear C D;refine Qd [2,3,4,6] V a1 ?_;refine Dp 7 λK n=>?_;go_simp;go_at_call 52;with_reducible refine qs (a2.o j V) ?_
 rintro e w4 ⟨v,rfl,E,A⟩;obtain ⟨va,vc,rfl⟩:=aM E;have I:=Z E;have u:=Z A;clear E;refine n _ _ (λ_=>A) ?_;clear n K;go_simp;refine Qc [8] A ?_
 refine dN ?_;go_wp2_with fail
 go_ret;refine ⟨_,m,rfl,a.cat.step (λk B=>u.block k (a.lt k B)) u.size,((ag.of_below H.drew).trans a.step).trans (ag.of_below u.o),bu I.o ?_,λg hg y=>?_⟩
 · exact AS H.size a.step.size
 · have L:=(I.lt g hg).1;have h2:=a.lt g y;omega
theorem tN (F:Nat->Prop) (w:BI) (c:Nat) (d:aq) (h:be F w c d) (hn:d.vs.length<=1000):
 Calls prog 15 #[fn (X ⟨c,0,Y⟩)] w λe w'=>∃(v:Value) (I:Nat->Prop),e=g3 v/\be I w' c d/\ag F w I w'/\w'.ownsRow w.heap.size 69 4 v (sameC d).length ((sameC d).flatMap pkCells)/\∀g,v.ownBlock=X g->¬I g:=by
 have bB:=Z (oV F w c d h hn);obtain ⟨i0,hi,bt,bv,bw⟩:=info_parts i69;have HI:=Z hi;have bY:=Z bt;have c0:=Z bv;have c2:=Z bw;clear h hi bt bv bw;go_enter func15,ntmps15;go_upto_region 2 with (go_at_call 41;((with_reducible refine qs bB.o ?_);rintro e w1 ⟨t,j,mm,I,rfl,hf⟩;have c1:Cl w1 t 0 (hk (X j)):=((aa hf.tb 0).trans rfl);have m:=Z hf;clear hf))
 obtain ⟨l,B,hl⟩:=m.of;have ax:=m.ok.ok;have au:=sJ ax B hl;have ao:(l.map (·.1)).length=((thereC d).map (·.1)).length:=by rw [<- au,jt]
 have a9:Bw w1 (w1.alloc (hb #[hk (X j)] 92)):=(mk _ w1).alloc (nq _) _;have bb:=xt 8 (by omega) w1.heap.size (X j) l (w1.alloc (hb #[hk (X j)] 92)) (by rw [BH];rfl) (ak.block B (a9.block _ B.lt)) (λb z=>by injection z with z;subst z;have:=B.lt;simp;omega);obtain ⟨L,o⟩:=Qe (thereC d);obtain ⟨set,aC⟩:=Qe (setsC d);have c9:L.length<=1000:=by rw [<- o];have:=eV (d:=d);omega
 have cl:l.length<=1000:=by rw [k2,k2,o] at ao;omega
 have a6:=Z (js 10 (by omega) 89 #[fn (X ⟨w1.heap.size,0,Y⟩)] (enters_of func89 (by kernel_rfl) rfl) (l.map (·.1)) (by rw [k2];omega) _ _ (λcP x hx=>by have:=hx.1;omega) _ bb);rw [au,ao,o,k2] at a6;have HK:=Z (zm (X j) w1);have aS:=Z a9;rw [o,aC] at hl;have bc:aw ltRK L:=by rw [<- o];exact cJ ax
 have c3:Hid (∀k,k<L.length->∀W:BI,W.heap[j]? =w1.heap[j]? ->(Bo 92 (hk (X j)) (recK (keyC L k)) false).run prog W= .ok (recK (keyC L (set.getD k 0))) W):=λk q W V=>by
  have ch:rkOk (keyC L k):=by
   rw [bQ q];have cm:L[k]∈thereC d:=by rw [o];exact AT q
   exact m.ok.vkey _ (List.mem_filter.1 cm).1
  have:=ak.look (ak.block B V) underlying92 (kJ W) (keyC L k) ch;rw [hl,eU bc q] at this;exact this
 have c5:Hid (∀k,k<L.length->(sameC d).take (k+1)=(sameC d).take k++[(keyC L k,keyC L (set.getD k 0))]):=λk q=>by
  have cg:k<(sameC d).length:=by rw [gu,o];exact q
  rw [BK cg];congr 2
  unfold sameC;simp [o,aC]
 have b0:Hid ((sameC d).length=L.length):=by unfold Hid;rw [gu,o]
 obtain ⟨n,av⟩:=Qe L.length;have a4:=Z av;rw [av] at a6 c9;have aT:=Z B.lt;clear bb au ao a9 B hl cl ax o aC bc av
 go_upto_region 4 with (first
  |(go_at_call 48;((with_reducible refine qs HK.o ?_);rintro e w2 ⟨rfl,rfl⟩))
  |(go_at_call 47;((with_reducible refine qs a6.o ?_);rintro e u ⟨v,rfl,ay,b4⟩;obtain ⟨va,vc,rfl⟩:=aM ay;have a5:=Z ay;have bA:=Z b4;clear ay b4)))
 have y:Hid (Bw w1 u):=aS.trans (bA.mono aS.size);clear c1;go_loopw [4,16] (λcx i wr=>∃(k:Nat) (r:Option Addr) (s:Nat),k<=n/\i=J U k/\cx=hK r k s/\Hid (wr.ownsRow u.heap.size 69 4 (hK r k s) k (((sameC d).take k).flatMap pkCells))/\Hid (Bw u wr)) (λ_ i _=>n - (intOf i).toNat)
 case atStart=>exact ⟨0,Y,0,BF _,rfl,rfl,BV _ _ _ _,mk _ _⟩
 case round=>
  obtain ⟨k,r,s,q,rfl,rfl,E,M⟩:=hrel;by_cases hlt:k<n
  · have a0:k<L.length:=by rw [a4.o];exact hlt
    obtain ⟨G,cQ,cc,_⟩:=Bq a5.o (by omega);cases cc;have cd:=(a5.lt G rfl).2;have ad:∀i,i<2->wr.cell? ⟨G,k * 2+i,Y⟩=(rkCells (keyC L k))[i]? :=λi hi=>by
     have cp:k<(L.map (·.1)).length:=by rw [k2];exact a0
     rw [BJ (a:=⟨G,k * 2+i,Y⟩) (M.o.block G cd),a5.o.cellAt (k * 2+i) (by omega),cC rkCells 2 (λ_=>rfl) _ k cp i hi,BG,bQ a0]
    have e0:Cl wr G (k * 2) (J U (keyC L k).1):=(ad 0 (by omega)).trans rfl;have e1:Cl wr G (k * 2+1) (J U (keyC L k).2):=(ad 1 (by omega)).trans rfl;have a3:=Z (c3 k a0);have a7:=Z (c5 k a0);obtain ⟨⟨C,D⟩,b6⟩:∃kk,keyC L k=kk:=⟨_,rfl⟩;obtain ⟨⟨t1,t2⟩,bs⟩:∃tt,keyC L (set.getD k 0)=tt:=⟨_,rfl⟩;rw [b6] at e0 e1 a3 a7;rw [bs] at a3 a7;dsimp only at e0 e1;clear b6 bs ad;obtain ⟨f,a1⟩:=Qe (wr.alloc (hb #[J U C,J U D] 36));have ac:Bw wr f:=by rw [<- a1];exact (mk _ wr).alloc (nq _) _
    have N:f.heap[wr.heap.size]? =X (hb #[J U C,J U D] 36 (0,0)):=by rw [<- a1];exact lm wr _
    obtain ⟨R,a8⟩:=Qe wr.heap.size;rw [a8] at N;have T:Hid (f.ownsRow u.heap.size 69 4 (hK r k s) k (((sameC d).take k).flatMap pkCells)):=ah E.o (λg H=>ac.block g (E.lt g H).2);have Q:Hid (Bw u f):=M.trans (ac.mono M.size);have c6:=Z a1;have c4:=Z a8;have HF:=Z N;clear a1 ac N a8 E M;have bO:Hid (∀W,f.grownBy W (By r k s).ownBlock->(Cl W R 0 (J U C)/\Cl W R 1 (J U D))/\Cl W t 0 (hk (X j))/\(Bo 92 (hk (X j)) (.agg #[J U C,J U D]) false).run prog W= .ok (.agg #[J U t1,J U t2]) W):=λW V=>by
     have b9:∀g,g<u.heap.size->W.heap[g]? =u.heap[g]? :=λg H=>(V.block g (BC H Q.o.size) (λe=>by have:=(T.o.lt g e.symm).1;omega)).trans (Q.o.block g H);have c7:=y.size;have b1:W.heap[R]? =_:=(V.block R (ae HF.o) (λe=>by obtain ⟨cu,cb⟩:=aD T.o e.symm;exact db HF.o cb (by decide) rfl)).trans HF.o
     have cs:=ae m.tb;have b2:=((b9 t (by omega)).trans (y.o.block t cs)).trans m.o.tb;have b3:=(b9 j (BC aT.o c7)).trans (y.block j aT.o);exact ⟨⟨(aa b1 0).trans rfl,(aa b1 1).trans rfl⟩,(aa b2 0).trans rfl,a3 W b3⟩
    go_upto_region 6 with fail
    rw [c6.o,c4.o];clear e0 e1;go_wp2_with fail
    have al:f.grownBy f.drew (By r k s).ownBlock:=⟨rfl,rfl,rfl,nq _,λ_ _ _=>rfl⟩;refine wT (λW=>f.grownBy W (By r k s).ownBlock) 999 ?_;refine Qd [0,1,2,6,3,4,5,7] al bO ?_;refine Qc [8] al ?_
    refine Dp 9 λK O=>?_;go_simp;have b5:f.grownBy (f.drew.alloc (hb #[J U C,J U D,J U t1,J U t2] 69)) (By r k s).ownBlock:=al.trans ((BT _ _ Y).but _);refine O _ _ (λ_=>b5) ?_;clear O K;refine Dp 10 λK O=>?_;have b7:k<=1000:=by omega
    have cv:=Q.size;obtain ⟨v',w7,cq,b8,ce,_,_⟩:=run_append_own_at (P:=prog) (f.drew.alloc (hb #[J U C,J U D,J U t1,J U t2] 69)) u.heap.size 49 49 69 i0 (.agg #[J U 0,J U 0,J U 0,J U 0]) 4 32 underlying49 HI.o bY.o c0.o c2.o rfl (by decide) (hK r k s) k _ (World.ownsRow.alloc (w:=f.drew) T.o _) ⟨f.drew.heap.size,0,Y⟩ 1 1 [J U C,J U D,J U t1,J U t2] rfl (tg f.drew _ _ _ _ 69) (by simp [Value.oneCell']) (by unfold maxLen;omega) (by omega) (by simp;show u.heap.size<=f.heap.size+1;omega);refine ik rfl rfl rfl cq ?_;obtain ⟨cy,cz,rfl⟩:=aM b8;have A:=b5.trans ce;refine O _ _ (λ_=>A) ?_;clear O K;go_simp;refine Qc [11] A ?_
    refine dN ?_;go_wp2_with fail
    go_roundw
    case rel=> refine ⟨k+1,_,_,hlt,by go_num,rfl,?_,Q.o.trans ⟨A.os,A.tape,A.output,A.size,λp hp=>A.block p (BC hp cv) (λe=>by have:=(T.o.lt p e.symm).1;omega)⟩⟩;unfold Hid;rw [a7.o,BU];exact b8
    case measure=>simp [intOf];omega
  · have b7:k=n:=by omega
    subst b7;have bk:(sameC d).take k=sameC d:=BD (by rw [b0.o,a4.o];exact nq _);rw [bk] at E;clear bk hlt q;go_wp2_with fail
    go_ret;have z:Bw w1 wr:=y.trans (M.mono y.size);refine ⟨_,I,rfl,m.cat.step (λk q=>z.block k (m.lt k q)) z.size,m.step.trans (ag.of_below z),?_,λg H N=>?_⟩
    · rw [b0.o,a4.o];exact bu E.o (AS m.step.size y.size)
    · have h1:=(E.lt g H).1;have h2:=m.lt g N;have h3:=y.size;omega
end
end Go.Proofs.YtjcimanddakkaaaGreatDoor
