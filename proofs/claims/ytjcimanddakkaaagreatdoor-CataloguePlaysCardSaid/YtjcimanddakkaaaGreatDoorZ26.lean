/- Lemmas. -/
import Derived.Test.YtjcimanddakkaaaGreatDoorZ5
import Derived.Test.YtjcimanddakkaaaGreatDoorZ25
set_option maxRecDepth 100000
set_option maxHeartbeats 8000000
namespace Go.Proofs.YtjcimanddakkaaaGreatDoor
open Go.Value renaming pointer→fn,map→hk,int→J,slice→hp,bool→ih
open _root_.Option renaming some→X,none→Y
open Go.Ending renaming returned→g3
open Go.Obj renaming cells→hb
open Go.Lib renaming hid→Z
open Go.IntKind renaming i64→U,u8→hK
open Tryz
open _root_.List renaming length_map→k1,length_filter_le→As,getElem_mem→At,take_of_length_le→AC,getElem_map→Bq,mem_filter→By,mem_range→BY,range→B1,map_map→Cj
open Go.World renaming alloc_heap_new→k2,cell?_alloc_new→B2,cell?_of_block→Ci
open _root_.Nat renaming le_refl→lm,le_trans→wq,zero_le→AT
open Go.RowKit.Below renaming refl→mk
open Go.ChangeMaps renaming setBlock→nq
open Go.Calls renaming mono→qs
open Go.World.ownsRow renaming form→Ac
open Go.Value renaming slice→AS
open Go.Instr renaming lookup→Bo
section
open Go.RowKit Go.Maps Go.Shelf
theorem Ar (F:Nat->Prop) (w:World) (c:Nat) (d:aE) (h:bL F w c d) (hn:d.vs.length<=1000):
 Calls prog 41 #[fn (X ⟨c,0,Y⟩)] w λe w'=>∃(t:Nat) (F':Nat->Prop) (M V E:Option Nat),e=g3 (fn (X ⟨t,0,Y⟩))/\dw F' w' c M V E (fn (X ⟨t,0,Y⟩)) d/\cV (restF F' c M V E) w' t (thereC d) (setsC d)/\ah F w F' w':=by
 obtain ⟨M,V,E,kn,hM⟩:=h;have y3:=hM.lt c hM.fc;obtain ⟨w1,d6⟩:=Qe (w.alloc (hb #[fn (X ⟨c,0,Y⟩)] 24));have aS:Bw w w1:=by rw [<- d6];exact (mk _ w).alloc (lm _) _
 have hV:w1.heap[w.heap.size]? =X (hb #[fn (X ⟨c,0,Y⟩)] 24 (0,0)):=by rw [<- d6];exact k2 w _
 have aC:=hM.below aS;have c3:Cl w1 c 3 kn:=(aa aC.blk 3).trans rfl;have cv:Cl w1 w.heap.size 0 (fn (X ⟨c,0,Y⟩)):=(aa hV 0).trans rfl;have g1:=Z d6;rcases hM.kn with rfl|⟨t,rfl,ht⟩
 · have HM:=Z hM;have em:=Z aS;have HV:=Z hV;clear hM aC hV aS d6;go_enter func41,ntmps41;go_upto_region 1 with fail
   rw [g1.o];go_upto_region 5 with fail
   have v9:= @run_makeMap prog;obtain ⟨m,bk⟩:=Qe w1.heap.size;obtain ⟨N,bw⟩:=Qe ((((w1.alloc (.map #[] 0)).alloc (.map #[] 0)).alloc (hb #[hk (X m),hk (X (m+1))] 95)).alloc (hb #[fn (X ⟨m+2,0,Y⟩)] 96));have dz:Bw w1 N:=by rw [<- bw];exact ((((mk _ w1).alloc (lm _) _).alloc (by simp) _).alloc (by simp;omega) _).alloc (by simp;omega) _
   have z1:(w1.alloc (.map #[] 0)).heap.size=m+1:=by rw [<- bk];simp
   have z2:((w1.alloc (.map #[] 0)).alloc (.map #[] 0)).heap.size=m+2:=by rw [<- bk];simp
   have z3:(((w1.alloc (.map #[] 0)).alloc (.map #[] 0)).alloc (hb #[hk (X m),hk (X (m+1))] 95)).heap.size=m+3:=by rw [<- bk];simp
   have ld:m=w.heap.size+1:=by rw [<- bk, <- g1.o];simp
   have f7:=Z ld;have ja:am recB N m []:=by rw [<- bw, <- bk];exact (((am.made w1).alloc _).alloc _).alloc _
   have j4:am recB N (m+1) []:=by rw [<- bw, <- z1];exact ((am.made (w1.alloc (.map #[] 0))).alloc _).alloc _
   have k0:N.heap[m+2]? =X (hb #[hk (X m),hk (X (m+1))] 95 (0,0)):=by rw [<- bw,Below.heap_alloc _ _ _ (by rw [z3];omega), <- z2];exact k2 _ _
   have k4:N.heap[m+3]? =X (hb #[fn (X ⟨m+2,0,Y⟩)] 96 (0,0)):=by rw [<- bw, <- z3];exact k2 _ _
   have b4:=(HM.below em.o).below dz;have gd:=(dz.block _ (ae HV.o)).trans HV.o;have qt:=Z bw;have p4:=Z bk;have HZ:=Z (⟨z1,z2,z3⟩:_/\_/\_);have d7:N.heap.size=m+4:=by rw [<- bw, <- bk];simp
   have ds:=Z (xC F N c M V E (fn Y) d b4);have cv2:Cl N w.heap.size 0 (fn (X ⟨c,0,Y⟩)):=(aa gd 0).trans rfl;have iF:=Z ja;have iD:=Z j4;have qe:=Z k0;have qq:=Z k4;have p0:=Z b4;have j2:=Z gd;have cd:=Z d7;have i8:Hid (Bw w N):=em.trans (dz.mono em.size);clear ld bk bw dz z1 z2 z3 ja j4 k0 k4 b4 gd cv c3 d7;go_upto_region 6 with fail
   rw [p4.o,show m+1+1=m+2 from rfl,show m+2+1=m+3 from rfl,qt.o];obtain ⟨L,hL⟩:=Qe (thereC d);rw [hL] at ds;have HL:=Z hL;clear hL v9;obtain ⟨ps,q1,q2,q3⟩:=HM.vs;have pn:=Z q1;have pt:=Z q2;have iQ:=Z q3;obtain ⟨H,dy⟩:=Qe (restL d ps);have fp:Hid (H.map (λp=>(p.1,p.2.1))=L):=by unfold Hid;rw [<- dy, <- HL.o];exact tq q1
   have pd:Hid (∀p∈H,findK ps p.1=X p.2):=λp I=>vQ HM.ok.ok q1 (dy ▸ I);have fl:Hid (∀p∈H,p∈ps):=λp I=>(List.mem_filter.1 (dy ▸ I:p∈restL d ps)).1;have ls:H.length=L.length:=by rw [<- fp.o,k1]
   have f9:=Z ls;have e6:L.length<=1000:=by rw [<- HL.o];exact wq (As _ _) hn
   have cq:Hid (aw ltRK L):=by unfold Hid;rw [<- HL.o];exact ew HM.o.ok.ok
   have dd:Hid (∀j,j<L.length->rkOk (keyC L j)):=λj hj=>by
    have hm:L[j]∈thereC d:=by rw [HL.o];exact At hj
    rw [dL hj];exact HM.ok.vkey _ (List.mem_filter.1 hm).1
   clear q1 q2 q3 dy ls hn;obtain ⟨n,h6⟩:=Qe L.length;have ay:=Z h6;rw [k1] at ds;rw [h6] at ds e6;clear h6;go_upto_region 9 with (go_at_call 77;refine qs ds.o ?_;rintro e w3 ⟨v3,rfl,hJ,k6⟩;obtain ⟨a3,k3,rfl⟩:=aI hJ;have dn:=Z hJ;have ca:=Z k6;clear hJ k6)
   obtain ⟨A,gz⟩:=Qe w3.heap.size;have f5:=Z gz;have nf:Hid (Bw w w3):=i8.trans (ca.mono i8.size);have qf:Hid (UN w.heap.size A F w3 (m+3) w.heap.size (m+2) m (m+1) c M V E (fn Y) d (L.take 0) (B1 0)):=by have le:=f7.o;have d7:=cd.o;have y8:=ca.size;have Q:∀q,q<N.heap.size->w3.heap[q]? =N.heap[q]? :=ca.block;refine ⟨(Q _ (by omega)).trans qq.o,(Q _ (ae j2.o)).trans j2.o,(Q _ (by omega)).trans qe.o,⟨[],iF.o.block (Q _ iF.o.lt),λk=>rfl⟩,⟨[],iD.o.block (Q _ iD.o.lt),λk=>⟨λh=>(by cases h),?_⟩,λt ht=>absurd ht (by simp),λ_ _ _ _ h=>(by cases h)⟩,p0.o.below ca.o,by omega,⟨by omega,by omega,by omega,by omega,by omega,by omega,by omega,by omega⟩,λk D=>HM.o.lt k D,dS.range 0,gD cq.o 0,λj hj=>absurd hj (by simp),by simp⟩;rintro ⟨t,ht,_⟩;exact absurd ht (by simp)
   have b7:Hid (N.heap.size<=A/\w.heap.size+5<=A/\m=w.heap.size+1):=⟨by rw [<- gz];exact ca.o.size,by have:=cd.o;have:=ca.o.size;have:=f7.o;omega,f7.o⟩;clear gz;go_loopw [5,36] (λv i wr=>∃q:Nat,q<=n/\i=J U q/\Hid (UN w.heap.size A F wr (m+3) w.heap.size (m+2) m (m+1) c M V E (fn Y) d (L.take q) (B1 q))/\Hid (wr.ownsRow A 62 3 v q ((recX (H.take q)).flatMap rdCells))/\Hid (wr.ownsRow N.heap.size 36 2 (hp a3 n k3) n ((L.map (·.1)).flatMap rkCells))/\Hid (Bw w wr)) (λ_ i _=>n - (intOf i).toNat)
   case atStart=>exact ⟨0,AT _,rfl,qf.o,World.ownsRow_nil _ _ _ _,dn.o,nf.o⟩
   case round=>
    obtain ⟨q,hq,rfl,C,a9,O,a0⟩:=hrel;by_cases hlt:q<n
    · have bt:q<L.length:=by rw [ay.o];exact hlt
      obtain ⟨B,x3,c5,_⟩:=Ac O.o (by omega);cases c5;have a8:∀j,j<2->wr.cell? ⟨B,q * 2+j,Y⟩=(rkCells (keyC L q))[j]? :=λj hj=>by
       have e7:q<(L.map (·.1)).length:=by rw [k1];exact bt
       rw [O.o.cellAt (q * 2+j) (by omega),dl rkCells 2 (λ_=>rfl) _ q e7 j hj,Bq,dL bt]
      have e0:Cl wr B (q * 2) (J U (keyC L q).1):=(a8 0 (by omega)).trans rfl;have e1:Cl wr B (q * 2+1) (J U (keyC L q).2):=(a8 1 (by omega)).trans rfl;have D:=dd q bt;have oj:=Z (rfl:keyC L q=keyC L q);obtain ⟨⟨y,z⟩,gy⟩:∃k,keyC L q=k:=⟨_,rfl⟩;have di:=Z gy;rw [gy] at e0 e1 D;dsimp only at e0 e1;have pc:=Z D;clear a8 gy oj;obtain ⟨o,ac⟩:=Qe (wr.alloc (hb #[J U y,J U z] 36));have a4:Bw wr o:=by rw [<- ac];exact (mk _ wr).alloc (lm _) _
      have hF:o.heap[wr.heap.size]? =X (hb #[J U y,J U z] 36 (0,0)):=by rw [<- ac];exact k2 wr _
      obtain ⟨R,av⟩:=Qe wr.heap.size;rw [av] at hF;have au:=Z (C.below a4);have fx:Hid (o.ownsRow A 62 3 u5 q ((recX (H.take q)).flatMap rdCells)):=ag a9.o (λg u=>a4.block g (a9.lt g u).2);have b6:Hid (o.ownsRow N.heap.size 36 2 (hp (X ⟨B,0,Y⟩) n k3) n ((L.map (·.1)).flatMap rkCells)):=ag O.o (λg u=>a4.block g (O.lt g u).2);have bA:Hid (Bw w o):=a0.trans (a4.mono a0.size);have eQ:Hid (B<A):=by have h3:=dn.lt B rfl;rw [f5.o] at h3;exact h3.2
      have cy:=Z ac;have cb:=Z av;have HF:=Z hF;have cp:Hid (A<=R/\o.heap.size=R+1):=⟨by rw [<- av];exact C.o.los.2.2.2.2.2.2.2,by rw [<- ac, <- av];simp⟩;clear ac av a4 hF C a9 O a0;go_upto_region 11 with fail
      rw [cy.o,cb.o];clear e0 e1;obtain ⟨ao,ko,rfl⟩:=aI fx.o;go_cut [5] (λv wx=>v=hp ao q ko/\Hid (UN w.heap.size A F wx (m+3) w.heap.size (m+2) m (m+1) c M V E (fn Y) d (L.take (q+1)) (B1 (q+1)))/\Hid (wx.ownsRow A 62 3 (hp ao q ko) q ((recX (H.take q)).flatMap rdCells))/\Hid (wx.ownsRow N.heap.size 36 2 (hp (X ⟨B,0,Y⟩) n k3) n ((L.map (·.1)).flatMap rkCells))/\Hid (Bw w wx)/\Hid (Bk wx R #[J U y,J U z] 36))
      case first=>
       obtain ⟨l1,aC,E1⟩:=au.of;obtain ⟨l2,b4,M2,M3,M4⟩:=au.mem;have vd:=gI (L:=L) (i:=q) (by omega);have iv:Hid (l1.length<maxLen):=by have:=pm (L:=L.take q) aC (λk D=>by rw [E1] at D;simpa using D);unfold Hid maxLen;omega
       have dk:Hid (l2.length<maxLen):=by
        have:=pm (L:=L.take q) b4 (λk D=>by obtain ⟨t,ht,_,e4⟩:=(M2 k).1 D;rw [<- e4,gg (gD cq.o q) ht];rfl)
        unfold Hid maxLen;omega
       have ad:Hid (m+1≠m/\m≠m+1):=⟨by omega,by omega⟩;have aT:Hid (R+1≠m/\R+1≠m+1):=⟨by have:=cp.o.1;have:=b7.o;omega,by have:=cp.o.1;have:=b7.o;omega⟩;have oF:Hid (∀W,ah (λq=>q=m∨q=m+1) o (λq=>q=m∨q=m+1) W->Cl W (m+3) 0 (fn (X ⟨m+2,0,Y⟩))/\(Cl W (m+2) 0 (hk (X m))/\Cl W (m+2) 1 (hk (X (m+1))))/\Cl W R 0 (J U y)/\Cl W R 1 (J U z)):=λW hW=>by have hz:=cp.o;have ch:=b7.o;have b1:=(hW.block (m+3) (ae au.o.vt) (by omega)).trans au.o.vt;have b2:=(hW.block (m+2) (ae au.o.tb) (by omega)).trans au.o.tb;have b3:=(hW.block R (by omega) (by omega)).trans HF.o;exact ⟨(aa b1 0).trans rfl,⟨(aa b2 0).trans rfl,(aa b2 1).trans rfl⟩,(aa b3 0).trans rfl,(aa b3 1).trans rfl⟩
       have dc:Hid (∀W,ah (λq=>q=m∨q=m+1) o (λq=>q=m∨q=m+1) W->am recB W m (putL l1 (y,z) (.agg #[J U y,J U z]))->am recB W (m+1) (putL l2 (y,z) (hp (X ⟨R+1,0,Y⟩) 1 1))->Bk W (R+1) #[J U y,J U z] 36->
        Hid (UN w.heap.size A F W (m+3) w.heap.size (m+2) m (m+1) c M V E (fn Y) d (L.take (q+1)) (B1 (q+1)))/\Hid (W.ownsRow A 62 3 (hp ao q ko) q ((recX (H.take q)).flatMap rdCells))/\Hid (W.ownsRow N.heap.size 36 2 (hp (X ⟨B,0,Y⟩) n k3) n ((L.map (·.1)).flatMap rkCells))/\Hid (Bw w W)/\Hid (Bk W R #[J U y,J U z] 36)):=λW hW h1 h2 h3=>by
        have hz:=cp.o
        have ch:=b7.o
        have gq:=eQ.o
        have Q:∀p,p<o.heap.size->p≠m->p≠m+1->W.heap[p]? =o.heap[p]? :=λp I p1 p2=>hW.block p I (by omega)
        refine ⟨UN.grow au.o cq.o bt (by rw [ay.o];omega) dd.o E1 (by rw [di.o];exact h1) M2 M3 M4 (nb:=R+1) (by rw [di.o];exact h2) (by rw [di.o];exact h3) (by omega) Q hW.size,ag fx.o (λg u=>?_),ag b6.o (λg u=>?_),?_,(Q R (by omega) (by omega) (by omega)).trans HF.o⟩
        · have hl:=fx.lt g u
          exact Q g hl.2 (by omega) (by omega)
        · have hl:=b6.lt g u
          exact Q g hl.2 (by have:=cd.o;omega) (by have:=cd.o;omega)
        · exact bA.o.trans (hW.below (λk D=>by omega) bA.o.size).1
       clear E1 M2 M3 M4 vd;go_wp2_with fail
       have hP:ah (λq=>q=m∨q=m+1) o (λq=>q=m∨q=m+1) o.drew:=ah.of_below (mk _ o).drew;have aC:=am.drew aC;have b4:=am.drew b4;have i0:o.drew.heap.size=R+1:=cp.2;refine wT (λW=>ah (λq=>q=m∨q=m+1) o (λq=>q=m∨q=m+1) W) 999 ?_;generalize o.drew=W0 at *;refine Qd [0,4,5,9,10,11,1,6,2,7,3,8] hP oF ?_;refine cG (i:=12) (j:=13) rfl rfl (by kernel_rfl) rfl rfl (λK s=>?_) (λK s=>?_)
       · skip;go_simp;try rw [i0]
         have g4:Bw W0 (W0.alloc (hb #[J U y,J U z] 36)):=(mk _ W0).alloc (lm _) _;have sM:(W0.alloc (hb #[J U y,J U z] 36)).heap[R+1]? =X (hb #[J U y,J U z] 36 (0,0)):=by rw [<- i0];exact k2 W0 _
         have md:=hP.trans (ah.of_below g4);have s8:=aC.block (g4.block m (aC.lt));have sb:=b4.block (g4.block (m+1) (b4.lt));generalize W0.alloc (hb #[J U y,J U z] 36)=Wx1 at *;refine s _ _ (λ_=>md) ?_;clear s K;go_simp;refine Dp 13 λK s=>?_;obtain ⟨zz,rs,qy,lQ,ta,hc,wu⟩:=am.entry s8 gJ underlying92 sK (y,z) D iv.o;refine bp rfl lQ ?_;have hS:=md.trans (ah.of_only hc (.inl rfl));have s3:=sb.block (hc.block (m+1) (ad.1));have sz:=(hc.block (R+1) (aT.1)).trans sM;generalize nq Wx1 m (.map rs qy)=Wx7 at *;clear lQ;refine s _ _ (λ_=>hS) ?_;clear s K;go_simp;refine Qc [14] hS ?_
         refine Dp 15 λK s=>?_;obtain ⟨qv,vr,v0,hy⟩:=wu Wx7 (.agg #[J U y,J U z]) ta;refine aZ rfl vr ?_;have mc:=hS.trans (ah.of_only hy (.inl rfl));have s4:=s3.block (hy.block (m+1) (ad.1));have sC:=(hy.block (R+1) (aT.1)).trans sz;refine s _ _ (λ_=>mc) ?_;clear s K;go_simp;refine Dp 16 λK s=>?_;obtain ⟨zd,rc,r1,m0,tc,hd,wz⟩:=am.entry s4 gJ underlying93 eN (y,z) D dk.o;refine bp rfl m0 ?_;have hT:=mc.trans (ah.of_only hd (.inr rfl));have s5:=v0.block (hd.block m (ad.2));have t0:=(hd.block (R+1) (aT.2)).trans sC;generalize nq qv (m+1) (.map rc r1)=Wx25 at *;clear m0;refine s _ _ (λ_=>hT) ?_;clear s K;go_simp;refine Qc [17] hT ?_
         refine Dp 18 λK s=>?_;obtain ⟨x6,vx,v1,hA⟩:=wz Wx25 (hp (X ⟨R+1,0,Y⟩) 1 1) tc;refine aZ rfl vx ?_;have me:=hT.trans (ah.of_only hA (.inr rfl));have s6:=s5.block (hA.block m (ad.2));have t1:=(hA.block (R+1) (aT.2)).trans t0;refine s _ _ (λ_=>me) ?_;clear s K;go_simp;refine dN ?_;go_wp2_with fail
         go_meet;exact ⟨rfl,dc _ me s6 v1 t1⟩
       · skip;obtain ⟨zp,rg,r2,m4,gf,he,n0⟩:=am.entry aC gJ underlying92 sK (y,z) D iv.o;refine bp rfl m4 ?_;have eg:=hP.trans (ah.of_only he (.inl rfl));have i4:=he.size.trans i0;have g9:=b4.block (he.block (m+1) (ad.1));generalize nq W0 m (.map rg r2)=Wx43 at *;clear m4;refine s _ _ (λ_=>eg) ?_;clear s K;go_simp;refine Qc [14] eg ?_
         refine cG (i:=12) (j:=15) rfl rfl (by kernel_rfl) rfl rfl (λK s=>?_) (λK s=>?_)
         · skip;go_simp;try rw [i4]
           have g6:Bw Wx43 (Wx43.alloc (hb #[J U y,J U z] 36)):=(mk _ Wx43).alloc (lm _) _;have t2:(Wx43.alloc (hb #[J U y,J U z] 36)).heap[R+1]? =X (hb #[J U y,J U z] 36 (0,0)):=by rw [<- i4];exact k2 Wx43 _
           have mf:=eg.trans (ah.of_below g6);have ry:=(g6.block m (ae gf)).trans gf;have sa:=g9.block (g6.block (m+1) (g9.lt));generalize Wx43.alloc (hb #[J U y,J U z] 36)=Wx54 at *;refine s _ _ (λ_=>mf) ?_;clear s K;go_simp;refine Dp 15 λK s=>?_;obtain ⟨qx,vy,v2,hB⟩:=n0 Wx54 (.agg #[J U y,J U z]) ry;refine aZ rfl vy ?_;have mm:=mf.trans (ah.of_only hB (.inl rfl));have se:=sa.block (hB.block (m+1) (ad.1));have t3:=(hB.block (R+1) (aT.1)).trans t2;refine s _ _ (λ_=>mm) ?_;clear s K;go_simp;refine Dp 16 λK s=>?_;obtain ⟨zs,rr,r4,m5,td,hh,wB⟩:=am.entry se gJ underlying93 eN (y,z) D dk.o;refine bp rfl m5 ?_;have hX:=mm.trans (ah.of_only hh (.inr rfl));have sl:=v2.block (hh.block m (ad.2));have t4:=(hh.block (R+1) (aT.2)).trans t3;generalize nq qx (m+1) (.map rr r4)=Wx67 at *;clear m5;refine s _ _ (λ_=>hX) ?_;clear s K;go_simp;refine Qc [17] hX ?_
           refine Dp 18 λK s=>?_;obtain ⟨x7,vN,v4,hC⟩:=wB Wx67 (hp (X ⟨R+1,0,Y⟩) 1 1) td;refine aZ rfl vN ?_;have mp:=hX.trans (ah.of_only hC (.inr rfl));have sm:=sl.block (hC.block m (ad.2));have t5:=(hC.block (R+1) (aT.2)).trans t4;refine s _ _ (λ_=>mp) ?_;clear s K;go_simp;refine dN ?_;go_wp2_with fail
           go_meet;exact ⟨rfl,dc _ mp sm v4 t5⟩
         · skip;obtain ⟨bY,w0,gP,hE⟩:=n0 Wx43 (.agg #[J U y,J U z]) gf;refine aZ rfl w0 ?_;have hY:=eg.trans (ah.of_only hE (.inl rfl));have i6:=hE.size.trans i4;have gb:=g9.block (hE.block (m+1) (ad.1));refine s _ _ (λ_=>hY) ?_;clear s K;go_simp;refine cG (i:=12) (j:=16) rfl rfl (by kernel_rfl) rfl rfl (λK s=>?_) (λK s=>?_)
           · skip;go_simp;try rw [i6]
             have g8:Bw bY (bY.alloc (hb #[J U y,J U z] 36)):=(mk _ bY).alloc (lm _) _;have t6:(bY.alloc (hb #[J U y,J U z] 36)).heap[R+1]? =X (hb #[J U y,J U z] 36 (0,0)):=by rw [<- i6];exact k2 bY _
             have ms:=hY.trans (ah.of_below g8);have sn:=gP.block (g8.block m (gP.lt));have sp:=gb.block (g8.block (m+1) (gb.lt));generalize bY.alloc (hb #[J U y,J U z] 36)=Wx92 at *;refine s _ _ (λ_=>ms) ?_;clear s K;go_simp;refine Dp 16 λK s=>?_;obtain ⟨A1,r9,qz,lP,t9,h8,wf⟩:=am.entry sp gJ underlying93 eN (y,z) D dk.o;refine bp rfl lP ?_;have hQ:=ms.trans (ah.of_only h8 (.inr rfl));have rW:=sn.block (h8.block m (ad.2));have ss:=(h8.block (R+1) (aT.2)).trans t6;generalize nq Wx92 (m+1) (.map r9 qz)=Wx98 at *;clear lP;refine s _ _ (λ_=>hQ) ?_;clear s K;go_simp;refine Qc [17] hQ ?_
             refine Dp 18 λK s=>?_;obtain ⟨x4,vn,tO,ho⟩:=wf Wx98 (hp (X ⟨R+1,0,Y⟩) 1 1) t9;refine aZ rfl vn ?_;have m7:=hQ.trans (ah.of_only ho (.inr rfl));have s0:=rW.block (ho.block m (ad.2));have st:=(ho.block (R+1) (aT.2)).trans ss;refine s _ _ (λ_=>m7) ?_;clear s K;go_simp;refine dN ?_;go_wp2_with fail
             go_meet;exact ⟨rfl,dc _ m7 s0 tO st⟩
           · skip;obtain ⟨z9,ra,r0,lT,kc,h9,wp⟩:=am.entry gb gJ underlying93 eN (y,z) D dk.o;refine bp rfl lT ?_;have hR:=hY.trans (ah.of_only h9 (.inr rfl));have n9:=h9.size.trans i6;have j3:=gP.block (h9.block m (ad.2));generalize nq bY (m+1) (.map ra r0)=Wx116 at *;clear lT;refine s _ _ (λ_=>hR) ?_;clear s K;go_simp;refine Qc [17] hR ?_
             refine Dp 12 λK s=>?_;go_simp;try rw [n9]
             have g2:Bw Wx116 (Wx116.alloc (hb #[J U y,J U z] 36)):=(mk _ Wx116).alloc (lm _) _;have su:(Wx116.alloc (hb #[J U y,J U z] 36)).heap[R+1]? =X (hb #[J U y,J U z] 36 (0,0)):=by rw [<- n9];exact k2 Wx116 _
             have ma:=hR.trans (ah.of_below g2);have s1:=j3.block (g2.block m (j3.lt));have rx:=(g2.block (m+1) (ae kc)).trans kc;generalize Wx116.alloc (hb #[J U y,J U z] 36)=Wx127 at *;refine s _ _ (λ_=>ma) ?_;clear s K;go_simp;refine Dp 18 λK s=>?_;obtain ⟨x5,vq,up,hw⟩:=wp Wx127 (hp (X ⟨R+1,0,Y⟩) 1 1) rx;refine aZ rfl vq ?_;have mb:=ma.trans (ah.of_only hw (.inr rfl));have s2:=s1.block (hw.block m (ad.2));have sx:=(hw.block (R+1) (aT.2)).trans su;refine s _ _ (λ_=>mb) ?_;clear s K;go_simp;refine dN ?_;go_wp2_with fail
             go_meet;exact ⟨rfl,dc _ mb s2 up sx⟩
      case rest=>
       obtain ⟨rfl,dx,cm,it,d9,ib⟩:=hcut;have e8:q<H.length:=by rw [f9.o];exact bt
       have fy:Hid (H.take (q+1)=H.take q++[H[q]]):=List.take_succ_eq_append_getElem e8;have bs:H[q].1=(y,z):=by
        rw [<- di.o,dL bt];have h2:=fp.o;have:L[q]=(H[q].1,H[q].2.1):=by
         have:=Bq (l:=H) (f:=λp:RK×VX=>(p.1,p.2.1)) (i:=q) (h:=by rw [k1];exact e8);rw [<- this];congr 1
         exact h2.symm
        rw [this]
       have d0:=pd _ (At e8);have gt:=fl _ (At e8);obtain ⟨p,I⟩:=Qe (H[q]);rw [I] at fy bs d0 gt;obtain ⟨pk,⟨d8,r⟩,x⟩:=p;dsimp only at bs;subst bs;obtain ⟨_,_,kq,_,_⟩:=iQ _ gt;obtain ⟨xa,xc,b8⟩:=kq.shape;dsimp only at b8 d0;subst b8;clear kq I gt;obtain ⟨rk,rl,fs⟩:=r;dsimp only at d0 fy;have q6:Hid ((recX (H.take (q+1))).flatMap rdCells=(recX (H.take q)).flatMap rdCells++[J hK rk.toNat,J hK rl.toNat,hp xa fs.length xc]):=by unfold Hid recX;rw [fy.o,List.map_append,List.flatMap_append];rfl
       have x2:=dx.los;have xv:R<wc.heap.size:=ae ib.o;have n4:∀{g:Nat},(AS ao q ko).ownBlock=X g->∃cu,Bk wc g cu 62:=λ{g} u=>aA cm.o u;have nE:Hid (∀W,wc.grownBy W (AS ao q ko).ownBlock->Cl W w.heap.size 0 (fn (X ⟨c,0,Y⟩))/\Cl W c 0 (.map M)/\(Cl W R 0 (J U y)/\Cl W R 1 (J U z))/\(Bo 113 (.map M) (.agg #[J U y,J U z]) false).run prog W= .ok (.agg #[J U y,J U z,J U d8,J hK rk.toNat,J hK rl.toNat,hp xa fs.length xc]) W):=λW hW=>by
        have D:∀{g:Nat} {cs:Array Value} {ty:TypeId},wc.heap[g]? =X (hb cs ty (0,0))->ty≠62->W.heap[g]? =X (hb cs ty (0,0)):=λ{g cs ty} u va=>(hW.block g (ae u) (λe=>by obtain ⟨cu,ax⟩:=n4 e.symm;exact dt u ax va rfl)).trans u
        have b1:=D dx.vc (by decide);have b2:=D dx.cat.blk (by decide);have b3:=D ib.o (by decide);refine ⟨(aa b1 0).trans rfl,(aa b2 0).trans rfl,⟨(aa b3 0).trans rfl,(aa b3 1).trans rfl⟩,?_⟩;have tz:bW recB W M (ps.map λp=>(p.1,ir p.1 p.2)):=by refine pt.block (λb Q=>?_);have te:=HM.f1 b Q;have kk:=HM.lt b te;have h1:=d9.block b kk;refine (hW.block b (Nat.lt_of_lt_of_le kk d9.size) (λe=>?_)).trans h1;have:=(cm.lt b e.symm).1;omega
        have:=bW.look (w:=W) tz underlying113 jD (y,z) pc.o;rw [eP,d0] at this;exact this
       have gi:=λW=>ww y z d8 rk.toNat rl.toNat xa fs.length xc W;obtain ⟨iN,kt,n6,n7,n8⟩:=info_parts i62;have HI:=Z kt;have nF:=Z n6;have nO:=Z n7;have oa:=Z n8;clear d0 n4 kt n6 n7 n8;go_wp2_with fail
       have gp:wc.grownBy wc.drew (AS ao q ko).ownBlock:=⟨rfl,rfl,rfl,lm _,λ_ _ _=>rfl⟩;refine wT (λW=>wc.grownBy W (AS ao q ko).ownBlock) 999 ?_;refine Qd [0,1,5,2,3,4,6] gp nE ?_;refine Qd [7] gp (λw' h=>gi w') ?_
       refine Dp 8 λK s=>?_;go_simp;have ks:wc.grownBy (wc.drew.alloc (hb #[J hK rk.toNat,J hK rl.toNat,hp xa fs.length xc] 62)) (AS ao q ko).ownBlock:=gp.trans ((World.grownBy_alloc _ _ Y).but _);refine s _ _ (λ_=>ks) ?_;clear s K;refine Dp 9 λK s=>?_;obtain ⟨v',w7,d4,lo,tr,_,_⟩:=run_append_own_at (P:=prog) (wc.drew.alloc (hb #[J hK rk.toNat,J hK rl.toNat,hp xa fs.length xc] 62)) A 59 59 62 iN (.agg #[J hK 0,J hK 0,hp Y 0 0]) 3 32 underlying59 HI.o nF.o nO.o oa.o rfl (by decide) (hp ao q ko) q _ (World.ownsRow.alloc (w:=wc.drew) cm.o _) ⟨wc.drew.heap.size,0,Y⟩ 1 1 [J hK rk.toNat,J hK rl.toNat,hp xa fs.length xc] rfl (mq wc.drew _ _ _ 62) (by simp [Value.oneCell']) (by unfold maxLen;omega) (by omega) (by have:=x2.2.2.2.2.2.2.2;simp;show A<=wc.heap.size+1;omega);refine kZ rfl rfl rfl d4 ?_;obtain ⟨xb,z4,rfl⟩:=aI lo;have bc:=ks.trans tr;refine s _ _ (λ_=>bc) ?_;clear s K;go_simp;refine Qc [10] bc ?_
       refine dN ?_;go_wp2_with fail
       have gs:∀p,p<wc.heap.size->(p<A∨∀c,wc.heap[p]? ≠X (Obj.cells c 62 (0,0)))->w7.heap[p]? =wc.heap[p]? :=λp I h=>bc.block p I (λe=>by
        rcases h with h|h
        · have:=(cm.lt p e.symm).1;omega
        · obtain ⟨cu,ax⟩:=aA cm.o e.symm;exact h cu ax)
       go_roundw
       case rel=>
        refine ⟨q+1,hlt,by go_num,dx.o.keep (by decide) (by decide) (by decide) (by decide) gs bc.size,?_,ag it.o (λg u=>?_),d9.o.trans ⟨bc.os,bc.tape,bc.output,bc.size,λp I=>gs p (Nat.lt_of_lt_of_le I d9.o.size) (.inl (by have:=b7.o;omega))⟩⟩
        · unfold Hid;rw [q6.o];exact lo
        · obtain ⟨cu,ax⟩:=aA it.o u;exact gs g (ae ax) (.inr λc e=>by rw [ax] at e;injection e with e;injection e with _ e;exact absurd e (by decide))
       case measure=>simp [intOf];omega
    · obtain rfl:q=n:=by omega
      have n2:L.take q=L:=AC (by rw [ay.o];omega);have n3:H.take q=H:=AC (by rw [f9.o,ay.o];omega);rw [n2] at C;rw [n3] at a9;clear n2 n3 hlt hq;obtain ⟨T,d3⟩:=Qe (d.ps.map (·.1));have e7:T.length<=5000:=by rw [<- d3,k1];exact HM.o.ok.plen
      have aS:Bw wr (wr.alloc (hb #[.map E] 115)):=(mk _ wr).alloc (lm _) _;have hZ:=nL 8 (by omega) wr.heap.size E (d.ps.map λp=>(p.1,ff p.2)) (wr.alloc (hb #[.map E] 115)) (by rw [B2];rfl) (C.o.cat.ps.block (λb Q=>aS.block b (C.o.cat.lt b (C.o.cat.f3 b Q)))) (λb Q=>by have:=C.o.cat.lt b (C.o.cat.f3 b Q);simp;omega);have lb:(d.ps.map λp=>(p.1,ff p.2)).map (·.1)=T:=by rw [Cj, <- d3];rfl
      rw [lb] at hZ;have j1:=Z (nu 10 (by omega) 121 #[fn (X ⟨wr.heap.size,0,Y⟩)] (enters_of func121 (by kernel_rfl) rfl) T (by omega) _ _ (λz6 x hx=>by have:=hx.1;rw [k1] at this;have:=HM.o.ok.plen;omega) _ hZ);have mv:cC ltPK T=T:=by refine bq df (.refl _) ?_;have hs:=HM.ok.ok.ps;unfold aw at hs;rw [<- d3,List.pairwise_map];exact hs
      rw [mv] at j1;have ob:=Z (uT E wr);have cv:=(aa C.vc 0).trans rfl;have c2:Cl wr c 2 (.map E):=(aa C.cat.blk 2).trans rfl;have ex:=Z aS;have fr:=Z d3;clear hZ lb mv aS d3;obtain ⟨ao,ko,rfl⟩:=aI a9.o
      go_upto_region 16 with (first
       |(go_at_call 66;((with_reducible refine qs ob.o ?_);rintro e w4 ⟨rfl,rfl⟩))
       |(go_at_call 65;((with_reducible refine qs j1.o ?_);rintro e w5 ⟨v5,rfl,hN,bb⟩;obtain ⟨a5,k5,rfl⟩:=aI hN;have py:=Z hN;have nx:=Z bb;clear hN bb)))
      have bb:Bw wr w5:=ex.trans (nx.mono ex.size);have qk:Hid (UN w.heap.size A F w5 (m+3) w.heap.size (m+2) m (m+1) c M V E (fn Y) d L (lw d.ps L (d.ps.take 0))):=by have h:=C.below bb;rw [<- ay.o] at h;exact h
      have qb:Hid (w5.ownsRow A 62 3 (hp ao q ko) q ((recX H).flatMap rdCells)):=ag a9.o (λg u=>bb.block g (a9.lt g u).2);have op:Hid (w5.ownsRow N.heap.size 36 2 (hp a3 q k3) q ((L.map (·.1)).flatMap rkCells)):=ag O.o (λg u=>bb.block g (O.lt g u).2);have ny:Hid (Bw w w5):=a0.trans (bb.mono a0.size);have pz:Hid (w5.ownsRow A 134 4 (hp a5 T.length k5) T.length (T.flatMap pkCells)):=bG py.o (by have:=C.o.los.2.2.2.2.2.2.2;have:=ex.o.size;omega);clear bb C a9 O a0 cv c2;go_loopw [76] (λi wr=>∃j:Nat,j<=T.length/\i=J U j/\Hid (UN w.heap.size A F wr (m+3) w.heap.size (m+2) m (m+1) c M V E (fn Y) d L (lw d.ps L (d.ps.take j)))/\Hid (wr.ownsRow A 62 3 (hp ao q ko) q ((recX H).flatMap rdCells))/\Hid (wr.ownsRow N.heap.size 36 2 (hp a3 q k3) q ((L.map (·.1)).flatMap rkCells))/\Hid (wr.ownsRow A 134 4 (hp a5 T.length k5) T.length (T.flatMap pkCells))/\Hid (Bw w wr)) (λi _=>T.length - (intOf i).toNat)
      case atStart=>exact ⟨0,AT _,rfl,qk.o,qb.o,op.o,pz.o,ny.o⟩
      case round=>
       obtain ⟨j,hj,rfl,C,a9,O,al,a0⟩:=hrel;by_cases hlj:j<T.length
       · have kx:j<d.ps.length:=by rw [<- fr.o,k1] at hlj;exact hlj
         obtain ⟨g5,ys,c5,_⟩:=Ac al.o (by omega);cases c5;have lx:T[j]=d.ps[j].1:=by simp [<- fr.o]
         have a8:∀i,i<4->wr.cell? ⟨g5,j * 4+i,Y⟩=(pkCells d.ps[j].1)[i]? :=λi hi=>by rw [al.o.cellAt (j * 4+i) (by omega),dl pkCells 4 (λ_=>rfl) _ j hlj i hi,lx]
         have b0:=Z (vI d.ps L j kx);have gQ:=At kx;have bs:=HM.ok.pkey _ gQ;have gn:findK d.ps d.ps[j].1=X d.ps[j].2:=(dQ df HM.ok.ok.ps).2 gQ;obtain ⟨p,I⟩:=Qe (d.ps[j]);rw [I] at a8 b0 bs gn;clear I gQ lx;obtain ⟨⟨⟨a1,a2⟩,b1,b2⟩,d8,jn⟩:=p;dsimp only at bs gn b0 a8;have e0:Cl wr g5 (j * 4) (J U a1):=(a8 0 (by omega)).trans rfl;have e1:Cl wr g5 (j * 4+1) (J U a2):=(a8 1 (by omega)).trans rfl;have e2:Cl wr g5 (j * 4+2) (J U b1):=(a8 2 (by omega)).trans rfl;have e3:Cl wr g5 (j * 4+3) (J U b2):=(a8 3 (by omega)).trans rfl;clear a8;obtain ⟨o,ac⟩:=Qe (wr.alloc (hb #[J U a1,J U a2,J U b1,J U b2] 134));have a4:Bw wr o:=by rw [<- ac];exact (mk _ wr).alloc (lm _) _
         have hF:o.heap[wr.heap.size]? =X (hb #[J U a1,J U a2,J U b1,J U b2] 134 (0,0)):=by rw [<- ac];exact k2 wr _
         obtain ⟨R,av⟩:=Qe wr.heap.size;rw [av] at hF;have au:=Z (C.below a4);have dr:Hid (o.ownsRow A 62 3 (hp ao q ko) q ((recX H).flatMap rdCells)):=ag a9.o (λg u=>a4.block g (a9.lt g u).2);have b6:Hid (o.ownsRow N.heap.size 36 2 (hp a3 q k3) q ((L.map (·.1)).flatMap rkCells)):=ag O.o (λg u=>a4.block g (O.lt g u).2);have b9:Hid (o.ownsRow A 134 4 (hp (X ⟨g5,0,Y⟩) T.length k5) T.length (T.flatMap pkCells)):=ag al.o (λg u=>a4.block g (al.lt g u).2);have bA:Hid (Bw w o):=a0.trans (a4.mono a0.size);have cy:=Z ac;have cb:=Z av;have HF:=Z hF;clear ac a4 hF av C a9 O al a0;have da:Hid (∀W,Bw o W->Cl W w.heap.size 0 (fn (X ⟨c,0,Y⟩))/\Cl W c 2 (.map E)/\(Cl W R 0 (J U a1)/\Cl W R 1 (J U a2)/\Cl W R 2 (J U b1)/\Cl W R 3 (J U b2))/\(Bo 115 (.map E) (.agg #[J U a1,J U a2,J U b1,J U b2]) false).run prog W= .ok (.agg #[J U d8,ih jn]) W):=λW Q=>by have hu:=au.below Q;have e2:=m8 ((Q.block _ (ae HF.o)).trans HF.o);refine ⟨(aa hu.vc 0).trans rfl,(aa hu.cat.blk 2).trans rfl,e2,?_⟩;have:=bW.look (w:=W) hu.cat.ps underlying115 fI ((a1,a2),b1,b2) bs;rw [eP d.ps (λ_ v=>ff v),gn] at this;exact this
         go_upto_region 18 with fail
         rw [cy.o,cb.o];clear e0 e1 e2 e3;have gi:=λW=>lY d8 jn W;go_wp2_with fail
         have c4:Bw o o.drew:=(mk _ o).drew;refine Wb o 999 ?_;refine Qd [0,1,2,3,4,5] c4 da ?_;refine Qd [6] c4 (λw' h=>gi w') ?_
         refine dN ?_;rcases jn with _|_
         · have cx:Hid (UN w.heap.size A F o.drew (m+3) w.heap.size (m+2) m (m+1) c M V E (fn Y) d L (lw d.ps L (d.ps.take (j+1)))):=by unfold Hid;rw [b0.o,if_neg (by decide)];exact au.below c4
           go_wp2_with fail
           go_roundw
           case rel=> exact ⟨j+1,hlj,by go_num,cx,dr,b6,b9,bA.trans (mk _ o).drew⟩
           case measure=>simp [intOf];omega
         · have c9:=qC w.heap.size A F o.drew (m+3) w.heap.size (m+2) m (m+1) c M V E (fn Y) d L (lw d.ps L (d.ps.take j)) (au.below c4) ((a1,a2),b1,b2) bs;dsimp only [pairV] at c9;have fz:=Z c9;obtain ⟨_,_,⟨f0,f1,f2,f3⟩,_⟩:=da _ c4;clear c9;go_wp2_with (go_at_call 78;((with_reducible refine qs fz.o ?_);rintro e w6 ⟨rfl,d5,cP,cQ⟩;have g0:=Z d5;have eq:=Z cP;have bB:=Z cQ;clear d5 cP cQ))
           have ch:=b7.o;have cx:Hid (UN w.heap.size A F w6 (m+3) w.heap.size (m+2) m (m+1) c M V E (fn Y) d L (lw d.ps L (d.ps.take (j+1)))):=by unfold Hid;rw [b0.o,if_pos (by decide)];exact g0.o
           go_roundw
           case rel=>
            refine ⟨j+1,hlj,by go_num,cx,ag dr.o (λg u=>?_),ag b6.o (λg u=>?_),ag b9.o (λg u=>?_),(bA.trans (mk _ o).drew).trans eq.o⟩
            · have hl:=dr.lt g u;obtain ⟨cu,ax⟩:=aA dr.o u;exact bB.o g hl.2 (by omega) (by omega) (.inr λc2 e=>by rw [show o.drew.heap[g]? =o.heap[g]? from rfl,ax] at e;injection e with e;injection e with _ e;exact absurd e (by decide))
            · have hl:=b6.lt g u;have l7:=dn.lt g u;rw [f5.o] at l7;have d7:=cd.o;exact bB.o g hl.2 (by omega) (by omega) (.inl l7.2)
            · have hl:=b9.lt g u;obtain ⟨cu,ax⟩:=aA b9.o u;exact bB.o g hl.2 (by omega) (by omega) (.inr λc2 e=>by rw [show o.drew.heap[g]? =o.heap[g]? from rfl,ax] at e;injection e with e;injection e with _ e;exact absurd e (by decide))
           case measure=>simp [intOf];omega
       · have gx:j=T.length:=by omega
         subst gx;have lv:d.ps.take T.length=d.ps:=AC (by rw [<- fr.o,k1];exact lm _);rw [lv] at C;clear lv hlj hj al;obtain ⟨xs,b8⟩:=Qe (recX H);have cg:xs.length=q:=by rw [<- b8];unfold recX;rw [k1,f9.o,ay.o]
         rw [b8] at a9;have m6:mF wr (hp ao q ko) xs:=by refine ⟨by rw [cg];exact (aX a9.o).mono (AT _) (lm _),λp I=>?_⟩;rw [<- b8] at I;obtain ⟨p',hG,rfl⟩:=List.mem_map.1 I;obtain ⟨z5,y4,f1,f2,f3⟩:=iQ p' (fl p' hG);exact (f1.kept (λk a b=>a0.block k (HM.lt k (f3 k a b).1))).mono (AT _) (wq f2 a0.size)
         have mt:∀p∈xs,bI p.1.fields:=λp I=>by
          rw [<- b8] at I;obtain ⟨p',hG,rfl⟩:=List.mem_map.1 I;have hm:(p'.1,p'.2.1)∈d.vs:=by rw [<- pn.o];exact List.mem_map.2 ⟨p',fl p' hG,rfl⟩
          exact (dC (HM.ok.right _ hm)).2.2
         obtain ⟨G,d2⟩:=Qe (pairsR (L.map λp=>p.2.2));have n5:pairsR (xs.map (·.1))=G:=by rw [<- d2, <- b8, <- fp.o];unfold recX;rw [Cj,Cj];rfl
         have hI:=xY wr (hp ao q ko) xs m6 (by rw [cg];exact e6) mt;rw [n5] at hI;have pf:=Z hI;have pi:=Z d2;have y7:G.length<=1000000:=by rw [<- d2];have h1:=vT (L.map λp=>p.2.2);rw [k1,ay.o] at h1;exact wq h1 (wq (Nat.mul_le_mul e6 e6) (by decide))
         have pe:Hid (∀(j:Nat) (h:j<G.length),(G[j]).1<L.length/\(G[j]).2<L.length):=λj h=>by have:=re (l:=L.map λp=>p.2.2) G[j] (by rw [d2];exact At h);rwa [k1] at this
         clear m6 mt hI n5 d2 cg b8;go_upto_region 22 with (go_at_call 79;((with_reducible refine qs pf.o ?_);rintro e w7 ⟨v7,rfl,d4,k8⟩;obtain ⟨a7,k7,rfl⟩:=aI d4;have q0:=Z d4;have er:=Z k8;clear d4 k8))
         have qn:Hid (UN w.heap.size A F w7 (m+3) w.heap.size (m+2) m (m+1) c M V E (fn Y) d L (oQ d.ps L (G.take 0))):=C.below er.o;have ov:Hid (w7.ownsRow N.heap.size 36 2 (hp a3 q k3) q ((L.map (·.1)).flatMap rkCells)):=ag O.o (λg u=>er.block g (O.lt g u).2);have nz:Hid (Bw w w7):=a0.trans (er.mono a0.size);have q4:Hid (w7.ownsRow A 67 2 (hp a7 G.length k7) G.length (G.flatMap dK)):=bG q0.o C.los.2.2.2.2.2.2.2;clear C O a0 a9;go_loopw [94] (λi wr=>∃j:Nat,j<=G.length/\i=J U j/\Hid (UN w.heap.size A F wr (m+3) w.heap.size (m+2) m (m+1) c M V E (fn Y) d L (oQ d.ps L (G.take j)))/\Hid (wr.ownsRow N.heap.size 36 2 (hp a3 q k3) q ((L.map (·.1)).flatMap rkCells))/\Hid (wr.ownsRow A 67 2 (hp a7 G.length k7) G.length (G.flatMap dK))/\Hid (Bw w wr)) (λi _=>G.length - (intOf i).toNat)
         case atStart=>exact ⟨0,AT _,rfl,qn.o,ov.o,q4.o,nz.o⟩
         case round=>
          obtain ⟨j,hj,rfl,C,O,al,a0⟩:=hrel;by_cases hlj:j<G.length
          · obtain ⟨c6,c7⟩:=pe j hlj;have b0:=Z (vH d.ps cq.o G j hlj c6 c7);have bt:0<q:=by rw [<- ay.o];omega
            obtain ⟨g7,z0,c5,_⟩:=Ac al.o (by omega);cases c5;obtain ⟨B,x3,c5,_⟩:=Ac O.o bt;cases c5;have a8:∀i,i<2->wr.cell? ⟨g7,j * 2+i,Y⟩=(dK G[j])[i]? :=λi hi=>by rw [al.o.cellAt (j * 2+i) (by omega),dl dK 2 (λ_=>rfl) _ j hlj i hi]
            have d1:∀a,a<L.length->∀i,i<2->wr.cell? ⟨B,a * 2+i,Y⟩=(rkCells (keyC L a))[i]? :=λa ha i hi=>by
             have e7:a<(L.map (·.1)).length:=by rw [k1];exact ha
             rw [O.o.cellAt (a * 2+i) (by rw [<- ay.o];omega),dl rkCells 2 (λ_=>rfl) _ a e7 i hi,Bq,dL ha]
            obtain ⟨p,I⟩:=Qe (G[j]);rw [I] at c6 c7 b0 a8;clear I;obtain ⟨pa,pb⟩:=p;dsimp only at c6 c7 b0;have ky:=dd pa c6;have e4:=dd pb c7;have x0:=d1 pa c6 0 (by omega);have x1:=d1 pa c6 1 (by omega);have y0:=d1 pb c7 0 (by omega);have y1:=d1 pb c7 1 (by omega);rw [ay.o] at c6 c7;obtain ⟨ka,kz⟩:=Qe (keyC L pa);obtain ⟨kb,l3⟩:=Qe (keyC L pb);rw [kz] at x0 x1 ky b0;rw [l3] at y0 y1 e4 b0;clear kz l3 d1;obtain ⟨a1,a2⟩:=ka;obtain ⟨b1,b2⟩:=kb;have x0:Cl wr B (pa * 2) (J U a1):=x0;have x1:Cl wr B (pa * 2+1) (J U a2):=x1;have y0:Cl wr B (pb * 2) (J U b1):=y0;have y1:Cl wr B (pb * 2+1) (J U b2):=y1;have e0:Cl wr g7 (j * 2) (J U (pa:Int)):=(a8 0 (by omega)).trans rfl;have e1:Cl wr g7 (j * 2+1) (J U (pb:Int)):=(a8 1 (by omega)).trans rfl;clear a8;obtain ⟨o,ac⟩:=Qe (wr.alloc (hb #[J U (pa:Int),J U (pb:Int)] 67));have a4:Bw wr o:=by rw [<- ac];exact (mk _ wr).alloc (lm _) _
            have hF:o.heap[wr.heap.size]? =X (hb #[J U (pa:Int),J U (pb:Int)] 67 (0,0)):=by rw [<- ac];exact k2 wr _
            obtain ⟨R,av⟩:=Qe wr.heap.size;rw [av] at hF;have gq:B<wr.heap.size:=(O.lt B rfl).2;have b5:∀i,o.cell? ⟨B,i,Y⟩=wr.cell? ⟨B,i,Y⟩:=λi=>Ci (a:=⟨B,i,Y⟩) (a4.block B gq);have X0:=Z ((b5 _).trans x0);have X1:=Z ((b5 _).trans x1);have Y0:=Z ((b5 _).trans y0);have Y1:=Z ((b5 _).trans y1);have au:=Z (C.below a4);have b6:Hid (o.ownsRow N.heap.size 36 2 (hp (X ⟨B,0,Y⟩) q k3) q ((L.map (·.1)).flatMap rkCells)):=ag O.o (λg u=>a4.block g (O.lt g u).2);have b9:Hid (o.ownsRow A 67 2 (hp (X ⟨g7,0,Y⟩) G.length k7) G.length (G.flatMap dK)):=ag al.o (λg u=>a4.block g (al.lt g u).2);have bA:Hid (Bw w o):=a0.trans (a4.mono a0.size);have cy:=Z ac;have cb:=Z av;have HF:=Z hF;have q7:=Z C.los.2.2.2.2.2.2.2;clear ac a4 hF av C O al a0 x0 x1 y0 y1 b5 gq;go_upto_region 24 with fail
            rw [cy.o,cb.o];clear e0 e1;have c4:Bw o o.drew:=(mk _ o).drew;have c9:=qC w.heap.size A F o.drew (m+3) w.heap.size (m+2) m (m+1) c M V E (fn Y) d L (oQ d.ps L (G.take j)) (au.below c4) ((a1,a2),b1,b2) ⟨ky,e4⟩;dsimp only [pairV] at c9;have fz:=Z c9;clear c9;have eQ:Hid (B<A):=by have h3:=dn.lt B rfl;rw [f5.o] at h3;exact h3.2
            have da:Hid (∀W:World,(W.heap[R]? =o.heap[R]? /\W.heap[B]? =o.heap[B]?)->(Cl W R 0 (J U (pa:Int))/\Cl W R 1 (J U (pb:Int)))/\Cl W B (pa * 2) (J U a1)/\Cl W B (pa * 2+1) (J U a2)/\Cl W B (pb * 2) (J U b1)/\Cl W B (pb * 2+1) (J U b2)):=λW Q=>by have kd:=Q.1.trans HF.o;have b5:∀i,W.cell? ⟨B,i,Y⟩=o.cell? ⟨B,i,Y⟩:=λi=>Ci (a:=⟨B,i,Y⟩) Q.2;exact ⟨⟨(aa kd 0).trans rfl,(aa kd 1).trans rfl⟩,(b5 _).trans X0.o,(b5 _).trans X1.o,(b5 _).trans Y0.o,(b5 _).trans Y1.o⟩
            have t8:o.drew.heap[R]? =o.heap[R]? /\o.drew.heap[B]? =o.heap[B]? :=⟨rfl,rfl⟩;have i1:(pa:Int)<(q:Int):=by omega
            have i2:(pb:Int)<(q:Int):=by omega
            go_wp2_with fail
            refine wT (λW=>W.heap[R]? =o.heap[R]? /\W.heap[B]? =o.heap[B]?) 999 ?_;refine Qd [0,1,2,3,4,5,6,7,8,9,10,11] t8 da ?_;refine Dp 12 λK s=>?_;go_simp;go_at_call 78;with_reducible refine qs fz.o ?_
            rintro e w6 ⟨rfl,d5,cP,cQ⟩;have g0:=Z d5;have eq:=Z cP;have bB:=Z cQ;clear d5 cP cQ;have ch:=b7.o;have d7:=cd.o;have la:=b6.lt B rfl;have t7:R<o.heap.size:=ae HF.o;have y2:A<=R:=by rw [<- cb.o];exact q7.o
            have jb:w6.heap[R]? =o.heap[R]? /\w6.heap[B]? =o.heap[B]? :=
             ⟨bB.o R t7 (by omega) (by omega) (.inr λc2 e=>by rw [show o.drew.heap[R]? =o.heap[R]? from rfl,HF.o] at e;injection e with e;injection e with _ e;exact absurd e (by decide)),
              bB.o B la.2 (by omega) (by omega) (.inl eQ.o)⟩
            refine s _ _ (λ_=>jb) ?_;clear s K;refine dN ?_;have cx:Hid (UN w.heap.size A F w6 (m+3) w.heap.size (m+2) m (m+1) c M V E (fn Y) d L (oQ d.ps L (G.take (j+1)))):=by unfold Hid;rw [b0.o];exact g0.o
            go_wp2_with fail
            go_roundw
            case rel=>
             refine ⟨j+1,hlj,by go_num,cx,ag b6.o (λg u=>?_),ag b9.o (λg u=>?_),(bA.trans (mk _ o).drew).trans eq.o⟩
             · injection u with u
               subst u;exact jb.2
             · have hl:=b9.lt g u;obtain ⟨cu,ax⟩:=aA b9.o u;exact bB.o g hl.2 (by omega) (by omega) (.inr λc2 e=>by rw [show o.drew.heap[g]? =o.heap[g]? from rfl,ax] at e;injection e with e;injection e with _ e;exact absurd e (by decide))
            case measure=>simp [intOf];omega
          · have gx:j=G.length:=by omega
            subst gx;rw [List.take_length, <- pi.o, <- HL.o] at C;have cc:Hid (UN w.heap.size A F wr (m+3) w.heap.size (m+2) m (m+1) c M V E (fn Y) d (thereC d) (setsC d)):=by have h:=C.o;rw [vG] at h;exact h
            clear C O al hlj hj;obtain ⟨l6,gO,ml⟩:=cc.sortI;have c0:=(aa cc.vt 0).trans rfl;have c1:=(aa cc.tb 1).trans rfl;obtain ⟨ws,rfl⟩:∃ws,ws=wr:=⟨_,rfl⟩;obtain ⟨R6,cz⟩:=Qe ws.heap.size;have p3:=Z gO;have j0:=Z ml;have f6:=Z cc.los.2.2.2.2.2.2.2;have lf:=gO.nodup;have p5:=Z lf;clear gO ml lf;go_upto_region 27 with (refine nh _ rfl _ _ rfl 52 underlying93 (m+1) _ rfl p3.o ?_;intro w8 hO k9 y9;rw [cz] at hO;have q5:=Z hO;have ia:=Z k9;clear hO k9)
            have qc:Hid (fF A R6 w8 l6 l6 (thereC d) (setsC d)):=by have h:=j0.o;rw [cz] at h;exact h.far (λk v hv g u=>ia.o.block g (by rw [cz];exact h.lt k v hv g u))
            have oc:Hid (fH A ws w8):=fH.of ia.o f6.o;have cl:=Z cz;clear c0 c1 j0 cz;go_simp;go_loopg [] (l6.length+1) (λg wr=>∃left:List (RK×Value),left.length<g/\Hid (cn recB wr (m+1) R6 l6 left)/\Hid (fF A R6 wr l6 left (thereC d) (setsC d))/\Hid (fH A ws wr))
            case atStart=>exact ⟨l6,by omega,q5,qc,oc⟩
            case round=>
             obtain ⟨left,la,HR,HS,f4⟩:=hrel;rw [<- cl.o] at HR;go_wp2_with (refine qo _ rfl _ rfl (m+1) ws.heap.size l6 left rfl HR.o ?_ ?_)
             · intro ts;subst ts;have ch:=b7.o;have hu:=cc.o;have D:=f4.o;have kl:=hu.cat.blk;have th:c<A:=by omega
               have b1:=(D.b.block c th).trans kl;have b2:=(D.b.block w.heap.size (by omega)).trans hu.vc;have b3:=(D.b.block (m+3) (by omega)).trans hu.vt;have c1:Cl wr w.heap.size 0 (fn (X ⟨c,0,Y⟩)):=(aa b2 0).trans rfl;have c2:Cl wr (m+3) 0 (fn (X ⟨m+2,0,Y⟩)):=(aa b3 0).trans rfl;have c3:Cl wr c 3 (fn Y):=(aa b1 3).trans rfl;have f3:=ab b1 3;have y5:w.heap.size≠c:=by omega
               have y6:m+3≠c:=by omega
               have hD:=UN.done cc.o rfl rfl f4.o HR.map HS.o;have HD:=Z hD;have mP:ah F w F (wr.setCell ⟨c,3,Y⟩ (fn (X ⟨m+2,0,Y⟩))):=(ah.of_below (a0.o.trans (D.b.mono (by omega)))).trans (ah.of_only (aq.setCell (aq.refl c wr) 3 _) HM.o.fc);have bO:=Z mP;clear hD mP b1 b2 b3 kl hu D ch;go_wp2_with fail
               refine bodyPost_ret (results_tmp rfl _ _ _) rfl ⟨m+2,_,M,V,E,rfl,HD.1,HD.2,?_⟩;exact ⟨bO.os,bO.tape,bO.output,bO.size,bO.block,λk D=>D.imp id (λh=>h.1)⟩
             · intro y z pv w9 I vb lE tx h7 tl;have n1:left.Sublist l6:=by obtain ⟨es,f,xk,h1,h2,h3,h4,_⟩:=HR.o;exact h4
               have e5:lookL l6 (y,z)=X pv:=(bz p5.o).2 (n1.subset I);have ej:fF A R6 w9 l6 left (thereC d) (setsC d):=HS.o.far (λk v hv g u=>h7.block g (by have:=HS.o.lt k v hv g u;have:=cl.o;omega));obtain ⟨t,xs,ht,rt,l4,e9,hH⟩:=ej.at e5;have cg:xs.length<=1000000:=by have h1:=hH.length_eq;have h2:=jY (thereC d) (setsC d) t;rw [HL.o,ay.o] at h2;rw [HL.o] at h1;omega
               have ne:=Z (qO A w9 pv xs e9 cg);have qa:=Z e9;have qd:=Z ej;have oi:Hid (fH A ws w9):=f4.only h7 (lm _) f6.o;have iS:Hid (∀g,pv.ownBlock=X g->A<=g/\g<R6):=λg u=>⟨(e9.lt g u).1,ej.lt (y,z) pv e5 g u⟩;have ft:=Z lE;have f8:Hid (t<(thereC d).length/\keyC (thereC d) t=(y,z)/\xs.Perm (aW (thereC d) (setsC d) t)):=⟨ht,l4,hH⟩;have oN:=Z e5;have l5:recB.kv (y,z)=recK (y,z):=rfl;rw [l5] at tl;clear n1 e5 ej e9 lE ht rt l4 hH I vb h7 cg l5;go_wp2_with (go_at_call 80;((with_reducible refine qs ne.o ?_);rintro e A2 ⟨rfl,lB,lk⟩;have px:=Z lB;have iP:=Z lk;clear lB lk))
               go_roundg (left.length)
               case rel=>
                obtain ⟨o1,o2,o3,o4,o5⟩:=iP.o;have le:=ft.map.lt;have wa:=ft.lt;have ch:=b7.o;rw [<- cl.o];refine ⟨ct left (y,z),tx,ft.o.kept (o5 _ le (λe=>by have:=iS.o _ e;omega)) (o5 _ wa (λe=>by have:=iS.o _ e;have:=cl.o;omega)),?_,oi.o.sort qa.o iP.o f6.o⟩;have wb:aw ltRK (thereC d):=by rw [HL.o];exact cq.o
                rw [cl.o];exact qd.next wb oN.o f8.1 f8.2.1 f8.2.2 px.o o5
               case measure=>omega
 · have HT:Hid (cV (restF F c M V E) w1 t (thereC d) (setsC d)):=ht.step (λk hr=>aS.block k (hM.lt k hr.1)) aS.size;have oR:=Z aC;have bO:Hid (ah F w F w1):=ah.of_below aS;clear hM aC ht aS hV d6;go_enter func41,ntmps41;go_upto_region 1 with fail
   rw [g1.o];go_wp2_with fail
   refine bodyPost_ret (results_tmp rfl _ _ _) rfl ⟨t,F,M,V,E,rfl,oR.o,HT.o,bO.o⟩
theorem sS {d:aE} (h:d.Ok) (k:RK):k∈cW d↔∃t,t<(thereC d).length/\(setsC d).getD t 0=t/\keyC (thereC d) t=k:=by
 rw [nk h,List.mem_map];constructor
 · rintro ⟨t,b,a⟩;rw [By,BY,decide_eq_true_eq] at b;exact ⟨t,b.1,b.2,a⟩
 · rintro ⟨t,c,e,a⟩;exact ⟨t,by rw [By,BY,decide_eq_true_eq];exact ⟨c,e⟩,a⟩
theorem iu {d:aE} (h:d.Ok):(cW d).Pairwise λa b=>ltRK a b=true:=by
 rw [nk h,List.pairwise_map];refine List.Pairwise.imp_of_mem (λ{a b} f c e=>?_) (List.Pairwise.filter _ List.pairwise_lt_range);rw [By,BY] at c;exact jP (ew h) e c.1
theorem xR {l:List RK} (h:l.Pairwise λa b=>ltRK a b=true):l.Nodup:=h.imp λ{a b} h e=>by rw [e,aN.irr] at h;cases h
theorem rK {d:aE} (h:d.Ok) {w:World} {b:Nat} {l:List (RK×Value)} (a:am recB w b l) (e:∀k,(lookL l k).isSome=true↔∃t,t<(thereC d).length/\(setsC d).getD t 0=t/\keyC (thereC d) t=k):cC ltRK (l.map (·.1))=cW d:=by
 refine bq aN ((List.perm_ext_iff_of_nodup a.nodup (xR (iu h))).2 λk=>?_) (iu h);rw [sS h, <- e,List.mem_map];constructor
 · rintro ⟨p,f,rfl⟩;rw [(bz a.nodup (k:=p.1) (v:=p.2)).2 f];rfl
 · intro c;obtain ⟨v,g⟩:=Option.isSome_iff_exists.1 c;exact ⟨(k,v),(bz a.nodup).1 g,rfl⟩
theorem sT (d:aE):(cW d).length<=(thereC d).length:=by
 unfold cW;rw [k1];refine wq (As _ _) ?_;unfold nA;rw [k1,List.length_range];exact lm _
theorem nn {d:aE}:(thereC d).length<=d.vs.length:=As _ _
theorem xN (d:aE):(nA d).length=(thereC d).length:=by unfold nA;rw [k1,List.length_range]
structure AM (F F':Nat->Prop) (w w':World) (c t mo mm:Nat) (d:aE):Prop where
 cat:bL F' w' c d
 step:ah F w F' w'
 tb:Bk w' t #[.map (some mo), .map (some mm)] 95
 of:BF w' mo (thereC d) (setsC d)
 mem:zl F' w' mm (thereC d) (setsC d)
 lt:∀k,F' k->k<w'.heap.size
 ft:F' t/\F' mo/\F' mm
 ok:bf d
theorem yE (F:Nat->Prop) (w:World) (c:Nat) (d:aE) (h:bL F w c d) (D:d.vs.length<=1000):
 Calls prog 41 #[fn (X ⟨c,0,Y⟩)] w λe w'=>∃(t i f:Nat) (a:Nat->Prop),e=g3 (fn (X ⟨t,0,Y⟩))/\AM F a w w' c t i f d:=by
 refine (Ar F w c d h D).mono ?_;rintro e w' ⟨t,a,H,I,K,rfl,b,C,B⟩;obtain ⟨i,f,q,r,s,u,x,l,y,z,A⟩:=C;refine ⟨t,i,f,a,rfl,⟨_,_,_,_,b⟩,B,q,x,⟨l,y,z,λt E G=>?_⟩,b.lt,⟨r.1,s.1,u.1⟩,b.ok⟩;obtain ⟨v,k,g,n,j,m,o,p⟩:=A t E G;exact ⟨v,k,g,n,j,m,o.1,p⟩
theorem eI (F:Nat->Prop) (w:World) (c:Nat) (d:aE) (h:bL F w c d) (O:d.vs.length<=1000):
 Calls prog 18 #[fn (X ⟨c,0,Y⟩)] w λe w'=>∃(v:Value) (i:Nat->Prop),e=g3 v/\bL i w' c d/\ah F w i w'/\w'.ownsRow w.heap.size 36 2 v (cW d).length ((cW d).flatMap rkCells)/\∀g,v.ownBlock=X g->¬i g:=by
 have E:=Z (yE F w c d h O);clear h;go_enter func18,ntmps18;go_wp2_with (go_at_call 41;((with_reducible refine qs E.o ?_);rintro e w1 ⟨t,T,m,i,rfl,p⟩;have c1:Cl w1 t 1 (hk (X m)):=((aa p.tb 1).trans rfl);have a:=Z p;clear p))
 obtain ⟨l,j,A,_⟩:=a.mem;have B:=a.ok.ok;have r:=rK B j A;have q:(l.map (·.1)).length=(cW d).length:=by rw [<- r,nv]
 have o:Bw w1 (w1.alloc (hb #[hk (X m)] 93)):=(mk _ w1).alloc (lm _) _;have C:=yl 8 (by omega) w1.heap.size (X m) l (w1.alloc (hb #[hk (X m)] 93)) (by rw [B2];rfl) (am.block j (o.block _ j.lt)) (λb f=>by injection f with f;subst f;have:=j.lt;simp;omega);have N:l.length<=1000:=by have H:=sT d;have I:=nn (d:=d);rw [k1] at q;omega
 have y:=Z (gX 10 (by omega) 95 #[fn (X ⟨w1.heap.size,0,Y⟩)] (enters_of func95 (by kernel_rfl) rfl) (l.map (·.1)) (by rw [k1];omega) _ _ (λV x P=>by have:=P.1;omega) _ C);rw [r,q] at y;have G:=Z (Af (X m) w1);have n:=Z o;clear C r q o j A N B
 go_wp2_with (first
  |(go_at_call 51;((with_reducible refine qs G.o ?_);rintro e w2 ⟨rfl,rfl⟩))
  |(go_at_call 47;((with_reducible refine qs y.o ?_);rintro e Q ⟨v,rfl,s,z⟩;obtain ⟨W,vc,rfl⟩:=aI s;have u:=Z s;have D:=Z z;clear s z)))
 go_ret;have f:Bw w1 Q:=n.trans (D.mono n.size);refine ⟨_,i,rfl,a.cat.step (λk M=>f.block k (a.lt k M)) f.size,a.step.trans (ah.of_below f),bG u.o (wq a.step.size n.size),λg L K=>?_⟩;have H:=(u.lt g L).1;have I:=a.lt g K;have R:=n.size;omega
theorem pr {F:Nat->Prop} {w:World} {j:Nat} {d:aE} (y:bf d) (h:zl F w j (thereC d) (setsC d)) (k:RK) (r:rkOk k):∃(a:Option Addr) (c:Nat),eu 0 w.heap.size w (.slice a (membersC d k).length c) (membersC d k)/\
 ∀W,W.heap[j]? =w.heap[j]? ->(Bo 93 (hk (X j)) (recK k) false).run prog W= .ok (.slice a (membersC d k).length c) W:=by
 obtain ⟨l,s,p,u⟩:=h;cases hl:lookL l k with
 |some v=>
  obtain ⟨t,i,o,f⟩:=(p k).1 (by rw [hl];rfl);obtain ⟨B,b,g,n,z,rfl,_,q⟩:=u t i o;rw [f,hl] at b;injection b with b
  subst b;have e:=rp y.ok i;rw [f] at e;rw [e];obtain ⟨a,c,x,A⟩:=id q;injection x with he1 he2 he3
  subst he2;refine ⟨_,_,q,λW m=>?_⟩;have:=am.look (am.block s m) underlying93 (eN W) k r;rw [hl] at this;exact this
 |none=>
  have e:membersC d k=[]:=pq λt i o f=>by have:=(p k).2 ⟨t,i,o,f⟩;rw [hl] at this;cases this
  rw [e];refine ⟨Y,0,⟨Y,0,rfl,λh=>absurd rfl h⟩,λW m=>?_⟩;have:=am.look (am.block s m) underlying93 (eN W) k r;rw [hl] at this;exact this
theorem rq (d:aE) (k:RK):(membersC d k).length<=(thereC d).length:=by
 unfold membersC;rw [k1];refine wq (As _ _) ?_;rw [xN];exact lm _
theorem ck (F:Nat->Prop) (w:World) (c:Nat) (d:aE) (h:bL F w c d) (T:d.vs.length<=1000) (k:RK) (B:rkOk k):
 Calls prog 22 #[fn (X ⟨c,0,Y⟩),recK k] w λe w'=>∃(v:Value) (m:Nat->Prop),e=g3 v/\bL m w' c d/\ah F w m w'/\w'.ownsRow w.heap.size 36 2 v (membersC d k).length ((membersC d k).flatMap rkCells)/\∀g,v.ownBlock=X g->¬m g:=by
 have Q:∀k,F k->k<w.heap.size:=by obtain ⟨m1,m2,m3,kn,hM⟩:=h;exact hM.lt
 obtain ⟨b,f⟩:=k;obtain ⟨i,p⟩:=Qe (membersC d (b,f));have R:i.length<=1000:=by rw [<- p];have L:=rq d (b,f);have h2:=nn (d:=d);omega
 obtain ⟨l,r⟩:=Qe (w.alloc (hb #[J U b,J U f] 36));have z:Bw w l:=by rw [<- r];exact (mk _ w).alloc (lm _) _
 have M:l.heap[w.heap.size]? =X (hb #[J U b,J U f] 36 (0,0)):=by rw [<- r];exact k2 w _
 have o:l.drew.heap[w.heap.size]? =X (hb #[J U b,J U f] 36 (0,0)):=M;have P:=yE F l.drew c d (h.below z.drew) T;have a3:=Z P;have a4:=Z Q;have a6:=Z p;have a5:=Z R;have a7:=Z r;have H:=Z z;rw [p];show Calls prog 22 #[fn (X ⟨c,0,Y⟩), .agg #[J U b,J U f]] w _;clear h T Q R r z P p M;go_enter func22,ntmps22;go_upto_region 1 with fail
 rw [a7.o];have a0:Hid (∀W:World,Bk W w.heap.size #[J U b,J U f] 36->Cl W w.heap.size 0 (J U b)/\Cl W w.heap.size 1 (J U f)):=λW h=>⟨(aa h 0).trans rfl,(aa h 1).trans rfl⟩;go_wp2_with fail
 refine wT (λW=>Bk W w.heap.size #[J U b,J U f] 36) 999 ?_;refine Qc [0] o ?_
 refine Qd [5] o a0 ?_
 refine Dp 1 λK n=>?_;go_simp;go_at_call 41;with_reducible refine qs a3.o ?_
 rintro e j ⟨t,mo,G,m,rfl,O⟩;have a:=Z O;clear O;have a8:w.heap.size<l.drew.heap.size:=ae o;have x:Bk j w.heap.size #[J U b,J U f] 36:=(a.o.step.block _ a8 (λy=>by have:=a4.o _ y;omega)).trans o;obtain ⟨ma,mc,D,C⟩:=pr a.ok a.mem (b,f) B;rw [a6.o] at D C;have a2:=Z (λ(W:World) (N:Bw j W)=>yW (hp ma i.length mc) i.length (i.flatMap rkCells) W ((aF.kept D (λq _ hq=>N.block q hq)).mono (lm _) N.size) (oZ i) (uH i) (by have:=a5.o;omega));have V:Bw j j:=mk _ j;refine n _ _ (λ_=>x) ?_;clear n K;go_simp;refine eM (λW=>Bw j W) (λW h=>(h.block _ (ae x)).trans x) _ _ _ _ ?_;have a1:Hid (∀W,Bw j W->Cl W t 1 (hk (X G))/\(Bo 93 (hk (X G)) (.agg #[J U b,J U f]) false).run prog W= .ok (hp ma i.length mc) W):=λW h=>⟨(aa ((h.block _ (ae a.tb)).trans a.tb) 1).trans rfl,C W (h.block _ (a.lt G a.ft.2.2))⟩;clear C D;refine Qd [2,3,4,6] V a1 ?_;refine Dp 7 λK n=>?_;go_simp;go_at_call 52;with_reducible refine qs (a2.o j V) ?_
 rintro e w4 ⟨v,rfl,E,A⟩;obtain ⟨va,vc,rfl⟩:=aI E;have I:=Z E;have u:=Z A;clear E;refine n _ _ (λ_=>A) ?_;clear n K;go_simp;refine Qc [8] A ?_
 refine dN ?_;go_wp2_with fail
 go_ret;refine ⟨_,m,rfl,a.cat.step (λk B=>u.block k (a.lt k B)) u.size,((ah.of_below H.drew).trans a.step).trans (ah.of_below u.o),bG I.o ?_,λg hg y=>?_⟩
 · exact wq H.size a.step.size
 · have L:=(I.lt g hg).1;have h2:=a.lt g y;omega
end
end Go.Proofs.YtjcimanddakkaaaGreatDoor
