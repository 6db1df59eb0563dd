/- Lemmas. -/
import Derived.Test.YtjcimanddakkaaaGreatDoorCT27
import Derived.Test.YtjcimanddakkaaaGreatDoorCT30
set_option maxRecDepth 100000
set_option maxHeartbeats 8000000
namespace Go.Proofs.YtjcimanddakkaaaGreatDoor
open Go.Ending renaming returned→fn
open Go.Obj renaming cells→g3
open _root_.Option renaming some→X,none→Y
open Go.Lib renaming hid→Z
open Go.Value renaming map→hb,pointer→hk,int→J,slice→hK,bool→k1
open Go.IntKind renaming i64→U,u8→ih
open Tryz
open _root_.List renaming length_map→k2,getElem_mem→ya,take_of_length_le→y4,length_filter_le→y5,getElem_map→y7,take_succ_eq_append_getElem→zb,pairwise_map→zd,mem_filter→zs,perm_ext_iff_of_nodup→zz,mem_range→z4,range→z5,map_map→z6,flatMap_append→Ac
open Go.World renaming alloc_heap_new→lm,cell?_alloc_new→y8,cell?_of_block→za,grownBy_alloc→z9,ownsRow_nil→As
open Go.RowKit.Below renaming refl→mk,heap_setCell→wq,heap_alloc→zp
open _root_.Nat renaming le_refl→nq,le_trans→xv,lt_of_lt_of_le→y3,zero_le→y6
open Go.Calls renaming mono→qs
open Go.ChangeMaps renaming setBlock→xk
open Go.Instr renaming lookup→yc
open Go.World.ownsRow renaming form→ys
open Go.Value renaming slice→y2
open Go renaming World→y9,bodyPost_ret→z0
open Go.Addr renaming add→At
section
open Go.RowKit Go.Maps Go.Shelf
theorem BT(F:Nat->Prop)(w:y9)(c:Nat)(d:aB)(h:bG F w c d)(hn:d.vs.length<=1000):
 Calls prog 41 #[.pointer c] w λe w'=>∃(t:Nat)(F':Nat->Prop)(M V E:Option Nat),e=fn (.pointer t)/\ed F' w' c M V E (.pointer t) d/\dv (restF F' c M V E) w' t (thereC d) (setsC d)/\ai F w F' w':=by
 obtain⟨M,V,E,kn,hM⟩:=h;have vz:=hM.lt c hM.fc;obtain⟨w1,cQ⟩:=Qe (w.alloc (g3 #[.pointer c] 24));have az:Bw w w1:=by rw[<- cQ];exact(mk _ w).alloc (nq _) _
 have hV:w1.heap[w.heap.size]?=X (g3 #[.pointer c] 24 (0,0)):=by rw[<- cQ];exact lm w _
 have ay:=hM.below az;have c3:Cl w1 c 3 kn:=(ab ay.blk 3).trans rfl;have cv:Cl w1 w 0 (.pointer c):=(ab hV 0).trans rfl;have fp:=Z cQ;rcases hM.kn with rfl|⟨t,rfl,ht⟩;rotate_left
 .have HT:Hid (dv (restF F c M V E) w1 t (thereC d) (setsC d)):=ht.step (λk hr=>az.block k (hM.lt k hr.1)) az.size;have nO:=Z ay;have bt:Hid (ai F w F w1):=ai.of_below az;clear hM ay ht az hV cQ;go_enter func41,ntmps41;go_upto_region 1 with fail;rw[fp.o];go_wp2_with fail;refine z0 (results_tmp rfl _ _ _) rfl ⟨t,F,M,V,E,rfl,nO.o,HT.o,bt.o⟩
 have HM:=Z hM;have e7:=Z az;have HV:=Z hV;clear hM ay hV az cQ;go_enter func41,ntmps41;go_upto_region 1 with fail;rw[fp.o];go_upto_region 5 with fail;have t8:= @run_makeMap prog;obtain⟨m,bb⟩:=Qe w1.heap.size;obtain⟨N,bk⟩:=Qe ((((w1.alloc (.map #[] 0)).alloc (.map #[] 0)).alloc (g3 #[hb (X m),hb (X (m+1))] 95)).alloc (g3 #[hk (X ⟨m+2,0,Y⟩)] 96));have dk:Bw w1 N:=by rw[<- bk];exact((((mk _ w1).alloc (nq _) _).alloc (by simp) _).alloc (by simp;omega) _).alloc (by simp;omega) _
 have z1:(w1.alloc (.map #[] 0)).heap.size=m+1:=by rw[<- bb];simp
 have z2:((w1.alloc (.map #[] 0)).alloc (.map #[] 0)).heap.size=m+2:=by rw[<- bb];simp
 have z3:(((w1.alloc (.map #[] 0)).alloc (.map #[] 0)).alloc (g3 #[hb (X m),hb (X (m+1))] 95)).heap.size=m+3:=by rw[<- bb];simp
 have l3:m=w+1:=by rw[<- bb,<- fp.o];simp
 have er:=Z l3;have iS:an recB N m []:=by rw[<- bk,<- bb];exact(((an.made w1).alloc _).alloc _).alloc _
 have iQ:an recB N (m+1) []:=by rw[<- bk,<- z1];exact((an.made (w1.alloc (.map #[] 0))).alloc _).alloc _
 have j1:N.heap[m+2]?=X (g3 #[hb (X m),hb (X (m+1))] 95 (0,0)):=by rw[<- bk,zp _ _ _ (by rw[z3];omega),<- z2];exact lm _ _
 have j2:N.heap[m+3]?=X (g3 #[hk (X ⟨m+2,0,Y⟩)] 96 (0,0)):=by rw[<- bk,<- z3];exact lm _ _
 have aT:=(HM.below e7.o).below dk;have g1:=(dk.block _ (af HV.o)).trans HV.o;have q5:=Z bk;have oc:=Z bb;have HZ:=Z (⟨z1,z2,z3⟩:_/\_/\_);have d0:N=m+4:=by rw[<- bk,<- bb];simp
 have da:=Z (yF F N c M V E (hk Y) d aT);have cv2:Cl N w 0 (.pointer c):=(ab g1 0).trans rfl;have i8:=Z iS;have i6:=Z iQ;have px:=Z j1;have q4:=Z j2;have oa:=Z aT;have iF:=Z g1;have c7:=Z d0;have hX:Hid (Bw w N):=e7.trans (dk.mono e7.size);clear l3 bb bk dk z1 z2 z3 iS iQ j1 j2 aT g1 cv c3 d0;go_upto_region 6 with fail;rw[oc.o,show m+1+1=m+2 from rfl,show m+2+1=m+3 from rfl,q5.o];obtain⟨L,hL⟩:=Qe (thereC d);rw[hL]at da;have HL:=Z hL;clear hL t8;obtain⟨ps,q1,q2,q3⟩:=HM.vs;have oN:=Z q1;have oR:=Z q2;have ib:=Z q3;obtain⟨H,dd⟩:=Qe (restL d ps);have f5:Hid (H.map (λp=>(p.1,p.2.1))=L):=by unfold Hid;rw[<- dd,<- HL.o];exact iZ q1
 have oj:Hid (∀p∈H,findK ps p.1=X p.2):=λp I=>wR HM.ok.ok q1 (dd▸I);have f4:Hid (∀p∈H,p∈ps):=λp I=>(List.mem_filter.1 (dd▸I:p∈restL d ps)).1;have lb:H.length=L.length:=by rw[<- f5.o,k2]
 have eQ:=Z lb;have dx:L.length<=1000:=by rw[<- HL.o];exact xv (y5 _ _) hn
 have cg:Hid (aH ltRK L):=by unfold Hid;rw[<- HL.o];exact cW HM.o.ok.ok
 have d5:Hid (∀j,j<L.length->rkOk (keyC L j)):=λj hj=>by
  have hm:L[j]∈thereC d:=by rw[HL.o];exact ya hj
  rw[cD hj];exact HM.ok.vkey _ (List.mem_filter.1 hm).1
 clear q1 q2 q3 dd lb hn;obtain⟨n,gt⟩:=Qe L.length;have ax:=Z gt;rw[k2]at da;rw[gt]at da dx;clear gt;go_upto_region 9 with(go_at_call 77;refine qs da.o ?_;rintro e w3⟨v3,rfl,hA,j3⟩;obtain⟨a3,k3,rfl⟩:=aQ hA;have d8:=Z hA;have c4:=Z j3;clear hA j3)
 obtain⟨A,gn⟩:=Qe w3.heap.size;have em:=Z gn;have n3:Hid (Bw w w3):=hX.trans (c4.mono hX.size);have py:Hid (UN w A F w3 (m+3) w (m+2) m (m+1) c M V E (hk Y) d (L.take 0) (z5 0)):=by have l4:=er.o;have d0:=c7.o;have wf:=c4.size;have Q:∀q,q<N.heap.size->w3.heap[q]?=N.heap[q]?:=c4.block;refine⟨(Q _ (by omega)).trans q4.o,(Q _ (af iF.o)).trans iF.o,(Q _ (by omega)).trans px.o,⟨[],i8.o.block (Q _ i8.o.lt),λk=>rfl⟩,⟨[],i6.o.block (Q _ i6.o.lt),λk=>⟨λh=>(by cases h),?_⟩,λt ht=>absurd ht (by simp),λ_ _ _ _ h=>(by cases h)⟩,oa.o.below c4.o,by omega,⟨by omega,by omega,by omega,by omega,by omega,by omega,by omega,by omega⟩,λk D=>HM.o.lt k D,cw.range 0,gV cg.o 0,λj hj=>absurd hj (by simp),by simp⟩;rintro⟨t,ht,_⟩;exact absurd ht (by simp)
 have b5:Hid (N<=A/\w+5<=A/\m=w+1):=⟨by rw[<- gn];exact c4.o.size,by have:=c7.o;have:=c4.o.size;have:=er.o;omega,er.o⟩;clear gn;go_loopw [5,36] (λv i wr=>∃q:Nat,q<=n/\i=J U q/\Hid (UN w A F wr (m+3) w (m+2) m (m+1) c M V E (hk Y) d (L.take q) (z5 q))/\Hid (wr.ownsRow A 62 3 v q ((recX (H.take q)).flatMap rdCells))/\Hid (wr.ownsRow N 36 2 (hK a3 n k3) n ((L.map (·.1)).flatMap rkCells))/\Hid (Bw w wr)) (λ_ i _=>n-(intOf i).toNat)
 case atStart=>exact⟨0,y6 _,rfl,py.o,As _ _ _ _,d8.o,n3.o⟩
 obtain⟨q,hq,rfl,C,a9,O,a0⟩:=hrel;by_cases hlt:q<n
 .have bd:q<L.length:=by rw[ax.o];exact hlt
  obtain⟨B,v2,bA,_⟩:=ys O.o (by omega);cases bA;have a8:∀j,j<2->wr.cell? ⟨B,q*2+j,Y⟩=(rkCells (keyC L q))[j]?:=λj hj=>by
   have dy:q<(L.map (·.1)).length:=by rw[k2];exact bd
   rw[O.o.cellAt (q*2+j) (by omega),cE rkCells 2 (λ_=>rfl) _ q dy j hj,y7,cD bd]
  have e0:Cl wr B (q*2) (J U (keyC L q).1):=(a8 0 (by omega)).trans rfl;have e1:Cl wr B (q*2+1) (J U (keyC L q).2):=(a8 1 (by omega)).trans rfl;have D:=d5 q bd;have nx:=Z (rfl:keyC L q=keyC L q);obtain⟨⟨y,z⟩,gi⟩:∃k,keyC L q=k:=⟨_,rfl⟩;have d6:=Z gi;rw[gi]at e0 e1 D;dsimp only at e0 e1;have oi:=Z D;clear a8 gi nx;obtain⟨o,aa⟩:=Qe (wr.alloc (g3 #[y,z] 36));have a4:Bw wr o:=by rw[<- aa];exact(mk _ wr).alloc (nq _) _
  have hF:o.heap[wr.heap.size]?=X (g3 #[y,z] 36 (0,0)):=by rw[<- aa];exact lm wr _
  obtain⟨R,au⟩:=Qe wr.heap.size;rw[au]at hF;have al:=Z (C.below a4);have f8:Hid (o.ownsRow A 62 3 u5 q ((recX (H.take q)).flatMap rdCells)):=aj a9.o (λg u=>a4.block g (a9.lt g u).2);have b4:Hid (o.ownsRow N 36 2 (hK B n k3) n ((L.map (·.1)).flatMap rkCells)):=aj O.o (λg u=>a4.block g (O.lt g u).2);have bl:Hid (Bw w o):=a0.trans (a4.mono a0.size);have eg:Hid (B<A):=by have h3:=d8.lt B rfl;rw[em.o]at h3;exact h3.2
  have ci:=Z aa;have c5:=Z au;have HF:=Z hF;have cd:Hid (A<=R/\o=R+1):=⟨by rw[<- au];exact C.o.los.2.2.2.2.2.2.2,by rw[<- aa,<- au];simp⟩;clear aa au a4 hF C a9 O a0;go_upto_region 11 with fail;rw[ci.o,c5.o];clear e0 e1;obtain⟨ao,ko,rfl⟩:=aQ f8.o;go_cut [5] (λv wx=>v=hK ao q ko/\Hid (UN w A F wx (m+3) w (m+2) m (m+1) c M V E (hk Y) d (L.take (q+1)) (z5 (q+1)))/\Hid (wx.ownsRow A 62 3 (hK ao q ko) q ((recX (H.take q)).flatMap rdCells))/\Hid (wx.ownsRow N 36 2 (hK B n k3) n ((L.map (·.1)).flatMap rkCells))/\Hid (Bw w wx)/\Hid (Bk wx R #[y,z] 36))
  case first=>
   obtain⟨l1,ay,E1⟩:=al.of;obtain⟨l2,aT,M2,M3,M4⟩:=al.mem;have tc:=hE (L:=L) (i:=q) (by omega);have i4:Hid (l1<maxLen):=by have:=pW (L:=L.take q) ay (λk D=>by rw[E1]at D;simpa using D);unfold Hid maxLen;omega
   have d7:Hid (l2<maxLen):=by
    have:=pW (L:=L.take q) aT (λk D=>by obtain⟨t,ht,_,dq⟩:=(M2 k).1 D;rw[<- dq,fD (gV cg.o q) ht];rfl)
    unfold Hid maxLen;omega
   have ac:Hid (m+1≠m/\m≠m+1):=⟨by omega,by omega⟩;have aC:Hid (R+1≠m/\R+1≠m+1):=⟨by have:=cd.o.1;have:=b5.o;omega,by have:=cd.o.1;have:=b5.o;omega⟩;have nE:Hid (∀W,ai (λq=>q=m∨q=m+1) o (λq=>q=m∨q=m+1) W->Cl W (m+3) 0 (hk (X ⟨m+2,0,Y⟩))/\(Cl W (m+2) 0 (hb (X m))/\Cl W (m+2) 1 (hb (X (m+1))))/\Cl W R 0 y/\Cl W R 1 z):=λW hW=>by have hz:=cd.o;have ca:=b5.o;have b1:=(hW.block (m+3) (af al.o.vt) (by omega)).trans al.o.vt;have b2:=(hW.block (m+2) (af al.o.tb) (by omega)).trans al.o.tb;have b3:=(hW.block R (by omega) (by omega)).trans HF.o;exact⟨(ab b1 0).trans rfl,⟨(ab b2 0).trans rfl,(ab b2 1).trans rfl⟩,(ab b3 0).trans rfl,(ab b3 1).trans rfl⟩
   have d4:Hid (∀W,ai (λq=>q=m∨q=m+1) o (λq=>q=m∨q=m+1) W->an recB W m (putL l1 (y,z) (.agg #[y,z]))->an recB W (m+1) (putL l2 (y,z) (hK (X ⟨R+1,0,Y⟩) 1 1))->Bk W (R+1) #[y,z] 36->
    Hid (UN w A F W (m+3) w (m+2) m (m+1) c M V E (hk Y) d (L.take (q+1)) (z5 (q+1)))/\Hid (W.ownsRow A 62 3 (hK ao q ko) q ((recX (H.take q)).flatMap rdCells))/\Hid (W.ownsRow N 36 2 (hK B n k3) n ((L.map (·.1)).flatMap rkCells))/\Hid (Bw w W)/\Hid (Bk W R #[y,z] 36)):=λW hW h1 h2 h3=>by
    have hz:=cd.o
    have ca:=b5.o
    have g9:=eg.o
    have Q:∀p,p<o.heap.size->p≠m->p≠m+1->W.heap[p]?=o.heap[p]?:=λp I p1 p2=>hW.block p I (by omega)
    refine⟨UN.grow al.o cg.o bd (by rw[ax.o];omega) d5.o E1 (by rw[d6.o];exact h1) M2 M3 M4 (nb:=R+1) (by rw[d6.o];exact h2) (by rw[d6.o];exact h3) (by omega) Q hW.size,aj f8.o (λg u=>?_),aj b4.o (λg u=>?_),?_,(Q R (by omega) (by omega) (by omega)).trans HF.o⟩
    .have hl:=f8.lt g u
     exact Q g hl.2 (by omega) (by omega)
    .have hl:=b4.lt g u
     exact Q g hl.2 (by have:=c7.o;omega) (by have:=c7.o;omega)
    .exact bl.o.trans (hW.below (λk D=>by omega) bl.o.size).1
   clear E1 M2 M3 M4 tc;go_wp2_with fail;have hG:ai (λq=>q=m∨q=m+1) o (λq=>q=m∨q=m+1) o.drew:=ai.of_below (mk _ o).drew;have ay:=an.drew ay;have aT:=an.drew aT;have hR:o.drew=R+1:=cd.2;refine wT (λW=>ai (λq=>q=m∨q=m+1) o (λq=>q=m∨q=m+1) W) 999 ?_;generalize o.drew=W0 at*;refine Qd [0,4,5,9,10,11,1,6,2,7,3,8] hG nE ?_;refine cF (i:=12) (j:=13) rfl rfl (by kernel_rfl) rfl rfl (λK s=>?_) (λK s=>?_)
   .skip;go_simp;try rw[hR]
    have ft:Bw W0 (W0.alloc (g3 #[y,z] 36)):=(mk _ W0).alloc (nq _) _;have sa:(W0.alloc (g3 #[y,z] 36)).heap[R+1]?=X (g3 #[y,z] 36 (0,0)):=by rw[<- hR];exact lm W0 _
    have m4:=hG.trans (ai.of_below ft);have rg:=ay.block (ft.block m (ay.lt));have rs:=aT.block (ft.block (m+1) (aT.lt));generalize W0.alloc (g3 #[y,z] 36)=Wx1 at*;refine s _ _ (λ_=>m4) ?_;clear s K;go_simp;refine Dp 13 λK s=>?_;obtain⟨x7,qv,qa,lp,sq,gO,uc⟩:=an.entry rg hU underlying92 lM (y,z) D i4.o;refine bH rfl lp ?_;have hJ:=m4.trans (ai.of_only gO (.inl rfl));have r4:=rs.block (gO.block (m+1) (ac.1));have s6:=(gO.block (R+1) (aC.1)).trans sa;generalize xk Wx1 m (.map qv qa)=Wx7 at*;clear lp;refine s _ _ (λ_=>hJ) ?_;clear s K;go_simp;refine Qc [14] hJ ?_
    refine Dp 15 λK s=>?_;obtain⟨q6,th,t4,h9⟩:=uc Wx7 (.agg #[y,z]) sq;refine bj rfl th ?_;have m0:=hJ.trans (ai.of_only h9 (.inl rfl));have r9:=r4.block (h9.block (m+1) (ac.1));have s8:=(h9.block (R+1) (aC.1)).trans s6;refine s _ _ (λ_=>m0) ?_;clear s K;go_simp;refine Dp 16 λK s=>?_;obtain⟨x4,qo,qd,lv,ss,gP,up⟩:=an.entry r9 hU underlying93 fd (y,z) D d7.o;refine bH rfl lv ?_;have hN:=m0.trans (ai.of_only gP (.inr rfl));have ra:=t4.block (gP.block m (ac.2));have sb:=(gP.block (R+1) (aC.2)).trans s8;generalize xk q6 (m+1) (.map qo qd)=Wx25 at*;clear lv;refine s _ _ (λ_=>hN) ?_;clear s K;go_simp;refine Qc [17] hN ?_
    refine Dp 18 λK s=>?_;obtain⟨v9,tl,t5,hc⟩:=up Wx25 (hK (X ⟨R+1,0,Y⟩) 1 1) ss;refine bj rfl tl ?_;have m5:=hN.trans (ai.of_only hc (.inr rfl));have rc:=ra.block (hc.block m (ac.2));have sc:=(hc.block (R+1) (aC.2)).trans sb;refine s _ _ (λ_=>m5) ?_;clear s K;go_simp;refine dN ?_;go_wp2_with fail;go_meet;exact⟨rfl,d4 _ m5 rc t5 sc⟩
   skip;obtain⟨x5,qq,qe,lx,g2,gQ,ml⟩:=an.entry ay hU underlying92 lM (y,z) D i4.o;refine bH rfl lx ?_;have e5:=hG.trans (ai.of_only gQ (.inl rfl));have hS:=gQ.size.trans hR;have fz:=aT.block (gQ.block (m+1) (ac.1));generalize xk W0 m (.map qq qe)=Wx43 at*;clear lx;refine s _ _ (λ_=>e5) ?_;clear s K;go_simp;refine Qc [14] e5 ?_
   refine cF (i:=12) (j:=15) rfl rfl (by kernel_rfl) rfl rfl (λK s=>?_) (λK s=>?_)
   .skip;go_simp;try rw[hS]
    have fx:Bw Wx43 (Wx43.alloc (g3 #[y,z] 36)):=(mk _ Wx43).alloc (nq _) _;have se:(Wx43.alloc (g3 #[y,z] 36)).heap[R+1]?=X (g3 #[y,z] 36 (0,0)):=by rw[<- hS];exact lm Wx43 _
    have m6:=e5.trans (ai.of_below fx);have qy:=(fx.block m (af g2)).trans g2;have rr:=fz.block (fx.block (m+1) (fz.lt));generalize Wx43.alloc (g3 #[y,z] 36)=Wx54 at*;refine s _ _ (λ_=>m6) ?_;clear s K;go_simp;refine Dp 15 λK s=>?_;obtain⟨q7,tr,t6,hd⟩:=ml Wx54 (.agg #[y,z]) qy;refine bj rfl tr ?_;have ma:=m6.trans (ai.of_only hd (.inl rfl));have rx:=rr.block (hd.block (m+1) (ac.1));have si:=(hd.block (R+1) (aC.1)).trans se;refine s _ _ (λ_=>ma) ?_;clear s K;go_simp;refine Dp 16 λK s=>?_;obtain⟨x6,qt,qf,lB,st,h6,v0⟩:=an.entry rx hU underlying93 fd (y,z) D d7.o;refine bH rfl lB ?_;have hO:=ma.trans (ai.of_only h6 (.inr rfl));have ry:=t6.block (h6.block m (ac.2));have sj:=(h6.block (R+1) (aC.2)).trans si;generalize xk q7 (m+1) (.map qt qf)=Wx67 at*;clear lB;refine s _ _ (λ_=>hO) ?_;clear s K;go_simp;refine Qc [17] hO ?_
    refine Dp 18 λK s=>?_;obtain⟨va,ts,t7,he⟩:=v0 Wx67 (hK (X ⟨R+1,0,Y⟩) 1 1) st;refine bj rfl ts ?_;have mb:=hO.trans (ai.of_only he (.inr rfl));have rW:=ry.block (he.block m (ac.2));have sk:=(he.block (R+1) (aC.2)).trans sj;refine s _ _ (λ_=>mb) ?_;clear s K;go_simp;refine dN ?_;go_wp2_with fail;go_meet;exact⟨rfl,d4 _ mb rW t7 sk⟩
   skip;obtain⟨bv,tt,gq,hh⟩:=ml Wx43 (.agg #[y,z]) g2;refine bj rfl tt ?_;have hP:=e5.trans (ai.of_only hh (.inl rfl));have hT:=hh.size.trans hS;have g0:=fz.block (hh.block (m+1) (ac.1));refine s _ _ (λ_=>hP) ?_;clear s K;go_simp;refine cF (i:=12) (j:=16) rfl rfl (by kernel_rfl) rfl rfl (λK s=>?_) (λK s=>?_)
   .skip;go_simp;try rw[hT]
    have fy:Bw bv (bv.alloc (g3 #[y,z] 36)):=(mk _ bv).alloc (nq _) _;have sl:(bv.alloc (g3 #[y,z] 36)).heap[R+1]?=X (g3 #[y,z] 36 (0,0)):=by rw[<- hT];exact lm bv _
    have mc:=hP.trans (ai.of_below fy);have s0:=gq.block (fy.block m (gq.lt));have s1:=g0.block (fy.block (m+1) (g0.lt));generalize bv.alloc (g3 #[y,z] 36)=Wx92 at*;refine s _ _ (λ_=>mc) ?_;clear s K;go_simp;refine Dp 16 λK s=>?_;obtain⟨xb,qk,qb,lo,sp,gy,tO⟩:=an.entry s1 hU underlying93 fd (y,z) D d7.o;refine bH rfl lo ?_;have hH:=mc.trans (ai.of_only gy (.inr rfl));have qz:=s0.block (gy.block m (ac.2));have s2:=(gy.block (R+1) (aC.2)).trans sl;generalize xk Wx92 (m+1) (.map qk qb)=Wx98 at*;clear lo;refine s _ _ (λ_=>hH) ?_;clear s K;go_simp;refine Qc [17] hH ?_
    refine Dp 18 λK s=>?_;obtain⟨v4,td,t2,h7⟩:=tO Wx98 (hK (X ⟨R+1,0,Y⟩) 1 1) sp;refine bj rfl td ?_;have lP:=hH.trans (ai.of_only h7 (.inr rfl));have r0:=qz.block (h7.block m (ac.2));have s3:=(h7.block (R+1) (aC.2)).trans s2;refine s _ _ (λ_=>lP) ?_;clear s K;go_simp;refine dN ?_;go_wp2_with fail;go_meet;exact⟨rfl,d4 _ lP r0 t2 s3⟩
   skip;obtain⟨x3,qn,qc,ls,jb,gz,ua⟩:=an.entry g0 hU underlying93 fd (y,z) D d7.o;refine bH rfl ls ?_;have hI:=hP.trans (ai.of_only gz (.inr rfl));have n1:=gz.size.trans hT;have iP:=gq.block (gz.block m (ac.2));generalize xk bv (m+1) (.map qn qc)=Wx116 at*;clear ls;refine s _ _ (λ_=>hI) ?_;clear s K;go_simp;refine Qc [17] hI ?_
   refine Dp 12 λK s=>?_;go_simp;try rw[n1]
   have fr:Bw Wx116 (Wx116.alloc (g3 #[y,z] 36)):=(mk _ Wx116).alloc (nq _) _;have s4:(Wx116.alloc (g3 #[y,z] 36)).heap[R+1]?=X (g3 #[y,z] 36 (0,0)):=by rw[<- n1];exact lm Wx116 _
   have lQ:=hI.trans (ai.of_below fr);have r1:=iP.block (fr.block m (iP.lt));have qx:=(fr.block (m+1) (af jb)).trans jb;generalize Wx116.alloc (g3 #[y,z] 36)=Wx127 at*;refine s _ _ (λ_=>lQ) ?_;clear s K;go_simp;refine Dp 18 λK s=>?_;obtain⟨v6,te,t3,h8⟩:=ua Wx127 (hK (X ⟨R+1,0,Y⟩) 1 1) qx;refine bj rfl te ?_;have lT:=lQ.trans (ai.of_only h8 (.inr rfl));have r2:=r1.block (h8.block m (ac.2));have s5:=(h8.block (R+1) (aC.2)).trans s4;refine s _ _ (λ_=>lT) ?_;clear s K;go_simp;refine dN ?_;go_wp2_with fail;go_meet;exact⟨rfl,d4 _ lT r2 t3 s5⟩
  obtain⟨rfl,dc,cc,i0,d2,hZ⟩:=hcut;have dz:q<H.length:=by rw[eQ.o];exact bd
  have f9:Hid (H.take (q+1)=H.take q++[H[q]]):=zb dz;have bc:H[q].1=(y,z):=by
   rw[<- d6.o,cD bd];have h2:=f5.o;have:L[q]=(H[q].1,H[q].2.1):=by
    have:=y7 (l:=H) (f:=λp:RK×VX=>(p.1,p.2.1)) (i:=q) (h:=by rw[k2];exact dz);rw[<- this];congr 1
    exact h2.symm
   rw[this]
  have cp:=oj _ (ya dz);have gd:=f4 _ (ya dz);obtain⟨p,I⟩:=Qe (H[q]);rw[I]at f9 bc cp gd;obtain⟨pk,⟨d1,r⟩,x⟩:=p;dsimp only at bc;subst bc;obtain⟨_,_,k8,_,_⟩:=ib _ gd;obtain⟨xa,xc,b6⟩:=k8.shape;dsimp only at b6 cp;subst b6;clear k8 I gd;obtain⟨rk,rl,fs⟩:=r;dsimp only at cp f9;have pe:Hid ((recX (H.take (q+1))).flatMap rdCells=(recX (H.take q)).flatMap rdCells++[J ih rk,J ih rl,hK xa fs xc]):=by unfold Hid recX;rw[f9.o,List.map_append,Ac];rfl
  have v1:=dc.los;have vx:R<wc:=af hZ.o;have ms:∀{g:Nat},(y2 ao q ko).ownBlock=X g->∃cu,Bk wc g cu 62:=λ{g}u=>aK cc.o u;have n7:Hid (∀W,wc.grownBy W (y2 ao q ko).ownBlock->Cl W w 0 (.pointer c)/\Cl W c 0 (.map M)/\(Cl W R 0 y/\Cl W R 1 z)/\(yc 113 (.map M) (.agg #[y,z]) false).run prog W=.ok (.agg #[y,z,d1,J ih rk,J ih rl,hK xa fs xc]) W):=λW hW=>by
   have D:∀{g:Nat}{cs:Array Value}{ty:TypeId},wc.heap[g]?=X (g3 cs ty (0,0))->ty≠62->W.heap[g]?=X (g3 cs ty (0,0)):=λ{g cs ty}u t9=>(hW.block g (af u) (λe=>by obtain⟨cu,av⟩:=ms e.symm;exact dw u av t9 rfl)).trans u
   have b1:=D dc.vc (by decide);have b2:=D dc.cat.blk (by decide);have b3:=D hZ.o (by decide);refine⟨(ab b1 0).trans rfl,(ab b2 0).trans rfl,⟨(ab b3 0).trans rfl,(ab b3 1).trans rfl⟩,?_⟩;have t1:cI recB W M (ps.map λp=>(p.1,ju p.1 p.2)):=by refine oR.block (λb Q=>?_);have su:=HM.f1 b Q;have k4:=HM.lt b su;have h1:=d2.block b k4;refine(hW.block b (y3 k4 d2.size) (λe=>?_)).trans h1;have:=(cc.lt b e.symm).1;omega
   have:=cI.look (w:=W) t1 underlying113 lL (y,z) oi.o;rw[gr,cp]at this;exact this
  have g4:=λW=>xF y z d1 rk rl xa fs xc W;obtain⟨iN,kc,mv,mP,n0⟩:=info_parts i62;have HI:=Z kc;have n8:=Z mv;have n9:=Z mP;have ne:=Z n0;clear cp ms kc mv mP n0;go_wp2_with fail;have g8:wc.grownBy wc.drew (y2 ao q ko).ownBlock:=⟨rfl,rfl,rfl,nq _,λ_ _ _=>rfl⟩;refine wT (λW=>wc.grownBy W (y2 ao q ko).ownBlock) 999 ?_;refine Qd [0,1,5,2,3,4,6] g8 n7 ?_;refine Qd [7] g8 (λw' h=>g4 w') ?_
  refine Dp 8 λK s=>?_;go_simp;have k9:wc.grownBy (wc.drew.alloc (g3 #[J ih rk,J ih rl,hK xa fs xc] 62)) (y2 ao q ko).ownBlock:=g8.trans ((z9 _ _ Y).but _);refine s _ _ (λ_=>k9) ?_;clear s K;refine Dp 9 λK s=>?_;obtain⟨v',w7,cz,la,sC,_,_⟩:=run_append_own_at (P:=prog) (wc.drew.alloc (g3 #[J ih rk,J ih rl,hK xa fs xc] 62)) A 59 59 62 iN (.agg #[J ih 0,J ih 0,hK Y 0 0]) 3 32 underlying59 HI.o n8.o n9.o ne.o rfl (by decide) (hK ao q ko) q _ (World.ownsRow.alloc (w:=wc.drew) cc.o _) wc.drew 1 1 [J ih rk,J ih rl,hK xa fs xc] rfl (mW wc.drew _ _ _ 62) (by simp[Value.oneCell']) (by unfold maxLen;omega) (by omega) (by have:=v1.2.2.2.2.2.2.2;simp;show A<=wc+1;omega);refine iR rfl rfl rfl cz ?_;obtain⟨vb,wz,rfl⟩:=aQ la;have b9:=k9.trans sC;refine s _ _ (λ_=>b9) ?_;clear s K;go_simp;refine Qc [10] b9 ?_
  refine dN ?_;go_wp2_with fail;have gb:∀p,p<wc.heap.size->(p<A∨∀c,wc.heap[p]?≠X (Obj.cells c 62 (0,0)))->w7.heap[p]?=wc.heap[p]?:=λp I h=>b9.block p I (λe=>by
   rcases h with h|h
   .have:=(cc.lt p e.symm).1;omega
   obtain⟨cu,av⟩:=aK cc.o e.symm;exact h cu av)
  go_roundw
  case rel=>
   refine⟨q+1,hlt,by go_num,dc.o.keep (by decide) (by decide) (by decide) (by decide) gb b9.size,?_,aj i0.o (λg u=>?_),d2.o.trans ⟨b9.os,b9.tape,b9.output,b9.size,λp I=>gb p (y3 I d2.o.size) (.inl (by have:=b5.o;omega))⟩⟩
   .unfold Hid;rw[pe.o];exact la
   obtain⟨cu,av⟩:=aK i0.o u;exact gb g (af av) (.inr λc e=>by rw[av]at e;injection e with e;injection e with _ e;exact absurd e (by decide))
  simp[intOf];omega
 obtain rfl:q=n:=by omega
 have mn:L.take q=L:=y4 (by rw[ax.o];omega);have mp:H.take q=H:=y4 (by rw[eQ.o,ax.o];omega);rw[mn]at C;rw[mp]at a9;clear mn mp hlt hq;obtain⟨T,cy⟩:=Qe (d.ps.map (·.1));have dy:T.length<=5000:=by rw[<- cy,k2];exact HM.o.ok.plen
 have az:Bw wr (wr.alloc (g3 #[.map E] 115)):=(mk _ wr).alloc (nq _) _;have hQ:=xj 8 (by omega) wr E (d.ps.map λp=>(p.1,gJ p.2)) (wr.alloc (g3 #[.map E] 115)) (by rw[y8];rfl) (C.o.cat.ps.block (λb Q=>az.block b (C.o.cat.lt b (C.o.cat.f3 b Q)))) (λb Q=>by have:=C.o.cat.lt b (C.o.cat.f3 b Q);simp;omega);have kz:(d.ps.map λp=>(p.1,gJ p.2)).map (·.1)=T:=by rw[z6,<- cy];rfl
 rw[kz]at hQ;have iD:=Z (wF 10 (by omega) 121 #[.pointer wr] (enters_of func121 (by kernel_rfl) rfl) T (by omega) _ _ (λx2 x hx=>by have:=hx.1;rw[k2]at this;have:=HM.o.ok.plen;omega) _ hQ);have me:de ltPK T=T:=by refine cB dQ (.refl _) ?_;have hs:=HM.ok.ok.ps;unfold aH at hs;rw[<- cy,zd];exact hs
 rw[me]at iD;have nf:=Z (BC E wr);have cv:=(ab C.vc 0).trans rfl;have c2:Cl wr c 2 (.map E):=(ab C.cat.blk 2).trans rfl;have eb:=Z az;have f6:=Z cy;clear hQ kz me az cy;obtain⟨ao,ko,rfl⟩:=aQ a9.o
 go_upto_region 16 with(first
  |(go_at_call 66;((with_reducible refine qs nf.o ?_);rintro e w4⟨rfl,rfl⟩))
  |(go_at_call 65;((with_reducible refine qs iD.o ?_);rintro e w5⟨v5,rfl,hB,b8⟩;obtain⟨a5,k5,rfl⟩:=aQ hB;have p3:=Z hB;have n4:=Z b8;clear hB b8)))
 have b8:Bw wr w5:=eb.trans (n4.mono eb.size);have pz:Hid (UN w A F w5 (m+3) w (m+2) m (m+1) c M V E (hk Y) d L (el d.ps L (d.ps.take 0))):=by have h:=C.below b8;rw[<- ax.o]at h;exact h
 have po:Hid (w5.ownsRow A 62 3 (hK ao q ko) q ((recX H).flatMap rdCells)):=aj a9.o (λg u=>b8.block g (a9.lt g u).2);have ny:Hid (w5.ownsRow N 36 2 (hK a3 q k3) q ((L.map (·.1)).flatMap rkCells)):=aj O.o (λg u=>b8.block g (O.lt g u).2);have n5:Hid (Bw w w5):=a0.trans (b8.mono a0.size);have p4:Hid (w5.ownsRow A 134 4 (hK a5 T k5) T (T.flatMap pkCells)):=aD p3.o (by have:=C.o.los.2.2.2.2.2.2.2;have:=eb.o.size;omega);clear b8 C a9 O a0 cv c2;go_loopw [76] (λi wr=>∃j:Nat,j<=T/\i=J U j/\Hid (UN w A F wr (m+3) w (m+2) m (m+1) c M V E (hk Y) d L (el d.ps L (d.ps.take j)))/\Hid (wr.ownsRow A 62 3 (hK ao q ko) q ((recX H).flatMap rdCells))/\Hid (wr.ownsRow N 36 2 (hK a3 q k3) q ((L.map (·.1)).flatMap rkCells))/\Hid (wr.ownsRow A 134 4 (hK a5 T k5) T (T.flatMap pkCells))/\Hid (Bw w wr)) (λi _=>T-(intOf i).toNat)
 case atStart=>exact⟨0,y6 _,rfl,pz.o,po.o,ny.o,p4.o,n5.o⟩
 obtain⟨j,hj,rfl,C,a9,O,ad,a0⟩:=hrel;by_cases hlj:j<T
 .have kd:j<d.ps:=by rw[<- f6.o,k2]at hlj;exact hlj
  obtain⟨g5,wu,bA,_⟩:=ys ad.o (by omega);cases bA;have le:T[j]=d.ps[j].1:=by simp[<- f6.o]
  have a8:∀i,i<4->wr.cell? ⟨g5,j*4+i,Y⟩=(pkCells d.ps[j].1)[i]?:=λi hi=>by rw[ad.o.cellAt (j*4+i) (by omega),cE pkCells 4 (λ_=>rfl) _ j hlj i hi,le]
  have aS:=Z (oe d.ps L j kd);have gs:=ya kd;have bc:=HM.ok.pkey _ gs;have g6:findK d.ps d.ps[j].1=X d.ps[j].2:=(fh dQ HM.ok.ok.ps).2 gs;obtain⟨p,I⟩:=Qe (d.ps[j]);rw[I]at a8 aS bc g6;clear I gs le;obtain⟨⟨⟨a1,a2⟩,b1,b2⟩,d1,jn⟩:=p;dsimp only at bc g6 aS a8;have e0:Cl wr g5 (j*4) a1:=(a8 0 (by omega)).trans rfl;have e1:Cl wr g5 (j*4+1) a2:=(a8 1 (by omega)).trans rfl;have e2:Cl wr g5 (j*4+2) b1:=(a8 2 (by omega)).trans rfl;have e3:Cl wr g5 (j*4+3) b2:=(a8 3 (by omega)).trans rfl;clear a8;obtain⟨o,aa⟩:=Qe (wr.alloc (g3 #[a1,a2,b1,b2] 134));have a4:Bw wr o:=by rw[<- aa];exact(mk _ wr).alloc (nq _) _
  have hF:o.heap[wr.heap.size]?=X (g3 #[a1,a2,b1,b2] 134 (0,0)):=by rw[<- aa];exact lm wr _
  obtain⟨R,au⟩:=Qe wr.heap.size;rw[au]at hF;have al:=Z (C.below a4);have d9:Hid (o.ownsRow A 62 3 (hK ao q ko) q ((recX H).flatMap rdCells)):=aj a9.o (λg u=>a4.block g (a9.lt g u).2);have b4:Hid (o.ownsRow N 36 2 (hK a3 q k3) q ((L.map (·.1)).flatMap rkCells)):=aj O.o (λg u=>a4.block g (O.lt g u).2);have b7:Hid (o.ownsRow A 134 4 (hK g5 T k5) T (T.flatMap pkCells)):=aj ad.o (λg u=>a4.block g (ad.lt g u).2);have bl:Hid (Bw w o):=a0.trans (a4.mono a0.size);have ci:=Z aa;have c5:=Z au;have HF:=Z hF;clear aa a4 hF au C a9 O ad a0;have d3:Hid (∀W,Bw o W->Cl W w 0 (.pointer c)/\Cl W c 2 (.map E)/\(Cl W R 0 a1/\Cl W R 1 a2/\Cl W R 2 b1/\Cl W R 3 b2)/\(yc 115 (.map E) (.agg #[a1,a2,b1,b2]) false).run prog W=.ok (.agg #[d1,k1 jn]) W):=λW Q=>by have hu:=al.below Q;have e2:=nL ((Q.block _ (af HF.o)).trans HF.o);refine⟨(ab hu.vc 0).trans rfl,(ab hu.cat.blk 2).trans rfl,e2,?_⟩;have:=cI.look (w:=W) hu.cat.ps underlying115 iq ((a1,a2),b1,b2) bc;rw[gr d.ps (λ_ v=>gJ v),g6]at this;exact this
  go_upto_region 18 with fail;rw[ci.o,c5.o];clear e0 e1 e2 e3;have g4:=λW=>uM d1 jn W;go_wp2_with fail;have bw:Bw o o.drew:=(mk _ o).drew;refine Wb o 999 ?_;refine Qd [0,1,2,3,4,5] bw d3 ?_;refine Qd [6] bw (λw' h=>g4 w') ?_
  refine dN ?_;rcases jn with _|_
  .have ch:Hid (UN w A F o.drew (m+3) w (m+2) m (m+1) c M V E (hk Y) d L (el d.ps L (d.ps.take (j+1)))):=by unfold Hid;rw[aS.o,if_neg (by decide)];exact al.below bw
   go_wp2_with fail;go_roundw
   case rel=> exact⟨j+1,hlj,by go_num,ch,d9,b4,b7,bl.trans (mk _ o).drew⟩
   simp[intOf];omega
  have bY:=qY w A F o.drew (m+3) w (m+2) m (m+1) c M V E (hk Y) d L (el d.ps L (d.ps.take j)) (al.below bw) ((a1,a2),b1,b2) bc;dsimp only[pairV]at bY;have fb:=Z bY;obtain⟨_,_,⟨f0,f1,f2,f3⟩,_⟩:=d3 _ bw;clear bY;go_wp2_with (go_at_call 78;(refine qs fb.o ?_;rintro e w6⟨rfl,cP,cl,cm⟩;have fl:=Z cP;have e8:=Z cl;have bs:=Z cm;clear cP cl cm))
  have ca:=b5.o;have ch:Hid (UN w A F w6 (m+3) w (m+2) m (m+1) c M V E (hk Y) d L (el d.ps L (d.ps.take (j+1)))):=by unfold Hid;rw[aS.o,if_pos (by decide)];exact fl.o
  go_roundw
  case rel=>
   refine⟨j+1,hlj,by go_num,ch,aj d9.o (λg u=>?_),aj b4.o (λg u=>?_),aj b7.o (λg u=>?_),(bl.trans (mk _ o).drew).trans e8.o⟩
   .have hl:=d9.lt g u;obtain⟨cu,av⟩:=aK d9.o u;exact bs.o g hl.2 (by omega) (by omega) (.inr λc2 e=>by rw[show o.drew.heap[g]?=o.heap[g]? from rfl,av]at e;injection e with e;injection e with _ e;exact absurd e (by decide))
   .have hl:=b4.lt g u;have kx:=d8.lt g u;rw[em.o]at kx;have d0:=c7.o;exact bs.o g hl.2 (by omega) (by omega) (.inl kx.2)
   have hl:=b7.lt g u;obtain⟨cu,av⟩:=aK b7.o u;exact bs.o g hl.2 (by omega) (by omega) (.inr λc2 e=>by rw[show o.drew.heap[g]?=o.heap[g]? from rfl,av]at e;injection e with e;injection e with _ e;exact absurd e (by decide))
  simp[intOf];omega
 have gf:j=T:=by omega
 subst gf;have ld:d.ps.take T=d.ps:=y4 (by rw[<- f6.o,k2];exact nq _);rw[ld]at C;clear ld hlj hj ad;obtain⟨xs,b6⟩:=Qe (recX H);have c9:xs=q:=by rw[<- b6];unfold recX;rw[k2,eQ.o,ax.o]
 rw[b6]at a9;have lE:jU wr (hK ao q ko) xs:=by refine⟨by rw[c9];exact(aM a9.o).mono (y6 _) (nq _),λp I=>?_⟩;rw[<- b6]at I;obtain⟨p',ho,rfl⟩:=List.mem_map.1 I;obtain⟨wB,vN,f1,f2,f3⟩:=ib p' (f4 p' ho);exact(f1.kept (λk a b=>a0.block k (HM.lt k (f3 k a b).1))).mono (y6 _) (xv f2 a0.size)
 have md:∀p∈xs,br p.1.fields:=λp I=>by
  rw[<- b6]at I;obtain⟨p',ho,rfl⟩:=List.mem_map.1 I;have hm:(p'.1,p'.2.1)∈d.vs:=by rw[<- oN.o];exact List.mem_map.2 ⟨p',f4 p' ho,rfl⟩
  exact(eC (HM.ok.right _ hm)).2.2
 obtain⟨G,cx⟩:=Qe (pairsR (L.map λp=>p.2.2));have mt:pairsR (xs.map (·.1))=G:=by rw[<- cx,<- b6,<- f5.o];unfold recX;rw[z6,z6];rfl
 have hy:=zg wr (hK ao q ko) xs lE (by rw[c9];exact dx) md;rw[mt]at hy;have ov:=Z hy;have oF:=Z cx;have wb:G.length<=1000000:=by rw[<- cx];have h1:=ox (L.map λp=>p.2.2);rw[k2,ax.o]at h1;exact xv h1 (xv (Nat.mul_le_mul dx dx) (by decide))
 have op:Hid (∀(j:Nat)(h:j<G),(G[j]).1<L.length/\(G[j]).2<L.length):=λj h=>by have:=mw (l:=L.map λp=>p.2.2) G[j] (by rw[cx];exact ya h);rwa[k2]at this
 clear lE md hy mt cx c9 b6;go_upto_region 22 with(go_at_call 79;(refine qs ov.o ?_;rintro e w7⟨v7,rfl,cz,j4⟩;obtain⟨a7,k7,rfl⟩:=aQ cz;have p5:=Z cz;have e9:=Z j4;clear cz j4))
 have q0:Hid (UN w A F w7 (m+3) w (m+2) m (m+1) c M V E (hk Y) d L (iG d.ps L (G.take 0))):=C.below e9.o;have nz:Hid (w7.ownsRow N 36 2 (hK a3 q k3) q ((L.map (·.1)).flatMap rkCells)):=aj O.o (λg u=>e9.block g (O.lt g u).2);have n6:Hid (Bw w w7):=a0.trans (e9.mono a0.size);have pc:Hid (w7.ownsRow A 67 2 (hK a7 G k7) G (G.flatMap cX)):=aD p5.o C.los.2.2.2.2.2.2.2;clear C O a0 a9;go_loopw [94] (λi wr=>∃j:Nat,j<=G/\i=J U j/\Hid (UN w A F wr (m+3) w (m+2) m (m+1) c M V E (hk Y) d L (iG d.ps L (G.take j)))/\Hid (wr.ownsRow N 36 2 (hK a3 q k3) q ((L.map (·.1)).flatMap rkCells))/\Hid (wr.ownsRow A 67 2 (hK a7 G k7) G (G.flatMap cX))/\Hid (Bw w wr)) (λi _=>G-(intOf i).toNat)
 case atStart=>exact⟨0,y6 _,rfl,q0.o,nz.o,pc.o,n6.o⟩
 obtain⟨j,hj,rfl,C,O,ad,a0⟩:=hrel;by_cases hlj:j<G;rotate_left
 .have gf:j=G:=by omega
  subst gf;rw[List.take_length,<- oF.o,<- HL.o]at C;have c6:Hid (UN w A F wr (m+3) w (m+2) m (m+1) c M V E (hk Y) d (thereC d) (setsC d)):=by have h:=C.o;rw[od]at h;exact h
  clear C O ad hlj hj;obtain⟨l6,gp,m7⟩:=c6.sortI;have c0:=(ab c6.vt 0).trans rfl;have c1:=(ab c6.tb 1).trans rfl;obtain⟨ws,rfl⟩:∃ws,ws=wr:=⟨_,rfl⟩;obtain⟨R6,cj⟩:=Qe ws.heap.size;have ob:=Z gp;have iv:=Z m7;have eq:=Z c6.los.2.2.2.2.2.2.2;have l5:=gp.nodup;have og:=Z l5;clear gp m7 l5;go_upto_region 27 with(refine nS _ rfl _ _ rfl 52 underlying93 (m+1) _ rfl ob.o ?_;intro w8 hC ja wp;rw[cj]at hC;have pd:=Z hC;have hY:=Z ja;clear hC ja)
  have pr:Hid (fX A R6 w8 l6 l6 (thereC d) (setsC d)):=by have h:=iv.o;rw[cj]at h;exact h.far (λk v hv g u=>hY.o.block g (by rw[cj];exact h.lt k v hv g u))
  have nn:Hid (fY A ws w8):=fY.of hY.o eq.o;have cb:=Z cj;clear c0 c1 iv cj;go_simp;go_loopg [] (l6.length+1) (λg wr=>∃left:List (RK×Value),left<g/\Hid (cJ recB wr (m+1) R6 l6 left)/\Hid (fX A R6 wr l6 left (thereC d) (setsC d))/\Hid (fY A ws wr))
  case atStart=>exact⟨l6,by omega,pd,pr,nn⟩
  obtain⟨left,ky,HR,HS,ej⟩:=hrel;rw[<- cb.o]at HR;go_wp2_with (refine qT _ rfl _ rfl (m+1) ws l6 left rfl HR.o ?_ ?_)
  .intro sM;subst sM;have ca:=b5.o;have hu:=c6.o;have D:=ej.o;have k6:=hu.cat.blk;have sx:c<A:=by omega
   have b1:=(D.b.block c sx).trans k6;have b2:=(D.b.block w (by omega)).trans hu.vc;have b3:=(D.b.block (m+3) (by omega)).trans hu.vt;have c1:Cl wr w 0 (.pointer c):=(ab b2 0).trans rfl;have c2:Cl wr (m+3) 0 (hk (X ⟨m+2,0,Y⟩)):=(ab b3 0).trans rfl;have c3:Cl wr c 3 (hk Y):=(ab b1 3).trans rfl;have f3:=ae b1 3;have w0:w≠c:=by omega
   have wa:m+3≠c:=by omega
   have hD:=UN.done c6.o rfl rfl ej.o HR.map HS.o;have HD:=Z hD;have mf:ai F w F (wr.setCell ⟨c,3,Y⟩ (hk (X ⟨m+2,0,Y⟩))):=(ai.of_below (a0.o.trans (D.b.mono (by omega)))).trans (ai.of_only (aF.setCell (aF.refl c wr) 3 _) HM.o.fc);have bt:=Z mf;clear hD mf b1 b2 b3 k6 hu D ca;go_wp2_with fail;refine z0 (results_tmp rfl _ _ _) rfl ⟨m+2,_,M,V,E,rfl,HD.1,HD.2,?_⟩;exact⟨bt.os,bt.tape,bt.output,bt.size,bt.block,λk D=>D.imp id (λh=>h.1)⟩
  intro y z pv w9 I ta lk t0 gx sz;have mm:left.Sublist l6:=by obtain⟨es,f,vd,h1,h2,h3,h4,_⟩:=HR.o;exact h4
  have ds:lookL l6 (y,z)=X pv:=(bC og.o).2 (mm.subset I);have e6:fX A R6 w9 l6 left (thereC d) (setsC d):=HS.o.far (λk v hv g u=>gx.block g (by have:=HS.o.lt k v hv g u;have:=cb.o;omega));obtain⟨t,xs,ht,rt,ks,e4,hw⟩:=e6.at ds;have c9:xs.length<=1000000:=by have h1:=hw.length_eq;have h2:=kH (thereC d) (setsC d) t;rw[HL.o,ax.o]at h2;rw[HL.o]at h1;omega
  have n2:=Z (ro A w9 pv xs e4 c9);have pl:=Z e4;have pt:=Z e6;have nu:Hid (fY A ws w9):=ej.only gx (nq _) eq.o;have it:Hid (∀g,pv.ownBlock=X g->A<=g/\g<R6):=λg u=>⟨(e4.lt g u).1,e6.lt (y,z) pv ds g u⟩;have f7:=Z lk;have ex:Hid (t<(thereC d).length/\keyC (thereC d) t=(y,z)/\xs.Perm (bg (thereC d) (setsC d) t)):=⟨ht,ks,hw⟩;have nF:=Z ds;have kt:recB.kv (y,z)=recK (y,z):=rfl;rw[kt]at sz;clear mm ds e6 e4 lk ht rt ks hw I ta gx c9 kt;go_wp2_with (go_at_call 80;(refine qs n2.o ?_;rintro e xd⟨rfl,lf,l7⟩;have p0:=Z lf;have ia:=Z l7;clear lf l7))
  go_roundg (left.length)
  case rel=>
   obtain⟨o1,o2,o3,o4,o5⟩:=ia.o;have l4:=f7.map.lt;have tx:=f7.lt;have ca:=b5.o;rw[<- cb.o];refine⟨cK left (y,z),t0,f7.o.kept (o5 _ l4 (λe=>by have:=it.o _ e;omega)) (o5 _ tx (λe=>by have:=it.o _ e;have:=cb.o;omega)),?_,nu.o.sort pl.o ia.o eq.o⟩;have tz:aH ltRK (thereC d):=by rw[HL.o];exact cg.o
   rw[cb.o];exact pt.next tz nF.o ex.1 ex.2.1 ex.2.2 p0.o o5
  omega
 obtain⟨bB,bO⟩:=op j hlj;have aS:=Z (wI d.ps cg.o G j hlj bB bO);have bd:0<q:=by rw[<- ax.o];omega
 obtain⟨g7,wy,bA,_⟩:=ys ad.o (by omega);cases bA;obtain⟨B,v2,bA,_⟩:=ys O.o bd;cases bA;have a8:∀i,i<2->wr.cell? ⟨g7,j*2+i,Y⟩=(cX G[j])[i]?:=λi hi=>by rw[ad.o.cellAt (j*2+i) (by omega),cE cX 2 (λ_=>rfl) _ j hlj i hi]
 have cq:∀a,a<L.length->∀i,i<2->wr.cell? ⟨B,a*2+i,Y⟩=(rkCells (keyC L a))[i]?:=λa ha i hi=>by
  have dy:a<(L.map (·.1)).length:=by rw[k2];exact ha
  rw[O.o.cellAt (a*2+i) (by rw[<- ax.o];omega),cE rkCells 2 (λ_=>rfl) _ a dy i hi,y7,cD ha]
 obtain⟨p,I⟩:=Qe (G[j]);rw[I]at bB bO aS a8;clear I;obtain⟨pa,pb⟩:=p;dsimp only at bB bO aS;have kk:=d5 pa bB;have dq:=d5 pb bO;have x0:=cq pa bB 0 (by omega);have x1:=cq pa bB 1 (by omega);have y0:=cq pb bO 0 (by omega);have y1:=cq pb bO 1 (by omega);rw[ax.o]at bB bO;obtain⟨ka,kl⟩:=Qe (keyC L pa);obtain⟨kb,kq⟩:=Qe (keyC L pb);rw[kl]at x0 x1 kk aS;rw[kq]at y0 y1 dq aS;clear kl kq cq;obtain⟨a1,a2⟩:=ka;obtain⟨b1,b2⟩:=kb;have x0:Cl wr B (pa*2) a1:=x0;have x1:Cl wr B (pa*2+1) a2:=x1;have y0:Cl wr B (pb*2) b1:=y0;have y1:Cl wr B (pb*2+1) b2:=y1;have e0:Cl wr g7 (j*2) (pa:Int):=(a8 0 (by omega)).trans rfl;have e1:Cl wr g7 (j*2+1) (pb:Int):=(a8 1 (by omega)).trans rfl;clear a8;obtain⟨o,aa⟩:=Qe (wr.alloc (g3 #[(pa:Int),(pb:Int)] 67));have a4:Bw wr o:=by rw[<- aa];exact(mk _ wr).alloc (nq _) _
 have hF:o.heap[wr.heap.size]?=X (g3 #[(pa:Int),(pb:Int)] 67 (0,0)):=by rw[<- aa];exact lm wr _
 obtain⟨R,au⟩:=Qe wr.heap.size;rw[au]at hF;have g9:B<wr:=(O.lt B rfl).2;have b0:∀i,o.cell? ⟨B,i,Y⟩=wr.cell? ⟨B,i,Y⟩:=λi=>za (a:=⟨B,i,Y⟩) (a4.block B g9);have X0:=Z ((b0 _).trans x0);have X1:=Z ((b0 _).trans x1);have Y0:=Z ((b0 _).trans y0);have Y1:=Z ((b0 _).trans y1);have al:=Z (C.below a4);have b4:Hid (o.ownsRow N 36 2 (hK B q k3) q ((L.map (·.1)).flatMap rkCells)):=aj O.o (λg u=>a4.block g (O.lt g u).2);have b7:Hid (o.ownsRow A 67 2 (hK g7 G k7) G (G.flatMap cX)):=aj ad.o (λg u=>a4.block g (ad.lt g u).2);have bl:Hid (Bw w o):=a0.trans (a4.mono a0.size);have ci:=Z aa;have c5:=Z au;have HF:=Z hF;have pf:=Z C.los.2.2.2.2.2.2.2;clear aa a4 hF au C O ad a0 x0 x1 y0 y1 b0 g9;go_upto_region 24 with fail;rw[ci.o,c5.o];clear e0 e1;have bw:Bw o o.drew:=(mk _ o).drew;have bY:=qY w A F o.drew (m+3) w (m+2) m (m+1) c M V E (hk Y) d L (iG d.ps L (G.take j)) (al.below bw) ((a1,a2),b1,b2) ⟨kk,dq⟩;dsimp only[pairV]at bY;have fb:=Z bY;clear bY;have eg:Hid (B<A):=by have h3:=d8.lt B rfl;rw[em.o]at h3;exact h3.2
 have d3:Hid (∀W:y9,(W.heap[R]?=o.heap[R]? /\W.heap[B]?=o.heap[B]?)->(Cl W R 0 (pa:Int)/\Cl W R 1 (pb:Int))/\Cl W B (pa*2) a1/\Cl W B (pa*2+1) a2/\Cl W B (pb*2) b1/\Cl W B (pb*2+1) b2):=λW Q=>by have k0:=Q.1.trans HF.o;have b0:∀i,W.cell? ⟨B,i,Y⟩=o.cell? ⟨B,i,Y⟩:=λi=>za (a:=⟨B,i,Y⟩) Q.2;exact⟨⟨(ab k0 0).trans rfl,(ab k0 1).trans rfl⟩,(b0 _).trans X0.o,(b0 _).trans X1.o,(b0 _).trans Y0.o,(b0 _).trans Y1.o⟩
 have so:o.drew.heap[R]?=o.heap[R]? /\o.drew.heap[B]?=o.heap[B]?:=⟨rfl,rfl⟩;have i1:(pa:Int)<(q:Int):=by omega
 have i2:(pb:Int)<(q:Int):=by omega
 go_wp2_with fail;refine wT (λW=>W.heap[R]?=o.heap[R]? /\W.heap[B]?=o.heap[B]?) 999 ?_;refine Qd [0,1,2,3,4,5,6,7,8,9,10,11] so d3 ?_;refine Dp 12 λK s=>?_;go_simp;go_at_call 78;with_reducible refine qs fb.o ?_
 rintro e w6⟨rfl,cP,cl,cm⟩;have fl:=Z cP;have e8:=Z cl;have bs:=Z cm;clear cP cl cm;have ca:=b5.o;have d0:=c7.o;have ky:=b4.lt B rfl;have sm:R<o:=af HF.o;have vy:A<=R:=by rw[<- c5.o];exact pf.o
 have j0:w6.heap[R]?=o.heap[R]? /\w6.heap[B]?=o.heap[B]?:=
  ⟨bs.o R sm (by omega) (by omega) (.inr λc2 e=>by rw[show o.drew.heap[R]?=o.heap[R]? from rfl,HF.o]at e;injection e with e;injection e with _ e;exact absurd e (by decide)),
   bs.o B ky.2 (by omega) (by omega) (.inl eg.o)⟩
 refine s _ _ (λ_=>j0) ?_;clear s K;refine dN ?_;have ch:Hid (UN w A F w6 (m+3) w (m+2) m (m+1) c M V E (hk Y) d L (iG d.ps L (G.take (j+1)))):=by unfold Hid;rw[aS.o];exact fl.o
 go_wp2_with fail;go_roundw
 case rel=>
  refine⟨j+1,hlj,by go_num,ch,aj b4.o (λg u=>?_),aj b7.o (λg u=>?_),(bl.trans (mk _ o).drew).trans e8.o⟩
  .injection u with u
   subst u;exact j0.2
  have hl:=b7.lt g u;obtain⟨cu,av⟩:=aK b7.o u;exact bs.o g hl.2 (by omega) (by omega) (.inr λc2 e=>by rw[show o.drew.heap[g]?=o.heap[g]? from rfl,av]at e;injection e with e;injection e with _ e;exact absurd e (by decide))
 simp[intOf];omega
theorem tK{d:aB}(h:d.Ok)(k:RK):k∈bQ d↔∃t,t<(thereC d).length/\(setsC d).getD t 0=t/\keyC (thereC d) t=k:=by
 rw[nV h,List.mem_map];constructor
 .rintro⟨t,b,a⟩;rw[zs,z4,decide_eq_true_eq]at b;exact⟨t,b.1,b.2,a⟩
 rintro⟨t,c,e,a⟩;exact⟨t,by rw[zs,z4,decide_eq_true_eq];exact⟨c,e⟩,a⟩
theorem iH{d:aB}(h:d.Ok):(bQ d).Pairwise λa b=>ltRK a b=true:=by
 rw[nV h,zd];refine List.Pairwise.imp_of_mem (λ{a b}f c e=>?_) (List.Pairwise.filter _ List.pairwise_lt_range);rw[zs,z4]at c;exact je (cW h) e c.1
theorem rH{l:List RK}(h:l.Pairwise λa b=>ltRK a b=true):l.Nodup:=h.imp λ{a b}h e=>by rw[e,aY.irr]at h;cases h
theorem sf{d:aB}(h:d.Ok){w:y9}{b:Nat}{l:List (RK×Value)}(a:an recB w b l)(e:∀k,(lookL l k).isSome=true↔∃t,t<(thereC d).length/\(setsC d).getD t 0=t/\keyC (thereC d) t=k):de ltRK (l.map (·.1))=bQ d:=by
 refine cB aY ((zz a.nodup (rH (iH h))).2 λk=>?_) (iH h);rw[tK h,<- e,List.mem_map];constructor
 .rintro⟨p,f,rfl⟩;rw[(bC a.nodup (k:=p.1) (v:=p.2)).2 f];rfl
 intro c;obtain⟨v,g⟩:=Option.isSome_iff_exists.1 c;exact⟨(k,v),(bC a.nodup).1 g,rfl⟩
theorem lW{d:aB}(h:d.Ok):((thereC d).map (·.1)).Pairwise λa b=>ltRK a b=true:=by
 rw[zd];exact cW h
theorem uA{d:aB}(h:d.Ok){w:y9}{b:Nat}{l:List (RK×Value)}(e:an recB w b l)(j:∀k,lookL l k=(atC (thereC d) k).map λi=>recK (keyC (thereC d) ((setsC d).getD i 0))):de ltRK (l.map (·.1))=(thereC d).map (·.1):=by
 refine cB aY ((zz e.nodup (rH (lW h))).2 λk=>?_) (lW h);have g:k∈l.map (·.1)↔(lookL l k).isSome=true:=by
  rw[List.mem_map];constructor
  .rintro⟨p,f,rfl⟩;rw[(bC e.nodup (k:=p.1) (v:=p.2)).2 f];rfl
  intro c;obtain⟨v,m⟩:=Option.isSome_iff_exists.1 c;exact⟨(k,v),(bC e.nodup).1 m,rfl⟩
 rw[g,j,Option.isSome_map,List.mem_map];cases ha:atC (thereC d) k with
 |some i=> obtain⟨a,c⟩:=at_some ha;exact⟨λ_=>⟨_,ya a,by rw[<- cD a];exact c⟩,λ_=>rfl⟩
 |none=> refine⟨λh=>(by cases h),?_⟩;rintro⟨p,f,c⟩;obtain⟨i,a,rfl⟩:=List.mem_iff_getElem.1 f;exact absurd (by rw[cD a];exact c) (at_none ha i a)
theorem lU(d:aB):(bQ d).length<=(thereC d).length:=by
 unfold bQ;rw[k2];refine xv (y5 _ _) ?_;unfold sameC;rw[k2,List.length_range];exact nq _
theorem ei{d:aB}:(thereC d).length<=d.vs:=y5 _ _
theorem eB(d:aB):(sameC d).length=(thereC d).length:=by unfold sameC;rw[k2,List.length_range]
theorem tL{d:aB}(h:d.Ok){l:List (RK×Value)}(a:∀k,lookL l k=(atC (thereC d) k).map λi=>recK (keyC (thereC d) ((setsC d).getD i 0)))(k:RK):(lookL l k).getD (.agg #[J U 0,J U 0])=recK ((titleC d k).getD (0,0))/\(lookL l k).isSome=(titleC d k).isSome:=by
 rw[a,qZ h];cases atC (thereC d) k<;>exact⟨rfl,rfl⟩
theorem ai.via{F b:Nat->Prop}{w d e:y9}(h:ai F w b d)(a:Below w d e):ai F w b e:=
 ⟨a.os.trans h.os,a.tape.trans h.tape,a.output.trans h.output,xv h.size a.size,λk c hn=>(a.block k c).trans (h.block k c hn),h.new⟩
structure wd(F F':Nat->Prop)(w w':y9)(c t mo mm:Nat)(d:aB):Prop where
 cat:bG F' w' c d
 step:ai F w F' w'
 tb:Bk w' t #[.map (some mo),.map (some mm)] 95
 of:C6 w' mo (thereC d) (setsC d)
 mem:AB F' w' mm (thereC d) (setsC d)
 lt:∀k,F' k->k<w'
 ft:F' t/\F' mo/\F' mm
 ok:bp d
theorem qw(F:Nat->Prop)(w:y9)(c:Nat)(d:aB)(h:bG F w c d)(hn:d.vs.length<=1000):
 Calls prog 41 #[.pointer c] w λe w'=>∃(t i f:Nat)(a:Nat->Prop),e=fn (.pointer t)/\wd F a w w' c t i f d:=by
 refine(BT F w c d h hn).mono ?_;rintro e w'⟨t,a,G,H,I,rfl,b,C,B⟩;obtain⟨i,f,q,r,s,u,x,l,y,z,A⟩:=C;refine⟨t,i,f,a,rfl,⟨_,_,_,_,b⟩,B,q,x,⟨l,y,z,λt D E=>?_⟩,b.lt,⟨r.1,s.1,u.1⟩,b.ok⟩;obtain⟨v,k,g,n,j,m,o,p⟩:=A t D E;exact⟨v,k,g,n,j,m,o.1,p⟩
theorem eh(F:Nat->Prop)(w:y9)(c:Nat)(d:aB)(h:bG F w c d)(hn:d.vs.length<=1000):
 Calls prog 18 #[.pointer c] w λe w'=>∃(v:Value)(i:Nat->Prop),e=fn v/\bG i w' c d/\ai F w i w'/\w'.ownsRow w 36 2 v (bQ d).length ((bQ d).flatMap rkCells)/\∀g,v.ownBlock=X g->¬i g:=by
 have E:=Z (qw F w c d h hn);clear h;go_enter func18,ntmps18;go_wp2_with (go_at_call 41;(refine qs E.o ?_;rintro e w1⟨t,R,m,i,rfl,p⟩;have c1:Cl w1 t 1 (hb (X m)):=((ab p.tb 1).trans rfl);have a:=Z p;clear p))
 obtain⟨l,j,A,_⟩:=a.mem;have B:=a.ok.ok;have r:=sf B j A;have q:(l.map (·.1)).length=(bQ d).length:=by rw[<- r,ke]
 have o:Bw w1 (w1.alloc (g3 #[hb (X m)] 93)):=(mk _ w1).alloc (nq _) _;have C:=zx 8 (by omega) w1 (X m) l (w1.alloc (g3 #[hb (X m)] 93)) (by rw[y8];rfl) (an.block j (o.block _ j.lt)) (λb f=>by injection f with f;subst f;have:=j.lt;simp;omega);have N:l.length<=1000:=by have H:=lU d;have I:=ei (d:=d);rw[k2]at q;omega
 have y:=Z (j9 10 (by omega) 95 #[.pointer w1] (enters_of func95 (by kernel_rfl) rfl) (l.map (·.1)) (by rw[k2];omega) _ _ (λT x O=>by have:=O.1;omega) _ C);rw[r,q]at y;have G:=Z (BE (X m) w1);have n:=Z o;clear C r q o j A N B
 go_wp2_with (first
  |(go_at_call 51;((with_reducible refine qs G.o ?_);rintro e w2⟨rfl,rfl⟩))
  |(go_at_call 47;((with_reducible refine qs y.o ?_);rintro e P⟨v,rfl,s,z⟩;obtain⟨V,W,rfl⟩:=aQ s;have u:=Z s;have D:=Z z;clear s z)))
 go_ret;have f:Bw w1 P:=n.trans (D.mono n.size);refine⟨_,i,rfl,a.cat.step (λk M=>f.block k (a.lt k M)) f.size,a.step.trans (ai.of_below f),aD u.o (xv a.step.size n.size),λg L K=>?_⟩;have H:=(u.lt g L).1;have I:=a.lt g K;have Q:=n.size;omega
theorem yD(F:Nat->Prop)(w:y9)(c:Nat)(d:aB)(h:bG F w c d)(hn:d.vs.length<=1000)(k:RK)(g:rkOk k):
 Calls prog 12 #[.pointer c,recK k] w λe w'=>∃s:Nat->Prop,e=fn (.tuple #[recK ((titleC d k).getD (0,0)),k1 (titleC d k).isSome])/\bG s w' c d/\ai F w s w':=by
 have M:∀k,F k->k<w:=by obtain⟨m1,m2,m3,kn,hM⟩:=h;exact hM.lt
 have ay:bp d:=by obtain⟨m1,m2,m3,kn,hM⟩:=h;exact hM.ok
 obtain⟨m,n⟩:=k;have bs:=qZ ay.ok (m,n);obtain⟨⟨t1,t2⟩,aC⟩:∃tk,(titleC d (m,n)).getD (0,0)=tk:=⟨_,rfl⟩;obtain⟨N,aS⟩:=Qe ((titleC d (m,n)).isSome);obtain⟨u,T⟩:=Qe ((w.alloc (g3 #[m,n] 36)).alloc (g3 #[J U 0,J U 0] 36));have a9:Bw w u:=by rw[<- T];exact((mk _ w).alloc (nq _) _).alloc (by simp) _
 have hA:u.heap[w.heap.size]?=X (g3 #[m,n] 36 (0,0)):=by rw[<- T,zp _ _ _ (by simp)];exact lm w _
 have hB:u.heap[w.heap.size+1]?=X (g3 #[J U 0,J U 0] 36 (0,0)):=by rw[<- T];have:=lm (w.alloc (g3 #[m,n] 36)) (g3 #[J U 0,J U 0] 36);rwa[World.size_alloc]at this
 have ac:u.heap.size=w+2:=by rw[<- T];simp
 have b0:=Z M;have aT:Hid (∀W,Bw u W->Calls prog 41 #[.pointer c] W λe w'=>∃(t b mm:Nat)(s:Nat->Prop),e=fn (.pointer t)/\wd F s W w' c t b mm d/\Bk w' w #[m,n] 36/\Bk w' (w.heap.size+1) #[J U 0,J U 0] 36/\(t≠w/\t≠w+1/\b≠w/\b≠w+1)/\ai F W s w'/\(∀k,s k->k≠w/\k≠w+1)/\∀W',W'.heap[b]?=w'.heap[b]? ->(yc 92 (hb (X b)) (.agg #[m,n]) true).run prog W'=.ok (.tuple #[.agg #[t1,t2],k1 N]) W'):=λW hW=>by
  have bc:Bw w W:=a9.trans (hW.mono a9.size);refine(qw F W c d (h.below bc) hn).mono ?_;rintro e w'⟨t,b,mm,s,rfl,x⟩;have H:∀k,s k->k≠w/\k≠w+1:=λk g=>by
   have bl:=hW.size;rcases x.step.new k g with R|R
   .have:=M k R;omega
   omega
  have e1:=H t x.ft.1;have e2:=H b x.ft.2.1;have bl:=hW.size;refine⟨t,b,mm,s,rfl,x,?_,?_,⟨e1.1,e1.2,e2.1,e2.2⟩,x.step,H,λW' bb=>?_⟩
  .exact((x.step.block _ (by omega) (λhF=>by have:=M _ hF;omega)).trans (hW.block _ (by omega))).trans hA
  .exact((x.step.block _ (by omega) (λhF=>by have:=M _ hF;omega)).trans (hW.block _ (by omega))).trans hB
  obtain⟨l,hm,hl⟩:=x.of;have h3:=an.look_ok (an.block hm bb) underlying92 (lM W') (m,n) g;have e3:=tL ay.ok hl (m,n);rw[e3.1,e3.2,aC,aS]at h3;exact h3
 have b8:=Z T;have HA:=Z hA;have HB:=Z hB;have ad:=Z a9;have b9:=Z ac;rw[aC,aS];show Calls prog 12 #[.pointer c,.agg #[m,n]] w (λe w'=>∃s:Nat->Prop,e=fn (.tuple #[.agg #[t1,t2],k1 N])/\bG s w' c d/\ai F w s w');clear bs aC aS T hA hB a9 ac h hn M ay;go_enter func12,ntmps12;go_upto_region 1 with fail;rw[b8.o];have b2:u.drew.heap[w.heap.size]?=X (g3 #[m,n] 36 (0,0))/\u.drew.heap[w.heap.size+1]?=X (g3 #[J U 0,J U 0] 36 (0,0)):=⟨HA.o,HB.o⟩;have b7:Hid (∀W:y9,(Bk W w #[m,n] 36/\Bk W (w.heap.size+1) #[J U 0,J U 0] 36)->Cl W w 0 m/\Cl W w 1 n):=λW h=>⟨(ab h.1 0).trans rfl,(ab h.1 1).trans rfl⟩;go_wp2_with fail;refine wT (λW:y9=>Bk W w #[m,n] 36/\Bk W (w.heap.size+1) #[J U 0,J U 0] 36) 999 ?_;refine Qc [0] b2 ?_
 refine Qd [5] b2 b7 ?_
 refine cF (i:=1) (j:=10) rfl rfl (by kernel_rfl) rfl rfl (λK r=>?_) (λK r=>?_)
 .go_simp;go_at_call 41;with_reducible refine qs (aT.o u.drew (mk _ u).drew) ?_
  rintro e a⟨t,b,mm,s,rfl,x,O,P,bk,a7,H,a3⟩;have y:=Z x;have Q:=Z a7;have V:=Z H;have ao:=Z a3;have a8:Hid (ai F w F u.drew):=ai.of_below ad.drew;clear x a7 H a3;refine r _ _ (λ_=>⟨O,P⟩) ?_;clear r K;go_simp;have aa:(Bk a w #[m,n] 36/\Bk a (w.heap.size+1) #[J U 0,J U 0] 36)/\a.heap[t]?=a.heap[t]? /\a.heap[b]?=a.heap[b]?:=⟨⟨O,P⟩,rfl,rfl⟩;refine dV (λW:y9=>(Bk W w #[m,n] 36/\Bk W (w.heap.size+1) #[J U 0,J U 0] 36)/\W.heap[t]?=a.heap[t]? /\W.heap[b]?=a.heap[b]?) (λW h=>h.1) _ _ _ _ ?_;have al:Hid (∀W:y9,((Bk W w #[m,n] 36/\Bk W (w.heap.size+1) #[J U 0,J U 0] 36)/\W.heap[t]?=a.heap[t]? /\W.heap[b]?=a.heap[b]?)->Cl W t 0 (hb (X b))/\(yc 92 (hb (X b)) (.agg #[m,n]) true).run prog W=.ok (.tuple #[.agg #[t1,t2],k1 N]) W):=λW h=>⟨(ab (h.2.1.trans y.tb) 0).trans rfl,ao W h.2.2⟩;refine Qd [2,3,4,6,7,8,9] aa al ?_;obtain⟨q,D⟩:=Qe a.heap.size;obtain⟨o,G⟩:=Qe (a.alloc (g3 #[J U 0,J U 0] 36));have A:o.heap[q]?=X (g3 #[J U 0,J U 0] 36 (0,0)):=by rw[<- G,<- D];exact lm a _
  have av:Below w a o:=by rw[<- G];exact(mk _ a).alloc (xv a8.o.size Q.o.size) _
  have a4:∀k,k<q->o.heap[k]?=a.heap[k]?:=λk g=>by rw[<- G];exact zp _ _ _ (by rw[D];exact g)
  have b4:=af O;have b5:=af P;have M:=y.lt t y.ft.1;have b6:=y.lt b y.ft.2.1;rw[D]at b4 b5 M b6;have a6:w<=q:=by omega
  have I:w≠q/\w+1≠q/\t≠q/\b≠q:=by omega
  have E:(Bk o w #[m,n] 36/\Bk o (w.heap.size+1) #[J U 0,J U 0] 36)/\o.heap[t]?=a.heap[t]? /\o.heap[b]?=a.heap[b]?:=⟨⟨(a4 _ b4).trans O,(a4 _ b5).trans P⟩,a4 _ M,a4 _ b6⟩;have a5:∀k,s k->k≠q:=λk g=>by have:=y.o.lt k g;omega
  have au:Hid (∀k,s k->o.heap[k]?=a.heap[k]?):=λk g=>a4 k (by have:=y.o.lt k g;omega);refine Dp 10 λK r=>?_;go_simp;try rw[D,G]
  refine r _ _ (λ_=>E) ?_;clear r K;have n0:Cl o q 0 (J U 0):=(ab A 0).trans rfl;have n1:Cl o q 1 (J U 0):=(ab A 1).trans rfl;have f0:=ae A 0;have f1:=ae A 1;refine Dp 11 λK r=>?_;go_simp;obtain⟨f,C⟩:=Qe ((o.setCell ⟨q,0,Y⟩ t1).setCell ⟨q,1,Y⟩ t2);have a0:f.heap[q]?=X (g3 #[t1,t2] 36 (0,0)):=by rw[<- C];exact aA (aA A 0 _) 1 _
  have B:∀k,k≠q->f.heap[k]?=o.heap[k]?:=λk g=>by rw[<- C,wq _ _ _ _ g,wq _ _ _ _ g]
  have ax:Below w o f:=by rw[<- C];exact(((mk _ o).setCell (p:=⟨q,0,Y⟩) a6 _).setCell (p:=⟨q,1,Y⟩) a6 _)
  have z:(Bk f w #[m,n] 36/\Bk f (w.heap.size+1) #[J U 0,J U 0] 36)/\f.heap[t]?=a.heap[t]? /\f.heap[b]?=a.heap[b]?:=⟨⟨(B _ I.1).trans E.1.1,(B _ I.2.1).trans E.1.2⟩,(B _ I.2.2.1).trans E.2.1,(B _ I.2.2.2).trans E.2.2⟩;rw[C];refine r _ _ (λ_=>z) ?_;clear r K;clear n0 n1 f0 f1 C;refine Ds 12 z ?_;refine dN ?_;have n0:Cl f q 0 t1:=(ab a0 0).trans rfl;have n1:Cl f q 1 t2:=(ab a0 1).trans rfl;have m0:Cl f (w.heap.size+1) 0 (J U 0):=(ab z.1.2 0).trans rfl;have m1:Cl f (w.heap.size+1) 1 (J U 0):=(ab z.1.2 1).trans rfl;have g0:=ae z.1.2 0;have g1:=ae z.1.2 1;go_wp2_with fail;refine z0 (v:=.tuple #[.agg #[t1,t2],k1 N]) (by rw[bm rfl];go_simp) rfl ?_;have a2:Below w a ((f.setCell ⟨w.heap.size+1,0,Y⟩ t1).setCell ⟨w.heap.size+1,1,Y⟩ t2):=((av.trans ax).setCell (p:=⟨w.heap.size+1,0,Y⟩) (by simp) _).setCell (p:=⟨w.heap.size+1,1,Y⟩) (by simp) _;refine⟨rfl,s,y.cat.step (λk g=>?_) a2.size,(a8.trans Q.o).via a2⟩;rw[wq _ _ _ _ (V.o k g).2,wq _ _ _ _ (V.o k g).2,B k (a5 k g)];try exact au k g
 go_simp;obtain⟨q,D⟩:=Qe u.heap.size;obtain⟨o,G⟩:=Qe ((u.alloc (g3 #[J U 0,J U 0] 36)).drew);have b1:o.heap[q]?=X (g3 #[J U 0,J U 0] 36 (0,0)):=by rw[<- G,<- D];exact lm u _
 have a1:Bw u o:=by rw[<- G];exact((mk _ u).alloc (nq _) _).drew
 have az:Hid (q=u/\o=q+1):=⟨D.symm,by rw[<- G,<- D];simp⟩;have b3:Bk o w #[m,n] 36/\Bk o (w.heap.size+1) #[J U 0,J U 0] 36:=⟨(a1.block _ (af HA.o)).trans HA.o,(a1.block _ (af HB.o)).trans HB.o⟩;try rw[D]
 try rw[G]
 refine r _ _ (λ_=>b3) ?_;clear r K;refine Dp 1 λK r=>?_;go_simp;go_at_call 41;with_reducible refine qs (aT.o o a1) ?_
 rintro e a⟨t,b,mm,s,rfl,x,O,P,bk,a7,H,a3⟩;have y:=Z x;have Q:=Z a7;have V:=Z H;have ao:=Z a3;have a8:Hid (ai F w F o):=ai.of_below (ad.trans (a1.mono ad.size));clear x a7 H a3;have ac:=b9.o;have az:=az.o;have bd:¬F q:=λx=>by have:=b0.o q x;omega
 have A:Bk a q #[J U 0,J U 0] 36:=(Q.o.block q (by omega) bd).trans b1;have a5:∀k,s k->k≠q:=λk g=>by
  rcases Q.new k g with R|R
  .have:=b0.o k R;omega
  omega
 have a6:w<=q:=by omega
 have I:w≠q/\w+1≠q/\t≠q/\b≠q:=⟨by omega,by omega,a5 t y.o.ft.1,a5 b y.o.ft.2.1⟩;have av:Below w a a:=mk _ _;have au:Hid (∀k,s k->a.heap[k]?=a.heap[k]?):=λk g=>rfl;clear az ac a1 G D b1 b3;refine r _ _ (λ_=>⟨O,P⟩) ?_;clear r K;go_simp;have aa:(Bk a w #[m,n] 36/\Bk a (w.heap.size+1) #[J U 0,J U 0] 36)/\a.heap[t]?=a.heap[t]? /\a.heap[b]?=a.heap[b]?:=⟨⟨O,P⟩,rfl,rfl⟩;refine dV (λW:y9=>(Bk W w #[m,n] 36/\Bk W (w.heap.size+1) #[J U 0,J U 0] 36)/\W.heap[t]?=a.heap[t]? /\W.heap[b]?=a.heap[b]?) (λW h=>h.1) _ _ _ _ ?_;have al:Hid (∀W:y9,((Bk W w #[m,n] 36/\Bk W (w.heap.size+1) #[J U 0,J U 0] 36)/\W.heap[t]?=a.heap[t]? /\W.heap[b]?=a.heap[b]?)->Cl W t 0 (hb (X b))/\(yc 92 (hb (X b)) (.agg #[m,n]) true).run prog W=.ok (.tuple #[.agg #[t1,t2],k1 N]) W):=λW h=>⟨(ab (h.2.1.trans y.tb) 0).trans rfl,ao W h.2.2⟩;refine Qd [2,3,4,6,7,8,9] aa al ?_;have E:=aa;have n0:Cl a q 0 (J U 0):=(ab A 0).trans rfl;have n1:Cl a q 1 (J U 0):=(ab A 1).trans rfl;have f0:=ae A 0;have f1:=ae A 1;refine Dp 11 λK r=>?_;go_simp;obtain⟨f,C⟩:=Qe ((a.setCell ⟨q,0,Y⟩ t1).setCell ⟨q,1,Y⟩ t2);have a0:f.heap[q]?=X (g3 #[t1,t2] 36 (0,0)):=by rw[<- C];exact aA (aA A 0 _) 1 _
 have B:∀k,k≠q->f.heap[k]?=a.heap[k]?:=λk g=>by rw[<- C,wq _ _ _ _ g,wq _ _ _ _ g]
 have ax:Below w a f:=by rw[<- C];exact(((mk _ a).setCell (p:=⟨q,0,Y⟩) a6 _).setCell (p:=⟨q,1,Y⟩) a6 _)
 have z:(Bk f w #[m,n] 36/\Bk f (w.heap.size+1) #[J U 0,J U 0] 36)/\f.heap[t]?=a.heap[t]? /\f.heap[b]?=a.heap[b]?:=⟨⟨(B _ I.1).trans E.1.1,(B _ I.2.1).trans E.1.2⟩,(B _ I.2.2.1).trans E.2.1,(B _ I.2.2.2).trans E.2.2⟩;rw[C];refine r _ _ (λ_=>z) ?_;clear r K;clear n0 n1 f0 f1 C;refine Ds 12 z ?_;refine dN ?_;have n0:Cl f q 0 t1:=(ab a0 0).trans rfl;have n1:Cl f q 1 t2:=(ab a0 1).trans rfl;have m0:Cl f (w.heap.size+1) 0 (J U 0):=(ab z.1.2 0).trans rfl;have m1:Cl f (w.heap.size+1) 1 (J U 0):=(ab z.1.2 1).trans rfl;have g0:=ae z.1.2 0;have g1:=ae z.1.2 1;go_wp2_with fail;refine z0 (v:=.tuple #[.agg #[t1,t2],k1 N]) (by rw[bm rfl];go_simp) rfl ?_;have a2:Below w a ((f.setCell ⟨w.heap.size+1,0,Y⟩ t1).setCell ⟨w.heap.size+1,1,Y⟩ t2):=((av.trans ax).setCell (p:=⟨w.heap.size+1,0,Y⟩) (by simp) _).setCell (p:=⟨w.heap.size+1,1,Y⟩) (by simp) _;refine⟨rfl,s,y.cat.step (λk g=>?_) a2.size,(a8.trans Q.o).via a2⟩;rw[wq _ _ _ _ (V.o k g).2,wq _ _ _ _ (V.o k g).2,B k (a5 k g)];try exact au k g
theorem i69:(prog.info? 69).map (λi=>(i.zero,i.size,i.bytes))=X (X (.agg #[J U 0,J U 0,J U 0,J U 0]),4,32):=by kernel_rfl
theorem uT(w:y9)(x y z u:Value)(t:TypeId):∀j v,[x,y,z,u][j]?=X v->(w.alloc (g3 #[x,y,z,u] t)).cell? ((w:Addr).add j)=X v:=by
 intro j v a;match j,a with
 |0,a=>simp at a;subst a;simp[At]
 |1,a=>simp at a;subst a;simp[At]
 |2,a=>simp at a;subst a;simp[At]
 |3,a=>simp at a;subst a;simp[At]
theorem pZ{F:Nat->Prop}{w:y9}{j:Nat}{d:aB}(y:bp d)(h:AB F w j (thereC d) (setsC d))(k:RK)(r:rkOk k):∃(a:Option Addr)(c:Nat),eL 0 w w (.slice a (membersC d k).length c) (membersC d k)/\
 ∀W,W.heap[j]?=w.heap[j]? ->(yc 93 (hb (X j)) (recK k) false).run prog W=.ok (.slice a (membersC d k).length c) W:=by
 obtain⟨l,s,p,u⟩:=h;cases hl:lookL l k with
 |some v=>
  obtain⟨t,i,o,f⟩:=(p k).1 (by rw[hl];rfl);obtain⟨B,b,g,n,z,rfl,_,q⟩:=u t i o;rw[f,hl]at b;injection b with b
  subst b;have e:=rS y.ok i;rw[f]at e;rw[e];obtain⟨a,c,x,A⟩:=id q;injection x with he1 he2 he3
  subst he2;refine⟨_,_,q,λW m=>?_⟩;have:=an.look (an.block s m) underlying93 (fd W) k r;rw[hl]at this;exact this
 |none=>
  have e:membersC d k=[]:=pY λt i o f=>by have:=(p k).2 ⟨t,i,o,f⟩;rw[hl]at this;cases this
  rw[e];refine⟨Y,0,⟨Y,0,rfl,λh=>absurd rfl h⟩,λW m=>?_⟩;have:=an.look (an.block s m) underlying93 (fd W) k r;rw[hl]at this;exact this
theorem kQ(d:aB)(k:RK):(membersC d k).length<=(thereC d).length:=by
 unfold membersC;rw[k2];refine xv (y5 _ _) ?_;rw[eB];exact nq _
theorem cf(F:Nat->Prop)(w:y9)(c:Nat)(d:aB)(h:bG F w c d)(hn:d.vs.length<=1000)(k:RK)(B:rkOk k):
 Calls prog 22 #[.pointer c,recK k] w λe w'=>∃(v:Value)(m:Nat->Prop),e=fn v/\bG m w' c d/\ai F w m w'/\w'.ownsRow w 36 2 v (membersC d k).length ((membersC d k).flatMap rkCells)/\∀g,v.ownBlock=X g->¬m g:=by
 have Q:∀k,F k->k<w:=by obtain⟨m1,m2,m3,kn,hM⟩:=h;exact hM.lt
 obtain⟨b,f⟩:=k;obtain⟨i,p⟩:=Qe (membersC d (b,f));have R:i.length<=1000:=by rw[<- p];have L:=kQ d (b,f);have h2:=ei (d:=d);omega
 obtain⟨l,r⟩:=Qe (w.alloc (g3 #[b,f] 36));have z:Bw w l:=by rw[<- r];exact(mk _ w).alloc (nq _) _
 have M:l.heap[w.heap.size]?=X (g3 #[b,f] 36 (0,0)):=by rw[<- r];exact lm w _
 have o:l.drew.heap[w.heap.size]?=X (g3 #[b,f] 36 (0,0)):=M;have P:=qw F l.drew c d (h.below z.drew) hn;have a3:=Z P;have a4:=Z Q;have a6:=Z p;have a5:=Z R;have a7:=Z r;have H:=Z z;rw[p];show Calls prog 22 #[.pointer c,.agg #[b,f]] w _;clear h hn Q R r z P p M;go_enter func22,ntmps22;go_upto_region 1 with fail;rw[a7.o];have a0:Hid (∀W:y9,Bk W w #[b,f] 36->Cl W w 0 b/\Cl W w 1 f):=λW h=>⟨(ab h 0).trans rfl,(ab h 1).trans rfl⟩;go_wp2_with fail;refine wT (λW=>Bk W w #[b,f] 36) 999 ?_;refine Qc [0] o ?_
 refine Qd [5] o a0 ?_
 refine Dp 1 λK n=>?_;go_simp;go_at_call 41;with_reducible refine qs a3.o ?_
 rintro e j⟨t,mo,G,m,rfl,O⟩;have a:=Z O;clear O;have a8:w.heap.size<l.drew:=af o;have x:Bk j w #[b,f] 36:=(a.o.step.block _ a8 (λy=>by have:=a4.o _ y;omega)).trans o;obtain⟨V,mc,D,C⟩:=pZ a.ok a.mem (b,f) B;rw[a6.o]at D C;have a2:=Z (λ(W:y9)(N:Bw j W)=>Ah (hK V i mc) i (i.flatMap rkCells) W ((aL.kept D (λq _ hq=>N.block q hq)).mono (nq _) N.size) (pM i) (vB i) (by have:=a5.o;omega));have T:Bw j j:=mk _ j;refine n _ _ (λ_=>x) ?_;clear n K;go_simp;refine dV (λW=>Bw j W) (λW h=>(h.block _ (af x)).trans x) _ _ _ _ ?_;have a1:Hid (∀W,Bw j W->Cl W t 1 (hb (X G))/\(yc 93 (hb (X G)) (.agg #[b,f]) false).run prog W=.ok (hK V i mc) W):=λW h=>⟨(ab ((h.block _ (af a.tb)).trans a.tb) 1).trans rfl,C W (h.block _ (a.lt G a.ft.2.2))⟩;clear C D;refine Qd [2,3,4,6] T a1 ?_;refine Dp 7 λK n=>?_;go_simp;go_at_call 52;with_reducible refine qs (a2.o j T) ?_
 rintro e w4⟨v,rfl,E,A⟩;obtain⟨va,vc,rfl⟩:=aQ E;have I:=Z E;have u:=Z A;clear E;refine n _ _ (λ_=>A) ?_;clear n K;go_simp;refine Qc [8] A ?_
 refine dN ?_;go_wp2_with fail;go_ret;refine⟨_,m,rfl,a.cat.step (λk B=>u.block k (a.lt k B)) u.size,((ai.of_below H.drew).trans a.step).trans (ai.of_below u.o),aD I.o ?_,λg hg y=>?_⟩
 .exact xv H.size a.step.size
 have L:=(I.lt g hg).1;have h2:=a.lt g y;omega
theorem vw(F:Nat->Prop)(w:y9)(c:Nat)(d:aB)(h:bG F w c d)(hn:d.vs.length<=1000):
 Calls prog 15 #[.pointer c] w λe w'=>∃(v:Value)(I:Nat->Prop),e=fn v/\bG I w' c d/\ai F w I w'/\w'.ownsRow w 69 4 v (sameC d).length ((sameC d).flatMap pkCells)/\∀g,v.ownBlock=X g->¬I g:=by
 have bt:=Z (qw F w c d h hn);obtain⟨i0,hi,bd,bk,bl⟩:=info_parts i69;have HI:=Z hi;have bw:=Z bd;have bA:=Z bk;have bB:=Z bl;clear h hi bd bk bl;go_enter func15,ntmps15;go_upto_region 2 with(go_at_call 41;(refine qs bt.o ?_;rintro e w1⟨t,j,mm,I,rfl,hf⟩;have c1:Cl w1 t 0 (hb (X j)):=((ab hf.tb 0).trans rfl);have m:=Z hf;clear hf))
 obtain⟨l,B,hl⟩:=m.of;have av:=m.ok.ok;have ao:=uA av B hl;have al:(l.map (·.1)).length=((thereC d).map (·.1)).length:=by rw[<- ao,ke]
 have a9:Bw w1 (w1.alloc (g3 #[hb (X j)] 92)):=(mk _ w1).alloc (nq _) _;have b8:=zy 8 (by omega) w1 (X j) l (w1.alloc (g3 #[hb (X j)] 92)) (by rw[y8];rfl) (an.block B (a9.block _ B.lt)) (λb z=>by injection z with z;subst z;have:=B.lt;simp;omega);obtain⟨L,o⟩:=Qe (thereC d);obtain⟨set,ay⟩:=Qe (setsC d);have c4:L.length<=1000:=by rw[<- o];have:=ei (d:=d);omega
 have cc:l.length<=1000:=by rw[k2,k2,o]at al;omega
 have a6:=Z (j9 10 (by omega) 89 #[.pointer w1] (enters_of func89 (by kernel_rfl) rfl) (l.map (·.1)) (by rw[k2];omega) _ _ (λcq x hx=>by have:=hx.1;omega) _ b8);rw[ao,al,o,k2]at a6;have HK:=Z (BF (X j) w1);have az:=Z a9;rw[o,ay]at hl;have b9:aH ltRK L:=by rw[<- o];exact cW av
 have bO:Hid (∀k,k<L.length->∀W:y9,W.heap[j]?=w1.heap[j]? ->(yc 92 (hb (X j)) (recK (keyC L k)) false).run prog W=.ok (recK (keyC L (set.getD k 0))) W):=λk q W V=>by
  have cb:rkOk (keyC L k):=by
   rw[cD q];have cd:L[k]∈thereC d:=by rw[o];exact ya q
   exact m.ok.vkey _ (List.mem_filter.1 cd).1
  have:=an.look (an.block B V) underlying92 (lM W) (keyC L k) cb;rw[hl,fD b9 q]at this;exact this
 have c0:Hid (∀k,k<L.length->(sameC d).take (k+1)=(sameC d).take k++[(keyC L k,keyC L (set.getD k 0))]):=λk q=>by
  have ca:k<(sameC d).length:=by rw[eB,o];exact q
  rw[zb ca];congr 2
  unfold sameC;simp[o,ay]
 have aS:Hid ((sameC d).length=L.length):=by unfold Hid;rw[eB,o]
 obtain⟨n,au⟩:=Qe L.length;have a4:=Z au;rw[au]at a6 c4;have aC:=Z B.lt;clear b8 ao al a9 B hl cc av o ay b9 au
 go_upto_region 4 with(first
  |(go_at_call 48;((with_reducible refine qs HK.o ?_);rintro e w2⟨rfl,rfl⟩))
  |(go_at_call 47;((with_reducible refine qs a6.o ?_);rintro e u⟨v,rfl,ax,aT⟩;obtain⟨va,vc,rfl⟩:=aQ ax;have a5:=Z ax;have bs:=Z aT;clear ax aT)))
 have y:Hid (Bw w1 u):=az.trans (bs.mono az.size);clear c1;go_loopw [4,16] (λcl i wr=>∃(k:Nat)(r:Option Addr)(s:Nat),k<=n/\i=J U k/\cl=hK r k s/\Hid (wr.ownsRow u 69 4 (hK r k s) k (((sameC d).take k).flatMap pkCells))/\Hid (Bw u wr)) (λ_ i _=>n-(intOf i).toNat)
 exact⟨0,Y,0,y6 _,rfl,rfl,As _ _ _ _,mk _ _⟩;obtain⟨k,r,s,q,rfl,rfl,E,M⟩:=hrel;by_cases hlt:k<n;rotate_left
 .have b5:k=n:=by omega
  subst b5;have bb:(sameC d).take k=sameC d:=y4 (by rw[aS.o,a4.o];exact nq _);rw[bb]at E;clear bb hlt q;go_wp2_with fail;go_ret;have z:Bw w1 wr:=y.trans (M.mono y.size);refine⟨_,I,rfl,m.cat.step (λk q=>z.block k (m.lt k q)) z.size,m.step.trans (ai.of_below z),?_,λg H N=>?_⟩
  .rw[aS.o,a4.o];exact aD E.o (xv m.step.size y.size)
  have h1:=(E.lt g H).1;have h2:=m.lt g N;have h3:=y.size;omega
 have a0:k<L.length:=by rw[a4.o];exact hlt
 obtain⟨G,cs,c6,_⟩:=ys a5.o (by omega);cases c6;have c7:=(a5.lt G rfl).2;have ac:∀i,i<2->wr.cell? ⟨G,k*2+i,Y⟩=(rkCells (keyC L k))[i]?:=λi hi=>by
  have cg:k<(L.map (·.1)).length:=by rw[k2];exact a0
  rw[za (a:=⟨G,k*2+i,Y⟩) (M.o.block G c7),a5.o.cellAt (k*2+i) (by omega),cE rkCells 2 (λ_=>rfl) _ k cg i hi,y7,cD a0]
 have e0:Cl wr G (k*2) (J U (keyC L k).1):=(ac 0 (by omega)).trans rfl;have e1:Cl wr G (k*2+1) (J U (keyC L k).2):=(ac 1 (by omega)).trans rfl;have a3:=Z (bO k a0);have a7:=Z (c0 k a0);obtain⟨⟨C,D⟩,b4⟩:∃kk,keyC L k=kk:=⟨_,rfl⟩;obtain⟨⟨t1,t2⟩,bc⟩:∃tt,keyC L (set.getD k 0)=tt:=⟨_,rfl⟩;rw[b4]at e0 e1 a3 a7;rw[bc]at a3 a7;dsimp only at e0 e1;clear b4 bc ac;obtain⟨f,a1⟩:=Qe (wr.alloc (g3 #[C,D] 36));have aa:Bw wr f:=by rw[<- a1];exact(mk _ wr).alloc (nq _) _
 have N:f.heap[wr.heap.size]?=X (g3 #[C,D] 36 (0,0)):=by rw[<- a1];exact lm wr _
 obtain⟨R,a8⟩:=Qe wr.heap.size;rw[a8]at N;have T:Hid (f.ownsRow u 69 4 (hK r k s) k (((sameC d).take k).flatMap pkCells)):=aj E.o (λg H=>aa.block g (E.lt g H).2);have Q:Hid (Bw u f):=M.trans (aa.mono M.size);have c2:=Z a1;have bY:=Z a8;have HF:=Z N;clear a1 aa N a8 E M;have bv:Hid (∀W,f.grownBy W (y2 r k s).ownBlock->(Cl W R 0 C/\Cl W R 1 D)/\Cl W t 0 (hb (X j))/\(yc 92 (hb (X j)) (.agg #[C,D]) false).run prog W=.ok (.agg #[t1,t2]) W):=λW V=>by
  have b7:∀g,g<u.heap.size->W.heap[g]?=u.heap[g]?:=λg H=>(V.block g (y3 H Q.o.size) (λe=>by have:=(T.o.lt g e.symm).1;omega)).trans (Q.o.block g H);have c3:=y.size;have b1:W.heap[R]?=_:=(V.block R (af HF.o) (λe=>by obtain⟨cu,c5⟩:=aK T.o e.symm;exact dw HF.o c5 (by decide) rfl)).trans HF.o
  have ci:=af m.tb;have b2:=((b7 t (by omega)).trans (y.o.block t ci)).trans m.o.tb;have b3:=(b7 j (y3 aC.o c3)).trans (y.block j aC.o);exact⟨⟨(ab b1 0).trans rfl,(ab b1 1).trans rfl⟩,(ab b2 0).trans rfl,a3 W b3⟩
 go_upto_region 6 with fail;rw[c2.o,bY.o];clear e0 e1;go_wp2_with fail;have ad:f.grownBy f.drew (y2 r k s).ownBlock:=⟨rfl,rfl,rfl,nq _,λ_ _ _=>rfl⟩;refine wT (λW=>f.grownBy W (y2 r k s).ownBlock) 999 ?_;refine Qd [0,1,2,6,3,4,5,7] ad bv ?_;refine Qc [8] ad ?_
 refine Dp 9 λK O=>?_;go_simp;have b0:f.grownBy (f.drew.alloc (g3 #[C,D,t1,t2] 69)) (y2 r k s).ownBlock:=ad.trans ((z9 _ _ Y).but _);refine O _ _ (λ_=>b0) ?_;clear O K;refine Dp 10 λK O=>?_;have b5:k<=1000:=by omega
 have cj:=Q.size;obtain⟨v',w7,ch,b6,c9,_,_⟩:=run_append_own_at (P:=prog) (f.drew.alloc (g3 #[C,D,t1,t2] 69)) u 49 49 69 i0 (.agg #[J U 0,J U 0,J U 0,J U 0]) 4 32 underlying49 HI.o bw.o bA.o bB.o rfl (by decide) (hK r k s) k _ (World.ownsRow.alloc (w:=f.drew) T.o _) f.drew 1 1 [J U C,J U D,J U t1,J U t2] rfl (uT f.drew _ _ _ _ 69) (by simp[Value.oneCell']) (by unfold maxLen;omega) (by omega) (by simp;show u.heap.size<=f+1;omega);refine iR rfl rfl rfl ch ?_;obtain⟨cm,cp,rfl⟩:=aQ b6;have A:=b0.trans c9;refine O _ _ (λ_=>A) ?_;clear O K;go_simp;refine Qc [11] A ?_
 refine dN ?_;go_wp2_with fail;go_roundw
 case rel=> refine⟨k+1,_,_,hlt,by go_num,rfl,?_,Q.o.trans ⟨A.os,A.tape,A.output,A.size,λp hp=>A.block p (y3 hp cj) (λe=>by have:=(T.o.lt p e.symm).1;omega)⟩⟩;unfold Hid;rw[a7.o,Ac];exact b6
 simp[intOf];omega
end
end Go.Proofs.YtjcimanddakkaaaGreatDoor
