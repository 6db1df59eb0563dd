/- Lemmas. -/
import Derived.Test.YtjcimanddakkaaaGreatDoorCQ27
import Derived.Test.YtjcimanddakkaaaGreatDoorCQ30
set_option maxRecDepth 100000
set_option maxHeartbeats 8000000
namespace Go.Proofs.YtjcimanddakkaaaGreatDoor
open Go.Value renaming pointer→fn,map→hk,int→J,slice→hK,bool→k1
open _root_.Option renaming some→X,none→Y
open Go.Ending renaming returned→g3
open Go.Obj renaming cells→hb
open Go.Lib renaming hid→Z
open Go.IntKind renaming i64→U,u8→ih
open Tryz
open _root_.List renaming length_map→k2,getElem_mem→ys,take_of_length_le→zp,length_filter_le→zs,getElem_map→z0,take_succ_eq_append_getElem→z9,pairwise_map→Ac,mem_filter→At,perm_ext_iff_of_nodup→AA,mem_range→AS,range→AT,map_map→A1,flatMap_append→Bo
open Go.World renaming alloc_heap_new→lm,cell?_alloc_new→z4,cell?_of_block→z6,grownBy_alloc→A2,ownsRow_nil→Bq
open Go.RowKit.Below renaming refl→mk,heap_setCell→wq,heap_alloc→As
open _root_.Nat renaming le_refl→nq,le_trans→yc,lt_of_lt_of_le→zd,zero_le→zz
open Go.Calls renaming mono→qs
open Go.ChangeMaps renaming setBlock→ya
open Go.Instr renaming lookup→y7
open Go.World.ownsRow renaming form→y8
open Go.Value renaming slice→y9
open Go renaming World→z5,bodyPost_ret→AC
open Go.Addr renaming add→By
section
open Go.RowKit Go.Maps Go.Shelf
theorem Bp(F:Nat->Prop)(w:z5)(c:Nat)(d:ar)(h:bq F w c d)(hn:d.vs.length<=1000):
 Calls prog 41 #[fn (X ⟨c,0,Y⟩)] w λe w'=>∃(t:Nat)(F':Nat->Prop)(M V E:Option Nat),e=g3 (fn (X ⟨t,0,Y⟩))/\dU F' w' c M V E (fn (X ⟨t,0,Y⟩)) d/\dn (restF F' c M V E) w' t (thereC d) (setsC d)/\ah F w F' w':=by
 obtain⟨M,V,E,kn,hM⟩:=h;have wp:=hM.lt c hM.fc;obtain⟨w1,d2⟩:=Qe (w.alloc (hb #[fn (X ⟨c,0,Y⟩)] 24));have aS:Bw w w1:=by rw[<- d2];exact(mk _ w).alloc (nq _) _
 have hV:w1.heap[w.heap.size]?=X (hb #[fn (X ⟨c,0,Y⟩)] 24 (0,0)):=by rw[<- d2];exact lm w _
 have aC:=hM.below aS;have c3:Cl w1 c 3 kn:=(aa aC.blk 3).trans rfl;have cv:Cl w1 w.heap.size 0 (fn (X ⟨c,0,Y⟩)):=(aa hV 0).trans rfl;have fz:=Z d2;rcases hM.kn with rfl|⟨t,rfl,ht⟩;rotate_left
 .have HT:Hid (dn (restF F c M V E) w1 t (thereC d) (setsC d)):=ht.step (λk hr=>aS.block k (hM.lt k hr.1)) aS.size;have oi:=Z aC;have bw:Hid (ah F w F w1):=ah.of_below aS;clear hM aC ht aS hV d2;go_enter func41,ntmps41;go_upto_region 1 with fail;rw[fz.o];go_wp2_with fail;refine AC (results_tmp rfl _ _ _) rfl ⟨t,F,M,V,E,rfl,oi.o,HT.o,bw.o⟩
 have HM:=Z hM;have ej:=Z aS;have HV:=Z hV;clear hM aC hV aS d2;go_enter func41,ntmps41;go_upto_region 1 with fail;rw[fz.o];go_upto_region 5 with fail;have te:= @run_makeMap prog;obtain⟨m,bd⟩:=Qe w1.heap.size;obtain⟨N,bs⟩:=Qe ((((w1.alloc (.map #[] 0)).alloc (.map #[] 0)).alloc (hb #[hk (X m),hk (X (m+1))] 95)).alloc (hb #[fn (X ⟨m+2,0,Y⟩)] 96));have dy:Bw w1 N:=by rw[<- bs];exact((((mk _ w1).alloc (nq _) _).alloc (by simp) _).alloc (by simp;omega) _).alloc (by simp;omega) _
 have z1:(w1.alloc (.map #[] 0)).heap.size=m+1:=by rw[<- bd];simp
 have z2:((w1.alloc (.map #[] 0)).alloc (.map #[] 0)).heap.size=m+2:=by rw[<- bd];simp
 have z3:(((w1.alloc (.map #[] 0)).alloc (.map #[] 0)).alloc (hb #[hk (X m),hk (X (m+1))] 95)).heap.size=m+3:=by rw[<- bd];simp
 have la:m=w.heap.size+1:=by rw[<- bd,<- fz.o];simp
 have f6:=Z la;have j3:ak recB N m []:=by rw[<- bs,<- bd];exact(((ak.made w1).alloc _).alloc _).alloc _
 have j2:ak recB N (m+1) []:=by rw[<- bs,<- z1];exact((ak.made (w1.alloc (.map #[] 0))).alloc _).alloc _
 have ja:N.heap[m+2]?=X (hb #[hk (X m),hk (X (m+1))] 95 (0,0)):=by rw[<- bs,As _ _ _ (by rw[z3];omega),<- z2];exact lm _ _
 have jb:N.heap[m+3]?=X (hb #[fn (X ⟨m+2,0,Y⟩)] 96 (0,0)):=by rw[<- bs,<- z3];exact lm _ _
 have b4:=(HM.below ej.o).below dy;have g9:=(dy.block _ (ae HV.o)).trans HV.o;have q7:=Z bs;have ov:=Z bd;have HZ:=Z (⟨z1,z2,z3⟩:_/\_/\_);have d3:N.heap.size=m+4:=by rw[<- bs,<- bd];simp
 have dk:=Z (yg F N c M V E (fn Y) d b4);have cv2:Cl N w.heap.size 0 (fn (X ⟨c,0,Y⟩)):=(aa g9 0).trans rfl;have iv:=Z j3;have it:=Z j2;have pz:=Z ja;have q6:=Z jb;have oj:=Z b4;have j0:=Z g9;have c9:=Z d3;have i6:Hid (Bw w N):=ej.trans (dy.mono ej.size);clear la bd bs dy z1 z2 z3 j3 j2 ja jb b4 g9 cv c3 d3;go_upto_region 6 with fail;rw[ov.o,show m+1+1=m+2 from rfl,show m+2+1=m+3 from rfl,q7.o];obtain⟨L,hL⟩:=Qe (thereC d);rw[hL]at dk;have HL:=Z hL;clear hL te;obtain⟨ps,q1,q2,q3⟩:=HM.vs;have p5:=Z q1;have pc:=Z q2;have iF:=Z q3;obtain⟨H,dx⟩:=Qe (restL d ps);have fb:Hid (H.map (λp=>(p.1,p.2.1))=L):=by unfold Hid;rw[<- dx,<- HL.o];exact tL q1
 have oR:Hid (∀p∈H,findK ps p.1=X p.2):=λp I=>wy HM.ok.ok q1 (dx▸I);have f9:Hid (∀p∈H,p∈ps):=λp I=>(List.mem_filter.1 (dx▸I:p∈restL d ps)).1;have lk:H.length=L.length:=by rw[<- fb.o,k2]
 have f8:=Z lk;have e5:L.length<=1000:=by rw[<- HL.o];exact yc (zs _ _) hn
 have cl:Hid (aB ltRK L):=by unfold Hid;rw[<- HL.o];exact bJ HM.o.ok.ok
 have d8:Hid (∀j,j<L.length->rkOk (keyC L j)):=λj hj=>by
  have hm:L[j]∈thereC d:=by rw[HL.o];exact ys hj
  rw[bW hj];exact HM.ok.vkey _ (List.mem_filter.1 hm).1
 clear q1 q2 q3 dx lk hn;obtain⟨n,gP⟩:=Qe L.length;have ay:=Z gP;rw[k2]at dk;rw[gP]at dk e5;clear gP;go_upto_region 9 with(go_at_call 77;refine qs dk.o ?_;rintro e w3⟨v3,rfl,hI,k0⟩;obtain⟨a3,k3,rfl⟩:=aQ hI;have dc:=Z hI;have c6:=Z k0;clear hI k0)
 obtain⟨A,gx⟩:=Qe w3.heap.size;have f4:=Z gx;have n7:Hid (Bw w w3):=i6.trans (c6.mono i6.size);have q0:Hid (UN w.heap.size A F w3 (m+3) w.heap.size (m+2) m (m+1) c M V E (fn Y) d (L.take 0) (AT 0)):=by have lb:=f6.o;have d3:=c9.o;have x3:=c6.size;have Q:∀q,q<N.heap.size->w3.heap[q]?=N.heap[q]?:=c6.block;refine⟨(Q _ (by omega)).trans q6.o,(Q _ (ae j0.o)).trans j0.o,(Q _ (by omega)).trans pz.o,⟨[],iv.o.block (Q _ iv.o.lt),λk=>rfl⟩,⟨[],it.o.block (Q _ it.o.lt),λk=>⟨λh=>(by cases h),?_⟩,λt ht=>absurd ht (by simp),λ_ _ _ _ h=>(by cases h)⟩,oj.o.below c6.o,by omega,⟨by omega,by omega,by omega,by omega,by omega,by omega,by omega,by omega⟩,λk D=>HM.o.lt k D,cL.range 0,gN cl.o 0,λj hj=>absurd hj (by simp),by simp⟩;rintro⟨t,ht,_⟩;exact absurd ht (by simp)
 have b7:Hid (N.heap.size<=A/\w.heap.size+5<=A/\m=w.heap.size+1):=⟨by rw[<- gx];exact c6.o.size,by have:=c9.o;have:=c6.o.size;have:=f6.o;omega,f6.o⟩;clear gx;go_loopw [5,36] (λv i wr=>∃q:Nat,q<=n/\i=J U q/\Hid (UN w.heap.size A F wr (m+3) w.heap.size (m+2) m (m+1) c M V E (fn Y) d (L.take q) (AT q))/\Hid (wr.ownsRow A 62 3 v q ((recX (H.take q)).flatMap rdCells))/\Hid (wr.ownsRow N.heap.size 36 2 (hK a3 n k3) n ((L.map (·.1)).flatMap rkCells))/\Hid (Bw w wr)) (λ_ i _=>n-(intOf i).toNat)
 case atStart=>exact⟨0,zz _,rfl,q0.o,Bq _ _ _ _,dc.o,n7.o⟩
 obtain⟨q,hq,rfl,C,a9,O,a0⟩:=hrel;by_cases hlt:q<n
 .have bl:q<L.length:=by rw[ay.o];exact hlt
  obtain⟨B,va,bO,_⟩:=y8 O.o (by omega);cases bO;have a8:∀j,j<2->wr.cell? ⟨B,q*2+j,Y⟩=(rkCells (keyC L q))[j]?:=λj hj=>by
   have e6:q<(L.map (·.1)).length:=by rw[k2];exact bl
   rw[O.o.cellAt (q*2+j) (by omega),cW rkCells 2 (λ_=>rfl) _ q e6 j hj,z0,bW bl]
  have e0:Cl wr B (q*2) (J U (keyC L q).1):=(a8 0 (by omega)).trans rfl;have e1:Cl wr B (q*2+1) (J U (keyC L q).2):=(a8 1 (by omega)).trans rfl;have D:=d8 q bl;have nO:=Z (rfl:keyC L q=keyC L q);obtain⟨⟨y,z⟩,gt⟩:∃k,keyC L q=k:=⟨_,rfl⟩;have d9:=Z gt;rw[gt]at e0 e1 D;dsimp only at e0 e1;have oN:=Z D;clear a8 gt nO;obtain⟨o,ac⟩:=Qe (wr.alloc (hb #[J U y,J U z] 36));have a4:Bw wr o:=by rw[<- ac];exact(mk _ wr).alloc (nq _) _
  have hF:o.heap[wr.heap.size]?=X (hb #[J U y,J U z] 36 (0,0)):=by rw[<- ac];exact lm wr _
  obtain⟨R,av⟩:=Qe wr.heap.size;rw[av]at hF;have au:=Z (C.below a4);have fr:Hid (o.ownsRow A 62 3 u5 q ((recX (H.take q)).flatMap rdCells)):=ai a9.o (λg u=>a4.block g (a9.lt g u).2);have b6:Hid (o.ownsRow N.heap.size 36 2 (hK (X ⟨B,0,Y⟩) n k3) n ((L.map (·.1)).flatMap rkCells)):=ai O.o (λg u=>a4.block g (O.lt g u).2);have bt:Hid (Bw w o):=a0.trans (a4.mono a0.size);have ex:Hid (B<A):=by have h3:=dc.lt B rfl;rw[f4.o]at h3;exact h3.2
  have cn:=Z ac;have c7:=Z av;have HF:=Z hF;have ch:Hid (A<=R/\o.heap.size=R+1):=⟨by rw[<- av];exact C.o.los.2.2.2.2.2.2.2,by rw[<- ac,<- av];simp⟩;clear ac av a4 hF C a9 O a0;go_upto_region 11 with fail;rw[cn.o,c7.o];clear e0 e1;obtain⟨ao,ko,rfl⟩:=aQ fr.o;go_cut [5] (λv wx=>v=hK ao q ko/\Hid (UN w.heap.size A F wx (m+3) w.heap.size (m+2) m (m+1) c M V E (fn Y) d (L.take (q+1)) (AT (q+1)))/\Hid (wx.ownsRow A 62 3 (hK ao q ko) q ((recX (H.take q)).flatMap rdCells))/\Hid (wx.ownsRow N.heap.size 36 2 (hK (X ⟨B,0,Y⟩) n k3) n ((L.map (·.1)).flatMap rkCells))/\Hid (Bw w wx)/\Hid (Bk wx R #[J U y,J U z] 36))
  case first=>
   obtain⟨l1,aC,E1⟩:=au.of;obtain⟨l2,b4,M2,M3,M4⟩:=au.mem;have tr:=gU (L:=L) (i:=q) (by omega);have ib:Hid (l1.length<maxLen):=by have:=pP (L:=L.take q) aC (λk D=>by rw[E1]at D;simpa using D);unfold Hid maxLen;omega
   have da:Hid (l2.length<maxLen):=by
    have:=pP (L:=L.take q) b4 (λk D=>by obtain⟨t,ht,_,dz⟩:=(M2 k).1 D;rw[<- dz,eX (gN cl.o q) ht];rfl)
    unfold Hid maxLen;omega
   have ad:Hid (m+1≠m/\m≠m+1):=⟨by omega,by omega⟩;have aT:Hid (R+1≠m/\R+1≠m+1):=⟨by have:=ch.o.1;have:=b7.o;omega,by have:=ch.o.1;have:=b7.o;omega⟩;have oc:Hid (∀W,ah (λq=>q=m∨q=m+1) o (λq=>q=m∨q=m+1) W->Cl W (m+3) 0 (fn (X ⟨m+2,0,Y⟩))/\(Cl W (m+2) 0 (hk (X m))/\Cl W (m+2) 1 (hk (X (m+1))))/\Cl W R 0 (J U y)/\Cl W R 1 (J U z)):=λW hW=>by have hz:=ch.o;have cc:=b7.o;have b1:=(hW.block (m+3) (ae au.o.vt) (by omega)).trans au.o.vt;have b2:=(hW.block (m+2) (ae au.o.tb) (by omega)).trans au.o.tb;have b3:=(hW.block R (by omega) (by omega)).trans HF.o;exact⟨(aa b1 0).trans rfl,⟨(aa b2 0).trans rfl,(aa b2 1).trans rfl⟩,(aa b3 0).trans rfl,(aa b3 1).trans rfl⟩
   have d7:Hid (∀W,ah (λq=>q=m∨q=m+1) o (λq=>q=m∨q=m+1) W->ak recB W m (putL l1 (y,z) (.agg #[J U y,J U z]))->ak recB W (m+1) (putL l2 (y,z) (hK (X ⟨R+1,0,Y⟩) 1 1))->Bk W (R+1) #[J U y,J U z] 36->
    Hid (UN w.heap.size A F W (m+3) w.heap.size (m+2) m (m+1) c M V E (fn Y) d (L.take (q+1)) (AT (q+1)))/\Hid (W.ownsRow A 62 3 (hK ao q ko) q ((recX (H.take q)).flatMap rdCells))/\Hid (W.ownsRow N.heap.size 36 2 (hK (X ⟨B,0,Y⟩) n k3) n ((L.map (·.1)).flatMap rkCells))/\Hid (Bw w W)/\Hid (Bk W R #[J U y,J U z] 36)):=λW hW h1 h2 h3=>by
    have hz:=ch.o
    have cc:=b7.o
    have gn:=ex.o
    have Q:∀p,p<o.heap.size->p≠m->p≠m+1->W.heap[p]?=o.heap[p]?:=λp I p1 p2=>hW.block p I (by omega)
    refine⟨UN.grow au.o cl.o bl (by rw[ay.o];omega) d8.o E1 (by rw[d9.o];exact h1) M2 M3 M4 (nb:=R+1) (by rw[d9.o];exact h2) (by rw[d9.o];exact h3) (by omega) Q hW.size,ai fr.o (λg u=>?_),ai b6.o (λg u=>?_),?_,(Q R (by omega) (by omega) (by omega)).trans HF.o⟩
    .have hl:=fr.lt g u
     exact Q g hl.2 (by omega) (by omega)
    .have hl:=b6.lt g u
     exact Q g hl.2 (by have:=c9.o;omega) (by have:=c9.o;omega)
    .exact bt.o.trans (hW.below (λk D=>by omega) bt.o.size).1
   clear E1 M2 M3 M4 tr;go_wp2_with fail;have hO:ah (λq=>q=m∨q=m+1) o (λq=>q=m∨q=m+1) o.drew:=ah.of_below (mk _ o).drew;have aC:=ak.drew aC;have b4:=ak.drew b4;have hZ:o.drew.heap.size=R+1:=ch.2;refine wT (λW=>ah (λq=>q=m∨q=m+1) o (λq=>q=m∨q=m+1) W) 999 ?_;generalize o.drew=W0 at*;refine Qd [0,4,5,9,10,11,1,6,2,7,3,8] hO oc ?_;refine bZ (i:=12) (j:=13) rfl rfl (by kernel_rfl) rfl rfl (λK s=>?_) (λK s=>?_)
   .skip;go_simp;try rw[hZ]
    have g1:Bw W0 (W0.alloc (hb #[J U y,J U z] 36)):=(mk _ W0).alloc (nq _) _;have sb:(W0.alloc (hb #[J U y,J U z] 36)).heap[R+1]?=X (hb #[J U y,J U z] 36 (0,0)):=by rw[<- hZ];exact lm W0 _
    have ma:=hO.trans (ah.of_below g1);have rr:=aC.block (g1.block m (aC.lt));have rx:=b4.block (g1.block (m+1) (b4.lt));generalize W0.alloc (hb #[J U y,J U z] 36)=Wx1 at*;refine s _ _ (λ_=>ma) ?_;clear s K;go_simp;refine Dp 13 λK s=>?_;obtain⟨y4,qy,qc,lB,sz,h8,v4⟩:=ak.entry rr gV underlying92 lI (y,z) D ib.o;refine bF rfl lB ?_;have hR:=ma.trans (ah.of_only h8 (.inl rfl));have r9:=rx.block (h8.block (m+1) (ad.1));have s8:=(h8.block (R+1) (aT.1)).trans sb;generalize ya Wx1 m (.map qy qc)=Wx7 at*;clear lB;refine s _ _ (λ_=>hR) ?_;clear s K;go_simp;refine Qc [14] hR ?_
    refine Dp 15 λK s=>?_;obtain⟨qa,tx,t9,ho⟩:=v4 Wx7 (.agg #[J U y,J U z]) sz;refine bj rfl tx ?_;have m7:=hR.trans (ah.of_only ho (.inl rfl));have ra:=r9.block (ho.block (m+1) (ad.1));have sa:=(ho.block (R+1) (aT.1)).trans s8;refine s _ _ (λ_=>m7) ?_;clear s K;go_simp;refine Dp 16 λK s=>?_;obtain⟨xv,qt,qf,lP,sC,h9,v6⟩:=ak.entry ra gV underlying93 eN (y,z) D da.o;refine bF rfl lP ?_;have hS:=m7.trans (ah.of_only h9 (.inr rfl));have rc:=t9.block (h9.block m (ad.2));have se:=(h9.block (R+1) (aT.2)).trans sa;generalize ya qa (m+1) (.map qt qf)=Wx25 at*;clear lP;refine s _ _ (λ_=>hS) ?_;clear s K;go_simp;refine Qc [17] hS ?_
    refine Dp 18 λK s=>?_;obtain⟨vx,tz,ta,hw⟩:=v6 Wx25 (hK (X ⟨R+1,0,Y⟩) 1 1) sC;refine bj rfl tz ?_;have mb:=hS.trans (ah.of_only hw (.inr rfl));have rg:=rc.block (hw.block m (ad.2));have sk:=(hw.block (R+1) (aT.2)).trans se;refine s _ _ (λ_=>mb) ?_;clear s K;go_simp;refine dN ?_;go_wp2_with fail;go_meet;exact⟨rfl,d7 _ mb rg ta sk⟩
   skip;obtain⟨y2,qv,qk,lQ,gb,hc,ms⟩:=ak.entry aC gV underlying92 lI (y,z) D ib.o;refine bF rfl lQ ?_;have e9:=hO.trans (ah.of_only hc (.inl rfl));have i0:=hc.size.trans hZ;have g6:=b4.block (hc.block (m+1) (ad.1));generalize ya W0 m (.map qv qk)=Wx43 at*;clear lQ;refine s _ _ (λ_=>e9) ?_;clear s K;go_simp;refine Qc [14] e9 ?_
   refine bZ (i:=12) (j:=15) rfl rfl (by kernel_rfl) rfl rfl (λK s=>?_) (λK s=>?_)
   .skip;go_simp;try rw[i0]
    have g2:Bw Wx43 (Wx43.alloc (hb #[J U y,J U z] 36)):=(mk _ Wx43).alloc (nq _) _;have sl:(Wx43.alloc (hb #[J U y,J U z] 36)).heap[R+1]?=X (hb #[J U y,J U z] 36 (0,0)):=by rw[<- i0];exact lm Wx43 _
    have mc:=e9.trans (ah.of_below g2);have r0:=(g2.block m (ae gb)).trans gb;have rs:=g6.block (g2.block (m+1) (g6.lt));generalize Wx43.alloc (hb #[J U y,J U z] 36)=Wx54 at*;refine s _ _ (λ_=>mc) ?_;clear s K;go_simp;refine Dp 15 λK s=>?_;obtain⟨qb,tO,tc,hy⟩:=ms Wx54 (.agg #[J U y,J U z]) r0;refine bj rfl tO ?_;have me:=mc.trans (ah.of_only hy (.inl rfl));have ry:=rs.block (hy.block (m+1) (ad.1));have sm:=(hy.block (R+1) (aT.1)).trans sl;refine s _ _ (λ_=>me) ?_;clear s K;go_simp;refine Dp 16 λK s=>?_;obtain⟨y3,qx,qn,lT,sM,hd,v8⟩:=ak.entry ry gV underlying93 eN (y,z) D da.o;refine bF rfl lT ?_;have hT:=me.trans (ah.of_only hd (.inr rfl));have rW:=tc.block (hd.block m (ad.2));have so:=(hd.block (R+1) (aT.2)).trans sm;generalize ya qb (m+1) (.map qx qn)=Wx67 at*;clear lT;refine s _ _ (λ_=>hT) ?_;clear s K;go_simp;refine Qc [17] hT ?_
    refine Dp 18 λK s=>?_;obtain⟨vy,ua,td,hA⟩:=v8 Wx67 (hK (X ⟨R+1,0,Y⟩) 1 1) sM;refine bj rfl ua ?_;have mf:=hT.trans (ah.of_only hA (.inr rfl));have s0:=rW.block (hA.block m (ad.2));have sp:=(hA.block (R+1) (aT.2)).trans so;refine s _ _ (λ_=>mf) ?_;clear s K;go_simp;refine dN ?_;go_wp2_with fail;go_meet;exact⟨rfl,d7 _ mf s0 td sp⟩
   skip;obtain⟨bA,uc,gz,hB⟩:=ms Wx43 (.agg #[J U y,J U z]) gb;refine bj rfl uc ?_;have hX:=e9.trans (ah.of_only hB (.inl rfl));have i4:=hB.size.trans i0;have g8:=g6.block (hB.block (m+1) (ad.1));refine s _ _ (λ_=>hX) ?_;clear s K;go_simp;refine bZ (i:=12) (j:=16) rfl rfl (by kernel_rfl) rfl rfl (λK s=>?_) (λK s=>?_)
   .skip;go_simp;try rw[i4]
    have g4:Bw bA (bA.alloc (hb #[J U y,J U z] 36)):=(mk _ bA).alloc (nq _) _;have ss:(bA.alloc (hb #[J U y,J U z] 36)).heap[R+1]?=X (hb #[J U y,J U z] 36 (0,0)):=by rw[<- i4];exact lm bA _
    have ml:=hX.trans (ah.of_below g4);have s1:=gz.block (g4.block m (gz.lt));have s2:=g8.block (g4.block (m+1) (g8.lt));generalize bA.alloc (hb #[J U y,J U z] 36)=Wx92 at*;refine s _ _ (λ_=>ml) ?_;clear s K;go_simp;refine Dp 16 λK s=>?_;obtain⟨y5,qo,qd,lx,sx,h6,v1⟩:=ak.entry s2 gV underlying93 eN (y,z) D da.o;refine bF rfl lx ?_;have hP:=ml.trans (ah.of_only h6 (.inr rfl));have r1:=s1.block (h6.block m (ad.2));have s3:=(h6.block (R+1) (aT.2)).trans ss;generalize ya Wx92 (m+1) (.map qo qd)=Wx98 at*;clear lx;refine s _ _ (λ_=>hP) ?_;clear s K;go_simp;refine Qc [17] hP ?_
    refine Dp 18 λK s=>?_;obtain⟨vb,ts,t7,he⟩:=v1 Wx98 (hK (X ⟨R+1,0,Y⟩) 1 1) sx;refine bj rfl ts ?_;have m4:=hP.trans (ah.of_only he (.inr rfl));have r2:=r1.block (he.block m (ad.2));have s4:=(he.block (R+1) (aT.2)).trans s3;refine s _ _ (λ_=>m4) ?_;clear s K;go_simp;refine dN ?_;go_wp2_with fail;go_meet;exact⟨rfl,d7 _ m4 r2 t7 s4⟩
   skip;obtain⟨xk,qq,qe,lE,k8,h7,v2⟩:=ak.entry g8 gV underlying93 eN (y,z) D da.o;refine bF rfl lE ?_;have hQ:=hX.trans (ah.of_only h7 (.inr rfl));have n5:=h7.size.trans i4;have j1:=gz.block (h7.block m (ad.2));generalize ya bA (m+1) (.map qq qe)=Wx116 at*;clear lE;refine s _ _ (λ_=>hQ) ?_;clear s K;go_simp;refine Qc [17] hQ ?_
   refine Dp 12 λK s=>?_;go_simp;try rw[n5]
   have g0:Bw Wx116 (Wx116.alloc (hb #[J U y,J U z] 36)):=(mk _ Wx116).alloc (nq _) _;have s5:(Wx116.alloc (hb #[J U y,J U z] 36)).heap[R+1]?=X (hb #[J U y,J U z] 36 (0,0)):=by rw[<- n5];exact lm Wx116 _
   have m5:=hQ.trans (ah.of_below g0);have r4:=j1.block (g0.block m (j1.lt));have qz:=(g0.block (m+1) (ae k8)).trans k8;generalize Wx116.alloc (hb #[J U y,J U z] 36)=Wx127 at*;refine s _ _ (λ_=>m5) ?_;clear s K;go_simp;refine Dp 18 λK s=>?_;obtain⟨vd,tt,t8,hh⟩:=v2 Wx127 (hK (X ⟨R+1,0,Y⟩) 1 1) qz;refine bj rfl tt ?_;have m6:=m5.trans (ah.of_only hh (.inr rfl));have r8:=r4.block (hh.block m (ad.2));have s6:=(hh.block (R+1) (aT.2)).trans s5;refine s _ _ (λ_=>m6) ?_;clear s K;go_simp;refine dN ?_;go_wp2_with fail;go_meet;exact⟨rfl,d7 _ m6 r8 t8 s6⟩
  obtain⟨rfl,ds,cg,ia,d5,i8⟩:=hcut;have e7:q<H.length:=by rw[f8.o];exact bl
  have ft:Hid (H.take (q+1)=H.take q++[H[q]]):=z9 e7;have bk:H[q].1=(y,z):=by
   rw[<- d9.o,bW bl];have h2:=fb.o;have:L[q]=(H[q].1,H[q].2.1):=by
    have:=z0 (l:=H) (f:=λp:RK×VX=>(p.1,p.2.1)) (i:=q) (h:=by rw[k2];exact e7);rw[<- this];congr 1
    exact h2.symm
   rw[this]
  have cy:=oR _ (ys e7);have gq:=f9 _ (ys e7);obtain⟨p,I⟩:=Qe (H[q]);rw[I]at ft bk cy gq;obtain⟨pk,⟨d4,r⟩,x⟩:=p;dsimp only at bk;subst bk;obtain⟨_,_,kk,_,_⟩:=iF _ gq;obtain⟨xa,xc,b8⟩:=kk.shape;dsimp only at b8 cy;subst b8;clear kk I gq;obtain⟨rk,rl,fs⟩:=r;dsimp only at cy ft;have pn:Hid ((recX (H.take (q+1))).flatMap rdCells=(recX (H.take q)).flatMap rdCells++[J ih rk.toNat,J ih rl.toNat,hK xa fs.length xc]):=by unfold Hid recX;rw[ft.o,List.map_append,Bo];rfl
  have v9:=ds.los;have wa:R<wc.heap.size:=ae i8.o;have n0:∀{g:Nat},(y9 ao q ko).ownBlock=X g->∃cu,Bk wc g cu 62:=λ{g}u=>aH cg.o u;have nf:Hid (∀W,wc.grownBy W (y9 ao q ko).ownBlock->Cl W w.heap.size 0 (fn (X ⟨c,0,Y⟩))/\Cl W c 0 (.map M)/\(Cl W R 0 (J U y)/\Cl W R 1 (J U z))/\(y7 113 (.map M) (.agg #[J U y,J U z]) false).run prog W=.ok (.agg #[J U y,J U z,J U d4,J ih rk.toNat,J ih rl.toNat,hK xa fs.length xc]) W):=λW hW=>by
   have D:∀{g:Nat}{cs:Array Value}{ty:TypeId},wc.heap[g]?=X (hb cs ty (0,0))->ty≠62->W.heap[g]?=X (hb cs ty (0,0)):=λ{g cs ty}u th=>(hW.block g (ae u) (λe=>by obtain⟨cu,ax⟩:=n0 e.symm;exact dp u ax th rfl)).trans u
   have b1:=D ds.vc (by decide);have b2:=D ds.cat.blk (by decide);have b3:=D i8.o (by decide);refine⟨(aa b1 0).trans rfl,(aa b2 0).trans rfl,⟨(aa b3 0).trans rfl,(aa b3 1).trans rfl⟩,?_⟩;have t6:cw recB W M (ps.map λp=>(p.1,jo p.1 p.2)):=by refine pc.block (λb Q=>?_);have t0:=HM.f1 b Q;have kc:=HM.lt b t0;have h1:=d5.block b kc;refine(hW.block b (zd kc d5.size) (λe=>?_)).trans h1;have:=(cg.lt b e.symm).1;omega
   have:=cw.look (w:=W) t6 underlying113 lH (y,z) oN.o;rw[ge,cy]at this;exact this
  have gd:=λW=>xi y z d4 rk.toNat rl.toNat xa fs.length xc W;obtain⟨iN,kq,n2,n3,n4⟩:=info_parts i62;have HI:=Z kq;have nn:=Z n2;have nx:=Z n3;have ny:=Z n4;clear cy n0 kq n2 n3 n4;go_wp2_with fail;have gi:wc.grownBy wc.drew (y9 ao q ko).ownBlock:=⟨rfl,rfl,rfl,nq _,λ_ _ _=>rfl⟩;refine wT (λW=>wc.grownBy W (y9 ao q ko).ownBlock) 999 ?_;refine Qd [0,1,5,2,3,4,6] gi nf ?_;refine Qd [7] gi (λw' h=>gd w') ?_
  refine Dp 8 λK s=>?_;go_simp;have kl:wc.grownBy (wc.drew.alloc (.cells #[.int .u8 rk.toNat,.int .u8 rl.toNat,.slice xa fs.length xc] 62)) (y9 ao q ko).ownBlock:=gi.trans ((A2 _ _ Y).but _);refine s _ _ (λ_=>kl) ?_;clear s K;refine Dp 9 λK s=>?_;obtain⟨v',w7,d0,lf,t3,_,_⟩:=run_append_own_at (P:=prog) (wc.drew.alloc (hb #[J ih rk.toNat,J ih rl.toNat,hK xa fs.length xc] 62)) A 59 59 62 iN (.agg #[J ih 0,J ih 0,hK Y 0 0]) 3 32 underlying59 HI.o nn.o nx.o ny.o rfl (by decide) (hK ao q ko) q _ (World.ownsRow.alloc (w:=wc.drew) cg.o _) ⟨wc.drew.heap.size,0,Y⟩ 1 1 [J ih rk.toNat,J ih rl.toNat,hK xa fs.length xc] rfl (mS wc.drew _ _ _ 62) (by simp[Value.oneCell']) (by unfold maxLen;omega) (by omega) (by have:=v9.2.2.2.2.2.2.2;simp;show A<=wc.heap.size+1;omega);refine iJ rfl rfl rfl d0 ?_;obtain⟨vN,x7,rfl⟩:=aQ lf;have bc:=kl.trans t3;refine s _ _ (λ_=>bc) ?_;clear s K;go_simp;refine Qc [10] bc ?_
  refine dN ?_;go_wp2_with fail;have gp:∀p,p<wc.heap.size->(p<A∨∀c,wc.heap[p]?≠X (Obj.cells c 62 (0,0)))->w7.heap[p]?=wc.heap[p]?:=λp I h=>bc.block p I (λe=>by
   rcases h with h|h
   .have:=(cg.lt p e.symm).1;omega
   obtain⟨cu,ax⟩:=aH cg.o e.symm;exact h cu ax)
  go_roundw
  case rel=>
   refine⟨q+1,hlt,by go_num,ds.o.keep (by decide) (by decide) (by decide) (by decide) gp bc.size,?_,ai ia.o (λg u=>?_),d5.o.trans ⟨bc.os,bc.tape,bc.output,bc.size,λp I=>gp p (zd I d5.o.size) (.inl (by have:=b7.o;omega))⟩⟩
   .unfold Hid;rw[pn.o];exact lf
   obtain⟨cu,ax⟩:=aH ia.o u;exact gp g (ae ax) (.inr λc e=>by rw[ax]at e;injection e with e;injection e with _ e;exact absurd e (by decide))
  simp[intOf];omega
 obtain rfl:q=n:=by omega
 have mv:L.take q=L:=zp (by rw[ay.o];omega);have mP:H.take q=H:=zp (by rw[f8.o,ay.o];omega);rw[mv]at C;rw[mP]at a9;clear mv mP hlt hq;obtain⟨T,cQ⟩:=Qe (d.ps.map (·.1));have e6:T.length<=5000:=by rw[<- cQ,k2];exact HM.o.ok.plen
 have aS:Bw wr (wr.alloc (hb #[.map E] 115)):=(mk _ wr).alloc (nq _) _;have hY:=wN 8 (by omega) wr.heap.size E (d.ps.map λp=>(p.1,gE p.2)) (wr.alloc (hb #[.map E] 115)) (by rw[z4];rfl) (C.o.cat.ps.block (λb Q=>aS.block b (C.o.cat.lt b (C.o.cat.f3 b Q)))) (λb Q=>by have:=C.o.cat.lt b (C.o.cat.f3 b Q);simp;omega);have l7:(d.ps.map λp=>(p.1,gE p.2)).map (·.1)=T:=by rw[A1,<- cQ];rfl
 rw[l7]at hY;have iS:=Z (wg 10 (by omega) 121 #[fn (X ⟨wr.heap.size,0,Y⟩)] (enters_of func121 (by kernel_rfl) rfl) T (by omega) _ _ (λxd x hx=>by have:=hx.1;rw[k2]at this;have:=HM.o.ok.plen;omega) _ hY);have mn:cU ltPK T=T:=by refine co dG (.refl _) ?_;have hs:=HM.ok.ok.ps;unfold aB at hs;rw[<- cQ,Ac];exact hs
 rw[mn]at iS;have nz:=Z (A4 E wr);have cv:=(aa C.vc 0).trans rfl;have c2:Cl wr c 2 (.map E):=(aa C.cat.blk 2).trans rfl;have er:=Z aS;have fl:=Z cQ;clear hY l7 mn aS cQ;obtain⟨ao,ko,rfl⟩:=aQ a9.o
 go_upto_region 16 with(first
  |(go_at_call 66;((with_reducible refine qs nz.o ?_);rintro e w4⟨rfl,rfl⟩))
  |(go_at_call 65;((with_reducible refine qs iS.o ?_);rintro e w5⟨v5,rfl,hJ,bb⟩;obtain⟨a5,k5,rfl⟩:=aQ hJ;have pe:=Z hJ;have n8:=Z bb;clear hJ bb)))
 have bb:Bw wr w5:=er.trans (n8.mono er.size);have q4:Hid (UN w.heap.size A F w5 (m+3) w.heap.size (m+2) m (m+1) c M V E (fn Y) d L (lY d.ps L (d.ps.take 0))):=by have h:=C.below bb;rw[<- ay.o]at h;exact h
 have pt:Hid (w5.ownsRow A 62 3 (hK ao q ko) q ((recX H).flatMap rdCells)):=ai a9.o (λg u=>bb.block g (a9.lt g u).2);have oa:Hid (w5.ownsRow N.heap.size 36 2 (hK a3 q k3) q ((L.map (·.1)).flatMap rkCells)):=ai O.o (λg u=>bb.block g (O.lt g u).2);have n9:Hid (Bw w w5):=a0.trans (bb.mono a0.size);have pf:Hid (w5.ownsRow A 134 4 (hK a5 T.length k5) T.length (T.flatMap pkCells)):=aD pe.o (by have:=C.o.los.2.2.2.2.2.2.2;have:=er.o.size;omega);clear bb C a9 O a0 cv c2;go_loopw [76] (λi wr=>∃j:Nat,j<=T.length/\i=J U j/\Hid (UN w.heap.size A F wr (m+3) w.heap.size (m+2) m (m+1) c M V E (fn Y) d L (lY d.ps L (d.ps.take j)))/\Hid (wr.ownsRow A 62 3 (hK ao q ko) q ((recX H).flatMap rdCells))/\Hid (wr.ownsRow N.heap.size 36 2 (hK a3 q k3) q ((L.map (·.1)).flatMap rkCells))/\Hid (wr.ownsRow A 134 4 (hK a5 T.length k5) T.length (T.flatMap pkCells))/\Hid (Bw w wr)) (λi _=>T.length-(intOf i).toNat)
 case atStart=>exact⟨0,zz _,rfl,q4.o,pt.o,oa.o,pf.o,n9.o⟩
 obtain⟨j,hj,rfl,C,a9,O,al,a0⟩:=hrel;by_cases hlj:j<T.length
 .have ks:j<d.ps.length:=by rw[<- fl.o,k2]at hlj;exact hlj
  obtain⟨g5,x5,bO,_⟩:=y8 al.o (by omega);cases bO;have lp:T[j]=d.ps[j].1:=by simp[<- fl.o]
  have a8:∀i,i<4->wr.cell? ⟨g5,j*4+i,Y⟩=(pkCells d.ps[j].1)[i]?:=λi hi=>by rw[al.o.cellAt (j*4+i) (by omega),cW pkCells 4 (λ_=>rfl) _ j hlj i hi,lp]
  have b0:=Z (wk d.ps L j ks);have gO:=ys ks;have bk:=HM.ok.pkey _ gO;have gf:findK d.ps d.ps[j].1=X d.ps[j].2:=(eT dG HM.ok.ok.ps).2 gO;obtain⟨p,I⟩:=Qe (d.ps[j]);rw[I]at a8 b0 bk gf;clear I gO lp;obtain⟨⟨⟨a1,a2⟩,b1,b2⟩,d4,jn⟩:=p;dsimp only at bk gf b0 a8;have e0:Cl wr g5 (j*4) (J U a1):=(a8 0 (by omega)).trans rfl;have e1:Cl wr g5 (j*4+1) (J U a2):=(a8 1 (by omega)).trans rfl;have e2:Cl wr g5 (j*4+2) (J U b1):=(a8 2 (by omega)).trans rfl;have e3:Cl wr g5 (j*4+3) (J U b2):=(a8 3 (by omega)).trans rfl;clear a8;obtain⟨o,ac⟩:=Qe (wr.alloc (hb #[J U a1,J U a2,J U b1,J U b2] 134));have a4:Bw wr o:=by rw[<- ac];exact(mk _ wr).alloc (nq _) _
  have hF:o.heap[wr.heap.size]?=X (hb #[J U a1,J U a2,J U b1,J U b2] 134 (0,0)):=by rw[<- ac];exact lm wr _
  obtain⟨R,av⟩:=Qe wr.heap.size;rw[av]at hF;have au:=Z (C.below a4);have dd:Hid (o.ownsRow A 62 3 (hK ao q ko) q ((recX H).flatMap rdCells)):=ai a9.o (λg u=>a4.block g (a9.lt g u).2);have b6:Hid (o.ownsRow N.heap.size 36 2 (hK a3 q k3) q ((L.map (·.1)).flatMap rkCells)):=ai O.o (λg u=>a4.block g (O.lt g u).2);have b9:Hid (o.ownsRow A 134 4 (hK (X ⟨g5,0,Y⟩) T.length k5) T.length (T.flatMap pkCells)):=ai al.o (λg u=>a4.block g (al.lt g u).2);have bt:Hid (Bw w o):=a0.trans (a4.mono a0.size);have cn:=Z ac;have c7:=Z av;have HF:=Z hF;clear ac a4 hF av C a9 O al a0;have d6:Hid (∀W,Bw o W->Cl W w.heap.size 0 (fn (X ⟨c,0,Y⟩))/\Cl W c 2 (.map E)/\(Cl W R 0 (J U a1)/\Cl W R 1 (J U a2)/\Cl W R 2 (J U b1)/\Cl W R 3 (J U b2))/\(y7 115 (.map E) (.agg #[J U a1,J U a2,J U b1,J U b2]) false).run prog W=.ok (.agg #[J U d4,k1 jn]) W):=λW Q=>by have hu:=au.below Q;have e2:=nB ((Q.block _ (ae HF.o)).trans HF.o);refine⟨(aa hu.vc 0).trans rfl,(aa hu.cat.blk 2).trans rfl,e2,?_⟩;have:=cw.look (w:=W) hu.cat.ps underlying115 ij ((a1,a2),b1,b2) bk;rw[ge d.ps (λ_ v=>gE v),gf]at this;exact this
  go_upto_region 18 with fail;rw[cn.o,c7.o];clear e0 e1 e2 e3;have gd:=λW=>uz d4 jn W;go_wp2_with fail;have bB:Bw o o.drew:=(mk _ o).drew;refine Wb o 999 ?_;refine Qd [0,1,2,3,4,5] bB d6 ?_;refine Qd [6] bB (λw' h=>gd w') ?_
  refine dN ?_;rcases jn with _|_
  .have cm:Hid (UN w.heap.size A F o.drew (m+3) w.heap.size (m+2) m (m+1) c M V E (fn Y) d L (lY d.ps L (d.ps.take (j+1)))):=by unfold Hid;rw[b0.o,if_neg (by decide)];exact au.below bB
   go_wp2_with fail;go_roundw
   case rel=> exact⟨j+1,hlj,by go_num,cm,dd,b6,b9,bt.trans (mk _ o).drew⟩
   simp[intOf];omega
  have c5:=qR w.heap.size A F o.drew (m+3) w.heap.size (m+2) m (m+1) c M V E (fn Y) d L (lY d.ps L (d.ps.take j)) (au.below bB) ((a1,a2),b1,b2) bk;dsimp only[pairV]at c5;have fx:=Z c5;obtain⟨_,_,⟨f0,f1,f2,f3⟩,_⟩:=d6 _ bB;clear c5;go_wp2_with (go_at_call 78;(refine qs fx.o ?_;rintro e w6⟨rfl,d1,cq,cx⟩;have fy:=Z d1;have em:=Z cq;have bv:=Z cx;clear d1 cq cx))
  have cc:=b7.o;have cm:Hid (UN w.heap.size A F w6 (m+3) w.heap.size (m+2) m (m+1) c M V E (fn Y) d L (lY d.ps L (d.ps.take (j+1)))):=by unfold Hid;rw[b0.o,if_pos (by decide)];exact fy.o
  go_roundw
  case rel=>
   refine⟨j+1,hlj,by go_num,cm,ai dd.o (λg u=>?_),ai b6.o (λg u=>?_),ai b9.o (λg u=>?_),(bt.trans (mk _ o).drew).trans em.o⟩
   .have hl:=dd.lt g u;obtain⟨cu,ax⟩:=aH dd.o u;exact bv.o g hl.2 (by omega) (by omega) (.inr λc2 e=>by rw[show o.drew.heap[g]?=o.heap[g]? from rfl,ax]at e;injection e with e;injection e with _ e;exact absurd e (by decide))
   .have hl:=b6.lt g u;have l4:=dc.lt g u;rw[f4.o]at l4;have d3:=c9.o;exact bv.o g hl.2 (by omega) (by omega) (.inl l4.2)
   have hl:=b9.lt g u;obtain⟨cu,ax⟩:=aH b9.o u;exact bv.o g hl.2 (by omega) (by omega) (.inr λc2 e=>by rw[show o.drew.heap[g]?=o.heap[g]? from rfl,ax]at e;injection e with e;injection e with _ e;exact absurd e (by decide))
  simp[intOf];omega
 have gs:j=T.length:=by omega
 subst gs;have lo:d.ps.take T.length=d.ps:=zp (by rw[<- fl.o,k2];exact nq _);rw[lo]at C;clear lo hlj hj al;obtain⟨xs,b8⟩:=Qe (recX H);have cb:xs.length=q:=by rw[<- b8];unfold recX;rw[k2,f8.o,ay.o]
 rw[b8]at a9;have m0:kX wr (hK ao q ko) xs:=by refine⟨by rw[cb];exact(aN a9.o).mono (zz _) (nq _),λp I=>?_⟩;rw[<- b8]at I;obtain⟨p',hC,rfl⟩:=List.mem_map.1 I;obtain⟨xb,wu,f1,f2,f3⟩:=iF p' (f9 p' hC);exact(f1.kept (λk a b=>a0.block k (HM.lt k (f3 k a b).1))).mono (zz _) (yc f2 a0.size)
 have mm:∀p∈xs,bo p.1.fields:=λp I=>by
  rw[<- b8]at I;obtain⟨p',hC,rfl⟩:=List.mem_map.1 I;have hm:(p'.1,p'.2.1)∈d.vs:=by rw[<- p5.o];exact List.mem_map.2 ⟨p',f9 p' hC,rfl⟩
  exact(ek (HM.ok.right _ hm)).2.2
 obtain⟨G,cP⟩:=Qe (pairsR (L.map λp=>p.2.2));have n1:pairsR (xs.map (·.1))=G:=by rw[<- cP,<- b8,<- fb.o];unfold recX;rw[A1,A1];rfl
 have hH:=yI wr (hK ao q ko) xs m0 (by rw[cb];exact e5) mm;rw[n1]at hH;have p3:=Z hH;have p4:=Z cP;have x2:G.length<=1000000:=by rw[<- cP];have h1:=nZ (L.map λp=>p.2.2);rw[k2,ay.o]at h1;exact yc h1 (yc (Nat.mul_le_mul e5 e5) (by decide))
 have p0:Hid (∀(j:Nat)(h:j<G.length),(G[j]).1<L.length/\(G[j]).2<L.length):=λj h=>by have:=jz (l:=L.map λp=>p.2.2) G[j] (by rw[cP];exact ys h);rwa[k2]at this
 clear m0 mm hH n1 cP cb b8;go_upto_region 22 with(go_at_call 79;(refine qs p3.o ?_;rintro e w7⟨v7,rfl,d0,k4⟩;obtain⟨a7,k7,rfl⟩:=aQ d0;have pi:=Z d0;have eq:=Z k4;clear d0 k4))
 have q5:Hid (UN w.heap.size A F w7 (m+3) w.heap.size (m+2) m (m+1) c M V E (fn Y) d L (pA d.ps L (G.take 0))):=C.below eq.o;have ob:Hid (w7.ownsRow N.heap.size 36 2 (hK a3 q k3) q ((L.map (·.1)).flatMap rkCells)):=ai O.o (λg u=>eq.block g (O.lt g u).2);have ne:Hid (Bw w w7):=a0.trans (eq.mono a0.size);have pj:Hid (w7.ownsRow A 67 2 (hK a7 G.length k7) G.length (G.flatMap cN)):=aD pi.o C.los.2.2.2.2.2.2.2;clear C O a0 a9;go_loopw [94] (λi wr=>∃j:Nat,j<=G.length/\i=J U j/\Hid (UN w.heap.size A F wr (m+3) w.heap.size (m+2) m (m+1) c M V E (fn Y) d L (pA d.ps L (G.take j)))/\Hid (wr.ownsRow N.heap.size 36 2 (hK a3 q k3) q ((L.map (·.1)).flatMap rkCells))/\Hid (wr.ownsRow A 67 2 (hK a7 G.length k7) G.length (G.flatMap cN))/\Hid (Bw w wr)) (λi _=>G.length-(intOf i).toNat)
 case atStart=>exact⟨0,zz _,rfl,q5.o,ob.o,pj.o,ne.o⟩
 obtain⟨j,hj,rfl,C,O,al,a0⟩:=hrel;by_cases hlj:j<G.length;rotate_left
 .have gs:j=G.length:=by omega
  subst gs;rw[List.take_length,<- p4.o,<- HL.o]at C;have c8:Hid (UN w.heap.size A F wr (m+3) w.heap.size (m+2) m (m+1) c M V E (fn Y) d (thereC d) (setsC d)):=by have h:=C.o;rw[wi]at h;exact h
  clear C O al hlj hj;obtain⟨l6,gy,md⟩:=c8.sortI;have c0:=(aa c8.vt 0).trans rfl;have c1:=(aa c8.tb 1).trans rfl;obtain⟨ws,rfl⟩:∃ws,ws=wr:=⟨_,rfl⟩;obtain⟨R6,cp⟩:=Qe ws.heap.size;have op:=Z gy;have iQ:=Z md;have f5:=Z c8.los.2.2.2.2.2.2.2;have ld:=gy.nodup;have oF:=Z ld;clear gy md ld;go_upto_region 27 with(refine nJ _ rfl _ _ rfl 52 underlying93 (m+1) _ rfl op.o ?_;intro w8 hN k6 x4;rw[cp]at hN;have pl:=Z hN;have i7:=Z k6;clear hN k6)
  have px:Hid (fO A R6 w8 l6 l6 (thereC d) (setsC d)):=by have h:=iQ.o;rw[cp]at h;exact h.far (λk v hv g u=>i7.o.block g (by rw[cp];exact h.lt k v hv g u))
  have nE:Hid (fP A ws w8):=fP.of i7.o f5.o;have cd:=Z cp;clear c0 c1 iQ cp;go_simp;go_loopg [] (l6.length+1) (λg wr=>∃left:List (RK×Value),left.length<g/\Hid (cA recB wr (m+1) R6 l6 left)/\Hid (fO A R6 wr l6 left (thereC d) (setsC d))/\Hid (fP A ws wr))
  case atStart=>exact⟨l6,by omega,pl,px,nE⟩
  obtain⟨left,l5,HR,HS,eQ⟩:=hrel;rw[<- cd.o]at HR;go_wp2_with (refine qL _ rfl _ rfl (m+1) ws.heap.size l6 left rfl HR.o ?_ ?_)
  .intro t4;subst t4;have cc:=b7.o;have hu:=c8.o;have D:=eQ.o;have kd:=hu.cat.blk;have t1:c<A:=by omega
   have b1:=(D.b.block c t1).trans kd;have b2:=(D.b.block w.heap.size (by omega)).trans hu.vc;have b3:=(D.b.block (m+3) (by omega)).trans hu.vt;have c1:Cl wr w.heap.size 0 (fn (X ⟨c,0,Y⟩)):=(aa b2 0).trans rfl;have c2:Cl wr (m+3) 0 (fn (X ⟨m+2,0,Y⟩)):=(aa b3 0).trans rfl;have c3:Cl wr c 3 (fn Y):=(aa b1 3).trans rfl;have f3:=ab b1 3;have wz:w.heap.size≠c:=by omega
   have wB:m+3≠c:=by omega
   have hD:=UN.done c8.o rfl rfl eQ.o HR.map HS.o;have HD:=Z hD;have mp:ah F w F (wr.setCell ⟨c,3,Y⟩ (fn (X ⟨m+2,0,Y⟩))):=(ah.of_below (a0.o.trans (D.b.mono (by omega)))).trans (ah.of_only (az.setCell (az.refl c wr) 3 _) HM.o.fc);have bw:=Z mp;clear hD mp b1 b2 b3 kd hu D cc;go_wp2_with fail;refine AC (results_tmp rfl _ _ _) rfl ⟨m+2,_,M,V,E,rfl,HD.1,HD.2,?_⟩;exact⟨bw.os,bw.tape,bw.output,bw.size,bw.block,λk D=>D.imp id (λh=>h.1)⟩
  intro y z pv w9 I tl lv t5 gQ t2;have mt:left.Sublist l6:=by obtain⟨es,f,w0,h1,h2,h3,h4,_⟩:=HR.o;exact h4
  have e4:lookL l6 (y,z)=X pv:=(bz oF.o).2 (mt.subset I);have eg:fO A R6 w9 l6 left (thereC d) (setsC d):=HS.o.far (λk v hv g u=>gQ.block g (by have:=HS.o.lt k v hv g u;have:=cd.o;omega));obtain⟨t,xs,ht,rt,kz,e8,hG⟩:=eg.at e4;have cb:xs.length<=1000000:=by have h1:=hG.length_eq;have h2:=kw (thereC d) (setsC d) t;rw[HL.o,ay.o]at h2;rw[HL.o]at h1;omega
  have n6:=Z (rd A w9 pv xs e8 cb);have pr:=Z e8;have py:=Z eg;have nF:Hid (fP A ws w9):=eQ.only gQ (nq _) f5.o;have iP:Hid (∀g,pv.ownBlock=X g->A<=g/\g<R6):=λg u=>⟨(e8.lt g u).1,eg.lt (y,z) pv e4 g u⟩;have fp:=Z lv;have f7:Hid (t<(thereC d).length/\keyC (thereC d) t=(y,z)/\xs.Perm (be (thereC d) (setsC d) t)):=⟨ht,kz,hG⟩;have og:=Z e4;have l3:recB.kv (y,z)=recK (y,z):=rfl;rw[l3]at t2;clear mt e4 eg e8 lv ht rt kz hG I tl gQ cb l3;go_wp2_with (go_at_call 80;(refine qs n6.o ?_;rintro e y6⟨rfl,ls,le⟩;have pd:=Z ls;have iD:=Z le;clear ls le))
  go_roundg (left.length)
  case rel=>
   obtain⟨o1,o2,o3,o4,o5⟩:=iD.o;have lb:=fp.map.lt;have up:=fp.lt;have cc:=b7.o;rw[<- cd.o];refine⟨cB left (y,z),t5,fp.o.kept (o5 _ lb (λe=>by have:=iP.o _ e;omega)) (o5 _ up (λe=>by have:=iP.o _ e;have:=cd.o;omega)),?_,nF.o.sort pr.o iD.o f5.o⟩;have v0:aB ltRK (thereC d):=by rw[HL.o];exact cl.o
   rw[cd.o];exact py.next v0 og.o f7.1 f7.2.1 f7.2.2 pd.o o5
  omega
 obtain⟨bY,c4⟩:=p0 j hlj;have b0:=Z (wj d.ps cl.o G j hlj bY c4);have bl:0<q:=by rw[<- ay.o];omega
 obtain⟨g7,x6,bO,_⟩:=y8 al.o (by omega);cases bO;obtain⟨B,va,bO,_⟩:=y8 O.o bl;cases bO;have a8:∀i,i<2->wr.cell? ⟨g7,j*2+i,Y⟩=(cN G[j])[i]?:=λi hi=>by rw[al.o.cellAt (j*2+i) (by omega),cW cN 2 (λ_=>rfl) _ j hlj i hi]
 have cz:∀a,a<L.length->∀i,i<2->wr.cell? ⟨B,a*2+i,Y⟩=(rkCells (keyC L a))[i]?:=λa ha i hi=>by
  have e6:a<(L.map (·.1)).length:=by rw[k2];exact ha
  rw[O.o.cellAt (a*2+i) (by rw[<- ay.o];omega),cW rkCells 2 (λ_=>rfl) _ a e6 i hi,z0,bW ha]
 obtain⟨p,I⟩:=Qe (G[j]);rw[I]at bY c4 b0 a8;clear I;obtain⟨pa,pb⟩:=p;dsimp only at bY c4 b0;have kt:=d8 pa bY;have dz:=d8 pb c4;have x0:=cz pa bY 0 (by omega);have x1:=cz pa bY 1 (by omega);have y0:=cz pb c4 0 (by omega);have y1:=cz pb c4 1 (by omega);rw[ay.o]at bY c4;obtain⟨ka,kx⟩:=Qe (keyC L pa);obtain⟨kb,ky⟩:=Qe (keyC L pb);rw[kx]at x0 x1 kt b0;rw[ky]at y0 y1 dz b0;clear kx ky cz;obtain⟨a1,a2⟩:=ka;obtain⟨b1,b2⟩:=kb;have x0:Cl wr B (pa*2) (J U a1):=x0;have x1:Cl wr B (pa*2+1) (J U a2):=x1;have y0:Cl wr B (pb*2) (J U b1):=y0;have y1:Cl wr B (pb*2+1) (J U b2):=y1;have e0:Cl wr g7 (j*2) (J U (pa:Int)):=(a8 0 (by omega)).trans rfl;have e1:Cl wr g7 (j*2+1) (J U (pb:Int)):=(a8 1 (by omega)).trans rfl;clear a8;obtain⟨o,ac⟩:=Qe (wr.alloc (hb #[J U (pa:Int),J U (pb:Int)] 67));have a4:Bw wr o:=by rw[<- ac];exact(mk _ wr).alloc (nq _) _
 have hF:o.heap[wr.heap.size]?=X (hb #[J U (pa:Int),J U (pb:Int)] 67 (0,0)):=by rw[<- ac];exact lm wr _
 obtain⟨R,av⟩:=Qe wr.heap.size;rw[av]at hF;have gn:B<wr.heap.size:=(O.lt B rfl).2;have b5:∀i,o.cell? ⟨B,i,Y⟩=wr.cell? ⟨B,i,Y⟩:=λi=>z6 (a:=⟨B,i,Y⟩) (a4.block B gn);have X0:=Z ((b5 _).trans x0);have X1:=Z ((b5 _).trans x1);have Y0:=Z ((b5 _).trans y0);have Y1:=Z ((b5 _).trans y1);have au:=Z (C.below a4);have b6:Hid (o.ownsRow N.heap.size 36 2 (hK (X ⟨B,0,Y⟩) q k3) q ((L.map (·.1)).flatMap rkCells)):=ai O.o (λg u=>a4.block g (O.lt g u).2);have b9:Hid (o.ownsRow A 67 2 (hK (X ⟨g7,0,Y⟩) G.length k7) G.length (G.flatMap cN)):=ai al.o (λg u=>a4.block g (al.lt g u).2);have bt:Hid (Bw w o):=a0.trans (a4.mono a0.size);have cn:=Z ac;have c7:=Z av;have HF:=Z hF;have po:=Z C.los.2.2.2.2.2.2.2;clear ac a4 hF av C O al a0 x0 x1 y0 y1 b5 gn;go_upto_region 24 with fail;rw[cn.o,c7.o];clear e0 e1;have bB:Bw o o.drew:=(mk _ o).drew;have c5:=qR w.heap.size A F o.drew (m+3) w.heap.size (m+2) m (m+1) c M V E (fn Y) d L (pA d.ps L (G.take j)) (au.below bB) ((a1,a2),b1,b2) ⟨kt,dz⟩;dsimp only[pairV]at c5;have fx:=Z c5;clear c5;have ex:Hid (B<A):=by have h3:=dc.lt B rfl;rw[f4.o]at h3;exact h3.2
 have d6:Hid (∀W:z5,(W.heap[R]?=o.heap[R]? /\W.heap[B]?=o.heap[B]?)->(Cl W R 0 (J U (pa:Int))/\Cl W R 1 (J U (pb:Int)))/\Cl W B (pa*2) (J U a1)/\Cl W B (pa*2+1) (J U a2)/\Cl W B (pb*2) (J U b1)/\Cl W B (pb*2+1) (J U b2)):=λW Q=>by have k9:=Q.1.trans HF.o;have b5:∀i,W.cell? ⟨B,i,Y⟩=o.cell? ⟨B,i,Y⟩:=λi=>z6 (a:=⟨B,i,Y⟩) Q.2;exact⟨⟨(aa k9 0).trans rfl,(aa k9 1).trans rfl⟩,(b5 _).trans X0.o,(b5 _).trans X1.o,(b5 _).trans Y0.o,(b5 _).trans Y1.o⟩
 have su:o.drew.heap[R]?=o.heap[R]? /\o.drew.heap[B]?=o.heap[B]?:=⟨rfl,rfl⟩;have i1:(pa:Int)<(q:Int):=by omega
 have i2:(pb:Int)<(q:Int):=by omega
 go_wp2_with fail;refine wT (λW=>W.heap[R]?=o.heap[R]? /\W.heap[B]?=o.heap[B]?) 999 ?_;refine Qd [0,1,2,3,4,5,6,7,8,9,10,11] su d6 ?_;refine Dp 12 λK s=>?_;go_simp;go_at_call 78;with_reducible refine qs fx.o ?_
 rintro e w6⟨rfl,d1,cq,cx⟩;have fy:=Z d1;have em:=Z cq;have bv:=Z cx;clear d1 cq cx;have cc:=b7.o;have d3:=c9.o;have l5:=b6.lt B rfl;have st:R<o.heap.size:=ae HF.o;have wf:A<=R:=by rw[<- c7.o];exact po.o
 have j4:w6.heap[R]?=o.heap[R]? /\w6.heap[B]?=o.heap[B]?:=
  ⟨bv.o R st (by omega) (by omega) (.inr λc2 e=>by rw[show o.drew.heap[R]?=o.heap[R]? from rfl,HF.o]at e;injection e with e;injection e with _ e;exact absurd e (by decide)),
   bv.o B l5.2 (by omega) (by omega) (.inl ex.o)⟩
 refine s _ _ (λ_=>j4) ?_;clear s K;refine dN ?_;have cm:Hid (UN w.heap.size A F w6 (m+3) w.heap.size (m+2) m (m+1) c M V E (fn Y) d L (pA d.ps L (G.take (j+1)))):=by unfold Hid;rw[b0.o];exact fy.o
 go_wp2_with fail;go_roundw
 case rel=>
  refine⟨j+1,hlj,by go_num,cm,ai b6.o (λg u=>?_),ai b9.o (λg u=>?_),(bt.trans (mk _ o).drew).trans em.o⟩
  .injection u with u
   subst u;exact j4.2
  have hl:=b9.lt g u;obtain⟨cu,ax⟩:=aH b9.o u;exact bv.o g hl.2 (by omega) (by omega) (.inr λc2 e=>by rw[show o.drew.heap[g]?=o.heap[g]? from rfl,ax]at e;injection e with e;injection e with _ e;exact absurd e (by decide))
 simp[intOf];omega
theorem fS{d:ar}(h:d.Ok)(k:RK):k∈titlesC d↔∃t,t<(thereC d).length/\(setsC d).getD t 0=t/\keyC (thereC d) t=k:=by
 rw[nM h,List.mem_map];constructor
 .rintro⟨t,b,a⟩;rw[At,AS,decide_eq_true_eq]at b;exact⟨t,b.1,b.2,a⟩
 rintro⟨t,c,e,a⟩;exact⟨t,by rw[At,AS,decide_eq_true_eq];exact⟨c,e⟩,a⟩
theorem fi{d:ar}(h:d.Ok):(titlesC d).Pairwise λa b=>ltRK a b=true:=by
 rw[nM h,Ac];refine List.Pairwise.imp_of_mem (λ{a b}f c e=>?_) (List.Pairwise.filter _ List.pairwise_lt_range);rw[At,AS]at c;exact iY (bJ h) e c.1
theorem l9{l:List RK}(h:l.Pairwise λa b=>ltRK a b=true):l.Nodup:=h.imp λ{a b}h e=>by rw[e,aW.irr]at h;cases h
theorem rT{d:ar}(h:d.Ok){w:z5}{b:Nat}{l:List (RK×Value)}(a:ak recB w b l)(e:∀k,(lookL l k).isSome=true↔∃t,t<(thereC d).length/\(setsC d).getD t 0=t/\keyC (thereC d) t=k):cU ltRK (l.map (·.1))=titlesC d:=by
 refine co aW ((AA a.nodup (l9 (fi h))).2 λk=>?_) (fi h);rw[fS h,<- e,List.mem_map];constructor
 .rintro⟨p,f,rfl⟩;rw[(bz a.nodup (k:=p.1) (v:=p.2)).2 f];rfl
 intro c;obtain⟨v,g⟩:=Option.isSome_iff_exists.1 c;exact⟨(k,v),(bz a.nodup).1 g,rfl⟩
theorem lR{d:ar}(h:d.Ok):((thereC d).map (·.1)).Pairwise λa b=>ltRK a b=true:=by
 rw[Ac];exact bJ h
theorem uo{d:ar}(h:d.Ok){w:z5}{b:Nat}{l:List (RK×Value)}(e:ak recB w b l)(j:∀k,lookL l k=(atC (thereC d) k).map λi=>recK (keyC (thereC d) ((setsC d).getD i 0))):cU ltRK (l.map (·.1))=(thereC d).map (·.1):=by
 refine co aW ((AA e.nodup (l9 (lR h))).2 λk=>?_) (lR h);have g:k∈l.map (·.1)↔(lookL l k).isSome=true:=by
  rw[List.mem_map];constructor
  .rintro⟨p,f,rfl⟩;rw[(bz e.nodup (k:=p.1) (v:=p.2)).2 f];rfl
  intro c;obtain⟨v,m⟩:=Option.isSome_iff_exists.1 c;exact⟨(k,v),(bz e.nodup).1 m,rfl⟩
 rw[g,j,Option.isSome_map,List.mem_map];cases ha:atC (thereC d) k with
 |some i=> obtain⟨a,c⟩:=at_some ha;exact⟨λ_=>⟨_,ys a,by rw[<- bW a];exact c⟩,λ_=>rfl⟩
 |none=> refine⟨λh=>(by cases h),?_⟩;rintro⟨p,f,c⟩;obtain⟨i,a,rfl⟩:=List.mem_iff_getElem.1 f;exact absurd (by rw[bW a];exact c) (at_none ha i a)
theorem lM(d:ar):(titlesC d).length<=(thereC d).length:=by
 unfold titlesC;rw[k2];refine yc (zs _ _) ?_;unfold sameC;rw[k2,List.length_range];exact nq _
theorem ik{d:ar}:(thereC d).length<=d.vs.length:=zs _ _
theorem fv(d:ar):(sameC d).length=(thereC d).length:=by unfold sameC;rw[k2,List.length_range]
theorem tu{d:ar}(h:d.Ok){l:List (RK×Value)}(a:∀k,lookL l k=(atC (thereC d) k).map λi=>recK (keyC (thereC d) ((setsC d).getD i 0)))(k:RK):(lookL l k).getD (.agg #[J U 0,J U 0])=recK ((titleC d k).getD (0,0))/\(lookL l k).isSome=(titleC d k).isSome:=by
 rw[a,lN h];cases atC (thereC d) k<;>exact⟨rfl,rfl⟩
theorem ah.via{F b:Nat->Prop}{w d e:z5}(h:ah F w b d)(a:Below w.heap.size d e):ah F w b e:=
 ⟨a.os.trans h.os,a.tape.trans h.tape,a.output.trans h.output,yc h.size a.size,λk c hn=>(a.block k c).trans (h.block k c hn),h.new⟩
structure vL(F F':Nat->Prop)(w w':z5)(c t mo mm:Nat)(d:ar):Prop where
 cat:bq F' w' c d
 step:ah F w F' w'
 tb:Bk w' t #[.map (some mo),.map (some mm)] 95
 of:CE w' mo (thereC d) (setsC d)
 mem:Aa F' w' mm (thereC d) (setsC d)
 lt:∀k,F' k->k<w'.heap.size
 ft:F' t/\F' mo/\F' mm
 ok:bi d
theorem qi(F:Nat->Prop)(w:z5)(c:Nat)(d:ar)(h:bq F w c d)(hn:d.vs.length<=1000):
 Calls prog 41 #[fn (X ⟨c,0,Y⟩)] w λe w'=>∃(t i f:Nat)(a:Nat->Prop),e=g3 (fn (X ⟨t,0,Y⟩))/\vL F a w w' c t i f d:=by
 refine(Bp F w c d h hn).mono ?_;rintro e w'⟨t,a,G,H,I,rfl,b,C,B⟩;obtain⟨i,f,q,r,s,u,x,l,y,z,A⟩:=C;refine⟨t,i,f,a,rfl,⟨_,_,_,_,b⟩,B,q,x,⟨l,y,z,λt D E=>?_⟩,b.lt,⟨r.1,s.1,u.1⟩,b.ok⟩;obtain⟨v,k,g,n,j,m,o,p⟩:=A t D E;exact⟨v,k,g,n,j,m,o.1,p⟩
theorem dX(F:Nat->Prop)(w:z5)(c:Nat)(d:ar)(h:bq F w c d)(hn:d.vs.length<=1000):
 Calls prog 18 #[fn (X ⟨c,0,Y⟩)] w λe w'=>∃(v:Value)(i:Nat->Prop),e=g3 v/\bq i w' c d/\ah F w i w'/\w'.ownsRow w.heap.size 36 2 v (titlesC d).length ((titlesC d).flatMap rkCells)/\∀g,v.ownBlock=X g->¬i g:=by
 have E:=Z (qi F w c d h hn);clear h;go_enter func18,ntmps18;go_wp2_with (go_at_call 41;(refine qs E.o ?_;rintro e w1⟨t,R,m,i,rfl,p⟩;have c1:Cl w1 t 1 (hk (X m)):=((aa p.tb 1).trans rfl);have a:=Z p;clear p))
 obtain⟨l,j,A,_⟩:=a.mem;have B:=a.ok.ok;have r:=rT B j A;have q:(l.map (·.1)).length=(titlesC d).length:=by rw[<- r,jY]
 have o:Bw w1 (w1.alloc (hb #[hk (X m)] 93)):=(mk _ w1).alloc (nq _) _;have C:=yY 8 (by omega) w1.heap.size (X m) l (w1.alloc (hb #[hk (X m)] 93)) (by rw[z4];rfl) (ak.block j (o.block _ j.lt)) (λb f=>by injection f with f;subst f;have:=j.lt;simp;omega);have N:l.length<=1000:=by have H:=lM d;have I:=ik (d:=d);rw[k2]at q;omega
 have y:=Z (jX 10 (by omega) 95 #[fn (X ⟨w1.heap.size,0,Y⟩)] (enters_of func95 (by kernel_rfl) rfl) (l.map (·.1)) (by rw[k2];omega) _ _ (λT x O=>by have:=O.1;omega) _ C);rw[r,q]at y;have G:=Z (A6 (X m) w1);have n:=Z o;clear C r q o j A N B
 go_wp2_with (first
  |(go_at_call 51;((with_reducible refine qs G.o ?_);rintro e w2⟨rfl,rfl⟩))
  |(go_at_call 47;((with_reducible refine qs y.o ?_);rintro e P⟨v,rfl,s,z⟩;obtain⟨V,W,rfl⟩:=aQ s;have u:=Z s;have D:=Z z;clear s z)))
 go_ret;have f:Bw w1 P:=n.trans (D.mono n.size);refine⟨_,i,rfl,a.cat.step (λk M=>f.block k (a.lt k M)) f.size,a.step.trans (ah.of_below f),aD u.o (yc a.step.size n.size),λg L K=>?_⟩;have H:=(u.lt g L).1;have I:=a.lt g K;have Q:=n.size;omega
theorem yf(F:Nat->Prop)(w:z5)(c:Nat)(d:ar)(h:bq F w c d)(hn:d.vs.length<=1000)(k:RK)(g:rkOk k):
 Calls prog 12 #[fn (X ⟨c,0,Y⟩),recK k] w λe w'=>∃s:Nat->Prop,e=g3 (.tuple #[recK ((titleC d k).getD (0,0)),k1 (titleC d k).isSome])/\bq s w' c d/\ah F w s w':=by
 have M:∀k,F k->k<w.heap.size:=by obtain⟨m1,m2,m3,kn,hM⟩:=h;exact hM.lt
 have aC:bi d:=by obtain⟨m1,m2,m3,kn,hM⟩:=h;exact hM.ok
 obtain⟨m,n⟩:=k;have bv:=lN aC.ok (m,n);obtain⟨⟨t1,t2⟩,aT⟩:∃tk,(titleC d (m,n)).getD (0,0)=tk:=⟨_,rfl⟩;obtain⟨N,b0⟩:=Qe ((titleC d (m,n)).isSome);obtain⟨u,T⟩:=Qe ((w.alloc (hb #[J U m,J U n] 36)).alloc (hb #[J U 0,J U 0] 36));have a9:Bw w u:=by rw[<- T];exact((mk _ w).alloc (nq _) _).alloc (by simp) _
 have hA:u.heap[w.heap.size]?=X (hb #[J U m,J U n] 36 (0,0)):=by rw[<- T,As _ _ _ (by simp)];exact lm w _
 have hB:u.heap[w.heap.size+1]?=X (hb #[J U 0,J U 0] 36 (0,0)):=by rw[<- T];have:=lm (w.alloc (hb #[J U m,J U n] 36)) (hb #[J U 0,J U 0] 36);rwa[World.size_alloc]at this
 have ad:u.heap.size=w.heap.size+2:=by rw[<- T];simp
 have b2:=Z M;have b1:Hid (∀W,Bw u W->Calls prog 41 #[fn (X ⟨c,0,Y⟩)] W λe w'=>∃(t b mm:Nat)(s:Nat->Prop),e=g3 (fn (X ⟨t,0,Y⟩))/\vL F s W w' c t b mm d/\Bk w' w.heap.size #[J U m,J U n] 36/\Bk w' (w.heap.size+1) #[J U 0,J U 0] 36/\(t≠w.heap.size/\t≠w.heap.size+1/\b≠w.heap.size/\b≠w.heap.size+1)/\ah F W s w'/\(∀k,s k->k≠w.heap.size/\k≠w.heap.size+1)/\∀W',W'.heap[b]?=w'.heap[b]? ->(y7 92 (hk (X b)) (.agg #[J U m,J U n]) true).run prog W'=.ok (.tuple #[.agg #[J U t1,J U t2],k1 N]) W'):=λW hW=>by
  have bk:Bw w W:=a9.trans (hW.mono a9.size);refine(qi F W c d (h.below bk) hn).mono ?_;rintro e w'⟨t,b,mm,s,rfl,x⟩;have H:∀k,s k->k≠w.heap.size/\k≠w.heap.size+1:=λk g=>by
   have bt:=hW.size;rcases x.step.new k g with R|R
   .have:=M k R;omega
   omega
  have e1:=H t x.ft.1;have e2:=H b x.ft.2.1;have bt:=hW.size;refine⟨t,b,mm,s,rfl,x,?_,?_,⟨e1.1,e1.2,e2.1,e2.2⟩,x.step,H,λW' bd=>?_⟩
  .exact((x.step.block _ (by omega) (λhF=>by have:=M _ hF;omega)).trans (hW.block _ (by omega))).trans hA
  .exact((x.step.block _ (by omega) (λhF=>by have:=M _ hF;omega)).trans (hW.block _ (by omega))).trans hB
  obtain⟨l,hm,hl⟩:=x.of;have h3:=ak.look_ok (ak.block hm bd) underlying92 (lI W') (m,n) g;have e3:=tu aC.ok hl (m,n);rw[e3.1,e3.2,aT,b0]at h3;exact h3
 have bb:=Z T;have HA:=Z hA;have HB:=Z hB;have al:=Z a9;have bc:=Z ad;rw[aT,b0];show Calls prog 12 #[fn (X ⟨c,0,Y⟩),.agg #[J U m,J U n]] w (λe w'=>∃s:Nat->Prop,e=g3 (.tuple #[.agg #[J U t1,J U t2],k1 N])/\bq s w' c d/\ah F w s w');clear bv aT b0 T hA hB a9 ad h hn M aC;go_enter func12,ntmps12;go_upto_region 1 with fail;rw[bb.o];have b4:u.drew.heap[w.heap.size]?=X (hb #[J U m,J U n] 36 (0,0))/\u.drew.heap[w.heap.size+1]?=X (hb #[J U 0,J U 0] 36 (0,0)):=⟨HA.o,HB.o⟩;have b9:Hid (∀W:z5,(Bk W w.heap.size #[J U m,J U n] 36/\Bk W (w.heap.size+1) #[J U 0,J U 0] 36)->Cl W w.heap.size 0 (J U m)/\Cl W w.heap.size 1 (J U n)):=λW h=>⟨(aa h.1 0).trans rfl,(aa h.1 1).trans rfl⟩;go_wp2_with fail;refine wT (λW:z5=>Bk W w.heap.size #[J U m,J U n] 36/\Bk W (w.heap.size+1) #[J U 0,J U 0] 36) 999 ?_;refine Qc [0] b4 ?_
 refine Qd [5] b4 b9 ?_
 refine bZ (i:=1) (j:=10) rfl rfl (by kernel_rfl) rfl rfl (λK r=>?_) (λK r=>?_)
 .go_simp;go_at_call 41;with_reducible refine qs (b1.o u.drew (mk _ u).drew) ?_
  rintro e a⟨t,b,mm,s,rfl,x,O,P,bs,a7,H,a3⟩;have y:=Z x;have Q:=Z a7;have V:=Z H;have au:=Z a3;have a8:Hid (ah F w F u.drew):=ah.of_below al.drew;clear x a7 H a3;refine r _ _ (λ_=>⟨O,P⟩) ?_;clear r K;go_simp;have ac:(Bk a w.heap.size #[J U m,J U n] 36/\Bk a (w.heap.size+1) #[J U 0,J U 0] 36)/\a.heap[t]?=a.heap[t]? /\a.heap[b]?=a.heap[b]?:=⟨⟨O,P⟩,rfl,rfl⟩;refine dK (λW:z5=>(Bk W w.heap.size #[J U m,J U n] 36/\Bk W (w.heap.size+1) #[J U 0,J U 0] 36)/\W.heap[t]?=a.heap[t]? /\W.heap[b]?=a.heap[b]?) (λW h=>h.1) _ _ _ _ ?_;have ao:Hid (∀W:z5,((Bk W w.heap.size #[J U m,J U n] 36/\Bk W (w.heap.size+1) #[J U 0,J U 0] 36)/\W.heap[t]?=a.heap[t]? /\W.heap[b]?=a.heap[b]?)->Cl W t 0 (hk (X b))/\(y7 92 (hk (X b)) (.agg #[J U m,J U n]) true).run prog W=.ok (.tuple #[.agg #[J U t1,J U t2],k1 N]) W):=λW h=>⟨(aa (h.2.1.trans y.tb) 0).trans rfl,au W h.2.2⟩;refine Qd [2,3,4,6,7,8,9] ac ao ?_;obtain⟨q,D⟩:=Qe a.heap.size;obtain⟨o,G⟩:=Qe (a.alloc (hb #[J U 0,J U 0] 36));have A:o.heap[q]?=X (hb #[J U 0,J U 0] 36 (0,0)):=by rw[<- G,<- D];exact lm a _
  have ax:Below w.heap.size a o:=by rw[<- G];exact(mk _ a).alloc (yc a8.o.size Q.o.size) _
  have a4:∀k,k<q->o.heap[k]?=a.heap[k]?:=λk g=>by rw[<- G];exact As _ _ _ (by rw[D];exact g)
  have b6:=ae O;have b7:=ae P;have M:=y.lt t y.ft.1;have b8:=y.lt b y.ft.2.1;rw[D]at b6 b7 M b8;have a6:w.heap.size<=q:=by omega
  have I:w.heap.size≠q/\w.heap.size+1≠q/\t≠q/\b≠q:=by omega
  have E:(Bk o w.heap.size #[J U m,J U n] 36/\Bk o (w.heap.size+1) #[J U 0,J U 0] 36)/\o.heap[t]?=a.heap[t]? /\o.heap[b]?=a.heap[b]?:=⟨⟨(a4 _ b6).trans O,(a4 _ b7).trans P⟩,a4 _ M,a4 _ b8⟩;have a5:∀k,s k->k≠q:=λk g=>by have:=y.o.lt k g;omega
  have av:Hid (∀k,s k->o.heap[k]?=a.heap[k]?):=λk g=>a4 k (by have:=y.o.lt k g;omega);refine Dp 10 λK r=>?_;go_simp;try rw[D,G]
  refine r _ _ (λ_=>E) ?_;clear r K;have n0:Cl o q 0 (J U 0):=(aa A 0).trans rfl;have n1:Cl o q 1 (J U 0):=(aa A 1).trans rfl;have f0:=ab A 0;have f1:=ab A 1;refine Dp 11 λK r=>?_;go_simp;obtain⟨f,C⟩:=Qe ((o.setCell ⟨q,0,Y⟩ (J U t1)).setCell ⟨q,1,Y⟩ (J U t2));have a0:f.heap[q]?=X (hb #[J U t1,J U t2] 36 (0,0)):=by rw[<- C];exact aq (aq A 0 _) 1 _
  have B:∀k,k≠q->f.heap[k]?=o.heap[k]?:=λk g=>by rw[<- C,wq _ _ _ _ g,wq _ _ _ _ g]
  have ay:Below w.heap.size o f:=by rw[<- C];exact(((mk _ o).setCell (p:=⟨q,0,Y⟩) a6 _).setCell (p:=⟨q,1,Y⟩) a6 _)
  have z:(Bk f w.heap.size #[J U m,J U n] 36/\Bk f (w.heap.size+1) #[J U 0,J U 0] 36)/\f.heap[t]?=a.heap[t]? /\f.heap[b]?=a.heap[b]?:=⟨⟨(B _ I.1).trans E.1.1,(B _ I.2.1).trans E.1.2⟩,(B _ I.2.2.1).trans E.2.1,(B _ I.2.2.2).trans E.2.2⟩;rw[C];refine r _ _ (λ_=>z) ?_;clear r K;clear n0 n1 f0 f1 C;refine Ds 12 z ?_;refine dN ?_;have n0:Cl f q 0 (J U t1):=(aa a0 0).trans rfl;have n1:Cl f q 1 (J U t2):=(aa a0 1).trans rfl;have m0:Cl f (w.heap.size+1) 0 (J U 0):=(aa z.1.2 0).trans rfl;have m1:Cl f (w.heap.size+1) 1 (J U 0):=(aa z.1.2 1).trans rfl;have g0:=ab z.1.2 0;have g1:=ab z.1.2 1;go_wp2_with fail;refine AC (v:=.tuple #[.agg #[J U t1,J U t2],k1 N]) (by rw[bx rfl];go_simp) rfl ?_;have a2:Below w.heap.size a ((f.setCell ⟨w.heap.size+1,0,Y⟩ (J U t1)).setCell ⟨w.heap.size+1,1,Y⟩ (J U t2)):=((ax.trans ay).setCell (p:=⟨w.heap.size+1,0,Y⟩) (by simp) _).setCell (p:=⟨w.heap.size+1,1,Y⟩) (by simp) _;refine⟨rfl,s,y.cat.step (λk g=>?_) a2.size,(a8.trans Q.o).via a2⟩;rw[wq _ _ _ _ (V.o k g).2,wq _ _ _ _ (V.o k g).2,B k (a5 k g)];try exact av k g
 go_simp;obtain⟨q,D⟩:=Qe u.heap.size;obtain⟨o,G⟩:=Qe ((u.alloc (hb #[J U 0,J U 0] 36)).drew);have b3:o.heap[q]?=X (hb #[J U 0,J U 0] 36 (0,0)):=by rw[<- G,<- D];exact lm u _
 have a1:Bw u o:=by rw[<- G];exact((mk _ u).alloc (nq _) _).drew
 have aS:Hid (q=u.heap.size/\o.heap.size=q+1):=⟨D.symm,by rw[<- G,<- D];simp⟩;have b5:Bk o w.heap.size #[J U m,J U n] 36/\Bk o (w.heap.size+1) #[J U 0,J U 0] 36:=⟨(a1.block _ (ae HA.o)).trans HA.o,(a1.block _ (ae HB.o)).trans HB.o⟩;try rw[D]
 try rw[G]
 refine r _ _ (λ_=>b5) ?_;clear r K;refine Dp 1 λK r=>?_;go_simp;go_at_call 41;with_reducible refine qs (b1.o o a1) ?_
 rintro e a⟨t,b,mm,s,rfl,x,O,P,bs,a7,H,a3⟩;have y:=Z x;have Q:=Z a7;have V:=Z H;have au:=Z a3;have a8:Hid (ah F w F o):=ah.of_below (al.trans (a1.mono al.size));clear x a7 H a3;have ad:=bc.o;have aS:=aS.o;have bl:¬F q:=λx=>by have:=b2.o q x;omega
 have A:Bk a q #[J U 0,J U 0] 36:=(Q.o.block q (by omega) bl).trans b3;have a5:∀k,s k->k≠q:=λk g=>by
  rcases Q.new k g with R|R
  .have:=b2.o k R;omega
  omega
 have a6:w.heap.size<=q:=by omega
 have I:w.heap.size≠q/\w.heap.size+1≠q/\t≠q/\b≠q:=⟨by omega,by omega,a5 t y.o.ft.1,a5 b y.o.ft.2.1⟩;have ax:Below w.heap.size a a:=mk _ _;have av:Hid (∀k,s k->a.heap[k]?=a.heap[k]?):=λk g=>rfl;clear aS ad a1 G D b3 b5;refine r _ _ (λ_=>⟨O,P⟩) ?_;clear r K;go_simp;have ac:(Bk a w.heap.size #[J U m,J U n] 36/\Bk a (w.heap.size+1) #[J U 0,J U 0] 36)/\a.heap[t]?=a.heap[t]? /\a.heap[b]?=a.heap[b]?:=⟨⟨O,P⟩,rfl,rfl⟩;refine dK (λW:z5=>(Bk W w.heap.size #[J U m,J U n] 36/\Bk W (w.heap.size+1) #[J U 0,J U 0] 36)/\W.heap[t]?=a.heap[t]? /\W.heap[b]?=a.heap[b]?) (λW h=>h.1) _ _ _ _ ?_;have ao:Hid (∀W:z5,((Bk W w.heap.size #[J U m,J U n] 36/\Bk W (w.heap.size+1) #[J U 0,J U 0] 36)/\W.heap[t]?=a.heap[t]? /\W.heap[b]?=a.heap[b]?)->Cl W t 0 (hk (X b))/\(y7 92 (hk (X b)) (.agg #[J U m,J U n]) true).run prog W=.ok (.tuple #[.agg #[J U t1,J U t2],k1 N]) W):=λW h=>⟨(aa (h.2.1.trans y.tb) 0).trans rfl,au W h.2.2⟩;refine Qd [2,3,4,6,7,8,9] ac ao ?_;have E:=ac;have n0:Cl a q 0 (J U 0):=(aa A 0).trans rfl;have n1:Cl a q 1 (J U 0):=(aa A 1).trans rfl;have f0:=ab A 0;have f1:=ab A 1;refine Dp 11 λK r=>?_;go_simp;obtain⟨f,C⟩:=Qe ((a.setCell ⟨q,0,Y⟩ (J U t1)).setCell ⟨q,1,Y⟩ (J U t2));have a0:f.heap[q]?=X (hb #[J U t1,J U t2] 36 (0,0)):=by rw[<- C];exact aq (aq A 0 _) 1 _
 have B:∀k,k≠q->f.heap[k]?=a.heap[k]?:=λk g=>by rw[<- C,wq _ _ _ _ g,wq _ _ _ _ g]
 have ay:Below w.heap.size a f:=by rw[<- C];exact(((mk _ a).setCell (p:=⟨q,0,Y⟩) a6 _).setCell (p:=⟨q,1,Y⟩) a6 _)
 have z:(Bk f w.heap.size #[J U m,J U n] 36/\Bk f (w.heap.size+1) #[J U 0,J U 0] 36)/\f.heap[t]?=a.heap[t]? /\f.heap[b]?=a.heap[b]?:=⟨⟨(B _ I.1).trans E.1.1,(B _ I.2.1).trans E.1.2⟩,(B _ I.2.2.1).trans E.2.1,(B _ I.2.2.2).trans E.2.2⟩;rw[C];refine r _ _ (λ_=>z) ?_;clear r K;clear n0 n1 f0 f1 C;refine Ds 12 z ?_;refine dN ?_;have n0:Cl f q 0 (J U t1):=(aa a0 0).trans rfl;have n1:Cl f q 1 (J U t2):=(aa a0 1).trans rfl;have m0:Cl f (w.heap.size+1) 0 (J U 0):=(aa z.1.2 0).trans rfl;have m1:Cl f (w.heap.size+1) 1 (J U 0):=(aa z.1.2 1).trans rfl;have g0:=ab z.1.2 0;have g1:=ab z.1.2 1;go_wp2_with fail;refine AC (v:=.tuple #[.agg #[J U t1,J U t2],k1 N]) (by rw[bx rfl];go_simp) rfl ?_;have a2:Below w.heap.size a ((f.setCell ⟨w.heap.size+1,0,Y⟩ (J U t1)).setCell ⟨w.heap.size+1,1,Y⟩ (J U t2)):=((ax.trans ay).setCell (p:=⟨w.heap.size+1,0,Y⟩) (by simp) _).setCell (p:=⟨w.heap.size+1,1,Y⟩) (by simp) _;refine⟨rfl,s,y.cat.step (λk g=>?_) a2.size,(a8.trans Q.o).via a2⟩;rw[wq _ _ _ _ (V.o k g).2,wq _ _ _ _ (V.o k g).2,B k (a5 k g)];try exact av k g
theorem i69:(prog.info? 69).map (λi=>(i.zero,i.size,i.bytes))=X (X (.agg #[J U 0,J U 0,J U 0,J U 0]),4,32):=by kernel_rfl
theorem uG(w:z5)(x y z u:Value)(t:TypeId):∀j v,[x,y,z,u][j]?=X v->(w.alloc (hb #[x,y,z,u] t)).cell? ((⟨w.heap.size,0,Y⟩:Addr).add j)=X v:=by
 intro j v a;match j,a with
 |0,a=>simp at a;subst a;simp[By]
 |1,a=>simp at a;subst a;simp[By]
 |2,a=>simp at a;subst a;simp[By]
 |3,a=>simp at a;subst a;simp[By]
theorem pS{F:Nat->Prop}{w:z5}{j:Nat}{d:ar}(y:bi d)(h:Aa F w j (thereC d) (setsC d))(k:RK)(r:rkOk k):∃(a:Option Addr)(c:Nat),ey 0 w.heap.size w (.slice a (membersC d k).length c) (membersC d k)/\
 ∀W,W.heap[j]?=w.heap[j]? ->(y7 93 (hk (X j)) (recK k) false).run prog W=.ok (.slice a (membersC d k).length c) W:=by
 obtain⟨l,s,p,u⟩:=h;cases hl:lookL l k with
 |some v=>
  obtain⟨t,i,o,f⟩:=(p k).1 (by rw[hl];rfl);obtain⟨B,b,g,n,z,rfl,_,q⟩:=u t i o;rw[f,hl]at b;injection b with b
  subst b;have e:=kJ y.ok i;rw[f]at e;rw[e];obtain⟨a,c,x,A⟩:=id q;injection x with he1 he2 he3
  subst he2;refine⟨_,_,q,λW m=>?_⟩;have:=ak.look (ak.block s m) underlying93 (eN W) k r;rw[hl]at this;exact this
 |none=>
  have e:membersC d k=[]:=pR λt i o f=>by have:=(p k).2 ⟨t,i,o,f⟩;rw[hl]at this;cases this
  rw[e];refine⟨Y,0,⟨Y,0,rfl,λh=>absurd rfl h⟩,λW m=>?_⟩;have:=ak.look (ak.block s m) underlying93 (eN W) k r;rw[hl]at this;exact this
theorem kK(d:ar)(k:RK):(membersC d k).length<=(thereC d).length:=by
 unfold membersC;rw[k2];refine yc (zs _ _) ?_;rw[fv];exact nq _
theorem bV(F:Nat->Prop)(w:z5)(c:Nat)(d:ar)(h:bq F w c d)(hn:d.vs.length<=1000)(k:RK)(B:rkOk k):
 Calls prog 22 #[fn (X ⟨c,0,Y⟩),recK k] w λe w'=>∃(v:Value)(m:Nat->Prop),e=g3 v/\bq m w' c d/\ah F w m w'/\w'.ownsRow w.heap.size 36 2 v (membersC d k).length ((membersC d k).flatMap rkCells)/\∀g,v.ownBlock=X g->¬m g:=by
 have Q:∀k,F k->k<w.heap.size:=by obtain⟨m1,m2,m3,kn,hM⟩:=h;exact hM.lt
 obtain⟨b,f⟩:=k;obtain⟨i,p⟩:=Qe (membersC d (b,f));have R:i.length<=1000:=by rw[<- p];have L:=kK d (b,f);have h2:=ik (d:=d);omega
 obtain⟨l,r⟩:=Qe (w.alloc (hb #[J U b,J U f] 36));have z:Bw w l:=by rw[<- r];exact(mk _ w).alloc (nq _) _
 have M:l.heap[w.heap.size]?=X (hb #[J U b,J U f] 36 (0,0)):=by rw[<- r];exact lm w _
 have o:l.drew.heap[w.heap.size]?=X (hb #[J U b,J U f] 36 (0,0)):=M;have P:=qi F l.drew c d (h.below z.drew) hn;have a3:=Z P;have a4:=Z Q;have a6:=Z p;have a5:=Z R;have a7:=Z r;have H:=Z z;rw[p];show Calls prog 22 #[fn (X ⟨c,0,Y⟩),.agg #[J U b,J U f]] w _;clear h hn Q R r z P p M;go_enter func22,ntmps22;go_upto_region 1 with fail;rw[a7.o];have a0:Hid (∀W:z5,Bk W w.heap.size #[J U b,J U f] 36->Cl W w.heap.size 0 (J U b)/\Cl W w.heap.size 1 (J U f)):=λW h=>⟨(aa h 0).trans rfl,(aa h 1).trans rfl⟩;go_wp2_with fail;refine wT (λW=>Bk W w.heap.size #[J U b,J U f] 36) 999 ?_;refine Qc [0] o ?_
 refine Qd [5] o a0 ?_
 refine Dp 1 λK n=>?_;go_simp;go_at_call 41;with_reducible refine qs a3.o ?_
 rintro e j⟨t,mo,G,m,rfl,O⟩;have a:=Z O;clear O;have a8:w.heap.size<l.drew.heap.size:=ae o;have x:Bk j w.heap.size #[J U b,J U f] 36:=(a.o.step.block _ a8 (λy=>by have:=a4.o _ y;omega)).trans o;obtain⟨V,mc,D,C⟩:=pS a.ok a.mem (b,f) B;rw[a6.o]at D C;have a2:=Z (λ(W:z5)(N:Bw j W)=>zM (hK V i.length mc) i.length (i.flatMap rkCells) W ((aJ.kept D (λq _ hq=>N.block q hq)).mono (nq _) N.size) (pG i) (vj i) (by have:=a5.o;omega));have T:Bw j j:=mk _ j;refine n _ _ (λ_=>x) ?_;clear n K;go_simp;refine dK (λW=>Bw j W) (λW h=>(h.block _ (ae x)).trans x) _ _ _ _ ?_;have a1:Hid (∀W,Bw j W->Cl W t 1 (hk (X G))/\(y7 93 (hk (X G)) (.agg #[J U b,J U f]) false).run prog W=.ok (hK V i.length mc) W):=λW h=>⟨(aa ((h.block _ (ae a.tb)).trans a.tb) 1).trans rfl,C W (h.block _ (a.lt G a.ft.2.2))⟩;clear C D;refine Qd [2,3,4,6] T a1 ?_;refine Dp 7 λK n=>?_;go_simp;go_at_call 52;with_reducible refine qs (a2.o j T) ?_
 rintro e w4⟨v,rfl,E,A⟩;obtain⟨va,vc,rfl⟩:=aQ E;have I:=Z E;have u:=Z A;clear E;refine n _ _ (λ_=>A) ?_;clear n K;go_simp;refine Qc [8] A ?_
 refine dN ?_;go_wp2_with fail;go_ret;refine⟨_,m,rfl,a.cat.step (λk B=>u.block k (a.lt k B)) u.size,((ah.of_below H.drew).trans a.step).trans (ah.of_below u.o),aD I.o ?_,λg hg y=>?_⟩
 .exact yc H.size a.step.size
 have L:=(I.lt g hg).1;have h2:=a.lt g y;omega
theorem Ao(F:Nat->Prop)(w:z5)(c:Nat)(d:ar)(h:bq F w c d)(hn:d.vs.length<=1000):
 Calls prog 15 #[fn (X ⟨c,0,Y⟩)] w λe w'=>∃(v:Value)(I:Nat->Prop),e=g3 v/\bq I w' c d/\ah F w I w'/\w'.ownsRow w.heap.size 69 4 v (sameC d).length ((sameC d).flatMap pkCells)/\∀g,v.ownBlock=X g->¬I g:=by
 have bw:=Z (qi F w c d h hn);obtain⟨i0,hi,bl,bs,bt⟩:=info_parts i69;have HI:=Z hi;have bB:=Z bl;have bO:=Z bs;have bY:=Z bt;clear h hi bl bs bt;go_enter func15,ntmps15;go_upto_region 2 with(go_at_call 41;(refine qs bw.o ?_;rintro e w1⟨t,j,mm,I,rfl,hf⟩;have c1:Cl w1 t 0 (hk (X j)):=((aa hf.tb 0).trans rfl);have m:=Z hf;clear hf))
 obtain⟨l,B,hl⟩:=m.of;have ax:=m.ok.ok;have au:=uo ax B hl;have ao:(l.map (·.1)).length=((thereC d).map (·.1)).length:=by rw[<- au,jY]
 have a9:Bw w1 (w1.alloc (hb #[hk (X j)] 92)):=(mk _ w1).alloc (nq _) _;have bb:=yZ 8 (by omega) w1.heap.size (X j) l (w1.alloc (hb #[hk (X j)] 92)) (by rw[z4];rfl) (ak.block B (a9.block _ B.lt)) (λb z=>by injection z with z;subst z;have:=B.lt;simp;omega);obtain⟨L,o⟩:=Qe (thereC d);obtain⟨set,aC⟩:=Qe (setsC d);have c6:L.length<=1000:=by rw[<- o];have:=ik (d:=d);omega
 have cg:l.length<=1000:=by rw[k2,k2,o]at ao;omega
 have a6:=Z (jX 10 (by omega) 89 #[fn (X ⟨w1.heap.size,0,Y⟩)] (enters_of func89 (by kernel_rfl) rfl) (l.map (·.1)) (by rw[k2];omega) _ _ (λcx x hx=>by have:=hx.1;omega) _ bb);rw[au,ao,o,k2]at a6;have HK:=Z (A7 (X j) w1);have aS:=Z a9;rw[o,aC]at hl;have bc:aB ltRK L:=by rw[<- o];exact bJ ax
 have c0:Hid (∀k,k<L.length->∀W:z5,W.heap[j]?=w1.heap[j]? ->(y7 92 (hk (X j)) (recK (keyC L k)) false).run prog W=.ok (recK (keyC L (set.getD k 0))) W):=λk q W V=>by
  have cd:rkOk (keyC L k):=by
   rw[bW q];have ch:L[k]∈thereC d:=by rw[o];exact ys q
   exact m.ok.vkey _ (List.mem_filter.1 ch).1
  have:=ak.look (ak.block B V) underlying92 (lI W) (keyC L k) cd;rw[hl,eX bc q]at this;exact this
 have c3:Hid (∀k,k<L.length->(sameC d).take (k+1)=(sameC d).take k++[(keyC L k,keyC L (set.getD k 0))]):=λk q=>by
  have cc:k<(sameC d).length:=by rw[fv,o];exact q
  rw[z9 cc];congr 2
  unfold sameC;simp[o,aC]
 have b0:Hid ((sameC d).length=L.length):=by unfold Hid;rw[fv,o]
 obtain⟨n,av⟩:=Qe L.length;have a4:=Z av;rw[av]at a6 c6;have aT:=Z B.lt;clear bb au ao a9 B hl cg ax o aC bc av
 go_upto_region 4 with(first
  |(go_at_call 48;((with_reducible refine qs HK.o ?_);rintro e w2⟨rfl,rfl⟩))
  |(go_at_call 47;((with_reducible refine qs a6.o ?_);rintro e u⟨v,rfl,ay,b4⟩;obtain⟨va,vc,rfl⟩:=aQ ay;have a5:=Z ay;have bv:=Z b4;clear ay b4)))
 have y:Hid (Bw w1 u):=aS.trans (bv.mono aS.size);clear c1;go_loopw [4,16] (λcq i wr=>∃(k:Nat)(r:Option Addr)(s:Nat),k<=n/\i=J U k/\cq=hK r k s/\Hid (wr.ownsRow u.heap.size 69 4 (hK r k s) k (((sameC d).take k).flatMap pkCells))/\Hid (Bw u wr)) (λ_ i _=>n-(intOf i).toNat)
 exact⟨0,Y,0,zz _,rfl,rfl,Bq _ _ _ _,mk _ _⟩;obtain⟨k,r,s,q,rfl,rfl,E,M⟩:=hrel;by_cases hlt:k<n;rotate_left
 .have b7:k=n:=by omega
  subst b7;have bd:(sameC d).take k=sameC d:=zp (by rw[b0.o,a4.o];exact nq _);rw[bd]at E;clear bd hlt q;go_wp2_with fail;go_ret;have z:Bw w1 wr:=y.trans (M.mono y.size);refine⟨_,I,rfl,m.cat.step (λk q=>z.block k (m.lt k q)) z.size,m.step.trans (ah.of_below z),?_,λg H N=>?_⟩
  .rw[b0.o,a4.o];exact aD E.o (yc m.step.size y.size)
  have h1:=(E.lt g H).1;have h2:=m.lt g N;have h3:=y.size;omega
 have a0:k<L.length:=by rw[a4.o];exact hlt
 obtain⟨G,cy,c8,_⟩:=y8 a5.o (by omega);cases c8;have c9:=(a5.lt G rfl).2;have ad:∀i,i<2->wr.cell? ⟨G,k*2+i,Y⟩=(rkCells (keyC L k))[i]?:=λi hi=>by
  have cl:k<(L.map (·.1)).length:=by rw[k2];exact a0
  rw[z6 (a:=⟨G,k*2+i,Y⟩) (M.o.block G c9),a5.o.cellAt (k*2+i) (by omega),cW rkCells 2 (λ_=>rfl) _ k cl i hi,z0,bW a0]
 have e0:Cl wr G (k*2) (J U (keyC L k).1):=(ad 0 (by omega)).trans rfl;have e1:Cl wr G (k*2+1) (J U (keyC L k).2):=(ad 1 (by omega)).trans rfl;have a3:=Z (c0 k a0);have a7:=Z (c3 k a0);obtain⟨⟨C,D⟩,b6⟩:∃kk,keyC L k=kk:=⟨_,rfl⟩;obtain⟨⟨t1,t2⟩,bk⟩:∃tt,keyC L (set.getD k 0)=tt:=⟨_,rfl⟩;rw[b6]at e0 e1 a3 a7;rw[bk]at a3 a7;dsimp only at e0 e1;clear b6 bk ad;obtain⟨f,a1⟩:=Qe (wr.alloc (hb #[J U C,J U D] 36));have ac:Bw wr f:=by rw[<- a1];exact(mk _ wr).alloc (nq _) _
 have N:f.heap[wr.heap.size]?=X (hb #[J U C,J U D] 36 (0,0)):=by rw[<- a1];exact lm wr _
 obtain⟨R,a8⟩:=Qe wr.heap.size;rw[a8]at N;have T:Hid (f.ownsRow u.heap.size 69 4 (hK r k s) k (((sameC d).take k).flatMap pkCells)):=ai E.o (λg H=>ac.block g (E.lt g H).2);have Q:Hid (Bw u f):=M.trans (ac.mono M.size);have c4:=Z a1;have c2:=Z a8;have HF:=Z N;clear a1 ac N a8 E M;have bA:Hid (∀W,f.grownBy W (y9 r k s).ownBlock->(Cl W R 0 (J U C)/\Cl W R 1 (J U D))/\Cl W t 0 (hk (X j))/\(y7 92 (hk (X j)) (.agg #[J U C,J U D]) false).run prog W=.ok (.agg #[J U t1,J U t2]) W):=λW V=>by
  have b9:∀g,g<u.heap.size->W.heap[g]?=u.heap[g]?:=λg H=>(V.block g (zd H Q.o.size) (λe=>by have:=(T.o.lt g e.symm).1;omega)).trans (Q.o.block g H);have c5:=y.size;have b1:W.heap[R]?=_:=(V.block R (ae HF.o) (λe=>by obtain⟨cu,c7⟩:=aH T.o e.symm;exact dp HF.o c7 (by decide) rfl)).trans HF.o
  have cn:=ae m.tb;have b2:=((b9 t (by omega)).trans (y.o.block t cn)).trans m.o.tb;have b3:=(b9 j (zd aT.o c5)).trans (y.block j aT.o);exact⟨⟨(aa b1 0).trans rfl,(aa b1 1).trans rfl⟩,(aa b2 0).trans rfl,a3 W b3⟩
 go_upto_region 6 with fail;rw[c4.o,c2.o];clear e0 e1;go_wp2_with fail;have al:f.grownBy f.drew (y9 r k s).ownBlock:=⟨rfl,rfl,rfl,nq _,λ_ _ _=>rfl⟩;refine wT (λW=>f.grownBy W (y9 r k s).ownBlock) 999 ?_;refine Qd [0,1,2,6,3,4,5,7] al bA ?_;refine Qc [8] al ?_
 refine Dp 9 λK O=>?_;go_simp;have b5:f.grownBy (f.drew.alloc (hb #[J U C,J U D,J U t1,J U t2] 69)) (y9 r k s).ownBlock:=al.trans ((A2 _ _ Y).but _);refine O _ _ (λ_=>b5) ?_;clear O K;refine Dp 10 λK O=>?_;have b7:k<=1000:=by omega
 have cp:=Q.size;obtain⟨v',w7,cm,b8,cb,_,_⟩:=run_append_own_at (P:=prog) (f.drew.alloc (hb #[J U C,J U D,J U t1,J U t2] 69)) u.heap.size 49 49 69 i0 (.agg #[J U 0,J U 0,J U 0,J U 0]) 4 32 underlying49 HI.o bB.o bO.o bY.o rfl (by decide) (hK r k s) k _ (World.ownsRow.alloc (w:=f.drew) T.o _) ⟨f.drew.heap.size,0,Y⟩ 1 1 [J U C,J U D,J U t1,J U t2] rfl (uG f.drew _ _ _ _ 69) (by simp[Value.oneCell']) (by unfold maxLen;omega) (by omega) (by simp;show u.heap.size<=f.heap.size+1;omega);refine iJ rfl rfl rfl cm ?_;obtain⟨cs,cv,rfl⟩:=aQ b8;have A:=b5.trans cb;refine O _ _ (λ_=>A) ?_;clear O K;go_simp;refine Qc [11] A ?_
 refine dN ?_;go_wp2_with fail;go_roundw
 case rel=> refine⟨k+1,_,_,hlt,by go_num,rfl,?_,Q.o.trans ⟨A.os,A.tape,A.output,A.size,λp hp=>A.block p (zd hp cp) (λe=>by have:=(T.o.lt p e.symm).1;omega)⟩⟩;unfold Hid;rw[a7.o,Bo];exact b8
 simp[intOf];omega
end
end Go.Proofs.YtjcimanddakkaaaGreatDoor
