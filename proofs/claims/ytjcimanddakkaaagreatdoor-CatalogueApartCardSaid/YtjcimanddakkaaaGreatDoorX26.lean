/- Lemmas. -/
import Derived.Test.YtjcimanddakkaaaGreatDoorX0
import Derived.Test.YtjcimanddakkaaaGreatDoorX1
import Derived.Test.YtjcimanddakkaaaGreatDoorX2
import Derived.Test.YtjcimanddakkaaaGreatDoorX3
import Derived.Test.YtjcimanddakkaaaGreatDoorX5
import Derived.Test.YtjcimanddakkaaaGreatDoorX10
import Derived.Test.YtjcimanddakkaaaGreatDoorX11
import Derived.Test.YtjcimanddakkaaaGreatDoorX12
import Derived.Test.YtjcimanddakkaaaGreatDoorX25
set_option maxRecDepth 100000
set_option maxHeartbeats 8000000
namespace Go.Proofs.YtjcimanddakkaaaGreatDoor
open Go.Lib renaming hid→a0a
open Go.World renaming alloc_heap_new→a0b,cell?_alloc_new→a0z,cell?_of_block→a0A
open _root_.List renaming length_map→a0c,length_filter_le→a0n,getElem_mem→a0o,take_of_length_le→a0p,getElem_map→a0u,mem_filter→a0v,mem_range→a0x,range→a0y,map_map→a0B
open Go.RowKit.Below renaming refl→a0d,heap_setCell→a0f,heap_alloc→a0t
open _root_.Nat renaming le_refl→a0e,le_trans→a0k,zero_le→a0r
open Go.ChangeMaps renaming setBlock→a0g
open Go.Proofs.Tryz renaming prog→a0h
open Go.Calls renaming mono→a0i
open Go.RowKit renaming Below→a0j
open Go.Instr renaming lookup→a0l
open Go.World.ownsRow renaming form→a0m
open Go.Value renaming slice→a0q
open Go renaming World→a0s,bodyPost_ret→a0w
section
open Go.RowKit Go.Maps Go.Shelf
theorem zn (F:Nat->Prop) (w:a0s) (c:Nat) (d:ar) (h:bz F w c d) (hn:d.vs.length<=1000):
 Calls a0h 41 #[.pointer (some ⟨c,0,none⟩)] w λe w'=>∃(t:Nat) (F':Nat->Prop) (J T E:Option Nat),e= .returned (.pointer (some ⟨t,0,none⟩))/\dG F' w' c J T E (.pointer (some ⟨t,0,none⟩)) d/\cU (restF F' c J T E) w' t (thereC d) (setsC d)/\ag F w F' w':=by
 obtain ⟨J,T,E,kn,hM⟩:=h;have y8:=hM.lt c hM.fc;obtain ⟨w1,d3⟩:∃w1,w.alloc (.cells #[.pointer (some ⟨c,0,none⟩)] 24)=w1:=⟨_,rfl⟩;have ax:a0j w.heap.size w w1:=by rw [<- d3];exact (a0d _ w).alloc (a0e _) _
 have hV:w1.heap[w.heap.size]? =some (.cells #[.pointer (some ⟨c,0,none⟩)] 24 (0,0)):=by rw [<- d3];exact a0b w _
 have av:=hM.below ax;have c3:w1.cell? ⟨c,3,none⟩=some kn:=(aa av.blk 3).trans rfl;have cv:w1.cell? ⟨w.heap.size,0,none⟩=some (.pointer (some ⟨c,0,none⟩)):=(aa hV 0).trans rfl;have g4:=a0a d3;rcases hM.kn with rfl|⟨t,rfl,ht⟩
 · have HM:=a0a hM;have eq:=a0a ax;have HV:=a0a hV;clear hM av hV ax d3;go_enter Tryz.func41,Tryz.ntmps41;go_upto_region 1 with fail
   rw [g4.out];go_upto_region 5 with fail
   have va:= @run_makeMap a0h;obtain ⟨m,bb⟩:∃m,w1.heap.size=m:=⟨_,rfl⟩;obtain ⟨M,bs⟩:∃M,(((w1.alloc (.map #[] 0)).alloc (.map #[] 0)).alloc (.cells #[.map (some m), .map (some (m+1))] 95)).alloc (.cells #[.pointer (some ⟨m+2,0,none⟩)] 96)=M:=⟨_,rfl⟩;have e4:a0j w1.heap.size w1 M:=by rw [<- bs];exact ((((a0d _ w1).alloc (a0e _) _).alloc (by simp) _).alloc (by simp;omega) _).alloc (by simp;omega) _
   have z1:(w1.alloc (.map #[] 0)).heap.size=m+1:=by rw [<- bb];simp
   have z2:((w1.alloc (.map #[] 0)).alloc (.map #[] 0)).heap.size=m+2:=by rw [<- bb];simp
   have z3:(((w1.alloc (.map #[] 0)).alloc (.map #[] 0)).alloc (.cells #[.map (some m), .map (some (m+1))] 95)).heap.size=m+3:=by rw [<- bb];simp
   have lk:m=w.heap.size+1:=by rw [<- bb, <- g4.out];simp
   have f9:=a0a lk;have k4:ak recB M m []:=by rw [<- bs, <- bb];exact (((ak.made w1).alloc _).alloc _).alloc _
   have k0:ak recB M (m+1) []:=by rw [<- bs, <- z1];exact ((ak.made (w1.alloc (.map #[] 0))).alloc _).alloc _
   have k8:M.heap[m+2]? =some (.cells #[.map (some m), .map (some (m+1))] 95 (0,0)):=by rw [<- bs,a0t _ _ _ (by rw [z3];omega), <- z2];exact a0b _ _
   have k9:M.heap[m+3]? =some (.cells #[.pointer (some ⟨m+2,0,none⟩)] 96 (0,0)):=by rw [<- bs, <- z3];exact a0b _ _
   have aS:=(HM.below eq.out).below e4;have gi:=(e4.block _ (ae HV.out)).trans HV.out;have qy:=a0a bs;have p5:=a0a bb;have HZ:=a0a (⟨z1,z2,z3⟩:_/\_/\_);have d4:M.heap.size=m+4:=by rw [<- bs, <- bb];simp
   have dy:=a0a (wl F M c J T E (.pointer none) d aS);have cv2:M.cell? ⟨w.heap.size,0,none⟩=some (.pointer (some ⟨c,0,none⟩)):=(aa gi 0).trans rfl;have iS:=a0a k4;have iQ:=a0a k0;have qn:=a0a k8;have qx:=a0a k9;have p3:=a0a aS;have ja:=a0a gi;have c9:=a0a d4;have it:Hid (a0j w.heap.size w M):=eq.trans (e4.mono eq.size);clear lk bb bs e4 z1 z2 z3 k4 k0 k8 k9 aS gi cv c3 d4;go_upto_region 6 with fail
   rw [p5.out,show m+1+1=m+2 from rfl,show m+2+1=m+3 from rfl,qy.out];obtain ⟨L,hL⟩:∃L,thereC d=L:=⟨_,rfl⟩;rw [hL] at dy;have HL:=a0a hL;clear hL va;obtain ⟨ps,q1,q2,q3⟩:=HM.vs;have py:=a0a q1;have pz:=a0a q2;have j1:=a0a q3;obtain ⟨H,dB⟩:∃H,restL d ps=H:=⟨_,rfl⟩;have ft:Hid (H.map (λp=>(p.1,p.2.1))=L):=by unfold Hid;rw [<- dB, <- HL.out];exact r7 q1
   have pe:Hid (∀p∈H,findK ps p.1=some p.2):=λp I=>uL HM.ok.ok q1 (dB ▸ I);have fr:Hid (∀p∈H,p∈ps):=λp I=>(List.mem_filter.1 (dB ▸ I:p∈restL d ps)).1;have lx:H.length=L.length:=by rw [<- ft.out,a0c]
   have fp:=a0a lx;have e7:L.length<=1000:=by rw [<- HL.out];exact a0k (a0n _ _) hn
   have cl:Hid (aw ltRK L):=by unfold Hid;rw [<- HL.out];exact cW HM.out.ok.ok
   have dc:Hid (∀j,j<L.length->rkOk (keyC L j)):=λj hj=>by
    have hm:L[j]∈thereC d:=by rw [HL.out];exact a0o hj
    rw [dA hj];exact HM.ok.vkey _ (List.mem_filter.1 hm).1
   clear q1 q2 q3 dB lx hn;obtain ⟨n,h8⟩:∃n,L.length=n:=⟨_,rfl⟩;have au:=a0a h8;rw [a0c] at dy;rw [h8] at dy e7;clear h8;go_upto_region 9 with (go_at_call 77;refine a0i dy.out ?_;rintro e w3 ⟨v3,rfl,hP,kc⟩;obtain ⟨a3,k3,rfl⟩:=aK hP;have ds:=a0a hP;have c5:=a0a kc;clear hP kc)
   obtain ⟨A,gP⟩:∃A,w3.heap.size=A:=⟨_,rfl⟩;have f6:=a0a gP;have ny:Hid (a0j w.heap.size w w3):=it.trans (c5.mono it.size);have qq:Hid (UN w.heap.size A F w3 (m+3) w.heap.size (m+2) m (m+1) c J T E (.pointer none) d (L.take 0) (a0y 0)):=by have lo:=f9.out;have d4:=c9.out;have z5:=c5.size;have O:∀q,q<M.heap.size->w3.heap[q]? =M.heap[q]? :=c5.block;refine ⟨(O _ (by omega)).trans qx.out,(O _ (ae ja.out)).trans ja.out,(O _ (by omega)).trans qn.out,⟨[],iS.out.block (O _ iS.out.lt),λk=>rfl⟩,⟨[],iQ.out.block (O _ iQ.out.lt),λk=>⟨λh=>(by cases h),?_⟩,λt ht=>absurd ht (by simp),λ_ _ _ _ h=>(by cases h)⟩,p3.out.below c5.out,by omega,⟨by omega,by omega,by omega,by omega,by omega,by omega,by omega,by omega⟩,λk D=>HM.out.lt k D,cw.range 0,ga cl.out 0,λj hj=>absurd hj (by simp),by simp⟩;rintro ⟨t,ht,_⟩;exact absurd ht (by simp)
   have b4:Hid (M.heap.size<=A/\w.heap.size+5<=A/\m=w.heap.size+1):=⟨by rw [<- gP];exact c5.out.size,by have:=c9.out;have:=c5.out.size;have:=f9.out;omega,f9.out⟩;clear gP;go_loopw [5,36] (λv i wr=>∃q:Nat,q<=n/\i= .int .i64 q/\Hid (UN w.heap.size A F wr (m+3) w.heap.size (m+2) m (m+1) c J T E (.pointer none) d (L.take q) (a0y q))/\Hid (wr.ownsRow A 62 3 v q ((recX (H.take q)).flatMap rdCells))/\Hid (wr.ownsRow M.heap.size 36 2 (.slice a3 n k3) n ((L.map (·.1)).flatMap rkCells))/\Hid (a0j w.heap.size w wr)) (λ_ i _=>n - (intOf i).toNat)
   case atStart=>exact ⟨0,a0r _,rfl,qq.out,World.ownsRow_nil _ _ _ _,ds.out,ny.out⟩
   case round=>
    obtain ⟨q,hq,rfl,C,a4,N,U⟩:=hrel;by_cases hlt:q<n
    · have bk:q<L.length:=by rw [au.out];exact hlt
      obtain ⟨B,xb,bB,_⟩:=a0m N.out (by omega);cases bB;have a0:∀j,j<2->wr.cell? ⟨B,q * 2+j,none⟩=(rkCells (keyC L q))[j]? :=λj hj=>by
       have e8:q<(L.map (·.1)).length:=by rw [a0c];exact bk
       rw [N.out.cellAt (q * 2+j) (by omega),de rkCells 2 (λ_=>rfl) _ q e8 j hj,a0u,dA bk]
      have e0:wr.cell? ⟨B,q * 2,none⟩=some (.int .i64 (keyC L q).1):=(a0 0 (by omega)).trans rfl;have e1:wr.cell? ⟨B,q * 2+1,none⟩=some (.int .i64 (keyC L q).2):=(a0 1 (by omega)).trans rfl;have D:=dc q bk;have op:=a0a (rfl:keyC L q=keyC L q);obtain ⟨⟨y,z⟩,gO⟩:∃k,keyC L q=k:=⟨_,rfl⟩;have dd:=a0a gO;rw [gO] at e0 e1 D;dsimp only at e0 e1;have pd:=a0a D;clear a0 gO op;obtain ⟨o,a6⟩:∃o,wr.alloc (.cells #[.int .i64 y, .int .i64 z] 36)=o:=⟨_,rfl⟩;have Y:a0j wr.heap.size wr o:=by rw [<- a6];exact (a0d _ wr).alloc (a0e _) _
      have hF:o.heap[wr.heap.size]? =some (.cells #[.int .i64 y, .int .i64 z] 36 (0,0)):=by rw [<- a6];exact a0b wr _
      obtain ⟨R,ad⟩:∃R,wr.heap.size=R:=⟨_,rfl⟩;rw [ad] at hF;have ac:=a0a (C.below Y);have fz:Hid (o.ownsRow A 62 3 u5 q ((recX (H.take q)).flatMap rdCells)):=ah a4.out (λg u=>Y.block g (a4.lt g u).2);have b0:Hid (o.ownsRow M.heap.size 36 2 (.slice (some ⟨B,0,none⟩) n k3) n ((L.map (·.1)).flatMap rkCells)):=ah N.out (λg u=>Y.block g (N.lt g u).2);have bt:Hid (a0j w.heap.size w o):=U.trans (Y.mono U.size);have f4:Hid (B<A):=by have h3:=ds.lt B rfl;rw [f6.out] at h3;exact h3.2
      have cp:=a0a a6;have c6:=a0a ad;have HF:=a0a hF;have ch:Hid (A<=R/\o.heap.size=R+1):=⟨by rw [<- ad];exact C.out.los.2.2.2.2.2.2.2,by rw [<- a6, <- ad];simp⟩;clear a6 ad Y hF C a4 N U;go_upto_region 11 with fail
      rw [cp.out,c6.out];clear e0 e1;obtain ⟨ao,ko,rfl⟩:=aK fz.out;go_cut [5] (λv wx=>v= .slice ao q ko/\Hid (UN w.heap.size A F wx (m+3) w.heap.size (m+2) m (m+1) c J T E (.pointer none) d (L.take (q+1)) (a0y (q+1)))/\Hid (wx.ownsRow A 62 3 (.slice ao q ko) q ((recX (H.take q)).flatMap rdCells))/\Hid (wx.ownsRow M.heap.size 36 2 (.slice (some ⟨B,0,none⟩) n k3) n ((L.map (·.1)).flatMap rkCells))/\Hid (a0j w.heap.size w wx)/\Hid (wx.heap[R]? =some (.cells #[.int .i64 y, .int .i64 z] 36 (0,0))))
      case first=>
       obtain ⟨l1,av,E1⟩:=ac.of;obtain ⟨l2,aS,M2,M3,M4⟩:=ac.mem;have vx:=gh (L:=L) (i:=q) (by omega);have iP:Hid (l1.length<maxLen):=by have:=ot (L:=L.take q) av (λk D=>by rw [E1] at D;simpa using D);unfold Hid maxLen;omega
       have dk:Hid (l2.length<maxLen):=by
        have:=ot (L:=L.take q) aS (λk D=>by obtain ⟨t,ht,_,e5⟩:=(M2 k).1 D;rw [<- e5,fK (ga cl.out q) ht];rfl)
        unfold Hid maxLen;omega
       have a8:Hid (m+1≠m/\m≠m+1):=⟨by omega,by omega⟩;have ay:Hid (R+1≠m/\R+1≠m+1):=⟨by have:=ch.out.1;have:=b4.out;omega,by have:=ch.out.1;have:=b4.out;omega⟩;have oN:Hid (∀W,ag (λq=>q=m∨q=m+1) o (λq=>q=m∨q=m+1) W->W.cell? ⟨m+3,0,none⟩=some (.pointer (some ⟨m+2,0,none⟩))/\(W.cell? ⟨m+2,0,none⟩=some (.map (some m))/\W.cell? ⟨m+2,1,none⟩=some (.map (some (m+1))))/\W.cell? ⟨R,0,none⟩=some (.int .i64 y)/\W.cell? ⟨R,1,none⟩=some (.int .i64 z)):=λW hW=>by have hz:=ch.out;have cc:=b4.out;have V:=(hW.block (m+3) (ae ac.out.vt) (by omega)).trans ac.out.vt;have X:=(hW.block (m+2) (ae ac.out.tb) (by omega)).trans ac.out.tb;have b3:=(hW.block R (by omega) (by omega)).trans HF.out;exact ⟨(aa V 0).trans rfl,⟨(aa X 0).trans rfl,(aa X 1).trans rfl⟩,(aa b3 0).trans rfl,(aa b3 1).trans rfl⟩
       have da:Hid (∀W,ag (λq=>q=m∨q=m+1) o (λq=>q=m∨q=m+1) W->ak recB W m (putL l1 (y,z) (.agg #[.int .i64 y, .int .i64 z]))->ak recB W (m+1) (putL l2 (y,z) (.slice (some ⟨R+1,0,none⟩) 1 1))->W.heap[R+1]? =some (.cells #[.int .i64 y, .int .i64 z] 36 (0,0))->
        Hid (UN w.heap.size A F W (m+3) w.heap.size (m+2) m (m+1) c J T E (.pointer none) d (L.take (q+1)) (a0y (q+1)))/\Hid (W.ownsRow A 62 3 (.slice ao q ko) q ((recX (H.take q)).flatMap rdCells))/\Hid (W.ownsRow M.heap.size 36 2 (.slice (some ⟨B,0,none⟩) n k3) n ((L.map (·.1)).flatMap rkCells))/\Hid (a0j w.heap.size w W)/\Hid (W.heap[R]? =some (.cells #[.int .i64 y, .int .i64 z] 36 (0,0)))):=λW hW h1 h2 h3=>by
        have hz:=ch.out
        have cc:=b4.out
        have gt:=f4.out
        have O:∀p,p<o.heap.size->p≠m->p≠m+1->W.heap[p]? =o.heap[p]? :=λp I p1 p2=>hW.block p I (by omega)
        refine ⟨UN.grow ac.out cl.out bk (by rw [au.out];omega) dc.out E1 (by rw [dd.out];exact h1) M2 M3 M4 (nb:=R+1) (by rw [dd.out];exact h2) (by rw [dd.out];exact h3) (by omega) O hW.size,ah fz.out (λg u=>?_),ah b0.out (λg u=>?_),?_,(O R (by omega) (by omega) (by omega)).trans HF.out⟩
        · have hl:=fz.lt g u
          exact O g hl.2 (by omega) (by omega)
        · have hl:=b0.lt g u
          exact O g hl.2 (by have:=c9.out;omega) (by have:=c9.out;omega)
        · exact bt.out.trans (hW.below (λk D=>by omega) bt.out.size).1
       clear E1 M2 M3 M4 vx;go_wp2_with fail
       have hS:ag (λq=>q=m∨q=m+1) o (λq=>q=m∨q=m+1) o.drew:=ag.of_below (a0d _ o).drew;have av:=ak.drew av;have aS:=ak.drew aS;have i8:o.drew.heap.size=R+1:=ch.2;refine wT (λW=>ag (λq=>q=m∨q=m+1) o (λq=>q=m∨q=m+1) W) 999 ?_;generalize o.drew=W0 at *;have Z:=tkL [0,4,5,9,10,11,1,6,2,7,3,8];repeat (refine tkIS Z ?_ rfl hS ?_ ?_;rotate_left;intro w' h;obtain ⟨h0,⟨h1,h2⟩,h3,h4⟩:=oN w' h;go_simp;rfl;(try go_simp);replace Z:=tkO Z)
       clear Z;refine bZ (i:=12) (j:=13) rfl rfl (by kernel_rfl) rfl rfl (λK s=>?_) (λK s=>?_)
       · skip;go_simp;try rw [i8]
         have g8:a0j W0.heap.size W0 (W0.alloc (.cells #[.int .i64 y, .int .i64 z] 36)):=(a0d _ W0).alloc (a0e _) _;have t2:(W0.alloc (.cells #[.int .i64 y, .int .i64 z] 36)).heap[R+1]? =some (.cells #[.int .i64 y, .int .i64 z] 36 (0,0)):=by rw [<- i8];exact a0b W0 _
         have mf:=hS.trans (ag.of_below g8);have sb:=av.block (g8.block m (av.lt));have sl:=aS.block (g8.block (m+1) (aS.lt));generalize W0.alloc (.cells #[.int .i64 y, .int .i64 z] 36)=Wx1 at *;refine s _ _ (λ_=>mf) ?_;clear s K;go_simp;refine dO 13 rfl λK s=>?_;obtain ⟨At,ry,r1,m0,tf,he,x4⟩:=ak.entry sb gj Tryz.underlying92 nr (y,z) D iP.out;refine bn rfl m0 ?_;have hY:=mf.trans (ag.of_only he (.inl rfl));have s5:=sl.block (he.block (m+1) (a8.1));have t0:=(he.block (R+1) (ay.1)).trans t2;generalize a0g Wx1 m (.map ry r1)=Wx7 at *;clear m0;refine s _ _ (λ_=>hY) ?_;clear s K;go_simp;refine tkS 14 ?_ rfl hY ?_ ?_;rotate_left;intro w' h;go_simp;rfl;try go_simp
         refine dO 15 rfl λK s=>?_;obtain ⟨qz,w0,v1,hB⟩:=x4 Wx7 (.agg #[.int .i64 y, .int .i64 z]) tf;refine aW rfl w0 ?_;have me:=hY.trans (ag.of_only hB (.inl rfl));have s6:=s5.block (hB.block (m+1) (a8.1));have t1:=(hB.block (R+1) (ay.1)).trans t0;refine s _ _ (λ_=>me) ?_;clear s K;go_simp;refine dO 16 rfl λK s=>?_;obtain ⟨A2,rr,r5,m5,th,hh,x5⟩:=ak.entry s6 gj Tryz.underlying93 et (y,z) D dk.out;refine bn rfl m5 ?_;have hZ:=me.trans (ag.of_only hh (.inr rfl));have s8:=v1.block (hh.block m (a8.2));have t3:=(hh.block (R+1) (ay.2)).trans t1;generalize a0g qz (m+1) (.map rr r5)=Wx25 at *;clear m5;refine s _ _ (λ_=>hZ) ?_;clear s K;go_simp;refine tkS 17 ?_ rfl hZ ?_ ?_;rotate_left;intro w' h;go_simp;rfl;try go_simp
         refine dO 18 rfl λK s=>?_;obtain ⟨y2,wa,v2,hC⟩:=x5 Wx25 (.slice (some ⟨R+1,0,none⟩) 1 1) th;refine aW rfl wa ?_;have ml:=hZ.trans (ag.of_only hC (.inr rfl));have sa:=s8.block (hC.block m (a8.2));have t4:=(hC.block (R+1) (ay.2)).trans t3;refine s _ _ (λ_=>ml) ?_;clear s K;go_simp;refine dN ?_;go_wp2_with fail
         go_meet;exact ⟨rfl,da _ ml sa v2 t4⟩
       · skip;obtain ⟨Ac,rs,r9,m6,gn,ho,n2⟩:=ak.entry av gj Tryz.underlying92 nr (y,z) D iP.out;refine bn rfl m6 ?_;have ej:=hS.trans (ag.of_only ho (.inl rfl));have ia:=ho.size.trans i8;have gd:=aS.block (ho.block (m+1) (a8.1));generalize a0g W0 m (.map rs r9)=Wx43 at *;clear m6;refine s _ _ (λ_=>ej) ?_;clear s K;go_simp;refine tkS 14 ?_ rfl ej ?_ ?_;rotate_left;intro w' h;go_simp;rfl;try go_simp
         refine bZ (i:=12) (j:=15) rfl rfl (by kernel_rfl) rfl rfl (λK s=>?_) (λK s=>?_)
         · skip;go_simp;try rw [ia]
           have g9:a0j Wx43.heap.size Wx43 (Wx43.alloc (.cells #[.int .i64 y, .int .i64 z] 36)):=(a0d _ Wx43).alloc (a0e _) _;have t5:(Wx43.alloc (.cells #[.int .i64 y, .int .i64 z] 36)).heap[R+1]? =some (.cells #[.int .i64 y, .int .i64 z] 36 (0,0)):=by rw [<- ia];exact a0b Wx43 _
           have mm:=ej.trans (ag.of_below g9);have s0:=(g9.block m (ae gn)).trans gn;have se:=gd.block (g9.block (m+1) (gd.lt));generalize Wx43.alloc (.cells #[.int .i64 y, .int .i64 z] 36)=Wx54 at *;refine s _ _ (λ_=>mm) ?_;clear s K;go_simp;refine dO 15 rfl λK s=>?_;obtain ⟨r0,wf,v4,hG⟩:=n2 Wx54 (.agg #[.int .i64 y, .int .i64 z]) s0;refine aW rfl wf ?_;have ms:=mm.trans (ag.of_only hG (.inl rfl));have sm:=se.block (hG.block (m+1) (a8.1));have t6:=(hG.block (R+1) (ay.1)).trans t5;refine s _ _ (λ_=>ms) ?_;clear s K;go_simp;refine dO 16 rfl λK s=>?_;obtain ⟨As,rx,ra,m7,tk,hw,x6⟩:=ak.entry sm gj Tryz.underlying93 et (y,z) D dk.out;refine bn rfl m7 ?_;have i0:=ms.trans (ag.of_only hw (.inr rfl));have sp:=v4.block (hw.block m (a8.2));have t8:=(hw.block (R+1) (ay.2)).trans t6;generalize a0g r0 (m+1) (.map rx ra)=Wx67 at *;clear m7;refine s _ _ (λ_=>i0) ?_;clear s K;go_simp;refine tkS 17 ?_ rfl i0 ?_ ?_;rotate_left;intro w' h;go_simp;rfl;try go_simp
           refine dO 18 rfl λK s=>?_;obtain ⟨y3,wp,v9,hH⟩:=x6 Wx67 (.slice (some ⟨R+1,0,none⟩) 1 1) tk;refine aW rfl wp ?_;have mt:=i0.trans (ag.of_only hH (.inr rfl));have ss:=sp.block (hH.block m (a8.2));have t9:=(hH.block (R+1) (ay.2)).trans t8;refine s _ _ (λ_=>mt) ?_;clear s K;go_simp;refine dN ?_;go_wp2_with fail
           go_meet;exact ⟨rfl,da _ mt ss v9 t9⟩
         · skip;obtain ⟨b7,wu,h6,hI⟩:=n2 Wx43 (.agg #[.int .i64 y, .int .i64 z]) gn;refine aW rfl wu ?_;have i4:=ej.trans (ag.of_only hI (.inl rfl));have ib:=hI.size.trans ia;have gf:=gd.block (hI.block (m+1) (a8.1));refine s _ _ (λ_=>i4) ?_;clear s K;go_simp;refine bZ (i:=12) (j:=16) rfl rfl (by kernel_rfl) rfl rfl (λK s=>?_) (λK s=>?_)
           · skip;go_simp;try rw [ib]
             have gb:a0j b7.heap.size b7 (b7.alloc (.cells #[.int .i64 y, .int .i64 z] 36)):=(a0d _ b7).alloc (a0e _) _;have ta:(b7.alloc (.cells #[.int .i64 y, .int .i64 z] 36)).heap[R+1]? =some (.cells #[.int .i64 y, .int .i64 z] 36 (0,0)):=by rw [<- ib];exact a0b b7 _
             have mv:=i4.trans (ag.of_below gb);have st:=h6.block (gb.block m (h6.lt));have su:=gf.block (gb.block (m+1) (gf.lt));generalize b7.alloc (.cells #[.int .i64 y, .int .i64 z] 36)=Wx92 at *;refine s _ _ (λ_=>mv) ?_;clear s K;go_simp;refine dO 16 rfl λK s=>?_;obtain ⟨AC,rc,r2,lT,te,hc,x2⟩:=ak.entry su gj Tryz.underlying93 et (y,z) D dk.out;refine bn rfl lT ?_;have hT:=mv.trans (ag.of_only hc (.inr rfl));have s1:=st.block (hc.block m (a8.2));have sx:=(hc.block (R+1) (ay.2)).trans ta;generalize a0g Wx92 (m+1) (.map rc r2)=Wx98 at *;clear lT;refine s _ _ (λ_=>hT) ?_;clear s K;go_simp;refine tkS 17 ?_ rfl hT ?_ ?_;rotate_left;intro w' h;go_simp;rfl;try go_simp
             refine dO 18 rfl λK s=>?_;obtain ⟨xk,vy,up,hy⟩:=x2 Wx98 (.slice (some ⟨R+1,0,none⟩) 1 1) te;refine aW rfl vy ?_;have mb:=hT.trans (ag.of_only hy (.inr rfl));have s2:=s1.block (hy.block m (a8.2));have sz:=(hy.block (R+1) (ay.2)).trans sx;refine s _ _ (λ_=>mb) ?_;clear s K;go_simp;refine dN ?_;go_wp2_with fail
             go_meet;exact ⟨rfl,da _ mb s2 up sz⟩
           · skip;obtain ⟨A1,rg,r4,m4,kl,hd,x3⟩:=ak.entry gf gj Tryz.underlying93 et (y,z) D dk.out;refine bn rfl m4 ?_;have hX:=i4.trans (ag.of_only hd (.inr rfl));have nf:=hd.size.trans ib;have jb:=h6.block (hd.block m (a8.2));generalize a0g b7 (m+1) (.map rg r4)=Wx116 at *;clear m4;refine s _ _ (λ_=>hX) ?_;clear s K;go_simp;refine tkS 17 ?_ rfl hX ?_ ?_;rotate_left;intro w' h;go_simp;rfl;try go_simp
             refine dO 12 rfl λK s=>?_;go_simp;try rw [nf]
             have g6:a0j Wx116.heap.size Wx116 (Wx116.alloc (.cells #[.int .i64 y, .int .i64 z] 36)):=(a0d _ Wx116).alloc (a0e _) _;have sC:(Wx116.alloc (.cells #[.int .i64 y, .int .i64 z] 36)).heap[R+1]? =some (.cells #[.int .i64 y, .int .i64 z] 36 (0,0)):=by rw [<- nf];exact a0b Wx116 _
             have mc:=hX.trans (ag.of_below g6);have s3:=jb.block (g6.block m (jb.lt));have rW:=(g6.block (m+1) (ae kl)).trans kl;generalize Wx116.alloc (.cells #[.int .i64 y, .int .i64 z] 36)=Wx127 at *;refine s _ _ (λ_=>mc) ?_;clear s K;go_simp;refine dO 18 rfl λK s=>?_;obtain ⟨xv,vN,v0,hA⟩:=x3 Wx127 (.slice (some ⟨R+1,0,none⟩) 1 1) rW;refine aW rfl vN ?_;have md:=mc.trans (ag.of_only hA (.inr rfl));have s4:=s3.block (hA.block m (a8.2));have sM:=(hA.block (R+1) (ay.2)).trans sC;refine s _ _ (λ_=>md) ?_;clear s K;go_simp;refine dN ?_;go_wp2_with fail
             go_meet;exact ⟨rfl,da _ md s4 v0 sM⟩
      case rest=>
       obtain ⟨rfl,dz,cg,iF,d6,iD⟩:=hcut;have e9:q<H.length:=by rw [fp.out];exact bk
       have g0:Hid (H.take (q+1)=H.take q++[H[q]]):=List.take_succ_eq_append_getElem e9;have bc:H[q].1=(y,z):=by
        rw [<- dd.out,dA bk];have h2:=ft.out;have:L[q]=(H[q].1,H[q].2.1):=by
         have:=a0u (l:=H) (f:=λp:RK×VX=>(p.1,p.2.1)) (i:=q) (h:=by rw [a0c];exact e9);rw [<- this];congr 1
         exact h2.symm
        rw [this]
       have cz:=pe _ (a0o e9);have gy:=fr _ (a0o e9);obtain ⟨p,I⟩:∃p,H[q]=p:=⟨_,rfl⟩;rw [I] at g0 bc cz gy;obtain ⟨pk,⟨d5,r⟩,x⟩:=p;dsimp only at bc;subst bc;obtain ⟨_,_,kx,_,_⟩:=j1 _ gy;obtain ⟨xa,xc,b5⟩:=kx.shape;dsimp only at b5 cz;subst b5;clear kx I gy;obtain ⟨rk,rl,fs⟩:=r;dsimp only at cz g0;have qb:Hid ((recX (H.take (q+1))).flatMap rdCells=(recX (H.take q)).flatMap rdCells++[.int .u8 rk.toNat, .int .u8 rl.toNat, .slice xa fs.length xc]):=by unfold Hid recX;rw [g0.out,List.map_append,List.flatMap_append];rfl
       have x7:=dz.los;have y6:R<wc.heap.size:=ae iD.out;have n6:∀{g:Nat},(a0q ao q ko).ownBlock=some g->∃cu,wc.heap[g]? =some (.cells cu 62 (0,0)):=λ{g} u=>aD cg.out u;have nN:Hid (∀W,wc.grownBy W (a0q ao q ko).ownBlock->W.cell? ⟨w.heap.size,0,none⟩=some (.pointer (some ⟨c,0,none⟩))/\W.cell? ⟨c,0,none⟩=some (.map J)/\(W.cell? ⟨R,0,none⟩=some (.int .i64 y)/\W.cell? ⟨R,1,none⟩=some (.int .i64 z))/\(a0l 113 (.map J) (.agg #[.int .i64 y, .int .i64 z]) false).run a0h W= .ok (.agg #[.int .i64 y, .int .i64 z, .int .i64 d5, .int .u8 rk.toNat, .int .u8 rl.toNat, .slice xa fs.length xc]) W):=λW hW=>by
        have D:∀{g:Nat} {cs:Array Value} {ty:TypeId},wc.heap[g]? =some (.cells cs ty (0,0))->ty≠62->W.heap[g]? =some (.cells cs ty (0,0)):=λ{g cs ty} u vb=>(hW.block g (ae u) (λe=>by obtain ⟨cu,al⟩:=n6 e.symm;exact dj u al vb rfl)).trans u
        have V:=D dz.vc (by decide);have X:=D dz.cat.blk (by decide);have b3:=D iD.out (by decide);refine ⟨(aa V 0).trans rfl,(aa X 0).trans rfl,⟨(aa b3 0).trans rfl,(aa b3 1).trans rfl⟩,?_⟩;have ue:cj recB W J (ps.map λp=>(p.1,iz p.1 p.2)):=by refine pz.block (λb O=>?_);have tl:=HM.f1 b O;have ks:=HM.lt b tl;have h1:=d6.block b ks;refine (hW.block b (Nat.lt_of_lt_of_le ks d6.size) (λe=>?_)).trans h1;have:=(cg.lt b e.symm).1;omega
        have:=cj.look (w:=W) ue Tryz.underlying113 ki (y,z) pd.out;rw [fB,cz] at this;exact this
       have gp:=λW=>vm y z d5 rk.toNat rl.toNat xa fs.length xc W;obtain ⟨iN,kz,n8,n9,ne⟩:=info_parts i62;have HI:=a0a kz;have nO:=a0a n8;have oa:=a0a n9;have ob:=a0a ne;clear cz n6 kz n8 n9 ne;go_wp2_with fail
       have gs:wc.grownBy wc.drew (a0q ao q ko).ownBlock:=⟨rfl,rfl,rfl,a0e _,λ_ _ _=>rfl⟩;refine wT (λW=>wc.grownBy W (a0q ao q ko).ownBlock) 999 ?_;have Z:=tkL [0,1,5,2,3,4,6];repeat (refine tkIS Z ?_ rfl gs ?_ ?_;rotate_left;intro w' h;obtain ⟨h0,h1,⟨h2,h3⟩,hl⟩:=nN w' h;go_simp;rfl;(try go_simp);replace Z:=tkO Z)
       clear Z;refine tkS 7 ?_ rfl gs ?_ ?_;rotate_left;intro w' h;have hf:=gp w';go_simp;rfl;try go_simp
       refine dO 8 rfl λK s=>?_;go_simp;have ky:wc.grownBy (wc.drew.alloc (.cells #[.int .u8 rk.toNat, .int .u8 rl.toNat, .slice xa fs.length xc] 62)) (a0q ao q ko).ownBlock:=gs.trans ((World.grownBy_alloc _ _ none).but _);refine s _ _ (λ_=>ky) ?_;clear s K;refine dO 9 rfl λK s=>?_;obtain ⟨v',w7,d1,lv,tx,_,_⟩:=run_append_own_at (P:=a0h) (wc.drew.alloc (.cells #[.int .u8 rk.toNat, .int .u8 rl.toNat, .slice xa fs.length xc] 62)) A 59 59 62 iN (.agg #[.int .u8 0, .int .u8 0, .slice none 0 0]) 3 32 Tryz.underlying59 HI.out nO.out oa.out ob.out rfl (by decide) (.slice ao q ko) q _ (World.ownsRow.alloc (w:=wc.drew) cg.out _) ⟨wc.drew.heap.size,0,none⟩ 1 1 [.int .u8 rk.toNat, .int .u8 rl.toNat, .slice xa fs.length xc] rfl (lz wc.drew _ _ _ 62) (by simp [Value.oneCell']) (by unfold maxLen;omega) (by omega) (by have:=x7.2.2.2.2.2.2.2;simp;show A<=wc.heap.size+1;omega);refine kj rfl rfl rfl d1 ?_;obtain ⟨y4,zp,rfl⟩:=aK lv;have b9:=ky.trans tx;refine s _ _ (λ_=>b9) ?_;clear s K;go_simp;refine tkS 10 ?_ rfl b9 ?_ ?_;rotate_left;intro w' h;go_simp;rfl;try go_simp
       refine dN ?_;go_wp2_with fail
       have gx:∀p,p<wc.heap.size->(p<A∨∀c,wc.heap[p]? ≠some (Obj.cells c 62 (0,0)))->w7.heap[p]? =wc.heap[p]? :=λp I h=>b9.block p I (λe=>by
        rcases h with h|h
        · have:=(cg.lt p e.symm).1;omega
        · obtain ⟨cu,al⟩:=aD cg.out e.symm;exact h cu al)
       go_roundw
       case rel=>
        refine ⟨q+1,hlt,by go_num,dz.out.keep (by decide) (by decide) (by decide) (by decide) gx b9.size,?_,ah iF.out (λg u=>?_),d6.out.trans ⟨b9.os,b9.tape,b9.output,b9.size,λp I=>gx p (Nat.lt_of_lt_of_le I d6.out.size) (.inl (by have:=b4.out;omega))⟩⟩
        · unfold Hid;rw [qb.out];exact lv
        · obtain ⟨cu,al⟩:=aD iF.out u;exact gx g (ae al) (.inr λc e=>by rw [al] at e;injection e with e;injection e with _ e;exact absurd e (by decide))
       case measure=>simp [intOf];omega
    · obtain rfl:q=n:=by omega
      have n4:L.take q=L:=a0p (by rw [au.out];omega);have n5:H.take q=H:=a0p (by rw [fp.out,au.out];omega);rw [n4] at C;rw [n5] at a4;clear n4 n5 hlt hq;obtain ⟨Q,d0⟩:∃Q,d.ps.map (·.1)=Q:=⟨_,rfl⟩;have e8:Q.length<=5000:=by rw [<- d0,a0c];exact HM.out.ok.plen
      have ax:a0j wr.heap.size wr (wr.alloc (.cells #[.map E] 115)):=(a0d _ wr).alloc (a0e _) _;have i6:=uU 8 (by omega) wr.heap.size E (d.ps.map λp=>(p.1,fR p.2)) (wr.alloc (.cells #[.map E] 115)) (by rw [a0z];rfl) (C.out.cat.ps.block (λb O=>ax.block b (C.out.cat.lt b (C.out.cat.f3 b O)))) (λb O=>by have:=C.out.cat.lt b (C.out.cat.f3 b O);simp;omega);have lf:(d.ps.map λp=>(p.1,fR p.2)).map (·.1)=Q:=by rw [a0B, <- d0];rfl
      rw [lf] at i6;have j4:=a0a (ux 10 (by omega) 121 #[.pointer (some ⟨wr.heap.size,0,none⟩)] (enters_of Tryz.func121 (by kernel_rfl) rfl) Q (by omega) _ _ (λzz x hx=>by have:=hx.1;rw [a0c] at this;have:=HM.out.ok.plen;omega) _ i6);have n0:cM ltPK Q=Q:=by refine cH dm (.refl _) ?_;have hs:=HM.ok.ok.ps;unfold aw at hs;rw [<- d0,List.pairwise_map];exact hs
      rw [n0] at j4;have oc:=a0a (yY E wr);have cv:=(aa C.vc 0).trans rfl;have c2:wr.cell? ⟨c,2,none⟩=some (.map E):=(aa C.cat.blk 2).trans rfl;have eQ:=a0a ax;have fx:=a0a d0;clear i6 lf n0 ax d0;obtain ⟨ao,ko,rfl⟩:=aK a4.out
      go_upto_region 16 with (first
       |(go_at_call 66;((with_reducible refine a0i oc.out ?_);rintro e w4 ⟨rfl,rfl⟩))
       |(go_at_call 65;((with_reducible refine a0i j4.out ?_);rintro e w5 ⟨v5,rfl,hQ,b8⟩;obtain ⟨a5,k5,rfl⟩:=aK hQ;have q4:=a0a hQ;have nz:=a0a b8;clear hQ b8)))
      have b8:a0j wr.heap.size wr w5:=eQ.trans (nz.mono eQ.size);have qt:Hid (UN w.heap.size A F w5 (m+3) w.heap.size (m+2) m (m+1) c J T E (.pointer none) d L (kG d.ps L (d.ps.take 0))):=by have h:=C.below b8;rw [<- au.out] at h;exact h
      have qe:Hid (w5.ownsRow A 62 3 (.slice ao q ko) q ((recX H).flatMap rdCells)):=ah a4.out (λg u=>b8.block g (a4.lt g u).2);have ov:Hid (w5.ownsRow M.heap.size 36 2 (.slice a3 q k3) q ((L.map (·.1)).flatMap rkCells)):=ah N.out (λg u=>b8.block g (N.lt g u).2);have nE:Hid (a0j w.heap.size w w5):=U.trans (b8.mono U.size);have q5:Hid (w5.ownsRow A 134 4 (.slice a5 Q.length k5) Q.length (Q.flatMap pkCells)):=bE q4.out (by have:=C.out.los.2.2.2.2.2.2.2;have:=eQ.out.size;omega);clear b8 C a4 N U cv c2;go_loopw [76] (λi wr=>∃j:Nat,j<=Q.length/\i= .int .i64 j/\Hid (UN w.heap.size A F wr (m+3) w.heap.size (m+2) m (m+1) c J T E (.pointer none) d L (kG d.ps L (d.ps.take j)))/\Hid (wr.ownsRow A 62 3 (.slice ao q ko) q ((recX H).flatMap rdCells))/\Hid (wr.ownsRow M.heap.size 36 2 (.slice a3 q k3) q ((L.map (·.1)).flatMap rkCells))/\Hid (wr.ownsRow A 134 4 (.slice a5 Q.length k5) Q.length (Q.flatMap pkCells))/\Hid (a0j w.heap.size w wr)) (λi _=>Q.length - (intOf i).toNat)
      case atStart=>exact ⟨0,a0r _,rfl,qt.out,qe.out,ov.out,q5.out,nE.out⟩
      case round=>
       obtain ⟨j,hj,rfl,C,a4,N,a9,U⟩:=hrel;by_cases hlj:j<Q.length
       · have l3:j<d.ps.length:=by rw [<- fx.out,a0c] at hlj;exact hlj
         obtain ⟨g5,z9,bB,_⟩:=a0m a9.out (by omega);cases bB;have lE:Q[j]=d.ps[j].1:=by simp [<- fx.out]
         have a0:∀i,i<4->wr.cell? ⟨g5,j * 4+i,none⟩=(pkCells d.ps[j].1)[i]? :=λi hi=>by rw [a9.out.cellAt (j * 4+i) (by omega),de pkCells 4 (λ_=>rfl) _ j hlj i hi,lE]
         have aC:=a0a (uD d.ps L j l3);have h7:=a0o l3;have bc:=HM.ok.pkey _ h7;have gq:findK d.ps d.ps[j].1=some d.ps[j].2:=(eA dm HM.ok.ok.ps).2 h7;obtain ⟨p,I⟩:∃p,d.ps[j]=p:=⟨_,rfl⟩;rw [I] at a0 aC bc gq;clear I h7 lE;obtain ⟨⟨⟨a1,a2⟩,V,X⟩,d5,jn⟩:=p;dsimp only at bc gq aC a0;have e0:wr.cell? ⟨g5,j * 4,none⟩=some (.int .i64 a1):=(a0 0 (by omega)).trans rfl;have e1:wr.cell? ⟨g5,j * 4+1,none⟩=some (.int .i64 a2):=(a0 1 (by omega)).trans rfl;have e2:wr.cell? ⟨g5,j * 4+2,none⟩=some (.int .i64 V):=(a0 2 (by omega)).trans rfl;have e3:wr.cell? ⟨g5,j * 4+3,none⟩=some (.int .i64 X):=(a0 3 (by omega)).trans rfl;clear a0;obtain ⟨o,a6⟩:∃o,wr.alloc (.cells #[.int .i64 a1, .int .i64 a2, .int .i64 V, .int .i64 X] 134)=o:=⟨_,rfl⟩;have Y:a0j wr.heap.size wr o:=by rw [<- a6];exact (a0d _ wr).alloc (a0e _) _
         have hF:o.heap[wr.heap.size]? =some (.cells #[.int .i64 a1, .int .i64 a2, .int .i64 V, .int .i64 X] 134 (0,0)):=by rw [<- a6];exact a0b wr _
         obtain ⟨R,ad⟩:∃R,wr.heap.size=R:=⟨_,rfl⟩;rw [ad] at hF;have ac:=a0a (C.below Y);have dx:Hid (o.ownsRow A 62 3 (.slice ao q ko) q ((recX H).flatMap rdCells)):=ah a4.out (λg u=>Y.block g (a4.lt g u).2);have b0:Hid (o.ownsRow M.heap.size 36 2 (.slice a3 q k3) q ((L.map (·.1)).flatMap rkCells)):=ah N.out (λg u=>Y.block g (N.lt g u).2);have b6:Hid (o.ownsRow A 134 4 (.slice (some ⟨g5,0,none⟩) Q.length k5) Q.length (Q.flatMap pkCells)):=ah a9.out (λg u=>Y.block g (a9.lt g u).2);have bt:Hid (a0j w.heap.size w o):=U.trans (Y.mono U.size);have cp:=a0a a6;have c6:=a0a ad;have HF:=a0a hF;clear a6 Y hF ad C a4 N a9 U;have d8:Hid (∀W,a0j o.heap.size o W->W.cell? ⟨w.heap.size,0,none⟩=some (.pointer (some ⟨c,0,none⟩))/\W.cell? ⟨c,2,none⟩=some (.map E)/\(W.cell? ⟨R,0,none⟩=some (.int .i64 a1)/\W.cell? ⟨R,1,none⟩=some (.int .i64 a2)/\W.cell? ⟨R,2,none⟩=some (.int .i64 V)/\W.cell? ⟨R,3,none⟩=some (.int .i64 X))/\(a0l 115 (.map E) (.agg #[.int .i64 a1, .int .i64 a2, .int .i64 V, .int .i64 X]) false).run a0h W= .ok (.agg #[.int .i64 d5, .bool jn]) W):=λW O=>by have hu:=ac.below O;have e2:=mn ((O.block _ (ae HF.out)).trans HF.out);refine ⟨(aa hu.vc 0).trans rfl,(aa hu.cat.blk 2).trans rfl,e2,?_⟩;have:=cj.look (w:=W) hu.cat.ps Tryz.underlying115 gB ((a1,a2),V,X) bc;rw [fB d.ps (λ_ v=>fR v),gq] at this;exact this
         go_upto_region 18 with fail
         rw [cp.out,c6.out];clear e0 e1 e2 e3;have gp:=λW=>sR d5 jn W;go_wp2_with fail
         have bA:a0j o.heap.size o o.drew:=(a0d _ o).drew;refine wT (λW=>a0j o.heap.size o W) 999 ?_;have Z:=tkL [0,1,2,3,4,5];repeat (refine tkIS Z ?_ rfl bA ?_ ?_;rotate_left;intro w' h;obtain ⟨h0,h1,⟨h2,h3,h4,h5⟩,hl⟩:=d8 w' h;go_simp;rfl;(try go_simp);replace Z:=tkO Z)
         clear Z;refine tkS 6 ?_ rfl bA ?_ ?_;rotate_left;intro w' h;have hf:=gp w';go_simp;rfl;try go_simp
         refine dN ?_;rcases jn with _|_
         · have cm:Hid (UN w.heap.size A F o.drew (m+3) w.heap.size (m+2) m (m+1) c J T E (.pointer none) d L (kG d.ps L (d.ps.take (j+1)))):=by unfold Hid;rw [aC.out,if_neg (by decide)];exact ac.below bA
           go_wp2_with fail
           go_roundw
           case rel=> exact ⟨j+1,hlj,by go_num,cm,dx,b0,b6,bt.trans (a0d _ o).drew⟩
           case measure=>simp [intOf];omega
         · have c4:=pp w.heap.size A F o.drew (m+3) w.heap.size (m+2) m (m+1) c J T E (.pointer none) d L (kG d.ps L (d.ps.take j)) (ac.below bA) ((a1,a2),V,X) bc;dsimp only [pairV] at c4;have g1:=a0a c4;obtain ⟨_,_,⟨f0,f1,f2,f3⟩,_⟩:=d8 _ bA;clear c4;go_wp2_with (go_at_call 78;((with_reducible refine a0i g1.out ?_);rintro e w6 ⟨rfl,d2,cx,cy⟩;have g2:=a0a d2;have er:=a0a cx;have bv:=a0a cy;clear d2 cx cy))
           have cc:=b4.out;have cm:Hid (UN w.heap.size A F w6 (m+3) w.heap.size (m+2) m (m+1) c J T E (.pointer none) d L (kG d.ps L (d.ps.take (j+1)))):=by unfold Hid;rw [aC.out,if_pos (by decide)];exact g2.out
           go_roundw
           case rel=>
            refine ⟨j+1,hlj,by go_num,cm,ah dx.out (λg u=>?_),ah b0.out (λg u=>?_),ah b6.out (λg u=>?_),(bt.trans (a0d _ o).drew).trans er.out⟩
            · have hl:=dx.lt g u;obtain ⟨cu,al⟩:=aD dx.out u;exact bv.out g hl.2 (by omega) (by omega) (.inr λc2 e=>by rw [show o.drew.heap[g]? =o.heap[g]? from rfl,al] at e;injection e with e;injection e with _ e;exact absurd e (by decide))
            · have hl:=b0.lt g u;have ld:=ds.lt g u;rw [f6.out] at ld;have d4:=c9.out;exact bv.out g hl.2 (by omega) (by omega) (.inl ld.2)
            · have hl:=b6.lt g u;obtain ⟨cu,al⟩:=aD b6.out u;exact bv.out g hl.2 (by omega) (by omega) (.inr λc2 e=>by rw [show o.drew.heap[g]? =o.heap[g]? from rfl,al] at e;injection e with e;injection e with _ e;exact absurd e (by decide))
           case measure=>simp [intOf];omega
       · have gz:j=Q.length:=by omega
         subst gz;have lB:d.ps.take Q.length=d.ps:=a0p (by rw [<- fx.out,a0c];exact a0e _);rw [lB] at C;clear lB hlj hj a9;obtain ⟨xs,b5⟩:∃xs,recX H=xs:=⟨_,rfl⟩;have cb:xs.length=q:=by rw [<- b5];unfold recX;rw [a0c,fp.out,au.out]
         rw [b5] at a4;have ma:lL wr (.slice ao q ko) xs:=by refine ⟨by rw [cb];exact (bm a4.out).mono (a0r _) (a0e _),λp I=>?_⟩;rw [<- b5] at I;obtain ⟨p',hJ,rfl⟩:=List.mem_map.1 I;obtain ⟨zs,y9,f1,f2,f3⟩:=j1 p' (fr p' hJ);exact (f1.kept (λk a b=>U.block k (HM.lt k (f3 k a b).1))).mono (a0r _) (a0k f2 U.size)
         have mP:∀p∈xs,bL p.1.fields:=λp I=>by
          rw [<- b5] at I;obtain ⟨p',hJ,rfl⟩:=List.mem_map.1 I;have hm:(p'.1,p'.2.1)∈d.vs:=by rw [<- py.out];exact List.mem_map.2 ⟨p',fr p' hJ,rfl⟩
          exact (eF (HM.ok.right _ hm)).2.2
         obtain ⟨G,cQ⟩:∃G,pairsR (L.map λp=>p.2.2)=G:=⟨_,rfl⟩;have n7:pairsR (xs.map (·.1))=G:=by rw [<- cQ, <- b5, <- ft.out];unfold recX;rw [a0B,a0B];rfl
         have hO:=wR wr (.slice ao q ko) xs ma (by rw [cb];exact e7) mP;rw [n7] at hO;have pt:=a0a hO;have px:=a0a cQ;have z4:G.length<=1000000:=by rw [<- cQ];have h1:=uO (L.map λp=>p.2.2);rw [a0c,au.out] at h1;exact a0k h1 (a0k (Nat.mul_le_mul e7 e7) (by decide))
         have pf:Hid (∀(j:Nat) (h:j<G.length),(G[j]).1<L.length/\(G[j]).2<L.length):=λj h=>by have:=kP (l:=L.map λp=>p.2.2) G[j] (by rw [cQ];exact a0o h);rwa [a0c] at this
         clear ma mP hO n7 cQ cb b5;go_upto_region 22 with (go_at_call 79;((with_reducible refine a0i pt.out ?_);rintro e w7 ⟨v7,rfl,d1,kd⟩;obtain ⟨a7,k7,rfl⟩:=aK d1;have q6:=a0a d1;have ex:=a0a kd;clear d1 kd))
         have qv:Hid (UN w.heap.size A F w7 (m+3) w.heap.size (m+2) m (m+1) c J T E (.pointer none) d L (nU d.ps L (G.take 0))):=C.below ex.out;have oF:Hid (w7.ownsRow M.heap.size 36 2 (.slice a3 q k3) q ((L.map (·.1)).flatMap rkCells)):=ah N.out (λg u=>ex.block g (N.lt g u).2);have nF:Hid (a0j w.heap.size w w7):=U.trans (ex.mono U.size);have q7:Hid (w7.ownsRow A 67 2 (.slice a7 G.length k7) G.length (G.flatMap dw)):=bE q6.out C.los.2.2.2.2.2.2.2;clear C N U a4;go_loopw [94] (λi wr=>∃j:Nat,j<=G.length/\i= .int .i64 j/\Hid (UN w.heap.size A F wr (m+3) w.heap.size (m+2) m (m+1) c J T E (.pointer none) d L (nU d.ps L (G.take j)))/\Hid (wr.ownsRow M.heap.size 36 2 (.slice a3 q k3) q ((L.map (·.1)).flatMap rkCells))/\Hid (wr.ownsRow A 67 2 (.slice a7 G.length k7) G.length (G.flatMap dw))/\Hid (a0j w.heap.size w wr)) (λi _=>G.length - (intOf i).toNat)
         case atStart=>exact ⟨0,a0r _,rfl,qv.out,oF.out,q7.out,nF.out⟩
         case round=>
          obtain ⟨j,hj,rfl,C,N,a9,U⟩:=hrel;by_cases hlj:j<G.length
          · obtain ⟨bO,bY⟩:=pf j hlj;have aC:=a0a (uC d.ps cl.out G j hlj bO bY);have bk:0<q:=by rw [<- au.out];omega
            obtain ⟨g7,zd,bB,_⟩:=a0m a9.out (by omega);cases bB;obtain ⟨B,xb,bB,_⟩:=a0m N.out bk;cases bB;have a0:∀i,i<2->wr.cell? ⟨g7,j * 2+i,none⟩=(dw G[j])[i]? :=λi hi=>by rw [a9.out.cellAt (j * 2+i) (by omega),de dw 2 (λ_=>rfl) _ j hlj i hi]
            have cP:∀a,a<L.length->∀i,i<2->wr.cell? ⟨B,a * 2+i,none⟩=(rkCells (keyC L a))[i]? :=λa ha i hi=>by
             have e8:a<(L.map (·.1)).length:=by rw [a0c];exact ha
             rw [N.out.cellAt (a * 2+i) (by rw [<- au.out];omega),de rkCells 2 (λ_=>rfl) _ a e8 i hi,a0u,dA ha]
            obtain ⟨p,I⟩:∃p,G[j]=p:=⟨_,rfl⟩;rw [I] at bO bY aC a0;clear I;obtain ⟨pa,pb⟩:=p;dsimp only at bO bY aC;have l4:=dc pa bO;have e5:=dc pb bY;have x0:=cP pa bO 0 (by omega);have x1:=cP pa bO 1 (by omega);have y0:=cP pb bY 0 (by omega);have y1:=cP pb bY 1 (by omega);rw [au.out] at bO bY;obtain ⟨ka,l5⟩:∃k,keyC L pa=k:=⟨_,rfl⟩;obtain ⟨kb,l7⟩:∃k,keyC L pb=k:=⟨_,rfl⟩;rw [l5] at x0 x1 l4 aC;rw [l7] at y0 y1 e5 aC;clear l5 l7 cP;obtain ⟨a1,a2⟩:=ka;obtain ⟨V,X⟩:=kb;have x0:wr.cell? ⟨B,pa * 2,none⟩=some (.int .i64 a1):=x0;have x1:wr.cell? ⟨B,pa * 2+1,none⟩=some (.int .i64 a2):=x1;have y0:wr.cell? ⟨B,pb * 2,none⟩=some (.int .i64 V):=y0;have y1:wr.cell? ⟨B,pb * 2+1,none⟩=some (.int .i64 X):=y1;have e0:wr.cell? ⟨g7,j * 2,none⟩=some (.int .i64 (pa:Int)):=(a0 0 (by omega)).trans rfl;have e1:wr.cell? ⟨g7,j * 2+1,none⟩=some (.int .i64 (pb:Int)):=(a0 1 (by omega)).trans rfl;clear a0;obtain ⟨o,a6⟩:∃o,wr.alloc (.cells #[.int .i64 (pa:Int), .int .i64 (pb:Int)] 67)=o:=⟨_,rfl⟩;have Y:a0j wr.heap.size wr o:=by rw [<- a6];exact (a0d _ wr).alloc (a0e _) _
            have hF:o.heap[wr.heap.size]? =some (.cells #[.int .i64 (pa:Int), .int .i64 (pb:Int)] 67 (0,0)):=by rw [<- a6];exact a0b wr _
            obtain ⟨R,ad⟩:∃R,wr.heap.size=R:=⟨_,rfl⟩;rw [ad] at hF;have gt:B<wr.heap.size:=(N.lt B rfl).2;have aT:∀i,o.cell? ⟨B,i,none⟩=wr.cell? ⟨B,i,none⟩:=λi=>a0A (a:=⟨B,i,none⟩) (Y.block B gt);have X0:=a0a ((aT _).trans x0);have X1:=a0a ((aT _).trans x1);have Y0:=a0a ((aT _).trans y0);have Y1:=a0a ((aT _).trans y1);have ac:=a0a (C.below Y);have b0:Hid (o.ownsRow M.heap.size 36 2 (.slice (some ⟨B,0,none⟩) q k3) q ((L.map (·.1)).flatMap rkCells)):=ah N.out (λg u=>Y.block g (N.lt g u).2);have b6:Hid (o.ownsRow A 67 2 (.slice (some ⟨g7,0,none⟩) G.length k7) G.length (G.flatMap dw)):=ah a9.out (λg u=>Y.block g (a9.lt g u).2);have bt:Hid (a0j w.heap.size w o):=U.trans (Y.mono U.size);have cp:=a0a a6;have c6:=a0a ad;have HF:=a0a hF;have qc:=a0a C.los.2.2.2.2.2.2.2;clear a6 Y hF ad C N a9 U x0 x1 y0 y1 aT gt;go_upto_region 24 with fail
            rw [cp.out,c6.out];clear e0 e1;have bA:a0j o.heap.size o o.drew:=(a0d _ o).drew;have c4:=pp w.heap.size A F o.drew (m+3) w.heap.size (m+2) m (m+1) c J T E (.pointer none) d L (nU d.ps L (G.take j)) (ac.below bA) ((a1,a2),V,X) ⟨l4,e5⟩;dsimp only [pairV] at c4;have g1:=a0a c4;clear c4;have f4:Hid (B<A):=by have h3:=ds.lt B rfl;rw [f6.out] at h3;exact h3.2
            have d8:Hid (∀W:a0s,(W.heap[R]? =o.heap[R]? /\W.heap[B]? =o.heap[B]?)->(W.cell? ⟨R,0,none⟩=some (.int .i64 (pa:Int))/\W.cell? ⟨R,1,none⟩=some (.int .i64 (pb:Int)))/\W.cell? ⟨B,pa * 2,none⟩=some (.int .i64 a1)/\W.cell? ⟨B,pa * 2+1,none⟩=some (.int .i64 a2)/\W.cell? ⟨B,pb * 2,none⟩=some (.int .i64 V)/\W.cell? ⟨B,pb * 2+1,none⟩=some (.int .i64 X)):=λW O=>by have kq:=O.1.trans HF.out;have aT:∀i,W.cell? ⟨B,i,none⟩=o.cell? ⟨B,i,none⟩:=λi=>a0A (a:=⟨B,i,none⟩) O.2;exact ⟨⟨(aa kq 0).trans rfl,(aa kq 1).trans rfl⟩,(aT _).trans X0.out,(aT _).trans X1.out,(aT _).trans Y0.out,(aT _).trans Y1.out⟩
            have td:o.drew.heap[R]? =o.heap[R]? /\o.drew.heap[B]? =o.heap[B]? :=⟨rfl,rfl⟩;have i1:(pa:Int)<(q:Int):=by omega
            have i2:(pb:Int)<(q:Int):=by omega
            go_wp2_with fail
            refine wT (λW=>W.heap[R]? =o.heap[R]? /\W.heap[B]? =o.heap[B]?) 999 ?_;have Z:=tkL [0,1,2,3,4,5,6,7,8,9,10,11];repeat (refine tkIS Z ?_ rfl td ?_ ?_;rotate_left;intro w' h;obtain ⟨⟨h0,h1⟩,h2,h3,h4,h5⟩:=d8 w' h;go_simp;rfl;(try go_simp);replace Z:=tkO Z)
            clear Z;refine dO 12 rfl λK s=>?_;go_simp;go_at_call 78;with_reducible refine a0i g1.out ?_
            rintro e w6 ⟨rfl,d2,cx,cy⟩;have g2:=a0a d2;have er:=a0a cx;have bv:=a0a cy;clear d2 cx cy;have cc:=b4.out;have d4:=c9.out;have le:=b0.lt B rfl;have tc:R<o.heap.size:=ae HF.out;have y7:A<=R:=by rw [<- c6.out];exact qc.out
            have k6:w6.heap[R]? =o.heap[R]? /\w6.heap[B]? =o.heap[B]? :=
             ⟨bv.out R tc (by omega) (by omega) (.inr λc2 e=>by rw [show o.drew.heap[R]? =o.heap[R]? from rfl,HF.out] at e;injection e with e;injection e with _ e;exact absurd e (by decide)),
              bv.out B le.2 (by omega) (by omega) (.inl f4.out)⟩
            refine s _ _ (λ_=>k6) ?_;clear s K;refine dN ?_;have cm:Hid (UN w.heap.size A F w6 (m+3) w.heap.size (m+2) m (m+1) c J T E (.pointer none) d L (nU d.ps L (G.take (j+1)))):=by unfold Hid;rw [aC.out];exact g2.out
            go_wp2_with fail
            go_roundw
            case rel=>
             refine ⟨j+1,hlj,by go_num,cm,ah b0.out (λg u=>?_),ah b6.out (λg u=>?_),(bt.trans (a0d _ o).drew).trans er.out⟩
             · injection u with u
               subst u;exact k6.2
             · have hl:=b6.lt g u;obtain ⟨cu,al⟩:=aD b6.out u;exact bv.out g hl.2 (by omega) (by omega) (.inr λc2 e=>by rw [show o.drew.heap[g]? =o.heap[g]? from rfl,al] at e;injection e with e;injection e with _ e;exact absurd e (by decide))
            case measure=>simp [intOf];omega
          · have gz:j=G.length:=by omega
            subst gz;rw [List.take_length, <- px.out, <- HL.out] at C;have c7:Hid (UN w.heap.size A F wr (m+3) w.heap.size (m+2) m (m+1) c J T E (.pointer none) d (thereC d) (setsC d)):=by have h:=C.out;rw [uB] at h;exact h
            clear C N a9 hlj hj;obtain ⟨l6,gQ,mp⟩:=c7.sortI;have c0:=(aa c7.vt 0).trans rfl;have c1:=(aa c7.tb 1).trans rfl;obtain ⟨ws,rfl⟩:∃ws,ws=wr:=⟨_,rfl⟩;obtain ⟨R6,cq⟩:∃R6,ws.heap.size=R6:=⟨_,rfl⟩;have p4:=a0a gQ;have j3:=a0a mp;have f8:=a0a c7.los.2.2.2.2.2.2.2;have lp:=gQ.nodup;have pc:=a0a lp;clear gQ mp lp;go_upto_region 27 with (refine my _ rfl _ _ rfl 52 Tryz.underlying93 (m+1) _ rfl p4.out ?_;intro w8 hR kk z6;rw [cq] at hR;have qa:=a0a hR;have iv:=a0a kk;clear hR kk)
            have qf:Hid (fg A R6 w8 l6 l6 (thereC d) (setsC d)):=by have h:=j3.out;rw [cq] at h;exact h.far (λk v hv g u=>iv.out.block g (by rw [cq];exact h.lt k v hv g u))
            have oi:Hid (fi A ws w8):=fi.of iv.out f8.out;have cd:=a0a cq;clear c0 c1 j3 cq;go_simp;go_loopg [] (l6.length+1) (λg wr=>∃left:List (RK×Value),left.length<g/\Hid (cf recB wr (m+1) R6 l6 left)/\Hid (fg A R6 wr l6 left (thereC d) (setsC d))/\Hid (fi A ws wr))
            case atStart=>exact ⟨l6,by omega,qa,qf,oi⟩
            case round=>
             obtain ⟨left,le,HR,HS,f5⟩:=hrel;rw [<- cd.out] at HR;go_wp2_with (refine ph _ rfl _ rfl (m+1) ws.heap.size l6 left rfl HR.out ?_ ?_)
             · intro tz;subst tz;have cc:=b4.out;have hu:=c7.out;have D:=f5.out;have kt:=hu.cat.blk;have tr:c<A:=by omega
               have V:=(D.b.block c tr).trans kt;have X:=(D.b.block w.heap.size (by omega)).trans hu.vc;have b3:=(D.b.block (m+3) (by omega)).trans hu.vt;have c1:wr.cell? ⟨w.heap.size,0,none⟩=some (.pointer (some ⟨c,0,none⟩)):=(aa X 0).trans rfl;have c2:wr.cell? ⟨m+3,0,none⟩=some (.pointer (some ⟨m+2,0,none⟩)):=(aa b3 0).trans rfl;have c3:wr.cell? ⟨c,3,none⟩=some (.pointer none):=(aa V 3).trans rfl;have f3:=ab V 3;have ys:w.heap.size≠c:=by omega
               have z0:m+3≠c:=by omega
               have hD:=UN.done c7.out rfl rfl f5.out HR.map HS.out;have HD:=a0a hD;have n1:ag F w F (wr.setCell ⟨c,3,none⟩ (.pointer (some ⟨m+2,0,none⟩))):=(ag.of_below (U.out.trans (D.b.mono (by omega)))).trans (ag.of_only (aq.setCell (aq.refl c wr) 3 _) HM.out.fc);have bw:=a0a n1;clear hD n1 V X b3 kt hu D cc;go_wp2_with fail
               refine a0w (results_tmp rfl _ _ _) rfl ⟨m+2,_,J,T,E,rfl,HD.1,HD.2,?_⟩;exact ⟨bw.os,bw.tape,bw.output,bw.size,bw.block,λk D=>D.imp id (λh=>h.1)⟩
             · intro y z pv w9 I vd lQ tO h9 ts;have n3:left.Sublist l6:=by obtain ⟨es,f,y5,h1,h2,h3,h4,_⟩:=HR.out;exact h4
               have e6:lookL l6 (y,z)=some pv:=(bu pc.out).2 (n3.subset I);have em:fg A R6 w9 l6 left (thereC d) (setsC d):=HS.out.far (λk v hv g u=>h9.block g (by have:=HS.out.lt k v hv g u;have:=cd.out;omega));obtain ⟨t,xs,ht,rt,la,eg,hN⟩:=em.at e6;have cb:xs.length<=1000000:=by have h1:=hN.length_eq;have h2:=jv (thereC d) (setsC d) t;rw [HL.out,au.out] at h2;rw [HL.out] at h1;omega
               have nx:=a0a (pI A w9 pv xs eg cb);have qd:=a0a eg;have qk:=a0a em;have oj:Hid (fi A ws w9):=f5.only h9 (a0e _) f8.out;have j2:Hid (∀g,pv.ownBlock=some g->A<=g/\g<R6):=λg u=>⟨(eg.lt g u).1,em.lt (y,z) pv e6 g u⟩;have fy:=a0a lQ;have fl:Hid (t<(thereC d).length/\keyC (thereC d) t=(y,z)/\xs.Perm (aU (thereC d) (setsC d) t)):=⟨ht,la,hN⟩;have oR:=a0a e6;have lb:recB.kv (y,z)=recK (y,z):=rfl;rw [lb] at ts;clear n3 e6 em eg lQ ht rt la hN I vd h9 cb lb;go_wp2_with (go_at_call 80;((with_reducible refine a0i nx.out ?_);rintro e AS ⟨rfl,lP,ls⟩;have q0:=a0a lP;have j0:=a0a ls;clear lP ls))
               go_roundg (left.length)
               case rel=>
                obtain ⟨o1,o2,o3,o4,o5⟩:=j0.out;have lo:=fy.map.lt;have wz:=fy.lt;have cc:=b4.out;rw [<- cd.out];refine ⟨cB left (y,z),tO,fy.out.kept (o5 _ lo (λe=>by have:=j2.out _ e;omega)) (o5 _ wz (λe=>by have:=j2.out _ e;have:=cd.out;omega)),?_,oj.out.sort qd.out j0.out f8.out⟩;have wB:aw ltRK (thereC d):=by rw [HL.out];exact cl.out
                rw [cd.out];exact qk.next wB oR.out fl.1 fl.2.1 fl.2.2 q0.out o5
               case measure=>omega
 · have HT:Hid (cU (restF F c J T E) w1 t (thereC d) (setsC d)):=ht.step (λk hr=>ax.block k (hM.lt k hr.1)) ax.size;have p0:=a0a av;have bw:Hid (ag F w F w1):=ag.of_below ax;clear hM av ht ax hV d3;go_enter Tryz.func41,Tryz.ntmps41;go_upto_region 1 with fail
   rw [g4.out];go_wp2_with fail
   refine a0w (results_tmp rfl _ _ _) rfl ⟨t,F,J,T,E,rfl,p0.out,HT.out,bw.out⟩
end
section
open Go.RowKit Go.Maps Go.Shelf
theorem rM {d:ar} (h:d.Ok) (k:RK):k∈cV d↔∃t,t<(thereC d).length/\(setsC d).getD t 0=t/\keyC (thereC d) t=k:=by
 rw [mB h,List.mem_map];constructor
 · rintro ⟨t,b,a⟩;rw [a0v,a0x,decide_eq_true_eq] at b;exact ⟨t,b.1,b.2,a⟩
 · rintro ⟨t,c,e,a⟩;exact ⟨t,by rw [a0v,a0x,decide_eq_true_eq];exact ⟨c,e⟩,a⟩
theorem gS {d:ar} (h:d.Ok):(cV d).Pairwise λa b=>ltRK a b=true:=by
 rw [mB h,List.pairwise_map];refine List.Pairwise.imp_of_mem (λ{a b} f c e=>?_) (List.Pairwise.filter _ List.pairwise_lt_range);rw [a0v,a0x] at c;exact ij (cW h) e c.1
theorem wI {l:List RK} (h:l.Pairwise λa b=>ltRK a b=true):l.Nodup:=h.imp λ{a b} h e=>by rw [e,aL.irr] at h;cases h
theorem qA {d:ar} (h:d.Ok) {w:a0s} {b:Nat} {l:List (RK×Value)} (a:ak recB w b l) (e:∀k,(lookL l k).isSome=true↔∃t,t<(thereC d).length/\(setsC d).getD t 0=t/\keyC (thereC d) t=k):cM ltRK (l.map (·.1))=cV d:=by
 refine cH aL ((List.perm_ext_iff_of_nodup a.nodup (wI (gS h))).2 λk=>?_) (gS h);rw [rM h, <- e,List.mem_map];constructor
 · rintro ⟨p,f,rfl⟩;rw [(bu a.nodup (k:=p.1) (v:=p.2)).2 f];rfl
 · intro c;obtain ⟨v,g⟩:=Option.isSome_iff_exists.1 c;exact ⟨(k,v),(bu a.nodup).1 g,rfl⟩
theorem rN (d:ar):(cV d).length<=(thereC d).length:=by
 unfold cV;rw [a0c];refine a0k (a0n _ _) ?_;unfold kH;rw [a0c,List.length_range];exact a0e _
theorem mE {d:ar}:(thereC d).length<=d.vs.length:=a0n _ _
theorem wE (d:ar):(kH d).length=(thereC d).length:=by unfold kH;rw [a0c,List.length_range]
theorem rO {d:ar} (h:d.Ok) {l:List (RK×Value)} (a:∀k,lookL l k=(atC (thereC d) k).map λi=>recK (keyC (thereC d) ((setsC d).getD i 0))) (k:RK):(lookL l k).getD (.agg #[.int .i64 0, .int .i64 0])=recK ((titleC d k).getD (0,0))/\(lookL l k).isSome=(titleC d k).isSome:=by
 rw [a,iA h];cases atC (thereC d) k<;>exact ⟨rfl,rfl⟩
theorem ag.via {F b:Nat->Prop} {w d e:a0s} (h:ag F w b d) (a:a0j w.heap.size d e):ag F w b e:=
 ⟨a.os.trans h.os,a.tape.trans h.tape,a.output.trans h.output,a0k h.size a.size,λk c f=>(a.block k c).trans (h.block k c f),h.new⟩
structure uh (F F':Nat->Prop) (w w':a0s) (c t mo mm:Nat) (d:ar):Prop where
 cat:bz F' w' c d
 step:ag F w F' w'
 tb:w'.heap[t]? =some (.cells #[.map (some mo), .map (some mm)] 95 (0,0))
 of:AB w' mo (thereC d) (setsC d)
 mem:yg F' w' mm (thereC d) (setsC d)
 lt:∀k,F' k->k<w'.heap.size
 ft:F' t/\F' mo/\F' mm
 ok:aY d
theorem sP (F:Nat->Prop) (w:a0s) (c:Nat) (d:ar) (h:bz F w c d) (D:d.vs.length<=1000):
 Calls a0h 41 #[.pointer (some ⟨c,0,none⟩)] w λe w'=>∃(t i f:Nat) (a:Nat->Prop),e= .returned (.pointer (some ⟨t,0,none⟩))/\uh F a w w' c t i f d:=by
 refine (zn F w c d h D).mono ?_;rintro e w' ⟨t,a,H,I,J,rfl,b,C,B⟩;obtain ⟨i,f,q,r,s,u,x,l,y,z,A⟩:=C;refine ⟨t,i,f,a,rfl,⟨_,_,_,_,b⟩,B,q,x,⟨l,y,z,λt E G=>?_⟩,b.lt,⟨r.1,s.1,u.1⟩,b.ok⟩;obtain ⟨v,k,g,n,j,m,o,p⟩:=A t E G;exact ⟨v,k,g,n,j,m,o.1,p⟩
theorem en (F:Nat->Prop) (w:a0s) (c:Nat) (d:ar) (h:bz F w c d) (N:d.vs.length<=1000):
 Calls a0h 18 #[.pointer (some ⟨c,0,none⟩)] w λe w'=>∃(v:Value) (i:Nat->Prop),e= .returned v/\bz i w' c d/\ag F w i w'/\w'.ownsRow w.heap.size 36 2 v (cV d).length ((cV d).flatMap rkCells)/\∀g,v.ownBlock=some g->¬i g:=by
 have E:=a0a (sP F w c d h N);clear h;go_enter Tryz.func18,Tryz.ntmps18;go_wp2_with (go_at_call 41;((with_reducible refine a0i E.out ?_);rintro e w1 ⟨t,R,m,i,rfl,p⟩;have c1:w1.cell? ⟨t,1,none⟩=some (.map (some m)):=((aa p.tb 1).trans rfl);have a:=a0a p;clear p))
 obtain ⟨l,j,A,_⟩:=a.mem;have B:=a.ok.ok;have r:=qA B j A;have q:(l.map (·.1)).length=(cV d).length:=by rw [<- r,mK]
 have o:a0j w1.heap.size w1 (w1.alloc (.cells #[.map (some m)] 93)):=(a0d _ w1).alloc (a0e _) _;have C:=xl 8 (by omega) w1.heap.size (some m) l (w1.alloc (.cells #[.map (some m)] 93)) (by rw [a0z];rfl) (ak.block j (o.block _ j.lt)) (λb f=>by injection f with f;subst f;have:=j.lt;simp;omega);have M:l.length<=1000:=by have H:=rN d;have I:=mE (d:=d);rw [a0c] at q;omega
 have y:=a0a (mJ 10 (by omega) 95 #[.pointer (some ⟨w1.heap.size,0,none⟩)] (enters_of Tryz.func95 (by kernel_rfl) rfl) (l.map (·.1)) (by rw [a0c];omega) _ _ (λT x O=>by have:=O.1;omega) _ C);rw [r,q] at y;have G:=a0a (za (some m) w1);have n:=a0a o;clear C r q o j A M B
 go_wp2_with (first
  |(go_at_call 51;((with_reducible refine a0i G.out ?_);rintro e W ⟨rfl,rfl⟩))
  |(go_at_call 47;((with_reducible refine a0i y.out ?_);rintro e P ⟨v,rfl,s,z⟩;obtain ⟨U,V,rfl⟩:=aK s;have u:=a0a s;have D:=a0a z;clear s z)))
 go_ret;have f:a0j w1.heap.size w1 P:=n.trans (D.mono n.size);refine ⟨_,i,rfl,a.cat.step (λk L=>f.block k (a.lt k L)) f.size,a.step.trans (ag.of_below f),bE u.out (a0k a.step.size n.size),λg K J=>?_⟩;have H:=(u.lt g K).1;have I:=a.lt g J;have Q:=n.size;omega
theorem pq (F:Nat->Prop) (w:a0s) (c:Nat) (d:ar) (h:bz F w c d) (hn:d.vs.length<=1000) (k:RK) (g:rkOk k):
 Calls a0h 12 #[.pointer (some ⟨c,0,none⟩),recK k] w λe w'=>∃s:Nat->Prop,e= .returned (.tuple #[recK ((titleC d k).getD (0,0)), .bool (titleC d k).isSome])/\bz s w' c d/\ag F w s w':=by
 have L:∀k,F k->k<w.heap.size:=by obtain ⟨m1,m2,m3,kn,hM⟩:=h;exact hM.lt
 have av:aY d:=by obtain ⟨m1,m2,m3,kn,hM⟩:=h;exact hM.ok
 obtain ⟨m,n⟩:=k;have bt:=iA av.ok (m,n);obtain ⟨⟨t1,t2⟩,ay⟩:∃tk,(titleC d (m,n)).getD (0,0)=tk:=⟨_,rfl⟩;obtain ⟨M,aC⟩:∃M,(titleC d (m,n)).isSome=M:=⟨_,rfl⟩;obtain ⟨u,R⟩:∃u,(w.alloc (.cells #[.int .i64 m, .int .i64 n] 36)).alloc (.cells #[.int .i64 0, .int .i64 0] 36)=u:=⟨_,rfl⟩;have a6:a0j w.heap.size w u:=by rw [<- R];exact ((a0d _ w).alloc (a0e _) _).alloc (by simp) _
 have hA:u.heap[w.heap.size]? =some (.cells #[.int .i64 m, .int .i64 n] 36 (0,0)):=by rw [<- R,a0t _ _ _ (by simp)];exact a0b w _
 have hB:u.heap[w.heap.size+1]? =some (.cells #[.int .i64 0, .int .i64 0] 36 (0,0)):=by rw [<- R];have:=a0b (w.alloc (.cells #[.int .i64 m, .int .i64 n] 36)) (.cells #[.int .i64 0, .int .i64 0] 36);rwa [World.size_alloc] at this
 have a8:u.heap.size=w.heap.size+2:=by rw [<- R];simp
 have aT:=a0a L;have aS:Hid (∀W,a0j u.heap.size u W->Calls a0h 41 #[.pointer (some ⟨c,0,none⟩)] W λe w'=>∃(t b mm:Nat) (s:Nat->Prop),e= .returned (.pointer (some ⟨t,0,none⟩))/\uh F s W w' c t b mm d/\w'.heap[w.heap.size]? =some (.cells #[.int .i64 m, .int .i64 n] 36 (0,0))/\w'.heap[w.heap.size+1]? =some (.cells #[.int .i64 0, .int .i64 0] 36 (0,0))/\(t≠w.heap.size/\t≠w.heap.size+1/\b≠w.heap.size/\b≠w.heap.size+1)/\ag F W s w'/\(∀k,s k->k≠w.heap.size/\k≠w.heap.size+1)/\∀U,U.heap[b]? =w'.heap[b]? ->(a0l 92 (.map (some b)) (.agg #[.int .i64 m, .int .i64 n]) true).run a0h U= .ok (.tuple #[.agg #[.int .i64 t1, .int .i64 t2], .bool M]) U):=λW X=>by
  have bb:a0j w.heap.size w W:=a6.trans (X.mono a6.size);refine (sP F W c d (h.below bb) hn).mono ?_;rintro e w' ⟨t,b,mm,s,rfl,x⟩;have H:∀k,s k->k≠w.heap.size/\k≠w.heap.size+1:=λk g=>by
   have bs:=X.size;rcases x.step.new k g with Q|Q
   · have:=L k Q;omega
   · omega
  have e1:=H t x.ft.1;have e2:=H b x.ft.2.1;have bs:=X.size;refine ⟨t,b,mm,s,rfl,x,?_,?_,⟨e1.1,e1.2,e2.1,e2.2⟩,x.step,H,λU b9=>?_⟩
  · exact ((x.step.block _ (by omega) (λhF=>by have:=L _ hF;omega)).trans (X.block _ (by omega))).trans hA
  · exact ((x.step.block _ (by omega) (λhF=>by have:=L _ hF;omega)).trans (X.block _ (by omega))).trans hB
  · obtain ⟨l,hm,hl⟩:=x.of;have h3:=ak.look_ok (ak.block hm b9) Tryz.underlying92 (nr U) (m,n) g;have e3:=rO av.ok hl (m,n);rw [e3.1,e3.2,ay,aC] at h3;exact h3
 have b7:=a0a R;have HA:=a0a hA;have HB:=a0a hB;have a9:=a0a a6;have b8:=a0a a8;rw [ay,aC];show Calls a0h 12 #[.pointer (some ⟨c,0,none⟩), .agg #[.int .i64 m, .int .i64 n]] w (λe w'=>∃s:Nat->Prop,e= .returned (.tuple #[.agg #[.int .i64 t1, .int .i64 t2], .bool M])/\bz s w' c d/\ag F w s w');clear bt ay aC R hA hB a6 a8 h hn L av;go_enter Tryz.func12,Tryz.ntmps12;go_upto_region 1 with fail
 rw [b7.out];have b1:u.drew.heap[w.heap.size]? =some (.cells #[.int .i64 m, .int .i64 n] 36 (0,0))/\u.drew.heap[w.heap.size+1]? =some (.cells #[.int .i64 0, .int .i64 0] 36 (0,0)):=⟨HA.out,HB.out⟩;have b6:Hid (∀W:a0s,(W.heap[w.heap.size]? =some (.cells #[.int .i64 m, .int .i64 n] 36 (0,0))/\W.heap[w.heap.size+1]? =some (.cells #[.int .i64 0, .int .i64 0] 36 (0,0)))->W.cell? ⟨w.heap.size,0,none⟩=some (.int .i64 m)/\W.cell? ⟨w.heap.size,1,none⟩=some (.int .i64 n)):=λW h=>⟨(aa h.1 0).trans rfl,(aa h.1 1).trans rfl⟩;go_wp2_with fail
 refine wT (λW:a0s=>W.heap[w.heap.size]? =some (.cells #[.int .i64 m, .int .i64 n] 36 (0,0))/\W.heap[w.heap.size+1]? =some (.cells #[.int .i64 0, .int .i64 0] 36 (0,0))) 999 ?_;refine tkS 0 ?_ rfl b1 ?_ ?_;rotate_left;intro w' h;go_simp;rfl;try go_simp
 refine tkS 5 ?_ rfl b1 ?_ ?_;rotate_left;intro w' h;obtain ⟨h0,Q⟩:=b6 w' h;go_simp;rfl;try go_simp
 refine bZ (i:=1) (j:=10) rfl rfl (by kernel_rfl) rfl rfl (λK r=>?_) (λK r=>?_)
 · go_simp;go_at_call 41;with_reducible refine a0i (aS.out u.drew (a0d _ u).drew) ?_
   rintro e a ⟨t,b,mm,s,rfl,x,N,O,bk,a4,H,a0⟩;have y:=a0a x;have P:=a0a a4;have T:=a0a H;have ad:=a0a a0;have a5:Hid (ag F w F u.drew):=ag.of_below a9.drew;clear x a4 H a0;refine r _ _ (λ_=>⟨N,O⟩) ?_;clear r K;go_simp;have a7:(a.heap[w.heap.size]? =some (.cells #[.int .i64 m, .int .i64 n] 36 (0,0))/\a.heap[w.heap.size+1]? =some (.cells #[.int .i64 0, .int .i64 0] 36 (0,0)))/\a.heap[t]? =a.heap[t]? /\a.heap[b]? =a.heap[b]? :=⟨⟨N,O⟩,rfl,rfl⟩;refine dt (λW:a0s=>(W.heap[w.heap.size]? =some (.cells #[.int .i64 m, .int .i64 n] 36 (0,0))/\W.heap[w.heap.size+1]? =some (.cells #[.int .i64 0, .int .i64 0] 36 (0,0)))/\W.heap[t]? =a.heap[t]? /\W.heap[b]? =a.heap[b]?) (λW h=>h.1) _ _ _ _ ?_;have ac:Hid (∀W:a0s,((W.heap[w.heap.size]? =some (.cells #[.int .i64 m, .int .i64 n] 36 (0,0))/\W.heap[w.heap.size+1]? =some (.cells #[.int .i64 0, .int .i64 0] 36 (0,0)))/\W.heap[t]? =a.heap[t]? /\W.heap[b]? =a.heap[b]?)->W.cell? ⟨t,0,none⟩=some (.map (some b))/\(a0l 92 (.map (some b)) (.agg #[.int .i64 m, .int .i64 n]) true).run a0h W= .ok (.tuple #[.agg #[.int .i64 t1, .int .i64 t2], .bool M]) W):=λW h=>⟨(aa (h.2.1.trans y.tb) 0).trans rfl,ad W h.2.2⟩;have J:=tkL [2,3,4,6,7,8,9];repeat (refine tkIS J ?_ rfl a7 ?_ ?_;rotate_left;intro w' h;obtain ⟨h5,h6⟩:=ac w' h;go_simp;rfl;(try go_simp);replace J:=tkO J)
   clear J;obtain ⟨q,D⟩:∃q,a.heap.size=q:=⟨_,rfl⟩;obtain ⟨o,G⟩:∃o,a.alloc (.cells #[.int .i64 0, .int .i64 0] 36)=o:=⟨_,rfl⟩;have A:o.heap[q]? =some (.cells #[.int .i64 0, .int .i64 0] 36 (0,0)):=by rw [<- G, <- D];exact a0b a _
   have ao:a0j w.heap.size a o:=by rw [<- G];exact (a0d _ a).alloc (a0k a5.out.size P.out.size) _
   have a1:∀k,k<q->o.heap[k]? =a.heap[k]? :=λk g=>by rw [<- G];exact a0t _ _ _ (by rw [D];exact g)
   have b3:=ae N;have b4:=ae O;have L:=y.lt t y.ft.1;have b5:=y.lt b y.ft.2.1;rw [D] at b3 b4 L b5;have a3:w.heap.size<=q:=by omega
   have I:w.heap.size≠q/\w.heap.size+1≠q/\t≠q/\b≠q:=by omega
   have E:(o.heap[w.heap.size]? =some (.cells #[.int .i64 m, .int .i64 n] 36 (0,0))/\o.heap[w.heap.size+1]? =some (.cells #[.int .i64 0, .int .i64 0] 36 (0,0)))/\o.heap[t]? =a.heap[t]? /\o.heap[b]? =a.heap[b]? :=⟨⟨(a1 _ b3).trans N,(a1 _ b4).trans O⟩,a1 _ L,a1 _ b5⟩;have a2:∀k,s k->k≠q:=λk g=>by have:=y.out.lt k g;omega
   have al:Hid (∀k,s k->o.heap[k]? =a.heap[k]?):=λk g=>a1 k (by have:=y.out.lt k g;omega);refine dO 10 rfl λK r=>?_;go_simp;try rw [D,G]
   refine r _ _ (λ_=>E) ?_;clear r K;have n0:o.cell? ⟨q,0,none⟩=some (.int .i64 0):=(aa A 0).trans rfl;have n1:o.cell? ⟨q,1,none⟩=some (.int .i64 0):=(aa A 1).trans rfl;have f0:=ab A 0;have f1:=ab A 1;refine dO 11 rfl λK r=>?_;go_simp;obtain ⟨f,C⟩:∃f,(o.setCell ⟨q,0,none⟩ (.int .i64 t1)).setCell ⟨q,1,none⟩ (.int .i64 t2)=f:=⟨_,rfl⟩;have V:f.heap[q]? =some (.cells #[.int .i64 t1, .int .i64 t2] 36 (0,0)):=by rw [<- C];exact an (an A 0 _) 1 _
   have B:∀k,k≠q->f.heap[k]? =o.heap[k]? :=λk g=>by rw [<- C,a0f _ _ _ _ g,a0f _ _ _ _ g]
   have au:a0j w.heap.size o f:=by rw [<- C];exact (((a0d _ o).setCell (p:=⟨q,0,none⟩) a3 _).setCell (p:=⟨q,1,none⟩) a3 _)
   have z:(f.heap[w.heap.size]? =some (.cells #[.int .i64 m, .int .i64 n] 36 (0,0))/\f.heap[w.heap.size+1]? =some (.cells #[.int .i64 0, .int .i64 0] 36 (0,0)))/\f.heap[t]? =a.heap[t]? /\f.heap[b]? =a.heap[b]? :=⟨⟨(B _ I.1).trans E.1.1,(B _ I.2.1).trans E.1.2⟩,(B _ I.2.2.1).trans E.2.1,(B _ I.2.2.2).trans E.2.2⟩;rw [C];refine r _ _ (λ_=>z) ?_;clear r K;clear n0 n1 f0 f1 C;refine dO 12 rfl λK r=>?_;go_simp;refine r _ _ (λ_=>z) ?_;clear r K;refine dN ?_;have n0:f.cell? ⟨q,0,none⟩=some (.int .i64 t1):=(aa V 0).trans rfl;have n1:f.cell? ⟨q,1,none⟩=some (.int .i64 t2):=(aa V 1).trans rfl;have m0:f.cell? ⟨w.heap.size+1,0,none⟩=some (.int .i64 0):=(aa z.1.2 0).trans rfl;have m1:f.cell? ⟨w.heap.size+1,1,none⟩=some (.int .i64 0):=(aa z.1.2 1).trans rfl;have g0:=ab z.1.2 0;have g1:=ab z.1.2 1;go_wp2_with fail
   refine a0w (v:= .tuple #[.agg #[.int .i64 t1, .int .i64 t2], .bool M]) (by rw [bN rfl];go_simp) rfl ?_;have Z:a0j w.heap.size a ((f.setCell ⟨w.heap.size+1,0,none⟩ (.int .i64 t1)).setCell ⟨w.heap.size+1,1,none⟩ (.int .i64 t2)):=((ao.trans au).setCell (p:=⟨w.heap.size+1,0,none⟩) (by simp) _).setCell (p:=⟨w.heap.size+1,1,none⟩) (by simp) _;refine ⟨rfl,s,y.cat.step (λk g=>?_) Z.size,(a5.trans P.out).via Z⟩;rw [a0f _ _ _ _ (T.out k g).2,a0f _ _ _ _ (T.out k g).2,B k (a2 k g)];try exact al k g
 · go_simp;obtain ⟨q,D⟩:∃q,u.heap.size=q:=⟨_,rfl⟩;obtain ⟨o,G⟩:∃o,(u.alloc (.cells #[.int .i64 0, .int .i64 0] 36)).drew=o:=⟨_,rfl⟩;have b0:o.heap[q]? =some (.cells #[.int .i64 0, .int .i64 0] 36 (0,0)):=by rw [<- G, <- D];exact a0b u _
   have Y:a0j u.heap.size u o:=by rw [<- G];exact ((a0d _ u).alloc (a0e _) _).drew
   have ax:Hid (q=u.heap.size/\o.heap.size=q+1):=⟨D.symm,by rw [<- G, <- D];simp⟩;have b2:o.heap[w.heap.size]? =some (.cells #[.int .i64 m, .int .i64 n] 36 (0,0))/\o.heap[w.heap.size+1]? =some (.cells #[.int .i64 0, .int .i64 0] 36 (0,0)):=⟨(Y.block _ (ae HA.out)).trans HA.out,(Y.block _ (ae HB.out)).trans HB.out⟩;try rw [D]
   try rw [G]
   refine r _ _ (λ_=>b2) ?_;clear r K;refine dO 1 rfl λK r=>?_;go_simp;go_at_call 41;with_reducible refine a0i (aS.out o Y) ?_
   rintro e a ⟨t,b,mm,s,rfl,x,N,O,bk,a4,H,a0⟩;have y:=a0a x;have P:=a0a a4;have T:=a0a H;have ad:=a0a a0;have a5:Hid (ag F w F o):=ag.of_below (a9.trans (Y.mono a9.size));clear x a4 H a0;have a8:=b8.out;have ax:=ax.out;have bc:¬F q:=λx=>by have:=aT.out q x;omega
   have A:a.heap[q]? =some (.cells #[.int .i64 0, .int .i64 0] 36 (0,0)):=(P.out.block q (by omega) bc).trans b0;have a2:∀k,s k->k≠q:=λk g=>by
    rcases P.new k g with Q|Q
    · have:=aT.out k Q;omega
    · omega
   have a3:w.heap.size<=q:=by omega
   have I:w.heap.size≠q/\w.heap.size+1≠q/\t≠q/\b≠q:=⟨by omega,by omega,a2 t y.out.ft.1,a2 b y.out.ft.2.1⟩;have ao:a0j w.heap.size a a:=a0d _ _;have al:Hid (∀k,s k->a.heap[k]? =a.heap[k]?):=λk g=>rfl;clear ax a8 Y G D b0 b2;refine r _ _ (λ_=>⟨N,O⟩) ?_;clear r K;go_simp;have a7:(a.heap[w.heap.size]? =some (.cells #[.int .i64 m, .int .i64 n] 36 (0,0))/\a.heap[w.heap.size+1]? =some (.cells #[.int .i64 0, .int .i64 0] 36 (0,0)))/\a.heap[t]? =a.heap[t]? /\a.heap[b]? =a.heap[b]? :=⟨⟨N,O⟩,rfl,rfl⟩;refine dt (λW:a0s=>(W.heap[w.heap.size]? =some (.cells #[.int .i64 m, .int .i64 n] 36 (0,0))/\W.heap[w.heap.size+1]? =some (.cells #[.int .i64 0, .int .i64 0] 36 (0,0)))/\W.heap[t]? =a.heap[t]? /\W.heap[b]? =a.heap[b]?) (λW h=>h.1) _ _ _ _ ?_;have ac:Hid (∀W:a0s,((W.heap[w.heap.size]? =some (.cells #[.int .i64 m, .int .i64 n] 36 (0,0))/\W.heap[w.heap.size+1]? =some (.cells #[.int .i64 0, .int .i64 0] 36 (0,0)))/\W.heap[t]? =a.heap[t]? /\W.heap[b]? =a.heap[b]?)->W.cell? ⟨t,0,none⟩=some (.map (some b))/\(a0l 92 (.map (some b)) (.agg #[.int .i64 m, .int .i64 n]) true).run a0h W= .ok (.tuple #[.agg #[.int .i64 t1, .int .i64 t2], .bool M]) W):=λW h=>⟨(aa (h.2.1.trans y.tb) 0).trans rfl,ad W h.2.2⟩;have J:=tkL [2,3,4,6,7,8,9];repeat (refine tkIS J ?_ rfl a7 ?_ ?_;rotate_left;intro w' h;obtain ⟨h5,h6⟩:=ac w' h;go_simp;rfl;(try go_simp);replace J:=tkO J)
   clear J;have E:=a7;have n0:a.cell? ⟨q,0,none⟩=some (.int .i64 0):=(aa A 0).trans rfl;have n1:a.cell? ⟨q,1,none⟩=some (.int .i64 0):=(aa A 1).trans rfl;have f0:=ab A 0;have f1:=ab A 1;refine dO 11 rfl λK r=>?_;go_simp;obtain ⟨f,C⟩:∃f,(a.setCell ⟨q,0,none⟩ (.int .i64 t1)).setCell ⟨q,1,none⟩ (.int .i64 t2)=f:=⟨_,rfl⟩;have V:f.heap[q]? =some (.cells #[.int .i64 t1, .int .i64 t2] 36 (0,0)):=by rw [<- C];exact an (an A 0 _) 1 _
   have B:∀k,k≠q->f.heap[k]? =a.heap[k]? :=λk g=>by rw [<- C,a0f _ _ _ _ g,a0f _ _ _ _ g]
   have au:a0j w.heap.size a f:=by rw [<- C];exact (((a0d _ a).setCell (p:=⟨q,0,none⟩) a3 _).setCell (p:=⟨q,1,none⟩) a3 _)
   have z:(f.heap[w.heap.size]? =some (.cells #[.int .i64 m, .int .i64 n] 36 (0,0))/\f.heap[w.heap.size+1]? =some (.cells #[.int .i64 0, .int .i64 0] 36 (0,0)))/\f.heap[t]? =a.heap[t]? /\f.heap[b]? =a.heap[b]? :=⟨⟨(B _ I.1).trans E.1.1,(B _ I.2.1).trans E.1.2⟩,(B _ I.2.2.1).trans E.2.1,(B _ I.2.2.2).trans E.2.2⟩;rw [C];refine r _ _ (λ_=>z) ?_;clear r K;clear n0 n1 f0 f1 C;refine dO 12 rfl λK r=>?_;go_simp;refine r _ _ (λ_=>z) ?_;clear r K;refine dN ?_;have n0:f.cell? ⟨q,0,none⟩=some (.int .i64 t1):=(aa V 0).trans rfl;have n1:f.cell? ⟨q,1,none⟩=some (.int .i64 t2):=(aa V 1).trans rfl;have m0:f.cell? ⟨w.heap.size+1,0,none⟩=some (.int .i64 0):=(aa z.1.2 0).trans rfl;have m1:f.cell? ⟨w.heap.size+1,1,none⟩=some (.int .i64 0):=(aa z.1.2 1).trans rfl;have g0:=ab z.1.2 0;have g1:=ab z.1.2 1;go_wp2_with fail
   refine a0w (v:= .tuple #[.agg #[.int .i64 t1, .int .i64 t2], .bool M]) (by rw [bN rfl];go_simp) rfl ?_;have Z:a0j w.heap.size a ((f.setCell ⟨w.heap.size+1,0,none⟩ (.int .i64 t1)).setCell ⟨w.heap.size+1,1,none⟩ (.int .i64 t2)):=((ao.trans au).setCell (p:=⟨w.heap.size+1,0,none⟩) (by simp) _).setCell (p:=⟨w.heap.size+1,1,none⟩) (by simp) _;refine ⟨rfl,s,y.cat.step (λk g=>?_) Z.size,(a5.trans P.out).via Z⟩;rw [a0f _ _ _ _ (T.out k g).2,a0f _ _ _ _ (T.out k g).2,B k (a2 k g)];try exact al k g
end
section
open Go.RowKit Go.Maps Go.Shelf
theorem ox {F:Nat->Prop} {w:a0s} {j:Nat} {d:ar} (y:aY d) (h:yg F w j (thereC d) (setsC d)) (k:RK) (r:rkOk k):∃(a:Option Addr) (c:Nat),d9 0 w.heap.size w (.slice a (membersC d k).length c) (membersC d k)/\
 ∀W,W.heap[j]? =w.heap[j]? ->(a0l 93 (.map (some j)) (recK k) false).run a0h W= .ok (.slice a (membersC d k).length c) W:=by
 obtain ⟨l,s,p,u⟩:=h;cases hl:lookL l k with
 |some v=>
  obtain ⟨t,i,o,f⟩:=(p k).1 (by rw [hl];rfl);obtain ⟨B,b,g,n,z,rfl,_,q⟩:=u t i o;rw [f,hl] at b;injection b with b
  subst b;have e:=p7 y.ok i;rw [f] at e;rw [e];obtain ⟨a,c,x,A⟩:=id q;injection x with he1 he2 he3
  subst he2;refine ⟨_,_,q,λW m=>?_⟩;have:=ak.look (ak.block s m) Tryz.underlying93 (et W) k r;rw [hl] at this;exact this
 |none=>
  have e:membersC d k=[]:=ow λt i o f=>by have:=(p k).2 ⟨t,i,o,f⟩;rw [hl] at this;cases this
  rw [e];refine ⟨none,0,⟨none,0,rfl,λh=>absurd rfl h⟩,λW m=>?_⟩;have:=ak.look (ak.block s m) Tryz.underlying93 (et W) k r;rw [hl] at this;exact this
theorem p8 (d:ar) (k:RK):(membersC d k).length<=(thereC d).length:=by
 unfold membersC;rw [a0c];refine a0k (a0n _ _) ?_;rw [wE];exact a0e _
theorem ce (F:Nat->Prop) (w:a0s) (c:Nat) (d:ar) (h:bz F w c d) (R:d.vs.length<=1000) (k:RK) (B:rkOk k):
 Calls a0h 22 #[.pointer (some ⟨c,0,none⟩),recK k] w λe w'=>∃(v:Value) (m:Nat->Prop),e= .returned v/\bz m w' c d/\ag F w m w'/\w'.ownsRow w.heap.size 36 2 v (membersC d k).length ((membersC d k).flatMap rkCells)/\∀g,v.ownBlock=some g->¬m g:=by
 have P:∀k,F k->k<w.heap.size:=by obtain ⟨m1,m2,m3,kn,hM⟩:=h;exact hM.lt
 obtain ⟨b,f⟩:=k;obtain ⟨j,p⟩:∃j,membersC d (b,f)=j:=⟨_,rfl⟩;have Q:j.length<=1000:=by rw [<- p];have J:=p8 d (b,f);have h2:=mE (d:=d);omega
 obtain ⟨l,r⟩:∃l,w.alloc (.cells #[.int .i64 b, .int .i64 f] 36)=l:=⟨_,rfl⟩;have z:a0j w.heap.size w l:=by rw [<- r];exact (a0d _ w).alloc (a0e _) _
 have L:l.heap[w.heap.size]? =some (.cells #[.int .i64 b, .int .i64 f] 36 (0,0)):=by rw [<- r];exact a0b w _
 have o:l.drew.heap[w.heap.size]? =some (.cells #[.int .i64 b, .int .i64 f] 36 (0,0)):=L;have O:=sP F l.drew c d (h.below z.drew) R;have a0:=a0a O;have a1:=a0a P;have a3:=a0a p;have a2:=a0a Q;have a4:=a0a r;have H:=a0a z;rw [p];show Calls a0h 22 #[.pointer (some ⟨c,0,none⟩), .agg #[.int .i64 b, .int .i64 f]] w _;clear h R P Q r z O p L;go_enter Tryz.func22,Tryz.ntmps22;go_upto_region 1 with fail
 rw [a4.out];have X:Hid (∀W:a0s,W.heap[w.heap.size]? =some (.cells #[.int .i64 b, .int .i64 f] 36 (0,0))->W.cell? ⟨w.heap.size,0,none⟩=some (.int .i64 b)/\W.cell? ⟨w.heap.size,1,none⟩=some (.int .i64 f)):=λW h=>⟨(aa h 0).trans rfl,(aa h 1).trans rfl⟩;go_wp2_with fail
 refine wT (λW=>W.heap[w.heap.size]? =some (.cells #[.int .i64 b, .int .i64 f] 36 (0,0))) 999 ?_;refine tkS 0 ?_ rfl o ?_ ?_;rotate_left;intro w' h;go_simp;rfl;try go_simp
 refine tkS 5 ?_ rfl o ?_ ?_;rotate_left;intro w' h;obtain ⟨h0,J⟩:=X w' h;go_simp;rfl;try go_simp
 refine dO 1 rfl λK n=>?_;go_simp;go_at_call 41;with_reducible refine a0i a0.out ?_
 rintro e i ⟨t,mo,G,m,rfl,N⟩;have a:=a0a N;clear N;have a5:w.heap.size<l.drew.heap.size:=ae o;have x:i.heap[w.heap.size]? =some (.cells #[.int .i64 b, .int .i64 f] 36 (0,0)):=(a.out.step.block _ a5 (λy=>by have:=a1.out _ y;omega)).trans o;obtain ⟨U,V,D,C⟩:=ox a.ok a.mem (b,f) B;rw [a3.out] at D C;have Z:=a0a (λ(W:a0s) (M:a0j i.heap.size i W)=>xV (.slice U j.length V) j.length (j.flatMap rkCells) W ((aH.kept D (λq _ hq=>M.block q hq)).mono (a0e _) M.size) (od j) (tK j) (by have:=a2.out;omega));have T:a0j i.heap.size i i:=a0d _ i;refine n _ _ (λ_=>x) ?_;clear n K;go_simp;refine dt (λW=>a0j i.heap.size i W) (λW h=>(h.block _ (ae x)).trans x) _ _ _ _ ?_;have Y:Hid (∀W,a0j i.heap.size i W->W.cell? ⟨t,1,none⟩=some (.map (some G))/\(a0l 93 (.map (some G)) (.agg #[.int .i64 b, .int .i64 f]) false).run a0h W= .ok (.slice U j.length V) W):=λW h=>⟨(aa ((h.block _ (ae a.tb)).trans a.tb) 1).trans rfl,C W (h.block _ (a.lt G a.ft.2.2))⟩;clear C D;have s:=tkL [2,3,4,6];repeat (refine tkIS s ?_ rfl T ?_ ?_;rotate_left;intro w' h;obtain ⟨h5,h6⟩:=Y w' h;go_simp;rfl;(try go_simp);replace s:=tkO s)
 clear s;refine dO 7 rfl λK n=>?_;go_simp;go_at_call 52;with_reducible refine a0i (Z.out i T) ?_
 rintro e w4 ⟨v,rfl,E,A⟩;obtain ⟨va,vc,rfl⟩:=aK E;have I:=a0a E;have u:=a0a A;clear E;refine n _ _ (λ_=>A) ?_;clear n K;go_simp;refine tkS 8 ?_ rfl A ?_ ?_;rotate_left;intro w' h;go_simp;rfl;try go_simp
 refine dN ?_;go_wp2_with fail
 go_ret;refine ⟨_,m,rfl,a.cat.step (λk B=>u.block k (a.lt k B)) u.size,((ag.of_below H.drew).trans a.step).trans (ag.of_below u.out),bE I.out ?_,λg hg y=>?_⟩
 · exact a0k H.size a.step.size
 · have J:=(I.lt g hg).1;have h2:=a.lt g y;omega
end
end Go.Proofs.YtjcimanddakkaaaGreatDoor
