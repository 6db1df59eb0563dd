/- Lemmas. -/
import Derived.Test.YtjcimanddakkaaaGreatDoorQ30
set_option maxRecDepth 100000
set_option maxHeartbeats 8000000
namespace Go.Proofs.YtjcimanddakkaaaGreatDoor
open _root_.Option renaming some→X,none→Y
open Go.Obj renaming cells→fn
open Go.Value renaming slice→hb,int→J,pointer→l6,bool→ld,map→lf
open Go.IntKind renaming i64→U,u8→lb
open Go.Ending renaming returned→l7
open Go.Lib renaming hid→Z
open Tryz
open _root_.Nat renaming le_refl→lk,zero_le→lx,lt_of_lt_of_le→lP,le_trans→lT,zero_add→m6
open Go.RowKit.Below renaming refl→lm,heap_alloc→mf
open Go.World renaming alloc_heap_new→lp,ownsRow_nil→mc,size_alloc→me,cell?_alloc_new→mm,cell?_of_block→m5
open Go.Calls renaming mono→ls
open Go.Calls renaming mono→c7
open _root_.List renaming length_append→lB,getElem_mem→lE,take_of_length_le→lQ,length_map→ma,flatMap_append→mb,pairwise_map→md,length_take→ml,map_map→mv,getElem_map→mP
open Go.Instr renaming lookup→mo
open Go renaming World→ms,Calls→mt,Value→m4
open _root_.Int renaming tmod_eq_emod_of_nonneg→m0
open Go.Addr renaming add→m7
section
open Go.RowKit Go.Maps Go.Shelf
theorem za {W:ms} {cs:List m4} {t b n c:Nat} (h:W.heap[b]? =X (fn cs.toArray t (0,0))):aB 0 W.heap.size W (hb (X ⟨b,0,Y⟩) n c) n cs:=
 ⟨_,c,rfl,λ_=>⟨b,0,rfl,lx _,ae h,λj x a=>by rw [m6,aa h j];simpa using a⟩⟩
theorem mN (W:ms) (B:Nat) (v:m4) (L a:List Int) (b t:Nat) (p:W.ownsRow B 3 1 v L.length (L.map intV)) (m:W.heap[b]? =X (.cells (a.map intV).toArray t (0,0))) (s:L.length+a.length<=100000) (l:B<=W.heap.size):
 ∃c w',(Builtin.append_ #[84,84] 84 #[v,hb (X ⟨b,0,Y⟩) a.length a.length]).run prog W= .ok c w'/\w'.ownsRow B 3 1 c (L++a).length ((L++a).map intV)/\W.grownBy w' v.ownBlock/\(c.ownBlock=v.ownBlock∨c.ownBlock=X W.heap.size):=by
 obtain ⟨r,o,i,h1,k⟩:=info_parts i3
 obtain ⟨c,w',q,f,g,_,h⟩:=run_append_own_at (P:=prog) (w:=W) B 84 84 3 r (J U 0) 1 8 underlying84 o i h1 k rfl Nat.one_pos v L.length (L.map intV) p ⟨b,0,Y⟩ a.length a.length (a.map intV) (by simp)
  (λj u e=>by rw [show (⟨b,0,Y⟩:Addr).add j=⟨b,j,Y⟩ from by unfold m7;split<;>simp_all,aa m j];simpa using e) (λu e=>by obtain ⟨n,_,rfl⟩:=List.mem_map.1 e;rfl) (by unfold maxLen;omega) (by omega) l
 refine ⟨c,w',q,?_,g,h⟩;rw [lB,List.map_append];exact f
theorem yi {F:Nat->Prop} {w:ms} {c:Nat} {a u y:Option Nat} {t:m4} {d:ar} (h:dF F w c a u y t d):
 mt prog 47 #[.func (.func 108) #[] #[l6 (X ⟨w.heap.size,0,Y⟩)], .func (.func 49) #[] #[]] (w.alloc (fn #[.map a] 113)) λe w'=>∃v,e=l7 v/\w'.ownsRow (w.heap.size+1) 36 2 v d.vs.length ((d.vs.map (·.1)).flatMap rkCells)/\Below (w.heap.size+1) (w.alloc (fn #[.map a] 113)) w':=by
 obtain ⟨ps,i,z,C⟩:=h.vs;have o:cw ltRK (ps.map (·.1))=d.vs.map (·.1):=by rw [<- i,mv];refine bh aN (.refl _) ?_;have f:=h.ok.ok.vs;rw [<- i] at f;unfold aq at f;rw [md] at f ⊢;exact f
 have r:ps.length=d.vs.length:=by rw [<- i];simp
 have A:=h.ok.vlen;have n:Bw w (w.alloc (fn #[.map a] 113)):=(lm _ w).alloc (lk _) _;have k:=nZ 8 (by omega) w.heap.size a (ps.map λp=>(p.1,iC p.1 p.2)) (w.alloc (fn #[.map a] 113)) (by rw [mm];rfl) (z.block (λb g=>n.block b (h.lt b (h.f1 b g)))) (λb g=>by have:=h.lt b (h.f1 b g);simp;omega);have q:(ps.map λp=>(p.1,iC p.1 p.2)).map (·.1)=ps.map (·.1):=by rw [mv];rfl
 rw [q] at k;have j:=fv 10 (by omega) 108 #[l6 (X ⟨w.heap.size,0,Y⟩)] (enters_of func108 (by kernel_rfl) rfl) (ps.map (·.1)) (by simp;omega) _ _ (λB x s=>by have:=s.1;simp at this;omega) _ k;rw [o,ma,r,me] at j;exact j.mono λe w' ⟨v,h1,l,m⟩=>⟨v,h1,l,m.mono (by simp)⟩
theorem xx {F:Nat->Prop} {w:ms} {c:Nat} {s a t:Option Nat} {r:m4} {d:ar} (h:dF F w c s a t r d):
 mt prog 47 #[.func (.func 118) #[] #[l6 (X ⟨w.heap.size,0,Y⟩)], .func (.func 49) #[] #[]] (w.alloc (fn #[.map a] 114)) λe w'=>∃v,e=l7 v/\w'.ownsRow (w.heap.size+1) 36 2 v d.ds.length ((d.ds.map (·.1)).flatMap rkCells)/\Below (w.heap.size+1) (w.alloc (fn #[.map a] 114)) w':=by
 have n:cw ltRK (d.ds.map (·.1))=d.ds.map (·.1):=by refine bh aN (.refl _) ?_;have i:=h.ok.ok.ds;unfold aq at i;rw [md];exact i
 have u:=h.ok.dlen;have m:Bw w (w.alloc (fn #[.map a] 114)):=(lm _ w).alloc (lk _) _;have j:=wV 8 (by omega) w.heap.size a (d.ds.map λp=>(p.1,J U p.2)) (w.alloc (fn #[.map a] 114)) (by rw [mm];rfl) (h.ds.block (λb f=>m.block b (h.lt b (h.f2 b f)))) (λb f=>by have:=h.lt b (h.f2 b f);simp;omega);have o:(d.ds.map λp=>(p.1,Value.int U p.2)).map (·.1)=d.ds.map (·.1):=by rw [mv];rfl
 rw [o] at j;have g:=fv 10 (by omega) 118 #[l6 (X ⟨w.heap.size,0,Y⟩)] (enters_of func118 (by kernel_rfl) rfl) (d.ds.map (·.1)) (by simp;omega) _ _ (λy x q=>by have:=q.1;simp at this;omega) _ j;rw [n,ma,me] at g;exact g.mono λe w' ⟨v,h1,k,l⟩=>⟨v,h1,k,l.mono (by simp)⟩
theorem zJ {F:Nat->Prop} {w:ms} {c:Nat} {s t a:Option Nat} {r:m4} {d:ar} (h:dF F w c s t a r d):
 mt prog 65 #[.func (.func 121) #[] #[l6 (X ⟨w.heap.size,0,Y⟩)], .func (.func 67) #[] #[]] (w.alloc (fn #[.map a] 115)) λe w'=>∃v,e=l7 v/\w'.ownsRow (w.heap.size+1) 134 4 v d.ps.length ((d.ps.map (·.1)).flatMap pkCells)/\Below (w.heap.size+1) (w.alloc (fn #[.map a] 115)) w':=by
 have n:cw ltPK (d.ps.map (·.1))=d.ps.map (·.1):=by refine bh cY (.refl _) ?_;have i:=h.ok.ok.ps;unfold aq at i;rw [md];exact i
 have u:=h.ok.plen;have m:Bw w (w.alloc (fn #[.map a] 115)):=(lm _ w).alloc (lk _) _;have j:=nY 8 (by omega) w.heap.size a (d.ps.map λp=>(p.1,fo p.2)) (w.alloc (fn #[.map a] 115)) (by rw [mm];rfl) (h.ps.block (λb f=>m.block b (h.lt b (h.f3 b f)))) (λb f=>by have:=h.lt b (h.f3 b f);simp;omega);have o:(d.ps.map λp=>(p.1,fo p.2)).map (·.1)=d.ps.map (·.1):=by rw [mv];rfl
 rw [o] at j;have g:=nN 10 (by omega) 121 #[l6 (X ⟨w.heap.size,0,Y⟩)] (enters_of func121 (by kernel_rfl) rfl) (d.ps.map (·.1)) (by simp;omega) _ _ (λy x q=>by have:=q.1;simp at this;omega) _ j;rw [n,ma,me] at g;exact g.mono λe w' ⟨v,h1,k,l⟩=>⟨v,h1,k,l.mono (by simp)⟩
theorem jV {α:Type} {w:ms} {B e k:Nat} {v:m4} {enc:α->List m4} {a:List α} (b:∀x,(enc x).length=k) (h:w.ownsRow B e k v a.length (a.flatMap enc)) (m:Nat) (f:m<a.length):
 ∃g c,v=hb (X ⟨g,0,Y⟩) a.length c/\g<w.heap.size/\∀i u,(enc a[m])[i]? =X u->w.cell? ⟨g,m * k+i,Y⟩=X u:=by
 rcases h.2 with ⟨rfl,q⟩|⟨g,l,p,rfl,_⟩
 · omega
 · refine ⟨g,l,rfl,(h.lt g (by simp [Value.ownBlock])).2,λi u j=>?_⟩;have o:i<k:=by rw [<- b a[m]];exact (List.getElem?_eq_some_iff.1 j).1
   have h1:=qh enc k b a m i f o;rw [j] at h1;have n:m * k+i<a.length * k:=by have:=Nat.mul_le_mul_right k (show m+1<=a.length from f);rw [Nat.succ_mul] at this;omega
   rw [h.cellAt _ n];exact h1
theorem oz (F:Nat->Prop) (w:ms) (c:Nat) (d:ar) (h:bf F w c d):
 mt prog 30 #[l6 (X ⟨c,0,Y⟩)] w λe w'=>e=l7 (S (encR d))/\Bw w w':=by
 obtain ⟨m1,m2,m3,kn,h⟩:=h;have G:=Z h;have HE:=Z (Cz h.ok)
 have aT:Hid (∀W,Bw w W->W.cell? ⟨c,0,Y⟩=X (.map m1)/\W.cell? ⟨c,1,Y⟩=X (.map m2)/\W.cell? ⟨c,2,Y⟩=X (.map m3)):=λW r=>
  ⟨(aa ((r.block _ (G.lt c G.fc)).trans G.blk) 0).trans rfl,(aa ((r.block _ (G.lt c G.fc)).trans G.blk) 1).trans rfl,(aa ((r.block _ (G.lt c G.fc)).trans G.blk) 2).trans rfl⟩
 obtain ⟨c0,c1,c2⟩:=aT w (lm _ _);obtain ⟨ps,q1,q2,q3⟩:=h.vs;have cc:=Z q1;have cP:=Z q2;have cQ:=Z q3;have ex:=h.ok.vlen;obtain ⟨N,hN⟩:=Qe d.vs.length;have ch:=Z (yi h);rw [hN] at ch ex;have HN:=Z hN;obtain ⟨i0,hi,dk,dp,dx⟩:=info_parts i9;have HI:=Z hi;have e4:=Z dk;have e5:=Z dp;have e6:=Z dx;clear h hN q1 q2 q3 hi dk dp dx;have HK:=Z (vK m1 w);go_enter func30,ntmps30
 go_wp2_with (first
  |(go_at_call 61;((with_reducible refine ls HK.o ?_);rintro e w1 ⟨rfl,rfl⟩))
  |(go_at_call 47;((with_reducible refine ls ch.o ?_);rintro e w2 ⟨v,rfl,Q,a2⟩;obtain ⟨va,vc,rfl⟩:=aK Q;have b7:=Z Q;have b8:=Z (((lm _ w).alloc (lk _) _).trans (a2.mono (by simp)));clear Q a2)))
 clear c0 c1 c2 HK ch;go_loopw [3,25] (λs i wr=>∃(k:Nat),k<=N/\i=J U k/\Hid (wr.ownsRow w2.heap.size 9 1 s ((d.vs.take k).flatMap verS).length (((d.vs.take k).flatMap verS).map bsV))/\Hid (Bw w2 wr)) (λ_ i _=>N - (intOf i).toNat)
 case atStart=>exact ⟨0,lx _,rfl,mc _ _ _ _,lm _ _⟩
 case round=>
  obtain ⟨k,hk,rfl,P,T⟩:=hrel;have V:Hid (Bw w wr):=b8.trans (T.mono b8.size);obtain ⟨c0,_,_⟩:=aT wr V.o;by_cases hlt:k<N
  · have av:k<d.vs.length:=by rw [HN.o];exact hlt
    have au:(d.vs.map (·.1)).length=N:=by rw [ma];exact HN.o
    have b2:k<(d.vs.map (·.1)).length:=by rw [au];exact hlt
    have Q:=b7.o;rw [<- au] at Q;obtain ⟨g,ca,he,hg,hc⟩:=jV (enc:=rkCells) (λ_=>rfl) Q k b2;injection he with he1 he2 he3
    subst he1 he3;have a1:d.vs[k]∈d.vs:=lE av;have ax:((d.vs.take (k+1)).flatMap verS)=((d.vs.take k).flatMap verS)++verS d.vs[k]:=fK _ _ _ av;rw [mP] at hc;obtain ⟨e,b1⟩:=Qe (d.vs[k]);rw [b1] at hc a1 ax;obtain ⟨⟨f,p⟩,n,⟨kd,lv,fs⟩⟩:=e;have g0:=hc 0 _ rfl;have g1:=hc 1 _ rfl;rw [<- (aE T.o).1 g _ hg] at g0 g1;rw [Nat.add_zero] at g0;have d4:Hid (wrongR ⟨kd,lv,fs⟩=0):=G.ok.right _ a1;have bD:Hid (rkOk (f,p)):=G.ok.vkey _ a1;have cz:Hid (i64B n):=G.ok.vnum _ a1;have al:∃x,findK ps (f,p)=X ((n,(⟨kd,lv,fs⟩:az)),x):=by
     rw [<- cc.o] at a1;obtain ⟨q,hq,he⟩:=List.mem_map.1 a1;obtain ⟨qk,qv,qx⟩:=q;injection he with h1 h2
     dsimp only at h1 h2;subst h1;subst h2;have hs:=G.ok.ok.vs;rw [<- cc.o] at hs;unfold aq at hs;rw [md] at hs;exact ⟨qx,(cR aN (l:=ps) hs).2 hq⟩
    obtain ⟨x,al⟩:=al;obtain ⟨lo,hi,d9,dc,_⟩:=cQ _ (qi al);have HF:Hid (ai 0 w.heap.size w x fs):=d9.mono (lx _) dc;obtain ⟨xa,xc,rfl⟩:=HF.shape;have cy:Hid (∀W,Bw w W->(mo 113 (.map m1) (.agg #[J U f,J U p]) false).run prog W= .ok (.agg #[J U f,J U p,J U n,J lb kd.toNat,J lb lv.toNat,hb xa fs.length xc]) W):=λW hW=>by have:=bQ.look (w:=W) (cP.block (λb r=>hW.block b (G.lt b (G.f1 b r)))) underlying113 jO (f,p) bD.o;rw [eW,al] at this;exact this
    have cq:∀o o',Bw w ((wr.alloc o).alloc o'):=λo o'=>(V.o.alloc V.o.size o).alloc (by have:=V.o.size;simp;omega) o';have cp:∀o,Bw w (wr.alloc o):=λo=>V.alloc V.size o;have er:=λo=>cy _ (cp o).drew;have eg:∀o,(wr.alloc o).cell? ⟨c,0,Y⟩=X (.map m1):=λo=>(aT _ (cp o)).1;have es:=λo o'=>cy _ (cq o o').drew;have ee:∀o o',((wr.alloc o).alloc o').cell? ⟨c,0,Y⟩=X (.map m1):=λo o'=>(aT _ (cq o o')).1;have aC:Hid (((d.vs.take (k+1)).flatMap verS)=((d.vs.take k).flatMap verS)++[intsR [f,p,n],(bE ⟨kd,lv,fs⟩).1]):=ax;have ay:Hid (((d.vs.take k).flatMap verS).length<=10000):=by have h1:=fh verS 2 (d.vs.take k) (λa _=>lk _);rw [ml] at h1;unfold Hid;omega
    have HW:Hid (∀W,Bw w W->mt prog 62 #[.agg #[J lb kd.toNat,J lb lv.toNat,hb xa fs.length xc]] W λe w'=>e=l7 (.tuple #[S (bE ⟨kd,lv,fs⟩).1,J U (bE ⟨kd,lv,fs⟩).2])/\Bw W w'):=λW r=>
     qL ⟨kd,lv,fs⟩ _ W ⟨_,rfl,(HF.kept (aX r (lk _))).mono (lk _) r.size⟩ (eo d4.o).2.2
    have e7:Hid (∀W b t,W.heap[b]? =X (fn #[J U f,J U p,J U n] t (0,0))->mt prog 63 #[hb (X ⟨b,0,Y⟩) 3 3] W λe w'=>e=l7 (S (intsR [f,p,n]))/\Bw W w'):=λW b t r=>
     pZ [f,p,n] _ W (za (cs:=[f,p,n].map intV) r) (λm hm=>by
      simp only [List.mem_cons,List.not_mem_nil,or_false] at hm
      rcases hm with rfl|rfl|rfl
      · exact bD.1
      · exact bD.2
      · exact cz.o) (by simp)
    generalize intsR [f,p,n]=T1 at *;generalize (bE ⟨kd,lv,fs⟩).1=T2 at *;generalize (bE ⟨kd,lv,fs⟩).2=e2 at *;obtain ⟨L,hL⟩:=Qe ((d.vs.take k).flatMap verS);rw [hL] at P aC ay;have f2:(k:Int)<(N:Int):=by omega
    clear d4 bD cz HF d9 dc al hc a1 ax b1 Q au b2 av hL cp cq hg;go_wp2_with fail
    go_region;obtain ⟨u,a3⟩:=Qe (((wr.alloc (fn #[J U f,J U p] 36)).alloc (fn #[J U f,J U p,J U n,J lb kd.toNat,J lb lv.toNat,hb xa fs.length xc] 64)).drew);have d7:u.heap[wr.heap.size]? =X (fn #[J U f,J U p] 36 (0,0)):=by rw [<- a3];exact (mf _ _ _ (by simp)).trans (lp wr _)
    have a9:u.heap[wr.heap.size+1]? =X (fn #[J U f,J U p,J U n,J lb kd.toNat,J lb lv.toNat,hb xa fs.length xc] 64 (0,0)):=by rw [<- a3];have:=lp (wr.alloc (fn #[J U f,J U p] 36)) (fn #[J U f,J U p,J U n,J lb kd.toNat,J lb lv.toNat,hb xa fs.length xc] 64);rw [me] at this;exact this
    have a8:Bw wr u:=by rw [<- a3];exact (((lm _ wr).alloc (lk _) _).alloc (by simp) _).drew
    rw [a3];have O:=Z a8;have I:=Z a9;have d5:=Z d7;have e1:Hid (Bw w u):=V.trans (a8.mono V.size);have bT:Hid (w2.heap.size<=wr.heap.size):=T.size;have c3:u.cell? ⟨wr.heap.size+1,3,Y⟩=X (J lb kd.toNat):=(aa a9 3).trans rfl;have c4:u.cell? ⟨wr.heap.size+1,4,Y⟩=X (J lb lv.toNat):=(aa a9 4).trans rfl;have c5:u.cell? ⟨wr.heap.size+1,5,Y⟩=X (hb xa fs.length xc):=(aa a9 5).trans rfl;clear a8 d7 a9 a3 g0 g1 c0 er es ee eg
    go_wp2_with (first
     |(go_at_call 62;((with_reducible refine ls (HW.o _ e1.o) ?_);rintro e y ⟨rfl,a2⟩;have e9:=Z ((a2.block _ (ae I.o)).trans I.o);have d6:=Z ((a2.block _ (ae d5.o)).trans d5.o);have d0:y.cell? ⟨wr.heap.size,0,Y⟩=X (J U f):=((aa d6.o 0).trans rfl);have d1:y.cell? ⟨wr.heap.size,1,Y⟩=X (J U p):=((aa d6.o 1).trans rfl);have d2:y.cell? ⟨wr.heap.size+1,2,Y⟩=X (J U n):=((aa e9.o 2).trans rfl);have a7:=Z (O.o.trans (a2.mono O.o.size));clear a2 c3 c4 c5))
     |(go_at_call 63;((with_reducible refine ls (e7.o _ _ _ (lp _ _)) ?_);rintro e W4 ⟨rfl,bk⟩;have aS:=Z (a7.o.trans (((lm _ y).alloc (lk _) _).mono a7.o.size |>.trans (bk.mono (by have:=a7.o.size;simp;omega))));clear bk))
     |(at_builtin;(refine wpList_append_own_at _ rfl _ _ 81 rfl w2.heap.size 9 i0 (.string ⟨#[]⟩) 1 16 underlying81 HI.o e4.o e5.o e6.o rfl Nat.one_pos u3 L.length (L.map bsV) ?_ ?_ ⟨W4.heap.size,0,Y⟩ 2 2 [S T1,S T2] ?_ ?_ ?_ ?_ ?_ ?_ ?_ ?_);(focus rfl);(focus exact ah P.o (λg hg=>((aS.o.alloc aS.o.size _).block g (P.o.lt g hg).2)));(focus rfl);(focus rfl);(focus exact cell_two_new _ _ _ _);(focus simp [Value.oneCell']);(focus (have:=ay.o;unfold maxLen;omega));(focus (have:=ay.o;omega));(focus (have:=aS.o.size;have:=bT.o;simp;omega));intro v' w7 dd da _ _;have b6:=Z dd;have e3:=Z da;clear dd da))
    go_roundw
    case rel=>
     refine ⟨k+1,by omega,by go_num,?_,?_⟩
     · unfold Hid;rw [aC.o,lB,List.map_append];exact b6.o
     · exact ((T.o.trans (aS.o.mono bT.o)).alloc (by have:=aS.o.size;have:=bT.o;omega) _).grown e3.o (by have:=aS.o.size;have:=bT.o;simp;omega) (λj ej=>(P.o.lt j ej).1)
    case measure=>simp [intOf];omega
  · have cd:Hid (wr.ownsRow w2.heap.size 9 1 u3 (d.vs.flatMap verS).length ((d.vs.flatMap verS).map bsV)):=by have:=P.o;rw [lQ (by rw [HN.o];omega)] at this;exact this
    have bA:Hid (∀W,Bw wr W->W.ownsRow w2.heap.size 9 1 u3 (d.vs.flatMap verS).length ((d.vs.flatMap verS).map bsV)):=λW r=>ah cd.o (λg hg=>r.block g (cd.lt g hg).2);clear P hk b7 cc cP cQ;obtain ⟨M,hM⟩:=Qe d.ds.length;have eQ:M<=5000:=by rw [<- hM];exact G.o.ok.dlen
    have c7q:=Z hM;have cl:=Z (xx (G.below V.o));rw [hM] at cl;have cv:=Z (A7 m2 wr);obtain ⟨_,c1,_⟩:=aT wr V.o;clear hM
    go_wp2_with (first
     |(go_at_call 64;((with_reducible refine ls cv.o ?_);rintro e w1 ⟨rfl,rfl⟩))
     |(go_at_call 47;((with_reducible refine ls cl.o ?_);rintro e wa ⟨v,rfl,Q,a2⟩;obtain ⟨va,f4,rfl⟩:=aK Q;have b7:=Z Q;have bt:=Z (((lm _ wr).alloc (lk _) _).trans (a2.mono (by simp)));clear Q a2)))
    clear c0 c1 cv cl hlt;have b9:Hid (Bw w wa):=V.trans (bt.mono V.size);have bA:Hid (∀W,Bw wa W->W.ownsRow w2.heap.size 9 1 u3 (d.vs.flatMap verS).length ((d.vs.flatMap verS).map bsV)):=λW r=>bA W (bt.trans (r.mono bt.size));clear T V bt cd;go_loopw [9,61] (λs i wr=>∃(k:Nat),k<=M/\i=J U k/\Hid (wr.ownsRow wa.heap.size 3 1 s ((d.ds.take k).flatMap dropI).length (((d.ds.take k).flatMap dropI).map intV))/\Hid (Bw wa wr)) (λ_ i _=>M - (intOf i).toNat)
    case atStart=>exact ⟨0,lx _,rfl,mc _ _ _ _,lm _ _⟩
    case round=>
     obtain ⟨k,hk,rfl,P,T⟩:=hrel;have V:Hid (Bw w wr):=b9.trans (T.mono b9.size);by_cases hlt:k<M
     · have av:k<d.ds.length:=by rw [c7q.o];exact hlt
       have au:(d.ds.map (·.1)).length=M:=by rw [ma];exact c7q.o
       have b2:k<(d.ds.map (·.1)).length:=by rw [au];exact hlt
       have Q:=b7.o;rw [<- au] at Q;obtain ⟨g,ca,he,hg,hc⟩:=jV (enc:=rkCells) (λ_=>rfl) Q k b2;injection he with he1 he2 he3
       subst he1 he3;have a1:d.ds[k]∈d.ds:=lE av;have ax:((d.ds.take (k+1)).flatMap dropI)=((d.ds.take k).flatMap dropI)++dropI d.ds[k]:=fK _ _ _ av;rw [mP] at hc;obtain ⟨e,b1⟩:=Qe (d.ds[k]);rw [b1] at hc a1 ax;obtain ⟨⟨f,p⟩,n⟩:=e;have g0:=hc 0 _ rfl;have g1:=hc 1 _ rfl;rw [<- (aE T.o).1 g _ hg] at g0 g1;rw [Nat.add_zero] at g0;have al:findK d.ds (f,p)=X n:=(cR aN (l:=d.ds) G.ok.ok.ds).2 a1;have c6:Hid (∀W,Bw w W->(mo 114 (.map m2) (.agg #[J U f,J U p]) false).run prog W= .ok (J U n) W):=λW hW=>by have:=bQ.look (w:=W) ((G.below hW).ds) underlying114 uT (f,p) (G.ok.dkey _ a1);rw [ea d.ds (λn=>Value.int U n),al] at this;exact this
       have aC:Hid (((d.ds.take (k+1)).flatMap dropI)=((d.ds.take k).flatMap dropI)++[f,p,n]):=ax;have ay:Hid (((d.ds.take k).flatMap dropI).length<=15000):=by have h1:=fh dropI 3 (d.ds.take k) (λa _=>lk _);rw [ml] at h1;unfold Hid;omega
       obtain ⟨L,hL⟩:=Qe ((d.ds.take k).flatMap dropI);rw [hL] at P aC ay;have eq:(k:Int)<(M:Int):=by omega
       clear al hc a1 ax b1 Q au b2 av hL hg;go_upto_region 15 with fail
       obtain ⟨u,a3⟩:=Qe (wr.alloc (fn #[J U f,J U p] 36));have a9:u.heap[wr.heap.size]? =X (fn #[J U f,J U p] 36 (0,0)):=by rw [<- a3];exact lp wr _
       have a8:Bw wr u:=by rw [<- a3];exact (lm _ wr).alloc (lk _) _
       rw [a3];have O:=Z (T.trans (a8.mono T.size));have b5:Hid (∀W,(Bw wa W/\W.heap[wr.heap.size]? =X (fn #[J U f,J U p] 36 (0,0)))->W.cell? ⟨c,1,Y⟩=X (.map m2)/\W.cell? ⟨wr.heap.size,0,Y⟩=X (J U f)/\W.cell? ⟨wr.heap.size,1,Y⟩=X (J U p)/\(mo 114 (.map m2) (.agg #[J U f,J U p]) false).run prog W= .ok (J U n) W):=λW ⟨r,hv⟩=>by have bp:Bw w W:=b9.trans (r.mono b9.size);exact ⟨(aT W bp).2.1,(aa hv 0).trans rfl,(aa hv 1).trans rfl,c6 W bp⟩
       have bO:Hid (∀W,Bw wr W->W.ownsRow wa.heap.size 3 1 u9 L.length (L.map intV)):=λW r=>ah P.o (λg hg=>r.block g (P.lt g hg).2);have a7:=Z a8;have I:=Z a9;have ac:Bw wa u.drew/\u.drew.heap[wr.heap.size]? =X (fn #[J U f,J U p] 36 (0,0)):=⟨O.drew,a9⟩;clear a9 a3 g0 g1;refine wT (λW=>Bw wa W/\W.heap[wr.heap.size]? =X (fn #[J U f,J U p] 36 (0,0))) 13 ?_;refine Qb [0,1,3,5,9,2,4,6,7,8] ac b5 ?_;refine tk 10 (J U n) rfl ac (λw' h=>?_) ?_
       · obtain ⟨h0,h1,h2,h3⟩:=b5 w' h;go_simp
       have b0:∀o,Bw wa (u.drew.alloc o)/\(u.drew.alloc o).heap[wr.heap.size]? =X (fn #[J U f,J U p] 36 (0,0)):=λo=>⟨ac.1.alloc O.size o,(mf _ _ _ (ae I.o)).trans I.o⟩;refine Dp 11 λK z=>?_;go_simp;refine z _ _ (λ_=>b0 _) ?_;clear z K;obtain ⟨R,a5⟩:=Qe ((u.alloc (fn #[J U f,J U p,J U n] 3)).drew);have hZ:R.heap[u.heap.size]? =X (fn #[J U f,J U p,J U n] 3 (0,0)):=by rw [<- a5];exact lp u _
       have a0:Bw u R:=by rw [<- a5];exact ((lm _ u).alloc (lk _) _).drew
       have a4:Bw wa R:=O.trans (a0.mono O.size);rw [a5];obtain ⟨v',w7,b4,b3,ao,_⟩:=mN R wa.heap.size u9 L [f,p,n] u.heap.size 3 (bO.o R (a7.o.trans (a0.mono a7.o.size))) hZ (by have:=ay.o;simp;omega) a4.size
       have ad:Bw wa w7/\w7.heap[wr.heap.size]? =X (fn #[J U f,J U p] 36 (0,0)):=
        ⟨a4.grown ao a4.size (λj ej=>(P.lt j ej).1),(ao.block _ (lP (ae I.o) a0.size) (λe=>absurd (P.lt _ e.symm).2 (Nat.lt_irrefl _))).trans ((a0.block _ (ae I.o)).trans I.o)⟩
       refine Dp 12 λK z=>?_;refine bM rfl rfl rfl b4 ?_;refine z _ _ (λ_=>ad) ?_;clear z K;refine Dl 13 ?_;have bb:=Z ad.1;have b6:=Z b3;clear ad b3 ao b4 a4 a0 hZ a5 b0 ac;go_wp2_with fail
       go_roundw
       case rel=>exact ⟨k+1,by omega,by go_num,by unfold Hid;rw [aC.o];exact b6.o,bb⟩
       case measure=>simp [intOf];omega
     · have cg:Hid (wr.ownsRow wa.heap.size 3 1 u9 (d.ds.flatMap dropI).length ((d.ds.flatMap dropI).map intV)):=by have:=P.o;rw [lQ (by rw [c7q.o];omega)] at this;exact this
       have bB:Hid (∀W,Bw wr W->W.ownsRow w2.heap.size 9 1 u3 (d.vs.flatMap verS).length ((d.vs.flatMap verS).map bsV)/\W.ownsRow wa.heap.size 3 1 u9 (d.ds.flatMap dropI).length ((d.ds.flatMap dropI).map intV)):=λW r=>
        ⟨bA W (T.trans (r.mono T.size)),ah cg.o (λg hg=>r.block g (cg.lt g hg).2)⟩
       clear P cg hk b7 bA;obtain ⟨Pn,bY⟩:=Qe d.ps.length;have f0:Pn<=5000:=by rw [<- bY];exact G.o.ok.plen
       have cb:=Z bY;have cm:=Z (zJ (G.below V.o));rw [bY] at cm;have cx:=Z (vJ m3 wr);obtain ⟨_,_,c2⟩:=aT wr V.o;clear bY
       go_wp2_with (first
        |(go_at_call 66;((with_reducible refine ls cx.o ?_);rintro e w1 ⟨rfl,rfl⟩))
        |(go_at_call 65;((with_reducible refine ls cm.o ?_);rintro e wb ⟨v,rfl,Q,a2⟩;obtain ⟨vb,f5,rfl⟩:=aK Q;have b7:=Z Q;have bw:=Z (((lm _ wr).alloc (lk _) _).trans (a2.mono (by simp)));clear Q a2)))
       clear c2 cx cm hlt;have bs:Hid (Bw w wb):=V.trans (bw.mono V.size);have bB:Hid (∀W,Bw wb W->W.ownsRow w2.heap.size 9 1 u3 (d.vs.flatMap verS).length ((d.vs.flatMap verS).map bsV)/\W.ownsRow wa.heap.size 3 1 u9 (d.ds.flatMap dropI).length ((d.ds.flatMap dropI).map intV)):=λW r=>bB W (bw.trans (r.mono bw.size));clear T V bw b9;go_loopw [10,86] (λs i wr=>∃(k:Nat),k<=Pn/\i=J U k/\Hid (wr.ownsRow wb.heap.size 3 1 s ((d.ps.take k).flatMap decI).length (((d.ps.take k).flatMap decI).map intV))/\Hid (Bw wb wr)) (λ_ i _=>Pn - (intOf i).toNat)
       case atStart=>exact ⟨0,lx _,rfl,mc _ _ _ _,lm _ _⟩
       case round=>
        obtain ⟨k,hk,rfl,P,T⟩:=hrel;have V:Hid (Bw w wr):=bs.trans (T.mono bs.size);by_cases hlt:k<Pn
        · have av:k<d.ps.length:=by rw [cb.o];exact hlt
          have au:(d.ps.map (·.1)).length=Pn:=by rw [ma];exact cb.o
          have b2:k<(d.ps.map (·.1)).length:=by rw [au];exact hlt
          have Q:=b7.o;rw [<- au] at Q;obtain ⟨g,ca,he,hg,hc⟩:=jV (enc:=pkCells) (λ_=>rfl) Q k b2;injection he with he1 he2 he3
          subst he1 he3;have a1:d.ps[k]∈d.ps:=lE av;have ax:((d.ps.take (k+1)).flatMap decI)=((d.ps.take k).flatMap decI)++decI d.ps[k]:=fK _ _ _ av;rw [mP] at hc;obtain ⟨e,b1⟩:=Qe (d.ps[k]);rw [b1] at hc a1 ax;obtain ⟨⟨⟨f,p⟩,D,E⟩,n,jb⟩:=e;have g0:=hc 0 _ rfl;have g1:=hc 1 _ rfl;have g2:=hc 2 _ rfl;have g3:=hc 3 _ rfl;rw [<- (aE T.o).1 g _ hg] at g0 g1 g2 g3;rw [Nat.add_zero] at g0;have al:findK d.ps ((f,p),D,E)=X (n,jb):=(cR cY (l:=d.ps) G.ok.ok.ps).2 a1;have c6:Hid (∀W,Bw w W->(mo 115 (.map m3) (.agg #[J U f,J U p,J U D,J U E]) false).run prog W= .ok (.agg #[J U n,ld jb]) W):=λW hW=>by have:=bQ.look (w:=W) ((G.below hW).ps) underlying115 fT ((f,p),D,E) (G.ok.pkey _ a1);rw [ea d.ps fo,al] at this;exact this
          have c9:Hid (((d.ps.take (k+1)).flatMap decI)=((d.ps.take k).flatMap decI)++[f,p,D,E,n,if jb then 1 else 0]):=ax;have ay:Hid (((d.ps.take k).flatMap decI).length<=30000):=by have h1:=fh decI 6 (d.ps.take k) (λa _=>lk _);rw [ml] at h1;unfold Hid;omega
          obtain ⟨L,hL⟩:=Qe ((d.ps.take k).flatMap decI);rw [hL] at P c9 ay;have eq:(k:Int)<(Pn:Int):=by omega
          clear al hc a1 ax b1 Q au b2 av hL hg;go_upto_region 21 with fail
          obtain ⟨u,a3⟩:=Qe (wr.alloc (fn #[J U f,J U p,J U D,J U E] 134));have a9:u.heap[wr.heap.size]? =X (fn #[J U f,J U p,J U D,J U E] 134 (0,0)):=by rw [<- a3];exact lp wr _
          have a8:Bw wr u:=by rw [<- a3];exact (lm _ wr).alloc (lk _) _
          rw [a3];have O:=Z (T.trans (a8.mono T.size));have b5:Hid (∀W,(Bw wb W/\W.heap[wr.heap.size]? =X (fn #[J U f,J U p,J U D,J U E] 134 (0,0)))->W.cell? ⟨c,2,Y⟩=X (.map m3)/\W.cell? ⟨wr.heap.size,0,Y⟩=X (J U f)/\W.cell? ⟨wr.heap.size,1,Y⟩=X (J U p)/\W.cell? ⟨wr.heap.size,2,Y⟩=X (J U D)/\W.cell? ⟨wr.heap.size,3,Y⟩=X (J U E)/\(mo 115 (.map m3) (.agg #[J U f,J U p,J U D,J U E]) false).run prog W= .ok (.agg #[J U n,ld jb]) W):=λW ⟨r,hv⟩=>by have bp:Bw w W:=bs.trans (r.mono bs.size);exact ⟨(aT W bp).2.2,(aa hv 0).trans rfl,(aa hv 1).trans rfl,(aa hv 2).trans rfl,(aa hv 3).trans rfl,c6 W bp⟩
          have bO:Hid (∀W,Bw wr W->W.ownsRow wb.heap.size 3 1 u10 L.length (L.map intV)):=λW r=>ah P.o (λg hg=>r.block g (P.lt g hg).2);have a7:=Z a8;have I:=Z a9;clear a9 a3 g0 g1 g2 g3;have em:=λW=>my n jb W;obtain ⟨h0,h1,h2,h3,h4,h5⟩:=b5 u ⟨O.o,I.o⟩;obtain ⟨_,_,_,_,_,h6⟩:=b5 u.drew ⟨O.drew,I.o⟩;go_region;clear h0 h1 h2 h3 h4 h5 h6 em a8;obtain ⟨y,bc⟩:=Qe u.drew;have I:Hid (y.heap[wr.heap.size]? =X (fn #[J U f,J U p,J U D,J U E] 134 (0,0))):=by rw [<- bc];exact I.o
          have O:Hid (Bw wb y):=by rw [<- bc];exact O.o.drew
          have a7:Hid (Bw wr y):=by rw [<- bc];exact a7.o.drew
          rw [bc];clear bc;cases jb
          · have aC:Hid (((d.ps.take (k+1)).flatMap decI)=L++[f,p,D,E,n,0]):=c9.o;go_upto_region 23 with fail
            have ac:Bw wb y.drew/\y.drew.heap[wr.heap.size]? =X (fn #[J U f,J U p,J U D,J U E] 134 (0,0)):=⟨O.drew,I.o⟩;refine wT (λW=>Bw wb W/\W.heap[wr.heap.size]? =X (fn #[J U f,J U p,J U D,J U E] 134 (0,0))) 23 ?_;refine Qb [0,1,4,7,10,13,17,20,2,5,8,11,14,3,6,9,12,15,16,18,19] ac b5 ?_;have b0:∀o,Bw wb (y.drew.alloc o)/\(y.drew.alloc o).heap[wr.heap.size]? =X (fn #[J U f,J U p,J U D,J U E] 134 (0,0)):=λo=>⟨ac.1.alloc O.size o,(mf _ _ _ (ae I.o)).trans I.o⟩;refine Dp 21 λK z=>?_;go_simp;refine z _ _ (λ_=>b0 _) ?_;clear z K;obtain ⟨R,a5⟩:=Qe ((y.alloc (fn #[J U f,J U p,J U D,J U E,J U n,J U 0] 3)).drew);have hZ:R.heap[y.heap.size]? =X (fn #[J U f,J U p,J U D,J U E,J U n,J U 0] 3 (0,0)):=by rw [<- a5];exact lp y _
            have a0:Bw y R:=by rw [<- a5];exact ((lm _ y).alloc (lk _) _).drew
            have a4:Bw wb R:=O.trans (a0.mono O.size);rw [a5];obtain ⟨v',w7,b4,b3,ao,_⟩:=mN R wb.heap.size u10 L [f,p,D,E,n,0] y.heap.size 3 (bO.o R (a7.o.trans (a0.mono a7.o.size))) hZ (by have:=ay.o;simp;omega) a4.size
            have ad:Bw wb w7/\w7.heap[wr.heap.size]? =X (fn #[J U f,J U p,J U D,J U E] 134 (0,0)):=
             ⟨a4.grown ao a4.size (λj ej=>(P.lt j ej).1),(ao.block _ (lP (ae I.o) a0.size) (λe=>absurd (P.lt _ e.symm).2 (Nat.lt_irrefl _))).trans ((a0.block _ (ae I.o)).trans I.o)⟩
            refine Dp 22 λK z=>?_;refine bM rfl rfl rfl b4 ?_;refine z _ _ (λ_=>ad) ?_;clear z K;refine Dl 23 ?_;have bb:=Z ad.1;have b6:=Z b3;clear ad b3 ao b4 a4 a0 hZ a5 b0 ac;go_wp2_with fail
            go_roundw
            case rel=>exact ⟨k+1,by omega,by go_num,by unfold Hid;rw [aC.o];exact b6.o,bb⟩
            case measure=>simp [intOf];omega
          · have aC:Hid (((d.ps.take (k+1)).flatMap decI)=L++[f,p,D,E,n,1]):=c9.o;go_upto_region 23 with fail
            have ac:Bw wb y.drew/\y.drew.heap[wr.heap.size]? =X (fn #[J U f,J U p,J U D,J U E] 134 (0,0)):=⟨O.drew,I.o⟩;refine wT (λW=>Bw wb W/\W.heap[wr.heap.size]? =X (fn #[J U f,J U p,J U D,J U E] 134 (0,0))) 23 ?_;refine Qb [0,1,4,7,10,13,17,20,2,5,8,11,14,3,6,9,12,15,16,18,19] ac b5 ?_;have b0:∀o,Bw wb (y.drew.alloc o)/\(y.drew.alloc o).heap[wr.heap.size]? =X (fn #[J U f,J U p,J U D,J U E] 134 (0,0)):=λo=>⟨ac.1.alloc O.size o,(mf _ _ _ (ae I.o)).trans I.o⟩;refine Dp 21 λK z=>?_;go_simp;refine z _ _ (λ_=>b0 _) ?_;clear z K;obtain ⟨R,a5⟩:=Qe ((y.alloc (fn #[J U f,J U p,J U D,J U E,J U n,J U 1] 3)).drew);have hZ:R.heap[y.heap.size]? =X (fn #[J U f,J U p,J U D,J U E,J U n,J U 1] 3 (0,0)):=by rw [<- a5];exact lp y _
            have a0:Bw y R:=by rw [<- a5];exact ((lm _ y).alloc (lk _) _).drew
            have a4:Bw wb R:=O.trans (a0.mono O.size);rw [a5];obtain ⟨v',w7,b4,b3,ao,_⟩:=mN R wb.heap.size u10 L [f,p,D,E,n,1] y.heap.size 3 (bO.o R (a7.o.trans (a0.mono a7.o.size))) hZ (by have:=ay.o;simp;omega) a4.size
            have ad:Bw wb w7/\w7.heap[wr.heap.size]? =X (fn #[J U f,J U p,J U D,J U E] 134 (0,0)):=
             ⟨a4.grown ao a4.size (λj ej=>(P.lt j ej).1),(ao.block _ (lP (ae I.o) a0.size) (λe=>absurd (P.lt _ e.symm).2 (Nat.lt_irrefl _))).trans ((a0.block _ (ae I.o)).trans I.o)⟩
            refine Dp 22 λK z=>?_;refine bM rfl rfl rfl b4 ?_;refine z _ _ (λ_=>ad) ?_;clear z K;refine Dl 23 ?_;have bb:=Z ad.1;have b6:=Z b3;clear ad b3 ao b4 a4 a0 hZ a5 b0 ac;go_wp2_with fail
            go_roundw
            case rel=>exact ⟨k+1,by omega,by go_num,by unfold Hid;rw [aC.o];exact b6.o,bb⟩
            case measure=>simp [intOf];omega
        · have d3:Hid (wr.ownsRow wb.heap.size 3 1 u10 (d.ps.flatMap decI).length ((d.ps.flatMap decI).map intV)):=by have:=P.o;rw [lQ (by rw [cb.o];omega)] at this;exact this
          have e0:Hid (∀W,Bw wr W->mt prog 68 #[u3] W λe w'=>e=l7 (S (packR (d.vs.flatMap verS)))/\Bw W w'):=λW r=>
           vz _ u3 W ((aP (bB.o W (T.o.trans (r.mono T.o.size))).1).mono (lx _) (lk _)) (λs hs=>lT (HE.o.vs s hs) (by omega)) (lT HE.o.vn (by omega)) (lT HE.o.vt (by omega))
          have dy:Hid (∀W,Bw wr W->mt prog 63 #[u9] W λe w'=>e=l7 (S (intsR (d.ds.flatMap dropI)))/\Bw W w'):=λW r=>
           pZ _ u9 W ((aP (bB.o W (T.o.trans (r.mono T.o.size))).2).mono (lx _) (lk _)) HE.o.di (lT HE.o.dn (by omega))
          have dz:Hid (∀W,Bw wr W->mt prog 63 #[u10] W λe w'=>e=l7 (S (intsR (d.ps.flatMap decI)))/\Bw W w'):=λW r=>
           pZ _ u10 W ((aP (ah d3.o (λg hg=>r.block g (d3.o.lt g hg).2))).mono (lx _) (lk _)) HE.o.pi (lT HE.o.pn (by omega))
          have e8:Hid (∀W b t,W.heap[b]? =X (fn #[S (packR (d.vs.flatMap verS)),S (intsR (d.ds.flatMap dropI)),S (intsR (d.ps.flatMap decI))] t (0,0))->mt prog 68 #[hb (X ⟨b,0,Y⟩) 3 3] W λe w'=>e=l7 (S (encR d))/\Bw W w'):=λW b t r=>
           vz [packR (d.vs.flatMap verS),intsR (d.ds.flatMap dropI),intsR (d.ps.flatMap decI)] _ W (za (cs:=[packR (d.vs.flatMap verS),intsR (d.ds.flatMap dropI),intsR (d.ps.flatMap decI)].map bsV) r) HE.o.l3 (by simp) HE.o.t3
          generalize packR (d.vs.flatMap verS)=A at *;generalize intsR (d.ds.flatMap dropI)=B at *;generalize intsR (d.ps.flatMap decI)=C at *;clear P hk
          go_wp2_with (first
           |(go_at_call_of 68 u3;((with_reducible refine ls (e0.o _ (lm _ _)) ?_);rintro e u ⟨rfl,a8⟩;have O:=Z a8;clear a8))
           |(go_at_call_of 63 u9;((with_reducible refine ls (dy.o _ O.o) ?_);rintro e y ⟨rfl,a2⟩;have b8:=Z (O.o.trans (a2.mono O.o.size));clear a2))
           |(go_at_call_of 63 u10;((with_reducible refine ls (dz.o _ b8.o) ?_);rintro e W3 ⟨rfl,d8⟩;have cu:=Z (b8.o.trans (d8.mono b8.o.size));clear d8))
           |(go_at_call 68;((with_reducible refine ls (e8.o _ _ _ (lp _ _)) ?_);rintro e W4 ⟨rfl,bk⟩;have aS:=Z bk;clear bk)))
          go_ret;have f3:=cu.size;have h3:Bw w W3:=V.trans (cu.mono V.size);exact ⟨rfl,(h3.alloc h3.size _).trans (aS.o.mono (by have:=h3.size;simp;omega))⟩
theorem ag.plus {F a G:Nat->Prop} {w w':ms} (s:ag F w a w'):ag (λk=>F k∨G k) w (λk=>a k∨G k) w':=
 ⟨s.os,s.tape,s.output,s.size,λk b c=>s.block k b (λh=>c (.inl h)),λk h=>h.elim (λh=>(s.new k h).imp .inl id) (λh=> .inl (.inr h))⟩
theorem i47:(prog.info? 47).map (λi=>(i.zero,i.size,i.bytes))=X (X (.agg #[J U 0,J U 0,J U 0,J U 0,J U 0,J U 0,J U 0,J U 0,J U 0,J U 0]),10,80):=by kernel_rfl
theorem ag.more' {F a G:Nat->Prop} {w w':ms} (s:ag F w a w') (h:∀k,G k->a k∨w.heap.size<=k):ag F w G w':=s.more h
def Al (w:ms) (v:m4) (n:Nat):Prop:=∃a e,v=hb a n e/\(n≠0->∃b c,a=X ⟨b,c,Y⟩/\b<w.heap.size/\∀j,j<n->∃x:Nat,x<256/\w.cell? ⟨b,c+j,Y⟩=X (J lb x))
theorem ox (l:List bG):(l.flatMap actL).length=l.length * 10:=by
 induction l with
 |nil=>rfl
 |cons x l ih=>rw [List.flatMap_cons,lB,ih,List.length_cons];show 10+_=_;omega
theorem ow {l:List bG}:∀u∈l.flatMap actL,u.oneCell'=true:=λu a=>by
 obtain ⟨x,_,a⟩:=List.mem_flatMap.1 a;simp [actL] at a;rcases a with rfl|rfl|rfl|rfl|rfl|rfl|rfl|rfl|rfl|rfl<;>rfl
def Am (W:ms) (b o:Nat) (x:bG):Prop:=(W.cell? ⟨b,o,Y⟩=X (J U x.k)/\W.cell? ⟨b,o+1,Y⟩=X (J U x.a)/\W.cell? ⟨b,o+2,Y⟩=X (J U x.b)/\W.cell? ⟨b,o+3,Y⟩=X (J U x.v))/\W.cell? ⟨b,o+4,Y⟩=X (J U x.q.a)/\W.cell? ⟨b,o+5,Y⟩=X (J U x.q.b)/\W.cell? ⟨b,o+6,Y⟩=X (J U x.q.c)/\W.cell? ⟨b,o+7,Y⟩=X (J U x.q.d)/\W.cell? ⟨b,o+8,Y⟩=X (J U x.q.e)/\W.cell? ⟨b,o+9,Y⟩=X (J U x.q.f)
theorem qI {w:ms} {lo g:Nat} {v:m4} {l:List bG} (h:aB lo g w v l.length (l.flatMap actL)) (k:Nat) (n:k<l.length):
 ∃b j o,v=hb (X ⟨b,j,Y⟩) l.length o/\lo<=b/\b<g/\∀W:ms,W.heap[b]? =w.heap[b]? ->Am W b (j+k * 10) l[k]:=by
 obtain ⟨a,c,rfl,t⟩:=h;have u:l.flatMap actL≠[]:=by intro e;cases List.flatMap_eq_nil_iff.1 e _ (lE n)
 obtain ⟨b,j,rfl,h1,q,r⟩:=t u;refine ⟨b,j,c,rfl,h1,q,λW s=>?_⟩;have f:∀i,i<10->W.cell? ⟨b,j+(k * 10+i),Y⟩=(actL l[k])[i]? :=λi g=>by have m:=cJ actL 10 (λ_=>rfl) l k n i g;have p:i<(actL l[k]).length:=g;rw [List.getElem?_eq_getElem p] at m ⊢;rw [m5 (a:=⟨b,_,Y⟩) s];exact r _ _ m
 simp only [<- Nat.add_assoc] at f;exact ⟨⟨(f 0 (by omega)).trans rfl,(f 1 (by omega)).trans rfl,(f 2 (by omega)).trans rfl,(f 3 (by omega)).trans rfl⟩,(f 4 (by omega)).trans rfl,(f 5 (by omega)).trans rfl,(f 6 (by omega)).trans rfl,(f 7 (by omega)).trans rfl,(f 8 (by omega)).trans rfl,(f 9 (by omega)).trans rfl⟩
theorem order_8 (v:m4) (l:List bG) (u:m4) (n:Nat) (w:ms) (h:mX w v l) (hu:Al w u n) (hn:n<=maxLen):mt prog 8 #[v,u] w λe w'=>e=l7 (ld true)/\Bw w w':=by
 have g8:=Z (wA w);obtain ⟨a,l1,rfl,_⟩:=id h.at_;obtain ⟨ua,uc,rfl,_⟩:=id hu;have HA:=Z h;have HU:=Z hu;clear h hu;go_enter func8,ntmps8;go_upto_region 2 with (go_at_call 10;((with_reducible refine ls g8.o ?_);rintro e w1 ⟨rfl,ay⟩;have cl:=Z ay;clear ay))
 obtain ⟨c,hc⟩:=Qe w1.heap.size;obtain ⟨w2,cd⟩:=Qe (w1.alloc (fn #[lf Y,lf Y,lf Y,l6 Y] 117));have z2:w2.heap.size=c+1:=by rw [<- cd, <- hc];simp
 obtain ⟨e,he⟩:=Qe w2.heap.size;obtain ⟨V,cg⟩:=Qe (w2.alloc (fn #[lf Y,lf Y,lf Y,l6 Y] 117));have z3:V.heap.size=c+2:=by rw [<- cg];simp [z2]
 have h6:Bw w1 w2:=by rw [<- cd];exact (lm _ w1).alloc (lk _) _
 have dz:Bw w2 V:=by rw [<- cg];exact (lm _ w2).alloc (lk _) _
 have hC:bf (λk=>k=c) V c cat0:=by have:=pO w1;rw [hc,cd] at this;exact this.below dz
 have hE:bf (λk=>k=e) V e cat0:=by have:=pO w2;rw [he,cg] at this;exact this
 have H1:=Z (ug w1);have H2:=Z (ug w2);rw [hc,cd] at H1;rw [he,cg] at H2;have HZ:Hid (w.heap.size<=c/\e=c+1/\V.heap.size=c+2):=⟨by rw [<- hc];exact cl.o.size,he.symm.trans z2,z3⟩;have b1:Hid (Bw w V):=cl.o.trans ((h6.trans (dz.mono (by omega))).mono cl.o.size);have HC:=Z hC;have HE:=Z hE;clear hc cd z2 he cg z3 h6 dz hC hE g8 cl;go_upto_region 3 with (go_at_call 32;((with_reducible refine ls H1.o ?_);rintro e wx ⟨rfl,s⟩;have s:=s.symm;subst s))
 go_upto_region 4 with (go_at_call 32;((with_reducible refine ls H2.o ?_);rintro e wx ⟨rfl,s⟩;have s:=s.symm;subst s))
 clear H1 H2;obtain ⟨N,hN⟩:=Qe l.length;have cy:N<=maxLen:=by rw [<- hN];exact HA.o.len
 have HN:=Z hN;have gs:=Z cy;rw [hN];clear hN cy;go_upto_region 8 with fail
 go_loopw [8,9] (λkv i wr=>∃(k:Nat) (ka:Option Addr) (kc:Nat),k<=N/\k<=30/\i=J U k/\kv= .slice ka (keptA (l.take k)).length kc/\Hid (wr.ownsRow V.heap.size 47 10 (.slice ka (keptA (l.take k)).length kc) (keptA (l.take k)).length ((keptA (l.take k)).flatMap actL))/\Hid (Bw V wr)) (λ_ i _=>N - (intOf i).toNat)
 case atStart=>exact ⟨0,Y,0,lx _,lx _,rfl,rfl,mc _ _ _ _,lm _ _⟩
 case round=>
  obtain ⟨k,ka,kc,hk,ex,rfl,rfl,R,HB⟩:=hrel;have aS:=vL k l (P:=tn) HA.ok;by_cases hlt:k<N/\k<30
  · obtain ⟨cQ,hJ⟩:=hlt;have f3:k<l.length:=by rw [HN.o];exact cQ
    have d0:=od l k f3;obtain ⟨K,hK⟩:=Qe (keptA (l.take k));rw [hK] at R aS d0;rw [hK];clear hK;obtain ⟨m,hm⟩:=Qe K.length;rw [hm] at R aS;rw [hm];have HM:=Z hm;have a9:=Z aS;clear hm aS;obtain ⟨b,g3,cv,hv,ay,ac,au⟩:=qI HA.at_ k f3;injection hv with hv1 hv2 hv3
    subst hv1;have hD:=au wr ((HB.block b (lP ac b1.size)).trans (b1.block b ac));have al:=HA.ok _ (lE f3);obtain ⟨x,hx⟩:=Qe (l[k]);rw [hx] at hD d0 al;have bw:=Z d0;have h4:=Z al;clear d0 al hx au hv2 hv3 ay ac;obtain ⟨⟨y0,y1,y2,y3⟩,y4,y5,y6,y7,y8,y9⟩:=hD;obtain ⟨G,hX⟩:=Qe wr.heap.size;obtain ⟨wX,d4⟩:=Qe (wr.alloc (.cells (actL x).toArray 47));have hA:Bw wr wX:=by rw [<- d4];exact (lm _ wr).alloc (lk _) _
    have ha:wX.heap[G]? =X (.cells (actL x).toArray 47 (0,0)):=by rw [<- d4, <- hX];exact lp wr _
    unfold actL at d4;have HX:=Z ha;have bt:=Z hA;clear ha hA;have i1:(k:Int)<N:=by omega
    have i2:(k:Int)<30:=by omega
    have cy:=gs.o;unfold maxLen at cy;go_upto_region 11 with fail
    clear d4 y0 y1 y2 y3 y4 y5 y6 y7 y8 y9 i1 i2;go_upto_region 13 with fail
    have k1:=R;obtain ⟨g4,hS⟩:∃w',wr=w':=⟨_,rfl⟩;rw [hS] at R HB bt hX;clear hS k1;go_loopw [11,12] (λf j wi=>∃jj:Nat,jj<=m/\j=J U jj/\f=ld ((K.take jj).all (λy=> !dR y x))/\Hid (Bw wX wi)) (λ_ j _=>m - (intOf j).toNat)
    case atStart=>exact ⟨0,lx _,rfl,rfl,lm _ _⟩
    case round=>
     obtain ⟨j,hj,rfl,rfl,HI⟩:=hrel;by_cases hjm:j<m
     · have es:j<K.length:=by rw [HM.o];exact hjm
       have aT:aB V.heap.size g4.heap.size g4 (hb ka m kc) K.length (K.flatMap actL):=by rw [HM.o];exact aP R.o
       obtain ⟨g,go,gc,kx,kb,em,er⟩:=qI aT j es;injection kx with hvk1 hvk2 hvk3
       subst hvk1;have g1:=(a9.2.2) _ (lE es);have fr:(K.take (j+1)).all (λy=> !dR y x)=((K.take j).all (λy=> !dR y x)&& !dR K[j] x):=by rw [List.take_succ_eq_append_getElem es,List.all_append];simp
       obtain ⟨y,hy⟩:=Qe (K[j]);rw [hy] at g1 fr er;have b3:=Z fr;have b8:Hid (∀W:ms,Bw wr W->(W.cell? ⟨g,go+j * 10,Y⟩=X (J U y.k)/\W.cell? ⟨g,go+j * 10+1,Y⟩=X (J U y.a)/\W.cell? ⟨g,go+j * 10+2,Y⟩=X (J U y.b))/\W.cell? ⟨G,0,Y⟩=X (J U x.k)/\W.cell? ⟨G,1,Y⟩=X (J U x.a)/\W.cell? ⟨G,2,Y⟩=X (J U x.b)):=λW hW=>by have hI:=lP em bt.size;obtain ⟨⟨h0,h1,I,_⟩,_⟩:=er W ((hW.block g (lP hI HI.size)).trans ((HI.block g hI).trans (bt.block g em)));have hh:=ae HX.o;have hx:=((hW.block G (lP hh HI.size)).trans (HI.block G hh)).trans HX.o;exact ⟨⟨h0,h1,I⟩,(aa hx 0).trans rfl,(aa hx 1).trans rfl,(aa hx 2).trans rfl⟩
       have cm:Hid (∀n,i64B n->∀W,Bw wr W->mt prog 20 #[J U n] W λe w'=>e=l7 (recK (recI n))/\Bw wr w'):=λn hn W D=>(pF n W hn).mono λe w' h=>⟨h.1,D.trans (h.2.mono D.size)⟩;have cs:Hid (∀W,mt prog 24 #[J U x.k,J U 8] W λe w'=>e=l7 (J U (x.k.emod 8))/\W=w'):=λW=>gV x.k 8 W (by omega) (by omega);have gq:Hid (∀W,mt prog 24 #[J U y.k,J U 8] W λe w'=>e=l7 (J U (y.k.emod 8))/\W=w'):=λW=>gV y.k 8 W (by omega) (by omega);obtain ⟨⟨s0,s1,s2⟩,s3,s4,s5⟩:=b8 wr (lm _ _);obtain ⟨f0,ej⟩:=Qe ((K.take j).all (λy=> !dR y x));rw [ej] at b3;rw [ej];have h5:=Z g1;clear g1 fr ej er kb em aT hy hvk2 hvk3;have i1:(j:Int)<m:=by omega
       have kl:=a9.1;obtain ⟨p,hp⟩:=Qe (x.k.emod 8);obtain ⟨q,B⟩:=Qe (y.k.emod 8);rw [hp] at cs;rw [B] at gq;have HP:=Z hp;have HQ:=Z B;clear hp B;go_upto_region 17 with (go_at_call 24;((with_reducible refine ls (gq.o _) ?_);rintro e wx ⟨rfl,s⟩;have s:=s.symm;subst s))
       clear s0 s1 s2 s3 s4 s5 i1;obtain ⟨⟨s0,s1,s2⟩,s3,s4,s5⟩:=b8 wx (lm _ _);by_cases h1:(p<5↔q<5)/\(5<p↔5<q)
       · have f1:=h1.1;have f2:(decide (5<p)==decide (5<q))=true:=by simp [h1.2]
         go_upto_region 18 with (go_at_call 24;((with_reducible refine ls (cs.o _) ?_);rintro e wy ⟨rfl,s⟩;have s:=s.symm;subst s))
         go_wp2_with fail
         obtain ⟨⟨hY,i0⟩,ft⟩:∃r,recI x.a=r:=⟨_,rfl⟩;obtain ⟨⟨ia,ib⟩,fx⟩:∃r,recI x.b=r:=⟨_,rfl⟩;obtain ⟨⟨it,iD⟩,fz⟩:∃r,recI y.a=r:=⟨_,rfl⟩;obtain ⟨⟨iF,iN⟩,g0⟩:∃r,recI y.b=r:=⟨_,rfl⟩;have C1:=cm x.a h4.a;have C2:=cm y.a h5.a;have C3:=cm x.b h4.b;have C4:=cm y.b h5.b;rw [ft] at C1;rw [fz] at C2;rw [fx] at C3;rw [g0] at C4;unfold recK at C1 C2 C3 C4;dsimp only at C1 C2 C3 C4;obtain ⟨sm,f9⟩:=Qe (decide (hY=it/\i0=iD));obtain ⟨t1,fl⟩:=Qe (decide (hY=iF/\i0=iN));obtain ⟨t2,fp⟩:=Qe (decide (ia=it/\ib=iD));obtain ⟨e1,e9⟩:=Qe (decide (ia=iF/\ib=iN));obtain ⟨g5,eq⟩:=Qe (decide (5<q));have cz:dR y x=((g5&&((t1&&t2)||(sm&&e1)))||(!g5&&sm)):=by unfold dR;rw [HP.o,HQ.o,if_pos ⟨decide_eq_decide.2 f1,decide_eq_decide.2 h1.2⟩,ft,fx,fz,g0, <- f9, <- fl, <- fp, <- e9, <- eq];simp only [Prod.mk.injEq,Bool.decide_and];by_cases h:5<q<;>simp [h]
         rw [cz] at b3;have d5:=Z C1;have d6:=Z C2;have d7:=Z C3;have d8:=Z C4;have gz:=Z f9;have gO:=Z fl;have gP:=Z fp;have gi:=Z e9;have a5:Bw wy wy.drew:=(lm _ _).drew;rw [eq];clear C1 C2 C3 C4 ft fx fz g0 cz s0 s1 s2 s3 s4 s5 f9 fl fp e9 eq;refine Wb wy 999 ?_;refine Qd [0,1,3,4,5,6,7] a5 b8.o ?_;refine call1 2 a5 d5.o λW1 ay=>?_;refine call1 8 ay d6.o λW2 ac=>?_;refine Qh [9] ac gz.o ?_;refine Qc [10] ac ?_;refine dN ?_;have a3:=Z ac;clear a5 ay ac;go_upto_region 19 with fail
         go_cut [16] (λt W=>t=ld (t1&&t2)/\Hid (Bw wy W))
         case first=>
          go_wp2_with fail
          have a5:Bw wy W2.drew:=a3.drew;refine Wb wy 999 ?_;refine Qd [0,1,3,4,5,6,7] a5 b8.o ?_;refine call1 2 a5 d5.o λW3 k6=>?_;refine call1 8 k6 d8.o λW4 bb=>?_;refine Qh [9] bb gO.o ?_;refine Qc [10] bb ?_;cases t1 with
          |false=>
           refine Qg [11,14,15,12,16,17,18,13,19,20] bb ?_;refine Qc [21,22] bb ?_;refine dN ?_;go_wp2_with fail
           go_meet;exact ⟨rfl,bb⟩
          |true=>
           refine Qd [11,12,14,15,16,17,18] bb b8.o ?_;refine call1 13 bb d7.o λW5 e6=>?_;refine call1 19 e6 d6.o λW6 bc=>?_;refine Qh [20] bc gP.o ?_;refine Qc [21,22] bc ?_;refine dN ?_;go_wp2_with fail
           go_meet;exact ⟨rfl,bc⟩
         case rest=>
          obtain ⟨rfl,b1⟩:=hcut;clear a3;obtain ⟨tt,fs⟩:=Qe ((t1&&t2));rw [fs] at b3;rw [fs];clear fs gO gP d5 d6 gz;go_upto_region 20 with fail
          go_cut [17] (λt W=>t=ld (sm&&e1)/\Hid (Bw wy W))
          case first=>
           go_wp2_with fail
           have a5:Bw wy wc.drew:=b1.drew;refine Wb wy 999 ?_;refine Qc [0,1] a5 ?_;cases sm with
           |false=>
            refine Qg [2,3,5,6,7,8,9,4,10,11] a5 ?_;refine Qc [12,13] a5 ?_;refine dN ?_;go_wp2_with fail
            go_meet;exact ⟨rfl,a5⟩
           |true=>
            refine Qd [2,3,5,6,7,8,9] a5 b8.o ?_;refine call1 4 a5 d7.o λW5 e6=>?_;refine call1 10 e6 d8.o λW6 bc=>?_;refine Qh [11] bc gi.o ?_;refine Qc [12,13] bc ?_;refine dN ?_;go_wp2_with fail
            go_meet;exact ⟨rfl,bc⟩
          case rest=>
           obtain ⟨rfl,g9⟩:=hcut;obtain ⟨ee,eg⟩:=Qe ((sm&&e1));rw [eg] at b3;rw [eg];clear eg b1 gi d7 d8;have jb:Hid (Bw wX wc):=HI.trans (g9.mono HI.size);clear HI g9 b8;go_wp2_with fail
           all_goals
            go_roundw
            case rel=>exact ⟨j+1,hjm,by go_num,by rw [b3.o];simp_all,jb⟩
            case measure=>simp [intOf];omega
       · have cz:dR y x=false:=by unfold dR;rw [HP.o,HQ.o,if_neg (λh=>h1 ⟨decide_eq_decide.1 h.1,decide_eq_decide.1 h.2⟩)]
         rw [cz,Bool.not_false,Bool.and_true] at b3;by_cases I:p<5↔q<5
         · have f2:(decide (5<p)==decide (5<q))=false:=by rw [beq_eq_false_iff_ne];exact λh=>h1 ⟨I,decide_eq_decide.1 h⟩
           clear h1;go_wp2_with (go_at_call 24;((with_reducible refine ls (cs.o _) ?_);rintro e wy ⟨rfl,s⟩;have s:=s.symm;subst s))
           go_roundw
           case rel=>exact ⟨j+1,hjm,by go_num,by rw [b3.o],HI⟩
           case measure=>simp [intOf];omega
         · clear h1;go_wp2_with (go_at_call 24;((with_reducible refine ls (cs.o _) ?_);rintro e wy ⟨rfl,s⟩;have s:=s.symm;subst s))
           go_roundw
           case rel=>exact ⟨j+1,hjm,by go_num,by rw [b3.o],HI⟩
           case measure=>simp [intOf];omega
     · have kd:j=m:=by omega
       subst kd;have bO:kH K x=if K.all (λy=> !dR y x) then K++[x] else K:=rfl
       rw [lQ (by rw [HM.o];exact lk _)];have HW:Hid (Bw g4 wr):=bt.trans (HI.mono bt.size);have dn:Hid (wr.ownsRow V.heap.size 47 10 (hb ka j kc) j (K.flatMap actL)):=ah R.o (λg hg=>HW.block g (R.lt g hg).2);have a3:Hid (Bw V wr):=HB.trans (HW.mono HB.size);have ch:wr.heap[G]? =X (.cells (actL x).toArray 47 (0,0)):=(HI.block G (ae HX.o)).trans HX.o;have ao:=Z ch;have k0:=Z a9.1;have ky:Hid (G<wr.heap.size):=ae ch;clear ch HX bt HI HW R hX hj hjm;by_cases hf:K.all (λy=> !dR y x)=true
       · rw [hf,if_pos rfl] at bO;rw [hf];rw [bO] at bw;clear bO hf;have kl:=k0.o;have y0:wr.cell? ⟨G,0,Y⟩=X (J U x.k):=(aa ao.o 0).trans rfl;have y1:wr.cell? ⟨G,1,Y⟩=X (J U x.a):=(aa ao.o 1).trans rfl;have y2:wr.cell? ⟨G,2,Y⟩=X (J U x.b):=(aa ao.o 2).trans rfl;have y3:wr.cell? ⟨G,3,Y⟩=X (J U x.v):=(aa ao.o 3).trans rfl;have y4:wr.cell? ⟨G,4,Y⟩=X (J U x.q.a):=(aa ao.o 4).trans rfl;have y5:wr.cell? ⟨G,5,Y⟩=X (J U x.q.b):=(aa ao.o 5).trans rfl;have y6:wr.cell? ⟨G,6,Y⟩=X (J U x.q.c):=(aa ao.o 6).trans rfl;have y7:wr.cell? ⟨G,7,Y⟩=X (J U x.q.d):=(aa ao.o 7).trans rfl;have y8:wr.cell? ⟨G,8,Y⟩=X (J U x.q.e):=(aa ao.o 8).trans rfl;have y9:wr.cell? ⟨G,9,Y⟩=X (J U x.q.f):=(aa ao.o 9).trans rfl;go_wp2_with (at_builtin;refine CF (actL x) (World.ownsRow.alloc dn.o _) (xM _ _ _) underlying22 i47 (by have:=a3.o.size;simp;omega) ?_ (h1:=by simp [actL,Value.oneCell']);intro v' w5 ho hg _;obtain ⟨va,vc,rfl⟩:=bF ho;have cx:=Z ho;have jn:=Z hg;clear ho hg)
         go_roundw
         case rel=>
          refine ⟨k+1,va,vc,cQ,hJ,by go_num,by rw [bw.o,lB,HM.o];rfl,?_,?_⟩
          · unfold Hid;rw [bw.o,lB,HM.o,mb];exact cx.o
          · exact (a3.o.alloc a3.o.size _).grown jn.o (by have:=a3.o.size;simp;omega) (λg hg=>(dn.o.lt g hg).1)
         case measure=>simp [intOf];omega
       · have hf:=Bool.eq_false_iff.2 hf;rw [hf,if_neg (by decide)] at bO;rw [hf];rw [bO] at bw;clear bO hf;go_wp2_with fail
         go_roundw
         case rel=> refine ⟨k+1,ka,kc,cQ,hJ,by go_num,by rw [bw.o,HM.o],?_,a3.o⟩;unfold Hid;rw [bw.o,HM.o];exact dn.o
         case measure=>simp [intOf];omega
  · go_upto_region 8 with fail
    go_cut [40] (λt W=>t=ld false/\W=wr)
    case first=>
     by_cases cQ:k<N
     · have i1:(k:Int)<N:=by omega
       have i2:¬(k:Int)<30:=by omega
       go_wp2_with fail
       go_meet;exact ⟨rfl,rfl⟩
     · have i1:¬(k:Int)<N:=by omega
       go_wp2_with fail
       go_meet;exact ⟨rfl,rfl⟩
    case rest=>
     obtain ⟨rfl,rfl⟩:=hcut;obtain ⟨K,hK⟩:=Qe (keptA (l.take k));rw [hK] at R aS;rw [hK];obtain ⟨m,hm⟩:=Qe K.length;rw [hm] at R aS;rw [hm];have HM:=Z hm;have a9:Hid (m<=30/\(∀M:List bG,M.Perm K->runC M cat0=runC K cat0)/\∀x∈K,tn x):=⟨by omega,λM h=>wW h aS.2.1 (by omega),aS.2.2⟩;clear hm aS hK hlt hk ex HA HN gs;obtain ⟨p,hp⟩:=Qe wc.heap.size;obtain ⟨Q,ad⟩:=Qe (wc.alloc (fn #[hb Y 0 0,hb Y 0 0,hb Y 0 0] 34));have zp:Q.heap.size=p+1:=by rw [<- ad, <- hp];simp
     obtain ⟨T,hT⟩:=Qe Q.heap.size;obtain ⟨wZ,b0⟩:=Qe (Q.alloc (fn #[l6 (X ⟨c,0,Y⟩),l6 (X ⟨p,0,Y⟩)] 27));have bp:Bw wc Q:=by rw [<- ad];exact (lm _ wc).alloc (lk _) _
     have bT:Bw Q wZ:=by rw [<- b0];exact (lm _ Q).alloc (lk _) _
     have b5:=Z (yW wc);rw [hp,ad] at b5;go_upto_region 25 with (go_at_call 33;((with_reducible refine ls b5.o ?_);rintro e wx ⟨rfl,s⟩;have s:=s.symm;subst s))
     obtain ⟨T,hT⟩:=Qe (p+1);rw [hT] at zp;rw [hT];have k9:=HZ.o;have k7:=HB.size;have cP:c<p/\e<p/\c≠e/\V.heap.size<=p/\c<V.heap.size/\e<V.heap.size:=by omega
     have zT:wZ.heap.size=T+1:=by rw [<- b0];simp [zp]
     have c7q:wZ.heap[T]? =X (fn #[l6 (X ⟨c,0,Y⟩),l6 (X ⟨p,0,Y⟩)] 27 (0,0)):=by rw [<- b0, <- zp];exact lp Q _
     have dx:Hid (aB V.heap.size p wc (hb ka m kc) K.length (K.flatMap actL)):=by unfold Hid;rw [HM.o, <- hp];exact aP R.o
     have c5:cA (λq=>q=p) Q p cat0:=by have:=vC wc;rw [hp,ad] at this;exact this
     have HP:Hid (ce (λq=>q=c) (λq=>q=p) wZ c p cat0):=⟨((HC.o.below HB.o).below bp).below bT,c5.below bT,λq h1 I=>by omega⟩;have h7:Bw wc wZ:=bp.trans (bT.mono bp.size);have F:Hid (ag (λq=>q=c) wc (λq=>q=c∨q=p) wZ):=(ag.of_below h7).more (λq B=>by rcases B with h1|h1;exact .inl h1;exact .inr (by omega));have a0:=Z c7q;have a6:=Z cP;have ax:Hid (wc.heap.size=p/\p+1=T):=⟨hp,hT⟩;have gd:Hid (bf (λq=>q=e) wc e cat0):=HE.below HB.o;have d9:Hid (Bw w wc):=b1.trans (HB.mono b1.size);have c3:Hid (w.heap.size<=c/\w.heap.size<=e):=by unfold Hid;omega
     have l3:=a9.1;clear hp ad zp hT b0 bp bT b5 k9 k7 cP zT c7q c5 h7 R HB b1 HC HE HZ;go_upto_region 26 with fail
     go_loopw [19] (λi wr=>∃(k:Nat) (FC FM:Nat->Prop),k<=m/\i=J U k/\Hid (ce FC FM wr c p (runC (K.take k) cat0))/\Hid (ag (λq=>q=c) wc (λq=>FC q∨FM q) wr)/\Hid (¬FC T/\¬FM T)/\Hid (wr.heap[T]? =X (fn #[l6 (X ⟨c,0,Y⟩),l6 (X ⟨p,0,Y⟩)] 27 (0,0)))) (λi _=>m - (intOf i).toNat)
     case atStart=>exact ⟨0,_,_,lx _,rfl,HP.o,F.o,⟨λh=>by have:=ax.o;have:=a6.o;omega,λh=>by have:=ax.o;omega⟩,a0.o⟩
     case round=>
      clear HP F a0;obtain ⟨k,FC,FM,hk,rfl,HP,F,a4,a0⟩:=hrel;by_cases hkm:k<m
      · have eQ:k<K.length:=by rw [HM.o];exact hkm
        obtain ⟨b,g3,cv,hv,ay,ac,au⟩:=qI dx.o k eQ;injection hv with hv1 hv2 hv3
        subst hv1;have hB:wr.heap[b]? =wc.heap[b]? :=F.o.block b (by have:=ax.o;omega) (λe=>by have:=a6.o;omega);have al:=a9.2.2 _ (lE eQ);have f6:=yC K k eQ;obtain ⟨x,hx⟩:=Qe (K[k]);rw [hx] at au f6 al;have f7:wr.drew.heap[b]? =wr.heap[b]? /\wr.drew.heap[T]? =wr.heap[T]? :=⟨rfl,rfl⟩;have HY:Hid (∀W:ms,(W.heap[b]? =wr.heap[b]? /\W.heap[T]? =wr.heap[T]?)->(W.cell? ⟨T,0,Y⟩=X (l6 (X ⟨c,0,Y⟩))/\W.cell? ⟨T,1,Y⟩=X (l6 (X ⟨p,0,Y⟩)))/\Am W b (g3+k * 10) x):=λW hW=>⟨⟨(aa (hW.2.trans a0.o) 0).trans rfl,(aa (hW.2.trans a0.o) 1).trans rfl⟩,au W (hW.1.trans hB)⟩;unfold Am at HY;have dc:=Z (BV FC FM wr.drew c p _ (HP.below (lm _ wr).drew) x.k x.a x.b x.v x.q.a x.q.b x.q.c x.q.d x.q.e x.q.f al);have a8:Hid (b≠c/\b<p):=⟨λe=>by have:=a6.o;omega,ac⟩;have k4:=Z f6;clear hv2 hv3 ay ac au hB hx al f6;have i1:(k:Int)<m:=by omega
        go_upto_region 28 with fail
        refine wT (λW:ms=>W.heap[b]? =wr.heap[b]? /\W.heap[T]? =wr.heap[T]?) 999 ?_;refine Qd [0,1,2,3,4] f7 HY.o ?_;refine Dp 5 λO hO=>?_;go_simp;go_at_call 13;with_reducible refine ls dc.o ?_
        rintro e5 w5 ⟨g6,g7,rfl,cb,a7⟩;have b4:=ae a0.o;have e3:∀q,q<wr.heap.size->¬FC q->¬FM q->w5.heap[q]? =wr.heap[q]? :=λq h1 I h3=>a7.block q h1 (λh=>h.elim I h3);have e7:¬FC b/\¬FM b:=⟨λh=>by rcases F.o.new b (.inl h) with h1|h1;exact a8.o.1 h1;have:=ax.o;have:=a8.o;omega,λh=>by rcases F.o.new b (.inr h) with h1|h1;exact a8.o.1 h1;have:=ax.o;have:=a8.o;omega⟩;have c6:w5.heap[b]? =wr.heap[b]? /\w5.heap[T]? =wr.heap[T]? :=⟨e3 b (by have:=F.o.size;have:=ax.o;have:=a8.o;omega) e7.1 e7.2,e3 T b4 a4.o.1 a4.o.2⟩;have bB:=Z c6;have b7:=Z cb;have HS:=Z (F.trans ((ag.of_below (lm _ wr).drew).trans a7));have cu:Hid (¬g6 T/\¬g7 T):=⟨λh=>by rcases a7.new T (.inl h) with h1|h1;exact h1.elim a4.1 a4.2;exact absurd b4 (Nat.not_lt.2 h1),λh=>by rcases a7.new T (.inr h) with h1|h1;exact h1.elim a4.1 a4.2;exact absurd b4 (Nat.not_lt.2 h1)⟩;clear cb a7 c6 e7 e3 b4;refine hO _ _ (λ_=>bB.o) ?_;clear hO O;go_simp;refine dN ?_;go_wp2_with fail
        go_roundw
        case rel=> refine ⟨k+1,g6,g7,hkm,by go_num,?_,HS.o,cu.o,bB.2.trans a0.o⟩;unfold Hid;rw [k4.o];exact b7.o
        case measure=>simp [intOf];omega
      · have kk:k=m:=by omega
        subst kk;rw [lQ (by rw [HM.o];exact lk _)] at HP;have i1:¬(k:Int)<k:=by omega
        obtain ⟨d,hd⟩:=Qe (runC K cat0);rw [hd] at HP;have HD:=Z hd;have dy:Hid (d.vs.length<=1000):=by unfold Hid;rw [<- hd];exact wI K (by rw [HM.o];exact a9.o.1)
        have dd:Hid (∀q,q<p->q≠c->wr.heap[q]? =wc.heap[q]?):=λq h1 I=>F.o.block q (by have:=ax.o;omega) I;have gb:Hid (bf FC wr c d):=HP.cat;have cp:Hid (∀q,FC q->(q=c∨p<=q)/\q<wr.heap.size):=λq h=>⟨by rcases F.o.new q (.inl h) with h1|h1;exact .inl h1;exact .inr (by have:=ax.o;omega),HP.o.cat.lt q h⟩;have gn:Hid (bf (λq=>q=e) wr e cat0):=gd.step (λq B=>by subst B;exact dd q a6.2.1 (Ne.symm a6.2.2.1)) F.size;have gy:Hid (aB V.heap.size p wr (hb ka k kc) K.length (K.flatMap actL)):=dx.o.kept (λq h1 I=>dd.o q I (by have:=a6.o;omega));have a3:Hid (Bw w wr):=d9.o.trans (F.o.below (λq B=>by have:=c3.o;omega) d9.o.size).1;have b2:Hid (p<wr.heap.size):=by have:=ae a0.o;have:=ax.o;unfold Hid;omega
        clear hd HP F a4 a0 hk hkm dx gd d9 dd;obtain ⟨C,ca⟩:=Qe wr.heap.size;obtain ⟨Q,ad⟩:=Qe (wr.alloc (fn #[hb Y 0 0,hb Y 0 0,hb Y 0 0] 34));have zp:Q.heap.size=C+1:=by rw [<- ad, <- ca];simp
        obtain ⟨A,e4⟩:=Qe (C+1);rw [e4] at zp;obtain ⟨wZ,b0⟩:=Qe (Q.alloc (fn #[l6 (X ⟨e,0,Y⟩),l6 (X ⟨C,0,Y⟩)] 27));have zT:wZ.heap.size=A+1:=by rw [<- b0];simp [zp]
        obtain ⟨wD,d3⟩:=Qe (wZ.alloc (fn #[] 47));have b5:=Z (yW wr);rw [ca,ad] at b5;go_upto_region 30 with (go_at_call 33;((with_reducible refine ls b5.o ?_);rintro e wx ⟨rfl,s⟩;have s:=s.symm;subst s))
        have bp:Bw wr Q:=by rw [<- ad];exact (lm _ wr).alloc (lk _) _
        have bT:Bw Q wZ:=by rw [<- b0];exact (lm _ Q).alloc (lk _) _
        have bD:Bw wZ wD:=by rw [<- d3];exact (lm _ wZ).alloc (lk _) _
        have b9:Bw wr wD:=(bp.trans (bT.mono bp.size)).trans (bD.mono (lT bp.size bT.size));have c7q:wZ.heap[A]? =X (fn #[l6 (X ⟨e,0,Y⟩),l6 (X ⟨C,0,Y⟩)] 27 (0,0)):=by rw [<- b0, <- zp];exact lp Q _
        have h9:wD.heap[A+1]? =X (fn #[] 47 (0,0)):=by rw [<- d3, <- zT];exact lp wZ _
        have zD:wD.heap.size=A+2:=by rw [<- d3];simp [zT]
        have c5:cA (λq=>q=C) Q C cat0:=by have:=vC wr;rw [ca,ad] at this;exact this
        have ex:=a9.1;obtain ⟨la,lc,wL,cc,d2,aC,hQ⟩:=zO underlying22 i47 wD (A+1) k (hb ka k kc) (K.flatMap actL) h9 (by have h1:=(gy.kept (λq h1 I=>b9.block q (Nat.lt_trans I b2.o))).mono (lx _) (lT (Nat.le_of_lt b2.o) b9.size);rw [HM.o] at h1;exact h1) (by rw [<- HM.o];exact ox K) (by omega) ow
        obtain ⟨g,hg⟩:∃g,la=⟨g,0,Y⟩:=by
         rcases d2.2 with ⟨h1,_⟩|⟨g,_,_,h1,_⟩
         · cases h1
         · injection h1 with h1;injection h1 with h1;exact ⟨g,h1⟩
        subst hg;have bk:A+1<=g/\g≠A/\e<C/\c<C:=by have:=b2.o;have:=a6.o;rcases hQ with h|h<;>(have h:g=_:=h;omega)
        have b6:=Z bk;have gt:=Z d2;have gQ:Hid (wL.heap[A]? =X (fn #[l6 (X ⟨e,0,Y⟩),l6 (X ⟨C,0,Y⟩)] 27 (0,0))):=(aC.block A (by omega) (λe=>by injection e with e;omega)).trans ((bD.block A (by omega)).trans c7q);have gx:Hid (ce (λq=>q=e) (λq=>q=C) wL e C cat0):=⟨((gn.o.below b9)).step (λq B=>aC.block q (by have:=a6.o;have:=b2.o;omega) (λe=>by injection e with e;have:=a6.o;have:=b2.o;omega)) aC.size,((c5.below bT).below bD).step (λq B=>aC.block q (by omega) (λe=>by injection e with e;omega)) aC.size,λq h1 I=>by have:=a6.o;have:=b2.o;omega⟩;have gp:Hid (∀q,q<C->wL.heap[q]? =wr.heap[q]?):=λq B=>(aC.block q (by omega) (λe=>by injection e with e;omega)).trans (b9.block q (by omega));have a8:Hid (Bw w wL):=a3.o.trans ((b9.mono a3.o.size).grown aC (by have:=a3.o.size;have:=b9.size;omega) (λq B=>by injection B with B;have:=a3.o.size;omega));have c4:Hid (g<wL.heap.size/\wr.heap.size=C/\C+1=A/\C<wL.heap.size):=⟨(d2.lt g rfl).2,ca,e4,by have:=aC.size;omega⟩;clear bp bT bD b9 c7q h9 c5 d2 aC hQ a3 gn gy bk;go_upto_region 31 with (at_builtin;refine CE cc ?_)
        clear cc zp zT zD ad b0 d3 b5 ca e4;have ex:=a9.1;have kn:=hn;unfold maxLen at kn;go_upto_region 32 with fail
        go_loopw [21,22] (λlv iv W=>∃(L M:List bG) (i:Nat) (FD FN:Nat->Prop),iv=J U i/\i+L.length=k/\lv=hb (X ⟨g,0,Y⟩) L.length lc/\Hid ((M++L).Perm K)/\Hid (W.ownsRow (A+1) 47 10 (hb (X ⟨g,0,Y⟩) L.length lc) L.length (L.flatMap actL))/\Hid (ce FD FN W e C (runC M cat0))/\Hid (ag (λq=>q=e∨q=C∨q=g) wL (λq=>(FD q∨FN q)∨q=g) W)/\Hid (¬(FD A∨FN A)/\¬(FD g∨FN g))/\Hid (W.heap[A]? =X (fn #[l6 (X ⟨e,0,Y⟩),l6 (X ⟨C,0,Y⟩)] 27 (0,0)))) (λ_ i _=>k - (intOf i).toNat)
        case atStart=>
         refine ⟨K,[],0,_,_,rfl,by rw [m6];exact HM.o,by rw [HM.o],List.Perm.refl _,by unfold Hid;rw [HM.o];exact gt.o,gx.o,?_,?_,gQ.o⟩
         · exact ((ag.refl (λq=>q=e∨q=C∨q=g) wL)).more' (λq B=> .inl (by omega))
         · have:=c4.o;have:=b6.o;exact ⟨λh=>by omega,λh=>by omega⟩
        case round=>
         clear gt gx gQ;obtain ⟨L,M,i,FD,FN,rfl,hi,rfl,c2,R,HP,F,a4,a0⟩:=hrel;obtain ⟨z,hz⟩:=Qe L.length;rw [hz] at hi R;rw [hz];have bA:=Z hz;clear hz;by_cases hz0:0<z
         · have i1:(z:Int)>0:=by omega
           have bs:Hid (Bw w wr):=a8.o.trans (F.o.below (λq B=>by have:=c3.o;have:=b6.o;have:=c4.o;omega) a8.o.size).1;have l4:z<=30:=by omega
           go_upto_if 177 with fail
           go_cut [23] (λv W=>∃q:Nat,q<z/\v=J U q/\W=wr)
           case first=>
            by_cases hn0:n=0
            · subst hn0;go_wp2_with fail
              go_meet;exact ⟨0,hz0,rfl,rfl⟩
            · obtain ⟨_,_,ks,hu⟩:=HU.o;obtain ⟨ub,uo,rfl,kt,hR⟩:=hu hn0;injection ks with hub1 hub2 hub3
              subst hub1;obtain ⟨x,hx,hV⟩:=hR (i%n) (Nat.mod_lt _ (Nat.pos_of_ne_zero hn0));have j1:(i:Int).tmod (n:Int)=((i%n:Nat):Int):=by rw [m0 (by omega)];omega
              have j2:(x:Int).tmod (z:Int)=((x%z:Nat):Int):=by rw [m0 (by omega)];omega
              have j3:x%z<z:=Nat.mod_lt _ hz0;have j4:i%n<n:=Nat.mod_lt _ (Nat.pos_of_ne_zero hn0);have ch:wr.cell? ⟨ub,uo+i%n,Y⟩=X (J lb x):=(m5 (a:=⟨ub,_,Y⟩) (bs.block ub kt)).trans hV;obtain ⟨a1,hl⟩:=Qe (i%n);obtain ⟨a2,hs⟩:=Qe (x%z);rw [hl] at j1 j4 ch;rw [hs] at j2 j3;clear hl hs hub2 hub3 hR hu hV;have i2:(n:Int)>0:=by omega
              go_wp2_with fail
              go_meet;exact ⟨a2,j3,rfl,rfl⟩
           case rest=>
            obtain ⟨q,B,rfl,rfl⟩:=hcut;have f5:q<L.length:=by rw [bA.o];exact B
            have aT:aB (A+1) wc.heap.size wc (hb (X ⟨g,0,Y⟩) z lc) L.length (L.flatMap actL):=by rw [bA.o];exact aP R.o
            obtain ⟨b,g3,cv,hv,_,_,au⟩:=qI aT q f5;injection hv with hv1 g2 hz2
            clear g2 hz2;injection hv1 with hv1
            injection hv1 with hv1 hv2
            subst hv1;subst hv2;have al:=a9.2.2 L[q] (c2.subset (List.mem_append_right _ (lE f5)));have fc:L=L.take q++L[q]::L.drop (q+1):=by rw [List.getElem_cons_drop,List.take_append_drop]
            obtain ⟨x,hx⟩:=Qe (L[q]);rw [hx] at au al fc;obtain ⟨LA,e0⟩:=Qe (L.take q);obtain ⟨LB,e2⟩:=Qe (L.drop (q+1));have hM:LA.length=q:=by rw [<- e0,ml];omega
            have hP:LB.length=z - (q+1):=by rw [<- e2,List.length_drop,bA.o]
            rw [e0,e2] at fc;clear e0 e2 hx aT f5 bA;subst fc;obtain ⟨og,d1⟩:=Qe (wc.heap[g]? );obtain ⟨ot,c9⟩:=Qe (wc.heap[A]? );have f7:wc.drew.heap[g]? =og/\wc.drew.heap[A]? =ot:=⟨d1,c9⟩;have HY:Hid (∀W:ms,(W.heap[g]? =og/\W.heap[A]? =ot)->(W.cell? ⟨A,0,Y⟩=X (l6 (X ⟨e,0,Y⟩))/\W.cell? ⟨A,1,Y⟩=X (l6 (X ⟨C,0,Y⟩)))/\Am W g (0+q * 10) x):=λW hW=>⟨⟨(aa (hW.2.trans (c9.symm.trans a0.o)) 0).trans rfl,(aa (hW.2.trans (c9.symm.trans a0.o)) 1).trans rfl⟩,au W (hW.1.trans d1.symm)⟩;simp only [m6] at HY;unfold Am at HY;have dc:=Z (BV FD FN wc.drew e C _ (HP.below (lm _ wc).drew) x.k x.a x.b x.v x.q.a x.q.b x.q.c x.q.d x.q.e x.q.f al);have cq:=Z hM;have di:=Z hP;have k3:=Z d1;have ds:=Z c9;clear au al hM hP d1 c9;have i2:(q:Int)<z:=by omega
            go_upto_region 37 with fail
            go_wp2_with fail
            refine wT (λW:ms=>W.heap[g]? =og/\W.heap[A]? =ot) 999 ?_;refine Qd [0,1,2,3,4] f7 HY.o ?_;refine Dp 5 λO hO=>?_;go_simp;go_at_call 13;with_reducible refine ls dc.o ?_
            rintro e5 w5 ⟨bY,c0,rfl,cb,a7⟩;have b4:=ae a0.o;have bk:=(R.lt g rfl).2;have c6:w5.heap[g]? =og/\w5.heap[A]? =ot:=⟨(a7.block g bk a4.2).trans k3.o,(a7.block A b4 a4.1).trans ds.o⟩;have bB:=Z c6;have b7:=Z cb;have cx:Hid (w5.ownsRow (A+1) 47 10 (hb (X ⟨g,0,Y⟩) z lc) z ((LA++x::LB).flatMap actL)):=ah R.o (λq B=>by injection B with B;subst B;exact a7.block _ bk a4.2);have HS:Hid (ag (λq=>q=e∨q=C∨q=g) wL (λq=>(bY q∨c0 q)∨q=g) w5):=F.trans ((ag.of_below (lm _ wc).drew).trans a7.plus);have cu:Hid (¬(bY A∨c0 A)/\¬(bY g∨c0 g)):=⟨a7.not b4 a4.1,a7.not bk a4.2⟩;clear cb a7 c6 b4 bk;refine hO _ _ (λ_=>bB.o) ?_;clear hO O;go_simp;refine dN ?_;have l5:z<=lc:=by
             rcases cx.2 with ⟨h,_⟩|⟨_,_,_,h,_,_,I,_⟩
             · cases h
             · injection h with _ _ h;subst h;exact I
            go_upto_region 38 with fail
            go_wp2_with fail
            refine wT (λ_:ms=>True) 999 ?_;have i3:(q:Int)<=lc:=by omega
            have i6:IntKind.i64.wrap ((q:Int)+1)=((q+1:Nat):Int):=(IntWalk.i64_in _ (by omega)).trans (by omega);have i4:((q+1:Nat):Int)<=z:=by omega
            have i7:0<=((q+1:Nat):Int):=by omega
            have i5:(z:Int)<=lc:=by omega
            have i8:0<=(q:Int)+1/\(q:Int)+1<=z:=by omega
            obtain ⟨dp,hG⟩:=Qe ((if lc=q+1 then X (⟨g,0,Y⟩:Addr) else X ⟨g,(q+1) * 10,Y⟩));have fy:Value.slice dp (z - (q+1)) (lc - (q+1))=hb (X ⟨g,(q+1) * 10,Y⟩) (z - (q+1)) (lc - (q+1))∨(z - (q+1)=0/\∃a c,Value.slice dp (z - (q+1)) (lc - (q+1))=hb a 0 c):=by
             by_cases h:z=q+1
             · exact .inr ⟨by omega,dp,_,by rw [show z - (q+1)=0 by omega]⟩
             · left;rw [<- hG,if_neg (by omega)]
            obtain ⟨w6,cc,f4,hH⟩:=BA (W:=w5.drew) (k:=q) (n:=z) (ys:=LA.flatMap actL) (zs:=(x::LB).flatMap actL) underlying22 i47 (by have:=cx.o;rw [mb] at this;exact ah this (λ_ _=>rfl)) B (by rw [ox,cq.o]) fy (by rw [<- mb];exact ow);rw [show ((x::LB).flatMap actL).drop 10=LB.flatMap actL by rw [List.flatMap_cons];rfl, <- mb] at f4;have k2:=Z f4;have av:=Z hH;have kz:=Z fy;have k5:=Z cc;clear f4 hH fy cc;refine Qc [0,1,2,3,4,5,6] trivial ?_;refine Dp 7 λO hO=>?_;refine CZ k5.o ?_;refine hO _ _ (λ_=>trivial) ?_;clear hO O;go_simp;refine Qc [8] trivial ?_;refine dN ?_;clear i6 i4 i7 i8 hG i3 i5;go_wp2_with fail
            go_roundw
            case rel=>
             have hn:∀q,bY q∨c0 q->w6.heap[q]? =w5.heap[q]? :=λq h=>av.block q (h.elim (b7.cat.lt q) (b7.mod.lt q)) (λe=>by injection e with e;subst e;exact cu.2 h);have ht:runC (M++[x]) cat0=(actC (runC M cat0) x).1:=by rw [rz];rfl
             refine ⟨LA++LB,M++[x],i+1,bY,c0,by go_num,?_,?_,?_,?_,⟨?_,?_,b7.dis⟩,?_,cu.o,?_⟩
             · rw [lB,cq.o,di.o];omega
             · rw [lB,cq.o,di.o,show q+(z - (q+1))=z - 1 by omega]
             · refine List.Perm.trans ?_ c2.o;rw [List.append_assoc];exact List.Perm.append_left M (show (x::(LA++LB)).Perm _ from List.perm_middle.symm)
             · unfold Hid;rw [lB,cq.o,di.o,show q+(z - (q+1))=z - 1 by omega];exact k2.o
             · rw [ht];exact b7.o.cat.step (λq h=>hn q (.inl h)) av.o.size
             · rw [ht];exact b7.o.mod.step (λq h=>hn q (.inr h)) av.o.size
             · exact HS.trans ⟨av.os,av.tape,av.output,av.size,λk hk hn=>av.block k hk (λe=>by injection e with e;exact hn (.inr e)),λ_ h=> .inl h⟩
             · exact (av.block A (ae (bB.2.trans (ds.symm.trans a0.o))) (λe=>by injection e with e;exact b6.2.1 e.symm)).trans (bB.2.trans (ds.symm.trans a0.o))
            case measure=>simp [intOf];omega
         · have g2:z=0:=by omega
           subst g2;have hL:L=[]:=List.eq_nil_of_length_eq_zero bA.o;subst hL;rw [List.append_nil] at c2;have hF:runC M cat0=d:=(a9.2.1 M c2.o).trans HD.o;rw [hF] at HP;have hZ:=c4.o;have da:Hid (bf FC wr c d):=gb.step (λq h=>by have h1:=cp q h;have hg:=b6.o;have cP:=a6.o;have kq:=b2.o;rw [F.o.block q (by omega) (λI=>by omega),gp.o q (by omega)]) (by have:=F.o.size;omega)
           have c1:Hid (bf FD wr e d):=HP.cat;have bs:Hid (Bw w wr):=a8.o.trans (F.o.below (λq B=>by have:=c3.o;have:=b6.o;have:=c4.o;omega) a8.o.size).1;have gf:Hid (∀q,FC q->FD q->False):=λq h1 I=>by have a1:=cp q h1;have hg:=b6.o;have cP:=a6.o;have kq:=b2.o;rcases F.o.new q (.inl (.inl I)) with h3|h3<;>omega
           have dk:Hid (w.heap.size<=c/\∀q,FC q∨FD q->w.heap.size<=q):=⟨c3.1,λq h=>by
            have hw:=c3.o;have hg:=b6.o;have hz:=a8.size;rcases h with h|h
            · have:=cp.o q h;have:=a6.o;omega
            · rcases F.o.new q (.inl (.inl h)) with h3|h3<;>omega⟩
           clear hF HP F a4 a0 R c2 hi hz0 bA c4 gb cp gp a8;obtain ⟨E,hE⟩:=Qe (encR d);have j0:Hid (∀W,Bw wr W->mt prog 30 #[l6 (X ⟨c,0,Y⟩)] W λr w'=>r=l7 (S E)/\Bw wr w'):=λW D=>by rw [<- hE];exact (oz FC W c d (da.below D)).mono λr w' h=>⟨h.1,D.trans (h.2.mono D.size)⟩
           have ja:Hid (∀W,Bw wr W->mt prog 30 #[l6 (X ⟨e,0,Y⟩)] W λr w'=>r=l7 (S E)/\Bw wr w'):=λW D=>by rw [<- hE];exact (oz FD W e d (c1.below D)).mono λr w' h=>⟨h.1,D.trans (h.2.mono D.size)⟩
           have iQ:Hid (∀W,Bw wr W->mt prog 15 #[l6 (X ⟨c,0,Y⟩)] W λr w'=>∃v,r=l7 v/\Hid (fb wr.heap.size w'.heap.size w' v (sameC d))/\Hid (bf FD w' e d)/\Hid (Bw w w')):=λW D=>
            (vq FC W c d (da.below D) dy.o).mono λr w' h=>by
             obtain ⟨v,F',hr,hC,sC,aT,_⟩:=h
             exact ⟨v,hr,(aP aT).mono D.size (lk _),(c1.below D).step (λq B=>sC.block q ((c1.below D).lt q B) (λh=>gf q h B)) sC.size,(bs.trans (D.mono bs.size)).trans (sC.below (λq h=>dk.2 q (.inl h)) (lT bs.size D.size)).1⟩
           have iS:Hid (∀W v,Hid (fb wr.heap.size W.heap.size W v (sameC d))->Hid (bf FD W e d)->Hid (Bw w W)->mt prog 15 #[l6 (X ⟨e,0,Y⟩)] W λr w'=>∃u,r=l7 u/\Hid (fb 0 w'.heap.size w' v (sameC d))/\Hid (fb 0 w'.heap.size w' u (sameC d))/\Hid (Bw w w')):=λW v hv hc D=>
            (vq FD W e d hc.o dy.o).mono λr w' h=>by
             obtain ⟨u,F',hr,hC,sC,aT,_⟩:=h
             exact ⟨u,hr,(hv.kept (λq h1 I=>sC.block q I (λh=>absurd (c1.lt q h) (Nat.not_lt.2 h1)))).mono (lx _) sC.size,(aP aT).mono (lx _) (lk _),D.trans (sC.below (λq h=>dk.2 q (.inr h)) D.size).1⟩
           have f8:(sameC d).length<=1000000:=by have h1:=ik (d:=d);have:=dy.o;rw [jw];omega
           have iP:Hid (∀W u v,Hid (fb 0 W.heap.size W u (sameC d))->Hid (fb 0 W.heap.size W v (sameC d))->Hid (Bw w W)->mt prog 14 #[u,v] W λr w'=>r=l7 (ld true)/\Hid (Bw w w')):=λW u v hu hv D=>by have h8:=ni u v _ _ W hu.o hv.o f8 f8;rw [decide_eq_true rfl] at h8;exact h8.mono λr w' h=>⟨h.1,D.trans (h.2.mono D.size)⟩
           clear hE f8 da c1 gf dk bs;have a5:Bw wr wr:=lm _ _
           go_wp2_with (first
            |(go_at_call 30;(first |(with_reducible refine ls (j0.o _ (by assumption)) ?_)|(with_reducible refine ls (ja.o _ (by assumption)) ?_));rintro r9 W9 ⟨rfl,l2⟩)
            |(go_at_call 15;(first |(with_reducible refine ls (iQ.o _ (by assumption)) ?_;rintro r9 W9 ⟨v9,rfl,ko,k8,e8⟩)|(with_reducible refine ls (iS.o _ _ (by assumption) (by assumption) (by assumption)) ?_;rintro r9 W9 ⟨u9,rfl,ko,k8,e8⟩)))
            |(go_at_call 14;(with_reducible refine ls (iP.o _ _ _ (by assumption) (by assumption) (by assumption)) ?_);rintro r9 W9 ⟨rfl,e8⟩))
           go_ret;exact ⟨rfl,e8.o⟩
end
section
open Go.ChangeShapes Go.WideShapes Go.ChangeAt Go.RowKit Go.Deep
section
variable {H:Type} {enc:TypeId×m4->H} {W W':ms} {v:m4} {d:DataW H} {ps:List MemPlace}
theorem BE:prog.cellsOf 5=1:=by kernel_rfl
theorem open_bytesU {base:Nat} (u:Value.okWide prog W .any base 76 v) (h:DataW.Trod enc prog W 0 (λ_=>true) true 76 v d ps):∃n,Al W v n/\n<=maxLen:=by
 obtain ⟨a,y,C,rfl⟩:=okWide_slice underlying76 u;obtain ⟨F,s⟩:=h;rcases open_slice1 underlying76 BE s with ⟨c,_⟩|⟨f,N,E,m,n,V,D,B,c,_,M,I,k,K,i⟩
 · simp [Value.cells] at c;obtain ⟨rfl,rfl,rfl⟩:=c;exact ⟨0,⟨Y,0,rfl,λh=>absurd rfl h⟩,by unfold maxLen;omega⟩
 · simp [Value.cells] at c;obtain ⟨rfl,rfl,rfl⟩:=c;simp at k;subst k;refine ⟨y,⟨X f,_,rfl,λG=>?_⟩,by omega⟩;obtain ⟨b,e,A⟩:=f;have h1:=(i 0 (by omega)).1;have t:A=Y:=by refine cell_spot (w:=W) (b:=b) (o:=e) (v:=V 0) ?_;simpa [m7] using h1
   subst t;refine ⟨b,e,rfl,bi (p:=⟨b,e,Y⟩) (by simpa [m7] using h1),λj L=>?_⟩;obtain ⟨g,q⟩:=i j (by omega);obtain ⟨z,x,_,l⟩:=DataW.trod_int underlying5 q;have r:(⟨b,e,Y⟩:Addr).add j=⟨b,e+j,Y⟩:=by unfold m7;split<;>simp_all
   rw [r] at g;simp only [Lit.wf,IntKind.min,IntKind.max,IntKind.signed,IntKind.bits] at l;simp at l;refine ⟨z.toNat,by omega,?_⟩;rw [g];have:V j=J lb z:=by simpa using x
   rw [this,Int.toNat_of_nonneg (by omega)]
end
end
end Go.Proofs.YtjcimanddakkaaaGreatDoor
