/- Lemmas. -/
import Derived.Test.YtjcimanddakkaaaGreatDoorQ13
import Derived.Test.YtjcimanddakkaaaGreatDoorQ21
import Derived.Deep.CutBlock
set_option maxRecDepth 100000
set_option maxHeartbeats 8000000
namespace Go.Proofs.YtjcimanddakkaaaGreatDoor
open _root_.Option renaming some→X,none→Y
open Go.Value renaming slice→a1,int→J,pointer→fn,bool→hk
open Go.IntKind renaming i64→U,u8→hE
open Go.Obj renaming cells→a2
open Go.Ending renaming returned→hb
open Go.Lib renaming hid→Z
open Tryz
open Go.World renaming size_setCell→hF,alloc_heap_new→hI,ownsRow_lit→hV
open Go.RowKit.Below renaming heap_setCell→hG,heap_alloc→hT,refl→hZ
open _root_.List renaming flatMap_cons→hH,length_append→hK,length_take→hL,length_drop→hM,not_mem_nil→hQ,flatMap_append→hR,mem_cons→hS,length_cons→hW,eq_nil_of_length_eq_zero→ia,mem_of_mem_take→ib,mem_of_mem_drop→ih,length_set→iQ,getElem?_eq_getElem→i1
open _root_.Nat renaming le_refl→hJ,zero_le→hP,zero_add→hX,min_eq_left→hY,succ_mul→iD,mul_le_mul_right→iF,lt_or_ge→i2
open Go.Calls renaming mono→hO
open Go renaming Value→it,World→iv,Calls→iP
open _root_.Int renaming lt_trichotomy→iN
open _root_.Or renaming inl→iS
section
open Go.RowKit Go.Maps Go.Shelf
section
variable {K V:Type} [DecidableEq K] {lt:K->K->Bool}
theorem ll (T:Tot lt) {l:List (K×V)} (e:aq lt l) {k:K} {v:V} (h:findK l k=X v):∃b:placeK lt l k<l.length,l[placeK lt l k]=(k,v):=by
 rw [eY T e] at h;cases hg:l[placeK lt l k]? with
 |none=>rw [hg] at h;cases h
 |some p=>
  rw [hg] at h;obtain ⟨b,d⟩:=List.getElem?_eq_some_iff.1 hg;refine ⟨b,?_⟩;rw [d];have h:(if p.1=k then X p.2 else Y)=X v:=h;split at h
  · rename_i c;injection h with h
    exact Prod.ext c h
  · cases h
theorem sy (T:Tot lt) {l:List (K×V)} (c:aq lt l) {k:K} (h:findK l k=Y):(l[placeK lt l k]?).map (·.1)≠X k:=by
 rw [eY T c] at h;cases hg:l[placeK lt l k]? with
 |none=>simp
 |some p=> rw [hg] at h;have h:(if p.1=k then X p.2 else Y)=Y:=h;intro b;simp at b;rw [if_pos b] at h;cases h
theorem p6 (T:Tot lt) {l:List (K×V)} (d:aq lt l) {k:K} {v:V} (h:findK l k=X v) (u:V):insL lt l k u=l.set (placeK lt l k) (k,u):=by
 obtain ⟨b,c⟩:=ll T d h;rw [si,if_pos (by rw [i1 b,c];rfl),List.set_eq_take_append_cons_drop,if_pos b]
theorem p7 (T:Tot lt) {l:List (K×V)} (b:aq lt l) {k:K} (h:findK l k=Y) (u:V):insL lt l k u=l.take (placeK lt l k)++(k,u)::l.drop (placeK lt l k):=by
 rw [si,if_neg (sy T b h)]
end
theorem eX {α:Type} (enc:α->List it) (n:Nat) (c:∀x,(enc x).length=n):∀(b:List α) (m i:Nat) (u:it) (y:α) (hm:m<b.length),i<n->(enc b[m]).set i u=enc y->(b.flatMap enc).set (m * n+i) u=(b.set m y).flatMap enc
 |x::b,0,i,u,y,hm,hi,he=>by
  rw [hH,Nat.zero_mul,hX,List.set_append_left _ _ (by rw [c];exact hi),List.set_cons_zero,hH]
  rw [show (enc x).set i u=enc y from he]
 |x::b,m+1,i,u,y,hm,hi,he=>by
  rw [hH,List.set_append_right _ _ (by rw [c,iD];omega),c,show (m+1) * n+i - n=m * n+i by rw [iD];omega,List.set_cons_succ,hH,eX enc n c b m i u y (by simpa using hm) hi he]
section
variable {P:Program} {o:Oper} {a:Act} {K:Act->iv->Prop} {Q:Exit->Act->iv->Prop} {w:iv}
theorem dV {s x:Operand} {t:TypeId} (e:o.op= .call {callee:= .builtin .append,args:= #[s,x],argTypes:= #[t,t]}) {b c v:it} (g:a.eval s=b) (h:a.eval x=c) {w':iv} (f:(Builtin.append_ #[t,t] o.type #[b,c]).run P w= .ok v w') (d:K (a.put o.dst v) w'):o.wp P a w K Q:=by
 unfold Oper.wp execOp;simp only [e,resolve,invoke,builtin,Sem.run_bind,Sem.run_pure,Result.andThen_ok,List.map_toArray,List.map_cons,List.map_nil,g,h,f];exact d
end
theorem kg {α:Type} (enc:α->List it) (n:Nat) (c:∀x,(enc x).length=n):∀(b:List α) (q:Nat),(b.drop q).flatMap enc=(b.flatMap enc).drop (q * n)
 |[],q=>by simp
 |x::b,0=>by simp
 |x::b,q+1=>by rw [List.drop_succ_cons,kg enc n c b q,hH,iD,Nat.add_comm, <- List.drop_drop,List.drop_left' (c x)]
theorem ke {α:Type} (enc:α->List it) (n:Nat) (c:∀x,(enc x).length=n):∀(b:List α) (q:Nat),(b.take q).flatMap enc=(b.flatMap enc).take (q * n)
 |[],q=>by simp
 |x::b,0=>by simp
 |x::b,q+1=>by rw [List.take_succ_cons,hH,ke enc n c b q,hH,iD,Nat.add_comm (q * n),List.take_append,c,List.take_of_length_le (show (enc x).length<=n+q * n by rw [c];omega),Nat.add_sub_cancel_left]
theorem pw {α:Type} {enc:α->List it} {k e g N c n l:Nat} {w:iv} {f:List α} (r:∀x,(enc x).length=k) (h:w.ownsRow 0 e k (a1 (X ⟨g,0,Y⟩) N c) N (f.flatMap enc)) (v:f.length=N) (q:Nat) (y:q<=N) {d:Nat} (t:q<N->d=q * k) (p:g<l):
 aB 0 l w (a1 (X ⟨g,d,Y⟩) (N - q) n) (N - q) ((f.drop q).flatMap enc):=by
 refine ⟨_,_,rfl,λs=>⟨g,d,rfl,hP _,p,λj x b=>?_⟩⟩;have u:q<N:=by
  rcases i2 q N with i|i
  · exact i
  · exact absurd (by rw [List.drop_of_length_le (by omega)];rfl) s
 rw [kg enc k r,List.getElem?_drop] at b;rw [t u];have m:=(List.getElem?_eq_some_iff.1 b).1;rw [h.1] at m;rw [h.cellAt _ m];exact b
theorem pA {α:Type} {enc:α->List it} {k e g N c d:Nat} {w:iv} {f:List α} (l:∀x,(enc x).length=k) (h:w.ownsRow 0 e k (a1 (X ⟨g,0,Y⟩) N c) N (f.flatMap enc)) (q:Nat) (m:q<=N) (i:g<d):
 aB 0 d w (a1 (X ⟨g,0,Y⟩) q c) q ((f.take q).flatMap enc):=by
 refine ⟨_,_,rfl,λp=>⟨g,0,rfl,hP _,i,λj x b=>?_⟩⟩;rw [ke enc k l,List.getElem?_take] at b;split at b
 · rename_i n;have:q * k<=N * k:=iF k m;rw [hX,h.cellAt _ (by omega)];exact b
 · cases b
theorem Dh:(prog.info? 142).map (λi=>(i.zero,i.size,i.bytes))=X (X (.agg #[J U 0,J U 0,J U 0]),3,24):=by kernel_rfl
theorem iz (l:List (RK×Int)):∀u∈l.flatMap dropCells,u.oneCell'=true:=by
 intro u b;obtain ⟨p,c,b⟩:=List.mem_flatMap.1 b;simp only [dropCells,hS,hQ,or_false] at b;rcases b with rfl|rfl|rfl<;>rfl
theorem jW {w:iv} {B C e f k j n m:Nat} {u v:it} {l ys:List it} (h:w.ownsRow B e k u n l) (b:w.ownsRow C f j v m ys) (c:e≠f) {g:Nat} (d:u.ownBlock=X g):v.ownBlock≠X g:=λi=>by
 obtain ⟨c1,t1⟩:=aA h d;obtain ⟨c2,t2⟩:=aA b i;rw [t1] at t2;injection t2 with t2
 injection t2 with _ t2
 exact c t2
theorem eD {w:iv} {B e k n t p:Nat} {u:it} {i:List it} {cs:Array it} (h:w.ownsRow B e k u n i) (f:w.heap[p]? =X (a2 cs t (0,0))) (c:e≠t) {g:Nat} (d:u.ownBlock=X g):g≠p:=λb=>by
 obtain ⟨c1,t1⟩:=aA h d;rw [b,f] at t1;injection t1 with t1
 injection t1 with _ t1
 exact c t1.symm
theorem eK.put2 {F e:Nat->Prop} {w w':iv} {p:Nat} {l m n vN:it} {s:List (RK×VX)} {d:ar} {ds:List (RK×Int)} (h:eK F w p l m n s d) (f:∀k,F k->e k) (t:∀k,e k->k<w'.heap.size) (j:∀k,F k->k≠p->m.ownBlock≠X k->w'.heap[k]? =w.heap[k]?)
 (u:w'.heap[p]? =X (a2 #[l,vN,n] 34 (0,0))) (c:w'.ownsRow 0 142 3 vN ds.length (ds.flatMap dropCells)) (r:∀g,vN.ownBlock=X g->e g/\(m.ownBlock=X g∨¬F g)) (x:w.heap.size<=w'.heap.size) (y:bd {d with ds:=ds}):eK e w' p l vN n s {d with ds:=ds}:=by
 refine ⟨u,h.vx,ah h.vs (λg b=>j g (h.f1 g b) (eD h.vs h.blk (by decide) b) (jW h.vs h.ds (by decide) b)),λq v=>?_,c,ah h.ps (λg b=>j g (h.f3 g b) (eD h.ps h.blk (by decide) b) (jW h.ps h.ds (by decide) b)),f p h.fp,λg b=>f g (h.f1 g b),λg b=>(r g b).1,λg b=>f g (h.f3 g b),t,y⟩;refine ((h.fx q v).step (λk c=>j k c.1 c.2.1 c.2.2.2.1) x).wide λk c=>⟨f k c.1,c.2.1,c.2.2.1,λb=>?_,c.2.2.2.2⟩;rcases (r k b).2 with i|i
 · exact c.2.2.2.1 i
 · exact i c.1
theorem eK.put3 {F e:Nat->Prop} {w w':iv} {p:Nat} {l m n vN:it} {s:List (RK×VX)} {d:ar} {ps:List (PK×(Int×Bool))} (h:eK F w p l m n s d) (f:∀k,F k->e k) (t:∀k,e k->k<w'.heap.size) (j:∀k,F k->k≠p->n.ownBlock≠X k->w'.heap[k]? =w.heap[k]?)
 (u:w'.heap[p]? =X (a2 #[l,m,vN] 34 (0,0))) (c:w'.ownsRow 0 38 6 vN ps.length (ps.flatMap decCells)) (r:∀g,vN.ownBlock=X g->e g/\(n.ownBlock=X g∨¬F g)) (x:w.heap.size<=w'.heap.size) (y:bd {d with ps:=ps}):eK e w' p l m vN s {d with ps:=ps}:=by
 refine ⟨u,h.vx,ah h.vs (λg b=>j g (h.f1 g b) (eD h.vs h.blk (by decide) b) (jW h.vs h.ps (by decide) b)),λq v=>?_,ah h.ds (λg b=>j g (h.f2 g b) (eD h.ds h.blk (by decide) b) (jW h.ds h.ps (by decide) b)),c,f p h.fp,λg b=>f g (h.f1 g b),λg b=>f g (h.f2 g b),λg b=>(r g b).1,t,y⟩;refine ((h.fx q v).step (λk c=>j k c.1 c.2.1 c.2.2.2.2) x).wide λk c=>⟨f k c.1,c.2.1,c.2.2.1,c.2.2.2.1,λb=>?_⟩;rcases (r k b).2 with i|i
 · exact c.2.2.2.2 i
 · exact i c.1
theorem eK.put1 {F e:Nat->Prop} {w w':iv} {p:Nat} {r j l vN:it} {t ys:List (RK×VX)} {d:ar} (h:eK F w p r j l t d) (i:∀k,F k->e k) (u:∀k,e k->k<w'.heap.size) (n:∀k,F k->k≠p->r.ownBlock≠X k->w'.heap[k]? =w.heap[k]?)
 (v:w'.heap[p]? =X (a2 #[vN,j,l] 34 (0,0))) (c:w'.ownsRow 0 64 6 vN ys.length (ys.flatMap verCells)) (s:∀g,vN.ownBlock=X g->e g/\(r.ownBlock=X g∨¬F g)) (y:w.heap.size<=w'.heap.size) (z:bd {d with vs:=ys.map λp=>(p.1,p.2.1)})
 (x:∀q∈ys,q∈t∨dT (restM e p vN j l) w' q):eK e w' p vN j l ys {d with vs:=ys.map λp=>(p.1,p.2.1)}:=by
 refine ⟨v,rfl,c,λq f=>?_,ah h.ds (λg b=>n g (h.f2 g b) (eD h.ds h.blk (by decide) b) (jW h.ds h.vs (by decide) b)),ah h.ps (λg b=>n g (h.f3 g b) (eD h.ps h.blk (by decide) b) (jW h.ps h.vs (by decide) b)),i p h.fp,λg b=>(s g b).1,λg b=>i g (h.f2 g b),λg b=>i g (h.f3 g b),u,z⟩;rcases x q f with f|f
 · refine ((h.fx q f).step (λk c=>n k c.1 c.2.1 c.2.2.1) y).wide λk c=>⟨i k c.1,c.2.1,λb=>?_,c.2.2.2.1,c.2.2.2.2⟩;rcases (s k b).2 with m|m
   · exact c.2.2.1 m
   · exact m c.1
 · exact f
theorem Bu (F:Nat->Prop) (w:iv) (p:Nat) (d:ar) (h:cA F w p d) (k:RK) (n:Int) (s:rkOk k) (hn:i64B n):
 iP prog 42 #[fn (X ⟨p,0,Y⟩),recK k,J U n] w λe w'=>e=hb (J U (dropC d k n).2)/\∃F',cA F' w' p (dropC d k n).1/\ag F w F' w':=by
 obtain ⟨v1,v2,v3,xs,h⟩:=h;have cg:Hid (dJ d k n=0->bd {d with ds:=insL ltRK d.ds k n}):=λhx=>h.ok.drop s hn hx;have bk:=Z (ql d k n);obtain ⟨b,f⟩:=k;obtain ⟨w1,c7⟩:=Qe (w.alloc (a2 #[J U b,J U f] 36));have cx:Bw w w1:=by rw [<- c7];exact (hZ _ w).alloc (hJ _) _
 have I:=hI w (a2 #[J U b,J U f] 36);rw [c7] at I;have HK:=Z I;have r:=Z (h.below cx);have ad:=Z cx;have da:w1.heap.size=w.heap.size+1:=by rw [<- c7];simp
 have b7:=Z da;have d2:=Z c7;have d1:=Z h.lt;have ac:=Z (Bt F w1 p v1 v2 v3 xs d r.o (b,f));have c1:=gR (lt:=ltRK) d.ds (b,f);have d4:=h.ok.dlen;clear cx da c7 I;cases T:findK d.ds (b,f) with
 |some m=>
  obtain ⟨hq,he⟩:=ll aN h.ok.ok.ds T;have a6:=Z (p6 aN h.ok.ok.ds T n);obtain ⟨g,c,hv,hg,hc⟩:=eU (enc:=dropCells) (λ_=>rfl) r.ds _ hq;rw [he] at hc;have c2:=hc 2 _ rfl;have al:Hid (dJ d (b,f) n=aJ true (decide (m=n)) m n d.ds.length):=by unfold Hid dJ;rw [T];rfl
  rw [T] at ac;obtain ⟨q,b8⟩:=Qe (placeK ltRK d.ds (b,f));rw [b8] at ac hq c2 a6;have HE:Hid (∃hq:q<d.ds.length,d.ds[q]=((b,f),m)):=by subst b8;exact ⟨hq,he⟩
  have dc:=Z c2;obtain ⟨N,hN⟩:=Qe d.ds.length;rw [hN] at hv hq d4 al;have E:=Z hN;subst hv;have ee:(q:Int)<(N:Int):=by omega
  have M:Hid (∀W,Bw w1 W->W.cell? ⟨p,1,Y⟩=X (a1 (X ⟨g,0,Y⟩) N c)/\W.cell? ⟨g,q * 3+2,Y⟩=X (J U m)/\W.frozen? ⟨g,q * 3+2,Y⟩=false):=λW D=>
   ⟨(aa ((D.block _ (r.o.lt p r.o.fp)).trans r.o.blk) 1).trans rfl,((aE D).1 g _ hg).trans dc.o,(by have:=(r.o.below D).ds;rw [E.o] at this;exact this.frozenAt _)⟩
  have e9:=hq;clear hc c2 he b8 hN T c1 h hq;have au:Hid (iP prog 81 #[fn (X ⟨p,0,Y⟩), .agg #[J U b,J U f]] (w.alloc (a2 #[J U b,J U f] 36)) λe w'=>e=hb (.tuple #[J U q,hk true])/\Bw w1 w'):=by unfold Hid;rw [d2.o];exact ac.o
  clear ac;unfold recK;dsimp only;rcases iN m n with bY|bY|bY
  · have G:Hid (dJ d (b,f) n=0):=by unfold Hid;rw [al.o,decide_eq_false (show m≠n by omega)];unfold aJ;simp;omega
    have a4:Hid (dropC d (b,f) n=({d with ds:=insL ltRK d.ds (b,f) n},0)):=by unfold Hid;rw [bk.o,if_pos G.o]
    have f1:(m==n)=false:=by simp;omega
    have f2:¬(m=n):=by omega
    have f3:¬(n<m):=by omega
    have e5:=Z bY;clear bY;go_enter func42,ntmps42;go_wp2_with (go_at_call 81;((with_reducible refine hO au.o ?_);rintro e t ⟨rfl,y⟩;obtain ⟨p1,p2,p3⟩:=M.o t y;have x:=Z y;clear y))
    go_ret;rw [a4.o];have ao:=r.below x.o;have e4:ag F w F t:=ag.of_below (ad.o.trans (x.o.mono (by have:=b7.o;omega)));refine ⟨rfl,F,?_,?_⟩
    · obtain ⟨e0,dy⟩:=HE.o;have b9:=ao.ds;rw [E.o] at b9;have d6:=(b9.stored (q * 3+2) (J U n)).1;rw [eX dropCells 3 (λ_=>rfl) d.ds q 2 _ ((b,f),n) e0 (by omega) (by rw [dy];rfl), <- a6.o] at d6;have dz:N=(insL ltRK d.ds (b,f) n).length:=by rw [a6.o,iQ,E.o]
      refine ⟨v1,_,v3,xs,ao.put2 (vN:=a1 (X ⟨g,0,Y⟩) N c) (λ_ h=>h) (λk s=>by rw [hF];exact ao.lt k s) (λk _ _ a7=>hG _ _ _ _ (λe=>a7 (by rw [e];rfl))) ?_ (dz ▸ d6) (λR l=>⟨ao.f2 R l, .inl l⟩) (by rw [hF];exact hJ _) (cg.o G.o)⟩;rw [hG _ _ _ _ (Ne.symm (eD ao.ds ao.blk (by decide) (g:=g) rfl))];exact ao.blk
    · exact e4.trans (ag.of_only (aw.setCell (aw.refl g t) _ _) (ao.f2 g rfl))
  · subst bY;have G:Hid (dJ d (b,f) m=22):=by unfold Hid;rw [al.o,decide_eq_true rfl];rfl
    have a4:Hid (dropC d (b,f) m=(d,22)):=by unfold Hid;rw [bk.o,if_neg (by rw [G.o];decide),G.o]
    go_enter func42,ntmps42;go_wp2_with (go_at_call 81;((with_reducible refine hO au.o ?_);rintro e t ⟨rfl,y⟩;obtain ⟨p1,p2,p3⟩:=M.o t y;have x:=Z y;clear y))
    go_ret;rw [a4.o];exact ⟨rfl,F,⟨_,_,_,_,r.o.below x.o⟩,ag.of_below (ad.o.trans (x.o.mono (by have:=b7.o;omega)))⟩
  · have G:Hid (dJ d (b,f) n=30):=by unfold Hid;rw [al.o,decide_eq_false (show m≠n by omega)];unfold aJ;simp;omega
    have a4:Hid (dropC d (b,f) n=(d,30)):=by unfold Hid;rw [bk.o,if_neg (by rw [G.o];decide),G.o]
    have f1:(m==n)=false:=by simp;omega
    have f2:¬(m=n):=by omega
    go_enter func42,ntmps42;go_wp2_with (go_at_call 81;((with_reducible refine hO au.o ?_);rintro e t ⟨rfl,y⟩;obtain ⟨p1,p2,p3⟩:=M.o t y;have x:=Z y;clear y))
    go_ret;rw [a4.o];exact ⟨rfl,F,⟨_,_,_,_,r.o.below x.o⟩,ag.of_below (ad.o.trans (x.o.mono (by have:=b7.o;omega)))⟩
 |none=>
  have a6:=Z (p7 aN h.ok.ok.ds T n);have al:Hid (dJ d (b,f) n=if 5000<=d.ds.length then 2 else 0):=by unfold Hid dJ;rw [T];show aJ false _ _ _ _=_;unfold aJ;simp
  rw [T] at ac;obtain ⟨q,b8⟩:=Qe (placeK ltRK d.ds (b,f));rw [b8] at ac c1 a6;obtain ⟨N,hN⟩:=Qe d.ds.length;rw [hN] at d4 c1 al;have E:=Z hN;obtain ⟨va,vc,hv⟩:=aK h.ds;rw [hN] at hv;subst hv
  have M:Hid (∀W,Bw w1 W->W.cell? ⟨p,1,Y⟩=X (a1 va N vc)/\W.cell? ⟨w.heap.size,0,Y⟩=X (J U b)/\W.cell? ⟨w.heap.size,1,Y⟩=X (J U f)):=λW D=>
   ⟨(aa ((D.block _ (r.o.lt p r.o.fp)).trans r.o.blk) 1).trans rfl,(aa ((D.block _ (by have:=b7.o;omega)).trans HK.o) 0).trans rfl,(aa ((D.block _ (by have:=b7.o;omega)).trans HK.o) 1).trans rfl⟩
  clear b8 hN T h;have au:Hid (iP prog 81 #[fn (X ⟨p,0,Y⟩), .agg #[J U b,J U f]] (w.alloc (a2 #[J U b,J U f] 36)) λe w'=>e=hb (.tuple #[J U q,hk false])/\Bw w1 w'):=by unfold Hid;rw [d2.o];exact ac.o
  clear ac;unfold recK;dsimp only;by_cases h5:5000<=N
  · have G:Hid (dJ d (b,f) n=2):=by unfold Hid;rw [al.o,if_pos h5]
    have a4:Hid (dropC d (b,f) n=(d,2)):=by unfold Hid;rw [bk.o,if_neg (by rw [G.o];decide),G.o]
    have dp:(5000:Int)<=(N:Int):=by omega
    go_enter func42,ntmps42;go_wp2_with (go_at_call 81;((with_reducible refine hO au.o ?_);rintro e t ⟨rfl,y⟩;obtain ⟨p1,p2,p3⟩:=M.o t y;have x:=Z y;clear y))
    go_ret;rw [a4.o];exact ⟨rfl,F,⟨_,_,_,_,r.o.below x.o⟩,ag.of_below (ad.o.trans (x.o.mono (by have:=b7.o;omega)))⟩
  · have G:Hid (dJ d (b,f) n=0):=by unfold Hid;rw [al.o,if_neg h5]
    have a4:Hid (dropC d (b,f) n=({d with ds:=insL ltRK d.ds (b,f) n},0)):=by unfold Hid;rw [bk.o,if_pos G.o]
    have dp:¬((5000:Int)<=(N:Int)):=by omega
    have em:(q:Int)<=(N:Int):=by omega
    obtain ⟨i0,hi,d7,d8,d9⟩:=info_parts Dh;have HI:=Z hi;have b1:=Z d7;have b2:=Z d8;have b3:=Z d9;clear hi d7 d8 d9;rcases r.ds.2 with ⟨hv,d5⟩|⟨g,e6,e7,hv,_,_,d3,_⟩
    · injection hv with e1 e2 e3
      subst e1 e3;rw [E.o] at d5;subst d5;obtain rfl:q=0:=by omega
      have cq:Hid (∀W,Bw w1 W->aB 0 w1.heap.size W (a1 Y 0 0) 0 ((d.ds.drop 0).flatMap dropCells)):=λW D=>by have:d.ds=[]:=ia E.o;rw [this];exact ⟨Y,0,rfl,λh=>absurd rfl h⟩
      have cs:Hid (∀W,Bw w1 W->aB 0 w1.heap.size W (a1 Y 0 0) 0 ((d.ds.take 0).flatMap dropCells)):=λW D=>⟨Y,0,rfl,λh=>absurd rfl h⟩;clear e2;have cm:Hid (((d.ds.take 0).flatMap dropCells).length=0 * 3):=by unfold Hid;rw [bS dropCells 3 (λ_=>rfl),hL,E.o,hY (by omega)]
      have bp:Hid (((d.ds.drop 0).flatMap dropCells).length=(0) * 3):=by unfold Hid;rw [bS dropCells 3 (λ_=>rfl),hM,E.o]
      have cc:Hid (([J U b,J U f,J U n]++(d.ds.drop 0).flatMap dropCells:List it).length=(1+(0)) * 3):=by unfold Hid;rw [hK,bp.o];show 3+_=_;omega
      have ca:Hid ((insL ltRK d.ds (b,f) n).flatMap dropCells=([]++(d.ds.take 0).flatMap dropCells)++([J U b,J U f,J U n]++(d.ds.drop 0).flatMap dropCells)):=by unfold Hid;rw [a6.o,hR,hH];rfl
      have cb:Hid ((insL ltRK d.ds (b,f) n).length=0+(1+(0))):=by unfold Hid;rw [a6.o,hK,hW,hL,hM,E.o];omega
      have ch:Hid (∀u∈(d.ds.take 0).flatMap dropCells,u.oneCell'=true):=iz _;have bw:Hid (∀u∈(d.ds.drop 0).flatMap dropCells,u.oneCell'=true):=iz _;have cl:Hid (∀u∈[J U b,J U f,J U n]++(d.ds.drop 0).flatMap dropCells,u.oneCell'=true):=λu hu=>by
       rcases List.mem_append.1 hu with hu|hu
       · simp only [hS,hQ,or_false] at hu;rcases hu with rfl|rfl|rfl<;>rfl
       · exact bw u hu
      generalize (d.ds.take 0).flatMap dropCells=TK at *;generalize (d.ds.drop 0).flatMap dropCells=DR at *;go_enter func42,ntmps42;go_upto_region 11 with (go_at_call 81;((with_reducible refine hO au.o ?_);rintro e t ⟨rfl,y⟩;obtain ⟨p1,p2,p3⟩:=M.o t y;have x:=Z y;clear y))
      clear p1 p2 p3;have aT:Bw w1 t.drew:=x.drew;refine Wb w1 999 ?_;refine Qd [0,1,4,8,2,5,6,7] aT M ?_;refine bZ (i:=9) (v:=a1 Y 0 0) rfl (by kernel_rfl) (by kernel_rfl) (by kernel_rfl) (by rfl) (λ_ _ _ h=>h) aT (iS ⟨by rfl,?_⟩) ?_;focus (intro w' h;(first |(go_simp;done)|(go_simp;rfl)))
      (try go_simp)
      refine Dp 3 λK I=>?_;go_simp;obtain ⟨H,a3⟩:=Qe ((t.alloc (a2 #[J U b,J U f,J U n] 142)).drew);have a0:Bw w1 H:=by rw [<- a3];exact (x.o.alloc x.o.size _).drew
      have bT:H.ownsRow w1.heap.size 142 3 (a1 (X ⟨t.heap.size,0,Y⟩) 1 1) 1 [J U b,J U f,J U n]:=by rw [<- a3];exact hV (base:=w1.heap.size) (e:=142) (size:=3) t #[J U b,J U f,J U n] 1 x.o.size (by unfold maxLen;omega) rfl
      have d0:H.heap.size=t.heap.size+1:=by rw [<- a3];show (t.alloc _).heap.size=_;simp
      rw [a3];refine I _ _ (λ_=>a0) ?_;clear I K;clear a3;obtain ⟨b4,c4,z,c3,aC,bD,cy⟩:=bj (P:=prog) H w1.heap.size 31 31 142 i0 (.agg #[J U 0,J U 0,J U 0]) 3 24 underlying31 HI.o b1.o b2.o b3.o rfl (by decide) t.heap.size 1 1 [J U b,J U f,J U n] bT w1.heap.size (a1 Y 0 0) (0) DR (cq.o H a0) bp.o bw.o (by unfold maxLen;omega) (by omega) a0.size;have C:Bw w1 z:=a0.grown bD a0.size (λj A=>by injection A with A;have:=x.o.size;omega);refine Dp 10 λK I=>?_;refine dV rfl rfl rfl c3 ?_;refine I _ _ (λ_=>C) ?_;clear I K;go_simp;refine Qc [11] C ?_
      refine dN ?_;have cd:=Z aC;have dn:=Z C;have cz:b4<z.heap.size:=(aC.lt b4 rfl).2;have c9:=Z (dj (B:=w1.heap.size) (e:=142) (k:=3) (w:=z.alloc (a2 #[] 142)) (hI z _) C.size);have a5:Hid (Bw w1 (z.alloc (a2 #[] 142))):=C.alloc C.size _;have bc:Hid (w1.heap.size<=(z.alloc (a2 #[] 142)).heap.size):=a5.size;have cp:Hid (w1.heap.size<=z.heap.size):=C.size;obtain ⟨s1,_,_⟩:=M z C;have s2:(z.alloc (a2 #[] 142)).cell? ⟨p,1,Y⟩=X (a1 Y 0 0):=(M _ a5.o).1;clear aC bD cy a0 aT C bT c3 d0
      go_wp2_with (first
       |(at_builtin;(refine aF _ rfl _ _ 31 rfl w1.heap.size 142 i0 (.agg #[J U 0,J U 0,J U 0]) 3 24 underlying31 HI.o b1.o b2.o b3.o rfl (by decide) z.heap.size 0 0 [] rfl c9.o w1.heap.size (a1 Y 0 0) 0 TK rfl (cs.o _ a5.o) cm.o ch.o (by unfold maxLen;omega) (by omega) bc.o ?_;intro b5 c5 w5 aS ay _;have bA:Hid (Bw w1 w5):=a5.o.grown ay bc.o (λj A=>by injection A with A;have:=cp.o;omega);rw [hX] at aS;have bs:=Z aS;have cu:Hid (w5.ownsRow w1.heap.size 142 3 (a1 (X ⟨b4,0,Y⟩) (1+(0)) c4) (1+(0)) ([J U b,J U f,J U n]++DR)):=ah cd.o (λR l=>by have l:X b4=X R:=l;injection l with l;subst l;rw [ay.block _ (by simp;omega) (λe=>by injection e with e;omega)];exact hT _ _ _ cz);have bB:Hid (w1.heap.size<=w5.heap.size):=bA.o.size;clear aS ay))
       |(at_builtin;(refine aF _ rfl _ _ 31 rfl w1.heap.size 142 i0 (.agg #[J U 0,J U 0,J U 0]) 3 24 underlying31 HI.o b1.o b2.o b3.o rfl (by decide) b5 0 c5 ([]++TK) rfl bs.o w5.heap.size (a1 (X ⟨b4,0,Y⟩) (1+(0)) c4) (1+(0)) ([J U b,J U f,J U n]++DR) rfl ((aP cu.o).mono (hP _) (hJ _)) cc.o cl.o (by unfold maxLen;omega) (by omega) bB.o ?_;intro O c6 L c0 bO _;have b0:Bw w1 L:=bA.o.grown bO bB.o (λj A=>by injection A with A;subst A;exact (bs.o.lt _ rfl).1);have bt:=Z c0;have a8:=(b0.block p (r.o.lt p r.o.fp)).trans r.o.blk;have y1:=(aa a8 1).trans rfl;have z1:=ab a8 1;have dk:=Z a8;have av:=Z b0;clear c0 bO a8 b0)))
      go_ret;rw [a4.o];refine ⟨rfl,?_⟩;have ax:=r.below av.o;have cv:w.heap.size<=w1.heap.size:=ad.size;have dx:w1.heap.size<=L.heap.size:=av.size;have b9:L.ownsRow 0 142 3 (a1 (X ⟨O,0,Y⟩) (0+(1+(0))) c6) (insL ltRK d.ds (b,f) n).length ((insL ltRK d.ds (b,f) n).flatMap dropCells):=by rw [ca.o,cb.o];exact bz bt.o (hP _)
      have cP:=bt.lt O rfl;have a7:O≠p:=λe=>by have:=r.o.lt p r.o.fp;omega
      refine ⟨λk=>F k∨(w.heap.size<=k/\k<L.heap.size),⟨v1,_,v3,xs,ax.put2 (w':=L.setCell ⟨p,1,Y⟩ _) (vN:=a1 (X ⟨O,0,Y⟩) (0+(1+(0))) c6) (λk s=> .inl s) (λk s=>?_) (λk _ a7 _=>hG _ _ _ _ a7) ((ap ax.blk 1 _).trans rfl) (ah b9 (λR l=>by have l:X O=X R:=l;injection l with l;subst l;exact hG _ _ _ _ a7)) (λR l=>?_) (by rw [hF];exact hJ _) (cg.o G.o)⟩,?_⟩
      · rw [hF];rcases s with s|s
        · exact ax.lt k s
        · exact s.2
      · have l:X O=X R:=l;injection l with l
        subst l;exact ⟨.inr ⟨by omega,cP.2⟩, .inr (λT=>by have:=d1.o _ T;omega)⟩
      · have D:Bw w L:=ad.trans (av.mono cv);exact ((ag.of_below D).trans (ag.of_only (aw.setCell (aw.refl p L) 1 _) r.fp)).more λk s=>by
         rcases s with s|s
         · exact .inl s
         · exact .inr s.1
    · injection hv with e1 e2 e3
      subst e1 e3;have d3:N<=vc:=by rw [<- E.o];exact d3
      have eg:(q:Int)<=(vc:Int):=by omega
      have e8:(N:Int)<=(vc:Int):=by omega
      clear e2;obtain ⟨bb,cQ⟩:=Qe ((if vc=q then 0 else q * 3));have dd:Hid (q<N->bb=q * 3):=λh=>by rw [<- cQ,if_neg (by omega)]
      have cq:Hid (∀W,Bw w1 W->aB 0 w1.heap.size W (a1 (X ⟨g,bb,Y⟩) (N - q) (vc - q)) (N - q) ((d.ds.drop q).flatMap dropCells)):=λW D=>by have hr:=(r.below D).ds;rw [E.o] at hr;exact pw (enc:=dropCells) (k:=3) (λ_=>rfl) hr (by rw [E.o]) q c1 dd.o (r.o.ds.lt g rfl).2
      have cs:Hid (∀W,Bw w1 W->aB 0 w1.heap.size W (a1 (X ⟨g,0,Y⟩) q vc) q ((d.ds.take q).flatMap dropCells)):=λW D=>by have hr:=(r.below D).ds;rw [E.o] at hr;exact pA (enc:=dropCells) (k:=3) (λ_=>rfl) hr q c1 (r.ds.lt g rfl).2
      have di:=Z cQ;clear cQ;have cm:Hid (((d.ds.take q).flatMap dropCells).length=q * 3):=by unfold Hid;rw [bS dropCells 3 (λ_=>rfl),hL,E.o,hY (by omega)]
      have bp:Hid (((d.ds.drop q).flatMap dropCells).length=(N - q) * 3):=by unfold Hid;rw [bS dropCells 3 (λ_=>rfl),hM,E.o]
      have cc:Hid (([J U b,J U f,J U n]++(d.ds.drop q).flatMap dropCells:List it).length=(1+(N - q)) * 3):=by unfold Hid;rw [hK,bp.o];show 3+_=_;omega
      have ca:Hid ((insL ltRK d.ds (b,f) n).flatMap dropCells=([]++(d.ds.take q).flatMap dropCells)++([J U b,J U f,J U n]++(d.ds.drop q).flatMap dropCells)):=by unfold Hid;rw [a6.o,hR,hH];rfl
      have cb:Hid ((insL ltRK d.ds (b,f) n).length=q+(1+(N - q))):=by unfold Hid;rw [a6.o,hK,hW,hL,hM,E.o];omega
      have ch:Hid (∀u∈(d.ds.take q).flatMap dropCells,u.oneCell'=true):=iz _;have bw:Hid (∀u∈(d.ds.drop q).flatMap dropCells,u.oneCell'=true):=iz _;have cl:Hid (∀u∈[J U b,J U f,J U n]++(d.ds.drop q).flatMap dropCells,u.oneCell'=true):=λu hu=>by
       rcases List.mem_append.1 hu with hu|hu
       · simp only [hS,hQ,or_false] at hu;rcases hu with rfl|rfl|rfl<;>rfl
       · exact bw u hu
      generalize (d.ds.take q).flatMap dropCells=TK at *;generalize (d.ds.drop q).flatMap dropCells=DR at *;go_enter func42,ntmps42;go_upto_region 11 with (go_at_call 81;((with_reducible refine hO au.o ?_);rintro e t ⟨rfl,y⟩;obtain ⟨p1,p2,p3⟩:=M.o t y;have x:=Z y;clear y))
      clear p1 p2 p3;have aT:Bw w1 t.drew:=x.drew;refine Wb w1 999 ?_;refine Qd [0,1,4,8,2,5,6,7] aT M ?_;refine bZ (i:=9) (v:=a1 (X ⟨g,bb,Y⟩) (N - q) (vc - q)) rfl (by kernel_rfl) (by kernel_rfl) (by kernel_rfl) (by rfl) (λ_ _ _ h=>h) aT (iS ⟨by rfl,?_⟩) ?_;focus (intro w' h;go_simp;rw [<- di.o];(first |rfl|(split<;>simp_all)))
      (try go_simp)
      refine Dp 3 λK I=>?_;go_simp;obtain ⟨H,a3⟩:=Qe ((t.alloc (a2 #[J U b,J U f,J U n] 142)).drew);have a0:Bw w1 H:=by rw [<- a3];exact (x.o.alloc x.o.size _).drew
      have bT:H.ownsRow w1.heap.size 142 3 (a1 (X ⟨t.heap.size,0,Y⟩) 1 1) 1 [J U b,J U f,J U n]:=by rw [<- a3];exact hV (base:=w1.heap.size) (e:=142) (size:=3) t #[J U b,J U f,J U n] 1 x.o.size (by unfold maxLen;omega) rfl
      have d0:H.heap.size=t.heap.size+1:=by rw [<- a3];show (t.alloc _).heap.size=_;simp
      rw [a3];refine I _ _ (λ_=>a0) ?_;clear I K;clear a3;obtain ⟨b4,c4,z,c3,aC,bD,cy⟩:=bj (P:=prog) H w1.heap.size 31 31 142 i0 (.agg #[J U 0,J U 0,J U 0]) 3 24 underlying31 HI.o b1.o b2.o b3.o rfl (by decide) t.heap.size 1 1 [J U b,J U f,J U n] bT w1.heap.size (a1 (X ⟨g,bb,Y⟩) (N - q) (vc - q)) (N - q) DR (cq.o H a0) bp.o bw.o (by unfold maxLen;omega) (by omega) a0.size;have C:Bw w1 z:=a0.grown bD a0.size (λj A=>by injection A with A;have:=x.o.size;omega);refine Dp 10 λK I=>?_;refine dV rfl rfl rfl c3 ?_;refine I _ _ (λ_=>C) ?_;clear I K;go_simp;refine Qc [11] C ?_
      refine dN ?_;have cd:=Z aC;have dn:=Z C;have cz:b4<z.heap.size:=(aC.lt b4 rfl).2;have c9:=Z (dj (B:=w1.heap.size) (e:=142) (k:=3) (w:=z.alloc (a2 #[] 142)) (hI z _) C.size);have a5:Hid (Bw w1 (z.alloc (a2 #[] 142))):=C.alloc C.size _;have bc:Hid (w1.heap.size<=(z.alloc (a2 #[] 142)).heap.size):=a5.size;have cp:Hid (w1.heap.size<=z.heap.size):=C.size;obtain ⟨s1,_,_⟩:=M z C;have s2:(z.alloc (a2 #[] 142)).cell? ⟨p,1,Y⟩=X (a1 (X ⟨g,0,Y⟩) N vc):=(M _ a5.o).1;clear aC bD cy a0 aT C bT c3 d0
      go_wp2_with (first
       |(at_builtin;(refine aF _ rfl _ _ 31 rfl w1.heap.size 142 i0 (.agg #[J U 0,J U 0,J U 0]) 3 24 underlying31 HI.o b1.o b2.o b3.o rfl (by decide) z.heap.size 0 0 [] rfl c9.o w1.heap.size (a1 (X ⟨g,0,Y⟩) q vc) q TK rfl (cs.o _ a5.o) cm.o ch.o (by unfold maxLen;omega) (by omega) bc.o ?_;intro b5 c5 w5 aS ay _;have bA:Hid (Bw w1 w5):=a5.o.grown ay bc.o (λj A=>by injection A with A;have:=cp.o;omega);rw [hX] at aS;have bs:=Z aS;have cu:Hid (w5.ownsRow w1.heap.size 142 3 (a1 (X ⟨b4,0,Y⟩) (1+(N - q)) c4) (1+(N - q)) ([J U b,J U f,J U n]++DR)):=ah cd.o (λR l=>by have l:X b4=X R:=l;injection l with l;subst l;rw [ay.block _ (by simp;omega) (λe=>by injection e with e;omega)];exact hT _ _ _ cz);have bB:Hid (w1.heap.size<=w5.heap.size):=bA.o.size;clear aS ay))
       |(at_builtin;(refine aF _ rfl _ _ 31 rfl w1.heap.size 142 i0 (.agg #[J U 0,J U 0,J U 0]) 3 24 underlying31 HI.o b1.o b2.o b3.o rfl (by decide) b5 q c5 ([]++TK) rfl bs.o w5.heap.size (a1 (X ⟨b4,0,Y⟩) (1+(N - q)) c4) (1+(N - q)) ([J U b,J U f,J U n]++DR) rfl ((aP cu.o).mono (hP _) (hJ _)) cc.o cl.o (by unfold maxLen;omega) (by omega) bB.o ?_;intro O c6 L c0 bO _;have b0:Bw w1 L:=bA.o.grown bO bB.o (λj A=>by injection A with A;subst A;exact (bs.o.lt _ rfl).1);have bt:=Z c0;have a8:=(b0.block p (r.o.lt p r.o.fp)).trans r.o.blk;have y1:=(aa a8 1).trans rfl;have z1:=ab a8 1;have dk:=Z a8;have av:=Z b0;clear c0 bO a8 b0)))
      go_ret;rw [a4.o];refine ⟨rfl,?_⟩;have ax:=r.below av.o;have cv:w.heap.size<=w1.heap.size:=ad.size;have dx:w1.heap.size<=L.heap.size:=av.size;have b9:L.ownsRow 0 142 3 (a1 (X ⟨O,0,Y⟩) (q+(1+(N - q))) c6) (insL ltRK d.ds (b,f) n).length ((insL ltRK d.ds (b,f) n).flatMap dropCells):=by rw [ca.o,cb.o];exact bz bt.o (hP _)
      have cP:=bt.lt O rfl;have a7:O≠p:=λe=>by have:=r.o.lt p r.o.fp;omega
      refine ⟨λk=>F k∨(w.heap.size<=k/\k<L.heap.size),⟨v1,_,v3,xs,ax.put2 (w':=L.setCell ⟨p,1,Y⟩ _) (vN:=a1 (X ⟨O,0,Y⟩) (q+(1+(N - q))) c6) (λk s=> .inl s) (λk s=>?_) (λk _ a7 _=>hG _ _ _ _ a7) ((ap ax.blk 1 _).trans rfl) (ah b9 (λR l=>by have l:X O=X R:=l;injection l with l;subst l;exact hG _ _ _ _ a7)) (λR l=>?_) (by rw [hF];exact hJ _) (cg.o G.o)⟩,?_⟩
      · rw [hF];rcases s with s|s
        · exact ax.lt k s
        · exact s.2
      · have l:X O=X R:=l;injection l with l
        subst l;exact ⟨.inr ⟨by omega,cP.2⟩, .inr (λT=>by have:=d1.o _ T;omega)⟩
      · have D:Bw w L:=ad.trans (av.mono cv);exact ((ag.of_below D).trans (ag.of_only (aw.setCell (aw.refl p L) 1 _) r.fp)).more λk s=>by
         rcases s with s|s
         · exact .inl s
         · exact .inr s.1
end
section
open Go.RowKit Go.Maps Go.Shelf
theorem De:(prog.info? 64).map (λi=>(i.zero,i.size,i.bytes))=X (X (.agg #[J U 0,J U 0,J U 0,J hE 0,J hE 0,a1 Y 0 0]),6,56):=by kernel_rfl
theorem js (l:List (RK×VX)) (h:∀p∈l,p.2.2.oneCell'=true):∀u∈l.flatMap verCells,u.oneCell'=true:=by
 intro u b;obtain ⟨p,c,b⟩:=List.mem_flatMap.1 b;simp only [verCells,hS,hQ,or_false] at b;rcases b with rfl|rfl|rfl|rfl|rfl|rfl<;>first |rfl|exact h p c
theorem uF {lo d:Nat} {w:iv} {x:it} {b:List af} (h:ai lo d w x b):x.oneCell'=true:=by
 obtain ⟨a,c,rfl⟩:=h.shape;rfl
theorem ou {α:Type} (enc:α->List it) (n:Nat) (c:∀x,(enc x).length=n) (b:List α) (q:Nat) (d:q<b.length) (y:α):(b.flatMap enc).take (q * n)++enc y++(b.flatMap enc).drop (q * n+n)=(b.set q y).flatMap enc:=by
 rw [List.set_eq_take_append_cons_drop,if_pos d,hR,hH,ke enc n c,kg enc n c,iD,List.append_assoc]
theorem AG {W:iv} {g N c:Nat} {b:List (RK×VX)} (h:W.ownsRow 0 64 6 (a1 (X ⟨g,0,Y⟩) N c) N (b.flatMap verCells)) (i:b.length=N) (q:Nat) (e:q<N) (y:RK×VX):
 ((((((W.setCell ⟨g,q * 6,Y⟩ (J U y.1.1)).setCell ⟨g,q * 6+1,Y⟩ (J U y.1.2)).setCell ⟨g,q * 6+2,Y⟩ (J U y.2.1.1)).setCell ⟨g,q * 6+3,Y⟩ (J hE y.2.1.2.kind.toNat)).setCell ⟨g,q * 6+4,Y⟩ (J hE y.2.1.2.level.toNat)).setCell ⟨g,q * 6+5,Y⟩ y.2.2).ownsRow 0 64 6 (a1 (X ⟨g,0,Y⟩) N c) N ((b.set q y).flatMap verCells)/\
   aw g W ((((((W.setCell ⟨g,q * 6,Y⟩ (J U y.1.1)).setCell ⟨g,q * 6+1,Y⟩ (J U y.1.2)).setCell ⟨g,q * 6+2,Y⟩ (J U y.2.1.1)).setCell ⟨g,q * 6+3,Y⟩ (J hE y.2.1.2.kind.toNat)).setCell ⟨g,q * 6+4,Y⟩ (J hE y.2.1.2.level.toNat)).setCell ⟨g,q * 6+5,Y⟩ y.2.2):=by
 have d:(b.flatMap verCells).length=N * 6:=h.1;have f:(q+1) * 6<=N * 6:=iF 6 e;have:=cU (verCells y) (q * 6) W _ h (by rw [d];show q * 6+6<=_;omega);rw [show q * 6+(verCells y).length=q * 6+6 from rfl,ou verCells 6 (λ_=>rfl) b q (by omega) y] at this;exact this
theorem tV {W:iv} {p lo b:Nat} {vN d e:it} {c:Nat->Prop} {k:RK} {n:Int} {r:az} {x:it} (h:ai lo b W x r.fields) (g:b<=W.heap.size) (f:∀q,lo<=q->q<b->c q/\q≠p/\vN.ownBlock≠X q/\d.ownBlock≠X q/\e.ownBlock≠X q):dT (restM c p vN d e) W (k,((n,r),x)):=
 ⟨lo,b,h,g,f⟩
theorem B9 {b:List (RK×VX)} {d:ar} (h:b.map (λp=>(p.1,p.2.1))=d.vs) (k:RK) (v:Int×az) (x:it):(insL ltRK b k (v,x)).map (λp=>(p.1,p.2.1))=insL ltRK d.vs k v:=by
 rw [<- h];exact vO ltRK (λp:VX=>p.1) b k (v,x)
theorem Cm (F:Nat->Prop) (w0 w:iv) (p:Nat) (d:ar) (hm:cA F w0 p d) (cs:Bw w0 w) (k:RK) (n:Int) (f lv:UInt8) (b:List af) (x:it) (hx:ai w0.heap.size w.heap.size w x b) (bO:bR b) (E:rkOk k) (hn:i64B n):
 iP prog 46 #[fn (X ⟨p,0,Y⟩),kT k n ⟨f,lv,b⟩ x] w λe w'=>e=hb (J U (putC d k n ⟨f,lv,b⟩).2)/\∃F',cA F' w' p (putC d k n ⟨f,lv,b⟩).1/\ag F w0 F' w':=by
 obtain ⟨v1,v2,v3,t,h⟩:=hm;have ac:=Z h.lt;obtain ⟨A,C,rfl⟩:=hx.shape;obtain ⟨l,s⟩:=k;obtain ⟨w1,cc⟩:=Qe (w.alloc (a2 #[J U l,J U s,J U n,J hE f.toNat,J hE lv.toNat,a1 A b.length C] 64));have d6:Bw w w1:=by rw [<- cc];exact (hZ _ w).alloc (hJ _) _
 have R:=hI w (a2 #[J U l,J U s,J U n,J hE f.toNat,J hE lv.toNat,a1 A b.length C] 64);rw [cc] at R;have HK:=Z R;have D:=Z ((h.below cs).below d6);have bc:Hid (Bw w0 w1):=cs.trans (d6.mono cs.size);have d1:w1.heap.size=w.heap.size+1:=by rw [<- cc];simp
 have aC:=Z d1;have bk:Hid (w0.heap.size<=w.heap.size):=cs.size;have HX:Hid (ai w0.heap.size w.heap.size w1 (a1 A b.length C) b):=hx.kept (λq _ M=>d6.block q M);have g7:=Z cc;have bs:Hid (iP prog 85 #[.agg #[J hE f.toNat,J hE lv.toNat,a1 A b.length C]] (w.alloc (a2 #[J U l,J U s,J U n,J hE f.toNat,J hE lv.toNat,a1 A b.length C] 64)) λe w'=>e=hb (hk (decide (wrongR ⟨f,lv,b⟩=0)))/\Bw w1 w'):=by unfold Hid;rw [cc];exact yH ⟨f,lv,b⟩ _ w1 ⟨_,rfl,HX.o.mono (hP _) (by omega)⟩ bO
 have bT:Hid (∀W,Bw w1 W->(W.cell? ⟨w.heap.size,0,Y⟩=X (J U l)/\W.cell? ⟨w.heap.size,1,Y⟩=X (J U s)/\W.cell? ⟨w.heap.size,2,Y⟩=X (J U n)/\W.cell? ⟨w.heap.size,3,Y⟩=X (J hE f.toNat)/\W.cell? ⟨w.heap.size,4,Y⟩=X (J hE lv.toNat)/\W.cell? ⟨w.heap.size,5,Y⟩=X (a1 A b.length C))):=λW H=>
  kY ((H.block _ (by omega)).trans R)
 have g6:=Z bO;clear d6 d1 cc R cs hx bO;unfold kT;dsimp only;by_cases hr:wrongR ⟨f,lv,b⟩=0
 · rw [decide_eq_true hr] at bs;have dp:Hid (putX d (l,s) n ⟨f,lv,b⟩=0->bd {d with vs:=insL ltRK d.vs (l,s) (n,⟨f,lv,b⟩)}):=λhx=>h.ok.put E hn hr hx;have bY:=Z (put_eq d (l,s) n ⟨f,lv,b⟩ hr);have bb:Hid (∀W,Bw w1 W->iP prog 86 #[fn (X ⟨p,0,Y⟩), .agg #[J U l,J U s]] W λe w'=>e=hb (.tuple #[J U (placeK ltRK t (l,s)),hk (findK t (l,s)).isSome])/\Bw W w'):=λW H=>tu F W p v1 v2 v3 t d (D.below H) (l,s);have cP:=gR (lt:=ltRK) t (l,s);have es:=h.lx;have fz:=Z h.len;have g0:=Z h.vx;have c9:findK d.vs (l,s)=(findK t (l,s)).map (·.1):=by rw [<- h.vx];exact sA t (l,s)
   have c3:=Z (B9 h.vx (l,s) (n,(⟨f,lv,b⟩:az)) (a1 A b.length C));clear hr;cases hf:findK t (l,s) with
   |some m=>
    obtain ⟨⟨O,aS,aT,a8⟩,x'⟩:=m;obtain ⟨M,he⟩:=ll aN h.sx hf;have al:=Z (p6 aN h.sx hf ((n,(⟨f,lv,b⟩:az)),a1 A b.length C));have e8:((l,s),((O,(⟨aS,aT,a8⟩:az)),x'))∈t:=by rw [<- he];exact List.getElem_mem M
    obtain ⟨gq,gc,ca,er,_⟩:=D.fx _ e8;dsimp only at ca;obtain ⟨d8,d9,rfl⟩:=ca.shape;have f6:Hid (ai 0 w1.heap.size w1 (a1 d8 a8.length d9) a8):=ca.mono (hP _) er;have ft:Hid (bR a8):=by
     have g4:((l,s),(O,(⟨aS,aT,a8⟩:az)))∈d.vs:=by rw [<- g0.o];exact List.mem_map.2 ⟨_,e8,rfl⟩
     exact (eo (h.ok.right _ g4)).2.2
    obtain ⟨g,c,hv,hg,hc⟩:=eU (enc:=verCells) (λ_=>rfl) D.vs _ M;rw [he] at hc;rw [hf] at c9;have ay:Hid (putX d (l,s) n ⟨f,lv,b⟩=aJ true (decide (O=n)&&decide ((⟨aS,aT,a8⟩:az)=⟨f,lv,b⟩)) O n d.vs.length):=by unfold Hid putX;rw [c9];rfl
    rw [hf] at bb;obtain ⟨q,cb⟩:=Qe (placeK ltRK t (l,s));rw [cb] at bb M hc al;have HE:Hid (∃M:q<t.length,t[q]=((l,s),((O,(⟨aS,aT,a8⟩:az)),a1 d8 a8.length d9))):=by subst cb;exact ⟨M,he⟩
    have HC:=Z hc;obtain ⟨N,hN⟩:=Qe t.length;rw [hN] at hv M es;have HN:=Z hN;subst hv;have gd:(q:Int)<(N:Int):=by omega
    have b1:Hid (∀W,Bw w1 W->W.cell? ⟨p,0,Y⟩=X (a1 (X ⟨g,0,Y⟩) N c)/\W.cell? ⟨g,q * 6+2,Y⟩=X (J U O)/\W.cell? ⟨g,q * 6+3,Y⟩=X (J hE aS.toNat)/\W.cell? ⟨g,q * 6+4,Y⟩=X (J hE aT.toNat)/\W.cell? ⟨g,q * 6+5,Y⟩=X (a1 d8 a8.length d9)):=λW H=>
     ⟨(aa ((H.block _ (D.lt p D.fp)).trans D.blk) 0).trans rfl,((aE H).1 g _ hg).trans (HC 2 _ rfl),((aE H).1 g _ hg).trans (HC 3 _ rfl),((aE H).1 g _ hg).trans (HC 4 _ rfl),((aE H).1 g _ hg).trans (HC 5 _ rfl)⟩
    have ee:Hid (∀W,Bw w1 W->iP prog 87 #[.agg #[J hE aS.toNat,J hE aT.toNat,a1 d8 a8.length d9], .agg #[J hE f.toNat,J hE lv.toNat,a1 A b.length C]] W λe w'=>e=hb (hk (sameR ⟨aS,aT,a8⟩ ⟨f,lv,b⟩))/\Bw W w'):=λW H=>
     Ax aS aT f lv a8 b _ _ W ((f6.o.kept (λq _ M=>H.block q M)).mono (hJ _) H.size) ((HX.o.kept (λq _ M=>H.block q (by have:=aC.o;omega))).mono (hP _) (by have:=H.size;have:=aC.o;omega)) ft.o
    obtain ⟨sm,bO⟩:=Qe (sameR ⟨aS,aT,a8⟩ ⟨f,lv,b⟩);rw [bO] at ee;have fy:Hid (decide ((⟨aS,aT,a8⟩:az)=⟨f,lv,b⟩)=sm):=by unfold Hid;rw [<- bO,Bool.eq_iff_iff,decide_eq_true_eq,nQ]
    rw [fy.o] at ay;clear hc he cb hN hf cP h M c9 e8 ca er bO;have ao:=Z (λW H=>(⟨b1 W H,bT W H⟩:_/\_));go_enter func46,ntmps46
    go_upto_region 6 with (first
     |(go_at_call 85;((with_reducible refine hO bs.o ?_);rintro e w2 ⟨rfl,a6⟩;obtain ⟨t0,t1,t2,t3,t4,t5⟩:=bT.o w2 a6;have a4:=Z a6;clear a6))
     |(go_at_call 86;((with_reducible refine hO (bb.o _ a4.o) ?_);rintro e w3 ⟨rfl,ax⟩;have a0:Hid (Bw w1 w3):=a4.o.trans (ax.mono a4.o.size);clear ax t0 t1 t2 t3 t4 t5)))
    have a3:Bw w1 w3.drew:=a0.drew;refine Wb w1 999 ?_;refine Qd [0,4,8,1,9,2,3,5,6,7] a3 ao ?_;refine Dp 10 λK R=>?_;go_simp;go_at_call 87;refine (ee _ a3).mono ?_;rintro e L ⟨rfl,c7⟩;have T:Bw w1 L:=a3.trans (c7.mono a3.size);refine R _ _ (λ_=>T) ?_;clear R K;refine Qc [11] T ?_
    refine dN ?_;have au:=Z T;clear c7 T a3;have b9:Bw w1 L.drew:=au.drew;rcases iN O n with cy|cy|cy
    · have a5:Hid (putX d (l,s) n ⟨f,lv,b⟩=0):=by unfold Hid;rw [ay.o,decide_eq_false (show O≠n by omega)];unfold aJ;simp;omega
      have a7:Hid (putC d (l,s) n ⟨f,lv,b⟩=({d with vs:=insL ltRK d.vs (l,s) (n,⟨f,lv,b⟩)},0)):=by unfold Hid;rw [bY.o,if_pos a5.o]
      have f1:(O==n)=false:=by simp;omega
      have f2:¬(O=n):=by omega
      have f3:¬(n<=O):=by omega
      clear cy;go_wp2_with fail
      refine Wb w1 999 ?_;refine Qd [0,1,2,3,4,5,6,7,8,9,10,11] b9 ao ?_;refine tfS 12 rfl b9 ?_;(try go_simp)
      refine Qc [13] b9 ?_
      refine dN ?_;go_wp2_with fail
      have a9:Bw w1 L.drew.drew:=au.drew.drew;refine Wb w1 999 ?_;refine Qd [0,1,2,3,4,5,6,7,8,9,10] a9 ao ?_;refine dN ?_;go_wp2_with fail
      have bp:Bw w1 L.drew.drew.drew:=au.drew.drew.drew;refine Wb w1 7 ?_;refine Qb [0,4,5,1,2,3,6] bp ao ?_;obtain ⟨W5,em⟩:=Qe L.drew.drew.drew;rw [em] at bp ⊢;have d3:=Z bp;have ad:=(D.below bp).vs;rw [HN.o] at ad;have fl:=Z ad;have z0:=ad.frozenAt (q * 6);have z1:=ad.frozenAt (q * 6+1);have z2:=ad.frozenAt (q * 6+2);have z3:=ad.frozenAt (q * 6+3);have z4:=ad.frozenAt (q * 6+4);have z5:=ad.frozenAt (q * 6+5);have y0:W5.cell? ⟨g,q * 6,Y⟩=X (J U l):=((aE bp).1 g _ hg).trans (HC 0 _ rfl);have y1:W5.cell? ⟨g,q * 6+1,Y⟩=X (J U s):=((aE bp).1 g _ hg).trans (HC 1 _ rfl);obtain ⟨s0,s2,s3,s4,s5⟩:=b1 W5 bp;clear em ad bp b9 a9;refine Dl 7 ?_;obtain ⟨d0,d7⟩:=AG fl.o HN.o q (by omega) ((l,s),((n,(⟨f,lv,b⟩:az)),a1 A b.length C));rw [<- al.o] at d0;dsimp only at d0 d7;obtain ⟨W6,d5⟩:=Qe (((((((W5.setCell ⟨g,q * 6,Y⟩ (J U l)).setCell ⟨g,q * 6+1,Y⟩ (J U s)).setCell ⟨g,q * 6+2,Y⟩ (J U n)).setCell ⟨g,q * 6+3,Y⟩ (J hE f.toNat)).setCell ⟨g,q * 6+4,Y⟩ (J hE lv.toNat)).setCell ⟨g,q * 6+5,Y⟩ (a1 A b.length C)));rw [d5] at d0 d7 ⊢;have fr:=Z d0;have av:=Z d7;clear d5 d0 d7 s0 s2 s3 s4 s5 z0 z1 z2 z3 z4 z5 y0 y1;go_wp2_with fail
      go_ret;rw [a7.o];refine ⟨rfl,?_⟩;have d4:=D.below d3.o;have g3:N=(insL ltRK t (l,s) ((n,(⟨f,lv,b⟩:az)),a1 A b.length C)).length:=by rw [al.o,iQ,HN.o]
      have eq:=D.f1 g rfl;have g2:g≠p:=eD D.vs D.blk (by decide) rfl;have gp:W6.heap.size=W5.heap.size:=av.size;have gn:=d3.size;have f5:=bk.o;have d1:=aC.o;refine ⟨λk=>F k∨(w0.heap.size<=k/\k<W6.heap.size),⟨a1 (X ⟨g,0,Y⟩) N c,v2,v3,insL ltRK t (l,s) ((n,(⟨f,lv,b⟩:az)),a1 A b.length C),?_⟩,?_⟩
      · rw [<- c3.o];refine d4.put1 (vN:=a1 (X ⟨g,0,Y⟩) N c) (λk E=> .inl E) (λk E=>?_) (λk _ _ b7=>av.o.block k (λe=>b7 (by rw [e];rfl))) ((av.o.block p (Ne.symm g2)).trans d4.blk) (g3 ▸ fr.o) (λg' G=>⟨.inl (d4.f1 g' G), .inl G⟩) (by omega) (by rw [c3.o];exact dp.o a5.o) (λy I=>?_)
        · rcases E with E|E
          · have:=d4.lt k E;omega
          · exact E.2
        · rw [al.o] at I;rcases List.mem_or_eq_of_mem_set I with I|rfl
          · exact .inl I
          · refine .inr (tV (r:=⟨f,lv,b⟩) ((HX.o.kept (λq _ M=>d3.o.block q (by omega))).kept (λq h1 _=>av.o.block q (λe=>by have:=ac.o g eq;omega))) (by omega) λq h1 h2=>⟨.inr ⟨h1,by omega⟩,λe=>by have:=ac.o p D.o.fp;omega,λe=>by have:=ac.o q (D.o.f1 q e);omega,λe=>by have:=ac.o q (D.o.f2 q e);omega,λe=>by have:=ac.o q (D.o.f3 q e);omega⟩)
      · have H:Bw w0 W5:=bc.o.trans (d3.o.mono (by omega));exact ((ag.of_below H).trans (ag.of_only av.o eq)).more λk E=>by
         rcases E with E|E
         · exact .inl E
         · exact .inr E.1
    · subst cy;have f1:(O==O)=true:=by simp
      have f3:O<=O:=Int.le_refl _;cases sm
      · have a5:Hid (putX d (l,s) O ⟨f,lv,b⟩=30):=by unfold Hid;rw [ay.o,decide_eq_true rfl];unfold aJ;simp
        have a7:Hid (putC d (l,s) O ⟨f,lv,b⟩=(d,30)):=by unfold Hid;rw [bY.o,if_neg (by rw [a5.o];decide),a5.o]
        go_wp2_with fail
        refine Wb w1 999 ?_;refine Qd [0,1,2,3,4,5,6,7,8,9,10,11,12,13] b9 ao ?_;refine dN ?_;go_wp2_with fail
        have a9:Bw w1 L.drew.drew:=au.drew.drew;refine Wb w1 999 ?_;refine Qd [0,1,2,3,4,5,6,7,8,9,10] a9 ao ?_;refine dN ?_;go_wp2_with fail
        go_ret;rw [a7.o];exact ⟨rfl,F,⟨_,_,_,_,D.o.below au.o.drew.drew⟩,ag.of_below (bc.o.trans (au.o.drew.drew.mono (by have:=bk.o;have:=aC.o;omega)))⟩
      · have a5:Hid (putX d (l,s) O ⟨f,lv,b⟩=22):=by unfold Hid;rw [ay.o,decide_eq_true rfl];rfl
        have a7:Hid (putC d (l,s) O ⟨f,lv,b⟩=(d,22)):=by unfold Hid;rw [bY.o,if_neg (by rw [a5.o];decide),a5.o]
        go_wp2_with fail
        refine Wb w1 999 ?_;refine Qd [0,1,2,3,4,5,6,7,8,9,10,11,12,13] b9 ao ?_;refine dN ?_;go_wp2_with fail
        go_ret;rw [a7.o];exact ⟨rfl,F,⟨_,_,_,_,D.o.below au.o.drew⟩,ag.of_below (bc.o.trans (au.o.drew.mono (by have:=bk.o;have:=aC.o;omega)))⟩
    · have a5:Hid (putX d (l,s) n ⟨f,lv,b⟩=30):=by unfold Hid;rw [ay.o,decide_eq_false (show O≠n by omega)];unfold aJ;simp;omega
      have a7:Hid (putC d (l,s) n ⟨f,lv,b⟩=(d,30)):=by unfold Hid;rw [bY.o,if_neg (by rw [a5.o];decide),a5.o]
      have f1:(O==n)=false:=by simp;omega
      have f2:¬(O=n):=by omega
      have f3:n<=O:=by omega
      clear cy;go_wp2_with fail
      refine Wb w1 999 ?_;refine Qd [0,1,2,3,4,5,6,7,8,9,10,11] b9 ao ?_;refine tfS 12 rfl b9 ?_;(try go_simp)
      refine Qc [13] b9 ?_
      refine dN ?_;go_wp2_with fail
      have a9:Bw w1 L.drew.drew:=au.drew.drew;refine Wb w1 999 ?_;refine Qd [0,1,2,3,4,5,6,7,8,9,10] a9 ao ?_;refine dN ?_;go_wp2_with fail
      go_ret;rw [a7.o];exact ⟨rfl,F,⟨_,_,_,_,D.o.below au.o.drew.drew⟩,ag.of_below (bc.o.trans (au.o.drew.drew.mono (by have:=bk.o;have:=aC.o;omega)))⟩
   |none=>
    have al:=Z (p7 aN h.sx hf ((n,(⟨f,lv,b⟩:az)),a1 A b.length C));rw [hf] at c9;have ay:Hid (putX d (l,s) n ⟨f,lv,b⟩=if 5000<=d.vs.length then 2 else 0):=by unfold Hid putX;rw [c9];show aJ false _ _ _ _=_;unfold aJ;simp
    rw [<- fz.o] at ay;rw [hf] at bb;obtain ⟨q,cb⟩:=Qe (placeK ltRK t (l,s));rw [cb] at bb cP al;obtain ⟨N,hN⟩:=Qe t.length;rw [hN] at es cP ay;have HN:=Z hN;obtain ⟨va,vc,hv⟩:=aK h.vs;rw [hN] at hv;subst hv;have b1:Hid (∀W,Bw w1 W->W.cell? ⟨p,0,Y⟩=X (a1 va N vc)):=λW H=>(aa ((H.block _ (D.lt p D.fp)).trans D.blk) 0).trans rfl;have ao:=Z (λW H=>(⟨b1 W H,bT W H⟩:_/\_));have d2:Hid (∀q∈t,q.2.2.oneCell'=true):=λq M=>by obtain ⟨_,_,ca,_⟩:=D.fx q M;exact uF ca
    clear cb hN hf h c9;by_cases h5:5000<=N
    · have a5:Hid (putX d (l,s) n ⟨f,lv,b⟩=2):=by unfold Hid;rw [ay.o,if_pos h5]
      have a7:Hid (putC d (l,s) n ⟨f,lv,b⟩=(d,2)):=by unfold Hid;rw [bY.o,if_neg (by rw [a5.o];decide),a5.o]
      have g1:(5000:Int)<=(N:Int):=by omega
      go_enter func46,ntmps46
      go_wp2_with (first
       |(go_at_call 85;((with_reducible refine hO bs.o ?_);rintro e w2 ⟨rfl,a6⟩;obtain ⟨t0,t1,t2,t3,t4,t5⟩:=bT.o w2 a6;have a4:=Z a6;clear a6))
       |(go_at_call 86;((with_reducible refine hO (bb.o _ a4.o) ?_);rintro e w3 ⟨rfl,ax⟩;have a0:Hid (Bw w1 w3):=a4.o.trans (ax.mono a4.o.size);have s0:=b1.o w3 a0.o;clear ax t0 t1 t2 t3 t4 t5)))
      go_ret;rw [a7.o];exact ⟨rfl,F,⟨_,_,_,_,D.o.below a0.o⟩,ag.of_below (bc.o.trans (a0.o.mono (by have:=bk.o;have:=aC.o;omega)))⟩
    · have a5:Hid (putX d (l,s) n ⟨f,lv,b⟩=0):=by unfold Hid;rw [ay.o,if_neg h5]
      have a7:Hid (putC d (l,s) n ⟨f,lv,b⟩=({d with vs:=insL ltRK d.vs (l,s) (n,⟨f,lv,b⟩)},0)):=by unfold Hid;rw [bY.o,if_pos a5.o]
      have g1:¬((5000:Int)<=(N:Int)):=by omega
      have gi:(q:Int)<=(N:Int):=by omega
      obtain ⟨i0,hi,eQ,f0,f4⟩:=info_parts De;have HI:=Z hi;have c0:=Z eQ;have c1:=Z f0;have c2:=Z f4;clear hi eQ f0 f4;rcases D.vs.2 with ⟨hv,ex⟩|⟨g,g8,g9,hv,_,_,eg,_⟩
      · injection hv with e1 e2 e3
        subst e1 e3;rw [HN.o] at ex;subst ex;obtain rfl:q=0:=by omega
        have e0:Hid (∀W,Bw w1 W->aB 0 w1.heap.size W (a1 Y 0 0) 0 ((t.drop 0).flatMap verCells)):=λW H=>by have:t=[]:=ia HN.o;rw [this];exact ⟨Y,0,rfl,λh=>absurd rfl h⟩
        have e4:Hid (∀W,Bw w1 W->aB 0 w1.heap.size W (a1 Y 0 0) 0 ((t.take 0).flatMap verCells)):=λW H=>⟨Y,0,rfl,λh=>absurd rfl h⟩;clear e2;have dy:Hid (((t.take 0).flatMap verCells).length=0 * 6):=by unfold Hid;rw [bS verCells 6 (λ_=>rfl),hL,HN.o,hY (by omega)]
        have ch:Hid (((t.drop 0).flatMap verCells).length=(0) * 6):=by unfold Hid;rw [bS verCells 6 (λ_=>rfl),hM,HN.o]
        have di:Hid (([J U l,J U s,J U n,J hE f.toNat,J hE lv.toNat,a1 A b.length C]++(t.drop 0).flatMap verCells:List it).length=(1+(0)) * 6):=by unfold Hid;rw [hK,ch.o];show 6+_=_;omega
        have dc:Hid ((insL ltRK t (l,s) ((n,(⟨f,lv,b⟩:az)),a1 A b.length C)).flatMap verCells=([]++(t.take 0).flatMap verCells)++([J U l,J U s,J U n,J hE f.toNat,J hE lv.toNat,a1 A b.length C]++(t.drop 0).flatMap verCells)):=by unfold Hid;rw [al.o,hR,hH];rfl
        have dd:Hid ((insL ltRK t (l,s) ((n,(⟨f,lv,b⟩:az)),a1 A b.length C)).length=0+(1+(0))):=by unfold Hid;rw [al.o,hK,hW,hL,hM,HN.o];omega
        have ds:Hid (∀u∈(t.take 0).flatMap verCells,u.oneCell'=true):=js _ λq M=>d2 q (ib M);have cm:Hid (∀u∈(t.drop 0).flatMap verCells,u.oneCell'=true):=js _ λq M=>d2 q (ih M);have dx:Hid (∀u∈[J U l,J U s,J U n,J hE f.toNat,J hE lv.toNat,a1 A b.length C]++(t.drop 0).flatMap verCells,u.oneCell'=true):=λu hu=>by
         rcases List.mem_append.1 hu with hu|hu
         · simp only [hS,hQ,or_false] at hu;rcases hu with rfl|rfl|rfl|rfl|rfl|rfl<;>rfl
         · exact cm u hu
        have dk:Hid (∀y∈insL ltRK t (l,s) ((n,(⟨f,lv,b⟩:az)),a1 A b.length C),y∈t∨y=((l,s),((n,(⟨f,lv,b⟩:az)),a1 A b.length C))):=λy I=>by
         rw [al.o] at I;rcases List.mem_append.1 I with I|I
         · exact .inl (ib I)
         · rcases List.mem_cons.1 I with I|I
           · exact .inr I
           · exact .inl (ih I)
        generalize (t.take 0).flatMap verCells=TK at *;generalize (t.drop 0).flatMap verCells=DR at *;go_enter func46,ntmps46
        go_upto_region 15 with (first
         |(go_at_call 85;((with_reducible refine hO bs.o ?_);rintro e w2 ⟨rfl,a6⟩;obtain ⟨t0,t1,t2,t3,t4,t5⟩:=bT.o w2 a6;have a4:=Z a6;clear a6))
         |(go_at_call 86;((with_reducible refine hO (bb.o _ a4.o) ?_);rintro e w3 ⟨rfl,ax⟩;have a0:Hid (Bw w1 w3):=a4.o.trans (ax.mono a4.o.size);have s0:=b1.o w3 a0.o;clear ax t0 t1 t2 t3 t4 t5)))
        clear s0;have bD:Bw w1 w3.drew:=a0.drew;refine Wb w1 999 ?_;refine Qd [0,2,6,3,4,5] bD ao ?_;refine bZ (i:=7) (v:=a1 Y 0 0) rfl (by kernel_rfl) (by kernel_rfl) (by kernel_rfl) (by rfl) (λ_ _ _ h=>h) bD (iS ⟨by rfl,?_⟩) ?_;focus (intro w' h;(first |(go_simp;done)|(go_simp;rfl)))
        (try go_simp)
        refine Dp 1 λK R=>?_;go_simp;obtain ⟨W3,b3⟩:=Qe ((w3.alloc (a2 #[J U l,J U s,J U n,J hE f.toNat,J hE lv.toNat,a1 A b.length C] 64)).drew);have a3:Bw w1 W3:=by rw [<- b3];exact (a0.o.alloc a0.o.size _).drew
        have cx:W3.ownsRow w1.heap.size 64 6 (a1 (X ⟨w3.heap.size,0,Y⟩) 1 1) 1 [J U l,J U s,J U n,J hE f.toNat,J hE lv.toNat,a1 A b.length C]:=by rw [<- b3];exact hV (base:=w1.heap.size) (e:=64) (size:=6) w3 #[J U l,J U s,J U n,J hE f.toNat,J hE lv.toNat,a1 A b.length C] 1 a0.o.size (by unfold maxLen;omega) rfl
        rw [b3];refine R _ _ (λ_=>a3) ?_;clear R K;clear b3;obtain ⟨b4,c4,L,cQ,bA,cu,c7⟩:=bj (P:=prog) W3 w1.heap.size 30 30 64 i0 (.agg #[J U 0,J U 0,J U 0,J hE 0,J hE 0,a1 Y 0 0]) 6 56 underlying30 HI.o c0.o c1.o c2.o rfl (by decide) w3.heap.size 1 1 [J U l,J U s,J U n,J hE f.toNat,J hE lv.toNat,a1 A b.length C] cx w1.heap.size (a1 Y 0 0) (0) DR (e0.o W3 a3) ch.o cm.o (by unfold maxLen;omega) (by omega) a3.size;have T:Bw w1 L:=a3.grown cu a3.size (λj ej=>by injection ej with ej;have:=a0.o.size;omega);refine Dp 8 λK R=>?_;refine dV rfl rfl rfl cQ ?_;refine R _ _ (λ_=>T) ?_;clear R K;go_simp;refine Qc [9] T ?_
        refine dN ?_;have dn:=Z bA;have fc:=Z T;have e6:b4<L.heap.size:=(bA.lt b4 rfl).2;have da:=Z (dj (B:=w1.heap.size) (e:=64) (k:=6) (w:=L.alloc (a2 #[] 64)) (hI L _) T.size);have b0:Hid (Bw w1 (L.alloc (a2 #[] 64))):=T.alloc T.size _;have cg:Hid (w1.heap.size<=(L.alloc (a2 #[] 64)).heap.size):=b0.size;have dz:Hid (w1.heap.size<=L.heap.size):=T.size;have s2:(L.alloc (a2 #[] 64)).cell? ⟨p,0,Y⟩=X (a1 Y 0 0):=b1 _ b0.o;clear bA cu c7 a3 bD T cx cQ
        go_wp2_with (first
         |(at_builtin;refine aF _ rfl _ _ 30 rfl w1.heap.size 64 i0 (.agg #[J U 0,J U 0,J U 0,J hE 0,J hE 0,a1 Y 0 0]) 6 56 underlying30 HI.o c0.o c1.o c2.o rfl (by decide) L.heap.size 0 0 [] rfl da.o w1.heap.size (a1 Y 0 0) 0 TK rfl (e4.o _ b0.o) dy.o ds.o (by unfold maxLen;omega) (by omega) cg.o ?_;intro b5 c5 w5 bB bw _;have cp:Hid (Bw w1 w5):=b0.o.grown bw cg.o (λj ej=>by injection ej with ej;have:=dz.o;omega);rw [hX] at bB;have cl:=Z bB;have e5:Hid (w5.ownsRow w1.heap.size 64 6 (a1 (X ⟨b4,0,Y⟩) (1+(0)) c4) (1+(0)) ([J U l,J U s,J U n,J hE f.toNat,J hE lv.toNat,a1 A b.length C]++DR)):=ah dn.o (λg' G=>by have G:X b4=X g':=G;injection G with G;subst G;rw [bw.block _ (by simp;omega) (λe=>by injection e with e;omega)];exact hT _ _ _ e6);have cq:Hid (w1.heap.size<=w5.heap.size):=cp.o.size;clear bB bw)
         |(at_builtin;refine aF _ rfl _ _ 30 rfl w1.heap.size 64 i0 (.agg #[J U 0,J U 0,J U 0,J hE 0,J hE 0,a1 Y 0 0]) 6 56 underlying30 HI.o c0.o c1.o c2.o rfl (by decide) b5 0 c5 ([]++TK) rfl cl.o w5.heap.size (a1 (X ⟨b4,0,Y⟩) (1+(0)) c4) (1+(0)) ([J U l,J U s,J U n,J hE f.toNat,J hE lv.toNat,a1 A b.length C]++DR) rfl ((aP e5.o).mono (hP _) (hJ _)) di.o dx.o (by unfold maxLen;omega) (by omega) cq.o ?_;intro b6 c6 w6 cz cv _;have a9:Bw w1 w6:=cp.o.grown cv cq.o (λj ej=>by injection ej with ej;subst ej;exact (cl.o.lt _ rfl).1);have av:=Z cz;have b8:=(a9.block p (D.o.lt p D.o.fp)).trans D.o.blk;have y1:=(aa b8 0).trans rfl;have z1:=ab b8 0;have f9:=Z b8;have b2:=Z a9;clear cz cv b8 a9))
        go_ret;rw [a7.o];refine ⟨rfl,?_⟩;have bt:=D.below b2.o;have f5:=bk.o;have d1:=aC.o;have d5:w1.heap.size<=w6.heap.size:=b2.size;have ad:w6.ownsRow 0 64 6 (a1 (X ⟨b6,0,Y⟩) (0+(1+(0))) c6) (insL ltRK t (l,s) ((n,(⟨f,lv,b⟩:az)),a1 A b.length C)).length ((insL ltRK t (l,s) ((n,(⟨f,lv,b⟩:az)),a1 A b.length C)).flatMap verCells):=by rw [dc.o,dd.o];exact bz av.o (hP _)
        have e7:=av.lt b6 rfl;have g5:=ac p D.fp;have b7:b6≠p:=λe=>by omega
        refine ⟨λk=>F k∨(w0.heap.size<=k/\k<w6.heap.size),⟨a1 (X ⟨b6,0,Y⟩) (0+(1+(0))) c6,v2,v3,insL ltRK t (l,s) ((n,(⟨f,lv,b⟩:az)),a1 A b.length C),?_⟩,?_⟩
        · rw [<- c3.o];refine bt.put1 (w':=w6.setCell ⟨p,0,Y⟩ _) (vN:=a1 (X ⟨b6,0,Y⟩) (0+(1+(0))) c6) (λk E=> .inl E) (λk E=>?_) (λk _ b7 _=>hG _ _ _ _ b7) ((ap bt.blk 0 _).trans rfl) (ah ad (λg' G=>by have G:X b6=X g':=G;injection G with G;subst G;exact hG _ _ _ _ b7)) (λg' G=>?_) (by rw [hF];exact hJ _) (by rw [c3.o];exact dp.o a5.o) (λy I=>?_)
          · rw [hF];rcases E with E|E
            · exact bt.lt k E
            · exact E.2
          · have G:X b6=X g':=G;injection G with G
            subst G;exact ⟨.inr ⟨by omega,e7.2⟩, .inr (λhf=>by have:=ac.o _ hf;omega)⟩
          · rcases dk.o y I with I|rfl
            · exact .inl I
            · refine .inr (tV (r:=⟨f,lv,b⟩) ((HX.o.kept (λq _ M=>b2.o.block q (by omega))).kept (λq h1 _=>hG _ _ _ _ (λ(e:q=p)=>by omega))) (by rw [hF];omega) λq h1 h2=>⟨.inr ⟨h1,by omega⟩,λe=>by omega,λe=>by have e:X b6=X q:=e;injection e with e;omega,λe=>by have:=ac.o q (D.o.f2 q e);omega,λe=>by have:=ac.o q (D.o.f3 q e);omega⟩)
        · have H:Bw w0 w6:=bc.o.trans (b2.o.mono (by omega));exact ((ag.of_below H).trans (ag.of_only (aw.setCell (aw.refl p w6) 0 _) D.fp)).more λk E=>by
           rcases E with E|E
           · exact .inl E
           · exact .inr E.1
      · injection hv with e1 e2 e3
        subst e1 e3;have eg:N<=vc:=by rw [<- HN.o];exact eg
        have gf:(q:Int)<=(vc:Int):=by omega
        have gb:(N:Int)<=(vc:Int):=by omega
        clear e2;obtain ⟨cd,e9⟩:=Qe ((if vc=q then 0 else q * 6));have f7:Hid (q<N->cd=q * 6):=λh=>by rw [<- e9,if_neg (by omega)]
        have e0:Hid (∀W,Bw w1 W->aB 0 w1.heap.size W (a1 (X ⟨g,cd,Y⟩) (N - q) (vc - q)) (N - q) ((t.drop q).flatMap verCells)):=λW H=>by have hr:=(D.below H).vs;rw [HN.o] at hr;exact pw (enc:=verCells) (k:=6) (λ_=>rfl) hr (by rw [HN.o]) q cP f7.o (D.o.vs.lt g rfl).2
        have e4:Hid (∀W,Bw w1 W->aB 0 w1.heap.size W (a1 (X ⟨g,0,Y⟩) q vc) q ((t.take q).flatMap verCells)):=λW H=>by have hr:=(D.below H).vs;rw [HN.o] at hr;exact pA (enc:=verCells) (k:=6) (λ_=>rfl) hr q cP (D.vs.lt g rfl).2
        have f8:=Z e9;clear e9;have dy:Hid (((t.take q).flatMap verCells).length=q * 6):=by unfold Hid;rw [bS verCells 6 (λ_=>rfl),hL,HN.o,hY (by omega)]
        have ch:Hid (((t.drop q).flatMap verCells).length=(N - q) * 6):=by unfold Hid;rw [bS verCells 6 (λ_=>rfl),hM,HN.o]
        have di:Hid (([J U l,J U s,J U n,J hE f.toNat,J hE lv.toNat,a1 A b.length C]++(t.drop q).flatMap verCells:List it).length=(1+(N - q)) * 6):=by unfold Hid;rw [hK,ch.o];show 6+_=_;omega
        have dc:Hid ((insL ltRK t (l,s) ((n,(⟨f,lv,b⟩:az)),a1 A b.length C)).flatMap verCells=([]++(t.take q).flatMap verCells)++([J U l,J U s,J U n,J hE f.toNat,J hE lv.toNat,a1 A b.length C]++(t.drop q).flatMap verCells)):=by unfold Hid;rw [al.o,hR,hH];rfl
        have dd:Hid ((insL ltRK t (l,s) ((n,(⟨f,lv,b⟩:az)),a1 A b.length C)).length=q+(1+(N - q))):=by unfold Hid;rw [al.o,hK,hW,hL,hM,HN.o];omega
        have ds:Hid (∀u∈(t.take q).flatMap verCells,u.oneCell'=true):=js _ λq M=>d2 q (ib M);have cm:Hid (∀u∈(t.drop q).flatMap verCells,u.oneCell'=true):=js _ λq M=>d2 q (ih M);have dx:Hid (∀u∈[J U l,J U s,J U n,J hE f.toNat,J hE lv.toNat,a1 A b.length C]++(t.drop q).flatMap verCells,u.oneCell'=true):=λu hu=>by
         rcases List.mem_append.1 hu with hu|hu
         · simp only [hS,hQ,or_false] at hu;rcases hu with rfl|rfl|rfl|rfl|rfl|rfl<;>rfl
         · exact cm u hu
        have dk:Hid (∀y∈insL ltRK t (l,s) ((n,(⟨f,lv,b⟩:az)),a1 A b.length C),y∈t∨y=((l,s),((n,(⟨f,lv,b⟩:az)),a1 A b.length C))):=λy I=>by
         rw [al.o] at I;rcases List.mem_append.1 I with I|I
         · exact .inl (ib I)
         · rcases List.mem_cons.1 I with I|I
           · exact .inr I
           · exact .inl (ih I)
        generalize (t.take q).flatMap verCells=TK at *;generalize (t.drop q).flatMap verCells=DR at *;go_enter func46,ntmps46
        go_upto_region 15 with (first
         |(go_at_call 85;((with_reducible refine hO bs.o ?_);rintro e w2 ⟨rfl,a6⟩;obtain ⟨t0,t1,t2,t3,t4,t5⟩:=bT.o w2 a6;have a4:=Z a6;clear a6))
         |(go_at_call 86;((with_reducible refine hO (bb.o _ a4.o) ?_);rintro e w3 ⟨rfl,ax⟩;have a0:Hid (Bw w1 w3):=a4.o.trans (ax.mono a4.o.size);have s0:=b1.o w3 a0.o;clear ax t0 t1 t2 t3 t4 t5)))
        clear s0;have bD:Bw w1 w3.drew:=a0.drew;refine Wb w1 999 ?_;refine Qd [0,2,6,3,4,5] bD ao ?_;refine bZ (i:=7) (v:=a1 (X ⟨g,cd,Y⟩) (N - q) (vc - q)) rfl (by kernel_rfl) (by kernel_rfl) (by kernel_rfl) (by rfl) (λ_ _ _ h=>h) bD (iS ⟨by rfl,?_⟩) ?_;focus (intro w' h;go_simp;rw [<- f8.o];(first |rfl|(split<;>simp_all)))
        (try go_simp)
        refine Dp 1 λK R=>?_;go_simp;obtain ⟨W3,b3⟩:=Qe ((w3.alloc (a2 #[J U l,J U s,J U n,J hE f.toNat,J hE lv.toNat,a1 A b.length C] 64)).drew);have a3:Bw w1 W3:=by rw [<- b3];exact (a0.o.alloc a0.o.size _).drew
        have cx:W3.ownsRow w1.heap.size 64 6 (a1 (X ⟨w3.heap.size,0,Y⟩) 1 1) 1 [J U l,J U s,J U n,J hE f.toNat,J hE lv.toNat,a1 A b.length C]:=by rw [<- b3];exact hV (base:=w1.heap.size) (e:=64) (size:=6) w3 #[J U l,J U s,J U n,J hE f.toNat,J hE lv.toNat,a1 A b.length C] 1 a0.o.size (by unfold maxLen;omega) rfl
        rw [b3];refine R _ _ (λ_=>a3) ?_;clear R K;clear b3;obtain ⟨b4,c4,L,cQ,bA,cu,c7⟩:=bj (P:=prog) W3 w1.heap.size 30 30 64 i0 (.agg #[J U 0,J U 0,J U 0,J hE 0,J hE 0,a1 Y 0 0]) 6 56 underlying30 HI.o c0.o c1.o c2.o rfl (by decide) w3.heap.size 1 1 [J U l,J U s,J U n,J hE f.toNat,J hE lv.toNat,a1 A b.length C] cx w1.heap.size (a1 (X ⟨g,cd,Y⟩) (N - q) (vc - q)) (N - q) DR (e0.o W3 a3) ch.o cm.o (by unfold maxLen;omega) (by omega) a3.size;have T:Bw w1 L:=a3.grown cu a3.size (λj ej=>by injection ej with ej;have:=a0.o.size;omega);refine Dp 8 λK R=>?_;refine dV rfl rfl rfl cQ ?_;refine R _ _ (λ_=>T) ?_;clear R K;go_simp;refine Qc [9] T ?_
        refine dN ?_;have dn:=Z bA;have fc:=Z T;have e6:b4<L.heap.size:=(bA.lt b4 rfl).2;have da:=Z (dj (B:=w1.heap.size) (e:=64) (k:=6) (w:=L.alloc (a2 #[] 64)) (hI L _) T.size);have b0:Hid (Bw w1 (L.alloc (a2 #[] 64))):=T.alloc T.size _;have cg:Hid (w1.heap.size<=(L.alloc (a2 #[] 64)).heap.size):=b0.size;have dz:Hid (w1.heap.size<=L.heap.size):=T.size;have s2:(L.alloc (a2 #[] 64)).cell? ⟨p,0,Y⟩=X (a1 (X ⟨g,0,Y⟩) N vc):=b1 _ b0.o;clear bA cu c7 a3 bD T cx cQ
        go_wp2_with (first
         |(at_builtin;refine aF _ rfl _ _ 30 rfl w1.heap.size 64 i0 (.agg #[J U 0,J U 0,J U 0,J hE 0,J hE 0,a1 Y 0 0]) 6 56 underlying30 HI.o c0.o c1.o c2.o rfl (by decide) L.heap.size 0 0 [] rfl da.o w1.heap.size (a1 (X ⟨g,0,Y⟩) q vc) q TK rfl (e4.o _ b0.o) dy.o ds.o (by unfold maxLen;omega) (by omega) cg.o ?_;intro b5 c5 w5 bB bw _;have cp:Hid (Bw w1 w5):=b0.o.grown bw cg.o (λj ej=>by injection ej with ej;have:=dz.o;omega);rw [hX] at bB;have cl:=Z bB;have e5:Hid (w5.ownsRow w1.heap.size 64 6 (a1 (X ⟨b4,0,Y⟩) (1+(N - q)) c4) (1+(N - q)) ([J U l,J U s,J U n,J hE f.toNat,J hE lv.toNat,a1 A b.length C]++DR)):=ah dn.o (λg' G=>by have G:X b4=X g':=G;injection G with G;subst G;rw [bw.block _ (by simp;omega) (λe=>by injection e with e;omega)];exact hT _ _ _ e6);have cq:Hid (w1.heap.size<=w5.heap.size):=cp.o.size;clear bB bw)
         |(at_builtin;refine aF _ rfl _ _ 30 rfl w1.heap.size 64 i0 (.agg #[J U 0,J U 0,J U 0,J hE 0,J hE 0,a1 Y 0 0]) 6 56 underlying30 HI.o c0.o c1.o c2.o rfl (by decide) b5 q c5 ([]++TK) rfl cl.o w5.heap.size (a1 (X ⟨b4,0,Y⟩) (1+(N - q)) c4) (1+(N - q)) ([J U l,J U s,J U n,J hE f.toNat,J hE lv.toNat,a1 A b.length C]++DR) rfl ((aP e5.o).mono (hP _) (hJ _)) di.o dx.o (by unfold maxLen;omega) (by omega) cq.o ?_;intro b6 c6 w6 cz cv _;have a9:Bw w1 w6:=cp.o.grown cv cq.o (λj ej=>by injection ej with ej;subst ej;exact (cl.o.lt _ rfl).1);have av:=Z cz;have b8:=(a9.block p (D.o.lt p D.o.fp)).trans D.o.blk;have y1:=(aa b8 0).trans rfl;have z1:=ab b8 0;have f9:=Z b8;have b2:=Z a9;clear cz cv b8 a9))
        go_ret;rw [a7.o];refine ⟨rfl,?_⟩;have bt:=D.below b2.o;have f5:=bk.o;have d1:=aC.o;have d5:w1.heap.size<=w6.heap.size:=b2.size;have ad:w6.ownsRow 0 64 6 (a1 (X ⟨b6,0,Y⟩) (q+(1+(N - q))) c6) (insL ltRK t (l,s) ((n,(⟨f,lv,b⟩:az)),a1 A b.length C)).length ((insL ltRK t (l,s) ((n,(⟨f,lv,b⟩:az)),a1 A b.length C)).flatMap verCells):=by rw [dc.o,dd.o];exact bz av.o (hP _)
        have e7:=av.lt b6 rfl;have g5:=ac p D.fp;have b7:b6≠p:=λe=>by omega
        refine ⟨λk=>F k∨(w0.heap.size<=k/\k<w6.heap.size),⟨a1 (X ⟨b6,0,Y⟩) (q+(1+(N - q))) c6,v2,v3,insL ltRK t (l,s) ((n,(⟨f,lv,b⟩:az)),a1 A b.length C),?_⟩,?_⟩
        · rw [<- c3.o];refine bt.put1 (w':=w6.setCell ⟨p,0,Y⟩ _) (vN:=a1 (X ⟨b6,0,Y⟩) (q+(1+(N - q))) c6) (λk E=> .inl E) (λk E=>?_) (λk _ b7 _=>hG _ _ _ _ b7) ((ap bt.blk 0 _).trans rfl) (ah ad (λg' G=>by have G:X b6=X g':=G;injection G with G;subst G;exact hG _ _ _ _ b7)) (λg' G=>?_) (by rw [hF];exact hJ _) (by rw [c3.o];exact dp.o a5.o) (λy I=>?_)
          · rw [hF];rcases E with E|E
            · exact bt.lt k E
            · exact E.2
          · have G:X b6=X g':=G;injection G with G
            subst G;exact ⟨.inr ⟨by omega,e7.2⟩, .inr (λhf=>by have:=ac.o _ hf;omega)⟩
          · rcases dk.o y I with I|rfl
            · exact .inl I
            · refine .inr (tV (r:=⟨f,lv,b⟩) ((HX.o.kept (λq _ M=>b2.o.block q (by omega))).kept (λq h1 _=>hG _ _ _ _ (λ(e:q=p)=>by omega))) (by rw [hF];omega) λq h1 h2=>⟨.inr ⟨h1,by omega⟩,λe=>by omega,λe=>by have e:X b6=X q:=e;injection e with e;omega,λe=>by have:=ac.o q (D.o.f2 q e);omega,λe=>by have:=ac.o q (D.o.f3 q e);omega⟩)
        · have H:Bw w0 w6:=bc.o.trans (b2.o.mono (by omega));exact ((ag.of_below H).trans (ag.of_only (aw.setCell (aw.refl p w6) 0 _) D.fp)).more λk E=>by
           rcases E with E|E
           · exact .inl E
           · exact .inr E.1
 · have a7:Hid (putC d (l,s) n ⟨f,lv,b⟩=(d,11)):=by unfold Hid putC;rw [if_pos hr]
   rw [decide_eq_false hr] at bs;clear hr;go_enter func46,ntmps46;go_wp2_with (go_at_call 85;((with_reducible refine hO bs.o ?_);rintro e w2 ⟨rfl,a6⟩;have a4:=Z a6;clear a6))
   go_ret;rw [a7.o];exact ⟨rfl,F,⟨_,_,_,_,D.o.below a4.o⟩,ag.of_below (bc.o.trans (a4.o.mono (by have:=bk.o;have:=aC.o;omega)))⟩
theorem Df:(prog.info? 38).map (λi=>(i.zero,i.size,i.bytes))=X (X (.agg #[J U 0,J U 0,J U 0,J U 0,J U 0,hk false]),6,48):=by kernel_rfl
theorem jH (l:List (PK×(Int×Bool))):∀u∈l.flatMap decCells,u.oneCell'=true:=by
 intro u b;obtain ⟨p,c,b⟩:=List.mem_flatMap.1 b;simp only [decCells,hS,hQ,or_false] at b;rcases b with rfl|rfl|rfl|rfl|rfl|rfl<;>rfl
theorem Bz {W:iv} {g N c:Nat} {b:List (PK×(Int×Bool))} (h:W.ownsRow 0 38 6 (a1 (X ⟨g,0,Y⟩) N c) N (b.flatMap decCells)) (i:b.length=N) (q:Nat) (e:q<N) (y:PK×(Int×Bool)):
 ((((((W.setCell ⟨g,q * 6,Y⟩ (J U y.1.1.1)).setCell ⟨g,q * 6+1,Y⟩ (J U y.1.1.2)).setCell ⟨g,q * 6+2,Y⟩ (J U y.1.2.1)).setCell ⟨g,q * 6+3,Y⟩ (J U y.1.2.2)).setCell ⟨g,q * 6+4,Y⟩ (J U y.2.1)).setCell ⟨g,q * 6+5,Y⟩ (hk y.2.2)).ownsRow 0 38 6 (a1 (X ⟨g,0,Y⟩) N c) N ((b.set q y).flatMap decCells)/\
   aw g W ((((((W.setCell ⟨g,q * 6,Y⟩ (J U y.1.1.1)).setCell ⟨g,q * 6+1,Y⟩ (J U y.1.1.2)).setCell ⟨g,q * 6+2,Y⟩ (J U y.1.2.1)).setCell ⟨g,q * 6+3,Y⟩ (J U y.1.2.2)).setCell ⟨g,q * 6+4,Y⟩ (J U y.2.1)).setCell ⟨g,q * 6+5,Y⟩ (hk y.2.2)):=by
 have d:(b.flatMap decCells).length=N * 6:=h.1;have f:(q+1) * 6<=N * 6:=iF 6 e;have:=cU (decCells y) (q * 6) W _ h (by rw [d];show q * 6+6<=_;omega);rw [show q * 6+(decCells y).length=q * 6+6 from rfl,ou decCells 6 (λ_=>rfl) b q (by omega) y] at this;exact this
theorem zb (b c g h A f d k l B:Int) (i j:Bool) (w:iv):iP prog 137 #[.agg #[J U b,J U c,J U g,J U h,J U A,hk i], .agg #[J U f,J U d,J U k,J U l,J U B,hk j]] w λe w'=>e=hb (hk (ltPK ((b,c),g,h) ((f,d),k,l)))/\Bw w w':=by
 have t:Hid (∀W,iP prog 25 #[.agg #[J U b,J U c], .agg #[J U f,J U d]] W λe w'=>e=hb (hk (ltRK (b,c) (f,d)))/\Bw W w'):=λW=>jC (b,c) (f,d) W;have v:Hid (∀W,iP prog 25 #[.agg #[J U g,J U h], .agg #[J U k,J U l]] W λe w'=>e=hb (hk (ltRK (g,h) (k,l)))/\Bw W w'):=λW=>jC (g,h) (k,l) W;have p:Hid (ltPK ((b,c),g,h) ((f,d),k,l)=if (b,c)=(f,d) then ltRK (g,h) (k,l) else ltRK (b,c) (f,d)):=rfl;generalize ltRK (b,c) (f,d)=x at *;generalize ltRK (g,h) (k,l)=y at *;generalize ltPK ((b,c),g,h) ((f,d),k,l)=z at *;have n:Hid (∀o s,Bw w ((w.alloc o).alloc s)):=λo s=>((hZ _ w).alloc (hJ _) o).alloc (by simp) s;by_cases h1:b=f
 · subst h1;by_cases h2:c=d
   · subst h2;rw [if_pos rfl] at p;go_enter func137,ntmps137;go_wp2_with (first |(go_at_call 25;((with_reducible refine hO (v.o _) ?_);rintro e u ⟨rfl,m⟩;have q:=Z m;clear m)))
     go_ret;exact ⟨by rw [p.o];rfl,(n.o _ _).trans (q.o.mono (n.o _ _).size)⟩
   · have r:¬((b,c)=(b,d)):=λe=>h2 (by injection e);rw [if_neg r] at p;have C:(c !=d)=true:=by simp [h2]
     go_enter func137,ntmps137;go_wp2_with (first |(go_at_call 25;((with_reducible refine hO (t.o _) ?_);rintro e u ⟨rfl,m⟩;have q:=Z m;clear m)))
     go_ret;exact ⟨by rw [p.o];rfl,(n.o _ _).trans (q.o.mono (n.o _ _).size)⟩
 · have r:¬((b,c)=(f,d)):=λe=>h1 (by injection e);rw [if_neg r] at p;have C:(b !=f)=true:=by simp [h1]
   go_enter func137,ntmps137;go_wp2_with (first |(go_at_call 25;((with_reducible refine hO (t.o _) ?_);rintro e u ⟨rfl,m⟩;have q:=Z m;clear m)))
   go_ret;exact ⟨by rw [p.o];rfl,(n.o _ _).trans (q.o.mono (n.o _ _).size)⟩
theorem oC (F:Nat->Prop) (w:iv) (p:Nat) (d:ar) (h:cA F w p d) (a b:RK) (n:Int) (j:Bool) (ha:rkOk a) (y:rkOk b) (hn:i64B n):
 iP prog 82 #[fn (X ⟨p,0,Y⟩),recK a,recK b,J U n,hk j] w λe w'=>e=hb (J U (decideC d a b n j).2)/\∃F',cA F' w' p (decideC d a b n j).1/\ag F w F' w':=by
 obtain ⟨v1,v2,v3,xs,h⟩:=h;have d4:=Z h.lt;have b3:=Z h;have eQ:Hid (∀o o',Bw w ((w.alloc o).alloc o')):=λo o'=>((hZ _ w).alloc (hJ _) o).alloc (by simp) o';by_cases hab:a=b
 · subst hab;have a6:Hid (decideC d a a n j=(d,1)):=by unfold Hid decideC;rw [if_pos rfl]
   obtain ⟨G,H⟩:=a;clear h;unfold recK;dsimp only;go_enter func82,ntmps82;go_wp2_with fail
   go_ret;rw [a6.o];exact ⟨rfl,F,⟨_,_,_,_,b3.below (eQ _ _)⟩,ag.of_below (eQ _ _)⟩
 · have d5:Hid (ep d (pairK a b) n j=0->bd {d with ps:=insL ltPK d.ps (pairK a b) (n,j)}):=λhx=>h.ok.decide hab ha y hn hx;have b8:=Z (kh d a b n j hab);obtain ⟨G,H⟩:=a;obtain ⟨I,L⟩:=b;have d6:Hid (pairK (G,H) (I,L)=if ltRK (I,L) (G,H) then ((I,L),(G,H)) else ((G,H),(I,L))):=rfl;have f8:Hid (∀W,iP prog 25 #[.agg #[J U I,J U L], .agg #[J U G,J U H]] W λe w'=>e=hb (hk (ltRK (I,L) (G,H)))/\Bw W w'):=λW=>jC (I,L) (G,H) W;generalize ltRK (I,L) (G,H)=lt at *;obtain ⟨⟨⟨r,s⟩,p3,x⟩,hp⟩:∃P,pairK (G,H) (I,L)=P:=⟨_,rfl⟩;rw [hp] at d5 b8 d6;clear hp ha y;have f7:=q36 G H I L;rw [decide_eq_false hab] at f7;obtain ⟨M,ca⟩:=Qe ((w.alloc (a2 #[J U G,J U H] 36)).alloc (a2 #[J U I,J U L] 36));have fs:Bw w M:=by rw [<- ca];exact eQ.o _ _
   have g3:M.heap.size=w.heap.size+2:=by rw [<- ca];simp
   have hA:M.heap[w.heap.size]? =X (a2 #[J U G,J U H] 36 (0,0)):=by rw [<- ca,hT _ _ _ (by simp)];exact hI w _
   have hB:M.heap[w.heap.size+1]? =X (a2 #[J U I,J U L] 36 (0,0)):=by have:=hI (w.alloc (a2 #[J U G,J U H] 36)) (a2 #[J U I,J U L] 36);rw [World.size_alloc,ca] at this;exact this
   have HA:=Z hA;have b7:=Z hB;have di:=Z fs;have bc:=Z g3;have HW:=Z ca;clear hA hB fs g3 ca hab h;unfold recK;dsimp only;go_enter func82,ntmps82;go_upto_region 3 with fail
   rw [HW.o];have c0:M.cell? ⟨w.heap.size,0,Y⟩=X (J U G):=(aa HA.o 0).trans rfl;have c1:M.cell? ⟨w.heap.size,1,Y⟩=X (J U H):=(aa HA.o 1).trans rfl;have c2:M.cell? ⟨w.heap.size+1,0,Y⟩=X (J U I):=(aa b7.o 0).trans rfl;have c3:M.cell? ⟨w.heap.size+1,1,Y⟩=X (J U L):=(aa b7.o 1).trans rfl;have gi:=Z f7;clear f7;go_upto_region 4 with fail
   obtain ⟨W3,a8⟩:=Qe (M.alloc (a2 #[J U G,J U H,J U I,J U L,J U n,hk j] 38));have cx:Bw M W3:=by rw [<- a8];exact (hZ _ M).alloc (hJ _) _
   have d8:W3.heap[M.heap.size]? =X (a2 #[J U G,J U H,J U I,J U L,J U n,hk j] 38 (0,0)):=by rw [<- a8];exact hI M _
   rw [a8];have au:=Z cx;have g5:=Z d8
   have ds:Hid (∀W,Bw W3 W->(W.cell? ⟨w.heap.size,0,Y⟩=X (J U G)/\W.cell? ⟨w.heap.size,1,Y⟩=X (J U H))/\(W.cell? ⟨w.heap.size+1,0,Y⟩=X (J U I)/\W.cell? ⟨w.heap.size+1,1,Y⟩=X (J U L))/\W.heap[M.heap.size]? =X (a2 #[J U G,J U H,J U I,J U L,J U n,hk j] 38 (0,0))):=λW y=>
    have da:Bw M W:=au.trans (y.mono au.size)
    ⟨⟨(aa ((da.block _ (ae HA.o)).trans HA.o) 0).trans rfl,(aa ((da.block _ (ae HA.o)).trans HA.o) 1).trans rfl⟩,⟨(aa ((da.block _ (ae b7.o)).trans b7.o) 0).trans rfl,(aa ((da.block _ (ae b7.o)).trans b7.o) 1).trans rfl⟩,(y.block _ (ae d8)).trans d8⟩
   clear cx d8 a8 c0 c1 c2 c3;obtain ⟨⟨c0,c1⟩,⟨c2,c3⟩,_⟩:=ds W3 (hZ _ _);go_upto_if 24 with (go_at_call 25;((with_reducible refine hO (f8.o _) ?_);rintro e T ⟨rfl,c7⟩;have dn:=Z c7;clear c7))
   clear c0 c1 c2 c3;go_cut [] (λwx=>Hid (Bw w wx/\wx.heap[M.heap.size]? =X (a2 #[J U r,J U s,J U p3,J U x,J U n,hk j] 38 (0,0))))
   case first=>
    have d9:Bw w T:=di.trans ((au.trans (dn.mono au.size)).mono di.size);obtain ⟨⟨c0,c1⟩,⟨c2,c3⟩,c4⟩:=ds T dn.o;cases lt
    · have HP:=d6.o;simp only [Bool.false_eq_true,if_false,Prod.mk.injEq] at HP;obtain ⟨⟨rfl,rfl⟩,rfl,rfl⟩:=HP;have dp:=Z c4;have dk:=Z d9;clear c4 d9;go_wp2_with fail
      go_meet;exact ⟨dk.o,dp.o⟩
    · have HP:=d6.o;simp only [if_true,Prod.mk.injEq] at HP;obtain ⟨⟨rfl,rfl⟩,rfl,rfl⟩:=HP;have z0:=ab c4 0;have z1:=ab c4 1;have z2:=ab c4 2;have z3:=ab c4 3;have y0:=(aa c4 0).trans rfl;have y1:=(aa c4 1).trans rfl;have y2:=(aa c4 2).trans rfl;have y3:=(aa c4 3).trans rfl;have dp:=Z c4;have dk:=Z d9;have h9:¬(M.heap.size=w.heap.size):=by have:=bc.o;omega
      have hd:¬(M.heap.size=w.heap.size+1):=by have:=bc.o;omega
      have hl:¬(w.heap.size=M.heap.size):=by have:=bc.o;omega
      have ho:¬(w.heap.size+1=M.heap.size):=by have:=bc.o;omega
      clear c4 d9;go_wp2_with fail
      go_meet;refine ⟨?_,(ap (ap (ap (ap dp.o 0 _) 1 _) 2 _) 3 _).trans rfl⟩;have hz:=bc.o;exact (((dk.o.setCell (p:=⟨M.heap.size,0,Y⟩) (by simp;omega) _).setCell (p:=⟨M.heap.size,1,Y⟩) (by simp;omega) _).setCell (p:=⟨M.heap.size,2,Y⟩) (by simp;omega) _).setCell (p:=⟨M.heap.size,3,Y⟩) (by simp;omega) _
   case rest=>
    obtain ⟨f4,hD⟩:=hcut;clear au g5 ds b7 HA gi HW f8 d6 dn;have C:=Z (b3.below f4);have aT:=Z f4;have HD:=Z hD;generalize hDD:M.heap.size=D at *;have gP:Hid (w.heap.size<=D):=by have:=bc.o;unfold Hid;omega
    clear hDD di bc f4 hD;generalize wc=W5 at *;have gQ:=Z (eY cY b3.ok.ok.ps ((r,s),p3,x));have gb:Hid (∀i (h2:i<d.ps.length),i<placeK ltPK d.ps ((r,s),p3,x)->ltPK d.ps[i].1 ((r,s),p3,x)=true):=λi h2 hi=>lW d.ps _ i hi h2;have g9:Hid (∀h:placeK ltPK d.ps ((r,s),p3,x)<d.ps.length,ltPK d.ps[placeK ltPK d.ps ((r,s),p3,x)].1 ((r,s),p3,x)=false):=λh=>lX d.ps _ h;have dd:=gR (lt:=ltPK) d.ps ((r,s),p3,x);have gx:=b3.ok.plen;obtain ⟨va,vc,hv⟩:=aK C.ps;subst hv;obtain ⟨q,hq⟩:=Qe (placeK ltPK d.ps ((r,s),p3,x));rw [hq] at dd;have HQ:=Z hq;obtain ⟨N,hN⟩:=Qe d.ps.length;rw [hN] at gx dd;have R:=Z hN;have cv:Hid (W5.ownsRow 0 38 6 (a1 va N vc) N (d.ps.flatMap decCells)):=by have:=C.o.ps;rw [hN] at this;exact this
    have av:Hid (∀W,Bw W5 W->W.cell? ⟨p,2,Y⟩=X (a1 va N vc)/\W.cell? ⟨D,0,Y⟩=X (J U r)/\W.cell? ⟨D,1,Y⟩=X (J U s)/\W.cell? ⟨D,2,Y⟩=X (J U p3)/\W.cell? ⟨D,3,Y⟩=X (J U x)/\W.cell? ⟨D,4,Y⟩=X (J U n)/\W.cell? ⟨D,5,Y⟩=X (hk j)):=λW y=>
     ⟨by have:=(aa ((y.block _ (C.o.lt p C.o.fp)).trans C.o.blk) 2).trans rfl;rw [hN] at this;exact this,kY ((y.block _ (ae HD.o)).trans HD.o)⟩
    clear hq hN;go_upto_block 0 with fail
    go_cut [12] (λt wx=>t=J U q/\Hid (Bw W5 wx))
    case first=>
     go_wp2_with fail
     go_loopw [12] (λt wr=>∃i:Nat,t=J U i/\i<=q/\Hid (Bw W5 wr)) (λt _=>N - (intOf t).toNat)
     case atStart=>exact ⟨0,rfl,hP _,hZ _ _⟩
     case round=>
      obtain ⟨i,rfl,hi,HB⟩:=hrel;have a3:Bw W5 wr.drew:=HB.drew;have gO:=HB.size;by_cases hlt:i<N
      · have c9:i<d.ps.length:=by rw [R.o];exact hlt
        have ac:=cv.o;rw [<- R.o] at ac;obtain ⟨g,c,he,O,hc⟩:=eU (enc:=decCells) (λ_=>rfl) ac i c9;injection he with he1 he2 he3
        subst he1 he3;obtain ⟨e,bs⟩:=Qe (d.ps[i]);rw [bs] at hc;have HI:Hid (i<q->ltPK e.1 ((r,s),p3,x)=true):=λhh=>by rw [<- bs];exact gb.o i c9 (by rw [HQ.o];exact hh)
        have ao:Hid (i=q->ltPK e.1 ((r,s),p3,x)=false):=λhh=>by subst hh;have h1:=g9.o (by rw [HQ.o];exact c9);simp only [HQ.o] at h1;rw [<- bs];exact h1
        obtain ⟨⟨⟨e1,e2⟩,e3,e4⟩,e5,e6⟩:=e;have a0:=Z hc
        have HC:Hid (∀W,Bw W5 W->(W.cell? ⟨p,2,Y⟩=X (a1 (X ⟨g,0,Y⟩) N vc)/\W.cell? ⟨D,0,Y⟩=X (J U r)/\W.cell? ⟨D,1,Y⟩=X (J U s)/\W.cell? ⟨D,2,Y⟩=X (J U p3)/\W.cell? ⟨D,3,Y⟩=X (J U x)/\W.cell? ⟨D,4,Y⟩=X (J U n)/\W.cell? ⟨D,5,Y⟩=X (hk j))/\W.cell? ⟨g,i * 6,Y⟩=X (J U e1)/\W.cell? ⟨g,i * 6+1,Y⟩=X (J U e2)/\W.cell? ⟨g,i * 6+2,Y⟩=X (J U e3)/\W.cell? ⟨g,i * 6+3,Y⟩=X (J U e4)/\W.cell? ⟨g,i * 6+4,Y⟩=X (J U e5)/\W.cell? ⟨g,i * 6+5,Y⟩=X (hk e6)):=λW y=>
         ⟨av W y,((aE y).1 g _ O).trans (a0 0 _ rfl),((aE y).1 g _ O).trans (a0 1 _ rfl),((aE y).1 g _ O).trans (a0 2 _ rfl),((aE y).1 g _ O).trans (a0 3 _ rfl),((aE y).1 g _ O).trans (a0 4 _ rfl),((aE y).1 g _ O).trans (a0 5 _ rfl)⟩
        have HL:Hid (∀W,iP prog 137 #[.agg #[J U e1,J U e2,J U e3,J U e4,J U e5,hk e6], .agg #[J U r,J U s,J U p3,J U x,J U n,hk j]] W λe w'=>e=hb (hk (ltPK ((e1,e2),e3,e4) ((r,s),p3,x)))/\Bw W w'):=λW=>zb e1 e2 e3 e4 e5 r s p3 x n e6 j W;have gs:(i:Int)<(N:Int):=by omega
        dsimp only at HI ao;generalize hltv:ltPK ((e1,e2),e3,e4) ((r,s),p3,x)=bb at *;clear hc hltv bs;go_wp2_with fail
        refine Wb W5 999 ?_;refine Qd [0,1,2,3,4] a3 HC ?_;refine Ds 5 a3 ?_;refine Qd [6,7,8,9,10,11,12,13,14,15] a3 HC ?_;refine Dq 16 λK A=>?_;go_simp;go_at_call 137;refine (HL _).mono ?_;rintro e w3 ⟨rfl,cx⟩;have a5:Bw W5 w3:=a3.trans (cx.mono gO);refine A _ _ (λ_=>a5) ?_;clear A K;refine Qc [17] a5 ?_
        refine dN ?_;have au:=Z a5;clear a5 a3 cx;cases bb
        · have fx:i=q:=by
           rcases i2 i q with h|h
           · have:=HI h;cases this
           · omega
          subst fx;clear HI ao;go_wp2_with fail
          go_meet;exact ⟨rfl,au⟩
        · have fx:i<q:=by
           rcases i2 i q with h|h
           · exact h
           · have:=ao.o (by omega);cases this
          clear HI ao;go_wp2_with fail
          go_roundw
          case rel=>exact ⟨i+1,by go_num,by omega,au⟩
          case measure=>simp [intOf];omega
      · obtain rfl:i=N:=by omega
        obtain rfl:q=i:=by omega
        go_wp2_with fail
        refine Wb W5 999 ?_;refine Qd [0,1,2,3,4] a3 av ?_;refine Ds 5 a3 ?_;refine Qc [6,7] a3 ?_;refine tfS 8 rfl a3 ?_;(try go_simp)
        refine tfS 9 rfl a3 ?_;(try go_simp)
        refine tfS 10 rfl a3 ?_;(try go_simp)
        refine tfS 11 rfl a3 ?_;(try go_simp)
        refine tfS 12 rfl a3 ?_;(try go_simp)
        refine tfS 13 rfl a3 ?_;(try go_simp)
        refine tfS 14 rfl a3 ?_;(try go_simp)
        refine tfS 15 rfl a3 ?_;(try go_simp)
        refine tfS 16 rfl a3 ?_;(try go_simp)
        refine Qc [17] a3 ?_
        refine dN ?_;have au:=Z a3;clear a3;go_wp2_with fail
        go_meet;exact ⟨rfl,au⟩
    case rest=>
     obtain ⟨rfl,d3⟩:=hcut;generalize wc=W6 at *;have hC:=d3.size;have dx:Hid (∀m,findK d.ps ((r,s),p3,x)=X m->ep d ((r,s),p3,x) n j=aJ true (decide (m.1=n)&&decide (m.2=j)) m.1 n d.ps.length):=λm hm=>by unfold ep;rw [hm];rfl
     cases hf:findK d.ps ((r,s),p3,x) with
     |some m=>
      obtain ⟨n',j'⟩:=m;obtain ⟨f6,he⟩:=ll cY b3.ok.ok.ps hf;have ay:=Z (p6 cY b3.ok.ok.ps hf (n,j));have b0:=Z (dx _ hf);have ac:=cv.o;rw [<- R.o] at ac;obtain ⟨g,c,hv,O,hc⟩:=eU (enc:=decCells) (λ_=>rfl) ac _ f6;injection hv with hv1 hv2 hv3
      subst hv1 hv3;rw [he] at hc;simp only [HQ.o] at hc he ay;have ht:q<N:=by rw [HQ.o,R.o] at f6;exact f6
      have a0:=Z hc;have hs:(q:Int)<(N:Int):=by omega
      have HC:Hid (∀W,Bw W5 W->(W.cell? ⟨p,2,Y⟩=X (a1 (X ⟨g,0,Y⟩) N vc)/\W.cell? ⟨D,0,Y⟩=X (J U r)/\W.cell? ⟨D,1,Y⟩=X (J U s)/\W.cell? ⟨D,2,Y⟩=X (J U p3)/\W.cell? ⟨D,3,Y⟩=X (J U x)/\W.cell? ⟨D,4,Y⟩=X (J U n)/\W.cell? ⟨D,5,Y⟩=X (hk j))/\W.cell? ⟨g,q * 6,Y⟩=X (J U r)/\W.cell? ⟨g,q * 6+1,Y⟩=X (J U s)/\W.cell? ⟨g,q * 6+2,Y⟩=X (J U p3)/\W.cell? ⟨g,q * 6+3,Y⟩=X (J U x)/\W.cell? ⟨g,q * 6+4,Y⟩=X (J U n')/\W.cell? ⟨g,q * 6+5,Y⟩=X (hk j')):=λW y=>
       ⟨av W y,((aE y).1 g _ O).trans (a0 0 _ rfl),((aE y).1 g _ O).trans (a0 1 _ rfl),((aE y).1 g _ O).trans (a0 2 _ rfl),((aE y).1 g _ O).trans (a0 3 _ rfl),((aE y).1 g _ O).trans (a0 4 _ rfl),((aE y).1 g _ O).trans (a0 5 _ rfl)⟩
      clear hc he hf ac dx;go_upto_region 10 with fail
      have l:Bw W5 W6.drew:=d3.drew;refine Wb W5 999 ?_;refine Qd [0,1,2,3,4] l HC ?_;refine Ds 5 l ?_;refine Qd [6,7,8,9,10,11,12,13,14,15,16,17,18,19,20,21,22,23,24,25,26,27,28,29,30,31,32] l HC ?_;refine dN ?_;go_upto_region 11 with fail
      have al:Bw W5 W6.drew.drew:=d3.drew.drew;refine Wb W5 999 ?_;refine Qd [0,1,2,3,4,5,6,7] al HC ?_;obtain ⟨bk,ft⟩:=Qe ((decide (n'=n)&&decide (j'=j)));have cg:=Z ft;clear ft;refine bZ (i:=8) (v:=hk bk) rfl (by kernel_rfl) (by kernel_rfl) (by kernel_rfl) (by rfl) (λ_ _ _ h=>h) al (iS ⟨by rfl,?_⟩) ?_;focus (intro w' h;rw [<- cg.o];by_cases g1:n'=n<;>cases j'<;>cases j<;>simp [g1]<;>go_simp<;>rfl)
      (try go_simp)
      refine Qc [9] al ?_
      refine dN ?_;obtain ⟨W7,fc⟩:=Qe W6.drew.drew;rw [fc] at al ⊢;have d7:=Z al;clear fc al l;obtain ⟨⟨h0,t0,t1,t2,t3,t4,t5⟩,s0,s1,s2,s3,s4,s5⟩:=HC W7 d7.o;have e9:Hid (∀e,decideC d (G,H) (I,L) n j=(d,e)->(Ending.returned (J U e)=Ending.returned (J U (decideC d (G,H) (I,L) n j).2)/\∃F',cA F' W7 p (decideC d (G,H) (I,L) n j).1/\ag F w F' W7)):=λe he=>by rw [he];exact ⟨rfl,F,⟨_,_,_,_,C.below d7.o⟩,ag.of_below (aT.trans (d7.mono aT.size))⟩
      rcases iN n' n with cQ|cQ|cQ
      · have a4:Hid (ep d ((r,s),p3,x) n j=0):=by unfold Hid;rw [b0.o];dsimp only;rw [decide_eq_false (show n'≠n by omega)];unfold aJ;simp;omega
        obtain rfl:bk=false:=by rw [<- cg.o,decide_eq_false (show n'≠n by omega)];rfl
        have f3:¬(n<=n'):=by omega
        clear cQ;have a6:Hid (decideC d (G,H) (I,L) n j=({d with ps:=insL ltPK d.ps ((r,s),p3,x) (n,j)},0)):=by unfold Hid;rw [b8.o,if_pos a4.o]
        go_upto_region 15 with fail
        have al:Bw W5 W7.drew:=d7.drew;clear h0 t0 t1 t2 t3 t4 t5 s0 s1 s2 s3 s4 s5;refine Wb W5 7 ?_;refine Qb [0,4,5,1,2,3,6] al HC ?_;obtain ⟨W8,fl⟩:=Qe W7.drew;rw [fl] at al ⊢;have cu:=Z al;have aS:=(C.below al).ps;rw [R.o] at aS;have gd:=Z aS;have z0:=aS.frozenAt (q * 6);have z1:=aS.frozenAt (q * 6+1);have z2:=aS.frozenAt (q * 6+2);have z3:=aS.frozenAt (q * 6+3);have z4:=aS.frozenAt (q * 6+4);have z5:=aS.frozenAt (q * 6+5);obtain ⟨_,s0,s1,s2,s3,s4,s5⟩:=HC W8 al;clear fl aS al;refine Dl 7 ?_;obtain ⟨d2,dc⟩:=Bz gd.o R.o q (by omega) (((r,s),p3,x),(n,j));rw [<- ay.o] at d2;dsimp only at d2 dc;obtain ⟨W9,fr⟩:=Qe (((((((W8.setCell ⟨g,q * 6,Y⟩ (J U r)).setCell ⟨g,q * 6+1,Y⟩ (J U s)).setCell ⟨g,q * 6+2,Y⟩ (J U p3)).setCell ⟨g,q * 6+3,Y⟩ (J U x)).setCell ⟨g,q * 6+4,Y⟩ (J U n)).setCell ⟨g,q * 6+5,Y⟩ (hk j)));rw [fr] at d2 dc ⊢;have gf:=Z d2;have cm:=Z dc;clear fr d2 dc s0 s1 s2 s3 s4 s5 z0 z1 z2 z3 z4 z5;go_wp2_with fail
        go_ret;rw [a6.o];refine ⟨rfl,F,⟨v1,v2,_,xs,(C.o.below cu.o).put3 (vN:=a1 (X ⟨g,0,Y⟩) N vc) (λ_ h=>h) (λk E=>by rw [cm.o.size];exact (C.o.below cu.o).lt k E) (λk _ _ a9=>cm.o.block k (λe=>a9 (by rw [e,R.o];rfl))) ?_ ?_ (λg' z=>⟨(C.o.below cu.o).f3 g' z, .inl z⟩) (by rw [cm.o.size];exact hJ _) (d5.o a4.o)⟩,?_⟩
        · exact (cm.o.block p (Ne.symm (eD C.o.ps C.o.blk (by decide) (g:=g) rfl))).trans (by have:=(C.o.below cu.o).blk;rw [R.o] at this;exact this)
        · have gt:N=(insL ltPK d.ps ((r,s),p3,x) (n,j)).length:=by rw [ay.o,iQ,R.o]
          exact gt ▸ gf.o
        · exact (ag.of_below (aT.trans (cu.mono aT.size))).trans (ag.of_only cm.o (C.f3 g rfl))
      · subst cQ;by_cases hj:j'=j
        · subst hj;have a4:Hid (ep d ((r,s),p3,x) n' j'=22):=by unfold Hid;rw [b0.o];dsimp only;rw [decide_eq_true rfl,decide_eq_true rfl];rfl
          obtain rfl:bk=true:=by rw [<- cg.o,decide_eq_true rfl,decide_eq_true rfl];rfl
          have a6:Hid (decideC d (G,H) (I,L) n' j'=(d,22)):=by unfold Hid;rw [b8.o,if_neg (by rw [a4.o];decide),a4.o]
          go_wp2_with fail
          go_ret;exact ⟨by rw [a6.o];rfl,(e9.o 22 a6.o).2⟩
        · have a4:Hid (ep d ((r,s),p3,x) n' j=30):=by unfold Hid;rw [b0.o];dsimp only;rw [decide_eq_true rfl,decide_eq_false hj];unfold aJ;simp
          have a6:Hid (decideC d (G,H) (I,L) n' j=(d,30)):=by unfold Hid;rw [b8.o,if_neg (by rw [a4.o];decide),a4.o]
          obtain rfl:bk=false:=by rw [<- cg.o,decide_eq_false hj,Bool.and_false]
          have f3:n'<=n':=Int.le_refl _;clear hj;go_wp2_with fail
          go_ret;exact ⟨by rw [a6.o];rfl,(e9.o 30 a6.o).2⟩
      · have a4:Hid (ep d ((r,s),p3,x) n j=30):=by unfold Hid;rw [b0.o];dsimp only;rw [decide_eq_false (show n'≠n by omega)];unfold aJ;simp;omega
        have a6:Hid (decideC d (G,H) (I,L) n j=(d,30)):=by unfold Hid;rw [b8.o,if_neg (by rw [a4.o];decide),a4.o]
        obtain rfl:bk=false:=by rw [<- cg.o,decide_eq_false (show n'≠n by omega)];rfl
        have f3:n<=n':=by omega
        clear cQ;go_wp2_with fail
        go_ret;exact ⟨by rw [a6.o];rfl,(e9.o 30 a6.o).2⟩
     |none=>
      have ay:=Z (p7 cY b3.ok.ok.ps hf (n,j));have f9:=Z (sy cY b3.ok.ok.ps hf);have b0:Hid (ep d ((r,s),p3,x) n j=if 5000<=d.ps.length then 2 else 0):=by unfold Hid ep;rw [hf];show aJ false _ _ _ _=_;unfold aJ;simp
      simp only [HQ.o] at ay f9;rw [R.o] at b0;clear hf dx;go_upto_region 10 with fail
      go_cut [81] (λt wx=>t=hk false/\Hid (Bw W5 wx))
      case first=>
       have l:Bw W5 W6.drew:=d3.drew;by_cases hlt:q<N
       · have c9:q<d.ps.length:=by rw [R.o];exact hlt
         have ac:=cv.o;rw [<- R.o] at ac;obtain ⟨g,c,he,O,hc⟩:=eU (enc:=decCells) (λ_=>rfl) ac q c9;injection he with he1 he2 he3
         subst he1 he3;have a9:=f9.o;rw [i1 c9] at a9;obtain ⟨e,bs⟩:=Qe (d.ps[q]);rw [bs] at hc a9;obtain ⟨⟨⟨e1,e2⟩,e3,e4⟩,e5,e6⟩:=e;have a0:=Z hc
         have HC:Hid (∀W,Bw W5 W->(W.cell? ⟨p,2,Y⟩=X (a1 (X ⟨g,0,Y⟩) N vc)/\W.cell? ⟨D,0,Y⟩=X (J U r)/\W.cell? ⟨D,1,Y⟩=X (J U s)/\W.cell? ⟨D,2,Y⟩=X (J U p3)/\W.cell? ⟨D,3,Y⟩=X (J U x)/\W.cell? ⟨D,4,Y⟩=X (J U n)/\W.cell? ⟨D,5,Y⟩=X (hk j))/\W.cell? ⟨g,q * 6,Y⟩=X (J U e1)/\W.cell? ⟨g,q * 6+1,Y⟩=X (J U e2)/\W.cell? ⟨g,q * 6+2,Y⟩=X (J U e3)/\W.cell? ⟨g,q * 6+3,Y⟩=X (J U e4)/\W.cell? ⟨g,q * 6+4,Y⟩=X (J U e5)/\W.cell? ⟨g,q * 6+5,Y⟩=X (hk e6)):=λW y=>
          ⟨av W y,((aE y).1 g _ O).trans (a0 0 _ rfl),((aE y).1 g _ O).trans (a0 1 _ rfl),((aE y).1 g _ O).trans (a0 2 _ rfl),((aE y).1 g _ O).trans (a0 3 _ rfl),((aE y).1 g _ O).trans (a0 4 _ rfl),((aE y).1 g _ O).trans (a0 5 _ rfl)⟩
         have gs:(q:Int)<(N:Int):=by omega
         obtain ⟨bA,hA⟩:=Qe ((decide (e1=r)&&decide (e2=s)));obtain ⟨bB,hB⟩:=Qe ((decide (e3=p3)&&decide (e4=x)));have g4:Hid (bA=true->bB=false):=λh=>by
          rw [<- hA,Bool.and_eq_true,decide_eq_true_eq,decide_eq_true_eq] at h;obtain ⟨rfl,rfl⟩:=h;rw [<- hB,Bool.and_eq_false_iff,decide_eq_false_iff_not,decide_eq_false_iff_not];rcases Classical.em (e3=p3) with g1|g1
          · exact .inr λg2=>a9 (by rw [g1,g2];rfl)
          · exact .inl g1
         have HA:=Z hA;have HB:=Z hB;clear hc bs hA hB a9 ac;refine Wb W5 999 ?_;refine Qd [0,1,2,3,4] l HC ?_;refine Ds 5 l ?_;refine Qd [6,7,8,9,10,11,12,13,14,15,16,17] l HC ?_;refine bZ (i:=18) (v:=hk bA) rfl (by kernel_rfl) (by kernel_rfl) (by kernel_rfl) (by rfl) (λ_ _ _ h=>h) l (iS ⟨by rfl,?_⟩) ?_;focus (intro w' h;rw [<- HA.o];by_cases g1:e1=r<;>by_cases g2:e2=s<;>simp [g1,g2]<;>go_simp<;>rfl)
         (try go_simp)
         refine Qc [19,20] l ?_;cases bA
         · skip;refine tfS 21 rfl l ?_;(try go_simp)
           refine tfS 22 rfl l ?_;(try go_simp)
           refine tfS 23 rfl l ?_;(try go_simp)
           refine tfS 24 rfl l ?_;(try go_simp)
           refine tfS 25 rfl l ?_;(try go_simp)
           refine tfS 26 rfl l ?_;(try go_simp)
           refine tfS 27 rfl l ?_;(try go_simp)
           refine tfS 28 rfl l ?_;(try go_simp)
           refine tfS 29 rfl l ?_;(try go_simp)
           refine tfS 30 rfl l ?_;(try go_simp)
           refine tfS 31 rfl l ?_;(try go_simp)
           refine Qc [32] l ?_
           refine dN ?_;go_wp2_with fail
           go_meet;exact ⟨rfl,l⟩
         · obtain rfl:=g4 rfl;refine Qd [21,22,23,24,25,26,27,28,29,30] l HC ?_;refine bZ (i:=31) (v:=hk false) rfl (by kernel_rfl) (by kernel_rfl) (by kernel_rfl) (by rfl) (λ_ _ _ h=>h) l (iS ⟨by rfl,?_⟩) ?_;focus (intro w' h;rw [<- HB.o];by_cases g1:e3=p3<;>by_cases g2:e4=x<;>simp [g1,g2]<;>go_simp<;>rfl)
           (try go_simp)
           refine Qc [32] l ?_
           refine dN ?_;go_wp2_with fail
           go_meet;exact ⟨rfl,l⟩
       · obtain rfl:q=N:=by omega
         refine Wb W5 999 ?_;refine Qd [0,1,2,3,4] l av ?_;refine Ds 5 l ?_;refine Qc [6,7] l ?_;refine tfS 8 rfl l ?_;(try go_simp)
         refine tfS 9 rfl l ?_;(try go_simp)
         refine tfS 10 rfl l ?_;(try go_simp)
         refine tfS 11 rfl l ?_;(try go_simp)
         refine tfS 12 rfl l ?_;(try go_simp)
         refine tfS 13 rfl l ?_;(try go_simp)
         refine tfS 14 rfl l ?_;(try go_simp)
         refine tfS 15 rfl l ?_;(try go_simp)
         refine tfS 16 rfl l ?_;(try go_simp)
         refine tfS 17 rfl l ?_;(try go_simp)
         refine tfS 18 rfl l ?_;(try go_simp)
         refine Qc [19,20] l ?_;refine tfS 21 rfl l ?_;(try go_simp)
         refine tfS 22 rfl l ?_;(try go_simp)
         refine tfS 23 rfl l ?_;(try go_simp)
         refine tfS 24 rfl l ?_;(try go_simp)
         refine tfS 25 rfl l ?_;(try go_simp)
         refine tfS 26 rfl l ?_;(try go_simp)
         refine tfS 27 rfl l ?_;(try go_simp)
         refine tfS 28 rfl l ?_;(try go_simp)
         refine tfS 29 rfl l ?_;(try go_simp)
         refine tfS 30 rfl l ?_;(try go_simp)
         refine tfS 31 rfl l ?_;(try go_simp)
         refine Qc [32] l ?_
         refine dN ?_;go_wp2_with fail
         go_meet;exact ⟨rfl,l⟩
      case rest=>
       obtain ⟨rfl,ad⟩:=hcut;generalize wc=W7 at *;have HZ:Hid (w.heap.size<=W5.heap.size):=aT.size;obtain ⟨h0,t0,t1,t2,t3,t4,t5⟩:=av W7 ad.o;by_cases h5:5000<=N
       · have a4:Hid (ep d ((r,s),p3,x) n j=2):=by unfold Hid;rw [b0.o,if_pos h5]
         have a6:Hid (decideC d (G,H) (I,L) n j=(d,2)):=by unfold Hid;rw [b8.o,if_neg (by rw [a4.o];decide),a4.o]
         have gn:(5000:Int)<=(N:Int):=by omega
         go_wp2_with fail
         go_ret;rw [a6.o];exact ⟨rfl,F,⟨_,_,_,_,C.below ad.o⟩,ag.of_below (aT.trans (ad.mono HZ.o))⟩
       · have a4:Hid (ep d ((r,s),p3,x) n j=0):=by unfold Hid;rw [b0.o,if_neg h5]
         have a6:Hid (decideC d (G,H) (I,L) n j=({d with ps:=insL ltPK d.ps ((r,s),p3,x) (n,j)},0)):=by unfold Hid;rw [b8.o,if_pos a4.o]
         have gn:¬((5000:Int)<=(N:Int)):=by omega
         have hy:(q:Int)<=(N:Int):=by omega
         obtain ⟨i0,hi,fy,fz,g0⟩:=info_parts Df;have HI:=Z hi;have bT:=Z fy;have bY:=Z fz;have ao:=Z g0;clear hi fy fz g0;rcases cv.2 with ⟨hv,gy⟩|⟨g,h3,h4,hv,h8,_,h6,_⟩
         · injection hv with e1 e2 e3
           subst e1 e3;subst gy;obtain rfl:q=0:=by omega
           have es:Hid (∀W,Bw W5 W->aB 0 W5.heap.size W (a1 Y 0 0) 0 ((d.ps.drop 0).flatMap decCells)):=λW y=>by have:d.ps=[]:=ia R.o;rw [this];exact ⟨Y,0,rfl,λh=>absurd rfl h⟩
           have ex:Hid (∀W,Bw W5 W->aB 0 W5.heap.size W (a1 Y 0 0) 0 ((d.ps.take 0).flatMap decCells)):=λW y=>⟨Y,0,rfl,λh=>absurd rfl h⟩;clear e2;have eq:Hid (((d.ps.take 0).flatMap decCells).length=0 * 6):=by unfold Hid;rw [bS decCells 6 (λ_=>rfl),hL,R.o,hY (by omega)]
           have cd:Hid (((d.ps.drop 0).flatMap decCells).length=(0) * 6):=by unfold Hid;rw [bS decCells 6 (λ_=>rfl),hM,R.o]
           have e7:Hid (([J U r,J U s,J U p3,J U x,J U n,hk j]++(d.ps.drop 0).flatMap decCells:List it).length=(1+(0)) * 6):=by unfold Hid;rw [hK,cd.o];show 6+_=_;omega
           have dz:Hid ((insL ltPK d.ps ((r,s),p3,x) (n,j)).flatMap decCells=([]++(d.ps.take 0).flatMap decCells)++([J U r,J U s,J U p3,J U x,J U n,hk j]++(d.ps.drop 0).flatMap decCells)):=by unfold Hid;rw [ay.o,hR,hH];rfl
           have e0:Hid ((insL ltPK d.ps ((r,s),p3,x) (n,j)).length=0+(1+(0))):=by unfold Hid;rw [ay.o,hK,hW,hL,hM,R.o];omega
           have ee:Hid (∀u∈(d.ps.take 0).flatMap decCells,u.oneCell'=true):=jH _;have cp:Hid (∀u∈(d.ps.drop 0).flatMap decCells,u.oneCell'=true):=jH _;have eg:Hid (∀u∈[J U r,J U s,J U p3,J U x,J U n,hk j]++(d.ps.drop 0).flatMap decCells,u.oneCell'=true):=λu hu=>by
            rcases List.mem_append.1 hu with hu|hu
            · simp only [hS,hQ,or_false] at hu;rcases hu with rfl|rfl|rfl|rfl|rfl|rfl<;>rfl
            · exact cp u hu
           generalize (d.ps.take 0).flatMap decCells=TK at *;generalize (d.ps.drop 0).flatMap decCells=DR at *;go_upto_region 19 with fail
           clear h0 t0 t1 t2 t3 t4 t5;have bO:Bw W5 W7.drew:=ad.drew;refine Wb W5 999 ?_;refine Qd [0,2,6,3,4,5] bO av ?_;refine bZ (i:=7) (v:=a1 Y 0 0) rfl (by kernel_rfl) (by kernel_rfl) (by kernel_rfl) (by rfl) (λ_ _ _ h=>h) bO (iS ⟨by rfl,?_⟩) ?_;focus (intro w' h;(first |(go_simp;done)|(go_simp;rfl)))
           (try go_simp)
           refine Dp 1 λK A=>?_;go_simp;obtain ⟨W3,a8⟩:=Qe ((W7.alloc (a2 #[J U r,J U s,J U p3,J U x,J U n,hk j] 38)).drew);have a5:Bw W5 W3:=by rw [<- a8];exact (ad.o.alloc ad.o.size _).drew
           have cP:W3.ownsRow W5.heap.size 38 6 (a1 (X ⟨W7.heap.size,0,Y⟩) 1 1) 1 [J U r,J U s,J U p3,J U x,J U n,hk j]:=by rw [<- a8];exact hV (base:=W5.heap.size) (e:=38) (size:=6) W7 #[J U r,J U s,J U p3,J U x,J U n,hk j] 1 ad.o.size (by unfold maxLen;omega) rfl
           rw [a8];refine A _ _ (λ_=>a5) ?_;clear A K;clear a8;obtain ⟨b4,c4,T,d1,bw,cy,c7⟩:=bj (P:=prog) W3 W5.heap.size 32 32 38 i0 (.agg #[J U 0,J U 0,J U 0,J U 0,J U 0,hk false]) 6 48 underlying32 HI.o bT.o bY.o ao.o rfl (by decide) W7.heap.size 1 1 [J U r,J U s,J U p3,J U x,J U n,hk j] cP W5.heap.size (a1 Y 0 0) (0) DR (es.o W3 a5) cd.o cp.o (by unfold maxLen;omega) (by omega) a5.size;have a7:Bw W5 T:=a5.grown cy a5.size (λj ej=>by injection ej with ej;have:=ad.o.size;omega);refine Dp 8 λK A=>?_;refine dV rfl rfl rfl d1 ?_;refine A _ _ (λ_=>a7) ?_;clear A K;go_simp;refine Qc [9] a7 ?_
           refine dN ?_;have e8:=Z bw;have gc:=Z a7;have f1:b4<T.heap.size:=(bw.lt b4 rfl).2;have dy:=Z (dj (B:=W5.heap.size) (e:=38) (k:=6) (w:=T.alloc (a2 #[] 38)) (hI T _) a7.size);have ax:Hid (Bw W5 (T.alloc (a2 #[] 38))):=a7.alloc a7.size _;have cc:Hid (W5.heap.size<=(T.alloc (a2 #[] 38)).heap.size):=ax.size;have er:Hid (W5.heap.size<=T.heap.size):=a7.size;have s2:(T.alloc (a2 #[] 38)).cell? ⟨p,2,Y⟩=X (a1 Y 0 0):=(av _ ax.o).1;clear bw cy c7 a5 bO a7 cP d1
           go_wp2_with (first
            |(at_builtin;refine aF _ rfl _ _ 32 rfl W5.heap.size 38 i0 (.agg #[J U 0,J U 0,J U 0,J U 0,J U 0,hk false]) 6 48 underlying32 HI.o bT.o bY.o ao.o rfl (by decide) T.heap.size 0 0 [] rfl dy.o W5.heap.size (a1 Y 0 0) 0 TK rfl (ex.o _ ax.o) eq.o ee.o (by unfold maxLen;omega) (by omega) cc.o ?_;intro b5 c5 w5 bD bt _;have cq:Hid (Bw W5 w5):=ax.o.grown bt cc.o (λj ej=>by injection ej with ej;have:=er.o;omega);rw [hX] at bD;have ch:=Z bD;have f0:Hid (w5.ownsRow W5.heap.size 38 6 (a1 (X ⟨b4,0,Y⟩) (1+(0)) c4) (1+(0)) ([J U r,J U s,J U p3,J U x,J U n,hk j]++DR)):=ah e8.o (λg' z=>by have z:X b4=X g':=z;injection z with z;subst z;rw [bt.block _ (by simp;omega) (λe=>by injection e with e;omega)];exact hT _ _ _ f1);have cs:Hid (W5.heap.size<=w5.heap.size):=cq.o.size;clear bD bt)
            |(at_builtin;refine aF _ rfl _ _ 32 rfl W5.heap.size 38 i0 (.agg #[J U 0,J U 0,J U 0,J U 0,J U 0,hk false]) 6 48 underlying32 HI.o bT.o bY.o ao.o rfl (by decide) b5 0 c5 ([]++TK) rfl ch.o w5.heap.size (a1 (X ⟨b4,0,Y⟩) (1+(0)) c4) (1+(0)) ([J U r,J U s,J U p3,J U x,J U n,hk j]++DR) rfl ((aP f0.o).mono (hP _) (hJ _)) e7.o eg.o (by unfold maxLen;omega) (by omega) cs.o ?_;intro b6 c6 w6 d0 cz _;have l:Bw W5 w6:=cq.o.grown cz cs.o (λj ej=>by injection ej with ej;subst ej;exact (ch.o.lt _ rfl).1);have cl:=Z d0;have aC:=(l.block p (C.o.lt p C.o.fp)).trans C.o.blk;have y1:=(aa aC 2).trans rfl;have z1:=ab aC 2;have g8:=Z aC;have b9:=Z l;clear d0 cz aC l))
           go_ret;rw [a6.o];refine ⟨rfl,?_⟩;have bp:=C.below b9.o;have gp:=HZ.o;have gq:W5.heap.size<=w6.heap.size:=b9.size;have ac:w6.ownsRow 0 38 6 (a1 (X ⟨b6,0,Y⟩) (0+(1+(0))) c6) (insL ltPK d.ps ((r,s),p3,x) (n,j)).length ((insL ltPK d.ps ((r,s),p3,x) (n,j)).flatMap decCells):=by rw [dz.o,e0.o];exact bz cl.o (hP _)
           have f2:=cl.lt b6 rfl;have gz:=d4 p C.fp;have a9:b6≠p:=λe=>by omega
           refine ⟨λk=>F k∨(w.heap.size<=k/\k<w6.heap.size),⟨v1,v2,a1 (X ⟨b6,0,Y⟩) (0+(1+(0))) c6,xs,bp.put3 (w':=w6.setCell ⟨p,2,Y⟩ _) (vN:=a1 (X ⟨b6,0,Y⟩) (0+(1+(0))) c6) (λk E=> .inl E) (λk E=>?_) (λk _ a9 _=>hG _ _ _ _ a9) ((ap bp.blk 2 _).trans rfl) (ah ac (λg' z=>by have z:X b6=X g':=z;injection z with z;subst z;exact hG _ _ _ _ a9)) (λg' z=>?_) (by rw [hF];exact hJ _) (d5.o a4.o)⟩,?_⟩
           · rw [hF];rcases E with E|E
             · exact bp.lt k E
             · exact E.2
           · have z:X b6=X g':=z;injection z with z
             subst z;exact ⟨.inr ⟨by omega,f2.2⟩, .inr (λhf=>by have:=d4.o _ hf;omega)⟩
           · have y:Bw w w6:=aT.o.trans (b9.o.mono (by omega));exact ((ag.of_below y).trans (ag.of_only (aw.setCell (aw.refl p w6) 2 _) C.fp)).more λk E=>by
              rcases E with E|E
              · exact .inl E
              · exact .inr E.1
         · injection hv with e1 e2 e3
           subst e1 e3;have hw:(q:Int)<=(vc:Int):=by omega
           have h7:(N:Int)<=(vc:Int):=by omega
           have O:=(cv.lt g rfl).2;clear e2;obtain ⟨cb,f5⟩:=Qe ((if vc=q then 0 else q * 6));have g6:Hid (q<N->cb=q * 6):=λh=>by rw [<- f5,if_neg (by omega)]
           have es:Hid (∀W,Bw W5 W->aB 0 W5.heap.size W (a1 (X ⟨g,cb,Y⟩) (N - q) (vc - q)) (N - q) ((d.ps.drop q).flatMap decCells)):=λW y=>by have hr:=(C.below y).ps;rw [R.o] at hr;exact pw (enc:=decCells) (k:=6) (λ_=>rfl) hr (by rw [R.o]) q dd g6.o O
           have ex:Hid (∀W,Bw W5 W->aB 0 W5.heap.size W (a1 (X ⟨g,0,Y⟩) q vc) q ((d.ps.take q).flatMap decCells)):=λW y=>by have hr:=(C.below y).ps;rw [R.o] at hr;exact pA (enc:=decCells) (k:=6) (λ_=>rfl) hr q dd O
           have g7:=Z f5;clear f5;have eq:Hid (((d.ps.take q).flatMap decCells).length=q * 6):=by unfold Hid;rw [bS decCells 6 (λ_=>rfl),hL,R.o,hY (by omega)]
           have cd:Hid (((d.ps.drop q).flatMap decCells).length=(N - q) * 6):=by unfold Hid;rw [bS decCells 6 (λ_=>rfl),hM,R.o]
           have e7:Hid (([J U r,J U s,J U p3,J U x,J U n,hk j]++(d.ps.drop q).flatMap decCells:List it).length=(1+(N - q)) * 6):=by unfold Hid;rw [hK,cd.o];show 6+_=_;omega
           have dz:Hid ((insL ltPK d.ps ((r,s),p3,x) (n,j)).flatMap decCells=([]++(d.ps.take q).flatMap decCells)++([J U r,J U s,J U p3,J U x,J U n,hk j]++(d.ps.drop q).flatMap decCells)):=by unfold Hid;rw [ay.o,hR,hH];rfl
           have e0:Hid ((insL ltPK d.ps ((r,s),p3,x) (n,j)).length=q+(1+(N - q))):=by unfold Hid;rw [ay.o,hK,hW,hL,hM,R.o];omega
           have ee:Hid (∀u∈(d.ps.take q).flatMap decCells,u.oneCell'=true):=jH _;have cp:Hid (∀u∈(d.ps.drop q).flatMap decCells,u.oneCell'=true):=jH _;have eg:Hid (∀u∈[J U r,J U s,J U p3,J U x,J U n,hk j]++(d.ps.drop q).flatMap decCells,u.oneCell'=true):=λu hu=>by
            rcases List.mem_append.1 hu with hu|hu
            · simp only [hS,hQ,or_false] at hu;rcases hu with rfl|rfl|rfl|rfl|rfl|rfl<;>rfl
            · exact cp u hu
           generalize (d.ps.take q).flatMap decCells=TK at *;generalize (d.ps.drop q).flatMap decCells=DR at *;go_upto_region 19 with fail
           clear h0 t0 t1 t2 t3 t4 t5;have bO:Bw W5 W7.drew:=ad.drew;refine Wb W5 999 ?_;refine Qd [0,2,6,3,4,5] bO av ?_;refine bZ (i:=7) (v:=a1 (X ⟨g,cb,Y⟩) (N - q) (vc - q)) rfl (by kernel_rfl) (by kernel_rfl) (by kernel_rfl) (by rfl) (λ_ _ _ h=>h) bO (iS ⟨by rfl,?_⟩) ?_;focus (intro w' h;go_simp;rw [<- g7.o];(first |rfl|(split<;>simp_all)))
           (try go_simp)
           refine Dp 1 λK A=>?_;go_simp;obtain ⟨W3,a8⟩:=Qe ((W7.alloc (a2 #[J U r,J U s,J U p3,J U x,J U n,hk j] 38)).drew);have a5:Bw W5 W3:=by rw [<- a8];exact (ad.o.alloc ad.o.size _).drew
           have cP:W3.ownsRow W5.heap.size 38 6 (a1 (X ⟨W7.heap.size,0,Y⟩) 1 1) 1 [J U r,J U s,J U p3,J U x,J U n,hk j]:=by rw [<- a8];exact hV (base:=W5.heap.size) (e:=38) (size:=6) W7 #[J U r,J U s,J U p3,J U x,J U n,hk j] 1 ad.o.size (by unfold maxLen;omega) rfl
           rw [a8];refine A _ _ (λ_=>a5) ?_;clear A K;clear a8;obtain ⟨b4,c4,T,d1,bw,cy,c7⟩:=bj (P:=prog) W3 W5.heap.size 32 32 38 i0 (.agg #[J U 0,J U 0,J U 0,J U 0,J U 0,hk false]) 6 48 underlying32 HI.o bT.o bY.o ao.o rfl (by decide) W7.heap.size 1 1 [J U r,J U s,J U p3,J U x,J U n,hk j] cP W5.heap.size (a1 (X ⟨g,cb,Y⟩) (N - q) (vc - q)) (N - q) DR (es.o W3 a5) cd.o cp.o (by unfold maxLen;omega) (by omega) a5.size;have a7:Bw W5 T:=a5.grown cy a5.size (λj ej=>by injection ej with ej;have:=ad.o.size;omega);refine Dp 8 λK A=>?_;refine dV rfl rfl rfl d1 ?_;refine A _ _ (λ_=>a7) ?_;clear A K;go_simp;refine Qc [9] a7 ?_
           refine dN ?_;have e8:=Z bw;have gc:=Z a7;have f1:b4<T.heap.size:=(bw.lt b4 rfl).2;have dy:=Z (dj (B:=W5.heap.size) (e:=38) (k:=6) (w:=T.alloc (a2 #[] 38)) (hI T _) a7.size);have ax:Hid (Bw W5 (T.alloc (a2 #[] 38))):=a7.alloc a7.size _;have cc:Hid (W5.heap.size<=(T.alloc (a2 #[] 38)).heap.size):=ax.size;have er:Hid (W5.heap.size<=T.heap.size):=a7.size;have s2:(T.alloc (a2 #[] 38)).cell? ⟨p,2,Y⟩=X (a1 (X ⟨g,0,Y⟩) N vc):=(av _ ax.o).1;clear bw cy c7 a5 bO a7 cP d1
           go_wp2_with (first
            |(at_builtin;refine aF _ rfl _ _ 32 rfl W5.heap.size 38 i0 (.agg #[J U 0,J U 0,J U 0,J U 0,J U 0,hk false]) 6 48 underlying32 HI.o bT.o bY.o ao.o rfl (by decide) T.heap.size 0 0 [] rfl dy.o W5.heap.size (a1 (X ⟨g,0,Y⟩) q vc) q TK rfl (ex.o _ ax.o) eq.o ee.o (by unfold maxLen;omega) (by omega) cc.o ?_;intro b5 c5 w5 bD bt _;have cq:Hid (Bw W5 w5):=ax.o.grown bt cc.o (λj ej=>by injection ej with ej;have:=er.o;omega);rw [hX] at bD;have ch:=Z bD;have f0:Hid (w5.ownsRow W5.heap.size 38 6 (a1 (X ⟨b4,0,Y⟩) (1+(N - q)) c4) (1+(N - q)) ([J U r,J U s,J U p3,J U x,J U n,hk j]++DR)):=ah e8.o (λg' z=>by have z:X b4=X g':=z;injection z with z;subst z;rw [bt.block _ (by simp;omega) (λe=>by injection e with e;omega)];exact hT _ _ _ f1);have cs:Hid (W5.heap.size<=w5.heap.size):=cq.o.size;clear bD bt)
            |(at_builtin;refine aF _ rfl _ _ 32 rfl W5.heap.size 38 i0 (.agg #[J U 0,J U 0,J U 0,J U 0,J U 0,hk false]) 6 48 underlying32 HI.o bT.o bY.o ao.o rfl (by decide) b5 q c5 ([]++TK) rfl ch.o w5.heap.size (a1 (X ⟨b4,0,Y⟩) (1+(N - q)) c4) (1+(N - q)) ([J U r,J U s,J U p3,J U x,J U n,hk j]++DR) rfl ((aP f0.o).mono (hP _) (hJ _)) e7.o eg.o (by unfold maxLen;omega) (by omega) cs.o ?_;intro b6 c6 w6 d0 cz _;have l:Bw W5 w6:=cq.o.grown cz cs.o (λj ej=>by injection ej with ej;subst ej;exact (ch.o.lt _ rfl).1);have cl:=Z d0;have aC:=(l.block p (C.o.lt p C.o.fp)).trans C.o.blk;have y1:=(aa aC 2).trans rfl;have z1:=ab aC 2;have g8:=Z aC;have b9:=Z l;clear d0 cz aC l))
           go_ret;rw [a6.o];refine ⟨rfl,?_⟩;have bp:=C.below b9.o;have gp:=HZ.o;have gq:W5.heap.size<=w6.heap.size:=b9.size;have ac:w6.ownsRow 0 38 6 (a1 (X ⟨b6,0,Y⟩) (q+(1+(N - q))) c6) (insL ltPK d.ps ((r,s),p3,x) (n,j)).length ((insL ltPK d.ps ((r,s),p3,x) (n,j)).flatMap decCells):=by rw [dz.o,e0.o];exact bz cl.o (hP _)
           have f2:=cl.lt b6 rfl;have gz:=d4 p C.fp;have a9:b6≠p:=λe=>by omega
           refine ⟨λk=>F k∨(w.heap.size<=k/\k<w6.heap.size),⟨v1,v2,a1 (X ⟨b6,0,Y⟩) (q+(1+(N - q))) c6,xs,bp.put3 (w':=w6.setCell ⟨p,2,Y⟩ _) (vN:=a1 (X ⟨b6,0,Y⟩) (q+(1+(N - q))) c6) (λk E=> .inl E) (λk E=>?_) (λk _ a9 _=>hG _ _ _ _ a9) ((ap bp.blk 2 _).trans rfl) (ah ac (λg' z=>by have z:X b6=X g':=z;injection z with z;subst z;exact hG _ _ _ _ a9)) (λg' z=>?_) (by rw [hF];exact hJ _) (d5.o a4.o)⟩,?_⟩
           · rw [hF];rcases E with E|E
             · exact bp.lt k E
             · exact E.2
           · have z:X b6=X g':=z;injection z with z
             subst z;exact ⟨.inr ⟨by omega,f2.2⟩, .inr (λhf=>by have:=d4.o _ hf;omega)⟩
           · have y:Bw w w6:=aT.o.trans (b9.o.mono (by omega));exact ((ag.of_below y).trans (ag.of_only (aw.setCell (aw.refl p w6) 2 _) C.fp)).more λk E=>by
              rcases E with E|E
              · exact .inl E
              · exact .inr E.1
theorem Af (F:Nat->Prop) (w:iv) (p:Nat) (d:ar) (h:cA F w p d) (a b:RK) (n:Int) (u:rkOk a) (v:rkOk b) (y:i64B n):
 iP prog 43 #[fn (X ⟨p,0,Y⟩),recK a,recK b,J U n] w λe w'=>e=hb (J U (decideC d a b n false).2)/\∃c,cA c w' p (decideC d a b n false).1/\ag F w c w':=by
 have i:Hid (∀o f,Bw w ((w.alloc o).alloc f)):=λo f=>((hZ _ w).alloc (hJ _) o).alloc (by simp) f
 have l:Hid (∀o f,iP prog 82 #[fn (X ⟨p,0,Y⟩),recK a,recK b,J U n,hk false] ((w.alloc o).alloc f) λe w'=>e=hb (J U (decideC d a b n false).2)/\∃c,cA c w' p (decideC d a b n false).1/\ag F w c w'):=λo f=>
  (oC F _ p d (h.below (i o f)) a b n false u v y).mono λe w' ⟨x,c,h1,g⟩=>⟨x,c,h1,(ag.of_below (i o f)).trans g⟩
 obtain ⟨m,q⟩:=a;obtain ⟨s,t⟩:=b;clear h;generalize decideC d (m,q) (s,t) n false=r at *;unfold recK at *;dsimp only at *;go_enter func43,ntmps43;go_wp2_with (go_at_call 82;((with_reducible refine hO (l.o _ _) ?_);rintro e z ⟨rfl,c,h1,g⟩;have j:=Z h1;have k:=Z g;clear h1 g))
 go_ret;exact ⟨rfl,c,j.o,k.o⟩
theorem Be (F:Nat->Prop) (w:iv) (p:Nat) (d:ar) (h:cA F w p d) (a b:RK) (n:Int) (u:rkOk a) (v:rkOk b) (y:i64B n):
 iP prog 44 #[fn (X ⟨p,0,Y⟩),recK a,recK b,J U n] w λe w'=>e=hb (J U (decideC d a b n true).2)/\∃c,cA c w' p (decideC d a b n true).1/\ag F w c w':=by
 have i:Hid (∀o f,Bw w ((w.alloc o).alloc f)):=λo f=>((hZ _ w).alloc (hJ _) o).alloc (by simp) f
 have l:Hid (∀o f,iP prog 82 #[fn (X ⟨p,0,Y⟩),recK a,recK b,J U n,hk true] ((w.alloc o).alloc f) λe w'=>e=hb (J U (decideC d a b n true).2)/\∃c,cA c w' p (decideC d a b n true).1/\ag F w c w'):=λo f=>
  (oC F _ p d (h.below (i o f)) a b n true u v y).mono λe w' ⟨x,c,h1,g⟩=>⟨x,c,h1,(ag.of_below (i o f)).trans g⟩
 obtain ⟨m,q⟩:=a;obtain ⟨s,t⟩:=b;clear h;generalize decideC d (m,q) (s,t) n true=r at *;unfold recK at *;dsimp only at *;go_enter func44,ntmps44;go_wp2_with (go_at_call 82;((with_reducible refine hO (l.o _ _) ?_);rintro e z ⟨rfl,c,h1,g⟩;have j:=Z h1;have k:=Z g;clear h1 g))
 go_ret;exact ⟨rfl,c,j.o,k.o⟩
end
end Go.Proofs.YtjcimanddakkaaaGreatDoor
