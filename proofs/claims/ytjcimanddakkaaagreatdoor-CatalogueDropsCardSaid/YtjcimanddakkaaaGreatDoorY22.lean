/- Lemmas. -/
import Derived.Test.YtjcimanddakkaaaGreatDoorY13
import Derived.Test.YtjcimanddakkaaaGreatDoorY21
import Derived.Deep.CutBlock
set_option maxRecDepth 100000
set_option maxHeartbeats 8000000
namespace Go.Proofs.YtjcimanddakkaaaGreatDoor
open _root_.Option renaming some→X,none→Y
open Go.Value renaming slice→a1,int→J,pointer→fn,bool→hk
open Go.IntKind renaming i64→U,u8→hK
open Go.Obj renaming cells→a2
open Go.Ending renaming returned→hb
open Go.Lib renaming hid→Z
open Tryz
open Go.World renaming size_setCell→hM,alloc_heap_new→hQ,ownsRow_lit→ih
open Go.RowKit.Below renaming heap_setCell→hO,heap_alloc→ib,refl→iF
open _root_.List renaming flatMap_cons→hP,length_append→hS,length_take→hT,length_drop→hV,not_mem_nil→hY,flatMap_append→hZ,mem_cons→ia,length_cons→it,eq_nil_of_length_eq_zero→iN,mem_of_mem_take→iP,mem_of_mem_drop→iQ,length_set→ja,getElem?_eq_getElem→jn
open _root_.Nat renaming le_refl→hR,zero_le→hX,zero_add→iv,min_eq_left→iD,succ_mul→i2,mul_le_mul_right→i4,lt_or_ge→j0
open Go.Calls renaming mono→hW
open Go renaming Value→iS,World→i1,Calls→i8
open _root_.Int renaming lt_trichotomy→i6
open _root_.Or renaming inl→jb
section
open Go.RowKit Go.Maps Go.Shelf
section
variable {K V:Type} [DecidableEq K] {lt:K->K->Bool}
theorem kC (T:Tot lt) {l:List (K×V)} (e:aw lt l) {k:K} {v:V} (h:findK l k=X v):∃b:placeK lt l k<l.length,l[placeK lt l k]=(k,v):=by
 rw [eH T e] at h;cases hg:l[placeK lt l k]? with
 |none=>rw [hg] at h;cases h
 |some p=>
  rw [hg] at h;obtain ⟨b,d⟩:=List.getElem?_eq_some_iff.1 hg;refine ⟨b,?_⟩;rw [d];have h:(if p.1=k then X p.2 else Y)=X v:=h;split at h
  · rename_i c;injection h with h
    exact Prod.ext c h
  · cases h
theorem qV (T:Tot lt) {l:List (K×V)} (c:aw lt l) {k:K} (h:findK l k=Y):(l[placeK lt l k]?).map (·.1)≠X k:=by
 rw [eH T c] at h;cases hg:l[placeK lt l k]? with
 |none=>simp
 |some p=> rw [hg] at h;have h:(if p.1=k then X p.2 else Y)=Y:=h;intro b;simp at b;rw [if_pos b] at h;cases h
theorem oP (T:Tot lt) {l:List (K×V)} (d:aw lt l) {k:K} {v:V} (h:findK l k=X v) (u:V):insL lt l k u=l.set (placeK lt l k) (k,u):=by
 obtain ⟨b,c⟩:=kC T d h;rw [qN,if_pos (by rw [jn b,c];rfl),List.set_eq_take_append_cons_drop,if_pos b]
theorem oQ (T:Tot lt) {l:List (K×V)} (b:aw lt l) {k:K} (h:findK l k=Y) (u:V):insL lt l k u=l.take (placeK lt l k)++(k,u)::l.drop (placeK lt l k):=by
 rw [qN,if_neg (qV T b h)]
end
theorem eG {α:Type} (enc:α->List iS) (n:Nat) (c:∀x,(enc x).length=n):∀(b:List α) (m i:Nat) (u:iS) (y:α) (hm:m<b.length),i<n->(enc b[m]).set i u=enc y->(b.flatMap enc).set (m * n+i) u=(b.set m y).flatMap enc
 |x::b,0,i,u,y,hm,hi,he=>by
  rw [hP,Nat.zero_mul,iv,List.set_append_left _ _ (by rw [c];exact hi),List.set_cons_zero,hP]
  rw [show (enc x).set i u=enc y from he]
 |x::b,m+1,i,u,y,hm,hi,he=>by
  rw [hP,List.set_append_right _ _ (by rw [c,i2];omega),c,show (m+1) * n+i - n=m * n+i by rw [i2];omega,List.set_cons_succ,hP,eG enc n c b m i u y (by simpa using hm) hi he]
section
variable {P:Program} {o:Oper} {a:Act} {K:Act->i1->Prop} {Q:Exit->Act->i1->Prop} {w:i1}
theorem dQ {s x:Operand} {t:TypeId} (e:o.op= .call {callee:= .builtin .append,args:= #[s,x],argTypes:= #[t,t]}) {b c v:iS} (g:a.eval s=b) (h:a.eval x=c) {w':i1} (f:(Builtin.append_ #[t,t] o.type #[b,c]).run P w= .ok v w') (d:K (a.put o.dst v) w'):o.wp P a w K Q:=by
 unfold Oper.wp execOp;simp only [e,resolve,invoke,builtin,Sem.run_bind,Sem.run_pure,Result.andThen_ok,List.map_toArray,List.map_cons,List.map_nil,g,h,f];exact d
end
theorem jH {α:Type} (enc:α->List iS) (n:Nat) (c:∀x,(enc x).length=n):∀(b:List α) (q:Nat),(b.drop q).flatMap enc=(b.flatMap enc).drop (q * n)
 |[],q=>by simp
 |x::b,0=>by simp
 |x::b,q+1=>by rw [List.drop_succ_cons,jH enc n c b q,hP,i2,Nat.add_comm, <- List.drop_drop,List.drop_left' (c x)]
theorem jF {α:Type} (enc:α->List iS) (n:Nat) (c:∀x,(enc x).length=n):∀(b:List α) (q:Nat),(b.take q).flatMap enc=(b.flatMap enc).take (q * n)
 |[],q=>by simp
 |x::b,0=>by simp
 |x::b,q+1=>by rw [List.take_succ_cons,hP,jF enc n c b q,hP,i2,Nat.add_comm (q * n),List.take_append,c,List.take_of_length_le (show (enc x).length<=n+q * n by rw [c];omega),Nat.add_sub_cancel_left]
theorem om {α:Type} {enc:α->List iS} {k e g N c n l:Nat} {w:i1} {f:List α} (r:∀x,(enc x).length=k) (h:w.ownsRow 0 e k (a1 (X ⟨g,0,Y⟩) N c) N (f.flatMap enc)) (v:f.length=N) (q:Nat) (y:q<=N) {d:Nat} (t:q<N->d=q * k) (p:g<l):
 aF 0 l w (a1 (X ⟨g,d,Y⟩) (N - q) n) (N - q) ((f.drop q).flatMap enc):=by
 refine ⟨_,_,rfl,λs=>⟨g,d,rfl,hX _,p,λj x b=>?_⟩⟩;have u:q<N:=by
  rcases j0 q N with i|i
  · exact i
  · exact absurd (by rw [List.drop_of_length_le (by omega)];rfl) s
 rw [jH enc k r,List.getElem?_drop] at b;rw [t u];have m:=(List.getElem?_eq_some_iff.1 b).1;rw [h.1] at m;rw [h.cellAt _ m];exact b
theorem oo {α:Type} {enc:α->List iS} {k e g N c d:Nat} {w:i1} {f:List α} (l:∀x,(enc x).length=k) (h:w.ownsRow 0 e k (a1 (X ⟨g,0,Y⟩) N c) N (f.flatMap enc)) (q:Nat) (m:q<=N) (i:g<d):
 aF 0 d w (a1 (X ⟨g,0,Y⟩) q c) q ((f.take q).flatMap enc):=by
 refine ⟨_,_,rfl,λp=>⟨g,0,rfl,hX _,i,λj x b=>?_⟩⟩;rw [jF enc k l,List.getElem?_take] at b;split at b
 · rename_i n;have:q * k<=N * k:=i4 k m;rw [iv,h.cellAt _ (by omega)];exact b
 · cases b
theorem Bz:(prog.info? 142).map (λi=>(i.zero,i.size,i.bytes))=X (X (.agg #[J U 0,J U 0,J U 0]),3,24):=by kernel_rfl
theorem gZ (l:List (RK×Int)):∀u∈l.flatMap dropCells,u.oneCell'=true:=by
 intro u b;obtain ⟨p,c,b⟩:=List.mem_flatMap.1 b;simp only [dropCells,ia,hY,or_false] at b;rcases b with rfl|rfl|rfl<;>rfl
theorem jx {w:i1} {B C e f k j n m:Nat} {u v:iS} {l ys:List iS} (h:w.ownsRow B e k u n l) (b:w.ownsRow C f j v m ys) (c:e≠f) {g:Nat} (d:u.ownBlock=X g):v.ownBlock≠X g:=λi=>by
 obtain ⟨c1,t1⟩:=aD h d;obtain ⟨c2,t2⟩:=aD b i;rw [t1] at t2;injection t2 with t2
 injection t2 with _ t2
 exact c t2
theorem el {w:i1} {B e k n t p:Nat} {u:iS} {j:List iS} {b:Array iS} (h:w.ownsRow B e k u n j) (i:w.heap[p]? =X (a2 b t (0,0))) (d:e≠t) {g:Nat} (f:u.ownBlock=X g):g≠p:=λc=>by
 obtain ⟨c1,t1⟩:=aD h f;rw [c,i] at t1;injection t1 with t1
 injection t1 with _ t1
 exact d t1.symm
theorem ey.put2 {F e:Nat->Prop} {w w':i1} {p:Nat} {l m n vN:iS} {s:List (RK×VX)} {d:aq} {ds:List (RK×Int)} (h:ey F w p l m n s d) (f:∀k,F k->e k) (t:∀k,e k->k<w'.heap.size) (j:∀k,F k->k≠p->m.ownBlock≠X k->w'.heap[k]? =w.heap[k]?)
 (u:w'.heap[p]? =X (a2 #[l,vN,n] 34 (0,0))) (c:w'.ownsRow 0 142 3 vN ds.length (ds.flatMap dropCells)) (r:∀g,vN.ownBlock=X g->e g/\(m.ownBlock=X g∨¬F g)) (x:w.heap.size<=w'.heap.size) (y:aZ {d with ds:=ds}):ey e w' p l vN n s {d with ds:=ds}:=by
 refine ⟨u,h.vx,ah h.vs (λg b=>j g (h.f1 g b) (el h.vs h.blk (by decide) b) (jx h.vs h.ds (by decide) b)),λq v=>?_,c,ah h.ps (λg b=>j g (h.f3 g b) (el h.ps h.blk (by decide) b) (jx h.ps h.ds (by decide) b)),f p h.fp,λg b=>f g (h.f1 g b),λg b=>(r g b).1,λg b=>f g (h.f3 g b),t,y⟩;refine ((h.fx q v).step (λk c=>j k c.1 c.2.1 c.2.2.2.1) x).wide λk c=>⟨f k c.1,c.2.1,c.2.2.1,λb=>?_,c.2.2.2.2⟩;rcases (r k b).2 with i|i
 · exact c.2.2.2.1 i
 · exact i c.1
theorem ey.put3 {F e:Nat->Prop} {w w':i1} {p:Nat} {l m n vN:iS} {s:List (RK×VX)} {d:aq} {ps:List (PK×(Int×Bool))} (h:ey F w p l m n s d) (f:∀k,F k->e k) (t:∀k,e k->k<w'.heap.size) (j:∀k,F k->k≠p->n.ownBlock≠X k->w'.heap[k]? =w.heap[k]?)
 (u:w'.heap[p]? =X (a2 #[l,m,vN] 34 (0,0))) (c:w'.ownsRow 0 38 6 vN ps.length (ps.flatMap decCells)) (r:∀g,vN.ownBlock=X g->e g/\(n.ownBlock=X g∨¬F g)) (x:w.heap.size<=w'.heap.size) (y:aZ {d with ps:=ps}):ey e w' p l m vN s {d with ps:=ps}:=by
 refine ⟨u,h.vx,ah h.vs (λg b=>j g (h.f1 g b) (el h.vs h.blk (by decide) b) (jx h.vs h.ps (by decide) b)),λq v=>?_,ah h.ds (λg b=>j g (h.f2 g b) (el h.ds h.blk (by decide) b) (jx h.ds h.ps (by decide) b)),c,f p h.fp,λg b=>f g (h.f1 g b),λg b=>f g (h.f2 g b),λg b=>(r g b).1,t,y⟩;refine ((h.fx q v).step (λk c=>j k c.1 c.2.1 c.2.2.2.2) x).wide λk c=>⟨f k c.1,c.2.1,c.2.2.1,c.2.2.2.1,λb=>?_⟩;rcases (r k b).2 with i|i
 · exact c.2.2.2.2 i
 · exact i c.1
theorem ey.put1 {F e:Nat->Prop} {w w':i1} {p:Nat} {r j l vN:iS} {t ys:List (RK×VX)} {d:aq} (h:ey F w p r j l t d) (i:∀k,F k->e k) (u:∀k,e k->k<w'.heap.size) (n:∀k,F k->k≠p->r.ownBlock≠X k->w'.heap[k]? =w.heap[k]?)
 (v:w'.heap[p]? =X (a2 #[vN,j,l] 34 (0,0))) (c:w'.ownsRow 0 64 6 vN ys.length (ys.flatMap verCells)) (s:∀g,vN.ownBlock=X g->e g/\(r.ownBlock=X g∨¬F g)) (y:w.heap.size<=w'.heap.size) (z:aZ {d with vs:=ys.map λp=>(p.1,p.2.1)})
 (x:∀q∈ys,q∈t∨dM (restM e p vN j l) w' q):ey e w' p vN j l ys {d with vs:=ys.map λp=>(p.1,p.2.1)}:=by
 refine ⟨v,rfl,c,λq f=>?_,ah h.ds (λg b=>n g (h.f2 g b) (el h.ds h.blk (by decide) b) (jx h.ds h.vs (by decide) b)),ah h.ps (λg b=>n g (h.f3 g b) (el h.ps h.blk (by decide) b) (jx h.ps h.vs (by decide) b)),i p h.fp,λg b=>(s g b).1,λg b=>i g (h.f2 g b),λg b=>i g (h.f3 g b),u,z⟩;rcases x q f with f|f
 · refine ((h.fx q f).step (λk c=>n k c.1 c.2.1 c.2.2.1) y).wide λk c=>⟨i k c.1,c.2.1,λb=>?_,c.2.2.2.1,c.2.2.2.2⟩;rcases (s k b).2 with m|m
   · exact c.2.2.1 m
   · exact m c.1
 · exact f
theorem zI (F:Nat->Prop) (w:i1) (p:Nat) (d:aq) (h:ci F w p d) (k:RK) (n:Int) (s:rkOk k) (hn:i64B n):
 i8 prog 42 #[fn (X ⟨p,0,Y⟩),recK k,J U n] w λe w'=>e=hb (J U (dropC d k n).2)/\∃F',ci F' w' p (dropC d k n).1/\ag F w F' w':=by
 obtain ⟨v1,v2,v3,xs,h⟩:=h;have cl:Hid (dC d k n=0->aZ {d with ds:=insL ltRK d.ds k n}):=λhx=>h.ok.drop s hn hx;have bk:=Z (oX d k n);obtain ⟨b,f⟩:=k;obtain ⟨w1,cb⟩:=Qe (w.alloc (a2 #[J U b,J U f] 36));have cz:Bw w w1:=by rw [<- cb];exact (iF _ w).alloc (hR _) _
 have I:=hQ w (a2 #[J U b,J U f] 36);rw [cb] at I;have HK:=Z I;have r:=Z (h.below cz);have ad:=Z cz;have dd:w1.heap.size=w.heap.size+1:=by rw [<- cb];simp
 have b7:=Z dd;have d4:=Z cb;have d3:=Z h.lt;have ac:=Z (zH F w1 p v1 v2 v3 xs d r.o (b,f));have c7:=gv (lt:=ltRK) d.ds (b,f);have d6:=h.ok.dlen;clear cz dd cb I;cases T:findK d.ds (b,f) with
 |some m=>
  obtain ⟨hq,he⟩:=kC aK h.ok.ok.ds T;have a6:=Z (oP aK h.ok.ok.ds T n);obtain ⟨g,c,hv,hg,hc⟩:=eE (enc:=dropCells) (λ_=>rfl) r.ds _ hq;rw [he] at hc;have c2:=hc 2 _ rfl;have al:Hid (dC d (b,f) n=aL true (decide (m=n)) m n d.ds.length):=by unfold Hid dC;rw [T];rfl
  rw [T] at ac;obtain ⟨q,b8⟩:=Qe (placeK ltRK d.ds (b,f));rw [b8] at ac hq c2 a6;have HE:Hid (∃hq:q<d.ds.length,d.ds[q]=((b,f),m)):=by subst b8;exact ⟨hq,he⟩
  have dk:=Z c2;obtain ⟨N,hN⟩:=Qe d.ds.length;rw [hN] at hv hq d6 al;have E:=Z hN;subst hv;have es:(q:Int)<(N:Int):=by omega
  have M:Hid (∀W,Bw w1 W->W.cell? ⟨p,1,Y⟩=X (a1 (X ⟨g,0,Y⟩) N c)/\W.cell? ⟨g,q * 3+2,Y⟩=X (J U m)/\W.frozen? ⟨g,q * 3+2,Y⟩=false):=λW D=>
   ⟨(aa ((D.block _ (r.o.lt p r.o.fp)).trans r.o.blk) 1).trans rfl,((aE D).1 g _ hg).trans dk.o,(by have:=(r.o.below D).ds;rw [E.o] at this;exact this.frozenAt _)⟩
  have er:=hq;clear hc c2 he b8 hN T c7 h hq;have au:Hid (i8 prog 81 #[fn (X ⟨p,0,Y⟩), .agg #[J U b,J U f]] (w.alloc (a2 #[J U b,J U f] 36)) λe w'=>e=hb (.tuple #[J U q,hk true])/\Bw w1 w'):=by unfold Hid;rw [d4.o];exact ac.o
  clear ac;unfold recK;dsimp only;rcases i6 m n with c1|c1|c1
  · have G:Hid (dC d (b,f) n=0):=by unfold Hid;rw [al.o,decide_eq_false (show m≠n by omega)];unfold aL;simp;omega
    have a4:Hid (dropC d (b,f) n=({d with ds:=insL ltRK d.ds (b,f) n},0)):=by unfold Hid;rw [bk.o,if_pos G.o]
    have f1:(m==n)=false:=by simp;omega
    have f2:¬(m=n):=by omega
    have f3:¬(n<m):=by omega
    have e9:=Z c1;clear c1;go_enter func42,ntmps42;go_wp2_with (go_at_call 81;((with_reducible refine hW au.o ?_);rintro e t ⟨rfl,y⟩;obtain ⟨p1,p2,p3⟩:=M.o t y;have x:=Z y;clear y))
    go_ret;rw [a4.o];have ao:=r.below x.o;have e8:ag F w F t:=ag.of_below (ad.o.trans (x.o.mono (by have:=b7.o;omega)));refine ⟨rfl,F,?_,?_⟩
    · obtain ⟨e7,e5⟩:=HE.o;have b9:=ao.ds;rw [E.o] at b9;have d8:=(b9.stored (q * 3+2) (J U n)).1;rw [eG dropCells 3 (λ_=>rfl) d.ds q 2 _ ((b,f),n) e7 (by omega) (by rw [e5];rfl), <- a6.o] at d8;have e6:N=(insL ltRK d.ds (b,f) n).length:=by rw [a6.o,ja,E.o]
      refine ⟨v1,_,v3,xs,ao.put2 (vN:=a1 (X ⟨g,0,Y⟩) N c) (λ_ h=>h) (λk s=>by rw [hM];exact ao.lt k s) (λk _ _ a7=>hO _ _ _ _ (λe=>a7 (by rw [e];rfl))) ?_ (e6 ▸ d8) (λR l=>⟨ao.f2 R l, .inl l⟩) (by rw [hM];exact hR _) (cl.o G.o)⟩;rw [hO _ _ _ _ (Ne.symm (el ao.ds ao.blk (by decide) (g:=g) rfl))];exact ao.blk
    · exact e8.trans (ag.of_only (ar.setCell (ar.refl g t) _ _) (ao.f2 g rfl))
  · subst c1;have G:Hid (dC d (b,f) m=22):=by unfold Hid;rw [al.o,decide_eq_true rfl];rfl
    have a4:Hid (dropC d (b,f) m=(d,22)):=by unfold Hid;rw [bk.o,if_neg (by rw [G.o];decide),G.o]
    go_enter func42,ntmps42;go_wp2_with (go_at_call 81;((with_reducible refine hW au.o ?_);rintro e t ⟨rfl,y⟩;obtain ⟨p1,p2,p3⟩:=M.o t y;have x:=Z y;clear y))
    go_ret;rw [a4.o];exact ⟨rfl,F,⟨_,_,_,_,r.o.below x.o⟩,ag.of_below (ad.o.trans (x.o.mono (by have:=b7.o;omega)))⟩
  · have G:Hid (dC d (b,f) n=30):=by unfold Hid;rw [al.o,decide_eq_false (show m≠n by omega)];unfold aL;simp;omega
    have a4:Hid (dropC d (b,f) n=(d,30)):=by unfold Hid;rw [bk.o,if_neg (by rw [G.o];decide),G.o]
    have f1:(m==n)=false:=by simp;omega
    have f2:¬(m=n):=by omega
    go_enter func42,ntmps42;go_wp2_with (go_at_call 81;((with_reducible refine hW au.o ?_);rintro e t ⟨rfl,y⟩;obtain ⟨p1,p2,p3⟩:=M.o t y;have x:=Z y;clear y))
    go_ret;rw [a4.o];exact ⟨rfl,F,⟨_,_,_,_,r.o.below x.o⟩,ag.of_below (ad.o.trans (x.o.mono (by have:=b7.o;omega)))⟩
 |none=>
  have a6:=Z (oQ aK h.ok.ok.ds T n);have al:Hid (dC d (b,f) n=if 5000<=d.ds.length then 2 else 0):=by unfold Hid dC;rw [T];show aL false _ _ _ _=_;unfold aL;simp
  rw [T] at ac;obtain ⟨q,b8⟩:=Qe (placeK ltRK d.ds (b,f));rw [b8] at ac c7 a6;obtain ⟨N,hN⟩:=Qe d.ds.length;rw [hN] at d6 c7 al;have E:=Z hN;obtain ⟨va,vc,hv⟩:=aM h.ds;rw [hN] at hv;subst hv
  have M:Hid (∀W,Bw w1 W->W.cell? ⟨p,1,Y⟩=X (a1 va N vc)/\W.cell? ⟨w.heap.size,0,Y⟩=X (J U b)/\W.cell? ⟨w.heap.size,1,Y⟩=X (J U f)):=λW D=>
   ⟨(aa ((D.block _ (r.o.lt p r.o.fp)).trans r.o.blk) 1).trans rfl,(aa ((D.block _ (by have:=b7.o;omega)).trans HK.o) 0).trans rfl,(aa ((D.block _ (by have:=b7.o;omega)).trans HK.o) 1).trans rfl⟩
  clear b8 hN T h;have au:Hid (i8 prog 81 #[fn (X ⟨p,0,Y⟩), .agg #[J U b,J U f]] (w.alloc (a2 #[J U b,J U f] 36)) λe w'=>e=hb (.tuple #[J U q,hk false])/\Bw w1 w'):=by unfold Hid;rw [d4.o];exact ac.o
  clear ac;unfold recK;dsimp only;by_cases h5:5000<=N
  · have G:Hid (dC d (b,f) n=2):=by unfold Hid;rw [al.o,if_pos h5]
    have a4:Hid (dropC d (b,f) n=(d,2)):=by unfold Hid;rw [bk.o,if_neg (by rw [G.o];decide),G.o]
    have e0:(5000:Int)<=(N:Int):=by omega
    go_enter func42,ntmps42;go_wp2_with (go_at_call 81;((with_reducible refine hW au.o ?_);rintro e t ⟨rfl,y⟩;obtain ⟨p1,p2,p3⟩:=M.o t y;have x:=Z y;clear y))
    go_ret;rw [a4.o];exact ⟨rfl,F,⟨_,_,_,_,r.o.below x.o⟩,ag.of_below (ad.o.trans (x.o.mono (by have:=b7.o;omega)))⟩
  · have G:Hid (dC d (b,f) n=0):=by unfold Hid;rw [al.o,if_neg h5]
    have a4:Hid (dropC d (b,f) n=({d with ds:=insL ltRK d.ds (b,f) n},0)):=by unfold Hid;rw [bk.o,if_pos G.o]
    have e0:¬((5000:Int)<=(N:Int)):=by omega
    have eQ:(q:Int)<=(N:Int):=by omega
    obtain ⟨i0,hi,d9,da,dc⟩:=info_parts Bz;have HI:=Z hi;have b1:=Z d9;have b2:=Z da;have b3:=Z dc;clear hi d9 da dc;rcases r.ds.2 with ⟨hv,d7⟩|⟨g,eg,em,hv,_,_,d5,_⟩
    · injection hv with e1 e2 e3
      subst e1 e3;rw [E.o] at d7;subst d7;obtain rfl:q=0:=by omega
      have cu:Hid (∀W,Bw w1 W->aF 0 w1.heap.size W (a1 Y 0 0) 0 ((d.ds.drop 0).flatMap dropCells)):=λW D=>by have:d.ds=[]:=iN E.o;rw [this];exact ⟨Y,0,rfl,λh=>absurd rfl h⟩
      have cv:Hid (∀W,Bw w1 W->aF 0 w1.heap.size W (a1 Y 0 0) 0 ((d.ds.take 0).flatMap dropCells)):=λW D=>⟨Y,0,rfl,λh=>absurd rfl h⟩;clear e2;have cq:Hid (((d.ds.take 0).flatMap dropCells).length=0 * 3):=by unfold Hid;rw [bL dropCells 3 (λ_=>rfl),hT,E.o,iD (by omega)]
      have bs:Hid (((d.ds.drop 0).flatMap dropCells).length=(0) * 3):=by unfold Hid;rw [bL dropCells 3 (λ_=>rfl),hV,E.o]
      have cg:Hid (([J U b,J U f,J U n]++(d.ds.drop 0).flatMap dropCells:List iS).length=(1+(0)) * 3):=by unfold Hid;rw [hS,bs.o];show 3+_=_;omega
      have cd:Hid ((insL ltRK d.ds (b,f) n).flatMap dropCells=([]++(d.ds.take 0).flatMap dropCells)++([J U b,J U f,J U n]++(d.ds.drop 0).flatMap dropCells)):=by unfold Hid;rw [a6.o,hZ,hP];rfl
      have ce:Hid ((insL ltRK d.ds (b,f) n).length=0+(1+(0))):=by unfold Hid;rw [a6.o,hS,it,hT,hV,E.o];omega
      have cm:Hid (∀u∈(d.ds.take 0).flatMap dropCells,u.oneCell'=true):=gZ _;have bw:Hid (∀u∈(d.ds.drop 0).flatMap dropCells,u.oneCell'=true):=gZ _;have cp:Hid (∀u∈[J U b,J U f,J U n]++(d.ds.drop 0).flatMap dropCells,u.oneCell'=true):=λu hu=>by
       rcases List.mem_append.1 hu with hu|hu
       · simp only [ia,hY,or_false] at hu;rcases hu with rfl|rfl|rfl<;>rfl
       · exact bw u hu
      generalize (d.ds.take 0).flatMap dropCells=TK at *;generalize (d.ds.drop 0).flatMap dropCells=DR at *;go_enter func42,ntmps42;go_upto_region 11 with (go_at_call 81;((with_reducible refine hW au.o ?_);rintro e t ⟨rfl,y⟩;obtain ⟨p1,p2,p3⟩:=M.o t y;have x:=Z y;clear y))
      clear p1 p2 p3;have aT:Bw w1 t.drew:=x.drew;refine Wb w1 999 ?_;refine Qd [0,1,4,8,2,5,6,7] aT M ?_;refine bT (i:=9) (v:=a1 Y 0 0) rfl (by kernel_rfl) (by kernel_rfl) (by kernel_rfl) (by rfl) (λ_ _ _ h=>h) aT (jb ⟨by rfl,?_⟩) ?_;focus (intro w' h;(first |(go_simp;done)|(go_simp;rfl)))
      (try go_simp)
      refine Dp 3 λK I=>?_;go_simp;obtain ⟨H,a3⟩:=Qe ((t.alloc (a2 #[J U b,J U f,J U n] 142)).drew);have a0:Bw w1 H:=by rw [<- a3];exact (x.o.alloc x.o.size _).drew
      have c0:H.ownsRow w1.heap.size 142 3 (a1 (X ⟨t.heap.size,0,Y⟩) 1 1) 1 [J U b,J U f,J U n]:=by rw [<- a3];exact ih (base:=w1.heap.size) (e:=142) (size:=3) t #[J U b,J U f,J U n] 1 x.o.size (by unfold maxLen;omega) rfl
      have d2:H.heap.size=t.heap.size+1:=by rw [<- a3];show (t.alloc _).heap.size=_;simp
      rw [a3];refine I _ _ (λ_=>a0) ?_;clear I K;clear a3;obtain ⟨b4,c4,z,c9,aC,bO,cP⟩:=bh (P:=prog) H w1.heap.size 31 31 142 i0 (.agg #[J U 0,J U 0,J U 0]) 3 24 underlying31 HI.o b1.o b2.o b3.o rfl (by decide) t.heap.size 1 1 [J U b,J U f,J U n] c0 w1.heap.size (a1 Y 0 0) (0) DR (cu.o H a0) bs.o bw.o (by unfold maxLen;omega) (by omega) a0.size;have C:Bw w1 z:=a0.grown bO a0.size (λj A=>by injection A with A;have:=x.o.size;omega);refine Dp 10 λK I=>?_;refine dQ rfl rfl rfl c9 ?_;refine I _ _ (λ_=>C) ?_;clear I K;go_simp;refine Qc [11] C ?_
      refine dN ?_;have ch:=Z aC;have dz:=Z C;have cQ:b4<z.heap.size:=(aC.lt b4 rfl).2;have cc:=Z (df (B:=w1.heap.size) (e:=142) (k:=3) (w:=z.alloc (a2 #[] 142)) (hQ z _) C.size);have a5:Hid (Bw w1 (z.alloc (a2 #[] 142))):=C.alloc C.size _;have bc:Hid (w1.heap.size<=(z.alloc (a2 #[] 142)).heap.size):=a5.size;have cs:Hid (w1.heap.size<=z.heap.size):=C.size;obtain ⟨s1,_,_⟩:=M z C;have s2:(z.alloc (a2 #[] 142)).cell? ⟨p,1,Y⟩=X (a1 Y 0 0):=(M _ a5.o).1;clear aC bO cP a0 aT C c0 c9 d2
      go_wp2_with (first
       |(at_builtin;(refine aB _ rfl _ _ 31 rfl w1.heap.size 142 i0 (.agg #[J U 0,J U 0,J U 0]) 3 24 underlying31 HI.o b1.o b2.o b3.o rfl (by decide) z.heap.size 0 0 [] rfl cc.o w1.heap.size (a1 Y 0 0) 0 TK rfl (cv.o _ a5.o) cq.o cm.o (by unfold maxLen;omega) (by omega) bc.o ?_;intro b5 c5 w5 aS ay _;have bA:Hid (Bw w1 w5):=a5.o.grown ay bc.o (λj A=>by injection A with A;have:=cs.o;omega);rw [iv] at aS;have bt:=Z aS;have cx:Hid (w5.ownsRow w1.heap.size 142 3 (a1 (X ⟨b4,0,Y⟩) (1+(0)) c4) (1+(0)) ([J U b,J U f,J U n]++DR)):=ah ch.o (λR l=>by have l:X b4=X R:=l;injection l with l;subst l;rw [ay.block _ (by simp;omega) (λe=>by injection e with e;omega)];exact ib _ _ _ cQ);have bB:Hid (w1.heap.size<=w5.heap.size):=bA.o.size;clear aS ay))
       |(at_builtin;(refine aB _ rfl _ _ 31 rfl w1.heap.size 142 i0 (.agg #[J U 0,J U 0,J U 0]) 3 24 underlying31 HI.o b1.o b2.o b3.o rfl (by decide) b5 0 c5 ([]++TK) rfl bt.o w5.heap.size (a1 (X ⟨b4,0,Y⟩) (1+(0)) c4) (1+(0)) ([J U b,J U f,J U n]++DR) rfl ((bf cx.o).mono (hX _) (hR _)) cg.o cp.o (by unfold maxLen;omega) (by omega) bB.o ?_;intro O c6 L c3 bY _;have b0:Bw w1 L:=bA.o.grown bY bB.o (λj A=>by injection A with A;subst A;exact (bt.o.lt _ rfl).1);have bv:=Z c3;have a8:=(b0.block p (r.o.lt p r.o.fp)).trans r.o.blk;have y1:=(aa a8 1).trans rfl;have z1:=ab a8 1;have dy:=Z a8;have av:=Z b0;clear c3 bY a8 b0)))
      go_ret;rw [a4.o];refine ⟨rfl,?_⟩;have ax:=r.below av.o;have cy:w.heap.size<=w1.heap.size:=ad.size;have e4:w1.heap.size<=L.heap.size:=av.size;have b9:L.ownsRow 0 142 3 (a1 (X ⟨O,0,Y⟩) (0+(1+(0))) c6) (insL ltRK d.ds (b,f) n).length ((insL ltRK d.ds (b,f) n).flatMap dropCells):=by rw [cd.o,ce.o];exact bu bv.o (hX _)
      have d0:=bv.lt O rfl;have a7:O≠p:=λe=>by have:=r.o.lt p r.o.fp;omega
      refine ⟨λk=>F k∨(w.heap.size<=k/\k<L.heap.size),⟨v1,_,v3,xs,ax.put2 (w':=L.setCell ⟨p,1,Y⟩ _) (vN:=a1 (X ⟨O,0,Y⟩) (0+(1+(0))) c6) (λk s=> .inl s) (λk s=>?_) (λk _ a7 _=>hO _ _ _ _ a7) ((am ax.blk 1 _).trans rfl) (ah b9 (λR l=>by have l:X O=X R:=l;injection l with l;subst l;exact hO _ _ _ _ a7)) (λR l=>?_) (by rw [hM];exact hR _) (cl.o G.o)⟩,?_⟩
      · rw [hM];rcases s with s|s
        · exact ax.lt k s
        · exact s.2
      · have l:X O=X R:=l;injection l with l
        subst l;exact ⟨.inr ⟨by omega,d0.2⟩, .inr (λT=>by have:=d3.o _ T;omega)⟩
      · have D:Bw w L:=ad.trans (av.mono cy);exact ((ag.of_below D).trans (ag.of_only (ar.setCell (ar.refl p L) 1 _) r.fp)).more λk s=>by
         rcases s with s|s
         · exact .inl s
         · exact .inr s.1
    · injection hv with e1 e2 e3
      subst e1 e3;have d5:N<=vc:=by rw [<- E.o];exact d5
      have ex:(q:Int)<=(vc:Int):=by omega
      have eq:(N:Int)<=(vc:Int):=by omega
      clear e2;obtain ⟨bb,d1⟩:=Qe ((if vc=q then 0 else q * 3));have dr:Hid (q<N->bb=q * 3):=λh=>by rw [<- d1,if_neg (by omega)]
      have cu:Hid (∀W,Bw w1 W->aF 0 w1.heap.size W (a1 (X ⟨g,bb,Y⟩) (N - q) (vc - q)) (N - q) ((d.ds.drop q).flatMap dropCells)):=λW D=>by have hr:=(r.below D).ds;rw [E.o] at hr;exact om (enc:=dropCells) (k:=3) (λ_=>rfl) hr (by rw [E.o]) q c7 dr.o (r.o.ds.lt g rfl).2
      have cv:Hid (∀W,Bw w1 W->aF 0 w1.heap.size W (a1 (X ⟨g,0,Y⟩) q vc) q ((d.ds.take q).flatMap dropCells)):=λW D=>by have hr:=(r.below D).ds;rw [E.o] at hr;exact oo (enc:=dropCells) (k:=3) (λ_=>rfl) hr q c7 (r.ds.lt g rfl).2
      have dx:=Z d1;clear d1;have cq:Hid (((d.ds.take q).flatMap dropCells).length=q * 3):=by unfold Hid;rw [bL dropCells 3 (λ_=>rfl),hT,E.o,iD (by omega)]
      have bs:Hid (((d.ds.drop q).flatMap dropCells).length=(N - q) * 3):=by unfold Hid;rw [bL dropCells 3 (λ_=>rfl),hV,E.o]
      have cg:Hid (([J U b,J U f,J U n]++(d.ds.drop q).flatMap dropCells:List iS).length=(1+(N - q)) * 3):=by unfold Hid;rw [hS,bs.o];show 3+_=_;omega
      have cd:Hid ((insL ltRK d.ds (b,f) n).flatMap dropCells=([]++(d.ds.take q).flatMap dropCells)++([J U b,J U f,J U n]++(d.ds.drop q).flatMap dropCells)):=by unfold Hid;rw [a6.o,hZ,hP];rfl
      have ce:Hid ((insL ltRK d.ds (b,f) n).length=q+(1+(N - q))):=by unfold Hid;rw [a6.o,hS,it,hT,hV,E.o];omega
      have cm:Hid (∀u∈(d.ds.take q).flatMap dropCells,u.oneCell'=true):=gZ _;have bw:Hid (∀u∈(d.ds.drop q).flatMap dropCells,u.oneCell'=true):=gZ _;have cp:Hid (∀u∈[J U b,J U f,J U n]++(d.ds.drop q).flatMap dropCells,u.oneCell'=true):=λu hu=>by
       rcases List.mem_append.1 hu with hu|hu
       · simp only [ia,hY,or_false] at hu;rcases hu with rfl|rfl|rfl<;>rfl
       · exact bw u hu
      generalize (d.ds.take q).flatMap dropCells=TK at *;generalize (d.ds.drop q).flatMap dropCells=DR at *;go_enter func42,ntmps42;go_upto_region 11 with (go_at_call 81;((with_reducible refine hW au.o ?_);rintro e t ⟨rfl,y⟩;obtain ⟨p1,p2,p3⟩:=M.o t y;have x:=Z y;clear y))
      clear p1 p2 p3;have aT:Bw w1 t.drew:=x.drew;refine Wb w1 999 ?_;refine Qd [0,1,4,8,2,5,6,7] aT M ?_;refine bT (i:=9) (v:=a1 (X ⟨g,bb,Y⟩) (N - q) (vc - q)) rfl (by kernel_rfl) (by kernel_rfl) (by kernel_rfl) (by rfl) (λ_ _ _ h=>h) aT (jb ⟨by rfl,?_⟩) ?_;focus (intro w' h;go_simp;rw [<- dx.o];(first |rfl|(split<;>simp_all)))
      (try go_simp)
      refine Dp 3 λK I=>?_;go_simp;obtain ⟨H,a3⟩:=Qe ((t.alloc (a2 #[J U b,J U f,J U n] 142)).drew);have a0:Bw w1 H:=by rw [<- a3];exact (x.o.alloc x.o.size _).drew
      have c0:H.ownsRow w1.heap.size 142 3 (a1 (X ⟨t.heap.size,0,Y⟩) 1 1) 1 [J U b,J U f,J U n]:=by rw [<- a3];exact ih (base:=w1.heap.size) (e:=142) (size:=3) t #[J U b,J U f,J U n] 1 x.o.size (by unfold maxLen;omega) rfl
      have d2:H.heap.size=t.heap.size+1:=by rw [<- a3];show (t.alloc _).heap.size=_;simp
      rw [a3];refine I _ _ (λ_=>a0) ?_;clear I K;clear a3;obtain ⟨b4,c4,z,c9,aC,bO,cP⟩:=bh (P:=prog) H w1.heap.size 31 31 142 i0 (.agg #[J U 0,J U 0,J U 0]) 3 24 underlying31 HI.o b1.o b2.o b3.o rfl (by decide) t.heap.size 1 1 [J U b,J U f,J U n] c0 w1.heap.size (a1 (X ⟨g,bb,Y⟩) (N - q) (vc - q)) (N - q) DR (cu.o H a0) bs.o bw.o (by unfold maxLen;omega) (by omega) a0.size;have C:Bw w1 z:=a0.grown bO a0.size (λj A=>by injection A with A;have:=x.o.size;omega);refine Dp 10 λK I=>?_;refine dQ rfl rfl rfl c9 ?_;refine I _ _ (λ_=>C) ?_;clear I K;go_simp;refine Qc [11] C ?_
      refine dN ?_;have ch:=Z aC;have dz:=Z C;have cQ:b4<z.heap.size:=(aC.lt b4 rfl).2;have cc:=Z (df (B:=w1.heap.size) (e:=142) (k:=3) (w:=z.alloc (a2 #[] 142)) (hQ z _) C.size);have a5:Hid (Bw w1 (z.alloc (a2 #[] 142))):=C.alloc C.size _;have bc:Hid (w1.heap.size<=(z.alloc (a2 #[] 142)).heap.size):=a5.size;have cs:Hid (w1.heap.size<=z.heap.size):=C.size;obtain ⟨s1,_,_⟩:=M z C;have s2:(z.alloc (a2 #[] 142)).cell? ⟨p,1,Y⟩=X (a1 (X ⟨g,0,Y⟩) N vc):=(M _ a5.o).1;clear aC bO cP a0 aT C c0 c9 d2
      go_wp2_with (first
       |(at_builtin;(refine aB _ rfl _ _ 31 rfl w1.heap.size 142 i0 (.agg #[J U 0,J U 0,J U 0]) 3 24 underlying31 HI.o b1.o b2.o b3.o rfl (by decide) z.heap.size 0 0 [] rfl cc.o w1.heap.size (a1 (X ⟨g,0,Y⟩) q vc) q TK rfl (cv.o _ a5.o) cq.o cm.o (by unfold maxLen;omega) (by omega) bc.o ?_;intro b5 c5 w5 aS ay _;have bA:Hid (Bw w1 w5):=a5.o.grown ay bc.o (λj A=>by injection A with A;have:=cs.o;omega);rw [iv] at aS;have bt:=Z aS;have cx:Hid (w5.ownsRow w1.heap.size 142 3 (a1 (X ⟨b4,0,Y⟩) (1+(N - q)) c4) (1+(N - q)) ([J U b,J U f,J U n]++DR)):=ah ch.o (λR l=>by have l:X b4=X R:=l;injection l with l;subst l;rw [ay.block _ (by simp;omega) (λe=>by injection e with e;omega)];exact ib _ _ _ cQ);have bB:Hid (w1.heap.size<=w5.heap.size):=bA.o.size;clear aS ay))
       |(at_builtin;(refine aB _ rfl _ _ 31 rfl w1.heap.size 142 i0 (.agg #[J U 0,J U 0,J U 0]) 3 24 underlying31 HI.o b1.o b2.o b3.o rfl (by decide) b5 q c5 ([]++TK) rfl bt.o w5.heap.size (a1 (X ⟨b4,0,Y⟩) (1+(N - q)) c4) (1+(N - q)) ([J U b,J U f,J U n]++DR) rfl ((bf cx.o).mono (hX _) (hR _)) cg.o cp.o (by unfold maxLen;omega) (by omega) bB.o ?_;intro O c6 L c3 bY _;have b0:Bw w1 L:=bA.o.grown bY bB.o (λj A=>by injection A with A;subst A;exact (bt.o.lt _ rfl).1);have bv:=Z c3;have a8:=(b0.block p (r.o.lt p r.o.fp)).trans r.o.blk;have y1:=(aa a8 1).trans rfl;have z1:=ab a8 1;have dy:=Z a8;have av:=Z b0;clear c3 bY a8 b0)))
      go_ret;rw [a4.o];refine ⟨rfl,?_⟩;have ax:=r.below av.o;have cy:w.heap.size<=w1.heap.size:=ad.size;have e4:w1.heap.size<=L.heap.size:=av.size;have b9:L.ownsRow 0 142 3 (a1 (X ⟨O,0,Y⟩) (q+(1+(N - q))) c6) (insL ltRK d.ds (b,f) n).length ((insL ltRK d.ds (b,f) n).flatMap dropCells):=by rw [cd.o,ce.o];exact bu bv.o (hX _)
      have d0:=bv.lt O rfl;have a7:O≠p:=λe=>by have:=r.o.lt p r.o.fp;omega
      refine ⟨λk=>F k∨(w.heap.size<=k/\k<L.heap.size),⟨v1,_,v3,xs,ax.put2 (w':=L.setCell ⟨p,1,Y⟩ _) (vN:=a1 (X ⟨O,0,Y⟩) (q+(1+(N - q))) c6) (λk s=> .inl s) (λk s=>?_) (λk _ a7 _=>hO _ _ _ _ a7) ((am ax.blk 1 _).trans rfl) (ah b9 (λR l=>by have l:X O=X R:=l;injection l with l;subst l;exact hO _ _ _ _ a7)) (λR l=>?_) (by rw [hM];exact hR _) (cl.o G.o)⟩,?_⟩
      · rw [hM];rcases s with s|s
        · exact ax.lt k s
        · exact s.2
      · have l:X O=X R:=l;injection l with l
        subst l;exact ⟨.inr ⟨by omega,d0.2⟩, .inr (λT=>by have:=d3.o _ T;omega)⟩
      · have D:Bw w L:=ad.trans (av.mono cy);exact ((ag.of_below D).trans (ag.of_only (ar.setCell (ar.refl p L) 1 _) r.fp)).more λk s=>by
         rcases s with s|s
         · exact .inl s
         · exact .inr s.1
end
section
open Go.RowKit Go.Maps Go.Shelf
theorem Bu:(prog.info? 64).map (λi=>(i.zero,i.size,i.bytes))=X (X (.agg #[J U 0,J U 0,J U 0,J hK 0,J hK 0,a1 Y 0 0]),6,56):=by kernel_rfl
theorem iK (l:List (RK×VX)) (h:∀p∈l,p.2.2.oneCell'=true):∀u∈l.flatMap verCells,u.oneCell'=true:=by
 intro u b;obtain ⟨p,c,b⟩:=List.mem_flatMap.1 b;simp only [verCells,ia,hY,or_false] at b;rcases b with rfl|rfl|rfl|rfl|rfl|rfl<;>first |rfl|exact h p c
theorem sT {lo d:Nat} {w:i1} {x:iS} {b:List af} (h:ai lo d w x b):x.oneCell'=true:=by
 obtain ⟨a,c,rfl⟩:=h.shape;rfl
theorem nm {α:Type} (enc:α->List iS) (n:Nat) (c:∀x,(enc x).length=n) (b:List α) (q:Nat) (d:q<b.length) (y:α):(b.flatMap enc).take (q * n)++enc y++(b.flatMap enc).drop (q * n+n)=(b.set q y).flatMap enc:=by
 rw [List.set_eq_take_append_cons_drop,if_pos d,hZ,hP,jF enc n c,jH enc n c,i2,List.append_assoc]
theorem yG {W:i1} {g N c:Nat} {b:List (RK×VX)} (h:W.ownsRow 0 64 6 (a1 (X ⟨g,0,Y⟩) N c) N (b.flatMap verCells)) (i:b.length=N) (q:Nat) (e:q<N) (y:RK×VX):
 ((((((W.setCell ⟨g,q * 6,Y⟩ (J U y.1.1)).setCell ⟨g,q * 6+1,Y⟩ (J U y.1.2)).setCell ⟨g,q * 6+2,Y⟩ (J U y.2.1.1)).setCell ⟨g,q * 6+3,Y⟩ (J hK y.2.1.2.kind.toNat)).setCell ⟨g,q * 6+4,Y⟩ (J hK y.2.1.2.level.toNat)).setCell ⟨g,q * 6+5,Y⟩ y.2.2).ownsRow 0 64 6 (a1 (X ⟨g,0,Y⟩) N c) N ((b.set q y).flatMap verCells)/\
   ar g W ((((((W.setCell ⟨g,q * 6,Y⟩ (J U y.1.1)).setCell ⟨g,q * 6+1,Y⟩ (J U y.1.2)).setCell ⟨g,q * 6+2,Y⟩ (J U y.2.1.1)).setCell ⟨g,q * 6+3,Y⟩ (J hK y.2.1.2.kind.toNat)).setCell ⟨g,q * 6+4,Y⟩ (J hK y.2.1.2.level.toNat)).setCell ⟨g,q * 6+5,Y⟩ y.2.2):=by
 have d:(b.flatMap verCells).length=N * 6:=h.1;have f:(q+1) * 6<=N * 6:=i4 6 e;have:=cT (verCells y) (q * 6) W _ h (by rw [d];show q * 6+6<=_;omega);rw [show q * 6+(verCells y).length=q * 6+6 from rfl,nm verCells 6 (λ_=>rfl) b q (by omega) y] at this;exact this
theorem si {W:i1} {p lo b:Nat} {vN d e:iS} {c:Nat->Prop} {k:RK} {n:Int} {r:az} {x:iS} (h:ai lo b W x r.fields) (g:b<=W.heap.size) (f:∀q,lo<=q->q<b->c q/\q≠p/\vN.ownBlock≠X q/\d.ownBlock≠X q/\e.ownBlock≠X q):dM (restM c p vN d e) W (k,((n,r),x)):=
 ⟨lo,b,h,g,f⟩
theorem An {b:List (RK×VX)} {d:aq} (h:b.map (λp=>(p.1,p.2.1))=d.vs) (k:RK) (v:Int×az) (x:iS):(insL ltRK b k (v,x)).map (λp=>(p.1,p.2.1))=insL ltRK d.vs k v:=by
 rw [<- h];exact ub ltRK (λp:VX=>p.1) b k (v,x)
theorem Az (F:Nat->Prop) (w0 w:i1) (p:Nat) (d:aq) (hm:ci F w0 p d) (cv:Bw w0 w) (k:RK) (n:Int) (f lv:UInt8) (b:List af) (x:iS) (hx:ai w0.heap.size w.heap.size w x b) (bY:bH b) (E:rkOk k) (hn:i64B n):
 i8 prog 46 #[fn (X ⟨p,0,Y⟩),kf k n ⟨f,lv,b⟩ x] w λe w'=>e=hb (J U (putC d k n ⟨f,lv,b⟩).2)/\∃F',ci F' w' p (putC d k n ⟨f,lv,b⟩).1/\ag F w0 F' w':=by
 obtain ⟨v1,v2,v3,t,h⟩:=hm;have ac:=Z h.lt;obtain ⟨A,C,rfl⟩:=hx.shape;obtain ⟨l,s⟩:=k;obtain ⟨w1,cg⟩:=Qe (w.alloc (a2 #[J U l,J U s,J U n,J hK f.toNat,J hK lv.toNat,a1 A b.length C] 64));have d8:Bw w w1:=by rw [<- cg];exact (iF _ w).alloc (hR _) _
 have R:=hQ w (a2 #[J U l,J U s,J U n,J hK f.toNat,J hK lv.toNat,a1 A b.length C] 64);rw [cg] at R;have HK:=Z R;have D:=Z ((h.below cv).below d8);have bc:Hid (Bw w0 w1):=cv.trans (d8.mono cv.size);have d3:w1.heap.size=w.heap.size+1:=by rw [<- cg];simp
 have aC:=Z d3;have bk:Hid (w0.heap.size<=w.heap.size):=cv.size;have HX:Hid (ai w0.heap.size w.heap.size w1 (a1 A b.length C) b):=hx.kept (λq _ M=>d8.block q M);have gf:=Z cg;have bt:Hid (i8 prog 85 #[.agg #[J hK f.toNat,J hK lv.toNat,a1 A b.length C]] (w.alloc (a2 #[J U l,J U s,J U n,J hK f.toNat,J hK lv.toNat,a1 A b.length C] 64)) λe w'=>e=hb (hk (decide (wrongR ⟨f,lv,b⟩=0)))/\Bw w1 w'):=by unfold Hid;rw [cg];exact wQ ⟨f,lv,b⟩ _ w1 ⟨_,rfl,HX.o.mono (hX _) (by omega)⟩ bY
 have c0:Hid (∀W,Bw w1 W->(W.cell? ⟨w.heap.size,0,Y⟩=X (J U l)/\W.cell? ⟨w.heap.size,1,Y⟩=X (J U s)/\W.cell? ⟨w.heap.size,2,Y⟩=X (J U n)/\W.cell? ⟨w.heap.size,3,Y⟩=X (J hK f.toNat)/\W.cell? ⟨w.heap.size,4,Y⟩=X (J hK lv.toNat)/\W.cell? ⟨w.heap.size,5,Y⟩=X (a1 A b.length C))):=λW H=>
  km ((H.block _ (by omega)).trans R)
 have gd:=Z bY;clear d8 d3 cg R cv hx bY;unfold kf;dsimp only;by_cases hr:wrongR ⟨f,lv,b⟩=0
 · rw [decide_eq_true hr] at bt;have dz:Hid (putX d (l,s) n ⟨f,lv,b⟩=0->aZ {d with vs:=insL ltRK d.vs (l,s) (n,⟨f,lv,b⟩)}):=λhx=>h.ok.put E hn hr hx;have c1:=Z (put_eq d (l,s) n ⟨f,lv,b⟩ hr);have bb:Hid (∀W,Bw w1 W->i8 prog 86 #[fn (X ⟨p,0,Y⟩), .agg #[J U l,J U s]] W λe w'=>e=hb (.tuple #[J U (placeK ltRK t (l,s)),hk (findK t (l,s)).isSome])/\Bw W w'):=λW H=>rO F W p v1 v2 v3 t d (D.below H) (l,s);have d0:=gv (lt:=ltRK) t (l,s);have f5:=h.lx;have g4:=Z h.len;have g5:=Z h.vx;have cc:findK d.vs (l,s)=(findK t (l,s)).map (·.1):=by rw [<- h.vx];exact qW t (l,s)
   have c9:=Z (An h.vx (l,s) (n,(⟨f,lv,b⟩:az)) (a1 A b.length C));clear hr;cases hf:findK t (l,s) with
   |some m=>
    obtain ⟨⟨O,aS,aT,a8⟩,x'⟩:=m;obtain ⟨M,he⟩:=kC aK h.sx hf;have al:=Z (oP aK h.sx hf ((n,(⟨f,lv,b⟩:az)),a1 A b.length C));have eq:((l,s),((O,(⟨aS,aT,a8⟩:az)),x'))∈t:=by rw [<- he];exact List.getElem_mem M
    obtain ⟨gO,gq,cd,f4,_⟩:=D.fx _ eq;dsimp only at cd;obtain ⟨da,dc,rfl⟩:=cd.shape;have fl:Hid (ai 0 w1.heap.size w1 (a1 da a8.length dc) a8):=cd.mono (hX _) f4;have g2:Hid (bH a8):=by
     have g9:((l,s),(O,(⟨aS,aT,a8⟩:az)))∈d.vs:=by rw [<- g5.o];exact List.mem_map.2 ⟨_,eq,rfl⟩
     exact (eN (h.ok.right _ g9)).2.2
    obtain ⟨g,c,hv,hg,hc⟩:=eE (enc:=verCells) (λ_=>rfl) D.vs _ M;rw [he] at hc;rw [hf] at cc;have ay:Hid (putX d (l,s) n ⟨f,lv,b⟩=aL true (decide (O=n)&&decide ((⟨aS,aT,a8⟩:az)=⟨f,lv,b⟩)) O n d.vs.length):=by unfold Hid putX;rw [cc];rfl
    rw [hf] at bb;obtain ⟨q,ce⟩:=Qe (placeK ltRK t (l,s));rw [ce] at bb M hc al;have HE:Hid (∃M:q<t.length,t[q]=((l,s),((O,(⟨aS,aT,a8⟩:az)),a1 da a8.length dc))):=by subst ce;exact ⟨M,he⟩
    have HC:=Z hc;obtain ⟨N,hN⟩:=Qe t.length;rw [hN] at hv M f5;have HN:=Z hN;subst hv;have gs:(q:Int)<(N:Int):=by omega
    have b1:Hid (∀W,Bw w1 W->W.cell? ⟨p,0,Y⟩=X (a1 (X ⟨g,0,Y⟩) N c)/\W.cell? ⟨g,q * 6+2,Y⟩=X (J U O)/\W.cell? ⟨g,q * 6+3,Y⟩=X (J hK aS.toNat)/\W.cell? ⟨g,q * 6+4,Y⟩=X (J hK aT.toNat)/\W.cell? ⟨g,q * 6+5,Y⟩=X (a1 da a8.length dc)):=λW H=>
     ⟨(aa ((H.block _ (D.lt p D.fp)).trans D.blk) 0).trans rfl,((aE H).1 g _ hg).trans (HC 2 _ rfl),((aE H).1 g _ hg).trans (HC 3 _ rfl),((aE H).1 g _ hg).trans (HC 4 _ rfl),((aE H).1 g _ hg).trans (HC 5 _ rfl)⟩
    have es:Hid (∀W,Bw w1 W->i8 prog 87 #[.agg #[J hK aS.toNat,J hK aT.toNat,a1 da a8.length dc], .agg #[J hK f.toNat,J hK lv.toNat,a1 A b.length C]] W λe w'=>e=hb (hk (sameR ⟨aS,aT,a8⟩ ⟨f,lv,b⟩))/\Bw W w'):=λW H=>
     yz aS aT f lv a8 b _ _ W ((fl.o.kept (λq _ M=>H.block q M)).mono (hR _) H.size) ((HX.o.kept (λq _ M=>H.block q (by have:=aC.o;omega))).mono (hX _) (by have:=H.size;have:=aC.o;omega)) g2.o
    obtain ⟨sm,bY⟩:=Qe (sameR ⟨aS,aT,a8⟩ ⟨f,lv,b⟩);rw [bY] at es;have g3:Hid (decide ((⟨aS,aT,a8⟩:az)=⟨f,lv,b⟩)=sm):=by unfold Hid;rw [<- bY,Bool.eq_iff_iff,decide_eq_true_eq,mZ]
    rw [g3.o] at ay;clear hc he ce hN hf d0 h M cc eq cd f4 bY;have ao:=Z (λW H=>(⟨b1 W H,c0 W H⟩:_/\_));go_enter func46,ntmps46
    go_upto_region 6 with (first
     |(go_at_call 85;((with_reducible refine hW bt.o ?_);rintro e w2 ⟨rfl,a6⟩;obtain ⟨t0,t1,t2,t3,t4,t5⟩:=c0.o w2 a6;have a4:=Z a6;clear a6))
     |(go_at_call 86;((with_reducible refine hW (bb.o _ a4.o) ?_);rintro e w3 ⟨rfl,ax⟩;have a0:Hid (Bw w1 w3):=a4.o.trans (ax.mono a4.o.size);clear ax t0 t1 t2 t3 t4 t5)))
    have a3:Bw w1 w3.drew:=a0.drew;refine Wb w1 999 ?_;refine Qd [0,4,8,1,9,2,3,5,6,7] a3 ao ?_;refine Dp 10 λK R=>?_;go_simp;go_at_call 87;refine (es _ a3).mono ?_;rintro e L ⟨rfl,cb⟩;have T:Bw w1 L:=a3.trans (cb.mono a3.size);refine R _ _ (λ_=>T) ?_;clear R K;refine Qc [11] T ?_
    refine dN ?_;have au:=Z T;clear cb T a3;have b9:Bw w1 L.drew:=au.drew;rcases i6 O n with cP|cP|cP
    · have a5:Hid (putX d (l,s) n ⟨f,lv,b⟩=0):=by unfold Hid;rw [ay.o,decide_eq_false (show O≠n by omega)];unfold aL;simp;omega
      have a7:Hid (putC d (l,s) n ⟨f,lv,b⟩=({d with vs:=insL ltRK d.vs (l,s) (n,⟨f,lv,b⟩)},0)):=by unfold Hid;rw [c1.o,if_pos a5.o]
      have f1:(O==n)=false:=by simp;omega
      have f2:¬(O=n):=by omega
      have f3:¬(n<=O):=by omega
      clear cP;go_wp2_with fail
      refine Wb w1 999 ?_;refine Qd [0,1,2,3,4,5,6,7,8,9,10,11] b9 ao ?_;refine tfS 12 rfl b9 ?_;(try go_simp)
      refine Qc [13] b9 ?_
      refine dN ?_;go_wp2_with fail
      have a9:Bw w1 L.drew.drew:=au.drew.drew;refine Wb w1 999 ?_;refine Qd [0,1,2,3,4,5,6,7,8,9,10] a9 ao ?_;refine dN ?_;go_wp2_with fail
      have bs:Bw w1 L.drew.drew.drew:=au.drew.drew.drew;refine Wb w1 7 ?_;refine Qb [0,4,5,1,2,3,6] bs ao ?_;obtain ⟨W5,eQ⟩:=Qe L.drew.drew.drew;rw [eQ] at bs ⊢;have d5:=Z bs;have ad:=(D.below bs).vs;rw [HN.o] at ad;have g0:=Z ad;have z0:=ad.frozenAt (q * 6);have z1:=ad.frozenAt (q * 6+1);have z2:=ad.frozenAt (q * 6+2);have z3:=ad.frozenAt (q * 6+3);have z4:=ad.frozenAt (q * 6+4);have z5:=ad.frozenAt (q * 6+5);have y0:W5.cell? ⟨g,q * 6,Y⟩=X (J U l):=((aE bs).1 g _ hg).trans (HC 0 _ rfl);have y1:W5.cell? ⟨g,q * 6+1,Y⟩=X (J U s):=((aE bs).1 g _ hg).trans (HC 1 _ rfl);obtain ⟨s0,s2,s3,s4,s5⟩:=b1 W5 bs;clear eQ ad bs b9 a9;refine Dl 7 ?_;obtain ⟨d2,d9⟩:=yG g0.o HN.o q (by omega) ((l,s),((n,(⟨f,lv,b⟩:az)),a1 A b.length C));rw [<- al.o] at d2;dsimp only at d2 d9;obtain ⟨W6,d7⟩:=Qe (((((((W5.setCell ⟨g,q * 6,Y⟩ (J U l)).setCell ⟨g,q * 6+1,Y⟩ (J U s)).setCell ⟨g,q * 6+2,Y⟩ (J U n)).setCell ⟨g,q * 6+3,Y⟩ (J hK f.toNat)).setCell ⟨g,q * 6+4,Y⟩ (J hK lv.toNat)).setCell ⟨g,q * 6+5,Y⟩ (a1 A b.length C)));rw [d7] at d2 d9 ⊢;have g1:=Z d2;have av:=Z d9;clear d7 d2 d9 s0 s2 s3 s4 s5 z0 z1 z2 z3 z4 z5 y0 y1;go_wp2_with fail
      go_ret;rw [a7.o];refine ⟨rfl,?_⟩;have d6:=D.below d5.o;have g8:N=(insL ltRK t (l,s) ((n,(⟨f,lv,b⟩:az)),a1 A b.length C)).length:=by rw [al.o,ja,HN.o]
      have f0:=D.f1 g rfl;have g7:g≠p:=el D.vs D.blk (by decide) rfl;have gz:W6.heap.size=W5.heap.size:=av.size;have gy:=d5.size;have fc:=bk.o;have d3:=aC.o;refine ⟨λk=>F k∨(w0.heap.size<=k/\k<W6.heap.size),⟨a1 (X ⟨g,0,Y⟩) N c,v2,v3,insL ltRK t (l,s) ((n,(⟨f,lv,b⟩:az)),a1 A b.length C),?_⟩,?_⟩
      · rw [<- c9.o];refine d6.put1 (vN:=a1 (X ⟨g,0,Y⟩) N c) (λk E=> .inl E) (λk E=>?_) (λk _ _ b7=>av.o.block k (λe=>b7 (by rw [e];rfl))) ((av.o.block p (Ne.symm g7)).trans d6.blk) (g8 ▸ g1.o) (λg' G=>⟨.inl (d6.f1 g' G), .inl G⟩) (by omega) (by rw [c9.o];exact dz.o a5.o) (λy I=>?_)
        · rcases E with E|E
          · have:=d6.lt k E;omega
          · exact E.2
        · rw [al.o] at I;rcases List.mem_or_eq_of_mem_set I with I|rfl
          · exact .inl I
          · refine .inr (si (r:=⟨f,lv,b⟩) ((HX.o.kept (λq _ M=>d5.o.block q (by omega))).kept (λq h1 _=>av.o.block q (λe=>by have:=ac.o g f0;omega))) (by omega) λq h1 h2=>⟨.inr ⟨h1,by omega⟩,λe=>by have:=ac.o p D.o.fp;omega,λe=>by have:=ac.o q (D.o.f1 q e);omega,λe=>by have:=ac.o q (D.o.f2 q e);omega,λe=>by have:=ac.o q (D.o.f3 q e);omega⟩)
      · have H:Bw w0 W5:=bc.o.trans (d5.o.mono (by omega));exact ((ag.of_below H).trans (ag.of_only av.o f0)).more λk E=>by
         rcases E with E|E
         · exact .inl E
         · exact .inr E.1
    · subst cP;have f1:(O==O)=true:=by simp
      have f3:O<=O:=Int.le_refl _;cases sm
      · have a5:Hid (putX d (l,s) O ⟨f,lv,b⟩=30):=by unfold Hid;rw [ay.o,decide_eq_true rfl];unfold aL;simp
        have a7:Hid (putC d (l,s) O ⟨f,lv,b⟩=(d,30)):=by unfold Hid;rw [c1.o,if_neg (by rw [a5.o];decide),a5.o]
        go_wp2_with fail
        refine Wb w1 999 ?_;refine Qd [0,1,2,3,4,5,6,7,8,9,10,11,12,13] b9 ao ?_;refine dN ?_;go_wp2_with fail
        have a9:Bw w1 L.drew.drew:=au.drew.drew;refine Wb w1 999 ?_;refine Qd [0,1,2,3,4,5,6,7,8,9,10] a9 ao ?_;refine dN ?_;go_wp2_with fail
        go_ret;rw [a7.o];exact ⟨rfl,F,⟨_,_,_,_,D.o.below au.o.drew.drew⟩,ag.of_below (bc.o.trans (au.o.drew.drew.mono (by have:=bk.o;have:=aC.o;omega)))⟩
      · have a5:Hid (putX d (l,s) O ⟨f,lv,b⟩=22):=by unfold Hid;rw [ay.o,decide_eq_true rfl];rfl
        have a7:Hid (putC d (l,s) O ⟨f,lv,b⟩=(d,22)):=by unfold Hid;rw [c1.o,if_neg (by rw [a5.o];decide),a5.o]
        go_wp2_with fail
        refine Wb w1 999 ?_;refine Qd [0,1,2,3,4,5,6,7,8,9,10,11,12,13] b9 ao ?_;refine dN ?_;go_wp2_with fail
        go_ret;rw [a7.o];exact ⟨rfl,F,⟨_,_,_,_,D.o.below au.o.drew⟩,ag.of_below (bc.o.trans (au.o.drew.mono (by have:=bk.o;have:=aC.o;omega)))⟩
    · have a5:Hid (putX d (l,s) n ⟨f,lv,b⟩=30):=by unfold Hid;rw [ay.o,decide_eq_false (show O≠n by omega)];unfold aL;simp;omega
      have a7:Hid (putC d (l,s) n ⟨f,lv,b⟩=(d,30)):=by unfold Hid;rw [c1.o,if_neg (by rw [a5.o];decide),a5.o]
      have f1:(O==n)=false:=by simp;omega
      have f2:¬(O=n):=by omega
      have f3:n<=O:=by omega
      clear cP;go_wp2_with fail
      refine Wb w1 999 ?_;refine Qd [0,1,2,3,4,5,6,7,8,9,10,11] b9 ao ?_;refine tfS 12 rfl b9 ?_;(try go_simp)
      refine Qc [13] b9 ?_
      refine dN ?_;go_wp2_with fail
      have a9:Bw w1 L.drew.drew:=au.drew.drew;refine Wb w1 999 ?_;refine Qd [0,1,2,3,4,5,6,7,8,9,10] a9 ao ?_;refine dN ?_;go_wp2_with fail
      go_ret;rw [a7.o];exact ⟨rfl,F,⟨_,_,_,_,D.o.below au.o.drew.drew⟩,ag.of_below (bc.o.trans (au.o.drew.drew.mono (by have:=bk.o;have:=aC.o;omega)))⟩
   |none=>
    have al:=Z (oQ aK h.sx hf ((n,(⟨f,lv,b⟩:az)),a1 A b.length C));rw [hf] at cc;have ay:Hid (putX d (l,s) n ⟨f,lv,b⟩=if 5000<=d.vs.length then 2 else 0):=by unfold Hid putX;rw [cc];show aL false _ _ _ _=_;unfold aL;simp
    rw [<- g4.o] at ay;rw [hf] at bb;obtain ⟨q,ce⟩:=Qe (placeK ltRK t (l,s));rw [ce] at bb d0 al;obtain ⟨N,hN⟩:=Qe t.length;rw [hN] at f5 d0 ay;have HN:=Z hN;obtain ⟨va,vc,hv⟩:=aM h.vs;rw [hN] at hv;subst hv;have b1:Hid (∀W,Bw w1 W->W.cell? ⟨p,0,Y⟩=X (a1 va N vc)):=λW H=>(aa ((H.block _ (D.lt p D.fp)).trans D.blk) 0).trans rfl;have ao:=Z (λW H=>(⟨b1 W H,c0 W H⟩:_/\_));have d4:Hid (∀q∈t,q.2.2.oneCell'=true):=λq M=>by obtain ⟨_,_,cd,_⟩:=D.fx q M;exact sT cd
    clear ce hN hf h cc;by_cases h5:5000<=N
    · have a5:Hid (putX d (l,s) n ⟨f,lv,b⟩=2):=by unfold Hid;rw [ay.o,if_pos h5]
      have a7:Hid (putC d (l,s) n ⟨f,lv,b⟩=(d,2)):=by unfold Hid;rw [c1.o,if_neg (by rw [a5.o];decide),a5.o]
      have g6:(5000:Int)<=(N:Int):=by omega
      go_enter func46,ntmps46
      go_wp2_with (first
       |(go_at_call 85;((with_reducible refine hW bt.o ?_);rintro e w2 ⟨rfl,a6⟩;obtain ⟨t0,t1,t2,t3,t4,t5⟩:=c0.o w2 a6;have a4:=Z a6;clear a6))
       |(go_at_call 86;((with_reducible refine hW (bb.o _ a4.o) ?_);rintro e w3 ⟨rfl,ax⟩;have a0:Hid (Bw w1 w3):=a4.o.trans (ax.mono a4.o.size);have s0:=b1.o w3 a0.o;clear ax t0 t1 t2 t3 t4 t5)))
      go_ret;rw [a7.o];exact ⟨rfl,F,⟨_,_,_,_,D.o.below a0.o⟩,ag.of_below (bc.o.trans (a0.o.mono (by have:=bk.o;have:=aC.o;omega)))⟩
    · have a5:Hid (putX d (l,s) n ⟨f,lv,b⟩=0):=by unfold Hid;rw [ay.o,if_neg h5]
      have a7:Hid (putC d (l,s) n ⟨f,lv,b⟩=({d with vs:=insL ltRK d.vs (l,s) (n,⟨f,lv,b⟩)},0)):=by unfold Hid;rw [c1.o,if_pos a5.o]
      have g6:¬((5000:Int)<=(N:Int)):=by omega
      have gx:(q:Int)<=(N:Int):=by omega
      obtain ⟨i0,hi,f7,f8,f9⟩:=info_parts Bu;have HI:=Z hi;have c2:=Z f7;have c3:=Z f8;have c7:=Z f9;clear hi f7 f8 f9;rcases D.vs.2 with ⟨hv,f6⟩|⟨g,gi,gn,hv,_,_,ex,_⟩
      · injection hv with e1 e2 e3
        subst e1 e3;rw [HN.o] at f6;subst f6;obtain rfl:q=0:=by omega
        have e7:Hid (∀W,Bw w1 W->aF 0 w1.heap.size W (a1 Y 0 0) 0 ((t.drop 0).flatMap verCells)):=λW H=>by have:t=[]:=iN HN.o;rw [this];exact ⟨Y,0,rfl,λh=>absurd rfl h⟩
        have e8:Hid (∀W,Bw w1 W->aF 0 w1.heap.size W (a1 Y 0 0) 0 ((t.take 0).flatMap verCells)):=λW H=>⟨Y,0,rfl,λh=>absurd rfl h⟩;clear e2;have e5:Hid (((t.take 0).flatMap verCells).length=0 * 6):=by unfold Hid;rw [bL verCells 6 (λ_=>rfl),hT,HN.o,iD (by omega)]
        have cm:Hid (((t.drop 0).flatMap verCells).length=(0) * 6):=by unfold Hid;rw [bL verCells 6 (λ_=>rfl),hV,HN.o]
        have ds:Hid (([J U l,J U s,J U n,J hK f.toNat,J hK lv.toNat,a1 A b.length C]++(t.drop 0).flatMap verCells:List iS).length=(1+(0)) * 6):=by unfold Hid;rw [hS,cm.o];show 6+_=_;omega
        have dk:Hid ((insL ltRK t (l,s) ((n,(⟨f,lv,b⟩:az)),a1 A b.length C)).flatMap verCells=([]++(t.take 0).flatMap verCells)++([J U l,J U s,J U n,J hK f.toNat,J hK lv.toNat,a1 A b.length C]++(t.drop 0).flatMap verCells)):=by unfold Hid;rw [al.o,hZ,hP];rfl
        have dr:Hid ((insL ltRK t (l,s) ((n,(⟨f,lv,b⟩:az)),a1 A b.length C)).length=0+(1+(0))):=by unfold Hid;rw [al.o,hS,it,hT,hV,HN.o];omega
        have e0:Hid (∀u∈(t.take 0).flatMap verCells,u.oneCell'=true):=iK _ λq M=>d4 q (iP M);have cq:Hid (∀u∈(t.drop 0).flatMap verCells,u.oneCell'=true):=iK _ λq M=>d4 q (iQ M);have e4:Hid (∀u∈[J U l,J U s,J U n,J hK f.toNat,J hK lv.toNat,a1 A b.length C]++(t.drop 0).flatMap verCells,u.oneCell'=true):=λu hu=>by
         rcases List.mem_append.1 hu with hu|hu
         · simp only [ia,hY,or_false] at hu;rcases hu with rfl|rfl|rfl|rfl|rfl|rfl<;>rfl
         · exact cq u hu
        have dx:Hid (∀y∈insL ltRK t (l,s) ((n,(⟨f,lv,b⟩:az)),a1 A b.length C),y∈t∨y=((l,s),((n,(⟨f,lv,b⟩:az)),a1 A b.length C))):=λy I=>by
         rw [al.o] at I;rcases List.mem_append.1 I with I|I
         · exact .inl (iP I)
         · rcases List.mem_cons.1 I with I|I
           · exact .inr I
           · exact .inl (iQ I)
        generalize (t.take 0).flatMap verCells=TK at *;generalize (t.drop 0).flatMap verCells=DR at *;go_enter func46,ntmps46
        go_upto_region 15 with (first
         |(go_at_call 85;((with_reducible refine hW bt.o ?_);rintro e w2 ⟨rfl,a6⟩;obtain ⟨t0,t1,t2,t3,t4,t5⟩:=c0.o w2 a6;have a4:=Z a6;clear a6))
         |(go_at_call 86;((with_reducible refine hW (bb.o _ a4.o) ?_);rintro e w3 ⟨rfl,ax⟩;have a0:Hid (Bw w1 w3):=a4.o.trans (ax.mono a4.o.size);have s0:=b1.o w3 a0.o;clear ax t0 t1 t2 t3 t4 t5)))
        clear s0;have bO:Bw w1 w3.drew:=a0.drew;refine Wb w1 999 ?_;refine Qd [0,2,6,3,4,5] bO ao ?_;refine bT (i:=7) (v:=a1 Y 0 0) rfl (by kernel_rfl) (by kernel_rfl) (by kernel_rfl) (by rfl) (λ_ _ _ h=>h) bO (jb ⟨by rfl,?_⟩) ?_;focus (intro w' h;(first |(go_simp;done)|(go_simp;rfl)))
        (try go_simp)
        refine Dp 1 λK R=>?_;go_simp;obtain ⟨W3,b3⟩:=Qe ((w3.alloc (a2 #[J U l,J U s,J U n,J hK f.toNat,J hK lv.toNat,a1 A b.length C] 64)).drew);have a3:Bw w1 W3:=by rw [<- b3];exact (a0.o.alloc a0.o.size _).drew
        have cz:W3.ownsRow w1.heap.size 64 6 (a1 (X ⟨w3.heap.size,0,Y⟩) 1 1) 1 [J U l,J U s,J U n,J hK f.toNat,J hK lv.toNat,a1 A b.length C]:=by rw [<- b3];exact ih (base:=w1.heap.size) (e:=64) (size:=6) w3 #[J U l,J U s,J U n,J hK f.toNat,J hK lv.toNat,a1 A b.length C] 1 a0.o.size (by unfold maxLen;omega) rfl
        rw [b3];refine R _ _ (λ_=>a3) ?_;clear R K;clear b3;obtain ⟨b4,c4,L,d1,bA,cx,cb⟩:=bh (P:=prog) W3 w1.heap.size 30 30 64 i0 (.agg #[J U 0,J U 0,J U 0,J hK 0,J hK 0,a1 Y 0 0]) 6 56 underlying30 HI.o c2.o c3.o c7.o rfl (by decide) w3.heap.size 1 1 [J U l,J U s,J U n,J hK f.toNat,J hK lv.toNat,a1 A b.length C] cz w1.heap.size (a1 Y 0 0) (0) DR (e7.o W3 a3) cm.o cq.o (by unfold maxLen;omega) (by omega) a3.size;have T:Bw w1 L:=a3.grown cx a3.size (λj ej=>by injection ej with ej;have:=a0.o.size;omega);refine Dp 8 λK R=>?_;refine dQ rfl rfl rfl d1 ?_;refine R _ _ (λ_=>T) ?_;clear R K;go_simp;refine Qc [9] T ?_
        refine dN ?_;have dy:=Z bA;have fz:=Z T;have eg:b4<L.heap.size:=(bA.lt b4 rfl).2;have dd:=Z (df (B:=w1.heap.size) (e:=64) (k:=6) (w:=L.alloc (a2 #[] 64)) (hQ L _) T.size);have b0:Hid (Bw w1 (L.alloc (a2 #[] 64))):=T.alloc T.size _;have cl:Hid (w1.heap.size<=(L.alloc (a2 #[] 64)).heap.size):=b0.size;have e6:Hid (w1.heap.size<=L.heap.size):=T.size;have s2:(L.alloc (a2 #[] 64)).cell? ⟨p,0,Y⟩=X (a1 Y 0 0):=b1 _ b0.o;clear bA cx cb a3 bO T cz d1
        go_wp2_with (first
         |(at_builtin;refine aB _ rfl _ _ 30 rfl w1.heap.size 64 i0 (.agg #[J U 0,J U 0,J U 0,J hK 0,J hK 0,a1 Y 0 0]) 6 56 underlying30 HI.o c2.o c3.o c7.o rfl (by decide) L.heap.size 0 0 [] rfl dd.o w1.heap.size (a1 Y 0 0) 0 TK rfl (e8.o _ b0.o) e5.o e0.o (by unfold maxLen;omega) (by omega) cl.o ?_;intro b5 c5 w5 bB bw _;have cs:Hid (Bw w1 w5):=b0.o.grown bw cl.o (λj ej=>by injection ej with ej;have:=e6.o;omega);rw [iv] at bB;have cp:=Z bB;have e9:Hid (w5.ownsRow w1.heap.size 64 6 (a1 (X ⟨b4,0,Y⟩) (1+(0)) c4) (1+(0)) ([J U l,J U s,J U n,J hK f.toNat,J hK lv.toNat,a1 A b.length C]++DR)):=ah dy.o (λg' G=>by have G:X b4=X g':=G;injection G with G;subst G;rw [bw.block _ (by simp;omega) (λe=>by injection e with e;omega)];exact ib _ _ _ eg);have cu:Hid (w1.heap.size<=w5.heap.size):=cs.o.size;clear bB bw)
         |(at_builtin;refine aB _ rfl _ _ 30 rfl w1.heap.size 64 i0 (.agg #[J U 0,J U 0,J U 0,J hK 0,J hK 0,a1 Y 0 0]) 6 56 underlying30 HI.o c2.o c3.o c7.o rfl (by decide) b5 0 c5 ([]++TK) rfl cp.o w5.heap.size (a1 (X ⟨b4,0,Y⟩) (1+(0)) c4) (1+(0)) ([J U l,J U s,J U n,J hK f.toNat,J hK lv.toNat,a1 A b.length C]++DR) rfl ((bf e9.o).mono (hX _) (hR _)) ds.o e4.o (by unfold maxLen;omega) (by omega) cu.o ?_;intro b6 c6 w6 cQ cy _;have a9:Bw w1 w6:=cs.o.grown cy cu.o (λj ej=>by injection ej with ej;subst ej;exact (cp.o.lt _ rfl).1);have av:=Z cQ;have b8:=(a9.block p (D.o.lt p D.o.fp)).trans D.o.blk;have y1:=(aa b8 0).trans rfl;have z1:=ab b8 0;have fy:=Z b8;have b2:=Z a9;clear cQ cy b8 a9))
        go_ret;rw [a7.o];refine ⟨rfl,?_⟩;have bv:=D.below b2.o;have fc:=bk.o;have d3:=aC.o;have d7:w1.heap.size<=w6.heap.size:=b2.size;have ad:w6.ownsRow 0 64 6 (a1 (X ⟨b6,0,Y⟩) (0+(1+(0))) c6) (insL ltRK t (l,s) ((n,(⟨f,lv,b⟩:az)),a1 A b.length C)).length ((insL ltRK t (l,s) ((n,(⟨f,lv,b⟩:az)),a1 A b.length C)).flatMap verCells):=by rw [dk.o,dr.o];exact bu av.o (hX _)
        have em:=av.lt b6 rfl;have gb:=ac p D.fp;have b7:b6≠p:=λe=>by omega
        refine ⟨λk=>F k∨(w0.heap.size<=k/\k<w6.heap.size),⟨a1 (X ⟨b6,0,Y⟩) (0+(1+(0))) c6,v2,v3,insL ltRK t (l,s) ((n,(⟨f,lv,b⟩:az)),a1 A b.length C),?_⟩,?_⟩
        · rw [<- c9.o];refine bv.put1 (w':=w6.setCell ⟨p,0,Y⟩ _) (vN:=a1 (X ⟨b6,0,Y⟩) (0+(1+(0))) c6) (λk E=> .inl E) (λk E=>?_) (λk _ b7 _=>hO _ _ _ _ b7) ((am bv.blk 0 _).trans rfl) (ah ad (λg' G=>by have G:X b6=X g':=G;injection G with G;subst G;exact hO _ _ _ _ b7)) (λg' G=>?_) (by rw [hM];exact hR _) (by rw [c9.o];exact dz.o a5.o) (λy I=>?_)
          · rw [hM];rcases E with E|E
            · exact bv.lt k E
            · exact E.2
          · have G:X b6=X g':=G;injection G with G
            subst G;exact ⟨.inr ⟨by omega,em.2⟩, .inr (λhf=>by have:=ac.o _ hf;omega)⟩
          · rcases dx.o y I with I|rfl
            · exact .inl I
            · refine .inr (si (r:=⟨f,lv,b⟩) ((HX.o.kept (λq _ M=>b2.o.block q (by omega))).kept (λq h1 _=>hO _ _ _ _ (λ(e:q=p)=>by omega))) (by rw [hM];omega) λq h1 h2=>⟨.inr ⟨h1,by omega⟩,λe=>by omega,λe=>by have e:X b6=X q:=e;injection e with e;omega,λe=>by have:=ac.o q (D.o.f2 q e);omega,λe=>by have:=ac.o q (D.o.f3 q e);omega⟩)
        · have H:Bw w0 w6:=bc.o.trans (b2.o.mono (by omega));exact ((ag.of_below H).trans (ag.of_only (ar.setCell (ar.refl p w6) 0 _) D.fp)).more λk E=>by
           rcases E with E|E
           · exact .inl E
           · exact .inr E.1
      · injection hv with e1 e2 e3
        subst e1 e3;have ex:N<=vc:=by rw [<- HN.o];exact ex
        have gt:(q:Int)<=(vc:Int):=by omega
        have gp:(N:Int)<=(vc:Int):=by omega
        clear e2;obtain ⟨ch,er⟩:=Qe ((if vc=q then 0 else q * 6));have fr:Hid (q<N->ch=q * 6):=λh=>by rw [<- er,if_neg (by omega)]
        have e7:Hid (∀W,Bw w1 W->aF 0 w1.heap.size W (a1 (X ⟨g,ch,Y⟩) (N - q) (vc - q)) (N - q) ((t.drop q).flatMap verCells)):=λW H=>by have hr:=(D.below H).vs;rw [HN.o] at hr;exact om (enc:=verCells) (k:=6) (λ_=>rfl) hr (by rw [HN.o]) q d0 fr.o (D.o.vs.lt g rfl).2
        have e8:Hid (∀W,Bw w1 W->aF 0 w1.heap.size W (a1 (X ⟨g,0,Y⟩) q vc) q ((t.take q).flatMap verCells)):=λW H=>by have hr:=(D.below H).vs;rw [HN.o] at hr;exact oo (enc:=verCells) (k:=6) (λ_=>rfl) hr q d0 (D.vs.lt g rfl).2
        have ft:=Z er;clear er;have e5:Hid (((t.take q).flatMap verCells).length=q * 6):=by unfold Hid;rw [bL verCells 6 (λ_=>rfl),hT,HN.o,iD (by omega)]
        have cm:Hid (((t.drop q).flatMap verCells).length=(N - q) * 6):=by unfold Hid;rw [bL verCells 6 (λ_=>rfl),hV,HN.o]
        have ds:Hid (([J U l,J U s,J U n,J hK f.toNat,J hK lv.toNat,a1 A b.length C]++(t.drop q).flatMap verCells:List iS).length=(1+(N - q)) * 6):=by unfold Hid;rw [hS,cm.o];show 6+_=_;omega
        have dk:Hid ((insL ltRK t (l,s) ((n,(⟨f,lv,b⟩:az)),a1 A b.length C)).flatMap verCells=([]++(t.take q).flatMap verCells)++([J U l,J U s,J U n,J hK f.toNat,J hK lv.toNat,a1 A b.length C]++(t.drop q).flatMap verCells)):=by unfold Hid;rw [al.o,hZ,hP];rfl
        have dr:Hid ((insL ltRK t (l,s) ((n,(⟨f,lv,b⟩:az)),a1 A b.length C)).length=q+(1+(N - q))):=by unfold Hid;rw [al.o,hS,it,hT,hV,HN.o];omega
        have e0:Hid (∀u∈(t.take q).flatMap verCells,u.oneCell'=true):=iK _ λq M=>d4 q (iP M);have cq:Hid (∀u∈(t.drop q).flatMap verCells,u.oneCell'=true):=iK _ λq M=>d4 q (iQ M);have e4:Hid (∀u∈[J U l,J U s,J U n,J hK f.toNat,J hK lv.toNat,a1 A b.length C]++(t.drop q).flatMap verCells,u.oneCell'=true):=λu hu=>by
         rcases List.mem_append.1 hu with hu|hu
         · simp only [ia,hY,or_false] at hu;rcases hu with rfl|rfl|rfl|rfl|rfl|rfl<;>rfl
         · exact cq u hu
        have dx:Hid (∀y∈insL ltRK t (l,s) ((n,(⟨f,lv,b⟩:az)),a1 A b.length C),y∈t∨y=((l,s),((n,(⟨f,lv,b⟩:az)),a1 A b.length C))):=λy I=>by
         rw [al.o] at I;rcases List.mem_append.1 I with I|I
         · exact .inl (iP I)
         · rcases List.mem_cons.1 I with I|I
           · exact .inr I
           · exact .inl (iQ I)
        generalize (t.take q).flatMap verCells=TK at *;generalize (t.drop q).flatMap verCells=DR at *;go_enter func46,ntmps46
        go_upto_region 15 with (first
         |(go_at_call 85;((with_reducible refine hW bt.o ?_);rintro e w2 ⟨rfl,a6⟩;obtain ⟨t0,t1,t2,t3,t4,t5⟩:=c0.o w2 a6;have a4:=Z a6;clear a6))
         |(go_at_call 86;((with_reducible refine hW (bb.o _ a4.o) ?_);rintro e w3 ⟨rfl,ax⟩;have a0:Hid (Bw w1 w3):=a4.o.trans (ax.mono a4.o.size);have s0:=b1.o w3 a0.o;clear ax t0 t1 t2 t3 t4 t5)))
        clear s0;have bO:Bw w1 w3.drew:=a0.drew;refine Wb w1 999 ?_;refine Qd [0,2,6,3,4,5] bO ao ?_;refine bT (i:=7) (v:=a1 (X ⟨g,ch,Y⟩) (N - q) (vc - q)) rfl (by kernel_rfl) (by kernel_rfl) (by kernel_rfl) (by rfl) (λ_ _ _ h=>h) bO (jb ⟨by rfl,?_⟩) ?_;focus (intro w' h;go_simp;rw [<- ft.o];(first |rfl|(split<;>simp_all)))
        (try go_simp)
        refine Dp 1 λK R=>?_;go_simp;obtain ⟨W3,b3⟩:=Qe ((w3.alloc (a2 #[J U l,J U s,J U n,J hK f.toNat,J hK lv.toNat,a1 A b.length C] 64)).drew);have a3:Bw w1 W3:=by rw [<- b3];exact (a0.o.alloc a0.o.size _).drew
        have cz:W3.ownsRow w1.heap.size 64 6 (a1 (X ⟨w3.heap.size,0,Y⟩) 1 1) 1 [J U l,J U s,J U n,J hK f.toNat,J hK lv.toNat,a1 A b.length C]:=by rw [<- b3];exact ih (base:=w1.heap.size) (e:=64) (size:=6) w3 #[J U l,J U s,J U n,J hK f.toNat,J hK lv.toNat,a1 A b.length C] 1 a0.o.size (by unfold maxLen;omega) rfl
        rw [b3];refine R _ _ (λ_=>a3) ?_;clear R K;clear b3;obtain ⟨b4,c4,L,d1,bA,cx,cb⟩:=bh (P:=prog) W3 w1.heap.size 30 30 64 i0 (.agg #[J U 0,J U 0,J U 0,J hK 0,J hK 0,a1 Y 0 0]) 6 56 underlying30 HI.o c2.o c3.o c7.o rfl (by decide) w3.heap.size 1 1 [J U l,J U s,J U n,J hK f.toNat,J hK lv.toNat,a1 A b.length C] cz w1.heap.size (a1 (X ⟨g,ch,Y⟩) (N - q) (vc - q)) (N - q) DR (e7.o W3 a3) cm.o cq.o (by unfold maxLen;omega) (by omega) a3.size;have T:Bw w1 L:=a3.grown cx a3.size (λj ej=>by injection ej with ej;have:=a0.o.size;omega);refine Dp 8 λK R=>?_;refine dQ rfl rfl rfl d1 ?_;refine R _ _ (λ_=>T) ?_;clear R K;go_simp;refine Qc [9] T ?_
        refine dN ?_;have dy:=Z bA;have fz:=Z T;have eg:b4<L.heap.size:=(bA.lt b4 rfl).2;have dd:=Z (df (B:=w1.heap.size) (e:=64) (k:=6) (w:=L.alloc (a2 #[] 64)) (hQ L _) T.size);have b0:Hid (Bw w1 (L.alloc (a2 #[] 64))):=T.alloc T.size _;have cl:Hid (w1.heap.size<=(L.alloc (a2 #[] 64)).heap.size):=b0.size;have e6:Hid (w1.heap.size<=L.heap.size):=T.size;have s2:(L.alloc (a2 #[] 64)).cell? ⟨p,0,Y⟩=X (a1 (X ⟨g,0,Y⟩) N vc):=b1 _ b0.o;clear bA cx cb a3 bO T cz d1
        go_wp2_with (first
         |(at_builtin;refine aB _ rfl _ _ 30 rfl w1.heap.size 64 i0 (.agg #[J U 0,J U 0,J U 0,J hK 0,J hK 0,a1 Y 0 0]) 6 56 underlying30 HI.o c2.o c3.o c7.o rfl (by decide) L.heap.size 0 0 [] rfl dd.o w1.heap.size (a1 (X ⟨g,0,Y⟩) q vc) q TK rfl (e8.o _ b0.o) e5.o e0.o (by unfold maxLen;omega) (by omega) cl.o ?_;intro b5 c5 w5 bB bw _;have cs:Hid (Bw w1 w5):=b0.o.grown bw cl.o (λj ej=>by injection ej with ej;have:=e6.o;omega);rw [iv] at bB;have cp:=Z bB;have e9:Hid (w5.ownsRow w1.heap.size 64 6 (a1 (X ⟨b4,0,Y⟩) (1+(N - q)) c4) (1+(N - q)) ([J U l,J U s,J U n,J hK f.toNat,J hK lv.toNat,a1 A b.length C]++DR)):=ah dy.o (λg' G=>by have G:X b4=X g':=G;injection G with G;subst G;rw [bw.block _ (by simp;omega) (λe=>by injection e with e;omega)];exact ib _ _ _ eg);have cu:Hid (w1.heap.size<=w5.heap.size):=cs.o.size;clear bB bw)
         |(at_builtin;refine aB _ rfl _ _ 30 rfl w1.heap.size 64 i0 (.agg #[J U 0,J U 0,J U 0,J hK 0,J hK 0,a1 Y 0 0]) 6 56 underlying30 HI.o c2.o c3.o c7.o rfl (by decide) b5 q c5 ([]++TK) rfl cp.o w5.heap.size (a1 (X ⟨b4,0,Y⟩) (1+(N - q)) c4) (1+(N - q)) ([J U l,J U s,J U n,J hK f.toNat,J hK lv.toNat,a1 A b.length C]++DR) rfl ((bf e9.o).mono (hX _) (hR _)) ds.o e4.o (by unfold maxLen;omega) (by omega) cu.o ?_;intro b6 c6 w6 cQ cy _;have a9:Bw w1 w6:=cs.o.grown cy cu.o (λj ej=>by injection ej with ej;subst ej;exact (cp.o.lt _ rfl).1);have av:=Z cQ;have b8:=(a9.block p (D.o.lt p D.o.fp)).trans D.o.blk;have y1:=(aa b8 0).trans rfl;have z1:=ab b8 0;have fy:=Z b8;have b2:=Z a9;clear cQ cy b8 a9))
        go_ret;rw [a7.o];refine ⟨rfl,?_⟩;have bv:=D.below b2.o;have fc:=bk.o;have d3:=aC.o;have d7:w1.heap.size<=w6.heap.size:=b2.size;have ad:w6.ownsRow 0 64 6 (a1 (X ⟨b6,0,Y⟩) (q+(1+(N - q))) c6) (insL ltRK t (l,s) ((n,(⟨f,lv,b⟩:az)),a1 A b.length C)).length ((insL ltRK t (l,s) ((n,(⟨f,lv,b⟩:az)),a1 A b.length C)).flatMap verCells):=by rw [dk.o,dr.o];exact bu av.o (hX _)
        have em:=av.lt b6 rfl;have gb:=ac p D.fp;have b7:b6≠p:=λe=>by omega
        refine ⟨λk=>F k∨(w0.heap.size<=k/\k<w6.heap.size),⟨a1 (X ⟨b6,0,Y⟩) (q+(1+(N - q))) c6,v2,v3,insL ltRK t (l,s) ((n,(⟨f,lv,b⟩:az)),a1 A b.length C),?_⟩,?_⟩
        · rw [<- c9.o];refine bv.put1 (w':=w6.setCell ⟨p,0,Y⟩ _) (vN:=a1 (X ⟨b6,0,Y⟩) (q+(1+(N - q))) c6) (λk E=> .inl E) (λk E=>?_) (λk _ b7 _=>hO _ _ _ _ b7) ((am bv.blk 0 _).trans rfl) (ah ad (λg' G=>by have G:X b6=X g':=G;injection G with G;subst G;exact hO _ _ _ _ b7)) (λg' G=>?_) (by rw [hM];exact hR _) (by rw [c9.o];exact dz.o a5.o) (λy I=>?_)
          · rw [hM];rcases E with E|E
            · exact bv.lt k E
            · exact E.2
          · have G:X b6=X g':=G;injection G with G
            subst G;exact ⟨.inr ⟨by omega,em.2⟩, .inr (λhf=>by have:=ac.o _ hf;omega)⟩
          · rcases dx.o y I with I|rfl
            · exact .inl I
            · refine .inr (si (r:=⟨f,lv,b⟩) ((HX.o.kept (λq _ M=>b2.o.block q (by omega))).kept (λq h1 _=>hO _ _ _ _ (λ(e:q=p)=>by omega))) (by rw [hM];omega) λq h1 h2=>⟨.inr ⟨h1,by omega⟩,λe=>by omega,λe=>by have e:X b6=X q:=e;injection e with e;omega,λe=>by have:=ac.o q (D.o.f2 q e);omega,λe=>by have:=ac.o q (D.o.f3 q e);omega⟩)
        · have H:Bw w0 w6:=bc.o.trans (b2.o.mono (by omega));exact ((ag.of_below H).trans (ag.of_only (ar.setCell (ar.refl p w6) 0 _) D.fp)).more λk E=>by
           rcases E with E|E
           · exact .inl E
           · exact .inr E.1
 · have a7:Hid (putC d (l,s) n ⟨f,lv,b⟩=(d,11)):=by unfold Hid putC;rw [if_pos hr]
   rw [decide_eq_false hr] at bt;clear hr;go_enter func46,ntmps46;go_wp2_with (go_at_call 85;((with_reducible refine hW bt.o ?_);rintro e w2 ⟨rfl,a6⟩;have a4:=Z a6;clear a6))
   go_ret;rw [a7.o];exact ⟨rfl,F,⟨_,_,_,_,D.o.below a4.o⟩,ag.of_below (bc.o.trans (a4.o.mono (by have:=bk.o;have:=aC.o;omega)))⟩
theorem Bv:(prog.info? 38).map (λi=>(i.zero,i.size,i.bytes))=X (X (.agg #[J U 0,J U 0,J U 0,J U 0,J U 0,hk false]),6,48):=by kernel_rfl
theorem jg (l:List (PK×(Int×Bool))):∀u∈l.flatMap decCells,u.oneCell'=true:=by
 intro u b;obtain ⟨p,c,b⟩:=List.mem_flatMap.1 b;simp only [decCells,ia,hY,or_false] at b;rcases b with rfl|rfl|rfl|rfl|rfl|rfl<;>rfl
theorem zL {W:i1} {g N c:Nat} {b:List (PK×(Int×Bool))} (h:W.ownsRow 0 38 6 (a1 (X ⟨g,0,Y⟩) N c) N (b.flatMap decCells)) (i:b.length=N) (q:Nat) (e:q<N) (y:PK×(Int×Bool)):
 ((((((W.setCell ⟨g,q * 6,Y⟩ (J U y.1.1.1)).setCell ⟨g,q * 6+1,Y⟩ (J U y.1.1.2)).setCell ⟨g,q * 6+2,Y⟩ (J U y.1.2.1)).setCell ⟨g,q * 6+3,Y⟩ (J U y.1.2.2)).setCell ⟨g,q * 6+4,Y⟩ (J U y.2.1)).setCell ⟨g,q * 6+5,Y⟩ (hk y.2.2)).ownsRow 0 38 6 (a1 (X ⟨g,0,Y⟩) N c) N ((b.set q y).flatMap decCells)/\
   ar g W ((((((W.setCell ⟨g,q * 6,Y⟩ (J U y.1.1.1)).setCell ⟨g,q * 6+1,Y⟩ (J U y.1.1.2)).setCell ⟨g,q * 6+2,Y⟩ (J U y.1.2.1)).setCell ⟨g,q * 6+3,Y⟩ (J U y.1.2.2)).setCell ⟨g,q * 6+4,Y⟩ (J U y.2.1)).setCell ⟨g,q * 6+5,Y⟩ (hk y.2.2)):=by
 have d:(b.flatMap decCells).length=N * 6:=h.1;have f:(q+1) * 6<=N * 6:=i4 6 e;have:=cT (decCells y) (q * 6) W _ h (by rw [d];show q * 6+6<=_;omega);rw [show q * 6+(decCells y).length=q * 6+6 from rfl,nm decCells 6 (λ_=>rfl) b q (by omega) y] at this;exact this
theorem xp (b c g h A f d k l B:Int) (i j:Bool) (w:i1):i8 prog 137 #[.agg #[J U b,J U c,J U g,J U h,J U A,hk i], .agg #[J U f,J U d,J U k,J U l,J U B,hk j]] w λe w'=>e=hb (hk (ltPK ((b,c),g,h) ((f,d),k,l)))/\Bw w w':=by
 have t:Hid (∀W,i8 prog 25 #[.agg #[J U b,J U c], .agg #[J U f,J U d]] W λe w'=>e=hb (hk (ltRK (b,c) (f,d)))/\Bw W w'):=λW=>i7 (b,c) (f,d) W;have v:Hid (∀W,i8 prog 25 #[.agg #[J U g,J U h], .agg #[J U k,J U l]] W λe w'=>e=hb (hk (ltRK (g,h) (k,l)))/\Bw W w'):=λW=>i7 (g,h) (k,l) W;have p:Hid (ltPK ((b,c),g,h) ((f,d),k,l)=if (b,c)=(f,d) then ltRK (g,h) (k,l) else ltRK (b,c) (f,d)):=rfl;generalize ltRK (b,c) (f,d)=x at *;generalize ltRK (g,h) (k,l)=y at *;generalize ltPK ((b,c),g,h) ((f,d),k,l)=z at *;have n:Hid (∀o s,Bw w ((w.alloc o).alloc s)):=λo s=>((iF _ w).alloc (hR _) o).alloc (by simp) s;by_cases h1:b=f
 · subst h1;by_cases h2:c=d
   · subst h2;rw [if_pos rfl] at p;go_enter func137,ntmps137;go_wp2_with (first |(go_at_call 25;((with_reducible refine hW (v.o _) ?_);rintro e u ⟨rfl,m⟩;have q:=Z m;clear m)))
     go_ret;exact ⟨by rw [p.o];rfl,(n.o _ _).trans (q.o.mono (n.o _ _).size)⟩
   · have r:¬((b,c)=(b,d)):=λe=>h2 (by injection e);rw [if_neg r] at p;have C:(c !=d)=true:=by simp [h2]
     go_enter func137,ntmps137;go_wp2_with (first |(go_at_call 25;((with_reducible refine hW (t.o _) ?_);rintro e u ⟨rfl,m⟩;have q:=Z m;clear m)))
     go_ret;exact ⟨by rw [p.o];rfl,(n.o _ _).trans (q.o.mono (n.o _ _).size)⟩
 · have r:¬((b,c)=(f,d)):=λe=>h1 (by injection e);rw [if_neg r] at p;have C:(b !=f)=true:=by simp [h1]
   go_enter func137,ntmps137;go_wp2_with (first |(go_at_call 25;((with_reducible refine hW (t.o _) ?_);rintro e u ⟨rfl,m⟩;have q:=Z m;clear m)))
   go_ret;exact ⟨by rw [p.o];rfl,(n.o _ _).trans (q.o.mono (n.o _ _).size)⟩
theorem ns (F:Nat->Prop) (w:i1) (p:Nat) (d:aq) (h:ci F w p d) (a b:RK) (n:Int) (j:Bool) (ha:rkOk a) (y:rkOk b) (hn:i64B n):
 i8 prog 82 #[fn (X ⟨p,0,Y⟩),recK a,recK b,J U n,hk j] w λe w'=>e=hb (J U (decideC d a b n j).2)/\∃F',ci F' w' p (decideC d a b n j).1/\ag F w F' w':=by
 obtain ⟨v1,v2,v3,xs,h⟩:=h;have d6:=Z h.lt;have b3:=Z h;have f5:Hid (∀o o',Bw w ((w.alloc o).alloc o')):=λo o'=>((iF _ w).alloc (hR _) o).alloc (by simp) o';by_cases hab:a=b
 · subst hab;have a6:Hid (decideC d a a n j=(d,1)):=by unfold Hid decideC;rw [if_pos rfl]
   obtain ⟨G,H⟩:=a;clear h;unfold recK;dsimp only;go_enter func82,ntmps82;go_wp2_with fail
   go_ret;rw [a6.o];exact ⟨rfl,F,⟨_,_,_,_,b3.below (f5 _ _)⟩,ag.of_below (f5 _ _)⟩
 · have d7:Hid (dZ d (pairK a b) n j=0->aZ {d with ps:=insL ltPK d.ps (pairK a b) (n,j)}):=λhx=>h.ok.decide hab ha y hn hx;have b8:=Z (jI d a b n j hab);obtain ⟨G,H⟩:=a;obtain ⟨I,L⟩:=b;have d8:Hid (pairK (G,H) (I,L)=if ltRK (I,L) (G,H) then ((I,L),(G,H)) else ((G,H),(I,L))):=rfl;have fs:Hid (∀W,i8 prog 25 #[.agg #[J U I,J U L], .agg #[J U G,J U H]] W λe w'=>e=hb (hk (ltRK (I,L) (G,H)))/\Bw W w'):=λW=>i7 (I,L) (G,H) W;generalize ltRK (I,L) (G,H)=lt at *;obtain ⟨⟨⟨r,s⟩,p3,x⟩,hp⟩:∃P,pairK (G,H) (I,L)=P:=⟨_,rfl⟩;rw [hp] at d7 b8 d8;clear hp ha y;have fr:=q36 G H I L;rw [decide_eq_false hab] at fr;obtain ⟨M,cd⟩:=Qe ((w.alloc (a2 #[J U G,J U H] 36)).alloc (a2 #[J U I,J U L] 36));have g0:Bw w M:=by rw [<- cd];exact f5.o _ _
   have g8:M.heap.size=w.heap.size+2:=by rw [<- cd];simp
   have hA:M.heap[w.heap.size]? =X (a2 #[J U G,J U H] 36 (0,0)):=by rw [<- cd,ib _ _ _ (by simp)];exact hQ w _
   have hB:M.heap[w.heap.size+1]? =X (a2 #[J U I,J U L] 36 (0,0)):=by have:=hQ (w.alloc (a2 #[J U G,J U H] 36)) (a2 #[J U I,J U L] 36);rw [World.size_alloc,cd] at this;exact this
   have HA:=Z hA;have b7:=Z hB;have ds:=Z g0;have bc:=Z g8;have HW:=Z cd;clear hA hB g0 g8 cd hab h;unfold recK;dsimp only;go_enter func82,ntmps82;go_upto_region 3 with fail
   rw [HW.o];have c0:M.cell? ⟨w.heap.size,0,Y⟩=X (J U G):=(aa HA.o 0).trans rfl;have c1:M.cell? ⟨w.heap.size,1,Y⟩=X (J U H):=(aa HA.o 1).trans rfl;have c2:M.cell? ⟨w.heap.size+1,0,Y⟩=X (J U I):=(aa b7.o 0).trans rfl;have c3:M.cell? ⟨w.heap.size+1,1,Y⟩=X (J U L):=(aa b7.o 1).trans rfl;have gx:=Z fr;clear fr;go_upto_region 4 with fail
   obtain ⟨W3,a8⟩:=Qe (M.alloc (a2 #[J U G,J U H,J U I,J U L,J U n,hk j] 38));have cz:Bw M W3:=by rw [<- a8];exact (iF _ M).alloc (hR _) _
   have da:W3.heap[M.heap.size]? =X (a2 #[J U G,J U H,J U I,J U L,J U n,hk j] 38 (0,0)):=by rw [<- a8];exact hQ M _
   rw [a8];have au:=Z cz;have gb:=Z da
   have e0:Hid (∀W,Bw W3 W->(W.cell? ⟨w.heap.size,0,Y⟩=X (J U G)/\W.cell? ⟨w.heap.size,1,Y⟩=X (J U H))/\(W.cell? ⟨w.heap.size+1,0,Y⟩=X (J U I)/\W.cell? ⟨w.heap.size+1,1,Y⟩=X (J U L))/\W.heap[M.heap.size]? =X (a2 #[J U G,J U H,J U I,J U L,J U n,hk j] 38 (0,0))):=λW y=>
    have dd:Bw M W:=au.trans (y.mono au.size)
    ⟨⟨(aa ((dd.block _ (ae HA.o)).trans HA.o) 0).trans rfl,(aa ((dd.block _ (ae HA.o)).trans HA.o) 1).trans rfl⟩,⟨(aa ((dd.block _ (ae b7.o)).trans b7.o) 0).trans rfl,(aa ((dd.block _ (ae b7.o)).trans b7.o) 1).trans rfl⟩,(y.block _ (ae da)).trans da⟩
   clear cz da a8 c0 c1 c2 c3;obtain ⟨⟨c0,c1⟩,⟨c2,c3⟩,_⟩:=e0 W3 (iF _ _);go_upto_if 24 with (go_at_call 25;((with_reducible refine hW (fs.o _) ?_);rintro e T ⟨rfl,cb⟩;have dy:=Z cb;clear cb))
   clear c0 c1 c2 c3;go_cut [] (λwx=>Hid (Bw w wx/\wx.heap[M.heap.size]? =X (a2 #[J U r,J U s,J U p3,J U x,J U n,hk j] 38 (0,0))))
   case first=>
    have dc:Bw w T:=ds.trans ((au.trans (dy.mono au.size)).mono ds.size);obtain ⟨⟨c0,c1⟩,⟨c2,c3⟩,c4⟩:=e0 T dy.o;cases lt
    · have HP:=d8.o;simp only [Bool.false_eq_true,if_false,Prod.mk.injEq] at HP;obtain ⟨⟨rfl,rfl⟩,rfl,rfl⟩:=HP;have dz:=Z c4;have dx:=Z dc;clear c4 dc;go_wp2_with fail
      go_meet;exact ⟨dx.o,dz.o⟩
    · have HP:=d8.o;simp only [if_true,Prod.mk.injEq] at HP;obtain ⟨⟨rfl,rfl⟩,rfl,rfl⟩:=HP;have z0:=ab c4 0;have z1:=ab c4 1;have z2:=ab c4 2;have z3:=ab c4 3;have y0:=(aa c4 0).trans rfl;have y1:=(aa c4 1).trans rfl;have y2:=(aa c4 2).trans rfl;have y3:=(aa c4 3).trans rfl;have dz:=Z c4;have dx:=Z dc;have hw:¬(M.heap.size=w.heap.size):=by have:=bc.o;omega
      have hy:¬(M.heap.size=w.heap.size+1):=by have:=bc.o;omega
      have hC:¬(w.heap.size=M.heap.size):=by have:=bc.o;omega
      have hF:¬(w.heap.size+1=M.heap.size):=by have:=bc.o;omega
      clear c4 dc;go_wp2_with fail
      go_meet;refine ⟨?_,(am (am (am (am dz.o 0 _) 1 _) 2 _) 3 _).trans rfl⟩;have hz:=bc.o;exact (((dx.o.setCell (p:=⟨M.heap.size,0,Y⟩) (by simp;omega) _).setCell (p:=⟨M.heap.size,1,Y⟩) (by simp;omega) _).setCell (p:=⟨M.heap.size,2,Y⟩) (by simp;omega) _).setCell (p:=⟨M.heap.size,3,Y⟩) (by simp;omega) _
   case rest=>
    obtain ⟨f9,hD⟩:=hcut;clear au gb e0 b7 HA gx HW fs d8 dy;have C:=Z (b3.below f9);have aT:=Z f9;have HD:=Z hD;generalize hDD:M.heap.size=D at *;have h8:Hid (w.heap.size<=D):=by have:=bc.o;unfold Hid;omega
    clear hDD ds bc f9 hD;generalize wc=W5 at *;have h9:=Z (eH dt b3.ok.ok.ps ((r,s),p3,x));have gp:Hid (∀i (h2:i<d.ps.length),i<placeK ltPK d.ps ((r,s),p3,x)->ltPK d.ps[i].1 ((r,s),p3,x)=true):=λi h2 hi=>lh d.ps _ i hi h2;have gn:Hid (∀h:placeK ltPK d.ps ((r,s),p3,x)<d.ps.length,ltPK d.ps[placeK ltPK d.ps ((r,s),p3,x)].1 ((r,s),p3,x)=false):=λh=>li d.ps _ h;have dr:=gv (lt:=ltPK) d.ps ((r,s),p3,x);have h3:=b3.ok.plen;obtain ⟨va,vc,hv⟩:=aM C.ps;subst hv;obtain ⟨q,hq⟩:=Qe (placeK ltPK d.ps ((r,s),p3,x));rw [hq] at dr;have HQ:=Z hq;obtain ⟨N,hN⟩:=Qe d.ps.length;rw [hN] at h3 dr;have R:=Z hN;have cy:Hid (W5.ownsRow 0 38 6 (a1 va N vc) N (d.ps.flatMap decCells)):=by have:=C.o.ps;rw [hN] at this;exact this
    have av:Hid (∀W,Bw W5 W->W.cell? ⟨p,2,Y⟩=X (a1 va N vc)/\W.cell? ⟨D,0,Y⟩=X (J U r)/\W.cell? ⟨D,1,Y⟩=X (J U s)/\W.cell? ⟨D,2,Y⟩=X (J U p3)/\W.cell? ⟨D,3,Y⟩=X (J U x)/\W.cell? ⟨D,4,Y⟩=X (J U n)/\W.cell? ⟨D,5,Y⟩=X (hk j)):=λW y=>
     ⟨by have:=(aa ((y.block _ (C.o.lt p C.o.fp)).trans C.o.blk) 2).trans rfl;rw [hN] at this;exact this,km ((y.block _ (ae HD.o)).trans HD.o)⟩
    clear hq hN;go_upto_block 0 with fail
    go_cut [12] (λt wx=>t=J U q/\Hid (Bw W5 wx))
    case first=>
     go_wp2_with fail
     go_loopw [12] (λt wr=>∃i:Nat,t=J U i/\i<=q/\Hid (Bw W5 wr)) (λt _=>N - (intOf t).toNat)
     case atStart=>exact ⟨0,rfl,hX _,iF _ _⟩
     case round=>
      obtain ⟨i,rfl,hi,HB⟩:=hrel;have a3:Bw W5 wr.drew:=HB.drew;have h7:=HB.size;by_cases hlt:i<N
      · have cc:i<d.ps.length:=by rw [R.o];exact hlt
        have ac:=cy.o;rw [<- R.o] at ac;obtain ⟨g,c,he,O,hc⟩:=eE (enc:=decCells) (λ_=>rfl) ac i cc;injection he with he1 he2 he3
        subst he1 he3;obtain ⟨e,bt⟩:=Qe (d.ps[i]);rw [bt] at hc;have HI:Hid (i<q->ltPK e.1 ((r,s),p3,x)=true):=λhh=>by rw [<- bt];exact gp.o i cc (by rw [HQ.o];exact hh)
        have ao:Hid (i=q->ltPK e.1 ((r,s),p3,x)=false):=λhh=>by subst hh;have h1:=gn.o (by rw [HQ.o];exact cc);simp only [HQ.o] at h1;rw [<- bt];exact h1
        obtain ⟨⟨⟨e1,e2⟩,e3,e4⟩,e5,e6⟩:=e;have a0:=Z hc
        have HC:Hid (∀W,Bw W5 W->(W.cell? ⟨p,2,Y⟩=X (a1 (X ⟨g,0,Y⟩) N vc)/\W.cell? ⟨D,0,Y⟩=X (J U r)/\W.cell? ⟨D,1,Y⟩=X (J U s)/\W.cell? ⟨D,2,Y⟩=X (J U p3)/\W.cell? ⟨D,3,Y⟩=X (J U x)/\W.cell? ⟨D,4,Y⟩=X (J U n)/\W.cell? ⟨D,5,Y⟩=X (hk j))/\W.cell? ⟨g,i * 6,Y⟩=X (J U e1)/\W.cell? ⟨g,i * 6+1,Y⟩=X (J U e2)/\W.cell? ⟨g,i * 6+2,Y⟩=X (J U e3)/\W.cell? ⟨g,i * 6+3,Y⟩=X (J U e4)/\W.cell? ⟨g,i * 6+4,Y⟩=X (J U e5)/\W.cell? ⟨g,i * 6+5,Y⟩=X (hk e6)):=λW y=>
         ⟨av W y,((aE y).1 g _ O).trans (a0 0 _ rfl),((aE y).1 g _ O).trans (a0 1 _ rfl),((aE y).1 g _ O).trans (a0 2 _ rfl),((aE y).1 g _ O).trans (a0 3 _ rfl),((aE y).1 g _ O).trans (a0 4 _ rfl),((aE y).1 g _ O).trans (a0 5 _ rfl)⟩
        have HL:Hid (∀W,i8 prog 137 #[.agg #[J U e1,J U e2,J U e3,J U e4,J U e5,hk e6], .agg #[J U r,J U s,J U p3,J U x,J U n,hk j]] W λe w'=>e=hb (hk (ltPK ((e1,e2),e3,e4) ((r,s),p3,x)))/\Bw W w'):=λW=>xp e1 e2 e3 e4 e5 r s p3 x n e6 j W;have gP:(i:Int)<(N:Int):=by omega
        dsimp only at HI ao;generalize hltv:ltPK ((e1,e2),e3,e4) ((r,s),p3,x)=bb at *;clear hc hltv bt;go_wp2_with fail
        refine Wb W5 999 ?_;refine Qd [0,1,2,3,4] a3 HC ?_;refine Ds 5 a3 ?_;refine Qd [6,7,8,9,10,11,12,13,14,15] a3 HC ?_;refine Dq 16 λK A=>?_;go_simp;go_at_call 137;refine (HL _).mono ?_;rintro e w3 ⟨rfl,cz⟩;have a5:Bw W5 w3:=a3.trans (cz.mono h7);refine A _ _ (λ_=>a5) ?_;clear A K;refine Qc [17] a5 ?_
        refine dN ?_;have au:=Z a5;clear a5 a3 cz;cases bb
        · have g4:i=q:=by
           rcases j0 i q with h|h
           · have:=HI h;cases this
           · omega
          subst g4;clear HI ao;go_wp2_with fail
          go_meet;exact ⟨rfl,au⟩
        · have g4:i<q:=by
           rcases j0 i q with h|h
           · exact h
           · have:=ao.o (by omega);cases this
          clear HI ao;go_wp2_with fail
          go_roundw
          case rel=>exact ⟨i+1,by go_num,by omega,au⟩
          case measure=>simp [intOf];omega
      · obtain rfl:i=N:=by omega
        obtain rfl:q=i:=by omega
        go_wp2_with fail
        refine Wb W5 999 ?_;refine Qd [0,1,2,3,4] a3 av ?_;refine Ds 5 a3 ?_;refine Qc [6,7] a3 ?_;refine tfS 8 rfl a3 ?_;(try go_simp)
        refine tfS 9 rfl a3 ?_;(try go_simp)
        refine tfS 10 rfl a3 ?_;(try go_simp)
        refine tfS 11 rfl a3 ?_;(try go_simp)
        refine tfS 12 rfl a3 ?_;(try go_simp)
        refine tfS 13 rfl a3 ?_;(try go_simp)
        refine tfS 14 rfl a3 ?_;(try go_simp)
        refine tfS 15 rfl a3 ?_;(try go_simp)
        refine tfS 16 rfl a3 ?_;(try go_simp)
        refine Qc [17] a3 ?_
        refine dN ?_;have au:=Z a3;clear a3;go_wp2_with fail
        go_meet;exact ⟨rfl,au⟩
    case rest=>
     obtain ⟨rfl,d5⟩:=hcut;generalize wc=W6 at *;have hL:=d5.size;have e7:Hid (∀m,findK d.ps ((r,s),p3,x)=X m->dZ d ((r,s),p3,x) n j=aL true (decide (m.1=n)&&decide (m.2=j)) m.1 n d.ps.length):=λm hm=>by unfold dZ;rw [hm];rfl
     cases hf:findK d.ps ((r,s),p3,x) with
     |some m=>
      obtain ⟨n',j'⟩:=m;obtain ⟨fl,he⟩:=kC dt b3.ok.ok.ps hf;have ay:=Z (oP dt b3.ok.ok.ps hf (n,j));have b0:=Z (e7 _ hf);have ac:=cy.o;rw [<- R.o] at ac;obtain ⟨g,c,hv,O,hc⟩:=eE (enc:=decCells) (λ_=>rfl) ac _ fl;injection hv with hv1 hv2 hv3
      subst hv1 hv3;rw [he] at hc;simp only [HQ.o] at hc he ay;have hH:q<N:=by rw [HQ.o,R.o] at fl;exact fl
      have a0:=Z hc;have hG:(q:Int)<(N:Int):=by omega
      have HC:Hid (∀W,Bw W5 W->(W.cell? ⟨p,2,Y⟩=X (a1 (X ⟨g,0,Y⟩) N vc)/\W.cell? ⟨D,0,Y⟩=X (J U r)/\W.cell? ⟨D,1,Y⟩=X (J U s)/\W.cell? ⟨D,2,Y⟩=X (J U p3)/\W.cell? ⟨D,3,Y⟩=X (J U x)/\W.cell? ⟨D,4,Y⟩=X (J U n)/\W.cell? ⟨D,5,Y⟩=X (hk j))/\W.cell? ⟨g,q * 6,Y⟩=X (J U r)/\W.cell? ⟨g,q * 6+1,Y⟩=X (J U s)/\W.cell? ⟨g,q * 6+2,Y⟩=X (J U p3)/\W.cell? ⟨g,q * 6+3,Y⟩=X (J U x)/\W.cell? ⟨g,q * 6+4,Y⟩=X (J U n')/\W.cell? ⟨g,q * 6+5,Y⟩=X (hk j')):=λW y=>
       ⟨av W y,((aE y).1 g _ O).trans (a0 0 _ rfl),((aE y).1 g _ O).trans (a0 1 _ rfl),((aE y).1 g _ O).trans (a0 2 _ rfl),((aE y).1 g _ O).trans (a0 3 _ rfl),((aE y).1 g _ O).trans (a0 4 _ rfl),((aE y).1 g _ O).trans (a0 5 _ rfl)⟩
      clear hc he hf ac e7;go_upto_region 10 with fail
      have l:Bw W5 W6.drew:=d5.drew;refine Wb W5 999 ?_;refine Qd [0,1,2,3,4] l HC ?_;refine Ds 5 l ?_;refine Qd [6,7,8,9,10,11,12,13,14,15,16,17,18,19,20,21,22,23,24,25,26,27,28,29,30,31,32] l HC ?_;refine dN ?_;go_upto_region 11 with fail
      have al:Bw W5 W6.drew.drew:=d5.drew.drew;refine Wb W5 999 ?_;refine Qd [0,1,2,3,4,5,6,7] al HC ?_;obtain ⟨bk,g3⟩:=Qe ((decide (n'=n)&&decide (j'=j)));have cl:=Z g3;clear g3;refine bT (i:=8) (v:=hk bk) rfl (by kernel_rfl) (by kernel_rfl) (by kernel_rfl) (by rfl) (λ_ _ _ h=>h) al (jb ⟨by rfl,?_⟩) ?_;focus (intro w' h;rw [<- cl.o];by_cases g1:n'=n<;>cases j'<;>cases j<;>simp [g1]<;>go_simp<;>rfl)
      (try go_simp)
      refine Qc [9] al ?_
      refine dN ?_;obtain ⟨W7,fx⟩:=Qe W6.drew.drew;rw [fx] at al ⊢;have d9:=Z al;clear fx al l;obtain ⟨⟨h0,t0,t1,t2,t3,t4,t5⟩,s0,s1,s2,s3,s4,s5⟩:=HC W7 d9.o;have es:Hid (∀e,decideC d (G,H) (I,L) n j=(d,e)->(Ending.returned (J U e)=Ending.returned (J U (decideC d (G,H) (I,L) n j).2)/\∃F',ci F' W7 p (decideC d (G,H) (I,L) n j).1/\ag F w F' W7)):=λe he=>by rw [he];exact ⟨rfl,F,⟨_,_,_,_,C.below d9.o⟩,ag.of_below (aT.trans (d9.mono aT.size))⟩
      rcases i6 n' n with d1|d1|d1
      · have a4:Hid (dZ d ((r,s),p3,x) n j=0):=by unfold Hid;rw [b0.o];dsimp only;rw [decide_eq_false (show n'≠n by omega)];unfold aL;simp;omega
        obtain rfl:bk=false:=by rw [<- cl.o,decide_eq_false (show n'≠n by omega)];rfl
        have f3:¬(n<=n'):=by omega
        clear d1;have a6:Hid (decideC d (G,H) (I,L) n j=({d with ps:=insL ltPK d.ps ((r,s),p3,x) (n,j)},0)):=by unfold Hid;rw [b8.o,if_pos a4.o]
        go_upto_region 15 with fail
        have al:Bw W5 W7.drew:=d9.drew;clear h0 t0 t1 t2 t3 t4 t5 s0 s1 s2 s3 s4 s5;refine Wb W5 7 ?_;refine Qb [0,4,5,1,2,3,6] al HC ?_;obtain ⟨W8,fy⟩:=Qe W7.drew;rw [fy] at al ⊢;have cx:=Z al;have aS:=(C.below al).ps;rw [R.o] at aS;have gs:=Z aS;have z0:=aS.frozenAt (q * 6);have z1:=aS.frozenAt (q * 6+1);have z2:=aS.frozenAt (q * 6+2);have z3:=aS.frozenAt (q * 6+3);have z4:=aS.frozenAt (q * 6+4);have z5:=aS.frozenAt (q * 6+5);obtain ⟨_,s0,s1,s2,s3,s4,s5⟩:=HC W8 al;clear fy aS al;refine Dl 7 ?_;obtain ⟨d4,dk⟩:=zL gs.o R.o q (by omega) (((r,s),p3,x),(n,j));rw [<- ay.o] at d4;dsimp only at d4 dk;obtain ⟨W9,fz⟩:=Qe (((((((W8.setCell ⟨g,q * 6,Y⟩ (J U r)).setCell ⟨g,q * 6+1,Y⟩ (J U s)).setCell ⟨g,q * 6+2,Y⟩ (J U p3)).setCell ⟨g,q * 6+3,Y⟩ (J U x)).setCell ⟨g,q * 6+4,Y⟩ (J U n)).setCell ⟨g,q * 6+5,Y⟩ (hk j)));rw [fz] at d4 dk ⊢;have gt:=Z d4;have cq:=Z dk;clear fz d4 dk s0 s1 s2 s3 s4 s5 z0 z1 z2 z3 z4 z5;go_wp2_with fail
        go_ret;rw [a6.o];refine ⟨rfl,F,⟨v1,v2,_,xs,(C.o.below cx.o).put3 (vN:=a1 (X ⟨g,0,Y⟩) N vc) (λ_ h=>h) (λk E=>by rw [cq.o.size];exact (C.o.below cx.o).lt k E) (λk _ _ a9=>cq.o.block k (λe=>a9 (by rw [e,R.o];rfl))) ?_ ?_ (λg' z=>⟨(C.o.below cx.o).f3 g' z, .inl z⟩) (by rw [cq.o.size];exact hR _) (d7.o a4.o)⟩,?_⟩
        · exact (cq.o.block p (Ne.symm (el C.o.ps C.o.blk (by decide) (g:=g) rfl))).trans (by have:=(C.o.below cx.o).blk;rw [R.o] at this;exact this)
        · have gQ:N=(insL ltPK d.ps ((r,s),p3,x) (n,j)).length:=by rw [ay.o,ja,R.o]
          exact gQ ▸ gt.o
        · exact (ag.of_below (aT.trans (cx.mono aT.size))).trans (ag.of_only cq.o (C.f3 g rfl))
      · subst d1;by_cases hj:j'=j
        · subst hj;have a4:Hid (dZ d ((r,s),p3,x) n' j'=22):=by unfold Hid;rw [b0.o];dsimp only;rw [decide_eq_true rfl,decide_eq_true rfl];rfl
          obtain rfl:bk=true:=by rw [<- cl.o,decide_eq_true rfl,decide_eq_true rfl];rfl
          have a6:Hid (decideC d (G,H) (I,L) n' j'=(d,22)):=by unfold Hid;rw [b8.o,if_neg (by rw [a4.o];decide),a4.o]
          go_wp2_with fail
          go_ret;exact ⟨by rw [a6.o];rfl,(es.o 22 a6.o).2⟩
        · have a4:Hid (dZ d ((r,s),p3,x) n' j=30):=by unfold Hid;rw [b0.o];dsimp only;rw [decide_eq_true rfl,decide_eq_false hj];unfold aL;simp
          have a6:Hid (decideC d (G,H) (I,L) n' j=(d,30)):=by unfold Hid;rw [b8.o,if_neg (by rw [a4.o];decide),a4.o]
          obtain rfl:bk=false:=by rw [<- cl.o,decide_eq_false hj,Bool.and_false]
          have f3:n'<=n':=Int.le_refl _;clear hj;go_wp2_with fail
          go_ret;exact ⟨by rw [a6.o];rfl,(es.o 30 a6.o).2⟩
      · have a4:Hid (dZ d ((r,s),p3,x) n j=30):=by unfold Hid;rw [b0.o];dsimp only;rw [decide_eq_false (show n'≠n by omega)];unfold aL;simp;omega
        have a6:Hid (decideC d (G,H) (I,L) n j=(d,30)):=by unfold Hid;rw [b8.o,if_neg (by rw [a4.o];decide),a4.o]
        obtain rfl:bk=false:=by rw [<- cl.o,decide_eq_false (show n'≠n by omega)];rfl
        have f3:n<=n':=by omega
        clear d1;go_wp2_with fail
        go_ret;exact ⟨by rw [a6.o];rfl,(es.o 30 a6.o).2⟩
     |none=>
      have ay:=Z (oQ dt b3.ok.ok.ps hf (n,j));have ft:=Z (qV dt b3.ok.ok.ps hf);have b0:Hid (dZ d ((r,s),p3,x) n j=if 5000<=d.ps.length then 2 else 0):=by unfold Hid dZ;rw [hf];show aL false _ _ _ _=_;unfold aL;simp
      simp only [HQ.o] at ay ft;rw [R.o] at b0;clear hf e7;go_upto_region 10 with fail
      go_cut [81] (λt wx=>t=hk false/\Hid (Bw W5 wx))
      case first=>
       have l:Bw W5 W6.drew:=d5.drew;by_cases hlt:q<N
       · have cc:q<d.ps.length:=by rw [R.o];exact hlt
         have ac:=cy.o;rw [<- R.o] at ac;obtain ⟨g,c,he,O,hc⟩:=eE (enc:=decCells) (λ_=>rfl) ac q cc;injection he with he1 he2 he3
         subst he1 he3;have a9:=ft.o;rw [jn cc] at a9;obtain ⟨e,bt⟩:=Qe (d.ps[q]);rw [bt] at hc a9;obtain ⟨⟨⟨e1,e2⟩,e3,e4⟩,e5,e6⟩:=e;have a0:=Z hc
         have HC:Hid (∀W,Bw W5 W->(W.cell? ⟨p,2,Y⟩=X (a1 (X ⟨g,0,Y⟩) N vc)/\W.cell? ⟨D,0,Y⟩=X (J U r)/\W.cell? ⟨D,1,Y⟩=X (J U s)/\W.cell? ⟨D,2,Y⟩=X (J U p3)/\W.cell? ⟨D,3,Y⟩=X (J U x)/\W.cell? ⟨D,4,Y⟩=X (J U n)/\W.cell? ⟨D,5,Y⟩=X (hk j))/\W.cell? ⟨g,q * 6,Y⟩=X (J U e1)/\W.cell? ⟨g,q * 6+1,Y⟩=X (J U e2)/\W.cell? ⟨g,q * 6+2,Y⟩=X (J U e3)/\W.cell? ⟨g,q * 6+3,Y⟩=X (J U e4)/\W.cell? ⟨g,q * 6+4,Y⟩=X (J U e5)/\W.cell? ⟨g,q * 6+5,Y⟩=X (hk e6)):=λW y=>
          ⟨av W y,((aE y).1 g _ O).trans (a0 0 _ rfl),((aE y).1 g _ O).trans (a0 1 _ rfl),((aE y).1 g _ O).trans (a0 2 _ rfl),((aE y).1 g _ O).trans (a0 3 _ rfl),((aE y).1 g _ O).trans (a0 4 _ rfl),((aE y).1 g _ O).trans (a0 5 _ rfl)⟩
         have gP:(q:Int)<(N:Int):=by omega
         obtain ⟨bA,hA⟩:=Qe ((decide (e1=r)&&decide (e2=s)));obtain ⟨bB,hB⟩:=Qe ((decide (e3=p3)&&decide (e4=x)));have g9:Hid (bA=true->bB=false):=λh=>by
          rw [<- hA,Bool.and_eq_true,decide_eq_true_eq,decide_eq_true_eq] at h;obtain ⟨rfl,rfl⟩:=h;rw [<- hB,Bool.and_eq_false_iff,decide_eq_false_iff_not,decide_eq_false_iff_not];rcases Classical.em (e3=p3) with g1|g1
          · exact .inr λg2=>a9 (by rw [g1,g2];rfl)
          · exact .inl g1
         have HA:=Z hA;have HB:=Z hB;clear hc bt hA hB a9 ac;refine Wb W5 999 ?_;refine Qd [0,1,2,3,4] l HC ?_;refine Ds 5 l ?_;refine Qd [6,7,8,9,10,11,12,13,14,15,16,17] l HC ?_;refine bT (i:=18) (v:=hk bA) rfl (by kernel_rfl) (by kernel_rfl) (by kernel_rfl) (by rfl) (λ_ _ _ h=>h) l (jb ⟨by rfl,?_⟩) ?_;focus (intro w' h;rw [<- HA.o];by_cases g1:e1=r<;>by_cases g2:e2=s<;>simp [g1,g2]<;>go_simp<;>rfl)
         (try go_simp)
         refine Qc [19,20] l ?_;cases bA
         · skip;refine tfS 21 rfl l ?_;(try go_simp)
           refine tfS 22 rfl l ?_;(try go_simp)
           refine tfS 23 rfl l ?_;(try go_simp)
           refine tfS 24 rfl l ?_;(try go_simp)
           refine tfS 25 rfl l ?_;(try go_simp)
           refine tfS 26 rfl l ?_;(try go_simp)
           refine tfS 27 rfl l ?_;(try go_simp)
           refine tfS 28 rfl l ?_;(try go_simp)
           refine tfS 29 rfl l ?_;(try go_simp)
           refine tfS 30 rfl l ?_;(try go_simp)
           refine tfS 31 rfl l ?_;(try go_simp)
           refine Qc [32] l ?_
           refine dN ?_;go_wp2_with fail
           go_meet;exact ⟨rfl,l⟩
         · obtain rfl:=g9 rfl;refine Qd [21,22,23,24,25,26,27,28,29,30] l HC ?_;refine bT (i:=31) (v:=hk false) rfl (by kernel_rfl) (by kernel_rfl) (by kernel_rfl) (by rfl) (λ_ _ _ h=>h) l (jb ⟨by rfl,?_⟩) ?_;focus (intro w' h;rw [<- HB.o];by_cases g1:e3=p3<;>by_cases g2:e4=x<;>simp [g1,g2]<;>go_simp<;>rfl)
           (try go_simp)
           refine Qc [32] l ?_
           refine dN ?_;go_wp2_with fail
           go_meet;exact ⟨rfl,l⟩
       · obtain rfl:q=N:=by omega
         refine Wb W5 999 ?_;refine Qd [0,1,2,3,4] l av ?_;refine Ds 5 l ?_;refine Qc [6,7] l ?_;refine tfS 8 rfl l ?_;(try go_simp)
         refine tfS 9 rfl l ?_;(try go_simp)
         refine tfS 10 rfl l ?_;(try go_simp)
         refine tfS 11 rfl l ?_;(try go_simp)
         refine tfS 12 rfl l ?_;(try go_simp)
         refine tfS 13 rfl l ?_;(try go_simp)
         refine tfS 14 rfl l ?_;(try go_simp)
         refine tfS 15 rfl l ?_;(try go_simp)
         refine tfS 16 rfl l ?_;(try go_simp)
         refine tfS 17 rfl l ?_;(try go_simp)
         refine tfS 18 rfl l ?_;(try go_simp)
         refine Qc [19,20] l ?_;refine tfS 21 rfl l ?_;(try go_simp)
         refine tfS 22 rfl l ?_;(try go_simp)
         refine tfS 23 rfl l ?_;(try go_simp)
         refine tfS 24 rfl l ?_;(try go_simp)
         refine tfS 25 rfl l ?_;(try go_simp)
         refine tfS 26 rfl l ?_;(try go_simp)
         refine tfS 27 rfl l ?_;(try go_simp)
         refine tfS 28 rfl l ?_;(try go_simp)
         refine tfS 29 rfl l ?_;(try go_simp)
         refine tfS 30 rfl l ?_;(try go_simp)
         refine tfS 31 rfl l ?_;(try go_simp)
         refine Qc [32] l ?_
         refine dN ?_;go_wp2_with fail
         go_meet;exact ⟨rfl,l⟩
      case rest=>
       obtain ⟨rfl,ad⟩:=hcut;generalize wc=W7 at *;have HZ:Hid (w.heap.size<=W5.heap.size):=aT.size;obtain ⟨h0,t0,t1,t2,t3,t4,t5⟩:=av W7 ad.o;by_cases h5:5000<=N
       · have a4:Hid (dZ d ((r,s),p3,x) n j=2):=by unfold Hid;rw [b0.o,if_pos h5]
         have a6:Hid (decideC d (G,H) (I,L) n j=(d,2)):=by unfold Hid;rw [b8.o,if_neg (by rw [a4.o];decide),a4.o]
         have gy:(5000:Int)<=(N:Int):=by omega
         go_wp2_with fail
         go_ret;rw [a6.o];exact ⟨rfl,F,⟨_,_,_,_,C.below ad.o⟩,ag.of_below (aT.trans (ad.mono HZ.o))⟩
       · have a4:Hid (dZ d ((r,s),p3,x) n j=0):=by unfold Hid;rw [b0.o,if_neg h5]
         have a6:Hid (decideC d (G,H) (I,L) n j=({d with ps:=insL ltPK d.ps ((r,s),p3,x) (n,j)},0)):=by unfold Hid;rw [b8.o,if_pos a4.o]
         have gy:¬((5000:Int)<=(N:Int)):=by omega
         have hJ:(q:Int)<=(N:Int):=by omega
         obtain ⟨i0,hi,g5,g6,g7⟩:=info_parts Bv;have HI:=Z hi;have c7:=Z g5;have c9:=Z g6;have ao:=Z g7;clear hi g5 g6 g7;rcases cy.2 with ⟨hv,h4⟩|⟨g,hd,hl,hv,ht,_,ho,_⟩
         · injection hv with e1 e2 e3
           subst e1 e3;subst h4;obtain rfl:q=0:=by omega
           have f2:Hid (∀W,Bw W5 W->aF 0 W5.heap.size W (a1 Y 0 0) 0 ((d.ps.drop 0).flatMap decCells)):=λW y=>by have:d.ps=[]:=iN R.o;rw [this];exact ⟨Y,0,rfl,λh=>absurd rfl h⟩
           have f4:Hid (∀W,Bw W5 W->aF 0 W5.heap.size W (a1 Y 0 0) 0 ((d.ps.take 0).flatMap decCells)):=λW y=>⟨Y,0,rfl,λh=>absurd rfl h⟩;clear e2;have f0:Hid (((d.ps.take 0).flatMap decCells).length=0 * 6):=by unfold Hid;rw [bL decCells 6 (λ_=>rfl),hT,R.o,iD (by omega)]
           have ch:Hid (((d.ps.drop 0).flatMap decCells).length=(0) * 6):=by unfold Hid;rw [bL decCells 6 (λ_=>rfl),hV,R.o]
           have eq:Hid (([J U r,J U s,J U p3,J U x,J U n,hk j]++(d.ps.drop 0).flatMap decCells:List iS).length=(1+(0)) * 6):=by unfold Hid;rw [hS,ch.o];show 6+_=_;omega
           have e9:Hid ((insL ltPK d.ps ((r,s),p3,x) (n,j)).flatMap decCells=([]++(d.ps.take 0).flatMap decCells)++([J U r,J U s,J U p3,J U x,J U n,hk j]++(d.ps.drop 0).flatMap decCells)):=by unfold Hid;rw [ay.o,hZ,hP];rfl
           have eg:Hid ((insL ltPK d.ps ((r,s),p3,x) (n,j)).length=0+(1+(0))):=by unfold Hid;rw [ay.o,hS,it,hT,hV,R.o];omega
           have ex:Hid (∀u∈(d.ps.take 0).flatMap decCells,u.oneCell'=true):=jg _;have cs:Hid (∀u∈(d.ps.drop 0).flatMap decCells,u.oneCell'=true):=jg _;have eQ:Hid (∀u∈[J U r,J U s,J U p3,J U x,J U n,hk j]++(d.ps.drop 0).flatMap decCells,u.oneCell'=true):=λu hu=>by
            rcases List.mem_append.1 hu with hu|hu
            · simp only [ia,hY,or_false] at hu;rcases hu with rfl|rfl|rfl|rfl|rfl|rfl<;>rfl
            · exact cs u hu
           generalize (d.ps.take 0).flatMap decCells=TK at *;generalize (d.ps.drop 0).flatMap decCells=DR at *;go_upto_region 19 with fail
           clear h0 t0 t1 t2 t3 t4 t5;have bY:Bw W5 W7.drew:=ad.drew;refine Wb W5 999 ?_;refine Qd [0,2,6,3,4,5] bY av ?_;refine bT (i:=7) (v:=a1 Y 0 0) rfl (by kernel_rfl) (by kernel_rfl) (by kernel_rfl) (by rfl) (λ_ _ _ h=>h) bY (jb ⟨by rfl,?_⟩) ?_;focus (intro w' h;(first |(go_simp;done)|(go_simp;rfl)))
           (try go_simp)
           refine Dp 1 λK A=>?_;go_simp;obtain ⟨W3,a8⟩:=Qe ((W7.alloc (a2 #[J U r,J U s,J U p3,J U x,J U n,hk j] 38)).drew);have a5:Bw W5 W3:=by rw [<- a8];exact (ad.o.alloc ad.o.size _).drew
           have d0:W3.ownsRow W5.heap.size 38 6 (a1 (X ⟨W7.heap.size,0,Y⟩) 1 1) 1 [J U r,J U s,J U p3,J U x,J U n,hk j]:=by rw [<- a8];exact ih (base:=W5.heap.size) (e:=38) (size:=6) W7 #[J U r,J U s,J U p3,J U x,J U n,hk j] 1 ad.o.size (by unfold maxLen;omega) rfl
           rw [a8];refine A _ _ (λ_=>a5) ?_;clear A K;clear a8;obtain ⟨b4,c4,T,d3,bw,cP,cb⟩:=bh (P:=prog) W3 W5.heap.size 32 32 38 i0 (.agg #[J U 0,J U 0,J U 0,J U 0,J U 0,hk false]) 6 48 underlying32 HI.o c7.o c9.o ao.o rfl (by decide) W7.heap.size 1 1 [J U r,J U s,J U p3,J U x,J U n,hk j] d0 W5.heap.size (a1 Y 0 0) (0) DR (f2.o W3 a5) ch.o cs.o (by unfold maxLen;omega) (by omega) a5.size;have a7:Bw W5 T:=a5.grown cP a5.size (λj ej=>by injection ej with ej;have:=ad.o.size;omega);refine Dp 8 λK A=>?_;refine dQ rfl rfl rfl d3 ?_;refine A _ _ (λ_=>a7) ?_;clear A K;go_simp;refine Qc [9] a7 ?_
           refine dN ?_;have er:=Z bw;have gq:=Z a7;have f7:b4<T.heap.size:=(bw.lt b4 rfl).2;have e8:=Z (df (B:=W5.heap.size) (e:=38) (k:=6) (w:=T.alloc (a2 #[] 38)) (hQ T _) a7.size);have ax:Hid (Bw W5 (T.alloc (a2 #[] 38))):=a7.alloc a7.size _;have cg:Hid (W5.heap.size<=(T.alloc (a2 #[] 38)).heap.size):=ax.size;have f1:Hid (W5.heap.size<=T.heap.size):=a7.size;have s2:(T.alloc (a2 #[] 38)).cell? ⟨p,2,Y⟩=X (a1 Y 0 0):=(av _ ax.o).1;clear bw cP cb a5 bY a7 d0 d3
           go_wp2_with (first
            |(at_builtin;refine aB _ rfl _ _ 32 rfl W5.heap.size 38 i0 (.agg #[J U 0,J U 0,J U 0,J U 0,J U 0,hk false]) 6 48 underlying32 HI.o c7.o c9.o ao.o rfl (by decide) T.heap.size 0 0 [] rfl e8.o W5.heap.size (a1 Y 0 0) 0 TK rfl (f4.o _ ax.o) f0.o ex.o (by unfold maxLen;omega) (by omega) cg.o ?_;intro b5 c5 w5 bO bv _;have cu:Hid (Bw W5 w5):=ax.o.grown bv cg.o (λj ej=>by injection ej with ej;have:=f1.o;omega);rw [iv] at bO;have cm:=Z bO;have f6:Hid (w5.ownsRow W5.heap.size 38 6 (a1 (X ⟨b4,0,Y⟩) (1+(0)) c4) (1+(0)) ([J U r,J U s,J U p3,J U x,J U n,hk j]++DR)):=ah er.o (λg' z=>by have z:X b4=X g':=z;injection z with z;subst z;rw [bv.block _ (by simp;omega) (λe=>by injection e with e;omega)];exact ib _ _ _ f7);have cv:Hid (W5.heap.size<=w5.heap.size):=cu.o.size;clear bO bv)
            |(at_builtin;refine aB _ rfl _ _ 32 rfl W5.heap.size 38 i0 (.agg #[J U 0,J U 0,J U 0,J U 0,J U 0,hk false]) 6 48 underlying32 HI.o c7.o c9.o ao.o rfl (by decide) b5 0 c5 ([]++TK) rfl cm.o w5.heap.size (a1 (X ⟨b4,0,Y⟩) (1+(0)) c4) (1+(0)) ([J U r,J U s,J U p3,J U x,J U n,hk j]++DR) rfl ((bf f6.o).mono (hX _) (hR _)) eq.o eQ.o (by unfold maxLen;omega) (by omega) cv.o ?_;intro b6 c6 w6 d2 cQ _;have l:Bw W5 w6:=cu.o.grown cQ cv.o (λj ej=>by injection ej with ej;subst ej;exact (cm.o.lt _ rfl).1);have cp:=Z d2;have aC:=(l.block p (C.o.lt p C.o.fp)).trans C.o.blk;have y1:=(aa aC 2).trans rfl;have z1:=ab aC 2;have gi:=Z aC;have b9:=Z l;clear d2 cQ aC l))
           go_ret;rw [a6.o];refine ⟨rfl,?_⟩;have bs:=C.below b9.o;have gz:=HZ.o;have gO:W5.heap.size<=w6.heap.size:=b9.size;have ac:w6.ownsRow 0 38 6 (a1 (X ⟨b6,0,Y⟩) (0+(1+(0))) c6) (insL ltPK d.ps ((r,s),p3,x) (n,j)).length ((insL ltPK d.ps ((r,s),p3,x) (n,j)).flatMap decCells):=by rw [e9.o,eg.o];exact bu cp.o (hX _)
           have f8:=cp.lt b6 rfl;have h6:=d6 p C.fp;have a9:b6≠p:=λe=>by omega
           refine ⟨λk=>F k∨(w.heap.size<=k/\k<w6.heap.size),⟨v1,v2,a1 (X ⟨b6,0,Y⟩) (0+(1+(0))) c6,xs,bs.put3 (w':=w6.setCell ⟨p,2,Y⟩ _) (vN:=a1 (X ⟨b6,0,Y⟩) (0+(1+(0))) c6) (λk E=> .inl E) (λk E=>?_) (λk _ a9 _=>hO _ _ _ _ a9) ((am bs.blk 2 _).trans rfl) (ah ac (λg' z=>by have z:X b6=X g':=z;injection z with z;subst z;exact hO _ _ _ _ a9)) (λg' z=>?_) (by rw [hM];exact hR _) (d7.o a4.o)⟩,?_⟩
           · rw [hM];rcases E with E|E
             · exact bs.lt k E
             · exact E.2
           · have z:X b6=X g':=z;injection z with z
             subst z;exact ⟨.inr ⟨by omega,f8.2⟩, .inr (λhf=>by have:=d6.o _ hf;omega)⟩
           · have y:Bw w w6:=aT.o.trans (b9.o.mono (by omega));exact ((ag.of_below y).trans (ag.of_only (ar.setCell (ar.refl p w6) 2 _) C.fp)).more λk E=>by
              rcases E with E|E
              · exact .inl E
              · exact .inr E.1
         · injection hv with e1 e2 e3
           subst e1 e3;have hI:(q:Int)<=(vc:Int):=by omega
           have hs:(N:Int)<=(vc:Int):=by omega
           have O:=(cy.lt g rfl).2;clear e2;obtain ⟨ce,fc⟩:=Qe ((if vc=q then 0 else q * 6));have gd:Hid (q<N->ce=q * 6):=λh=>by rw [<- fc,if_neg (by omega)]
           have f2:Hid (∀W,Bw W5 W->aF 0 W5.heap.size W (a1 (X ⟨g,ce,Y⟩) (N - q) (vc - q)) (N - q) ((d.ps.drop q).flatMap decCells)):=λW y=>by have hr:=(C.below y).ps;rw [R.o] at hr;exact om (enc:=decCells) (k:=6) (λ_=>rfl) hr (by rw [R.o]) q dr gd.o O
           have f4:Hid (∀W,Bw W5 W->aF 0 W5.heap.size W (a1 (X ⟨g,0,Y⟩) q vc) q ((d.ps.take q).flatMap decCells)):=λW y=>by have hr:=(C.below y).ps;rw [R.o] at hr;exact oo (enc:=decCells) (k:=6) (λ_=>rfl) hr q dr O
           have gf:=Z fc;clear fc;have f0:Hid (((d.ps.take q).flatMap decCells).length=q * 6):=by unfold Hid;rw [bL decCells 6 (λ_=>rfl),hT,R.o,iD (by omega)]
           have ch:Hid (((d.ps.drop q).flatMap decCells).length=(N - q) * 6):=by unfold Hid;rw [bL decCells 6 (λ_=>rfl),hV,R.o]
           have eq:Hid (([J U r,J U s,J U p3,J U x,J U n,hk j]++(d.ps.drop q).flatMap decCells:List iS).length=(1+(N - q)) * 6):=by unfold Hid;rw [hS,ch.o];show 6+_=_;omega
           have e9:Hid ((insL ltPK d.ps ((r,s),p3,x) (n,j)).flatMap decCells=([]++(d.ps.take q).flatMap decCells)++([J U r,J U s,J U p3,J U x,J U n,hk j]++(d.ps.drop q).flatMap decCells)):=by unfold Hid;rw [ay.o,hZ,hP];rfl
           have eg:Hid ((insL ltPK d.ps ((r,s),p3,x) (n,j)).length=q+(1+(N - q))):=by unfold Hid;rw [ay.o,hS,it,hT,hV,R.o];omega
           have ex:Hid (∀u∈(d.ps.take q).flatMap decCells,u.oneCell'=true):=jg _;have cs:Hid (∀u∈(d.ps.drop q).flatMap decCells,u.oneCell'=true):=jg _;have eQ:Hid (∀u∈[J U r,J U s,J U p3,J U x,J U n,hk j]++(d.ps.drop q).flatMap decCells,u.oneCell'=true):=λu hu=>by
            rcases List.mem_append.1 hu with hu|hu
            · simp only [ia,hY,or_false] at hu;rcases hu with rfl|rfl|rfl|rfl|rfl|rfl<;>rfl
            · exact cs u hu
           generalize (d.ps.take q).flatMap decCells=TK at *;generalize (d.ps.drop q).flatMap decCells=DR at *;go_upto_region 19 with fail
           clear h0 t0 t1 t2 t3 t4 t5;have bY:Bw W5 W7.drew:=ad.drew;refine Wb W5 999 ?_;refine Qd [0,2,6,3,4,5] bY av ?_;refine bT (i:=7) (v:=a1 (X ⟨g,ce,Y⟩) (N - q) (vc - q)) rfl (by kernel_rfl) (by kernel_rfl) (by kernel_rfl) (by rfl) (λ_ _ _ h=>h) bY (jb ⟨by rfl,?_⟩) ?_;focus (intro w' h;go_simp;rw [<- gf.o];(first |rfl|(split<;>simp_all)))
           (try go_simp)
           refine Dp 1 λK A=>?_;go_simp;obtain ⟨W3,a8⟩:=Qe ((W7.alloc (a2 #[J U r,J U s,J U p3,J U x,J U n,hk j] 38)).drew);have a5:Bw W5 W3:=by rw [<- a8];exact (ad.o.alloc ad.o.size _).drew
           have d0:W3.ownsRow W5.heap.size 38 6 (a1 (X ⟨W7.heap.size,0,Y⟩) 1 1) 1 [J U r,J U s,J U p3,J U x,J U n,hk j]:=by rw [<- a8];exact ih (base:=W5.heap.size) (e:=38) (size:=6) W7 #[J U r,J U s,J U p3,J U x,J U n,hk j] 1 ad.o.size (by unfold maxLen;omega) rfl
           rw [a8];refine A _ _ (λ_=>a5) ?_;clear A K;clear a8;obtain ⟨b4,c4,T,d3,bw,cP,cb⟩:=bh (P:=prog) W3 W5.heap.size 32 32 38 i0 (.agg #[J U 0,J U 0,J U 0,J U 0,J U 0,hk false]) 6 48 underlying32 HI.o c7.o c9.o ao.o rfl (by decide) W7.heap.size 1 1 [J U r,J U s,J U p3,J U x,J U n,hk j] d0 W5.heap.size (a1 (X ⟨g,ce,Y⟩) (N - q) (vc - q)) (N - q) DR (f2.o W3 a5) ch.o cs.o (by unfold maxLen;omega) (by omega) a5.size;have a7:Bw W5 T:=a5.grown cP a5.size (λj ej=>by injection ej with ej;have:=ad.o.size;omega);refine Dp 8 λK A=>?_;refine dQ rfl rfl rfl d3 ?_;refine A _ _ (λ_=>a7) ?_;clear A K;go_simp;refine Qc [9] a7 ?_
           refine dN ?_;have er:=Z bw;have gq:=Z a7;have f7:b4<T.heap.size:=(bw.lt b4 rfl).2;have e8:=Z (df (B:=W5.heap.size) (e:=38) (k:=6) (w:=T.alloc (a2 #[] 38)) (hQ T _) a7.size);have ax:Hid (Bw W5 (T.alloc (a2 #[] 38))):=a7.alloc a7.size _;have cg:Hid (W5.heap.size<=(T.alloc (a2 #[] 38)).heap.size):=ax.size;have f1:Hid (W5.heap.size<=T.heap.size):=a7.size;have s2:(T.alloc (a2 #[] 38)).cell? ⟨p,2,Y⟩=X (a1 (X ⟨g,0,Y⟩) N vc):=(av _ ax.o).1;clear bw cP cb a5 bY a7 d0 d3
           go_wp2_with (first
            |(at_builtin;refine aB _ rfl _ _ 32 rfl W5.heap.size 38 i0 (.agg #[J U 0,J U 0,J U 0,J U 0,J U 0,hk false]) 6 48 underlying32 HI.o c7.o c9.o ao.o rfl (by decide) T.heap.size 0 0 [] rfl e8.o W5.heap.size (a1 (X ⟨g,0,Y⟩) q vc) q TK rfl (f4.o _ ax.o) f0.o ex.o (by unfold maxLen;omega) (by omega) cg.o ?_;intro b5 c5 w5 bO bv _;have cu:Hid (Bw W5 w5):=ax.o.grown bv cg.o (λj ej=>by injection ej with ej;have:=f1.o;omega);rw [iv] at bO;have cm:=Z bO;have f6:Hid (w5.ownsRow W5.heap.size 38 6 (a1 (X ⟨b4,0,Y⟩) (1+(N - q)) c4) (1+(N - q)) ([J U r,J U s,J U p3,J U x,J U n,hk j]++DR)):=ah er.o (λg' z=>by have z:X b4=X g':=z;injection z with z;subst z;rw [bv.block _ (by simp;omega) (λe=>by injection e with e;omega)];exact ib _ _ _ f7);have cv:Hid (W5.heap.size<=w5.heap.size):=cu.o.size;clear bO bv)
            |(at_builtin;refine aB _ rfl _ _ 32 rfl W5.heap.size 38 i0 (.agg #[J U 0,J U 0,J U 0,J U 0,J U 0,hk false]) 6 48 underlying32 HI.o c7.o c9.o ao.o rfl (by decide) b5 q c5 ([]++TK) rfl cm.o w5.heap.size (a1 (X ⟨b4,0,Y⟩) (1+(N - q)) c4) (1+(N - q)) ([J U r,J U s,J U p3,J U x,J U n,hk j]++DR) rfl ((bf f6.o).mono (hX _) (hR _)) eq.o eQ.o (by unfold maxLen;omega) (by omega) cv.o ?_;intro b6 c6 w6 d2 cQ _;have l:Bw W5 w6:=cu.o.grown cQ cv.o (λj ej=>by injection ej with ej;subst ej;exact (cm.o.lt _ rfl).1);have cp:=Z d2;have aC:=(l.block p (C.o.lt p C.o.fp)).trans C.o.blk;have y1:=(aa aC 2).trans rfl;have z1:=ab aC 2;have gi:=Z aC;have b9:=Z l;clear d2 cQ aC l))
           go_ret;rw [a6.o];refine ⟨rfl,?_⟩;have bs:=C.below b9.o;have gz:=HZ.o;have gO:W5.heap.size<=w6.heap.size:=b9.size;have ac:w6.ownsRow 0 38 6 (a1 (X ⟨b6,0,Y⟩) (q+(1+(N - q))) c6) (insL ltPK d.ps ((r,s),p3,x) (n,j)).length ((insL ltPK d.ps ((r,s),p3,x) (n,j)).flatMap decCells):=by rw [e9.o,eg.o];exact bu cp.o (hX _)
           have f8:=cp.lt b6 rfl;have h6:=d6 p C.fp;have a9:b6≠p:=λe=>by omega
           refine ⟨λk=>F k∨(w.heap.size<=k/\k<w6.heap.size),⟨v1,v2,a1 (X ⟨b6,0,Y⟩) (q+(1+(N - q))) c6,xs,bs.put3 (w':=w6.setCell ⟨p,2,Y⟩ _) (vN:=a1 (X ⟨b6,0,Y⟩) (q+(1+(N - q))) c6) (λk E=> .inl E) (λk E=>?_) (λk _ a9 _=>hO _ _ _ _ a9) ((am bs.blk 2 _).trans rfl) (ah ac (λg' z=>by have z:X b6=X g':=z;injection z with z;subst z;exact hO _ _ _ _ a9)) (λg' z=>?_) (by rw [hM];exact hR _) (d7.o a4.o)⟩,?_⟩
           · rw [hM];rcases E with E|E
             · exact bs.lt k E
             · exact E.2
           · have z:X b6=X g':=z;injection z with z
             subst z;exact ⟨.inr ⟨by omega,f8.2⟩, .inr (λhf=>by have:=d6.o _ hf;omega)⟩
           · have y:Bw w w6:=aT.o.trans (b9.o.mono (by omega));exact ((ag.of_below y).trans (ag.of_only (ar.setCell (ar.refl p w6) 2 _) C.fp)).more λk E=>by
              rcases E with E|E
              · exact .inl E
              · exact .inr E.1
theorem yk (F:Nat->Prop) (w:i1) (p:Nat) (d:aq) (h:ci F w p d) (a b:RK) (n:Int) (v:rkOk a) (x:rkOk b) (z:i64B n):
 i8 prog 43 #[fn (X ⟨p,0,Y⟩),recK a,recK b,J U n] w λe w'=>e=hb (J U (decideC d a b n false).2)/\∃c,ci c w' p (decideC d a b n false).1/\ag F w c w':=by
 have j:Hid (∀o f,Bw w ((w.alloc o).alloc f)):=λo f=>((iF _ w).alloc (hR _) o).alloc (by simp) f
 have m:Hid (∀o f,i8 prog 82 #[fn (X ⟨p,0,Y⟩),recK a,recK b,J U n,hk false] ((w.alloc o).alloc f) λe w'=>e=hb (J U (decideC d a b n false).2)/\∃c,ci c w' p (decideC d a b n false).1/\ag F w c w'):=λo f=>
  (ns F _ p d (h.below (j o f)) a b n false v x z).mono λe w' ⟨y,c,g,i⟩=>⟨y,c,g,(ag.of_below (j o f)).trans i⟩
 obtain ⟨q,s⟩:=a;obtain ⟨t,u⟩:=b;clear h;generalize decideC d (q,s) (t,u) n false=r at *;unfold recK at *;dsimp only at *;go_enter func43,ntmps43;go_wp2_with (go_at_call 82;((with_reducible refine hW (m.o _ _) ?_);rintro e A ⟨rfl,c,g,i⟩;have k:=Z g;have l:=Z i;clear g i))
 go_ret;exact ⟨rfl,c,k.o,l.o⟩
theorem zt (F:Nat->Prop) (w:i1) (p:Nat) (d:aq) (h:ci F w p d) (a b:RK) (n:Int) (v:rkOk a) (x:rkOk b) (z:i64B n):
 i8 prog 44 #[fn (X ⟨p,0,Y⟩),recK a,recK b,J U n] w λe w'=>e=hb (J U (decideC d a b n true).2)/\∃c,ci c w' p (decideC d a b n true).1/\ag F w c w':=by
 have j:Hid (∀o f,Bw w ((w.alloc o).alloc f)):=λo f=>((iF _ w).alloc (hR _) o).alloc (by simp) f
 have m:Hid (∀o f,i8 prog 82 #[fn (X ⟨p,0,Y⟩),recK a,recK b,J U n,hk true] ((w.alloc o).alloc f) λe w'=>e=hb (J U (decideC d a b n true).2)/\∃c,ci c w' p (decideC d a b n true).1/\ag F w c w'):=λo f=>
  (ns F _ p d (h.below (j o f)) a b n true v x z).mono λe w' ⟨y,c,g,i⟩=>⟨y,c,g,(ag.of_below (j o f)).trans i⟩
 obtain ⟨q,s⟩:=a;obtain ⟨t,u⟩:=b;clear h;generalize decideC d (q,s) (t,u) n true=r at *;unfold recK at *;dsimp only at *;go_enter func44,ntmps44;go_wp2_with (go_at_call 82;((with_reducible refine hW (m.o _ _) ?_);rintro e A ⟨rfl,c,g,i⟩;have k:=Z g;have l:=Z i;clear g i))
 go_ret;exact ⟨rfl,c,k.o,l.o⟩
end
end Go.Proofs.YtjcimanddakkaaaGreatDoor
