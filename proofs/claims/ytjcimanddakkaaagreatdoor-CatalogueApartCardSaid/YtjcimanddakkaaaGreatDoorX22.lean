/- Lemmas. -/
import Derived.Test.YtjcimanddakkaaaGreatDoorX0
import Derived.Test.YtjcimanddakkaaaGreatDoorX1
import Derived.Test.YtjcimanddakkaaaGreatDoorX12
import Derived.Test.YtjcimanddakkaaaGreatDoorX13
import Derived.Test.YtjcimanddakkaaaGreatDoorX21
import Derived.Deep.CutBlock
set_option maxRecDepth 100000
set_option maxHeartbeats 8000000
namespace Go.Proofs.YtjcimanddakkaaaGreatDoor
open Go.Lib renaming hid→a0a
open Go.RowKit renaming Below→a0b
open Go.World renaming size_setCell→a0c,alloc_heap_new→a0f,ownsRow_lit→a0r
open Go.RowKit.Below renaming heap_setCell→a0d,heap_alloc→a0q,refl→a0v
open _root_.List renaming flatMap_cons→a0e,length_append→a0h,length_take→a0i,length_drop→a0j,not_mem_nil→a0n,flatMap_append→a0o,mem_cons→a0p,length_cons→a0s,eq_nil_of_length_eq_zero→a0w,mem_of_mem_take→a0x,mem_of_mem_drop→a0y,length_set→a0F,getElem?_eq_getElem→a0H
open _root_.Nat renaming le_refl→a0g,zero_le→a0l,zero_add→a0t,min_eq_left→a0u,succ_mul→a0B,mul_le_mul_right→a0C,lt_or_ge→a0I
open Go.Calls renaming mono→a0k
open Go.Proofs.Tryz renaming prog→a0m
open Go renaming Value→a0z,World→a0A,Calls→a0E
open _root_.Int renaming lt_trichotomy→a0D
open _root_.Or renaming inl→a0G
section
open Go.RowKit Go.Maps Go.Shelf
section
variable {K V:Type} [DecidableEq K] {lt:K->K->Bool}
theorem j8 (T:Tot lt) {l:List (K×V)} (e:aw lt l) {k:K} {v:V} (h:findK l k=some v):∃b:placeK lt l k<l.length,l[placeK lt l k]=(k,v):=by
 rw [ez T e] at h;cases hg:l[placeK lt l k]? with
 |none=>rw [hg] at h;cases h
 |some p=>
  rw [hg] at h;obtain ⟨b,d⟩:=List.getElem?_eq_some_iff.1 hg;refine ⟨b,?_⟩;rw [d];have h:(if p.1=k then some p.2 else none)=some v:=h;split at h
  · rename_i c;injection h with h
    exact Prod.ext c h
  · cases h
theorem qN (T:Tot lt) {l:List (K×V)} (c:aw lt l) {k:K} (h:findK l k=none):(l[placeK lt l k]?).map (·.1)≠some k:=by
 rw [ez T c] at h;cases hg:l[placeK lt l k]? with
 |none=>simp
 |some p=> rw [hg] at h;have h:(if p.1=k then some p.2 else none)=none:=h;intro b;simp at b;rw [if_pos b] at h;cases h
theorem oE (T:Tot lt) {l:List (K×V)} (d:aw lt l) {k:K} {v:V} (h:findK l k=some v) (u:V):insL lt l k u=l.set (placeK lt l k) (k,u):=by
 obtain ⟨b,c⟩:=j8 T d h;rw [qF,if_pos (by rw [a0H b,c];rfl),List.set_eq_take_append_cons_drop,if_pos b]
theorem oG (T:Tot lt) {l:List (K×V)} (b:aw lt l) {k:K} (h:findK l k=none) (u:V):insL lt l k u=l.take (placeK lt l k)++(k,u)::l.drop (placeK lt l k):=by
 rw [qF,if_neg (qN T b h)]
end
theorem ey {α:Type} (enc:α->List a0z) (n:Nat) (c:∀x,(enc x).length=n):∀(b:List α) (m i:Nat) (u:a0z) (y:α) (hm:m<b.length),i<n->(enc b[m]).set i u=enc y->(b.flatMap enc).set (m * n+i) u=(b.set m y).flatMap enc
 |x::b,0,i,u,y,hm,hi,he=>by
  rw [a0e,Nat.zero_mul,a0t,List.set_append_left _ _ (by rw [c];exact hi),List.set_cons_zero,a0e]
  rw [show (enc x).set i u=enc y from he]
 |x::b,m+1,i,u,y,hm,hi,he=>by
  rw [a0e,List.set_append_right _ _ (by rw [c,a0B];omega),c,show (m+1) * n+i - n=m * n+i by rw [a0B];omega,List.set_cons_succ,a0e,ey enc n c b m i u y (by simpa using hm) hi he]
section
variable {P:Program} {o:Oper} {a:Act} {K:Act->a0A->Prop} {Q:Exit->Act->a0A->Prop} {w:a0A}
theorem dH {s x:Operand} {t:TypeId} (e:o.op= .call {callee:= .builtin .append,args:= #[s,x],argTypes:= #[t,t]}) {b c v:a0z} (g:a.eval s=b) (h:a.eval x=c) {w':a0A} (f:(Builtin.append_ #[t,t] o.type #[b,c]).run P w= .ok v w') (d:K (a.put o.dst v) w'):o.wp P a w K Q:=by
 unfold Oper.wp execOp;simp only [e,resolve,invoke,builtin,Sem.run_bind,Sem.run_pure,Result.andThen_ok,List.map_toArray,List.map_cons,List.map_nil,g,h,f];exact d
end
theorem jt {α:Type} (enc:α->List a0z) (n:Nat) (c:∀x,(enc x).length=n):∀(b:List α) (q:Nat),(b.drop q).flatMap enc=(b.flatMap enc).drop (q * n)
 |[],q=>by simp
 |x::b,0=>by simp
 |x::b,q+1=>by rw [List.drop_succ_cons,jt enc n c b q,a0e,a0B,Nat.add_comm, <- List.drop_drop,List.drop_left' (c x)]
theorem jr {α:Type} (enc:α->List a0z) (n:Nat) (c:∀x,(enc x).length=n):∀(b:List α) (q:Nat),(b.take q).flatMap enc=(b.flatMap enc).take (q * n)
 |[],q=>by simp
 |x::b,0=>by simp
 |x::b,q+1=>by rw [List.take_succ_cons,a0e,jr enc n c b q,a0e,a0B,Nat.add_comm (q * n),List.take_append,c,List.take_of_length_le (show (enc x).length<=n+q * n by rw [c];omega),Nat.add_sub_cancel_left]
theorem nY {α:Type} {enc:α->List a0z} {k e g N c n l:Nat} {w:a0A} {f:List α} (r:∀x,(enc x).length=k) (h:w.ownsRow 0 e k (.slice (some ⟨g,0,none⟩) N c) N (f.flatMap enc)) (v:f.length=N) (q:Nat) (y:q<=N) {d:Nat} (t:q<N->d=q * k) (p:g<l):
 aH 0 l w (.slice (some ⟨g,d,none⟩) (N - q) n) (N - q) ((f.drop q).flatMap enc):=by
 refine ⟨_,_,rfl,λs=>⟨g,d,rfl,a0l _,p,λj x b=>?_⟩⟩;have u:q<N:=by
  rcases a0I q N with i|i
  · exact i
  · exact absurd (by rw [List.drop_of_length_le (by omega)];rfl) s
 rw [jt enc k r,List.getElem?_drop] at b;rw [t u];have m:=(List.getElem?_eq_some_iff.1 b).1;rw [h.1] at m;rw [h.cellAt _ m];exact b
theorem nZ {α:Type} {enc:α->List a0z} {k e g N c d:Nat} {w:a0A} {f:List α} (l:∀x,(enc x).length=k) (h:w.ownsRow 0 e k (.slice (some ⟨g,0,none⟩) N c) N (f.flatMap enc)) (q:Nat) (m:q<=N) (i:g<d):
 aH 0 d w (.slice (some ⟨g,0,none⟩) q c) q ((f.take q).flatMap enc):=by
 refine ⟨_,_,rfl,λp=>⟨g,0,rfl,a0l _,i,λj x b=>?_⟩⟩;rw [jr enc k l,List.getElem?_take] at b;split at b
 · rename_i n;have:q * k<=N * k:=a0C k m;rw [a0t,h.cellAt _ (by omega)];exact b
 · cases b
theorem A9:(Tryz.prog.info? 142).map (λi=>(i.zero,i.size,i.bytes))=some (some (.agg #[.int .i64 0, .int .i64 0, .int .i64 0]),3,24):=by kernel_rfl
theorem gN (l:List (RK×Int)):∀u∈l.flatMap dropCells,u.oneCell'=true:=by
 intro u b;obtain ⟨p,c,b⟩:=List.mem_flatMap.1 b;simp only [dropCells,a0p,a0n,or_false] at b;rcases b with rfl|rfl|rfl<;>rfl
theorem ji {w:a0A} {B C e f k j n m:Nat} {u v:a0z} {l ys:List a0z} (h:w.ownsRow B e k u n l) (b:w.ownsRow C f j v m ys) (c:e≠f) {g:Nat} (d:u.ownBlock=some g):v.ownBlock≠some g:=λi=>by
 obtain ⟨c1,t1⟩:=aD h d;obtain ⟨c2,t2⟩:=aD b i;rw [t1] at t2;injection t2 with t2
 injection t2 with _ t2
 exact c t2
theorem eb {w:a0A} {B e k n t p:Nat} {u:a0z} {j:List a0z} {b:Array a0z} (h:w.ownsRow B e k u n j) (i:w.heap[p]? =some (.cells b t (0,0))) (d:e≠t) {g:Nat} (f:u.ownBlock=some g):g≠p:=λc=>by
 obtain ⟨c1,t1⟩:=aD h f;rw [c,i] at t1;injection t1 with t1
 injection t1 with _ t1
 exact d t1.symm
theorem ek.put2 {F e:Nat->Prop} {w w':a0A} {p:Nat} {l m n vN:a0z} {s:List (RK×VX)} {d:ar} {ds:List (RK×Int)} (h:ek F w p l m n s d) (f:∀k,F k->e k) (t:∀k,e k->k<w'.heap.size) (j:∀k,F k->k≠p->m.ownBlock≠some k->w'.heap[k]? =w.heap[k]?)
 (u:w'.heap[p]? =some (.cells #[l,vN,n] 34 (0,0))) (c:w'.ownsRow 0 142 3 vN ds.length (ds.flatMap dropCells)) (r:∀g,vN.ownBlock=some g->e g/\(m.ownBlock=some g∨¬F g)) (x:w.heap.size<=w'.heap.size) (y:aY {d with ds:=ds}):ek e w' p l vN n s {d with ds:=ds}:=by
 refine ⟨u,h.vx,ah h.vs (λg b=>j g (h.f1 g b) (eb h.vs h.blk (by decide) b) (ji h.vs h.ds (by decide) b)),λq v=>?_,c,ah h.ps (λg b=>j g (h.f3 g b) (eb h.ps h.blk (by decide) b) (ji h.ps h.ds (by decide) b)),f p h.fp,λg b=>f g (h.f1 g b),λg b=>(r g b).1,λg b=>f g (h.f3 g b),t,y⟩;refine ((h.fx q v).step (λk c=>j k c.1 c.2.1 c.2.2.2.1) x).wide λk c=>⟨f k c.1,c.2.1,c.2.2.1,λb=>?_,c.2.2.2.2⟩;rcases (r k b).2 with i|i
 · exact c.2.2.2.1 i
 · exact i c.1
theorem ek.put3 {F e:Nat->Prop} {w w':a0A} {p:Nat} {l m n vN:a0z} {s:List (RK×VX)} {d:ar} {ps:List (PK×(Int×Bool))} (h:ek F w p l m n s d) (f:∀k,F k->e k) (t:∀k,e k->k<w'.heap.size) (j:∀k,F k->k≠p->n.ownBlock≠some k->w'.heap[k]? =w.heap[k]?)
 (u:w'.heap[p]? =some (.cells #[l,m,vN] 34 (0,0))) (c:w'.ownsRow 0 38 6 vN ps.length (ps.flatMap decCells)) (r:∀g,vN.ownBlock=some g->e g/\(n.ownBlock=some g∨¬F g)) (x:w.heap.size<=w'.heap.size) (y:aY {d with ps:=ps}):ek e w' p l m vN s {d with ps:=ps}:=by
 refine ⟨u,h.vx,ah h.vs (λg b=>j g (h.f1 g b) (eb h.vs h.blk (by decide) b) (ji h.vs h.ps (by decide) b)),λq v=>?_,ah h.ds (λg b=>j g (h.f2 g b) (eb h.ds h.blk (by decide) b) (ji h.ds h.ps (by decide) b)),c,f p h.fp,λg b=>f g (h.f1 g b),λg b=>f g (h.f2 g b),λg b=>(r g b).1,t,y⟩;refine ((h.fx q v).step (λk c=>j k c.1 c.2.1 c.2.2.2.2) x).wide λk c=>⟨f k c.1,c.2.1,c.2.2.1,c.2.2.2.1,λb=>?_⟩;rcases (r k b).2 with i|i
 · exact c.2.2.2.2 i
 · exact i c.1
theorem ek.put1 {F e:Nat->Prop} {w w':a0A} {p:Nat} {r j l vN:a0z} {t ys:List (RK×VX)} {d:ar} (h:ek F w p r j l t d) (i:∀k,F k->e k) (u:∀k,e k->k<w'.heap.size) (n:∀k,F k->k≠p->r.ownBlock≠some k->w'.heap[k]? =w.heap[k]?)
 (v:w'.heap[p]? =some (.cells #[vN,j,l] 34 (0,0))) (c:w'.ownsRow 0 64 6 vN ys.length (ys.flatMap verCells)) (s:∀g,vN.ownBlock=some g->e g/\(r.ownBlock=some g∨¬F g)) (y:w.heap.size<=w'.heap.size) (z:aY {d with vs:=ys.map λp=>(p.1,p.2.1)})
 (x:∀q∈ys,q∈t∨dF (restM e p vN j l) w' q):ek e w' p vN j l ys {d with vs:=ys.map λp=>(p.1,p.2.1)}:=by
 refine ⟨v,rfl,c,λq f=>?_,ah h.ds (λg b=>n g (h.f2 g b) (eb h.ds h.blk (by decide) b) (ji h.ds h.vs (by decide) b)),ah h.ps (λg b=>n g (h.f3 g b) (eb h.ps h.blk (by decide) b) (ji h.ps h.vs (by decide) b)),i p h.fp,λg b=>(s g b).1,λg b=>i g (h.f2 g b),λg b=>i g (h.f3 g b),u,z⟩;rcases x q f with f|f
 · refine ((h.fx q f).step (λk c=>n k c.1 c.2.1 c.2.2.1) y).wide λk c=>⟨i k c.1,c.2.1,λb=>?_,c.2.2.2.1,c.2.2.2.2⟩;rcases (s k b).2 with m|m
   · exact c.2.2.1 m
   · exact m c.1
 · exact f
theorem zt (F:Nat->Prop) (w:a0A) (p:Nat) (d:ar) (h:bM F w p d) (k:RK) (n:Int) (s:rkOk k) (hn:i64B n):
 a0E a0m 42 #[.pointer (some ⟨p,0,none⟩),recK k, .int .i64 n] w λe w'=>e= .returned (.int .i64 (dropC d k n).2)/\∃F',bM F' w' p (dropC d k n).1/\ag F w F' w':=by
 obtain ⟨v1,v2,v3,xs,h⟩:=h;have ch:Hid (dr d k n=0->aY {d with ds:=insL ltRK d.ds k n}):=λhx=>h.ok.drop s hn hx;have bb:=a0a (oM d k n);obtain ⟨b,f⟩:=k;obtain ⟨w1,c7⟩:∃w1,w.alloc (.cells #[.int .i64 b, .int .i64 f] 36)=w1:=⟨_,rfl⟩;have cy:a0b w.heap.size w w1:=by rw [<- c7];exact (a0v _ w).alloc (a0g _) _
 have I:=a0f w (.cells #[.int .i64 b, .int .i64 f] 36);rw [c7] at I;have HK:=a0a I;have r:=a0a (h.below cy);have a9:=a0a cy;have dk:w1.heap.size=w.heap.size+1:=by rw [<- c7];simp
 have b2:=a0a dk;have d3:=a0a c7;have d2:=a0a h.lt;have a8:=a0a (zr F w1 p v1 v2 v3 xs d r.out (b,f));have c1:=gc (lt:=ltRK) d.ds (b,f);have d5:=h.ok.dlen;clear cy dk c7 I;cases R:findK d.ds (b,f) with
 |some m=>
  obtain ⟨hq,he⟩:=j8 aL h.ok.ok.ds R;have a4:=a0a (oE aL h.ok.ok.ds R n);obtain ⟨g,c,hv,hg,hc⟩:=eu (enc:=dropCells) (λ_=>rfl) r.ds _ hq;rw [he] at hc;have c2:=hc 2 _ rfl;have ac:Hid (dr d (b,f) n=aV true (decide (m=n)) m n d.ds.length):=by unfold Hid dr;rw [R];rfl
  rw [R] at a8;obtain ⟨q,b3⟩:∃q,placeK ltRK d.ds (b,f)=q:=⟨_,rfl⟩;rw [b3] at a8 hq c2 a4;have HE:Hid (∃hq:q<d.ds.length,d.ds[q]=((b,f),m)):=by subst b3;exact ⟨hq,he⟩
  have dx:=a0a c2;obtain ⟨N,hN⟩:∃N,d.ds.length=N:=⟨_,rfl⟩;rw [hN] at hv hq d5 ac;have E:=a0a hN;subst hv;have ex:(q:Int)<(N:Int):=by omega
  have L:Hid (∀W,a0b w1.heap.size w1 W->W.cell? ⟨p,1,none⟩=some (.slice (some ⟨g,0,none⟩) N c)/\W.cell? ⟨g,q * 3+2,none⟩=some (.int .i64 m)/\W.frozen? ⟨g,q * 3+2,none⟩=false):=λW D=>
   ⟨(aa ((D.block _ (r.out.lt p r.out.fp)).trans r.out.blk) 1).trans rfl,((aE D).1 g _ hg).trans dx.out,(by have:=(r.out.below D).ds;rw [E.out] at this;exact this.frozenAt _)⟩
  have es:=hq;clear hc c2 he b3 hN R c1 h hq;have al:Hid (a0E a0m 81 #[.pointer (some ⟨p,0,none⟩), .agg #[.int .i64 b, .int .i64 f]] (w.alloc (.cells #[.int .i64 b, .int .i64 f] 36)) λe w'=>e= .returned (.tuple #[.int .i64 q, .bool true])/\a0b w1.heap.size w1 w'):=by unfold Hid;rw [d3.out];exact a8.out
  clear a8;unfold recK;dsimp only;rcases a0D m n with bY|bY|bY
  · have G:Hid (dr d (b,f) n=0):=by unfold Hid;rw [ac.out,decide_eq_false (show m≠n by omega)];unfold aV;simp;omega
    have a0:Hid (dropC d (b,f) n=({d with ds:=insL ltRK d.ds (b,f) n},0)):=by unfold Hid;rw [bb.out,if_pos G.out]
    have f1:(m==n)=false:=by simp;omega
    have f2:¬(m=n):=by omega
    have f3:¬(n<m):=by omega
    have eg:=a0a bY;clear bY;go_enter Tryz.func42,Tryz.ntmps42;go_wp2_with (go_at_call 81;((with_reducible refine a0k al.out ?_);rintro e t ⟨rfl,y⟩;obtain ⟨p1,p2,p3⟩:=L.out t y;have x:=a0a y;clear y))
    go_ret;rw [a0.out];have ad:=r.below x.out;have e9:ag F w F t:=ag.of_below (a9.out.trans (x.out.mono (by have:=b2.out;omega)));refine ⟨rfl,F,?_,?_⟩
    · obtain ⟨e8,e6⟩:=HE.out;have b7:=ad.ds;rw [E.out] at b7;have d8:=(b7.stored (q * 3+2) (.int .i64 n)).1;rw [ey dropCells 3 (λ_=>rfl) d.ds q 2 _ ((b,f),n) e8 (by omega) (by rw [e6];rfl), <- a4.out] at d8;have e7:N=(insL ltRK d.ds (b,f) n).length:=by rw [a4.out,a0F,E.out]
      refine ⟨v1,_,v3,xs,ad.put2 (vN:= .slice (some ⟨g,0,none⟩) N c) (λ_ h=>h) (λk s=>by rw [a0c];exact ad.lt k s) (λk _ _ a5=>a0d _ _ _ _ (λe=>a5 (by rw [e];rfl))) ?_ (e7 ▸ d8) (λO l=>⟨ad.f2 O l, .inl l⟩) (by rw [a0c];exact a0g _) (ch.out G.out)⟩;rw [a0d _ _ _ _ (Ne.symm (eb ad.ds ad.blk (by decide) (g:=g) rfl))];exact ad.blk
    · exact e9.trans (ag.of_only (aq.setCell (aq.refl g t) _ _) (ad.f2 g rfl))
  · subst bY;have G:Hid (dr d (b,f) m=22):=by unfold Hid;rw [ac.out,decide_eq_true rfl];rfl
    have a0:Hid (dropC d (b,f) m=(d,22)):=by unfold Hid;rw [bb.out,if_neg (by rw [G.out];decide),G.out]
    go_enter Tryz.func42,Tryz.ntmps42;go_wp2_with (go_at_call 81;((with_reducible refine a0k al.out ?_);rintro e t ⟨rfl,y⟩;obtain ⟨p1,p2,p3⟩:=L.out t y;have x:=a0a y;clear y))
    go_ret;rw [a0.out];exact ⟨rfl,F,⟨_,_,_,_,r.out.below x.out⟩,ag.of_below (a9.out.trans (x.out.mono (by have:=b2.out;omega)))⟩
  · have G:Hid (dr d (b,f) n=30):=by unfold Hid;rw [ac.out,decide_eq_false (show m≠n by omega)];unfold aV;simp;omega
    have a0:Hid (dropC d (b,f) n=(d,30)):=by unfold Hid;rw [bb.out,if_neg (by rw [G.out];decide),G.out]
    have f1:(m==n)=false:=by simp;omega
    have f2:¬(m=n):=by omega
    go_enter Tryz.func42,Tryz.ntmps42;go_wp2_with (go_at_call 81;((with_reducible refine a0k al.out ?_);rintro e t ⟨rfl,y⟩;obtain ⟨p1,p2,p3⟩:=L.out t y;have x:=a0a y;clear y))
    go_ret;rw [a0.out];exact ⟨rfl,F,⟨_,_,_,_,r.out.below x.out⟩,ag.of_below (a9.out.trans (x.out.mono (by have:=b2.out;omega)))⟩
 |none=>
  have a4:=a0a (oG aL h.ok.ok.ds R n);have ac:Hid (dr d (b,f) n=if 5000<=d.ds.length then 2 else 0):=by unfold Hid dr;rw [R];show aV false _ _ _ _=_;unfold aV;simp
  rw [R] at a8;obtain ⟨q,b3⟩:∃q,placeK ltRK d.ds (b,f)=q:=⟨_,rfl⟩;rw [b3] at a8 c1 a4;obtain ⟨N,hN⟩:∃N,d.ds.length=N:=⟨_,rfl⟩;rw [hN] at d5 c1 ac;have E:=a0a hN;obtain ⟨va,Z,hv⟩:=aK h.ds;rw [hN] at hv;subst hv
  have L:Hid (∀W,a0b w1.heap.size w1 W->W.cell? ⟨p,1,none⟩=some (.slice va N Z)/\W.cell? ⟨w.heap.size,0,none⟩=some (.int .i64 b)/\W.cell? ⟨w.heap.size,1,none⟩=some (.int .i64 f)):=λW D=>
   ⟨(aa ((D.block _ (r.out.lt p r.out.fp)).trans r.out.blk) 1).trans rfl,(aa ((D.block _ (by have:=b2.out;omega)).trans HK.out) 0).trans rfl,(aa ((D.block _ (by have:=b2.out;omega)).trans HK.out) 1).trans rfl⟩
  clear b3 hN R h;have al:Hid (a0E a0m 81 #[.pointer (some ⟨p,0,none⟩), .agg #[.int .i64 b, .int .i64 f]] (w.alloc (.cells #[.int .i64 b, .int .i64 f] 36)) λe w'=>e= .returned (.tuple #[.int .i64 q, .bool false])/\a0b w1.heap.size w1 w'):=by unfold Hid;rw [d3.out];exact a8.out
  clear a8;unfold recK;dsimp only;by_cases h5:5000<=N
  · have G:Hid (dr d (b,f) n=2):=by unfold Hid;rw [ac.out,if_pos h5]
    have a0:Hid (dropC d (b,f) n=(d,2)):=by unfold Hid;rw [bb.out,if_neg (by rw [G.out];decide),G.out]
    have e4:(5000:Int)<=(N:Int):=by omega
    go_enter Tryz.func42,Tryz.ntmps42;go_wp2_with (go_at_call 81;((with_reducible refine a0k al.out ?_);rintro e t ⟨rfl,y⟩;obtain ⟨p1,p2,p3⟩:=L.out t y;have x:=a0a y;clear y))
    go_ret;rw [a0.out];exact ⟨rfl,F,⟨_,_,_,_,r.out.below x.out⟩,ag.of_below (a9.out.trans (x.out.mono (by have:=b2.out;omega)))⟩
  · have G:Hid (dr d (b,f) n=0):=by unfold Hid;rw [ac.out,if_neg h5]
    have a0:Hid (dropC d (b,f) n=({d with ds:=insL ltRK d.ds (b,f) n},0)):=by unfold Hid;rw [bb.out,if_pos G.out]
    have e4:¬((5000:Int)<=(N:Int)):=by omega
    have f0:(q:Int)<=(N:Int):=by omega
    obtain ⟨i0,hi,da,dc,dd⟩:=info_parts A9;have HI:=a0a hi;have aT:=a0a da;have b0:=a0a dc;have b1:=a0a dd;clear hi da dc dd;rcases r.ds.2 with ⟨hv,d6⟩|⟨g,em,eq,hv,_,_,d4,_⟩
    · injection hv with e1 e2 e3
      subst e1 e3;rw [E.out] at d6;subst d6;obtain rfl:q=0:=by omega
      have cs:Hid (∀W,a0b w1.heap.size w1 W->aH 0 w1.heap.size W (.slice none 0 0) 0 ((d.ds.drop 0).flatMap dropCells)):=λW D=>by have:d.ds=[]:=a0w E.out;rw [this];exact ⟨none,0,rfl,λh=>absurd rfl h⟩
      have cu:Hid (∀W,a0b w1.heap.size w1 W->aH 0 w1.heap.size W (.slice none 0 0) 0 ((d.ds.take 0).flatMap dropCells)):=λW D=>⟨none,0,rfl,λh=>absurd rfl h⟩;clear e2;have cp:Hid (((d.ds.take 0).flatMap dropCells).length=0 * 3):=by unfold Hid;rw [bP dropCells 3 (λ_=>rfl),a0i,E.out,a0u (by omega)]
      have bc:Hid (((d.ds.drop 0).flatMap dropCells).length=(0) * 3):=by unfold Hid;rw [bP dropCells 3 (λ_=>rfl),a0j,E.out]
      have cd:Hid (([.int .i64 b, .int .i64 f, .int .i64 n]++(d.ds.drop 0).flatMap dropCells:List a0z).length=(1+(0)) * 3):=by unfold Hid;rw [a0h,bc.out];show 3+_=_;omega
      have cb:Hid ((insL ltRK d.ds (b,f) n).flatMap dropCells=([]++(d.ds.take 0).flatMap dropCells)++([.int .i64 b, .int .i64 f, .int .i64 n]++(d.ds.drop 0).flatMap dropCells)):=by unfold Hid;rw [a4.out,a0o,a0e];rfl
      have cc:Hid ((insL ltRK d.ds (b,f) n).length=0+(1+(0))):=by unfold Hid;rw [a4.out,a0h,a0s,a0i,a0j,E.out];omega
      have cl:Hid (∀u∈(d.ds.take 0).flatMap dropCells,u.oneCell'=true):=gN _;have bt:Hid (∀u∈(d.ds.drop 0).flatMap dropCells,u.oneCell'=true):=gN _;have cm:Hid (∀u∈[.int .i64 b, .int .i64 f, .int .i64 n]++(d.ds.drop 0).flatMap dropCells,u.oneCell'=true):=λu U=>by
       rcases List.mem_append.1 U with U|U
       · simp only [a0p,a0n,or_false] at U;rcases U with rfl|rfl|rfl<;>rfl
       · exact bt u U
      generalize (d.ds.take 0).flatMap dropCells=TK at *;generalize (d.ds.drop 0).flatMap dropCells=DR at *;go_enter Tryz.func42,Tryz.ntmps42;go_upto_region 11 with (go_at_call 81;((with_reducible refine a0k al.out ?_);rintro e t ⟨rfl,y⟩;obtain ⟨p1,p2,p3⟩:=L.out t y;have x:=a0a y;clear y))
      clear p1 p2 p3;have aC:a0b w1.heap.size w1 t.drew:=x.drew;refine wT (λW=>a0b w1.heap.size w1 W) 999 ?_;have a7:=tkL [0,1,4,8,2,5,6,7];repeat (refine tkIS a7 ?_ rfl aC ?_ ?_;rotate_left;intro w' h;obtain ⟨p1,p2,p3⟩:=L w' h;go_simp;rfl;(try go_simp);replace a7:=tkO a7)
      clear a7;refine bT (i:=9) (v:= .slice none 0 0) rfl (by kernel_rfl) (by kernel_rfl) (by kernel_rfl) (by rfl) (λ_ _ _ h=>h) aC (a0G ⟨by rfl,?_⟩) ?_;focus (intro w' h;(first |(go_simp;done)|(go_simp;rfl)))
      (try go_simp)
      refine dO 3 rfl λK I=>?_;go_simp;obtain ⟨H,Y⟩:∃H,(t.alloc (.cells #[.int .i64 b, .int .i64 f, .int .i64 n] 142)).drew=H:=⟨_,rfl⟩;have T:a0b w1.heap.size w1 H:=by rw [<- Y];exact (x.out.alloc x.out.size _).drew
      have bO:H.ownsRow w1.heap.size 142 3 (.slice (some ⟨t.heap.size,0,none⟩) 1 1) 1 [.int .i64 b, .int .i64 f, .int .i64 n]:=by rw [<- Y];exact a0r (base:=w1.heap.size) (e:=142) (size:=3) t #[.int .i64 b, .int .i64 f, .int .i64 n] 1 x.out.size (by unfold maxLen;omega) rfl
      have d1:H.heap.size=t.heap.size+1:=by rw [<- Y];show (t.alloc _).heap.size=_;simp
      rw [Y];refine I _ _ (λ_=>T) ?_;clear I K;clear Y;obtain ⟨X,c4,z,c3,ax,bA,cz⟩:=bf (P:=a0m) H w1.heap.size 31 31 142 i0 (.agg #[.int .i64 0, .int .i64 0, .int .i64 0]) 3 24 Tryz.underlying31 HI.out aT.out b0.out b1.out rfl (by decide) t.heap.size 1 1 [.int .i64 b, .int .i64 f, .int .i64 n] bO w1.heap.size (.slice none 0 0) (0) DR (cs.out H T) bc.out bt.out (by unfold maxLen;omega) (by omega) T.size;have C:a0b w1.heap.size w1 z:=T.grown bA T.size (λj A=>by injection A with A;have:=x.out.size;omega);refine dO 10 rfl λK I=>?_;refine dH rfl rfl rfl c3 ?_;refine I _ _ (λ_=>C) ?_;clear I K;go_simp;refine tkS 11 ?_ rfl C ?_ ?_;rotate_left;intro w' h;go_simp;rfl;try go_simp
      refine dN ?_;have cg:=a0a ax;have e0:=a0a C;have cP:X<z.heap.size:=(ax.lt X rfl).2;have c9:=a0a (cX (B:=w1.heap.size) (e:=142) (k:=3) (w:=z.alloc (.cells #[] 142)) (a0f z _) C.size);have a3:Hid (a0b w1.heap.size w1 (z.alloc (.cells #[] 142))):=C.alloc C.size _;have b9:Hid (w1.heap.size<=(z.alloc (.cells #[] 142)).heap.size):=a3.size;have cq:Hid (w1.heap.size<=z.heap.size):=C.size;obtain ⟨s1,_,_⟩:=L z C;have s2:(z.alloc (.cells #[] 142)).cell? ⟨p,1,none⟩=some (.slice none 0 0):=(L _ a3.out).1;clear ax bA cz T aC C bO c3 d1
      go_wp2_with (first
       |(at_builtin;(refine aA _ rfl _ _ 31 rfl w1.heap.size 142 i0 (.agg #[.int .i64 0, .int .i64 0, .int .i64 0]) 3 24 Tryz.underlying31 HI.out aT.out b0.out b1.out rfl (by decide) z.heap.size 0 0 [] rfl c9.out w1.heap.size (.slice none 0 0) 0 TK rfl (cu.out _ a3.out) cp.out cl.out (by unfold maxLen;omega) (by omega) b9.out ?_;intro b5 c5 w5 ay av _;have bv:Hid (a0b w1.heap.size w1 w5):=a3.out.grown av b9.out (λj A=>by injection A with A;have:=cq.out;omega);rw [a0t] at ay;have bk:=a0a ay;have cv:Hid (w5.ownsRow w1.heap.size 142 3 (.slice (some ⟨X,0,none⟩) (1+(0)) c4) (1+(0)) ([.int .i64 b, .int .i64 f, .int .i64 n]++DR)):=ah cg.out (λO l=>by have l:some X=some O:=l;injection l with l;subst l;rw [av.block _ (by simp;omega) (λe=>by injection e with e;omega)];exact a0q _ _ _ cP);have bw:Hid (w1.heap.size<=w5.heap.size):=bv.out.size;clear ay av))
       |(at_builtin;(refine aA _ rfl _ _ 31 rfl w1.heap.size 142 i0 (.agg #[.int .i64 0, .int .i64 0, .int .i64 0]) 3 24 Tryz.underlying31 HI.out aT.out b0.out b1.out rfl (by decide) b5 0 c5 ([]++TK) rfl bk.out w5.heap.size (.slice (some ⟨X,0,none⟩) (1+(0)) c4) (1+(0)) ([.int .i64 b, .int .i64 f, .int .i64 n]++DR) rfl ((bm cv.out).mono (a0l _) (a0g _)) cd.out cm.out (by unfold maxLen;omega) (by omega) bw.out ?_;intro M c6 J c0 bB _;have aS:a0b w1.heap.size w1 J:=bv.out.grown bB bw.out (λj A=>by injection A with A;subst A;exact (bk.out.lt _ rfl).1);have bs:=a0a c0;have a6:=(aS.block p (r.out.lt p r.out.fp)).trans r.out.blk;have y1:=(aa a6 1).trans rfl;have z1:=ab a6 1;have dB:=a0a a6;have ao:=a0a aS;clear c0 bB a6 aS)))
      go_ret;rw [a0.out];refine ⟨rfl,?_⟩;have au:=r.below ao.out;have cx:w.heap.size<=w1.heap.size:=a9.size;have e5:w1.heap.size<=J.heap.size:=ao.size;have b7:J.ownsRow 0 142 3 (.slice (some ⟨M,0,none⟩) (0+(1+(0))) c6) (insL ltRK d.ds (b,f) n).length ((insL ltRK d.ds (b,f) n).flatMap dropCells):=by rw [cb.out,cc.out];exact bE bs.out (a0l _)
      have cQ:=bs.lt M rfl;have a5:M≠p:=λe=>by have:=r.out.lt p r.out.fp;omega
      refine ⟨λk=>F k∨(w.heap.size<=k/\k<J.heap.size),⟨v1,_,v3,xs,au.put2 (w':=J.setCell ⟨p,1,none⟩ _) (vN:= .slice (some ⟨M,0,none⟩) (0+(1+(0))) c6) (λk s=> .inl s) (λk s=>?_) (λk _ a5 _=>a0d _ _ _ _ a5) ((an au.blk 1 _).trans rfl) (ah b7 (λO l=>by have l:some M=some O:=l;injection l with l;subst l;exact a0d _ _ _ _ a5)) (λO l=>?_) (by rw [a0c];exact a0g _) (ch.out G.out)⟩,?_⟩
      · rw [a0c];rcases s with s|s
        · exact au.lt k s
        · exact s.2
      · have l:some M=some O:=l;injection l with l
        subst l;exact ⟨.inr ⟨by omega,cQ.2⟩, .inr (λR=>by have:=d2.out _ R;omega)⟩
      · have D:a0b w.heap.size w J:=a9.trans (ao.mono cx);exact ((ag.of_below D).trans (ag.of_only (aq.setCell (aq.refl p J) 1 _) r.fp)).more λk s=>by
         rcases s with s|s
         · exact .inl s
         · exact .inr s.1
    · injection hv with e1 e2 e3
      subst e1 e3;have d4:N<=Z:=by rw [<- E.out];exact d4
      have eQ:(q:Int)<=(Z:Int):=by omega
      have er:(N:Int)<=(Z:Int):=by omega
      clear e2;obtain ⟨b8,d0⟩:∃b8,(if Z=q then 0 else q * 3)=b8:=⟨_,rfl⟩;have dy:Hid (q<N->b8=q * 3):=λh=>by rw [<- d0,if_neg (by omega)]
      have cs:Hid (∀W,a0b w1.heap.size w1 W->aH 0 w1.heap.size W (.slice (some ⟨g,b8,none⟩) (N - q) (Z - q)) (N - q) ((d.ds.drop q).flatMap dropCells)):=λW D=>by have hr:=(r.below D).ds;rw [E.out] at hr;exact nY (enc:=dropCells) (k:=3) (λ_=>rfl) hr (by rw [E.out]) q c1 dy.out (r.out.ds.lt g rfl).2
      have cu:Hid (∀W,a0b w1.heap.size w1 W->aH 0 w1.heap.size W (.slice (some ⟨g,0,none⟩) q Z) q ((d.ds.take q).flatMap dropCells)):=λW D=>by have hr:=(r.below D).ds;rw [E.out] at hr;exact nZ (enc:=dropCells) (k:=3) (λ_=>rfl) hr q c1 (r.ds.lt g rfl).2
      have dz:=a0a d0;clear d0;have cp:Hid (((d.ds.take q).flatMap dropCells).length=q * 3):=by unfold Hid;rw [bP dropCells 3 (λ_=>rfl),a0i,E.out,a0u (by omega)]
      have bc:Hid (((d.ds.drop q).flatMap dropCells).length=(N - q) * 3):=by unfold Hid;rw [bP dropCells 3 (λ_=>rfl),a0j,E.out]
      have cd:Hid (([.int .i64 b, .int .i64 f, .int .i64 n]++(d.ds.drop q).flatMap dropCells:List a0z).length=(1+(N - q)) * 3):=by unfold Hid;rw [a0h,bc.out];show 3+_=_;omega
      have cb:Hid ((insL ltRK d.ds (b,f) n).flatMap dropCells=([]++(d.ds.take q).flatMap dropCells)++([.int .i64 b, .int .i64 f, .int .i64 n]++(d.ds.drop q).flatMap dropCells)):=by unfold Hid;rw [a4.out,a0o,a0e];rfl
      have cc:Hid ((insL ltRK d.ds (b,f) n).length=q+(1+(N - q))):=by unfold Hid;rw [a4.out,a0h,a0s,a0i,a0j,E.out];omega
      have cl:Hid (∀u∈(d.ds.take q).flatMap dropCells,u.oneCell'=true):=gN _;have bt:Hid (∀u∈(d.ds.drop q).flatMap dropCells,u.oneCell'=true):=gN _;have cm:Hid (∀u∈[.int .i64 b, .int .i64 f, .int .i64 n]++(d.ds.drop q).flatMap dropCells,u.oneCell'=true):=λu U=>by
       rcases List.mem_append.1 U with U|U
       · simp only [a0p,a0n,or_false] at U;rcases U with rfl|rfl|rfl<;>rfl
       · exact bt u U
      generalize (d.ds.take q).flatMap dropCells=TK at *;generalize (d.ds.drop q).flatMap dropCells=DR at *;go_enter Tryz.func42,Tryz.ntmps42;go_upto_region 11 with (go_at_call 81;((with_reducible refine a0k al.out ?_);rintro e t ⟨rfl,y⟩;obtain ⟨p1,p2,p3⟩:=L.out t y;have x:=a0a y;clear y))
      clear p1 p2 p3;have aC:a0b w1.heap.size w1 t.drew:=x.drew;refine wT (λW=>a0b w1.heap.size w1 W) 999 ?_;have a7:=tkL [0,1,4,8,2,5,6,7];repeat (refine tkIS a7 ?_ rfl aC ?_ ?_;rotate_left;intro w' h;obtain ⟨p1,p2,p3⟩:=L w' h;go_simp;rfl;(try go_simp);replace a7:=tkO a7)
      clear a7;refine bT (i:=9) (v:= .slice (some ⟨g,b8,none⟩) (N - q) (Z - q)) rfl (by kernel_rfl) (by kernel_rfl) (by kernel_rfl) (by rfl) (λ_ _ _ h=>h) aC (a0G ⟨by rfl,?_⟩) ?_;focus (intro w' h;go_simp;rw [<- dz.out];(first |rfl|(split<;>simp_all)))
      (try go_simp)
      refine dO 3 rfl λK I=>?_;go_simp;obtain ⟨H,Y⟩:∃H,(t.alloc (.cells #[.int .i64 b, .int .i64 f, .int .i64 n] 142)).drew=H:=⟨_,rfl⟩;have T:a0b w1.heap.size w1 H:=by rw [<- Y];exact (x.out.alloc x.out.size _).drew
      have bO:H.ownsRow w1.heap.size 142 3 (.slice (some ⟨t.heap.size,0,none⟩) 1 1) 1 [.int .i64 b, .int .i64 f, .int .i64 n]:=by rw [<- Y];exact a0r (base:=w1.heap.size) (e:=142) (size:=3) t #[.int .i64 b, .int .i64 f, .int .i64 n] 1 x.out.size (by unfold maxLen;omega) rfl
      have d1:H.heap.size=t.heap.size+1:=by rw [<- Y];show (t.alloc _).heap.size=_;simp
      rw [Y];refine I _ _ (λ_=>T) ?_;clear I K;clear Y;obtain ⟨X,c4,z,c3,ax,bA,cz⟩:=bf (P:=a0m) H w1.heap.size 31 31 142 i0 (.agg #[.int .i64 0, .int .i64 0, .int .i64 0]) 3 24 Tryz.underlying31 HI.out aT.out b0.out b1.out rfl (by decide) t.heap.size 1 1 [.int .i64 b, .int .i64 f, .int .i64 n] bO w1.heap.size (.slice (some ⟨g,b8,none⟩) (N - q) (Z - q)) (N - q) DR (cs.out H T) bc.out bt.out (by unfold maxLen;omega) (by omega) T.size;have C:a0b w1.heap.size w1 z:=T.grown bA T.size (λj A=>by injection A with A;have:=x.out.size;omega);refine dO 10 rfl λK I=>?_;refine dH rfl rfl rfl c3 ?_;refine I _ _ (λ_=>C) ?_;clear I K;go_simp;refine tkS 11 ?_ rfl C ?_ ?_;rotate_left;intro w' h;go_simp;rfl;try go_simp
      refine dN ?_;have cg:=a0a ax;have e0:=a0a C;have cP:X<z.heap.size:=(ax.lt X rfl).2;have c9:=a0a (cX (B:=w1.heap.size) (e:=142) (k:=3) (w:=z.alloc (.cells #[] 142)) (a0f z _) C.size);have a3:Hid (a0b w1.heap.size w1 (z.alloc (.cells #[] 142))):=C.alloc C.size _;have b9:Hid (w1.heap.size<=(z.alloc (.cells #[] 142)).heap.size):=a3.size;have cq:Hid (w1.heap.size<=z.heap.size):=C.size;obtain ⟨s1,_,_⟩:=L z C;have s2:(z.alloc (.cells #[] 142)).cell? ⟨p,1,none⟩=some (.slice (some ⟨g,0,none⟩) N Z):=(L _ a3.out).1;clear ax bA cz T aC C bO c3 d1
      go_wp2_with (first
       |(at_builtin;(refine aA _ rfl _ _ 31 rfl w1.heap.size 142 i0 (.agg #[.int .i64 0, .int .i64 0, .int .i64 0]) 3 24 Tryz.underlying31 HI.out aT.out b0.out b1.out rfl (by decide) z.heap.size 0 0 [] rfl c9.out w1.heap.size (.slice (some ⟨g,0,none⟩) q Z) q TK rfl (cu.out _ a3.out) cp.out cl.out (by unfold maxLen;omega) (by omega) b9.out ?_;intro b5 c5 w5 ay av _;have bv:Hid (a0b w1.heap.size w1 w5):=a3.out.grown av b9.out (λj A=>by injection A with A;have:=cq.out;omega);rw [a0t] at ay;have bk:=a0a ay;have cv:Hid (w5.ownsRow w1.heap.size 142 3 (.slice (some ⟨X,0,none⟩) (1+(N - q)) c4) (1+(N - q)) ([.int .i64 b, .int .i64 f, .int .i64 n]++DR)):=ah cg.out (λO l=>by have l:some X=some O:=l;injection l with l;subst l;rw [av.block _ (by simp;omega) (λe=>by injection e with e;omega)];exact a0q _ _ _ cP);have bw:Hid (w1.heap.size<=w5.heap.size):=bv.out.size;clear ay av))
       |(at_builtin;(refine aA _ rfl _ _ 31 rfl w1.heap.size 142 i0 (.agg #[.int .i64 0, .int .i64 0, .int .i64 0]) 3 24 Tryz.underlying31 HI.out aT.out b0.out b1.out rfl (by decide) b5 q c5 ([]++TK) rfl bk.out w5.heap.size (.slice (some ⟨X,0,none⟩) (1+(N - q)) c4) (1+(N - q)) ([.int .i64 b, .int .i64 f, .int .i64 n]++DR) rfl ((bm cv.out).mono (a0l _) (a0g _)) cd.out cm.out (by unfold maxLen;omega) (by omega) bw.out ?_;intro M c6 J c0 bB _;have aS:a0b w1.heap.size w1 J:=bv.out.grown bB bw.out (λj A=>by injection A with A;subst A;exact (bk.out.lt _ rfl).1);have bs:=a0a c0;have a6:=(aS.block p (r.out.lt p r.out.fp)).trans r.out.blk;have y1:=(aa a6 1).trans rfl;have z1:=ab a6 1;have dB:=a0a a6;have ao:=a0a aS;clear c0 bB a6 aS)))
      go_ret;rw [a0.out];refine ⟨rfl,?_⟩;have au:=r.below ao.out;have cx:w.heap.size<=w1.heap.size:=a9.size;have e5:w1.heap.size<=J.heap.size:=ao.size;have b7:J.ownsRow 0 142 3 (.slice (some ⟨M,0,none⟩) (q+(1+(N - q))) c6) (insL ltRK d.ds (b,f) n).length ((insL ltRK d.ds (b,f) n).flatMap dropCells):=by rw [cb.out,cc.out];exact bE bs.out (a0l _)
      have cQ:=bs.lt M rfl;have a5:M≠p:=λe=>by have:=r.out.lt p r.out.fp;omega
      refine ⟨λk=>F k∨(w.heap.size<=k/\k<J.heap.size),⟨v1,_,v3,xs,au.put2 (w':=J.setCell ⟨p,1,none⟩ _) (vN:= .slice (some ⟨M,0,none⟩) (q+(1+(N - q))) c6) (λk s=> .inl s) (λk s=>?_) (λk _ a5 _=>a0d _ _ _ _ a5) ((an au.blk 1 _).trans rfl) (ah b7 (λO l=>by have l:some M=some O:=l;injection l with l;subst l;exact a0d _ _ _ _ a5)) (λO l=>?_) (by rw [a0c];exact a0g _) (ch.out G.out)⟩,?_⟩
      · rw [a0c];rcases s with s|s
        · exact au.lt k s
        · exact s.2
      · have l:some M=some O:=l;injection l with l
        subst l;exact ⟨.inr ⟨by omega,cQ.2⟩, .inr (λR=>by have:=d2.out _ R;omega)⟩
      · have D:a0b w.heap.size w J:=a9.trans (ao.mono cx);exact ((ag.of_below D).trans (ag.of_only (aq.setCell (aq.refl p J) 1 _) r.fp)).more λk s=>by
         rcases s with s|s
         · exact .inl s
         · exact .inr s.1
end
section
open Go.RowKit Go.Maps Go.Shelf
theorem A6:(Tryz.prog.info? 64).map (λi=>(i.zero,i.size,i.bytes))=some (some (.agg #[.int .i64 0, .int .i64 0, .int .i64 0, .int .u8 0, .int .u8 0, .slice none 0 0]),6,56):=by kernel_rfl
theorem iy (l:List (RK×VX)) (h:∀p∈l,p.2.2.oneCell'=true):∀u∈l.flatMap verCells,u.oneCell'=true:=by
 intro u b;obtain ⟨p,c,b⟩:=List.mem_flatMap.1 b;simp only [verCells,a0p,a0n,or_false] at b;rcases b with rfl|rfl|rfl|rfl|rfl|rfl<;>first |rfl|exact h p c
theorem sQ {lo d:Nat} {w:a0A} {x:a0z} {b:List af} (h:ai lo d w x b):x.oneCell'=true:=by
 obtain ⟨a,c,rfl⟩:=h.shape;rfl
theorem m8 {α:Type} (enc:α->List a0z) (n:Nat) (c:∀x,(enc x).length=n) (b:List α) (q:Nat) (d:q<b.length) (y:α):(b.flatMap enc).take (q * n)++enc y++(b.flatMap enc).drop (q * n+n)=(b.set q y).flatMap enc:=by
 rw [List.set_eq_take_append_cons_drop,if_pos d,a0o,a0e,jr enc n c,jt enc n c,a0B,List.append_assoc]
theorem yy {W:a0A} {g N c:Nat} {b:List (RK×VX)} (h:W.ownsRow 0 64 6 (.slice (some ⟨g,0,none⟩) N c) N (b.flatMap verCells)) (i:b.length=N) (q:Nat) (e:q<N) (y:RK×VX):
 ((((((W.setCell ⟨g,q * 6,none⟩ (.int .i64 y.1.1)).setCell ⟨g,q * 6+1,none⟩ (.int .i64 y.1.2)).setCell ⟨g,q * 6+2,none⟩ (.int .i64 y.2.1.1)).setCell ⟨g,q * 6+3,none⟩ (.int .u8 y.2.1.2.kind.toNat)).setCell ⟨g,q * 6+4,none⟩ (.int .u8 y.2.1.2.level.toNat)).setCell ⟨g,q * 6+5,none⟩ y.2.2).ownsRow 0 64 6 (.slice (some ⟨g,0,none⟩) N c) N ((b.set q y).flatMap verCells)/\
   aq g W ((((((W.setCell ⟨g,q * 6,none⟩ (.int .i64 y.1.1)).setCell ⟨g,q * 6+1,none⟩ (.int .i64 y.1.2)).setCell ⟨g,q * 6+2,none⟩ (.int .i64 y.2.1.1)).setCell ⟨g,q * 6+3,none⟩ (.int .u8 y.2.1.2.kind.toNat)).setCell ⟨g,q * 6+4,none⟩ (.int .u8 y.2.1.2.level.toNat)).setCell ⟨g,q * 6+5,none⟩ y.2.2):=by
 have d:(b.flatMap verCells).length=N * 6:=h.1;have f:(q+1) * 6<=N * 6:=a0C 6 e;have:=cJ (verCells y) (q * 6) W _ h (by rw [d];show q * 6+6<=_;omega);rw [show q * 6+(verCells y).length=q * 6+6 from rfl,m8 verCells 6 (λ_=>rfl) b q (by omega) y] at this;exact this
theorem sc {W:a0A} {p lo b:Nat} {vN d e:a0z} {c:Nat->Prop} {k:RK} {n:Int} {r:aB} {x:a0z} (h:ai lo b W x r.fields) (g:b<=W.heap.size) (f:∀q,lo<=q->q<b->c q/\q≠p/\vN.ownBlock≠some q/\d.ownBlock≠some q/\e.ownBlock≠some q):dF (restM c p vN d e) W (k,((n,r),x)):=
 ⟨lo,b,h,g,f⟩
theorem zZ {b:List (RK×VX)} {d:ar} (h:b.map (λp=>(p.1,p.2.1))=d.vs) (k:RK) (v:Int×aB) (x:a0z):(insL ltRK b k (v,x)).map (λp=>(p.1,p.2.1))=insL ltRK d.vs k v:=by
 rw [<- h];exact tX ltRK (λp:VX=>p.1) b k (v,x)
theorem Aj (F:Nat->Prop) (w0 w:a0A) (p:Nat) (d:ar) (hm:bM F w0 p d) (cs:a0b w0.heap.size w0 w) (k:RK) (n:Int) (f lv:UInt8) (b:List af) (x:a0z) (hx:ai w0.heap.size w.heap.size w x b) (bA:bL b) (E:rkOk k) (hn:i64B n):
 a0E a0m 46 #[.pointer (some ⟨p,0,none⟩),jT k n ⟨f,lv,b⟩ x] w λe w'=>e= .returned (.int .i64 (putC d k n ⟨f,lv,b⟩).2)/\∃F',bM F' w' p (putC d k n ⟨f,lv,b⟩).1/\ag F w0 F' w':=by
 obtain ⟨v1,v2,v3,t,h⟩:=hm;have a7:=a0a h.lt;obtain ⟨A,C,rfl⟩:=hx.shape;obtain ⟨l,s⟩:=k;obtain ⟨w1,cc⟩:∃w1,w.alloc (.cells #[.int .i64 l, .int .i64 s, .int .i64 n, .int .u8 f.toNat, .int .u8 lv.toNat, .slice A b.length C] 64)=w1:=⟨_,rfl⟩;have d6:a0b w.heap.size w w1:=by rw [<- cc];exact (a0v _ w).alloc (a0g _) _
 have O:=a0f w (.cells #[.int .i64 l, .int .i64 s, .int .i64 n, .int .u8 f.toNat, .int .u8 lv.toNat, .slice A b.length C] 64);rw [cc] at O;have HK:=a0a O;have D:=a0a ((h.below cs).below d6);have b8:Hid (a0b w0.heap.size w0 w1):=cs.trans (d6.mono cs.size);have d1:w1.heap.size=w.heap.size+1:=by rw [<- cc];simp
 have av:=a0a d1;have b9:Hid (w0.heap.size<=w.heap.size):=cs.size;have HX:Hid (ai w0.heap.size w.heap.size w1 (.slice A b.length C) b):=hx.kept (λq _ L=>d6.block q L);have gi:=a0a cc;have bc:Hid (a0E a0m 85 #[.agg #[.int .u8 f.toNat, .int .u8 lv.toNat, .slice A b.length C]] (w.alloc (.cells #[.int .i64 l, .int .i64 s, .int .i64 n, .int .u8 f.toNat, .int .u8 lv.toNat, .slice A b.length C] 64)) λe w'=>e= .returned (.bool (decide (wrongR ⟨f,lv,b⟩=0)))/\a0b w1.heap.size w1 w'):=by unfold Hid;rw [cc];exact wL ⟨f,lv,b⟩ _ w1 ⟨_,rfl,HX.out.mono (a0l _) (by omega)⟩ bA
 have bB:Hid (∀W,a0b w1.heap.size w1 W->(W.cell? ⟨w.heap.size,0,none⟩=some (.int .i64 l)/\W.cell? ⟨w.heap.size,1,none⟩=some (.int .i64 s)/\W.cell? ⟨w.heap.size,2,none⟩=some (.int .i64 n)/\W.cell? ⟨w.heap.size,3,none⟩=some (.int .u8 f.toNat)/\W.cell? ⟨w.heap.size,4,none⟩=some (.int .u8 lv.toNat)/\W.cell? ⟨w.heap.size,5,none⟩=some (.slice A b.length C))):=λW H=>
  jY ((H.block _ (by omega)).trans O)
 have gf:=a0a bA;clear d6 d1 cc O cs hx bA;unfold jT;dsimp only;by_cases hr:wrongR ⟨f,lv,b⟩=0
 · rw [decide_eq_true hr] at bc;have dB:Hid (putX d (l,s) n ⟨f,lv,b⟩=0->aY {d with vs:=insL ltRK d.vs (l,s) (n,⟨f,lv,b⟩)}):=λhx=>h.ok.put E hn hr hx;have bO:=a0a (put_eq d (l,s) n ⟨f,lv,b⟩ hr);have b7:Hid (∀W,a0b w1.heap.size w1 W->a0E a0m 86 #[.pointer (some ⟨p,0,none⟩), .agg #[.int .i64 l, .int .i64 s]] W λe w'=>e= .returned (.tuple #[.int .i64 (placeK ltRK t (l,s)), .bool (findK t (l,s)).isSome])/\a0b W.heap.size W w'):=λW H=>rH F W p v1 v2 v3 t d (D.below H) (l,s);have cP:=gc (lt:=ltRK) t (l,s);have f5:=h.lx;have g5:=a0a h.len;have g6:=a0a h.vx;have c7:findK d.vs (l,s)=(findK t (l,s)).map (·.1):=by rw [<- h.vx];exact qO t (l,s)
   have c2:=a0a (zZ h.vx (l,s) (n,(⟨f,lv,b⟩:aB)) (.slice A b.length C));clear hr;cases hf:findK t (l,s) with
   |some m=>
    obtain ⟨⟨M,ax,ay,a5⟩,x'⟩:=m;obtain ⟨L,he⟩:=j8 aL h.sx hf;have a9:=a0a (oE aL h.sx hf ((n,(⟨f,lv,b⟩:aB)), .slice A b.length C));have eq:((l,s),((M,(⟨ax,ay,a5⟩:aB)),x'))∈t:=by rw [<- he];exact List.getElem_mem L
    obtain ⟨gP,gs,c9,f4,_⟩:=D.fx _ eq;dsimp only at c9;obtain ⟨da,dc,rfl⟩:=c9.shape;have fr:Hid (ai 0 w1.heap.size w1 (.slice da a5.length dc) a5):=c9.mono (a0l _) f4;have g3:Hid (bL a5):=by
     have gb:((l,s),(M,(⟨ax,ay,a5⟩:aB)))∈d.vs:=by rw [<- g6.out];exact List.mem_map.2 ⟨_,eq,rfl⟩
     exact (eF (h.ok.right _ gb)).2.2
    obtain ⟨g,c,hv,hg,hc⟩:=eu (enc:=verCells) (λ_=>rfl) D.vs _ L;rw [he] at hc;rw [hf] at c7;have au:Hid (putX d (l,s) n ⟨f,lv,b⟩=aV true (decide (M=n)&&decide ((⟨ax,ay,a5⟩:aB)=⟨f,lv,b⟩)) M n d.vs.length):=by unfold Hid putX;rw [c7];rfl
    rw [hf] at b7;obtain ⟨q,cb⟩:∃q,placeK ltRK t (l,s)=q:=⟨_,rfl⟩;rw [cb] at b7 L hc a9;have HE:Hid (∃L:q<t.length,t[q]=((l,s),((M,(⟨ax,ay,a5⟩:aB)), .slice da a5.length dc))):=by subst cb;exact ⟨L,he⟩
    have HC:=a0a hc;obtain ⟨N,hN⟩:∃N,t.length=N:=⟨_,rfl⟩;rw [hN] at hv L f5;have HN:=a0a hN;subst hv;have gt:(q:Int)<(N:Int):=by omega
    have aS:Hid (∀W,a0b w1.heap.size w1 W->W.cell? ⟨p,0,none⟩=some (.slice (some ⟨g,0,none⟩) N c)/\W.cell? ⟨g,q * 6+2,none⟩=some (.int .i64 M)/\W.cell? ⟨g,q * 6+3,none⟩=some (.int .u8 ax.toNat)/\W.cell? ⟨g,q * 6+4,none⟩=some (.int .u8 ay.toNat)/\W.cell? ⟨g,q * 6+5,none⟩=some (.slice da a5.length dc)):=λW H=>
     ⟨(aa ((H.block _ (D.lt p D.fp)).trans D.blk) 0).trans rfl,((aE H).1 g _ hg).trans (HC 2 _ rfl),((aE H).1 g _ hg).trans (HC 3 _ rfl),((aE H).1 g _ hg).trans (HC 4 _ rfl),((aE H).1 g _ hg).trans (HC 5 _ rfl)⟩
    have es:Hid (∀W,a0b w1.heap.size w1 W->a0E a0m 87 #[.agg #[.int .u8 ax.toNat, .int .u8 ay.toNat, .slice da a5.length dc], .agg #[.int .u8 f.toNat, .int .u8 lv.toNat, .slice A b.length C]] W λe w'=>e= .returned (.bool (sameR ⟨ax,ay,a5⟩ ⟨f,lv,b⟩))/\a0b W.heap.size W w'):=λW H=>
     yq ax ay f lv a5 b _ _ W ((fr.out.kept (λq _ L=>H.block q L)).mono (a0g _) H.size) ((HX.out.kept (λq _ L=>H.block q (by have:=av.out;omega))).mono (a0l _) (by have:=H.size;have:=av.out;omega)) g3.out
    obtain ⟨sm,bA⟩:∃sm,sameR ⟨ax,ay,a5⟩ ⟨f,lv,b⟩=sm:=⟨_,rfl⟩;rw [bA] at es;have g4:Hid (decide ((⟨ax,ay,a5⟩:aB)=⟨f,lv,b⟩)=sm):=by unfold Hid;rw [<- bA,Bool.eq_iff_iff,decide_eq_true_eq,mL]
    rw [g4.out] at au;clear hc he cb hN hf cP h L c7 eq c9 f4 bA;have ac:=a0a (λW H=>(⟨aS W H,bB W H⟩:_/\_));go_enter Tryz.func46,Tryz.ntmps46
    go_upto_region 6 with (first
     |(go_at_call 85;((with_reducible refine a0k bc.out ?_);rintro e w2 ⟨rfl,a3⟩;obtain ⟨t0,t1,t2,t3,t4,t5⟩:=bB.out w2 a3;have Z:=a0a a3;clear a3))
     |(go_at_call 86;((with_reducible refine a0k (b7.out _ Z.out) ?_);rintro e T ⟨rfl,ao⟩;have U:Hid (a0b w1.heap.size w1 T):=Z.out.trans (ao.mono Z.out.size);clear ao t0 t1 t2 t3 t4 t5)))
    have Y:a0b w1.heap.size w1 T.drew:=U.drew;refine wT (λW=>a0b w1.heap.size w1 W) 999 ?_;have z:=tkL [0,4,8,1,9,2,3,5,6,7];repeat (refine tkIS z ?_ rfl Y ?_ ?_;rotate_left;intro w' h;obtain ⟨⟨s0,s2,s3,s4,s5⟩,t0,t1,t2,t3,t4,t5⟩:=ac w' h;go_simp;rfl;(try go_simp);replace z:=tkO z)
    clear z;refine dO 10 rfl λK O=>?_;go_simp;go_at_call 87;refine (es _ Y).mono ?_;rintro e J ⟨rfl,c3⟩;have R:a0b w1.heap.size w1 J:=Y.trans (c3.mono Y.size);refine O _ _ (λ_=>R) ?_;clear O K;refine tkS 11 ?_ rfl R ?_ ?_;rotate_left;intro w' h;go_simp;rfl;try go_simp
    refine dN ?_;have ad:=a0a R;clear c3 R Y;have b3:a0b w1.heap.size w1 J.drew:=ad.drew;rcases a0D M n with cy|cy|cy
    · have a0:Hid (putX d (l,s) n ⟨f,lv,b⟩=0):=by unfold Hid;rw [au.out,decide_eq_false (show M≠n by omega)];unfold aV;simp;omega
      have a4:Hid (putC d (l,s) n ⟨f,lv,b⟩=({d with vs:=insL ltRK d.vs (l,s) (n,⟨f,lv,b⟩)},0)):=by unfold Hid;rw [bO.out,if_pos a0.out]
      have f1:(M==n)=false:=by simp;omega
      have f2:¬(M=n):=by omega
      have f3:¬(n<=M):=by omega
      clear cy;go_wp2_with fail
      refine wT (λW=>a0b w1.heap.size w1 W) 999 ?_;have z:=tkL [0,1,2,3,4,5,6,7,8,9,10,11];repeat (refine tkIS z ?_ rfl b3 ?_ ?_;rotate_left;intro w' h;obtain ⟨⟨s0,s2,s3,s4,s5⟩,t0,t1,t2,t3,t4,t5⟩:=ac w' h;go_simp;rfl;(try go_simp);replace z:=tkO z)
      clear z;refine tfS 12 rfl b3 ?_;(try go_simp)
      refine tkS 13 ?_ rfl b3 ?_ ?_;rotate_left;intro w' h;go_simp;rfl;try go_simp
      refine dN ?_;go_wp2_with fail
      have a6:a0b w1.heap.size w1 J.drew.drew:=ad.drew.drew;refine wT (λW=>a0b w1.heap.size w1 W) 999 ?_;have z:=tkL [0,1,2,3,4,5,6,7,8,9,10];repeat (refine tkIS z ?_ rfl a6 ?_ ?_;rotate_left;intro w' h;obtain ⟨⟨s0,s2,s3,s4,s5⟩,t0,t1,t2,t3,t4,t5⟩:=ac w' h;go_simp;rfl;(try go_simp);replace z:=tkO z)
      clear z;refine dN ?_;go_wp2_with fail
      have bb:a0b w1.heap.size w1 J.drew.drew.drew:=ad.drew.drew.drew;refine wT (λW=>a0b w1.heap.size w1 W) 7 ?_;have z:=tkL [0,4,5,1,2,3,6];repeat (refine tkI z ?_ rfl bb ?_ ?_;rotate_left;intro w' h;obtain ⟨⟨s0,s2,s3,s4,s5⟩,t0,t1,t2,t3,t4,t5⟩:=ac w' h;go_simp;rfl;(try go_simp);replace z:=tkO z)
      clear z;obtain ⟨W5,eQ⟩:∃W5,J.drew.drew.drew=W5:=⟨_,rfl⟩;rw [eQ] at bb ⊢;have d3:=a0a bb;have a8:=(D.below bb).vs;rw [HN.out] at a8;have g1:=a0a a8;have z0:=a8.frozenAt (q * 6);have z1:=a8.frozenAt (q * 6+1);have z2:=a8.frozenAt (q * 6+2);have z3:=a8.frozenAt (q * 6+3);have z4:=a8.frozenAt (q * 6+4);have z5:=a8.frozenAt (q * 6+5);have y0:W5.cell? ⟨g,q * 6,none⟩=some (.int .i64 l):=((aE bb).1 g _ hg).trans (HC 0 _ rfl);have y1:W5.cell? ⟨g,q * 6+1,none⟩=some (.int .i64 s):=((aE bb).1 g _ hg).trans (HC 1 _ rfl);obtain ⟨s0,s2,s3,s4,s5⟩:=aS W5 bb;clear eQ a8 bb b3 a6;refine dO 7 rfl λK O=>?_;go_simp;refine O _ _ (λh=>absurd rfl h) ?_;clear O K;refine dN ?_;obtain ⟨d0,d8⟩:=yy g1.out HN.out q (by omega) ((l,s),((n,(⟨f,lv,b⟩:aB)), .slice A b.length C));rw [<- a9.out] at d0;dsimp only at d0 d8;obtain ⟨W6,d5⟩:∃W6,((((((W5.setCell ⟨g,q * 6,none⟩ (.int .i64 l)).setCell ⟨g,q * 6+1,none⟩ (.int .i64 s)).setCell ⟨g,q * 6+2,none⟩ (.int .i64 n)).setCell ⟨g,q * 6+3,none⟩ (.int .u8 f.toNat)).setCell ⟨g,q * 6+4,none⟩ (.int .u8 lv.toNat)).setCell ⟨g,q * 6+5,none⟩ (.slice A b.length C))=W6:=⟨_,rfl⟩;rw [d5] at d0 d8 ⊢;have g2:=a0a d0;have al:=a0a d8;clear d5 d0 d8 s0 s2 s3 s4 s5 z0 z1 z2 z3 z4 z5 y0 y1;go_wp2_with fail
      go_ret;rw [a4.out];refine ⟨rfl,?_⟩;have d4:=D.below d3.out;have g9:N=(insL ltRK t (l,s) ((n,(⟨f,lv,b⟩:aB)), .slice A b.length C)).length:=by rw [a9.out,a0F,HN.out]
      have f0:=D.f1 g rfl;have g8:g≠p:=eb D.vs D.blk (by decide) rfl;have gO:W6.heap.size=W5.heap.size:=al.size;have gz:=d3.size;have fl:=b9.out;have d1:=av.out;refine ⟨λk=>F k∨(w0.heap.size<=k/\k<W6.heap.size),⟨.slice (some ⟨g,0,none⟩) N c,v2,v3,insL ltRK t (l,s) ((n,(⟨f,lv,b⟩:aB)), .slice A b.length C),?_⟩,?_⟩
      · rw [<- c2.out];refine d4.put1 (vN:= .slice (some ⟨g,0,none⟩) N c) (λk E=> .inl E) (λk E=>?_) (λk _ _ b1=>al.out.block k (λe=>b1 (by rw [e];rfl))) ((al.out.block p (Ne.symm g8)).trans d4.blk) (g9 ▸ g2.out) (λg' G=>⟨.inl (d4.f1 g' G), .inl G⟩) (by omega) (by rw [c2.out];exact dB.out a0.out) (λy I=>?_)
        · rcases E with E|E
          · have:=d4.lt k E;omega
          · exact E.2
        · rw [a9.out] at I;rcases List.mem_or_eq_of_mem_set I with I|rfl
          · exact .inl I
          · refine .inr (sc (r:=⟨f,lv,b⟩) ((HX.out.kept (λq _ L=>d3.out.block q (by omega))).kept (λq h1 _=>al.out.block q (λe=>by have:=a7.out g f0;omega))) (by omega) λq h1 h2=>⟨.inr ⟨h1,by omega⟩,λe=>by have:=a7.out p D.out.fp;omega,λe=>by have:=a7.out q (D.out.f1 q e);omega,λe=>by have:=a7.out q (D.out.f2 q e);omega,λe=>by have:=a7.out q (D.out.f3 q e);omega⟩)
      · have H:a0b w0.heap.size w0 W5:=b8.out.trans (d3.out.mono (by omega));exact ((ag.of_below H).trans (ag.of_only al.out f0)).more λk E=>by
         rcases E with E|E
         · exact .inl E
         · exact .inr E.1
    · subst cy;have f1:(M==M)=true:=by simp
      have f3:M<=M:=Int.le_refl _;cases sm
      · have a0:Hid (putX d (l,s) M ⟨f,lv,b⟩=30):=by unfold Hid;rw [au.out,decide_eq_true rfl];unfold aV;simp
        have a4:Hid (putC d (l,s) M ⟨f,lv,b⟩=(d,30)):=by unfold Hid;rw [bO.out,if_neg (by rw [a0.out];decide),a0.out]
        go_wp2_with fail
        refine wT (λW=>a0b w1.heap.size w1 W) 999 ?_;have z:=tkL [0,1,2,3,4,5,6,7,8,9,10,11,12,13];repeat (refine tkIS z ?_ rfl b3 ?_ ?_;rotate_left;intro w' h;obtain ⟨⟨s0,s2,s3,s4,s5⟩,t0,t1,t2,t3,t4,t5⟩:=ac w' h;go_simp;rfl;(try go_simp);replace z:=tkO z)
        clear z;refine dN ?_;go_wp2_with fail
        have a6:a0b w1.heap.size w1 J.drew.drew:=ad.drew.drew;refine wT (λW=>a0b w1.heap.size w1 W) 999 ?_;have z:=tkL [0,1,2,3,4,5,6,7,8,9,10];repeat (refine tkIS z ?_ rfl a6 ?_ ?_;rotate_left;intro w' h;obtain ⟨⟨s0,s2,s3,s4,s5⟩,t0,t1,t2,t3,t4,t5⟩:=ac w' h;go_simp;rfl;(try go_simp);replace z:=tkO z)
        clear z;refine dN ?_;go_wp2_with fail
        go_ret;rw [a4.out];exact ⟨rfl,F,⟨_,_,_,_,D.out.below ad.out.drew.drew⟩,ag.of_below (b8.out.trans (ad.out.drew.drew.mono (by have:=b9.out;have:=av.out;omega)))⟩
      · have a0:Hid (putX d (l,s) M ⟨f,lv,b⟩=22):=by unfold Hid;rw [au.out,decide_eq_true rfl];rfl
        have a4:Hid (putC d (l,s) M ⟨f,lv,b⟩=(d,22)):=by unfold Hid;rw [bO.out,if_neg (by rw [a0.out];decide),a0.out]
        go_wp2_with fail
        refine wT (λW=>a0b w1.heap.size w1 W) 999 ?_;have z:=tkL [0,1,2,3,4,5,6,7,8,9,10,11,12,13];repeat (refine tkIS z ?_ rfl b3 ?_ ?_;rotate_left;intro w' h;obtain ⟨⟨s0,s2,s3,s4,s5⟩,t0,t1,t2,t3,t4,t5⟩:=ac w' h;go_simp;rfl;(try go_simp);replace z:=tkO z)
        clear z;refine dN ?_;go_wp2_with fail
        go_ret;rw [a4.out];exact ⟨rfl,F,⟨_,_,_,_,D.out.below ad.out.drew⟩,ag.of_below (b8.out.trans (ad.out.drew.mono (by have:=b9.out;have:=av.out;omega)))⟩
    · have a0:Hid (putX d (l,s) n ⟨f,lv,b⟩=30):=by unfold Hid;rw [au.out,decide_eq_false (show M≠n by omega)];unfold aV;simp;omega
      have a4:Hid (putC d (l,s) n ⟨f,lv,b⟩=(d,30)):=by unfold Hid;rw [bO.out,if_neg (by rw [a0.out];decide),a0.out]
      have f1:(M==n)=false:=by simp;omega
      have f2:¬(M=n):=by omega
      have f3:n<=M:=by omega
      clear cy;go_wp2_with fail
      refine wT (λW=>a0b w1.heap.size w1 W) 999 ?_;have z:=tkL [0,1,2,3,4,5,6,7,8,9,10,11];repeat (refine tkIS z ?_ rfl b3 ?_ ?_;rotate_left;intro w' h;obtain ⟨⟨s0,s2,s3,s4,s5⟩,t0,t1,t2,t3,t4,t5⟩:=ac w' h;go_simp;rfl;(try go_simp);replace z:=tkO z)
      clear z;refine tfS 12 rfl b3 ?_;(try go_simp)
      refine tkS 13 ?_ rfl b3 ?_ ?_;rotate_left;intro w' h;go_simp;rfl;try go_simp
      refine dN ?_;go_wp2_with fail
      have a6:a0b w1.heap.size w1 J.drew.drew:=ad.drew.drew;refine wT (λW=>a0b w1.heap.size w1 W) 999 ?_;have z:=tkL [0,1,2,3,4,5,6,7,8,9,10];repeat (refine tkIS z ?_ rfl a6 ?_ ?_;rotate_left;intro w' h;obtain ⟨⟨s0,s2,s3,s4,s5⟩,t0,t1,t2,t3,t4,t5⟩:=ac w' h;go_simp;rfl;(try go_simp);replace z:=tkO z)
      clear z;refine dN ?_;go_wp2_with fail
      go_ret;rw [a4.out];exact ⟨rfl,F,⟨_,_,_,_,D.out.below ad.out.drew.drew⟩,ag.of_below (b8.out.trans (ad.out.drew.drew.mono (by have:=b9.out;have:=av.out;omega)))⟩
   |none=>
    have a9:=a0a (oG aL h.sx hf ((n,(⟨f,lv,b⟩:aB)), .slice A b.length C));rw [hf] at c7;have au:Hid (putX d (l,s) n ⟨f,lv,b⟩=if 5000<=d.vs.length then 2 else 0):=by unfold Hid putX;rw [c7];show aV false _ _ _ _=_;unfold aV;simp
    rw [<- g5.out] at au;rw [hf] at b7;obtain ⟨q,cb⟩:∃q,placeK ltRK t (l,s)=q:=⟨_,rfl⟩;rw [cb] at b7 cP a9;obtain ⟨N,hN⟩:∃N,t.length=N:=⟨_,rfl⟩;rw [hN] at f5 cP au;have HN:=a0a hN;obtain ⟨va,vc,hv⟩:=aK h.vs;rw [hN] at hv;subst hv;have aS:Hid (∀W,a0b w1.heap.size w1 W->W.cell? ⟨p,0,none⟩=some (.slice va N vc)):=λW H=>(aa ((H.block _ (D.lt p D.fp)).trans D.blk) 0).trans rfl;have ac:=a0a (λW H=>(⟨aS W H,bB W H⟩:_/\_));have d2:Hid (∀q∈t,q.2.2.oneCell'=true):=λq L=>by obtain ⟨_,_,c9,_⟩:=D.fx q L;exact sQ c9
    clear cb hN hf h c7;by_cases h5:5000<=N
    · have a0:Hid (putX d (l,s) n ⟨f,lv,b⟩=2):=by unfold Hid;rw [au.out,if_pos h5]
      have a4:Hid (putC d (l,s) n ⟨f,lv,b⟩=(d,2)):=by unfold Hid;rw [bO.out,if_neg (by rw [a0.out];decide),a0.out]
      have g7:(5000:Int)<=(N:Int):=by omega
      go_enter Tryz.func46,Tryz.ntmps46
      go_wp2_with (first
       |(go_at_call 85;((with_reducible refine a0k bc.out ?_);rintro e w2 ⟨rfl,a3⟩;obtain ⟨t0,t1,t2,t3,t4,t5⟩:=bB.out w2 a3;have Z:=a0a a3;clear a3))
       |(go_at_call 86;((with_reducible refine a0k (b7.out _ Z.out) ?_);rintro e T ⟨rfl,ao⟩;have U:Hid (a0b w1.heap.size w1 T):=Z.out.trans (ao.mono Z.out.size);have s0:=aS.out T U.out;clear ao t0 t1 t2 t3 t4 t5)))
      go_ret;rw [a4.out];exact ⟨rfl,F,⟨_,_,_,_,D.out.below U.out⟩,ag.of_below (b8.out.trans (U.out.mono (by have:=b9.out;have:=av.out;omega)))⟩
    · have a0:Hid (putX d (l,s) n ⟨f,lv,b⟩=0):=by unfold Hid;rw [au.out,if_neg h5]
      have a4:Hid (putC d (l,s) n ⟨f,lv,b⟩=({d with vs:=insL ltRK d.vs (l,s) (n,⟨f,lv,b⟩)},0)):=by unfold Hid;rw [bO.out,if_pos a0.out]
      have g7:¬((5000:Int)<=(N:Int)):=by omega
      have gy:(q:Int)<=(N:Int):=by omega
      obtain ⟨i0,hi,f8,f9,fc⟩:=info_parts A6;have HI:=a0a hi;have bY:=a0a f8;have c0:=a0a f9;have c1:=a0a fc;clear hi f8 f9 fc;rcases D.vs.2 with ⟨hv,f6⟩|⟨g,gn,gp,hv,_,_,ex,_⟩
      · injection hv with e1 e2 e3
        subst e1 e3;rw [HN.out] at f6;subst f6;obtain rfl:q=0:=by omega
        have e7:Hid (∀W,a0b w1.heap.size w1 W->aH 0 w1.heap.size W (.slice none 0 0) 0 ((t.drop 0).flatMap verCells)):=λW H=>by have:t=[]:=a0w HN.out;rw [this];exact ⟨none,0,rfl,λh=>absurd rfl h⟩
        have e8:Hid (∀W,a0b w1.heap.size w1 W->aH 0 w1.heap.size W (.slice none 0 0) 0 ((t.take 0).flatMap verCells)):=λW H=>⟨none,0,rfl,λh=>absurd rfl h⟩;clear e2;have e5:Hid (((t.take 0).flatMap verCells).length=0 * 6):=by unfold Hid;rw [bP verCells 6 (λ_=>rfl),a0i,HN.out,a0u (by omega)]
        have ch:Hid (((t.drop 0).flatMap verCells).length=(0) * 6):=by unfold Hid;rw [bP verCells 6 (λ_=>rfl),a0j,HN.out]
        have dx:Hid (([.int .i64 l, .int .i64 s, .int .i64 n, .int .u8 f.toNat, .int .u8 lv.toNat, .slice A b.length C]++(t.drop 0).flatMap verCells:List a0z).length=(1+(0)) * 6):=by unfold Hid;rw [a0h,ch.out];show 6+_=_;omega
        have dk:Hid ((insL ltRK t (l,s) ((n,(⟨f,lv,b⟩:aB)), .slice A b.length C)).flatMap verCells=([]++(t.take 0).flatMap verCells)++([.int .i64 l, .int .i64 s, .int .i64 n, .int .u8 f.toNat, .int .u8 lv.toNat, .slice A b.length C]++(t.drop 0).flatMap verCells)):=by unfold Hid;rw [a9.out,a0o,a0e];rfl
        have ds:Hid ((insL ltRK t (l,s) ((n,(⟨f,lv,b⟩:aB)), .slice A b.length C)).length=0+(1+(0))):=by unfold Hid;rw [a9.out,a0h,a0s,a0i,a0j,HN.out];omega
        have e0:Hid (∀u∈(t.take 0).flatMap verCells,u.oneCell'=true):=iy _ λq L=>d2 q (a0x L);have cm:Hid (∀u∈(t.drop 0).flatMap verCells,u.oneCell'=true):=iy _ λq L=>d2 q (a0y L);have e4:Hid (∀u∈[.int .i64 l, .int .i64 s, .int .i64 n, .int .u8 f.toNat, .int .u8 lv.toNat, .slice A b.length C]++(t.drop 0).flatMap verCells,u.oneCell'=true):=λu hu=>by
         rcases List.mem_append.1 hu with hu|hu
         · simp only [a0p,a0n,or_false] at hu;rcases hu with rfl|rfl|rfl|rfl|rfl|rfl<;>rfl
         · exact cm u hu
        have dy:Hid (∀y∈insL ltRK t (l,s) ((n,(⟨f,lv,b⟩:aB)), .slice A b.length C),y∈t∨y=((l,s),((n,(⟨f,lv,b⟩:aB)), .slice A b.length C))):=λy I=>by
         rw [a9.out] at I;rcases List.mem_append.1 I with I|I
         · exact .inl (a0x I)
         · rcases List.mem_cons.1 I with I|I
           · exact .inr I
           · exact .inl (a0y I)
        generalize (t.take 0).flatMap verCells=TK at *;generalize (t.drop 0).flatMap verCells=DR at *;go_enter Tryz.func46,Tryz.ntmps46
        go_upto_region 15 with (first
         |(go_at_call 85;((with_reducible refine a0k bc.out ?_);rintro e w2 ⟨rfl,a3⟩;obtain ⟨t0,t1,t2,t3,t4,t5⟩:=bB.out w2 a3;have Z:=a0a a3;clear a3))
         |(go_at_call 86;((with_reducible refine a0k (b7.out _ Z.out) ?_);rintro e T ⟨rfl,ao⟩;have U:Hid (a0b w1.heap.size w1 T):=Z.out.trans (ao.mono Z.out.size);have s0:=aS.out T U.out;clear ao t0 t1 t2 t3 t4 t5)))
        clear s0;have bw:a0b w1.heap.size w1 T.drew:=U.drew;refine wT (λW=>a0b w1.heap.size w1 W) 999 ?_;have z:=tkL [0,2,6,3,4,5];repeat (refine tkIS z ?_ rfl bw ?_ ?_;rotate_left;intro w' h;obtain ⟨s0,t0,t1,t2,t3,t4,t5⟩:=ac w' h;go_simp;rfl;(try go_simp);replace z:=tkO z)
        clear z;refine bT (i:=7) (v:= .slice none 0 0) rfl (by kernel_rfl) (by kernel_rfl) (by kernel_rfl) (by rfl) (λ_ _ _ h=>h) bw (a0G ⟨by rfl,?_⟩) ?_;focus (intro w' h;(first |(go_simp;done)|(go_simp;rfl)))
        (try go_simp)
        refine dO 1 rfl λK O=>?_;go_simp;obtain ⟨W3,b0⟩:∃W3,(T.alloc (.cells #[.int .i64 l, .int .i64 s, .int .i64 n, .int .u8 f.toNat, .int .u8 lv.toNat, .slice A b.length C] 64)).drew=W3:=⟨_,rfl⟩;have Y:a0b w1.heap.size w1 W3:=by rw [<- b0];exact (U.out.alloc U.out.size _).drew
        have cx:W3.ownsRow w1.heap.size 64 6 (.slice (some ⟨T.heap.size,0,none⟩) 1 1) 1 [.int .i64 l, .int .i64 s, .int .i64 n, .int .u8 f.toNat, .int .u8 lv.toNat, .slice A b.length C]:=by rw [<- b0];exact a0r (base:=w1.heap.size) (e:=64) (size:=6) T #[.int .i64 l, .int .i64 s, .int .i64 n, .int .u8 f.toNat, .int .u8 lv.toNat, .slice A b.length C] 1 U.out.size (by unfold maxLen;omega) rfl
        rw [b0];refine O _ _ (λ_=>Y) ?_;clear O K;clear b0;obtain ⟨b4,c4,J,cQ,bt,cu,c3⟩:=bf (P:=a0m) W3 w1.heap.size 30 30 64 i0 (.agg #[.int .i64 0, .int .i64 0, .int .i64 0, .int .u8 0, .int .u8 0, .slice none 0 0]) 6 56 Tryz.underlying30 HI.out bY.out c0.out c1.out rfl (by decide) T.heap.size 1 1 [.int .i64 l, .int .i64 s, .int .i64 n, .int .u8 f.toNat, .int .u8 lv.toNat, .slice A b.length C] cx w1.heap.size (.slice none 0 0) (0) DR (e7.out W3 Y) ch.out cm.out (by unfold maxLen;omega) (by omega) Y.size;have R:a0b w1.heap.size w1 J:=Y.grown cu Y.size (λj X=>by injection X with X;have:=U.out.size;omega);refine dO 8 rfl λK O=>?_;refine dH rfl rfl rfl cQ ?_;refine O _ _ (λ_=>R) ?_;clear O K;go_simp;refine tkS 9 ?_ rfl R ?_ ?_;rotate_left;intro w' h;go_simp;rfl;try go_simp
        refine dN ?_;have dz:=a0a bt;have g0:=a0a R;have eg:b4<J.heap.size:=(bt.lt b4 rfl).2;have dd:=a0a (cX (B:=w1.heap.size) (e:=64) (k:=6) (w:=J.alloc (.cells #[] 64)) (a0f J _) R.size);have aC:Hid (a0b w1.heap.size w1 (J.alloc (.cells #[] 64))):=R.alloc R.size _;have cg:Hid (w1.heap.size<=(J.alloc (.cells #[] 64)).heap.size):=aC.size;have e6:Hid (w1.heap.size<=J.heap.size):=R.size;have s2:(J.alloc (.cells #[] 64)).cell? ⟨p,0,none⟩=some (.slice none 0 0):=aS _ aC.out;clear bt cu c3 Y bw R cx cQ
        go_wp2_with (first
         |(at_builtin;refine aA _ rfl _ _ 30 rfl w1.heap.size 64 i0 (.agg #[.int .i64 0, .int .i64 0, .int .i64 0, .int .u8 0, .int .u8 0, .slice none 0 0]) 6 56 Tryz.underlying30 HI.out bY.out c0.out c1.out rfl (by decide) J.heap.size 0 0 [] rfl dd.out w1.heap.size (.slice none 0 0) 0 TK rfl (e8.out _ aC.out) e5.out e0.out (by unfold maxLen;omega) (by omega) cg.out ?_;intro b5 c5 w5 bv bs _;have cp:Hid (a0b w1.heap.size w1 w5):=aC.out.grown bs cg.out (λj X=>by injection X with X;have:=e6.out;omega);rw [a0t] at bv;have cl:=a0a bv;have e9:Hid (w5.ownsRow w1.heap.size 64 6 (.slice (some ⟨b4,0,none⟩) (1+(0)) c4) (1+(0)) ([.int .i64 l, .int .i64 s, .int .i64 n, .int .u8 f.toNat, .int .u8 lv.toNat, .slice A b.length C]++DR)):=ah dz.out (λg' G=>by have G:some b4=some g':=G;injection G with G;subst G;rw [bs.block _ (by simp;omega) (λe=>by injection e with e;omega)];exact a0q _ _ _ eg);have cq:Hid (w1.heap.size<=w5.heap.size):=cp.out.size;clear bv bs)
         |(at_builtin;refine aA _ rfl _ _ 30 rfl w1.heap.size 64 i0 (.agg #[.int .i64 0, .int .i64 0, .int .i64 0, .int .u8 0, .int .u8 0, .slice none 0 0]) 6 56 Tryz.underlying30 HI.out bY.out c0.out c1.out rfl (by decide) b5 0 c5 ([]++TK) rfl cl.out w5.heap.size (.slice (some ⟨b4,0,none⟩) (1+(0)) c4) (1+(0)) ([.int .i64 l, .int .i64 s, .int .i64 n, .int .u8 f.toNat, .int .u8 lv.toNat, .slice A b.length C]++DR) rfl ((bm e9.out).mono (a0l _) (a0g _)) dx.out e4.out (by unfold maxLen;omega) (by omega) cq.out ?_;intro b6 c6 w6 cz cv _;have a6:a0b w1.heap.size w1 w6:=cp.out.grown cv cq.out (λj X=>by injection X with X;subst X;exact (cl.out.lt _ rfl).1);have al:=a0a cz;have b2:=(a6.block p (D.out.lt p D.out.fp)).trans D.out.blk;have y1:=(aa b2 0).trans rfl;have z1:=ab b2 0;have fz:=a0a b2;have aT:=a0a a6;clear cz cv b2 a6))
        go_ret;rw [a4.out];refine ⟨rfl,?_⟩;have bk:=D.below aT.out;have fl:=b9.out;have d1:=av.out;have d5:w1.heap.size<=w6.heap.size:=aT.size;have a8:w6.ownsRow 0 64 6 (.slice (some ⟨b6,0,none⟩) (0+(1+(0))) c6) (insL ltRK t (l,s) ((n,(⟨f,lv,b⟩:aB)), .slice A b.length C)).length ((insL ltRK t (l,s) ((n,(⟨f,lv,b⟩:aB)), .slice A b.length C)).flatMap verCells):=by rw [dk.out,ds.out];exact bE al.out (a0l _)
        have em:=al.lt b6 rfl;have gd:=a7 p D.fp;have b1:b6≠p:=λe=>by omega
        refine ⟨λk=>F k∨(w0.heap.size<=k/\k<w6.heap.size),⟨.slice (some ⟨b6,0,none⟩) (0+(1+(0))) c6,v2,v3,insL ltRK t (l,s) ((n,(⟨f,lv,b⟩:aB)), .slice A b.length C),?_⟩,?_⟩
        · rw [<- c2.out];refine bk.put1 (w':=w6.setCell ⟨p,0,none⟩ _) (vN:= .slice (some ⟨b6,0,none⟩) (0+(1+(0))) c6) (λk E=> .inl E) (λk E=>?_) (λk _ b1 _=>a0d _ _ _ _ b1) ((an bk.blk 0 _).trans rfl) (ah a8 (λg' G=>by have G:some b6=some g':=G;injection G with G;subst G;exact a0d _ _ _ _ b1)) (λg' G=>?_) (by rw [a0c];exact a0g _) (by rw [c2.out];exact dB.out a0.out) (λy I=>?_)
          · rw [a0c];rcases E with E|E
            · exact bk.lt k E
            · exact E.2
          · have G:some b6=some g':=G;injection G with G
            subst G;exact ⟨.inr ⟨by omega,em.2⟩, .inr (λhf=>by have:=a7.out _ hf;omega)⟩
          · rcases dy.out y I with I|rfl
            · exact .inl I
            · refine .inr (sc (r:=⟨f,lv,b⟩) ((HX.out.kept (λq _ L=>aT.out.block q (by omega))).kept (λq h1 _=>a0d _ _ _ _ (λ(e:q=p)=>by omega))) (by rw [a0c];omega) λq h1 h2=>⟨.inr ⟨h1,by omega⟩,λe=>by omega,λe=>by have e:some b6=some q:=e;injection e with e;omega,λe=>by have:=a7.out q (D.out.f2 q e);omega,λe=>by have:=a7.out q (D.out.f3 q e);omega⟩)
        · have H:a0b w0.heap.size w0 w6:=b8.out.trans (aT.out.mono (by omega));exact ((ag.of_below H).trans (ag.of_only (aq.setCell (aq.refl p w6) 0 _) D.fp)).more λk E=>by
           rcases E with E|E
           · exact .inl E
           · exact .inr E.1
      · injection hv with e1 e2 e3
        subst e1 e3;have ex:N<=vc:=by rw [<- HN.out];exact ex
        have gx:(q:Int)<=(vc:Int):=by omega
        have gq:(N:Int)<=(vc:Int):=by omega
        clear e2;obtain ⟨cd,er⟩:∃cd,(if vc=q then 0 else q * 6)=cd:=⟨_,rfl⟩;have ft:Hid (q<N->cd=q * 6):=λh=>by rw [<- er,if_neg (by omega)]
        have e7:Hid (∀W,a0b w1.heap.size w1 W->aH 0 w1.heap.size W (.slice (some ⟨g,cd,none⟩) (N - q) (vc - q)) (N - q) ((t.drop q).flatMap verCells)):=λW H=>by have hr:=(D.below H).vs;rw [HN.out] at hr;exact nY (enc:=verCells) (k:=6) (λ_=>rfl) hr (by rw [HN.out]) q cP ft.out (D.out.vs.lt g rfl).2
        have e8:Hid (∀W,a0b w1.heap.size w1 W->aH 0 w1.heap.size W (.slice (some ⟨g,0,none⟩) q vc) q ((t.take q).flatMap verCells)):=λW H=>by have hr:=(D.below H).vs;rw [HN.out] at hr;exact nZ (enc:=verCells) (k:=6) (λ_=>rfl) hr q cP (D.vs.lt g rfl).2
        have fy:=a0a er;clear er;have e5:Hid (((t.take q).flatMap verCells).length=q * 6):=by unfold Hid;rw [bP verCells 6 (λ_=>rfl),a0i,HN.out,a0u (by omega)]
        have ch:Hid (((t.drop q).flatMap verCells).length=(N - q) * 6):=by unfold Hid;rw [bP verCells 6 (λ_=>rfl),a0j,HN.out]
        have dx:Hid (([.int .i64 l, .int .i64 s, .int .i64 n, .int .u8 f.toNat, .int .u8 lv.toNat, .slice A b.length C]++(t.drop q).flatMap verCells:List a0z).length=(1+(N - q)) * 6):=by unfold Hid;rw [a0h,ch.out];show 6+_=_;omega
        have dk:Hid ((insL ltRK t (l,s) ((n,(⟨f,lv,b⟩:aB)), .slice A b.length C)).flatMap verCells=([]++(t.take q).flatMap verCells)++([.int .i64 l, .int .i64 s, .int .i64 n, .int .u8 f.toNat, .int .u8 lv.toNat, .slice A b.length C]++(t.drop q).flatMap verCells)):=by unfold Hid;rw [a9.out,a0o,a0e];rfl
        have ds:Hid ((insL ltRK t (l,s) ((n,(⟨f,lv,b⟩:aB)), .slice A b.length C)).length=q+(1+(N - q))):=by unfold Hid;rw [a9.out,a0h,a0s,a0i,a0j,HN.out];omega
        have e0:Hid (∀u∈(t.take q).flatMap verCells,u.oneCell'=true):=iy _ λq L=>d2 q (a0x L);have cm:Hid (∀u∈(t.drop q).flatMap verCells,u.oneCell'=true):=iy _ λq L=>d2 q (a0y L);have e4:Hid (∀u∈[.int .i64 l, .int .i64 s, .int .i64 n, .int .u8 f.toNat, .int .u8 lv.toNat, .slice A b.length C]++(t.drop q).flatMap verCells,u.oneCell'=true):=λu hu=>by
         rcases List.mem_append.1 hu with hu|hu
         · simp only [a0p,a0n,or_false] at hu;rcases hu with rfl|rfl|rfl|rfl|rfl|rfl<;>rfl
         · exact cm u hu
        have dy:Hid (∀y∈insL ltRK t (l,s) ((n,(⟨f,lv,b⟩:aB)), .slice A b.length C),y∈t∨y=((l,s),((n,(⟨f,lv,b⟩:aB)), .slice A b.length C))):=λy I=>by
         rw [a9.out] at I;rcases List.mem_append.1 I with I|I
         · exact .inl (a0x I)
         · rcases List.mem_cons.1 I with I|I
           · exact .inr I
           · exact .inl (a0y I)
        generalize (t.take q).flatMap verCells=TK at *;generalize (t.drop q).flatMap verCells=DR at *;go_enter Tryz.func46,Tryz.ntmps46
        go_upto_region 15 with (first
         |(go_at_call 85;((with_reducible refine a0k bc.out ?_);rintro e w2 ⟨rfl,a3⟩;obtain ⟨t0,t1,t2,t3,t4,t5⟩:=bB.out w2 a3;have Z:=a0a a3;clear a3))
         |(go_at_call 86;((with_reducible refine a0k (b7.out _ Z.out) ?_);rintro e T ⟨rfl,ao⟩;have U:Hid (a0b w1.heap.size w1 T):=Z.out.trans (ao.mono Z.out.size);have s0:=aS.out T U.out;clear ao t0 t1 t2 t3 t4 t5)))
        clear s0;have bw:a0b w1.heap.size w1 T.drew:=U.drew;refine wT (λW=>a0b w1.heap.size w1 W) 999 ?_;have z:=tkL [0,2,6,3,4,5];repeat (refine tkIS z ?_ rfl bw ?_ ?_;rotate_left;intro w' h;obtain ⟨s0,t0,t1,t2,t3,t4,t5⟩:=ac w' h;go_simp;rfl;(try go_simp);replace z:=tkO z)
        clear z;refine bT (i:=7) (v:= .slice (some ⟨g,cd,none⟩) (N - q) (vc - q)) rfl (by kernel_rfl) (by kernel_rfl) (by kernel_rfl) (by rfl) (λ_ _ _ h=>h) bw (a0G ⟨by rfl,?_⟩) ?_;focus (intro w' h;go_simp;rw [<- fy.out];(first |rfl|(split<;>simp_all)))
        (try go_simp)
        refine dO 1 rfl λK O=>?_;go_simp;obtain ⟨W3,b0⟩:∃W3,(T.alloc (.cells #[.int .i64 l, .int .i64 s, .int .i64 n, .int .u8 f.toNat, .int .u8 lv.toNat, .slice A b.length C] 64)).drew=W3:=⟨_,rfl⟩;have Y:a0b w1.heap.size w1 W3:=by rw [<- b0];exact (U.out.alloc U.out.size _).drew
        have cx:W3.ownsRow w1.heap.size 64 6 (.slice (some ⟨T.heap.size,0,none⟩) 1 1) 1 [.int .i64 l, .int .i64 s, .int .i64 n, .int .u8 f.toNat, .int .u8 lv.toNat, .slice A b.length C]:=by rw [<- b0];exact a0r (base:=w1.heap.size) (e:=64) (size:=6) T #[.int .i64 l, .int .i64 s, .int .i64 n, .int .u8 f.toNat, .int .u8 lv.toNat, .slice A b.length C] 1 U.out.size (by unfold maxLen;omega) rfl
        rw [b0];refine O _ _ (λ_=>Y) ?_;clear O K;clear b0;obtain ⟨b4,c4,J,cQ,bt,cu,c3⟩:=bf (P:=a0m) W3 w1.heap.size 30 30 64 i0 (.agg #[.int .i64 0, .int .i64 0, .int .i64 0, .int .u8 0, .int .u8 0, .slice none 0 0]) 6 56 Tryz.underlying30 HI.out bY.out c0.out c1.out rfl (by decide) T.heap.size 1 1 [.int .i64 l, .int .i64 s, .int .i64 n, .int .u8 f.toNat, .int .u8 lv.toNat, .slice A b.length C] cx w1.heap.size (.slice (some ⟨g,cd,none⟩) (N - q) (vc - q)) (N - q) DR (e7.out W3 Y) ch.out cm.out (by unfold maxLen;omega) (by omega) Y.size;have R:a0b w1.heap.size w1 J:=Y.grown cu Y.size (λj X=>by injection X with X;have:=U.out.size;omega);refine dO 8 rfl λK O=>?_;refine dH rfl rfl rfl cQ ?_;refine O _ _ (λ_=>R) ?_;clear O K;go_simp;refine tkS 9 ?_ rfl R ?_ ?_;rotate_left;intro w' h;go_simp;rfl;try go_simp
        refine dN ?_;have dz:=a0a bt;have g0:=a0a R;have eg:b4<J.heap.size:=(bt.lt b4 rfl).2;have dd:=a0a (cX (B:=w1.heap.size) (e:=64) (k:=6) (w:=J.alloc (.cells #[] 64)) (a0f J _) R.size);have aC:Hid (a0b w1.heap.size w1 (J.alloc (.cells #[] 64))):=R.alloc R.size _;have cg:Hid (w1.heap.size<=(J.alloc (.cells #[] 64)).heap.size):=aC.size;have e6:Hid (w1.heap.size<=J.heap.size):=R.size;have s2:(J.alloc (.cells #[] 64)).cell? ⟨p,0,none⟩=some (.slice (some ⟨g,0,none⟩) N vc):=aS _ aC.out;clear bt cu c3 Y bw R cx cQ
        go_wp2_with (first
         |(at_builtin;refine aA _ rfl _ _ 30 rfl w1.heap.size 64 i0 (.agg #[.int .i64 0, .int .i64 0, .int .i64 0, .int .u8 0, .int .u8 0, .slice none 0 0]) 6 56 Tryz.underlying30 HI.out bY.out c0.out c1.out rfl (by decide) J.heap.size 0 0 [] rfl dd.out w1.heap.size (.slice (some ⟨g,0,none⟩) q vc) q TK rfl (e8.out _ aC.out) e5.out e0.out (by unfold maxLen;omega) (by omega) cg.out ?_;intro b5 c5 w5 bv bs _;have cp:Hid (a0b w1.heap.size w1 w5):=aC.out.grown bs cg.out (λj X=>by injection X with X;have:=e6.out;omega);rw [a0t] at bv;have cl:=a0a bv;have e9:Hid (w5.ownsRow w1.heap.size 64 6 (.slice (some ⟨b4,0,none⟩) (1+(N - q)) c4) (1+(N - q)) ([.int .i64 l, .int .i64 s, .int .i64 n, .int .u8 f.toNat, .int .u8 lv.toNat, .slice A b.length C]++DR)):=ah dz.out (λg' G=>by have G:some b4=some g':=G;injection G with G;subst G;rw [bs.block _ (by simp;omega) (λe=>by injection e with e;omega)];exact a0q _ _ _ eg);have cq:Hid (w1.heap.size<=w5.heap.size):=cp.out.size;clear bv bs)
         |(at_builtin;refine aA _ rfl _ _ 30 rfl w1.heap.size 64 i0 (.agg #[.int .i64 0, .int .i64 0, .int .i64 0, .int .u8 0, .int .u8 0, .slice none 0 0]) 6 56 Tryz.underlying30 HI.out bY.out c0.out c1.out rfl (by decide) b5 q c5 ([]++TK) rfl cl.out w5.heap.size (.slice (some ⟨b4,0,none⟩) (1+(N - q)) c4) (1+(N - q)) ([.int .i64 l, .int .i64 s, .int .i64 n, .int .u8 f.toNat, .int .u8 lv.toNat, .slice A b.length C]++DR) rfl ((bm e9.out).mono (a0l _) (a0g _)) dx.out e4.out (by unfold maxLen;omega) (by omega) cq.out ?_;intro b6 c6 w6 cz cv _;have a6:a0b w1.heap.size w1 w6:=cp.out.grown cv cq.out (λj X=>by injection X with X;subst X;exact (cl.out.lt _ rfl).1);have al:=a0a cz;have b2:=(a6.block p (D.out.lt p D.out.fp)).trans D.out.blk;have y1:=(aa b2 0).trans rfl;have z1:=ab b2 0;have fz:=a0a b2;have aT:=a0a a6;clear cz cv b2 a6))
        go_ret;rw [a4.out];refine ⟨rfl,?_⟩;have bk:=D.below aT.out;have fl:=b9.out;have d1:=av.out;have d5:w1.heap.size<=w6.heap.size:=aT.size;have a8:w6.ownsRow 0 64 6 (.slice (some ⟨b6,0,none⟩) (q+(1+(N - q))) c6) (insL ltRK t (l,s) ((n,(⟨f,lv,b⟩:aB)), .slice A b.length C)).length ((insL ltRK t (l,s) ((n,(⟨f,lv,b⟩:aB)), .slice A b.length C)).flatMap verCells):=by rw [dk.out,ds.out];exact bE al.out (a0l _)
        have em:=al.lt b6 rfl;have gd:=a7 p D.fp;have b1:b6≠p:=λe=>by omega
        refine ⟨λk=>F k∨(w0.heap.size<=k/\k<w6.heap.size),⟨.slice (some ⟨b6,0,none⟩) (q+(1+(N - q))) c6,v2,v3,insL ltRK t (l,s) ((n,(⟨f,lv,b⟩:aB)), .slice A b.length C),?_⟩,?_⟩
        · rw [<- c2.out];refine bk.put1 (w':=w6.setCell ⟨p,0,none⟩ _) (vN:= .slice (some ⟨b6,0,none⟩) (q+(1+(N - q))) c6) (λk E=> .inl E) (λk E=>?_) (λk _ b1 _=>a0d _ _ _ _ b1) ((an bk.blk 0 _).trans rfl) (ah a8 (λg' G=>by have G:some b6=some g':=G;injection G with G;subst G;exact a0d _ _ _ _ b1)) (λg' G=>?_) (by rw [a0c];exact a0g _) (by rw [c2.out];exact dB.out a0.out) (λy I=>?_)
          · rw [a0c];rcases E with E|E
            · exact bk.lt k E
            · exact E.2
          · have G:some b6=some g':=G;injection G with G
            subst G;exact ⟨.inr ⟨by omega,em.2⟩, .inr (λhf=>by have:=a7.out _ hf;omega)⟩
          · rcases dy.out y I with I|rfl
            · exact .inl I
            · refine .inr (sc (r:=⟨f,lv,b⟩) ((HX.out.kept (λq _ L=>aT.out.block q (by omega))).kept (λq h1 _=>a0d _ _ _ _ (λ(e:q=p)=>by omega))) (by rw [a0c];omega) λq h1 h2=>⟨.inr ⟨h1,by omega⟩,λe=>by omega,λe=>by have e:some b6=some q:=e;injection e with e;omega,λe=>by have:=a7.out q (D.out.f2 q e);omega,λe=>by have:=a7.out q (D.out.f3 q e);omega⟩)
        · have H:a0b w0.heap.size w0 w6:=b8.out.trans (aT.out.mono (by omega));exact ((ag.of_below H).trans (ag.of_only (aq.setCell (aq.refl p w6) 0 _) D.fp)).more λk E=>by
           rcases E with E|E
           · exact .inl E
           · exact .inr E.1
 · have a4:Hid (putC d (l,s) n ⟨f,lv,b⟩=(d,11)):=by unfold Hid putC;rw [if_pos hr]
   rw [decide_eq_false hr] at bc;clear hr;go_enter Tryz.func46,Tryz.ntmps46;go_wp2_with (go_at_call 85;((with_reducible refine a0k bc.out ?_);rintro e w2 ⟨rfl,a3⟩;have Z:=a0a a3;clear a3))
   go_ret;rw [a4.out];exact ⟨rfl,F,⟨_,_,_,_,D.out.below Z.out⟩,ag.of_below (b8.out.trans (Z.out.mono (by have:=b9.out;have:=av.out;omega)))⟩
end
section
open Go.RowKit Go.Maps Go.Shelf
theorem A7:(Tryz.prog.info? 38).map (λi=>(i.zero,i.size,i.bytes))=some (some (.agg #[.int .i64 0, .int .i64 0, .int .i64 0, .int .i64 0, .int .i64 0, .bool false]),6,48):=by kernel_rfl
theorem iR (l:List (PK×(Int×Bool))):∀u∈l.flatMap decCells,u.oneCell'=true:=by
 intro u b;obtain ⟨p,c,b⟩:=List.mem_flatMap.1 b;simp only [decCells,a0p,a0n,or_false] at b;rcases b with rfl|rfl|rfl|rfl|rfl|rfl<;>rfl
theorem zw {W:a0A} {g N c:Nat} {b:List (PK×(Int×Bool))} (h:W.ownsRow 0 38 6 (.slice (some ⟨g,0,none⟩) N c) N (b.flatMap decCells)) (i:b.length=N) (q:Nat) (e:q<N) (y:PK×(Int×Bool)):
 ((((((W.setCell ⟨g,q * 6,none⟩ (.int .i64 y.1.1.1)).setCell ⟨g,q * 6+1,none⟩ (.int .i64 y.1.1.2)).setCell ⟨g,q * 6+2,none⟩ (.int .i64 y.1.2.1)).setCell ⟨g,q * 6+3,none⟩ (.int .i64 y.1.2.2)).setCell ⟨g,q * 6+4,none⟩ (.int .i64 y.2.1)).setCell ⟨g,q * 6+5,none⟩ (.bool y.2.2)).ownsRow 0 38 6 (.slice (some ⟨g,0,none⟩) N c) N ((b.set q y).flatMap decCells)/\
   aq g W ((((((W.setCell ⟨g,q * 6,none⟩ (.int .i64 y.1.1.1)).setCell ⟨g,q * 6+1,none⟩ (.int .i64 y.1.1.2)).setCell ⟨g,q * 6+2,none⟩ (.int .i64 y.1.2.1)).setCell ⟨g,q * 6+3,none⟩ (.int .i64 y.1.2.2)).setCell ⟨g,q * 6+4,none⟩ (.int .i64 y.2.1)).setCell ⟨g,q * 6+5,none⟩ (.bool y.2.2)):=by
 have d:(b.flatMap decCells).length=N * 6:=h.1;have f:(q+1) * 6<=N * 6:=a0C 6 e;have:=cJ (decCells y) (q * 6) W _ h (by rw [d];show q * 6+6<=_;omega);rw [show q * 6+(decCells y).length=q * 6+6 from rfl,m8 decCells 6 (λ_=>rfl) b q (by omega) y] at this;exact this
theorem xi (b c g h A f d k l B:Int) (i j:Bool) (w:a0A):a0E a0m 137 #[.agg #[.int .i64 b, .int .i64 c, .int .i64 g, .int .i64 h, .int .i64 A, .bool i], .agg #[.int .i64 f, .int .i64 d, .int .i64 k, .int .i64 l, .int .i64 B, .bool j]] w λe w'=>e= .returned (.bool (ltPK ((b,c),g,h) ((f,d),k,l)))/\a0b w.heap.size w w':=by
 have t:Hid (∀W,a0E a0m 25 #[.agg #[.int .i64 b, .int .i64 c], .agg #[.int .i64 f, .int .i64 d]] W λe w'=>e= .returned (.bool (ltRK (b,c) (f,d)))/\a0b W.heap.size W w'):=λW=>iK (b,c) (f,d) W;have v:Hid (∀W,a0E a0m 25 #[.agg #[.int .i64 g, .int .i64 h], .agg #[.int .i64 k, .int .i64 l]] W λe w'=>e= .returned (.bool (ltRK (g,h) (k,l)))/\a0b W.heap.size W w'):=λW=>iK (g,h) (k,l) W;have p:Hid (ltPK ((b,c),g,h) ((f,d),k,l)=if (b,c)=(f,d) then ltRK (g,h) (k,l) else ltRK (b,c) (f,d)):=rfl;generalize ltRK (b,c) (f,d)=x at *;generalize ltRK (g,h) (k,l)=y at *;generalize ltPK ((b,c),g,h) ((f,d),k,l)=z at *;have n:Hid (∀o s,a0b w.heap.size w ((w.alloc o).alloc s)):=λo s=>((a0v _ w).alloc (a0g _) o).alloc (by simp) s;by_cases h1:b=f
 · subst h1;by_cases h2:c=d
   · subst h2;rw [if_pos rfl] at p;go_enter Tryz.func137,Tryz.ntmps137;go_wp2_with (first |(go_at_call 25;((with_reducible refine a0k (v.out _) ?_);rintro e u ⟨rfl,m⟩;have q:=a0a m;clear m)))
     go_ret;exact ⟨by rw [p.out];rfl,(n.out _ _).trans (q.out.mono (n.out _ _).size)⟩
   · have r:¬((b,c)=(b,d)):=λe=>h2 (by injection e);rw [if_neg r] at p;have C:(c !=d)=true:=by simp [h2]
     go_enter Tryz.func137,Tryz.ntmps137;go_wp2_with (first |(go_at_call 25;((with_reducible refine a0k (t.out _) ?_);rintro e u ⟨rfl,m⟩;have q:=a0a m;clear m)))
     go_ret;exact ⟨by rw [p.out];rfl,(n.out _ _).trans (q.out.mono (n.out _ _).size)⟩
 · have r:¬((b,c)=(f,d)):=λe=>h1 (by injection e);rw [if_neg r] at p;have C:(b !=f)=true:=by simp [h1]
   go_enter Tryz.func137,Tryz.ntmps137;go_wp2_with (first |(go_at_call 25;((with_reducible refine a0k (t.out _) ?_);rintro e u ⟨rfl,m⟩;have q:=a0a m;clear m)))
   go_ret;exact ⟨by rw [p.out];rfl,(n.out _ _).trans (q.out.mono (n.out _ _).size)⟩
theorem nd (F:Nat->Prop) (w:a0A) (p:Nat) (d:ar) (h:bM F w p d) (a b:RK) (n:Int) (j:Bool) (ha:rkOk a) (y:rkOk b) (hn:i64B n):
 a0E a0m 82 #[.pointer (some ⟨p,0,none⟩),recK a,recK b, .int .i64 n, .bool j] w λe w'=>e= .returned (.int .i64 (decideC d a b n j).2)/\∃F',bM F' w' p (decideC d a b n j).1/\ag F w F' w':=by
 obtain ⟨v1,v2,v3,xs,h⟩:=h;have d5:=a0a h.lt;have aT:=a0a h;have f8:Hid (∀o o',a0b w.heap.size w ((w.alloc o).alloc o')):=λo o'=>((a0v _ w).alloc (a0g _) o).alloc (by simp) o';by_cases hab:a=b
 · subst hab;have a4:Hid (decideC d a a n j=(d,1)):=by unfold Hid decideC;rw [if_pos rfl]
   obtain ⟨H,I⟩:=a;clear h;unfold recK;dsimp only;go_enter Tryz.func82,Tryz.ntmps82;go_wp2_with fail
   go_ret;rw [a4.out];exact ⟨rfl,F,⟨_,_,_,_,aT.below (f8 _ _)⟩,ag.of_below (f8 _ _)⟩
 · have d6:Hid (dU d (pairK a b) n j=0->aY {d with ps:=insL ltPK d.ps (pairK a b) (n,j)}):=λhx=>h.ok.decide hab ha y hn hx;have b3:=a0a (ju d a b n j hab);obtain ⟨H,I⟩:=a;obtain ⟨J,L⟩:=b;have d8:Hid (pairK (H,I) (J,L)=if ltRK (J,L) (H,I) then ((J,L),(H,I)) else ((H,I),(J,L))):=rfl;have fy:Hid (∀W,a0E a0m 25 #[.agg #[.int .i64 J, .int .i64 L], .agg #[.int .i64 H, .int .i64 I]] W λe w'=>e= .returned (.bool (ltRK (J,L) (H,I)))/\a0b W.heap.size W w'):=λW=>iK (J,L) (H,I) W;generalize ltRK (J,L) (H,I)=lt at *;obtain ⟨⟨⟨r,s⟩,p3,x⟩,hp⟩:∃P,pairK (H,I) (J,L)=P:=⟨_,rfl⟩;rw [hp] at d6 b3 d8;clear hp ha y;have fx:=q36 H I J L;rw [decide_eq_false hab] at fx;obtain ⟨G,cb⟩:∃G,(w.alloc (.cells #[.int .i64 H, .int .i64 I] 36)).alloc (.cells #[.int .i64 J, .int .i64 L] 36)=G:=⟨_,rfl⟩;have g5:a0b w.heap.size w G:=by rw [<- cb];exact f8.out _ _
   have gd:G.heap.size=w.heap.size+2:=by rw [<- cb];simp
   have hA:G.heap[w.heap.size]? =some (.cells #[.int .i64 H, .int .i64 I] 36 (0,0)):=by rw [<- cb,a0q _ _ _ (by simp)];exact a0f w _
   have hB:G.heap[w.heap.size+1]? =some (.cells #[.int .i64 J, .int .i64 L] 36 (0,0)):=by have:=a0f (w.alloc (.cells #[.int .i64 H, .int .i64 I] 36)) (.cells #[.int .i64 J, .int .i64 L] 36);rw [World.size_alloc,cb] at this;exact this
   have HA:=a0a hA;have b0:=a0a hB;have dy:=a0a g5;have b8:=a0a gd;have HW:=a0a cb;clear hA hB g5 gd cb hab h;unfold recK;dsimp only;go_enter Tryz.func82,Tryz.ntmps82;go_upto_region 3 with fail
   rw [HW.out];have c0:G.cell? ⟨w.heap.size,0,none⟩=some (.int .i64 H):=(aa HA.out 0).trans rfl;have c1:G.cell? ⟨w.heap.size,1,none⟩=some (.int .i64 I):=(aa HA.out 1).trans rfl;have c2:G.cell? ⟨w.heap.size+1,0,none⟩=some (.int .i64 J):=(aa b0.out 0).trans rfl;have c3:G.cell? ⟨w.heap.size+1,1,none⟩=some (.int .i64 L):=(aa b0.out 1).trans rfl;have gO:=a0a fx;clear fx;go_upto_region 4 with fail
   obtain ⟨T,a6⟩:∃T,G.alloc (.cells #[.int .i64 H, .int .i64 I, .int .i64 J, .int .i64 L, .int .i64 n, .bool j] 38)=T:=⟨_,rfl⟩;have cy:a0b G.heap.size G T:=by rw [<- a6];exact (a0v _ G).alloc (a0g _) _
   have dc:T.heap[G.heap.size]? =some (.cells #[.int .i64 H, .int .i64 I, .int .i64 J, .int .i64 L, .int .i64 n, .bool j] 38 (0,0)):=by rw [<- a6];exact a0f G _
   rw [a6];have al:=a0a cy;have gi:=a0a dc
   have e8:Hid (∀W,a0b T.heap.size T W->(W.cell? ⟨w.heap.size,0,none⟩=some (.int .i64 H)/\W.cell? ⟨w.heap.size,1,none⟩=some (.int .i64 I))/\(W.cell? ⟨w.heap.size+1,0,none⟩=some (.int .i64 J)/\W.cell? ⟨w.heap.size+1,1,none⟩=some (.int .i64 L))/\W.heap[G.heap.size]? =some (.cells #[.int .i64 H, .int .i64 I, .int .i64 J, .int .i64 L, .int .i64 n, .bool j] 38 (0,0))):=λW y=>
    have dk:a0b G.heap.size G W:=al.trans (y.mono al.size)
    ⟨⟨(aa ((dk.block _ (ae HA.out)).trans HA.out) 0).trans rfl,(aa ((dk.block _ (ae HA.out)).trans HA.out) 1).trans rfl⟩,⟨(aa ((dk.block _ (ae b0.out)).trans b0.out) 0).trans rfl,(aa ((dk.block _ (ae b0.out)).trans b0.out) 1).trans rfl⟩,(y.block _ (ae dc)).trans dc⟩
   clear cy dc a6 c0 c1 c2 c3;obtain ⟨⟨c0,c1⟩,⟨c2,c3⟩,_⟩:=e8 T (a0v _ _);go_upto_if 24 with (go_at_call 25;((with_reducible refine a0k (fy.out _) ?_);rintro e R ⟨rfl,c7⟩;have e0:=a0a c7;clear c7))
   clear c0 c1 c2 c3;go_cut [] (λwx=>Hid (a0b w.heap.size w wx/\wx.heap[G.heap.size]? =some (.cells #[.int .i64 r, .int .i64 s, .int .i64 p3, .int .i64 x, .int .i64 n, .bool j] 38 (0,0))))
   case first=>
    have dd:a0b w.heap.size w R:=dy.trans ((al.trans (e0.mono al.size)).mono dy.size);obtain ⟨⟨c0,c1⟩,⟨c2,c3⟩,c4⟩:=e8 R e0.out;cases lt
    · have HP:=d8.out;simp only [Bool.false_eq_true,if_false,Prod.mk.injEq] at HP;obtain ⟨⟨rfl,rfl⟩,rfl,rfl⟩:=HP;have e7:=a0a c4;have dz:=a0a dd;clear c4 dd;go_wp2_with fail
      go_meet;exact ⟨dz.out,e7.out⟩
    · have HP:=d8.out;simp only [if_true,Prod.mk.injEq] at HP;obtain ⟨⟨rfl,rfl⟩,rfl,rfl⟩:=HP;have z0:=ab c4 0;have z1:=ab c4 1;have z2:=ab c4 2;have z3:=ab c4 3;have y0:=(aa c4 0).trans rfl;have y1:=(aa c4 1).trans rfl;have y2:=(aa c4 2).trans rfl;have y3:=(aa c4 3).trans rfl;have e7:=a0a c4;have dz:=a0a dd;have hF:¬(G.heap.size=w.heap.size):=by have:=b8.out;omega
      have hG:¬(G.heap.size=w.heap.size+1):=by have:=b8.out;omega
      have hH:¬(w.heap.size=G.heap.size):=by have:=b8.out;omega
      have hI:¬(w.heap.size+1=G.heap.size):=by have:=b8.out;omega
      clear c4 dd;go_wp2_with fail
      go_meet;refine ⟨?_,(an (an (an (an e7.out 0 _) 1 _) 2 _) 3 _).trans rfl⟩;have hz:=b8.out;exact (((dz.out.setCell (p:=⟨G.heap.size,0,none⟩) (by simp;omega) _).setCell (p:=⟨G.heap.size,1,none⟩) (by simp;omega) _).setCell (p:=⟨G.heap.size,2,none⟩) (by simp;omega) _).setCell (p:=⟨G.heap.size,3,none⟩) (by simp;omega) _
   case rest=>
    obtain ⟨fr,hD⟩:=hcut;clear al gi e8 b0 HA gO HW fy d8 e0;have C:=a0a (aT.below fr);have aC:=a0a fr;have HD:=a0a hD;generalize hDD:G.heap.size=D at *;have hl:Hid (w.heap.size<=D):=by have:=b8.out;unfold Hid;omega
    clear hDD dy b8 fr hD;generalize wc=W5 at *;have ho:=a0a (ez dm aT.ok.ok.ps ((r,s),p3,x));have gt:Hid (∀i (h2:i<d.ps.length),i<placeK ltPK d.ps ((r,s),p3,x)->ltPK d.ps[i].1 ((r,s),p3,x)=true):=λi h2 hi=>kM d.ps _ i hi h2;have gs:Hid (∀h:placeK ltPK d.ps ((r,s),p3,x)<d.ps.length,ltPK d.ps[placeK ltPK d.ps ((r,s),p3,x)].1 ((r,s),p3,x)=false):=λh=>kN d.ps _ h;have dx:=gc (lt:=ltPK) d.ps ((r,s),p3,x);have h7:=aT.ok.plen;obtain ⟨va,vc,hv⟩:=aK C.ps;subst hv;obtain ⟨q,hq⟩:∃q,placeK ltPK d.ps ((r,s),p3,x)=q:=⟨_,rfl⟩;rw [hq] at dx;have HQ:=a0a hq;obtain ⟨N,hN⟩:∃N,d.ps.length=N:=⟨_,rfl⟩;rw [hN] at h7 dx;have O:=a0a hN;have cx:Hid (W5.ownsRow 0 38 6 (.slice va N vc) N (d.ps.flatMap decCells)):=by have:=C.out.ps;rw [hN] at this;exact this
    have ao:Hid (∀W,a0b W5.heap.size W5 W->W.cell? ⟨p,2,none⟩=some (.slice va N vc)/\W.cell? ⟨D,0,none⟩=some (.int .i64 r)/\W.cell? ⟨D,1,none⟩=some (.int .i64 s)/\W.cell? ⟨D,2,none⟩=some (.int .i64 p3)/\W.cell? ⟨D,3,none⟩=some (.int .i64 x)/\W.cell? ⟨D,4,none⟩=some (.int .i64 n)/\W.cell? ⟨D,5,none⟩=some (.bool j)):=λW y=>
     ⟨by have:=(aa ((y.block _ (C.out.lt p C.out.fp)).trans C.out.blk) 2).trans rfl;rw [hN] at this;exact this,jY ((y.block _ (ae HD.out)).trans HD.out)⟩
    clear hq hN;go_upto_block 0 with fail
    go_cut [12] (λt wx=>t= .int .i64 q/\Hid (a0b W5.heap.size W5 wx))
    case first=>
     go_wp2_with fail
     go_loopw [12] (λt wr=>∃i:Nat,t= .int .i64 i/\i<=q/\Hid (a0b W5.heap.size W5 wr)) (λt _=>N - (intOf t).toNat)
     case atStart=>exact ⟨0,rfl,a0l _,a0v _ _⟩
     case round=>
      obtain ⟨i,rfl,hi,HB⟩:=hrel;have X:a0b W5.heap.size W5 wr.drew:=HB.drew;have hd:=HB.size;by_cases hlt:i<N
      · have c9:i<d.ps.length:=by rw [O.out];exact hlt
        have a8:=cx.out;rw [<- O.out] at a8;obtain ⟨g,c,he,M,hc⟩:=eu (enc:=decCells) (λ_=>rfl) a8 i c9;injection he with he1 he2 he3
        subst he1 he3;obtain ⟨e,bk⟩:∃e,d.ps[i]=e:=⟨_,rfl⟩;rw [bk] at hc;have HI:Hid (i<q->ltPK e.1 ((r,s),p3,x)=true):=λhh=>by rw [<- bk];exact gt.out i c9 (by rw [HQ.out];exact hh)
        have ad:Hid (i=q->ltPK e.1 ((r,s),p3,x)=false):=λhh=>by subst hh;have h1:=gs.out (by rw [HQ.out];exact c9);simp only [HQ.out] at h1;rw [<- bk];exact h1
        obtain ⟨⟨⟨e1,e2⟩,e3,e4⟩,e5,e6⟩:=e;have U:=a0a hc
        have HC:Hid (∀W,a0b W5.heap.size W5 W->(W.cell? ⟨p,2,none⟩=some (.slice (some ⟨g,0,none⟩) N vc)/\W.cell? ⟨D,0,none⟩=some (.int .i64 r)/\W.cell? ⟨D,1,none⟩=some (.int .i64 s)/\W.cell? ⟨D,2,none⟩=some (.int .i64 p3)/\W.cell? ⟨D,3,none⟩=some (.int .i64 x)/\W.cell? ⟨D,4,none⟩=some (.int .i64 n)/\W.cell? ⟨D,5,none⟩=some (.bool j))/\W.cell? ⟨g,i * 6,none⟩=some (.int .i64 e1)/\W.cell? ⟨g,i * 6+1,none⟩=some (.int .i64 e2)/\W.cell? ⟨g,i * 6+2,none⟩=some (.int .i64 e3)/\W.cell? ⟨g,i * 6+3,none⟩=some (.int .i64 e4)/\W.cell? ⟨g,i * 6+4,none⟩=some (.int .i64 e5)/\W.cell? ⟨g,i * 6+5,none⟩=some (.bool e6)):=λW y=>
         ⟨ao W y,((aE y).1 g _ M).trans (U 0 _ rfl),((aE y).1 g _ M).trans (U 1 _ rfl),((aE y).1 g _ M).trans (U 2 _ rfl),((aE y).1 g _ M).trans (U 3 _ rfl),((aE y).1 g _ M).trans (U 4 _ rfl),((aE y).1 g _ M).trans (U 5 _ rfl)⟩
        have HL:Hid (∀W,a0E a0m 137 #[.agg #[.int .i64 e1, .int .i64 e2, .int .i64 e3, .int .i64 e4, .int .i64 e5, .bool e6], .agg #[.int .i64 r, .int .i64 s, .int .i64 p3, .int .i64 x, .int .i64 n, .bool j]] W λe w'=>e= .returned (.bool (ltPK ((e1,e2),e3,e4) ((r,s),p3,x)))/\a0b W.heap.size W w'):=λW=>xi e1 e2 e3 e4 e5 r s p3 x n e6 j W;have h4:(i:Int)<(N:Int):=by omega
        dsimp only at HI ad;generalize hltv:ltPK ((e1,e2),e3,e4) ((r,s),p3,x)=bb at *;clear hc hltv bk;go_wp2_with fail
        refine wT (λW=>a0b W5.heap.size W5 W) 999 ?_;have f:=tkL [0,1,2,3,4];repeat (refine tkIS f ?_ rfl X ?_ ?_;rotate_left;intro w' h;obtain ⟨⟨h0,t0,t1,t2,t3,t4,t5⟩,s0,s1,s2,s3,s4,s5⟩:=HC w' h;go_simp;rfl;(try go_simp);replace f:=tkO f)
        clear f;refine dO 5 rfl λK A=>?_;go_simp;refine A _ _ (λ_=>X) ?_;clear A K;have f:=tkL [6,7,8,9,10,11,12,13,14,15];repeat (refine tkIS f ?_ rfl X ?_ ?_;rotate_left;intro w' h;obtain ⟨⟨h0,t0,t1,t2,t3,t4,t5⟩,s0,s1,s2,s3,s4,s5⟩:=HC w' h;go_simp;rfl;(try go_simp);replace f:=tkO f)
        clear f;refine dB 16 rfl λK A=>?_;go_simp;go_at_call 137;refine (HL _).mono ?_;rintro e w3 ⟨rfl,cy⟩;have a3:a0b W5.heap.size W5 w3:=X.trans (cy.mono hd);refine A _ _ (λ_=>a3) ?_;clear A K;refine tkS 17 ?_ rfl a3 ?_ ?_;rotate_left;intro w' h;go_simp;rfl;try go_simp
        refine dN ?_;have al:=a0a a3;clear a3 X cy;cases bb
        · have g7:i=q:=by
           rcases a0I i q with h|h
           · have:=HI h;cases this
           · omega
          subst g7;clear HI ad;go_wp2_with fail
          go_meet;exact ⟨rfl,al⟩
        · have g7:i<q:=by
           rcases a0I i q with h|h
           · exact h
           · have:=ad.out (by omega);cases this
          clear HI ad;go_wp2_with fail
          go_roundw
          case rel=>exact ⟨i+1,by go_num,by omega,al⟩
          case measure=>simp [intOf];omega
      · obtain rfl:i=N:=by omega
        obtain rfl:q=i:=by omega
        go_wp2_with fail
        refine wT (λW=>a0b W5.heap.size W5 W) 999 ?_;have f:=tkL [0,1,2,3,4];repeat (refine tkIS f ?_ rfl X ?_ ?_;rotate_left;intro w' h;obtain ⟨h0,t0,t1,t2,t3,t4,t5⟩:=ao w' h;go_simp;rfl;(try go_simp);replace f:=tkO f)
        clear f;refine dO 5 rfl λK A=>?_;go_simp;refine A _ _ (λ_=>X) ?_;clear A K;have f:=tkL [6,7];repeat (refine tkIS f ?_ rfl X ?_ ?_;rotate_left;intro w' h;go_simp;rfl;(try go_simp);replace f:=tkO f)
        clear f;refine tfS 8 rfl X ?_;(try go_simp)
        refine tfS 9 rfl X ?_;(try go_simp)
        refine tfS 10 rfl X ?_;(try go_simp)
        refine tfS 11 rfl X ?_;(try go_simp)
        refine tfS 12 rfl X ?_;(try go_simp)
        refine tfS 13 rfl X ?_;(try go_simp)
        refine tfS 14 rfl X ?_;(try go_simp)
        refine tfS 15 rfl X ?_;(try go_simp)
        refine tfS 16 rfl X ?_;(try go_simp)
        refine tkS 17 ?_ rfl X ?_ ?_;rotate_left;intro w' h;go_simp;rfl;try go_simp
        refine dN ?_;have al:=a0a X;clear X;go_wp2_with fail
        go_meet;exact ⟨rfl,al⟩
    case rest=>
     obtain ⟨rfl,d4⟩:=hcut;generalize wc=W6 at *;have hP:=d4.size;have e9:Hid (∀m,findK d.ps ((r,s),p3,x)=some m->dU d ((r,s),p3,x) n j=aV true (decide (m.1=n)&&decide (m.2=j)) m.1 n d.ps.length):=λm hm=>by unfold dU;rw [hm];rfl
     cases hf:findK d.ps ((r,s),p3,x) with
     |some m=>
      obtain ⟨n',j'⟩:=m;obtain ⟨ft,he⟩:=j8 dm aT.ok.ok.ps hf;have av:=a0a (oE dm aT.ok.ok.ps hf (n,j));have aS:=a0a (e9 _ hf);have a8:=cx.out;rw [<- O.out] at a8;obtain ⟨g,c,hv,M,hc⟩:=eu (enc:=decCells) (λ_=>rfl) a8 _ ft;injection hv with hv1 hv2 hv3
      subst hv1 hv3;rw [he] at hc;simp only [HQ.out] at hc he av;have hL:q<N:=by rw [HQ.out,O.out] at ft;exact ft
      have U:=a0a hc;have hJ:(q:Int)<(N:Int):=by omega
      have HC:Hid (∀W,a0b W5.heap.size W5 W->(W.cell? ⟨p,2,none⟩=some (.slice (some ⟨g,0,none⟩) N vc)/\W.cell? ⟨D,0,none⟩=some (.int .i64 r)/\W.cell? ⟨D,1,none⟩=some (.int .i64 s)/\W.cell? ⟨D,2,none⟩=some (.int .i64 p3)/\W.cell? ⟨D,3,none⟩=some (.int .i64 x)/\W.cell? ⟨D,4,none⟩=some (.int .i64 n)/\W.cell? ⟨D,5,none⟩=some (.bool j))/\W.cell? ⟨g,q * 6,none⟩=some (.int .i64 r)/\W.cell? ⟨g,q * 6+1,none⟩=some (.int .i64 s)/\W.cell? ⟨g,q * 6+2,none⟩=some (.int .i64 p3)/\W.cell? ⟨g,q * 6+3,none⟩=some (.int .i64 x)/\W.cell? ⟨g,q * 6+4,none⟩=some (.int .i64 n')/\W.cell? ⟨g,q * 6+5,none⟩=some (.bool j')):=λW y=>
       ⟨ao W y,((aE y).1 g _ M).trans (U 0 _ rfl),((aE y).1 g _ M).trans (U 1 _ rfl),((aE y).1 g _ M).trans (U 2 _ rfl),((aE y).1 g _ M).trans (U 3 _ rfl),((aE y).1 g _ M).trans (U 4 _ rfl),((aE y).1 g _ M).trans (U 5 _ rfl)⟩
      clear hc he hf a8 e9;go_upto_region 10 with fail
      have l:a0b W5.heap.size W5 W6.drew:=d4.drew;refine wT (λW=>a0b W5.heap.size W5 W) 999 ?_;have f:=tkL [0,1,2,3,4];repeat (refine tkIS f ?_ rfl l ?_ ?_;rotate_left;intro w' h;obtain ⟨⟨h0,t0,t1,t2,t3,t4,t5⟩,s0,s1,s2,s3,s4,s5⟩:=HC w' h;go_simp;rfl;(try go_simp);replace f:=tkO f)
      clear f;refine dO 5 rfl λK A=>?_;go_simp;refine A _ _ (λ_=>l) ?_;clear A K;have f:=tkL [6,7,8,9,10,11,12,13,14,15,16,17,18,19,20,21,22,23,24,25,26,27,28,29,30,31,32];repeat (refine tkIS f ?_ rfl l ?_ ?_;rotate_left;intro w' h;obtain ⟨⟨h0,t0,t1,t2,t3,t4,t5⟩,s0,s1,s2,s3,s4,s5⟩:=HC w' h;go_simp;rfl;(try go_simp);replace f:=tkO f)
      clear f;refine dN ?_;go_upto_region 11 with fail
      have ac:a0b W5.heap.size W5 W6.drew.drew:=d4.drew.drew;refine wT (λW=>a0b W5.heap.size W5 W) 999 ?_;have f:=tkL [0,1,2,3,4,5,6,7];repeat (refine tkIS f ?_ rfl ac ?_ ?_;rotate_left;intro w' h;obtain ⟨⟨h0,t0,t1,t2,t3,t4,t5⟩,s0,s1,s2,s3,s4,s5⟩:=HC w' h;go_simp;rfl;(try go_simp);replace f:=tkO f)
      clear f;obtain ⟨b9,g6⟩:∃b9,(decide (n'=n)&&decide (j'=j))=b9:=⟨_,rfl⟩;have ch:=a0a g6;clear g6;refine bT (i:=8) (v:= .bool b9) rfl (by kernel_rfl) (by kernel_rfl) (by kernel_rfl) (by rfl) (λ_ _ _ h=>h) ac (a0G ⟨by rfl,?_⟩) ?_;focus (intro w' h;rw [<- ch.out];by_cases g1:n'=n<;>cases j'<;>cases j<;>simp [g1]<;>go_simp<;>rfl)
      (try go_simp)
      refine tkS 9 ?_ rfl ac ?_ ?_;rotate_left;intro w' h;go_simp;rfl;try go_simp
      refine dN ?_;obtain ⟨Y,g0⟩:∃Y,W6.drew.drew=Y:=⟨_,rfl⟩;rw [g0] at ac ⊢;have da:=a0a ac;clear g0 ac l;obtain ⟨⟨h0,t0,t1,t2,t3,t4,t5⟩,s0,s1,s2,s3,s4,s5⟩:=HC Y da.out;have eQ:Hid (∀e,decideC d (H,I) (J,L) n j=(d,e)->(Ending.returned (.int .i64 e)=Ending.returned (.int .i64 (decideC d (H,I) (J,L) n j).2)/\∃F',bM F' Y p (decideC d (H,I) (J,L) n j).1/\ag F w F' Y)):=λe he=>by rw [he];exact ⟨rfl,F,⟨_,_,_,_,C.below da.out⟩,ag.of_below (aC.trans (da.mono aC.size))⟩
      rcases a0D n' n with d0|d0|d0
      · have a0:Hid (dU d ((r,s),p3,x) n j=0):=by unfold Hid;rw [aS.out];dsimp only;rw [decide_eq_false (show n'≠n by omega)];unfold aV;simp;omega
        obtain rfl:b9=false:=by rw [<- ch.out,decide_eq_false (show n'≠n by omega)];rfl
        have f3:¬(n<=n'):=by omega
        clear d0;have a4:Hid (decideC d (H,I) (J,L) n j=({d with ps:=insL ltPK d.ps ((r,s),p3,x) (n,j)},0)):=by unfold Hid;rw [b3.out,if_pos a0.out]
        go_upto_region 15 with fail
        have ac:a0b W5.heap.size W5 Y.drew:=da.drew;clear h0 t0 t1 t2 t3 t4 t5 s0 s1 s2 s3 s4 s5;refine wT (λW=>a0b W5.heap.size W5 W) 7 ?_;have f:=tkL [0,4,5,1,2,3,6];repeat (refine tkI f ?_ rfl ac ?_ ?_;rotate_left;intro w' h;obtain ⟨⟨h0,t0,t1,t2,t3,t4,t5⟩,s0,s1,s2,s3,s4,s5⟩:=HC w' h;go_simp;rfl;(try go_simp);replace f:=tkO f)
        clear f;obtain ⟨W8,g3⟩:∃W8,Y.drew=W8:=⟨_,rfl⟩;rw [g3] at ac ⊢;have cv:=a0a ac;have ay:=(C.below ac).ps;rw [O.out] at ay;have gy:=a0a ay;have z0:=ay.frozenAt (q * 6);have z1:=ay.frozenAt (q * 6+1);have z2:=ay.frozenAt (q * 6+2);have z3:=ay.frozenAt (q * 6+3);have z4:=ay.frozenAt (q * 6+4);have z5:=ay.frozenAt (q * 6+5);obtain ⟨_,s0,s1,s2,s3,s4,s5⟩:=HC W8 ac;clear g3 ay ac;refine dO 7 rfl λK A=>?_;go_simp;refine A _ _ (λh=>absurd rfl h) ?_;clear A K;refine dN ?_;obtain ⟨d3,ds⟩:=zw gy.out O.out q (by omega) (((r,s),p3,x),(n,j));rw [<- av.out] at d3;dsimp only at d3 ds;obtain ⟨W9,g4⟩:∃W9,((((((W8.setCell ⟨g,q * 6,none⟩ (.int .i64 r)).setCell ⟨g,q * 6+1,none⟩ (.int .i64 s)).setCell ⟨g,q * 6+2,none⟩ (.int .i64 p3)).setCell ⟨g,q * 6+3,none⟩ (.int .i64 x)).setCell ⟨g,q * 6+4,none⟩ (.int .i64 n)).setCell ⟨g,q * 6+5,none⟩ (.bool j))=W9:=⟨_,rfl⟩;rw [g4] at d3 ds ⊢;have gz:=a0a d3;have cp:=a0a ds;clear g4 d3 ds s0 s1 s2 s3 s4 s5 z0 z1 z2 z3 z4 z5;go_wp2_with fail
        go_ret;rw [a4.out];refine ⟨rfl,F,⟨v1,v2,_,xs,(C.out.below cv.out).put3 (vN:= .slice (some ⟨g,0,none⟩) N vc) (λ_ h=>h) (λk E=>by rw [cp.out.size];exact (C.out.below cv.out).lt k E) (λk _ _ a7=>cp.out.block k (λe=>a7 (by rw [e,O.out];rfl))) ?_ ?_ (λg' z=>⟨(C.out.below cv.out).f3 g' z, .inl z⟩) (by rw [cp.out.size];exact a0g _) (d6.out a0.out)⟩,?_⟩
        · exact (cp.out.block p (Ne.symm (eb C.out.ps C.out.blk (by decide) (g:=g) rfl))).trans (by have:=(C.out.below cv.out).blk;rw [O.out] at this;exact this)
        · have h6:N=(insL ltPK d.ps ((r,s),p3,x) (n,j)).length:=by rw [av.out,a0F,O.out]
          exact h6 ▸ gz.out
        · exact (ag.of_below (aC.trans (cv.mono aC.size))).trans (ag.of_only cp.out (C.f3 g rfl))
      · subst d0;by_cases hj:j'=j
        · subst hj;have a0:Hid (dU d ((r,s),p3,x) n' j'=22):=by unfold Hid;rw [aS.out];dsimp only;rw [decide_eq_true rfl,decide_eq_true rfl];rfl
          obtain rfl:b9=true:=by rw [<- ch.out,decide_eq_true rfl,decide_eq_true rfl];rfl
          have a4:Hid (decideC d (H,I) (J,L) n' j'=(d,22)):=by unfold Hid;rw [b3.out,if_neg (by rw [a0.out];decide),a0.out]
          go_wp2_with fail
          go_ret;exact ⟨by rw [a4.out];rfl,(eQ.out 22 a4.out).2⟩
        · have a0:Hid (dU d ((r,s),p3,x) n' j=30):=by unfold Hid;rw [aS.out];dsimp only;rw [decide_eq_true rfl,decide_eq_false hj];unfold aV;simp
          have a4:Hid (decideC d (H,I) (J,L) n' j=(d,30)):=by unfold Hid;rw [b3.out,if_neg (by rw [a0.out];decide),a0.out]
          obtain rfl:b9=false:=by rw [<- ch.out,decide_eq_false hj,Bool.and_false]
          have f3:n'<=n':=Int.le_refl _;clear hj;go_wp2_with fail
          go_ret;exact ⟨by rw [a4.out];rfl,(eQ.out 30 a4.out).2⟩
      · have a0:Hid (dU d ((r,s),p3,x) n j=30):=by unfold Hid;rw [aS.out];dsimp only;rw [decide_eq_false (show n'≠n by omega)];unfold aV;simp;omega
        have a4:Hid (decideC d (H,I) (J,L) n j=(d,30)):=by unfold Hid;rw [b3.out,if_neg (by rw [a0.out];decide),a0.out]
        obtain rfl:b9=false:=by rw [<- ch.out,decide_eq_false (show n'≠n by omega)];rfl
        have f3:n<=n':=by omega
        clear d0;go_wp2_with fail
        go_ret;exact ⟨by rw [a4.out];rfl,(eQ.out 30 a4.out).2⟩
     |none=>
      have av:=a0a (oG dm aT.ok.ok.ps hf (n,j));have fz:=a0a (qN dm aT.ok.ok.ps hf);have aS:Hid (dU d ((r,s),p3,x) n j=if 5000<=d.ps.length then 2 else 0):=by unfold Hid dU;rw [hf];show aV false _ _ _ _=_;unfold aV;simp
      simp only [HQ.out] at av fz;rw [O.out] at aS;clear hf e9;go_upto_region 10 with fail
      go_cut [81] (λt wx=>t= .bool false/\Hid (a0b W5.heap.size W5 wx))
      case first=>
       have l:a0b W5.heap.size W5 W6.drew:=d4.drew;by_cases hlt:q<N
       · have c9:q<d.ps.length:=by rw [O.out];exact hlt
         have a8:=cx.out;rw [<- O.out] at a8;obtain ⟨g,c,he,M,hc⟩:=eu (enc:=decCells) (λ_=>rfl) a8 q c9;injection he with he1 he2 he3
         subst he1 he3;have a7:=fz.out;rw [a0H c9] at a7;obtain ⟨e,bk⟩:∃e,d.ps[q]=e:=⟨_,rfl⟩;rw [bk] at hc a7;obtain ⟨⟨⟨e1,e2⟩,e3,e4⟩,e5,e6⟩:=e;have U:=a0a hc
         have HC:Hid (∀W,a0b W5.heap.size W5 W->(W.cell? ⟨p,2,none⟩=some (.slice (some ⟨g,0,none⟩) N vc)/\W.cell? ⟨D,0,none⟩=some (.int .i64 r)/\W.cell? ⟨D,1,none⟩=some (.int .i64 s)/\W.cell? ⟨D,2,none⟩=some (.int .i64 p3)/\W.cell? ⟨D,3,none⟩=some (.int .i64 x)/\W.cell? ⟨D,4,none⟩=some (.int .i64 n)/\W.cell? ⟨D,5,none⟩=some (.bool j))/\W.cell? ⟨g,q * 6,none⟩=some (.int .i64 e1)/\W.cell? ⟨g,q * 6+1,none⟩=some (.int .i64 e2)/\W.cell? ⟨g,q * 6+2,none⟩=some (.int .i64 e3)/\W.cell? ⟨g,q * 6+3,none⟩=some (.int .i64 e4)/\W.cell? ⟨g,q * 6+4,none⟩=some (.int .i64 e5)/\W.cell? ⟨g,q * 6+5,none⟩=some (.bool e6)):=λW y=>
          ⟨ao W y,((aE y).1 g _ M).trans (U 0 _ rfl),((aE y).1 g _ M).trans (U 1 _ rfl),((aE y).1 g _ M).trans (U 2 _ rfl),((aE y).1 g _ M).trans (U 3 _ rfl),((aE y).1 g _ M).trans (U 4 _ rfl),((aE y).1 g _ M).trans (U 5 _ rfl)⟩
         have h4:(q:Int)<(N:Int):=by omega
         obtain ⟨bA,hA⟩:∃bA,(decide (e1=r)&&decide (e2=s))=bA:=⟨_,rfl⟩;obtain ⟨bB,hB⟩:∃bB,(decide (e3=p3)&&decide (e4=x))=bB:=⟨_,rfl⟩;have gf:Hid (bA=true->bB=false):=λh=>by
          rw [<- hA,Bool.and_eq_true,decide_eq_true_eq,decide_eq_true_eq] at h;obtain ⟨rfl,rfl⟩:=h;rw [<- hB,Bool.and_eq_false_iff,decide_eq_false_iff_not,decide_eq_false_iff_not];rcases Classical.em (e3=p3) with g1|g1
          · exact .inr λg2=>a7 (by rw [g1,g2];rfl)
          · exact .inl g1
         have HA:=a0a hA;have HB:=a0a hB;clear hc bk hA hB a7 a8;refine wT (λW=>a0b W5.heap.size W5 W) 999 ?_;have f:=tkL [0,1,2,3,4];repeat (refine tkIS f ?_ rfl l ?_ ?_;rotate_left;intro w' h;obtain ⟨⟨h0,t0,t1,t2,t3,t4,t5⟩,s0,s1,s2,s3,s4,s5⟩:=HC w' h;go_simp;rfl;(try go_simp);replace f:=tkO f)
         clear f;refine dO 5 rfl λK A=>?_;go_simp;refine A _ _ (λ_=>l) ?_;clear A K;have f:=tkL [6,7,8,9,10,11,12,13,14,15,16,17];repeat (refine tkIS f ?_ rfl l ?_ ?_;rotate_left;intro w' h;obtain ⟨⟨h0,t0,t1,t2,t3,t4,t5⟩,s0,s1,s2,s3,s4,s5⟩:=HC w' h;go_simp;rfl;(try go_simp);replace f:=tkO f)
         clear f;refine bT (i:=18) (v:= .bool bA) rfl (by kernel_rfl) (by kernel_rfl) (by kernel_rfl) (by rfl) (λ_ _ _ h=>h) l (a0G ⟨by rfl,?_⟩) ?_;focus (intro w' h;rw [<- HA.out];by_cases g1:e1=r<;>by_cases g2:e2=s<;>simp [g1,g2]<;>go_simp<;>rfl)
         (try go_simp)
         have f:=tkL [19,20];repeat (refine tkIS f ?_ rfl l ?_ ?_;rotate_left;intro w' h;go_simp;rfl;(try go_simp);replace f:=tkO f)
         clear f;cases bA
         · skip;refine tfS 21 rfl l ?_;(try go_simp)
           refine tfS 22 rfl l ?_;(try go_simp)
           refine tfS 23 rfl l ?_;(try go_simp)
           refine tfS 24 rfl l ?_;(try go_simp)
           refine tfS 25 rfl l ?_;(try go_simp)
           refine tfS 26 rfl l ?_;(try go_simp)
           refine tfS 27 rfl l ?_;(try go_simp)
           refine tfS 28 rfl l ?_;(try go_simp)
           refine tfS 29 rfl l ?_;(try go_simp)
           refine tfS 30 rfl l ?_;(try go_simp)
           refine tfS 31 rfl l ?_;(try go_simp)
           refine tkS 32 ?_ rfl l ?_ ?_;rotate_left;intro w' h;go_simp;rfl;try go_simp
           refine dN ?_;go_wp2_with fail
           go_meet;exact ⟨rfl,l⟩
         · obtain rfl:=gf rfl;have f:=tkL [21,22,23,24,25,26,27,28,29,30];repeat (refine tkIS f ?_ rfl l ?_ ?_;rotate_left;intro w' h;obtain ⟨⟨h0,t0,t1,t2,t3,t4,t5⟩,s0,s1,s2,s3,s4,s5⟩:=HC w' h;go_simp;rfl;(try go_simp);replace f:=tkO f)
           clear f;refine bT (i:=31) (v:= .bool false) rfl (by kernel_rfl) (by kernel_rfl) (by kernel_rfl) (by rfl) (λ_ _ _ h=>h) l (a0G ⟨by rfl,?_⟩) ?_;focus (intro w' h;rw [<- HB.out];by_cases g1:e3=p3<;>by_cases g2:e4=x<;>simp [g1,g2]<;>go_simp<;>rfl)
           (try go_simp)
           refine tkS 32 ?_ rfl l ?_ ?_;rotate_left;intro w' h;go_simp;rfl;try go_simp
           refine dN ?_;go_wp2_with fail
           go_meet;exact ⟨rfl,l⟩
       · obtain rfl:q=N:=by omega
         refine wT (λW=>a0b W5.heap.size W5 W) 999 ?_;have f:=tkL [0,1,2,3,4];repeat (refine tkIS f ?_ rfl l ?_ ?_;rotate_left;intro w' h;obtain ⟨h0,t0,t1,t2,t3,t4,t5⟩:=ao w' h;go_simp;rfl;(try go_simp);replace f:=tkO f)
         clear f;refine dO 5 rfl λK A=>?_;go_simp;refine A _ _ (λ_=>l) ?_;clear A K;have f:=tkL [6,7];repeat (refine tkIS f ?_ rfl l ?_ ?_;rotate_left;intro w' h;go_simp;rfl;(try go_simp);replace f:=tkO f)
         clear f;refine tfS 8 rfl l ?_;(try go_simp)
         refine tfS 9 rfl l ?_;(try go_simp)
         refine tfS 10 rfl l ?_;(try go_simp)
         refine tfS 11 rfl l ?_;(try go_simp)
         refine tfS 12 rfl l ?_;(try go_simp)
         refine tfS 13 rfl l ?_;(try go_simp)
         refine tfS 14 rfl l ?_;(try go_simp)
         refine tfS 15 rfl l ?_;(try go_simp)
         refine tfS 16 rfl l ?_;(try go_simp)
         refine tfS 17 rfl l ?_;(try go_simp)
         refine tfS 18 rfl l ?_;(try go_simp)
         have f:=tkL [19,20];repeat (refine tkIS f ?_ rfl l ?_ ?_;rotate_left;intro w' h;go_simp;rfl;(try go_simp);replace f:=tkO f)
         clear f;refine tfS 21 rfl l ?_;(try go_simp)
         refine tfS 22 rfl l ?_;(try go_simp)
         refine tfS 23 rfl l ?_;(try go_simp)
         refine tfS 24 rfl l ?_;(try go_simp)
         refine tfS 25 rfl l ?_;(try go_simp)
         refine tfS 26 rfl l ?_;(try go_simp)
         refine tfS 27 rfl l ?_;(try go_simp)
         refine tfS 28 rfl l ?_;(try go_simp)
         refine tfS 29 rfl l ?_;(try go_simp)
         refine tfS 30 rfl l ?_;(try go_simp)
         refine tfS 31 rfl l ?_;(try go_simp)
         refine tkS 32 ?_ rfl l ?_ ?_;rotate_left;intro w' h;go_simp;rfl;try go_simp
         refine dN ?_;go_wp2_with fail
         go_meet;exact ⟨rfl,l⟩
      case rest=>
       obtain ⟨rfl,a9⟩:=hcut;generalize wc=Y at *;have HZ:Hid (w.heap.size<=W5.heap.size):=aC.size;obtain ⟨h0,t0,t1,t2,t3,t4,t5⟩:=ao Y a9.out;by_cases h5:5000<=N
       · have a0:Hid (dU d ((r,s),p3,x) n j=2):=by unfold Hid;rw [aS.out,if_pos h5]
         have a4:Hid (decideC d (H,I) (J,L) n j=(d,2)):=by unfold Hid;rw [b3.out,if_neg (by rw [a0.out];decide),a0.out]
         have gP:(5000:Int)<=(N:Int):=by omega
         go_wp2_with fail
         go_ret;rw [a4.out];exact ⟨rfl,F,⟨_,_,_,_,C.below a9.out⟩,ag.of_below (aC.trans (a9.mono HZ.out))⟩
       · have a0:Hid (dU d ((r,s),p3,x) n j=0):=by unfold Hid;rw [aS.out,if_neg h5]
         have a4:Hid (decideC d (H,I) (J,L) n j=({d with ps:=insL ltPK d.ps ((r,s),p3,x) (n,j)},0)):=by unfold Hid;rw [b3.out,if_pos a0.out]
         have gP:¬((5000:Int)<=(N:Int)):=by omega
         have hO:(q:Int)<=(N:Int):=by omega
         obtain ⟨i0,hi,g8,g9,gb⟩:=info_parts A7;have HI:=a0a hi;have bO:=a0a g8;have bY:=a0a g9;have ad:=a0a gb;clear hi g8 g9 gb;rcases cx.2 with ⟨hv,h8⟩|⟨g,hs,ht,hv,hC,_,hw,_⟩
         · injection hv with e1 e2 e3
           subst e1 e3;subst h8;obtain rfl:q=0:=by omega
           have f5:Hid (∀W,a0b W5.heap.size W5 W->aH 0 W5.heap.size W (.slice none 0 0) 0 ((d.ps.drop 0).flatMap decCells)):=λW y=>by have:d.ps=[]:=a0w O.out;rw [this];exact ⟨none,0,rfl,λh=>absurd rfl h⟩
           have f6:Hid (∀W,a0b W5.heap.size W5 W->aH 0 W5.heap.size W (.slice none 0 0) 0 ((d.ps.take 0).flatMap decCells)):=λW y=>⟨none,0,rfl,λh=>absurd rfl h⟩;clear e2;have f2:Hid (((d.ps.take 0).flatMap decCells).length=0 * 6):=by unfold Hid;rw [bP decCells 6 (λ_=>rfl),a0i,O.out,a0u (by omega)]
           have cg:Hid (((d.ps.drop 0).flatMap decCells).length=(0) * 6):=by unfold Hid;rw [bP decCells 6 (λ_=>rfl),a0j,O.out]
           have es:Hid (([.int .i64 r, .int .i64 s, .int .i64 p3, .int .i64 x, .int .i64 n, .bool j]++(d.ps.drop 0).flatMap decCells:List a0z).length=(1+(0)) * 6):=by unfold Hid;rw [a0h,cg.out];show 6+_=_;omega
           have eq:Hid ((insL ltPK d.ps ((r,s),p3,x) (n,j)).flatMap decCells=([]++(d.ps.take 0).flatMap decCells)++([.int .i64 r, .int .i64 s, .int .i64 p3, .int .i64 x, .int .i64 n, .bool j]++(d.ps.drop 0).flatMap decCells)):=by unfold Hid;rw [av.out,a0o,a0e];rfl
           have er:Hid ((insL ltPK d.ps ((r,s),p3,x) (n,j)).length=0+(1+(0))):=by unfold Hid;rw [av.out,a0h,a0s,a0i,a0j,O.out];omega
           have f0:Hid (∀u∈(d.ps.take 0).flatMap decCells,u.oneCell'=true):=iR _;have cq:Hid (∀u∈(d.ps.drop 0).flatMap decCells,u.oneCell'=true):=iR _;have f1:Hid (∀u∈[.int .i64 r, .int .i64 s, .int .i64 p3, .int .i64 x, .int .i64 n, .bool j]++(d.ps.drop 0).flatMap decCells,u.oneCell'=true):=λu hu=>by
            rcases List.mem_append.1 hu with hu|hu
            · simp only [a0p,a0n,or_false] at hu;rcases hu with rfl|rfl|rfl|rfl|rfl|rfl<;>rfl
            · exact cq u hu
           generalize (d.ps.take 0).flatMap decCells=TK at *;generalize (d.ps.drop 0).flatMap decCells=DR at *;go_upto_region 19 with fail
           clear h0 t0 t1 t2 t3 t4 t5;have bw:a0b W5.heap.size W5 Y.drew:=a9.drew;refine wT (λW=>a0b W5.heap.size W5 W) 999 ?_;have f:=tkL [0,2,6,3,4,5];repeat (refine tkIS f ?_ rfl bw ?_ ?_;rotate_left;intro w' h;obtain ⟨s0,t0,t1,t2,t3,t4,t5⟩:=ao w' h;go_simp;rfl;(try go_simp);replace f:=tkO f)
           clear f;refine bT (i:=7) (v:= .slice none 0 0) rfl (by kernel_rfl) (by kernel_rfl) (by kernel_rfl) (by rfl) (λ_ _ _ h=>h) bw (a0G ⟨by rfl,?_⟩) ?_;focus (intro w' h;(first |(go_simp;done)|(go_simp;rfl)))
           (try go_simp)
           refine dO 1 rfl λK A=>?_;go_simp;obtain ⟨T,a6⟩:∃T,(Y.alloc (.cells #[.int .i64 r, .int .i64 s, .int .i64 p3, .int .i64 x, .int .i64 n, .bool j] 38)).drew=T:=⟨_,rfl⟩;have a3:a0b W5.heap.size W5 T:=by rw [<- a6];exact (a9.out.alloc a9.out.size _).drew
           have cQ:T.ownsRow W5.heap.size 38 6 (.slice (some ⟨Y.heap.size,0,none⟩) 1 1) 1 [.int .i64 r, .int .i64 s, .int .i64 p3, .int .i64 x, .int .i64 n, .bool j]:=by rw [<- a6];exact a0r (base:=W5.heap.size) (e:=38) (size:=6) Y #[.int .i64 r, .int .i64 s, .int .i64 p3, .int .i64 x, .int .i64 n, .bool j] 1 a9.out.size (by unfold maxLen;omega) rfl
           rw [a6];refine A _ _ (λ_=>a3) ?_;clear A K;clear a6;obtain ⟨b4,c4,R,d2,bt,cz,c7⟩:=bf (P:=a0m) T W5.heap.size 32 32 38 i0 (.agg #[.int .i64 0, .int .i64 0, .int .i64 0, .int .i64 0, .int .i64 0, .bool false]) 6 48 Tryz.underlying32 HI.out bO.out bY.out ad.out rfl (by decide) Y.heap.size 1 1 [.int .i64 r, .int .i64 s, .int .i64 p3, .int .i64 x, .int .i64 n, .bool j] cQ W5.heap.size (.slice none 0 0) (0) DR (f5.out T a3) cg.out cq.out (by unfold maxLen;omega) (by omega) a3.size;have a5:a0b W5.heap.size W5 R:=a3.grown cz a3.size (λj Z=>by injection Z with Z;have:=a9.out.size;omega);refine dO 8 rfl λK A=>?_;refine dH rfl rfl rfl d2 ?_;refine A _ _ (λ_=>a5) ?_;clear A K;go_simp;refine tkS 9 ?_ rfl a5 ?_ ?_;rotate_left;intro w' h;go_simp;rfl;try go_simp
           refine dN ?_;have ex:=a0a bt;have gx:=a0a a5;have fc:b4<R.heap.size:=(bt.lt b4 rfl).2;have eg:=a0a (cX (B:=W5.heap.size) (e:=38) (k:=6) (w:=R.alloc (.cells #[] 38)) (a0f R _) a5.size);have au:Hid (a0b W5.heap.size W5 (R.alloc (.cells #[] 38))):=a5.alloc a5.size _;have cd:Hid (W5.heap.size<=(R.alloc (.cells #[] 38)).heap.size):=au.size;have f4:Hid (W5.heap.size<=R.heap.size):=a5.size;have s2:(R.alloc (.cells #[] 38)).cell? ⟨p,2,none⟩=some (.slice none 0 0):=(ao _ au.out).1;clear bt cz c7 a3 bw a5 cQ d2
           go_wp2_with (first
            |(at_builtin;refine aA _ rfl _ _ 32 rfl W5.heap.size 38 i0 (.agg #[.int .i64 0, .int .i64 0, .int .i64 0, .int .i64 0, .int .i64 0, .bool false]) 6 48 Tryz.underlying32 HI.out bO.out bY.out ad.out rfl (by decide) R.heap.size 0 0 [] rfl eg.out W5.heap.size (.slice none 0 0) 0 TK rfl (f6.out _ au.out) f2.out f0.out (by unfold maxLen;omega) (by omega) cd.out ?_;intro b5 c5 w5 bv bs _;have cs:Hid (a0b W5.heap.size W5 w5):=au.out.grown bs cd.out (λj Z=>by injection Z with Z;have:=f4.out;omega);rw [a0t] at bv;have cl:=a0a bv;have f9:Hid (w5.ownsRow W5.heap.size 38 6 (.slice (some ⟨b4,0,none⟩) (1+(0)) c4) (1+(0)) ([.int .i64 r, .int .i64 s, .int .i64 p3, .int .i64 x, .int .i64 n, .bool j]++DR)):=ah ex.out (λg' z=>by have z:some b4=some g':=z;injection z with z;subst z;rw [bs.block _ (by simp;omega) (λe=>by injection e with e;omega)];exact a0q _ _ _ fc);have cu:Hid (W5.heap.size<=w5.heap.size):=cs.out.size;clear bv bs)
            |(at_builtin;refine aA _ rfl _ _ 32 rfl W5.heap.size 38 i0 (.agg #[.int .i64 0, .int .i64 0, .int .i64 0, .int .i64 0, .int .i64 0, .bool false]) 6 48 Tryz.underlying32 HI.out bO.out bY.out ad.out rfl (by decide) b5 0 c5 ([]++TK) rfl cl.out w5.heap.size (.slice (some ⟨b4,0,none⟩) (1+(0)) c4) (1+(0)) ([.int .i64 r, .int .i64 s, .int .i64 p3, .int .i64 x, .int .i64 n, .bool j]++DR) rfl ((bm f9.out).mono (a0l _) (a0g _)) es.out f1.out (by unfold maxLen;omega) (by omega) cu.out ?_;intro b6 c6 w6 d1 cP _;have l:a0b W5.heap.size W5 w6:=cs.out.grown cP cu.out (λj Z=>by injection Z with Z;subst Z;exact (cl.out.lt _ rfl).1);have cm:=a0a d1;have ax:=(l.block p (C.out.lt p C.out.fp)).trans C.out.blk;have y1:=(aa ax 2).trans rfl;have z1:=ab ax 2;have gq:=a0a ax;have b7:=a0a l;clear d1 cP ax l))
           go_ret;rw [a4.out];refine ⟨rfl,?_⟩;have bc:=C.below b7.out;have gQ:=HZ.out;have h3:W5.heap.size<=w6.heap.size:=b7.size;have a8:w6.ownsRow 0 38 6 (.slice (some ⟨b6,0,none⟩) (0+(1+(0))) c6) (insL ltPK d.ps ((r,s),p3,x) (n,j)).length ((insL ltPK d.ps ((r,s),p3,x) (n,j)).flatMap decCells):=by rw [eq.out,er.out];exact bE cm.out (a0l _)
           have fl:=cm.lt b6 rfl;have h9:=d5 p C.fp;have a7:b6≠p:=λe=>by omega
           refine ⟨λk=>F k∨(w.heap.size<=k/\k<w6.heap.size),⟨v1,v2, .slice (some ⟨b6,0,none⟩) (0+(1+(0))) c6,xs,bc.put3 (w':=w6.setCell ⟨p,2,none⟩ _) (vN:= .slice (some ⟨b6,0,none⟩) (0+(1+(0))) c6) (λk E=> .inl E) (λk E=>?_) (λk _ a7 _=>a0d _ _ _ _ a7) ((an bc.blk 2 _).trans rfl) (ah a8 (λg' z=>by have z:some b6=some g':=z;injection z with z;subst z;exact a0d _ _ _ _ a7)) (λg' z=>?_) (by rw [a0c];exact a0g _) (d6.out a0.out)⟩,?_⟩
           · rw [a0c];rcases E with E|E
             · exact bc.lt k E
             · exact E.2
           · have z:some b6=some g':=z;injection z with z
             subst z;exact ⟨.inr ⟨by omega,fl.2⟩, .inr (λhf=>by have:=d5.out _ hf;omega)⟩
           · have y:a0b w.heap.size w w6:=aC.out.trans (b7.out.mono (by omega));exact ((ag.of_below y).trans (ag.of_only (aq.setCell (aq.refl p w6) 2 _) C.fp)).more λk E=>by
              rcases E with E|E
              · exact .inl E
              · exact .inr E.1
         · injection hv with e1 e2 e3
           subst e1 e3;have hM:(q:Int)<=(vc:Int):=by omega
           have hy:(N:Int)<=(vc:Int):=by omega
           have M:=(cx.lt g rfl).2;clear e2;obtain ⟨cc,fs⟩:∃cc,(if vc=q then 0 else q * 6)=cc:=⟨_,rfl⟩;have gn:Hid (q<N->cc=q * 6):=λh=>by rw [<- fs,if_neg (by omega)]
           have f5:Hid (∀W,a0b W5.heap.size W5 W->aH 0 W5.heap.size W (.slice (some ⟨g,cc,none⟩) (N - q) (vc - q)) (N - q) ((d.ps.drop q).flatMap decCells)):=λW y=>by have hr:=(C.below y).ps;rw [O.out] at hr;exact nY (enc:=decCells) (k:=6) (λ_=>rfl) hr (by rw [O.out]) q dx gn.out M
           have f6:Hid (∀W,a0b W5.heap.size W5 W->aH 0 W5.heap.size W (.slice (some ⟨g,0,none⟩) q vc) q ((d.ps.take q).flatMap decCells)):=λW y=>by have hr:=(C.below y).ps;rw [O.out] at hr;exact nZ (enc:=decCells) (k:=6) (λ_=>rfl) hr q dx M
           have gp:=a0a fs;clear fs;have f2:Hid (((d.ps.take q).flatMap decCells).length=q * 6):=by unfold Hid;rw [bP decCells 6 (λ_=>rfl),a0i,O.out,a0u (by omega)]
           have cg:Hid (((d.ps.drop q).flatMap decCells).length=(N - q) * 6):=by unfold Hid;rw [bP decCells 6 (λ_=>rfl),a0j,O.out]
           have es:Hid (([.int .i64 r, .int .i64 s, .int .i64 p3, .int .i64 x, .int .i64 n, .bool j]++(d.ps.drop q).flatMap decCells:List a0z).length=(1+(N - q)) * 6):=by unfold Hid;rw [a0h,cg.out];show 6+_=_;omega
           have eq:Hid ((insL ltPK d.ps ((r,s),p3,x) (n,j)).flatMap decCells=([]++(d.ps.take q).flatMap decCells)++([.int .i64 r, .int .i64 s, .int .i64 p3, .int .i64 x, .int .i64 n, .bool j]++(d.ps.drop q).flatMap decCells)):=by unfold Hid;rw [av.out,a0o,a0e];rfl
           have er:Hid ((insL ltPK d.ps ((r,s),p3,x) (n,j)).length=q+(1+(N - q))):=by unfold Hid;rw [av.out,a0h,a0s,a0i,a0j,O.out];omega
           have f0:Hid (∀u∈(d.ps.take q).flatMap decCells,u.oneCell'=true):=iR _;have cq:Hid (∀u∈(d.ps.drop q).flatMap decCells,u.oneCell'=true):=iR _;have f1:Hid (∀u∈[.int .i64 r, .int .i64 s, .int .i64 p3, .int .i64 x, .int .i64 n, .bool j]++(d.ps.drop q).flatMap decCells,u.oneCell'=true):=λu hu=>by
            rcases List.mem_append.1 hu with hu|hu
            · simp only [a0p,a0n,or_false] at hu;rcases hu with rfl|rfl|rfl|rfl|rfl|rfl<;>rfl
            · exact cq u hu
           generalize (d.ps.take q).flatMap decCells=TK at *;generalize (d.ps.drop q).flatMap decCells=DR at *;go_upto_region 19 with fail
           clear h0 t0 t1 t2 t3 t4 t5;have bw:a0b W5.heap.size W5 Y.drew:=a9.drew;refine wT (λW=>a0b W5.heap.size W5 W) 999 ?_;have f:=tkL [0,2,6,3,4,5];repeat (refine tkIS f ?_ rfl bw ?_ ?_;rotate_left;intro w' h;obtain ⟨s0,t0,t1,t2,t3,t4,t5⟩:=ao w' h;go_simp;rfl;(try go_simp);replace f:=tkO f)
           clear f;refine bT (i:=7) (v:= .slice (some ⟨g,cc,none⟩) (N - q) (vc - q)) rfl (by kernel_rfl) (by kernel_rfl) (by kernel_rfl) (by rfl) (λ_ _ _ h=>h) bw (a0G ⟨by rfl,?_⟩) ?_;focus (intro w' h;go_simp;rw [<- gp.out];(first |rfl|(split<;>simp_all)))
           (try go_simp)
           refine dO 1 rfl λK A=>?_;go_simp;obtain ⟨T,a6⟩:∃T,(Y.alloc (.cells #[.int .i64 r, .int .i64 s, .int .i64 p3, .int .i64 x, .int .i64 n, .bool j] 38)).drew=T:=⟨_,rfl⟩;have a3:a0b W5.heap.size W5 T:=by rw [<- a6];exact (a9.out.alloc a9.out.size _).drew
           have cQ:T.ownsRow W5.heap.size 38 6 (.slice (some ⟨Y.heap.size,0,none⟩) 1 1) 1 [.int .i64 r, .int .i64 s, .int .i64 p3, .int .i64 x, .int .i64 n, .bool j]:=by rw [<- a6];exact a0r (base:=W5.heap.size) (e:=38) (size:=6) Y #[.int .i64 r, .int .i64 s, .int .i64 p3, .int .i64 x, .int .i64 n, .bool j] 1 a9.out.size (by unfold maxLen;omega) rfl
           rw [a6];refine A _ _ (λ_=>a3) ?_;clear A K;clear a6;obtain ⟨b4,c4,R,d2,bt,cz,c7⟩:=bf (P:=a0m) T W5.heap.size 32 32 38 i0 (.agg #[.int .i64 0, .int .i64 0, .int .i64 0, .int .i64 0, .int .i64 0, .bool false]) 6 48 Tryz.underlying32 HI.out bO.out bY.out ad.out rfl (by decide) Y.heap.size 1 1 [.int .i64 r, .int .i64 s, .int .i64 p3, .int .i64 x, .int .i64 n, .bool j] cQ W5.heap.size (.slice (some ⟨g,cc,none⟩) (N - q) (vc - q)) (N - q) DR (f5.out T a3) cg.out cq.out (by unfold maxLen;omega) (by omega) a3.size;have a5:a0b W5.heap.size W5 R:=a3.grown cz a3.size (λj Z=>by injection Z with Z;have:=a9.out.size;omega);refine dO 8 rfl λK A=>?_;refine dH rfl rfl rfl d2 ?_;refine A _ _ (λ_=>a5) ?_;clear A K;go_simp;refine tkS 9 ?_ rfl a5 ?_ ?_;rotate_left;intro w' h;go_simp;rfl;try go_simp
           refine dN ?_;have ex:=a0a bt;have gx:=a0a a5;have fc:b4<R.heap.size:=(bt.lt b4 rfl).2;have eg:=a0a (cX (B:=W5.heap.size) (e:=38) (k:=6) (w:=R.alloc (.cells #[] 38)) (a0f R _) a5.size);have au:Hid (a0b W5.heap.size W5 (R.alloc (.cells #[] 38))):=a5.alloc a5.size _;have cd:Hid (W5.heap.size<=(R.alloc (.cells #[] 38)).heap.size):=au.size;have f4:Hid (W5.heap.size<=R.heap.size):=a5.size;have s2:(R.alloc (.cells #[] 38)).cell? ⟨p,2,none⟩=some (.slice (some ⟨g,0,none⟩) N vc):=(ao _ au.out).1;clear bt cz c7 a3 bw a5 cQ d2
           go_wp2_with (first
            |(at_builtin;refine aA _ rfl _ _ 32 rfl W5.heap.size 38 i0 (.agg #[.int .i64 0, .int .i64 0, .int .i64 0, .int .i64 0, .int .i64 0, .bool false]) 6 48 Tryz.underlying32 HI.out bO.out bY.out ad.out rfl (by decide) R.heap.size 0 0 [] rfl eg.out W5.heap.size (.slice (some ⟨g,0,none⟩) q vc) q TK rfl (f6.out _ au.out) f2.out f0.out (by unfold maxLen;omega) (by omega) cd.out ?_;intro b5 c5 w5 bv bs _;have cs:Hid (a0b W5.heap.size W5 w5):=au.out.grown bs cd.out (λj Z=>by injection Z with Z;have:=f4.out;omega);rw [a0t] at bv;have cl:=a0a bv;have f9:Hid (w5.ownsRow W5.heap.size 38 6 (.slice (some ⟨b4,0,none⟩) (1+(N - q)) c4) (1+(N - q)) ([.int .i64 r, .int .i64 s, .int .i64 p3, .int .i64 x, .int .i64 n, .bool j]++DR)):=ah ex.out (λg' z=>by have z:some b4=some g':=z;injection z with z;subst z;rw [bs.block _ (by simp;omega) (λe=>by injection e with e;omega)];exact a0q _ _ _ fc);have cu:Hid (W5.heap.size<=w5.heap.size):=cs.out.size;clear bv bs)
            |(at_builtin;refine aA _ rfl _ _ 32 rfl W5.heap.size 38 i0 (.agg #[.int .i64 0, .int .i64 0, .int .i64 0, .int .i64 0, .int .i64 0, .bool false]) 6 48 Tryz.underlying32 HI.out bO.out bY.out ad.out rfl (by decide) b5 q c5 ([]++TK) rfl cl.out w5.heap.size (.slice (some ⟨b4,0,none⟩) (1+(N - q)) c4) (1+(N - q)) ([.int .i64 r, .int .i64 s, .int .i64 p3, .int .i64 x, .int .i64 n, .bool j]++DR) rfl ((bm f9.out).mono (a0l _) (a0g _)) es.out f1.out (by unfold maxLen;omega) (by omega) cu.out ?_;intro b6 c6 w6 d1 cP _;have l:a0b W5.heap.size W5 w6:=cs.out.grown cP cu.out (λj Z=>by injection Z with Z;subst Z;exact (cl.out.lt _ rfl).1);have cm:=a0a d1;have ax:=(l.block p (C.out.lt p C.out.fp)).trans C.out.blk;have y1:=(aa ax 2).trans rfl;have z1:=ab ax 2;have gq:=a0a ax;have b7:=a0a l;clear d1 cP ax l))
           go_ret;rw [a4.out];refine ⟨rfl,?_⟩;have bc:=C.below b7.out;have gQ:=HZ.out;have h3:W5.heap.size<=w6.heap.size:=b7.size;have a8:w6.ownsRow 0 38 6 (.slice (some ⟨b6,0,none⟩) (q+(1+(N - q))) c6) (insL ltPK d.ps ((r,s),p3,x) (n,j)).length ((insL ltPK d.ps ((r,s),p3,x) (n,j)).flatMap decCells):=by rw [eq.out,er.out];exact bE cm.out (a0l _)
           have fl:=cm.lt b6 rfl;have h9:=d5 p C.fp;have a7:b6≠p:=λe=>by omega
           refine ⟨λk=>F k∨(w.heap.size<=k/\k<w6.heap.size),⟨v1,v2, .slice (some ⟨b6,0,none⟩) (q+(1+(N - q))) c6,xs,bc.put3 (w':=w6.setCell ⟨p,2,none⟩ _) (vN:= .slice (some ⟨b6,0,none⟩) (q+(1+(N - q))) c6) (λk E=> .inl E) (λk E=>?_) (λk _ a7 _=>a0d _ _ _ _ a7) ((an bc.blk 2 _).trans rfl) (ah a8 (λg' z=>by have z:some b6=some g':=z;injection z with z;subst z;exact a0d _ _ _ _ a7)) (λg' z=>?_) (by rw [a0c];exact a0g _) (d6.out a0.out)⟩,?_⟩
           · rw [a0c];rcases E with E|E
             · exact bc.lt k E
             · exact E.2
           · have z:some b6=some g':=z;injection z with z
             subst z;exact ⟨.inr ⟨by omega,fl.2⟩, .inr (λhf=>by have:=d5.out _ hf;omega)⟩
           · have y:a0b w.heap.size w w6:=aC.out.trans (b7.out.mono (by omega));exact ((ag.of_below y).trans (ag.of_only (aq.setCell (aq.refl p w6) 2 _) C.fp)).more λk E=>by
              rcases E with E|E
              · exact .inl E
              · exact .inr E.1
end
section
open Go.RowKit Go.Maps Go.Shelf
theorem yc (F:Nat->Prop) (w:a0A) (p:Nat) (d:ar) (h:bM F w p d) (a b:RK) (n:Int) (v:rkOk a) (x:rkOk b) (z:i64B n):
 a0E a0m 43 #[.pointer (some ⟨p,0,none⟩),recK a,recK b, .int .i64 n] w λe w'=>e= .returned (.int .i64 (decideC d a b n false).2)/\∃c,bM c w' p (decideC d a b n false).1/\ag F w c w':=by
 have j:Hid (∀o f,a0b w.heap.size w ((w.alloc o).alloc f)):=λo f=>((a0v _ w).alloc (a0g _) o).alloc (by simp) f
 have m:Hid (∀o f,a0E a0m 82 #[.pointer (some ⟨p,0,none⟩),recK a,recK b, .int .i64 n, .bool false] ((w.alloc o).alloc f) λe w'=>e= .returned (.int .i64 (decideC d a b n false).2)/\∃c,bM c w' p (decideC d a b n false).1/\ag F w c w'):=λo f=>
  (nd F _ p d (h.below (j o f)) a b n false v x z).mono λe w' ⟨y,c,g,i⟩=>⟨y,c,g,(ag.of_below (j o f)).trans i⟩
 obtain ⟨q,s⟩:=a;obtain ⟨t,u⟩:=b;clear h;generalize decideC d (q,s) (t,u) n false=r at *;unfold recK at *;dsimp only at *;go_enter Tryz.func43,Tryz.ntmps43;go_wp2_with (go_at_call 82;((with_reducible refine a0k (m.out _ _) ?_);rintro e A ⟨rfl,c,g,i⟩;have k:=a0a g;have l:=a0a i;clear g i))
 go_ret;exact ⟨rfl,c,k.out,l.out⟩
theorem zg (F:Nat->Prop) (w:a0A) (p:Nat) (d:ar) (h:bM F w p d) (a b:RK) (n:Int) (v:rkOk a) (x:rkOk b) (z:i64B n):
 a0E a0m 44 #[.pointer (some ⟨p,0,none⟩),recK a,recK b, .int .i64 n] w λe w'=>e= .returned (.int .i64 (decideC d a b n true).2)/\∃c,bM c w' p (decideC d a b n true).1/\ag F w c w':=by
 have j:Hid (∀o f,a0b w.heap.size w ((w.alloc o).alloc f)):=λo f=>((a0v _ w).alloc (a0g _) o).alloc (by simp) f
 have m:Hid (∀o f,a0E a0m 82 #[.pointer (some ⟨p,0,none⟩),recK a,recK b, .int .i64 n, .bool true] ((w.alloc o).alloc f) λe w'=>e= .returned (.int .i64 (decideC d a b n true).2)/\∃c,bM c w' p (decideC d a b n true).1/\ag F w c w'):=λo f=>
  (nd F _ p d (h.below (j o f)) a b n true v x z).mono λe w' ⟨y,c,g,i⟩=>⟨y,c,g,(ag.of_below (j o f)).trans i⟩
 obtain ⟨q,s⟩:=a;obtain ⟨t,u⟩:=b;clear h;generalize decideC d (q,s) (t,u) n true=r at *;unfold recK at *;dsimp only at *;go_enter Tryz.func44,Tryz.ntmps44;go_wp2_with (go_at_call 82;((with_reducible refine a0k (m.out _ _) ?_);rintro e A ⟨rfl,c,g,i⟩;have k:=a0a g;have l:=a0a i;clear g i))
 go_ret;exact ⟨rfl,c,k.out,l.out⟩
end
end Go.Proofs.YtjcimanddakkaaaGreatDoor
