/- Lemmas. -/
import Derived.Test.YtjcimanddakkaaaGreatDoorX0
import Derived.Test.YtjcimanddakkaaaGreatDoorX1
import Derived.Test.YtjcimanddakkaaaGreatDoorX3
import Derived.Test.YtjcimanddakkaaaGreatDoorX4
set_option maxRecDepth 100000
set_option maxHeartbeats 8000000
namespace Go.Proofs.YtjcimanddakkaaaGreatDoor
open Go.Value renaming slice→a0a
open Go.World renaming alloc_heap_new→a0b,grownBy_alloc→a0d
open _root_.Nat renaming le_refl→a0c
open Go.RowKit.Below renaming heap_alloc→a0e,refl→a0f,heap_setCell→a0k
open Go.Calls renaming mono→a0g
open Go.Lib renaming hid→a0h
open _root_.Int renaming tdiv_eq_ediv_of_nonneg→a0i
open Go.Proofs.Tryz renaming prog→a0j
open Go renaming World→a0l,Value→a0p,Calls→a0r
open Go.RowKit renaming Below→a0m
open Go.IntWalk renaming i64_in→a0n
open Go.Builtin renaming append_→a0o
open _root_.List renaming length_append→a0q
open Go.Addr renaming add→a0s
section
open Go.RowKit Go.Maps Go.Shelf
structure MdI (B:Nat) (w0 wr:a0l) (q:Six) (kd:UInt8) (v:a0p) (fs:List af) (ls:List (Nat×List Bs)):Prop where
 b:a0m B w0 wr
 lo:B+3<=wr.heap.size
 arg:wr.heap[B]? =some (.cells #[.int .i64 q.a, .int .i64 q.b, .int .i64 q.c, .int .i64 q.d, .int .i64 q.e, .int .i64 q.f] 45 (0,0))
 res:wr.heap[B+1]? =some (.cells #[.int .u8 0, .int .u8 0, .slice none 0 0] 62 (0,0))
 rcd:wr.heap[B+2]? =some (.cells #[.int .u8 kd.toNat, .int .u8 109,v] 62 (0,0))
 own:bG (B+3) wr v fs
 str:∀p∈ls,B+3<=p.1/\wr.heap[p.1]? =some (.cells (p.2.map S).toArray 9 (0,0))
theorem pX {lo:Nat} {w:a0l} {v:a0p} {fs:List af} (h:bG lo w v fs) {g:Nat} (c:v.ownBlock=some g):lo<=g/\∃d,w.heap[g]? =some (.cells d 123 (0,0)):=by
 obtain ⟨ps,_,_,b⟩:=h.ex;exact ⟨(b.lt g c).1,aD b c⟩
structure MdS (B:Nat) (W:a0l) (q:Six) (kd:UInt8) (v:a0p) (ls:List (Nat×List Bs)):Prop where
 arg:W.heap[B]? =some (.cells #[.int .i64 q.a, .int .i64 q.b, .int .i64 q.c, .int .i64 q.d, .int .i64 q.e, .int .i64 q.f] 45 (0,0))
 rcd:W.heap[B+2]? =some (.cells #[.int .u8 kd.toNat, .int .u8 109,v] 62 (0,0))
 str:∀p∈ls,W.heap[p.1]? =some (.cells (p.2.map S).toArray 9 (0,0))
section
variable {B:Nat} {w0 wr W:a0l} {q:Six} {kd:UInt8} {v:a0p} {fs:List af} {ls:List (Nat×List Bs)}
theorem MdI.old (h:MdI B w0 wr q kd v fs ls) (f:wr.grownBy W v.ownBlock) {k:Nat} {c:Array a0p} {t:TypeId} (b:wr.heap[k]? =some (.cells c t (0,0))) (g:t≠123):W.heap[k]? =some (.cells c t (0,0)):=
 (f.block k (ae b) (λe=>by
  obtain ⟨_,i,d⟩:=pX h.own e.symm
  exact dj b d g rfl)).trans b
theorem MdI.s (h:MdI B w0 wr q kd v fs ls) (b:wr.grownBy W v.ownBlock):MdS B W q kd v ls:=
 ⟨h.old b h.arg (by decide),h.old b h.rcd (by decide),λp c=>h.old b (h.str p c).2 (by decide)⟩
theorem MdI.self (h:MdI B w0 wr q kd v fs ls):MdS B wr q kd v ls:=⟨h.arg,h.rcd,λp b=>(h.str p b).2⟩
theorem MdS.at (h:MdS B W q kd v ls) {b:Nat} {l:List Bs} (c:(b,l)∈ls) {m:Nat} (d:m<l.length):W.cell? ⟨b,m,none⟩=some (S (l.getD m [])):=by
 rw [aa (h.str _ c) m];simp [List.getD_eq_getElem?_getD,d]
theorem MdI.keep (h:MdI B w0 wr q kd v fs ls) (c:a0m wr.heap.size wr W):MdI B w0 W q kd v fs ls:=
 ⟨h.b.trans (c.mono (by have:=h.lo;omega)),by have:=c.size;have:=h.lo;omega,(c.block _ (ae h.arg)).trans h.arg,(c.block _ (ae h.res)).trans h.res,(c.block _ (ae h.rcd)).trans h.rcd,
  h.own.keep (λk _ e=>c.block k e) c.size,λp d=>⟨(h.str p d).1,(c.block _ (ae (h.str p d).2)).trans (h.str p d).2⟩⟩
theorem MdI.strs (h:MdI B w0 wr q kd v fs ls) (l:List Bs):MdI B w0 (wr.alloc (.cells (l.map S).toArray 9)) q kd v fs (ls++[(wr.heap.size,l)]):=by
 have c:=h.keep ((a0f _ wr).alloc (a0c _) (.cells (l.map S).toArray 9));refine ⟨c.b,c.lo,c.arg,c.res,c.rcd,c.own,λp d=>?_⟩;rcases List.mem_append.1 d with d|d
 · exact c.str p d
 · rw [List.mem_singleton] at d;subst d;exact ⟨h.lo,a0b wr _⟩
end
theorem ub (w:a0l) (x y z u:a0p) (t:TypeId):∀j v,[x,y,z,u][j]? =some v->(w.alloc (.cells #[x,y,z,u] t)).cell? ((⟨w.heap.size,0,none⟩:Addr).add j)=some v:=by
 intro j v b;match j,b with
 |0,b=>simp at b;subst b;simp [a0s]
 |1,b=>simp at b;subst b;simp [a0s]
 |2,b=>simp at b;subst b;simp [a0s]
 |3,b=>simp at b;subst b;simp [a0s]
theorem AU (lo:Nat) (w1:a0l) (v:a0p) (n:Nat) (f:List a0p) (t:w1.ownsRow lo 123 4 v n f) (D:n<=1000000) (C:lo<=w1.heap.size) (a b c d:a0p) (l:a.oneCell'=true) (m:b.oneCell'=true) (p:c.oneCell'=true) (r:d.oneCell'=true):
 ∃e w',(a0o #[60,60] 60 #[v, .slice (some ⟨w1.heap.size,0,none⟩) 1 1]).run a0j (w1.alloc (.cells #[a,b,c,d] 123))= .ok e w'/\w'.ownsRow lo 123 4 e (n+1) (f++[a,b,c,d])/\(w1.alloc (.cells #[a,b,c,d] 123)).grownBy w' v.ownBlock/\
  (e.ownBlock=v.ownBlock∨e.ownBlock=some (w1.heap.size+1)):=by
 obtain ⟨A,s,x,y,z⟩:=info_parts Aw
 obtain ⟨e,w',h,i,j,_,k⟩:=run_append_own_at (P:=a0j) (w1.alloc (.cells #[a,b,c,d] 123)) lo 60 60 123 A (.agg #[.string ⟨#[]⟩, .string ⟨#[]⟩, .string ⟨#[]⟩, .slice none 0 0]) 4 72 Tryz.underlying60 s x y z rfl (by decide) v n f (World.ownsRow.alloc t _) ⟨w1.heap.size,0,none⟩ 1 1 [a,b,c,d] rfl
  (ub w1 a b c d 123) (by
   intro u g
   simp only [List.mem_cons,List.not_mem_nil,or_false] at g
   rcases g with rfl|rfl|rfl|rfl
   · exact l
   · exact m
   · exact p
   · exact r) (by unfold maxLen;omega) (by omega) (by simp;omega)
 exact ⟨e,w',h,i,j,by simpa using k⟩
theorem MdI.app {B:Nat} {w0 wr W:a0l} {q:Six} {kd:UInt8} {v:a0p} {fs:List af} {ls:List (Nat×List Bs)} (h:MdI B w0 wr q kd v fs ls) (r:a0m wr.heap.size wr W) {n m:Nat} (J:fs.length=n) (M:n+1=m) (Z:n<=1000) (f:af) (d:a0p) (D:bh (B+3) v.ownBlock W d f.subs):
 ∃(s:Option Addr) (t:Nat) (j:a0l),(a0o #[60,60] 60 #[v, .slice (some ⟨W.heap.size,0,none⟩) 1 1]).run a0j (W.alloc (.cells #[S f.tag,S f.ind,S f.data,d] 123))= .ok (.slice s (m) t) j/\
  wr.grownBy j v.ownBlock/\W.grownBy j v.ownBlock/\j.cell? ⟨B+2,2,none⟩=some v/\j.frozen? ⟨B+2,2,none⟩=false/\MdI B w0 (j.setCell ⟨B+2,2,none⟩ (.slice s (m) t)) q kd (.slice s (m) t) (fs++[f]) ls:=by
 subst J;subst M;obtain ⟨ps,U,V,E⟩:=h.own.ex;have Y:=h.lo;have z:wr.grownBy W v.ownBlock:=⟨r.os,r.tape,r.output,r.size,λk i _=>r.block k i⟩;have R:=r.size;have I:d.oneCell'=true:=by obtain ⟨a,c,rfl,_⟩:=D;rfl
 have X:W.ownsRow (B+3) 123 4 v fs.length (ps.flatMap fieldCells):=ah E (λg z=>r.block g (E.lt g z).2);obtain ⟨v',j,F,C,y,G⟩:=AU (B+3) W v fs.length (ps.flatMap fieldCells) X (by omega) (by omega) (S f.tag) (S f.ind) (S f.data) d rfl rfl rfl I;obtain ⟨s,t,rfl⟩:=aK C;have l:wr.grownBy j v.ownBlock:=(z.trans ((a0d _ _ none).but _)).trans y;have H:W.grownBy j v.ownBlock:=((a0d _ _ none).but _).trans y;have N:∀k,k<wr.heap.size->W.heap[k]? =wr.heap[k]? :=r.block;have O:=bG.app (w1:=W.alloc (.cells #[S f.tag,S f.ind,S f.data,d] 123)) f d ps U (λp u=>((V p u).step (λk _ i _=>N k i) R (.inl rfl)).step (λk _ i _=>a0e W _ k i) (by simp) (.inl rfl)) (D.step (λk _ i _=>a0e W _ k i) (by simp) (.inl rfl)) C y (by simpa using G);have A:=h.old l h.rcd (by decide);refine ⟨s,t,j,F,l,H,aa A 2,ab A 2,?_⟩;have x:∀k,k≠B+2->(j.setCell ⟨B+2,2,none⟩ (.slice s (fs.length+1) t)).heap[k]? =j.heap[k]? :=λk i=>a0k _ _ _ _ i;have T:=l.size;refine ⟨?_,by simp;omega,(x B (by omega)).trans (h.old l h.arg (by decide)),(x (B+1) (by omega)).trans (h.old l h.res (by decide)),an A 2 _,O.keep (λk i _=>x k (by omega)) (by simp),λp u=>⟨(h.str p u).1,(x p.1 (by have:=(h.str p u).1;omega)).trans (h.old l (h.str p u).2 (by decide))⟩⟩;refine Below.setCell (p:=⟨B+2,2,none⟩) ?_ (by simp) _;exact ⟨l.os.trans h.b.os,l.tape.trans h.b.tape,l.output.trans h.b.output,Nat.le_trans h.b.size T,λk i=>by
  have L:k<wr.heap.size:=by omega
  refine (l.block k L (λe=>?_)).trans (h.b.block k i);have:=(pX h.own e.symm).1;omega⟩
theorem dX {lo:Nat} {w:a0l} {v:a0p} {fs:List af} (h:bG lo w v fs) {g:Nat} (c:v.ownBlock=some g):g<w.heap.size:=by
 obtain ⟨ps,_,_,b⟩:=h.ex;exact (b.lt g c).2
theorem kD {lo:Nat} {g:Option Nat} {W:a0l} {b:Nat} {c1:UInt8} {t1:Bs} (h:W.heap[b]? =some (.cells #[.int .u8 c1.toNat,S t1] 120 (0,0))) (d:lo<=b) (c:g≠some b):bh lo g W (.slice (some ⟨b,0,none⟩) 1 1) [⟨c1,t1⟩]:=by
 refine ⟨_,_,rfl,λ_=>⟨b,0,rfl,d,ae h,c,λj x e=>?_⟩⟩;rw [Nat.zero_add,aa h, <- e];simp [subCells]
theorem fZ {lo:Nat} {g:Option Nat} {W:a0l} {b:Nat} {c1 c2:UInt8} {t1 t2:Bs} (h:W.heap[b]? =some (.cells #[.int .u8 c1.toNat,S t1, .int .u8 c2.toNat,S t2] 120 (0,0))) (d:lo<=b) (c:g≠some b):bh lo g W (.slice (some ⟨b,0,none⟩) 2 2) [⟨c1,t1⟩,⟨c2,t2⟩]:=by
 refine ⟨_,_,rfl,λ_=>⟨b,0,rfl,d,ae h,c,λj x e=>?_⟩⟩;rw [Nat.zero_add,aa h, <- e];simp [subCells]
theorem dt {P:Program} {d:Region.Mode} {e:Array Oper} {Q:Exit->Act->a0l->Prop} {S:a0l->Prop} {z:Nat} (b:a0l->Prop) (h:∀w,b w->S w):∀(n:Nat) (listed:Array Bool) (a:Act) (w:a0l),anyT P d e Q b z n listed a w->anyT P d e Q S z n listed a w
 |0,_,_,_,h0=>h0
 |n+1,_,_,_,h0=>⟨h0.1,λi g=>wpOp_mono (λf w' c=>⟨λj=>h _ (c.1 j),dt b h n _ f w' c.2⟩) (h0.2 i g)⟩
section
variable {P:Program} {o:Oper} {a:Act} {K:Act->a0l->Prop} {Q:Exit->Act->a0l->Prop} {w:a0l}
theorem cE {s x:Operand} {t:TypeId} (e:o.op= .call {callee:= .builtin .append,args:= #[s,x],argTypes:= #[t,t]}) {b c v:a0p} (g:a.eval s=b) (h:a.eval x=c) {w':a0l} (f:(a0o #[t,t] o.type #[b,c]).run P w= .ok v w') (d:K (a.put o.dst v) w'):o.wp P a w K Q:=by
 unfold Oper.wp execOp;simp only [e,resolve,invoke,builtin,Sem.run_bind,Sem.run_pure,Result.andThen_ok,List.map_toArray,List.map_cons,List.map_nil,g,h,f];exact d
end
end
section
open Go.RowKit Go.Maps Go.Shelf
theorem ct (n:Int) (M:Nat) (h:0<M):∃m:Nat,n.emod M=m/\m<M:=by
 have b:0<=n.emod M:=Int.emod_nonneg n (by omega);have c:n.emod M<M:=Int.emod_lt_of_pos n (by omega);exact ⟨(n.emod M).toNat,(Int.toNat_of_nonneg b).symm,by omega⟩
theorem cY (n:Int) (M m:Nat) (b:1<=M) (c:M<=1000000) (h:n.emod M=m) (W:a0l):a0r a0j 24 #[.int .i64 n, .int .i64 (M:Int)] W λe w'=>e= .returned (.int .i64 (m:Int))/\W=w':=by
 refine (jj n M W (by omega) (by omega)).mono ?_;rintro e w' ⟨rfl,rfl⟩;rw [h];exact ⟨rfl,rfl⟩
theorem eS (l:List Bs) (n:Int) (M m:Nat) (b:l.length=M) (h:n.emod M=m):pick l n=l.getD m []:=by
 unfold pick;rw [b,h];rfl
theorem eX {fs:List af} {n:Nat} (h:fs.length=n) (x:af):Hid ((fs++[x]).length=n+1):=by
 unfold Hid;simp [h]
theorem tA {n:Int} (h:i64B n) (m:Int) (c:m=3∨m=4∨m=5): -4611686018427387904<=n.tdiv m/\n.tdiv m<=4611686018427387904:=by
 unfold i64B at h;rcases Int.le_total 0 n with b|b
 · rw [a0i b];rcases c with rfl|rfl|rfl<;>omega
 · have d:n.tdiv m= -((-n).tdiv m):=by rw [Int.neg_tdiv];omega
   rw [d,a0i (by omega)];rcases c with rfl|rfl|rfl<;>omega
theorem yO (a b c d e f:Int) (hc:i64B c) (hd:i64B d) (he:i64B e) (w:a0l):
 a0r a0j 83 #[.agg #[.int .i64 a, .int .i64 b, .int .i64 c, .int .i64 d, .int .i64 e, .int .i64 f]] w λe' w'=>∃(r:Option Addr) (t:Nat),e'= .returned (.agg #[.int .u8 (madeR ⟨a,b,c,d,e,f⟩).kind.toNat, .int .u8 109, .slice r (madeR ⟨a,b,c,d,e,f⟩).fields.length t])/\ai w.heap.size w'.heap.size w' (.slice r (madeR ⟨a,b,c,d,e,f⟩).fields.length t) (madeR ⟨a,b,c,d,e,f⟩).fields/\a0m w.heap.size w w':=by
 obtain ⟨ma,dc,la⟩:=ct a 5 (by omega);obtain ⟨mb,dd,lb⟩:=ct b 8 (by omega);have cq:Hid (∀W,a0r a0j 24 #[.int .i64 a, .int .i64 5] W λe w'=>e= .returned (.int .i64 (ma:Int))/\W=w'):=cY a 5 ma (by omega) (by omega) dc;have cs:Hid (∀W,a0r a0j 24 #[.int .i64 b, .int .i64 8] W λe w'=>e= .returned (.int .i64 (mb:Int))/\W=w'):=cY b 8 mb (by omega) (by omega) dd;obtain ⟨kd,bs⟩:∃kd:UInt8,(madeR ⟨a,b,c,d,e,f⟩).kind=kd:=⟨_,rfl⟩;have cy:Hid (kd=if ma=4 then 109 else 97):=by
  unfold Hid;rw [<- bs];unfold madeR;dsimp only;have:a.emod 5=(ma:Int):=dc;rw [this];by_cases h4:ma=4
  · rw [if_pos h4,if_pos (by omega)]
  · rw [if_neg h4,if_neg (by omega)]
 obtain ⟨X,hX⟩:∃X,pick yearsL b=X:=⟨_,rfl⟩;have HX:Hid (yearsL.getD mb []=X):=by unfold Hid;rw [<- hX];exact (eS yearsL b 8 mb rfl dd).symm
 have f0:X.length<=12:=by
  rw [<- HX.out];have:∀m,m<8->(yearsL.getD m []).length<=12:=by decide
  exact this mb lb
 have bY:Hid (made008 b=if b.tmod 2=0 then [⟨kC,[],[56,53,48,49,48,49,115]++(X++[32,32,32,32,120,120]),[]⟩] else []):=by unfold Hid made008;rw [hX,List.append_assoc]
 obtain ⟨w2,b5⟩:∃w2,(w.alloc (.cells #[.int .i64 a, .int .i64 b, .int .i64 c, .int .i64 d, .int .i64 e, .int .i64 f] 45)).alloc (.cells #[.int .u8 0, .int .u8 0, .slice none 0 0] 62)=w2:=⟨_,rfl⟩;have b8:a0m w.heap.size w w2:=by rw [<- b5];exact ((a0f _ w).alloc (a0c _) _).alloc (by simp) _
 have hA:w2.heap[w.heap.size]? =some (.cells #[.int .i64 a, .int .i64 b, .int .i64 c, .int .i64 d, .int .i64 e, .int .i64 f] 45 (0,0)):=by rw [<- b5,a0e _ _ _ (by simp)];exact a0b w _
 have hB:w2.heap[w.heap.size+1]? =some (.cells #[.int .u8 0, .int .u8 0, .slice none 0 0] 62 (0,0)):=by rw [<- b5];have:=a0b (w.alloc (.cells #[.int .i64 a, .int .i64 b, .int .i64 c, .int .i64 d, .int .i64 e, .int .i64 f] 45)) (.cells #[.int .u8 0, .int .u8 0, .slice none 0 0] 62);rwa [World.size_alloc] at this
 have cl:w2.heap.size=w.heap.size+2:=by rw [<- b5];simp
 have cx:Hid (MdI w.heap.size w (w2.alloc (.cells #[.int .u8 kd.toNat, .int .u8 109, .slice none 0 0] 62)) ⟨a,b,c,d,e,f⟩ kd (.slice none 0 0) [] []):=by have ho:∀k,k<w2.heap.size->(w2.alloc (.cells #[.int .u8 kd.toNat, .int .u8 109, .slice none 0 0] 62)).heap[k]? =w2.heap[k]? :=λk I=>a0e _ _ _ I;refine ⟨b8.alloc (by omega) _,by simp;omega,(ho _ (by omega)).trans hA,(ho _ (by omega)).trans hB,?_,bG.nil _ _,λp hp=>(by cases hp)⟩;rw [<- cl];exact a0b w2 _
 have d0:=a0h b5;have HA:=a0h hA;have d1:=a0h cl;obtain ⟨R,hR⟩:∃R,madeR ⟨a,b,c,d,e,f⟩=R:=⟨_,rfl⟩;have HR:=a0h hR;rw [hR] at bs ⊢;have e8:=a0h bs;clear b5 b8 hA hB cl hX hR bs;go_enter Tryz.func83,Tryz.ntmps83;go_upto_region 1 with fail
 rw [d0.out];go_cut [3] (λp wx=>p= .pointer (some ⟨w.heap.size+2,0,none⟩)/\Hid (MdI w.heap.size w wx ⟨a,b,c,d,e,f⟩ kd (.slice none 0 0) [] []))
 case first=>
  have e0:w2.cell? ⟨w.heap.size,0,none⟩=some (.int .i64 a):=(aa HA.out 0).trans rfl;have I:=cy.out;obtain rfl|rfl|rfl|rfl|rfl:ma=0∨ma=1∨ma=2∨ma=3∨ma=4:=by omega
  all_goals
   first
    |obtain rfl:kd=97:=I
    |obtain rfl:kd=109:=I
   go_wp2_with (go_at_call 24;((with_reducible refine a0g (cq.out _) ?_);rintro e w3 ⟨rfl,rfl⟩))
   go_meet
   refine ⟨?_,cx.out⟩
   rw [d1.out]
 case rest=>
  obtain ⟨rfl,y⟩:=hcut;clear cx cq HA d0 d1 cy;obtain ⟨Y,hY⟩:∃Y,wc.heap.size=Y:=⟨_,rfl⟩;have eQ:Hid (w.heap.size+3<=Y):=by unfold Hid;rw [<- hY];exact y.out.lo
  go_upto_region 2 with fail
  go_cut [4] (λp wx=>p= .slice (some ⟨Y,0,none⟩) 8 8/\∃(r:Option Addr) (t:Nat),Hid (MdI w.heap.size w wx ⟨a,b,c,d,e,f⟩ kd (.slice r 0 t) [] [(Y,yearsL)]))
  case first=>
   go_wp2_with fail
   go_meet;refine ⟨rfl,none,0,?_⟩;have h:=y.strs yearsL;rw [hY] at h;exact h
  case rest=>
   obtain ⟨rfl,r,t,cP⟩:=hcut;clear hY y;have y:=cP;clear cP;have e1:=(aa y.arg 1).trans rfl;have x1:wc.cell? ⟨Y,mb,none⟩=some (S X):=by have:=y.self.at (List.mem_singleton.2 rfl:(Y,yearsL)∈[(Y,yearsL)]) (m:=mb) (by exact lb);rw [HX.out] at this;exact this
   have ib:(mb:Int)<8:=by omega
   go_upto_region 4 with (go_at_call 24;((with_reducible refine a0g (cs.out _) ?_);rintro e w3 ⟨rfl,rfl⟩))
   go_upto_if 26 with fail
   clear e1 x1;go_cut [] (λwx=>∃(r:Option Addr) (t:Nat),Hid (MdI w.heap.size w wx ⟨a,b,c,d,e,f⟩ kd (.slice r (made008 b).length t) (made008 b) [(Y,yearsL)]))
   case first=>
    by_cases b8:b.tmod 2=0
    · have a6:Hid (made008 b=[⟨kC,[],[56,53,48,49,48,49,115]++(X++[32,32,32,32,120,120]),[]⟩]):=by unfold Hid;rw [bY.out,if_pos b8]
      have c2:wc.cell? ⟨w.heap.size+2,2,none⟩=some (.slice r 0 t):=(aa y.rcd 2).trans rfl;obtain ⟨a',c',w8,F,U,a1,aS,aT,O⟩:=y.out.app (W:=wc) (a0f _ _) (n:=0) (m:=1) rfl rfl (by omega) ⟨kC,[],56::53::48::49::48::49::115::(X++[32,32,32,32,120,120]),[]⟩ (.slice none 0 0) ⟨none,0,rfl,λh=>absurd rfl h⟩;dsimp only at F;have a8:=a0h F;have e9:=a0h O;clear F O U a1;go_wp2_with (at_builtin;refine wpList_plain rfl λK l=>?_;refine cE rfl rfl rfl a8.out ?_;refine l _ _ ?_)
      go_meet;refine ⟨a',c',?_⟩;rw [a6.out];exact e9.out
    · have a6:Hid (made008 b=[]):=by unfold Hid;rw [bY.out,if_neg b8]
      go_wp2_with fail
      go_meet;refine ⟨r,t,?_⟩;rw [a6.out];exact y.out
   case rest=>
    obtain ⟨r,t,a5⟩:=hcut;clear y ib bY cs;have y:=a5;clear a5;obtain ⟨F0,bb⟩:∃F0,made008 b=F0:=⟨_,rfl⟩;have f1:F0.length<=1:=by rw [<- bb];unfold made008;split<;>simp
    rw [bb] at y;have dz:=a0h bb;clear bb;obtain ⟨Y2,d2⟩:∃Y,wc.heap.size=Y:=⟨_,rfl⟩;go_upto_region 6 with fail
    go_cut [6] (λp wx=>p= .slice (some ⟨Y2,0,none⟩) 7 7/\Hid (MdI w.heap.size w wx ⟨a,b,c,d,e,f⟩ kd (.slice r F0.length t) F0 [(Y,yearsL),(Y2,booksL)]))
    case first=>
     go_wp2_with fail
     go_meet;refine ⟨rfl,?_⟩;have h:=y.strs booksL;rw [d2] at h;exact h
    case rest=>
     obtain ⟨rfl,a5⟩:=hcut;clear y d2;obtain ⟨m3,c6,l3⟩:=ct c 3 (by omega);obtain ⟨m7,c7,l7⟩:=ct c 7 (by omega);have bt:Hid (∀W,a0r a0j 24 #[.int .i64 c, .int .i64 3] W λe w'=>e= .returned (.int .i64 (m3:Int))/\W=w'):=cY c 3 m3 (by omega) (by omega) c6;have bv:Hid (∀W,a0r a0j 24 #[.int .i64 c, .int .i64 7] W λe w'=>e= .returned (.int .i64 (m7:Int))/\W=w'):=cY c 7 m7 (by omega) (by omega) c7;have ds: -4611686018427387904<=c.tdiv 3/\c.tdiv 3<=4611686018427387904:=(by
      unfold i64B at hc;rcases Int.le_total 0 c with h|h
      · rw [a0i h];omega
      · have h4:c.tdiv 3= -((-c).tdiv 3):=by rw [Int.neg_tdiv];omega
        rw [h4,a0i (by omega)];omega)
     obtain ⟨c3,c0⟩:∃x,c.tdiv 3=x:=⟨_,rfl⟩;rw [c0] at ds;obtain ⟨cd,b2⟩:∃cd:UInt8,(if m7=6 then (122:UInt8) else 97)=cd:=⟨_,rfl⟩;have cQ:Hid (((m7:Int).tdiv 6=1/\cd=122)∨((m7:Int).tdiv 6=0/\cd=97)):=by
      unfold Hid;rw [a0i (by omega), <- b2];by_cases h6:m7=6
      · rw [if_pos h6];exact .inl ⟨by omega,rfl⟩
      · rw [if_neg h6];exact .inr ⟨by omega,rfl⟩
     have cp:Hid (∀k:Nat,fJ c k=⟨dW,[32,32],[],[⟨cd,pick booksL (c3+k)⟩]⟩):=λk=>by
      unfold fJ;rw [c0, <- b2];have:c.emod 7=(m7:Int):=c7;rw [this];by_cases h6:m7=6
      · rw [if_pos h6,if_pos (by omega)]
      · rw [if_neg h6,if_neg (by omega)]
     have cz:Hid (fA c=(List.range m3).map (fJ c)):=by unfold Hid fA;have:c.emod 3=(m3:Int):=c6;rw [this];rfl
     clear c6 c7 b2;go_upto_region 8 with fail
     go_loopw [7] (λi wr=>∃(k:Nat) (r:Option Addr) (t n:Nat) (fs:List af),i= .int .i64 k/\k<=m3/\Hid (fs=F0++(List.range k).map (fJ c))/\Hid (fs.length=n)/\n<=1+k/\Hid (MdI w.heap.size w wr ⟨a,b,c,d,e,f⟩ kd (.slice r n t) fs [(Y,yearsL),(Y2,booksL)])) (λi _=>m3 - (intOf i).toNat)
     case atStart=>exact ⟨0,r,t,_,F0,rfl,Nat.zero_le _,by simp [Hid],rfl,by omega,a5.out⟩
     case round=>
      obtain ⟨k,r,t,n,fs,rfl,I,bO,a2,hn,y⟩:=hrel;have e2:wr.cell? ⟨w.heap.size,2,none⟩=some (.int .i64 c):=(aa y.arg 2).trans rfl;by_cases hlt:k<m3
      · obtain ⟨mk,ch,lk⟩:=ct (c3+k) 7 (by omega);have cu:Hid (∀W,a0r a0j 24 #[.int .i64 (c3+(k:Int)), .int .i64 7] W λe w'=>e= .returned (.int .i64 (mk:Int))/\W=w'):=cY _ 7 mk (by omega) (by omega) ch;obtain ⟨A,ad⟩:∃A,pick booksL (c3+k)=A:=⟨_,rfl⟩;have b0:Hid (booksL.getD mk []=A):=by unfold Hid;rw [<- ad];exact (eS booksL _ 7 mk rfl ch).symm
        have cm:Hid (fs++[⟨dW,[32,32],[],[⟨cd,A⟩]⟩]=F0++(List.range (k+1)).map (fJ c)):=by unfold Hid;rw [bO.out,List.range_succ,List.map_append,List.append_assoc,List.map_singleton,cp.out k,ad]
        clear ch ad;have ac:Hid (∀W,wr.grownBy W (a0a r n t).ownBlock->W.cell? ⟨w.heap.size,2,none⟩=some (.int .i64 c)/\W.cell? ⟨w.heap.size+2,2,none⟩=some (.slice r n t)/\W.cell? ⟨Y2,mk,none⟩=some (S A)):=λW hW=>by have hs:=y.s hW;refine ⟨(aa hs.arg 2).trans rfl,(aa hs.rcd 2).trans rfl,?_⟩;have:=hs.at (by simp:(Y2,booksL)∈[(Y,yearsL),(Y2,booksL)]) (m:=mk) (by exact lk);rw [b0.out] at this;exact this
        have ib:(mk:Int)<7:=by omega
        have dk:IntKind.i64.wrap c3=c3:=a0n _ (by omega);have b5:IntKind.i64.wrap (c3+(k:Int))=c3+(k:Int):=a0n _ (by omega);go_upto_region 10 with (go_at_call 24;((with_reducible refine a0g (bt.out _) ?_);rintro e w3 ⟨rfl,rfl⟩))
        clear e2;have ax:n<=1000:=by omega
        obtain ⟨hq,b2⟩|⟨hq,b2⟩:((m7:Int).tdiv 6=1/\cd=122)∨((m7:Int).tdiv 6=0/\cd=97):=cQ.out
        · subst b2;have T:wr.grownBy wr.drew (a0a r n t).ownBlock:=⟨rfl,rfl,rfl,a0c _,λ_ _ _=>rfl⟩;have bc:a0m wr.heap.size wr wr.drew:=(a0f _ wr).drew;go_wp2_with fail
          refine wT (λW=>wr.grownBy W (a0a r n t).ownBlock) 22 ?_;have u:=tkL [0,2,7,8,11,1,3,9,10,12];repeat (refine tkI u ?_ rfl T ?_ ?_;rotate_left;intro w' h;obtain ⟨h0,h1,h2⟩:=ac w' h;go_simp;rfl;(try go_simp);replace u:=tkO u)
          clear u;refine dO 4 rfl λK l=>?_;go_simp;go_at_call 24;with_reducible refine a0g (bv.out _) ?_
          rintro e w2 ⟨rfl,rfl⟩;refine l _ _ (λ_=>T) ?_;clear l K;go_simp;refine tk 5 ?_ rfl T ?_ ?_;rotate_left;intro w' h;go_simp;rfl;try go_simp
          refine bQ (i:=6) (v:= .int .u8 122) rfl (by kernel_rfl) (by kernel_rfl) (by kernel_rfl) (by kernel_rfl) (by decide) (λ_ _ _ h=>h) T (Or.inl ⟨by rfl,?_⟩) ?_;focus (intro w' h;go_simp;rfl)
          (try go_simp)
          refine dO 13 rfl λK l=>?_;go_simp;go_at_call 24;with_reducible refine a0g (cu.out _) ?_
          rintro e w2 ⟨rfl,rfl⟩;refine l _ _ (λ_=>T) ?_;clear l K;go_simp;have u:=tkL [14,15,16];repeat (refine tkI u ?_ rfl T ?_ ?_;rotate_left;intro w' h;obtain ⟨h0,h1,h2⟩:=ac w' h;go_simp;rfl;(try go_simp);replace u:=tkO u)
          clear u;refine dO 17 rfl λK l=>?_;go_simp;obtain ⟨E,D⟩:∃V,(wr.alloc (.cells #[.int .u8 122,S A] 120)).drew=V:=⟨_,rfl⟩;have z:a0m wr.heap.size wr E:=by rw [<- D];exact ((a0f _ wr).alloc (a0c _) _).drew
          have L:wr.grownBy E (a0a r n t).ownBlock:=⟨z.os,z.tape,z.output,z.size,λk I _=>z.block k I⟩;obtain ⟨M,J⟩:∃qn,wr.heap.size=qn:=⟨_,rfl⟩;have a9:E.heap[M]? =some (.cells #[.int .u8 122,S A] 120 (0,0)):=by rw [<- D, <- J];exact a0b wr _
          have b3:wr.heap.size<=M:=by rw [<- J];exact a0c _
          rw [J,D];clear D;refine l _ _ (λ_=>L) ?_;clear l K;go_simp;refine tk 18 ?_ rfl L ?_ ?_;rotate_left;intro w' h;go_simp;rfl;try go_simp
          have Z:=kD (c1:=122) (t1:=A) (lo:=w.heap.size+3) (g:=(a0a r n t).ownBlock) a9 (by have:=y.out.lo;omega) (λe=>by have:=dX y.out.own e;omega);obtain ⟨a',c',w8,F,U,a1,aS,aT,O⟩:=y.app z a2.out rfl ax ⟨dW,[32,32],[],[⟨122,A⟩]⟩ _ Z;dsimp only [dW] at F;have a8:=a0h F;have a6:=a0h O;clear F O a1 Z;refine dO 19 rfl λK l=>?_;go_simp;refine l _ _ (λ_=>L.trans ((a0d _ _ none).but _)) ?_;clear l K;go_simp;refine dO 20 rfl λK l=>?_;refine cE rfl rfl rfl a8.out ?_;refine l _ _ (λ_=>U) ?_;clear l K;go_simp;refine tk 21 ?_ rfl U ?_ ?_;rotate_left;intro w' h;go_simp;rfl;try go_simp
          refine dO 22 rfl λK l=>?_;go_simp;refine l _ _ (λh=>absurd rfl h) ?_;clear l K;refine dN ?_;go_wp2_with fail
          go_roundw
          case rel=> refine ⟨k+1,a',c',n+1,_,by go_num,hlt,cm,?_,by omega,a6⟩;unfold Hid;rw [a0q,a2.out];rfl
          case measure=>simp [intOf];omega
        · subst b2;have T:wr.grownBy wr.drew (a0a r n t).ownBlock:=⟨rfl,rfl,rfl,a0c _,λ_ _ _=>rfl⟩;have bc:a0m wr.heap.size wr wr.drew:=(a0f _ wr).drew;go_wp2_with fail
          refine wT (λW=>wr.grownBy W (a0a r n t).ownBlock) 22 ?_;have u:=tkL [0,2,7,8,11,1,3,9,10,12];repeat (refine tkI u ?_ rfl T ?_ ?_;rotate_left;intro w' h;obtain ⟨h0,h1,h2⟩:=ac w' h;go_simp;rfl;(try go_simp);replace u:=tkO u)
          clear u;refine dO 4 rfl λK l=>?_;go_simp;go_at_call 24;with_reducible refine a0g (bv.out _) ?_
          rintro e w2 ⟨rfl,rfl⟩;refine l _ _ (λ_=>T) ?_;clear l K;go_simp;refine tk 5 ?_ rfl T ?_ ?_;rotate_left;intro w' h;go_simp;rfl;try go_simp
          refine bQ (i:=6) (v:= .int .u8 97) rfl (by kernel_rfl) (by kernel_rfl) (by kernel_rfl) (by kernel_rfl) (by decide) (λ_ _ _ h=>h) T (Or.inl ⟨by rfl,?_⟩) ?_;focus (intro w' h;go_simp;rfl)
          (try go_simp)
          refine dO 13 rfl λK l=>?_;go_simp;go_at_call 24;with_reducible refine a0g (cu.out _) ?_
          rintro e w2 ⟨rfl,rfl⟩;refine l _ _ (λ_=>T) ?_;clear l K;go_simp;have u:=tkL [14,15,16];repeat (refine tkI u ?_ rfl T ?_ ?_;rotate_left;intro w' h;obtain ⟨h0,h1,h2⟩:=ac w' h;go_simp;rfl;(try go_simp);replace u:=tkO u)
          clear u;refine dO 17 rfl λK l=>?_;go_simp;obtain ⟨E,D⟩:∃V,(wr.alloc (.cells #[.int .u8 97,S A] 120)).drew=V:=⟨_,rfl⟩;have z:a0m wr.heap.size wr E:=by rw [<- D];exact ((a0f _ wr).alloc (a0c _) _).drew
          have L:wr.grownBy E (a0a r n t).ownBlock:=⟨z.os,z.tape,z.output,z.size,λk I _=>z.block k I⟩;obtain ⟨M,J⟩:∃qn,wr.heap.size=qn:=⟨_,rfl⟩;have a9:E.heap[M]? =some (.cells #[.int .u8 97,S A] 120 (0,0)):=by rw [<- D, <- J];exact a0b wr _
          have b3:wr.heap.size<=M:=by rw [<- J];exact a0c _
          rw [J,D];clear D;refine l _ _ (λ_=>L) ?_;clear l K;go_simp;refine tk 18 ?_ rfl L ?_ ?_;rotate_left;intro w' h;go_simp;rfl;try go_simp
          have Z:=kD (c1:=97) (t1:=A) (lo:=w.heap.size+3) (g:=(a0a r n t).ownBlock) a9 (by have:=y.out.lo;omega) (λe=>by have:=dX y.out.own e;omega);obtain ⟨a',c',w8,F,U,a1,aS,aT,O⟩:=y.app z a2.out rfl ax ⟨dW,[32,32],[],[⟨97,A⟩]⟩ _ Z;dsimp only [dW] at F;have a8:=a0h F;have a6:=a0h O;clear F O a1 Z;refine dO 19 rfl λK l=>?_;go_simp;refine l _ _ (λ_=>L.trans ((a0d _ _ none).but _)) ?_;clear l K;go_simp;refine dO 20 rfl λK l=>?_;refine cE rfl rfl rfl a8.out ?_;refine l _ _ (λ_=>U) ?_;clear l K;go_simp;refine tk 21 ?_ rfl U ?_ ?_;rotate_left;intro w' h;go_simp;rfl;try go_simp
          refine dO 22 rfl λK l=>?_;go_simp;refine l _ _ (λh=>absurd rfl h) ?_;clear l K;refine dN ?_;go_wp2_with fail
          go_roundw
          case rel=> refine ⟨k+1,a',c',n+1,_,by go_num,hlt,cm,?_,by omega,a6⟩;unfold Hid;rw [a0q,a2.out];rfl
          case measure=>simp [intOf];omega
      · have em:k=m3:=by omega
        subst em;have ex:=bt;have dB:Hid (fs=F0++fA c):=by unfold Hid;rw [cz.out];exact bO.out
        have eq:n<=4:=by omega
        obtain ⟨Y3,d3⟩:∃Y,wr.heap.size=Y:=⟨_,rfl⟩;clear bO cp cz bt bv cQ ds c0 l3 l7 hlt I hn;go_upto_region 11 with (go_at_call 24;((with_reducible refine a0g (ex.out _) ?_);rintro e w3 ⟨rfl,rfl⟩))
        clear e2;go_cut [8] (λp wx=>p= .slice (some ⟨Y3,0,none⟩) 6 6/\Hid (MdI w.heap.size w wx ⟨a,b,c,d,e,f⟩ kd (.slice r n t) fs [(Y,yearsL),(Y2,booksL),(Y3,namesL)]))
        case first=>
         go_wp2_with fail
         go_meet;refine ⟨rfl,?_⟩;have h:=y.strs namesL;rw [d3] at h;exact h
        case rest=>
         obtain ⟨rfl,a5⟩:=hcut;clear y d3;have y:=a5;clear a5;have x3:wc.cell? ⟨w.heap.size,3,none⟩=some (.int .i64 d):=(aa y.arg 3).trans rfl;go_upto_if 70 with fail
         clear x3;go_cut [] (λwx=>∃(r:Option Addr) (t G:Nat) (av:List af),Hid (av=fs++ef d)/\Hid (av.length=G)/\G<=5/\Hid (MdI w.heap.size w wx ⟨a,b,c,d,e,f⟩ kd (.slice r G t) av [(Y,yearsL),(Y2,booksL),(Y3,namesL)]))
         case first=>
          by_cases hd4:d.tmod 4=0
          · have ao:Hid (fs=fs++ef d):=by unfold Hid ef;rw [if_neg (by simp [hd4])];simp
            go_wp2_with fail
            go_meet;exact ⟨r,t,n,fs,ao,a2,by omega,y⟩
          · have hz:=tA hd 4 (by omega);obtain ⟨d4,d6⟩:∃x,d.tdiv 4=x:=⟨_,rfl⟩;have hz: -4611686018427387904<=d4/\d4<=4611686018427387904:=by rw [<- d6];exact hz
            obtain ⟨md,c9,ld⟩:=ct d4 6 (by omega);have dx:Hid (∀W,a0r a0j 24 #[.int .i64 d4, .int .i64 6] W λe w'=>e= .returned (.int .i64 (md:Int))/\W=w'):=cY d4 6 md (by omega) (by omega) c9;obtain ⟨A,ad⟩:∃A,pick namesL d4=A:=⟨_,rfl⟩;have b0:Hid (namesL.getD md []=A):=by unfold Hid;rw [<- ad];exact (eS namesL _ 6 md rfl c9).symm
            have ao:Hid (fs++[⟨dI,[49,32],[],[⟨97,A⟩]⟩]=fs++ef d):=by unfold Hid ef;rw [if_pos hd4,d6,ad]
            clear c9 ad;have ac:Hid (∀W,wc.grownBy W (a0a r n t).ownBlock->W.cell? ⟨w.heap.size,3,none⟩=some (.int .i64 d)/\W.cell? ⟨w.heap.size+2,2,none⟩=some (.slice r n t)/\W.cell? ⟨Y3,md,none⟩=some (S A)):=λW hW=>by have hs:=y.s hW;refine ⟨(aa hs.arg 3).trans rfl,(aa hs.rcd 2).trans rfl,?_⟩;have:=hs.at (by simp:(Y3,namesL)∈[(Y,yearsL),(Y2,booksL),(Y3,namesL)]) (m:=md) (by exact ld);rw [b0.out] at this;exact this
            have ib:(md:Int)<6:=by omega
            have dk:IntKind.i64.wrap d4=d4:=a0n _ (by omega);have ax:n<=1000:=by omega
            have T:wc.grownBy wc.drew (a0a r n t).ownBlock:=⟨rfl,rfl,rfl,a0c _,λ_ _ _=>rfl⟩;have bc:a0m wc.heap.size wc wc.drew:=(a0f _ wc).drew;go_wp2_with fail
            refine wT (λW=>wc.grownBy W (a0a r n t).ownBlock) 15 ?_;have u:=tkL [0,2,3,1,4,5];repeat (refine tkI u ?_ rfl T ?_ ?_;rotate_left;intro w' h;obtain ⟨h0,h1,h2⟩:=ac w' h;go_simp;rfl;(try go_simp);replace u:=tkO u)
            clear u;refine dO 6 rfl λK l=>?_;go_simp;go_at_call 24;with_reducible refine a0g (dx.out _) ?_
            rintro e w2 ⟨rfl,rfl⟩;refine l _ _ (λ_=>T) ?_;clear l K;go_simp;have u:=tkL [7,8,9];repeat (refine tkI u ?_ rfl T ?_ ?_;rotate_left;intro w' h;obtain ⟨h0,h1,h2⟩:=ac w' h;go_simp;rfl;(try go_simp);replace u:=tkO u)
            clear u;refine dO 10 rfl λK l=>?_;go_simp;obtain ⟨E,D⟩:∃V,(wc.alloc (.cells #[.int .u8 97,S A] 120)).drew=V:=⟨_,rfl⟩;have z:a0m wc.heap.size wc E:=by rw [<- D];exact ((a0f _ wc).alloc (a0c _) _).drew
            have L:wc.grownBy E (a0a r n t).ownBlock:=⟨z.os,z.tape,z.output,z.size,λk I _=>z.block k I⟩;obtain ⟨M,J⟩:∃qn,wc.heap.size=qn:=⟨_,rfl⟩;have a9:E.heap[M]? =some (.cells #[.int .u8 97,S A] 120 (0,0)):=by rw [<- D, <- J];exact a0b wc _
            have b3:wc.heap.size<=M:=by rw [<- J];exact a0c _
            rw [J,D];clear D;refine l _ _ (λ_=>L) ?_;clear l K;go_simp;refine tk 11 ?_ rfl L ?_ ?_;rotate_left;intro w' h;go_simp;rfl;try go_simp
            have Z:=kD (c1:=97) (t1:=A) (lo:=w.heap.size+3) (g:=(a0a r n t).ownBlock) a9 (by have:=y.out.lo;omega) (λe=>by have:=dX y.out.own e;omega);obtain ⟨a',c',w8,F,U,a1,aS,aT,O⟩:=y.app z a2.out rfl ax ⟨dI,[49,32],[],[⟨97,A⟩]⟩ _ Z;dsimp only [dI] at F;have a8:=a0h F;have a6:=a0h O;clear F O a1 Z;refine dO 12 rfl λK l=>?_;go_simp;refine l _ _ (λ_=>L.trans ((a0d _ _ none).but _)) ?_;clear l K;go_simp;refine dO 13 rfl λK l=>?_;refine cE rfl rfl rfl a8.out ?_;refine l _ _ (λ_=>U) ?_;clear l K;go_simp;refine tk 14 ?_ rfl U ?_ ?_;rotate_left;intro w' h;go_simp;rfl;try go_simp
            refine dO 15 rfl λK l=>?_;go_simp;refine l _ _ (λh=>absurd rfl h) ?_;clear l K;refine dN ?_;go_wp2_with fail
            go_meet;exact ⟨a',c',n+1,_,ao,eX a2.out _,by omega,a6⟩
         case rest=>
          obtain ⟨r,t,G,av,e3,bA,f2,a5⟩:=hcut;clear y a2;have y:=a5;clear a5;obtain ⟨Y4,d5⟩:∃Y,wc.heap.size=Y:=⟨_,rfl⟩;go_upto_region 14 with fail
          go_cut [9] (λp wx=>p= .slice (some ⟨Y4,0,none⟩) 6 6/\Hid (MdI w.heap.size w wx ⟨a,b,c,d,e,f⟩ kd (.slice r G t) av [(Y,yearsL),(Y2,booksL),(Y3,namesL),(Y4,titlesL)]))
          case first=>
           go_wp2_with fail
           go_meet;refine ⟨rfl,?_⟩;have h:=y.strs titlesL;rw [d5] at h;exact h
          case rest=>
           obtain ⟨rfl,a5⟩:=hcut;clear y d5;have y:=a5;clear a5;have x4:wc.cell? ⟨w.heap.size,4,none⟩=some (.int .i64 e):=(aa y.arg 4).trans rfl;go_upto_if 90 with fail
           clear x4;go_cut [] (λwx=>∃(r:Option Addr) (t n3:Nat) (aC:List af),Hid (aC=av++ee e)/\Hid (aC.length=n3)/\n3<=6/\Hid (MdI w.heap.size w wx ⟨a,b,c,d,e,f⟩ kd (.slice r n3 t) aC [(Y,yearsL),(Y2,booksL),(Y3,namesL),(Y4,titlesL)]))
           case first=>
            by_cases he5:e.tmod 5=0
            · have ao:Hid (av=av++ee e):=by unfold Hid ee;rw [if_neg (by simp [he5])];simp
              go_wp2_with fail
              go_meet;exact ⟨r,t,G,av,ao,bA,by omega,y⟩
            · have hz:=tA he 5 (by omega);obtain ⟨e5,d8⟩:∃x,e.tdiv 5=x:=⟨_,rfl⟩;have hz: -4611686018427387904<=e5/\e5<=4611686018427387904:=by rw [<- d8];exact hz
              obtain ⟨au,cb,f5⟩:=ct e 3 (by omega);obtain ⟨b6,cc,es⟩:=ct e5 6 (by omega);have cv:Hid (∀W,a0r a0j 24 #[.int .i64 e, .int .i64 3] W λe w'=>e= .returned (.int .i64 (au:Int))/\W=w'):=cY e 3 au (by omega) (by omega) cb;have bw:Hid (∀W,a0r a0j 24 #[.int .i64 e5, .int .i64 6] W λe w'=>e= .returned (.int .i64 (b6:Int))/\W=w'):=cY e5 6 b6 (by omega) (by omega) cc;obtain ⟨A,ad⟩:∃A,pick titlesL e5=A:=⟨_,rfl⟩;obtain ⟨iv,c4⟩:∃iv,pick inds3L e=iv:=⟨_,rfl⟩;have b0:Hid (titlesL.getD b6 []=A):=by unfold Hid;rw [<- ad];exact (eS titlesL _ 6 b6 rfl cc).symm
              have da:inds3L.getD au []=iv:=by rw [<- c4];exact (eS inds3L _ 3 au rfl cb).symm
              have b9:Hid (∀(W:a0l) (C:Nat),W.heap[C]? =some (.cells #[S [48,48],S [48,52],S [49,120]] 9 (0,0))->W.cell? ⟨C,au,none⟩=some (S iv)):=λW C h=>by
               rw [aa h, <- da];have hm:au=0∨au=1∨au=2:=by omega
               rcases hm with rfl|rfl|rfl<;>rfl
              have ao:Hid (av++[⟨bX,iv,[],[⟨97,A⟩,⟨99,[98,121]⟩]⟩]=av++ee e):=by unfold Hid ee;rw [if_pos he5,d8,ad,c4]
              clear cb cc ad c4 da;have ac:Hid (∀W,wc.grownBy W (a0a r G t).ownBlock->W.cell? ⟨w.heap.size,4,none⟩=some (.int .i64 e)/\W.cell? ⟨w.heap.size+2,2,none⟩=some (.slice r G t)/\W.cell? ⟨Y4,b6,none⟩=some (S A)):=λW hW=>by have hs:=y.s hW;refine ⟨(aa hs.arg 4).trans rfl,(aa hs.rcd 2).trans rfl,?_⟩;have:=hs.at (by simp:(Y4,titlesL)∈[(Y,yearsL),(Y2,booksL),(Y3,namesL),(Y4,titlesL)]) (m:=b6) (by exact es);rw [b0.out] at this;exact this
              have ib:(b6:Int)<6:=by omega
              have f4:(au:Int)<3:=by omega
              have dk:IntKind.i64.wrap e5=e5:=a0n _ (by omega);have ax:G<=1000:=by omega
              have a2:=bA;have T:wc.grownBy wc.drew (a0a r G t).ownBlock:=⟨rfl,rfl,rfl,a0c _,λ_ _ _=>rfl⟩;have bc:a0m wc.heap.size wc wc.drew:=(a0f _ wc).drew;go_wp2_with fail
              refine wT (λW=>wc.grownBy W (a0a r G t).ownBlock) 22 ?_;have u:=tkL [0,3,8,9,16,1,4,10,11];repeat (refine tkI u ?_ rfl T ?_ ?_;rotate_left;intro w' h;obtain ⟨h0,h1,h2⟩:=ac w' h;go_simp;rfl;(try go_simp);replace u:=tkO u)
              clear u;refine bZ (i:=2) (j:=5) rfl rfl (by kernel_rfl) rfl rfl (λK l=>?_) (λK l=>?_)
              · go_simp;obtain ⟨N,a3⟩:∃V,(wc.alloc (.cells #[S [48,48],S [48,52],S [49,120]] 9)).drew=V:=⟨_,rfl⟩;have H:a0m wc.heap.size wc N:=by rw [<- a3];exact ((a0f _ wc).alloc (a0c _) _).drew
                have a7:wc.grownBy N (a0a r G t).ownBlock:=⟨H.os,H.tape,H.output,H.size,λk I _=>H.block k I⟩;obtain ⟨C,al⟩:∃qn,wc.heap.size=qn:=⟨_,rfl⟩;have a0:N.heap[C]? =some (.cells #[S [48,48],S [48,52],S [49,120]] 9 (0,0)):=by rw [<- a3, <- al];exact a0b wc _
                have c5:wc.heap.size<=C:=by rw [<- al];exact a0c _
                rw [al,a3];clear a3;refine l _ _ (λ_=>a7) ?_;clear l K;go_simp;refine dt (λW=>wc.grownBy W (a0a r G t).ownBlock/\W.heap[C]? =some (.cells #[S [48,48],S [48,52],S [49,120]] 9 (0,0))) (λW h=>h.1) _ _ _ _ ?_;have b1:Hid (∀W:a0l,(wc.grownBy W (a0a r G t).ownBlock/\W.heap[C]? =some (.cells #[S [48,48],S [48,52],S [49,120]] 9 (0,0)))->W.cell? ⟨C,au,none⟩=some (S iv)):=λW h=>b9 W C h.2;refine dO 5 rfl λK l=>?_;go_simp;go_at_call 24;with_reducible refine a0g (cv.out _) ?_
                rintro e w2 ⟨rfl,rfl⟩;refine l _ _ (λ_=>⟨a7,a0⟩) ?_;clear l K;go_simp;have u:=tkL [6,7];repeat (refine tkI u ?_ rfl ⟨a7,a0⟩ ?_ ?_;rotate_left;intro w' h;have h7:=b1 w' h;go_simp;rfl;(try go_simp);replace u:=tkO u)
                clear u;refine dO 12 rfl λK l=>?_;go_simp;go_at_call 24;with_reducible refine a0g (bw.out _) ?_
                rintro e w2 ⟨rfl,rfl⟩;refine l _ _ (λ_=>⟨a7,a0⟩) ?_;clear l K;go_simp;have u:=tkL [13,14,15];repeat (refine tkI u ?_ rfl ⟨a7,a0⟩ ?_ ?_;rotate_left;intro w' h;obtain ⟨h0,h1,h2⟩:=ac w' h.1;go_simp;rfl;(try go_simp);replace u:=tkO u)
                clear u;refine dO 17 rfl λK l=>?_;go_simp;obtain ⟨E,D⟩:∃V,N.alloc (.cells #[.int .u8 97,S A, .int .u8 99,S [98,121]] 120)=V:=⟨_,rfl⟩;have z:a0m wc.heap.size wc E:=by rw [<- D];exact H.alloc H.size _
                have L:wc.grownBy E (a0a r G t).ownBlock:=⟨z.os,z.tape,z.output,z.size,λk I _=>z.block k I⟩;obtain ⟨M,J⟩:∃qn,N.heap.size=qn:=⟨_,rfl⟩;have a9:E.heap[M]? =some (.cells #[.int .u8 97,S A, .int .u8 99,S [98,121]] 120 (0,0)):=by rw [<- D, <- J];exact a0b N _
                have b3:wc.heap.size<=M:=by rw [<- J];exact H.size
                have a4:E.heap[C]? =some (.cells #[S [48,48],S [48,52],S [49,120]] 9 (0,0)):=by rw [<- D,a0e _ _ _ (ae a0)];exact a0
                rw [J,D];clear D;refine l _ _ (λ_=>⟨L,a4⟩) ?_;clear l K;go_simp;refine tk 18 ?_ rfl ⟨L,a4⟩ ?_ ?_;rotate_left;intro w' h;go_simp;rfl;try go_simp
                have Z:=fZ (c1:=97) (t1:=A) (c2:=99) (t2:=[98,121]) (lo:=w.heap.size+3) (g:=(a0a r G t).ownBlock) a9 (by have:=y.out.lo;omega) (λe=>by have:=dX y.out.own e;omega);obtain ⟨a',c',w8,F,U,a1,aS,aT,O⟩:=y.app z a2.out rfl ax ⟨bX,iv,[],[⟨97,A⟩,⟨99,[98,121]⟩]⟩ _ Z;dsimp only [bX] at F;have a8:=a0h F;have a6:=a0h O;have ay:w8.heap[C]? =some (.cells #[S [48,48],S [48,52],S [49,120]] 9 (0,0)):=(a1.block C (ae a4) (λe=>by have:=dX y.out.own e.symm;omega)).trans a4;have b4:(E.alloc (.cells #[S bX,S iv,S [], .slice (some ⟨M,0,none⟩) 2 2] 123)).heap[C]? =some (.cells #[S [48,48],S [48,52],S [49,120]] 9 (0,0)):=by rw [a0e _ _ _ (ae a4)];exact a4
                clear F O a1 Z;refine dO 19 rfl λK l=>?_;go_simp;refine l _ _ (λ_=>⟨L.trans ((a0d _ _ none).but _),b4⟩) ?_;clear l K;go_simp;refine dO 20 rfl λK l=>?_;refine cE rfl rfl rfl a8.out ?_;refine l _ _ (λ_=>⟨U,ay⟩) ?_;clear l K;go_simp;refine tk 21 ?_ rfl ⟨U,ay⟩ ?_ ?_;rotate_left;intro w' h;go_simp;rfl;try go_simp
                refine dO 22 rfl λK l=>?_;go_simp;refine l _ _ (λh=>absurd rfl h) ?_;clear l K;refine dN ?_;go_wp2_with fail
                go_meet;exact ⟨a',c',G+1,_,ao,eX a2.out _,by omega,a6⟩
              · skip;go_simp;go_at_call 24;with_reducible refine a0g (cv.out _) ?_
                rintro e w2 ⟨rfl,rfl⟩;refine l _ _ (λ_=>T) ?_;clear l K;go_simp;refine bZ (i:=2) (j:=12) rfl rfl (by kernel_rfl) rfl rfl (λK l=>?_) (λK l=>?_)
                · go_simp;obtain ⟨N,a3⟩:∃V,(wc.alloc (.cells #[S [48,48],S [48,52],S [49,120]] 9)).drew=V:=⟨_,rfl⟩;have H:a0m wc.heap.size wc N:=by rw [<- a3];exact ((a0f _ wc).alloc (a0c _) _).drew
                  have a7:wc.grownBy N (a0a r G t).ownBlock:=⟨H.os,H.tape,H.output,H.size,λk I _=>H.block k I⟩;obtain ⟨C,al⟩:∃qn,wc.heap.size=qn:=⟨_,rfl⟩;have a0:N.heap[C]? =some (.cells #[S [48,48],S [48,52],S [49,120]] 9 (0,0)):=by rw [<- a3, <- al];exact a0b wc _
                  have c5:wc.heap.size<=C:=by rw [<- al];exact a0c _
                  rw [al,a3];clear a3;refine l _ _ (λ_=>a7) ?_;clear l K;go_simp;refine dt (λW=>wc.grownBy W (a0a r G t).ownBlock/\W.heap[C]? =some (.cells #[S [48,48],S [48,52],S [49,120]] 9 (0,0))) (λW h=>h.1) _ _ _ _ ?_;have b1:Hid (∀W:a0l,(wc.grownBy W (a0a r G t).ownBlock/\W.heap[C]? =some (.cells #[S [48,48],S [48,52],S [49,120]] 9 (0,0)))->W.cell? ⟨C,au,none⟩=some (S iv)):=λW h=>b9 W C h.2;have u:=tkL [6,7];repeat (refine tkI u ?_ rfl ⟨a7,a0⟩ ?_ ?_;rotate_left;intro w' h;have h7:=b1 w' h;go_simp;rfl;(try go_simp);replace u:=tkO u)
                  clear u;refine dO 12 rfl λK l=>?_;go_simp;go_at_call 24;with_reducible refine a0g (bw.out _) ?_
                  rintro e w2 ⟨rfl,rfl⟩;refine l _ _ (λ_=>⟨a7,a0⟩) ?_;clear l K;go_simp;have u:=tkL [13,14,15];repeat (refine tkI u ?_ rfl ⟨a7,a0⟩ ?_ ?_;rotate_left;intro w' h;obtain ⟨h0,h1,h2⟩:=ac w' h.1;go_simp;rfl;(try go_simp);replace u:=tkO u)
                  clear u;refine dO 17 rfl λK l=>?_;go_simp;obtain ⟨E,D⟩:∃V,N.alloc (.cells #[.int .u8 97,S A, .int .u8 99,S [98,121]] 120)=V:=⟨_,rfl⟩;have z:a0m wc.heap.size wc E:=by rw [<- D];exact H.alloc H.size _
                  have L:wc.grownBy E (a0a r G t).ownBlock:=⟨z.os,z.tape,z.output,z.size,λk I _=>z.block k I⟩;obtain ⟨M,J⟩:∃qn,N.heap.size=qn:=⟨_,rfl⟩;have a9:E.heap[M]? =some (.cells #[.int .u8 97,S A, .int .u8 99,S [98,121]] 120 (0,0)):=by rw [<- D, <- J];exact a0b N _
                  have b3:wc.heap.size<=M:=by rw [<- J];exact H.size
                  have a4:E.heap[C]? =some (.cells #[S [48,48],S [48,52],S [49,120]] 9 (0,0)):=by rw [<- D,a0e _ _ _ (ae a0)];exact a0
                  rw [J,D];clear D;refine l _ _ (λ_=>⟨L,a4⟩) ?_;clear l K;go_simp;refine tk 18 ?_ rfl ⟨L,a4⟩ ?_ ?_;rotate_left;intro w' h;go_simp;rfl;try go_simp
                  have Z:=fZ (c1:=97) (t1:=A) (c2:=99) (t2:=[98,121]) (lo:=w.heap.size+3) (g:=(a0a r G t).ownBlock) a9 (by have:=y.out.lo;omega) (λe=>by have:=dX y.out.own e;omega);obtain ⟨a',c',w8,F,U,a1,aS,aT,O⟩:=y.app z a2.out rfl ax ⟨bX,iv,[],[⟨97,A⟩,⟨99,[98,121]⟩]⟩ _ Z;dsimp only [bX] at F;have a8:=a0h F;have a6:=a0h O;have ay:w8.heap[C]? =some (.cells #[S [48,48],S [48,52],S [49,120]] 9 (0,0)):=(a1.block C (ae a4) (λe=>by have:=dX y.out.own e.symm;omega)).trans a4;have b4:(E.alloc (.cells #[S bX,S iv,S [], .slice (some ⟨M,0,none⟩) 2 2] 123)).heap[C]? =some (.cells #[S [48,48],S [48,52],S [49,120]] 9 (0,0)):=by rw [a0e _ _ _ (ae a4)];exact a4
                  clear F O a1 Z;refine dO 19 rfl λK l=>?_;go_simp;refine l _ _ (λ_=>⟨L.trans ((a0d _ _ none).but _),b4⟩) ?_;clear l K;go_simp;refine dO 20 rfl λK l=>?_;refine cE rfl rfl rfl a8.out ?_;refine l _ _ (λ_=>⟨U,ay⟩) ?_;clear l K;go_simp;refine tk 21 ?_ rfl ⟨U,ay⟩ ?_ ?_;rotate_left;intro w' h;go_simp;rfl;try go_simp
                  refine dO 22 rfl λK l=>?_;go_simp;refine l _ _ (λh=>absurd rfl h) ?_;clear l K;refine dN ?_;go_wp2_with fail
                  go_meet;exact ⟨a',c',G+1,_,ao,eX a2.out _,by omega,a6⟩
                · skip;go_simp;go_at_call 24;with_reducible refine a0g (bw.out _) ?_
                  rintro e w2 ⟨rfl,rfl⟩;refine l _ _ (λ_=>T) ?_;clear l K;go_simp;have u:=tkL [13,14,15];repeat (refine tkI u ?_ rfl T ?_ ?_;rotate_left;intro w' h;obtain ⟨h0,h1,h2⟩:=ac w' h;go_simp;rfl;(try go_simp);replace u:=tkO u)
                  clear u;refine bZ (i:=2) (j:=17) rfl rfl (by kernel_rfl) rfl rfl (λK l=>?_) (λK l=>?_)
                  · go_simp;obtain ⟨N,a3⟩:∃V,(wc.alloc (.cells #[S [48,48],S [48,52],S [49,120]] 9)).drew=V:=⟨_,rfl⟩;have H:a0m wc.heap.size wc N:=by rw [<- a3];exact ((a0f _ wc).alloc (a0c _) _).drew
                    have a7:wc.grownBy N (a0a r G t).ownBlock:=⟨H.os,H.tape,H.output,H.size,λk I _=>H.block k I⟩;obtain ⟨C,al⟩:∃qn,wc.heap.size=qn:=⟨_,rfl⟩;have a0:N.heap[C]? =some (.cells #[S [48,48],S [48,52],S [49,120]] 9 (0,0)):=by rw [<- a3, <- al];exact a0b wc _
                    have c5:wc.heap.size<=C:=by rw [<- al];exact a0c _
                    rw [al,a3];clear a3;refine l _ _ (λ_=>a7) ?_;clear l K;go_simp;refine dt (λW=>wc.grownBy W (a0a r G t).ownBlock/\W.heap[C]? =some (.cells #[S [48,48],S [48,52],S [49,120]] 9 (0,0))) (λW h=>h.1) _ _ _ _ ?_;have b1:Hid (∀W:a0l,(wc.grownBy W (a0a r G t).ownBlock/\W.heap[C]? =some (.cells #[S [48,48],S [48,52],S [49,120]] 9 (0,0)))->W.cell? ⟨C,au,none⟩=some (S iv)):=λW h=>b9 W C h.2;have u:=tkL [6,7];repeat (refine tkI u ?_ rfl ⟨a7,a0⟩ ?_ ?_;rotate_left;intro w' h;have h7:=b1 w' h;go_simp;rfl;(try go_simp);replace u:=tkO u)
                    clear u;refine dO 17 rfl λK l=>?_;go_simp;obtain ⟨E,D⟩:∃V,N.alloc (.cells #[.int .u8 97,S A, .int .u8 99,S [98,121]] 120)=V:=⟨_,rfl⟩;have z:a0m wc.heap.size wc E:=by rw [<- D];exact H.alloc H.size _
                    have L:wc.grownBy E (a0a r G t).ownBlock:=⟨z.os,z.tape,z.output,z.size,λk I _=>z.block k I⟩;obtain ⟨M,J⟩:∃qn,N.heap.size=qn:=⟨_,rfl⟩;have a9:E.heap[M]? =some (.cells #[.int .u8 97,S A, .int .u8 99,S [98,121]] 120 (0,0)):=by rw [<- D, <- J];exact a0b N _
                    have b3:wc.heap.size<=M:=by rw [<- J];exact H.size
                    have a4:E.heap[C]? =some (.cells #[S [48,48],S [48,52],S [49,120]] 9 (0,0)):=by rw [<- D,a0e _ _ _ (ae a0)];exact a0
                    rw [J,D];clear D;refine l _ _ (λ_=>⟨L,a4⟩) ?_;clear l K;go_simp;refine tk 18 ?_ rfl ⟨L,a4⟩ ?_ ?_;rotate_left;intro w' h;go_simp;rfl;try go_simp
                    have Z:=fZ (c1:=97) (t1:=A) (c2:=99) (t2:=[98,121]) (lo:=w.heap.size+3) (g:=(a0a r G t).ownBlock) a9 (by have:=y.out.lo;omega) (λe=>by have:=dX y.out.own e;omega);obtain ⟨a',c',w8,F,U,a1,aS,aT,O⟩:=y.app z a2.out rfl ax ⟨bX,iv,[],[⟨97,A⟩,⟨99,[98,121]⟩]⟩ _ Z;dsimp only [bX] at F;have a8:=a0h F;have a6:=a0h O;have ay:w8.heap[C]? =some (.cells #[S [48,48],S [48,52],S [49,120]] 9 (0,0)):=(a1.block C (ae a4) (λe=>by have:=dX y.out.own e.symm;omega)).trans a4;have b4:(E.alloc (.cells #[S bX,S iv,S [], .slice (some ⟨M,0,none⟩) 2 2] 123)).heap[C]? =some (.cells #[S [48,48],S [48,52],S [49,120]] 9 (0,0)):=by rw [a0e _ _ _ (ae a4)];exact a4
                    clear F O a1 Z;refine dO 19 rfl λK l=>?_;go_simp;refine l _ _ (λ_=>⟨L.trans ((a0d _ _ none).but _),b4⟩) ?_;clear l K;go_simp;refine dO 20 rfl λK l=>?_;refine cE rfl rfl rfl a8.out ?_;refine l _ _ (λ_=>⟨U,ay⟩) ?_;clear l K;go_simp;refine tk 21 ?_ rfl ⟨U,ay⟩ ?_ ?_;rotate_left;intro w' h;go_simp;rfl;try go_simp
                    refine dO 22 rfl λK l=>?_;go_simp;refine l _ _ (λh=>absurd rfl h) ?_;clear l K;refine dN ?_;go_wp2_with fail
                    go_meet;exact ⟨a',c',G+1,_,ao,eX a2.out _,by omega,a6⟩
                  · skip;go_simp;obtain ⟨E,D⟩:∃V,(wc.alloc (.cells #[.int .u8 97,S A, .int .u8 99,S [98,121]] 120)).drew=V:=⟨_,rfl⟩;have z:a0m wc.heap.size wc E:=by rw [<- D];exact ((a0f _ wc).alloc (a0c _) _).drew
                    have L:wc.grownBy E (a0a r G t).ownBlock:=⟨z.os,z.tape,z.output,z.size,λk I _=>z.block k I⟩;obtain ⟨M,J⟩:∃qn,wc.heap.size=qn:=⟨_,rfl⟩;have a9:E.heap[M]? =some (.cells #[.int .u8 97,S A, .int .u8 99,S [98,121]] 120 (0,0)):=by rw [<- D, <- J];exact a0b wc _
                    have b3:wc.heap.size<=M:=by rw [<- J];exact a0c _
                    rw [J,D];clear D;refine l _ _ (λ_=>L) ?_;clear l K;go_simp;refine dO 2 rfl λK l=>?_;go_simp;obtain ⟨N,a3⟩:∃V,E.alloc (.cells #[S [48,48],S [48,52],S [49,120]] 9)=V:=⟨_,rfl⟩;have H:a0m wc.heap.size wc N:=by rw [<- a3];exact z.alloc z.size _
                    have a7:wc.grownBy N (a0a r G t).ownBlock:=⟨H.os,H.tape,H.output,H.size,λk I _=>H.block k I⟩;obtain ⟨C,al⟩:∃qn,E.heap.size=qn:=⟨_,rfl⟩;have a0:N.heap[C]? =some (.cells #[S [48,48],S [48,52],S [49,120]] 9 (0,0)):=by rw [<- a3, <- al];exact a0b E _
                    have c5:wc.heap.size<=C:=by rw [<- al];exact z.size
                    have er:N.heap[M]? =some (.cells #[.int .u8 97,S A, .int .u8 99,S [98,121]] 120 (0,0)):=by rw [<- a3,a0e _ _ _ (ae a9)];exact a9
                    rw [al,a3];clear a3;refine l _ _ (λ_=>a7) ?_;clear l K;go_simp;refine dt (λW=>wc.grownBy W (a0a r G t).ownBlock/\W.heap[C]? =some (.cells #[S [48,48],S [48,52],S [49,120]] 9 (0,0))) (λW h=>h.1) _ _ _ _ ?_;have b1:Hid (∀W:a0l,(wc.grownBy W (a0a r G t).ownBlock/\W.heap[C]? =some (.cells #[S [48,48],S [48,52],S [49,120]] 9 (0,0)))->W.cell? ⟨C,au,none⟩=some (S iv)):=λW h=>b9 W C h.2;have u:=tkL [6,7];repeat (refine tkI u ?_ rfl ⟨a7,a0⟩ ?_ ?_;rotate_left;intro w' h;have h7:=b1 w' h;go_simp;rfl;(try go_simp);replace u:=tkO u)
                    clear u;refine tk 18 ?_ rfl ⟨a7,a0⟩ ?_ ?_;rotate_left;intro w' h;go_simp;rfl;try go_simp
                    have Z:=fZ (c1:=97) (t1:=A) (c2:=99) (t2:=[98,121]) (lo:=w.heap.size+3) (g:=(a0a r G t).ownBlock) er (by have:=y.out.lo;omega) (λe=>by have:=dX y.out.own e;omega);obtain ⟨a',c',w8,F,U,a1,aS,aT,O⟩:=y.app H a2.out rfl ax ⟨bX,iv,[],[⟨97,A⟩,⟨99,[98,121]⟩]⟩ _ Z;dsimp only [bX] at F;have a8:=a0h F;have a6:=a0h O;have ay:w8.heap[C]? =some (.cells #[S [48,48],S [48,52],S [49,120]] 9 (0,0)):=(a1.block C (ae a0) (λe=>by have:=dX y.out.own e.symm;omega)).trans a0;have b4:(N.alloc (.cells #[S bX,S iv,S [], .slice (some ⟨M,0,none⟩) 2 2] 123)).heap[C]? =some (.cells #[S [48,48],S [48,52],S [49,120]] 9 (0,0)):=by rw [a0e _ _ _ (ae a0)];exact a0
                    clear F O a1 Z;refine dO 19 rfl λK l=>?_;go_simp;refine l _ _ (λ_=>⟨a7.trans ((a0d _ _ none).but _),b4⟩) ?_;clear l K;go_simp;refine dO 20 rfl λK l=>?_;refine cE rfl rfl rfl a8.out ?_;refine l _ _ (λ_=>⟨U,ay⟩) ?_;clear l K;go_simp;refine tk 21 ?_ rfl ⟨U,ay⟩ ?_ ?_;rotate_left;intro w' h;go_simp;rfl;try go_simp
                    refine dO 22 rfl λK l=>?_;go_simp;refine l _ _ (λh=>absurd rfl h) ?_;clear l K;refine dN ?_;go_wp2_with fail
                    go_meet;exact ⟨a',c',G+1,_,ao,eX a2.out _,by omega,a6⟩
           case rest=>
            obtain ⟨r,t,n3,aC,e4,bB,f3,a5⟩:=hcut;clear y bA;have y:=a5;clear a5;have x5:wc.cell? ⟨w.heap.size,5,none⟩=some (.int .i64 f):=(aa y.arg 5).trans rfl;go_upto_if 116 with fail
            clear x5;go_cut [] (λwx=>∃(r:Option Addr) (t n4:Nat) (b7:List af),Hid (b7=aC++ed f)/\Hid (b7.length=n4)/\n4<=7/\Hid (MdI w.heap.size w wx ⟨a,b,c,d,e,f⟩ kd (.slice r n4 t) b7 [(Y,yearsL),(Y2,booksL),(Y3,namesL),(Y4,titlesL)]))
            case first=>
             by_cases hf3:f.tmod 3=0
             · have ao:Hid (aC=aC++ed f):=by unfold Hid ed;rw [if_neg (by simp [hf3])];simp
               go_wp2_with fail
               go_meet;exact ⟨r,t,n3,aC,ao,bB,by omega,y⟩
             · obtain ⟨mf,cg,lf⟩:=ct f 8 (by omega);have dy:Hid (∀W,a0r a0j 24 #[.int .i64 f, .int .i64 8] W λe w'=>e= .returned (.int .i64 (mf:Int))/\W=w'):=cY f 8 mf (by omega) (by omega) cg;obtain ⟨A,ad⟩:∃A,pick yearsL f=A:=⟨_,rfl⟩;have b0:Hid (yearsL.getD mf []=A):=by unfold Hid;rw [<- ad];exact (eS yearsL _ 8 mf rfl cg).symm
               have ao:Hid (aC++[⟨kB,[32,32],[],[⟨97,[80,97,114,105,115,32,49,57,48,48]⟩,⟨99,A⟩]⟩]=aC++ed f):=by unfold Hid ed;rw [if_pos hf3,ad]
               clear cg ad;have ac:Hid (∀W,wc.grownBy W (a0a r n3 t).ownBlock->W.cell? ⟨w.heap.size,5,none⟩=some (.int .i64 f)/\W.cell? ⟨w.heap.size+2,2,none⟩=some (.slice r n3 t)/\W.cell? ⟨Y,mf,none⟩=some (S A)):=λW hW=>by have hs:=y.s hW;refine ⟨(aa hs.arg 5).trans rfl,(aa hs.rcd 2).trans rfl,?_⟩;have:=hs.at (by simp:(Y,yearsL)∈[(Y,yearsL),(Y2,booksL),(Y3,namesL),(Y4,titlesL)]) (m:=mf) (by exact lf);rw [b0.out] at this;exact this
               have ib:(mf:Int)<8:=by omega
               have ax:n3<=1000:=by omega
               have a2:=bB;have T:wc.grownBy wc.drew (a0a r n3 t).ownBlock:=⟨rfl,rfl,rfl,a0c _,λ_ _ _=>rfl⟩;have bc:a0m wc.heap.size wc wc.drew:=(a0f _ wc).drew;go_wp2_with fail
               refine wT (λW=>wc.grownBy W (a0a r n3 t).ownBlock) 15 ?_;have u:=tkL [0,2,3,4,1,5];repeat (refine tkI u ?_ rfl T ?_ ?_;rotate_left;intro w' h;obtain ⟨h0,h1,h2⟩:=ac w' h;go_simp;rfl;(try go_simp);replace u:=tkO u)
               clear u;refine dO 6 rfl λK l=>?_;go_simp;go_at_call 24;with_reducible refine a0g (dy.out _) ?_
               rintro e w2 ⟨rfl,rfl⟩;refine l _ _ (λ_=>T) ?_;clear l K;go_simp;have u:=tkL [7,8,9];repeat (refine tkI u ?_ rfl T ?_ ?_;rotate_left;intro w' h;obtain ⟨h0,h1,h2⟩:=ac w' h;go_simp;rfl;(try go_simp);replace u:=tkO u)
               clear u;refine dO 10 rfl λK l=>?_;go_simp;obtain ⟨E,D⟩:∃V,(wc.alloc (.cells #[.int .u8 97,S [80,97,114,105,115,32,49,57,48,48], .int .u8 99,S A] 120)).drew=V:=⟨_,rfl⟩;have z:a0m wc.heap.size wc E:=by rw [<- D];exact ((a0f _ wc).alloc (a0c _) _).drew
               have L:wc.grownBy E (a0a r n3 t).ownBlock:=⟨z.os,z.tape,z.output,z.size,λk I _=>z.block k I⟩;obtain ⟨M,J⟩:∃qn,wc.heap.size=qn:=⟨_,rfl⟩;have a9:E.heap[M]? =some (.cells #[.int .u8 97,S [80,97,114,105,115,32,49,57,48,48], .int .u8 99,S A] 120 (0,0)):=by rw [<- D, <- J];exact a0b wc _
               have b3:wc.heap.size<=M:=by rw [<- J];exact a0c _
               rw [J,D];clear D;refine l _ _ (λ_=>L) ?_;clear l K;go_simp;refine tk 11 ?_ rfl L ?_ ?_;rotate_left;intro w' h;go_simp;rfl;try go_simp
               have Z:=fZ (c1:=97) (t1:=[80,97,114,105,115,32,49,57,48,48]) (c2:=99) (t2:=A) (lo:=w.heap.size+3) (g:=(a0a r n3 t).ownBlock) a9 (by have:=y.out.lo;omega) (λe=>by have:=dX y.out.own e;omega);obtain ⟨a',c',w8,F,U,a1,aS,aT,O⟩:=y.app z a2.out rfl ax ⟨kB,[32,32],[],[⟨97,[80,97,114,105,115,32,49,57,48,48]⟩,⟨99,A⟩]⟩ _ Z;dsimp only [kB] at F;have a8:=a0h F;have a6:=a0h O;clear F O a1 Z;refine dO 12 rfl λK l=>?_;go_simp;refine l _ _ (λ_=>L.trans ((a0d _ _ none).but _)) ?_;clear l K;go_simp;refine dO 13 rfl λK l=>?_;refine cE rfl rfl rfl a8.out ?_;refine l _ _ (λ_=>U) ?_;clear l K;go_simp;refine tk 14 ?_ rfl U ?_ ?_;rotate_left;intro w' h;go_simp;rfl;try go_simp
               refine dO 15 rfl λK l=>?_;go_simp;refine l _ _ (λh=>absurd rfl h) ?_;clear l K;refine dN ?_;go_wp2_with fail
               go_meet;exact ⟨a',c',n3+1,_,ao,eX a2.out _,by omega,a6⟩
            case rest=>
             obtain ⟨r,t,n4,b7,e6,e7,eq,a5⟩:=hcut;clear y bB;have y:=a5;clear a5;have r0:wc.cell? ⟨w.heap.size+2,0,none⟩=some (.int .u8 kd.toNat):=(aa y.rcd 0).trans rfl;have r1:wc.cell? ⟨w.heap.size+2,1,none⟩=some (.int .u8 109):=(aa y.rcd 1).trans rfl;have r2:wc.cell? ⟨w.heap.size+2,2,none⟩=some (.slice r n4 t):=(aa y.rcd 2).trans rfl;have y0:wc.cell? ⟨w.heap.size+1,0,none⟩=some (.int .u8 0):=(aa y.res 0).trans rfl;have y1:wc.cell? ⟨w.heap.size+1,1,none⟩=some (.int .u8 0):=(aa y.res 1).trans rfl;have y2:wc.cell? ⟨w.heap.size+1,2,none⟩=some (.slice none 0 0):=(aa y.res 2).trans rfl;have z0:=ab y.res 0;have z1:=ab y.res 1;have z2:=ab y.res 2;have eg:Hid (R.fields=b7):=by unfold Hid;rw [<- HR.out,e6.out,e4.out,e3.out,dB.out, <- dz.out];rfl
             go_wp2_with fail
             refine bodyPost_ret (v:= .agg #[.int .u8 kd.toNat, .int .u8 109, .slice r n4 t]) (by rw [cI rfl];go_simp) rfl ?_;have ej:a0m w.heap.size w (((wc.setCell ⟨w.heap.size+1,0,none⟩ (.int .u8 kd.toNat)).setCell ⟨w.heap.size+1,1,none⟩ (.int .u8 109)).setCell ⟨w.heap.size+1,2,none⟩ (.slice r n4 t)):=((y.out.b.setCell (p:=⟨w.heap.size+1,0,none⟩) (by simp) _).setCell (p:=⟨w.heap.size+1,1,none⟩) (by simp) _).setCell (p:=⟨w.heap.size+1,2,none⟩) (by simp) _;rw [e8.out,eg.out,e7.out];refine ⟨r,t,rfl,?_,ej⟩;have ho:=y.out.own.keep (w':=(((wc.setCell ⟨w.heap.size+1,0,none⟩ (.int .u8 kd.toNat)).setCell ⟨w.heap.size+1,1,none⟩ (.int .u8 109)).setCell ⟨w.heap.size+1,2,none⟩ (.slice r n4 t))) (λk I _=>by rw [a0k _ _ _ _ (by simp;omega),a0k _ _ _ _ (by simp;omega),a0k _ _ _ _ (by simp;omega)]) (by simp);exact ho.fields (by omega)
end
end Go.Proofs.YtjcimanddakkaaaGreatDoor
