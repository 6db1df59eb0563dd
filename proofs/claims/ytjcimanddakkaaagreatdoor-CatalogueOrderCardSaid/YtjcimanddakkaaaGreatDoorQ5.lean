/- Lemmas. -/
import Derived.Test.YtjcimanddakkaaaGreatDoorQ4
set_option maxRecDepth 100000
set_option maxHeartbeats 8000000
namespace Go.Proofs.YtjcimanddakkaaaGreatDoor
open _root_.Option renaming some→X,none→Y
open Go.Obj renaming cells→bk
open Go.Value renaming slice→fc,int→J,pointer→fp
open Go.IntKind renaming u8→fl,i64→U
open Go.Ending renaming returned→fn
open Go.Lib renaming hid→Z
open Tryz
open Go.Value renaming slice→fr
open Go.World renaming alloc_heap_new→ft,grownBy_alloc→fy
open _root_.Nat renaming le_refl→fx
open Go.RowKit.Below renaming heap_alloc→fz,refl→gb,heap_setCell→gf
open Go.Calls renaming mono→gc
open _root_.Int renaming tdiv_eq_ediv_of_nonneg→gd
open Go renaming World→gi,Value→gq,Calls→gt
open Go.IntWalk renaming i64_in→gn
open Go.Builtin renaming append_→gp
open _root_.List renaming length_append→gs
open Go.Addr renaming add→gx
section
open Go.RowKit Go.Maps Go.Shelf
structure MdI (B:Nat) (w0 wr:gi) (q:Six) (kd:UInt8) (v:gq) (fs:List af) (ls:List (Nat×List Bs)):Prop where
 b:Below B w0 wr
 lo:B+3<=wr.heap.size
 arg:wr.heap[B]? =some (.cells #[.int .i64 q.a, .int .i64 q.b, .int .i64 q.c, .int .i64 q.d, .int .i64 q.e, .int .i64 q.f] 45 (0,0))
 res:wr.heap[B+1]? =some (.cells #[.int .u8 0, .int .u8 0, .slice none 0 0] 62 (0,0))
 rcd:wr.heap[B+2]? =some (.cells #[.int .u8 kd.toNat, .int .u8 109,v] 62 (0,0))
 own:bK (B+3) wr v fs
 str:∀p∈ls,B+3<=p.1/\wr.heap[p.1]? =some (.cells (p.2.map S).toArray 9 (0,0))
theorem rK {lo:Nat} {w:gi} {v:gq} {fs:List af} (h:bK lo w v fs) {g:Nat} (c:v.ownBlock=X g):lo<=g/\∃d,w.heap[g]? =X (bk d 123 (0,0)):=by
 obtain ⟨ps,_,_,b⟩:=h.ex;exact ⟨(b.lt g c).1,aA b c⟩
structure MdS (B:Nat) (W:gi) (q:Six) (kd:UInt8) (v:gq) (ls:List (Nat×List Bs)):Prop where
 arg:W.heap[B]? =some (.cells #[.int .i64 q.a, .int .i64 q.b, .int .i64 q.c, .int .i64 q.d, .int .i64 q.e, .int .i64 q.f] 45 (0,0))
 rcd:W.heap[B+2]? =some (.cells #[.int .u8 kd.toNat, .int .u8 109,v] 62 (0,0))
 str:∀p∈ls,W.heap[p.1]? =some (.cells (p.2.map S).toArray 9 (0,0))
section
variable {B:Nat} {w0 wr W:gi} {q:Six} {kd:UInt8} {v:gq} {fs:List af} {ls:List (Nat×List Bs)}
theorem MdI.old (h:MdI B w0 wr q kd v fs ls) (d:wr.grownBy W v.ownBlock) {k:Nat} {cs:Array gq} {t:TypeId} (b:wr.heap[k]? =X (bk cs t (0,0))) (f:t≠123):W.heap[k]? =X (bk cs t (0,0)):=
 (d.block k (ae b) (λe=>by
  obtain ⟨_,g,c⟩:=rK h.own e.symm
  exact df b c f rfl)).trans b
theorem MdI.s (h:MdI B w0 wr q kd v fs ls) (b:wr.grownBy W v.ownBlock):MdS B W q kd v ls:=
 ⟨h.old b h.arg (by decide),h.old b h.rcd (by decide),λp c=>h.old b (h.str p c).2 (by decide)⟩
theorem MdI.self (h:MdI B w0 wr q kd v fs ls):MdS B wr q kd v ls:=⟨h.arg,h.rcd,λp b=>(h.str p b).2⟩
theorem MdS.at (h:MdS B W q kd v ls) {b:Nat} {l:List Bs} (c:(b,l)∈ls) {m:Nat} (d:m<l.length):W.cell? ⟨b,m,Y⟩=X (S (l.getD m [])):=by
 rw [aa (h.str _ c) m];simp [List.getD_eq_getElem?_getD,d]
theorem MdI.keep (h:MdI B w0 wr q kd v fs ls) (c:Bw wr W):MdI B w0 W q kd v fs ls:=
 ⟨h.b.trans (c.mono (by have:=h.lo;omega)),by have:=c.size;have:=h.lo;omega,(c.block _ (ae h.arg)).trans h.arg,(c.block _ (ae h.res)).trans h.res,(c.block _ (ae h.rcd)).trans h.rcd,
  h.own.keep (λk _ e=>c.block k e) c.size,λp d=>⟨(h.str p d).1,(c.block _ (ae (h.str p d).2)).trans (h.str p d).2⟩⟩
theorem MdI.strs (h:MdI B w0 wr q kd v fs ls) (l:List Bs):MdI B w0 (wr.alloc (.cells (l.map S).toArray 9)) q kd v fs (ls++[(wr.heap.size,l)]):=by
 have c:=h.keep ((gb _ wr).alloc (fx _) (.cells (l.map S).toArray 9));refine ⟨c.b,c.lo,c.arg,c.res,c.rcd,c.own,λp d=>?_⟩;rcases List.mem_append.1 d with d|d
 · exact c.str p d
 · rw [List.mem_singleton] at d;subst d;exact ⟨h.lo,ft wr _⟩
end
theorem vS (w:gi) (x y z u:gq) (t:TypeId):∀j v,[x,y,z,u][j]? =X v->(w.alloc (bk #[x,y,z,u] t)).cell? ((⟨w.heap.size,0,Y⟩:Addr).add j)=X v:=by
 intro j v b;match j,b with
 |0,b=>simp at b;subst b;simp [gx]
 |1,b=>simp at b;subst b;simp [gx]
 |2,b=>simp at b;subst b;simp [gx]
 |3,b=>simp at b;subst b;simp [gx]
theorem C0 (lo:Nat) (w1:gi) (v:gq) (n:Nat) (f:List gq) (s:w1.ownsRow lo 123 4 v n f) (C:n<=1000000) (A:lo<=w1.heap.size) (a b c d:gq) (h1:a.oneCell'=true) (l:b.oneCell'=true) (m:c.oneCell'=true) (p:d.oneCell'=true):
 ∃e w',(gp #[60,60] 60 #[v,fc (X ⟨w1.heap.size,0,Y⟩) 1 1]).run prog (w1.alloc (bk #[a,b,c,d] 123))= .ok e w'/\w'.ownsRow lo 123 4 e (n+1) (f++[a,b,c,d])/\(w1.alloc (bk #[a,b,c,d] 123)).grownBy w' v.ownBlock/\
  (e.ownBlock=v.ownBlock∨e.ownBlock=X (w1.heap.size+1)):=by
 obtain ⟨z,r,t,x,y⟩:=info_parts Cx
 obtain ⟨e,w',h,i,j,_,k⟩:=run_append_own_at (P:=prog) (w1.alloc (bk #[a,b,c,d] 123)) lo 60 60 123 z (.agg #[.string ⟨#[]⟩, .string ⟨#[]⟩, .string ⟨#[]⟩,fc Y 0 0]) 4 72 underlying60 r t x y rfl (by decide) v n f (World.ownsRow.alloc s _) ⟨w1.heap.size,0,Y⟩ 1 1 [a,b,c,d] rfl
  (vS w1 a b c d 123) (by
   intro u g
   simp only [List.mem_cons,List.not_mem_nil,or_false] at g
   rcases g with rfl|rfl|rfl|rfl
   · exact h1
   · exact l
   · exact m
   · exact p) (by unfold maxLen;omega) (by omega) (by simp;omega)
 exact ⟨e,w',h,i,j,by simpa using k⟩
theorem MdI.app {B:Nat} {w0 wr W:gi} {q:Six} {kd:UInt8} {v:gq} {fs:List af} {ls:List (Nat×List Bs)} (h:MdI B w0 wr q kd v fs ls) (r:Bw wr W) {n m:Nat} (L:fs.length=n) (N:n+1=m) (hn:n<=1000) (f:af) (d:gq) (D:bm (B+3) v.ownBlock W d f.subs):
 ∃(s:Option Addr) (t:Nat) (j:gi),(gp #[60,60] 60 #[v,fc (X ⟨W.heap.size,0,Y⟩) 1 1]).run prog (W.alloc (bk #[S f.tag,S f.ind,S f.data,d] 123))= .ok (fc s (m) t) j/\
  wr.grownBy j v.ownBlock/\W.grownBy j v.ownBlock/\j.cell? ⟨B+2,2,Y⟩=X v/\j.frozen? ⟨B+2,2,Y⟩=false/\MdI B w0 (j.setCell ⟨B+2,2,Y⟩ (fc s (m) t)) q kd (fc s (m) t) (fs++[f]) ls:=by
 subst L;subst N;obtain ⟨ps,p1,p2,E⟩:=h.own.ex;have a1:=h.lo;have z:wr.grownBy W v.ownBlock:=⟨r.os,r.tape,r.output,r.size,λk i _=>r.block k i⟩;have T:=r.size;have I:d.oneCell'=true:=by obtain ⟨a,c,rfl,_⟩:=D;rfl
 have a0:W.ownsRow (B+3) 123 4 v fs.length (ps.flatMap fieldCells):=ah E (λg z=>r.block g (E.lt g z).2);obtain ⟨v',j,F,C,y,G⟩:=C0 (B+3) W v fs.length (ps.flatMap fieldCells) a0 (by omega) (by omega) (S f.tag) (S f.ind) (S f.data) d rfl rfl rfl I;obtain ⟨s,t,rfl⟩:=aK C;have l:wr.grownBy j v.ownBlock:=(z.trans ((fy _ _ Y).but _)).trans y;have H:W.grownBy j v.ownBlock:=((fy _ _ Y).but _).trans y;have O:∀k,k<wr.heap.size->W.heap[k]? =wr.heap[k]? :=r.block;have R:=bK.app (w1:=W.alloc (bk #[S f.tag,S f.ind,S f.data,d] 123)) f d ps p1 (λp u=>((p2 p u).step (λk _ i _=>O k i) T (.inl rfl)).step (λk _ i _=>fz W _ k i) (by simp) (.inl rfl)) (D.step (λk _ i _=>fz W _ k i) (by simp) (.inl rfl)) C y (by simpa using G);have A:=h.old l h.rcd (by decide);refine ⟨s,t,j,F,l,H,aa A 2,ab A 2,?_⟩;have x:∀k,k≠B+2->(j.setCell ⟨B+2,2,Y⟩ (fc s (fs.length+1) t)).heap[k]? =j.heap[k]? :=λk i=>gf _ _ _ _ i;have V:=l.size;refine ⟨?_,by simp;omega,(x B (by omega)).trans (h.old l h.arg (by decide)),(x (B+1) (by omega)).trans (h.old l h.res (by decide)),ap A 2 _,R.keep (λk i _=>x k (by omega)) (by simp),λp u=>⟨(h.str p u).1,(x p.1 (by have:=(h.str p u).1;omega)).trans (h.old l (h.str p u).2 (by decide))⟩⟩;refine Below.setCell (p:=⟨B+2,2,Y⟩) ?_ (by simp) _;exact ⟨l.os.trans h.b.os,l.tape.trans h.b.tape,l.output.trans h.b.output,Nat.le_trans h.b.size V,λk i=>by
  have M:k<wr.heap.size:=by omega
  refine (l.block k M (λe=>?_)).trans (h.b.block k i);have:=(rK h.own e.symm).1;omega⟩
theorem ev {lo:Nat} {w:gi} {v:gq} {fs:List af} (h:bK lo w v fs) {g:Nat} (c:v.ownBlock=X g):g<w.heap.size:=by
 obtain ⟨ps,_,_,b⟩:=h.ex;exact (b.lt g c).2
theorem lL {lo:Nat} {g:Option Nat} {W:gi} {b:Nat} {c1:UInt8} {t1:Bs} (h:W.heap[b]? =X (bk #[J fl c1.toNat,S t1] 120 (0,0))) (d:lo<=b) (c:g≠X b):bm lo g W (fc (X ⟨b,0,Y⟩) 1 1) [⟨c1,t1⟩]:=by
 refine ⟨_,_,rfl,λ_=>⟨b,0,rfl,d,ae h,c,λj x e=>?_⟩⟩;rw [Nat.zero_add,aa h, <- e];simp [subCells]
theorem gL {lo:Nat} {g:Option Nat} {W:gi} {b:Nat} {c1 c2:UInt8} {t1 t2:Bs} (h:W.heap[b]? =X (bk #[J fl c1.toNat,S t1,J fl c2.toNat,S t2] 120 (0,0))) (d:lo<=b) (c:g≠X b):bm lo g W (fc (X ⟨b,0,Y⟩) 2 2) [⟨c1,t1⟩,⟨c2,t2⟩]:=by
 refine ⟨_,_,rfl,λ_=>⟨b,0,rfl,d,ae h,c,λj x e=>?_⟩⟩;rw [Nat.zero_add,aa h, <- e];simp [subCells]
theorem eR {P:Program} {d:Region.Mode} {e:Array Oper} {Q:Exit->Act->gi->Prop} {S:gi->Prop} {z:Nat} (b:gi->Prop) (h:∀w,b w->S w):∀(n:Nat) (listed:Array Bool) (a:Act) (w:gi),anyT P d e Q b z n listed a w->anyT P d e Q S z n listed a w
 |0,_,_,_,h0=>h0
 |n+1,_,_,_,h0=>⟨h0.1,λi g=>wpOp_mono (λf w' c=>⟨λj=>h _ (c.1 j),eR b h n _ f w' c.2⟩) (h0.2 i g)⟩
section
variable {P:Program} {o:Oper} {a:Act} {K:Act->gi->Prop} {Q:Exit->Act->gi->Prop} {w:gi}
theorem bM {s x:Operand} {t:TypeId} (e:o.op= .call {callee:= .builtin .append,args:= #[s,x],argTypes:= #[t,t]}) {b c v:gq} (g:a.eval s=b) (h:a.eval x=c) {w':gi} (f:(gp #[t,t] o.type #[b,c]).run P w= .ok v w') (d:K (a.put o.dst v) w'):o.wp P a w K Q:=by
 unfold Oper.wp execOp;simp only [e,resolve,invoke,builtin,Sem.run_bind,Sem.run_pure,Result.andThen_ok,List.map_toArray,List.map_cons,List.map_nil,g,h,f];exact d
end
end
section
open Go.RowKit Go.Maps Go.Shelf
theorem cG (n:Int) (M:Nat) (h:0<M):∃m:Nat,n.emod M=m/\m<M:=by
 have h1:0<=n.emod M:=Int.emod_nonneg n (by omega);have b:n.emod M<M:=Int.emod_lt_of_pos n (by omega);exact ⟨(n.emod M).toNat,(Int.toNat_of_nonneg h1).symm,by omega⟩
theorem dl (n:Int) (M m:Nat) (h1:1<=M) (b:M<=1000000) (h:n.emod M=m) (W:gi):gt prog 24 #[J U n,J U (M:Int)] W λe w'=>e=fn (J U (m:Int))/\W=w':=by
 refine (gV n M W (by omega) (by omega)).mono ?_;rintro e w' ⟨rfl,rfl⟩;rw [h];exact ⟨rfl,rfl⟩
theorem fC (l:List Bs) (n:Int) (M m:Nat) (b:l.length=M) (h:n.emod M=m):pick l n=l.getD m []:=by
 unfold pick;rw [b,h];rfl
theorem fG {fs:List af} {n:Nat} (h:fs.length=n) (x:af):Hid ((fs++[x]).length=n+1):=by
 unfold Hid;simp [h]
theorem vg {n:Int} (h:i64B n) (m:Int) (c:m=3∨m=4∨m=5): -4611686018427387904<=n.tdiv m/\n.tdiv m<=4611686018427387904:=by
 unfold i64B at h;rcases Int.le_total 0 n with b|b
 · rw [gd b];rcases c with rfl|rfl|rfl<;>omega
 · have d:n.tdiv m= -((-n).tdiv m):=by rw [Int.neg_tdiv];omega
   rw [d,gd (by omega)];rcases c with rfl|rfl|rfl<;>omega
theorem AV (a b c d e f:Int) (hc:i64B c) (hd:i64B d) (he:i64B e) (w:gi):
 gt prog 83 #[.agg #[J U a,J U b,J U c,J U d,J U e,J U f]] w λe' w'=>∃(r:Option Addr) (t:Nat),e'=fn (.agg #[J fl (madeR ⟨a,b,c,d,e,f⟩).kind.toNat,J fl 109, .slice r (madeR ⟨a,b,c,d,e,f⟩).fields.length t])/\ai w.heap.size w'.heap.size w' (.slice r (madeR ⟨a,b,c,d,e,f⟩).fields.length t) (madeR ⟨a,b,c,d,e,f⟩).fields/\Bw w w':=by
 obtain ⟨ma,da,la⟩:=cG a 5 (by omega);obtain ⟨mb,dc,lb⟩:=cG b 8 (by omega);have cs:Hid (∀W,gt prog 24 #[J U a,J U 5] W λe w'=>e=fn (J U (ma:Int))/\W=w'):=dl a 5 ma (by omega) (by omega) da;have cu:Hid (∀W,gt prog 24 #[J U b,J U 8] W λe w'=>e=fn (J U (mb:Int))/\W=w'):=dl b 8 mb (by omega) (by omega) dc;obtain ⟨kd,bA⟩:∃kd:UInt8,(madeR ⟨a,b,c,d,e,f⟩).kind=kd:=⟨_,rfl⟩;have cz:Hid (kd=if ma=4 then 109 else 97):=by
  unfold Hid;rw [<- bA];unfold madeR;dsimp only;have:a.emod 5=(ma:Int):=da;rw [this];by_cases h4:ma=4
  · rw [if_pos h4,if_pos (by omega)]
  · rw [if_neg h4,if_neg (by omega)]
 obtain ⟨b1,hX⟩:=Qe (pick yearsL b);have HX:Hid (yearsL.getD mb []=b1):=by unfold Hid;rw [<- hX];exact (fC yearsL b 8 mb rfl dc).symm
 have er:b1.length<=12:=by
  rw [<- HX.o];have:∀m,m<8->(yearsL.getD m []).length<=12:=by decide
  exact this mb lb
 have c4:Hid (made008 b=if b.tmod 2=0 then [⟨lK,[],[56,53,48,49,48,49,115]++(b1++[32,32,32,32,120,120]),[]⟩] else []):=by unfold Hid made008;rw [hX,List.append_assoc]
 obtain ⟨w2,b9⟩:=Qe ((w.alloc (bk #[J U a,J U b,J U c,J U d,J U e,J U f] 45)).alloc (bk #[J fl 0,J fl 0,fc Y 0 0] 62));have bp:Bw w w2:=by rw [<- b9];exact ((gb _ w).alloc (fx _) _).alloc (by simp) _
 have hA:w2.heap[w.heap.size]? =X (bk #[J U a,J U b,J U c,J U d,J U e,J U f] 45 (0,0)):=by rw [<- b9,fz _ _ _ (by simp)];exact ft w _
 have hB:w2.heap[w.heap.size+1]? =X (bk #[J fl 0,J fl 0,fc Y 0 0] 62 (0,0)):=by rw [<- b9];have:=ft (w.alloc (bk #[J U a,J U b,J U c,J U d,J U e,J U f] 45)) (bk #[J fl 0,J fl 0,fc Y 0 0] 62);rwa [World.size_alloc] at this
 have cm:w2.heap.size=w.heap.size+2:=by rw [<- b9];simp
 have cy:Hid (MdI w.heap.size w (w2.alloc (bk #[J fl kd.toNat,J fl 109,fc Y 0 0] 62)) ⟨a,b,c,d,e,f⟩ kd (fc Y 0 0) [] []):=by have ho:∀k,k<w2.heap.size->(w2.alloc (bk #[J fl kd.toNat,J fl 109,fc Y 0 0] 62)).heap[k]? =w2.heap[k]? :=λk I=>fz _ _ _ I;refine ⟨bp.alloc (by omega) _,by simp;omega,(ho _ (by omega)).trans hA,(ho _ (by omega)).trans hB,?_,bK.nil _ _,λp hp=>(by cases hp)⟩;rw [<- cm];exact ft w2 _
 have d1:=Z b9;have HA:=Z hA;have d2:=Z cm;obtain ⟨R,hR⟩:=Qe (madeR ⟨a,b,c,d,e,f⟩);have HR:=Z hR;rw [hR] at bA ⊢;have e4:=Z bA;clear b9 bp hA hB cm hX hR bA;go_enter func83,ntmps83;go_upto_region 1 with fail
 rw [d1.o];go_cut [3] (λp wx=>p=fp (X ⟨w.heap.size+2,0,Y⟩)/\Hid (MdI w.heap.size w wx ⟨a,b,c,d,e,f⟩ kd (fc Y 0 0) [] []))
 case first=>
  have e0:w2.cell? ⟨w.heap.size,0,Y⟩=X (J U a):=(aa HA.o 0).trans rfl;have I:=cz.o;obtain rfl|rfl|rfl|rfl|rfl:ma=0∨ma=1∨ma=2∨ma=3∨ma=4:=by omega
  all_goals
   first
    |obtain rfl:kd=97:=I
    |obtain rfl:kd=109:=I
   go_wp2_with (go_at_call 24;((with_reducible refine gc (cs.o _) ?_);rintro e w3 ⟨rfl,rfl⟩))
   go_meet
   refine ⟨?_,cy.o⟩
   rw [d2.o]
 case rest=>
  obtain ⟨rfl,y⟩:=hcut;clear cy cs HA d1 d2 cz;obtain ⟨N,hY⟩:=Qe wc.heap.size;have eq:Hid (w.heap.size+3<=N):=by unfold Hid;rw [<- hY];exact y.o.lo
  go_upto_region 2 with fail
  go_cut [4] (λp wx=>p=fc (X ⟨N,0,Y⟩) 8 8/\∃(r:Option Addr) (t:Nat),Hid (MdI w.heap.size w wx ⟨a,b,c,d,e,f⟩ kd (fc r 0 t) [] [(N,yearsL)]))
  case first=>
   go_wp2_with fail
   go_meet;refine ⟨rfl,Y,0,?_⟩;have h:=y.strs yearsL;rw [hY] at h;exact h
  case rest=>
   obtain ⟨rfl,r,t,cQ⟩:=hcut;clear hY y;have y:=cQ;clear cQ;have e1:=(aa y.arg 1).trans rfl;have x1:wc.cell? ⟨N,mb,Y⟩=X (S b1):=by have:=y.self.at (List.mem_singleton.2 rfl:(N,yearsL)∈[(N,yearsL)]) (m:=mb) (by exact lb);rw [HX.o] at this;exact this
   have ib:(mb:Int)<8:=by omega
   go_upto_region 4 with (go_at_call 24;((with_reducible refine gc (cu.o _) ?_);rintro e w3 ⟨rfl,rfl⟩))
   go_upto_if 26 with fail
   clear e1 x1;go_cut [] (λwx=>∃(r:Option Addr) (t:Nat),Hid (MdI w.heap.size w wx ⟨a,b,c,d,e,f⟩ kd (.slice r (made008 b).length t) (made008 b) [(N,yearsL)]))
   case first=>
    by_cases bp:b.tmod 2=0
    · have a9:Hid (made008 b=[⟨lK,[],[56,53,48,49,48,49,115]++(b1++[32,32,32,32,120,120]),[]⟩]):=by unfold Hid;rw [c4.o,if_pos bp]
      have c2:wc.cell? ⟨w.heap.size+2,2,Y⟩=X (fc r 0 t):=(aa y.rcd 2).trans rfl;obtain ⟨a',c',w8,F,a1,a4,b2,b3,V⟩:=y.o.app (W:=wc) (gb _ _) (n:=0) (m:=1) rfl rfl (by omega) ⟨lK,[],56::53::48::49::48::49::115::(b1++[32,32,32,32,120,120]),[]⟩ (fc Y 0 0) ⟨Y,0,rfl,λh=>absurd rfl h⟩;dsimp only at F;have ad:=Z F;have e6:=Z V;clear F V a1 a4;go_wp2_with (at_builtin;refine wpList_plain rfl λK l=>?_;refine bM rfl rfl rfl ad.o ?_;refine l _ _ ?_)
      go_meet;refine ⟨a',c',?_⟩;rw [a9.o];exact e6.o
    · have a9:Hid (made008 b=[]):=by unfold Hid;rw [c4.o,if_neg bp]
      go_wp2_with fail
      go_meet;refine ⟨r,t,?_⟩;rw [a9.o];exact y.o
   case rest=>
    obtain ⟨r,t,a8⟩:=hcut;clear y ib c4 cu;have y:=a8;clear a8;obtain ⟨F0,bt⟩:=Qe (made008 b);have es:F0.length<=1:=by rw [<- bt];unfold made008;split<;>simp
    rw [bt] at y;have dp:=Z bt;clear bt;obtain ⟨Y2,d3⟩:=Qe wc.heap.size;go_upto_region 6 with fail
    go_cut [6] (λp wx=>p=fc (X ⟨Y2,0,Y⟩) 7 7/\Hid (MdI w.heap.size w wx ⟨a,b,c,d,e,f⟩ kd (fc r F0.length t) F0 [(N,yearsL),(Y2,booksL)]))
    case first=>
     go_wp2_with fail
     go_meet;refine ⟨rfl,?_⟩;have h:=y.strs booksL;rw [d3] at h;exact h
    case rest=>
     obtain ⟨rfl,a8⟩:=hcut;clear y d3;obtain ⟨m3,c9,l3⟩:=cG c 3 (by omega);obtain ⟨m7,ca,l7⟩:=cG c 7 (by omega);have bB:Hid (∀W,gt prog 24 #[J U c,J U 3] W λe w'=>e=fn (J U (m3:Int))/\W=w'):=dl c 3 m3 (by omega) (by omega) c9;have bD:Hid (∀W,gt prog 24 #[J U c,J U 7] W λe w'=>e=fn (J U (m7:Int))/\W=w'):=dl c 7 m7 (by omega) (by omega) ca;have di: -4611686018427387904<=c.tdiv 3/\c.tdiv 3<=4611686018427387904:=(by
      unfold i64B at hc;rcases Int.le_total 0 c with h|h
      · rw [gd h];omega
      · have h4:c.tdiv 3= -((-c).tdiv 3):=by rw [Int.neg_tdiv];omega
        rw [h4,gd (by omega)];omega)
     obtain ⟨c3,c5⟩:=Qe (c.tdiv 3);rw [c5] at di;obtain ⟨cd,b6⟩:∃cd:UInt8,(if m7=6 then (122:UInt8) else 97)=cd:=⟨_,rfl⟩;have d0:Hid (((m7:Int).tdiv 6=1/\cd=122)∨((m7:Int).tdiv 6=0/\cd=97)):=by
      unfold Hid;rw [gd (by omega), <- b6];by_cases h6:m7=6
      · rw [if_pos h6];exact .inl ⟨by omega,rfl⟩
      · rw [if_neg h6];exact .inr ⟨by omega,rfl⟩
     have cq:Hid (∀k:Nat,gw c k=⟨eu,[32,32],[],[⟨cd,pick booksL (c3+k)⟩]⟩):=λk=>by
      unfold gw;rw [c5, <- b6];have:c.emod 7=(m7:Int):=ca;rw [this];by_cases h6:m7=6
      · rw [if_pos h6,if_pos (by omega)]
      · rw [if_neg h6,if_neg (by omega)]
     have cP:Hid (gh c=(List.range m3).map (gw c)):=by unfold Hid gh;have:c.emod 3=(m3:Int):=c9;rw [this];rfl
     clear c9 ca b6;go_upto_region 8 with fail
     go_loopw [7] (λi wr=>∃(k:Nat) (r:Option Addr) (t n:Nat) (fs:List af),i=J U k/\k<=m3/\Hid (fs=F0++(List.range k).map (gw c))/\Hid (fs.length=n)/\n<=1+k/\Hid (MdI w.heap.size w wr ⟨a,b,c,d,e,f⟩ kd (fc r n t) fs [(N,yearsL),(Y2,booksL)])) (λi _=>m3 - (intOf i).toNat)
     case atStart=>exact ⟨0,r,t,_,F0,rfl,Nat.zero_le _,by simp [Hid],rfl,by omega,a8.o⟩
     case round=>
      obtain ⟨k,r,t,n,fs,rfl,I,c0,a5,hn,y⟩:=hrel;have e2:wr.cell? ⟨w.heap.size,2,Y⟩=X (J U c):=(aa y.arg 2).trans rfl;by_cases hlt:k<m3
      · obtain ⟨mk,cl,lk⟩:=cG (c3+k) 7 (by omega);have cv:Hid (∀W,gt prog 24 #[J U (c3+(k:Int)),J U 7] W λe w'=>e=fn (J U (mk:Int))/\W=w'):=dl _ 7 mk (by omega) (by omega) cl;obtain ⟨A,au⟩:=Qe (pick booksL (c3+k));have b4:Hid (booksL.getD mk []=A):=by unfold Hid;rw [<- au];exact (fC booksL _ 7 mk rfl cl).symm
        have cp:Hid (fs++[⟨eu,[32,32],[],[⟨cd,A⟩]⟩]=F0++(List.range (k+1)).map (gw c)):=by unfold Hid;rw [c0.o,List.range_succ,List.map_append,List.append_assoc,List.map_singleton,cq.o k,au]
        clear cl au;have ao:Hid (∀W,wr.grownBy W (fr r n t).ownBlock->W.cell? ⟨w.heap.size,2,Y⟩=X (J U c)/\W.cell? ⟨w.heap.size+2,2,Y⟩=X (fc r n t)/\W.cell? ⟨Y2,mk,Y⟩=X (S A)):=λW hW=>by have hs:=y.s hW;refine ⟨(aa hs.arg 2).trans rfl,(aa hs.rcd 2).trans rfl,?_⟩;have:=hs.at (by simp:(Y2,booksL)∈[(N,yearsL),(Y2,booksL)]) (m:=mk) (by exact lk);rw [b4.o] at this;exact this
        have ib:(mk:Int)<7:=by omega
        have dd:IntKind.i64.wrap c3=c3:=gn _ (by omega);have b9:IntKind.i64.wrap (c3+(k:Int))=c3+(k:Int):=gn _ (by omega);go_upto_region 10 with (go_at_call 24;((with_reducible refine gc (bB.o _) ?_);rintro e w3 ⟨rfl,rfl⟩))
        clear e2;have aS:n<=1000:=by omega
        obtain ⟨hq,b6⟩|⟨hq,b6⟩:((m7:Int).tdiv 6=1/\cd=122)∨((m7:Int).tdiv 6=0/\cd=97):=d0.o
        · subst b6;have a0:wr.grownBy wr.drew (fr r n t).ownBlock:=⟨rfl,rfl,rfl,fx _,λ_ _ _=>rfl⟩;have bw:Bw wr wr.drew:=(gb _ wr).drew;go_wp2_with fail
          refine wT (λW=>wr.grownBy W (fr r n t).ownBlock) 22 ?_;refine Qb [0,2,7,8,11,1,3,9,10,12] a0 ao ?_;refine Dp 4 λK l=>?_;go_simp;go_at_call 24;with_reducible refine gc (bD.o _) ?_
          rintro e w2 ⟨rfl,rfl⟩;refine l _ _ (λ_=>a0) ?_;clear l K;go_simp;refine Qa [5] a0 ?_
          refine bU (i:=6) (v:=J fl 122) rfl (by kernel_rfl) (by kernel_rfl) (by kernel_rfl) (by kernel_rfl) (by decide) (λ_ _ _ h=>h) a0 (Or.inl ⟨by rfl,?_⟩) ?_;focus (intro w' h;go_simp;rfl)
          (try go_simp)
          refine Dp 13 λK l=>?_;go_simp;go_at_call 24;with_reducible refine gc (cv.o _) ?_
          rintro e w2 ⟨rfl,rfl⟩;refine l _ _ (λ_=>a0) ?_;clear l K;go_simp;refine Qb [14,15,16] a0 ao ?_;refine Dp 17 λK l=>?_;go_simp;obtain ⟨E,D⟩:=Qe ((wr.alloc (bk #[J fl 122,S A] 120)).drew);have z:Bw wr E:=by rw [<- D];exact ((gb _ wr).alloc (fx _) _).drew
          have M:wr.grownBy E (fr r n t).ownBlock:=⟨z.os,z.tape,z.output,z.size,λk I _=>z.block k I⟩;obtain ⟨O,L⟩:=Qe wr.heap.size;have al:E.heap[O]? =X (bk #[J fl 122,S A] 120 (0,0)):=by rw [<- D, <- L];exact ft wr _
          have b7:wr.heap.size<=O:=by rw [<- L];exact fx _
          rw [L,D];clear D;refine l _ _ (λ_=>M) ?_;clear l K;go_simp;refine Qa [18] M ?_
          have a2:=lL (c1:=122) (t1:=A) (lo:=w.heap.size+3) (g:=(fr r n t).ownBlock) al (by have:=y.o.lo;omega) (λe=>by have:=ev y.o.own e;omega);obtain ⟨a',c',w8,F,a1,a4,b2,b3,V⟩:=y.app z a5.o rfl aS ⟨eu,[32,32],[],[⟨122,A⟩]⟩ _ a2;dsimp only [eu] at F;have ad:=Z F;have a9:=Z V;clear F V a4 a2;refine Dp 19 λK l=>?_;go_simp;refine l _ _ (λ_=>M.trans ((fy _ _ Y).but _)) ?_;clear l K;go_simp;refine Dp 20 λK l=>?_;refine bM rfl rfl rfl ad.o ?_;refine l _ _ (λ_=>a1) ?_;clear l K;go_simp;refine Qa [21] a1 ?_
          refine Dl 22 ?_;go_wp2_with fail
          go_roundw
          case rel=> refine ⟨k+1,a',c',n+1,_,by go_num,hlt,cp,?_,by omega,a9⟩;unfold Hid;rw [gs,a5.o];rfl
          case measure=>simp [intOf];omega
        · subst b6;have a0:wr.grownBy wr.drew (fr r n t).ownBlock:=⟨rfl,rfl,rfl,fx _,λ_ _ _=>rfl⟩;have bw:Bw wr wr.drew:=(gb _ wr).drew;go_wp2_with fail
          refine wT (λW=>wr.grownBy W (fr r n t).ownBlock) 22 ?_;refine Qb [0,2,7,8,11,1,3,9,10,12] a0 ao ?_;refine Dp 4 λK l=>?_;go_simp;go_at_call 24;with_reducible refine gc (bD.o _) ?_
          rintro e w2 ⟨rfl,rfl⟩;refine l _ _ (λ_=>a0) ?_;clear l K;go_simp;refine Qa [5] a0 ?_
          refine bU (i:=6) (v:=J fl 97) rfl (by kernel_rfl) (by kernel_rfl) (by kernel_rfl) (by kernel_rfl) (by decide) (λ_ _ _ h=>h) a0 (Or.inl ⟨by rfl,?_⟩) ?_;focus (intro w' h;go_simp;rfl)
          (try go_simp)
          refine Dp 13 λK l=>?_;go_simp;go_at_call 24;with_reducible refine gc (cv.o _) ?_
          rintro e w2 ⟨rfl,rfl⟩;refine l _ _ (λ_=>a0) ?_;clear l K;go_simp;refine Qb [14,15,16] a0 ao ?_;refine Dp 17 λK l=>?_;go_simp;obtain ⟨E,D⟩:=Qe ((wr.alloc (bk #[J fl 97,S A] 120)).drew);have z:Bw wr E:=by rw [<- D];exact ((gb _ wr).alloc (fx _) _).drew
          have M:wr.grownBy E (fr r n t).ownBlock:=⟨z.os,z.tape,z.output,z.size,λk I _=>z.block k I⟩;obtain ⟨O,L⟩:=Qe wr.heap.size;have al:E.heap[O]? =X (bk #[J fl 97,S A] 120 (0,0)):=by rw [<- D, <- L];exact ft wr _
          have b7:wr.heap.size<=O:=by rw [<- L];exact fx _
          rw [L,D];clear D;refine l _ _ (λ_=>M) ?_;clear l K;go_simp;refine Qa [18] M ?_
          have a2:=lL (c1:=97) (t1:=A) (lo:=w.heap.size+3) (g:=(fr r n t).ownBlock) al (by have:=y.o.lo;omega) (λe=>by have:=ev y.o.own e;omega);obtain ⟨a',c',w8,F,a1,a4,b2,b3,V⟩:=y.app z a5.o rfl aS ⟨eu,[32,32],[],[⟨97,A⟩]⟩ _ a2;dsimp only [eu] at F;have ad:=Z F;have a9:=Z V;clear F V a4 a2;refine Dp 19 λK l=>?_;go_simp;refine l _ _ (λ_=>M.trans ((fy _ _ Y).but _)) ?_;clear l K;go_simp;refine Dp 20 λK l=>?_;refine bM rfl rfl rfl ad.o ?_;refine l _ _ (λ_=>a1) ?_;clear l K;go_simp;refine Qa [21] a1 ?_
          refine Dl 22 ?_;go_wp2_with fail
          go_roundw
          case rel=> refine ⟨k+1,a',c',n+1,_,by go_num,hlt,cp,?_,by omega,a9⟩;unfold Hid;rw [gs,a5.o];rfl
          case measure=>simp [intOf];omega
      · have e9:k=m3:=by omega
        subst e9;have em:=bB;have ds:Hid (fs=F0++gh c):=by unfold Hid;rw [cP.o];exact c0.o
        have ee:n<=4:=by omega
        obtain ⟨Y3,d5⟩:=Qe wr.heap.size;clear c0 cq cP bB bD d0 di c5 l3 l7 hlt I hn;go_upto_region 11 with (go_at_call 24;((with_reducible refine gc (em.o _) ?_);rintro e w3 ⟨rfl,rfl⟩))
        clear e2;go_cut [8] (λp wx=>p=fc (X ⟨Y3,0,Y⟩) 6 6/\Hid (MdI w.heap.size w wx ⟨a,b,c,d,e,f⟩ kd (fc r n t) fs [(N,yearsL),(Y2,booksL),(Y3,namesL)]))
        case first=>
         go_wp2_with fail
         go_meet;refine ⟨rfl,?_⟩;have h:=y.strs namesL;rw [d5] at h;exact h
        case rest=>
         obtain ⟨rfl,a8⟩:=hcut;clear y d5;have y:=a8;clear a8;have x3:wc.cell? ⟨w.heap.size,3,Y⟩=X (J U d):=(aa y.arg 3).trans rfl;go_upto_if 70 with fail
         clear x3;go_cut [] (λwx=>∃(r:Option Addr) (t G:Nat) (aC:List af),Hid (aC=fs++eH d)/\Hid (aC.length=G)/\G<=5/\Hid (MdI w.heap.size w wx ⟨a,b,c,d,e,f⟩ kd (fc r G t) aC [(N,yearsL),(Y2,booksL),(Y3,namesL)]))
         case first=>
          by_cases hd4:d.tmod 4=0
          · have ax:Hid (fs=fs++eH d):=by unfold Hid eH;rw [if_neg (by simp [hd4])];simp
            go_wp2_with fail
            go_meet;exact ⟨r,t,n,fs,ax,a5,by omega,y⟩
          · have hz:=vg hd 4 (by omega);obtain ⟨d4,d7⟩:=Qe (d.tdiv 4);have hz: -4611686018427387904<=d4/\d4<=4611686018427387904:=by rw [<- d7];exact hz
            obtain ⟨md,cb,ld⟩:=cG d4 6 (by omega);have dk:Hid (∀W,gt prog 24 #[J U d4,J U 6] W λe w'=>e=fn (J U (md:Int))/\W=w'):=dl d4 6 md (by omega) (by omega) cb;obtain ⟨A,au⟩:=Qe (pick namesL d4);have b4:Hid (namesL.getD md []=A):=by unfold Hid;rw [<- au];exact (fC namesL _ 6 md rfl cb).symm
            have ax:Hid (fs++[⟨dW,[49,32],[],[⟨97,A⟩]⟩]=fs++eH d):=by unfold Hid eH;rw [if_pos hd4,d7,au]
            clear cb au;have ao:Hid (∀W,wc.grownBy W (fr r n t).ownBlock->W.cell? ⟨w.heap.size,3,Y⟩=X (J U d)/\W.cell? ⟨w.heap.size+2,2,Y⟩=X (fc r n t)/\W.cell? ⟨Y3,md,Y⟩=X (S A)):=λW hW=>by have hs:=y.s hW;refine ⟨(aa hs.arg 3).trans rfl,(aa hs.rcd 2).trans rfl,?_⟩;have:=hs.at (by simp:(Y3,namesL)∈[(N,yearsL),(Y2,booksL),(Y3,namesL)]) (m:=md) (by exact ld);rw [b4.o] at this;exact this
            have ib:(md:Int)<6:=by omega
            have dd:IntKind.i64.wrap d4=d4:=gn _ (by omega);have aS:n<=1000:=by omega
            have a0:wc.grownBy wc.drew (fr r n t).ownBlock:=⟨rfl,rfl,rfl,fx _,λ_ _ _=>rfl⟩;have bw:Bw wc wc.drew:=(gb _ wc).drew;go_wp2_with fail
            refine wT (λW=>wc.grownBy W (fr r n t).ownBlock) 15 ?_;refine Qb [0,2,3,1,4,5] a0 ao ?_;refine Dp 6 λK l=>?_;go_simp;go_at_call 24;with_reducible refine gc (dk.o _) ?_
            rintro e w2 ⟨rfl,rfl⟩;refine l _ _ (λ_=>a0) ?_;clear l K;go_simp;refine Qb [7,8,9] a0 ao ?_;refine Dp 10 λK l=>?_;go_simp;obtain ⟨E,D⟩:=Qe ((wc.alloc (bk #[J fl 97,S A] 120)).drew);have z:Bw wc E:=by rw [<- D];exact ((gb _ wc).alloc (fx _) _).drew
            have M:wc.grownBy E (fr r n t).ownBlock:=⟨z.os,z.tape,z.output,z.size,λk I _=>z.block k I⟩;obtain ⟨O,L⟩:=Qe wc.heap.size;have al:E.heap[O]? =X (bk #[J fl 97,S A] 120 (0,0)):=by rw [<- D, <- L];exact ft wc _
            have b7:wc.heap.size<=O:=by rw [<- L];exact fx _
            rw [L,D];clear D;refine l _ _ (λ_=>M) ?_;clear l K;go_simp;refine Qa [11] M ?_
            have a2:=lL (c1:=97) (t1:=A) (lo:=w.heap.size+3) (g:=(fr r n t).ownBlock) al (by have:=y.o.lo;omega) (λe=>by have:=ev y.o.own e;omega);obtain ⟨a',c',w8,F,a1,a4,b2,b3,V⟩:=y.app z a5.o rfl aS ⟨dW,[49,32],[],[⟨97,A⟩]⟩ _ a2;dsimp only [dW] at F;have ad:=Z F;have a9:=Z V;clear F V a4 a2;refine Dp 12 λK l=>?_;go_simp;refine l _ _ (λ_=>M.trans ((fy _ _ Y).but _)) ?_;clear l K;go_simp;refine Dp 13 λK l=>?_;refine bM rfl rfl rfl ad.o ?_;refine l _ _ (λ_=>a1) ?_;clear l K;go_simp;refine Qa [14] a1 ?_
            refine Dl 15 ?_;go_wp2_with fail
            go_meet;exact ⟨a',c',n+1,_,ax,fG a5.o _,by omega,a9⟩
         case rest=>
          obtain ⟨r,t,G,aC,dx,bT,ex,a8⟩:=hcut;clear y a5;have y:=a8;clear a8;obtain ⟨Y4,d6⟩:=Qe wc.heap.size;go_upto_region 14 with fail
          go_cut [9] (λp wx=>p=fc (X ⟨Y4,0,Y⟩) 6 6/\Hid (MdI w.heap.size w wx ⟨a,b,c,d,e,f⟩ kd (fc r G t) aC [(N,yearsL),(Y2,booksL),(Y3,namesL),(Y4,titlesL)]))
          case first=>
           go_wp2_with fail
           go_meet;refine ⟨rfl,?_⟩;have h:=y.strs titlesL;rw [d6] at h;exact h
          case rest=>
           obtain ⟨rfl,a8⟩:=hcut;clear y d6;have y:=a8;clear a8;have x4:wc.cell? ⟨w.heap.size,4,Y⟩=X (J U e):=(aa y.arg 4).trans rfl;go_upto_if 90 with fail
           clear x4;go_cut [] (λwx=>∃(r:Option Addr) (t n3:Nat) (b0:List af),Hid (b0=aC++eG e)/\Hid (b0.length=n3)/\n3<=6/\Hid (MdI w.heap.size w wx ⟨a,b,c,d,e,f⟩ kd (fc r n3 t) b0 [(N,yearsL),(Y2,booksL),(Y3,namesL),(Y4,titlesL)]))
           case first=>
            by_cases he5:e.tmod 5=0
            · have ax:Hid (aC=aC++eG e):=by unfold Hid eG;rw [if_neg (by simp [he5])];simp
              go_wp2_with fail
              go_meet;exact ⟨r,t,G,aC,ax,bT,by omega,y⟩
            · have hz:=vg he 5 (by omega);obtain ⟨e5,d8⟩:=Qe (e.tdiv 5);have hz: -4611686018427387904<=e5/\e5<=4611686018427387904:=by rw [<- d8];exact hz
              obtain ⟨ay,cc,f1⟩:=cG e 3 (by omega);obtain ⟨bb,cg,ej⟩:=cG e5 6 (by omega);have cx:Hid (∀W,gt prog 24 #[J U e,J U 3] W λe w'=>e=fn (J U (ay:Int))/\W=w'):=dl e 3 ay (by omega) (by omega) cc;have bO:Hid (∀W,gt prog 24 #[J U e5,J U 6] W λe w'=>e=fn (J U (bb:Int))/\W=w'):=dl e5 6 bb (by omega) (by omega) cg;obtain ⟨A,au⟩:=Qe (pick titlesL e5);obtain ⟨iv,c6⟩:=Qe (pick inds3L e);have b4:Hid (titlesL.getD bb []=A):=by unfold Hid;rw [<- au];exact (fC titlesL _ 6 bb rfl cg).symm
              have d9:inds3L.getD ay []=iv:=by rw [<- c6];exact (fC inds3L _ 3 ay rfl cc).symm
              have bs:Hid (∀(W:gi) (C:Nat),W.heap[C]? =X (bk #[S [48,48],S [48,52],S [49,120]] 9 (0,0))->W.cell? ⟨C,ay,Y⟩=X (S iv)):=λW C h=>by
               rw [aa h, <- d9];have hm:ay=0∨ay=1∨ay=2:=by omega
               rcases hm with rfl|rfl|rfl<;>rfl
              have ax:Hid (aC++[⟨ck,iv,[],[⟨97,A⟩,⟨99,[98,121]⟩]⟩]=aC++eG e):=by unfold Hid eG;rw [if_pos he5,d8,au,c6]
              clear cc cg au c6 d9;have ao:Hid (∀W,wc.grownBy W (fr r G t).ownBlock->W.cell? ⟨w.heap.size,4,Y⟩=X (J U e)/\W.cell? ⟨w.heap.size+2,2,Y⟩=X (fc r G t)/\W.cell? ⟨Y4,bb,Y⟩=X (S A)):=λW hW=>by have hs:=y.s hW;refine ⟨(aa hs.arg 4).trans rfl,(aa hs.rcd 2).trans rfl,?_⟩;have:=hs.at (by simp:(Y4,titlesL)∈[(N,yearsL),(Y2,booksL),(Y3,namesL),(Y4,titlesL)]) (m:=bb) (by exact ej);rw [b4.o] at this;exact this
              have ib:(bb:Int)<6:=by omega
              have f0:(ay:Int)<3:=by omega
              have dd:IntKind.i64.wrap e5=e5:=gn _ (by omega);have aS:G<=1000:=by omega
              have a5:=bT;have a0:wc.grownBy wc.drew (fr r G t).ownBlock:=⟨rfl,rfl,rfl,fx _,λ_ _ _=>rfl⟩;have bw:Bw wc wc.drew:=(gb _ wc).drew;go_wp2_with fail
              refine wT (λW=>wc.grownBy W (fr r G t).ownBlock) 22 ?_;refine Qb [0,3,8,9,16,1,4,10,11] a0 ao ?_;refine cH (i:=2) (j:=5) rfl rfl (by kernel_rfl) rfl rfl (λK l=>?_) (λK l=>?_)
              · go_simp;obtain ⟨T,a6⟩:=Qe ((wc.alloc (bk #[S [48,48],S [48,52],S [49,120]] 9)).drew);have H:Bw wc T:=by rw [<- a6];exact ((gb _ wc).alloc (fx _) _).drew
                have ac:wc.grownBy T (fr r G t).ownBlock:=⟨H.os,H.tape,H.output,H.size,λk I _=>H.block k I⟩;obtain ⟨C,av⟩:=Qe wc.heap.size;have a3:T.heap[C]? =X (bk #[S [48,48],S [48,52],S [49,120]] 9 (0,0)):=by rw [<- a6, <- av];exact ft wc _
                have c7:wc.heap.size<=C:=by rw [<- av];exact fx _
                rw [av,a6];clear a6;refine l _ _ (λ_=>ac) ?_;clear l K;go_simp;refine eR (λW=>wc.grownBy W (fr r G t).ownBlock/\W.heap[C]? =X (bk #[S [48,48],S [48,52],S [49,120]] 9 (0,0))) (λW h=>h.1) _ _ _ _ ?_;have b5:Hid (∀W:gi,(wc.grownBy W (fr r G t).ownBlock/\W.heap[C]? =X (bk #[S [48,48],S [48,52],S [49,120]] 9 (0,0)))->W.cell? ⟨C,ay,Y⟩=X (S iv)):=λW h=>bs W C h.2;refine Dp 5 λK l=>?_;go_simp;go_at_call 24;with_reducible refine gc (cx.o _) ?_
                rintro e w2 ⟨rfl,rfl⟩;refine l _ _ (λ_=>⟨ac,a3⟩) ?_;clear l K;go_simp;have u:=tkL [6,7];repeat (refine tkI u ?_ rfl ⟨ac,a3⟩ ?_ ?_;rotate_left;intro w' h;have h7:=b5 w' h;go_simp;rfl;(try go_simp);replace u:=tkO u)
                clear u;refine Dp 12 λK l=>?_;go_simp;go_at_call 24;with_reducible refine gc (bO.o _) ?_
                rintro e w2 ⟨rfl,rfl⟩;refine l _ _ (λ_=>⟨ac,a3⟩) ?_;clear l K;go_simp;have u:=tkL [13,14,15];repeat (refine tkI u ?_ rfl ⟨ac,a3⟩ ?_ ?_;rotate_left;intro w' h;obtain ⟨h0,h1,h2⟩:=ao w' h.1;go_simp;rfl;(try go_simp);replace u:=tkO u)
                clear u;refine Dp 17 λK l=>?_;go_simp;obtain ⟨E,D⟩:=Qe (T.alloc (bk #[J fl 97,S A,J fl 99,S [98,121]] 120));have z:Bw wc E:=by rw [<- D];exact H.alloc H.size _
                have M:wc.grownBy E (fr r G t).ownBlock:=⟨z.os,z.tape,z.output,z.size,λk I _=>z.block k I⟩;obtain ⟨O,L⟩:=Qe T.heap.size;have al:E.heap[O]? =X (bk #[J fl 97,S A,J fl 99,S [98,121]] 120 (0,0)):=by rw [<- D, <- L];exact ft T _
                have b7:wc.heap.size<=O:=by rw [<- L];exact H.size
                have a7:E.heap[C]? =X (bk #[S [48,48],S [48,52],S [49,120]] 9 (0,0)):=by rw [<- D,fz _ _ _ (ae a3)];exact a3
                rw [L,D];clear D;refine l _ _ (λ_=>⟨M,a7⟩) ?_;clear l K;go_simp;refine tk 18 ?_ rfl ⟨M,a7⟩ ?_ ?_;rotate_left;intro w' h;go_simp;rfl;try go_simp
                have a2:=gL (c1:=97) (t1:=A) (c2:=99) (t2:=[98,121]) (lo:=w.heap.size+3) (g:=(fr r G t).ownBlock) al (by have:=y.o.lo;omega) (λe=>by have:=ev y.o.own e;omega);obtain ⟨a',c',w8,F,a1,a4,b2,b3,V⟩:=y.app z a5.o rfl aS ⟨ck,iv,[],[⟨97,A⟩,⟨99,[98,121]⟩]⟩ _ a2;dsimp only [ck] at F;have ad:=Z F;have a9:=Z V;have aT:w8.heap[C]? =X (bk #[S [48,48],S [48,52],S [49,120]] 9 (0,0)):=(a4.block C (ae a7) (λe=>by have:=ev y.o.own e.symm;omega)).trans a7;have b8:(E.alloc (bk #[S ck,S iv,S [],fc (X ⟨O,0,Y⟩) 2 2] 123)).heap[C]? =X (bk #[S [48,48],S [48,52],S [49,120]] 9 (0,0)):=by rw [fz _ _ _ (ae a7)];exact a7
                clear F V a4 a2;refine Dp 19 λK l=>?_;go_simp;refine l _ _ (λ_=>⟨M.trans ((fy _ _ Y).but _),b8⟩) ?_;clear l K;go_simp;refine Dp 20 λK l=>?_;refine bM rfl rfl rfl ad.o ?_;refine l _ _ (λ_=>⟨a1,aT⟩) ?_;clear l K;go_simp;refine tk 21 ?_ rfl ⟨a1,aT⟩ ?_ ?_;rotate_left;intro w' h;go_simp;rfl;try go_simp
                refine Dl 22 ?_;go_wp2_with fail
                go_meet;exact ⟨a',c',G+1,_,ax,fG a5.o _,by omega,a9⟩
              · skip;go_simp;go_at_call 24;with_reducible refine gc (cx.o _) ?_
                rintro e w2 ⟨rfl,rfl⟩;refine l _ _ (λ_=>a0) ?_;clear l K;go_simp;refine cH (i:=2) (j:=12) rfl rfl (by kernel_rfl) rfl rfl (λK l=>?_) (λK l=>?_)
                · go_simp;obtain ⟨T,a6⟩:=Qe ((wc.alloc (bk #[S [48,48],S [48,52],S [49,120]] 9)).drew);have H:Bw wc T:=by rw [<- a6];exact ((gb _ wc).alloc (fx _) _).drew
                  have ac:wc.grownBy T (fr r G t).ownBlock:=⟨H.os,H.tape,H.output,H.size,λk I _=>H.block k I⟩;obtain ⟨C,av⟩:=Qe wc.heap.size;have a3:T.heap[C]? =X (bk #[S [48,48],S [48,52],S [49,120]] 9 (0,0)):=by rw [<- a6, <- av];exact ft wc _
                  have c7:wc.heap.size<=C:=by rw [<- av];exact fx _
                  rw [av,a6];clear a6;refine l _ _ (λ_=>ac) ?_;clear l K;go_simp;refine eR (λW=>wc.grownBy W (fr r G t).ownBlock/\W.heap[C]? =X (bk #[S [48,48],S [48,52],S [49,120]] 9 (0,0))) (λW h=>h.1) _ _ _ _ ?_;have b5:Hid (∀W:gi,(wc.grownBy W (fr r G t).ownBlock/\W.heap[C]? =X (bk #[S [48,48],S [48,52],S [49,120]] 9 (0,0)))->W.cell? ⟨C,ay,Y⟩=X (S iv)):=λW h=>bs W C h.2;have u:=tkL [6,7];repeat (refine tkI u ?_ rfl ⟨ac,a3⟩ ?_ ?_;rotate_left;intro w' h;have h7:=b5 w' h;go_simp;rfl;(try go_simp);replace u:=tkO u)
                  clear u;refine Dp 12 λK l=>?_;go_simp;go_at_call 24;with_reducible refine gc (bO.o _) ?_
                  rintro e w2 ⟨rfl,rfl⟩;refine l _ _ (λ_=>⟨ac,a3⟩) ?_;clear l K;go_simp;have u:=tkL [13,14,15];repeat (refine tkI u ?_ rfl ⟨ac,a3⟩ ?_ ?_;rotate_left;intro w' h;obtain ⟨h0,h1,h2⟩:=ao w' h.1;go_simp;rfl;(try go_simp);replace u:=tkO u)
                  clear u;refine Dp 17 λK l=>?_;go_simp;obtain ⟨E,D⟩:=Qe (T.alloc (bk #[J fl 97,S A,J fl 99,S [98,121]] 120));have z:Bw wc E:=by rw [<- D];exact H.alloc H.size _
                  have M:wc.grownBy E (fr r G t).ownBlock:=⟨z.os,z.tape,z.output,z.size,λk I _=>z.block k I⟩;obtain ⟨O,L⟩:=Qe T.heap.size;have al:E.heap[O]? =X (bk #[J fl 97,S A,J fl 99,S [98,121]] 120 (0,0)):=by rw [<- D, <- L];exact ft T _
                  have b7:wc.heap.size<=O:=by rw [<- L];exact H.size
                  have a7:E.heap[C]? =X (bk #[S [48,48],S [48,52],S [49,120]] 9 (0,0)):=by rw [<- D,fz _ _ _ (ae a3)];exact a3
                  rw [L,D];clear D;refine l _ _ (λ_=>⟨M,a7⟩) ?_;clear l K;go_simp;refine tk 18 ?_ rfl ⟨M,a7⟩ ?_ ?_;rotate_left;intro w' h;go_simp;rfl;try go_simp
                  have a2:=gL (c1:=97) (t1:=A) (c2:=99) (t2:=[98,121]) (lo:=w.heap.size+3) (g:=(fr r G t).ownBlock) al (by have:=y.o.lo;omega) (λe=>by have:=ev y.o.own e;omega);obtain ⟨a',c',w8,F,a1,a4,b2,b3,V⟩:=y.app z a5.o rfl aS ⟨ck,iv,[],[⟨97,A⟩,⟨99,[98,121]⟩]⟩ _ a2;dsimp only [ck] at F;have ad:=Z F;have a9:=Z V;have aT:w8.heap[C]? =X (bk #[S [48,48],S [48,52],S [49,120]] 9 (0,0)):=(a4.block C (ae a7) (λe=>by have:=ev y.o.own e.symm;omega)).trans a7;have b8:(E.alloc (bk #[S ck,S iv,S [],fc (X ⟨O,0,Y⟩) 2 2] 123)).heap[C]? =X (bk #[S [48,48],S [48,52],S [49,120]] 9 (0,0)):=by rw [fz _ _ _ (ae a7)];exact a7
                  clear F V a4 a2;refine Dp 19 λK l=>?_;go_simp;refine l _ _ (λ_=>⟨M.trans ((fy _ _ Y).but _),b8⟩) ?_;clear l K;go_simp;refine Dp 20 λK l=>?_;refine bM rfl rfl rfl ad.o ?_;refine l _ _ (λ_=>⟨a1,aT⟩) ?_;clear l K;go_simp;refine tk 21 ?_ rfl ⟨a1,aT⟩ ?_ ?_;rotate_left;intro w' h;go_simp;rfl;try go_simp
                  refine Dl 22 ?_;go_wp2_with fail
                  go_meet;exact ⟨a',c',G+1,_,ax,fG a5.o _,by omega,a9⟩
                · skip;go_simp;go_at_call 24;with_reducible refine gc (bO.o _) ?_
                  rintro e w2 ⟨rfl,rfl⟩;refine l _ _ (λ_=>a0) ?_;clear l K;go_simp;refine Qb [13,14,15] a0 ao ?_;refine cH (i:=2) (j:=17) rfl rfl (by kernel_rfl) rfl rfl (λK l=>?_) (λK l=>?_)
                  · go_simp;obtain ⟨T,a6⟩:=Qe ((wc.alloc (bk #[S [48,48],S [48,52],S [49,120]] 9)).drew);have H:Bw wc T:=by rw [<- a6];exact ((gb _ wc).alloc (fx _) _).drew
                    have ac:wc.grownBy T (fr r G t).ownBlock:=⟨H.os,H.tape,H.output,H.size,λk I _=>H.block k I⟩;obtain ⟨C,av⟩:=Qe wc.heap.size;have a3:T.heap[C]? =X (bk #[S [48,48],S [48,52],S [49,120]] 9 (0,0)):=by rw [<- a6, <- av];exact ft wc _
                    have c7:wc.heap.size<=C:=by rw [<- av];exact fx _
                    rw [av,a6];clear a6;refine l _ _ (λ_=>ac) ?_;clear l K;go_simp;refine eR (λW=>wc.grownBy W (fr r G t).ownBlock/\W.heap[C]? =X (bk #[S [48,48],S [48,52],S [49,120]] 9 (0,0))) (λW h=>h.1) _ _ _ _ ?_;have b5:Hid (∀W:gi,(wc.grownBy W (fr r G t).ownBlock/\W.heap[C]? =X (bk #[S [48,48],S [48,52],S [49,120]] 9 (0,0)))->W.cell? ⟨C,ay,Y⟩=X (S iv)):=λW h=>bs W C h.2;have u:=tkL [6,7];repeat (refine tkI u ?_ rfl ⟨ac,a3⟩ ?_ ?_;rotate_left;intro w' h;have h7:=b5 w' h;go_simp;rfl;(try go_simp);replace u:=tkO u)
                    clear u;refine Dp 17 λK l=>?_;go_simp;obtain ⟨E,D⟩:=Qe (T.alloc (bk #[J fl 97,S A,J fl 99,S [98,121]] 120));have z:Bw wc E:=by rw [<- D];exact H.alloc H.size _
                    have M:wc.grownBy E (fr r G t).ownBlock:=⟨z.os,z.tape,z.output,z.size,λk I _=>z.block k I⟩;obtain ⟨O,L⟩:=Qe T.heap.size;have al:E.heap[O]? =X (bk #[J fl 97,S A,J fl 99,S [98,121]] 120 (0,0)):=by rw [<- D, <- L];exact ft T _
                    have b7:wc.heap.size<=O:=by rw [<- L];exact H.size
                    have a7:E.heap[C]? =X (bk #[S [48,48],S [48,52],S [49,120]] 9 (0,0)):=by rw [<- D,fz _ _ _ (ae a3)];exact a3
                    rw [L,D];clear D;refine l _ _ (λ_=>⟨M,a7⟩) ?_;clear l K;go_simp;refine tk 18 ?_ rfl ⟨M,a7⟩ ?_ ?_;rotate_left;intro w' h;go_simp;rfl;try go_simp
                    have a2:=gL (c1:=97) (t1:=A) (c2:=99) (t2:=[98,121]) (lo:=w.heap.size+3) (g:=(fr r G t).ownBlock) al (by have:=y.o.lo;omega) (λe=>by have:=ev y.o.own e;omega);obtain ⟨a',c',w8,F,a1,a4,b2,b3,V⟩:=y.app z a5.o rfl aS ⟨ck,iv,[],[⟨97,A⟩,⟨99,[98,121]⟩]⟩ _ a2;dsimp only [ck] at F;have ad:=Z F;have a9:=Z V;have aT:w8.heap[C]? =X (bk #[S [48,48],S [48,52],S [49,120]] 9 (0,0)):=(a4.block C (ae a7) (λe=>by have:=ev y.o.own e.symm;omega)).trans a7;have b8:(E.alloc (bk #[S ck,S iv,S [],fc (X ⟨O,0,Y⟩) 2 2] 123)).heap[C]? =X (bk #[S [48,48],S [48,52],S [49,120]] 9 (0,0)):=by rw [fz _ _ _ (ae a7)];exact a7
                    clear F V a4 a2;refine Dp 19 λK l=>?_;go_simp;refine l _ _ (λ_=>⟨M.trans ((fy _ _ Y).but _),b8⟩) ?_;clear l K;go_simp;refine Dp 20 λK l=>?_;refine bM rfl rfl rfl ad.o ?_;refine l _ _ (λ_=>⟨a1,aT⟩) ?_;clear l K;go_simp;refine tk 21 ?_ rfl ⟨a1,aT⟩ ?_ ?_;rotate_left;intro w' h;go_simp;rfl;try go_simp
                    refine Dl 22 ?_;go_wp2_with fail
                    go_meet;exact ⟨a',c',G+1,_,ax,fG a5.o _,by omega,a9⟩
                  · skip;go_simp;obtain ⟨E,D⟩:=Qe ((wc.alloc (bk #[J fl 97,S A,J fl 99,S [98,121]] 120)).drew);have z:Bw wc E:=by rw [<- D];exact ((gb _ wc).alloc (fx _) _).drew
                    have M:wc.grownBy E (fr r G t).ownBlock:=⟨z.os,z.tape,z.output,z.size,λk I _=>z.block k I⟩;obtain ⟨O,L⟩:=Qe wc.heap.size;have al:E.heap[O]? =X (bk #[J fl 97,S A,J fl 99,S [98,121]] 120 (0,0)):=by rw [<- D, <- L];exact ft wc _
                    have b7:wc.heap.size<=O:=by rw [<- L];exact fx _
                    rw [L,D];clear D;refine l _ _ (λ_=>M) ?_;clear l K;go_simp;refine Dp 2 λK l=>?_;go_simp;obtain ⟨T,a6⟩:=Qe (E.alloc (bk #[S [48,48],S [48,52],S [49,120]] 9));have H:Bw wc T:=by rw [<- a6];exact z.alloc z.size _
                    have ac:wc.grownBy T (fr r G t).ownBlock:=⟨H.os,H.tape,H.output,H.size,λk I _=>H.block k I⟩;obtain ⟨C,av⟩:=Qe E.heap.size;have a3:T.heap[C]? =X (bk #[S [48,48],S [48,52],S [49,120]] 9 (0,0)):=by rw [<- a6, <- av];exact ft E _
                    have c7:wc.heap.size<=C:=by rw [<- av];exact z.size
                    have eg:T.heap[O]? =X (bk #[J fl 97,S A,J fl 99,S [98,121]] 120 (0,0)):=by rw [<- a6,fz _ _ _ (ae al)];exact al
                    rw [av,a6];clear a6;refine l _ _ (λ_=>ac) ?_;clear l K;go_simp;refine eR (λW=>wc.grownBy W (fr r G t).ownBlock/\W.heap[C]? =X (bk #[S [48,48],S [48,52],S [49,120]] 9 (0,0))) (λW h=>h.1) _ _ _ _ ?_;have b5:Hid (∀W:gi,(wc.grownBy W (fr r G t).ownBlock/\W.heap[C]? =X (bk #[S [48,48],S [48,52],S [49,120]] 9 (0,0)))->W.cell? ⟨C,ay,Y⟩=X (S iv)):=λW h=>bs W C h.2;have u:=tkL [6,7];repeat (refine tkI u ?_ rfl ⟨ac,a3⟩ ?_ ?_;rotate_left;intro w' h;have h7:=b5 w' h;go_simp;rfl;(try go_simp);replace u:=tkO u)
                    clear u;refine tk 18 ?_ rfl ⟨ac,a3⟩ ?_ ?_;rotate_left;intro w' h;go_simp;rfl;try go_simp
                    have a2:=gL (c1:=97) (t1:=A) (c2:=99) (t2:=[98,121]) (lo:=w.heap.size+3) (g:=(fr r G t).ownBlock) eg (by have:=y.o.lo;omega) (λe=>by have:=ev y.o.own e;omega);obtain ⟨a',c',w8,F,a1,a4,b2,b3,V⟩:=y.app H a5.o rfl aS ⟨ck,iv,[],[⟨97,A⟩,⟨99,[98,121]⟩]⟩ _ a2;dsimp only [ck] at F;have ad:=Z F;have a9:=Z V;have aT:w8.heap[C]? =X (bk #[S [48,48],S [48,52],S [49,120]] 9 (0,0)):=(a4.block C (ae a3) (λe=>by have:=ev y.o.own e.symm;omega)).trans a3;have b8:(T.alloc (bk #[S ck,S iv,S [],fc (X ⟨O,0,Y⟩) 2 2] 123)).heap[C]? =X (bk #[S [48,48],S [48,52],S [49,120]] 9 (0,0)):=by rw [fz _ _ _ (ae a3)];exact a3
                    clear F V a4 a2;refine Dp 19 λK l=>?_;go_simp;refine l _ _ (λ_=>⟨ac.trans ((fy _ _ Y).but _),b8⟩) ?_;clear l K;go_simp;refine Dp 20 λK l=>?_;refine bM rfl rfl rfl ad.o ?_;refine l _ _ (λ_=>⟨a1,aT⟩) ?_;clear l K;go_simp;refine tk 21 ?_ rfl ⟨a1,aT⟩ ?_ ?_;rotate_left;intro w' h;go_simp;rfl;try go_simp
                    refine Dl 22 ?_;go_wp2_with fail
                    go_meet;exact ⟨a',c',G+1,_,ax,fG a5.o _,by omega,a9⟩
           case rest=>
            obtain ⟨r,t,n3,b0,dy,bY,eQ,a8⟩:=hcut;clear y bT;have y:=a8;clear a8;have x5:wc.cell? ⟨w.heap.size,5,Y⟩=X (J U f):=(aa y.arg 5).trans rfl;go_upto_if 116 with fail
            clear x5;go_cut [] (λwx=>∃(r:Option Addr) (t n4:Nat) (bc:List af),Hid (bc=b0++eF f)/\Hid (bc.length=n4)/\n4<=7/\Hid (MdI w.heap.size w wx ⟨a,b,c,d,e,f⟩ kd (fc r n4 t) bc [(N,yearsL),(Y2,booksL),(Y3,namesL),(Y4,titlesL)]))
            case first=>
             by_cases hf3:f.tmod 3=0
             · have ax:Hid (b0=b0++eF f):=by unfold Hid eF;rw [if_neg (by simp [hf3])];simp
               go_wp2_with fail
               go_meet;exact ⟨r,t,n3,b0,ax,bY,by omega,y⟩
             · obtain ⟨mf,ch,lf⟩:=cG f 8 (by omega);have dn:Hid (∀W,gt prog 24 #[J U f,J U 8] W λe w'=>e=fn (J U (mf:Int))/\W=w'):=dl f 8 mf (by omega) (by omega) ch;obtain ⟨A,au⟩:=Qe (pick yearsL f);have b4:Hid (yearsL.getD mf []=A):=by unfold Hid;rw [<- au];exact (fC yearsL _ 8 mf rfl ch).symm
               have ax:Hid (b0++[⟨lJ,[32,32],[],[⟨97,[80,97,114,105,115,32,49,57,48,48]⟩,⟨99,A⟩]⟩]=b0++eF f):=by unfold Hid eF;rw [if_pos hf3,au]
               clear ch au;have ao:Hid (∀W,wc.grownBy W (fr r n3 t).ownBlock->W.cell? ⟨w.heap.size,5,Y⟩=X (J U f)/\W.cell? ⟨w.heap.size+2,2,Y⟩=X (fc r n3 t)/\W.cell? ⟨N,mf,Y⟩=X (S A)):=λW hW=>by have hs:=y.s hW;refine ⟨(aa hs.arg 5).trans rfl,(aa hs.rcd 2).trans rfl,?_⟩;have:=hs.at (by simp:(N,yearsL)∈[(N,yearsL),(Y2,booksL),(Y3,namesL),(Y4,titlesL)]) (m:=mf) (by exact lf);rw [b4.o] at this;exact this
               have ib:(mf:Int)<8:=by omega
               have aS:n3<=1000:=by omega
               have a5:=bY;have a0:wc.grownBy wc.drew (fr r n3 t).ownBlock:=⟨rfl,rfl,rfl,fx _,λ_ _ _=>rfl⟩;have bw:Bw wc wc.drew:=(gb _ wc).drew;go_wp2_with fail
               refine wT (λW=>wc.grownBy W (fr r n3 t).ownBlock) 15 ?_;refine Qb [0,2,3,4,1,5] a0 ao ?_;refine Dp 6 λK l=>?_;go_simp;go_at_call 24;with_reducible refine gc (dn.o _) ?_
               rintro e w2 ⟨rfl,rfl⟩;refine l _ _ (λ_=>a0) ?_;clear l K;go_simp;refine Qb [7,8,9] a0 ao ?_;refine Dp 10 λK l=>?_;go_simp;obtain ⟨E,D⟩:=Qe ((wc.alloc (bk #[J fl 97,S [80,97,114,105,115,32,49,57,48,48],J fl 99,S A] 120)).drew);have z:Bw wc E:=by rw [<- D];exact ((gb _ wc).alloc (fx _) _).drew
               have M:wc.grownBy E (fr r n3 t).ownBlock:=⟨z.os,z.tape,z.output,z.size,λk I _=>z.block k I⟩;obtain ⟨O,L⟩:=Qe wc.heap.size;have al:E.heap[O]? =X (bk #[J fl 97,S [80,97,114,105,115,32,49,57,48,48],J fl 99,S A] 120 (0,0)):=by rw [<- D, <- L];exact ft wc _
               have b7:wc.heap.size<=O:=by rw [<- L];exact fx _
               rw [L,D];clear D;refine l _ _ (λ_=>M) ?_;clear l K;go_simp;refine Qa [11] M ?_
               have a2:=gL (c1:=97) (t1:=[80,97,114,105,115,32,49,57,48,48]) (c2:=99) (t2:=A) (lo:=w.heap.size+3) (g:=(fr r n3 t).ownBlock) al (by have:=y.o.lo;omega) (λe=>by have:=ev y.o.own e;omega);obtain ⟨a',c',w8,F,a1,a4,b2,b3,V⟩:=y.app z a5.o rfl aS ⟨lJ,[32,32],[],[⟨97,[80,97,114,105,115,32,49,57,48,48]⟩,⟨99,A⟩]⟩ _ a2;dsimp only [lJ] at F;have ad:=Z F;have a9:=Z V;clear F V a4 a2;refine Dp 12 λK l=>?_;go_simp;refine l _ _ (λ_=>M.trans ((fy _ _ Y).but _)) ?_;clear l K;go_simp;refine Dp 13 λK l=>?_;refine bM rfl rfl rfl ad.o ?_;refine l _ _ (λ_=>a1) ?_;clear l K;go_simp;refine Qa [14] a1 ?_
               refine Dl 15 ?_;go_wp2_with fail
               go_meet;exact ⟨a',c',n3+1,_,ax,fG a5.o _,by omega,a9⟩
            case rest=>
             obtain ⟨r,t,n4,bc,dz,e3,ee,a8⟩:=hcut;clear y bY;have y:=a8;clear a8;have r0:wc.cell? ⟨w.heap.size+2,0,Y⟩=X (J fl kd.toNat):=(aa y.rcd 0).trans rfl;have r1:wc.cell? ⟨w.heap.size+2,1,Y⟩=X (J fl 109):=(aa y.rcd 1).trans rfl;have r2:wc.cell? ⟨w.heap.size+2,2,Y⟩=X (fc r n4 t):=(aa y.rcd 2).trans rfl;have y0:wc.cell? ⟨w.heap.size+1,0,Y⟩=X (J fl 0):=(aa y.res 0).trans rfl;have y1:wc.cell? ⟨w.heap.size+1,1,Y⟩=X (J fl 0):=(aa y.res 1).trans rfl;have y2:wc.cell? ⟨w.heap.size+1,2,Y⟩=X (fc Y 0 0):=(aa y.res 2).trans rfl;have z0:=ab y.res 0;have z1:=ab y.res 1;have z2:=ab y.res 2;have e7:Hid (R.fields=bc):=by unfold Hid;rw [<- HR.o,dz.o,dy.o,dx.o,ds.o, <- dp.o];rfl
             go_wp2_with fail
             refine bodyPost_ret (v:= .agg #[J fl kd.toNat,J fl 109,fc r n4 t]) (by rw [cT rfl];go_simp) rfl ?_;have e8:Bw w (((wc.setCell ⟨w.heap.size+1,0,Y⟩ (J fl kd.toNat)).setCell ⟨w.heap.size+1,1,Y⟩ (J fl 109)).setCell ⟨w.heap.size+1,2,Y⟩ (fc r n4 t)):=((y.o.b.setCell (p:=⟨w.heap.size+1,0,Y⟩) (by simp) _).setCell (p:=⟨w.heap.size+1,1,Y⟩) (by simp) _).setCell (p:=⟨w.heap.size+1,2,Y⟩) (by simp) _;rw [e4.o,e7.o,e3.o];refine ⟨r,t,rfl,?_,e8⟩;have ho:=y.o.own.keep (w':=(((wc.setCell ⟨w.heap.size+1,0,Y⟩ (J fl kd.toNat)).setCell ⟨w.heap.size+1,1,Y⟩ (J fl 109)).setCell ⟨w.heap.size+1,2,Y⟩ (fc r n4 t))) (λk I _=>by rw [gf _ _ _ _ (by simp;omega),gf _ _ _ _ (by simp;omega),gf _ _ _ _ (by simp;omega)]) (by simp);exact ho.fields (by omega)
end
end Go.Proofs.YtjcimanddakkaaaGreatDoor
