/- Lemmas. -/
import Derived.Test.YtjcimanddakkaaaGreatDoorCQ29
set_option maxRecDepth 100000
set_option maxHeartbeats 8000000
namespace Go.Proofs.YtjcimanddakkaaaGreatDoor
open _root_.Option renaming some→X,none→Y
open Go.Obj renaming cells→bk
open Go.Value renaming slice→fb,int→J,pointer→fn
open Go.IntKind renaming u8→fc,i64→U
open Go.Ending renaming returned→fl
open Go.Lib renaming hid→Z
open Tryz
open Go.Value renaming slice→fp
open Go.World renaming alloc_heap_new→fr,grownBy_alloc→fx
open _root_.Nat renaming le_refl→ft
open Go.RowKit.Below renaming heap_alloc→fy,refl→fz,heap_setCell→gf
open Go.Calls renaming mono→gb
open _root_.Int renaming tdiv_eq_ediv_of_nonneg→gd
open Go renaming World→gi,Value→gq,Calls→gt
open Go.IntWalk renaming i64_in→gn
open Go.Builtin renaming append_→gp
open _root_.List renaming length_append→gs
open Go.Addr renaming add→gx
section
open Go.RowKit Go.Maps Go.Shelf
structure MdI(B:Nat)(w0 wr:gi)(q:Six)(kd:UInt8)(v:gq)(fs:List af)(ls:List (Nat×List Bs)):Prop where
 b:Below B w0 wr
 lo:B+3<=wr.heap.size
 arg:wr.heap[B]?=some (.cells #[.int .i64 q.a,.int .i64 q.b,.int .i64 q.c,.int .i64 q.d,.int .i64 q.e,.int .i64 q.f] 45 (0,0))
 res:wr.heap[B+1]?=some (.cells #[.int .u8 0,.int .u8 0,.slice none 0 0] 62 (0,0))
 rcd:wr.heap[B+2]?=some (.cells #[.int .u8 kd.toNat,.int .u8 109,v] 62 (0,0))
 own:bL (B+3) wr v fs
 str:∀p∈ls,B+3<=p.1/\wr.heap[p.1]?=some (.cells (p.2.map S).toArray 9 (0,0))
theorem rD{lo:Nat}{w:gi}{v:gq}{fs:List af}(h:bL lo w v fs){g:Nat}(c:v.ownBlock=X g):lo<=g/\∃d,w.heap[g]?=X (bk d 123 (0,0)):=by
 obtain⟨ps,_,_,b⟩:=h.ex;exact⟨(b.lt g c).1,aH b c⟩
structure MdS(B:Nat)(W:gi)(q:Six)(kd:UInt8)(v:gq)(ls:List (Nat×List Bs)):Prop where
 arg:W.heap[B]?=some (.cells #[.int .i64 q.a,.int .i64 q.b,.int .i64 q.c,.int .i64 q.d,.int .i64 q.e,.int .i64 q.f] 45 (0,0))
 rcd:W.heap[B+2]?=some (.cells #[.int .u8 kd.toNat,.int .u8 109,v] 62 (0,0))
 str:∀p∈ls,W.heap[p.1]?=some (.cells (p.2.map S).toArray 9 (0,0))
section
variable {B:Nat} {w0 wr W:gi} {q:Six} {kd:UInt8} {v:gq} {fs:List af} {ls:List (Nat×List Bs)}
theorem MdI.old(h:MdI B w0 wr q kd v fs ls)(f:wr.grownBy W v.ownBlock){k:Nat}{c:Array gq}{t:TypeId}(b:wr.heap[k]?=X (bk c t (0,0)))(g:t≠123):W.heap[k]?=X (bk c t (0,0)):=
 (f.block k (ae b) (λe=>by
  obtain⟨_,i,d⟩:=rD h.own e.symm
  exact dp b d g rfl)).trans b
theorem MdI.s(h:MdI B w0 wr q kd v fs ls)(b:wr.grownBy W v.ownBlock):MdS B W q kd v ls:=
 ⟨h.old b h.arg (by decide),h.old b h.rcd (by decide),λp c=>h.old b (h.str p c).2 (by decide)⟩
theorem MdI.self(h:MdI B w0 wr q kd v fs ls):MdS B wr q kd v ls:=⟨h.arg,h.rcd,λp b=>(h.str p b).2⟩
theorem MdS.at(h:MdS B W q kd v ls){b:Nat}{l:List Bs}(c:(b,l)∈ls){m:Nat}(d:m<l.length):W.cell? ⟨b,m,Y⟩=X (S (l.getD m [])):=by
 rw[aa (h.str _ c) m];simp[List.getD_eq_getElem?_getD,d]
theorem MdI.keep(h:MdI B w0 wr q kd v fs ls)(c:Bw wr W):MdI B w0 W q kd v fs ls:=
 ⟨h.b.trans (c.mono (by have:=h.lo;omega)),by have:=c.size;have:=h.lo;omega,(c.block _ (ae h.arg)).trans h.arg,(c.block _ (ae h.res)).trans h.res,(c.block _ (ae h.rcd)).trans h.rcd,
  h.own.keep (λk _ e=>c.block k e) c.size,λp d=>⟨(h.str p d).1,(c.block _ (ae (h.str p d).2)).trans (h.str p d).2⟩⟩
theorem MdI.strs(h:MdI B w0 wr q kd v fs ls)(l:List Bs):MdI B w0 (wr.alloc (.cells (l.map S).toArray 9)) q kd v fs (ls++[(wr.heap.size,l)]):=by
 have c:=h.keep ((fz _ wr).alloc (ft _) (.cells (l.map S).toArray 9));refine⟨c.b,c.lo,c.arg,c.res,c.rcd,c.own,λp d=>?_⟩;rcases List.mem_append.1 d with d|d
 .exact c.str p d
 rw[List.mem_singleton]at d;subst d;exact⟨h.lo,fr wr _⟩
end
theorem vF(w:gi)(x y z u:gq)(t:TypeId):∀j v,[x,y,z,u][j]?=X v->(w.alloc (bk #[x,y,z,u] t)).cell? ((⟨w.heap.size,0,Y⟩:Addr).add j)=X v:=by
 intro j v b;match j,b with
 |0,b=>simp at b;subst b;simp[gx]
 |1,b=>simp at b;subst b;simp[gx]
 |2,b=>simp at b;subst b;simp[gx]
 |3,b=>simp at b;subst b;simp[gx]
theorem CT(lo:Nat)(w1:gi)(v:gq)(n:Nat)(f:List gq)(t:w1.ownsRow lo 123 4 v n f)(hn:n<=1000000)(C:lo<=w1.heap.size)(a b c d:gq)(l:a.oneCell'=true)(m:b.oneCell'=true)(p:c.oneCell'=true)(r:d.oneCell'=true):
 ∃e w',(gp #[60,60] 60 #[v,fb (X ⟨w1.heap.size,0,Y⟩) 1 1]).run prog (w1.alloc (bk #[a,b,c,d] 123))=.ok e w'/\w'.ownsRow lo 123 4 e (n+1) (f++[a,b,c,d])/\(w1.alloc (bk #[a,b,c,d] 123)).grownBy w' v.ownBlock/\
  (e.ownBlock=v.ownBlock∨e.ownBlock=X (w1.heap.size+1)):=by
 obtain⟨A,s,x,y,z⟩:=info_parts Cw
 obtain⟨e,w',h,i,j,_,k⟩:=run_append_own_at (P:=prog) (w1.alloc (bk #[a,b,c,d] 123)) lo 60 60 123 A (.agg #[.string ⟨#[]⟩,.string ⟨#[]⟩,.string ⟨#[]⟩,fb Y 0 0]) 4 72 underlying60 s x y z rfl (by decide) v n f (World.ownsRow.alloc t _) ⟨w1.heap.size,0,Y⟩ 1 1 [a,b,c,d] rfl
  (vF w1 a b c d 123) (by
   intro u g
   simp only[List.mem_cons,List.not_mem_nil,or_false]at g
   rcases g with rfl|rfl|rfl|rfl
   .exact l
   .exact m
   .exact p
   .exact r) (by unfold maxLen;omega) (by omega) (by simp;omega)
 exact⟨e,w',h,i,j,by simpa using k⟩
theorem MdI.app{B:Nat}{w0 wr W:gi}{q:Six}{kd:UInt8}{v:gq}{fs:List af}{ls:List (Nat×List Bs)}(h:MdI B w0 wr q kd v fs ls)(r:Bw wr W){n m:Nat}(L:fs.length=n)(N:n+1=m)(hn:n<=1000)(f:af)(d:gq)(D:bC (B+3) v.ownBlock W d f.subs):
 ∃(s:Option Addr)(t:Nat)(j:gi),(gp #[60,60] 60 #[v,fb (X ⟨W.heap.size,0,Y⟩) 1 1]).run prog (W.alloc (bk #[S f.tag,S f.ind,S f.data,d] 123))=.ok (fb s (m) t) j/\
  wr.grownBy j v.ownBlock/\W.grownBy j v.ownBlock/\j.cell? ⟨B+2,2,Y⟩=X v/\j.frozen? ⟨B+2,2,Y⟩=false/\MdI B w0 (j.setCell ⟨B+2,2,Y⟩ (fb s (m) t)) q kd (fb s (m) t) (fs++[f]) ls:=by
 subst L;subst N;obtain⟨ps,p1,p2,E⟩:=h.own.ex;have a1:=h.lo;have z:wr.grownBy W v.ownBlock:=⟨r.os,r.tape,r.output,r.size,λk i _=>r.block k i⟩;have T:=r.size;have I:d.oneCell'=true:=by obtain⟨a,c,rfl,_⟩:=D;rfl
 have a0:W.ownsRow (B+3) 123 4 v fs.length (ps.flatMap fieldCells):=ai E (λg z=>r.block g (E.lt g z).2);obtain⟨v',j,F,C,y,G⟩:=CT (B+3) W v fs.length (ps.flatMap fieldCells) a0 (by omega) (by omega) (S f.tag) (S f.ind) (S f.data) d rfl rfl rfl I;obtain⟨s,t,rfl⟩:=aQ C;have l:wr.grownBy j v.ownBlock:=(z.trans ((fx _ _ Y).but _)).trans y;have H:W.grownBy j v.ownBlock:=((fx _ _ Y).but _).trans y;have O:∀k,k<wr.heap.size->W.heap[k]?=wr.heap[k]?:=r.block;have R:=bL.app (w1:=W.alloc (bk #[S f.tag,S f.ind,S f.data,d] 123)) f d ps p1 (λp u=>((p2 p u).step (λk _ i _=>O k i) T (.inl rfl)).step (λk _ i _=>fy W _ k i) (by simp) (.inl rfl)) (D.step (λk _ i _=>fy W _ k i) (by simp) (.inl rfl)) C y (by simpa using G);have A:=h.old l h.rcd (by decide);refine⟨s,t,j,F,l,H,aa A 2,ab A 2,?_⟩;have x:∀k,k≠B+2->(j.setCell ⟨B+2,2,Y⟩ (fb s (fs.length+1) t)).heap[k]?=j.heap[k]?:=λk i=>gf _ _ _ _ i;have V:=l.size;refine⟨?_,by simp;omega,(x B (by omega)).trans (h.old l h.arg (by decide)),(x (B+1) (by omega)).trans (h.old l h.res (by decide)),aq A 2 _,R.keep (λk i _=>x k (by omega)) (by simp),λp u=>⟨(h.str p u).1,(x p.1 (by have:=(h.str p u).1;omega)).trans (h.old l (h.str p u).2 (by decide))⟩⟩;refine Below.setCell (p:=⟨B+2,2,Y⟩) ?_ (by simp) _;exact⟨l.os.trans h.b.os,l.tape.trans h.b.tape,l.output.trans h.b.output,Nat.le_trans h.b.size V,λk i=>by
  have M:k<wr.heap.size:=by omega
  refine(l.block k M (λe=>?_)).trans (h.b.block k i);have:=(rD h.own e.symm).1;omega⟩
theorem et{lo:Nat}{w:gi}{v:gq}{fs:List af}(h:bL lo w v fs){g:Nat}(c:v.ownBlock=X g):g<w.heap.size:=by
 obtain⟨ps,_,_,b⟩:=h.ex;exact(b.lt g c).2
theorem lW{lo:Nat}{g:Option Nat}{W:gi}{b:Nat}{c1:UInt8}{t1:Bs}(h:W.heap[b]?=X (bk #[J fc c1.toNat,S t1] 120 (0,0)))(d:lo<=b)(c:g≠X b):bC lo g W (fb (X ⟨b,0,Y⟩) 1 1) [⟨c1,t1⟩]:=by
 refine⟨_,_,rfl,λ_=>⟨b,0,rfl,d,ae h,c,λj x e=>?_⟩⟩;rw[Nat.zero_add,aa h,<- e];simp[subCells]
theorem gL{lo:Nat}{g:Option Nat}{W:gi}{b:Nat}{c1 c2:UInt8}{t1 t2:Bs}(h:W.heap[b]?=X (bk #[J fc c1.toNat,S t1,J fc c2.toNat,S t2] 120 (0,0)))(d:lo<=b)(c:g≠X b):bC lo g W (fb (X ⟨b,0,Y⟩) 2 2) [⟨c1,t1⟩,⟨c2,t2⟩]:=by
 refine⟨_,_,rfl,λ_=>⟨b,0,rfl,d,ae h,c,λj x e=>?_⟩⟩;rw[Nat.zero_add,aa h,<- e];simp[subCells]
theorem dK{P:Program}{d:Region.Mode}{e:Array Oper}{Q:Exit->Act->gi->Prop}{S:gi->Prop}{z:Nat}(b:gi->Prop)(h:∀w,b w->S w):∀(n:Nat)(listed:Array Bool)(a:Act)(w:gi),anyT P d e Q b z n listed a w->anyT P d e Q S z n listed a w
 |0,_,_,_,h0=>h0
 |n+1,_,_,_,h0=>⟨h0.1,λi g=>wpOp_mono (λf w' c=>⟨λj=>h _ (c.1 j),dK b h n _ f w' c.2⟩) (h0.2 i g)⟩
section
variable {P:Program} {o:Oper} {a:Act} {K:Act->gi->Prop} {Q:Exit->Act->gi->Prop} {w:gi}
theorem cM{s x:Operand}{t:TypeId}(e:o.op=.call {callee:=.builtin .append,args:= #[s,x],argTypes:= #[t,t]}){b c v:gq}(g:a.eval s=b)(h:a.eval x=c){w':gi}(f:(gp #[t,t] o.type #[b,c]).run P w=.ok v w')(d:K (a.put o.dst v) w'):o.wp P a w K Q:=by
 unfold Oper.wp execOp;simp only[e,resolve,invoke,builtin,Sem.run_bind,Sem.run_pure,Result.andThen_ok,List.map_toArray,List.map_cons,List.map_nil,g,h,f];exact d
end
end
section
open Go.RowKit Go.Maps Go.Shelf
theorem cG(n:Int)(M:Nat)(h:0<M):∃m:Nat,n.emod M=m/\m<M:=by
 have b:0<=n.emod M:=Int.emod_nonneg n (by omega);have c:n.emod M<M:=Int.emod_lt_of_pos n (by omega);exact⟨(n.emod M).toNat,(Int.toNat_of_nonneg b).symm,by omega⟩
theorem dr(n:Int)(M m:Nat)(b:1<=M)(c:M<=1000000)(h:n.emod M=m)(W:gi):gt prog 24 #[J U n,J U (M:Int)] W λe w'=>e=fl (J U (m:Int))/\W=w':=by
 refine(iV n M W (by omega) (by omega)).mono ?_;rintro e w'⟨rfl,rfl⟩;rw[h];exact⟨rfl,rfl⟩
theorem fC(l:List Bs)(n:Int)(M m:Nat)(b:l.length=M)(h:n.emod M=m):pick l n=l.getD m []:=by
 unfold pick;rw[b,h];rfl
theorem fG{fs:List af}{n:Nat}(h:fs.length=n)(x:af):Hid ((fs++[x]).length=n+1):=by
 unfold Hid;simp[h]
theorem uV{n:Int}(h:i64B n)(m:Int)(c:m=3∨m=4∨m=5): -4611686018427387904<=n.tdiv m/\n.tdiv m<=4611686018427387904:=by
 unfold i64B at h;rcases Int.le_total 0 n with b|b
 .rw[gd b];rcases c with rfl|rfl|rfl<;>omega
 have d:n.tdiv m= -((-n).tdiv m):=by rw[Int.neg_tdiv];omega
 rw[d,gd (by omega)];rcases c with rfl|rfl|rfl<;>omega
theorem AQ(a b c d e f:Int)(hc:i64B c)(hd:i64B d)(he:i64B e)(w:gi):
 gt prog 83 #[.agg #[J U a,J U b,J U c,J U d,J U e,J U f]] w λe' w'=>∃(r:Option Addr)(t:Nat),e'=fl (.agg #[J fc (madeR ⟨a,b,c,d,e,f⟩).kind.toNat,J fc 109,.slice r (madeR ⟨a,b,c,d,e,f⟩).fields.length t])/\ag w.heap.size w'.heap.size w' (.slice r (madeR ⟨a,b,c,d,e,f⟩).fields.length t) (madeR ⟨a,b,c,d,e,f⟩).fields/\Bw w w':=by
 obtain⟨ma,d9,la⟩:=cG a 5 (by omega);obtain⟨mb,da,lb⟩:=cG b 8 (by omega);have cq:Hid (∀W,gt prog 24 #[J U a,J U 5] W λe w'=>e=fl (J U (ma:Int))/\W=w'):=dr a 5 ma (by omega) (by omega) d9;have cs:Hid (∀W,gt prog 24 #[J U b,J U 8] W λe w'=>e=fl (J U (mb:Int))/\W=w'):=dr b 8 mb (by omega) (by omega) da;obtain⟨kd,bv⟩:∃kd:UInt8,(madeR ⟨a,b,c,d,e,f⟩).kind=kd:=⟨_,rfl⟩;have cy:Hid (kd=if ma=4 then 109 else 97):=by
  unfold Hid;rw[<- bv];unfold madeR;dsimp only;have:a.emod 5=(ma:Int):=d9;rw[this];by_cases h4:ma=4
  .rw[if_pos h4,if_pos (by omega)]
  rw[if_neg h4,if_neg (by omega)]
 obtain⟨b1,hX⟩:=Qe (pick yearsL b);have HX:Hid (yearsL.getD mb []=b1):=by unfold Hid;rw[<- hX];exact(fC yearsL b 8 mb rfl da).symm
 have eQ:b1.length<=12:=by
  rw[<- HX.o];have:∀m,m<8->(yearsL.getD m []).length<=12:=by decide
  exact this mb lb
 have c4:Hid (made008 b=if b.tmod 2=0 then[⟨lV,[],[56,53,48,49,48,49,115]++(b1++[32,32,32,32,120,120]),[]⟩]else[]):=by unfold Hid made008;rw[hX,List.append_assoc]
 obtain⟨w2,b9⟩:=Qe ((w.alloc (bk #[J U a,J U b,J U c,J U d,J U e,J U f] 45)).alloc (bk #[J fc 0,J fc 0,fb Y 0 0] 62));have bd:Bw w w2:=by rw[<- b9];exact((fz _ w).alloc (ft _) _).alloc (by simp) _
 have hA:w2.heap[w.heap.size]?=X (bk #[J U a,J U b,J U c,J U d,J U e,J U f] 45 (0,0)):=by rw[<- b9,fy _ _ _ (by simp)];exact fr w _
 have hB:w2.heap[w.heap.size+1]?=X (bk #[J fc 0,J fc 0,fb Y 0 0] 62 (0,0)):=by rw[<- b9];have:=fr (w.alloc (bk #[J U a,J U b,J U c,J U d,J U e,J U f] 45)) (bk #[J fc 0,J fc 0,fb Y 0 0] 62);rwa[World.size_alloc]at this
 have cm:w2.heap.size=w.heap.size+2:=by rw[<- b9];simp
 have cx:Hid (MdI w.heap.size w (w2.alloc (bk #[J fc kd.toNat,J fc 109,fb Y 0 0] 62)) ⟨a,b,c,d,e,f⟩ kd (fb Y 0 0) [] []):=by have ho:∀k,k<w2.heap.size->(w2.alloc (bk #[J fc kd.toNat,J fc 109,fb Y 0 0] 62)).heap[k]?=w2.heap[k]?:=λk I=>fy _ _ _ I;refine⟨bd.alloc (by omega) _,by simp;omega,(ho _ (by omega)).trans hA,(ho _ (by omega)).trans hB,?_,bL.nil _ _,λp hp=>(by cases hp)⟩;rw[<- cm];exact fr w2 _
 have d0:=Z b9;have HA:=Z hA;have d1:=Z cm;obtain⟨R,hR⟩:=Qe (madeR ⟨a,b,c,d,e,f⟩);have HR:=Z hR;rw[hR]at bv ⊢;have e7:=Z bv;clear b9 bd hA hB cm hX hR bv;go_enter func83,ntmps83;go_upto_region 1 with fail;rw[d0.o];go_cut [3] (λp wx=>p=fn (X ⟨w.heap.size+2,0,Y⟩)/\Hid (MdI w.heap.size w wx ⟨a,b,c,d,e,f⟩ kd (fb Y 0 0) [] []))
 case first=>
  have e0:w2.cell? ⟨w.heap.size,0,Y⟩=X (J U a):=(aa HA.o 0).trans rfl;have I:=cy.o;obtain rfl|rfl|rfl|rfl|rfl:ma=0∨ma=1∨ma=2∨ma=3∨ma=4:=by omega
  all_goals
   first
    |obtain rfl:kd=97:=I
    |obtain rfl:kd=109:=I
   go_wp2_with (go_at_call 24;(refine gb (cq.o _) ?_;rintro e w3⟨rfl,rfl⟩))
   go_meet
   refine⟨?_,cx.o⟩
   rw[d1.o]
 obtain⟨rfl,y⟩:=hcut;clear cx cq HA d0 d1 cy;obtain⟨N,hY⟩:=Qe wc.heap.size;have ex:Hid (w.heap.size+3<=N):=by unfold Hid;rw[<- hY];exact y.o.lo
 go_upto_region 2 with fail;go_cut [4] (λp wx=>p=fb (X ⟨N,0,Y⟩) 8 8/\∃(r:Option Addr)(t:Nat),Hid (MdI w.heap.size w wx ⟨a,b,c,d,e,f⟩ kd (fb r 0 t) [] [(N,yearsL)]))
 case first=> go_wp2_with fail;go_meet;refine⟨rfl,Y,0,?_⟩;have h:=y.strs yearsL;rw[hY]at h;exact h
 obtain⟨rfl,r,t,cP⟩:=hcut;clear hY y;have y:=cP;clear cP;have e1:=(aa y.arg 1).trans rfl;have x1:wc.cell? ⟨N,mb,Y⟩=X (S b1):=by have:=y.self.at (List.mem_singleton.2 rfl:(N,yearsL)∈[(N,yearsL)]) (m:=mb) (by exact lb);rw[HX.o]at this;exact this
 have ib:(mb:Int)<8:=by omega
 go_upto_region 4 with(go_at_call 24;(refine gb (cs.o _) ?_;rintro e w3⟨rfl,rfl⟩))
 go_upto_if 26 with fail;clear e1 x1;go_cut [] (λwx=>∃(r:Option Addr)(t:Nat),Hid (MdI w.heap.size w wx ⟨a,b,c,d,e,f⟩ kd (.slice r (made008 b).length t) (made008 b) [(N,yearsL)]))
 case first=>
  by_cases bd:b.tmod 2=0
  .have a9:Hid (made008 b=[⟨lV,[],[56,53,48,49,48,49,115]++(b1++[32,32,32,32,120,120]),[]⟩]):=by unfold Hid;rw[c4.o,if_pos bd]
   have c2:wc.cell? ⟨w.heap.size+2,2,Y⟩=X (fb r 0 t):=(aa y.rcd 2).trans rfl;obtain⟨a',c',w8,F,a1,a4,b2,b3,V⟩:=y.o.app (W:=wc) (fz _ _) (n:=0) (m:=1) rfl rfl (by omega) ⟨lV,[],56::53::48::49::48::49::115::(b1++[32,32,32,32,120,120]),[]⟩ (fb Y 0 0) ⟨Y,0,rfl,λh=>absurd rfl h⟩;dsimp only at F;have ad:=Z F;have e8:=Z V;clear F V a1 a4;go_wp2_with (at_builtin;refine wpList_plain rfl λK l=>?_;refine cM rfl rfl rfl ad.o ?_;refine l _ _ ?_)
   go_meet;refine⟨a',c',?_⟩;rw[a9.o];exact e8.o
  have a9:Hid (made008 b=[]):=by unfold Hid;rw[c4.o,if_neg bd]
  go_wp2_with fail;go_meet;refine⟨r,t,?_⟩;rw[a9.o];exact y.o
 obtain⟨r,t,a8⟩:=hcut;clear y ib c4 cs;have y:=a8;clear a8;obtain⟨F0,bs⟩:=Qe (made008 b);have f0:F0.length<=1:=by rw[<- bs];unfold made008;split<;>simp
 rw[bs]at y;have dx:=Z bs;clear bs;obtain⟨Y2,d2⟩:=Qe wc.heap.size;go_upto_region 6 with fail;go_cut [6] (λp wx=>p=fb (X ⟨Y2,0,Y⟩) 7 7/\Hid (MdI w.heap.size w wx ⟨a,b,c,d,e,f⟩ kd (fb r F0.length t) F0 [(N,yearsL),(Y2,booksL)]))
 case first=> go_wp2_with fail;go_meet;refine⟨rfl,?_⟩;have h:=y.strs booksL;rw[d2]at h;exact h
 obtain⟨rfl,a8⟩:=hcut;clear y d2;obtain⟨m3,c8,l3⟩:=cG c 3 (by omega);obtain⟨m7,c9,l7⟩:=cG c 7 (by omega);have bw:Hid (∀W,gt prog 24 #[J U c,J U 3] W λe w'=>e=fl (J U (m3:Int))/\W=w'):=dr c 3 m3 (by omega) (by omega) c8;have bA:Hid (∀W,gt prog 24 #[J U c,J U 7] W λe w'=>e=fl (J U (m7:Int))/\W=w'):=dr c 7 m7 (by omega) (by omega) c9;have dd: -4611686018427387904<=c.tdiv 3/\c.tdiv 3<=4611686018427387904:=(by
  unfold i64B at hc;rcases Int.le_total 0 c with h|h
  .rw[gd h];omega
  have h4:c.tdiv 3= -((-c).tdiv 3):=by rw[Int.neg_tdiv];omega
  rw[h4,gd (by omega)];omega)
 obtain⟨c3,c5⟩:=Qe (c.tdiv 3);rw[c5]at dd;obtain⟨cd,b6⟩:∃cd:UInt8,(if m7=6 then(122:UInt8)else 97)=cd:=⟨_,rfl⟩;have cQ:Hid (((m7:Int).tdiv 6=1/\cd=122)∨((m7:Int).tdiv 6=0/\cd=97)):=by
  unfold Hid;rw[gd (by omega),<- b6];by_cases h6:m7=6
  .rw[if_pos h6];exact .inl ⟨by omega,rfl⟩
  rw[if_neg h6];exact .inr ⟨by omega,rfl⟩
 have cp:Hid (∀k:Nat,gu c k=⟨cZ,[32,32],[],[⟨cd,pick booksL (c3+k)⟩]⟩):=λk=>by
  unfold gu;rw[c5,<- b6];have:c.emod 7=(m7:Int):=c9;rw[this];by_cases h6:m7=6
  .rw[if_pos h6,if_pos (by omega)]
  rw[if_neg h6,if_neg (by omega)]
 have cz:Hid (gc c=(List.range m3).map (gu c)):=by unfold Hid gc;have:c.emod 3=(m3:Int):=c8;rw[this];rfl
 clear c8 c9 b6;go_upto_region 8 with fail;go_loopw [7] (λi wr=>∃(k:Nat)(r:Option Addr)(t n:Nat)(fs:List af),i=J U k/\k<=m3/\Hid (fs=F0++(List.range k).map (gu c))/\Hid (fs.length=n)/\n<=1+k/\Hid (MdI w.heap.size w wr ⟨a,b,c,d,e,f⟩ kd (fb r n t) fs [(N,yearsL),(Y2,booksL)])) (λi _=>m3-(intOf i).toNat)
 case atStart=>exact⟨0,r,t,_,F0,rfl,Nat.zero_le _,by simp[Hid],rfl,by omega,a8.o⟩
 obtain⟨k,r,t,n,fs,rfl,I,c0,a5,hn,y⟩:=hrel;have e2:wr.cell? ⟨w.heap.size,2,Y⟩=X (J U c):=(aa y.arg 2).trans rfl;by_cases hlt:k<m3
 .obtain⟨mk,cl,lk⟩:=cG (c3+k) 7 (by omega);have cu:Hid (∀W,gt prog 24 #[J U (c3+(k:Int)),J U 7] W λe w'=>e=fl (J U (mk:Int))/\W=w'):=dr _ 7 mk (by omega) (by omega) cl;obtain⟨A,au⟩:=Qe (pick booksL (c3+k));have b4:Hid (booksL.getD mk []=A):=by unfold Hid;rw[<- au];exact(fC booksL _ 7 mk rfl cl).symm
  have cn:Hid (fs++[⟨cZ,[32,32],[],[⟨cd,A⟩]⟩]=F0++(List.range (k+1)).map (gu c)):=by unfold Hid;rw[c0.o,List.range_succ,List.map_append,List.append_assoc,List.map_singleton,cp.o k,au]
  clear cl au;have ao:Hid (∀W,wr.grownBy W (fp r n t).ownBlock->W.cell? ⟨w.heap.size,2,Y⟩=X (J U c)/\W.cell? ⟨w.heap.size+2,2,Y⟩=X (fb r n t)/\W.cell? ⟨Y2,mk,Y⟩=X (S A)):=λW hW=>by have hs:=y.s hW;refine⟨(aa hs.arg 2).trans rfl,(aa hs.rcd 2).trans rfl,?_⟩;have:=hs.at (by simp:(Y2,booksL)∈[(N,yearsL),(Y2,booksL)]) (m:=mk) (by exact lk);rw[b4.o]at this;exact this
  have ib:(mk:Int)<7:=by omega
  have dc:IntKind.i64.wrap c3=c3:=gn _ (by omega);have b9:IntKind.i64.wrap (c3+(k:Int))=c3+(k:Int):=gn _ (by omega);go_upto_region 10 with(go_at_call 24;(refine gb (bw.o _) ?_;rintro e w3⟨rfl,rfl⟩))
  clear e2;have aS:n<=1000:=by omega
  obtain⟨hq,b6⟩|⟨hq,b6⟩:((m7:Int).tdiv 6=1/\cd=122)∨((m7:Int).tdiv 6=0/\cd=97):=cQ.o
  .subst b6;have a0:wr.grownBy wr.drew (fp r n t).ownBlock:=⟨rfl,rfl,rfl,ft _,λ_ _ _=>rfl⟩;have bt:Bw wr wr.drew:=(fz _ wr).drew;go_wp2_with fail;refine wT (λW=>wr.grownBy W (fp r n t).ownBlock) 22 ?_;refine Qb [0,2,7,8,11,1,3,9,10,12] a0 ao ?_;refine Dp 4 λK l=>?_;go_simp;go_at_call 24;with_reducible refine gb (bA.o _) ?_
   rintro e w2⟨rfl,rfl⟩;refine l _ _ (λ_=>a0) ?_;clear l K;go_simp;refine Qa [5] a0 ?_
   refine bT (i:=6) (v:=J fc 122) rfl (by kernel_rfl) (by kernel_rfl) (by kernel_rfl) (by kernel_rfl) (by decide) (λ_ _ _ h=>h) a0 (Or.inl ⟨by rfl,?_⟩) ?_;focus (intro w' h;go_simp;rfl)
   (try go_simp)
   refine Dp 13 λK l=>?_;go_simp;go_at_call 24;with_reducible refine gb (cu.o _) ?_
   rintro e w2⟨rfl,rfl⟩;refine l _ _ (λ_=>a0) ?_;clear l K;go_simp;refine Qb [14,15,16] a0 ao ?_;refine Dp 17 λK l=>?_;go_simp;obtain⟨E,D⟩:=Qe ((wr.alloc (bk #[J fc 122,S A] 120)).drew);have z:Bw wr E:=by rw[<- D];exact((fz _ wr).alloc (ft _) _).drew
   have M:wr.grownBy E (fp r n t).ownBlock:=⟨z.os,z.tape,z.output,z.size,λk I _=>z.block k I⟩;obtain⟨O,L⟩:=Qe wr.heap.size;have al:E.heap[O]?=X (bk #[J fc 122,S A] 120 (0,0)):=by rw[<- D,<- L];exact fr wr _
   have b7:wr.heap.size<=O:=by rw[<- L];exact ft _
   rw[L,D];clear D;refine l _ _ (λ_=>M) ?_;clear l K;go_simp;refine Qa [18] M ?_
   have a2:=lW (c1:=122) (t1:=A) (lo:=w.heap.size+3) (g:=(fp r n t).ownBlock) al (by have:=y.o.lo;omega) (λe=>by have:=et y.o.own e;omega);obtain⟨a',c',w8,F,a1,a4,b2,b3,V⟩:=y.app z a5.o rfl aS ⟨cZ,[32,32],[],[⟨122,A⟩]⟩ _ a2;dsimp only[cZ]at F;have ad:=Z F;have a9:=Z V;clear F V a4 a2;refine Dp 19 λK l=>?_;go_simp;refine l _ _ (λ_=>M.trans ((fx _ _ Y).but _)) ?_;clear l K;go_simp;refine Dp 20 λK l=>?_;refine cM rfl rfl rfl ad.o ?_;refine l _ _ (λ_=>a1) ?_;clear l K;go_simp;refine Qa [21] a1 ?_
   refine Dl 22 ?_;go_wp2_with fail;go_roundw
   case rel=> refine⟨k+1,a',c',n+1,_,by go_num,hlt,cn,?_,by omega,a9⟩;unfold Hid;rw[gs,a5.o];rfl
   simp[intOf];omega
  subst b6;have a0:wr.grownBy wr.drew (fp r n t).ownBlock:=⟨rfl,rfl,rfl,ft _,λ_ _ _=>rfl⟩;have bt:Bw wr wr.drew:=(fz _ wr).drew;go_wp2_with fail;refine wT (λW=>wr.grownBy W (fp r n t).ownBlock) 22 ?_;refine Qb [0,2,7,8,11,1,3,9,10,12] a0 ao ?_;refine Dp 4 λK l=>?_;go_simp;go_at_call 24;with_reducible refine gb (bA.o _) ?_
  rintro e w2⟨rfl,rfl⟩;refine l _ _ (λ_=>a0) ?_;clear l K;go_simp;refine Qa [5] a0 ?_
  refine bT (i:=6) (v:=J fc 97) rfl (by kernel_rfl) (by kernel_rfl) (by kernel_rfl) (by kernel_rfl) (by decide) (λ_ _ _ h=>h) a0 (Or.inl ⟨by rfl,?_⟩) ?_;focus (intro w' h;go_simp;rfl)
  (try go_simp)
  refine Dp 13 λK l=>?_;go_simp;go_at_call 24;with_reducible refine gb (cu.o _) ?_
  rintro e w2⟨rfl,rfl⟩;refine l _ _ (λ_=>a0) ?_;clear l K;go_simp;refine Qb [14,15,16] a0 ao ?_;refine Dp 17 λK l=>?_;go_simp;obtain⟨E,D⟩:=Qe ((wr.alloc (bk #[J fc 97,S A] 120)).drew);have z:Bw wr E:=by rw[<- D];exact((fz _ wr).alloc (ft _) _).drew
  have M:wr.grownBy E (fp r n t).ownBlock:=⟨z.os,z.tape,z.output,z.size,λk I _=>z.block k I⟩;obtain⟨O,L⟩:=Qe wr.heap.size;have al:E.heap[O]?=X (bk #[J fc 97,S A] 120 (0,0)):=by rw[<- D,<- L];exact fr wr _
  have b7:wr.heap.size<=O:=by rw[<- L];exact ft _
  rw[L,D];clear D;refine l _ _ (λ_=>M) ?_;clear l K;go_simp;refine Qa [18] M ?_
  have a2:=lW (c1:=97) (t1:=A) (lo:=w.heap.size+3) (g:=(fp r n t).ownBlock) al (by have:=y.o.lo;omega) (λe=>by have:=et y.o.own e;omega);obtain⟨a',c',w8,F,a1,a4,b2,b3,V⟩:=y.app z a5.o rfl aS ⟨cZ,[32,32],[],[⟨97,A⟩]⟩ _ a2;dsimp only[cZ]at F;have ad:=Z F;have a9:=Z V;clear F V a4 a2;refine Dp 19 λK l=>?_;go_simp;refine l _ _ (λ_=>M.trans ((fx _ _ Y).but _)) ?_;clear l K;go_simp;refine Dp 20 λK l=>?_;refine cM rfl rfl rfl ad.o ?_;refine l _ _ (λ_=>a1) ?_;clear l K;go_simp;refine Qa [21] a1 ?_
  refine Dl 22 ?_;go_wp2_with fail;go_roundw
  case rel=> refine⟨k+1,a',c',n+1,_,by go_num,hlt,cn,?_,by omega,a9⟩;unfold Hid;rw[gs,a5.o];rfl
  simp[intOf];omega
 have ej:k=m3:=by omega
 subst ej;have es:=bw;have dy:Hid (fs=F0++gc c):=by unfold Hid;rw[cz.o];exact c0.o
 have em:n<=4:=by omega
 obtain⟨Y3,d3⟩:=Qe wr.heap.size;clear c0 cp cz bw bA cQ dd c5 l3 l7 hlt I hn;go_upto_region 11 with(go_at_call 24;(refine gb (es.o _) ?_;rintro e w3⟨rfl,rfl⟩))
 clear e2;go_cut [8] (λp wx=>p=fb (X ⟨Y3,0,Y⟩) 6 6/\Hid (MdI w.heap.size w wx ⟨a,b,c,d,e,f⟩ kd (fb r n t) fs [(N,yearsL),(Y2,booksL),(Y3,namesL)]))
 case first=> go_wp2_with fail;go_meet;refine⟨rfl,?_⟩;have h:=y.strs namesL;rw[d3]at h;exact h
 obtain⟨rfl,a8⟩:=hcut;clear y d3;have y:=a8;clear a8;have x3:wc.cell? ⟨w.heap.size,3,Y⟩=X (J U d):=(aa y.arg 3).trans rfl;go_upto_if 70 with fail;clear x3;go_cut [] (λwx=>∃(r:Option Addr)(t G:Nat)(aC:List af),Hid (aC=fs++eE d)/\Hid (aC.length=G)/\G<=5/\Hid (MdI w.heap.size w wx ⟨a,b,c,d,e,f⟩ kd (fb r G t) aC [(N,yearsL),(Y2,booksL),(Y3,namesL)]))
 case first=>
  by_cases hd4:d.tmod 4=0
  .have ax:Hid (fs=fs++eE d):=by unfold Hid eE;rw[if_neg (by simp[hd4])];simp
   go_wp2_with fail;go_meet;exact⟨r,t,n,fs,ax,a5,by omega,y⟩
  have hz:=uV hd 4 (by omega);obtain⟨d4,d6⟩:=Qe (d.tdiv 4);have hz: -4611686018427387904<=d4/\d4<=4611686018427387904:=by rw[<- d6];exact hz
  obtain⟨md,cb,ld⟩:=cG d4 6 (by omega);have dk:Hid (∀W,gt prog 24 #[J U d4,J U 6] W λe w'=>e=fl (J U (md:Int))/\W=w'):=dr d4 6 md (by omega) (by omega) cb;obtain⟨A,au⟩:=Qe (pick namesL d4);have b4:Hid (namesL.getD md []=A):=by unfold Hid;rw[<- au];exact(fC namesL _ 6 md rfl cb).symm
  have ax:Hid (fs++[⟨dY,[49,32],[],[⟨97,A⟩]⟩]=fs++eE d):=by unfold Hid eE;rw[if_pos hd4,d6,au]
  clear cb au;have ao:Hid (∀W,wc.grownBy W (fp r n t).ownBlock->W.cell? ⟨w.heap.size,3,Y⟩=X (J U d)/\W.cell? ⟨w.heap.size+2,2,Y⟩=X (fb r n t)/\W.cell? ⟨Y3,md,Y⟩=X (S A)):=λW hW=>by have hs:=y.s hW;refine⟨(aa hs.arg 3).trans rfl,(aa hs.rcd 2).trans rfl,?_⟩;have:=hs.at (by simp:(Y3,namesL)∈[(N,yearsL),(Y2,booksL),(Y3,namesL)]) (m:=md) (by exact ld);rw[b4.o]at this;exact this
  have ib:(md:Int)<6:=by omega
  have dc:IntKind.i64.wrap d4=d4:=gn _ (by omega);have aS:n<=1000:=by omega
  have a0:wc.grownBy wc.drew (fp r n t).ownBlock:=⟨rfl,rfl,rfl,ft _,λ_ _ _=>rfl⟩;have bt:Bw wc wc.drew:=(fz _ wc).drew;go_wp2_with fail;refine wT (λW=>wc.grownBy W (fp r n t).ownBlock) 15 ?_;refine Qb [0,2,3,1,4,5] a0 ao ?_;refine Dp 6 λK l=>?_;go_simp;go_at_call 24;with_reducible refine gb (dk.o _) ?_
  rintro e w2⟨rfl,rfl⟩;refine l _ _ (λ_=>a0) ?_;clear l K;go_simp;refine Qb [7,8,9] a0 ao ?_;refine Dp 10 λK l=>?_;go_simp;obtain⟨E,D⟩:=Qe ((wc.alloc (bk #[J fc 97,S A] 120)).drew);have z:Bw wc E:=by rw[<- D];exact((fz _ wc).alloc (ft _) _).drew
  have M:wc.grownBy E (fp r n t).ownBlock:=⟨z.os,z.tape,z.output,z.size,λk I _=>z.block k I⟩;obtain⟨O,L⟩:=Qe wc.heap.size;have al:E.heap[O]?=X (bk #[J fc 97,S A] 120 (0,0)):=by rw[<- D,<- L];exact fr wc _
  have b7:wc.heap.size<=O:=by rw[<- L];exact ft _
  rw[L,D];clear D;refine l _ _ (λ_=>M) ?_;clear l K;go_simp;refine Qa [11] M ?_
  have a2:=lW (c1:=97) (t1:=A) (lo:=w.heap.size+3) (g:=(fp r n t).ownBlock) al (by have:=y.o.lo;omega) (λe=>by have:=et y.o.own e;omega);obtain⟨a',c',w8,F,a1,a4,b2,b3,V⟩:=y.app z a5.o rfl aS ⟨dY,[49,32],[],[⟨97,A⟩]⟩ _ a2;dsimp only[dY]at F;have ad:=Z F;have a9:=Z V;clear F V a4 a2;refine Dp 12 λK l=>?_;go_simp;refine l _ _ (λ_=>M.trans ((fx _ _ Y).but _)) ?_;clear l K;go_simp;refine Dp 13 λK l=>?_;refine cM rfl rfl rfl ad.o ?_;refine l _ _ (λ_=>a1) ?_;clear l K;go_simp;refine Qa [14] a1 ?_
  refine Dl 15 ?_;go_wp2_with fail;go_meet;exact⟨a',c',n+1,_,ax,fG a5.o _,by omega,a9⟩
 obtain⟨r,t,G,aC,dz,bO,f1,a8⟩:=hcut;clear y a5;have y:=a8;clear a8;obtain⟨Y4,d5⟩:=Qe wc.heap.size;go_upto_region 14 with fail;go_cut [9] (λp wx=>p=fb (X ⟨Y4,0,Y⟩) 6 6/\Hid (MdI w.heap.size w wx ⟨a,b,c,d,e,f⟩ kd (fb r G t) aC [(N,yearsL),(Y2,booksL),(Y3,namesL),(Y4,titlesL)]))
 case first=> go_wp2_with fail;go_meet;refine⟨rfl,?_⟩;have h:=y.strs titlesL;rw[d5]at h;exact h
 obtain⟨rfl,a8⟩:=hcut;clear y d5;have y:=a8;clear a8;have x4:wc.cell? ⟨w.heap.size,4,Y⟩=X (J U e):=(aa y.arg 4).trans rfl;go_upto_if 90 with fail;clear x4;go_cut [] (λwx=>∃(r:Option Addr)(t n3:Nat)(b0:List af),Hid (b0=aC++eD e)/\Hid (b0.length=n3)/\n3<=6/\Hid (MdI w.heap.size w wx ⟨a,b,c,d,e,f⟩ kd (fb r n3 t) b0 [(N,yearsL),(Y2,booksL),(Y3,namesL),(Y4,titlesL)]))
 case first=>
  by_cases he5:e.tmod 5=0
  .have ax:Hid (aC=aC++eD e):=by unfold Hid eD;rw[if_neg (by simp[he5])];simp
   go_wp2_with fail;go_meet;exact⟨r,t,G,aC,ax,bO,by omega,y⟩
  have hz:=uV he 5 (by omega);obtain⟨e5,d7⟩:=Qe (e.tdiv 5);have hz: -4611686018427387904<=e5/\e5<=4611686018427387904:=by rw[<- d7];exact hz
  obtain⟨ay,cc,f4⟩:=cG e 3 (by omega);obtain⟨bb,cg,er⟩:=cG e5 6 (by omega);have cv:Hid (∀W,gt prog 24 #[J U e,J U 3] W λe w'=>e=fl (J U (ay:Int))/\W=w'):=dr e 3 ay (by omega) (by omega) cc;have bB:Hid (∀W,gt prog 24 #[J U e5,J U 6] W λe w'=>e=fl (J U (bb:Int))/\W=w'):=dr e5 6 bb (by omega) (by omega) cg;obtain⟨A,au⟩:=Qe (pick titlesL e5);obtain⟨iv,c6⟩:=Qe (pick inds3L e);have b4:Hid (titlesL.getD bb []=A):=by unfold Hid;rw[<- au];exact(fC titlesL _ 6 bb rfl cg).symm
  have d8:inds3L.getD ay []=iv:=by rw[<- c6];exact(fC inds3L _ 3 ay rfl cc).symm
  have bl:Hid (∀(W:gi)(C:Nat),W.heap[C]?=X (bk #[S [48,48],S [48,52],S [49,120]] 9 (0,0))->W.cell? ⟨C,ay,Y⟩=X (S iv)):=λW C h=>by
   rw[aa h,<- d8];have hm:ay=0∨ay=1∨ay=2:=by omega
   rcases hm with rfl|rfl|rfl<;>rfl
  have ax:Hid (aC++[⟨ck,iv,[],[⟨97,A⟩,⟨99,[98,121]⟩]⟩]=aC++eD e):=by unfold Hid eD;rw[if_pos he5,d7,au,c6]
  clear cc cg au c6 d8;have ao:Hid (∀W,wc.grownBy W (fp r G t).ownBlock->W.cell? ⟨w.heap.size,4,Y⟩=X (J U e)/\W.cell? ⟨w.heap.size+2,2,Y⟩=X (fb r G t)/\W.cell? ⟨Y4,bb,Y⟩=X (S A)):=λW hW=>by have hs:=y.s hW;refine⟨(aa hs.arg 4).trans rfl,(aa hs.rcd 2).trans rfl,?_⟩;have:=hs.at (by simp:(Y4,titlesL)∈[(N,yearsL),(Y2,booksL),(Y3,namesL),(Y4,titlesL)]) (m:=bb) (by exact er);rw[b4.o]at this;exact this
  have ib:(bb:Int)<6:=by omega
  have f3:(ay:Int)<3:=by omega
  have dc:IntKind.i64.wrap e5=e5:=gn _ (by omega);have aS:G<=1000:=by omega
  have a5:=bO;have a0:wc.grownBy wc.drew (fp r G t).ownBlock:=⟨rfl,rfl,rfl,ft _,λ_ _ _=>rfl⟩;have bt:Bw wc wc.drew:=(fz _ wc).drew;go_wp2_with fail;refine wT (λW=>wc.grownBy W (fp r G t).ownBlock) 22 ?_;refine Qb [0,3,8,9,16,1,4,10,11] a0 ao ?_;refine bZ (i:=2) (j:=5) rfl rfl (by kernel_rfl) rfl rfl (λK l=>?_) (λK l=>?_)
  .go_simp;obtain⟨T,a6⟩:=Qe ((wc.alloc (bk #[S [48,48],S [48,52],S [49,120]] 9)).drew);have H:Bw wc T:=by rw[<- a6];exact((fz _ wc).alloc (ft _) _).drew
   have ac:wc.grownBy T (fp r G t).ownBlock:=⟨H.os,H.tape,H.output,H.size,λk I _=>H.block k I⟩;obtain⟨C,av⟩:=Qe wc.heap.size;have a3:T.heap[C]?=X (bk #[S [48,48],S [48,52],S [49,120]] 9 (0,0)):=by rw[<- a6,<- av];exact fr wc _
   have c7:wc.heap.size<=C:=by rw[<- av];exact ft _
   rw[av,a6];clear a6;refine l _ _ (λ_=>ac) ?_;clear l K;go_simp;refine dK (λW=>wc.grownBy W (fp r G t).ownBlock/\W.heap[C]?=X (bk #[S [48,48],S [48,52],S [49,120]] 9 (0,0))) (λW h=>h.1) _ _ _ _ ?_;have b5:Hid (∀W:gi,(wc.grownBy W (fp r G t).ownBlock/\W.heap[C]?=X (bk #[S [48,48],S [48,52],S [49,120]] 9 (0,0)))->W.cell? ⟨C,ay,Y⟩=X (S iv)):=λW h=>bl W C h.2;refine Dp 5 λK l=>?_;go_simp;go_at_call 24;with_reducible refine gb (cv.o _) ?_
   rintro e w2⟨rfl,rfl⟩;refine l _ _ (λ_=>⟨ac,a3⟩) ?_;clear l K;go_simp;have u:=tkL [6,7];repeat(refine tkI u ?_ rfl ⟨ac,a3⟩ ?_ ?_;rotate_left;intro w' h;have h7:=b5 w' h;go_simp;rfl;(try go_simp);replace u:=tkO u)
   clear u;refine Dp 12 λK l=>?_;go_simp;go_at_call 24;with_reducible refine gb (bB.o _) ?_
   rintro e w2⟨rfl,rfl⟩;refine l _ _ (λ_=>⟨ac,a3⟩) ?_;clear l K;go_simp;have u:=tkL [13,14,15];repeat(refine tkI u ?_ rfl ⟨ac,a3⟩ ?_ ?_;rotate_left;intro w' h;obtain⟨h0,h1,h2⟩:=ao w' h.1;go_simp;rfl;(try go_simp);replace u:=tkO u)
   clear u;refine Dp 17 λK l=>?_;go_simp;obtain⟨E,D⟩:=Qe (T.alloc (bk #[J fc 97,S A,J fc 99,S [98,121]] 120));have z:Bw wc E:=by rw[<- D];exact H.alloc H.size _
   have M:wc.grownBy E (fp r G t).ownBlock:=⟨z.os,z.tape,z.output,z.size,λk I _=>z.block k I⟩;obtain⟨O,L⟩:=Qe T.heap.size;have al:E.heap[O]?=X (bk #[J fc 97,S A,J fc 99,S [98,121]] 120 (0,0)):=by rw[<- D,<- L];exact fr T _
   have b7:wc.heap.size<=O:=by rw[<- L];exact H.size
   have a7:E.heap[C]?=X (bk #[S [48,48],S [48,52],S [49,120]] 9 (0,0)):=by rw[<- D,fy _ _ _ (ae a3)];exact a3
   rw[L,D];clear D;refine l _ _ (λ_=>⟨M,a7⟩) ?_;clear l K;go_simp;refine tk 18 ?_ rfl ⟨M,a7⟩ ?_ ?_;rotate_left;intro w' h;go_simp;rfl;try go_simp
   have a2:=gL (c1:=97) (t1:=A) (c2:=99) (t2:=[98,121]) (lo:=w.heap.size+3) (g:=(fp r G t).ownBlock) al (by have:=y.o.lo;omega) (λe=>by have:=et y.o.own e;omega);obtain⟨a',c',w8,F,a1,a4,b2,b3,V⟩:=y.app z a5.o rfl aS ⟨ck,iv,[],[⟨97,A⟩,⟨99,[98,121]⟩]⟩ _ a2;dsimp only[ck]at F;have ad:=Z F;have a9:=Z V;have aT:w8.heap[C]?=X (bk #[S [48,48],S [48,52],S [49,120]] 9 (0,0)):=(a4.block C (ae a7) (λe=>by have:=et y.o.own e.symm;omega)).trans a7;have b8:(E.alloc (bk #[S ck,S iv,S [],fb (X ⟨O,0,Y⟩) 2 2] 123)).heap[C]?=X (bk #[S [48,48],S [48,52],S [49,120]] 9 (0,0)):=by rw[fy _ _ _ (ae a7)];exact a7
   clear F V a4 a2;refine Dp 19 λK l=>?_;go_simp;refine l _ _ (λ_=>⟨M.trans ((fx _ _ Y).but _),b8⟩) ?_;clear l K;go_simp;refine Dp 20 λK l=>?_;refine cM rfl rfl rfl ad.o ?_;refine l _ _ (λ_=>⟨a1,aT⟩) ?_;clear l K;go_simp;refine tk 21 ?_ rfl ⟨a1,aT⟩ ?_ ?_;rotate_left;intro w' h;go_simp;rfl;try go_simp
   refine Dl 22 ?_;go_wp2_with fail;go_meet;exact⟨a',c',G+1,_,ax,fG a5.o _,by omega,a9⟩
  skip;go_simp;go_at_call 24;with_reducible refine gb (cv.o _) ?_
  rintro e w2⟨rfl,rfl⟩;refine l _ _ (λ_=>a0) ?_;clear l K;go_simp;refine bZ (i:=2) (j:=12) rfl rfl (by kernel_rfl) rfl rfl (λK l=>?_) (λK l=>?_)
  .go_simp;obtain⟨T,a6⟩:=Qe ((wc.alloc (bk #[S [48,48],S [48,52],S [49,120]] 9)).drew);have H:Bw wc T:=by rw[<- a6];exact((fz _ wc).alloc (ft _) _).drew
   have ac:wc.grownBy T (fp r G t).ownBlock:=⟨H.os,H.tape,H.output,H.size,λk I _=>H.block k I⟩;obtain⟨C,av⟩:=Qe wc.heap.size;have a3:T.heap[C]?=X (bk #[S [48,48],S [48,52],S [49,120]] 9 (0,0)):=by rw[<- a6,<- av];exact fr wc _
   have c7:wc.heap.size<=C:=by rw[<- av];exact ft _
   rw[av,a6];clear a6;refine l _ _ (λ_=>ac) ?_;clear l K;go_simp;refine dK (λW=>wc.grownBy W (fp r G t).ownBlock/\W.heap[C]?=X (bk #[S [48,48],S [48,52],S [49,120]] 9 (0,0))) (λW h=>h.1) _ _ _ _ ?_;have b5:Hid (∀W:gi,(wc.grownBy W (fp r G t).ownBlock/\W.heap[C]?=X (bk #[S [48,48],S [48,52],S [49,120]] 9 (0,0)))->W.cell? ⟨C,ay,Y⟩=X (S iv)):=λW h=>bl W C h.2;have u:=tkL [6,7];repeat(refine tkI u ?_ rfl ⟨ac,a3⟩ ?_ ?_;rotate_left;intro w' h;have h7:=b5 w' h;go_simp;rfl;(try go_simp);replace u:=tkO u)
   clear u;refine Dp 12 λK l=>?_;go_simp;go_at_call 24;with_reducible refine gb (bB.o _) ?_
   rintro e w2⟨rfl,rfl⟩;refine l _ _ (λ_=>⟨ac,a3⟩) ?_;clear l K;go_simp;have u:=tkL [13,14,15];repeat(refine tkI u ?_ rfl ⟨ac,a3⟩ ?_ ?_;rotate_left;intro w' h;obtain⟨h0,h1,h2⟩:=ao w' h.1;go_simp;rfl;(try go_simp);replace u:=tkO u)
   clear u;refine Dp 17 λK l=>?_;go_simp;obtain⟨E,D⟩:=Qe (T.alloc (bk #[J fc 97,S A,J fc 99,S [98,121]] 120));have z:Bw wc E:=by rw[<- D];exact H.alloc H.size _
   have M:wc.grownBy E (fp r G t).ownBlock:=⟨z.os,z.tape,z.output,z.size,λk I _=>z.block k I⟩;obtain⟨O,L⟩:=Qe T.heap.size;have al:E.heap[O]?=X (bk #[J fc 97,S A,J fc 99,S [98,121]] 120 (0,0)):=by rw[<- D,<- L];exact fr T _
   have b7:wc.heap.size<=O:=by rw[<- L];exact H.size
   have a7:E.heap[C]?=X (bk #[S [48,48],S [48,52],S [49,120]] 9 (0,0)):=by rw[<- D,fy _ _ _ (ae a3)];exact a3
   rw[L,D];clear D;refine l _ _ (λ_=>⟨M,a7⟩) ?_;clear l K;go_simp;refine tk 18 ?_ rfl ⟨M,a7⟩ ?_ ?_;rotate_left;intro w' h;go_simp;rfl;try go_simp
   have a2:=gL (c1:=97) (t1:=A) (c2:=99) (t2:=[98,121]) (lo:=w.heap.size+3) (g:=(fp r G t).ownBlock) al (by have:=y.o.lo;omega) (λe=>by have:=et y.o.own e;omega);obtain⟨a',c',w8,F,a1,a4,b2,b3,V⟩:=y.app z a5.o rfl aS ⟨ck,iv,[],[⟨97,A⟩,⟨99,[98,121]⟩]⟩ _ a2;dsimp only[ck]at F;have ad:=Z F;have a9:=Z V;have aT:w8.heap[C]?=X (bk #[S [48,48],S [48,52],S [49,120]] 9 (0,0)):=(a4.block C (ae a7) (λe=>by have:=et y.o.own e.symm;omega)).trans a7;have b8:(E.alloc (bk #[S ck,S iv,S [],fb (X ⟨O,0,Y⟩) 2 2] 123)).heap[C]?=X (bk #[S [48,48],S [48,52],S [49,120]] 9 (0,0)):=by rw[fy _ _ _ (ae a7)];exact a7
   clear F V a4 a2;refine Dp 19 λK l=>?_;go_simp;refine l _ _ (λ_=>⟨M.trans ((fx _ _ Y).but _),b8⟩) ?_;clear l K;go_simp;refine Dp 20 λK l=>?_;refine cM rfl rfl rfl ad.o ?_;refine l _ _ (λ_=>⟨a1,aT⟩) ?_;clear l K;go_simp;refine tk 21 ?_ rfl ⟨a1,aT⟩ ?_ ?_;rotate_left;intro w' h;go_simp;rfl;try go_simp
   refine Dl 22 ?_;go_wp2_with fail;go_meet;exact⟨a',c',G+1,_,ax,fG a5.o _,by omega,a9⟩
  skip;go_simp;go_at_call 24;with_reducible refine gb (bB.o _) ?_
  rintro e w2⟨rfl,rfl⟩;refine l _ _ (λ_=>a0) ?_;clear l K;go_simp;refine Qb [13,14,15] a0 ao ?_;refine bZ (i:=2) (j:=17) rfl rfl (by kernel_rfl) rfl rfl (λK l=>?_) (λK l=>?_)
  .go_simp;obtain⟨T,a6⟩:=Qe ((wc.alloc (bk #[S [48,48],S [48,52],S [49,120]] 9)).drew);have H:Bw wc T:=by rw[<- a6];exact((fz _ wc).alloc (ft _) _).drew
   have ac:wc.grownBy T (fp r G t).ownBlock:=⟨H.os,H.tape,H.output,H.size,λk I _=>H.block k I⟩;obtain⟨C,av⟩:=Qe wc.heap.size;have a3:T.heap[C]?=X (bk #[S [48,48],S [48,52],S [49,120]] 9 (0,0)):=by rw[<- a6,<- av];exact fr wc _
   have c7:wc.heap.size<=C:=by rw[<- av];exact ft _
   rw[av,a6];clear a6;refine l _ _ (λ_=>ac) ?_;clear l K;go_simp;refine dK (λW=>wc.grownBy W (fp r G t).ownBlock/\W.heap[C]?=X (bk #[S [48,48],S [48,52],S [49,120]] 9 (0,0))) (λW h=>h.1) _ _ _ _ ?_;have b5:Hid (∀W:gi,(wc.grownBy W (fp r G t).ownBlock/\W.heap[C]?=X (bk #[S [48,48],S [48,52],S [49,120]] 9 (0,0)))->W.cell? ⟨C,ay,Y⟩=X (S iv)):=λW h=>bl W C h.2;have u:=tkL [6,7];repeat(refine tkI u ?_ rfl ⟨ac,a3⟩ ?_ ?_;rotate_left;intro w' h;have h7:=b5 w' h;go_simp;rfl;(try go_simp);replace u:=tkO u)
   clear u;refine Dp 17 λK l=>?_;go_simp;obtain⟨E,D⟩:=Qe (T.alloc (bk #[J fc 97,S A,J fc 99,S [98,121]] 120));have z:Bw wc E:=by rw[<- D];exact H.alloc H.size _
   have M:wc.grownBy E (fp r G t).ownBlock:=⟨z.os,z.tape,z.output,z.size,λk I _=>z.block k I⟩;obtain⟨O,L⟩:=Qe T.heap.size;have al:E.heap[O]?=X (bk #[J fc 97,S A,J fc 99,S [98,121]] 120 (0,0)):=by rw[<- D,<- L];exact fr T _
   have b7:wc.heap.size<=O:=by rw[<- L];exact H.size
   have a7:E.heap[C]?=X (bk #[S [48,48],S [48,52],S [49,120]] 9 (0,0)):=by rw[<- D,fy _ _ _ (ae a3)];exact a3
   rw[L,D];clear D;refine l _ _ (λ_=>⟨M,a7⟩) ?_;clear l K;go_simp;refine tk 18 ?_ rfl ⟨M,a7⟩ ?_ ?_;rotate_left;intro w' h;go_simp;rfl;try go_simp
   have a2:=gL (c1:=97) (t1:=A) (c2:=99) (t2:=[98,121]) (lo:=w.heap.size+3) (g:=(fp r G t).ownBlock) al (by have:=y.o.lo;omega) (λe=>by have:=et y.o.own e;omega);obtain⟨a',c',w8,F,a1,a4,b2,b3,V⟩:=y.app z a5.o rfl aS ⟨ck,iv,[],[⟨97,A⟩,⟨99,[98,121]⟩]⟩ _ a2;dsimp only[ck]at F;have ad:=Z F;have a9:=Z V;have aT:w8.heap[C]?=X (bk #[S [48,48],S [48,52],S [49,120]] 9 (0,0)):=(a4.block C (ae a7) (λe=>by have:=et y.o.own e.symm;omega)).trans a7;have b8:(E.alloc (bk #[S ck,S iv,S [],fb (X ⟨O,0,Y⟩) 2 2] 123)).heap[C]?=X (bk #[S [48,48],S [48,52],S [49,120]] 9 (0,0)):=by rw[fy _ _ _ (ae a7)];exact a7
   clear F V a4 a2;refine Dp 19 λK l=>?_;go_simp;refine l _ _ (λ_=>⟨M.trans ((fx _ _ Y).but _),b8⟩) ?_;clear l K;go_simp;refine Dp 20 λK l=>?_;refine cM rfl rfl rfl ad.o ?_;refine l _ _ (λ_=>⟨a1,aT⟩) ?_;clear l K;go_simp;refine tk 21 ?_ rfl ⟨a1,aT⟩ ?_ ?_;rotate_left;intro w' h;go_simp;rfl;try go_simp
   refine Dl 22 ?_;go_wp2_with fail;go_meet;exact⟨a',c',G+1,_,ax,fG a5.o _,by omega,a9⟩
  skip;go_simp;obtain⟨E,D⟩:=Qe ((wc.alloc (bk #[J fc 97,S A,J fc 99,S [98,121]] 120)).drew);have z:Bw wc E:=by rw[<- D];exact((fz _ wc).alloc (ft _) _).drew
  have M:wc.grownBy E (fp r G t).ownBlock:=⟨z.os,z.tape,z.output,z.size,λk I _=>z.block k I⟩;obtain⟨O,L⟩:=Qe wc.heap.size;have al:E.heap[O]?=X (bk #[J fc 97,S A,J fc 99,S [98,121]] 120 (0,0)):=by rw[<- D,<- L];exact fr wc _
  have b7:wc.heap.size<=O:=by rw[<- L];exact ft _
  rw[L,D];clear D;refine l _ _ (λ_=>M) ?_;clear l K;go_simp;refine Dp 2 λK l=>?_;go_simp;obtain⟨T,a6⟩:=Qe (E.alloc (bk #[S [48,48],S [48,52],S [49,120]] 9));have H:Bw wc T:=by rw[<- a6];exact z.alloc z.size _
  have ac:wc.grownBy T (fp r G t).ownBlock:=⟨H.os,H.tape,H.output,H.size,λk I _=>H.block k I⟩;obtain⟨C,av⟩:=Qe E.heap.size;have a3:T.heap[C]?=X (bk #[S [48,48],S [48,52],S [49,120]] 9 (0,0)):=by rw[<- a6,<- av];exact fr E _
  have c7:wc.heap.size<=C:=by rw[<- av];exact z.size
  have eq:T.heap[O]?=X (bk #[J fc 97,S A,J fc 99,S [98,121]] 120 (0,0)):=by rw[<- a6,fy _ _ _ (ae al)];exact al
  rw[av,a6];clear a6;refine l _ _ (λ_=>ac) ?_;clear l K;go_simp;refine dK (λW=>wc.grownBy W (fp r G t).ownBlock/\W.heap[C]?=X (bk #[S [48,48],S [48,52],S [49,120]] 9 (0,0))) (λW h=>h.1) _ _ _ _ ?_;have b5:Hid (∀W:gi,(wc.grownBy W (fp r G t).ownBlock/\W.heap[C]?=X (bk #[S [48,48],S [48,52],S [49,120]] 9 (0,0)))->W.cell? ⟨C,ay,Y⟩=X (S iv)):=λW h=>bl W C h.2;have u:=tkL [6,7];repeat(refine tkI u ?_ rfl ⟨ac,a3⟩ ?_ ?_;rotate_left;intro w' h;have h7:=b5 w' h;go_simp;rfl;(try go_simp);replace u:=tkO u)
  clear u;refine tk 18 ?_ rfl ⟨ac,a3⟩ ?_ ?_;rotate_left;intro w' h;go_simp;rfl;try go_simp
  have a2:=gL (c1:=97) (t1:=A) (c2:=99) (t2:=[98,121]) (lo:=w.heap.size+3) (g:=(fp r G t).ownBlock) eq (by have:=y.o.lo;omega) (λe=>by have:=et y.o.own e;omega);obtain⟨a',c',w8,F,a1,a4,b2,b3,V⟩:=y.app H a5.o rfl aS ⟨ck,iv,[],[⟨97,A⟩,⟨99,[98,121]⟩]⟩ _ a2;dsimp only[ck]at F;have ad:=Z F;have a9:=Z V;have aT:w8.heap[C]?=X (bk #[S [48,48],S [48,52],S [49,120]] 9 (0,0)):=(a4.block C (ae a3) (λe=>by have:=et y.o.own e.symm;omega)).trans a3;have b8:(T.alloc (bk #[S ck,S iv,S [],fb (X ⟨O,0,Y⟩) 2 2] 123)).heap[C]?=X (bk #[S [48,48],S [48,52],S [49,120]] 9 (0,0)):=by rw[fy _ _ _ (ae a3)];exact a3
  clear F V a4 a2;refine Dp 19 λK l=>?_;go_simp;refine l _ _ (λ_=>⟨ac.trans ((fx _ _ Y).but _),b8⟩) ?_;clear l K;go_simp;refine Dp 20 λK l=>?_;refine cM rfl rfl rfl ad.o ?_;refine l _ _ (λ_=>⟨a1,aT⟩) ?_;clear l K;go_simp;refine tk 21 ?_ rfl ⟨a1,aT⟩ ?_ ?_;rotate_left;intro w' h;go_simp;rfl;try go_simp
  refine Dl 22 ?_;go_wp2_with fail;go_meet;exact⟨a',c',G+1,_,ax,fG a5.o _,by omega,a9⟩
 obtain⟨r,t,n3,b0,e3,bY,f2,a8⟩:=hcut;clear y bO;have y:=a8;clear a8;have x5:wc.cell? ⟨w.heap.size,5,Y⟩=X (J U f):=(aa y.arg 5).trans rfl;go_upto_if 116 with fail;clear x5;go_cut [] (λwx=>∃(r:Option Addr)(t n4:Nat)(bc:List af),Hid (bc=b0++eC f)/\Hid (bc.length=n4)/\n4<=7/\Hid (MdI w.heap.size w wx ⟨a,b,c,d,e,f⟩ kd (fb r n4 t) bc [(N,yearsL),(Y2,booksL),(Y3,namesL),(Y4,titlesL)]))
 case first=>
  by_cases hf3:f.tmod 3=0
  .have ax:Hid (b0=b0++eC f):=by unfold Hid eC;rw[if_neg (by simp[hf3])];simp
   go_wp2_with fail;go_meet;exact⟨r,t,n3,b0,ax,bY,by omega,y⟩
  obtain⟨mf,ch,lf⟩:=cG f 8 (by omega);have ds:Hid (∀W,gt prog 24 #[J U f,J U 8] W λe w'=>e=fl (J U (mf:Int))/\W=w'):=dr f 8 mf (by omega) (by omega) ch;obtain⟨A,au⟩:=Qe (pick yearsL f);have b4:Hid (yearsL.getD mf []=A):=by unfold Hid;rw[<- au];exact(fC yearsL _ 8 mf rfl ch).symm
  have ax:Hid (b0++[⟨lU,[32,32],[],[⟨97,[80,97,114,105,115,32,49,57,48,48]⟩,⟨99,A⟩]⟩]=b0++eC f):=by unfold Hid eC;rw[if_pos hf3,au]
  clear ch au;have ao:Hid (∀W,wc.grownBy W (fp r n3 t).ownBlock->W.cell? ⟨w.heap.size,5,Y⟩=X (J U f)/\W.cell? ⟨w.heap.size+2,2,Y⟩=X (fb r n3 t)/\W.cell? ⟨N,mf,Y⟩=X (S A)):=λW hW=>by have hs:=y.s hW;refine⟨(aa hs.arg 5).trans rfl,(aa hs.rcd 2).trans rfl,?_⟩;have:=hs.at (by simp:(N,yearsL)∈[(N,yearsL),(Y2,booksL),(Y3,namesL),(Y4,titlesL)]) (m:=mf) (by exact lf);rw[b4.o]at this;exact this
  have ib:(mf:Int)<8:=by omega
  have aS:n3<=1000:=by omega
  have a5:=bY;have a0:wc.grownBy wc.drew (fp r n3 t).ownBlock:=⟨rfl,rfl,rfl,ft _,λ_ _ _=>rfl⟩;have bt:Bw wc wc.drew:=(fz _ wc).drew;go_wp2_with fail;refine wT (λW=>wc.grownBy W (fp r n3 t).ownBlock) 15 ?_;refine Qb [0,2,3,4,1,5] a0 ao ?_;refine Dp 6 λK l=>?_;go_simp;go_at_call 24;with_reducible refine gb (ds.o _) ?_
  rintro e w2⟨rfl,rfl⟩;refine l _ _ (λ_=>a0) ?_;clear l K;go_simp;refine Qb [7,8,9] a0 ao ?_;refine Dp 10 λK l=>?_;go_simp;obtain⟨E,D⟩:=Qe ((wc.alloc (bk #[J fc 97,S [80,97,114,105,115,32,49,57,48,48],J fc 99,S A] 120)).drew);have z:Bw wc E:=by rw[<- D];exact((fz _ wc).alloc (ft _) _).drew
  have M:wc.grownBy E (fp r n3 t).ownBlock:=⟨z.os,z.tape,z.output,z.size,λk I _=>z.block k I⟩;obtain⟨O,L⟩:=Qe wc.heap.size;have al:E.heap[O]?=X (bk #[J fc 97,S [80,97,114,105,115,32,49,57,48,48],J fc 99,S A] 120 (0,0)):=by rw[<- D,<- L];exact fr wc _
  have b7:wc.heap.size<=O:=by rw[<- L];exact ft _
  rw[L,D];clear D;refine l _ _ (λ_=>M) ?_;clear l K;go_simp;refine Qa [11] M ?_
  have a2:=gL (c1:=97) (t1:=[80,97,114,105,115,32,49,57,48,48]) (c2:=99) (t2:=A) (lo:=w.heap.size+3) (g:=(fp r n3 t).ownBlock) al (by have:=y.o.lo;omega) (λe=>by have:=et y.o.own e;omega);obtain⟨a',c',w8,F,a1,a4,b2,b3,V⟩:=y.app z a5.o rfl aS ⟨lU,[32,32],[],[⟨97,[80,97,114,105,115,32,49,57,48,48]⟩,⟨99,A⟩]⟩ _ a2;dsimp only[lU]at F;have ad:=Z F;have a9:=Z V;clear F V a4 a2;refine Dp 12 λK l=>?_;go_simp;refine l _ _ (λ_=>M.trans ((fx _ _ Y).but _)) ?_;clear l K;go_simp;refine Dp 13 λK l=>?_;refine cM rfl rfl rfl ad.o ?_;refine l _ _ (λ_=>a1) ?_;clear l K;go_simp;refine Qa [14] a1 ?_
  refine Dl 15 ?_;go_wp2_with fail;go_meet;exact⟨a',c',n3+1,_,ax,fG a5.o _,by omega,a9⟩
 obtain⟨r,t,n4,bc,e4,e6,em,a8⟩:=hcut;clear y bY;have y:=a8;clear a8;have r0:wc.cell? ⟨w.heap.size+2,0,Y⟩=X (J fc kd.toNat):=(aa y.rcd 0).trans rfl;have r1:wc.cell? ⟨w.heap.size+2,1,Y⟩=X (J fc 109):=(aa y.rcd 1).trans rfl;have r2:wc.cell? ⟨w.heap.size+2,2,Y⟩=X (fb r n4 t):=(aa y.rcd 2).trans rfl;have y0:wc.cell? ⟨w.heap.size+1,0,Y⟩=X (J fc 0):=(aa y.res 0).trans rfl;have y1:wc.cell? ⟨w.heap.size+1,1,Y⟩=X (J fc 0):=(aa y.res 1).trans rfl;have y2:wc.cell? ⟨w.heap.size+1,2,Y⟩=X (fb Y 0 0):=(aa y.res 2).trans rfl;have z0:=ab y.res 0;have z1:=ab y.res 1;have z2:=ab y.res 2;have e9:Hid (R.fields=bc):=by unfold Hid;rw[<- HR.o,e4.o,e3.o,dz.o,dy.o,<- dx.o];rfl
 go_wp2_with fail;refine bodyPost_ret (v:=.agg #[J fc kd.toNat,J fc 109,fb r n4 t]) (by rw[cX rfl];go_simp) rfl ?_;have eg:Bw w (((wc.setCell ⟨w.heap.size+1,0,Y⟩ (J fc kd.toNat)).setCell ⟨w.heap.size+1,1,Y⟩ (J fc 109)).setCell ⟨w.heap.size+1,2,Y⟩ (fb r n4 t)):=((y.o.b.setCell (p:=⟨w.heap.size+1,0,Y⟩) (by simp) _).setCell (p:=⟨w.heap.size+1,1,Y⟩) (by simp) _).setCell (p:=⟨w.heap.size+1,2,Y⟩) (by simp) _;rw[e7.o,e9.o,e6.o];refine⟨r,t,rfl,?_,eg⟩;have ho:=y.o.own.keep (w':=(((wc.setCell ⟨w.heap.size+1,0,Y⟩ (J fc kd.toNat)).setCell ⟨w.heap.size+1,1,Y⟩ (J fc 109)).setCell ⟨w.heap.size+1,2,Y⟩ (fb r n4 t))) (λk I _=>by rw[gf _ _ _ _ (by simp;omega),gf _ _ _ _ (by simp;omega),gf _ _ _ _ (by simp;omega)]) (by simp);exact ho.fields (by omega)
end
end Go.Proofs.YtjcimanddakkaaaGreatDoor
