/- Lemmas. -/
import Derived.Test.YtjcimanddakkaaaGreatDoorCT29
set_option maxRecDepth 100000
set_option maxHeartbeats 8000000
namespace Go.Proofs.YtjcimanddakkaaaGreatDoor
open _root_.Option renaming some→X,none→Y
open Go.Obj renaming cells→bk
open Go.Value renaming slice→fb,int→J,pointer→fn
open Go.IntKind renaming u8→fc,i64→U
open Go.Ending renaming returned→fl
open Go.Lib renaming hid→Z
open Tryz
open Go.Value renaming slice→fp
open Go.World renaming alloc_heap_new→fr,grownBy_alloc→fx
open _root_.Nat renaming le_refl→ft
open Go.RowKit.Below renaming heap_alloc→fy,refl→fz,heap_setCell→gf
open Go.Calls renaming mono→gb
open _root_.Int renaming tdiv_eq_ediv_of_nonneg→gd
open Go renaming World→gi,Value→gq,Calls→gt
open Go.IntWalk renaming i64_in→gn
open Go.Builtin renaming append_→gp
open _root_.List renaming length_append→gs
open Go.Addr renaming add→gx
section
open Go.RowKit Go.Maps Go.Shelf
structure MdI(B:Nat)(w0 wr:gi)(q:Six)(kd:UInt8)(v:gq)(fs:List ag)(ls:List (Nat×List Bs)):Prop where
 b:Below B w0 wr
 lo:B+3<=wr
 arg:wr.heap[B]?=some (.cells #[q.a,q.b,q.c,q.d,q.e,q.f] 45 (0,0))
 res:wr.heap[B+1]?=some (.cells #[.int .u8 0,.int .u8 0,.slice none 0 0] 62 (0,0))
 rcd:wr.heap[B+2]?=some (.cells #[.int .u8 kd,.int .u8 109,v] 62 (0,0))
 own:bM (B+3) wr v fs
 str:∀p∈ls,B+3<=p.1/\wr.heap[p.1]?=some (.cells (p.2.map S).toArray 9 (0,0))
theorem rN{lo:Nat}{w:gi}{v:gq}{fs:List ag}(h:bM lo w v fs){g:Nat}(c:v.ownBlock=X g):lo<=g/\∃d,w.heap[g]?=X (bk d 123 (0,0)):=by
 obtain⟨ps,_,_,b⟩:=h.ex;exact⟨(b.lt g c).1,aK b c⟩
structure MdS(B:Nat)(W:gi)(q:Six)(kd:UInt8)(v:gq)(ls:List (Nat×List Bs)):Prop where
 arg:W.heap[B]?=some (.cells #[q.a,q.b,q.c,q.d,q.e,q.f] 45 (0,0))
 rcd:W.heap[B+2]?=some (.cells #[.int .u8 kd,.int .u8 109,v] 62 (0,0))
 str:∀p∈ls,W.heap[p.1]?=some (.cells (p.2.map S).toArray 9 (0,0))
section
variable {B:Nat} {w0 wr W:gi} {q:Six} {kd:UInt8} {v:gq} {fs:List ag} {ls:List (Nat×List Bs)}
theorem MdI.old(h:MdI B w0 wr q kd v fs ls)(f:wr.grownBy W v.ownBlock){k:Nat}{c:Array gq}{t:TypeId}(b:wr.heap[k]?=X (bk c t (0,0)))(g:t≠123):W.heap[k]?=X (bk c t (0,0)):=
 (f.block k (af b) (λe=>by
  obtain⟨_,i,d⟩:=rN h.own e.symm
  exact dw b d g rfl)).trans b
theorem MdI.s(h:MdI B w0 wr q kd v fs ls)(b:wr.grownBy W v.ownBlock):MdS B W q kd v ls:=
 ⟨h.old b h.arg (by decide),h.old b h.rcd (by decide),λp c=>h.old b (h.str p c).2 (by decide)⟩
theorem MdI.self(h:MdI B w0 wr q kd v fs ls):MdS B wr q kd v ls:=⟨h.arg,h.rcd,λp b=>(h.str p b).2⟩
theorem MdS.at(h:MdS B W q kd v ls){b:Nat}{l:List Bs}(c:(b,l)∈ls){m:Nat}(d:m<l):W.cell? ⟨b,m,Y⟩=X (S (l.getD m [])):=by
 rw[ab (h.str _ c) m];simp[List.getD_eq_getElem?_getD,d]
theorem MdI.keep(h:MdI B w0 wr q kd v fs ls)(c:Bw wr W):MdI B w0 W q kd v fs ls:=
 ⟨h.b.trans (c.mono (by have:=h.lo;omega)),by have:=c.size;have:=h.lo;omega,(c.block _ (af h.arg)).trans h.arg,(c.block _ (af h.res)).trans h.res,(c.block _ (af h.rcd)).trans h.rcd,
  h.own.keep (λk _ e=>c.block k e) c.size,λp d=>⟨(h.str p d).1,(c.block _ (af (h.str p d).2)).trans (h.str p d).2⟩⟩
theorem MdI.strs(h:MdI B w0 wr q kd v fs ls)(l:List Bs):MdI B w0 (wr.alloc (.cells (l.map S).toArray 9)) q kd v fs (ls++[(wr.heap.size,l)]):=by
 have c:=h.keep ((fz _ wr).alloc (ft _) (.cells (l.map S).toArray 9));refine⟨c.b,c.lo,c.arg,c.res,c.rcd,c.own,λp d=>?_⟩;rcases List.mem_append.1 d with d|d
 .exact c.str p d
 rw[List.mem_singleton]at d;subst d;exact⟨h.lo,fr wr _⟩
end
theorem vW(w:gi)(x y z u:gq)(t:TypeId):∀j v,[x,y,z,u][j]?=X v->(w.alloc (bk #[x,y,z,u] t)).cell? ((w:Addr).add j)=X v:=by
 intro j v b;match j,b with
 |0,b=>simp at b;subst b;simp[gx]
 |1,b=>simp at b;subst b;simp[gx]
 |2,b=>simp at b;subst b;simp[gx]
 |3,b=>simp at b;subst b;simp[gx]
theorem Dn(lo:Nat)(w1:gi)(v:gq)(n:Nat)(f:List gq)(t:w1.ownsRow lo 123 4 v n f)(hn:n<=1000000)(C:lo<=w1)(a b c d:gq)(l:a.oneCell'=true)(m:b.oneCell'=true)(p:c.oneCell'=true)(r:d.oneCell'=true):
 ∃e w',(gp #[60,60] 60 #[v,fb w1 1 1]).run prog (w1.alloc (bk #[a,b,c,d] 123))=.ok e w'/\w'.ownsRow lo 123 4 e (n+1) (f++[a,b,c,d])/\(w1.alloc (bk #[a,b,c,d] 123)).grownBy w' v.ownBlock/\
  (e.ownBlock=v.ownBlock∨e.ownBlock=X (w1.heap.size+1)):=by
 obtain⟨A,s,x,y,z⟩:=info_parts CY
 obtain⟨e,w',h,i,j,_,k⟩:=run_append_own_at (P:=prog) (w1.alloc (bk #[a,b,c,d] 123)) lo 60 60 123 A (.agg #[.string ⟨#[]⟩,.string ⟨#[]⟩,.string ⟨#[]⟩,fb Y 0 0]) 4 72 underlying60 s x y z rfl (by decide) v n f (World.ownsRow.alloc t _) w1 1 1 [a,b,c,d] rfl
  (vW w1 a b c d 123) (by
   intro u g
   simp only[List.mem_cons,List.not_mem_nil,or_false]at g
   rcases g with rfl|rfl|rfl|rfl
   .exact l
   .exact m
   .exact p
   .exact r) (by unfold maxLen;omega) (by omega) (by simp;omega)
 exact⟨e,w',h,i,j,by simpa using k⟩
theorem MdI.app{B:Nat}{w0 wr W:gi}{q:Six}{kd:UInt8}{v:gq}{fs:List ag}{ls:List (Nat×List Bs)}(h:MdI B w0 wr q kd v fs ls)(r:Bw wr W){n m:Nat}(L:fs=n)(N:n+1=m)(hn:n<=1000)(f:ag)(d:gq)(D:bD (B+3) v.ownBlock W d f.subs):
 ∃(s:Option Addr)(t:Nat)(j:gi),(gp #[60,60] 60 #[v,fb W 1 1]).run prog (W.alloc (bk #[S f.tag,S f.ind,S f.data,d] 123))=.ok (fb s (m) t) j/\
  wr.grownBy j v.ownBlock/\W.grownBy j v.ownBlock/\j.cell? ⟨B+2,2,Y⟩=X v/\j.frozen? ⟨B+2,2,Y⟩=false/\MdI B w0 (j.setCell ⟨B+2,2,Y⟩ (fb s (m) t)) q kd (fb s (m) t) (fs++[f]) ls:=by
 subst L;subst N;obtain⟨ps,p1,p2,E⟩:=h.own.ex;have a1:=h.lo;have z:wr.grownBy W v.ownBlock:=⟨r.os,r.tape,r.output,r.size,λk i _=>r.block k i⟩;have T:=r.size;have I:d.oneCell'=true:=by obtain⟨a,c,rfl,_⟩:=D;rfl
 have a0:W.ownsRow (B+3) 123 4 v fs (ps.flatMap fieldCells):=aj E (λg z=>r.block g (E.lt g z).2);obtain⟨v',j,F,C,y,G⟩:=Dn (B+3) W v fs (ps.flatMap fieldCells) a0 (by omega) (by omega) (S f.tag) (S f.ind) (S f.data) d rfl rfl rfl I;obtain⟨s,t,rfl⟩:=aQ C;have l:wr.grownBy j v.ownBlock:=(z.trans ((fx _ _ Y).but _)).trans y;have H:W.grownBy j v.ownBlock:=((fx _ _ Y).but _).trans y;have O:∀k,k<wr.heap.size->W.heap[k]?=wr.heap[k]?:=r.block;have R:=bM.app (w1:=W.alloc (bk #[S f.tag,S f.ind,S f.data,d] 123)) f d ps p1 (λp u=>((p2 p u).step (λk _ i _=>O k i) T (.inl rfl)).step (λk _ i _=>fy W _ k i) (by simp) (.inl rfl)) (D.step (λk _ i _=>fy W _ k i) (by simp) (.inl rfl)) C y (by simpa using G);have A:=h.old l h.rcd (by decide);refine⟨s,t,j,F,l,H,ab A 2,ae A 2,?_⟩;have x:∀k,k≠B+2->(j.setCell ⟨B+2,2,Y⟩ (fb s (fs.length+1) t)).heap[k]?=j.heap[k]?:=λk i=>gf _ _ _ _ i;have V:=l.size;refine⟨?_,by simp;omega,(x B (by omega)).trans (h.old l h.arg (by decide)),(x (B+1) (by omega)).trans (h.old l h.res (by decide)),aA A 2 _,R.keep (λk i _=>x k (by omega)) (by simp),λp u=>⟨(h.str p u).1,(x p.1 (by have:=(h.str p u).1;omega)).trans (h.old l (h.str p u).2 (by decide))⟩⟩;refine Below.setCell (p:=⟨B+2,2,Y⟩) ?_ (by simp) _;exact⟨l.os.trans h.b.os,l.tape.trans h.b.tape,l.output.trans h.b.output,Nat.le_trans h.b.size V,λk i=>by
  have M:k<wr:=by omega
  refine(l.block k M (λe=>?_)).trans (h.b.block k i);have:=(rN h.own e.symm).1;omega⟩
theorem eH{lo:Nat}{w:gi}{v:gq}{fs:List ag}(h:bM lo w v fs){g:Nat}(c:v.ownBlock=X g):g<w:=by
 obtain⟨ps,_,_,b⟩:=h.ex;exact(b.lt g c).2
theorem l0{lo:Nat}{g:Option Nat}{W:gi}{b:Nat}{c1:UInt8}{t1:Bs}(h:W.heap[b]?=X (bk #[J fc c1,S t1] 120 (0,0)))(d:lo<=b)(c:g≠X b):bD lo g W (fb b 1 1) [⟨c1,t1⟩]:=by
 refine⟨_,_,rfl,λ_=>⟨b,0,rfl,d,af h,c,λj x e=>?_⟩⟩;rw[Nat.zero_add,ab h,<- e];simp[subCells]
theorem gT{lo:Nat}{g:Option Nat}{W:gi}{b:Nat}{c1 c2:UInt8}{t1 t2:Bs}(h:W.heap[b]?=X (bk #[J fc c1,S t1,J fc c2,S t2] 120 (0,0)))(d:lo<=b)(c:g≠X b):bD lo g W (fb b 2 2) [⟨c1,t1⟩,⟨c2,t2⟩]:=by
 refine⟨_,_,rfl,λ_=>⟨b,0,rfl,d,af h,c,λj x e=>?_⟩⟩;rw[Nat.zero_add,ab h,<- e];simp[subCells]
theorem dV{P:Program}{d:Region.Mode}{e:Array Oper}{Q:Exit->Act->gi->Prop}{S:gi->Prop}{z:Nat}(b:gi->Prop)(h:∀w,b w->S w):∀(n:Nat)(listed:Array Bool)(a:Act)(w:gi),anyT P d e Q b z n listed a w->anyT P d e Q S z n listed a w
 |0,_,_,_,h0=>h0
 |n+1,_,_,_,h0=>⟨h0.1,λi g=>wpOp_mono (λf w' c=>⟨λj=>h _ (c.1 j),dV b h n _ f w' c.2⟩) (h0.2 i g)⟩
section
variable {P:Program} {o:Oper} {a:Act} {K:Act->gi->Prop} {Q:Exit->Act->gi->Prop} {w:gi}
theorem cV{s x:Operand}{t:TypeId}(e:o.op=.call {callee:=.builtin .append,args:= #[s,x],argTypes:= #[t,t]}){b c v:gq}(g:a.eval s=b)(h:a.eval x=c){w':gi}(f:(gp #[t,t] o.type #[b,c]).run P w=.ok v w')(d:K (a.put o.dst v) w'):o.wp P a w K Q:=by
 unfold Oper.wp execOp;simp only[e,resolve,invoke,builtin,Sem.run_bind,Sem.run_pure,Result.andThen_ok,List.map_toArray,List.map_cons,List.map_nil,g,h,f];exact d
end
end
section
open Go.RowKit Go.Maps Go.Shelf
theorem cR(n:Int)(M:Nat)(h:0<M):∃m:Nat,n.emod M=m/\m<M:=by
 have b:0<=n.emod M:=Int.emod_nonneg n (by omega);have c:n.emod M<M:=Int.emod_lt_of_pos n (by omega);exact⟨(n.emod M).toNat,(Int.toNat_of_nonneg b).symm,by omega⟩
theorem dC(n:Int)(M m:Nat)(b:1<=M)(c:M<=1000000)(h:n.emod M=m)(W:gi):gt prog 24 #[n,(M:Int)] W λe w'=>e=fl (m:Int)/\W=w':=by
 refine(ki n M W (by omega) (by omega)).mono ?_;rintro e w'⟨rfl,rfl⟩;rw[h];exact⟨rfl,rfl⟩
theorem fJ(l:List Bs)(n:Int)(M m:Nat)(b:l=M)(h:n.emod M=m):pick l n=l.getD m []:=by
 unfold pick;rw[b,h];rfl
theorem fO{fs:List ag}{n:Nat}(h:fs=n)(x:ag):Hid ((fs++[x]).length=n+1):=by
 unfold Hid;simp[h]
theorem vl{n:Int}(h:i64B n)(m:Int)(c:m=3∨m=4∨m=5): -4611686018427387904<=n.tdiv m/\n.tdiv m<=4611686018427387904:=by
 unfold i64B at h;rcases Int.le_total 0 n with b|b
 .rw[gd b];rcases c with rfl|rfl|rfl<;>omega
 have d:n.tdiv m= -((-n).tdiv m):=by rw[Int.neg_tdiv];omega
 rw[d,gd (by omega)];rcases c with rfl|rfl|rfl<;>omega
theorem Bm(a b c d e f:Int)(hc:i64B c)(hd:i64B d)(he:i64B e)(w:gi):
 gt prog 83 #[.agg #[a,b,c,d,e,f]] w λe' w'=>∃(r:Option Addr)(t:Nat),e'=fl (.agg #[J fc (madeR ⟨a,b,c,d,e,f⟩).kind.toNat,J fc 109,.slice r (madeR ⟨a,b,c,d,e,f⟩).fields.length t])/\ah w w' w' (.slice r (madeR ⟨a,b,c,d,e,f⟩).fields.length t) (madeR ⟨a,b,c,d,e,f⟩).fields/\Bw w w':=by
 obtain⟨ma,d6,la⟩:=cR a 5 (by omega);obtain⟨mb,d7,lb⟩:=cR b 8 (by omega);have cl:Hid (∀W,gt prog 24 #[a,J U 5] W λe w'=>e=fl (ma:Int)/\W=w'):=dC a 5 ma (by omega) (by omega) d6;have cm:Hid (∀W,gt prog 24 #[b,J U 8] W λe w'=>e=fl (mb:Int)/\W=w'):=dC b 8 mb (by omega) (by omega) d7;obtain⟨kd,bs⟩:∃kd:UInt8,(madeR ⟨a,b,c,d,e,f⟩).kind=kd:=⟨_,rfl⟩;have cu:Hid (kd=if ma=4 then 109 else 97):=by
  unfold Hid;rw[<- bs];unfold madeR;dsimp only;have:a.emod 5=(ma:Int):=d6;rw[this];by_cases h4:ma=4
  .rw[if_pos h4,if_pos (by omega)]
  rw[if_neg h4,if_neg (by omega)]
 obtain⟨aT,hX⟩:=Qe (pick yearsL b);have HX:Hid (yearsL.getD mb []=aT):=by unfold Hid;rw[<- hX];exact(fJ yearsL b 8 mb rfl d7).symm
 have em:aT.length<=12:=by
  rw[<- HX.o];have:∀m,m<8->(yearsL.getD m []).length<=12:=by decide
  exact this mb lb
 have bY:Hid (made008 b=if b.tmod 2=0 then[⟨lZ,[],[56,53,48,49,48,49,115]++(aT++[32,32,32,32,120,120]),[]⟩]else[]):=by unfold Hid made008;rw[hX,List.append_assoc]
 obtain⟨w2,b7⟩:=Qe ((w.alloc (bk #[a,b,c,d,e,f] 45)).alloc (bk #[J fc 0,J fc 0,fb Y 0 0] 62));have bb:Bw w w2:=by rw[<- b7];exact((fz _ w).alloc (ft _) _).alloc (by simp) _
 have hA:w2.heap[w.heap.size]?=X (bk #[a,b,c,d,e,f] 45 (0,0)):=by rw[<- b7,fy _ _ _ (by simp)];exact fr w _
 have hB:w2.heap[w.heap.size+1]?=X (bk #[J fc 0,J fc 0,fb Y 0 0] 62 (0,0)):=by rw[<- b7];have:=fr (w.alloc (bk #[a,b,c,d,e,f] 45)) (bk #[J fc 0,J fc 0,fb Y 0 0] 62);rwa[World.size_alloc]at this
 have ch:w2.heap.size=w+2:=by rw[<- b7];simp
 have cs:Hid (MdI w w (w2.alloc (bk #[J fc kd,J fc 109,fb Y 0 0] 62)) ⟨a,b,c,d,e,f⟩ kd (fb Y 0 0) [] []):=by have ho:∀k,k<w2.heap.size->(w2.alloc (bk #[J fc kd,J fc 109,fb Y 0 0] 62)).heap[k]?=w2.heap[k]?:=λk I=>fy _ _ _ I;refine⟨bb.alloc (by omega) _,by simp;omega,(ho _ (by omega)).trans hA,(ho _ (by omega)).trans hB,?_,bM.nil _ _,λp hp=>(by cases hp)⟩;rw[<- ch];exact fr w2 _
 have cz:=Z b7;have HA:=Z hA;have cP:=Z ch;obtain⟨R,hR⟩:=Qe (madeR ⟨a,b,c,d,e,f⟩);have HR:=Z hR;rw[hR]at bs ⊢;have dz:=Z bs;clear b7 bb hA hB ch hX hR bs;go_enter func83,ntmps83;go_upto_region 1 with fail;rw[cz.o];go_cut [3] (λp wx=>p=fn (X ⟨w.heap.size+2,0,Y⟩)/\Hid (MdI w w wx ⟨a,b,c,d,e,f⟩ kd (fb Y 0 0) [] []))
 case first=>
  have e0:w2.cell? w=X (J U a):=(ab HA.o 0).trans rfl;have I:=cu.o;obtain rfl|rfl|rfl|rfl|rfl:ma=0∨ma=1∨ma=2∨ma=3∨ma=4:=by omega
  all_goals
   first
    |obtain rfl:kd=97:=I
    |obtain rfl:kd=109:=I
   go_wp2_with (go_at_call 24;(refine gb (cl.o _) ?_;rintro e w3⟨rfl,rfl⟩))
   go_meet
   refine⟨?_,cs.o⟩
   rw[cP.o]
 obtain⟨rfl,y⟩:=hcut;clear cs cl HA cz cP cu;obtain⟨N,hY⟩:=Qe wc.heap.size;have ej:Hid (w+3<=N):=by unfold Hid;rw[<- hY];exact y.o.lo
 go_upto_region 2 with fail;go_cut [4] (λp wx=>p=fb (X ⟨N,0,Y⟩) 8 8/\∃(r:Option Addr)(t:Nat),Hid (MdI w w wx ⟨a,b,c,d,e,f⟩ kd (fb r 0 t) [] [(N,yearsL)]))
 case first=> go_wp2_with fail;go_meet;refine⟨rfl,Y,0,?_⟩;have h:=y.strs yearsL;rw[hY]at h;exact h
 obtain⟨rfl,r,t,cx⟩:=hcut;clear hY y;have y:=cx;clear cx;have e1:=(ab y.arg 1).trans rfl;have x1:wc.cell? ⟨N,mb,Y⟩=X (S aT):=by have:=y.self.at (List.mem_singleton.2 rfl:(N,yearsL)∈[(N,yearsL)]) (m:=mb) (by exact lb);rw[HX.o]at this;exact this
 have ib:(mb:Int)<8:=by omega
 go_upto_region 4 with(go_at_call 24;(refine gb (cm.o _) ?_;rintro e w3⟨rfl,rfl⟩))
 go_upto_if 26 with fail;clear e1 x1;go_cut [] (λwx=>∃(r:Option Addr)(t:Nat),Hid (MdI w w wx ⟨a,b,c,d,e,f⟩ kd (.slice r (made008 b).length t) (made008 b) [(N,yearsL)]))
 case first=>
  by_cases bb:b.tmod 2=0
  .have a9:Hid (made008 b=[⟨lZ,[],[56,53,48,49,48,49,115]++(aT++[32,32,32,32,120,120]),[]⟩]):=by unfold Hid;rw[bY.o,if_pos bb]
   have c2:wc.cell? ⟨w.heap.size+2,2,Y⟩=X (fb r 0 t):=(ab y.rcd 2).trans rfl;obtain⟨a',c',w8,F,a1,a4,b0,b1,V⟩:=y.o.app (W:=wc) (fz _ _) (n:=0) (m:=1) rfl rfl (by omega) ⟨lZ,[],56::53::48::49::48::49::115::(aT++[32,32,32,32,120,120]),[]⟩ (fb Y 0 0) ⟨Y,0,rfl,λh=>absurd rfl h⟩;dsimp only at F;have ac:=Z F;have e3:=Z V;clear F V a1 a4;go_wp2_with (at_builtin;refine wpList_plain rfl λK l=>?_;refine cV rfl rfl rfl ac.o ?_;refine l _ _ ?_)
   go_meet;refine⟨a',c',?_⟩;rw[a9.o];exact e3.o
  have a9:Hid (made008 b=[]):=by unfold Hid;rw[bY.o,if_neg bb]
  go_wp2_with fail;go_meet;refine⟨r,t,?_⟩;rw[a9.o];exact y.o
 obtain⟨r,t,a8⟩:=hcut;clear y ib bY cm;have y:=a8;clear a8;obtain⟨F0,bd⟩:=Qe (made008 b);have eq:F0.length<=1:=by rw[<- bd];unfold made008;split<;>simp
 rw[bd]at y;have dd:=Z bd;clear bd;obtain⟨Y2,cQ⟩:=Qe wc.heap.size;go_upto_region 6 with fail;go_cut [6] (λp wx=>p=fb Y2 7 7/\Hid (MdI w w wx ⟨a,b,c,d,e,f⟩ kd (fb r F0.length t) F0 [(N,yearsL),(Y2,booksL)]))
 case first=> go_wp2_with fail;go_meet;refine⟨rfl,?_⟩;have h:=y.strs booksL;rw[cQ]at h;exact h
 obtain⟨rfl,a8⟩:=hcut;clear y cQ;obtain⟨m3,c6,l3⟩:=cR c 3 (by omega);obtain⟨m7,c7,l7⟩:=cR c 7 (by omega);have bt:Hid (∀W,gt prog 24 #[c,J U 3] W λe w'=>e=fl (m3:Int)/\W=w'):=dC c 3 m3 (by omega) (by omega) c6;have bv:Hid (∀W,gt prog 24 #[c,J U 7] W λe w'=>e=fl (m7:Int)/\W=w'):=dC c 7 m7 (by omega) (by omega) c7;have d9: -4611686018427387904<=c.tdiv 3/\c.tdiv 3<=4611686018427387904:=(by
  unfold i64B at hc;rcases Int.le_total 0 c with h|h
  .rw[gd h];omega
  have h4:c.tdiv 3= -((-c).tdiv 3):=by rw[Int.neg_tdiv];omega
  rw[h4,gd (by omega)];omega)
 obtain⟨c3,c0⟩:=Qe (c.tdiv 3);rw[c0]at d9;obtain⟨cd,b4⟩:∃cd:UInt8,(if m7=6 then(122:UInt8)else 97)=cd:=⟨_,rfl⟩;have cy:Hid (((m7:Int).tdiv 6=1/\cd=122)∨((m7:Int).tdiv 6=0/\cd=97)):=by
  unfold Hid;rw[gd (by omega),<- b4];by_cases h6:m7=6
  .rw[if_pos h6];exact .inl ⟨by omega,rfl⟩
  rw[if_neg h6];exact .inr ⟨by omega,rfl⟩
 have cj:Hid (∀k:Nat,gE c k=⟨dh,[32,32],[],[⟨cd,pick booksL (c3+k)⟩]⟩):=λk=>by
  unfold gE;rw[c0,<- b4];have:c.emod 7=(m7:Int):=c7;rw[this];by_cases h6:m7=6
  .rw[if_pos h6,if_pos (by omega)]
  rw[if_neg h6,if_neg (by omega)]
 have cv:Hid (gm c=(List.range m3).map (gE c)):=by unfold Hid gm;have:c.emod 3=(m3:Int):=c6;rw[this];rfl
 clear c6 c7 b4;go_upto_region 8 with fail;go_loopw [7] (λi wr=>∃(k:Nat)(r:Option Addr)(t n:Nat)(fs:List ag),i=J U k/\k<=m3/\Hid (fs=F0++(List.range k).map (gE c))/\Hid (fs=n)/\n<=1+k/\Hid (MdI w w wr ⟨a,b,c,d,e,f⟩ kd (fb r n t) fs [(N,yearsL),(Y2,booksL)])) (λi _=>m3-(intOf i).toNat)
 case atStart=>exact⟨0,r,t,_,F0,rfl,Nat.zero_le _,by simp[Hid],rfl,by omega,a8.o⟩
 obtain⟨k,r,t,n,fs,rfl,I,bO,a5,hn,y⟩:=hrel;have e2:wr.cell? ⟨w,2,Y⟩=X (J U c):=(ab y.arg 2).trans rfl;by_cases hlt:k<m3
 .obtain⟨mk,cg,lk⟩:=cR (c3+k) 7 (by omega);have cp:Hid (∀W,gt prog 24 #[(c3+(k:Int)),J U 7] W λe w'=>e=fl (mk:Int)/\W=w'):=dC _ 7 mk (by omega) (by omega) cg;obtain⟨A,ao⟩:=Qe (pick booksL (c3+k));have b2:Hid (booksL.getD mk []=A):=by unfold Hid;rw[<- ao];exact(fJ booksL _ 7 mk rfl cg).symm
  have ci:Hid (fs++[⟨dh,[32,32],[],[⟨cd,A⟩]⟩]=F0++(List.range (k+1)).map (gE c)):=by unfold Hid;rw[bO.o,List.range_succ,List.map_append,List.append_assoc,List.map_singleton,cj.o k,ao]
  clear cg ao;have al:Hid (∀W,wr.grownBy W (fp r n t).ownBlock->W.cell? ⟨w,2,Y⟩=X (J U c)/\W.cell? ⟨w.heap.size+2,2,Y⟩=X (fb r n t)/\W.cell? ⟨Y2,mk,Y⟩=X (S A)):=λW hW=>by have hs:=y.s hW;refine⟨(ab hs.arg 2).trans rfl,(ab hs.rcd 2).trans rfl,?_⟩;have:=hs.at (by simp:(Y2,booksL)∈[(N,yearsL),(Y2,booksL)]) (m:=mk) (by exact lk);rw[b2.o]at this;exact this
  have ib:(mk:Int)<7:=by omega
  have d8:IntKind.i64.wrap c3=c3:=gn _ (by omega);have b7:IntKind.i64.wrap (c3+(k:Int))=c3+(k:Int):=gn _ (by omega);go_upto_region 10 with(go_at_call 24;(refine gb (bt.o _) ?_;rintro e w3⟨rfl,rfl⟩))
  clear e2;have az:n<=1000:=by omega
  obtain⟨hq,b4⟩|⟨hq,b4⟩:((m7:Int).tdiv 6=1/\cd=122)∨((m7:Int).tdiv 6=0/\cd=97):=cy.o
  .subst b4;have a0:wr.grownBy wr.drew (fp r n t).ownBlock:=⟨rfl,rfl,rfl,ft _,λ_ _ _=>rfl⟩;have bl:Bw wr wr.drew:=(fz _ wr).drew;go_wp2_with fail;refine wT (λW=>wr.grownBy W (fp r n t).ownBlock) 22 ?_;refine Qb [0,2,7,8,11,1,3,9,10,12] a0 al ?_;refine Dp 4 λK l=>?_;go_simp;go_at_call 24;with_reducible refine gb (bv.o _) ?_
   rintro e w2⟨rfl,rfl⟩;refine l _ _ (λ_=>a0) ?_;clear l K;go_simp;refine Qa [5] a0 ?_
   refine bZ (i:=6) (v:=J fc 122) rfl (by kernel_rfl) (by kernel_rfl) (by kernel_rfl) (by kernel_rfl) (by decide) (λ_ _ _ h=>h) a0 (Or.inl ⟨by rfl,?_⟩) ?_;focus (intro w' h;go_simp;rfl)
   (try go_simp)
   refine Dp 13 λK l=>?_;go_simp;go_at_call 24;with_reducible refine gb (cp.o _) ?_
   rintro e w2⟨rfl,rfl⟩;refine l _ _ (λ_=>a0) ?_;clear l K;go_simp;refine Qb [14,15,16] a0 al ?_;refine Dp 17 λK l=>?_;go_simp;obtain⟨E,D⟩:=Qe ((wr.alloc (bk #[J fc 122,S A] 120)).drew);have z:Bw wr E:=by rw[<- D];exact((fz _ wr).alloc (ft _) _).drew
   have M:wr.grownBy E (fp r n t).ownBlock:=⟨z.os,z.tape,z.output,z.size,λk I _=>z.block k I⟩;obtain⟨O,L⟩:=Qe wr.heap.size;have ad:E.heap[O]?=X (bk #[J fc 122,S A] 120 (0,0)):=by rw[<- D,<- L];exact fr wr _
   have b5:wr<=O:=by rw[<- L];exact ft _
   rw[L,D];clear D;refine l _ _ (λ_=>M) ?_;clear l K;go_simp;refine Qa [18] M ?_
   have a2:=l0 (c1:=122) (t1:=A) (lo:=w.heap.size+3) (g:=(fp r n t).ownBlock) ad (by have:=y.o.lo;omega) (λe=>by have:=eH y.o.own e;omega);obtain⟨a',c',w8,F,a1,a4,b0,b1,V⟩:=y.app z a5.o rfl az ⟨dh,[32,32],[],[⟨122,A⟩]⟩ _ a2;dsimp only[dh]at F;have ac:=Z F;have a9:=Z V;clear F V a4 a2;refine Dp 19 λK l=>?_;go_simp;refine l _ _ (λ_=>M.trans ((fx _ _ Y).but _)) ?_;clear l K;go_simp;refine Dp 20 λK l=>?_;refine cV rfl rfl rfl ac.o ?_;refine l _ _ (λ_=>a1) ?_;clear l K;go_simp;refine Qa [21] a1 ?_
   refine Dl 22 ?_;go_wp2_with fail;go_roundw
   case rel=> refine⟨k+1,a',c',n+1,_,by go_num,hlt,ci,?_,by omega,a9⟩;unfold Hid;rw[gs,a5.o];rfl
   simp[intOf];omega
  subst b4;have a0:wr.grownBy wr.drew (fp r n t).ownBlock:=⟨rfl,rfl,rfl,ft _,λ_ _ _=>rfl⟩;have bl:Bw wr wr.drew:=(fz _ wr).drew;go_wp2_with fail;refine wT (λW=>wr.grownBy W (fp r n t).ownBlock) 22 ?_;refine Qb [0,2,7,8,11,1,3,9,10,12] a0 al ?_;refine Dp 4 λK l=>?_;go_simp;go_at_call 24;with_reducible refine gb (bv.o _) ?_
  rintro e w2⟨rfl,rfl⟩;refine l _ _ (λ_=>a0) ?_;clear l K;go_simp;refine Qa [5] a0 ?_
  refine bZ (i:=6) (v:=J fc 97) rfl (by kernel_rfl) (by kernel_rfl) (by kernel_rfl) (by kernel_rfl) (by decide) (λ_ _ _ h=>h) a0 (Or.inl ⟨by rfl,?_⟩) ?_;focus (intro w' h;go_simp;rfl)
  (try go_simp)
  refine Dp 13 λK l=>?_;go_simp;go_at_call 24;with_reducible refine gb (cp.o _) ?_
  rintro e w2⟨rfl,rfl⟩;refine l _ _ (λ_=>a0) ?_;clear l K;go_simp;refine Qb [14,15,16] a0 al ?_;refine Dp 17 λK l=>?_;go_simp;obtain⟨E,D⟩:=Qe ((wr.alloc (bk #[J fc 97,S A] 120)).drew);have z:Bw wr E:=by rw[<- D];exact((fz _ wr).alloc (ft _) _).drew
  have M:wr.grownBy E (fp r n t).ownBlock:=⟨z.os,z.tape,z.output,z.size,λk I _=>z.block k I⟩;obtain⟨O,L⟩:=Qe wr.heap.size;have ad:E.heap[O]?=X (bk #[J fc 97,S A] 120 (0,0)):=by rw[<- D,<- L];exact fr wr _
  have b5:wr<=O:=by rw[<- L];exact ft _
  rw[L,D];clear D;refine l _ _ (λ_=>M) ?_;clear l K;go_simp;refine Qa [18] M ?_
  have a2:=l0 (c1:=97) (t1:=A) (lo:=w.heap.size+3) (g:=(fp r n t).ownBlock) ad (by have:=y.o.lo;omega) (λe=>by have:=eH y.o.own e;omega);obtain⟨a',c',w8,F,a1,a4,b0,b1,V⟩:=y.app z a5.o rfl az ⟨dh,[32,32],[],[⟨97,A⟩]⟩ _ a2;dsimp only[dh]at F;have ac:=Z F;have a9:=Z V;clear F V a4 a2;refine Dp 19 λK l=>?_;go_simp;refine l _ _ (λ_=>M.trans ((fx _ _ Y).but _)) ?_;clear l K;go_simp;refine Dp 20 λK l=>?_;refine cV rfl rfl rfl ac.o ?_;refine l _ _ (λ_=>a1) ?_;clear l K;go_simp;refine Qa [21] a1 ?_
  refine Dl 22 ?_;go_wp2_with fail;go_roundw
  case rel=> refine⟨k+1,a',c',n+1,_,by go_num,hlt,ci,?_,by omega,a9⟩;unfold Hid;rw[gs,a5.o];rfl
  simp[intOf];omega
 have e7:k=m3:=by omega
 subst e7;have eg:=bt;have dk:Hid (fs=F0++gm c):=by unfold Hid;rw[cv.o];exact bO.o
 have e8:n<=4:=by omega
 obtain⟨Y3,d0⟩:=Qe wr.heap.size;clear bO cj cv bt bv cy d9 c0 l3 l7 hlt I hn;go_upto_region 11 with(go_at_call 24;(refine gb (eg.o _) ?_;rintro e w3⟨rfl,rfl⟩))
 clear e2;go_cut [8] (λp wx=>p=fb Y3 6 6/\Hid (MdI w w wx ⟨a,b,c,d,e,f⟩ kd (fb r n t) fs [(N,yearsL),(Y2,booksL),(Y3,namesL)]))
 case first=> go_wp2_with fail;go_meet;refine⟨rfl,?_⟩;have h:=y.strs namesL;rw[d0]at h;exact h
 obtain⟨rfl,a8⟩:=hcut;clear y d0;have y:=a8;clear a8;have x3:wc.cell? ⟨w,3,Y⟩=X (J U d):=(ab y.arg 3).trans rfl;go_upto_if 70 with fail;clear x3;go_cut [] (λwx=>∃(r:Option Addr)(t G:Nat)(ay:List ag),Hid (ay=fs++eT d)/\Hid (ay=G)/\G<=5/\Hid (MdI w w wx ⟨a,b,c,d,e,f⟩ kd (fb r G t) ay [(N,yearsL),(Y2,booksL),(Y3,namesL)]))
 case first=>
  by_cases hd4:d.tmod 4=0
  .have av:Hid (fs=fs++eT d):=by unfold Hid eT;rw[if_neg (by simp[hd4])];simp
   go_wp2_with fail;go_meet;exact⟨r,t,n,fs,av,a5,by omega,y⟩
  have hz:=vl hd 4 (by omega);obtain⟨d4,d2⟩:=Qe (d.tdiv 4);have hz: -4611686018427387904<=d4/\d4<=4611686018427387904:=by rw[<- d2];exact hz
  obtain⟨md,c9,ld⟩:=cR d4 6 (by omega);have da:Hid (∀W,gt prog 24 #[d4,J U 6] W λe w'=>e=fl (md:Int)/\W=w'):=dC d4 6 md (by omega) (by omega) c9;obtain⟨A,ao⟩:=Qe (pick namesL d4);have b2:Hid (namesL.getD md []=A):=by unfold Hid;rw[<- ao];exact(fJ namesL _ 6 md rfl c9).symm
  have av:Hid (fs++[⟨ek,[49,32],[],[⟨97,A⟩]⟩]=fs++eT d):=by unfold Hid eT;rw[if_pos hd4,d2,ao]
  clear c9 ao;have al:Hid (∀W,wc.grownBy W (fp r n t).ownBlock->W.cell? ⟨w,3,Y⟩=X (J U d)/\W.cell? ⟨w.heap.size+2,2,Y⟩=X (fb r n t)/\W.cell? ⟨Y3,md,Y⟩=X (S A)):=λW hW=>by have hs:=y.s hW;refine⟨(ab hs.arg 3).trans rfl,(ab hs.rcd 2).trans rfl,?_⟩;have:=hs.at (by simp:(Y3,namesL)∈[(N,yearsL),(Y2,booksL),(Y3,namesL)]) (m:=md) (by exact ld);rw[b2.o]at this;exact this
  have ib:(md:Int)<6:=by omega
  have d8:IntKind.i64.wrap d4=d4:=gn _ (by omega);have az:n<=1000:=by omega
  have a0:wc.grownBy wc.drew (fp r n t).ownBlock:=⟨rfl,rfl,rfl,ft _,λ_ _ _=>rfl⟩;have bl:Bw wc wc.drew:=(fz _ wc).drew;go_wp2_with fail;refine wT (λW=>wc.grownBy W (fp r n t).ownBlock) 15 ?_;refine Qb [0,2,3,1,4,5] a0 al ?_;refine Dp 6 λK l=>?_;go_simp;go_at_call 24;with_reducible refine gb (da.o _) ?_
  rintro e w2⟨rfl,rfl⟩;refine l _ _ (λ_=>a0) ?_;clear l K;go_simp;refine Qb [7,8,9] a0 al ?_;refine Dp 10 λK l=>?_;go_simp;obtain⟨E,D⟩:=Qe ((wc.alloc (bk #[J fc 97,S A] 120)).drew);have z:Bw wc E:=by rw[<- D];exact((fz _ wc).alloc (ft _) _).drew
  have M:wc.grownBy E (fp r n t).ownBlock:=⟨z.os,z.tape,z.output,z.size,λk I _=>z.block k I⟩;obtain⟨O,L⟩:=Qe wc.heap.size;have ad:E.heap[O]?=X (bk #[J fc 97,S A] 120 (0,0)):=by rw[<- D,<- L];exact fr wc _
  have b5:wc<=O:=by rw[<- L];exact ft _
  rw[L,D];clear D;refine l _ _ (λ_=>M) ?_;clear l K;go_simp;refine Qa [11] M ?_
  have a2:=l0 (c1:=97) (t1:=A) (lo:=w.heap.size+3) (g:=(fp r n t).ownBlock) ad (by have:=y.o.lo;omega) (λe=>by have:=eH y.o.own e;omega);obtain⟨a',c',w8,F,a1,a4,b0,b1,V⟩:=y.app z a5.o rfl az ⟨ek,[49,32],[],[⟨97,A⟩]⟩ _ a2;dsimp only[ek]at F;have ac:=Z F;have a9:=Z V;clear F V a4 a2;refine Dp 12 λK l=>?_;go_simp;refine l _ _ (λ_=>M.trans ((fx _ _ Y).but _)) ?_;clear l K;go_simp;refine Dp 13 λK l=>?_;refine cV rfl rfl rfl ac.o ?_;refine l _ _ (λ_=>a1) ?_;clear l K;go_simp;refine Qa [14] a1 ?_
  refine Dl 15 ?_;go_wp2_with fail;go_meet;exact⟨a',c',n+1,_,av,fO a5.o _,by omega,a9⟩
 obtain⟨r,t,G,ay,dq,bA,er,a8⟩:=hcut;clear y a5;have y:=a8;clear a8;obtain⟨Y4,d1⟩:=Qe wc.heap.size;go_upto_region 14 with fail;go_cut [9] (λp wx=>p=fb Y4 6 6/\Hid (MdI w w wx ⟨a,b,c,d,e,f⟩ kd (fb r G t) ay [(N,yearsL),(Y2,booksL),(Y3,namesL),(Y4,titlesL)]))
 case first=> go_wp2_with fail;go_meet;refine⟨rfl,?_⟩;have h:=y.strs titlesL;rw[d1]at h;exact h
 obtain⟨rfl,a8⟩:=hcut;clear y d1;have y:=a8;clear a8;have x4:wc.cell? ⟨w,4,Y⟩=X (J U e):=(ab y.arg 4).trans rfl;go_upto_if 90 with fail;clear x4;go_cut [] (λwx=>∃(r:Option Addr)(t n3:Nat)(aS:List ag),Hid (aS=ay++eS e)/\Hid (aS=n3)/\n3<=6/\Hid (MdI w w wx ⟨a,b,c,d,e,f⟩ kd (fb r n3 t) aS [(N,yearsL),(Y2,booksL),(Y3,namesL),(Y4,titlesL)]))
 case first=>
  by_cases he5:e.tmod 5=0
  .have av:Hid (ay=ay++eS e):=by unfold Hid eS;rw[if_neg (by simp[he5])];simp
   go_wp2_with fail;go_meet;exact⟨r,t,G,ay,av,bA,by omega,y⟩
  have hz:=vl he 5 (by omega);obtain⟨e5,d3⟩:=Qe (e.tdiv 5);have hz: -4611686018427387904<=e5/\e5<=4611686018427387904:=by rw[<- d3];exact hz
  obtain⟨ax,ca,eQ⟩:=cR e 3 (by omega);obtain⟨b8,cb,eb⟩:=cR e5 6 (by omega);have cq:Hid (∀W,gt prog 24 #[e,J U 3] W λe w'=>e=fl (ax:Int)/\W=w'):=dC e 3 ax (by omega) (by omega) ca;have bw:Hid (∀W,gt prog 24 #[e5,J U 6] W λe w'=>e=fl (b8:Int)/\W=w'):=dC e5 6 b8 (by omega) (by omega) cb;obtain⟨A,ao⟩:=Qe (pick titlesL e5);obtain⟨iv,c4⟩:=Qe (pick inds3L e);have b2:Hid (titlesL.getD b8 []=A):=by unfold Hid;rw[<- ao];exact(fJ titlesL _ 6 b8 rfl cb).symm
  have d5:inds3L.getD ax []=iv:=by rw[<- c4];exact(fJ inds3L _ 3 ax rfl ca).symm
  have bc:Hid (∀(W:gi)(C:Nat),W.heap[C]?=X (bk #[S [48,48],S [48,52],S [49,120]] 9 (0,0))->W.cell? ⟨C,ax,Y⟩=X (S iv)):=λW C h=>by
   rw[ab h,<- d5];have hm:ax=0∨ax=1∨ax=2:=by omega
   rcases hm with rfl|rfl|rfl<;>rfl
  have av:Hid (ay++[⟨cA,iv,[],[⟨97,A⟩,⟨99,[98,121]⟩]⟩]=ay++eS e):=by unfold Hid eS;rw[if_pos he5,d3,ao,c4]
  clear ca cb ao c4 d5;have al:Hid (∀W,wc.grownBy W (fp r G t).ownBlock->W.cell? ⟨w,4,Y⟩=X (J U e)/\W.cell? ⟨w.heap.size+2,2,Y⟩=X (fb r G t)/\W.cell? ⟨Y4,b8,Y⟩=X (S A)):=λW hW=>by have hs:=y.s hW;refine⟨(ab hs.arg 4).trans rfl,(ab hs.rcd 2).trans rfl,?_⟩;have:=hs.at (by simp:(Y4,titlesL)∈[(N,yearsL),(Y2,booksL),(Y3,namesL),(Y4,titlesL)]) (m:=b8) (by exact eb);rw[b2.o]at this;exact this
  have ib:(b8:Int)<6:=by omega
  have ex:(ax:Int)<3:=by omega
  have d8:IntKind.i64.wrap e5=e5:=gn _ (by omega);have az:G<=1000:=by omega
  have a5:=bA;have a0:wc.grownBy wc.drew (fp r G t).ownBlock:=⟨rfl,rfl,rfl,ft _,λ_ _ _=>rfl⟩;have bl:Bw wc wc.drew:=(fz _ wc).drew;go_wp2_with fail;refine wT (λW=>wc.grownBy W (fp r G t).ownBlock) 22 ?_;refine Qb [0,3,8,9,16,1,4,10,11] a0 al ?_;refine cF (i:=2) (j:=5) rfl rfl (by kernel_rfl) rfl rfl (λK l=>?_) (λK l=>?_)
  .go_simp;obtain⟨T,a6⟩:=Qe ((wc.alloc (bk #[S [48,48],S [48,52],S [49,120]] 9)).drew);have H:Bw wc T:=by rw[<- a6];exact((fz _ wc).alloc (ft _) _).drew
   have aa:wc.grownBy T (fp r G t).ownBlock:=⟨H.os,H.tape,H.output,H.size,λk I _=>H.block k I⟩;obtain⟨C,au⟩:=Qe wc.heap.size;have a3:T.heap[C]?=X (bk #[S [48,48],S [48,52],S [49,120]] 9 (0,0)):=by rw[<- a6,<- au];exact fr wc _
   have c5:wc<=C:=by rw[<- au];exact ft _
   rw[au,a6];clear a6;refine l _ _ (λ_=>aa) ?_;clear l K;go_simp;refine dV (λW=>wc.grownBy W (fp r G t).ownBlock/\W.heap[C]?=X (bk #[S [48,48],S [48,52],S [49,120]] 9 (0,0))) (λW h=>h.1) _ _ _ _ ?_;have b3:Hid (∀W:gi,(wc.grownBy W (fp r G t).ownBlock/\W.heap[C]?=X (bk #[S [48,48],S [48,52],S [49,120]] 9 (0,0)))->W.cell? ⟨C,ax,Y⟩=X (S iv)):=λW h=>bc W C h.2;refine Dp 5 λK l=>?_;go_simp;go_at_call 24;with_reducible refine gb (cq.o _) ?_
   rintro e w2⟨rfl,rfl⟩;refine l _ _ (λ_=>⟨aa,a3⟩) ?_;clear l K;go_simp;have u:=tkL [6,7];repeat(refine tkI u ?_ rfl ⟨aa,a3⟩ ?_ ?_;rotate_left;intro w' h;have h7:=b3 w' h;go_simp;rfl;(try go_simp);replace u:=tkO u)
   clear u;refine Dp 12 λK l=>?_;go_simp;go_at_call 24;with_reducible refine gb (bw.o _) ?_
   rintro e w2⟨rfl,rfl⟩;refine l _ _ (λ_=>⟨aa,a3⟩) ?_;clear l K;go_simp;have u:=tkL [13,14,15];repeat(refine tkI u ?_ rfl ⟨aa,a3⟩ ?_ ?_;rotate_left;intro w' h;obtain⟨h0,h1,h2⟩:=al w' h.1;go_simp;rfl;(try go_simp);replace u:=tkO u)
   clear u;refine Dp 17 λK l=>?_;go_simp;obtain⟨E,D⟩:=Qe (T.alloc (bk #[J fc 97,S A,J fc 99,S [98,121]] 120));have z:Bw wc E:=by rw[<- D];exact H.alloc H.size _
   have M:wc.grownBy E (fp r G t).ownBlock:=⟨z.os,z.tape,z.output,z.size,λk I _=>z.block k I⟩;obtain⟨O,L⟩:=Qe T.heap.size;have ad:E.heap[O]?=X (bk #[J fc 97,S A,J fc 99,S [98,121]] 120 (0,0)):=by rw[<- D,<- L];exact fr T _
   have b5:wc<=O:=by rw[<- L];exact H.size
   have a7:E.heap[C]?=X (bk #[S [48,48],S [48,52],S [49,120]] 9 (0,0)):=by rw[<- D,fy _ _ _ (af a3)];exact a3
   rw[L,D];clear D;refine l _ _ (λ_=>⟨M,a7⟩) ?_;clear l K;go_simp;refine tk 18 ?_ rfl ⟨M,a7⟩ ?_ ?_;rotate_left;intro w' h;go_simp;rfl;try go_simp
   have a2:=gT (c1:=97) (t1:=A) (c2:=99) (t2:=[98,121]) (lo:=w.heap.size+3) (g:=(fp r G t).ownBlock) ad (by have:=y.o.lo;omega) (λe=>by have:=eH y.o.own e;omega);obtain⟨a',c',w8,F,a1,a4,b0,b1,V⟩:=y.app z a5.o rfl az ⟨cA,iv,[],[⟨97,A⟩,⟨99,[98,121]⟩]⟩ _ a2;dsimp only[cA]at F;have ac:=Z F;have a9:=Z V;have aC:w8.heap[C]?=X (bk #[S [48,48],S [48,52],S [49,120]] 9 (0,0)):=(a4.block C (af a7) (λe=>by have:=eH y.o.own e.symm;omega)).trans a7;have b6:(E.alloc (bk #[S cA,S iv,S [],fb O 2 2] 123)).heap[C]?=X (bk #[S [48,48],S [48,52],S [49,120]] 9 (0,0)):=by rw[fy _ _ _ (af a7)];exact a7
   clear F V a4 a2;refine Dp 19 λK l=>?_;go_simp;refine l _ _ (λ_=>⟨M.trans ((fx _ _ Y).but _),b6⟩) ?_;clear l K;go_simp;refine Dp 20 λK l=>?_;refine cV rfl rfl rfl ac.o ?_;refine l _ _ (λ_=>⟨a1,aC⟩) ?_;clear l K;go_simp;refine tk 21 ?_ rfl ⟨a1,aC⟩ ?_ ?_;rotate_left;intro w' h;go_simp;rfl;try go_simp
   refine Dl 22 ?_;go_wp2_with fail;go_meet;exact⟨a',c',G+1,_,av,fO a5.o _,by omega,a9⟩
  skip;go_simp;go_at_call 24;with_reducible refine gb (cq.o _) ?_
  rintro e w2⟨rfl,rfl⟩;refine l _ _ (λ_=>a0) ?_;clear l K;go_simp;refine cF (i:=2) (j:=12) rfl rfl (by kernel_rfl) rfl rfl (λK l=>?_) (λK l=>?_)
  .go_simp;obtain⟨T,a6⟩:=Qe ((wc.alloc (bk #[S [48,48],S [48,52],S [49,120]] 9)).drew);have H:Bw wc T:=by rw[<- a6];exact((fz _ wc).alloc (ft _) _).drew
   have aa:wc.grownBy T (fp r G t).ownBlock:=⟨H.os,H.tape,H.output,H.size,λk I _=>H.block k I⟩;obtain⟨C,au⟩:=Qe wc.heap.size;have a3:T.heap[C]?=X (bk #[S [48,48],S [48,52],S [49,120]] 9 (0,0)):=by rw[<- a6,<- au];exact fr wc _
   have c5:wc<=C:=by rw[<- au];exact ft _
   rw[au,a6];clear a6;refine l _ _ (λ_=>aa) ?_;clear l K;go_simp;refine dV (λW=>wc.grownBy W (fp r G t).ownBlock/\W.heap[C]?=X (bk #[S [48,48],S [48,52],S [49,120]] 9 (0,0))) (λW h=>h.1) _ _ _ _ ?_;have b3:Hid (∀W:gi,(wc.grownBy W (fp r G t).ownBlock/\W.heap[C]?=X (bk #[S [48,48],S [48,52],S [49,120]] 9 (0,0)))->W.cell? ⟨C,ax,Y⟩=X (S iv)):=λW h=>bc W C h.2;have u:=tkL [6,7];repeat(refine tkI u ?_ rfl ⟨aa,a3⟩ ?_ ?_;rotate_left;intro w' h;have h7:=b3 w' h;go_simp;rfl;(try go_simp);replace u:=tkO u)
   clear u;refine Dp 12 λK l=>?_;go_simp;go_at_call 24;with_reducible refine gb (bw.o _) ?_
   rintro e w2⟨rfl,rfl⟩;refine l _ _ (λ_=>⟨aa,a3⟩) ?_;clear l K;go_simp;have u:=tkL [13,14,15];repeat(refine tkI u ?_ rfl ⟨aa,a3⟩ ?_ ?_;rotate_left;intro w' h;obtain⟨h0,h1,h2⟩:=al w' h.1;go_simp;rfl;(try go_simp);replace u:=tkO u)
   clear u;refine Dp 17 λK l=>?_;go_simp;obtain⟨E,D⟩:=Qe (T.alloc (bk #[J fc 97,S A,J fc 99,S [98,121]] 120));have z:Bw wc E:=by rw[<- D];exact H.alloc H.size _
   have M:wc.grownBy E (fp r G t).ownBlock:=⟨z.os,z.tape,z.output,z.size,λk I _=>z.block k I⟩;obtain⟨O,L⟩:=Qe T.heap.size;have ad:E.heap[O]?=X (bk #[J fc 97,S A,J fc 99,S [98,121]] 120 (0,0)):=by rw[<- D,<- L];exact fr T _
   have b5:wc<=O:=by rw[<- L];exact H.size
   have a7:E.heap[C]?=X (bk #[S [48,48],S [48,52],S [49,120]] 9 (0,0)):=by rw[<- D,fy _ _ _ (af a3)];exact a3
   rw[L,D];clear D;refine l _ _ (λ_=>⟨M,a7⟩) ?_;clear l K;go_simp;refine tk 18 ?_ rfl ⟨M,a7⟩ ?_ ?_;rotate_left;intro w' h;go_simp;rfl;try go_simp
   have a2:=gT (c1:=97) (t1:=A) (c2:=99) (t2:=[98,121]) (lo:=w.heap.size+3) (g:=(fp r G t).ownBlock) ad (by have:=y.o.lo;omega) (λe=>by have:=eH y.o.own e;omega);obtain⟨a',c',w8,F,a1,a4,b0,b1,V⟩:=y.app z a5.o rfl az ⟨cA,iv,[],[⟨97,A⟩,⟨99,[98,121]⟩]⟩ _ a2;dsimp only[cA]at F;have ac:=Z F;have a9:=Z V;have aC:w8.heap[C]?=X (bk #[S [48,48],S [48,52],S [49,120]] 9 (0,0)):=(a4.block C (af a7) (λe=>by have:=eH y.o.own e.symm;omega)).trans a7;have b6:(E.alloc (bk #[S cA,S iv,S [],fb O 2 2] 123)).heap[C]?=X (bk #[S [48,48],S [48,52],S [49,120]] 9 (0,0)):=by rw[fy _ _ _ (af a7)];exact a7
   clear F V a4 a2;refine Dp 19 λK l=>?_;go_simp;refine l _ _ (λ_=>⟨M.trans ((fx _ _ Y).but _),b6⟩) ?_;clear l K;go_simp;refine Dp 20 λK l=>?_;refine cV rfl rfl rfl ac.o ?_;refine l _ _ (λ_=>⟨a1,aC⟩) ?_;clear l K;go_simp;refine tk 21 ?_ rfl ⟨a1,aC⟩ ?_ ?_;rotate_left;intro w' h;go_simp;rfl;try go_simp
   refine Dl 22 ?_;go_wp2_with fail;go_meet;exact⟨a',c',G+1,_,av,fO a5.o _,by omega,a9⟩
  skip;go_simp;go_at_call 24;with_reducible refine gb (bw.o _) ?_
  rintro e w2⟨rfl,rfl⟩;refine l _ _ (λ_=>a0) ?_;clear l K;go_simp;refine Qb [13,14,15] a0 al ?_;refine cF (i:=2) (j:=17) rfl rfl (by kernel_rfl) rfl rfl (λK l=>?_) (λK l=>?_)
  .go_simp;obtain⟨T,a6⟩:=Qe ((wc.alloc (bk #[S [48,48],S [48,52],S [49,120]] 9)).drew);have H:Bw wc T:=by rw[<- a6];exact((fz _ wc).alloc (ft _) _).drew
   have aa:wc.grownBy T (fp r G t).ownBlock:=⟨H.os,H.tape,H.output,H.size,λk I _=>H.block k I⟩;obtain⟨C,au⟩:=Qe wc.heap.size;have a3:T.heap[C]?=X (bk #[S [48,48],S [48,52],S [49,120]] 9 (0,0)):=by rw[<- a6,<- au];exact fr wc _
   have c5:wc<=C:=by rw[<- au];exact ft _
   rw[au,a6];clear a6;refine l _ _ (λ_=>aa) ?_;clear l K;go_simp;refine dV (λW=>wc.grownBy W (fp r G t).ownBlock/\W.heap[C]?=X (bk #[S [48,48],S [48,52],S [49,120]] 9 (0,0))) (λW h=>h.1) _ _ _ _ ?_;have b3:Hid (∀W:gi,(wc.grownBy W (fp r G t).ownBlock/\W.heap[C]?=X (bk #[S [48,48],S [48,52],S [49,120]] 9 (0,0)))->W.cell? ⟨C,ax,Y⟩=X (S iv)):=λW h=>bc W C h.2;have u:=tkL [6,7];repeat(refine tkI u ?_ rfl ⟨aa,a3⟩ ?_ ?_;rotate_left;intro w' h;have h7:=b3 w' h;go_simp;rfl;(try go_simp);replace u:=tkO u)
   clear u;refine Dp 17 λK l=>?_;go_simp;obtain⟨E,D⟩:=Qe (T.alloc (bk #[J fc 97,S A,J fc 99,S [98,121]] 120));have z:Bw wc E:=by rw[<- D];exact H.alloc H.size _
   have M:wc.grownBy E (fp r G t).ownBlock:=⟨z.os,z.tape,z.output,z.size,λk I _=>z.block k I⟩;obtain⟨O,L⟩:=Qe T.heap.size;have ad:E.heap[O]?=X (bk #[J fc 97,S A,J fc 99,S [98,121]] 120 (0,0)):=by rw[<- D,<- L];exact fr T _
   have b5:wc<=O:=by rw[<- L];exact H.size
   have a7:E.heap[C]?=X (bk #[S [48,48],S [48,52],S [49,120]] 9 (0,0)):=by rw[<- D,fy _ _ _ (af a3)];exact a3
   rw[L,D];clear D;refine l _ _ (λ_=>⟨M,a7⟩) ?_;clear l K;go_simp;refine tk 18 ?_ rfl ⟨M,a7⟩ ?_ ?_;rotate_left;intro w' h;go_simp;rfl;try go_simp
   have a2:=gT (c1:=97) (t1:=A) (c2:=99) (t2:=[98,121]) (lo:=w.heap.size+3) (g:=(fp r G t).ownBlock) ad (by have:=y.o.lo;omega) (λe=>by have:=eH y.o.own e;omega);obtain⟨a',c',w8,F,a1,a4,b0,b1,V⟩:=y.app z a5.o rfl az ⟨cA,iv,[],[⟨97,A⟩,⟨99,[98,121]⟩]⟩ _ a2;dsimp only[cA]at F;have ac:=Z F;have a9:=Z V;have aC:w8.heap[C]?=X (bk #[S [48,48],S [48,52],S [49,120]] 9 (0,0)):=(a4.block C (af a7) (λe=>by have:=eH y.o.own e.symm;omega)).trans a7;have b6:(E.alloc (bk #[S cA,S iv,S [],fb O 2 2] 123)).heap[C]?=X (bk #[S [48,48],S [48,52],S [49,120]] 9 (0,0)):=by rw[fy _ _ _ (af a7)];exact a7
   clear F V a4 a2;refine Dp 19 λK l=>?_;go_simp;refine l _ _ (λ_=>⟨M.trans ((fx _ _ Y).but _),b6⟩) ?_;clear l K;go_simp;refine Dp 20 λK l=>?_;refine cV rfl rfl rfl ac.o ?_;refine l _ _ (λ_=>⟨a1,aC⟩) ?_;clear l K;go_simp;refine tk 21 ?_ rfl ⟨a1,aC⟩ ?_ ?_;rotate_left;intro w' h;go_simp;rfl;try go_simp
   refine Dl 22 ?_;go_wp2_with fail;go_meet;exact⟨a',c',G+1,_,av,fO a5.o _,by omega,a9⟩
  skip;go_simp;obtain⟨E,D⟩:=Qe ((wc.alloc (bk #[J fc 97,S A,J fc 99,S [98,121]] 120)).drew);have z:Bw wc E:=by rw[<- D];exact((fz _ wc).alloc (ft _) _).drew
  have M:wc.grownBy E (fp r G t).ownBlock:=⟨z.os,z.tape,z.output,z.size,λk I _=>z.block k I⟩;obtain⟨O,L⟩:=Qe wc.heap.size;have ad:E.heap[O]?=X (bk #[J fc 97,S A,J fc 99,S [98,121]] 120 (0,0)):=by rw[<- D,<- L];exact fr wc _
  have b5:wc<=O:=by rw[<- L];exact ft _
  rw[L,D];clear D;refine l _ _ (λ_=>M) ?_;clear l K;go_simp;refine Dp 2 λK l=>?_;go_simp;obtain⟨T,a6⟩:=Qe (E.alloc (bk #[S [48,48],S [48,52],S [49,120]] 9));have H:Bw wc T:=by rw[<- a6];exact z.alloc z.size _
  have aa:wc.grownBy T (fp r G t).ownBlock:=⟨H.os,H.tape,H.output,H.size,λk I _=>H.block k I⟩;obtain⟨C,au⟩:=Qe E.heap.size;have a3:T.heap[C]?=X (bk #[S [48,48],S [48,52],S [49,120]] 9 (0,0)):=by rw[<- a6,<- au];exact fr E _
  have c5:wc<=C:=by rw[<- au];exact z.size
  have e9:T.heap[O]?=X (bk #[J fc 97,S A,J fc 99,S [98,121]] 120 (0,0)):=by rw[<- a6,fy _ _ _ (af ad)];exact ad
  rw[au,a6];clear a6;refine l _ _ (λ_=>aa) ?_;clear l K;go_simp;refine dV (λW=>wc.grownBy W (fp r G t).ownBlock/\W.heap[C]?=X (bk #[S [48,48],S [48,52],S [49,120]] 9 (0,0))) (λW h=>h.1) _ _ _ _ ?_;have b3:Hid (∀W:gi,(wc.grownBy W (fp r G t).ownBlock/\W.heap[C]?=X (bk #[S [48,48],S [48,52],S [49,120]] 9 (0,0)))->W.cell? ⟨C,ax,Y⟩=X (S iv)):=λW h=>bc W C h.2;have u:=tkL [6,7];repeat(refine tkI u ?_ rfl ⟨aa,a3⟩ ?_ ?_;rotate_left;intro w' h;have h7:=b3 w' h;go_simp;rfl;(try go_simp);replace u:=tkO u)
  clear u;refine tk 18 ?_ rfl ⟨aa,a3⟩ ?_ ?_;rotate_left;intro w' h;go_simp;rfl;try go_simp
  have a2:=gT (c1:=97) (t1:=A) (c2:=99) (t2:=[98,121]) (lo:=w.heap.size+3) (g:=(fp r G t).ownBlock) e9 (by have:=y.o.lo;omega) (λe=>by have:=eH y.o.own e;omega);obtain⟨a',c',w8,F,a1,a4,b0,b1,V⟩:=y.app H a5.o rfl az ⟨cA,iv,[],[⟨97,A⟩,⟨99,[98,121]⟩]⟩ _ a2;dsimp only[cA]at F;have ac:=Z F;have a9:=Z V;have aC:w8.heap[C]?=X (bk #[S [48,48],S [48,52],S [49,120]] 9 (0,0)):=(a4.block C (af a3) (λe=>by have:=eH y.o.own e.symm;omega)).trans a3;have b6:(T.alloc (bk #[S cA,S iv,S [],fb O 2 2] 123)).heap[C]?=X (bk #[S [48,48],S [48,52],S [49,120]] 9 (0,0)):=by rw[fy _ _ _ (af a3)];exact a3
  clear F V a4 a2;refine Dp 19 λK l=>?_;go_simp;refine l _ _ (λ_=>⟨aa.trans ((fx _ _ Y).but _),b6⟩) ?_;clear l K;go_simp;refine Dp 20 λK l=>?_;refine cV rfl rfl rfl ac.o ?_;refine l _ _ (λ_=>⟨a1,aC⟩) ?_;clear l K;go_simp;refine tk 21 ?_ rfl ⟨a1,aC⟩ ?_ ?_;rotate_left;intro w' h;go_simp;rfl;try go_simp
  refine Dl 22 ?_;go_wp2_with fail;go_meet;exact⟨a',c',G+1,_,av,fO a5.o _,by omega,a9⟩
 obtain⟨r,t,n3,aS,ds,bB,es,a8⟩:=hcut;clear y bA;have y:=a8;clear a8;have x5:wc.cell? ⟨w,5,Y⟩=X (J U f):=(ab y.arg 5).trans rfl;go_upto_if 116 with fail;clear x5;go_cut [] (λwx=>∃(r:Option Addr)(t n4:Nat)(b9:List ag),Hid (b9=aS++eR f)/\Hid (b9=n4)/\n4<=7/\Hid (MdI w w wx ⟨a,b,c,d,e,f⟩ kd (fb r n4 t) b9 [(N,yearsL),(Y2,booksL),(Y3,namesL),(Y4,titlesL)]))
 case first=>
  by_cases hf3:f.tmod 3=0
  .have av:Hid (aS=aS++eR f):=by unfold Hid eR;rw[if_neg (by simp[hf3])];simp
   go_wp2_with fail;go_meet;exact⟨r,t,n3,aS,av,bB,by omega,y⟩
  obtain⟨mf,cc,lf⟩:=cR f 8 (by omega);have dc:Hid (∀W,gt prog 24 #[f,J U 8] W λe w'=>e=fl (mf:Int)/\W=w'):=dC f 8 mf (by omega) (by omega) cc;obtain⟨A,ao⟩:=Qe (pick yearsL f);have b2:Hid (yearsL.getD mf []=A):=by unfold Hid;rw[<- ao];exact(fJ yearsL _ 8 mf rfl cc).symm
  have av:Hid (aS++[⟨lY,[32,32],[],[⟨97,[80,97,114,105,115,32,49,57,48,48]⟩,⟨99,A⟩]⟩]=aS++eR f):=by unfold Hid eR;rw[if_pos hf3,ao]
  clear cc ao;have al:Hid (∀W,wc.grownBy W (fp r n3 t).ownBlock->W.cell? ⟨w,5,Y⟩=X (J U f)/\W.cell? ⟨w.heap.size+2,2,Y⟩=X (fb r n3 t)/\W.cell? ⟨N,mf,Y⟩=X (S A)):=λW hW=>by have hs:=y.s hW;refine⟨(ab hs.arg 5).trans rfl,(ab hs.rcd 2).trans rfl,?_⟩;have:=hs.at (by simp:(N,yearsL)∈[(N,yearsL),(Y2,booksL),(Y3,namesL),(Y4,titlesL)]) (m:=mf) (by exact lf);rw[b2.o]at this;exact this
  have ib:(mf:Int)<8:=by omega
  have az:n3<=1000:=by omega
  have a5:=bB;have a0:wc.grownBy wc.drew (fp r n3 t).ownBlock:=⟨rfl,rfl,rfl,ft _,λ_ _ _=>rfl⟩;have bl:Bw wc wc.drew:=(fz _ wc).drew;go_wp2_with fail;refine wT (λW=>wc.grownBy W (fp r n3 t).ownBlock) 15 ?_;refine Qb [0,2,3,4,1,5] a0 al ?_;refine Dp 6 λK l=>?_;go_simp;go_at_call 24;with_reducible refine gb (dc.o _) ?_
  rintro e w2⟨rfl,rfl⟩;refine l _ _ (λ_=>a0) ?_;clear l K;go_simp;refine Qb [7,8,9] a0 al ?_;refine Dp 10 λK l=>?_;go_simp;obtain⟨E,D⟩:=Qe ((wc.alloc (bk #[J fc 97,S [80,97,114,105,115,32,49,57,48,48],J fc 99,S A] 120)).drew);have z:Bw wc E:=by rw[<- D];exact((fz _ wc).alloc (ft _) _).drew
  have M:wc.grownBy E (fp r n3 t).ownBlock:=⟨z.os,z.tape,z.output,z.size,λk I _=>z.block k I⟩;obtain⟨O,L⟩:=Qe wc.heap.size;have ad:E.heap[O]?=X (bk #[J fc 97,S [80,97,114,105,115,32,49,57,48,48],J fc 99,S A] 120 (0,0)):=by rw[<- D,<- L];exact fr wc _
  have b5:wc<=O:=by rw[<- L];exact ft _
  rw[L,D];clear D;refine l _ _ (λ_=>M) ?_;clear l K;go_simp;refine Qa [11] M ?_
  have a2:=gT (c1:=97) (t1:=[80,97,114,105,115,32,49,57,48,48]) (c2:=99) (t2:=A) (lo:=w.heap.size+3) (g:=(fp r n3 t).ownBlock) ad (by have:=y.o.lo;omega) (λe=>by have:=eH y.o.own e;omega);obtain⟨a',c',w8,F,a1,a4,b0,b1,V⟩:=y.app z a5.o rfl az ⟨lY,[32,32],[],[⟨97,[80,97,114,105,115,32,49,57,48,48]⟩,⟨99,A⟩]⟩ _ a2;dsimp only[lY]at F;have ac:=Z F;have a9:=Z V;clear F V a4 a2;refine Dp 12 λK l=>?_;go_simp;refine l _ _ (λ_=>M.trans ((fx _ _ Y).but _)) ?_;clear l K;go_simp;refine Dp 13 λK l=>?_;refine cV rfl rfl rfl ac.o ?_;refine l _ _ (λ_=>a1) ?_;clear l K;go_simp;refine Qa [14] a1 ?_
  refine Dl 15 ?_;go_wp2_with fail;go_meet;exact⟨a',c',n3+1,_,av,fO a5.o _,by omega,a9⟩
 obtain⟨r,t,n4,b9,dx,dy,e8,a8⟩:=hcut;clear y bB;have y:=a8;clear a8;have r0:wc.cell? ⟨w.heap.size+2,0,Y⟩=X (J fc kd):=(ab y.rcd 0).trans rfl;have r1:wc.cell? ⟨w.heap.size+2,1,Y⟩=X (J fc 109):=(ab y.rcd 1).trans rfl;have r2:wc.cell? ⟨w.heap.size+2,2,Y⟩=X (fb r n4 t):=(ab y.rcd 2).trans rfl;have y0:wc.cell? ⟨w.heap.size+1,0,Y⟩=X (J fc 0):=(ab y.res 0).trans rfl;have y1:wc.cell? ⟨w.heap.size+1,1,Y⟩=X (J fc 0):=(ab y.res 1).trans rfl;have y2:wc.cell? ⟨w.heap.size+1,2,Y⟩=X (fb Y 0 0):=(ab y.res 2).trans rfl;have z0:=ae y.res 0;have z1:=ae y.res 1;have z2:=ae y.res 2;have e4:Hid (R.fields=b9):=by unfold Hid;rw[<- HR.o,dx.o,ds.o,dq.o,dk.o,<- dd.o];rfl
 go_wp2_with fail;refine bodyPost_ret (v:=.agg #[J fc kd,J fc 109,fb r n4 t]) (by rw[df rfl];go_simp) rfl ?_;have e6:Bw w (((wc.setCell ⟨w.heap.size+1,0,Y⟩ (J fc kd)).setCell ⟨w.heap.size+1,1,Y⟩ (J fc 109)).setCell ⟨w.heap.size+1,2,Y⟩ (fb r n4 t)):=((y.o.b.setCell (p:=⟨w.heap.size+1,0,Y⟩) (by simp) _).setCell (p:=⟨w.heap.size+1,1,Y⟩) (by simp) _).setCell (p:=⟨w.heap.size+1,2,Y⟩) (by simp) _;rw[dz.o,e4.o,dy.o];refine⟨r,t,rfl,?_,e6⟩;have ho:=y.o.own.keep (w':=(((wc.setCell ⟨w.heap.size+1,0,Y⟩ (J fc kd)).setCell ⟨w.heap.size+1,1,Y⟩ (J fc 109)).setCell ⟨w.heap.size+1,2,Y⟩ (fb r n4 t))) (λk I _=>by rw[gf _ _ _ _ (by simp;omega),gf _ _ _ _ (by simp;omega),gf _ _ _ _ (by simp;omega)]) (by simp);exact ho.fields (by omega)
end
end Go.Proofs.YtjcimanddakkaaaGreatDoor
