/- Lemmas. -/
import Derived.Test.YtjcimanddakkaaaGreatDoorCT12
import Derived.Test.YtjcimanddakkaaaGreatDoorCT30
import Derived.Deep.CutBlock
set_option maxRecDepth 100000
set_option maxHeartbeats 8000000
namespace Go.Proofs.YtjcimanddakkaaaGreatDoor
open _root_.Option renaming some→X,none→Y
open Go.Value renaming slice→fn,int→J,pointer→hr,bool→hK
open Go.Obj renaming cells→gs
open Go.IntKind renaming u8→h1,i64→U
open Go.Ending renaming returned→hk
open Go.Lib renaming hid→Z
open Tryz
open Go.RowKit.Below renaming heap_setCell→iv,refl→jn,heap_alloc→j0
open _root_.List renaming setIfInBounds_toArray→iD,set_cons_zero→iF,set_cons_succ→iN,eq_nil_of_length_eq_zero→j1,getElem_mem→j4,flatMap_cons→kb,getD_eq_getElem?_getD→kc,mem_singleton→kl,length_append→kq
open Go.Calls renaming mono→iP
open Go.Obj renaming cells→iQ
open Go renaming World→iS,Value→ja,wpList_buildTo→kn,Calls→k0,info_parts→k2
open Go.World renaming alloc_heap_new→jb,frozen?_of_block→ka,cell?_setCell_other→kk,cell?_of_block→ko,cell?→kx
open _root_.Nat renaming le_refl→j2,zero_add→kt,le_trans→kv,zero_mul→k1
open Go.Value renaming ownBlock→j3,oneCell'→kz
open _root_.Int renaming emod_lt_of_pos→ks
open _root_.Or renaming inl→ky
open Go.Builtin renaming append_→k3
section
open Go.RowKit
theorem gY{lo:Nat}{g:Option Nat}{w:iS}{d:ja}{a:List cH}(h:w.ownsRow lo 120 2 d a (a.flatMap subCells))(l:∀k,d.ownBlock=X k->g≠X k):bD lo g w d a:=by
 rcases h.2 with⟨rfl,e⟩|⟨b,n,o,rfl,i,p,q⟩
 .have:a=[]:=j1 e;subst this;exact⟨Y,0,rfl,λh=>absurd rfl h⟩
 have m:=h.lt b (by simp[j3]);refine⟨_,_,rfl,λ_=>⟨b,0,rfl,i,m.2,l b (by simp[j3]),λj x c=>?_⟩⟩;have f:=h.cellAt j (by have:=(List.getElem?_eq_some_iff.1 c).1;rw[h.1]at this;exact this);rw[kt,f];exact c
theorem cN{w w':iS}{B:Nat}{e:TypeId}{k:Nat}{v:ja}{n:Nat}{b:List ja}(h:w.ownsRow B e k v n b)(j:∀g,v.ownBlock=X g->w'.heap[g]?=w.heap[g]?):w'.ownsRow B e k v n b:=by
 refine⟨h.1,?_⟩;rcases h.2 with hn|⟨g,c,d,a,f,i,l⟩
 .exact .inl hn
 exact .inr ⟨g,c,d,a,f,by rw[j g (by rw[a];simp[j3])];exact i,l⟩
structure eE(lo:Nat)(w:iS)(v:ja)(fs:List ag):Prop where
 ex:∃ps:List (ag×ja),ps.map (·.1)=fs/\w.ownsRow lo 123 4 v fs (ps.flatMap fieldCells)/\
  (∀p∈ps,w.ownsRow lo 120 2 p.2 p.1.subs (p.1.subs.flatMap subCells)/\∃g,p.2.ownBlock=some g/\v.ownBlock≠some g)/\ps.Pairwise (λp q=>p.2.ownBlock≠q.2.ownBlock)
theorem eE.nil(lo:Nat)(w:iS):eE lo w (fn Y 0 0) []:=⟨⟨[],rfl,World.ownsRow_nil _ _ _ _,by simp,.nil⟩⟩
theorem eE.toRec{lo:Nat}{w:iS}{v:ja}{b:List ag}(h:eE lo w v b):bM lo w v b:=by
 obtain⟨ps,f,i,c,_⟩:=h.ex;refine⟨⟨ps,f,λp d=>gY (c p d).1 (λk a e=>?_),i⟩⟩;obtain⟨g,j,l⟩:=(c p d).2;rw[j]at a;injection a with a
 subst a;exact l e
theorem eE.keep{lo:Nat}{w w':iS}{v:ja}{d:List ag}(h:eE lo w v d)(f:Bw w w'):eE lo w' v d:=by
 obtain⟨ps,i,e,a,j⟩:=h.ex;exact⟨⟨ps,i,cN e (λg b=>f.block g (e.lt g b).2),λp c=>⟨cN (a p c).1 (λg b=>f.block g ((a p c).1.lt g b).2),(a p c).2⟩,j⟩⟩
theorem eE.far{lo:Nat}{w w':iS}{v:ja}{e:List ag}(h:eE lo w v e)(f:∀k,lo<=k->k<w->w'.heap[k]?=w.heap[k]?):eE lo w' v e:=by
 obtain⟨ps,i,d,b,j⟩:=h.ex;exact⟨⟨ps,i,cN d (λg a=>f g (d.lt g a).1 (d.lt g a).2),λp c=>⟨cN (b p c).1 (λg a=>f g ((b p c).1.lt g a).1 ((b p c).1.lt g a).2),(b p c).2⟩,j⟩⟩
theorem eE.app{lo:Nat}{w1 l:iS}{v h:ja}{m:List ag}(f:ag)(d:ja)(ps:List (ag×ja))(w:ps.map (·.1)=m)
 (y:∀p∈ps,w1.ownsRow lo 120 2 p.2 p.1.subs (p.1.subs.flatMap subCells)/\∃g,p.2.ownBlock=X g/\v.ownBlock≠X g)(z:ps.Pairwise (λp q=>p.2.ownBlock≠q.2.ownBlock))
 (A:w1.ownsRow lo 120 2 d f.subs (f.subs.flatMap subCells))(i:Nat)(o:d.ownBlock=X i)(E:v.ownBlock≠X i)(G:∀p∈ps,p.2.ownBlock≠X i)
 (I:l.ownsRow lo 123 4 h (m.length+1) (ps.flatMap fieldCells++fieldCells (f,d)))(B:w1.grownBy l v.ownBlock)(b:h.ownBlock=v.ownBlock∨h.ownBlock=X w1.heap.size):eE lo l h (m++[f]):=by
 have u:∀(x:ja)(c:List cH)(g:Nat),w1.ownsRow lo 120 2 x c (c.flatMap subCells)->x.ownBlock=X g->v.ownBlock≠X g->l.ownsRow lo 120 2 x c (c.flatMap subCells)/\∃g,x.ownBlock=X g/\h.ownBlock≠X g:=by
  intro x c g t n s;have F:=(t.lt g n).2;refine⟨cN t (λk j=>?_),g,n,?_⟩
  .rw[n]at j;injection j with j;subst j
   exact B.block _ F (λe=>s e.symm)
  rcases b with b|b
  .rw[b];exact s
  rw[b];intro e;injection e with e;omega
 refine⟨⟨ps++[(f,d)],by simp[w],by simpa using I,?_,?_⟩⟩
 .intro p a;rcases List.mem_append.1 a with a|a
  .obtain⟨H,g,C,D⟩:=y p a;exact u _ _ g H C D
  simp at a;subst a;exact u _ _ i A o E
 refine List.pairwise_append.2 ⟨z,by simp,λp a q r=>?_⟩;simp at r;subst r;rw[o];exact G p a
theorem xQ(lo:Nat)(W:iS)(D:Nat)(d:ja)(c:List cH)(p:W.heap[D]?=X (gs #[] 120 (0,0)))(y:aE 0 W W d c)(hn:c.length<=1000000)(B:lo<=D):
 ∃(a:Addr)(e:Nat)(f:iS),(k3 #[121,121] 121 #[fn D 0 0,d]).run prog W=.ok (fn (X a) c e) f/\f.ownsRow lo 120 2 (fn (X a) c e) c (c.flatMap subCells)/\W.grownBy f (X D)/\(a.block=D∨a.block=W):=by
 obtain⟨i,q,F,C,w⟩:=k2 BM;have G:D<W:=(Array.getElem?_eq_some_iff.1 p).1;have r:W.ownsRow lo 120 2 (fn D 0 0) 0 []:=⟨by simp,.inr ⟨D,0, #[],rfl,B,p,j2 _,by unfold maxLen;omega,by simp,by simp⟩⟩;obtain⟨a,e,rfl,h⟩:=y;by_cases h0:c=[]
 .subst h0;have E:Src prog i.size 121 (fn a 0 e) 0 [] W:=by
   cases a with
   |none=>exact Src.ofNil W underlying121 e
   |some a=>exact Src.ofSlice W underlying121 a 0 e [] (by simp) (by simp) (by simp)
  have n:=run_append_room_src (P:=prog) W 121 121 121 120 i underlying121 q D 0 0 0 (fn a 0 e) 0 [] E (by omega) (by simp) (by simp);exact⟨_,_,_,n,r,⟨rfl,rfl,rfl,j2 _,λ_ _ _=>rfl⟩,.inl rfl⟩
 obtain⟨b,o,rfl,_,_,x⟩:=h (qu.2 h0)
 obtain⟨H,f,n,m,v,_,k⟩:=run_append_own_at (P:=prog) W lo 121 121 120 i _ 2 24 underlying121 q F C w rfl (by omega) (fn D 0 0) 0 [] r ⟨b,o,Y⟩ c e (c.flatMap subCells) (zN c)
  (λj u z=>by
   have:(⟨b,o,Y⟩:Addr).add j=⟨b,o+j,Y⟩:=by unfold Addr.add;split<;>simp_all
   rw[this];exact x j u z)
  (λu l=>by
   obtain⟨s,_,l⟩:=List.mem_flatMap.1 l
   simp[subCells]at l
   rcases l with rfl|rfl<;>rfl) (by unfold maxLen;omega) (by omega) (by omega)
 rw[kt,List.nil_append]at m;have A:0<c.length:=List.length_pos_iff.2 h0;obtain⟨g,t,rfl,_⟩:=World.ownsRow.form m A;refine⟨g,t,f,n,m,v,?_⟩;rcases k with k|k
 .left;simpa[j3]using k
 right;simpa[j3]using k
structure dJ(B:Nat)(w0 wr:iS)(kd lv:UInt8)(v:ja):Prop where
 below:Below B w0 wr
 big:B+2<=wr
 z0:wr.cell? B=some (.int .u8 0)
 z1:wr.cell? ⟨B,1,none⟩=some (.int .u8 0)
 z2:wr.cell? ⟨B,2,none⟩=some (.slice none 0 0)
 y0:wr.frozen? B=false
 y1:wr.frozen? ⟨B,1,none⟩=false
 y2:wr.frozen? ⟨B,2,none⟩=false
 c0:wr.cell? ⟨B+1,0,none⟩=some (.int .u8 kd)
 c1:wr.cell? ⟨B+1,1,none⟩=some (.int .u8 lv)
 c2:wr.cell? ⟨B+1,2,none⟩=some v
 x0:wr.frozen? ⟨B+1,0,none⟩=false
 x1:wr.frozen? ⟨B+1,1,none⟩=false
 x2:wr.frozen? ⟨B+1,2,none⟩=false
theorem dJ.far{B:Nat}{f wr d:iS}{j l:UInt8}{v:ja}(h:dJ B f wr j l v)(m:Below B f d)(g:∀k,k<B+2->d.heap[k]?=wr.heap[k]?)(n:B+2<=d):dJ B f d j l v:=by
 have a:∀b i,b<B+2->d.cell? ⟨b,i,Y⟩=wr.cell? ⟨b,i,Y⟩:=λb i e=>ko (g b e);have c:∀b i,b<B+2->d.frozen? ⟨b,i,Y⟩=wr.frozen? ⟨b,i,Y⟩:=λb i e=>ka (g b e)
 exact⟨m,n,by rw[a _ _ (by omega)];exact h.z0,by rw[a _ _ (by omega)];exact h.z1,by rw[a _ _ (by omega)];exact h.z2,
  by rw[c _ _ (by omega)];exact h.y0,by rw[c _ _ (by omega)];exact h.y1,by rw[c _ _ (by omega)];exact h.y2,by rw[a _ _ (by omega)];exact h.c0,by rw[a _ _ (by omega)];exact h.c1,by rw[a _ _ (by omega)];exact h.c2,
  by rw[c _ _ (by omega)];exact h.x0,by rw[c _ _ (by omega)];exact h.x1,by rw[c _ _ (by omega)];exact h.x2⟩
theorem dJ.keep{B:Nat}{d wr e:iS}{b c:UInt8}{v:ja}(h:dJ B d wr b c v)(a:Bw wr e):dJ B d e b c v:=
 h.far (btr h.below a (by have:=h.big;omega)) (λk f=>a.block k (by have:=h.big;omega)) (kv h.big a.size)
theorem dJ.put{B:Nat}{c wr:iS}{a b:UInt8}{v:ja}(h:dJ B c wr a b v)(g j:Nat)(d:B+2<=g)(u:ja):dJ B c (wr.setCell ⟨g,j,Y⟩ u) a b v:=
 h.far (h.below.setCell (by simp;omega) _) (λk e=>iv _ _ _ _ (by simp;omega)) (by simpa using h.big)
theorem dJ.grown{B:Nat}{i wr c:iS}{d f:UInt8}{v:ja}(h:dJ B i wr d f v){g:Option Nat}(a:wr.grownBy c g)(l:∀k,g=X k->B+2<=k):dJ B i c d f v:=by
 have b:∀k,k<B+2->c.heap[k]?=wr.heap[k]?:=λk b=>a.block k (Nat.lt_of_lt_of_le b h.big) (by intro e;have:=l k e.symm;omega);exact h.far ⟨a.os.trans h.below.os,a.tape.trans h.below.tape,a.output.trans h.below.output,kv h.below.size a.size,λk j=>(b k (by omega)).trans (h.below.block k j)⟩ b (kv h.big a.size)
theorem dJ.set2{B:Nat}{d wr:iS}{a b:UInt8}{v:ja}(h:dJ B d wr a b v)(c:ja):dJ B d (wr.setCell ⟨B+1,2,Y⟩ c) a b c:=by
 have f:=h.z0;have g:=h.z1;have i:=h.z2;have e:=h.c0;have c1:=h.c1;have c2:=h.c2;refine⟨h.below.setCell (by simp) _,by simpa using h.big,?_,?_,?_,by rw[aO];exact h.y0,by rw[aO];exact h.y1,by rw[aO];exact h.y2,?_,?_,?_,by rw[aO];exact h.x0,by rw[aO];exact h.x1,by rw[aO];exact h.x2⟩;all_goals(clear h;go_simp)
theorem dJ.set0{B:Nat}{b wr:iS}{d a:UInt8}{v:ja}(h:dJ B b wr d a v)(c:UInt8):dJ B b (wr.setCell ⟨B+1,0,Y⟩ (J h1 c)) c a v:=by
 have f:=h.z0;have g:=h.z1;have i:=h.z2;have e:=h.c0;have c1:=h.c1;have c2:=h.c2;refine⟨h.below.setCell (by simp) _,by simpa using h.big,?_,?_,?_,by rw[aO];exact h.y0,by rw[aO];exact h.y1,by rw[aO];exact h.y2,?_,?_,?_,by rw[aO];exact h.x0,by rw[aO];exact h.x1,by rw[aO];exact h.x2⟩;all_goals(clear h;go_simp)
theorem dJ.set1{B:Nat}{b wr:iS}{a d:UInt8}{v:ja}(h:dJ B b wr a d v)(c:UInt8):dJ B b (wr.setCell ⟨B+1,1,Y⟩ (J h1 c)) a c v:=by
 have f:=h.z0;have g:=h.z1;have i:=h.z2;have e:=h.c0;have c1:=h.c1;have c2:=h.c2;refine⟨h.below.setCell (by simp) _,by simpa using h.big,?_,?_,?_,by rw[aO];exact h.y0,by rw[aO];exact h.y1,by rw[aO];exact h.y2,?_,?_,?_,by rw[aO];exact h.x0,by rw[aO];exact h.x1,by rw[aO];exact h.x2⟩;all_goals(clear h;go_simp)
theorem zM(ps:List (ag×ja)):∀(m i:Nat)(u:ja)(q:ag×ja)(a:m<ps),i<4->(fieldCells ps[m]).set i u=fieldCells q->(ps.flatMap fieldCells).set (m*4+i) u=(ps.set m q).flatMap fieldCells:=by
 induction ps with
 |nil=>intro m i u q a;simp at a
 |cons p ps ih=>
  intro m i u q a d b;cases m with
  |zero=> simp only[List.getElem_cons_zero]at b;rw[kb,List.set_append_left _ _ (by simp[fieldCells];omega),k1,kt,b];rfl
  |succ m=>
   simp only[List.getElem_cons_succ]at b;have c:(fieldCells p).length=4:=by simp[fieldCells]
   rw[kb,List.set_append_right _ _ (by rw[c];omega),c,show(m+1)*4+i-4=m*4+i from by omega,ih m i u q (by simpa using a) d b];rfl
theorem zO(ps:List (ag×ja)):∀(m i:Nat)(a:m<ps),i<4->(ps.flatMap fieldCells)[m*4+i]?=(fieldCells ps[m])[i]?:=by
 induction ps with
 |nil=>intro m i a;simp at a
 |cons p ps ih=>
  intro m i a c;have b:(fieldCells p).length=4:=by simp[fieldCells]
  cases m with
  |zero=>rw[kb,List.getElem?_append_left (by rw[b];omega),k1,kt];rfl
  |succ m=>rw[kb,List.getElem?_append_right (by rw[b];omega),b,show(m+1)*4+i-4=m*4+i from by omega,ih m i (by simpa using a) c];rfl
theorem uk{lo:Nat}{w:iS}{g c n:Nat}{ps:List (ag×ja)}(h:w.ownsRow lo 123 4 (fn g n c) n (ps.flatMap fieldCells))(m:Nat)(b:m<ps):
 w.cell? ⟨g,m*4,Y⟩=X (S ps[m].1.tag)/\w.cell? ⟨g,m*4+1,Y⟩=X (S ps[m].1.ind)/\w.cell? ⟨g,m*4+2,Y⟩=X (S ps[m].1.data)/\w.cell? ⟨g,m*4+3,Y⟩=X ps[m].2/\
  ∀i,w.frozen? ⟨g,i,Y⟩=false:=by
 have e:(ps.flatMap fieldCells).length=ps*4:=by
  clear h b;induction ps with
  |nil=>rfl
  |cons p ps ih=>rw[kb,kq,ih];simp[fieldCells];omega
 have hn:n*4=ps*4:=by rw[<- e];exact h.1.symm
 have a:∀i,i<4->w.cell? ⟨g,m*4+i,Y⟩=(fieldCells ps[m])[i]?:=λi d=>by rw[h.cellAt (m*4+i) (by omega),zO ps m i b d]
 exact⟨a 0 (by omega),a 1 (by omega),a 2 (by omega),a 3 (by omega),λi=>h.frozenAt i⟩
theorem bM.put{lo:Nat}{w:iS}{g c n:Nat}(ps:List (ag×ja))(hn:n=ps)(m i:Nat)(r:m<ps)(j:∀k(d:k<ps.length),k≠m->bD lo (X g) w ps[k].2 ps[k].1.subs)(l:w.ownsRow lo 123 4 (fn g n c) n (ps.flatMap fieldCells))
 (o:i<4)(u:ja)(q:ag×ja)(t:(fieldCells ps[m]).set i u=fieldCells q)(v:bD lo (X g) w q.2 q.1.subs):
 bM lo (w.setCell ⟨g,m*4+i,Y⟩ u) (fn g n c) ((ps.set m q).map (·.1)):=by
 have f:∀x b,bD lo (X g) w x b->bD lo (X g) (w.setCell ⟨g,m*4+i,Y⟩ u) x b:=λx b h=>
  h.step (λk _ _ a=>iv _ _ _ _ (by intro e;exact a (by rw[e]))) (by simp) (.inl rfl)
 refine⟨⟨ps.set m q,rfl,λp s=>?_,?_⟩⟩
 .obtain⟨k,d,rfl⟩:=List.getElem_of_mem s;rw[List.getElem_set];split
  .exact f _ _ v
  rename_i a;exact f _ _ (j k (by simpa using d) (λe=>a e.symm))
 have:=(l.stored (m*4+i) u).1;rw[zM ps m i u q r o t]at this;simpa[hn]using this
theorem cT(f:ag):(fieldBytes f).length=f.data+f.ind+(f.subs.flatMap aV).length+1:=by simp[fieldBytes];omega
theorem CD{B:Nat}{q wr a r:iS}{t u:UInt8}{v c:ja}{m:List ag}(o:Obj)(f:ag)(d:ja)(j:Nat)(D:dJ B q wr t u v)(P:eE (B+2) wr v m)
 (L:Below B q a)(h:∀k,k<wr.heap.size->a.heap[k]?=wr.heap[k]?)(hz:wr.heap.size<=a)(C:a.ownsRow (B+2) 120 2 d f.subs (f.subs.flatMap subCells))(N:d.ownBlock=X j)(a6:wr<=j)
 (w:List ja)(a0:wr.ownsRow (B+2) 123 4 v m w)(Q:r.ownsRow (B+2) 123 4 c (m.length+1) (w++fieldCells (f,d)))(b:(a.alloc o).grownBy r v.ownBlock)
 (V:c.ownBlock=v.ownBlock∨c.ownBlock=X (a.alloc o).heap.size):
 dJ B q (r.setCell ⟨B+1,2,Y⟩ c) t u c/\eE (B+2) (r.setCell ⟨B+1,2,Y⟩ c) c (m++[f]):=by
 have a5:=D.big;have O:dJ B q a t u v:=D.far L (λk a7=>h k (by omega)) (by omega);obtain⟨ps,I,A,n,K⟩:=P.ex;have W:w=ps.flatMap fieldCells:=by
  have y:=a0;have z:=A;rcases y.2 with⟨_,H⟩|⟨g,a1,a3,rfl,_,M,_,_,_,R⟩
  .have F:=y.1;have G:=z.1;rw[H,k1]at F G;rw[j1 F,j1 G]
  rcases z.2 with⟨s,_⟩|⟨g',a2,a4,s,_,i,_,_,_,T⟩
  .cases s
  injection s with ha _ _
  injection ha with ha
  injection ha with ha
  subst ha;rw[M]at i;injection i with i
  injection i with i
  subst i;rw[<- R,<- T]
 subst W;have x:∀k,k<a.heap.size->(a.alloc o).heap[k]?=a.heap[k]?:=λk h=>j0 a o k h;have E:∀g,v.ownBlock=X g->B+2<=g/\g<wr:=λg b=>A.lt g b;refine⟨((O.keep (aZ a o)).grown b (λk h=>(E k h).1)).set2 c,?_⟩;refine(eE.app f d ps I (λp l=>⟨cN (n p l).1 (λg b=>?_),(n p l).2⟩) K (cN C (λg b=>x g (C.lt g b).2)) j N (λe=>?_) (λp l e=>?_) Q b V).far (λk h _=>iv _ _ _ _ (by simp;omega))
 .have:=((n p l).1.lt g b).2;rw[x g (by omega),h g this]
 .have:=(E j e).2;omega
 have:=((n p l).1.lt j e).2;omega
theorem CC{B:Nat}{i a b:iS}{g h:UInt8}{v:ja}{f:Option Nat}{o:Obj}(d:dJ B i a g h v)(c:(a.alloc o).grownBy b f)(e:∀k,f=X k->B+2<=k):b.cell? ⟨B+1,2,Y⟩=X v/\b.frozen? ⟨B+1,2,Y⟩=false:=
 ⟨((d.keep (aZ a o)).grown c e).c2,((d.keep (aZ a o)).grown c e).x2⟩
attribute [local go_sem ↓] Go.wp_at_zero Go.wp_at_succ
theorem BP{l:List Bs}{k:Nat}(h:k<l):l.getD k []∈l:=by
 rw[kc,List.getElem?_eq_getElem h];exact j4 h
theorem pA(w:iS)(l:List Bs)(T:TypeId)(k:Nat)(h:k<l):(w.alloc (.cells (l.map S).toArray T)).cell? ⟨w,k,Y⟩=X (S (l.getD k [])):=by
 have a:(w.alloc (.cells (l.map S).toArray T)).heap[w.heap.size]?=X (.cells (l.map S).toArray T (0,0)):=jb w _;rw[ab a];simp[kc,h]
theorem lH(n:Int)(M:Nat)(h:0<M):∃m:Nat,n.emod M=m/\m<M:=by
 have a:0<=n.emod M:=Int.emod_nonneg n (by omega);have b:n.emod M<M:=ks n (by omega);exact⟨(n.emod M).toNat,(Int.toNat_of_nonneg a).symm,by omega⟩
theorem rR(n a:Int)(M m:Nat)(c:1<=M)(d:M<=1000000)(b:a=M)(h:n.emod M=m)(W:iS):k0 prog 24 #[n,a] W λe w'=>e=hk (m:Int)/\W=w':=by
 subst b;refine(ki n M W (by omega) (by omega)).mono ?_;rintro e w'⟨rfl,rfl⟩;rw[h];exact⟨rfl,rfl⟩
theorem pR(l:List Bs)(n:Int)(M m:Nat)(a:l=M)(h:n.emod M=m):pick l n=l.getD m []:=by
 unfold pick;rw[a,h];rfl
theorem pj(z:Int):z%256=((u8I z).toNat:Int):=by
 unfold u8I;have b:0<=z%256:=Int.emod_nonneg z (by omega);have c:z%256<256:=ks z (by omega);have a:z.emod 256=z%256:=rfl;rw[a,UInt8.toNat_ofNat',Nat.mod_eq_of_lt (by omega)];omega
theorem yz(z:Int):IntKind.u8.wrap z=((u8I z).toNat:Int):=by rw[IntKind.wrap_u8];exact pj z
theorem tT{ps:List (ag×ja)}{a:List ag}(h:ps.map (·.1)=a)(m:Nat)(j:m<ps)(g:ag->ag)(b:ag)(c:ja)(f:g ps[m].1=b):(ps.set m (b,c)).map (·.1)=a.modify m g:=by
 rw[List.map_set,h];have n:m<a:=by rw[<- h,List.length_map];exact j
 have e:a[m]=ps[m].1:=by simp[<- h]
 refine List.ext_getElem (by simp) (λi k l=>?_);rw[List.getElem_set,List.getElem_modify];split
 .rename_i d;subst d;rw[e,f]
 rfl
theorem vX(w:iS)(x y:ja)(t:TypeId):∀j v,[x,y][j]?=X v->(w.alloc (gs #[x,y] t)).cell? ((w:Addr).add j)=X v:=by
 intro j v a;match j,a with
 |0,a=>simp at a;subst a;simp[Addr.add]
 |1,a=>simp at a;subst a;simp[Addr.add]
theorem o9{w:iS}{b:Array Oper}{c:List Oper}{o:Oper}{a:Act}{Q:Exit->Act->iS->Prop}(g:o.guard=Y)(d x:Operand)
 (i:o.op=.call {callee:=.builtin .append,args:= #[d,x],argTypes:= #[121,121]})(l:o.type=121)(v u e:ja)(w':iS)(k:a.eval d=v)(m:a.eval x=u)
 (j:(k3 #[121,121] 121 #[v,u]).run prog w=.ok e w')(h:wpList prog b Q c (a.put o.dst e) w'):wpList prog b Q (o::c) a w:=by
 refine wpList_plain g λK f=>?_;unfold Oper.wp execOp;simp only[i,l,resolve,invoke,builtin,Sem.run_bind,Sem.run_pure,Result.andThen_ok,List.map_toArray,List.map_cons,List.map_nil,k,m,j];exact f _ _ h
abbrev recO(a b:UInt8)(v:ja):Obj:=iQ #[J h1 a,J h1 b,v] 62
abbrev numsO(a b c:Int):Obj:=iQ #[a,b,c] 162
abbrev Dy:Obj:=iQ #[J h1 0,J h1 0,fn Y 0 0] 62
theorem dJ.init(w:iS)(a b:UInt8):dJ w w ((w.alloc Dy).alloc (recO a b (fn Y 0 0))) a b (fn Y 0 0):=by
 refine⟨((jn _ w).alloc (j2 _) _).alloc (by simp) _,by simp,?_,?_,?_,?_,?_,?_,?_,?_,?_,?_,?_,?_⟩;all_goals go_simp
theorem Dk(w:iS)(d e:UInt8)(v:ja)(a b c:Int)(W:iS)(h:Below (w.heap.size+2) ((w.alloc (recO d e v)).alloc (numsO a b c)) W):
 W.cell? ⟨w,2,Y⟩=X v/\W.cell? ⟨w.heap.size+1,0,Y⟩=X (J U a)/\W.cell? ⟨w.heap.size+1,1,Y⟩=X (J U b)/\W.cell? ⟨w.heap.size+1,2,Y⟩=X (J U c):=by
 refine⟨?_,?_,?_,?_⟩<;>(rw[h.cell (p:=⟨_,_,Y⟩) (by simp)];go_simp)
abbrev pq:Obj:=iQ #[S [],S [31],S [30],S [97,29,98],S [255],S [195],S [237,160,128],S [224,128,128],S [127],S [195,169],S [116,97,98,9]] 9
theorem bM.far{lo:Nat}{w w':iS}{v:ja}{a:List ag}(h:bM lo w v a)(b:∀k,lo<=k->k<w->w'.heap[k]?=w.heap[k]?)(c:w.heap.size<=w'):bM lo w' v a:=h.keep b c
abbrev j8:Obj:=iQ #[S [48,48,48],S [50,52],S [50,52,53,53],S [50,52,97],S [],S [48,48,49],S [50,52,53]] 9
abbrev kA:Obj:=iQ #[S [],S [49],S [49,50,51],S [31,48],S [32,126],S [48,127]] 9
def v8(R:aG)(B:Nat)(c b:iS):Prop:=∃(a:Option Addr)(vc:Nat),Hid (dJ B c b R.kind R.level (fn a R.fields.length vc))/\Hid (bM (B+2) b (fn a R.fields.length vc) R.fields)
theorem vo{w d wr:iS}{B:Nat}{R:aG}{v:ja}(h:Bw w d)(g:w<=B)(k:dJ B d wr R.kind R.level v)(b:bM (B+2) wr v R.fields)(e:Ending)
 (i:e=hk (.agg #[J h1 R.kind.toNat,J h1 R.level.toNat,v])):∃(c:Option Addr)(cb:Nat),e=hk (.agg #[J h1 R.kind.toNat,J h1 R.level.toNat,fn c R.fields.length cb])/\
  Bw w (((wr.setCell B (J h1 R.kind.toNat)).setCell ⟨B,1,Y⟩ (J h1 R.level.toNat)).setCell ⟨B,2,Y⟩ v)/\
  ah w (((wr.setCell B (J h1 R.kind.toNat)).setCell ⟨B,1,Y⟩ (J h1 R.level.toNat)).setCell ⟨B,2,Y⟩ v).heap.size (((wr.setCell B (J h1 R.kind.toNat)).setCell ⟨B,1,Y⟩ (J h1 R.level.toNat)).setCell ⟨B,2,Y⟩ v) (fn c R.fields.length cb) R.fields:=by
 obtain⟨a,f,rfl⟩:=b.shape;refine⟨a,f,i,(((btr h k.below g).setCell (by simp;omega) _).setCell (by simp;omega) _).setCell (by simp;omega) _,?_⟩;exact(b.keep (λj l _=>by rw[iv _ _ _ _ (by simp;omega),iv _ _ _ _ (by simp;omega),iv _ _ _ _ (by simp;omega)]) (by simp)).fields (by omega)
set_option linter.unusedSimpArgs false in
set_option maxHeartbeats 8000000 in
set_option maxRecDepth 100000 in
theorem tR(H C:UInt8)(r:List ag)(sa:Option Addr)(ax:Nat)(n:Nat)(i4:n<=7)(q l:Int)(w:iS)(hf:ah 0 w w (fn sa r ax) r)(hN:r.length<=5000)(hM:∀f∈r,(fieldBytes f).length<=50000):
 k0 prog 84 #[.agg #[J h1 H,J h1 C,fn sa r ax],.agg #[(n:Int),q,l]] w λe w'=>∃(sb:Option Addr)(cb:Nat),
  e=hk (.agg #[J h1 (spoilR ⟨H,C,r⟩ n q l).kind.toNat,J h1 (spoilR ⟨H,C,r⟩ n q l).level.toNat,.slice sb (spoilR ⟨H,C,r⟩ n q l).fields.length cb])/\Bw w w'/\
  ah w w' w' (.slice sb (spoilR ⟨H,C,r⟩ n q l).fields.length cb) (spoilR ⟨H,C,r⟩ n q l).fields:=by
 obtain⟨R,hR⟩:=Qe (spoilR ⟨H,C,r⟩ n q l);rw[hR];have HR:=Z hR;clear hR;obtain⟨q0,d8⟩:∃q0:Int,(n:Int)=q0:=⟨_,rfl⟩;rw[d8];obtain⟨mt,cQ,fb⟩:=lH l 11 (by omega);have dz:Hid (textsL.getD mt []=pick textsL l):=(pR textsL l 11 mt rfl cQ).symm;have g1:Hid (∀W,k0 prog 24 #[l,J U 11] W λe w'=>e=hk (mt:Int)/\W=w'):=rR l 11 11 mt (by omega) (by omega) rfl cQ;have ft:Hid (∀W,k0 prog 24 #[q0,J U 10] W λe w'=>e=hk (n:Int)/\W=w'):=rR q0 10 10 n (by omega) (by omega) rfl (by show q0%10=n;omega);have hL:=Z d8;clear cQ d8;have HF:Hid (∀W,Bw w W->ah 0 w W (fn sa r ax) r):=λW h=>hf.kept (aW h (j2 _));have HM:=Z hM;have HQ:Hid (∀W,Below (w.heap.size+2) ((w.alloc (recO H C (fn sa r ax))).alloc (numsO q0 q l)) W->_):=λW h=>Dk w H C (fn sa r ax) q0 q l W h;obtain⟨w0,b3⟩:∃w0,w0=((w.alloc (recO H C (fn sa r ax))).alloc (numsO q0 q l)):=⟨_,rfl⟩;have hu:w0.heap.size=w+2:=by rw[b3];simp
 have HI:=dJ.init w0 H C;rw[hu,b3]at HI;have HI:=Z HI;have b4:Hid (Bw w w0):=by rw[b3];exact((jn _ w).alloc (j2 _) _).alloc (by simp) _
 rw[<- b3]at HQ;have gz:=Z b3;clear hf hM b3;go_enter func84,ntmps84;go_wp2_with fail;go_loopw [6] (λi wr=>∃(k:Nat)(o:List ag)(va:Option Addr)(O:Nat),i=J U k/\k<=r/\Hid (o=r.take k)/\Hid (o=k)/\o.length<=5000/\Hid (dJ (w.heap.size+2) w0 wr H C (fn va o O))/\Hid (eE (w.heap.size+2+2) wr (fn va o O) o)) (λi _=>r-(intOf i).toNat)
 exact⟨0,[],Y,0,rfl,by omega,by simp[Hid],rfl,by simp,by rw[gz.o];exact HI,eE.nil _ _⟩;obtain⟨k,o,va,O,rfl,j,al,bA,f1,HH,HO⟩:=hrel;have hb:=HH.below;obtain⟨b2,c3,bb,av⟩:=HQ wr hb;have c4:=HH.big;by_cases hlt:k<r
 .obtain⟨b,ia,eg,d,hv,_,hV,hj,hl,hn,i8,dd⟩:=(HF.o _ (btr b4.o hb (by omega))).field k hlt;cases hv;obtain⟨f,cv⟩:=Qe (r[k]);have eQ:=HM _ (j4 hlt);have g4:Hid (o++[f]=r.take (k+1)):=by rw[al.o,List.take_succ_eq_append_getElem hlt,cv];rfl
  rw[cv]at hj hl hn dd eQ;have dq:f.subs.length<=1000000:=by have:=cr f;omega
  clear cv;obtain⟨z,A,rfl⟩:∃z A,d=fn z f.subs A:=by obtain⟨a,c,h,_⟩:=dd;exact⟨a,c,h⟩
  obtain⟨W5,az⟩:∃W5,W5=(wr.alloc (iQ #[S f.tag,S f.ind,S f.data,fn z f.subs A] 123)).alloc (iQ #[] 120):=⟨_,rfl⟩;have aC:Bw wr W5:=by rw[az];exact((jn _ wr).alloc (j2 _) _).alloc (by simp) _
  have es:W5.heap.size=wr+2:=by rw[az];simp
  have eq:W5.heap[wr.heap.size+1]?=X (gs #[] 120 (0,0)):=by rw[az];have:=heap_alloc_new (wr.alloc (iQ #[S f.tag,S f.ind,S f.data,fn z f.subs A] 123)) (iQ #[] 120);simpa using this
  have er:W5.heap[wr.heap.size]?=X (iQ #[S f.tag,S f.ind,S f.data,fn z f.subs A] 123):=by rw[az,j0 _ _ _ (by simp)];exact heap_alloc_new _ _
  obtain⟨B,G,y,d9,f4,ao,gO⟩:=xQ (w.heap.size+2+2) W5 (wr.heap.size+1) (fn z f.subs A) f.subs eq ((dd.kept (aW aC (by have:=b4.o.size;have:=hb.size;omega))).mono (j2 _) (by rw[es];have:=b4.o.size;have:=hb.size;omega)) dq (by omega);have ay:y.heap[wr.heap.size]?=X (iQ #[S f.tag,S f.ind,S f.data,fn z f.subs A] 123):=by rw[ao.block _ (by omega) (by intro e;injection e with e;omega)];exact er
  have e3:y.cell? ⟨wr,3,Y⟩=X (fn z f.subs A):=by simp[kx,ay,iQ]
  have x3:y.frozen? ⟨wr,3,Y⟩=false:=by simp[World.frozen?,ay,iQ]
  have e0:(y.setCell ⟨wr,3,Y⟩ (fn (X B) f.subs G)).cell? wr=X (S f.tag):=by rw[kk _ _ _ _ (by simp)];simp[kx,ay,iQ]
  have e1:(y.setCell ⟨wr,3,Y⟩ (fn (X B) f.subs G)).cell? ⟨wr,1,Y⟩=X (S f.ind):=by rw[kk _ _ _ _ (by simp)];simp[kx,ay,iQ]
  have e2:(y.setCell ⟨wr,3,Y⟩ (fn (X B) f.subs G)).cell? ⟨wr,2,Y⟩=X (S f.data):=by rw[kk _ _ _ _ (by simp)];simp[kx,ay,iQ]
  have e4:(y.setCell ⟨wr,3,Y⟩ (fn (X B) f.subs G)).cell? ⟨wr,3,Y⟩=X (fn (X B) f.subs G):=World.cell?_setCell_same _ _ _ e3;have bc:∀k,k<wr.heap.size->(y.setCell ⟨wr,3,Y⟩ (fn (X B) f.subs G)).heap[k]?=wr.heap[k]?:=λk j=>by rw[iv _ _ _ _ (by simp;omega),ao.block k (by omega) (by intro e;injection e with e;omega),aC.block k j]
  have hQ:wr+2<=(y.setCell ⟨wr,3,Y⟩ (fn (X B) f.subs G)).heap.size:=by have:=ao.size;simp;omega
  have cq:Below (w.heap.size+2) w0 (y.setCell ⟨wr,3,Y⟩ (fn (X B) f.subs G)):=
   ⟨by rw[show(y.setCell ⟨wr,3,Y⟩ (fn (X B) f.subs G)).os=y.os from rfl];exact ao.os.trans (aC.os.trans hb.os),ao.tape.trans (aC.tape.trans hb.tape),ao.output.trans (aC.output.trans hb.output),by have:=hb.size;omega,
    λk j=>(bc k (by omega)).trans (hb.block k j)⟩
  have ej:(y.setCell ⟨wr,3,Y⟩ (fn (X B) f.subs G)).ownsRow (w.heap.size+2+2) 120 2 (fn (X B) f.subs G) f.subs (f.subs.flatMap subCells):=
   cN f4 (λg hg=>iv _ _ _ _ (by simp[j3]at hg;simp;omega))
  have f1:wr<=B.block:=by omega
  obtain⟨ps,_,bs,_⟩:=HO.ex;have em:(y.setCell ⟨wr,3,Y⟩ (fn (X B) f.subs G)).ownsRow (w.heap.size+2+2) 123 4 (fn va o O) o (ps.flatMap fieldCells):=cN bs (λg hg=>bc g (bs.lt g hg).2);have cs:=HH.o.far cq (λk j=>bc k (by omega)) (by omega);have e5:=cs.c2;have gy:Hid (∀k,(Value.slice va o O).ownBlock=X k->w+2+2<=k):=λk j=>(bs.lt k j).1;rw[az]at d9;have e6:=Z d9;have b8:=Z bs;clear az aC es eq er ay d9 f4 ao gO bs;go_upto_region 7 with(at_builtin;refine o9 rfl _ _ rfl rfl _ _ _ _ rfl rfl e6.o ?_)
  generalize(y.setCell ⟨wr,3,Y⟩ (fn (X B) f.subs G))=w7 at*;have g8:=Z bc;have fr:=Z cq;have g3:=Z ej;have bO:=Z em;have I:=Z cs;obtain⟨i0,hi,a8,a9,aa⟩:=k2 CY;have HI:=Z hi;have b5:=Z a8;have b6:=Z a9;have b7:=Z aa;clear bc cq ej em cs hi a8 a9 aa e6;go_wp2_with (at_builtin;refine wpList_append_own_at _ rfl _ _ 60 rfl (w.heap.size+2+2) 123 i0 (.agg #[.string ⟨#[]⟩,.string ⟨#[]⟩,.string ⟨#[]⟩,fn Y 0 0]) 4 72 underlying60 HI.o b5.o b6.o b7.o rfl (by omega) (fn va o O) o _ rfl (bO.o.alloc _) w7 1 1 [S f.tag,S f.ind,S f.data,fn (X B) f.subs G] rfl rfl (vW _ _ _ _ _ _) (by simp[kz]) (by unfold maxLen;omega) (by omega) (by simp;omega) ?_;intro v' w8 d6 N _ a1;obtain⟨fc,fl,rfl⟩:=aw d6;have gf:=Z d6;have g5:=Z N;have fp:=Z a1;obtain⟨e8,f8⟩:=CC I.o N gy.o;clear d6 N a1)
  go_roundw
  case rel=>
   have:=CD _ f (fn (X B) f.subs G) B.block HH.o HO.o fr.o g8.o (by omega) g3.o rfl f1 _ b8.o gf.o g5.o fp.o;refine⟨k+1,o++[f],fc,fl,by go_num,by omega,g4,by rw[kq,bA.o];rfl,by have:=bA.o;simp;omega,?_,?_⟩
   .simpa[Hid]using this.1
   simpa[Hid]using this.2
  simp[intOf];omega
 have ha:k=r:=by omega
 have hX:o.length<=5000:=by rw[bA.o];omega
 have g6:Hid (∀f∈o,(fieldBytes f).length<=50000):=λf hf=>HM.o f (by rw[al.o]at hf;exact List.mem_of_mem_take hf);have bw:Hid (o=r):=by unfold Hid;rw[al.o,List.take_of_length_le (by omega)]
 clear al bA HF HM c3 bb av;generalize wr=w4 at*;have eb:Hid ((w4.alloc pq).cell? ⟨w4,mt,Y⟩=X (S (pick textsL l))):=by unfold Hid;rw[<- dz.o];exact pA w4 textsL 9 mt fb
 have D:=Z (HH.keep (aZ w4 pq));have bB:=Z (HO.keep (aZ w4 pq));go_upto_region 9 with fail;clear b2 j hlt ha;generalize(w4.alloc pq)=w5 at*;obtain⟨b2,c3,bb,av⟩:=HQ w5 D.below;go_cut [9] (λt wx=>t=S (pick textsL l)/\wx=w5)
 case first=>
  have hx:=eb.o;have i2:(mt:Int)<11:=by omega
  go_wp2_with (go_at_call 24;(refine iP (g1.o _) ?_;rintro e w'⟨rfl,rfl⟩))
  go_meet;exact⟨rfl,rfl⟩
 obtain⟨rfl,ht⟩:=hcut;obtain⟨T,hT⟩:=Qe (pick textsL l);have hS:T.length<=10:=by
  rw[<- hT,<- dz.o];have:∀x∈textsL,x.length<=10:=by decide
  exact this _ (BP fb)
 have cm:=Z hT;rw[hT];clear hT;subst ht;generalize wc=y at*;clear eb HH HO c4 hb;have hb:=D.below;have c4:=D.big;have c0:=D.c0;have c1:=D.c1;have c2:=D.c2;have x0:=D.x0;have z0:=D.z0;have z1:=D.z1;have z2:=D.z2;have y0:=D.y0;have y1:=D.y1;have y2:=D.y2;by_cases L:o.length=0
 .have hc:=pj q;obtain⟨c,a0⟩:=Qe (u8I q);have a6:o=[]:=j1 L;have b9:Hid (R=⟨c,C,[]⟩):=by unfold Hid;rw[<- HR.o,<- bw.o,a6,<- a0];rfl
  rw[a0]at hc;subst a6;have hh:=D.set0 c;have E:=bB.o.toRec.far (w':=y.setCell ⟨w.heap.size+2+1,0,Y⟩ (J h1 c)) (λk j _=>iv _ _ _ _ (by simp;omega)) (by simp);have g7:=Z hh;have gq:=Z E;clear hh E;clear a0;go_wp2_with fail
  all_goals
   refine bodyPost_ret (v:=.agg #[J h1 c,J h1 C,fn va 0 O]) (by simp only[results,Tryz.results84];go_simp) rfl ?_
   rw[b9.o]
   exact vo b4.o (by omega) g7.o gq.o _ rfl
 have cd:0<o.length:=by omega
 obtain⟨g,hO,ho,f0,h7⟩:∃g eg,Value.slice va o O=fn (X ⟨g,0,Y⟩) o eg/\w+2+2<=g/\g<y:=by obtain⟨_,_,h2,_⟩:=bB.ex;exact h2.form cd
 cases ho;clear x0 z0 z1 z2 y0 y1 y2 c0 c1;go_upto_region 13 with fail;obtain⟨m,cP,hm⟩:=lH q o (by omega);have g0:Hid (∀W,k0 prog 24 #[q,(o.length:Int)] W λe w'=>e=hk (m:Int)/\W=w'):=rR q _ o m (by omega) (by omega) rfl cP;have gb:=Z cP;clear cP;go_cut [10] (λt wx=>t=hr (X ⟨g,m*4,Y⟩)/\Bw y wx)
 case first=>
  have t1:(0:Int)<=0:=by omega
  go_region_held3 (λw'=>w'.cell? ⟨w.heap.size+2+1,2,Y⟩=X (fn (X ⟨g,0,Y⟩) o O)/\w'.cell? ⟨w.heap.size+1,1,Y⟩=X (J U q)) (go_keep)
   ((go_at_call 24;((with_reducible refine iP (g0.o _) ?_);rintro e w'⟨rfl,rfl⟩)))
  go_wp2_with fail;go_meet;exact⟨by simp,(jn _ y).drew⟩
 obtain⟨rfl,c6⟩:=hcut;have I:=Z (D.keep c6);have bO:=Z (bB.keep c6);have hw:=c6.size;clear c2 b2 c3 bb av D bB c6 hb c4;generalize wc=w7 at*;have a7:g<w7:=by omega
 clear hw h7;obtain⟨b2,c3,bb,av⟩:=HQ w7 I.below;obtain⟨ps,aT,b0,b1,d7⟩:=bO.ex;have ac:m<ps:=by rw[<- aT]at hm;simpa using hm
 have aS:o.length=ps:=by rw[<- aT];simp
 obtain⟨t0,t1,t2,t3,tf⟩:=uk b0 m ac;obtain⟨f,bd⟩:=Qe (ps[m].1);have eQ:(fieldBytes f).length<=50000:=g6.o f (by rw[<- bd,<- aT];exact List.mem_map_of_mem (j4 ac));have hq:=b1 _ (j4 ac);rw[bd]at t0 t1 t2 hq;obtain⟨d,cu⟩:=Qe (ps[m].2);rw[cu]at t3 hq;obtain⟨⟨bt,gd,ad,f6⟩⟩:Nonempty (w7.ownsRow (w.heap.size+2+2) 120 2 d f.subs (f.subs.flatMap subCells)/\_):=⟨hq⟩;obtain⟨z,A,rfl⟩:=aw bt;have b8:Hid (ps[m]=(f,fn z f.subs A)):=Prod.ext bd cu;have e7:Hid (∀p∈ps,bD (w.heap.size+2+2) (X g) w7 p.2 p.1.subs):=λp hp=>gY (b1 p hp).1 (λk j e=>by obtain⟨_,g2,V,h2⟩:=b1 p hp;rw[V]at j;injection j with j;subst j;exact h2 e);have ci:Hid (n≠0->n≠1->R=⟨H,C,o.modify m λf=>gU f n q l⟩):=λL V=>by rw[<- HR.o,<- bw.o];unfold spoilR;have a6:o≠[]:=List.length_pos_iff.1 cd;have e:q.emod o=(m:Int):=gb.o;dsimp only;rw[if_neg a6,if_neg (by omega),if_neg (by omega),e];rfl
 have gi:Hid (n=0->R=⟨u8I l,C,o⟩):=λL=>by rw[<- HR.o,<- bw.o];unfold spoilR;have a6:o≠[]:=List.length_pos_iff.1 cd;dsimp only;rw[if_neg a6,if_pos (by omega)]
 have gn:Hid (n=1->R=⟨H,u8I l,o⟩):=λL=>by rw[<- HR.o,<- bw.o];unfold spoilR;have a6:o≠[]:=List.length_pos_iff.1 cd;dsimp only;rw[if_neg a6,if_neg (by omega),if_pos (by omega)]
 have cj:Hid (∀(Q:ag)(d':ja),gU f n q l=Q->(ps.set m (Q,d')).map (·.1)=o.modify m λf=>gU f n q l):=λQ d' gQ=>tT aT m ac _ Q d' (by rw[bd];exact gQ)
 have bY:Hid (∀(i:Nat)(u:ja)(Q:ag)(d':ja),n≠0->n≠1->gU f n q l=Q->i<4->(fieldCells (f,fn z f.subs A)).set i u=fieldCells (Q,d')->bD (w.heap.size+2+2) (X g) w7 d' Q.subs->∀W:iS,Bw w7 W->
  v8 R (w.heap.size+2) w0 (W.setCell ⟨g,m*4+i,Y⟩ u)):=by
  intro i u Q d' d3 d4 dk hi hc hs W hW
  have f7:∀x ss,bD (w.heap.size+2+2) (X g) w7 x ss->bD (w.heap.size+2+2) (X g) W x ss:=λx ss h=>h.step (λk _ j _=>hW.block k j) hW.size (.inl rfl)
  have E:=bM.put (w:=W) ps aS m i ac (λk j _=>f7 _ _ (e7.o _ (j4 j))) (cN b0 (λg' a4=>hW.block g' (b0.lt g' a4).2)) hi u (Q,d') (by rw[b8.o];exact hc) (f7 _ _ hs)
  have bl:((ps.set m (Q,d')).map (·.1)).length=o:=by simp[aS]
  rw[ci.o d3 d4,<- cj.o Q d' dk]
  refine⟨X ⟨g,0,Y⟩,O,?_,?_⟩
  .rw[bl];exact(I.o.keep hW).put g _ f0 u
  .rw[bl];exact E
 have al:Hid (∀(ds dx:UInt8)(W:iS),R=⟨ds,dx,o⟩->dJ (w.heap.size+2) w0 W ds dx (fn (X ⟨g,0,Y⟩) o O)->(∀k,w.heap.size+2+2<=k->k<w7->W.heap[k]?=w7.heap[k]?)->w7.heap.size<=W->v8 R (w.heap.size+2) w0 W):=
  λds dx W E hh j hz=>by rw[E];exact⟨_,O,hh,bO.o.toRec.far j hz⟩
 have c7:g≠gd:=λe=>f6 (by rw[e];rfl);have h6:=bt.lt gd ad;have cl:=Z (gY (g:=X g) bt (λk j e=>by rw[ad]at j;injection j with j;subst j;exact f6 e))
 have dy:Hid (∀(s:cH)(v':ja)(F W:iS),n≠0->n≠1->gU f n q l={f with subs:=f.subs++[s]}->Bw w7 W->F.ownsRow (w.heap.size+2+2) 120 2 v' (f.subs.length+1) (f.subs.flatMap subCells++subCells s)->W.grownBy F (X gd)->(v'.ownBlock=X gd∨v'.ownBlock=X W.heap.size)->
  v8 R (w.heap.size+2) w0 (F.setCell ⟨g,m*4+3,Y⟩ v')/\F.cell? ⟨g,m*4+3,Y⟩=X (fn z f.subs A)/\F.frozen? ⟨g,m*4+3,Y⟩=false):=by
  intro s v' F W d3 d4 dk hW he N a1
  have hz:=hW.size
  have cc:∀k,k<w7.heap.size->k≠gd->F.heap[k]?=w7.heap[k]?:=λk j d5=>by rw[N.block k (by omega) (by intro e;injection e with e;exact d5 e),hW.block k j]
  have f5:=List.pairwise_iff_getElem.1 d7
  have E:=bM.put (w:=F) ps aS m 3 ac (λk j d5=>?_) (cN b0 (λg' a4=>?_)) (by omega) v' ({f with subs:=f.subs++[s]},v') (by rw[b8.o];rfl) ?_
  .have bl:((ps.set m ({f with subs:=f.subs++[s]},v')).map (·.1)).length=o:=by simp[aS]
   have h9:F.cell? ⟨g,m*4+3,Y⟩=w7.cell? ⟨g,m*4+3,Y⟩:=ko (cc g a7 c7)
   have f9:F.frozen? ⟨g,m*4+3,Y⟩=w7.frozen? ⟨g,m*4+3,Y⟩:=ka (cc g a7 c7)
   rw[ci.o d3 d4,<- cj.o _ v' dk]
   refine⟨⟨X ⟨g,0,Y⟩,O,?_,?_⟩,by rw[h9];exact t3,by rw[f9];exact tf _⟩
   .rw[bl];exact((I.o.keep hW).grown N (λk j=>by injection j with j;subst j;exact h6.1)).put g _ f0 v'
   .rw[bl];exact E
  .obtain⟨f2,g2,ca,h8⟩:=b1 _ (j4 j)
   have f3:ps[k].2.ownBlock≠ps[m].2.ownBlock:=by
    rcases Nat.lt_or_gt_of_ne d5 with h|h
    .exact f5 k m j ac h
    .exact(f5 m k ac j h).symm
   rw[b8.o,ad,ca]at f3
   refine gY (cN f2 (λg' a4=>?_)) (λk' c9 e=>?_)
   .rw[ca]at a4;injection a4 with a4;subst a4
    exact cc _ (f2.lt _ ca).2 (λe=>f3 (by rw[e]))
   .rw[ca]at c9;injection c9 with c9;subst c9
    exact h8 e
  .have:g'=g:=by simpa[j3]using a4.symm
   subst this
   exact cc _ a7 c7
  .refine gY (by simpa[List.flatMap_append]using he) (λk j e=>?_)
   injection e with e
   subst e
   rcases a1 with a1|a1
   .rw[a1]at j;injection j with j;exact c7 j.symm
   .rw[a1]at j;injection j with j;omega
 have ch:=Z bt;have hF:=Z aT;have hG:=Z b0;have hH:=Z b1;have hJ:=Z d7;have hD:=Z aS;clear hq bt aT b0 b1 d7 bd cu e7 aS ci cj;have c0:=I.c0;have c1:=I.c1;have c2:=I.c2;have x0:=I.x0;have x1:=I.x1;have x2:=I.x2;have c4:=I.big;go_upto_block 2 with(go_at_call 24;(refine iP (ft.o _) ?_;rintro e w'⟨rfl,rfl⟩))
 go_cut [] (λwx=>v8 R (w.heap.size+2) w0 wx)
 case first=>
  have gP:n=0∨n=1∨n=2∨n=3∨n=4∨n=5∨n=6∨n=7:=by omega
  rcases gP with rfl|rfl|rfl|rfl|rfl|rfl|rfl|rfl;rotate_left 7
  .obtain⟨i0,hi,a8,a9,aa⟩:=k2 BM;have HI:=Z hi;have b5:=Z a8;have b6:=Z a9;have b7:=Z aa;clear hi a8 a9 aa;have dq:=cr f;go_wp2_with (at_builtin;refine wpList_append_own_at _ rfl _ _ 121 rfl (w.heap.size+2+2) 120 i0 (.agg #[J h1 0,.string ⟨#[]⟩]) 2 24 underlying121 HI.o b5.o b6.o b7.o rfl (by omega) (fn z f.subs A) f.subs _ rfl (ch.o.alloc _) w7 1 1 [J h1 122,S T] rfl rfl (vX _ _ _ _) (by simp[kz]) (by unfold maxLen;omega) (by omega) (by simp;omega) ?_;intro v' F au N _ a1;obtain⟨fc,fl,rfl⟩:=aw au;obtain⟨bk,g9,f9⟩:=dy.o ⟨122,T⟩ _ F _ (by omega) (by omega) (by rw[<- cm.o];rfl) (aZ w7 _) au (by rw[<- ad];exact N) (by rw[<- ad];exact a1);have cg:=Z bk;clear au N a1 bk)
   go_meet;exact cg.o
  .have hc:=pj l;have E:=gi rfl;obtain⟨c,a0⟩:=Qe (u8I l);rw[a0]at hc E;have b9:=Z E;clear a0 E;go_wp2_with fail;go_meet;exact al.o c C _ b9.o (I.o.set0 c) (λk j _=>iv _ _ _ _ (by simp;omega)) (by simp)
  .have hc:=pj l;have E:=gn rfl;obtain⟨c,a0⟩:=Qe (u8I l);rw[a0]at hc E;have b9:=Z E;clear a0 E;go_wp2_with fail;go_meet;exact al.o H c _ b9.o (I.o.set1 c) (λk j _=>iv _ _ _ _ (by simp;omega)) (by simp)
  .obtain⟨k7,cz,hA⟩:=lH l 7 (by omega);have gx:Hid ((w7.alloc j8).cell? ⟨w7,k7,Y⟩=X (S (pick iW l))):=by unfold Hid;rw[pR iW l 7 k7 rfl cz];exact pA w7 iW 9 k7 hA
   have fy:Hid (∀W,k0 prog 24 #[l,J U 7] W λe w'=>e=hk (k7:Int)/\W=w'):=rR l 7 7 k7 (by omega) (by omega) rfl cz;have hZ:(k7:Int)<7:=by omega
   clear cz;have h3:(w7.alloc j8).cell? ⟨g,m*4,Y⟩=X (S f.tag):=by rw[bf _ _ _ _ a7];exact t0
   have h4:(w7.alloc j8).frozen? ⟨g,m*4,Y⟩=false:=by rw[ka (w:=w7) (j0 _ _ _ a7)];exact tf _
   have cx:Bw w7 (w7.alloc j8):=aZ _ _;have h5:(w7.alloc j8).cell? ⟨w.heap.size+1,2,Y⟩=X (J U l):=by rw[bf _ _ _ _ (by omega)];exact av
   go_wp2_with fail;generalize(w7.alloc j8)=w8 at*;((with_reducible refine iP (fy.o _) ?_);rintro e w'⟨rfl,rfl⟩;have hI:=gx.o)
   go_wp2_with fail;go_meet;exact bY.o 0 (S (pick iW l)) {f with tag:=pick iW l} (fn z f.subs A) (by omega) (by omega) rfl (by omega) rfl cl.o _ cx
  .have e1:=cT f;have i6:¬9223372036854775807<f.data+T.length:=by omega
   have ib:=tf (m*4+2);go_wp2_with fail;go_meet;exact bY.o 2 (S (f.data++T)) {f with data:=f.data++T} (fn z f.subs A) (by omega) (by omega) (by rw[<- cm.o];rfl) (by omega) rfl cl.o _ (jn _ _)
  .obtain⟨k6,cy,hy⟩:=lH l 6 (by omega);have gt:Hid ((w7.alloc kA).cell? ⟨w7,k6,Y⟩=X (S (pick ie l))):=by unfold Hid;rw[pR ie l 6 k6 rfl cy];exact pA w7 ie 9 k6 hy
   have fx:Hid (∀W,k0 prog 24 #[l,J U 6] W λe w'=>e=hk (k6:Int)/\W=w'):=rR l 6 6 k6 (by omega) (by omega) rfl cy;have hY:(k6:Int)<6:=by omega
   clear cy;have h3:(w7.alloc kA).cell? ⟨g,m*4+1,Y⟩=X (S f.ind):=by rw[bf _ _ _ _ a7];exact t1
   have h4:(w7.alloc kA).frozen? ⟨g,m*4+1,Y⟩=false:=by rw[ka (w:=w7) (j0 _ _ _ a7)];exact tf _
   have cx:Bw w7 (w7.alloc kA):=aZ _ _;have h5:(w7.alloc kA).cell? ⟨w.heap.size+1,2,Y⟩=X (J U l):=by rw[bf _ _ _ _ (by omega)];exact av
   go_wp2_with fail;generalize(w7.alloc kA)=w8 at*;((with_reducible refine iP (fx.o _) ?_);rintro e w'⟨rfl,rfl⟩;have hI:=gt.o)
   go_wp2_with fail;go_meet;exact bY.o 1 (S (pick ie l)) {f with ind:=pick ie l} (fn z f.subs A) (by omega) (by omega) rfl (by omega) rfl cl.o _ cx
  .have it:=tf (m*4+3);go_wp2_with fail;go_meet;exact bY.o 3 (fn Y 0 0) {f with subs:=[]} (fn Y 0 0) (by omega) (by omega) rfl (by omega) rfl ⟨Y,0,rfl,λh=>absurd rfl h⟩ _ (jn _ _)
  have a0:=yz q;have fz:=Z a0;clear a0;obtain⟨i0,hi,a8,a9,aa⟩:=k2 BM;have HI:=Z hi;have b5:=Z a8;have b6:=Z a9;have b7:=Z aa;clear hi a8 a9 aa;have dq:=cr f;have P:Hid (∀W,Bw w7 W->(λw':iS=>w'.cell? ⟨g,m*4+3,Y⟩=X (fn z f.subs A)/\w'.cell? ⟨w.heap.size+1,1,Y⟩=X (J U q)) W):=λW hW=>⟨by rw[hW.cell (p:=⟨g,_,Y⟩) a7];exact t3,by rw[hW.cell (p:=⟨w.heap.size+1,_,Y⟩) (by simp;omega)];exact bb⟩;have a2:Hid (Bw w7 w7.drew):=(jn _ w7).drew;have bv:Hid (Bw w7 (w7.alloc (iQ #[J h1 (IntKind.u8.wrap q),S T] 120)).drew):=(aZ _ _).drew;go_wp2_with fail;refine wT (λw':iS=>w'.cell? ⟨g,m*4+3,Y⟩=X (fn z f.subs A)/\w'.cell? ⟨w.heap.size+1,1,Y⟩=X (J U q)) 14 ?_;refine bZ (i:=0) (v:=?_) rfl (by kernel_rfl) (by kernel_rfl) (by kernel_rfl) (by kernel_rfl) (by decide) (λ_ _ _ h=>h) (P _ a2.o) (ky ⟨by rfl,?_⟩) ?_;rotate_left
  .intro w' h;obtain⟨L,V⟩:=h;go_simp;(first|done|rfl)
  (try simp only[Act.put,iD,iF,iN])
  refine bZ (i:=1) (v:=?_) rfl (by kernel_rfl) (by kernel_rfl) (by kernel_rfl) (by kernel_rfl) (by decide) (λ_ _ _ h=>h) (P _ a2.o) (ky ⟨by rfl,?_⟩) ?_;rotate_left
  .intro w' h;obtain⟨L,V⟩:=h;go_simp;(first|done|rfl)
  (try simp only[Act.put,iD,iF,iN])
  refine bZ (i:=2) (v:=?_) rfl (by kernel_rfl) (by kernel_rfl) (by kernel_rfl) (by kernel_rfl) (by decide) (λ_ _ _ h=>h) (P _ a2.o) (ky ⟨by rfl,?_⟩) ?_;rotate_left
  .intro w' h;obtain⟨L,V⟩:=h;go_simp;(first|done|rfl)
  (try simp only[Act.put,iD,iF,iN])
  refine bZ (i:=3) (v:=?_) rfl (by kernel_rfl) (by kernel_rfl) (by kernel_rfl) (by kernel_rfl) (by decide) (λ_ _ _ h=>h) (P _ a2.o) (ky ⟨by rfl,?_⟩) ?_;rotate_left
  .intro w' h;obtain⟨L,V⟩:=h;go_simp;(first|done|rfl)
  (try simp only[Act.put,iD,iF,iN])
  refine bZ (i:=4) (v:=?_) rfl (by kernel_rfl) (by kernel_rfl) (by kernel_rfl) (by kernel_rfl) (by decide) (λ_ _ _ h=>h) (P _ a2.o) (ky ⟨by rfl,?_⟩) ?_;rotate_left
  .intro w' h;obtain⟨L,V⟩:=h;go_simp;(first|done|rfl)
  (try simp only[Act.put,iD,iF,iN])
  refine bZ (i:=5) (v:=?_) rfl (by kernel_rfl) (by kernel_rfl) (by kernel_rfl) (by kernel_rfl) (by decide) (λ_ _ _ h=>h) (P _ a2.o) (ky ⟨by rfl,?_⟩) ?_;rotate_left
  .intro w' h;obtain⟨L,V⟩:=h;go_simp;(first|done|rfl)
  (try simp only[Act.put,iD,iF,iN])
  refine bZ (i:=6) (v:=?_) rfl (by kernel_rfl) (by kernel_rfl) (by kernel_rfl) (by kernel_rfl) (by decide) (λ_ _ _ h=>h) (P _ a2.o) (ky ⟨by rfl,?_⟩) ?_;rotate_left
  .intro w' h;obtain⟨L,V⟩:=h;go_simp;(first|done|rfl)
  (try simp only[Act.put,iD,iF,iN])
  refine bZ (i:=7) (v:=?_) rfl (by kernel_rfl) (by kernel_rfl) (by kernel_rfl) (by kernel_rfl) (by decide) (λ_ _ _ h=>h) (P _ a2.o) (ky ⟨by rfl,?_⟩) ?_;rotate_left
  .intro w' h;obtain⟨L,V⟩:=h;go_simp;(first|done|rfl)
  (try simp only[Act.put,iD,iF,iN])
  refine bZ (i:=8) (v:=?_) rfl (by kernel_rfl) (by kernel_rfl) (by kernel_rfl) (by kernel_rfl) (by decide) (λ_ _ _ h=>h) (P _ a2.o) (ky ⟨by rfl,?_⟩) ?_;rotate_left
  .intro w' h;obtain⟨L,V⟩:=h;go_simp;(first|done|rfl)
  (try simp only[Act.put,iD,iF,iN])
  refine bZ (i:=9) (v:=?_) rfl (by kernel_rfl) (by kernel_rfl) (by kernel_rfl) (by kernel_rfl) (by decide) (λ_ _ _ h=>h) (P _ a2.o) (ky ⟨by rfl,?_⟩) ?_;rotate_left
  .intro w' h;obtain⟨L,V⟩:=h;go_simp;(first|done|rfl)
  (try simp only[Act.put,iD,iF,iN])
  refine Dp 10 λK M=>?_;go_simp;refine M _ _ (λ_=>P _ bv.o) ?_;clear M K;refine Dp 11 λK M=>?_;refine wp_append_lies _ _ _ 121 rfl (w.heap.size+2+2) 120 i0 (.agg #[J h1 0,.string ⟨#[]⟩]) 2 24 underlying121 HI.o b5.o b6.o b7.o rfl (by omega) (fn z f.subs A) f.subs _ (by rfl) (cN ch.o (λg' a4=>bv.o.block g' (ch.o.lt g' a4).2)) w7 1 1 [J h1 (IntKind.u8.wrap q),S T] (by rfl) rfl (vX w7 _ _ _) (by simp[kz]) (by omega) (by unfold maxLen;omega) (by omega) (by simp;omega) _ rfl ?_;intro g9 hP F au N hd i1;rw[fz.o]at au;obtain⟨bk,e9,f9⟩:=dy.o ⟨u8I q,T⟩ _ F _ (by omega) (by omega) (by rw[<- cm.o];rfl) bv.o au (by rw[<- ad];exact N) (hd.elim (λh=>.inl (h.symm.trans ad)) (λh=>.inr (congrArg X h)));have cp:F.cell? ⟨w.heap.size+1,1,Y⟩=X (J U q):=by rw[ko (w:=(w7.alloc (iQ #[J h1 (IntKind.u8.wrap q),S T] 120)).drew) (N.block _ (by simp;omega) (by rw[ad];intro e;injection e with e;simp at e;omega))];exact(P.o _ bv.o).2
  have cg:=Z bk;clear au N bk;refine M _ _ (λ_=>⟨e9,cp⟩) ?_;clear M K;refine Dp 12 λK M=>?_;go_simp;refine M _ _ (λ_=>⟨e9,cp⟩) ?_;clear M K;refine Dp 13 λK M=>?_;go_simp;refine M _ _ (λ_=>⟨e9,cp⟩) ?_;clear M K;refine Dl 14 ?_;go_wp2_with fail;go_meet;exact cg.o
 obtain⟨hB,hC,a3,gp⟩:=hcut;generalize wc=F at*;have z0:=a3.z0;have z1:=a3.z1;have z2:=a3.z2;have y0:=a3.y0;have y1:=a3.y1;have y2:=a3.y2;have d0:=a3.c0;have d1:=a3.c1;have d2:=a3.c2;clear c0 c1 c2 x0 x1 x2 t0 t1 t2 t3;go_wp2_with fail
 all_goals
  refine bodyPost_ret (v:=.agg #[J h1 R.kind.toNat,J h1 R.level.toNat,fn hB R.fields.length hC]) (by simp only[results,Tryz.results84];go_simp) rfl ?_
  exact vo b4.o (by omega) a3.o gp.o _ rfl
end
section
open Go.RowKit Go.Maps Go.Shelf
def yQ(q:Six):Array ja:= #[q.a,q.b,q.c,q.d,q.e,q.f]
def Ax(x:dP):Array ja:= #[x.k,x.a,x.b,x.v,x.q.a,x.q.b,x.q.c,x.q.d,x.q.e,x.q.f]
structure Ay(q:Six):Prop where
 a:i64B q.a
 b:i64B q.b
 c:i64B q.c
 d:i64B q.d
 e:i64B q.e
 f:i64B q.f
structure AD(x:dP):Prop where
 k:i64B x.k
 a:i64B x.a
 b:i64B x.b
 v:i64B x.v
 q:Ay x.q
theorem yr(n:Int):Ay (workQ n):=by
 unfold workQ;repeat' split
 all_goals exact⟨by unfold i64B;decide,by unfold i64B;decide,by unfold i64B;decide,by unfold i64B;decide,by unfold i64B;decide,by unfold i64B;decide⟩
structure SdI(B:Nat)(w0 wr:iS)(x:dP)(q:Six):Prop where
 b:Below B w0 wr
 arg:wr.heap[B]?=some (.cells (Ax x) 47 (0,0))
 res:wr.heap[B+1]?=some (.cells #[.int .i64 0,.int .i64 0,.int .i64 0,.int .u8 0,.int .u8 0,.slice none 0 0] 64 (0,0))
 six:wr.heap[B+2]?=some (.cells (yQ q) 45 (0,0))
theorem SdI.keep{B:Nat}{c wr W:iS}{x:dP}{q:Six}(h:SdI B c wr x q)(a:Bw wr W):SdI B c W x q:=
 ⟨h.b.trans (a.mono (by have:=af h.arg;omega)),(a.block _ (af h.arg)).trans h.arg,(a.block _ (af h.res)).trans h.res,(a.block _ (af h.six)).trans h.six⟩
theorem AL{w:iS}{b:Nat}{f g i j k l:ja}{t:TypeId}(h:w.heap[b]?=X (gs #[f,g,i,j,k,l] t (0,0)))(a c1 c2 c d e:ja):
 ((((((w.setCell b a).setCell ⟨b,1,Y⟩ c1).setCell ⟨b,2,Y⟩ c2).setCell ⟨b,3,Y⟩ c).setCell ⟨b,4,Y⟩ d).setCell ⟨b,5,Y⟩ e).heap[b]?=X (gs #[a,c1,c2,c,d,e] t (0,0)):=
 aA (aA (aA (aA (aA (aA h 0 a) 1 c1) 2 c2) 3 c) 4 d) 5 e
theorem SdI.put{B:Nat}{j wr:iS}{x:dP}{q:Six}(h:SdI B j wr x q)(p:Six):
 SdI B j ((((((wr.setCell ⟨B+2,0,Y⟩ p.a).setCell ⟨B+2,1,Y⟩ p.b).setCell ⟨B+2,2,Y⟩ p.c).setCell ⟨B+2,3,Y⟩ p.d).setCell ⟨B+2,4,Y⟩ p.e).setCell ⟨B+2,5,Y⟩ p.f) x p:=by
 have i:∀k,k≠B+2->((((((wr.setCell ⟨B+2,0,Y⟩ p.a).setCell ⟨B+2,1,Y⟩ p.b).setCell ⟨B+2,2,Y⟩ p.c).setCell ⟨B+2,3,Y⟩ p.d).setCell ⟨B+2,4,Y⟩ p.e).setCell ⟨B+2,5,Y⟩ p.f).heap[k]?=wr.heap[k]?:=λk g=>by rw[iv _ _ _ _ g,iv _ _ _ _ g,iv _ _ _ _ g,iv _ _ _ _ g,iv _ _ _ _ g,iv _ _ _ _ g]
 refine⟨?_,(i B (by omega)).trans h.arg,(i (B+1) (by omega)).trans h.res,AL h.six _ _ _ _ _ _⟩;exact(((((h.b.setCell (p:=⟨B+2,0,Y⟩) (by simp) _).setCell (p:=⟨B+2,1,Y⟩) (by simp) _).setCell (p:=⟨B+2,2,Y⟩) (by simp) _).setCell (p:=⟨B+2,3,Y⟩) (by simp) _).setCell (p:=⟨B+2,4,Y⟩) (by simp) _).setCell (p:=⟨B+2,5,Y⟩) (by simp) _
theorem gj{l:List Bs}{N:Nat}(h:∀x∈l,x<=N)(n:Int):(pick l n).length<=N:=by
 unfold pick;rw[kc];cases hx:l[(n.emod l).toNat]? with
 |none=>simp
 |some x=>exact h x (List.mem_of_getElem? hx)
theorem jc(q:Six):(madeR q).fields.length<=7/\∀f∈(madeR q).fields,(fieldBytes f).length<=200:=by
 have h:=gj (l:=yearsL) (N:=20) (by decide);have j:=gj (l:=booksL) (N:=30) (by decide);have hn:=gj (l:=namesL) (N:=20) (by decide);have m:=gj (l:=titlesL) (N:=20) (by decide);have k:=gj (l:=inds3L) (N:=2) (by decide);have g:(q.c.emod 3).toNat<=2:=by have g:q.c.emod 3<3:=ks _ (by omega);omega
 unfold madeR;dsimp only;constructor
 .have n:(made008 q.b).length<=1:=by unfold made008;split<;>simp
  have o:(gm q.c).length<=2:=by unfold gm;rw[List.length_map,List.length_range];exact g
  have p:(eT q.d).length<=1:=by unfold eT;split<;>simp
  have r:(eS q.e).length<=1:=by unfold eS;split<;>simp
  have s:(eR q.f).length<=1:=by unfold eR;split<;>simp
  simp only[kq];omega
 intro f a;simp only[List.mem_append]at a;rcases a with(((a|a)|a)|a)|a
 .unfold made008 at a;split at a
  .rw[kl]at a;subst a;have:=h q.b;simp[fieldBytes];omega
  cases a
 .unfold gm at a;obtain⟨i,_,rfl⟩:=List.mem_map.1 a;have:=j (q.c.tdiv 3+i);simp[fieldBytes,gE,aV];omega
 .unfold eT at a;split at a
  .rw[kl]at a;subst a;have:=hn (q.d.tdiv 4);simp[fieldBytes,aV];omega
  cases a
 .unfold eS at a;split at a
  .rw[kl]at a;subst a;have:=m (q.e.tdiv 5);have:=k q.e;simp[fieldBytes,aV];omega
  cases a
 unfold eR at a;split at a
 .rw[kl]at a;subst a;have:=h q.f;simp[fieldBytes,aV];omega
 cases a
theorem AU(k a b v n o r s u x:Int)(hx:AD ⟨k,a,b,v,⟨n,o,r,s,u,x⟩⟩)(w:iS):
 k0 prog 45 #[.agg #[k,a,b,v,n,o,r,s,u,x]] w λe w'=>∃(va:Option Addr)(vc:Nat),
  e=hk (li (recI a) (v.emod 6) (saidR ⟨k,a,b,v,⟨n,o,r,s,u,x⟩⟩) (.slice va (saidR ⟨k,a,b,v,⟨n,o,r,s,u,x⟩⟩).fields.length vc))/\
  ah w w' w' (.slice va (saidR ⟨k,a,b,v,⟨n,o,r,s,u,x⟩⟩).fields.length vc) (saidR ⟨k,a,b,v,⟨n,o,r,s,u,x⟩⟩).fields/\Bw w w':=by
 obtain⟨a3,hX⟩:∃a3:dP,(⟨k,a,b,v,⟨n,o,r,s,u,x⟩⟩:dP)=a3:=⟨_,rfl⟩;obtain⟨R,hR⟩:=Qe (saidR ⟨k,a,b,v,⟨n,o,r,s,u,x⟩⟩);obtain⟨p,hp⟩:=Qe ((if b.tmod 3≠0 then workQ b else⟨n,o,r,s,u,x⟩));have cQ:Ay p:=by rw[<- hp];split;exact yr b;exact hx.q
 have bv:Hid (R=if k.emod 8=4/\b.tmod 5=0 then spoilR (madeR p) (a.emod 8) b v else madeR p):=by unfold Hid;rw[<- hR,<- hp];rfl
 obtain⟨mk,c9,lk⟩:=cR k 8 (by omega);obtain⟨ma,c7,la⟩:=cR a 8 (by omega);obtain⟨mb,Q,lb⟩:=cR b 4 (by omega);have bk:Hid (∀W,k0 prog 24 #[k,J U 8] W λe w'=>e=hk (mk:Int)/\W=w'):=dC k 8 mk (by omega) (by omega) c9;have d4:Hid (∀W,k0 prog 24 #[a,J U 8] W λe w'=>e=hk (ma:Int)/\W=w'):=dC a 8 ma (by omega) (by omega) c7;have aT:Hid (∀W,k0 prog 24 #[b,J U 4] W λe w'=>e=hk (mb:Int)/\W=w'):=dC b 4 mb (by omega) (by omega) Q;have d5:Hid (∀W,k0 prog 24 #[v,J U 6] W λe w'=>e=hk (v.emod 6)/\W=w'):=λW=>ki v 6 W (by omega) (by omega);have d9:Hid (b.emod 4=mb):=Q;have da:Hid (k.emod 8=mk):=c9;have d8:Hid (a.emod 8=ma):=c7;have HP:=Z hp;have bs:=Z cQ;obtain⟨B,ax⟩:=Qe ((w.alloc (gs #[k,a,b,v,n,o,r,s,u,x] 47)).alloc (gs #[J U 0,J U 0,J U 0,J h1 0,J h1 0,fn Y 0 0] 64));have cq:Bw w B:=by rw[<- ax];exact((jn _ w).alloc (j2 _) _).alloc (by simp) _
 have hA:B.heap[w.heap.size]?=X (gs #[k,a,b,v,n,o,r,s,u,x] 47 (0,0)):=by rw[<- ax,j0 _ _ _ (by simp)];exact jb w _
 have hB:B.heap[w.heap.size+1]?=X (gs #[J U 0,J U 0,J U 0,J h1 0,J h1 0,fn Y 0 0] 64 (0,0)):=by rw[<- ax];have:=jb (w.alloc (gs #[k,a,b,v,n,o,r,s,u,x] 47)) (gs #[J U 0,J U 0,J U 0,J h1 0,J h1 0,fn Y 0 0] 64);rwa[World.size_alloc]at this
 have ch:B.heap.size=w+2:=by rw[<- ax];simp
 obtain⟨V,az⟩:=Qe (B.alloc (gs #[n,o,r,s,u,x] 45));have bw:Hid (SdI w w V a3 ⟨n,o,r,s,u,x⟩):=by
  have ho:∀k,k<B.heap.size->V.heap[k]?=B.heap[k]?:=λk F=>by rw[<- az];exact j0 _ _ _ F
  refine⟨by rw[<- az];exact cq.alloc (by omega) _,?_,(ho _ (by omega)).trans hB,?_⟩
  .rw[<- hX];exact(ho _ (by omega)).trans hA
  rw[<- ch,<- az];exact jb B _
 have dx:=Z ax;have dy:=Z az;have HA:=Z hA;have dz:=Z ch;have bB:=Z hX;have e5:=Z hx;rw[hR];have b6:=λW:iS=>pP a W hx.a;obtain⟨⟨r1,r2⟩,d0⟩:∃rr,recI a=rr:=⟨_,rfl⟩;rw[d0]at b6 ⊢;dsimp only[recK]at b6;have dd:=Z b6;clear b6 d0;clear ax az hA hB ch cq hX hx hR hp c9 c7 Q cQ;unfold li;go_enter func45,ntmps45;have a4:B.cell? ⟨w,4,Y⟩=X (J U n):=(ab HA.o 4).trans rfl;have a5:B.cell? ⟨w,5,Y⟩=X (J U o):=(ab HA.o 5).trans rfl;have a6:B.cell? ⟨w,6,Y⟩=X (J U r):=(ab HA.o 6).trans rfl;have a7:B.cell? ⟨w,7,Y⟩=X (J U s):=(ab HA.o 7).trans rfl;have a8:B.cell? ⟨w,8,Y⟩=X (J U u):=(ab HA.o 8).trans rfl;have a9:B.cell? ⟨w,9,Y⟩=X (J U x):=(ab HA.o 9).trans rfl;go_upto_region 1 with fail;rw[dx.o];go_upto_region 2 with fail;rw[dy.o];clear a4 a5 a6 a7 a8 a9;rw[dz.o];have bc:Hid (∀(W:iS)(q':Six),SdI w w W a3 q'->W.cell? w=X (J U k)/\W.cell? ⟨w,1,Y⟩=X (J U a)/\W.cell? ⟨w,2,Y⟩=X (J U b)/\W.cell? ⟨w,3,Y⟩=X (J U v)):=λW q' h=>by have l:=h.arg;rw[<- bB.o]at l;exact⟨(ab l 0).trans rfl,(ab l 1).trans rfl,(ab l 2).trans rfl,(ab l 3).trans rfl⟩
 obtain⟨_,_,x2,_⟩:=bc V _ bw.o;go_upto_if 11 with fail;clear x2;obtain⟨G,H,I,L,N,O⟩:=p;go_cut [] (λwx=>Hid (SdI w w wx a3 ⟨G,H,I,L,N,O⟩))
 case first=>
  by_cases hb3:b.tmod 3=0
  .have e2:(⟨G,H,I,L,N,O⟩:Six)=⟨n,o,r,s,u,x⟩:=by rw[<- HP.o,if_neg (by simp[hb3])]
   go_wp2_with fail;go_meet;rw[e2];exact bw.o
  have dc:Hid ((⟨G,H,I,L,N,O⟩:Six)=workQ b):=by unfold Hid;rw[<- HP.o,if_pos hb3]
  go_upto_region 3 with fail;obtain⟨q4,cc⟩:=Qe V.heap.size;refine wp_region_lit ?_;refine kn rfl 45 _ rfl _ rfl #[J U 0,J U 2,J U 1,J U 5,J U 6,J U 0] (by kernel_rfl) ?_;go_simp;refine kn rfl 45 _ rfl _ rfl #[J U 0,J U 2,J U 0,J U 5,J U 6,J U 1] (by kernel_rfl) ?_;go_simp;refine kn rfl 45 _ rfl _ rfl #[J U 0,J U 4,J U 4,J U 9,J U 21,J U 1] (by kernel_rfl) ?_;go_simp;refine kn rfl 45 _ rfl _ rfl #[J U 0,J U 1,J U 0,J U 9,J U 21,J U 2] (by kernel_rfl) ?_;go_simp;refine kn rfl 159 _ rfl _ rfl #[J U 0,J U 2,J U 1,J U 5,J U 6,J U 0,J U 0,J U 2,J U 0,J U 5,J U 6,J U 1,J U 0,J U 4,J U 4,J U 9,J U 21,J U 1,J U 0,J U 1,J U 0,J U 9,J U 21,J U 2] (by kernel_rfl) ?_;go_simp;refine Great.wpList_allocTo rfl _ rfl (hr (X ⟨V,0,Y⟩)) (gs #[J U 0,J U 0,J U 0,J U 0,J U 0,J U 0,J U 0,J U 0,J U 0,J U 0,J U 0,J U 0,J U 0,J U 0,J U 0,J U 0,J U 0,J U 0,J U 0,J U 0,J U 0,J U 0,J U 0,J U 0] 159) (by kernel_rfl) ?_;rw[cc];obtain⟨aC,bb⟩:=Qe (V.alloc (gs #[J U 0,J U 0,J U 0,J U 0,J U 0,J U 0,J U 0,J U 0,J U 0,J U 0,J U 0,J U 0,J U 0,J U 0,J U 0,J U 0,J U 0,J U 0,J U 0,J U 0,J U 0,J U 0,J U 0,J U 0] 159));have bO:aC.heap[q4]?=X (gs #[J U 0,J U 0,J U 0,J U 0,J U 0,J U 0,J U 0,J U 0,J U 0,J U 0,J U 0,J U 0,J U 0,J U 0,J U 0,J U 0,J U 0,J U 0,J U 0,J U 0,J U 0,J U 0,J U 0,J U 0] 159 (0,0)):=by rw[<- bb,<- cc];exact jb V _
  rw[bb];go_simp;refine wpList_store_rowTo rfl 159 _ _ rfl rfl q4 #[J U 0,J U 2,J U 1,J U 5,J U 6,J U 0,J U 0,J U 2,J U 0,J U 5,J U 6,J U 1,J U 0,J U 4,J U 4,J U 9,J U 21,J U 1,J U 0,J U 1,J U 0,J U 9,J U 21,J U 2] rfl rfl 159 _ bO (by kernel_rfl) rfl (by kernel_rfl) ?_;obtain⟨D,b9⟩:=Qe (aC.setRow q4 #[J U 0,J U 2,J U 1,J U 5,J U 6,J U 0,J U 0,J U 2,J U 0,J U 5,J U 6,J U 1,J U 0,J U 4,J U 4,J U 9,J U 21,J U 1,J U 0,J U 1,J U 0,J U 9,J U 21,J U 2]);have cp:D.heap[q4]?=X (gs #[J U 0,J U 2,J U 1,J U 5,J U 6,J U 0,J U 0,J U 2,J U 0,J U 5,J U 6,J U 1,J U 0,J U 4,J U 4,J U 9,J U 21,J U 1,J U 0,J U 1,J U 0,J U 9,J U 21,J U 2] 159 (0,0)):=by rw[<- b9];exact setRow_heap aC q4 _ _ 159 (0,0) bO
  have cs:Bw V D:=by
   have l:Bw V aC:=by rw[<- bb];exact(jn _ V).alloc (j2 _) _
   rw[<- b9];exact l.trans ⟨setRow_os _ _ _,setRow_tape _ _ _,setRow_output _ _ _,Nat.le_of_eq (setRow_size _ _ _).symm,λk F=>setRow_other aC q4 k _ (by omega)⟩
  have y:Hid (SdI w w D a3 ⟨n,o,r,s,u,x⟩):=bw.keep cs;rw[b9];clear cs bO bb;go_upto_region 4 with fail;clear cc b9;obtain⟨_,_,x2,_⟩:=bc D _ y.o;have y0:D.cell? ⟨w.heap.size+2,0,Y⟩=X (J U n):=(ab y.six 0).trans rfl;have y1:D.cell? ⟨w.heap.size+2,1,Y⟩=X (J U o):=(ab y.six 1).trans rfl;have y2:D.cell? ⟨w.heap.size+2,2,Y⟩=X (J U r):=(ab y.six 2).trans rfl;have y3:D.cell? ⟨w.heap.size+2,3,Y⟩=X (J U s):=(ab y.six 3).trans rfl;have y4:D.cell? ⟨w.heap.size+2,4,Y⟩=X (J U u):=(ab y.six 4).trans rfl;have y5:D.cell? ⟨w.heap.size+2,5,Y⟩=X (J U x):=(ab y.six 5).trans rfl;have z0:=ae y.six 0;have z1:=ae y.six 1;have z2:=ae y.six 2;have z3:=ae y.six 3;have z4:=ae y.six 4;have z5:=ae y.six 5;have j:Hid (∀i,D.cell? ⟨q4,i,Y⟩=_):=λi=>ab cp i;have aa:=dc.o;have Q:=d9.o;clear cp;obtain rfl|rfl|rfl|rfl:mb=0∨mb=1∨mb=2∨mb=3:=by omega
  .have n0:=(j 0).trans rfl;have n1:=(j 1).trans rfl;have n2:=(j 2).trans rfl;have n3:=(j 3).trans rfl;have n4:=(j 4).trans rfl;have n5:=(j 5).trans rfl;have ac:Hid ((⟨G,H,I,L,N,O⟩:Six)=⟨0,2,1,5,6,0⟩):=by unfold Hid;rw[aa];unfold workQ;rw[Q];rfl
   clear aa Q;go_wp2_with (go_at_call 24;(refine iP (aT.o _) ?_;rintro e w5⟨rfl,rfl⟩))
   go_meet;rw[ac.o];exact y.put ⟨0,2,1,5,6,0⟩
  .have n0:=(j 6).trans rfl;have n1:=(j 7).trans rfl;have n2:=(j 8).trans rfl;have n3:=(j 9).trans rfl;have n4:=(j 10).trans rfl;have n5:=(j 11).trans rfl;have ac:Hid ((⟨G,H,I,L,N,O⟩:Six)=⟨0,2,0,5,6,1⟩):=by unfold Hid;rw[aa];unfold workQ;rw[Q];rfl
   clear aa Q;go_wp2_with (go_at_call 24;(refine iP (aT.o _) ?_;rintro e w5⟨rfl,rfl⟩))
   go_meet;rw[ac.o];exact y.put ⟨0,2,0,5,6,1⟩
  .have n0:=(j 12).trans rfl;have n1:=(j 13).trans rfl;have n2:=(j 14).trans rfl;have n3:=(j 15).trans rfl;have n4:=(j 16).trans rfl;have n5:=(j 17).trans rfl;have ac:Hid ((⟨G,H,I,L,N,O⟩:Six)=⟨0,4,4,9,21,1⟩):=by unfold Hid;rw[aa];unfold workQ;rw[Q];rfl
   clear aa Q;go_wp2_with (go_at_call 24;(refine iP (aT.o _) ?_;rintro e w5⟨rfl,rfl⟩))
   go_meet;rw[ac.o];exact y.put ⟨0,4,4,9,21,1⟩
  have n0:=(j 18).trans rfl;have n1:=(j 19).trans rfl;have n2:=(j 20).trans rfl;have n3:=(j 21).trans rfl;have n4:=(j 22).trans rfl;have n5:=(j 23).trans rfl;have ac:Hid ((⟨G,H,I,L,N,O⟩:Six)=⟨0,1,0,9,21,2⟩):=by unfold Hid;rw[aa];unfold workQ;rw[Q];rfl
  clear aa Q;go_wp2_with (go_at_call 24;(refine iP (aT.o _) ?_;rintro e w5⟨rfl,rfl⟩))
  go_meet;rw[ac.o];exact y.put ⟨0,1,0,9,21,2⟩
 have HS:=hcut;clear hcut;have c0:wc.cell? ⟨w.heap.size+2,0,Y⟩=X (J U G):=(ab HS.six 0).trans rfl;have c1:wc.cell? ⟨w.heap.size+2,1,Y⟩=X (J U H):=(ab HS.six 1).trans rfl;have c2:wc.cell? ⟨w.heap.size+2,2,Y⟩=X (J U I):=(ab HS.six 2).trans rfl;have c3:wc.cell? ⟨w.heap.size+2,3,Y⟩=X (J U L):=(ab HS.six 3).trans rfl;have c4:wc.cell? ⟨w.heap.size+2,4,Y⟩=X (J U N):=(ab HS.six 4).trans rfl;have c5:wc.cell? ⟨w.heap.size+2,5,Y⟩=X (J U O):=(ab HS.six 5).trans rfl;have b4:=Bm G H I L N O bs.c bs.d bs.e wc;obtain⟨M,hM⟩:=Qe (madeR ⟨G,H,I,L,N,O⟩);have b5:=jc ⟨G,H,I,L,N,O⟩;have cP:M.level=109:=by rw[<- hM];rfl
 rw[hM]at b4 b5 bv;obtain⟨kd,lv,P⟩:=M;dsimp only at b4 b5 cP;subst cP;have cj:=Z b4;have cl:=Z b5;clear b4 b5 hM;go_upto_region 6 with(go_at_call 83;(refine iP cj.o ?_;rintro e w5⟨va,vc,rfl,cz,cu⟩;have ci:=Z cz;have aS:=Z cu;clear cz cu))
 obtain⟨T,hT⟩:=Qe w5.heap.size;obtain⟨g,ay⟩:=Qe (w5.alloc (gs #[J h1 kd,J h1 109,fn va P vc] 62));have bY:g.heap[T]?=X (gs #[J h1 kd,J h1 109,fn va P vc] 62 (0,0)):=by rw[<- ay,<- hT];exact jb w5 _
 have cv:Bw wc g:=by rw[<- ay];exact aS.o.alloc aS.o.size _
 have a2:Hid (SdI w w g a3 ⟨G,H,I,L,N,O⟩):=HS.keep cv;have d2:w.heap.size+3<=wc:=by have:=af HS.o.six;omega
 have bl:Hid (ah (w.heap.size+3) g g (fn va P vc) P):=by have h:=ci.o.kept (w':=g) (λq _ hq=>by rw[<- ay];exact j0 _ _ _ hq);exact h.mono d2 (by rw[<- ay];simp)
 have ds:Hid (w+3<=T/\T<g/\w.heap.size+3<=g):=by have l:=af HS.six;have m:=aS.size;have z:=af bY;exact⟨by omega,z,by omega⟩
 have b1:=Z bY;rw[hT,ay];clear c0 c1 c2 c3 c4 c5 ci cv ay hT bY HS d2 cj aS;obtain⟨x0,_,x2,_⟩:=bc g _ a2.o;go_cut [33] (λt wx=>t=hK (decide (mk=4)&&decide (b.tmod 5=0))/\wx=g)
 case first=>
  by_cases h4:mk=4
  .subst h4;by_cases h5:b.tmod 5=0
   .go_wp2_with (go_at_call 24;(refine iP (bk.o _) ?_;rintro e C⟨rfl,rfl⟩))
    go_meet;exact⟨by simp[h5],rfl⟩
   go_wp2_with (go_at_call 24;(refine iP (bk.o _) ?_;rintro e C⟨rfl,rfl⟩))
   go_meet;exact⟨by simp[h5],rfl⟩
  have e6:((mk:Int)==4)=false:=by simp;omega
  go_wp2_with (go_at_call 24;(refine iP (bk.o _) ?_;rintro e C⟨rfl,rfl⟩))
  go_meet;exact⟨by simp[h4],rfl⟩
 obtain⟨rfl,cg⟩:=hcut;have cg:=cg.symm;subst cg;clear x0 x2;have b0:Hid (R=if(decide (mk=4)&&decide (b.tmod 5=0))=true then spoilR ⟨kd,109,P⟩ (ma:Int) b v else⟨kd,109,P⟩):=by
  unfold Hid;have e1:=bv.o;rw[da.o,d8.o]at e1;rw[e1];by_cases h4:mk=4/\b.tmod 5=0
  .rw[if_pos ⟨by omega,h4.2⟩,if_pos (by simp[h4.1,h4.2])]
  rw[if_neg (by intro h;exact h4 ⟨by omega,h.2⟩),if_neg (by simpa using h4)]
 obtain⟨sp,d1⟩:=Qe ((decide (mk=4)&&decide (b.tmod 5=0)));rw[d1]at b0 ⊢;clear d1 bv;go_upto_if 33 with fail;go_cut [] (λwx=>∃(ad:Option Addr)(al:Nat),Hid (SdI w w wx a3 ⟨G,H,I,L,N,O⟩)/\Hid (wx.heap[T]?=X (gs #[J h1 R.kind.toNat,J h1 R.level.toNat,fn ad R.fields.length al] 62 (0,0)))/\Hid (ah (w.heap.size+3) wx wx (fn ad R.fields.length al) R.fields))
 case first=>
  cases sp
  .have bt:Hid (R=⟨kd,109,P⟩):=by unfold Hid;rw[b0.o,if_neg (by decide)]
   go_wp2_with fail;go_meet;rw[bt.o];exact⟨va,vc,a2,b1,bl⟩
  have bt:Hid (R=spoilR ⟨kd,109,P⟩ (ma:Int) b v):=by unfold Hid;rw[b0.o,if_pos rfl]
  have au:g.drew.heap[w.heap.size]?=g.heap[w.heap.size]? /\g.drew.heap[T]?=g.heap[T]?:=⟨rfl,rfl⟩;have cd:=tR kd 109 P va vc ma (by omega) b v g.drew (bl.o.mono (Nat.zero_le _) (j2 _)) (by have:=cl.o.1;omega) (λf hf=>kv (cl.o.2 f hf) (by omega));rw[<- bt.o]at cd;have dk:=Z (show k0 prog 84 #[.agg #[J h1 kd,J h1 109,fn va P vc],.agg #[(ma:Int),b,v]] g.drew _ from cd);clear cd;have bd:Hid (∀W:iS,(W.heap[w.heap.size]?=g.heap[w.heap.size]? /\W.heap[T]?=g.heap[T]?)->(W.cell? ⟨T,0,Y⟩=X (J h1 kd)/\W.cell? ⟨T,1,Y⟩=X (J h1 109)/\W.cell? ⟨T,2,Y⟩=X (fn va P vc))/\W.cell? ⟨w,1,Y⟩=X (J U a)/\W.cell? ⟨w,2,Y⟩=X (J U b)/\W.cell? ⟨w,3,Y⟩=X (J U v)):=λW h=>by have l:=h.1.trans a2.arg;rw[<- bB.o]at l;have m:=h.2.trans b1.o;exact⟨⟨(ab m 0).trans rfl,(ab m 1).trans rfl,(ab m 2).trans rfl⟩,(ab l 1).trans rfl,(ab l 2).trans rfl,(ab l 3).trans rfl⟩
  go_wp2_with fail;refine wT (λW:iS=>W.heap[w.heap.size]?=g.heap[w.heap.size]? /\W.heap[T]?=g.heap[T]?) 10 ?_;refine Qb [0,1,4,6,2,5,7] au bd ?_;refine Dp 3 λK A=>?_;go_simp;go_at_call 24;with_reducible refine iP (d4.o _) ?_
  rintro e C⟨rfl,rfl⟩;refine A _ _ (λ_=>au) ?_;clear A K;go_simp;refine Qa [8] au ?_
  refine Dp 9 λK A=>?_;go_simp;go_at_call 84;with_reducible refine iP dk.o ?_
  rintro e C⟨sb,cb,rfl,b3,cy⟩;have b8:=ds.o;have b7:C.heap[w.heap.size]?=g.heap[w.heap.size]? /\C.heap[T]?=g.heap[T]?:=⟨b3.block _ (by show w.heap.size<g;omega),b3.block _ (by show T<g;omega)⟩;have d6:=Z cy;have d3:Hid (Bw g C):=(jn _ g).drew.trans b3;clear cy b3;refine A _ _ (λ_=>b7) ?_;clear A K;go_simp;have m:=b7.2.trans b1.o;have t0:C.cell? ⟨T,0,Y⟩=X (J h1 kd):=(ab m 0).trans rfl;have t1:C.cell? ⟨T,1,Y⟩=X (J h1 109):=(ab m 1).trans rfl;have t2:C.cell? ⟨T,2,Y⟩=X (fn va P vc):=(ab m 2).trans rfl;have z0:=ae m 0;have z1:=ae m 1;have z2:=ae m 2;have dq:=Z m;have e7:=Z b7;clear m b7;refine Dl 10 ?_;go_wp2_with fail;go_meet;obtain⟨E,a0⟩:=Qe (((C.setCell ⟨T,0,Y⟩ (J h1 R.kind.toNat)).setCell ⟨T,1,Y⟩ (J h1 R.level.toNat)).setCell ⟨T,2,Y⟩ (fn sb R.fields.length cb));have ca:∀k,k≠T->E.heap[k]?=C.heap[k]?:=λk F=>by rw[<- a0,iv _ _ _ _ F,iv _ _ _ _ F,iv _ _ _ _ F]
  have e4:E.heap.size=C:=by rw[<- a0];simp
  have c6:Below (w.heap.size+3) C E:=by rw[<- a0];exact(((jn _ C).setCell (p:=⟨T,0,Y⟩) b8.1 _).setCell (p:=⟨T,1,Y⟩) b8.1 _).setCell (p:=⟨T,2,Y⟩) b8.1 _
  have e0:E.heap[T]?=X (gs #[J h1 R.kind.toNat,J h1 R.level.toNat,fn sb R.fields.length cb] 62 (0,0)):=by rw[<- a0];exact aA (aA (aA dq.o 0 _) 1 _) 2 _
  rw[a0];have b2:Below (w.heap.size+3) g E:=(d3.mono b8.2.2).trans c6;refine⟨sb,cb,⟨a2.o.b.trans (b2.mono (by omega)),(b2.block _ (by omega)).trans a2.o.arg,(b2.block _ (by omega)).trans a2.o.res,(b2.block _ (by omega)).trans a2.o.six⟩,e0,?_⟩;have h:=d6.o.kept (w':=E) (λq hq _=>ca q (by have:g<=q:=hq;omega));exact h.mono (by show w.heap.size+3<=g;omega) (by omega)
 obtain⟨ad,al,ao,cm,d7⟩:=hcut;clear a2 b1 bl b0;have au:Bw wc wc.drew:=(jn _ wc).drew;have bd:Hid (∀W:iS,Bw wc W->(W.cell? ⟨T,0,Y⟩=X (J h1 R.kind.toNat)/\W.cell? ⟨T,1,Y⟩=X (J h1 R.level.toNat)/\W.cell? ⟨T,2,Y⟩=X (fn ad R.fields.length al))/\W.cell? ⟨w,1,Y⟩=X (J U a)/\W.cell? ⟨w,3,Y⟩=X (J U v)):=λW h=>by have l:=(h.block _ (af ao.arg)).trans ao.arg;rw[<- bB.o]at l;have m:=(h.block _ (af cm.o)).trans cm.o;exact⟨⟨(ab m 0).trans rfl,(ab m 1).trans rfl,(ab m 2).trans rfl⟩,(ab l 1).trans rfl,(ab l 3).trans rfl⟩
 go_wp2_with fail;refine wT (λW:iS=>Bw wc W) 8 ?_;refine Qb [0,3,6,1,4] au bd ?_;refine Dp 2 λK A=>?_;go_simp;go_at_call 20;with_reducible refine iP (dd.o _) ?_
 rintro e w9⟨rfl,cx⟩;have av:Bw wc w9:=au.trans cx;refine A _ _ (λ_=>av) ?_;clear A K;go_simp;refine Dp 5 λK A=>?_;go_simp;go_at_call 24;with_reducible refine iP (d5.o _) ?_
 rintro e C⟨rfl,rfl⟩;refine A _ _ (λ_=>av) ?_;clear A K;go_simp;refine Qa [7] av ?_
 have z:=(av.block _ (af ao.res)).trans ao.res;have y0:w9.cell? ⟨w.heap.size+1,0,Y⟩=X (J U 0):=(ab z 0).trans rfl;have y1:w9.cell? ⟨w.heap.size+1,1,Y⟩=X (J U 0):=(ab z 1).trans rfl;have y2:w9.cell? ⟨w.heap.size+1,2,Y⟩=X (J U 0):=(ab z 2).trans rfl;have y3:w9.cell? ⟨w.heap.size+1,3,Y⟩=X (J h1 0):=(ab z 3).trans rfl;have y4:w9.cell? ⟨w.heap.size+1,4,Y⟩=X (J h1 0):=(ab z 4).trans rfl;have y5:w9.cell? ⟨w.heap.size+1,5,Y⟩=X (fn Y 0 0):=(ab z 5).trans rfl;have z0:=ae z 0;have z1:=ae z 1;have z2:=ae z 2;have z3:=ae z 3;have z4:=ae z 4;have z5:=ae z 5;have bA:=Z av;clear z av cx;refine Dl 8 ?_;go_wp2_with fail;refine bodyPost_ret (v:=.agg #[r1,r2,(v.emod 6),J h1 R.kind.toNat,J h1 R.level.toNat,fn ad R.fields.length al]) (by rw[df rfl];go_simp) rfl ?_;obtain⟨E,a0⟩:=Qe ((((((w9.setCell ⟨w.heap.size+1,0,Y⟩ r1).setCell ⟨w.heap.size+1,1,Y⟩ r2).setCell ⟨w.heap.size+1,2,Y⟩ (v.emod 6)).setCell ⟨w.heap.size+1,3,Y⟩ (J h1 R.kind.toNat)).setCell ⟨w.heap.size+1,4,Y⟩ (J h1 R.level.toNat)).setCell ⟨w.heap.size+1,5,Y⟩ (fn ad R.fields.length al));have ca:∀k,k≠w.heap.size+1->E.heap[k]?=w9.heap[k]?:=λk F=>by rw[<- a0,iv _ _ _ _ F,iv _ _ _ _ F,iv _ _ _ _ F,iv _ _ _ _ F,iv _ _ _ _ F,iv _ _ _ _ F]
 have e4:E.heap.size=w9:=by rw[<- a0];simp
 have c6:Below w w9 E:=by rw[<- a0];exact((((((jn _ w9).setCell (p:=⟨w.heap.size+1,0,Y⟩) (by simp) _).setCell (p:=⟨w.heap.size+1,1,Y⟩) (by simp) _).setCell (p:=⟨w.heap.size+1,2,Y⟩) (by simp) _).setCell (p:=⟨w.heap.size+1,3,Y⟩) (by simp) _).setCell (p:=⟨w.heap.size+1,4,Y⟩) (by simp) _).setCell (p:=⟨w.heap.size+1,5,Y⟩) (by simp) _
 rw[a0];refine⟨ad,al,rfl,?_,ao.o.b.trans ((bA.o.mono (by have:=ao.o.b.size;omega)).trans c6)⟩;have h:=d7.o.kept (w':=E) (λq hq e3=>(ca q (by omega)).trans (bA.o.block q e3));exact h.mono (by omega) (by have:=bA.o.size;omega)
end
end Go.Proofs.YtjcimanddakkaaaGreatDoor
