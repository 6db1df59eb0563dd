/- Lemmas. -/
import Derived.Test.YtjcimanddakkaaaGreatDoorCQ12
import Derived.Test.YtjcimanddakkaaaGreatDoorCQ30
import Derived.Deep.CutBlock
set_option maxRecDepth 100000
set_option maxHeartbeats 8000000
namespace Go.Proofs.YtjcimanddakkaaaGreatDoor
open _root_.Option renaming some→X,none→Y
open Go.Value renaming slice→fn,int→J,pointer→hr,bool→hK
open Go.Obj renaming cells→gs
open Go.IntKind renaming u8→h1,i64→U
open Go.Ending renaming returned→hk
open Go.Lib renaming hid→Z
open Tryz
open Go.RowKit.Below renaming heap_setCell→iP,refl→j3,heap_alloc→j4
open _root_.List renaming setIfInBounds_toArray→iQ,set_cons_zero→iS,set_cons_succ→ja,eq_nil_of_length_eq_zero→ka,getElem_mem→kk,flatMap_cons→kn,getD_eq_getElem?_getD→ko,mem_singleton→ks,length_append→kx
open Go.Calls renaming mono→jb
open Go.Obj renaming cells→jn
open Go renaming World→j0,Value→j1,wpList_buildTo→kt,Calls→k4,info_parts→k8
open Go.World renaming alloc_heap_new→j2,frozen?_of_block→kl,cell?_setCell_other→kq,cell?_of_block→kv,cell?→k1
open _root_.Nat renaming le_refl→kb,zero_add→kz,le_trans→k0,zero_mul→k5
open Go.Value renaming ownBlock→kc,oneCell'→k3
open _root_.Int renaming emod_lt_of_pos→ky
open _root_.Or renaming inl→k2
open Go.Builtin renaming append_→k9
section
open Go.RowKit
theorem gS{lo:Nat}{g:Option Nat}{w:j0}{d:j1}{a:List ct}(h:w.ownsRow lo 120 2 d a.length (a.flatMap subCells))(l:∀k,d.ownBlock=X k->g≠X k):bC lo g w d a:=by
 rcases h.2 with⟨rfl,e⟩|⟨b,n,o,rfl,i,p,q⟩
 .have:a=[]:=ka e;subst this;exact⟨Y,0,rfl,λh=>absurd rfl h⟩
 have m:=h.lt b (by simp[kc]);refine⟨_,_,rfl,λ_=>⟨b,0,rfl,i,m.2,l b (by simp[kc]),λj x c=>?_⟩⟩;have f:=h.cellAt j (by have:=(List.getElem?_eq_some_iff.1 c).1;rw[h.1]at this;exact this);rw[kz,f];exact c
theorem cF{w w':j0}{B:Nat}{e:TypeId}{k:Nat}{v:j1}{n:Nat}{b:List j1}(h:w.ownsRow B e k v n b)(j:∀g,v.ownBlock=X g->w'.heap[g]?=w.heap[g]?):w'.ownsRow B e k v n b:=by
 refine⟨h.1,?_⟩;rcases h.2 with hn|⟨g,c,d,a,f,i,l⟩
 .exact .inl hn
 exact .inr ⟨g,c,d,a,f,by rw[j g (by rw[a];simp[kc])];exact i,l⟩
structure en(lo:Nat)(w:j0)(v:j1)(fs:List af):Prop where
 ex:∃ps:List (af×j1),ps.map (·.1)=fs/\w.ownsRow lo 123 4 v fs.length (ps.flatMap fieldCells)/\
  (∀p∈ps,w.ownsRow lo 120 2 p.2 p.1.subs.length (p.1.subs.flatMap subCells)/\∃g,p.2.ownBlock=some g/\v.ownBlock≠some g)/\ps.Pairwise (λp q=>p.2.ownBlock≠q.2.ownBlock)
theorem en.nil(lo:Nat)(w:j0):en lo w (fn Y 0 0) []:=⟨⟨[],rfl,World.ownsRow_nil _ _ _ _,by simp,.nil⟩⟩
theorem en.toRec{lo:Nat}{w:j0}{v:j1}{b:List af}(h:en lo w v b):bL lo w v b:=by
 obtain⟨ps,f,i,c,_⟩:=h.ex;refine⟨⟨ps,f,λp d=>gS (c p d).1 (λk a e=>?_),i⟩⟩;obtain⟨g,j,l⟩:=(c p d).2;rw[j]at a;injection a with a
 subst a;exact l e
theorem en.keep{lo:Nat}{w w':j0}{v:j1}{d:List af}(h:en lo w v d)(f:Bw w w'):en lo w' v d:=by
 obtain⟨ps,i,e,a,j⟩:=h.ex;exact⟨⟨ps,i,cF e (λg b=>f.block g (e.lt g b).2),λp c=>⟨cF (a p c).1 (λg b=>f.block g ((a p c).1.lt g b).2),(a p c).2⟩,j⟩⟩
theorem en.far{lo:Nat}{w w':j0}{v:j1}{e:List af}(h:en lo w v e)(f:∀k,lo<=k->k<w.heap.size->w'.heap[k]?=w.heap[k]?):en lo w' v e:=by
 obtain⟨ps,i,d,b,j⟩:=h.ex;exact⟨⟨ps,i,cF d (λg a=>f g (d.lt g a).1 (d.lt g a).2),λp c=>⟨cF (b p c).1 (λg a=>f g ((b p c).1.lt g a).1 ((b p c).1.lt g a).2),(b p c).2⟩,j⟩⟩
theorem en.app{lo:Nat}{w1 l:j0}{v h:j1}{m:List af}(f:af)(d:j1)(ps:List (af×j1))(w:ps.map (·.1)=m)
 (y:∀p∈ps,w1.ownsRow lo 120 2 p.2 p.1.subs.length (p.1.subs.flatMap subCells)/\∃g,p.2.ownBlock=X g/\v.ownBlock≠X g)(z:ps.Pairwise (λp q=>p.2.ownBlock≠q.2.ownBlock))
 (A:w1.ownsRow lo 120 2 d f.subs.length (f.subs.flatMap subCells))(i:Nat)(o:d.ownBlock=X i)(E:v.ownBlock≠X i)(G:∀p∈ps,p.2.ownBlock≠X i)
 (I:l.ownsRow lo 123 4 h (m.length+1) (ps.flatMap fieldCells++fieldCells (f,d)))(B:w1.grownBy l v.ownBlock)(b:h.ownBlock=v.ownBlock∨h.ownBlock=X w1.heap.size):en lo l h (m++[f]):=by
 have u:∀(x:j1)(c:List ct)(g:Nat),w1.ownsRow lo 120 2 x c.length (c.flatMap subCells)->x.ownBlock=X g->v.ownBlock≠X g->l.ownsRow lo 120 2 x c.length (c.flatMap subCells)/\∃g,x.ownBlock=X g/\h.ownBlock≠X g:=by
  intro x c g t n s;have F:=(t.lt g n).2;refine⟨cF t (λk j=>?_),g,n,?_⟩
  .rw[n]at j;injection j with j;subst j
   exact B.block _ F (λe=>s e.symm)
  rcases b with b|b
  .rw[b];exact s
  rw[b];intro e;injection e with e;omega
 refine⟨⟨ps++[(f,d)],by simp[w],by simpa using I,?_,?_⟩⟩
 .intro p a;rcases List.mem_append.1 a with a|a
  .obtain⟨H,g,C,D⟩:=y p a;exact u _ _ g H C D
  simp at a;subst a;exact u _ _ i A o E
 refine List.pairwise_append.2 ⟨z,by simp,λp a q r=>?_⟩;simp at r;subst r;rw[o];exact G p a
theorem xw(lo:Nat)(W:j0)(D:Nat)(d:j1)(c:List ct)(p:W.heap[D]?=X (gs #[] 120 (0,0)))(y:aw 0 W.heap.size W d c)(hn:c.length<=1000000)(B:lo<=D):
 ∃(a:Addr)(e:Nat)(f:j0),(k9 #[121,121] 121 #[fn (X ⟨D,0,Y⟩) 0 0,d]).run prog W=.ok (fn (X a) c.length e) f/\f.ownsRow lo 120 2 (fn (X a) c.length e) c.length (c.flatMap subCells)/\W.grownBy f (X D)/\(a.block=D∨a.block=W.heap.size):=by
 obtain⟨i,q,F,C,w⟩:=k8 Be;have G:D<W.heap.size:=(Array.getElem?_eq_some_iff.1 p).1;have r:W.ownsRow lo 120 2 (fn (X ⟨D,0,Y⟩) 0 0) 0 []:=⟨by simp,.inr ⟨D,0, #[],rfl,B,p,kb _,by unfold maxLen;omega,by simp,by simp⟩⟩;obtain⟨a,e,rfl,h⟩:=y;by_cases h0:c=[]
 .subst h0;have E:Src prog i.size 121 (fn a 0 e) 0 [] W:=by
   cases a with
   |none=>exact Src.ofNil W underlying121 e
   |some a=>exact Src.ofSlice W underlying121 a 0 e [] (by simp) (by simp) (by simp)
  have n:=run_append_room_src (P:=prog) W 121 121 121 120 i underlying121 q D 0 0 0 (fn a 0 e) 0 [] E (by omega) (by simp) (by simp);exact⟨_,_,_,n,r,⟨rfl,rfl,rfl,kb _,λ_ _ _=>rfl⟩,.inl rfl⟩
 obtain⟨b,o,rfl,_,_,x⟩:=h (qh.2 h0)
 obtain⟨H,f,n,m,v,_,k⟩:=run_append_own_at (P:=prog) W lo 121 121 120 i _ 2 24 underlying121 q F C w rfl (by omega) (fn (X ⟨D,0,Y⟩) 0 0) 0 [] r ⟨b,o,Y⟩ c.length e (c.flatMap subCells) (zo c)
  (λj u z=>by
   have:(⟨b,o,Y⟩:Addr).add j=⟨b,o+j,Y⟩:=by unfold Addr.add;split<;>simp_all
   rw[this];exact x j u z)
  (λu l=>by
   obtain⟨s,_,l⟩:=List.mem_flatMap.1 l
   simp[subCells]at l
   rcases l with rfl|rfl<;>rfl) (by unfold maxLen;omega) (by omega) (by omega)
 rw[kz,List.nil_append]at m;have A:0<c.length:=List.length_pos_iff.2 h0;obtain⟨g,t,rfl,_⟩:=World.ownsRow.form m A;refine⟨⟨g,0,Y⟩,t,f,n,m,v,?_⟩;rcases k with k|k
 .left;simpa[kc]using k
 right;simpa[kc]using k
structure dE(B:Nat)(w0 wr:j0)(kd lv:UInt8)(v:j1):Prop where
 below:Below B w0 wr
 big:B+2<=wr.heap.size
 z0:wr.cell? ⟨B,0,none⟩=some (.int .u8 0)
 z1:wr.cell? ⟨B,1,none⟩=some (.int .u8 0)
 z2:wr.cell? ⟨B,2,none⟩=some (.slice none 0 0)
 y0:wr.frozen? ⟨B,0,none⟩=false
 y1:wr.frozen? ⟨B,1,none⟩=false
 y2:wr.frozen? ⟨B,2,none⟩=false
 c0:wr.cell? ⟨B+1,0,none⟩=some (.int .u8 kd.toNat)
 c1:wr.cell? ⟨B+1,1,none⟩=some (.int .u8 lv.toNat)
 c2:wr.cell? ⟨B+1,2,none⟩=some v
 x0:wr.frozen? ⟨B+1,0,none⟩=false
 x1:wr.frozen? ⟨B+1,1,none⟩=false
 x2:wr.frozen? ⟨B+1,2,none⟩=false
theorem dE.far{B:Nat}{f wr d:j0}{j l:UInt8}{v:j1}(h:dE B f wr j l v)(m:Below B f d)(g:∀k,k<B+2->d.heap[k]?=wr.heap[k]?)(n:B+2<=d.heap.size):dE B f d j l v:=by
 have a:∀b i,b<B+2->d.cell? ⟨b,i,Y⟩=wr.cell? ⟨b,i,Y⟩:=λb i e=>kv (g b e);have c:∀b i,b<B+2->d.frozen? ⟨b,i,Y⟩=wr.frozen? ⟨b,i,Y⟩:=λb i e=>kl (g b e)
 exact⟨m,n,by rw[a _ _ (by omega)];exact h.z0,by rw[a _ _ (by omega)];exact h.z1,by rw[a _ _ (by omega)];exact h.z2,
  by rw[c _ _ (by omega)];exact h.y0,by rw[c _ _ (by omega)];exact h.y1,by rw[c _ _ (by omega)];exact h.y2,by rw[a _ _ (by omega)];exact h.c0,by rw[a _ _ (by omega)];exact h.c1,by rw[a _ _ (by omega)];exact h.c2,
  by rw[c _ _ (by omega)];exact h.x0,by rw[c _ _ (by omega)];exact h.x1,by rw[c _ _ (by omega)];exact h.x2⟩
theorem dE.keep{B:Nat}{d wr e:j0}{b c:UInt8}{v:j1}(h:dE B d wr b c v)(a:Bw wr e):dE B d e b c v:=
 h.far (btr h.below a (by have:=h.big;omega)) (λk f=>a.block k (by have:=h.big;omega)) (k0 h.big a.size)
theorem dE.put{B:Nat}{c wr:j0}{a b:UInt8}{v:j1}(h:dE B c wr a b v)(g j:Nat)(d:B+2<=g)(u:j1):dE B c (wr.setCell ⟨g,j,Y⟩ u) a b v:=
 h.far (h.below.setCell (by simp;omega) _) (λk e=>iP _ _ _ _ (by simp;omega)) (by simpa using h.big)
theorem dE.grown{B:Nat}{i wr c:j0}{d f:UInt8}{v:j1}(h:dE B i wr d f v){g:Option Nat}(a:wr.grownBy c g)(l:∀k,g=X k->B+2<=k):dE B i c d f v:=by
 have b:∀k,k<B+2->c.heap[k]?=wr.heap[k]?:=λk b=>a.block k (Nat.lt_of_lt_of_le b h.big) (by intro e;have:=l k e.symm;omega);exact h.far ⟨a.os.trans h.below.os,a.tape.trans h.below.tape,a.output.trans h.below.output,k0 h.below.size a.size,λk j=>(b k (by omega)).trans (h.below.block k j)⟩ b (k0 h.big a.size)
theorem dE.set2{B:Nat}{d wr:j0}{a b:UInt8}{v:j1}(h:dE B d wr a b v)(c:j1):dE B d (wr.setCell ⟨B+1,2,Y⟩ c) a b c:=by
 have f:=h.z0;have g:=h.z1;have i:=h.z2;have e:=h.c0;have c1:=h.c1;have c2:=h.c2;refine⟨h.below.setCell (by simp) _,by simpa using h.big,?_,?_,?_,by rw[aL];exact h.y0,by rw[aL];exact h.y1,by rw[aL];exact h.y2,?_,?_,?_,by rw[aL];exact h.x0,by rw[aL];exact h.x1,by rw[aL];exact h.x2⟩;all_goals(clear h;go_simp)
theorem dE.set0{B:Nat}{b wr:j0}{d a:UInt8}{v:j1}(h:dE B b wr d a v)(c:UInt8):dE B b (wr.setCell ⟨B+1,0,Y⟩ (J h1 c.toNat)) c a v:=by
 have f:=h.z0;have g:=h.z1;have i:=h.z2;have e:=h.c0;have c1:=h.c1;have c2:=h.c2;refine⟨h.below.setCell (by simp) _,by simpa using h.big,?_,?_,?_,by rw[aL];exact h.y0,by rw[aL];exact h.y1,by rw[aL];exact h.y2,?_,?_,?_,by rw[aL];exact h.x0,by rw[aL];exact h.x1,by rw[aL];exact h.x2⟩;all_goals(clear h;go_simp)
theorem dE.set1{B:Nat}{b wr:j0}{a d:UInt8}{v:j1}(h:dE B b wr a d v)(c:UInt8):dE B b (wr.setCell ⟨B+1,1,Y⟩ (J h1 c.toNat)) a c v:=by
 have f:=h.z0;have g:=h.z1;have i:=h.z2;have e:=h.c0;have c1:=h.c1;have c2:=h.c2;refine⟨h.below.setCell (by simp) _,by simpa using h.big,?_,?_,?_,by rw[aL];exact h.y0,by rw[aL];exact h.y1,by rw[aL];exact h.y2,?_,?_,?_,by rw[aL];exact h.x0,by rw[aL];exact h.x1,by rw[aL];exact h.x2⟩;all_goals(clear h;go_simp)
theorem zn(ps:List (af×j1)):∀(m i:Nat)(u:j1)(q:af×j1)(a:m<ps.length),i<4->(fieldCells ps[m]).set i u=fieldCells q->(ps.flatMap fieldCells).set (m*4+i) u=(ps.set m q).flatMap fieldCells:=by
 induction ps with
 |nil=>intro m i u q a;simp at a
 |cons p ps ih=>
  intro m i u q a d b;cases m with
  |zero=> simp only[List.getElem_cons_zero]at b;rw[kn,List.set_append_left _ _ (by simp[fieldCells];omega),k5,kz,b];rfl
  |succ m=>
   simp only[List.getElem_cons_succ]at b;have c:(fieldCells p).length=4:=by simp[fieldCells]
   rw[kn,List.set_append_right _ _ (by rw[c];omega),c,show(m+1)*4+i-4=m*4+i from by omega,ih m i u q (by simpa using a) d b];rfl
theorem zq(ps:List (af×j1)):∀(m i:Nat)(a:m<ps.length),i<4->(ps.flatMap fieldCells)[m*4+i]?=(fieldCells ps[m])[i]?:=by
 induction ps with
 |nil=>intro m i a;simp at a
 |cons p ps ih=>
  intro m i a c;have b:(fieldCells p).length=4:=by simp[fieldCells]
  cases m with
  |zero=>rw[kn,List.getElem?_append_left (by rw[b];omega),k5,kz];rfl
  |succ m=>rw[kn,List.getElem?_append_right (by rw[b];omega),b,show(m+1)*4+i-4=m*4+i from by omega,ih m i (by simpa using a) c];rfl
theorem tY{lo:Nat}{w:j0}{g c n:Nat}{ps:List (af×j1)}(h:w.ownsRow lo 123 4 (fn (X ⟨g,0,Y⟩) n c) n (ps.flatMap fieldCells))(m:Nat)(b:m<ps.length):
 w.cell? ⟨g,m*4,Y⟩=X (S ps[m].1.tag)/\w.cell? ⟨g,m*4+1,Y⟩=X (S ps[m].1.ind)/\w.cell? ⟨g,m*4+2,Y⟩=X (S ps[m].1.data)/\w.cell? ⟨g,m*4+3,Y⟩=X ps[m].2/\
  ∀i,w.frozen? ⟨g,i,Y⟩=false:=by
 have e:(ps.flatMap fieldCells).length=ps.length*4:=by
  clear h b;induction ps with
  |nil=>rfl
  |cons p ps ih=>rw[kn,kx,ih];simp[fieldCells];omega
 have hn:n*4=ps.length*4:=by rw[<- e];exact h.1.symm
 have a:∀i,i<4->w.cell? ⟨g,m*4+i,Y⟩=(fieldCells ps[m])[i]?:=λi d=>by rw[h.cellAt (m*4+i) (by omega),zq ps m i b d]
 exact⟨a 0 (by omega),a 1 (by omega),a 2 (by omega),a 3 (by omega),λi=>h.frozenAt i⟩
theorem bL.put{lo:Nat}{w:j0}{g c n:Nat}(ps:List (af×j1))(hn:n=ps.length)(m i:Nat)(r:m<ps.length)(j:∀k(d:k<ps.length),k≠m->bC lo (X g) w ps[k].2 ps[k].1.subs)(l:w.ownsRow lo 123 4 (fn (X ⟨g,0,Y⟩) n c) n (ps.flatMap fieldCells))
 (o:i<4)(u:j1)(q:af×j1)(t:(fieldCells ps[m]).set i u=fieldCells q)(v:bC lo (X g) w q.2 q.1.subs):
 bL lo (w.setCell ⟨g,m*4+i,Y⟩ u) (fn (X ⟨g,0,Y⟩) n c) ((ps.set m q).map (·.1)):=by
 have f:∀x b,bC lo (X g) w x b->bC lo (X g) (w.setCell ⟨g,m*4+i,Y⟩ u) x b:=λx b h=>
  h.step (λk _ _ a=>iP _ _ _ _ (by intro e;exact a (by rw[e]))) (by simp) (.inl rfl)
 refine⟨⟨ps.set m q,rfl,λp s=>?_,?_⟩⟩
 .obtain⟨k,d,rfl⟩:=List.getElem_of_mem s;rw[List.getElem_set];split
  .exact f _ _ v
  rename_i a;exact f _ _ (j k (by simpa using d) (λe=>a e.symm))
 have:=(l.stored (m*4+i) u).1;rw[zn ps m i u q r o t]at this;simpa[hn]using this
theorem cJ(f:af):(fieldBytes f).length=f.data.length+f.ind.length+(f.subs.flatMap aR).length+1:=by simp[fieldBytes];omega
theorem Ca{B:Nat}{q wr a r:j0}{t u:UInt8}{v c:j1}{m:List af}(o:Obj)(f:af)(d:j1)(j:Nat)(D:dE B q wr t u v)(P:en (B+2) wr v m)
 (L:Below B q a)(h:∀k,k<wr.heap.size->a.heap[k]?=wr.heap[k]?)(hz:wr.heap.size<=a.heap.size)(C:a.ownsRow (B+2) 120 2 d f.subs.length (f.subs.flatMap subCells))(N:d.ownBlock=X j)(a6:wr.heap.size<=j)
 (w:List j1)(a0:wr.ownsRow (B+2) 123 4 v m.length w)(Q:r.ownsRow (B+2) 123 4 c (m.length+1) (w++fieldCells (f,d)))(b:(a.alloc o).grownBy r v.ownBlock)
 (V:c.ownBlock=v.ownBlock∨c.ownBlock=X (a.alloc o).heap.size):
 dE B q (r.setCell ⟨B+1,2,Y⟩ c) t u c/\en (B+2) (r.setCell ⟨B+1,2,Y⟩ c) c (m++[f]):=by
 have a5:=D.big;have O:dE B q a t u v:=D.far L (λk a7=>h k (by omega)) (by omega);obtain⟨ps,I,A,n,K⟩:=P.ex;have W:w=ps.flatMap fieldCells:=by
  have y:=a0;have z:=A;rcases y.2 with⟨_,H⟩|⟨g,a1,a3,rfl,_,M,_,_,_,R⟩
  .have F:=y.1;have G:=z.1;rw[H,k5]at F G;rw[ka F,ka G]
  rcases z.2 with⟨s,_⟩|⟨g',a2,a4,s,_,i,_,_,_,T⟩
  .cases s
  injection s with ha _ _
  injection ha with ha
  injection ha with ha
  subst ha;rw[M]at i;injection i with i
  injection i with i
  subst i;rw[<- R,<- T]
 subst W;have x:∀k,k<a.heap.size->(a.alloc o).heap[k]?=a.heap[k]?:=λk h=>j4 a o k h;have E:∀g,v.ownBlock=X g->B+2<=g/\g<wr.heap.size:=λg b=>A.lt g b;refine⟨((O.keep (aX a o)).grown b (λk h=>(E k h).1)).set2 c,?_⟩;refine(en.app f d ps I (λp l=>⟨cF (n p l).1 (λg b=>?_),(n p l).2⟩) K (cF C (λg b=>x g (C.lt g b).2)) j N (λe=>?_) (λp l e=>?_) Q b V).far (λk h _=>iP _ _ _ _ (by simp;omega))
 .have:=((n p l).1.lt g b).2;rw[x g (by omega),h g this]
 .have:=(E j e).2;omega
 have:=((n p l).1.lt j e).2;omega
theorem B9{B:Nat}{i a b:j0}{g h:UInt8}{v:j1}{f:Option Nat}{o:Obj}(d:dE B i a g h v)(c:(a.alloc o).grownBy b f)(e:∀k,f=X k->B+2<=k):b.cell? ⟨B+1,2,Y⟩=X v/\b.frozen? ⟨B+1,2,Y⟩=false:=
 ⟨((d.keep (aX a o)).grown c e).c2,((d.keep (aX a o)).grown c e).x2⟩
attribute [local go_sem ↓] Go.wp_at_zero Go.wp_at_succ
theorem Bi{l:List Bs}{k:Nat}(h:k<l.length):l.getD k []∈l:=by
 rw[ko,List.getElem?_eq_getElem h];exact kk h
theorem pg(w:j0)(l:List Bs)(T:TypeId)(k:Nat)(h:k<l.length):(w.alloc (.cells (l.map S).toArray T)).cell? ⟨w.heap.size,k,Y⟩=X (S (l.getD k [])):=by
 have a:(w.alloc (.cells (l.map S).toArray T)).heap[w.heap.size]?=X (.cells (l.map S).toArray T (0,0)):=j2 w _;rw[aa a];simp[ko,h]
theorem lA(n:Int)(M:Nat)(h:0<M):∃m:Nat,n.emod M=m/\m<M:=by
 have a:0<=n.emod M:=Int.emod_nonneg n (by omega);have b:n.emod M<M:=ky n (by omega);exact⟨(n.emod M).toNat,(Int.toNat_of_nonneg a).symm,by omega⟩
theorem rH(n a:Int)(M m:Nat)(c:1<=M)(d:M<=1000000)(b:a=M)(h:n.emod M=m)(W:j0):k4 prog 24 #[J U n,J U a] W λe w'=>e=hk (J U (m:Int))/\W=w':=by
 subst b;refine(iV n M W (by omega) (by omega)).mono ?_;rintro e w'⟨rfl,rfl⟩;rw[h];exact⟨rfl,rfl⟩
theorem pK(l:List Bs)(n:Int)(M m:Nat)(a:l.length=M)(h:n.emod M=m):pick l n=l.getD m []:=by
 unfold pick;rw[a,h];rfl
theorem oY(z:Int):z%256=((u8I z).toNat:Int):=by
 unfold u8I;have b:0<=z%256:=Int.emod_nonneg z (by omega);have c:z%256<256:=ky z (by omega);have a:z.emod 256=z%256:=rfl;rw[a,UInt8.toNat_ofNat',Nat.mod_eq_of_lt (by omega)];omega
theorem yd(z:Int):IntKind.u8.wrap z=((u8I z).toNat:Int):=by rw[IntKind.wrap_u8];exact oY z
theorem tE{ps:List (af×j1)}{a:List af}(h:ps.map (·.1)=a)(m:Nat)(j:m<ps.length)(g:af->af)(b:af)(c:j1)(f:g ps[m].1=b):(ps.set m (b,c)).map (·.1)=a.modify m g:=by
 rw[List.map_set,h];have n:m<a.length:=by rw[<- h,List.length_map];exact j
 have e:a[m]=ps[m].1:=by simp[<- h]
 refine List.ext_getElem (by simp) (λi k l=>?_);rw[List.getElem_set,List.getElem_modify];split
 .rename_i d;subst d;rw[e,f]
 rfl
theorem vG(w:j0)(x y:j1)(t:TypeId):∀j v,[x,y][j]?=X v->(w.alloc (gs #[x,y] t)).cell? ((⟨w.heap.size,0,Y⟩:Addr).add j)=X v:=by
 intro j v a;match j,a with
 |0,a=>simp at a;subst a;simp[Addr.add]
 |1,a=>simp at a;subst a;simp[Addr.add]
theorem oU{w:j0}{b:Array Oper}{c:List Oper}{o:Oper}{a:Act}{Q:Exit->Act->j0->Prop}(g:o.guard=Y)(d x:Operand)
 (i:o.op=.call {callee:=.builtin .append,args:= #[d,x],argTypes:= #[121,121]})(l:o.type=121)(v u e:j1)(w':j0)(k:a.eval d=v)(m:a.eval x=u)
 (j:(k9 #[121,121] 121 #[v,u]).run prog w=.ok e w')(h:wpList prog b Q c (a.put o.dst e) w'):wpList prog b Q (o::c) a w:=by
 refine wpList_plain g λK f=>?_;unfold Oper.wp execOp;simp only[i,l,resolve,invoke,builtin,Sem.run_bind,Sem.run_pure,Result.andThen_ok,List.map_toArray,List.map_cons,List.map_nil,k,m,j];exact f _ _ h
abbrev recO(a b:UInt8)(v:j1):Obj:=jn #[J h1 a.toNat,J h1 b.toNat,v] 62
abbrev numsO(a b c:Int):Obj:=jn #[J U a,J U b,J U c] 162
abbrev C0:Obj:=jn #[J h1 0,J h1 0,fn Y 0 0] 62
theorem dE.init(w:j0)(a b:UInt8):dE w.heap.size w ((w.alloc C0).alloc (recO a b (fn Y 0 0))) a b (fn Y 0 0):=by
 refine⟨((j3 _ w).alloc (kb _) _).alloc (by simp) _,by simp,?_,?_,?_,?_,?_,?_,?_,?_,?_,?_,?_,?_⟩;all_goals go_simp
theorem CS(w:j0)(d e:UInt8)(v:j1)(a b c:Int)(W:j0)(h:Below (w.heap.size+2) ((w.alloc (recO d e v)).alloc (numsO a b c)) W):
 W.cell? ⟨w.heap.size,2,Y⟩=X v/\W.cell? ⟨w.heap.size+1,0,Y⟩=X (J U a)/\W.cell? ⟨w.heap.size+1,1,Y⟩=X (J U b)/\W.cell? ⟨w.heap.size+1,2,Y⟩=X (J U c):=by
 refine⟨?_,?_,?_,?_⟩<;>(rw[h.cell (p:=⟨_,_,Y⟩) (by simp)];go_simp)
abbrev o7:Obj:=jn #[S [],S [31],S [30],S [97,29,98],S [255],S [195],S [237,160,128],S [224,128,128],S [127],S [195,169],S [116,97,98,9]] 9
theorem bL.far{lo:Nat}{w w':j0}{v:j1}{a:List af}(h:bL lo w v a)(b:∀k,lo<=k->k<w.heap.size->w'.heap[k]?=w.heap[k]?)(c:w.heap.size<=w'.heap.size):bL lo w' v a:=h.keep b c
abbrev jW:Obj:=jn #[S [48,48,48],S [50,52],S [50,52,53,53],S [50,52,97],S [],S [48,48,49],S [50,52,53]] 9
abbrev kh:Obj:=jn #[S [],S [49],S [49,50,51],S [31,48],S [32,126],S [48,127]] 9
def vK(R:aA)(B:Nat)(c b:j0):Prop:=∃(a:Option Addr)(vc:Nat),Hid (dE B c b R.kind R.level (fn a R.fields.length vc))/\Hid (bL (B+2) b (fn a R.fields.length vc) R.fields)
theorem uZ{w d wr:j0}{B:Nat}{R:aA}{v:j1}(h:Bw w d)(g:w.heap.size<=B)(k:dE B d wr R.kind R.level v)(b:bL (B+2) wr v R.fields)(e:Ending)
 (i:e=hk (.agg #[J h1 R.kind.toNat,J h1 R.level.toNat,v])):∃(c:Option Addr)(cb:Nat),e=hk (.agg #[J h1 R.kind.toNat,J h1 R.level.toNat,fn c R.fields.length cb])/\
  Bw w (((wr.setCell ⟨B,0,Y⟩ (J h1 R.kind.toNat)).setCell ⟨B,1,Y⟩ (J h1 R.level.toNat)).setCell ⟨B,2,Y⟩ v)/\
  ag w.heap.size (((wr.setCell ⟨B,0,Y⟩ (J h1 R.kind.toNat)).setCell ⟨B,1,Y⟩ (J h1 R.level.toNat)).setCell ⟨B,2,Y⟩ v).heap.size (((wr.setCell ⟨B,0,Y⟩ (J h1 R.kind.toNat)).setCell ⟨B,1,Y⟩ (J h1 R.level.toNat)).setCell ⟨B,2,Y⟩ v) (fn c R.fields.length cb) R.fields:=by
 obtain⟨a,f,rfl⟩:=b.shape;refine⟨a,f,i,(((btr h k.below g).setCell (by simp;omega) _).setCell (by simp;omega) _).setCell (by simp;omega) _,?_⟩;exact(b.keep (λj l _=>by rw[iP _ _ _ _ (by simp;omega),iP _ _ _ _ (by simp;omega),iP _ _ _ _ (by simp;omega)]) (by simp)).fields (by omega)
set_option linter.unusedSimpArgs false in
set_option maxHeartbeats 8000000 in
set_option maxRecDepth 100000 in
theorem tC(H C:UInt8)(r:List af)(sa:Option Addr)(ay:Nat)(n:Nat)(ib:n<=7)(q l:Int)(w:j0)(hf:ag 0 w.heap.size w (fn sa r.length ay) r)(hN:r.length<=5000)(hM:∀f∈r,(fieldBytes f).length<=50000):
 k4 prog 84 #[.agg #[J h1 H.toNat,J h1 C.toNat,fn sa r.length ay],.agg #[J U (n:Int),J U q,J U l]] w λe w'=>∃(sb:Option Addr)(cb:Nat),
  e=hk (.agg #[J h1 (spoilR ⟨H,C,r⟩ n q l).kind.toNat,J h1 (spoilR ⟨H,C,r⟩ n q l).level.toNat,.slice sb (spoilR ⟨H,C,r⟩ n q l).fields.length cb])/\Bw w w'/\
  ag w.heap.size w'.heap.size w' (.slice sb (spoilR ⟨H,C,r⟩ n q l).fields.length cb) (spoilR ⟨H,C,r⟩ n q l).fields:=by
 obtain⟨R,hR⟩:=Qe (spoilR ⟨H,C,r⟩ n q l);rw[hR];have HR:=Z hR;clear hR;obtain⟨q0,dk⟩:∃q0:Int,(n:Int)=q0:=⟨_,rfl⟩;rw[dk];obtain⟨mt,d5,ft⟩:=lA l 11 (by omega);have ej:Hid (textsL.getD mt []=pick textsL l):=(pK textsL l 11 mt rfl d5).symm;have g7:Hid (∀W,k4 prog 24 #[J U l,J U 11] W λe w'=>e=hk (J U (mt:Int))/\W=w'):=rH l 11 11 mt (by omega) (by omega) rfl d5;have g1:Hid (∀W,k4 prog 24 #[J U q0,J U 10] W λe w'=>e=hk (J U (n:Int))/\W=w'):=rH q0 10 10 n (by omega) (by omega) rfl (by show q0%10=n;omega);have hV:=Z dk;clear d5 dk;have HF:Hid (∀W,Bw w W->ag 0 w.heap.size W (fn sa r.length ay) r):=λW h=>hf.kept (aY h (kb _));have HM:=Z hM;have HQ:Hid (∀W,Below (w.heap.size+2) ((w.alloc (recO H C (fn sa r.length ay))).alloc (numsO q0 q l)) W->_):=λW h=>CS w H C (fn sa r.length ay) q0 q l W h;obtain⟨w0,b5⟩:∃w0,w0=((w.alloc (recO H C (fn sa r.length ay))).alloc (numsO q0 q l)):=⟨_,rfl⟩;have hC:w0.heap.size=w.heap.size+2:=by rw[b5];simp
 have HI:=dE.init w0 H C;rw[hC,b5]at HI;have HI:=Z HI;have b6:Hid (Bw w w0):=by rw[b5];exact((j3 _ w).alloc (kb _) _).alloc (by simp) _
 rw[<- b5]at HQ;have h4:=Z b5;clear hf hM b5;go_enter func84,ntmps84;go_wp2_with fail;go_loopw [6] (λi wr=>∃(k:Nat)(o:List af)(va:Option Addr)(O:Nat),i=J U k/\k<=r.length/\Hid (o=r.take k)/\Hid (o.length=k)/\o.length<=5000/\Hid (dE (w.heap.size+2) w0 wr H C (fn va o.length O))/\Hid (en (w.heap.size+2+2) wr (fn va o.length O) o)) (λi _=>r.length-(intOf i).toNat)
 exact⟨0,[],Y,0,rfl,by omega,by simp[Hid],rfl,by simp,by rw[h4.o];exact HI,en.nil _ _⟩;obtain⟨k,o,va,O,rfl,j,ao,bO,f6,HH,HO⟩:=hrel;have hb:=HH.below;obtain⟨b2,c6,bd,ax⟩:=HQ wr hb;have c7:=HH.big;by_cases hlt:k<r.length
 .obtain⟨b,iD,es,d,hv,_,i2,hu,hw,hy,iv,dx⟩:=(HF.o _ (btr b6.o hb (by omega))).field k hlt;cases hv;obtain⟨f,cz⟩:=Qe (r[k]);have f4:=HM _ (kk hlt);have gb:Hid (o++[f]=r.take (k+1)):=by rw[ao.o,List.take_succ_eq_append_getElem hlt,cz];rfl
  rw[cz]at hu hw hy dx f4;have dz:f.subs.length<=1000000:=by have:=ci f;omega
  clear cz;obtain⟨z,A,rfl⟩:∃z A,d=fn z f.subs.length A:=by obtain⟨a,c,h,_⟩:=dx;exact⟨a,c,h⟩
  obtain⟨W5,aS⟩:∃W5,W5=(wr.alloc (jn #[S f.tag,S f.ind,S f.data,fn z f.subs.length A] 123)).alloc (jn #[] 120):=⟨_,rfl⟩;have aT:Bw wr W5:=by rw[aS];exact((j3 _ wr).alloc (kb _) _).alloc (by simp) _
  have f3:W5.heap.size=wr.heap.size+2:=by rw[aS];simp
  have f1:W5.heap[wr.heap.size+1]?=X (gs #[] 120 (0,0)):=by rw[aS];have:=heap_alloc_new (wr.alloc (jn #[S f.tag,S f.ind,S f.data,fn z f.subs.length A] 123)) (jn #[] 120);simpa using this
  have f2:W5.heap[wr.heap.size]?=X (jn #[S f.tag,S f.ind,S f.data,fn z f.subs.length A] 123):=by rw[aS,j4 _ _ _ (by simp)];exact heap_alloc_new _ _
  obtain⟨B,G,y,ds,fc,au,h5⟩:=xw (w.heap.size+2+2) W5 (wr.heap.size+1) (fn z f.subs.length A) f.subs f1 ((dx.kept (aY aT (by have:=b6.o.size;have:=hb.size;omega))).mono (kb _) (by rw[f3];have:=b6.o.size;have:=hb.size;omega)) dz (by omega);have aC:y.heap[wr.heap.size]?=X (jn #[S f.tag,S f.ind,S f.data,fn z f.subs.length A] 123):=by rw[au.block _ (by omega) (by intro e;injection e with e;omega)];exact f2
  have e3:y.cell? ⟨wr.heap.size,3,Y⟩=X (fn z f.subs.length A):=by simp[k1,aC,jn]
  have x3:y.frozen? ⟨wr.heap.size,3,Y⟩=false:=by simp[World.frozen?,aC,jn]
  have e0:(y.setCell ⟨wr.heap.size,3,Y⟩ (fn (X B) f.subs.length G)).cell? ⟨wr.heap.size,0,Y⟩=X (S f.tag):=by rw[kq _ _ _ _ (by simp)];simp[k1,aC,jn]
  have e1:(y.setCell ⟨wr.heap.size,3,Y⟩ (fn (X B) f.subs.length G)).cell? ⟨wr.heap.size,1,Y⟩=X (S f.ind):=by rw[kq _ _ _ _ (by simp)];simp[k1,aC,jn]
  have e2:(y.setCell ⟨wr.heap.size,3,Y⟩ (fn (X B) f.subs.length G)).cell? ⟨wr.heap.size,2,Y⟩=X (S f.data):=by rw[kq _ _ _ _ (by simp)];simp[k1,aC,jn]
  have e4:(y.setCell ⟨wr.heap.size,3,Y⟩ (fn (X B) f.subs.length G)).cell? ⟨wr.heap.size,3,Y⟩=X (fn (X B) f.subs.length G):=World.cell?_setCell_same _ _ _ e3;have bk:∀k,k<wr.heap.size->(y.setCell ⟨wr.heap.size,3,Y⟩ (fn (X B) f.subs.length G)).heap[k]?=wr.heap[k]?:=λk j=>by rw[iP _ _ _ _ (by simp;omega),au.block k (by omega) (by intro e;injection e with e;omega),aT.block k j]
  have hZ:wr.heap.size+2<=(y.setCell ⟨wr.heap.size,3,Y⟩ (fn (X B) f.subs.length G)).heap.size:=by have:=au.size;simp;omega
  have cv:Below (w.heap.size+2) w0 (y.setCell ⟨wr.heap.size,3,Y⟩ (fn (X B) f.subs.length G)):=
   ⟨by rw[show(y.setCell ⟨wr.heap.size,3,Y⟩ (fn (X B) f.subs.length G)).os=y.os from rfl];exact au.os.trans (aT.os.trans hb.os),au.tape.trans (aT.tape.trans hb.tape),au.output.trans (aT.output.trans hb.output),by have:=hb.size;omega,
    λk j=>(bk k (by omega)).trans (hb.block k j)⟩
  have eQ:(y.setCell ⟨wr.heap.size,3,Y⟩ (fn (X B) f.subs.length G)).ownsRow (w.heap.size+2+2) 120 2 (fn (X B) f.subs.length G) f.subs.length (f.subs.flatMap subCells):=
   cF fc (λg hg=>iP _ _ _ _ (by simp[kc]at hg;simp;omega))
  have f6:wr.heap.size<=B.block:=by omega
  obtain⟨ps,_,bv,_⟩:=HO.ex;have f0:(y.setCell ⟨wr.heap.size,3,Y⟩ (fn (X B) f.subs.length G)).ownsRow (w.heap.size+2+2) 123 4 (fn va o.length O) o.length (ps.flatMap fieldCells):=cF bv (λg hg=>bk g (bv.lt g hg).2);have cx:=HH.o.far cv (λk j=>bk k (by omega)) (by omega);have e5:=cx.c2;have h3:Hid (∀k,(Value.slice va o.length O).ownBlock=X k->w.heap.size+2+2<=k):=λk j=>(bv.lt k j).1;rw[aS]at ds;have em:=Z ds;have bb:=Z bv;clear aS aT f3 f1 f2 aC ds fc au h5 bv;go_upto_region 7 with(at_builtin;refine oU rfl _ _ rfl rfl _ _ _ _ rfl rfl em.o ?_)
  generalize(y.setCell ⟨wr.heap.size,3,Y⟩ (fn (X B) f.subs.length G))=w7 at*;have gp:=Z bk;have g0:=Z cv;have g8:=Z eQ;have c3:=Z f0;have I:=Z cx;obtain⟨i0,hi,a8,a9,ac⟩:=k8 Cw;have HI:=Z hi;have b7:=Z a8;have b8:=Z a9;have b9:=Z ac;clear bk cv eQ f0 cx hi a8 a9 ac em;go_wp2_with (at_builtin;refine wpList_append_own_at _ rfl _ _ 60 rfl (w.heap.size+2+2) 123 i0 (.agg #[.string ⟨#[]⟩,.string ⟨#[]⟩,.string ⟨#[]⟩,fn Y 0 0]) 4 72 underlying60 HI.o b7.o b8.o b9.o rfl (by omega) (fn va o.length O) o.length _ rfl (c3.o.alloc _) ⟨w7.heap.size,0,Y⟩ 1 1 [S f.tag,S f.ind,S f.data,fn (X B) f.subs.length G] rfl rfl (vF _ _ _ _ _ _) (by simp[k3]) (by unfold maxLen;omega) (by omega) (by simp;omega) ?_;intro v' w8 d9 N _ a1;obtain⟨fx,fy,rfl⟩:=aG d9;have gt:=Z d9;have gf:=Z N;have fz:=Z a1;obtain⟨e8,f8⟩:=B9 I.o N h3.o;clear d9 N a1)
  go_roundw
  case rel=>
   have:=Ca _ f (fn (X B) f.subs.length G) B.block HH.o HO.o g0.o gp.o (by omega) g8.o rfl f6 _ bb.o gt.o gf.o fz.o;refine⟨k+1,o++[f],fx,fy,by go_num,by omega,gb,by rw[kx,bO.o];rfl,by have:=bO.o;simp;omega,?_,?_⟩
   .simpa[Hid]using this.1
   simpa[Hid]using this.2
  simp[intOf];omega
 have hn:k=r.length:=by omega
 have i4:o.length<=5000:=by rw[bO.o];omega
 have gi:Hid (∀f∈o,(fieldBytes f).length<=50000):=λf hf=>HM.o f (by rw[ao.o]at hf;exact List.mem_of_mem_take hf);have bB:Hid (o=r):=by unfold Hid;rw[ao.o,List.take_of_length_le (by omega)]
 clear ao bO HF HM c6 bd ax;generalize wr=w4 at*;have er:Hid ((w4.alloc o7).cell? ⟨w4.heap.size,mt,Y⟩=X (S (pick textsL l))):=by unfold Hid;rw[<- ej.o];exact pg w4 textsL 9 mt ft
 have D:=Z (HH.keep (aX w4 o7));have bY:=Z (HO.keep (aX w4 o7));go_upto_region 9 with fail;clear b2 j hlt hn;generalize(w4.alloc o7)=w5 at*;obtain⟨b2,c6,bd,ax⟩:=HQ w5 D.below;go_cut [9] (λt wx=>t=S (pick textsL l)/\wx=w5)
 case first=>
  have hx:=er.o;have ia:(mt:Int)<11:=by omega
  go_wp2_with (go_at_call 24;(refine jb (g7.o _) ?_;rintro e w'⟨rfl,rfl⟩))
  go_meet;exact⟨rfl,rfl⟩
 obtain⟨rfl,hB⟩:=hcut;obtain⟨T,hT⟩:=Qe (pick textsL l);have i1:T.length<=10:=by
  rw[<- hT,<- ej.o];have:∀x∈textsL,x.length<=10:=by decide
  exact this _ (Bi ft)
 have cs:=Z hT;rw[hT];clear hT;subst hB;generalize wc=y at*;clear er HH HO c7 hb;have hb:=D.below;have c7:=D.big;have c0:=D.c0;have c1:=D.c1;have c2:=D.c2;have x0:=D.x0;have z0:=D.z0;have z1:=D.z1;have z2:=D.z2;have y0:=D.y0;have y1:=D.y1;have y2:=D.y2;by_cases L:o.length=0
 .have hc:=oY q;obtain⟨c,a0⟩:=Qe (u8I q);have a6:o=[]:=ka L;have bc:Hid (R=⟨c,C,[]⟩):=by unfold Hid;rw[<- HR.o,<- bB.o,a6,<- a0];rfl
  rw[a0]at hc;subst a6;have hh:=D.set0 c;have E:=bY.o.toRec.far (w':=y.setCell ⟨w.heap.size+2+1,0,Y⟩ (J h1 c.toNat)) (λk j _=>iP _ _ _ _ (by simp;omega)) (by simp);have gn:=Z hh;have gO:=Z E;clear hh E;clear a0;go_wp2_with fail
  all_goals
   refine bodyPost_ret (v:=.agg #[J h1 c.toNat,J h1 C.toNat,fn va 0 O]) (by simp only[results,Tryz.results84];go_simp) rfl ?_
   rw[bc.o]
   exact uZ b6.o (by omega) gn.o gO.o _ rfl
 have ch:0<o.length:=by omega
 obtain⟨g,hX,hA,f5,hj⟩:∃g es,Value.slice va o.length O=fn (X ⟨g,0,Y⟩) o.length es/\w.heap.size+2+2<=g/\g<y.heap.size:=by obtain⟨_,_,h2,_⟩:=bY.ex;exact h2.form ch
 cases hA;clear x0 z0 z1 z2 y0 y1 y2 c0 c1;go_upto_region 13 with fail;obtain⟨m,d4,hm⟩:=lA q o.length (by omega);have g6:Hid (∀W,k4 prog 24 #[J U q,J U (o.length:Int)] W λe w'=>e=hk (J U (m:Int))/\W=w'):=rH q _ o.length m (by omega) (by omega) rfl d4;have gq:=Z d4;clear d4;go_cut [10] (λt wx=>t=hr (X ⟨g,m*4,Y⟩)/\Bw y wx)
 case first=>
  have t1:(0:Int)<=0:=by omega
  go_region_held3 (λw'=>w'.cell? ⟨w.heap.size+2+1,2,Y⟩=X (fn (X ⟨g,0,Y⟩) o.length O)/\w'.cell? ⟨w.heap.size+1,1,Y⟩=X (J U q)) (go_keep)
   ((go_at_call 24;((with_reducible refine jb (g6.o _) ?_);rintro e w'⟨rfl,rfl⟩)))
  go_wp2_with fail;go_meet;exact⟨by simp,(j3 _ y).drew⟩
 obtain⟨rfl,c8⟩:=hcut;have I:=Z (D.keep c8);have c3:=Z (bY.keep c8);have hD:=c8.size;clear c2 b2 c6 bd ax D bY c8 hb c7;generalize wc=w7 at*;have a7:g<w7.heap.size:=by omega
 clear hD hj;obtain⟨b2,c6,bd,ax⟩:=HQ w7 I.below;obtain⟨ps,b1,b3,b4,dd⟩:=c3.ex;have ad:m<ps.length:=by rw[<- b1]at hm;simpa using hm
 have b0:o.length=ps.length:=by rw[<- b1];simp
 obtain⟨t0,t1,t2,t3,tf⟩:=tY b3 m ad;obtain⟨f,bl⟩:=Qe (ps[m].1);have f4:(fieldBytes f).length<=50000:=gi.o f (by rw[<- bl,<- b1];exact List.mem_map_of_mem (kk ad));have hq:=b4 _ (kk ad);rw[bl]at t0 t1 t2 hq;obtain⟨d,cy⟩:=Qe (ps[m].2);rw[cy]at t3 hq;obtain⟨⟨bw,gd,al,fp⟩⟩:Nonempty (w7.ownsRow (w.heap.size+2+2) 120 2 d f.subs.length (f.subs.flatMap subCells)/\_):=⟨hq⟩;obtain⟨z,A,rfl⟩:=aG bw;have bb:Hid (ps[m]=(f,fn z f.subs.length A)):=Prod.ext bl cy;have eq:Hid (∀p∈ps,bC (w.heap.size+2+2) (X g) w7 p.2 p.1.subs):=λp hp=>gS (b4 p hp).1 (λk j e=>by obtain⟨_,g2,V,h2⟩:=b4 p hp;rw[V]at j;injection j with j;subst j;exact h2 e);have cn:Hid (n≠0->n≠1->R=⟨H,C,o.modify m λf=>gM f n q l⟩):=λL V=>by rw[<- HR.o,<- bB.o];unfold spoilR;have a6:o≠[]:=List.length_pos_iff.1 ch;have e:q.emod o.length=(m:Int):=gq.o;dsimp only;rw[if_neg a6,if_neg (by omega),if_neg (by omega),e];rfl
 have gx:Hid (n=0->R=⟨u8I l,C,o⟩):=λL=>by rw[<- HR.o,<- bB.o];unfold spoilR;have a6:o≠[]:=List.length_pos_iff.1 ch;dsimp only;rw[if_neg a6,if_pos (by omega)]
 have gy:Hid (n=1->R=⟨H,u8I l,o⟩):=λL=>by rw[<- HR.o,<- bB.o];unfold spoilR;have a6:o≠[]:=List.length_pos_iff.1 ch;dsimp only;rw[if_neg a6,if_neg (by omega),if_pos (by omega)]
 have cp:Hid (∀(Q:af)(d':j1),gM f n q l=Q->(ps.set m (Q,d')).map (·.1)=o.modify m λf=>gM f n q l):=λQ d' h7=>tE b1 m ad _ Q d' (by rw[bl];exact h7)
 have c4:Hid (∀(i:Nat)(u:j1)(Q:af)(d':j1),n≠0->n≠1->gM f n q l=Q->i<4->(fieldCells (f,fn z f.subs.length A)).set i u=fieldCells (Q,d')->bC (w.heap.size+2+2) (X g) w7 d' Q.subs->∀W:j0,Bw w7 W->
  vK R (w.heap.size+2) w0 (W.setCell ⟨g,m*4+i,Y⟩ u)):=by
  intro i u Q d' d6 d7 dy hi hc hs W hW
  have fr:∀x ss,bC (w.heap.size+2+2) (X g) w7 x ss->bC (w.heap.size+2+2) (X g) W x ss:=λx ss h=>h.step (λk _ j _=>hW.block k j) hW.size (.inl rfl)
  have E:=bL.put (w:=W) ps b0 m i ad (λk j _=>fr _ _ (eq.o _ (kk j))) (cF b3 (λg' a4=>hW.block g' (b3.lt g' a4).2)) hi u (Q,d') (by rw[bb.o];exact hc) (fr _ _ hs)
  have bt:((ps.set m (Q,d')).map (·.1)).length=o.length:=by simp[b0]
  rw[cn.o d6 d7,<- cp.o Q d' dy]
  refine⟨X ⟨g,0,Y⟩,O,?_,?_⟩
  .rw[bt];exact(I.o.keep hW).put g _ f5 u
  .rw[bt];exact E
 have ao:Hid (∀(e6 e7:UInt8)(W:j0),R=⟨e6,e7,o⟩->dE (w.heap.size+2) w0 W e6 e7 (fn (X ⟨g,0,Y⟩) o.length O)->(∀k,w.heap.size+2+2<=k->k<w7.heap.size->W.heap[k]?=w7.heap[k]?)->w7.heap.size<=W.heap.size->vK R (w.heap.size+2) w0 W):=
  λe6 e7 W E hh j hz=>by rw[E];exact⟨_,O,hh,c3.o.toRec.far j hz⟩
 have c9:g≠gd:=λe=>fp (by rw[e];rfl);have he:=bw.lt gd al;have cq:=Z (gS (g:=X g) bw (λk j e=>by rw[al]at j;injection j with j;subst j;exact fp e))
 have eg:Hid (∀(s:ct)(v':j1)(F W:j0),n≠0->n≠1->gM f n q l={f with subs:=f.subs++[s]}->Bw w7 W->F.ownsRow (w.heap.size+2+2) 120 2 v' (f.subs.length+1) (f.subs.flatMap subCells++subCells s)->W.grownBy F (X gd)->(v'.ownBlock=X gd∨v'.ownBlock=X W.heap.size)->
  vK R (w.heap.size+2) w0 (F.setCell ⟨g,m*4+3,Y⟩ v')/\F.cell? ⟨g,m*4+3,Y⟩=X (fn z f.subs.length A)/\F.frozen? ⟨g,m*4+3,Y⟩=false):=by
  intro s v' F W d6 d7 dy hW ht N a1
  have hz:=hW.size
  have cg:∀k,k<w7.heap.size->k≠gd->F.heap[k]?=w7.heap[k]?:=λk j d8=>by rw[N.block k (by omega) (by intro e;injection e with e;exact d8 e),hW.block k j]
  have fl:=List.pairwise_iff_getElem.1 dd
  have E:=bL.put (w:=F) ps b0 m 3 ad (λk j d8=>?_) (cF b3 (λg' a4=>?_)) (by omega) v' ({f with subs:=f.subs++[s]},v') (by rw[bb.o];rfl) ?_
  .have bt:((ps.set m ({f with subs:=f.subs++[s]},v')).map (·.1)).length=o.length:=by simp[b0]
   have h9:F.cell? ⟨g,m*4+3,Y⟩=w7.cell? ⟨g,m*4+3,Y⟩:=kv (cg g a7 c9)
   have f9:F.frozen? ⟨g,m*4+3,Y⟩=w7.frozen? ⟨g,m*4+3,Y⟩:=kl (cg g a7 c9)
   rw[cn.o d6 d7,<- cp.o _ v' dy]
   refine⟨⟨X ⟨g,0,Y⟩,O,?_,?_⟩,by rw[h9];exact t3,by rw[f9];exact tf _⟩
   .rw[bt];exact((I.o.keep hW).grown N (λk j=>by injection j with j;subst j;exact he.1)).put g _ f5 v'
   .rw[bt];exact E
  .obtain⟨f7,g2,cd,hl⟩:=b4 _ (kk j)
   have fb:ps[k].2.ownBlock≠ps[m].2.ownBlock:=by
    rcases Nat.lt_or_gt_of_ne d8 with h|h
    .exact fl k m j ad h
    .exact(fl m k ad j h).symm
   rw[bb.o,al,cd]at fb
   refine gS (cF f7 (λg' a4=>?_)) (λk' cc e=>?_)
   .rw[cd]at a4;injection a4 with a4;subst a4
    exact cg _ (f7.lt _ cd).2 (λe=>fb (by rw[e]))
   .rw[cd]at cc;injection cc with cc;subst cc
    exact hl e
  .have:g'=g:=by simpa[kc]using a4.symm
   subst this
   exact cg _ a7 c9
  .refine gS (by simpa[List.flatMap_append]using ht) (λk j e=>?_)
   injection e with e
   subst e
   rcases a1 with a1|a1
   .rw[a1]at j;injection j with j;exact c9 j.symm
   .rw[a1]at j;injection j with j;omega
 have cm:=Z bw;have hO:=Z b1;have hP:=Z b3;have hQ:=Z b4;have hS:=Z dd;have hL:=Z b0;clear hq bw b1 b3 b4 dd bl cy eq b0 cn cp;have c0:=I.c0;have c1:=I.c1;have c2:=I.c2;have x0:=I.x0;have x1:=I.x1;have x2:=I.x2;have c7:=I.big;go_upto_block 2 with(go_at_call 24;(refine jb (g1.o _) ?_;rintro e w'⟨rfl,rfl⟩))
 go_cut [] (λwx=>vK R (w.heap.size+2) w0 wx)
 case first=>
  have h6:n=0∨n=1∨n=2∨n=3∨n=4∨n=5∨n=6∨n=7:=by omega
  rcases h6 with rfl|rfl|rfl|rfl|rfl|rfl|rfl|rfl;rotate_left 7
  .obtain⟨i0,hi,a8,a9,ac⟩:=k8 Be;have HI:=Z hi;have b7:=Z a8;have b8:=Z a9;have b9:=Z ac;clear hi a8 a9 ac;have dz:=ci f;go_wp2_with (at_builtin;refine wpList_append_own_at _ rfl _ _ 121 rfl (w.heap.size+2+2) 120 i0 (.agg #[J h1 0,.string ⟨#[]⟩]) 2 24 underlying121 HI.o b7.o b8.o b9.o rfl (by omega) (fn z f.subs.length A) f.subs.length _ rfl (cm.o.alloc _) ⟨w7.heap.size,0,Y⟩ 1 1 [J h1 122,S T] rfl rfl (vG _ _ _ _) (by simp[k3]) (by unfold maxLen;omega) (by omega) (by simp;omega) ?_;intro v' F av N _ a1;obtain⟨fx,fy,rfl⟩:=aG av;obtain⟨bs,g9,f9⟩:=eg.o ⟨122,T⟩ _ F _ (by omega) (by omega) (by rw[<- cs.o];rfl) (aX w7 _) av (by rw[<- al];exact N) (by rw[<- al];exact a1);have cl:=Z bs;clear av N a1 bs)
   go_meet;exact cl.o
  .have hc:=oY l;have E:=gx rfl;obtain⟨c,a0⟩:=Qe (u8I l);rw[a0]at hc E;have bc:=Z E;clear a0 E;go_wp2_with fail;go_meet;exact ao.o c C _ bc.o (I.o.set0 c) (λk j _=>iP _ _ _ _ (by simp;omega)) (by simp)
  .have hc:=oY l;have E:=gy rfl;obtain⟨c,a0⟩:=Qe (u8I l);rw[a0]at hc E;have bc:=Z E;clear a0 E;go_wp2_with fail;go_meet;exact ao.o H c _ bc.o (I.o.set1 c) (λk j _=>iP _ _ _ _ (by simp;omega)) (by simp)
  .obtain⟨k7,d3,hG⟩:=lA l 7 (by omega);have gQ:Hid ((w7.alloc jW).cell? ⟨w7.heap.size,k7,Y⟩=X (S (pick iO l))):=by unfold Hid;rw[pK iO l 7 k7 rfl d3];exact pg w7 iO 9 k7 hG
   have g4:Hid (∀W,k4 prog 24 #[J U l,J U 7] W λe w'=>e=hk (J U (k7:Int))/\W=w'):=rH l 7 7 k7 (by omega) (by omega) rfl d3;have i7:(k7:Int)<7:=by omega
   clear d3;have h8:(w7.alloc jW).cell? ⟨g,m*4,Y⟩=X (S f.tag):=by rw[bf _ _ _ _ a7];exact t0
   have ha:(w7.alloc jW).frozen? ⟨g,m*4,Y⟩=false:=by rw[kl (w:=w7) (j4 _ _ _ a7)];exact tf _
   have cP:Bw w7 (w7.alloc jW):=aX _ _;have hd:(w7.alloc jW).cell? ⟨w.heap.size+1,2,Y⟩=X (J U l):=by rw[bf _ _ _ _ (by omega)];exact ax
   go_wp2_with fail;generalize(w7.alloc jW)=w8 at*;((with_reducible refine jb (g4.o _) ?_);rintro e w'⟨rfl,rfl⟩;have hI:=gQ.o)
   go_wp2_with fail;go_meet;exact c4.o 0 (S (pick iO l)) {f with tag:=pick iO l} (fn z f.subs.length A) (by omega) (by omega) rfl (by omega) rfl cq.o _ cP
  .have e1:=cJ f;have it:¬9223372036854775807<f.data.length+T.length:=by omega
   have iF:=tf (m*4+2);go_wp2_with fail;go_meet;exact c4.o 2 (S (f.data++T)) {f with data:=f.data++T} (fn z f.subs.length A) (by omega) (by omega) (by rw[<- cs.o];rfl) (by omega) rfl cq.o _ (j3 _ _)
  .obtain⟨k6,cQ,hF⟩:=lA l 6 (by omega);have gP:Hid ((w7.alloc kh).cell? ⟨w7.heap.size,k6,Y⟩=X (S (pick gX l))):=by unfold Hid;rw[pK gX l 6 k6 rfl cQ];exact pg w7 gX 9 k6 hF
   have g3:Hid (∀W,k4 prog 24 #[J U l,J U 6] W λe w'=>e=hk (J U (k6:Int))/\W=w'):=rH l 6 6 k6 (by omega) (by omega) rfl cQ;have i6:(k6:Int)<6:=by omega
   clear cQ;have h8:(w7.alloc kh).cell? ⟨g,m*4+1,Y⟩=X (S f.ind):=by rw[bf _ _ _ _ a7];exact t1
   have ha:(w7.alloc kh).frozen? ⟨g,m*4+1,Y⟩=false:=by rw[kl (w:=w7) (j4 _ _ _ a7)];exact tf _
   have cP:Bw w7 (w7.alloc kh):=aX _ _;have hd:(w7.alloc kh).cell? ⟨w.heap.size+1,2,Y⟩=X (J U l):=by rw[bf _ _ _ _ (by omega)];exact ax
   go_wp2_with fail;generalize(w7.alloc kh)=w8 at*;((with_reducible refine jb (g3.o _) ?_);rintro e w'⟨rfl,rfl⟩;have hI:=gP.o)
   go_wp2_with fail;go_meet;exact c4.o 1 (S (pick gX l)) {f with ind:=pick gX l} (fn z f.subs.length A) (by omega) (by omega) rfl (by omega) rfl cq.o _ cP
  .have iN:=tf (m*4+3);go_wp2_with fail;go_meet;exact c4.o 3 (fn Y 0 0) {f with subs:=[]} (fn Y 0 0) (by omega) (by omega) rfl (by omega) rfl ⟨Y,0,rfl,λh=>absurd rfl h⟩ _ (j3 _ _)
  have a0:=yd q;have g5:=Z a0;clear a0;obtain⟨i0,hi,a8,a9,ac⟩:=k8 Be;have HI:=Z hi;have b7:=Z a8;have b8:=Z a9;have b9:=Z ac;clear hi a8 a9 ac;have dz:=ci f;have P:Hid (∀W,Bw w7 W->(λw':j0=>w'.cell? ⟨g,m*4+3,Y⟩=X (fn z f.subs.length A)/\w'.cell? ⟨w.heap.size+1,1,Y⟩=X (J U q)) W):=λW hW=>⟨by rw[hW.cell (p:=⟨g,_,Y⟩) a7];exact t3,by rw[hW.cell (p:=⟨w.heap.size+1,_,Y⟩) (by simp;omega)];exact bd⟩;have a2:Hid (Bw w7 w7.drew):=(j3 _ w7).drew;have bA:Hid (Bw w7 (w7.alloc (jn #[J h1 (IntKind.u8.wrap q),S T] 120)).drew):=(aX _ _).drew;go_wp2_with fail;refine wT (λw':j0=>w'.cell? ⟨g,m*4+3,Y⟩=X (fn z f.subs.length A)/\w'.cell? ⟨w.heap.size+1,1,Y⟩=X (J U q)) 14 ?_;refine bT (i:=0) (v:=?_) rfl (by kernel_rfl) (by kernel_rfl) (by kernel_rfl) (by kernel_rfl) (by decide) (λ_ _ _ h=>h) (P _ a2.o) (k2 ⟨by rfl,?_⟩) ?_;rotate_left
  .intro w' h;obtain⟨L,V⟩:=h;go_simp;(first|done|rfl)
  (try simp only[Act.put,iQ,iS,ja])
  refine bT (i:=1) (v:=?_) rfl (by kernel_rfl) (by kernel_rfl) (by kernel_rfl) (by kernel_rfl) (by decide) (λ_ _ _ h=>h) (P _ a2.o) (k2 ⟨by rfl,?_⟩) ?_;rotate_left
  .intro w' h;obtain⟨L,V⟩:=h;go_simp;(first|done|rfl)
  (try simp only[Act.put,iQ,iS,ja])
  refine bT (i:=2) (v:=?_) rfl (by kernel_rfl) (by kernel_rfl) (by kernel_rfl) (by kernel_rfl) (by decide) (λ_ _ _ h=>h) (P _ a2.o) (k2 ⟨by rfl,?_⟩) ?_;rotate_left
  .intro w' h;obtain⟨L,V⟩:=h;go_simp;(first|done|rfl)
  (try simp only[Act.put,iQ,iS,ja])
  refine bT (i:=3) (v:=?_) rfl (by kernel_rfl) (by kernel_rfl) (by kernel_rfl) (by kernel_rfl) (by decide) (λ_ _ _ h=>h) (P _ a2.o) (k2 ⟨by rfl,?_⟩) ?_;rotate_left
  .intro w' h;obtain⟨L,V⟩:=h;go_simp;(first|done|rfl)
  (try simp only[Act.put,iQ,iS,ja])
  refine bT (i:=4) (v:=?_) rfl (by kernel_rfl) (by kernel_rfl) (by kernel_rfl) (by kernel_rfl) (by decide) (λ_ _ _ h=>h) (P _ a2.o) (k2 ⟨by rfl,?_⟩) ?_;rotate_left
  .intro w' h;obtain⟨L,V⟩:=h;go_simp;(first|done|rfl)
  (try simp only[Act.put,iQ,iS,ja])
  refine bT (i:=5) (v:=?_) rfl (by kernel_rfl) (by kernel_rfl) (by kernel_rfl) (by kernel_rfl) (by decide) (λ_ _ _ h=>h) (P _ a2.o) (k2 ⟨by rfl,?_⟩) ?_;rotate_left
  .intro w' h;obtain⟨L,V⟩:=h;go_simp;(first|done|rfl)
  (try simp only[Act.put,iQ,iS,ja])
  refine bT (i:=6) (v:=?_) rfl (by kernel_rfl) (by kernel_rfl) (by kernel_rfl) (by kernel_rfl) (by decide) (λ_ _ _ h=>h) (P _ a2.o) (k2 ⟨by rfl,?_⟩) ?_;rotate_left
  .intro w' h;obtain⟨L,V⟩:=h;go_simp;(first|done|rfl)
  (try simp only[Act.put,iQ,iS,ja])
  refine bT (i:=7) (v:=?_) rfl (by kernel_rfl) (by kernel_rfl) (by kernel_rfl) (by kernel_rfl) (by decide) (λ_ _ _ h=>h) (P _ a2.o) (k2 ⟨by rfl,?_⟩) ?_;rotate_left
  .intro w' h;obtain⟨L,V⟩:=h;go_simp;(first|done|rfl)
  (try simp only[Act.put,iQ,iS,ja])
  refine bT (i:=8) (v:=?_) rfl (by kernel_rfl) (by kernel_rfl) (by kernel_rfl) (by kernel_rfl) (by decide) (λ_ _ _ h=>h) (P _ a2.o) (k2 ⟨by rfl,?_⟩) ?_;rotate_left
  .intro w' h;obtain⟨L,V⟩:=h;go_simp;(first|done|rfl)
  (try simp only[Act.put,iQ,iS,ja])
  refine bT (i:=9) (v:=?_) rfl (by kernel_rfl) (by kernel_rfl) (by kernel_rfl) (by kernel_rfl) (by decide) (λ_ _ _ h=>h) (P _ a2.o) (k2 ⟨by rfl,?_⟩) ?_;rotate_left
  .intro w' h;obtain⟨L,V⟩:=h;go_simp;(first|done|rfl)
  (try simp only[Act.put,iQ,iS,ja])
  refine Dp 10 λK M=>?_;go_simp;refine M _ _ (λ_=>P _ bA.o) ?_;clear M K;refine Dp 11 λK M=>?_;refine wp_append_lies _ _ _ 121 rfl (w.heap.size+2+2) 120 i0 (.agg #[J h1 0,.string ⟨#[]⟩]) 2 24 underlying121 HI.o b7.o b8.o b9.o rfl (by omega) (fn z f.subs.length A) f.subs.length _ (by rfl) (cF cm.o (λg' a4=>bA.o.block g' (cm.o.lt g' a4).2)) ⟨w7.heap.size,0,Y⟩ 1 1 [J h1 (IntKind.u8.wrap q),S T] (by rfl) rfl (vG w7 _ _ _) (by simp[k3]) (by omega) (by unfold maxLen;omega) (by omega) (by simp;omega) _ rfl ?_;intro g9 hY F av N ho i8;rw[g5.o]at av;obtain⟨bs,e9,f9⟩:=eg.o ⟨u8I q,T⟩ _ F _ (by omega) (by omega) (by rw[<- cs.o];rfl) bA.o av (by rw[<- al];exact N) (ho.elim (λh=>.inl (h.symm.trans al)) (λh=>.inr (congrArg X h)));have cu:F.cell? ⟨w.heap.size+1,1,Y⟩=X (J U q):=by rw[kv (w:=(w7.alloc (jn #[J h1 (IntKind.u8.wrap q),S T] 120)).drew) (N.block _ (by simp;omega) (by rw[al];intro e;injection e with e;simp at e;omega))];exact(P.o _ bA.o).2
  have cl:=Z bs;clear av N bs;refine M _ _ (λ_=>⟨e9,cu⟩) ?_;clear M K;refine Dp 12 λK M=>?_;go_simp;refine M _ _ (λ_=>⟨e9,cu⟩) ?_;clear M K;refine Dp 13 λK M=>?_;go_simp;refine M _ _ (λ_=>⟨e9,cu⟩) ?_;clear M K;refine Dl 14 ?_;go_wp2_with fail;go_meet;exact cl.o
 obtain⟨hH,hJ,a3,gz⟩:=hcut;generalize wc=F at*;have z0:=a3.z0;have z1:=a3.z1;have z2:=a3.z2;have y0:=a3.y0;have y1:=a3.y1;have y2:=a3.y2;have d0:=a3.c0;have d1:=a3.c1;have d2:=a3.c2;clear c0 c1 c2 x0 x1 x2 t0 t1 t2 t3;go_wp2_with fail
 all_goals
  refine bodyPost_ret (v:=.agg #[J h1 R.kind.toNat,J h1 R.level.toNat,fn hH R.fields.length hJ]) (by simp only[results,Tryz.results84];go_simp) rfl ?_
  exact uZ b6.o (by omega) a3.o gz.o _ rfl
end
section
open Go.RowKit Go.Maps Go.Shelf
def yt(q:Six):Array j1:= #[J U q.a,J U q.b,J U q.c,J U q.d,J U q.e,J U q.f]
def zZ(x:dg):Array j1:= #[J U x.k,J U x.a,J U x.b,J U x.v,J U x.q.a,J U x.q.b,J U x.q.c,J U x.q.d,J U x.q.e,J U x.q.f]
structure z7(q:Six):Prop where
 a:i64B q.a
 b:i64B q.b
 c:i64B q.c
 d:i64B q.d
 e:i64B q.e
 f:i64B q.f
structure s7(x:dg):Prop where
 k:i64B x.k
 a:i64B x.a
 b:i64B x.b
 v:i64B x.v
 q:z7 x.q
theorem xX(n:Int):z7 (workQ n):=by
 unfold workQ;repeat' split
 all_goals exact⟨by unfold i64B;decide,by unfold i64B;decide,by unfold i64B;decide,by unfold i64B;decide,by unfold i64B;decide,by unfold i64B;decide⟩
structure SdI(B:Nat)(w0 wr:j0)(x:dg)(q:Six):Prop where
 b:Below B w0 wr
 arg:wr.heap[B]?=some (.cells (zZ x) 47 (0,0))
 res:wr.heap[B+1]?=some (.cells #[.int .i64 0,.int .i64 0,.int .i64 0,.int .u8 0,.int .u8 0,.slice none 0 0] 64 (0,0))
 six:wr.heap[B+2]?=some (.cells (yt q) 45 (0,0))
theorem SdI.keep{B:Nat}{c wr W:j0}{x:dg}{q:Six}(h:SdI B c wr x q)(a:Bw wr W):SdI B c W x q:=
 ⟨h.b.trans (a.mono (by have:=ae h.arg;omega)),(a.block _ (ae h.arg)).trans h.arg,(a.block _ (ae h.res)).trans h.res,(a.block _ (ae h.six)).trans h.six⟩
theorem Ai{w:j0}{b:Nat}{f g i j k l:j1}{t:TypeId}(h:w.heap[b]?=X (gs #[f,g,i,j,k,l] t (0,0)))(a c1 c2 c d e:j1):
 ((((((w.setCell ⟨b,0,Y⟩ a).setCell ⟨b,1,Y⟩ c1).setCell ⟨b,2,Y⟩ c2).setCell ⟨b,3,Y⟩ c).setCell ⟨b,4,Y⟩ d).setCell ⟨b,5,Y⟩ e).heap[b]?=X (gs #[a,c1,c2,c,d,e] t (0,0)):=
 aq (aq (aq (aq (aq (aq h 0 a) 1 c1) 2 c2) 3 c) 4 d) 5 e
theorem SdI.put{B:Nat}{j wr:j0}{x:dg}{q:Six}(h:SdI B j wr x q)(p:Six):
 SdI B j ((((((wr.setCell ⟨B+2,0,Y⟩ (J U p.a)).setCell ⟨B+2,1,Y⟩ (J U p.b)).setCell ⟨B+2,2,Y⟩ (J U p.c)).setCell ⟨B+2,3,Y⟩ (J U p.d)).setCell ⟨B+2,4,Y⟩ (J U p.e)).setCell ⟨B+2,5,Y⟩ (J U p.f)) x p:=by
 have i:∀k,k≠B+2->((((((wr.setCell ⟨B+2,0,Y⟩ (J U p.a)).setCell ⟨B+2,1,Y⟩ (J U p.b)).setCell ⟨B+2,2,Y⟩ (J U p.c)).setCell ⟨B+2,3,Y⟩ (J U p.d)).setCell ⟨B+2,4,Y⟩ (J U p.e)).setCell ⟨B+2,5,Y⟩ (J U p.f)).heap[k]?=wr.heap[k]?:=λk g=>by rw[iP _ _ _ _ g,iP _ _ _ _ g,iP _ _ _ _ g,iP _ _ _ _ g,iP _ _ _ _ g,iP _ _ _ _ g]
 refine⟨?_,(i B (by omega)).trans h.arg,(i (B+1) (by omega)).trans h.res,Ai h.six _ _ _ _ _ _⟩;exact(((((h.b.setCell (p:=⟨B+2,0,Y⟩) (by simp) _).setCell (p:=⟨B+2,1,Y⟩) (by simp) _).setCell (p:=⟨B+2,2,Y⟩) (by simp) _).setCell (p:=⟨B+2,3,Y⟩) (by simp) _).setCell (p:=⟨B+2,4,Y⟩) (by simp) _).setCell (p:=⟨B+2,5,Y⟩) (by simp) _
theorem fY{l:List Bs}{N:Nat}(h:∀x∈l,x.length<=N)(n:Int):(pick l n).length<=N:=by
 unfold pick;rw[ko];cases hx:l[(n.emod l.length).toNat]? with
 |none=>simp
 |some x=>exact h x (List.mem_of_getElem? hx)
theorem iW(q:Six):(madeR q).fields.length<=7/\∀f∈(madeR q).fields,(fieldBytes f).length<=200:=by
 have h:=fY (l:=yearsL) (N:=20) (by decide);have j:=fY (l:=booksL) (N:=30) (by decide);have hn:=fY (l:=namesL) (N:=20) (by decide);have m:=fY (l:=titlesL) (N:=20) (by decide);have k:=fY (l:=inds3L) (N:=2) (by decide);have g:(q.c.emod 3).toNat<=2:=by have g:q.c.emod 3<3:=ky _ (by omega);omega
 unfold madeR;dsimp only;constructor
 .have n:(made008 q.b).length<=1:=by unfold made008;split<;>simp
  have o:(gc q.c).length<=2:=by unfold gc;rw[List.length_map,List.length_range];exact g
  have p:(eE q.d).length<=1:=by unfold eE;split<;>simp
  have r:(eD q.e).length<=1:=by unfold eD;split<;>simp
  have s:(eC q.f).length<=1:=by unfold eC;split<;>simp
  simp only[kx];omega
 intro f a;simp only[List.mem_append]at a;rcases a with(((a|a)|a)|a)|a
 .unfold made008 at a;split at a
  .rw[ks]at a;subst a;have:=h q.b;simp[fieldBytes];omega
  cases a
 .unfold gc at a;obtain⟨i,_,rfl⟩:=List.mem_map.1 a;have:=j (q.c.tdiv 3+i);simp[fieldBytes,gu,aR];omega
 .unfold eE at a;split at a
  .rw[ks]at a;subst a;have:=hn (q.d.tdiv 4);simp[fieldBytes,aR];omega
  cases a
 .unfold eD at a;split at a
  .rw[ks]at a;subst a;have:=m (q.e.tdiv 5);have:=k q.e;simp[fieldBytes,aR];omega
  cases a
 unfold eC at a;split at a
 .rw[ks]at a;subst a;have:=h q.f;simp[fieldBytes,aR];omega
 cases a
theorem Ap(k a b v n o r s u x:Int)(hx:s7 ⟨k,a,b,v,⟨n,o,r,s,u,x⟩⟩)(w:j0):
 k4 prog 45 #[.agg #[J U k,J U a,J U b,J U v,J U n,J U o,J U r,J U s,J U u,J U x]] w λe w'=>∃(va:Option Addr)(vc:Nat),
  e=hk (lc (recI a) (v.emod 6) (saidR ⟨k,a,b,v,⟨n,o,r,s,u,x⟩⟩) (.slice va (saidR ⟨k,a,b,v,⟨n,o,r,s,u,x⟩⟩).fields.length vc))/\
  ag w.heap.size w'.heap.size w' (.slice va (saidR ⟨k,a,b,v,⟨n,o,r,s,u,x⟩⟩).fields.length vc) (saidR ⟨k,a,b,v,⟨n,o,r,s,u,x⟩⟩).fields/\Bw w w':=by
 obtain⟨a3,hX⟩:∃a3:dg,(⟨k,a,b,v,⟨n,o,r,s,u,x⟩⟩:dg)=a3:=⟨_,rfl⟩;obtain⟨R,hR⟩:=Qe (saidR ⟨k,a,b,v,⟨n,o,r,s,u,x⟩⟩);obtain⟨p,hp⟩:=Qe ((if b.tmod 3≠0 then workQ b else⟨n,o,r,s,u,x⟩));have d2:z7 p:=by rw[<- hp];split;exact xX b;exact hx.q
 have bA:Hid (R=if k.emod 8=4/\b.tmod 5=0 then spoilR (madeR p) (a.emod 8) b v else madeR p):=by unfold Hid;rw[<- hR,<- hp];rfl
 obtain⟨mk,cc,lk⟩:=cG k 8 (by omega);obtain⟨ma,c9,la⟩:=cG a 8 (by omega);obtain⟨mb,Q,lb⟩:=cG b 4 (by omega);have bs:Hid (∀W,k4 prog 24 #[J U k,J U 8] W λe w'=>e=hk (J U (mk:Int))/\W=w'):=dr k 8 mk (by omega) (by omega) cc;have d7:Hid (∀W,k4 prog 24 #[J U a,J U 8] W λe w'=>e=hk (J U (ma:Int))/\W=w'):=dr a 8 ma (by omega) (by omega) c9;have b1:Hid (∀W,k4 prog 24 #[J U b,J U 4] W λe w'=>e=hk (J U (mb:Int))/\W=w'):=dr b 4 mb (by omega) (by omega) Q;have d8:Hid (∀W,k4 prog 24 #[J U v,J U 6] W λe w'=>e=hk (J U (v.emod 6))/\W=w'):=λW=>iV v 6 W (by omega) (by omega);have dd:Hid (b.emod 4=mb):=Q;have dk:Hid (k.emod 8=mk):=cc;have dc:Hid (a.emod 8=ma):=c9;have HP:=Z hp;have bv:=Z d2;obtain⟨B,ay⟩:=Qe ((w.alloc (gs #[J U k,J U a,J U b,J U v,J U n,J U o,J U r,J U s,J U u,J U x] 47)).alloc (gs #[J U 0,J U 0,J U 0,J h1 0,J h1 0,fn Y 0 0] 64));have cv:Bw w B:=by rw[<- ay];exact((j3 _ w).alloc (kb _) _).alloc (by simp) _
 have hA:B.heap[w.heap.size]?=X (gs #[J U k,J U a,J U b,J U v,J U n,J U o,J U r,J U s,J U u,J U x] 47 (0,0)):=by rw[<- ay,j4 _ _ _ (by simp)];exact j2 w _
 have hB:B.heap[w.heap.size+1]?=X (gs #[J U 0,J U 0,J U 0,J h1 0,J h1 0,fn Y 0 0] 64 (0,0)):=by rw[<- ay];have:=j2 (w.alloc (gs #[J U k,J U a,J U b,J U v,J U n,J U o,J U r,J U s,J U u,J U x] 47)) (gs #[J U 0,J U 0,J U 0,J h1 0,J h1 0,fn Y 0 0] 64);rwa[World.size_alloc]at this
 have cm:B.heap.size=w.heap.size+2:=by rw[<- ay];simp
 obtain⟨V,aS⟩:=Qe (B.alloc (gs #[J U n,J U o,J U r,J U s,J U u,J U x] 45));have bB:Hid (SdI w.heap.size w V a3 ⟨n,o,r,s,u,x⟩):=by
  have ho:∀k,k<B.heap.size->V.heap[k]?=B.heap[k]?:=λk F=>by rw[<- aS];exact j4 _ _ _ F
  refine⟨by rw[<- aS];exact cv.alloc (by omega) _,?_,(ho _ (by omega)).trans hB,?_⟩
  .rw[<- hX];exact(ho _ (by omega)).trans hA
  rw[<- cm,<- aS];exact j2 B _
 have e2:=Z ay;have e3:=Z aS;have HA:=Z hA;have e4:=Z cm;have bY:=Z hX;have e9:=Z hx;rw[hR];have b8:=λW:j0=>tM a W hx.a;obtain⟨⟨r1,r2⟩,d3⟩:∃rr,recI a=rr:=⟨_,rfl⟩;rw[d3]at b8 ⊢;dsimp only[recK]at b8;have dx:=Z b8;clear b8 d3;clear ay aS hA hB cm cv hX hx hR hp cc c9 Q d2;unfold lc;go_enter func45,ntmps45;have a4:B.cell? ⟨w.heap.size,4,Y⟩=X (J U n):=(aa HA.o 4).trans rfl;have a5:B.cell? ⟨w.heap.size,5,Y⟩=X (J U o):=(aa HA.o 5).trans rfl;have a6:B.cell? ⟨w.heap.size,6,Y⟩=X (J U r):=(aa HA.o 6).trans rfl;have a7:B.cell? ⟨w.heap.size,7,Y⟩=X (J U s):=(aa HA.o 7).trans rfl;have a8:B.cell? ⟨w.heap.size,8,Y⟩=X (J U u):=(aa HA.o 8).trans rfl;have a9:B.cell? ⟨w.heap.size,9,Y⟩=X (J U x):=(aa HA.o 9).trans rfl;go_upto_region 1 with fail;rw[e2.o];go_upto_region 2 with fail;rw[e3.o];clear a4 a5 a6 a7 a8 a9;rw[e4.o];have bk:Hid (∀(W:j0)(q':Six),SdI w.heap.size w W a3 q'->W.cell? ⟨w.heap.size,0,Y⟩=X (J U k)/\W.cell? ⟨w.heap.size,1,Y⟩=X (J U a)/\W.cell? ⟨w.heap.size,2,Y⟩=X (J U b)/\W.cell? ⟨w.heap.size,3,Y⟩=X (J U v)):=λW q' h=>by have l:=h.arg;rw[<- bY.o]at l;exact⟨(aa l 0).trans rfl,(aa l 1).trans rfl,(aa l 2).trans rfl,(aa l 3).trans rfl⟩
 obtain⟨_,_,x2,_⟩:=bk V _ bB.o;go_upto_if 11 with fail;clear x2;obtain⟨G,H,I,L,N,O⟩:=p;go_cut [] (λwx=>Hid (SdI w.heap.size w wx a3 ⟨G,H,I,L,N,O⟩))
 case first=>
  by_cases hb3:b.tmod 3=0
  .have e6:(⟨G,H,I,L,N,O⟩:Six)=⟨n,o,r,s,u,x⟩:=by rw[<- HP.o,if_neg (by simp[hb3])]
   go_wp2_with fail;go_meet;rw[e6];exact bB.o
  have ds:Hid ((⟨G,H,I,L,N,O⟩:Six)=workQ b):=by unfold Hid;rw[<- HP.o,if_pos hb3]
  go_upto_region 3 with fail;obtain⟨q4,cg⟩:=Qe V.heap.size;refine wp_region_lit ?_;refine kt rfl 45 _ rfl _ rfl #[J U 0,J U 2,J U 1,J U 5,J U 6,J U 0] (by kernel_rfl) ?_;go_simp;refine kt rfl 45 _ rfl _ rfl #[J U 0,J U 2,J U 0,J U 5,J U 6,J U 1] (by kernel_rfl) ?_;go_simp;refine kt rfl 45 _ rfl _ rfl #[J U 0,J U 4,J U 4,J U 9,J U 21,J U 1] (by kernel_rfl) ?_;go_simp;refine kt rfl 45 _ rfl _ rfl #[J U 0,J U 1,J U 0,J U 9,J U 21,J U 2] (by kernel_rfl) ?_;go_simp;refine kt rfl 159 _ rfl _ rfl #[J U 0,J U 2,J U 1,J U 5,J U 6,J U 0,J U 0,J U 2,J U 0,J U 5,J U 6,J U 1,J U 0,J U 4,J U 4,J U 9,J U 21,J U 1,J U 0,J U 1,J U 0,J U 9,J U 21,J U 2] (by kernel_rfl) ?_;go_simp;refine Great.wpList_allocTo rfl _ rfl (hr (X ⟨V.heap.size,0,Y⟩)) (gs #[J U 0,J U 0,J U 0,J U 0,J U 0,J U 0,J U 0,J U 0,J U 0,J U 0,J U 0,J U 0,J U 0,J U 0,J U 0,J U 0,J U 0,J U 0,J U 0,J U 0,J U 0,J U 0,J U 0,J U 0] 159) (by kernel_rfl) ?_;rw[cg];obtain⟨aT,bd⟩:=Qe (V.alloc (gs #[J U 0,J U 0,J U 0,J U 0,J U 0,J U 0,J U 0,J U 0,J U 0,J U 0,J U 0,J U 0,J U 0,J U 0,J U 0,J U 0,J U 0,J U 0,J U 0,J U 0,J U 0,J U 0,J U 0,J U 0] 159));have c6:aT.heap[q4]?=X (gs #[J U 0,J U 0,J U 0,J U 0,J U 0,J U 0,J U 0,J U 0,J U 0,J U 0,J U 0,J U 0,J U 0,J U 0,J U 0,J U 0,J U 0,J U 0,J U 0,J U 0,J U 0,J U 0,J U 0,J U 0] 159 (0,0)):=by rw[<- bd,<- cg];exact j2 V _
  rw[bd];go_simp;refine wpList_store_rowTo rfl 159 _ _ rfl rfl q4 #[J U 0,J U 2,J U 1,J U 5,J U 6,J U 0,J U 0,J U 2,J U 0,J U 5,J U 6,J U 1,J U 0,J U 4,J U 4,J U 9,J U 21,J U 1,J U 0,J U 1,J U 0,J U 9,J U 21,J U 2] rfl rfl 159 _ c6 (by kernel_rfl) rfl (by kernel_rfl) ?_;obtain⟨D,bc⟩:=Qe (aT.setRow q4 #[J U 0,J U 2,J U 1,J U 5,J U 6,J U 0,J U 0,J U 2,J U 0,J U 5,J U 6,J U 1,J U 0,J U 4,J U 4,J U 9,J U 21,J U 1,J U 0,J U 1,J U 0,J U 9,J U 21,J U 2]);have cu:D.heap[q4]?=X (gs #[J U 0,J U 2,J U 1,J U 5,J U 6,J U 0,J U 0,J U 2,J U 0,J U 5,J U 6,J U 1,J U 0,J U 4,J U 4,J U 9,J U 21,J U 1,J U 0,J U 1,J U 0,J U 9,J U 21,J U 2] 159 (0,0)):=by rw[<- bc];exact setRow_heap aT q4 _ _ 159 (0,0) c6
  have cx:Bw V D:=by
   have l:Bw V aT:=by rw[<- bd];exact(j3 _ V).alloc (kb _) _
   rw[<- bc];exact l.trans ⟨setRow_os _ _ _,setRow_tape _ _ _,setRow_output _ _ _,Nat.le_of_eq (setRow_size _ _ _).symm,λk F=>setRow_other aT q4 k _ (by omega)⟩
  have y:Hid (SdI w.heap.size w D a3 ⟨n,o,r,s,u,x⟩):=bB.keep cx;rw[bc];clear cx c6 bd;go_upto_region 4 with fail;clear cg bc;obtain⟨_,_,x2,_⟩:=bk D _ y.o;have y0:D.cell? ⟨w.heap.size+2,0,Y⟩=X (J U n):=(aa y.six 0).trans rfl;have y1:D.cell? ⟨w.heap.size+2,1,Y⟩=X (J U o):=(aa y.six 1).trans rfl;have y2:D.cell? ⟨w.heap.size+2,2,Y⟩=X (J U r):=(aa y.six 2).trans rfl;have y3:D.cell? ⟨w.heap.size+2,3,Y⟩=X (J U s):=(aa y.six 3).trans rfl;have y4:D.cell? ⟨w.heap.size+2,4,Y⟩=X (J U u):=(aa y.six 4).trans rfl;have y5:D.cell? ⟨w.heap.size+2,5,Y⟩=X (J U x):=(aa y.six 5).trans rfl;have z0:=ab y.six 0;have z1:=ab y.six 1;have z2:=ab y.six 2;have z3:=ab y.six 3;have z4:=ab y.six 4;have z5:=ab y.six 5;have j:Hid (∀i,D.cell? ⟨q4,i,Y⟩=_):=λi=>aa cu i;have ac:=ds.o;have Q:=dd.o;clear cu;obtain rfl|rfl|rfl|rfl:mb=0∨mb=1∨mb=2∨mb=3:=by omega
  .have n0:=(j 0).trans rfl;have n1:=(j 1).trans rfl;have n2:=(j 2).trans rfl;have n3:=(j 3).trans rfl;have n4:=(j 4).trans rfl;have n5:=(j 5).trans rfl;have ad:Hid ((⟨G,H,I,L,N,O⟩:Six)=⟨0,2,1,5,6,0⟩):=by unfold Hid;rw[ac];unfold workQ;rw[Q];rfl
   clear ac Q;go_wp2_with (go_at_call 24;(refine jb (b1.o _) ?_;rintro e w5⟨rfl,rfl⟩))
   go_meet;rw[ad.o];exact y.put ⟨0,2,1,5,6,0⟩
  .have n0:=(j 6).trans rfl;have n1:=(j 7).trans rfl;have n2:=(j 8).trans rfl;have n3:=(j 9).trans rfl;have n4:=(j 10).trans rfl;have n5:=(j 11).trans rfl;have ad:Hid ((⟨G,H,I,L,N,O⟩:Six)=⟨0,2,0,5,6,1⟩):=by unfold Hid;rw[ac];unfold workQ;rw[Q];rfl
   clear ac Q;go_wp2_with (go_at_call 24;(refine jb (b1.o _) ?_;rintro e w5⟨rfl,rfl⟩))
   go_meet;rw[ad.o];exact y.put ⟨0,2,0,5,6,1⟩
  .have n0:=(j 12).trans rfl;have n1:=(j 13).trans rfl;have n2:=(j 14).trans rfl;have n3:=(j 15).trans rfl;have n4:=(j 16).trans rfl;have n5:=(j 17).trans rfl;have ad:Hid ((⟨G,H,I,L,N,O⟩:Six)=⟨0,4,4,9,21,1⟩):=by unfold Hid;rw[ac];unfold workQ;rw[Q];rfl
   clear ac Q;go_wp2_with (go_at_call 24;(refine jb (b1.o _) ?_;rintro e w5⟨rfl,rfl⟩))
   go_meet;rw[ad.o];exact y.put ⟨0,4,4,9,21,1⟩
  have n0:=(j 18).trans rfl;have n1:=(j 19).trans rfl;have n2:=(j 20).trans rfl;have n3:=(j 21).trans rfl;have n4:=(j 22).trans rfl;have n5:=(j 23).trans rfl;have ad:Hid ((⟨G,H,I,L,N,O⟩:Six)=⟨0,1,0,9,21,2⟩):=by unfold Hid;rw[ac];unfold workQ;rw[Q];rfl
  clear ac Q;go_wp2_with (go_at_call 24;(refine jb (b1.o _) ?_;rintro e w5⟨rfl,rfl⟩))
  go_meet;rw[ad.o];exact y.put ⟨0,1,0,9,21,2⟩
 have HS:=hcut;clear hcut;have c0:wc.cell? ⟨w.heap.size+2,0,Y⟩=X (J U G):=(aa HS.six 0).trans rfl;have c1:wc.cell? ⟨w.heap.size+2,1,Y⟩=X (J U H):=(aa HS.six 1).trans rfl;have c2:wc.cell? ⟨w.heap.size+2,2,Y⟩=X (J U I):=(aa HS.six 2).trans rfl;have c3:wc.cell? ⟨w.heap.size+2,3,Y⟩=X (J U L):=(aa HS.six 3).trans rfl;have c4:wc.cell? ⟨w.heap.size+2,4,Y⟩=X (J U N):=(aa HS.six 4).trans rfl;have c5:wc.cell? ⟨w.heap.size+2,5,Y⟩=X (J U O):=(aa HS.six 5).trans rfl;have b6:=AQ G H I L N O bv.c bv.d bv.e wc;obtain⟨M,hM⟩:=Qe (madeR ⟨G,H,I,L,N,O⟩);have b7:=iW ⟨G,H,I,L,N,O⟩;have d1:M.level=109:=by rw[<- hM];rfl
 rw[hM]at b6 b7 bA;obtain⟨kd,lv,P⟩:=M;dsimp only at b6 b7 d1;subst d1;have cp:=Z b6;have cq:=Z b7;clear b6 b7 hM;go_upto_region 6 with(go_at_call 83;(refine jb cp.o ?_;rintro e w5⟨va,vc,rfl,d0,cy⟩;have cn:=Z d0;have b0:=Z cy;clear d0 cy))
 obtain⟨T,hT⟩:=Qe w5.heap.size;obtain⟨g,aC⟩:=Qe (w5.alloc (gs #[J h1 kd.toNat,J h1 109,fn va P.length vc] 62));have c7:g.heap[T]?=X (gs #[J h1 kd.toNat,J h1 109,fn va P.length vc] 62 (0,0)):=by rw[<- aC,<- hT];exact j2 w5 _
 have cz:Bw wc g:=by rw[<- aC];exact b0.o.alloc b0.o.size _
 have a2:Hid (SdI w.heap.size w g a3 ⟨G,H,I,L,N,O⟩):=HS.keep cz;have d5:w.heap.size+3<=wc.heap.size:=by have:=ae HS.o.six;omega
 have bt:Hid (ag (w.heap.size+3) g.heap.size g (fn va P.length vc) P):=by have h:=cn.o.kept (w':=g) (λq _ hq=>by rw[<- aC];exact j4 _ _ _ hq);exact h.mono d5 (by rw[<- aC];simp)
 have e0:Hid (w.heap.size+3<=T/\T<g.heap.size/\w.heap.size+3<=g.heap.size):=by have l:=ae HS.six;have m:=b0.size;have z:=ae c7;exact⟨by omega,z,by omega⟩
 have b3:=Z c7;rw[hT,aC];clear c0 c1 c2 c3 c4 c5 cn cz aC hT c7 HS d5 cp b0;obtain⟨x0,_,x2,_⟩:=bk g _ a2.o;go_cut [33] (λt wx=>t=hK (decide (mk=4)&&decide (b.tmod 5=0))/\wx=g)
 case first=>
  by_cases h4:mk=4
  .subst h4;by_cases h5:b.tmod 5=0
   .go_wp2_with (go_at_call 24;(refine jb (bs.o _) ?_;rintro e C⟨rfl,rfl⟩))
    go_meet;exact⟨by simp[h5],rfl⟩
   go_wp2_with (go_at_call 24;(refine jb (bs.o _) ?_;rintro e C⟨rfl,rfl⟩))
   go_meet;exact⟨by simp[h5],rfl⟩
  have eg:((mk:Int)==4)=false:=by simp;omega
  go_wp2_with (go_at_call 24;(refine jb (bs.o _) ?_;rintro e C⟨rfl,rfl⟩))
  go_meet;exact⟨by simp[h4],rfl⟩
 obtain⟨rfl,cl⟩:=hcut;have cl:=cl.symm;subst cl;clear x0 x2;have b2:Hid (R=if(decide (mk=4)&&decide (b.tmod 5=0))=true then spoilR ⟨kd,109,P⟩ (ma:Int) b v else⟨kd,109,P⟩):=by
  unfold Hid;have e1:=bA.o;rw[dk.o,dc.o]at e1;rw[e1];by_cases h4:mk=4/\b.tmod 5=0
  .rw[if_pos ⟨by omega,h4.2⟩,if_pos (by simp[h4.1,h4.2])]
  rw[if_neg (by intro h;exact h4 ⟨by omega,h.2⟩),if_neg (by simpa using h4)]
 obtain⟨sp,d4⟩:=Qe ((decide (mk=4)&&decide (b.tmod 5=0)));rw[d4]at b2 ⊢;clear d4 bA;go_upto_if 33 with fail;go_cut [] (λwx=>∃(al:Option Addr)(ao:Nat),Hid (SdI w.heap.size w wx a3 ⟨G,H,I,L,N,O⟩)/\Hid (wx.heap[T]?=X (gs #[J h1 R.kind.toNat,J h1 R.level.toNat,fn al R.fields.length ao] 62 (0,0)))/\Hid (ag (w.heap.size+3) wx.heap.size wx (fn al R.fields.length ao) R.fields))
 case first=>
  cases sp
  .have bw:Hid (R=⟨kd,109,P⟩):=by unfold Hid;rw[b2.o,if_neg (by decide)]
   go_wp2_with fail;go_meet;rw[bw.o];exact⟨va,vc,a2,b3,bt⟩
  have bw:Hid (R=spoilR ⟨kd,109,P⟩ (ma:Int) b v):=by unfold Hid;rw[b2.o,if_pos rfl]
  have av:g.drew.heap[w.heap.size]?=g.heap[w.heap.size]? /\g.drew.heap[T]?=g.heap[T]?:=⟨rfl,rfl⟩;have ch:=tC kd 109 P va vc ma (by omega) b v g.drew (bt.o.mono (Nat.zero_le _) (kb _)) (by have:=cq.o.1;omega) (λf hf=>k0 (cq.o.2 f hf) (by omega));rw[<- bw.o]at ch;have dy:=Z (show k4 prog 84 #[.agg #[J h1 kd.toNat,J h1 109,fn va P.length vc],.agg #[J U (ma:Int),J U b,J U v]] g.drew _ from ch);clear ch;have bl:Hid (∀W:j0,(W.heap[w.heap.size]?=g.heap[w.heap.size]? /\W.heap[T]?=g.heap[T]?)->(W.cell? ⟨T,0,Y⟩=X (J h1 kd.toNat)/\W.cell? ⟨T,1,Y⟩=X (J h1 109)/\W.cell? ⟨T,2,Y⟩=X (fn va P.length vc))/\W.cell? ⟨w.heap.size,1,Y⟩=X (J U a)/\W.cell? ⟨w.heap.size,2,Y⟩=X (J U b)/\W.cell? ⟨w.heap.size,3,Y⟩=X (J U v)):=λW h=>by have l:=h.1.trans a2.arg;rw[<- bY.o]at l;have m:=h.2.trans b3.o;exact⟨⟨(aa m 0).trans rfl,(aa m 1).trans rfl,(aa m 2).trans rfl⟩,(aa l 1).trans rfl,(aa l 2).trans rfl,(aa l 3).trans rfl⟩
  go_wp2_with fail;refine wT (λW:j0=>W.heap[w.heap.size]?=g.heap[w.heap.size]? /\W.heap[T]?=g.heap[T]?) 10 ?_;refine Qb [0,1,4,6,2,5,7] av bl ?_;refine Dp 3 λK A=>?_;go_simp;go_at_call 24;with_reducible refine jb (d7.o _) ?_
  rintro e C⟨rfl,rfl⟩;refine A _ _ (λ_=>av) ?_;clear A K;go_simp;refine Qa [8] av ?_
  refine Dp 9 λK A=>?_;go_simp;go_at_call 84;with_reducible refine jb dy.o ?_
  rintro e C⟨sb,cb,rfl,b5,cQ⟩;have bb:=e0.o;have b9:C.heap[w.heap.size]?=g.heap[w.heap.size]? /\C.heap[T]?=g.heap[T]?:=⟨b5.block _ (by show w.heap.size<g.heap.size;omega),b5.block _ (by show T<g.heap.size;omega)⟩;have d9:=Z cQ;have d6:Hid (Bw g C):=(j3 _ g).drew.trans b5;clear cQ b5;refine A _ _ (λ_=>b9) ?_;clear A K;go_simp;have m:=b9.2.trans b3.o;have t0:C.cell? ⟨T,0,Y⟩=X (J h1 kd.toNat):=(aa m 0).trans rfl;have t1:C.cell? ⟨T,1,Y⟩=X (J h1 109):=(aa m 1).trans rfl;have t2:C.cell? ⟨T,2,Y⟩=X (fn va P.length vc):=(aa m 2).trans rfl;have z0:=ab m 0;have z1:=ab m 1;have z2:=ab m 2;have dz:=Z m;have ej:=Z b9;clear m b9;refine Dl 10 ?_;go_wp2_with fail;go_meet;obtain⟨E,a0⟩:=Qe (((C.setCell ⟨T,0,Y⟩ (J h1 R.kind.toNat)).setCell ⟨T,1,Y⟩ (J h1 R.level.toNat)).setCell ⟨T,2,Y⟩ (fn sb R.fields.length cb));have cd:∀k,k≠T->E.heap[k]?=C.heap[k]?:=λk F=>by rw[<- a0,iP _ _ _ _ F,iP _ _ _ _ F,iP _ _ _ _ F]
  have e8:E.heap.size=C.heap.size:=by rw[<- a0];simp
  have c8:Below (w.heap.size+3) C E:=by rw[<- a0];exact(((j3 _ C).setCell (p:=⟨T,0,Y⟩) bb.1 _).setCell (p:=⟨T,1,Y⟩) bb.1 _).setCell (p:=⟨T,2,Y⟩) bb.1 _
  have e5:E.heap[T]?=X (gs #[J h1 R.kind.toNat,J h1 R.level.toNat,fn sb R.fields.length cb] 62 (0,0)):=by rw[<- a0];exact aq (aq (aq dz.o 0 _) 1 _) 2 _
  rw[a0];have b4:Below (w.heap.size+3) g E:=(d6.mono bb.2.2).trans c8;refine⟨sb,cb,⟨a2.o.b.trans (b4.mono (by omega)),(b4.block _ (by omega)).trans a2.o.arg,(b4.block _ (by omega)).trans a2.o.res,(b4.block _ (by omega)).trans a2.o.six⟩,e5,?_⟩;have h:=d9.o.kept (w':=E) (λq hq _=>cd q (by have:g.heap.size<=q:=hq;omega));exact h.mono (by show w.heap.size+3<=g.heap.size;omega) (by omega)
 obtain⟨al,ao,au,cs,da⟩:=hcut;clear a2 b3 bt b2;have av:Bw wc wc.drew:=(j3 _ wc).drew;have bl:Hid (∀W:j0,Bw wc W->(W.cell? ⟨T,0,Y⟩=X (J h1 R.kind.toNat)/\W.cell? ⟨T,1,Y⟩=X (J h1 R.level.toNat)/\W.cell? ⟨T,2,Y⟩=X (fn al R.fields.length ao))/\W.cell? ⟨w.heap.size,1,Y⟩=X (J U a)/\W.cell? ⟨w.heap.size,3,Y⟩=X (J U v)):=λW h=>by have l:=(h.block _ (ae au.arg)).trans au.arg;rw[<- bY.o]at l;have m:=(h.block _ (ae cs.o)).trans cs.o;exact⟨⟨(aa m 0).trans rfl,(aa m 1).trans rfl,(aa m 2).trans rfl⟩,(aa l 1).trans rfl,(aa l 3).trans rfl⟩
 go_wp2_with fail;refine wT (λW:j0=>Bw wc W) 8 ?_;refine Qb [0,3,6,1,4] av bl ?_;refine Dp 2 λK A=>?_;go_simp;go_at_call 20;with_reducible refine jb (dx.o _) ?_
 rintro e w9⟨rfl,cP⟩;have ax:Bw wc w9:=av.trans cP;refine A _ _ (λ_=>ax) ?_;clear A K;go_simp;refine Dp 5 λK A=>?_;go_simp;go_at_call 24;with_reducible refine jb (d8.o _) ?_
 rintro e C⟨rfl,rfl⟩;refine A _ _ (λ_=>ax) ?_;clear A K;go_simp;refine Qa [7] ax ?_
 have z:=(ax.block _ (ae au.res)).trans au.res;have y0:w9.cell? ⟨w.heap.size+1,0,Y⟩=X (J U 0):=(aa z 0).trans rfl;have y1:w9.cell? ⟨w.heap.size+1,1,Y⟩=X (J U 0):=(aa z 1).trans rfl;have y2:w9.cell? ⟨w.heap.size+1,2,Y⟩=X (J U 0):=(aa z 2).trans rfl;have y3:w9.cell? ⟨w.heap.size+1,3,Y⟩=X (J h1 0):=(aa z 3).trans rfl;have y4:w9.cell? ⟨w.heap.size+1,4,Y⟩=X (J h1 0):=(aa z 4).trans rfl;have y5:w9.cell? ⟨w.heap.size+1,5,Y⟩=X (fn Y 0 0):=(aa z 5).trans rfl;have z0:=ab z 0;have z1:=ab z 1;have z2:=ab z 2;have z3:=ab z 3;have z4:=ab z 4;have z5:=ab z 5;have bO:=Z ax;clear z ax cP;refine Dl 8 ?_;go_wp2_with fail;refine bodyPost_ret (v:=.agg #[J U r1,J U r2,J U (v.emod 6),J h1 R.kind.toNat,J h1 R.level.toNat,fn al R.fields.length ao]) (by rw[cX rfl];go_simp) rfl ?_;obtain⟨E,a0⟩:=Qe ((((((w9.setCell ⟨w.heap.size+1,0,Y⟩ (J U r1)).setCell ⟨w.heap.size+1,1,Y⟩ (J U r2)).setCell ⟨w.heap.size+1,2,Y⟩ (J U (v.emod 6))).setCell ⟨w.heap.size+1,3,Y⟩ (J h1 R.kind.toNat)).setCell ⟨w.heap.size+1,4,Y⟩ (J h1 R.level.toNat)).setCell ⟨w.heap.size+1,5,Y⟩ (fn al R.fields.length ao));have cd:∀k,k≠w.heap.size+1->E.heap[k]?=w9.heap[k]?:=λk F=>by rw[<- a0,iP _ _ _ _ F,iP _ _ _ _ F,iP _ _ _ _ F,iP _ _ _ _ F,iP _ _ _ _ F,iP _ _ _ _ F]
 have e8:E.heap.size=w9.heap.size:=by rw[<- a0];simp
 have c8:Below w.heap.size w9 E:=by rw[<- a0];exact((((((j3 _ w9).setCell (p:=⟨w.heap.size+1,0,Y⟩) (by simp) _).setCell (p:=⟨w.heap.size+1,1,Y⟩) (by simp) _).setCell (p:=⟨w.heap.size+1,2,Y⟩) (by simp) _).setCell (p:=⟨w.heap.size+1,3,Y⟩) (by simp) _).setCell (p:=⟨w.heap.size+1,4,Y⟩) (by simp) _).setCell (p:=⟨w.heap.size+1,5,Y⟩) (by simp) _
 rw[a0];refine⟨al,ao,rfl,?_,au.o.b.trans ((bO.o.mono (by have:=au.o.b.size;omega)).trans c8)⟩;have h:=da.o.kept (w':=E) (λq hq e7=>(cd q (by omega)).trans (bO.o.block q e7));exact h.mono (by omega) (by have:=bO.o.size;omega)
end
end Go.Proofs.YtjcimanddakkaaaGreatDoor
