/- Lemmas. -/
import Derived.Test.YtjcimanddakkaaaGreatDoorQ5
import Derived.Test.YtjcimanddakkaaaGreatDoorQ8
import Derived.Deep.CutBlock
import Derived.Great.Walk
set_option maxRecDepth 100000
set_option maxHeartbeats 8000000
namespace Go.Proofs.YtjcimanddakkaaaGreatDoor
open _root_.Option renaming some→X,none→Y
open Go.Value renaming slice→fn,int→J,pointer→hr,bool→hK
open Go.Obj renaming cells→gs
open Go.IntKind renaming u8→hb,i64→U
open Go.Ending renaming returned→hk
open Go.Lib renaming hid→Z
open Tryz
open Go.RowKit.Below renaming heap_setCell→iv,refl→jj,heap_alloc→jn
open _root_.List renaming setIfInBounds_toArray→iD,set_cons_zero→iF,set_cons_succ→iN,eq_nil_of_length_eq_zero→j0,getElem_mem→j3,flatMap_cons→ka,getD_eq_getElem?_getD→kb,mem_singleton→kk,length_append→ko
open Go.Calls renaming mono→iP
open Go.Obj renaming cells→iQ
open Go renaming World→iS,Value→ja,wpList_buildTo→kl,Calls→kz,info_parts→k1
open Go.World renaming alloc_heap_new→jb,frozen?_of_block→j4,cell?_setCell_other→kc,cell?_of_block→kn,cell?→kv
open _root_.Nat renaming le_refl→j1,zero_add→ks,le_trans→kt,zero_mul→k0
open Go.Value renaming ownBlock→j2,oneCell'→ky
open _root_.Int renaming emod_lt_of_pos→kq
open _root_.Or renaming inl→kx
open Go.Builtin renaming append_→k2
section
open Go.RowKit
theorem gT {lo:Nat} {g:Option Nat} {w:iS} {d:ja} {a:List cB} (h:w.ownsRow lo 120 2 d a.length (a.flatMap subCells)) (l:∀k,d.ownBlock=X k->g≠X k):bm lo g w d a:=by
 rcases h.2 with ⟨rfl,e⟩|⟨b,n,o,rfl,i,p,q⟩
 · have:a=[]:=j0 e;subst this;exact ⟨Y,0,rfl,λh=>absurd rfl h⟩
 · have m:=h.lt b (by simp [j2]);refine ⟨_,_,rfl,λ_=>⟨b,0,rfl,i,m.2,l b (by simp [j2]),λj x c=>?_⟩⟩;have f:=h.cellAt j (by have:=(List.getElem?_eq_some_iff.1 c).1;rw [h.1] at this;exact this);rw [ks,f];exact c
theorem cD {w w':iS} {B:Nat} {e:TypeId} {k:Nat} {v:ja} {n:Nat} {b:List ja} (h:w.ownsRow B e k v n b) (j:∀g,v.ownBlock=X g->w'.heap[g]? =w.heap[g]?):w'.ownsRow B e k v n b:=by
 refine ⟨h.1,?_⟩;rcases h.2 with l|⟨g,c,d,a,f,i,m⟩
 · exact .inl l
 · exact .inr ⟨g,c,d,a,f,by rw [j g (by rw [a];simp [j2])];exact i,m⟩
structure et (lo:Nat) (w:iS) (v:ja) (fs:List af):Prop where
 ex:∃ps:List (af×ja),ps.map (·.1)=fs/\w.ownsRow lo 123 4 v fs.length (ps.flatMap fieldCells)/\
  (∀p∈ps,w.ownsRow lo 120 2 p.2 p.1.subs.length (p.1.subs.flatMap subCells)/\∃g,p.2.ownBlock=some g/\v.ownBlock≠some g)/\ps.Pairwise (λp q=>p.2.ownBlock≠q.2.ownBlock)
theorem et.nil (lo:Nat) (w:iS):et lo w (fn Y 0 0) []:=⟨⟨[],rfl,World.ownsRow_nil _ _ _ _,by simp, .nil⟩⟩
theorem et.toRec {lo:Nat} {w:iS} {v:ja} {b:List af} (h:et lo w v b):bK lo w v b:=by
 obtain ⟨ps,h1,f,c,_⟩:=h.ex;refine ⟨⟨ps,h1,λp d=>gT (c p d).1 (λk a e=>?_),f⟩⟩;obtain ⟨g,i,j⟩:=(c p d).2;rw [i] at a;injection a with a
 subst a;exact j e
theorem et.keep {lo:Nat} {w w':iS} {v:ja} {d:List af} (h:et lo w v d) (f:Bw w w'):et lo w' v d:=by
 obtain ⟨ps,h1,e,a,i⟩:=h.ex;exact ⟨⟨ps,h1,cD e (λg b=>f.block g (e.lt g b).2),λp c=>⟨cD (a p c).1 (λg b=>f.block g ((a p c).1.lt g b).2),(a p c).2⟩,i⟩⟩
theorem et.far {lo:Nat} {w w':iS} {v:ja} {e:List af} (h:et lo w v e) (f:∀k,lo<=k->k<w.heap.size->w'.heap[k]? =w.heap[k]?):et lo w' v e:=by
 obtain ⟨ps,h1,d,b,i⟩:=h.ex;exact ⟨⟨ps,h1,cD d (λg a=>f g (d.lt g a).1 (d.lt g a).2),λp c=>⟨cD (b p c).1 (λg a=>f g ((b p c).1.lt g a).1 ((b p c).1.lt g a).2),(b p c).2⟩,i⟩⟩
theorem et.app {lo:Nat} {w1 l:iS} {v h:ja} {m:List af} (f:af) (d:ja) (ps:List (af×ja)) (h1:ps.map (·.1)=m)
 (w:∀p∈ps,w1.ownsRow lo 120 2 p.2 p.1.subs.length (p.1.subs.flatMap subCells)/\∃g,p.2.ownBlock=X g/\v.ownBlock≠X g) (y:ps.Pairwise (λp q=>p.2.ownBlock≠q.2.ownBlock))
 (z:w1.ownsRow lo 120 2 d f.subs.length (f.subs.flatMap subCells)) (i:Nat) (o:d.ownBlock=X i) (D:v.ownBlock≠X i) (F:∀p∈ps,p.2.ownBlock≠X i)
 (H:l.ownsRow lo 123 4 h (m.length+1) (ps.flatMap fieldCells++fieldCells (f,d))) (A:w1.grownBy l v.ownBlock) (b:h.ownBlock=v.ownBlock∨h.ownBlock=X w1.heap.size):et lo l h (m++[f]):=by
 have u:∀(x:ja) (c:List cB) (g:Nat),w1.ownsRow lo 120 2 x c.length (c.flatMap subCells)->x.ownBlock=X g->v.ownBlock≠X g->l.ownsRow lo 120 2 x c.length (c.flatMap subCells)/\∃g,x.ownBlock=X g/\h.ownBlock≠X g:=by
  intro x c g t n s;have E:=(t.lt g n).2;refine ⟨cD t (λk j=>?_),g,n,?_⟩
  · rw [n] at j;injection j with j;subst j
    exact A.block _ E (λe=>s e.symm)
  · rcases b with b|b
    · rw [b];exact s
    · rw [b];intro e;injection e with e;omega
 refine ⟨⟨ps++[(f,d)],by simp [h1],by simpa using H,?_,?_⟩⟩
 · intro p a;rcases List.mem_append.1 a with a|a
   · obtain ⟨G,g,B,C⟩:=w p a;exact u _ _ g G B C
   · simp at a;subst a;exact u _ _ i z o D
 · refine List.pairwise_append.2 ⟨y,by simp,λp a q r=>?_⟩;simp at r;subst r;rw [o];exact F p a
theorem xG (lo:Nat) (W:iS) (D:Nat) (d:ja) (c:List cB) (p:W.heap[D]? =X (gs #[] 120 (0,0))) (y:aD 0 W.heap.size W d c) (H:c.length<=1000000) (B:lo<=D):
 ∃(a:Addr) (e:Nat) (f:iS),(k2 #[121,121] 121 #[fn (X ⟨D,0,Y⟩) 0 0,d]).run prog W= .ok (fn (X a) c.length e) f/\f.ownsRow lo 120 2 (fn (X a) c.length e) c.length (c.flatMap subCells)/\W.grownBy f (X D)/\(a.block=D∨a.block=W.heap.size):=by
 obtain ⟨i,q,F,C,w⟩:=k1 Bg;have G:D<W.heap.size:=(Array.getElem?_eq_some_iff.1 p).1;have r:W.ownsRow lo 120 2 (fn (X ⟨D,0,Y⟩) 0 0) 0 []:=⟨by simp, .inr ⟨D,0, #[],rfl,B,p,j1 _,by unfold maxLen;omega,by simp,by simp⟩⟩;obtain ⟨a,e,rfl,h⟩:=y;by_cases h0:c=[]
 · subst h0;have E:Src prog i.size 121 (fn a 0 e) 0 [] W:=by
    cases a with
    |none=>exact Src.ofNil W underlying121 e
    |some a=>exact Src.ofSlice W underlying121 a 0 e [] (by simp) (by simp) (by simp)
   have n:=run_append_room_src (P:=prog) W 121 121 121 120 i underlying121 q D 0 0 0 (fn a 0 e) 0 [] E (by omega) (by simp) (by simp);exact ⟨_,_,_,n,r,⟨rfl,rfl,rfl,j1 _,λ_ _ _=>rfl⟩, .inl rfl⟩
 · obtain ⟨b,o,rfl,_,_,x⟩:=h (qg.2 h0)
   obtain ⟨I,f,n,m,v,_,k⟩:=run_append_own_at (P:=prog) W lo 121 121 120 i _ 2 24 underlying121 q F C w rfl (by omega) (fn (X ⟨D,0,Y⟩) 0 0) 0 [] r ⟨b,o,Y⟩ c.length e (c.flatMap subCells) (zu c)
    (λj u z=>by
     have:(⟨b,o,Y⟩:Addr).add j=⟨b,o+j,Y⟩:=by unfold Addr.add;split<;>simp_all
     rw [this];exact x j u z)
    (λu l=>by
     obtain ⟨s,_,l⟩:=List.mem_flatMap.1 l
     simp [subCells] at l
     rcases l with rfl|rfl<;>rfl) (by unfold maxLen;omega) (by omega) (by omega)
   rw [ks,List.nil_append] at m;have A:0<c.length:=List.length_pos_iff.2 h0;obtain ⟨g,t,rfl,_⟩:=World.ownsRow.form m A;refine ⟨⟨g,0,Y⟩,t,f,n,m,v,?_⟩;rcases k with k|k
   · left;simpa [j2] using k
   · right;simpa [j2] using k
structure dA (B:Nat) (w0 wr:iS) (kd lv:UInt8) (v:ja):Prop where
 below:Below B w0 wr
 big:B+2<=wr.heap.size
 z0:wr.cell? ⟨B,0,none⟩=some (.int .u8 0)
 z1:wr.cell? ⟨B,1,none⟩=some (.int .u8 0)
 z2:wr.cell? ⟨B,2,none⟩=some (.slice none 0 0)
 y0:wr.frozen? ⟨B,0,none⟩=false
 y1:wr.frozen? ⟨B,1,none⟩=false
 y2:wr.frozen? ⟨B,2,none⟩=false
 c0:wr.cell? ⟨B+1,0,none⟩=some (.int .u8 kd.toNat)
 c1:wr.cell? ⟨B+1,1,none⟩=some (.int .u8 lv.toNat)
 c2:wr.cell? ⟨B+1,2,none⟩=some v
 x0:wr.frozen? ⟨B+1,0,none⟩=false
 x1:wr.frozen? ⟨B+1,1,none⟩=false
 x2:wr.frozen? ⟨B+1,2,none⟩=false
theorem dA.far {B:Nat} {f wr d:iS} {j l:UInt8} {v:ja} (h:dA B f wr j l v) (m:Below B f d) (g:∀k,k<B+2->d.heap[k]? =wr.heap[k]?) (n:B+2<=d.heap.size):dA B f d j l v:=by
 have a:∀b i,b<B+2->d.cell? ⟨b,i,Y⟩=wr.cell? ⟨b,i,Y⟩:=λb i e=>kn (g b e);have c:∀b i,b<B+2->d.frozen? ⟨b,i,Y⟩=wr.frozen? ⟨b,i,Y⟩:=λb i e=>j4 (g b e)
 exact ⟨m,n,by rw [a _ _ (by omega)];exact h.z0,by rw [a _ _ (by omega)];exact h.z1,by rw [a _ _ (by omega)];exact h.z2,
  by rw [c _ _ (by omega)];exact h.y0,by rw [c _ _ (by omega)];exact h.y1,by rw [c _ _ (by omega)];exact h.y2,by rw [a _ _ (by omega)];exact h.c0,by rw [a _ _ (by omega)];exact h.c1,by rw [a _ _ (by omega)];exact h.c2,
  by rw [c _ _ (by omega)];exact h.x0,by rw [c _ _ (by omega)];exact h.x1,by rw [c _ _ (by omega)];exact h.x2⟩
theorem dA.keep {B:Nat} {d wr e:iS} {b c:UInt8} {v:ja} (h:dA B d wr b c v) (a:Bw wr e):dA B d e b c v:=
 h.far (btr h.below a (by have:=h.big;omega)) (λk f=>a.block k (by have:=h.big;omega)) (kt h.big a.size)
theorem dA.put {B:Nat} {c wr:iS} {a b:UInt8} {v:ja} (h:dA B c wr a b v) (g j:Nat) (d:B+2<=g) (u:ja):dA B c (wr.setCell ⟨g,j,Y⟩ u) a b v:=
 h.far (h.below.setCell (by simp;omega) _) (λk e=>iv _ _ _ _ (by simp;omega)) (by simpa using h.big)
theorem dA.grown {B:Nat} {i wr c:iS} {d f:UInt8} {v:ja} (h:dA B i wr d f v) {g:Option Nat} (a:wr.grownBy c g) (l:∀k,g=X k->B+2<=k):dA B i c d f v:=by
 have b:∀k,k<B+2->c.heap[k]? =wr.heap[k]? :=λk b=>a.block k (Nat.lt_of_lt_of_le b h.big) (by intro e;have:=l k e.symm;omega);exact h.far ⟨a.os.trans h.below.os,a.tape.trans h.below.tape,a.output.trans h.below.output,kt h.below.size a.size,λk j=>(b k (by omega)).trans (h.below.block k j)⟩ b (kt h.big a.size)
theorem dA.set2 {B:Nat} {d wr:iS} {a b:UInt8} {v:ja} (h:dA B d wr a b v) (c:ja):dA B d (wr.setCell ⟨B+1,2,Y⟩ c) a b c:=by
 have f:=h.z0;have g:=h.z1;have i:=h.z2;have e:=h.c0;have c1:=h.c1;have c2:=h.c2;refine ⟨h.below.setCell (by simp) _,by simpa using h.big,?_,?_,?_,by rw [aG];exact h.y0,by rw [aG];exact h.y1,by rw [aG];exact h.y2,?_,?_,?_,by rw [aG];exact h.x0,by rw [aG];exact h.x1,by rw [aG];exact h.x2⟩;all_goals (clear h;go_simp)
theorem dA.set0 {B:Nat} {b wr:iS} {d a:UInt8} {v:ja} (h:dA B b wr d a v) (c:UInt8):dA B b (wr.setCell ⟨B+1,0,Y⟩ (J hb c.toNat)) c a v:=by
 have f:=h.z0;have g:=h.z1;have i:=h.z2;have e:=h.c0;have c1:=h.c1;have c2:=h.c2;refine ⟨h.below.setCell (by simp) _,by simpa using h.big,?_,?_,?_,by rw [aG];exact h.y0,by rw [aG];exact h.y1,by rw [aG];exact h.y2,?_,?_,?_,by rw [aG];exact h.x0,by rw [aG];exact h.x1,by rw [aG];exact h.x2⟩;all_goals (clear h;go_simp)
theorem dA.set1 {B:Nat} {b wr:iS} {a d:UInt8} {v:ja} (h:dA B b wr a d v) (c:UInt8):dA B b (wr.setCell ⟨B+1,1,Y⟩ (J hb c.toNat)) a c v:=by
 have f:=h.z0;have g:=h.z1;have i:=h.z2;have e:=h.c0;have c1:=h.c1;have c2:=h.c2;refine ⟨h.below.setCell (by simp) _,by simpa using h.big,?_,?_,?_,by rw [aG];exact h.y0,by rw [aG];exact h.y1,by rw [aG];exact h.y2,?_,?_,?_,by rw [aG];exact h.x0,by rw [aG];exact h.x1,by rw [aG];exact h.x2⟩;all_goals (clear h;go_simp)
theorem zt (ps:List (af×ja)):∀(m i:Nat) (u:ja) (q:af×ja) (a:m<ps.length),i<4->(fieldCells ps[m]).set i u=fieldCells q->(ps.flatMap fieldCells).set (m * 4+i) u=(ps.set m q).flatMap fieldCells:=by
 induction ps with
 |nil=>intro m i u q a;simp at a
 |cons p ps ih=>
  intro m i u q a d b;cases m with
  |zero=> simp only [List.getElem_cons_zero] at b;rw [ka,List.set_append_left _ _ (by simp [fieldCells];omega),k0,ks,b];rfl
  |succ m=>
   simp only [List.getElem_cons_succ] at b;have c:(fieldCells p).length=4:=by simp [fieldCells]
   rw [ka,List.set_append_right _ _ (by rw [c];omega),c,show (m+1) * 4+i - 4=m * 4+i from by omega,ih m i u q (by simpa using a) d b];rfl
theorem zv (ps:List (af×ja)):∀(m i:Nat) (a:m<ps.length),i<4->(ps.flatMap fieldCells)[m * 4+i]? =(fieldCells ps[m])[i]? :=by
 induction ps with
 |nil=>intro m i a;simp at a
 |cons p ps ih=>
  intro m i a c;have b:(fieldCells p).length=4:=by simp [fieldCells]
  cases m with
  |zero=>rw [ka,List.getElem?_append_left (by rw [b];omega),k0,ks];rfl
  |succ m=>rw [ka,List.getElem?_append_right (by rw [b];omega),b,show (m+1) * 4+i - 4=m * 4+i from by omega,ih m i (by simpa using a) c];rfl
theorem ue {lo:Nat} {w:iS} {g c n:Nat} {ps:List (af×ja)} (h:w.ownsRow lo 123 4 (fn (X ⟨g,0,Y⟩) n c) n (ps.flatMap fieldCells)) (m:Nat) (b:m<ps.length):
 w.cell? ⟨g,m * 4,Y⟩=X (S ps[m].1.tag)/\w.cell? ⟨g,m * 4+1,Y⟩=X (S ps[m].1.ind)/\w.cell? ⟨g,m * 4+2,Y⟩=X (S ps[m].1.data)/\w.cell? ⟨g,m * 4+3,Y⟩=X ps[m].2/\
  ∀i,w.frozen? ⟨g,i,Y⟩=false:=by
 have e:(ps.flatMap fieldCells).length=ps.length * 4:=by
  clear h b;induction ps with
  |nil=>rfl
  |cons p ps ih=>rw [ka,ko,ih];simp [fieldCells];omega
 have f:n * 4=ps.length * 4:=by rw [<- e];exact h.1.symm
 have a:∀i,i<4->w.cell? ⟨g,m * 4+i,Y⟩=(fieldCells ps[m])[i]? :=λi d=>by rw [h.cellAt (m * 4+i) (by omega),zv ps m i b d]
 exact ⟨a 0 (by omega),a 1 (by omega),a 2 (by omega),a 3 (by omega),λi=>h.frozenAt i⟩
theorem bK.put {lo:Nat} {w:iS} {g c n:Nat} (ps:List (af×ja)) (s:n=ps.length) (m i:Nat) (r:m<ps.length) (j:∀k (d:k<ps.length),k≠m->bm lo (X g) w ps[k].2 ps[k].1.subs) (l:w.ownsRow lo 123 4 (fn (X ⟨g,0,Y⟩) n c) n (ps.flatMap fieldCells))
 (o:i<4) (u:ja) (q:af×ja) (v:(fieldCells ps[m]).set i u=fieldCells q) (y:bm lo (X g) w q.2 q.1.subs):
 bK lo (w.setCell ⟨g,m * 4+i,Y⟩ u) (fn (X ⟨g,0,Y⟩) n c) ((ps.set m q).map (·.1)):=by
 have f:∀x b,bm lo (X g) w x b->bm lo (X g) (w.setCell ⟨g,m * 4+i,Y⟩ u) x b:=λx b h=>
  h.step (λk _ _ a=>iv _ _ _ _ (by intro e;exact a (by rw [e]))) (by simp) (.inl rfl)
 refine ⟨⟨ps.set m q,rfl,λp t=>?_,?_⟩⟩
 · obtain ⟨k,d,rfl⟩:=List.getElem_of_mem t;rw [List.getElem_set];split
   · exact f _ _ y
   · rename_i a;exact f _ _ (j k (by simpa using d) (λe=>a e.symm))
 · have:=(l.stored (m * 4+i) u).1;rw [zt ps m i u q r o v] at this;simpa [s] using this
theorem cK (f:af):(fieldBytes f).length=f.data.length+f.ind.length+(f.subs.flatMap aU).length+1:=by simp [fieldBytes];omega
theorem Cc {B:Nat} {q wr a r:iS} {t u:UInt8} {v c:ja} {m:List af} (o:Obj) (f:af) (d:ja) (j:Nat) (D:dA B q wr t u v) (O:et (B+2) wr v m)
 (K:Below B q a) (h:∀k,k<wr.heap.size->a.heap[k]? =wr.heap[k]?) (hz:wr.heap.size<=a.heap.size) (C:a.ownsRow (B+2) 120 2 d f.subs.length (f.subs.flatMap subCells)) (M:d.ownBlock=X j) (a5:wr.heap.size<=j)
 (w:List ja) (W:wr.ownsRow (B+2) 123 4 v m.length w) (P:r.ownsRow (B+2) 123 4 c (m.length+1) (w++fieldCells (f,d))) (b:(a.alloc o).grownBy r v.ownBlock)
 (T:c.ownBlock=v.ownBlock∨c.ownBlock=X (a.alloc o).heap.size):
 dA B q (r.setCell ⟨B+1,2,Y⟩ c) t u c/\et (B+2) (r.setCell ⟨B+1,2,Y⟩ c) c (m++[f]):=by
 have a4:=D.big;have N:dA B q a t u v:=D.far K (λk a6=>h k (by omega)) (by omega);obtain ⟨ps,h1,A,n,I⟩:=O.ex;have V:w=ps.flatMap fieldCells:=by
  have y:=W;have z:=A;rcases y.2 with ⟨_,H⟩|⟨g,a0,a2,rfl,_,L,_,_,_,Q⟩
  · have F:=y.1;have G:=z.1;rw [H,k0] at F G;rw [j0 F,j0 G]
  · rcases z.2 with ⟨s,_⟩|⟨g',a1,a3,s,_,i,_,_,_,R⟩
    · cases s
    · injection s with ha _ _
      injection ha with ha
      injection ha with ha
      subst ha;rw [L] at i;injection i with i
      injection i with i
      subst i;rw [<- Q, <- R]
 subst V;have x:∀k,k<a.heap.size->(a.alloc o).heap[k]? =a.heap[k]? :=λk h=>jn a o k h;have E:∀g,v.ownBlock=X g->B+2<=g/\g<wr.heap.size:=λg b=>A.lt g b;refine ⟨((N.keep (aM a o)).grown b (λk h=>(E k h).1)).set2 c,?_⟩;refine (et.app f d ps h1 (λp l=>⟨cD (n p l).1 (λg b=>?_),(n p l).2⟩) I (cD C (λg b=>x g (C.lt g b).2)) j M (λe=>?_) (λp l e=>?_) P b T).far (λk h _=>iv _ _ _ _ (by simp;omega))
 · have:=((n p l).1.lt g b).2;rw [x g (by omega),h g this]
 · have:=(E j e).2;omega
 · have:=((n p l).1.lt j e).2;omega
theorem Cb {B:Nat} {i a b:iS} {g h:UInt8} {v:ja} {f:Option Nat} {o:Obj} (d:dA B i a g h v) (c:(a.alloc o).grownBy b f) (e:∀k,f=X k->B+2<=k):b.cell? ⟨B+1,2,Y⟩=X v/\b.frozen? ⟨B+1,2,Y⟩=false:=
 ⟨((d.keep (aM a o)).grown c e).c2,((d.keep (aM a o)).grown c e).x2⟩
attribute [local go_sem ↓] Go.wp_at_zero Go.wp_at_succ
theorem Bh {l:List Bs} {k:Nat} (h:k<l.length):l.getD k []∈l:=by
 rw [kb,List.getElem?_eq_getElem h];exact j3 h
theorem o8 (w:iS) (l:List Bs) (T:TypeId) (k:Nat) (h:k<l.length):(w.alloc (.cells (l.map S).toArray T)).cell? ⟨w.heap.size,k,Y⟩=X (S (l.getD k [])):=by
 have a:(w.alloc (.cells (l.map S).toArray T)).heap[w.heap.size]? =X (.cells (l.map S).toArray T (0,0)):=jb w _;rw [aa a];simp [kb,h]
theorem ln (n:Int) (M:Nat) (h:0<M):∃m:Nat,n.emod M=m/\m<M:=by
 have h1:0<=n.emod M:=Int.emod_nonneg n (by omega);have a:n.emod M<M:=kq n (by omega);exact ⟨(n.emod M).toNat,(Int.toNat_of_nonneg h1).symm,by omega⟩
theorem rP (n a:Int) (M m:Nat) (h1:1<=M) (c:M<=1000000) (b:a=M) (h:n.emod M=m) (W:iS):kz prog 24 #[J U n,J U a] W λe w'=>e=hk (J U (m:Int))/\W=w':=by
 subst b;refine (gV n M W (by omega) (by omega)).mono ?_;rintro e w' ⟨rfl,rfl⟩;rw [h];exact ⟨rfl,rfl⟩
theorem pG (l:List Bs) (n:Int) (M m:Nat) (a:l.length=M) (h:n.emod M=m):pick l n=l.getD m []:=by
 unfold pick;rw [a,h];rfl
theorem oV (z:Int):z%256=((u8I z).toNat:Int):=by
 unfold u8I;have h1:0<=z%256:=Int.emod_nonneg z (by omega);have b:z%256<256:=kq z (by omega);have a:z.emod 256=z%256:=rfl;rw [a,UInt8.toNat_ofNat',Nat.mod_eq_of_lt (by omega)];omega
theorem yo (z:Int):IntKind.u8.wrap z=((u8I z).toNat:Int):=by rw [IntKind.wrap_u8];exact oV z
theorem tL {ps:List (af×ja)} {a:List af} (h:ps.map (·.1)=a) (m:Nat) (j:m<ps.length) (g:af->af) (b:af) (c:ja) (f:g ps[m].1=b):(ps.set m (b,c)).map (·.1)=a.modify m g:=by
 rw [List.map_set,h];have l:m<a.length:=by rw [<- h,List.length_map];exact j
 have e:a[m]=ps[m].1:=by simp [<- h]
 refine List.ext_getElem (by simp) (λi h1 k=>?_);rw [List.getElem_set,List.getElem_modify];split
 · rename_i d;subst d;rw [e,f]
 · rfl
theorem vT (w:iS) (x y:ja) (t:TypeId):∀j v,[x,y][j]? =X v->(w.alloc (gs #[x,y] t)).cell? ((⟨w.heap.size,0,Y⟩:Addr).add j)=X v:=by
 intro j v a;match j,a with
 |0,a=>simp at a;subst a;simp [Addr.add]
 |1,a=>simp at a;subst a;simp [Addr.add]
theorem oQ {w:iS} {b:Array Oper} {c:List Oper} {o:Oper} {a:Act} {Q:Exit->Act->iS->Prop} (g:o.guard=Y) (d x:Operand)
 (i:o.op= .call {callee:= .builtin .append,args:= #[d,x],argTypes:= #[121,121]}) (l:o.type=121) (v u e:ja) (w':iS) (k:a.eval d=v) (m:a.eval x=u)
 (j:(k2 #[121,121] 121 #[v,u]).run prog w= .ok e w') (h:wpList prog b Q c (a.put o.dst e) w'):wpList prog b Q (o::c) a w:=by
 refine wpList_plain g λK f=>?_;unfold Oper.wp execOp;simp only [i,l,resolve,invoke,builtin,Sem.run_bind,Sem.run_pure,Result.andThen_ok,List.map_toArray,List.map_cons,List.map_nil,k,m,j];exact f _ _ h
abbrev recO (a b:UInt8) (v:ja):Obj:=iQ #[J hb a.toNat,J hb b.toNat,v] 62
abbrev numsO (a b c:Int):Obj:=iQ #[J U a,J U b,J U c] 162
abbrev Dc:Obj:=iQ #[J hb 0,J hb 0,fn Y 0 0] 62
theorem dA.init (w:iS) (a b:UInt8):dA w.heap.size w ((w.alloc Dc).alloc (recO a b (fn Y 0 0))) a b (fn Y 0 0):=by
 refine ⟨((jj _ w).alloc (j1 _) _).alloc (by simp) _,by simp,?_,?_,?_,?_,?_,?_,?_,?_,?_,?_,?_,?_⟩;all_goals go_simp
theorem CY (w:iS) (d e:UInt8) (v:ja) (a b c:Int) (W:iS) (h:Below (w.heap.size+2) ((w.alloc (recO d e v)).alloc (numsO a b c)) W):
 W.cell? ⟨w.heap.size,2,Y⟩=X v/\W.cell? ⟨w.heap.size+1,0,Y⟩=X (J U a)/\W.cell? ⟨w.heap.size+1,1,Y⟩=X (J U b)/\W.cell? ⟨w.heap.size+1,2,Y⟩=X (J U c):=by
 refine ⟨?_,?_,?_,?_⟩<;>(rw [h.cell (p:=⟨_,_,Y⟩) (by simp)];go_simp)
abbrev o0:Obj:=iQ #[S [],S [31],S [30],S [97,29,98],S [255],S [195],S [237,160,128],S [224,128,128],S [127],S [195,169],S [116,97,98,9]] 9
theorem bK.far {lo:Nat} {w w':iS} {v:ja} {a:List af} (h:bK lo w v a) (b:∀k,lo<=k->k<w.heap.size->w'.heap[k]? =w.heap[k]?) (c:w.heap.size<=w'.heap.size):bK lo w' v a:=h.keep b c
abbrev jS:Obj:=iQ #[S [48,48,48],S [50,52],S [50,52,53,53],S [50,52,97],S [],S [48,48,49],S [50,52,53]] 9
abbrev j9:Obj:=iQ #[S [],S [49],S [49,50,51],S [31,48],S [32,126],S [48,127]] 9
def vW (R:az) (B:Nat) (c b:iS):Prop:=∃(a:Option Addr) (vc:Nat),Hid (dA B c b R.kind R.level (fn a R.fields.length vc))/\Hid (bK (B+2) b (fn a R.fields.length vc) R.fields)
theorem vj {w d wr:iS} {B:Nat} {R:az} {v:ja} (h:Bw w d) (g:w.heap.size<=B) (k:dA B d wr R.kind R.level v) (b:bK (B+2) wr v R.fields) (e:Ending)
 (i:e=hk (.agg #[J hb R.kind.toNat,J hb R.level.toNat,v])):∃(c:Option Addr) (cb:Nat),e=hk (.agg #[J hb R.kind.toNat,J hb R.level.toNat,fn c R.fields.length cb])/\
  Bw w (((wr.setCell ⟨B,0,Y⟩ (J hb R.kind.toNat)).setCell ⟨B,1,Y⟩ (J hb R.level.toNat)).setCell ⟨B,2,Y⟩ v)/\
  ai w.heap.size (((wr.setCell ⟨B,0,Y⟩ (J hb R.kind.toNat)).setCell ⟨B,1,Y⟩ (J hb R.level.toNat)).setCell ⟨B,2,Y⟩ v).heap.size (((wr.setCell ⟨B,0,Y⟩ (J hb R.kind.toNat)).setCell ⟨B,1,Y⟩ (J hb R.level.toNat)).setCell ⟨B,2,Y⟩ v) (fn c R.fields.length cb) R.fields:=by
 obtain ⟨a,f,rfl⟩:=b.shape;refine ⟨a,f,i,(((btr h k.below g).setCell (by simp;omega) _).setCell (by simp;omega) _).setCell (by simp;omega) _,?_⟩;exact (b.keep (λj l _=>by rw [iv _ _ _ _ (by simp;omega),iv _ _ _ _ (by simp;omega),iv _ _ _ _ (by simp;omega)]) (by simp)).fields (by omega)
set_option linter.unusedSimpArgs false in
set_option maxHeartbeats 8000000 in
set_option maxRecDepth 100000 in
theorem tH (H C:UInt8) (r:List af) (sa:Option Addr) (ay:Nat) (n:Nat) (i6:n<=7) (q l:Int) (w:iS) (hf:ai 0 w.heap.size w (fn sa r.length ay) r) (hN:r.length<=5000) (hM:∀f∈r,(fieldBytes f).length<=50000):
 kz prog 84 #[.agg #[J hb H.toNat,J hb C.toNat,fn sa r.length ay], .agg #[J U (n:Int),J U q,J U l]] w λe w'=>∃(sb:Option Addr) (cb:Nat),
  e=hk (.agg #[J hb (spoilR ⟨H,C,r⟩ n q l).kind.toNat,J hb (spoilR ⟨H,C,r⟩ n q l).level.toNat, .slice sb (spoilR ⟨H,C,r⟩ n q l).fields.length cb])/\Bw w w'/\
  ai w.heap.size w'.heap.size w' (.slice sb (spoilR ⟨H,C,r⟩ n q l).fields.length cb) (spoilR ⟨H,C,r⟩ n q l).fields:=by
 obtain ⟨R,hR⟩:=Qe (spoilR ⟨H,C,r⟩ n q l);rw [hR];have HR:=Z hR;clear hR;obtain ⟨q0,dk⟩:∃q0:Int,(n:Int)=q0:=⟨_,rfl⟩;rw [dk];obtain ⟨mt,d6,fp⟩:=ln l 11 (by omega);have e7:Hid (textsL.getD mt []=pick textsL l):=(pG textsL l 11 mt rfl d6).symm;have g5:Hid (∀W,kz prog 24 #[J U l,J U 11] W λe w'=>e=hk (J U (mt:Int))/\W=w'):=rP l 11 11 mt (by omega) (by omega) rfl d6;have fz:Hid (∀W,kz prog 24 #[J U q0,J U 10] W λe w'=>e=hk (J U (n:Int))/\W=w'):=rP q0 10 10 n (by omega) (by omega) rfl (by show q0%10=n;omega);have hO:=Z dk;clear d6 dk;have HF:Hid (∀W,Bw w W->ai 0 w.heap.size W (fn sa r.length ay) r):=λW h=>hf.kept (aX h (j1 _));have HM:=Z hM;have HQ:Hid (∀W,Below (w.heap.size+2) ((w.alloc (recO H C (fn sa r.length ay))).alloc (numsO q0 q l)) W->_):=λW h=>CY w H C (fn sa r.length ay) q0 q l W h;obtain ⟨w0,b5⟩:∃w0,w0=((w.alloc (recO H C (fn sa r.length ay))).alloc (numsO q0 q l)):=⟨_,rfl⟩;have hy:w0.heap.size=w.heap.size+2:=by rw [b5];simp
 have HI:=dA.init w0 H C;rw [hy,b5] at HI;have HI:=Z HI;have b6:Hid (Bw w w0):=by rw [b5];exact ((jj _ w).alloc (j1 _) _).alloc (by simp) _
 rw [<- b5] at HQ;have gP:=Z b5;clear hf hM b5;go_enter func84,ntmps84;go_wp2_with fail
 go_loopw [6] (λi wr=>∃(k:Nat) (o:List af) (va:Option Addr) (O:Nat),i=J U k/\k<=r.length/\Hid (o=r.take k)/\Hid (o.length=k)/\o.length<=5000/\Hid (dA (w.heap.size+2) w0 wr H C (fn va o.length O))/\Hid (et (w.heap.size+2+2) wr (fn va o.length O) o)) (λi _=>r.length - (intOf i).toNat)
 case atStart=>exact ⟨0,[],Y,0,rfl,by omega,by simp [Hid],rfl,by simp,by rw [gP.o];exact HI,et.nil _ _⟩
 case round=>
  obtain ⟨k,o,va,O,rfl,j,ao,bT,f3,HH,HO⟩:=hrel;have V:=HH.below;obtain ⟨b2,c6,bk,ax⟩:=HQ wr V;have c7:=HH.big;by_cases hlt:k<r.length
  · obtain ⟨b,ia,em,d,hv,_,hX,hn,ho,ht,i8,dp⟩:=(HF.o _ (btr b6.o V (by omega))).field k hlt;cases hv;obtain ⟨f,cP⟩:=Qe (r[k]);have f1:=HM _ (j3 hlt);have g7:Hid (o++[f]=r.take (k+1)):=by rw [ao.o,List.take_succ_eq_append_getElem hlt,cP];rfl
    rw [cP] at hn ho ht dp f1;have dx:f.subs.length<=1000000:=by have:=cM f;omega
    clear cP;obtain ⟨z,A,rfl⟩:∃z A,d=fn z f.subs.length A:=by obtain ⟨a,c,h,_⟩:=dp;exact ⟨a,c,h⟩
    obtain ⟨W5,aS⟩:∃W5,W5=(wr.alloc (iQ #[S f.tag,S f.ind,S f.data,fn z f.subs.length A] 123)).alloc (iQ #[] 120):=⟨_,rfl⟩;have aT:Bw wr W5:=by rw [aS];exact ((jj _ wr).alloc (j1 _) _).alloc (by simp) _
    have f0:W5.heap.size=wr.heap.size+2:=by rw [aS];simp
    have es:W5.heap[wr.heap.size+1]? =X (gs #[] 120 (0,0)):=by rw [aS];have:=heap_alloc_new (wr.alloc (iQ #[S f.tag,S f.ind,S f.data,fn z f.subs.length A] 123)) (iQ #[] 120);simpa using this
    have eQ:W5.heap[wr.heap.size]? =X (iQ #[S f.tag,S f.ind,S f.data,fn z f.subs.length A] 123):=by rw [aS,jn _ _ _ (by simp)];exact heap_alloc_new _ _
    obtain ⟨B,G,y,dn,f6,au,gQ⟩:=xG (w.heap.size+2+2) W5 (wr.heap.size+1) (fn z f.subs.length A) f.subs es ((dp.kept (aX aT (by have:=b6.o.size;have:=V.size;omega))).mono (j1 _) (by rw [f0];have:=b6.o.size;have:=V.size;omega)) dx (by omega);have aC:y.heap[wr.heap.size]? =X (iQ #[S f.tag,S f.ind,S f.data,fn z f.subs.length A] 123):=by rw [au.block _ (by omega) (by intro e;injection e with e;omega)];exact eQ
    have e3:y.cell? ⟨wr.heap.size,3,Y⟩=X (fn z f.subs.length A):=by simp [kv,aC,iQ]
    have x3:y.frozen? ⟨wr.heap.size,3,Y⟩=false:=by simp [World.frozen?,aC,iQ]
    have e0:(y.setCell ⟨wr.heap.size,3,Y⟩ (fn (X B) f.subs.length G)).cell? ⟨wr.heap.size,0,Y⟩=X (S f.tag):=by rw [kc _ _ _ _ (by simp)];simp [kv,aC,iQ]
    have e1:(y.setCell ⟨wr.heap.size,3,Y⟩ (fn (X B) f.subs.length G)).cell? ⟨wr.heap.size,1,Y⟩=X (S f.ind):=by rw [kc _ _ _ _ (by simp)];simp [kv,aC,iQ]
    have e2:(y.setCell ⟨wr.heap.size,3,Y⟩ (fn (X B) f.subs.length G)).cell? ⟨wr.heap.size,2,Y⟩=X (S f.data):=by rw [kc _ _ _ _ (by simp)];simp [kv,aC,iQ]
    have e4:(y.setCell ⟨wr.heap.size,3,Y⟩ (fn (X B) f.subs.length G)).cell? ⟨wr.heap.size,3,Y⟩=X (fn (X B) f.subs.length G):=World.cell?_setCell_same _ _ _ e3;have bp:∀k,k<wr.heap.size->(y.setCell ⟨wr.heap.size,3,Y⟩ (fn (X B) f.subs.length G)).heap[k]? =wr.heap[k]? :=λk j=>by rw [iv _ _ _ _ (by simp;omega),au.block k (by omega) (by intro e;injection e with e;omega),aT.block k j]
    have hS:wr.heap.size+2<=(y.setCell ⟨wr.heap.size,3,Y⟩ (fn (X B) f.subs.length G)).heap.size:=by have:=au.size;simp;omega
    have cx:Below (w.heap.size+2) w0 (y.setCell ⟨wr.heap.size,3,Y⟩ (fn (X B) f.subs.length G)):=
     ⟨by rw [show (y.setCell ⟨wr.heap.size,3,Y⟩ (fn (X B) f.subs.length G)).os=y.os from rfl];exact au.os.trans (aT.os.trans V.os),au.tape.trans (aT.tape.trans V.tape),au.output.trans (aT.output.trans V.output),by have:=V.size;omega,
      λk j=>(bp k (by omega)).trans (V.block k j)⟩
    have eq:(y.setCell ⟨wr.heap.size,3,Y⟩ (fn (X B) f.subs.length G)).ownsRow (w.heap.size+2+2) 120 2 (fn (X B) f.subs.length G) f.subs.length (f.subs.flatMap subCells):=
     cD f6 (λg hg=>iv _ _ _ _ (by simp [j2] at hg;simp;omega))
    have f3:wr.heap.size<=B.block:=by omega
    obtain ⟨ps,_,bA,_⟩:=HO.ex;have er:(y.setCell ⟨wr.heap.size,3,Y⟩ (fn (X B) f.subs.length G)).ownsRow (w.heap.size+2+2) 123 4 (fn va o.length O) o.length (ps.flatMap fieldCells):=cD bA (λg hg=>bp g (bA.lt g hg).2);have cy:=HH.o.far cx (λk j=>bp k (by omega)) (by omega);have e5:=cy.c2;have gO:Hid (∀k,(Value.slice va o.length O).ownBlock=X k->w.heap.size+2+2<=k):=λk j=>(bA.lt k j).1;rw [aS] at dn;have ee:=Z dn;have bb:=Z bA;clear aS aT f0 es eQ aC dn f6 au gQ bA;go_upto_region 7 with (at_builtin;refine oQ rfl _ _ rfl rfl _ _ _ _ rfl rfl ee.o ?_)
    generalize (y.setCell ⟨wr.heap.size,3,Y⟩ (fn (X B) f.subs.length G))=w7 at *;have gf:=Z bp;have fy:=Z cx;have g6:=Z eq;have c3:=Z er;have I:=Z cy;obtain ⟨i0,hi,a8,a9,ac⟩:=k1 Cx;have HI:=Z hi;have b7:=Z a8;have b8:=Z a9;have b9:=Z ac;clear bp cx eq er cy hi a8 a9 ac ee;go_wp2_with (at_builtin;refine wpList_append_own_at _ rfl _ _ 60 rfl (w.heap.size+2+2) 123 i0 (.agg #[.string ⟨#[]⟩, .string ⟨#[]⟩, .string ⟨#[]⟩,fn Y 0 0]) 4 72 underlying60 HI.o b7.o b8.o b9.o rfl (by omega) (fn va o.length O) o.length _ rfl (c3.o.alloc _) ⟨w7.heap.size,0,Y⟩ 1 1 [S f.tag,S f.ind,S f.data,fn (X B) f.subs.length G] rfl rfl (vS _ _ _ _ _ _) (by simp [ky]) (by unfold maxLen;omega) (by omega) (by simp;omega) ?_;intro v' w8 dd N _ a1;obtain ⟨fr,ft,rfl⟩:=bF dd;have gn:=Z dd;have g8:=Z N;have fx:=Z a1;obtain ⟨e8,f8⟩:=Cb I.o N gO.o;clear dd N a1)
    go_roundw
    case rel=>
     have:=Cc _ f (fn (X B) f.subs.length G) B.block HH.o HO.o fy.o gf.o (by omega) g6.o rfl f3 _ bb.o gn.o g8.o fx.o;refine ⟨k+1,o++[f],fr,ft,by go_num,by omega,g7,by rw [ko,bT.o];rfl,by have:=bT.o;simp;omega,?_,?_⟩
     · simpa [Hid] using this.1
     · simpa [Hid] using this.2
    case measure=>simp [intOf];omega
  · have he:k=r.length:=by omega
    have hY:o.length<=5000:=by rw [bT.o];omega
    have gb:Hid (∀f∈o,(fieldBytes f).length<=50000):=λf hf=>HM.o f (by rw [ao.o] at hf;exact List.mem_of_mem_take hf);have bO:Hid (o=r):=by unfold Hid;rw [ao.o,List.take_of_length_le (by omega)]
    clear ao bT HF HM c6 bk ax;generalize wr=w4 at *;have ej:Hid ((w4.alloc o0).cell? ⟨w4.heap.size,mt,Y⟩=X (S (pick textsL l))):=by unfold Hid;rw [<- e7.o];exact o8 w4 textsL 9 mt fp
    have D:=Z (HH.keep (aM w4 o0));have bY:=Z (HO.keep (aM w4 o0));go_upto_region 9 with fail
    clear b2 j hlt he;generalize (w4.alloc o0)=w5 at *;obtain ⟨b2,c6,bk,ax⟩:=HQ w5 D.below;go_cut [9] (λt wx=>t=S (pick textsL l)/\wx=w5)
    case first=>
     have hx:=ej.o;have i4:(mt:Int)<11:=by omega
     go_wp2_with (go_at_call 24;((with_reducible refine iP (g5.o _) ?_);rintro e w' ⟨rfl,rfl⟩))
     go_meet;exact ⟨rfl,rfl⟩
    case rest=>
     obtain ⟨rfl,hw⟩:=hcut;obtain ⟨T,hT⟩:=Qe (pick textsL l);have hV:T.length<=10:=by
      rw [<- hT, <- e7.o];have:∀x∈textsL,x.length<=10:=by decide
      exact this _ (Bh fp)
     have cu:=Z hT;rw [hT];clear hT;subst hw;generalize wc=y at *;clear ej HH HO c7 V;have V:=D.below;have c7:=D.big;have c0:=D.c0;have c1:=D.c1;have c2:=D.c2;have x0:=D.x0;have z0:=D.z0;have z1:=D.z1;have z2:=D.z2;have y0:=D.y0;have y1:=D.y1;have y2:=D.y2;by_cases L:o.length=0
     · have hc:=oV q;obtain ⟨c,a0⟩:=Qe (u8I q);have a6:o=[]:=j0 L;have bc:Hid (R=⟨c,C,[]⟩):=by unfold Hid;rw [<- HR.o, <- bO.o,a6, <- a0];rfl
       rw [a0] at hc;subst a6;have hh:=D.set0 c;have E:=bY.o.toRec.far (w':=y.setCell ⟨w.heap.size+2+1,0,Y⟩ (J hb c.toNat)) (λk j _=>iv _ _ _ _ (by simp;omega)) (by simp);have gc:=Z hh;have gx:=Z E;clear hh E;clear a0;go_wp2_with fail
       all_goals
        refine bodyPost_ret (v:= .agg #[J hb c.toNat,J hb C.toNat,fn va 0 O]) (by simp only [results,Tryz.results84];go_simp) rfl ?_
        rw [bc.o]
        exact vj b6.o (by omega) gc.o gx.o _ rfl
     · have ch:0<o.length:=by omega
       obtain ⟨g,hP,hu,f2,ha⟩:∃g em,Value.slice va o.length O=fn (X ⟨g,0,Y⟩) o.length em/\w.heap.size+2+2<=g/\g<y.heap.size:=by obtain ⟨_,_,h2,_⟩:=bY.ex;exact h2.form ch
       cases hu;clear x0 z0 z1 z2 y0 y1 y2 c0 c1;go_upto_region 13 with fail
       obtain ⟨m,d5,hm⟩:=ln q o.length (by omega);have g4:Hid (∀W,kz prog 24 #[J U q,J U (o.length:Int)] W λe w'=>e=hk (J U (m:Int))/\W=w'):=rP q _ o.length m (by omega) (by omega) rfl d5;have gi:=Z d5;clear d5;go_cut [10] (λt wx=>t=hr (X ⟨g,m * 4,Y⟩)/\Bw y wx)
       case first=>
        have t1:(0:Int)<=0:=by omega
        go_region_held3 (λw'=>w'.cell? ⟨w.heap.size+2+1,2,Y⟩=X (fn (X ⟨g,0,Y⟩) o.length O)/\w'.cell? ⟨w.heap.size+1,1,Y⟩=X (J U q)) (go_keep)
         ((go_at_call 24;((with_reducible refine iP (g4.o _) ?_);rintro e w' ⟨rfl,rfl⟩)))
        go_wp2_with fail
        go_meet;exact ⟨by simp,(jj _ y).drew⟩
       case rest=>
        obtain ⟨rfl,c9⟩:=hcut;have I:=Z (D.keep c9);have c3:=Z (bY.keep c9);have hA:=c9.size;clear c2 b2 c6 bk ax D bY c9 V c7;generalize wc=w7 at *;have a7:g<w7.heap.size:=by omega
        clear hA ha;obtain ⟨b2,c6,bk,ax⟩:=HQ w7 I.below;obtain ⟨ps,b1,b3,b4,di⟩:=c3.ex;have ad:m<ps.length:=by rw [<- b1] at hm;simpa using hm
        have b0:o.length=ps.length:=by rw [<- b1];simp
        obtain ⟨t0,t1,t2,t3,tf⟩:=ue b3 m ad;obtain ⟨f,bs⟩:=Qe (ps[m].1);have f1:(fieldBytes f).length<=50000:=gb.o f (by rw [<- bs, <- b1];exact List.mem_map_of_mem (j3 ad));have hq:=b4 _ (j3 ad);rw [bs] at t0 t1 t2 hq;obtain ⟨d,cz⟩:=Qe (ps[m].2);rw [cz] at t3 hq;obtain ⟨⟨bB,gd,al,fc⟩⟩:Nonempty (w7.ownsRow (w.heap.size+2+2) 120 2 d f.subs.length (f.subs.flatMap subCells)/\_):=⟨hq⟩;obtain ⟨z,A,rfl⟩:=bF bB;have bb:Hid (ps[m]=(f,fn z f.subs.length A)):=Prod.ext bs cz;have eg:Hid (∀p∈ps,bm (w.heap.size+2+2) (X g) w7 p.2 p.1.subs):=λp hp=>gT (b4 p hp).1 (λk j e=>by obtain ⟨_,g2,h1,h2⟩:=b4 p hp;rw [h1] at j;injection j with j;subst j;exact h2 e);have cp:Hid (n≠0->n≠1->R=⟨H,C,o.modify m λf=>gM f n q l⟩):=λL h1=>by rw [<- HR.o, <- bO.o];unfold spoilR;have a6:o≠[]:=List.length_pos_iff.1 ch;have e:q.emod o.length=(m:Int):=gi.o;dsimp only;rw [if_neg a6,if_neg (by omega),if_neg (by omega),e];rfl
        have gp:Hid (n=0->R=⟨u8I l,C,o⟩):=λL=>by rw [<- HR.o, <- bO.o];unfold spoilR;have a6:o≠[]:=List.length_pos_iff.1 ch;dsimp only;rw [if_neg a6,if_pos (by omega)]
        have gq:Hid (n=1->R=⟨H,u8I l,o⟩):=λL=>by rw [<- HR.o, <- bO.o];unfold spoilR;have a6:o≠[]:=List.length_pos_iff.1 ch;dsimp only;rw [if_neg a6,if_neg (by omega),if_pos (by omega)]
        have cq:Hid (∀(Q:af) (d':ja),gM f n q l=Q->(ps.set m (Q,d')).map (·.1)=o.modify m λf=>gM f n q l):=λQ d' h4=>tL b1 m ad _ Q d' (by rw [bs];exact h4)
        have c4:Hid (∀(i:Nat) (u:ja) (Q:af) (d':ja),n≠0->n≠1->gM f n q l=Q->i<4->(fieldCells (f,fn z f.subs.length A)).set i u=fieldCells (Q,d')->bm (w.heap.size+2+2) (X g) w7 d' Q.subs->∀W:iS,Bw w7 W->
         vW R (w.heap.size+2) w0 (W.setCell ⟨g,m * 4+i,Y⟩ u)):=by
         intro i u Q d' d7 d8 ds hi hc hs W hW
         have fl:∀x ss,bm (w.heap.size+2+2) (X g) w7 x ss->bm (w.heap.size+2+2) (X g) W x ss:=λx ss h=>h.step (λk _ j _=>hW.block k j) hW.size (.inl rfl)
         have E:=bK.put (w:=W) ps b0 m i ad (λk j _=>fl _ _ (eg.o _ (j3 j))) (cD b3 (λg' a4=>hW.block g' (b3.lt g' a4).2)) hi u (Q,d') (by rw [bb.o];exact hc) (fl _ _ hs)
         have bw:((ps.set m (Q,d')).map (·.1)).length=o.length:=by simp [b0]
         rw [cp.o d7 d8, <- cq.o Q d' ds]
         refine ⟨X ⟨g,0,Y⟩,O,?_,?_⟩
         · rw [bw];exact (I.o.keep hW).put g _ f2 u
         · rw [bw];exact E
        have ao:Hid (∀(dy dz:UInt8) (W:iS),R=⟨dy,dz,o⟩->dA (w.heap.size+2) w0 W dy dz (fn (X ⟨g,0,Y⟩) o.length O)->(∀k,w.heap.size+2+2<=k->k<w7.heap.size->W.heap[k]? =w7.heap[k]?)->w7.heap.size<=W.heap.size->vW R (w.heap.size+2) w0 W):=
         λdy dz W E hh j hz=>by rw [E];exact ⟨_,O,hh,c3.o.toRec.far j hz⟩
        have ca:g≠gd:=λe=>fc (by rw [e];rfl);have h8:=bB.lt gd al;have cs:=Z (gT (g:=X g) bB (λk j e=>by rw [al] at j;injection j with j;subst j;exact fc e))
        have e6:Hid (∀(s:cB) (v':ja) (F W:iS),n≠0->n≠1->gM f n q l={f with subs:=f.subs++[s]}->Bw w7 W->F.ownsRow (w.heap.size+2+2) 120 2 v' (f.subs.length+1) (f.subs.flatMap subCells++subCells s)->W.grownBy F (X gd)->(v'.ownBlock=X gd∨v'.ownBlock=X W.heap.size)->
         vW R (w.heap.size+2) w0 (F.setCell ⟨g,m * 4+3,Y⟩ v')/\F.cell? ⟨g,m * 4+3,Y⟩=X (fn z f.subs.length A)/\F.frozen? ⟨g,m * 4+3,Y⟩=false):=by
         intro s v' F W d7 d8 ds hW hl N a1
         have hz:=hW.size
         have cg:∀k,k<w7.heap.size->k≠gd->F.heap[k]? =w7.heap[k]? :=λk j d9=>by rw [N.block k (by omega) (by intro e;injection e with e;exact d9 e),hW.block k j]
         have f7:=List.pairwise_iff_getElem.1 di
         have E:=bK.put (w:=F) ps b0 m 3 ad (λk j d9=>?_) (cD b3 (λg' a4=>?_)) (by omega) v' ({f with subs:=f.subs++[s]},v') (by rw [bb.o];rfl) ?_
         · have bw:((ps.set m ({f with subs:=f.subs++[s]},v')).map (·.1)).length=o.length:=by simp [b0]
           have h9:F.cell? ⟨g,m * 4+3,Y⟩=w7.cell? ⟨g,m * 4+3,Y⟩:=kn (cg g a7 ca)
           have f9:F.frozen? ⟨g,m * 4+3,Y⟩=w7.frozen? ⟨g,m * 4+3,Y⟩:=j4 (cg g a7 ca)
           rw [cp.o d7 d8, <- cq.o _ v' ds]
           refine ⟨⟨X ⟨g,0,Y⟩,O,?_,?_⟩,by rw [h9];exact t3,by rw [f9];exact tf _⟩
           · rw [bw];exact ((I.o.keep hW).grown N (λk j=>by injection j with j;subst j;exact h8.1)).put g _ f2 v'
           · rw [bw];exact E
         · obtain ⟨f4,g2,cd,hd⟩:=b4 _ (j3 j)
           have f5:ps[k].2.ownBlock≠ps[m].2.ownBlock:=by
            rcases Nat.lt_or_gt_of_ne d9 with h|h
            · exact f7 k m j ad h
            · exact (f7 m k ad j h).symm
           rw [bb.o,al,cd] at f5
           refine gT (cD f4 (λg' a4=>?_)) (λk' cc e=>?_)
           · rw [cd] at a4;injection a4 with a4;subst a4
             exact cg _ (f4.lt _ cd).2 (λe=>f5 (by rw [e]))
           · rw [cd] at cc;injection cc with cc;subst cc
             exact hd e
         · have:g'=g:=by simpa [j2] using a4.symm
           subst this
           exact cg _ a7 ca
         · refine gT (by simpa [List.flatMap_append] using hl) (λk j e=>?_)
           injection e with e
           subst e
           rcases a1 with a1|a1
           · rw [a1] at j;injection j with j;exact ca j.symm
           · rw [a1] at j;injection j with j;omega
        have cm:=Z bB;have hG:=Z b1;have hH:=Z b3;have hJ:=Z b4;have hL:=Z di;have hF:=Z b0;clear hq bB b1 b3 b4 di bs cz eg b0 cp cq;have c0:=I.c0;have c1:=I.c1;have c2:=I.c2;have x0:=I.x0;have x1:=I.x1;have x2:=I.x2;have c7:=I.big;go_upto_block 2 with (go_at_call 24;((with_reducible refine iP (fz.o _) ?_);rintro e w' ⟨rfl,rfl⟩))
        go_cut [] (λwx=>vW R (w.heap.size+2) w0 wx)
        case first=>
         have h3:n=0∨n=1∨n=2∨n=3∨n=4∨n=5∨n=6∨n=7:=by omega
         rcases h3 with rfl|rfl|rfl|rfl|rfl|rfl|rfl|rfl
         · have hc:=oV l;have E:=gp rfl;obtain ⟨c,a0⟩:=Qe (u8I l);rw [a0] at hc E;have bc:=Z E;clear a0 E;go_wp2_with fail
           go_meet;exact ao.o c C _ bc.o (I.o.set0 c) (λk j _=>iv _ _ _ _ (by simp;omega)) (by simp)
         · have hc:=oV l;have E:=gq rfl;obtain ⟨c,a0⟩:=Qe (u8I l);rw [a0] at hc E;have bc:=Z E;clear a0 E;go_wp2_with fail
           go_meet;exact ao.o H c _ bc.o (I.o.set1 c) (λk j _=>iv _ _ _ _ (by simp;omega)) (by simp)
         · obtain ⟨k7,d4,hC⟩:=ln l 7 (by omega);have gz:Hid ((w7.alloc jS).cell? ⟨w7.heap.size,k7,Y⟩=X (S (pick iV l))):=by unfold Hid;rw [pG iV l 7 k7 rfl d4];exact o8 w7 iV 9 k7 hC
           have g1:Hid (∀W,kz prog 24 #[J U l,J U 7] W λe w'=>e=hk (J U (k7:Int))/\W=w'):=rP l 7 7 k7 (by omega) (by omega) rfl d4;have i1:(k7:Int)<7:=by omega
           clear d4;have h5:(w7.alloc jS).cell? ⟨g,m * 4,Y⟩=X (S f.tag):=by rw [aV _ _ _ _ a7];exact t0
           have h6:(w7.alloc jS).frozen? ⟨g,m * 4,Y⟩=false:=by rw [j4 (w:=w7) (jn _ _ _ a7)];exact tf _
           have cQ:Bw w7 (w7.alloc jS):=aM _ _;have h7:(w7.alloc jS).cell? ⟨w.heap.size+1,2,Y⟩=X (J U l):=by rw [aV _ _ _ _ (by omega)];exact ax
           go_wp2_with fail
           generalize (w7.alloc jS)=w8 at *;((with_reducible refine iP (g1.o _) ?_);rintro e w' ⟨rfl,rfl⟩;have hI:=gz.o)
           go_wp2_with fail
           go_meet;exact c4.o 0 (S (pick iV l)) {f with tag:=pick iV l} (fn z f.subs.length A) (by omega) (by omega) rfl (by omega) rfl cs.o _ cQ
         · have e1:=cK f;have i7:¬9223372036854775807<f.data.length+T.length:=by omega
           have ib:=tf (m * 4+2);go_wp2_with fail
           go_meet;exact c4.o 2 (S (f.data++T)) {f with data:=f.data++T} (fn z f.subs.length A) (by omega) (by omega) (by rw [<- cu.o];rfl) (by omega) rfl cs.o _ (jj _ _)
         · obtain ⟨k6,d3,hB⟩:=ln l 6 (by omega);have gy:Hid ((w7.alloc j9).cell? ⟨w7.heap.size,k6,Y⟩=X (S (pick gZ l))):=by unfold Hid;rw [pG gZ l 6 k6 rfl d3];exact o8 w7 gZ 9 k6 hB
           have g0:Hid (∀W,kz prog 24 #[J U l,J U 6] W λe w'=>e=hk (J U (k6:Int))/\W=w'):=rP l 6 6 k6 (by omega) (by omega) rfl d3;have hZ:(k6:Int)<6:=by omega
           clear d3;have h5:(w7.alloc j9).cell? ⟨g,m * 4+1,Y⟩=X (S f.ind):=by rw [aV _ _ _ _ a7];exact t1
           have h6:(w7.alloc j9).frozen? ⟨g,m * 4+1,Y⟩=false:=by rw [j4 (w:=w7) (jn _ _ _ a7)];exact tf _
           have cQ:Bw w7 (w7.alloc j9):=aM _ _;have h7:(w7.alloc j9).cell? ⟨w.heap.size+1,2,Y⟩=X (J U l):=by rw [aV _ _ _ _ (by omega)];exact ax
           go_wp2_with fail
           generalize (w7.alloc j9)=w8 at *;((with_reducible refine iP (g0.o _) ?_);rintro e w' ⟨rfl,rfl⟩;have hI:=gy.o)
           go_wp2_with fail
           go_meet;exact c4.o 1 (S (pick gZ l)) {f with ind:=pick gZ l} (fn z f.subs.length A) (by omega) (by omega) rfl (by omega) rfl cs.o _ cQ
         · have it:=tf (m * 4+3);go_wp2_with fail
           go_meet;exact c4.o 3 (fn Y 0 0) {f with subs:=[]} (fn Y 0 0) (by omega) (by omega) rfl (by omega) rfl ⟨Y,0,rfl,λh=>absurd rfl h⟩ _ (jj _ _)
         · have a0:=yo q;have g3:=Z a0;clear a0;obtain ⟨i0,hi,a8,a9,ac⟩:=k1 Bg;have HI:=Z hi;have b7:=Z a8;have b8:=Z a9;have b9:=Z ac;clear hi a8 a9 ac;have dx:=cM f;have P:Hid (∀W,Bw w7 W->(λw':iS=>w'.cell? ⟨g,m * 4+3,Y⟩=X (fn z f.subs.length A)/\w'.cell? ⟨w.heap.size+1,1,Y⟩=X (J U q)) W):=λW hW=>⟨by rw [hW.cell (p:=⟨g,_,Y⟩) a7];exact t3,by rw [hW.cell (p:=⟨w.heap.size+1,_,Y⟩) (by simp;omega)];exact bk⟩;have a2:Hid (Bw w7 w7.drew):=(jj _ w7).drew;have bD:Hid (Bw w7 (w7.alloc (iQ #[J hb (IntKind.u8.wrap q),S T] 120)).drew):=(aM _ _).drew;go_wp2_with fail
           refine wT (λw':iS=>w'.cell? ⟨g,m * 4+3,Y⟩=X (fn z f.subs.length A)/\w'.cell? ⟨w.heap.size+1,1,Y⟩=X (J U q)) 14 ?_;refine bU (i:=0) (v:=?_) rfl (by kernel_rfl) (by kernel_rfl) (by kernel_rfl) (by kernel_rfl) (by decide) (λ_ _ _ h=>h) (P _ a2.o) (kx ⟨by rfl,?_⟩) ?_;rotate_left
           · intro w' h;obtain ⟨L,h1⟩:=h;go_simp;(first |done|rfl)
           (try simp only [Act.put,iD,iF,iN])
           refine bU (i:=1) (v:=?_) rfl (by kernel_rfl) (by kernel_rfl) (by kernel_rfl) (by kernel_rfl) (by decide) (λ_ _ _ h=>h) (P _ a2.o) (kx ⟨by rfl,?_⟩) ?_;rotate_left
           · intro w' h;obtain ⟨L,h1⟩:=h;go_simp;(first |done|rfl)
           (try simp only [Act.put,iD,iF,iN])
           refine bU (i:=2) (v:=?_) rfl (by kernel_rfl) (by kernel_rfl) (by kernel_rfl) (by kernel_rfl) (by decide) (λ_ _ _ h=>h) (P _ a2.o) (kx ⟨by rfl,?_⟩) ?_;rotate_left
           · intro w' h;obtain ⟨L,h1⟩:=h;go_simp;(first |done|rfl)
           (try simp only [Act.put,iD,iF,iN])
           refine bU (i:=3) (v:=?_) rfl (by kernel_rfl) (by kernel_rfl) (by kernel_rfl) (by kernel_rfl) (by decide) (λ_ _ _ h=>h) (P _ a2.o) (kx ⟨by rfl,?_⟩) ?_;rotate_left
           · intro w' h;obtain ⟨L,h1⟩:=h;go_simp;(first |done|rfl)
           (try simp only [Act.put,iD,iF,iN])
           refine bU (i:=4) (v:=?_) rfl (by kernel_rfl) (by kernel_rfl) (by kernel_rfl) (by kernel_rfl) (by decide) (λ_ _ _ h=>h) (P _ a2.o) (kx ⟨by rfl,?_⟩) ?_;rotate_left
           · intro w' h;obtain ⟨L,h1⟩:=h;go_simp;(first |done|rfl)
           (try simp only [Act.put,iD,iF,iN])
           refine bU (i:=5) (v:=?_) rfl (by kernel_rfl) (by kernel_rfl) (by kernel_rfl) (by kernel_rfl) (by decide) (λ_ _ _ h=>h) (P _ a2.o) (kx ⟨by rfl,?_⟩) ?_;rotate_left
           · intro w' h;obtain ⟨L,h1⟩:=h;go_simp;(first |done|rfl)
           (try simp only [Act.put,iD,iF,iN])
           refine bU (i:=6) (v:=?_) rfl (by kernel_rfl) (by kernel_rfl) (by kernel_rfl) (by kernel_rfl) (by decide) (λ_ _ _ h=>h) (P _ a2.o) (kx ⟨by rfl,?_⟩) ?_;rotate_left
           · intro w' h;obtain ⟨L,h1⟩:=h;go_simp;(first |done|rfl)
           (try simp only [Act.put,iD,iF,iN])
           refine bU (i:=7) (v:=?_) rfl (by kernel_rfl) (by kernel_rfl) (by kernel_rfl) (by kernel_rfl) (by decide) (λ_ _ _ h=>h) (P _ a2.o) (kx ⟨by rfl,?_⟩) ?_;rotate_left
           · intro w' h;obtain ⟨L,h1⟩:=h;go_simp;(first |done|rfl)
           (try simp only [Act.put,iD,iF,iN])
           refine bU (i:=8) (v:=?_) rfl (by kernel_rfl) (by kernel_rfl) (by kernel_rfl) (by kernel_rfl) (by decide) (λ_ _ _ h=>h) (P _ a2.o) (kx ⟨by rfl,?_⟩) ?_;rotate_left
           · intro w' h;obtain ⟨L,h1⟩:=h;go_simp;(first |done|rfl)
           (try simp only [Act.put,iD,iF,iN])
           refine bU (i:=9) (v:=?_) rfl (by kernel_rfl) (by kernel_rfl) (by kernel_rfl) (by kernel_rfl) (by decide) (λ_ _ _ h=>h) (P _ a2.o) (kx ⟨by rfl,?_⟩) ?_;rotate_left
           · intro w' h;obtain ⟨L,h1⟩:=h;go_simp;(first |done|rfl)
           (try simp only [Act.put,iD,iF,iN])
           refine Dp 10 λK M=>?_;go_simp;refine M _ _ (λ_=>P _ bD.o) ?_;clear M K;refine Dp 11 λK M=>?_;refine wp_append_lies _ _ _ 121 rfl (w.heap.size+2+2) 120 i0 (.agg #[J hb 0, .string ⟨#[]⟩]) 2 24 underlying121 HI.o b7.o b8.o b9.o rfl (by omega) (fn z f.subs.length A) f.subs.length _ (by rfl) (cD cm.o (λg' a4=>bD.o.block g' (cm.o.lt g' a4).2)) ⟨w7.heap.size,0,Y⟩ 1 1 [J hb (IntKind.u8.wrap q),S T] (by rfl) rfl (vT w7 _ _ _) (by simp [ky]) (by omega) (by unfold maxLen;omega) (by omega) (by simp;omega) _ rfl ?_;intro g9 hQ F av N hj i2;rw [g3.o] at av;obtain ⟨bt,e9,f9⟩:=e6.o ⟨u8I q,T⟩ _ F _ (by omega) (by omega) (by rw [<- cu.o];rfl) bD.o av (by rw [<- al];exact N) (hj.elim (λh=> .inl (h.symm.trans al)) (λh=> .inr (congrArg X h)));have cv:F.cell? ⟨w.heap.size+1,1,Y⟩=X (J U q):=by rw [kn (w:=(w7.alloc (iQ #[J hb (IntKind.u8.wrap q),S T] 120)).drew) (N.block _ (by simp;omega) (by rw [al];intro e;injection e with e;simp at e;omega))];exact (P.o _ bD.o).2
           have cl:=Z bt;clear av N bt;refine M _ _ (λ_=>⟨e9,cv⟩) ?_;clear M K;refine Dp 12 λK M=>?_;go_simp;refine M _ _ (λ_=>⟨e9,cv⟩) ?_;clear M K;refine Dp 13 λK M=>?_;go_simp;refine M _ _ (λ_=>⟨e9,cv⟩) ?_;clear M K;refine Dl 14 ?_;go_wp2_with fail
           go_meet;exact cl.o
         · obtain ⟨i0,hi,a8,a9,ac⟩:=k1 Bg;have HI:=Z hi;have b7:=Z a8;have b8:=Z a9;have b9:=Z ac;clear hi a8 a9 ac;have dx:=cM f;go_wp2_with (at_builtin;refine wpList_append_own_at _ rfl _ _ 121 rfl (w.heap.size+2+2) 120 i0 (.agg #[J hb 0, .string ⟨#[]⟩]) 2 24 underlying121 HI.o b7.o b8.o b9.o rfl (by omega) (fn z f.subs.length A) f.subs.length _ rfl (cm.o.alloc _) ⟨w7.heap.size,0,Y⟩ 1 1 [J hb 122,S T] rfl rfl (vT _ _ _ _) (by simp [ky]) (by unfold maxLen;omega) (by omega) (by simp;omega) ?_;intro v' F av N _ a1;obtain ⟨fr,ft,rfl⟩:=bF av;obtain ⟨bt,g9,f9⟩:=e6.o ⟨122,T⟩ _ F _ (by omega) (by omega) (by rw [<- cu.o];rfl) (aM w7 _) av (by rw [<- al];exact N) (by rw [<- al];exact a1);have cl:=Z bt;clear av N a1 bt)
           go_meet;exact cl.o
        case rest=>
         obtain ⟨hD,hE,a3,gt⟩:=hcut;generalize wc=F at *;have z0:=a3.z0;have z1:=a3.z1;have z2:=a3.z2;have y0:=a3.y0;have y1:=a3.y1;have y2:=a3.y2;have d0:=a3.c0;have d1:=a3.c1;have d2:=a3.c2;clear c0 c1 c2 x0 x1 x2 t0 t1 t2 t3;go_wp2_with fail
         all_goals
          refine bodyPost_ret (v:= .agg #[J hb R.kind.toNat,J hb R.level.toNat,fn hD R.fields.length hE]) (by simp only [results,Tryz.results84];go_simp) rfl ?_
          exact vj b6.o (by omega) a3.o gt.o _ rfl
end
section
open Go.RowKit Go.Maps Go.Shelf
def yA (q:Six):Array ja:= #[J U q.a,J U q.b,J U q.c,J U q.d,J U q.e,J U q.f]
def Ag (x:bG):Array ja:= #[J U x.k,J U x.a,J U x.b,J U x.v,J U x.q.a,J U x.q.b,J U x.q.c,J U x.q.d,J U x.q.e,J U x.q.f]
structure Ah (q:Six):Prop where
 a:i64B q.a
 b:i64B q.b
 c:i64B q.c
 d:i64B q.d
 e:i64B q.e
 f:i64B q.f
structure tn (x:bG):Prop where
 k:i64B x.k
 a:i64B x.a
 b:i64B x.b
 v:i64B x.v
 q:Ah x.q
theorem yf (n:Int):Ah (workQ n):=by
 unfold workQ;repeat' split
 all_goals exact ⟨by unfold i64B;decide,by unfold i64B;decide,by unfold i64B;decide,by unfold i64B;decide,by unfold i64B;decide,by unfold i64B;decide⟩
structure SdI (B:Nat) (w0 wr:iS) (x:bG) (q:Six):Prop where
 b:Below B w0 wr
 arg:wr.heap[B]? =some (.cells (Ag x) 47 (0,0))
 res:wr.heap[B+1]? =some (.cells #[.int .i64 0, .int .i64 0, .int .i64 0, .int .u8 0, .int .u8 0, .slice none 0 0] 64 (0,0))
 six:wr.heap[B+2]? =some (.cells (yA q) 45 (0,0))
theorem SdI.keep {B:Nat} {c wr W:iS} {x:bG} {q:Six} (h:SdI B c wr x q) (a:Bw wr W):SdI B c W x q:=
 ⟨h.b.trans (a.mono (by have:=ae h.arg;omega)),(a.block _ (ae h.arg)).trans h.arg,(a.block _ (ae h.res)).trans h.res,(a.block _ (ae h.six)).trans h.six⟩
theorem Av {w:iS} {b:Nat} {f g i j k l:ja} {t:TypeId} (h:w.heap[b]? =X (gs #[f,g,i,j,k,l] t (0,0))) (a c1 c2 c d e:ja):
 ((((((w.setCell ⟨b,0,Y⟩ a).setCell ⟨b,1,Y⟩ c1).setCell ⟨b,2,Y⟩ c2).setCell ⟨b,3,Y⟩ c).setCell ⟨b,4,Y⟩ d).setCell ⟨b,5,Y⟩ e).heap[b]? =X (gs #[a,c1,c2,c,d,e] t (0,0)):=
 ap (ap (ap (ap (ap (ap h 0 a) 1 c1) 2 c2) 3 c) 4 d) 5 e
theorem SdI.put {B:Nat} {j wr:iS} {x:bG} {q:Six} (h:SdI B j wr x q) (p:Six):
 SdI B j ((((((wr.setCell ⟨B+2,0,Y⟩ (J U p.a)).setCell ⟨B+2,1,Y⟩ (J U p.b)).setCell ⟨B+2,2,Y⟩ (J U p.c)).setCell ⟨B+2,3,Y⟩ (J U p.d)).setCell ⟨B+2,4,Y⟩ (J U p.e)).setCell ⟨B+2,5,Y⟩ (J U p.f)) x p:=by
 have i:∀k,k≠B+2->((((((wr.setCell ⟨B+2,0,Y⟩ (J U p.a)).setCell ⟨B+2,1,Y⟩ (J U p.b)).setCell ⟨B+2,2,Y⟩ (J U p.c)).setCell ⟨B+2,3,Y⟩ (J U p.d)).setCell ⟨B+2,4,Y⟩ (J U p.e)).setCell ⟨B+2,5,Y⟩ (J U p.f)).heap[k]? =wr.heap[k]? :=λk g=>by rw [iv _ _ _ _ g,iv _ _ _ _ g,iv _ _ _ _ g,iv _ _ _ _ g,iv _ _ _ _ g,iv _ _ _ _ g]
 refine ⟨?_,(i B (by omega)).trans h.arg,(i (B+1) (by omega)).trans h.res,Av h.six _ _ _ _ _ _⟩;exact (((((h.b.setCell (p:=⟨B+2,0,Y⟩) (by simp) _).setCell (p:=⟨B+2,1,Y⟩) (by simp) _).setCell (p:=⟨B+2,2,Y⟩) (by simp) _).setCell (p:=⟨B+2,3,Y⟩) (by simp) _).setCell (p:=⟨B+2,4,Y⟩) (by simp) _).setCell (p:=⟨B+2,5,Y⟩) (by simp) _
theorem fZ {l:List Bs} {N:Nat} (h:∀x∈l,x.length<=N) (n:Int):(pick l n).length<=N:=by
 unfold pick;rw [kb];cases hx:l[(n.emod l.length).toNat]? with
 |none=>simp
 |some x=>exact h x (List.mem_of_getElem? hx)
theorem jd (q:Six):(madeR q).fields.length<=7/\∀f∈(madeR q).fields,(fieldBytes f).length<=200:=by
 have h:=fZ (l:=yearsL) (N:=20) (by decide);have j:=fZ (l:=booksL) (N:=30) (by decide);have m:=fZ (l:=namesL) (N:=20) (by decide);have n:=fZ (l:=titlesL) (N:=20) (by decide);have k:=fZ (l:=inds3L) (N:=2) (by decide);have g:(q.c.emod 3).toNat<=2:=by have g:q.c.emod 3<3:=kq _ (by omega);omega
 unfold madeR;dsimp only;constructor
 · have o:(made008 q.b).length<=1:=by unfold made008;split<;>simp
   have p:(gh q.c).length<=2:=by unfold gh;rw [List.length_map,List.length_range];exact g
   have r:(eH q.d).length<=1:=by unfold eH;split<;>simp
   have s:(eG q.e).length<=1:=by unfold eG;split<;>simp
   have t:(eF q.f).length<=1:=by unfold eF;split<;>simp
   simp only [ko];omega
 · intro f a;simp only [List.mem_append] at a;rcases a with (((a|a)|a)|a)|a
   · unfold made008 at a;split at a
     · rw [kk] at a;subst a;have:=h q.b;simp [fieldBytes];omega
     · cases a
   · unfold gh at a;obtain ⟨i,_,rfl⟩:=List.mem_map.1 a;have:=j (q.c.tdiv 3+i);simp [fieldBytes,gw,aU];omega
   · unfold eH at a;split at a
     · rw [kk] at a;subst a;have:=m (q.d.tdiv 4);simp [fieldBytes,aU];omega
     · cases a
   · unfold eG at a;split at a
     · rw [kk] at a;subst a;have:=n (q.e.tdiv 5);have:=k q.e;simp [fieldBytes,aU];omega
     · cases a
   · unfold eF at a;split at a
     · rw [kk] at a;subst a;have:=h q.f;simp [fieldBytes,aU];omega
     · cases a
theorem AA (k a b v m n o r s u:Int) (hx:tn ⟨k,a,b,v,⟨m,n,o,r,s,u⟩⟩) (w:iS):
 kz prog 45 #[.agg #[J U k,J U a,J U b,J U v,J U m,J U n,J U o,J U r,J U s,J U u]] w λe w'=>∃(va:Option Addr) (vc:Nat),
  e=hk (kT (recI a) (v.emod 6) (saidR ⟨k,a,b,v,⟨m,n,o,r,s,u⟩⟩) (.slice va (saidR ⟨k,a,b,v,⟨m,n,o,r,s,u⟩⟩).fields.length vc))/\
  ai w.heap.size w'.heap.size w' (.slice va (saidR ⟨k,a,b,v,⟨m,n,o,r,s,u⟩⟩).fields.length vc) (saidR ⟨k,a,b,v,⟨m,n,o,r,s,u⟩⟩).fields/\Bw w w':=by
 obtain ⟨a3,hX⟩:∃a3:bG,(⟨k,a,b,v,⟨m,n,o,r,s,u⟩⟩:bG)=a3:=⟨_,rfl⟩;obtain ⟨R,hR⟩:=Qe (saidR ⟨k,a,b,v,⟨m,n,o,r,s,u⟩⟩);obtain ⟨p,hp⟩:=Qe ((if b.tmod 3≠0 then workQ b else ⟨m,n,o,r,s,u⟩));have d3:Ah p:=by rw [<- hp];split;exact yf b;exact hx.q
 have bD:Hid (R=if k.emod 8=4/\b.tmod 5=0 then spoilR (madeR p) (a.emod 8) b v else madeR p):=by unfold Hid;rw [<- hR, <- hp];rfl
 obtain ⟨mk,cc,lk⟩:=cG k 8 (by omega);obtain ⟨ma,ca,la⟩:=cG a 8 (by omega);obtain ⟨mb,P,lb⟩:=cG b 4 (by omega);have bt:Hid (∀W,kz prog 24 #[J U k,J U 8] W λe w'=>e=hk (J U (mk:Int))/\W=w'):=dl k 8 mk (by omega) (by omega) cc;have d8:Hid (∀W,kz prog 24 #[J U a,J U 8] W λe w'=>e=hk (J U (ma:Int))/\W=w'):=dl a 8 ma (by omega) (by omega) ca;have b1:Hid (∀W,kz prog 24 #[J U b,J U 4] W λe w'=>e=hk (J U (mb:Int))/\W=w'):=dl b 4 mb (by omega) (by omega) P;have d9:Hid (∀W,kz prog 24 #[J U v,J U 6] W λe w'=>e=hk (J U (v.emod 6))/\W=w'):=λW=>gV v 6 W (by omega) (by omega);have di:Hid (b.emod 4=mb):=P;have dk:Hid (k.emod 8=mk):=cc;have dd:Hid (a.emod 8=ma):=ca;have HP:=Z hp;have bA:=Z d3;obtain ⟨A,ay⟩:=Qe ((w.alloc (gs #[J U k,J U a,J U b,J U v,J U m,J U n,J U o,J U r,J U s,J U u] 47)).alloc (gs #[J U 0,J U 0,J U 0,J hb 0,J hb 0,fn Y 0 0] 64));have cx:Bw w A:=by rw [<- ay];exact ((jj _ w).alloc (j1 _) _).alloc (by simp) _
 have hA:A.heap[w.heap.size]? =X (gs #[J U k,J U a,J U b,J U v,J U m,J U n,J U o,J U r,J U s,J U u] 47 (0,0)):=by rw [<- ay,jn _ _ _ (by simp)];exact jb w _
 have hB:A.heap[w.heap.size+1]? =X (gs #[J U 0,J U 0,J U 0,J hb 0,J hb 0,fn Y 0 0] 64 (0,0)):=by rw [<- ay];have:=jb (w.alloc (gs #[J U k,J U a,J U b,J U v,J U m,J U n,J U o,J U r,J U s,J U u] 47)) (gs #[J U 0,J U 0,J U 0,J hb 0,J hb 0,fn Y 0 0] 64);rwa [World.size_alloc] at this
 have cm:A.heap.size=w.heap.size+2:=by rw [<- ay];simp
 obtain ⟨Q,aS⟩:=Qe (A.alloc (gs #[J U m,J U n,J U o,J U r,J U s,J U u] 45));have bO:Hid (SdI w.heap.size w Q a3 ⟨m,n,o,r,s,u⟩):=by
  have ho:∀k,k<A.heap.size->Q.heap[k]? =A.heap[k]? :=λk E=>by rw [<- aS];exact jn _ _ _ E
  refine ⟨by rw [<- aS];exact cx.alloc (by omega) _,?_,(ho _ (by omega)).trans hB,?_⟩
  · rw [<- hX];exact (ho _ (by omega)).trans hA
  · rw [<- cm, <- aS];exact jb A _
 have dz:=Z ay;have e0:=Z aS;have HA:=Z hA;have e2:=Z cm;have bY:=Z hX;have e7:=Z hx;rw [hR];have b8:=λW:iS=>pF a W hx.a;obtain ⟨⟨r1,r2⟩,d4⟩:∃rr,recI a=rr:=⟨_,rfl⟩;rw [d4] at b8 ⊢;dsimp only [recK] at b8;have dp:=Z b8;clear b8 d4;clear ay aS hA hB cm cx hX hx hR hp cc ca P d3;unfold kT;go_enter func45,ntmps45;have a4:A.cell? ⟨w.heap.size,4,Y⟩=X (J U m):=(aa HA.o 4).trans rfl;have a5:A.cell? ⟨w.heap.size,5,Y⟩=X (J U n):=(aa HA.o 5).trans rfl;have a6:A.cell? ⟨w.heap.size,6,Y⟩=X (J U o):=(aa HA.o 6).trans rfl;have a7:A.cell? ⟨w.heap.size,7,Y⟩=X (J U r):=(aa HA.o 7).trans rfl;have a8:A.cell? ⟨w.heap.size,8,Y⟩=X (J U s):=(aa HA.o 8).trans rfl;have a9:A.cell? ⟨w.heap.size,9,Y⟩=X (J U u):=(aa HA.o 9).trans rfl;go_upto_region 1 with fail
 rw [dz.o];go_upto_region 2 with fail
 rw [e0.o];clear a4 a5 a6 a7 a8 a9;rw [e2.o];have bp:Hid (∀(W:iS) (q':Six),SdI w.heap.size w W a3 q'->W.cell? ⟨w.heap.size,0,Y⟩=X (J U k)/\W.cell? ⟨w.heap.size,1,Y⟩=X (J U a)/\W.cell? ⟨w.heap.size,2,Y⟩=X (J U b)/\W.cell? ⟨w.heap.size,3,Y⟩=X (J U v)):=λW q' h=>by have h1:=h.arg;rw [<- bY.o] at h1;exact ⟨(aa h1 0).trans rfl,(aa h1 1).trans rfl,(aa h1 2).trans rfl,(aa h1 3).trans rfl⟩
 obtain ⟨_,_,x2,_⟩:=bp Q _ bO.o;go_upto_if 11 with fail
 clear x2;obtain ⟨F,G,H,I,L,N⟩:=p;go_cut [] (λwx=>Hid (SdI w.heap.size w wx a3 ⟨F,G,H,I,L,N⟩))
 case first=>
  by_cases hb3:b.tmod 3=0
  · have e4:(⟨F,G,H,I,L,N⟩:Six)=⟨m,n,o,r,s,u⟩:=by rw [<- HP.o,if_neg (by simp [hb3])]
    go_wp2_with fail
    go_meet;rw [e4];exact bO.o
  · have dn:Hid ((⟨F,G,H,I,L,N⟩:Six)=workQ b):=by unfold Hid;rw [<- HP.o,if_pos hb3]
    go_upto_region 3 with fail
    obtain ⟨q4,cg⟩:=Qe Q.heap.size;refine wp_region_lit ?_;refine kl rfl 45 _ rfl _ rfl #[J U 0,J U 2,J U 1,J U 5,J U 6,J U 0] (by kernel_rfl) ?_;go_simp;refine kl rfl 45 _ rfl _ rfl #[J U 0,J U 2,J U 0,J U 5,J U 6,J U 1] (by kernel_rfl) ?_;go_simp;refine kl rfl 45 _ rfl _ rfl #[J U 0,J U 4,J U 4,J U 9,J U 21,J U 1] (by kernel_rfl) ?_;go_simp;refine kl rfl 45 _ rfl _ rfl #[J U 0,J U 1,J U 0,J U 9,J U 21,J U 2] (by kernel_rfl) ?_;go_simp;refine kl rfl 159 _ rfl _ rfl #[J U 0,J U 2,J U 1,J U 5,J U 6,J U 0,J U 0,J U 2,J U 0,J U 5,J U 6,J U 1,J U 0,J U 4,J U 4,J U 9,J U 21,J U 1,J U 0,J U 1,J U 0,J U 9,J U 21,J U 2] (by kernel_rfl) ?_;go_simp;refine Great.wpList_allocTo rfl _ rfl (hr (X ⟨Q.heap.size,0,Y⟩)) (gs #[J U 0,J U 0,J U 0,J U 0,J U 0,J U 0,J U 0,J U 0,J U 0,J U 0,J U 0,J U 0,J U 0,J U 0,J U 0,J U 0,J U 0,J U 0,J U 0,J U 0,J U 0,J U 0,J U 0,J U 0] 159) (by kernel_rfl) ?_;rw [cg];obtain ⟨aT,bk⟩:=Qe (Q.alloc (gs #[J U 0,J U 0,J U 0,J U 0,J U 0,J U 0,J U 0,J U 0,J U 0,J U 0,J U 0,J U 0,J U 0,J U 0,J U 0,J U 0,J U 0,J U 0,J U 0,J U 0,J U 0,J U 0,J U 0,J U 0] 159));have c6:aT.heap[q4]? =X (gs #[J U 0,J U 0,J U 0,J U 0,J U 0,J U 0,J U 0,J U 0,J U 0,J U 0,J U 0,J U 0,J U 0,J U 0,J U 0,J U 0,J U 0,J U 0,J U 0,J U 0,J U 0,J U 0,J U 0,J U 0] 159 (0,0)):=by rw [<- bk, <- cg];exact jb Q _
    rw [bk];go_simp;refine wpList_store_rowTo rfl 159 _ _ rfl rfl q4 #[J U 0,J U 2,J U 1,J U 5,J U 6,J U 0,J U 0,J U 2,J U 0,J U 5,J U 6,J U 1,J U 0,J U 4,J U 4,J U 9,J U 21,J U 1,J U 0,J U 1,J U 0,J U 9,J U 21,J U 2] rfl rfl 159 _ c6 (by kernel_rfl) rfl (by kernel_rfl) ?_;obtain ⟨C,bc⟩:=Qe (aT.setRow q4 #[J U 0,J U 2,J U 1,J U 5,J U 6,J U 0,J U 0,J U 2,J U 0,J U 5,J U 6,J U 1,J U 0,J U 4,J U 4,J U 9,J U 21,J U 1,J U 0,J U 1,J U 0,J U 9,J U 21,J U 2]);have cv:C.heap[q4]? =X (gs #[J U 0,J U 2,J U 1,J U 5,J U 6,J U 0,J U 0,J U 2,J U 0,J U 5,J U 6,J U 1,J U 0,J U 4,J U 4,J U 9,J U 21,J U 1,J U 0,J U 1,J U 0,J U 9,J U 21,J U 2] 159 (0,0)):=by rw [<- bc];exact setRow_heap aT q4 _ _ 159 (0,0) c6
    have cy:Bw Q C:=by
     have h1:Bw Q aT:=by rw [<- bk];exact (jj _ Q).alloc (j1 _) _
     rw [<- bc];exact h1.trans ⟨setRow_os _ _ _,setRow_tape _ _ _,setRow_output _ _ _,Nat.le_of_eq (setRow_size _ _ _).symm,λk E=>setRow_other aT q4 k _ (by omega)⟩
    have x:Hid (SdI w.heap.size w C a3 ⟨m,n,o,r,s,u⟩):=bO.keep cy;rw [bc];clear cy c6 bk;go_upto_region 4 with fail
    clear cg bc;obtain ⟨_,_,x2,_⟩:=bp C _ x.o;have y0:C.cell? ⟨w.heap.size+2,0,Y⟩=X (J U m):=(aa x.six 0).trans rfl;have y1:C.cell? ⟨w.heap.size+2,1,Y⟩=X (J U n):=(aa x.six 1).trans rfl;have y2:C.cell? ⟨w.heap.size+2,2,Y⟩=X (J U o):=(aa x.six 2).trans rfl;have y3:C.cell? ⟨w.heap.size+2,3,Y⟩=X (J U r):=(aa x.six 3).trans rfl;have y4:C.cell? ⟨w.heap.size+2,4,Y⟩=X (J U s):=(aa x.six 4).trans rfl;have y5:C.cell? ⟨w.heap.size+2,5,Y⟩=X (J U u):=(aa x.six 5).trans rfl;have z0:=ab x.six 0;have z1:=ab x.six 1;have z2:=ab x.six 2;have z3:=ab x.six 3;have z4:=ab x.six 4;have z5:=ab x.six 5;have j:Hid (∀i,C.cell? ⟨q4,i,Y⟩=_):=λi=>aa cv i;have ac:=dn.o;have P:=di.o;clear cv;obtain rfl|rfl|rfl|rfl:mb=0∨mb=1∨mb=2∨mb=3:=by omega
    · have n0:=(j 0).trans rfl;have n1:=(j 1).trans rfl;have n2:=(j 2).trans rfl;have n3:=(j 3).trans rfl;have n4:=(j 4).trans rfl;have n5:=(j 5).trans rfl;have ad:Hid ((⟨F,G,H,I,L,N⟩:Six)=⟨0,2,1,5,6,0⟩):=by unfold Hid;rw [ac];unfold workQ;rw [P];rfl
      clear ac P;go_wp2_with (go_at_call 24;((with_reducible refine iP (b1.o _) ?_);rintro e w5 ⟨rfl,rfl⟩))
      go_meet;rw [ad.o];exact x.put ⟨0,2,1,5,6,0⟩
    · have n0:=(j 6).trans rfl;have n1:=(j 7).trans rfl;have n2:=(j 8).trans rfl;have n3:=(j 9).trans rfl;have n4:=(j 10).trans rfl;have n5:=(j 11).trans rfl;have ad:Hid ((⟨F,G,H,I,L,N⟩:Six)=⟨0,2,0,5,6,1⟩):=by unfold Hid;rw [ac];unfold workQ;rw [P];rfl
      clear ac P;go_wp2_with (go_at_call 24;((with_reducible refine iP (b1.o _) ?_);rintro e w5 ⟨rfl,rfl⟩))
      go_meet;rw [ad.o];exact x.put ⟨0,2,0,5,6,1⟩
    · have n0:=(j 12).trans rfl;have n1:=(j 13).trans rfl;have n2:=(j 14).trans rfl;have n3:=(j 15).trans rfl;have n4:=(j 16).trans rfl;have n5:=(j 17).trans rfl;have ad:Hid ((⟨F,G,H,I,L,N⟩:Six)=⟨0,4,4,9,21,1⟩):=by unfold Hid;rw [ac];unfold workQ;rw [P];rfl
      clear ac P;go_wp2_with (go_at_call 24;((with_reducible refine iP (b1.o _) ?_);rintro e w5 ⟨rfl,rfl⟩))
      go_meet;rw [ad.o];exact x.put ⟨0,4,4,9,21,1⟩
    · have n0:=(j 18).trans rfl;have n1:=(j 19).trans rfl;have n2:=(j 20).trans rfl;have n3:=(j 21).trans rfl;have n4:=(j 22).trans rfl;have n5:=(j 23).trans rfl;have ad:Hid ((⟨F,G,H,I,L,N⟩:Six)=⟨0,1,0,9,21,2⟩):=by unfold Hid;rw [ac];unfold workQ;rw [P];rfl
      clear ac P;go_wp2_with (go_at_call 24;((with_reducible refine iP (b1.o _) ?_);rintro e w5 ⟨rfl,rfl⟩))
      go_meet;rw [ad.o];exact x.put ⟨0,1,0,9,21,2⟩
 case rest=>
  have HS:=hcut;clear hcut;have c0:wc.cell? ⟨w.heap.size+2,0,Y⟩=X (J U F):=(aa HS.six 0).trans rfl;have c1:wc.cell? ⟨w.heap.size+2,1,Y⟩=X (J U G):=(aa HS.six 1).trans rfl;have c2:wc.cell? ⟨w.heap.size+2,2,Y⟩=X (J U H):=(aa HS.six 2).trans rfl;have c3:wc.cell? ⟨w.heap.size+2,3,Y⟩=X (J U I):=(aa HS.six 3).trans rfl;have c4:wc.cell? ⟨w.heap.size+2,4,Y⟩=X (J U L):=(aa HS.six 4).trans rfl;have c5:wc.cell? ⟨w.heap.size+2,5,Y⟩=X (J U N):=(aa HS.six 5).trans rfl;have b6:=AV F G H I L N bA.c bA.d bA.e wc;obtain ⟨M,hM⟩:=Qe (madeR ⟨F,G,H,I,L,N⟩);have b7:=jd ⟨F,G,H,I,L,N⟩;have d2:M.level=109:=by rw [<- hM];rfl
  rw [hM] at b6 b7 bD;obtain ⟨kd,lv,O⟩:=M;dsimp only at b6 b7 d2;subst d2;have cq:=Z b6;have cs:=Z b7;clear b6 b7 hM;go_upto_region 6 with (go_at_call 83;((with_reducible refine iP cq.o ?_);rintro e w5 ⟨va,vc,rfl,d1,cz⟩;have cp:=Z d1;have b0:=Z cz;clear d1 cz))
  obtain ⟨T,hT⟩:=Qe w5.heap.size;obtain ⟨g,aC⟩:=Qe (w5.alloc (gs #[J hb kd.toNat,J hb 109,fn va O.length vc] 62));have c7:g.heap[T]? =X (gs #[J hb kd.toNat,J hb 109,fn va O.length vc] 62 (0,0)):=by rw [<- aC, <- hT];exact jb w5 _
  have cP:Bw wc g:=by rw [<- aC];exact b0.o.alloc b0.o.size _
  have a2:Hid (SdI w.heap.size w g a3 ⟨F,G,H,I,L,N⟩):=HS.keep cP;have d6:w.heap.size+3<=wc.heap.size:=by have:=ae HS.o.six;omega
  have bw:Hid (ai (w.heap.size+3) g.heap.size g (fn va O.length vc) O):=by have h:=cp.o.kept (w':=g) (λq _ hq=>by rw [<- aC];exact jn _ _ _ hq);exact h.mono d6 (by rw [<- aC];simp)
  have dy:Hid (w.heap.size+3<=T/\T<g.heap.size/\w.heap.size+3<=g.heap.size):=by have h1:=ae HS.six;have l:=b0.size;have y:=ae c7;exact ⟨by omega,y,by omega⟩
  have b3:=Z c7;rw [hT,aC];clear c0 c1 c2 c3 c4 c5 cp cP aC hT c7 HS d6 cq b0;obtain ⟨x0,_,x2,_⟩:=bp g _ a2.o;go_cut [33] (λt wx=>t=hK (decide (mk=4)&&decide (b.tmod 5=0))/\wx=g)
  case first=>
   by_cases h4:mk=4
   · subst h4;by_cases h5:b.tmod 5=0
     · go_wp2_with (go_at_call 24;((with_reducible refine iP (bt.o _) ?_);rintro e B ⟨rfl,rfl⟩))
       go_meet;exact ⟨by simp [h5],rfl⟩
     · go_wp2_with (go_at_call 24;((with_reducible refine iP (bt.o _) ?_);rintro e B ⟨rfl,rfl⟩))
       go_meet;exact ⟨by simp [h5],rfl⟩
   · have e8:((mk:Int)==4)=false:=by simp;omega
     go_wp2_with (go_at_call 24;((with_reducible refine iP (bt.o _) ?_);rintro e B ⟨rfl,rfl⟩))
     go_meet;exact ⟨by simp [h4],rfl⟩
  case rest=>
   obtain ⟨rfl,cl⟩:=hcut;have cl:=cl.symm;subst cl;clear x0 x2;have b2:Hid (R=if (decide (mk=4)&&decide (b.tmod 5=0))=true then spoilR ⟨kd,109,O⟩ (ma:Int) b v else ⟨kd,109,O⟩):=by
    unfold Hid;have e1:=bD.o;rw [dk.o,dd.o] at e1;rw [e1];by_cases h4:mk=4/\b.tmod 5=0
    · rw [if_pos ⟨by omega,h4.2⟩,if_pos (by simp [h4.1,h4.2])]
    · rw [if_neg (by intro h;exact h4 ⟨by omega,h.2⟩),if_neg (by simpa using h4)]
   obtain ⟨sp,d5⟩:=Qe ((decide (mk=4)&&decide (b.tmod 5=0)));rw [d5] at b2 ⊢;clear d5 bD;go_upto_if 33 with fail
   go_cut [] (λwx=>∃(al:Option Addr) (ao:Nat),Hid (SdI w.heap.size w wx a3 ⟨F,G,H,I,L,N⟩)/\Hid (wx.heap[T]? =X (gs #[J hb R.kind.toNat,J hb R.level.toNat,fn al R.fields.length ao] 62 (0,0)))/\Hid (ai (w.heap.size+3) wx.heap.size wx (fn al R.fields.length ao) R.fields))
   case first=>
    cases sp
    · have bB:Hid (R=⟨kd,109,O⟩):=by unfold Hid;rw [b2.o,if_neg (by decide)]
      go_wp2_with fail
      go_meet;rw [bB.o];exact ⟨va,vc,a2,b3,bw⟩
    · have bB:Hid (R=spoilR ⟨kd,109,O⟩ (ma:Int) b v):=by unfold Hid;rw [b2.o,if_pos rfl]
      have av:g.drew.heap[w.heap.size]? =g.heap[w.heap.size]? /\g.drew.heap[T]? =g.heap[T]? :=⟨rfl,rfl⟩;have ch:=tH kd 109 O va vc ma (by omega) b v g.drew (bw.o.mono (Nat.zero_le _) (j1 _)) (by have:=cs.o.1;omega) (λf hf=>kt (cs.o.2 f hf) (by omega));rw [<- bB.o] at ch;have ds:=Z (show kz prog 84 #[.agg #[J hb kd.toNat,J hb 109,fn va O.length vc], .agg #[J U (ma:Int),J U b,J U v]] g.drew _ from ch);clear ch;have bs:Hid (∀W:iS,(W.heap[w.heap.size]? =g.heap[w.heap.size]? /\W.heap[T]? =g.heap[T]?)->(W.cell? ⟨T,0,Y⟩=X (J hb kd.toNat)/\W.cell? ⟨T,1,Y⟩=X (J hb 109)/\W.cell? ⟨T,2,Y⟩=X (fn va O.length vc))/\W.cell? ⟨w.heap.size,1,Y⟩=X (J U a)/\W.cell? ⟨w.heap.size,2,Y⟩=X (J U b)/\W.cell? ⟨w.heap.size,3,Y⟩=X (J U v)):=λW h=>by have h1:=h.1.trans a2.arg;rw [<- bY.o] at h1;have l:=h.2.trans b3.o;exact ⟨⟨(aa l 0).trans rfl,(aa l 1).trans rfl,(aa l 2).trans rfl⟩,(aa h1 1).trans rfl,(aa h1 2).trans rfl,(aa h1 3).trans rfl⟩
      go_wp2_with fail
      refine wT (λW:iS=>W.heap[w.heap.size]? =g.heap[w.heap.size]? /\W.heap[T]? =g.heap[T]?) 10 ?_;refine Qb [0,1,4,6,2,5,7] av bs ?_;refine Dp 3 λK z=>?_;go_simp;go_at_call 24;with_reducible refine iP (d8.o _) ?_
      rintro e B ⟨rfl,rfl⟩;refine z _ _ (λ_=>av) ?_;clear z K;go_simp;refine Qa [8] av ?_
      refine Dp 9 λK z=>?_;go_simp;go_at_call 84;with_reducible refine iP ds.o ?_
      rintro e B ⟨sb,cb,rfl,b5,d0⟩;have bb:=dy.o;have b9:B.heap[w.heap.size]? =g.heap[w.heap.size]? /\B.heap[T]? =g.heap[T]? :=⟨b5.block _ (by show w.heap.size<g.heap.size;omega),b5.block _ (by show T<g.heap.size;omega)⟩;have da:=Z d0;have d7:Hid (Bw g B):=(jj _ g).drew.trans b5;clear d0 b5;refine z _ _ (λ_=>b9) ?_;clear z K;go_simp;have l:=b9.2.trans b3.o;have t0:B.cell? ⟨T,0,Y⟩=X (J hb kd.toNat):=(aa l 0).trans rfl;have t1:B.cell? ⟨T,1,Y⟩=X (J hb 109):=(aa l 1).trans rfl;have t2:B.cell? ⟨T,2,Y⟩=X (fn va O.length vc):=(aa l 2).trans rfl;have z0:=ab l 0;have z1:=ab l 1;have z2:=ab l 2;have dx:=Z l;have e9:=Z b9;clear l b9;refine Dl 10 ?_;go_wp2_with fail
      go_meet;obtain ⟨D,a0⟩:=Qe (((B.setCell ⟨T,0,Y⟩ (J hb R.kind.toNat)).setCell ⟨T,1,Y⟩ (J hb R.level.toNat)).setCell ⟨T,2,Y⟩ (fn sb R.fields.length cb));have cd:∀k,k≠T->D.heap[k]? =B.heap[k]? :=λk E=>by rw [<- a0,iv _ _ _ _ E,iv _ _ _ _ E,iv _ _ _ _ E]
      have e6:D.heap.size=B.heap.size:=by rw [<- a0];simp
      have c9:Below (w.heap.size+3) B D:=by rw [<- a0];exact (((jj _ B).setCell (p:=⟨T,0,Y⟩) bb.1 _).setCell (p:=⟨T,1,Y⟩) bb.1 _).setCell (p:=⟨T,2,Y⟩) bb.1 _
      have e3:D.heap[T]? =X (gs #[J hb R.kind.toNat,J hb R.level.toNat,fn sb R.fields.length cb] 62 (0,0)):=by rw [<- a0];exact ap (ap (ap dx.o 0 _) 1 _) 2 _
      rw [a0];have b4:Below (w.heap.size+3) g D:=(d7.mono bb.2.2).trans c9;refine ⟨sb,cb,⟨a2.o.b.trans (b4.mono (by omega)),(b4.block _ (by omega)).trans a2.o.arg,(b4.block _ (by omega)).trans a2.o.res,(b4.block _ (by omega)).trans a2.o.six⟩,e3,?_⟩;have h:=da.o.kept (w':=D) (λq hq _=>cd q (by have:g.heap.size<=q:=hq;omega));exact h.mono (by show w.heap.size+3<=g.heap.size;omega) (by omega)
   case rest=>
    obtain ⟨al,ao,au,cu,dc⟩:=hcut;clear a2 b3 bw b2;have av:Bw wc wc.drew:=(jj _ wc).drew;have bs:Hid (∀W:iS,Bw wc W->(W.cell? ⟨T,0,Y⟩=X (J hb R.kind.toNat)/\W.cell? ⟨T,1,Y⟩=X (J hb R.level.toNat)/\W.cell? ⟨T,2,Y⟩=X (fn al R.fields.length ao))/\W.cell? ⟨w.heap.size,1,Y⟩=X (J U a)/\W.cell? ⟨w.heap.size,3,Y⟩=X (J U v)):=λW h=>by have h1:=(h.block _ (ae au.arg)).trans au.arg;rw [<- bY.o] at h1;have l:=(h.block _ (ae cu.o)).trans cu.o;exact ⟨⟨(aa l 0).trans rfl,(aa l 1).trans rfl,(aa l 2).trans rfl⟩,(aa h1 1).trans rfl,(aa h1 3).trans rfl⟩
    go_wp2_with fail
    refine wT (λW:iS=>Bw wc W) 8 ?_;refine Qb [0,3,6,1,4] av bs ?_;refine Dp 2 λK z=>?_;go_simp;go_at_call 20;with_reducible refine iP (dp.o _) ?_
    rintro e V ⟨rfl,cQ⟩;have ax:Bw wc V:=av.trans cQ;refine z _ _ (λ_=>ax) ?_;clear z K;go_simp;refine Dp 5 λK z=>?_;go_simp;go_at_call 24;with_reducible refine iP (d9.o _) ?_
    rintro e B ⟨rfl,rfl⟩;refine z _ _ (λ_=>ax) ?_;clear z K;go_simp;refine Qa [7] ax ?_
    have y:=(ax.block _ (ae au.res)).trans au.res;have y0:V.cell? ⟨w.heap.size+1,0,Y⟩=X (J U 0):=(aa y 0).trans rfl;have y1:V.cell? ⟨w.heap.size+1,1,Y⟩=X (J U 0):=(aa y 1).trans rfl;have y2:V.cell? ⟨w.heap.size+1,2,Y⟩=X (J U 0):=(aa y 2).trans rfl;have y3:V.cell? ⟨w.heap.size+1,3,Y⟩=X (J hb 0):=(aa y 3).trans rfl;have y4:V.cell? ⟨w.heap.size+1,4,Y⟩=X (J hb 0):=(aa y 4).trans rfl;have y5:V.cell? ⟨w.heap.size+1,5,Y⟩=X (fn Y 0 0):=(aa y 5).trans rfl;have z0:=ab y 0;have z1:=ab y 1;have z2:=ab y 2;have z3:=ab y 3;have z4:=ab y 4;have z5:=ab y 5;have bT:=Z ax;clear y ax cQ;refine Dl 8 ?_;go_wp2_with fail
    refine bodyPost_ret (v:= .agg #[J U r1,J U r2,J U (v.emod 6),J hb R.kind.toNat,J hb R.level.toNat,fn al R.fields.length ao]) (by rw [cT rfl];go_simp) rfl ?_;obtain ⟨D,a0⟩:=Qe ((((((V.setCell ⟨w.heap.size+1,0,Y⟩ (J U r1)).setCell ⟨w.heap.size+1,1,Y⟩ (J U r2)).setCell ⟨w.heap.size+1,2,Y⟩ (J U (v.emod 6))).setCell ⟨w.heap.size+1,3,Y⟩ (J hb R.kind.toNat)).setCell ⟨w.heap.size+1,4,Y⟩ (J hb R.level.toNat)).setCell ⟨w.heap.size+1,5,Y⟩ (fn al R.fields.length ao));have cd:∀k,k≠w.heap.size+1->D.heap[k]? =V.heap[k]? :=λk E=>by rw [<- a0,iv _ _ _ _ E,iv _ _ _ _ E,iv _ _ _ _ E,iv _ _ _ _ E,iv _ _ _ _ E,iv _ _ _ _ E]
    have e6:D.heap.size=V.heap.size:=by rw [<- a0];simp
    have c9:Below w.heap.size V D:=by rw [<- a0];exact ((((((jj _ V).setCell (p:=⟨w.heap.size+1,0,Y⟩) (by simp) _).setCell (p:=⟨w.heap.size+1,1,Y⟩) (by simp) _).setCell (p:=⟨w.heap.size+1,2,Y⟩) (by simp) _).setCell (p:=⟨w.heap.size+1,3,Y⟩) (by simp) _).setCell (p:=⟨w.heap.size+1,4,Y⟩) (by simp) _).setCell (p:=⟨w.heap.size+1,5,Y⟩) (by simp) _
    rw [a0];refine ⟨al,ao,rfl,?_,au.o.b.trans ((bT.o.mono (by have:=au.o.b.size;omega)).trans c9)⟩;have h:=dc.o.kept (w':=D) (λq hq e5=>(cd q (by omega)).trans (bT.o.block q e5));exact h.mono (by omega) (by have:=bT.o.size;omega)
end
end Go.Proofs.YtjcimanddakkaaaGreatDoor
