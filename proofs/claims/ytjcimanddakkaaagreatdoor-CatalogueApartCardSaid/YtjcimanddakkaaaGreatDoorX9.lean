/- Lemmas. -/
import Derived.Test.YtjcimanddakkaaaGreatDoorX0
import Derived.Test.YtjcimanddakkaaaGreatDoorX3
import Derived.Test.YtjcimanddakkaaaGreatDoorX5
import Derived.Test.YtjcimanddakkaaaGreatDoorX8
import Derived.Deep.CutBlock
import Derived.Great.BuildSlice
import Derived.Great.Walk
import Derived.Laws.CopyRow
set_option maxRecDepth 100000
set_option maxHeartbeats 8000000
namespace Go.Proofs.YtjcimanddakkaaaGreatDoor
open Go.RowKit.Below renaming heap_setCell→a0a,refl→a0l,heap_alloc→a0m
open Go.Lib renaming hid→a0b
open _root_.List renaming setIfInBounds_toArray→a0c,set_cons_zero→a0d,set_cons_succ→a0e,eq_nil_of_length_eq_zero→a0n,getElem_mem→a0r,flatMap_cons→a0t,getD_eq_getElem?_getD→a0u,mem_singleton→a0w,length_append→a0z
open Go.Proofs.Tryz renaming prog→a0f
open Go.Calls renaming mono→a0g
open Go.Obj renaming cells→a0h
open Go renaming World→a0i,Value→a0j,wpList_buildTo→a0x,Calls→a0G,info_parts→a0I
open Go.World renaming alloc_heap_new→a0k,frozen?_of_block→a0s,cell?_setCell_other→a0v,cell?_of_block→a0y,cell?→a0D
open _root_.Nat renaming le_refl→a0o,zero_add→a0B,le_trans→a0C,zero_mul→a0H
open Go.Value renaming ownBlock→a0p,oneCell'→a0F
open Go.RowKit renaming Below→a0q
open _root_.Int renaming emod_lt_of_pos→a0A
open _root_.Or renaming inl→a0E
open Go.Builtin renaming append_→a0J
section
open Go.RowKit
theorem ge {lo:Nat} {g:Option Nat} {w:a0i} {d:a0j} {a:List ci} (h:w.ownsRow lo 120 2 d a.length (a.flatMap subCells)) (l:∀k,d.ownBlock=some k->g≠some k):bh lo g w d a:=by
 rcases h.2 with ⟨rfl,e⟩|⟨b,n,o,rfl,i,p,q⟩
 · have:a=[]:=a0n e;subst this;exact ⟨none,0,rfl,λh=>absurd rfl h⟩
 · have m:=h.lt b (by simp [a0p]);refine ⟨_,_,rfl,λ_=>⟨b,0,rfl,i,m.2,l b (by simp [a0p]),λj x c=>?_⟩⟩;have f:=h.cellAt j (by have:=(List.getElem?_eq_some_iff.1 c).1;rw [h.1] at this;exact this);rw [a0B,f];exact c
theorem cr {w w':a0i} {B:Nat} {e:TypeId} {k:Nat} {v:a0j} {n:Nat} {b:List a0j} (h:w.ownsRow B e k v n b) (j:∀g,v.ownBlock=some g->w'.heap[g]? =w.heap[g]?):w'.ownsRow B e k v n b:=by
 refine ⟨h.1,?_⟩;rcases h.2 with l|⟨g,c,d,a,f,i,m⟩
 · exact .inl l
 · exact .inr ⟨g,c,d,a,f,by rw [j g (by rw [a];simp [a0p])];exact i,m⟩
structure dV (lo:Nat) (w:a0i) (v:a0j) (fs:List af):Prop where
 ex:∃ps:List (af×a0j),ps.map (·.1)=fs/\w.ownsRow lo 123 4 v fs.length (ps.flatMap fieldCells)/\
  (∀p∈ps,w.ownsRow lo 120 2 p.2 p.1.subs.length (p.1.subs.flatMap subCells)/\∃g,p.2.ownBlock=some g/\v.ownBlock≠some g)/\ps.Pairwise (λp q=>p.2.ownBlock≠q.2.ownBlock)
theorem dV.nil (lo:Nat) (w:a0i):dV lo w (.slice none 0 0) []:=⟨⟨[],rfl,World.ownsRow_nil _ _ _ _,by simp, .nil⟩⟩
theorem dV.toRec {lo:Nat} {w:a0i} {v:a0j} {b:List af} (h:dV lo w v b):bG lo w v b:=by
 obtain ⟨ps,f,i,c,_⟩:=h.ex;refine ⟨⟨ps,f,λp d=>ge (c p d).1 (λk a e=>?_),i⟩⟩;obtain ⟨g,j,l⟩:=(c p d).2;rw [j] at a;injection a with a
 subst a;exact l e
theorem dV.keep {lo:Nat} {w w':a0i} {v:a0j} {d:List af} (h:dV lo w v d) (f:a0q w.heap.size w w'):dV lo w' v d:=by
 obtain ⟨ps,i,e,a,j⟩:=h.ex;exact ⟨⟨ps,i,cr e (λg b=>f.block g (e.lt g b).2),λp c=>⟨cr (a p c).1 (λg b=>f.block g ((a p c).1.lt g b).2),(a p c).2⟩,j⟩⟩
theorem dV.far {lo:Nat} {w w':a0i} {v:a0j} {e:List af} (h:dV lo w v e) (f:∀k,lo<=k->k<w.heap.size->w'.heap[k]? =w.heap[k]?):dV lo w' v e:=by
 obtain ⟨ps,i,d,b,j⟩:=h.ex;exact ⟨⟨ps,i,cr d (λg a=>f g (d.lt g a).1 (d.lt g a).2),λp c=>⟨cr (b p c).1 (λg a=>f g ((b p c).1.lt g a).1 ((b p c).1.lt g a).2),(b p c).2⟩,j⟩⟩
theorem dV.app {lo:Nat} {w1 l:a0i} {v h:a0j} {m:List af} (f:af) (d:a0j) (ps:List (af×a0j)) (w:ps.map (·.1)=m)
 (y:∀p∈ps,w1.ownsRow lo 120 2 p.2 p.1.subs.length (p.1.subs.flatMap subCells)/\∃g,p.2.ownBlock=some g/\v.ownBlock≠some g) (z:ps.Pairwise (λp q=>p.2.ownBlock≠q.2.ownBlock))
 (A:w1.ownsRow lo 120 2 d f.subs.length (f.subs.flatMap subCells)) (i:Nat) (o:d.ownBlock=some i) (E:v.ownBlock≠some i) (G:∀p∈ps,p.2.ownBlock≠some i)
 (I:l.ownsRow lo 123 4 h (m.length+1) (ps.flatMap fieldCells++fieldCells (f,d))) (B:w1.grownBy l v.ownBlock) (b:h.ownBlock=v.ownBlock∨h.ownBlock=some w1.heap.size):dV lo l h (m++[f]):=by
 have u:∀(x:a0j) (c:List ci) (g:Nat),w1.ownsRow lo 120 2 x c.length (c.flatMap subCells)->x.ownBlock=some g->v.ownBlock≠some g->l.ownsRow lo 120 2 x c.length (c.flatMap subCells)/\∃g,x.ownBlock=some g/\h.ownBlock≠some g:=by
  intro x c g t n s;have F:=(t.lt g n).2;refine ⟨cr t (λk j=>?_),g,n,?_⟩
  · rw [n] at j;injection j with j;subst j
    exact B.block _ F (λe=>s e.symm)
  · rcases b with b|b
    · rw [b];exact s
    · rw [b];intro e;injection e with e;omega
 refine ⟨⟨ps++[(f,d)],by simp [w],by simpa using I,?_,?_⟩⟩
 · intro p a;rcases List.mem_append.1 a with a|a
   · obtain ⟨H,g,C,D⟩:=y p a;exact u _ _ g H C D
   · simp at a;subst a;exact u _ _ i A o E
 · refine List.pairwise_append.2 ⟨z,by simp,λp a q r=>?_⟩;simp at r;subst r;rw [o];exact G p a
theorem vB (lo:Nat) (W:a0i) (D:Nat) (d:a0j) (c:List ci) (p:W.heap[D]? =some (.cells #[] 120 (0,0))) (y:az 0 W.heap.size W d c) (H:c.length<=1000000) (B:lo<=D):
 ∃(a:Addr) (e:Nat) (f:a0i),(a0J #[121,121] 121 #[.slice (some ⟨D,0,none⟩) 0 0,d]).run a0f W= .ok (.slice (some a) c.length e) f/\f.ownsRow lo 120 2 (.slice (some a) c.length e) c.length (c.flatMap subCells)/\W.grownBy f (some D)/\(a.block=D∨a.block=W.heap.size):=by
 obtain ⟨i,q,F,C,w⟩:=a0I zi;have G:D<W.heap.size:=(Array.getElem?_eq_some_iff.1 p).1;have r:W.ownsRow lo 120 2 (.slice (some ⟨D,0,none⟩) 0 0) 0 []:=⟨by simp, .inr ⟨D,0, #[],rfl,B,p,a0o _,by unfold maxLen;omega,by simp,by simp⟩⟩;obtain ⟨a,e,rfl,h⟩:=y;by_cases h0:c=[]
 · subst h0;have E:Src a0f i.size 121 (.slice a 0 e) 0 [] W:=by
    cases a with
    |none=>exact Src.ofNil W Tryz.underlying121 e
    |some a=>exact Src.ofSlice W Tryz.underlying121 a 0 e [] (by simp) (by simp) (by simp)
   have n:=run_append_room_src (P:=a0f) W 121 121 121 120 i Tryz.underlying121 q D 0 0 0 (.slice a 0 e) 0 [] E (by omega) (by simp) (by simp);exact ⟨_,_,_,n,r,⟨rfl,rfl,rfl,a0o _,λ_ _ _=>rfl⟩, .inl rfl⟩
 · obtain ⟨b,o,rfl,_,_,x⟩:=h (oK.2 h0)
   obtain ⟨I,f,n,m,v,_,k⟩:=run_append_own_at (P:=a0f) W lo 121 121 120 i _ 2 24 Tryz.underlying121 q F C w rfl (by omega) (.slice (some ⟨D,0,none⟩) 0 0) 0 [] r ⟨b,o,none⟩ c.length e (c.flatMap subCells) (xz c)
    (λj u z=>by
     have:(⟨b,o,none⟩:Addr).add j=⟨b,o+j,none⟩:=by unfold Addr.add;split<;>simp_all
     rw [this];exact x j u z)
    (λu l=>by
     obtain ⟨s,_,l⟩:=List.mem_flatMap.1 l
     simp [subCells] at l
     rcases l with rfl|rfl<;>rfl) (by unfold maxLen;omega) (by omega) (by omega)
   rw [a0B,List.nil_append] at m;have A:0<c.length:=List.length_pos_iff.2 h0;obtain ⟨g,t,rfl,_⟩:=World.ownsRow.form m A;refine ⟨⟨g,0,none⟩,t,f,n,m,v,?_⟩;rcases k with k|k
   · left;simpa [a0p] using k
   · right;simpa [a0p] using k
structure dh (B:Nat) (w0 wr:a0i) (kd lv:UInt8) (v:a0j):Prop where
 below:a0q B w0 wr
 big:B+2<=wr.heap.size
 z0:wr.cell? ⟨B,0,none⟩=some (.int .u8 0)
 z1:wr.cell? ⟨B,1,none⟩=some (.int .u8 0)
 z2:wr.cell? ⟨B,2,none⟩=some (.slice none 0 0)
 y0:wr.frozen? ⟨B,0,none⟩=false
 y1:wr.frozen? ⟨B,1,none⟩=false
 y2:wr.frozen? ⟨B,2,none⟩=false
 c0:wr.cell? ⟨B+1,0,none⟩=some (.int .u8 kd.toNat)
 c1:wr.cell? ⟨B+1,1,none⟩=some (.int .u8 lv.toNat)
 c2:wr.cell? ⟨B+1,2,none⟩=some v
 x0:wr.frozen? ⟨B+1,0,none⟩=false
 x1:wr.frozen? ⟨B+1,1,none⟩=false
 x2:wr.frozen? ⟨B+1,2,none⟩=false
theorem dh.far {B:Nat} {f wr d:a0i} {j l:UInt8} {v:a0j} (h:dh B f wr j l v) (m:a0q B f d) (g:∀k,k<B+2->d.heap[k]? =wr.heap[k]?) (n:B+2<=d.heap.size):dh B f d j l v:=by
 have a:∀b i,b<B+2->d.cell? ⟨b,i,none⟩=wr.cell? ⟨b,i,none⟩:=λb i e=>a0y (g b e);have c:∀b i,b<B+2->d.frozen? ⟨b,i,none⟩=wr.frozen? ⟨b,i,none⟩:=λb i e=>a0s (g b e)
 exact ⟨m,n,by rw [a _ _ (by omega)];exact h.z0,by rw [a _ _ (by omega)];exact h.z1,by rw [a _ _ (by omega)];exact h.z2,
  by rw [c _ _ (by omega)];exact h.y0,by rw [c _ _ (by omega)];exact h.y1,by rw [c _ _ (by omega)];exact h.y2,by rw [a _ _ (by omega)];exact h.c0,by rw [a _ _ (by omega)];exact h.c1,by rw [a _ _ (by omega)];exact h.c2,
  by rw [c _ _ (by omega)];exact h.x0,by rw [c _ _ (by omega)];exact h.x1,by rw [c _ _ (by omega)];exact h.x2⟩
theorem dh.keep {B:Nat} {d wr e:a0i} {b c:UInt8} {v:a0j} (h:dh B d wr b c v) (a:a0q wr.heap.size wr e):dh B d e b c v:=
 h.far (btr h.below a (by have:=h.big;omega)) (λk f=>a.block k (by have:=h.big;omega)) (a0C h.big a.size)
theorem dh.put {B:Nat} {c wr:a0i} {a b:UInt8} {v:a0j} (h:dh B c wr a b v) (g j:Nat) (d:B+2<=g) (u:a0j):dh B c (wr.setCell ⟨g,j,none⟩ u) a b v:=
 h.far (h.below.setCell (by simp;omega) _) (λk e=>a0a _ _ _ _ (by simp;omega)) (by simpa using h.big)
theorem dh.grown {B:Nat} {i wr c:a0i} {d f:UInt8} {v:a0j} (h:dh B i wr d f v) {g:Option Nat} (a:wr.grownBy c g) (l:∀k,g=some k->B+2<=k):dh B i c d f v:=by
 have b:∀k,k<B+2->c.heap[k]? =wr.heap[k]? :=λk b=>a.block k (Nat.lt_of_lt_of_le b h.big) (by intro e;have:=l k e.symm;omega);exact h.far ⟨a.os.trans h.below.os,a.tape.trans h.below.tape,a.output.trans h.below.output,a0C h.below.size a.size,λk j=>(b k (by omega)).trans (h.below.block k j)⟩ b (a0C h.big a.size)
theorem dh.set2 {B:Nat} {d wr:a0i} {a b:UInt8} {v:a0j} (h:dh B d wr a b v) (c:a0j):dh B d (wr.setCell ⟨B+1,2,none⟩ c) a b c:=by
 have f:=h.z0;have g:=h.z1;have i:=h.z2;have e:=h.c0;have c1:=h.c1;have c2:=h.c2;refine ⟨h.below.setCell (by simp) _,by simpa using h.big,?_,?_,?_,by rw [aF];exact h.y0,by rw [aF];exact h.y1,by rw [aF];exact h.y2,?_,?_,?_,by rw [aF];exact h.x0,by rw [aF];exact h.x1,by rw [aF];exact h.x2⟩;all_goals (clear h;go_simp)
theorem dh.set0 {B:Nat} {b wr:a0i} {d a:UInt8} {v:a0j} (h:dh B b wr d a v) (c:UInt8):dh B b (wr.setCell ⟨B+1,0,none⟩ (.int .u8 c.toNat)) c a v:=by
 have f:=h.z0;have g:=h.z1;have i:=h.z2;have e:=h.c0;have c1:=h.c1;have c2:=h.c2;refine ⟨h.below.setCell (by simp) _,by simpa using h.big,?_,?_,?_,by rw [aF];exact h.y0,by rw [aF];exact h.y1,by rw [aF];exact h.y2,?_,?_,?_,by rw [aF];exact h.x0,by rw [aF];exact h.x1,by rw [aF];exact h.x2⟩;all_goals (clear h;go_simp)
theorem dh.set1 {B:Nat} {b wr:a0i} {a d:UInt8} {v:a0j} (h:dh B b wr a d v) (c:UInt8):dh B b (wr.setCell ⟨B+1,1,none⟩ (.int .u8 c.toNat)) a c v:=by
 have f:=h.z0;have g:=h.z1;have i:=h.z2;have e:=h.c0;have c1:=h.c1;have c2:=h.c2;refine ⟨h.below.setCell (by simp) _,by simpa using h.big,?_,?_,?_,by rw [aF];exact h.y0,by rw [aF];exact h.y1,by rw [aF];exact h.y2,?_,?_,?_,by rw [aF];exact h.x0,by rw [aF];exact h.x1,by rw [aF];exact h.x2⟩;all_goals (clear h;go_simp)
theorem xy (ps:List (af×a0j)):∀(m i:Nat) (u:a0j) (q:af×a0j) (a:m<ps.length),i<4->(fieldCells ps[m]).set i u=fieldCells q->(ps.flatMap fieldCells).set (m * 4+i) u=(ps.set m q).flatMap fieldCells:=by
 induction ps with
 |nil=>intro m i u q a;simp at a
 |cons p ps ih=>
  intro m i u q a d b;cases m with
  |zero=> simp only [List.getElem_cons_zero] at b;rw [a0t,List.set_append_left _ _ (by simp [fieldCells];omega),a0H,a0B,b];rfl
  |succ m=>
   simp only [List.getElem_cons_succ] at b;have c:(fieldCells p).length=4:=by simp [fieldCells]
   rw [a0t,List.set_append_right _ _ (by rw [c];omega),c,show (m+1) * 4+i - 4=m * 4+i from by omega,ih m i u q (by simpa using a) d b];rfl
theorem xA (ps:List (af×a0j)):∀(m i:Nat) (a:m<ps.length),i<4->(ps.flatMap fieldCells)[m * 4+i]? =(fieldCells ps[m])[i]? :=by
 induction ps with
 |nil=>intro m i a;simp at a
 |cons p ps ih=>
  intro m i a c;have b:(fieldCells p).length=4:=by simp [fieldCells]
  cases m with
  |zero=>rw [a0t,List.getElem?_append_left (by rw [b];omega),a0H,a0B];rfl
  |succ m=>rw [a0t,List.getElem?_append_right (by rw [b];omega),b,show (m+1) * 4+i - 4=m * 4+i from by omega,ih m i (by simpa using a) c];rfl
theorem sj {lo:Nat} {w:a0i} {g c n:Nat} {ps:List (af×a0j)} (h:w.ownsRow lo 123 4 (.slice (some ⟨g,0,none⟩) n c) n (ps.flatMap fieldCells)) (m:Nat) (b:m<ps.length):
 w.cell? ⟨g,m * 4,none⟩=some (S ps[m].1.tag)/\w.cell? ⟨g,m * 4+1,none⟩=some (S ps[m].1.ind)/\w.cell? ⟨g,m * 4+2,none⟩=some (S ps[m].1.data)/\w.cell? ⟨g,m * 4+3,none⟩=some ps[m].2/\
  ∀i,w.frozen? ⟨g,i,none⟩=false:=by
 have e:(ps.flatMap fieldCells).length=ps.length * 4:=by
  clear h b;induction ps with
  |nil=>rfl
  |cons p ps ih=>rw [a0t,a0z,ih];simp [fieldCells];omega
 have f:n * 4=ps.length * 4:=by rw [<- e];exact h.1.symm
 have a:∀i,i<4->w.cell? ⟨g,m * 4+i,none⟩=(fieldCells ps[m])[i]? :=λi d=>by rw [h.cellAt (m * 4+i) (by omega),xA ps m i b d]
 exact ⟨a 0 (by omega),a 1 (by omega),a 2 (by omega),a 3 (by omega),λi=>h.frozenAt i⟩
theorem bG.put {lo:Nat} {w:a0i} {g c n:Nat} (ps:List (af×a0j)) (s:n=ps.length) (m i:Nat) (r:m<ps.length) (j:∀k (d:k<ps.length),k≠m->bh lo (some g) w ps[k].2 ps[k].1.subs) (l:w.ownsRow lo 123 4 (.slice (some ⟨g,0,none⟩) n c) n (ps.flatMap fieldCells))
 (o:i<4) (u:a0j) (q:af×a0j) (v:(fieldCells ps[m]).set i u=fieldCells q) (y:bh lo (some g) w q.2 q.1.subs):
 bG lo (w.setCell ⟨g,m * 4+i,none⟩ u) (.slice (some ⟨g,0,none⟩) n c) ((ps.set m q).map (·.1)):=by
 have f:∀x b,bh lo (some g) w x b->bh lo (some g) (w.setCell ⟨g,m * 4+i,none⟩ u) x b:=λx b h=>
  h.step (λk _ _ a=>a0a _ _ _ _ (by intro e;exact a (by rw [e]))) (by simp) (.inl rfl)
 refine ⟨⟨ps.set m q,rfl,λp t=>?_,?_⟩⟩
 · obtain ⟨k,d,rfl⟩:=List.getElem_of_mem t;rw [List.getElem_set];split
   · exact f _ _ y
   · rename_i a;exact f _ _ (j k (by simpa using d) (λe=>a e.symm))
 · have:=(l.stored (m * 4+i) u).1;rw [xy ps m i u q r o v] at this;simpa [s] using this
theorem cC (f:af):(fieldBytes f).length=f.data.length+f.ind.length+(f.subs.flatMap aQ).length+1:=by simp [fieldBytes];omega
theorem Aa {B:Nat} {q wr a r:a0i} {t u:UInt8} {v c:a0j} {m:List af} (o:Obj) (f:af) (d:a0j) (j:Nat) (D:dh B q wr t u v) (O:dV (B+2) wr v m)
 (K:a0q B q a) (h:∀k,k<wr.heap.size->a.heap[k]? =wr.heap[k]?) (hz:wr.heap.size<=a.heap.size) (C:a.ownsRow (B+2) 120 2 d f.subs.length (f.subs.flatMap subCells)) (M:d.ownBlock=some j) (a1:wr.heap.size<=j)
 (w:List a0j) (V:wr.ownsRow (B+2) 123 4 v m.length w) (P:r.ownsRow (B+2) 123 4 c (m.length+1) (w++fieldCells (f,d))) (b:(a.alloc o).grownBy r v.ownBlock)
 (T:c.ownBlock=v.ownBlock∨c.ownBlock=some (a.alloc o).heap.size):
 dh B q (r.setCell ⟨B+1,2,none⟩ c) t u c/\dV (B+2) (r.setCell ⟨B+1,2,none⟩ c) c (m++[f]):=by
 have a0:=D.big;have N:dh B q a t u v:=D.far K (λk a2=>h k (by omega)) (by omega);obtain ⟨ps,I,A,n,J⟩:=O.ex;have U:w=ps.flatMap fieldCells:=by
  have y:=V;have z:=A;rcases y.2 with ⟨_,H⟩|⟨g,W,Y,rfl,_,L,_,_,_,Q⟩
  · have F:=y.1;have G:=z.1;rw [H,a0H] at F G;rw [a0n F,a0n G]
  · rcases z.2 with ⟨s,_⟩|⟨g',X,Z,s,_,i,_,_,_,R⟩
    · cases s
    · injection s with ha _ _
      injection ha with ha
      injection ha with ha
      subst ha;rw [L] at i;injection i with i
      injection i with i
      subst i;rw [<- Q, <- R]
 subst U;have x:∀k,k<a.heap.size->(a.alloc o).heap[k]? =a.heap[k]? :=λk h=>a0m a o k h;have E:∀g,v.ownBlock=some g->B+2<=g/\g<wr.heap.size:=λg b=>A.lt g b;refine ⟨((N.keep (aN a o)).grown b (λk h=>(E k h).1)).set2 c,?_⟩;refine (dV.app f d ps I (λp l=>⟨cr (n p l).1 (λg b=>?_),(n p l).2⟩) J (cr C (λg b=>x g (C.lt g b).2)) j M (λe=>?_) (λp l e=>?_) P b T).far (λk h _=>a0a _ _ _ _ (by simp;omega))
 · have:=((n p l).1.lt g b).2;rw [x g (by omega),h g this]
 · have:=(E j e).2;omega
 · have:=((n p l).1.lt j e).2;omega
theorem z8 {B:Nat} {i a b:a0i} {g h:UInt8} {v:a0j} {f:Option Nat} {o:Obj} (d:dh B i a g h v) (c:(a.alloc o).grownBy b f) (e:∀k,f=some k->B+2<=k):b.cell? ⟨B+1,2,none⟩=some v/\b.frozen? ⟨B+1,2,none⟩=false:=
 ⟨((d.keep (aN a o)).grown c e).c2,((d.keep (aN a o)).grown c e).x2⟩
end
section
open Go.RowKit
attribute [local go_sem ↓] Go.wp_at_zero Go.wp_at_succ
theorem zj {l:List Bs} {k:Nat} (h:k<l.length):l.getD k []∈l:=by
 rw [a0u,List.getElem?_eq_getElem h];exact a0r h
theorem nL (w:a0i) (l:List Bs) (T:TypeId) (k:Nat) (h:k<l.length):(w.alloc (.cells (l.map S).toArray T)).cell? ⟨w.heap.size,k,none⟩=some (S (l.getD k [])):=by
 have a:(w.alloc (.cells (l.map S).toArray T)).heap[w.heap.size]? =some (.cells (l.map S).toArray T (0,0)):=a0k w _;rw [aa a];simp [a0u,h]
theorem j9 (n:Int) (M:Nat) (h:0<M):∃m:Nat,n.emod M=m/\m<M:=by
 have a:0<=n.emod M:=Int.emod_nonneg n (by omega);have b:n.emod M<M:=a0A n (by omega);exact ⟨(n.emod M).toNat,(Int.toNat_of_nonneg a).symm,by omega⟩
theorem p6 (n a:Int) (M m:Nat) (c:1<=M) (d:M<=1000000) (b:a=M) (h:n.emod M=m) (W:a0i):a0G a0f 24 #[.int .i64 n, .int .i64 a] W λe w'=>e= .returned (.int .i64 (m:Int))/\W=w':=by
 subst b;refine (jj n M W (by omega) (by omega)).mono ?_;rintro e w' ⟨rfl,rfl⟩;rw [h];exact ⟨rfl,rfl⟩
theorem oh (l:List Bs) (n:Int) (M m:Nat) (a:l.length=M) (h:n.emod M=m):pick l n=l.getD m []:=by
 unfold pick;rw [a,h];rfl
theorem nB (z:Int):z%256=((u8I z).toNat:Int):=by
 unfold u8I;have b:0<=z%256:=Int.emod_nonneg z (by omega);have c:z%256<256:=a0A z (by omega);have a:z.emod 256=z%256:=rfl;rw [a,UInt8.toNat_ofNat',Nat.mod_eq_of_lt (by omega)];omega
theorem wj (z:Int):IntKind.u8.wrap z=((u8I z).toNat:Int):=by rw [IntKind.wrap_u8];exact nB z
theorem rU {ps:List (af×a0j)} {a:List af} (h:ps.map (·.1)=a) (m:Nat) (j:m<ps.length) (g:af->af) (b:af) (c:a0j) (f:g ps[m].1=b):(ps.set m (b,c)).map (·.1)=a.modify m g:=by
 rw [List.map_set,h];have n:m<a.length:=by rw [<- h,List.length_map];exact j
 have e:a[m]=ps[m].1:=by simp [<- h]
 refine List.ext_getElem (by simp) (λi k l=>?_);rw [List.getElem_set,List.getElem_modify];split
 · rename_i d;subst d;rw [e,f]
 · rfl
theorem uc (w:a0i) (x y:a0j) (t:TypeId):∀j v,[x,y][j]? =some v->(w.alloc (.cells #[x,y] t)).cell? ((⟨w.heap.size,0,none⟩:Addr).add j)=some v:=by
 intro j v a;match j,a with
 |0,a=>simp at a;subst a;simp [Addr.add]
 |1,a=>simp at a;subst a;simp [Addr.add]
theorem nu {w:a0i} {b:Array Oper} {c:List Oper} {o:Oper} {a:Act} {Q:Exit->Act->a0i->Prop} (g:o.guard=none) (d x:Operand)
 (i:o.op= .call {callee:= .builtin .append,args:= #[d,x],argTypes:= #[121,121]}) (l:o.type=121) (v u e:a0j) (w':a0i) (k:a.eval d=v) (m:a.eval x=u)
 (j:(a0J #[121,121] 121 #[v,u]).run a0f w= .ok e w') (h:wpList a0f b Q c (a.put o.dst e) w'):wpList a0f b Q (o::c) a w:=by
 refine wpList_plain g λK f=>?_;unfold Oper.wp execOp;simp only [i,l,resolve,invoke,builtin,Sem.run_bind,Sem.run_pure,Result.andThen_ok,List.map_toArray,List.map_cons,List.map_nil,k,m,j];exact f _ _ h
abbrev recO (a b:UInt8) (v:a0j):Obj:=a0h #[.int .u8 a.toNat, .int .u8 b.toNat,v] 62
abbrev numsO (a b c:Int):Obj:=a0h #[.int .i64 a, .int .i64 b, .int .i64 c] 162
abbrev A3:Obj:=a0h #[.int .u8 0, .int .u8 0, .slice none 0 0] 62
theorem dh.init (w:a0i) (a b:UInt8):dh w.heap.size w ((w.alloc A3).alloc (recO a b (.slice none 0 0))) a b (.slice none 0 0):=by
 refine ⟨((a0l _ w).alloc (a0o _) _).alloc (by simp) _,by simp,?_,?_,?_,?_,?_,?_,?_,?_,?_,?_,?_,?_⟩;all_goals go_simp
theorem AR (w:a0i) (d e:UInt8) (v:a0j) (a b c:Int) (W:a0i) (h:a0q (w.heap.size+2) ((w.alloc (recO d e v)).alloc (numsO a b c)) W):
 W.cell? ⟨w.heap.size,2,none⟩=some v/\W.cell? ⟨w.heap.size+1,0,none⟩=some (.int .i64 a)/\W.cell? ⟨w.heap.size+1,1,none⟩=some (.int .i64 b)/\W.cell? ⟨w.heap.size+1,2,none⟩=some (.int .i64 c):=by
 refine ⟨?_,?_,?_,?_⟩<;>(rw [h.cell (p:=⟨_,_,none⟩) (by simp)];go_simp)
abbrev nI:Obj:=a0h #[S [],S [31],S [30],S [97,29,98],S [255],S [195],S [237,160,128],S [224,128,128],S [127],S [195,169],S [116,97,98,9]] 9
theorem bG.far {lo:Nat} {w w':a0i} {v:a0j} {a:List af} (h:bG lo w v a) (b:∀k,lo<=k->k<w.heap.size->w'.heap[k]? =w.heap[k]?) (c:w.heap.size<=w'.heap.size):bG lo w' v a:=h.keep b c
abbrev jf:Obj:=a0h #[S [48,48,48],S [50,52],S [50,52,53,53],S [50,52,97],S [],S [48,48,49],S [50,52,53]] 9
abbrev jq:Obj:=a0h #[S [],S [49],S [49,50,51],S [31,48],S [32,126],S [48,127]] 9
def ug (R:aB) (B:Nat) (c b:a0i):Prop:=∃(a:Option Addr) (vc:Nat),Hid (dh B c b R.kind R.level (.slice a R.fields.length vc))/\Hid (bG (B+2) b (.slice a R.fields.length vc) R.fields)
theorem tD {w d wr:a0i} {B:Nat} {R:aB} {v:a0j} (h:a0q w.heap.size w d) (g:w.heap.size<=B) (k:dh B d wr R.kind R.level v) (b:bG (B+2) wr v R.fields) (e:Ending)
 (i:e= .returned (.agg #[.int .u8 R.kind.toNat, .int .u8 R.level.toNat,v])):∃(c:Option Addr) (cb:Nat),e= .returned (.agg #[.int .u8 R.kind.toNat, .int .u8 R.level.toNat, .slice c R.fields.length cb])/\
  a0q w.heap.size w (((wr.setCell ⟨B,0,none⟩ (.int .u8 R.kind.toNat)).setCell ⟨B,1,none⟩ (.int .u8 R.level.toNat)).setCell ⟨B,2,none⟩ v)/\
  ai w.heap.size (((wr.setCell ⟨B,0,none⟩ (.int .u8 R.kind.toNat)).setCell ⟨B,1,none⟩ (.int .u8 R.level.toNat)).setCell ⟨B,2,none⟩ v).heap.size (((wr.setCell ⟨B,0,none⟩ (.int .u8 R.kind.toNat)).setCell ⟨B,1,none⟩ (.int .u8 R.level.toNat)).setCell ⟨B,2,none⟩ v) (.slice c R.fields.length cb) R.fields:=by
 obtain ⟨a,f,rfl⟩:=b.shape;refine ⟨a,f,i,(((btr h k.below g).setCell (by simp;omega) _).setCell (by simp;omega) _).setCell (by simp;omega) _,?_⟩;exact (b.keep (λj l _=>by rw [a0a _ _ _ _ (by simp;omega),a0a _ _ _ _ (by simp;omega),a0a _ _ _ _ (by simp;omega)]) (by simp)).fields (by omega)
set_option linter.unusedSimpArgs false in
set_option maxHeartbeats 8000000 in
set_option maxRecDepth 100000 in
theorem rS (H C:UInt8) (r:List af) (sa:Option Addr) (ax:Nat) (n:Nat) (iQ:n<=7) (q l:Int) (w:a0i) (hf:ai 0 w.heap.size w (.slice sa r.length ax) r) (hN:r.length<=5000) (hM:∀f∈r,(fieldBytes f).length<=50000):
 a0G a0f 84 #[.agg #[.int .u8 H.toNat, .int .u8 C.toNat, .slice sa r.length ax], .agg #[.int .i64 (n:Int), .int .i64 q, .int .i64 l]] w λe w'=>∃(sb:Option Addr) (cb:Nat),
  e= .returned (.agg #[.int .u8 (spoilR ⟨H,C,r⟩ n q l).kind.toNat, .int .u8 (spoilR ⟨H,C,r⟩ n q l).level.toNat, .slice sb (spoilR ⟨H,C,r⟩ n q l).fields.length cb])/\a0q w.heap.size w w'/\
  ai w.heap.size w'.heap.size w' (.slice sb (spoilR ⟨H,C,r⟩ n q l).fields.length cb) (spoilR ⟨H,C,r⟩ n q l).fields:=by
 obtain ⟨R,hR⟩:∃R,spoilR ⟨H,C,r⟩ n q l=R:=⟨_,rfl⟩;rw [hR];have HR:=a0b hR;clear hR;obtain ⟨q0,dB⟩:∃q0:Int,(n:Int)=q0:=⟨_,rfl⟩;rw [dB];obtain ⟨mt,dd,g3⟩:=j9 l 11 (by omega);have es:Hid (textsL.getD mt []=pick textsL l):=(oh textsL l 11 mt rfl dd).symm;have gp:Hid (∀W,a0G a0f 24 #[.int .i64 l, .int .i64 11] W λe w'=>e= .returned (.int .i64 (mt:Int))/\W=w'):=p6 l 11 11 mt (by omega) (by omega) rfl dd;have g8:Hid (∀W,a0G a0f 24 #[.int .i64 q0, .int .i64 10] W λe w'=>e= .returned (.int .i64 (n:Int))/\W=w'):=p6 q0 10 10 n (by omega) (by omega) rfl (by show q0%10=n;omega);have i4:=a0b dB;clear dd dB;have HF:Hid (∀W,a0q w.heap.size w W->ai 0 w.heap.size W (.slice sa r.length ax) r):=λW h=>hf.kept (bd h (a0o _));have HM:=a0b hM;have HQ:Hid (∀W,a0q (w.heap.size+2) ((w.alloc (recO H C (.slice sa r.length ax))).alloc (numsO q0 q l)) W->_):=λW h=>AR w H C (.slice sa r.length ax) q0 q l W h;obtain ⟨Y,b4⟩:∃Y,Y=((w.alloc (recO H C (.slice sa r.length ax))).alloc (numsO q0 q l)):=⟨_,rfl⟩;have hL:Y.heap.size=w.heap.size+2:=by rw [b4];simp
 have HI:=dh.init Y H C;rw [hL,b4] at HI;have HI:=a0b HI;have b5:Hid (a0q w.heap.size w Y):=by rw [b4];exact ((a0l _ w).alloc (a0o _) _).alloc (by simp) _
 rw [<- b4] at HQ;have hd:=a0b b4;clear hf hM b4;go_enter Tryz.func84,Tryz.ntmps84;go_wp2_with fail
 go_loopw [6] (λi wr=>∃(k:Nat) (o:List af) (va:Option Addr) (N:Nat),i= .int .i64 k/\k<=r.length/\Hid (o=r.take k)/\Hid (o.length=k)/\o.length<=5000/\Hid (dh (w.heap.size+2) Y wr H C (.slice va o.length N))/\Hid (dV (w.heap.size+2+2) wr (.slice va o.length N) o)) (λi _=>r.length - (intOf i).toNat)
 case atStart=>exact ⟨0,[],none,0,rfl,by omega,by simp [Hid],rfl,by simp,by rw [hd.out];exact HI,dV.nil _ _⟩
 case round=>
  obtain ⟨k,o,va,N,rfl,j,al,bY,fr,HH,HO⟩:=hrel;have U:=HH.below;obtain ⟨b2,c7,bc,av⟩:=HQ wr U;have c9:=HH.big;by_cases hlt:k<r.length
  · obtain ⟨b,j1,f2,d,hv,_,it,hD,hF,hG,j0,e7⟩:=(HF.out _ (btr b5.out U (by omega))).field k hlt;cases hv;obtain ⟨f,d3⟩:∃f,r[k]=f:=⟨_,rfl⟩;have fl:=HM _ (a0r hlt);have gt:Hid (o++[f]=r.take (k+1)):=by rw [al.out,List.take_succ_eq_append_getElem hlt,d3];rfl
    rw [d3] at hD hF hG e7 fl;have ej:f.subs.length<=1000000:=by have:=cF f;omega
    clear d3;obtain ⟨z,A,rfl⟩:∃z A,d= .slice z f.subs.length A:=by obtain ⟨a,c,h,_⟩:=e7;exact ⟨a,c,h⟩
    obtain ⟨W5,aC⟩:∃W5,W5=(wr.alloc (a0h #[S f.tag,S f.ind,S f.data, .slice z f.subs.length A] 123)).alloc (a0h #[] 120):=⟨_,rfl⟩;have aS:a0q wr.heap.size wr W5:=by rw [aC];exact ((a0l _ wr).alloc (a0o _) _).alloc (by simp) _
    have fc:W5.heap.size=wr.heap.size+2:=by rw [aC];simp
    have f5:W5.heap[wr.heap.size+1]? =some (.cells #[] 120 (0,0)):=by rw [aC];have:=heap_alloc_new (wr.alloc (a0h #[S f.tag,S f.ind,S f.data, .slice z f.subs.length A] 123)) (a0h #[] 120);simpa using this
    have f6:W5.heap[wr.heap.size]? =some (a0h #[S f.tag,S f.ind,S f.data, .slice z f.subs.length A] 123):=by rw [aC,a0m _ _ _ (by simp)];exact heap_alloc_new _ _
    obtain ⟨B,G,y,e6,fy,ao,he⟩:=vB (w.heap.size+2+2) W5 (wr.heap.size+1) (.slice z f.subs.length A) f.subs f5 ((e7.kept (bd aS (by have:=b5.out.size;have:=U.size;omega))).mono (a0o _) (by rw [fc];have:=b5.out.size;have:=U.size;omega)) ej (by omega);have ay:y.heap[wr.heap.size]? =some (a0h #[S f.tag,S f.ind,S f.data, .slice z f.subs.length A] 123):=by rw [ao.block _ (by omega) (by intro e;injection e with e;omega)];exact f6
    have e3:y.cell? ⟨wr.heap.size,3,none⟩=some (.slice z f.subs.length A):=by simp [a0D,ay,a0h]
    have x3:y.frozen? ⟨wr.heap.size,3,none⟩=false:=by simp [World.frozen?,ay,a0h]
    have e0:(y.setCell ⟨wr.heap.size,3,none⟩ (.slice (some B) f.subs.length G)).cell? ⟨wr.heap.size,0,none⟩=some (S f.tag):=by rw [a0v _ _ _ _ (by simp)];simp [a0D,ay,a0h]
    have e1:(y.setCell ⟨wr.heap.size,3,none⟩ (.slice (some B) f.subs.length G)).cell? ⟨wr.heap.size,1,none⟩=some (S f.ind):=by rw [a0v _ _ _ _ (by simp)];simp [a0D,ay,a0h]
    have e2:(y.setCell ⟨wr.heap.size,3,none⟩ (.slice (some B) f.subs.length G)).cell? ⟨wr.heap.size,2,none⟩=some (S f.data):=by rw [a0v _ _ _ _ (by simp)];simp [a0D,ay,a0h]
    have e4:(y.setCell ⟨wr.heap.size,3,none⟩ (.slice (some B) f.subs.length G)).cell? ⟨wr.heap.size,3,none⟩=some (.slice (some B) f.subs.length G):=World.cell?_setCell_same _ _ _ e3;have bk:∀k,k<wr.heap.size->(y.setCell ⟨wr.heap.size,3,none⟩ (.slice (some B) f.subs.length G)).heap[k]? =wr.heap[k]? :=λk j=>by rw [a0a _ _ _ _ (by simp;omega),ao.block k (by omega) (by intro e;injection e with e;omega),aS.block k j]
    have ia:wr.heap.size+2<=(y.setCell ⟨wr.heap.size,3,none⟩ (.slice (some B) f.subs.length G)).heap.size:=by have:=ao.size;simp;omega
    have cz:a0q (w.heap.size+2) Y (y.setCell ⟨wr.heap.size,3,none⟩ (.slice (some B) f.subs.length G)):=
     ⟨by rw [show (y.setCell ⟨wr.heap.size,3,none⟩ (.slice (some B) f.subs.length G)).os=y.os from rfl];exact ao.os.trans (aS.os.trans U.os),ao.tape.trans (aS.tape.trans U.tape),ao.output.trans (aS.output.trans U.output),by have:=U.size;omega,
      λk j=>(bk k (by omega)).trans (U.block k j)⟩
    have f3:(y.setCell ⟨wr.heap.size,3,none⟩ (.slice (some B) f.subs.length G)).ownsRow (w.heap.size+2+2) 120 2 (.slice (some B) f.subs.length G) f.subs.length (f.subs.flatMap subCells):=
     cr fy (λg hg=>a0a _ _ _ _ (by simp [a0p] at hg;simp;omega))
    have fr:wr.heap.size<=B.block:=by omega
    obtain ⟨ps,_,bw,_⟩:=HO.ex;have f4:(y.setCell ⟨wr.heap.size,3,none⟩ (.slice (some B) f.subs.length G)).ownsRow (w.heap.size+2+2) 123 4 (.slice va o.length N) o.length (ps.flatMap fieldCells):=cr bw (λg hg=>bk g (bw.lt g hg).2);have cP:=HH.out.far cz (λk j=>bk k (by omega)) (by omega);have e5:=cP.c2;have ha:Hid (∀k,(Value.slice va o.length N).ownBlock=some k->w.heap.size+2+2<=k):=λk j=>(bw.lt k j).1;rw [aC] at e6;have eQ:=a0b e6;have b9:=a0b bw;clear aC aS fc f5 f6 ay e6 fy ao he bw;go_upto_region 7 with (at_builtin;refine nu rfl _ _ rfl rfl _ _ _ _ rfl rfl eQ.out ?_)
    generalize (y.setCell ⟨wr.heap.size,3,none⟩ (.slice (some B) f.subs.length G))=w7 at *;have gO:=a0b bk;have g7:=a0b cz;have gq:=a0b f3;have c4:=a0b f4;have I:=a0b cP;obtain ⟨i0,hi,a7,a8,a9⟩:=a0I Aw;have HI:=a0b hi;have b6:=a0b a7;have b7:=a0b a8;have b8:=a0b a9;clear bk cz f3 f4 cP hi a7 a8 a9 eQ;go_wp2_with (at_builtin;refine wpList_append_own_at _ rfl _ _ 60 rfl (w.heap.size+2+2) 123 i0 (.agg #[.string ⟨#[]⟩, .string ⟨#[]⟩, .string ⟨#[]⟩, .slice none 0 0]) 4 72 Tryz.underlying60 HI.out b6.out b7.out b8.out rfl (by omega) (.slice va o.length N) o.length _ rfl (c4.out.alloc _) ⟨w7.heap.size,0,none⟩ 1 1 [S f.tag,S f.ind,S f.data, .slice (some B) f.subs.length G] rfl rfl (ub _ _ _ _ _ _) (by simp [a0F]) (by unfold maxLen;omega) (by omega) (by simp;omega) ?_;intro X w8 dy M _ a0;obtain ⟨g4,g5,rfl⟩:=bH dy;have gQ:=a0b dy;have gx:=a0b M;have g6:=a0b a0;obtain ⟨e8,f8⟩:=z8 I.out M ha.out;clear dy M a0)
    go_roundw
    case rel=>
     have:=Aa _ f (.slice (some B) f.subs.length G) B.block HH.out HO.out g7.out gO.out (by omega) gq.out rfl fr _ b9.out gQ.out gx.out g6.out;refine ⟨k+1,o++[f],g4,g5,by go_num,by omega,gt,by rw [a0z,bY.out];rfl,by have:=bY.out;simp;omega,?_,?_⟩
     · simpa [Hid] using this.1
     · simpa [Hid] using this.2
    case measure=>simp [intOf];omega
  · have hA:k=r.length:=by omega
    have iv:o.length<=5000:=by rw [bY.out];omega
    have gy:Hid (∀f∈o,(fieldBytes f).length<=50000):=λf hf=>HM.out f (by rw [al.out] at hf;exact List.mem_of_mem_take hf);have bO:Hid (o=r):=by unfold Hid;rw [al.out,List.take_of_length_le (by omega)]
    clear al bY HF HM c7 bc av;generalize wr=w4 at *;have f1:Hid ((w4.alloc nI).cell? ⟨w4.heap.size,mt,none⟩=some (S (pick textsL l))):=by unfold Hid;rw [<- es.out];exact nL w4 textsL 9 mt g3
    have D:=a0b (HH.keep (aN w4 nI));have c3:=a0b (HO.keep (aN w4 nI));go_upto_region 9 with fail
    clear b2 j hlt hA;generalize (w4.alloc nI)=w5 at *;obtain ⟨b2,c7,bc,av⟩:=HQ w5 D.below;go_cut [9] (λt wx=>t=S (pick textsL l)/\wx=w5)
    case first=>
     have hx:=f1.out;have iP:(mt:Int)<11:=by omega
     go_wp2_with (go_at_call 24;((with_reducible refine a0g (gp.out _) ?_);rintro e w' ⟨rfl,rfl⟩))
     go_meet;exact ⟨rfl,rfl⟩
    case rest=>
     obtain ⟨rfl,hJ⟩:=hcut;obtain ⟨T,hT⟩:∃T,pick textsL l=T:=⟨_,rfl⟩;have ib:T.length<=10:=by
      rw [<- hT, <- es.out];have:∀x∈textsL,x.length<=10:=by decide
      exact this _ (zj g3)
     have cx:=a0b hT;rw [hT];clear hT;subst hJ;generalize wc=y at *;clear f1 HH HO c9 U;have U:=D.below;have c9:=D.big;have c0:=D.c0;have c1:=D.c1;have c2:=D.c2;have x0:=D.x0;have z0:=D.z0;have z1:=D.z1;have z2:=D.z2;have y0:=D.y0;have y1:=D.y1;have y2:=D.y2;by_cases J:o.length=0
     · have hc:=nB q;obtain ⟨c,V⟩:∃c,u8I q=c:=⟨_,rfl⟩;have a4:o=[]:=a0n J;have bb:Hid (R=⟨c,C,[]⟩):=by unfold Hid;rw [<- HR.out, <- bO.out,a4, <- V];rfl
       rw [V] at hc;subst a4;have hh:=D.set0 c;have E:=c3.out.toRec.far (w':=y.setCell ⟨w.heap.size+2+1,0,none⟩ (.int .u8 c.toNat)) (λk j _=>a0a _ _ _ _ (by simp;omega)) (by simp);have gz:=a0b hh;have h6:=a0b E;clear hh E;clear V;go_wp2_with fail
       all_goals
        refine bodyPost_ret (v:= .agg #[.int .u8 c.toNat, .int .u8 C.toNat, .slice va 0 N]) (by simp only [results,Tryz.results84];go_simp) rfl ?_
        rw [bb.out]
        exact tD b5.out (by omega) gz.out h6.out _ rfl
     · have cm:0<o.length:=by omega
       obtain ⟨g,i6,hH,fp,hw⟩:∃g f2,Value.slice va o.length N= .slice (some ⟨g,0,none⟩) o.length f2/\w.heap.size+2+2<=g/\g<y.heap.size:=by obtain ⟨_,_,h2,_⟩:=c3.ex;exact h2.form cm
       cases hH;clear x0 z0 z1 z2 y0 y1 y2 c0 c1;go_upto_region 13 with fail
       obtain ⟨m,d8,hm⟩:=j9 q o.length (by omega);have gn:Hid (∀W,a0G a0f 24 #[.int .i64 q, .int .i64 (o.length:Int)] W λe w'=>e= .returned (.int .i64 (m:Int))/\W=w'):=p6 q _ o.length m (by omega) (by omega) rfl d8;have gP:=a0b d8;clear d8;go_cut [10] (λt wx=>t= .pointer (some ⟨g,m * 4,none⟩)/\a0q y.heap.size y wx)
       case first=>
        have t1:(0:Int)<=0:=by omega
        go_region_held3 (λw'=>w'.cell? ⟨w.heap.size+2+1,2,none⟩=some (.slice (some ⟨g,0,none⟩) o.length N)/\w'.cell? ⟨w.heap.size+1,1,none⟩=some (.int .i64 q)) (go_keep)
         ((go_at_call 24;((with_reducible refine a0g (gn.out _) ?_);rintro e w' ⟨rfl,rfl⟩)))
        go_wp2_with fail
        go_meet;exact ⟨by simp,(a0l _ y).drew⟩
       case rest=>
        obtain ⟨rfl,cc⟩:=hcut;have I:=a0b (D.keep cc);have c4:=a0b (c3.keep cc);have hO:=cc.size;clear c2 b2 c7 bc av D c3 cc U c9;generalize wc=w7 at *;have a6:g<w7.heap.size:=by omega
        clear hO hw;obtain ⟨b2,c7,bc,av⟩:=HQ w7 I.below;obtain ⟨ps,b0,b1,b3,dz⟩:=c4.ex;have ac:m<ps.length:=by rw [<- b0] at hm;simpa using hm
        have aT:o.length=ps.length:=by rw [<- b0];simp
        obtain ⟨t0,t1,t2,t3,tf⟩:=sj b1 m ac;obtain ⟨f,bs⟩:∃f,ps[m].1=f:=⟨_,rfl⟩;have fl:(fieldBytes f).length<=50000:=gy.out f (by rw [<- bs, <- b0];exact List.mem_map_of_mem (a0r ac));have hq:=b3 _ (a0r ac);rw [bs] at t0 t1 t2 hq;obtain ⟨d,cQ⟩:∃d,ps[m].2=d:=⟨_,rfl⟩;rw [cQ] at t3 hq;obtain ⟨⟨bA,gd,ad,g0⟩⟩:Nonempty (w7.ownsRow (w.heap.size+2+2) 120 2 d f.subs.length (f.subs.flatMap subCells)/\_):=⟨hq⟩;obtain ⟨z,A,rfl⟩:=bH bA;have b9:Hid (ps[m]=(f, .slice z f.subs.length A)):=Prod.ext bs cQ;have f0:Hid (∀p∈ps,bh (w.heap.size+2+2) (some g) w7 p.2 p.1.subs):=λp hp=>ge (b3 p hp).1 (λk j e=>by obtain ⟨_,g2,Q,h2⟩:=b3 p hp;rw [Q] at j;injection j with j;subst j;exact h2 e);have cs:Hid (n≠0->n≠1->R=⟨H,C,o.modify m λf=>f7 f n q l⟩):=λJ Q=>by rw [<- HR.out, <- bO.out];unfold spoilR;have a4:o≠[]:=List.length_pos_iff.1 cm;have e:q.emod o.length=(m:Int):=gP.out;dsimp only;rw [if_neg a4,if_neg (by omega),if_neg (by omega),e];rfl
        have h3:Hid (n=0->R=⟨u8I l,C,o⟩):=λJ=>by rw [<- HR.out, <- bO.out];unfold spoilR;have a4:o≠[]:=List.length_pos_iff.1 cm;dsimp only;rw [if_neg a4,if_pos (by omega)]
        have h4:Hid (n=1->R=⟨H,u8I l,o⟩):=λJ=>by rw [<- HR.out, <- bO.out];unfold spoilR;have a4:o≠[]:=List.length_pos_iff.1 cm;dsimp only;rw [if_neg a4,if_neg (by omega),if_pos (by omega)]
        have cu:Hid (∀(P:af) (d':a0j),f7 f n q l=P->(ps.set m (P,d')).map (·.1)=o.modify m λf=>f7 f n q l):=λP d' hl=>rU b0 m ac _ P d' (by rw [bs];exact hl)
        have c6:Hid (∀(i:Nat) (u:a0j) (P:af) (d':a0j),n≠0->n≠1->f7 f n q l=P->i<4->(fieldCells (f, .slice z f.subs.length A)).set i u=fieldCells (P,d')->bh (w.heap.size+2+2) (some g) w7 d' P.subs->∀W:a0i,a0q w7.heap.size w7 W->
         ug R (w.heap.size+2) Y (W.setCell ⟨g,m * 4+i,none⟩ u)):=by
         intro i u P d' dk ds eg hi hc hs W Z
         have g1:∀x ss,bh (w.heap.size+2+2) (some g) w7 x ss->bh (w.heap.size+2+2) (some g) W x ss:=λx ss h=>h.step (λk _ j _=>Z.block k j) Z.size (.inl rfl)
         have E:=bG.put (w:=W) ps aT m i ac (λk j _=>g1 _ _ (f0.out _ (a0r j))) (cr b1 (λg' a3=>Z.block g' (b1.lt g' a3).2)) hi u (P,d') (by rw [b9.out];exact hc) (g1 _ _ hs)
         have bv:((ps.set m (P,d')).map (·.1)).length=o.length:=by simp [aT]
         rw [cs.out dk ds, <- cu.out P d' eg]
         refine ⟨some ⟨g,0,none⟩,N,?_,?_⟩
         · rw [bv];exact (I.out.keep Z).put g _ fp u
         · rw [bv];exact E
        have al:Hid (∀(em eq:UInt8) (W:a0i),R=⟨em,eq,o⟩->dh (w.heap.size+2) Y W em eq (.slice (some ⟨g,0,none⟩) o.length N)->(∀k,w.heap.size+2+2<=k->k<w7.heap.size->W.heap[k]? =w7.heap[k]?)->w7.heap.size<=W.heap.size->ug R (w.heap.size+2) Y W):=
         λem eq W E hh j hz=>by rw [E];exact ⟨_,N,hh,c4.out.toRec.far j hz⟩
        have cd:g≠gd:=λe=>g0 (by rw [e];rfl);have hu:=bA.lt gd ad;have cv:=a0b (ge (g:=some g) bA (λk j e=>by rw [ad] at j;injection j with j;subst j;exact g0 e))
        have er:Hid (∀(s:ci) (X:a0j) (F W:a0i),n≠0->n≠1->f7 f n q l={f with subs:=f.subs++[s]}->a0q w7.heap.size w7 W->F.ownsRow (w.heap.size+2+2) 120 2 X (f.subs.length+1) (f.subs.flatMap subCells++subCells s)->W.grownBy F (some gd)->(X.ownBlock=some gd∨X.ownBlock=some W.heap.size)->
         ug R (w.heap.size+2) Y (F.setCell ⟨g,m * 4+3,none⟩ X)/\F.cell? ⟨g,m * 4+3,none⟩=some (.slice z f.subs.length A)/\F.frozen? ⟨g,m * 4+3,none⟩=false):=by
         intro s X F W dk ds eg Z hC M a0
         have hz:=Z.size
         have cl:∀k,k<w7.heap.size->k≠gd->F.heap[k]? =w7.heap[k]? :=λk j dx=>by rw [M.block k (by omega) (by intro e;injection e with e;exact dx e),Z.block k j]
         have fz:=List.pairwise_iff_getElem.1 dz
         have E:=bG.put (w:=F) ps aT m 3 ac (λk j dx=>?_) (cr b1 (λg' a3=>?_)) (by omega) X ({f with subs:=f.subs++[s]},X) (by rw [b9.out];rfl) ?_
         · have bv:((ps.set m ({f with subs:=f.subs++[s]},X)).map (·.1)).length=o.length:=by simp [aT]
           have h9:F.cell? ⟨g,m * 4+3,none⟩=w7.cell? ⟨g,m * 4+3,none⟩:=a0y (cl g a6 cd)
           have f9:F.frozen? ⟨g,m * 4+3,none⟩=w7.frozen? ⟨g,m * 4+3,none⟩:=a0s (cl g a6 cd)
           rw [cs.out dk ds, <- cu.out _ X eg]
           refine ⟨⟨some ⟨g,0,none⟩,N,?_,?_⟩,by rw [h9];exact t3,by rw [f9];exact tf _⟩
           · rw [bv];exact ((I.out.keep Z).grown M (λk j=>by injection j with j;subst j;exact hu.1)).put g _ fp X
           · rw [bv];exact E
         · obtain ⟨ft,g2,ch,hy⟩:=b3 _ (a0r j)
           have fx:ps[k].2.ownBlock≠ps[m].2.ownBlock:=by
            rcases Nat.lt_or_gt_of_ne dx with h|h
            · exact fz k m j ac h
            · exact (fz m k ac j h).symm
           rw [b9.out,ad,ch] at fx
           refine ge (cr ft (λg' a3=>?_)) (λk' cg e=>?_)
           · rw [ch] at a3;injection a3 with a3;subst a3
             exact cl _ (ft.lt _ ch).2 (λe=>fx (by rw [e]))
           · rw [ch] at cg;injection cg with cg;subst cg
             exact hy e
         · have:g'=g:=by simpa [a0p] using a3.symm
           subst this
           exact cl _ a6 cd
         · refine ge (by simpa [List.flatMap_append] using hC) (λk j e=>?_)
           injection e with e
           subst e
           rcases a0 with a0|a0
           · rw [a0] at j;injection j with j;exact cd j.symm
           · rw [a0] at j;injection j with j;omega
        have cq:=a0b bA;have hY:=a0b b0;have hZ:=a0b b1;have i1:=a0b b3;have i2:=a0b dz;have hX:=a0b aT;clear hq bA b0 b1 b3 dz bs cQ f0 aT cs cu;have c0:=I.c0;have c1:=I.c1;have c2:=I.c2;have x0:=I.x0;have x1:=I.x1;have x2:=I.x2;have c9:=I.big;go_upto_block 2 with (go_at_call 24;((with_reducible refine a0g (g8.out _) ?_);rintro e w' ⟨rfl,rfl⟩))
        go_cut [] (λwx=>ug R (w.heap.size+2) Y wx)
        case first=>
         have hj:n=0∨n=1∨n=2∨n=3∨n=4∨n=5∨n=6∨n=7:=by omega
         rcases hj with rfl|rfl|rfl|rfl|rfl|rfl|rfl|rfl
         · have hc:=nB l;have E:=h3 rfl;obtain ⟨c,V⟩:∃c,u8I l=c:=⟨_,rfl⟩;rw [V] at hc E;have bb:=a0b E;clear V E;go_wp2_with fail
           go_meet;exact al.out c C _ bb.out (I.out.set0 c) (λk j _=>a0a _ _ _ _ (by simp;omega)) (by simp)
         · have hc:=nB l;have E:=h4 rfl;obtain ⟨c,V⟩:∃c,u8I l=c:=⟨_,rfl⟩;rw [V] at hc E;have bb:=a0b E;clear V E;go_wp2_with fail
           go_meet;exact al.out H c _ bb.out (I.out.set1 c) (λk j _=>a0a _ _ _ _ (by simp;omega)) (by simp)
         · obtain ⟨k7,d6,hQ⟩:=j9 l 7 (by omega);have h8:Hid ((w7.alloc jf).cell? ⟨w7.heap.size,k7,none⟩=some (S (pick hU l))):=by unfold Hid;rw [oh hU l 7 k7 rfl d6];exact nL w7 hU 9 k7 hQ
           have gf:Hid (∀W,a0G a0f 24 #[.int .i64 l, .int .i64 7] W λe w'=>e= .returned (.int .i64 (k7:Int))/\W=w'):=p6 l 7 7 k7 (by omega) (by omega) rfl d6;have iF:(k7:Int)<7:=by omega
           clear d6;have hn:(w7.alloc jf).cell? ⟨g,m * 4,none⟩=some (S f.tag):=by rw [aR _ _ _ _ a6];exact t0
           have ho:(w7.alloc jf).frozen? ⟨g,m * 4,none⟩=false:=by rw [a0s (w:=w7) (a0m _ _ _ a6)];exact tf _
           have d4:a0q w7.heap.size w7 (w7.alloc jf):=aN _ _;have ht:(w7.alloc jf).cell? ⟨w.heap.size+1,2,none⟩=some (.int .i64 l):=by rw [aR _ _ _ _ (by omega)];exact av
           go_wp2_with fail
           generalize (w7.alloc jf)=w8 at *;((with_reducible refine a0g (gf.out _) ?_);rintro e w' ⟨rfl,rfl⟩;have hI:=h8.out)
           go_wp2_with fail
           go_meet;exact c6.out 0 (S (pick hU l)) {f with tag:=pick hU l} (.slice z f.subs.length A) (by omega) (by omega) rfl (by omega) rfl cv.out _ d4
         · have e1:=cC f;have iS:¬9223372036854775807<f.data.length+T.length:=by omega
           have j2:=tf (m * 4+2);go_wp2_with fail
           go_meet;exact c6.out 2 (S (f.data++T)) {f with data:=f.data++T} (.slice z f.subs.length A) (by omega) (by omega) (by rw [<- cx.out];rfl) (by omega) rfl cv.out _ (a0l _ _)
         · obtain ⟨k6,d5,hP⟩:=j9 l 6 (by omega);have h7:Hid ((w7.alloc jq).cell? ⟨w7.heap.size,k6,none⟩=some (S (pick gl l))):=by unfold Hid;rw [oh gl l 6 k6 rfl d5];exact nL w7 gl 9 k6 hP
           have gb:Hid (∀W,a0G a0f 24 #[.int .i64 l, .int .i64 6] W λe w'=>e= .returned (.int .i64 (k6:Int))/\W=w'):=p6 l 6 6 k6 (by omega) (by omega) rfl d5;have iD:(k6:Int)<6:=by omega
           clear d5;have hn:(w7.alloc jq).cell? ⟨g,m * 4+1,none⟩=some (S f.ind):=by rw [aR _ _ _ _ a6];exact t1
           have ho:(w7.alloc jq).frozen? ⟨g,m * 4+1,none⟩=false:=by rw [a0s (w:=w7) (a0m _ _ _ a6)];exact tf _
           have d4:a0q w7.heap.size w7 (w7.alloc jq):=aN _ _;have ht:(w7.alloc jq).cell? ⟨w.heap.size+1,2,none⟩=some (.int .i64 l):=by rw [aR _ _ _ _ (by omega)];exact av
           go_wp2_with fail
           generalize (w7.alloc jq)=w8 at *;((with_reducible refine a0g (gb.out _) ?_);rintro e w' ⟨rfl,rfl⟩;have hI:=h7.out)
           go_wp2_with fail
           go_meet;exact c6.out 1 (S (pick gl l)) {f with ind:=pick gl l} (.slice z f.subs.length A) (by omega) (by omega) rfl (by omega) rfl cv.out _ d4
         · have j3:=tf (m * 4+3);go_wp2_with fail
           go_meet;exact c6.out 3 (.slice none 0 0) {f with subs:=[]} (.slice none 0 0) (by omega) (by omega) rfl (by omega) rfl ⟨none,0,rfl,λh=>absurd rfl h⟩ _ (a0l _ _)
         · have V:=wj q;have gi:=a0b V;clear V;obtain ⟨i0,hi,a7,a8,a9⟩:=a0I zi;have HI:=a0b hi;have b6:=a0b a7;have b7:=a0b a8;have b8:=a0b a9;clear hi a7 a8 a9;have ej:=cF f;have O:Hid (∀W,a0q w7.heap.size w7 W->(λw':a0i=>w'.cell? ⟨g,m * 4+3,none⟩=some (.slice z f.subs.length A)/\w'.cell? ⟨w.heap.size+1,1,none⟩=some (.int .i64 q)) W):=λW Z=>⟨by rw [Z.cell (p:=⟨g,_,none⟩) a6];exact t3,by rw [Z.cell (p:=⟨w.heap.size+1,_,none⟩) (by simp;omega)];exact bc⟩;have a1:Hid (a0q w7.heap.size w7 w7.drew):=(a0l _ w7).drew;have bB:Hid (a0q w7.heap.size w7 (w7.alloc (a0h #[.int .u8 (IntKind.u8.wrap q),S T] 120)).drew):=(aN _ _).drew;go_wp2_with fail
           refine wT (λw':a0i=>w'.cell? ⟨g,m * 4+3,none⟩=some (.slice z f.subs.length A)/\w'.cell? ⟨w.heap.size+1,1,none⟩=some (.int .i64 q)) 14 ?_;refine bQ (i:=0) (v:=?_) rfl (by kernel_rfl) (by kernel_rfl) (by kernel_rfl) (by kernel_rfl) (by decide) (λ_ _ _ h=>h) (O _ a1.out) (a0E ⟨by rfl,?_⟩) ?_;rotate_left
           · intro w' h;obtain ⟨J,Q⟩:=h;go_simp;(first |done|rfl)
           (try simp only [Act.put,a0c,a0d,a0e])
           refine bQ (i:=1) (v:=?_) rfl (by kernel_rfl) (by kernel_rfl) (by kernel_rfl) (by kernel_rfl) (by decide) (λ_ _ _ h=>h) (O _ a1.out) (a0E ⟨by rfl,?_⟩) ?_;rotate_left
           · intro w' h;obtain ⟨J,Q⟩:=h;go_simp;(first |done|rfl)
           (try simp only [Act.put,a0c,a0d,a0e])
           refine bQ (i:=2) (v:=?_) rfl (by kernel_rfl) (by kernel_rfl) (by kernel_rfl) (by kernel_rfl) (by decide) (λ_ _ _ h=>h) (O _ a1.out) (a0E ⟨by rfl,?_⟩) ?_;rotate_left
           · intro w' h;obtain ⟨J,Q⟩:=h;go_simp;(first |done|rfl)
           (try simp only [Act.put,a0c,a0d,a0e])
           refine bQ (i:=3) (v:=?_) rfl (by kernel_rfl) (by kernel_rfl) (by kernel_rfl) (by kernel_rfl) (by decide) (λ_ _ _ h=>h) (O _ a1.out) (a0E ⟨by rfl,?_⟩) ?_;rotate_left
           · intro w' h;obtain ⟨J,Q⟩:=h;go_simp;(first |done|rfl)
           (try simp only [Act.put,a0c,a0d,a0e])
           refine bQ (i:=4) (v:=?_) rfl (by kernel_rfl) (by kernel_rfl) (by kernel_rfl) (by kernel_rfl) (by decide) (λ_ _ _ h=>h) (O _ a1.out) (a0E ⟨by rfl,?_⟩) ?_;rotate_left
           · intro w' h;obtain ⟨J,Q⟩:=h;go_simp;(first |done|rfl)
           (try simp only [Act.put,a0c,a0d,a0e])
           refine bQ (i:=5) (v:=?_) rfl (by kernel_rfl) (by kernel_rfl) (by kernel_rfl) (by kernel_rfl) (by decide) (λ_ _ _ h=>h) (O _ a1.out) (a0E ⟨by rfl,?_⟩) ?_;rotate_left
           · intro w' h;obtain ⟨J,Q⟩:=h;go_simp;(first |done|rfl)
           (try simp only [Act.put,a0c,a0d,a0e])
           refine bQ (i:=6) (v:=?_) rfl (by kernel_rfl) (by kernel_rfl) (by kernel_rfl) (by kernel_rfl) (by decide) (λ_ _ _ h=>h) (O _ a1.out) (a0E ⟨by rfl,?_⟩) ?_;rotate_left
           · intro w' h;obtain ⟨J,Q⟩:=h;go_simp;(first |done|rfl)
           (try simp only [Act.put,a0c,a0d,a0e])
           refine bQ (i:=7) (v:=?_) rfl (by kernel_rfl) (by kernel_rfl) (by kernel_rfl) (by kernel_rfl) (by decide) (λ_ _ _ h=>h) (O _ a1.out) (a0E ⟨by rfl,?_⟩) ?_;rotate_left
           · intro w' h;obtain ⟨J,Q⟩:=h;go_simp;(first |done|rfl)
           (try simp only [Act.put,a0c,a0d,a0e])
           refine bQ (i:=8) (v:=?_) rfl (by kernel_rfl) (by kernel_rfl) (by kernel_rfl) (by kernel_rfl) (by decide) (λ_ _ _ h=>h) (O _ a1.out) (a0E ⟨by rfl,?_⟩) ?_;rotate_left
           · intro w' h;obtain ⟨J,Q⟩:=h;go_simp;(first |done|rfl)
           (try simp only [Act.put,a0c,a0d,a0e])
           refine bQ (i:=9) (v:=?_) rfl (by kernel_rfl) (by kernel_rfl) (by kernel_rfl) (by kernel_rfl) (by decide) (λ_ _ _ h=>h) (O _ a1.out) (a0E ⟨by rfl,?_⟩) ?_;rotate_left
           · intro w' h;obtain ⟨J,Q⟩:=h;go_simp;(first |done|rfl)
           (try simp only [Act.put,a0c,a0d,a0e])
           refine dO 10 rfl λK L=>?_;go_simp;refine L _ _ (λ_=>O _ bB.out) ?_;clear L K;refine dO 11 rfl λK L=>?_;refine wp_append_lies _ _ _ 121 rfl (w.heap.size+2+2) 120 i0 (.agg #[.int .u8 0, .string ⟨#[]⟩]) 2 24 Tryz.underlying121 HI.out b6.out b7.out b8.out rfl (by omega) (.slice z f.subs.length A) f.subs.length _ (by rfl) (cr cq.out (λg' a3=>bB.out.block g' (cq.out.lt g' a3).2)) ⟨w7.heap.size,0,none⟩ 1 1 [.int .u8 (IntKind.u8.wrap q),S T] (by rfl) rfl (uc w7 _ _ _) (by simp [a0F]) (by omega) (by unfold maxLen;omega) (by omega) (by simp;omega) _ rfl ?_;intro g9 i8 F au M hB iN;rw [gi.out] at au;obtain ⟨bt,e9,f9⟩:=er.out ⟨u8I q,T⟩ _ F _ (by omega) (by omega) (by rw [<- cx.out];rfl) bB.out au (by rw [<- ad];exact M) (hB.elim (λh=> .inl (h.symm.trans ad)) (λh=> .inr (congrArg some h)));have cy:F.cell? ⟨w.heap.size+1,1,none⟩=some (.int .i64 q):=by rw [a0y (w:=(w7.alloc (a0h #[.int .u8 (IntKind.u8.wrap q),S T] 120)).drew) (M.block _ (by simp;omega) (by rw [ad];intro e;injection e with e;simp at e;omega))];exact (O.out _ bB.out).2
           have cp:=a0b bt;clear au M bt;refine L _ _ (λ_=>⟨e9,cy⟩) ?_;clear L K;refine dO 12 rfl λK L=>?_;go_simp;refine L _ _ (λ_=>⟨e9,cy⟩) ?_;clear L K;refine dO 13 rfl λK L=>?_;go_simp;refine L _ _ (λ_=>⟨e9,cy⟩) ?_;clear L K;refine dO 14 rfl λK L=>?_;go_simp;refine L _ _ (λh=>absurd rfl h) ?_;clear L K;refine dN ?_;go_wp2_with fail
           go_meet;exact cp.out
         · obtain ⟨i0,hi,a7,a8,a9⟩:=a0I zi;have HI:=a0b hi;have b6:=a0b a7;have b7:=a0b a8;have b8:=a0b a9;clear hi a7 a8 a9;have ej:=cF f;go_wp2_with (at_builtin;refine wpList_append_own_at _ rfl _ _ 121 rfl (w.heap.size+2+2) 120 i0 (.agg #[.int .u8 0, .string ⟨#[]⟩]) 2 24 Tryz.underlying121 HI.out b6.out b7.out b8.out rfl (by omega) (.slice z f.subs.length A) f.subs.length _ rfl (cq.out.alloc _) ⟨w7.heap.size,0,none⟩ 1 1 [.int .u8 122,S T] rfl rfl (uc _ _ _ _) (by simp [a0F]) (by unfold maxLen;omega) (by omega) (by simp;omega) ?_;intro X F au M _ a0;obtain ⟨g4,g5,rfl⟩:=bH au;obtain ⟨bt,g9,f9⟩:=er.out ⟨122,T⟩ _ F _ (by omega) (by omega) (by rw [<- cx.out];rfl) (aN w7 _) au (by rw [<- ad];exact M) (by rw [<- ad];exact a0);have cp:=a0b bt;clear au M a0 bt)
           go_meet;exact cp.out
        case rest=>
         obtain ⟨hS,hV,a2,h5⟩:=hcut;generalize wc=F at *;have z0:=a2.z0;have z1:=a2.z1;have z2:=a2.z2;have y0:=a2.y0;have y1:=a2.y1;have y2:=a2.y2;have d0:=a2.c0;have d1:=a2.c1;have d2:=a2.c2;clear c0 c1 c2 x0 x1 x2 t0 t1 t2 t3;go_wp2_with fail
         all_goals
          refine bodyPost_ret (v:= .agg #[.int .u8 R.kind.toNat, .int .u8 R.level.toNat, .slice hS R.fields.length hV]) (by simp only [results,Tryz.results84];go_simp) rfl ?_
          exact tD b5.out (by omega) a2.out h5.out _ rfl
end
section
open Go.RowKit Go.Maps Go.Shelf
def wC (q:Six):Array a0j:= #[.int .i64 q.a, .int .i64 q.b, .int .i64 q.c, .int .i64 q.d, .int .i64 q.e, .int .i64 q.f]
def yd (x:du):Array a0j:= #[.int .i64 x.k, .int .i64 x.a, .int .i64 x.b, .int .i64 x.v, .int .i64 x.q.a, .int .i64 x.q.b, .int .i64 x.q.c, .int .i64 x.q.d, .int .i64 x.q.e, .int .i64 x.q.f]
structure ye (q:Six):Prop where
 a:i64B q.a
 b:i64B q.b
 c:i64B q.c
 d:i64B q.d
 e:i64B q.e
 f:i64B q.f
structure yh (x:du):Prop where
 k:i64B x.k
 a:i64B x.a
 b:i64B x.b
 v:i64B x.v
 q:ye x.q
theorem wb (n:Int):ye (workQ n):=by
 unfold workQ;repeat' split
 all_goals exact ⟨by unfold i64B;decide,by unfold i64B;decide,by unfold i64B;decide,by unfold i64B;decide,by unfold i64B;decide,by unfold i64B;decide⟩
structure SdI (B:Nat) (w0 wr:a0i) (x:du) (q:Six):Prop where
 b:a0q B w0 wr
 arg:wr.heap[B]? =some (.cells (yd x) 47 (0,0))
 res:wr.heap[B+1]? =some (.cells #[.int .i64 0, .int .i64 0, .int .i64 0, .int .u8 0, .int .u8 0, .slice none 0 0] 64 (0,0))
 six:wr.heap[B+2]? =some (.cells (wC q) 45 (0,0))
theorem SdI.keep {B:Nat} {c wr W:a0i} {x:du} {q:Six} (h:SdI B c wr x q) (a:a0q wr.heap.size wr W):SdI B c W x q:=
 ⟨h.b.trans (a.mono (by have:=ae h.arg;omega)),(a.block _ (ae h.arg)).trans h.arg,(a.block _ (ae h.res)).trans h.res,(a.block _ (ae h.six)).trans h.six⟩
theorem yo {w:a0i} {b:Nat} {f g i j k l:a0j} {t:TypeId} (h:w.heap[b]? =some (.cells #[f,g,i,j,k,l] t (0,0))) (a c1 c2 c d e:a0j):
 ((((((w.setCell ⟨b,0,none⟩ a).setCell ⟨b,1,none⟩ c1).setCell ⟨b,2,none⟩ c2).setCell ⟨b,3,none⟩ c).setCell ⟨b,4,none⟩ d).setCell ⟨b,5,none⟩ e).heap[b]? =some (.cells #[a,c1,c2,c,d,e] t (0,0)):=
 an (an (an (an (an (an h 0 a) 1 c1) 2 c2) 3 c) 4 d) 5 e
theorem SdI.put {B:Nat} {j wr:a0i} {x:du} {q:Six} (h:SdI B j wr x q) (p:Six):
 SdI B j ((((((wr.setCell ⟨B+2,0,none⟩ (.int .i64 p.a)).setCell ⟨B+2,1,none⟩ (.int .i64 p.b)).setCell ⟨B+2,2,none⟩ (.int .i64 p.c)).setCell ⟨B+2,3,none⟩ (.int .i64 p.d)).setCell ⟨B+2,4,none⟩ (.int .i64 p.e)).setCell ⟨B+2,5,none⟩ (.int .i64 p.f)) x p:=by
 have i:∀k,k≠B+2->((((((wr.setCell ⟨B+2,0,none⟩ (.int .i64 p.a)).setCell ⟨B+2,1,none⟩ (.int .i64 p.b)).setCell ⟨B+2,2,none⟩ (.int .i64 p.c)).setCell ⟨B+2,3,none⟩ (.int .i64 p.d)).setCell ⟨B+2,4,none⟩ (.int .i64 p.e)).setCell ⟨B+2,5,none⟩ (.int .i64 p.f)).heap[k]? =wr.heap[k]? :=λk g=>by rw [a0a _ _ _ _ g,a0a _ _ _ _ g,a0a _ _ _ _ g,a0a _ _ _ _ g,a0a _ _ _ _ g,a0a _ _ _ _ g]
 refine ⟨?_,(i B (by omega)).trans h.arg,(i (B+1) (by omega)).trans h.res,yo h.six _ _ _ _ _ _⟩;exact (((((h.b.setCell (p:=⟨B+2,0,none⟩) (by simp) _).setCell (p:=⟨B+2,1,none⟩) (by simp) _).setCell (p:=⟨B+2,2,none⟩) (by simp) _).setCell (p:=⟨B+2,3,none⟩) (by simp) _).setCell (p:=⟨B+2,4,none⟩) (by simp) _).setCell (p:=⟨B+2,5,none⟩) (by simp) _
theorem fu {l:List Bs} {N:Nat} (h:∀x∈l,x.length<=N) (n:Int):(pick l n).length<=N:=by
 unfold pick;rw [a0u];cases hx:l[(n.emod l.length).toNat]? with
 |none=>simp
 |some x=>exact h x (List.mem_of_getElem? hx)
theorem ig (q:Six):(madeR q).fields.length<=7/\∀f∈(madeR q).fields,(fieldBytes f).length<=200:=by
 have h:=fu (l:=yearsL) (N:=20) (by decide);have j:=fu (l:=booksL) (N:=30) (by decide);have m:=fu (l:=namesL) (N:=20) (by decide);have n:=fu (l:=titlesL) (N:=20) (by decide);have k:=fu (l:=inds3L) (N:=2) (by decide);have g:(q.c.emod 3).toNat<=2:=by have g:q.c.emod 3<3:=a0A _ (by omega);omega
 unfold madeR;dsimp only;constructor
 · have o:(made008 q.b).length<=1:=by unfold made008;split<;>simp
   have p:(fA q.c).length<=2:=by unfold fA;rw [List.length_map,List.length_range];exact g
   have r:(ef q.d).length<=1:=by unfold ef;split<;>simp
   have s:(ee q.e).length<=1:=by unfold ee;split<;>simp
   have t:(ed q.f).length<=1:=by unfold ed;split<;>simp
   simp only [a0z];omega
 · intro f a;simp only [List.mem_append] at a;rcases a with (((a|a)|a)|a)|a
   · unfold made008 at a;split at a
     · rw [a0w] at a;subst a;have:=h q.b;simp [fieldBytes];omega
     · cases a
   · unfold fA at a;obtain ⟨i,_,rfl⟩:=List.mem_map.1 a;have:=j (q.c.tdiv 3+i);simp [fieldBytes,fJ,aQ];omega
   · unfold ef at a;split at a
     · rw [a0w] at a;subst a;have:=m (q.d.tdiv 4);simp [fieldBytes,aQ];omega
     · cases a
   · unfold ee at a;split at a
     · rw [a0w] at a;subst a;have:=n (q.e.tdiv 5);have:=k q.e;simp [fieldBytes,aQ];omega
     · cases a
   · unfold ed at a;split at a
     · rw [a0w] at a;subst a;have:=h q.f;simp [fieldBytes,aQ];omega
     · cases a
theorem yu (k a b v n o r s u x:Int) (hx:yh ⟨k,a,b,v,⟨n,o,r,s,u,x⟩⟩) (w:a0i):
 a0G a0f 45 #[.agg #[.int .i64 k, .int .i64 a, .int .i64 b, .int .i64 v, .int .i64 n, .int .i64 o, .int .i64 r, .int .i64 s, .int .i64 u, .int .i64 x]] w λe w'=>∃(V:Option Addr) (Y:Nat),
  e= .returned (jT (recI a) (v.emod 6) (saidR ⟨k,a,b,v,⟨n,o,r,s,u,x⟩⟩) (.slice V (saidR ⟨k,a,b,v,⟨n,o,r,s,u,x⟩⟩).fields.length Y))/\
  ai w.heap.size w'.heap.size w' (.slice V (saidR ⟨k,a,b,v,⟨n,o,r,s,u,x⟩⟩).fields.length Y) (saidR ⟨k,a,b,v,⟨n,o,r,s,u,x⟩⟩).fields/\a0q w.heap.size w w':=by
 obtain ⟨X,hX⟩:∃X:du,(⟨k,a,b,v,⟨n,o,r,s,u,x⟩⟩:du)=X:=⟨_,rfl⟩;obtain ⟨R,hR⟩:∃R,saidR ⟨k,a,b,v,⟨n,o,r,s,u,x⟩⟩=R:=⟨_,rfl⟩;obtain ⟨p,hp⟩:∃p,(if b.tmod 3≠0 then workQ b else ⟨n,o,r,s,u,x⟩)=p:=⟨_,rfl⟩;have d5:ye p:=by rw [<- hp];split;exact wb b;exact hx.q
 have bB:Hid (R=if k.emod 8=4/\b.tmod 5=0 then spoilR (madeR p) (a.emod 8) b v else madeR p):=by unfold Hid;rw [<- hR, <- hp];rfl
 obtain ⟨mk,cg,lk⟩:=ct k 8 (by omega);obtain ⟨ma,cd,la⟩:=ct a 8 (by omega);obtain ⟨mb,Q,lb⟩:=ct b 4 (by omega);have bt:Hid (∀W,a0G a0f 24 #[.int .i64 k, .int .i64 8] W λe w'=>e= .returned (.int .i64 (mk:Int))/\W=w'):=cY k 8 mk (by omega) (by omega) cg;have dd:Hid (∀W,a0G a0f 24 #[.int .i64 a, .int .i64 8] W λe w'=>e= .returned (.int .i64 (ma:Int))/\W=w'):=cY a 8 ma (by omega) (by omega) cd;have b0:Hid (∀W,a0G a0f 24 #[.int .i64 b, .int .i64 4] W λe w'=>e= .returned (.int .i64 (mb:Int))/\W=w'):=cY b 4 mb (by omega) (by omega) Q;have dk:Hid (∀W,a0G a0f 24 #[.int .i64 v, .int .i64 6] W λe w'=>e= .returned (.int .i64 (v.emod 6))/\W=w'):=λW=>jj v 6 W (by omega) (by omega);have dz:Hid (b.emod 4=mb):=Q;have dB:Hid (k.emod 8=mk):=cg;have dy:Hid (a.emod 8=ma):=cd;have HP:=a0b hp;have bw:=a0b d5;obtain ⟨B,ax⟩:∃B,(w.alloc (.cells #[.int .i64 k, .int .i64 a, .int .i64 b, .int .i64 v, .int .i64 n, .int .i64 o, .int .i64 r, .int .i64 s, .int .i64 u, .int .i64 x] 47)).alloc (.cells #[.int .i64 0, .int .i64 0, .int .i64 0, .int .u8 0, .int .u8 0, .slice none 0 0] 64)=B:=⟨_,rfl⟩;have cz:a0q w.heap.size w B:=by rw [<- ax];exact ((a0l _ w).alloc (a0o _) _).alloc (by simp) _
 have hA:B.heap[w.heap.size]? =some (.cells #[.int .i64 k, .int .i64 a, .int .i64 b, .int .i64 v, .int .i64 n, .int .i64 o, .int .i64 r, .int .i64 s, .int .i64 u, .int .i64 x] 47 (0,0)):=by rw [<- ax,a0m _ _ _ (by simp)];exact a0k w _
 have hB:B.heap[w.heap.size+1]? =some (.cells #[.int .i64 0, .int .i64 0, .int .i64 0, .int .u8 0, .int .u8 0, .slice none 0 0] 64 (0,0)):=by rw [<- ax];have:=a0k (w.alloc (.cells #[.int .i64 k, .int .i64 a, .int .i64 b, .int .i64 v, .int .i64 n, .int .i64 o, .int .i64 r, .int .i64 s, .int .i64 u, .int .i64 x] 47)) (.cells #[.int .i64 0, .int .i64 0, .int .i64 0, .int .u8 0, .int .u8 0, .slice none 0 0] 64);rwa [World.size_alloc] at this
 have cq:B.heap.size=w.heap.size+2:=by rw [<- ax];simp
 obtain ⟨F,aC⟩:∃F,B.alloc (.cells #[.int .i64 n, .int .i64 o, .int .i64 r, .int .i64 s, .int .i64 u, .int .i64 x] 45)=F:=⟨_,rfl⟩;have bO:Hid (SdI w.heap.size w F X ⟨n,o,r,s,u,x⟩):=by
  have ho:∀k,k<B.heap.size->F.heap[k]? =B.heap[k]? :=λk G=>by rw [<- aC];exact a0m _ _ _ G
  refine ⟨by rw [<- aC];exact cz.alloc (by omega) _,?_,(ho _ (by omega)).trans hB,?_⟩
  · rw [<- hX];exact (ho _ (by omega)).trans hA
  · rw [<- cq, <- aC];exact a0k B _
 have e6:=a0b ax;have e7:=a0b aC;have HA:=a0b hA;have e8:=a0b cq;have c6:=a0b hX;have eq:=a0b hx;rw [hR];have b7:=λW:a0i=>r8 a W hx.a;obtain ⟨⟨r1,r2⟩,d6⟩:∃rr,recI a=rr:=⟨_,rfl⟩;rw [d6] at b7 ⊢;dsimp only [recK] at b7;have e2:=a0b b7;clear b7 d6;clear ax aC hA hB cq cz hX hx hR hp cg cd Q d5;unfold jT;go_enter Tryz.func45,Tryz.ntmps45;have a4:B.cell? ⟨w.heap.size,4,none⟩=some (.int .i64 n):=(aa HA.out 4).trans rfl;have a5:B.cell? ⟨w.heap.size,5,none⟩=some (.int .i64 o):=(aa HA.out 5).trans rfl;have a6:B.cell? ⟨w.heap.size,6,none⟩=some (.int .i64 r):=(aa HA.out 6).trans rfl;have a7:B.cell? ⟨w.heap.size,7,none⟩=some (.int .i64 s):=(aa HA.out 7).trans rfl;have a8:B.cell? ⟨w.heap.size,8,none⟩=some (.int .i64 u):=(aa HA.out 8).trans rfl;have a9:B.cell? ⟨w.heap.size,9,none⟩=some (.int .i64 x):=(aa HA.out 9).trans rfl;go_upto_region 1 with fail
 rw [e6.out];go_upto_region 2 with fail
 rw [e7.out];clear a4 a5 a6 a7 a8 a9;rw [e8.out];have bk:Hid (∀(W:a0i) (q':Six),SdI w.heap.size w W X q'->W.cell? ⟨w.heap.size,0,none⟩=some (.int .i64 k)/\W.cell? ⟨w.heap.size,1,none⟩=some (.int .i64 a)/\W.cell? ⟨w.heap.size,2,none⟩=some (.int .i64 b)/\W.cell? ⟨w.heap.size,3,none⟩=some (.int .i64 v)):=λW q' h=>by have l:=h.arg;rw [<- c6.out] at l;exact ⟨(aa l 0).trans rfl,(aa l 1).trans rfl,(aa l 2).trans rfl,(aa l 3).trans rfl⟩
 obtain ⟨_,_,x2,_⟩:=bk F _ bO.out;go_upto_if 11 with fail
 clear x2;obtain ⟨H,I,J,L,N,O⟩:=p;go_cut [] (λwx=>Hid (SdI w.heap.size w wx X ⟨H,I,J,L,N,O⟩))
 case first=>
  by_cases hb3:b.tmod 3=0
  · have eg:(⟨H,I,J,L,N,O⟩:Six)=⟨n,o,r,s,u,x⟩:=by rw [<- HP.out,if_neg (by simp [hb3])]
    go_wp2_with fail
    go_meet;rw [eg];exact bO.out
  · have e0:Hid ((⟨H,I,J,L,N,O⟩:Six)=workQ b):=by unfold Hid;rw [<- HP.out,if_pos hb3]
    go_upto_region 3 with fail
    obtain ⟨q4,cl⟩:∃q4,F.heap.size=q4:=⟨_,rfl⟩;refine wp_region_lit ?_;refine a0x rfl 45 _ rfl _ rfl #[.int .i64 0, .int .i64 2, .int .i64 1, .int .i64 5, .int .i64 6, .int .i64 0] (by kernel_rfl) ?_;go_simp;refine a0x rfl 45 _ rfl _ rfl #[.int .i64 0, .int .i64 2, .int .i64 0, .int .i64 5, .int .i64 6, .int .i64 1] (by kernel_rfl) ?_;go_simp;refine a0x rfl 45 _ rfl _ rfl #[.int .i64 0, .int .i64 4, .int .i64 4, .int .i64 9, .int .i64 21, .int .i64 1] (by kernel_rfl) ?_;go_simp;refine a0x rfl 45 _ rfl _ rfl #[.int .i64 0, .int .i64 1, .int .i64 0, .int .i64 9, .int .i64 21, .int .i64 2] (by kernel_rfl) ?_;go_simp;refine a0x rfl 159 _ rfl _ rfl #[.int .i64 0, .int .i64 2, .int .i64 1, .int .i64 5, .int .i64 6, .int .i64 0, .int .i64 0, .int .i64 2, .int .i64 0, .int .i64 5, .int .i64 6, .int .i64 1, .int .i64 0, .int .i64 4, .int .i64 4, .int .i64 9, .int .i64 21, .int .i64 1, .int .i64 0, .int .i64 1, .int .i64 0, .int .i64 9, .int .i64 21, .int .i64 2] (by kernel_rfl) ?_;go_simp;refine Great.wpList_allocTo rfl _ rfl (.pointer (some ⟨F.heap.size,0,none⟩)) (.cells #[.int .i64 0, .int .i64 0, .int .i64 0, .int .i64 0, .int .i64 0, .int .i64 0, .int .i64 0, .int .i64 0, .int .i64 0, .int .i64 0, .int .i64 0, .int .i64 0, .int .i64 0, .int .i64 0, .int .i64 0, .int .i64 0, .int .i64 0, .int .i64 0, .int .i64 0, .int .i64 0, .int .i64 0, .int .i64 0, .int .i64 0, .int .i64 0] 159) (by kernel_rfl) ?_;rw [cl];obtain ⟨aS,bc⟩:∃D,F.alloc (.cells #[.int .i64 0, .int .i64 0, .int .i64 0, .int .i64 0, .int .i64 0, .int .i64 0, .int .i64 0, .int .i64 0, .int .i64 0, .int .i64 0, .int .i64 0, .int .i64 0, .int .i64 0, .int .i64 0, .int .i64 0, .int .i64 0, .int .i64 0, .int .i64 0, .int .i64 0, .int .i64 0, .int .i64 0, .int .i64 0, .int .i64 0, .int .i64 0] 159)=D:=⟨_,rfl⟩;have c7:aS.heap[q4]? =some (.cells #[.int .i64 0, .int .i64 0, .int .i64 0, .int .i64 0, .int .i64 0, .int .i64 0, .int .i64 0, .int .i64 0, .int .i64 0, .int .i64 0, .int .i64 0, .int .i64 0, .int .i64 0, .int .i64 0, .int .i64 0, .int .i64 0, .int .i64 0, .int .i64 0, .int .i64 0, .int .i64 0, .int .i64 0, .int .i64 0, .int .i64 0, .int .i64 0] 159 (0,0)):=by rw [<- bc, <- cl];exact a0k F _
    rw [bc];go_simp;refine wpList_store_rowTo rfl 159 _ _ rfl rfl q4 #[.int .i64 0, .int .i64 2, .int .i64 1, .int .i64 5, .int .i64 6, .int .i64 0, .int .i64 0, .int .i64 2, .int .i64 0, .int .i64 5, .int .i64 6, .int .i64 1, .int .i64 0, .int .i64 4, .int .i64 4, .int .i64 9, .int .i64 21, .int .i64 1, .int .i64 0, .int .i64 1, .int .i64 0, .int .i64 9, .int .i64 21, .int .i64 2] rfl rfl 159 _ c7 (by kernel_rfl) rfl (by kernel_rfl) ?_;obtain ⟨D,bb⟩:∃D,aS.setRow q4 #[.int .i64 0, .int .i64 2, .int .i64 1, .int .i64 5, .int .i64 6, .int .i64 0, .int .i64 0, .int .i64 2, .int .i64 0, .int .i64 5, .int .i64 6, .int .i64 1, .int .i64 0, .int .i64 4, .int .i64 4, .int .i64 9, .int .i64 21, .int .i64 1, .int .i64 0, .int .i64 1, .int .i64 0, .int .i64 9, .int .i64 21, .int .i64 2]=D:=⟨_,rfl⟩;have cy:D.heap[q4]? =some (.cells #[.int .i64 0, .int .i64 2, .int .i64 1, .int .i64 5, .int .i64 6, .int .i64 0, .int .i64 0, .int .i64 2, .int .i64 0, .int .i64 5, .int .i64 6, .int .i64 1, .int .i64 0, .int .i64 4, .int .i64 4, .int .i64 9, .int .i64 21, .int .i64 1, .int .i64 0, .int .i64 1, .int .i64 0, .int .i64 9, .int .i64 21, .int .i64 2] 159 (0,0)):=by rw [<- bb];exact setRow_heap aS q4 _ _ 159 (0,0) c7
    have cP:a0q F.heap.size F D:=by
     have l:a0q F.heap.size F aS:=by rw [<- bc];exact (a0l _ F).alloc (a0o _) _
     rw [<- bb];exact l.trans ⟨setRow_os _ _ _,setRow_tape _ _ _,setRow_output _ _ _,Nat.le_of_eq (setRow_size _ _ _).symm,λk G=>setRow_other aS q4 k _ (by omega)⟩
    have y:Hid (SdI w.heap.size w D X ⟨n,o,r,s,u,x⟩):=bO.keep cP;rw [bb];clear cP c7 bc;go_upto_region 4 with fail
    clear cl bb;obtain ⟨_,_,x2,_⟩:=bk D _ y.out;have y0:D.cell? ⟨w.heap.size+2,0,none⟩=some (.int .i64 n):=(aa y.six 0).trans rfl;have y1:D.cell? ⟨w.heap.size+2,1,none⟩=some (.int .i64 o):=(aa y.six 1).trans rfl;have y2:D.cell? ⟨w.heap.size+2,2,none⟩=some (.int .i64 r):=(aa y.six 2).trans rfl;have y3:D.cell? ⟨w.heap.size+2,3,none⟩=some (.int .i64 s):=(aa y.six 3).trans rfl;have y4:D.cell? ⟨w.heap.size+2,4,none⟩=some (.int .i64 u):=(aa y.six 4).trans rfl;have y5:D.cell? ⟨w.heap.size+2,5,none⟩=some (.int .i64 x):=(aa y.six 5).trans rfl;have z0:=ab y.six 0;have z1:=ab y.six 1;have z2:=ab y.six 2;have z3:=ab y.six 3;have z4:=ab y.six 4;have z5:=ab y.six 5;have j:Hid (∀i,D.cell? ⟨q4,i,none⟩=_):=λi=>aa cy i;have a3:=e0.out;have Q:=dz.out;clear cy;obtain rfl|rfl|rfl|rfl:mb=0∨mb=1∨mb=2∨mb=3:=by omega
    · have n0:=(j 0).trans rfl;have n1:=(j 1).trans rfl;have n2:=(j 2).trans rfl;have n3:=(j 3).trans rfl;have n4:=(j 4).trans rfl;have n5:=(j 5).trans rfl;have ac:Hid ((⟨H,I,J,L,N,O⟩:Six)=⟨0,2,1,5,6,0⟩):=by unfold Hid;rw [a3];unfold workQ;rw [Q];rfl
      clear a3 Q;go_wp2_with (go_at_call 24;((with_reducible refine a0g (b0.out _) ?_);rintro e w5 ⟨rfl,rfl⟩))
      go_meet;rw [ac.out];exact y.put ⟨0,2,1,5,6,0⟩
    · have n0:=(j 6).trans rfl;have n1:=(j 7).trans rfl;have n2:=(j 8).trans rfl;have n3:=(j 9).trans rfl;have n4:=(j 10).trans rfl;have n5:=(j 11).trans rfl;have ac:Hid ((⟨H,I,J,L,N,O⟩:Six)=⟨0,2,0,5,6,1⟩):=by unfold Hid;rw [a3];unfold workQ;rw [Q];rfl
      clear a3 Q;go_wp2_with (go_at_call 24;((with_reducible refine a0g (b0.out _) ?_);rintro e w5 ⟨rfl,rfl⟩))
      go_meet;rw [ac.out];exact y.put ⟨0,2,0,5,6,1⟩
    · have n0:=(j 12).trans rfl;have n1:=(j 13).trans rfl;have n2:=(j 14).trans rfl;have n3:=(j 15).trans rfl;have n4:=(j 16).trans rfl;have n5:=(j 17).trans rfl;have ac:Hid ((⟨H,I,J,L,N,O⟩:Six)=⟨0,4,4,9,21,1⟩):=by unfold Hid;rw [a3];unfold workQ;rw [Q];rfl
      clear a3 Q;go_wp2_with (go_at_call 24;((with_reducible refine a0g (b0.out _) ?_);rintro e w5 ⟨rfl,rfl⟩))
      go_meet;rw [ac.out];exact y.put ⟨0,4,4,9,21,1⟩
    · have n0:=(j 18).trans rfl;have n1:=(j 19).trans rfl;have n2:=(j 20).trans rfl;have n3:=(j 21).trans rfl;have n4:=(j 22).trans rfl;have n5:=(j 23).trans rfl;have ac:Hid ((⟨H,I,J,L,N,O⟩:Six)=⟨0,1,0,9,21,2⟩):=by unfold Hid;rw [a3];unfold workQ;rw [Q];rfl
      clear a3 Q;go_wp2_with (go_at_call 24;((with_reducible refine a0g (b0.out _) ?_);rintro e w5 ⟨rfl,rfl⟩))
      go_meet;rw [ac.out];exact y.put ⟨0,1,0,9,21,2⟩
 case rest=>
  have Z:=hcut;clear hcut;have c0:wc.cell? ⟨w.heap.size+2,0,none⟩=some (.int .i64 H):=(aa Z.six 0).trans rfl;have c1:wc.cell? ⟨w.heap.size+2,1,none⟩=some (.int .i64 I):=(aa Z.six 1).trans rfl;have c2:wc.cell? ⟨w.heap.size+2,2,none⟩=some (.int .i64 J):=(aa Z.six 2).trans rfl;have c3:wc.cell? ⟨w.heap.size+2,3,none⟩=some (.int .i64 L):=(aa Z.six 3).trans rfl;have c4:wc.cell? ⟨w.heap.size+2,4,none⟩=some (.int .i64 N):=(aa Z.six 4).trans rfl;have c5:wc.cell? ⟨w.heap.size+2,5,none⟩=some (.int .i64 O):=(aa Z.six 5).trans rfl;have b5:=yO H I J L N O bw.c bw.d bw.e wc;obtain ⟨M,hM⟩:∃M,madeR ⟨H,I,J,L,N,O⟩=M:=⟨_,rfl⟩;have b6:=ig ⟨H,I,J,L,N,O⟩;have d4:M.level=109:=by rw [<- hM];rfl
  rw [hM] at b5 b6 bB;obtain ⟨kd,lv,P⟩:=M;dsimp only at b5 b6 d4;subst d4;have cu:=a0b b5;have cv:=a0b b6;clear b5 b6 hM;go_upto_region 6 with (go_at_call 83;((with_reducible refine a0g cu.out ?_);rintro e w5 ⟨V,Y,rfl,d3,cQ⟩;have cs:=a0b d3;have aT:=a0b cQ;clear d3 cQ))
  obtain ⟨T,hT⟩:∃T,w5.heap.size=T:=⟨_,rfl⟩;obtain ⟨g,ay⟩:∃g,w5.alloc (.cells #[.int .u8 kd.toNat, .int .u8 109, .slice V P.length Y] 62)=g:=⟨_,rfl⟩;have c9:g.heap[T]? =some (.cells #[.int .u8 kd.toNat, .int .u8 109, .slice V P.length Y] 62 (0,0)):=by rw [<- ay, <- hT];exact a0k w5 _
  have d0:a0q wc.heap.size wc g:=by rw [<- ay];exact aT.out.alloc aT.out.size _
  have a2:Hid (SdI w.heap.size w g X ⟨H,I,J,L,N,O⟩):=Z.keep d0;have da:w.heap.size+3<=wc.heap.size:=by have:=ae Z.out.six;omega
  have bv:Hid (ai (w.heap.size+3) g.heap.size g (.slice V P.length Y) P):=by have h:=cs.out.kept (w':=g) (λq _ hq=>by rw [<- ay];exact a0m _ _ _ hq);exact h.mono da (by rw [<- ay];simp)
  have e5:Hid (w.heap.size+3<=T/\T<g.heap.size/\w.heap.size+3<=g.heap.size):=by have l:=ae Z.six;have m:=aT.size;have z:=ae c9;exact ⟨by omega,z,by omega⟩
  have b2:=a0b c9;rw [hT,ay];clear c0 c1 c2 c3 c4 c5 cs d0 ay hT c9 Z da cu aT;obtain ⟨x0,_,x2,_⟩:=bk g _ a2.out;go_cut [33] (λt wx=>t= .bool (decide (mk=4)&&decide (b.tmod 5=0))/\wx=g)
  case first=>
   by_cases h4:mk=4
   · subst h4;by_cases h5:b.tmod 5=0
     · go_wp2_with (go_at_call 24;((with_reducible refine a0g (bt.out _) ?_);rintro e C ⟨rfl,rfl⟩))
       go_meet;exact ⟨by simp [h5],rfl⟩
     · go_wp2_with (go_at_call 24;((with_reducible refine a0g (bt.out _) ?_);rintro e C ⟨rfl,rfl⟩))
       go_meet;exact ⟨by simp [h5],rfl⟩
   · have er:((mk:Int)==4)=false:=by simp;omega
     go_wp2_with (go_at_call 24;((with_reducible refine a0g (bt.out _) ?_);rintro e C ⟨rfl,rfl⟩))
     go_meet;exact ⟨by simp [h4],rfl⟩
  case rest=>
   obtain ⟨rfl,cp⟩:=hcut;have cp:=cp.symm;subst cp;clear x0 x2;have b1:Hid (R=if (decide (mk=4)&&decide (b.tmod 5=0))=true then spoilR ⟨kd,109,P⟩ (ma:Int) b v else ⟨kd,109,P⟩):=by
    unfold Hid;have e1:=bB.out;rw [dB.out,dy.out] at e1;rw [e1];by_cases h4:mk=4/\b.tmod 5=0
    · rw [if_pos ⟨by omega,h4.2⟩,if_pos (by simp [h4.1,h4.2])]
    · rw [if_neg (by intro h;exact h4 ⟨by omega,h.2⟩),if_neg (by simpa using h4)]
   obtain ⟨sp,d8⟩:∃sp,(decide (mk=4)&&decide (b.tmod 5=0))=sp:=⟨_,rfl⟩;rw [d8] at b1 ⊢;clear d8 bB;go_upto_if 33 with fail
   go_cut [] (λwx=>∃(ad:Option Addr) (al:Nat),Hid (SdI w.heap.size w wx X ⟨H,I,J,L,N,O⟩)/\Hid (wx.heap[T]? =some (.cells #[.int .u8 R.kind.toNat, .int .u8 R.level.toNat, .slice ad R.fields.length al] 62 (0,0)))/\Hid (ai (w.heap.size+3) wx.heap.size wx (.slice ad R.fields.length al) R.fields))
   case first=>
    cases sp
    · have bA:Hid (R=⟨kd,109,P⟩):=by unfold Hid;rw [b1.out,if_neg (by decide)]
      go_wp2_with fail
      go_meet;rw [bA.out];exact ⟨V,Y,a2,b2,bv⟩
    · have bA:Hid (R=spoilR ⟨kd,109,P⟩ (ma:Int) b v):=by unfold Hid;rw [b1.out,if_pos rfl]
      have au:g.drew.heap[w.heap.size]? =g.heap[w.heap.size]? /\g.drew.heap[T]? =g.heap[T]? :=⟨rfl,rfl⟩;have cm:=rS kd 109 P V Y ma (by omega) b v g.drew (bv.out.mono (Nat.zero_le _) (a0o _)) (by have:=cv.out.1;omega) (λf hf=>a0C (cv.out.2 f hf) (by omega));rw [<- bA.out] at cm;have e3:=a0b (show a0G a0f 84 #[.agg #[.int .u8 kd.toNat, .int .u8 109, .slice V P.length Y], .agg #[.int .i64 (ma:Int), .int .i64 b, .int .i64 v]] g.drew _ from cm);clear cm;have bs:Hid (∀W:a0i,(W.heap[w.heap.size]? =g.heap[w.heap.size]? /\W.heap[T]? =g.heap[T]?)->(W.cell? ⟨T,0,none⟩=some (.int .u8 kd.toNat)/\W.cell? ⟨T,1,none⟩=some (.int .u8 109)/\W.cell? ⟨T,2,none⟩=some (.slice V P.length Y))/\W.cell? ⟨w.heap.size,1,none⟩=some (.int .i64 a)/\W.cell? ⟨w.heap.size,2,none⟩=some (.int .i64 b)/\W.cell? ⟨w.heap.size,3,none⟩=some (.int .i64 v)):=λW h=>by have l:=h.1.trans a2.arg;rw [<- c6.out] at l;have m:=h.2.trans b2.out;exact ⟨⟨(aa m 0).trans rfl,(aa m 1).trans rfl,(aa m 2).trans rfl⟩,(aa l 1).trans rfl,(aa l 2).trans rfl,(aa l 3).trans rfl⟩
      go_wp2_with fail
      refine wT (λW:a0i=>W.heap[w.heap.size]? =g.heap[w.heap.size]? /\W.heap[T]? =g.heap[T]?) 10 ?_;have a1:=tkL [0,1,4,6,2,5,7];repeat (refine tkI a1 ?_ rfl au ?_ ?_;rotate_left;intro w' h;obtain ⟨⟨h0,l,m⟩,z,h4,h5⟩:=bs w' h;go_simp;rfl;(try go_simp);replace a1:=tkO a1)
      clear a1;refine dO 3 rfl λK A=>?_;go_simp;go_at_call 24;with_reducible refine a0g (dd.out _) ?_
      rintro e C ⟨rfl,rfl⟩;refine A _ _ (λ_=>au) ?_;clear A K;go_simp;refine tk 8 ?_ rfl au ?_ ?_;rotate_left;intro w' h;go_simp;rfl;try go_simp
      refine dO 9 rfl λK A=>?_;go_simp;go_at_call 84;with_reducible refine a0g e3.out ?_
      rintro e C ⟨sb,cb,rfl,b4,d2⟩;have b9:=e5.out;have b8:C.heap[w.heap.size]? =g.heap[w.heap.size]? /\C.heap[T]? =g.heap[T]? :=⟨b4.block _ (by show w.heap.size<g.heap.size;omega),b4.block _ (by show T<g.heap.size;omega)⟩;have ds:=a0b d2;have dc:Hid (a0q g.heap.size g C):=(a0l _ g).drew.trans b4;clear d2 b4;refine A _ _ (λ_=>b8) ?_;clear A K;go_simp;have m:=b8.2.trans b2.out;have t0:C.cell? ⟨T,0,none⟩=some (.int .u8 kd.toNat):=(aa m 0).trans rfl;have t1:C.cell? ⟨T,1,none⟩=some (.int .u8 109):=(aa m 1).trans rfl;have t2:C.cell? ⟨T,2,none⟩=some (.slice V P.length Y):=(aa m 2).trans rfl;have z0:=ab m 0;have z1:=ab m 1;have z2:=ab m 2;have e4:=a0b m;have es:=a0b b8;clear m b8;refine dO 10 rfl λK A=>?_;go_simp;refine A _ _ (λh=>absurd rfl h) ?_;clear A K;refine dN ?_;go_wp2_with fail
      go_meet;obtain ⟨E,a0⟩:∃E,((C.setCell ⟨T,0,none⟩ (.int .u8 R.kind.toNat)).setCell ⟨T,1,none⟩ (.int .u8 R.level.toNat)).setCell ⟨T,2,none⟩ (.slice sb R.fields.length cb)=E:=⟨_,rfl⟩;have ch:∀k,k≠T->E.heap[k]? =C.heap[k]? :=λk G=>by rw [<- a0,a0a _ _ _ _ G,a0a _ _ _ _ G,a0a _ _ _ _ G]
      have em:E.heap.size=C.heap.size:=by rw [<- a0];simp
      have cc:a0q (w.heap.size+3) C E:=by rw [<- a0];exact (((a0l _ C).setCell (p:=⟨T,0,none⟩) b9.1 _).setCell (p:=⟨T,1,none⟩) b9.1 _).setCell (p:=⟨T,2,none⟩) b9.1 _
      have e9:E.heap[T]? =some (.cells #[.int .u8 R.kind.toNat, .int .u8 R.level.toNat, .slice sb R.fields.length cb] 62 (0,0)):=by rw [<- a0];exact an (an (an e4.out 0 _) 1 _) 2 _
      rw [a0];have b3:a0q (w.heap.size+3) g E:=(dc.mono b9.2.2).trans cc;refine ⟨sb,cb,⟨a2.out.b.trans (b3.mono (by omega)),(b3.block _ (by omega)).trans a2.out.arg,(b3.block _ (by omega)).trans a2.out.res,(b3.block _ (by omega)).trans a2.out.six⟩,e9,?_⟩;have h:=ds.out.kept (w':=E) (λq hq _=>ch q (by have:g.heap.size<=q:=hq;omega));exact h.mono (by show w.heap.size+3<=g.heap.size;omega) (by omega)
   case rest=>
    obtain ⟨ad,al,ao,cx,dx⟩:=hcut;clear a2 b2 bv b1;have au:a0q wc.heap.size wc wc.drew:=(a0l _ wc).drew;have bs:Hid (∀W:a0i,a0q wc.heap.size wc W->(W.cell? ⟨T,0,none⟩=some (.int .u8 R.kind.toNat)/\W.cell? ⟨T,1,none⟩=some (.int .u8 R.level.toNat)/\W.cell? ⟨T,2,none⟩=some (.slice ad R.fields.length al))/\W.cell? ⟨w.heap.size,1,none⟩=some (.int .i64 a)/\W.cell? ⟨w.heap.size,3,none⟩=some (.int .i64 v)):=λW h=>by have l:=(h.block _ (ae ao.arg)).trans ao.arg;rw [<- c6.out] at l;have m:=(h.block _ (ae cx.out)).trans cx.out;exact ⟨⟨(aa m 0).trans rfl,(aa m 1).trans rfl,(aa m 2).trans rfl⟩,(aa l 1).trans rfl,(aa l 3).trans rfl⟩
    go_wp2_with fail
    refine wT (λW:a0i=>a0q wc.heap.size wc W) 8 ?_;have a1:=tkL [0,3,6,1,4];repeat (refine tkI a1 ?_ rfl au ?_ ?_;rotate_left;intro w' h;obtain ⟨⟨h0,l,m⟩,z,h4⟩:=bs w' h;go_simp;rfl;(try go_simp);replace a1:=tkO a1)
    clear a1;refine dO 2 rfl λK A=>?_;go_simp;go_at_call 20;with_reducible refine a0g (e2.out _) ?_
    rintro e U ⟨rfl,d1⟩;have av:a0q wc.heap.size wc U:=au.trans d1;refine A _ _ (λ_=>av) ?_;clear A K;go_simp;refine dO 5 rfl λK A=>?_;go_simp;go_at_call 24;with_reducible refine a0g (dk.out _) ?_
    rintro e C ⟨rfl,rfl⟩;refine A _ _ (λ_=>av) ?_;clear A K;go_simp;refine tk 7 ?_ rfl av ?_ ?_;rotate_left;intro w' h;go_simp;rfl;try go_simp
    have z:=(av.block _ (ae ao.res)).trans ao.res;have y0:U.cell? ⟨w.heap.size+1,0,none⟩=some (.int .i64 0):=(aa z 0).trans rfl;have y1:U.cell? ⟨w.heap.size+1,1,none⟩=some (.int .i64 0):=(aa z 1).trans rfl;have y2:U.cell? ⟨w.heap.size+1,2,none⟩=some (.int .i64 0):=(aa z 2).trans rfl;have y3:U.cell? ⟨w.heap.size+1,3,none⟩=some (.int .u8 0):=(aa z 3).trans rfl;have y4:U.cell? ⟨w.heap.size+1,4,none⟩=some (.int .u8 0):=(aa z 4).trans rfl;have y5:U.cell? ⟨w.heap.size+1,5,none⟩=some (.slice none 0 0):=(aa z 5).trans rfl;have z0:=ab z 0;have z1:=ab z 1;have z2:=ab z 2;have z3:=ab z 3;have z4:=ab z 4;have z5:=ab z 5;have bY:=a0b av;clear z av d1;refine dO 8 rfl λK A=>?_;go_simp;refine A _ _ (λh=>absurd rfl h) ?_;clear A K;refine dN ?_;go_wp2_with fail
    refine bodyPost_ret (v:= .agg #[.int .i64 r1, .int .i64 r2, .int .i64 (v.emod 6), .int .u8 R.kind.toNat, .int .u8 R.level.toNat, .slice ad R.fields.length al]) (by rw [cI rfl];go_simp) rfl ?_;obtain ⟨E,a0⟩:∃E,(((((U.setCell ⟨w.heap.size+1,0,none⟩ (.int .i64 r1)).setCell ⟨w.heap.size+1,1,none⟩ (.int .i64 r2)).setCell ⟨w.heap.size+1,2,none⟩ (.int .i64 (v.emod 6))).setCell ⟨w.heap.size+1,3,none⟩ (.int .u8 R.kind.toNat)).setCell ⟨w.heap.size+1,4,none⟩ (.int .u8 R.level.toNat)).setCell ⟨w.heap.size+1,5,none⟩ (.slice ad R.fields.length al)=E:=⟨_,rfl⟩;have ch:∀k,k≠w.heap.size+1->E.heap[k]? =U.heap[k]? :=λk G=>by rw [<- a0,a0a _ _ _ _ G,a0a _ _ _ _ G,a0a _ _ _ _ G,a0a _ _ _ _ G,a0a _ _ _ _ G,a0a _ _ _ _ G]
    have em:E.heap.size=U.heap.size:=by rw [<- a0];simp
    have cc:a0q w.heap.size U E:=by rw [<- a0];exact ((((((a0l _ U).setCell (p:=⟨w.heap.size+1,0,none⟩) (by simp) _).setCell (p:=⟨w.heap.size+1,1,none⟩) (by simp) _).setCell (p:=⟨w.heap.size+1,2,none⟩) (by simp) _).setCell (p:=⟨w.heap.size+1,3,none⟩) (by simp) _).setCell (p:=⟨w.heap.size+1,4,none⟩) (by simp) _).setCell (p:=⟨w.heap.size+1,5,none⟩) (by simp) _
    rw [a0];refine ⟨ad,al,rfl,?_,ao.out.b.trans ((bY.out.mono (by have:=ao.out.b.size;omega)).trans cc)⟩;have h:=dx.out.kept (w':=E) (λq hq ej=>(ch q (by omega)).trans (bY.out.block q ej));exact h.mono (by omega) (by have:=bY.out.size;omega)
end
end Go.Proofs.YtjcimanddakkaaaGreatDoor
