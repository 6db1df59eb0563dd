/- Lemmas. -/
import Derived.Test.YtjcimanddakkaaaGreatDoorZ5
import Derived.Test.YtjcimanddakkaaaGreatDoorZ8
import Derived.Deep.CutBlock
import Derived.Great.Walk
set_option maxRecDepth 100000
set_option maxHeartbeats 8000000
namespace Go.Proofs.YtjcimanddakkaaaGreatDoor
open _root_.Option renaming some→X,none→Y
open Go.Value renaming slice→fn,int→J,pointer→hr,bool→hK
open Go.Obj renaming cells→gs
open Go.IntKind renaming u8→h1,i64→U
open Go.Ending renaming returned→hk
open Go.Lib renaming hid→Z
open Tryz
open Go.RowKit.Below renaming heap_setCell→iS,refl→ka,heap_alloc→kb
open _root_.List renaming setIfInBounds_toArray→ja,set_cons_zero→jb,set_cons_succ→jn,eq_nil_of_length_eq_zero→kc,getElem_mem→kn,flatMap_cons→kq,getD_eq_getElem?_getD→ks,mem_singleton→kv,length_append→kz
open Go.Calls renaming mono→j0
open Go.Obj renaming cells→j1
open Go renaming World→j2,Value→j3,wpList_buildTo→kx,Calls→k8,info_parts→ld
open Go.World renaming alloc_heap_new→j4,frozen?_of_block→ko,cell?_setCell_other→kt,cell?_of_block→ky,cell?→k3
open _root_.Nat renaming le_refl→kk,zero_add→k1,le_trans→k2,zero_mul→k9
open Go.Value renaming ownBlock→kl,oneCell'→k5
open _root_.Int renaming emod_lt_of_pos→k0
open _root_.Or renaming inl→k4
open Go.Builtin renaming append_→lf
section
open Go.RowKit
theorem gF {lo:Nat} {g:Option Nat} {w:j2} {d:j3} {a:List cw} (h:w.ownsRow lo 120 2 d a.length (a.flatMap subCells)) (l:∀k,d.ownBlock=X k->g≠X k):bm lo g w d a:=by
 rcases h.2 with ⟨rfl,e⟩|⟨b,n,o,rfl,i,p,q⟩
 · have:a=[]:=kc e;subst this;exact ⟨Y,0,rfl,λh=>absurd rfl h⟩
 · have m:=h.lt b (by simp [kl]);refine ⟨_,_,rfl,λ_=>⟨b,0,rfl,i,m.2,l b (by simp [kl]),λj x c=>?_⟩⟩;have f:=h.cellAt j (by have:=(List.getElem?_eq_some_iff.1 c).1;rw [h.1] at this;exact this);rw [k1,f];exact c
theorem cD {w w':j2} {B:Nat} {e:TypeId} {k:Nat} {v:j3} {n:Nat} {b:List j3} (h:w.ownsRow B e k v n b) (j:∀g,v.ownBlock=X g->w'.heap[g]? =w.heap[g]?):w'.ownsRow B e k v n b:=by
 refine ⟨h.1,?_⟩;rcases h.2 with l|⟨g,c,d,a,f,i,m⟩
 · exact .inl l
 · exact .inr ⟨g,c,d,a,f,by rw [j g (by rw [a];simp [kl])];exact i,m⟩
structure ei (lo:Nat) (w:j2) (v:j3) (fs:List af):Prop where
 ex:∃ps:List (af×j3),ps.map (·.1)=fs/\w.ownsRow lo 123 4 v fs.length (ps.flatMap fieldCells)/\
  (∀p∈ps,w.ownsRow lo 120 2 p.2 p.1.subs.length (p.1.subs.flatMap subCells)/\∃g,p.2.ownBlock=some g/\v.ownBlock≠some g)/\ps.Pairwise (λp q=>p.2.ownBlock≠q.2.ownBlock)
theorem ei.nil (lo:Nat) (w:j2):ei lo w (fn Y 0 0) []:=⟨⟨[],rfl,World.ownsRow_nil _ _ _ _,by simp, .nil⟩⟩
theorem ei.toRec {lo:Nat} {w:j2} {v:j3} {b:List af} (h:ei lo w v b):bJ lo w v b:=by
 obtain ⟨ps,f,i,c,_⟩:=h.ex;refine ⟨⟨ps,f,λp d=>gF (c p d).1 (λk a e=>?_),i⟩⟩;obtain ⟨g,j,l⟩:=(c p d).2;rw [j] at a;injection a with a
 subst a;exact l e
theorem ei.keep {lo:Nat} {w w':j2} {v:j3} {d:List af} (h:ei lo w v d) (f:Bw w w'):ei lo w' v d:=by
 obtain ⟨ps,i,e,a,j⟩:=h.ex;exact ⟨⟨ps,i,cD e (λg b=>f.block g (e.lt g b).2),λp c=>⟨cD (a p c).1 (λg b=>f.block g ((a p c).1.lt g b).2),(a p c).2⟩,j⟩⟩
theorem ei.far {lo:Nat} {w w':j2} {v:j3} {e:List af} (h:ei lo w v e) (f:∀k,lo<=k->k<w.heap.size->w'.heap[k]? =w.heap[k]?):ei lo w' v e:=by
 obtain ⟨ps,i,d,b,j⟩:=h.ex;exact ⟨⟨ps,i,cD d (λg a=>f g (d.lt g a).1 (d.lt g a).2),λp c=>⟨cD (b p c).1 (λg a=>f g ((b p c).1.lt g a).1 ((b p c).1.lt g a).2),(b p c).2⟩,j⟩⟩
theorem ei.app {lo:Nat} {w1 l:j2} {v h:j3} {m:List af} (f:af) (d:j3) (ps:List (af×j3)) (w:ps.map (·.1)=m)
 (y:∀p∈ps,w1.ownsRow lo 120 2 p.2 p.1.subs.length (p.1.subs.flatMap subCells)/\∃g,p.2.ownBlock=X g/\v.ownBlock≠X g) (z:ps.Pairwise (λp q=>p.2.ownBlock≠q.2.ownBlock))
 (A:w1.ownsRow lo 120 2 d f.subs.length (f.subs.flatMap subCells)) (i:Nat) (o:d.ownBlock=X i) (E:v.ownBlock≠X i) (G:∀p∈ps,p.2.ownBlock≠X i)
 (I:l.ownsRow lo 123 4 h (m.length+1) (ps.flatMap fieldCells++fieldCells (f,d))) (B:w1.grownBy l v.ownBlock) (b:h.ownBlock=v.ownBlock∨h.ownBlock=X w1.heap.size):ei lo l h (m++[f]):=by
 have u:∀(x:j3) (c:List cw) (g:Nat),w1.ownsRow lo 120 2 x c.length (c.flatMap subCells)->x.ownBlock=X g->v.ownBlock≠X g->l.ownsRow lo 120 2 x c.length (c.flatMap subCells)/\∃g,x.ownBlock=X g/\h.ownBlock≠X g:=by
  intro x c g t n s;have F:=(t.lt g n).2;refine ⟨cD t (λk j=>?_),g,n,?_⟩
  · rw [n] at j;injection j with j;subst j
    exact B.block _ F (λe=>s e.symm)
  · rcases b with b|b
    · rw [b];exact s
    · rw [b];intro e;injection e with e;omega
 refine ⟨⟨ps++[(f,d)],by simp [w],by simpa using I,?_,?_⟩⟩
 · intro p a;rcases List.mem_append.1 a with a|a
   · obtain ⟨H,g,C,D⟩:=y p a;exact u _ _ g H C D
   · simp at a;subst a;exact u _ _ i A o E
 · refine List.pairwise_append.2 ⟨z,by simp,λp a q r=>?_⟩;simp at r;subst r;rw [o];exact G p a
theorem wM (lo:Nat) (W:j2) (D:Nat) (d:j3) (c:List cw) (p:W.heap[D]? =X (gs #[] 120 (0,0))) (y:aB 0 W.heap.size W d c) (H:c.length<=1000000) (B:lo<=D):
 ∃(a:Addr) (e:Nat) (f:j2),(lf #[121,121] 121 #[fn (X ⟨D,0,Y⟩) 0 0,d]).run prog W= .ok (fn (X a) c.length e) f/\f.ownsRow lo 120 2 (fn (X a) c.length e) c.length (c.flatMap subCells)/\W.grownBy f (X D)/\(a.block=D∨a.block=W.heap.size):=by
 obtain ⟨i,q,F,C,w⟩:=ld Am;have G:D<W.heap.size:=(Array.getElem?_eq_some_iff.1 p).1;have r:W.ownsRow lo 120 2 (fn (X ⟨D,0,Y⟩) 0 0) 0 []:=⟨by simp, .inr ⟨D,0, #[],rfl,B,p,kk _,by unfold maxLen;omega,by simp,by simp⟩⟩;obtain ⟨a,e,rfl,h⟩:=y;by_cases h0:c=[]
 · subst h0;have E:Src prog i.size 121 (fn a 0 e) 0 [] W:=by
    cases a with
    |none=>exact Src.ofNil W underlying121 e
    |some a=>exact Src.ofSlice W underlying121 a 0 e [] (by simp) (by simp) (by simp)
   have n:=run_append_room_src (P:=prog) W 121 121 121 120 i underlying121 q D 0 0 0 (fn a 0 e) 0 [] E (by omega) (by simp) (by simp);exact ⟨_,_,_,n,r,⟨rfl,rfl,rfl,kk _,λ_ _ _=>rfl⟩, .inl rfl⟩
 · obtain ⟨b,o,rfl,_,_,x⟩:=h (pN.2 h0)
   obtain ⟨I,f,n,m,v,_,k⟩:=run_append_own_at (P:=prog) W lo 121 121 120 i _ 2 24 underlying121 q F C w rfl (by omega) (fn (X ⟨D,0,Y⟩) 0 0) 0 [] r ⟨b,o,Y⟩ c.length e (c.flatMap subCells) (yy c)
    (λj u z=>by
     have:(⟨b,o,Y⟩:Addr).add j=⟨b,o+j,Y⟩:=by unfold Addr.add;split<;>simp_all
     rw [this];exact x j u z)
    (λu l=>by
     obtain ⟨s,_,l⟩:=List.mem_flatMap.1 l
     simp [subCells] at l
     rcases l with rfl|rfl<;>rfl) (by unfold maxLen;omega) (by omega) (by omega)
   rw [k1,List.nil_append] at m;have A:0<c.length:=List.length_pos_iff.2 h0;obtain ⟨g,t,rfl,_⟩:=World.ownsRow.form m A;refine ⟨⟨g,0,Y⟩,t,f,n,m,v,?_⟩;rcases k with k|k
   · left;simpa [kl] using k
   · right;simpa [kl] using k
structure dp (B:Nat) (w0 wr:j2) (kd lv:UInt8) (v:j3):Prop where
 below:Below B w0 wr
 big:B+2<=wr.heap.size
 z0:wr.cell? ⟨B,0,none⟩=some (.int .u8 0)
 z1:wr.cell? ⟨B,1,none⟩=some (.int .u8 0)
 z2:wr.cell? ⟨B,2,none⟩=some (.slice none 0 0)
 y0:wr.frozen? ⟨B,0,none⟩=false
 y1:wr.frozen? ⟨B,1,none⟩=false
 y2:wr.frozen? ⟨B,2,none⟩=false
 c0:wr.cell? ⟨B+1,0,none⟩=some (.int .u8 kd.toNat)
 c1:wr.cell? ⟨B+1,1,none⟩=some (.int .u8 lv.toNat)
 c2:wr.cell? ⟨B+1,2,none⟩=some v
 x0:wr.frozen? ⟨B+1,0,none⟩=false
 x1:wr.frozen? ⟨B+1,1,none⟩=false
 x2:wr.frozen? ⟨B+1,2,none⟩=false
theorem dp.far {B:Nat} {f wr d:j2} {j l:UInt8} {v:j3} (h:dp B f wr j l v) (m:Below B f d) (g:∀k,k<B+2->d.heap[k]? =wr.heap[k]?) (n:B+2<=d.heap.size):dp B f d j l v:=by
 have a:∀b i,b<B+2->d.cell? ⟨b,i,Y⟩=wr.cell? ⟨b,i,Y⟩:=λb i e=>ky (g b e);have c:∀b i,b<B+2->d.frozen? ⟨b,i,Y⟩=wr.frozen? ⟨b,i,Y⟩:=λb i e=>ko (g b e)
 exact ⟨m,n,by rw [a _ _ (by omega)];exact h.z0,by rw [a _ _ (by omega)];exact h.z1,by rw [a _ _ (by omega)];exact h.z2,
  by rw [c _ _ (by omega)];exact h.y0,by rw [c _ _ (by omega)];exact h.y1,by rw [c _ _ (by omega)];exact h.y2,by rw [a _ _ (by omega)];exact h.c0,by rw [a _ _ (by omega)];exact h.c1,by rw [a _ _ (by omega)];exact h.c2,
  by rw [c _ _ (by omega)];exact h.x0,by rw [c _ _ (by omega)];exact h.x1,by rw [c _ _ (by omega)];exact h.x2⟩
theorem dp.keep {B:Nat} {d wr e:j2} {b c:UInt8} {v:j3} (h:dp B d wr b c v) (a:Bw wr e):dp B d e b c v:=
 h.far (btr h.below a (by have:=h.big;omega)) (λk f=>a.block k (by have:=h.big;omega)) (k2 h.big a.size)
theorem dp.put {B:Nat} {c wr:j2} {a b:UInt8} {v:j3} (h:dp B c wr a b v) (g j:Nat) (d:B+2<=g) (u:j3):dp B c (wr.setCell ⟨g,j,Y⟩ u) a b v:=
 h.far (h.below.setCell (by simp;omega) _) (λk e=>iS _ _ _ _ (by simp;omega)) (by simpa using h.big)
theorem dp.grown {B:Nat} {i wr c:j2} {d f:UInt8} {v:j3} (h:dp B i wr d f v) {g:Option Nat} (a:wr.grownBy c g) (l:∀k,g=X k->B+2<=k):dp B i c d f v:=by
 have b:∀k,k<B+2->c.heap[k]? =wr.heap[k]? :=λk b=>a.block k (Nat.lt_of_lt_of_le b h.big) (by intro e;have:=l k e.symm;omega);exact h.far ⟨a.os.trans h.below.os,a.tape.trans h.below.tape,a.output.trans h.below.output,k2 h.below.size a.size,λk j=>(b k (by omega)).trans (h.below.block k j)⟩ b (k2 h.big a.size)
theorem dp.set2 {B:Nat} {d wr:j2} {a b:UInt8} {v:j3} (h:dp B d wr a b v) (c:j3):dp B d (wr.setCell ⟨B+1,2,Y⟩ c) a b c:=by
 have f:=h.z0;have g:=h.z1;have i:=h.z2;have e:=h.c0;have c1:=h.c1;have c2:=h.c2;refine ⟨h.below.setCell (by simp) _,by simpa using h.big,?_,?_,?_,by rw [aG];exact h.y0,by rw [aG];exact h.y1,by rw [aG];exact h.y2,?_,?_,?_,by rw [aG];exact h.x0,by rw [aG];exact h.x1,by rw [aG];exact h.x2⟩;all_goals (clear h;go_simp)
theorem dp.set0 {B:Nat} {b wr:j2} {d a:UInt8} {v:j3} (h:dp B b wr d a v) (c:UInt8):dp B b (wr.setCell ⟨B+1,0,Y⟩ (J h1 c.toNat)) c a v:=by
 have f:=h.z0;have g:=h.z1;have i:=h.z2;have e:=h.c0;have c1:=h.c1;have c2:=h.c2;refine ⟨h.below.setCell (by simp) _,by simpa using h.big,?_,?_,?_,by rw [aG];exact h.y0,by rw [aG];exact h.y1,by rw [aG];exact h.y2,?_,?_,?_,by rw [aG];exact h.x0,by rw [aG];exact h.x1,by rw [aG];exact h.x2⟩;all_goals (clear h;go_simp)
theorem dp.set1 {B:Nat} {b wr:j2} {a d:UInt8} {v:j3} (h:dp B b wr a d v) (c:UInt8):dp B b (wr.setCell ⟨B+1,1,Y⟩ (J h1 c.toNat)) a c v:=by
 have f:=h.z0;have g:=h.z1;have i:=h.z2;have e:=h.c0;have c1:=h.c1;have c2:=h.c2;refine ⟨h.below.setCell (by simp) _,by simpa using h.big,?_,?_,?_,by rw [aG];exact h.y0,by rw [aG];exact h.y1,by rw [aG];exact h.y2,?_,?_,?_,by rw [aG];exact h.x0,by rw [aG];exact h.x1,by rw [aG];exact h.x2⟩;all_goals (clear h;go_simp)
theorem yx (ps:List (af×j3)):∀(m i:Nat) (u:j3) (q:af×j3) (a:m<ps.length),i<4->(fieldCells ps[m]).set i u=fieldCells q->(ps.flatMap fieldCells).set (m * 4+i) u=(ps.set m q).flatMap fieldCells:=by
 induction ps with
 |nil=>intro m i u q a;simp at a
 |cons p ps ih=>
  intro m i u q a d b;cases m with
  |zero=> simp only [List.getElem_cons_zero] at b;rw [kq,List.set_append_left _ _ (by simp [fieldCells];omega),k9,k1,b];rfl
  |succ m=>
   simp only [List.getElem_cons_succ] at b;have c:(fieldCells p).length=4:=by simp [fieldCells]
   rw [kq,List.set_append_right _ _ (by rw [c];omega),c,show (m+1) * 4+i - 4=m * 4+i from by omega,ih m i u q (by simpa using a) d b];rfl
theorem yz (ps:List (af×j3)):∀(m i:Nat) (a:m<ps.length),i<4->(ps.flatMap fieldCells)[m * 4+i]? =(fieldCells ps[m])[i]? :=by
 induction ps with
 |nil=>intro m i a;simp at a
 |cons p ps ih=>
  intro m i a c;have b:(fieldCells p).length=4:=by simp [fieldCells]
  cases m with
  |zero=>rw [kq,List.getElem?_append_left (by rw [b];omega),k9,k1];rfl
  |succ m=>rw [kq,List.getElem?_append_right (by rw [b];omega),b,show (m+1) * 4+i - 4=m * 4+i from by omega,ih m i (by simpa using a) c];rfl
theorem tD {lo:Nat} {w:j2} {g c n:Nat} {ps:List (af×j3)} (h:w.ownsRow lo 123 4 (fn (X ⟨g,0,Y⟩) n c) n (ps.flatMap fieldCells)) (m:Nat) (b:m<ps.length):
 w.cell? ⟨g,m * 4,Y⟩=X (S ps[m].1.tag)/\w.cell? ⟨g,m * 4+1,Y⟩=X (S ps[m].1.ind)/\w.cell? ⟨g,m * 4+2,Y⟩=X (S ps[m].1.data)/\w.cell? ⟨g,m * 4+3,Y⟩=X ps[m].2/\
  ∀i,w.frozen? ⟨g,i,Y⟩=false:=by
 have e:(ps.flatMap fieldCells).length=ps.length * 4:=by
  clear h b;induction ps with
  |nil=>rfl
  |cons p ps ih=>rw [kq,kz,ih];simp [fieldCells];omega
 have f:n * 4=ps.length * 4:=by rw [<- e];exact h.1.symm
 have a:∀i,i<4->w.cell? ⟨g,m * 4+i,Y⟩=(fieldCells ps[m])[i]? :=λi d=>by rw [h.cellAt (m * 4+i) (by omega),yz ps m i b d]
 exact ⟨a 0 (by omega),a 1 (by omega),a 2 (by omega),a 3 (by omega),λi=>h.frozenAt i⟩
theorem bJ.put {lo:Nat} {w:j2} {g c n:Nat} (ps:List (af×j3)) (s:n=ps.length) (m i:Nat) (r:m<ps.length) (j:∀k (d:k<ps.length),k≠m->bm lo (X g) w ps[k].2 ps[k].1.subs) (l:w.ownsRow lo 123 4 (fn (X ⟨g,0,Y⟩) n c) n (ps.flatMap fieldCells))
 (o:i<4) (u:j3) (q:af×j3) (v:(fieldCells ps[m]).set i u=fieldCells q) (y:bm lo (X g) w q.2 q.1.subs):
 bJ lo (w.setCell ⟨g,m * 4+i,Y⟩ u) (fn (X ⟨g,0,Y⟩) n c) ((ps.set m q).map (·.1)):=by
 have f:∀x b,bm lo (X g) w x b->bm lo (X g) (w.setCell ⟨g,m * 4+i,Y⟩ u) x b:=λx b h=>
  h.step (λk _ _ a=>iS _ _ _ _ (by intro e;exact a (by rw [e]))) (by simp) (.inl rfl)
 refine ⟨⟨ps.set m q,rfl,λp t=>?_,?_⟩⟩
 · obtain ⟨k,d,rfl⟩:=List.getElem_of_mem t;rw [List.getElem_set];split
   · exact f _ _ y
   · rename_i a;exact f _ _ (j k (by simpa using d) (λe=>a e.symm))
 · have:=(l.stored (m * 4+i) u).1;rw [yx ps m i u q r o v] at this;simpa [s] using this
theorem cI (f:af):(fieldBytes f).length=f.data.length+f.ind.length+(f.subs.flatMap aU).length+1:=by simp [fieldBytes];omega
theorem Ba {B:Nat} {q wr a r:j2} {t u:UInt8} {v c:j3} {m:List af} (o:Obj) (f:af) (d:j3) (j:Nat) (D:dp B q wr t u v) (P:ei (B+2) wr v m)
 (L:Below B q a) (h:∀k,k<wr.heap.size->a.heap[k]? =wr.heap[k]?) (hz:wr.heap.size<=a.heap.size) (C:a.ownsRow (B+2) 120 2 d f.subs.length (f.subs.flatMap subCells)) (N:d.ownBlock=X j) (a6:wr.heap.size<=j)
 (w:List j3) (a0:wr.ownsRow (B+2) 123 4 v m.length w) (Q:r.ownsRow (B+2) 123 4 c (m.length+1) (w++fieldCells (f,d))) (b:(a.alloc o).grownBy r v.ownBlock)
 (V:c.ownBlock=v.ownBlock∨c.ownBlock=X (a.alloc o).heap.size):
 dp B q (r.setCell ⟨B+1,2,Y⟩ c) t u c/\ei (B+2) (r.setCell ⟨B+1,2,Y⟩ c) c (m++[f]):=by
 have a5:=D.big;have O:dp B q a t u v:=D.far L (λk a7=>h k (by omega)) (by omega);obtain ⟨ps,I,A,n,K⟩:=P.ex;have W:w=ps.flatMap fieldCells:=by
  have y:=a0;have z:=A;rcases y.2 with ⟨_,H⟩|⟨g,a1,a3,rfl,_,M,_,_,_,R⟩
  · have F:=y.1;have G:=z.1;rw [H,k9] at F G;rw [kc F,kc G]
  · rcases z.2 with ⟨s,_⟩|⟨g',a2,a4,s,_,i,_,_,_,T⟩
    · cases s
    · injection s with ha _ _
      injection ha with ha
      injection ha with ha
      subst ha;rw [M] at i;injection i with i
      injection i with i
      subst i;rw [<- R, <- T]
 subst W;have x:∀k,k<a.heap.size->(a.alloc o).heap[k]? =a.heap[k]? :=λk h=>kb a o k h;have E:∀g,v.ownBlock=X g->B+2<=g/\g<wr.heap.size:=λg b=>A.lt g b;refine ⟨((O.keep (aL a o)).grown b (λk h=>(E k h).1)).set2 c,?_⟩;refine (ei.app f d ps I (λp l=>⟨cD (n p l).1 (λg b=>?_),(n p l).2⟩) K (cD C (λg b=>x g (C.lt g b).2)) j N (λe=>?_) (λp l e=>?_) Q b V).far (λk h _=>iS _ _ _ _ (by simp;omega))
 · have:=((n p l).1.lt g b).2;rw [x g (by omega),h g this]
 · have:=(E j e).2;omega
 · have:=((n p l).1.lt j e).2;omega
theorem A9 {B:Nat} {i a b:j2} {g h:UInt8} {v:j3} {f:Option Nat} {o:Obj} (d:dp B i a g h v) (c:(a.alloc o).grownBy b f) (e:∀k,f=X k->B+2<=k):b.cell? ⟨B+1,2,Y⟩=X v/\b.frozen? ⟨B+1,2,Y⟩=false:=
 ⟨((d.keep (aL a o)).grown c e).c2,((d.keep (aL a o)).grown c e).x2⟩
attribute [local go_sem ↓] Go.wp_at_zero Go.wp_at_succ
theorem An {l:List Bs} {k:Nat} (h:k<l.length):l.getD k []∈l:=by
 rw [ks,List.getElem?_eq_getElem h];exact kn h
theorem oI (w:j2) (l:List Bs) (T:TypeId) (k:Nat) (h:k<l.length):(w.alloc (.cells (l.map S).toArray T)).cell? ⟨w.heap.size,k,Y⟩=X (S (l.getD k [])):=by
 have a:(w.alloc (.cells (l.map S).toArray T)).heap[w.heap.size]? =X (.cells (l.map S).toArray T (0,0)):=j4 w _;rw [aa a];simp [ks,h]
theorem kT (n:Int) (M:Nat) (h:0<M):∃m:Nat,n.emod M=m/\m<M:=by
 have a:0<=n.emod M:=Int.emod_nonneg n (by omega);have b:n.emod M<M:=k0 n (by omega);exact ⟨(n.emod M).toNat,(Int.toNat_of_nonneg a).symm,by omega⟩
theorem ro (n a:Int) (M m:Nat) (c:1<=M) (d:M<=1000000) (b:a=M) (h:n.emod M=m) (W:j2):k8 prog 24 #[J U n,J U a] W λe w'=>e=hk (J U (m:Int))/\W=w':=by
 subst b;refine (jM n M W (by omega) (by omega)).mono ?_;rintro e w' ⟨rfl,rfl⟩;rw [h];exact ⟨rfl,rfl⟩
theorem o8 (l:List Bs) (n:Int) (M m:Nat) (a:l.length=M) (h:n.emod M=m):pick l n=l.getD m []:=by
 unfold pick;rw [a,h];rfl
theorem oz (z:Int):z%256=((u8I z).toNat:Int):=by
 unfold u8I;have b:0<=z%256:=Int.emod_nonneg z (by omega);have c:z%256<256:=k0 z (by omega);have a:z.emod 256=z%256:=rfl;rw [a,UInt8.toNat_ofNat',Nat.mod_eq_of_lt (by omega)];omega
theorem xz (z:Int):IntKind.u8.wrap z=((u8I z).toNat:Int):=by rw [IntKind.wrap_u8];exact oz z
theorem s7 {ps:List (af×j3)} {a:List af} (h:ps.map (·.1)=a) (m:Nat) (j:m<ps.length) (g:af->af) (b:af) (c:j3) (f:g ps[m].1=b):(ps.set m (b,c)).map (·.1)=a.modify m g:=by
 rw [List.map_set,h];have n:m<a.length:=by rw [<- h,List.length_map];exact j
 have e:a[m]=ps[m].1:=by simp [<- h]
 refine List.ext_getElem (by simp) (λi k l=>?_);rw [List.getElem_set,List.getElem_modify];split
 · rename_i d;subst d;rw [e,f]
 · rfl
theorem ve (w:j2) (x y:j3) (t:TypeId):∀j v,[x,y][j]? =X v->(w.alloc (gs #[x,y] t)).cell? ((⟨w.heap.size,0,Y⟩:Addr).add j)=X v:=by
 intro j v a;match j,a with
 |0,a=>simp at a;subst a;simp [Addr.add]
 |1,a=>simp at a;subst a;simp [Addr.add]
theorem ou {w:j2} {b:Array Oper} {c:List Oper} {o:Oper} {a:Act} {Q:Exit->Act->j2->Prop} (g:o.guard=Y) (d x:Operand)
 (i:o.op= .call {callee:= .builtin .append,args:= #[d,x],argTypes:= #[121,121]}) (l:o.type=121) (v u e:j3) (w':j2) (k:a.eval d=v) (m:a.eval x=u)
 (j:(lf #[121,121] 121 #[v,u]).run prog w= .ok e w') (h:wpList prog b Q c (a.put o.dst e) w'):wpList prog b Q (o::c) a w:=by
 refine wpList_plain g λK f=>?_;unfold Oper.wp execOp;simp only [i,l,resolve,invoke,builtin,Sem.run_bind,Sem.run_pure,Result.andThen_ok,List.map_toArray,List.map_cons,List.map_nil,k,m,j];exact f _ _ h
abbrev recO (a b:UInt8) (v:j3):Obj:=j1 #[J h1 a.toNat,J h1 b.toNat,v] 62
abbrev numsO (a b c:Int):Obj:=j1 #[J U a,J U b,J U c] 162
abbrev B9:Obj:=j1 #[J h1 0,J h1 0,fn Y 0 0] 62
theorem dp.init (w:j2) (a b:UInt8):dp w.heap.size w ((w.alloc B9).alloc (recO a b (fn Y 0 0))) a b (fn Y 0 0):=by
 refine ⟨((ka _ w).alloc (kk _) _).alloc (by simp) _,by simp,?_,?_,?_,?_,?_,?_,?_,?_,?_,?_,?_,?_⟩;all_goals go_simp
theorem BW (w:j2) (d e:UInt8) (v:j3) (a b c:Int) (W:j2) (h:Below (w.heap.size+2) ((w.alloc (recO d e v)).alloc (numsO a b c)) W):
 W.cell? ⟨w.heap.size,2,Y⟩=X v/\W.cell? ⟨w.heap.size+1,0,Y⟩=X (J U a)/\W.cell? ⟨w.heap.size+1,1,Y⟩=X (J U b)/\W.cell? ⟨w.heap.size+1,2,Y⟩=X (J U c):=by
 refine ⟨?_,?_,?_,?_⟩<;>(rw [h.cell (p:=⟨_,_,Y⟩) (by simp)];go_simp)
abbrev oE:Obj:=j1 #[S [],S [31],S [30],S [97,29,98],S [255],S [195],S [237,160,128],S [224,128,128],S [127],S [195,169],S [116,97,98,9]] 9
theorem bJ.far {lo:Nat} {w w':j2} {v:j3} {a:List af} (h:bJ lo w v a) (b:∀k,lo<=k->k<w.heap.size->w'.heap[k]? =w.heap[k]?) (c:w.heap.size<=w'.heap.size):bJ lo w' v a:=h.keep b c
abbrev jH:Obj:=j1 #[S [48,48,48],S [50,52],S [50,52,53,53],S [50,52,97],S [],S [48,48,49],S [50,52,53]] 9
abbrev jT:Obj:=j1 #[S [],S [49],S [49,50,51],S [31,48],S [32,126],S [48,127]] 9
def vi (R:az) (B:Nat) (c b:j2):Prop:=∃(a:Option Addr) (vc:Nat),Hid (dp B c b R.kind R.level (fn a R.fields.length vc))/\Hid (bJ (B+2) b (fn a R.fields.length vc) R.fields)
theorem uA {w d wr:j2} {B:Nat} {R:az} {v:j3} (h:Bw w d) (g:w.heap.size<=B) (k:dp B d wr R.kind R.level v) (b:bJ (B+2) wr v R.fields) (e:Ending)
 (i:e=hk (.agg #[J h1 R.kind.toNat,J h1 R.level.toNat,v])):∃(c:Option Addr) (cb:Nat),e=hk (.agg #[J h1 R.kind.toNat,J h1 R.level.toNat,fn c R.fields.length cb])/\
  Bw w (((wr.setCell ⟨B,0,Y⟩ (J h1 R.kind.toNat)).setCell ⟨B,1,Y⟩ (J h1 R.level.toNat)).setCell ⟨B,2,Y⟩ v)/\
  ai w.heap.size (((wr.setCell ⟨B,0,Y⟩ (J h1 R.kind.toNat)).setCell ⟨B,1,Y⟩ (J h1 R.level.toNat)).setCell ⟨B,2,Y⟩ v).heap.size (((wr.setCell ⟨B,0,Y⟩ (J h1 R.kind.toNat)).setCell ⟨B,1,Y⟩ (J h1 R.level.toNat)).setCell ⟨B,2,Y⟩ v) (fn c R.fields.length cb) R.fields:=by
 obtain ⟨a,f,rfl⟩:=b.shape;refine ⟨a,f,i,(((btr h k.below g).setCell (by simp;omega) _).setCell (by simp;omega) _).setCell (by simp;omega) _,?_⟩;exact (b.keep (λj l _=>by rw [iS _ _ _ _ (by simp;omega),iS _ _ _ _ (by simp;omega),iS _ _ _ _ (by simp;omega)]) (by simp)).fields (by omega)
set_option linter.unusedSimpArgs false in
set_option maxHeartbeats 8000000 in
set_option maxRecDepth 100000 in
theorem sX (H C:UInt8) (r:List af) (sa:Option Addr) (ay:Nat) (n:Nat) (iv:n<=7) (q l:Int) (w:j2) (hf:ai 0 w.heap.size w (fn sa r.length ay) r) (hN:r.length<=5000) (hM:∀f∈r,(fieldBytes f).length<=50000):
 k8 prog 84 #[.agg #[J h1 H.toNat,J h1 C.toNat,fn sa r.length ay], .agg #[J U (n:Int),J U q,J U l]] w λe w'=>∃(sb:Option Addr) (cb:Nat),
  e=hk (.agg #[J h1 (spoilR ⟨H,C,r⟩ n q l).kind.toNat,J h1 (spoilR ⟨H,C,r⟩ n q l).level.toNat, .slice sb (spoilR ⟨H,C,r⟩ n q l).fields.length cb])/\Bw w w'/\
  ai w.heap.size w'.heap.size w' (.slice sb (spoilR ⟨H,C,r⟩ n q l).fields.length cb) (spoilR ⟨H,C,r⟩ n q l).fields:=by
 obtain ⟨R,hR⟩:=Qe (spoilR ⟨H,C,r⟩ n q l);rw [hR];have HR:=Z hR;clear hR;obtain ⟨q0,ds⟩:∃q0:Int,(n:Int)=q0:=⟨_,rfl⟩;rw [ds];obtain ⟨mt,d9,fy⟩:=kT l 11 (by omega);have em:Hid (textsL.getD mt []=pick textsL l):=(o8 textsL l 11 mt rfl d9).symm;have gb:Hid (∀W,k8 prog 24 #[J U l,J U 11] W λe w'=>e=hk (J U (mt:Int))/\W=w'):=ro l 11 11 mt (by omega) (by omega) rfl d9;have g4:Hid (∀W,k8 prog 24 #[J U q0,J U 10] W λe w'=>e=hk (J U (n:Int))/\W=w'):=ro q0 10 10 n (by omega) (by omega) rfl (by show q0%10=n;omega);have hX:=Z ds;clear d9 ds;have HF:Hid (∀W,Bw w W->ai 0 w.heap.size W (fn sa r.length ay) r):=λW h=>hf.kept (aP h (kk _));have HM:=Z hM;have HQ:Hid (∀W,Below (w.heap.size+2) ((w.alloc (recO H C (fn sa r.length ay))).alloc (numsO q0 q l)) W->_):=λW h=>BW w H C (fn sa r.length ay) q0 q l W h;obtain ⟨w0,b5⟩:∃w0,w0=((w.alloc (recO H C (fn sa r.length ay))).alloc (numsO q0 q l)):=⟨_,rfl⟩;have hE:w0.heap.size=w.heap.size+2:=by rw [b5];simp
 have HI:=dp.init w0 H C;rw [hE,b5] at HI;have HI:=Z HI;have b6:Hid (Bw w w0):=by rw [b5];exact ((ka _ w).alloc (kk _) _).alloc (by simp) _
 rw [<- b5] at HQ;have h6:=Z b5;clear hf hM b5;go_enter func84,ntmps84;go_wp2_with fail
 go_loopw [6] (λi wr=>∃(k:Nat) (o:List af) (va:Option Addr) (O:Nat),i=J U k/\k<=r.length/\Hid (o=r.take k)/\Hid (o.length=k)/\o.length<=5000/\Hid (dp (w.heap.size+2) w0 wr H C (fn va o.length O))/\Hid (ei (w.heap.size+2+2) wr (fn va o.length O) o)) (λi _=>r.length - (intOf i).toNat)
 case atStart=>exact ⟨0,[],Y,0,rfl,by omega,by simp [Hid],rfl,by simp,by rw [h6.o];exact HI,ei.nil _ _⟩
 case round=>
  obtain ⟨k,o,va,O,rfl,j,ao,c4,f7,HH,HO⟩:=hrel;have hb:=HH.below;obtain ⟨b2,ca,bk,ax⟩:=HQ wr hb;have cc:=HH.big;by_cases hlt:k<r.length
  · obtain ⟨b,iN,eQ,d,hv,_,i4,hy,hA,hB,iF,dy⟩:=(HF.o _ (btr b6.o hb (by omega))).field k hlt;cases hv;obtain ⟨f,d4⟩:=Qe (r[k]);have f5:=HM _ (kn hlt);have gi:Hid (o++[f]=r.take (k+1)):=by rw [ao.o,List.take_succ_eq_append_getElem hlt,d4];rfl
    rw [d4] at hy hA hB dy f5;have e6:f.subs.length<=1000000:=by have:=cA f;omega
    clear d4;obtain ⟨z,A,rfl⟩:∃z A,d=fn z f.subs.length A:=by obtain ⟨a,c,h,_⟩:=dy;exact ⟨a,c,h⟩
    obtain ⟨W5,aS⟩:∃W5,W5=(wr.alloc (j1 #[S f.tag,S f.ind,S f.data,fn z f.subs.length A] 123)).alloc (j1 #[] 120):=⟨_,rfl⟩;have aT:Bw wr W5:=by rw [aS];exact ((ka _ wr).alloc (kk _) _).alloc (by simp) _
    have f4:W5.heap.size=wr.heap.size+2:=by rw [aS];simp
    have f2:W5.heap[wr.heap.size+1]? =X (gs #[] 120 (0,0)):=by rw [aS];have:=heap_alloc_new (wr.alloc (j1 #[S f.tag,S f.ind,S f.data,fn z f.subs.length A] 123)) (j1 #[] 120);simpa using this
    have f3:W5.heap[wr.heap.size]? =X (j1 #[S f.tag,S f.ind,S f.data,fn z f.subs.length A] 123):=by rw [aS,kb _ _ _ (by simp)];exact heap_alloc_new _ _
    obtain ⟨B,G,y,dx,fp,au,h7⟩:=wM (w.heap.size+2+2) W5 (wr.heap.size+1) (fn z f.subs.length A) f.subs f2 ((dy.kept (aP aT (by have:=b6.o.size;have:=hb.size;omega))).mono (kk _) (by rw [f4];have:=b6.o.size;have:=hb.size;omega)) e6 (by omega);have aC:y.heap[wr.heap.size]? =X (j1 #[S f.tag,S f.ind,S f.data,fn z f.subs.length A] 123):=by rw [au.block _ (by omega) (by intro e;injection e with e;omega)];exact f3
    have e3:y.cell? ⟨wr.heap.size,3,Y⟩=X (fn z f.subs.length A):=by simp [k3,aC,j1]
    have x3:y.frozen? ⟨wr.heap.size,3,Y⟩=false:=by simp [World.frozen?,aC,j1]
    have e0:(y.setCell ⟨wr.heap.size,3,Y⟩ (fn (X B) f.subs.length G)).cell? ⟨wr.heap.size,0,Y⟩=X (S f.tag):=by rw [kt _ _ _ _ (by simp)];simp [k3,aC,j1]
    have e1:(y.setCell ⟨wr.heap.size,3,Y⟩ (fn (X B) f.subs.length G)).cell? ⟨wr.heap.size,1,Y⟩=X (S f.ind):=by rw [kt _ _ _ _ (by simp)];simp [k3,aC,j1]
    have e2:(y.setCell ⟨wr.heap.size,3,Y⟩ (fn (X B) f.subs.length G)).cell? ⟨wr.heap.size,2,Y⟩=X (S f.data):=by rw [kt _ _ _ _ (by simp)];simp [k3,aC,j1]
    have e4:(y.setCell ⟨wr.heap.size,3,Y⟩ (fn (X B) f.subs.length G)).cell? ⟨wr.heap.size,3,Y⟩=X (fn (X B) f.subs.length G):=World.cell?_setCell_same _ _ _ e3;have bs:∀k,k<wr.heap.size->(y.setCell ⟨wr.heap.size,3,Y⟩ (fn (X B) f.subs.length G)).heap[k]? =wr.heap[k]? :=λk j=>by rw [iS _ _ _ _ (by simp;omega),au.block k (by omega) (by intro e;injection e with e;omega),aT.block k j]
    have i1:wr.heap.size+2<=(y.setCell ⟨wr.heap.size,3,Y⟩ (fn (X B) f.subs.length G)).heap.size:=by have:=au.size;simp;omega
    have cP:Below (w.heap.size+2) w0 (y.setCell ⟨wr.heap.size,3,Y⟩ (fn (X B) f.subs.length G)):=
     ⟨by rw [show (y.setCell ⟨wr.heap.size,3,Y⟩ (fn (X B) f.subs.length G)).os=y.os from rfl];exact au.os.trans (aT.os.trans hb.os),au.tape.trans (aT.tape.trans hb.tape),au.output.trans (aT.output.trans hb.output),by have:=hb.size;omega,
      λk j=>(bs k (by omega)).trans (hb.block k j)⟩
    have f0:(y.setCell ⟨wr.heap.size,3,Y⟩ (fn (X B) f.subs.length G)).ownsRow (w.heap.size+2+2) 120 2 (fn (X B) f.subs.length G) f.subs.length (f.subs.flatMap subCells):=
     cD fp (λg hg=>iS _ _ _ _ (by simp [kl] at hg;simp;omega))
    have f7:wr.heap.size<=B.block:=by omega
    obtain ⟨ps,_,bB,_⟩:=HO.ex;have f1:(y.setCell ⟨wr.heap.size,3,Y⟩ (fn (X B) f.subs.length G)).ownsRow (w.heap.size+2+2) 123 4 (fn va o.length O) o.length (ps.flatMap fieldCells):=cD bB (λg hg=>bs g (bB.lt g hg).2);have cQ:=HH.o.far cP (λk j=>bs k (by omega)) (by omega);have e5:=cQ.c2;have h5:Hid (∀k,(Value.slice va o.length O).ownBlock=X k->w.heap.size+2+2<=k):=λk j=>(bB.lt k j).1;rw [aS] at dx;have eq:=Z dx;have bb:=Z bB;clear aS aT f4 f2 f3 aC dx fp au h7 bB;go_upto_region 7 with (at_builtin;refine ou rfl _ _ rfl rfl _ _ _ _ rfl rfl eq.o ?_)
    generalize (y.setCell ⟨wr.heap.size,3,Y⟩ (fn (X B) f.subs.length G))=w7 at *;have gt:=Z bs;have g3:=Z cP;have gf:=Z f0;have c7:=Z f1;have I:=Z cQ;obtain ⟨i0,hi,a8,a9,ac⟩:=ld BA;have HI:=Z hi;have b7:=Z a8;have b8:=Z a9;have b9:=Z ac;clear bs cP f0 f1 cQ hi a8 a9 ac eq;go_wp2_with (at_builtin;refine wpList_append_own_at _ rfl _ _ 60 rfl (w.heap.size+2+2) 123 i0 (.agg #[.string ⟨#[]⟩, .string ⟨#[]⟩, .string ⟨#[]⟩,fn Y 0 0]) 4 72 underlying60 HI.o b7.o b8.o b9.o rfl (by omega) (fn va o.length O) o.length _ rfl (c7.o.alloc _) ⟨w7.heap.size,0,Y⟩ 1 1 [S f.tag,S f.ind,S f.data,fn (X B) f.subs.length G] rfl rfl (uZ _ _ _ _ _ _) (by simp [k5]) (by unfold maxLen;omega) (by omega) (by simp;omega) ?_;intro v' w8 dn N _ a1;obtain ⟨fz,g0,rfl⟩:=bM dn;have gy:=Z dn;have gn:=Z N;have g1:=Z a1;obtain ⟨e8,f8⟩:=A9 I.o N h5.o;clear dn N a1)
    go_roundw
    case rel=>
     have:=Ba _ f (fn (X B) f.subs.length G) B.block HH.o HO.o g3.o gt.o (by omega) gf.o rfl f7 _ bb.o gy.o gn.o g1.o;refine ⟨k+1,o++[f],fz,g0,by go_num,by omega,gi,by rw [kz,c4.o];rfl,by have:=c4.o;simp;omega,?_,?_⟩
     · simpa [Hid] using this.1
     · simpa [Hid] using this.2
    case measure=>simp [intOf];omega
  · have ht:k=r.length:=by omega
    have i6:o.length<=5000:=by rw [c4.o];omega
    have gp:Hid (∀f∈o,(fieldBytes f).length<=50000):=λf hf=>HM.o f (by rw [ao.o] at hf;exact List.mem_of_mem_take hf);have c3:Hid (o=r):=by unfold Hid;rw [ao.o,List.take_of_length_le (by omega)]
    clear ao c4 HF HM ca bk ax;generalize wr=w4 at *;have es:Hid ((w4.alloc oE).cell? ⟨w4.heap.size,mt,Y⟩=X (S (pick textsL l))):=by unfold Hid;rw [<- em.o];exact oI w4 textsL 9 mt fy
    have D:=Z (HH.keep (aL w4 oE));have c6:=Z (HO.keep (aL w4 oE));go_upto_region 9 with fail
    clear b2 j hlt ht;generalize (w4.alloc oE)=w5 at *;obtain ⟨b2,ca,bk,ax⟩:=HQ w5 D.below;go_cut [9] (λt wx=>t=S (pick textsL l)/\wx=w5)
    case first=>
     have hx:=es.o;have it:(mt:Int)<11:=by omega
     go_wp2_with (go_at_call 24;((with_reducible refine j0 (gb.o _) ?_);rintro e w' ⟨rfl,rfl⟩))
     go_meet;exact ⟨rfl,rfl⟩
    case rest=>
     obtain ⟨rfl,hD⟩:=hcut;obtain ⟨T,hT⟩:=Qe (pick textsL l);have i2:T.length<=10:=by
      rw [<- hT, <- em.o];have:∀x∈textsL,x.length<=10:=by decide
      exact this _ (An fy)
     have cy:=Z hT;rw [hT];clear hT;subst hD;generalize wc=y at *;clear es HH HO cc hb;have hb:=D.below;have cc:=D.big;have c0:=D.c0;have c1:=D.c1;have c2:=D.c2;have x0:=D.x0;have z0:=D.z0;have z1:=D.z1;have z2:=D.z2;have y0:=D.y0;have y1:=D.y1;have y2:=D.y2;by_cases L:o.length=0
     · have hc:=oz q;obtain ⟨c,a0⟩:=Qe (u8I q);have a6:o=[]:=kc L;have bc:Hid (R=⟨c,C,[]⟩):=by unfold Hid;rw [<- HR.o, <- c3.o,a6, <- a0];rfl
       rw [a0] at hc;subst a6;have hh:=D.set0 c;have E:=c6.o.toRec.far (w':=y.setCell ⟨w.heap.size+2+1,0,Y⟩ (J h1 c.toNat)) (λk j _=>iS _ _ _ _ (by simp;omega)) (by simp);have gq:=Z hh;have gQ:=Z E;clear hh E;clear a0;go_wp2_with fail
       all_goals
        refine bodyPost_ret (v:= .agg #[J h1 c.toNat,J h1 C.toNat,fn va 0 O]) (by simp only [results,Tryz.results84];go_simp) rfl ?_
        rw [bc.o]
        exact uA b6.o (by omega) gq.o gQ.o _ rfl
     · have cp:0<o.length:=by omega
       obtain ⟨g,hY,hC,f6,hn⟩:∃g eQ,Value.slice va o.length O=fn (X ⟨g,0,Y⟩) o.length eQ/\w.heap.size+2+2<=g/\g<y.heap.size:=by obtain ⟨_,_,h2,_⟩:=c6.ex;exact h2.form cp
       cases hC;clear x0 z0 z1 z2 y0 y1 y2 c0 c1;go_upto_region 13 with fail
       obtain ⟨m,d8,hm⟩:=kT q o.length (by omega);have g8:Hid (∀W,k8 prog 24 #[J U q,J U (o.length:Int)] W λe w'=>e=hk (J U (m:Int))/\W=w'):=ro q _ o.length m (by omega) (by omega) rfl d8;have gx:=Z d8;clear d8;go_cut [10] (λt wx=>t=hr (X ⟨g,m * 4,Y⟩)/\Bw y wx)
       case first=>
        have t1:(0:Int)<=0:=by omega
        go_region_held3 (λw'=>w'.cell? ⟨w.heap.size+2+1,2,Y⟩=X (fn (X ⟨g,0,Y⟩) o.length O)/\w'.cell? ⟨w.heap.size+1,1,Y⟩=X (J U q)) (go_keep)
         ((go_at_call 24;((with_reducible refine j0 (g8.o _) ?_);rintro e w' ⟨rfl,rfl⟩)))
        go_wp2_with fail
        go_meet;exact ⟨by simp,(ka _ y).drew⟩
       case rest=>
        obtain ⟨rfl,cd⟩:=hcut;have I:=Z (D.keep cd);have c7:=Z (c6.keep cd);have hF:=cd.size;clear c2 b2 ca bk ax D c6 cd hb cc;generalize wc=w7 at *;have a7:g<w7.heap.size:=by omega
        clear hF hn;obtain ⟨b2,ca,bk,ax⟩:=HQ w7 I.below;obtain ⟨ps,b1,b3,b4,dr⟩:=c7.ex;have ad:m<ps.length:=by rw [<- b1] at hm;simpa using hm
        have b0:o.length=ps.length:=by rw [<- b1];simp
        obtain ⟨t0,t1,t2,t3,tf⟩:=tD b3 m ad;obtain ⟨f,bt⟩:=Qe (ps[m].1);have f5:(fieldBytes f).length<=50000:=gp.o f (by rw [<- bt, <- b1];exact List.mem_map_of_mem (kn ad));have hq:=b4 _ (kn ad);rw [bt] at t0 t1 t2 hq;obtain ⟨d,d3⟩:=Qe (ps[m].2);rw [d3] at t3 hq;obtain ⟨⟨bO,gd,al,ft⟩⟩:Nonempty (w7.ownsRow (w.heap.size+2+2) 120 2 d f.subs.length (f.subs.flatMap subCells)/\_):=⟨hq⟩;obtain ⟨z,A,rfl⟩:=bM bO;have bb:Hid (ps[m]=(f,fn z f.subs.length A)):=Prod.ext bt d3;have er:Hid (∀p∈ps,bm (w.heap.size+2+2) (X g) w7 p.2 p.1.subs):=λp hp=>gF (b4 p hp).1 (λk j e=>by obtain ⟨_,g2,V,h2⟩:=b4 p hp;rw [V] at j;injection j with j;subst j;exact h2 e);have cu:Hid (n≠0->n≠1->R=⟨H,C,o.modify m λf=>gC f n q l⟩):=λL V=>by rw [<- HR.o, <- c3.o];unfold spoilR;have a6:o≠[]:=List.length_pos_iff.1 cp;have e:q.emod o.length=(m:Int):=gx.o;dsimp only;rw [if_neg a6,if_neg (by omega),if_neg (by omega),e];rfl
        have gz:Hid (n=0->R=⟨u8I l,C,o⟩):=λL=>by rw [<- HR.o, <- c3.o];unfold spoilR;have a6:o≠[]:=List.length_pos_iff.1 cp;dsimp only;rw [if_neg a6,if_pos (by omega)]
        have gO:Hid (n=1->R=⟨H,u8I l,o⟩):=λL=>by rw [<- HR.o, <- c3.o];unfold spoilR;have a6:o≠[]:=List.length_pos_iff.1 cp;dsimp only;rw [if_neg a6,if_neg (by omega),if_pos (by omega)]
        have cv:Hid (∀(Q:af) (d':j3),gC f n q l=Q->(ps.set m (Q,d')).map (·.1)=o.modify m λf=>gC f n q l):=λQ d' ha=>s7 b1 m ad _ Q d' (by rw [bt];exact ha)
        have c9:Hid (∀(i:Nat) (u:j3) (Q:af) (d':j3),n≠0->n≠1->gC f n q l=Q->i<4->(fieldCells (f,fn z f.subs.length A)).set i u=fieldCells (Q,d')->bm (w.heap.size+2+2) (X g) w7 d' Q.subs->∀W:j2,Bw w7 W->
         vi R (w.heap.size+2) w0 (W.setCell ⟨g,m * 4+i,Y⟩ u)):=by
         intro i u Q d' dd di dz hi hc hs W hW
         have fx:∀x ss,bm (w.heap.size+2+2) (X g) w7 x ss->bm (w.heap.size+2+2) (X g) W x ss:=λx ss h=>h.step (λk _ j _=>hW.block k j) hW.size (.inl rfl)
         have E:=bJ.put (w:=W) ps b0 m i ad (λk j _=>fx _ _ (er.o _ (kn j))) (cD b3 (λg' a4=>hW.block g' (b3.lt g' a4).2)) hi u (Q,d') (by rw [bb.o];exact hc) (fx _ _ hs)
         have bA:((ps.set m (Q,d')).map (·.1)).length=o.length:=by simp [b0]
         rw [cu.o dd di, <- cv.o Q d' dz]
         refine ⟨X ⟨g,0,Y⟩,O,?_,?_⟩
         · rw [bA];exact (I.o.keep hW).put g _ f6 u
         · rw [bA];exact E
        have ao:Hid (∀(e7 eg:UInt8) (W:j2),R=⟨e7,eg,o⟩->dp (w.heap.size+2) w0 W e7 eg (fn (X ⟨g,0,Y⟩) o.length O)->(∀k,w.heap.size+2+2<=k->k<w7.heap.size->W.heap[k]? =w7.heap[k]?)->w7.heap.size<=W.heap.size->vi R (w.heap.size+2) w0 W):=
         λe7 eg W E hh j hz=>by rw [E];exact ⟨_,O,hh,c7.o.toRec.far j hz⟩
        have cg:g≠gd:=λe=>ft (by rw [e];rfl);have hl:=bO.lt gd al;have cx:=Z (gF (g:=X g) bO (λk j e=>by rw [al] at j;injection j with j;subst j;exact ft e))
        have ej:Hid (∀(s:cw) (v':j3) (F W:j2),n≠0->n≠1->gC f n q l={f with subs:=f.subs++[s]}->Bw w7 W->F.ownsRow (w.heap.size+2+2) 120 2 v' (f.subs.length+1) (f.subs.flatMap subCells++subCells s)->W.grownBy F (X gd)->(v'.ownBlock=X gd∨v'.ownBlock=X W.heap.size)->
         vi R (w.heap.size+2) w0 (F.setCell ⟨g,m * 4+3,Y⟩ v')/\F.cell? ⟨g,m * 4+3,Y⟩=X (fn z f.subs.length A)/\F.frozen? ⟨g,m * 4+3,Y⟩=false):=by
         intro s v' F W dd di dz hW hw N a1
         have hz:=hW.size
         have cm:∀k,k<w7.heap.size->k≠gd->F.heap[k]? =w7.heap[k]? :=λk j dk=>by rw [N.block k (by omega) (by intro e;injection e with e;exact dk e),hW.block k j]
         have fr:=List.pairwise_iff_getElem.1 dr
         have E:=bJ.put (w:=F) ps b0 m 3 ad (λk j dk=>?_) (cD b3 (λg' a4=>?_)) (by omega) v' ({f with subs:=f.subs++[s]},v') (by rw [bb.o];rfl) ?_
         · have bA:((ps.set m ({f with subs:=f.subs++[s]},v')).map (·.1)).length=o.length:=by simp [b0]
           have h9:F.cell? ⟨g,m * 4+3,Y⟩=w7.cell? ⟨g,m * 4+3,Y⟩:=ky (cm g a7 cg)
           have f9:F.frozen? ⟨g,m * 4+3,Y⟩=w7.frozen? ⟨g,m * 4+3,Y⟩:=ko (cm g a7 cg)
           rw [cu.o dd di, <- cv.o _ v' dz]
           refine ⟨⟨X ⟨g,0,Y⟩,O,?_,?_⟩,by rw [h9];exact t3,by rw [f9];exact tf _⟩
           · rw [bA];exact ((I.o.keep hW).grown N (λk j=>by injection j with j;subst j;exact hl.1)).put g _ f6 v'
           · rw [bA];exact E
         · obtain ⟨fc,g2,cl,ho⟩:=b4 _ (kn j)
           have fl:ps[k].2.ownBlock≠ps[m].2.ownBlock:=by
            rcases Nat.lt_or_gt_of_ne dk with h|h
            · exact fr k m j ad h
            · exact (fr m k ad j h).symm
           rw [bb.o,al,cl] at fl
           refine gF (cD fc (λg' a4=>?_)) (λk' ch e=>?_)
           · rw [cl] at a4;injection a4 with a4;subst a4
             exact cm _ (fc.lt _ cl).2 (λe=>fl (by rw [e]))
           · rw [cl] at ch;injection ch with ch;subst ch
             exact ho e
         · have:g'=g:=by simpa [kl] using a4.symm
           subst this
           exact cm _ a7 cg
         · refine gF (by simpa [List.flatMap_append] using hw) (λk j e=>?_)
           injection e with e
           subst e
           rcases a1 with a1|a1
           · rw [a1] at j;injection j with j;exact cg j.symm
           · rw [a1] at j;injection j with j;omega
        have cs:=Z bO;have hP:=Z b1;have hQ:=Z b3;have hS:=Z b4;have hV:=Z dr;have hO:=Z b0;clear hq bO b1 b3 b4 dr bt d3 er b0 cu cv;have c0:=I.c0;have c1:=I.c1;have c2:=I.c2;have x0:=I.x0;have x1:=I.x1;have x2:=I.x2;have cc:=I.big;go_upto_block 2 with (go_at_call 24;((with_reducible refine j0 (g4.o _) ?_);rintro e w' ⟨rfl,rfl⟩))
        go_cut [] (λwx=>vi R (w.heap.size+2) w0 wx)
        case first=>
         have h8:n=0∨n=1∨n=2∨n=3∨n=4∨n=5∨n=6∨n=7:=by omega
         rcases h8 with rfl|rfl|rfl|rfl|rfl|rfl|rfl|rfl
         · have hc:=oz l;have E:=gz rfl;obtain ⟨c,a0⟩:=Qe (u8I l);rw [a0] at hc E;have bc:=Z E;clear a0 E;go_wp2_with fail
           go_meet;exact ao.o c C _ bc.o (I.o.set0 c) (λk j _=>iS _ _ _ _ (by simp;omega)) (by simp)
         · have hc:=oz l;have E:=gO rfl;obtain ⟨c,a0⟩:=Qe (u8I l);rw [a0] at hc E;have bc:=Z E;clear a0 E;go_wp2_with fail
           go_meet;exact ao.o H c _ bc.o (I.o.set1 c) (λk j _=>iS _ _ _ _ (by simp;omega)) (by simp)
         · obtain ⟨k7,d7,hH⟩:=kT l 7 (by omega);have h4:Hid ((w7.alloc jH).cell? ⟨w7.heap.size,k7,Y⟩=X (S (pick iH l))):=by unfold Hid;rw [o8 iH l 7 k7 rfl d7];exact oI w7 iH 9 k7 hH
           have g6:Hid (∀W,k8 prog 24 #[J U l,J U 7] W λe w'=>e=hk (J U (k7:Int))/\W=w'):=ro l 7 7 k7 (by omega) (by omega) rfl d7;have ia:(k7:Int)<7:=by omega
           clear d7;have hd:(w7.alloc jH).cell? ⟨g,m * 4,Y⟩=X (S f.tag):=by rw [aM _ _ _ _ a7];exact t0
           have he:(w7.alloc jH).frozen? ⟨g,m * 4,Y⟩=false:=by rw [ko (w:=w7) (kb _ _ _ a7)];exact tf _
           have d5:Bw w7 (w7.alloc jH):=aL _ _;have hj:(w7.alloc jH).cell? ⟨w.heap.size+1,2,Y⟩=X (J U l):=by rw [aM _ _ _ _ (by omega)];exact ax
           go_wp2_with fail
           generalize (w7.alloc jH)=w8 at *;((with_reducible refine j0 (g6.o _) ?_);rintro e w' ⟨rfl,rfl⟩;have hI:=h4.o)
           go_wp2_with fail
           go_meet;exact c9.o 0 (S (pick iH l)) {f with tag:=pick iH l} (fn z f.subs.length A) (by omega) (by omega) rfl (by omega) rfl cx.o _ d5
         · have e1:=cI f;have iD:¬9223372036854775807<f.data.length+T.length:=by omega
           have iP:=tf (m * 4+2);go_wp2_with fail
           go_meet;exact c9.o 2 (S (f.data++T)) {f with data:=f.data++T} (fn z f.subs.length A) (by omega) (by omega) (by rw [<- cy.o];rfl) (by omega) rfl cx.o _ (ka _ _)
         · obtain ⟨k6,d6,hG⟩:=kT l 6 (by omega);have h3:Hid ((w7.alloc jT).cell? ⟨w7.heap.size,k6,Y⟩=X (S (pick gL l))):=by unfold Hid;rw [o8 gL l 6 k6 rfl d6];exact oI w7 gL 9 k6 hG
           have g5:Hid (∀W,k8 prog 24 #[J U l,J U 6] W λe w'=>e=hk (J U (k6:Int))/\W=w'):=ro l 6 6 k6 (by omega) (by omega) rfl d6;have i8:(k6:Int)<6:=by omega
           clear d6;have hd:(w7.alloc jT).cell? ⟨g,m * 4+1,Y⟩=X (S f.ind):=by rw [aM _ _ _ _ a7];exact t1
           have he:(w7.alloc jT).frozen? ⟨g,m * 4+1,Y⟩=false:=by rw [ko (w:=w7) (kb _ _ _ a7)];exact tf _
           have d5:Bw w7 (w7.alloc jT):=aL _ _;have hj:(w7.alloc jT).cell? ⟨w.heap.size+1,2,Y⟩=X (J U l):=by rw [aM _ _ _ _ (by omega)];exact ax
           go_wp2_with fail
           generalize (w7.alloc jT)=w8 at *;((with_reducible refine j0 (g5.o _) ?_);rintro e w' ⟨rfl,rfl⟩;have hI:=h3.o)
           go_wp2_with fail
           go_meet;exact c9.o 1 (S (pick gL l)) {f with ind:=pick gL l} (fn z f.subs.length A) (by omega) (by omega) rfl (by omega) rfl cx.o _ d5
         · have iQ:=tf (m * 4+3);go_wp2_with fail
           go_meet;exact c9.o 3 (fn Y 0 0) {f with subs:=[]} (fn Y 0 0) (by omega) (by omega) rfl (by omega) rfl ⟨Y,0,rfl,λh=>absurd rfl h⟩ _ (ka _ _)
         · have a0:=xz q;have g7:=Z a0;clear a0;obtain ⟨i0,hi,a8,a9,ac⟩:=ld Am;have HI:=Z hi;have b7:=Z a8;have b8:=Z a9;have b9:=Z ac;clear hi a8 a9 ac;have e6:=cA f;have P:Hid (∀W,Bw w7 W->(λw':j2=>w'.cell? ⟨g,m * 4+3,Y⟩=X (fn z f.subs.length A)/\w'.cell? ⟨w.heap.size+1,1,Y⟩=X (J U q)) W):=λW hW=>⟨by rw [hW.cell (p:=⟨g,_,Y⟩) a7];exact t3,by rw [hW.cell (p:=⟨w.heap.size+1,_,Y⟩) (by simp;omega)];exact bk⟩;have a2:Hid (Bw w7 w7.drew):=(ka _ w7).drew;have bY:Hid (Bw w7 (w7.alloc (j1 #[J h1 (IntKind.u8.wrap q),S T] 120)).drew):=(aL _ _).drew;go_wp2_with fail
           refine wT (λw':j2=>w'.cell? ⟨g,m * 4+3,Y⟩=X (fn z f.subs.length A)/\w'.cell? ⟨w.heap.size+1,1,Y⟩=X (J U q)) 14 ?_;refine bS (i:=0) (v:=?_) rfl (by kernel_rfl) (by kernel_rfl) (by kernel_rfl) (by kernel_rfl) (by decide) (λ_ _ _ h=>h) (P _ a2.o) (k4 ⟨by rfl,?_⟩) ?_;rotate_left
           · intro w' h;obtain ⟨L,V⟩:=h;go_simp;(first |done|rfl)
           (try simp only [Act.put,ja,jb,jn])
           refine bS (i:=1) (v:=?_) rfl (by kernel_rfl) (by kernel_rfl) (by kernel_rfl) (by kernel_rfl) (by decide) (λ_ _ _ h=>h) (P _ a2.o) (k4 ⟨by rfl,?_⟩) ?_;rotate_left
           · intro w' h;obtain ⟨L,V⟩:=h;go_simp;(first |done|rfl)
           (try simp only [Act.put,ja,jb,jn])
           refine bS (i:=2) (v:=?_) rfl (by kernel_rfl) (by kernel_rfl) (by kernel_rfl) (by kernel_rfl) (by decide) (λ_ _ _ h=>h) (P _ a2.o) (k4 ⟨by rfl,?_⟩) ?_;rotate_left
           · intro w' h;obtain ⟨L,V⟩:=h;go_simp;(first |done|rfl)
           (try simp only [Act.put,ja,jb,jn])
           refine bS (i:=3) (v:=?_) rfl (by kernel_rfl) (by kernel_rfl) (by kernel_rfl) (by kernel_rfl) (by decide) (λ_ _ _ h=>h) (P _ a2.o) (k4 ⟨by rfl,?_⟩) ?_;rotate_left
           · intro w' h;obtain ⟨L,V⟩:=h;go_simp;(first |done|rfl)
           (try simp only [Act.put,ja,jb,jn])
           refine bS (i:=4) (v:=?_) rfl (by kernel_rfl) (by kernel_rfl) (by kernel_rfl) (by kernel_rfl) (by decide) (λ_ _ _ h=>h) (P _ a2.o) (k4 ⟨by rfl,?_⟩) ?_;rotate_left
           · intro w' h;obtain ⟨L,V⟩:=h;go_simp;(first |done|rfl)
           (try simp only [Act.put,ja,jb,jn])
           refine bS (i:=5) (v:=?_) rfl (by kernel_rfl) (by kernel_rfl) (by kernel_rfl) (by kernel_rfl) (by decide) (λ_ _ _ h=>h) (P _ a2.o) (k4 ⟨by rfl,?_⟩) ?_;rotate_left
           · intro w' h;obtain ⟨L,V⟩:=h;go_simp;(first |done|rfl)
           (try simp only [Act.put,ja,jb,jn])
           refine bS (i:=6) (v:=?_) rfl (by kernel_rfl) (by kernel_rfl) (by kernel_rfl) (by kernel_rfl) (by decide) (λ_ _ _ h=>h) (P _ a2.o) (k4 ⟨by rfl,?_⟩) ?_;rotate_left
           · intro w' h;obtain ⟨L,V⟩:=h;go_simp;(first |done|rfl)
           (try simp only [Act.put,ja,jb,jn])
           refine bS (i:=7) (v:=?_) rfl (by kernel_rfl) (by kernel_rfl) (by kernel_rfl) (by kernel_rfl) (by decide) (λ_ _ _ h=>h) (P _ a2.o) (k4 ⟨by rfl,?_⟩) ?_;rotate_left
           · intro w' h;obtain ⟨L,V⟩:=h;go_simp;(first |done|rfl)
           (try simp only [Act.put,ja,jb,jn])
           refine bS (i:=8) (v:=?_) rfl (by kernel_rfl) (by kernel_rfl) (by kernel_rfl) (by kernel_rfl) (by decide) (λ_ _ _ h=>h) (P _ a2.o) (k4 ⟨by rfl,?_⟩) ?_;rotate_left
           · intro w' h;obtain ⟨L,V⟩:=h;go_simp;(first |done|rfl)
           (try simp only [Act.put,ja,jb,jn])
           refine bS (i:=9) (v:=?_) rfl (by kernel_rfl) (by kernel_rfl) (by kernel_rfl) (by kernel_rfl) (by decide) (λ_ _ _ h=>h) (P _ a2.o) (k4 ⟨by rfl,?_⟩) ?_;rotate_left
           · intro w' h;obtain ⟨L,V⟩:=h;go_simp;(first |done|rfl)
           (try simp only [Act.put,ja,jb,jn])
           refine Dp 10 λK M=>?_;go_simp;refine M _ _ (λ_=>P _ bY.o) ?_;clear M K;refine Dp 11 λK M=>?_;refine wp_append_lies _ _ _ 121 rfl (w.heap.size+2+2) 120 i0 (.agg #[J h1 0, .string ⟨#[]⟩]) 2 24 underlying121 HI.o b7.o b8.o b9.o rfl (by omega) (fn z f.subs.length A) f.subs.length _ (by rfl) (cD cs.o (λg' a4=>bY.o.block g' (cs.o.lt g' a4).2)) ⟨w7.heap.size,0,Y⟩ 1 1 [J h1 (IntKind.u8.wrap q),S T] (by rfl) rfl (ve w7 _ _ _) (by simp [k5]) (by omega) (by unfold maxLen;omega) (by omega) (by simp;omega) _ rfl ?_;intro g9 hZ F av N hu ib;rw [g7.o] at av;obtain ⟨bw,e9,f9⟩:=ej.o ⟨u8I q,T⟩ _ F _ (by omega) (by omega) (by rw [<- cy.o];rfl) bY.o av (by rw [<- al];exact N) (hu.elim (λh=> .inl (h.symm.trans al)) (λh=> .inr (congrArg X h)));have cz:F.cell? ⟨w.heap.size+1,1,Y⟩=X (J U q):=by rw [ky (w:=(w7.alloc (j1 #[J h1 (IntKind.u8.wrap q),S T] 120)).drew) (N.block _ (by simp;omega) (by rw [al];intro e;injection e with e;simp at e;omega))];exact (P.o _ bY.o).2
           have cq:=Z bw;clear av N bw;refine M _ _ (λ_=>⟨e9,cz⟩) ?_;clear M K;refine Dp 12 λK M=>?_;go_simp;refine M _ _ (λ_=>⟨e9,cz⟩) ?_;clear M K;refine Dp 13 λK M=>?_;go_simp;refine M _ _ (λ_=>⟨e9,cz⟩) ?_;clear M K;refine Dl 14 ?_;go_wp2_with fail
           go_meet;exact cq.o
         · obtain ⟨i0,hi,a8,a9,ac⟩:=ld Am;have HI:=Z hi;have b7:=Z a8;have b8:=Z a9;have b9:=Z ac;clear hi a8 a9 ac;have e6:=cA f;go_wp2_with (at_builtin;refine wpList_append_own_at _ rfl _ _ 121 rfl (w.heap.size+2+2) 120 i0 (.agg #[J h1 0, .string ⟨#[]⟩]) 2 24 underlying121 HI.o b7.o b8.o b9.o rfl (by omega) (fn z f.subs.length A) f.subs.length _ rfl (cs.o.alloc _) ⟨w7.heap.size,0,Y⟩ 1 1 [J h1 122,S T] rfl rfl (ve _ _ _ _) (by simp [k5]) (by unfold maxLen;omega) (by omega) (by simp;omega) ?_;intro v' F av N _ a1;obtain ⟨fz,g0,rfl⟩:=bM av;obtain ⟨bw,g9,f9⟩:=ej.o ⟨122,T⟩ _ F _ (by omega) (by omega) (by rw [<- cy.o];rfl) (aL w7 _) av (by rw [<- al];exact N) (by rw [<- al];exact a1);have cq:=Z bw;clear av N a1 bw)
           go_meet;exact cq.o
        case rest=>
         obtain ⟨hJ,hL,a3,gP⟩:=hcut;generalize wc=F at *;have z0:=a3.z0;have z1:=a3.z1;have z2:=a3.z2;have y0:=a3.y0;have y1:=a3.y1;have y2:=a3.y2;have d0:=a3.c0;have d1:=a3.c1;have d2:=a3.c2;clear c0 c1 c2 x0 x1 x2 t0 t1 t2 t3;go_wp2_with fail
         all_goals
          refine bodyPost_ret (v:= .agg #[J h1 R.kind.toNat,J h1 R.level.toNat,fn hJ R.fields.length hL]) (by simp only [results,Tryz.results84];go_simp) rfl ?_
          exact uA b6.o (by omega) a3.o gP.o _ rfl
end
section
open Go.RowKit Go.Maps Go.Shelf
def xL (q:Six):Array j3:= #[J U q.a,J U q.b,J U q.c,J U q.d,J U q.e,J U q.f]
def zi (x:eG):Array j3:= #[J U x.k,J U x.a,J U x.b,J U x.v,J U x.q.a,J U x.q.b,J U x.q.c,J U x.q.d,J U x.q.e,J U x.q.f]
structure zj (q:Six):Prop where
 a:i64B q.a
 b:i64B q.b
 c:i64B q.c
 d:i64B q.d
 e:i64B q.e
 f:i64B q.f
structure zn (x:eG):Prop where
 k:i64B x.k
 a:i64B x.a
 b:i64B x.b
 v:i64B x.v
 q:zj x.q
theorem xq (n:Int):zj (workQ n):=by
 unfold workQ;repeat' split
 all_goals exact ⟨by unfold i64B;decide,by unfold i64B;decide,by unfold i64B;decide,by unfold i64B;decide,by unfold i64B;decide,by unfold i64B;decide⟩
structure SdI (B:Nat) (w0 wr:j2) (x:eG) (q:Six):Prop where
 b:Below B w0 wr
 arg:wr.heap[B]? =some (.cells (zi x) 47 (0,0))
 res:wr.heap[B+1]? =some (.cells #[.int .i64 0, .int .i64 0, .int .i64 0, .int .u8 0, .int .u8 0, .slice none 0 0] 64 (0,0))
 six:wr.heap[B+2]? =some (.cells (xL q) 45 (0,0))
theorem SdI.keep {B:Nat} {c wr W:j2} {x:eG} {q:Six} (h:SdI B c wr x q) (a:Bw wr W):SdI B c W x q:=
 ⟨h.b.trans (a.mono (by have:=ae h.arg;omega)),(a.block _ (ae h.arg)).trans h.arg,(a.block _ (ae h.res)).trans h.res,(a.block _ (ae h.six)).trans h.six⟩
theorem zw {w:j2} {b:Nat} {f g i j k l:j3} {t:TypeId} (h:w.heap[b]? =X (gs #[f,g,i,j,k,l] t (0,0))) (a c1 c2 c d e:j3):
 ((((((w.setCell ⟨b,0,Y⟩ a).setCell ⟨b,1,Y⟩ c1).setCell ⟨b,2,Y⟩ c2).setCell ⟨b,3,Y⟩ c).setCell ⟨b,4,Y⟩ d).setCell ⟨b,5,Y⟩ e).heap[b]? =X (gs #[a,c1,c2,c,d,e] t (0,0)):=
 an (an (an (an (an (an h 0 a) 1 c1) 2 c2) 3 c) 4 d) 5 e
theorem SdI.put {B:Nat} {j wr:j2} {x:eG} {q:Six} (h:SdI B j wr x q) (p:Six):
 SdI B j ((((((wr.setCell ⟨B+2,0,Y⟩ (J U p.a)).setCell ⟨B+2,1,Y⟩ (J U p.b)).setCell ⟨B+2,2,Y⟩ (J U p.c)).setCell ⟨B+2,3,Y⟩ (J U p.d)).setCell ⟨B+2,4,Y⟩ (J U p.e)).setCell ⟨B+2,5,Y⟩ (J U p.f)) x p:=by
 have i:∀k,k≠B+2->((((((wr.setCell ⟨B+2,0,Y⟩ (J U p.a)).setCell ⟨B+2,1,Y⟩ (J U p.b)).setCell ⟨B+2,2,Y⟩ (J U p.c)).setCell ⟨B+2,3,Y⟩ (J U p.d)).setCell ⟨B+2,4,Y⟩ (J U p.e)).setCell ⟨B+2,5,Y⟩ (J U p.f)).heap[k]? =wr.heap[k]? :=λk g=>by rw [iS _ _ _ _ g,iS _ _ _ _ g,iS _ _ _ _ g,iS _ _ _ _ g,iS _ _ _ _ g,iS _ _ _ _ g]
 refine ⟨?_,(i B (by omega)).trans h.arg,(i (B+1) (by omega)).trans h.res,zw h.six _ _ _ _ _ _⟩;exact (((((h.b.setCell (p:=⟨B+2,0,Y⟩) (by simp) _).setCell (p:=⟨B+2,1,Y⟩) (by simp) _).setCell (p:=⟨B+2,2,Y⟩) (by simp) _).setCell (p:=⟨B+2,3,Y⟩) (by simp) _).setCell (p:=⟨B+2,4,Y⟩) (by simp) _).setCell (p:=⟨B+2,5,Y⟩) (by simp) _
theorem fP {l:List Bs} {N:Nat} (h:∀x∈l,x.length<=N) (n:Int):(pick l n).length<=N:=by
 unfold pick;rw [ks];cases hx:l[(n.emod l.length).toNat]? with
 |none=>simp
 |some x=>exact h x (List.mem_of_getElem? hx)
theorem iM (q:Six):(madeR q).fields.length<=7/\∀f∈(madeR q).fields,(fieldBytes f).length<=200:=by
 have h:=fP (l:=yearsL) (N:=20) (by decide);have j:=fP (l:=booksL) (N:=30) (by decide);have m:=fP (l:=namesL) (N:=20) (by decide);have n:=fP (l:=titlesL) (N:=20) (by decide);have k:=fP (l:=inds3L) (N:=2) (by decide);have g:(q.c.emod 3).toNat<=2:=by have g:q.c.emod 3<3:=k0 _ (by omega);omega
 unfold madeR;dsimp only;constructor
 · have o:(made008 q.b).length<=1:=by unfold made008;split<;>simp
   have p:(fU q.c).length<=2:=by unfold fU;rw [List.length_map,List.length_range];exact g
   have r:(eC q.d).length<=1:=by unfold eC;split<;>simp
   have s:(eB q.e).length<=1:=by unfold eB;split<;>simp
   have t:(eA q.f).length<=1:=by unfold eA;split<;>simp
   simp only [kz];omega
 · intro f a;simp only [List.mem_append] at a;rcases a with (((a|a)|a)|a)|a
   · unfold made008 at a;split at a
     · rw [kv] at a;subst a;have:=h q.b;simp [fieldBytes];omega
     · cases a
   · unfold fU at a;obtain ⟨i,_,rfl⟩:=List.mem_map.1 a;have:=j (q.c.tdiv 3+i);simp [fieldBytes,ge,aU];omega
   · unfold eC at a;split at a
     · rw [kv] at a;subst a;have:=m (q.d.tdiv 4);simp [fieldBytes,aU];omega
     · cases a
   · unfold eB at a;split at a
     · rw [kv] at a;subst a;have:=n (q.e.tdiv 5);have:=k q.e;simp [fieldBytes,aU];omega
     · cases a
   · unfold eA at a;split at a
     · rw [kv] at a;subst a;have:=h q.f;simp [fieldBytes,aU];omega
     · cases a
theorem zC (k a b v n o r s u x:Int) (hx:zn ⟨k,a,b,v,⟨n,o,r,s,u,x⟩⟩) (w:j2):
 k8 prog 45 #[.agg #[J U k,J U a,J U b,J U v,J U n,J U o,J U r,J U s,J U u,J U x]] w λe w'=>∃(va:Option Addr) (vc:Nat),
  e=hk (kI (recI a) (v.emod 6) (saidR ⟨k,a,b,v,⟨n,o,r,s,u,x⟩⟩) (.slice va (saidR ⟨k,a,b,v,⟨n,o,r,s,u,x⟩⟩).fields.length vc))/\
  ai w.heap.size w'.heap.size w' (.slice va (saidR ⟨k,a,b,v,⟨n,o,r,s,u,x⟩⟩).fields.length vc) (saidR ⟨k,a,b,v,⟨n,o,r,s,u,x⟩⟩).fields/\Bw w w':=by
 obtain ⟨a3,hX⟩:∃a3:eG,(⟨k,a,b,v,⟨n,o,r,s,u,x⟩⟩:eG)=a3:=⟨_,rfl⟩;obtain ⟨R,hR⟩:=Qe (saidR ⟨k,a,b,v,⟨n,o,r,s,u,x⟩⟩);obtain ⟨p,hp⟩:=Qe ((if b.tmod 3≠0 then workQ b else ⟨n,o,r,s,u,x⟩));have d6:zj p:=by rw [<- hp];split;exact xq b;exact hx.q
 have bY:Hid (R=if k.emod 8=4/\b.tmod 5=0 then spoilR (madeR p) (a.emod 8) b v else madeR p):=by unfold Hid;rw [<- hR, <- hp];rfl
 obtain ⟨mk,ch,lk⟩:=cF k 8 (by omega);obtain ⟨ma,cg,la⟩:=cF a 8 (by omega);obtain ⟨mb,Q,lb⟩:=cF b 4 (by omega);have bw:Hid (∀W,k8 prog 24 #[J U k,J U 8] W λe w'=>e=hk (J U (mk:Int))/\W=w'):=cZ k 8 mk (by omega) (by omega) ch;have dc:Hid (∀W,k8 prog 24 #[J U a,J U 8] W λe w'=>e=hk (J U (ma:Int))/\W=w'):=cZ a 8 ma (by omega) (by omega) cg;have b1:Hid (∀W,k8 prog 24 #[J U b,J U 4] W λe w'=>e=hk (J U (mb:Int))/\W=w'):=cZ b 4 mb (by omega) (by omega) Q;have dd:Hid (∀W,k8 prog 24 #[J U v,J U 6] W λe w'=>e=hk (J U (v.emod 6))/\W=w'):=λW=>jM v 6 W (by omega) (by omega);have dr:Hid (b.emod 4=mb):=Q;have ds:Hid (k.emod 8=mk):=ch;have dn:Hid (a.emod 8=ma):=cg;have HP:=Z hp;have bB:=Z d6;obtain ⟨B,ay⟩:=Qe ((w.alloc (gs #[J U k,J U a,J U b,J U v,J U n,J U o,J U r,J U s,J U u,J U x] 47)).alloc (gs #[J U 0,J U 0,J U 0,J h1 0,J h1 0,fn Y 0 0] 64));have cP:Bw w B:=by rw [<- ay];exact ((ka _ w).alloc (kk _) _).alloc (by simp) _
 have hA:B.heap[w.heap.size]? =X (gs #[J U k,J U a,J U b,J U v,J U n,J U o,J U r,J U s,J U u,J U x] 47 (0,0)):=by rw [<- ay,kb _ _ _ (by simp)];exact j4 w _
 have hB:B.heap[w.heap.size+1]? =X (gs #[J U 0,J U 0,J U 0,J h1 0,J h1 0,fn Y 0 0] 64 (0,0)):=by rw [<- ay];have:=j4 (w.alloc (gs #[J U k,J U a,J U b,J U v,J U n,J U o,J U r,J U s,J U u,J U x] 47)) (gs #[J U 0,J U 0,J U 0,J h1 0,J h1 0,fn Y 0 0] 64);rwa [World.size_alloc] at this
 have cs:B.heap.size=w.heap.size+2:=by rw [<- ay];simp
 obtain ⟨V,aS⟩:=Qe (B.alloc (gs #[J U n,J U o,J U r,J U s,J U u,J U x] 45));have c6:Hid (SdI w.heap.size w V a3 ⟨n,o,r,s,u,x⟩):=by
  have ho:∀k,k<B.heap.size->V.heap[k]? =B.heap[k]? :=λk F=>by rw [<- aS];exact kb _ _ _ F
  refine ⟨by rw [<- aS];exact cP.alloc (by omega) _,?_,(ho _ (by omega)).trans hB,?_⟩
  · rw [<- hX];exact (ho _ (by omega)).trans hA
  · rw [<- cs, <- aS];exact j4 B _
 have e3:=Z ay;have e4:=Z aS;have HA:=Z hA;have e5:=Z cs;have c9:=Z hX;have eg:=Z hx;rw [hR];have b8:=λW:j2=>tt a W hx.a;obtain ⟨⟨r1,r2⟩,d7⟩:∃rr,recI a=rr:=⟨_,rfl⟩;rw [d7] at b8 ⊢;dsimp only [recK] at b8;have dy:=Z b8;clear b8 d7;clear ay aS hA hB cs cP hX hx hR hp ch cg Q d6;unfold kI;go_enter func45,ntmps45;have a4:B.cell? ⟨w.heap.size,4,Y⟩=X (J U n):=(aa HA.o 4).trans rfl;have a5:B.cell? ⟨w.heap.size,5,Y⟩=X (J U o):=(aa HA.o 5).trans rfl;have a6:B.cell? ⟨w.heap.size,6,Y⟩=X (J U r):=(aa HA.o 6).trans rfl;have a7:B.cell? ⟨w.heap.size,7,Y⟩=X (J U s):=(aa HA.o 7).trans rfl;have a8:B.cell? ⟨w.heap.size,8,Y⟩=X (J U u):=(aa HA.o 8).trans rfl;have a9:B.cell? ⟨w.heap.size,9,Y⟩=X (J U x):=(aa HA.o 9).trans rfl;go_upto_region 1 with fail
 rw [e3.o];go_upto_region 2 with fail
 rw [e4.o];clear a4 a5 a6 a7 a8 a9;rw [e5.o];have bs:Hid (∀(W:j2) (q':Six),SdI w.heap.size w W a3 q'->W.cell? ⟨w.heap.size,0,Y⟩=X (J U k)/\W.cell? ⟨w.heap.size,1,Y⟩=X (J U a)/\W.cell? ⟨w.heap.size,2,Y⟩=X (J U b)/\W.cell? ⟨w.heap.size,3,Y⟩=X (J U v)):=λW q' h=>by have l:=h.arg;rw [<- c9.o] at l;exact ⟨(aa l 0).trans rfl,(aa l 1).trans rfl,(aa l 2).trans rfl,(aa l 3).trans rfl⟩
 obtain ⟨_,_,x2,_⟩:=bs V _ c6.o;go_upto_if 11 with fail
 clear x2;obtain ⟨G,H,I,L,N,O⟩:=p;go_cut [] (λwx=>Hid (SdI w.heap.size w wx a3 ⟨G,H,I,L,N,O⟩))
 case first=>
  by_cases hb3:b.tmod 3=0
  · have e7:(⟨G,H,I,L,N,O⟩:Six)=⟨n,o,r,s,u,x⟩:=by rw [<- HP.o,if_neg (by simp [hb3])]
    go_wp2_with fail
    go_meet;rw [e7];exact c6.o
  · have dx:Hid ((⟨G,H,I,L,N,O⟩:Six)=workQ b):=by unfold Hid;rw [<- HP.o,if_pos hb3]
    go_upto_region 3 with fail
    obtain ⟨q4,cm⟩:=Qe V.heap.size;refine wp_region_lit ?_;refine kx rfl 45 _ rfl _ rfl #[J U 0,J U 2,J U 1,J U 5,J U 6,J U 0] (by kernel_rfl) ?_;go_simp;refine kx rfl 45 _ rfl _ rfl #[J U 0,J U 2,J U 0,J U 5,J U 6,J U 1] (by kernel_rfl) ?_;go_simp;refine kx rfl 45 _ rfl _ rfl #[J U 0,J U 4,J U 4,J U 9,J U 21,J U 1] (by kernel_rfl) ?_;go_simp;refine kx rfl 45 _ rfl _ rfl #[J U 0,J U 1,J U 0,J U 9,J U 21,J U 2] (by kernel_rfl) ?_;go_simp;refine kx rfl 159 _ rfl _ rfl #[J U 0,J U 2,J U 1,J U 5,J U 6,J U 0,J U 0,J U 2,J U 0,J U 5,J U 6,J U 1,J U 0,J U 4,J U 4,J U 9,J U 21,J U 1,J U 0,J U 1,J U 0,J U 9,J U 21,J U 2] (by kernel_rfl) ?_;go_simp;refine Great.wpList_allocTo rfl _ rfl (hr (X ⟨V.heap.size,0,Y⟩)) (gs #[J U 0,J U 0,J U 0,J U 0,J U 0,J U 0,J U 0,J U 0,J U 0,J U 0,J U 0,J U 0,J U 0,J U 0,J U 0,J U 0,J U 0,J U 0,J U 0,J U 0,J U 0,J U 0,J U 0,J U 0] 159) (by kernel_rfl) ?_;rw [cm];obtain ⟨aT,bk⟩:=Qe (V.alloc (gs #[J U 0,J U 0,J U 0,J U 0,J U 0,J U 0,J U 0,J U 0,J U 0,J U 0,J U 0,J U 0,J U 0,J U 0,J U 0,J U 0,J U 0,J U 0,J U 0,J U 0,J U 0,J U 0,J U 0,J U 0] 159));have ca:aT.heap[q4]? =X (gs #[J U 0,J U 0,J U 0,J U 0,J U 0,J U 0,J U 0,J U 0,J U 0,J U 0,J U 0,J U 0,J U 0,J U 0,J U 0,J U 0,J U 0,J U 0,J U 0,J U 0,J U 0,J U 0,J U 0,J U 0] 159 (0,0)):=by rw [<- bk, <- cm];exact j4 V _
    rw [bk];go_simp;refine wpList_store_rowTo rfl 159 _ _ rfl rfl q4 #[J U 0,J U 2,J U 1,J U 5,J U 6,J U 0,J U 0,J U 2,J U 0,J U 5,J U 6,J U 1,J U 0,J U 4,J U 4,J U 9,J U 21,J U 1,J U 0,J U 1,J U 0,J U 9,J U 21,J U 2] rfl rfl 159 _ ca (by kernel_rfl) rfl (by kernel_rfl) ?_;obtain ⟨D,bc⟩:=Qe (aT.setRow q4 #[J U 0,J U 2,J U 1,J U 5,J U 6,J U 0,J U 0,J U 2,J U 0,J U 5,J U 6,J U 1,J U 0,J U 4,J U 4,J U 9,J U 21,J U 1,J U 0,J U 1,J U 0,J U 9,J U 21,J U 2]);have cz:D.heap[q4]? =X (gs #[J U 0,J U 2,J U 1,J U 5,J U 6,J U 0,J U 0,J U 2,J U 0,J U 5,J U 6,J U 1,J U 0,J U 4,J U 4,J U 9,J U 21,J U 1,J U 0,J U 1,J U 0,J U 9,J U 21,J U 2] 159 (0,0)):=by rw [<- bc];exact setRow_heap aT q4 _ _ 159 (0,0) ca
    have cQ:Bw V D:=by
     have l:Bw V aT:=by rw [<- bk];exact (ka _ V).alloc (kk _) _
     rw [<- bc];exact l.trans ⟨setRow_os _ _ _,setRow_tape _ _ _,setRow_output _ _ _,Nat.le_of_eq (setRow_size _ _ _).symm,λk F=>setRow_other aT q4 k _ (by omega)⟩
    have y:Hid (SdI w.heap.size w D a3 ⟨n,o,r,s,u,x⟩):=c6.keep cQ;rw [bc];clear cQ ca bk;go_upto_region 4 with fail
    clear cm bc;obtain ⟨_,_,x2,_⟩:=bs D _ y.o;have y0:D.cell? ⟨w.heap.size+2,0,Y⟩=X (J U n):=(aa y.six 0).trans rfl;have y1:D.cell? ⟨w.heap.size+2,1,Y⟩=X (J U o):=(aa y.six 1).trans rfl;have y2:D.cell? ⟨w.heap.size+2,2,Y⟩=X (J U r):=(aa y.six 2).trans rfl;have y3:D.cell? ⟨w.heap.size+2,3,Y⟩=X (J U s):=(aa y.six 3).trans rfl;have y4:D.cell? ⟨w.heap.size+2,4,Y⟩=X (J U u):=(aa y.six 4).trans rfl;have y5:D.cell? ⟨w.heap.size+2,5,Y⟩=X (J U x):=(aa y.six 5).trans rfl;have z0:=ab y.six 0;have z1:=ab y.six 1;have z2:=ab y.six 2;have z3:=ab y.six 3;have z4:=ab y.six 4;have z5:=ab y.six 5;have j:Hid (∀i,D.cell? ⟨q4,i,Y⟩=_):=λi=>aa cz i;have ac:=dx.o;have Q:=dr.o;clear cz;obtain rfl|rfl|rfl|rfl:mb=0∨mb=1∨mb=2∨mb=3:=by omega
    · have n0:=(j 0).trans rfl;have n1:=(j 1).trans rfl;have n2:=(j 2).trans rfl;have n3:=(j 3).trans rfl;have n4:=(j 4).trans rfl;have n5:=(j 5).trans rfl;have ad:Hid ((⟨G,H,I,L,N,O⟩:Six)=⟨0,2,1,5,6,0⟩):=by unfold Hid;rw [ac];unfold workQ;rw [Q];rfl
      clear ac Q;go_wp2_with (go_at_call 24;((with_reducible refine j0 (b1.o _) ?_);rintro e w5 ⟨rfl,rfl⟩))
      go_meet;rw [ad.o];exact y.put ⟨0,2,1,5,6,0⟩
    · have n0:=(j 6).trans rfl;have n1:=(j 7).trans rfl;have n2:=(j 8).trans rfl;have n3:=(j 9).trans rfl;have n4:=(j 10).trans rfl;have n5:=(j 11).trans rfl;have ad:Hid ((⟨G,H,I,L,N,O⟩:Six)=⟨0,2,0,5,6,1⟩):=by unfold Hid;rw [ac];unfold workQ;rw [Q];rfl
      clear ac Q;go_wp2_with (go_at_call 24;((with_reducible refine j0 (b1.o _) ?_);rintro e w5 ⟨rfl,rfl⟩))
      go_meet;rw [ad.o];exact y.put ⟨0,2,0,5,6,1⟩
    · have n0:=(j 12).trans rfl;have n1:=(j 13).trans rfl;have n2:=(j 14).trans rfl;have n3:=(j 15).trans rfl;have n4:=(j 16).trans rfl;have n5:=(j 17).trans rfl;have ad:Hid ((⟨G,H,I,L,N,O⟩:Six)=⟨0,4,4,9,21,1⟩):=by unfold Hid;rw [ac];unfold workQ;rw [Q];rfl
      clear ac Q;go_wp2_with (go_at_call 24;((with_reducible refine j0 (b1.o _) ?_);rintro e w5 ⟨rfl,rfl⟩))
      go_meet;rw [ad.o];exact y.put ⟨0,4,4,9,21,1⟩
    · have n0:=(j 18).trans rfl;have n1:=(j 19).trans rfl;have n2:=(j 20).trans rfl;have n3:=(j 21).trans rfl;have n4:=(j 22).trans rfl;have n5:=(j 23).trans rfl;have ad:Hid ((⟨G,H,I,L,N,O⟩:Six)=⟨0,1,0,9,21,2⟩):=by unfold Hid;rw [ac];unfold workQ;rw [Q];rfl
      clear ac Q;go_wp2_with (go_at_call 24;((with_reducible refine j0 (b1.o _) ?_);rintro e w5 ⟨rfl,rfl⟩))
      go_meet;rw [ad.o];exact y.put ⟨0,1,0,9,21,2⟩
 case rest=>
  have HS:=hcut;clear hcut;have c0:wc.cell? ⟨w.heap.size+2,0,Y⟩=X (J U G):=(aa HS.six 0).trans rfl;have c1:wc.cell? ⟨w.heap.size+2,1,Y⟩=X (J U H):=(aa HS.six 1).trans rfl;have c2:wc.cell? ⟨w.heap.size+2,2,Y⟩=X (J U I):=(aa HS.six 2).trans rfl;have c3:wc.cell? ⟨w.heap.size+2,3,Y⟩=X (J U L):=(aa HS.six 3).trans rfl;have c4:wc.cell? ⟨w.heap.size+2,4,Y⟩=X (J U N):=(aa HS.six 4).trans rfl;have c5:wc.cell? ⟨w.heap.size+2,5,Y⟩=X (J U O):=(aa HS.six 5).trans rfl;have b6:=zV G H I L N O bB.c bB.d bB.e wc;obtain ⟨M,hM⟩:=Qe (madeR ⟨G,H,I,L,N,O⟩);have b7:=iM ⟨G,H,I,L,N,O⟩;have d5:M.level=109:=by rw [<- hM];rfl
  rw [hM] at b6 b7 bY;obtain ⟨kd,lv,P⟩:=M;dsimp only at b6 b7 d5;subst d5;have cv:=Z b6;have cx:=Z b7;clear b6 b7 hM;go_upto_region 6 with (go_at_call 83;((with_reducible refine j0 cv.o ?_);rintro e w5 ⟨va,vc,rfl,d4,d0⟩;have cu:=Z d4;have b0:=Z d0;clear d4 d0))
  obtain ⟨T,hT⟩:=Qe w5.heap.size;obtain ⟨g,aC⟩:=Qe (w5.alloc (gs #[J h1 kd.toNat,J h1 109,fn va P.length vc] 62));have cc:g.heap[T]? =X (gs #[J h1 kd.toNat,J h1 109,fn va P.length vc] 62 (0,0)):=by rw [<- aC, <- hT];exact j4 w5 _
  have d1:Bw wc g:=by rw [<- aC];exact b0.o.alloc b0.o.size _
  have a2:Hid (SdI w.heap.size w g a3 ⟨G,H,I,L,N,O⟩):=HS.keep d1;have d9:w.heap.size+3<=wc.heap.size:=by have:=ae HS.o.six;omega
  have bA:Hid (ai (w.heap.size+3) g.heap.size g (fn va P.length vc) P):=by have h:=cu.o.kept (w':=g) (λq _ hq=>by rw [<- aC];exact kb _ _ _ hq);exact h.mono d9 (by rw [<- aC];simp)
  have e2:Hid (w.heap.size+3<=T/\T<g.heap.size/\w.heap.size+3<=g.heap.size):=by have l:=ae HS.six;have m:=b0.size;have z:=ae cc;exact ⟨by omega,z,by omega⟩
  have b3:=Z cc;rw [hT,aC];clear c0 c1 c2 c3 c4 c5 cu d1 aC hT cc HS d9 cv b0;obtain ⟨x0,_,x2,_⟩:=bs g _ a2.o;go_cut [33] (λt wx=>t=hK (decide (mk=4)&&decide (b.tmod 5=0))/\wx=g)
  case first=>
   by_cases h4:mk=4
   · subst h4;by_cases h5:b.tmod 5=0
     · go_wp2_with (go_at_call 24;((with_reducible refine j0 (bw.o _) ?_);rintro e C ⟨rfl,rfl⟩))
       go_meet;exact ⟨by simp [h5],rfl⟩
     · go_wp2_with (go_at_call 24;((with_reducible refine j0 (bw.o _) ?_);rintro e C ⟨rfl,rfl⟩))
       go_meet;exact ⟨by simp [h5],rfl⟩
   · have ej:((mk:Int)==4)=false:=by simp;omega
     go_wp2_with (go_at_call 24;((with_reducible refine j0 (bw.o _) ?_);rintro e C ⟨rfl,rfl⟩))
     go_meet;exact ⟨by simp [h4],rfl⟩
  case rest=>
   obtain ⟨rfl,cq⟩:=hcut;have cq:=cq.symm;subst cq;clear x0 x2;have b2:Hid (R=if (decide (mk=4)&&decide (b.tmod 5=0))=true then spoilR ⟨kd,109,P⟩ (ma:Int) b v else ⟨kd,109,P⟩):=by
    unfold Hid;have e1:=bY.o;rw [ds.o,dn.o] at e1;rw [e1];by_cases h4:mk=4/\b.tmod 5=0
    · rw [if_pos ⟨by omega,h4.2⟩,if_pos (by simp [h4.1,h4.2])]
    · rw [if_neg (by intro h;exact h4 ⟨by omega,h.2⟩),if_neg (by simpa using h4)]
   obtain ⟨sp,d8⟩:=Qe ((decide (mk=4)&&decide (b.tmod 5=0)));rw [d8] at b2 ⊢;clear d8 bY;go_upto_if 33 with fail
   go_cut [] (λwx=>∃(al:Option Addr) (ao:Nat),Hid (SdI w.heap.size w wx a3 ⟨G,H,I,L,N,O⟩)/\Hid (wx.heap[T]? =X (gs #[J h1 R.kind.toNat,J h1 R.level.toNat,fn al R.fields.length ao] 62 (0,0)))/\Hid (ai (w.heap.size+3) wx.heap.size wx (fn al R.fields.length ao) R.fields))
   case first=>
    cases sp
    · have bO:Hid (R=⟨kd,109,P⟩):=by unfold Hid;rw [b2.o,if_neg (by decide)]
      go_wp2_with fail
      go_meet;rw [bO.o];exact ⟨va,vc,a2,b3,bA⟩
    · have bO:Hid (R=spoilR ⟨kd,109,P⟩ (ma:Int) b v):=by unfold Hid;rw [b2.o,if_pos rfl]
      have av:g.drew.heap[w.heap.size]? =g.heap[w.heap.size]? /\g.drew.heap[T]? =g.heap[T]? :=⟨rfl,rfl⟩;have cp:=sX kd 109 P va vc ma (by omega) b v g.drew (bA.o.mono (Nat.zero_le _) (kk _)) (by have:=cx.o.1;omega) (λf hf=>k2 (cx.o.2 f hf) (by omega));rw [<- bO.o] at cp;have dz:=Z (show k8 prog 84 #[.agg #[J h1 kd.toNat,J h1 109,fn va P.length vc], .agg #[J U (ma:Int),J U b,J U v]] g.drew _ from cp);clear cp;have bt:Hid (∀W:j2,(W.heap[w.heap.size]? =g.heap[w.heap.size]? /\W.heap[T]? =g.heap[T]?)->(W.cell? ⟨T,0,Y⟩=X (J h1 kd.toNat)/\W.cell? ⟨T,1,Y⟩=X (J h1 109)/\W.cell? ⟨T,2,Y⟩=X (fn va P.length vc))/\W.cell? ⟨w.heap.size,1,Y⟩=X (J U a)/\W.cell? ⟨w.heap.size,2,Y⟩=X (J U b)/\W.cell? ⟨w.heap.size,3,Y⟩=X (J U v)):=λW h=>by have l:=h.1.trans a2.arg;rw [<- c9.o] at l;have m:=h.2.trans b3.o;exact ⟨⟨(aa m 0).trans rfl,(aa m 1).trans rfl,(aa m 2).trans rfl⟩,(aa l 1).trans rfl,(aa l 2).trans rfl,(aa l 3).trans rfl⟩
      go_wp2_with fail
      refine wT (λW:j2=>W.heap[w.heap.size]? =g.heap[w.heap.size]? /\W.heap[T]? =g.heap[T]?) 10 ?_;refine Qb [0,1,4,6,2,5,7] av bt ?_;refine Dp 3 λK A=>?_;go_simp;go_at_call 24;with_reducible refine j0 (dc.o _) ?_
      rintro e C ⟨rfl,rfl⟩;refine A _ _ (λ_=>av) ?_;clear A K;go_simp;refine Qa [8] av ?_
      refine Dp 9 λK A=>?_;go_simp;go_at_call 84;with_reducible refine j0 dz.o ?_
      rintro e C ⟨sb,cb,rfl,b5,d3⟩;have bb:=e2.o;have b9:C.heap[w.heap.size]? =g.heap[w.heap.size]? /\C.heap[T]? =g.heap[T]? :=⟨b5.block _ (by show w.heap.size<g.heap.size;omega),b5.block _ (by show T<g.heap.size;omega)⟩;have di:=Z d3;have da:Hid (Bw g C):=(ka _ g).drew.trans b5;clear d3 b5;refine A _ _ (λ_=>b9) ?_;clear A K;go_simp;have m:=b9.2.trans b3.o;have t0:C.cell? ⟨T,0,Y⟩=X (J h1 kd.toNat):=(aa m 0).trans rfl;have t1:C.cell? ⟨T,1,Y⟩=X (J h1 109):=(aa m 1).trans rfl;have t2:C.cell? ⟨T,2,Y⟩=X (fn va P.length vc):=(aa m 2).trans rfl;have z0:=ab m 0;have z1:=ab m 1;have z2:=ab m 2;have e0:=Z m;have em:=Z b9;clear m b9;refine Dl 10 ?_;go_wp2_with fail
      go_meet;obtain ⟨E,a0⟩:=Qe (((C.setCell ⟨T,0,Y⟩ (J h1 R.kind.toNat)).setCell ⟨T,1,Y⟩ (J h1 R.level.toNat)).setCell ⟨T,2,Y⟩ (fn sb R.fields.length cb));have cl:∀k,k≠T->E.heap[k]? =C.heap[k]? :=λk F=>by rw [<- a0,iS _ _ _ _ F,iS _ _ _ _ F,iS _ _ _ _ F]
      have e9:E.heap.size=C.heap.size:=by rw [<- a0];simp
      have cd:Below (w.heap.size+3) C E:=by rw [<- a0];exact (((ka _ C).setCell (p:=⟨T,0,Y⟩) bb.1 _).setCell (p:=⟨T,1,Y⟩) bb.1 _).setCell (p:=⟨T,2,Y⟩) bb.1 _
      have e6:E.heap[T]? =X (gs #[J h1 R.kind.toNat,J h1 R.level.toNat,fn sb R.fields.length cb] 62 (0,0)):=by rw [<- a0];exact an (an (an e0.o 0 _) 1 _) 2 _
      rw [a0];have b4:Below (w.heap.size+3) g E:=(da.mono bb.2.2).trans cd;refine ⟨sb,cb,⟨a2.o.b.trans (b4.mono (by omega)),(b4.block _ (by omega)).trans a2.o.arg,(b4.block _ (by omega)).trans a2.o.res,(b4.block _ (by omega)).trans a2.o.six⟩,e6,?_⟩;have h:=di.o.kept (w':=E) (λq hq _=>cl q (by have:g.heap.size<=q:=hq;omega));exact h.mono (by show w.heap.size+3<=g.heap.size;omega) (by omega)
   case rest=>
    obtain ⟨al,ao,au,cy,dk⟩:=hcut;clear a2 b3 bA b2;have av:Bw wc wc.drew:=(ka _ wc).drew;have bt:Hid (∀W:j2,Bw wc W->(W.cell? ⟨T,0,Y⟩=X (J h1 R.kind.toNat)/\W.cell? ⟨T,1,Y⟩=X (J h1 R.level.toNat)/\W.cell? ⟨T,2,Y⟩=X (fn al R.fields.length ao))/\W.cell? ⟨w.heap.size,1,Y⟩=X (J U a)/\W.cell? ⟨w.heap.size,3,Y⟩=X (J U v)):=λW h=>by have l:=(h.block _ (ae au.arg)).trans au.arg;rw [<- c9.o] at l;have m:=(h.block _ (ae cy.o)).trans cy.o;exact ⟨⟨(aa m 0).trans rfl,(aa m 1).trans rfl,(aa m 2).trans rfl⟩,(aa l 1).trans rfl,(aa l 3).trans rfl⟩
    go_wp2_with fail
    refine wT (λW:j2=>Bw wc W) 8 ?_;refine Qb [0,3,6,1,4] av bt ?_;refine Dp 2 λK A=>?_;go_simp;go_at_call 20;with_reducible refine j0 (dy.o _) ?_
    rintro e w9 ⟨rfl,d2⟩;have ax:Bw wc w9:=av.trans d2;refine A _ _ (λ_=>ax) ?_;clear A K;go_simp;refine Dp 5 λK A=>?_;go_simp;go_at_call 24;with_reducible refine j0 (dd.o _) ?_
    rintro e C ⟨rfl,rfl⟩;refine A _ _ (λ_=>ax) ?_;clear A K;go_simp;refine Qa [7] ax ?_
    have z:=(ax.block _ (ae au.res)).trans au.res;have y0:w9.cell? ⟨w.heap.size+1,0,Y⟩=X (J U 0):=(aa z 0).trans rfl;have y1:w9.cell? ⟨w.heap.size+1,1,Y⟩=X (J U 0):=(aa z 1).trans rfl;have y2:w9.cell? ⟨w.heap.size+1,2,Y⟩=X (J U 0):=(aa z 2).trans rfl;have y3:w9.cell? ⟨w.heap.size+1,3,Y⟩=X (J h1 0):=(aa z 3).trans rfl;have y4:w9.cell? ⟨w.heap.size+1,4,Y⟩=X (J h1 0):=(aa z 4).trans rfl;have y5:w9.cell? ⟨w.heap.size+1,5,Y⟩=X (fn Y 0 0):=(aa z 5).trans rfl;have z0:=ab z 0;have z1:=ab z 1;have z2:=ab z 2;have z3:=ab z 3;have z4:=ab z 4;have z5:=ab z 5;have c7:=Z ax;clear z ax d2;refine Dl 8 ?_;go_wp2_with fail
    refine bodyPost_ret (v:= .agg #[J U r1,J U r2,J U (v.emod 6),J h1 R.kind.toNat,J h1 R.level.toNat,fn al R.fields.length ao]) (by rw [cL rfl];go_simp) rfl ?_;obtain ⟨E,a0⟩:=Qe ((((((w9.setCell ⟨w.heap.size+1,0,Y⟩ (J U r1)).setCell ⟨w.heap.size+1,1,Y⟩ (J U r2)).setCell ⟨w.heap.size+1,2,Y⟩ (J U (v.emod 6))).setCell ⟨w.heap.size+1,3,Y⟩ (J h1 R.kind.toNat)).setCell ⟨w.heap.size+1,4,Y⟩ (J h1 R.level.toNat)).setCell ⟨w.heap.size+1,5,Y⟩ (fn al R.fields.length ao));have cl:∀k,k≠w.heap.size+1->E.heap[k]? =w9.heap[k]? :=λk F=>by rw [<- a0,iS _ _ _ _ F,iS _ _ _ _ F,iS _ _ _ _ F,iS _ _ _ _ F,iS _ _ _ _ F,iS _ _ _ _ F]
    have e9:E.heap.size=w9.heap.size:=by rw [<- a0];simp
    have cd:Below w.heap.size w9 E:=by rw [<- a0];exact ((((((ka _ w9).setCell (p:=⟨w.heap.size+1,0,Y⟩) (by simp) _).setCell (p:=⟨w.heap.size+1,1,Y⟩) (by simp) _).setCell (p:=⟨w.heap.size+1,2,Y⟩) (by simp) _).setCell (p:=⟨w.heap.size+1,3,Y⟩) (by simp) _).setCell (p:=⟨w.heap.size+1,4,Y⟩) (by simp) _).setCell (p:=⟨w.heap.size+1,5,Y⟩) (by simp) _
    rw [a0];refine ⟨al,ao,rfl,?_,au.o.b.trans ((c7.o.mono (by have:=au.o.b.size;omega)).trans cd)⟩;have h:=dk.o.kept (w':=E) (λq hq e8=>(cl q (by omega)).trans (c7.o.block q e8));exact h.mono (by omega) (by have:=c7.o.size;omega)
end
end Go.Proofs.YtjcimanddakkaaaGreatDoor
