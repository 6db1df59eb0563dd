/- Lemmas. -/
import Derived.Test.YtjcimanddakkaaaGreatDoorY5
import Derived.Test.YtjcimanddakkaaaGreatDoorY8
import Derived.Deep.CutBlock
import Derived.Great.Walk
set_option maxRecDepth 100000
set_option maxHeartbeats 8000000
namespace Go.Proofs.YtjcimanddakkaaaGreatDoor
open _root_.Option renaming some→X,none→Y
open Go.Value renaming slice→fn,int→J,pointer→hr,bool→hK
open Go.Obj renaming cells→gs
open Go.IntKind renaming u8→h1,i64→U
open Go.Ending renaming returned→hk
open Go.Lib renaming hid→Z
open Tryz
open Go.RowKit.Below renaming heap_setCell→ja,refl→kc,heap_alloc→kk
open _root_.List renaming setIfInBounds_toArray→jb,set_cons_zero→jn,set_cons_succ→j1,eq_nil_of_length_eq_zero→kl,getElem_mem→kq,flatMap_cons→kt,getD_eq_getElem?_getD→kv,mem_singleton→ky,length_append→k1
open Go.Calls renaming mono→j2
open Go.Obj renaming cells→j3
open Go renaming World→j4,Value→ka,wpList_buildTo→kz,Calls→ld,info_parts→lm
open Go.World renaming alloc_heap_new→kb,frozen?_of_block→ks,cell?_setCell_other→kx,cell?_of_block→k0,cell?→k5
open _root_.Nat renaming le_refl→kn,zero_add→k3,le_trans→k4,zero_mul→lf
open Go.Value renaming ownBlock→ko,oneCell'→k9
open _root_.Int renaming emod_lt_of_pos→k2
open _root_.Or renaming inl→k8
open Go.Builtin renaming append_→lp
section
open Go.RowKit
theorem gw {lo:Nat} {g:Option Nat} {w:j4} {d:ka} {a:List cr} (h:w.ownsRow lo 120 2 d a.length (a.flatMap subCells)) (l:∀k,d.ownBlock=X k->g≠X k):bj lo g w d a:=by
 rcases h.2 with ⟨rfl,e⟩|⟨b,n,o,rfl,i,p,q⟩
 · have:a=[]:=kl e;subst this;exact ⟨Y,0,rfl,λh=>absurd rfl h⟩
 · have m:=h.lt b (by simp [ko]);refine ⟨_,_,rfl,λ_=>⟨b,0,rfl,i,m.2,l b (by simp [ko]),λj x c=>?_⟩⟩;have f:=h.cellAt j (by have:=(List.getElem?_eq_some_iff.1 c).1;rw [h.1] at this;exact this);rw [k3,f];exact c
theorem cA {w w':j4} {B:Nat} {e:TypeId} {k:Nat} {v:ka} {n:Nat} {b:List ka} (h:w.ownsRow B e k v n b) (j:∀g,v.ownBlock=X g->w'.heap[g]? =w.heap[g]?):w'.ownsRow B e k v n b:=by
 refine ⟨h.1,?_⟩;rcases h.2 with l|⟨g,c,d,a,f,i,m⟩
 · exact .inl l
 · exact .inr ⟨g,c,d,a,f,by rw [j g (by rw [a];simp [ko])];exact i,m⟩
structure ea (lo:Nat) (w:j4) (v:ka) (fs:List af):Prop where
 ex:∃ps:List (af×ka),ps.map (·.1)=fs/\w.ownsRow lo 123 4 v fs.length (ps.flatMap fieldCells)/\
  (∀p∈ps,w.ownsRow lo 120 2 p.2 p.1.subs.length (p.1.subs.flatMap subCells)/\∃g,p.2.ownBlock=some g/\v.ownBlock≠some g)/\ps.Pairwise (λp q=>p.2.ownBlock≠q.2.ownBlock)
theorem ea.nil (lo:Nat) (w:j4):ea lo w (fn Y 0 0) []:=⟨⟨[],rfl,World.ownsRow_nil _ _ _ _,by simp, .nil⟩⟩
theorem ea.toRec {lo:Nat} {w:j4} {v:ka} {b:List af} (h:ea lo w v b):bE lo w v b:=by
 obtain ⟨ps,f,i,c,_⟩:=h.ex;refine ⟨⟨ps,f,λp d=>gw (c p d).1 (λk a e=>?_),i⟩⟩;obtain ⟨g,j,l⟩:=(c p d).2;rw [j] at a;injection a with a
 subst a;exact l e
theorem ea.keep {lo:Nat} {w w':j4} {v:ka} {d:List af} (h:ea lo w v d) (f:Bw w w'):ea lo w' v d:=by
 obtain ⟨ps,i,e,a,j⟩:=h.ex;exact ⟨⟨ps,i,cA e (λg b=>f.block g (e.lt g b).2),λp c=>⟨cA (a p c).1 (λg b=>f.block g ((a p c).1.lt g b).2),(a p c).2⟩,j⟩⟩
theorem ea.far {lo:Nat} {w w':j4} {v:ka} {e:List af} (h:ea lo w v e) (f:∀k,lo<=k->k<w.heap.size->w'.heap[k]? =w.heap[k]?):ea lo w' v e:=by
 obtain ⟨ps,i,d,b,j⟩:=h.ex;exact ⟨⟨ps,i,cA d (λg a=>f g (d.lt g a).1 (d.lt g a).2),λp c=>⟨cA (b p c).1 (λg a=>f g ((b p c).1.lt g a).1 ((b p c).1.lt g a).2),(b p c).2⟩,j⟩⟩
theorem ea.app {lo:Nat} {w1 l:j4} {v h:ka} {m:List af} (f:af) (d:ka) (ps:List (af×ka)) (w:ps.map (·.1)=m)
 (y:∀p∈ps,w1.ownsRow lo 120 2 p.2 p.1.subs.length (p.1.subs.flatMap subCells)/\∃g,p.2.ownBlock=X g/\v.ownBlock≠X g) (z:ps.Pairwise (λp q=>p.2.ownBlock≠q.2.ownBlock))
 (A:w1.ownsRow lo 120 2 d f.subs.length (f.subs.flatMap subCells)) (i:Nat) (o:d.ownBlock=X i) (E:v.ownBlock≠X i) (G:∀p∈ps,p.2.ownBlock≠X i)
 (I:l.ownsRow lo 123 4 h (m.length+1) (ps.flatMap fieldCells++fieldCells (f,d))) (B:w1.grownBy l v.ownBlock) (b:h.ownBlock=v.ownBlock∨h.ownBlock=X w1.heap.size):ea lo l h (m++[f]):=by
 have u:∀(x:ka) (c:List cr) (g:Nat),w1.ownsRow lo 120 2 x c.length (c.flatMap subCells)->x.ownBlock=X g->v.ownBlock≠X g->l.ownsRow lo 120 2 x c.length (c.flatMap subCells)/\∃g,x.ownBlock=X g/\h.ownBlock≠X g:=by
  intro x c g t n s;have F:=(t.lt g n).2;refine ⟨cA t (λk j=>?_),g,n,?_⟩
  · rw [n] at j;injection j with j;subst j
    exact B.block _ F (λe=>s e.symm)
  · rcases b with b|b
    · rw [b];exact s
    · rw [b];intro e;injection e with e;omega
 refine ⟨⟨ps++[(f,d)],by simp [w],by simpa using I,?_,?_⟩⟩
 · intro p a;rcases List.mem_append.1 a with a|a
   · obtain ⟨H,g,C,D⟩:=y p a;exact u _ _ g H C D
   · simp at a;subst a;exact u _ _ i A o E
 · refine List.pairwise_append.2 ⟨z,by simp,λp a q r=>?_⟩;simp at r;subst r;rw [o];exact G p a
theorem vH (lo:Nat) (W:j4) (D:Nat) (d:ka) (c:List cr) (p:W.heap[D]? =X (gs #[] 120 (0,0))) (y:aA 0 W.heap.size W d c) (H:c.length<=1000000) (B:lo<=D):
 ∃(a:Addr) (e:Nat) (f:j4),(lp #[121,121] 121 #[fn (X ⟨D,0,Y⟩) 0 0,d]).run prog W= .ok (fn (X a) c.length e) f/\f.ownsRow lo 120 2 (fn (X a) c.length e) c.length (c.flatMap subCells)/\W.grownBy f (X D)/\(a.block=D∨a.block=W.heap.size):=by
 obtain ⟨i,q,F,C,w⟩:=lm zv;have G:D<W.heap.size:=(Array.getElem?_eq_some_iff.1 p).1;have r:W.ownsRow lo 120 2 (fn (X ⟨D,0,Y⟩) 0 0) 0 []:=⟨by simp, .inr ⟨D,0, #[],rfl,B,p,kn _,by unfold maxLen;omega,by simp,by simp⟩⟩;obtain ⟨a,e,rfl,h⟩:=y;by_cases h0:c=[]
 · subst h0;have E:Src prog i.size 121 (fn a 0 e) 0 [] W:=by
    cases a with
    |none=>exact Src.ofNil W underlying121 e
    |some a=>exact Src.ofSlice W underlying121 a 0 e [] (by simp) (by simp) (by simp)
   have n:=run_append_room_src (P:=prog) W 121 121 121 120 i underlying121 q D 0 0 0 (fn a 0 e) 0 [] E (by omega) (by simp) (by simp);exact ⟨_,_,_,n,r,⟨rfl,rfl,rfl,kn _,λ_ _ _=>rfl⟩, .inl rfl⟩
 · obtain ⟨b,o,rfl,_,_,x⟩:=h (oU.2 h0)
   obtain ⟨I,f,n,m,v,_,k⟩:=run_append_own_at (P:=prog) W lo 121 121 120 i _ 2 24 underlying121 q F C w rfl (by omega) (fn (X ⟨D,0,Y⟩) 0 0) 0 [] r ⟨b,o,Y⟩ c.length e (c.flatMap subCells) (xH c)
    (λj u z=>by
     have:(⟨b,o,Y⟩:Addr).add j=⟨b,o+j,Y⟩:=by unfold Addr.add;split<;>simp_all
     rw [this];exact x j u z)
    (λu l=>by
     obtain ⟨s,_,l⟩:=List.mem_flatMap.1 l
     simp [subCells] at l
     rcases l with rfl|rfl<;>rfl) (by unfold maxLen;omega) (by omega) (by omega)
   rw [k3,List.nil_append] at m;have A:0<c.length:=List.length_pos_iff.2 h0;obtain ⟨g,t,rfl,_⟩:=World.ownsRow.form m A;refine ⟨⟨g,0,Y⟩,t,f,n,m,v,?_⟩;rcases k with k|k
   · left;simpa [ko] using k
   · right;simpa [ko] using k
structure dn (B:Nat) (w0 wr:j4) (kd lv:UInt8) (v:ka):Prop where
 below:Below B w0 wr
 big:B+2<=wr.heap.size
 z0:wr.cell? ⟨B,0,none⟩=some (.int .u8 0)
 z1:wr.cell? ⟨B,1,none⟩=some (.int .u8 0)
 z2:wr.cell? ⟨B,2,none⟩=some (.slice none 0 0)
 y0:wr.frozen? ⟨B,0,none⟩=false
 y1:wr.frozen? ⟨B,1,none⟩=false
 y2:wr.frozen? ⟨B,2,none⟩=false
 c0:wr.cell? ⟨B+1,0,none⟩=some (.int .u8 kd.toNat)
 c1:wr.cell? ⟨B+1,1,none⟩=some (.int .u8 lv.toNat)
 c2:wr.cell? ⟨B+1,2,none⟩=some v
 x0:wr.frozen? ⟨B+1,0,none⟩=false
 x1:wr.frozen? ⟨B+1,1,none⟩=false
 x2:wr.frozen? ⟨B+1,2,none⟩=false
theorem dn.far {B:Nat} {f wr d:j4} {j l:UInt8} {v:ka} (h:dn B f wr j l v) (m:Below B f d) (g:∀k,k<B+2->d.heap[k]? =wr.heap[k]?) (n:B+2<=d.heap.size):dn B f d j l v:=by
 have a:∀b i,b<B+2->d.cell? ⟨b,i,Y⟩=wr.cell? ⟨b,i,Y⟩:=λb i e=>k0 (g b e);have c:∀b i,b<B+2->d.frozen? ⟨b,i,Y⟩=wr.frozen? ⟨b,i,Y⟩:=λb i e=>ks (g b e)
 exact ⟨m,n,by rw [a _ _ (by omega)];exact h.z0,by rw [a _ _ (by omega)];exact h.z1,by rw [a _ _ (by omega)];exact h.z2,
  by rw [c _ _ (by omega)];exact h.y0,by rw [c _ _ (by omega)];exact h.y1,by rw [c _ _ (by omega)];exact h.y2,by rw [a _ _ (by omega)];exact h.c0,by rw [a _ _ (by omega)];exact h.c1,by rw [a _ _ (by omega)];exact h.c2,
  by rw [c _ _ (by omega)];exact h.x0,by rw [c _ _ (by omega)];exact h.x1,by rw [c _ _ (by omega)];exact h.x2⟩
theorem dn.keep {B:Nat} {d wr e:j4} {b c:UInt8} {v:ka} (h:dn B d wr b c v) (a:Bw wr e):dn B d e b c v:=
 h.far (btr h.below a (by have:=h.big;omega)) (λk f=>a.block k (by have:=h.big;omega)) (k4 h.big a.size)
theorem dn.put {B:Nat} {c wr:j4} {a b:UInt8} {v:ka} (h:dn B c wr a b v) (g j:Nat) (d:B+2<=g) (u:ka):dn B c (wr.setCell ⟨g,j,Y⟩ u) a b v:=
 h.far (h.below.setCell (by simp;omega) _) (λk e=>ja _ _ _ _ (by simp;omega)) (by simpa using h.big)
theorem dn.grown {B:Nat} {i wr c:j4} {d f:UInt8} {v:ka} (h:dn B i wr d f v) {g:Option Nat} (a:wr.grownBy c g) (l:∀k,g=X k->B+2<=k):dn B i c d f v:=by
 have b:∀k,k<B+2->c.heap[k]? =wr.heap[k]? :=λk b=>a.block k (Nat.lt_of_lt_of_le b h.big) (by intro e;have:=l k e.symm;omega);exact h.far ⟨a.os.trans h.below.os,a.tape.trans h.below.tape,a.output.trans h.below.output,k4 h.below.size a.size,λk j=>(b k (by omega)).trans (h.below.block k j)⟩ b (k4 h.big a.size)
theorem dn.set2 {B:Nat} {d wr:j4} {a b:UInt8} {v:ka} (h:dn B d wr a b v) (c:ka):dn B d (wr.setCell ⟨B+1,2,Y⟩ c) a b c:=by
 have f:=h.z0;have g:=h.z1;have i:=h.z2;have e:=h.c0;have c1:=h.c1;have c2:=h.c2;refine ⟨h.below.setCell (by simp) _,by simpa using h.big,?_,?_,?_,by rw [aG];exact h.y0,by rw [aG];exact h.y1,by rw [aG];exact h.y2,?_,?_,?_,by rw [aG];exact h.x0,by rw [aG];exact h.x1,by rw [aG];exact h.x2⟩;all_goals (clear h;go_simp)
theorem dn.set0 {B:Nat} {b wr:j4} {d a:UInt8} {v:ka} (h:dn B b wr d a v) (c:UInt8):dn B b (wr.setCell ⟨B+1,0,Y⟩ (J h1 c.toNat)) c a v:=by
 have f:=h.z0;have g:=h.z1;have i:=h.z2;have e:=h.c0;have c1:=h.c1;have c2:=h.c2;refine ⟨h.below.setCell (by simp) _,by simpa using h.big,?_,?_,?_,by rw [aG];exact h.y0,by rw [aG];exact h.y1,by rw [aG];exact h.y2,?_,?_,?_,by rw [aG];exact h.x0,by rw [aG];exact h.x1,by rw [aG];exact h.x2⟩;all_goals (clear h;go_simp)
theorem dn.set1 {B:Nat} {b wr:j4} {a d:UInt8} {v:ka} (h:dn B b wr a d v) (c:UInt8):dn B b (wr.setCell ⟨B+1,1,Y⟩ (J h1 c.toNat)) a c v:=by
 have f:=h.z0;have g:=h.z1;have i:=h.z2;have e:=h.c0;have c1:=h.c1;have c2:=h.c2;refine ⟨h.below.setCell (by simp) _,by simpa using h.big,?_,?_,?_,by rw [aG];exact h.y0,by rw [aG];exact h.y1,by rw [aG];exact h.y2,?_,?_,?_,by rw [aG];exact h.x0,by rw [aG];exact h.x1,by rw [aG];exact h.x2⟩;all_goals (clear h;go_simp)
theorem xG (ps:List (af×ka)):∀(m i:Nat) (u:ka) (q:af×ka) (a:m<ps.length),i<4->(fieldCells ps[m]).set i u=fieldCells q->(ps.flatMap fieldCells).set (m * 4+i) u=(ps.set m q).flatMap fieldCells:=by
 induction ps with
 |nil=>intro m i u q a;simp at a
 |cons p ps ih=>
  intro m i u q a d b;cases m with
  |zero=> simp only [List.getElem_cons_zero] at b;rw [kt,List.set_append_left _ _ (by simp [fieldCells];omega),lf,k3,b];rfl
  |succ m=>
   simp only [List.getElem_cons_succ] at b;have c:(fieldCells p).length=4:=by simp [fieldCells]
   rw [kt,List.set_append_right _ _ (by rw [c];omega),c,show (m+1) * 4+i - 4=m * 4+i from by omega,ih m i u q (by simpa using a) d b];rfl
theorem xI (ps:List (af×ka)):∀(m i:Nat) (a:m<ps.length),i<4->(ps.flatMap fieldCells)[m * 4+i]? =(fieldCells ps[m])[i]? :=by
 induction ps with
 |nil=>intro m i a;simp at a
 |cons p ps ih=>
  intro m i a c;have b:(fieldCells p).length=4:=by simp [fieldCells]
  cases m with
  |zero=>rw [kt,List.getElem?_append_left (by rw [b];omega),lf,k3];rfl
  |succ m=>rw [kt,List.getElem?_append_right (by rw [b];omega),b,show (m+1) * 4+i - 4=m * 4+i from by omega,ih m i (by simpa using a) c];rfl
theorem sq {lo:Nat} {w:j4} {g c n:Nat} {ps:List (af×ka)} (h:w.ownsRow lo 123 4 (fn (X ⟨g,0,Y⟩) n c) n (ps.flatMap fieldCells)) (m:Nat) (b:m<ps.length):
 w.cell? ⟨g,m * 4,Y⟩=X (S ps[m].1.tag)/\w.cell? ⟨g,m * 4+1,Y⟩=X (S ps[m].1.ind)/\w.cell? ⟨g,m * 4+2,Y⟩=X (S ps[m].1.data)/\w.cell? ⟨g,m * 4+3,Y⟩=X ps[m].2/\
  ∀i,w.frozen? ⟨g,i,Y⟩=false:=by
 have e:(ps.flatMap fieldCells).length=ps.length * 4:=by
  clear h b;induction ps with
  |nil=>rfl
  |cons p ps ih=>rw [kt,k1,ih];simp [fieldCells];omega
 have f:n * 4=ps.length * 4:=by rw [<- e];exact h.1.symm
 have a:∀i,i<4->w.cell? ⟨g,m * 4+i,Y⟩=(fieldCells ps[m])[i]? :=λi d=>by rw [h.cellAt (m * 4+i) (by omega),xI ps m i b d]
 exact ⟨a 0 (by omega),a 1 (by omega),a 2 (by omega),a 3 (by omega),λi=>h.frozenAt i⟩
theorem bE.put {lo:Nat} {w:j4} {g c n:Nat} (ps:List (af×ka)) (s:n=ps.length) (m i:Nat) (r:m<ps.length) (j:∀k (d:k<ps.length),k≠m->bj lo (X g) w ps[k].2 ps[k].1.subs) (l:w.ownsRow lo 123 4 (fn (X ⟨g,0,Y⟩) n c) n (ps.flatMap fieldCells))
 (o:i<4) (u:ka) (q:af×ka) (v:(fieldCells ps[m]).set i u=fieldCells q) (y:bj lo (X g) w q.2 q.1.subs):
 bE lo (w.setCell ⟨g,m * 4+i,Y⟩ u) (fn (X ⟨g,0,Y⟩) n c) ((ps.set m q).map (·.1)):=by
 have f:∀x b,bj lo (X g) w x b->bj lo (X g) (w.setCell ⟨g,m * 4+i,Y⟩ u) x b:=λx b h=>
  h.step (λk _ _ a=>ja _ _ _ _ (by intro e;exact a (by rw [e]))) (by simp) (.inl rfl)
 refine ⟨⟨ps.set m q,rfl,λp t=>?_,?_⟩⟩
 · obtain ⟨k,d,rfl⟩:=List.getElem_of_mem t;rw [List.getElem_set];split
   · exact f _ _ y
   · rename_i a;exact f _ _ (j k (by simpa using d) (λe=>a e.symm))
 · have:=(l.stored (m * 4+i) u).1;rw [xG ps m i u q r o v] at this;simpa [s] using this
theorem cG (f:af):(fieldBytes f).length=f.data.length+f.ind.length+(f.subs.flatMap aR).length+1:=by simp [fieldBytes];omega
theorem Aq {B:Nat} {q wr a r:j4} {t u:UInt8} {v c:ka} {m:List af} (o:Obj) (f:af) (d:ka) (j:Nat) (D:dn B q wr t u v) (P:ea (B+2) wr v m)
 (L:Below B q a) (h:∀k,k<wr.heap.size->a.heap[k]? =wr.heap[k]?) (hz:wr.heap.size<=a.heap.size) (C:a.ownsRow (B+2) 120 2 d f.subs.length (f.subs.flatMap subCells)) (N:d.ownBlock=X j) (a6:wr.heap.size<=j)
 (w:List ka) (a0:wr.ownsRow (B+2) 123 4 v m.length w) (Q:r.ownsRow (B+2) 123 4 c (m.length+1) (w++fieldCells (f,d))) (b:(a.alloc o).grownBy r v.ownBlock)
 (V:c.ownBlock=v.ownBlock∨c.ownBlock=X (a.alloc o).heap.size):
 dn B q (r.setCell ⟨B+1,2,Y⟩ c) t u c/\ea (B+2) (r.setCell ⟨B+1,2,Y⟩ c) c (m++[f]):=by
 have a5:=D.big;have O:dn B q a t u v:=D.far L (λk a7=>h k (by omega)) (by omega);obtain ⟨ps,I,A,n,K⟩:=P.ex;have W:w=ps.flatMap fieldCells:=by
  have y:=a0;have z:=A;rcases y.2 with ⟨_,H⟩|⟨g,a1,a3,rfl,_,M,_,_,_,R⟩
  · have F:=y.1;have G:=z.1;rw [H,lf] at F G;rw [kl F,kl G]
  · rcases z.2 with ⟨s,_⟩|⟨g',a2,a4,s,_,i,_,_,_,T⟩
    · cases s
    · injection s with ha _ _
      injection ha with ha
      injection ha with ha
      subst ha;rw [M] at i;injection i with i
      injection i with i
      subst i;rw [<- R, <- T]
 subst W;have x:∀k,k<a.heap.size->(a.alloc o).heap[k]? =a.heap[k]? :=λk h=>kk a o k h;have E:∀g,v.ownBlock=X g->B+2<=g/\g<wr.heap.size:=λg b=>A.lt g b;refine ⟨((O.keep (aO a o)).grown b (λk h=>(E k h).1)).set2 c,?_⟩;refine (ea.app f d ps I (λp l=>⟨cA (n p l).1 (λg b=>?_),(n p l).2⟩) K (cA C (λg b=>x g (C.lt g b).2)) j N (λe=>?_) (λp l e=>?_) Q b V).far (λk h _=>ja _ _ _ _ (by simp;omega))
 · have:=((n p l).1.lt g b).2;rw [x g (by omega),h g this]
 · have:=(E j e).2;omega
 · have:=((n p l).1.lt j e).2;omega
theorem Ap {B:Nat} {i a b:j4} {g h:UInt8} {v:ka} {f:Option Nat} {o:Obj} (d:dn B i a g h v) (c:(a.alloc o).grownBy b f) (e:∀k,f=X k->B+2<=k):b.cell? ⟨B+1,2,Y⟩=X v/\b.frozen? ⟨B+1,2,Y⟩=false:=
 ⟨((d.keep (aO a o)).grown c e).c2,((d.keep (aO a o)).grown c e).x2⟩
attribute [local go_sem ↓] Go.wp_at_zero Go.wp_at_succ
theorem zw {l:List Bs} {k:Nat} (h:k<l.length):l.getD k []∈l:=by
 rw [kv,List.getElem?_eq_getElem h];exact kq h
theorem nU (w:j4) (l:List Bs) (T:TypeId) (k:Nat) (h:k<l.length):(w.alloc (.cells (l.map S).toArray T)).cell? ⟨w.heap.size,k,Y⟩=X (S (l.getD k [])):=by
 have a:(w.alloc (.cells (l.map S).toArray T)).heap[w.heap.size]? =X (.cells (l.map S).toArray T (0,0)):=kb w _;rw [aa a];simp [kv,h]
theorem kD (n:Int) (M:Nat) (h:0<M):∃m:Nat,n.emod M=m/\m<M:=by
 have a:0<=n.emod M:=Int.emod_nonneg n (by omega);have b:n.emod M<M:=k2 n (by omega);exact ⟨(n.emod M).toNat,(Int.toNat_of_nonneg a).symm,by omega⟩
theorem qm (n a:Int) (M m:Nat) (c:1<=M) (d:M<=1000000) (b:a=M) (h:n.emod M=m) (W:j4):ld prog 24 #[J U n,J U a] W λe w'=>e=hk (J U (m:Int))/\W=w':=by
 subst b;refine (jy n M W (by omega) (by omega)).mono ?_;rintro e w' ⟨rfl,rfl⟩;rw [h];exact ⟨rfl,rfl⟩
theorem oy (l:List Bs) (n:Int) (M m:Nat) (a:l.length=M) (h:n.emod M=m):pick l n=l.getD m []:=by
 unfold pick;rw [a,h];rfl
theorem nL (z:Int):z%256=((u8I z).toNat:Int):=by
 unfold u8I;have b:0<=z%256:=Int.emod_nonneg z (by omega);have c:z%256<256:=k2 z (by omega);have a:z.emod 256=z%256:=rfl;rw [a,UInt8.toNat_ofNat',Nat.mod_eq_of_lt (by omega)];omega
theorem wv (z:Int):IntKind.u8.wrap z=((u8I z).toNat:Int):=by rw [IntKind.wrap_u8];exact nL z
theorem r5 {ps:List (af×ka)} {a:List af} (h:ps.map (·.1)=a) (m:Nat) (j:m<ps.length) (g:af->af) (b:af) (c:ka) (f:g ps[m].1=b):(ps.set m (b,c)).map (·.1)=a.modify m g:=by
 rw [List.map_set,h];have n:m<a.length:=by rw [<- h,List.length_map];exact j
 have e:a[m]=ps[m].1:=by simp [<- h]
 refine List.ext_getElem (by simp) (λi k l=>?_);rw [List.getElem_set,List.getElem_modify];split
 · rename_i d;subst d;rw [e,f]
 · rfl
theorem uh (w:j4) (x y:ka) (t:TypeId):∀j v,[x,y][j]? =X v->(w.alloc (gs #[x,y] t)).cell? ((⟨w.heap.size,0,Y⟩:Addr).add j)=X v:=by
 intro j v a;match j,a with
 |0,a=>simp at a;subst a;simp [Addr.add]
 |1,a=>simp at a;subst a;simp [Addr.add]
theorem nH {w:j4} {b:Array Oper} {c:List Oper} {o:Oper} {a:Act} {Q:Exit->Act->j4->Prop} (g:o.guard=Y) (d x:Operand)
 (i:o.op= .call {callee:= .builtin .append,args:= #[d,x],argTypes:= #[121,121]}) (l:o.type=121) (v u e:ka) (w':j4) (k:a.eval d=v) (m:a.eval x=u)
 (j:(lp #[121,121] 121 #[v,u]).run prog w= .ok e w') (h:wpList prog b Q c (a.put o.dst e) w'):wpList prog b Q (o::c) a w:=by
 refine wpList_plain g λK f=>?_;unfold Oper.wp execOp;simp only [i,l,resolve,invoke,builtin,Sem.run_bind,Sem.run_pure,Result.andThen_ok,List.map_toArray,List.map_cons,List.map_nil,k,m,j];exact f _ _ h
abbrev recO (a b:UInt8) (v:ka):Obj:=j3 #[J h1 a.toNat,J h1 b.toNat,v] 62
abbrev numsO (a b c:Int):Obj:=j3 #[J U a,J U b,J U c] 162
abbrev Bp:Obj:=j3 #[J h1 0,J h1 0,fn Y 0 0] 62
theorem dn.init (w:j4) (a b:UInt8):dn w.heap.size w ((w.alloc Bp).alloc (recO a b (fn Y 0 0))) a b (fn Y 0 0):=by
 refine ⟨((kc _ w).alloc (kn _) _).alloc (by simp) _,by simp,?_,?_,?_,?_,?_,?_,?_,?_,?_,?_,?_,?_⟩;all_goals go_simp
theorem Be (w:j4) (d e:UInt8) (v:ka) (a b c:Int) (W:j4) (h:Below (w.heap.size+2) ((w.alloc (recO d e v)).alloc (numsO a b c)) W):
 W.cell? ⟨w.heap.size,2,Y⟩=X v/\W.cell? ⟨w.heap.size+1,0,Y⟩=X (J U a)/\W.cell? ⟨w.heap.size+1,1,Y⟩=X (J U b)/\W.cell? ⟨w.heap.size+1,2,Y⟩=X (J U c):=by
 refine ⟨?_,?_,?_,?_⟩<;>(rw [h.cell (p:=⟨_,_,Y⟩) (by simp)];go_simp)
abbrev nR:Obj:=j3 #[S [],S [31],S [30],S [97,29,98],S [255],S [195],S [237,160,128],S [224,128,128],S [127],S [195,169],S [116,97,98,9]] 9
theorem bE.far {lo:Nat} {w w':j4} {v:ka} {a:List af} (h:bE lo w v a) (b:∀k,lo<=k->k<w.heap.size->w'.heap[k]? =w.heap[k]?) (c:w.heap.size<=w'.heap.size):bE lo w' v a:=h.keep b c
abbrev jr:Obj:=j3 #[S [48,48,48],S [50,52],S [50,52,53,53],S [50,52,97],S [],S [48,48,49],S [50,52,53]] 9
abbrev jE:Obj:=j3 #[S [],S [49],S [49,50,51],S [31,48],S [32,126],S [48,127]] 9
def uk (R:az) (B:Nat) (c b:j4):Prop:=∃(a:Option Addr) (vc:Nat),Hid (dn B c b R.kind R.level (fn a R.fields.length vc))/\Hid (bE (B+2) b (fn a R.fields.length vc) R.fields)
theorem tH {w d wr:j4} {B:Nat} {R:az} {v:ka} (h:Bw w d) (g:w.heap.size<=B) (k:dn B d wr R.kind R.level v) (b:bE (B+2) wr v R.fields) (e:Ending)
 (i:e=hk (.agg #[J h1 R.kind.toNat,J h1 R.level.toNat,v])):∃(c:Option Addr) (cb:Nat),e=hk (.agg #[J h1 R.kind.toNat,J h1 R.level.toNat,fn c R.fields.length cb])/\
  Bw w (((wr.setCell ⟨B,0,Y⟩ (J h1 R.kind.toNat)).setCell ⟨B,1,Y⟩ (J h1 R.level.toNat)).setCell ⟨B,2,Y⟩ v)/\
  ai w.heap.size (((wr.setCell ⟨B,0,Y⟩ (J h1 R.kind.toNat)).setCell ⟨B,1,Y⟩ (J h1 R.level.toNat)).setCell ⟨B,2,Y⟩ v).heap.size (((wr.setCell ⟨B,0,Y⟩ (J h1 R.kind.toNat)).setCell ⟨B,1,Y⟩ (J h1 R.level.toNat)).setCell ⟨B,2,Y⟩ v) (fn c R.fields.length cb) R.fields:=by
 obtain ⟨a,f,rfl⟩:=b.shape;refine ⟨a,f,i,(((btr h k.below g).setCell (by simp;omega) _).setCell (by simp;omega) _).setCell (by simp;omega) _,?_⟩;exact (b.keep (λj l _=>by rw [ja _ _ _ _ (by simp;omega),ja _ _ _ _ (by simp;omega),ja _ _ _ _ (by simp;omega)]) (by simp)).fields (by omega)
set_option linter.unusedSimpArgs false in
set_option maxHeartbeats 8000000 in
set_option maxRecDepth 100000 in
theorem rZ (H C:UInt8) (r:List af) (sa:Option Addr) (ay:Nat) (n:Nat) (iF:n<=7) (q l:Int) (w:j4) (hf:ai 0 w.heap.size w (fn sa r.length ay) r) (hN:r.length<=5000) (hM:∀f∈r,(fieldBytes f).length<=50000):
 ld prog 84 #[.agg #[J h1 H.toNat,J h1 C.toNat,fn sa r.length ay], .agg #[J U (n:Int),J U q,J U l]] w λe w'=>∃(sb:Option Addr) (cb:Nat),
  e=hk (.agg #[J h1 (spoilR ⟨H,C,r⟩ n q l).kind.toNat,J h1 (spoilR ⟨H,C,r⟩ n q l).level.toNat, .slice sb (spoilR ⟨H,C,r⟩ n q l).fields.length cb])/\Bw w w'/\
  ai w.heap.size w'.heap.size w' (.slice sb (spoilR ⟨H,C,r⟩ n q l).fields.length cb) (spoilR ⟨H,C,r⟩ n q l).fields:=by
 obtain ⟨R,hR⟩:=Qe (spoilR ⟨H,C,r⟩ n q l);rw [hR];have HR:=Z hR;clear hR;obtain ⟨q0,dx⟩:∃q0:Int,(n:Int)=q0:=⟨_,rfl⟩;rw [dx];obtain ⟨mt,d8,fz⟩:=kD l 11 (by omega);have eq:Hid (textsL.getD mt []=pick textsL l):=(oy textsL l 11 mt rfl d8).symm;have gf:Hid (∀W,ld prog 24 #[J U l,J U 11] W λe w'=>e=hk (J U (mt:Int))/\W=w'):=qm l 11 11 mt (by omega) (by omega) rfl d8;have g5:Hid (∀W,ld prog 24 #[J U q0,J U 10] W λe w'=>e=hk (J U (n:Int))/\W=w'):=qm q0 10 10 n (by omega) (by omega) rfl (by show q0%10=n;omega);have hZ:=Z dx;clear d8 dx;have HF:Hid (∀W,Bw w W->ai 0 w.heap.size W (fn sa r.length ay) r):=λW h=>hf.kept (aY h (kn _));have HM:=Z hM;have HQ:Hid (∀W,Below (w.heap.size+2) ((w.alloc (recO H C (fn sa r.length ay))).alloc (numsO q0 q l)) W->_):=λW h=>Be w H C (fn sa r.length ay) q0 q l W h;obtain ⟨w0,b5⟩:∃w0,w0=((w.alloc (recO H C (fn sa r.length ay))).alloc (numsO q0 q l)):=⟨_,rfl⟩;have hG:w0.heap.size=w.heap.size+2:=by rw [b5];simp
 have HI:=dn.init w0 H C;rw [hG,b5] at HI;have HI:=Z HI;have b6:Hid (Bw w w0):=by rw [b5];exact ((kc _ w).alloc (kn _) _).alloc (by simp) _
 rw [<- b5] at HQ;have h7:=Z b5;clear hf hM b5;go_enter func84,ntmps84;go_wp2_with fail
 go_loopw [6] (λi wr=>∃(k:Nat) (o:List af) (va:Option Addr) (O:Nat),i=J U k/\k<=r.length/\Hid (o=r.take k)/\Hid (o.length=k)/\o.length<=5000/\Hid (dn (w.heap.size+2) w0 wr H C (fn va o.length O))/\Hid (ea (w.heap.size+2+2) wr (fn va o.length O) o)) (λi _=>r.length - (intOf i).toNat)
 case atStart=>exact ⟨0,[],Y,0,rfl,by omega,by simp [Hid],rfl,by simp,by rw [h7.o];exact HI,ea.nil _ _⟩
 case round=>
  obtain ⟨k,o,va,O,rfl,j,ao,c3,fc,HH,HO⟩:=hrel;have hb:=HH.below;obtain ⟨b2,c9,bk,ax⟩:=HQ wr hb;have cc:=HH.big;by_cases hlt:k<r.length
  · obtain ⟨b,iQ,f0,d,hv,_,i8,hA,hB,hC,iP,dz⟩:=(HF.o _ (btr b6.o hb (by omega))).field k hlt;cases hv;obtain ⟨f,d3⟩:=Qe (r[k]);have f6:=HM _ (kq hlt);have gn:Hid (o++[f]=r.take (k+1)):=by rw [ao.o,List.take_succ_eq_append_getElem hlt,d3];rfl
    rw [d3] at hA hB hC dz f6;have e7:f.subs.length<=1000000:=by have:=cK f;omega
    clear d3;obtain ⟨z,A,rfl⟩:∃z A,d=fn z f.subs.length A:=by obtain ⟨a,c,h,_⟩:=dz;exact ⟨a,c,h⟩
    obtain ⟨W5,aS⟩:∃W5,W5=(wr.alloc (j3 #[S f.tag,S f.ind,S f.data,fn z f.subs.length A] 123)).alloc (j3 #[] 120):=⟨_,rfl⟩;have aT:Bw wr W5:=by rw [aS];exact ((kc _ wr).alloc (kn _) _).alloc (by simp) _
    have f5:W5.heap.size=wr.heap.size+2:=by rw [aS];simp
    have f3:W5.heap[wr.heap.size+1]? =X (gs #[] 120 (0,0)):=by rw [aS];have:=heap_alloc_new (wr.alloc (j3 #[S f.tag,S f.ind,S f.data,fn z f.subs.length A] 123)) (j3 #[] 120);simpa using this
    have f4:W5.heap[wr.heap.size]? =X (j3 #[S f.tag,S f.ind,S f.data,fn z f.subs.length A] 123):=by rw [aS,kk _ _ _ (by simp)];exact heap_alloc_new _ _
    obtain ⟨B,G,y,dy,fr,au,h8⟩:=vH (w.heap.size+2+2) W5 (wr.heap.size+1) (fn z f.subs.length A) f.subs f3 ((dz.kept (aY aT (by have:=b6.o.size;have:=hb.size;omega))).mono (kn _) (by rw [f5];have:=b6.o.size;have:=hb.size;omega)) e7 (by omega);have aC:y.heap[wr.heap.size]? =X (j3 #[S f.tag,S f.ind,S f.data,fn z f.subs.length A] 123):=by rw [au.block _ (by omega) (by intro e;injection e with e;omega)];exact f4
    have e3:y.cell? ⟨wr.heap.size,3,Y⟩=X (fn z f.subs.length A):=by simp [k5,aC,j3]
    have x3:y.frozen? ⟨wr.heap.size,3,Y⟩=false:=by simp [World.frozen?,aC,j3]
    have e0:(y.setCell ⟨wr.heap.size,3,Y⟩ (fn (X B) f.subs.length G)).cell? ⟨wr.heap.size,0,Y⟩=X (S f.tag):=by rw [kx _ _ _ _ (by simp)];simp [k5,aC,j3]
    have e1:(y.setCell ⟨wr.heap.size,3,Y⟩ (fn (X B) f.subs.length G)).cell? ⟨wr.heap.size,1,Y⟩=X (S f.ind):=by rw [kx _ _ _ _ (by simp)];simp [k5,aC,j3]
    have e2:(y.setCell ⟨wr.heap.size,3,Y⟩ (fn (X B) f.subs.length G)).cell? ⟨wr.heap.size,2,Y⟩=X (S f.data):=by rw [kx _ _ _ _ (by simp)];simp [k5,aC,j3]
    have e4:(y.setCell ⟨wr.heap.size,3,Y⟩ (fn (X B) f.subs.length G)).cell? ⟨wr.heap.size,3,Y⟩=X (fn (X B) f.subs.length G):=World.cell?_setCell_same _ _ _ e3;have bs:∀k,k<wr.heap.size->(y.setCell ⟨wr.heap.size,3,Y⟩ (fn (X B) f.subs.length G)).heap[k]? =wr.heap[k]? :=λk j=>by rw [ja _ _ _ _ (by simp;omega),au.block k (by omega) (by intro e;injection e with e;omega),aT.block k j]
    have i4:wr.heap.size+2<=(y.setCell ⟨wr.heap.size,3,Y⟩ (fn (X B) f.subs.length G)).heap.size:=by have:=au.size;simp;omega
    have cz:Below (w.heap.size+2) w0 (y.setCell ⟨wr.heap.size,3,Y⟩ (fn (X B) f.subs.length G)):=
     ⟨by rw [show (y.setCell ⟨wr.heap.size,3,Y⟩ (fn (X B) f.subs.length G)).os=y.os from rfl];exact au.os.trans (aT.os.trans hb.os),au.tape.trans (aT.tape.trans hb.tape),au.output.trans (aT.output.trans hb.output),by have:=hb.size;omega,
      λk j=>(bs k (by omega)).trans (hb.block k j)⟩
    have f1:(y.setCell ⟨wr.heap.size,3,Y⟩ (fn (X B) f.subs.length G)).ownsRow (w.heap.size+2+2) 120 2 (fn (X B) f.subs.length G) f.subs.length (f.subs.flatMap subCells):=
     cA fr (λg hg=>ja _ _ _ _ (by simp [ko] at hg;simp;omega))
    have fc:wr.heap.size<=B.block:=by omega
    obtain ⟨ps,_,bA,_⟩:=HO.ex;have f2:(y.setCell ⟨wr.heap.size,3,Y⟩ (fn (X B) f.subs.length G)).ownsRow (w.heap.size+2+2) 123 4 (fn va o.length O) o.length (ps.flatMap fieldCells):=cA bA (λg hg=>bs g (bA.lt g hg).2);have cP:=HH.o.far cz (λk j=>bs k (by omega)) (by omega);have e5:=cP.c2;have h6:Hid (∀k,(Value.slice va o.length O).ownBlock=X k->w.heap.size+2+2<=k):=λk j=>(bA.lt k j).1;rw [aS] at dy;have er:=Z dy;have bb:=Z bA;clear aS aT f5 f3 f4 aC dy fr au h8 bA;go_upto_region 7 with (at_builtin;refine nH rfl _ _ rfl rfl _ _ _ _ rfl rfl er.o ?_)
    generalize (y.setCell ⟨wr.heap.size,3,Y⟩ (fn (X B) f.subs.length G))=w7 at *;have gx:=Z bs;have g4:=Z cz;have gi:=Z f1;have c6:=Z f2;have I:=Z cP;obtain ⟨i0,hi,a8,a9,ac⟩:=lm AN;have HI:=Z hi;have b7:=Z a8;have b8:=Z a9;have b9:=Z ac;clear bs cz f1 f2 cP hi a8 a9 ac er;go_wp2_with (at_builtin;refine wpList_append_own_at _ rfl _ _ 60 rfl (w.heap.size+2+2) 123 i0 (.agg #[.string ⟨#[]⟩, .string ⟨#[]⟩, .string ⟨#[]⟩,fn Y 0 0]) 4 72 underlying60 HI.o b7.o b8.o b9.o rfl (by omega) (fn va o.length O) o.length _ rfl (c6.o.alloc _) ⟨w7.heap.size,0,Y⟩ 1 1 [S f.tag,S f.ind,S f.data,fn (X B) f.subs.length G] rfl rfl (ug _ _ _ _ _ _) (by simp [k9]) (by unfold maxLen;omega) (by omega) (by simp;omega) ?_;intro v' w8 dr N _ a1;obtain ⟨g0,g1,rfl⟩:=bF dr;have gz:=Z dr;have gp:=Z N;have g3:=Z a1;obtain ⟨e8,f8⟩:=Ap I.o N h6.o;clear dr N a1)
    go_roundw
    case rel=>
     have:=Aq _ f (fn (X B) f.subs.length G) B.block HH.o HO.o g4.o gx.o (by omega) gi.o rfl fc _ bb.o gz.o gp.o g3.o;refine ⟨k+1,o++[f],g0,g1,by go_num,by omega,gn,by rw [k1,c3.o];rfl,by have:=c3.o;simp;omega,?_,?_⟩
     · simpa [Hid] using this.1
     · simpa [Hid] using this.2
    case measure=>simp [intOf];omega
  · have hu:k=r.length:=by omega
    have ia:o.length<=5000:=by rw [c3.o];omega
    have gq:Hid (∀f∈o,(fieldBytes f).length<=50000):=λf hf=>HM.o f (by rw [ao.o] at hf;exact List.mem_of_mem_take hf);have bY:Hid (o=r):=by unfold Hid;rw [ao.o,List.take_of_length_le (by omega)]
    clear ao c3 HF HM c9 bk ax;generalize wr=w4 at *;have eQ:Hid ((w4.alloc nR).cell? ⟨w4.heap.size,mt,Y⟩=X (S (pick textsL l))):=by unfold Hid;rw [<- eq.o];exact nU w4 textsL 9 mt fz
    have D:=Z (HH.keep (aO w4 nR));have c4:=Z (HO.keep (aO w4 nR));go_upto_region 9 with fail
    clear b2 j hlt hu;generalize (w4.alloc nR)=w5 at *;obtain ⟨b2,c9,bk,ax⟩:=HQ w5 D.below;go_cut [9] (λt wx=>t=S (pick textsL l)/\wx=w5)
    case first=>
     have hx:=eQ.o;have iD:(mt:Int)<11:=by omega
     go_wp2_with (go_at_call 24;((with_reducible refine j2 (gf.o _) ?_);rintro e w' ⟨rfl,rfl⟩))
     go_meet;exact ⟨rfl,rfl⟩
    case rest=>
     obtain ⟨rfl,hF⟩:=hcut;obtain ⟨T,hT⟩:=Qe (pick textsL l);have i6:T.length<=10:=by
      rw [<- hT, <- eq.o];have:∀x∈textsL,x.length<=10:=by decide
      exact this _ (zw fz)
     have cx:=Z hT;rw [hT];clear hT;subst hF;generalize wc=y at *;clear eQ HH HO cc hb;have hb:=D.below;have cc:=D.big;have c0:=D.c0;have c1:=D.c1;have c2:=D.c2;have x0:=D.x0;have z0:=D.z0;have z1:=D.z1;have z2:=D.z2;have y0:=D.y0;have y1:=D.y1;have y2:=D.y2;by_cases L:o.length=0
     · have hc:=nL q;obtain ⟨c,a0⟩:=Qe (u8I q);have a6:o=[]:=kl L;have bc:Hid (R=⟨c,C,[]⟩):=by unfold Hid;rw [<- HR.o, <- bY.o,a6, <- a0];rfl
       rw [a0] at hc;subst a6;have hh:=D.set0 c;have E:=c4.o.toRec.far (w':=y.setCell ⟨w.heap.size+2+1,0,Y⟩ (J h1 c.toNat)) (λk j _=>ja _ _ _ _ (by simp;omega)) (by simp);have gt:=Z hh;have h3:=Z E;clear hh E;clear a0;go_wp2_with fail
       all_goals
        refine bodyPost_ret (v:= .agg #[J h1 c.toNat,J h1 C.toNat,fn va 0 O]) (by simp only [results,Tryz.results84];go_simp) rfl ?_
        rw [bc.o]
        exact tH b6.o (by omega) gt.o h3.o _ rfl
     · have cm:0<o.length:=by omega
       obtain ⟨g,i1,hD,f7,ho⟩:∃g f0,Value.slice va o.length O=fn (X ⟨g,0,Y⟩) o.length f0/\w.heap.size+2+2<=g/\g<y.heap.size:=by obtain ⟨_,_,h2,_⟩:=c4.ex;exact h2.form cm
       cases hD;clear x0 z0 z1 z2 y0 y1 y2 c0 c1;go_upto_region 13 with fail
       obtain ⟨m,d7,hm⟩:=kD q o.length (by omega);have gb:Hid (∀W,ld prog 24 #[J U q,J U (o.length:Int)] W λe w'=>e=hk (J U (m:Int))/\W=w'):=qm q _ o.length m (by omega) (by omega) rfl d7;have gy:=Z d7;clear d7;go_cut [10] (λt wx=>t=hr (X ⟨g,m * 4,Y⟩)/\Bw y wx)
       case first=>
        have t1:(0:Int)<=0:=by omega
        go_region_held3 (λw'=>w'.cell? ⟨w.heap.size+2+1,2,Y⟩=X (fn (X ⟨g,0,Y⟩) o.length O)/\w'.cell? ⟨w.heap.size+1,1,Y⟩=X (J U q)) (go_keep)
         ((go_at_call 24;((with_reducible refine j2 (gb.o _) ?_);rintro e w' ⟨rfl,rfl⟩)))
        go_wp2_with fail
        go_meet;exact ⟨by simp,(kc _ y).drew⟩
       case rest=>
        obtain ⟨rfl,cd⟩:=hcut;have I:=Z (D.keep cd);have c6:=Z (c4.keep cd);have hH:=cd.size;clear c2 b2 c9 bk ax D c4 cd hb cc;generalize wc=w7 at *;have a7:g<w7.heap.size:=by omega
        clear hH ho;obtain ⟨b2,c9,bk,ax⟩:=HQ w7 I.below;obtain ⟨ps,b1,b3,b4,ds⟩:=c6.ex;have ad:m<ps.length:=by rw [<- b1] at hm;simpa using hm
        have b0:o.length=ps.length:=by rw [<- b1];simp
        obtain ⟨t0,t1,t2,t3,tf⟩:=sq b3 m ad;obtain ⟨f,bt⟩:=Qe (ps[m].1);have f6:(fieldBytes f).length<=50000:=gq.o f (by rw [<- bt, <- b1];exact List.mem_map_of_mem (kq ad));have hq:=b4 _ (kq ad);rw [bt] at t0 t1 t2 hq;obtain ⟨d,cQ⟩:=Qe (ps[m].2);rw [cQ] at t3 hq;obtain ⟨⟨bB,gd,al,fx⟩⟩:Nonempty (w7.ownsRow (w.heap.size+2+2) 120 2 d f.subs.length (f.subs.flatMap subCells)/\_):=⟨hq⟩;obtain ⟨z,A,rfl⟩:=bF bB;have bb:Hid (ps[m]=(f,fn z f.subs.length A)):=Prod.ext bt cQ;have es:Hid (∀p∈ps,bj (w.heap.size+2+2) (X g) w7 p.2 p.1.subs):=λp hp=>gw (b4 p hp).1 (λk j e=>by obtain ⟨_,g2,V,h2⟩:=b4 p hp;rw [V] at j;injection j with j;subst j;exact h2 e);have cs:Hid (n≠0->n≠1->R=⟨H,C,o.modify m λf=>gm f n q l⟩):=λL V=>by rw [<- HR.o, <- bY.o];unfold spoilR;have a6:o≠[]:=List.length_pos_iff.1 cm;have e:q.emod o.length=(m:Int):=gy.o;dsimp only;rw [if_neg a6,if_neg (by omega),if_neg (by omega),e];rfl
        have gO:Hid (n=0->R=⟨u8I l,C,o⟩):=λL=>by rw [<- HR.o, <- bY.o];unfold spoilR;have a6:o≠[]:=List.length_pos_iff.1 cm;dsimp only;rw [if_neg a6,if_pos (by omega)]
        have gP:Hid (n=1->R=⟨H,u8I l,o⟩):=λL=>by rw [<- HR.o, <- bY.o];unfold spoilR;have a6:o≠[]:=List.length_pos_iff.1 cm;dsimp only;rw [if_neg a6,if_neg (by omega),if_pos (by omega)]
        have cu:Hid (∀(Q:af) (d':ka),gm f n q l=Q->(ps.set m (Q,d')).map (·.1)=o.modify m λf=>gm f n q l):=λQ d' hd=>r5 b1 m ad _ Q d' (by rw [bt];exact hd)
        have c7:Hid (∀(i:Nat) (u:ka) (Q:af) (d':ka),n≠0->n≠1->gm f n q l=Q->i<4->(fieldCells (f,fn z f.subs.length A)).set i u=fieldCells (Q,d')->bj (w.heap.size+2+2) (X g) w7 d' Q.subs->∀W:j4,Bw w7 W->
         uk R (w.heap.size+2) w0 (W.setCell ⟨g,m * 4+i,Y⟩ u)):=by
         intro i u Q d' d9 dd e6 hi hc hs W hW
         have fy:∀x ss,bj (w.heap.size+2+2) (X g) w7 x ss->bj (w.heap.size+2+2) (X g) W x ss:=λx ss h=>h.step (λk _ j _=>hW.block k j) hW.size (.inl rfl)
         have E:=bE.put (w:=W) ps b0 m i ad (λk j _=>fy _ _ (es.o _ (kq j))) (cA b3 (λg' a4=>hW.block g' (b3.lt g' a4).2)) hi u (Q,d') (by rw [bb.o];exact hc) (fy _ _ hs)
         have bw:((ps.set m (Q,d')).map (·.1)).length=o.length:=by simp [b0]
         rw [cs.o d9 dd, <- cu.o Q d' e6]
         refine ⟨X ⟨g,0,Y⟩,O,?_,?_⟩
         · rw [bw];exact (I.o.keep hW).put g _ f7 u
         · rw [bw];exact E
        have ao:Hid (∀(eg ej:UInt8) (W:j4),R=⟨eg,ej,o⟩->dn (w.heap.size+2) w0 W eg ej (fn (X ⟨g,0,Y⟩) o.length O)->(∀k,w.heap.size+2+2<=k->k<w7.heap.size->W.heap[k]? =w7.heap[k]?)->w7.heap.size<=W.heap.size->uk R (w.heap.size+2) w0 W):=
         λeg ej W E hh j hz=>by rw [E];exact ⟨_,O,hh,c6.o.toRec.far j hz⟩
        have ce:g≠gd:=λe=>fx (by rw [e];rfl);have hn:=bB.lt gd al;have cv:=Z (gw (g:=X g) bB (λk j e=>by rw [al] at j;injection j with j;subst j;exact fx e))
        have em:Hid (∀(s:cr) (v':ka) (F W:j4),n≠0->n≠1->gm f n q l={f with subs:=f.subs++[s]}->Bw w7 W->F.ownsRow (w.heap.size+2+2) 120 2 v' (f.subs.length+1) (f.subs.flatMap subCells++subCells s)->W.grownBy F (X gd)->(v'.ownBlock=X gd∨v'.ownBlock=X W.heap.size)->
         uk R (w.heap.size+2) w0 (F.setCell ⟨g,m * 4+3,Y⟩ v')/\F.cell? ⟨g,m * 4+3,Y⟩=X (fn z f.subs.length A)/\F.frozen? ⟨g,m * 4+3,Y⟩=false):=by
         intro s v' F W d9 dd e6 hW hy N a1
         have hz:=hW.size
         have cl:∀k,k<w7.heap.size->k≠gd->F.heap[k]? =w7.heap[k]? :=λk j dk=>by rw [N.block k (by omega) (by intro e;injection e with e;exact dk e),hW.block k j]
         have ft:=List.pairwise_iff_getElem.1 ds
         have E:=bE.put (w:=F) ps b0 m 3 ad (λk j dk=>?_) (cA b3 (λg' a4=>?_)) (by omega) v' ({f with subs:=f.subs++[s]},v') (by rw [bb.o];rfl) ?_
         · have bw:((ps.set m ({f with subs:=f.subs++[s]},v')).map (·.1)).length=o.length:=by simp [b0]
           have h9:F.cell? ⟨g,m * 4+3,Y⟩=w7.cell? ⟨g,m * 4+3,Y⟩:=k0 (cl g a7 ce)
           have f9:F.frozen? ⟨g,m * 4+3,Y⟩=w7.frozen? ⟨g,m * 4+3,Y⟩:=ks (cl g a7 ce)
           rw [cs.o d9 dd, <- cu.o _ v' e6]
           refine ⟨⟨X ⟨g,0,Y⟩,O,?_,?_⟩,by rw [h9];exact t3,by rw [f9];exact tf _⟩
           · rw [bw];exact ((I.o.keep hW).grown N (λk j=>by injection j with j;subst j;exact hn.1)).put g _ f7 v'
           · rw [bw];exact E
         · obtain ⟨fl,g2,ch,ht⟩:=b4 _ (kq j)
           have fp:ps[k].2.ownBlock≠ps[m].2.ownBlock:=by
            rcases Nat.lt_or_gt_of_ne dk with h|h
            · exact ft k m j ad h
            · exact (ft m k ad j h).symm
           rw [bb.o,al,ch] at fp
           refine gw (cA fl (λg' a4=>?_)) (λk' cg e=>?_)
           · rw [ch] at a4;injection a4 with a4;subst a4
             exact cl _ (fl.lt _ ch).2 (λe=>fp (by rw [e]))
           · rw [ch] at cg;injection cg with cg;subst cg
             exact ht e
         · have:g'=g:=by simpa [ko] using a4.symm
           subst this
           exact cl _ a7 ce
         · refine gw (by simpa [List.flatMap_append] using hy) (λk j e=>?_)
           injection e with e
           subst e
           rcases a1 with a1|a1
           · rw [a1] at j;injection j with j;exact ce j.symm
           · rw [a1] at j;injection j with j;omega
        have cq:=Z bB;have hS:=Z b1;have hV:=Z b3;have hX:=Z b4;have hY:=Z ds;have hQ:=Z b0;clear hq bB b1 b3 b4 ds bt cQ es b0 cs cu;have c0:=I.c0;have c1:=I.c1;have c2:=I.c2;have x0:=I.x0;have x1:=I.x1;have x2:=I.x2;have cc:=I.big;go_upto_block 2 with (go_at_call 24;((with_reducible refine j2 (g5.o _) ?_);rintro e w' ⟨rfl,rfl⟩))
        go_cut [] (λwx=>uk R (w.heap.size+2) w0 wx)
        case first=>
         have ha:n=0∨n=1∨n=2∨n=3∨n=4∨n=5∨n=6∨n=7:=by omega
         rcases ha with rfl|rfl|rfl|rfl|rfl|rfl|rfl|rfl
         · have hc:=nL l;have E:=gO rfl;obtain ⟨c,a0⟩:=Qe (u8I l);rw [a0] at hc E;have bc:=Z E;clear a0 E;go_wp2_with fail
           go_meet;exact ao.o c C _ bc.o (I.o.set0 c) (λk j _=>ja _ _ _ _ (by simp;omega)) (by simp)
         · have hc:=nL l;have E:=gP rfl;obtain ⟨c,a0⟩:=Qe (u8I l);rw [a0] at hc E;have bc:=Z E;clear a0 E;go_wp2_with fail
           go_meet;exact ao.o H c _ bc.o (I.o.set1 c) (λk j _=>ja _ _ _ _ (by simp;omega)) (by simp)
         · obtain ⟨k7,d6,hL⟩:=kD l 7 (by omega);have h5:Hid ((w7.alloc jr).cell? ⟨w7.heap.size,k7,Y⟩=X (S (pick io l))):=by unfold Hid;rw [oy io l 7 k7 rfl d6];exact nU w7 io 9 k7 hL
           have g7:Hid (∀W,ld prog 24 #[J U l,J U 7] W λe w'=>e=hk (J U (k7:Int))/\W=w'):=qm l 7 7 k7 (by omega) (by omega) rfl d6;have it:(k7:Int)<7:=by omega
           clear d6;have he:(w7.alloc jr).cell? ⟨g,m * 4,Y⟩=X (S f.tag):=by rw [aU _ _ _ _ a7];exact t0
           have hj:(w7.alloc jr).frozen? ⟨g,m * 4,Y⟩=false:=by rw [ks (w:=w7) (kk _ _ _ a7)];exact tf _
           have d4:Bw w7 (w7.alloc jr):=aO _ _;have hl:(w7.alloc jr).cell? ⟨w.heap.size+1,2,Y⟩=X (J U l):=by rw [aU _ _ _ _ (by omega)];exact ax
           go_wp2_with fail
           generalize (w7.alloc jr)=w8 at *;((with_reducible refine j2 (g7.o _) ?_);rintro e w' ⟨rfl,rfl⟩;have hI:=h5.o)
           go_wp2_with fail
           go_meet;exact c7.o 0 (S (pick io l)) {f with tag:=pick io l} (fn z f.subs.length A) (by omega) (by omega) rfl (by omega) rfl cv.o _ d4
         · have e1:=cG f;have iN:¬9223372036854775807<f.data.length+T.length:=by omega
           have iS:=tf (m * 4+2);go_wp2_with fail
           go_meet;exact c7.o 2 (S (f.data++T)) {f with data:=f.data++T} (fn z f.subs.length A) (by omega) (by omega) (by rw [<- cx.o];rfl) (by omega) rfl cv.o _ (kc _ _)
         · obtain ⟨k6,d5,hJ⟩:=kD l 6 (by omega);have h4:Hid ((w7.alloc jE).cell? ⟨w7.heap.size,k6,Y⟩=X (S (pick gE l))):=by unfold Hid;rw [oy gE l 6 k6 rfl d5];exact nU w7 gE 9 k6 hJ
           have g6:Hid (∀W,ld prog 24 #[J U l,J U 6] W λe w'=>e=hk (J U (k6:Int))/\W=w'):=qm l 6 6 k6 (by omega) (by omega) rfl d5;have ib:(k6:Int)<6:=by omega
           clear d5;have he:(w7.alloc jE).cell? ⟨g,m * 4+1,Y⟩=X (S f.ind):=by rw [aU _ _ _ _ a7];exact t1
           have hj:(w7.alloc jE).frozen? ⟨g,m * 4+1,Y⟩=false:=by rw [ks (w:=w7) (kk _ _ _ a7)];exact tf _
           have d4:Bw w7 (w7.alloc jE):=aO _ _;have hl:(w7.alloc jE).cell? ⟨w.heap.size+1,2,Y⟩=X (J U l):=by rw [aU _ _ _ _ (by omega)];exact ax
           go_wp2_with fail
           generalize (w7.alloc jE)=w8 at *;((with_reducible refine j2 (g6.o _) ?_);rintro e w' ⟨rfl,rfl⟩;have hI:=h4.o)
           go_wp2_with fail
           go_meet;exact c7.o 1 (S (pick gE l)) {f with ind:=pick gE l} (fn z f.subs.length A) (by omega) (by omega) rfl (by omega) rfl cv.o _ d4
         · have j0:=tf (m * 4+3);go_wp2_with fail
           go_meet;exact c7.o 3 (fn Y 0 0) {f with subs:=[]} (fn Y 0 0) (by omega) (by omega) rfl (by omega) rfl ⟨Y,0,rfl,λh=>absurd rfl h⟩ _ (kc _ _)
         · have a0:=wv q;have g8:=Z a0;clear a0;obtain ⟨i0,hi,a8,a9,ac⟩:=lm zv;have HI:=Z hi;have b7:=Z a8;have b8:=Z a9;have b9:=Z ac;clear hi a8 a9 ac;have e7:=cK f;have P:Hid (∀W,Bw w7 W->(λw':j4=>w'.cell? ⟨g,m * 4+3,Y⟩=X (fn z f.subs.length A)/\w'.cell? ⟨w.heap.size+1,1,Y⟩=X (J U q)) W):=λW hW=>⟨by rw [hW.cell (p:=⟨g,_,Y⟩) a7];exact t3,by rw [hW.cell (p:=⟨w.heap.size+1,_,Y⟩) (by simp;omega)];exact bk⟩;have a2:Hid (Bw w7 w7.drew):=(kc _ w7).drew;have bO:Hid (Bw w7 (w7.alloc (j3 #[J h1 (IntKind.u8.wrap q),S T] 120)).drew):=(aO _ _).drew;go_wp2_with fail
           refine wT (λw':j4=>w'.cell? ⟨g,m * 4+3,Y⟩=X (fn z f.subs.length A)/\w'.cell? ⟨w.heap.size+1,1,Y⟩=X (J U q)) 14 ?_;refine bM (i:=0) (v:=?_) rfl (by kernel_rfl) (by kernel_rfl) (by kernel_rfl) (by kernel_rfl) (by decide) (λ_ _ _ h=>h) (P _ a2.o) (k8 ⟨by rfl,?_⟩) ?_;rotate_left
           · intro w' h;obtain ⟨L,V⟩:=h;go_simp;(first |done|rfl)
           (try simp only [Act.put,jb,jn,j1])
           refine bM (i:=1) (v:=?_) rfl (by kernel_rfl) (by kernel_rfl) (by kernel_rfl) (by kernel_rfl) (by decide) (λ_ _ _ h=>h) (P _ a2.o) (k8 ⟨by rfl,?_⟩) ?_;rotate_left
           · intro w' h;obtain ⟨L,V⟩:=h;go_simp;(first |done|rfl)
           (try simp only [Act.put,jb,jn,j1])
           refine bM (i:=2) (v:=?_) rfl (by kernel_rfl) (by kernel_rfl) (by kernel_rfl) (by kernel_rfl) (by decide) (λ_ _ _ h=>h) (P _ a2.o) (k8 ⟨by rfl,?_⟩) ?_;rotate_left
           · intro w' h;obtain ⟨L,V⟩:=h;go_simp;(first |done|rfl)
           (try simp only [Act.put,jb,jn,j1])
           refine bM (i:=3) (v:=?_) rfl (by kernel_rfl) (by kernel_rfl) (by kernel_rfl) (by kernel_rfl) (by decide) (λ_ _ _ h=>h) (P _ a2.o) (k8 ⟨by rfl,?_⟩) ?_;rotate_left
           · intro w' h;obtain ⟨L,V⟩:=h;go_simp;(first |done|rfl)
           (try simp only [Act.put,jb,jn,j1])
           refine bM (i:=4) (v:=?_) rfl (by kernel_rfl) (by kernel_rfl) (by kernel_rfl) (by kernel_rfl) (by decide) (λ_ _ _ h=>h) (P _ a2.o) (k8 ⟨by rfl,?_⟩) ?_;rotate_left
           · intro w' h;obtain ⟨L,V⟩:=h;go_simp;(first |done|rfl)
           (try simp only [Act.put,jb,jn,j1])
           refine bM (i:=5) (v:=?_) rfl (by kernel_rfl) (by kernel_rfl) (by kernel_rfl) (by kernel_rfl) (by decide) (λ_ _ _ h=>h) (P _ a2.o) (k8 ⟨by rfl,?_⟩) ?_;rotate_left
           · intro w' h;obtain ⟨L,V⟩:=h;go_simp;(first |done|rfl)
           (try simp only [Act.put,jb,jn,j1])
           refine bM (i:=6) (v:=?_) rfl (by kernel_rfl) (by kernel_rfl) (by kernel_rfl) (by kernel_rfl) (by decide) (λ_ _ _ h=>h) (P _ a2.o) (k8 ⟨by rfl,?_⟩) ?_;rotate_left
           · intro w' h;obtain ⟨L,V⟩:=h;go_simp;(first |done|rfl)
           (try simp only [Act.put,jb,jn,j1])
           refine bM (i:=7) (v:=?_) rfl (by kernel_rfl) (by kernel_rfl) (by kernel_rfl) (by kernel_rfl) (by decide) (λ_ _ _ h=>h) (P _ a2.o) (k8 ⟨by rfl,?_⟩) ?_;rotate_left
           · intro w' h;obtain ⟨L,V⟩:=h;go_simp;(first |done|rfl)
           (try simp only [Act.put,jb,jn,j1])
           refine bM (i:=8) (v:=?_) rfl (by kernel_rfl) (by kernel_rfl) (by kernel_rfl) (by kernel_rfl) (by decide) (λ_ _ _ h=>h) (P _ a2.o) (k8 ⟨by rfl,?_⟩) ?_;rotate_left
           · intro w' h;obtain ⟨L,V⟩:=h;go_simp;(first |done|rfl)
           (try simp only [Act.put,jb,jn,j1])
           refine bM (i:=9) (v:=?_) rfl (by kernel_rfl) (by kernel_rfl) (by kernel_rfl) (by kernel_rfl) (by decide) (λ_ _ _ h=>h) (P _ a2.o) (k8 ⟨by rfl,?_⟩) ?_;rotate_left
           · intro w' h;obtain ⟨L,V⟩:=h;go_simp;(first |done|rfl)
           (try simp only [Act.put,jb,jn,j1])
           refine Dp 10 λK M=>?_;go_simp;refine M _ _ (λ_=>P _ bO.o) ?_;clear M K;refine Dp 11 λK M=>?_;refine wp_append_lies _ _ _ 121 rfl (w.heap.size+2+2) 120 i0 (.agg #[J h1 0, .string ⟨#[]⟩]) 2 24 underlying121 HI.o b7.o b8.o b9.o rfl (by omega) (fn z f.subs.length A) f.subs.length _ (by rfl) (cA cq.o (λg' a4=>bO.o.block g' (cq.o.lt g' a4).2)) ⟨w7.heap.size,0,Y⟩ 1 1 [J h1 (IntKind.u8.wrap q),S T] (by rfl) rfl (uh w7 _ _ _) (by simp [k9]) (by omega) (by unfold maxLen;omega) (by omega) (by simp;omega) _ rfl ?_;intro g9 i2 F av N hw iv;rw [g8.o] at av;obtain ⟨bv,e9,f9⟩:=em.o ⟨u8I q,T⟩ _ F _ (by omega) (by omega) (by rw [<- cx.o];rfl) bO.o av (by rw [<- al];exact N) (hw.elim (λh=> .inl (h.symm.trans al)) (λh=> .inr (congrArg X h)));have cy:F.cell? ⟨w.heap.size+1,1,Y⟩=X (J U q):=by rw [k0 (w:=(w7.alloc (j3 #[J h1 (IntKind.u8.wrap q),S T] 120)).drew) (N.block _ (by simp;omega) (by rw [al];intro e;injection e with e;simp at e;omega))];exact (P.o _ bO.o).2
           have cp:=Z bv;clear av N bv;refine M _ _ (λ_=>⟨e9,cy⟩) ?_;clear M K;refine Dp 12 λK M=>?_;go_simp;refine M _ _ (λ_=>⟨e9,cy⟩) ?_;clear M K;refine Dp 13 λK M=>?_;go_simp;refine M _ _ (λ_=>⟨e9,cy⟩) ?_;clear M K;refine Dl 14 ?_;go_wp2_with fail
           go_meet;exact cp.o
         · obtain ⟨i0,hi,a8,a9,ac⟩:=lm zv;have HI:=Z hi;have b7:=Z a8;have b8:=Z a9;have b9:=Z ac;clear hi a8 a9 ac;have e7:=cK f;go_wp2_with (at_builtin;refine wpList_append_own_at _ rfl _ _ 121 rfl (w.heap.size+2+2) 120 i0 (.agg #[J h1 0, .string ⟨#[]⟩]) 2 24 underlying121 HI.o b7.o b8.o b9.o rfl (by omega) (fn z f.subs.length A) f.subs.length _ rfl (cq.o.alloc _) ⟨w7.heap.size,0,Y⟩ 1 1 [J h1 122,S T] rfl rfl (uh _ _ _ _) (by simp [k9]) (by unfold maxLen;omega) (by omega) (by simp;omega) ?_;intro v' F av N _ a1;obtain ⟨g0,g1,rfl⟩:=bF av;obtain ⟨bv,g9,f9⟩:=em.o ⟨122,T⟩ _ F _ (by omega) (by omega) (by rw [<- cx.o];rfl) (aO w7 _) av (by rw [<- al];exact N) (by rw [<- al];exact a1);have cp:=Z bv;clear av N a1 bv)
           go_meet;exact cp.o
        case rest=>
         obtain ⟨hO,hP,a3,gQ⟩:=hcut;generalize wc=F at *;have z0:=a3.z0;have z1:=a3.z1;have z2:=a3.z2;have y0:=a3.y0;have y1:=a3.y1;have y2:=a3.y2;have d0:=a3.c0;have d1:=a3.c1;have d2:=a3.c2;clear c0 c1 c2 x0 x1 x2 t0 t1 t2 t3;go_wp2_with fail
         all_goals
          refine bodyPost_ret (v:= .agg #[J h1 R.kind.toNat,J h1 R.level.toNat,fn hO R.fields.length hP]) (by simp only [results,Tryz.results84];go_simp) rfl ?_
          exact tH b6.o (by omega) a3.o gQ.o _ rfl
end
section
open Go.RowKit Go.Maps Go.Shelf
def wJ (q:Six):Array ka:= #[J U q.a,J U q.b,J U q.c,J U q.d,J U q.e,J U q.f]
def yl (x:dE):Array ka:= #[J U x.k,J U x.a,J U x.b,J U x.v,J U x.q.a,J U x.q.b,J U x.q.c,J U x.q.d,J U x.q.e,J U x.q.f]
structure ym (q:Six):Prop where
 a:i64B q.a
 b:i64B q.b
 c:i64B q.c
 d:i64B q.d
 e:i64B q.e
 f:i64B q.f
structure yp (x:dE):Prop where
 k:i64B x.k
 a:i64B x.a
 b:i64B x.b
 v:i64B x.v
 q:ym x.q
theorem wk (n:Int):ym (workQ n):=by
 unfold workQ;repeat' split
 all_goals exact ⟨by unfold i64B;decide,by unfold i64B;decide,by unfold i64B;decide,by unfold i64B;decide,by unfold i64B;decide,by unfold i64B;decide⟩
structure SdI (B:Nat) (w0 wr:j4) (x:dE) (q:Six):Prop where
 b:Below B w0 wr
 arg:wr.heap[B]? =some (.cells (yl x) 47 (0,0))
 res:wr.heap[B+1]? =some (.cells #[.int .i64 0, .int .i64 0, .int .i64 0, .int .u8 0, .int .u8 0, .slice none 0 0] 64 (0,0))
 six:wr.heap[B+2]? =some (.cells (wJ q) 45 (0,0))
theorem SdI.keep {B:Nat} {c wr W:j4} {x:dE} {q:Six} (h:SdI B c wr x q) (a:Bw wr W):SdI B c W x q:=
 ⟨h.b.trans (a.mono (by have:=ae h.arg;omega)),(a.block _ (ae h.arg)).trans h.arg,(a.block _ (ae h.res)).trans h.res,(a.block _ (ae h.six)).trans h.six⟩
theorem yx {w:j4} {b:Nat} {f g i j k l:ka} {t:TypeId} (h:w.heap[b]? =X (gs #[f,g,i,j,k,l] t (0,0))) (a c1 c2 c d e:ka):
 ((((((w.setCell ⟨b,0,Y⟩ a).setCell ⟨b,1,Y⟩ c1).setCell ⟨b,2,Y⟩ c2).setCell ⟨b,3,Y⟩ c).setCell ⟨b,4,Y⟩ d).setCell ⟨b,5,Y⟩ e).heap[b]? =X (gs #[a,c1,c2,c,d,e] t (0,0)):=
 am (am (am (am (am (am h 0 a) 1 c1) 2 c2) 3 c) 4 d) 5 e
theorem SdI.put {B:Nat} {j wr:j4} {x:dE} {q:Six} (h:SdI B j wr x q) (p:Six):
 SdI B j ((((((wr.setCell ⟨B+2,0,Y⟩ (J U p.a)).setCell ⟨B+2,1,Y⟩ (J U p.b)).setCell ⟨B+2,2,Y⟩ (J U p.c)).setCell ⟨B+2,3,Y⟩ (J U p.d)).setCell ⟨B+2,4,Y⟩ (J U p.e)).setCell ⟨B+2,5,Y⟩ (J U p.f)) x p:=by
 have i:∀k,k≠B+2->((((((wr.setCell ⟨B+2,0,Y⟩ (J U p.a)).setCell ⟨B+2,1,Y⟩ (J U p.b)).setCell ⟨B+2,2,Y⟩ (J U p.c)).setCell ⟨B+2,3,Y⟩ (J U p.d)).setCell ⟨B+2,4,Y⟩ (J U p.e)).setCell ⟨B+2,5,Y⟩ (J U p.f)).heap[k]? =wr.heap[k]? :=λk g=>by rw [ja _ _ _ _ g,ja _ _ _ _ g,ja _ _ _ _ g,ja _ _ _ _ g,ja _ _ _ _ g,ja _ _ _ _ g]
 refine ⟨?_,(i B (by omega)).trans h.arg,(i (B+1) (by omega)).trans h.res,yx h.six _ _ _ _ _ _⟩;exact (((((h.b.setCell (p:=⟨B+2,0,Y⟩) (by simp) _).setCell (p:=⟨B+2,1,Y⟩) (by simp) _).setCell (p:=⟨B+2,2,Y⟩) (by simp) _).setCell (p:=⟨B+2,3,Y⟩) (by simp) _).setCell (p:=⟨B+2,4,Y⟩) (by simp) _).setCell (p:=⟨B+2,5,Y⟩) (by simp) _
theorem fF {l:List Bs} {N:Nat} (h:∀x∈l,x.length<=N) (n:Int):(pick l n).length<=N:=by
 unfold pick;rw [kv];cases hx:l[(n.emod l.length).toNat]? with
 |none=>simp
 |some x=>exact h x (List.mem_of_getElem? hx)
theorem ir (q:Six):(madeR q).fields.length<=7/\∀f∈(madeR q).fields,(fieldBytes f).length<=200:=by
 have h:=fF (l:=yearsL) (N:=20) (by decide);have j:=fF (l:=booksL) (N:=30) (by decide);have m:=fF (l:=namesL) (N:=20) (by decide);have n:=fF (l:=titlesL) (N:=20) (by decide);have k:=fF (l:=inds3L) (N:=2) (by decide);have g:(q.c.emod 3).toNat<=2:=by have g:q.c.emod 3<3:=k2 _ (by omega);omega
 unfold madeR;dsimp only;constructor
 · have o:(made008 q.b).length<=1:=by unfold made008;split<;>simp
   have p:(fI q.c).length<=2:=by unfold fI;rw [List.length_map,List.length_range];exact g
   have r:(et q.d).length<=1:=by unfold et;split<;>simp
   have s:(ep q.e).length<=1:=by unfold ep;split<;>simp
   have t:(eo q.f).length<=1:=by unfold eo;split<;>simp
   simp only [k1];omega
 · intro f a;simp only [List.mem_append] at a;rcases a with (((a|a)|a)|a)|a
   · unfold made008 at a;split at a
     · rw [ky] at a;subst a;have:=h q.b;simp [fieldBytes];omega
     · cases a
   · unfold fI at a;obtain ⟨i,_,rfl⟩:=List.mem_map.1 a;have:=j (q.c.tdiv 3+i);simp [fieldBytes,fR,aR];omega
   · unfold et at a;split at a
     · rw [ky] at a;subst a;have:=m (q.d.tdiv 4);simp [fieldBytes,aR];omega
     · cases a
   · unfold ep at a;split at a
     · rw [ky] at a;subst a;have:=n (q.e.tdiv 5);have:=k q.e;simp [fieldBytes,aR];omega
     · cases a
   · unfold eo at a;split at a
     · rw [ky] at a;subst a;have:=h q.f;simp [fieldBytes,aR];omega
     · cases a
theorem yC (k a b v n o r s u x:Int) (hx:yp ⟨k,a,b,v,⟨n,o,r,s,u,x⟩⟩) (w:j4):
 ld prog 45 #[.agg #[J U k,J U a,J U b,J U v,J U n,J U o,J U r,J U s,J U u,J U x]] w λe w'=>∃(va:Option Addr) (vc:Nat),
  e=hk (kf (recI a) (v.emod 6) (saidR ⟨k,a,b,v,⟨n,o,r,s,u,x⟩⟩) (.slice va (saidR ⟨k,a,b,v,⟨n,o,r,s,u,x⟩⟩).fields.length vc))/\
  ai w.heap.size w'.heap.size w' (.slice va (saidR ⟨k,a,b,v,⟨n,o,r,s,u,x⟩⟩).fields.length vc) (saidR ⟨k,a,b,v,⟨n,o,r,s,u,x⟩⟩).fields/\Bw w w':=by
 obtain ⟨a3,hX⟩:∃a3:dE,(⟨k,a,b,v,⟨n,o,r,s,u,x⟩⟩:dE)=a3:=⟨_,rfl⟩;obtain ⟨R,hR⟩:=Qe (saidR ⟨k,a,b,v,⟨n,o,r,s,u,x⟩⟩);obtain ⟨p,hp⟩:=Qe ((if b.tmod 3≠0 then workQ b else ⟨n,o,r,s,u,x⟩));have d5:ym p:=by rw [<- hp];split;exact wk b;exact hx.q
 have bO:Hid (R=if k.emod 8=4/\b.tmod 5=0 then spoilR (madeR p) (a.emod 8) b v else madeR p):=by unfold Hid;rw [<- hR, <- hp];rfl
 obtain ⟨mk,cg,lk⟩:=cD k 8 (by omega);obtain ⟨ma,ce,la⟩:=cD a 8 (by omega);obtain ⟨mb,Q,lb⟩:=cD b 4 (by omega);have bv:Hid (∀W,ld prog 24 #[J U k,J U 8] W λe w'=>e=hk (J U (mk:Int))/\W=w'):=dg k 8 mk (by omega) (by omega) cg;have da:Hid (∀W,ld prog 24 #[J U a,J U 8] W λe w'=>e=hk (J U (ma:Int))/\W=w'):=dg a 8 ma (by omega) (by omega) ce;have b1:Hid (∀W,ld prog 24 #[J U b,J U 4] W λe w'=>e=hk (J U (mb:Int))/\W=w'):=dg b 4 mb (by omega) (by omega) Q;have dc:Hid (∀W,ld prog 24 #[J U v,J U 6] W λe w'=>e=hk (J U (v.emod 6))/\W=w'):=λW=>jy v 6 W (by omega) (by omega);have ds:Hid (b.emod 4=mb):=Q;have dx:Hid (k.emod 8=mk):=cg;have dr:Hid (a.emod 8=ma):=ce;have HP:=Z hp;have bA:=Z d5;obtain ⟨B,ay⟩:=Qe ((w.alloc (gs #[J U k,J U a,J U b,J U v,J U n,J U o,J U r,J U s,J U u,J U x] 47)).alloc (gs #[J U 0,J U 0,J U 0,J h1 0,J h1 0,fn Y 0 0] 64));have cz:Bw w B:=by rw [<- ay];exact ((kc _ w).alloc (kn _) _).alloc (by simp) _
 have hA:B.heap[w.heap.size]? =X (gs #[J U k,J U a,J U b,J U v,J U n,J U o,J U r,J U s,J U u,J U x] 47 (0,0)):=by rw [<- ay,kk _ _ _ (by simp)];exact kb w _
 have hB:B.heap[w.heap.size+1]? =X (gs #[J U 0,J U 0,J U 0,J h1 0,J h1 0,fn Y 0 0] 64 (0,0)):=by rw [<- ay];have:=kb (w.alloc (gs #[J U k,J U a,J U b,J U v,J U n,J U o,J U r,J U s,J U u,J U x] 47)) (gs #[J U 0,J U 0,J U 0,J h1 0,J h1 0,fn Y 0 0] 64);rwa [World.size_alloc] at this
 have cq:B.heap.size=w.heap.size+2:=by rw [<- ay];simp
 obtain ⟨V,aS⟩:=Qe (B.alloc (gs #[J U n,J U o,J U r,J U s,J U u,J U x] 45));have bY:Hid (SdI w.heap.size w V a3 ⟨n,o,r,s,u,x⟩):=by
  have ho:∀k,k<B.heap.size->V.heap[k]? =B.heap[k]? :=λk F=>by rw [<- aS];exact kk _ _ _ F
  refine ⟨by rw [<- aS];exact cz.alloc (by omega) _,?_,(ho _ (by omega)).trans hB,?_⟩
  · rw [<- hX];exact (ho _ (by omega)).trans hA
  · rw [<- cq, <- aS];exact kb B _
 have e4:=Z ay;have e5:=Z aS;have HA:=Z hA;have e6:=Z cq;have c7:=Z hX;have ej:=Z hx;rw [hR];have b8:=λW:j4=>ow a W hx.a;obtain ⟨⟨r1,r2⟩,d6⟩:∃rr,recI a=rr:=⟨_,rfl⟩;rw [d6] at b8 ⊢;dsimp only [recK] at b8;have dz:=Z b8;clear b8 d6;clear ay aS hA hB cq cz hX hx hR hp cg ce Q d5;unfold kf;go_enter func45,ntmps45;have a4:B.cell? ⟨w.heap.size,4,Y⟩=X (J U n):=(aa HA.o 4).trans rfl;have a5:B.cell? ⟨w.heap.size,5,Y⟩=X (J U o):=(aa HA.o 5).trans rfl;have a6:B.cell? ⟨w.heap.size,6,Y⟩=X (J U r):=(aa HA.o 6).trans rfl;have a7:B.cell? ⟨w.heap.size,7,Y⟩=X (J U s):=(aa HA.o 7).trans rfl;have a8:B.cell? ⟨w.heap.size,8,Y⟩=X (J U u):=(aa HA.o 8).trans rfl;have a9:B.cell? ⟨w.heap.size,9,Y⟩=X (J U x):=(aa HA.o 9).trans rfl;go_upto_region 1 with fail
 rw [e4.o];go_upto_region 2 with fail
 rw [e5.o];clear a4 a5 a6 a7 a8 a9;rw [e6.o];have bs:Hid (∀(W:j4) (q':Six),SdI w.heap.size w W a3 q'->W.cell? ⟨w.heap.size,0,Y⟩=X (J U k)/\W.cell? ⟨w.heap.size,1,Y⟩=X (J U a)/\W.cell? ⟨w.heap.size,2,Y⟩=X (J U b)/\W.cell? ⟨w.heap.size,3,Y⟩=X (J U v)):=λW q' h=>by have l:=h.arg;rw [<- c7.o] at l;exact ⟨(aa l 0).trans rfl,(aa l 1).trans rfl,(aa l 2).trans rfl,(aa l 3).trans rfl⟩
 obtain ⟨_,_,x2,_⟩:=bs V _ bY.o;go_upto_if 11 with fail
 clear x2;obtain ⟨G,H,I,L,N,O⟩:=p;go_cut [] (λwx=>Hid (SdI w.heap.size w wx a3 ⟨G,H,I,L,N,O⟩))
 case first=>
  by_cases hb3:b.tmod 3=0
  · have e8:(⟨G,H,I,L,N,O⟩:Six)=⟨n,o,r,s,u,x⟩:=by rw [<- HP.o,if_neg (by simp [hb3])]
    go_wp2_with fail
    go_meet;rw [e8];exact bY.o
  · have dy:Hid ((⟨G,H,I,L,N,O⟩:Six)=workQ b):=by unfold Hid;rw [<- HP.o,if_pos hb3]
    go_upto_region 3 with fail
    obtain ⟨q4,cl⟩:=Qe V.heap.size;refine wp_region_lit ?_;refine kz rfl 45 _ rfl _ rfl #[J U 0,J U 2,J U 1,J U 5,J U 6,J U 0] (by kernel_rfl) ?_;go_simp;refine kz rfl 45 _ rfl _ rfl #[J U 0,J U 2,J U 0,J U 5,J U 6,J U 1] (by kernel_rfl) ?_;go_simp;refine kz rfl 45 _ rfl _ rfl #[J U 0,J U 4,J U 4,J U 9,J U 21,J U 1] (by kernel_rfl) ?_;go_simp;refine kz rfl 45 _ rfl _ rfl #[J U 0,J U 1,J U 0,J U 9,J U 21,J U 2] (by kernel_rfl) ?_;go_simp;refine kz rfl 159 _ rfl _ rfl #[J U 0,J U 2,J U 1,J U 5,J U 6,J U 0,J U 0,J U 2,J U 0,J U 5,J U 6,J U 1,J U 0,J U 4,J U 4,J U 9,J U 21,J U 1,J U 0,J U 1,J U 0,J U 9,J U 21,J U 2] (by kernel_rfl) ?_;go_simp;refine Great.wpList_allocTo rfl _ rfl (hr (X ⟨V.heap.size,0,Y⟩)) (gs #[J U 0,J U 0,J U 0,J U 0,J U 0,J U 0,J U 0,J U 0,J U 0,J U 0,J U 0,J U 0,J U 0,J U 0,J U 0,J U 0,J U 0,J U 0,J U 0,J U 0,J U 0,J U 0,J U 0,J U 0] 159) (by kernel_rfl) ?_;rw [cl];obtain ⟨aT,bk⟩:=Qe (V.alloc (gs #[J U 0,J U 0,J U 0,J U 0,J U 0,J U 0,J U 0,J U 0,J U 0,J U 0,J U 0,J U 0,J U 0,J U 0,J U 0,J U 0,J U 0,J U 0,J U 0,J U 0,J U 0,J U 0,J U 0,J U 0] 159));have c9:aT.heap[q4]? =X (gs #[J U 0,J U 0,J U 0,J U 0,J U 0,J U 0,J U 0,J U 0,J U 0,J U 0,J U 0,J U 0,J U 0,J U 0,J U 0,J U 0,J U 0,J U 0,J U 0,J U 0,J U 0,J U 0,J U 0,J U 0] 159 (0,0)):=by rw [<- bk, <- cl];exact kb V _
    rw [bk];go_simp;refine wpList_store_rowTo rfl 159 _ _ rfl rfl q4 #[J U 0,J U 2,J U 1,J U 5,J U 6,J U 0,J U 0,J U 2,J U 0,J U 5,J U 6,J U 1,J U 0,J U 4,J U 4,J U 9,J U 21,J U 1,J U 0,J U 1,J U 0,J U 9,J U 21,J U 2] rfl rfl 159 _ c9 (by kernel_rfl) rfl (by kernel_rfl) ?_;obtain ⟨D,bc⟩:=Qe (aT.setRow q4 #[J U 0,J U 2,J U 1,J U 5,J U 6,J U 0,J U 0,J U 2,J U 0,J U 5,J U 6,J U 1,J U 0,J U 4,J U 4,J U 9,J U 21,J U 1,J U 0,J U 1,J U 0,J U 9,J U 21,J U 2]);have cy:D.heap[q4]? =X (gs #[J U 0,J U 2,J U 1,J U 5,J U 6,J U 0,J U 0,J U 2,J U 0,J U 5,J U 6,J U 1,J U 0,J U 4,J U 4,J U 9,J U 21,J U 1,J U 0,J U 1,J U 0,J U 9,J U 21,J U 2] 159 (0,0)):=by rw [<- bc];exact setRow_heap aT q4 _ _ 159 (0,0) c9
    have cP:Bw V D:=by
     have l:Bw V aT:=by rw [<- bk];exact (kc _ V).alloc (kn _) _
     rw [<- bc];exact l.trans ⟨setRow_os _ _ _,setRow_tape _ _ _,setRow_output _ _ _,Nat.le_of_eq (setRow_size _ _ _).symm,λk F=>setRow_other aT q4 k _ (by omega)⟩
    have y:Hid (SdI w.heap.size w D a3 ⟨n,o,r,s,u,x⟩):=bY.keep cP;rw [bc];clear cP c9 bk;go_upto_region 4 with fail
    clear cl bc;obtain ⟨_,_,x2,_⟩:=bs D _ y.o;have y0:D.cell? ⟨w.heap.size+2,0,Y⟩=X (J U n):=(aa y.six 0).trans rfl;have y1:D.cell? ⟨w.heap.size+2,1,Y⟩=X (J U o):=(aa y.six 1).trans rfl;have y2:D.cell? ⟨w.heap.size+2,2,Y⟩=X (J U r):=(aa y.six 2).trans rfl;have y3:D.cell? ⟨w.heap.size+2,3,Y⟩=X (J U s):=(aa y.six 3).trans rfl;have y4:D.cell? ⟨w.heap.size+2,4,Y⟩=X (J U u):=(aa y.six 4).trans rfl;have y5:D.cell? ⟨w.heap.size+2,5,Y⟩=X (J U x):=(aa y.six 5).trans rfl;have z0:=ab y.six 0;have z1:=ab y.six 1;have z2:=ab y.six 2;have z3:=ab y.six 3;have z4:=ab y.six 4;have z5:=ab y.six 5;have j:Hid (∀i,D.cell? ⟨q4,i,Y⟩=_):=λi=>aa cy i;have ac:=dy.o;have Q:=ds.o;clear cy;obtain rfl|rfl|rfl|rfl:mb=0∨mb=1∨mb=2∨mb=3:=by omega
    · have n0:=(j 0).trans rfl;have n1:=(j 1).trans rfl;have n2:=(j 2).trans rfl;have n3:=(j 3).trans rfl;have n4:=(j 4).trans rfl;have n5:=(j 5).trans rfl;have ad:Hid ((⟨G,H,I,L,N,O⟩:Six)=⟨0,2,1,5,6,0⟩):=by unfold Hid;rw [ac];unfold workQ;rw [Q];rfl
      clear ac Q;go_wp2_with (go_at_call 24;((with_reducible refine j2 (b1.o _) ?_);rintro e w5 ⟨rfl,rfl⟩))
      go_meet;rw [ad.o];exact y.put ⟨0,2,1,5,6,0⟩
    · have n0:=(j 6).trans rfl;have n1:=(j 7).trans rfl;have n2:=(j 8).trans rfl;have n3:=(j 9).trans rfl;have n4:=(j 10).trans rfl;have n5:=(j 11).trans rfl;have ad:Hid ((⟨G,H,I,L,N,O⟩:Six)=⟨0,2,0,5,6,1⟩):=by unfold Hid;rw [ac];unfold workQ;rw [Q];rfl
      clear ac Q;go_wp2_with (go_at_call 24;((with_reducible refine j2 (b1.o _) ?_);rintro e w5 ⟨rfl,rfl⟩))
      go_meet;rw [ad.o];exact y.put ⟨0,2,0,5,6,1⟩
    · have n0:=(j 12).trans rfl;have n1:=(j 13).trans rfl;have n2:=(j 14).trans rfl;have n3:=(j 15).trans rfl;have n4:=(j 16).trans rfl;have n5:=(j 17).trans rfl;have ad:Hid ((⟨G,H,I,L,N,O⟩:Six)=⟨0,4,4,9,21,1⟩):=by unfold Hid;rw [ac];unfold workQ;rw [Q];rfl
      clear ac Q;go_wp2_with (go_at_call 24;((with_reducible refine j2 (b1.o _) ?_);rintro e w5 ⟨rfl,rfl⟩))
      go_meet;rw [ad.o];exact y.put ⟨0,4,4,9,21,1⟩
    · have n0:=(j 18).trans rfl;have n1:=(j 19).trans rfl;have n2:=(j 20).trans rfl;have n3:=(j 21).trans rfl;have n4:=(j 22).trans rfl;have n5:=(j 23).trans rfl;have ad:Hid ((⟨G,H,I,L,N,O⟩:Six)=⟨0,1,0,9,21,2⟩):=by unfold Hid;rw [ac];unfold workQ;rw [Q];rfl
      clear ac Q;go_wp2_with (go_at_call 24;((with_reducible refine j2 (b1.o _) ?_);rintro e w5 ⟨rfl,rfl⟩))
      go_meet;rw [ad.o];exact y.put ⟨0,1,0,9,21,2⟩
 case rest=>
  have HS:=hcut;clear hcut;have c0:wc.cell? ⟨w.heap.size+2,0,Y⟩=X (J U G):=(aa HS.six 0).trans rfl;have c1:wc.cell? ⟨w.heap.size+2,1,Y⟩=X (J U H):=(aa HS.six 1).trans rfl;have c2:wc.cell? ⟨w.heap.size+2,2,Y⟩=X (J U I):=(aa HS.six 2).trans rfl;have c3:wc.cell? ⟨w.heap.size+2,3,Y⟩=X (J U L):=(aa HS.six 3).trans rfl;have c4:wc.cell? ⟨w.heap.size+2,4,Y⟩=X (J U N):=(aa HS.six 4).trans rfl;have c5:wc.cell? ⟨w.heap.size+2,5,Y⟩=X (J U O):=(aa HS.six 5).trans rfl;have b6:=yX G H I L N O bA.c bA.d bA.e wc;obtain ⟨M,hM⟩:=Qe (madeR ⟨G,H,I,L,N,O⟩);have b7:=ir ⟨G,H,I,L,N,O⟩;have d4:M.level=109:=by rw [<- hM];rfl
  rw [hM] at b6 b7 bO;obtain ⟨kd,lv,P⟩:=M;dsimp only at b6 b7 d4;subst d4;have cu:=Z b6;have cv:=Z b7;clear b6 b7 hM;go_upto_region 6 with (go_at_call 83;((with_reducible refine j2 cu.o ?_);rintro e w5 ⟨va,vc,rfl,d3,cQ⟩;have cs:=Z d3;have b0:=Z cQ;clear d3 cQ))
  obtain ⟨T,hT⟩:=Qe w5.heap.size;obtain ⟨g,aC⟩:=Qe (w5.alloc (gs #[J h1 kd.toNat,J h1 109,fn va P.length vc] 62));have cc:g.heap[T]? =X (gs #[J h1 kd.toNat,J h1 109,fn va P.length vc] 62 (0,0)):=by rw [<- aC, <- hT];exact kb w5 _
  have d0:Bw wc g:=by rw [<- aC];exact b0.o.alloc b0.o.size _
  have a2:Hid (SdI w.heap.size w g a3 ⟨G,H,I,L,N,O⟩):=HS.keep d0;have d8:w.heap.size+3<=wc.heap.size:=by have:=ae HS.o.six;omega
  have bw:Hid (ai (w.heap.size+3) g.heap.size g (fn va P.length vc) P):=by have h:=cs.o.kept (w':=g) (λq _ hq=>by rw [<- aC];exact kk _ _ _ hq);exact h.mono d8 (by rw [<- aC];simp)
  have e3:Hid (w.heap.size+3<=T/\T<g.heap.size/\w.heap.size+3<=g.heap.size):=by have l:=ae HS.six;have m:=b0.size;have z:=ae cc;exact ⟨by omega,z,by omega⟩
  have b3:=Z cc;rw [hT,aC];clear c0 c1 c2 c3 c4 c5 cs d0 aC hT cc HS d8 cu b0;obtain ⟨x0,_,x2,_⟩:=bs g _ a2.o;go_cut [33] (λt wx=>t=hK (decide (mk=4)&&decide (b.tmod 5=0))/\wx=g)
  case first=>
   by_cases h4:mk=4
   · subst h4;by_cases h5:b.tmod 5=0
     · go_wp2_with (go_at_call 24;((with_reducible refine j2 (bv.o _) ?_);rintro e C ⟨rfl,rfl⟩))
       go_meet;exact ⟨by simp [h5],rfl⟩
     · go_wp2_with (go_at_call 24;((with_reducible refine j2 (bv.o _) ?_);rintro e C ⟨rfl,rfl⟩))
       go_meet;exact ⟨by simp [h5],rfl⟩
   · have em:((mk:Int)==4)=false:=by simp;omega
     go_wp2_with (go_at_call 24;((with_reducible refine j2 (bv.o _) ?_);rintro e C ⟨rfl,rfl⟩))
     go_meet;exact ⟨by simp [h4],rfl⟩
  case rest=>
   obtain ⟨rfl,cp⟩:=hcut;have cp:=cp.symm;subst cp;clear x0 x2;have b2:Hid (R=if (decide (mk=4)&&decide (b.tmod 5=0))=true then spoilR ⟨kd,109,P⟩ (ma:Int) b v else ⟨kd,109,P⟩):=by
    unfold Hid;have e1:=bO.o;rw [dx.o,dr.o] at e1;rw [e1];by_cases h4:mk=4/\b.tmod 5=0
    · rw [if_pos ⟨by omega,h4.2⟩,if_pos (by simp [h4.1,h4.2])]
    · rw [if_neg (by intro h;exact h4 ⟨by omega,h.2⟩),if_neg (by simpa using h4)]
   obtain ⟨sp,d7⟩:=Qe ((decide (mk=4)&&decide (b.tmod 5=0)));rw [d7] at b2 ⊢;clear d7 bO;go_upto_if 33 with fail
   go_cut [] (λwx=>∃(al:Option Addr) (ao:Nat),Hid (SdI w.heap.size w wx a3 ⟨G,H,I,L,N,O⟩)/\Hid (wx.heap[T]? =X (gs #[J h1 R.kind.toNat,J h1 R.level.toNat,fn al R.fields.length ao] 62 (0,0)))/\Hid (ai (w.heap.size+3) wx.heap.size wx (fn al R.fields.length ao) R.fields))
   case first=>
    cases sp
    · have bB:Hid (R=⟨kd,109,P⟩):=by unfold Hid;rw [b2.o,if_neg (by decide)]
      go_wp2_with fail
      go_meet;rw [bB.o];exact ⟨va,vc,a2,b3,bw⟩
    · have bB:Hid (R=spoilR ⟨kd,109,P⟩ (ma:Int) b v):=by unfold Hid;rw [b2.o,if_pos rfl]
      have av:g.drew.heap[w.heap.size]? =g.heap[w.heap.size]? /\g.drew.heap[T]? =g.heap[T]? :=⟨rfl,rfl⟩;have cm:=rZ kd 109 P va vc ma (by omega) b v g.drew (bw.o.mono (Nat.zero_le _) (kn _)) (by have:=cv.o.1;omega) (λf hf=>k4 (cv.o.2 f hf) (by omega));rw [<- bB.o] at cm;have e0:=Z (show ld prog 84 #[.agg #[J h1 kd.toNat,J h1 109,fn va P.length vc], .agg #[J U (ma:Int),J U b,J U v]] g.drew _ from cm);clear cm;have bt:Hid (∀W:j4,(W.heap[w.heap.size]? =g.heap[w.heap.size]? /\W.heap[T]? =g.heap[T]?)->(W.cell? ⟨T,0,Y⟩=X (J h1 kd.toNat)/\W.cell? ⟨T,1,Y⟩=X (J h1 109)/\W.cell? ⟨T,2,Y⟩=X (fn va P.length vc))/\W.cell? ⟨w.heap.size,1,Y⟩=X (J U a)/\W.cell? ⟨w.heap.size,2,Y⟩=X (J U b)/\W.cell? ⟨w.heap.size,3,Y⟩=X (J U v)):=λW h=>by have l:=h.1.trans a2.arg;rw [<- c7.o] at l;have m:=h.2.trans b3.o;exact ⟨⟨(aa m 0).trans rfl,(aa m 1).trans rfl,(aa m 2).trans rfl⟩,(aa l 1).trans rfl,(aa l 2).trans rfl,(aa l 3).trans rfl⟩
      go_wp2_with fail
      refine wT (λW:j4=>W.heap[w.heap.size]? =g.heap[w.heap.size]? /\W.heap[T]? =g.heap[T]?) 10 ?_;refine Qb [0,1,4,6,2,5,7] av bt ?_;refine Dp 3 λK A=>?_;go_simp;go_at_call 24;with_reducible refine j2 (da.o _) ?_
      rintro e C ⟨rfl,rfl⟩;refine A _ _ (λ_=>av) ?_;clear A K;go_simp;refine Qa [8] av ?_
      refine Dp 9 λK A=>?_;go_simp;go_at_call 84;with_reducible refine j2 e0.o ?_
      rintro e C ⟨sb,cb,rfl,b5,d2⟩;have bb:=e3.o;have b9:C.heap[w.heap.size]? =g.heap[w.heap.size]? /\C.heap[T]? =g.heap[T]? :=⟨b5.block _ (by show w.heap.size<g.heap.size;omega),b5.block _ (by show T<g.heap.size;omega)⟩;have dd:=Z d2;have d9:Hid (Bw g C):=(kc _ g).drew.trans b5;clear d2 b5;refine A _ _ (λ_=>b9) ?_;clear A K;go_simp;have m:=b9.2.trans b3.o;have t0:C.cell? ⟨T,0,Y⟩=X (J h1 kd.toNat):=(aa m 0).trans rfl;have t1:C.cell? ⟨T,1,Y⟩=X (J h1 109):=(aa m 1).trans rfl;have t2:C.cell? ⟨T,2,Y⟩=X (fn va P.length vc):=(aa m 2).trans rfl;have z0:=ab m 0;have z1:=ab m 1;have z2:=ab m 2;have e2:=Z m;have eq:=Z b9;clear m b9;refine Dl 10 ?_;go_wp2_with fail
      go_meet;obtain ⟨E,a0⟩:=Qe (((C.setCell ⟨T,0,Y⟩ (J h1 R.kind.toNat)).setCell ⟨T,1,Y⟩ (J h1 R.level.toNat)).setCell ⟨T,2,Y⟩ (fn sb R.fields.length cb));have ch:∀k,k≠T->E.heap[k]? =C.heap[k]? :=λk F=>by rw [<- a0,ja _ _ _ _ F,ja _ _ _ _ F,ja _ _ _ _ F]
      have eg:E.heap.size=C.heap.size:=by rw [<- a0];simp
      have cd:Below (w.heap.size+3) C E:=by rw [<- a0];exact (((kc _ C).setCell (p:=⟨T,0,Y⟩) bb.1 _).setCell (p:=⟨T,1,Y⟩) bb.1 _).setCell (p:=⟨T,2,Y⟩) bb.1 _
      have e7:E.heap[T]? =X (gs #[J h1 R.kind.toNat,J h1 R.level.toNat,fn sb R.fields.length cb] 62 (0,0)):=by rw [<- a0];exact am (am (am e2.o 0 _) 1 _) 2 _
      rw [a0];have b4:Below (w.heap.size+3) g E:=(d9.mono bb.2.2).trans cd;refine ⟨sb,cb,⟨a2.o.b.trans (b4.mono (by omega)),(b4.block _ (by omega)).trans a2.o.arg,(b4.block _ (by omega)).trans a2.o.res,(b4.block _ (by omega)).trans a2.o.six⟩,e7,?_⟩;have h:=dd.o.kept (w':=E) (λq hq _=>ch q (by have:g.heap.size<=q:=hq;omega));exact h.mono (by show w.heap.size+3<=g.heap.size;omega) (by omega)
   case rest=>
    obtain ⟨al,ao,au,cx,dk⟩:=hcut;clear a2 b3 bw b2;have av:Bw wc wc.drew:=(kc _ wc).drew;have bt:Hid (∀W:j4,Bw wc W->(W.cell? ⟨T,0,Y⟩=X (J h1 R.kind.toNat)/\W.cell? ⟨T,1,Y⟩=X (J h1 R.level.toNat)/\W.cell? ⟨T,2,Y⟩=X (fn al R.fields.length ao))/\W.cell? ⟨w.heap.size,1,Y⟩=X (J U a)/\W.cell? ⟨w.heap.size,3,Y⟩=X (J U v)):=λW h=>by have l:=(h.block _ (ae au.arg)).trans au.arg;rw [<- c7.o] at l;have m:=(h.block _ (ae cx.o)).trans cx.o;exact ⟨⟨(aa m 0).trans rfl,(aa m 1).trans rfl,(aa m 2).trans rfl⟩,(aa l 1).trans rfl,(aa l 3).trans rfl⟩
    go_wp2_with fail
    refine wT (λW:j4=>Bw wc W) 8 ?_;refine Qb [0,3,6,1,4] av bt ?_;refine Dp 2 λK A=>?_;go_simp;go_at_call 20;with_reducible refine j2 (dz.o _) ?_
    rintro e w9 ⟨rfl,d1⟩;have ax:Bw wc w9:=av.trans d1;refine A _ _ (λ_=>ax) ?_;clear A K;go_simp;refine Dp 5 λK A=>?_;go_simp;go_at_call 24;with_reducible refine j2 (dc.o _) ?_
    rintro e C ⟨rfl,rfl⟩;refine A _ _ (λ_=>ax) ?_;clear A K;go_simp;refine Qa [7] ax ?_
    have z:=(ax.block _ (ae au.res)).trans au.res;have y0:w9.cell? ⟨w.heap.size+1,0,Y⟩=X (J U 0):=(aa z 0).trans rfl;have y1:w9.cell? ⟨w.heap.size+1,1,Y⟩=X (J U 0):=(aa z 1).trans rfl;have y2:w9.cell? ⟨w.heap.size+1,2,Y⟩=X (J U 0):=(aa z 2).trans rfl;have y3:w9.cell? ⟨w.heap.size+1,3,Y⟩=X (J h1 0):=(aa z 3).trans rfl;have y4:w9.cell? ⟨w.heap.size+1,4,Y⟩=X (J h1 0):=(aa z 4).trans rfl;have y5:w9.cell? ⟨w.heap.size+1,5,Y⟩=X (fn Y 0 0):=(aa z 5).trans rfl;have z0:=ab z 0;have z1:=ab z 1;have z2:=ab z 2;have z3:=ab z 3;have z4:=ab z 4;have z5:=ab z 5;have c6:=Z ax;clear z ax d1;refine Dl 8 ?_;go_wp2_with fail
    refine bodyPost_ret (v:= .agg #[J U r1,J U r2,J U (v.emod 6),J h1 R.kind.toNat,J h1 R.level.toNat,fn al R.fields.length ao]) (by rw [cS rfl];go_simp) rfl ?_;obtain ⟨E,a0⟩:=Qe ((((((w9.setCell ⟨w.heap.size+1,0,Y⟩ (J U r1)).setCell ⟨w.heap.size+1,1,Y⟩ (J U r2)).setCell ⟨w.heap.size+1,2,Y⟩ (J U (v.emod 6))).setCell ⟨w.heap.size+1,3,Y⟩ (J h1 R.kind.toNat)).setCell ⟨w.heap.size+1,4,Y⟩ (J h1 R.level.toNat)).setCell ⟨w.heap.size+1,5,Y⟩ (fn al R.fields.length ao));have ch:∀k,k≠w.heap.size+1->E.heap[k]? =w9.heap[k]? :=λk F=>by rw [<- a0,ja _ _ _ _ F,ja _ _ _ _ F,ja _ _ _ _ F,ja _ _ _ _ F,ja _ _ _ _ F,ja _ _ _ _ F]
    have eg:E.heap.size=w9.heap.size:=by rw [<- a0];simp
    have cd:Below w.heap.size w9 E:=by rw [<- a0];exact ((((((kc _ w9).setCell (p:=⟨w.heap.size+1,0,Y⟩) (by simp) _).setCell (p:=⟨w.heap.size+1,1,Y⟩) (by simp) _).setCell (p:=⟨w.heap.size+1,2,Y⟩) (by simp) _).setCell (p:=⟨w.heap.size+1,3,Y⟩) (by simp) _).setCell (p:=⟨w.heap.size+1,4,Y⟩) (by simp) _).setCell (p:=⟨w.heap.size+1,5,Y⟩) (by simp) _
    rw [a0];refine ⟨al,ao,rfl,?_,au.o.b.trans ((c6.o.mono (by have:=au.o.b.size;omega)).trans cd)⟩;have h:=dk.o.kept (w':=E) (λq hq e9=>(ch q (by omega)).trans (c6.o.block q e9));exact h.mono (by omega) (by have:=c6.o.size;omega)
end
end Go.Proofs.YtjcimanddakkaaaGreatDoor
