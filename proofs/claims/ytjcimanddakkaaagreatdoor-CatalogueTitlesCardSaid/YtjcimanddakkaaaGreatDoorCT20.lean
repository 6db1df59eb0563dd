/- Lemmas. -/
import Derived.Test.YtjcimanddakkaaaGreatDoorCT9
set_option maxRecDepth 100000
set_option maxHeartbeats 8000000
namespace Go.Proofs.YtjcimanddakkaaaGreatDoor
open _root_.Option renaming some→X,none→Y
open Go.Obj renaming cells→a0
open Go.Value renaming bool→a1,int→J,slice→a3
open Go.Ending renaming returned→a2
open Go.IntKind renaming i64→U
open Go.Lib renaming hid→Z
open Tryz
open Go.Calls renaming mono→aa
open _root_.List renaming eq_nil_of_length_eq_zero→ad,take_of_length_le→au
open Go renaming rounds_succ→al,wp_loop_rounds→ax
open Go.World.ownsRow renaming form→ao
open Go.World renaming alloc_heap_new→av
section
open Go.RowKit Go.Maps Go.Shelf
theorem rM(b:Nat)(n x y:Int)(p q:Bool)(w:World)(h:w.heap[b]?=X (a0 #[n] 3 (0,0)))(hn: -1000<=n/\n<=1000)(c: -1000<=x/\x<=1000)(d: -1000<=y/\y<=1000):
 Calls prog 188 #[a1 p,a1 q,x,y,.pointer b] w λe w'=>e=a2 (.tuple #[])/\w'.heap[b]?=X (a0 #[J U (if p then if q then n+x else n+y else n)] 3 (0,0))/\aF b w w':=by
 have f:w.cell? b=X (J U n):=(ab h 0).trans rfl;have j:=ae h 0;have g:IntKind.i64.wrap (n+x)=n+x:=IntWalk.i64_in _ (by omega);have i:IntKind.i64.wrap (n+y)=n+y:=IntWalk.i64_in _ (by omega);have a:=Z (λu:Int=>(⟨aA h 0 u,(aF.refl b w).setCell 0 _⟩:(w.setCell b u).heap[b]?=X (a0 #[u] 3 (0,0))/\aF b w (w.setCell b u)));have H:=Z h;clear h hn c d;cases p
 .go_enter func188,ntmps188;go_wp2_with fail;refine bodyPost_end (results_none rfl _ _ _) rfl ?_;exact⟨rfl,H.o,aF.refl _ _⟩
 cases q
 .go_enter func188,ntmps188;go_wp2_with fail;refine bodyPost_end (results_none rfl _ _ _) rfl ?_;exact⟨rfl,(a (n+y)).1,(a (n+y)).2⟩
 go_enter func188,ntmps188;go_wp2_with fail;refine bodyPost_end (results_none rfl _ _ _) rfl ?_;exact⟨rfl,(a (n+x)).1,(a (n+x)).2⟩
theorem xH{A C n m:Nat}{y z:Value}{a d:List Bs}{w:World}(f:w.ownsRow A 9 1 y n (a.map λs=>S s))(i:w.ownsRow C 9 1 z m (d.map λs=>S s))(hn:n<=1000000000)(K:m<=1000000000):
 Calls prog 189 #[y,z] w λe w'=>e=a2 (a1 (decide (a=d)))/\∃q,w'=w.drewN q:=by
 have k:a=n:=by have:=f.1;simpa using this
 have o:d=m:=by have:=i.1;simpa using this
 obtain⟨t,c1,rfl⟩:=aQ f;obtain⟨u,c2,rfl⟩:=aQ i;by_cases hnm:n=m;rotate_left
 .refine(slices_Equal_string_lens t u n c1 m c2 w hnm).mono ?_;rintro e w'⟨rfl,rfl⟩;refine⟨?_,0,rfl⟩;have:a≠d:=λe=>hnm (by rw[<- k,<- o,e]);rw[decide_eq_false this]
 subst hnm;rcases Nat.eq_zero_or_pos n with rfl|x
 .have D:a=[]:=ad k;have E:d=[]:=ad o;refine(slices_Equal_string_empty t u c1 0 c2 w (by omega)).mono ?_;rintro e w'⟨rfl,rfl⟩;exact⟨by rw[D,E];rfl,0,rfl⟩
 obtain⟨F,L,p,_⟩:=ao f x;obtain⟨G,M,r,_⟩:=ao i x;injection p with p _ _
 injection r with r _ _
 subst p r;have v:∀{g c:Nat}{B:Nat}{l:List Bs},w.ownsRow B 9 1 (a3 g n c) n (l.map λs=>S s)->∀j,j<(l.map λs=>(⟨s.toArray⟩:ByteArray)).length->w.cell? ⟨g,0+j,Y⟩=X (.string ((l.map λs=>(⟨s.toArray⟩:ByteArray)).getD j ByteArray.empty)):=λ{g c B l}h j H=>by
  have I:j<l:=by simpa using H
  rw[Nat.zero_add,h.cellAt j (by have:=h.1;simp at this;omega)];simp[S,I,List.getD_eq_getElem?_getD]
 refine(slices_Equal_string F 0 n c1 G 0 n c2 (a.map λs=>(⟨s.toArray⟩:ByteArray)) (d.map λs=>(⟨s.toArray⟩:ByteArray)) w (by simp[k]) (by simp[o]) (by omega) (by omega) (v f) (v i)).mono ?_;rintro e w'⟨rfl,q,rfl⟩;refine⟨?_,q,rfl⟩;rw[au (by simp[k]),au (by simp[o])];have:((a.map λs=>(⟨s.toArray⟩:ByteArray))=(d.map λs=>(⟨s.toArray⟩:ByteArray)))↔a=d:=by refine⟨λh=>?_,λh=>by rw[h]⟩;have:=congrArg (List.map λb:ByteArray=>b.data.toList) h;simpa[Function.comp_def]using this
 congr 2
 exact decide_eq_decide.2 this
theorem sT(p q:Nat)(a b c d:Int)(w:World)(i:w.cell? p=X (J U a))(j:w.cell? ⟨p,1,Y⟩=X (J U b))(k:w.cell? q=X (J U c))(l:w.cell? ⟨q,1,Y⟩=X (J U d)):
 Calls prog 134 #[a3 p 2 2,a3 q 2 2] w λe w'=>e=a2 (bI (a,b) (c,d))/\w=w':=by
 have f:Hid (∀W,Calls prog 91 #[a,c] W λe w'=>e=a2 (fC a c)/\W=w'):=λW=>jj a c W;have g:Hid (∀W,Calls prog 91 #[b,d] W λe w'=>e=a2 (fC b d)/\W=w'):=λW=>jj b d W;have h:bI (a,b) (c,d)=if fC a c≠0 then fC a c else fC b d:=rfl
 rw[h];generalize fC a c=x at*;generalize fC b d=y at*;clear h;by_cases hx:x=0;rotate_left
 .have m:(x !=0)=true:=by simpa using hx
  rw[if_pos hx];go_enter func134,ntmps134;go_wp2_with fail;refine ax 3 ?_;rw[al];go_wp2_with (go_at_call 91;(refine aa (f.o _) ?_;rintro e w1⟨rfl,rfl⟩))
  go_ret;exact⟨rfl,rfl⟩
 subst hx;rw[if_neg (by simp)];by_cases hy:y=0
 .subst hy;go_enter func134,ntmps134;go_wp2_with fail;refine ax 3 ?_;rw[al];go_wp2_with (first|(go_at_call 91;((with_reducible refine aa (f.o _) ?_);rintro e w1⟨rfl,rfl⟩))|(go_at_call 91;((with_reducible refine aa (g.o _) ?_);rintro e w1⟨rfl,rfl⟩)))
  rw[al];go_wp2_with (first|(go_at_call 91;((with_reducible refine aa (f.o _) ?_);rintro e w1⟨rfl,rfl⟩))|(go_at_call 91;((with_reducible refine aa (g.o _) ?_);rintro e w1⟨rfl,rfl⟩)))
  rw[al];go_wp2_with fail;go_ret;exact⟨rfl,rfl⟩
 have n:(y !=0)=true:=by simpa using hy
 go_enter func134,ntmps134;go_wp2_with fail;refine ax 3 ?_;rw[al];go_wp2_with (first|(go_at_call 91;((with_reducible refine aa (f.o _) ?_);rintro e w1⟨rfl,rfl⟩))|(go_at_call 91;((with_reducible refine aa (g.o _) ?_);rintro e w1⟨rfl,rfl⟩)))
 rw[al];go_wp2_with (first|(go_at_call 91;((with_reducible refine aa (f.o _) ?_);rintro e w1⟨rfl,rfl⟩))|(go_at_call 91;((with_reducible refine aa (g.o _) ?_);rintro e w1⟨rfl,rfl⟩)))
 go_ret;exact⟨rfl,rfl⟩
theorem ui(x y:RK)(w:World):Calls prog 133 #[recK x,recK y] w λe w'=>e=a2 (bI x y)/\bF w w':=by
 obtain⟨a,b⟩:=x;obtain⟨c,d⟩:=y;obtain⟨W,h⟩:=Qe (((w.alloc (a0 #[a,b] 67)).alloc (a0 #[c,d] 67)).drew);have i:(w.alloc (a0 #[a,b] 67)).heap.size=w+1:=by simp
 have f:W.heap[w.heap.size]?=X (a0 #[a,b] 67 (0,0)):=by rw[<- h];show((w.alloc _).alloc _).heap[w.heap.size]?=_;rw[Below.heap_alloc _ _ _ (by simp)];exact av w _
 have g:W.heap[w.heap.size+1]?=X (a0 #[c,d] 67 (0,0)):=by rw[<- h,<- i];exact av (w.alloc _) _
 have k:Hid (bF w W):=by unfold Hid;rw[<- h];exact(((bF.refl w).alloc _).alloc _).drew
 have j:=Z (sT w (w.heap.size+1) a b c d W ((ab f 0).trans rfl) ((ab f 1).trans rfl) ((ab g 0).trans rfl) ((ab g 1).trans rfl));unfold recK;dsimp only;generalize bI (a,b) (c,d)=r at*;clear f g i;go_enter func133,ntmps133;go_wp2_with fail;go_region_with (go_at_call 134;refine aa j.o ?_;rintro e l⟨rfl,rfl⟩)
 all_goals(go_wp2_with fail;go_ret;exact⟨rfl,k.o⟩)
end
section
open Go.RowKit Go.Maps Go.Shelf Go.Lib Go.Sort
theorem wD(lo:Nat)(w:World)(v:Value)(a:List RK)(h:w.ownsRow lo 67 2 v a (a.flatMap rkCells))(hn:a.length<=1000000):
 Calls prog 132 #[v,.func (.func 133) #[] #[]] w λe w'=>e=a2 (.tuple #[])/\w'.ownsRow lo 67 2 v a ((de ltRK a).flatMap rkCells)/\w'.os=w.os/\w'.tape=w.tape/\w'.output=w.output/\w.heap.size<=w'/\∀q,q<w.heap.size->v.ownBlock≠X q->w'.heap[q]?=w.heap[q]?:=by
 rcases h.2 with⟨rfl,t⟩|⟨g,s,D,rfl,_⟩
 .have C:a=[]:=ad t;subst C;refine(AnyF.slices_SortFunc_none vp Y 0 (.func (.func 133) #[] #[]) w).mono ?_;rintro e w'⟨rfl,rfl⟩;exact⟨rfl,by simpa[de]using h,rfl,rfl,rfl,Nat.le_refl _,λ_ _ _=>rfl⟩
 have z:=(h.lt g (by simp[Value.ownBlock])).2;have u:=iu rkCells (by decide) (λ_=>rfl) h;have:=AnyQ.slices_SortFunc_total vp 2 Tryz.isAgg67 sizeOf67 rkCells (λ_=>rfl) (λx v f=>by
  simp only[rkCells,List.mem_cons,List.not_mem_nil,or_false]at f;rcases f with rfl|rfl<;>rfl) bI (by rw[iw];exact pu aY) 133 #[] g 0 s a.toArray w (enters_of func133 (by kernel_rfl) rfl)
  (λm i E F x y=>(ui x y _).mono λe w' d=>⟨d.1,d.2⟩) u z (by simp;omega) (λx y b c=>by
   rw[iw]at b c;by_cases e:x=y
   .exact e
   rcases aY.tot x y e with h|h
   .rw[b]at h;cases h
   rw[c]at h;cases h)
 refine(this).mono ?_;rintro e w'⟨rfl,n,i,rfl⟩;rw[iw];obtain⟨j,k,l,o,p,r⟩:=jq (ys:=de ltRK a) rkCells (by decide) (λ_=>rfl) (dp ltRK a).length_eq h n i;exact⟨rfl,j,k,l,o,p,λq B A=>r q B (λe=>A (by rw[e];simp[Value.ownBlock]))⟩
end
end Go.Proofs.YtjcimanddakkaaaGreatDoor
