/- Lemmas. -/
import Derived.Test.YtjcimanddakkaaaGreatDoorQ16
set_option maxRecDepth 100000
set_option maxHeartbeats 8000000
namespace Go.Proofs.YtjcimanddakkaaaGreatDoor
open _root_.Option renaming some→X,none→Y
open Go.Obj renaming cells→a0
open Go.Value renaming int→J,bool→a1,pointer→a2,slice→a4
open Go.IntKind renaming i64→U
open Go.Ending renaming returned→a3
open Go.Lib renaming hid→Z
open Tryz
open Go.Calls renaming mono→ad
open _root_.List renaming eq_nil_of_length_eq_zero→al,take_of_length_le→av
open Go renaming rounds_succ→ao,wp_loop_rounds→ay
open Go.World.ownsRow renaming form→au
open Go.World renaming alloc_heap_new→ax
section
open Go.RowKit Go.Maps Go.Shelf
theorem rG (b:Nat) (n x y:Int) (p q:Bool) (w:World) (h:w.heap[b]? =X (a0 #[J U n] 3 (0,0))) (a: -1000<=n/\n<=1000) (c: -1000<=x/\x<=1000) (d: -1000<=y/\y<=1000):
 Calls prog 188 #[a1 p,a1 q,J U x,J U y,a2 (X ⟨b,0,Y⟩)] w λe w'=>e=a3 (.tuple #[])/\w'.heap[b]? =X (a0 #[J U (if p then if q then n+x else n+y else n)] 3 (0,0))/\aw b w w':=by
 have f:w.cell? ⟨b,0,Y⟩=X (J U n):=(aa h 0).trans rfl;have j:=ab h 0;have g:IntKind.i64.wrap (n+x)=n+x:=IntWalk.i64_in _ (by omega);have i:IntKind.i64.wrap (n+y)=n+y:=IntWalk.i64_in _ (by omega);have h1:=Z (λu:Int=>(⟨ap h 0 (J U u),(aw.refl b w).setCell 0 _⟩:(w.setCell ⟨b,0,Y⟩ (J U u)).heap[b]? =X (a0 #[J U u] 3 (0,0))/\aw b w (w.setCell ⟨b,0,Y⟩ (J U u))));have H:=Z h;clear h a c d;cases p
 · go_enter func188,ntmps188;go_wp2_with fail
   refine bodyPost_end (results_none rfl _ _ _) rfl ?_;exact ⟨rfl,H.o,aw.refl _ _⟩
 · cases q
   · go_enter func188,ntmps188;go_wp2_with fail
     refine bodyPost_end (results_none rfl _ _ _) rfl ?_;exact ⟨rfl,(h1 (n+y)).1,(h1 (n+y)).2⟩
   · go_enter func188,ntmps188;go_wp2_with fail
     refine bodyPost_end (results_none rfl _ _ _) rfl ?_;exact ⟨rfl,(h1 (n+x)).1,(h1 (n+x)).2⟩
theorem xv {z A n m:Nat} {x y:Value} {a d:List Bs} {w:World} (h1:w.ownsRow z 9 1 x n (a.map λs=>S s)) (f:w.ownsRow A 9 1 y m (d.map λs=>S s)) (K:n<=1000000000) (I:m<=1000000000):
 Calls prog 189 #[x,y] w λe w'=>e=a3 (a1 (decide (a=d)))/\∃q,w'=w.drewN q:=by
 have i:a.length=n:=by have:=h1.1;simpa using this
 have k:d.length=m:=by have:=f.1;simpa using this
 obtain ⟨r,c1,rfl⟩:=aK h1;obtain ⟨t,c2,rfl⟩:=aK f;by_cases hnm:n=m
 · subst hnm;rcases Nat.eq_zero_or_pos n with rfl|v
   · have C:a=[]:=al i;have D:d=[]:=al k;refine (slices_Equal_string_empty r t c1 0 c2 w (by omega)).mono ?_;rintro e w' ⟨rfl,rfl⟩;exact ⟨by rw [C,D];rfl,0,rfl⟩
   · obtain ⟨E,L,o,_⟩:=au h1 v;obtain ⟨F,M,p,_⟩:=au f v;injection o with o _ _
     injection p with p _ _
     subst o p;have u:∀{g c:Nat} {B:Nat} {l:List Bs},w.ownsRow B 9 1 (a4 (X ⟨g,0,Y⟩) n c) n (l.map λs=>S s)->∀j,j<(l.map λs=>(⟨s.toArray⟩:ByteArray)).length->w.cell? ⟨g,0+j,Y⟩=X (.string ((l.map λs=>(⟨s.toArray⟩:ByteArray)).getD j ByteArray.empty)):=λ{g c B l} h j G=>by
      have H:j<l.length:=by simpa using G
      rw [Nat.zero_add,h.cellAt j (by have:=h.1;simp at this;omega)];simp [S,H,List.getD_eq_getElem?_getD]
     refine (slices_Equal_string E 0 n c1 F 0 n c2 (a.map λs=>(⟨s.toArray⟩:ByteArray)) (d.map λs=>(⟨s.toArray⟩:ByteArray)) w (by simp [i]) (by simp [k]) (by omega) (by omega) (u h1) (u f)).mono ?_;rintro e w' ⟨rfl,q,rfl⟩;refine ⟨?_,q,rfl⟩;rw [av (by simp [i]),av (by simp [k])];have:((a.map λs=>(⟨s.toArray⟩:ByteArray))=(d.map λs=>(⟨s.toArray⟩:ByteArray)))↔a=d:=by refine ⟨λh=>?_,λh=>by rw [h]⟩;have:=congrArg (List.map λb:ByteArray=>b.data.toList) h;simpa [Function.comp_def] using this
     congr 2
     exact decide_eq_decide.2 this
 · refine (slices_Equal_string_lens r t n c1 m c2 w hnm).mono ?_;rintro e w' ⟨rfl,rfl⟩;refine ⟨?_,0,rfl⟩;have:a≠d:=λe=>hnm (by rw [<- i, <- k,e]);rw [decide_eq_false this]
theorem sJ (p q:Nat) (a b c d:Int) (w:World) (i:w.cell? ⟨p,0,Y⟩=X (J U a)) (h1:w.cell? ⟨p,1,Y⟩=X (J U b)) (j:w.cell? ⟨q,0,Y⟩=X (J U c)) (k:w.cell? ⟨q,1,Y⟩=X (J U d)):
 Calls prog 134 #[a4 (X ⟨p,0,Y⟩) 2 2,a4 (X ⟨q,0,Y⟩) 2 2] w λe w'=>e=a3 (J U (br (a,b) (c,d)))/\w=w':=by
 have f:Hid (∀W,Calls prog 91 #[J U a,J U c] W λe w'=>e=a3 (J U (fq a c))/\W=w'):=λW=>jh a c W;have g:Hid (∀W,Calls prog 91 #[J U b,J U d] W λe w'=>e=a3 (J U (fq b d))/\W=w'):=λW=>jh b d W;have h:br (a,b) (c,d)=if fq a c≠0 then fq a c else fq b d:=rfl
 rw [h];generalize fq a c=x at *;generalize fq b d=y at *;clear h;by_cases hx:x=0
 · subst hx;rw [if_neg (by simp)];by_cases hy:y=0
   · subst hy;go_enter func134,ntmps134;go_wp2_with fail
     refine ay 3 ?_;rw [ao];go_wp2_with (first |(go_at_call 91;((with_reducible refine ad (f.o _) ?_);rintro e w1 ⟨rfl,rfl⟩))|(go_at_call 91;((with_reducible refine ad (g.o _) ?_);rintro e w1 ⟨rfl,rfl⟩)))
     rw [ao];go_wp2_with (first |(go_at_call 91;((with_reducible refine ad (f.o _) ?_);rintro e w1 ⟨rfl,rfl⟩))|(go_at_call 91;((with_reducible refine ad (g.o _) ?_);rintro e w1 ⟨rfl,rfl⟩)))
     rw [ao];go_wp2_with fail
     go_ret;exact ⟨rfl,rfl⟩
   · have m:(y !=0)=true:=by simpa using hy
     go_enter func134,ntmps134;go_wp2_with fail
     refine ay 3 ?_;rw [ao];go_wp2_with (first |(go_at_call 91;((with_reducible refine ad (f.o _) ?_);rintro e w1 ⟨rfl,rfl⟩))|(go_at_call 91;((with_reducible refine ad (g.o _) ?_);rintro e w1 ⟨rfl,rfl⟩)))
     rw [ao];go_wp2_with (first |(go_at_call 91;((with_reducible refine ad (f.o _) ?_);rintro e w1 ⟨rfl,rfl⟩))|(go_at_call 91;((with_reducible refine ad (g.o _) ?_);rintro e w1 ⟨rfl,rfl⟩)))
     go_ret;exact ⟨rfl,rfl⟩
 · have l:(x !=0)=true:=by simpa using hx
   rw [if_pos hx];go_enter func134,ntmps134;go_wp2_with fail
   refine ay 3 ?_;rw [ao];go_wp2_with (go_at_call 91;((with_reducible refine ad (f.o _) ?_);rintro e w1 ⟨rfl,rfl⟩))
   go_ret;exact ⟨rfl,rfl⟩
theorem tZ (x y:RK) (w:World):Calls prog 133 #[recK x,recK y] w λe w'=>e=a3 (J U (br x y))/\bo w w':=by
 obtain ⟨a,b⟩:=x;obtain ⟨c,d⟩:=y;obtain ⟨W,g⟩:=Qe (((w.alloc (a0 #[J U a,J U b] 67)).alloc (a0 #[J U c,J U d] 67)).drew);have h:(w.alloc (a0 #[J U a,J U b] 67)).heap.size=w.heap.size+1:=by simp
 have f:W.heap[w.heap.size]? =X (a0 #[J U a,J U b] 67 (0,0)):=by rw [<- g];show ((w.alloc _).alloc _).heap[w.heap.size]? =_;rw [Below.heap_alloc _ _ _ (by simp)];exact ax w _
 have h1:W.heap[w.heap.size+1]? =X (a0 #[J U c,J U d] 67 (0,0)):=by rw [<- g, <- h];exact ax (w.alloc _) _
 have j:Hid (bo w W):=by unfold Hid;rw [<- g];exact (((bo.refl w).alloc _).alloc _).drew
 have i:=Z (sJ w.heap.size (w.heap.size+1) a b c d W ((aa f 0).trans rfl) ((aa f 1).trans rfl) ((aa h1 0).trans rfl) ((aa h1 1).trans rfl));unfold recK;dsimp only;generalize br (a,b) (c,d)=r at *;clear f h1 h;go_enter func133,ntmps133;go_wp2_with fail
 go_region_with (go_at_call 134;refine ad i.o ?_;rintro e k ⟨rfl,rfl⟩)
 all_goals (go_wp2_with fail;go_ret;exact ⟨rfl,j.o⟩)
end
section
open Go.RowKit Go.Maps Go.Shelf Go.Lib Go.Sort
theorem wm (lo:Nat) (w:World) (v:Value) (a:List RK) (h:w.ownsRow lo 67 2 v a.length (a.flatMap rkCells)) (F:a.length<=1000000):
 Calls prog 132 #[v, .func (.func 133) #[] #[]] w λe w'=>e=a3 (.tuple #[])/\w'.ownsRow lo 67 2 v a.length ((cw ltRK a).flatMap rkCells)/\w'.os=w.os/\w'.tape=w.tape/\w'.output=w.output/\w.heap.size<=w'.heap.size/\∀q,q<w.heap.size->v.ownBlock≠X q->w'.heap[q]? =w.heap[q]? :=by
 rcases h.2 with ⟨rfl,s⟩|⟨g,r,C,rfl,_⟩
 · have B:a=[]:=al s;subst B;refine (AnyF.slices_SortFunc_none vk Y 0 (.func (.func 133) #[] #[]) w).mono ?_;rintro e w' ⟨rfl,rfl⟩;exact ⟨rfl,by simpa [cw] using h,rfl,rfl,rfl,Nat.le_refl _,λ_ _ _=>rfl⟩
 · have u:=(h.lt g (by simp [Value.ownBlock])).2;have t:=ip rkCells (by decide) (λ_=>rfl) h;have:=AnyQ.slices_SortFunc_total vk 2 Tryz.isAgg67 sizeOf67 rkCells (λ_=>rfl) (λx v d=>by
    simp only [rkCells,List.mem_cons,List.not_mem_nil,or_false] at d;rcases d with rfl|rfl<;>rfl) br (by rw [iq];exact o6 aN) 133 #[] g 0 r a.toArray w (enters_of func133 (by kernel_rfl) rfl)
    (λm f D E x y=>(tZ x y _).mono λe w' c=>⟨c.1,c.2⟩) t u (by simp;omega) (λx y h1 b=>by
     rw [iq] at h1 b;by_cases e:x=y
     · exact e
     · rcases aN.tot x y e with h|h
       · rw [h1] at h;cases h
       · rw [b] at h;cases h)
   refine (this).mono ?_;rintro e w' ⟨rfl,n,f,rfl⟩;rw [iq];obtain ⟨i,j,k,l,o,p⟩:=jo (ys:=cw ltRK a) rkCells (by decide) (λ_=>rfl) (cZ ltRK a).length_eq h n f;exact ⟨rfl,i,j,k,l,o,λq A z=>p q A (λe=>z (by rw [e];simp [Value.ownBlock]))⟩
end
end Go.Proofs.YtjcimanddakkaaaGreatDoor
