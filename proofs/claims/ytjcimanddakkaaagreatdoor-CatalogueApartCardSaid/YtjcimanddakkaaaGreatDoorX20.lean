/- Lemmas. -/
import Derived.Test.YtjcimanddakkaaaGreatDoorX0
import Derived.Test.YtjcimanddakkaaaGreatDoorX3
import Derived.Test.YtjcimanddakkaaaGreatDoorX11
import Derived.Test.YtjcimanddakkaaaGreatDoorX12
import Derived.Test.YtjcimanddakkaaaGreatDoorX16
set_option maxRecDepth 100000
set_option maxHeartbeats 8000000
namespace Go.Proofs.YtjcimanddakkaaaGreatDoor
open Go.Calls renaming mono→a0a
open _root_.List renaming eq_nil_of_length_eq_zero→a0b,take_of_length_le→a0f
open Go.Proofs.Tryz renaming prog→a0c
open Go renaming rounds_succ→a0d,wp_loop_rounds→a0h
open Go.World.ownsRow renaming form→a0e
open Go.World renaming alloc_heap_new→a0g
section
open Go.RowKit Go.Maps Go.Shelf
theorem pW (b:Nat) (n x y:Int) (p q:Bool) (w:World) (h:w.heap[b]? =some (.cells #[.int .i64 n] 3 (0,0))) (c: -1000<=n/\n<=1000) (d: -1000<=x/\x<=1000) (f: -1000<=y/\y<=1000):
 Calls a0c 188 #[.bool p, .bool q, .int .i64 x, .int .i64 y, .pointer (some ⟨b,0,none⟩)] w λe w'=>e= .returned (.tuple #[])/\w'.heap[b]? =some (.cells #[.int .i64 (if p then if q then n+x else n+y else n)] 3 (0,0))/\aq b w w':=by
 have g:w.cell? ⟨b,0,none⟩=some (.int .i64 n):=(aa h 0).trans rfl;have k:=ab h 0;have i:IntKind.i64.wrap (n+x)=n+x:=IntWalk.i64_in _ (by omega);have j:IntKind.i64.wrap (n+y)=n+y:=IntWalk.i64_in _ (by omega);have a:=Lib.hid (λu:Int=>(⟨an h 0 (.int .i64 u),(aq.refl b w).setCell 0 _⟩:(w.setCell ⟨b,0,none⟩ (.int .i64 u)).heap[b]? =some (.cells #[.int .i64 u] 3 (0,0))/\aq b w (w.setCell ⟨b,0,none⟩ (.int .i64 u))));have H:=Lib.hid h;clear h c d f;cases p
 · go_enter Tryz.func188,Tryz.ntmps188;go_wp2_with fail
   refine bodyPost_end (results_none rfl _ _ _) rfl ?_;exact ⟨rfl,H.out,aq.refl _ _⟩
 · cases q
   · go_enter Tryz.func188,Tryz.ntmps188;go_wp2_with fail
     refine bodyPost_end (results_none rfl _ _ _) rfl ?_;exact ⟨rfl,(a (n+y)).1,(a (n+y)).2⟩
   · go_enter Tryz.func188,Tryz.ntmps188;go_wp2_with fail
     refine bodyPost_end (results_none rfl _ _ _) rfl ?_;exact ⟨rfl,(a (n+x)).1,(a (n+x)).2⟩
end
section
open Go.RowKit Go.Maps Go.Shelf
theorem vo {A C n m:Nat} {y z:Value} {a d:List Bs} {w:World} (f:w.ownsRow A 9 1 y n (a.map λs=>S s)) (i:w.ownsRow C 9 1 z m (d.map λs=>S s)) (K:n<=1000000000) (J:m<=1000000000):
 Calls a0c 189 #[y,z] w λe w'=>e= .returned (.bool (decide (a=d)))/\∃q,w'=w.drewN q:=by
 have k:a.length=n:=by have:=f.1;simpa using this
 have o:d.length=m:=by have:=i.1;simpa using this
 obtain ⟨t,c1,rfl⟩:=aK f;obtain ⟨u,c2,rfl⟩:=aK i;by_cases hnm:n=m
 · subst hnm;rcases Nat.eq_zero_or_pos n with rfl|x
   · have D:a=[]:=a0b k;have E:d=[]:=a0b o;refine (slices_Equal_string_empty t u c1 0 c2 w (by omega)).mono ?_;rintro e w' ⟨rfl,rfl⟩;exact ⟨by rw [D,E];rfl,0,rfl⟩
   · obtain ⟨F,L,p,_⟩:=a0e f x;obtain ⟨G,M,r,_⟩:=a0e i x;injection p with p _ _
     injection r with r _ _
     subst p r;have v:∀{g c:Nat} {B:Nat} {l:List Bs},w.ownsRow B 9 1 (.slice (some ⟨g,0,none⟩) n c) n (l.map λs=>S s)->∀j,j<(l.map λs=>(⟨s.toArray⟩:ByteArray)).length->w.cell? ⟨g,0+j,none⟩=some (.string ((l.map λs=>(⟨s.toArray⟩:ByteArray)).getD j ByteArray.empty)):=λ{g c B l} h j H=>by
      have I:j<l.length:=by simpa using H
      rw [Nat.zero_add,h.cellAt j (by have:=h.1;simp at this;omega)];simp [S,I,List.getD_eq_getElem?_getD]
     refine (slices_Equal_string F 0 n c1 G 0 n c2 (a.map λs=>(⟨s.toArray⟩:ByteArray)) (d.map λs=>(⟨s.toArray⟩:ByteArray)) w (by simp [k]) (by simp [o]) (by omega) (by omega) (v f) (v i)).mono ?_;rintro e w' ⟨rfl,q,rfl⟩;refine ⟨?_,q,rfl⟩;rw [a0f (by simp [k]),a0f (by simp [o])];have:((a.map λs=>(⟨s.toArray⟩:ByteArray))=(d.map λs=>(⟨s.toArray⟩:ByteArray)))↔a=d:=by refine ⟨λh=>?_,λh=>by rw [h]⟩;have:=congrArg (List.map λb:ByteArray=>b.data.toList) h;simpa [Function.comp_def] using this
     congr 2
     exact decide_eq_decide.2 this
 · refine (slices_Equal_string_lens t u n c1 m c2 w hnm).mono ?_;rintro e w' ⟨rfl,rfl⟩;refine ⟨?_,0,rfl⟩;have:a≠d:=λe=>hnm (by rw [<- k, <- o,e]);rw [decide_eq_false this]
end
section
open Go.RowKit Go.Maps Go.Shelf
theorem qW (p q:Nat) (a b c d:Int) (w:World) (i:w.cell? ⟨p,0,none⟩=some (.int .i64 a)) (j:w.cell? ⟨p,1,none⟩=some (.int .i64 b)) (k:w.cell? ⟨q,0,none⟩=some (.int .i64 c)) (l:w.cell? ⟨q,1,none⟩=some (.int .i64 d)):
 Calls a0c 134 #[.slice (some ⟨p,0,none⟩) 2 2, .slice (some ⟨q,0,none⟩) 2 2] w λe w'=>e= .returned (.int .i64 (bo (a,b) (c,d)))/\w=w':=by
 have f:Hid (∀W,Calls a0c 91 #[.int .i64 a, .int .i64 c] W λe w'=>e= .returned (.int .i64 (eM a c))/\W=w'):=λW=>im a c W;have g:Hid (∀W,Calls a0c 91 #[.int .i64 b, .int .i64 d] W λe w'=>e= .returned (.int .i64 (eM b d))/\W=w'):=λW=>im b d W;have h:bo (a,b) (c,d)=if eM a c≠0 then eM a c else eM b d:=rfl
 rw [h];generalize eM a c=x at *;generalize eM b d=y at *;clear h;by_cases hx:x=0
 · subst hx;rw [if_neg (by simp)];by_cases hy:y=0
   · subst hy;go_enter Tryz.func134,Tryz.ntmps134;go_wp2_with fail
     refine a0h 3 ?_;rw [a0d];go_wp2_with (first |(go_at_call 91;((with_reducible refine a0a (f.out _) ?_);rintro e w1 ⟨rfl,rfl⟩))|(go_at_call 91;((with_reducible refine a0a (g.out _) ?_);rintro e w1 ⟨rfl,rfl⟩)))
     rw [a0d];go_wp2_with (first |(go_at_call 91;((with_reducible refine a0a (f.out _) ?_);rintro e w1 ⟨rfl,rfl⟩))|(go_at_call 91;((with_reducible refine a0a (g.out _) ?_);rintro e w1 ⟨rfl,rfl⟩)))
     rw [a0d];go_wp2_with fail
     go_ret;exact ⟨rfl,rfl⟩
   · have n:(y !=0)=true:=by simpa using hy
     go_enter Tryz.func134,Tryz.ntmps134;go_wp2_with fail
     refine a0h 3 ?_;rw [a0d];go_wp2_with (first |(go_at_call 91;((with_reducible refine a0a (f.out _) ?_);rintro e w1 ⟨rfl,rfl⟩))|(go_at_call 91;((with_reducible refine a0a (g.out _) ?_);rintro e w1 ⟨rfl,rfl⟩)))
     rw [a0d];go_wp2_with (first |(go_at_call 91;((with_reducible refine a0a (f.out _) ?_);rintro e w1 ⟨rfl,rfl⟩))|(go_at_call 91;((with_reducible refine a0a (g.out _) ?_);rintro e w1 ⟨rfl,rfl⟩)))
     go_ret;exact ⟨rfl,rfl⟩
 · have m:(x !=0)=true:=by simpa using hx
   rw [if_pos hx];go_enter Tryz.func134,Tryz.ntmps134;go_wp2_with fail
   refine a0h 3 ?_;rw [a0d];go_wp2_with (go_at_call 91;((with_reducible refine a0a (f.out _) ?_);rintro e w1 ⟨rfl,rfl⟩))
   go_ret;exact ⟨rfl,rfl⟩
theorem sh (x y:RK) (w:World):Calls a0c 133 #[recK x,recK y] w λe w'=>e= .returned (.int .i64 (bo x y))/\bl w w':=by
 obtain ⟨a,b⟩:=x;obtain ⟨c,d⟩:=y;obtain ⟨W,h⟩:∃W,((w.alloc (.cells #[.int .i64 a, .int .i64 b] 67)).alloc (.cells #[.int .i64 c, .int .i64 d] 67)).drew=W:=⟨_,rfl⟩;have i:(w.alloc (.cells #[.int .i64 a, .int .i64 b] 67)).heap.size=w.heap.size+1:=by simp
 have f:W.heap[w.heap.size]? =some (.cells #[.int .i64 a, .int .i64 b] 67 (0,0)):=by rw [<- h];show ((w.alloc _).alloc _).heap[w.heap.size]? =_;rw [Below.heap_alloc _ _ _ (by simp)];exact a0g w _
 have g:W.heap[w.heap.size+1]? =some (.cells #[.int .i64 c, .int .i64 d] 67 (0,0)):=by rw [<- h, <- i];exact a0g (w.alloc _) _
 have k:Hid (bl w W):=by unfold Hid;rw [<- h];exact (((bl.refl w).alloc _).alloc _).drew
 have j:=Lib.hid (qW w.heap.size (w.heap.size+1) a b c d W ((aa f 0).trans rfl) ((aa f 1).trans rfl) ((aa g 0).trans rfl) ((aa g 1).trans rfl));unfold recK;dsimp only;generalize bo (a,b) (c,d)=r at *;clear f g i;go_enter Tryz.func133,Tryz.ntmps133;go_wp2_with fail
 go_region_with (go_at_call 134;refine a0a j.out ?_;rintro e l ⟨rfl,rfl⟩)
 all_goals (go_wp2_with fail;go_ret;exact ⟨rfl,k.out⟩)
end
section
open Go.RowKit Go.Maps Go.Shelf Go.Lib Go.Sort
theorem uv (lo:Nat) (w:World) (v:Value) (a:List RK) (h:w.ownsRow lo 67 2 v a.length (a.flatMap rkCells)) (G:a.length<=1000000):
 Calls a0c 132 #[v, .func (.func 133) #[] #[]] w λe w'=>e= .returned (.tuple #[])/\w'.ownsRow lo 67 2 v a.length ((cM ltRK a).flatMap rkCells)/\w'.os=w.os/\w'.tape=w.tape/\w'.output=w.output/\w.heap.size<=w'.heap.size/\∀q,q<w.heap.size->v.ownBlock≠some q->w'.heap[q]? =w.heap[q]? :=by
 rcases h.2 with ⟨rfl,t⟩|⟨g,s,D,rfl,_⟩
 · have C:a=[]:=a0b t;subst C;refine (AnyF.slices_SortFunc_none tE none 0 (.func (.func 133) #[] #[]) w).mono ?_;rintro e w' ⟨rfl,rfl⟩;exact ⟨rfl,by simpa [cM] using h,rfl,rfl,rfl,Nat.le_refl _,λ_ _ _=>rfl⟩
 · have z:=(h.lt g (by simp [Value.ownBlock])).2;have u:=gF rkCells (by decide) (λ_=>rfl) h;have:=AnyQ.slices_SortFunc_total tE 2 Tryz.isAgg67 Tryz.sizeOf67 rkCells (λ_=>rfl) (λx v f=>by
    simp only [rkCells,List.mem_cons,List.not_mem_nil,or_false] at f;rcases f with rfl|rfl<;>rfl) bo (by rw [gG];exact nJ aL) 133 #[] g 0 s a.toArray w (enters_of Tryz.func133 (by kernel_rfl) rfl)
    (λm i E F x y=>(sh x y _).mono λe w' d=>⟨d.1,d.2⟩) u z (by simp;omega) (λx y b c=>by
     rw [gG] at b c;by_cases e:x=y
     · exact e
     · rcases aL.tot x y e with h|h
       · rw [b] at h;cases h
       · rw [c] at h;cases h)
   refine (this).mono ?_;rintro e w' ⟨rfl,n,i,rfl⟩;rw [gG];obtain ⟨j,k,l,o,p,r⟩:=iu (ys:=cM ltRK a) rkCells (by decide) (λ_=>rfl) (cR ltRK a).length_eq h n i;exact ⟨rfl,j,k,l,o,p,λq B A=>r q B (λe=>A (by rw [e];simp [Value.ownBlock]))⟩
end
end Go.Proofs.YtjcimanddakkaaaGreatDoor
