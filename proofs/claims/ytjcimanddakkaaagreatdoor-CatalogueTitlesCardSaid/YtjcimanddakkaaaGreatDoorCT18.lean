/- Lemmas. -/
import Derived.Test.YtjcimanddakkaaaGreatDoorCT9
import Derived.Test.YtjcimanddakkaaaGreatDoorCT17
set_option maxRecDepth 100000
set_option maxHeartbeats 8000000
namespace Go.Proofs.YtjcimanddakkaaaGreatDoor
open Go.Value renaming slice→a0
open Go.Ending renaming returned→a4
open _root_.Option renaming some→X,none→Y
open Tryz
open Go.Lib renaming compact→aa,putRow_eq_setCells→au
open _root_.List renaming eq_nil_of_length_eq_zero→ad,drop_of_length_le→ao
open Go.Value renaming ownBlock→al
open _root_.Nat renaming zero_add→av
section
open Go.RowKit Go.Maps Go.Shelf Go.Lib Go.Sort
theorem zV(s:Bs):encStr s=S s:=rfl
theorem ir{lo g c n:Nat}{w:World}{a:List Bs}(h:w.ownsRow lo 9 1 (a0 g n c) n (a.map λs=>S s)):Holds encStr w g 0 a.toArray:=by
 intro j b;have d:j<a:=by simpa using b
 rw[av];refine⟨?_,h.frozenAt j⟩;rw[h.cellAt j (by have:=h.1;simp at this;omega),getElem!_pos a.toArray j b];simp[d,zV]
theorem l8(lo:Nat)(w:World)(v:Value)(a:List Bs)(h:w.ownsRow lo 9 1 v a (a.map λs=>S s))(hn:a.length<=4000000000000):
 Calls prog 186 #[v] w λe w'=>e=a4 (.tuple #[])/\w'.ownsRow lo 9 1 v a ((a.mergeSort λx y=>decide (x<=y)).map λs=>S s)/\Below lo w w'/\∀q,q<w.heap.size->v.ownBlock≠X q->w'.heap[q]?=w.heap[q]?:=by
 rcases h.2 with⟨rfl,p⟩|⟨g,i,z,rfl,_⟩
 .have u:a=[]:=ad p;subst u;refine(slices_Sort_string_none Y 0 w).mono ?_;rintro e w'⟨rfl,rfl⟩;exact⟨rfl,by simpa using h,Below.refl _ _,λ_ _ _=>rfl⟩
 have k:=h.lt g (by simp[al]);refine(slices_Sort_string g 0 i a w (ir h) k.2 (by omega)).mono ?_;rintro e w'⟨rfl,n,o,rfl⟩;refine⟨rfl,?_⟩;obtain⟨ys,l⟩:=Qe ((a.mergeSort λx y=>decide (x<=y)));have f:ys.length=a:=by rw[<- l];exact List.length_mergeSort _
 rw[l,au encStr w g 0 a.toArray ys n (ir h) (by simpa using f)];have r:(w.drewN n).ownsRow lo 9 1 (a0 g a i) a (a.map λs=>S s):=h;obtain⟨j,c⟩:=dg (ys.map encStr) 0 (w.drewN n) (a.map λs=>S s) r (by simp[f]);rw[List.take_zero,List.nil_append,av,ao (by simp[f]),List.append_nil]at j;have m:((w.drewN n).setCells g 0 (ys.map encStr)).heap.size=w:=c.size;have d:∀q,q<w.heap.size->(Sort.grow ((w.drewN n).setCells g 0 (ys.map encStr)) o).heap[q]?=((w.drewN n).setCells g 0 (ys.map encStr)).heap[q]?:=λq b=>by show(((w.drewN n).setCells g 0 (ys.map encStr)).heap++o)[q]?=_;rw[Array.getElem?_append_left (by rw[m];exact b)]
 refine⟨aj j (λq b=>?_),⟨c.os,c.tape,c.output,by rw[Sort.size_grow,m];omega,λq b=>?_⟩,λq b t=>(d q b).trans (c.block q (λe=>t (by rw[e];rfl)))⟩
 .simp[al]at b;subst b;exact d _ k.2
 rw[d q (by omega)];exact c.block q (by omega)
theorem kX(zs:List Bs):(aa zs).length<=zs:=by
 unfold aa Lib.compactUpTo;rw[List.length_map];refine Nat.le_trans (List.length_filter_le _ _) ?_;simp
theorem AW{lo e g a n:Nat}{w:World}{c:List Value}(h:w.ownsRow lo e 1 (a0 g n a) n c)(m:Nat)(o:m<=n):w.ownsRow lo e 1 (a0 g m a) m (c.take m):=by
 obtain⟨r,⟨b,_⟩|⟨q,p,d,b,f,i,s,j,k,l⟩⟩:=h
 .cases b
 injection b with a1 a2 a3
 injection a1 with a1
 injection a1 with a1
 subst a1 a3;refine⟨by rw[List.length_take];omega,.inr ⟨g,a,d,rfl,f,i,by omega,j,k,?_⟩⟩;rw[<- l,List.take_take,Nat.mul_one,Nat.mul_one,Nat.min_eq_left o]
theorem ii(lo:Nat)(w:World)(v:Value)(a:List Bs)(h:w.ownsRow lo 9 1 v a (a.map λs=>S s))(hn:a.length<=4000000000000):
 Calls prog 187 #[v] w λe w'=>∃i,e=a4 i/\w'.ownsRow lo 9 1 i (aa a).length ((aa a).map λs=>S s)/\Below lo w w'/\∀q,q<w.heap.size->v.ownBlock≠X q->w'.heap[q]?=w.heap[q]?:=by
 rcases h.2 with⟨rfl,j⟩|⟨g,c,t,rfl,_,_,l,_⟩
 .have r:a=[]:=ad j;subst r;refine(slices_Compact_string_empty Y 0 w).mono ?_;rintro e w'⟨rfl,rfl⟩;exact⟨_,rfl,(by have e:aa ([]:List Bs)=[]:=rfl;rw[e];exact h),Below.refl _ _,λ_ _ _=>rfl⟩
 have u:=h.lt g (by simp[al]);refine(slices_Compact_string g 0 c a w (ir h) (by omega) l).mono ?_;rintro e w'⟨rfl,n,rfl⟩;obtain⟨ys,f⟩:=Qe (aa a);have m:ys.length<=a:=by rw[<- f];exact kX a
 rw[f];refine⟨_,rfl,?_⟩;rw[au encStr w g 0 a.toArray _ n (ir h) (by simp;omega)];have k:(w.drewN n).ownsRow lo 9 1 (a0 g a c) a (a.map λs=>S s):=h;obtain⟨d,b⟩:=dg ((ys++List.replicate (a.length-ys) []).map encStr) 0 (w.drewN n) (a.map λs=>S s) k (by simp;omega);rw[List.take_zero,List.nil_append,av,ao (by simp;omega),List.append_nil]at d;refine⟨?_,⟨b.os,b.tape,b.output,by rw[b.size];exact Nat.le_refl _,λq p=>b.block q (by omega)⟩,λq p o=>b.block q (λe=>o (by rw[e];rfl))⟩;have:=AW d ys m;have e:((ys++List.replicate (a.length-ys) []).map encStr).take ys=ys.map encStr:=by rw[List.map_append,List.take_left' (by simp)]
 rw[e]at this;exact this
end
end Go.Proofs.YtjcimanddakkaaaGreatDoor
