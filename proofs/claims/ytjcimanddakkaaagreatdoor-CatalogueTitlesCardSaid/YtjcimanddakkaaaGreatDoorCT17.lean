/- Lemmas. -/
import Derived.Test.YtjcimanddakkaaaGreatDoorCT1
import Derived.Lib.SlicesCompact
set_option maxRecDepth 100000
set_option maxHeartbeats 8000000
namespace Go.Proofs.YtjcimanddakkaaaGreatDoor
open Go.Lib renaming compactUpTo→aa,compact→al
open _root_.List renaming mem_singleton→ad
section
open Go.RowKit
def leB(x y:Bs):Bool:=decide (x<=y)
theorem xg(a b c:Bs)(d:leB a b=true)(e:leB b c=true):leB a c=true:=by
 unfold leB at*;simp only[decide_eq_true_eq]at*;exact List.le_trans d e
theorem xh(a b:Bs):(leB a b||leB b a)=true:=by
 unfold leB;simp only[Bool.or_eq_true,decide_eq_true_eq];exact List.le_total a b
theorem qF(zs:List Bs)(p:zs.Pairwise λx y=>leB x y=true):(al zs).Nodup/\∀x,x∈al zs↔x∈zs:=by
 have key:∀m,m<=zs.length->(aa zs.toArray m).Nodup/\∀x,x∈aa zs.toArray m↔∃j,∃h:j<m,∃c:j<zs,zs[j]=x:=by
  intro m;induction m with
  |zero=>intro _;simp[aa]
  |succ m ih=>
   intro u;obtain⟨q,n⟩:=ih (by omega);have l:m<zs:=by omega
   have i:zs.toArray[m]! =zs[m]:=by simp[getElem!_pos,l]
   rw[Lib.compactUpTo_succ];by_cases f:Lib.keeps zs.toArray m=true;rotate_left
   .rw[if_neg f,List.append_nil];refine⟨q,λx=>?_⟩;rw[n];constructor
    .rintro⟨j,g,c,d⟩;exact⟨j,by omega,c,d⟩
    rintro⟨j,g,c,d⟩;by_cases e:j=m
    .subst e;unfold Lib.keeps at f;simp only[decide_eq_true_eq,not_or,ne_eq,Decidable.not_not]at f;have k:zs.toArray[j-1]! =zs[j-1]'(by omega):=by rw[getElem!_pos zs.toArray (j-1) (by simp;omega)];simp
     rw[i,k]at f;exact⟨j-1,by omega,by omega,by rw[<- f.2];exact d⟩
    exact⟨j,by omega,c,d⟩
   rw[if_pos f,i];constructor
   .rw[List.nodup_append];refine⟨q,by simp,λa r b o e=>?_⟩;rw[ad]at o;obtain⟨j,t,s,rfl⟩:=(n a).1 r;subst o;unfold Lib.keeps at f;simp only[decide_eq_true_eq]at f;rcases f with f|f
    .omega
    have k:zs.toArray[m-1]! =zs[m-1]'(by omega):=by rw[getElem!_pos zs.toArray (m-1) (by simp;omega)];simp
    rw[i,k]at f;have g:leB zs[j] (zs[m-1]'(by omega))=true:=by
     rcases Nat.lt_or_ge j (m-1)with h|h
     .exact List.pairwise_iff_getElem.1 p j (m-1) s (by omega) h
     have:j=m-1:=by omega
     subst this;unfold leB;simp
    have c:leB (zs[m-1]'(by omega)) zs[m]=true:=List.pairwise_iff_getElem.1 p (m-1) m (by omega) l (by omega);unfold leB at g c;simp only[decide_eq_true_eq]at g c;rw[e]at g;exact f (List.le_antisymm g c)
   intro x;rw[List.mem_append,n,ad];constructor
   .rintro(⟨j,g,c,d⟩|rfl)
    .exact⟨j,by omega,c,d⟩
    exact⟨m,by omega,l,rfl⟩
   rintro⟨j,g,c,d⟩;by_cases e:j=m
   .subst e;exact .inr d.symm
   exact .inl ⟨j,by omega,c,d⟩
 obtain⟨g,c⟩:=key zs (Nat.le_refl _);refine⟨g,λx=>(c x).trans ?_⟩;rw[List.mem_iff_getElem];constructor
 .rintro⟨j,h,c,d⟩;exact⟨j,h,d⟩
 rintro⟨j,h,d⟩;exact⟨j,h,h,d⟩
def keysR(a:List ag):List Bs:=al ((rawR a).mergeSort λx y=>decide (x<=y))
theorem iy(a:List ag):(keysR a).Nodup/\∀x,x∈keysR a↔x∈rawR a:=by
 have h:=qF ((rawR a).mergeSort leB) (List.pairwise_mergeSort xg xh _);refine⟨h.1,λx=>(h.2 x).trans ?_⟩;exact(List.mergeSort_perm _ _).mem_iff
end
end Go.Proofs.YtjcimanddakkaaaGreatDoor
