/- Lemmas. -/
import Derived.Test.YtjcimanddakkaaaGreatDoorCT34
set_option maxRecDepth 100000
set_option maxHeartbeats 8000000
namespace Go.Proofs.YtjcimanddakkaaaGreatDoor
open Go.IntKind renaming u8→a0
open _root_.Option renaming some→X
open Go.Value renaming int→J
open Tryz
section
open Go.ChangeShapes Go.WideShapes Go.ChangeAt Go.RowKit Go.Deep
section
variable {H:Type} {enc:TypeId×Value->H} {W W':World} {v:Value} {d:DataW H} {ps:List MemPlace}
theorem wf_u8{z:Int}(h:(Lit.int a0 z).wf=true):0<=z/\z<256:=by
 simp only[Lit.wf,IntKind.min,IntKind.max,IntKind.signed,IntKind.bits]at h;simp at h;omega
theorem CN{base:Nat}{e:Nat->Bool}{c:Bool}{b:Nat}{a:List Value}{x:DataW H×List MemPlace}(h:DataW.trod enc prog W base e c b 5 a=X x):
 ∃z:Int,a=[J a0 z]/\(0<=z/\z<256):=by
 obtain⟨n,rfl,_,h⟩:=DataW.trod_int underlying5 h;exact⟨n,rfl,wf_u8 h⟩
theorem C1:prog.cellsOf 5=1:=by kernel_rfl
theorem B6:prog.cellsOf 70=2:=by kernel_rfl
theorem C3{a:List Value}{o:Nat}{z:Int}(h:(a.drop o).take 1=[J a0 z]):a[o]?=X (J a0 z):=by
 have b:=congrArg (·[0]?) h;simpa[List.getElem?_take,List.getElem?_drop]using b
theorem open_bytes2{base:Nat}(k:Value.okWide prog W .any base 70 v)(h:DataW.Trod enc prog W 0 (λ_=>true) true 70 v d ps):
 ∃a b:Int,v=.agg #[J a0 a,J a0 b]/\(0<=a/\a<256)/\(0<=b/\b<256):=by
 have s:∃e,v=.agg e:=by simp only[Value.okWide,underlying70]at k;obtain⟨e,f,_⟩:=k;exact⟨e,f⟩
 obtain⟨e,rfl⟩:=s;obtain⟨A,q⟩:=h;obtain⟨w,m,rfl,_,j,B,o⟩:=DataW.trod_array underlying70 q;rw[B6]at j;have key:∀i,i<2->∃z:Int,e.toList[i]?=X (J a0 z)/\(0<=z/\z<256):=by intro i r;have f:=o i r;rw[C1,Nat.mul_one]at f;obtain⟨y,t⟩:∃y,w[i]?=X y:=⟨_,List.getElem?_eq_getElem (by omega)⟩;rw[t]at f;obtain⟨z,u,c⟩:=CN f;exact⟨z,C3 u,c⟩
 obtain⟨a,g,n⟩:=key 0 (by omega);obtain⟨b,c,p⟩:=key 1 (by omega);refine⟨a,b,?_,n,p⟩;obtain⟨l⟩:=e;simp only[Value.cells]at j g c;match l,j,g,c with
 |[x,y],_,g,c=>simp at g c;subst g c;rfl
end
end
end Go.Proofs.YtjcimanddakkaaaGreatDoor
