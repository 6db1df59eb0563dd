/- Lemmas. -/
import Derived.Test.YtjcimanddakkaaaGreatDoorCT32
import Derived.Deep.Slices
set_option maxRecDepth 100000
set_option maxHeartbeats 8000000
namespace Go.Proofs.YtjcimanddakkaaaGreatDoor
open Go.IntKind renaming i64→U
open _root_.Option renaming some→X,none→Y
open Go.Value renaming int→J
open Tryz
open _root_.List renaming range→aa,getElem?_eq_getElem→ad
open _root_.Nat renaming zero_le→al
section
open Go.ChangeShapes Go.WideShapes Go.ChangeAt Go.RowKit Go.Deep
theorem BB:laidOutB prog=true:=by kernel_rfl
section
variable {H:Type} {enc:TypeId×Value->H} {W W':World} {v:Value} {d:DataW H} {ps:List MemPlace}
theorem again{t:TypeId}(e:prog.readableRec t=true)(f:t<prog.types.size)(h:DataW.Trod enc prog W 0 (λ_=>true) true t v d ps)(b:Bw W W')(c:∀x∈ps,x.block<W)
 {a:Nat->Bool}(g:∀p∈ps,a p.block=true):DataW.Trod enc prog W' 0 a true t v d ps:=
 WideElems.Trod_stays BB e f h (λx i=>b.same (c x i)) g
theorem wf_i64{z:Int}(h:(Lit.int U z).wf=true):i64B z:=by
 unfold i64B;simp only[Lit.wf,IntKind.min,IntKind.max,IntKind.signed,IntKind.bits]at h;simp at h;omega
theorem vE{base:Nat}{e:Nat->Bool}{c:Bool}{b:Nat}{a:List Value}{x:DataW H×List MemPlace}(h:DataW.trod enc prog W base e c b 3 a=X x):
 ∃z:Int,a=[J U z]/\i64B z:=by
 obtain⟨n,rfl,_,h⟩:=DataW.trod_int underlying3 h;exact⟨n,rfl,wf_i64 h⟩
theorem B7:prog.cellsOf 47=10:=by kernel_rfl
theorem Cv{a:List Value}{o:Nat}{z:Int}(h:(a.drop o).take 1=[J U z]):a[o]?=X (J U z):=by
 have b:=congrArg (·[0]?) h;simpa[List.getElem?_take,List.getElem?_drop]using b
theorem wG{base:Nat}{n:Nat->Bool}{g:Bool}{c:Nat}{b:List Value}{x:DataW H×List MemPlace}(h:DataW.trod enc prog W base n g c 45 b=X x):∀j,j<6->∃z:Int,b[j]?=X (J U z)/\i64B z:=by
 obtain⟨o,m,rfl,_,p,q,e⟩:=DataW.trod_array underlying45 h;intro j i;have a:=e j i;rw[uS,Nat.mul_one]at a;obtain⟨y,k⟩:∃y,o[j]?=X y:=⟨_,ad (by omega)⟩;rw[k]at a;obtain⟨z,l,f⟩:=vE a;exact⟨z,Cv l,f⟩
theorem yh{base:Nat}{l:Nat->Bool}{k:Bool}{p:Nat}{b:List Value}{x:DataW H×List MemPlace}(h:DataW.trod enc prog W base l k p 47 b=X x):∀j,j<10->∃z:Int,b[j]?=X (J U z)/\i64B z:=by
 obtain⟨s,m,_,rfl,u,q,c⟩:=DataW.trod_struct underlying47 h;have n:∀i,i<5->∃y,s[i]?=X y:=λi o=>⟨_,ad (by rw[q];exact o)⟩;have r:∀i,i<4->∃z:Int,b[i]?=X (J U z)/\i64B z:=by
  intro i o;obtain⟨y,a⟩:=n i (by omega);have f:DataW.trod enc prog W base l k m 3 ((b.drop i).take 1)=X y:=by
   have:i=0∨i=1∨i=2∨i=3:=by omega
   rcases this with rfl|rfl|rfl|rfl
   .exact(c 0 _ rfl).trans a
   .exact(c 1 _ rfl).trans a
   .exact(c 2 _ rfl).trans a
   exact(c 3 _ rfl).trans a
  obtain⟨z,e,g⟩:=vE f;exact⟨z,Cv e,g⟩
 intro j t;by_cases h4:j<4
 .exact r j h4
 obtain⟨y,a⟩:=n 4 (by omega);have f:DataW.trod enc prog W base l k m 45 ((b.drop 4).take 6)=X y:=(c 4 _ rfl).trans a;obtain⟨z,e,g⟩:=wG f (j-4) (by omega);refine⟨z,?_,g⟩;rw[List.getElem?_take,if_pos (by omega),List.getElem?_drop,show 4+(j-4)=j by omega]at e;exact e
theorem open_acts3{base:Nat}(a2:Value.okWide prog W .any base 22 v)(h:DataW.Trod enc prog W 0 (λ_=>true) true 22 v d ps):∃l,ip W v l:=by
 obtain⟨a,c,a3,rfl⟩:=okWide_slice underlying22 a2;obtain⟨a6,T⟩:=h;rcases open_slice underlying22 T with⟨y,_⟩|⟨F,a7,a4,m,n,D,Pl,y,_,a0,Q,E,hd,P⟩
 .simp[Value.cells]at y;obtain⟨rfl,rfl,rfl⟩:=y;exact⟨[],⟨⟨Y,0,rfl,λh=>absurd rfl h⟩,λx k=>(by cases k),al _⟩⟩
 simp[Value.cells]at y;obtain⟨rfl,rfl,rfl⟩:=y;simp at E;subst E;have L:∀i,i<c->∀j,j<10->∃z:Int,W.cell? ((F.add (i*10)).add j)=X (J U z)/\i64B z:=by intro i K j A;obtain⟨a5,B,u⟩:=P i (by omega);rw[B7]at B;obtain⟨_,_,G⟩:=World.cells?_some B;obtain⟨z,t,I⟩:=yh u j A;exact⟨z,(G j A).trans t,I⟩
 by_cases hl0:c=0
 .subst hl0;exact⟨[],⟨⟨X F,_,rfl,λh=>absurd rfl h⟩,λx k=>(by cases k),al _⟩⟩
 obtain⟨b,s,sp⟩:=F;obtain⟨z0,O,_⟩:=L 0 (by omega) 0 (by omega);have a1:sp=Y:=by refine cell_spot (w:=W) (b:=b) (o:=s) (v:=J U z0) ?_;simpa[Addr.add]using O
 subst a1;have t:∀p:Nat,∃z:Int,p<c*10->W.cell? ⟨b,s+p,Y⟩=X (J U z)/\i64B z:=by
  intro p;by_cases hp:p<c*10
  .obtain⟨z,t,I⟩:=L (p/10) (by omega) (p%10) (by omega);refine⟨z,λ_=>⟨?_,I⟩⟩;have R:((⟨b,s,Y⟩:Addr).add (p/10*10)).add (p%10)=⟨b,s+p,Y⟩:=by rw[Go.Deep.add_add,show p/10*10+p%10=p from by omega];unfold Addr.add;split<;>simp_all
   rw[R]at t;exact t
  exact⟨0,λh=>absurd h hp⟩
 obtain⟨f,M⟩:=Classical.axiomOfChoice t;obtain⟨g,N⟩:∃g:Nat->dP,∀i,g i=⟨f (i*10),f (i*10+1),f (i*10+2),f (i*10+3),⟨f (i*10+4),f (i*10+5),f (i*10+6),f (i*10+7),f (i*10+8),f (i*10+9)⟩⟩:=⟨_,λ_=>rfl⟩;have C:((aa c).map g).length=c:=by simp
 refine⟨(aa c).map g,⟨⟨X ⟨b,s,Y⟩,m,by rw[C],λ_=>⟨b,s,rfl,al _,bE (p:=⟨b,s,Y⟩) (by simpa[Addr.add]using O),λj x k=>?_⟩⟩,λx k=>?_,by rw[C];exact Nat.le_trans a0 Q⟩⟩
 .have A:j<c*10:=by have B:=(List.getElem?_eq_some_iff.1 k).1;rw[bR actL 10 (λ_=>rfl),C]at B;omega
  have hk:j/10<((aa c).map g).length:=by rw[C];omega
  have u:=cE actL 10 (λ_=>rfl) _ (j/10) hk (j%10) (by omega);rw[show j/10*10+j%10=j by omega,k]at u;have G:((aa c).map g)[j/10]=g (j/10):=by simp
  rw[G,N]at u;rw[(M j A).1,u];have V:j=j/10*10+j%10:=by omega
  have E:j%10<10:=by omega
  generalize hq:j/10=q at*;generalize hr:j%10=r at*;subst V;match r,E with
  |0,_=>rfl
  |1,_=>rfl
  |2,_=>rfl
  |3,_=>rfl
  |4,_=>rfl
  |5,_=>rfl
  |6,_=>rfl
  |7,_=>rfl
  |8,_=>rfl
  |9,_=>rfl
 obtain⟨i,K,rfl⟩:=List.mem_map.1 k;have K:=List.mem_range.1 K;have e:∀j,j<10->i64B (f (i*10+j)):=λj A=>(M (i*10+j) (by omega)).2;rw[N];exact⟨e 0 (by omega),e 1 (by omega),e 2 (by omega),e 3 (by omega),⟨e 4 (by omega),e 5 (by omega),e 6 (by omega),e 7 (by omega),e 8 (by omega),e 9 (by omega)⟩⟩
end
end
end Go.Proofs.YtjcimanddakkaaaGreatDoor
