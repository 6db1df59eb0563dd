/- Lemmas. -/
import Derived.Test.YtjcimanddakkaaaGreatDoorX0
import Derived.Test.YtjcimanddakkaaaGreatDoorX27
import Derived.Carry
import Derived.SizedLaws
import Derived.Deep.Slices
import Derived.Lib.LaidU8
import Derived.WideShapes
set_option maxRecDepth 100000
set_option maxHeartbeats 8000000
namespace Go.Proofs.YtjcimanddakkaaaGreatDoor
open Go.Proofs.Tryz renaming prog→a0a
open _root_.List renaming range→a0b,getElem?_eq_getElem→a0c
open _root_.Nat renaming zero_le→a0d
section
open Go.ChangeShapes Go.WideShapes Go.ChangeAt Go.RowKit Go.Deep
theorem yX:laidOutB a0a=true:=by kernel_rfl
section
variable {H:Type} {enc:TypeId×Value->H} {W W':World} {v:Value} {d:DataW H} {ps:List MemPlace}
theorem again {t:TypeId} (e:Tryz.prog.readableRec t=true) (f:t<Tryz.prog.types.size) (h:DataW.Trod enc a0a W 0 (λ_=>true) true t v d ps) (b:Below W.heap.size W W') (c:∀x∈ps,x.block<W.heap.size)
 {a:Nat->Bool} (g:∀p∈ps,a p.block=true):DataW.Trod enc a0a W' 0 a true t v d ps:=
 WideElems.Trod_stays yX e f h (λx i=>b.same (c x i)) g
theorem zY {z:Int} (h:(Lit.int .i64 z).wf=true):i64B z:=by
 unfold i64B;simp only [Lit.wf,IntKind.min,IntKind.max,IntKind.signed,IntKind.bits] at h;simp at h;omega
theorem tN {base:Nat} {e:Nat->Bool} {c:Bool} {b:Nat} {a:List Value} {x:DataW H×List MemPlace} (h:DataW.trod enc a0a W base e c b 3 a=some x):
 ∃z:Int,a=[.int .i64 z]/\i64B z:=by
 obtain ⟨n,rfl,_,h⟩:=DataW.trod_int Tryz.underlying3 h;exact ⟨n,rfl,zY h⟩
theorem zB:Tryz.prog.cellsOf 47=10:=by kernel_rfl
theorem zV {a:List Value} {o:Nat} {z:Int} (h:(a.drop o).take 1=[.int .i64 z]):a[o]? =some (.int .i64 z):=by
 have b:=congrArg (·[0]?) h;simpa [List.getElem?_take,List.getElem?_drop] using b
theorem uy {base:Nat} {n:Nat->Bool} {g:Bool} {c:Nat} {b:List Value} {x:DataW H×List MemPlace} (h:DataW.trod enc a0a W base n g c 45 b=some x):∀j,j<6->∃z:Int,b[j]? =some (.int .i64 z)/\i64B z:=by
 obtain ⟨o,m,rfl,_,p,q,e⟩:=DataW.trod_array Tryz.underlying45 h;intro j i;have a:=e j i;rw [sX,Nat.mul_one] at a;obtain ⟨y,k⟩:∃y,o[j]? =some y:=⟨_,a0c (by omega)⟩;rw [k] at a;obtain ⟨z,l,f⟩:=tN a;exact ⟨z,zV l,f⟩
theorem vS {base:Nat} {l:Nat->Bool} {k:Bool} {p:Nat} {b:List Value} {x:DataW H×List MemPlace} (h:DataW.trod enc a0a W base l k p 47 b=some x):∀j,j<10->∃z:Int,b[j]? =some (.int .i64 z)/\i64B z:=by
 obtain ⟨s,m,_,rfl,u,q,c⟩:=DataW.trod_struct Tryz.underlying47 h;have n:∀i,i<5->∃y,s[i]? =some y:=λi o=>⟨_,a0c (by rw [q];exact o)⟩;have r:∀i,i<4->∃z:Int,b[i]? =some (.int .i64 z)/\i64B z:=by
  intro i o;obtain ⟨y,a⟩:=n i (by omega);have f:DataW.trod enc a0a W base l k m 3 ((b.drop i).take 1)=some y:=by
   have:i=0∨i=1∨i=2∨i=3:=by omega
   rcases this with rfl|rfl|rfl|rfl
   · exact (c 0 _ rfl).trans a
   · exact (c 1 _ rfl).trans a
   · exact (c 2 _ rfl).trans a
   · exact (c 3 _ rfl).trans a
  obtain ⟨z,e,g⟩:=tN f;exact ⟨z,zV e,g⟩
 intro j t;by_cases h4:j<4
 · exact r j h4
 · obtain ⟨y,a⟩:=n 4 (by omega);have f:DataW.trod enc a0a W base l k m 45 ((b.drop 4).take 6)=some y:=(c 4 _ rfl).trans a;obtain ⟨z,e,g⟩:=uy f (j - 4) (by omega);refine ⟨z,?_,g⟩;rw [List.getElem?_take,if_pos (by omega),List.getElem?_drop,show 4+(j - 4)=j by omega] at e;exact e
theorem open_acts3 {base:Nat} (Y:Value.okWide a0a W .any base 22 v) (h:DataW.Trod enc a0a W 0 (λ_=>true) true 22 v d ps):∃l,jE W v l:=by
 obtain ⟨a,c,a0,rfl⟩:=okWide_slice Tryz.underlying22 Y;obtain ⟨a3,R⟩:=h;rcases open_slice Tryz.underlying22 R with ⟨y,_⟩|⟨F,a4,a1,m,n,D,Pl,y,_,V,P,E,hd,O⟩
 · simp [Value.cells] at y;obtain ⟨rfl,rfl,rfl⟩:=y;exact ⟨[],⟨⟨none,0,rfl,λh=>absurd rfl h⟩,λx k=>(by cases k),a0d _⟩⟩
 · simp [Value.cells] at y;obtain ⟨rfl,rfl,rfl⟩:=y;simp at E;subst E;have K:∀i,i<c->∀j,j<10->∃z:Int,W.cell? ((F.add (i * 10)).add j)=some (.int .i64 z)/\i64B z:=by intro i J j A;obtain ⟨a2,B,u⟩:=O i (by omega);rw [zB] at B;obtain ⟨_,_,G⟩:=World.cells?_some B;obtain ⟨z,t,I⟩:=vS u j A;exact ⟨z,(G j A).trans t,I⟩
   by_cases hl0:c=0
   · subst hl0;exact ⟨[],⟨⟨some F,_,rfl,λh=>absurd rfl h⟩,λx k=>(by cases k),a0d _⟩⟩
   obtain ⟨b,s,Z⟩:=F;obtain ⟨z0,N,_⟩:=K 0 (by omega) 0 (by omega);have X:Z=none:=by refine cell_spot (w:=W) (b:=b) (o:=s) (v:= .int .i64 z0) ?_;simpa [Addr.add] using N
   subst X;have t:∀p:Nat,∃z:Int,p<c * 10->W.cell? ⟨b,s+p,none⟩=some (.int .i64 z)/\i64B z:=by
    intro p;by_cases hp:p<c * 10
    · obtain ⟨z,t,I⟩:=K (p / 10) (by omega) (p%10) (by omega);refine ⟨z,λ_=>⟨?_,I⟩⟩;have Q:((⟨b,s,none⟩:Addr).add (p / 10 * 10)).add (p%10)=⟨b,s+p,none⟩:=by rw [Go.Deep.add_add,show p / 10 * 10+p%10=p from by omega];unfold Addr.add;split<;>simp_all
      rw [Q] at t;exact t
    · exact ⟨0,λh=>absurd h hp⟩
   obtain ⟨f,L⟩:=Classical.axiomOfChoice t;obtain ⟨g,M⟩:∃g:Nat->du,∀i,g i=⟨f (i * 10),f (i * 10+1),f (i * 10+2),f (i * 10+3),⟨f (i * 10+4),f (i * 10+5),f (i * 10+6),f (i * 10+7),f (i * 10+8),f (i * 10+9)⟩⟩:=⟨_,λ_=>rfl⟩;have C:((a0b c).map g).length=c:=by simp
   refine ⟨(a0b c).map g,⟨⟨some ⟨b,s,none⟩,m,by rw [C],λ_=>⟨b,s,rfl,a0d _,bq (p:=⟨b,s,none⟩) (by simpa [Addr.add] using N),λj x k=>?_⟩⟩,λx k=>?_,by rw [C];exact Nat.le_trans V P⟩⟩
   · have A:j<c * 10:=by have B:=(List.getElem?_eq_some_iff.1 k).1;rw [bP tj 10 (λ_=>rfl),C] at B;omega
     have U:j / 10<((a0b c).map g).length:=by rw [C];omega
     have u:=de tj 10 (λ_=>rfl) _ (j / 10) U (j%10) (by omega);rw [show j / 10 * 10+j%10=j by omega,k] at u;have G:((a0b c).map g)[j / 10]=g (j / 10):=by simp
     rw [G,M] at u;rw [(L j A).1,u];have T:j=j / 10 * 10+j%10:=by omega
     have E:j%10<10:=by omega
     generalize hq:j / 10=q at *;generalize hr:j%10=r at *;subst T;match r,E with
     |0,_=>rfl
     |1,_=>rfl
     |2,_=>rfl
     |3,_=>rfl
     |4,_=>rfl
     |5,_=>rfl
     |6,_=>rfl
     |7,_=>rfl
     |8,_=>rfl
     |9,_=>rfl
   · obtain ⟨i,J,rfl⟩:=List.mem_map.1 k;have J:=List.mem_range.1 J;have e:∀j,j<10->i64B (f (i * 10+j)):=λj A=>(L (i * 10+j) (by omega)).2;rw [M];exact ⟨e 0 (by omega),e 1 (by omega),e 2 (by omega),e 3 (by omega),⟨e 4 (by omega),e 5 (by omega),e 6 (by omega),e 7 (by omega),e 8 (by omega),e 9 (by omega)⟩⟩
end
end
end Go.Proofs.YtjcimanddakkaaaGreatDoor
