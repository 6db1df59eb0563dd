/- Lemmas. -/
import Derived.Test.YtjcimanddakkaaaGreatDoorQ27
import Derived.Deep.Slices
set_option maxRecDepth 100000
set_option maxHeartbeats 8000000
namespace Go.Proofs.YtjcimanddakkaaaGreatDoor
open Go.IntKind renaming i64→U
open _root_.Option renaming some→X,none→Y
open Go.Value renaming int→J
open Tryz
open _root_.List renaming range→ad,getElem?_eq_getElem→al
open _root_.Nat renaming zero_le→ao
section
open Go.ChangeShapes Go.WideShapes Go.ChangeAt Go.RowKit Go.Deep
theorem A6:laidOutB prog=true:=by kernel_rfl
section
variable {H:Type} {enc:TypeId×Value->H} {W W':World} {v:Value} {d:DataW H} {ps:List MemPlace}
theorem again {t:TypeId} (e:prog.readableRec t=true) (f:t<prog.types.size) (h:DataW.Trod enc prog W 0 (λ_=>true) true t v d ps) (b:Bw W W') (c:∀x∈ps,x.block<W.heap.size)
 {a:Nat->Bool} (g:∀p∈ps,a p.block=true):DataW.Trod enc prog W' 0 a true t v d ps:=
 WideElems.Trod_stays A6 e f h (λx i=>b.same (c x i)) g
theorem B8 {z:Int} (h:(Lit.int U z).wf=true):i64B z:=by
 unfold i64B;simp only [Lit.wf,IntKind.min,IntKind.max,IntKind.signed,IntKind.bits] at h;simp at h;omega
theorem vA {base:Nat} {c:Nat->Bool} {b:Bool} {a:Nat} {cs:List Value} {x:DataW H×List MemPlace} (h:DataW.trod enc prog W base c b a 3 cs=X x):
 ∃z:Int,cs=[J U z]/\i64B z:=by
 obtain ⟨n,rfl,_,h⟩:=DataW.trod_int underlying3 h;exact ⟨n,rfl,B8 h⟩
theorem BF:prog.cellsOf 47=10:=by kernel_rfl
theorem B5 {cs:List Value} {o:Nat} {z:Int} (h:(cs.drop o).take 1=[J U z]):cs[o]? =X (J U z):=by
 have a:=congrArg (·[0]?) h;simpa [List.getElem?_take,List.getElem?_drop] using a
theorem wo {base:Nat} {k:Nat->Bool} {e:Bool} {a:Nat} {cs:List Value} {x:DataW H×List MemPlace} (h:DataW.trod enc prog W base k e a 45 cs=X x):∀j,j<6->∃z:Int,cs[j]? =X (J U z)/\i64B z:=by
 obtain ⟨l,m,rfl,_,n,o,b⟩:=DataW.trod_array underlying45 h;intro j f;have h1:=b j f;rw [uM,Nat.mul_one] at h1;obtain ⟨y,g⟩:∃y,l[j]? =X y:=⟨_,al (by omega)⟩;rw [g] at h1;obtain ⟨z,i,c⟩:=vA h1;exact ⟨z,B5 i,c⟩
theorem xY {base:Nat} {g:Nat->Bool} {f:Bool} {n:Nat} {cs:List Value} {x:DataW H×List MemPlace} (h:DataW.trod enc prog W base g f n 47 cs=X x):∀j,j<10->∃z:Int,cs[j]? =X (J U z)/\i64B z:=by
 obtain ⟨q,m,_,rfl,s,o,b⟩:=DataW.trod_struct underlying47 h;have k:∀i,i<5->∃y,q[i]? =X y:=λi l=>⟨_,al (by rw [o];exact l)⟩;have p:∀i,i<4->∃z:Int,cs[i]? =X (J U z)/\i64B z:=by
  intro i l;obtain ⟨y,a⟩:=k i (by omega);have h1:DataW.trod enc prog W base g f m 3 ((cs.drop i).take 1)=X y:=by
   have:i=0∨i=1∨i=2∨i=3:=by omega
   rcases this with rfl|rfl|rfl|rfl
   · exact (b 0 _ rfl).trans a
   · exact (b 1 _ rfl).trans a
   · exact (b 2 _ rfl).trans a
   · exact (b 3 _ rfl).trans a
  obtain ⟨z,c,e⟩:=vA h1;exact ⟨z,B5 c,e⟩
 intro j r;by_cases h4:j<4
 · exact p j h4
 · obtain ⟨y,a⟩:=k 4 (by omega);have h1:DataW.trod enc prog W base g f m 45 ((cs.drop 4).take 6)=X y:=(b 4 _ rfl).trans a;obtain ⟨z,c,e⟩:=wo h1 (j - 4) (by omega);refine ⟨z,?_,e⟩;rw [List.getElem?_take,if_pos (by omega),List.getElem?_drop,show 4+(j - 4)=j by omega] at c;exact c
theorem open_acts3 {base:Nat} (a2:Value.okWide prog W .any base 22 v) (h:DataW.Trod enc prog W 0 (λ_=>true) true 22 v d ps):∃l,mX W v l:=by
 obtain ⟨a,c,a3,rfl⟩:=okWide_slice underlying22 a2;obtain ⟨a6,R⟩:=h;rcases open_slice underlying22 R with ⟨y,_⟩|⟨E,a7,a4,m,n,D,Pl,y,_,a0,P,C,hd,O⟩
 · simp [Value.cells] at y;obtain ⟨rfl,rfl,rfl⟩:=y;exact ⟨[],⟨⟨Y,0,rfl,λh=>absurd rfl h⟩,λx k=>(by cases k),ao _⟩⟩
 · simp [Value.cells] at y;obtain ⟨rfl,rfl,rfl⟩:=y;simp at C;subst C;have K:∀i,i<c->∀j,j<10->∃z:Int,W.cell? ((E.add (i * 10)).add j)=X (J U z)/\i64B z:=by intro i I j A;obtain ⟨a5,h1,u⟩:=O i (by omega);rw [BF] at h1;obtain ⟨_,_,F⟩:=World.cells?_some h1;obtain ⟨z,t,G⟩:=xY u j A;exact ⟨z,(F j A).trans t,G⟩
   by_cases hl0:c=0
   · subst hl0;exact ⟨[],⟨⟨X E,_,rfl,λh=>absurd rfl h⟩,λx k=>(by cases k),ao _⟩⟩
   obtain ⟨b,s,sp⟩:=E;obtain ⟨z0,N,_⟩:=K 0 (by omega) 0 (by omega);have a1:sp=Y:=by refine cell_spot (w:=W) (b:=b) (o:=s) (v:=J U z0) ?_;simpa [Addr.add] using N
   subst a1;have t:∀p:Nat,∃z:Int,p<c * 10->W.cell? ⟨b,s+p,Y⟩=X (J U z)/\i64B z:=by
    intro p;by_cases hp:p<c * 10
    · obtain ⟨z,t,G⟩:=K (p / 10) (by omega) (p%10) (by omega);refine ⟨z,λ_=>⟨?_,G⟩⟩;have Q:((⟨b,s,Y⟩:Addr).add (p / 10 * 10)).add (p%10)=⟨b,s+p,Y⟩:=by rw [Go.Deep.add_add,show p / 10 * 10+p%10=p from by omega];unfold Addr.add;split<;>simp_all
      rw [Q] at t;exact t
    · exact ⟨0,λh=>absurd h hp⟩
   obtain ⟨f,L⟩:=Classical.axiomOfChoice t;obtain ⟨g,M⟩:∃g:Nat->bG,∀i,g i=⟨f (i * 10),f (i * 10+1),f (i * 10+2),f (i * 10+3),⟨f (i * 10+4),f (i * 10+5),f (i * 10+6),f (i * 10+7),f (i * 10+8),f (i * 10+9)⟩⟩:=⟨_,λ_=>rfl⟩;have B:((ad c).map g).length=c:=by simp
   refine ⟨(ad c).map g,⟨⟨X ⟨b,s,Y⟩,m,by rw [B],λ_=>⟨b,s,rfl,ao _,bi (p:=⟨b,s,Y⟩) (by simpa [Addr.add] using N),λj x k=>?_⟩⟩,λx k=>?_,by rw [B];exact Nat.le_trans a0 P⟩⟩
   · have A:j<c * 10:=by have h1:=(List.getElem?_eq_some_iff.1 k).1;rw [bS actL 10 (λ_=>rfl),B] at h1;omega
     have V:j / 10<((ad c).map g).length:=by rw [B];omega
     have u:=cJ actL 10 (λ_=>rfl) _ (j / 10) V (j%10) (by omega);rw [show j / 10 * 10+j%10=j by omega,k] at u;have F:((ad c).map g)[j / 10]=g (j / 10):=by simp
     rw [F,M] at u;rw [(L j A).1,u];have T:j=j / 10 * 10+j%10:=by omega
     have C:j%10<10:=by omega
     generalize hq:j / 10=q at *;generalize hr:j%10=r at *;subst T;match r,C with
     |0,_=>rfl
     |1,_=>rfl
     |2,_=>rfl
     |3,_=>rfl
     |4,_=>rfl
     |5,_=>rfl
     |6,_=>rfl
     |7,_=>rfl
     |8,_=>rfl
     |9,_=>rfl
   · obtain ⟨i,I,rfl⟩:=List.mem_map.1 k;have I:=List.mem_range.1 I;have e:∀j,j<10->i64B (f (i * 10+j)):=λj A=>(L (i * 10+j) (by omega)).2;rw [M];exact ⟨e 0 (by omega),e 1 (by omega),e 2 (by omega),e 3 (by omega),⟨e 4 (by omega),e 5 (by omega),e 6 (by omega),e 7 (by omega),e 8 (by omega),e 9 (by omega)⟩⟩
end
end
end Go.Proofs.YtjcimanddakkaaaGreatDoor
