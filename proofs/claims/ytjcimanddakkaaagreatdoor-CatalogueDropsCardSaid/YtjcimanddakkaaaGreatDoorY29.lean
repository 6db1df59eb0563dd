/- Lemmas. -/
import Derived.Test.YtjcimanddakkaaaGreatDoorY27
set_option maxRecDepth 100000
set_option maxHeartbeats 8000000
namespace Go.Proofs.YtjcimanddakkaaaGreatDoor
open _root_.Option renaming some→X,none→Y
open Go.Obj renaming cells→a0
open Go.Value renaming slice→a1,int→J,bool→a2
open Go.IntKind renaming i64→U
section
open Go.RowKit Go.Maps Go.Shelf
theorem ci.dec {F:Nat->Prop} {w:World} {p:Nat} {d:aq} (h:ci F w p d):∃(f j:Value) (a:Option Addr) (c:Nat),w.heap[p]? =X (a0 #[f,j,a1 a d.ps.length c] 34 (0,0))/\
 ∀k (l:k<d.ps.length),∃g,a=X ⟨g,0,Y⟩/\F g/\(w.cell? ⟨g,k * 6,Y⟩=X (J U d.ps[k].1.1.1)/\w.cell? ⟨g,k * 6+1,Y⟩=X (J U d.ps[k].1.1.2)/\w.cell? ⟨g,k * 6+2,Y⟩=X (J U d.ps[k].1.2.1)/\w.cell? ⟨g,k * 6+3,Y⟩=X (J U d.ps[k].1.2.2)/\w.cell? ⟨g,k * 6+4,Y⟩=X (J U d.ps[k].2.1)/\w.cell? ⟨g,k * 6+5,Y⟩=X (a2 d.ps[k].2.2)):=by
 obtain ⟨f,j,o,q,h⟩:=h;have e:=h.ps;obtain ⟨a,c,rfl⟩:=aM e;refine ⟨f,j,a,c,h.blk,λk l=>?_⟩;obtain ⟨g,c2,n,_⟩:=e.form (by omega);cases n;have b:∀i,i<6->w.cell? ⟨g,k * 6+i,Y⟩=(decCells d.ps[k])[i]? :=λi m=>by rw [e.cellAt (k * 6+i) (by omega),cC decCells 6 (λ_=>rfl) _ k l i m]
 exact ⟨g,rfl,h.f3 g rfl,(b 0 (by omega)).trans rfl,(b 1 (by omega)).trans rfl,(b 2 (by omega)).trans rfl,(b 3 (by omega)).trans rfl,(b 4 (by omega)).trans rfl,(b 5 (by omega)).trans rfl⟩
end
end Go.Proofs.YtjcimanddakkaaaGreatDoor
