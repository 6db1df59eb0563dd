/- Lemmas. -/
import Derived.Test.YtjcimanddakkaaaGreatDoorCT29
set_option maxRecDepth 100000
set_option maxHeartbeats 8000000
namespace Go.Proofs.YtjcimanddakkaaaGreatDoor
open _root_.Option renaming some→X,none→Y
open Go.Obj renaming cells→a0
open Go.Value renaming int→J,slice→a2
open Go.IntKind renaming u8→a1
open Go.Ending renaming returned→a3
open Tryz
open Go.World renaming alloc_heap_new→aa
open Go.RowKit.Below renaming heap_alloc→ad
section
open Go.RowKit Go.Maps Go.Shelf
theorem vg{lo a:Nat}{W:World}{b:Nat}{c1:UInt8}{t1:Bs}(h:W.heap[b]?=X (a0 #[J a1 c1,S t1] 120 (0,0)))(d:lo<=b)(c:b<a):aE lo a W (a2 b 1 1) [⟨c1,t1⟩]:=by
 refine⟨_,_,rfl,λ_=>⟨b,0,rfl,d,c,λj x e=>?_⟩⟩;rw[Nat.zero_add,ab h,<- e];simp[subCells]
theorem vf(t:Bs)(w:World):
 Calls prog 28 #[S t] w λe w'=>∃(a:Option Addr)(c:Nat),e=a3 (.agg #[J a1 97,J a1 109,a2 a 2 c])/\ah w w' w' (a2 a 2 c) (ez t).fields/\Bw w w':=by
 go_enter func28,ntmps28;go_wp2_with fail;refine bodyPost_ret (v:=.agg #[J a1 97,J a1 109,a2 (X ⟨w.heap.size+3,0,Y⟩) 2 2]) (by rw[df rfl];go_simp) rfl ?_;obtain⟨w1,k⟩:=Qe (w.alloc (a0 #[J a1 97,J a1 109,a2 (X ⟨w.heap.size+1+1+1,0,Y⟩) 2 2] 62));obtain⟨h,b⟩:=Qe (w1.alloc (a0 #[J a1 97,S [90,111,108,97]] 120));obtain⟨i,d⟩:=Qe (h.alloc (a0 #[J a1 97,S t] 120));obtain⟨g,f⟩:=Qe (i.alloc (a0 #[S [49,48,48],S [49,32],S [],a2 (X ⟨w.heap.size+1,0,Y⟩) 1 1,S [50,52,53],S [49,48],S [],a2 (X ⟨w.heap.size+1+1,0,Y⟩) 1 1] 123));have m:w1.heap.size=w+1:=by rw[<- k];simp
 have n:h.heap.size=w+2:=by rw[<- b];simp[m]
 have o:i.heap.size=w+3:=by rw[<- d];simp[n]
 have A:g.heap.size=w+4:=by rw[<- f];simp[o]
 have q:Bw w w1:=by rw[<- k];exact(Below.refl _ w).alloc (Nat.le_refl _) _
 have r:Bw w g:=by rw[<- f,<- d,<- b];exact((q.alloc (by omega) _).alloc (by rw[b];omega) _).alloc (by rw[b,d];omega) _
 have s:g.heap[w.heap.size+1]?=X (a0 #[J a1 97,S [90,111,108,97]] 120 (0,0)):=by rw[<- f,ad _ _ _ (by omega),<- d,ad _ _ _ (by omega),<- b,<- m];exact aa w1 _
 have u:g.heap[w.heap.size+2]?=X (a0 #[J a1 97,S t] 120 (0,0)):=by rw[<- f,ad _ _ _ (by omega),<- d,<- n];exact aa h _
 have y:g.heap[w.heap.size+3]?=X (a0 #[S [49,48,48],S [49,32],S [],a2 (X ⟨w.heap.size+1,0,Y⟩) 1 1,S [50,52,53],S [49,48],S [],a2 (X ⟨w.heap.size+1+1,0,Y⟩) 1 1] 123 (0,0)):=by rw[<- f,<- o];exact aa i _
 refine⟨_,_,rfl,?_,?_⟩
 .show ah w ((((w.alloc (a0 #[J a1 97,J a1 109,a2 (X ⟨w.heap.size+1+1+1,0,Y⟩) 2 2] 62)).alloc (a0 #[J a1 97,S [90,111,108,97]] 120)).alloc (a0 #[J a1 97,S t] 120)).alloc (a0 #[S [49,48,48],S [49,32],S [],a2 (X ⟨w.heap.size+1,0,Y⟩) 1 1,S [50,52,53],S [49,48],S [],a2 (X ⟨w.heap.size+1+1,0,Y⟩) 1 1] 123)).heap.size ((((w.alloc (a0 #[J a1 97,J a1 109,a2 (X ⟨w.heap.size+1+1+1,0,Y⟩) 2 2] 62)).alloc (a0 #[J a1 97,S [90,111,108,97]] 120)).alloc (a0 #[J a1 97,S t] 120)).alloc (a0 #[S [49,48,48],S [49,32],S [],a2 (X ⟨w.heap.size+1,0,Y⟩) 1 1,S [50,52,53],S [49,48],S [],a2 (X ⟨w.heap.size+1+1,0,Y⟩) 1 1] 123)) (a2 (X ⟨w.heap.size+3,0,Y⟩) 2 2) (ez t).fields;rw[k,b,d,f];refine⟨[(⟨ek,[49,32],[],[⟨97,[90,111,108,97]⟩]⟩,a2 (X ⟨w.heap.size+1,0,Y⟩) 1 1),(⟨cA,[49,48],[],[⟨97,t⟩]⟩,a2 (X ⟨w.heap.size+2,0,Y⟩) 1 1)],rfl,λp l=>?_,?_⟩
  .simp only[List.mem_cons,List.not_mem_nil,or_false]at l;rcases l with rfl|rfl
   .exact vg (c1:=97) s (by omega) (by omega)
   exact vg (c1:=97) u (by omega) (by omega)
  refine⟨_,_,rfl,λ_=>⟨w.heap.size+3,0,rfl,by omega,by omega,λj x z=>?_⟩⟩;rw[Nat.zero_add,ab y,<- z];simp[fieldCells,ek,cA]
 show Bw w ((((w.alloc (a0 #[J a1 97,J a1 109,a2 (X ⟨w.heap.size+1+1+1,0,Y⟩) 2 2] 62)).alloc (a0 #[J a1 97,S [90,111,108,97]] 120)).alloc (a0 #[J a1 97,S t] 120)).alloc (a0 #[S [49,48,48],S [49,32],S [],a2 (X ⟨w.heap.size+1,0,Y⟩) 1 1,S [50,52,53],S [49,48],S [],a2 (X ⟨w.heap.size+1+1,0,Y⟩) 1 1] 123));rw[k,b,d,f];exact r
end
end Go.Proofs.YtjcimanddakkaaaGreatDoor
