/- Lemmas. -/
import Derived.Test.YtjcimanddakkaaaGreatDoorX0
import Derived.Test.YtjcimanddakkaaaGreatDoorX1
import Derived.Test.YtjcimanddakkaaaGreatDoorX3
import Derived.Test.YtjcimanddakkaaaGreatDoorX4
set_option maxRecDepth 100000
set_option maxHeartbeats 8000000
namespace Go.Proofs.YtjcimanddakkaaaGreatDoor
open Go.World renaming alloc_heap_new→a0a
open Go.RowKit.Below renaming heap_alloc→a0b
section
open Go.RowKit Go.Maps Go.Shelf
theorem tq {lo a:Nat} {W:World} {b:Nat} {c1:UInt8} {t1:Bs} (h:W.heap[b]? =some (.cells #[.int .u8 c1.toNat,S t1] 120 (0,0))) (d:lo<=b) (c:b<a):az lo a W (.slice (some ⟨b,0,none⟩) 1 1) [⟨c1,t1⟩]:=by
 refine ⟨_,_,rfl,λ_=>⟨b,0,rfl,d,c,λj x e=>?_⟩⟩;rw [Nat.zero_add,aa h, <- e];simp [subCells]
theorem tp (t:Bs) (w:World):
 Calls Tryz.prog 28 #[S t] w λe w'=>∃(a:Option Addr) (c:Nat),e= .returned (.agg #[.int .u8 97, .int .u8 109, .slice a 2 c])/\ai w.heap.size w'.heap.size w' (.slice a 2 c) (dS t).fields/\Below w.heap.size w w':=by
 go_enter Tryz.func28,Tryz.ntmps28;go_wp2_with fail
 refine bodyPost_ret (v:= .agg #[.int .u8 97, .int .u8 109, .slice (some ⟨w.heap.size+3,0,none⟩) 2 2]) (by rw [cI rfl];go_simp) rfl ?_;obtain ⟨w1,k⟩:∃w1,w.alloc (.cells #[.int .u8 97, .int .u8 109, .slice (some ⟨w.heap.size+1+1+1,0,none⟩) 2 2] 62)=w1:=⟨_,rfl⟩;obtain ⟨h,b⟩:∃h,w1.alloc (.cells #[.int .u8 97,S [90,111,108,97]] 120)=h:=⟨_,rfl⟩;obtain ⟨i,d⟩:∃i,h.alloc (.cells #[.int .u8 97,S t] 120)=i:=⟨_,rfl⟩;obtain ⟨g,f⟩:∃g,i.alloc (.cells #[S [49,48,48],S [49,32],S [], .slice (some ⟨w.heap.size+1,0,none⟩) 1 1,S [50,52,53],S [49,48],S [], .slice (some ⟨w.heap.size+1+1,0,none⟩) 1 1] 123)=g:=⟨_,rfl⟩;have m:w1.heap.size=w.heap.size+1:=by rw [<- k];simp
 have n:h.heap.size=w.heap.size+2:=by rw [<- b];simp [m]
 have o:i.heap.size=w.heap.size+3:=by rw [<- d];simp [n]
 have A:g.heap.size=w.heap.size+4:=by rw [<- f];simp [o]
 have q:Below w.heap.size w w1:=by rw [<- k];exact (Below.refl _ w).alloc (Nat.le_refl _) _
 have r:Below w.heap.size w g:=by rw [<- f, <- d, <- b];exact ((q.alloc (by omega) _).alloc (by rw [b];omega) _).alloc (by rw [b,d];omega) _
 have s:g.heap[w.heap.size+1]? =some (.cells #[.int .u8 97,S [90,111,108,97]] 120 (0,0)):=by rw [<- f,a0b _ _ _ (by omega), <- d,a0b _ _ _ (by omega), <- b, <- m];exact a0a w1 _
 have u:g.heap[w.heap.size+2]? =some (.cells #[.int .u8 97,S t] 120 (0,0)):=by rw [<- f,a0b _ _ _ (by omega), <- d, <- n];exact a0a h _
 have y:g.heap[w.heap.size+3]? =some (.cells #[S [49,48,48],S [49,32],S [], .slice (some ⟨w.heap.size+1,0,none⟩) 1 1,S [50,52,53],S [49,48],S [], .slice (some ⟨w.heap.size+1+1,0,none⟩) 1 1] 123 (0,0)):=by rw [<- f, <- o];exact a0a i _
 refine ⟨_,_,rfl,?_,?_⟩
 · show ai w.heap.size ((((w.alloc (.cells #[.int .u8 97, .int .u8 109, .slice (some ⟨w.heap.size+1+1+1,0,none⟩) 2 2] 62)).alloc (.cells #[.int .u8 97,S [90,111,108,97]] 120)).alloc (.cells #[.int .u8 97,S t] 120)).alloc (.cells #[S [49,48,48],S [49,32],S [], .slice (some ⟨w.heap.size+1,0,none⟩) 1 1,S [50,52,53],S [49,48],S [], .slice (some ⟨w.heap.size+1+1,0,none⟩) 1 1] 123)).heap.size ((((w.alloc (.cells #[.int .u8 97, .int .u8 109, .slice (some ⟨w.heap.size+1+1+1,0,none⟩) 2 2] 62)).alloc (.cells #[.int .u8 97,S [90,111,108,97]] 120)).alloc (.cells #[.int .u8 97,S t] 120)).alloc (.cells #[S [49,48,48],S [49,32],S [], .slice (some ⟨w.heap.size+1,0,none⟩) 1 1,S [50,52,53],S [49,48],S [], .slice (some ⟨w.heap.size+1+1,0,none⟩) 1 1] 123)) (.slice (some ⟨w.heap.size+3,0,none⟩) 2 2) (dS t).fields;rw [k,b,d,f];refine ⟨[(⟨dI,[49,32],[],[⟨97,[90,111,108,97]⟩]⟩, .slice (some ⟨w.heap.size+1,0,none⟩) 1 1),(⟨bX,[49,48],[],[⟨97,t⟩]⟩, .slice (some ⟨w.heap.size+2,0,none⟩) 1 1)],rfl,λp l=>?_,?_⟩
   · simp only [List.mem_cons,List.not_mem_nil,or_false] at l;rcases l with rfl|rfl
     · exact tq (c1:=97) s (by omega) (by omega)
     · exact tq (c1:=97) u (by omega) (by omega)
   · refine ⟨_,_,rfl,λ_=>⟨w.heap.size+3,0,rfl,by omega,by omega,λj x z=>?_⟩⟩;rw [Nat.zero_add,aa y, <- z];simp [fieldCells,dI,bX]
 · show Below w.heap.size w ((((w.alloc (.cells #[.int .u8 97, .int .u8 109, .slice (some ⟨w.heap.size+1+1+1,0,none⟩) 2 2] 62)).alloc (.cells #[.int .u8 97,S [90,111,108,97]] 120)).alloc (.cells #[.int .u8 97,S t] 120)).alloc (.cells #[S [49,48,48],S [49,32],S [], .slice (some ⟨w.heap.size+1,0,none⟩) 1 1,S [50,52,53],S [49,48],S [], .slice (some ⟨w.heap.size+1+1,0,none⟩) 1 1] 123));rw [k,b,d,f];exact r
end
end Go.Proofs.YtjcimanddakkaaaGreatDoor
