/- Lemmas. -/
import Derived.Test.YtjcimanddakkaaaGreatDoorX0
import Derived.Test.YtjcimanddakkaaaGreatDoorX1
import Derived.Handy
set_option maxRecDepth 100000
set_option maxHeartbeats 8000000
namespace Go.Proofs.YtjcimanddakkaaaGreatDoor
open _root_.UInt8 renaming ofNat→a0a
open Go.Proofs.Tryz renaming prog→a0b
open Go.Addr renaming add→a0c
section
open Go.RowKit
open Classical in
noncomputable def cv4 (x y z u:Option Value) (w:World) (b:Nat):Result Value:=
 if x=w.cell? ⟨b,0,none⟩/\y=w.cell? ⟨b,1,none⟩/\z=w.cell? ⟨b,2,none⟩/\u=w.cell? ⟨b,3,none⟩ then (convert 76 9 (.slice (some ⟨b,0,none⟩) 4 4)).run a0b w
 else match x,y,z,u with
  |some (.int .u8 c),some (.int .u8 d),some (.int .u8 e),some (.int .u8 f)=> .ok (S [a0a c.toNat,a0a d.toNat,a0a e.toNat,a0a f.toNat]) w
  |_,_,_,_=>(convert 76 9 (.slice (some ⟨b,0,none⟩) 4 4)).run a0b w
theorem vu (w:World) (b:Nat):(convert 76 9 (.slice (some ⟨b,0,none⟩) 4 4)).run a0b w=cv4 (w.cell? ⟨b,0,none⟩) (w.cell? ⟨b,1,none⟩) (w.cell? ⟨b,2,none⟩) (w.cell? ⟨b,3,none⟩) w b:=by
 unfold cv4;rw [if_pos ⟨rfl,rfl,rfl,rfl⟩]
theorem xM (c d e f:Int) (w:World) (b:Nat):cv4 (some (.int .u8 c)) (some (.int .u8 d)) (some (.int .u8 e)) (some (.int .u8 f)) w b= .ok (S [a0a c.toNat,a0a d.toNat,a0a e.toNat,a0a f.toNat]) w:=by
 unfold cv4;split
 · rename_i h;obtain ⟨a,g,i,k⟩:=h;have:=fG w ⟨b,0,none⟩ 4 [c,d,e,f] (λj l=>by
    have:j=0∨j=1∨j=2∨j=3:=by simp at l;omega
    rcases this with rfl|rfl|rfl|rfl
    · simpa [a0c] using a.symm
    · simpa [a0c] using g.symm
    · simpa [a0c] using i.symm
    · simpa [a0c] using k.symm)
   simpa using this
 · rfl
open Classical in
noncomputable def cv5 (x y z u v:Option Value) (w:World) (b:Nat):Result Value:=
 if x=w.cell? ⟨b,0,none⟩/\y=w.cell? ⟨b,1,none⟩/\z=w.cell? ⟨b,2,none⟩/\u=w.cell? ⟨b,3,none⟩/\v=w.cell? ⟨b,4,none⟩ then (convert 76 9 (.slice (some ⟨b,0,none⟩) 5 5)).run a0b w
 else match x,y,z,u,v with
  |some (.int .u8 c),some (.int .u8 d),some (.int .u8 e),some (.int .u8 f),some (.int .u8 g)=> .ok (S [a0a c.toNat,a0a d.toNat,a0a e.toNat,a0a f.toNat,a0a g.toNat]) w
  |_,_,_,_,_=>(convert 76 9 (.slice (some ⟨b,0,none⟩) 5 5)).run a0b w
theorem vr (w:World) (b:Nat):(convert 76 9 (.slice (some ⟨b,0,none⟩) 5 5)).run a0b w=cv5 (w.cell? ⟨b,0,none⟩) (w.cell? ⟨b,1,none⟩) (w.cell? ⟨b,2,none⟩) (w.cell? ⟨b,3,none⟩) (w.cell? ⟨b,4,none⟩) w b:=by
 unfold cv5;rw [if_pos ⟨rfl,rfl,rfl,rfl,rfl⟩]
theorem xL (c d e f g:Int) (w:World) (b:Nat):cv5 (some (.int .u8 c)) (some (.int .u8 d)) (some (.int .u8 e)) (some (.int .u8 f)) (some (.int .u8 g)) w b= .ok (S [a0a c.toNat,a0a d.toNat,a0a e.toNat,a0a f.toNat,a0a g.toNat]) w:=by
 unfold cv5;split
 · rename_i h;obtain ⟨a,i,k,l,m⟩:=h;have:=fG w ⟨b,0,none⟩ 5 [c,d,e,f,g] (λj n=>by
    have:j=0∨j=1∨j=2∨j=3∨j=4:=by simp at n;omega
    rcases this with rfl|rfl|rfl|rfl|rfl
    · simpa [a0c] using a.symm
    · simpa [a0c] using i.symm
    · simpa [a0c] using k.symm
    · simpa [a0c] using l.symm
    · simpa [a0c] using m.symm)
   simpa using this
 · rfl
attribute [go_sem] vu xM vr xL
theorem ei (v:Int):(48+v%10)%256=48+v%10:=by omega
theorem eh (v:Int) (h:0<=v):(48+v%10).toNat=48+v.toNat%10:=by omega
theorem fE (v:Int) (h:0<=v):(v / 10).toNat=v.toNat / 10:=by omega
theorem sN (v:Int) (w:World) (k:0<=v) (l:v<100000000000):
 Calls a0b 113 #[.int .i64 v, .int .i64 4] w λe w'=>e= .returned (S (fixedN 4 v.toNat))/\Below w.heap.size w w':=by
 have g:0<=v / 10/\v / 10<100000000000:=by omega
 have h:0<=v / 10 / 10/\v / 10 / 10<100000000000:=by omega
 have i:0<=v / 10 / 10 / 10/\v / 10 / 10 / 10<100000000000:=by omega
 have j:0<=v / 10 / 10 / 10 / 10/\v / 10 / 10 / 10 / 10<100000000000:=by omega
 have b:=ei (v);have c:=ei (v / 10);have d:=ei (v / 10 / 10);have f:=ei (v / 10 / 10 / 10);have a:∀W:World,(Instr.makeSlice 76 (.int .i64 4) (.int .i64 4)).run a0b W= .ok (.slice (some ⟨W.heap.size,0,none⟩) 4 4) (W.alloc (.cells #[.int .u8 0, .int .u8 0, .int .u8 0, .int .u8 0] 5)):=λ_=>by kernel_rfl
 go_enter Tryz.func113,Tryz.ntmps113;go_wp2;go_rounds 5
 go_ret;refine ⟨tL ?_,(Below.refl _ w).alloc (Nat.le_refl _) _⟩;clear a b c d f;simp only [fixedN,List.nil_append,List.cons_append];rw [eh _ (by omega),eh _ (by omega),eh _ (by omega),eh _ (by omega),fE (v / 10 / 10) (by omega),fE (v / 10) (by omega),fE (v) (by omega)]
theorem sL (v:Int) (w:World) (m:0<=v) (n:v<100000000000):
 Calls a0b 113 #[.int .i64 v, .int .i64 5] w λe w'=>e= .returned (S (fixedN 5 v.toNat))/\Below w.heap.size w w':=by
 have h:0<=v / 10/\v / 10<100000000000:=by omega
 have i:0<=v / 10 / 10/\v / 10 / 10<100000000000:=by omega
 have j:0<=v / 10 / 10 / 10/\v / 10 / 10 / 10<100000000000:=by omega
 have k:0<=v / 10 / 10 / 10 / 10/\v / 10 / 10 / 10 / 10<100000000000:=by omega
 have l:0<=v / 10 / 10 / 10 / 10 / 10/\v / 10 / 10 / 10 / 10 / 10<100000000000:=by omega
 have b:=ei (v);have c:=ei (v / 10);have d:=ei (v / 10 / 10);have f:=ei (v / 10 / 10 / 10);have g:=ei (v / 10 / 10 / 10 / 10);have a:∀W:World,(Instr.makeSlice 76 (.int .i64 5) (.int .i64 5)).run a0b W= .ok (.slice (some ⟨W.heap.size,0,none⟩) 5 5) (W.alloc (.cells #[.int .u8 0, .int .u8 0, .int .u8 0, .int .u8 0, .int .u8 0] 5)):=λ_=>by kernel_rfl
 go_enter Tryz.func113,Tryz.ntmps113;go_wp2;go_rounds 6
 go_ret;refine ⟨tL ?_,(Below.refl _ w).alloc (Nat.le_refl _) _⟩;clear a b c d f g;simp only [fixedN,List.nil_append,List.cons_append];rw [eh _ (by omega),eh _ (by omega),eh _ (by omega),eh _ (by omega),eh _ (by omega),fE (v / 10 / 10 / 10) (by omega),fE (v / 10 / 10) (by omega),fE (v / 10) (by omega),fE (v) (by omega)]
end
end Go.Proofs.YtjcimanddakkaaaGreatDoor
