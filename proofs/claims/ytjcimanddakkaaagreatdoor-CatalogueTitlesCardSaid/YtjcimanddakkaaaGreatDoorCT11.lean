/- Lemmas. -/
import Derived.Test.YtjcimanddakkaaaGreatDoorCT4
import Derived.Handy
set_option maxRecDepth 100000
set_option maxHeartbeats 8000000
namespace Go.Proofs.YtjcimanddakkaaaGreatDoor
open _root_.Option renaming none→Y,some→X
open Go.Value renaming slice→a0,int→J
open Go.IntKind renaming u8→a1,i64→U
open Go.Ending renaming returned→a2
open Go.Obj renaming cells→a3
open Tryz
open _root_.UInt8 renaming ofNat→aa
open Go.Addr renaming add→ad
section
open Go.RowKit
open Classical in
noncomputable def cv4 (x y z u:Option Value) (w:World) (b:Nat):Result Value:=
 if x=w.cell? ⟨b,0,Y⟩/\y=w.cell? ⟨b,1,Y⟩/\z=w.cell? ⟨b,2,Y⟩/\u=w.cell? ⟨b,3,Y⟩then(convert 76 9 (a0 (X ⟨b,0,Y⟩) 4 4)).run prog w
 else match x,y,z,u with
  |some (J a1 c),X (J a1 d),X (J a1 e),X (J a1 f)=>.ok (S [aa c.toNat,aa d.toNat,aa e.toNat,aa f.toNat]) w
  |_,_,_,_=>(convert 76 9 (a0 (X ⟨b,0,Y⟩) 4 4)).run prog w
theorem xL(w:World)(b:Nat):(convert 76 9 (a0 (X ⟨b,0,Y⟩) 4 4)).run prog w=cv4 (w.cell? ⟨b,0,Y⟩) (w.cell? ⟨b,1,Y⟩) (w.cell? ⟨b,2,Y⟩) (w.cell? ⟨b,3,Y⟩) w b:=by
 unfold cv4;rw[if_pos ⟨rfl,rfl,rfl,rfl⟩]
theorem zZ(c d e f:Int)(w:World)(b:Nat):cv4 (X (J a1 c)) (X (J a1 d)) (X (J a1 e)) (X (J a1 f)) w b=.ok (S [aa c.toNat,aa d.toNat,aa e.toNat,aa f.toNat]) w:=by
 unfold cv4;split
 .rename_i h;obtain⟨a,g,i,k⟩:=h;have:=gB w ⟨b,0,Y⟩ 4 [c,d,e,f] (λj l=>by
   have:j=0∨j=1∨j=2∨j=3:=by simp at l;omega
   rcases this with rfl|rfl|rfl|rfl
   .simpa[ad]using a.symm
   .simpa[ad]using g.symm
   .simpa[ad]using i.symm
   simpa[ad]using k.symm)
  simpa using this
 rfl
open Classical in
noncomputable def cv5 (x y z u v:Option Value) (w:World) (b:Nat):Result Value:=
 if x=w.cell? ⟨b,0,Y⟩/\y=w.cell? ⟨b,1,Y⟩/\z=w.cell? ⟨b,2,Y⟩/\u=w.cell? ⟨b,3,Y⟩/\v=w.cell? ⟨b,4,Y⟩then(convert 76 9 (a0 (X ⟨b,0,Y⟩) 5 5)).run prog w
 else match x,y,z,u,v with
  |some (J a1 c),X (J a1 d),X (J a1 e),X (J a1 f),X (J a1 g)=>.ok (S [aa c.toNat,aa d.toNat,aa e.toNat,aa f.toNat,aa g.toNat]) w
  |_,_,_,_,_=>(convert 76 9 (a0 (X ⟨b,0,Y⟩) 5 5)).run prog w
theorem xK(w:World)(b:Nat):(convert 76 9 (a0 (X ⟨b,0,Y⟩) 5 5)).run prog w=cv5 (w.cell? ⟨b,0,Y⟩) (w.cell? ⟨b,1,Y⟩) (w.cell? ⟨b,2,Y⟩) (w.cell? ⟨b,3,Y⟩) (w.cell? ⟨b,4,Y⟩) w b:=by
 unfold cv5;rw[if_pos ⟨rfl,rfl,rfl,rfl,rfl⟩]
theorem zY(c d e f g:Int)(w:World)(b:Nat):cv5 (X (J a1 c)) (X (J a1 d)) (X (J a1 e)) (X (J a1 f)) (X (J a1 g)) w b=.ok (S [aa c.toNat,aa d.toNat,aa e.toNat,aa f.toNat,aa g.toNat]) w:=by
 unfold cv5;split
 .rename_i h;obtain⟨a,i,k,l,m⟩:=h;have:=gB w ⟨b,0,Y⟩ 5 [c,d,e,f,g] (λj n=>by
   have:j=0∨j=1∨j=2∨j=3∨j=4:=by simp at n;omega
   rcases this with rfl|rfl|rfl|rfl|rfl
   .simpa[ad]using a.symm
   .simpa[ad]using i.symm
   .simpa[ad]using k.symm
   .simpa[ad]using l.symm
   simpa[ad]using m.symm)
  simpa using this
 rfl
attribute [go_sem] xL zZ xK zY
theorem eV(v:Int):(48+v%10)%256=48+v%10:=by omega
theorem eU(v:Int)(h:0<=v):(48+v%10).toNat=48+v.toNat%10:=by omega
theorem gA(v:Int)(h:0<=v):(v/10).toNat=v.toNat/10:=by omega
theorem uI(v:Int)(w:World)(k:0<=v)(l:v<100000000000):
 Calls prog 113 #[J U v,J U 4] w λe w'=>e=a2 (S (fixedN 4 v.toNat))/\Bw w w':=by
 have g:0<=v/10/\v/10<100000000000:=by omega
 have h:0<=v/10/10/\v/10/10<100000000000:=by omega
 have i:0<=v/10/10/10/\v/10/10/10<100000000000:=by omega
 have j:0<=v/10/10/10/10/\v/10/10/10/10<100000000000:=by omega
 have b:=eV (v);have c:=eV (v/10);have d:=eV (v/10/10);have f:=eV (v/10/10/10);have a:∀W:World,(Instr.makeSlice 76 (J U 4) (J U 4)).run prog W=.ok (a0 (X ⟨W.heap.size,0,Y⟩) 4 4) (W.alloc (a3 #[J a1 0,J a1 0,J a1 0,J a1 0] 5)):=λ_=>by kernel_rfl
 go_enter func113,ntmps113;go_wp2;go_rounds 5
 go_ret;refine⟨vC ?_,(Below.refl _ w).alloc (Nat.le_refl _) _⟩;clear a b c d f;simp only[fixedN,List.nil_append,List.cons_append];rw[eU _ (by omega),eU _ (by omega),eU _ (by omega),eU _ (by omega),gA (v/10/10) (by omega),gA (v/10) (by omega),gA (v) (by omega)]
theorem uH(v:Int)(w:World)(m:0<=v)(n:v<100000000000):
 Calls prog 113 #[J U v,J U 5] w λe w'=>e=a2 (S (fixedN 5 v.toNat))/\Bw w w':=by
 have h:0<=v/10/\v/10<100000000000:=by omega
 have i:0<=v/10/10/\v/10/10<100000000000:=by omega
 have j:0<=v/10/10/10/\v/10/10/10<100000000000:=by omega
 have k:0<=v/10/10/10/10/\v/10/10/10/10<100000000000:=by omega
 have l:0<=v/10/10/10/10/10/\v/10/10/10/10/10<100000000000:=by omega
 have b:=eV (v);have c:=eV (v/10);have d:=eV (v/10/10);have f:=eV (v/10/10/10);have g:=eV (v/10/10/10/10);have a:∀W:World,(Instr.makeSlice 76 (J U 5) (J U 5)).run prog W=.ok (a0 (X ⟨W.heap.size,0,Y⟩) 5 5) (W.alloc (a3 #[J a1 0,J a1 0,J a1 0,J a1 0,J a1 0] 5)):=λ_=>by kernel_rfl
 go_enter func113,ntmps113;go_wp2;go_rounds 6
 go_ret;refine⟨vC ?_,(Below.refl _ w).alloc (Nat.le_refl _) _⟩;clear a b c d f g;simp only[fixedN,List.nil_append,List.cons_append];rw[eU _ (by omega),eU _ (by omega),eU _ (by omega),eU _ (by omega),eU _ (by omega),gA (v/10/10/10) (by omega),gA (v/10/10) (by omega),gA (v/10) (by omega),gA (v) (by omega)]
end
end Go.Proofs.YtjcimanddakkaaaGreatDoor
