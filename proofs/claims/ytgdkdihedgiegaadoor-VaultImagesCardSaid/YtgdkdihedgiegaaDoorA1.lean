/-
  Words for bytes and memory.
-/
import Derived.WalkKit
import Derived.WalkSpells
import Derived.WalkLawsBesides
import Derived.Lib.Hide
import Derived.Lib.Strings
namespace Go.Proofs.YtgdkdihedgiegaaDoor
open Go.RowKit

abbrev Bs := List UInt8
/-- A list of bytes as a Go string. -/
abbrev S (l : Bs) : Value := .string ⟨l.toArray⟩

theorem ba_get (l : Bs) (k : Nat) (h : k < (⟨l.toArray⟩ : ByteArray).size) : (⟨l.toArray⟩ : ByteArray)[k]'h = l[k]'(by simpa [ByteArray.size] using h) := rfl
attribute [go_sem] ba_get
theorem ba_list (l : Bs) : (⟨l.toArray⟩ : ByteArray).toList = l := by rw [Lib.toList_data]
theorem ba_extract (l : Bs) (a b : Nat) : (⟨l.toArray⟩ : ByteArray).extract a b = ⟨((l.take b).drop a).toArray⟩ := by
  apply ByteArray.ext
  rw [ByteArray.data_extract]
  simp [List.extract_eq_take_drop, List.drop_take]
theorem ba_append (a b : Bs) : (⟨a.toArray⟩ : ByteArray) ++ (⟨b.toArray⟩ : ByteArray) = ⟨(a ++ b).toArray⟩ := by
  apply ByteArray.ext
  rw [ByteArray.data_append]
  simp
attribute [go_sem] ba_list ba_extract ba_append
theorem u8_lt (c : UInt8) : (c.toNat : Int) < 256 := by have := c.toNat_lt; omega
theorem u8_ge (c : UInt8) : 0 ≤ (c.toNat : Int) := by omega

/-- The world w' is w but for block b. -/
structure Only (b : Nat) (w w' : World) : Prop where
  os : w'.os = w.os
  tape : w'.tape = w.tape
  output : w'.output = w.output
  size : w'.heap.size = w.heap.size
  block : ∀ k, k ≠ b → w'.heap[k]? = w.heap[k]?
theorem Only.refl (b : Nat) (w : World) : Only b w w := ⟨rfl, rfl, rfl, rfl, fun _ _ => rfl⟩
theorem Only.trans {b : Nat} {x y z : World} (h : Only b x y) (k : Only b y z) : Only b x z :=
  ⟨k.os.trans h.os, k.tape.trans h.tape, k.output.trans h.output, k.size.trans h.size, fun i hi => (k.block i hi).trans (h.block i hi)⟩
theorem Only.drew {b : Nat} {a w : World} (h : Only b a w) : Only b a w.drew := ⟨h.os, h.tape, h.output, h.size, h.block⟩
theorem Only.setCell {b : Nat} {a w : World} (h : Only b a w) (o : Nat) (u : Value) : Only b a (w.setCell ⟨b, o, none⟩ u) :=
  h.trans ⟨rfl, rfl, rfl, by simp [World.setCell], fun k hk => Below.heap_setCell _ _ _ _ hk⟩
theorem Only.below {b B : Nat} {w w' : World} (h : Only b w w') (hb : B ≤ b) : Below B w w' :=
  ⟨h.os, h.tape, h.output, by rw [h.size]; exact Nat.le_refl _, fun k hk => h.block k (by omega)⟩
theorem Only.cell {b : Nat} {w w' : World} (h : Only b w w') {p : Addr} (hp : p.block ≠ b) : w'.cell? p = w.cell? p := World.cell?_of_block (w := w) (h.block p.block hp)
theorem Only.frozen {b : Nat} {w w' : World} (h : Only b w w') {p : Addr} (hp : p.block ≠ b) : w'.frozen? p = w.frozen? p := World.frozen?_of_block (w := w) (h.block p.block hp)

/-- Two steps, the second one above a higher number. -/
theorem btr {B B' : Nat} {x y z : World} (h : Below B x y) (k : Below B' y z) (hB : B ≤ B') : Below B x z := h.trans (k.mono hB)
theorem bcell {W w1 : World} (hb : Below W.heap.size W w1) : (∀ b o, b < W.heap.size → w1.cell? ⟨b, o, none⟩ = W.cell? ⟨b, o, none⟩) ∧ (∀ b o, b < W.heap.size → w1.frozen? ⟨b, o, none⟩ = W.frozen? ⟨b, o, none⟩) :=
  ⟨fun b o h => hb.cell (p := ⟨b, o, none⟩) h, fun b o h => hb.frozen (p := ⟨b, o, none⟩) h⟩
theorem cell_lt {w : World} {p : Addr} {v : Value} (h : w.cell? p = some v) : p.block < w.heap.size := by
  unfold World.cell? at h
  by_cases hp : p.block < w.heap.size
  · exact hp
  · rw [Array.getElem?_eq_none (by omega)] at h; cases h

theorem bext {w w' : World} (hb : Below w.heap.size w w') : ∀ p x, w.cell? p = some x → w'.cell? p = some x := fun p x h => by rw [hb.cell (cell_lt h)]; exact h

/-- The world w' is as w was in the blocks from lo on and below hi. -/
def Kept (lo hi : Nat) (w w' : World) : Prop := ∀ k, lo ≤ k → k < hi → w'.heap[k]? = w.heap[k]?
theorem bkept {B hi : Nat} {w w' : World} (h : Below B w w') (hh : hi ≤ B) : Kept 0 hi w w' := fun k _ h2 => h.block k (by omega)
theorem Kept.trans {lo hi : Nat} {x y z : World} (h : Kept lo hi x y) (k : Kept lo hi y z) : Kept lo hi x z := fun i h1 h2 => (k i h1 h2).trans (h i h1 h2)
theorem Kept.mono {lo hi lo' hi' : Nat} {w w' : World} (h : Kept lo hi w w') (h1 : lo ≤ lo') (h2 : hi' ≤ hi) : Kept lo' hi' w w' := fun k a b => h k (by omega) (by omega)
theorem Only.kept {b lo hi : Nat} {w w' : World} (h : Only b w w') (hb : b < lo ∨ hi ≤ b) : Kept lo hi w w' := fun k h1 h2 => h.block k (by omega)

/-- A slice of n elements whose cells are known; they lie in a block from lo on and below hi. -/
def SliceAt (lo hi : Nat) (w : World) (v : Value) (n : Nat) (cs : List Value) : Prop :=
  ∃ a cap, v = .slice a n cap ∧ (cs ≠ [] → ∃ b off, a = some ⟨b, off, none⟩ ∧ lo ≤ b ∧ b < hi ∧ ∀ j x, cs[j]? = some x → w.cell? ⟨b, off + j, none⟩ = some x)
theorem SliceAt.kept {lo hi : Nat} {w w' : World} {v : Value} {n : Nat} {cs : List Value} (h : SliceAt lo hi w v n cs) (k : Kept lo hi w w') : SliceAt lo hi w' v n cs := by
  obtain ⟨a, cap, hv, h⟩ := h
  refine ⟨a, cap, hv, fun hc => ?_⟩
  obtain ⟨b, off, ha, h1, h2, h3⟩ := h hc
  exact ⟨b, off, ha, h1, h2, fun j x hx => by rw [World.cell?_of_block (w := w) (k b h1 h2)]; exact h3 j x hx⟩
theorem SliceAt.mono {lo hi lo' hi' : Nat} {w : World} {v : Value} {n : Nat} {cs : List Value} (h : SliceAt lo hi w v n cs) (h1 : lo' ≤ lo) (h2 : hi ≤ hi') : SliceAt lo' hi' w v n cs := by
  obtain ⟨a, cap, hv, h⟩ := h
  refine ⟨a, cap, hv, fun hc => ?_⟩
  obtain ⟨b, off, ha, h3, h4, h5⟩ := h hc
  exact ⟨b, off, ha, by omega, by omega, h5⟩

theorem alloc_old (w : World) (o : Obj) (b i : Nat) (h : b < w.heap.size) : (w.alloc o).cell? ⟨b, i, none⟩ = w.cell? ⟨b, i, none⟩ :=
  World.cell?_of_block (w := w) (Below.heap_alloc w o b h)
end Go.Proofs.YtgdkdihedgiegaaDoor
