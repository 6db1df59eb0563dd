/-
  The memory of the encoder, and the walk of finish.
-/
import Derived.Test.YtpkacoknpedolaaDoorD1
namespace Go.Proofs.YtpkacoknpedolaaDoor
open Go.RowKit Go.Maps

/-- What the encoder reads. -/
structure Env2 (bs bb mu mk mc : Nat) (w : World) : Prop where
  sets : SetsAt w (.slice (some ⟨bs, 0, none⟩) 3 3)
  bytes : ∃ r0 r1 r2 n0 n1 n2, w.cell? ⟨bb, 0, none⟩ = some (.map (some r0)) ∧ w.cell? ⟨bb, 1, none⟩ = some (.map (some r1)) ∧ w.cell? ⟨bb, 2, none⟩ = some (.map (some r2)) ∧ MapR w r0 n0 (stR 0) ∧ MapR w r1 n1 (stR 1) ∧ MapR w r2 n2 (stR 2)
  upper : ∃ n, MapR w mu n upR
  mark : ∃ n, MapR w mk n mkR
  comp : ∃ n, MapC w mc n (tabC compT)
theorem Env2.maps {bs bb mu mk mc : Nat} {w w' : World} (h : Env2 bs bb mu mk mc w) (hz : w.heap.size ≤ w'.heap.size) (hs : w'.heap[bs]? = w.heap[bs]?) (hb : w'.heap[bb]? = w.heap[bb]?) (k : MapsKept w w') : Env2 bs bb mu mk mc w' := by
  obtain ⟨h1, ⟨r0, r1, r2, n0, n1, n2, c0, c1, c2, R0, R1, R2⟩, ⟨a, h3⟩, ⟨b, h4⟩, ⟨c, h5⟩⟩ := h
  have hc : ∀ i, w'.cell? ⟨bb, i, none⟩ = w.cell? ⟨bb, i, none⟩ := fun i => World.cell?_of_block (w := w) hb
  exact ⟨h1.maps hz hs k, ⟨r0, r1, r2, n0, n1, n2, by rw [hc]; exact c0, by rw [hc]; exact c1, by rw [hc]; exact c2, R0.maps k, R1.maps k, R2.maps k⟩, ⟨a, h3.maps k⟩, ⟨b, h4.maps k⟩, ⟨c, h5.maps k⟩⟩
/-- The other cells of an encoder. -/
abbrev encK (bs bb cp mu mk now : Nat) (pv : Value) : TypeId × List Value := (70, [.slice (some ⟨bs, 0, none⟩) 3 3, .slice (some ⟨bb, 0, none⟩) 3 cp, .map (some mu), .map (some mk), .int .i64 now, pv])
structure Dim2 (B E Z bs bb : Nat) : Prop where
  b : B ≤ E
  e : E < Z
  s : bs < Z
  t : bb < Z
  s0 : bs ≠ E
  t0 : bb ≠ E
/-- The encoder in block E; blocks below Z are older than its rows. -/
structure EncSt (B E Z bs bb cp mu mk mc : Nat) (w wr : World) (e : ES) : Prop where
  below : Below B w wr
  size : Z ≤ wr.heap.size
  env : Env2 bs bb mu mk mc wr
  now : e.now < 3
  ex : ∃ g pv, Bld (encK bs bb cp mu mk e.now pv) Z E g e.out wr ∧ wr.ownsRow Z 5 1 pv e.pend.length (Lib.byteCells e.pend) ∧ ∀ k, g = some k → pv.ownBlock ≠ some k
theorem Bld.kcells {K : TypeId × List Value} {B b : Nat} {g : Option Nat} {l : Bs} {w : World} (h : Bld K B b g l w) : ∃ p v, w.heap[b]? = some (.cells (p :: v :: K.2).toArray K.1 (0, 0)) ∧ w.cell? ⟨b, 0, none⟩ = some p ∧ (∀ i x, K.2[i]? = some x → w.cell? ⟨b, i + 2, none⟩ = some x) ∧ ∀ i, w.frozen? ⟨b, i, none⟩ = false := by
  obtain ⟨p, v, hb⟩ := h.cells
  refine ⟨p, v, hb, by rw [Lib.cell_of_heap hb]; rfl, fun i x hx => by rw [Lib.cell_of_heap hb]; simpa using hx, fun i => Lib.frozen_of_heap hb i⟩
/-- A cell of the encoder's own turns. -/
theorem Bld.field {T : TypeId} {xs : List Value} {B b : Nat} {g : Option Nat} {l : Bs} {w : World} (h : Bld (T, xs) B b g l w) (i : Nat) (x : Value) : Bld (T, xs.set i x) B b g l (w.setCell ⟨b, i + 2, none⟩ x) := by
  obtain ⟨hlt, hk, p, v, hb, hp, hown, hg, hn⟩ := h
  refine ⟨hlt, ?_, p, v, ?_, hp, ?_, hg, hn⟩
  · rcases hk with hk | ⟨h1, h2⟩
    · injection hk with h1 h2
      subst h1 h2
      exact .inl rfl
    · exact .inr ⟨h1, by simpa using h2⟩
  · rw [set_cells hb]; simp
  · refine ownr_far hown (fun k hk => Below.heap_setCell _ _ _ _ (fun e => ?_))
    have e' : k = b := e
    have := (own_base hown k hk).1
    omega
theorem fin_nil {e : ES} (h : e.pend = []) : finR e = e := by unfold finR; rw [h]
theorem fin_cons {e : ES} {b : UInt8} {r : Bs} (h : e.pend = b :: r) : finR e = { e with out := e.out ++ r ++ [b], pend := [] } := by unfold finR; rw [h]
theorem row_cell {w : World} {Z : Nat} {a : Option Addr} {n c : Nat} {l : Bs} (h : w.ownsRow Z 5 1 (.slice a n c) l.length (Lib.byteCells l)) (hl : l ≠ []) : ∃ q, a = some ⟨q, 0, none⟩ ∧ (n = l.length ∧ n ≤ c) ∧ Z ≤ q ∧ q < w.heap.size ∧ ∀ j (hj : j < l.length), w.cell? ⟨q, j, none⟩ = some (.int .u8 l[j].toNat) := by
  rcases h.2 with ⟨h1, h0⟩ | ⟨q, cap, cur, hv, hq, hh, hnc, _⟩
  · exact absurd (List.eq_nil_of_length_eq_zero h0) hl
  · injection hv with h1 h2 h3
    subst h1 h2 h3
    have hlt := (Array.getElem?_eq_some_iff.1 hh).1
    refine ⟨q, rfl, ⟨rfl, by simpa using hnc⟩, hq, hlt, fun j hj => ?_⟩
    rw [h.cellAt j (by simpa using hj)]
    simp [Lib.byteCells, hj]
/-- What the encoder's memory says of its block. -/
theorem EncSt.cell {B E Z bs bb cp mu mk mc : Nat} {w wr : World} {e : ES} (h : EncSt B E Z bs bb cp mu mk mc w wr e) : ∃ g pa pc, Bld (encK bs bb cp mu mk e.now (.slice pa e.pend.length pc)) Z E g e.out wr ∧ wr.ownsRow Z 5 1 (.slice pa e.pend.length pc) e.pend.length (Lib.byteCells e.pend) ∧ (∀ k, g = some k → (Value.slice pa e.pend.length pc).ownBlock ≠ some k) := by
  obtain ⟨g, pv, H, hp, hne⟩ := h.ex
  obtain ⟨pa, pc, rfl⟩ := owns_shape hp
  exact ⟨g, pa, pc, H, hp, hne⟩
theorem enc_fields {B E : Nat} {bs bb cp mu mk now : Nat} {pv : Value} {g : Option Nat} {l : Bs} {w : World} (h : Bld (encK bs bb cp mu mk now pv) B E g l w) :
    w.cell? ⟨E, 2, none⟩ = some (.slice (some ⟨bs, 0, none⟩) 3 3) ∧ w.cell? ⟨E, 3, none⟩ = some (.slice (some ⟨bb, 0, none⟩) 3 cp) ∧ w.cell? ⟨E, 4, none⟩ = some (.map (some mu)) ∧ w.cell? ⟨E, 5, none⟩ = some (.map (some mk)) ∧ w.cell? ⟨E, 6, none⟩ = some (.int .i64 now) ∧ w.cell? ⟨E, 7, none⟩ = some pv ∧ ∀ i, w.frozen? ⟨E, i, none⟩ = false := by
  obtain ⟨p, v, _, _, hc, hf⟩ := h.kcells
  exact ⟨hc 0 _ rfl, hc 1 _ rfl, hc 2 _ rfl, hc 3 _ rfl, hc 4 _ rfl, hc 5 _ rfl, hf⟩
/-- The builder in the encoder's block turns alone. -/
theorem EncSt.turn {B E Z bs bb cp mu mk mc : Nat} {w wr w' : World} {e e' : ES} {g g' : Option Nat} {pv' : Value} (D : Dim2 B E Z bs bb) (h : EncSt B E Z bs bb cp mu mk mc w wr e) (hg : ∀ k, g = some k → Z ≤ k) (f : Fr E g wr w') (hk : MapsKept wr w')
    (hn : e'.now < 3) (H' : Bld (encK bs bb cp mu mk e'.now pv') Z E g' e'.out w') (hp : w'.ownsRow Z 5 1 pv' e'.pend.length (Lib.byteCells e'.pend)) (hne : ∀ k, g' = some k → pv'.ownBlock ≠ some k) : EncSt B E Z bs bb cp mu mk mc w w' e' := by
  have h1 := D.b
  have h2 := D.e
  have h3 := D.s
  have h4 := D.t
  have hz := h.size
  refine ⟨h.below.trans (f.below h1 (fun k e => by have := hg k e; omega) (by omega)), Nat.le_trans hz f.size, h.env.maps f.size ?_ ?_ hk, hn, g', pv', H', hp, hne⟩
  · exact f.block bs (by omega) D.s0 (fun e => by have := hg _ e.symm; omega)
  · exact f.block bb (by omega) D.t0 (fun e => by have := hg _ e.symm; omega)
theorem MapsKept.cells {w : World} {b : Nat} {cs : Array Value} {t : TypeId} {fz : Nat × Nat} (h : w.heap[b]? = some (.cells cs t fz)) (i : Nat) (v : Value) : MapsKept w (w.setCell ⟨b, i, none⟩ v) := MapsKept.setCell h (fun _ _ e => by cases e) i v
/-- No block turns but b and rows of bytes. -/
def Keeps (b : Nat) (w w' : World) : Prop := ∀ k o, w.heap[k]? = some o → k ≠ b → (∀ cs fz, o ≠ Obj.cells cs 5 fz) → w'.heap[k]? = some o
theorem Keeps.refl (b : Nat) (w : World) : Keeps b w w := fun _ _ h _ _ => h
theorem Keeps.trans {b : Nat} {x y z : World} (h : Keeps b x y) (k : Keeps b y z) : Keeps b x z := fun i o hi hb ho => k i o (h i o hi hb ho) hb ho
theorem Keeps.below {b : Nat} {w w' : World} (h : Below w.heap.size w w') : Keeps b w w' := fun k _ hk _ _ => (h.block k (Array.getElem?_eq_some_iff.1 hk).1).trans hk
theorem Keeps.set {b : Nat} (w : World) (i : Nat) (v : Value) : Keeps b w (w.setCell ⟨b, i, none⟩ v) := fun k _ hk hb _ => (Below.heap_setCell w ⟨b, i, none⟩ v k hb).trans hk
theorem Bld.keeps {K : TypeId × List Value} {B b : Nat} {g : Option Nat} {l : Bs} {w w' : World} (h : Bld K B b g l w) (f : Fr b g w w') : Keeps b w w' := fun k o hk hb ho =>
  (f.block k (Array.getElem?_eq_some_iff.1 hk).1 hb (fun e => by
    obtain ⟨cs, fz, hg⟩ := h.rowCells k e.symm
    rw [hg] at hk; injection hk with hk; exact ho _ _ hk.symm)).trans hk
end Go.Proofs.YtpkacoknpedolaaDoor
