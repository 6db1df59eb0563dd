/-
  The memory of the decoder: two builders, the set, the tables; and plain steps of decoding.
-/
import Derived.Test.YtpkacoknpedolaaDoorB4
namespace Go.Proofs.YtpkacoknpedolaaDoor
open Go.RowKit Go.Maps

/-- No map has turned. -/
def MapsKept (w w' : World) : Prop := ∀ (k : Nat) (es : Array MapEntry) (c : Nat), w.heap[k]? = some (Obj.map es c) → w'.heap[k]? = w.heap[k]?
theorem MapsKept.refl (w : World) : MapsKept w w := fun _ _ _ _ => rfl
theorem MapsKept.trans {x y z : World} (h : MapsKept x y) (k : MapsKept y z) : MapsKept x z := fun i es c hi => (k i es c ((h i es c hi).trans hi)).trans (h i es c hi)
theorem MapsKept.below {w w' : World} (h : Below w.heap.size w w') : MapsKept w w' := fun k _ _ hk => h.block k (Array.getElem?_eq_some_iff.1 hk).1
theorem MapsKept.setCell {w : World} {b : Nat} {o : Obj} (h : w.heap[b]? = some o) (ho : ∀ es c, o ≠ Obj.map es c) (i : Nat) (v : Value) : MapsKept w (w.setCell ⟨b, i, none⟩ v) := fun k es c hk => by
  rw [Below.heap_setCell _ _ _ _ (fun e => ho es c (by subst e; rw [h] at hk; injection hk))]
theorem set_cells {w : World} {b : Nat} {cs : Array Value} {t : TypeId} {fz : Nat × Nat} (h : w.heap[b]? = some (.cells cs t fz)) (i : Nat) (v : Value) : (w.setCell ⟨b, i, none⟩ v).heap[b]? = some (.cells (cs.setIfInBounds i v) t fz) := by
  simp only [World.setCell, Array.getElem?_modify, if_true, h]
  rfl
theorem Bld.rowCells {K : TypeId × List Value} {B b : Nat} {g : Option Nat} {l : Bs} {w : World} (h : Bld K B b g l w) : ∀ k, g = some k → ∃ cs fz, w.heap[k]? = some (.cells cs 5 fz) := by
  obtain ⟨_, _, p, v, _, _, hown, rfl, _⟩ := h
  intro k hk
  rcases hown.2 with ⟨rfl, _⟩ | ⟨q, cap, cur, rfl, _, hq, _⟩
  · cases hk
  · injection hk with hk; subst hk; exact ⟨_, _, hq⟩
theorem Bld.cells {K : TypeId × List Value} {B b : Nat} {g : Option Nat} {l : Bs} {w : World} (h : Bld K B b g l w) : ∃ p v, w.heap[b]? = some (.cells (p :: v :: K.2).toArray K.1 (0, 0)) := by
  obtain ⟨_, _, p, v, hb, _⟩ := h
  exact ⟨p, v, hb⟩
theorem Bld.maps {K : TypeId × List Value} {B b : Nat} {g : Option Nat} {l : Bs} {w w' : World} (h : Bld K B b g l w) (f : Fr b g w w') : MapsKept w w' := fun k es c hk => by
  have hlt := (Array.getElem?_eq_some_iff.1 hk).1
  refine f.block k hlt (fun e => ?_) (fun e => ?_)
  · obtain ⟨p, v, hb⟩ := h.cells
    subst e; rw [hb] at hk; cases hk
  · obtain ⟨cs, fz, hg⟩ := h.rowCells k e.symm
    rw [hg] at hk; cases hk
theorem MapB.maps {w w' : World} {b n : Nat} {f : Nat → Option Nat} (h : MapB w b n f) (k : MapsKept w w') : MapB w' b n f := by
  obtain ⟨D, ⟨es, clock, hh, F, hs, hD⟩, h1, h2⟩ := h
  exact ⟨D, ⟨es, clock, (k _ _ _ hh).trans hh, F, hs, hD⟩, h1, h2⟩
theorem SetsAt.maps {w w' : World} {bs : Nat} (h : SetsAt w (.slice (some ⟨bs, 0, none⟩) 3 3)) (hz : w.heap.size ≤ w'.heap.size) (hb : w'.heap[bs]? = w.heap[bs]?) (k : MapsKept w w') : SetsAt w' (.slice (some ⟨bs, 0, none⟩) 3 3) := by
  obtain ⟨b, m0, m1, m2, n0, n1, n2, hv, hlt, ⟨c0, c1, c2, c3, c4, c5⟩, M0, M1, M2⟩ := h
  cases hv
  have hc : ∀ i, w'.cell? ⟨bs, i, none⟩ = w.cell? ⟨bs, i, none⟩ := fun i => World.cell?_of_block (w := w) hb
  exact ⟨bs, m0, m1, m2, n0, n1, n2, rfl, by omega, ⟨by rw [hc]; exact c0, by rw [hc]; exact c1, by rw [hc]; exact c2, by rw [hc]; exact c3, by rw [hc]; exact c4, by rw [hc]; exact c5⟩, M0.maps k, M1.maps k, M2.maps k⟩
/-- What decode reads: the sets, the tables of all sets and of marks. -/
structure Env (bs mu mm : Nat) (w : World) : Prop where
  sets : SetsAt w (.slice (some ⟨bs, 0, none⟩) 3 3)
  upper : ∃ n, MapB w mu n (tabF uppersT)
  mark : ∃ n, MapB w mm n (tabF marksT)
theorem Env.maps {bs mu mm : Nat} {w w' : World} (h : Env bs mu mm w) (hz : w.heap.size ≤ w'.heap.size) (hb : w'.heap[bs]? = w.heap[bs]?) (k : MapsKept w w') : Env bs mu mm w' := by
  obtain ⟨h1, ⟨n1, h2⟩, ⟨n2, h3⟩⟩ := h
  exact ⟨h1.maps hz hb k, ⟨n1, h2.maps k⟩, ⟨n2, h3.maps k⟩⟩
structure Dims (B N Z bs : Nat) : Prop where
  n : B + 1 < N
  z : N < Z
  s : bs < N
  b0 : bs ≠ B
  b1 : bs ≠ B + 1
/-- The decoder's memory but for its builders. -/
structure DecB (B N Z bs mu mm : Nat) (w wr : World) (d : DS) : Prop where
  below : Below B w wr
  size : Z ≤ wr.heap.size
  env : Env bs mu mm wr
  now : ∃ m n, wr.heap[N]? = some (.cells #[.int .u8 (signOf d.now), .map (some m)] 53 (0, 0)) ∧ MapB wr m n (tabF (setT d.now))
structure DecSt (B N Z bs mu mm : Nat) (w wr : World) (d : DS) : Prop extends DecB B N Z bs mu mm w wr d where
  ex : ∃ g h, Bld (47, []) Z B g d.out wr ∧ Bld (47, []) Z (B + 1) h d.held wr ∧ (∀ k, g = some k → h ≠ some k)
theorem DecB.weak {B N Z bs mu mm : Nat} {w wr : World} {d d' : DS} (h : DecB B N Z bs mu mm w wr d) (hn : d'.now = d.now) : DecB B N Z bs mu mm w wr d' := ⟨h.below, h.size, h.env, by rw [hn]; exact h.now⟩
theorem DecSt.first {B N Z bs mu mm : Nat} {w wr : World} {d : DS} (h : DecSt B N Z bs mu mm w wr d) (f : Nat) : DecSt B N Z bs mu mm w wr { d with first := f } := ⟨h.toDecB.weak rfl, h.ex⟩
/-- A step that turns one builder alone. -/
theorem DecB.turn {B N Z bs mu mm : Nat} {w wr w' : World} {d : DS} (D : Dims B N Z bs) (h : DecB B N Z bs mu mm w wr d) {b : Nat} {g : Option Nat} (hb : b = B ∨ b = B + 1) (hg : ∀ k, g = some k → Z ≤ k) (hk : MapsKept wr w') (f : Fr b g wr w') : DecB B N Z bs mu mm w w' d := by
  have hD := D.n
  have hD2 := D.z
  have hD3 := D.s
  have hrow : ∀ k, k < Z → some k ≠ g := fun k hk e => by have := hg k e.symm; omega
  refine ⟨h.below.trans (f.below (by omega) (fun k e => by have := hg k e; omega) (by have := h.size; omega)), Nat.le_trans h.size f.size, h.env.maps f.size ?_ hk, ?_⟩
  · exact f.block bs (by have := h.size; omega) (by have := D.b0; have := D.b1; rcases hb with rfl | rfl <;> assumption) (hrow bs (by omega))
  · obtain ⟨m, n, h1, h2⟩ := h.now
    exact ⟨m, n, by rw [f.block N (by have := h.size; omega) (by rcases hb with rfl | rfl <;> omega) (hrow N (by omega))]; exact h1, h2.maps hk⟩
/-- One builder turns; the other one is kept. -/
theorem bld_other {Z b c : Nat} {w w' : World} {g h : Option Nat} {l m : Bs} {K L : TypeId × List Value} (H : Bld K Z b g l w) (H2 : Bld L Z c h m w) (hbc : c ≠ b) (hne : ∀ k, g = some k → h ≠ some k) (f : Fr b g w w') : Bld L Z c h m w' :=
  H2.keep (f.block _ H2.old hbc (fun e => by have := (H.row _ e.symm).1; have := H2.lt; omega)) (fun k hk => f.block k (H2.row k hk).2 (by have := (H2.row k hk).1; have := H.lt; omega) (fun e => hne k e.symm hk))
theorem ne_grown {w : World} {g h g' : Option Nat} (hne : ∀ k, g = some k → h ≠ some k) (hh : ∀ k, h = some k → k < w.heap.size) (hg : g' = g ∨ ∃ k, g' = some k ∧ w.heap.size ≤ k) : ∀ k, g' = some k → h ≠ some k := by
  intro k hk e
  rcases hg with rfl | ⟨q, hq, hq2⟩
  · exact hne k hk e
  · rw [hk] at hq; injection hq with hq; subst hq
    have := hh k e; omega
theorem ne_comm {g h : Option Nat} (hne : ∀ k, g = some k → h ≠ some k) : ∀ k, h = some k → g ≠ some k := fun k a b => hne k b a
theorem DecSt.outw {B N Z bs mu mm : Nat} {w wr w' : World} {d : DS} (D : Dims B N Z bs) (h : DecSt B N Z bs mu mm w wr d) {g h' g' : Option Nat} (H : Bld (47, []) Z B g d.out wr) (H2 : Bld (47, []) Z (B + 1) h' d.held wr) (hne : ∀ k, g = some k → h' ≠ some k)
    {l : Bs} (H' : Bld (47, []) Z B g' l w') (hg : g' = g ∨ ∃ k, g' = some k ∧ wr.heap.size ≤ k) (f : Fr B g wr w') :
    DecSt B N Z bs mu mm w w' { d with out := l } :=
  ⟨(h.toDecB.turn D (.inl rfl) (fun k e => (H.row k e).1) (H.maps f) f).weak rfl, g', h', H', bld_other H H2 (by omega) hne f, ne_grown hne (fun k e => (H2.row k e).2) hg⟩
theorem DecSt.heldw {B N Z bs mu mm : Nat} {w wr w' : World} {d : DS} (D : Dims B N Z bs) (h : DecSt B N Z bs mu mm w wr d) {g h' g' : Option Nat} (H : Bld (47, []) Z B g d.out wr) (H2 : Bld (47, []) Z (B + 1) h' d.held wr) (hne : ∀ k, g = some k → h' ≠ some k)
    {l : Bs} (H' : Bld (47, []) Z (B + 1) g' l w') (hg : g' = h' ∨ ∃ k, g' = some k ∧ wr.heap.size ≤ k) (f : Fr (B + 1) h' wr w') :
    DecSt B N Z bs mu mm w w' { d with held := l } :=
  ⟨(h.toDecB.turn D (.inr rfl) (fun k e => (H2.row k e).1) (H2.maps f) f).weak rfl, g, g', bld_other H2 H (by omega) (ne_comm hne) f, H', ne_comm (ne_grown (ne_comm hne) (fun k e => (H.row k e).2) hg)⟩
theorem MapsKept.reset {b : Nat} {w w' : World} {cs : Array Value} {t : TypeId} {fz : Nat × Nat} (hb : w.heap[b]? = some (.cells cs t fz)) (f : Fr b none w w') : MapsKept w w' := fun k es c hk =>
  f.block k (Array.getElem?_eq_some_iff.1 hk).1 (fun e => by subst e; rw [hb] at hk; cases hk) (by simp)
/-- Behind String of held: the text and the block of held. -/
theorem held_out {Z B : Nat} {w w' : World} {g h : Option Nat} {l m : Bs} {n : Nat} (H : Bld (47, []) Z B g l w) (H2 : Bld (47, []) Z (B + 1) h m w) (hne : ∀ k, g = some k → h ≠ some k) (f : Strd h n w w') : Bld (47, []) Z B g l w' ∧ w'.heap.size = w.heap.size ∧ ∃ p v, w'.heap[B + 1]? = some (.cells #[p, v] 47 (0, 0)) := by
  have f2 := f.fr (B + 1)
  refine ⟨bld_other H2 H (by omega) (ne_comm hne) f2, ?_, ?_⟩
  · rcases f with rfl | ⟨k, rfl, rfl⟩
    · rfl
    · unfold World.freeze; split
      · rfl
      · simp
  · obtain ⟨p, v, hb⟩ := H2.cells
    have f3 : w'.heap[B + 1]? = w.heap[B + 1]? := by
      rcases f with rfl | ⟨k, rfl, rfl⟩
      · rfl
      · have hk := (H2.row k rfl).1
        have hlt := H2.lt
        exact (freeze_fr (B + 2) k n w.drew).block (B + 1) H2.old (by omega) (by intro e; injection e; omega)
    exact ⟨p, v, f3.trans hb⟩
/-- A letter: into the text, then what was held; then nothing is held. -/
theorem DecSt.letter {B N Z bs mu mm : Nat} {w w0 w1 w2 w3 w4 : World} {d : DS} (D : Dims B N Z bs) (h : DecSt B N Z bs mu mm w w0 d) {g h' g1 g3 : Option Nat} (H : Bld (47, []) Z B g d.out w0) (H2 : Bld (47, []) Z (B + 1) h' d.held w0) (hne : ∀ k, g = some k → h' ≠ some k)
    {l : Bs} (H1 : Bld (47, []) Z B g1 l w1) (hg1 : g1 = g ∨ ∃ k, g1 = some k ∧ w0.heap.size ≤ k) (f1 : Fr B g w0 w1)
    {n : Nat} (f2 : Strd h' n w1 w2)
    {l3 : Bs} (H3 : Bld (47, []) Z B g3 l3 w3) (f3 : Fr B g1 w2 w3)
    (H4 : Bld (47, []) Z (B + 1) none [] w4) (f4 : Fr (B + 1) none w3 w4) :
    DecSt B N Z bs mu mm w w4 { d with out := l3, held := [] } := by
  have hB := h.toDecB.turn D (.inl rfl) (fun k e => (H.row k e).1) (H.maps f1) f1
  have K2 := bld_other H H2 (by omega) hne f1
  have hne1 := ne_grown hne (fun k e => (H2.row k e).2) hg1
  have hB2 := hB.turn D (.inr rfl) (fun k e => (K2.row k e).1) (K2.maps (f2.fr _)) (f2.fr _)
  obtain ⟨K1, _, p, v, hc⟩ := held_out H1 K2 hne1 f2
  have hB3 := hB2.turn D (.inl rfl) (fun k e => (K1.row k e).1) (K1.maps f3) f3
  have hc3 : w3.heap[B + 1]? = some (.cells #[p, v] 47 (0, 0)) := by
    rw [f3.block (B + 1) (Array.getElem?_eq_some_iff.1 hc).1 (by omega) (fun e => by have := (K1.row _ e.symm).1; have := K2.lt; omega)]; exact hc
  have hB4 := hB3.turn D (.inr rfl) (fun k e => by cases e) (MapsKept.reset hc3 f4) f4
  refine ⟨hB4.weak rfl, g3, none, ?_, H4, fun k _ e => by cases e⟩
  exact H3.keep (f4.block _ H3.old (by omega) (by simp)) (fun k hk => f4.block k (H3.row k hk).2 (by have := (H3.row k hk).1; have := H4.lt; omega) (by simp))
/-- The set turns. -/
theorem DecSt.setNow {B N Z bs mu mm : Nat} {w wr w' : World} {d : DS} (D : Dims B N Z bs) (h : DecSt B N Z bs mu mm w wr d) (hb : Below wr.heap.size wr w') (n m k : Nat) (hm : MapB w' m k (tabF (setT n))) :
    DecSt B N Z bs mu mm w ((w'.setCell ⟨N, 0, none⟩ (.int .u8 (signOf n))).setCell ⟨N, 1, none⟩ (.map (some m))) { d with now := n } := by
  have hN := D.n
  have hz := D.z
  have hs := D.s
  have hsz := h.size
  obtain ⟨m0, n0, h1, h2⟩ := h.now
  have hN1 : w'.heap[N]? = some (.cells #[.int .u8 (signOf d.now), .map (some m0)] 53 (0, 0)) := by rw [hb.block N (by omega)]; exact h1
  have hN2 := set_cells hN1 0 (.int .u8 (signOf n))
  have hN3 := set_cells hN2 1 (.map (some m))
  have hkk : MapsKept w' ((w'.setCell ⟨N, 0, none⟩ (.int .u8 (signOf n))).setCell ⟨N, 1, none⟩ (.map (some m))) := (MapsKept.setCell hN1 (fun _ _ e => by cases e) _ _).trans (MapsKept.setCell hN2 (fun _ _ e => by cases e) _ _)
  have hblk : ∀ j, j ≠ N → ((w'.setCell ⟨N, 0, none⟩ (.int .u8 (signOf n))).setCell ⟨N, 1, none⟩ (.map (some m))).heap[j]? = w'.heap[j]? := fun j hj => by rw [Below.heap_setCell _ _ _ _ hj, Below.heap_setCell _ _ _ _ hj]
  obtain ⟨g, h', H, H2, hne⟩ := h.ex
  refine ⟨⟨((h.below.trans (hb.mono (by omega))).setCell (by simp; omega) _).setCell (by simp; omega) _, by simp; exact Nat.le_trans hsz hb.size, ?_, ⟨m, k, hN3, hm.maps hkk⟩⟩, ⟨g, h', ?_, ?_, hne⟩⟩
  · exact (h.env.maps hb.size (hb.block bs (by omega)) (MapsKept.below hb)).maps (by simp) (hblk bs (by omega)) hkk
  · exact (H.below hb).keep (hblk B (by omega)) (fun k hk => hblk k (by have := (H.row k hk).1; omega))
  · exact (H2.below hb).keep (hblk _ (by omega)) (fun k hk => hblk k (by have := (H2.row k hk).1; omega))
theorem DecB.dead {B N Z bs mu mm : Nat} {w wr w' : World} {d : DS} (h : DecB B N Z bs mu mm w wr d) (D : Dims B N Z bs) (hb : Below wr.heap.size wr w') : Below B w w' := h.below.trans (hb.mono (by have := h.size; have := D.n; have := D.z; omega))
end Go.Proofs.YtpkacoknpedolaaDoor
