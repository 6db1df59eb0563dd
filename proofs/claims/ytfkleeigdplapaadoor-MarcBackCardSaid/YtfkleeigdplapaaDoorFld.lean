/-
  The memory of the reference's 'field': the result's block, the local field's block, the reader of characters, the subfields' own row.
  The memory of a record that a call itself builds: its fields' own row, their subfields elsewhere; and plain laws on the directory's entries.
-/
import Derived.Test.YtfkleeigdplapaaDoorBase
import Derived.Maps.AppendAt
import Derived.OneCell
namespace Go.Proofs.YtfkleeigdplapaaDoor
open Go.RowKit

/-- The four cells of a struct variable that is still zero. -/
structure ZeroAt (B : Nat) (w : World) : Prop where
  c0 : w.cell? ⟨B, 0, none⟩ = some (S [])
  c1 : w.cell? ⟨B, 1, none⟩ = some (S [])
  c2 : w.cell? ⟨B, 2, none⟩ = some (S [])
  c3 : w.cell? ⟨B, 3, none⟩ = some (.slice none 0 0)
  f0 : w.frozen? ⟨B, 0, none⟩ = false
  f1 : w.frozen? ⟨B, 1, none⟩ = false
  f2 : w.frozen? ⟨B, 2, none⟩ = false
  f3 : w.frozen? ⟨B, 3, none⟩ = false
theorem ZeroAt.of {B : Nat} {w w' : World} (h : ZeroAt B w) (hb : w'.heap[B]? = w.heap[B]?) : ZeroAt B w' := by
  have hc : ∀ i, w'.cell? ⟨B, i, none⟩ = w.cell? ⟨B, i, none⟩ := fun i => World.cell?_of_block (w := w) hb
  have hf : ∀ i, w'.frozen? ⟨B, i, none⟩ = w.frozen? ⟨B, i, none⟩ := fun i => World.frozen?_of_block (w := w) hb
  exact ⟨by rw [hc]; exact h.c0, by rw [hc]; exact h.c1, by rw [hc]; exact h.c2, by rw [hc]; exact h.c3, by rw [hf]; exact h.f0, by rw [hf]; exact h.f1, by rw [hf]; exact h.f2, by rw [hf]; exact h.f3⟩
/-- A field lies in a struct variable. -/
structure LocAt (B : Nat) (w : World) (f : FieldD) (v : Value) : Prop where
  c0 : w.cell? ⟨B, 0, none⟩ = some (S f.tag)
  c1 : w.cell? ⟨B, 1, none⟩ = some (S f.ind)
  c2 : w.cell? ⟨B, 2, none⟩ = some (S f.data)
  c3 : w.cell? ⟨B, 3, none⟩ = some v
  f1 : w.frozen? ⟨B, 1, none⟩ = false
  f2 : w.frozen? ⟨B, 2, none⟩ = false
  f3 : w.frozen? ⟨B, 3, none⟩ = false
theorem LocAt.of {B : Nat} {w w' : World} {f : FieldD} {v : Value} (h : LocAt B w f v) (hb : w'.heap[B]? = w.heap[B]?) : LocAt B w' f v := by
  have hc : ∀ i, w'.cell? ⟨B, i, none⟩ = w.cell? ⟨B, i, none⟩ := fun i => World.cell?_of_block (w := w) hb
  have hf : ∀ i, w'.frozen? ⟨B, i, none⟩ = w.frozen? ⟨B, i, none⟩ := fun i => World.frozen?_of_block (w := w) hb
  exact ⟨by rw [hc]; exact h.c0, by rw [hc]; exact h.c1, by rw [hc]; exact h.c2, by rw [hc]; exact h.c3, by rw [hf]; exact h.f1, by rw [hf]; exact h.f2, by rw [hf]; exact h.f3⟩
theorem ChAt.of {b : Nat} {w w' : World} {x : Ch} (h : ChAt w b x) (hb : w'.heap[b]? = w.heap[b]?) : ChAt w' b x := by
  have hc : ∀ i, w'.cell? ⟨b, i, none⟩ = w.cell? ⟨b, i, none⟩ := fun i => World.cell?_of_block (w := w) hb
  have hf : ∀ i, w'.frozen? ⟨b, i, none⟩ = w.frozen? ⟨b, i, none⟩ := fun i => World.frozen?_of_block (w := w) hb
  exact ⟨by rw [hc]; exact h.c0, by rw [hc]; exact h.c1, by rw [hc]; exact h.c2, by rw [hf]; exact h.f0, by rw [hf]; exact h.f1, by rw [hf]; exact h.f2⟩
theorem setCell_frozen (w : World) (a b : Addr) (u : Value) : (w.setCell a u).frozen? b = w.frozen? b := by
  unfold World.frozen? World.setCell
  simp only [Array.getElem?_modify]
  by_cases h : a.block = b.block
  · rw [if_pos h, ← h]
    cases w.heap[a.block]? with
    | none => rfl
    | some o => cases o <;> rfl
  · rw [if_neg h]
theorem LocAt.setInd {B : Nat} {w : World} {f : FieldD} {v : Value} (h : LocAt B w f v) (x : Bs) : LocAt B (w.setCell ⟨B, 1, none⟩ (S x)) { f with ind := x } v := by
  obtain ⟨c0, c1, c2, c3, f1, f2, f3⟩ := h
  constructor <;> first | (rw [setCell_frozen]; assumption) | go_simp
theorem LocAt.setData {B : Nat} {w : World} {f : FieldD} {v : Value} (h : LocAt B w f v) (x : Bs) : LocAt B (w.setCell ⟨B, 2, none⟩ (S x)) { f with data := x } v := by
  obtain ⟨c0, c1, c2, c3, f1, f2, f3⟩ := h
  constructor <;> first | (rw [setCell_frozen]; assumption) | go_simp
theorem LocAt.setSubs {B : Nat} {w : World} {f : FieldD} {v : Value} (h : LocAt B w f v) (ss : List SubD) (u : Value) : LocAt B (w.setCell ⟨B, 3, none⟩ u) { f with subs := ss } u := by
  obtain ⟨c0, c1, c2, c3, f1, f2, f3⟩ := h
  constructor <;> first | (rw [setCell_frozen]; assumption) | go_simp
theorem LocAt.subs {B : Nat} {w : World} {f : FieldD} {v : Value} (h : LocAt B w f v) (ss : List SubD) : LocAt B w { f with subs := ss } v := by
  obtain ⟨c0, c1, c2, c3, f1, f2, f3⟩ := h
  exact ⟨c0, c1, c2, c3, f1, f2, f3⟩

structure FldAt (B : Nat) (w0 wr : World) (st : FS) (v : Value) : Prop where
  below : Below B w0 wr
  big : B + 3 ≤ wr.heap.size
  res : ZeroAt B wr
  loc : LocAt (B + 1) wr st.f v
  ch : ChAt wr (B + 2) st.x
  own : wr.ownsRow (B + 3) 59 2 v st.f.subs.length (st.f.subs.flatMap subCells)
theorem FldAt.drew {B : Nat} {w0 wr : World} {st : FS} {v : Value} (h : FldAt B w0 wr st v) : FldAt B w0 wr.drew st v :=
  ⟨h.below.drew, h.big, h.res.of rfl, h.loc.of rfl, h.ch.of rfl, h.own.drew⟩
theorem FldAt.setInd {B : Nat} {w0 wr : World} {st : FS} {v : Value} (h : FldAt B w0 wr st v) (x : Bs) : FldAt B w0 (wr.setCell ⟨B + 1, 1, none⟩ (S x)) { st with f := { st.f with ind := x } } v :=
  ⟨h.below.setCell (by simp) _, by simpa using h.big, h.res.of (Below.heap_setCell _ _ _ _ (by simp)), h.loc.setInd x, h.ch.of (Below.heap_setCell _ _ _ _ (by simp)), ownsRow_setCell_below h.own (by simp) _⟩
theorem FldAt.setData {B : Nat} {w0 wr : World} {st : FS} {v : Value} (h : FldAt B w0 wr st v) (x : Bs) : FldAt B w0 (wr.setCell ⟨B + 1, 2, none⟩ (S x)) { st with f := { st.f with data := x } } v :=
  ⟨h.below.setCell (by simp) _, by simpa using h.big, h.res.of (Below.heap_setCell _ _ _ _ (by simp)), h.loc.setData x, h.ch.of (Below.heap_setCell _ _ _ _ (by simp)), ownsRow_setCell_below h.own (by simp) _⟩
theorem FldAt.next {B : Nat} {w0 wr w2 : World} {st : FS} {v : Value} (h : FldAt B w0 wr st v) (ho : Only (B + 2) wr w2) {y : Ch} (hc : ChAt w2 (B + 2) y) : FldAt B w0 w2 { st with x := y } v :=
  ⟨h.below.trans (ho.below (by omega)), by rw [ho.size]; exact h.big, h.res.of (ho.block _ (by omega)), h.loc.of (ho.block _ (by omega)), hc,
    h.own.kept ⟨ho.os, ho.tape, ho.output, by rw [ho.size]; exact Nat.le_refl _, fun k _ hk => ho.block k (by intro e; subst e; exact hk rfl)⟩ (by
      cases hv : v.ownBlock with
      | none => exact .inl rfl
      | some g => refine .inr ?_; have := (h.own.lt g hv).1; intro e; injection e; omega)⟩
/-- A cell of the last subfield is stored. -/
theorem FldAt.row {B : Nat} {w0 wr : World} {st : FS} {v : Value} (h : FldAt B w0 wr st v) (ss : List SubD) (g cap j : Nat) (u : Value) (hv : v = .slice (some ⟨g, 0, none⟩) st.f.subs.length cap)
    (hl : ss.length = st.f.subs.length) (hs : (st.f.subs.flatMap subCells).set j u = ss.flatMap subCells) : FldAt B w0 (wr.setCell ⟨g, j, none⟩ u) { st with f := { st.f with subs := ss } } v := by
  have hown := h.own
  rw [hv] at hown
  have hg := (hown.lt g (by simp [Value.ownBlock])).1
  have hst := hown.stored j u
  refine ⟨h.below.setCell (by simp; omega) _, by simpa using h.big, h.res.of (Below.heap_setCell _ _ _ _ (by simp; omega)), (h.loc.of (Below.heap_setCell _ _ _ _ (by simp; omega))).subs ss, h.ch.of (Below.heap_setCell _ _ _ _ (by simp; omega)), ?_⟩
  rw [hv, hl]
  rw [← hs]; exact hst.1
/-- A subfield is appended. -/
theorem FldAt.app {B : Nat} {w0 wr w1 w2 : World} {st : FS} {v v' : Value} (h : FldAt B w0 wr st v) (hb : Below wr.heap.size wr w1) (ho : w1.ownsRow (B + 3) 59 2 v st.f.subs.length (st.f.subs.flatMap subCells)) (s : SubD)
    (hown : w2.ownsRow (B + 3) 59 2 v' (st.f.subs.length + 1) (st.f.subs.flatMap subCells ++ subCells s)) (hg : w1.grownBy w2 v.ownBlock) :
    FldAt B w0 (w2.setCell ⟨B + 1, 3, none⟩ v') { st with f := { st.f with subs := st.f.subs ++ [s] } } v' := by
  have hk : ∀ k, k < B + 3 → w2.heap[k]? = wr.heap[k]? := by
    intro k hk
    have hz := hb.size
    have := h.big
    rw [hg.block k (by omega) (by intro e; have := (ho.lt k e.symm).1; omega), hb.block k (by omega)]
  have hbl : Below B w0 w2 := ⟨hg.os.trans (hb.os.trans h.below.os), hg.tape.trans (hb.tape.trans h.below.tape), hg.output.trans (hb.output.trans h.below.output), Nat.le_trans h.below.size (Nat.le_trans hb.size hg.size),
    fun k hk' => (hk k (by omega)).trans (h.below.block k hk')⟩
  have hz : B + 3 ≤ w2.heap.size := Nat.le_trans h.big (Nat.le_trans hb.size hg.size)
  refine ⟨hbl.setCell (by simp) _, by simpa using hz, (h.res.of (hk B (by omega))).of (Below.heap_setCell _ _ _ _ (by simp)), (h.loc.of (hk _ (by omega))).setSubs _ _, (h.ch.of (hk _ (by omega))).of (Below.heap_setCell _ _ _ _ (by simp)), ?_⟩
  have := ownsRow_setCell_below hown (a := ⟨B + 1, 3, none⟩) (by simp) v'
  simpa using this

theorem flat_len (ss : List SubD) : (ss.flatMap subCells).length = ss.length * 2 := by
  induction ss with
  | nil => rfl
  | cons s l ih => rw [List.flatMap_cons, List.length_append, ih]; simp [subCells]; omega
theorem flat_set_code (ss : List SubD) (s : SubD) (c : UInt8) : ((ss ++ [s]).flatMap subCells).set (ss.length * 2) (.int .u8 c.toNat) = (ss ++ [{ s with code := c }]).flatMap subCells := by
  rw [List.flatMap_append, List.flatMap_append, List.set_append_right _ _ (by rw [flat_len]; omega), flat_len, Nat.sub_self]
  simp [subCells]
theorem flat_set_text (ss : List SubD) (s : SubD) (t : Bs) : ((ss ++ [s]).flatMap subCells).set (ss.length * 2 + 1) (S t) = (ss ++ [{ s with text := t }]).flatMap subCells := by
  rw [List.flatMap_append, List.flatMap_append, List.set_append_right _ _ (by rw [flat_len]; omega), flat_len, Nat.add_sub_cancel_left]
  simp [subCells]
/-- The last subfield's cells. -/
theorem FldAt.last {B : Nat} {w0 wr : World} {st : FS} {v : Value} (h : FldAt B w0 wr st v) (ss : List SubD) (s : SubD) (hs : st.f.subs = ss ++ [s]) :
    ∃ g cap, v = .slice (some ⟨g, 0, none⟩) (ss.length + 1) cap ∧ B + 3 ≤ g ∧ g < wr.heap.size ∧ wr.cell? ⟨g, ss.length * 2, none⟩ = some (.int .u8 s.code.toNat) ∧ wr.cell? ⟨g, ss.length * 2 + 1, none⟩ = some (S s.text) ∧
      wr.frozen? ⟨g, ss.length * 2, none⟩ = false ∧ wr.frozen? ⟨g, ss.length * 2 + 1, none⟩ = false := by
  have hown := h.own
  rw [hs] at hown
  rw [List.length_append, List.length_singleton] at hown
  rcases hown.2 with ⟨_, h0⟩ | ⟨g, cap, cur, hv, hb, hg, _⟩
  · simp at h0
  · subst hv
    have hlt := hown.lt g (by simp [Value.ownBlock])
    refine ⟨g, cap, rfl, hb, hlt.2, ?_, ?_, hown.frozenAt _, hown.frozenAt _⟩
    · rw [hown.cellAt _ (by omega), List.flatMap_append, List.getElem?_append_right (by rw [flat_len]; omega), flat_len, Nat.sub_self]; rfl
    · rw [hown.cellAt _ (by omega), List.flatMap_append, List.getElem?_append_right (by rw [flat_len]; omega), flat_len, Nat.add_sub_cancel_left]; rfl

theorem alloc_below1 (w : World) (o : Obj) : Below w.heap.size w (w.alloc o) := (Below.refl _ w).alloc (Nat.le_refl _) o
theorem FldAt.init (w : World) (tag : Bs) : FldAt w.heap.size w
    (((w.alloc (Obj.cells #[Value.string { data := #[] }, Value.string { data := #[] }, Value.string { data := #[] }, Value.slice none 0 0] 57)).alloc
      (Obj.cells #[Value.string { data := List.toArray tag }, Value.string { data := #[] }, Value.string { data := #[] }, Value.slice none 0 0] 57)).alloc
      (Obj.cells #[Value.int IntKind.i64 0, Value.int IntKind.i64 0, Value.int IntKind.i64 0] 115)) ⟨⟨tag, [], [], []⟩, ch0, false⟩ (.slice none 0 0) := by
  refine ⟨(((Below.refl _ w).alloc (Nat.le_refl _) _).alloc (by simp) _).alloc (by simp; omega) _, by simp, ?_, ?_, ?_, World.ownsRow_nil _ _ _ _⟩
  · constructor <;> go_simp
  · constructor <;> go_simp
  · have h : w.heap.size + 2 = ((w.alloc (Obj.cells #[Value.string { data := #[] }, Value.string { data := #[] }, Value.string { data := #[] }, Value.slice none 0 0] 57)).alloc
      (Obj.cells #[Value.string { data := List.toArray tag }, Value.string { data := #[] }, Value.string { data := #[] }, Value.slice none 0 0] 57)).heap.size := by simp
    rw [h]; exact chAt_new _ _

theorem owns_shape {w : World} {B : Nat} {e : TypeId} {k : Nat} {v : Value} {n : Nat} {xs : List Value} (h : w.ownsRow B e k v n xs) : ∃ a cap, v = .slice a n cap := by
  rcases h.2 with ⟨rfl, rfl⟩ | ⟨g, cap, cur, rfl, _⟩
  · exact ⟨none, 0, rfl⟩
  · exact ⟨_, _, rfl⟩

theorem owns_subs {w : World} {lo B : Nat} {v : Value} {ss : List SubD} (h : w.ownsRow B 59 2 v ss.length (ss.flatMap subCells)) (hb : lo ≤ B) : SubsAt lo w.heap.size w v ss := by
  rcases h.2 with ⟨rfl, h0⟩ | ⟨g, cap, cur, rfl, hg, hh, hr⟩
  · have : ss = [] := List.eq_nil_of_length_eq_zero h0
    subst this
    exact ⟨none, 0, rfl, fun h => absurd rfl h⟩
  · have hlt := h.lt g (by simp [Value.ownBlock])
    refine ⟨_, _, rfl, fun _ => ⟨g, 0, rfl, by omega, hlt.2, fun j x hx => ?_⟩⟩
    have h2 := h.cellAt j (by rw [← flat_len]; exact (List.getElem?_eq_some_iff.1 hx).1)
    rw [Nat.zero_add, h2]; exact hx

end Go.Proofs.YtfkleeigdplapaaDoor

namespace Go.Proofs.YtfkleeigdplapaaDoor
open Go.RowKit

/-- Subfields that lie from lo on, and not in block g. -/
def SubsOff (lo : Nat) (g : Option Nat) (w : World) (v : Value) (ss : List SubD) : Prop :=
  ∃ a cap, v = .slice a ss.length cap ∧ (ss ≠ [] → ∃ b off, a = some ⟨b, off, none⟩ ∧ lo ≤ b ∧ b < w.heap.size ∧ g ≠ some b ∧ ∀ j x, (ss.flatMap subCells)[j]? = some x → w.cell? ⟨b, off + j, none⟩ = some x)
theorem flat_ne {ss : List SubD} : ss.flatMap subCells ≠ [] ↔ ss ≠ [] := by
  cases ss with
  | nil => simp
  | cons s l => simp [subCells]
theorem SubsOff.at {lo : Nat} {g : Option Nat} {w : World} {v : Value} {ss : List SubD} (h : SubsOff lo g w v ss) : SubsAt lo w.heap.size w v ss := by
  obtain ⟨a, cap, hv, h⟩ := h
  refine ⟨a, cap, hv, fun hc => ?_⟩
  obtain ⟨b, off, h1, h2, h3, _, h5⟩ := h (flat_ne.1 hc)
  exact ⟨b, off, h1, h2, h3, h5⟩
theorem SubsOff.of {lo lo' : Nat} {g : Option Nat} {w : World} {v : Value} {ss : List SubD} (h : SubsAt lo w.heap.size w v ss) (hl : lo' ≤ lo) (hg : ∀ k, g = some k → k < lo) : SubsOff lo' g w v ss := by
  obtain ⟨a, cap, hv, h⟩ := h
  refine ⟨a, cap, hv, fun hc => ?_⟩
  obtain ⟨b, off, h1, h2, h3, h5⟩ := h (flat_ne.2 hc)
  exact ⟨b, off, h1, by omega, h3, fun e => by have := hg b e; omega, h5⟩
/-- Every block but g is as it was. -/
theorem SubsOff.step {lo : Nat} {g g' : Option Nat} {w w' : World} {v : Value} {ss : List SubD} (h : SubsOff lo g w v ss) (hk : ∀ k, lo ≤ k → k < w.heap.size → g ≠ some k → w'.heap[k]? = w.heap[k]?) (hz : w.heap.size ≤ w'.heap.size)
    (hg : g' = g ∨ ∃ k, g' = some k ∧ w.heap.size ≤ k) : SubsOff lo g' w' v ss := by
  obtain ⟨a, cap, hv, h⟩ := h
  refine ⟨a, cap, hv, fun hc => ?_⟩
  obtain ⟨b, off, h1, h2, h3, h4, h5⟩ := h hc
  refine ⟨b, off, h1, h2, by omega, ?_, fun j x hx => by rw [World.cell?_of_block (w := w) (hk b h2 h3 h4)]; exact h5 j x hx⟩
  rcases hg with rfl | ⟨k, rfl, hk2⟩
  · exact h4
  · intro e; injection e; omega

/-- A record under way: its struct variable in block b, its fields' row and their subfields from lo on. -/
structure RecOwn (lo : Nat) (w : World) (v : Value) (fs : List FieldD) : Prop where
  ex : ∃ ps : List (FieldD × Value), ps.map (·.1) = fs ∧ (∀ p ∈ ps, SubsOff lo v.ownBlock w p.2 p.1.subs) ∧ w.ownsRow lo 57 4 v fs.length (ps.flatMap fieldCells)
theorem RecOwn.nil (lo : Nat) (w : World) : RecOwn lo w (.slice none 0 0) [] := ⟨⟨[], rfl, by simp, World.ownsRow_nil _ _ _ _⟩⟩
theorem RecOwn.shape {lo : Nat} {w : World} {v : Value} {fs : List FieldD} (h : RecOwn lo w v fs) : ∃ a cap, v = .slice a fs.length cap := by
  obtain ⟨ps, _, _, h⟩ := h.ex; exact owns_shape h
/-- Nothing from lo on has turned. -/
theorem RecOwn.keep {lo : Nat} {w w' : World} {v : Value} {fs : List FieldD} (h : RecOwn lo w v fs) (hk : ∀ k, lo ≤ k → k < w.heap.size → w'.heap[k]? = w.heap[k]?) (hz : w.heap.size ≤ w'.heap.size) : RecOwn lo w' v fs := by
  obtain ⟨ps, h1, h2, h3⟩ := h.ex
  refine ⟨⟨ps, h1, fun p hp => (h2 p hp).step (fun k a b _ => hk k a b) hz (.inl rfl), ?_⟩⟩
  refine ⟨h3.1, ?_⟩
  rcases h3.2 with hn | ⟨g, cap, cur, hv, hb, hg, hr⟩
  · exact .inl hn
  · refine .inr ⟨g, cap, cur, hv, hb, ?_, hr⟩
    rw [hk g hb (Array.getElem?_eq_some_iff.1 hg).1]; exact hg
/-- A field is appended. -/
theorem RecOwn.app {lo : Nat} {w1 w2 : World} {v v' : Value} {fs : List FieldD} (f : FieldD) (d : Value) (ps : List (FieldD × Value)) (h1 : ps.map (·.1) = fs) (h2 : ∀ p ∈ ps, SubsOff lo v.ownBlock w1 p.2 p.1.subs) (hd : SubsOff lo v.ownBlock w1 d f.subs)
    (hown : w2.ownsRow lo 57 4 v' (fs.length + 1) (ps.flatMap fieldCells ++ fieldCells (f, d))) (hg : w1.grownBy w2 v.ownBlock) (hv : v'.ownBlock = v.ownBlock ∨ v'.ownBlock = some w1.heap.size) : RecOwn lo w2 v' (fs ++ [f]) := by
  have hstep : ∀ x ss, SubsOff lo v.ownBlock w1 x ss → SubsOff lo v'.ownBlock w2 x ss := fun x ss h =>
    h.step (fun k _ hk hne => hg.block k hk (Ne.symm hne)) hg.size (by rcases hv with hv | hv; exact .inl hv; exact .inr ⟨_, hv, Nat.le_refl _⟩)
  refine ⟨⟨ps ++ [(f, d)], by simp [h1], ?_, by simpa using hown⟩⟩
  intro p hp
  rcases List.mem_append.1 hp with hp | hp
  · exact hstep _ _ (h2 p hp)
  · simp at hp; subst hp; exact hstep _ _ hd
theorem RecOwn.fields {lo lo' : Nat} {w : World} {v : Value} {fs : List FieldD} (h : RecOwn lo w v fs) (hl : lo' ≤ lo) : FieldsAt lo' w.heap.size w v fs := by
  obtain ⟨ps, h1, h2, h3⟩ := h.ex
  refine ⟨ps, h1, fun p hp => (h2 p hp).at.mono hl (Nat.le_refl _), ?_⟩
  have hlen : ps.length = fs.length := by rw [← h1]; simp
  rcases h3.2 with ⟨rfl, h0⟩ | ⟨g, cap, cur, rfl, hg, hh, hr⟩
  · refine ⟨none, 0, by rw [h0], fun hc => ?_⟩
    have : ps = [] := List.eq_nil_of_length_eq_zero (by omega)
    subst this; exact absurd rfl hc
  · have hlt := h3.lt g (by simp [Value.ownBlock])
    refine ⟨_, _, rfl, fun _ => ⟨g, 0, rfl, by omega, hlt.2, fun j x hx => ?_⟩⟩
    have h4 := h3.cellAt j (by have := (List.getElem?_eq_some_iff.1 hx).1; rw [h3.1] at this; exact this)
    rw [Nat.zero_add, h4]; exact hx

/-- A call that builds a record: its result's block B (still zero), its own record's block B + 1. -/
structure RecSt (B : Nat) (w0 wr : World) (kd lv : UInt8) (v : Value) (fs : List FieldD) : Prop where
  below : Below B w0 wr
  big : B + 2 ≤ wr.heap.size
  z0 : wr.cell? ⟨B, 0, none⟩ = some (.int .u8 0)
  z1 : wr.cell? ⟨B, 1, none⟩ = some (.int .u8 0)
  z2 : wr.cell? ⟨B, 2, none⟩ = some (.slice none 0 0)
  y0 : wr.frozen? ⟨B, 0, none⟩ = false
  y1 : wr.frozen? ⟨B, 1, none⟩ = false
  y2 : wr.frozen? ⟨B, 2, none⟩ = false
  c0 : wr.cell? ⟨B + 1, 0, none⟩ = some (.int .u8 kd.toNat)
  c1 : wr.cell? ⟨B + 1, 1, none⟩ = some (.int .u8 lv.toNat)
  c2 : wr.cell? ⟨B + 1, 2, none⟩ = some v
  x2 : wr.frozen? ⟨B + 1, 2, none⟩ = false
  own : RecOwn (B + 2) wr v fs
theorem RecSt.keep {B : Nat} {w0 wr w2 : World} {kd lv : UInt8} {v : Value} {fs : List FieldD} (h : RecSt B w0 wr kd lv v fs) (hb : Below wr.heap.size wr w2) : RecSt B w0 w2 kd lv v fs := by
  have hc : ∀ b i, b < B + 2 → w2.cell? ⟨b, i, none⟩ = wr.cell? ⟨b, i, none⟩ := fun b i hh => hb.cell (p := ⟨b, i, none⟩) (Nat.lt_of_lt_of_le hh h.big)
  have hf : ∀ b i, b < B + 2 → w2.frozen? ⟨b, i, none⟩ = wr.frozen? ⟨b, i, none⟩ := fun b i hh => hb.frozen (p := ⟨b, i, none⟩) (Nat.lt_of_lt_of_le hh h.big)
  exact ⟨btr h.below hb (by have := h.big; omega), Nat.le_trans h.big hb.size, by rw [hc _ _ (by omega)]; exact h.z0, by rw [hc _ _ (by omega)]; exact h.z1, by rw [hc _ _ (by omega)]; exact h.z2,
    by rw [hf _ _ (by omega)]; exact h.y0, by rw [hf _ _ (by omega)]; exact h.y1, by rw [hf _ _ (by omega)]; exact h.y2, by rw [hc _ _ (by omega)]; exact h.c0, by rw [hc _ _ (by omega)]; exact h.c1, by rw [hc _ _ (by omega)]; exact h.c2, by rw [hf _ _ (by omega)]; exact h.x2,
    h.own.keep (fun k _ hk => hb.block k hk) hb.size⟩
/-- A field is appended to the record's fields. -/
theorem RecSt.app {B : Nat} {w0 w1 w2 : World} {kd lv : UInt8} {v v' : Value} {fs : List FieldD} (h : RecSt B w0 w1 kd lv v fs) (f : FieldD) (d : Value) (ps : List (FieldD × Value)) (h1 : ps.map (·.1) = fs) (h2 : ∀ p ∈ ps, SubsOff (B + 2) v.ownBlock w1 p.2 p.1.subs)
    (h3 : w1.ownsRow (B + 2) 57 4 v fs.length (ps.flatMap fieldCells)) (hd : SubsOff (B + 2) v.ownBlock w1 d f.subs)
    (hown : w2.ownsRow (B + 2) 57 4 v' (fs.length + 1) (ps.flatMap fieldCells ++ fieldCells (f, d))) (hg : w1.grownBy w2 v.ownBlock) (hv : v'.ownBlock = v.ownBlock ∨ v'.ownBlock = some w1.heap.size) :
    RecSt B w0 (w2.setCell ⟨B + 1, 2, none⟩ v') kd lv v' (fs ++ [f]) := by
  have hk : ∀ k, k < B + 2 → w2.heap[k]? = w1.heap[k]? := fun k hk => hg.block k (Nat.lt_of_lt_of_le hk h.big) (by intro e; have := (h3.lt k e.symm).1; omega)
  have hc : ∀ b i, b < B + 2 → w2.cell? ⟨b, i, none⟩ = w1.cell? ⟨b, i, none⟩ := fun b i hh => World.cell?_of_block (w := w1) (hk b hh)
  have hf : ∀ b i, b < B + 2 → w2.frozen? ⟨b, i, none⟩ = w1.frozen? ⟨b, i, none⟩ := fun b i hh => World.frozen?_of_block (w := w1) (hk b hh)
  have hr := RecOwn.app f d ps h1 h2 hd hown hg hv
  have z0 := h.z0; have z1 := h.z1; have z2 := h.z2; have c0 := h.c0; have c1 := h.c1; have c2 := h.c2
  rw [← hc _ _ (by omega)] at z0 z1 z2 c0 c1 c2
  have hb2 : Below B w0 w2 := ⟨hg.os.trans h.below.os, hg.tape.trans h.below.tape, hg.output.trans h.below.output, Nat.le_trans h.below.size hg.size, fun k hk' => (hk k (by omega)).trans (h.below.block k hk')⟩
  refine ⟨hb2.setCell (by simp) _, by simpa using Nat.le_trans h.big hg.size, ?_, ?_, ?_, ?_, ?_, ?_, ?_, ?_, ?_, ?_, ?_⟩
  · clear hc hf hk; go_simp
  · clear hc hf hk; go_simp
  · clear hc hf hk; go_simp
  · rw [setCell_frozen, hf _ _ (by omega)]; exact h.y0
  · rw [setCell_frozen, hf _ _ (by omega)]; exact h.y1
  · rw [setCell_frozen, hf _ _ (by omega)]; exact h.y2
  · clear hc hf hk; go_simp
  · clear hc hf hk; go_simp
  · clear hc hf hk; go_simp
  · rw [setCell_frozen, hf _ _ (by omega)]; exact h.x2
  · exact hr.keep (fun k a _ => Below.heap_setCell _ _ _ _ (by simp; omega)) (by simp)

end Go.Proofs.YtfkleeigdplapaaDoor
