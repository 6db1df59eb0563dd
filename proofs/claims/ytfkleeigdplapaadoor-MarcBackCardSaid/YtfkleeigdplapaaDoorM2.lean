/-
  The memory of Made while it builds its record.
-/
import Derived.Test.YtfkleeigdplapaaDoorM1
import Derived.Deep.RegionHeld3
import Derived.Deep.DeepCutAuto
import Derived.Maps.AppendAt
namespace Go.Proofs.YtfkleeigdplapaaDoor
open Go.RowKit
attribute [local go_sem ↓] Go.wp_at_zero Go.wp_at_succ

structure MadeSt (B : Nat) (w0 wr : World) (kd lv : UInt8) (v : Value) (fs : List FieldD) : Prop where
  st : RecSt B w0 wr kd lv v fs
  x0 : wr.frozen? ⟨B + 1, 0, none⟩ = false
  x1 : wr.frozen? ⟨B + 1, 1, none⟩ = false
  tags : ∀ k, k < 12 → wr.cell? ⟨B + 2, k, none⟩ = some (S (tagsL.getD k []))
  big : B + 3 ≤ wr.heap.size
  far : ∀ g, v.ownBlock = some g → B + 3 ≤ g
theorem MadeSt.keep {B : Nat} {w0 wr w2 : World} {kd lv : UInt8} {v : Value} {fs : List FieldD} (h : MadeSt B w0 wr kd lv v fs) (hb : Below wr.heap.size wr w2) : MadeSt B w0 w2 kd lv v fs := by
  have hz := h.big
  refine ⟨h.st.keep hb, ?_, ?_, fun k hk => ?_, Nat.le_trans hz hb.size, h.far⟩
  · rw [hb.frozen (p := ⟨B + 1, 0, none⟩) (by simp; omega)]; exact h.x0
  · rw [hb.frozen (p := ⟨B + 1, 1, none⟩) (by simp; omega)]; exact h.x1
  · rw [hb.cell (p := ⟨B + 2, k, none⟩) (by simp; omega)]; exact h.tags k hk
theorem MadeSt.setKind {B : Nat} {w0 wr : World} {kd lv : UInt8} {v : Value} {fs : List FieldD} (h : MadeSt B w0 wr kd lv v fs) (c : UInt8) : MadeSt B w0 (wr.setCell ⟨B + 1, 0, none⟩ (.int .u8 c.toNat)) c lv v fs := by
  obtain ⟨⟨b, big, z0, z1, z2, y0, y1, y2, c0, c1, c2, x2, own⟩, x0, x1, tags, big2, far⟩ := h
  have ho := own.keep (w' := wr.setCell ⟨B + 1, 0, none⟩ (.int .u8 c.toNat)) (fun k a _ => Below.heap_setCell _ _ _ _ (by simp; omega)) (by simp)
  have ht : ∀ k, k < 12 → (wr.setCell ⟨B + 1, 0, none⟩ (.int .u8 c.toNat)).cell? ⟨B + 2, k, none⟩ = some (S (tagsL.getD k [])) := fun k hk => by
    rw [World.cell?_of_block (w := wr) (Below.heap_setCell _ _ _ _ (by simp))]; exact tags k hk
  refine ⟨⟨b.setCell (by simp) _, by simpa using big, ?_, ?_, ?_, ?_, ?_, ?_, ?_, ?_, ?_, ?_, ho⟩, ?_, ?_, ht, by simpa using big2, far⟩
  any_goals (rw [setCell_frozen]; assumption)
  any_goals (clear ht ho tags far own; go_simp)
theorem MadeSt.setLevel {B : Nat} {w0 wr : World} {kd lv : UInt8} {v : Value} {fs : List FieldD} (h : MadeSt B w0 wr kd lv v fs) (c : UInt8) : MadeSt B w0 (wr.setCell ⟨B + 1, 1, none⟩ (.int .u8 c.toNat)) kd c v fs := by
  obtain ⟨⟨b, big, z0, z1, z2, y0, y1, y2, c0, c1, c2, x2, own⟩, x0, x1, tags, big2, far⟩ := h
  have ho := own.keep (w' := wr.setCell ⟨B + 1, 1, none⟩ (.int .u8 c.toNat)) (fun k a _ => Below.heap_setCell _ _ _ _ (by simp; omega)) (by simp)
  have ht : ∀ k, k < 12 → (wr.setCell ⟨B + 1, 1, none⟩ (.int .u8 c.toNat)).cell? ⟨B + 2, k, none⟩ = some (S (tagsL.getD k [])) := fun k hk => by
    rw [World.cell?_of_block (w := wr) (Below.heap_setCell _ _ _ _ (by simp))]; exact tags k hk
  refine ⟨⟨b.setCell (by simp) _, by simpa using big, ?_, ?_, ?_, ?_, ?_, ?_, ?_, ?_, ?_, ?_, ho⟩, ?_, ?_, ht, by simpa using big2, far⟩
  any_goals (rw [setCell_frozen]; assumption)
  any_goals (clear ht ho tags far own; go_simp)
/-- A field is appended. -/
theorem MadeSt.app {B : Nat} {w0 wx w2 : World} {kd lv : UInt8} {v v' : Value} {fs : List FieldD} (h : MadeSt B w0 wx kd lv v fs) (o : Obj) (f : FieldD) (d : Value) (ps : List (FieldD × Value)) (h1 : ps.map (·.1) = fs) (h2 : ∀ p ∈ ps, SubsOff (B + 2) v.ownBlock wx p.2 p.1.subs)
    (h3 : wx.ownsRow (B + 2) 57 4 v fs.length (ps.flatMap fieldCells)) (hd : SubsOff (B + 2) v.ownBlock wx d f.subs)
    (hown : w2.ownsRow (B + 2) 57 4 v' (fs.length + 1) (ps.flatMap fieldCells ++ fieldCells (f, d))) (hg : (wx.alloc o).grownBy w2 v.ownBlock) (hv : v'.ownBlock = v.ownBlock ∨ v'.ownBlock = some (wx.alloc o).heap.size) :
    MadeSt B w0 (w2.setCell ⟨B + 1, 2, none⟩ v') kd lv v' (fs ++ [f]) := by
  have hbig := h.big
  have hk : ∀ k, k < B + 3 → w2.heap[k]? = wx.heap[k]? := fun k hk => by
    rw [hg.block k (by simp; omega) (by intro e; have := h.far k e.symm; omega)]
    exact Below.heap_alloc wx o k (by omega)
  have st : ∀ {x : Value} {ss : List SubD}, SubsOff (B + 2) v.ownBlock wx x ss → SubsOff (B + 2) v.ownBlock (wx.alloc o) x ss := fun h =>
    h.step (fun k _ hk _ => Below.heap_alloc wx o k hk) (by simp) (.inl rfl)
  have hz : wx.heap.size ≤ w2.heap.size := Nat.le_trans (by simp) hg.size
  refine ⟨(h.st.keep (alloc_below1 wx o)).app f d ps h1 (fun p hp => st (h2 p hp)) (h3.alloc o) (st hd) hown hg hv, ?_, ?_, fun k hk' => ?_, by simp; omega, fun g hgg => ?_⟩
  · rw [setCell_frozen, World.frozen?_of_block (w := wx) (hk (B + 1) (by omega))]; exact h.x0
  · rw [setCell_frozen, World.frozen?_of_block (w := wx) (hk (B + 1) (by omega))]; exact h.x1
  · rw [World.cell?_of_block (w := w2) (Below.heap_setCell _ _ _ _ (by simp)), World.cell?_of_block (w := wx) (hk (B + 2) (by omega))]; exact h.tags k hk'
  · rcases hv with hv | hv
    · rw [hv] at hgg; exact h.far g hgg
    · rw [hv] at hgg; injection hgg with e; simp at e; omega
theorem MadeSt.farc {B : Nat} {w0 wx : World} {kd lv : UInt8} {v : Value} {fs : List FieldD} (h : MadeSt B w0 wx kd lv v fs) : ∀ (o : Obj) (w4 : World), (wx.alloc o).grownBy w4 v.ownBlock → w4.cell? ⟨B + 1, 2, none⟩ = some v ∧ w4.frozen? ⟨B + 1, 2, none⟩ = false := by
  intro o w4 hg
  have hbig := h.big
  have hk : w4.heap[B + 1]? = wx.heap[B + 1]? := by
    rw [hg.block (B + 1) (by simp; omega) (by intro e; have := h.far _ e.symm; omega)]
    exact Below.heap_alloc wx o (B + 1) (by omega)
  exact ⟨(World.cell?_of_block (w := wx) hk).trans h.st.c2, (World.frozen?_of_block (w := wx) hk).trans h.st.x2⟩
theorem cell_four_new' (w : World) (x y z u : Value) (t : TypeId) : ∀ j v, [x, y, z, u][j]? = some v → (w.alloc (.cells #[x, y, z, u] t)).cell? ((⟨w.heap.size, 0, none⟩ : Addr).add j) = some v := by
  intro j v hj
  match j, hj with
  | 0, hj => simp at hj; subst hj; simp [Addr.add]
  | 1, hj => simp at hj; subst hj; simp [Addr.add]
  | 2, hj => simp at hj; subst hj; simp [Addr.add]
  | 3, hj => simp at hj; subst hj; simp [Addr.add]
theorem i57' : (Tryd.prog.info? 57).map (fun i => (i.zero, i.size, i.bytes)) = some (some (.agg #[.string ⟨#[]⟩, .string ⟨#[]⟩, .string ⟨#[]⟩, .slice none 0 0]), 4, 72) := by kernel_rfl
theorem i59' : (Tryd.prog.info? 59).map (fun i => (i.zero, i.size, i.bytes)) = some (some (.agg #[.int .u8 0, .string ⟨#[]⟩]), 2, 24) := by kernel_rfl
/-- A field under way: its struct variable in block F, its subfields' row behind it. -/
structure SubSt (F : Nat) (w0 wx : World) (T I : Bs) (v : Value) (ss : List SubD) : Prop where
  below : Below F w0 wx
  big : F + 1 ≤ wx.heap.size
  loc : LocAt F wx ⟨T, I, [], ss⟩ v
  own : wx.ownsRow (F + 1) 59 2 v ss.length (ss.flatMap subCells)
theorem SubSt.drew {F : Nat} {w0 wx : World} {T I : Bs} {v : Value} {ss : List SubD} (h : SubSt F w0 wx T I v ss) : SubSt F w0 wx.drew T I v ss :=
  ⟨h.below.drew, h.big, h.loc.of rfl, h.own.drew⟩
theorem SubSt.alloc {F : Nat} {w0 wx : World} {T I : Bs} {v : Value} {ss : List SubD} (h : SubSt F w0 wx T I v ss) (o : Obj) : SubSt F w0 (wx.alloc o) T I v ss :=
  ⟨h.below.alloc (by have := h.big; omega) _, by have := h.big; simp; omega, h.loc.of (Below.heap_alloc wx o F (by have := h.big; omega)), h.own.alloc o⟩
theorem SubSt.setInd {F : Nat} {w0 wx : World} {T I : Bs} {v : Value} {ss : List SubD} (h : SubSt F w0 wx T I v ss) (x : Bs) : SubSt F w0 (wx.setCell ⟨F, 1, none⟩ (S x)) T x v ss :=
  ⟨h.below.setCell (by simp) _, by simpa using h.big, h.loc.setInd x, ownsRow_setCell_below h.own (by simp) _⟩
theorem SubSt.init (w : World) (T : Bs) : SubSt w.heap.size w (w.alloc (Obj.cells #[S T, S [], S [], .slice none 0 0] 57)) T [] (.slice none 0 0) [] := by
  refine ⟨alloc_below1 w _, by simp, ?_, World.ownsRow_nil _ _ _ _⟩
  constructor <;> go_simp
theorem SubSt.app {F : Nat} {w0 wx w2 : World} {T I : Bs} {v v' : Value} {ss : List SubD} (h : SubSt F w0 wx T I v ss) (x : SubD)
    (hown : w2.ownsRow (F + 1) 59 2 v' (ss.length + 1) (ss.flatMap subCells ++ subCells x)) (hg : wx.grownBy w2 v.ownBlock) : SubSt F w0 (w2.setCell ⟨F, 3, none⟩ v') T I v' (ss ++ [x]) := by
  have hbig := h.big
  have hk : ∀ k, k < F + 1 → w2.heap[k]? = wx.heap[k]? := fun k hk => hg.block k (by omega) (by intro e; have := (h.own.lt k e.symm).1; omega)
  have hbl : Below F w0 w2 := ⟨hg.os.trans h.below.os, hg.tape.trans h.below.tape, hg.output.trans h.below.output, Nat.le_trans h.below.size hg.size, fun k hk' => (hk k (by omega)).trans (h.below.block k hk')⟩
  refine ⟨hbl.setCell (by simp) _, by have := hg.size; simp; omega, (h.loc.of (hk F (by omega))).setSubs _ _, ?_⟩
  have := ownsRow_setCell_below hown (a := ⟨F, 3, none⟩) (by simp) v'
  simpa using this
/-- Behind the append the variable's cell is as it was. -/
theorem SubSt.far {F : Nat} {w0 wx : World} {T I : Bs} {v : Value} {ss : List SubD} (h : SubSt F w0 wx T I v ss) : ∀ (w4 : World), wx.grownBy w4 v.ownBlock → w4.cell? ⟨F, 3, none⟩ = some v ∧ w4.frozen? ⟨F, 3, none⟩ = false ∧ (∀ b i, b < F → w4.cell? ⟨b, i, none⟩ = wx.cell? ⟨b, i, none⟩) := by
  intro w4 hg
  have hbig := h.big
  have hk : ∀ k, k < F + 1 → w4.heap[k]? = wx.heap[k]? := fun k hk => hg.block k (by omega) (by intro e; have := (h.own.lt k e.symm).1; omega)
  exact ⟨(World.cell?_of_block (w := wx) (hk F (by omega))).trans h.loc.c3, (World.frozen?_of_block (w := wx) (hk F (by omega))).trans h.loc.f3, fun b i hb => World.cell?_of_block (w := wx) (hk b (by omega))⟩
theorem cell_two_new' (w : World) (x y : Value) (t : TypeId) : ∀ j v, [x, y][j]? = some v → (w.alloc (.cells #[x, y] t)).cell? ((⟨w.heap.size, 0, none⟩ : Addr).add j) = some v := by
  intro j v hj
  match j, hj with
  | 0, hj => simp at hj; subst hj; simp [Addr.add]
  | 1, hj => simp at hj; subst hj; simp [Addr.add]
/-- What the arguments hold: n triples of numbers. -/
def IntsAt (w : World) (v : Value) (n : Nat) : Prop :=
  ∃ a cap, v = .slice a n cap ∧ (0 < n → ∃ b off, a = some ⟨b, off, none⟩ ∧ b < w.heap.size ∧ ∀ j, j < 3 * n → ∃ z : Int, w.cell? ⟨b, off + j, none⟩ = some (.int .i64 z))
/-- What Made leaves. -/
def MadePost (n : Nat) (w : World) (e : Ending) (w' : World) : Prop :=
  ∃ r : RecD, GoodR r ∧ r.fields.length = min n 12 ∧ Below w.heap.size w w' ∧ ∃ sa cap, e = .returned (.agg #[.int .u8 r.kind.toNat, .int .u8 r.level.toNat, .slice sa r.fields.length cap]) ∧ FieldsAt w.heap.size w'.heap.size w' (.slice sa r.fields.length cap) r.fields
theorem madePost_of {n : Nat} {w w' : World} {e : Ending} {kd lv : UInt8} {fs : List FieldD} {sa : Option Addr} {cap : Nat} (hk : letterB kd = true) (hl : letterB lv = true) (hf : ∀ f ∈ fs, GoodF f) (hn : fs.length = min n 12) (hb : Below w.heap.size w w')
    (he : e = .returned (.agg #[.int .u8 kd.toNat, .int .u8 lv.toNat, .slice sa fs.length cap])) (hat : FieldsAt w.heap.size w'.heap.size w' (.slice sa fs.length cap) fs) : MadePost n w e w' :=
  ⟨⟨kd, lv, fs⟩, ⟨hk, hl, hf, by simp only; omega⟩, hn, hb, sa, cap, he, hat⟩
theorem made_init (w : World) : MadeSt w.heap.size w (((w.alloc (Obj.cells #[.int .u8 0, .int .u8 0, .slice none 0 0] 27)).alloc (Obj.cells #[.int .u8 97, .int .u8 109, .slice none 0 0] 27)).alloc tagsO) 97 109 (.slice none 0 0) [] := by
  have ht := strs_cell ((w.alloc (Obj.cells #[.int .u8 0, .int .u8 0, .slice none 0 0] 27)).alloc (Obj.cells #[.int .u8 97, .int .u8 109, .slice none 0 0] 27)) tagsL 9
  simp only [World.size_alloc] at ht
  refine ⟨⟨(((Below.refl _ w).alloc (Nat.le_refl _) _).alloc (by simp) _).alloc (by simp; omega) _, by simp, ?_, ?_, ?_, ?_, ?_, ?_, ?_, ?_, ?_, ?_, RecOwn.nil _ _⟩, ?_, ?_, fun k hk => ht k hk, by simp, fun g h => by cases h⟩
  all_goals (clear ht; go_simp)
end Go.Proofs.YtfkleeigdplapaaDoor
