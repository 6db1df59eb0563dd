/-
  Spoiled's record in memory, under way: its head, its fields' row, each field's subfields in a row of their own.
-/
import Derived.Test.YtfkleeigdplapaaDoorP29
import Derived.Test.YtfkleeigdplapaaDoorM3
import Derived.Deep.AppendSrc
namespace Go.Proofs.YtfkleeigdplapaaDoor
open Go.RowKit

theorem owns_off {lo : Nat} {g : Option Nat} {w : World} {d : Value} {ss : List SubD} (h : w.ownsRow lo 59 2 d ss.length (ss.flatMap subCells)) (hg : ∀ k, d.ownBlock = some k → g ≠ some k) : SubsOff lo g w d ss := by
  rcases h.2 with ⟨rfl, h0⟩ | ⟨b, cap, cur, rfl, hb, hh, hr⟩
  · have : ss = [] := List.eq_nil_of_length_eq_zero h0
    subst this
    exact ⟨none, 0, rfl, fun h => absurd rfl h⟩
  · have hlt := h.lt b (by simp [Value.ownBlock])
    refine ⟨_, _, rfl, fun _ => ⟨b, 0, rfl, hb, hlt.2, hg b (by simp [Value.ownBlock]), fun j x hx => ?_⟩⟩
    have h2 := h.cellAt j (by have := (List.getElem?_eq_some_iff.1 hx).1; rw [h.1] at this; exact this)
    rw [Nat.zero_add, h2]; exact hx
theorem ownr_far {w w' : World} {B : Nat} {e : TypeId} {k : Nat} {v : Value} {n : Nat} {xs : List Value} (h : w.ownsRow B e k v n xs) (hk : ∀ g, v.ownBlock = some g → w'.heap[g]? = w.heap[g]?) : w'.ownsRow B e k v n xs := by
  refine ⟨h.1, ?_⟩
  rcases h.2 with hn | ⟨g, cap, cur, hv, hB, hg, hr⟩
  · exact .inl hn
  · exact .inr ⟨g, cap, cur, hv, hB, by rw [hk g (by rw [hv]; simp [Value.ownBlock])]; exact hg, hr⟩
/-- Fields under way, each one's subfields in a row of its own. -/
structure SpOwn (lo : Nat) (w : World) (v : Value) (fs : List FieldD) : Prop where
  ex : ∃ ps : List (FieldD × Value), ps.map (·.1) = fs ∧ w.ownsRow lo 57 4 v fs.length (ps.flatMap fieldCells) ∧
    (∀ p ∈ ps, w.ownsRow lo 59 2 p.2 p.1.subs.length (p.1.subs.flatMap subCells) ∧ ∃ g, p.2.ownBlock = some g ∧ v.ownBlock ≠ some g) ∧ ps.Pairwise (fun p q => p.2.ownBlock ≠ q.2.ownBlock)
theorem SpOwn.nil (lo : Nat) (w : World) : SpOwn lo w (.slice none 0 0) [] := ⟨⟨[], rfl, World.ownsRow_nil _ _ _ _, by simp, .nil⟩⟩
theorem SpOwn.toRec {lo : Nat} {w : World} {v : Value} {fs : List FieldD} (h : SpOwn lo w v fs) : RecOwn lo w v fs := by
  obtain ⟨ps, h1, h2, h3, _⟩ := h.ex
  refine ⟨⟨ps, h1, fun p hp => owns_off (h3 p hp).1 (fun k hk e => ?_), h2⟩⟩
  obtain ⟨g, hg, hne⟩ := (h3 p hp).2
  rw [hg] at hk
  injection hk with hk
  subst hk; exact hne e
theorem SpOwn.keep {lo : Nat} {w w' : World} {v : Value} {fs : List FieldD} (h : SpOwn lo w v fs) (hb : Below w.heap.size w w') : SpOwn lo w' v fs := by
  obtain ⟨ps, h1, h2, h3, h4⟩ := h.ex
  exact ⟨⟨ps, h1, ownr_far h2 (fun g hg => hb.block g (h2.lt g hg).2), fun p hp => ⟨ownr_far (h3 p hp).1 (fun g hg => hb.block g ((h3 p hp).1.lt g hg).2), (h3 p hp).2⟩, h4⟩⟩
theorem SpOwn.far {lo : Nat} {w w' : World} {v : Value} {fs : List FieldD} (h : SpOwn lo w v fs) (hk : ∀ k, lo ≤ k → k < w.heap.size → w'.heap[k]? = w.heap[k]?) : SpOwn lo w' v fs := by
  obtain ⟨ps, h1, h2, h3, h4⟩ := h.ex
  exact ⟨⟨ps, h1, ownr_far h2 (fun g hg => hk g (h2.lt g hg).1 (h2.lt g hg).2), fun p hp => ⟨ownr_far (h3 p hp).1 (fun g hg => hk g ((h3 p hp).1.lt g hg).1 ((h3 p hp).1.lt g hg).2), (h3 p hp).2⟩, h4⟩⟩
/-- A field is appended. -/
theorem SpOwn.app {lo : Nat} {w1 w2 : World} {v v' : Value} {fs : List FieldD} (f : FieldD) (d : Value) (ps : List (FieldD × Value)) (h1 : ps.map (·.1) = fs)
    (h3 : ∀ p ∈ ps, w1.ownsRow lo 59 2 p.2 p.1.subs.length (p.1.subs.flatMap subCells) ∧ ∃ g, p.2.ownBlock = some g ∧ v.ownBlock ≠ some g) (h4 : ps.Pairwise (fun p q => p.2.ownBlock ≠ q.2.ownBlock))
    (hd : w1.ownsRow lo 59 2 d f.subs.length (f.subs.flatMap subCells)) (gd : Nat) (hgd : d.ownBlock = some gd) (hgv : v.ownBlock ≠ some gd) (hne : ∀ p ∈ ps, p.2.ownBlock ≠ some gd)
    (hown : w2.ownsRow lo 57 4 v' (fs.length + 1) (ps.flatMap fieldCells ++ fieldCells (f, d))) (hg : w1.grownBy w2 v.ownBlock) (hv : v'.ownBlock = v.ownBlock ∨ v'.ownBlock = some w1.heap.size) : SpOwn lo w2 v' (fs ++ [f]) := by
  have step : ∀ (x : Value) (ss : List SubD) (g : Nat), w1.ownsRow lo 59 2 x ss.length (ss.flatMap subCells) → x.ownBlock = some g → v.ownBlock ≠ some g → w2.ownsRow lo 59 2 x ss.length (ss.flatMap subCells) ∧ ∃ g, x.ownBlock = some g ∧ v'.ownBlock ≠ some g := by
    intro x ss g hx hxg hvg
    have hlt := (hx.lt g hxg).2
    refine ⟨ownr_far hx (fun k hk => ?_), g, hxg, ?_⟩
    · rw [hxg] at hk; injection hk with hk; subst hk
      exact hg.block _ hlt (fun e => hvg e.symm)
    · rcases hv with hv | hv
      · rw [hv]; exact hvg
      · rw [hv]; intro e; injection e with e; omega
  refine ⟨⟨ps ++ [(f, d)], by simp [h1], by simpa using hown, ?_, ?_⟩⟩
  · intro p hp
    rcases List.mem_append.1 hp with hp | hp
    · obtain ⟨ho, g, hg1, hg2⟩ := h3 p hp
      exact step _ _ g ho hg1 hg2
    · simp at hp; subst hp; exact step _ _ gd hd hgd hgv
  · refine List.pairwise_append.2 ⟨h4, by simp, fun p hp q hq => ?_⟩
    simp at hq; subst hq
    rw [hgd]; exact hne p hp
/-- 'append([]Sub, ss...)'. -/
theorem copy_subs (lo : Nat) (W : World) (D : Nat) (d : Value) (ss : List SubD) (hD : W.heap[D]? = some (.cells #[] 59 (0, 0))) (hd : SubsAt 0 W.heap.size W d ss) (hn : ss.length ≤ 1000000) (hlo : lo ≤ D) :
    ∃ (a : Addr) (cap : Nat) (W' : World), (Builtin.append_ #[55, 55] 55 #[.slice (some ⟨D, 0, none⟩) 0 0, d]).run Tryd.prog W = .ok (.slice (some a) ss.length cap) W' ∧ W'.ownsRow lo 59 2 (.slice (some a) ss.length cap) ss.length (ss.flatMap subCells) ∧ W.grownBy W' (some D) ∧ (a.block = D ∨ a.block = W.heap.size) := by
  obtain ⟨i, hi, hz, hs, hby⟩ := info_parts i59'
  have hDlt : D < W.heap.size := (Array.getElem?_eq_some_iff.1 hD).1
  have hown : W.ownsRow lo 59 2 (.slice (some ⟨D, 0, none⟩) 0 0) 0 [] := ⟨by simp, .inr ⟨D, 0, #[], rfl, hlo, hD, Nat.le_refl _, by unfold maxLen; omega, by simp, by simp⟩⟩
  obtain ⟨a, cap, rfl, h⟩ := hd
  by_cases h0 : ss = []
  · subst h0
    have hsrc : Src Tryd.prog i.size 55 (.slice a 0 cap) 0 [] W := by
      cases a with
      | none => exact Src.ofNil W Tryd.underlying55 cap
      | some a => exact Src.ofSlice W Tryd.underlying55 a 0 cap [] (by simp) (by simp) (by simp)
    have hr := run_append_room_src (P := Tryd.prog) W 55 55 55 59 i Tryd.underlying55 hi D 0 0 0 (.slice a 0 cap) 0 [] hsrc (by omega) (by simp) (by simp)
    exact ⟨_, _, _, hr, hown, ⟨rfl, rfl, rfl, Nat.le_refl _, fun _ _ _ => rfl⟩, .inl rfl⟩
  · obtain ⟨b, off, rfl, _, _, hc⟩ := h (flat_ne.2 h0)
    obtain ⟨v', W', hr, h2, h3, _, h5⟩ := run_append_own_at (P := Tryd.prog) W lo 55 55 59 i _ 2 24 Tryd.underlying55 hi hz hs hby rfl (by omega) (.slice (some ⟨D, 0, none⟩) 0 0) 0 [] hown ⟨b, off, none⟩ ss.length cap (ss.flatMap subCells) (flat_len ss)
      (fun j u hj => by
        have : (⟨b, off, none⟩ : Addr).add j = ⟨b, off + j, none⟩ := by unfold Addr.add; split <;> simp_all
        rw [this]; exact hc j u hj)
      (fun u hu => by
        obtain ⟨s, _, hu⟩ := List.mem_flatMap.1 hu
        simp [subCells] at hu
        rcases hu with rfl | rfl <;> rfl) (by unfold maxLen; omega) (by omega) (by omega)
    rw [Nat.zero_add, List.nil_append] at h2
    have hl : 0 < ss.length := List.length_pos_iff.2 h0
    obtain ⟨g, cap', rfl, _⟩ := World.ownsRow.form h2 hl
    refine ⟨⟨g, 0, none⟩, cap', W', hr, h2, h3, ?_⟩
    rcases h5 with h5 | h5
    · left; simpa [Value.ownBlock] using h5
    · right; simpa [Value.ownBlock] using h5
/-- The record's own blocks: its result's block B (still zero), its struct variable's block B + 1. -/
structure SpHd (B : Nat) (w0 wr : World) (kd lv : UInt8) (v : Value) : Prop where
  below : Below B w0 wr
  big : B + 2 ≤ wr.heap.size
  z0 : wr.cell? ⟨B, 0, none⟩ = some (.int .u8 0)
  z1 : wr.cell? ⟨B, 1, none⟩ = some (.int .u8 0)
  z2 : wr.cell? ⟨B, 2, none⟩ = some (.slice none 0 0)
  y0 : wr.frozen? ⟨B, 0, none⟩ = false
  y1 : wr.frozen? ⟨B, 1, none⟩ = false
  y2 : wr.frozen? ⟨B, 2, none⟩ = false
  c0 : wr.cell? ⟨B + 1, 0, none⟩ = some (.int .u8 kd.toNat)
  c1 : wr.cell? ⟨B + 1, 1, none⟩ = some (.int .u8 lv.toNat)
  c2 : wr.cell? ⟨B + 1, 2, none⟩ = some v
  x0 : wr.frozen? ⟨B + 1, 0, none⟩ = false
  x1 : wr.frozen? ⟨B + 1, 1, none⟩ = false
  x2 : wr.frozen? ⟨B + 1, 2, none⟩ = false
theorem SpHd.far {B : Nat} {w0 wr w2 : World} {kd lv : UInt8} {v : Value} (h : SpHd B w0 wr kd lv v) (hbl : Below B w0 w2) (hk : ∀ k, k < B + 2 → w2.heap[k]? = wr.heap[k]?) (hz : B + 2 ≤ w2.heap.size) : SpHd B w0 w2 kd lv v := by
  have hc : ∀ b i, b < B + 2 → w2.cell? ⟨b, i, none⟩ = wr.cell? ⟨b, i, none⟩ := fun b i hh => World.cell?_of_block (hk b hh)
  have hf : ∀ b i, b < B + 2 → w2.frozen? ⟨b, i, none⟩ = wr.frozen? ⟨b, i, none⟩ := fun b i hh => World.frozen?_of_block (hk b hh)
  exact ⟨hbl, hz, by rw [hc _ _ (by omega)]; exact h.z0, by rw [hc _ _ (by omega)]; exact h.z1, by rw [hc _ _ (by omega)]; exact h.z2,
    by rw [hf _ _ (by omega)]; exact h.y0, by rw [hf _ _ (by omega)]; exact h.y1, by rw [hf _ _ (by omega)]; exact h.y2, by rw [hc _ _ (by omega)]; exact h.c0, by rw [hc _ _ (by omega)]; exact h.c1, by rw [hc _ _ (by omega)]; exact h.c2,
    by rw [hf _ _ (by omega)]; exact h.x0, by rw [hf _ _ (by omega)]; exact h.x1, by rw [hf _ _ (by omega)]; exact h.x2⟩
theorem SpHd.keep {B : Nat} {w0 wr w2 : World} {kd lv : UInt8} {v : Value} (h : SpHd B w0 wr kd lv v) (hb : Below wr.heap.size wr w2) : SpHd B w0 w2 kd lv v :=
  h.far (btr h.below hb (by have := h.big; omega)) (fun k hk => hb.block k (by have := h.big; omega)) (Nat.le_trans h.big hb.size)
theorem SpHd.put {B : Nat} {w0 wr : World} {kd lv : UInt8} {v : Value} (h : SpHd B w0 wr kd lv v) (g j : Nat) (hg : B + 2 ≤ g) (u : Value) : SpHd B w0 (wr.setCell ⟨g, j, none⟩ u) kd lv v :=
  h.far (h.below.setCell (by simp; omega) _) (fun k hk => Below.heap_setCell _ _ _ _ (by simp; omega)) (by simpa using h.big)
theorem SpHd.grown {B : Nat} {w0 wr w2 : World} {kd lv : UInt8} {v : Value} (h : SpHd B w0 wr kd lv v) {row : Option Nat} (hg : wr.grownBy w2 row) (hr : ∀ k, row = some k → B + 2 ≤ k) : SpHd B w0 w2 kd lv v := by
  have hk : ∀ k, k < B + 2 → w2.heap[k]? = wr.heap[k]? := fun k hk => hg.block k (Nat.lt_of_lt_of_le hk h.big) (by intro e; have := hr k e.symm; omega)
  exact h.far ⟨hg.os.trans h.below.os, hg.tape.trans h.below.tape, hg.output.trans h.below.output, Nat.le_trans h.below.size hg.size, fun k hk' => (hk k (by omega)).trans (h.below.block k hk')⟩ hk (Nat.le_trans h.big hg.size)
theorem SpHd.set2 {B : Nat} {w0 wr : World} {kd lv : UInt8} {v : Value} (h : SpHd B w0 wr kd lv v) (v' : Value) : SpHd B w0 (wr.setCell ⟨B + 1, 2, none⟩ v') kd lv v' := by
  have z0 := h.z0; have z1 := h.z1; have z2 := h.z2; have c0 := h.c0; have c1 := h.c1; have c2 := h.c2
  refine ⟨h.below.setCell (by simp) _, by simpa using h.big, ?_, ?_, ?_, by rw [setCell_frozen]; exact h.y0, by rw [setCell_frozen]; exact h.y1, by rw [setCell_frozen]; exact h.y2, ?_, ?_, ?_, by rw [setCell_frozen]; exact h.x0, by rw [setCell_frozen]; exact h.x1, by rw [setCell_frozen]; exact h.x2⟩
  all_goals (clear h; go_simp)
theorem SpHd.set0 {B : Nat} {w0 wr : World} {kd lv : UInt8} {v : Value} (h : SpHd B w0 wr kd lv v) (c : UInt8) : SpHd B w0 (wr.setCell ⟨B + 1, 0, none⟩ (.int .u8 c.toNat)) c lv v := by
  have z0 := h.z0; have z1 := h.z1; have z2 := h.z2; have c0 := h.c0; have c1 := h.c1; have c2 := h.c2
  refine ⟨h.below.setCell (by simp) _, by simpa using h.big, ?_, ?_, ?_, by rw [setCell_frozen]; exact h.y0, by rw [setCell_frozen]; exact h.y1, by rw [setCell_frozen]; exact h.y2, ?_, ?_, ?_, by rw [setCell_frozen]; exact h.x0, by rw [setCell_frozen]; exact h.x1, by rw [setCell_frozen]; exact h.x2⟩
  all_goals (clear h; go_simp)
theorem SpHd.set1 {B : Nat} {w0 wr : World} {kd lv : UInt8} {v : Value} (h : SpHd B w0 wr kd lv v) (c : UInt8) : SpHd B w0 (wr.setCell ⟨B + 1, 1, none⟩ (.int .u8 c.toNat)) kd c v := by
  have z0 := h.z0; have z1 := h.z1; have z2 := h.z2; have c0 := h.c0; have c1 := h.c1; have c2 := h.c2
  refine ⟨h.below.setCell (by simp) _, by simpa using h.big, ?_, ?_, ?_, by rw [setCell_frozen]; exact h.y0, by rw [setCell_frozen]; exact h.y1, by rw [setCell_frozen]; exact h.y2, ?_, ?_, ?_, by rw [setCell_frozen]; exact h.x0, by rw [setCell_frozen]; exact h.x1, by rw [setCell_frozen]; exact h.x2⟩
  all_goals (clear h; go_simp)
theorem u8_of (z : Int) : ∃ c : UInt8, z % 256 = (c.toNat : Int) :=
  ⟨UInt8.ofNat (z % 256).toNat, by rw [UInt8.toNat_ofNat']; omega⟩
/-- A cell of a field is stored. -/
theorem flat_put (ps : List (FieldD × Value)) : ∀ (m i : Nat) (u : Value) (q : FieldD × Value) (hm : m < ps.length), i < 4 → (fieldCells ps[m]).set i u = fieldCells q → (ps.flatMap fieldCells).set (m * 4 + i) u = (ps.set m q).flatMap fieldCells := by
  induction ps with
  | nil => intro m i u q hm; simp at hm
  | cons p ps ih =>
    intro m i u q hm hi hq
    cases m with
    | zero =>
      simp only [List.getElem_cons_zero] at hq
      rw [List.flatMap_cons, List.set_append_left _ _ (by simp [fieldCells]; omega), Nat.zero_mul, Nat.zero_add, hq]; rfl
    | succ m =>
      simp only [List.getElem_cons_succ] at hq
      have hl : (fieldCells p).length = 4 := by simp [fieldCells]
      rw [List.flatMap_cons, List.set_append_right _ _ (by rw [hl]; omega), hl, show (m + 1) * 4 + i - 4 = m * 4 + i from by omega, ih m i u q (by simpa using hm) hi hq]; rfl
theorem flat_get (ps : List (FieldD × Value)) : ∀ (m i : Nat) (hm : m < ps.length), i < 4 → (ps.flatMap fieldCells)[m * 4 + i]? = (fieldCells ps[m])[i]? := by
  induction ps with
  | nil => intro m i hm; simp at hm
  | cons p ps ih =>
    intro m i hm hi
    have hl : (fieldCells p).length = 4 := by simp [fieldCells]
    cases m with
    | zero => rw [List.flatMap_cons, List.getElem?_append_left (by rw [hl]; omega), Nat.zero_mul, Nat.zero_add]; rfl
    | succ m => rw [List.flatMap_cons, List.getElem?_append_right (by rw [hl]; omega), hl, show (m + 1) * 4 + i - 4 = m * 4 + i from by omega, ih m i (by simpa using hm) hi]; rfl
/-- What a field's cells are. -/
theorem owns_field {lo : Nat} {w : World} {g cap n : Nat} {ps : List (FieldD × Value)} (h : w.ownsRow lo 57 4 (.slice (some ⟨g, 0, none⟩) n cap) n (ps.flatMap fieldCells)) (m : Nat) (hm : m < ps.length) :
    w.cell? ⟨g, m * 4, none⟩ = some (S ps[m].1.tag) ∧ w.cell? ⟨g, m * 4 + 1, none⟩ = some (S ps[m].1.ind) ∧ w.cell? ⟨g, m * 4 + 2, none⟩ = some (S ps[m].1.data) ∧ w.cell? ⟨g, m * 4 + 3, none⟩ = some ps[m].2 ∧
      ∀ i, w.frozen? ⟨g, i, none⟩ = false := by
  have hl : (ps.flatMap fieldCells).length = ps.length * 4 := by
    clear h hm
    induction ps with
    | nil => rfl
    | cons p ps ih => rw [List.flatMap_cons, List.length_append, ih]; simp [fieldCells]; omega
  have hn : n * 4 = ps.length * 4 := by rw [← hl]; exact h.1.symm
  have hc : ∀ i, i < 4 → w.cell? ⟨g, m * 4 + i, none⟩ = (fieldCells ps[m])[i]? := fun i hi => by
    rw [h.cellAt (m * 4 + i) (by omega), flat_get ps m i hm hi]
  exact ⟨hc 0 (by omega), hc 1 (by omega), hc 2 (by omega), hc 3 (by omega), fun i => h.frozenAt i⟩
theorem RecOwn.put {lo : Nat} {w : World} {g cap n : Nat} (ps : List (FieldD × Value)) (hn : n = ps.length) (m i : Nat) (hm : m < ps.length) (h2 : ∀ k (hk : k < ps.length), k ≠ m → SubsOff lo (some g) w ps[k].2 ps[k].1.subs) (h3 : w.ownsRow lo 57 4 (.slice (some ⟨g, 0, none⟩) n cap) n (ps.flatMap fieldCells))
    (hi : i < 4) (u : Value) (q : FieldD × Value) (hq : (fieldCells ps[m]).set i u = fieldCells q) (hqs : SubsOff lo (some g) w q.2 q.1.subs) :
    RecOwn lo (w.setCell ⟨g, m * 4 + i, none⟩ u) (.slice (some ⟨g, 0, none⟩) n cap) ((ps.set m q).map (·.1)) := by
  have step : ∀ x ss, SubsOff lo (some g) w x ss → SubsOff lo (some g) (w.setCell ⟨g, m * 4 + i, none⟩ u) x ss := fun x ss h =>
    h.step (fun k _ _ hne => Below.heap_setCell _ _ _ _ (by intro e; exact hne (by rw [e]))) (by simp) (.inl rfl)
  refine ⟨⟨ps.set m q, rfl, fun p hp => ?_, ?_⟩⟩
  · obtain ⟨k, hk, rfl⟩ := List.getElem_of_mem hp
    rw [List.getElem_set]
    split
    · exact step _ _ hqs
    · rename_i hne
      exact step _ _ (h2 k (by simpa using hk) (fun e => hne e.symm))
  · have := (h3.stored (m * 4 + i) u).1
    rw [flat_put ps m i u q hm hi hq] at this
    simpa [hn] using this
/-- A field is appended to fields under way, in the weaker form. -/
theorem rc_app {B : Nat} {w0 wr w8 : World} {kd lv : UInt8} {v v' : Value} {fs : List FieldD} (o : Obj) (f : FieldD) (d : Value) (hh : SpHd B w0 wr kd lv v) (ps : List (FieldD × Value)) (h1 : ps.map (·.1) = fs) (h2 : ∀ p ∈ ps, SubsOff (B + 2) v.ownBlock wr p.2 p.1.subs)
    (h3 : wr.ownsRow (B + 2) 57 4 v fs.length (ps.flatMap fieldCells)) (hd : SubsOff (B + 2) v.ownBlock wr d f.subs) (hown : w8.ownsRow (B + 2) 57 4 v' (fs.length + 1) (ps.flatMap fieldCells ++ fieldCells (f, d))) (hg : (wr.alloc o).grownBy w8 v.ownBlock)
    (hv : v'.ownBlock = v.ownBlock ∨ v'.ownBlock = some (wr.alloc o).heap.size) : SpHd B w0 (w8.setCell ⟨B + 1, 2, none⟩ v') kd lv v' ∧ RecOwn (B + 2) (w8.setCell ⟨B + 1, 2, none⟩ v') v' (fs ++ [f]) := by
  have st : ∀ {x : Value} {ss : List SubD}, SubsOff (B + 2) v.ownBlock wr x ss → SubsOff (B + 2) v.ownBlock (wr.alloc o) x ss := fun h =>
    h.step (fun k _ hk _ => Below.heap_alloc wr o k hk) (by simp) (.inl rfl)
  have hr := RecOwn.app f d ps h1 (fun p hp => st (h2 p hp)) (st hd) hown hg hv
  exact ⟨((hh.keep (alloc_below1 wr o)).grown hg (fun k hk => (h3.lt k hk).1)).set2 v', hr.keep (fun k hk _ => Below.heap_setCell _ _ _ _ (by simp; omega)) (by simp)⟩
theorem bytes_parts (f : FieldD) : (fieldBytes f).length = f.data.length + f.ind.length + (f.subs.flatMap subBytes).length + 1 := by simp [fieldBytes]; omega
/-- A field with its copied subfields is appended: the head and the fields behind the store. -/
theorem sp_app {B : Nat} {w0 wr w7 w8 : World} {kd lv : UInt8} {v v' : Value} {fs : List FieldD} (o : Obj) (f : FieldD) (d : Value) (gd : Nat) (hh : SpHd B w0 wr kd lv v) (ho : SpOwn (B + 2) wr v fs)
    (hbl : Below B w0 w7) (hk : ∀ k, k < wr.heap.size → w7.heap[k]? = wr.heap[k]?) (hz : wr.heap.size ≤ w7.heap.size) (hd : w7.ownsRow (B + 2) 59 2 d f.subs.length (f.subs.flatMap subCells)) (hgd : d.ownBlock = some gd) (hgl : wr.heap.size ≤ gd)
    (xs : List Value) (hxs : wr.ownsRow (B + 2) 57 4 v fs.length xs) (hown : w8.ownsRow (B + 2) 57 4 v' (fs.length + 1) (xs ++ fieldCells (f, d))) (hg : (w7.alloc o).grownBy w8 v.ownBlock)
    (hv : v'.ownBlock = v.ownBlock ∨ v'.ownBlock = some (w7.alloc o).heap.size) :
    SpHd B w0 (w8.setCell ⟨B + 1, 2, none⟩ v') kd lv v' ∧ SpOwn (B + 2) (w8.setCell ⟨B + 1, 2, none⟩ v') v' (fs ++ [f]) := by
  have hbig := hh.big
  have hh7 : SpHd B w0 w7 kd lv v := hh.far hbl (fun k hk' => hk k (by omega)) (by omega)
  obtain ⟨ps, h1, h2, h3, h4⟩ := ho.ex
  have hxe : xs = ps.flatMap fieldCells := by
    have e1 := hxs
    have e2 := h2
    rcases e1.2 with ⟨_, h0⟩ | ⟨g, cap, cur, rfl, _, hg1, _, _, _, ht1⟩
    · have l1 := e1.1; have l2 := e2.1
      rw [h0, Nat.zero_mul] at l1 l2
      rw [List.eq_nil_of_length_eq_zero l1, List.eq_nil_of_length_eq_zero l2]
    · rcases e2.2 with ⟨h', _⟩ | ⟨g', cap', cur', h', _, hg2, _, _, _, ht2⟩
      · cases h'
      · injection h' with ha _ _
        injection ha with ha
        injection ha with ha
        subst ha
        rw [hg1] at hg2
        injection hg2 with hg2
        injection hg2 with hg2
        subst hg2
        rw [← ht1, ← ht2]
  subst hxe
  have al : ∀ k, k < w7.heap.size → (w7.alloc o).heap[k]? = w7.heap[k]? := fun k hk => Below.heap_alloc w7 o k hk
  have hvl : ∀ g, v.ownBlock = some g → B + 2 ≤ g ∧ g < wr.heap.size := fun g hg => h2.lt g hg
  refine ⟨((hh7.keep (alloc_below1 w7 o)).grown hg (fun k hk => (hvl k hk).1)).set2 v', ?_⟩
  refine (SpOwn.app f d ps h1 (fun p hp => ⟨ownr_far (h3 p hp).1 (fun g hg => ?_), (h3 p hp).2⟩) h4 (ownr_far hd (fun g hg => al g (hd.lt g hg).2)) gd hgd (fun e => ?_) (fun p hp e => ?_) hown hg hv).far (fun k hk _ => Below.heap_setCell _ _ _ _ (by simp; omega))
  · have := ((h3 p hp).1.lt g hg).2
    rw [al g (by omega), hk g this]
  · have := (hvl gd e).2; omega
  · have := ((h3 p hp).1.lt gd e).2; omega
theorem sp_far {B : Nat} {w0 w7 w8 : World} {kd lv : UInt8} {v : Value} {row : Option Nat} {o : Obj} (hh : SpHd B w0 w7 kd lv v) (hg : (w7.alloc o).grownBy w8 row) (hr : ∀ k, row = some k → B + 2 ≤ k) : w8.cell? ⟨B + 1, 2, none⟩ = some v ∧ w8.frozen? ⟨B + 1, 2, none⟩ = false :=
  ⟨((hh.keep (alloc_below1 w7 o)).grown hg hr).c2, ((hh.keep (alloc_below1 w7 o)).grown hg hr).x2⟩
theorem ell_conv {B n : Nat} {w : World} (h : BytesZ w B (List.replicate n 108)) (cp : Nat) : (convert 40 9 (.slice (some ⟨B, 0, none⟩) n cp)).run Tryd.prog w = .ok (S (List.replicate n 108)) w := by
  have := h.conv cp
  rw [List.length_replicate, List.map_replicate] at this
  exact this
theorem ell_off {lo : Nat} {g : Option Nat} (w : World) (x : Bs) (hlo : lo ≤ w.heap.size) (hg : g ≠ some w.heap.size) : SubsOff lo g (w.alloc (Obj.cells #[.int .u8 97, S x] 59)) (.slice (some ⟨w.heap.size, 0, none⟩) 1 1) [⟨97, x⟩] := by
  refine ⟨_, _, rfl, fun _ => ⟨w.heap.size, 0, rfl, hlo, by simp, hg, fun j y hy => ?_⟩⟩
  rw [Nat.zero_add, World.cell?_alloc_new]
  simpa [subCells] using hy
end Go.Proofs.YtfkleeigdplapaaDoor
