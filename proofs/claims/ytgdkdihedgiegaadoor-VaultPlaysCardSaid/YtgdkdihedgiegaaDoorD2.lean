/-
  A disk in memory: its struct, its contents, what survives, the pieces; what an operation may have changed. The walk of call.
-/
import Derived.Test.YtgdkdihedgiegaaDoorD1
namespace Go.Proofs.YtgdkdihedgiegaaDoor
open Go.RowKit

/-- A disk: the contents, what survives, the pieces written since, the power. -/
structure DiskD where
  now : Bs
  syn : Bs
  pcs : List (Nat × Bs)
  failing : Bool
  left : Int
/-- A piece's text in memory: its block g. -/
structure TextAt (w : World) (v : Value) (l : Bs) (g : Nat) : Prop where
  ex : ∃ cap cur fr, v = .slice (some ⟨g, 0, none⟩) l.length cap ∧ w.heap[g]? = some (.cells cur 5 fr) ∧ cur.toList.take l.length = bv l
theorem TextAt.cell {w : World} {v : Value} {l : Bs} {g : Nat} (h : TextAt w v l g) : ∀ j u, (bv l)[j]? = some u → w.cell? ⟨g, j, none⟩ = some u := by
  intro j u hu
  obtain ⟨cap, cur, fr, _, hg, ht⟩ := h
  rw [← ht, List.getElem?_take] at hu
  split at hu
  · simpa [World.cell?, hg] using hu
  · cases hu
theorem TextAt.src {w : World} {v : Value} {l : Bs} {g : Nat} (h : TextAt w v l g) : From w v l.length (bv l) := by
  have hc := h.cell
  obtain ⟨cap, cur, fr, hv, _⟩ := h
  exact ⟨⟨_, cap, hv, fun _ => ⟨_, rfl, fun j u hu => by rw [add_lit, Nat.zero_add]; exact hc j u hu⟩⟩⟩
theorem TextAt.keep {w w' : World} {v : Value} {l : Bs} {g : Nat} (h : TextAt w v l g) (hk : w'.heap[g]? = w.heap[g]?) : TextAt w' v l g := by
  obtain ⟨cap, cur, fr, hv, hg, ht⟩ := h
  exact ⟨⟨cap, cur, fr, hv, hk.trans hg, ht⟩⟩
def pcCells (q : (Nat × Bs) × Value) : List Value := [.int .i64 q.1.1, q.2]
/-- The pieces; their texts lie in blocks of T. -/
structure PcsAt (w : World) (vp : Value) (ps : List (Nat × Bs)) (T : Nat → Prop) : Prop where
  ex : ∃ qs : List ((Nat × Bs) × Value), qs.map (·.1) = ps ∧ w.ownsRow 0 93 2 vp qs.length (qs.flatMap pcCells) ∧ ∀ q ∈ qs, ∃ g, TextAt w q.2 q.1.2 g ∧ T g
def diskCells (vn vs vp : Value) (c : Int) (f : Bool) (l : Int) : Array Value := #[vn, vs, vp, .int .i64 c, .bool f, .int .i64 l]
/-- A disk in memory, its struct's cells named; F: the blocks that are its own. -/
structure DiskR (F : Nat → Prop) (w : World) (b : Nat) (vn vs vp : Value) (c : Int) (D : DiskD) : Prop where
  blk : w.heap[b]? = some (.cells (diskCells vn vs vp c D.failing D.left) 71 (0, 0))
  now : ByteRow w vn D.now
  syn : ByteRow w vs D.syn
  apart : Apart vn vs
  pcs : PcsAt w vp D.pcs (fun g => vn.ownBlock ≠ some g ∧ vs.ownBlock ≠ some g ∧ F g)
  fb : F b
  fn : ∀ k, vn.ownBlock = some k → F k
  fs : ∀ k, vs.ownBlock = some k → F k
  fp : ∀ k, vp.ownBlock = some k → F k
  lt : ∀ k, F k → k < w.heap.size
def DiskAt (F : Nat → Prop) (w : World) (b : Nat) (D : DiskD) : Prop := ∃ vn vs vp c, DiskR F w b vn vs vp c D

/-- From w and a footprint F to w' and a footprint F': what has changed lies in F or is new; F' has no other old block than F. -/
structure Step (F : Nat → Prop) (w : World) (F' : Nat → Prop) (w' : World) : Prop where
  os : w'.os = w.os
  tape : w'.tape = w.tape
  output : w'.output = w.output
  size : w.heap.size ≤ w'.heap.size
  block : ∀ k, k < w.heap.size → ¬ F k → w'.heap[k]? = w.heap[k]?
  new : ∀ k, F' k → F k ∨ w.heap.size ≤ k
theorem Step.refl (F : Nat → Prop) (w : World) : Step F w F w := ⟨rfl, rfl, rfl, Nat.le_refl _, fun _ _ _ => rfl, fun _ h => .inl h⟩
theorem Step.trans {F F' F'' : Nat → Prop} {x y z : World} (h : Step F x F' y) (k : Step F' y F'' z) : Step F x F'' z :=
  ⟨k.os.trans h.os, k.tape.trans h.tape, k.output.trans h.output, Nat.le_trans h.size k.size,
   fun j hj hn => (k.block j (Nat.lt_of_lt_of_le hj h.size) (fun hf => by rcases h.new j hf with h1 | h1; exact hn h1; omega)).trans (h.block j hj hn),
   fun j hj => by
    rcases k.new j hj with h1 | h1
    · exact h.new j h1
    · exact .inr (Nat.le_trans h.size h1)⟩
theorem Step.not {F F' : Nat → Prop} {x y : World} (h : Step F x F' y) {k : Nat} (hk : k < x.heap.size) (hn : ¬ F k) : ¬ F' k := fun hf => by
  rcases h.new k hf with h1 | h1
  · exact hn h1
  · omega
theorem Step.of_below {F : Nat → Prop} {w w' : World} (h : Below w.heap.size w w') : Step F w F w' := ⟨h.os, h.tape, h.output, h.size, fun k hk _ => h.block k hk, fun _ h => .inl h⟩
theorem Step.of_only {F : Nat → Prop} {b : Nat} {w w' : World} (h : Only b w w') (hb : F b) : Step F w F w' := ⟨h.os, h.tape, h.output, by rw [h.size]; exact Nat.le_refl _, fun k _ hn => h.block k (fun e => hn (e ▸ hb)), fun _ h => .inl h⟩
theorem Step.below {F F' : Nat → Prop} {w w' : World} {lo : Nat} (h : Step F w F' w') (hlo : ∀ k, F k → lo ≤ k) (hl : lo ≤ w.heap.size) : Below lo w w' ∧ ∀ k, F' k → lo ≤ k :=
  ⟨⟨h.os, h.tape, h.output, h.size, fun k hk => h.block k (by omega) (fun hf => by have := hlo k hf; omega)⟩, fun k hk => by rcases h.new k hk with h1 | h1; exact hlo k h1; omega⟩
theorem Step.cell {F F' : Nat → Prop} {w w' : World} (h : Step F w F' w') {k : Nat} (hk : k < w.heap.size) (hn : ¬ F k) (i : Nat) : w'.cell? ⟨k, i, none⟩ = w.cell? ⟨k, i, none⟩ := World.cell?_of_block (a := ⟨k, i, none⟩) (h.block k hk hn)

theorem DiskR.keep {F : Nat → Prop} {w w' : World} {b : Nat} {vn vs vp : Value} {c : Int} {D : DiskD} (h : DiskR F w b vn vs vp c D) (hk : ∀ k, F k → w'.heap[k]? = w.heap[k]?) (hs : w.heap.size ≤ w'.heap.size) : DiskR F w' b vn vs vp c D := by
  refine ⟨(hk b h.fb).trans h.blk, row_far h.now (fun g hg => hk g (h.fn g hg)), row_far h.syn (fun g hg => hk g (h.fs g hg)), h.apart, ?_, h.fb, h.fn, h.fs, h.fp, fun k hf => Nat.lt_of_lt_of_le (h.lt k hf) hs⟩
  obtain ⟨qs, h1, h2, h3⟩ := h.pcs
  refine ⟨⟨qs, h1, row_far h2 (fun g hg => hk g (h.fp g hg)), fun q hq => ?_⟩⟩
  obtain ⟨g, ht, hg⟩ := h3 q hq
  exact ⟨g, ht.keep (hk g hg.2.2), hg⟩
theorem DiskAt.keep {F : Nat → Prop} {w w' : World} {b : Nat} {D : DiskD} (h : DiskAt F w b D) (hk : ∀ k, F k → w'.heap[k]? = w.heap[k]?) (hs : w.heap.size ≤ w'.heap.size) : DiskAt F w' b D := by
  obtain ⟨vn, vs, vp, c, h⟩ := h
  exact ⟨vn, vs, vp, c, h.keep hk hs⟩
theorem DiskAt.below {F : Nat → Prop} {w w' : World} {b : Nat} {D : DiskD} (h : DiskAt F w b D) (hb : Below w.heap.size w w') : DiskAt F w' b D :=
  h.keep (fun k hk => hb.block k (by obtain ⟨_, _, _, _, h⟩ := h; exact h.lt k hk)) hb.size
theorem DiskAt.lt {F : Nat → Prop} {w : World} {b : Nat} {D : DiskD} (h : DiskAt F w b D) : ∀ k, F k → k < w.heap.size := by obtain ⟨_, _, _, _, h⟩ := h; exact h.lt
theorem DiskAt.fb {F : Nat → Prop} {w : World} {b : Nat} {D : DiskD} (h : DiskAt F w b D) : F b := by obtain ⟨_, _, _, _, h⟩ := h; exact h.fb
/-- The struct's block is not one of the rows. -/
theorem DiskR.ne {F : Nat → Prop} {w : World} {b : Nat} {vn vs vp : Value} {c : Int} {D : DiskD} (h : DiskR F w b vn vs vp c D) : vn.ownBlock ≠ some b ∧ vs.ownBlock ≠ some b ∧ vp.ownBlock ≠ some b := by
  refine ⟨fun e => ?_, fun e => ?_, fun e => ?_⟩
  · obtain ⟨cur, hc⟩ := row_type h.now e; exact type_ne hc h.blk (by decide) rfl
  · obtain ⟨cur, hc⟩ := row_type h.syn e; exact type_ne hc h.blk (by decide) rfl
  · obtain ⟨qs, _, h2, _⟩ := h.pcs
    obtain ⟨cur, hc⟩ := row_type h2 e; exact type_ne hc h.blk (by decide) rfl
theorem blk_type {w : World} {g e f : Nat} {c d : Array Value} {x y : Nat × Nat} (hg : w.heap[g]? = some (.cells c e x)) (hk : w.heap[g]? = some (.cells d f y)) : e = f := by
  rw [hg] at hk
  injection hk with hk
  injection hk
/-- Only the struct's block has turned, and holds other numbers. -/
theorem DiskR.only {F : Nat → Prop} {w w' : World} {b : Nat} {vn vs vp : Value} {c c' : Int} {D : DiskD} {f : Bool} {l : Int} (h : DiskR F w b vn vs vp c D) (ho : Only b w w') (hb : w'.heap[b]? = some (.cells (diskCells vn vs vp c' f l) 71 (0, 0))) :
    DiskR F w' b vn vs vp c' { D with failing := f, left := l } := by
  obtain ⟨n1, n2, n3⟩ := h.ne
  refine ⟨hb, row_far h.now (fun g hg => ho.block g (fun e => n1 (e ▸ hg))), row_far h.syn (fun g hg => ho.block g (fun e => n2 (e ▸ hg))), h.apart, ?_, h.fb, h.fn, h.fs, h.fp, fun k hf => by rw [ho.size]; exact h.lt k hf⟩
  obtain ⟨qs, h1, h2, h3⟩ := h.pcs
  refine ⟨⟨qs, h1, row_far h2 (fun g hg => ho.block g (fun e => n3 (e ▸ hg))), fun q hq => ?_⟩⟩
  obtain ⟨g, ht, hg⟩ := h3 q hq
  refine ⟨g, ht.keep (ho.block g (fun e => ?_)), hg⟩
  obtain ⟨cap, cur, fr, _, hh, _⟩ := ht
  exact absurd (blk_type (e ▸ hh) h.blk) (by decide)
/-- The power at a call: none, if it is off. -/
def powerD (D : DiskD) : Option DiskD := if D.failing = true then (if D.left = 0 then none else some { D with left := D.left - 1 }) else some D
theorem ret_int {k : IntKind} {a b : Int} (h : a = b) : Ending.returned (.int k a) = .returned (.int k b) := by rw [h]
set_option maxHeartbeats 1000000 in
set_option maxRecDepth 100000 in
/-- call. -/
theorem call_58 (F : Nat → Prop) (w : World) (b : Nat) (D : DiskD) (h : DiskAt F w b D) (hl : -1 ≤ D.left ∧ D.left ≤ 1000) :
    Calls Tryd.prog 58 #[.pointer (some ⟨b, 0, none⟩)] w fun e w' => match powerD D with
      | none => e = .returned (.int .i64 70) ∧ w' = w
      | some D' => e = .returned (.int .i64 0) ∧ DiskAt F w' b D' ∧ Only b w w' := by
  obtain ⟨vn, vs, vp, c, h⟩ := h
  have H := Lib.hid h
  obtain ⟨now, syn, pcs, f, l⟩ := D
  have hb := h.blk
  simp only at hb hl
  have c3 : w.cell? ⟨b, 3, none⟩ = some (.int .i64 c) := by rw [blk_cell hb]; rfl
  have c4 : w.cell? ⟨b, 4, none⟩ = some (.bool f) := by rw [blk_cell hb]; rfl
  have c5 : w.cell? ⟨b, 5, none⟩ = some (.int .i64 l) := by rw [blk_cell hb]; rfl
  have f3 : w.frozen? ⟨b, 3, none⟩ = false := blk_frozen hb 3
  have f5 : w.frozen? ⟨b, 5, none⟩ = false := blk_frozen hb 5
  have HB := Lib.hid hb
  clear h hb
  obtain ⟨hl1, hl2⟩ := hl
  cases f with
  | false =>
    have HP : Hid (powerD ⟨now, syn, pcs, false, l⟩ = some ⟨now, syn, pcs, false, l⟩) := rfl
    rw [HP.out]
    go_enter Tryd.func58, Tryd.ntmps58
    go_wp2_with fail
    go_ret
    refine ⟨rfl, ⟨vn, vs, vp, _, H.out.only (D := ⟨now, syn, pcs, false, l⟩) (Only.setCell (Only.refl b w) 3 _) ((blk_set HB.out 3 _).trans rfl)⟩, Only.setCell (Only.refl b w) 3 _⟩
  | true =>
    by_cases h0 : l = 0
    · subst h0
      have HP : Hid (powerD ⟨now, syn, pcs, true, 0⟩ = none) := rfl
      rw [HP.out]
      go_enter Tryd.func58, Tryd.ntmps58
      go_wp2_with fail
      go_ret
      exact ⟨rfl, rfl⟩
    · have HP : Hid (powerD ⟨now, syn, pcs, true, l⟩ = some ⟨now, syn, pcs, true, l - 1⟩) := by show _ = _; simp [powerD, h0]
      rw [HP.out]
      go_enter Tryd.func58, Tryd.ntmps58
      go_wp2_with fail
      go_ret
      refine ⟨rfl, ⟨vn, vs, vp, _, H.out.only (D := ⟨now, syn, pcs, true, l⟩) (Only.setCell (Only.setCell (Only.refl b w) 5 _) 3 _) ((blk_set (blk_set HB.out 5 _) 3 _).trans rfl)⟩, Only.setCell (Only.setCell (Only.refl b w) 5 _) 3 _⟩
end Go.Proofs.YtgdkdihedgiegaaDoor
