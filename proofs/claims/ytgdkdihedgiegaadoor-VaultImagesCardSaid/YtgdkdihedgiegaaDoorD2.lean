/-
  A disk in memory: its struct, its contents, what survives, the pieces; what an operation may have changed. The walk of call.
  The walks of add and settle: the list of pieces.
  Writing to a disk and syncing it, plain; what these leave in memory; a string's bytes as a new block.
-/
import Derived.Test.YtgdkdihedgiegaaDoorA2
import Derived.Test.YtgdkdihedgiegaaDoorTail
import Derived.Lib.ConvBytes
namespace Go.Proofs.YtgdkdihedgiegaaDoor
open Go.RowKit

/-- A disk: the contents, what survives, the pieces written since, the power. -/
structure DiskD where
  now : Bs
  syn : Bs
  pcs : List (Nat × Bs)
  failing : Bool
  left : Int
/-- A piece's text in memory: its block g. -/
structure TextAt (w : World) (v : Value) (l : Bs) (g : Nat) : Prop where
  ex : ∃ cap cur fr, v = .slice (some ⟨g, 0, none⟩) l.length cap ∧ w.heap[g]? = some (.cells cur 5 fr) ∧ cur.toList.take l.length = bv l
theorem TextAt.cell {w : World} {v : Value} {l : Bs} {g : Nat} (h : TextAt w v l g) : ∀ j u, (bv l)[j]? = some u → w.cell? ⟨g, j, none⟩ = some u := by
  intro j u hu
  obtain ⟨cap, cur, fr, _, hg, ht⟩ := h
  rw [← ht, List.getElem?_take] at hu
  split at hu
  · simpa [World.cell?, hg] using hu
  · cases hu
theorem TextAt.src {w : World} {v : Value} {l : Bs} {g : Nat} (h : TextAt w v l g) : From w v l.length (bv l) := by
  have hc := h.cell
  obtain ⟨cap, cur, fr, hv, _⟩ := h
  exact ⟨⟨_, cap, hv, fun _ => ⟨_, rfl, fun j u hu => by rw [add_lit, Nat.zero_add]; exact hc j u hu⟩⟩⟩
theorem TextAt.keep {w w' : World} {v : Value} {l : Bs} {g : Nat} (h : TextAt w v l g) (hk : w'.heap[g]? = w.heap[g]?) : TextAt w' v l g := by
  obtain ⟨cap, cur, fr, hv, hg, ht⟩ := h
  exact ⟨⟨cap, cur, fr, hv, hk.trans hg, ht⟩⟩
def pcCells (q : (Nat × Bs) × Value) : List Value := [.int .i64 q.1.1, q.2]
/-- The pieces; their texts lie in blocks of T. -/
structure PcsAt (w : World) (vp : Value) (ps : List (Nat × Bs)) (T : Nat → Prop) : Prop where
  ex : ∃ qs : List ((Nat × Bs) × Value), qs.map (·.1) = ps ∧ w.ownsRow 0 93 2 vp qs.length (qs.flatMap pcCells) ∧ ∀ q ∈ qs, ∃ g, TextAt w q.2 q.1.2 g ∧ T g
def diskCells (vn vs vp : Value) (c : Int) (f : Bool) (l : Int) : Array Value := #[vn, vs, vp, .int .i64 c, .bool f, .int .i64 l]
/-- A disk in memory, its struct's cells named; F: the blocks that are its own. -/
structure DiskR (F : Nat → Prop) (w : World) (b : Nat) (vn vs vp : Value) (c : Int) (D : DiskD) : Prop where
  blk : w.heap[b]? = some (.cells (diskCells vn vs vp c D.failing D.left) 71 (0, 0))
  now : ByteRow w vn D.now
  syn : ByteRow w vs D.syn
  apart : Apart vn vs
  pcs : PcsAt w vp D.pcs (fun g => vn.ownBlock ≠ some g ∧ vs.ownBlock ≠ some g ∧ F g)
  fb : F b
  fn : ∀ k, vn.ownBlock = some k → F k
  fs : ∀ k, vs.ownBlock = some k → F k
  fp : ∀ k, vp.ownBlock = some k → F k
  lt : ∀ k, F k → k < w.heap.size
def DiskAt (F : Nat → Prop) (w : World) (b : Nat) (D : DiskD) : Prop := ∃ vn vs vp c, DiskR F w b vn vs vp c D

/-- From w and a footprint F to w' and a footprint F': what has changed lies in F or is new; F' has no other old block than F. -/
structure Step (F : Nat → Prop) (w : World) (F' : Nat → Prop) (w' : World) : Prop where
  os : w'.os = w.os
  tape : w'.tape = w.tape
  output : w'.output = w.output
  size : w.heap.size ≤ w'.heap.size
  block : ∀ k, k < w.heap.size → ¬ F k → w'.heap[k]? = w.heap[k]?
  new : ∀ k, F' k → F k ∨ w.heap.size ≤ k
theorem Step.refl (F : Nat → Prop) (w : World) : Step F w F w := ⟨rfl, rfl, rfl, Nat.le_refl _, fun _ _ _ => rfl, fun _ h => .inl h⟩
theorem Step.trans {F F' F'' : Nat → Prop} {x y z : World} (h : Step F x F' y) (k : Step F' y F'' z) : Step F x F'' z :=
  ⟨k.os.trans h.os, k.tape.trans h.tape, k.output.trans h.output, Nat.le_trans h.size k.size,
   fun j hj hn => (k.block j (Nat.lt_of_lt_of_le hj h.size) (fun hf => by rcases h.new j hf with h1 | h1; exact hn h1; omega)).trans (h.block j hj hn),
   fun j hj => by
    rcases k.new j hj with h1 | h1
    · exact h.new j h1
    · exact .inr (Nat.le_trans h.size h1)⟩
theorem Step.not {F F' : Nat → Prop} {x y : World} (h : Step F x F' y) {k : Nat} (hk : k < x.heap.size) (hn : ¬ F k) : ¬ F' k := fun hf => by
  rcases h.new k hf with h1 | h1
  · exact hn h1
  · omega
theorem Step.of_below {F : Nat → Prop} {w w' : World} (h : Below w.heap.size w w') : Step F w F w' := ⟨h.os, h.tape, h.output, h.size, fun k hk _ => h.block k hk, fun _ h => .inl h⟩
theorem Step.of_only {F : Nat → Prop} {b : Nat} {w w' : World} (h : Only b w w') (hb : F b) : Step F w F w' := ⟨h.os, h.tape, h.output, by rw [h.size]; exact Nat.le_refl _, fun k _ hn => h.block k (fun e => hn (e ▸ hb)), fun _ h => .inl h⟩
theorem Step.below {F F' : Nat → Prop} {w w' : World} {lo : Nat} (h : Step F w F' w') (hlo : ∀ k, F k → lo ≤ k) (hl : lo ≤ w.heap.size) : Below lo w w' ∧ ∀ k, F' k → lo ≤ k :=
  ⟨⟨h.os, h.tape, h.output, h.size, fun k hk => h.block k (by omega) (fun hf => by have := hlo k hf; omega)⟩, fun k hk => by rcases h.new k hk with h1 | h1; exact hlo k h1; omega⟩
theorem Step.cell {F F' : Nat → Prop} {w w' : World} (h : Step F w F' w') {k : Nat} (hk : k < w.heap.size) (hn : ¬ F k) (i : Nat) : w'.cell? ⟨k, i, none⟩ = w.cell? ⟨k, i, none⟩ := World.cell?_of_block (a := ⟨k, i, none⟩) (h.block k hk hn)

theorem DiskR.keep {F : Nat → Prop} {w w' : World} {b : Nat} {vn vs vp : Value} {c : Int} {D : DiskD} (h : DiskR F w b vn vs vp c D) (hk : ∀ k, F k → w'.heap[k]? = w.heap[k]?) (hs : w.heap.size ≤ w'.heap.size) : DiskR F w' b vn vs vp c D := by
  refine ⟨(hk b h.fb).trans h.blk, row_far h.now (fun g hg => hk g (h.fn g hg)), row_far h.syn (fun g hg => hk g (h.fs g hg)), h.apart, ?_, h.fb, h.fn, h.fs, h.fp, fun k hf => Nat.lt_of_lt_of_le (h.lt k hf) hs⟩
  obtain ⟨qs, h1, h2, h3⟩ := h.pcs
  refine ⟨⟨qs, h1, row_far h2 (fun g hg => hk g (h.fp g hg)), fun q hq => ?_⟩⟩
  obtain ⟨g, ht, hg⟩ := h3 q hq
  exact ⟨g, ht.keep (hk g hg.2.2), hg⟩
theorem DiskAt.keep {F : Nat → Prop} {w w' : World} {b : Nat} {D : DiskD} (h : DiskAt F w b D) (hk : ∀ k, F k → w'.heap[k]? = w.heap[k]?) (hs : w.heap.size ≤ w'.heap.size) : DiskAt F w' b D := by
  obtain ⟨vn, vs, vp, c, h⟩ := h
  exact ⟨vn, vs, vp, c, h.keep hk hs⟩
theorem DiskAt.below {F : Nat → Prop} {w w' : World} {b : Nat} {D : DiskD} (h : DiskAt F w b D) (hb : Below w.heap.size w w') : DiskAt F w' b D :=
  h.keep (fun k hk => hb.block k (by obtain ⟨_, _, _, _, h⟩ := h; exact h.lt k hk)) hb.size
theorem DiskAt.lt {F : Nat → Prop} {w : World} {b : Nat} {D : DiskD} (h : DiskAt F w b D) : ∀ k, F k → k < w.heap.size := by obtain ⟨_, _, _, _, h⟩ := h; exact h.lt
theorem DiskAt.fb {F : Nat → Prop} {w : World} {b : Nat} {D : DiskD} (h : DiskAt F w b D) : F b := by obtain ⟨_, _, _, _, h⟩ := h; exact h.fb
/-- The struct's block is not one of the rows. -/
theorem DiskR.ne {F : Nat → Prop} {w : World} {b : Nat} {vn vs vp : Value} {c : Int} {D : DiskD} (h : DiskR F w b vn vs vp c D) : vn.ownBlock ≠ some b ∧ vs.ownBlock ≠ some b ∧ vp.ownBlock ≠ some b := by
  refine ⟨fun e => ?_, fun e => ?_, fun e => ?_⟩
  · obtain ⟨cur, hc⟩ := row_type h.now e; exact type_ne hc h.blk (by decide) rfl
  · obtain ⟨cur, hc⟩ := row_type h.syn e; exact type_ne hc h.blk (by decide) rfl
  · obtain ⟨qs, _, h2, _⟩ := h.pcs
    obtain ⟨cur, hc⟩ := row_type h2 e; exact type_ne hc h.blk (by decide) rfl
theorem blk_type {w : World} {g e f : Nat} {c d : Array Value} {x y : Nat × Nat} (hg : w.heap[g]? = some (.cells c e x)) (hk : w.heap[g]? = some (.cells d f y)) : e = f := by
  rw [hg] at hk
  injection hk with hk
  injection hk
/-- Only the struct's block has turned, and holds other numbers. -/
theorem DiskR.only {F : Nat → Prop} {w w' : World} {b : Nat} {vn vs vp : Value} {c c' : Int} {D : DiskD} {f : Bool} {l : Int} (h : DiskR F w b vn vs vp c D) (ho : Only b w w') (hb : w'.heap[b]? = some (.cells (diskCells vn vs vp c' f l) 71 (0, 0))) :
    DiskR F w' b vn vs vp c' { D with failing := f, left := l } := by
  obtain ⟨n1, n2, n3⟩ := h.ne
  refine ⟨hb, row_far h.now (fun g hg => ho.block g (fun e => n1 (e ▸ hg))), row_far h.syn (fun g hg => ho.block g (fun e => n2 (e ▸ hg))), h.apart, ?_, h.fb, h.fn, h.fs, h.fp, fun k hf => by rw [ho.size]; exact h.lt k hf⟩
  obtain ⟨qs, h1, h2, h3⟩ := h.pcs
  refine ⟨⟨qs, h1, row_far h2 (fun g hg => ho.block g (fun e => n3 (e ▸ hg))), fun q hq => ?_⟩⟩
  obtain ⟨g, ht, hg⟩ := h3 q hq
  refine ⟨g, ht.keep (ho.block g (fun e => ?_)), hg⟩
  obtain ⟨cap, cur, fr, _, hh, _⟩ := ht
  exact absurd (blk_type (e ▸ hh) h.blk) (by decide)
/-- The power at a call: none, if it is off. -/
def powerD (D : DiskD) : Option DiskD := if D.failing = true then (if D.left = 0 then none else some { D with left := D.left - 1 }) else some D
theorem ret_int {k : IntKind} {a b : Int} (h : a = b) : Ending.returned (.int k a) = .returned (.int k b) := by rw [h]
set_option maxHeartbeats 1000000 in
set_option maxRecDepth 100000 in
/-- call. -/
theorem call_58 (F : Nat → Prop) (w : World) (b : Nat) (D : DiskD) (h : DiskAt F w b D) (hl : -1 ≤ D.left ∧ D.left ≤ 1000) :
    Calls Tryd.prog 58 #[.pointer (some ⟨b, 0, none⟩)] w fun e w' => match powerD D with
      | none => e = .returned (.int .i64 70) ∧ w' = w
      | some D' => e = .returned (.int .i64 0) ∧ DiskAt F w' b D' ∧ Only b w w' := by
  obtain ⟨vn, vs, vp, c, h⟩ := h
  have H := Lib.hid h
  obtain ⟨now, syn, pcs, f, l⟩ := D
  have hb := h.blk
  simp only at hb hl
  have c3 : w.cell? ⟨b, 3, none⟩ = some (.int .i64 c) := by rw [blk_cell hb]; rfl
  have c4 : w.cell? ⟨b, 4, none⟩ = some (.bool f) := by rw [blk_cell hb]; rfl
  have c5 : w.cell? ⟨b, 5, none⟩ = some (.int .i64 l) := by rw [blk_cell hb]; rfl
  have f3 : w.frozen? ⟨b, 3, none⟩ = false := blk_frozen hb 3
  have f5 : w.frozen? ⟨b, 5, none⟩ = false := blk_frozen hb 5
  have HB := Lib.hid hb
  clear h hb
  obtain ⟨hl1, hl2⟩ := hl
  cases f with
  | false =>
    have HP : Hid (powerD ⟨now, syn, pcs, false, l⟩ = some ⟨now, syn, pcs, false, l⟩) := rfl
    rw [HP.out]
    go_enter Tryd.func58, Tryd.ntmps58
    go_wp2_with fail
    go_ret
    refine ⟨rfl, ⟨vn, vs, vp, _, H.out.only (D := ⟨now, syn, pcs, false, l⟩) (Only.setCell (Only.refl b w) 3 _) ((blk_set HB.out 3 _).trans rfl)⟩, Only.setCell (Only.refl b w) 3 _⟩
  | true =>
    by_cases h0 : l = 0
    · subst h0
      have HP : Hid (powerD ⟨now, syn, pcs, true, 0⟩ = none) := rfl
      rw [HP.out]
      go_enter Tryd.func58, Tryd.ntmps58
      go_wp2_with fail
      go_ret
      exact ⟨rfl, rfl⟩
    · have HP : Hid (powerD ⟨now, syn, pcs, true, l⟩ = some ⟨now, syn, pcs, true, l - 1⟩) := by show _ = _; simp [powerD, h0]
      rw [HP.out]
      go_enter Tryd.func58, Tryd.ntmps58
      go_wp2_with fail
      go_ret
      refine ⟨rfl, ⟨vn, vs, vp, _, H.out.only (D := ⟨now, syn, pcs, true, l⟩) (Only.setCell (Only.setCell (Only.refl b w) 5 _) 3 _) ((blk_set (blk_set HB.out 5 _) 3 _).trans rfl)⟩, Only.setCell (Only.setCell (Only.refl b w) 5 _) 3 _⟩
end Go.Proofs.YtgdkdihedgiegaaDoor

namespace Go.Proofs.YtgdkdihedgiegaaDoor
open Go.RowKit

theorem i93 : (Tryd.prog.info? 93).map (fun i => (i.zero, i.size, i.bytes)) = some (some (.agg #[.int .i64 0, .slice none 0 0]), 2, 32) := by kernel_rfl
theorem wp_run {w : World} {o : Oper} {a : Act} {K : Act → World → Prop} {Q : Exit → Act → World → Prop} (sl x : Operand) (t t' ty : TypeId) (ho : o.op = .call { callee := .builtin .append, args := #[sl, x], argTypes := #[t, t'] }) (hty : o.type = ty)
    (v y v' : Value) (w' : World) (hs : a.eval sl = v) (hx : a.eval x = y) (hr : (Builtin.append_ #[t, t'] ty #[v, y]).run Tryd.prog w = .ok v' w')
    (h : K (a.put o.dst v') w') : o.wp Tryd.prog a w K Q := by
  unfold Oper.wp execOp
  simp only [ho, hty, resolve, invoke, builtin, Sem.run_bind, Sem.run_pure, Result.andThen_ok, List.map_toArray, List.map_cons, List.map_nil, hs, hx, hr]
  exact h
theorem cell_new_drew (X : World) (c : Array Value) (t : TypeId) (n i : Nat) (v : Value) (hn : n = X.heap.size) (h : c[i]? = some v) : (X.alloc (.cells c t)).drew.cell? ⟨n, i, none⟩ = some v := by subst hn; exact (World.cell?_alloc_new X c t i).trans h
theorem alloc_below (w : World) (o : Obj) : Below w.heap.size w (w.alloc o) := (Below.refl _ w).alloc (Nat.le_refl _) o
/-- A block of F, the struct's and the pieces' row. -/
def Two (b : Nat) (v : Value) (k : Nat) : Prop := k = b ∨ v.ownBlock = some k
structure AddPost (w : World) (b : Nat) (c0 c1 vp c3 c4 c5 : Value) (n : Nat) (xs news : List Value) (w' : World) : Prop where
  ex : ∃ vp', w'.heap[b]? = some (.cells #[c0, c1, vp', c3, c4, c5] 71 (0, 0)) ∧ w'.ownsRow 0 93 2 vp' (n + 1) (xs ++ news) ∧ Step (Two b vp) w (Two b vp') w'
set_option maxHeartbeats 1000000 in
set_option maxRecDepth 100000 in
theorem add_68 (w : World) (b : Nat) (c0 c1 vp c3 c4 c5 : Value) (n : Nat) (xs : List Value) (off : Int) (tv : Value) (ht : tv.oneCell' = true) (hb : w.heap[b]? = some (.cells #[c0, c1, vp, c3, c4, c5] 71 (0, 0))) (hown : w.ownsRow 0 93 2 vp n xs) (hn : n ≤ 100000000) :
    Calls Tryd.prog 68 #[.pointer (some ⟨b, 2, none⟩), .agg #[.int .i64 off, tv]] w fun e w' => e = .returned (.tuple #[]) ∧ AddPost w b c0 c1 vp c3 c4 c5 n xs [.int .i64 off, tv] w' := by
  have hlt := blk_lt hb
  have HB := Lib.hid hb
  have HO := Lib.hid hown
  obtain ⟨va, vc, rfl⟩ := row_shape hown
  have hS : Hid ((w.alloc (.cells #[.int .i64 off, tv] 93)).drew.cell? ⟨b, 2, none⟩ = some (.slice va n vc) ∧ (w.alloc (.cells #[.int .i64 off, tv] 93)).drew.cell? ⟨w.heap.size, 0, none⟩ = some (.int .i64 off) ∧ (w.alloc (.cells #[.int .i64 off, tv] 93)).drew.cell? ⟨w.heap.size, 1, none⟩ = some tv) := by
    refine ⟨?_, cell_new_drew w _ _ _ _ _ rfl rfl, cell_new_drew w _ _ _ _ _ rfl rfl⟩
    show (w.alloc (.cells #[.int .i64 off, tv] 93)).cell? ⟨b, 2, none⟩ = _
    rw [alloc_old _ _ _ _ hlt, blk_cell hb]; rfl
  clear hb hown
  go_enter Tryd.func68, Tryd.ntmps68
  go_wp2_with fail
  refine wp_region_T (fun w' => w'.cell? ⟨b, 2, none⟩ = some (.slice va n vc) ∧ w'.cell? ⟨w.heap.size, 0, none⟩ = some (.int .i64 off) ∧ w'.cell? ⟨w.heap.size, 1, none⟩ = some tv) 10 (by kernel_rfl) ?_
  refine anyT_take (i := 0) (v := ?_) rfl (by kernel_rfl) (by kernel_rfl) (by kernel_rfl) (by kernel_rfl) (by decide) (fun _ _ _ h => h) hS.out (Or.inl ⟨by rfl, ?_⟩) ?_
  rotate_left
  · intro w' h; obtain ⟨h0, h1, h2⟩ := h; go_simp; rfl
  refine anyT_take (i := 1) (v := ?_) rfl (by kernel_rfl) (by kernel_rfl) (by kernel_rfl) (by kernel_rfl) (by decide) (fun _ _ _ h => h) hS.out (Or.inl ⟨by rfl, ?_⟩) ?_
  rotate_left
  · intro w' h; obtain ⟨h0, h1, h2⟩ := h; go_simp; rfl
  refine anyT_take (i := 2) (v := ?_) rfl (by kernel_rfl) (by kernel_rfl) (by kernel_rfl) (by kernel_rfl) (by decide) (fun _ _ _ h => h) hS.out (Or.inl ⟨by rfl, ?_⟩) ?_
  rotate_left
  · intro w' h; obtain ⟨h0, h1, h2⟩ := h; go_simp; rfl
  refine anyT_take (i := 3) (v := ?_) rfl (by kernel_rfl) (by kernel_rfl) (by kernel_rfl) (by kernel_rfl) (by decide) (fun _ _ _ h => h) hS.out (Or.inl ⟨by rfl, ?_⟩) ?_
  rotate_left
  · intro w' h; obtain ⟨h0, h1, h2⟩ := h; go_simp; rfl
  refine anyT_take (i := 4) (v := ?_) rfl (by kernel_rfl) (by kernel_rfl) (by kernel_rfl) (by kernel_rfl) (by decide) (fun _ _ _ h => h) hS.out (Or.inl ⟨by rfl, ?_⟩) ?_
  rotate_left
  · intro w' h; obtain ⟨h0, h1, h2⟩ := h; go_simp; rfl
  refine anyT_take (i := 5) (v := ?_) rfl (by kernel_rfl) (by kernel_rfl) (by kernel_rfl) (by kernel_rfl) (by decide) (fun _ _ _ h => h) hS.out (Or.inl ⟨by rfl, ?_⟩) ?_
  rotate_left
  · intro w' h; obtain ⟨h0, h1, h2⟩ := h; go_simp; rfl
  obtain ⟨W1, hW1⟩ : ∃ W1, (w.alloc (.cells #[.int .i64 off, tv] 93)).drew = W1 := ⟨_, rfl⟩
  have hbl : Below w.heap.size w W1 := by rw [← hW1]; exact (alloc_below w _).drew
  have hz1 : W1.heap.size = w.heap.size + 1 := by rw [← hW1]; simp
  rw [hW1] at hS ⊢
  have HBL := Lib.hid hbl
  clear hW1 hbl
  refine anyT_do (i := 6) rfl (by kernel_rfl) rfl (fun K hK => ?_)
  go_simp
  have hS2 : Hid ((W1.alloc (.cells #[.int .i64 off, tv] 93)).cell? ⟨b, 2, none⟩ = some (.slice va n vc) ∧ (W1.alloc (.cells #[.int .i64 off, tv] 93)).cell? ⟨w.heap.size, 0, none⟩ = some (.int .i64 off) ∧ (W1.alloc (.cells #[.int .i64 off, tv] 93)).cell? ⟨w.heap.size, 1, none⟩ = some tv) := by
    obtain ⟨h0, h1, h2⟩ := hS.out
    exact ⟨by rw [alloc_old _ _ _ _ (by omega)]; exact h0, by rw [alloc_old _ _ _ _ (by omega)]; exact h1, by rw [alloc_old _ _ _ _ (by omega)]; exact h2⟩
  refine hK _ _ (fun _ => hS2.out) ?_
  clear hK K
  have HB2 : Hid ((W1.alloc (.cells #[.int .i64 off, tv] 93)).heap[b]? = some (.cells #[c0, c1, .slice va n vc, c3, c4, c5] 71 (0, 0))) := ((Below.heap_alloc _ _ _ (by omega)).trans (HBL.out.block b hlt)).trans HB.out
  have HO2 : Hid ((W1.alloc (.cells #[.int .i64 off, tv] 93)).ownsRow 0 93 2 (.slice va n vc) n xs) := row_far HO.out (fun g hg => by
    have := row_lt HO.out g hg
    exact (Below.heap_alloc _ _ _ (by omega)).trans (HBL.out.block g this))
  have HBL2 : Hid (Below w.heap.size w (W1.alloc (.cells #[.int .i64 off, tv] 93))) := HBL.out.alloc (by omega) _
  have HF : Hid (From (W1.alloc (.cells #[.int .i64 off, tv] 93)) (.slice (some ⟨W1.heap.size, 0, none⟩) 1 1) 1 [.int .i64 off, tv]) := ⟨⟨_, _, rfl, fun _ => ⟨_, rfl, fun j u hu => by
    rw [add_lit, Nat.zero_add]
    match j, hu with
    | 0, hu => simp at hu; subst hu; exact World.cell?_alloc_new W1 _ _ 0
    | 1, hu => simp at hu; subst hu; exact World.cell?_alloc_new W1 _ _ 1⟩⟩⟩
  generalize W1.alloc (.cells #[.int .i64 off, tv] 93) = W2 at *
  rw [hz1] at HF
  obtain ⟨v', w7, hr, h2, h3⟩ := run_from 67 67 93 _ 2 32 Tryd.underlying67 i93 rfl (by decide) (by decide) W2 (.slice va n vc) n xs HO2.out _ 1 _ HF.out rfl (by intro u hu; simp at hu; rcases hu with rfl | rfl; rfl; exact ht) (by omega)
  have hb7 : b < W2.heap.size := blk_lt HB2.out
  have hnb : (Value.slice va n vc).ownBlock ≠ some b := fun e => by obtain ⟨cur, hc⟩ := row_type HO2.out e; exact type_ne hc HB2.out (by decide) rfl
  have hB7 : w7.heap[b]? = some (.cells #[c0, c1, .slice va n vc, c3, c4, c5] 71 (0, 0)) := (h3.grown.block b hb7 (fun e => hnb e.symm)).trans HB2.out
  have hown7 : ∀ k, k < w.heap.size → (Value.slice va n vc).ownBlock ≠ some k → w7.heap[k]? = w.heap[k]? := fun k hk hne => (h3.grown.block k (Nat.lt_of_lt_of_le hk HBL2.out.size) (fun e => hne e.symm)).trans (HBL2.out.block k hk)
  have hwn : (Value.slice va n vc).ownBlock ≠ some w.heap.size := fun e => by have := row_lt HO.out _ e; omega
  refine anyT_do (i := 7) rfl (by kernel_rfl) rfl (fun K hK => ?_)
  refine wp_run _ _ 67 67 67 rfl rfl _ _ v' w7 (by rfl) (by rfl) hr ?_
  have HS7 : Hid (w7.cell? ⟨b, 2, none⟩ = some (.slice va n vc) ∧ w7.cell? ⟨w.heap.size, 0, none⟩ = some (.int .i64 off) ∧ w7.cell? ⟨w.heap.size, 1, none⟩ = some tv) := by
    obtain ⟨h0, h1, h2'⟩ := hS2.out
    have hlt2 := cell_lt h1
    exact ⟨by rw [blk_cell hB7]; rfl, onto_cell h3 h1 hwn, onto_cell h3 h2' hwn⟩
  refine hK _ _ (fun _ => HS7.out) ?_
  clear hK K
  have HR := Lib.hid h2
  have H3 := Lib.hid h3
  have HB7 := Lib.hid hB7
  have HOW := Lib.hid hown7
  have k2 : w7.cell? ⟨b, 2, none⟩ = some (.slice va n vc) := by rw [blk_cell hB7]; rfl
  have f2 : w7.frozen? ⟨b, 2, none⟩ = false := blk_frozen hB7 2
  obtain ⟨va', vc', rfl⟩ := row_shape h2
  clear hr h2 h3 hB7 hown7 hS hS2
  refine anyT_do (i := 8) rfl (by kernel_rfl) rfl (fun K hK => ?_)
  go_simp
  refine hK _ _ (fun _ => HS7.out) ?_
  clear hK K
  refine anyT_do (i := 9) rfl (by kernel_rfl) rfl (fun K hK => ?_)
  go_simp
  refine hK _ _ (fun _ => HS7.out) ?_
  clear hK K
  refine anyT_do (i := 10) rfl (by kernel_rfl) rfl (fun K hK => ?_)
  go_simp
  refine hK _ _ (fun h => absurd rfl h) ?_
  clear hK K
  refine anyT_done (by kernel_rfl) ?_ _
  go_wp2_with fail
  go_end0
  have hsz := HBL2.out.size
  have hsz7 := H3.out.grown.size
  refine ⟨rfl, ⟨_, (blk_set HB7.out 2 _).trans rfl, row_far HR.out (fun g hg => Below.heap_setCell _ _ _ _ (fun e => ?_)), ?_⟩⟩
  · subst e
    rcases H3.out.at_ with h1 | h1
    · exact hnb (h1 ▸ hg)
    · rw [h1] at hg; injection hg with hg; omega
  · refine ⟨H3.out.grown.os.trans HBL2.out.os, H3.out.grown.tape.trans HBL2.out.tape, H3.out.grown.output.trans HBL2.out.output, by simp; omega, fun k hk hne => ?_, fun k hk => ?_⟩
    · rw [Below.heap_setCell _ _ _ _ (fun e => hne (.inl e))]
      exact HOW.out k hk (fun e => hne (.inr e))
    · rcases hk with rfl | hk
      · exact .inl (.inl rfl)
      · rcases H3.out.at_ with h1 | h1
        · exact .inl (.inr (h1 ▸ hk))
        · rw [h1] at hk; injection hk with hk; right; omega
set_option maxHeartbeats 1000000 in
theorem settle_59 (w : World) (b : Nat) (c0 c1 vp c3 c4 c5 : Value) (hb : w.heap[b]? = some (.cells #[c0, c1, vp, c3, c4, c5] 71 (0, 0))) :
    Calls Tryd.prog 59 #[.pointer (some ⟨b, 2, none⟩)] w fun e w' => e = .returned (.tuple #[]) ∧ w'.heap[b]? = some (.cells #[c0, c1, .slice none 0 0, c3, c4, c5] 71 (0, 0)) ∧ Only b w w' := by
  have k2 : w.cell? ⟨b, 2, none⟩ = some vp := by rw [blk_cell hb]; rfl
  have f2 : w.frozen? ⟨b, 2, none⟩ = false := blk_frozen hb 2
  have HB := Lib.hid hb
  clear hb
  go_enter Tryd.func59, Tryd.ntmps59
  go_wp2_with fail
  go_end0
  exact ⟨rfl, (blk_set HB.out 2 _).trans rfl, Only.setCell (Only.refl b w) 2 _⟩
end Go.Proofs.YtgdkdihedgiegaaDoor

namespace Go.Proofs.YtgdkdihedgiegaaDoor
open Go.RowKit

/-- A write's pieces, sector by sector. -/
def chunksR (off : Nat) (s : Bs) : List (Nat × Bs) :=
  if h : s = [] then [] else (off, s.take (64 - off % 64)) :: chunksR (off + min (64 - off % 64) s.length) (s.drop (64 - off % 64))
termination_by s.length
decreasing_by
  have : 0 < s.length := List.length_pos_iff.2 h
  simp
  omega
theorem chunks_nil (off : Nat) : chunksR off [] = [] := by rw [chunksR]; simp
theorem chunks_cons (off : Nat) (s : Bs) (h : s ≠ []) (n : Nat) (hn : n = min (64 - off % 64) s.length) : chunksR off s = (off, s.take n) :: chunksR (off + n) (s.drop n) := by
  rw [chunksR, dif_neg h, ← hn]
  have h1 : s.take (64 - off % 64) = s.take n := by
    subst hn
    by_cases hh : 64 - off % 64 ≤ s.length
    · rw [Nat.min_eq_left hh]
    · rw [Nat.min_eq_right (by omega), List.take_of_length_le (by omega), List.take_length]
  have h2 : s.drop (64 - off % 64) = s.drop n := by
    subst hn
    by_cases hh : 64 - off % 64 ≤ s.length
    · rw [Nat.min_eq_left hh]
    · rw [Nat.min_eq_right (by omega), List.drop_of_length_le (by omega), List.drop_length]
  rw [h1, h2]
def writeD (D : DiskD) (off : Nat) (s : Bs) : DiskD × Int := match powerD D with
  | none => (D, 70)
  | some D' => ({ D' with now := putR D'.now off s, pcs := D'.pcs ++ chunksR off s }, 0)
def syncD (D : DiskD) : DiskD × Int := match powerD D with
  | none => (D, 70)
  | some D' => ({ D' with syn := D'.now, pcs := [] }, 0)

/-! A string's bytes. -/
def capR (w : World) (l : Bs) : Nat := grownCap w (⟨l.toArray⟩ : ByteArray).size 0 5
def bytesW (w : World) (l : Bs) : World := Lib.bytesWorld w 5 ⟨l.toArray⟩
theorem conv_rule (w : World) (l : Bs) : (convert 9 51 (S l)).run Tryd.prog w = .ok (.slice (some ⟨w.heap.size, 0, none⟩) l.length (capR w l)) (bytesW w l) :=
  Lib.run_convert_string_bytes w 9 51 5 ⟨l.toArray⟩ Tryd.underlying9 Tryd.underlying51 Tryd.underlying5
theorem bytesW_size (w : World) (l : Bs) : (bytesW w l).heap.size = w.heap.size + 1 := Lib.bytesWorld_size w 5 _
theorem freeze_os (w : World) (a : Addr) (n : Nat) : (w.freeze a n).os = w.os ∧ (w.freeze a n).tape = w.tape ∧ (w.freeze a n).output = w.output := by
  unfold World.freeze
  split <;> exact ⟨rfl, rfl, rfl⟩
theorem bytesW_below (w : World) (l : Bs) : Below w.heap.size w (bytesW w l) := by
  obtain ⟨h1, h2, h3⟩ := freeze_os (w.drew.alloc (.cells (Lib.bytesCells w 5 ⟨l.toArray⟩) 5)) ⟨w.heap.size, (Lib.bytesCells w 5 ⟨l.toArray⟩).size, none⟩ 1
  exact ⟨h1, h2, h3, by rw [bytesW_size]; omega, fun k hk => Lib.bytesWorld_at_old w 5 _ k hk⟩
theorem bytesW_text (w : World) (l : Bs) : TextAt (bytesW w l) (.slice (some ⟨w.heap.size, 0, none⟩) l.length (capR w l)) l w.heap.size := by
  refine ⟨⟨_, _, _, rfl, Lib.bytesWorld_at_new w 5 _, ?_⟩⟩
  simp only [Lib.bytesCells, Array.toList_append, Array.toList_map]
  exact List.take_left' (by simp)
theorem drew_rule (w : World) : w.drew.heap = w.heap := rfl

/-- The contents are stored anew. -/
theorem DiskR.putNow {F : Nat → Prop} {w w1 : World} {b : Nat} {vn vs vp vn' : Value} {c : Int} {D : DiskD} {now' : Bs} (h : DiskR F w b vn vs vp c D) (h1 : ByteRow w1 vn' now') (ho : w.grownBy w1 vn.ownBlock) (hat : vn'.ownBlock = vn.ownBlock ∨ ∃ k, vn'.ownBlock = some k ∧ w.heap.size ≤ k) :
    ∃ F', DiskR F' (w1.setCell ⟨b, 0, none⟩ vn') b vn' vs vp c { D with now := now' } ∧ Step F w F' (w1.setCell ⟨b, 0, none⟩ vn') := by
  obtain ⟨n1, n2, n3⟩ := h.ne
  have hb : b < w.heap.size := blk_lt h.blk
  have hlt1 : ∀ k, vn'.ownBlock = some k → k < w1.heap.size := fun k hk => row_lt h1 k hk
  have old : ∀ k, k < w.heap.size → k ≠ b → vn.ownBlock ≠ some k → (w1.setCell ⟨b, 0, none⟩ vn').heap[k]? = w.heap[k]? := fun k hk hkb hn => by
    rw [Below.heap_setCell _ _ _ _ hkb]
    exact ho.block k hk (fun e => hn e.symm)
  have hb1 : w1.heap[b]? = some (.cells (diskCells vn vs vp c D.failing D.left) 71 (0, 0)) := (ho.block b hb (fun e => n1 e.symm)).trans h.blk
  have hnb : vn'.ownBlock ≠ some b := fun e => by obtain ⟨cur, hc⟩ := row_type h1 e; exact type_ne hc hb1 (by decide) rfl
  have hsv : ∀ k, vs.ownBlock = some k → vn.ownBlock ≠ some k := fun k hk e => h.apart k e hk
  obtain ⟨qs, q1, q2, q3⟩ := h.pcs
  have hpv : ∀ k, vp.ownBlock = some k → vn.ownBlock ≠ some k := fun k hk e => by
    obtain ⟨cur, hc⟩ := row_type q2 hk; obtain ⟨cur', hc'⟩ := row_type h.now e; exact type_ne hc hc' (by decide) rfl
  refine ⟨fun k => F k ∨ vn'.ownBlock = some k, ⟨(blk_set hb1 0 _).trans rfl, ?_, ?_, ?_, ⟨⟨qs, q1, ?_, ?_⟩⟩, .inl h.fb, fun k hk => .inr hk, fun k hk => .inl (h.fs k hk), fun k hk => .inl (h.fp k hk), ?_⟩, ⟨ho.os, ho.tape, ho.output, by simpa using ho.size, ?_, ?_⟩⟩
  · exact row_far h1 (fun g hg => Below.heap_setCell _ _ _ _ (fun (e : g = b) => hnb (e ▸ hg)))
  · exact row_far h.syn (fun g hg => old g (row_lt h.syn g hg) (fun e => n2 (e ▸ hg)) (hsv g hg))
  · intro k hk e
    rcases hat with h2 | ⟨j, h2, hj⟩
    · exact h.apart k (h2 ▸ hk) e
    · rw [h2] at hk; injection hk with hk; have := row_lt h.syn k e; omega
  · exact row_far q2 (fun g hg => old g (row_lt q2 g hg) (fun e => n3 (e ▸ hg)) (hpv g hg))
  · intro q hq
    obtain ⟨g, ht, g1, g2, g3⟩ := q3 q hq
    have hgb : g ≠ b := by
      rintro rfl
      obtain ⟨cap, cur, fr, _, hh, _⟩ := ht
      exact absurd (blk_type hh h.blk) (by decide)
    refine ⟨g, ht.keep (old g (h.lt g g3) hgb g1), ?_, g2, .inl g3⟩
    rcases hat with h2 | ⟨j, h2, hj⟩
    · rw [h2]; exact g1
    · rw [h2]; intro e; injection e with e; have := h.lt g g3; omega
  · intro k hk
    rw [show (w1.setCell ⟨b, 0, none⟩ vn').heap.size = w1.heap.size from by simp]
    rcases hk with hk | hk
    · exact Nat.lt_of_lt_of_le (h.lt k hk) ho.size
    · exact hlt1 k hk
  · intro k hk hn
    exact old k hk (fun e => hn (e ▸ h.fb)) (fun e => hn (h.fn k e))
  · intro k hk
    rcases hk with hk | hk
    · exact .inl hk
    · rcases hat with h2 | ⟨j, h2, hj⟩
      · exact .inl (h.fn k (h2 ▸ hk))
      · rw [h2] at hk; injection hk with hk; exact .inr (by omega)
/-- A piece has been added. -/
theorem DiskR.addPc {F : Nat → Prop} {w w2 w3 : World} {b : Nat} {vn vs vp tv : Value} {c : Int} {D : DiskD} {off : Nat} {s : Bs} {g : Nat} (h : DiskR F w b vn vs vp c D) (hb2 : Below w.heap.size w w2) (ht : TextAt w2 tv s g) (hg : w.heap.size ≤ g)
    (qs : List ((Nat × Bs) × Value)) (q1 : qs.map (·.1) = D.pcs) (q3 : ∀ q ∈ qs, ∃ g, TextAt w q.2 q.1.2 g ∧ vn.ownBlock ≠ some g ∧ vs.ownBlock ≠ some g ∧ F g)
    (ha : AddPost w2 b vn vs vp (.int .i64 c) (.bool D.failing) (.int .i64 D.left) qs.length (qs.flatMap pcCells) [.int .i64 off, tv] w3) :
    ∃ F' vp', DiskR F' w3 b vn vs vp' c { D with pcs := D.pcs ++ [(off, s)] } ∧ Step F w F' w3 := by
  obtain ⟨n1, n2, n3⟩ := h.ne
  obtain ⟨vp', hb3, ho3, hst⟩ := ha
  have hb : b < w.heap.size := blk_lt h.blk
  obtain ⟨qs0, q10, q20, _⟩ := h.pcs
  have hpv : ∀ k v l, ByteRow w v l → v.ownBlock = some k → vp.ownBlock ≠ some k := fun k v l hr hk e => by
    obtain ⟨cur, hc⟩ := row_type q20 e; obtain ⟨cur', hc'⟩ := row_type hr hk; exact type_ne hc hc' (by decide) rfl
  have old : ∀ k, k < w.heap.size → k ≠ b → vp.ownBlock ≠ some k → w3.heap[k]? = w.heap[k]? := fun k hk h1 h2 =>
    (hst.block k (Nat.lt_of_lt_of_le hk hb2.size) (fun e => by rcases e with e | e; exact h1 e; exact h2 e)).trans (hb2.block k hk)
  have hg2 : g < w2.heap.size := by obtain ⟨_, _, _, _, hh, _⟩ := ht; exact blk_lt hh
  have hgb : g ≠ b := by omega
  have hgp : vp.ownBlock ≠ some g := fun e => by have := row_lt q20 g e; omega
  refine ⟨fun k => F k ∨ k = g ∨ vp'.ownBlock = some k, vp', ⟨hb3, ?_, ?_, h.apart, ⟨⟨qs ++ [((off, s), tv)], by simp [q1], ?_, ?_⟩⟩, .inl h.fb, fun k hk => .inl (h.fn k hk), fun k hk => .inl (h.fs k hk), fun k hk => .inr (.inr hk), ?_⟩, ⟨hst.os.trans hb2.os, hst.tape.trans hb2.tape, hst.output.trans hb2.output, Nat.le_trans hb2.size hst.size, ?_, ?_⟩⟩
  · exact row_far h.now (fun k hk => old k (row_lt h.now k hk) (fun e => n1 (e ▸ hk)) (hpv k _ _ h.now hk))
  · exact row_far h.syn (fun k hk => old k (row_lt h.syn k hk) (fun e => n2 (e ▸ hk)) (hpv k _ _ h.syn hk))
  · simpa [pcCells] using ho3
  · intro q hq
    rcases List.mem_append.1 hq with hq | hq
    · obtain ⟨k, t1, t2, t3, t4⟩ := q3 q hq
      have hkl := h.lt k t4
      have hkb : k ≠ b := by
        rintro rfl
        obtain ⟨cap, cur, fr, _, hh, _⟩ := t1
        exact absurd (blk_type hh h.blk) (by decide)
      have hkp : vp.ownBlock ≠ some k := fun e => by
        obtain ⟨cur, hc⟩ := row_type q20 e
        obtain ⟨cap, cur', fr, _, hh, _⟩ := t1
        exact absurd (blk_type hh hc) (by decide)
      exact ⟨k, t1.keep (old k hkl hkb hkp), t2, t3, .inl t4⟩
    · simp at hq
      subst hq
      refine ⟨g, ht.keep (hst.block g hg2 (fun e => by rcases e with e | e; exact hgb e; exact hgp e)), fun e => ?_, fun e => ?_, .inr (.inl rfl)⟩
      · have := row_lt h.now g e; omega
      · have := row_lt h.syn g e; omega
  · intro k hk
    rcases hk with hk | rfl | hk
    · exact Nat.lt_of_lt_of_le (Nat.lt_of_lt_of_le (h.lt k hk) hb2.size) hst.size
    · exact Nat.lt_of_lt_of_le hg2 hst.size
    · exact row_lt ho3 k hk
  · intro k hk hn
    exact old k hk (fun e => hn (e ▸ h.fb)) (fun e => hn (h.fp k e))
  · intro k hk
    rcases hk with hk | rfl | hk
    · exact .inl hk
    · exact .inr hg
    · rcases hst.new k (.inr hk) with (rfl | h1) | h1
      · exact .inl h.fb
      · exact .inl (h.fp k h1)
      · exact .inr (Nat.le_trans hb2.size h1)
end Go.Proofs.YtgdkdihedgiegaaDoor
