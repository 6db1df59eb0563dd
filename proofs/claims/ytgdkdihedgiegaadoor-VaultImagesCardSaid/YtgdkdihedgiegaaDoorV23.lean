/-
  What a law's walk holds: a vault and its disk, the reference's state in a cell, and a tail that neither of them touches.
-/
import Derived.Test.YtgdkdihedgiegaaDoorV22
namespace Go.Proofs.YtgdkdihedgiegaaDoor
open Go.RowKit

theorem Step.widen {F G F' : Nat → Prop} {w w' : World} (h : Step F w F' w') (hn : ∀ k, F k → G k) : Step G w F' w' :=
  ⟨h.os, h.tape, h.output, h.size, fun k hk hg => h.block k hk (fun hf => hg (hn k hf)), fun k hk => (h.new k hk).imp (hn k) id⟩
theorem Step.lo {N N' : Nat → Prop} {w w' : World} {lo : Nat} (h : Step N w N' w') (hl : ∀ k, N k → lo ≤ k) (hs : lo ≤ w.heap.size) : ∀ k, N' k → lo ≤ k := (h.below hl hs).2
/-- A tail in memory, in a block outside N. -/
def Held (N : Nat → Prop) (w : World) (v : Value) (tl : List Bs) : Prop :=
  ∃ a cap, v = .slice a tl.length cap ∧ (tl ≠ [] → ∃ b off, a = some ⟨b, off, none⟩ ∧ b < w.heap.size ∧ ¬ N b ∧ ∀ j x, tl[j]? = some x → w.cell? ⟨b, off + j, none⟩ = some (S x))
theorem Held.step {N N' : Nat → Prop} {w w' : World} {v : Value} {tl : List Bs} (h : Held N w v tl) (hs : Step N w N' w') : Held N' w' v tl := by
  obtain ⟨a, cap, rfl, h⟩ := h
  refine ⟨a, cap, rfl, fun hn => ?_⟩
  obtain ⟨b, off, rfl, h1, h2, h3⟩ := h hn
  exact ⟨b, off, rfl, Nat.lt_of_lt_of_le h1 hs.size, hs.not h1 h2, fun j x hx => (hs.cell h1 h2 _).trans (h3 j x hx)⟩
theorem Held.tail {N : Nat → Prop} {w : World} {v : Value} {tl : List Bs} (h : Held N w v tl) : TailAt w v tl := by
  obtain ⟨a, cap, rfl, h⟩ := h
  refine ⟨a, cap, rfl, fun hn => ?_⟩
  obtain ⟨b, off, rfl, h1, h2, h3⟩ := h (fun e => hn (by rw [e]; rfl))
  refine ⟨b, off, rfl, Nat.zero_le _, h1, fun j x hx => ?_⟩
  rw [List.getElem?_map, Option.map_eq_some_iff] at hx
  obtain ⟨y, hy, rfl⟩ := hx
  exact h3 j y hy
theorem Held.fresh {N : Nat → Prop} {w : World} {v : Value} {tl : List Bs} {lo hi : Nat} (h : SliceAt lo hi w v tl.length (tl.map S)) (hh : hi ≤ w.heap.size) (hN : ∀ k, N k → k < lo) : Held N w v tl := by
  obtain ⟨a, cap, rfl, h⟩ := h
  refine ⟨a, cap, rfl, fun hn => ?_⟩
  obtain ⟨b, off, rfl, h1, h2, h3⟩ := h (fun e => hn (by simpa using e))
  refine ⟨b, off, rfl, by omega, fun hb => by have := hN b hb; omega, fun j x hx => h3 j _ (by rw [List.getElem?_map, hx]; rfl)⟩
theorem Held.nil (N : Nat → Prop) (w : World) : Held N w (.slice none 0 0) [] := ⟨none, 0, rfl, fun h => absurd rfl h⟩
theorem Held.shape {N : Nat → Prop} {w : World} {v : Value} {tl : List Bs} (h : Held N w v tl) : ∃ a cap, v = .slice a tl.length cap := by
  obtain ⟨a, cap, h, _⟩ := h
  exact ⟨a, cap, h⟩
theorem VS.step {F F' : Nat → Prop} {w w' : World} {g b : Nat} {sn : Bs} {tl : List Bs} {c : Bs} {l : Int} (h : VS F w g b sn tl c l) (X : Nat) (ho : Only X w w') (hx : ¬ With F g X) (_ : F = F') : VS F w' g b sn tl c l := by
  have hd : DiskAt F w' b (onD c l) := h.ds.disk.keep (fun k hk => ho.block k (fun e => hx (.inl (e ▸ hk)))) (by rw [ho.size]; exact Nat.le_refl _)
  exact ⟨⟨hd, h.ds.clean, h.ds.fit, h.ds.cl, h.ds.lo, h.ds.hi⟩, ⟨hd, (ho.block g (fun e => hx (.inr e.symm))).trans h.vd.vault, h.vd.nf⟩⟩
theorem VS.lt {F : Nat → Prop} {w : World} {g b : Nat} {sn : Bs} {tl : List Bs} {c : Bs} {l : Int} (h : VS F w g b sn tl c l) : ∀ k, With F g k → k < w.heap.size := by
  rintro k (hk | rfl)
  · exact h.vd.disk.lt k hk
  · exact blk_lt h.vd.vault
/-- What the walk holds: the vault's state is (sn, tl), the cell's (sx, tx). -/
structure LS (lo X : Nat) (w0 w : World) (F : Nat → Prop) (g b : Nat) (sn : Bs) (tl : List Bs) (c : Bs) (l : Int) (sx : Bs) (av : Value) (tx : List Bs) : Prop where
  vs : VS F w g b sn tl c l
  x : w.heap[X]? = some (.cells #[S sx, av] 32 (0, 0))
  nx : ¬ With F g X
  hd : Held (With (With F g) X) w av tx
  low : ∀ k, With (With F g) X k → lo ≤ k
  bl : Below lo w0 w
  sz : lo ≤ w.heap.size
section
variable {lo X : Nat} {w0 w w' : World} {F : Nat → Prop} {g b : Nat} {sn : Bs} {tl : List Bs} {c : Bs} {l : Int} {sx : Bs} {av : Value} {tx : List Bs}
theorem LS.below (h : LS lo X w0 w F g b sn tl c l sx av tx) (hb : Below w.heap.size w w') : LS lo X w0 w' F g b sn tl c l sx av tx :=
  ⟨h.vs.below hb, (hb.block X (blk_lt h.x)).trans h.x, h.nx, h.hd.step (Step.of_below hb), h.low, btr h.bl hb h.sz, Nat.le_trans h.sz hb.size⟩
theorem LS.turn {F' : Nat → Prop} {sn' : Bs} {tl' : List Bs} {c' : Bs} (h : LS lo X w0 w F g b sn tl c l sx av tx) (hv : VS F' w' g b sn' tl' c' l) (hs : Step (With F g) w (With F' g) w') : LS lo X w0 w' F' g b sn' tl' c' l sx av tx := by
  have hm := hs.more X
  have hb := hm.below h.low h.sz
  exact ⟨hv, (hs.block X (blk_lt h.x) h.nx).trans h.x, hs.not (blk_lt h.x) h.nx, h.hd.step hm, hb.2, h.bl.trans hb.1, Nat.le_trans h.sz hs.size⟩
theorem LS.opened {F' : Nat → Prop} {g' : Nat} {sn' : Bs} {tl' : List Bs} {c' : Bs} (h : LS lo X w0 w F g b sn tl c l sx av tx) (hv : VS F' w' g' b sn' tl' c' l) (hs : Step F w (With F' g') w') : LS lo X w0 w' F' g' b sn' tl' c' l sx av tx := by
  have hs2 := hs.widen (G := With F g) (fun k hk => .inl hk)
  have hm := hs2.more X
  have hb := hm.below h.low h.sz
  exact ⟨hv, (hs2.block X (blk_lt h.x) h.nx).trans h.x, hs2.not (blk_lt h.x) h.nx, h.hd.step hm, hb.2, h.bl.trans hb.1, Nat.le_trans h.sz hs.size⟩
theorem LS.set {sy : Bs} {ay : Value} {ty : List Bs} (h : LS lo X w0 w F g b sn tl c l sx av tx) (hh : Held (With (With F g) X) w ay ty) : LS lo X w0 ((w.setCell ⟨X, 0, none⟩ (S sy)).setCell ⟨X, 1, none⟩ ay) F g b sn tl c l sy ay ty := by
  have ho := ((Only.refl X w).setCell 0 (S sy)).setCell 1 ay
  have hm : Step (With (With F g) X) w (With (With F g) X) _ := Step.of_only ho (.inr rfl)
  refine ⟨h.vs.step X ho h.nx rfl, ?_, h.nx, hh.step hm, h.low, h.bl.trans (hm.below h.low h.sz).1, Nat.le_trans h.sz hm.size⟩
  simp only [World.setCell, Array.getElem?_modify, if_true, h.x]
  rfl
theorem LS.cells (h : LS lo X w0 w F g b sn tl c l sx av tx) : w.cell? ⟨X, 0, none⟩ = some (S sx) ∧ w.cell? ⟨X, 1, none⟩ = some av ∧ w.frozen? ⟨X, 0, none⟩ = false ∧ w.frozen? ⟨X, 1, none⟩ = false :=
  ⟨Lib.cell_of_heap h.x 0, Lib.cell_of_heap h.x 1, Lib.frozen_of_heap h.x 0, Lib.frozen_of_heap h.x 1⟩
/-- The beginning: the cell is made. -/
theorem LS.start (h : VS F w g b [] [] c l) (hl : ∀ k, With F g k → lo ≤ k) (hb : Below lo w0 w) (hs : lo ≤ w.heap.size) : LS lo w.heap.size w0 (w.alloc (.cells #[S [], .slice none 0 0] 32)) F g b [] [] c l [] (.slice none 0 0) [] := by
  have ha := alloc_below w (.cells #[S [], .slice none 0 0] 32)
  exact ⟨h.below ha, heap_alloc_new w _, fun hx => by have := h.lt _ hx; omega, Held.nil _ _, fun k hk => by rcases hk with hk | rfl; exact hl k hk; exact hs, btr hb ha hs, by simp; omega⟩
end
set_option maxHeartbeats 1000000 in
set_option maxRecDepth 100000 in
theorem do_S (F : Nat → Prop) (w : World) (g b : Nat) (sn : Bs) (tl : List Bs) (c : Bs) (l : Int) (h : VS F w g b sn tl c l) (k : Nat) (hk : k ≤ 100) (text : Bs) (tv : Value) (tail : List Bs) (ht : TailAt w tv tail)
    (hf : (imageR (actR sn tl k text tail).1 (actR sn tl k text tail).2).length ≤ 20000) :
    Calls Tryd.prog 16 #[.pointer (some ⟨g, 0, none⟩), .agg #[.int .i64 k, S text, tv]] w (TurnPost F g b (actR sn tl k text tail).1 (actR sn tl k text tail).2 l w) := by
  obtain ⟨ta, cap, rfl, _⟩ := id ht
  have ha := alloc_below w (.cells #[.int .i64 k, S text, .slice ta tail.length cap] 34)
  have HV := Lib.hid (h.below ha)
  have HT := Lib.hid (ht.below ha)
  have HA : Hid (Step (With F g) w (With F g) _) := Step.of_below ha
  by_cases h2 : k ≤ 2
  · have hx : actR sn tl k text tail = (sn, tl ++ [text]) := by unfold actR; rw [if_pos h2]
    rw [hx] at hf ⊢
    have HF := Lib.hid hf
    clear h ht ha hx hf
    go_enter Tryd.func16, Tryd.ntmps16
    go_wp2_with fail
    ((with_reducible refine Calls.mono (append_S F _ g b sn tl c l HV.out text HF.out) ?_); rintro e w1 ⟨rfl, F', c', hv1, hs1⟩)
    have HV1 := Lib.hid hv1
    have HS1 := Lib.hid hs1
    clear hv1 hs1
    go_wp2_with fail
    go_ret
    exact ⟨rfl, F', c', HV1.out, HA.out.trans HS1.out⟩
  · have hx : actR sn tl k text tail = (text, tail) := by unfold actR; rw [if_neg h2]
    rw [hx] at hf ⊢
    have HF := Lib.hid hf
    clear h ht ha hx hf
    go_enter Tryd.func16, Tryd.ntmps16
    go_wp2_with fail
    ((with_reducible refine Calls.mono (replace_S F _ g b sn tl c l HV.out text _ tail HT.out HF.out) ?_); rintro e w1 ⟨rfl, F', c', hv1, hs1⟩)
    have HV1 := Lib.hid hv1
    have HS1 := Lib.hid hs1
    clear hv1 hs1
    go_wp2_with fail
    go_ret
    exact ⟨rfl, F', c', HV1.out, HA.out.trans HS1.out⟩
end Go.Proofs.YtgdkdihedgiegaaDoor
