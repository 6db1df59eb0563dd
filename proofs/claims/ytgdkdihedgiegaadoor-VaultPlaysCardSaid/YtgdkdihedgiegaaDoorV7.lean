/-
  The walk of clean.
-/
import Derived.Test.YtgdkdihedgiegaaDoorV6
namespace Go.Proofs.YtgdkdihedgiegaaDoor
open Go.RowKit

theorem dirty_i (F : Nat → Prop) (w : World) (bv pc po pv : Nat) (c : Bs) (sv : Value) (l : List (Nat × Bs)) (h : OutAt F w bv po sv l) (hF : ∀ k, F k → k < w.heap.size) (hc : w.heap[pc]? = some (.cells #[S c] 9 (0, 0))) (hv : w.heap[pv]? = some (.cells #[.pointer (some ⟨bv, 0, none⟩)] 26 (0, 0)))
    (a b : Nat) (x y : Int) (hx : x = a) (hy : y = b) (hab : min a c.length ≤ min b c.length) (hcl : c.length ≤ 20000000) (hll : l.length ≤ 1000) :
    Calls Tryd.prog 61 #[.int .i64 x, .int .i64 y, .pointer (some ⟨pc, 0, none⟩), .pointer (some ⟨po, 0, none⟩), .pointer (some ⟨pv, 0, none⟩)] w (DirtyPost F bv po sv (l ++ dirtyR c a b) w) := by
  subst hx hy
  exact dirty_61 F w bv pc po pv c sv l h hF hc hv a b hab hcl hll
theorem dirty_len (c : Bs) (a b : Nat) : (dirtyR c a b).length ≤ 1 := by unfold dirtyR; simp only; split <;> simp
set_option maxHeartbeats 4000000 in
set_option maxRecDepth 100000 in
theorem clean_37 (F : Nat → Prop) (w : World) (bv : Nat) (c : Bs) (n : Nat) (hF : ∀ k, F k → k < w.heap.size) (hcl : c.length ≤ 20000000) (hn : n ≤ 20000000) :
    Calls Tryd.prog 37 #[.pointer (some ⟨bv, 0, none⟩), S c, .int .i64 n] w fun e w' => ∃ v, e = .returned v ∧ StepsAt F w' bv v (stepsR c n) ∧ Below w.heap.size w w' := by
  have HF := Lib.hid hF
  clear hF
  go_enter Tryd.func37, Tryd.ntmps37
  go_wp2_with fail
  obtain ⟨W, hW⟩ : ∃ W, ((w.alloc (.cells #[.pointer (some ⟨bv, 0, none⟩)] 26)).alloc (.cells #[S c] 9)).alloc (.cells #[.slice none 0 0] 78) = W := ⟨_, rfl⟩
  have n1 := heap_alloc_new ((w.alloc (.cells #[.pointer (some ⟨bv, 0, none⟩)] 26)).alloc (.cells #[S c] 9)) (.cells #[.slice none 0 0] 78)
  have n2 := heap_alloc_new (w.alloc (.cells #[.pointer (some ⟨bv, 0, none⟩)] 26)) (.cells #[S c] 9)
  have n3 := heap_alloc_new w (.cells #[.pointer (some ⟨bv, 0, none⟩)] 26)
  simp only [World.size_alloc] at n1 n2 n3
  have HB : Hid (Below w.heap.size w W) := by rw [← hW]; exact (((Below.refl _ w).alloc (Nat.le_refl _) _).alloc (by simp) _).alloc (by simp; omega) _
  have hpv : W.heap[w.heap.size]? = some (.cells #[.pointer (some ⟨bv, 0, none⟩)] 26 (0, 0)) := by
    rw [← hW, Below.heap_alloc _ _ _ (by simp; omega), Below.heap_alloc _ _ _ (by simp)]; exact n3
  have hpc : W.heap[w.heap.size + 1]? = some (.cells #[S c] 9 (0, 0)) := by rw [← hW, Below.heap_alloc _ _ _ (by simp)]; exact n2
  have hpo : W.heap[w.heap.size + 2]? = some (.cells #[.slice none 0 0] 78 (0, 0)) := by rw [← hW]; exact n1
  have HO : Hid (OutAt F W bv (w.heap.size + 2) (.slice none 0 0) []) := ⟨hpo, ⟨[], rfl, World.ownsRow_nil _ _ _ _, by simp, fun k hk => (by cases hk)⟩, fun hf => by have := HF.out _ hf; omega⟩
  rw [hW]
  have HPV := Lib.hid hpv
  have HPC := Lib.hid hpc
  clear hW n1 n2 n3 hpv hpc hpo
  ((with_reducible refine Calls.mono (dirty_i F _ bv (w.heap.size + 1) (w.heap.size + 2) w.heap.size c (.slice none 0 0) [] HO.out (lt_below HF.out HB.out) HPC.out HPV.out 0 64 0 64 rfl rfl (by omega) hcl (by simp)) ?_); rintro e w1 ⟨rfl, s1, hO1, hst1⟩)
  obtain ⟨_, _, r0, _⟩ := HO.out.steps
  have HPV1 := Lib.hid (keep_type HO.out.box r0 hst1 HPV.out (by decide) (by decide))
  have HPC1 := Lib.hid (keep_type HO.out.box r0 hst1 HPC.out (by decide) (by decide))
  have HO1 := Lib.hid hO1
  obtain ⟨HB1a, HB1b⟩ := hst1.below (lo := w.heap.size) (fun k hk => by rcases hk with rfl | hk; omega; cases hk) HB.out.size
  have HB1 := Lib.hid (HB.out.trans HB1a)
  have HB1b := Lib.hid HB1b
  have hl1 := dirty_len c 0 64
  have kc : w1.cell? ⟨w.heap.size + 1, 0, none⟩ = some (S c) := by rw [blk_cell HPC1.out]; rfl
  clear hO1 hst1 r0 HB1a HO
  go_wp2_with fail
  ((with_reducible refine Calls.mono (dirty_i F _ bv (w.heap.size + 1) (w.heap.size + 2) w.heap.size c s1 _ HO1.out (lt_below HF.out HB1.out) HPC1.out HPV1.out (64 + n) c.length _ _ (by omega) rfl (by omega) hcl (by simp; omega)) ?_); rintro e w2 ⟨rfl, s2, hO2, hst2⟩)
  obtain ⟨HB2a, HB2b⟩ := hst2.below (lo := w.heap.size) HB1b.out HB1.out.size
  have HB2 := Lib.hid (HB1.out.trans HB2a)
  have HO2 := Lib.hid hO2
  obtain ⟨a2, c2, rfl⟩ := hO2.steps.shape
  have ko : w2.cell? ⟨w.heap.size + 2, 0, none⟩ = some (.slice a2 ([] ++ dirtyR c 0 64 ++ dirtyR c (64 + n) c.length).length c2) := by rw [blk_cell HO2.out.box]; rfl
  clear hO2 hst2 HB2a HB2b
  generalize ([] ++ dirtyR c 0 64 ++ dirtyR c (64 + n) c.length).length = len at *
  go_wp2_with fail
  go_ret
  exact ⟨_, rfl, HO2.out.steps, HB2.out⟩
end Go.Proofs.YtgdkdihedgiegaaDoor
