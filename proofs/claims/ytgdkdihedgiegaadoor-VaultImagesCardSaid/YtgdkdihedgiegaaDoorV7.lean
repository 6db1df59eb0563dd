/-
  The walk of clean.
  The walks of slices.Grow and slices.Concat at steps.
-/
import Derived.Test.YtgdkdihedgiegaaDoorV6
namespace Go.Proofs.YtgdkdihedgiegaaDoor
open Go.RowKit

theorem dirty_i (F : Nat → Prop) (w : World) (bv pc po pv : Nat) (c : Bs) (sv : Value) (l : List (Nat × Bs)) (h : OutAt F w bv po sv l) (hF : ∀ k, F k → k < w.heap.size) (hc : w.heap[pc]? = some (.cells #[S c] 9 (0, 0))) (hv : w.heap[pv]? = some (.cells #[.pointer (some ⟨bv, 0, none⟩)] 26 (0, 0)))
    (a b : Nat) (x y : Int) (hx : x = a) (hy : y = b) (hab : min a c.length ≤ min b c.length) (hcl : c.length ≤ 20000000) (hll : l.length ≤ 1000) :
    Calls Tryd.prog 61 #[.int .i64 x, .int .i64 y, .pointer (some ⟨pc, 0, none⟩), .pointer (some ⟨po, 0, none⟩), .pointer (some ⟨pv, 0, none⟩)] w (DirtyPost F bv po sv (l ++ dirtyR c a b) w) := by
  subst hx hy
  exact dirty_61 F w bv pc po pv c sv l h hF hc hv a b hab hcl hll
theorem dirty_len (c : Bs) (a b : Nat) : (dirtyR c a b).length ≤ 1 := by unfold dirtyR; simp only; split <;> simp
set_option maxHeartbeats 4000000 in
set_option maxRecDepth 100000 in
theorem clean_37 (F : Nat → Prop) (w : World) (bv : Nat) (c : Bs) (n : Nat) (hF : ∀ k, F k → k < w.heap.size) (hcl : c.length ≤ 20000000) (hn : n ≤ 20000000) :
    Calls Tryd.prog 37 #[.pointer (some ⟨bv, 0, none⟩), S c, .int .i64 n] w fun e w' => ∃ v, e = .returned v ∧ StepsAt F w' bv v (stepsR c n) ∧ Below w.heap.size w w' := by
  have HF := Lib.hid hF
  clear hF
  go_enter Tryd.func37, Tryd.ntmps37
  go_wp2_with fail
  obtain ⟨W, hW⟩ : ∃ W, ((w.alloc (.cells #[.pointer (some ⟨bv, 0, none⟩)] 26)).alloc (.cells #[S c] 9)).alloc (.cells #[.slice none 0 0] 78) = W := ⟨_, rfl⟩
  have n1 := heap_alloc_new ((w.alloc (.cells #[.pointer (some ⟨bv, 0, none⟩)] 26)).alloc (.cells #[S c] 9)) (.cells #[.slice none 0 0] 78)
  have n2 := heap_alloc_new (w.alloc (.cells #[.pointer (some ⟨bv, 0, none⟩)] 26)) (.cells #[S c] 9)
  have n3 := heap_alloc_new w (.cells #[.pointer (some ⟨bv, 0, none⟩)] 26)
  simp only [World.size_alloc] at n1 n2 n3
  have HB : Hid (Below w.heap.size w W) := by rw [← hW]; exact (((Below.refl _ w).alloc (Nat.le_refl _) _).alloc (by simp) _).alloc (by simp; omega) _
  have hpv : W.heap[w.heap.size]? = some (.cells #[.pointer (some ⟨bv, 0, none⟩)] 26 (0, 0)) := by
    rw [← hW, Below.heap_alloc _ _ _ (by simp; omega), Below.heap_alloc _ _ _ (by simp)]; exact n3
  have hpc : W.heap[w.heap.size + 1]? = some (.cells #[S c] 9 (0, 0)) := by rw [← hW, Below.heap_alloc _ _ _ (by simp)]; exact n2
  have hpo : W.heap[w.heap.size + 2]? = some (.cells #[.slice none 0 0] 78 (0, 0)) := by rw [← hW]; exact n1
  have HO : Hid (OutAt F W bv (w.heap.size + 2) (.slice none 0 0) []) := ⟨hpo, ⟨[], rfl, World.ownsRow_nil _ _ _ _, by simp, fun k hk => (by cases hk)⟩, fun hf => by have := HF.out _ hf; omega⟩
  rw [hW]
  have HPV := Lib.hid hpv
  have HPC := Lib.hid hpc
  clear hW n1 n2 n3 hpv hpc hpo
  ((with_reducible refine Calls.mono (dirty_i F _ bv (w.heap.size + 1) (w.heap.size + 2) w.heap.size c (.slice none 0 0) [] HO.out (lt_below HF.out HB.out) HPC.out HPV.out 0 64 0 64 rfl rfl (by omega) hcl (by simp)) ?_); rintro e w1 ⟨rfl, s1, hO1, hst1⟩)
  obtain ⟨_, _, r0, _⟩ := HO.out.steps
  have HPV1 := Lib.hid (keep_type HO.out.box r0 hst1 HPV.out (by decide) (by decide))
  have HPC1 := Lib.hid (keep_type HO.out.box r0 hst1 HPC.out (by decide) (by decide))
  have HO1 := Lib.hid hO1
  obtain ⟨HB1a, HB1b⟩ := hst1.below (lo := w.heap.size) (fun k hk => by rcases hk with rfl | hk; omega; cases hk) HB.out.size
  have HB1 := Lib.hid (HB.out.trans HB1a)
  have HB1b := Lib.hid HB1b
  have hl1 := dirty_len c 0 64
  have kc : w1.cell? ⟨w.heap.size + 1, 0, none⟩ = some (S c) := by rw [blk_cell HPC1.out]; rfl
  clear hO1 hst1 r0 HB1a HO
  go_wp2_with fail
  ((with_reducible refine Calls.mono (dirty_i F _ bv (w.heap.size + 1) (w.heap.size + 2) w.heap.size c s1 _ HO1.out (lt_below HF.out HB1.out) HPC1.out HPV1.out (64 + n) c.length _ _ (by omega) rfl (by omega) hcl (by simp; omega)) ?_); rintro e w2 ⟨rfl, s2, hO2, hst2⟩)
  obtain ⟨HB2a, HB2b⟩ := hst2.below (lo := w.heap.size) HB1b.out HB1.out.size
  have HB2 := Lib.hid (HB1.out.trans HB2a)
  have HO2 := Lib.hid hO2
  obtain ⟨a2, c2, rfl⟩ := hO2.steps.shape
  have ko : w2.cell? ⟨w.heap.size + 2, 0, none⟩ = some (.slice a2 ([] ++ dirtyR c 0 64 ++ dirtyR c (64 + n) c.length).length c2) := by rw [blk_cell HO2.out.box]; rfl
  clear hO2 hst2 HB2a HB2b
  generalize ([] ++ dirtyR c 0 64 ++ dirtyR c (64 + n) c.length).length = len at *
  go_wp2_with fail
  go_ret
  exact ⟨_, rfl, HO2.out.steps, HB2.out⟩
end Go.Proofs.YtgdkdihedgiegaaDoor

namespace Go.Proofs.YtgdkdihedgiegaaDoor
open Go.RowKit

theorem run_zeros72 (w : World) (k : Nat) (h0 : 0 < k) (hk : k ≤ 1000) : ∃ cap w', (Builtin.append_ #[78, 3] 78 #[.slice none 0 0, .int .i64 k]).run Tryd.prog w = .ok (.slice (some ⟨w.heap.size, 0, none⟩) k cap) w' ∧ k ≤ cap ∧ w'.ownsRow 0 72 1 (.slice (some ⟨w.heap.size, 0, none⟩) 0 cap) 0 [] ∧ Below w.heap.size w w' := by
  obtain ⟨i, hi, hz, hsz, hby⟩ := info_parts i72
  have hr := Lib.run_append_grow_zeros (P := Tryd.prog) w 78 3 78 72 i .nilFunc .i64 .i64 Tryd.underlying78 Tryd.underlying3 hi hz none 0 0 [] (by rw [hsz]; exact run_firstCells_none _ _ _ _ _) k h0 (by omega) (by omega) (by omega) (by rw [hby]; omega) (by rw [hby]; exact growslice_fits (by omega) (by omega))
  simp only [Nat.zero_add] at hr
  have hge := grownCap_ge w k 0 72
  have hcm : grownCap w k 0 72 ≤ maxLen := grownCap_le_maxLen w k 0 72 (by unfold maxLen; omega)
  refine ⟨_, _, hr, hge, ⟨rfl, .inr ⟨w.heap.size, _, _, rfl, Nat.zero_le _, heap_alloc_new w.drew _, Nat.zero_le _, hcm, ?_, by simp⟩⟩, (Below.refl _ w).drew.alloc (Nat.le_refl _) _⟩
  simp only [Array.size_append, List.size_toArray, size_zeroCells, Value.cells, List.length_nil, List.length_singleton]
  omega
set_option maxHeartbeats 1000000 in
set_option maxRecDepth 100000 in
theorem grow_65 (w : World) (k : Nat) (h0 : 0 < k) (hk : k ≤ 1000) : Calls Tryd.prog 65 #[.slice none 0 0, .int .i64 k] w fun e w' => ∃ cap, e = .returned (.slice (some ⟨w.heap.size, 0, none⟩) 0 cap) ∧ w'.ownsRow 0 72 1 (.slice (some ⟨w.heap.size, 0, none⟩) 0 cap) 0 [] ∧ Below w.heap.size w w' := by
  obtain ⟨cap, w1, hr, hc, ho, hb⟩ := run_zeros72 w k h0 hk
  have HR := Lib.hid hr
  have HO := Lib.hid ho
  have HB := Lib.hid hb
  have hc2 : (k : Int) ≤ cap := by omega
  clear hr ho hb
  go_enter Tryd.func65, Tryd.ntmps65
  go_wp2_with (at_builtin; refine wpList_run rfl _ _ 78 3 78 rfl rfl (.slice none 0 0) (.int .i64 k) _ w1 rfl rfl HR.out ?_)
  go_ret
  exact ⟨cap, rfl, HO.out, HB.out⟩
set_option maxHeartbeats 4000000 in
set_option maxRecDepth 100000 in
theorem concat_48 (F : Nat → Prop) (w : World) (bv B : Nat) (v1 v2 : Value) (l1 l2 : List (Nat × Bs)) (h1 : StepsAt F w bv v1 l1) (h2 : StepsAt F w bv v2 l2) (hF : ∀ k, F k → k < w.heap.size) (hB : w.heap[B]? = some (.cells #[v1, v2] 78 (0, 0))) (hl1 : 0 < l1.length) (hl : l1.length + l2.length ≤ 1000) :
    Calls Tryd.prog 48 #[.slice (some ⟨B, 0, none⟩) 2 2] w fun e w' => ∃ v, e = .returned v ∧ StepsAt F w' bv v (l1 ++ l2) ∧ Below w.heap.size w w' := by
  have c0 : w.cell? ⟨B, 0, none⟩ = some v1 := by rw [blk_cell hB]; rfl
  have c1 : w.cell? ⟨B, 1, none⟩ = some v2 := by rw [blk_cell hB]; rfl
  have H1 := Lib.hid h1
  have H2 := Lib.hid h2
  obtain ⟨a1, p1, rfl⟩ := h1.shape
  obtain ⟨a2, p2, rfl⟩ := h2.shape
  have HB := Lib.hid hB
  obtain ⟨n1, hn1⟩ : ∃ n, n = l1.length := ⟨_, rfl⟩
  obtain ⟨n2, hn2⟩ : ∃ n, n = l2.length := ⟨_, rfl⟩
  rw [← hn1] at c0 hl1 hl
  rw [← hn2] at c1 hl
  obtain ⟨k, hk⟩ : ∃ k, k = n1 + n2 := ⟨_, rfl⟩
  have ek : (n1 : Int) + (n2 : Int) = k := by omega
  have HG := Lib.hid (grow_65 w k (by omega) (by omega))
  have HK := Lib.hid hk
  have HN1 := Lib.hid hn1
  have HN2 := Lib.hid hn2
  clear h1 h2 hB hn1 hn2 hk
  go_enter Tryd.func48, Tryd.ntmps48
  go_wp2_with fail
  refine wp_loop_rounds 3 ?_
  rw [rounds_succ]
  go_wp2_with fail
  rw [rounds_succ]
  go_wp2_with fail
  rw [rounds_succ]
  go_wp2_with fail
  ((with_reducible refine Calls.mono HG.out ?_); rintro e w1 ⟨cap, rfl, ho1, hb1⟩)
  have HO1 := Lib.hid ho1
  have HB1 := Lib.hid hb1
  have hBlt := blk_lt HB.out
  have d0 : w1.cell? ⟨B, 0, none⟩ = some (.slice a1 n1 p1) := by rw [hb1.cell (p := ⟨B, 0, none⟩) hBlt]; exact c0
  have d1 : w1.cell? ⟨B, 1, none⟩ = some (.slice a2 n2 p2) := by rw [hb1.cell (p := ⟨B, 1, none⟩) hBlt]; exact c1
  obtain ⟨qs1, q11, q12, q13, q14⟩ := H1.out
  obtain ⟨qs2, q21, q22, q23, q24⟩ := H2.out
  rw [← HN1.out] at q12
  rw [← HN2.out] at q22
  have q12 := row_far q12 (fun g hg => hb1.block g (row_lt q12 g hg))
  clear ho1 hb1 c0 c1
  obtain ⟨v2, w2, hr2, ho2, hon2⟩ := run_from 78 78 72 .nilFunc 1 8 Tryd.underlying78 i72 rfl (by decide) (by decide) w1 _ 0 [] HO1.out (.slice a1 n1 p1) n1 _ (From.row q12) (by rw [List.length_map, ← q12.1]; simp) (fun u hu => by obtain ⟨q, hq, rfl⟩ := List.mem_map.1 hu; exact (q13 q hq).1) (by omega)
  simp only [Nat.zero_add, List.nil_append] at ho2
  have hB2 : Below w.heap.size w w2 := below_onto HB1.out hon2 HB1.out.size (fun g hg => by injection hg with hg; exact Nat.le_of_eq hg)
  have HB2 := Lib.hid hB2
  have e0 : w2.cell? ⟨B, 1, none⟩ = some (.slice a2 n2 p2) := by rw [hB2.cell (p := ⟨B, 1, none⟩) hBlt, ← HB1.out.cell (p := ⟨B, 1, none⟩) hBlt]; exact d1
  have q22 := row_far q22 (fun g hg => hB2.block g (row_lt q22 g hg))
  have hlo2 : ∀ g, v2.ownBlock = some g → w.heap.size ≤ g := fun g hg => by
    rcases hon2.at_ with h | h
    · rw [h] at hg; injection hg with hg; exact Nat.le_of_eq hg
    · rw [h] at hg; injection hg with hg; have := HB1.out.size; omega
  obtain ⟨v3, w3, hr3, ho3, hon3⟩ := run_from 78 78 72 .nilFunc 1 8 Tryd.underlying78 i72 rfl (by decide) (by decide) w2 _ _ _ ho2 (.slice a2 n2 p2) n2 _ (From.row q22) (by rw [List.length_map, ← q22.1]; simp) (fun u hu => by obtain ⟨q, hq, rfl⟩ := List.mem_map.1 hu; exact (q23 q hq).1) (by omega)
  have HB3 := Lib.hid (below_onto hB2 hon3 hB2.size hlo2)
  have hlo3 : ∀ g, v3.ownBlock = some g → w.heap.size ≤ g := fun g hg => by
    rcases hon3.at_ with h | h
    · exact hlo2 g (h ▸ hg)
    · rw [h] at hg; injection hg with hg; have := hB2.size; omega
  have HL3 := Lib.hid hlo3
  have HO3 := Lib.hid ho3
  have HR2 := Lib.hid hr2
  have HR3 := Lib.hid hr3
  obtain ⟨x2, y2, hv2⟩ := row_shape ho2
  obtain ⟨x3, y3, hv3⟩ := row_shape ho3
  subst hv2 hv3
  have Q11 := Lib.hid q11
  have Q21 := Lib.hid q21
  have Q13 := Lib.hid q13
  have Q23 := Lib.hid q23
  clear ho2 hon2 hB2 hlo2 ho3 hon3 hlo3 hr2 hr3 q11 q12 q13 q14 q21 q22 q23 q24
  go_wp2_with fail
  refine wp_loop_rounds 3 ?_
  rw [rounds_succ]
  go_wp2_with (at_builtin; refine wpList_run rfl _ _ 78 78 78 rfl rfl _ _ _ w2 rfl rfl HR2.out ?_)
  rw [rounds_succ]
  go_wp2_with (at_builtin; refine wpList_run rfl _ _ 78 78 78 rfl rfl _ _ _ w3 rfl rfl HR3.out ?_)
  rw [rounds_succ]
  go_wp2_with fail
  go_ret
  refine ⟨_, rfl, ⟨qs1 ++ qs2, by rw [List.map_append, Q11.out, Q21.out], ?_, ?_, fun j hj hf => ?_⟩, HB3.out⟩
  · rw [List.length_append, ← HN1.out, ← HN2.out, List.map_append]
    exact HO3.out
  · intro q hq
    rcases List.mem_append.1 hq with hq | hq
    · exact ⟨(Q13.out q hq).1, (Q13.out q hq).2.below HB3.out⟩
    · exact ⟨(Q23.out q hq).1, (Q23.out q hq).2.below HB3.out⟩
  · have h5 := HL3.out j hj
    have h6 := hF j hf
    omega
end Go.Proofs.YtgdkdihedgiegaaDoor
