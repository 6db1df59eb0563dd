/-
  The walk of the reference's After, for an Append.
-/
import Derived.Test.YtgdkdihedgiegaaDoorV17
namespace Go.Proofs.YtgdkdihedgiegaaDoor
open Go.RowKit

theorem lit0 (W : World) (lo : Nat) (h : lo ≤ W.heap.size) : ∃ W' g, W.alloc (.cells #[] 9) = W' ∧ W.heap.size = g ∧ Below W.heap.size W W' ∧ StrRow W' lo (.slice (some ⟨g, 0, none⟩) 0 0) [] :=
  ⟨_, _, rfl, rfl, alloc_below W _, World.ownsRow_lit W #[] 0 h (by unfold maxLen; omega) rfl⟩
theorem lit1 (W : World) (r : Bs) (lo : Nat) (_h : lo ≤ W.heap.size) : ∃ W' g, W.alloc (.cells #[S r] 9) = W' ∧ W.heap.size = g ∧ Below W.heap.size W W' ∧ From W' (.slice (some ⟨g, 0, none⟩) 1 1) 1 [S r] ∧ g < W'.heap.size :=
  ⟨_, _, rfl, rfl, alloc_below W _, from_new W (S r) 9, by simp⟩
/-- Three blocks are made. -/
theorem boxes3 (w : World) (x y z : Array Value) (t1 t2 t3 : TypeId) : ∃ W, (((w.alloc (.cells x t1)).alloc (.cells y t2)).alloc (.cells z t3)).drew = W ∧ Below w.heap.size w W ∧ W.heap.size = w.heap.size + 3 ∧
    (∀ i v, x[i]? = some v → W.cell? ⟨w.heap.size, i, none⟩ = some v) ∧ (∀ i v, y[i]? = some v → W.cell? ⟨w.heap.size + 1, i, none⟩ = some v) ∧ (∀ i v, z[i]? = some v → W.cell? ⟨w.heap.size + 2, i, none⟩ = some v) ∧
    (∀ i, W.frozen? ⟨w.heap.size + 1, i, none⟩ = false) ∧ (∀ i, W.frozen? ⟨w.heap.size + 2, i, none⟩ = false) := by
  have e1 : (w.alloc (.cells x t1)).heap.size = w.heap.size + 1 := by simp
  have e2 : ((w.alloc (.cells x t1)).alloc (.cells y t2)).heap.size = w.heap.size + 2 := by simp
  have hb0 := alloc_below w (.cells x t1)
  have hb1 := btr hb0 (alloc_below _ (.cells y t2)) hb0.size
  have hb2 := btr hb1 (alloc_below _ (.cells z t3)) hb1.size
  have h0 : ((w.alloc (.cells x t1)).alloc (.cells y t2)).heap[w.heap.size + 1]? = some (.cells y t2) := by
    have := heap_alloc_new (w.alloc (.cells x t1)) (.cells y t2)
    rwa [e1] at this
  have h1 : (((w.alloc (.cells x t1)).alloc (.cells y t2)).alloc (.cells z t3)).heap[w.heap.size + 1]? = some (.cells y t2) := by
    rw [Below.heap_alloc _ _ _ (by rw [e2]; omega)]; exact h0
  have h2 : (((w.alloc (.cells x t1)).alloc (.cells y t2)).alloc (.cells z t3)).heap[w.heap.size + 2]? = some (.cells z t3) := by
    have := heap_alloc_new ((w.alloc (.cells x t1)).alloc (.cells y t2)) (.cells z t3)
    rwa [e2] at this
  have h3 : (((w.alloc (.cells x t1)).alloc (.cells y t2)).alloc (.cells z t3)).heap[w.heap.size]? = some (.cells x t1) := by
    rw [Below.heap_alloc _ _ _ (by rw [e2]; omega), Below.heap_alloc _ _ _ (by rw [e1]; omega)]
    exact heap_alloc_new w (.cells x t1)
  refine ⟨_, rfl, hb2.drew, by simp, fun i v hv => ?_, fun i v hv => ?_, fun i v hv => ?_, fun i => ?_, fun i => ?_⟩
  · exact (Lib.cell_of_heap (w := (((w.alloc (.cells x t1)).alloc (.cells y t2)).alloc (.cells z t3)).drew) h3 i).trans hv
  · exact (Lib.cell_of_heap (w := (((w.alloc (.cells x t1)).alloc (.cells y t2)).alloc (.cells z t3)).drew) h1 i).trans hv
  · exact (Lib.cell_of_heap (w := (((w.alloc (.cells x t1)).alloc (.cells y t2)).alloc (.cells z t3)).drew) h2 i).trans hv
  · exact Lib.frozen_of_heap (w := (((w.alloc (.cells x t1)).alloc (.cells y t2)).alloc (.cells z t3)).drew) h1 i
  · exact Lib.frozen_of_heap (w := (((w.alloc (.cells x t1)).alloc (.cells y t2)).alloc (.cells z t3)).drew) h2 i
theorem store2 (W : World) (b : Nat) (v0 v1 u0 u1 : Value) (z0 : W.cell? ⟨b, 0, none⟩ = some u0) (z1 : W.cell? ⟨b, 1, none⟩ = some u1) :
    ∃ W', (W.setCell ⟨b, 0, none⟩ v0).setCell ⟨b, 1, none⟩ v1 = W' ∧ W'.cell? ⟨b, 0, none⟩ = some v0 ∧ W'.cell? ⟨b, 1, none⟩ = some v1 ∧ Only b W W' := by
  refine ⟨_, rfl, ?_, ?_, ((Only.refl b W).setCell 0 v0).setCell 1 v1⟩ <;> go_simp
/-- An append in a drawn region. -/
theorem oper_append {a : Act} {w : World} {o : Oper} {K : Act → World → Prop} {Q : Exit → Act → World → Prop} (_hgd : o.guard = none) (sl x : Operand) (t t' ty : TypeId) (ho : o.op = .call { callee := .builtin .append, args := #[sl, x], argTypes := #[t, t'] }) (hty : o.type = ty)
    (v y v' : Value) (w' : World) (hs : a.eval sl = v) (hx : a.eval x = y) (hr : (Builtin.append_ #[t, t'] ty #[v, y]).run Tryd.prog w = .ok v' w')
    (h : K (a.put o.dst v') w') : o.wp Tryd.prog a w K Q := by
  unfold Oper.wp execOp
  simp only [ho, hty, resolve, invoke, builtin, Sem.run_bind, Sem.run_pure, Result.andThen_ok, List.map_toArray, List.map_cons, List.map_nil, hs, hx, hr]
  exact h
theorem tail_from {w : World} {v : Value} {tl : List Bs} (h : TailAt w v tl) : From w v tl.length (tl.map S) := by
  obtain ⟨a, cap, rfl, h⟩ := h
  refine ⟨a, cap, rfl, fun h0 => ?_⟩
  obtain ⟨b, off, rfl, _, _, h3⟩ := h (fun e => h0 (by simpa using congrArg List.length e))
  exact ⟨_, rfl, fun j u hu => by rw [add_lit]; exact h3 j u hu⟩
set_option maxHeartbeats 4000000 in
set_option maxRecDepth 100000 in
theorem after_app (w : World) (sn : Bs) (a1 : Option Addr) (c1 : Nat) (tl : List Bs) (ht : TailAt w (.slice a1 tl.length c1) tl) (hl : tl.length ≤ 1000000) (k : Nat) (h1 : k ≤ 2) (text : Bs) (v2 : Value) :
    Calls Tryd.prog 17 #[.agg #[S sn, .slice a1 tl.length c1], .agg #[.int .i64 k, S text, v2]] w fun e w' => (∃ a2 c2, e = .returned (.agg #[S sn, .slice a2 (tl ++ [text]).length c2]) ∧ SliceAt w.heap.size w'.heap.size w' (.slice a2 (tl ++ [text]).length c2) (tl ++ [text]).length ((tl ++ [text]).map S)) ∧ Below w.heap.size w w' := by
  go_enter Tryd.func17, Tryd.ntmps17
  go_wp2_with fail
  obtain ⟨W1, hW1, hb0, hsz, x0, x1, x2, _, fr2⟩ := boxes3 w #[S sn, .slice a1 tl.length c1] #[.int .i64 k, S text, v2] #[S [], .slice none 0 0] 32 34 32
  have HB00 := Lib.hid hb0
  have c0 : W1.cell? ⟨w.heap.size, 0, none⟩ = some (S sn) ∧ W1.cell? ⟨w.heap.size, 1, none⟩ = some (.slice a1 tl.length c1) ∧ W1.cell? ⟨w.heap.size + 1, 1, none⟩ = some (S text) ∧ W1.cell? ⟨w.heap.size + 2, 0, none⟩ = some (S []) ∧ W1.cell? ⟨w.heap.size + 2, 1, none⟩ = some (.slice none 0 0) ∧ W1.frozen? ⟨w.heap.size + 2, 0, none⟩ = false ∧ W1.frozen? ⟨w.heap.size + 2, 1, none⟩ = false :=
    ⟨x0 0 _ rfl, x0 1 _ rfl, x1 1 _ rfl, x2 0 _ rfl, x2 1 _ rfl, fr2 0, fr2 1⟩
  clear x0 x1 x2 fr2
  have HB0 : Hid (Below (w.heap.size + 3) W1 W1) := Below.refl _ _
  have HS : Hid (∀ W, Below (w.heap.size + 3) W1 W → W.cell? ⟨w.heap.size, 0, none⟩ = some (S sn) ∧ W.cell? ⟨w.heap.size, 1, none⟩ = some (.slice a1 tl.length c1) ∧ W.cell? ⟨w.heap.size + 1, 1, none⟩ = some (S text)) := fun W hb =>
    ⟨by rw [hb.cell (p := ⟨w.heap.size, 0, none⟩) (by show w.heap.size < _; omega)]; exact c0.1, by rw [hb.cell (p := ⟨w.heap.size, 1, none⟩) (by show w.heap.size < _; omega)]; exact c0.2.1, by rw [hb.cell (p := ⟨w.heap.size + 1, 1, none⟩) (by show w.heap.size + 1 < _; omega)]; exact c0.2.2.1⟩
  have HZ : Hid (∀ W, Below (w.heap.size + 3) W1 W → W.cell? ⟨w.heap.size + 2, 0, none⟩ = some (S []) ∧ W.cell? ⟨w.heap.size + 2, 1, none⟩ = some (.slice none 0 0) ∧ W.frozen? ⟨w.heap.size + 2, 0, none⟩ = false ∧ W.frozen? ⟨w.heap.size + 2, 1, none⟩ = false) := fun W hb =>
    ⟨by rw [hb.cell (p := ⟨w.heap.size + 2, 0, none⟩) (by show w.heap.size + 2 < _; omega)]; exact c0.2.2.2.1, by rw [hb.cell (p := ⟨w.heap.size + 2, 1, none⟩) (by show w.heap.size + 2 < _; omega)]; exact c0.2.2.2.2.1, by rw [hb.frozen (p := ⟨w.heap.size + 2, 0, none⟩) (by show w.heap.size + 2 < _; omega)]; exact c0.2.2.2.2.2.1, by rw [hb.frozen (p := ⟨w.heap.size + 2, 1, none⟩) (by show w.heap.size + 2 < _; omega)]; exact c0.2.2.2.2.2.2⟩
  have HT : Hid (∀ W, Below (w.heap.size + 3) W1 W → From W (.slice a1 tl.length c1) tl.length (tl.map S)) := fun W hb => tail_from (ht.below (btr HB00.out hb (by omega)))
  have hs0 := HS.out W1 HB0.out
  have HSZ : Hid (w.heap.size + 3 ≤ W1.heap.size) := by show _ ≤ _; omega
  refine wp_region_T (fun W => W.cell? ⟨w.heap.size, 0, none⟩ = some (S sn) ∧ W.cell? ⟨w.heap.size, 1, none⟩ = some (.slice a1 tl.length c1) ∧ W.cell? ⟨w.heap.size + 1, 1, none⟩ = some (S text)) 11 (by kernel_rfl) ?_
  rw [hW1]
  clear hW1 hb0 c0 ht hsz
  refine anyT_take (i := 0) (v := ?_) rfl (by kernel_rfl) (by kernel_rfl) (by kernel_rfl) (by kernel_rfl) (by decide) (fun _ _ _ h => h) hs0 (Or.inl ⟨by rfl, ?_⟩) ?_
  rotate_left
  · intro w' h; obtain ⟨h0, h1, h2⟩ := h; go_simp; rfl
  (try go_simp)
  refine anyT_take (i := 1) (v := ?_) rfl (by kernel_rfl) (by kernel_rfl) (by kernel_rfl) (by kernel_rfl) (by decide) (fun _ _ _ h => h) hs0 (Or.inl ⟨by rfl, ?_⟩) ?_
  rotate_left
  · intro w' h; obtain ⟨h0, h1, h2⟩ := h; go_simp; rfl
  (try go_simp)
  refine anyT_take (i := 3) (v := ?_) rfl (by kernel_rfl) (by kernel_rfl) (by kernel_rfl) (by kernel_rfl) (by decide) (fun _ _ _ h => h) hs0 (Or.inl ⟨by rfl, ?_⟩) ?_
  rotate_left
  · intro w' h; obtain ⟨h0, h1, h2⟩ := h; go_simp; rfl
  (try go_simp)
  refine anyT_take (i := 4) (v := ?_) rfl (by kernel_rfl) (by kernel_rfl) (by kernel_rfl) (by kernel_rfl) (by decide) (fun _ _ _ h => h) hs0 (Or.inl ⟨by rfl, ?_⟩) ?_
  rotate_left
  · intro w' h; obtain ⟨h0, h1, h2⟩ := h; go_simp; rfl
  (try go_simp)
  refine anyT_take (i := 6) (v := ?_) rfl (by kernel_rfl) (by kernel_rfl) (by kernel_rfl) (by kernel_rfl) (by decide) (fun _ _ _ h => h) hs0 (Or.inl ⟨by rfl, ?_⟩) ?_
  rotate_left
  · intro w' h; obtain ⟨h0, h1, h2⟩ := h; go_simp; rfl
  (try go_simp)
  refine anyT_take (i := 7) (v := ?_) rfl (by kernel_rfl) (by kernel_rfl) (by kernel_rfl) (by kernel_rfl) (by decide) (fun _ _ _ h => h) hs0 (Or.inl ⟨by rfl, ?_⟩) ?_
  rotate_left
  · intro w' h; obtain ⟨h0, h1, h2⟩ := h; go_simp; rfl
  (try go_simp)
  refine anyT_two (i := 2) (j := 8) rfl rfl (by kernel_rfl) rfl rfl (fun K hK => ?_) (fun K hK => ?_)
  · skip
    go_simp
    obtain ⟨v1, g1, ha1, hg1, hb1, hr1⟩ := lit0 W1 (w.heap.size + 3) (Nat.le_trans HSZ.out HB0.out.size)
    rw [ha1, hg1]
    have HR1 := Lib.hid hr1
    have HN1 : Hid (g1 = W1.heap.size) := hg1.symm
    have HB1 := Lib.hid (btr HB0.out hb1 (Nat.le_trans HSZ.out HB0.out.size))
    clear ha1 hg1 hb1 hr1
    refine hK _ _ (fun _ => HS.out _ HB1.out) ?_
    clear hK K
    (try go_simp)
    refine anyT_two (i := 5) (j := 8) rfl rfl (by kernel_rfl) rfl rfl (fun K hK => ?_) (fun K hK => ?_)
    · skip
      obtain ⟨x2, v2, hr2, hs2, ho2⟩ := run_strs v1 (w.heap.size + 3) (.slice (some ⟨g1, 0, none⟩) 0 0) [] tl HR1.out (.slice a1 tl.length c1) (HT.out _ HB1.out) (Nat.le_trans HSZ.out HB1.out.size) (by simp; omega)
      obtain ⟨xa2, xc2, rfl⟩ := row_shape hs2
      have HB2 := Lib.hid (below_onto HB1.out ho2 (Nat.le_trans HSZ.out HB1.out.size) (fun g hg => (own_base HR1.out g hg).1))
      have HR2 : Hid (StrRow v2 (w.heap.size + 3) (.slice xa2 tl.length xc2) tl) := hs2
      refine oper_append rfl _ _ 27 27 27 rfl rfl (.slice (some ⟨g1, 0, none⟩) 0 0) (.slice a1 tl.length c1) _ _ (by go_simp) (by go_simp) hr2 ?_
      clear hr2 hs2 ho2
      refine hK _ _ (fun _ => HS.out _ HB2.out) ?_
      clear hK K
      (try go_simp)
      refine anyT_do (i := 8) rfl (by kernel_rfl) rfl (fun K hK => ?_)
      go_simp
      obtain ⟨v3, g3, ha3, hg3, hb3, hf3, hl3⟩ := lit1 v2 text (w.heap.size + 3) (Nat.le_trans HSZ.out HB2.out.size)
      rw [ha3, hg3]
      have HF3 := Lib.hid hf3
      have HL3 := Lib.hid hl3
      have HR3 := Lib.hid (row_far HR2.out (fun g hg => hb3.block g (row_lt HR2.out g hg)))
      have HA3 : Hid (∀ j, ((.slice xa2 tl.length xc2) : Value).ownBlock = some j → j ≠ g3) := fun j hj e => by have := row_lt HR2.out j hj; omega
      have HB3 := Lib.hid (btr HB2.out hb3 (Nat.le_trans HSZ.out HB2.out.size))
      clear ha3 hg3 hb3 hf3 hl3
      refine hK _ _ (fun _ => HS.out _ HB3.out) ?_
      clear hK K
      (try go_simp)
      refine anyT_do (i := 9) rfl (by kernel_rfl) rfl (fun K hK => ?_)
      obtain ⟨x4, v4, hr4, hs4, ho4⟩ := run_strs v3 (w.heap.size + 3) (.slice xa2 tl.length xc2) tl [text] HR3.out (.slice (some ⟨g3, 0, none⟩) 1 1) HF3.out (Nat.le_trans HSZ.out HB3.out.size) (by simp; omega)
      obtain ⟨xa4, xc4, rfl⟩ := row_shape hs4
      have HB4 := Lib.hid (below_onto HB3.out ho4 (Nat.le_trans HSZ.out HB3.out.size) (fun g hg => (own_base HR3.out g hg).1))
      have HR4 := Lib.hid hs4
      refine oper_append rfl _ _ 27 27 27 rfl rfl (.slice xa2 tl.length xc2) (.slice (some ⟨g3, 0, none⟩) 1 1) _ _ (by go_simp) (by go_simp) hr4 ?_
      clear hr4 hs4 ho4
      refine hK _ _ (fun _ => HS.out _ HB4.out) ?_
      clear hK K
      (try go_simp)
      refine anyT_do (i := 10) rfl (by kernel_rfl) rfl (fun K hK => ?_)
      go_simp
      refine hK _ _ (fun _ => HS.out _ HB4.out) ?_
      clear hK K
      (try go_simp)
      refine anyT_do (i := 11) rfl (by kernel_rfl) rfl (fun K hK => ?_)
      obtain ⟨z0, z1, f0, f1⟩ := HZ.out _ HB4.out
      go_simp
      refine hK _ _ (fun h => absurd rfl h) ?_
      clear hK K
      (try go_simp)
      refine anyT_done (by kernel_rfl) ?_ _
      clear HS HZ HT hs0
      go_wp2_with fail
      obtain ⟨W', hW', e0, e1, ho⟩ := store2 v4 (w.heap.size + 1 + 1) (S sn) (.slice xa4 (tl.length + 1) xc4) _ _ z0 z1
      rw [hW']
      have hsl := (row_slice HR4.out).kept (ho.kept (.inl (show w.heap.size + 1 + 1 < w.heap.size + 3 by omega)))
      have hbl := (btr HB00.out HB4.out (by omega)).trans (ho.below (show w.heap.size ≤ w.heap.size + 1 + 1 by omega))
      have hsz := ho.size
      clear hW' ho z0 z1 f0 f1
      refine bodyPost_ret (v := .agg #[S sn, .slice xa4 (tl.length + 1) xc4]) (by rw [results_cell rfl]; go_simp) rfl ?_
      have hl2 : tl.length + 1 = (tl ++ [text]).length := by simp
      exact ⟨⟨xa4, xc4, (by rw [← hl2]), (hsl.mono (Nat.le_add_right _ 3) (Nat.le_of_eq hsz.symm))⟩, hbl⟩
    · skip
      go_simp
      obtain ⟨v7, g7, ha7, hg7, hb7, hf7, hl7⟩ := lit1 v1 text (w.heap.size + 3) (Nat.le_trans HSZ.out HB1.out.size)
      rw [ha7, hg7]
      have HF7 := Lib.hid hf7
      have HL7 := Lib.hid hl7
      have HR7 := Lib.hid (row_far HR1.out (fun g hg => hb7.block g (row_lt HR1.out g hg)))
      have HA7 : Hid (∀ j, ((.slice (some ⟨g1, 0, none⟩) 0 0) : Value).ownBlock = some j → j ≠ g7) := fun j hj e => by have := row_lt HR1.out j hj; omega
      have HB7 := Lib.hid (btr HB1.out hb7 (Nat.le_trans HSZ.out HB1.out.size))
      clear ha7 hg7 hb7 hf7 hl7
      refine hK _ _ (fun _ => HS.out _ HB7.out) ?_
      clear hK K
      (try go_simp)
      refine anyT_do (i := 5) rfl (by kernel_rfl) rfl (fun K hK => ?_)
      obtain ⟨x8, v8, hr8, hs8, ho8⟩ := run_strs v7 (w.heap.size + 3) (.slice (some ⟨g1, 0, none⟩) 0 0) [] tl HR7.out (.slice a1 tl.length c1) (HT.out _ HB7.out) (Nat.le_trans HSZ.out HB7.out.size) (by simp; omega)
      obtain ⟨xa8, xc8, rfl⟩ := row_shape hs8
      have HB8 := Lib.hid (below_onto HB7.out ho8 (Nat.le_trans HSZ.out HB7.out.size) (fun g hg => (own_base HR7.out g hg).1))
      have HR8 : Hid (StrRow v8 (w.heap.size + 3) (.slice xa8 tl.length xc8) tl) := hs8
      have HF8 : Hid (From v8 (.slice (some ⟨g7, 0, none⟩) 1 1) 1 [S text]) := (HF7.out.onto (by simp) ho8 (fun j hj hn => by injection hj with hj; exact HA7.out _ hn hj.symm)).1
      refine oper_append rfl _ _ 27 27 27 rfl rfl (.slice (some ⟨g1, 0, none⟩) 0 0) (.slice a1 tl.length c1) _ _ (by go_simp) (by go_simp) hr8 ?_
      clear hr8 hs8 ho8
      refine hK _ _ (fun _ => HS.out _ HB8.out) ?_
      clear hK K
      (try go_simp)
      refine anyT_do (i := 9) rfl (by kernel_rfl) rfl (fun K hK => ?_)
      obtain ⟨x9, v9, hr9, hs9, ho9⟩ := run_strs v8 (w.heap.size + 3) (.slice xa8 tl.length xc8) tl [text] HR8.out (.slice (some ⟨g7, 0, none⟩) 1 1) HF8.out (Nat.le_trans HSZ.out HB8.out.size) (by simp; omega)
      obtain ⟨xa9, xc9, rfl⟩ := row_shape hs9
      have HB9 := Lib.hid (below_onto HB8.out ho9 (Nat.le_trans HSZ.out HB8.out.size) (fun g hg => (own_base HR8.out g hg).1))
      have HR9 := Lib.hid hs9
      refine oper_append rfl _ _ 27 27 27 rfl rfl (.slice xa8 tl.length xc8) (.slice (some ⟨g7, 0, none⟩) 1 1) _ _ (by go_simp) (by go_simp) hr9 ?_
      clear hr9 hs9 ho9
      refine hK _ _ (fun _ => HS.out _ HB9.out) ?_
      clear hK K
      (try go_simp)
      refine anyT_do (i := 10) rfl (by kernel_rfl) rfl (fun K hK => ?_)
      go_simp
      refine hK _ _ (fun _ => HS.out _ HB9.out) ?_
      clear hK K
      (try go_simp)
      refine anyT_do (i := 11) rfl (by kernel_rfl) rfl (fun K hK => ?_)
      obtain ⟨z0, z1, f0, f1⟩ := HZ.out _ HB9.out
      go_simp
      refine hK _ _ (fun h => absurd rfl h) ?_
      clear hK K
      (try go_simp)
      refine anyT_done (by kernel_rfl) ?_ _
      clear HS HZ HT hs0
      go_wp2_with fail
      obtain ⟨W', hW', e0, e1, ho⟩ := store2 v9 (w.heap.size + 1 + 1) (S sn) (.slice xa9 (tl.length + 1) xc9) _ _ z0 z1
      rw [hW']
      have hsl := (row_slice HR9.out).kept (ho.kept (.inl (show w.heap.size + 1 + 1 < w.heap.size + 3 by omega)))
      have hbl := (btr HB00.out HB9.out (by omega)).trans (ho.below (show w.heap.size ≤ w.heap.size + 1 + 1 by omega))
      have hsz := ho.size
      clear hW' ho z0 z1 f0 f1
      refine bodyPost_ret (v := .agg #[S sn, .slice xa9 (tl.length + 1) xc9]) (by rw [results_cell rfl]; go_simp) rfl ?_
      have hl2 : tl.length + 1 = (tl ++ [text]).length := by simp
      exact ⟨⟨xa9, xc9, (by rw [← hl2]), (hsl.mono (Nat.le_add_right _ 3) (Nat.le_of_eq hsz.symm))⟩, hbl⟩
  · skip
    go_simp
    obtain ⟨v12, g12, ha12, hg12, hb12, hf12, hl12⟩ := lit1 W1 text (w.heap.size + 3) (Nat.le_trans HSZ.out HB0.out.size)
    rw [ha12, hg12]
    have HF12 := Lib.hid hf12
    have HL12 := Lib.hid hl12
    have HB12 := Lib.hid (btr HB0.out hb12 (Nat.le_trans HSZ.out HB0.out.size))
    clear ha12 hg12 hb12 hf12 hl12
    refine hK _ _ (fun _ => HS.out _ HB12.out) ?_
    clear hK K
    (try go_simp)
    refine anyT_do (i := 2) rfl (by kernel_rfl) rfl (fun K hK => ?_)
    go_simp
    obtain ⟨v13, g13, ha13, hg13, hb13, hr13⟩ := lit0 v12 (w.heap.size + 3) (Nat.le_trans HSZ.out HB12.out.size)
    rw [ha13, hg13]
    have HR13 := Lib.hid hr13
    have HF13 := Lib.hid (HF12.out.keep (fun p x hx => by rw [hb13.cell (cell_lt hx)]; exact hx))
    have HA13 : Hid (∀ j, (.slice (some ⟨g13, 0, none⟩) 0 0 : Value).ownBlock = some j → j ≠ g12) := fun j hj e => by have hj : g13 = j := (by simpa [Value.ownBlock] using hj); have := HL12.out; omega
    have HN13 : Hid (g13 = v12.heap.size) := hg13.symm
    have HB13 := Lib.hid (btr HB12.out hb13 (Nat.le_trans HSZ.out HB12.out.size))
    clear ha13 hg13 hb13 hr13
    refine hK _ _ (fun _ => HS.out _ HB13.out) ?_
    clear hK K
    (try go_simp)
    refine anyT_do (i := 5) rfl (by kernel_rfl) rfl (fun K hK => ?_)
    obtain ⟨x14, v14, hr14, hs14, ho14⟩ := run_strs v13 (w.heap.size + 3) (.slice (some ⟨g13, 0, none⟩) 0 0) [] tl HR13.out (.slice a1 tl.length c1) (HT.out _ HB13.out) (Nat.le_trans HSZ.out HB13.out.size) (by simp; omega)
    obtain ⟨xa14, xc14, rfl⟩ := row_shape hs14
    have HB14 := Lib.hid (below_onto HB13.out ho14 (Nat.le_trans HSZ.out HB13.out.size) (fun g hg => (own_base HR13.out g hg).1))
    have HR14 : Hid (StrRow v14 (w.heap.size + 3) (.slice xa14 tl.length xc14) tl) := hs14
    have HF14 : Hid (From v14 (.slice (some ⟨g12, 0, none⟩) 1 1) 1 [S text]) := (HF13.out.onto (by simp) ho14 (fun j hj hn => by injection hj with hj; exact HA13.out _ hn hj.symm)).1
    refine oper_append rfl _ _ 27 27 27 rfl rfl (.slice (some ⟨g13, 0, none⟩) 0 0) (.slice a1 tl.length c1) _ _ (by go_simp) (by go_simp) hr14 ?_
    clear hr14 hs14 ho14
    refine hK _ _ (fun _ => HS.out _ HB14.out) ?_
    clear hK K
    (try go_simp)
    refine anyT_do (i := 9) rfl (by kernel_rfl) rfl (fun K hK => ?_)
    obtain ⟨x15, v15, hr15, hs15, ho15⟩ := run_strs v14 (w.heap.size + 3) (.slice xa14 tl.length xc14) tl [text] HR14.out (.slice (some ⟨g12, 0, none⟩) 1 1) HF14.out (Nat.le_trans HSZ.out HB14.out.size) (by simp; omega)
    obtain ⟨xa15, xc15, rfl⟩ := row_shape hs15
    have HB15 := Lib.hid (below_onto HB14.out ho15 (Nat.le_trans HSZ.out HB14.out.size) (fun g hg => (own_base HR14.out g hg).1))
    have HR15 := Lib.hid hs15
    refine oper_append rfl _ _ 27 27 27 rfl rfl (.slice xa14 tl.length xc14) (.slice (some ⟨g12, 0, none⟩) 1 1) _ _ (by go_simp) (by go_simp) hr15 ?_
    clear hr15 hs15 ho15
    refine hK _ _ (fun _ => HS.out _ HB15.out) ?_
    clear hK K
    (try go_simp)
    refine anyT_do (i := 10) rfl (by kernel_rfl) rfl (fun K hK => ?_)
    go_simp
    refine hK _ _ (fun _ => HS.out _ HB15.out) ?_
    clear hK K
    (try go_simp)
    refine anyT_do (i := 11) rfl (by kernel_rfl) rfl (fun K hK => ?_)
    obtain ⟨z0, z1, f0, f1⟩ := HZ.out _ HB15.out
    go_simp
    refine hK _ _ (fun h => absurd rfl h) ?_
    clear hK K
    (try go_simp)
    refine anyT_done (by kernel_rfl) ?_ _
    clear HS HZ HT hs0
    go_wp2_with fail
    obtain ⟨W', hW', e0, e1, ho⟩ := store2 v15 (w.heap.size + 1 + 1) (S sn) (.slice xa15 (tl.length + 1) xc15) _ _ z0 z1
    rw [hW']
    have hsl := (row_slice HR15.out).kept (ho.kept (.inl (show w.heap.size + 1 + 1 < w.heap.size + 3 by omega)))
    have hbl := (btr HB00.out HB15.out (by omega)).trans (ho.below (show w.heap.size ≤ w.heap.size + 1 + 1 by omega))
    have hsz := ho.size
    clear hW' ho z0 z1 f0 f1
    refine bodyPost_ret (v := .agg #[S sn, .slice xa15 (tl.length + 1) xc15]) (by rw [results_cell rfl]; go_simp) rfl ?_
    have hl2 : tl.length + 1 = (tl ++ [text]).length := by simp
    exact ⟨⟨xa15, xc15, (by rw [← hl2]), (hsl.mono (Nat.le_add_right _ 3) (Nat.le_of_eq hsz.symm))⟩, hbl⟩
end Go.Proofs.YtgdkdihedgiegaaDoor

