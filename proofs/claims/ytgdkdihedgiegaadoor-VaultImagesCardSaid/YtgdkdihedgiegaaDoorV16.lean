/-
  The walk of the law's is.
-/
import Derived.Test.YtgdkdihedgiegaaDoorV14
namespace Go.Proofs.YtgdkdihedgiegaaDoor
open Go.RowKit

/-- One operation alone may come up; its guard holds. -/
theorem anyT_doG {P : Program} {md : Region.Mode} {ops : Array Oper} {Q : Exit → Act → World → Prop} {S : World → Prop} {z i : Nat} {o : Oper} {n : Nat} {listed : Array Bool} {a : Act} {w : World} (hi : ops[i]? = some o) (hr : Region.ready md ops listed = [i]) (hg : Region.wanted o (yielded ops a.tmps) = true)
    (h : ∀ K : Act → World → Prop, (∀ a' w', (i ≠ z → S w') → anyT P md ops Q S z n (listed.setIfInBounds i true) a' w' → K a' w') → o.wp P a w K Q) : anyT P md ops Q S z (n + 1) listed a w := by
  refine ⟨fun h0 => absurd h0 (by rw [hr]; simp), fun j hj => ?_⟩
  rw [hr] at hj
  obtain rfl : j = i := by simpa using hj
  unfold wpOp
  rw [hi]
  simp only [hg, if_true]
  exact .inl (h _ fun a' w' h1 h2 => ⟨h1, h2⟩)
set_option maxHeartbeats 4000000 in
set_option maxRecDepth 100000 in
theorem is_15 (F : Nat → Prop) (w : World) (bv b : Nat) (en : Int) (sn : Bs) (tl : List Bs) (c : Bs) (l : Int) (h : VD F w bv b en tl.length false (onD c l)) (hc : CleanC c sn tl) (hcl : c.length ≤ 20000000) (hil : (imageR sn tl).length ≤ 10000000)
    (v1 v2 : Value) (h1 : TailAt w v1 tl) (h2 : TailAt w v2 tl) :
    Calls Tryd.prog 15 #[.pointer (some ⟨b, 0, none⟩), .pointer (some ⟨bv, 0, none⟩), S sn, v1, .int .i64 0, .agg #[S sn, v2]] w fun e w' => e = .returned (.bool true) ∧ Below w.heap.size w w' := by
  have htl : tl.length ≤ 10000000 := by have := frames_len tl; unfold imageR at hil; simp only [List.length_append] at hil; omega
  have HSA := Lib.hid (fun (W : World) (hb : Below w.heap.size w W) => same_29 W sn tl v1 v2 (h1.below hb) (h2.below hb) (by omega))
  have HMA : Hid (∀ W : World, Below w.heap.size w W → Calls Tryd.prog 20 #[.pointer (some ⟨bv, 0, none⟩)] W fun e' w' => e' = .returned (.int .i64 tl.length) ∧ Below W.heap.size W w') := fun W hb => (many_20 W bv b _ _ _ (h.below hb).vault).mono (by rintro e w' ⟨rfl, rfl⟩; exact ⟨rfl, Below.refl _ _⟩)
  obtain ⟨T, hT⟩ : ∃ T, T = trimR (cleanR sn tl) := ⟨_, rfl⟩
  have HCO : Hid (∀ W : World, Below w.heap.size w W → Calls Tryd.prog 18 #[.pointer (some ⟨b, 0, none⟩)] W fun e' w' => e' = .returned (S T) ∧ Below W.heap.size W w') := fun W hb => by
    have := contents_18 F W b (onD c l) (h.below hb).disk hcl
    rw [show (onD c l).now = c from rfl, hc.trim, ← hT] at this
    exact this
  have HCL : Hid (∀ W : World, Below w.heap.size w W → Calls Tryd.prog 19 #[.agg #[S sn, v2]] W fun e' w' => e' = .returned (S T) ∧ Below W.heap.size W w') := fun W hb => by
    have := clean_19 sn v2 tl W (h2.below hb) hil
    rw [← hT] at this
    exact this
  obtain ⟨a1, c1, rfl, _⟩ := h1
  obtain ⟨a2, c2, rfl, _⟩ := h2
  clear hT h hc
  go_enter Tryd.func15, Tryd.ntmps15
  go_wp2_with fail
  obtain ⟨W1, hW1⟩ : ∃ W1, (w.alloc (.cells #[S sn, .slice a2 tl.length c2] 32)).drew = W1 := ⟨_, rfl⟩
  have HB0 : Hid (Below w.heap.size w W1) := by rw [← hW1]; exact (alloc_below w _).drew
  have hs0 : W1.cell? ⟨w.heap.size, 0, none⟩ = some (S sn) ∧ W1.cell? ⟨w.heap.size, 1, none⟩ = some (.slice a2 tl.length c2) := by
    rw [← hW1]
    exact ⟨World.cell?_alloc_new w _ _ 0, World.cell?_alloc_new w _ _ 1⟩
  refine wp_region_T (fun w' => w'.cell? ⟨w.heap.size, 0, none⟩ = some (S sn) ∧ w'.cell? ⟨w.heap.size, 1, none⟩ = some (.slice a2 tl.length c2)) 28 (by kernel_rfl) ?_
  rw [hW1]
  clear hW1
  refine anyT_take (i := 0) (v := ?_) rfl (by kernel_rfl) (by kernel_rfl) (by kernel_rfl) (by kernel_rfl) (by decide) (fun _ _ _ h => h) hs0 (Or.inl ⟨by rfl, ?_⟩) ?_
  rotate_left
  · intro w' h; obtain ⟨h0, h1⟩ := h; go_simp; rfl
  (try go_simp)
  refine anyT_take (i := 1) (v := ?_) rfl (by kernel_rfl) (by kernel_rfl) (by kernel_rfl) (by kernel_rfl) (by decide) (fun _ _ _ h => h) hs0 (Or.inl ⟨by rfl, ?_⟩) ?_
  rotate_left
  · intro w' h; obtain ⟨h0, h1⟩ := h; go_simp; rfl
  (try go_simp)
  refine anyT_take (i := 2) (v := ?_) rfl (by kernel_rfl) (by kernel_rfl) (by kernel_rfl) (by kernel_rfl) (by decide) (fun _ _ _ h => h) hs0 (Or.inl ⟨by rfl, ?_⟩) ?_
  rotate_left
  · intro w' h; obtain ⟨h0, h1⟩ := h; go_simp; rfl
  (try go_simp)
  refine anyT_take (i := 3) (v := ?_) rfl (by kernel_rfl) (by kernel_rfl) (by kernel_rfl) (by kernel_rfl) (by decide) (fun _ _ _ h => h) hs0 (Or.inl ⟨by rfl, ?_⟩) ?_
  rotate_left
  · intro w' h; obtain ⟨h0, h1⟩ := h; go_simp; rfl
  (try go_simp)
  refine anyT_take (i := 4) (v := ?_) rfl (by kernel_rfl) (by kernel_rfl) (by kernel_rfl) (by kernel_rfl) (by decide) (fun _ _ _ h => h) hs0 (Or.inl ⟨by rfl, ?_⟩) ?_
  rotate_left
  · intro w' h; obtain ⟨h0, h1⟩ := h; go_simp; rfl
  (try go_simp)
  refine anyT_take (i := 5) (v := ?_) rfl (by kernel_rfl) (by kernel_rfl) (by kernel_rfl) (by kernel_rfl) (by decide) (fun _ _ _ h => h) hs0 (Or.inl ⟨by rfl, ?_⟩) ?_
  rotate_left
  · intro w' h; obtain ⟨h0, h1⟩ := h; go_simp; rfl
  (try go_simp)
  refine anyT_take (i := 6) (v := ?_) rfl (by kernel_rfl) (by kernel_rfl) (by kernel_rfl) (by kernel_rfl) (by decide) (fun _ _ _ h => h) hs0 (Or.inl ⟨by rfl, ?_⟩) ?_
  rotate_left
  · intro w' h; obtain ⟨h0, h1⟩ := h; go_simp; rfl
  (try go_simp)
  refine anyT_take (i := 7) (v := ?_) rfl (by kernel_rfl) (by kernel_rfl) (by kernel_rfl) (by kernel_rfl) (by decide) (fun _ _ _ h => h) hs0 (Or.inl ⟨by rfl, ?_⟩) ?_
  rotate_left
  · intro w' h; obtain ⟨h0, h1⟩ := h; go_simp; rfl
  (try go_simp)
  refine anyT_take (i := 8) (v := ?_) rfl (by kernel_rfl) (by kernel_rfl) (by kernel_rfl) (by kernel_rfl) (by decide) (fun _ _ _ h => h) hs0 (Or.inl ⟨by rfl, ?_⟩) ?_
  rotate_left
  · intro w' h; obtain ⟨h0, h1⟩ := h; go_simp; rfl
  (try go_simp)
  refine anyT_take (i := 9) (v := ?_) rfl (by kernel_rfl) (by kernel_rfl) (by kernel_rfl) (by kernel_rfl) (by decide) (fun _ _ _ h => h) hs0 (Or.inl ⟨by rfl, ?_⟩) ?_
  rotate_left
  · intro w' h; obtain ⟨h0, h1⟩ := h; go_simp; rfl
  (try go_simp)
  refine anyT_take (i := 10) (v := ?_) rfl (by kernel_rfl) (by kernel_rfl) (by kernel_rfl) (by kernel_rfl) (by decide) (fun _ _ _ h => h) hs0 (Or.inl ⟨by rfl, ?_⟩) ?_
  rotate_left
  · intro w' h; obtain ⟨h0, h1⟩ := h; go_simp; rfl
  (try go_simp)
  go_simp
  refine anyT_doG (i := 11) rfl (by kernel_rfl) (by rfl) (fun K hK => ?_)
  go_simp
  (go_at_call 29; ((with_reducible refine Calls.mono (HSA.out _ HB0.out) ?_); rintro e v1 ⟨rfl, hb1⟩))
  have HB1 := Lib.hid (btr HB0.out hb1 HB0.out.size)
  have hs1 : v1.cell? ⟨w.heap.size, 0, none⟩ = some (S sn) ∧ v1.cell? ⟨w.heap.size, 1, none⟩ = some (.slice a2 tl.length c2) := ⟨by rw [hb1.cell (p := ⟨w.heap.size, 0, none⟩) (cell_lt hs0.1)]; exact hs0.1, by rw [hb1.cell (p := ⟨w.heap.size, 1, none⟩) (cell_lt hs0.2)]; exact hs0.2⟩
  clear hb1
  refine hK _ _ (fun _ => hs1) ?_
  clear hK K
  refine anyT_take (i := 12) (v := ?_) rfl (by kernel_rfl) (by kernel_rfl) (by kernel_rfl) (by kernel_rfl) (by decide) (fun _ _ _ h => h) hs1 (Or.inl ⟨by rfl, ?_⟩) ?_
  rotate_left
  · intro w' h; obtain ⟨h0, h1⟩ := h; go_simp; rfl
  (try go_simp)
  refine anyT_take (i := 13) (v := ?_) rfl (by kernel_rfl) (by kernel_rfl) (by kernel_rfl) (by kernel_rfl) (by decide) (fun _ _ _ h => h) hs1 (Or.inl ⟨by rfl, ?_⟩) ?_
  rotate_left
  · intro w' h; obtain ⟨h0, h1⟩ := h; go_simp; rfl
  (try go_simp)
  refine anyT_take (i := 14) (v := ?_) rfl (by kernel_rfl) (by kernel_rfl) (by kernel_rfl) (by kernel_rfl) (by decide) (fun _ _ _ h => h) hs1 (Or.inl ⟨by rfl, ?_⟩) ?_
  rotate_left
  · intro w' h; obtain ⟨h0, h1⟩ := h; go_simp; rfl
  (try go_simp)
  refine anyT_take (i := 16) (v := ?_) rfl (by kernel_rfl) (by kernel_rfl) (by kernel_rfl) (by kernel_rfl) (by decide) (fun _ _ _ h => h) hs1 (Or.inl ⟨by rfl, ?_⟩) ?_
  rotate_left
  · intro w' h; obtain ⟨h0, h1⟩ := h; go_simp; rfl
  (try go_simp)
  refine anyT_take (i := 17) (v := ?_) rfl (by kernel_rfl) (by kernel_rfl) (by kernel_rfl) (by kernel_rfl) (by decide) (fun _ _ _ h => h) hs1 (Or.inl ⟨by rfl, ?_⟩) ?_
  rotate_left
  · intro w' h; obtain ⟨h0, h1⟩ := h; go_simp; rfl
  (try go_simp)
  refine anyT_take (i := 18) (v := ?_) rfl (by kernel_rfl) (by kernel_rfl) (by kernel_rfl) (by kernel_rfl) (by decide) (fun _ _ _ h => h) hs1 (Or.inl ⟨by rfl, ?_⟩) ?_
  rotate_left
  · intro w' h; obtain ⟨h0, h1⟩ := h; go_simp; rfl
  (try go_simp)
  go_simp
  refine anyT_doG (i := 15) rfl (by kernel_rfl) (by rfl) (fun K hK => ?_)
  go_simp
  (go_at_call 20; ((with_reducible refine Calls.mono (HMA.out _ HB1.out) ?_); rintro e v2 ⟨rfl, hb2⟩))
  have HB2 := Lib.hid (btr HB1.out hb2 HB1.out.size)
  have hs2 : v2.cell? ⟨w.heap.size, 0, none⟩ = some (S sn) ∧ v2.cell? ⟨w.heap.size, 1, none⟩ = some (.slice a2 tl.length c2) := ⟨by rw [hb2.cell (p := ⟨w.heap.size, 0, none⟩) (cell_lt hs1.1)]; exact hs1.1, by rw [hb2.cell (p := ⟨w.heap.size, 1, none⟩) (cell_lt hs1.2)]; exact hs1.2⟩
  clear hb2
  refine hK _ _ (fun _ => hs2) ?_
  clear hK K
  refine anyT_take (i := 19) (v := ?_) rfl (by kernel_rfl) (by kernel_rfl) (by kernel_rfl) (by kernel_rfl) (by decide) (fun _ _ _ h => h) hs2 (Or.inl ⟨by rfl, ?_⟩) ?_
  rotate_left
  · intro w' h; obtain ⟨h0, h1⟩ := h; go_simp; rfl
  (try go_simp)
  refine anyT_take (i := 20) (v := ?_) rfl (by kernel_rfl) (by kernel_rfl) (by kernel_rfl) (by kernel_rfl) (by decide) (fun _ _ _ h => h) hs2 (Or.inl ⟨by rfl, ?_⟩) ?_
  rotate_left
  · intro w' h; obtain ⟨h0, h1⟩ := h; go_simp; rfl
  (try go_simp)
  refine anyT_take (i := 21) (v := ?_) rfl (by kernel_rfl) (by kernel_rfl) (by kernel_rfl) (by kernel_rfl) (by decide) (fun _ _ _ h => h) hs2 (Or.inl ⟨by rfl, ?_⟩) ?_
  rotate_left
  · intro w' h; obtain ⟨h0, h1⟩ := h; go_simp; rfl
  (try go_simp)
  refine anyT_take (i := 22) (v := ?_) rfl (by kernel_rfl) (by kernel_rfl) (by kernel_rfl) (by kernel_rfl) (by decide) (fun _ _ _ h => h) hs2 (Or.inl ⟨by rfl, ?_⟩) ?_
  rotate_left
  · intro w' h; obtain ⟨h0, h1⟩ := h; go_simp; rfl
  (try go_simp)
  refine anyT_take (i := 24) (v := ?_) rfl (by kernel_rfl) (by kernel_rfl) (by kernel_rfl) (by kernel_rfl) (by decide) (fun _ _ _ h => h) hs2 (Or.inl ⟨by rfl, ?_⟩) ?_
  rotate_left
  · intro w' h; obtain ⟨h0, h1⟩ := h; go_simp; rfl
  (try go_simp)
  go_simp
  refine anyT_doG (i := 23) rfl (by kernel_rfl) (by rfl) (fun K hK => ?_)
  go_simp
  (go_at_call 18; ((with_reducible refine Calls.mono (HCO.out _ HB2.out) ?_); rintro e v3 ⟨rfl, hb3⟩))
  have HB3 := Lib.hid (btr HB2.out hb3 HB2.out.size)
  have hs3 : v3.cell? ⟨w.heap.size, 0, none⟩ = some (S sn) ∧ v3.cell? ⟨w.heap.size, 1, none⟩ = some (.slice a2 tl.length c2) := ⟨by rw [hb3.cell (p := ⟨w.heap.size, 0, none⟩) (cell_lt hs2.1)]; exact hs2.1, by rw [hb3.cell (p := ⟨w.heap.size, 1, none⟩) (cell_lt hs2.2)]; exact hs2.2⟩
  clear hb3
  refine hK _ _ (fun _ => hs3) ?_
  clear hK K
  go_simp
  refine anyT_doG (i := 25) rfl (by kernel_rfl) (by rfl) (fun K hK => ?_)
  go_simp
  (go_at_call 19; ((with_reducible refine Calls.mono (HCL.out _ HB3.out) ?_); rintro e v4 ⟨rfl, hb4⟩))
  have HB4 := Lib.hid (btr HB3.out hb4 HB3.out.size)
  have hs4 : v4.cell? ⟨w.heap.size, 0, none⟩ = some (S sn) ∧ v4.cell? ⟨w.heap.size, 1, none⟩ = some (.slice a2 tl.length c2) := ⟨by rw [hb4.cell (p := ⟨w.heap.size, 0, none⟩) (cell_lt hs3.1)]; exact hs3.1, by rw [hb4.cell (p := ⟨w.heap.size, 1, none⟩) (cell_lt hs3.2)]; exact hs3.2⟩
  clear hb4
  refine hK _ _ (fun _ => hs4) ?_
  clear hK K
  refine anyT_take (i := 26) (v := ?_) rfl (by kernel_rfl) (by kernel_rfl) (by kernel_rfl) (by kernel_rfl) (by decide) (fun _ _ _ h => h) hs4 (Or.inl ⟨by rfl, ?_⟩) ?_
  rotate_left
  · intro w' h; obtain ⟨h0, h1⟩ := h; go_simp; rfl
  (try go_simp)
  refine anyT_take (i := 27) (v := ?_) rfl (by kernel_rfl) (by kernel_rfl) (by kernel_rfl) (by kernel_rfl) (by decide) (fun _ _ _ h => h) hs4 (Or.inl ⟨by rfl, ?_⟩) ?_
  rotate_left
  · intro w' h; obtain ⟨h0, h1⟩ := h; go_simp; rfl
  (try go_simp)
  go_simp
  refine anyT_doG (i := 28) rfl (by kernel_rfl) (by rfl) (fun K hK => ?_)
  go_simp
  refine hK _ _ (fun h => absurd rfl h) ?_
  clear hK K
  refine anyT_done (by kernel_rfl) ?_ _
  go_wp2_with fail
  go_ret
  exact ⟨rfl, HB4.out⟩
end Go.Proofs.YtgdkdihedgiegaaDoor
