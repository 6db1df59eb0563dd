/-
  The walk of the reference's Clean.
  The walks of the reference's Strings and Same, on equal states.
-/
import Derived.Test.YtgdkdihedgiegaaDoorV12
namespace Go.Proofs.YtgdkdihedgiegaaDoor
open Go.RowKit

/-- Two operations may come up. -/
theorem anyT_two {P : Program} {md : Region.Mode} {ops : Array Oper} {Q : Exit → Act → World → Prop} {S : World → Prop} {z i j : Nat} {o o' : Oper} {n : Nat} {listed : Array Bool} {a : Act} {w : World} (hi : ops[i]? = some o) (hj : ops[j]? = some o')
    (hr : Region.ready md ops listed = [i, j]) (hg : o.guard = none) (hg' : o'.guard = none)
    (h : ∀ K : Act → World → Prop, (∀ a' w', (i ≠ z → S w') → anyT P md ops Q S z n (listed.setIfInBounds i true) a' w' → K a' w') → o.wp P a w K Q)
    (h' : ∀ K : Act → World → Prop, (∀ a' w', (j ≠ z → S w') → anyT P md ops Q S z n (listed.setIfInBounds j true) a' w' → K a' w') → o'.wp P a w K Q) : anyT P md ops Q S z (n + 1) listed a w := by
  refine ⟨fun h0 => absurd h0 (by rw [hr]; simp), fun k hk => ?_⟩
  rw [hr] at hk
  simp only [List.mem_cons, List.not_mem_nil, or_false] at hk
  rcases hk with rfl | rfl
  · unfold wpOp
    rw [hi]
    simp only [Region.wanted, hg, if_true]
    exact .inl (h _ fun a' w' h1 h2 => ⟨h1, h2⟩)
  · unfold wpOp
    rw [hj]
    simp only [Region.wanted, hg', if_true]
    exact .inl (h' _ fun a' w' h1 h2 => ⟨h1, h2⟩)
theorem mk64 (w : World) : ∃ w1, (Instr.makeSlice 51 (.int .i64 64) (.int .i64 64)).run Tryd.prog w = .ok (.slice (some ⟨w.heap.size, 0, none⟩) 64 64) w1 ∧
    (∀ w2, Below w1.heap.size w1 w2 → (convert 51 9 (.slice (some ⟨w.heap.size, 0, none⟩) 64 64)).run Tryd.prog w2 = .ok (S (zerosR 64)) w2) ∧ Below w.heap.size w w1 := by
  obtain ⟨w1, h1, _, h3, h4⟩ := mk_zeros w 64 (by omega)
  refine ⟨w1, h1, fun w2 hb => ?_, h3⟩
  have := conv_back w2 ⟨w.heap.size, 0, none⟩ 64 (zerosR 64) (fun j u hu => by
    have h := h4.cells (g := w.heap.size) rfl j u (by simpa using hu)
    rw [hb.cell (cell_lt h)]
    simpa using h)
  rwa [zeros_len] at this
set_option maxHeartbeats 4000000 in
set_option maxRecDepth 100000 in
theorem clean_19 (sn : Bs) (tv : Value) (tl : List Bs) (w : World) (ht : TailAt w tv tl) (hl : (imageR sn tl).length ≤ 10000000) :
    Calls Tryd.prog 19 #[.agg #[S sn, tv]] w fun e w' => e = .returned (S (trimR (cleanR sn tl))) ∧ Below w.heap.size w w' := by
  have HIM0 := Lib.hid (fun (W : World) (hb : Below w.heap.size w W) => image_25 sn tv tl W (ht.below hb) (by omega))
  obtain ⟨ta, tcap, rfl, _⟩ := ht
  obtain ⟨X, hX⟩ : ∃ X, X = imageR sn tl := ⟨_, rfl⟩
  obtain ⟨Z, hZ⟩ : ∃ Z, Z = zerosR 64 := ⟨_, rfl⟩
  have hZl : Z.length = 64 := by rw [hZ, zeros_len]
  have HXX : Hid (trimR (cleanR sn tl) = trimR (Z ++ X)) := by rw [hX, hZ]; rfl
  have HIM : Hid (∀ W : World, Below w.heap.size w W → Calls Tryd.prog 25 #[S sn, .slice ta tl.length tcap] W fun e w' => e = .returned (S X) ∧ Below W.heap.size W w') := by rw [hX]; exact HIM0.out
  have HTR := Lib.hid (fun W => trim_43 (Z ++ X) W (by rw [List.length_append, hX]; omega))
  have mk64 := mk64
  rw [← hZ] at mk64
  rw [← hX] at hl
  have s1 : ¬ 9223372036854775807 < Z.length + X.length := by omega
  have s2 : ¬ 9223372036854775807 < 64 + X.length := by omega
  clear HIM0 hX hZ hZl
  go_enter Tryd.func19, Tryd.ntmps19
  go_wp2_with fail
  obtain ⟨W1, hW1⟩ : ∃ W1, (w.alloc (.cells #[S sn, .slice ta tl.length tcap] 32)).drew = W1 := ⟨_, rfl⟩
  have HB0 : Hid (Below w.heap.size w W1) := by rw [← hW1]; exact (alloc_below w _).drew
  have hs0 : W1.cell? ⟨w.heap.size, 0, none⟩ = some (S sn) ∧ W1.cell? ⟨w.heap.size, 1, none⟩ = some (.slice ta tl.length tcap) := by
    rw [← hW1]
    exact ⟨World.cell?_alloc_new w _ _ 0, World.cell?_alloc_new w _ _ 1⟩
  refine wp_region_T (fun w' => w'.cell? ⟨w.heap.size, 0, none⟩ = some (S sn) ∧ w'.cell? ⟨w.heap.size, 1, none⟩ = some (.slice ta tl.length tcap)) 9 (by kernel_rfl) ?_
  rw [hW1]
  clear hW1
  refine anyT_take (i := 2) (v := ?_) rfl (by kernel_rfl) (by kernel_rfl) (by kernel_rfl) (by kernel_rfl) (by decide) (fun _ _ _ h => h) hs0 (Or.inl ⟨by rfl, ?_⟩) ?_
  rotate_left
  · intro w' h; obtain ⟨h0, h1⟩ := h; go_simp; rfl
  refine anyT_take (i := 3) (v := ?_) rfl (by kernel_rfl) (by kernel_rfl) (by kernel_rfl) (by kernel_rfl) (by decide) (fun _ _ _ h => h) hs0 (Or.inl ⟨by rfl, ?_⟩) ?_
  rotate_left
  · intro w' h; obtain ⟨h0, h1⟩ := h; go_simp; rfl
  refine anyT_take (i := 4) (v := ?_) rfl (by kernel_rfl) (by kernel_rfl) (by kernel_rfl) (by kernel_rfl) (by decide) (fun _ _ _ h => h) hs0 (Or.inl ⟨by rfl, ?_⟩) ?_
  rotate_left
  · intro w' h; obtain ⟨h0, h1⟩ := h; go_simp; rfl
  refine anyT_take (i := 5) (v := ?_) rfl (by kernel_rfl) (by kernel_rfl) (by kernel_rfl) (by kernel_rfl) (by decide) (fun _ _ _ h => h) hs0 (Or.inl ⟨by rfl, ?_⟩) ?_
  rotate_left
  · intro w' h; obtain ⟨h0, h1⟩ := h; go_simp; rfl
  simp only [Act.put, List.setIfInBounds_toArray]
  refine anyT_two (i := 0) (j := 6) rfl rfl (by kernel_rfl) rfl rfl (fun K hK => ?_) (fun K hK => ?_)
  · skip
    go_simp
    obtain ⟨v1, hm1, hc1, hb1⟩ := mk64 W1
    have HC1 := Lib.hid hc1
    have HB1 := Lib.hid (btr HB0.out hb1 HB0.out.size)
    have hs1 :  v1.cell? ⟨w.heap.size, 0, none⟩ = some (S sn) ∧ v1.cell? ⟨w.heap.size, 1, none⟩ = some (.slice ta tl.length tcap) := ⟨by rw [hb1.cell (p := ⟨w.heap.size, 0, none⟩) (cell_lt hs0.1)]; exact hs0.1, by rw [hb1.cell (p := ⟨w.heap.size, 1, none⟩) (cell_lt hs0.2)]; exact hs0.2⟩
    generalize hg1 : W1.heap.size = g1 at *
    clear hc1 hb1 hg1
    go_simp
    refine hK _ _ (fun _ => hs1) ?_
    clear hK K
    refine anyT_two (i := 1) (j := 6) rfl rfl (by kernel_rfl) rfl rfl (fun K hK => ?_) (fun K hK => ?_)
    · skip
      go_simp
      have hx2 := HC1.out v1 (Below.refl _ _)
      go_simp
      refine hK _ _ (fun _ => hs1) ?_
      clear hK K
      refine anyT_do (i := 6) rfl (by kernel_rfl) rfl (fun K hK => ?_)
      go_simp
      (go_at_call 25; ((with_reducible refine Calls.mono (HIM.out _ HB1.out) ?_); rintro e v3 ⟨rfl, hb3⟩))
      have HB3 := Lib.hid (btr HB1.out hb3 HB1.out.size)
      have hs3 :  v3.cell? ⟨w.heap.size, 0, none⟩ = some (S sn) ∧ v3.cell? ⟨w.heap.size, 1, none⟩ = some (.slice ta tl.length tcap) := ⟨by rw [hb3.cell (p := ⟨w.heap.size, 0, none⟩) (cell_lt hs1.1)]; exact hs1.1, by rw [hb3.cell (p := ⟨w.heap.size, 1, none⟩) (cell_lt hs1.2)]; exact hs1.2⟩
      clear hb3
      refine hK _ _ (fun _ => hs3) ?_
      clear hK K
      refine anyT_do (i := 7) rfl (by kernel_rfl) rfl (fun K hK => ?_)
      go_simp
      refine hK _ _ (fun _ => hs3) ?_
      clear hK K
      refine anyT_do (i := 8) rfl (by kernel_rfl) rfl (fun K hK => ?_)
      go_simp
      (go_at_call 43; ((with_reducible refine Calls.mono (HTR.out _) ?_); rintro e v5 ⟨rfl, hw⟩; have hw := hw.symm; subst hw))
      refine hK _ _ (fun _ => hs3) ?_
      clear hK K
      refine anyT_do (i := 9) rfl (by kernel_rfl) rfl (fun K hK => ?_)
      go_simp
      refine hK _ _ (fun h => absurd rfl h) ?_
      clear hK K
      refine anyT_done (by kernel_rfl) ?_ _
      go_wp2_with fail
      go_ret
      rw [HXX.out]
      exact ⟨rfl, HB3.out⟩
    · skip
      go_simp
      (go_at_call 25; ((with_reducible refine Calls.mono (HIM.out _ HB1.out) ?_); rintro e v7 ⟨rfl, hb7⟩))
      have HB7 := Lib.hid (btr HB1.out hb7 HB1.out.size)
      have hs7 :  v7.cell? ⟨w.heap.size, 0, none⟩ = some (S sn) ∧ v7.cell? ⟨w.heap.size, 1, none⟩ = some (.slice ta tl.length tcap) := ⟨by rw [hb7.cell (p := ⟨w.heap.size, 0, none⟩) (cell_lt hs1.1)]; exact hs1.1, by rw [hb7.cell (p := ⟨w.heap.size, 1, none⟩) (cell_lt hs1.2)]; exact hs1.2⟩
      have hv7 := HC1.out v7 hb7
      clear hb7
      refine hK _ _ (fun _ => hs7) ?_
      clear hK K
      refine anyT_do (i := 1) rfl (by kernel_rfl) rfl (fun K hK => ?_)
      go_simp
      skip
      go_simp
      refine hK _ _ (fun _ => hs7) ?_
      clear hK K
      refine anyT_do (i := 7) rfl (by kernel_rfl) rfl (fun K hK => ?_)
      go_simp
      refine hK _ _ (fun _ => hs7) ?_
      clear hK K
      refine anyT_do (i := 8) rfl (by kernel_rfl) rfl (fun K hK => ?_)
      go_simp
      (go_at_call 43; ((with_reducible refine Calls.mono (HTR.out _) ?_); rintro e v10 ⟨rfl, hw⟩; have hw := hw.symm; subst hw))
      refine hK _ _ (fun _ => hs7) ?_
      clear hK K
      refine anyT_do (i := 9) rfl (by kernel_rfl) rfl (fun K hK => ?_)
      go_simp
      refine hK _ _ (fun h => absurd rfl h) ?_
      clear hK K
      refine anyT_done (by kernel_rfl) ?_ _
      go_wp2_with fail
      go_ret
      rw [HXX.out]
      exact ⟨rfl, HB7.out⟩
  · skip
    go_simp
    (go_at_call 25; ((with_reducible refine Calls.mono (HIM.out _ HB0.out) ?_); rintro e v12 ⟨rfl, hb12⟩))
    have HB12 := Lib.hid (btr HB0.out hb12 HB0.out.size)
    have hs12 :  v12.cell? ⟨w.heap.size, 0, none⟩ = some (S sn) ∧ v12.cell? ⟨w.heap.size, 1, none⟩ = some (.slice ta tl.length tcap) := ⟨by rw [hb12.cell (p := ⟨w.heap.size, 0, none⟩) (cell_lt hs0.1)]; exact hs0.1, by rw [hb12.cell (p := ⟨w.heap.size, 1, none⟩) (cell_lt hs0.2)]; exact hs0.2⟩
    clear hb12
    refine hK _ _ (fun _ => hs12) ?_
    clear hK K
    refine anyT_do (i := 0) rfl (by kernel_rfl) rfl (fun K hK => ?_)
    go_simp
    obtain ⟨v13, hm13, hc13, hb13⟩ := mk64 v12
    have HC13 := Lib.hid hc13
    have HB13 := Lib.hid (btr HB12.out hb13 HB12.out.size)
    have hs13 :  v13.cell? ⟨w.heap.size, 0, none⟩ = some (S sn) ∧ v13.cell? ⟨w.heap.size, 1, none⟩ = some (.slice ta tl.length tcap) := ⟨by rw [hb13.cell (p := ⟨w.heap.size, 0, none⟩) (cell_lt hs12.1)]; exact hs12.1, by rw [hb13.cell (p := ⟨w.heap.size, 1, none⟩) (cell_lt hs12.2)]; exact hs12.2⟩
    generalize hg13 : v12.heap.size = g13 at *
    clear hc13 hb13 hg13
    go_simp
    refine hK _ _ (fun _ => hs13) ?_
    clear hK K
    refine anyT_do (i := 1) rfl (by kernel_rfl) rfl (fun K hK => ?_)
    go_simp
    have hx14 := HC13.out v13 (Below.refl _ _)
    go_simp
    refine hK _ _ (fun _ => hs13) ?_
    clear hK K
    refine anyT_do (i := 7) rfl (by kernel_rfl) rfl (fun K hK => ?_)
    go_simp
    refine hK _ _ (fun _ => hs13) ?_
    clear hK K
    refine anyT_do (i := 8) rfl (by kernel_rfl) rfl (fun K hK => ?_)
    go_simp
    (go_at_call 43; ((with_reducible refine Calls.mono (HTR.out _) ?_); rintro e v16 ⟨rfl, hw⟩; have hw := hw.symm; subst hw))
    refine hK _ _ (fun _ => hs13) ?_
    clear hK K
    refine anyT_do (i := 9) rfl (by kernel_rfl) rfl (fun K hK => ?_)
    go_simp
    refine hK _ _ (fun h => absurd rfl h) ?_
    clear hK K
    refine anyT_done (by kernel_rfl) ?_ _
    go_wp2_with fail
    go_ret
    rw [HXX.out]
    exact ⟨rfl, HB13.out⟩
end Go.Proofs.YtgdkdihedgiegaaDoor

namespace Go.Proofs.YtgdkdihedgiegaaDoor
open Go.RowKit

set_option maxHeartbeats 4000000 in
set_option maxRecDepth 100000 in
theorem strings_53 (w : World) (tl : List Bs) (v1 v2 : Value) (h1 : TailAt w v1 tl) (h2 : TailAt w v2 tl) (hl : tl.length ≤ 20000000) :
    Calls Tryd.prog 53 #[v1, v2] w fun e w' => e = .returned (.bool true) ∧ Below w.heap.size w w' := by
  have H1 := Lib.hid h1
  have H2 := Lib.hid h2
  obtain ⟨a1, c1, rfl, _⟩ := h1
  obtain ⟨a2, c2, rfl, _⟩ := h2
  go_enter Tryd.func53, Tryd.ntmps53
  go_wp2_with fail
  go_loopw [5] (fun i wr => ∃ k : Nat, i = .int .i64 k ∧ k ≤ tl.length ∧ Below w.heap.size w wr) (fun i _ => tl.length - (intOf i).toNat)
  case atStart => exact ⟨0, rfl, Nat.zero_le _, Below.refl _ _⟩
  case round =>
    obtain ⟨k, rfl, hk, hb⟩ := hrel
    have HB := Lib.hid hb
    by_cases hlt : k < tl.length
    · obtain ⟨b1, o1, p1, hv1, hb1, hc1⟩ := TailAt.cell H1.out k hlt
      obtain ⟨b2, o2, p2, hv2, hb2, hc2⟩ := TailAt.cell H2.out k hlt
      injection hv1 with x1 x2 x3
      injection hv2 with y1 y2 y3
      subst x1 x3 y1 y3
      have d1 : wr.cell? ⟨b1, o1 + k, none⟩ = some (S tl[k]) := by rw [hb.cell (p := ⟨b1, o1 + k, none⟩) hb1]; exact hc1
      have d2 : wr.cell? ⟨b2, o2 + k, none⟩ = some (S tl[k]) := by rw [hb.cell (p := ⟨b2, o2 + k, none⟩) hb2]; exact hc2
      generalize tl[k] = r at *
      clear hc1 hc2 hb
      go_wp2_with fail
      go_quiet (fail)
      go_wp2_with fail
      go_roundw
      case rel => exact ⟨k + 1, by go_num, hlt, HB.out.trans ⟨rfl, rfl, rfl, Nat.le_refl _, fun _ _ => rfl⟩⟩
      case measure => simp [intOf]; omega
    · obtain rfl : k = tl.length := by omega
      go_wp2_with fail
      go_ret
      exact ⟨rfl, HB.out⟩
set_option maxHeartbeats 4000000 in
set_option maxRecDepth 100000 in
theorem same_29 (w : World) (sn : Bs) (tl : List Bs) (v1 v2 : Value) (h1 : TailAt w v1 tl) (h2 : TailAt w v2 tl) (hl : tl.length ≤ 20000000) :
    Calls Tryd.prog 29 #[.agg #[S sn, v1], .agg #[S sn, v2]] w fun e w' => e = .returned (.bool true) ∧ Below w.heap.size w w' := by
  have HST := Lib.hid (fun (W : World) (hb : Below w.heap.size w W) => strings_53 W tl v1 v2 (h1.below hb) (h2.below hb) hl)
  obtain ⟨a1, c1, rfl, _⟩ := h1
  obtain ⟨a2, c2, rfl, _⟩ := h2
  go_enter Tryd.func29, Tryd.ntmps29
  go_wp2_with fail
  have hb2 := (alloc_below w (.cells #[S sn, .slice a1 tl.length c1] 32))
  have hb3 := btr hb2 (alloc_below _ (.cells #[S sn, .slice a2 tl.length c2] 32)) hb2.size
  ((with_reducible refine Calls.mono (HST.out _ hb3) ?_); rintro e w3 ⟨rfl, hb4⟩)
  have HB4 := Lib.hid (btr hb3 hb4 hb3.size)
  have k1 : w3.cell? ⟨w.heap.size, 0, none⟩ = some (S sn) := by
    have hh : ((w.alloc (.cells #[S sn, .slice a1 tl.length c1] 32)).alloc (.cells #[S sn, .slice a2 tl.length c2] 32)).cell? ⟨w.heap.size, 0, none⟩ = some (S sn) := by
      rw [alloc_old _ _ _ _ (by simp)]
      exact World.cell?_alloc_new w _ _ 0
    rw [hb4.cell (p := ⟨w.heap.size, 0, none⟩) (cell_lt hh)]; exact hh
  have k2 : w3.cell? ⟨w.heap.size + 1, 0, none⟩ = some (S sn) := by
    have hh : ((w.alloc (.cells #[S sn, .slice a1 tl.length c1] 32)).alloc (.cells #[S sn, .slice a2 tl.length c2] 32)).cell? ⟨w.heap.size + 1, 0, none⟩ = some (S sn) := by
      have h5 := World.cell?_alloc_new (w.alloc (.cells #[S sn, .slice a1 tl.length c1] 32)) #[S sn, .slice a2 tl.length c2] 32 0
      have h6 : (w.alloc (.cells #[S sn, .slice a1 tl.length c1] 32)).heap.size = w.heap.size + 1 := by simp
      rw [h6] at h5
      exact h5
    rw [hb4.cell (p := ⟨w.heap.size + 1, 0, none⟩) (cell_lt hh)]; exact hh
  clear hb2 hb3 hb4
  go_wp2_with fail
  go_ret
  exact ⟨rfl, HB4.out⟩
end Go.Proofs.YtgdkdihedgiegaaDoor
