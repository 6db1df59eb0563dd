/-
  The walk of VaultImages.
-/
import Derived.Test.YtgdkdihedgiegaaDoorP1
import Derived.Test.YtgdkdihedgiegaaDoorG3
namespace Go.Proofs.YtgdkdihedgiegaaDoor
open Go.RowKit

section
variable {P : Program} {ops : Array Oper} {Q : Exit → Act → World → Prop} {md : Region.Mode} {S : World → Prop} {z : Nat}
theorem anyN_first {i : Nat} {oi : Oper} {v : Value} (hi : ops[i]? = some oi) (hsel : ∀ (j : Nat) (o : Oper) cs b, ops[j]? = some o → o.op ≠ .select cs b)
    (hQ : ∀ c a w, Q (.panic c) (a.put oi.dst v) w → Q (.panic c) a w) (hz : ops[z]? = none) :
    ∀ (n : Nat) (listed : Array Bool) (a : Act) (w : World),
      (∀ j oj, ops[j]? = some oj → j ≠ i → listed.getD j true = false → (∀ e ∈ oj.after, Region.binds md e = true → e.on ≠ i) → oi.apart ops oj = true) →
      i ∈ Region.ready md ops listed → YieldsIf P ops S oi v a → S w →
      anyT P md ops Q S z n (listed.setIfInBounds i true) (a.put oi.dst v) w → anyT P md ops Q S z (n + 1) listed a w := by
  intro n
  induction n with
  | zero =>
    intro listed a w _ hr hy hS H
    refine ⟨fun h => absurd hr (by rw [h]; simp), fun j hj => ?_⟩
    by_cases hji : j = i
    · subst hji; exact hy.wpOp hi hS ⟨fun _ => hS, H⟩
    · exact absurd (ready_mono hj hji) (by rw [H.1]; simp)
  | succ n ih =>
    intro listed a w hfree hr hy hS H
    have hun := (mem_ready.1 hr).1
    refine ⟨fun h => absurd hr (by rw [h]; simp), fun j hj => ?_⟩
    by_cases hji : j = i
    · subst hji; exact hy.wpOp hi hS ⟨fun _ => hS, H⟩
    · have hjz : j ≠ z := fun e => by subst e; obtain ⟨_, oj, hoj, _⟩ := mem_ready.1 hj; rw [hz] at hoj; cases hoj
      obtain ⟨hjun, oj, hoj, hall⟩ := mem_ready.1 hj
      have hnot : ∀ e ∈ oj.after, Region.binds md e = true → e.on ≠ i := by
        intro e he hb heq
        have h1 := hall e he hb
        rw [heq] at h1
        rcases Nat.lt_or_ge i listed.size with h' | h'
        · simp [h'] at hun h1; rw [hun] at h1; cases h1
        · simp [Array.getElem?_eq_none h'] at h1
      have h2 := wpOp_putIf hoj (hfree j oj hoj hji hjun hnot) (fun cs b => hsel i oi cs b hi) (fun cs b => hsel j oj cs b hoj) hQ hy (H.2 j (ready_mono hj hji))
      refine wpOp_mono (fun a' w' h3 => ?_) h2
      obtain ⟨hy3, hS3, H3⟩ := h3
      refine ⟨hS3, ih (listed.setIfInBounds j true) a' w' ?_ (ready_mono hr (Ne.symm hji)) hy3 (hS3 hjz) ?_⟩
      · intro k ok hk hki hku hno
        refine hfree k ok hk hki ?_ hno
        by_cases hjk : j = k
        · subst hjk; exact hjun
        · rwa [getD_set_ne true hjk] at hku
      · rw [Array.setIfInBounds_comm _ _ hji]; exact H3
/-- Take number i first. -/
theorem anyN_take {i : Nat} {oi : Oper} {v : Value} {n : Nat} {listed : Array Bool} {a : Act} {w : World} (hi : ops[i]? = some oi)
    (hs : Region.noSelect ops = true) (hf : Region.free md ops listed i = true) (hr : (Region.ready md ops listed).contains i = true) (hz : ops[z]? = none)
    (hQ : ∀ c a w, Q (.panic c) (a.put oi.dst v) w → Q (.panic c) a w) (hS : S w) (hy : YieldsIf P ops S oi v a)
    (h : anyT P md ops Q S z n (listed.setIfInBounds i true) (a.put oi.dst v) w) : anyT P md ops Q S z (n + 1) listed a w :=
  anyN_first hi (Region.noSelect_spec hs) hQ hz n listed a w (Region.free_spec hi hf) (by simpa using hr) hy hS h
end
theorem boxes2h (w : World) (x y : Array Value) (t1 t2 : TypeId) : ∃ W, ((w.alloc (.cells x t1)).alloc (.cells y t2)) = W ∧ Below w.heap.size w W ∧ W.heap.size = w.heap.size + 2 ∧
    W.heap[w.heap.size]? = some (.cells x t1 (0, 0)) ∧ W.heap[w.heap.size + 1]? = some (.cells y t2 (0, 0)) := by
  have e1 : (w.alloc (.cells x t1)).heap.size = w.heap.size + 1 := by simp
  have hb0 := alloc_below w (.cells x t1)
  have hb1 := alloc_below (w.alloc (.cells x t1)) (.cells y t2)
  refine ⟨_, rfl, btr hb0 hb1 hb0.size, by simp, ?_, ?_⟩
  · have h := heap_alloc_new w (.cells x t1)
    exact (hb1.block _ (by omega)).trans h
  · have := heap_alloc_new (w.alloc (.cells x t1)) (.cells y t2)
    rwa [e1] at this
/-- What the walk holds from the state on. -/
structure PK (X T : Nat) (z0 z1 z2 : Int) (tx : Bs) (ca : Option Addr) (cc : Nat) (ct : List Bs) (W : World) : Prop where
  tri : W.heap[X]? = some (.cells #[.int .i64 z0, .int .i64 z1, .int .i64 z2] 50 (0, 0))
  st : W.heap[T]? = some (.cells #[S tx, .slice ca ct.length cc] 32 (0, 0))
  tl : TailAt W (.slice ca ct.length cc) ct
theorem PK.below {X T : Nat} {z0 z1 z2 : Int} {tx : Bs} {ca : Option Addr} {cc : Nat} {ct : List Bs} {W W' : World} (h : PK X T z0 z1 z2 tx ca cc ct W) (hb : Below W.heap.size W W') : PK X T z0 z1 z2 tx ca cc ct W' :=
  ⟨(hb.block _ (blk_lt h.tri)).trans h.tri, (hb.block _ (blk_lt h.st)).trans h.st, h.tl.below hb⟩
theorem PK.cells {X T : Nat} {z0 z1 z2 : Int} {tx : Bs} {ca : Option Addr} {cc : Nat} {ct : List Bs} {W : World} (h : PK X T z0 z1 z2 tx ca cc ct W) :
    W.cell? ⟨X, 0, none⟩ = some (.int .i64 z0) ∧ W.cell? ⟨X, 1, none⟩ = some (.int .i64 z1) ∧ W.cell? ⟨X, 2, none⟩ = some (.int .i64 z2) ∧ W.cell? ⟨T, 0, none⟩ = some (S tx) ∧ W.cell? ⟨T, 1, none⟩ = some (.slice ca ct.length cc) :=
  ⟨Lib.cell_of_heap h.tri 0, Lib.cell_of_heap h.tri 1, Lib.cell_of_heap h.tri 2, Lib.cell_of_heap h.st 0, Lib.cell_of_heap h.st 1⟩
set_option maxHeartbeats 8000000 in
set_option maxRecDepth 100000 in
theorem images_7 (kd : Int) (text : Bs) (tv : Value) (tl : List Bs) (fill : Bs) (z0 z1 z2 : Int) (w : World) (ht : TailAt w tv tl) :
    Calls Tryd.prog 7 #[.agg #[.int .i64 kd, S text, tv], S fill, .agg #[.int .i64 z0, .int .i64 z1, .int .i64 z2]] w fun e w' => e = .returned (.bool true) ∧ Below w.heap.size w w' := by
  have HT : Hid (∀ W, Below w.heap.size w W → TailAt W tv tl) := fun W hb => ht.below hb
  obtain ⟨qm, hqm⟩ : ∃ qm, qm = min fill.length 150 := ⟨_, rfl⟩
  have hmn : min (fill.length : Int) 150 = (qm : Int) := by omega
  have hq1 : qm ≤ fill.length := by omega
  have hq2 : qm ≤ 150 := by omega
  obtain ⟨ta, tcap, rfl, _⟩ := id ht
  clear ht hqm
  go_enter Tryd.func7, Tryd.ntmps7
  go_wp2_with fail
  obtain ⟨w1, hw1, hb1, hsz1, hx1, ht1⟩ := boxes2h w #[.int .i64 kd, S text, .slice ta tl.length tcap] #[.int .i64 z0, .int .i64 z1, .int .i64 z2] 34 50
  rw [hw1]
  clear hw1
  ((with_reducible refine Calls.mono (sanity_11 w1) ?_); rintro e w2 ⟨rfl, hb2⟩)
  have hx2 := (hb2.block _ (blk_lt hx1)).trans hx1
  have ht2 := (hb2.block _ (blk_lt ht1)).trans ht1
  have hsz2 := hb2.size
  have HB2 := Lib.hid (btr hb1 hb2 hb1.size)
  have x0 := Lib.cell_of_heap hx2 0
  have x1 := Lib.cell_of_heap hx2 1
  have x2 := Lib.cell_of_heap hx2 2
  simp at x0 x1 x2
  have HX2 := Lib.hid hx2
  have HT2 := Lib.hid ht2
  clear hb1 hx1 ht1 hb2 hx2 ht2
  go_wp2_with fail
  have HCUT := Lib.hid (cut_14 w2 kd text _ tl (HT.out w2 HB2.out))
  ((with_reducible refine Calls.mono HCUT.out ?_); rintro e w3 ⟨⟨ca, cc, rfl, hsl3⟩, hb3⟩)
  have hx3 := (hb3.block _ (blk_lt HX2.out)).trans HX2.out
  have ht3 := (hb3.block _ (blk_lt HT2.out)).trans HT2.out
  have f0 := Lib.frozen_of_heap hx3 0
  have f1 := Lib.frozen_of_heap hx3 1
  have f2 := Lib.frozen_of_heap hx3 2
  have x0 := Lib.cell_of_heap hx3 0
  have x1 := Lib.cell_of_heap hx3 1
  have x2 := Lib.cell_of_heap hx3 2
  simp at x0 x1 x2
  have HX3 := Lib.hid hx3
  have HT3 := Lib.hid ht3
  have HB3 := Lib.hid (btr HB2.out hb3 HB2.out.size)
  obtain ⟨m, hm⟩ : ∃ m, m = modR kd 6 := ⟨_, rfl⟩
  obtain ⟨tx, htx⟩ : ∃ tx, tx = text.take 90 := ⟨_, rfl⟩
  obtain ⟨ct, hct⟩ : ∃ ct, ct = cutsR tl := ⟨_, rfl⟩
  have HTX : Hid (tx.length ≤ 90) := by show _ ≤ _; rw [htx, List.length_take]; omega
  have HCT : Hid (∀ r ∈ ct, r.length ≤ 90) := by rw [hct]; exact cuts_small _
  have HCL : Hid (ct.length ≤ 4) := by rw [hct]; exact cuts_len _
  rw [← hm, ← htx, ← hct]
  rw [← hct] at hsl3
  have HSL3 : Hid (SliceAt (w.heap.size + 1) w3.heap.size w3 (.slice ca ct.length cc) ct.length (ct.map S)) := hsl3.mono (by omega) (Nat.le_refl _)
  clear hm htx hct hsl3 hb3 hx3 ht3 HX2 HT2 HCUT
  go_upto_region 3 with fail
  obtain ⟨w4, hw4, hx4, ho4⟩ := set3' w3 w.heap.size _ _ _ (.int .i64 m) (S tx) (.slice ca ct.length cc) 34 HX3.out
  rw [hw4]
  have HB4 := Lib.hid (HB3.out.trans (ho4.below (Nat.le_refl _)))
  have HSL4 := Lib.hid (HSL3.out.kept (ho4.kept (.inl (Nat.lt_succ_self _))))
  have ht4 := (ho4.block (w.heap.size + 1) (by omega)).trans HT3.out
  have HZ4 : Hid (w3.heap.size ≤ w4.heap.size) := Nat.le_of_eq ho4.size.symm
  have y1 := Lib.cell_of_heap hx4 1
  have y2 := Lib.cell_of_heap hx4 2
  simp at y1 y2
  have HT4 := Lib.hid ht4
  clear hw4 hx4 ho4 ht4 f0 f1 f2 x0 x1 x2 HX3 HT3 HB2 HB3 HSL3 hsz1 hsz2
  go_upto_region 5 with fail
  have HZ : Hid (w.heap.size + 2 ≤ w4.heap.size) := by have := blk_lt HT4.out; show _ ≤ _; omega
  obtain ⟨w5, hw5⟩ : ∃ w5, w4.alloc (.cells #[S tx, .slice ca ct.length cc] 32) = w5 := ⟨_, rfl⟩
  have HPK : Hid (PK (w.heap.size + 1) w4.heap.size z0 z1 z2 tx ca cc ct w5) := by
    have ha := alloc_below w4 (.cells #[S tx, .slice ca ct.length cc] 32)
    have hx := heap_alloc_new w4 (.cells #[S tx, .slice ca ct.length cc] 32)
    rw [hw5] at ha hx
    have ht : TailAt w4 (.slice ca ct.length cc) ct := HSL4.out.mono (Nat.zero_le _) HZ4.out
    exact ⟨(ha.block _ (blk_lt HT4.out)).trans HT4.out, hx, ht.below ha⟩
  have HB5 : Hid (Below w.heap.size w w5) := by rw [← hw5]; exact btr HB4.out (alloc_below w4 _) HB4.out.size
  rw [hw5]
  clear hw5 HB4 HSL4 HT4 y1 y2 HZ
  generalize w.heap.size + 1 = X at *
  generalize w4.heap.size = T at *
  have HPKB : Hid (∀ W, Below w5.heap.size w5 W → PK X T z0 z1 z2 tx ca cc ct W) := fun W hb => HPK.out.below hb
  have HSS : Hid (∀ W, Below w5.heap.size w5 W → W.cell? ⟨T, 0, none⟩ = some (S tx) ∧ W.cell? ⟨T, 1, none⟩ = some (.slice ca ct.length cc)) := fun W hb => ⟨(HPKB.out W hb).cells.2.2.2.1, (HPKB.out W hb).cells.2.2.2.2⟩
  have him := image_small tx ct HTX.out HCT.out
  have himl : (imageR tx ct).length ≤ 500 := by have := HCL.out; omega
  have HIM0 := Lib.hid (fun (W : World) (hb : Below w5.heap.size w5 W) => image_25 tx _ ct W (HPKB.out W hb).tl (by omega))
  have HCP0 : Hid (∀ (W : World), Below w5.heap.size w5 W → ∀ m : Int, Calls Tryd.prog 26 #[.agg #[S tx, .slice ca ct.length cc], S (fill.take qm), .int .i64 m] W fun e w' => (∃ r : Bs, e = .returned (S r) ∧ r.length ≤ 12000) ∧ Below W.heap.size W w') := fun W hb m => copied_26 tx _ ct W (HPKB.out W hb).tl (by omega) _ (by rw [List.length_take]; omega) m
  obtain ⟨Y, hY⟩ : ∃ Y, Y = imageR tx ct := ⟨_, rfl⟩
  obtain ⟨Z, hZ⟩ : ∃ Z, Z = zerosR 64 := ⟨_, rfl⟩
  obtain ⟨fl, hfl⟩ : ∃ fl, fl = fill.take qm := ⟨_, rfl⟩
  have hZl : Z.length = 64 := by rw [hZ, zeros_len]
  have hfll : fl.length ≤ 150 := by rw [hfl, List.length_take]; omega
  have HIM : Hid (∀ W : World, Below w5.heap.size w5 W → Calls Tryd.prog 25 #[S tx, .slice ca ct.length cc] W fun e w' => e = .returned (S Y) ∧ Below W.heap.size W w') := by rw [hY]; exact HIM0.out
  have HCP : Hid (∀ (W : World), Below w5.heap.size w5 W → ∀ m : Int, Calls Tryd.prog 26 #[.agg #[S tx, .slice ca ct.length cc], S fl, .int .i64 m] W fun e w' => (∃ r : Bs, e = .returned (S r) ∧ r.length ≤ 12000) ∧ Below W.heap.size W w') := by rw [hfl]; exact HCP0.out
  have mk64 := mk64
  rw [← hZ] at mk64
  rw [← hY] at himl
  rw [← hfl]
  have s1 : ¬ 9223372036854775807 < Z.length + Y.length := by omega
  have s2 : ¬ 9223372036854775807 < 64 + Y.length := by omega
  obtain ⟨D, hD⟩ : ∃ D, D = Z ++ Y := ⟨_, rfl⟩
  have hDl : D.length ≤ 600 := by rw [hD, List.length_append]; omega
  go_cut [9] (fun t wx => t = S (Z ++ Y) ∧ Below w5.heap.size w5 wx)
  case first =>
    clear HIM0 hZl hfl hY hZ HCP0 HPK HPKB him hD hDl hmn hq1 hq2 himl
    refine wp_region_T (fun w' => w'.cell? ⟨T, 0, none⟩ = some (S tx) ∧ w'.cell? ⟨T, 1, none⟩ = some (.slice ca ct.length cc)) 8 (by kernel_rfl) ?_
    have HB0 : Hid (Below w5.heap.size w5 w5.drew) := (Below.refl _ w5).drew
    have hs0 := HSS.out _ HB0.out
    generalize w5.drew = W1 at *
    refine anyT_take (i := 2) (v := ?_) rfl (by kernel_rfl) (by kernel_rfl) (by kernel_rfl) (by kernel_rfl) (by decide) (fun _ _ _ h => h) hs0 (Or.inl ⟨by rfl, ?_⟩) ?_
    rotate_left
    · intro w' h; obtain ⟨h0, h1⟩ := h; go_simp; rfl
    refine anyT_take (i := 3) (v := ?_) rfl (by kernel_rfl) (by kernel_rfl) (by kernel_rfl) (by kernel_rfl) (by decide) (fun _ _ _ h => h) hs0 (Or.inl ⟨by rfl, ?_⟩) ?_
    rotate_left
    · intro w' h; obtain ⟨h0, h1⟩ := h; go_simp; rfl
    refine anyT_take (i := 4) (v := ?_) rfl (by kernel_rfl) (by kernel_rfl) (by kernel_rfl) (by kernel_rfl) (by decide) (fun _ _ _ h => h) hs0 (Or.inl ⟨by rfl, ?_⟩) ?_
    rotate_left
    · intro w' h; obtain ⟨h0, h1⟩ := h; go_simp; rfl
    refine anyT_take (i := 5) (v := ?_) rfl (by kernel_rfl) (by kernel_rfl) (by kernel_rfl) (by kernel_rfl) (by decide) (fun _ _ _ h => h) hs0 (Or.inl ⟨by rfl, ?_⟩) ?_
    rotate_left
    · intro w' h; obtain ⟨h0, h1⟩ := h; go_simp; rfl
    simp only [Act.put, List.setIfInBounds_toArray]
    refine anyT_two (i := 0) (j := 6) rfl rfl (by kernel_rfl) rfl rfl (fun K hK => ?_) (fun K hK => ?_)
    · skip
      go_simp
      obtain ⟨v1, hm1, hc1, hb1⟩ := mk64 W1
      have HC1 := Lib.hid hc1
      have HB1 := Lib.hid (btr HB0.out hb1 HB0.out.size)
      have hs1 := HSS.out _ HB1.out
      generalize hg1 : W1.heap.size = g1 at *
      clear hc1 hb1 hg1
      go_simp
      refine hK _ _ (fun _ => hs1) ?_
      clear hK K
      refine anyT_two (i := 1) (j := 6) rfl rfl (by kernel_rfl) rfl rfl (fun K hK => ?_) (fun K hK => ?_)
      · skip
        go_simp
        have hx2 := HC1.out v1 (Below.refl _ _)
        go_simp
        refine hK _ _ (fun _ => hs1) ?_
        clear hK K
        refine anyT_do (i := 6) rfl (by kernel_rfl) rfl (fun K hK => ?_)
        go_simp
        (go_at_call 25; ((with_reducible refine Calls.mono (HIM.out _ HB1.out) ?_); rintro e v3 ⟨rfl, hb3⟩))
        have HB3 := Lib.hid (btr HB1.out hb3 HB1.out.size)
        have hs3 := HSS.out _ HB3.out
        clear hb3
        refine hK _ _ (fun _ => hs3) ?_
        clear hK K
        refine anyT_do (i := 7) rfl (by kernel_rfl) rfl (fun K hK => ?_)
        go_simp
        refine hK _ _ (fun _ => hs3) ?_
        clear hK K
        refine anyT_do (i := 8) rfl (by kernel_rfl) rfl (fun K hK => ?_)
        go_simp
        refine hK _ _ (fun h => absurd rfl h) ?_
        clear hK K
        refine anyT_done (by kernel_rfl) ?_ _
        go_wp2_with fail
        go_meet
        exact ⟨rfl, HB3.out⟩
      · skip
        go_simp
        (go_at_call 25; ((with_reducible refine Calls.mono (HIM.out _ HB1.out) ?_); rintro e v7 ⟨rfl, hb7⟩))
        have HB7 := Lib.hid (btr HB1.out hb7 HB1.out.size)
        have hs7 := HSS.out _ HB7.out
        have hv7 := HC1.out v7 hb7
        clear hb7
        refine hK _ _ (fun _ => hs7) ?_
        clear hK K
        refine anyT_do (i := 1) rfl (by kernel_rfl) rfl (fun K hK => ?_)
        go_simp
        skip
        go_simp
        refine hK _ _ (fun _ => hs7) ?_
        clear hK K
        refine anyT_do (i := 7) rfl (by kernel_rfl) rfl (fun K hK => ?_)
        go_simp
        refine hK _ _ (fun _ => hs7) ?_
        clear hK K
        refine anyT_do (i := 8) rfl (by kernel_rfl) rfl (fun K hK => ?_)
        go_simp
        refine hK _ _ (fun h => absurd rfl h) ?_
        clear hK K
        refine anyT_done (by kernel_rfl) ?_ _
        go_wp2_with fail
        go_meet
        exact ⟨rfl, HB7.out⟩
    · skip
      go_simp
      (go_at_call 25; ((with_reducible refine Calls.mono (HIM.out _ HB0.out) ?_); rintro e v12 ⟨rfl, hb12⟩))
      have HB12 := Lib.hid (btr HB0.out hb12 HB0.out.size)
      have hs12 := HSS.out _ HB12.out
      clear hb12
      refine hK _ _ (fun _ => hs12) ?_
      clear hK K
      refine anyT_do (i := 0) rfl (by kernel_rfl) rfl (fun K hK => ?_)
      go_simp
      obtain ⟨v13, hm13, hc13, hb13⟩ := mk64 v12
      have HC13 := Lib.hid hc13
      have HB13 := Lib.hid (btr HB12.out hb13 HB12.out.size)
      have hs13 := HSS.out _ HB13.out
      generalize hg13 : v12.heap.size = g13 at *
      clear hc13 hb13 hg13
      go_simp
      refine hK _ _ (fun _ => hs13) ?_
      clear hK K
      refine anyT_do (i := 1) rfl (by kernel_rfl) rfl (fun K hK => ?_)
      go_simp
      have hx14 := HC13.out v13 (Below.refl _ _)
      go_simp
      refine hK _ _ (fun _ => hs13) ?_
      clear hK K
      refine anyT_do (i := 7) rfl (by kernel_rfl) rfl (fun K hK => ?_)
      go_simp
      refine hK _ _ (fun _ => hs13) ?_
      clear hK K
      refine anyT_do (i := 8) rfl (by kernel_rfl) rfl (fun K hK => ?_)
      go_simp
      refine hK _ _ (fun h => absurd rfl h) ?_
      clear hK K
      refine anyT_done (by kernel_rfl) ?_ _
      go_wp2_with fail
      go_meet
      exact ⟨rfl, HB13.out⟩
  case rest =>
    clear HIM0 hZl hfl hY hZ HCP0 him HSS mk64 hmn hq1 hq2 himl s1 s2
    obtain ⟨rfl, hb6⟩ := hcut
    rw [← hD]
    clear hD
    generalize wc = w6 at *
    have HP6 : Hid (PK X T z0 z1 z2 tx ca cc ct w6) := HPKB.out w6 hb6
    have HB6 := Lib.hid hb6
    have HSS : Hid (∀ W, Below w6.heap.size w6 W → W.cell? ⟨X, 0, none⟩ = some (.int .i64 z0) ∧ W.cell? ⟨T, 0, none⟩ = some (S tx) ∧ W.cell? ⟨T, 1, none⟩ = some (.slice ca ct.length cc)) := fun W hb => by
      have h := (HP6.out.below hb).cells
      exact ⟨h.1, h.2.2.2.1, h.2.2.2.2⟩
    have HK6 : Hid (∀ (W : World), Below w6.heap.size w6 W → Calls Tryd.prog 26 #[.agg #[S tx, .slice ca ct.length cc], S fl, .int .i64 z0] W fun e w' => (∃ r : Bs, e = .returned (S r) ∧ r.length ≤ 12000) ∧ Below W.heap.size W w') := fun W hb => HCP.out W (btr HB6.out hb HB6.out.size) z0
    clear hb6 HPKB
    have s1 : ¬ 9223372036854775807 < D.length + 1 + fl.length := by omega
    have sD : ¬ 9223372036854775807 < D.length + 1 := by omega
    have sF : ¬ 9223372036854775807 < 1 + fl.length := by omega
    have sG : ¬ 9223372036854775807 < D.length + (1 + fl.length) := by omega
    go_upto_region 6 with fail
    go_cut [54, 55, 56] (fun v n i wx => ∃ (G : Nat) (a1 a2 a3 a4 a5 : Bs), v = .slice (some ⟨G, 0, none⟩) 5 5 ∧ n = .int .i64 5 ∧ i = .int .i64 0 ∧ wx.heap[G]? = some (.cells #[S a1, S a2, S a3, S a4, S a5] 9 (0, 0)) ∧ (a1.length ≤ 13000 ∧ a2.length ≤ 13000 ∧ a3.length ≤ 13000 ∧ a4.length ≤ 13000 ∧ a5.length ≤ 13000) ∧ Below w6.heap.size w6 wx)
    case first =>
      refine wp_region_T (fun w' => w'.cell? ⟨X, 0, none⟩ = some (.int .i64 z0) ∧ w'.cell? ⟨T, 0, none⟩ = some (S tx) ∧ w'.cell? ⟨T, 1, none⟩ = some (.slice ca ct.length cc)) 99 (by kernel_rfl) ?_
      have HB0 : Hid (Below w6.heap.size w6 w6.drew) := (Below.refl _ w6).drew
      have hs0 := HSS.out _ HB0.out
      generalize w6.drew = W1 at *
      refine anyN_take (i := 0) (v := ?_) rfl (by kernel_rfl) (by kernel_rfl) (by kernel_rfl) (by kernel_rfl) (fun _ _ _ h => h) hs0 (Or.inl ⟨by rfl, ?_⟩) ?_
      rotate_left
      · intro w' h; obtain ⟨h0, h1, h2⟩ := h; go_simp; rfl
      (try go_simp)
      refine anyN_take (i := 1) (v := ?_) rfl (by kernel_rfl) (by kernel_rfl) (by kernel_rfl) (by kernel_rfl) (fun _ _ _ h => h) hs0 (Or.inl ⟨by rfl, ?_⟩) ?_
      rotate_left
      · intro w' h; obtain ⟨h0, h1, h2⟩ := h; go_simp; rfl
      (try go_simp)
      refine anyN_take (i := 2) (v := ?_) rfl (by kernel_rfl) (by kernel_rfl) (by kernel_rfl) (by kernel_rfl) (fun _ _ _ h => h) hs0 (Or.inl ⟨by rfl, ?_⟩) ?_
      rotate_left
      · intro w' h; obtain ⟨h0, h1, h2⟩ := h; go_simp; rfl
      (try go_simp)
      refine anyN_take (i := 3) (v := ?_) rfl (by kernel_rfl) (by kernel_rfl) (by kernel_rfl) (by kernel_rfl) (fun _ _ _ h => h) hs0 (Or.inl ⟨by rfl, ?_⟩) ?_
      rotate_left
      · intro w' h; obtain ⟨h0, h1, h2⟩ := h; go_simp; rfl
      (try go_simp)
      refine anyN_take (i := 4) (v := ?_) rfl (by kernel_rfl) (by kernel_rfl) (by kernel_rfl) (by kernel_rfl) (fun _ _ _ h => h) hs0 (Or.inl ⟨by rfl, ?_⟩) ?_
      rotate_left
      · intro w' h; obtain ⟨h0, h1, h2⟩ := h; go_simp; rfl
      (try go_simp)
      refine anyN_take (i := 5) (v := ?_) rfl (by kernel_rfl) (by kernel_rfl) (by kernel_rfl) (by kernel_rfl) (fun _ _ _ h => h) hs0 (Or.inl ⟨by rfl, ?_⟩) ?_
      rotate_left
      · intro w' h; obtain ⟨h0, h1, h2⟩ := h; go_simp; rfl
      (try go_simp)
      refine anyN_take (i := 6) (v := ?_) rfl (by kernel_rfl) (by kernel_rfl) (by kernel_rfl) (by kernel_rfl) (fun _ _ _ h => h) hs0 (Or.inl ⟨by rfl, ?_⟩) ?_
      rotate_left
      · intro w' h; obtain ⟨h0, h1, h2⟩ := h; go_simp; rfl
      (try go_simp)
      refine anyN_take (i := 7) (v := ?_) rfl (by kernel_rfl) (by kernel_rfl) (by kernel_rfl) (by kernel_rfl) (fun _ _ _ h => h) hs0 (Or.inl ⟨by rfl, ?_⟩) ?_
      rotate_left
      · intro w' h; obtain ⟨h0, h1, h2⟩ := h; go_simp; rfl
      (try go_simp)
      refine anyN_take (i := 8) (v := ?_) rfl (by kernel_rfl) (by kernel_rfl) (by kernel_rfl) (by kernel_rfl) (fun _ _ _ h => h) hs0 (Or.inl ⟨by rfl, ?_⟩) ?_
      rotate_left
      · intro w' h; obtain ⟨h0, h1, h2⟩ := h; go_simp; rfl
      (try go_simp)
      refine anyN_take (i := 10) (v := ?_) rfl (by kernel_rfl) (by kernel_rfl) (by kernel_rfl) (by kernel_rfl) (fun _ _ _ h => h) hs0 (Or.inl ⟨by rfl, ?_⟩) ?_
      rotate_left
      · intro w' h; obtain ⟨h0, h1, h2⟩ := h; go_simp; rfl
      (try go_simp)
      refine anyN_take (i := 11) (v := ?_) rfl (by kernel_rfl) (by kernel_rfl) (by kernel_rfl) (by kernel_rfl) (fun _ _ _ h => h) hs0 (Or.inl ⟨by rfl, ?_⟩) ?_
      rotate_left
      · intro w' h; obtain ⟨h0, h1, h2⟩ := h; go_simp; rfl
      (try go_simp)
      refine anyN_take (i := 12) (v := ?_) rfl (by kernel_rfl) (by kernel_rfl) (by kernel_rfl) (by kernel_rfl) (fun _ _ _ h => h) hs0 (Or.inl ⟨by rfl, ?_⟩) ?_
      rotate_left
      · intro w' h; obtain ⟨h0, h1, h2⟩ := h; go_simp; rfl
      (try go_simp)
      refine anyN_take (i := 13) (v := ?_) rfl (by kernel_rfl) (by kernel_rfl) (by kernel_rfl) (by kernel_rfl) (fun _ _ _ h => h) hs0 (Or.inl ⟨by rfl, ?_⟩) ?_
      rotate_left
      · intro w' h; obtain ⟨h0, h1, h2⟩ := h; go_simp; rfl
      (try go_simp)
      refine anyN_take (i := 16) (v := ?_) rfl (by kernel_rfl) (by kernel_rfl) (by kernel_rfl) (by kernel_rfl) (fun _ _ _ h => h) hs0 (Or.inl ⟨by rfl, ?_⟩) ?_
      rotate_left
      · intro w' h; obtain ⟨h0, h1, h2⟩ := h; go_simp; rfl
      (try go_simp)
      refine anyN_take (i := 18) (v := ?_) rfl (by kernel_rfl) (by kernel_rfl) (by kernel_rfl) (by kernel_rfl) (fun _ _ _ h => h) hs0 (Or.inl ⟨by rfl, ?_⟩) ?_
      rotate_left
      · intro w' h; obtain ⟨h0, h1, h2⟩ := h; go_simp; rfl
      (try go_simp)
      refine anyN_take (i := 19) (v := ?_) rfl (by kernel_rfl) (by kernel_rfl) (by kernel_rfl) (by kernel_rfl) (fun _ _ _ h => h) hs0 (Or.inl ⟨by rfl, ?_⟩) ?_
      rotate_left
      · intro w' h; obtain ⟨h0, h1, h2⟩ := h; go_simp; rfl
      (try go_simp)
      refine anyN_take (i := 22) (v := ?_) rfl (by kernel_rfl) (by kernel_rfl) (by kernel_rfl) (by kernel_rfl) (fun _ _ _ h => h) hs0 (Or.inl ⟨by rfl, ?_⟩) ?_
      rotate_left
      · intro w' h; obtain ⟨h0, h1, h2⟩ := h; go_simp; rfl
      (try go_simp)
      refine anyT_do (i := 9) rfl (by kernel_rfl) rfl (fun K hK => ?_)
      go_simp
      (go_at_call 26; ((with_reducible refine Calls.mono (HK6.out _ HB0.out) ?_); rintro e v1 ⟨⟨r1, rfl, hr1⟩, hb1⟩))
      have HB1 := Lib.hid (btr HB0.out hb1 HB0.out.size)
      have hs1 := HSS.out _ HB1.out
      have s2 : ¬ 9223372036854775807 < r1.length + 1 + fl.length := by omega
      have sr1 : ¬ 9223372036854775807 < r1.length + 1 := by omega
      have sq1 : ¬ 9223372036854775807 < r1.length + (1 + fl.length) := by omega
      clear hb1
      refine hK _ _ (fun _ => hs1) ?_
      clear hK K
      (try go_simp)
      refine anyT_do (i := 14) rfl (by kernel_rfl) rfl (fun K hK => ?_)
      go_simp
      go_simp
      (go_at_call 26; ((with_reducible refine Calls.mono (HK6.out _ HB1.out) ?_); rintro e v2 ⟨⟨r2, rfl, hr2⟩, hb2⟩))
      have HB2 := Lib.hid (btr HB1.out hb2 HB1.out.size)
      have hs2 := HSS.out _ HB2.out
      have s3 : ¬ 9223372036854775807 < r2.length + 1 + fl.length := by omega
      have sr2 : ¬ 9223372036854775807 < r2.length + 1 := by omega
      have sq2 : ¬ 9223372036854775807 < r2.length + (1 + fl.length) := by omega
      clear hb2
      refine hK _ _ (fun _ => hs2) ?_
      clear hK K
      (try go_simp)
      refine anyN_take (i := 15) (v := ?_) rfl (by kernel_rfl) (by kernel_rfl) (by kernel_rfl) (by kernel_rfl) (fun _ _ _ h => h) hs2 (Or.inl ⟨by rfl, ?_⟩) ?_
      rotate_left
      · intro w' h; obtain ⟨h0, h1, h2⟩ := h; go_simp; rfl
      (try go_simp)
      refine anyN_take (i := 17) (v := ?_) rfl (by kernel_rfl) (by kernel_rfl) (by kernel_rfl) (by kernel_rfl) (fun _ _ _ h => h) hs2 (Or.inl ⟨by rfl, ?_⟩) ?_
      rotate_left
      · intro w' h; obtain ⟨h0, h1, h2⟩ := h; go_simp; rfl
      (try go_simp)
      refine anyT_do (i := 20) rfl (by kernel_rfl) rfl (fun K hK => ?_)
      go_simp
      have haa := alloc_below v2 (.cells #[S D, S (D ++ 0 :: fl), S r1, S (r2 ++ 0 :: fl), S (0 :: fl)] 9)
      have hxa := heap_alloc_new v2 (.cells #[S D, S (D ++ 0 :: fl), S r1, S (r2 ++ 0 :: fl), S (0 :: fl)] 9)
      have HB3 := Lib.hid (btr HB2.out haa HB2.out.size)
      have HX3 := Lib.hid hxa
      have hs3 := HSS.out _ HB3.out
      clear haa hxa
      generalize v2.heap.size = G at *
      generalize v2.alloc (.cells #[.string ⟨D.toArray⟩, .string ⟨(D ++ 0 :: fl).toArray⟩, .string ⟨r1.toArray⟩, .string ⟨(r2 ++ 0 :: fl).toArray⟩, .string ⟨(0 :: fl).toArray⟩] 9) = v3 at *
      refine hK _ _ (fun _ => hs3) ?_
      clear hK K
      refine anyT_do (i := 21) rfl (by kernel_rfl) rfl (fun K hK => ?_)
      go_simp
      refine hK _ _ (fun _ => hs3) ?_
      clear hK K
      refine anyT_done (by kernel_rfl) ?_ _
      go_wp2_with fail
      go_meet
      refine ⟨G, D, D ++ 0 :: fl, r1, r2 ++ 0 :: fl, 0 :: fl, rfl, rfl, rfl, HX3.out, ?_, HB3.out⟩
      simp only [List.length_append, List.length_cons]
      omega
    case rest =>
      obtain ⟨G, a1, a2, a3, a4, a5, rfl, rfl, rfl, hx7, ⟨hl1, hl2, hl3, hl4, hl5⟩, hb7⟩ := hcut
      have HP7 : Hid (PK X T z0 z1 z2 tx ca cc ct wc) := HP6.out.below hb7
      have HB7 : Hid (Below w.heap.size w wc) := btr HB5.out (btr HB6.out hb7 HB6.out.size) HB5.out.size
      obtain ⟨ax, hax⟩ : ∃ ax : List Bs, ax = [a1, a2, a3, a4, a5] := ⟨_, rfl⟩
      have HAS : Hid (∀ W, Below wc.heap.size wc W → ∀ k (h : k < ax.length), W.cell? ⟨G, k, none⟩ = some (S ax[k])) := fun W hb k hk => by
        have hx := (hb.block _ (blk_lt hx7)).trans hx7
        subst hax
        rcases k with _ | _ | _ | _ | _ | k
        · exact Lib.cell_of_heap hx 0
        · exact Lib.cell_of_heap hx 1
        · exact Lib.cell_of_heap hx 2
        · exact Lib.cell_of_heap hx 3
        · exact Lib.cell_of_heap hx 4
        · simp at hk; omega
      have HAL : Hid (∀ k (h : k < ax.length), (ax[k]).length ≤ 13000) := fun k hk => by
        subst hax
        rcases k with _ | _ | _ | _ | _ | k <;> simp at hk ⊢ <;> omega
      have hlen : ax.length = 5 := by rw [hax]; rfl
      clear hax hx7 hb7 hl1 hl2 hl3 hl4 hl5 HB6 HP6 HK6 HSS HCP HIM HPK HB5
      generalize wc = w7 at *
      go_wp2_with fail
      go_loopw [56] (fun i wr => ∃ k : Nat, i = .int .i64 k ∧ k ≤ 5 ∧ Hid (Below w7.heap.size w7 wr)) (fun i _ => 5 - (intOf i).toNat)
      case atStart => exact ⟨0, rfl, by omega, Below.refl _ _⟩
      case round =>
        obtain ⟨k, rfl, hk, HB⟩ := hrel
        by_cases hlt : k < 5
        · have hka : k < ax.length := by omega
          have hx := HAS.out wr HB.out k hka
          have hcl := HAL.out k hka
          obtain ⟨c, hc⟩ : ∃ c, c = ax[k] := ⟨_, rfl⟩
          rw [← hc] at hx hcl
          clear hc
          have HO1 := Lib.hid (fun W => opens_24 c (by omega) W)
          go_wp2_with fail
          ((with_reducible refine Calls.mono (HO1.out wr) ?_); rintro e w8 ⟨rfl, hb8⟩)
          have HB8 := Lib.hid (btr HB.out hb8 HB.out.size)
          clear hb8 hx
          have hbw := bytesW_below w8 c
          have hbb := BB.bytes w8 c
          have HBW := Lib.hid hbw
          have HBB := Lib.hid hbb
          clear hbw hbb
          go_wp2_with fail
          rw [conv_rule]
          obtain ⟨w9, hw9⟩ : ∃ w9, w9 = bytesW w8 c := ⟨_, rfl⟩
          obtain ⟨cp, hcp⟩ : ∃ cp, cp = capR w8 c := ⟨_, rfl⟩
          obtain ⟨B, hB⟩ : ∃ B, B = w8.heap.size := ⟨_, rfl⟩
          have HB9 := Lib.hid (btr HB8.out HBW.out HB8.out.size)
          have HLB : Hid (w7.heap.size ≤ B) := by rw [hB]; exact HB8.out.size
          rw [← hw9] at HB9 HBB
          rw [← hB] at HBB
          rw [← hw9, ← hcp, ← hB]
          clear hw9 hcp hB HBW HB8
          have hcells := (HP7.out.below HB9.out).cells
          obtain ⟨c0, c1, c2, _, _⟩ := hcells
          go_upto_if 67 with fail
          go_cut [] (fun wx => BB wx B c.length ∧ Below w7.heap.size w7 wx)
          case first =>
            by_cases h0 : 0 < c.length
            · go_wp2_with fail
              have hmr := modR_lt z1 c.length h0
              have HMD1 : Hid (∀ W, Calls Tryd.prog 27 #[.int .i64 z1, .int .i64 c.length] W fun e w1 => e = .returned (.int .i64 (modR z1 c.length)) ∧ w1 = W) := fun W => mod_27 z1 c.length h0 (by omega) W
              generalize modR z1 c.length = mo at *
              have HBB1 : Hid (BB w9.drew B c.length) := HBB.out.below (cell_lt (HBB.out 0 h0).1.choose_spec) (Below.refl _ _).drew
              have HB91 : Hid (Below w7.heap.size w7 w9.drew) := HB9.out.drew
              refine wp_region_T (fun w' => w'.cell? ⟨X, 1, none⟩ = some (.int .i64 z1) ∧ w'.cell? ⟨X, 2, none⟩ = some (.int .i64 z2)) 10 (by kernel_rfl) ?_
              have hs0 : w9.drew.cell? ⟨X, 1, none⟩ = some (.int .i64 z1) ∧ w9.drew.cell? ⟨X, 2, none⟩ = some (.int .i64 z2) := ⟨c1, c2⟩
              generalize w9.drew = W1 at *
              refine anyT_take (i := 0) (v := ?_) rfl (by kernel_rfl) (by kernel_rfl) (by kernel_rfl) (by kernel_rfl) (by decide) (fun _ _ _ h => h) hs0 (Or.inl ⟨by rfl, ?_⟩) ?_
              rotate_left
              · intro w' h; obtain ⟨h1, h2⟩ := h; go_simp; rfl
              (try go_simp)
              refine anyT_take (i := 1) (v := ?_) rfl (by kernel_rfl) (by kernel_rfl) (by kernel_rfl) (by kernel_rfl) (by decide) (fun _ _ _ h => h) hs0 (Or.inl ⟨by rfl, ?_⟩) ?_
              rotate_left
              · intro w' h; obtain ⟨h1, h2⟩ := h; go_simp; rfl
              (try go_simp)
              refine anyT_take (i := 2) (v := ?_) rfl (by kernel_rfl) (by kernel_rfl) (by kernel_rfl) (by kernel_rfl) (by decide) (fun _ _ _ h => h) hs0 (Or.inl ⟨by rfl, ?_⟩) ?_
              rotate_left
              · intro w' h; obtain ⟨h1, h2⟩ := h; go_simp; rfl
              (try go_simp)
              refine anyT_take (i := 3) (v := ?_) rfl (by kernel_rfl) (by kernel_rfl) (by kernel_rfl) (by kernel_rfl) (by decide) (fun _ _ _ h => h) hs0 (Or.inl ⟨by rfl, ?_⟩) ?_
              rotate_left
              · intro w' h; obtain ⟨h1, h2⟩ := h; go_simp; rfl
              (try go_simp)
              refine anyT_take (i := 4) (v := ?_) rfl (by kernel_rfl) (by kernel_rfl) (by kernel_rfl) (by kernel_rfl) (by decide) (fun _ _ _ h => h) hs0 (Or.inl ⟨by rfl, ?_⟩) ?_
              rotate_left
              · intro w' h; obtain ⟨h1, h2⟩ := h; go_simp; rfl
              (try go_simp)
              refine anyT_take (i := 6) (v := ?_) rfl (by kernel_rfl) (by kernel_rfl) (by kernel_rfl) (by kernel_rfl) (by decide) (fun _ _ _ h => h) hs0 (Or.inl ⟨by rfl, ?_⟩) ?_
              rotate_left
              · intro w' h; obtain ⟨h1, h2⟩ := h; go_simp; rfl
              (try go_simp)
              refine anyT_take (i := 7) (v := ?_) rfl (by kernel_rfl) (by kernel_rfl) (by kernel_rfl) (by kernel_rfl) (by decide) (fun _ _ _ h => h) hs0 (Or.inl ⟨by rfl, ?_⟩) ?_
              rotate_left
              · intro w' h; obtain ⟨h1, h2⟩ := h; go_simp; rfl
              (try go_simp)
              refine anyT_take (i := 8) (v := ?_) rfl (by kernel_rfl) (by kernel_rfl) (by kernel_rfl) (by kernel_rfl) (by decide) (fun _ _ _ h => h) hs0 (Or.inl ⟨by rfl, ?_⟩) ?_
              rotate_left
              · intro w' h; obtain ⟨h1, h2⟩ := h; go_simp; rfl
              (try go_simp)
              refine anyT_do (i := 5) rfl (by kernel_rfl) rfl (fun K hK => ?_)
              go_simp
              (go_at_call 27; ((with_reducible refine Calls.mono (HMD1.out _) ?_); rintro e w10 ⟨rfl, hw⟩; have hw := hw.symm; subst hw))
              refine hK _ _ (fun _ => hs0) ?_
              clear hK K
              refine anyT_do (i := 9) rfl (by kernel_rfl) rfl (fun K hK => ?_)
              go_simp
              refine hK _ _ (fun _ => hs0) ?_
              clear hK K
              obtain ⟨⟨z, hz⟩, hfz⟩ := HBB1.out mo hmr
              refine anyT_do (i := 10) rfl (by kernel_rfl) rfl (fun K hK => ?_)
              go_simp
              refine hK _ _ (fun h => absurd rfl h) ?_
              clear hK K
              refine anyT_done (by kernel_rfl) ?_ _
              go_wp2_with fail
              go_meet
              exact ⟨HBB1.out.set _ _ (by rw [IntKind.wrap_u8]; omega), HB91.out.trans (((Only.refl B _).setCell _ _).below HLB.out)⟩
            · go_wp2_with fail
              go_meet
              exact ⟨HBB.out, HB9.out⟩
          case rest =>
            clear HBB HB9 c0 c1 c2 HO1
            obtain ⟨hbb, hb10⟩ := hcut
            obtain ⟨l, hl, hcv⟩ := hbb.conv cp
            have hcells := (HP7.out.below hb10).cells
            obtain ⟨c0, c1, c2, _, _⟩ := hcells
            have HB10 := Lib.hid hb10
            have HO2 := Lib.hid (fun W => opens_24 l (by omega) W)
            obtain ⟨mo, hmo⟩ : ∃ mo, mo = modR z1 (c.length + 1) := ⟨_, rfl⟩
            have hm2 : mo ≤ c.length := by have := modR_lt z1 (c.length + 1) (by omega); omega
            have HMD2 : Hid (∀ W, Calls Tryd.prog 27 #[.int .i64 z1, .int .i64 ((c.length : Int) + 1)] W fun e w1 => e = .returned (.int .i64 mo) ∧ w1 = W) := fun W => by
              rw [hmo]; exact mod_27 z1 (c.length + 1) (by omega) (by omega) W
            have HO3 := Lib.hid (fun W => opens_24 (c.take mo) (by rw [List.length_take]; omega) W)
            clear hmo hbb hb10 hl
            go_wp2_with fail
            ((with_reducible refine Calls.mono (HO2.out _) ?_); rintro e w11 ⟨rfl, hb11⟩)
            have HB11 := Lib.hid (btr HB10.out hb11 HB10.out.size)
            have hcells := (HP7.out.below HB11.out).cells
            clear c0 c1 c2 hcv hb11
            obtain ⟨c0, c1, c2, _, _⟩ := hcells
            go_wp2_with fail
            ((with_reducible refine Calls.mono (HMD2.out _) ?_); rintro e w12 ⟨rfl, hw⟩; have hw := hw.symm; subst hw)
            go_wp2_with fail
            ((with_reducible refine Calls.mono (HO3.out _) ?_); rintro e w13 ⟨rfl, hb13⟩)
            have HB13 := Lib.hid (btr HB11.out hb13 HB11.out.size)
            clear hb13
            go_wp2_with fail
            go_roundw
            case rel => exact ⟨k + 1, by go_num, by omega, HB13.out⟩
            case measure => simp [intOf]; omega
        · go_wp2_with fail
          go_ret
          exact ⟨rfl, btr HB7.out HB.out HB7.out.size⟩
end Go.Proofs.YtgdkdihedgiegaaDoor
