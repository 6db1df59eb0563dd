/-
  The walk of the reference's Judge.
-/
import Derived.Test.YtgdkdihedgiegaaDoorO4
namespace Go.Proofs.YtgdkdihedgiegaaDoor
open Go.RowKit

/-- The post of Judge. -/
def JPost (o : Option (Bs × List Bs × Bs × List (Nat × Bs))) (w : World) (e : Ending) (w' : World) : Prop :=
  (match o with
    | none => e = .returned (.tuple #[.agg #[S [], .slice none 0 0], .bool false])
    | some (sn, tl, _, _) => ∃ a cap, e = .returned (.tuple #[.agg #[S sn, .slice a tl.length cap], .bool true]) ∧ TailAt w' (.slice a tl.length cap) tl) ∧ Below w.heap.size w w'
/-- The result's cell. -/
structure JW (w wr : World) : Prop where
  b : Below w.heap.size w wr
  sz : w.heap.size + 1 ≤ wr.heap.size
  y : wr.heap[w.heap.size]? = some (.cells #[S [], .slice none 0 0] 32 (0, 0))
theorem JW.below {w wr w' : World} (h : JW w wr) (hb : Below wr.heap.size wr w') : JW w w' :=
  ⟨btr h.b hb (by have := h.sz; omega), Nat.le_trans h.sz hb.size, (hb.block _ (by have := h.sz; omega)).trans h.y⟩
theorem JW.cells {w wr : World} (h : JW w wr) : wr.cell? ⟨w.heap.size, 0, none⟩ = some (S []) ∧ wr.cell? ⟨w.heap.size, 1, none⟩ = some (.slice none 0 0) ∧ wr.frozen? ⟨w.heap.size, 0, none⟩ = false ∧ wr.frozen? ⟨w.heap.size, 1, none⟩ = false :=
  ⟨Lib.cell_of_heap h.y 0, Lib.cell_of_heap h.y 1, Lib.frozen_of_heap h.y 0, Lib.frozen_of_heap h.y 1⟩
theorem JW.fin {w wr : World} (h : JW w wr) (v0 v1 : Value) : ∃ W', (wr.setCell ⟨w.heap.size, 0, none⟩ v0).setCell ⟨w.heap.size, 1, none⟩ v1 = W' ∧ W'.cell? ⟨w.heap.size, 0, none⟩ = some v0 ∧ W'.cell? ⟨w.heap.size, 1, none⟩ = some v1 ∧ Below w.heap.size w W' ∧ Only w.heap.size wr W' := by
  obtain ⟨c0, c1, _⟩ := h.cells
  obtain ⟨W', h1, h2, h3, h4⟩ := store2 wr w.heap.size v0 v1 _ _ c0 c1
  exact ⟨W', h1, h2, h3, h.b.trans (h4.below (Nat.le_refl _)), h4⟩
theorem JW.start (w : World) : JW w (w.alloc (.cells #[S [], .slice none 0 0] 32)) := ⟨alloc_below w _, by simp, heap_alloc_new w _⟩
theorem only_tail {b : Nat} {w w' : World} {v : Value} {tl : List Bs} {lo : Nat} (h : SliceAt lo w.heap.size w v tl.length (tl.map S)) (ho : Only b w w') (hb : b < lo) : TailAt w' v tl :=
  (h.kept (ho.kept (.inl hb))).mono (Nat.zero_le _) (Nat.le_of_eq ho.size.symm)
theorem judge_plain {c : Bs} (h0 : c = [] ∨ c.getD 0 0 = 0) : openR c = match parseR (c.drop (min 64 c.length)) with | none => none | some (sn, tl, n) => some (sn, tl, (c.drop (min 64 c.length)).take n, stepsR c n) := by
  have hcop : copiedR c = none := by
    unfold copiedR
    rw [if_pos]
    rcases h0 with h | h
    · left; rw [h]; simp
    · right; rw [h]; decide
  have hn : ¬ (c ≠ [] ∧ c.getD 0 0 ≠ 0) := by
    rintro ⟨h1, h2⟩
    rcases h0 with h | h
    · exact h1 h
    · exact h2 h
  unfold openR
  rw [hcop]
  simp only
  rw [if_neg hn]
  rfl
set_option maxHeartbeats 4000000 in
set_option maxRecDepth 100000 in
theorem judge_49 (c : Bs) (hc : c.length ≤ 100000) (w : World) : Calls Tryd.prog 49 #[S c] w (JPost (openR c) w) := by
  have HW := Lib.hid (JW.start w)
  by_cases h0 : c = []
  · subst h0
    have HST := Lib.hid (fun W => stands_66 [] 0 (Nat.le_refl _) (by simp) W)
    have hmn : min (64 : Int) 0 = 0 := by decide
    have HX : Hid (openR [] = some ([], [], [], stepsR [] 0)) := by
      show _ = _
      rw [judge_plain (.inl rfl)]
      rfl
    have HST2 : Hid (∀ W, Calls Tryd.prog 66 #[S [], .int .i64 0] W (StPost (some ([], [], 0)) W)) := HST.out
    rw [HX.out]
    clear HST
    go_enter Tryd.func49, Tryd.ntmps49
    go_wp2_with fail
    generalize w.alloc (.cells #[S [], .slice none 0 0] 32) = w1 at *
    ((with_reducible refine Calls.mono (HST2.out w1) ?_); rintro e w2 ⟨⟨ta, tc, rfl, ht⟩, hb2⟩)
    have ha := alloc_below w2 (.cells #[S [], .slice ta 0 tc] 32)
    have HW3 := Lib.hid ((HW.out.below hb2).below ha)
    obtain ⟨c0, c1, f0, f1⟩ := HW3.out.cells
    have HSL := Lib.hid ((ht.kept ((bkept ha (Nat.le_refl _)).mono (Nat.zero_le _) (Nat.le_refl _))).mono (Nat.le_refl _) ha.size)
    clear ha hb2 ht
    go_wp2_with fail
    obtain ⟨W', hW', q0, q1, hbf, ho⟩ := HW3.out.fin (S []) (.slice ta 0 tc)
    have hsl := only_tail HSL.out ho (by have := HW.out.sz; omega)
    have hW2 : (((w2.alloc (.cells #[.string ⟨List.toArray []⟩, .slice ta 0 tc] 32)).setCell ⟨w.heap.size, 0, none⟩ (.string ⟨List.toArray []⟩)).setCell ⟨w.heap.size, 1, none⟩ (.slice ta 0 tc)) = W' := hW'
    (first | rw [hW2] | (show bodyPost _ _ _ _ _ (((w2.alloc (.cells #[.string ⟨List.toArray []⟩, .slice ta 0 tc] 32)).setCell ⟨w.heap.size, 0, none⟩ (.string ⟨List.toArray []⟩)).setCell ⟨w.heap.size, 1, none⟩ (.slice ta 0 tc)); rw [hW2]))
    clear c0 c1 f0 f1 hW' hW2 ho
    refine bodyPost_ret (v := .tuple #[.agg #[S [], .slice ta 0 tc], .bool true]) (by simp only [results, Tryd.results49]; go_simp) rfl ⟨⟨ta, tc, rfl, hsl⟩, hbf⟩
  · have hl0 : 0 < c.length := List.length_pos_iff.2 h0
    obtain ⟨b, hb⟩ : ∃ b, b = c.getD 0 0 := ⟨_, rfl⟩
    have hg : c[0] = b := by rw [hb, List.getD_eq_getElem?_getD, List.getElem?_eq_getElem hl0]; rfl
    have hie : List.isEmpty c = false := by simpa using h0
    have hlb : ((c.length : Int) == 0) = false := by simp; omega
    by_cases hb0 : b = 0
    · have hop := judge_plain (c := c) (.inr (by rw [← hb]; exact hb0))
      obtain ⟨q, hq⟩ : ∃ q, q = min 64 c.length := ⟨_, rfl⟩
      have hmn : min (64 : Int) (c.length : Int) = (q : Int) := by omega
      have hqc : q ≤ c.length := by omega
      rw [← hq] at hop
      have HST := Lib.hid (fun W => stands_66 c q hqc hc W)
      have HOP := Lib.hid hop
      subst hb0
      clear hq hop hb h0
      cases hp : parseR (c.drop q) with
      | none =>
        have HX : Hid (openR c = none) := by have := HOP.out; rw [hp] at this; exact this
        rw [hp] at HST
        rw [HX.out]
        clear hp HOP
        go_enter Tryd.func49, Tryd.ntmps49
        go_wp2_with fail
        generalize w.alloc (.cells #[S [], .slice none 0 0] 32) = w1 at *
        ((with_reducible refine Calls.mono (HST.out w1) ?_); rintro e w2 ⟨rfl, hb2⟩)
        have ha := alloc_below w2 (.cells #[S [], .slice none 0 0] 32)
        have HW3 := Lib.hid ((HW.out.below hb2).below ha)
        obtain ⟨c0, c1, f0, f1⟩ := HW3.out.cells
        clear ha hb2
        go_wp2_with fail
        obtain ⟨W', hW', q0, q1, hbf, _⟩ := HW3.out.fin (S []) (.slice none 0 0)
        have hW2 : (((w2.alloc (.cells #[.string ⟨#[]⟩, .slice none 0 0] 32)).setCell ⟨w.heap.size, 0, none⟩ (.string ⟨#[]⟩)).setCell ⟨w.heap.size, 1, none⟩ (.slice none 0 0)) = W' := hW'
        rw [hW2]
        clear c0 c1 f0 f1 hW' hW2
        refine bodyPost_ret (v := .tuple #[.agg #[S [], .slice none 0 0], .bool false]) (by simp only [results, Tryd.results49]; go_simp) rfl ⟨rfl, hbf⟩
      | some r =>
        obtain ⟨sn, tl, n⟩ := r
        have HX : Hid (openR c = some (sn, tl, (c.drop q).take n, stepsR c n)) := by have := HOP.out; rw [hp] at this; exact this
        rw [hp] at HST
        rw [HX.out]
        clear hp HOP
        go_enter Tryd.func49, Tryd.ntmps49
        go_wp2_with fail
        generalize w.alloc (.cells #[S [], .slice none 0 0] 32) = w1 at *
        ((with_reducible refine Calls.mono (HST.out w1) ?_); rintro e w2 ⟨⟨ta, tc, rfl, ht⟩, hb2⟩)
        have ha := alloc_below w2 (.cells #[S sn, .slice ta tl.length tc] 32)
        have HW3 := Lib.hid ((HW.out.below hb2).below ha)
        obtain ⟨c0, c1, f0, f1⟩ := HW3.out.cells
        have HSL := Lib.hid ((ht.kept ((bkept ha (Nat.le_refl _)).mono (Nat.zero_le _) (Nat.le_refl _))).mono (Nat.le_refl _) ha.size)
        clear ha hb2 ht
        go_wp2_with fail
        obtain ⟨W', hW', q0, q1, hbf, ho⟩ := HW3.out.fin (S sn) (.slice ta tl.length tc)
        have hsl := only_tail HSL.out ho (by have := HW.out.sz; omega)
        have hW2 : (((w2.alloc (.cells #[.string ⟨List.toArray sn⟩, .slice ta tl.length tc] 32)).setCell ⟨w.heap.size, 0, none⟩ (.string ⟨List.toArray sn⟩)).setCell ⟨w.heap.size, 1, none⟩ (.slice ta tl.length tc)) = W' := hW'
        (first | rw [hW2] | (show bodyPost _ _ _ _ _ (((w2.alloc (.cells #[.string ⟨List.toArray sn⟩, .slice ta tl.length tc] 32)).setCell ⟨w.heap.size, 0, none⟩ (.string ⟨List.toArray sn⟩)).setCell ⟨w.heap.size, 1, none⟩ (.slice ta tl.length tc)); rw [hW2]))
        clear c0 c1 f0 f1 hW' hW2 ho
        refine bodyPost_ret (v := .tuple #[.agg #[S sn, .slice ta tl.length tc], .bool true]) (by simp only [results, Tryd.results49]; go_simp) rfl ⟨⟨ta, tc, rfl, hsl⟩, hbf⟩
    · have k0 : ((b.toNat : Int) == 0) = false := by simp; intro h; exact hb0 (u8_eq (by simpa using h))
      have hnop : copiedR c = none → openR c = none := fun h => by
        unfold openR
        rw [h]
        simp only
        rw [if_pos ⟨h0, by rw [← hb]; exact hb0⟩]
      have HNOP := Lib.hid hnop
      clear hnop
      by_cases hv : b = 1 ∧ 9 ≤ c.length
      · obtain ⟨hb1, h9⟩ := hv
        obtain ⟨P, hP⟩ : ∃ P, P = ptrR ((c.drop 1).take 8) := ⟨_, rfl⟩
        have hcop : copiedR c = if P % 64 = 0 ∧ 128 ≤ P ∧ P < c.length then some P else none := by
          unfold copiedR
          rw [if_neg (by rintro (h | h); omega; exact h (by rw [← hb]; exact hb1)), hP]
        have HCP := Lib.hid hcop
        have HPT := Lib.hid (fun W => pointer_67 c h9 W)
        have HPE := Lib.hid hP
        subst hb1
        clear hcop hP hb
        by_cases hval : P % 64 = 0 ∧ 128 ≤ P ∧ P < c.length
        · obtain ⟨h64, h128, hlt⟩ := hval
          have hPT : Hid (∀ W, Calls Tryd.prog 67 #[S c] W fun e w' => e = .returned (.int .i64 P) ∧ w' = W) := fun W => (HPT.out W).mono (by
            rintro e w' ⟨K, rfl, rfl, h | h⟩
            · have := h.2; rw [← HPE.out] at this; omega
            · exact ⟨by rw [h.1, ← HPE.out], rfl⟩)
          have hm1 : (P : Int) % 64 = 0 := by omega
          have hm2 : (P : Int).tmod 64 = 0 := by rw [Int.tmod_eq_emod_of_nonneg (by omega)]; exact hm1
          have hop : openR c = match parseR (c.drop P) with | none => none | some (sn, tl, n) => if P - 64 ≤ n then none else some (sn, tl, (c.drop P).take n, finishR P c.length ((c.drop P).take n) ++ [(9, zerosR 55)]) := by
            unfold openR
            rw [HCP.out, if_pos ⟨h64, h128, hlt⟩]
            rfl
          have HOP := Lib.hid hop
          have HST := Lib.hid (fun W => stands_66 c P (by omega) hc W)
          have h9i : ¬ (c.length : Int) < 9 := by omega
          clear hop HCP HNOP HPE h64
          cases hp : parseR (c.drop P) with
          | none =>
            have HX : Hid (openR c = none) := by have := HOP.out; rw [hp] at this; exact this
            rw [hp] at HST
            rw [HX.out]
            clear hp HOP
            go_enter Tryd.func49, Tryd.ntmps49
            go_wp2_with fail
            generalize w.alloc (.cells #[S [], .slice none 0 0] 32) = w1 at *
            ((with_reducible refine Calls.mono (hPT.out w1) ?_); rintro e w2 ⟨rfl, hw⟩; have hw := hw.symm; subst hw)
            go_wp2_with fail
            ((with_reducible refine Calls.mono (HST.out w1) ?_); rintro e w2 ⟨rfl, hb2⟩)
            have ha := alloc_below w2 (.cells #[S [], .slice none 0 0] 32)
            have HW3 := Lib.hid ((HW.out.below hb2).below ha)
            obtain ⟨c0, c1, f0, f1⟩ := HW3.out.cells
            clear ha hb2
            go_wp2_with fail
            obtain ⟨W', hW', q0, q1, hbf, _⟩ := HW3.out.fin (S []) (.slice none 0 0)
            have hW2 : (((w2.alloc (.cells #[.string ⟨#[]⟩, .slice none 0 0] 32)).setCell ⟨w.heap.size, 0, none⟩ (.string ⟨#[]⟩)).setCell ⟨w.heap.size, 1, none⟩ (.slice none 0 0)) = W' := hW'
            rw [hW2]
            clear c0 c1 f0 f1 hW' hW2
            refine bodyPost_ret (v := .tuple #[.agg #[S [], .slice none 0 0], .bool false]) (by simp only [results, Tryd.results49]; go_simp) rfl ⟨rfl, hbf⟩
          | some r =>
            obtain ⟨sn, tl, n⟩ := r
            rw [hp] at HST
            by_cases hn : P - 64 ≤ n
            · have HX : Hid (openR c = none) := by have := HOP.out; rw [hp] at this; simp only at this; rw [if_pos hn] at this; exact this
              rw [HX.out]
              clear hp HOP
              go_enter Tryd.func49, Tryd.ntmps49
              go_wp2_with fail
              generalize w.alloc (.cells #[S [], .slice none 0 0] 32) = w1 at *
              ((with_reducible refine Calls.mono (hPT.out w1) ?_); rintro e w2 ⟨rfl, hw⟩; have hw := hw.symm; subst hw)
              go_wp2_with fail
              ((with_reducible refine Calls.mono (HST.out w1) ?_); rintro e w2 ⟨⟨ta, tc, rfl, ht⟩, hb2⟩)
              have ha := alloc_below w2 (.cells #[S sn, .slice ta tl.length tc] 32)
              have HW3 := Lib.hid ((HW.out.below hb2).below ha)
              obtain ⟨c0, c1, f0, f1⟩ := HW3.out.cells
              clear ha hb2 ht
              go_wp2_with fail
              obtain ⟨W', hW', q0, q1, hbf, _⟩ := HW3.out.fin (S []) (.slice none 0 0)
              have hW2 : (((w2.alloc (.cells #[.string ⟨sn.toArray⟩, .slice ta tl.length tc] 32)).setCell ⟨w.heap.size, 0, none⟩ (.string ⟨#[]⟩)).setCell ⟨w.heap.size, 1, none⟩ (.slice none 0 0)) = W' := hW'
              rw [hW2]
              clear c0 c1 f0 f1 hW' hW2
              refine bodyPost_ret (v := .tuple #[.agg #[S [], .slice none 0 0], .bool false]) (by simp only [results, Tryd.results49]; go_simp) rfl ⟨rfl, hbf⟩
            · have HX : Hid (openR c = some (sn, tl, (c.drop P).take n, finishR P c.length ((c.drop P).take n) ++ [(9, zerosR 55)])) := by have := HOP.out; rw [hp] at this; simp only at this; rw [if_neg hn] at this; exact this
              rw [HX.out]
              clear hp HOP
              go_enter Tryd.func49, Tryd.ntmps49
              go_wp2_with fail
              generalize w.alloc (.cells #[S [], .slice none 0 0] 32) = w1 at *
              ((with_reducible refine Calls.mono (hPT.out w1) ?_); rintro e w2 ⟨rfl, hw⟩; have hw := hw.symm; subst hw)
              go_wp2_with fail
              ((with_reducible refine Calls.mono (HST.out w1) ?_); rintro e w2 ⟨⟨ta, tc, rfl, ht⟩, hb2⟩)
              have ha := alloc_below w2 (.cells #[S sn, .slice ta tl.length tc] 32)
              have HW3 := Lib.hid ((HW.out.below hb2).below ha)
              obtain ⟨c0, c1, f0, f1⟩ := HW3.out.cells
              have HSL := Lib.hid ((ht.kept ((bkept ha (Nat.le_refl _)).mono (Nat.zero_le _) (Nat.le_refl _))).mono (Nat.le_refl _) ha.size)
              clear ha hb2 ht
              go_wp2_with fail
              obtain ⟨W', hW', q0, q1, hbf, ho⟩ := HW3.out.fin (S sn) (.slice ta tl.length tc)
              have hsl := only_tail HSL.out ho (by have := HW.out.sz; omega)
              have hW2 : (((w2.alloc (.cells #[.string ⟨List.toArray sn⟩, .slice ta tl.length tc] 32)).setCell ⟨w.heap.size, 0, none⟩ (.string ⟨List.toArray sn⟩)).setCell ⟨w.heap.size, 1, none⟩ (.slice ta tl.length tc)) = W' := hW'
              (first | rw [hW2] | (show bodyPost _ _ _ _ _ (((w2.alloc (.cells #[.string ⟨List.toArray sn⟩, .slice ta tl.length tc] 32)).setCell ⟨w.heap.size, 0, none⟩ (.string ⟨List.toArray sn⟩)).setCell ⟨w.heap.size, 1, none⟩ (.slice ta tl.length tc)); rw [hW2]))
              clear c0 c1 f0 f1 hW' hW2 ho
              refine bodyPost_ret (v := .tuple #[.agg #[S sn, .slice ta tl.length tc], .bool true]) (by simp only [results, Tryd.results49]; go_simp) rfl ⟨⟨ta, tc, rfl, hsl⟩, hbf⟩
        · have HX : Hid (openR c = none) := HNOP.out (by rw [HCP.out, if_neg hval])
          have hPT : Hid (∀ W, Calls Tryd.prog 67 #[S c] W fun e w' => ∃ K : Int, e = .returned (.int .i64 K) ∧ w' = W ∧ -1 ≤ K ∧ ((K < 128) ∨ (128 ≤ K ∧ ¬ K % 64 = 0) ∨ (128 ≤ K ∧ K % 64 = 0 ∧ (c.length : Int) ≤ K))) := fun W => (HPT.out W).mono (by
            rintro e w' ⟨K, rfl, rfl, h | h⟩
            · exact ⟨K, rfl, rfl, by omega, .inl (by omega)⟩
            · refine ⟨K, rfl, rfl, by omega, ?_⟩
              rw [← HPE.out] at h
              by_cases h1 : P < 128
              · exact .inl (by omega)
              · by_cases h2 : P % 64 = 0
                · exact .inr (.inr (by omega))
                · exact .inr (.inl (by omega)))
          have h9i : ¬ (c.length : Int) < 9 := by omega
          rw [HX.out]
          clear HCP HNOP HPE hval HPT
          go_enter Tryd.func49, Tryd.ntmps49
          go_wp2_with fail
          generalize w.alloc (.cells #[S [], .slice none 0 0] 32) = w1 at *
          ((with_reducible refine Calls.mono (hPT.out w1) ?_); rintro e w2 ⟨K, rfl, hw, hKm, hK⟩; have hw := hw.symm; subst hw)
          obtain ⟨c0, c1, f0, f1⟩ := HW.out.cells
          rcases hK with h1 | ⟨h1, h2⟩ | ⟨h1, h2, h3⟩
          · go_wp2_with fail
            obtain ⟨W', hW', q0, q1, hbf, _⟩ := HW.out.fin (S []) (.slice none 0 0)
            have hW2 : (((w1).setCell ⟨w.heap.size, 0, none⟩ (.string ⟨#[]⟩)).setCell ⟨w.heap.size, 1, none⟩ (.slice none 0 0)) = W' := hW'
            rw [hW2]
            clear c0 c1 f0 f1 hW' hW2
            refine bodyPost_ret (v := .tuple #[.agg #[S [], .slice none 0 0], .bool false]) (by simp only [results, Tryd.results49]; go_simp) rfl ⟨rfl, hbf⟩
          · have hm2 : K.tmod 64 = K % 64 := Int.tmod_eq_emod_of_nonneg (by omega)
            have hmb : (K % 64 == 0) = false := by simpa using h2
            go_wp2_with fail
            obtain ⟨W', hW', q0, q1, hbf, _⟩ := HW.out.fin (S []) (.slice none 0 0)
            have hW2 : (((w1).setCell ⟨w.heap.size, 0, none⟩ (.string ⟨#[]⟩)).setCell ⟨w.heap.size, 1, none⟩ (.slice none 0 0)) = W' := hW'
            rw [hW2]
            clear c0 c1 f0 f1 hW' hW2
            refine bodyPost_ret (v := .tuple #[.agg #[S [], .slice none 0 0], .bool false]) (by simp only [results, Tryd.results49]; go_simp) rfl ⟨rfl, hbf⟩
          · have hm2 : K.tmod 64 = 0 := by rw [Int.tmod_eq_emod_of_nonneg (by omega)]; exact h2
            go_wp2_with fail
            obtain ⟨W', hW', q0, q1, hbf, _⟩ := HW.out.fin (S []) (.slice none 0 0)
            have hW2 : (((w1).setCell ⟨w.heap.size, 0, none⟩ (.string ⟨#[]⟩)).setCell ⟨w.heap.size, 1, none⟩ (.slice none 0 0)) = W' := hW'
            rw [hW2]
            clear c0 c1 f0 f1 hW' hW2
            refine bodyPost_ret (v := .tuple #[.agg #[S [], .slice none 0 0], .bool false]) (by simp only [results, Tryd.results49]; go_simp) rfl ⟨rfl, hbf⟩
      · have hcop : copiedR c = none := by
          unfold copiedR
          rw [if_pos]
          by_cases h : b = 1
          · left; exact Nat.lt_of_not_le fun h2 => hv ⟨h, h2⟩
          · right; rw [← hb]; exact h
        have HX : Hid (openR c = none) := HNOP.out hcop
        rw [HX.out]
        clear hcop HNOP hb
        by_cases hb1 : b = 1
        · have h9 : c.length < 9 := Nat.lt_of_not_le fun h => hv ⟨hb1, h⟩
          have h9i : (c.length : Int) < 9 := by omega
          subst hb1
          clear hv
          go_enter Tryd.func49, Tryd.ntmps49
          go_wp2_with fail
          refine bodyPost_ret (v := .tuple #[.agg #[S [], .slice none 0 0], .bool false]) (by simp only [results, Tryd.results49]; go_simp) rfl ⟨rfl, HW.out.b⟩
        · have hne : (b.toNat : Int) ≠ 1 := fun h => hb1 (u8_eq (by have : (1 : UInt8).toNat = 1 := rfl; omega))
          have hneb : ((b.toNat : Int) != 1) = true := by simpa using hne
          clear hv
          go_enter Tryd.func49, Tryd.ntmps49
          go_wp2_with fail
          refine bodyPost_ret (v := .tuple #[.agg #[S [], .slice none 0 0], .bool false]) (by simp only [results, Tryd.results49]; go_simp) rfl ⟨rfl, HW.out.b⟩
end Go.Proofs.YtgdkdihedgiegaaDoor
