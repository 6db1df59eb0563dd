/-
  The walk of the reference's Stands.
-/
import Derived.Test.YtgdkdihedgiegaaDoorO2
namespace Go.Proofs.YtgdkdihedgiegaaDoor
open Go.RowKit

theorem drop_cons (c : Bs) (en : Nat) (b : UInt8) (t : Bs) (h : c.drop en = b :: t) : en < c.length ∧ c.drop (en + 1) = t ∧ ∀ h' : en < c.length, c[en] = b := by
  have hl : en < c.length := by
    have := congrArg List.length h
    rw [List.length_drop] at this; simp at this; omega
  have h2 := List.drop_eq_getElem_cons hl
  rw [h] at h2
  injection h2 with h3 h4
  exact ⟨hl, h4.symm, fun _ => h3.symm⟩
theorem piece_len (s r z : Bs) (h : pieceR s = some (r, z)) : z = s.drop (s.length - z.length) ∧ z.length ≤ s.length := by
  have h0 := h
  unfold pieceR at h
  split at h
  · injection h with h
    injection h with h1 h2
    have : z.length = s.length - ((readNumR s).2.1 + (readNumR s).1) := by rw [← h2, List.length_drop]
    refine ⟨?_, by omega⟩
    by_cases hle : (readNumR s).2.1 + (readNumR s).1 ≤ s.length
    · rw [show s.length - z.length = (readNumR s).2.1 + (readNumR s).1 from by omega]; exact h2.symm
    · have : z = [] := List.eq_nil_of_length_eq_zero (by omega)
      rw [this]; simp
  · cases h
theorem piece_end (c : Bs) (at_ : Nat) (hat : at_ ≤ c.length) (r z : Bs) (h : pieceR (c.drop at_) = some (r, z)) : c.drop (c.length - z.length) = z ∧ z.length ≤ c.length - at_ ∧ at_ ≤ c.length - z.length := by
  obtain ⟨h1, h2⟩ := piece_len _ _ _ h
  rw [List.length_drop] at h1 h2
  refine ⟨?_, h2, by omega⟩
  rw [List.drop_drop, show at_ + (c.length - at_ - z.length) = c.length - z.length from by omega] at h1
  exact h1.symm
theorem tailnil (w : World) : TailAt w (.slice none 0 0) [] := ⟨none, 0, rfl, fun h => absurd rfl h⟩
/-- The two cells. -/
structure StW (w wr : World) : Prop where
  b : Below w.heap.size w wr
  sz : w.heap.size + 2 ≤ wr.heap.size
  y : wr.heap[w.heap.size]? = some (.cells #[S [], .slice none 0 0] 32 (0, 0))
  x : wr.heap[w.heap.size + 1]? = some (.cells #[S [], .slice none 0 0] 32 (0, 0))
theorem StW.below {w wr w' : World} (h : StW w wr) (hb : Below (w.heap.size + 2) wr w') : StW w w' :=
  ⟨h.b.trans (hb.mono (by omega)), Nat.le_trans h.sz hb.size, (hb.block _ (by omega)).trans h.y, (hb.block _ (by omega)).trans h.x⟩
theorem StW.cells {w wr : World} (h : StW w wr) : wr.cell? ⟨w.heap.size, 0, none⟩ = some (S []) ∧ wr.cell? ⟨w.heap.size, 1, none⟩ = some (.slice none 0 0) ∧ wr.frozen? ⟨w.heap.size, 0, none⟩ = false ∧ wr.frozen? ⟨w.heap.size, 1, none⟩ = false ∧ wr.cell? ⟨w.heap.size + 1, 0, none⟩ = some (S []) ∧ wr.cell? ⟨w.heap.size + 1, 1, none⟩ = some (.slice none 0 0) :=
  ⟨Lib.cell_of_heap h.y 0, Lib.cell_of_heap h.y 1, Lib.frozen_of_heap h.y 0, Lib.frozen_of_heap h.y 1, Lib.cell_of_heap h.x 0, Lib.cell_of_heap h.x 1⟩
theorem StW.fin {w wr : World} (h : StW w wr) (v0 v1 : Value) : ∃ W', (wr.setCell ⟨w.heap.size, 0, none⟩ v0).setCell ⟨w.heap.size, 1, none⟩ v1 = W' ∧ W'.cell? ⟨w.heap.size, 0, none⟩ = some v0 ∧ W'.cell? ⟨w.heap.size, 1, none⟩ = some v1 ∧ Below w.heap.size w W' ∧ Only w.heap.size wr W' := by
  obtain ⟨c0, c1, _⟩ := h.cells
  obtain ⟨W', h1, h2, h3, h4⟩ := store2 wr w.heap.size v0 v1 _ _ c0 c1
  exact ⟨W', h1, h2, h3, h.b.trans (h4.below (Nat.le_refl _)), h4⟩
theorem StW.start (w : World) : StW w ((w.alloc (.cells #[S [], .slice none 0 0] 32)).alloc (.cells #[S [], .slice none 0 0] 32)) := by
  have e1 : (w.alloc (.cells #[S [], .slice none 0 0] 32)).heap.size = w.heap.size + 1 := by simp
  have hb0 := alloc_below w (.cells #[S [], .slice none 0 0] 32)
  have hb1 := btr hb0 (alloc_below (w.alloc (.cells #[S [], .slice none 0 0] 32)) (.cells #[S [], .slice none 0 0] 32)) hb0.size
  refine ⟨hb1, by simp, ?_, ?_⟩
  · rw [Below.heap_alloc _ _ _ (by rw [e1]; omega)]
    exact heap_alloc_new w _
  · have := heap_alloc_new (w.alloc (.cells #[S [], .slice none 0 0] 32)) (.cells #[S [], .slice none 0 0] 32)
    rwa [e1] at this
set_option maxHeartbeats 4000000 in
set_option maxRecDepth 100000 in
theorem stands_66 (c : Bs) (at_ : Nat) (hat : at_ ≤ c.length) (hc : c.length ≤ 100000) (w : World) : Calls Tryd.prog 66 #[S c, .int .i64 at_] w (StPost (parseR (c.drop at_)) w) := by
  obtain ⟨s, hs⟩ : ∃ s, s = c.drop at_ := ⟨_, rfl⟩
  have hsl : s.length = c.length - at_ := by rw [hs, List.length_drop]
  have HW := Lib.hid (StW.start w)
  by_cases hge : c.length ≤ at_
  · have h0 : s = [] := List.eq_nil_of_length_eq_zero (by omega)
    rw [← hs, h0]
    have HP : Hid (parseR [] = some ([], [], 0)) := rfl
    rw [HP.out]
    clear hs hsl h0
    go_enter Tryd.func66, Tryd.ntmps66
    go_wp2_with fail
    refine bodyPost_ret (v := .tuple #[.agg #[S [], .slice none 0 0], .int .i64 0, .bool true]) (by simp only [results, Tryd.results66]; go_simp) rfl ⟨⟨_, _, rfl, ⟨none, 0, rfl, fun h => absurd rfl h⟩⟩, HW.out.b⟩
  · have hlt : at_ < c.length := by omega
    have hne : s ≠ [] := fun e => by rw [e] at hsl; simp at hsl; omega
    have HRD := Lib.hid (fun W => read_81 c at_ hat hc W)
    rw [← hs] at HRD
    cases hp : pieceR s with
    | none =>
      have HP : Hid (parseR s = none) := by show _ = _; unfold parseR; rw [if_neg hne, hp]
      rw [← hs, HP.out]
      rw [hp] at HRD
      clear hs hsl hne hp
      go_enter Tryd.func66, Tryd.ntmps66
      go_wp2_with fail
      generalize (w.alloc (.cells #[S [], .slice none 0 0] 32)).alloc (.cells #[S [], .slice none 0 0] 32) = w2 at *
      ((with_reducible refine Calls.mono (HRD.out w2) ?_); rintro e w3 ⟨rfl, hb3⟩)
      have HW3 := Lib.hid (HW.out.below (hb3.mono HW.out.sz))
      obtain ⟨c0, c1, f0, f1, d0, d1⟩ := HW3.out.cells
      clear hb3
      go_wp2_with fail
      obtain ⟨W', hW', e0, e1, hbf, _⟩ := HW3.out.fin (S []) (.slice none 0 0)
      have hW2 : ((w3.setCell ⟨w.heap.size, 0, none⟩ (.string ⟨#[]⟩)).setCell ⟨w.heap.size, 1, none⟩ (.slice none 0 0)) = W' := hW'
      rw [hW2]
      clear c0 c1 f0 f1 d0 d1 hW' hW2
      refine bodyPost_ret (v := .tuple #[.agg #[S [], .slice none 0 0], .int .i64 0, .bool false]) (by simp only [results, Tryd.results66]; go_simp) rfl ⟨rfl, hbf⟩
    | some az =>
      obtain ⟨sn, z0⟩ := az
      obtain ⟨hz1, hz2, hz3⟩ := piece_end c at_ hat sn z0 (by rw [← hs]; exact hp)
      have HP : Hid (parseR s = match recsR z0.length z0 with | none => none | some (l, y) => some (sn, l, s.length - y.length)) := by show _ = _; unfold parseR; rw [if_neg hne, hp]; rfl
      rw [← hs]
      rw [hp] at HRD
      have HSL := Lib.hid hsl
      obtain ⟨e0, he0⟩ : ∃ e0, e0 = c.length - z0.length := ⟨_, rfl⟩
      have HZ0 : Hid (c.drop e0 = z0) := by rw [he0]; exact hz1
      have he1 : at_ ≤ e0 := by omega
      have he2 : e0 ≤ c.length := by omega
      have HRD2 : Hid (∀ W, Calls Tryd.prog 81 #[S c, .int .i64 at_] W fun e w' => e = .returned (.tuple #[S sn, .int .i64 e0, .bool true]) ∧ Below W.heap.size W w') := by rw [he0]; exact HRD.out
      clear hs hsl hne hp hz1 hz2 hz3 he0 HRD
      go_enter Tryd.func66, Tryd.ntmps66
      go_wp2_with fail
      generalize (w.alloc (.cells #[S [], .slice none 0 0] 32)).alloc (.cells #[S [], .slice none 0 0] 32) = w2 at *
      ((with_reducible refine Calls.mono (HRD2.out w2) ?_); rintro e w3 ⟨rfl, hb3⟩)
      have HW3 := Lib.hid (HW.out.below (hb3.mono HW.out.sz))
      clear hb3 HRD2
      go_wp2_with fail
      go_loopw [9, 11] (fun i v wr => ∃ (done : List Bs) (en : Nat) (z : Bs) (f : Nat) (u : Value), i = .int .i64 en ∧ v = u ∧ at_ ≤ en ∧ en ≤ c.length ∧ Hid (c.drop en = z) ∧ z.length ≤ f ∧ Hid (recsR z0.length z0 = (recsR f z).map (fun p => (done ++ p.1, p.2))) ∧ Hid (StrRow wr (w.heap.size + 2) u done) ∧ done.length ≤ en ∧ Hid (StW w wr)) (fun i _ _ => c.length - (intOf i).toNat)
      case atStart => exact ⟨[], e0, z0, z0.length, _, rfl, rfl, he1, he2, HZ0.out, Nat.le_refl _, (by show _ = _; cases recsR z0.length z0 <;> simp), World.ownsRow_nil _ _ _ _, Nat.zero_le _, HW3.out⟩
      case round =>
        clear HW3
        obtain ⟨done, en, z, f, u, rfl, rfl, hae, hen, HZ, hzf, HR, HO, hdl, HWr⟩ := hrel
        obtain ⟨a, cap, rfl⟩ := row_shape HO.out
        obtain ⟨c0, c1, f0, f1, d0, d1⟩ := HWr.out.cells
        have hzl : z.length = c.length - en := by rw [← HZ.out, List.length_drop]
        have hfin : ∀ y : Bs, y = z → recsR z0.length z0 = some (done, y) → parseR s = some (sn, done, en - at_) := fun y hy hr => by
          rw [HP.out, hr]
          simp only
          rw [HSL.out, hy, hzl]
          congr 3; omega
        have HFIN := Lib.hid hfin
        clear hfin
        have hgood : ∀ n : Nat, n = en - at_ → ((n : Nat) : Int) = (en : Int) - at_ := fun n h => by omega
        have HG := Lib.hid hgood
        clear hgood
        cases z with
        | nil =>
          have hend : ¬ en < c.length := by simp at hzl; omega
          have HX := Lib.hid (HFIN.out [] rfl (by have := HR.out; rw [recs_nil] at this; simpa using this))
          have hi64 : IntKind.i64.wrap ((en : Int) - at_) = (en : Int) - at_ := IntWalk.i64_in _ (by omega)
          clear hzl
          go_wp2_with fail
          rw [HX.out]
          obtain ⟨W', hW', q0, q1, hbf, ho⟩ := HWr.out.fin (S sn) (.slice a done.length cap)
          rw [hW']
          have hcast : ((en - at_ : Nat) : Int) = (en : Int) - at_ := by omega
          have hsl2 := ((row_slice HO.out).kept (ho.kept (.inl (show w.heap.size < w.heap.size + 2 by omega)))).mono (Nat.le_add_right _ 2) (Nat.le_of_eq ho.size.symm)
          clear c0 c1 f0 f1 d0 d1 hW' ho
          refine bodyPost_ret (v := .tuple #[.agg #[S sn, .slice a done.length cap], .int .i64 ((en - at_ : Nat) : Int), .bool true]) (by rw [hcast]; simp only [results, Tryd.results66]; go_simp) rfl ⟨⟨a, cap, rfl, hsl2⟩, hbf⟩
        | cons b t =>
          obtain ⟨hl, hd1, hgt⟩ := drop_cons c en b t HZ.out
          have hg := hgt hl
          by_cases hb0 : b = 0
          · subst hb0
            have HX := Lib.hid (HFIN.out (0 :: t) rfl (by have := HR.out; rw [recs_zero] at this; simpa using this))
            have hi64 : IntKind.i64.wrap ((en : Int) - at_) = (en : Int) - at_ := IntWalk.i64_in _ (by omega)
            clear hzl
            go_wp2_with fail
            rw [HX.out]
            obtain ⟨W', hW', q0, q1, hbf, ho⟩ := HWr.out.fin (S sn) (.slice a done.length cap)
            rw [hW']
            have hcast : ((en - at_ : Nat) : Int) = (en : Int) - at_ := by omega
            have hsl2 := ((row_slice HO.out).kept (ho.kept (.inl (show w.heap.size < w.heap.size + 2 by omega)))).mono (Nat.le_add_right _ 2) (Nat.le_of_eq ho.size.symm)
            clear c0 c1 f0 f1 d0 d1 hW' ho
            refine bodyPost_ret (v := .tuple #[.agg #[S sn, .slice a done.length cap], .int .i64 ((en - at_ : Nat) : Int), .bool true]) (by rw [hcast]; simp only [results, Tryd.results66]; go_simp) rfl ⟨⟨a, cap, rfl, hsl2⟩, hbf⟩
          · have k0 : ((b.toNat : Int) == 0) = false := by simp; intro h; exact hb0 (u8_eq (by simpa using h))
            by_cases hb1 : b = 1
            · subst hb1
              have HRT := Lib.hid (fun W => read_81 c (en + 1) hl hc W)
              rw [hd1] at HRT
              obtain ⟨f', rfl⟩ : ∃ f', f = f' + 1 := ⟨f - 1, by simp at hzf; omega⟩
              have h1 := HR.out
              rw [recs_one] at h1
              have hi1 : ((en + 1 : Nat) : Int) = (en : Int) + 1 := by omega
              cases hp : pieceR t with
              | none =>
                rw [hp] at h1 HRT
                have hpr := HP.out
                rw [h1] at hpr
                have HX : Hid (parseR s = none) := hpr
                have HRT2 : Hid (∀ W, Calls Tryd.prog 81 #[S c, .int .i64 ((en : Int) + 1)] W fun e w' => e = .returned (.tuple #[S [], .int .i64 0, .bool false]) ∧ Below W.heap.size W w') := by rw [← hi1]; exact HRT.out
                clear hpr h1 hp hzl hi1
                rw [HX.out]
                go_wp2_with fail
                ((with_reducible refine Calls.mono (HRT2.out _) ?_); rintro e w4 ⟨rfl, hb4⟩)
                have HW4 := Lib.hid (HWr.out.below (hb4.mono HWr.out.sz))
                clear c0 c1 f0 f1 d0 d1 hb4
                obtain ⟨c0, c1, f0, f1, d0, d1⟩ := HW4.out.cells
                go_wp2_with fail
                obtain ⟨W', hW', e0, e1, hbf, _⟩ := HW4.out.fin (S []) (.slice none 0 0)
                have hW2 : ((w4.setCell ⟨w.heap.size, 0, none⟩ (.string ⟨#[]⟩)).setCell ⟨w.heap.size, 1, none⟩ (.slice none 0 0)) = W' := hW'
                rw [hW2]
                clear c0 c1 f0 f1 d0 d1 hW' hW2
                refine bodyPost_ret (v := .tuple #[.agg #[S [], .slice none 0 0], .int .i64 0, .bool false]) (by simp only [results, Tryd.results66]; go_simp) rfl ⟨rfl, hbf⟩
              | some rz =>
                obtain ⟨r, z2⟩ := rz
                obtain ⟨hz1, hz2, hz3⟩ := piece_end c (en + 1) hl r z2 (by rw [hd1]; exact hp)
                rw [hp] at h1 HRT
                have HR2 : Hid (recsR z0.length z0 = (recsR f' z2).map (fun p => ((done ++ [r]) ++ p.1, p.2))) := by
                  show _ = _
                  rw [h1]
                  simp only
                  cases recsR f' z2 with
                  | none => rfl
                  | some p => simp
                obtain ⟨e2, he2'⟩ : ∃ e2, e2 = c.length - z2.length := ⟨_, rfl⟩
                have HZ2 : Hid (c.drop e2 = z2) := by rw [he2']; exact hz1
                have hz2l : z2.length = c.length - e2 := by omega
                have hee : en + 1 ≤ e2 := by omega
                have hec : e2 ≤ c.length := by omega
                have hzf2 : z2.length ≤ f' := by simp at hzf hzl; omega
                have HRT2 : Hid (∀ W, Calls Tryd.prog 81 #[S c, .int .i64 ((en : Int) + 1)] W fun e w' => e = .returned (.tuple #[S r, .int .i64 e2, .bool true]) ∧ Below W.heap.size W w') := by rw [← hi1, he2']; exact HRT.out
                clear h1 hp hz1 hz2 hz3 he2' hi1 hzl hz2l HRT HR HFIN
                go_wp2_with fail
                ((with_reducible refine Calls.mono (HRT2.out _) ?_); rintro e w4 ⟨rfl, hb4⟩)
                have HW4 := Lib.hid (HWr.out.below (hb4.mono HWr.out.sz))
                have HO4 := Lib.hid (row_far HO.out (fun g hg => hb4.block g (row_lt HO.out g hg)))
                have HS4 := Lib.hid hb4.size
                clear c0 c1 f0 f1 d0 d1 hb4 HRT2
                have ha := alloc_below w4 (.cells #[S r] 9)
                have HO5 := Lib.hid (row_far HO4.out (fun g hg => ha.block g (row_lt HO4.out g hg)))
                have HW5 := Lib.hid (HW4.out.below (ha.mono HW4.out.sz))
                clear ha
                go_wp2_with (at_builtin; refine wpList_strs rfl _ _ rfl rfl (w.heap.size + 2) (.slice a done.length cap) (.slice (some ⟨w4.heap.size, 0, none⟩) 1 1) done [r] rfl rfl HO5.out (from_new w4 (S r) 9) HW5.out.sz (by simp; omega) ?_; intro v' w6 HO6 HON6; obtain ⟨a', cap', hv'⟩ := row_shape HO6.out; subst hv')
                go_roundw
                case rel =>
                  have hlen : (done ++ [r]).length ≤ e2 := by simp; omega
                  have HO7 : Hid (StrRow w6 (w.heap.size + 2) (.slice a' (done.length + 1) cap') (done ++ [r])) := by
                    show World.ownsRow _ _ _ _ _ _ _
                    have h5 := HO6.out
                    unfold StrRow at h5
                    simp only [List.length_append, List.length_singleton] at h5 ⊢
                    exact h5
                  exact ⟨done ++ [r], e2, z2, f', _, rfl, rfl, by omega, hec, HZ2.out, hzf2, HR2.out, HO7, hlen, HW5.out.below (below_onto (Below.refl _ _) HON6.out HW5.out.sz (fun g hg => (own_base HO5.out g hg).1))⟩
                case measure => simp [intOf]; omega
            · have k1 : ((b.toNat : Int) == 1) = false := by simp; intro h; exact hb1 (u8_eq (by have : (1 : UInt8).toNat = 1 := rfl; omega))
              have hpr := HP.out
              have hz : recsR z0.length z0 = none := by have := HR.out; rw [recs_bad f b t hb0 hb1] at this; simpa using this
              rw [hz] at hpr
              have HX : Hid (parseR s = none) := hpr
              clear hpr hz hzl
              rw [HX.out]
              go_wp2_with fail
              obtain ⟨W', hW', e0, e1, hbf, _⟩ := HWr.out.fin (S []) (.slice none 0 0)
              have hW2 : ((wr.setCell ⟨w.heap.size, 0, none⟩ (.string ⟨#[]⟩)).setCell ⟨w.heap.size, 1, none⟩ (.slice none 0 0)) = W' := hW'
              rw [hW2]
              clear c0 c1 f0 f1 d0 d1 hW' hW2
              refine bodyPost_ret (v := .tuple #[.agg #[S [], .slice none 0 0], .int .i64 0, .bool false]) (by simp only [results, Tryd.results66]; go_simp) rfl ⟨rfl, hbf⟩
end Go.Proofs.YtgdkdihedgiegaaDoor
