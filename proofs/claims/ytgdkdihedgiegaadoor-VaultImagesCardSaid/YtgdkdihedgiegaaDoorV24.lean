/-
  The walk of VaultPlays.
-/
import Derived.Test.YtgdkdihedgiegaaDoorV23
import Derived.Test.YtgdkdihedgiegaaDoorArgs
namespace Go.Proofs.YtgdkdihedgiegaaDoor
open Go.RowKit

/-- An act, cut. -/
def cutR (x : ActL) : Nat × Bs × List Bs := (modR x.1 6, x.2.1.take 90, cutsR x.2.2)
theorem frame_small (r : Bs) (h : r.length ≤ 90) : (frameR r).length ≤ 92 := by
  simp only [frameR, List.length_cons, List.length_append]
  rw [numR_small (by omega : r.length < 128)]
  simp; omega
theorem frames_small (l : List Bs) (h : ∀ r ∈ l, r.length ≤ 90) : (l.flatMap frameR).length ≤ 92 * l.length := by
  induction l with
  | nil => simp
  | cons r l ih =>
    have h1 := frame_small r (h r (by simp))
    have h2 := ih (fun q hq => h q (by simp [hq]))
    simp only [List.flatMap_cons, List.length_append, List.length_cons]
    omega
theorem image_small (sn : Bs) (tl : List Bs) (h : sn.length ≤ 90) (ht : ∀ r ∈ tl, r.length ≤ 90) : (imageR sn tl).length ≤ 91 + 92 * tl.length := by
  have := frames_small tl ht
  unfold imageR
  simp only [List.length_append]
  rw [numR_small (by omega : sn.length < 128)]
  simp only [List.length_singleton]; omega
theorem cuts_small (tl : List Bs) : ∀ r ∈ cutsR tl, r.length ≤ 90 := by
  intro r hr
  obtain ⟨q, _, rfl⟩ := List.mem_map.1 hr
  rw [List.length_take]; omega
theorem cuts_len (tl : List Bs) : (cutsR tl).length ≤ 4 := by
  unfold cutsR; rw [List.length_map, List.length_take]; omega
theorem act_fit (sn : Bs) (tl : List Bs) (k : Nat) (text : Bs) (tail : List Bs) (n : Nat) (h : (imageR sn tl).length ≤ 600 + 100 * n) (ht : text.length ≤ 90) (hs : ∀ r ∈ tail, r.length ≤ 90) (hn : tail.length ≤ 4) :
    (imageR (actR sn tl k text tail).1 (actR sn tl k text tail).2).length ≤ 600 + 100 * (n + 1) := by
  unfold actR
  split
  · have := frame_small _ ht
    show (imageR sn (tl ++ [text])).length ≤ _
    rw [image_snoc, List.length_append]
    omega
  · have := image_small text tail ht hs
    show (imageR text tail).length ≤ _
    omega
/-- After, of a state whose tail is held. -/
theorem after_17 (N : Nat → Prop) (w : World) (sn : Bs) (a1 : Option Addr) (c1 : Nat) (tl : List Bs) (hh : Held N w (.slice a1 tl.length c1) tl) (hN : ∀ k, N k → k < w.heap.size) (hl : tl.length ≤ 1000000) (k : Nat) (hk : k ≤ 4) (text : Bs) (a2 : Option Addr) (c2 : Nat) (tail : List Bs) (h2 : Held N w (.slice a2 tail.length c2) tail) :
    Calls Tryd.prog 17 #[.agg #[S sn, .slice a1 tl.length c1], .agg #[.int .i64 k, S text, .slice a2 tail.length c2]] w fun e w' => ∃ a3 c3, e = .returned (.agg #[S (actR sn tl k text tail).1, .slice a3 (actR sn tl k text tail).2.length c3]) ∧ Held N w' (.slice a3 (actR sn tl k text tail).2.length c3) (actR sn tl k text tail).2 ∧ Below w.heap.size w w' := by
  by_cases h3 : k ≤ 2
  · have hx : actR sn tl k text tail = (sn, tl ++ [text]) := by unfold actR; rw [if_pos h3]
    rw [hx]
    refine (after_app w sn a1 c1 tl hh.tail hl k h3 text _).mono ?_
    rintro e w' ⟨⟨a3, c3, rfl, hs⟩, hb⟩
    exact ⟨a3, c3, rfl, Held.fresh hs (Nat.le_refl _) hN, hb⟩
  · have hx : actR sn tl k text tail = (text, tail) := by unfold actR; rw [if_neg h3]
    rw [hx]
    refine (after_rep w sn a1 tl.length c1 k (by omega) hk text a2 tail.length c2).mono ?_
    rintro e w' ⟨rfl, hb⟩
    exact ⟨a2, c2, rfl, h2.step (Step.of_below hb), hb⟩
theorem LS.all {lo X : Nat} {w0 w : World} {F : Nat → Prop} {g b : Nat} {sn : Bs} {tl : List Bs} {c : Bs} {l : Int} {sx : Bs} {av : Value} {tx : List Bs} (h : LS lo X w0 w F g b sn tl c l sx av tx) : ∀ k, With (With F g) X k → k < w.heap.size := by
  rintro j (hj | rfl)
  · exact h.vs.lt j hj
  · exact blk_lt h.x
/-- A slice of acts, at an index. -/
theorem ActsAt.at_ {w : World} {a : Option Addr} {n cap : Nat} {l : List ActL} (h : ActsAt w (.slice a n cap) l) (k : Nat) (hk : k < l.length) : n = l.length ∧ ∃ b off tv, a = some ⟨b, off, none⟩ ∧ w.cell? ⟨b, off + k * 3, none⟩ = some (.int .i64 l[k].1) ∧ w.cell? ⟨b, off + k * 3 + 1, none⟩ = some (S l[k].2.1) ∧ w.cell? ⟨b, off + k * 3 + 2, none⟩ = some tv ∧ TailAt w tv l[k].2.2 := by
  obtain ⟨a', cap', hv, h⟩ := h
  injection hv with h1 h2 h3
  subst h1 h2 h3
  obtain ⟨b, off, rfl, h2⟩ := h (fun e => by rw [e] at hk; simp at hk)
  obtain ⟨c0, c1, tv, c2, ht⟩ := h2 k _ (List.getElem?_eq_getElem hk)
  exact ⟨rfl, b, off, tv, rfl, c0, c1, c2, ht⟩
set_option maxHeartbeats 4000000 in
set_option maxRecDepth 100000 in
theorem plays_3 (av : Value) (l : List ActL) (w : World) (h : ActsAt w av l) : Calls Tryd.prog 3 #[av] w fun e w' => e = .returned (.bool true) ∧ Below w.heap.size w w' := by
  have HA : Hid (∀ W, Below w.heap.size w W → ActsAt W av l) := fun W hb => h.below hb
  obtain ⟨aa, acap, rfl, _⟩ := id h
  clear h
  go_enter Tryd.func3, Tryd.ntmps3
  go_wp2_with fail
  ((with_reducible refine Calls.mono (sanity_11 w) ?_); rintro e w1 ⟨rfl, hb1⟩)
  have HB1 := Lib.hid hb1
  clear hb1
  go_wp2_with fail
  ((with_reducible refine Calls.mono (new_S w1) ?_); rintro e w2 ⟨rfl, hd2, hb2, hz2⟩)
  have HD2 := Lib.hid hd2
  have HB2 := Lib.hid (btr HB1.out hb2 HB1.out.size)
  have HLO : Hid (∀ k, k = w1.heap.size → w.heap.size ≤ k) := fun k hk => by rw [hk]; exact HB1.out.size
  clear hd2 hb2 hz2
  go_wp2_with fail
  generalize w1.heap.size = b at *
  ((with_reducible refine Calls.mono (open_S _ w2 b [] [] [] 0 HD2.out) ?_); rintro e w3 ⟨F, g, v3, c, rfl, hv3, _, hs3, _⟩)
  have hl3 := hs3.below HLO.out HB2.out.size
  have HS := Lib.hid (LS.start hv3 hl3.2 (HB2.out.trans hl3.1) (Nat.le_trans HB2.out.size hl3.1.size))
  clear hv3 hs3 hl3
  go_wp2_with fail
  generalize hX : w3.heap.size = X at *
  clear hX
  generalize w3.alloc (.cells #[S [], .slice none 0 0] 32) = w4 at *
  go_loopw [5, 10] (fun gv i wr => ∃ (g k : Nat) (F : Nat → Prop) (c : Bs) (sn : Bs) (ta : Option Addr) (tl : List Bs) (cap : Nat), gv = .pointer (some ⟨g, 0, none⟩) ∧ i = .int .i64 k ∧ k ≤ l.length ∧ k ≤ 15 ∧ Hid (LS w.heap.size X w wr F g b sn tl c 0 sn (.slice ta tl.length cap) tl) ∧ Hid ((imageR sn tl).length ≤ 600 + 100 * k)) (fun _ i _ => l.length - (intOf i).toNat)
  case atStart => exact ⟨g, 0, F, c, [], none, [], 0, rfl, rfl, Nat.zero_le _, Nat.zero_le _, HS.out, (by show _ ≤ _; rw [image_nil]; omega)⟩
  case round =>
    clear HS HB1 HD2 HB2 HLO
    obtain ⟨g, k, F, c, sn, ta, tl, cap, rfl, rfl, hk, hk15, HL, HF⟩ := hrel
    obtain ⟨x0, x1, fx0, fx1⟩ := HL.out.cells
    by_cases hgo : k < l.length ∧ k < 15
    · obtain ⟨hlt, h15⟩ := hgo
      obtain ⟨_, bb, off, tv, rfl, c0, c1, c2, ht⟩ := (HA.out wr HL.out.bl).at_ k hlt
      generalize l[k] = y at *
      obtain ⟨m, hm⟩ : ∃ m, m = modR y.1 6 := ⟨_, rfl⟩
      obtain ⟨tx, htx⟩ : ∃ tx, tx = y.2.1.take 90 := ⟨_, rfl⟩
      obtain ⟨ct, hct⟩ : ∃ ct, ct = cutsR y.2.2 := ⟨_, rfl⟩
      have hm6 : m < 6 := by rw [hm]; exact modR_lt _ _ (by omega)
      have HTX : Hid (tx.length ≤ 90) := by show _ ≤ _; rw [htx, List.length_take]; omega
      have HCT : Hid (∀ r ∈ ct, r.length ≤ 90) := by rw [hct]; exact cuts_small _
      have HCL : Hid (ct.length ≤ 4) := by rw [hct]; exact cuts_len _
      have HCUT := Lib.hid (cut_14 wr y.1 y.2.1 tv y.2.2 ht)
      rw [← hm, ← htx, ← hct] at HCUT
      clear hm htx hct ht
      have H3 : Hid ((off + k * 3 : Nat) = off + k * 3) := rfl
      clear H3
      go_wp2_with fail
      ((with_reducible refine Calls.mono HCUT.out ?_); rintro e w5 ⟨⟨ca, cc, rfl, hsl5⟩, hb5⟩)
      have HL5 := Lib.hid (HL.out.below hb5)
      have HC5 : Hid (Held (With (With F g) X) w5 (.slice ca ct.length cc) ct) := Held.fresh hsl5 (Nat.le_refl _) (by rintro j (hj | rfl); exact HL.out.vs.lt j hj; exact blk_lt HL.out.x)
      clear hsl5 hb5 HCUT c0 c1 c2 x0 x1 fx0 fx1
      obtain ⟨x0, x1, fx0, fx1⟩ := HL5.out.cells
      by_cases h5 : m = 5
      · subst h5
        go_wp2_with fail
        obtain ⟨w6, hw6⟩ : ∃ w6, w5.alloc (.cells #[.int .i64 5, S tx, .slice ca ct.length cc] 34) = w6 := ⟨_, rfl⟩
        have ha := alloc_below w5 (.cells #[.int .i64 5, S tx, .slice ca ct.length cc] 34)
        rw [hw6] at ha
        have HL6 := Lib.hid (HL5.out.below ha)
        rw [hw6]
        clear hw6 ha x0 x1 fx0 fx1
        generalize w5.heap.size = Y at *
        ((with_reducible refine Calls.mono (open_S F w6 b sn tl c 0 HL6.out.vs.ds) ?_); rintro e w7 ⟨F7, g7, v7, c7, rfl, hv7, hsl7, hs7, _⟩)
        obtain ⟨a7, n7, rfl, _⟩ := id hsl7
        have HL7 := Lib.hid (HL6.out.opened hv7 hs7)
        have HT7 : Hid (TailAt w7 (.slice a7 tl.length n7) tl) := hsl7.mono (Nat.zero_le _) (Nat.le_refl _)
        clear hv7 hsl7 hs7
        obtain ⟨x0, x1, fx0, fx1⟩ := HL7.out.cells
        go_wp2_with fail
        ((with_reducible refine Calls.mono (is_S F7 w7 g7 b sn tl c7 0 HL7.out.vs _ _ HT7.out HL7.out.hd.tail) ?_); rintro e w8 ⟨rfl, hb8⟩)
        have HL8 := Lib.hid (HL7.out.below hb8)
        clear hb8 x0 x1 fx0 fx1
        go_wp2_with fail
        go_roundw
        case rel => exact ⟨g7, k + 1, F7, c7, sn, ta, tl, cap, rfl, by go_num, hlt, by omega, HL8.out, Nat.le_trans HF.out (by omega)⟩
        case measure => simp [intOf]; omega
      · have h5' : ¬ (m : Int) = 5 := by omega
        have h5b : ((m : Int) == 5) = false := by simpa using h5'
        go_wp2_with fail
        obtain ⟨w6, hw6⟩ : ∃ w6, w5.alloc (.cells #[.int .i64 m, S tx, .slice ca ct.length cc] 34) = w6 := ⟨_, rfl⟩
        have ha := alloc_below w5 (.cells #[.int .i64 m, S tx, .slice ca ct.length cc] 34)
        have hy := heap_alloc_new w5 (.cells #[.int .i64 m, S tx, .slice ca ct.length cc] 34)
        rw [hw6] at ha hy
        have HL6 := Lib.hid (HL5.out.below ha)
        have HC6 := Lib.hid (HC5.out.step (Step.of_below ha))
        have hny : ¬ With F g w5.heap.size := fun hx => by have := HL5.out.vs.lt _ hx; omega
        rw [hw6]
        have hmt : tl.length ≤ 20000 := by have h1 := tail_len sn tl; have h2 := HF.out; omega
        have hfit : (imageR (actR sn tl m tx ct).1 (actR sn tl m tx ct).2).length ≤ 600 + 100 * (k + 1) := act_fit sn tl m tx ct k HF.out HTX.out HCT.out HCL.out
        have HMT := Lib.hid hmt
        have HFIT := Lib.hid hfit
        clear hw6 ha x0 x1 fx0 fx1 hmt hfit
        ((with_reducible refine Calls.mono (do_S F w6 g b sn tl c 0 HL6.out.vs m (by omega) tx _ ct HC6.out.tail (Nat.le_trans HFIT.out (by omega))) ?_); rintro e w7 ⟨rfl, F7, c7, hv7, hs7⟩)
        have HL7 := Lib.hid (HL6.out.turn hv7 hs7)
        have HC7 := Lib.hid (HC6.out.step (hs7.more X))
        have hy7 := (hs7.block _ (blk_lt hy) hny).trans hy
        have y0 := Lib.cell_of_heap hy7 0
        have y1 := Lib.cell_of_heap hy7 1
        have y2 := Lib.cell_of_heap hy7 2
        simp at y0 y1 y2
        generalize w5.heap.size = Y at *
        clear hv7 hs7 hy hy7 hny
        obtain ⟨x0, x1, fx0, fx1⟩ := HL7.out.cells
        go_wp2_with fail
        clear x0 x1 fx0 fx1 y0 y1 y2
        ((with_reducible refine Calls.mono (after_17 _ w7 sn ta cap tl HL7.out.hd HL7.out.all (Nat.le_trans HMT.out (by omega)) m (by omega) tx ca cc ct HC7.out) ?_); rintro e w8 ⟨a8, c8, rfl, hh8, hb8⟩)
        have HL8 := Lib.hid (HL7.out.below hb8)
        have HH8 := Lib.hid hh8
        clear hh8 hb8
        have hfit := HFIT.out
        generalize (actR sn tl m tx ct).1 = s9 at *
        generalize (actR sn tl m tx ct).2 = t9 at *
        have HF9 := Lib.hid hfit
        clear hfit HFIT
        obtain ⟨x0, x1, fx0, fx1⟩ := HL8.out.cells
        go_wp2_with fail
        have HL9 := Lib.hid (HL8.out.set (sy := s9) HH8.out)
        obtain ⟨w9, hw9⟩ : ∃ w9, (w8.setCell ⟨X, 0, none⟩ (S s9)).setCell ⟨X, 1, none⟩ (.slice a8 t9.length c8) = w9 := ⟨_, rfl⟩
        rw [hw9] at HL9 ⊢
        clear x0 x1 fx0 fx1 hw9 HH8 HL8
        go_cut [87] (fun t wx => t = .bool false ∧ Below w9.heap.size w9 wx)
        case first =>
          obtain ⟨T, hT⟩ : ∃ T, T = trimR (cleanR s9 t9) := ⟨_, rfl⟩
          have HCO : Hid (∀ W : World, Below w9.heap.size w9 W → Calls Tryd.prog 18 #[.pointer (some ⟨b, 0, none⟩)] W fun e' w' => e' = .returned (S T) ∧ Below W.heap.size W w') := fun W hb => by
            rw [hT]; exact contents_S F7 W b s9 t9 c7 0 (HL9.out.below hb).vs.ds
          have HCL : Hid (∀ W : World, Below w9.heap.size w9 W → Calls Tryd.prog 19 #[.agg #[S s9, .slice a8 t9.length c8]] W fun e' w' => e' = .returned (S T) ∧ Below W.heap.size W w') := fun W hb => by
            rw [hT]; exact clean_19 s9 _ t9 W (HL9.out.below hb).hd.tail (by have := HF9.out; omega)
          have HMA : Hid (∀ W : World, Below w9.heap.size w9 W → Calls Tryd.prog 20 #[.pointer (some ⟨g, 0, none⟩)] W fun e' w' => e' = .returned (.int .i64 t9.length) ∧ w' = W) := fun W hb => many_20 W g b _ _ _ (HL9.out.below hb).vs.vd.vault
          have HSS : Hid (∀ W : World, Below w9.heap.size w9 W → W.cell? ⟨X, 0, none⟩ = some (S s9) ∧ W.cell? ⟨X, 1, none⟩ = some (.slice a8 t9.length c8)) := fun W hb => by
            obtain ⟨z0, z1, _⟩ := (HL9.out.below hb).cells
            exact ⟨z0, z1⟩
          have HB0 : Hid (Below w9.heap.size w9 w9.drew) := (Below.refl _ w9).drew
          obtain ⟨x0, x1⟩ := HSS.out _ (Below.refl _ w9)
          clear hT
          go_region_with (first
            | (go_at_call 18; ((with_reducible refine Calls.mono (HCO.out _ HB0.out) ?_); rintro e v1 ⟨rfl, hb1⟩); have HB1 := Lib.hid (btr HB0.out hb1 HB0.out.size); obtain ⟨z0, z1⟩ := HSS.out _ HB1.out; clear hb1)
            | (go_at_call 19; ((with_reducible refine Calls.mono (HCL.out _ HB1.out) ?_); rintro e v2 ⟨rfl, hb2⟩); have HB2 := Lib.hid (btr HB1.out hb2 HB1.out.size); obtain ⟨q0, q1⟩ := HSS.out _ HB2.out; clear hb2)
            | (go_at_call 20; ((with_reducible refine Calls.mono (HMA.out _ HB2.out) ?_); rintro e v3 ⟨rfl, hw⟩; have hw := hw.symm; subst hw)))
          all_goals
            go_wp2_with fail
            go_meet
            exact ⟨rfl, HB2.out⟩
        case rest =>
          obtain ⟨rfl, hb10⟩ := hcut
          have HL10 := Lib.hid (HL9.out.below hb10)
          clear hb10
          go_wp2_with fail
          go_roundw
          case rel => exact ⟨g, k + 1, F7, c7, s9, a8, t9, c8, rfl, by go_num, hlt, by omega, HL10.out, HF9.out⟩
          case measure => simp [intOf]; omega
    · have hF := HF.out
      have HFI : Hid ((imageR sn tl).length ≤ 20000) := by show _ ≤ _; omega
      by_cases hlt : k < l.length
      all_goals
        go_wp2_with fail
        ((with_reducible refine Calls.mono (open_S F wr b sn tl c 0 HL.out.vs.ds) ?_); rintro e w7 ⟨F7, g7, v7, c7, rfl, hv7, hsl7, hs7, _⟩)
        obtain ⟨a7, n7, rfl, _⟩ := id hsl7
        have HL7 := Lib.hid (HL.out.opened hv7 hs7)
        have HT7 : Hid (TailAt w7 (.slice a7 tl.length n7) tl) := hsl7.mono (Nat.zero_le _) (Nat.le_refl _)
        clear hv7 hsl7 hs7 x0 x1 fx0 fx1
        obtain ⟨x0, x1, fx0, fx1⟩ := HL7.out.cells
        go_wp2_with fail
        ((with_reducible refine Calls.mono (is_S F7 w7 g7 b sn tl c7 0 HL7.out.vs _ _ HT7.out HL7.out.hd.tail) ?_); rintro e w8 ⟨rfl, hb8⟩)
        have HL8 := Lib.hid (HL7.out.below hb8)
        clear hb8 x0 x1 fx0 fx1
        go_wp2_with fail
        go_ret
        exact ⟨rfl, HL8.out.bl⟩
end Go.Proofs.YtgdkdihedgiegaaDoor
