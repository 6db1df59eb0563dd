/-
  The walk of Marc8Parts.
-/
import Derived.Test.YtpkacoknpedolaaDoorG5
namespace Go.Proofs.YtpkacoknpedolaaDoor
open Go.RowKit

theorem dec_bound : ∀ (m : Nat) (p : Bs) (k : Nat) (d : DS), p.length ≤ m → (∀ i e, decW p k d = .error (i, e) → i ≤ k + p.length) ∧ ∀ d', decW p k d = .ok d' → d'.first ≤ d.first ∨ d'.first ≤ k + p.length := by
  intro m
  induction m with
  | zero =>
    intro p k d hm
    have : p = [] := List.eq_nil_of_length_eq_zero (by omega)
    subst this
    refine ⟨fun i e h => (by rw [decW_nil] at h; cases h), fun d' h => ?_⟩
    rw [decW_nil] at h; injection h with h; subst h; exact .inl (Nat.le_refl _)
  | succ m ih =>
    intro p k d hm
    cases p with
    | nil =>
      refine ⟨fun i e h => (by rw [decW_nil] at h; cases h), fun d' h => ?_⟩
      rw [decW_nil] at h; injection h with h; subst h; exact .inl (Nat.le_refl _)
    | cons b r =>
      have hr : r.length ≤ m := by simpa using hm
      rw [decW_cons]
      cases hs : stepL b r k d with
      | error x =>
        obtain ⟨i, e⟩ := x
        obtain ⟨h1, _⟩ := stepL_err hs
        refine ⟨fun i' e' h => ?_, fun d' h => (by cases h)⟩
        injection h with h; injection h with h4 h5
        omega
      | ok x =>
        obtain ⟨d1, n⟩ := x
        obtain ⟨_, hn⟩ := stepL_app (q := []) hs
        have hf : d1.first ≤ d.first ∨ d1.first ≤ k := by
          unfold stepL at hs
          split at hs
          · split at hs
            · cases hs
            · split at hs
              · injection hs with hs; injection hs with hs _; subst hs; exact .inl (Nat.le_refl _)
              · split at hs
                · cases hs
                · injection hs with hs; injection hs with hs _; subst hs; exact .inl (Nat.le_refl _)
          · split at hs
            · injection hs with hs; injection hs with hs _; subst hs
              simp only
              split
              · exact .inr (Nat.le_refl _)
              · exact .inl (Nat.le_refl _)
            · split at hs
              · injection hs with hs; injection hs with hs _; subst hs; exact .inl (Nat.le_refl _)
              · cases hs
        simp only
        obtain ⟨g1, g2⟩ := ih (r.drop n) (k + 1 + n) d1 (by simp; omega)
        have hl : (r.drop n).length = r.length - n := by simp
        refine ⟨fun i e h => ?_, fun d' h => ?_⟩
        · have := g1 i e h; simp; omega
        · have := g2 d' h; simp at this ⊢; omega
theorem decodeR_at (s : Bs) : 0 ≤ (decodeR s).2.1 ∧ (decodeR s).2.1 ≤ s.length := by
  rw [decodeR_W]
  obtain ⟨h1, h2⟩ := dec_bound s.length s 0 ⟨[], [], 0, 0⟩ (Nat.le_refl _)
  cases hd : decW s 0 ⟨[], [], 0, 0⟩ with
  | error x =>
    obtain ⟨i, e⟩ := x
    have := h1 i e hd
    simp [decEnd]; omega
  | ok d =>
    have := h2 d hd
    unfold decEnd
    simp only
    split <;> simp at this ⊢ <;> omega
theorem stepL_len {b : UInt8} {r : Bs} {k : Nat} {d d1 : DS} {n : Nat} (h : stepL b r k d = .ok (d1, n)) : d1.out.length + d1.held.length ≤ d.out.length + d.held.length + 4 := by
  unfold stepL at h
  split at h
  · split at h
    · cases h
    · split at h
      · injection h with h; injection h with h _; subst h; simp; omega
      · split at h
        · cases h
        · injection h with h; injection h with h _; subst h; simp
  · split at h
    · rename_i m _
      have := (enc_le m).2
      injection h with h; injection h with h _; subst h; simp; omega
    · split at h
      · rename_i c _
        have := (enc_le c).2
        injection h with h; injection h with h _; subst h; simp; omega
      · cases h
theorem dec_len : ∀ (m : Nat) (p : Bs) (k : Nat) (d d' : DS), p.length ≤ m → decW p k d = .ok d' → d'.out.length + d'.held.length ≤ d.out.length + d.held.length + 4 * p.length := by
  intro m
  induction m with
  | zero =>
    intro p k d d' hm h
    have : p = [] := List.eq_nil_of_length_eq_zero (by omega)
    subst this
    rw [decW_nil] at h; injection h with h; subst h; omega
  | succ m ih =>
    intro p k d d' hm h
    cases p with
    | nil => rw [decW_nil] at h; injection h with h; subst h; omega
    | cons b r =>
      have hr : r.length ≤ m := by simpa using hm
      rw [decW_cons] at h
      cases hs : stepL b r k d with
      | error x => rw [hs] at h; cases h
      | ok x =>
        obtain ⟨d1, n⟩ := x
        rw [hs] at h
        simp only at h
        have h1 := stepL_len hs
        have h2 := ih (r.drop n) _ d1 d' (by simp; omega) h
        have hl : (r.drop n).length ≤ r.length := by simp
        simp only [List.length_cons]
        omega
theorem decodeR_len (s : Bs) : (decodeR s).1.length ≤ 4 * s.length := by
  rw [decodeR_W]
  cases hd : decW s 0 ⟨[], [], 0, 0⟩ with
  | error x => obtain ⟨i, e⟩ := x; simp [decEnd]
  | ok d =>
    have := dec_len s.length s 0 _ d (Nat.le_refl _) hd
    unfold decEnd
    simp only
    split
    · simp at this ⊢; omega
    · simp
set_option maxHeartbeats 8000000 in
set_option maxRecDepth 100000 in
theorem parts_5 (v u : Value) (n m : Nat) (w : World) (hv : NumsIn w v n) (hn : n ≤ maxLen) (hu : NumsIn w u m) (hm : m ≤ maxLen) (hT : Tabs w) : Calls Tryd.prog 5 #[v, u] w fun e w' => e = .returned (.bool true) ∧ Below w.heap.size w w' := by
  have HT := Lib.hid hT
  clear hT
  have HV := Lib.hid hv
  have HU := Lib.hid hu
  clear hv hu
  have HN := Lib.hid hn
  have HM := Lib.hid hm
  clear hn hm
  go_enter Tryd.func5, Tryd.ntmps5
  go_wp2_with (first
    | (go_at_call 8; ((with_reducible refine Calls.mono (sanity_8 _ HT.out) ?_); rintro e w1 ⟨rfl, hb1⟩; have HB1 := Lib.hid hb1; have HT1 := Lib.hid (HT.out.below hb1); clear hb1))
    | (go_at_call 12; ((with_reducible refine Calls.mono (bytes_12 v n _ (HV.out.below HB1.out) HN.out) ?_); rintro e w2 ⟨s0, rfl, hsl, hb2⟩; have HB2 := Lib.hid (btr HB1.out hb2 HB1.out.size); have HT2 := Lib.hid (HT1.out.below hb2); clear hb2)))
  have HLAW0 : Hid (∀ t, PartsOK (s0 ++ [27, 40, 66]).length (decodeR (s0 ++ [27, 40, 66])) (decodeR t) (decodeR (s0 ++ [27, 40, 66] ++ t))) := Lib.hid (fun t => parts_law s0 t)
  have hsl2 : (s0 ++ [27, 40, 66]).length ≤ 243 := by simp; omega
  generalize s0 ++ [27, 40, 66] = s at *
  clear hsl
  go_wp2_with (go_at_call 12; ((with_reducible refine Calls.mono (bytes_12 u m _ ((HU.out.below HB2.out)) HM.out) ?_); rintro e w3 ⟨t, rfl, htl, hb3⟩; have HB3 := Lib.hid (btr HB2.out hb3 HB2.out.size); have HT3 := Lib.hid (HT2.out.below hb3); clear hb3))
  have HLAW := Lib.hid (HLAW0.out t)
  have HJ := Lib.hid (decodeR_at t)
  have HLA := Lib.hid (decodeR_len s)
  have HLB := Lib.hid (decodeR_len t)
  have hst : (s ++ t).length ≤ 500 := by simp; omega
  have HX : Hid (∀ W, Tabs W → Calls Tryd.prog 9 #[S s] W (GuardPost (decodeR s) W)) := Lib.hid (fun W hW => decode_at' s _ rfl (by omega) W hW)
  have HY : Hid (∀ W, Tabs W → Calls Tryd.prog 9 #[S t] W (GuardPost (decodeR t) W)) := Lib.hid (fun W hW => decode_at' t _ rfl (by omega) W hW)
  have HZ : Hid (∀ W, Tabs W → Calls Tryd.prog 9 #[S (s ++ t)] W (GuardPost (decodeR (s ++ t)) W)) := Lib.hid (fun W hW => decode_at' (s ++ t) _ rfl (by omega) W hW)
  clear HLAW0
  obtain ⟨x, hx⟩ : ∃ x, decodeR s = x := ⟨_, rfl⟩
  obtain ⟨y, hy⟩ : ∃ y, decodeR t = y := ⟨_, rfl⟩
  obtain ⟨q, hq⟩ : ∃ q, decodeR (s ++ t) = q := ⟨_, rfl⟩
  rw [hx] at HX HLAW HLA
  rw [hy] at HY HLAW HJ HLB
  rw [hq] at HZ HLAW
  clear hx hy hq
  obtain ⟨a, i, e⟩ := x
  obtain ⟨b, j, f⟩ := y
  obtain ⟨c, k, g⟩ := q
  have hj0 : 0 ≤ j := HJ.out.1
  have hla : a.length ≤ 1000 := by have : a.length ≤ 4 * s.length := HLA.out; omega
  have hlb : b.length ≤ 1000 := by have : b.length ≤ 4 * t.length := HLB.out; omega
  have hj1 : j ≤ t.length := HJ.out.2
  have hw : IntKind.i64.wrap ((s.length : Int) + j) = s.length + j := IntWalk.i64_in _ (by omega)
  go_wp2_with (first
    | (go_at_call 9; ((with_reducible refine Calls.mono (HX.out _ HT3.out) ?_); rintro e' w4 ⟨rfl, hb4⟩; have HB4 := Lib.hid (btr HB3.out hb4 HB3.out.size); have HT4 := Lib.hid (HT3.out.below hb4); clear hb4))
    | (go_at_call 9; ((with_reducible refine Calls.mono (HY.out _ HT4.out) ?_); rintro e' w5 ⟨rfl, hb5⟩; have HB5 := Lib.hid (btr HB4.out hb5 HB4.out.size); have HT5 := Lib.hid (HT4.out.below hb5); clear hb5)))
  have HP : Hid (if e ≠ 0 then (k = i ∧ g = e) ∨ e = 10 else if f ≠ 0 then g = f ∧ k = s.length + j ∧ c = [] else g = 0 ∧ c = a ++ b) := HLAW.out
  by_cases he : e = 0
  · subst he
    by_cases hf : f = 0
    · subst hf
      obtain ⟨rfl, rfl⟩ : g = 0 ∧ c = a ++ b := HP.out
      clear HP
      go_wp2_with (go_at_call 9; ((with_reducible refine Calls.mono (HZ.out _ HT5.out) ?_); rintro e' w6 ⟨rfl, hb6⟩; have HB6 := Lib.hid (btr HB5.out hb6 HB5.out.size); clear hb6))
      go_ret
      exact ⟨rfl, HB6.out⟩
    · have hf0 : (f == 0) = false := by simpa using hf
      obtain ⟨rfl, rfl, rfl⟩ : g = f ∧ k = s.length + j ∧ c = [] := by
        have := HP.out
        rw [if_neg (by simp), if_pos hf] at this
        exact this
      clear HP
      go_wp2_with (go_at_call 9; ((with_reducible refine Calls.mono (HZ.out _ HT5.out) ?_); rintro e' w6 ⟨rfl, hb6⟩; have HB6 := Lib.hid (btr HB5.out hb6 HB5.out.size); clear hb6))
      go_ret
      exact ⟨rfl, HB6.out⟩
  · have he0 : (e == 0) = false := by simpa using he
    have HQ : Hid ((k = i ∧ g = e) ∨ e = 10) := Lib.hid (by
      have := HP.out
      rw [if_pos he] at this
      exact this)
    clear HP
    rcases HQ.out with ⟨rfl, rfl⟩ | rfl
    · clear HQ
      go_wp2_with (go_at_call 9; ((with_reducible refine Calls.mono (HZ.out _ HT5.out) ?_); rintro e' w6 ⟨rfl, hb6⟩; have HB6 := Lib.hid (btr HB5.out hb6 HB5.out.size); clear hb6))
      go_ret
      exact ⟨rfl, HB6.out⟩
    · clear HQ
      have h1 : (k == i) = true ∨ (k == i) = false := by cases (k == i) <;> simp
      have h2 : (g == 10) = true ∨ (g == 10) = false := by cases (g == 10) <;> simp
      rcases h1 with h1 | h1 <;> rcases h2 with h2 | h2
      all_goals
        go_wp2_with (go_at_call 9; ((with_reducible refine Calls.mono (HZ.out _ HT5.out) ?_); rintro e' w6 ⟨rfl, hb6⟩; have HB6 := Lib.hid (btr HB5.out hb6 HB5.out.size); clear hb6))
        go_ret
        exact ⟨by simp, HB6.out⟩
end Go.Proofs.YtpkacoknpedolaaDoor
