/-
  The walks of Taken and Marc8Back.
-/
import Derived.Test.YtpkacoknpedolaaDoorH2
import Derived.Test.YtpkacoknpedolaaDoorG8
namespace Go.Proofs.YtpkacoknpedolaaDoor
open Go.RowKit

theorem takenR_snoc (rs : List Nat) (k : Nat) (h : k < rs.length) : takenR (rs.take (k + 1)) = takenR (rs.take k) ++ takenC rs[k] := by
  have e : rs.take (k + 1) = rs.take k ++ [rs[k]] := by rw [List.take_add_one, List.getElem?_eq_getElem h]; rfl
  unfold takenR
  rw [e, List.flatMap_append]
  simp only [List.flatMap_cons, List.flatMap_nil, List.append_nil]
set_option maxHeartbeats 8000000 in
set_option maxRecDepth 100000 in
theorem taken_14 (s : Bs) (rs : List Nat) (w : World) (hr : RunesFrom ⟨s.toArray⟩ 0 rs) (hs : s.length ≤ 1000) (hrl : rs.length ≤ 1000) (hrc : ∀ c ∈ rs, c < 2147483648) : Calls Tryd.prog 14 #[S s] w fun e w' => e = .returned (S (takenR rs)) ∧ Below w.heap.size w w' := by
  obtain ⟨cp, zs, hcv⟩ := run_runes w s rs hr (by omega)
  have HC0 : Hid (∀ j (h : j < rs.length), (w.drew.alloc (.cells ((rs.map fun c : Nat => Value.int .i32 c) ++ zs).toArray 21)).cell? ⟨w.heap.size, j, none⟩ = some (.int .i32 rs[j])) := fun j h => by
    show (World.alloc w.drew _).cell? ⟨w.drew.heap.size, j, none⟩ = _
    rw [World.cell?_alloc_new, List.getElem?_toArray, List.getElem?_append_left (by simpa using h)]
    simp [h]
  have HB0 : Hid (Below w.heap.size w (w.drew.alloc (.cells ((rs.map fun c : Nat => Value.int .i32 c) ++ zs).toArray 21))) := Lib.hid ((Below.refl _ w).drew.alloc (by simp) _)
  have HZ0 : Hid (w.heap.size + 1 ≤ (w.drew.alloc (.cells ((rs.map fun c : Nat => Value.int .i32 c) ++ zs).toArray 21)).heap.size) := Lib.hid (by show _ ≤ (w.heap.push _).size; simp)
  generalize (w.drew.alloc (.cells ((rs.map fun c : Nat => Value.int .i32 c) ++ zs).toArray 21)) = w1 at *
  have HRC := Lib.hid hrc
  clear hr hrc
  go_enter Tryd.func14, Tryd.ntmps14
  go_wp2_with fail
  go_loopw [3, 5] (fun o i wr => ∃ (k : Nat) (out : Bs), k ≤ rs.length ∧ i = .int .i64 k ∧ o = S out ∧ Hid (out = takenR (rs.take k)) ∧ out.length ≤ 8 * k ∧ Hid (Below w.heap.size w wr) ∧ w.heap.size + 1 ≤ wr.heap.size ∧ Hid (∀ j (h : j < rs.length), wr.cell? ⟨w.heap.size, j, none⟩ = some (.int .i32 rs[j]))) (fun _ i _ => rs.length - (intOf i).toNat)
  case atStart => exact ⟨0, [], by omega, rfl, rfl, Lib.hid rfl, by simp, HB0, HZ0.out, HC0⟩
  case round =>
    obtain ⟨k, out, hk, rfl, rfl, HO, hol, HB, hz, HC⟩ := hrel
    by_cases hk2 : k < rs.length
    · have hk3 : (k : Int) < rs.length := by omega
      have d0 := HC.out k hk2
      have HSN := Lib.hid (takenR_snoc rs k hk2)
      have hc : rs[k] < 2147483648 := HRC.out _ (List.getElem_mem _)
      generalize rs[k] = c at *
      have HTP := Lib.hid (taken_part c)
      obtain ⟨h1, h2⟩ := part_lt hc
      have HPT : Hid (∀ W, Calls Tryd.prog 19 #[.int .i64 c] W fun e w' => e = .returned (.tuple #[.int .i64 (partC c).1, .int .i64 (partC c).2]) ∧ Below W.heap.size W w') := Lib.hid (fun W => parts_19 c W hc)
      generalize partC c = p at *
      obtain ⟨a, m⟩ := p
      simp only at h1 h2 HTP HPT
      have HA := Lib.hid (enc_le a).2
      have HM := Lib.hid (enc_le m).2
      by_cases hm : 0 < m
      · have hm2 : (0 : Int) < m := by omega
        rw [if_pos hm] at HTP
        have hl1 := HA.out
        have hl2 := HM.out
        go_wp2_with (first
          | (go_at_call 19; ((with_reducible refine Calls.mono (HPT.out _) ?_); rintro e w2 ⟨rfl, hb2⟩; have HB2 := Lib.hid hb2; clear hb2 HPT))
          | (go_at_call 20; ((with_reducible refine Calls.mono (char_20 a _ h1) ?_); rintro e w3 ⟨rfl, hb3⟩; have HB3 := Lib.hid (btr HB2.out hb3 HB2.out.size); clear hb3))
          | (go_at_call 20; ((with_reducible refine Calls.mono (char_20 m _ h2) ?_); rintro e w4 ⟨rfl, hb4⟩; have HB4 := Lib.hid (btr HB3.out hb4 HB3.out.size); clear hb4)))
        go_roundw
        case rel => exact ⟨k + 1, out ++ (enc a ++ enc m), by omega, by go_num, rfl, Lib.hid (by rw [HSN.out, ← HO.out, HTP.out]), by simp; omega, Lib.hid (btr HB.out HB4.out HB.out.size), Nat.le_trans hz HB4.out.size, fun j h => bext HB4.out _ _ (HC.out j h)⟩
        case measure => simp [intOf]; omega
      · have hm2 : ¬ (0 : Int) < m := by omega
        rw [if_neg hm, List.append_nil] at HTP
        have hl1 := HA.out
        go_wp2_with (first
          | (go_at_call 19; ((with_reducible refine Calls.mono (HPT.out _) ?_); rintro e w2 ⟨rfl, hb2⟩; have HB2 := Lib.hid hb2; clear hb2 HPT))
          | (go_at_call 20; ((with_reducible refine Calls.mono (char_20 a _ h1) ?_); rintro e w3 ⟨rfl, hb3⟩; have HB3 := Lib.hid (btr HB2.out hb3 HB2.out.size); clear hb3)))
        go_roundw
        case rel => exact ⟨k + 1, out ++ enc a, by omega, by go_num, rfl, Lib.hid (by rw [HSN.out, ← HO.out, HTP.out]), by simp; omega, Lib.hid (btr HB.out HB3.out HB.out.size), Nat.le_trans hz HB3.out.size, fun j h => bext HB3.out _ _ (HC.out j h)⟩
        case measure => simp [intOf]; omega
    · have hk3 : ¬ (k : Int) < rs.length := by omega
      go_wp2_with fail
      go_ret
      refine ⟨?_, HB.out⟩
      rw [HO.out, List.take_of_length_le (by omega)]
      rfl
theorem go_err (s : ByteArray) : ∀ (f pos : Nat) (e : ES) (k : Nat) (x : Int), encGo s f pos e = .error (k, some x) → x = 15 := by
  intro f
  induction f with
  | zero => intro pos e k x h; cases h
  | succ f ih =>
    intro pos e k x h
    unfold encGo at h
    split at h
    · split at h
      · cases h
      · split at h
        · injection h with h; injection h with _ h; injection h with h; exact h.symm
        · exact ih _ _ _ _ h
    · cases h
/-- Encode: it fails, or gives what is decoded to the same characters. -/
theorem back_cases (s : Bs) (hl : s.length ≤ 1000) :
    (∀ W, Tabs W → Calls Tryd.prog 10 #[S s] W fun e w' => ∃ k x : Int, x ≠ 0 ∧ GuardPost ([], k, x) W e w') ∨
    ∃ (t : Bs) (rs : List Nat), RunesFrom ⟨s.toArray⟩ 0 rs ∧ rs.length ≤ 1000 ∧ (∀ c ∈ rs, c < 2147483648) ∧ t.length ≤ 6000 ∧ decodeR t = (takenR rs, 0, 0) ∧ ∀ W, Tabs W → Calls Tryd.prog 10 #[S s] W (GuardPost (t, 0, 0) W) := by
  have H := fun W hW => encode_10 s W (by omega) hW (encFits_small s (by omega))
  have hz : (⟨s.toArray⟩ : ByteArray).size = s.length := by simp [ByteArray.size]
  cases hg : encGo ⟨s.toArray⟩ s.length 0 ⟨[], 0, []⟩ with
  | error p =>
    rw [hg] at H
    obtain ⟨k, x⟩ := p
    cases x with
    | none => exact .inl fun W hW => (H W hW).mono fun e w' ⟨y, ⟨x, hx, hy⟩, h⟩ => ⟨k, x, hx, by rw [← hy]; exact h⟩
    | some x =>
      have hx := go_err _ _ _ _ _ _ hg
      exact .inl fun W hW => (H W hW).mono fun e w' ⟨y, hy, h⟩ => ⟨k, x, by omega, by have hy : y = ([], (k : Int), x) := hy; rw [← hy]; exact h⟩
  | ok es =>
    rw [hg] at H
    obtain ⟨rs, h1, h2, h3, h4⟩ := go_chars ⟨s.toArray⟩ s.length 0 _ es (by omega) (by omega) hg
    have hll := encL_len rs _ es h4
    have hle := encEnd_len es
    simp only [List.length_nil] at hll
    exact .inr ⟨encEnd es, rs, h1, by omega, h2, by omega, back_law rs es h4, fun W hW => (H W hW).mono fun e w' ⟨y, hy, h⟩ => by have hy : y = (encEnd es, 0, 0) := hy; rw [← hy]; exact h⟩
set_option maxHeartbeats 8000000 in
set_option maxRecDepth 100000 in
theorem back_6 (v : Value) (n : Nat) (w : World) (hv : NumsIn w v n) (hn : n ≤ maxLen) (hT : Tabs w) : Calls Tryd.prog 6 #[v] w fun e w' => e = .returned (.bool true) ∧ Below w.heap.size w w' := by
  have HT := Lib.hid hT
  clear hT
  have HV := Lib.hid hv
  have HN := Lib.hid hn
  clear hv hn
  go_enter Tryd.func6, Tryd.ntmps6
  go_wp2_with (first
    | (go_at_call 8; ((with_reducible refine Calls.mono (sanity_8 _ HT.out) ?_); rintro e w1 ⟨rfl, hb1⟩; have HB1 := Lib.hid hb1; have HT1 := Lib.hid (HT.out.below hb1); clear hb1))
    | (go_at_call 13; ((with_reducible refine Calls.mono (text_13 v n _ (HV.out.below HB1.out) HN.out) ?_); rintro e w2 ⟨s, rfl, hsl, hb2⟩; have HB2 := Lib.hid (btr HB1.out hb2 HB1.out.size); have HT2 := Lib.hid (HT1.out.below hb2); clear hb2)))
  rcases back_cases s (by omega) with hbad | ⟨t, rs, h1, h2, h3, h4, h5, h6⟩
  · have HX := Lib.hid hbad
    clear hbad
    go_wp2_with (go_at_call 10; ((with_reducible refine Calls.mono (HX.out _ HT2.out) ?_); rintro e' w4 ⟨k, x, hx, rfl, hb4⟩; have HB4 := Lib.hid (btr HB2.out hb4 HB2.out.size); clear hb4))
    go_ret
    exact ⟨rfl, HB4.out⟩
  · have HE := Lib.hid h6
    have HD : Hid (∀ W, Tabs W → Calls Tryd.prog 9 #[S t] W (GuardPost (takenR rs, 0, 0) W)) := Lib.hid (fun W hW => decode_at' t _ h5 (by omega) W hW)
    have HK : Hid (∀ W, Calls Tryd.prog 14 #[S s] W fun e w' => e = .returned (S (takenR rs)) ∧ Below W.heap.size W w') := Lib.hid (fun W => taken_14 s rs W h1 (by omega) h2 h3)
    have htl := decodeR_len t
    rw [h5] at htl
    simp only at htl
    clear h1 h3 h5 h6
    generalize takenR rs = u at *
    go_wp2_with (first
      | (go_at_call 10; ((with_reducible refine Calls.mono (HE.out _ HT2.out) ?_); rintro e' w4 ⟨rfl, hb4⟩; have HB4 := Lib.hid (btr HB2.out hb4 HB2.out.size); have HT4 := Lib.hid (HT2.out.below hb4); clear hb4))
      | (go_at_call 9; ((with_reducible refine Calls.mono (HD.out _ HT4.out) ?_); rintro e' w5 ⟨rfl, hb5⟩; have HB5 := Lib.hid (btr HB4.out hb5 HB4.out.size); clear hb5))
      | (go_at_call 14; ((with_reducible refine Calls.mono (HK.out _) ?_); rintro e' w6 ⟨rfl, hb6⟩; have HB6 := Lib.hid (btr HB5.out hb6 HB5.out.size); clear hb6)))
    go_ret
    exact ⟨rfl, HB6.out⟩
end Go.Proofs.YtpkacoknpedolaaDoor
