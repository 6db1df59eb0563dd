/-
  The walks of ReadNumber and piece.
-/
import Derived.Test.YtgdkdihedgiegaaDoorC3
import Derived.Laws.Bits64b
namespace Go.Proofs.YtgdkdihedgiegaaDoor
open Go.RowKit
attribute [local go_sem] conv_rule

theorem cont_lt {t : Bs} {k : Nat} (h : k < t.length) (hp : ∀ j, j < k → 128 ≤ (t.getD j 0).toNat) (hk : (t.getD k 0).toNat < 128) : contR t = k := by
  induction t generalizing k with
  | nil => simp at h
  | cons b t ih =>
    cases k with
    | zero => simp at hk; simp [contR, hk]
    | succ k =>
      have h0 := hp 0 (by omega)
      simp at h0
      simp only [contR]
      rw [if_neg (by omega), ih (by simpa using h) (fun j hj => by have := hp (j + 1) (by omega); simpa using this) (by simpa using hk)]
theorem cont_all {t : Bs} (hp : ∀ j, j < t.length → 128 ≤ (t.getD j 0).toNat) : ¬ contR t < t.length := by
  induction t with
  | nil => simp
  | cons b t ih =>
    have h0 := hp 0 (by simp)
    simp at h0
    have := ih (fun j hj => by have := hp (j + 1) (by simp; omega); simpa using this)
    simp only [contR, List.length_cons]
    rw [if_neg (by omega)]
    omega
theorem val_take (t : Bs) (k : Nat) (h : k < t.length) : valR (t.take (k + 1)) = valR (t.take k) + 128 ^ k * ((t.getD k 0).toNat % 128) := by
  induction t generalizing k with
  | nil => simp at h
  | cons b t ih =>
    cases k with
    | zero => simp [valR]
    | succ k =>
      have := ih k (by simpa using h)
      simp only [List.take_succ_cons, valR, this, Nat.pow_succ, Nat.mul_add]
      rw [Nat.mul_comm (128 ^ k) 128, Nat.mul_assoc]
      simp
      omega
theorem or_shift (v k b : Nat) (hv : v < 128 ^ k) : v ||| (b * 128 ^ k) = v + 128 ^ k * b := by
  have h1 : (128 : Nat) ^ k = 2 ^ (7 * k) := by rw [Nat.pow_mul]
  rw [h1] at hv ⊢
  rw [Nat.or_comm, Nat.mul_comm, ← Nat.two_pow_add_eq_or_of_lt hv, Nat.add_comm]
theorem group_or (v b k : Nat) (hv : v < 128 ^ k) (hk : (k ≤ 8 ∧ b < 256) ∨ (k = 9 ∧ b ≤ 1)) : bits .or .u64 (v : Int) (IntKind.u64.wrap ((b : Int) % 128 * 2 ^ (7 * k))) = ((v + 128 ^ k * (b % 128) : Nat) : Int) := by
  have h1 : (128 : Nat) ^ k = 2 ^ (7 * k) := by rw [Nat.pow_mul]
  have hb : b % 128 * 2 ^ (7 * k) < 18446744073709551616 := by
    rcases hk with ⟨hk, _⟩ | ⟨rfl, hb⟩
    · have h2 : (2 : Nat) ^ (7 * k) ≤ 2 ^ 56 := Nat.pow_le_pow_right (by omega) (by omega)
      have h3 : b % 128 * 2 ^ (7 * k) ≤ 127 * 2 ^ 56 := Nat.mul_le_mul (by omega) h2
      omega
    · have h3 : b % 128 * 2 ^ (7 * 9) ≤ 1 * 2 ^ 63 := Nat.mul_le_mul (by omega) (Nat.le_refl _)
      omega
  have hv2 : v < 18446744073709551616 := by
    have h2 : (128 : Nat) ^ k ≤ 128 ^ 9 := Nat.pow_le_pow_right (by omega) (by omega)
    have e9 : (128 : Nat) ^ 9 = 9223372036854775808 := by decide
    omega
  have hc : (b : Int) % 128 * 2 ^ (7 * k) = ((b % 128 * 2 ^ (7 * k) : Nat) : Int) := by simp
  rw [hc, IntWalk.u64_in _ (by omega), bits_or_u64_nat _ _ hv2 hb, ← h1]
  congr 1
  exact or_shift v k (b % 128) hv
/-- The post of ReadNumber. -/
def ReadPost (r : Nat × Nat × Int) (w : World) (e : Ending) (w' : World) : Prop := e = .returned (.tuple #[.int .u64 r.1, .int .i64 r.2.1, .int .i64 r.2.2]) ∧ Below w.heap.size w w'
theorem readNum_eq (s t : Bs) (ht : s.take 10 = t) : readNumR s = if contR t < t.length then (if (0 < contR t ∧ (t.getD (contR t) 0).toNat = 0) ∨ (contR t = 9 ∧ 1 < (t.getD (contR t) 0).toNat) then (0, 0, 11) else (valR (t.take (contR t + 1)), contR t + 1, 0)) else if s.length < 10 then (0, 0, 10) else (0, 0, 11) := by
  subst ht; rfl
set_option maxHeartbeats 4000000 in
set_option maxRecDepth 100000 in
theorem readNumber_72 (s : Bs) (w : World) (hs : s.length ≤ 100000000) : Calls Tryd.prog 72 #[S s] w (ReadPost (readNumR s) w) := by
  obtain ⟨t, ht⟩ : ∃ t, s.take 10 = t := ⟨_, rfl⟩
  have HR := Lib.hid (readNum_eq s t ht)
  have htl : t.length = min s.length 10 := by rw [← ht, List.length_take, Nat.min_comm]
  have ht10 : t.length ≤ 10 := by omega
  have HTL := Lib.hid htl
  by_cases hgt : 10 < s.length
  · clear htl
    go_enter Tryd.func72, Tryd.ntmps72
    go_wp2_with fail
    have HW := Lib.hid (bytesW_below w t)
    have HT := Lib.hid (bytesW_text w t)
    generalize bytesW w t = W at *
    go_loop [5, 15] (fun z i => ∃ (k : Nat) (n : Int), i = .int .i64 k ∧ z = .int .u64 n ∧ k ≤ t.length ∧ Hid (k ≤ 9 → n = valR (t.take k)) ∧ Hid (∀ j, j < k → 128 ≤ (t.getD j 0).toNat)) (fun _ i => t.length - (intOf i).toNat)
    case atStart => exact ⟨0, 0, rfl, rfl, Nat.zero_le _, fun _ => (by simp [valR]), fun j hj => by omega⟩
    case round =>
      obtain ⟨k, n, rfl, rfl, hk, HN, HP⟩ := hrel
      by_cases hlt : k < t.length
      · obtain ⟨b, hb⟩ : ∃ b, b = t.getD k 0 := ⟨_, rfl⟩
        have hcell : W.cell? ⟨w.heap.size, k, none⟩ = some (.int .u8 (b.toNat : Int)) := HT.out.cell k _ (by rw [hb]; simp [bv, hlt])
        have HB := Lib.hid hb
        have hb2 : (b.toNat : Int) < 256 := u8_lt b
        clear hb
        have hz : ∃ z : Int, bits .or .u64 n (IntKind.u64.wrap ((b.toNat : Int) % 128 * 2 ^ (7 * k))) = z ∧ ((k ≤ 8 ∨ b.toNat ≤ 1) → z = valR (t.take (k + 1))) := by
          refine ⟨_, rfl, fun h => ?_⟩
          have hv := val_lt (t.take k)
          rw [List.length_take, Nat.min_eq_left (by omega)] at hv
          rw [HN.out (by omega), group_or _ b.toNat k hv (by omega), val_take t k hlt, ← HB.out]
        obtain ⟨z, ez, hz⟩ := hz
        have HZ := Lib.hid hz
        clear hz
        by_cases hbb : 128 ≤ b.toNat
        · go_wp2_with fail
          go_round
          case rel =>
            refine ⟨k + 1, z, by go_num, rfl, hlt, fun h9 => HZ.out (.inl (by omega)), fun j hj => ?_⟩
            by_cases hjk : j < k
            · exact HP.out j hjk
            · obtain rfl : j = k := by omega
              rw [← HB.out]; exact hbb
          case measure => simp [intOf]; omega
        · have hc : contR t = k := cont_lt hlt HP.out (by rw [← HB.out]; omega)
          have hr := HR.out
          rw [hc, if_pos hlt, ← HB.out] at hr
          have HRR := Lib.hid hr
          clear hc hr
          have HBL := HW.out
          have HBL := Lib.hid HBL
          by_cases hbad : (0 < k ∧ b.toNat = 0) ∨ (k = 9 ∧ 1 < b.toNat)
          · have hr := HRR.out
            rw [if_pos hbad] at hr
            have HRX := Lib.hid hr
            clear hr
            go_wp2_with fail
            all_goals
              go_ret3
              rw [HRX.out]
              exact ⟨rfl, HBL.out⟩
          · have hr := HRR.out
            rw [if_neg hbad] at hr
            have HRX := Lib.hid hr
            have hzz : Hid (z = valR (t.take (k + 1))) := HZ.out (by omega)
            clear hr
            go_wp2_with fail
            all_goals first
              | (have h9 : (k : Int) = 9 := by assumption
                 have hx : ((b.toNat : Int) == 0) = true ∨ 1 < (b.toNat : Int) := by assumption
                 exfalso
                 refine hbad ?_
                 rcases hx with hx | hx
                 · left; simp at hx; omega
                 · right; omega)
              | (have h9 : (k : Int) = 9 := by assumption
                 obtain rfl : k = 9 := by omega
                 go_ret3
                 rw [HRX.out]
                 refine ⟨?_, HBL.out⟩
                 simp only
                 rw [← hzz.out]
                 rfl)
              | (go_ret3
                 rw [HRX.out]
                 refine ⟨?_, HBL.out⟩
                 simp only
                 rw [← hzz.out]
                 rfl)
      · obtain rfl : k = t.length := by omega
        have hc := cont_all HP.out
        have hr := HR.out
        rw [if_neg hc] at hr
        have HRX := Lib.hid hr
        have HBL := Lib.hid HW.out
        clear hr hc
        have h10 : ¬ s.length < 10 := by omega
        have hr := HRX.out
        rw [if_neg h10] at hr
        have HRY := Lib.hid hr
        clear hr
        go_wp2_with fail
        go_ret3
        rw [HRY.out]
        exact ⟨rfl, HBL.out⟩
  · obtain rfl : t = s := by rw [← ht, List.take_of_length_le (by omega)]
    clear htl ht
    go_enter Tryd.func72, Tryd.ntmps72
    go_wp2_with fail
    have HW := Lib.hid (bytesW_below w t)
    have HT := Lib.hid (bytesW_text w t)
    generalize bytesW w t = W at *
    go_loop [5, 15] (fun z i => ∃ (k : Nat) (n : Int), i = .int .i64 k ∧ z = .int .u64 n ∧ k ≤ t.length ∧ Hid (k ≤ 9 → n = valR (t.take k)) ∧ Hid (∀ j, j < k → 128 ≤ (t.getD j 0).toNat)) (fun _ i => t.length - (intOf i).toNat)
    case atStart => exact ⟨0, 0, rfl, rfl, Nat.zero_le _, fun _ => (by simp [valR]), fun j hj => by omega⟩
    case round =>
      obtain ⟨k, n, rfl, rfl, hk, HN, HP⟩ := hrel
      by_cases hlt : k < t.length
      · obtain ⟨b, hb⟩ : ∃ b, b = t.getD k 0 := ⟨_, rfl⟩
        have hcell : W.cell? ⟨w.heap.size, k, none⟩ = some (.int .u8 (b.toNat : Int)) := HT.out.cell k _ (by rw [hb]; simp [bv, hlt])
        have HB := Lib.hid hb
        have hb2 : (b.toNat : Int) < 256 := u8_lt b
        clear hb
        have hz : ∃ z : Int, bits .or .u64 n (IntKind.u64.wrap ((b.toNat : Int) % 128 * 2 ^ (7 * k))) = z ∧ ((k ≤ 8 ∨ b.toNat ≤ 1) → z = valR (t.take (k + 1))) := by
          refine ⟨_, rfl, fun h => ?_⟩
          have hv := val_lt (t.take k)
          rw [List.length_take, Nat.min_eq_left (by omega)] at hv
          rw [HN.out (by omega), group_or _ b.toNat k hv (by omega), val_take t k hlt, ← HB.out]
        obtain ⟨z, ez, hz⟩ := hz
        have HZ := Lib.hid hz
        clear hz
        by_cases hbb : 128 ≤ b.toNat
        · go_wp2_with fail
          go_round
          case rel =>
            refine ⟨k + 1, z, by go_num, rfl, hlt, fun h9 => HZ.out (.inl (by omega)), fun j hj => ?_⟩
            by_cases hjk : j < k
            · exact HP.out j hjk
            · obtain rfl : j = k := by omega
              rw [← HB.out]; exact hbb
          case measure => simp [intOf]; omega
        · have hc : contR t = k := cont_lt hlt HP.out (by rw [← HB.out]; omega)
          have hr := HR.out
          rw [hc, if_pos hlt, ← HB.out] at hr
          have HRR := Lib.hid hr
          clear hc hr
          have HBL := HW.out
          have HBL := Lib.hid HBL
          by_cases hbad : (0 < k ∧ b.toNat = 0) ∨ (k = 9 ∧ 1 < b.toNat)
          · have hr := HRR.out
            rw [if_pos hbad] at hr
            have HRX := Lib.hid hr
            clear hr
            go_wp2_with fail
            all_goals
              go_ret3
              rw [HRX.out]
              exact ⟨rfl, HBL.out⟩
          · have hr := HRR.out
            rw [if_neg hbad] at hr
            have HRX := Lib.hid hr
            have hzz : Hid (z = valR (t.take (k + 1))) := HZ.out (by omega)
            clear hr
            go_wp2_with fail
            all_goals first
              | (have h9 : (k : Int) = 9 := by assumption
                 have hx : ((b.toNat : Int) == 0) = true ∨ 1 < (b.toNat : Int) := by assumption
                 exfalso
                 refine hbad ?_
                 rcases hx with hx | hx
                 · left; simp at hx; omega
                 · right; omega)
              | (have h9 : (k : Int) = 9 := by assumption
                 obtain rfl : k = 9 := by omega
                 go_ret3
                 rw [HRX.out]
                 refine ⟨?_, HBL.out⟩
                 simp only
                 rw [← hzz.out]
                 rfl)
              | (go_ret3
                 rw [HRX.out]
                 refine ⟨?_, HBL.out⟩
                 simp only
                 rw [← hzz.out]
                 rfl)
      · obtain rfl : k = t.length := by omega
        have hc := cont_all HP.out
        have hr := HR.out
        rw [if_neg hc] at hr
        have HRX := Lib.hid hr
        have HBL := Lib.hid HW.out
        clear hr hc
        by_cases h10 : t.length < 10
        · have hr := HRX.out
          rw [if_pos h10] at hr
          have HRY := Lib.hid hr
          clear hr
          go_wp2_with fail
          go_ret3
          rw [HRY.out]
          exact ⟨rfl, HBL.out⟩
        · have hr := HRX.out
          rw [if_neg h10] at hr
          have HRY := Lib.hid hr
          clear hr
          go_wp2_with fail
          go_ret3
          rw [HRY.out]
          exact ⟨rfl, HBL.out⟩
end Go.Proofs.YtgdkdihedgiegaaDoor
