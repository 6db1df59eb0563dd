/-
  The walk of the reference's ReadNumber.
-/
import Derived.Test.YtgdkdihedgiegaaDoorV26
namespace Go.Proofs.YtgdkdihedgiegaaDoor
open Go.RowKit

theorem take_snoc (s : Bs) (k : Nat) (h : k < s.length) : s.take (k + 1) = s.take k ++ [s.getD k 0] := by
  rw [List.take_succ_eq_append_getElem h, List.getD_eq_getElem?_getD, List.getElem?_eq_getElem h]; rfl
/-- A number is what is written of it, if what stands there is a number's and the last byte is no more than fits. -/
theorem num_iff (s : Bs) (k N : Nat) (hk : k < s.length) (hp : ∀ j, j < k → 128 ≤ (s.getD j 0).toNat) (hb : (s.getD k 0).toNat < 128) (h9 : k ≤ 9) (hN : N < 18446744073709551616) (hv : valR (s.take (k + 1)) < 18446744073709551616 → N = valR (s.take (k + 1))) :
    numR N = s.take (k + 1) ↔ ¬ ((0 < k ∧ (s.getD k 0).toNat = 0) ∨ (k = 9 ∧ 1 < (s.getD k 0).toNat)) := by
  have hs := take_snoc s k hk
  have hpre : ∀ x ∈ s.take k, 128 ≤ x.toNat := by
    intro x hx
    obtain ⟨j, hj, rfl⟩ := List.getElem_of_mem hx
    rw [List.length_take] at hj
    have := hp j (by omega)
    rw [List.getElem_take]
    rwa [List.getD_eq_getElem?_getD, List.getElem?_eq_getElem (by omega)] at this
  have hlen : (s.take k).length = k := by rw [List.length_take]; omega
  have hval := val_take s k hk
  constructor
  · intro he
    have h1 := (canon_numR N).2.1
    obtain ⟨pre, b, hl, _, _, hz⟩ := (canon_numR N).1
    rw [he, hs] at hl
    have hbb := (List.append_inj' hl rfl).2
    have hpp := (List.append_inj' hl rfl).1
    simp only [List.cons.injEq, and_true] at hbb
    rintro (⟨h2, h3⟩ | ⟨h2, h3⟩)
    · refine hz (fun e => ?_) (by rw [← hbb]; exact h3)
      rw [← hpp] at e
      have := congrArg List.length e
      rw [hlen] at this; simp at this; omega
    · rw [he] at h1
      subst h2
      have e9 : (128 : Nat) ^ 9 = 9223372036854775808 := by decide
      rw [hval, e9] at h1
      have : (s.getD 9 0).toNat % 128 = (s.getD 9 0).toNat := Nat.mod_eq_of_lt hb
      rw [this] at h1
      omega
  · intro hn
    have hvl : valR (s.take (k + 1)) < 18446744073709551616 := by
      rw [hval]
      have h1 := val_lt (s.take k)
      rw [hlen] at h1
      have hm : (s.getD k 0).toNat % 128 = (s.getD k 0).toNat := Nat.mod_eq_of_lt hb
      rw [hm]
      have e9 : (128 : Nat) ^ 9 = 9223372036854775808 := by decide
      by_cases hk9 : k = 9
      · subst hk9
        have h2 : (s.getD 9 0).toNat ≤ 1 := by omega
        rw [e9] at h1 ⊢
        have : 9223372036854775808 * (s.getD 9 0).toNat ≤ 9223372036854775808 * 1 := Nat.mul_le_mul (Nat.le_refl _) h2
        omega
      · have h3 : (128 : Nat) ^ k ≤ 128 ^ 8 := Nat.pow_le_pow_right (by omega) (by omega)
        have e8 : (128 : Nat) ^ 8 = 72057594037927936 := by decide
        have : 128 ^ k * (s.getD k 0).toNat ≤ 128 ^ 8 * 127 := Nat.mul_le_mul h3 (by omega)
        omega
    rw [hv hvl, hs, numR_val _ _ hpre hb (fun hne => ?_)]
    intro h0
    refine hn (.inl ⟨?_, h0⟩)
    rcases Nat.eq_zero_or_pos k with rfl | h
    · simp at hne
    · exact h
set_option maxHeartbeats 4000000 in
set_option maxRecDepth 100000 in
theorem readNumber_93 (s : Bs) (w : World) (hs : s.length ≤ 100000000) : Calls Tryd.prog 93 #[S s] w (ReadPost (readNumR s) w) := by
  have HR := Lib.hid (readNum_eq s (s.take 10) rfl)
  go_enter Tryd.func93, Tryd.ntmps93
  go_wp2_with fail
  go_loopw [5, 6, 7] (fun v f i wr => ∃ (k : Nat) (n m : Nat), v = .int .u64 n ∧ f = .int .u64 m ∧ i = .int .i64 k ∧ k ≤ s.length ∧ k ≤ 10 ∧ Hid (k ≤ 9 → n = valR (s.take k) ∧ m = 128 ^ k) ∧ Hid (∀ j, j < k → 128 ≤ (s.getD j 0).toNat) ∧ wr = w) (fun _ _ i _ => 10 - (intOf i).toNat)
  case atStart => exact ⟨0, 0, 1, rfl, rfl, rfl, Nat.zero_le _, Nat.zero_le _, fun _ => ⟨by simp [valR], rfl⟩, fun j hj => by omega, rfl⟩
  case round =>
    obtain ⟨k, n, m, rfl, rfl, rfl, hk, hk10, HN, HP, rfl⟩ := hrel
    by_cases hgo : k < s.length ∧ k < 10
    · obtain ⟨hlt, h10⟩ := hgo
      obtain ⟨b, hb⟩ : ∃ b, b = s.getD k 0 := ⟨_, rfl⟩
      have hget : s[k] = b := by rw [hb, List.getD_eq_getElem?_getD, List.getElem?_eq_getElem hlt]; rfl
      have HBB := Lib.hid hb
      have hb2 : (b.toNat : Int) < 256 := u8_lt b
      obtain ⟨hn, hm⟩ := HN.out (by omega)
      have hvk := val_lt (s.take k)
      rw [List.length_take, Nat.min_eq_left hk, ← hn] at hvk
      obtain ⟨p, hp⟩ : ∃ p, p = b.toNat % 128 := ⟨_, rfl⟩
      have hp1 : (b.toNat : Int) % 128 = (p : Int) := by omega
      have hp2 : (b.toNat : Int).tmod 128 = (p : Int) := by rw [Int.tmod_eq_emod_of_nonneg (by omega)]; exact hp1
      have hp3 : IntKind.u8.wrap (p : Int) = p := IntWalk.u8_in _ (by omega)
      have hp4 : IntKind.u64.wrap (p : Int) = p := IntWalk.u64_in _ (by omega)
      obtain ⟨A, hA⟩ : ∃ A : Nat, IntKind.u64.wrap ((p : Int) * (m : Int)) = (A : Int) := ⟨(IntKind.u64.wrap ((p : Int) * (m : Int))).toNat, by have := IntKind.wrap_u64 ((p : Int) * (m : Int)); omega⟩
      obtain ⟨N, hN⟩ : ∃ N : Nat, IntKind.u64.wrap ((n : Int) + (A : Int)) = (N : Int) := ⟨(IntKind.u64.wrap ((n : Int) + (A : Int))).toNat, by have := IntKind.wrap_u64 ((n : Int) + (A : Int)); omega⟩
      obtain ⟨M, hM⟩ : ∃ M : Nat, IntKind.u64.wrap ((m : Int) * 128) = (M : Int) := ⟨(IntKind.u64.wrap ((m : Int) * 128)).toNat, by have := IntKind.wrap_u64 ((m : Int) * 128); omega⟩
      have hNlt : N < 18446744073709551616 := by have := IntKind.wrap_u64 ((n : Int) + (A : Int)); omega
      have hval := val_take s k hlt
      rw [← hb, ← hn, ← hp] at hval
      have HNV : Hid (valR (s.take (k + 1)) < 18446744073709551616 → N = valR (s.take (k + 1))) := by
        intro hv
        rw [hval, ← hm] at hv ⊢
        have h1 : (p : Int) * (m : Int) = ((m * p : Nat) : Int) := by rw [Nat.mul_comm]; simp
        rw [h1, IntWalk.u64_in _ (by omega)] at hA
        have hA2 : A = m * p := by omega
        rw [hA2, IntWalk.u64_in _ (by omega)] at hN
        omega
      have HMV : Hid (k + 1 ≤ 9 → valR (s.take (k + 1)) < 18446744073709551616 ∧ M = 128 ^ (k + 1)) := by
        intro h9
        have h1 := val_lt (s.take (k + 1))
        rw [List.length_take, Nat.min_eq_left (by omega)] at h1
        have h2 : (128 : Nat) ^ (k + 1) ≤ 128 ^ 9 := Nat.pow_le_pow_right (by omega) h9
        have e9 : (128 : Nat) ^ 9 = 9223372036854775808 := by decide
        refine ⟨by omega, ?_⟩
        have h3 : (128 : Nat) ^ (k + 1) = m * 128 := by rw [hm, Nat.pow_succ]
        rw [h3] at h2 ⊢
        rw [IntWalk.u64_in _ (by omega)] at hM
        omega
      clear hval hn hm hvk hp
      by_cases hbb : b.toNat < 128
      · have hnum := num_iff s k N hlt HP.out (by rw [← hb]; exact hbb) (by omega) hNlt HNV.out
        have HC : Hid (contR (s.take 10) = k) := by
          refine cont_lt (by rw [List.length_take]; omega) (fun j hj => ?_) ?_
          · have := HP.out j hj
            rwa [List.getD_eq_getElem?_getD, List.getElem?_take_of_lt (by omega), ← List.getD_eq_getElem?_getD]
          · rw [List.getD_eq_getElem?_getD, List.getElem?_take_of_lt (by omega), ← List.getD_eq_getElem?_getD, ← hb]; exact hbb
        have hr := HR.out
        have hgd : (s.take 10).getD k 0 = b := by rw [List.getD_eq_getElem?_getD, List.getElem?_take_of_lt (by omega), ← List.getD_eq_getElem?_getD, ← hb]
        have htt : (s.take 10).take (k + 1) = s.take (k + 1) := by rw [List.take_take, Nat.min_eq_left (by omega)]
        rw [HC.out, if_pos (by rw [List.length_take]; omega), hgd, htt] at hr
        rw [← hb] at hnum
        have HNUM := Lib.hid (number_51 N hNlt)
        obtain ⟨L, hL⟩ : ∃ L, L = numR N := ⟨_, rfl⟩
        rw [← hL] at HNUM hnum
        by_cases hok : (0 < k ∧ b.toNat = 0) ∨ (k = 9 ∧ 1 < b.toNat)
        · have hne : ¬ L = s.take (k + 1) := fun h => hnum.1 h hok
          rw [if_pos hok] at hr
          have HRX := Lib.hid hr
          have hneb : (L == s.take (k + 1)) = false := by simpa using hne
          clear hnum hL hr hgd htt hb hok hne
          go_wp2_with (go_at_call 51; ((with_reducible refine Calls.mono (HNUM.out _) ?_); rintro e w1 ⟨rfl, hb1⟩; have HB1 := Lib.hid hb1; clear hb1))
          go_ret3
          rw [HRX.out]
          exact ⟨rfl, HB1.out⟩
        · have hv := hnum.2 hok
          rw [if_neg hok, ← hv] at hr
          have hvn : valR L = N := by rw [hL]; exact (canon_numR N).2.1
          rw [hvn] at hr
          have HRX := Lib.hid hr
          have heqb : (L == s.take (k + 1)) = true := by simpa using hv
          clear hnum hL hr hgd htt hb hok hv hvn
          go_wp2_with (go_at_call 51; ((with_reducible refine Calls.mono (HNUM.out _) ?_); rintro e w1 ⟨rfl, hb1⟩; have HB1 := Lib.hid hb1; clear hb1))
          go_ret3
          rw [HRX.out]
          exact ⟨by simp, HB1.out⟩
      · have HPX : Hid (∀ j, j < k + 1 → 128 ≤ (s.getD j 0).toNat) := fun j hj => by
          by_cases hjk : j < k
          · exact HP.out j hjk
          · obtain rfl : j = k := by omega
            rw [← hb]; omega
        clear hb
        go_wp2_with fail
        go_roundw
        case rel => exact ⟨k + 1, N, M, rfl, rfl, by go_num, hlt, h10, fun h9 => ⟨HNV.out (HMV.out h9).1, (HMV.out h9).2⟩, HPX.out, trivial⟩
        case measure => simp [intOf]; omega
    · have hnc : ¬ contR (s.take 10) < (s.take 10).length := by
        refine cont_all (fun j hj => ?_)
        rw [List.length_take] at hj
        rw [List.getD_eq_getElem?_getD, List.getElem?_take_of_lt (by omega), ← List.getD_eq_getElem?_getD]
        exact HP.out j (by omega)
      have hr := HR.out
      rw [if_neg hnc] at hr
      by_cases hl10 : s.length < 10
      · rw [if_pos hl10] at hr
        have HRX := Lib.hid hr
        have hnk : ¬ k < s.length := by omega
        clear hr hnc
        go_wp2_with fail
        go_ret3
        rw [HRX.out]
        exact ⟨rfl, Below.refl _ _⟩
      · rw [if_neg hl10] at hr
        have HRX := Lib.hid hr
        clear hr hnc
        by_cases hks : k < s.length
        · have hk10' : ¬ k < 10 := by omega
          go_wp2_with fail
          go_ret3
          rw [HRX.out]
          exact ⟨rfl, Below.refl _ _⟩
        · go_wp2_with fail
          go_ret3
          rw [HRX.out]
          exact ⟨rfl, Below.refl _ _⟩
end Go.Proofs.YtgdkdihedgiegaaDoor
