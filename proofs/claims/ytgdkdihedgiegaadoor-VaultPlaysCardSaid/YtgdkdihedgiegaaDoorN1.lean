/-
  Numbers as bytes, plain: writing and reading one; reading what was written; what is read is what would be written.
-/
import Derived.Test.YtgdkdihedgiegaaDoorA1
namespace Go.Proofs.YtgdkdihedgiegaaDoor

/-- The bytes of a number. -/
def numR (n : Nat) : Bs := if n < 128 then [UInt8.ofNat n] else UInt8.ofNat (n % 128 + 128) :: numR (n / 128)
termination_by n
decreasing_by omega
/-- The number that bytes stand for. -/
def valR : Bs → Nat
  | [] => 0
  | b :: t => b.toNat % 128 + 128 * valR t
/-- How many bytes have a byte of the number behind them. -/
def contR : Bs → Nat
  | [] => 0
  | b :: t => if b.toNat < 128 then 0 else contR t + 1
/-- The number at the beginning of bytes: the number, its size, the error. -/
def readNumR (s : Bs) : Nat × Nat × Int :=
  let t := s.take 10
  let i := contR t
  if i < t.length then (if (0 < i ∧ (t.getD i 0).toNat = 0) ∨ (i = 9 ∧ 1 < (t.getD i 0).toNat) then (0, 0, 11) else (valR (t.take (i + 1)), i + 1, 0))
  else if s.length < 10 then (0, 0, 10) else (0, 0, 11)

theorem numR_small {n : Nat} (h : n < 128) : numR n = [UInt8.ofNat n] := by rw [numR, if_pos h]
theorem numR_big {n : Nat} (h : ¬ n < 128) : numR n = UInt8.ofNat (n % 128 + 128) :: numR (n / 128) := by rw [numR, if_neg h]
theorem ofNat_toNat {n : Nat} (h : n < 256) : (UInt8.ofNat n).toNat = n := by rw [UInt8.toNat_ofNat']; omega
theorem u8_eq {a b : UInt8} (h : a.toNat = b.toNat) : a = b := by
  have := congrArg UInt8.ofNat h
  simpa [UInt8.ofNat_toNat] using this

/-- Bytes that are a number's: all but the last one have one behind them; the last one is not 0, but alone. -/
structure Canon (l : Bs) : Prop where
  shape : ∃ pre b, l = pre ++ [b] ∧ (∀ x ∈ pre, 128 ≤ x.toNat) ∧ b.toNat < 128 ∧ (pre ≠ [] → b.toNat ≠ 0)
theorem Canon.one {b : UInt8} (h : b.toNat < 128) : Canon [b] := ⟨⟨[], b, rfl, by simp, h, by simp⟩⟩
theorem numR_pos (n : Nat) : numR n ≠ [] := by
  by_cases h : n < 128
  · rw [numR_small h]; simp
  · rw [numR_big h]; simp
theorem canon_numR (n : Nat) : Canon (numR n) ∧ valR (numR n) = n ∧ (0 < n → ∃ pre b, numR n = pre ++ [b] ∧ b.toNat ≠ 0) := by
  induction n using Nat.strongRecOn with
  | ind n ih =>
    by_cases h : n < 128
    · rw [numR_small h]
      have hb : (UInt8.ofNat n).toNat = n := ofNat_toNat (by omega)
      exact ⟨.one (by omega), by simp only [valR, hb]; omega, fun h0 => ⟨[], _, rfl, by omega⟩⟩
    · rw [numR_big h]
      obtain ⟨⟨pre, b, hl, hp, hb, hz⟩, hv, hn⟩ := ih (n / 128) (by omega)
      have hc : (UInt8.ofNat (n % 128 + 128)).toNat = n % 128 + 128 := ofNat_toNat (by omega)
      obtain ⟨pre2, b2, hl2, hb2⟩ := hn (by omega)
      have hbb : b.toNat ≠ 0 := by
        have := hl.symm.trans hl2
        have := (List.append_inj' this rfl).2
        simp at this
        rw [this]; exact hb2
      refine ⟨⟨_ :: pre, b, by rw [hl]; rfl, ?_, hb, fun _ => hbb⟩, by simp only [valR, hc, hv]; omega, fun _ => ⟨_ :: pre, b, by rw [hl]; rfl, hbb⟩⟩
      intro x hx
      rcases List.mem_cons.1 hx with rfl | hx
      · omega
      · exact hp x hx
theorem val_pos : ∀ (pre : Bs) (b : UInt8), b.toNat < 128 → b.toNat ≠ 0 → 0 < valR (pre ++ [b])
  | [], b, h, h0 => by simp only [List.nil_append, valR]; omega
  | c :: pre, b, h, h0 => by have := val_pos pre b h h0; simp only [List.cons_append, valR]; omega
/-- What is read is what would be written. -/
theorem numR_val : ∀ (pre : Bs) (b : UInt8), (∀ x ∈ pre, 128 ≤ x.toNat) → b.toNat < 128 → (pre ≠ [] → b.toNat ≠ 0) → numR (valR (pre ++ [b])) = pre ++ [b]
  | [], b, _, h, _ => by
    simp only [List.nil_append, valR]
    rw [numR_small (by omega), Nat.mul_zero, Nat.add_zero, Nat.mod_eq_of_lt h, UInt8.ofNat_toNat]
  | c :: pre, b, hp, h, hz => by
    have h0 := val_pos pre b h (hz (by simp))
    have hc := hp c (by simp)
    have hc2 := c.toNat_lt
    simp only [List.cons_append, valR]
    rw [numR_big (by omega)]
    have e1 : (c.toNat % 128 + 128 * valR (pre ++ [b])) / 128 = valR (pre ++ [b]) := by omega
    have e2 : (c.toNat % 128 + 128 * valR (pre ++ [b])) % 128 + 128 = c.toNat := by omega
    rw [e1, e2, UInt8.ofNat_toNat, numR_val pre b (fun x hx => hp x (by simp [hx])) h (fun _ => hz (by simp))]
theorem contR_le (l : Bs) : contR l ≤ l.length := by
  induction l with
  | nil => simp [contR]
  | cons b l ih => simp only [contR]; split <;> simp <;> omega
theorem contR_app (pre : Bs) (b : UInt8) (z : Bs) (hp : ∀ x ∈ pre, 128 ≤ x.toNat) (hb : b.toNat < 128) : contR (pre ++ b :: z) = pre.length := by
  induction pre with
  | nil => simp [contR, hb]
  | cons c pre ih =>
    have := hp c (by simp)
    simp only [List.cons_append, contR, List.length_cons]
    rw [if_neg (by omega), ih (fun x hx => hp x (by simp [hx]))]
theorem contR_split (l : Bs) (h : contR l < l.length) : ∃ pre b z, l = pre ++ b :: z ∧ pre.length = contR l ∧ (∀ x ∈ pre, 128 ≤ x.toNat) ∧ b.toNat < 128 := by
  induction l with
  | nil => simp at h
  | cons c l ih =>
    by_cases hc : c.toNat < 128
    · exact ⟨[], c, l, rfl, by simp [contR, hc], by simp, hc⟩
    · simp only [contR, if_neg hc, List.length_cons] at h ⊢
      obtain ⟨pre, b, z, h1, h2, h3, h4⟩ := ih (by omega)
      refine ⟨c :: pre, b, z, by rw [h1]; rfl, by simp [h2], ?_, h4⟩
      intro x hx
      rcases List.mem_cons.1 hx with rfl | hx
      · omega
      · exact h3 x hx
theorem val_lt (l : Bs) : valR l < 128 ^ l.length := by
  induction l with
  | nil => simp [valR]
  | cons b l ih => simp only [valR, List.length_cons, Nat.pow_succ]; omega
theorem numR_len_le (n : Nat) : ∀ k, n < 128 ^ (k + 1) → (numR n).length ≤ k + 1 := by
  induction n using Nat.strongRecOn with
  | ind n ih =>
    intro k hk
    by_cases h : n < 128
    · rw [numR_small h]; simp
    · rw [numR_big h]
      cases k with
      | zero => simp at hk; omega
      | succ k =>
        have := ih (n / 128) (by omega) k (by rw [Nat.pow_succ] at hk; omega)
        simp; omega
theorem numR_len_pos (n : Nat) : 1 ≤ (numR n).length := by have := numR_pos n; cases h : numR n with | nil => exact absurd h this | cons => simp
/-- Reading what was written. -/
theorem read_num (n : Nat) (z : Bs) (h : n < 128 ^ 9) : readNumR (numR n ++ z) = (n, (numR n).length, 0) := by
  obtain ⟨⟨pre, b, hl, hp, hb, hz⟩, hv, _⟩ := canon_numR n
  have hlen := numR_len_le n 8 h
  have hll : (numR n).length = pre.length + 1 := by rw [hl]; simp
  have ht : (numR n ++ z).take 10 = pre ++ b :: (z.take (10 - (pre.length + 1))) := by
    rw [List.take_append, hll, List.take_of_length_le (by omega), hl]; simp
  unfold readNumR
  rw [ht]
  simp only [contR_app _ _ _ hp hb, List.length_append, List.length_cons]
  rw [if_pos (by omega)]
  have hg : (pre ++ b :: z.take (10 - (pre.length + 1))).getD pre.length 0 = b := by simp
  rw [hg, if_neg (by
    intro hh
    rcases hh with hh | hh
    · exact hz (by intro e; rw [e] at hh; simp at hh) hh.2
    · omega)]
  have htk : (pre ++ b :: z.take (10 - (pre.length + 1))).take (pre.length + 1) = pre ++ [b] := by
    rw [show pre ++ b :: z.take (10 - (pre.length + 1)) = (pre ++ [b]) ++ z.take (10 - (pre.length + 1)) from by simp, List.take_left' (by simp)]
  rw [htk, ← hl, hv, hll]
theorem read_form (s : Bs) (n k : Nat) (h : readNumR s = (n, k, 0)) : ∃ z, s = numR n ++ z ∧ k = (numR n).length ∧ n < 2 ^ 64 ∧ k ≤ 10 := by
  unfold readNumR at h
  by_cases hc : contR (s.take 10) < (s.take 10).length
  · simp only [if_pos hc] at h
    obtain ⟨pre, b, z, h1, h2, h3, h4⟩ := contR_split _ hc
    rw [← h2, h1] at h
    have hg : (pre ++ b :: z).getD pre.length 0 = b := by simp
    have htk : (pre ++ b :: z).take (pre.length + 1) = pre ++ [b] := by
      rw [show pre ++ b :: z = (pre ++ [b]) ++ z from by simp, List.take_left' (by simp)]
    rw [hg, htk] at h
    by_cases hbad : (0 < pre.length ∧ b.toNat = 0) ∨ (pre.length = 9 ∧ 1 < b.toNat)
    · rw [if_pos hbad] at h
      have := congrArg (fun p : Nat × Nat × Int => p.2.2) h
      simp at this
    · rw [if_neg hbad] at h
      have hn := congrArg (fun p : Nat × Nat × Int => p.1) h
      have hk := congrArg (fun p : Nat × Nat × Int => p.2.1) h
      simp only at hn hk
      have hnum : numR n = pre ++ [b] := by
        rw [← hn]
        exact numR_val pre b h3 h4 (fun hne h0 => hbad (.inl ⟨List.length_pos_iff.2 hne, h0⟩))
      have hlen : (s.take 10).length ≤ 10 := by simp; omega
      rw [h1] at hlen
      simp at hlen
      refine ⟨z ++ s.drop 10, ?_, by rw [hnum]; simp; omega, ?_, by omega⟩
      · rw [hnum]
        have := List.take_append_drop 10 s
        rw [h1] at this
        exact this.symm.trans (by simp)
      · have hv := val_lt (pre ++ [b])
        rw [hn] at hv
        simp only [List.length_append, List.length_cons, List.length_nil, Nat.zero_add] at hv
        by_cases h9 : pre.length = 9
        · have hb1 : b.toNat ≤ 1 := by
            apply Classical.byContradiction; intro hb2; exact hbad (.inr ⟨h9, by omega⟩)
          have hva : ∀ (p : Bs) (b : UInt8), valR (p ++ [b]) = valR p + 128 ^ p.length * (b.toNat % 128) := by
            intro p b
            induction p with
            | nil => simp [valR]
            | cons c p ih => simp only [List.cons_append, valR, ih, List.length_cons, Nat.pow_succ, Nat.mul_add, ← Nat.mul_assoc]; rw [Nat.mul_comm 128 (128 ^ p.length)]; omega
          have hp := val_lt pre
          rw [hva, h9] at hn
          rw [h9] at hp
          show n < 18446744073709551616
          have hb3 : b.toNat % 128 ≤ 1 := by omega
          have : (128 : Nat) ^ 9 * (b.toNat % 128) ≤ 128 ^ 9 * 1 := Nat.mul_le_mul_left _ hb3
          have e9 : (128 : Nat) ^ 9 = 9223372036854775808 := by decide
          rw [e9] at hn hp this
          omega
        · have h10 : pre.length + 1 ≤ 9 := by omega
          have := Nat.pow_le_pow_right (n := 128) (by omega) h10
          have e9 : (128 : Nat) ^ 9 = 9223372036854775808 := by decide
          rw [e9] at this
          show n < 18446744073709551616
          omega
  · simp only [if_neg hc] at h
    by_cases hs : s.length < 10
    · rw [if_pos hs] at h
      have := congrArg (fun p : Nat × Nat × Int => p.2.2) h
      simp at this
    · rw [if_neg hs] at h
      have := congrArg (fun p : Nat × Nat × Int => p.2.2) h
      simp at this
end Go.Proofs.YtgdkdihedgiegaaDoor
