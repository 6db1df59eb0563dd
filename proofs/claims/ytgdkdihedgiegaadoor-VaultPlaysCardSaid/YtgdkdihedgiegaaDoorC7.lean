/-
  The walk of copied: where the copy is.
-/
import Derived.Test.YtgdkdihedgiegaaDoorC6
namespace Go.Proofs.YtgdkdihedgiegaaDoor
open Go.RowKit

/-- The bytes from place i + 1 to 8, read from the end. -/
def upR (c : Bs) (i : Nat) : Nat := ptrR ((c.drop (i + 1)).take (8 - i))
theorem up_step (c : Bs) (i : Nat) (hi : i < 8) (hc : 9 ≤ c.length) : upR c i = (c.getD (i + 1) 0).toNat + 256 * upR c (i + 1) := by
  unfold upR
  have h1 : i + 1 < c.length := by omega
  rw [List.drop_eq_getElem_cons h1, show 8 - i = (8 - (i + 1)) + 1 from by omega, List.take_succ_cons, ptrR]
  congr 2
  simp [h1]
theorem up_eight (c : Bs) : upR c 8 = 0 := by simp [upR, ptrR]
theorem up_big (c : Bs) (hc : 9 ≤ c.length) : ∀ i, i ≤ 8 → upR c i * 256 ^ i ≤ upR c 0 := by
  intro i
  induction i with
  | zero => intro _; simp
  | succ i ih =>
    intro hi
    have h1 := ih (by omega)
    rw [up_step c i (by omega) hc, Nat.add_mul] at h1
    have : 256 * upR c (i + 1) * 256 ^ i = upR c (i + 1) * 256 ^ (i + 1) := by rw [Nat.pow_succ, Nat.mul_comm 256 (upR c (i + 1)), Nat.mul_assoc, Nat.mul_comm 256]
    omega
theorem up_zero (c : Bs) : upR c 0 = ptrR ((c.drop 1).take 8) := rfl
theorem or_byte (k b : Nat) (hk : k < 16777216) (hb : b < 256) : bits .or .i64 ((k : Int) * 256) (b : Int) = ((b + 256 * k : Nat) : Int) := by
  have hx : 256 * k ||| b < 2 ^ 33 := Nat.or_lt_two_pow (by omega) (by omega)
  have h1 : (BitVec.ofInt 64 ((256 * k : Nat) : Int)).toNat = 256 * k := by rw [BitVec.ofInt_natCast, BitVec.toNat_ofNat]; exact Nat.mod_eq_of_lt (by omega)
  have h2 : (BitVec.ofInt 64 (b : Int)).toNat = b := by rw [BitVec.ofInt_natCast, BitVec.toNat_ofNat]; exact Nat.mod_eq_of_lt (by omega)
  have h3 : 256 * k ||| b = b + 256 * k := by
    have := Nat.two_pow_add_eq_or_of_lt (i := 8) (b := b) hb k
    rw [show (256 : Nat) = 2 ^ 8 from rfl]; omega
  rw [show (k : Int) * 256 = ((256 * k : Nat) : Int) from by omega]
  show IntKind.i64.wrap ((BitVec.ofInt 64 ((256 * k : Nat) : Int) ||| BitVec.ofInt 64 (b : Int)).toNat : Int) = _
  rw [BitVec.toNat_or, h1, h2, h3]
  exact IntWalk.i64_in _ (by omega)
/-- The post of copied. -/
def CopyPost (o : Option Nat) (w : World) (e : Ending) (w' : World) : Prop :=
  (match o with
    | none => ∃ k : Int, e = .returned (.tuple #[.int .i64 k, .bool false])
    | some k => e = .returned (.tuple #[.int .i64 k, .bool true])) ∧ w' = w
set_option maxHeartbeats 4000000 in
set_option maxRecDepth 100000 in
theorem copied_35 (c : Bs) (w : World) (hc : c.length ≤ 16777216) : Calls Tryd.prog 35 #[S c] w (CopyPost (copiedR c) w) := by
  by_cases h9 : c.length < 9 ∨ c.getD 0 0 ≠ 1
  · have HE : Hid (copiedR c = none) := by show _ = _; unfold copiedR; rw [if_pos h9]
    rw [HE.out]
    by_cases hl : c.length < 9
    · clear h9
      go_enter Tryd.func35, Tryd.ntmps35
      go_wp2_with fail
      go_ret2
      exact ⟨⟨0, rfl⟩, rfl⟩
    · have hb : c.getD 0 0 ≠ 1 := by rcases h9 with h | h; exact absurd h hl; exact h
      have hb2 : (((c[0]'(by omega)).toNat : Int) != 1) = true := by
        simp
        intro h
        apply hb
        have : c.getD 0 0 = c[0]'(by omega) := by simp [show 0 < c.length from by omega]
        rw [this]
        exact u8_eq (by have : (1 : UInt8).toNat = 1 := rfl; omega)
      have hl9 : 9 ≤ c.length := by omega
      clear h9 hb
      go_enter Tryd.func35, Tryd.ntmps35
      go_wp2_with fail
      go_ret2
      exact ⟨⟨0, rfl⟩, rfl⟩
  · have hl9 : 9 ≤ c.length := by omega
    have hb : c.getD 0 0 = 1 := by
      apply Classical.byContradiction; intro h; exact h9 (.inr h)
    have hb2 : (((c[0]'(Nat.lt_of_lt_of_le (by decide) hl9)).toNat : Int) != 1) = false := by
      have : c.getD 0 0 = c[0]'(Nat.lt_of_lt_of_le (by decide) hl9) := by simp [show 0 < c.length from by omega]
      rw [this] at hb
      rw [hb]
      rfl
    have HE : Hid (copiedR c = if upR c 0 % 64 = 0 ∧ 128 ≤ upR c 0 ∧ upR c 0 < c.length then some (upR c 0) else none) := by show _ = _; unfold copiedR; rw [if_neg h9]; rfl
    have HU := Lib.hid (up_big c hl9)
    clear h9 hb
    have hd9 : decide ((c.length : Int) < 9) = false := by simp; omega
    go_enter Tryd.func35, Tryd.ntmps35
    go_wp2_with fail
    clear hb2
    generalize (c[0]'(Nat.lt_of_lt_of_le (by decide) hl9)).toNat = b0
    go_loop [4, 5] (fun x y => ∃ i k : Nat, x = .int .i64 k ∧ y = .int .i64 i ∧ i ≤ 8 ∧ Hid (k = upR c i) ∧ Hid (k < 4294967296)) (fun _ y => (intOf y).toNat)
    case atStart => exact ⟨8, 0, rfl, rfl, by omega, (by show _ = _; rw [up_eight]), (by show _ < _; omega)⟩
    case round =>
      obtain ⟨i, k, rfl, rfl, hi, HK, hk⟩ := hrel
      by_cases h0 : 0 < i
      · by_cases hbig : 16777216 ≤ k
        · have hn : ¬ (upR c 0 % 64 = 0 ∧ 128 ≤ upR c 0 ∧ upR c 0 < c.length) := by
            intro h
            have h1 := HU.out i hi
            rw [← HK.out] at h1
            have h2 : 1 ≤ 256 ^ i := Nat.one_le_pow _ _ (by omega)
            have h3 : k * 1 ≤ k * 256 ^ i := Nat.mul_le_mul_left _ h2
            omega
          have hh := HE.out
          rw [if_neg hn] at hh
          have HX := Lib.hid hh
          have hdb : decide ((16777216 : Int) ≤ (k : Int)) = true := by simp; omega
          clear hn hh hbig
          go_wp2_with fail
          go_ret2
          rw [HX.out]
          exact ⟨⟨0, rfl⟩, rfl⟩
        · obtain ⟨j, rfl⟩ : ∃ j, i = j + 1 := ⟨i - 1, by omega⟩
          obtain ⟨b, hbb⟩ : ∃ b : Nat, b = (c.getD (j + 1) 0).toNat := ⟨_, rfl⟩
          have hst := up_step c j (by omega) hl9
          rw [← hbb, ← HK.out] at hst
          have hb256 : b < 256 := by rw [hbb]; exact UInt8.toNat_lt _
          have hib : j + 1 < c.length := by omega
          have hcb : ((c[j + 1]'hib).toNat : Int) = b := by rw [hbb]; simp [hib]
          have e1 := or_byte k b (by omega) hb256
          obtain ⟨m, hm⟩ : ∃ m : Nat, m = b + 256 * k := ⟨_, rfl⟩
          rw [← hm] at e1 hst
          have HST := Lib.hid hst
          have hmb : Hid (m < 4294967296) := by show _ < _; omega
          have hdb : decide ((16777216 : Int) ≤ (k : Int)) = false := by simp; omega
          have hkb : k < 16777216 := by omega
          clear hbb hst hm hbig
          go_wp2_with fail
          go_round
          case rel => exact ⟨j, m, rfl, rfl, by omega, HST.out.symm, hmb⟩
          case measure => simp [intOf]
      · obtain rfl : i = 0 := by omega
        have hh := HE.out
        rw [← HK.out] at hh
        by_cases hcond : k % 64 = 0 ∧ 128 ≤ k ∧ k < c.length
        · rw [if_pos hcond] at hh
          have HX := Lib.hid hh
          obtain ⟨d1, d2, d3⟩ := hcond
          have e1 : (k : Int).tmod 64 = 0 := by rw [Int.tmod_eq_emod_of_nonneg (by omega)]; omega
          have e2 : (k : Int) % 64 = 0 := by omega
          have e3 : decide ((128 : Int) ≤ (k : Int)) = true := by simp; omega
          clear hh
          go_wp2_with fail
          go_ret2
          rw [HX.out]
          exact ⟨rfl, rfl⟩
        · rw [if_neg hcond] at hh
          have HX := Lib.hid hh
          have HCO := Lib.hid hcond
          clear hh hcond
          go_wp2_with fail
          all_goals
            go_ret2
            rw [HX.out]
            first
              | exact ⟨⟨k, rfl⟩, rfl⟩
              | (have hkl : decide (k < c.length) = false := by
                   have := HCO.out
                   simp only [decide_eq_false_iff_not]
                   intro h
                   exact this ⟨by omega, by omega, h⟩
                 refine ⟨⟨k, ?_⟩, rfl⟩
                 show Ending.returned (.tuple #[.int .i64 k, .bool (decide (k < c.length))]) = _
                 rw [hkl])
end Go.Proofs.YtgdkdihedgiegaaDoor
