/-
  The walk of the reference's Pointer.
-/
import Derived.Test.YtgdkdihedgiegaaDoorO3
namespace Go.Proofs.YtgdkdihedgiegaaDoor
open Go.RowKit

theorem ptr_take (l : Bs) : ∀ n, n < l.length → ptrR (l.take (n + 1)) = ptrR (l.take n) + 256 ^ n * (l.getD n 0).toNat := by
  induction l with
  | nil => intro n h; simp at h
  | cons b l ih =>
    intro n h
    cases n with
    | zero => simp [ptrR]
    | succ n =>
      have := ih n (by simpa using h)
      simp only [List.take_succ_cons, ptrR, this, Nat.pow_succ, Nat.mul_add]
      rw [Nat.mul_comm (256 ^ n) 256, Nat.mul_assoc]
      simp
      omega
theorem ptr_ge (l : Bs) : ∀ n, n < l.length → 256 ^ n * (l.getD n 0).toNat ≤ ptrR l := by
  induction l with
  | nil => intro n h; simp at h
  | cons b l ih =>
    intro n h
    cases n with
    | zero => simp [ptrR]
    | succ n =>
      have := ih n (by simpa using h)
      simp only [ptrR, Nat.pow_succ, List.getD_cons_succ]
      have h2 : 256 ^ n * 256 * (l.getD n 0).toNat = 256 * (256 ^ n * (l.getD n 0).toNat) := by rw [Nat.mul_comm (256 ^ n) 256, Nat.mul_assoc]
      omega
theorem ptr_lt (l : Bs) : ptrR l < 256 ^ l.length := by
  induction l with
  | nil => simp [ptrR]
  | cons b l ih => simp only [ptrR, List.length_cons, Nat.pow_succ]; have := b.toNat_lt; omega
/-- The post of Pointer. -/
def PtPost (l : Bs) (w : World) (e : Ending) (w' : World) : Prop := ∃ K : Int, e = .returned (.int .i64 K) ∧ w' = w ∧ ((K = -1 ∧ 16777216 ≤ ptrR l) ∨ (K = (ptrR l : Int) ∧ ptrR l < 16777216))
theorem unit_eq (n : Nat) (h : n ≤ 8) : 256 ^ (min n 3) = if n = 0 then 1 else if n = 1 then 256 else if n = 2 then 65536 else 16777216 := by
  have : n = 0 ∨ n = 1 ∨ n = 2 ∨ 3 ≤ n := by omega
  rcases this with rfl | rfl | rfl | h3
  · decide
  · decide
  · decide
  · rw [Nat.min_eq_right h3, if_neg (by omega), if_neg (by omega), if_neg (by omega)]
set_option maxHeartbeats 4000000 in
set_option maxRecDepth 100000 in
theorem pointer_67 (c : Bs) (hc : 9 ≤ c.length) (w : World) : Calls Tryd.prog 67 #[S c] w (PtPost ((c.drop 1).take 8) w) := by
  obtain ⟨l, hl⟩ : ∃ l, l = (c.drop 1).take 8 := ⟨_, rfl⟩
  have hl8 : l.length = 8 := by rw [hl, List.length_take, List.length_drop]; omega
  have hget : ∀ n, n < 8 → l.getD n 0 = c.getD (n + 1) 0 := fun n hn => by
    rw [hl, List.getD_eq_getElem?_getD, List.getElem?_take_of_lt hn, List.getElem?_drop, ← List.getD_eq_getElem?_getD, Nat.add_comm]
  have HG := Lib.hid hget
  have HL8 := Lib.hid hl8
  rw [← hl]
  clear hl hget hl8
  go_enter Tryd.func67, Tryd.ntmps67
  go_wp2_with fail
  go_loopw [3, 4, 5] (fun k u i wr => ∃ n : Nat, n ≤ 8 ∧ i = .int .i64 ((n + 1 : Nat) : Int) ∧ k = .int .i64 (ptrR (l.take n) : Int) ∧ u = .int .i64 ((256 ^ (min n 3) : Nat) : Int) ∧ Hid (ptrR (l.take n) < 256 ^ (min n 3)) ∧ wr = w) (fun _ _ i _ => 10 - (intOf i).toNat)
  case atStart => exact ⟨0, by omega, rfl, rfl, rfl, (by show _ < _; simp [ptrR]), rfl⟩
  case round =>
    obtain ⟨n, hn, rfl, rfl, rfl, HK, rfl⟩ := hrel
    by_cases h8 : n = 8
    · subst h8
      have ht : l.take 8 = l := List.take_of_length_le (by rw [HL8.out]; exact Nat.le_refl _)
      have hlt : ptrR l < 16777216 := by have := HK.out; rw [ht] at this; simpa using this
      rw [ht]
      have HLT := Lib.hid hlt
      clear hlt ht
      go_wp2_with fail
      go_ret
      exact ⟨_, rfl, rfl, .inr ⟨rfl, HLT.out⟩⟩
    · have hn8 : n < 8 := by omega
      obtain ⟨b, hb⟩ : ∃ b, b = l.getD n 0 := ⟨_, rfl⟩
      have hb2 := u8_lt b
      have hcb : ∀ h : n + 1 < c.length, c[n + 1] = b := fun h => by
        rw [hb, HG.out n hn8, List.getD_eq_getElem?_getD, List.getElem?_eq_getElem h]; rfl
      have hi : n + 1 < c.length := by omega
      have hg := hcb hi
      have hpt := ptr_take l n (by rw [HL8.out]; exact hn8)
      rw [← hb] at hpt
      have hu := unit_eq n hn
      have hge := ptr_ge l n (by rw [HL8.out]; exact hn8)
      rw [← hb] at hge
      have HPT := Lib.hid hpt
      have hk := HK.out
      obtain ⟨P, hP⟩ : ∃ P, P = ptrR (l.take n) := ⟨_, rfl⟩
      rw [← hP] at hk ⊢
      have hcast : ((n + 1 : Nat) : Int) = (n : Int) + 1 := by omega
      rw [hcast]
      clear hcb hpt
      by_cases hn3 : 3 ≤ n
      · rw [Nat.min_eq_right hn3] at hk hu ⊢
        have hbig : (256 : Nat) ^ 3 ≤ 256 ^ n := Nat.pow_le_pow_right (by omega) hn3
        by_cases hb0 : b = 0
        · subst hb0
          have hv : ptrR (l.take (n + 1)) = P := by rw [HPT.out, ← hP]; simp
          have HV := Lib.hid hv
          clear hv hge hbig hb hP hu
          go_wp2_with fail
          go_roundw
          case rel =>
            refine ⟨n + 1, by omega, by go_num, by rw [HV.out], by rw [Nat.min_eq_right (by omega)]; rfl, ?_, trivial⟩
            rw [HV.out, Nat.min_eq_right (by omega)]
            exact hk
          case measure => simp [intOf]; omega
        · have hbn : (b.toNat : Int) ≠ 0 := fun h => hb0 (u8_eq (by simpa using h))
          have hbb : ((b.toNat : Int) == 0) = false := by simpa using hbn
          have hbig2 : 16777216 ≤ ptrR l := by
            have h1 : (256 : Nat) ^ 3 * 1 ≤ 256 ^ n * b.toNat := Nat.mul_le_mul hbig (by omega)
            omega
          have HBIG := Lib.hid hbig2
          clear hge hbig hb hP hu hbig2 hbn
          go_wp2_with fail
          go_ret
          exact ⟨-1, rfl, rfl, .inl ⟨rfl, HBIG.out⟩⟩
      · have hn2 : n = 0 ∨ n = 1 ∨ n = 2 := by omega
        have hm : min n 3 = n := by omega
        rw [hm] at hk hu ⊢
        obtain ⟨U, hU⟩ : ∃ U, U = 256 ^ n := ⟨_, rfl⟩
        have hUb : U ≤ 65536 := by rw [hU]; rcases hn2 with rfl | rfl | rfl <;> decide
        rw [← hU] at hk ⊢
        have hv : ptrR (l.take (n + 1)) = P + U * b.toNat := by rw [HPT.out, ← hP, hU]
        have hub : U * b.toNat ≤ 65536 * 255 := Nat.mul_le_mul hUb (by omega)
        have hm1 : (b.toNat : Int) * (U : Int) = ((U * b.toNat : Nat) : Int) := by rw [Nat.mul_comm]; simp
        obtain ⟨Q, hQ⟩ : ∃ Q, Q = U * b.toNat := ⟨_, rfl⟩
        rw [← hQ] at hv hub hm1
        have hlt2 : P + Q < U * 256 := by
          have : U * b.toNat ≤ U * 255 := Nat.mul_le_mul (Nat.le_refl _) (by omega)
          omega
        have hn4 : n + 1 < 4 := by omega
        have hpw : 256 ^ (n + 1) = U * 256 := by rw [hU, Nat.pow_succ]
        have HV := Lib.hid hv
        have HLT := Lib.hid hlt2
        have HPW := Lib.hid hpw
        clear hv hlt2 hpw hge hb hP hu hU hQ hm hn2
        go_wp2_with fail
        go_roundw
        case rel =>
          refine ⟨n + 1, by omega, by go_num, by rw [HV.out]; go_num, by rw [Nat.min_eq_left (by omega), HPW.out]; go_num, ?_, trivial⟩
          rw [HV.out, Nat.min_eq_left (by omega), HPW.out]
          exact HLT.out
        case measure => simp [intOf]; omega
end Go.Proofs.YtgdkdihedgiegaaDoor
