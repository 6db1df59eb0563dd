/-
  The walks of strings.Trim at zeros.
-/
import Derived.Test.YtgdkdihedgiegaaDoorV4
namespace Go.Proofs.YtgdkdihedgiegaaDoor
open Go.RowKit

theorem trim_last (z : Bs) (h : z.length - 1 < z.length) : ((z[z.length - 1]'h) = 0 → trimR z = trimR (z.take (z.length - 1))) ∧ ((z[z.length - 1]'h) ≠ 0 → trimR z = z) := by
  have hz : z = z.take (z.length - 1) ++ [z[z.length - 1]'h] := by
    have h1 := List.take_succ_eq_append_getElem h
    rw [show z.length - 1 + 1 = z.length from by omega, List.take_length] at h1
    exact h1
  constructor
  · intro hb
    rw [hb] at hz
    have := trim_zeros (z.take (z.length - 1)) 1
    rw [show zerosR 1 = [0] from rfl] at this
    rw [← this, ← hz]
  · intro hb
    have h2 : trimR z = trimR (z.take (z.length - 1) ++ [z[z.length - 1]'h]) := by rw [← hz]
    rw [h2]
    unfold trimR
    rw [List.reverse_append, List.reverse_singleton, List.singleton_append, List.dropWhile_cons_of_neg (by simpa using hb)]
    rw [← List.singleton_append, ← List.reverse_singleton, ← List.reverse_append, List.reverse_reverse]
    exact hz.symm
theorem drop_first (z : Bs) (h : 0 < z.length) : ((z[0]'h) = 0 → z.dropWhile (· == 0) = (z.drop 1).dropWhile (· == 0)) ∧ ((z[0]'h) ≠ 0 → z.dropWhile (· == 0) = z) := by
  cases z with
  | nil => simp at h
  | cons b z =>
    constructor
    · intro hb; simp at hb; subst hb; simp
    · intro hb; simp at hb; simp [hb]
theorem u8_zero {b : UInt8} : ((b.toNat : Int) == 0) = true ↔ b = 0 := by
  simp
  constructor
  · intro h; exact u8_eq (by simpa using h)
  · rintro rfl; rfl
set_option maxHeartbeats 1000000 in
set_option maxRecDepth 100000 in
theorem trimRight_74 (s : Bs) (w : World) (hs : s.length ≤ 100000000) : Calls Tryd.prog 74 #[S s, .int .u8 0] w fun e w' => e = .returned (S (trimR s)) ∧ w' = w := by
  go_enter Tryd.func74, Tryd.ntmps74
  go_wp2_with fail
  go_loop [0] (fun x => ∃ z : Bs, x = S z ∧ z.length ≤ 100000000 ∧ Hid (trimR s = trimR z)) (fun x => strOf x)
  case atStart => exact ⟨s, rfl, hs, rfl⟩
  case round =>
    obtain ⟨z, rfl, hz, HZ⟩ := hrel
    by_cases h0 : z = []
    · subst h0
      have HX : Hid (trimR s = []) := HZ.out
      go_wp2_with fail
      go_ret
      rw [HX.out]
      exact ⟨rfl, rfl⟩
    · have hl : 0 < z.length := List.length_pos_iff.2 h0
      have hl1 : z.length - 1 < z.length := by omega
      have HT := Lib.hid (trim_last z hl1)
      go_wp2_with fail
      · have hb : (((z[z.length - 1]'hl1).toNat : Int) == 0) = true := by assumption
        have HX := Lib.hid (HZ.out.trans (HT.out.1 (u8_zero.1 hb)))
        go_round
        case rel => exact ⟨z.take (z.length - 1), rfl, by simp; omega, HX.out⟩
        case measure => show (z.take (z.length - 1)).length < z.length; simp; omega
      · have hb : (((z[z.length - 1]'hl1).toNat : Int) == 0) = false := by assumption
        have HX := HZ.out.trans (HT.out.2 (fun e => by rw [u8_zero.2 e] at hb; cases hb))
        go_ret
        rw [HX]
        exact ⟨rfl, rfl⟩
set_option maxHeartbeats 1000000 in
set_option maxRecDepth 100000 in
theorem trimLeft_73 (s : Bs) (w : World) (hs : s.length ≤ 100000000) : Calls Tryd.prog 73 #[S s, .int .u8 0] w fun e w' => e = .returned (S (s.dropWhile (· == 0))) ∧ w' = w := by
  go_enter Tryd.func73, Tryd.ntmps73
  go_wp2_with fail
  go_loop [0] (fun x => ∃ z : Bs, x = S z ∧ z.length ≤ 100000000 ∧ Hid (s.dropWhile (· == 0) = z.dropWhile (· == 0))) (fun x => strOf x)
  case atStart => exact ⟨s, rfl, hs, rfl⟩
  case round =>
    obtain ⟨z, rfl, hz, HZ⟩ := hrel
    by_cases h0 : z = []
    · subst h0
      have HX : Hid (s.dropWhile (· == 0) = []) := HZ.out
      go_wp2_with fail
      go_ret
      rw [HX.out]
      exact ⟨rfl, rfl⟩
    · have hl : 0 < z.length := List.length_pos_iff.2 h0
      have HT := Lib.hid (drop_first z hl)
      go_wp2_with fail
      · have hb : (((z[0]'hl).toNat : Int) == 0) = true := by assumption
        have HX := Lib.hid (HZ.out.trans (HT.out.1 (u8_zero.1 hb)))
        go_round
        case rel => exact ⟨z.drop 1, by simp, by simp; omega, HX.out⟩
        case measure => show (z.tail).length < z.length; simp; omega
      · have hb : (((z[0]'hl).toNat : Int) == 0) = false := by assumption
        have HX := HZ.out.trans (HT.out.2 (fun e => by rw [u8_zero.2 e] at hb; cases hb))
        go_ret
        rw [HX]
        exact ⟨rfl, rfl⟩
theorem drop_all (z : Bs) : z.dropWhile (· == 0) = [] ↔ z = zerosR z.length := by
  induction z with
  | nil => simp [zerosR]
  | cons b z ih =>
    by_cases hb : b = 0
    · subst hb
      rw [List.dropWhile_cons_of_pos (by decide), ih]
      simp [zerosR, List.replicate_succ]
    · rw [List.dropWhile_cons_of_neg (by simpa using hb)]
      simp [zerosR, List.replicate_succ, hb]
theorem take_zero (l : Bs) : l.takeWhile (· == 0) = zerosR (l.takeWhile (· == 0)).length := by
  induction l with
  | nil => rfl
  | cons b l ih =>
    by_cases hb : b = 0
    · subst hb
      rw [List.takeWhile_cons_of_pos (by decide)]
      simp only [List.length_cons, zerosR, List.replicate_succ]
      congr 1
    · rw [List.takeWhile_cons_of_neg (by simpa using hb)]; rfl
theorem trim_split (s : Bs) : ∃ k, s = trimR s ++ zerosR k := by
  refine ⟨(s.reverse.takeWhile (· == 0)).length, ?_⟩
  have h1 := List.takeWhile_append_dropWhile (p := (· == 0)) (l := s.reverse)
  have h2 := congrArg List.reverse h1
  rw [List.reverse_append, List.reverse_reverse, take_zero] at h2
  unfold trimR
  rw [show (zerosR (s.reverse.takeWhile (· == 0)).length).reverse = zerosR (s.reverse.takeWhile (· == 0)).length from by simp [zerosR]] at h2
  exact h2.symm
theorem trim_all (s : Bs) : (trimR s).dropWhile (· == 0) = [] ↔ s = zerosR s.length := by
  constructor
  · intro h
    rw [drop_all] at h
    obtain ⟨k, hk⟩ := trim_split s
    rw [h] at hk
    rw [hk]
    simp [zerosR]
  · intro h
    have h0 : trimR s = [] := by
      rw [h]
      have := trim_zeros [] s.length
      simpa [trimR] using this
    rw [h0]; rfl
set_option maxHeartbeats 1000000 in
set_option maxRecDepth 100000 in
theorem trim_62 (s : Bs) (w : World) (hs : s.length ≤ 100000000) : Calls Tryd.prog 62 #[S s, S [0]] w fun e w' => ∃ r, e = .returned (S r) ∧ Hid (r = [] ↔ s = zerosR s.length) ∧ Below w.heap.size w w' := by
  by_cases h0 : s = []
  · subst h0
    go_enter Tryd.func62, Tryd.ntmps62
    go_wp2_with fail
    go_ret
    exact ⟨[], rfl, (by show _ ↔ _; simp [zerosR]), Below.refl _ _⟩
  · have hie : List.isEmpty s = false := by simpa using h0
    have HR := Lib.hid (fun W => trimRight_74 s W hs)
    have hl : (trimR s).length ≤ s.length := by
      have : (trimR s).length = (s.reverse.dropWhile (· == 0)).length := by simp [trimR]
      rw [this]
      have h2 := (List.dropWhile_sublist (l := s.reverse) (· == 0)).length_le
      simpa using h2
    have HL := Lib.hid (fun W => trimLeft_73 (trimR s) W (by omega))
    have HA := Lib.hid (trim_all s)
    generalize trimR s = t at *
    generalize t.dropWhile (· == 0) = r at *
    clear h0
    go_enter Tryd.func62, Tryd.ntmps62
    go_wp2_with fail
    go_quiet (first
      | (go_at_call 74; exact Calls.quiet_of_same (HR.out _))
      | (go_at_call 73; exact Calls.quiet_of_same (HL.out _)))
    go_wp2_with fail
    go_ret
    exact ⟨r, rfl, HA.out, ⟨rfl, rfl, rfl, Nat.le_refl _, fun _ _ => rfl⟩⟩
end Go.Proofs.YtgdkdihedgiegaaDoor
