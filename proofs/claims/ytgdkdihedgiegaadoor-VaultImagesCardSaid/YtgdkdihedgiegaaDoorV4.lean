/-
  The walk of finish.
  The walks of strings.Trim at zeros.
-/
import Derived.Test.YtgdkdihedgiegaaDoorV1
namespace Go.Proofs.YtgdkdihedgiegaaDoor
open Go.RowKit
attribute [local go_sem] zeros_len

theorem zeros_any (w : World) (n : Int) (h1 : -100000000 ≤ n) (h2 : n ≤ 100000000) : Calls Tryd.prog 40 #[.int .i64 n] w fun e w' => e = .returned (S (zerosR n.toNat)) ∧ Below w.heap.size w w' := zeros_40 w n n.toNat rfl (by omega) h1
theorem StepAt.below {F : Nat → Prop} {w w' : World} {fv : Value} {bv : Nat} {off : Int} {s : Bs} (h : StepAt F w fv bv off s) (hb : Below w.heap.size w w') : StepAt F w' fv bv off s := h.keep (Step.of_below hb)
theorem lt_below {F : Nat → Prop} {w w' : World} (hF : ∀ k, F k → k < w.heap.size) {B : Nat} (hb : Below B w w') : ∀ k, F k → k < w'.heap.size := fun k hk => Nat.lt_of_lt_of_le (hF k hk) hb.size
theorem i72 : (Tryd.prog.info? 72).map (fun i => (i.zero, i.size, i.bytes)) = some (some .nilFunc, 1, 8) := by kernel_rfl
set_option maxHeartbeats 4000000 in
set_option maxRecDepth 100000 in
theorem finish_38 (F : Nat → Prop) (w : World) (bv k size : Nat) (x : Bs) (hF : ∀ k, F k → k < w.heap.size) (hk : 64 + x.length ≤ k) (hks : k ≤ size) (hsz : size ≤ 100000000) :
    Calls Tryd.prog 38 #[.pointer (some ⟨bv, 0, none⟩), .int .i64 k, .int .i64 size, S x] w fun e w' => ∃ v, e = .returned v ∧ StepsAt F w' bv v (finishR k size x) ∧ Below w.heap.size w w' := by
  have HF := Lib.hid hF
  clear hF
  have e1 : (k : Int) - 64 - (x.length : Int) = ((k - 64 - x.length : Nat) : Int) := by omega
  have e2 : (size : Int) - (k : Int) = ((size - k : Nat) : Int) := by omega
  obtain ⟨n1, hn1⟩ : ∃ n1, n1 = k - 64 - x.length := ⟨_, rfl⟩
  obtain ⟨n2, hn2⟩ : ∃ n2, n2 = size - k := ⟨_, rfl⟩
  have HX : Hid (finishR k size x = [(64, x ++ zerosR n1), (0, zerosR 9), (k, zerosR n2)]) := by rw [hn1, hn2]; rfl
  rw [← hn1] at e1
  rw [← hn2] at e2
  have hb1 : n1 ≤ 100000000 := by omega
  have hb2 : n2 ≤ 100000000 := by omega
  clear hn1 hn2
  go_enter Tryd.func38, Tryd.ntmps38
  go_wp2_with fail
  ((with_reducible refine Calls.mono (zeros_any _ _ (by omega) (by omega)) ?_); rintro e w1 ⟨rfl, hB1⟩)
  have HB1 := Lib.hid hB1
  clear hB1
  go_wp2_with fail
  ((with_reducible refine Calls.mono (write_39 F _ bv _ _ (lt_below HF.out HB1.out)) ?_); rintro e w2 ⟨p1, rfl, hs1, hB2⟩)
  have HB2 := Lib.hid (btr HB1.out hB2 HB1.out.size)
  have HS1 := Lib.hid hs1
  clear hB2 hs1
  go_wp2_with fail
  ((with_reducible refine Calls.mono (zeros_any _ _ (by omega) (by omega)) ?_); rintro e w3 ⟨rfl, hB3⟩)
  have HB3 := Lib.hid (btr HB2.out hB3 HB2.out.size)
  have HS1a := Lib.hid (HS1.out.below hB3)
  clear hB3
  go_wp2_with fail
  ((with_reducible refine Calls.mono (write_39 F _ bv _ _ (lt_below HF.out HB3.out)) ?_); rintro e w4 ⟨p2, rfl, hs2, hB4⟩)
  have HB4 := Lib.hid (btr HB3.out hB4 HB3.out.size)
  have HS1b := Lib.hid (HS1a.out.below hB4)
  have HS2 := Lib.hid hs2
  clear hB4 hs2
  go_wp2_with fail
  ((with_reducible refine Calls.mono (zeros_any _ _ (by omega) (by omega)) ?_); rintro e w5 ⟨rfl, hB5⟩)
  have HB5 := Lib.hid (btr HB4.out hB5 HB4.out.size)
  have HS1c := Lib.hid (HS1b.out.below hB5)
  have HS2c := Lib.hid (HS2.out.below hB5)
  clear hB5
  go_wp2_with fail
  ((with_reducible refine Calls.mono (write_39 F _ bv _ _ (lt_below HF.out HB5.out)) ?_); rintro e w6 ⟨p3, rfl, hs3, hB6⟩)
  have HB6 := Lib.hid (btr HB5.out hB6 HB5.out.size)
  have HS1d := Lib.hid (HS1c.out.below hB6)
  have HS2d := Lib.hid (HS2c.out.below hB6)
  have HS3 := Lib.hid hs3
  clear hB6 hs3
  go_wp2_with fail
  go_ret
  have ha := alloc_below w6 (.cells #[stepV p1, stepV p2, stepV p3] 72)
  rw [HX.out]
  refine ⟨_, rfl, ⟨[((64, x ++ zerosR n1), stepV p1), ((0, zerosR 9), stepV p2), ((k, zerosR n2), stepV p3)], rfl, World.ownsRow_lit w6 #[stepV p1, stepV p2, stepV p3] 3 (Nat.zero_le _) (by unfold maxLen; omega) rfl, ?_, ?_⟩, HB6.out.alloc HB6.out.size _⟩
  · intro q hq
    simp only [List.mem_cons, List.not_mem_nil, or_false] at hq
    rcases hq with rfl | rfl | rfl
    · exact ⟨rfl, HS1d.out.below ha⟩
    · exact ⟨rfl, HS2d.out.below ha⟩
    · exact ⟨rfl, HS3.out.below ha⟩
  · intro j hj
    injection hj with hj
    intro hf
    have h1 := lt_below HF.out HB6.out j hf
    have h2 : w6.heap.size = j := hj
    omega
end Go.Proofs.YtgdkdihedgiegaaDoor

namespace Go.Proofs.YtgdkdihedgiegaaDoor
open Go.RowKit

theorem trim_last (z : Bs) (h : z.length - 1 < z.length) : ((z[z.length - 1]'h) = 0 → trimR z = trimR (z.take (z.length - 1))) ∧ ((z[z.length - 1]'h) ≠ 0 → trimR z = z) := by
  have hz : z = z.take (z.length - 1) ++ [z[z.length - 1]'h] := by
    have h1 := List.take_succ_eq_append_getElem h
    rw [show z.length - 1 + 1 = z.length from by omega, List.take_length] at h1
    exact h1
  constructor
  · intro hb
    rw [hb] at hz
    have := trim_zeros (z.take (z.length - 1)) 1
    rw [show zerosR 1 = [0] from rfl] at this
    rw [← this, ← hz]
  · intro hb
    have h2 : trimR z = trimR (z.take (z.length - 1) ++ [z[z.length - 1]'h]) := by rw [← hz]
    rw [h2]
    unfold trimR
    rw [List.reverse_append, List.reverse_singleton, List.singleton_append, List.dropWhile_cons_of_neg (by simpa using hb)]
    rw [← List.singleton_append, ← List.reverse_singleton, ← List.reverse_append, List.reverse_reverse]
    exact hz.symm
theorem drop_first (z : Bs) (h : 0 < z.length) : ((z[0]'h) = 0 → z.dropWhile (· == 0) = (z.drop 1).dropWhile (· == 0)) ∧ ((z[0]'h) ≠ 0 → z.dropWhile (· == 0) = z) := by
  cases z with
  | nil => simp at h
  | cons b z =>
    constructor
    · intro hb; simp at hb; subst hb; simp
    · intro hb; simp at hb; simp [hb]
theorem u8_zero {b : UInt8} : ((b.toNat : Int) == 0) = true ↔ b = 0 := by
  simp
  constructor
  · intro h; exact u8_eq (by simpa using h)
  · rintro rfl; rfl
set_option maxHeartbeats 1000000 in
set_option maxRecDepth 100000 in
theorem trimRight_74 (s : Bs) (w : World) (hs : s.length ≤ 100000000) : Calls Tryd.prog 74 #[S s, .int .u8 0] w fun e w' => e = .returned (S (trimR s)) ∧ w' = w := by
  go_enter Tryd.func74, Tryd.ntmps74
  go_wp2_with fail
  go_loop [0] (fun x => ∃ z : Bs, x = S z ∧ z.length ≤ 100000000 ∧ Hid (trimR s = trimR z)) (fun x => strOf x)
  case atStart => exact ⟨s, rfl, hs, rfl⟩
  case round =>
    obtain ⟨z, rfl, hz, HZ⟩ := hrel
    by_cases h0 : z = []
    · subst h0
      have HX : Hid (trimR s = []) := HZ.out
      go_wp2_with fail
      go_ret
      rw [HX.out]
      exact ⟨rfl, rfl⟩
    · have hl : 0 < z.length := List.length_pos_iff.2 h0
      have hl1 : z.length - 1 < z.length := by omega
      have HT := Lib.hid (trim_last z hl1)
      go_wp2_with fail
      · have hb : (((z[z.length - 1]'hl1).toNat : Int) == 0) = true := by assumption
        have HX := Lib.hid (HZ.out.trans (HT.out.1 (u8_zero.1 hb)))
        go_round
        case rel => exact ⟨z.take (z.length - 1), rfl, by simp; omega, HX.out⟩
        case measure => show (z.take (z.length - 1)).length < z.length; simp; omega
      · have hb : (((z[z.length - 1]'hl1).toNat : Int) == 0) = false := by assumption
        have HX := HZ.out.trans (HT.out.2 (fun e => by rw [u8_zero.2 e] at hb; cases hb))
        go_ret
        rw [HX]
        exact ⟨rfl, rfl⟩
set_option maxHeartbeats 1000000 in
set_option maxRecDepth 100000 in
theorem trimLeft_73 (s : Bs) (w : World) (hs : s.length ≤ 100000000) : Calls Tryd.prog 73 #[S s, .int .u8 0] w fun e w' => e = .returned (S (s.dropWhile (· == 0))) ∧ w' = w := by
  go_enter Tryd.func73, Tryd.ntmps73
  go_wp2_with fail
  go_loop [0] (fun x => ∃ z : Bs, x = S z ∧ z.length ≤ 100000000 ∧ Hid (s.dropWhile (· == 0) = z.dropWhile (· == 0))) (fun x => strOf x)
  case atStart => exact ⟨s, rfl, hs, rfl⟩
  case round =>
    obtain ⟨z, rfl, hz, HZ⟩ := hrel
    by_cases h0 : z = []
    · subst h0
      have HX : Hid (s.dropWhile (· == 0) = []) := HZ.out
      go_wp2_with fail
      go_ret
      rw [HX.out]
      exact ⟨rfl, rfl⟩
    · have hl : 0 < z.length := List.length_pos_iff.2 h0
      have HT := Lib.hid (drop_first z hl)
      go_wp2_with fail
      · have hb : (((z[0]'hl).toNat : Int) == 0) = true := by assumption
        have HX := Lib.hid (HZ.out.trans (HT.out.1 (u8_zero.1 hb)))
        go_round
        case rel => exact ⟨z.drop 1, by simp, by simp; omega, HX.out⟩
        case measure => show (z.tail).length < z.length; simp; omega
      · have hb : (((z[0]'hl).toNat : Int) == 0) = false := by assumption
        have HX := HZ.out.trans (HT.out.2 (fun e => by rw [u8_zero.2 e] at hb; cases hb))
        go_ret
        rw [HX]
        exact ⟨rfl, rfl⟩
theorem drop_all (z : Bs) : z.dropWhile (· == 0) = [] ↔ z = zerosR z.length := by
  induction z with
  | nil => simp [zerosR]
  | cons b z ih =>
    by_cases hb : b = 0
    · subst hb
      rw [List.dropWhile_cons_of_pos (by decide), ih]
      simp [zerosR, List.replicate_succ]
    · rw [List.dropWhile_cons_of_neg (by simpa using hb)]
      simp [zerosR, List.replicate_succ, hb]
theorem take_zero (l : Bs) : l.takeWhile (· == 0) = zerosR (l.takeWhile (· == 0)).length := by
  induction l with
  | nil => rfl
  | cons b l ih =>
    by_cases hb : b = 0
    · subst hb
      rw [List.takeWhile_cons_of_pos (by decide)]
      simp only [List.length_cons, zerosR, List.replicate_succ]
      congr 1
    · rw [List.takeWhile_cons_of_neg (by simpa using hb)]; rfl
theorem trim_split (s : Bs) : ∃ k, s = trimR s ++ zerosR k := by
  refine ⟨(s.reverse.takeWhile (· == 0)).length, ?_⟩
  have h1 := List.takeWhile_append_dropWhile (p := (· == 0)) (l := s.reverse)
  have h2 := congrArg List.reverse h1
  rw [List.reverse_append, List.reverse_reverse, take_zero] at h2
  unfold trimR
  rw [show (zerosR (s.reverse.takeWhile (· == 0)).length).reverse = zerosR (s.reverse.takeWhile (· == 0)).length from by simp [zerosR]] at h2
  exact h2.symm
theorem trim_all (s : Bs) : (trimR s).dropWhile (· == 0) = [] ↔ s = zerosR s.length := by
  constructor
  · intro h
    rw [drop_all] at h
    obtain ⟨k, hk⟩ := trim_split s
    rw [h] at hk
    rw [hk]
    simp [zerosR]
  · intro h
    have h0 : trimR s = [] := by
      rw [h]
      have := trim_zeros [] s.length
      simpa [trimR] using this
    rw [h0]; rfl
set_option maxHeartbeats 1000000 in
set_option maxRecDepth 100000 in
theorem trim_62 (s : Bs) (w : World) (hs : s.length ≤ 100000000) : Calls Tryd.prog 62 #[S s, S [0]] w fun e w' => ∃ r, e = .returned (S r) ∧ Hid (r = [] ↔ s = zerosR s.length) ∧ Below w.heap.size w w' := by
  by_cases h0 : s = []
  · subst h0
    go_enter Tryd.func62, Tryd.ntmps62
    go_wp2_with fail
    go_ret
    exact ⟨[], rfl, (by show _ ↔ _; simp [zerosR]), Below.refl _ _⟩
  · have hie : List.isEmpty s = false := by simpa using h0
    have HR := Lib.hid (fun W => trimRight_74 s W hs)
    have hl : (trimR s).length ≤ s.length := by
      have : (trimR s).length = (s.reverse.dropWhile (· == 0)).length := by simp [trimR]
      rw [this]
      have h2 := (List.dropWhile_sublist (l := s.reverse) (· == 0)).length_le
      simpa using h2
    have HL := Lib.hid (fun W => trimLeft_73 (trimR s) W (by omega))
    have HA := Lib.hid (trim_all s)
    generalize trimR s = t at *
    generalize t.dropWhile (· == 0) = r at *
    clear h0
    go_enter Tryd.func62, Tryd.ntmps62
    go_wp2_with fail
    go_quiet (first
      | (go_at_call 74; exact Calls.quiet_of_same (HR.out _))
      | (go_at_call 73; exact Calls.quiet_of_same (HL.out _)))
    go_wp2_with fail
    go_ret
    exact ⟨r, rfl, HA.out, ⟨rfl, rfl, rfl, Nat.le_refl _, fun _ _ => rfl⟩⟩
end Go.Proofs.YtgdkdihedgiegaaDoor
