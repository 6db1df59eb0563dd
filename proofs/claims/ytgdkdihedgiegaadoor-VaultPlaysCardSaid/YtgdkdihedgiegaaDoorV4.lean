/-
  The walk of finish.
-/
import Derived.Test.YtgdkdihedgiegaaDoorV3
namespace Go.Proofs.YtgdkdihedgiegaaDoor
open Go.RowKit
attribute [local go_sem] zeros_len

theorem zeros_any (w : World) (n : Int) (h1 : -100000000 ≤ n) (h2 : n ≤ 100000000) : Calls Tryd.prog 40 #[.int .i64 n] w fun e w' => e = .returned (S (zerosR n.toNat)) ∧ Below w.heap.size w w' := zeros_40 w n n.toNat rfl (by omega) h1
theorem StepAt.below {F : Nat → Prop} {w w' : World} {fv : Value} {bv : Nat} {off : Int} {s : Bs} (h : StepAt F w fv bv off s) (hb : Below w.heap.size w w') : StepAt F w' fv bv off s := h.keep (Step.of_below hb)
theorem lt_below {F : Nat → Prop} {w w' : World} (hF : ∀ k, F k → k < w.heap.size) {B : Nat} (hb : Below B w w') : ∀ k, F k → k < w'.heap.size := fun k hk => Nat.lt_of_lt_of_le (hF k hk) hb.size
theorem i72 : (Tryd.prog.info? 72).map (fun i => (i.zero, i.size, i.bytes)) = some (some .nilFunc, 1, 8) := by kernel_rfl
set_option maxHeartbeats 4000000 in
set_option maxRecDepth 100000 in
theorem finish_38 (F : Nat → Prop) (w : World) (bv k size : Nat) (x : Bs) (hF : ∀ k, F k → k < w.heap.size) (hk : 64 + x.length ≤ k) (hks : k ≤ size) (hsz : size ≤ 100000000) :
    Calls Tryd.prog 38 #[.pointer (some ⟨bv, 0, none⟩), .int .i64 k, .int .i64 size, S x] w fun e w' => ∃ v, e = .returned v ∧ StepsAt F w' bv v (finishR k size x) ∧ Below w.heap.size w w' := by
  have HF := Lib.hid hF
  clear hF
  have e1 : (k : Int) - 64 - (x.length : Int) = ((k - 64 - x.length : Nat) : Int) := by omega
  have e2 : (size : Int) - (k : Int) = ((size - k : Nat) : Int) := by omega
  obtain ⟨n1, hn1⟩ : ∃ n1, n1 = k - 64 - x.length := ⟨_, rfl⟩
  obtain ⟨n2, hn2⟩ : ∃ n2, n2 = size - k := ⟨_, rfl⟩
  have HX : Hid (finishR k size x = [(64, x ++ zerosR n1), (0, zerosR 9), (k, zerosR n2)]) := by rw [hn1, hn2]; rfl
  rw [← hn1] at e1
  rw [← hn2] at e2
  have hb1 : n1 ≤ 100000000 := by omega
  have hb2 : n2 ≤ 100000000 := by omega
  clear hn1 hn2
  go_enter Tryd.func38, Tryd.ntmps38
  go_wp2_with fail
  ((with_reducible refine Calls.mono (zeros_any _ _ (by omega) (by omega)) ?_); rintro e w1 ⟨rfl, hB1⟩)
  have HB1 := Lib.hid hB1
  clear hB1
  go_wp2_with fail
  ((with_reducible refine Calls.mono (write_39 F _ bv _ _ (lt_below HF.out HB1.out)) ?_); rintro e w2 ⟨p1, rfl, hs1, hB2⟩)
  have HB2 := Lib.hid (btr HB1.out hB2 HB1.out.size)
  have HS1 := Lib.hid hs1
  clear hB2 hs1
  go_wp2_with fail
  ((with_reducible refine Calls.mono (zeros_any _ _ (by omega) (by omega)) ?_); rintro e w3 ⟨rfl, hB3⟩)
  have HB3 := Lib.hid (btr HB2.out hB3 HB2.out.size)
  have HS1a := Lib.hid (HS1.out.below hB3)
  clear hB3
  go_wp2_with fail
  ((with_reducible refine Calls.mono (write_39 F _ bv _ _ (lt_below HF.out HB3.out)) ?_); rintro e w4 ⟨p2, rfl, hs2, hB4⟩)
  have HB4 := Lib.hid (btr HB3.out hB4 HB3.out.size)
  have HS1b := Lib.hid (HS1a.out.below hB4)
  have HS2 := Lib.hid hs2
  clear hB4 hs2
  go_wp2_with fail
  ((with_reducible refine Calls.mono (zeros_any _ _ (by omega) (by omega)) ?_); rintro e w5 ⟨rfl, hB5⟩)
  have HB5 := Lib.hid (btr HB4.out hB5 HB4.out.size)
  have HS1c := Lib.hid (HS1b.out.below hB5)
  have HS2c := Lib.hid (HS2.out.below hB5)
  clear hB5
  go_wp2_with fail
  ((with_reducible refine Calls.mono (write_39 F _ bv _ _ (lt_below HF.out HB5.out)) ?_); rintro e w6 ⟨p3, rfl, hs3, hB6⟩)
  have HB6 := Lib.hid (btr HB5.out hB6 HB5.out.size)
  have HS1d := Lib.hid (HS1c.out.below hB6)
  have HS2d := Lib.hid (HS2c.out.below hB6)
  have HS3 := Lib.hid hs3
  clear hB6 hs3
  go_wp2_with fail
  go_ret
  have ha := alloc_below w6 (.cells #[stepV p1, stepV p2, stepV p3] 72)
  rw [HX.out]
  refine ⟨_, rfl, ⟨[((64, x ++ zerosR n1), stepV p1), ((0, zerosR 9), stepV p2), ((k, zerosR n2), stepV p3)], rfl, World.ownsRow_lit w6 #[stepV p1, stepV p2, stepV p3] 3 (Nat.zero_le _) (by unfold maxLen; omega) rfl, ?_, ?_⟩, HB6.out.alloc HB6.out.size _⟩
  · intro q hq
    simp only [List.mem_cons, List.not_mem_nil, or_false] at hq
    rcases hq with rfl | rfl | rfl
    · exact ⟨rfl, HS1d.out.below ha⟩
    · exact ⟨rfl, HS2d.out.below ha⟩
    · exact ⟨rfl, HS3.out.below ha⟩
  · intro j hj
    injection hj with hj
    intro hf
    have h1 := lt_below HF.out HB6.out j hf
    have h2 : w6.heap.size = j := hj
    omega
end Go.Proofs.YtgdkdihedgiegaaDoor
