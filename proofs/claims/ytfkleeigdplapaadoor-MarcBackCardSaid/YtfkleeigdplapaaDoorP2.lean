/-
  The walk of the program's fixed: a number in four or five digits.
-/
import Derived.Test.YtfkleeigdplapaaDoorP1
import Derived.Test.YtfkleeigdplapaaDoorConv
import Derived.Handy
namespace Go.Proofs.YtfkleeigdplapaaDoor
open Go.RowKit

open Classical in
noncomputable def cv4 (x y z u : Option Value) (w : World) (b : Nat) : Result Value :=
  if x = w.cell? ⟨b, 0, none⟩ ∧ y = w.cell? ⟨b, 1, none⟩ ∧ z = w.cell? ⟨b, 2, none⟩ ∧ u = w.cell? ⟨b, 3, none⟩ then (convert 40 9 (.slice (some ⟨b, 0, none⟩) 4 4)).run Tryd.prog w
  else match x, y, z, u with
    | some (.int .u8 c), some (.int .u8 d), some (.int .u8 e), some (.int .u8 f) => .ok (S [UInt8.ofNat c.toNat, UInt8.ofNat d.toNat, UInt8.ofNat e.toNat, UInt8.ofNat f.toNat]) w
    | _, _, _, _ => (convert 40 9 (.slice (some ⟨b, 0, none⟩) 4 4)).run Tryd.prog w
theorem cv4_intro (w : World) (b : Nat) : (convert 40 9 (.slice (some ⟨b, 0, none⟩) 4 4)).run Tryd.prog w = cv4 (w.cell? ⟨b, 0, none⟩) (w.cell? ⟨b, 1, none⟩) (w.cell? ⟨b, 2, none⟩) (w.cell? ⟨b, 3, none⟩) w b := by
  unfold cv4; rw [if_pos ⟨rfl, rfl, rfl, rfl⟩]
theorem cv4_some (c d e f : Int) (w : World) (b : Nat) : cv4 (some (.int .u8 c)) (some (.int .u8 d)) (some (.int .u8 e)) (some (.int .u8 f)) w b = .ok (S [UInt8.ofNat c.toNat, UInt8.ofNat d.toNat, UInt8.ofNat e.toNat, UInt8.ofNat f.toNat]) w := by
  unfold cv4
  split
  · rename_i h
    obtain ⟨h0, h1, h2, h3⟩ := h
    have := conv_cells w ⟨b, 0, none⟩ 4 [c, d, e, f] (fun j hj => by
      have : j = 0 ∨ j = 1 ∨ j = 2 ∨ j = 3 := by simp at hj; omega
      rcases this with rfl | rfl | rfl | rfl
      · simpa [Addr.add] using h0.symm
      · simpa [Addr.add] using h1.symm
      · simpa [Addr.add] using h2.symm
      · simpa [Addr.add] using h3.symm)
    simpa using this
  · rfl
open Classical in
noncomputable def cv5 (x y z u v : Option Value) (w : World) (b : Nat) : Result Value :=
  if x = w.cell? ⟨b, 0, none⟩ ∧ y = w.cell? ⟨b, 1, none⟩ ∧ z = w.cell? ⟨b, 2, none⟩ ∧ u = w.cell? ⟨b, 3, none⟩ ∧ v = w.cell? ⟨b, 4, none⟩ then (convert 40 9 (.slice (some ⟨b, 0, none⟩) 5 5)).run Tryd.prog w
  else match x, y, z, u, v with
    | some (.int .u8 c), some (.int .u8 d), some (.int .u8 e), some (.int .u8 f), some (.int .u8 g) => .ok (S [UInt8.ofNat c.toNat, UInt8.ofNat d.toNat, UInt8.ofNat e.toNat, UInt8.ofNat f.toNat, UInt8.ofNat g.toNat]) w
    | _, _, _, _, _ => (convert 40 9 (.slice (some ⟨b, 0, none⟩) 5 5)).run Tryd.prog w
theorem cv5_intro (w : World) (b : Nat) : (convert 40 9 (.slice (some ⟨b, 0, none⟩) 5 5)).run Tryd.prog w = cv5 (w.cell? ⟨b, 0, none⟩) (w.cell? ⟨b, 1, none⟩) (w.cell? ⟨b, 2, none⟩) (w.cell? ⟨b, 3, none⟩) (w.cell? ⟨b, 4, none⟩) w b := by
  unfold cv5; rw [if_pos ⟨rfl, rfl, rfl, rfl, rfl⟩]
theorem cv5_some (c d e f g : Int) (w : World) (b : Nat) : cv5 (some (.int .u8 c)) (some (.int .u8 d)) (some (.int .u8 e)) (some (.int .u8 f)) (some (.int .u8 g)) w b = .ok (S [UInt8.ofNat c.toNat, UInt8.ofNat d.toNat, UInt8.ofNat e.toNat, UInt8.ofNat f.toNat, UInt8.ofNat g.toNat]) w := by
  unfold cv5
  split
  · rename_i h
    obtain ⟨h0, h1, h2, h3, h4⟩ := h
    have := conv_cells w ⟨b, 0, none⟩ 5 [c, d, e, f, g] (fun j hj => by
      have : j = 0 ∨ j = 1 ∨ j = 2 ∨ j = 3 ∨ j = 4 := by simp at hj; omega
      rcases this with rfl | rfl | rfl | rfl | rfl
      · simpa [Addr.add] using h0.symm
      · simpa [Addr.add] using h1.symm
      · simpa [Addr.add] using h2.symm
      · simpa [Addr.add] using h3.symm
      · simpa [Addr.add] using h4.symm)
    simpa using this
  · rfl
attribute [go_sem] cv4_intro cv4_some cv5_intro cv5_some

theorem dig_mod (v : Int) : (48 + v % 10) % 256 = 48 + v % 10 := by omega
theorem dig_nat (v : Int) (h : 0 ≤ v) : (48 + v % 10).toNat = 48 + v.toNat % 10 := by omega
theorem div_nat (v : Int) (h : 0 ≤ v) : (v / 10).toNat = v.toNat / 10 := by omega
set_option maxRecDepth 100000 in
set_option maxHeartbeats 1000000 in
theorem fixed_41_4 (v : Int) (w : World) (hv : 0 ≤ v) (hv2 : v < 100000000000) :
   Calls Tryd.prog 41 #[.int .i64 v, .int .i64 4] w fun e w' => e = .returned (S (fixedN 4 v.toNat)) ∧ Below w.heap.size w w' := by
  have h1 : 0 ≤ v / 10 ∧ v / 10 < 100000000000 := by omega
  have h2 : 0 ≤ v / 10 / 10 ∧ v / 10 / 10 < 100000000000 := by omega
  have h3 : 0 ≤ v / 10 / 10 / 10 ∧ v / 10 / 10 / 10 < 100000000000 := by omega
  have h4 : 0 ≤ v / 10 / 10 / 10 / 10 ∧ v / 10 / 10 / 10 / 10 < 100000000000 := by omega
  have m0 := dig_mod (v)
  have m1 := dig_mod (v / 10)
  have m2 := dig_mod (v / 10 / 10)
  have m3 := dig_mod (v / 10 / 10 / 10)
  have hmk : ∀ W : World, (Instr.makeSlice 40 (.int .i64 4) (.int .i64 4)).run Tryd.prog W = .ok (.slice (some ⟨W.heap.size, 0, none⟩) 4 4) (W.alloc (.cells #[.int .u8 0, .int .u8 0, .int .u8 0, .int .u8 0] 5)) := fun _ => by kernel_rfl
  go_enter Tryd.func41, Tryd.ntmps41
  go_wp2
  go_rounds 5
  go_ret
  refine ⟨ret_S ?_, (Below.refl _ w).alloc (Nat.le_refl _) _⟩
  clear hmk m0 m1 m2 m3
  simp only [fixedN, List.nil_append, List.cons_append]
  rw [dig_nat _ (by omega), dig_nat _ (by omega), dig_nat _ (by omega), dig_nat _ (by omega), div_nat (v / 10 / 10) (by omega), div_nat (v / 10) (by omega), div_nat (v) (by omega)]
set_option maxRecDepth 100000 in
set_option maxHeartbeats 1000000 in
theorem fixed_41_5 (v : Int) (w : World) (hv : 0 ≤ v) (hv2 : v < 100000000000) :
   Calls Tryd.prog 41 #[.int .i64 v, .int .i64 5] w fun e w' => e = .returned (S (fixedN 5 v.toNat)) ∧ Below w.heap.size w w' := by
  have h1 : 0 ≤ v / 10 ∧ v / 10 < 100000000000 := by omega
  have h2 : 0 ≤ v / 10 / 10 ∧ v / 10 / 10 < 100000000000 := by omega
  have h3 : 0 ≤ v / 10 / 10 / 10 ∧ v / 10 / 10 / 10 < 100000000000 := by omega
  have h4 : 0 ≤ v / 10 / 10 / 10 / 10 ∧ v / 10 / 10 / 10 / 10 < 100000000000 := by omega
  have h5 : 0 ≤ v / 10 / 10 / 10 / 10 / 10 ∧ v / 10 / 10 / 10 / 10 / 10 < 100000000000 := by omega
  have m0 := dig_mod (v)
  have m1 := dig_mod (v / 10)
  have m2 := dig_mod (v / 10 / 10)
  have m3 := dig_mod (v / 10 / 10 / 10)
  have m4 := dig_mod (v / 10 / 10 / 10 / 10)
  have hmk : ∀ W : World, (Instr.makeSlice 40 (.int .i64 5) (.int .i64 5)).run Tryd.prog W = .ok (.slice (some ⟨W.heap.size, 0, none⟩) 5 5) (W.alloc (.cells #[.int .u8 0, .int .u8 0, .int .u8 0, .int .u8 0, .int .u8 0] 5)) := fun _ => by kernel_rfl
  go_enter Tryd.func41, Tryd.ntmps41
  go_wp2
  go_rounds 6
  go_ret
  refine ⟨ret_S ?_, (Below.refl _ w).alloc (Nat.le_refl _) _⟩
  clear hmk m0 m1 m2 m3 m4
  simp only [fixedN, List.nil_append, List.cons_append]
  rw [dig_nat _ (by omega), dig_nat _ (by omega), dig_nat _ (by omega), dig_nat _ (by omega), dig_nat _ (by omega), div_nat (v / 10 / 10 / 10) (by omega), div_nat (v / 10 / 10) (by omega), div_nat (v / 10) (by omega), div_nat (v) (by omega)]
end Go.Proofs.YtfkleeigdplapaaDoor
