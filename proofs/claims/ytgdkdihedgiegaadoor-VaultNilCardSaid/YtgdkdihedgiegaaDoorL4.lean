/-
  The walk of VaultNil.
-/
import Derived.Test.YtgdkdihedgiegaaDoorV18
namespace Go.Proofs.YtgdkdihedgiegaaDoor
open Go.RowKit

set_option maxHeartbeats 1000000 in
theorem ready_none (w : World) : Calls Tryd.prog 44 #[.pointer none] w fun e w' => e = .returned (.int .i64 1) ∧ w' = w := by
  go_enter Tryd.func44, Tryd.ntmps44
  go_wp2_with fail
  go_ret
  exact ⟨rfl, rfl⟩
set_option maxHeartbeats 1000000 in
theorem ready_zero (w : World) (g : Nat) (c0 : w.cell? ⟨g, 0, none⟩ = some (.pointer none)) : Calls Tryd.prog 44 #[.pointer (some ⟨g, 0, none⟩)] w fun e w' => e = .returned (.int .i64 1) ∧ w' = w := by
  go_enter Tryd.func44, Tryd.ntmps44
  go_wp2_with fail
  go_ret
  exact ⟨rfl, rfl⟩
set_option maxHeartbeats 1000000 in
theorem append_arg (w : World) (o : Option Addr) (h : Calls Tryd.prog 44 #[.pointer o] w fun e w' => e = .returned (.int .i64 1) ∧ w' = w) (r : Bs) :
    Calls Tryd.prog 21 #[.pointer o, S r] w fun x w' => x = .returned (.int .i64 1) ∧ w' = w := by
  have HR := Lib.hid h
  clear h
  go_enter Tryd.func21, Tryd.ntmps21
  go_wp2_with (go_at_call 44; ((with_reducible refine Calls.mono HR.out ?_); rintro x w1 ⟨rfl, rfl⟩))
  go_ret
  exact ⟨rfl, rfl⟩
set_option maxHeartbeats 1000000 in
theorem replace_arg (w : World) (o : Option Addr) (h : Calls Tryd.prog 44 #[.pointer o] w fun e w' => e = .returned (.int .i64 1) ∧ w' = w) (r : Bs) (tv : Value) :
    Calls Tryd.prog 22 #[.pointer o, S r, tv] w fun x w' => x = .returned (.int .i64 1) ∧ w' = w := by
  have HR := Lib.hid h
  clear h
  go_enter Tryd.func22, Tryd.ntmps22
  go_wp2_with (go_at_call 44; ((with_reducible refine Calls.mono HR.out ?_); rintro x w1 ⟨rfl, rfl⟩))
  go_ret
  exact ⟨rfl, rfl⟩
set_option maxHeartbeats 1000000 in
theorem many_none (w : World) : Calls Tryd.prog 20 #[.pointer none] w fun e w' => e = .returned (.int .i64 0) ∧ w' = w := by
  go_enter Tryd.func20, Tryd.ntmps20
  go_wp2_with fail
  go_ret
  exact ⟨rfl, rfl⟩
set_option maxHeartbeats 1000000 in
theorem many_zero (w : World) (g : Nat) (c2 : w.cell? ⟨g, 2, none⟩ = some (.int .i64 0)) : Calls Tryd.prog 20 #[.pointer (some ⟨g, 0, none⟩)] w fun e w' => e = .returned (.int .i64 0) ∧ w' = w := by
  go_enter Tryd.func20, Tryd.ntmps20
  go_wp2_with fail
  go_ret
  exact ⟨rfl, rfl⟩
set_option maxHeartbeats 4000000 in
set_option maxRecDepth 100000 in
theorem nil_4 (r : Bs) (w : World) : Calls Tryd.prog 4 #[S r] w fun e w' => e = .returned (.bool true) ∧ Below w.heap.size w w' := by
  go_enter Tryd.func4, Tryd.ntmps4
  go_wp2_with fail
  ((with_reducible refine Calls.mono (sanity_11 w) ?_); rintro e w1 ⟨rfl, hb1⟩)
  have HB1 := Lib.hid hb1
  clear hb1
  go_wp2_with fail
  have ha := alloc_below w1 (.cells #[.pointer none, .int .i64 0, .int .i64 0, .bool false] 44)
  have HB2 := Lib.hid (btr HB1.out ha HB1.out.size)
  have c0 : (w1.alloc (.cells #[.pointer none, .int .i64 0, .int .i64 0, .bool false] 44)).cell? ⟨w1.heap.size, 0, none⟩ = some (.pointer none) := World.cell?_alloc_new w1 _ _ 0
  have c2 : (w1.alloc (.cells #[.pointer none, .int .i64 0, .int .i64 0, .bool false] 44)).cell? ⟨w1.heap.size, 2, none⟩ = some (.int .i64 0) := World.cell?_alloc_new w1 _ _ 2
  have hg : w1.heap.size < (w1.alloc (.cells #[.pointer none, .int .i64 0, .int .i64 0, .bool false] 44)).heap.size := by simp
  generalize w1.alloc (.cells #[.pointer none, .int .i64 0, .int .i64 0, .bool false] 44) = w2 at *
  generalize w1.heap.size = g at *
  clear ha
  have HO : Calls Tryd.prog 13 #[.pointer none] w2 fun e w' => e = .returned (.tuple #[.pointer none, S [], .slice none 0 0, .int .i64 1]) ∧ w' = w2 := open_nil w2
  ((with_reducible refine Calls.mono HO ?_); rintro e w3 ⟨rfl, hw⟩; have hw := hw.symm; subst hw)
  clear HO
  go_wp2_with fail
  ((with_reducible refine Calls.mono (append_arg w2 none (ready_none w2) r) ?_); rintro e w3 ⟨rfl, hw⟩; have hw := hw.symm; subst hw)
  go_wp2_with fail
  ((with_reducible refine Calls.mono (replace_arg w2 none (ready_none w2) r _) ?_); rintro e w3 ⟨rfl, hw⟩; have hw := hw.symm; subst hw)
  go_wp2_with fail
  ((with_reducible refine Calls.mono (many_none w2) ?_); rintro e w3 ⟨rfl, hw⟩; have hw := hw.symm; subst hw)
  go_wp2_with fail
  ((with_reducible refine Calls.mono (append_arg w2 (some ⟨g, 0, none⟩) (ready_zero w2 g c0) r) ?_); rintro e w3 ⟨rfl, hw⟩; have hw := hw.symm; subst hw)
  go_wp2_with fail
  have ha := alloc_below w2 (.cells #[S r] 9)
  have HB3 := Lib.hid (btr HB2.out ha HB2.out.size)
  have d0 : (w2.alloc (.cells #[S r] 9)).cell? ⟨g, 0, none⟩ = some (.pointer none) := by rw [alloc_old _ _ _ _ hg]; exact c0
  have d2 : (w2.alloc (.cells #[S r] 9)).cell? ⟨g, 2, none⟩ = some (.int .i64 0) := by rw [alloc_old _ _ _ _ hg]; exact c2
  generalize w2.alloc (.cells #[S r] 9) = w4 at *
  clear ha
  ((with_reducible refine Calls.mono (replace_arg w4 (some ⟨g, 0, none⟩) (ready_zero w4 g d0) r _) ?_); rintro e w3 ⟨rfl, hw⟩; have hw := hw.symm; subst hw)
  go_wp2_with fail
  ((with_reducible refine Calls.mono (many_zero w4 g d2) ?_); rintro e w3 ⟨rfl, hw⟩; have hw := hw.symm; subst hw)
  go_wp2_with fail
  go_ret
  exact ⟨rfl, HB3.out⟩
end Go.Proofs.YtgdkdihedgiegaaDoor
