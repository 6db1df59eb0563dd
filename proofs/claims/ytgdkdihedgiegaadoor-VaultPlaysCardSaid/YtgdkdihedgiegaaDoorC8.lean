/-
  The walk of frame.
-/
import Derived.Test.YtgdkdihedgiegaaDoorB1
namespace Go.Proofs.YtgdkdihedgiegaaDoor
open Go.RowKit

set_option maxHeartbeats 1000000 in
set_option maxRecDepth 100000 in
theorem frame_45 (r : Bs) (w : World) (hr : r.length ≤ 100000000) : Calls Tryd.prog 45 #[S r] w fun e w' => e = .returned (S (frameR r)) ∧ Below w.heap.size w w' := by
  have HN := Lib.hid (fun W => number_64 r.length (by omega) W)
  have hl := numR_len_le r.length 9 (by omega)
  have e1 : IntKind.u64.wrap (r.length : Int) = r.length := IntWalk.u64_in _ (by omega)
  have HF : Hid (frameR r = 1 :: (numR r.length ++ r)) := rfl
  generalize numR r.length = L at *
  have s1 : ¬ 9223372036854775807 < 1 + L.length := by omega
  have s2 : ¬ 9223372036854775807 < L.length + 1 := by omega
  have s3 : ¬ 9223372036854775807 < L.length + 1 + r.length := by omega
  have s4 : ¬ 9223372036854775807 < 1 + L.length + r.length := by omega
  have s5 : ¬ 9223372036854775807 < 1 + (L.length + r.length) := by omega
  rw [HF.out]
  go_enter Tryd.func45, Tryd.ntmps45
  go_wp2_with fail
  go_region_with (go_at_call 64; ((with_reducible refine Calls.mono (HN.out _) ?_); rintro e w1 ⟨rfl, hb⟩; obtain ⟨hcc, hff⟩ := bcell hb; have HBB := Lib.hid hb; clear hb))
  all_goals
    go_wp2_with fail
    go_ret
    first
      | exact ⟨rfl, btr (alloc_below w _).drew HBB.out (by simp)⟩
      | exact ⟨rfl, btr (btr (Below.refl _ w).drew HBB.out (Nat.le_refl _)) (alloc_below _ _) HBB.out.size⟩
end Go.Proofs.YtgdkdihedgiegaaDoor
