/-
  The walk of VaultOpens.
-/
import Derived.Test.YtgdkdihedgiegaaDoorO6
namespace Go.Proofs.YtgdkdihedgiegaaDoor
open Go.RowKit

set_option maxHeartbeats 1000000 in
set_option maxRecDepth 100000 in
theorem opens_6 (c : Bs) (w : World) : Calls Tryd.prog 6 #[S c] w fun e w' => e = .returned (.bool true) ∧ Below w.heap.size w w' := by
  obtain ⟨q, hq⟩ : ∃ q, q = min c.length 400 := ⟨_, rfl⟩
  have hmn : min (c.length : Int) 400 = (q : Int) := by omega
  have hq1 : q ≤ c.length := by omega
  have HO := Lib.hid (fun W => opens_24 (c.take q) (by rw [List.length_take]; omega) W)
  clear hq
  go_enter Tryd.func6, Tryd.ntmps6
  go_wp2_with fail
  ((with_reducible refine Calls.mono (sanity_11 w) ?_); rintro e w1 ⟨rfl, hb1⟩)
  have HB1 := Lib.hid hb1
  clear hb1
  go_wp2_with fail
  ((with_reducible refine Calls.mono (HO.out w1) ?_); rintro e w2 ⟨rfl, hb2⟩)
  have HB2 := Lib.hid (btr HB1.out hb2 HB1.out.size)
  clear hb2
  go_wp2_with fail
  go_ret
  exact ⟨rfl, HB2.out⟩
end Go.Proofs.YtgdkdihedgiegaaDoor
