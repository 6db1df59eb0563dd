/-
  The walk of the reference's After, for a Replace.
-/
import Derived.Test.YtgdkdihedgiegaaDoorV19
namespace Go.Proofs.YtgdkdihedgiegaaDoor
open Go.RowKit

theorem results_cell {fn : Func} {p : Tmp} {ty : TypeId} (h : fn.results = #[.cell p ty]) (tmps : Array Value) (P : Program) (w : World) :
    (results fn tmps).run P w = ((asAddr (tmps.getD p undef)).run P w).andThen fun a w₁ => (loadVar ty a).run P w₁ := by
  simp only [results, h]
  simp [Sem.run_bind]
set_option maxHeartbeats 1000000 in
set_option maxRecDepth 100000 in
theorem after_rep (w : World) (sn : Bs) (a1 : Option Addr) (n1 c1 : Nat) (k : Nat) (h1 : 2 < k) (h2 : k ≤ 4) (text : Bs) (a2 : Option Addr) (n2 c2 : Nat) :
    Calls Tryd.prog 17 #[.agg #[S sn, .slice a1 n1 c1], .agg #[.int .i64 k, S text, .slice a2 n2 c2]] w fun e w' => e = .returned (.agg #[S text, .slice a2 n2 c2]) ∧ Below w.heap.size w w' := by
  go_enter Tryd.func17, Tryd.ntmps17
  go_wp2_with fail
  try simp only [Exit.inBlock, Exit.then]
  refine bodyPost_ret (v := .agg #[S text, .slice a2 n2 c2]) (by rw [results_cell rfl]; go_simp) rfl ?_
  refine ⟨rfl, ?_⟩
  have ha := alloc_below w (.cells #[S sn, .slice a1 n1 c1] 32)
  have hb := btr ha (alloc_below _ (.cells #[.int .i64 k, S text, .slice a2 n2 c2] 34)) ha.size
  exact btr hb (alloc_below _ _) hb.size
end Go.Proofs.YtgdkdihedgiegaaDoor
