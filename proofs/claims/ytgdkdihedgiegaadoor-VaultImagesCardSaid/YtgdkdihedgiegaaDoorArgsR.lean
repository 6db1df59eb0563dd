/-
  An argument opened: an array of three numbers.
-/
import Derived.Test.YtgdkdihedgiegaaDoorArgsN
import Derived.Laws.IdiomArrays
namespace Go.Proofs.YtgdkdihedgiegaaDoor
open Go.ChangeShapes Go.WideShapes Go.ChangeAt Go.RowKit Go.Deep

set_option maxRecDepth 100000
section
variable {H : Type} {enc : TypeId × Value → H} {W W' : World} {v : Value} {d : DataW H} {ps : List MemPlace}
theorem under50 : Tryd.prog.underlying 50 = some (.array 3 3) := by kernel_rfl
theorem open_triple {base : Nat} (hval : Value.okWide Tryd.prog W .any base 50 v) (h : DataW.Trod enc Tryd.prog W 0 (fun _ => true) true 50 v d ps) : ∃ a b c : Int, v = .agg #[.int .i64 a, .int .i64 b, .int .i64 c] := by
  obtain ⟨cs, rfl⟩ : ∃ cs, v = .agg cs := by
    simp only [Value.okWide, under50] at hval
    obtain ⟨cs, h1, _⟩ := hval
    exact ⟨cs, h1⟩
  obtain ⟨fuel, hf⟩ := h
  obtain ⟨l⟩ := cs
  have h3 : l.length = 3 := by
    obtain ⟨_, _, _, _, hl, _⟩ := DataW.trod_array under50 hf
    rw [show Tryd.prog.cellsOf 50 = 3 by kernel_rfl] at hl
    simpa [Value.cells] using hl
  obtain ⟨c0, c1, c2, rfl⟩ : ∃ c0 c1 c2, l = [c0, c1, c2] := by
    rcases l with _ | ⟨c0, _ | ⟨c1, _ | ⟨c2, _ | ⟨c3, l⟩⟩⟩⟩ <;> simp at h3
    exact ⟨_, _, _, rfl⟩
  obtain ⟨_, _, _, _, _, h0, h1, h2⟩ := trod_array3 under50 cells3 hf
  obtain ⟨z0, e0, _, _⟩ := DataW.trod_int Tryd.underlying3 h0
  obtain ⟨z1, e1, _, _⟩ := DataW.trod_int Tryd.underlying3 h1
  obtain ⟨z2, e2, _, _⟩ := DataW.trod_int Tryd.underlying3 h2
  injection e0 with e0
  injection e1 with e1
  injection e2 with e2
  exact ⟨z0, z1, z2, by rw [e0, e1, e2]⟩
end
end Go.Proofs.YtgdkdihedgiegaaDoor
