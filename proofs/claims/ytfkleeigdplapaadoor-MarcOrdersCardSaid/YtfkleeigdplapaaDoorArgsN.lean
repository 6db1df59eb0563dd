/-
  An argument opened: a slice of numbers.
-/
import Derived.Test.YtfkleeigdplapaaDoorArgs
import Derived.Test.YtfkleeigdplapaaDoorL2
namespace Go.Proofs.YtfkleeigdplapaaDoor
open Go.ChangeShapes Go.WideShapes Go.ChangeAt Go.RowKit Go.Deep

set_option maxRecDepth 100000
section
variable {H : Type} {enc : TypeId × Value → H} {W W' : World} {v : Value} {d : DataW H} {ps : List MemPlace}
theorem open_nums {base : Nat} (hval : Value.okWide Tryd.prog W .any base 48 v) (h : DataW.Trod enc Tryd.prog W 0 (fun _ => true) true 48 v d ps) : ∃ n, NumsAt W v n ∧ n ≤ maxLen := by
  obtain ⟨a, len, cap, rfl⟩ := okWide_slice Tryd.underlying48 hval
  obtain ⟨fuel, hf⟩ := h
  rcases open_slice1 Tryd.underlying48 cells3 hf with ⟨hc, _⟩ | ⟨a', len', cap', m, n, V, D, Pl, hc, _, hlc, hcm, hm, hd, hall⟩
  · simp [Value.cells] at hc
    obtain ⟨rfl, rfl, rfl⟩ := hc
    exact ⟨0, ⟨none, 0, rfl, fun h => absurd h (by omega)⟩, by unfold maxLen; omega⟩
  · simp [Value.cells] at hc
    obtain ⟨rfl, rfl, rfl⟩ := hc
    simp at hm
    subst hm
    refine ⟨len, ⟨some a', _, rfl, fun h0 => ?_⟩, by omega⟩
    obtain ⟨b, off, sp⟩ := a'
    have h1 := (hall 0 (by omega)).1
    have hsp : sp = none := by
      refine cell_spot (w := W) (b := b) (o := off) (v := V 0) ?_
      simpa [Addr.add] using h1
    subst hsp
    refine ⟨b, off, rfl, cell_lt (p := ⟨b, off, none⟩) (by simpa [Addr.add] using h1), fun j hj => ?_⟩
    obtain ⟨h2, h3⟩ := hall j (by omega)
    obtain ⟨z, hz⟩ := one_int Tryd.underlying3 h3
    have he : (⟨b, off, none⟩ : Addr).add j = ⟨b, off + j, none⟩ := by unfold Addr.add; split <;> simp_all
    rw [he] at h2
    refine ⟨z, ?_⟩
    rw [h2]
    have : V j = .int .i64 z := by simpa using hz
    rw [this]
end
end Go.Proofs.YtfkleeigdplapaaDoor
