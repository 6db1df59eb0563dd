/-
  An argument opened: a slice of numbers; an array of three numbers; a byte.
-/
import Derived.Test.YtgdkdihedgiegaaDoorArgs
namespace Go.Proofs.YtgdkdihedgiegaaDoor
open Go.ChangeShapes Go.WideShapes Go.ChangeAt Go.RowKit Go.Deep

set_option maxRecDepth 100000
section
variable {H : Type} {enc : TypeId × Value → H} {W W' : World} {v : Value} {d : DataW H} {ps : List MemPlace}
theorem byte_in {n : Int} (h : (Lit.int .u8 n).wf = true) : 0 ≤ n ∧ n < 256 := by
  simp only [Lit.wf, IntKind.min, IntKind.max, IntKind.signed, IntKind.bits] at h
  simp at h
  omega
theorem open_nums {base : Nat} (hval : Value.okWide Tryd.prog W .any base 59 v) (h : DataW.Trod enc Tryd.prog W 0 (fun _ => true) true 59 v d ps) : ∃ (l : List Int) (a : Option Addr) (cap : Nat), v = .slice a l.length cap ∧ SliceAt 0 W.heap.size W (.slice a l.length cap) l.length (l.map (Value.int .i64)) ∧ l.length ≤ cap := by
  obtain ⟨a, len, cap, rfl⟩ := okWide_slice Tryd.underlying59 hval
  obtain ⟨fuel, hf⟩ := h
  rcases open_slice1 Tryd.underlying59 cells3 hf with ⟨hc, _⟩ | ⟨a', len', cap', m, n, V, D, Pl, hc, _, hlc, hcm, hm, hd, hall⟩
  · simp [Value.cells] at hc
    obtain ⟨rfl, rfl, rfl⟩ := hc
    exact ⟨[], none, 0, rfl, ⟨none, 0, rfl, fun h => absurd rfl h⟩, Nat.le_refl _⟩
  · simp [Value.cells] at hc
    obtain ⟨rfl, rfl, rfl⟩ := hc
    simp at hm
    subst hm
    have key : ∀ i, i < len → ∃ z : Int, V i = .int .i64 z := fun i hi => by
      obtain ⟨z, hz, _, _⟩ := DataW.trod_int Tryd.underlying3 (hall i (by omega)).2
      exact ⟨z, by simpa using hz⟩
    obtain ⟨Z, hZ⟩ := choose_lt key
    refine ⟨(List.range len).map Z, some a', m, by simp, ⟨some a', m, by simp, fun h0 => ?_⟩, by simp; exact hlc⟩
    have h0 : 0 < len := by
      rcases Nat.eq_zero_or_pos len with rfl | h; exact absurd rfl h0; exact h
    obtain ⟨b, off, spot⟩ := a'
    have h1 := (hall 0 (by omega)).1
    have hsp : spot = none := by
      refine cell_spot (w := W) (b := b) (o := off) (v := V 0) ?_
      simpa [Addr.add] using h1
    subst hsp
    refine ⟨b, off, rfl, Nat.zero_le _, cell_lt (p := ⟨b, off, none⟩) (by simpa [Addr.add] using h1), fun j x hx => ?_⟩
    simp only [List.map_map, List.getElem?_map, Option.map_eq_some_iff] at hx
    obtain ⟨j', hj, rfl⟩ := hx
    obtain ⟨hj1, hj2⟩ := List.getElem?_eq_some_iff.1 hj
    simp at hj1 hj2
    subst hj2
    have := (hall j (by omega)).1
    rw [add_at', hZ j hj1] at this
    exact this
end
end Go.Proofs.YtgdkdihedgiegaaDoor
