/-
  An argument opened: a slice of slices of triples.
-/
import Derived.Test.YtfkleeigdplapaaDoorArgs
import Derived.Test.YtfkleeigdplapaaDoorS2
namespace Go.Proofs.YtfkleeigdplapaaDoor
open Go.ChangeShapes Go.WideShapes Go.ChangeAt Go.RowKit Go.Deep

set_option maxRecDepth 100000
section
variable {H : Type} {enc : TypeId × Value → H} {W W' : World} {v : Value} {d : DataW H} {ps : List MemPlace}
/-- Cells that read as a slice of triples. -/
theorem triples_of_trod {base : Nat} {sp : Nat → Bool} {held : Bool} {fuel : Nat} {cs : List Value} {x : DataW H × List MemPlace} (h : DataW.trod enc Tryd.prog W base sp held fuel 22 cs = some x) : ∃ (v : Value) (n : Nat), cs = [v] ∧ IntsAt W v n ∧ n ≤ maxLen := by
  rcases open_slice Tryd.underlying22 h with ⟨hc, _⟩ | ⟨a', len, cap, m, n, D, Pl, hc, _, hlc, hcm, hm, hd, hall⟩
  · exact ⟨_, 0, hc, ⟨none, 0, rfl, fun h => absurd h (by omega)⟩, by unfold maxLen; omega⟩
  · have hml : len ≤ m := by rw [hm]; split <;> omega
    refine ⟨_, len, hc, ⟨some a', _, rfl, fun h0 => ?_⟩, by omega⟩
    have hcell : ∀ i, i < len → ∀ j, j < 3 → ∃ z : Int, W.cell? ((a'.add (i * 3)).add j) = some (.int .i64 z) := by
      intro i hi j hj
      obtain ⟨cs', h1, h2⟩ := hall i (by omega)
      rw [cells23] at h1
      obtain ⟨_, _, h3⟩ := World.cells?_some h1
      obtain ⟨_, h4⟩ := ints_of_array Tryd.underlying23 cells23 h2
      obtain ⟨z, hz⟩ := h4 j hj
      exact ⟨z, (h3 j hj).trans hz⟩
    obtain ⟨b, off, sp⟩ := a'
    obtain ⟨z0, hz0⟩ := hcell 0 h0 0 (by omega)
    have hsp : sp = none := by
      refine cell_spot (w := W) (b := b) (o := off) (v := .int .i64 z0) ?_
      simpa [Addr.add] using hz0
    subst hsp
    refine ⟨b, off, rfl, cell_lt (p := ⟨b, off, none⟩) (by simpa [Addr.add] using hz0), fun j hj => ?_⟩
    obtain ⟨z, hz⟩ := hcell (j / 3) (by omega) (j % 3) (by omega)
    refine ⟨z, ?_⟩
    have he : ((⟨b, off, none⟩ : Addr).add (j / 3 * 3)).add (j % 3) = ⟨b, off + j, none⟩ := by
      rw [Go.Deep.add_add, show j / 3 * 3 + j % 3 = j from by omega]
      unfold Addr.add
      split <;> simp_all
    rw [he] at hz
    exact hz
theorem add_at' (b o j : Nat) : (⟨b, o, none⟩ : Addr).add j = ⟨b, o + j, none⟩ := by unfold Addr.add; split <;> simp_all
theorem cells22 : Tryd.prog.cellsOf 22 = 1 := by kernel_rfl
theorem open_lots {base : Nat} (hval : Value.okWide Tryd.prog W .any base 63 v) (h : DataW.Trod enc Tryd.prog W 0 (fun _ => true) true 63 v d ps) : ∃ n, LotsAt W v n ∧ n ≤ maxLen := by
  obtain ⟨a, len, cap, rfl⟩ := okWide_slice Tryd.underlying63 hval
  obtain ⟨fuel, hf⟩ := h
  rcases open_slice1 Tryd.underlying63 cells22 hf with ⟨hc, _⟩ | ⟨a', len', cap', m, n, V, D, Pl, hc, _, hlc, hcm, hm, hd, hall⟩
  · simp [Value.cells] at hc
    obtain ⟨rfl, rfl, rfl⟩ := hc
    exact ⟨0, ⟨none, 0, rfl, fun h => absurd h (by omega)⟩, by unfold maxLen; omega⟩
  · simp [Value.cells] at hc
    obtain ⟨rfl, rfl, rfl⟩ := hc
    simp at hm
    subst hm
    refine ⟨len, ⟨some a', _, rfl, fun h0 => ?_⟩, by omega⟩
    obtain ⟨b, off, sp⟩ := a'
    have h1 := (hall 0 (by omega)).1
    have hsp : sp = none := by
      refine cell_spot (w := W) (b := b) (o := off) (v := V 0) ?_
      simpa [Addr.add] using h1
    subst hsp
    refine ⟨b, off, rfl, cell_lt (p := ⟨b, off, none⟩) (by simpa [Addr.add] using h1), fun j hj => ?_⟩
    obtain ⟨h2, h3⟩ := hall j (by omega)
    obtain ⟨u, k, hu, hk, hkl⟩ := triples_of_trod h3
    have he : (⟨b, off, none⟩ : Addr).add j = ⟨b, off + j, none⟩ := add_at' b off j
    rw [he] at h2
    refine ⟨V j, k, h2, ?_, hkl⟩
    have : V j = u := by simpa using hu
    rw [this]; exact hk
/-- What the form's reach says of a string. -/
theorem string_reach {ts : List TypeId} {ds : List (DataW H)} {t : TypeId} {i : Nat} {l : List UInt8} (hsz : (DataW.weightsEach Tryd.prog ts ds).all (· ≤ reachBytes) = true) (ht : ts[i]? = some t) (hd : ds[i]? = some (.lit (.string l))) :
    l.length ≤ 140737488355328 := by
  have := sized_string hsz ht hd
  unfold reachBytes at this
  omega
end
end Go.Proofs.YtfkleeigdplapaaDoor
