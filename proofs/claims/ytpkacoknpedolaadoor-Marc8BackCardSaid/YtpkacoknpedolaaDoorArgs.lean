/-
  The laws' arguments, opened: slices of bytes, slices of numbers; and an argument read again behind the call.
-/
import Derived.Test.YtpkacoknpedolaaDoorTabs
import Derived.Carry
import Derived.SizedLaws
import Derived.Deep.Slices
import Derived.Deep.DeepWitnessRowRef
namespace Go.Proofs.YtpkacoknpedolaaDoor
open Go.ChangeShapes Go.WideShapes Go.ChangeAt Go.RowKit Go.Deep

set_option maxRecDepth 100000
theorem laidOut : laidOutB Tryd.prog = true := by kernel_rfl
/-- A slice of n bytes that came in. -/
def BytesIn (w : World) (v : Value) (n : Nat) : Prop := ∃ a cap, v = .slice a n cap ∧ (n ≠ 0 → ∃ b off, a = some ⟨b, off, none⟩ ∧ b < w.heap.size ∧ ∀ j, j < n → ∃ x : Nat, x < 256 ∧ w.cell? ⟨b, off + j, none⟩ = some (.int .u8 x))
/-- A slice of n numbers that came in. -/
def NumsIn (w : World) (v : Value) (n : Nat) : Prop := ∃ a cap, v = .slice a n cap ∧ (n ≠ 0 → ∃ b off, a = some ⟨b, off, none⟩ ∧ b < w.heap.size ∧ ∀ j, j < n → ∃ z : Int, (Lit.int .i64 z).wf = true ∧ w.cell? ⟨b, off + j, none⟩ = some (.int .i64 z))
theorem BytesIn.below {w w' : World} {v : Value} {n : Nat} (h : BytesIn w v n) (hb : Below w.heap.size w w') : BytesIn w' v n := by
  obtain ⟨a, cap, hv, h⟩ := h
  refine ⟨a, cap, hv, fun h0 => ?_⟩
  obtain ⟨b, off, ha, hz, hc⟩ := h h0
  refine ⟨b, off, ha, Nat.lt_of_lt_of_le hz hb.size, fun j hj => ?_⟩
  obtain ⟨x, hx, hxc⟩ := hc j hj
  exact ⟨x, hx, bext hb _ _ hxc⟩
theorem NumsIn.below {w w' : World} {v : Value} {n : Nat} (h : NumsIn w v n) (hb : Below w.heap.size w w') : NumsIn w' v n := by
  obtain ⟨a, cap, hv, h⟩ := h
  refine ⟨a, cap, hv, fun h0 => ?_⟩
  obtain ⟨b, off, ha, hz, hc⟩ := h h0
  refine ⟨b, off, ha, Nat.lt_of_lt_of_le hz hb.size, fun j hj => ?_⟩
  obtain ⟨x, hx, hxc⟩ := hc j hj
  exact ⟨x, hx, bext hb _ _ hxc⟩
section
variable {H : Type} {enc : TypeId × Value → H} {W W' : World} {v : Value} {d : DataW H} {ps : List MemPlace}
/-- An argument reads behind the call as before it. -/
theorem again {t : TypeId} (hr : Tryd.prog.readableRec t = true) (hrow : t < Tryd.prog.types.size) (h : DataW.Trod enc Tryd.prog W 0 (fun _ => true) true t v d ps) (hb : Below W.heap.size W W') (hlt : ∀ x ∈ ps, x.block < W.heap.size)
    {sp : Nat → Bool} (hs : ∀ p ∈ ps, sp p.block = true) : DataW.Trod enc Tryd.prog W' 0 sp true t v d ps :=
  WideElems.Trod_stays laidOut hr hrow h (fun x hx => hb.same (hlt x hx)) hs
theorem cells3 : Tryd.prog.cellsOf 3 = 1 := by kernel_rfl
theorem cells5' : Tryd.prog.cellsOf 5 = 1 := by kernel_rfl
theorem open_ints_at {base : Nat} {t e : TypeId} {k : IntKind} (ht : Tryd.prog.underlying t = some (.slice e)) (he : Tryd.prog.underlying e = some (.int k)) (hc1 : Tryd.prog.cellsOf e = 1) (hval : Value.okWide Tryd.prog W .any base t v) (h : DataW.Trod enc Tryd.prog W 0 (fun _ => true) true t v d ps) :
    ∃ n a cap, v = .slice a n cap ∧ n ≤ maxLen ∧ (n ≠ 0 → ∃ b off, a = some ⟨b, off, none⟩ ∧ b < W.heap.size ∧ ∀ j, j < n → ∃ z : Int, (Lit.int k z).wf = true ∧ W.cell? ⟨b, off + j, none⟩ = some (.int k z)) := by
  obtain ⟨a, len, cap, rfl⟩ := okWide_slice ht hval
  obtain ⟨fuel, hf⟩ := h
  rcases open_slice1 ht hc1 hf with ⟨hc, _⟩ | ⟨a', len', cap', m, n, V, D, Pl, hc, _, hlc, hcm, hm, hd, hall⟩
  · simp [Value.cells] at hc
    obtain ⟨rfl, rfl, rfl⟩ := hc
    exact ⟨0, none, 0, rfl, by unfold maxLen; omega, fun h => absurd rfl h⟩
  · simp [Value.cells] at hc
    obtain ⟨rfl, rfl, rfl⟩ := hc
    simp at hm
    subst hm
    refine ⟨len, some a', _, rfl, by omega, fun h0 => ?_⟩
    obtain ⟨b, off, sp⟩ := a'
    have h1 := (hall 0 (by omega)).1
    have hsp : sp = none := by
      refine cell_spot (w := W) (b := b) (o := off) (v := V 0) ?_
      simpa [Addr.add] using h1
    subst hsp
    refine ⟨b, off, rfl, cell_lt (p := ⟨b, off, none⟩) (by simpa [Addr.add] using h1), fun j hj => ?_⟩
    obtain ⟨h2, h3⟩ := hall j (by omega)
    obtain ⟨z, hz, _, hw⟩ := DataW.trod_int he h3
    have he2 : (⟨b, off, none⟩ : Addr).add j = ⟨b, off + j, none⟩ := by unfold Addr.add; split <;> simp_all
    rw [he2] at h2
    refine ⟨z, hw, ?_⟩
    rw [h2]
    have : V j = .int k z := by simpa using hz
    rw [this]
theorem open_bytes {base : Nat} (hval : Value.okWide Tryd.prog W .any base 23 v) (h : DataW.Trod enc Tryd.prog W 0 (fun _ => true) true 23 v d ps) : ∃ n, BytesIn W v n ∧ n ≤ maxLen := by
  obtain ⟨n, a, cap, hv, hn, hc⟩ := open_ints_at Tryd.underlying23 Tryd.underlying5 cells5' hval h
  refine ⟨n, ⟨a, cap, hv, fun h0 => ?_⟩, hn⟩
  obtain ⟨b, off, ha, hz, hcc⟩ := hc h0
  refine ⟨b, off, ha, hz, fun j hj => ?_⟩
  obtain ⟨z, hw, hzc⟩ := hcc j hj
  simp only [Lit.wf, IntKind.min, IntKind.max, IntKind.signed, IntKind.bits] at hw
  simp at hw
  exact ⟨z.toNat, by omega, by rw [hzc, Int.toNat_of_nonneg (by omega)]⟩
theorem open_nums {base : Nat} (hval : Value.okWide Tryd.prog W .any base 31 v) (h : DataW.Trod enc Tryd.prog W 0 (fun _ => true) true 31 v d ps) : ∃ n, NumsIn W v n ∧ n ≤ maxLen := by
  obtain ⟨n, a, cap, hv, hn, hc⟩ := open_ints_at Tryd.underlying31 Tryd.underlying3 cells3 hval h
  exact ⟨n, ⟨a, cap, hv, hc⟩, hn⟩
end
end Go.Proofs.YtpkacoknpedolaaDoor
