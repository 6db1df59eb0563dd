/-
  The laws' arguments, opened: acts, slices of acts, slices of numbers; and an argument read again behind the call.
-/
import Derived.Test.YtgdkdihedgiegaaDoorV17
import Derived.Test.YtgdkdihedgiegaaDoorTabs
import Derived.Carry
import Derived.SizedLaws
import Derived.Deep.Slices
import Derived.Deep.Strs
namespace Go.Proofs.YtgdkdihedgiegaaDoor
open Go.ChangeShapes Go.WideShapes Go.ChangeAt Go.RowKit Go.Deep

set_option maxRecDepth 100000
theorem laidOut : laidOutB Tryd.prog = true := by kernel_rfl
/-- An act: its kind, its text, its tail. -/
abbrev ActL := Int × Bs × List Bs
/-- An act in three cells from an address on. -/
def ActCells (w : World) (b o : Nat) (x : ActL) : Prop :=
  w.cell? ⟨b, o, none⟩ = some (.int .i64 x.1) ∧ w.cell? ⟨b, o + 1, none⟩ = some (S x.2.1) ∧ ∃ tv, w.cell? ⟨b, o + 2, none⟩ = some tv ∧ TailAt w tv x.2.2
/-- A slice of acts in memory. -/
def ActsAt (w : World) (v : Value) (l : List ActL) : Prop :=
  ∃ a cap, v = .slice a l.length cap ∧ (l ≠ [] → ∃ b off, a = some ⟨b, off, none⟩ ∧ ∀ k x, l[k]? = some x → ActCells w b (off + k * 3) x)
theorem ActCells.below {w w' : World} {b o : Nat} {x : ActL} (h : ActCells w b o x) (hb : Below w.heap.size w w') : ActCells w' b o x := by
  obtain ⟨h1, h2, tv, h3, h4⟩ := h
  exact ⟨bext hb _ _ h1, bext hb _ _ h2, tv, bext hb _ _ h3, h4.below hb⟩
theorem ActsAt.below {w w' : World} {v : Value} {l : List ActL} (h : ActsAt w v l) (hb : Below w.heap.size w w') : ActsAt w' v l := by
  obtain ⟨a, cap, rfl, h⟩ := h
  refine ⟨a, cap, rfl, fun hl => ?_⟩
  obtain ⟨b, off, rfl, h2⟩ := h hl
  exact ⟨b, off, rfl, fun k x hx => (h2 k x hx).below hb⟩
section
variable {H : Type} {enc : TypeId × Value → H} {W W' : World} {v : Value} {d : DataW H} {ps : List MemPlace}
/-- An argument reads behind the call as before it. -/
theorem again {t : TypeId} (hr : Tryd.prog.readableRec t = true) (hrow : t < Tryd.prog.types.size) (h : DataW.Trod enc Tryd.prog W 0 (fun _ => true) true t v d ps) (hb : Below W.heap.size W W') (hlt : ∀ x ∈ ps, x.block < W.heap.size)
    {sp : Nat → Bool} (hs : ∀ p ∈ ps, sp p.block = true) : DataW.Trod enc Tryd.prog W' 0 sp true t v d ps :=
  WideElems.Trod_stays laidOut hr hrow h (fun x hx => hb.same (hlt x hx)) hs
theorem cells3 : Tryd.prog.cellsOf 3 = 1 := by kernel_rfl
theorem cells9 : Tryd.prog.cellsOf 9 = 1 := by kernel_rfl
theorem cells34 : Tryd.prog.cellsOf 34 = 3 := by kernel_rfl
theorem cells27 : Tryd.prog.cellsOf 27 = 1 := by kernel_rfl
theorem add_at' (b o j : Nat) : (⟨b, o, none⟩ : Addr).add j = ⟨b, o + j, none⟩ := by unfold Addr.add; split <;> simp_all
theorem S_of (s : ByteArray) : Value.string s = S s.data.toList := rfl
/-- Cells that read as a slice of strings. -/
theorem tail_of_trod {base : Nat} {sp : Nat → Bool} {held : Bool} {fuel : Nat} {cs : List Value} {x : DataW H × List MemPlace} (h : DataW.trod enc Tryd.prog W base sp held fuel 27 cs = some x) : ∃ (v : Value) (tl : List Bs), cs = [v] ∧ TailAt W v tl := by
  rcases open_strs Tryd.underlying27 Tryd.underlying9 cells9 h with ⟨hc, _⟩ | ⟨a, len, cap, m, Sx, hc, _, _, _, hm, _, hall⟩
  · exact ⟨_, [], hc, ⟨none, 0, rfl, fun h => absurd rfl h⟩⟩
  · have hml : len ≤ m := by rw [hm]; split <;> omega
    refine ⟨_, (List.range len).map fun i => (Sx i).data.toList, hc, ⟨some a, cap, by simp, fun h0 => ?_⟩⟩
    have h0 : 0 < len := by
      rcases Nat.eq_zero_or_pos len with rfl | h; exact absurd rfl h0; exact h
    obtain ⟨b, off, spot⟩ := a
    have h1 := (hall 0 (by omega)).1
    have hsp : spot = none := by
      refine cell_spot (w := W) (b := b) (o := off) (v := .string (Sx 0)) ?_
      simpa [Addr.add] using h1
    subst hsp
    refine ⟨b, off, rfl, Nat.zero_le _, cell_lt (p := ⟨b, off, none⟩) (by simpa [Addr.add] using h1), fun j x hx => ?_⟩
    simp only [List.map_map, List.getElem?_map, Option.map_eq_some_iff] at hx
    obtain ⟨j', hj, rfl⟩ := hx
    obtain ⟨hj1, hj2⟩ := List.getElem?_eq_some_iff.1 hj
    simp at hj1 hj2
    subst hj2
    have := (hall j (by omega)).1
    rw [add_at'] at this
    exact this
/-- Cells that read as an act. -/
theorem act_of_trod {base : Nat} {sp : Nat → Bool} {held : Bool} {fuel : Nat} {cs : List Value} {x : DataW H × List MemPlace} (h : DataW.trod enc Tryd.prog W base sp held fuel 34 cs = some x) :
    ∃ (k : Int) (text : Bs) (tv : Value) (tl : List Bs), cs = [.int .i64 k, S text, tv] ∧ TailAt W tv tl := by
  obtain ⟨y0, y1, y2, n, _, hl, h0, h1, h2⟩ := trod_struct3 Tryd.underlying34 h
  rw [cells34] at hl
  match cs, hl with
  | [c0, c1, c2], _ =>
    simp only [cells3, cells9, cells27, List.drop_succ_cons, List.drop_zero, List.take_succ_cons, List.take_zero] at h0 h1 h2
    obtain ⟨k, hk, _, _⟩ := DataW.trod_int Tryd.underlying3 h0
    obtain ⟨s, hs, _, _⟩ := DataW.trod_string Tryd.underlying9 h1
    obtain ⟨tv, tl, ht, htl⟩ := tail_of_trod h2
    simp at hk hs ht
    subst hk hs ht
    exact ⟨k, s.data.toList, c2, tl, rfl, htl⟩
theorem open_acts {base : Nat} (hval : Value.okWide Tryd.prog W .any base 22 v) (h : DataW.Trod enc Tryd.prog W 0 (fun _ => true) true 22 v d ps) : ∃ l, ActsAt W v l := by
  obtain ⟨a, len, cap, rfl⟩ := okWide_slice Tryd.underlying22 hval
  obtain ⟨fuel, hf⟩ := h
  rcases open_slice Tryd.underlying22 hf with ⟨hc, _⟩ | ⟨a', len', cap', m, n, D, Pl, hc, _, hlc, hcm, hm, hd, hall⟩
  · simp [Value.cells] at hc
    obtain ⟨rfl, rfl, rfl⟩ := hc
    exact ⟨[], none, 0, rfl, fun h => absurd rfl h⟩
  · simp [Value.cells] at hc
    obtain ⟨rfl, rfl, rfl⟩ := hc
    simp at hm
    subst hm
    rw [cells34] at hall
    have key : ∀ i, i < len → ∃ x : ActL, ∀ b off, a' = ⟨b, off, none⟩ → ActCells W b (off + i * 3) x := by
      intro i hi
      obtain ⟨cs', h1, h2⟩ := hall i (by omega)
      obtain ⟨k, text, tv, tl, rfl, htl⟩ := act_of_trod h2
      obtain ⟨_, _, h3⟩ := World.cells?_some h1
      refine ⟨(k, text, tl), fun b off hb => ?_⟩
      subst hb
      have e : ∀ j, ((⟨b, off, none⟩ : Addr).add (i * 3)).add j = ⟨b, off + i * 3 + j, none⟩ := fun j => by rw [add_at', add_at']
      refine ⟨?_, ?_, tv, ?_, htl⟩
      · have := h3 0 (by omega); rw [e] at this; exact this
      · have := h3 1 (by omega); rw [e] at this; exact this
      · have := h3 2 (by omega); rw [e] at this; exact this
    obtain ⟨X, hX⟩ := choose_lt key
    refine ⟨(List.range len).map X, some a', m, by simp, fun h0 => ?_⟩
    have h0 : 0 < len := by
      rcases Nat.eq_zero_or_pos len with rfl | h; exact absurd rfl h0; exact h
    obtain ⟨b, off, spot⟩ := a'
    have hsp : spot = none := by
      obtain ⟨cs', h1, h2⟩ := hall 0 (by omega)
      obtain ⟨k, text, tv, tl, rfl, htl⟩ := act_of_trod h2
      obtain ⟨_, _, h3⟩ := World.cells?_some h1
      have := h3 0 (by omega)
      refine cell_spot (w := W) (b := b) (o := off) (v := .int .i64 k) ?_
      simpa [Addr.add] using this
    subst hsp
    refine ⟨b, off, rfl, fun k x hx => ?_⟩
    simp only [List.getElem?_map, Option.map_eq_some_iff] at hx
    obtain ⟨j', hj, rfl⟩ := hx
    obtain ⟨hj1, hj2⟩ := List.getElem?_eq_some_iff.1 hj
    simp at hj1 hj2
    subst hj2
    exact hX k hj1 b off rfl
theorem okWide_struct3 {base : Nat} (h : Value.okWide Tryd.prog W .any base 34 v) : ∃ cs, v = .agg cs := by
  simp only [Value.okWide, Tryd.underlying34] at h
  obtain ⟨cs, h1, _⟩ := h
  exact ⟨cs, h1⟩
theorem open_act {base : Nat} (hval : Value.okWide Tryd.prog W .any base 34 v) (h : DataW.Trod enc Tryd.prog W 0 (fun _ => true) true 34 v d ps) : ∃ (k : Int) (text : Bs) (tv : Value) (tl : List Bs), v = .agg #[.int .i64 k, S text, tv] ∧ TailAt W tv tl := by
  obtain ⟨cs, rfl⟩ := okWide_struct3 hval
  obtain ⟨fuel, hf⟩ := h
  obtain ⟨k, text, tv, tl, hc, ht⟩ := act_of_trod hf
  refine ⟨k, text, tv, tl, ?_, ht⟩
  obtain ⟨l⟩ := cs
  simp only [Value.cells] at hc
  rw [hc]
end
end Go.Proofs.YtgdkdihedgiegaaDoor
