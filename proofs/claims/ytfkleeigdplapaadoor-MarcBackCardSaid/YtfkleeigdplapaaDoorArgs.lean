/-
  The laws' arguments, opened: slices of triples, arrays of numbers; and an argument read again behind the call.
-/
import Derived.Test.YtfkleeigdplapaaDoorM2
import Derived.Test.YtfkleeigdplapaaDoorTabs
import Derived.Carry
import Derived.SizedLaws
import Derived.Deep.Slices
namespace Go.Proofs.YtfkleeigdplapaaDoor
open Go.ChangeShapes Go.WideShapes Go.ChangeAt Go.RowKit Go.Deep

set_option maxRecDepth 100000
theorem laidOut : laidOutB Tryd.prog = true := by kernel_rfl
section
variable {H : Type} {enc : TypeId × Value → H} {W W' : World} {v : Value} {d : DataW H} {ps : List MemPlace}
/-- An argument reads behind the call as before it. -/
theorem again {t : TypeId} (hr : Tryd.prog.readableRec t = true) (hrow : t < Tryd.prog.types.size) (h : DataW.Trod enc Tryd.prog W 0 (fun _ => true) true t v d ps) (hb : Below W.heap.size W W') (hlt : ∀ x ∈ ps, x.block < W.heap.size)
    {sp : Nat → Bool} (hs : ∀ p ∈ ps, sp p.block = true) : DataW.Trod enc Tryd.prog W' 0 sp true t v d ps :=
  WideElems.Trod_stays laidOut hr hrow h (fun x hx => hb.same (hlt x hx)) hs
/-- A cell that reads as a number. -/
theorem one_int {base : Nat} {sp : Nat → Bool} {held : Bool} {fuel : Nat} {t : TypeId} {k : IntKind} {cs : List Value} {x : DataW H × List MemPlace} (ht : Tryd.prog.underlying t = some (.int k)) (h : DataW.trod enc Tryd.prog W base sp held fuel t cs = some x) :
    ∃ z : Int, cs = [.int k z] := by
  obtain ⟨n, rfl, _, _⟩ := DataW.trod_int ht h
  exact ⟨n, rfl⟩
theorem cells3 : Tryd.prog.cellsOf 3 = 1 := by kernel_rfl
theorem cells23 : Tryd.prog.cellsOf 23 = 3 := by kernel_rfl
theorem cells38 : Tryd.prog.cellsOf 38 = 2 := by kernel_rfl
theorem cells39 : Tryd.prog.cellsOf 39 = 4 := by kernel_rfl
/-- An array of n numbers: its cells. -/
theorem ints_of_array {base : Nat} {sp : Nat → Bool} {held : Bool} {fuel n : Nat} {t : TypeId} {cs : List Value} {x : DataW H × List MemPlace} (ht : Tryd.prog.underlying t = some (.array n 3)) (hc : Tryd.prog.cellsOf t = n)
    (h : DataW.trod enc Tryd.prog W base sp held fuel t cs = some x) : cs.length = n ∧ ∀ j, j < n → ∃ z : Int, cs[j]? = some (.int .i64 z) := by
  obtain ⟨xs, m, rfl, _, hl, hxl, hall⟩ := DataW.trod_array ht h
  refine ⟨hl.trans hc, fun j hj => ?_⟩
  have h1 := hall j hj
  rw [cells3, Nat.mul_one] at h1
  obtain ⟨y, hy⟩ : ∃ y, xs[j]? = some y := ⟨_, List.getElem?_eq_getElem (by omega)⟩
  rw [hy] at h1
  obtain ⟨z, hz⟩ := one_int Tryd.underlying3 h1
  refine ⟨z, ?_⟩
  have h2 := congrArg (·[0]?) hz
  simpa [List.getElem?_take, List.getElem?_drop] using h2
theorem open_triples3 {base : Nat} (hval : Value.okWide Tryd.prog W .any base 22 v) (h : DataW.Trod enc Tryd.prog W 0 (fun _ => true) true 22 v d ps) : ∃ n, IntsAt W v n ∧ n ≤ maxLen ∧ (n = 0 ∨ ∃ es sp, d = .slice es sp ∧ es.length = n) := by
  obtain ⟨a, len, cap, rfl⟩ := okWide_slice Tryd.underlying22 hval
  obtain ⟨fuel, hf⟩ := h
  rcases open_slice Tryd.underlying22 hf with ⟨hc, _⟩ | ⟨a', len', cap', m, n, D, Pl, hc, _, hlc, hcm, hm, hd, hall⟩
  · simp [Value.cells] at hc
    obtain ⟨rfl, rfl, rfl⟩ := hc
    exact ⟨0, ⟨none, 0, rfl, fun h => absurd h (by omega)⟩, by unfold maxLen; omega, .inl rfl⟩
  · simp [Value.cells] at hc
    obtain ⟨rfl, rfl, rfl⟩ := hc
    simp at hm
    subst hm
    refine ⟨len, ⟨some a', _, rfl, fun h0 => ?_⟩, by omega, .inr ⟨_, _, congrArg Prod.fst hd, by simp⟩⟩
    have hcell : ∀ i, i < len → ∀ j, j < 3 → ∃ z : Int, W.cell? ((a'.add (i * 3)).add j) = some (.int .i64 z) := by
      intro i hi j hj
      obtain ⟨cs', h1, h2⟩ := hall i (by omega)
      rw [cells23] at h1
      obtain ⟨_, _, h3⟩ := World.cells?_some h1
      obtain ⟨_, h4⟩ := ints_of_array Tryd.underlying23 cells23 h2
      obtain ⟨z, hz⟩ := h4 j hj
      exact ⟨z, (h3 j hj).trans hz⟩
    obtain ⟨b, off, sp⟩ := a'
    obtain ⟨z0, hz0⟩ := hcell 0 h0 0 (by omega)
    have hsp : sp = none := by
      refine cell_spot (w := W) (b := b) (o := off) (v := .int .i64 z0) ?_
      simpa [Addr.add] using hz0
    subst hsp
    refine ⟨b, off, rfl, cell_lt (p := ⟨b, off, none⟩) (by simpa [Addr.add] using hz0), fun j hj => ?_⟩
    obtain ⟨z, hz⟩ := hcell (j / 3) (by omega) (j % 3) (by omega)
    refine ⟨z, ?_⟩
    have he : ((⟨b, off, none⟩ : Addr).add (j / 3 * 3)).add (j % 3) = ⟨b, off + j, none⟩ := by
      rw [Go.Deep.add_add, show j / 3 * 3 + j % 3 = j from by omega]
      unfold Addr.add
      split <;> simp_all
    rw [he] at hz
    exact hz
theorem open_triples {base : Nat} (hval : Value.okWide Tryd.prog W .any base 22 v) (h : DataW.Trod enc Tryd.prog W 0 (fun _ => true) true 22 v d ps) : ∃ n, IntsAt W v n ∧ n ≤ maxLen := by
  obtain ⟨n, h1, h2, _⟩ := open_triples3 hval h
  exact ⟨n, h1, h2⟩
theorem bytes23 : Tryd.prog.bytesOf 23 = 24 := by kernel_rfl
/-- What the form's reach says of a slice of triples. -/
theorem triples_reach {ts : List TypeId} {ds : List (DataW H)} {n : Nat} (hsz : (DataW.weightsEach Tryd.prog ts ds).all (· ≤ reachBytes) = true) (ht : ts[0]? = some 22) (hd : ds[0]? = some d) (hs : n = 0 ∨ ∃ es sp, d = .slice es sp ∧ es.length = n) :
    (n + 2) * 24 ≤ 140737488355328 := by
  rcases hs with rfl | ⟨es, sp, rfl, rfl⟩
  · omega
  · have := sized_slice hsz ht hd Tryd.underlying22
    rw [bytes23] at this
    unfold reachBytes at this
    omega
theorem okWide_array {base n : Nat} {t e : TypeId} (ht : Tryd.prog.underlying t = some (.array n e)) (h : Value.okWide Tryd.prog W .any base t v) : ∃ cs, v = .agg cs ∧ cs.size = Tryd.prog.cellsOf t := by
  simp only [Value.okWide, ht] at h
  obtain ⟨cs, h1, h2, _⟩ := h
  exact ⟨cs, h1, h2⟩
/-- An array of two numbers. -/
theorem open_pair {base : Nat} (hval : Value.okWide Tryd.prog W .any base 38 v) (h : DataW.Trod enc Tryd.prog W 0 (fun _ => true) true 38 v d ps) : ∃ a b : Int, v = .agg #[.int .i64 a, .int .i64 b] := by
  obtain ⟨cs, rfl, _⟩ := okWide_array Tryd.underlying38 hval
  obtain ⟨fuel, hf⟩ := h
  obtain ⟨h1, h2⟩ := ints_of_array Tryd.underlying38 cells38 hf
  obtain ⟨a, ha⟩ := h2 0 (by omega)
  obtain ⟨b, hb⟩ := h2 1 (by omega)
  refine ⟨a, b, ?_⟩
  obtain ⟨l⟩ := cs
  simp only [Value.cells] at h1 ha hb
  match l, h1, ha, hb with
  | [x, y], _, ha, hb => simp at ha hb; subst ha hb; rfl
/-- An array of three numbers. -/
theorem open_triple {base : Nat} (hval : Value.okWide Tryd.prog W .any base 23 v) (h : DataW.Trod enc Tryd.prog W 0 (fun _ => true) true 23 v d ps) : ∃ a b c : Int, v = .agg #[.int .i64 a, .int .i64 b, .int .i64 c] := by
  obtain ⟨cs, rfl, _⟩ := okWide_array Tryd.underlying23 hval
  obtain ⟨fuel, hf⟩ := h
  obtain ⟨h1, h2⟩ := ints_of_array Tryd.underlying23 cells23 hf
  obtain ⟨a, ha⟩ := h2 0 (by omega)
  obtain ⟨b, hb⟩ := h2 1 (by omega)
  obtain ⟨c, hc⟩ := h2 2 (by omega)
  refine ⟨a, b, c, ?_⟩
  obtain ⟨l⟩ := cs
  simp only [Value.cells] at h1 ha hb hc
  match l, h1, ha, hb, hc with
  | [x, y, z], _, ha, hb, hc => simp at ha hb hc; subst ha hb hc; rfl
/-- An array of two pairs of numbers. -/
theorem open_pairs {base : Nat} (hval : Value.okWide Tryd.prog W .any base 39 v) (h : DataW.Trod enc Tryd.prog W 0 (fun _ => true) true 39 v d ps) : ∃ a b c e : Int, v = .agg #[.int .i64 a, .int .i64 b, .int .i64 c, .int .i64 e] := by
  obtain ⟨cs, rfl, _⟩ := okWide_array Tryd.underlying39 hval
  obtain ⟨fuel, hf⟩ := h
  obtain ⟨xs, m, rfl, _, hl, hxl, hall⟩ := DataW.trod_array Tryd.underlying39 hf
  rw [cells39] at hl
  have key : ∀ i, i < 2 → ∀ j, j < 2 → ∃ z : Int, cs.toList[i * 2 + j]? = some (.int .i64 z) := by
    intro i hi j hj
    have h1 := hall i hi
    rw [cells38] at h1
    obtain ⟨y, hy⟩ : ∃ y, xs[i]? = some y := ⟨_, List.getElem?_eq_getElem (by omega)⟩
    rw [hy] at h1
    obtain ⟨_, h2⟩ := ints_of_array Tryd.underlying38 cells38 h1
    obtain ⟨z, hz⟩ := h2 j hj
    refine ⟨z, ?_⟩
    rw [List.getElem?_take_of_lt (by omega), List.getElem?_drop] at hz
    exact hz
  obtain ⟨a, ha⟩ := key 0 (by omega) 0 (by omega)
  obtain ⟨b, hb⟩ := key 0 (by omega) 1 (by omega)
  obtain ⟨c, hc⟩ := key 1 (by omega) 0 (by omega)
  obtain ⟨e, he⟩ := key 1 (by omega) 1 (by omega)
  refine ⟨a, b, c, e, ?_⟩
  obtain ⟨l⟩ := cs
  simp only [Value.cells] at hl ha hb hc he
  match l, hl, ha, hb, hc, he with
  | [x, y, z, u], _, ha, hb, hc, he => simp at ha hb hc he; subst ha hb hc he; rfl
end
end Go.Proofs.YtfkleeigdplapaaDoor
