/-
  The walks of ascii, uppers and marks.
-/
import Derived.Test.YtpkacoknpedolaaDoorA2
import Derived.Maps.AppendAt
import Derived.Deep.AppendLies
import Derived.Laws.OwnMore
namespace Go.Proofs.YtpkacoknpedolaaDoor
open Go.RowKit Go.Maps

theorem i87 : (Tryd.prog.info? 87).map (fun i => (i.zero, i.size, i.bytes)) = some (some (.agg #[.int .u8 0, .int .i32 0]), 2, 8) := by kernel_rfl
theorem pairs_len (l : List (Nat × Nat)) : (l.flatMap pairCells).length = l.length * 2 := by
  induction l with
  | nil => rfl
  | cons p l ih => rw [List.flatMap_cons, List.length_append, ih]; simp [pairCells]; omega
theorem owns_shape {w : World} {B : Nat} {e : TypeId} {k : Nat} {v : Value} {n : Nat} {xs : List Value} (h : w.ownsRow B e k v n xs) : ∃ a cap, v = .slice a n cap := by
  rcases h.2 with ⟨rfl, rfl⟩ | ⟨g, cap, cur, rfl, _⟩
  · exact ⟨_, _, rfl⟩
  · exact ⟨_, _, rfl⟩
theorem owns_slice {w : World} {E : TypeId} {k lo B : Nat} {v : Value} {n : Nat} {xs : List Value} (h : w.ownsRow B E k v n xs) (hb : lo ≤ B) : SliceAt lo w.heap.size w v n xs := by
  rcases h.2 with ⟨rfl, h0⟩ | ⟨g, cap, cur, rfl, hg, hh, hr⟩
  · have : xs = [] := List.eq_nil_of_length_eq_zero (by rw [h.1, h0]; simp)
    subst this
    exact ⟨none, 0, by rw [h0], fun h => absurd rfl h⟩
  · have hlt := h.lt g (by simp [Value.ownBlock])
    refine ⟨_, _, rfl, fun _ => ⟨g, 0, rfl, by omega, hlt.2, fun j x hx => ?_⟩⟩
    have h2 := h.cellAt j (by have := (List.getElem?_eq_some_iff.1 hx).1; rw [h.1] at this; exact this)
    rw [Nat.zero_add, h2]; exact hx
theorem cell_two_new (w : World) (x y : Value) (t : TypeId) : ∀ j v, [x, y][j]? = some v → (w.alloc (.cells #[x, y] t)).cell? ((⟨w.heap.size, 0, none⟩ : Addr).add j) = some v := by
  intro j v hj
  match j, hj with
  | 0, hj => simp at hj; subst hj; simp [Addr.add]
  | 1, hj => simp at hj; subst hj; simp [Addr.add]
theorem asciiT_snoc (k : Nat) (h : 32 ≤ k) : asciiT k = asciiT (k - 1) ++ [(k, k)] := by
  unfold asciiT
  rw [show k + 1 - 32 = (k - 1 + 1 - 32) + 1 from by omega, List.range_succ, List.map_append]
  simp; omega
theorem asciiT_len (k : Nat) : (asciiT k).length = k + 1 - 32 := by simp [asciiT]
set_option maxHeartbeats 1000000 in
set_option maxRecDepth 100000 in
theorem ascii_40 (last : Nat) (w : World) (hl : last ≤ 126) (hl2 : 32 ≤ last) :
    Calls Tryd.prog 40 #[.int .u8 last] w fun e w' => ∃ v, e = .returned v ∧ w'.ownsRow w.heap.size 87 2 v (asciiT last).length ((asciiT last).flatMap pairCells) ∧ Below w.heap.size w w' := by
  obtain ⟨i0, hi, hz0, hz1, hz2⟩ : ∃ i, Tryd.prog.info? 87 = some i ∧ i.zero = some (.agg #[.int .u8 0, .int .i32 0]) ∧ i.size = 2 ∧ i.bytes = 8 := by
    have := i87
    revert this
    cases Tryd.prog.info? 87 <;> simp
  have HI := Lib.hid hi
  have HI0 := Lib.hid hz0
  have HI1 := Lib.hid hz1
  have HI2 := Lib.hid hz2
  clear hi hz0 hz1 hz2
  go_enter Tryd.func40, Tryd.ntmps40
  go_wp2
  go_loopw [3, 4] (fun o i wr => ∃ (k : Nat) (v : Value), 32 ≤ k ∧ k ≤ last + 1 ∧ i = .int .u8 k ∧ o = v ∧ Hid (wr.ownsRow w.heap.size 87 2 v (k - 32) ((asciiT (k - 1)).flatMap pairCells)) ∧ Below w.heap.size w wr) (fun _ i _ => last + 1 - (intOf i).toNat)
  case atStart => exact ⟨32, .slice none 0 0, by omega, by omega, rfl, rfl, World.ownsRow_nil _ _ _ _, Below.refl _ _⟩
  case round =>
    obtain ⟨k, v, hk1, hk2, rfl, rfl, HO, hb⟩ := hrel
    obtain ⟨va, vc, rfl⟩ := owns_shape HO.out
    have hbz := hb.size
    by_cases hlt : k ≤ last
    · have e1 : (k : Int) % 4294967296 = k := by omega
      have e2 : IntKind.i32.wrap (k : Int) = k := IntWalk.i32_in _ (by omega)
      have e3 : IntKind.u8.wrap ((k : Int) + 1) = k + 1 := IntWalk.u8_in _ (by omega)
      go_wp2_with (at_builtin; refine wpList_append_own_at _ rfl _ _ 81 rfl w.heap.size 87 i0 (.agg #[.int .u8 0, .int .i32 0]) 2 8 Tryd.underlying81 HI.out HI0.out HI1.out HI2.out rfl (by omega) (.slice va (k - 32) vc) (k - 32) _ rfl (HO.out.alloc _) ⟨wr.heap.size, 0, none⟩ 1 1 [.int .u8 k, .int .i32 k] rfl rfl (cell_two_new _ _ _ _) (by simp [Value.oneCell']) (by unfold maxLen; omega) (by omega) (by simp; omega) ?_; intro v' w2 hown2 hgw _ _; have HO2 := Lib.hid hown2; have HG2 := Lib.hid hgw; clear hown2 hgw)
      go_roundw
      case rel =>
        refine ⟨k + 1, v', by omega, by omega, by go_num, rfl, ?_, (hb.alloc hbz _).grown HG2.out (by simp; omega) (fun g hg => (HO.out.lt g (by simpa using hg)).1)⟩
        have h2 := HO2.out
        have e4 : asciiT (k + 1 - 1) = asciiT (k - 1) ++ [(k, k)] := asciiT_snoc k hk1
        rw [e4, List.flatMap_append, show k + 1 - 32 = k - 32 + 1 from by omega]
        simpa [pairCells, Hid] using h2
      case measure => simp [intOf]; omega
    · have hke : k = last + 1 := by omega
      subst hke
      go_wp2
      go_ret
      refine ⟨_, rfl, ?_, hb⟩
      have := HO.out
      rw [asciiT_len]
      simpa using this
theorem pairs_new (w : World) (l : List (Nat × Nat)) : PairsAt 0 (w.heap.size + 1) (w.alloc (.cells (l.flatMap pairCells).toArray 87)) (.slice (some ⟨w.heap.size, 0, none⟩) l.length l.length) l :=
  ⟨_, _, rfl, fun _ => ⟨w.heap.size, 0, rfl, by omega, by omega, fun j x hx => by rw [Nat.zero_add, World.cell?_alloc_new]; simpa using hx⟩⟩
/-- A map that a call made. -/
def MapPost (f : Nat → Option Nat) (w : World) (e : Ending) (w' : World) : Prop := ∃ b n, e = .returned (.map (some b)) ∧ MapB w' b n f ∧ Below w.heap.size w w' ∧ w.heap.size ≤ b ∧ n ≤ 1000
theorem table_new (l : List (Nat × Nat)) (w : World) (hl : ∀ p ∈ l, p.1 < 256 ∧ p.2 < 2147483648) (hn : l.length ≤ 1000) :
    Calls Tryd.prog 44 #[.slice (some ⟨w.heap.size, 0, none⟩) l.length l.length] (w.alloc (.cells (l.flatMap pairCells).toArray 87)) fun e w' => MapPost (tabF l) w e w' :=
  (table_44 l _ _ ((pairs_new w l).mono (Nat.le_refl _) (by simp)) hl hn).mono fun e w' ⟨he, hm, hb⟩ => ⟨_, _, he, hm, btr ((Below.refl _ w).alloc (Nat.le_refl _) _) hb (by simp), by simp, hn⟩
set_option maxHeartbeats 1000000 in
set_option maxRecDepth 100000 in
theorem marks_24 (w : World) : Calls Tryd.prog 24 #[] w fun e w' => MapPost (tabF marksT) w e w' := by
  have H44 := Lib.hid (table_new marksT w (by decide) (by decide))
  go_enter Tryd.func24, Tryd.ntmps24
  go_wp2_with (go_at_call 44; (refine Calls.mono H44.out ?_); rintro e w1 ⟨b, n, rfl, hm, hb, hlt, hn⟩)
  go_ret
  exact ⟨b, n, rfl, hm, hb, hlt, hn⟩
set_option maxHeartbeats 1000000 in
set_option maxRecDepth 100000 in
theorem uppers_23 (w : World) : Calls Tryd.prog 23 #[] w fun e w' => MapPost (tabF uppersT) w e w' := by
  have H44 := Lib.hid (table_new uppersT w (by decide) (by decide))
  go_enter Tryd.func23, Tryd.ntmps23
  go_wp2_with (go_at_call 44; (refine Calls.mono H44.out ?_); rintro e w1 ⟨b, n, rfl, hm, hb, hlt, hn⟩)
  go_ret
  exact ⟨b, n, rfl, hm, hb, hlt, hn⟩
end Go.Proofs.YtpkacoknpedolaaDoor
