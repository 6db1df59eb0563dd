/-
  Words for memory: blocks known whole; bytes in a row of the call's own; appending bytes and zeros to it, copying into it; what may have changed.
-/
import Derived.Test.YtgdkdihedgiegaaDoorProg
import Derived.Test.YtgdkdihedgiegaaDoorN3
import Derived.OneCell
import Derived.Maps.AppendAt
import Derived.Deep.AppendSrc
import Derived.Deep.AppendLies
import Derived.Lib.AppendZerosOnto
import Derived.Laws.CopyOwn
namespace Go.Proofs.YtgdkdihedgiegaaDoor
open Go.RowKit

/-! A block known whole. -/
theorem blk_cell {w : World} {b : Nat} {cs : Array Value} {t : TypeId} (h : w.heap[b]? = some (.cells cs t (0, 0))) (i : Nat) : w.cell? ⟨b, i, none⟩ = cs[i]? := by simp [World.cell?, h]
theorem blk_frozen {w : World} {b : Nat} {cs : Array Value} {t : TypeId} (h : w.heap[b]? = some (.cells cs t (0, 0))) (i : Nat) : w.frozen? ⟨b, i, none⟩ = false := by simp [World.frozen?, h]
theorem blk_lt {w : World} {b : Nat} {o : Obj} (h : w.heap[b]? = some o) : b < w.heap.size := (Array.getElem?_eq_some_iff.1 h).1
theorem blk_set {w : World} {b : Nat} {cs : Array Value} {t : TypeId} (h : w.heap[b]? = some (.cells cs t (0, 0))) (i : Nat) (u : Value) : (w.setCell ⟨b, i, none⟩ u).heap[b]? = some (.cells (cs.setIfInBounds i u) t (0, 0)) := by
  simp only [World.setCell, Array.getElem?_modify, if_true, h]
  rfl

/-! Bytes. -/
def bv (l : Bs) : List Value := l.map fun c => .int .u8 c.toNat
theorem bv_len (l : Bs) : (bv l).length = l.length := by simp [bv]
theorem bv_app (a b : Bs) : bv (a ++ b) = bv a ++ bv b := by simp [bv]
theorem bv_take (l : Bs) (n : Nat) : (bv l).take n = bv (l.take n) := by simp [bv]
theorem bv_drop (l : Bs) (n : Nat) : (bv l).drop n = bv (l.drop n) := by simp [bv]
theorem bv_one (l : Bs) : ∀ u ∈ bv l, u.oneCell' = true := by
  intro u hu
  obtain ⟨c, _, rfl⟩ := List.mem_map.1 hu
  rfl
theorem i5 : (Tryd.prog.info? 5).map (fun i => (i.zero, i.size, i.bytes)) = some (some (.int .u8 0), 1, 1) := by kernel_rfl
theorem zero_cells (k : Nat) : (Builtin.zeroCells (Value.int .u8 0).cells k).toList = bv (zerosR k) := by
  apply List.ext_getElem
  · simp [Builtin.zeroCells, bv, zeros_len, Value.cells]
  · intro i h1 h2
    simp [Builtin.zeroCells, bv, zerosR, Value.cells, Nat.mod_one]

/-- A row: v owns it, at base 0. -/
abbrev ByteRow (w : World) (v : Value) (l : Bs) : Prop := w.ownsRow 0 5 1 v l.length (bv l)
/-- Behind an append: the old row or a new one. -/
structure Onto (w w' : World) (v v' : Value) : Prop where
  grown : w.grownBy w' v.ownBlock
  at_ : v'.ownBlock = v.ownBlock ∨ v'.ownBlock = some w.heap.size
  big : v'.ownBlock = some w.heap.size → w.heap.size < w'.heap.size
theorem Onto.refl (w : World) (v : Value) (h : ∀ k, v.ownBlock = some k → k < w.heap.size) : Onto w w v v := ⟨⟨rfl, rfl, rfl, Nat.le_refl _, fun _ _ _ => rfl⟩, .inl rfl, fun e => by have := h _ e; omega⟩
theorem row_shape {w : World} {B : Nat} {e : TypeId} {k n : Nat} {v : Value} {xs : List Value} (h : w.ownsRow B e k v n xs) : ∃ a cap, v = .slice a n cap := by
  rcases h.2 with ⟨rfl, rfl⟩ | ⟨g, cap, cur, rfl, _⟩
  · exact ⟨_, _, rfl⟩
  · exact ⟨_, _, rfl⟩
theorem row_lt {w : World} {B : Nat} {e : TypeId} {k n : Nat} {v : Value} {xs : List Value} (h : w.ownsRow B e k v n xs) : ∀ j, v.ownBlock = some j → j < w.heap.size := fun j hj => (h.lt j hj).2
theorem row_far {w w' : World} {B : Nat} {e : TypeId} {k : Nat} {v : Value} {n : Nat} {xs : List Value} (h : w.ownsRow B e k v n xs) (hk : ∀ g, v.ownBlock = some g → w'.heap[g]? = w.heap[g]?) : w'.ownsRow B e k v n xs := by
  refine ⟨h.1, ?_⟩
  rcases h.2 with hn | ⟨g, cap, cur, hv, hB, hg, hr⟩
  · exact .inl hn
  · exact .inr ⟨g, cap, cur, hv, hB, by rw [hk g (by rw [hv]; simp [Value.ownBlock])]; exact hg, hr⟩
theorem row_mono {w : World} {B B' : Nat} {e : TypeId} {k : Nat} {v : Value} {n : Nat} {xs : List Value} (h : w.ownsRow B e k v n xs) (hB : B' ≤ B) : w.ownsRow B' e k v n xs := by
  refine ⟨h.1, ?_⟩
  rcases h.2 with hn | ⟨g, cap, cur, hv, hb, hr⟩
  · exact .inl hn
  · exact .inr ⟨g, cap, cur, hv, Nat.le_trans hB hb, hr⟩
/-- Rows of elements of two types are two. -/
theorem row_type {w : World} {B e k n : Nat} {v : Value} {xs : List Value} (h : w.ownsRow B e k v n xs) {g : Nat} (hg : v.ownBlock = some g) : ∃ cur, w.heap[g]? = some (.cells cur e (0, 0)) := by
  rcases h.2 with ⟨rfl, _⟩ | ⟨g', cap, cur, rfl, _, hh, _⟩
  · cases hg
  · injection hg with hg; subst hg; exact ⟨cur, hh⟩
theorem type_ne {w : World} {g k e f : Nat} {c d : Array Value} (hg : w.heap[g]? = some (.cells c e (0, 0))) (hk : w.heap[k]? = some (.cells d f (0, 0))) (hef : e ≠ f) : g ≠ k := by
  rintro rfl
  rw [hg] at hk
  injection hk with hk
  injection hk with _ hk
  exact hef hk
/-- 'append(v, make([]byte, k)...)'. -/
theorem run_zeros (w : World) (v : Value) (l : Bs) (h : ByteRow w v l) (k : Nat) (h0 : 0 < k) (hs : l.length + k ≤ 1000000000) :
    ∃ v' w', (Builtin.append_ #[51, 3] 51 #[v, .int .i64 k]).run Tryd.prog w = .ok v' w' ∧ ByteRow w' v' (l ++ zerosR k) ∧ Onto w w' v v' := by
  obtain ⟨i, hi, hz, hsz, hby⟩ := info_parts i5
  have hlen : (l ++ zerosR k).length = l.length + k := by simp [zeros_len]
  have key : ∀ base (sCap : Nat), (Builtin.firstCells i.size l.length (.slice base l.length sCap)).run Tryd.prog w.drew = .ok (bv l).toArray w.drew → sCap < l.length + k → v = .slice base l.length sCap →
      ∃ v' w', (Builtin.append_ #[51, 3] 51 #[v, .int .i64 k]).run Tryd.prog w = .ok v' w' ∧ ByteRow w' v' (l ++ zerosR k) ∧ Onto w w' v v' := by
    intro base sCap hold hg hv
    subst hv
    have hr := Lib.run_append_grow_zeros (P := Tryd.prog) w 51 3 51 5 i (.int .u8 0) .i64 .i64 Tryd.underlying51 Tryd.underlying3 hi hz base l.length sCap (bv l) hold k h0 (by omega) hg (by omega) (by rw [hby]; omega) (by rw [hby]; exact growslice_fits (by omega) (by omega))
    have hge := grownCap_ge w (l.length + k) sCap 5
    have hcm : grownCap w (l.length + k) sCap 5 ≤ maxLen := grownCap_le_maxLen w (l.length + k) sCap 5 (by unfold maxLen; omega)
    refine ⟨_, _, hr, ⟨by rw [bv_len, hlen]; omega, .inr ⟨w.heap.size, _, _, by rw [hlen], Nat.zero_le _, heap_alloc_new w.drew _, by rw [hlen]; exact hge, hcm, ?_, ?_⟩⟩, ⟨⟨rfl, rfl, rfl, by simp, fun j hj _ => Below.heap_alloc w.drew _ j hj⟩, .inr rfl, fun _ => by simp⟩⟩
    · simp only [Array.size_append, List.size_toArray, size_zeroCells, bv_len, Value.cells, List.size_toArray, List.length_singleton]
      omega
    · simp only [Array.toList_append, zero_cells]
      rw [← bv_app, hlen, List.take_left' (by rw [bv_len]; simp [zeros_len])]
  rcases h.2 with ⟨rfl, hl⟩ | ⟨g, cap, cur, rfl, hbg, hg, hnc, hcm, hcs, htake⟩
  · obtain rfl : l = [] := List.eq_nil_of_length_eq_zero hl
    exact key none 0 (by rw [hsz]; exact run_firstCells_none _ _ _ _ _) (by simpa using h0) rfl
  · by_cases hroom : l.length + k ≤ cap
    · have hfit : l.length * 1 + (bv (zerosR k)).length ≤ cur.size := by rw [bv_len, zeros_len]; omega
      have hst := run_storeCells_at Tryd.prog g (l.length * 1) 5 (bv (zerosR k)) 0 cur w hg (by simpa using hfit) (bv_one _)
      simp only [Nat.add_zero, Nat.mul_one] at hst
      have hw : IntKind.i64.wrap (k : Int) = k := by rw [IntKind.wrap_i64]; omega
      have hneg : ¬ ((k : Int) < 0) := by omega
      have h48i : ¬ (281474976710656 < (k : Int) * (i.bytes : Int)) := by rw [hby]; omega
      have hns : ¬ (k = 0) := by omega
      obtain ⟨W, hW⟩ : ∃ W, W = w.setRow g (cur.toList.take l.length ++ bv (zerosR k) ++ cur.toList.drop (l.length + (bv (zerosR k)).length)).toArray := ⟨_, rfl⟩
      rw [← hW] at hst
      have hr : (Builtin.append_ #[51, 3] 51 #[.slice (some ⟨g, 0, none⟩) l.length cap, .int .i64 k]).run Tryd.prog w = .ok (.slice (some ⟨g, 0, none⟩) (l.length + k) cap) W := by
        simp [Builtin.append_, run_underlying Tryd.underlying51, run_underlying Tryd.underlying3, sizeOf, typeInfo, zeroValue, hi, hz, hsz, asInt, asIntOf, hw, hroom, hneg, h48i, hns, Addr.add_lit, zero_cells]
        rw [hst]
        rfl
      subst hW
      refine ⟨_, _, hr, ⟨by rw [bv_len, hlen]; omega, .inr ⟨g, cap, _, by rw [hlen], hbg, setRow_heap w g cur _ 5 _ hg, by rw [hlen]; exact hroom, hcm, ?_, ?_⟩⟩, ⟨⟨rfl, rfl, rfl, by simp, fun k _ hk => setRow_other w g k _ (fun e => hk (by simp [Value.ownBlock, e]))⟩, .inl rfl, fun e => by have := blk_lt hg; simp [Value.ownBlock] at e; omega⟩⟩
      · simp only [List.size_toArray, List.length_append, List.length_take, List.length_drop, Array.length_toList, bv_len, zeros_len] at hfit ⊢
        omega
      · rw [Nat.mul_one] at htake
        rw [htake, ← bv_app, hlen]
        exact List.take_left' (by rw [bv_len]; simp [zeros_len])
    · refine key (some ⟨g, 0, none⟩) cap ?_ (by omega) rfl
      rw [hsz]
      exact run_firstCells_some (P := Tryd.prog) w.drew 1 l.length ⟨g, 0, none⟩ l.length cap (bv l) (by rw [bv_len]; omega) (by
        intro j u hu
        have := h.cells (g := g) rfl j u hu
        simpa using this)
end Go.Proofs.YtgdkdihedgiegaaDoor
