/-
  Words for memory: blocks known whole; bytes in a row of the call's own; appending bytes and zeros to it, copying into it; what may have changed.
  The laws at append and copy, for bytes and for whatever else lies in a row of its own.
  The walk of put: bytes are written to contents, which may grow.
-/
import Derived.Test.YtgdkdihedgiegaaDoorProg
import Derived.Test.YtgdkdihedgiegaaDoorN1
import Derived.OneCell
import Derived.Maps.AppendAt
import Derived.Deep.AppendSrc
import Derived.Deep.AppendLies
import Derived.Lib.AppendZerosOnto
import Derived.Laws.CopyOwn
namespace Go.Proofs.YtgdkdihedgiegaaDoor
open Go.RowKit

/-! A block known whole. -/
theorem blk_cell {w : World} {b : Nat} {cs : Array Value} {t : TypeId} (h : w.heap[b]? = some (.cells cs t (0, 0))) (i : Nat) : w.cell? ⟨b, i, none⟩ = cs[i]? := by simp [World.cell?, h]
theorem blk_frozen {w : World} {b : Nat} {cs : Array Value} {t : TypeId} (h : w.heap[b]? = some (.cells cs t (0, 0))) (i : Nat) : w.frozen? ⟨b, i, none⟩ = false := by simp [World.frozen?, h]
theorem blk_lt {w : World} {b : Nat} {o : Obj} (h : w.heap[b]? = some o) : b < w.heap.size := (Array.getElem?_eq_some_iff.1 h).1
theorem blk_set {w : World} {b : Nat} {cs : Array Value} {t : TypeId} (h : w.heap[b]? = some (.cells cs t (0, 0))) (i : Nat) (u : Value) : (w.setCell ⟨b, i, none⟩ u).heap[b]? = some (.cells (cs.setIfInBounds i u) t (0, 0)) := by
  simp only [World.setCell, Array.getElem?_modify, if_true, h]
  rfl

/-! Bytes. -/
def bv (l : Bs) : List Value := l.map fun c => .int .u8 c.toNat
theorem bv_len (l : Bs) : (bv l).length = l.length := by simp [bv]
theorem bv_app (a b : Bs) : bv (a ++ b) = bv a ++ bv b := by simp [bv]
theorem bv_take (l : Bs) (n : Nat) : (bv l).take n = bv (l.take n) := by simp [bv]
theorem bv_drop (l : Bs) (n : Nat) : (bv l).drop n = bv (l.drop n) := by simp [bv]
theorem bv_one (l : Bs) : ∀ u ∈ bv l, u.oneCell' = true := by
  intro u hu
  obtain ⟨c, _, rfl⟩ := List.mem_map.1 hu
  rfl
theorem i5 : (Tryd.prog.info? 5).map (fun i => (i.zero, i.size, i.bytes)) = some (some (.int .u8 0), 1, 1) := by kernel_rfl
theorem zero_cells (k : Nat) : (Builtin.zeroCells (Value.int .u8 0).cells k).toList = bv (zerosR k) := by
  apply List.ext_getElem
  · simp [Builtin.zeroCells, bv, zeros_len, Value.cells]
  · intro i h1 h2
    simp [Builtin.zeroCells, bv, zerosR, Value.cells, Nat.mod_one]

/-- A row: v owns it, at base 0. -/
abbrev ByteRow (w : World) (v : Value) (l : Bs) : Prop := w.ownsRow 0 5 1 v l.length (bv l)
/-- Behind an append: the old row or a new one. -/
structure Onto (w w' : World) (v v' : Value) : Prop where
  grown : w.grownBy w' v.ownBlock
  at_ : v'.ownBlock = v.ownBlock ∨ v'.ownBlock = some w.heap.size
  big : v'.ownBlock = some w.heap.size → w.heap.size < w'.heap.size
theorem Onto.refl (w : World) (v : Value) (h : ∀ k, v.ownBlock = some k → k < w.heap.size) : Onto w w v v := ⟨⟨rfl, rfl, rfl, Nat.le_refl _, fun _ _ _ => rfl⟩, .inl rfl, fun e => by have := h _ e; omega⟩
theorem row_shape {w : World} {B : Nat} {e : TypeId} {k n : Nat} {v : Value} {xs : List Value} (h : w.ownsRow B e k v n xs) : ∃ a cap, v = .slice a n cap := by
  rcases h.2 with ⟨rfl, rfl⟩ | ⟨g, cap, cur, rfl, _⟩
  · exact ⟨_, _, rfl⟩
  · exact ⟨_, _, rfl⟩
theorem row_lt {w : World} {B : Nat} {e : TypeId} {k n : Nat} {v : Value} {xs : List Value} (h : w.ownsRow B e k v n xs) : ∀ j, v.ownBlock = some j → j < w.heap.size := fun j hj => (h.lt j hj).2
theorem row_far {w w' : World} {B : Nat} {e : TypeId} {k : Nat} {v : Value} {n : Nat} {xs : List Value} (h : w.ownsRow B e k v n xs) (hk : ∀ g, v.ownBlock = some g → w'.heap[g]? = w.heap[g]?) : w'.ownsRow B e k v n xs := by
  refine ⟨h.1, ?_⟩
  rcases h.2 with hn | ⟨g, cap, cur, hv, hB, hg, hr⟩
  · exact .inl hn
  · exact .inr ⟨g, cap, cur, hv, hB, by rw [hk g (by rw [hv]; simp [Value.ownBlock])]; exact hg, hr⟩
theorem row_mono {w : World} {B B' : Nat} {e : TypeId} {k : Nat} {v : Value} {n : Nat} {xs : List Value} (h : w.ownsRow B e k v n xs) (hB : B' ≤ B) : w.ownsRow B' e k v n xs := by
  refine ⟨h.1, ?_⟩
  rcases h.2 with hn | ⟨g, cap, cur, hv, hb, hr⟩
  · exact .inl hn
  · exact .inr ⟨g, cap, cur, hv, Nat.le_trans hB hb, hr⟩
/-- Rows of elements of two types are two. -/
theorem row_type {w : World} {B e k n : Nat} {v : Value} {xs : List Value} (h : w.ownsRow B e k v n xs) {g : Nat} (hg : v.ownBlock = some g) : ∃ cur, w.heap[g]? = some (.cells cur e (0, 0)) := by
  rcases h.2 with ⟨rfl, _⟩ | ⟨g', cap, cur, rfl, _, hh, _⟩
  · cases hg
  · injection hg with hg; subst hg; exact ⟨cur, hh⟩
theorem type_ne {w : World} {g k e f : Nat} {c d : Array Value} (hg : w.heap[g]? = some (.cells c e (0, 0))) (hk : w.heap[k]? = some (.cells d f (0, 0))) (hef : e ≠ f) : g ≠ k := by
  rintro rfl
  rw [hg] at hk
  injection hk with hk
  injection hk with _ hk
  exact hef hk
/-- 'append(v, make([]byte, k)...)'. -/
theorem run_zeros (w : World) (v : Value) (l : Bs) (h : ByteRow w v l) (k : Nat) (h0 : 0 < k) (hs : l.length + k ≤ 1000000000) :
    ∃ v' w', (Builtin.append_ #[51, 3] 51 #[v, .int .i64 k]).run Tryd.prog w = .ok v' w' ∧ ByteRow w' v' (l ++ zerosR k) ∧ Onto w w' v v' := by
  obtain ⟨i, hi, hz, hsz, hby⟩ := info_parts i5
  have hlen : (l ++ zerosR k).length = l.length + k := by simp [zeros_len]
  have key : ∀ base (sCap : Nat), (Builtin.firstCells i.size l.length (.slice base l.length sCap)).run Tryd.prog w.drew = .ok (bv l).toArray w.drew → sCap < l.length + k → v = .slice base l.length sCap →
      ∃ v' w', (Builtin.append_ #[51, 3] 51 #[v, .int .i64 k]).run Tryd.prog w = .ok v' w' ∧ ByteRow w' v' (l ++ zerosR k) ∧ Onto w w' v v' := by
    intro base sCap hold hg hv
    subst hv
    have hr := Lib.run_append_grow_zeros (P := Tryd.prog) w 51 3 51 5 i (.int .u8 0) .i64 .i64 Tryd.underlying51 Tryd.underlying3 hi hz base l.length sCap (bv l) hold k h0 (by omega) hg (by omega) (by rw [hby]; omega) (by rw [hby]; exact growslice_fits (by omega) (by omega))
    have hge := grownCap_ge w (l.length + k) sCap 5
    have hcm : grownCap w (l.length + k) sCap 5 ≤ maxLen := grownCap_le_maxLen w (l.length + k) sCap 5 (by unfold maxLen; omega)
    refine ⟨_, _, hr, ⟨by rw [bv_len, hlen]; omega, .inr ⟨w.heap.size, _, _, by rw [hlen], Nat.zero_le _, heap_alloc_new w.drew _, by rw [hlen]; exact hge, hcm, ?_, ?_⟩⟩, ⟨⟨rfl, rfl, rfl, by simp, fun j hj _ => Below.heap_alloc w.drew _ j hj⟩, .inr rfl, fun _ => by simp⟩⟩
    · simp only [Array.size_append, List.size_toArray, size_zeroCells, bv_len, Value.cells, List.size_toArray, List.length_singleton]
      omega
    · simp only [Array.toList_append, zero_cells]
      rw [← bv_app, hlen, List.take_left' (by rw [bv_len]; simp [zeros_len])]
  rcases h.2 with ⟨rfl, hl⟩ | ⟨g, cap, cur, rfl, hbg, hg, hnc, hcm, hcs, htake⟩
  · obtain rfl : l = [] := List.eq_nil_of_length_eq_zero hl
    exact key none 0 (by rw [hsz]; exact run_firstCells_none _ _ _ _ _) (by simpa using h0) rfl
  · by_cases hroom : l.length + k ≤ cap
    · have hfit : l.length * 1 + (bv (zerosR k)).length ≤ cur.size := by rw [bv_len, zeros_len]; omega
      have hst := run_storeCells_at Tryd.prog g (l.length * 1) 5 (bv (zerosR k)) 0 cur w hg (by simpa using hfit) (bv_one _)
      simp only [Nat.add_zero, Nat.mul_one] at hst
      have hw : IntKind.i64.wrap (k : Int) = k := by rw [IntKind.wrap_i64]; omega
      have hneg : ¬ ((k : Int) < 0) := by omega
      have h48i : ¬ (281474976710656 < (k : Int) * (i.bytes : Int)) := by rw [hby]; omega
      have hns : ¬ (k = 0) := by omega
      obtain ⟨W, hW⟩ : ∃ W, W = w.setRow g (cur.toList.take l.length ++ bv (zerosR k) ++ cur.toList.drop (l.length + (bv (zerosR k)).length)).toArray := ⟨_, rfl⟩
      rw [← hW] at hst
      have hr : (Builtin.append_ #[51, 3] 51 #[.slice (some ⟨g, 0, none⟩) l.length cap, .int .i64 k]).run Tryd.prog w = .ok (.slice (some ⟨g, 0, none⟩) (l.length + k) cap) W := by
        simp [Builtin.append_, run_underlying Tryd.underlying51, run_underlying Tryd.underlying3, sizeOf, typeInfo, zeroValue, hi, hz, hsz, asInt, asIntOf, hw, hroom, hneg, h48i, hns, Addr.add_lit, zero_cells]
        rw [hst]
        rfl
      subst hW
      refine ⟨_, _, hr, ⟨by rw [bv_len, hlen]; omega, .inr ⟨g, cap, _, by rw [hlen], hbg, setRow_heap w g cur _ 5 _ hg, by rw [hlen]; exact hroom, hcm, ?_, ?_⟩⟩, ⟨⟨rfl, rfl, rfl, by simp, fun k _ hk => setRow_other w g k _ (fun e => hk (by simp [Value.ownBlock, e]))⟩, .inl rfl, fun e => by have := blk_lt hg; simp [Value.ownBlock] at e; omega⟩⟩
      · simp only [List.size_toArray, List.length_append, List.length_take, List.length_drop, Array.length_toList, bv_len, zeros_len] at hfit ⊢
        omega
      · rw [Nat.mul_one] at htake
        rw [htake, ← bv_app, hlen]
        exact List.take_left' (by rw [bv_len]; simp [zeros_len])
    · refine key (some ⟨g, 0, none⟩) cap ?_ (by omega) rfl
      rw [hsz]
      exact run_firstCells_some (P := Tryd.prog) w.drew 1 l.length ⟨g, 0, none⟩ l.length cap (bv l) (by rw [bv_len]; omega) (by
        intro j u hu
        have := h.cells (g := g) rfl j u hu
        simpa using this)
end Go.Proofs.YtgdkdihedgiegaaDoor

namespace Go.Proofs.YtgdkdihedgiegaaDoor
open Go.RowKit

/-- What is appended: m elements, their cells. -/
structure From (w : World) (x : Value) (m : Nat) (news : List Value) : Prop where
  ex : ∃ a cap, x = .slice a m cap ∧ (m ≠ 0 → ∃ ad, a = some ad ∧ ∀ j u, news[j]? = some u → w.cell? (ad.add j) = some u)
theorem add_lit (b off j : Nat) : (⟨b, off, none⟩ : Addr).add j = ⟨b, off + j, none⟩ := by unfold Addr.add; split <;> simp_all
theorem From.row {w : World} {B e k n : Nat} {v : Value} {xs : List Value} (h : w.ownsRow B e k v n xs) : From w v n xs := by
  rcases h.2 with ⟨rfl, rfl⟩ | ⟨g, cap, cur, rfl, _⟩
  · exact ⟨⟨_, _, rfl, fun hh => absurd rfl hh⟩⟩
  · exact ⟨⟨_, _, rfl, fun _ => ⟨_, rfl, h.cells (g := g) rfl⟩⟩⟩
theorem From.keep {w w' : World} {x : Value} {m : Nat} {news : List Value} (h : From w x m news) (hk : ∀ p v, w.cell? p = some v → w'.cell? p = some v) : From w' x m news := by
  obtain ⟨a, cap, hx, hc⟩ := h
  refine ⟨a, cap, hx, fun hm => ?_⟩
  obtain ⟨ad, ha, hc⟩ := hc hm
  exact ⟨ad, ha, fun j u hu => hk _ _ (hc j u hu)⟩
/-- 'append(v, x...)'. -/
theorem run_from (t ty e : TypeId) (z : Value) (size bytes : Nat) (ht : Tryd.prog.underlying t = some (.slice e)) (hinfo : (Tryd.prog.info? e).map (fun i => (i.zero, i.size, i.bytes)) = some (some z, size, bytes)) (hzs : z.cells.size = size) (hsz : 0 < size) (hbyt : bytes ≤ 1000)
    (w : World) (v : Value) (n : Nat) (xs : List Value) (h : w.ownsRow 0 e size v n xs) (x : Value) (m : Nat) (news : List Value) (hx : From w x m news) (hl : news.length = m * size) (h1 : ∀ u ∈ news, u.oneCell' = true) (hs : n + m ≤ 1000000000) :
    ∃ v' w', (Builtin.append_ #[t, t] ty #[v, x]).run Tryd.prog w = .ok v' w' ∧ w'.ownsRow 0 e size v' (n + m) (xs ++ news) ∧ Onto w w' v v' := by
  obtain ⟨i, hi, hz, hsize, hby⟩ := info_parts hinfo
  obtain ⟨a, cap, rfl, hc⟩ := hx
  by_cases hm : m = 0
  · subst hm
    obtain rfl : news = [] := List.eq_nil_of_length_eq_zero (by simpa using hl)
    refine ⟨v, w, ?_, by simpa using h, Onto.refl w v (row_lt h)⟩
    rcases h.2 with ⟨rfl, rfl⟩ | ⟨g, cp, cur, rfl, _, _, hnc, _⟩ <;> cases a <;>
      simp [Builtin.append_, run_underlying ht, sizeOf, typeInfo, Builtin.lenOf, Builtin.firstCells, storeCells, loadCells, loadCellsFrom, *]
  · obtain ⟨ad, rfl, hcc⟩ := hc hm
    have hb2 : (n + m) * bytes ≤ 1000000000 * 1000 := Nat.mul_le_mul hs hbyt
    obtain ⟨v', w', hr, h2, h3, h4, h5⟩ := run_append_own_at (P := Tryd.prog) w 0 t ty e i z size bytes ht hi hz hsize hby hzs hsz v n xs h ad m cap news hl hcc h1 (by unfold maxLen; omega) (by omega) (Nat.zero_le _)
    refine ⟨v', w', hr, h2, h3, h5, fun e => ?_⟩
    exact row_lt h2 _ e
theorem run_from8 (w : World) (v : Value) (l : Bs) (h : ByteRow w v l) (x : Value) (s : Bs) (hx : From w x s.length (bv s)) (hs : l.length + s.length ≤ 1000000000) :
    ∃ v' w', (Builtin.append_ #[51, 51] 51 #[v, x]).run Tryd.prog w = .ok v' w' ∧ ByteRow w' v' (l ++ s) ∧ Onto w w' v v' := by
  obtain ⟨v', w', hr, h2, h3⟩ := run_from 51 51 5 (.int .u8 0) 1 1 Tryd.underlying51 i5 rfl (by decide) (by decide) w v l.length (bv l) h x s.length (bv s) hx (by rw [bv_len]; omega) (bv_one s) hs
  exact ⟨v', w', hr, by show World.ownsRow _ _ _ _ _ _ _; rw [List.length_append, bv_app]; exact h2, h3⟩
section
variable {w : World} {ops : Array Oper} {rest : List Oper} {o : Oper} {a : Act} {Q : Exit → Act → World → Prop}
theorem wpList_run (hgd : o.guard = none) (sl x : Operand) (t t' ty : TypeId) (ho : o.op = .call { callee := .builtin .append, args := #[sl, x], argTypes := #[t, t'] }) (hty : o.type = ty)
    (v y v' : Value) (w' : World) (hs : a.eval sl = v) (hx : a.eval x = y) (hr : (Builtin.append_ #[t, t'] ty #[v, y]).run Tryd.prog w = .ok v' w')
    (h : wpList Tryd.prog ops Q rest (a.put o.dst v') w') : wpList Tryd.prog ops Q (o :: rest) a w := by
  refine wpList_plain hgd fun K hK => ?_
  unfold Oper.wp execOp
  simp only [ho, hty, resolve, invoke, builtin, Sem.run_bind, Sem.run_pure, Result.andThen_ok, List.map_toArray, List.map_cons, List.map_nil, hs, hx, hr]
  exact hK _ _ h
/-- 'append(c, make([]byte, k)...)' in a walk. -/
theorem wpList_zeros (hgd : o.guard = none) (sl x : Operand) (ho : o.op = .call { callee := .builtin .append, args := #[sl, x], argTypes := #[51, 3] }) (hty : o.type = 51)
    (v : Value) (l : Bs) (k : Nat) (hs : a.eval sl = v) (hx : a.eval x = .int .i64 k) (hrow : ByteRow w v l) (h0 : 0 < k) (hsm : l.length + k ≤ 1000000000)
    (h : ∀ v' w', Hid (ByteRow w' v' (l ++ zerosR k)) → Hid (Onto w w' v v') → wpList Tryd.prog ops Q rest (a.put o.dst v') w') : wpList Tryd.prog ops Q (o :: rest) a w := by
  obtain ⟨v', w', hr, h2, h3⟩ := run_zeros w v l hrow k h0 hsm
  exact wpList_run hgd sl x 51 3 51 ho hty v _ v' w' hs hx hr (h v' w' h2 h3)
/-- 'append(c, s...)' of bytes in a walk. -/
theorem wpList_bytes (hgd : o.guard = none) (sl x : Operand) (ho : o.op = .call { callee := .builtin .append, args := #[sl, x], argTypes := #[51, 51] }) (hty : o.type = 51)
    (v y : Value) (l s : Bs) (hs : a.eval sl = v) (hx : a.eval x = y) (hrow : ByteRow w v l) (hfrom : From w y s.length (bv s)) (hsm : l.length + s.length ≤ 1000000000)
    (h : ∀ v' w', Hid (ByteRow w' v' (l ++ s)) → Hid (Onto w w' v v') → wpList Tryd.prog ops Q rest (a.put o.dst v') w') : wpList Tryd.prog ops Q (o :: rest) a w := by
  obtain ⟨v', w', hr, h2, h3⟩ := run_from8 w v l hrow y s hfrom hsm
  exact wpList_run hgd sl x 51 51 51 ho hty v _ v' w' hs hx hr (h v' w' h2 h3)
/-- 'copy(c[off:], s)' in a walk. -/
theorem wpList_copy (hgd : o.guard = none) (d s : Operand) (ho : o.op = .call { callee := .builtin .copy, args := #[d, s], argTypes := #[51, 51] })
    (dp : Option Addr) (dLen dCap : Nat) (x : Value) (hd : a.eval d = .slice dp dLen dCap) (hs : a.eval s = x) (v : Value) (c t : Bs) (off : Nat) (hrow : ByteRow w v c) (hfrom : From w x t.length (bv t))
    (hfit : off + t.length ≤ c.length) (hdl : dLen = c.length - off) (hdp : t.length ≠ 0 → ∃ g, v.ownBlock = some g ∧ dp = some ⟨g, off, none⟩)
    (h : ∀ w', Hid (ByteRow w' v (putR c off t)) → Hid (w.grownBy w' v.ownBlock) → wpList Tryd.prog ops Q rest (a.put o.dst (goInt t.length)) w') : wpList Tryd.prog ops Q (o :: rest) a w := by
  obtain ⟨sp, sCap, rfl, hsp⟩ := hfrom
  have hu : Tryd.prog.underlying 51 = some (.slice 5) := Tryd.underlying51
  have hsz : (Tryd.prog.info? 5).map (·.size) = some 1 := by kernel_rfl
  by_cases h0 : t.length = 0
  · obtain rfl : t = [] := List.eq_nil_of_length_eq_zero h0
    refine wpList_copy_nothing hgd d s 51 51 ho 5 hu hsz dp sp dLen dCap _ sCap hd hs (by simp) (h w ?_ ⟨rfl, rfl, rfl, Nat.le_refl _, fun _ _ _ => rfl⟩)
    have : putR c off [] = c := ext_get _ _ (by rw [put_len]; simp at hfit ⊢; omega) (fun i => by rw [put_get, if_neg (by simp)])
    rw [this]; exact hrow
  · obtain ⟨g, hg, rfl⟩ := hdp h0
    obtain ⟨ad, rfl, hcells⟩ := hsp h0
    rcases hrow.2 with ⟨rfl, _⟩ | ⟨g', cap, cur, rfl, hbg, hgg, hnc, hcm, hcs, htake⟩
    · cases hg
    · obtain rfl : g' = g := by simpa [Value.ownBlock] using hg
      have HCM := Lib.hid hcm
      clear hcm
      have hmin : (bv t).length = Nat.min t.length dLen := by rw [bv_len, hdl]; exact (Nat.min_eq_left (by omega)).symm
      rw [Nat.mul_one] at hcs htake
      have hfit2 : off + (bv t).length ≤ cur.size := by rw [bv_len, hcs]; exact Nat.le_trans hfit hnc
      have hgo := wpList_copy_own (P := Tryd.prog) (Q := Q) (rest := rest) (ops := ops) hgd d s 51 51 ho 5 hu hsz g' off dLen dCap ad t.length sCap hd hs cur 5 hgg (bv t) hmin hcells hfit2 (bv_one t)
      rw [bv_len] at hgo
      clear hd hs ho hu hsz
      refine hgo (h _ ⟨?_, .inr ⟨g', cap, _, ?_, hbg, setRow_heap w g' cur _ 5 _ hgg, ?_, HCM.out, ?_, ?_⟩⟩ ⟨rfl, rfl, rfl, by simp, fun k _ hk => setRow_other w g' k _ (fun e => hk (by simp [Value.ownBlock, e]))⟩)
      · rw [bv_len]; omega
      · rw [put_len]; congr 1; omega
      · rw [put_len]; omega
      · simp only [List.size_toArray, List.length_append, List.length_take, List.length_drop, Array.length_toList, bv_len] at hfit2 ⊢
        omega
      · have hpl : (putR c off t).length = c.length := by rw [put_len]; omega
        have e1 : cur.toList.take off = bv (c.take off) := by
          have := congrArg (List.take off) htake
          rw [List.take_take, bv_take] at this
          rw [← this]; congr 1; omega
        have e2 : (cur.toList.drop (off + t.length)).take (c.length - (off + t.length)) = bv (c.drop (off + t.length)) := by
          have := congrArg (List.drop (off + t.length)) htake
          rw [bv_drop, List.drop_take] at this
          rw [← this]
        have e3 : putR c off t = c.take off ++ t ++ c.drop (off + t.length) := by
          unfold putR
          have : off + t.length - c.length = 0 := by omega
          rw [this]
          simp [zerosR]
        have hlo : (c.take off).length = off := by simp; omega
        rw [hpl, e3, bv_app, bv_app, ← e2, e1]
        simp only [Nat.mul_one]
        rw [← List.append_assoc, List.take_append, List.take_of_length_le (by simp [bv_len]; omega)]
        congr 2
        simp [bv_len]
        omega
end
end Go.Proofs.YtgdkdihedgiegaaDoor

namespace Go.Proofs.YtgdkdihedgiegaaDoor
open Go.RowKit

theorem onto_cell {w w' : World} {v v' : Value} (h : Onto w w' v v') {p : Addr} {u : Value} (hc : w.cell? p = some u) (hn : v.ownBlock ≠ some p.block) : w'.cell? p = some u := by
  rw [World.cell?_of_block (h.grown.block p.block (cell_lt hc) (fun e => hn e.symm))]; exact hc
/-- The source of a copy lies in no block of v's. -/
def Apart (x v : Value) : Prop := ∀ k, x.ownBlock = some k → v.ownBlock ≠ some k
theorem From.onto {w w' : World} {x : Value} {m : Nat} {news : List Value} {v v' : Value} (h : From w x m news) (hl : m ≠ 0 → news ≠ []) (ho : Onto w w' v v') (ha : Apart x v) : From w' x m news ∧ (m ≠ 0 → Apart x v') := by
  obtain ⟨a, cap, rfl, hc⟩ := h
  refine ⟨⟨a, cap, rfl, fun hm => ?_⟩, fun hm => ?_⟩
  · obtain ⟨ad, rfl, hcc⟩ := hc hm
    refine ⟨ad, rfl, fun j u hu => onto_cell ho (hcc j u hu) ?_⟩
    have h2 : (ad.add j).block = ad.block := by unfold Addr.add; split <;> rfl
    rw [h2]
    exact ha ad.block rfl
  · obtain ⟨ad, rfl, hcc⟩ := hc hm
    intro k hk
    injection hk with hk
    subst hk
    rcases ho.at_ with h1 | h1
    · rw [h1]; exact ha ad.block rfl
    · rw [h1]
      intro e
      injection e with e
      cases hn : news with
      | nil => exact hl hm hn
      | cons u news =>
        have := cell_lt (hcc 0 u (by rw [hn]; rfl))
        simp [Addr.add] at this
        omega
theorem row_some {w : World} {v : Value} {l : Bs} (h : ByteRow w v l) (h0 : l ≠ []) : ∃ g cap n, v = .slice (some ⟨g, 0, none⟩) n cap ∧ Hid (n = l.length) ∧ n ≤ cap := by
  rcases h.2 with ⟨_, h1⟩ | ⟨g, cap, cur, rfl, _, _, h2, _⟩
  · exact absurd (List.eq_nil_of_length_eq_zero h1) h0
  · exact ⟨g, cap, _, rfl, rfl, h2⟩
theorem Onto.then {w w1 w2 : World} {v v1 : Value} (h : Onto w w1 v v1) (h2 : w1.grownBy w2 v1.ownBlock) : Onto w w2 v v1 := by
  refine ⟨⟨h2.os.trans h.grown.os, h2.tape.trans h.grown.tape, h2.output.trans h.grown.output, Nat.le_trans h.grown.size h2.size, fun k hk hn => ?_⟩, h.at_, fun e => Nat.lt_of_lt_of_le (h.big e) h2.size⟩
  refine (h2.block k (Nat.lt_of_lt_of_le hk h.grown.size) ?_).trans (h.grown.block k hk hn)
  rcases h.at_ with h1 | h1
  · rw [h1]; exact hn
  · rw [h1]; intro e; injection e with e; omega
theorem put_ext (c s : Bs) (off k : Nat) (hk : off + s.length = c.length + k) : putR (c ++ zerosR k) off s = putR c off s := by
  apply ext_get
  · rw [put_len, put_len]; simp [zeros_len]; omega
  · intro i
    rw [put_get, put_get, get_app, get_zeros]
    split
    · rfl
    · split
      · rfl
      · rename_i h; rw [get_far c i (by omega)]
theorem wpList_copy_at {w : World} {ops : Array Oper} {rest : List Oper} {o : Oper} {a : Act} {Q : Exit → Act → World → Prop} (hgd : o.guard = none) (d s : Operand) (ho : o.op = .call { callee := .builtin .copy, args := #[d, s], argTypes := #[51, 51] })
    (dp : Option Addr) (dLen dCap : Nat) (x : Value) (hd : a.eval d = .slice dp dLen dCap) (hs : a.eval s = x) (g n cp : Nat) (c t : Bs) (off : Nat) (hn : n = c.length) (hrow : ByteRow w (.slice (some ⟨g, 0, none⟩) n cp) c) (hfrom : From w x t.length (bv t))
    (hfit : off + t.length ≤ c.length) (hdl : dLen = n - off) (hdp : t.length ≠ 0 → dp = some ⟨g, off, none⟩)
    (h : ∀ w', Hid (ByteRow w' (.slice (some ⟨g, 0, none⟩) n cp) (putR c off t)) → Hid (w.grownBy w' (some g)) → wpList Tryd.prog ops Q rest (a.put o.dst (goInt t.length)) w') : wpList Tryd.prog ops Q (o :: rest) a w :=
  wpList_copy hgd d s ho dp dLen dCap x hd hs (.slice (some ⟨g, 0, none⟩) n cp) c t off hrow hfrom hfit (by rw [hdl, hn]) (fun h0 => ⟨g, rfl, hdp h0⟩) h
theorem zeros_app (c : Bs) (k : Nat) : (c ++ zerosR k).length = c.length + k := by simp [zeros_len]
set_option maxHeartbeats 1000000 in
set_option maxRecDepth 100000 in
theorem put_52 (w : World) (v x : Value) (c s : Bs) (off : Nat) (h : ByteRow w v c) (hx : From w x s.length (bv s)) (ha : Apart x v) (hc : c.length ≤ 20000000) (ho : off ≤ 20000000) (hs : s.length ≤ 20000000) :
    Calls Tryd.prog 52 #[v, .int .i64 off, x] w fun e w' => ∃ v', e = .returned v' ∧ ByteRow w' v' (putR c off s) ∧ Onto w w' v v' := by
  have H := Lib.hid h
  have HX := Lib.hid hx
  have HA := Lib.hid ha
  have HLT := Lib.hid (row_lt h)
  obtain ⟨va, cap, rfl⟩ := row_shape h
  have hrow := h.2
  obtain ⟨xa, xcap, rfl, _⟩ := hx
  have hbs : s.length ≠ 0 → bv s ≠ [] := fun h h2 => h (by rw [← bv_len, h2]; rfl)
  have HBS := Lib.hid hbs
  clear h ha hbs
  rename_i hcl
  clear hcl
  have HROW := Lib.hid hrow
  clear hrow
  by_cases hm : c.length < off + s.length
  · obtain ⟨k, hk⟩ : ∃ k : Nat, off + s.length = c.length + k := ⟨off + s.length - c.length, by omega⟩
    have e1 : (off : Int) + (s.length : Int) - (c.length : Int) = k := by omega
    have hk0 : 0 < k := by omega
    have hkb : k ≤ 40000000 := by omega
    have HK := Lib.hid hk
    clear hk
    go_enter Tryd.func52, Tryd.ntmps52
    go_wp2_with (first
      | (at_builtin; refine wpList_zeros rfl _ _ rfl rfl (.slice va c.length cap) c k rfl rfl H.out hk0 (by omega) ?_; intro v1 w1 HB1 HO1; obtain ⟨g, cp, n, rfl, HN, hcp⟩ := row_some HB1.out (by intro e; have := congrArg List.length e; simp [zeros_len] at this; omega); have hon : (off : Int) ≤ (n : Int) := (by have h1 := HN.out; have h2 := HK.out; rw [zeros_app] at h1; omega); have hn2 : (n : Int) ≤ cp := (by omega))
      | (refine wpList_copy_at rfl (.tmp 22) (.tmp 23) rfl _ _ _ (.slice xa s.length xcap) rfl rfl g n cp (c ++ zerosR k) s off HN.out HB1.out (HX.out.onto HBS.out HO1.out HA.out).1 (Nat.le_of_eq (HK.out.trans (zeros_app c k).symm)) rfl (fun h0 => by have h1 := HN.out; have h2 := HK.out; rw [zeros_app] at h1; exact if_neg (by omega)) ?_; intro w2 HB2 HG2))
    all_goals
      go_ret
      have HE := put_ext c s off k HK.out
      first
        | exact ⟨_, rfl, HE ▸ HB2.out, HO1.out.then HG2.out⟩
        | (obtain rfl : cp = off := by assumption
           exact ⟨_, rfl, HE ▸ HB2.out, HO1.out.then HG2.out⟩)
  · have hk : off + s.length ≤ c.length := by omega
    have e1 : (off : Int) + (s.length : Int) - (c.length : Int) ≤ 0 := by omega
    have hon : (off : Int) ≤ (c.length : Int) := by omega
    rcases HROW.out with ⟨hv, hl⟩ | ⟨g, cp, cur, hv, _, _, hcp, _⟩
    · injection hv with h1 h2 h3
      subst h1 h3
      obtain rfl : c = [] := List.eq_nil_of_length_eq_zero hl
      obtain rfl : off = 0 := by simp at hk; omega
      obtain rfl : s = [] := List.eq_nil_of_length_eq_zero (by simp at hk; omega)
      have HP : Hid (putR [] 0 [] = []) := rfl
      clear hl hk hon e1 hm
      go_enter Tryd.func52, Tryd.ntmps52
      go_wp2_with (refine wpList_copy rfl (.tmp 22) (.tmp 23) rfl none 0 0 (.slice xa 0 xcap) rfl rfl (.slice none 0 0) [] [] 0 H.out HX.out (by simp) rfl (fun h0 => absurd rfl h0) ?_; intro w2 HB2 HG2)
      go_ret
      exact ⟨_, rfl, HB2.out, ⟨HG2.out, .inl rfl, fun e => by cases e⟩⟩
    · injection hv with h1 h2 h3
      subst h1 h3
      have hn2 : (c.length : Int) ≤ cap := by omega
      clear hm
      have HK := Lib.hid hk
      obtain ⟨n, HN⟩ : ∃ n, Hid (n = c.length) := ⟨_, rfl⟩
      rw [← HN.out] at H HLT hc hcp hon hn2 e1 ⊢
      clear hk
      go_enter Tryd.func52, Tryd.ntmps52
      go_wp2_with (refine wpList_copy_at rfl (.tmp 22) (.tmp 23) rfl _ _ _ (.slice xa s.length xcap) rfl rfl g n cap c s off HN.out H.out HX.out HK.out rfl (fun h0 => by have h1 := HN.out; have h2 := HK.out; exact if_neg (by omega)) ?_; intro w2 HB2 HG2)
      all_goals
        go_ret
        have HO : Onto w w2 (.slice (some ⟨g, 0, none⟩) n cap) (.slice (some ⟨g, 0, none⟩) n cap) := ⟨HG2.out, .inl rfl, fun e => by have := HLT.out _ e; omega⟩
        first
          | exact ⟨_, rfl, HB2.out, HO⟩
          | (obtain rfl : cap = off := by assumption
             exact ⟨_, rfl, HB2.out, HO⟩)
end Go.Proofs.YtgdkdihedgiegaaDoor
