/-
  The laws at append and copy, for bytes and for whatever else lies in a row of its own.
-/
import Derived.Test.YtgdkdihedgiegaaDoorA2
namespace Go.Proofs.YtgdkdihedgiegaaDoor
open Go.RowKit

/-- What is appended: m elements, their cells. -/
structure From (w : World) (x : Value) (m : Nat) (news : List Value) : Prop where
  ex : ∃ a cap, x = .slice a m cap ∧ (m ≠ 0 → ∃ ad, a = some ad ∧ ∀ j u, news[j]? = some u → w.cell? (ad.add j) = some u)
theorem add_lit (b off j : Nat) : (⟨b, off, none⟩ : Addr).add j = ⟨b, off + j, none⟩ := by unfold Addr.add; split <;> simp_all
theorem From.row {w : World} {B e k n : Nat} {v : Value} {xs : List Value} (h : w.ownsRow B e k v n xs) : From w v n xs := by
  rcases h.2 with ⟨rfl, rfl⟩ | ⟨g, cap, cur, rfl, _⟩
  · exact ⟨⟨_, _, rfl, fun hh => absurd rfl hh⟩⟩
  · exact ⟨⟨_, _, rfl, fun _ => ⟨_, rfl, h.cells (g := g) rfl⟩⟩⟩
theorem From.keep {w w' : World} {x : Value} {m : Nat} {news : List Value} (h : From w x m news) (hk : ∀ p v, w.cell? p = some v → w'.cell? p = some v) : From w' x m news := by
  obtain ⟨a, cap, hx, hc⟩ := h
  refine ⟨a, cap, hx, fun hm => ?_⟩
  obtain ⟨ad, ha, hc⟩ := hc hm
  exact ⟨ad, ha, fun j u hu => hk _ _ (hc j u hu)⟩
/-- 'append(v, x...)'. -/
theorem run_from (t ty e : TypeId) (z : Value) (size bytes : Nat) (ht : Tryd.prog.underlying t = some (.slice e)) (hinfo : (Tryd.prog.info? e).map (fun i => (i.zero, i.size, i.bytes)) = some (some z, size, bytes)) (hzs : z.cells.size = size) (hsz : 0 < size) (hbyt : bytes ≤ 1000)
    (w : World) (v : Value) (n : Nat) (xs : List Value) (h : w.ownsRow 0 e size v n xs) (x : Value) (m : Nat) (news : List Value) (hx : From w x m news) (hl : news.length = m * size) (h1 : ∀ u ∈ news, u.oneCell' = true) (hs : n + m ≤ 1000000000) :
    ∃ v' w', (Builtin.append_ #[t, t] ty #[v, x]).run Tryd.prog w = .ok v' w' ∧ w'.ownsRow 0 e size v' (n + m) (xs ++ news) ∧ Onto w w' v v' := by
  obtain ⟨i, hi, hz, hsize, hby⟩ := info_parts hinfo
  obtain ⟨a, cap, rfl, hc⟩ := hx
  by_cases hm : m = 0
  · subst hm
    obtain rfl : news = [] := List.eq_nil_of_length_eq_zero (by simpa using hl)
    refine ⟨v, w, ?_, by simpa using h, Onto.refl w v (row_lt h)⟩
    rcases h.2 with ⟨rfl, rfl⟩ | ⟨g, cp, cur, rfl, _, _, hnc, _⟩ <;> cases a <;>
      simp [Builtin.append_, run_underlying ht, sizeOf, typeInfo, Builtin.lenOf, Builtin.firstCells, storeCells, loadCells, loadCellsFrom, *]
  · obtain ⟨ad, rfl, hcc⟩ := hc hm
    have hb2 : (n + m) * bytes ≤ 1000000000 * 1000 := Nat.mul_le_mul hs hbyt
    obtain ⟨v', w', hr, h2, h3, h4, h5⟩ := run_append_own_at (P := Tryd.prog) w 0 t ty e i z size bytes ht hi hz hsize hby hzs hsz v n xs h ad m cap news hl hcc h1 (by unfold maxLen; omega) (by omega) (Nat.zero_le _)
    refine ⟨v', w', hr, h2, h3, h5, fun e => ?_⟩
    exact row_lt h2 _ e
theorem run_from8 (w : World) (v : Value) (l : Bs) (h : ByteRow w v l) (x : Value) (s : Bs) (hx : From w x s.length (bv s)) (hs : l.length + s.length ≤ 1000000000) :
    ∃ v' w', (Builtin.append_ #[51, 51] 51 #[v, x]).run Tryd.prog w = .ok v' w' ∧ ByteRow w' v' (l ++ s) ∧ Onto w w' v v' := by
  obtain ⟨v', w', hr, h2, h3⟩ := run_from 51 51 5 (.int .u8 0) 1 1 Tryd.underlying51 i5 rfl (by decide) (by decide) w v l.length (bv l) h x s.length (bv s) hx (by rw [bv_len]; omega) (bv_one s) hs
  exact ⟨v', w', hr, by show World.ownsRow _ _ _ _ _ _ _; rw [List.length_append, bv_app]; exact h2, h3⟩
section
variable {w : World} {ops : Array Oper} {rest : List Oper} {o : Oper} {a : Act} {Q : Exit → Act → World → Prop}
theorem wpList_run (hgd : o.guard = none) (sl x : Operand) (t t' ty : TypeId) (ho : o.op = .call { callee := .builtin .append, args := #[sl, x], argTypes := #[t, t'] }) (hty : o.type = ty)
    (v y v' : Value) (w' : World) (hs : a.eval sl = v) (hx : a.eval x = y) (hr : (Builtin.append_ #[t, t'] ty #[v, y]).run Tryd.prog w = .ok v' w')
    (h : wpList Tryd.prog ops Q rest (a.put o.dst v') w') : wpList Tryd.prog ops Q (o :: rest) a w := by
  refine wpList_plain hgd fun K hK => ?_
  unfold Oper.wp execOp
  simp only [ho, hty, resolve, invoke, builtin, Sem.run_bind, Sem.run_pure, Result.andThen_ok, List.map_toArray, List.map_cons, List.map_nil, hs, hx, hr]
  exact hK _ _ h
/-- 'append(c, make([]byte, k)...)' in a walk. -/
theorem wpList_zeros (hgd : o.guard = none) (sl x : Operand) (ho : o.op = .call { callee := .builtin .append, args := #[sl, x], argTypes := #[51, 3] }) (hty : o.type = 51)
    (v : Value) (l : Bs) (k : Nat) (hs : a.eval sl = v) (hx : a.eval x = .int .i64 k) (hrow : ByteRow w v l) (h0 : 0 < k) (hsm : l.length + k ≤ 1000000000)
    (h : ∀ v' w', Hid (ByteRow w' v' (l ++ zerosR k)) → Hid (Onto w w' v v') → wpList Tryd.prog ops Q rest (a.put o.dst v') w') : wpList Tryd.prog ops Q (o :: rest) a w := by
  obtain ⟨v', w', hr, h2, h3⟩ := run_zeros w v l hrow k h0 hsm
  exact wpList_run hgd sl x 51 3 51 ho hty v _ v' w' hs hx hr (h v' w' h2 h3)
/-- 'append(c, s...)' of bytes in a walk. -/
theorem wpList_bytes (hgd : o.guard = none) (sl x : Operand) (ho : o.op = .call { callee := .builtin .append, args := #[sl, x], argTypes := #[51, 51] }) (hty : o.type = 51)
    (v y : Value) (l s : Bs) (hs : a.eval sl = v) (hx : a.eval x = y) (hrow : ByteRow w v l) (hfrom : From w y s.length (bv s)) (hsm : l.length + s.length ≤ 1000000000)
    (h : ∀ v' w', Hid (ByteRow w' v' (l ++ s)) → Hid (Onto w w' v v') → wpList Tryd.prog ops Q rest (a.put o.dst v') w') : wpList Tryd.prog ops Q (o :: rest) a w := by
  obtain ⟨v', w', hr, h2, h3⟩ := run_from8 w v l hrow y s hfrom hsm
  exact wpList_run hgd sl x 51 51 51 ho hty v _ v' w' hs hx hr (h v' w' h2 h3)
/-- 'copy(c[off:], s)' in a walk. -/
theorem wpList_copy (hgd : o.guard = none) (d s : Operand) (ho : o.op = .call { callee := .builtin .copy, args := #[d, s], argTypes := #[51, 51] })
    (dp : Option Addr) (dLen dCap : Nat) (x : Value) (hd : a.eval d = .slice dp dLen dCap) (hs : a.eval s = x) (v : Value) (c t : Bs) (off : Nat) (hrow : ByteRow w v c) (hfrom : From w x t.length (bv t))
    (hfit : off + t.length ≤ c.length) (hdl : dLen = c.length - off) (hdp : t.length ≠ 0 → ∃ g, v.ownBlock = some g ∧ dp = some ⟨g, off, none⟩)
    (h : ∀ w', Hid (ByteRow w' v (putR c off t)) → Hid (w.grownBy w' v.ownBlock) → wpList Tryd.prog ops Q rest (a.put o.dst (goInt t.length)) w') : wpList Tryd.prog ops Q (o :: rest) a w := by
  obtain ⟨sp, sCap, rfl, hsp⟩ := hfrom
  have hu : Tryd.prog.underlying 51 = some (.slice 5) := Tryd.underlying51
  have hsz : (Tryd.prog.info? 5).map (·.size) = some 1 := by kernel_rfl
  by_cases h0 : t.length = 0
  · obtain rfl : t = [] := List.eq_nil_of_length_eq_zero h0
    refine wpList_copy_nothing hgd d s 51 51 ho 5 hu hsz dp sp dLen dCap _ sCap hd hs (by simp) (h w ?_ ⟨rfl, rfl, rfl, Nat.le_refl _, fun _ _ _ => rfl⟩)
    have : putR c off [] = c := ext_get _ _ (by rw [put_len]; simp at hfit ⊢; omega) (fun i => by rw [put_get, if_neg (by simp)])
    rw [this]; exact hrow
  · obtain ⟨g, hg, rfl⟩ := hdp h0
    obtain ⟨ad, rfl, hcells⟩ := hsp h0
    rcases hrow.2 with ⟨rfl, _⟩ | ⟨g', cap, cur, rfl, hbg, hgg, hnc, hcm, hcs, htake⟩
    · cases hg
    · obtain rfl : g' = g := by simpa [Value.ownBlock] using hg
      have HCM := Lib.hid hcm
      clear hcm
      have hmin : (bv t).length = Nat.min t.length dLen := by rw [bv_len, hdl]; exact (Nat.min_eq_left (by omega)).symm
      rw [Nat.mul_one] at hcs htake
      have hfit2 : off + (bv t).length ≤ cur.size := by rw [bv_len, hcs]; exact Nat.le_trans hfit hnc
      have hgo := wpList_copy_own (P := Tryd.prog) (Q := Q) (rest := rest) (ops := ops) hgd d s 51 51 ho 5 hu hsz g' off dLen dCap ad t.length sCap hd hs cur 5 hgg (bv t) hmin hcells hfit2 (bv_one t)
      rw [bv_len] at hgo
      clear hd hs ho hu hsz
      refine hgo (h _ ⟨?_, .inr ⟨g', cap, _, ?_, hbg, setRow_heap w g' cur _ 5 _ hgg, ?_, HCM.out, ?_, ?_⟩⟩ ⟨rfl, rfl, rfl, by simp, fun k _ hk => setRow_other w g' k _ (fun e => hk (by simp [Value.ownBlock, e]))⟩)
      · rw [bv_len]; omega
      · rw [put_len]; congr 1; omega
      · rw [put_len]; omega
      · simp only [List.size_toArray, List.length_append, List.length_take, List.length_drop, Array.length_toList, bv_len] at hfit2 ⊢
        omega
      · have hpl : (putR c off t).length = c.length := by rw [put_len]; omega
        have e1 : cur.toList.take off = bv (c.take off) := by
          have := congrArg (List.take off) htake
          rw [List.take_take, bv_take] at this
          rw [← this]; congr 1; omega
        have e2 : (cur.toList.drop (off + t.length)).take (c.length - (off + t.length)) = bv (c.drop (off + t.length)) := by
          have := congrArg (List.drop (off + t.length)) htake
          rw [bv_drop, List.drop_take] at this
          rw [← this]
        have e3 : putR c off t = c.take off ++ t ++ c.drop (off + t.length) := by
          unfold putR
          have : off + t.length - c.length = 0 := by omega
          rw [this]
          simp [zerosR]
        have hlo : (c.take off).length = off := by simp; omega
        rw [hpl, e3, bv_app, bv_app, ← e2, e1]
        simp only [Nat.mul_one]
        rw [← List.append_assoc, List.take_append, List.take_of_length_le (by simp [bv_len]; omega)]
        congr 2
        simp [bv_len]
        omega
end
end Go.Proofs.YtgdkdihedgiegaaDoor
