/-
  What Made leaves, written by the reference; a string's bytes in memory; the walk of MarcParses.
-/
import Derived.Test.YtfkleeigdplapaaDoorM3
import Derived.Test.YtfkleeigdplapaaDoorW7
import Derived.Test.YtfkleeigdplapaaDoorP27
import Derived.Lib.ConvBytes
namespace Go.Proofs.YtfkleeigdplapaaDoor
open Go.RowKit
attribute [local go_sem ↓] Go.wp_at_zero Go.wp_at_succ

/-- What Made leaves, for the next call. -/
def MadeAt (r : RecD) (sa : Option Addr) (cap : Nat) (w : World) : Prop := GoodR r ∧ FieldsAt 0 w.heap.size w (.slice sa r.fields.length cap) r.fields
theorem MadeAt.below {r : RecD} {sa : Option Addr} {cap : Nat} {w w' : World} (h : MadeAt r sa cap w) (hb : Below w.heap.size w w') : MadeAt r sa cap w' := ⟨h.1, fields_up h.2 (Nat.le_refl _) hb⟩
theorem made_at (n : Nat) (x : Value) (w : World) (hx : IntsAt w x n) (hn : n ≤ maxLen) :
    Calls Tryd.prog 15 #[x] w fun e w' => ∃ (r : RecD) (sa : Option Addr) (cap : Nat), e = .returned (.agg #[.int .u8 r.kind.toNat, .int .u8 r.level.toNat, .slice sa r.fields.length cap]) ∧ Below w.heap.size w w' ∧ MadeAt r sa cap w' ∧ Hid (r.fields.length = min n 12) :=
  (made_15 n x w hx hn).mono fun _ _ ⟨r, hg, hn, hb, sa, cap, he, hf⟩ => ⟨r, sa, cap, he, hb, ⟨hg, hf.mono (Nat.zero_le _) (Nat.le_refl _)⟩, hn⟩
theorem good_write {r : RecD} (h : GoodR r) : writeR r = (writeB r, 0) := by unfold writeR; rw [if_pos h.zero.1]
theorem good_len {r : RecD} (h : GoodR r) : 26 ≤ (writeB r).length ∧ (writeB r).length ≤ 1000 := by
  have h1 := write_length h.zero.1
  have h2 := h.zero.2
  have h3 := h.many
  omega
theorem write20_at (r : RecD) (sa : Option Addr) (cap : Nat) (w : World) (h : MadeAt r sa cap w) :
    Calls Tryd.prog 20 #[.agg #[.int .u8 r.kind.toNat, .int .u8 r.level.toNat, .slice sa r.fields.length cap]] w fun e w' => e = .returned (.tuple #[S (writeB r), .int .i64 0]) ∧ Below w.heap.size w w' := by
  have := write_20 r (recV r (.slice sa r.fields.length cap)) w ⟨_, rfl, h.2⟩ h.1.small
  rw [good_write h.1] at this
  exact this
theorem IntsAt.below {w w' : World} {v : Value} {n : Nat} (h : IntsAt w v n) (hb : Below w.heap.size w w') : IntsAt w' v n := by
  obtain ⟨a, cap, hv, h⟩ := h
  refine ⟨a, cap, hv, fun h0 => ?_⟩
  obtain ⟨b, off, ha, hlt, hc⟩ := h h0
  refine ⟨b, off, ha, Nat.lt_of_lt_of_le hlt hb.size, fun j hj => ?_⟩
  obtain ⟨z, hz⟩ := hc j hj
  exact ⟨z, by rw [hb.cell (p := ⟨b, off + j, none⟩) hlt]; exact hz⟩
theorem IntsAt.shape {w : World} {v : Value} {n : Nat} (h : IntsAt w v n) : ∃ a cap, v = .slice a n cap := by
  obtain ⟨a, cap, hv, _⟩ := h; exact ⟨a, cap, hv⟩

/-- Bytes in a block. -/
def BytesZ (w : World) (B : Nat) (Z : List Int) : Prop := (∀ j (h : j < Z.length), w.cell? ⟨B, j, none⟩ = some (.int .u8 Z[j])) ∧ ∀ j, j < Z.length → w.frozen? ⟨B, j, none⟩ = false
theorem conv_out (l : Bs) (w : World) : ∃ w' cp Z, (convert 9 40 (S l)).run Tryd.prog w = .ok (.slice (some ⟨w.heap.size, 0, none⟩) l.length cp) w' ∧ Below w.heap.size w w' ∧ w.heap.size < w'.heap.size ∧ Z.length = l.length ∧ BytesZ w' w.heap.size Z := by
  refine ⟨_, _, l.map (fun b => (b.toNat : Int)), Lib.run_convert_string_bytes w 9 40 5 ⟨l.toArray⟩ Tryd.underlying9 Tryd.underlying40 Tryd.underlying5, ⟨rfl, rfl, rfl, ?_, ?_⟩, ?_, by simp, ?_, ?_⟩
  · rw [Lib.bytesWorld_size]; omega
  · intro k hk; exact Lib.bytesWorld_at_old _ _ _ k hk
  · rw [Lib.bytesWorld_size]; omega
  · intro j hj
    have hj' : j < l.length := by simpa using hj
    have := Lib.bytesWorld_cell w 5 ⟨l.toArray⟩ j (by simpa [ByteArray.size] using hj')
    rw [this]
    simp [hj']
  · intro j hj
    have hj' : j < l.length := by simpa using hj
    have h := Lib.bytesWorld_at_new w 5 ⟨l.toArray⟩
    simp only [World.frozen?, h]
    simp [Lib.bytesCells, ByteArray.size]
    omega
/-- A byte is stored. -/
theorem BytesZ.set {w : World} {B : Nat} {Z : List Int} (h : BytesZ w B Z) (m : Nat) (v : Int) (hm : m < Z.length) : BytesZ (w.setCell ⟨B, m, none⟩ (.int .u8 v)) B (Z.set m v) := by
  refine ⟨fun j hj => ?_, fun j hj => by rw [World.frozen?_setCell]; exact h.2 j (by simpa using hj)⟩
  have hj' : j < Z.length := by simpa using hj
  rw [List.getElem_set]
  split
  · rename_i e
    subst e
    apply World.cell?_setCell_same; exact h.1 m hm
  · rename_i e
    refine Eq.trans ?_ (h.1 j hj')
    apply World.cell?_setCell_other; intro he; injection he with _ he; exact e he
theorem set_far (w : World) (B B' m o : Nat) (u v : Value) (h : B' ≠ B) (hc : w.cell? ⟨B', o, none⟩ = some u) : (w.setCell ⟨B, m, none⟩ v).drew.cell? ⟨B', o, none⟩ = some u := by
  refine Eq.trans (World.cell?_of_block (w := w) (a := ⟨B', o, none⟩) ?_) hc
  exact Below.heap_setCell _ _ _ _ h
theorem BytesZ.below {w w' : World} {B : Nat} {Z : List Int} (h : BytesZ w B Z) (hB : B < w.heap.size) (hb : Below w.heap.size w w') : BytesZ w' B Z :=
  ⟨fun j hj => by rw [hb.cell (p := ⟨B, j, none⟩) hB]; exact h.1 j hj, fun j hj => by rw [hb.frozen (p := ⟨B, j, none⟩) hB]; exact h.2 j hj⟩
theorem BytesZ.conv {w : World} {B : Nat} {Z : List Int} (h : BytesZ w B Z) (cp : Nat) : (convert 40 9 (.slice (some ⟨B, 0, none⟩) Z.length cp)).run Tryd.prog w = .ok (S (Z.map fun n => UInt8.ofNat n.toNat)) w :=
  conv_cells w ⟨B, 0, none⟩ cp Z (fun j hj => by
    have : (⟨B, 0, none⟩ : Addr).add j = ⟨B, j, none⟩ := by unfold Addr.add; split <;> simp_all
    rw [this]; exact h.1 j hj)
theorem mod_int (z Mi : Int) (M : Nat) (h : 1 ≤ M) (h2 : M ≤ 1000000) (hM : Mi = M) (w : World) : Calls Tryd.prog 21 #[.int .i64 z, .int .i64 Mi] w fun e w' => ∃ m : Nat, m < M ∧ e = .returned (.int .i64 m) ∧ w = w' := by
  subst hM; exact mod_at z M h h2 w
theorem BytesZ.drew {w : World} {B : Nat} {Z : List Int} (h : BytesZ w B Z) : BytesZ w.drew B Z := h
set_option maxHeartbeats 4000000 in
set_option maxRecDepth 100000 in
theorem parses_4 (n : Nat) (x : Value) (a b c d : Int) (raw : Bs) (w : World) (hT : Tabs w) (hx : IntsAt w x n) (hn : n ≤ maxLen) (hr : raw.length ≤ maxLen) :
    Calls Tryd.prog 4 #[x, .agg #[.int .i64 a, .int .i64 b, .int .i64 c, .int .i64 d], S raw] w fun e w' => e = .returned (.bool true) ∧ Below w.heap.size w w' := by
  unfold maxLen at hr
  have HT := Lib.hid (fun W (h : Below w.heap.size w W) => tabs_below hT h)
  have H13 := Lib.hid (fun W (h : Below w.heap.size w W) => sanity_13 W (tabs_below hT h))
  have H15 := Lib.hid (fun W (h : Below w.heap.size w W) => made_at n x W (hx.below h) hn)
  obtain ⟨sa0, cap0, rfl⟩ := hx.shape
  clear hT hx
  have hx100 : (List.take (min (↑(List.length raw)) 100 : Int).toNat raw).length ≤ 100 := by simp; omega
  have h01 : 0 ≤ min (↑(List.length raw)) (100 : Int) ∧ min (↑(List.length raw)) (100 : Int) ≤ raw.length := by omega
  go_enter Tryd.func4, Tryd.ntmps4
  have HQ : Hid (∀ W, Below (w.heap.size + 1) (w.alloc (Obj.cells #[.int .i64 a, .int .i64 b, .int .i64 c, .int .i64 d] 39)) W → W.cell? ⟨w.heap.size, 0, none⟩ = some (.int .i64 a) ∧ W.cell? ⟨w.heap.size, 1, none⟩ = some (.int .i64 b) ∧ W.cell? ⟨w.heap.size, 2, none⟩ = some (.int .i64 c) ∧ W.cell? ⟨w.heap.size, 3, none⟩ = some (.int .i64 d)) := fun W h => by
    refine ⟨?_, ?_, ?_, ?_⟩ <;> (rw [h.cell (p := ⟨w.heap.size, _, none⟩) (by simp)]; go_simp)
  go_wp2_with (first
    | (go_at_call 13; ((with_reducible refine Calls.mono (H13.out _ (alloc_below1 _ _)) ?_); rintro e w1 ⟨rfl, hb1⟩; have HB1 : Hid (Below (w.heap.size + 1) (w.alloc (Obj.cells #[.int .i64 a, .int .i64 b, .int .i64 c, .int .i64 d] 39)) w1) := hb1.mono (by simp)))
    | (go_at_call 15; ((with_reducible refine Calls.mono (H15.out _ (btr (alloc_below1 _ _) HB1.out (by omega))) ?_); rintro e w2 ⟨r, sa, cap, rfl, hb2, hm2, _⟩; have HM2 := Lib.hid hm2; clear hm2; have HB2 := Lib.hid (btr HB1.out hb2 (by have := HB1.out.size; simpa using this)))))
  obtain ⟨sl, hsl⟩ : ∃ l, l = writeB r := ⟨_, rfl⟩
  have hlen := good_len HM2.out.1
  have H20 := Lib.hid (write20_at r sa cap w2 HM2.out)
  rw [← hsl] at H20 hlen
  clear hsl
  obtain ⟨hl26, hl1000⟩ := hlen
  ((with_reducible refine Calls.mono H20.out ?_); rintro e w3 ⟨rfl, hb3⟩)
  have HB3 := Lib.hid (btr HB2.out hb3 (by have := HB2.out.size; simpa using this))
  have hw3 : w.heap.size < w3.heap.size := by have := HB3.out.size; simp at this; omega
  obtain ⟨w4, cp, Z0, hcv, hB4, hz4, hzl, hbz⟩ := conv_out sl w3
  have HZ0 := Lib.hid hzl
  have HBZ := Lib.hid hbz
  clear hzl hbz H20
  go_wp2_with fail
  go_loopw [11] (fun i wx => ∃ (k : Nat) (Z : List Int), k ≤ 2 ∧ i = .int .i64 k ∧ Hid (Z.length = sl.length) ∧ Hid (BytesZ wx w3.heap.size Z) ∧ Below w3.heap.size w3 wx ∧ w3.heap.size < wx.heap.size) (fun i _ => 2 - (intOf i).toNat)
  case atStart => exact ⟨0, Z0, by omega, rfl, HZ0, HBZ, hB4, hz4⟩
  case round =>
    obtain ⟨k, Z, hk, rfl, HZL, HBZ, hbx, hzx⟩ := hrel
    obtain ⟨q0, q1, q2, q3⟩ := HQ.out wr (btr HB3.out hbx (by omega))
    by_cases hlt : k < 2
    · have hk01 : k = 0 ∨ k = 1 := by omega
      have HST : Hid (∀ m (hm : m < sl.length), wr.cell? ⟨w3.heap.size, m, none⟩ = some (.int .u8 (Z[m]'(by have := HZL.out; omega))) ∧ wr.frozen? ⟨w3.heap.size, m, none⟩ = false) := fun m hm => ⟨HBZ.out.1 m _, HBZ.out.2 m (by have := HZL.out; omega)⟩
      clear hcv
      rcases hk01 with rfl | rfl
      · go_wp2_with fail
        go_region_held3 (fun w' => w'.cell? ⟨w.heap.size, 0, none⟩ = some (.int .i64 a) ∧ w'.cell? ⟨w.heap.size, 1, none⟩ = some (.int .i64 b)) (first | (exact ⟨set_far _ _ _ _ _ _ _ (by omega) q0, set_far _ _ _ _ _ _ _ (by omega) q1⟩) | go_keep)
          ((go_at_call 21; ((with_reducible refine Calls.mono (mod_at _ sl.length (by omega) (by omega) _) ?_); rintro e w' ⟨m, hm, rfl, rfl⟩; obtain ⟨s1, s2⟩ := HST.out m hm)))
        go_wp2_with fail
        go_roundw
        case rel => exact ⟨1, Z.set m (IntKind.u8.wrap b), by omega, by go_num, by have := HZL.out; simpa [Hid] using this, (HBZ.out.set m _ (by have := HZL.out; omega)).drew, (hbx.setCell (by simp) _).drew, by simpa using hzx⟩
        case measure => simp [intOf]
      · go_wp2_with fail
        go_region_held3 (fun w' => w'.cell? ⟨w.heap.size, 2, none⟩ = some (.int .i64 c) ∧ w'.cell? ⟨w.heap.size, 3, none⟩ = some (.int .i64 d)) (first | (exact ⟨set_far _ _ _ _ _ _ _ (by omega) q2, set_far _ _ _ _ _ _ _ (by omega) q3⟩) | go_keep)
          ((go_at_call 21; ((with_reducible refine Calls.mono (mod_at _ sl.length (by omega) (by omega) _) ?_); rintro e w' ⟨m, hm, rfl, rfl⟩; obtain ⟨s1, s2⟩ := HST.out m hm)))
        go_wp2_with fail
        go_roundw
        case rel => exact ⟨2, Z.set m (IntKind.u8.wrap d), by omega, by go_num, by have := HZL.out; simpa [Hid] using this, (HBZ.out.set m _ (by have := HZL.out; omega)).drew, (hbx.setCell (by simp) _).drew, by simpa using hzx⟩
        case measure => simp [intOf]
    · obtain ⟨L, hL⟩ : ∃ L : Bs, L = Z.map fun n => UInt8.ofNat n.toNat := ⟨_, rfl⟩
      have hLl : L.length ≤ 1000 := by rw [hL, List.length_map, HZL.out]; exact hl1000
      have hcb := HBZ.out.conv cp
      rw [← hL, HZL.out] at hcb
      have HBW := Lib.hid (btr (alloc_below1 w (Obj.cells #[.int .i64 a, .int .i64 b, .int .i64 c, .int .i64 d] 39)) (btr HB3.out hbx (by omega)) (by omega))
      clear hL hcv HBZ HZL
      go_wp2_with fail
      generalize (List.take (min (↑(List.length raw)) 100 : Int).toNat raw) = X at *
      ((with_reducible refine Calls.mono (parses_at L _ (by omega) (HT.out _ HBW.out)) ?_); rintro e w5 ⟨rfl, hb5⟩; have HB5 := Lib.hid (btr HBW.out hb5 HBW.out.size); obtain ⟨q0, q1, q2, q3⟩ := HQ.out w5 (btr (btr HB3.out hbx (by omega)) hb5 (by omega)))
      go_wp2_with (go_at_call 21; ((with_reducible refine Calls.mono (mod_int _ _ (sl.length + 1) (by omega) (by omega) (by simp) _) ?_); rintro e w' ⟨m, hm, rfl, rfl⟩; have hmi : (m : Int) ≤ sl.length := (by omega)))
      ((with_reducible refine Calls.mono (parses_at (List.take m sl) _ (by simp; omega) (HT.out _ HB5.out)) ?_); rintro e w6 ⟨rfl, hb6⟩; have HB6 := Lib.hid (btr HB5.out hb6 HB5.out.size))
      go_wp2_with fail
      ((with_reducible refine Calls.mono (parses_at (sl ++ X) _ (by simp; omega) (HT.out _ HB6.out)) ?_); rintro e w7 ⟨rfl, hb7⟩; have HB7 := Lib.hid (btr HB6.out hb7 HB6.out.size))
      go_wp2_with fail
      ((with_reducible refine Calls.mono (parses_at X _ (by omega) (HT.out _ HB7.out)) ?_); rintro e w8 ⟨rfl, hb8⟩; have HB8 := Lib.hid (btr HB7.out hb8 HB7.out.size))
      go_wp2_with fail
      go_ret
      exact ⟨rfl, HB8.out⟩
end Go.Proofs.YtfkleeigdplapaaDoor
