/-
  The walks of AppendRune, of the builder's WriteRune, Reset and Write.
-/
import Derived.Test.YtpkacoknpedolaaDoorB2
namespace Go.Proofs.YtpkacoknpedolaaDoor
open Go.RowKit

def AppPost (B : Nat) (v : Value) (n : Nat) (xs news : List Value) (k : Nat) (w : World) (e : Ending) (w' : World) : Prop :=
  ∃ v', e = .returned v' ∧ w'.ownsRow B 5 1 v' (n + k) (xs ++ news) ∧ w.grownBy w' v.ownBlock ∧ (v'.ownBlock = v.ownBlock ∨ ∃ k, v'.ownBlock = some k ∧ w.heap.size ≤ k)
theorem at_new {w : World} {n : Nat} {v v' : Value} (h : v'.ownBlock = v.ownBlock ∨ v'.ownBlock = some n) (hn : w.heap.size ≤ n) : v'.ownBlock = v.ownBlock ∨ ∃ k, v'.ownBlock = some k ∧ w.heap.size ≤ k := by
  rcases h with h | h
  · exact .inl h
  · exact .inr ⟨_, h, hn⟩
set_option maxHeartbeats 4000000 in
set_option maxRecDepth 100000 in
theorem rune_one (B : Nat) (v : Value) (n : Nat) (xs : List Value) (r : Int) (h0 : 0 ≤ r) (h1 : r ≤ 127) (w : World) (hown : w.ownsRow B 5 1 v n xs) (hlen : n + 4 ≤ 140737488355328) (hBw : B ≤ w.heap.size) :
    Calls Tryd.prog 46 #[v, .int .i32 r] w fun e w' => AppPost B v n xs [.int .u8 r] 1 w e w' := by
  obtain ⟨i0, hi, hz0, hz1, hz2⟩ := info_parts i5
  go_enter Tryd.func46, Tryd.ntmps46
  go_wp2_with (at_builtin; refine wpList_append_own_at _ rfl _ _ 23 rfl B 5 i0 (.int .u8 0) 1 1 Tryd.underlying23 hi hz0 hz1 hz2 rfl (by decide) v n xs rfl (hown.alloc _) ⟨w.heap.size, 0, none⟩ 1 1 [.int .u8 r] rfl rfl ?c1 ?c2 ?c3 ?c4 ?c5 ?_)
  case c1 =>
    intro j u hj
    match j, hj with
    | 0, hj => simp at hj; subst hj; simp [Addr.add]
    | (j + 1), hj => simp at hj
  case c2 => intro u hu; simp at hu; rcases hu with rfl <;> rfl
  case c3 => unfold maxLen; omega
  case c4 => omega
  case c5 => simp; omega
  intro v' w2 hown' hgrow _ hat
  go_wp2
  go_ret
  exact ⟨v', rfl, hown', gr_alloc hown hgrow, at_new hat (by omega)⟩
set_option maxHeartbeats 4000000 in
set_option maxRecDepth 100000 in
theorem rune_two (B : Nat) (v : Value) (n : Nat) (xs : List Value) (r : Int) (h0 : 128 ≤ r) (h1 : r ≤ 2047) (w : World) (hown : w.ownsRow B 5 1 v n xs) (hlen : n + 4 ≤ 140737488355328) (hBw : B ≤ w.heap.size) :
    Calls Tryd.prog 53 #[v, .int .i32 r] w fun e w' => AppPost B v n xs [.int .u8 (192 + r / 64), .int .u8 (128 + r % 64)] 2 w e w' := by
  obtain ⟨i0, hi, hz0, hz1, hz2⟩ := info_parts i5
  go_enter Tryd.func53, Tryd.ntmps53
  go_wp2_with (at_builtin; refine wpList_append_own_at _ rfl _ _ 23 rfl B 5 i0 (.int .u8 0) 1 1 Tryd.underlying23 hi hz0 hz1 hz2 rfl (by decide) v n xs rfl (hown.alloc _) ⟨w.heap.size, 0, none⟩ 2 2 [.int .u8 (192 + r / 64), .int .u8 (128 + r % 64)] rfl rfl ?c1 ?c2 ?c3 ?c4 ?c5 ?_)
  case c1 =>
    intro j u hj
    match j, hj with
    | 0, hj => simp at hj; subst hj; simp [Addr.add]
    | 1, hj => simp at hj; subst hj; simp [Addr.add]
    | (j + 2), hj => simp at hj
  case c2 => intro u hu; simp at hu; rcases hu with rfl | rfl <;> rfl
  case c3 => unfold maxLen; omega
  case c4 => omega
  case c5 => simp; omega
  intro v' w2 hown' hgrow _ hat
  go_wp2
  go_ret
  exact ⟨v', rfl, hown', gr_alloc hown hgrow, at_new hat (by omega)⟩
set_option maxHeartbeats 4000000 in
set_option maxRecDepth 100000 in
theorem rune_lo (B : Nat) (v : Value) (n : Nat) (xs : List Value) (r : Int) (h0 : 2048 ≤ r) (h1 : r < 55296) (w : World) (hown : w.ownsRow B 5 1 v n xs) (hlen : n + 4 ≤ 140737488355328) (hBw : B ≤ w.heap.size) :
    Calls Tryd.prog 53 #[v, .int .i32 r] w fun e w' => AppPost B v n xs [.int .u8 (224 + r / 4096), .int .u8 (128 + r / 64 % 64), .int .u8 (128 + r % 64)] 3 w e w' := by
  obtain ⟨i0, hi, hz0, hz1, hz2⟩ := info_parts i5
  go_enter Tryd.func53, Tryd.ntmps53
  go_wp2_with (at_builtin; refine wpList_append_own_at _ rfl _ _ 23 rfl B 5 i0 (.int .u8 0) 1 1 Tryd.underlying23 hi hz0 hz1 hz2 rfl (by decide) v n xs rfl (hown.alloc _) ⟨w.heap.size, 0, none⟩ 3 3 [.int .u8 (224 + r / 4096), .int .u8 (128 + r / 64 % 64), .int .u8 (128 + r % 64)] rfl rfl ?c1 ?c2 ?c3 ?c4 ?c5 ?_)
  case c1 =>
    intro j u hj
    match j, hj with
    | 0, hj => simp at hj; subst hj; simp [Addr.add]
    | 1, hj => simp at hj; subst hj; simp [Addr.add]
    | 2, hj => simp at hj; subst hj; simp [Addr.add]
    | (j + 3), hj => simp at hj
  case c2 => intro u hu; simp at hu; rcases hu with rfl | rfl | rfl <;> rfl
  case c3 => unfold maxLen; omega
  case c4 => omega
  case c5 => simp; omega
  intro v' w2 hown' hgrow _ hat
  go_wp2
  go_ret
  exact ⟨v', rfl, hown', gr_alloc hown hgrow, at_new hat (by omega)⟩
set_option maxHeartbeats 4000000 in
set_option maxRecDepth 100000 in
theorem rune_hi (B : Nat) (v : Value) (n : Nat) (xs : List Value) (r : Int) (h0 : 57343 < r) (h1 : r ≤ 65535) (w : World) (hown : w.ownsRow B 5 1 v n xs) (hlen : n + 4 ≤ 140737488355328) (hBw : B ≤ w.heap.size) :
    Calls Tryd.prog 53 #[v, .int .i32 r] w fun e w' => AppPost B v n xs [.int .u8 (224 + r / 4096), .int .u8 (128 + r / 64 % 64), .int .u8 (128 + r % 64)] 3 w e w' := by
  obtain ⟨i0, hi, hz0, hz1, hz2⟩ := info_parts i5
  go_enter Tryd.func53, Tryd.ntmps53
  go_wp2_with (at_builtin; refine wpList_append_own_at _ rfl _ _ 23 rfl B 5 i0 (.int .u8 0) 1 1 Tryd.underlying23 hi hz0 hz1 hz2 rfl (by decide) v n xs rfl (hown.alloc _) ⟨w.heap.size, 0, none⟩ 3 3 [.int .u8 (224 + r / 4096), .int .u8 (128 + r / 64 % 64), .int .u8 (128 + r % 64)] rfl rfl ?c1 ?c2 ?c3 ?c4 ?c5 ?_)
  case c1 =>
    intro j u hj
    match j, hj with
    | 0, hj => simp at hj; subst hj; simp [Addr.add]
    | 1, hj => simp at hj; subst hj; simp [Addr.add]
    | 2, hj => simp at hj; subst hj; simp [Addr.add]
    | (j + 3), hj => simp at hj
  case c2 => intro u hu; simp at hu; rcases hu with rfl | rfl | rfl <;> rfl
  case c3 => unfold maxLen; omega
  case c4 => omega
  case c5 => simp; omega
  intro v' w2 hown' hgrow _ hat
  go_wp2
  go_ret
  exact ⟨v', rfl, hown', gr_alloc hown hgrow, at_new hat (by omega)⟩
/-- A character of the tables: no surrogate half. -/
def Ch16 (c : Nat) : Prop := c < 55296 ∨ (57343 < c ∧ c ≤ 65535)
instance (c : Nat) : Decidable (Ch16 c) := by unfold Ch16; infer_instance
theorem rune_53 (B : Nat) (v : Value) (n : Nat) (xs : List Value) (c : Nat) (h0 : 128 ≤ c) (hc : Ch16 c) (w : World) (hown : w.ownsRow B 5 1 v n xs) (hlen : n + 4 ≤ 140737488355328) (hBw : B ≤ w.heap.size) :
    Calls Tryd.prog 53 #[v, .int .i32 c] w fun e w' => AppPost B v n xs (Lib.runeCells c) (Lib.runeCells c).length w e w' := by
  unfold Ch16 at hc
  by_cases c1 : c ≤ 2047
  · rw [show Lib.runeCells c = [.int .u8 (192 + (c : Int) / 64), .int .u8 (128 + (c : Int) % 64)] by simp [Lib.runeCells, Lib.encodeRuneZ_two (r := (c : Int)) (by omega) (by omega)]]
    exact rune_two B v n xs c (by omega) (by omega) w hown hlen hBw
  by_cases c2 : c < 55296
  · rw [show Lib.runeCells c = [.int .u8 (224 + (c : Int) / 4096), .int .u8 (128 + (c : Int) / 64 % 64), .int .u8 (128 + (c : Int) % 64)] by simp [Lib.runeCells, Lib.encodeRuneZ_three (r := (c : Int)) (Or.inl ⟨by omega, by omega⟩)]]
    exact rune_lo B v n xs c (by omega) (by omega) w hown hlen hBw
  · rw [show Lib.runeCells c = [.int .u8 (224 + (c : Int) / 4096), .int .u8 (128 + (c : Int) / 64 % 64), .int .u8 (128 + (c : Int) % 64)] by simp [Lib.runeCells, Lib.encodeRuneZ_three (r := (c : Int)) (Or.inr ⟨by omega, by omega⟩)]]
    exact rune_hi B v n xs c (by omega) (by omega) w hown hlen hBw
set_option maxHeartbeats 4000000 in
set_option maxRecDepth 100000 in
theorem rune_46 (B : Nat) (v : Value) (n : Nat) (xs : List Value) (c : Nat) (hc : Ch16 c) (w : World) (hown : w.ownsRow B 5 1 v n xs) (hlen : n + 4 ≤ 140737488355328) (hBw : B ≤ w.heap.size) :
    Calls Tryd.prog 46 #[v, .int .i32 c] w fun e w' => AppPost B v n xs (Lib.runeCells c) (Lib.runeCells c).length w e w' := by
  by_cases h0 : c ≤ 127
  · rw [show Lib.runeCells c = [.int .u8 (c : Int)] by simp [Lib.runeCells, Lib.encodeRuneZ_one (r := (c : Int)) (by omega) (by omega)]]
    exact rune_one B v n xs c (by omega) (by omega) w hown hlen hBw
  · have H53 := Lib.hid (rune_53 B v n xs c (by omega) hc w hown hlen hBw)
    have hc2 : (c : Int) ≤ 65535 := by unfold Ch16 at hc; omega
    have hc3 : 128 ≤ (c : Int) := by omega
    clear h0 hc
    generalize (c : Int) = r at *
    go_enter Tryd.func46, Tryd.ntmps46
    go_wp2_with (go_at_call 53; ((with_reducible refine Calls.mono H53.out ?_); rintro e w1 ⟨v', rfl, h1, h2, h3⟩))
    go_ret
    exact ⟨_, rfl, h1, h2, h3⟩
theorem enc_len (c : Nat) : (enc c).length = (Lib.runeCells c).length := (Lib.runeCells_length c).symm
theorem enc_cells (c : Nat) : Lib.byteCells (enc c) = Lib.runeCells c := Lib.byteCells_encodeRune c
theorem enc_le (c : Nat) : 1 ≤ (enc c).length ∧ (enc c).length ≤ 4 := by rw [enc_len]; exact Lib.runeCells_le c
set_option maxHeartbeats 4000000 in
set_option maxRecDepth 100000 in
theorem rune_29 (K : TypeId × List Value) (B b : Nat) (g : Option Nat) (l : Bs) (c : Nat) (hc : Ch16 c) (w : World) (h : Bld K B b g l w) (hB : B ≤ w.heap.size) (hs : l.length ≤ 140737488355000) :
    Calls Tryd.prog 29 #[.pointer (some ⟨b, 0, none⟩), .int .i32 c] w fun e w' => e = .returned (.tuple #[.int .i64 (enc c).length, .nilIface]) ∧ ∃ g', Bld K B b g' (l ++ enc c) w' ∧ (g' = g ∨ ∃ k, g' = some k ∧ w.heap.size ≤ k) ∧ Fr b g w w' := by
  have H45 := Lib.hid (check_45 K B b g l w h)
  have HLT := h.lt
  have HKD := Lib.hid h.kind
  clear h
  have HL := Lib.hid hs
  have HC := Lib.hid hc
  have hel := enc_le c
  go_enter Tryd.func29, Tryd.ntmps29
  go_wp2_with (first
    | (go_at_call 45; ((with_reducible refine Calls.mono (H45.out) ?_); rintro e w1 ⟨rfl, ⟨v, hb1, hown, hg, hn⟩, hz, hfr⟩; obtain ⟨va, vc, rfl⟩ := owns_shape hown; have c1 : w1.cell? ⟨b, 1, none⟩ = some (.slice va l.length vc) := (by rw [Lib.cell_of_heap hb1]; rfl); have HB1 := Lib.hid hb1; have HOWN := Lib.hid hown; have HG := Lib.hid hg; have HN := Lib.hid hn; have HZ := Lib.hid hz; have HFR := Lib.hid hfr; clear hb1 hown hg hn hz hfr))
    | (go_at_call 46; ((with_reducible refine Calls.mono (rune_46 B (.slice va l.length vc) l.length (Lib.byteCells l) c HC.out _ HOWN.out (by have := HL.out; omega) (by have := HZ.out; omega)) ?_); rintro e w2 ⟨v', rfl, hown2, hgw, hat⟩; obtain ⟨va2, vc2, rfl⟩ := owns_shape hown2; have hb2 := bld_kept HLT HB1.out HOWN.out hgw; have f2 : w2.frozen? ⟨b, 1, none⟩ = false := Lib.frozen_of_heap hb2 1; have c2 : (w2.setCell ⟨b, 1, none⟩ (.slice va2 (l.length + (Lib.runeCells c).length) vc2)).cell? ⟨b, 1, none⟩ = some (.slice va2 (l.length + (Lib.runeCells c).length) vc2) := (World.cell?_setCell_same _ _ _ (by rw [Lib.cell_of_heap hb2]; rfl)); have c3 : w2.cell? ⟨b, 1, none⟩ = some (.slice va l.length vc) := (by rw [Lib.cell_of_heap hb2]; rfl); clear hb2; have HO2 := Lib.hid hown2; have HG2 := Lib.hid hgw; have HAT := Lib.hid hat; clear hown2 hgw hat)))
  go_ret2
  have hlen : l.length + (Lib.runeCells c).length = (l ++ enc c).length := by rw [List.length_append, enc_len]
  have ho2 := HO2.out
  rw [← enc_cells, ← byteCells_app, enc_cells, hlen] at ho2
  have hne : ¬ l ++ enc c = [] := fun e => by have := congrArg List.length e; simp at this; rw [this.2] at hel; simp at hel
  rw [hlen]
  obtain ⟨x1, x2⟩ := bld_store HLT HKD.out rfl HB1.out (fun k hk => (own_base HOWN.out k hk).1) ho2 HG2.out (fun e => absurd e hne)
  refine ⟨?_, _, x1, ?_, HFR.out.weak.trans (HG.out ▸ x2) (fun j hj => .inl hj)⟩
  · have e : wrap64 ((l.length : Int) + (Lib.runeCells c).length - l.length) = (enc c).length := by
      rw [← enc_len, show ((l.length : Int) + (enc c).length - l.length) = (enc c).length from by omega]
      exact IntWalk.wrap64_in _ (by omega)
    exact congrArg (fun z => Ending.returned (.tuple #[.int .i64 z, .nilIface])) e
  · have hat := HAT.out
    rw [HG.out, HZ.out, hlen] at hat
    exact hat
set_option maxHeartbeats 4000000 in
set_option maxRecDepth 100000 in
theorem reset_32 (B b : Nat) (p v : Value) (w : World) (hlt : b < B) (hb : w.heap[b]? = some (.cells #[p, v] 47 (0, 0))) :
    Calls Tryd.prog 32 #[.pointer (some ⟨b, 0, none⟩)] w fun e w' => e = .returned (.tuple #[]) ∧ Bld (47, []) B b none [] w' ∧ w'.heap.size = w.heap.size ∧ Fr b none w w' := by
  have c0 : w.cell? ⟨b, 0, none⟩ = some p := by rw [Lib.cell_of_heap hb]; rfl
  have c1 : w.cell? ⟨b, 1, none⟩ = some v := by rw [Lib.cell_of_heap hb]; rfl
  have f0 : w.frozen? ⟨b, 0, none⟩ = false := Lib.frozen_of_heap hb 0
  have f1 : w.frozen? ⟨b, 1, none⟩ = false := Lib.frozen_of_heap hb 1
  have HB := Lib.hid hb
  clear hb
  go_enter Tryd.func32, Tryd.ntmps32
  go_wp2_with fail
  go_end0
  have hb2 : ((w.setCell ⟨b, 0, none⟩ (.pointer none)).setCell ⟨b, 1, none⟩ (.slice none 0 0)).heap[b]? = some (.cells #[.pointer none, .slice none 0 0] 47 (0, 0)) := by
    simp only [World.setCell, Array.getElem?_modify, if_true, HB.out]
    rfl
  refine ⟨rfl, ⟨hlt, .inl rfl, .pointer none, .slice none 0 0, hb2, .inl rfl, World.ownsRow_nil _ _ _ _, rfl, fun _ => rfl⟩, by simp, ⟨rfl, rfl, rfl, by simp, fun k _ hk _ => ?_⟩⟩
  rw [Below.heap_setCell _ _ _ _ hk, Below.heap_setCell _ _ _ _ hk]
theorem byteCells_len (l : Bs) : (Lib.byteCells l).length = l.length := by simp [Lib.byteCells]
set_option maxHeartbeats 4000000 in
set_option maxRecDepth 100000 in
theorem write_47 (K : TypeId × List Value) (B b : Nat) (g : Option Nat) (l s : Bs) (a : Addr) (m c : Nat) (hm : m = s.length) (w : World) (h : Bld K B b g l w) (hB : B ≤ w.heap.size) (hs : l.length + s.length ≤ 140737488355000) (ha : a.block ≠ b) (hc : ∀ j u, (Lib.byteCells s)[j]? = some u → w.cell? (a.add j) = some u) :
    Calls Tryd.prog 47 #[.pointer (some ⟨b, 0, none⟩), .slice (some a) m c] w fun e w' => e = .returned (.tuple #[.int .i64 m, .nilIface]) ∧ ∃ g', Bld K B b g' (l ++ s) w' ∧ (g' = g ∨ ∃ k, g' = some k ∧ w.heap.size ≤ k) ∧ Fr b g w w' := by
  have H45 := Lib.hid (check_45 K B b g l w h)
  obtain ⟨i0, hi0, hi1, hi2, hi3⟩ := info_parts i5
  have HI0 := Lib.hid hi0
  have HI1 := Lib.hid hi1
  have HI2 := Lib.hid hi2
  have HI3 := Lib.hid hi3
  have HLT := h.lt
  have HKD := Lib.hid h.kind
  clear h hi0 hi1 hi2 hi3
  have HL := Lib.hid hs
  have HC := Lib.hid hc
  have HM := Lib.hid hm
  have HA := Lib.hid ha
  clear hm hc
  have H1 : Hid (∀ u ∈ Lib.byteCells s, u.oneCell' = true) := by
    intro u hu
    simp [Lib.byteCells] at hu
    obtain ⟨x, _, rfl⟩ := hu
    rfl
  go_enter Tryd.func47, Tryd.ntmps47
  go_wp2_with (first
    | (go_at_call 45; ((with_reducible refine Calls.mono (H45.out) ?_); rintro e w1 ⟨rfl, ⟨v, hb1, hown, hg, hn⟩, hz, hfr⟩; have c1 : w1.cell? ⟨b, 1, none⟩ = some v := (by rw [Lib.cell_of_heap hb1]; rfl); have HC1 : Hid (∀ j u, (Lib.byteCells s)[j]? = some u → w1.cell? (a.add j) = some u) := (fun j u hj => by have h2 := HC.out j u hj; rw [World.cell?_of_block (w := w) (hfr.block (a.add j).block (cell_lt h2) (by have := HA.out; unfold Addr.add; split <;> simpa using this) (by simp))]; exact h2); have HB1 := Lib.hid hb1; have HOWN := Lib.hid hown; have HG := Lib.hid hg; have HN := Lib.hid hn; have HZ := Lib.hid hz; have HFR := Lib.hid hfr; clear hb1 hown hg hn hz hfr))
    | (at_builtin; refine wpList_append_own_at _ rfl _ _ 23 rfl B 5 i0 (.int .u8 0) 1 1 Tryd.underlying23 HI0.out HI1.out HI2.out HI3.out rfl (by decide) v l.length _ rfl HOWN.out a m c (Lib.byteCells s) rfl (by rw [byteCells_len, HM.out, Nat.mul_one]) HC1.out H1.out (by have := HL.out; have := HM.out; unfold maxLen; omega) (by have := HL.out; have := HM.out; omega) (by have := HZ.out; omega) ?_; intro v' w2 hown2 hgw hnil hat; obtain ⟨va, vc, rfl⟩ := owns_shape hown2; have hb2 := bld_kept HLT HB1.out HOWN.out hgw; have c2 : w2.cell? ⟨b, 1, none⟩ = some v := (by rw [Lib.cell_of_heap hb2]; rfl); have f2 : w2.frozen? ⟨b, 1, none⟩ = false := Lib.frozen_of_heap hb2 1; clear hb2; have HO2 := Lib.hid hown2; have HG2 := Lib.hid hgw; have HNI := Lib.hid hnil; have HAT := Lib.hid hat; clear hown2 hgw hnil hat))
  go_ret2
  have hlen : l.length + m = (l ++ s).length := by rw [HM.out]; simp
  have ho2 := HO2.out
  rw [← byteCells_app, hlen] at ho2
  have hn2 : l ++ s = [] → Value.slice va (l.length + m) vc = .slice none 0 0 := fun e => by
    have h1 : l = [] := by cases l; rfl; simp at e
    have h2 : s = [] := by subst h1; simpa using e
    exact HNI.out.mpr ⟨HN.out h1, by rw [HM.out, h2]; rfl⟩
  rw [hlen] at hn2
  rw [hlen]
  obtain ⟨x1, x2⟩ := bld_store HLT HKD.out rfl HB1.out (fun k hk => (own_base HOWN.out k hk).1) ho2 HG2.out hn2
  refine ⟨by first | rfl | simp, _, x1, ?_, HFR.out.weak.trans (HG.out ▸ x2) (fun j hj => .inl hj)⟩
  have hat := HAT.out
  rw [HG.out, HZ.out, hlen] at hat
  rcases hat with hat | hat
  · exact .inl hat
  · exact .inr ⟨_, hat, Nat.le_refl _⟩
end Go.Proofs.YtpkacoknpedolaaDoor
