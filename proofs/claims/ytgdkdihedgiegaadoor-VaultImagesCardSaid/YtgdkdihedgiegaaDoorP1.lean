/-
  Bytes in a block whose values do not matter; the walk of the reference's Copied: it returns some string.
-/
import Derived.Test.YtgdkdihedgiegaaDoorO7
namespace Go.Proofs.YtgdkdihedgiegaaDoor
open Go.RowKit

/-- n bytes in block g, whatever they are. -/
def BB (w : World) (g n : Nat) : Prop := ∀ j, j < n → (∃ z : UInt8, w.cell? ⟨g, j, none⟩ = some (.int .u8 (z.toNat : Int))) ∧ w.frozen? ⟨g, j, none⟩ = false
theorem BB.below {w w' : World} {g n : Nat} (h : BB w g n) (hg : g < w.heap.size) (hb : Below w.heap.size w w') : BB w' g n := fun j hj => by
  obtain ⟨⟨z, hz⟩, hf⟩ := h j hj
  exact ⟨⟨z, bext hb _ _ hz⟩, by rw [hb.frozen (p := ⟨g, j, none⟩) hg]; exact hf⟩
theorem BB.set {w : World} {g n : Nat} (h : BB w g n) (k : Nat) (v : Int) (hv : 0 ≤ v ∧ v < 256) : BB (w.setCell ⟨g, k, none⟩ (.int .u8 v)) g n := fun j hj => by
  obtain ⟨⟨z, hz⟩, hf⟩ := h j hj
  by_cases hk : k = j
  · subst hk
    refine ⟨⟨UInt8.ofNat v.toNat, ?_⟩, ?_⟩
    · have e : ((UInt8.ofNat v.toNat).toNat : Int) = v := by rw [ofNat_toNat (by omega)]; omega
      rw [e]
      go_simp
    · go_simp
  · refine ⟨⟨z, ?_⟩, ?_⟩
    · rw [← hz]; go_simp
    · rw [← hf]; go_simp
theorem BB.conv {w : World} {g n : Nat} (h : BB w g n) (cap : Nat) : ∃ l : Bs, l.length = n ∧ (convert 51 9 (.slice (some ⟨g, 0, none⟩) n cap)).run Tryd.prog w = .ok (S l) w := by
  obtain ⟨f, hf⟩ := Go.Deep.choose_lt (fun j hj => (h j hj).1)
  refine ⟨(List.range n).map f, by simp, ?_⟩
  have := conv_back w ⟨g, 0, none⟩ cap ((List.range n).map f) (fun j u hu => by
    simp only [bv, List.map_map, List.getElem?_map, Option.map_eq_some_iff] at hu
    obtain ⟨j', hj, rfl⟩ := hu
    obtain ⟨hj1, hj2⟩ := List.getElem?_eq_some_iff.1 hj
    simp at hj1 hj2
    subst hj2
    rw [add_lit, Nat.zero_add]
    exact hf j hj1)
  rwa [List.length_map, List.length_range] at this
theorem BB.row {w : World} {g n : Nat} {lo : Nat} {l : Bs} (h : w.ownsRow lo 5 1 (.slice (some ⟨g, 0, none⟩) n n) n (bv l)) (hl : l.length = n) : BB w g n := fun j hj => by
  have hc := h.cells (g := g) rfl j (.int .u8 (l[j]'(by omega)).toNat) (by simp [bv, hl, hj])
  rw [add_lit, Nat.zero_add] at hc
  refine ⟨⟨_, hc⟩, ?_⟩
  rcases h.2 with ⟨he, _⟩ | ⟨g', cap, cur, he, _, hh, _⟩
  · cases he
  · injection he with he; injection he with he; injection he with he
    subst he
    exact Lib.frozen_of_heap hh j
theorem BB.bytes (w : World) (l : Bs) : BB (bytesW w l) w.heap.size l.length := fun j hj => by
  have hc := (bytesW_text w l).cell j (.int .u8 (l[j]'hj).toNat) (by simp [bv, hj])
  refine ⟨⟨_, hc⟩, ?_⟩
  have hh := Lib.bytesWorld_at_new w 5 ⟨l.toArray⟩
  have hs : l.length ≤ (Lib.bytesCells w 5 ⟨l.toArray⟩).size := by
    simp [Lib.bytesCells, ByteArray.size]
  show (Lib.bytesWorld w 5 ⟨l.toArray⟩).frozen? ⟨w.heap.size, j, none⟩ = false
  simp only [World.frozen?, hh]
  simp
  omega
set_option maxHeartbeats 4000000 in
set_option maxRecDepth 100000 in
theorem copied_26 (sn : Bs) (tv : Value) (tl : List Bs) (w : World) (ht : TailAt w tv tl) (hl : (imageR sn tl).length ≤ 5000) (fill : Bs) (hf : fill.length ≤ 1000) (m : Int) :
    Calls Tryd.prog 26 #[.agg #[S sn, tv], S fill, .int .i64 m] w fun e w' => (∃ r : Bs, e = .returned (S r) ∧ r.length ≤ 12000) ∧ Below w.heap.size w w' := by
  have HIM := Lib.hid (fun (W : World) (hb : Below w.heap.size w W) => image_25 sn tv tl W (ht.below hb) (by omega))
  have HMD : Hid (∀ W, Calls Tryd.prog 27 #[.int .i64 m, .int .i64 200] W fun e w1 => e = .returned (.int .i64 (modR m 200)) ∧ w1 = W) := fun W => mod_27 m 200 (by omega) (by omega) W
  have hm2 := modR_lt m 200 (by omega)
  obtain ⟨ta, tcap, rfl, _⟩ := ht
  generalize imageR sn tl = X at *
  generalize modR m 200 = q at *
  go_enter Tryd.func26, Tryd.ntmps26
  go_wp2_with fail
  obtain ⟨W1, hW1⟩ : ∃ W1, w.alloc (.cells #[S sn, .slice ta tl.length tcap] 32) = W1 := ⟨_, rfl⟩
  have HB0 : Hid (Below w.heap.size w W1) := by rw [← hW1]; exact alloc_below w _
  have hs0 : W1.cell? ⟨w.heap.size, 0, none⟩ = some (S sn) ∧ W1.cell? ⟨w.heap.size, 1, none⟩ = some (.slice ta tl.length tcap) := by
    rw [← hW1]
    exact ⟨World.cell?_alloc_new w _ _ 0, World.cell?_alloc_new w _ _ 1⟩
  obtain ⟨x0, x1⟩ := hs0
  rw [hW1]
  clear hW1
  go_wp2_with fail
  ((with_reducible refine Calls.mono (HIM.out _ HB0.out) ?_); rintro e w2 ⟨rfl, hb2⟩)
  have HB2 := Lib.hid (btr HB0.out hb2 HB0.out.size)
  clear hb2 x0 x1
  go_wp2_with fail
  ((with_reducible refine Calls.mono (HMD.out _) ?_); rintro e w3 ⟨rfl, hw⟩; have hw := hw.symm; subst hw)
  go_wp2_with fail
  obtain ⟨k, hk, hk1, hk2⟩ : ∃ k : Nat, max (65 + (X.length : Int) + (q : Int) + -((65 + (X.length : Int) + (q : Int)) % 64) % 64) 128 = (k : Int) ∧ 128 ≤ k ∧ k ≤ 5400 := ⟨(max (65 + (X.length : Int) + (q : Int) + -((65 + (X.length : Int) + (q : Int)) % 64) % 64) 128).toNat, by omega, by omega, by omega⟩
  rw [hk]
  clear hk
  obtain ⟨w3, hr3, _, hb3, ho3⟩ := mk_zeros w2 k (by omega)
  have HBB : Hid (BB w3 w2.heap.size k) := (BB.row ho3 (zeros_len k))
  have HB3 := Lib.hid (btr HB2.out hb3 HB2.out.size)
  have HG : Hid (w.heap.size ≤ w2.heap.size ∧ w2.heap.size < w3.heap.size) := ⟨HB2.out.size, cell_lt (HBB.out 0 (by omega)).1.choose_spec⟩
  clear hb3
  rw [hr3]
  clear hr3
  generalize w2.heap.size = g at *
  go_wp2_with fail
  obtain ⟨hg1, hg2⟩ := HG.out
  go_loopw [10] (fun i wr => ∃ n : Nat, i = .int .i64 n ∧ n ≤ fill.length ∧ Hid (BB wr g k) ∧ Hid (Below w.heap.size w wr)) (fun i _ => fill.length - (intOf i).toNat)
  case atStart => exact ⟨0, rfl, Nat.zero_le _, HBB.out, HB3.out⟩
  case round =>
    clear HBB HB3 ho3
    obtain ⟨n, rfl, hn, HBB, HB⟩ := hrel
    by_cases hgo : n < fill.length ∧ 9 + n < k
    · obtain ⟨hlt, h9⟩ := hgo
      obtain ⟨⟨z, hz⟩, hfz⟩ := HBB.out (9 + n) h9
      go_wp2_with fail
      go_roundw
      case rel => exact ⟨n + 1, by go_num, by omega, HBB.out.set _ _ ⟨by omega, by have := fill[n].toNat_lt; omega⟩, HB.out.trans (((Only.refl g wr).setCell _ _).below hg1)⟩
      case measure => simp [intOf]; omega
    · have hx : ¬ n < fill.length ∨ (n < fill.length ∧ ¬ 9 + n < k) := by omega
      obtain ⟨⟨z, hz⟩, hfz⟩ := HBB.out 0 (by omega)
      rcases hx with hlt | ⟨hlt, h9⟩
      all_goals
        clear hgo
        go_wp2_with fail
        have HB1 : Hid (BB (wr.setCell ⟨g, 0, none⟩ (.int .u8 1)) g k) := HBB.out.set 0 1 (by omega)
        have HBW1 : Hid (Below w.heap.size w (wr.setCell ⟨g, 0, none⟩ (.int .u8 1))) := HB.out.trans (((Only.refl g wr).setCell _ _).below hg1)
        clear hz hfz
        generalize wr.setCell ⟨g, 0, none⟩ (.int .u8 1) = w5 at *
        go_loopw [11, 12] (fun more i wr => ∃ (m n : Nat), more = .int .i64 m ∧ i = .int .i64 n ∧ n ≤ 9 ∧ 1 ≤ n ∧ m ≤ 6000 ∧ Hid (BB wr g k) ∧ Hid (Below w.heap.size w wr)) (fun _ i _ => 9 - (intOf i).toNat)
        case atStart => exact ⟨k, 1, rfl, rfl, by omega, by omega, by omega, HB1.out, HBW1.out⟩
        case round =>
          clear HB1 HBW1 HBB HB
          obtain ⟨mm, n', rfl, rfl, hn1, hn2, hm6, HBB, HB⟩ := hrel
          by_cases hlt' : n' < 9
          · obtain ⟨⟨z, hz⟩, hfz⟩ := HBB.out n' (by omega)
            have hu8 : IntKind.u8.wrap (((mm % 256 : Nat) : Int)) = ((mm % 256 : Nat) : Int) := by rw [IntKind.wrap_u8]; omega
            go_wp2_with fail
            go_roundw
            case rel => exact ⟨mm / 256, n' + 1, by go_num, by go_num, by omega, by omega, by omega, HBB.out.set _ _ (by omega), HB.out.trans (((Only.refl g _).setCell _ _).below hg1)⟩
            case measure => simp [intOf]; omega
          · obtain ⟨l, hl, hcv⟩ := HBB.out.conv k
            have sy : ¬ 9223372036854775807 < l.length + X.length := by omega
            go_wp2_with fail
            go_ret
            exact ⟨⟨l ++ X, rfl, by rw [List.length_append]; omega⟩, HB.out⟩
end Go.Proofs.YtgdkdihedgiegaaDoor
