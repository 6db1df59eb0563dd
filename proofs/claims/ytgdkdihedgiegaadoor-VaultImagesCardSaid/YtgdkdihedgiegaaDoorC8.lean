/-
  The walk of frame.
  The walk of image.
-/
import Derived.Test.YtgdkdihedgiegaaDoorB1
namespace Go.Proofs.YtgdkdihedgiegaaDoor
open Go.RowKit

set_option maxHeartbeats 1000000 in
set_option maxRecDepth 100000 in
theorem frame_45 (r : Bs) (w : World) (hr : r.length ≤ 100000000) : Calls Tryd.prog 45 #[S r] w fun e w' => e = .returned (S (frameR r)) ∧ Below w.heap.size w w' := by
  have HN := Lib.hid (fun W => number_64 r.length (by omega) W)
  have hl := numR_len_le r.length 9 (by omega)
  have e1 : IntKind.u64.wrap (r.length : Int) = r.length := IntWalk.u64_in _ (by omega)
  have HF : Hid (frameR r = 1 :: (numR r.length ++ r)) := rfl
  generalize numR r.length = L at *
  have s1 : ¬ 9223372036854775807 < 1 + L.length := by omega
  have s2 : ¬ 9223372036854775807 < L.length + 1 := by omega
  have s3 : ¬ 9223372036854775807 < L.length + 1 + r.length := by omega
  have s4 : ¬ 9223372036854775807 < 1 + L.length + r.length := by omega
  have s5 : ¬ 9223372036854775807 < 1 + (L.length + r.length) := by omega
  rw [HF.out]
  go_enter Tryd.func45, Tryd.ntmps45
  go_wp2_with fail
  go_region_with (go_at_call 64; ((with_reducible refine Calls.mono (HN.out _) ?_); rintro e w1 ⟨rfl, hb⟩; obtain ⟨hcc, hff⟩ := bcell hb; have HBB := Lib.hid hb; clear hb))
  all_goals
    go_wp2_with fail
    go_ret
    first
      | exact ⟨rfl, btr (alloc_below w _).drew HBB.out (by simp)⟩
      | exact ⟨rfl, btr (btr (Below.refl _ w).drew HBB.out (Nat.le_refl _)) (alloc_below _ _) HBB.out.size⟩
end Go.Proofs.YtgdkdihedgiegaaDoor

namespace Go.Proofs.YtgdkdihedgiegaaDoor
open Go.RowKit

/-- A tail in memory, in a block that lies there. -/
abbrev TailAt (w : World) (v : Value) (tl : List Bs) : Prop := SliceAt 0 w.heap.size w v tl.length (tl.map S)
theorem TailAt.below {w w' : World} {v : Value} {tl : List Bs} (h : TailAt w v tl) (hb : Below w.heap.size w w') : TailAt w' v tl := (h.kept (bkept hb (Nat.le_refl _))).mono (Nat.le_refl _) hb.size
theorem TailAt.cell {lo hi : Nat} {w : World} {v : Value} {tl : List Bs} (h : SliceAt lo hi w v tl.length (tl.map S)) (k : Nat) (hk : k < tl.length) : ∃ b off cap, v = .slice (some ⟨b, off, none⟩) tl.length cap ∧ b < hi ∧ w.cell? ⟨b, off + k, none⟩ = some (S tl[k]) := by
  obtain ⟨a, cap, rfl, h⟩ := h
  obtain ⟨b, off, rfl, _, h2, h3⟩ := h (by intro e; have := congrArg List.length e; rw [List.length_map, List.length_nil] at this; omega)
  exact ⟨b, off, cap, rfl, h2, h3 k _ (by simp [hk])⟩
theorem image_take (sn : Bs) (tl : List Bs) (k : Nat) : (numR sn.length ++ sn ++ (tl.take k).flatMap frameR).length ≤ (imageR sn tl).length := by
  have h := List.take_append_drop k tl
  unfold imageR
  rw (occs := [2]) [← h]
  rw [List.flatMap_append]
  simp only [List.length_append]
  omega
theorem flat_snoc (tl : List Bs) (k : Nat) (hk : k < tl.length) : (tl.take (k + 1)).flatMap frameR = (tl.take k).flatMap frameR ++ frameR tl[k] := by
  rw [List.take_succ_eq_append_getElem hk, List.flatMap_append]; simp
set_option maxHeartbeats 4000000 in
set_option maxRecDepth 100000 in
theorem image_46 (sn : Bs) (tv : Value) (tl : List Bs) (w : World) (ht : TailAt w tv tl) (hl : (imageR sn tl).length ≤ 20000000) :
    Calls Tryd.prog 46 #[S sn, tv] w fun e w' => e = .returned (S (imageR sn tl)) ∧ Below w.heap.size w w' := by
  have HT := Lib.hid ht
  have h0 := image_take sn tl 0
  have hsn : sn.length ≤ 20000000 := by simp at h0; omega
  have htl : tl.length ≤ 20000000 := by have := frames_len tl; unfold imageR at hl; simp only [List.length_append] at hl; omega
  have HN := Lib.hid (fun W => number_64 sn.length (by omega) W)
  have e1 : IntKind.u64.wrap (sn.length : Int) = sn.length := IntWalk.u64_in _ (by omega)
  have hnl := numR_len_le sn.length 9 (by omega)
  have HL := Lib.hid hl
  obtain ⟨ta, tcap, rfl, _⟩ := ht
  obtain ⟨L, hL⟩ : ∃ L, L = numR sn.length := ⟨_, rfl⟩
  rw [← hL] at HN hnl
  have HLL := Lib.hid hL
  have s1 : ¬ 9223372036854775807 < L.length + sn.length := by omega
  clear hL hl h0
  have HB0 := Lib.hid (bld_new w w.heap.size (w.heap.size + 1) rfl (by omega))
  go_enter Tryd.func46, Tryd.ntmps46
  go_wp2_with (first
    | (go_at_call 64; ((with_reducible refine Calls.mono (HN.out _) ?_); rintro e w1 ⟨rfl, hb1⟩; have HB1 := Lib.hid hb1; have HBL1 := Lib.hid (HB0.out.below hb1); clear hb1))
    | (go_at_call 56; ((with_reducible refine Calls.mono (write_56 (99, []) (w.heap.size + 1) w.heap.size none [] (L ++ sn) _ HBL1.out (by have := HB1.out.size; simp at this; omega) (by simp; omega)) ?_); rintro e w2 ⟨rfl, g2, hb2, hg2, hf2⟩; have HB2 := Lib.hid hb2; have HF2 := Lib.hid (HBL1.out.fr hf2 (lo := w.heap.size) (Nat.le_refl _)); clear hb2 hg2 hf2)))
  have HBW : Hid (Below w.heap.size w w2) := btr ((alloc_below w _).trans ((HB1.out).mono (by simp))) HF2.out (Nat.le_refl _)
  go_loopw [7, 17] (fun _ i wr => ∃ (k : Nat) (acc : Bs) (g : Option Nat), i = .int .i64 k ∧ k ≤ tl.length ∧ Hid (acc = L ++ sn ++ (tl.take k).flatMap frameR) ∧ Hid (Bld (99, []) (w.heap.size + 1) w.heap.size g acc wr) ∧ Below w.heap.size w wr) (fun _ i _ => tl.length - (intOf i).toNat)
  case atStart => exact ⟨0, L ++ sn, g2, rfl, Nat.zero_le _, (by show _ = _; simp), HB2.out, HBW.out⟩
  case round =>
    obtain ⟨k, acc, g, rfl, hk, HA, HBl, hb⟩ := hrel
    have hacc : acc.length ≤ 20000000 := by
      have h1 := image_take sn tl k
      rw [← HLL.out, ← HA.out] at h1
      have := HL.out
      omega
    have hz := hb.size
    have HZ := Lib.hid hz
    have hold := Lib.hid HBl.out.old
    clear hz
    by_cases hlt : k < tl.length
    · obtain ⟨bb, off, cap, hv, hbb, hc⟩ := TailAt.cell HT.out k hlt
      injection hv with h1 h2 h3
      subst h1 h3
      have hc2 : wr.cell? ⟨bb, off + k, none⟩ = some (S tl[k]) := by rw [hb.cell (p := ⟨bb, off + k, none⟩) hbb]; exact hc
      have hsnoc := flat_snoc tl k hlt
      have hfr : (acc ++ frameR tl[k]).length ≤ 20000000 := by
        have h1 := image_take sn tl (k + 1)
        rw [hsnoc, ← HLL.out, ← List.append_assoc, ← HA.out] at h1
        have := HL.out
        omega
      have HS := Lib.hid hsnoc
      obtain ⟨r, hr⟩ : ∃ r, r = tl[k] := ⟨_, rfl⟩
      rw [← hr] at hc2 hfr HS
      have hrl : r.length ≤ 100000000 := by simp [frameR] at hfr; omega
      clear hr hc hsnoc
      have HFR := Lib.hid hfr
      clear hfr
      go_wp2_with (first
        | (go_at_call 45; ((with_reducible refine Calls.mono (frame_45 r _ hrl) ?_); rintro e w3 ⟨rfl, hb3⟩; have HB3 := Lib.hid hb3; have HBl3 := Lib.hid (HBl.out.below hb3); clear hb3))
        | (go_at_call 56; ((with_reducible refine Calls.mono (write_56 (99, []) (w.heap.size + 1) w.heap.size g acc (frameR r) _ HBl3.out (by have := HB3.out.size; have := hold.out; omega) (by have := HFR.out; simp at this; omega)) ?_); rintro e w4 ⟨rfl, g4, hb4, hg4, hf4⟩; have HB4 := Lib.hid hb4; have HF4 := Lib.hid (HBl3.out.fr hf4 (lo := w.heap.size) (Nat.le_refl _)); clear hb4 hg4 hf4)))
      go_roundw
      case rel =>
        refine ⟨k + 1, acc ++ frameR r, g4, by go_num, hlt, ?_, HB4, btr (btr hb HB3.out HZ.out) HF4.out (Nat.le_refl _)⟩
        show _ = _
        rw [HS.out, HA.out, List.append_assoc]
      case measure => simp [intOf]; omega
    · obtain rfl : k = tl.length := by omega
      have HX : Hid (imageR sn tl = acc) := by show _ = _; rw [HA.out, HLL.out, List.take_length]; rfl
      go_wp2_with (go_at_call 57; ((with_reducible refine Calls.mono (string_57 (99, []) (w.heap.size + 1) w.heap.size g acc _ HBl.out (by omega)) ?_); rintro e w3 ⟨rfl, hs3⟩; have HS3 := Lib.hid (HBl.out.fr (hs3.fr w.heap.size) (lo := w.heap.size) (Nat.le_refl _)); clear hs3))
      go_ret
      rw [HX.out]
      exact ⟨rfl, hb.trans HS3.out⟩
end Go.Proofs.YtgdkdihedgiegaaDoor
