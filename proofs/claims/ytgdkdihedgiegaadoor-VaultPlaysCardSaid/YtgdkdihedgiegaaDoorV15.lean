/-
  The walks of the reference's Strings and Same, on equal states.
-/
import Derived.Test.YtgdkdihedgiegaaDoorV14
namespace Go.Proofs.YtgdkdihedgiegaaDoor
open Go.RowKit

set_option maxHeartbeats 4000000 in
set_option maxRecDepth 100000 in
theorem strings_53 (w : World) (tl : List Bs) (v1 v2 : Value) (h1 : TailAt w v1 tl) (h2 : TailAt w v2 tl) (hl : tl.length ≤ 20000000) :
    Calls Tryd.prog 53 #[v1, v2] w fun e w' => e = .returned (.bool true) ∧ Below w.heap.size w w' := by
  have H1 := Lib.hid h1
  have H2 := Lib.hid h2
  obtain ⟨a1, c1, rfl, _⟩ := h1
  obtain ⟨a2, c2, rfl, _⟩ := h2
  go_enter Tryd.func53, Tryd.ntmps53
  go_wp2_with fail
  go_loopw [5] (fun i wr => ∃ k : Nat, i = .int .i64 k ∧ k ≤ tl.length ∧ Below w.heap.size w wr) (fun i _ => tl.length - (intOf i).toNat)
  case atStart => exact ⟨0, rfl, Nat.zero_le _, Below.refl _ _⟩
  case round =>
    obtain ⟨k, rfl, hk, hb⟩ := hrel
    have HB := Lib.hid hb
    by_cases hlt : k < tl.length
    · obtain ⟨b1, o1, p1, hv1, hb1, hc1⟩ := TailAt.cell H1.out k hlt
      obtain ⟨b2, o2, p2, hv2, hb2, hc2⟩ := TailAt.cell H2.out k hlt
      injection hv1 with x1 x2 x3
      injection hv2 with y1 y2 y3
      subst x1 x3 y1 y3
      have d1 : wr.cell? ⟨b1, o1 + k, none⟩ = some (S tl[k]) := by rw [hb.cell (p := ⟨b1, o1 + k, none⟩) hb1]; exact hc1
      have d2 : wr.cell? ⟨b2, o2 + k, none⟩ = some (S tl[k]) := by rw [hb.cell (p := ⟨b2, o2 + k, none⟩) hb2]; exact hc2
      generalize tl[k] = r at *
      clear hc1 hc2 hb
      go_wp2_with fail
      go_quiet (fail)
      go_wp2_with fail
      go_roundw
      case rel => exact ⟨k + 1, by go_num, hlt, HB.out.trans ⟨rfl, rfl, rfl, Nat.le_refl _, fun _ _ => rfl⟩⟩
      case measure => simp [intOf]; omega
    · obtain rfl : k = tl.length := by omega
      go_wp2_with fail
      go_ret
      exact ⟨rfl, HB.out⟩
set_option maxHeartbeats 4000000 in
set_option maxRecDepth 100000 in
theorem same_29 (w : World) (sn : Bs) (tl : List Bs) (v1 v2 : Value) (h1 : TailAt w v1 tl) (h2 : TailAt w v2 tl) (hl : tl.length ≤ 20000000) :
    Calls Tryd.prog 29 #[.agg #[S sn, v1], .agg #[S sn, v2]] w fun e w' => e = .returned (.bool true) ∧ Below w.heap.size w w' := by
  have HST := Lib.hid (fun (W : World) (hb : Below w.heap.size w W) => strings_53 W tl v1 v2 (h1.below hb) (h2.below hb) hl)
  obtain ⟨a1, c1, rfl, _⟩ := h1
  obtain ⟨a2, c2, rfl, _⟩ := h2
  go_enter Tryd.func29, Tryd.ntmps29
  go_wp2_with fail
  have hb2 := (alloc_below w (.cells #[S sn, .slice a1 tl.length c1] 32))
  have hb3 := btr hb2 (alloc_below _ (.cells #[S sn, .slice a2 tl.length c2] 32)) hb2.size
  ((with_reducible refine Calls.mono (HST.out _ hb3) ?_); rintro e w3 ⟨rfl, hb4⟩)
  have HB4 := Lib.hid (btr hb3 hb4 hb3.size)
  have k1 : w3.cell? ⟨w.heap.size, 0, none⟩ = some (S sn) := by
    have hh : ((w.alloc (.cells #[S sn, .slice a1 tl.length c1] 32)).alloc (.cells #[S sn, .slice a2 tl.length c2] 32)).cell? ⟨w.heap.size, 0, none⟩ = some (S sn) := by
      rw [alloc_old _ _ _ _ (by simp)]
      exact World.cell?_alloc_new w _ _ 0
    rw [hb4.cell (p := ⟨w.heap.size, 0, none⟩) (cell_lt hh)]; exact hh
  have k2 : w3.cell? ⟨w.heap.size + 1, 0, none⟩ = some (S sn) := by
    have hh : ((w.alloc (.cells #[S sn, .slice a1 tl.length c1] 32)).alloc (.cells #[S sn, .slice a2 tl.length c2] 32)).cell? ⟨w.heap.size + 1, 0, none⟩ = some (S sn) := by
      have h5 := World.cell?_alloc_new (w.alloc (.cells #[S sn, .slice a1 tl.length c1] 32)) #[S sn, .slice a2 tl.length c2] 32 0
      have h6 : (w.alloc (.cells #[S sn, .slice a1 tl.length c1] 32)).heap.size = w.heap.size + 1 := by simp
      rw [h6] at h5
      exact h5
    rw [hb4.cell (p := ⟨w.heap.size + 1, 0, none⟩) (cell_lt hh)]; exact hh
  clear hb2 hb3 hb4
  go_wp2_with fail
  go_ret
  exact ⟨rfl, HB4.out⟩
end Go.Proofs.YtgdkdihedgiegaaDoor
