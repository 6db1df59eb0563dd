/-
  The reference's texts of pieces: some text, none long.
-/
import Derived.Test.YtpkacoknpedolaaDoorG4
import Derived.Test.YtpkacoknpedolaaDoorArgs
namespace Go.Proofs.YtpkacoknpedolaaDoor
open Go.RowKit

def bytesP : List Bs := [[97], [69], [32], [49], [64], [126], [27, 40, 83], [27, 40, 78], [27, 40, 66], [226], [232], [254], [161], [181], [200], [136], [10], [31], [65], [120], [121], [96], [127], [255], [175], [27], [27, 40], [40], [83], [235], [107]]
def textP : List Bs := [[97], [69], [32], [49], [64], [126], [195, 169], [197, 187], [197, 177], [206, 177], [206, 169], [207, 130], [209, 142], [208, 175], [208, 171], [111, 204, 129], [101, 204, 136], [120, 204, 147], [197, 129], [197, 147], [226, 130, 172], [194, 152], [10], [204, 129], [209, 138], [208, 170], [230, 151, 165], [255], [195], [226, 130], [27], [127], [204, 145], [194, 128], [239, 191, 189]]
theorem pieces_at (w : World) (l : List Bs) (n : Nat) (hn : l.length = n) (hl : ∀ p ∈ l, p.length ≤ 4) : ∀ i, i < n → ∃ p : Bs, p.length ≤ 4 ∧ (w.alloc (.cells (l.map S).toArray 9)).cell? ⟨w.heap.size, i, none⟩ = some (S p) := by
  subst hn
  intro i hi
  refine ⟨l[i], hl _ (List.getElem_mem hi), ?_⟩
  rw [World.cell?_alloc_new, List.getElem?_toArray, List.getElem?_map, List.getElem?_eq_getElem hi]; rfl
theorem mod_18 (z Mi : Int) (M : Nat) (h : 1 ≤ M) (h2 : M ≤ 1000000) (hM : Mi = M) (w : World) : Calls Tryd.prog 18 #[.int .i64 z, .int .i64 Mi] w fun e w' => ∃ m : Nat, m < M ∧ e = .returned (.int .i64 m) ∧ w = w' := by
  subst hM
  have a1 : z.tmod M < M := Int.tmod_lt_of_pos z (by omega)
  have a2 : -(M : Int) < z.tmod M := by
    have := Int.lt_tmod_of_pos z (show 0 < (M : Int) by omega)
    omega
  have b1 : (z.tmod M + M).tmod M < M := Int.tmod_lt_of_pos _ (by omega)
  have b2 : 0 ≤ (z.tmod M + M).tmod M := Int.tmod_nonneg _ (by omega)
  obtain ⟨m, hm⟩ : ∃ m : Nat, (z.tmod M + M).tmod M = m := ⟨((z.tmod M + M).tmod M).toNat, by omega⟩
  go_enter Tryd.func18, Tryd.ntmps18
  go_wp2
  go_ret
  exact ⟨m, by omega, by rw [← hm]; rfl, rfl⟩
set_option maxHeartbeats 8000000 in
set_option maxRecDepth 100000 in
theorem bytes_12 (v : Value) (n : Nat) (w : World) (hv : NumsIn w v n) (_ : n ≤ maxLen) : Calls Tryd.prog 12 #[v] w fun e w' => ∃ s : Bs, e = .returned (S s) ∧ s.length ≤ 240 ∧ Below w.heap.size w w' := by
  have HV := Lib.hid hv
  obtain ⟨va, vc, rfl, -⟩ := hv
  go_enter Tryd.func12, Tryd.ntmps12
  go_wp2_with fail
  have HB0 : Hid (Below w.heap.size w (w.alloc (.cells (bytesP.map S).toArray 9))) := Lib.hid (alloc_below1 _ _)
  have HC0 : Hid (∀ i, i < 31 → ∃ p : Bs, p.length ≤ 4 ∧ (w.alloc (.cells (bytesP.map S).toArray 9)).cell? ⟨w.heap.size, i, none⟩ = some (S p)) := Lib.hid (pieces_at w bytesP 31 rfl (by decide))
  go_loopw [4, 5] (fun sv i wr => ∃ (k : Nat) (s : Bs), k ≤ n ∧ k ≤ 60 ∧ i = .int .i64 k ∧ sv = S s ∧ s.length ≤ 4 * k ∧ Hid (Below w.heap.size w wr) ∧ Hid (∀ i, i < 31 → ∃ p : Bs, p.length ≤ 4 ∧ wr.cell? ⟨w.heap.size, i, none⟩ = some (S p))) (fun _ i _ => 60 - (intOf i).toNat)
  case atStart => exact ⟨0, [], by omega, by omega, rfl, rfl, by simp, HB0, HC0⟩
  case round =>
    obtain ⟨k, s, hkn, hk60, rfl, rfl, hsl, HB, HC⟩ := hrel
    by_cases hkn2 : k < n
    · by_cases hk2 : k < 60
      · have h1 : (k : Int) < n := by omega
        have h2 : (k : Int) < 60 := by omega
        obtain ⟨_, _, hv0, hv1⟩ := HV.out
        obtain ⟨b, off, hva, hbz, hcells⟩ := hv1 (by omega)
        injection hv0 with e1 e2 e3
        subst e1 e3
        subst hva
        obtain ⟨z, hz, hzc⟩ := hcells k hkn2
        have d0 : wr.cell? ⟨b, off + k, none⟩ = some (.int .i64 z) := by
          rw [HB.out.cell (p := ⟨b, off + k, none⟩) hbz]; exact hzc
        clear hcells hv1
        by_cases hz4 : 0 < z.tmod 4
        · go_wp2_with (go_at_call 18; ((with_reducible refine Calls.mono (mod_18 _ 22 22 (by omega) (by omega) rfl _) ?_); rintro e w5 ⟨m, hm, rfl, rfl⟩; obtain ⟨p, hp, hpc⟩ := HC.out m (by omega); have hm2 : (m : Int) < 31 := by omega))
          go_roundw
          case rel => exact ⟨k + 1, s ++ p, by omega, by omega, by go_num, rfl, by simp; omega, HB, HC⟩
          case measure => simp [intOf]; omega
        · go_wp2_with (go_at_call 18; ((with_reducible refine Calls.mono (mod_18 _ 31 31 (by omega) (by omega) rfl _) ?_); rintro e w5 ⟨m, hm, rfl, rfl⟩; obtain ⟨p, hp, hpc⟩ := HC.out m (by omega); have hm2 : (m : Int) < 31 := by omega))
          go_roundw
          case rel => exact ⟨k + 1, s ++ p, by omega, by omega, by go_num, rfl, by simp; omega, HB, HC⟩
          case measure => simp [intOf]; omega
      · have h1 : (k : Int) < n := by omega
        have h2 : ¬ (k : Int) < 60 := by omega
        go_wp2_with fail
        go_ret
        exact ⟨s, rfl, by omega, HB.out⟩
    · have h1 : ¬ (k : Int) < n := by omega
      go_wp2_with fail
      go_ret
      exact ⟨s, rfl, by omega, HB.out⟩
set_option maxHeartbeats 8000000 in
set_option maxRecDepth 100000 in
theorem text_13 (v : Value) (n : Nat) (w : World) (hv : NumsIn w v n) (_ : n ≤ maxLen) : Calls Tryd.prog 13 #[v] w fun e w' => ∃ s : Bs, e = .returned (S s) ∧ s.length ≤ 240 ∧ Below w.heap.size w w' := by
  have HV := Lib.hid hv
  obtain ⟨va, vc, rfl, -⟩ := hv
  go_enter Tryd.func13, Tryd.ntmps13
  go_wp2_with fail
  have HB0 : Hid (Below w.heap.size w (w.alloc (.cells (textP.map S).toArray 9))) := Lib.hid (alloc_below1 _ _)
  have HC0 : Hid (∀ i, i < 35 → ∃ p : Bs, p.length ≤ 4 ∧ (w.alloc (.cells (textP.map S).toArray 9)).cell? ⟨w.heap.size, i, none⟩ = some (S p)) := Lib.hid (pieces_at w textP 35 rfl (by decide))
  go_loopw [4, 5] (fun sv i wr => ∃ (k : Nat) (s : Bs), k ≤ n ∧ k ≤ 60 ∧ i = .int .i64 k ∧ sv = S s ∧ s.length ≤ 4 * k ∧ Hid (Below w.heap.size w wr) ∧ Hid (∀ i, i < 35 → ∃ p : Bs, p.length ≤ 4 ∧ wr.cell? ⟨w.heap.size, i, none⟩ = some (S p))) (fun _ i _ => 60 - (intOf i).toNat)
  case atStart => exact ⟨0, [], by omega, by omega, rfl, rfl, by simp, HB0, HC0⟩
  case round =>
    obtain ⟨k, s, hkn, hk60, rfl, rfl, hsl, HB, HC⟩ := hrel
    by_cases hkn2 : k < n
    · by_cases hk2 : k < 60
      · have h1 : (k : Int) < n := by omega
        have h2 : (k : Int) < 60 := by omega
        obtain ⟨_, _, hv0, hv1⟩ := HV.out
        obtain ⟨b, off, hva, hbz, hcells⟩ := hv1 (by omega)
        injection hv0 with e1 e2 e3
        subst e1 e3
        subst hva
        obtain ⟨z, hz, hzc⟩ := hcells k hkn2
        have d0 : wr.cell? ⟨b, off + k, none⟩ = some (.int .i64 z) := by
          rw [HB.out.cell (p := ⟨b, off + k, none⟩) hbz]; exact hzc
        clear hcells hv1
        by_cases hz4 : 0 < z.tmod 8
        · go_wp2_with (go_at_call 18; ((with_reducible refine Calls.mono (mod_18 _ 22 22 (by omega) (by omega) rfl _) ?_); rintro e w5 ⟨m, hm, rfl, rfl⟩; obtain ⟨p, hp, hpc⟩ := HC.out m (by omega); have hm2 : (m : Int) < 35 := by omega))
          go_roundw
          case rel => exact ⟨k + 1, s ++ p, by omega, by omega, by go_num, rfl, by simp; omega, HB, HC⟩
          case measure => simp [intOf]; omega
        · go_wp2_with (go_at_call 18; ((with_reducible refine Calls.mono (mod_18 _ 35 35 (by omega) (by omega) rfl _) ?_); rintro e w5 ⟨m, hm, rfl, rfl⟩; obtain ⟨p, hp, hpc⟩ := HC.out m (by omega); have hm2 : (m : Int) < 35 := by omega))
          go_roundw
          case rel => exact ⟨k + 1, s ++ p, by omega, by omega, by go_num, rfl, by simp; omega, HB, HC⟩
          case measure => simp [intOf]; omega
      · have h1 : (k : Int) < n := by omega
        have h2 : ¬ (k : Int) < 60 := by omega
        go_wp2_with fail
        go_ret
        exact ⟨s, rfl, by omega, HB.out⟩
    · have h1 : ¬ (k : Int) < n := by omega
      go_wp2_with fail
      go_ret
      exact ⟨s, rfl, by omega, HB.out⟩
end Go.Proofs.YtpkacoknpedolaaDoor
