/-
  letters and long: n equal bytes.
-/
import Derived.Test.YtfkleeigdplapaaDoorM4
import Derived.Laws.OwnMore
namespace Go.Proofs.YtfkleeigdplapaaDoor
open Go.RowKit
attribute [local go_sem ↓] Go.wp_at_zero Go.wp_at_succ

theorem make_bytes (n : Nat) (w : World) (hn : n ≤ 1000000) : ∃ w', (Instr.makeSlice 40 (.int .i64 n) (.int .i64 n)).run Tryd.prog w = .ok (.slice (some ⟨w.heap.size, 0, none⟩) n n) w' ∧ Below w.heap.size w w' ∧ w.heap.size < w'.heap.size ∧ BytesZ w' w.heap.size (List.replicate n 0) := by
  obtain ⟨i, hi, hz, hs, hby⟩ : ∃ i, Tryd.prog.info? 5 = some i ∧ i.zero = some (.int .u8 0) ∧ i.size = 1 ∧ i.bytes = 1 := by
    have := i5
    revert this
    cases Tryd.prog.info? 5 <;> simp
  obtain ⟨w', hr, hown, hg⟩ := run_makeSlice_full (P := Tryd.prog) w w.heap.size 40 5 i (.int .u8 0) 1 Tryd.underlying40 hi hz hs .i64 .i64 n (by omega) (by rw [hby]; omega) (by unfold maxLen; omega) (Nat.le_refl _)
  have hlt := (hown.lt w.heap.size rfl).2
  refine ⟨w', hr, ⟨hg.os, hg.tape, hg.output, hg.size, fun k hk => hg.block k hk (by simp)⟩, hlt, fun j hj => ?_, fun j _ => hown.frozenAt j⟩
  have hj' : j < n := by simpa using hj
  rw [hown.cellAt j (by simpa using hj')]
  simp [madeCells, Value.cells, hj', Nat.mod_one]
def OnesPost (n : Nat) (c : Int) (w : World) (e : Ending) (w' : World) : Prop :=
  ∃ cap, e = .returned (.slice (some ⟨w.heap.size, 0, none⟩) n cap) ∧ Below w.heap.size w w' ∧ w.heap.size < w'.heap.size ∧ BytesZ w' w.heap.size (List.replicate n c)
theorem fill_set (n k : Nat) (c : Int) (h : k < n) : (List.replicate k c ++ List.replicate (n - k) 0).set k c = List.replicate (k + 1) c ++ List.replicate (n - (k + 1)) 0 := by
  rw [List.set_append_right _ _ (by simp)]
  simp only [List.length_replicate, Nat.sub_self]
  rw [show n - k = (n - (k + 1)) + 1 from by omega, List.replicate_succ, List.set_cons_zero, List.replicate_succ']
  simp
set_option maxHeartbeats 1000000 in
theorem letters_28 (n : Nat) (w : World) (hn : n ≤ 1000000) : Calls Tryd.prog 28 #[.int .i64 n] w (OnesPost n 121 w) := by
  obtain ⟨w1, hmk, hb1, hz1, hB⟩ := make_bytes n w hn
  have HB1 := Lib.hid hB
  clear hB
  go_enter Tryd.func28, Tryd.ntmps28
  go_wp2_with fail
  go_loopw [4] (fun i wr => ∃ k : Nat, k ≤ n ∧ i = .int .i64 k ∧ Below w.heap.size w wr ∧ w.heap.size < wr.heap.size ∧ Hid (BytesZ wr w.heap.size (List.replicate k 121 ++ List.replicate (n - k) 0))) (fun i _ => n - (intOf i).toNat)
  case atStart => exact ⟨0, by omega, rfl, hb1, hz1, by simpa using HB1⟩
  case round =>
    obtain ⟨k, hk, rfl, hb, hz, HB⟩ := hrel
    clear hmk
    by_cases hlt : k < n
    · have s1 := HB.out.1 k (by simp; omega)
      have s2 := HB.out.2 k (by simp; omega)
      go_wp2_with fail
      go_roundw
      case rel =>
        refine ⟨k + 1, by omega, by go_num, hb.setCell (Nat.le_refl _) _, by simpa using hz, ?_⟩
        have := HB.out.set k 121 (by simp; omega)
        rw [fill_set n k 121 hlt] at this
        exact this
      case measure => simp [intOf]; omega
    · go_wp2_with fail
      go_ret
      refine ⟨n, rfl, hb, hz, ?_⟩
      have := HB.out
      rw [show n - k = 0 from by omega, show k = n from by omega] at this
      simpa using this
set_option maxHeartbeats 1000000 in
theorem long_33 (n : Nat) (w : World) (hn : n ≤ 1000000) : Calls Tryd.prog 33 #[.int .i64 n] w (OnesPost n 108 w) := by
  obtain ⟨w1, hmk, hb1, hz1, hB⟩ := make_bytes n w hn
  have HB1 := Lib.hid hB
  clear hB
  go_enter Tryd.func33, Tryd.ntmps33
  go_wp2_with fail
  go_loopw [4] (fun i wr => ∃ k : Nat, k ≤ n ∧ i = .int .i64 k ∧ Below w.heap.size w wr ∧ w.heap.size < wr.heap.size ∧ Hid (BytesZ wr w.heap.size (List.replicate k 108 ++ List.replicate (n - k) 0))) (fun i _ => n - (intOf i).toNat)
  case atStart => exact ⟨0, by omega, rfl, hb1, hz1, by simpa using HB1⟩
  case round =>
    obtain ⟨k, hk, rfl, hb, hz, HB⟩ := hrel
    clear hmk
    by_cases hlt : k < n
    · have s1 := HB.out.1 k (by simp; omega)
      have s2 := HB.out.2 k (by simp; omega)
      go_wp2_with fail
      go_roundw
      case rel =>
        refine ⟨k + 1, by omega, by go_num, hb.setCell (Nat.le_refl _) _, by simpa using hz, ?_⟩
        have := HB.out.set k 108 (by simp; omega)
        rw [fill_set n k 108 hlt] at this
        exact this
      case measure => simp [intOf]; omega
    · go_wp2_with fail
      go_ret
      refine ⟨n, rfl, hb, hz, ?_⟩
      have := HB.out
      rw [show n - k = 0 from by omega, show k = n from by omega] at this
      simpa using this
end Go.Proofs.YtfkleeigdplapaaDoor
