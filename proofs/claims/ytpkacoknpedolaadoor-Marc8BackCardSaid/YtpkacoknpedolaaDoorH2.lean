/-
  The walk of Parts: a character's letter and mark.
-/
import Derived.Test.YtpkacoknpedolaaDoorH1
import Derived.Deep.RegionWith
import Derived.IntWalk
namespace Go.Proofs.YtpkacoknpedolaaDoor
open Go.RowKit

/-- As run_runes, at every world. -/
theorem run_runes_all (l : Bs) (rs : List Nat) (h : RunesFrom ⟨l.toArray⟩ 0 rs) (hl : l.length ≤ 1000000) : ∃ (cap : World → Nat) (zs : World → List Value), ∀ W : World, (convert 9 29 (S l)).run Tryd.prog W = .ok (.slice (some ⟨W.heap.size, 0, none⟩) rs.length (cap W)) (W.drew.alloc (.cells ((rs.map fun c : Nat => Value.int .i32 c) ++ zs W).toArray 21)) := by
  have h1 := fun W => run_runes W l rs h hl
  obtain ⟨cap, h2⟩ := Classical.axiomOfChoice h1
  obtain ⟨zs, h3⟩ := Classical.axiomOfChoice h2
  exact ⟨cap, zs, h3⟩
set_option maxHeartbeats 8000000 in
set_option maxRecDepth 100000 in
theorem parts_19 (c : Nat) (w : World) (hc : c < 2147483648) : Calls Tryd.prog 19 #[.int .i64 c] w fun e w' => e = .returned (.tuple #[.int .i64 (partC c).1, .int .i64 (partC c).2]) ∧ Below w.heap.size w w' := by
  have mixed : Tryd.prog.follows Departure.mixedOrders = true := by kernel_rfl
  go_enter Tryd.func19, Tryd.ntmps19
  go_wp2_with (go_at_call 39; ((with_reducible refine Calls.mono (composed_39 _) ?_); rintro e w1 ⟨rfl, hr1, hb1, hz1⟩; have HR1 := Lib.hid hr1; have HB1 := Lib.hid hb1; clear hr1 hb1))
  go_loopw [5] (fun i wr => ∃ k : Nat, k ≤ 13 ∧ i = .int .i64 k ∧ Hid (RefAt wr w.heap.size) ∧ Below w.heap.size w wr ∧ w.heap.size + 1 ≤ wr.heap.size ∧ Hid (∀ i, i < k → c ∉ refChars.getD i [])) (fun i _ => 13 - (intOf i).toNat)
  case atStart => exact ⟨0, by omega, rfl, HR1, HB1.out, hz1, Lib.hid (fun i hi => by omega)⟩
  case round =>
    obtain ⟨k, hk, rfl, HR, hb, hz, HN⟩ := hrel
    by_cases hk13 : k < 13
    · obtain ⟨q1, q2, q3, q4, q5, q6, q7, q8, q9⟩ := ref_rows ⟨k, hk13⟩
      have HP := Lib.hid (ref_pairs ⟨k, hk13⟩)
      simp only at q1 q2 q3 q4 q5 q6 q7 q8 q9 HP
      have c0 : wr.cell? ⟨w.heap.size, k * 3, none⟩ = some (S (refFlat.getD (k * 3) [])) := HR.out _ (by omega)
      have c1 : wr.cell? ⟨w.heap.size, k * 3 + 1, none⟩ = some (S (refFlat.getD (k * 3 + 1) [])) := HR.out _ (by omega)
      have c2 : wr.cell? ⟨w.heap.size, k * 3 + 2, none⟩ = some (S (refFlat.getD (k * 3 + 2) [])) := HR.out _ (by omega)
      rw [q4] at c1
      have HN1 : Hid (∀ rs, rs = refChars.getD k [] → c ∉ rs → ∀ i, i < k + 1 → c ∉ refChars.getD i []) := Lib.hid (by
        intro rs e h i hi
        rcases Nat.lt_or_ge i k with h1 | h1
        · exact HN.out i h1
        · have : i = k := by omega
          subst this; rw [← e]; exact h)
      generalize refFlat.getD (k * 3) [] = row at *
      generalize refFlat.getD (k * 3 + 2) [] = mrow at *
      obtain ⟨rs, hrs⟩ : ∃ rs, rs = refChars.getD k [] := ⟨_, rfl⟩
      obtain ⟨ls, hls⟩ : ∃ ls, ls = refLets.getD k [] := ⟨_, rfl⟩
      obtain ⟨m, hm⟩ : ∃ m, m = refMarks.getD k 0 := ⟨_, rfl⟩
      have HN2 := Lib.hid (HN1.out rs hrs)
      rw [← hrs, ← hls, ← hm] at HP
      rw [← hrs] at q1 q3 q5
      rw [← hls] at c1 q5
      rw [← hm] at q6 q8 q9
      clear hrs hls hm q4 HN1 HN
      obtain ⟨cap, zs, hcv⟩ := run_runes_all row rs q1 (by omega)
      obtain ⟨cap2, zs2, hcv2⟩ := run_runes_all mrow [m] q6 (by omega)
      have HCV2 := Lib.hid hcv2
      clear hcv2
      have hcw := hcv wr
      clear hcv
      have HC0 : Hid (∀ j, j < rs.length → (wr.drew.alloc (.cells ((rs.map fun c : Nat => Value.int .i32 c) ++ zs wr).toArray 21)).cell? ⟨wr.heap.size, j, none⟩ = some (.int .i32 (rs.getD j 0))) := fun j h => by
        show (World.alloc wr.drew _).cell? ⟨wr.drew.heap.size, j, none⟩ = _
        rw [World.cell?_alloc_new, List.getElem?_toArray, List.getElem?_append_left (by simpa using h)]
        simp [h, List.getD_eq_getElem?_getD]
      have hB1 : Below wr.heap.size wr (wr.drew.alloc (.cells ((rs.map fun c : Nat => Value.int .i32 c) ++ zs wr).toArray 21)) := (Below.refl _ wr).drew.alloc (by simp) _
      have hz1 : (wr.drew.alloc (.cells ((rs.map fun c : Nat => Value.int .i32 c) ++ zs wr).toArray 21)).heap.size = wr.heap.size + 1 := by show (wr.heap.push _).size = _; simp
      generalize (wr.drew.alloc (.cells ((rs.map fun c : Nat => Value.int .i32 c) ++ zs wr).toArray 21)) = W1 at *
      generalize cap wr = cp at *
      have HR1 : Hid (RefAt W1 w.heap.size) := Lib.hid (fun j hj => bext hB1 _ _ (HR.out j hj))
      have d1 := bext hB1 _ _ c1
      have d2 := bext hB1 _ _ c2
      have hb1 := btr hb hB1 (by omega)
      obtain ⟨R, hRR⟩ : ∃ R, wr.heap.size = R := ⟨_, rfl⟩
      rw [hRR] at HC0 hcw hz1 hz
      have HZ1 := Lib.hid hz1
      clear hB1 HR c1 c2 hRR hz1
      have hk13i : (k : Int) < 13 := by omega
      go_wp2_with fail
      go_loopw [7] (fun i wx => ∃ j : Nat, j ≤ rs.length ∧ i = .int .i64 j ∧ wx = W1 ∧ Hid (∀ i, i < j → c ≠ rs.getD i 0)) (fun i _ => rs.length - (intOf i).toNat)
      case atStart => exact ⟨0, by omega, rfl, rfl, Lib.hid (fun i hi => by omega)⟩
      case round =>
        obtain ⟨j, hj, rfl, rfl, HJ⟩ := hrel
        by_cases hjl : j < rs.length
        · have hjl2 : (j : Int) < rs.length := by omega
          have d0 := HC0.out j hjl
          obtain ⟨g1, g2, g3⟩ := HP.out ⟨j, by omega⟩ hjl
          simp only at g1 g2 g3
          obtain ⟨x, hx⟩ : ∃ x, x = rs.getD j 0 := ⟨_, rfl⟩
          rw [← hx] at d0 g1 g3
          have HJ2 : Hid (c ≠ x → ∀ i, i < j + 1 → c ≠ rs.getD i 0) := Lib.hid (by
            intro h i hi
            rcases Nat.lt_or_ge i j with h1 | h1
            · exact HJ.out i h1
            · have : i = j := by omega
              subst this; rw [← hx]; exact h)
          clear hx
          by_cases hcx : c = x
          · subst hcx
            have hpc : partC c = (ls.getD j 0, m) := by unfold partC; rw [g1]; rfl
            have HPC := Lib.hid hpc
            clear hpc g1
            obtain ⟨W2, cp2, hcv3, hW2, hd2⟩ : ∃ (W2 : World) (cp2 : Nat), (convert 9 29 (S mrow)).run Tryd.prog wr.drew = .ok (.slice (some ⟨wr.heap.size, 0, none⟩) 1 cp2) W2 ∧ Below wr.heap.size wr W2 ∧ W2.cell? ⟨wr.heap.size, 0, none⟩ = some (.int .i32 m) := by
              refine ⟨_, _, HCV2.out wr.drew, (Below.refl _ wr).drew.drew.alloc (by simp) _, ?_⟩
              show (World.alloc wr.drew.drew _).cell? ⟨wr.drew.drew.heap.size, 0, none⟩ = _
              rw [World.cell?_alloc_new]; rfl
            have e1 := bext hW2 _ _ d1
            have e2 := bext hW2 _ _ d2
            have HB2 := Lib.hid (btr hb1 hW2 (by have := HZ1.out; omega))
            obtain ⟨lb, hlb⟩ : ∃ lb : Bs, lb = ls.map UInt8.ofNat := ⟨_, rfl⟩
            have hll : lb.length = rs.length := by rw [hlb]; simp [q5]
            have hjb : (j : Int) < lb.length := by omega
            have hjb2 : j < lb.length := by omega
            have HLB : Hid ((lb[j].toNat : Int) = (ls.getD j 0 : Nat)) := Lib.hid (by
              subst hlb
              simp only [List.getElem_map, List.getD_eq_getElem?_getD, List.getElem?_eq_getElem (show j < ls.length by omega)] at g2 ⊢
              rw [UInt8.toNat_ofNat_of_lt' (Nat.lt_trans (by simpa using g2) (by decide))]; rfl)
            rw [← hlb] at d1 e1
            have h01 : (0 : Int) < 1 := by omega
            clear hlb hll g2 HJ2 HJ hW2 HCV2 hcw q1 q6
            go_wp2_with fail
            go_region_with (fail)
            all_goals
              go_wp2_with fail
              go_ret2
              refine ⟨?_, HB2.out⟩
              rw [HPC.out]
              have k1 : IntKind.i64.wrap (lb[j].toNat : Int) = lb[j].toNat := IntWalk.i64_in _ (by have := lb[j].toNat_lt; omega)
              have k2 : IntKind.i64.wrap (m : Int) = m := IntWalk.i64_in _ (by omega)
              rw [k1, k2, HLB.out]
              rfl
          · have hci : ¬ (c : Int) = (x : Int) := by omega
            go_wp2_with fail
            go_roundw
            case rel => exact ⟨j + 1, by omega, by go_num, trivial, Lib.hid (HJ2.out hcx)⟩
            case measure => simp [intOf]; omega
        · have hjl2 : ¬ (j : Int) < rs.length := by omega
          have hjr : j = rs.length := by omega
          have hnm : c ∉ rs := fun h => by
            obtain ⟨i, hi, e⟩ := List.getElem_of_mem h
            refine HJ.out i (by omega) ?_
            rw [List.getD_eq_getElem?_getD, List.getElem?_eq_getElem hi]; exact e.symm
          go_wp2_with fail
          go_roundw
          case rel => exact ⟨k + 1, by omega, by go_num, HR1, hb1, by have := HZ1.out; omega, Lib.hid (HN2.out hnm)⟩
          case measure => simp [intOf]; omega
    · have hk0 : k = 13 := by omega
      subst hk0
      go_wp2_with fail
      go_ret2
      have hn := ref_none HN.out
      unfold partC
      rw [hn]
      exact ⟨rfl, hb⟩
end Go.Proofs.YtpkacoknpedolaaDoor
