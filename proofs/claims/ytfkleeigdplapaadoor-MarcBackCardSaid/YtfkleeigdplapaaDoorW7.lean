/-
  The walk of the reference's Write.
-/
import Derived.Test.YtfkleeigdplapaaDoorW5
import Derived.Test.YtfkleeigdplapaaDoorConv
namespace Go.Proofs.YtfkleeigdplapaaDoor
open Go.RowKit
attribute [local go_sem ↓] Go.wp_at_zero Go.wp_at_succ

set_option maxHeartbeats 1000000 in
theorem write_20_wrong (r : RecD) (v : Value) (w : World) (hs : RecAt 0 w.heap.size w v r) (hsm : Small r.fields) (h : wrongR r ≠ 0) :
   Calls Tryd.prog 20 #[v] w fun e w' => e = .returned (.tuple #[S (writeR r).1, .int .i64 (writeR r).2]) ∧ Below w.heap.size w w' := by
  have HW : Hid (writeR r = ([], wrongR r)) := if_neg h
  have h2 : (wrongR r != 0) = true := by simpa using h
  obtain ⟨x, rfl, hs⟩ := hs
  have HS : ∀ W, Below w.heap.size w W → RecAt 0 W.heap.size W (recV r x) r := fun W hb => ⟨x, rfl, (hs.kept (bkept hb (Nat.le_refl _))).mono (Nat.le_refl _) hb.size⟩
  have HS := Lib.hid HS
  have h36 : ∀ W, Below w.heap.size w W → Calls Tryd.prog 36 #[recV r x] W fun e w' => e = .returned (.int .i64 (wrongR r)) ∧ Below W.heap.size W w' := fun W hb => wrong_36 r _ W (HS.out W hb) hsm
  have H36 := Lib.hid h36
  clear h36
  unfold recV at *
  rw [HW.out]
  generalize wrongR r = e at *
  go_enter Tryd.func20, Tryd.ntmps20
  go_wp2_with (go_at_call 36; refine (H36.out _ (alloc_below _ _)).mono ?_; rintro e w1 ⟨rfl, hb⟩)
  go_ret2
  exact ⟨rfl, btr (alloc_below w _) hb (by simp)⟩

set_option maxHeartbeats 4000000 in
set_option maxRecDepth 100000 in
theorem write_20_right (r : RecD) (v : Value) (w : World) (hs : RecAt 0 w.heap.size w v r) (hsm : Small r.fields) (h : wrongR r = 0) :
   Calls Tryd.prog 20 #[v] w fun e w' => e = .returned (.tuple #[S (writeR r).1, .int .i64 (writeR r).2]) ∧ Below w.heap.size w w' := by
  have HW : Hid (writeR r = (writeB r, 0)) := if_pos h
  have HR := Lib.hid (right_of h)
  have H36 : Hid (∀ W, Below w.heap.size w W → Calls Tryd.prog 36 #[v] W fun e w' => e = .returned (.int .i64 0) ∧ Below W.heap.size W w') := fun W hb => by
    have := wrong_36 r v W ((hs.kept (bkept hb (Nat.le_refl _))).mono (Nat.le_refl _) hb.size) hsm
    rw [h] at this; exact this
  clear h hsm
  rw [HW.out]
  obtain ⟨x, rfl, hs⟩ := hs
  obtain ⟨kind, level, fields⟩ := r
  simp only at hs
  have HS := Lib.hid hs
  obtain ⟨a, cap, rfl⟩ := hs.shape
  have hn : fields.length ≤ 999 := HR.out.many
  have hd : (dataOf fields).length ≤ 99999 := by have := HR.out.size; simp only at this; omega
  have HD : Hid (∀ k, (dataOf (fields.take k)).length ≤ 99999) := fun k => Nat.le_trans (dataOf_take _ _) hd
  unfold recV at *
  clear hs hd
  go_enter Tryd.func20, Tryd.ntmps20
  go_wp2_with (go_at_call 36; refine (H36.out _ (alloc_below _ _)).mono ?_; rintro e w1 ⟨rfl, hb⟩; have hb0 := hb; clear hb)
  go_loopw [5, 6, 7, 8] (fun dr da i t wr => ∃ (k : Nat) (D A : Bs), k ≤ fields.length ∧ i = .int .i64 k ∧ dr = S D ∧ da = S A ∧ Hid (D = dirFrom 0 (fields.take k)) ∧ Hid (A = dataOf (fields.take k)) ∧ D.length ≤ 12000 ∧ A.length ≤ 99999 ∧
      Below (w.heap.size + 1) (w.alloc (Obj.cells #[.int .u8 kind.toNat, .int .u8 level.toNat, Value.slice a fields.length cap] 27)) wr) (fun _ _ i _ _ => fields.length - (intOf i).toNat)
  case atStart => exact ⟨0, [], [], Nat.zero_le _, rfl, rfl, rfl, rfl, rfl, by simp, by simp, hb0.mono (by simp)⟩
  case round =>
    obtain ⟨k, D, A, hk, rfl, rfl, rfl, HDi, HDa, hdl, hal, hb⟩ := hrel
    have hc2 : wr.cell? ⟨w.heap.size, 2, none⟩ = some (Value.slice a fields.length cap) := by rw [hb.cell (p := ⟨w.heap.size, 2, none⟩) (by simp)]; go_simp
    have hw1 : w.heap.size < wr.heap.size := cell_lt hc2
    by_cases hlt : k < fields.length
    · have hsr : FieldsAt 0 w.heap.size wr (Value.slice a fields.length cap) fields := (HS.out.kept (bkept (alloc_below w _) (Nat.le_refl _))).kept (bkept hb (by omega))
      obtain ⟨b, off, cap', d, hv, _, _, ht1, ht2, ht3, ht4, hsd⟩ := hsr.field k hlt
      cases hv
      have hmem := List.getElem_mem hlt
      have hle0 := HR.out.long _ hmem
      have HT : Hid (D ++ (fields[k].tag ++ fixedN 4 (fieldBytes fields[k]).length ++ fixedN 5 A.length) = dirFrom 0 (fields.take (k + 1))) := by
        rw [List.take_succ_eq_append_getElem hlt, dirFrom_snoc, HDi.out, HDa.out]; simp [Hid]
      have HTl : (D ++ (fields[k].tag ++ fixedN 4 (fieldBytes fields[k]).length ++ fixedN 5 A.length)).length ≤ 12000 := by
        rw [HT.out, HR.out.dir (k + 1) hlt]; omega
      have HA : Hid (A ++ fieldBytes fields[k] = dataOf (fields.take (k + 1))) := by rw [List.take_succ_eq_append_getElem hlt, dataOf_snoc, HDa.out]; rfl
      have HAl : (A ++ fieldBytes fields[k]).length ≤ 99999 := by rw [HA.out]; exact HD.out _
      have HSD : Hid (SubsAt 0 wr.heap.size wr d fields[k].subs) := hsd.mono (Nat.le_refl _) (by omega)
      clear hsd hsr hmem
      simp only [List.length_append, fixedN_length] at HTl HAl
      have hle : (fieldBytes fields[k]).length ≤ 1000000 := by omega
      have hle2 := Nat.le_trans (subs_le fields[k]) hle
      have hb2 : b < wr.heap.size := cell_lt ht1
      generalize fields[k] = f at *
      go_wp2_with (go_at_call 49; refine (bytes_49 f d _ HSD.out hle hle2).mono ?_; rintro e w2 ⟨rfl, hb1⟩; obtain ⟨hcc, hff⟩ := bcell hb1)
      have hc2' : w2.cell? ⟨w.heap.size, 2, none⟩ = some (Value.slice (some ⟨b, off, none⟩) fields.length cap) := by rw [hcc _ _ hw1]; exact hc2
      have ht1' : w2.cell? ⟨b, off + k * 4, none⟩ = some (S f.tag) := by rw [hcc _ _ hb2]; exact ht1
      generalize fieldBytes f = F at *
      generalize f.tag = G at *
      have q1 : ¬ 9223372036854775807 < List.length D + List.length G := by omega
      have q2 : ¬ 9223372036854775807 < List.length D + List.length G + 4 := by omega
      have q3 : ¬ 9223372036854775807 < List.length D + (List.length G + 4) + 5 := by omega
      have a1 : 0 ≤ (F.length : Int) ∧ (F.length : Int) < 1000000000 := by omega
      have a2 : 0 ≤ (A.length : Int) ∧ (A.length : Int) < 1000000000 := by omega
      go_region_held3 (fun w' => w'.cell? ⟨w.heap.size, 2, none⟩ = some (Value.slice (some ⟨b, off, none⟩) fields.length cap) ∧ w'.cell? ⟨b, off + k * 4, none⟩ = some (S G)) (go_keep)
        (first
          | (go_at_call_of 50 (Value.int IntKind.i64 ↑(List.length F)); refine (fixed_50 4 _ _ _ rfl a1.1 a1.2 (by omega)).mono ?_; rintro e w3 ⟨rfl, hb3⟩; have hx3 := bext hb3)
          | (go_at_call_of 50 (Value.int IntKind.i64 ↑(List.length A)); refine (fixed_50 5 _ _ _ rfl a2.1 a2.2 (by omega)).mono ?_; rintro e w4 ⟨rfl, hb4⟩; have hx4 := bext hb4))
      have hb5 : Below (w.heap.size + 1) (w.alloc (Obj.cells #[.int .u8 kind.toNat, .int .u8 level.toNat, Value.slice (some ⟨b, off, none⟩) fields.length cap] 27)) w4 := by
        have h1 := hb1.size
        have h3 : w2.heap.size ≤ w3.heap.size := hb3.size
        exact btr (btr (btr hb hb1 (by omega)).drew hb3 (by simp; omega)) hb4 (by omega)
      clear hx3 hx4 hcc hff
      go_wp2_with fail
      go_roundw
      case rel => exact ⟨k + 1, D ++ (G ++ fixedN 4 F.length ++ fixedN 5 A.length), A ++ F, by omega, by go_num, by simp, by go_num, HT, HA, by simp [fixedN_length]; omega, by simp; omega, hb5⟩
      case measure => simp [intOf]; omega
    · have hk2 : fields.take k = fields := List.take_of_length_le (by omega)
      rw [hk2] at HDi HDa
      have HDl := HR.out.dir k hk
      simp only at HDl
      rw [hk2, ← HDi.out] at HDl
      have HSZ := HR.out.size
      simp only at HSZ
      rw [← HDa.out] at HSZ
      clear hk2
      have hc0 : wr.cell? ⟨w.heap.size, 0, none⟩ = some (.int .u8 kind.toNat) := by rw [hb.cell (p := ⟨w.heap.size, 0, none⟩) (by simp)]; go_simp
      have hc1 : wr.cell? ⟨w.heap.size, 1, none⟩ = some (.int .u8 level.toNat) := by rw [hb.cell (p := ⟨w.heap.size, 1, none⟩) (by simp)]; go_simp
      have hdl3 : 25 + D.length + A.length + 1 ≤ 99999 := by omega
      have HDL := Lib.hid HDl
      have HFIN : Hid (∀ l : Bs, l = leaderOf ⟨kind, level, fields⟩ (25 + D.length + A.length + 1) (25 + D.length) ++ D ++ [30] ++ A ++ [29] → Ending.returned (.tuple #[S l, .int .i64 0]) = .returned (.tuple #[S (writeB ⟨kind, level, fields⟩), .int .i64 0])) := by
        intro l h; rw [h, HDi.out, HDa.out]; rfl
      clear HDl HSZ
      have a1 : 0 ≤ (25 + (D.length : Int)) ∧ (25 + (D.length : Int)) < 1000000000 := by omega
      have a2 : 0 ≤ (25 + (D.length : Int) + A.length + 1) ∧ (25 + (D.length : Int) + A.length + 1) < 1000000000 := by omega
      have ac0 : ∀ o, (wr.alloc o).cell? ⟨w.heap.size, 0, none⟩ = some (.int .u8 kind.toNat) := fun o => by rw [alloc_old _ _ _ _ hw1]; exact hc0
      have ac1 : ∀ o, (wr.alloc o).cell? ⟨w.heap.size, 1, none⟩ = some (.int .u8 level.toNat) := fun o => by rw [alloc_old _ _ _ _ hw1]; exact hc1
      have e1 : IntKind.i64.wrap (25 + (D.length : Int)) = 25 + D.length := IntWalk.i64_in _ (by omega)
      have e2 : IntKind.i64.wrap (25 + (D.length : Int) + A.length) = 25 + D.length + A.length := IntWalk.i64_in _ (by omega)
      have e3 : IntKind.i64.wrap (25 + (D.length : Int) + A.length + 1) = 25 + D.length + A.length + 1 := IntWalk.i64_in _ (by omega)
      go_wp2_with fail
      have tok1 : True := trivial
      go_region_with
        (first
          | (go_at_call 50; have _t := tok1; go_must (refine (fixed_50 5 _ _ _ rfl (by omega) (by omega) (by omega)).mono ?_); clear _t tok1; rintro e w3 ⟨rfl, hb3⟩; have hx3 := bext hb3; obtain ⟨hcc3, hff3⟩ := bcell hb3)
          | (go_at_call 50; go_must (refine (fixed_50 5 _ _ _ rfl (by omega) (by omega) (by omega)).mono ?_); rintro e w4 ⟨rfl, hb4⟩; have hx4 := bext hb4; obtain ⟨hcc4, hff4⟩ := bcell hb4))
      all_goals
        clear hx3 hx4 hcc3 hff3 hcc4 hff4
        go_wp2_with fail
        go_ret2
        refine ⟨HFIN.out _ (by simp [leaderOf]), ?_⟩
        have hz3 := hb3.size
        have hz4 := hb4.size
        simp only [World.size_drew, World.size_alloc] at hz3 hz4
        first
          | exact btr (alloc_below w _) (btr (btr ((hb.alloc (by omega) _).drew) hb3 (by simp; omega)) hb4 (by omega)) (by omega)
          | exact btr (alloc_below w _) (btr ((btr hb.drew hb3 (by simp; omega)).alloc (by omega) _) hb4 (by simp; omega)) (by omega)
          | exact btr (alloc_below w _) ((btr (btr hb.drew hb3 (by simp; omega)) hb4 (by omega)).alloc (by omega) _) (by omega)

theorem write_20 (r : RecD) (v : Value) (w : World) (hs : RecAt 0 w.heap.size w v r) (hsm : Small r.fields) :
   Calls Tryd.prog 20 #[v] w fun e w' => e = .returned (.tuple #[S (writeR r).1, .int .i64 (writeR r).2]) ∧ Below w.heap.size w w' := by
  by_cases h : wrongR r = 0
  · exact write_20_right r v w hs hsm h
  · exact write_20_wrong r v w hs hsm h

theorem right_16 (r : RecD) (v : Value) (w : World) (hs : RecAt 0 w.heap.size w v r) (hsm : Small r.fields) :
   Calls Tryd.prog 16 #[v] w fun e w' => e = .returned (.bool (decide (wrongR r = 0))) ∧ Below w.heap.size w w' := by
  have H36 : Hid (∀ W, Below w.heap.size w W → Calls Tryd.prog 36 #[v] W fun e w' => e = .returned (.int .i64 (wrongR r)) ∧ Below W.heap.size W w') := fun W hb =>
    wrong_36 r v W ((hs.kept (bkept hb (Nat.le_refl _))).mono (Nat.le_refl _) hb.size) hsm
  obtain ⟨x, rfl, _⟩ := hs
  unfold recV at *
  generalize wrongR r = e at *
  go_enter Tryd.func16, Tryd.ntmps16
  go_wp2_with (go_at_call 36; refine (H36.out _ (alloc_below _ _)).mono ?_; rintro e w1 ⟨rfl, hb⟩)
  go_ret
  exact ⟨ret_bool (by rw [Bool.eq_iff_iff]; simp), btr (alloc_below w _) hb (by simp)⟩
end Go.Proofs.YtfkleeigdplapaaDoor
