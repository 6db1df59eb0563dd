/-
  The walk of the reference's SameField.
  The walk of the reference's Same.
-/
import Derived.Test.YtfkleeigdplapaaDoorW5
import Derived.Deep.RegionHeld3
namespace Go.Proofs.YtfkleeigdplapaaDoor
open Go.RowKit

open Classical in
noncomputable def sameF (f g : FieldD) : Bool := decide (f = g)
theorem sameF_iff (f g : FieldD) : sameF f g = true ↔ f = g := by unfold sameF; simp
theorem sameF_no {f g : FieldD} (h : f ≠ g) : sameF f g = false := by unfold sameF; simp [h]

set_option maxHeartbeats 2000000 in
set_option maxRecDepth 100000 in
theorem sameField_48_no (f g : FieldD) (d c : Value) (w : World) (hd : ∃ a cap, d = .slice a f.subs.length cap) (hc : ∃ a cap, c = .slice a g.subs.length cap)
   (h : f.tag ≠ g.tag ∨ f.ind ≠ g.ind ∨ f.data ≠ g.data ∨ f.subs.length ≠ g.subs.length) :
   Calls Tryd.prog 48 #[fieldV f d, fieldV g c] w fun e w' => e = .returned (.bool (sameF f g)) ∧ Below w.heap.size w w' := by
  have HN : Hid (sameF f g = false) := sameF_no (by rintro rfl; simp at h)
  obtain ⟨a, cap, rfl⟩ := hd
  obtain ⟨a2, cap2, rfl⟩ := hc
  obtain ⟨tag, ind, data, subs⟩ := f
  obtain ⟨tag2, ind2, data2, subs2⟩ := g
  simp only at h
  unfold fieldV
  rw [HN.out]
  have H := Lib.hid h
  clear h
  go_enter Tryd.func48, Tryd.ntmps48
  go_wp2_with fail
  all_goals first
    | (go_ret; exact ⟨rfl, (alloc_below w _).alloc (by simp) _⟩)
    | (exfalso; go_tidy; have h := H.out; clear H; simp_all; omega)

theorem take_eq_snoc {α : Type} {l m : List α} (k : Nat) (h1 : k < l.length) (h2 : k < m.length) (h : l.take k = m.take k) (he : l[k] = m[k]) : l.take (k + 1) = m.take (k + 1) := by
  rw [List.take_succ_eq_append_getElem h1, List.take_succ_eq_append_getElem h2, h, he]

set_option maxHeartbeats 2000000 in
set_option maxRecDepth 100000 in
theorem sameField_48_loop (tag ind data : Bs) (subs subs2 : List SubD) (d c : Value) (w : World) (hd : SubsAt 0 w.heap.size w d subs) (hc : SubsAt 0 w.heap.size w c subs2) (hn : subs.length ≤ 1000000)
   (h : subs.length = subs2.length) :
   Calls Tryd.prog 48 #[fieldV ⟨tag, ind, data, subs⟩ d, fieldV ⟨tag, ind, data, subs2⟩ c] w fun e w' => e = .returned (.bool (sameF ⟨tag, ind, data, subs⟩ ⟨tag, ind, data, subs2⟩)) ∧ Below w.heap.size w w' := by
  have HD := Lib.hid hd
  have HC := Lib.hid hc
  obtain ⟨a, cap, rfl, _⟩ := hd
  obtain ⟨a2, cap2, rfl, _⟩ := hc
  unfold fieldV
  have HL := Lib.hid h
  have hbb : ((subs.length : Int) != subs2.length) = false := by simp [h]
  clear h
  go_enter Tryd.func48, Tryd.ntmps48
  go_wp2_with fail
  go_loopw [5] (fun i wr => ∃ (k : Nat), k ≤ subs.length ∧ i = .int .i64 k ∧ Hid (subs.take k = subs2.take k) ∧
      Below (w.heap.size + 2) ((w.alloc (Obj.cells #[S tag, S ind, S data, Value.slice a subs.length cap] 57)).alloc (Obj.cells #[S tag, S ind, S data, Value.slice a2 subs2.length cap2] 57)) wr) (fun i _ => subs.length - (intOf i).toNat)
  case atStart => exact ⟨0, Nat.zero_le _, rfl, rfl, Below.refl _ _⟩
  case round =>
    obtain ⟨k, hk, rfl, HT, hb⟩ := hrel
    have hc3 : wr.cell? ⟨w.heap.size, 3, none⟩ = some (Value.slice a subs.length cap) := by rw [hb.cell (p := ⟨w.heap.size, 3, none⟩) (by simp)]; go_simp
    have hd3 : wr.cell? ⟨w.heap.size + 1, 3, none⟩ = some (Value.slice a2 subs2.length cap2) := by rw [hb.cell (p := ⟨w.heap.size + 1, 3, none⟩) (by simp)]; go_simp
    have hbw : Below w.heap.size w wr := btr ((alloc_below w _).alloc (by simp) _) hb (by omega)
    by_cases hlt : k < subs.length
    · have hlt2 : k < subs2.length := by rw [← HL.out]; exact hlt
      obtain ⟨b, off, cap', hv, _, _, ht, hx⟩ := (HD.out.kept (bkept hbw (Nat.le_refl _))).sub k hlt
      cases hv
      obtain ⟨b2, off2, cap2', hv, _, _, ht2, hx2⟩ := (HC.out.kept (bkept hbw (Nat.le_refl _))).sub k hlt2
      cases hv
      have HE : Hid (subs[k] = subs2[k] → subs.take (k + 1) = subs2.take (k + 1)) := take_eq_snoc k hlt hlt2 HT.out
      have HN : Hid (subs[k] ≠ subs2[k] → sameF ⟨tag, ind, data, subs⟩ ⟨tag, ind, data, subs2⟩ = false) := fun hne => sameF_no (by intro he; injection he with _ _ _ he; subst he; exact hne rfl)
      generalize hp : subs[k] = p at *
      generalize hq : subs2[k] = q at *
      clear hp hq
      obtain ⟨pc, pt⟩ := p
      obtain ⟨qc, qt⟩ := q
      simp only at ht hx ht2 hx2
      have a1 : (0 : Int) ≤ k := by omega
      have a2 : (k : Int) < subs.length := by omega
      have a3 : (k : Int) < subs2.length := by omega
      by_cases hpc : pc = qc
      · subst hpc
        by_cases hpt : pt = qt
        · subst hpt
          go_wp2_with fail
          go_region_held3 (fun w' => w'.cell? ⟨w.heap.size, 3, none⟩ = some (Value.slice (some ⟨b, off, none⟩) subs.length cap) ∧ w'.cell? ⟨w.heap.size + 1, 3, none⟩ = some (Value.slice (some ⟨b2, off2, none⟩) subs2.length cap2) ∧ w'.cell? ⟨b, off + k * 2, none⟩ = some (.int .u8 pc.toNat) ∧ w'.cell? ⟨b, off + k * 2 + 1, none⟩ = some (S pt) ∧ w'.cell? ⟨b2, off2 + k * 2, none⟩ = some (.int .u8 pc.toNat) ∧ w'.cell? ⟨b2, off2 + k * 2 + 1, none⟩ = some (S pt)) (go_keep) (fail)
          go_wp2_with fail
          go_roundw
          case rel => exact ⟨k + 1, by omega, by go_num, HE.out (by simp), hb.drew⟩
          case measure => simp [intOf]; omega
        · have h1 : (pt == qt) = false := by simpa using hpt
          have h2 : (pt != qt) = true := by simpa using hpt
          go_wp2_with fail
          go_region_held3 (fun w' => w'.cell? ⟨w.heap.size, 3, none⟩ = some (Value.slice (some ⟨b, off, none⟩) subs.length cap) ∧ w'.cell? ⟨w.heap.size + 1, 3, none⟩ = some (Value.slice (some ⟨b2, off2, none⟩) subs2.length cap2) ∧ w'.cell? ⟨b, off + k * 2, none⟩ = some (.int .u8 pc.toNat) ∧ w'.cell? ⟨b, off + k * 2 + 1, none⟩ = some (S pt) ∧ w'.cell? ⟨b2, off2 + k * 2, none⟩ = some (.int .u8 pc.toNat) ∧ w'.cell? ⟨b2, off2 + k * 2 + 1, none⟩ = some (S qt)) (go_keep) (fail)
          go_wp2_with fail
          go_ret
          exact ⟨ret_bool (HN.out (by simpa using hpt)).symm, hbw.drew⟩
      · have h0 : ¬ (pc.toNat : Int) = qc.toNat := by intro h; exact hpc (UInt8.toNat_inj.1 (by omega))
        have h1 : ((pc.toNat : Int) == qc.toNat) = false := by simpa using h0
        have h2 : ((pc.toNat : Int) != qc.toNat) = true := by simpa using h0
        go_wp2_with fail
        go_region_held3 (fun w' => w'.cell? ⟨w.heap.size, 3, none⟩ = some (Value.slice (some ⟨b, off, none⟩) subs.length cap) ∧ w'.cell? ⟨w.heap.size + 1, 3, none⟩ = some (Value.slice (some ⟨b2, off2, none⟩) subs2.length cap2) ∧ w'.cell? ⟨b, off + k * 2, none⟩ = some (.int .u8 pc.toNat) ∧ w'.cell? ⟨b, off + k * 2 + 1, none⟩ = some (S pt) ∧ w'.cell? ⟨b2, off2 + k * 2, none⟩ = some (.int .u8 qc.toNat) ∧ w'.cell? ⟨b2, off2 + k * 2 + 1, none⟩ = some (S qt)) (go_keep) (fail)
        go_wp2_with fail
        go_ret
        exact ⟨ret_bool (HN.out (by simp [hpc])).symm, hbw.drew⟩
    · go_wp2_with fail
      go_ret
      refine ⟨ret_bool ?_, hbw⟩
      symm; rw [sameF_iff]
      have h1 := HT.out
      have h2 := HL.out
      rw [List.take_of_length_le (by omega), List.take_of_length_le (by omega)] at h1
      rw [h1]

/-- SameField: true exactly at equal fields. -/
theorem sameField_48 (f g : FieldD) (d c : Value) (w : World) (hd : SubsAt 0 w.heap.size w d f.subs) (hc : SubsAt 0 w.heap.size w c g.subs) (hn : f.subs.length ≤ 1000000) :
   Calls Tryd.prog 48 #[fieldV f d, fieldV g c] w fun e w' => e = .returned (.bool (sameF f g)) ∧ Below w.heap.size w w' := by
  have hd' : ∃ a cap, d = .slice a f.subs.length cap := by obtain ⟨a, cap, h, _⟩ := hd; exact ⟨a, cap, h⟩
  have hc' : ∃ a cap, c = .slice a g.subs.length cap := by obtain ⟨a, cap, h, _⟩ := hc; exact ⟨a, cap, h⟩
  by_cases h : f.tag ≠ g.tag ∨ f.ind ≠ g.ind ∨ f.data ≠ g.data ∨ f.subs.length ≠ g.subs.length
  · exact sameField_48_no f g d c w hd' hc' h
  · obtain ⟨tag, ind, data, subs⟩ := f
    obtain ⟨tag2, ind2, data2, subs2⟩ := g
    simp only [ne_eq, not_or, Decidable.not_not] at h
    obtain ⟨rfl, rfl, rfl, h⟩ := h
    exact sameField_48_loop tag ind data subs subs2 d c w hd hc hn h
end Go.Proofs.YtfkleeigdplapaaDoor

namespace Go.Proofs.YtfkleeigdplapaaDoor
open Go.RowKit

open Classical in
noncomputable def sameR (r s : RecD) : Bool := decide (r = s)
theorem sameR_iff (r s : RecD) : sameR r s = true ↔ r = s := by unfold sameR; simp
theorem sameR_no {r s : RecD} (h : r ≠ s) : sameR r s = false := by unfold sameR; simp [h]

set_option maxHeartbeats 2000000 in
set_option maxRecDepth 100000 in
theorem same_19_no (r s : RecD) (x y : Value) (w : World) (hd : ∃ a cap, x = .slice a r.fields.length cap) (hc : ∃ a cap, y = .slice a s.fields.length cap)
   (h : r.kind ≠ s.kind ∨ r.level ≠ s.level ∨ r.fields.length ≠ s.fields.length) :
   Calls Tryd.prog 19 #[recV r x, recV s y] w fun e w' => e = .returned (.bool (sameR r s)) ∧ Below w.heap.size w w' := by
  have HN : Hid (sameR r s = false) := sameR_no (by rintro rfl; simp at h)
  obtain ⟨a, cap, rfl⟩ := hd
  obtain ⟨a2, cap2, rfl⟩ := hc
  obtain ⟨k, l, fs⟩ := r
  obtain ⟨k2, l2, fs2⟩ := s
  simp only at h
  unfold recV
  rw [HN.out]
  have H := Lib.hid h
  clear h
  go_enter Tryd.func19, Tryd.ntmps19
  go_wp2_with fail
  all_goals first
    | (go_ret; exact ⟨rfl, (alloc_below w _).alloc (by simp) _⟩)
    | (exfalso; go_tidy; have h := H.out; clear H; simp only [ne_eq, ← UInt8.toNat_inj] at h; simp at *; omega)

set_option maxHeartbeats 2000000 in
set_option maxRecDepth 100000 in
theorem same_19_loop (kd lv : UInt8) (fs gs : List FieldD) (x y : Value) (w : World) (hx : FieldsAt 0 w.heap.size w x fs) (hy : FieldsAt 0 w.heap.size w y gs) (hsm : Small fs) (h : fs.length = gs.length) :
   Calls Tryd.prog 19 #[recV ⟨kd, lv, fs⟩ x, recV ⟨kd, lv, gs⟩ y] w fun e w' => e = .returned (.bool (sameR ⟨kd, lv, fs⟩ ⟨kd, lv, gs⟩)) ∧ Below w.heap.size w w' := by
  have HX := Lib.hid hx
  have HY := Lib.hid hy
  obtain ⟨a, cap, rfl⟩ := hx.shape
  obtain ⟨a2, cap2, rfl⟩ := hy.shape
  obtain ⟨hn, hsz⟩ := hsm
  have HSZ := Lib.hid hsz
  clear hx hy hsz
  unfold recV
  have HL := Lib.hid h
  have hbb : ((fs.length : Int) != gs.length) = false := by simp [h]
  clear h
  go_enter Tryd.func19, Tryd.ntmps19
  go_wp2_with fail
  go_loopw [5, 6] (fun i t wr => ∃ (k : Nat), k ≤ fs.length ∧ i = .int .i64 k ∧ Hid (fs.take k = gs.take k) ∧
      Below (w.heap.size + 2) ((w.alloc (Obj.cells #[.int .u8 kd.toNat, .int .u8 lv.toNat, Value.slice a fs.length cap] 27)).alloc (Obj.cells #[.int .u8 kd.toNat, .int .u8 lv.toNat, Value.slice a2 gs.length cap2] 27)) wr) (fun i _ _ => fs.length - (intOf i).toNat)
  case atStart => exact ⟨0, Nat.zero_le _, rfl, rfl, Below.refl _ _⟩
  case round =>
    obtain ⟨k, hk, rfl, HT, hb⟩ := hrel
    have hc3 : wr.cell? ⟨w.heap.size, 2, none⟩ = some (Value.slice a fs.length cap) := by rw [hb.cell (p := ⟨w.heap.size, 2, none⟩) (by simp)]; go_simp
    have hd3 : wr.cell? ⟨w.heap.size + 1, 2, none⟩ = some (Value.slice a2 gs.length cap2) := by rw [hb.cell (p := ⟨w.heap.size + 1, 2, none⟩) (by simp)]; go_simp
    have hbw : Below w.heap.size w wr := btr ((alloc_below w _).alloc (by simp) _) hb (by omega)
    have hbz := hbw.size
    by_cases hlt : k < fs.length
    · have hlt2 : k < gs.length := by rw [← HL.out]; exact hlt
      obtain ⟨b, off, cap', d, hv, _, _, p0, p1, p2, p3, hsd⟩ := (HX.out.kept (bkept hbw (Nat.le_refl _))).field k hlt
      cases hv
      obtain ⟨b2, off2, cap2', d2, hv, _, _, q0, q1, q2, q3, hsd2⟩ := (HY.out.kept (bkept hbw (Nat.le_refl _))).field k hlt2
      cases hv
      have HE : Hid (sameF fs[k] gs[k] = true → fs.take (k + 1) = gs.take (k + 1)) := fun h => take_eq_snoc k hlt hlt2 HT.out ((sameF_iff _ _).1 h)
      have HN : Hid (sameF fs[k] gs[k] = false → sameR ⟨kd, lv, fs⟩ ⟨kd, lv, gs⟩ = false) := fun hne => sameR_no (by intro he; injection he with _ _ he; subst he; have := (sameF_iff fs[k] fs[k]).2 rfl; rw [this] at hne; cases hne)
      have hle2 := Nat.le_trans (subs_le fs[k]) (HSZ.out _ (List.getElem_mem hlt))
      have HC : Hid (∀ W, Below wr.heap.size wr W → Calls Tryd.prog 48 #[fieldV fs[k] d, fieldV gs[k] d2] W fun e w' => e = .returned (.bool (sameF fs[k] gs[k])) ∧ Below W.heap.size W w') := fun W hW =>
        sameField_48 _ _ _ _ W ((hsd.kept (bkept hW (by omega))).mono (Nat.le_refl _) (by have := hW.size; omega)) ((hsd2.kept (bkept hW (by omega))).mono (Nat.le_refl _) (by have := hW.size; omega)) hle2
      unfold fieldV at HC
      clear hsd hsd2 hle2
      generalize sameF fs[k] gs[k] = t at *
      generalize fs[k].tag = f1 at *
      generalize fs[k].ind = f2 at *
      generalize fs[k].data = f3 at *
      generalize gs[k].tag = g1 at *
      generalize gs[k].ind = g2 at *
      generalize gs[k].data = g3 at *
      have a1 : (0 : Int) ≤ k := by omega
      have a2 : (k : Int) < fs.length := by omega
      have a3 : (k : Int) < gs.length := by omega
      cases t
      all_goals
        go_wp2_with fail
        go_region_held3 (fun w' => w'.cell? ⟨w.heap.size, 2, none⟩ = some (Value.slice (some ⟨b, off, none⟩) fs.length cap) ∧ w'.cell? ⟨w.heap.size + 1, 2, none⟩ = some (Value.slice (some ⟨b2, off2, none⟩) gs.length cap2)
          ∧ w'.cell? ⟨b, off + k * 4, none⟩ = some (S f1) ∧ w'.cell? ⟨b, off + k * 4 + 1, none⟩ = some (S f2) ∧ w'.cell? ⟨b, off + k * 4 + 2, none⟩ = some (S f3) ∧ w'.cell? ⟨b, off + k * 4 + 3, none⟩ = some d
          ∧ w'.cell? ⟨b2, off2 + k * 4, none⟩ = some (S g1) ∧ w'.cell? ⟨b2, off2 + k * 4 + 1, none⟩ = some (S g2) ∧ w'.cell? ⟨b2, off2 + k * 4 + 2, none⟩ = some (S g3) ∧ w'.cell? ⟨b2, off2 + k * 4 + 3, none⟩ = some d2) (go_keep)
          ((go_at_call 48; refine (HC.out _ ?_).mono ?_; (exact (Below.refl _ wr).drew); rintro e w3 ⟨rfl, hb3⟩; have hx3 := bext hb3))
        go_wp2_with fail
      · go_ret
        exact ⟨ret_bool (HN.out (by simp)).symm, btr hbw.drew hb3 (by simpa using hbz)⟩
      · go_roundw
        case rel => exact ⟨k + 1, by omega, by go_num, HE.out (by simp), btr hb.drew hb3 (by have : w.heap.size + 1 < wr.heap.size := cell_lt hd3; simp; omega)⟩
        case measure => simp [intOf]; omega
    · go_wp2_with fail
      go_ret
      refine ⟨ret_bool ?_, hbw⟩
      symm; rw [sameR_iff]
      have h1 := HT.out
      have h2 := HL.out
      rw [List.take_of_length_le (by omega), List.take_of_length_le (by omega)] at h1
      rw [h1]

theorem same_19 (r s : RecD) (u v : Value) (w : World) (hu : RecAt 0 w.heap.size w u r) (hv : RecAt 0 w.heap.size w v s) (hsm : Small r.fields) :
   Calls Tryd.prog 19 #[u, v] w fun e w' => e = .returned (.bool (sameR r s)) ∧ Below w.heap.size w w' := by
  obtain ⟨x, rfl, hx⟩ := hu
  obtain ⟨y, rfl, hy⟩ := hv
  by_cases h : r.kind ≠ s.kind ∨ r.level ≠ s.level ∨ r.fields.length ≠ s.fields.length
  · exact same_19_no r s x y w hx.shape hy.shape h
  · obtain ⟨k, l, fs⟩ := r
    obtain ⟨k2, l2, gs⟩ := s
    simp only [ne_eq, not_or, Decidable.not_not] at h
    obtain ⟨rfl, rfl, h⟩ := h
    exact same_19_loop k l fs gs x y w hx hy hsm h
end Go.Proofs.YtfkleeigdplapaaDoor
