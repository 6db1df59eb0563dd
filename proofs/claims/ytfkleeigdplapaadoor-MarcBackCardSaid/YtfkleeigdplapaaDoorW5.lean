/-
  The walk of the reference's rightField: ErrEntry, ErrField or nothing.
  The walk of the reference's Wrong: the error of Write.
-/
import Derived.Test.YtfkleeigdplapaaDoorW1
import Derived.Test.YtfkleeigdplapaaDoorBase
namespace Go.Proofs.YtfkleeigdplapaaDoor
open Go.RowKit

theorem text_le (f : FieldD) (i : Nat) (h : i < f.subs.length) : f.subs[i].text.length ≤ (fieldBytes f).length := by
  have := fieldBytes_take f (i + 1)
  rw [flat_snoc _ _ _ h] at this
  simp [subBytes] at this
  omega
theorem wf_tag (f : FieldD) (h : isTagB f.tag = false) : wrongF f = 13 := by simp [wrongF, h]
theorem wf_ctrl (f : FieldD) (h : isTagB f.tag = true) (hc : ctrlB f.tag = true) : wrongF f = if isTextB f.data && decide (f.ind = []) && f.subs.isEmpty then 0 else 14 := by simp [wrongF, h, hc]
theorem wf_data (f : FieldD) (h : isTagB f.tag = true) (hc : ctrlB f.tag = false) : wrongF f = if decide (f.data = []) && indsB f.ind && !f.subs.isEmpty && f.subs.all subOk then 0 else 14 := by simp [wrongF, h, hc]

set_option maxHeartbeats 2000000 in
set_option maxRecDepth 100000 in
theorem right_55_tag (f : FieldD) (d : Value) (w : World) (h : isTagB f.tag = false) :
   Calls Tryd.prog 55 #[fieldV f d] w fun e w' => e = .returned (.int .i64 (wrongF f)) ∧ Below w.heap.size w w' := by
  have HW := Lib.hid (wf_tag f h)
  obtain ⟨tag, ind, data, subs⟩ := f
  simp only at h
  unfold fieldV
  go_enter Tryd.func55, Tryd.ntmps55
  go_wp2_with (go_at_call 72; refine (isTag_72 _ _).mono ?_; rintro e w' ⟨rfl, rfl⟩)
  go_ret
  exact ⟨ret_i64 HW.out.symm, (Below.refl _ w).alloc (Nat.le_refl _) _⟩

set_option maxHeartbeats 2000000 in
set_option maxRecDepth 100000 in
theorem right_55_ctrl (f : FieldD) (d : Value) (w : World) (hd : ∃ a cap, d = .slice a f.subs.length cap) (hl : (fieldBytes f).length ≤ 1000000) (h : isTagB f.tag = true) (hc : ctrlB f.tag = true) :
   Calls Tryd.prog 55 #[fieldV f d] w fun e w' => e = .returned (.int .i64 (wrongF f)) ∧ Below w.heap.size w w' := by
  have HW := Lib.hid (wf_ctrl f h hc)
  obtain ⟨a, cap, rfl⟩ := hd
  have hl1 := fieldBytes_take f 0
  have hl2 := isTag_len h
  obtain ⟨tag, ind, data, subs⟩ := f
  simp only at h hc hl1 hl2
  have hl3 : data.length ≤ 1000000 := by simp at hl1; omega
  have hl4 : 2 ≤ tag.length := by omega
  clear hl1 hl2 hl
  unfold fieldV
  cases ht : isTextB data
  all_goals
    go_enter Tryd.func55, Tryd.ntmps55
    go_wp2_with first
      | (go_at_call 72; refine (isTag_72 _ _).mono ?_; rintro e w' ⟨rfl, rfl⟩)
      | (go_at_call 35; refine (control_35 _ _ hl4).mono ?_; rintro e w' ⟨rfl, rfl⟩)
      | (go_at_call 75; refine (isText_75 _ _ hl3).mono ?_; rintro e w1 ⟨rfl, hb⟩; obtain ⟨hc, hf⟩ := bcell hb)
    all_goals go_ret
    all_goals refine ⟨ret_i64 (HW.out.trans ?_).symm, btr ((Below.refl _ w).alloc (Nat.le_refl _) _) hb (by simp)⟩
    all_goals go_tidy
    all_goals simp_all
    all_goals (try (intro h0; subst h0; simp at *))

set_option maxHeartbeats 4000000 in
set_option maxRecDepth 100000 in
theorem right_55_bad (f : FieldD) (d : Value) (w : World) (hd : ∃ a cap, d = .slice a f.subs.length cap) (h : isTagB f.tag = true) (hc : ctrlB f.tag = false)
   (hbad : (decide (f.data = []) && indsB f.ind && !f.subs.isEmpty) = false) :
   Calls Tryd.prog 55 #[fieldV f d] w fun e w' => e = .returned (.int .i64 (wrongF f)) ∧ Below w.heap.size w w' := by
  have HW : Hid (wrongF f = 14) := by rw [wf_data f h hc, hbad]; rfl
  obtain ⟨a, cap, rfl⟩ := hd
  have hl2 := isTag_len h
  obtain ⟨tag, ind, data, subs⟩ := f
  simp only at h hc hl2 hbad
  have hl4 : 2 ≤ tag.length := by omega
  clear hl2
  unfold fieldV
  by_cases hd0 : data = []
  · subst hd0
    by_cases hi : ind.length = 2
    · obtain ⟨p, q, rfl⟩ : ∃ p q, ind = [p, q] := by
        match ind, hi with
        | [p, q], _ => exact ⟨p, q, rfl⟩
      have HB := Lib.hid hbad
      clear hbad hi
      have hp := u8_lt p
      have hq := u8_lt q
      go_enter Tryd.func55, Tryd.ntmps55
      go_wp2_with first
        | (go_at_call 72; refine (isTag_72 _ _).mono ?_; rintro e w' ⟨rfl, rfl⟩)
        | (go_at_call 35; refine (control_35 _ _ hl4).mono ?_; rintro e w' ⟨rfl, rfl⟩)
      all_goals first
        | (go_ret; exact ⟨ret_i64 HW.out.symm, (Below.refl _ w).alloc (Nat.le_refl _) _⟩)
        | (exfalso
           go_tidy
           have hb := HB.out
           simp [indsB, indicB] at hb
           simp at *
           have : subs = [] := hb (by omega) (by omega) (by omega) (by omega)
           subst this
           simp at *)
    · have hi2 : ((ind.length : Int) == 2) = false := by simp; omega
      have hi3 : ((ind.length : Int) != 2) = true := by simp; omega
      go_enter Tryd.func55, Tryd.ntmps55
      go_wp2_with first
        | (go_at_call 72; refine (isTag_72 _ _).mono ?_; rintro e w' ⟨rfl, rfl⟩)
        | (go_at_call 35; refine (control_35 _ _ hl4).mono ?_; rintro e w' ⟨rfl, rfl⟩)
      go_ret
      exact ⟨ret_i64 HW.out.symm, (Below.refl _ w).alloc (Nat.le_refl _) _⟩
  · have hd1 : (data == []) = false := by simpa using hd0
    have hd2 : (data != []) = true := by simpa using hd0
    have hd3 : data.isEmpty = false := by simpa using hd0
    go_enter Tryd.func55, Tryd.ntmps55
    go_wp2_with first
      | (go_at_call 72; refine (isTag_72 _ _).mono ?_; rintro e w' ⟨rfl, rfl⟩)
      | (go_at_call 35; refine (control_35 _ _ hl4).mono ?_; rintro e w' ⟨rfl, rfl⟩)
    go_ret
    exact ⟨ret_i64 HW.out.symm, (Below.refl _ w).alloc (Nat.le_refl _) _⟩

set_option maxHeartbeats 4000000 in
set_option maxRecDepth 100000 in
theorem right_55_loop (f : FieldD) (d : Value) (w : World) (hs : SubsAt 0 w.heap.size w d f.subs) (hl : (fieldBytes f).length ≤ 1000000) (hn : f.subs.length ≤ 1000000) (h : isTagB f.tag = true) (hc : ctrlB f.tag = false)
   (hgood : (decide (f.data = []) && indsB f.ind && !f.subs.isEmpty) = true) :
   Calls Tryd.prog 55 #[fieldV f d] w fun e w' => e = .returned (.int .i64 (wrongF f)) ∧ Below w.heap.size w w' := by
  have HW : Hid (wrongF f = if f.subs.all subOk then 0 else 14) := by rw [wf_data f h hc, hgood]; rfl
  have hl2 := isTag_len h
  have HL := Lib.hid (fun i h => Nat.le_trans (text_le f i h) hl)
  obtain ⟨tag, ind, data, subs⟩ := f
  simp only at h hc hl2 hgood hn
  have hl4 : 2 ≤ tag.length := by omega
  simp only [Bool.and_eq_true, decide_eq_true_eq, Bool.not_eq_true'] at hgood
  obtain ⟨⟨rfl, hi⟩, hse⟩ := hgood
  have hi2 : ind.length = 2 := by simp [indsB] at hi; exact hi.1
  obtain ⟨p, q, rfl⟩ : ∃ p q, ind = [p, q] := by
    match ind, hi2 with
    | [p, q], _ => exact ⟨p, q, rfl⟩
  simp [indsB, indicB] at hi
  obtain ⟨⟨hp1, hp2⟩, hq1, hq2⟩ := hi
  have hs0 : 0 < subs.length := by cases subs with | nil => simp at hse | cons _ _ => simp
  have hs1 : ((subs.length : Int) == 0) = false := beq_eq_false_iff_ne.2 (by omega)
  have HS := Lib.hid hs
  obtain ⟨a, cap, rfl, _⟩ := hs
  clear hl hl2 hse hi2
  unfold fieldV
  go_enter Tryd.func55, Tryd.ntmps55
  go_wp2_with first
    | (go_at_call 72; refine (isTag_72 _ _).mono ?_; rintro e w' ⟨rfl, rfl⟩)
    | (go_at_call 35; refine (control_35 _ _ hl4).mono ?_; rintro e w' ⟨rfl, rfl⟩)
  go_loopw [5, 6] (fun i t wr => ∃ (k : Nat), k ≤ subs.length ∧ i = .int .i64 k ∧ Hid ((subs.take k).all subOk = true) ∧
      Below (w.heap.size + 1) (w.alloc (Obj.cells #[S tag, S [p, q], S [], Value.slice a subs.length cap] 57)) wr) (fun i _ _ => subs.length - (intOf i).toNat)
  case atStart => exact ⟨0, Nat.zero_le _, rfl, rfl, Below.refl _ _⟩
  case round =>
    obtain ⟨k, hk, rfl, HA, hb⟩ := hrel
    have hc3 : wr.cell? ⟨w.heap.size, 3, none⟩ = some (Value.slice a subs.length cap) := by rw [hb.cell (p := ⟨w.heap.size, 3, none⟩) (by simp)]; go_simp
    by_cases hlt : k < subs.length
    · have hsr : SubsAt 0 w.heap.size wr (Value.slice a subs.length cap) subs := (HS.out.kept (bkept ((Below.refl _ w).alloc (Nat.le_refl _) _) (Nat.le_refl _))).kept (bkept hb (by omega))
      obtain ⟨b, off, cap', hv, _, _, ht, hx⟩ := hsr.sub k hlt
      cases hv
      have hle : subs[k].text.length ≤ 1000000 := HL.out k hlt
      have HT : Hid ((subs.take (k + 1)).all subOk = (isTextB subs[k].text && signB subs[k].code)) := by
        rw [List.take_succ_eq_append_getElem hlt, List.all_append, HA.out]; simp [Hid, subOk]
      have HF : Hid (subOk subs[k] = false → wrongF ⟨tag, [p, q], [], subs⟩ = 14) := by
        intro h; rw [HW.out, if_neg]; intro ha; rw [List.all_eq_true] at ha; have := ha _ (List.getElem_mem hlt); simp [h] at this
      have HO : Hid (subOk subs[k] = (isTextB subs[k].text && signB subs[k].code)) := rfl
      have h1 : w.heap.size < wr.heap.size := cell_lt hc3
      have h2 : b < wr.heap.size := cell_lt ht
      generalize subs[k].text = T at *
      generalize subs[k].code = C at *
      cases ht1 : isTextB T
      · go_wp2_with (go_at_call 75; refine (isText_75 _ _ hle).mono ?_; rintro e w1 ⟨rfl, hb1⟩; obtain ⟨hcc, hff⟩ := bcell hb1)
        go_ret
        exact ⟨ret_i64 (HF.out (by rw [HO.out, ht1]; rfl)).symm, btr ((Below.refl _ w).alloc (Nat.le_refl _) _) (btr hb hb1 (by omega)) (by omega)⟩
      · cases hs2 : signB C
        all_goals
          go_wp2_with first
            | (go_at_call 75; refine (isText_75 _ _ hle).mono ?_; rintro e w1 ⟨rfl, hb1⟩; obtain ⟨hcc, hff⟩ := bcell hb1)
            | (go_at_call 76; refine (sign_76 _ _).mono ?_; rintro e w' ⟨rfl, rfl⟩)
        · go_ret
          exact ⟨ret_i64 (HF.out (by rw [HO.out, ht1, hs2]; rfl)).symm, btr ((Below.refl _ w).alloc (Nat.le_refl _) _) (btr hb hb1 (by omega)) (by omega)⟩
        · go_roundw
          case rel => exact ⟨k + 1, by omega, by go_num, by rw [HT.out, ht1, hs2]; rfl, btr hb hb1 (by omega)⟩
          case measure => simp [intOf]; omega
    · go_wp2_with fail
      go_ret
      refine ⟨ret_i64 (HW.out.trans ?_).symm, btr ((Below.refl _ w).alloc (Nat.le_refl _) _) hb (by omega)⟩
      rw [if_pos (by rw [← HA.out, List.take_of_length_le (by omega)])]

theorem right_55 (f : FieldD) (d : Value) (w : World) (hs : SubsAt 0 w.heap.size w d f.subs) (hl : (fieldBytes f).length ≤ 1000000) (hn : f.subs.length ≤ 1000000) :
   Calls Tryd.prog 55 #[fieldV f d] w fun e w' => e = .returned (.int .i64 (wrongF f)) ∧ Below w.heap.size w w' := by
  have hd : ∃ a cap, d = .slice a f.subs.length cap := by obtain ⟨a, cap, h, _⟩ := hs; exact ⟨a, cap, h⟩
  cases h : isTagB f.tag
  · exact right_55_tag f d w h
  · cases hc : ctrlB f.tag
    · cases hg : (decide (f.data = []) && indsB f.ind && !f.subs.isEmpty)
      · exact right_55_bad f d w hd h hc hg
      · exact right_55_loop f d w hs hl hn h hc hg
    · exact right_55_ctrl f d w hd hl h hc
end Go.Proofs.YtfkleeigdplapaaDoor

namespace Go.Proofs.YtfkleeigdplapaaDoor
open Go.RowKit

theorem alloc_below (w : World) (o : Obj) : Below w.heap.size w (w.alloc o) := (Below.refl _ w).alloc (Nat.le_refl _) o
theorem wr_letter (r : RecD) (h : (letterB r.kind && letterB r.level) = false) : wrongR r = 12 := by
  unfold wrongR; rw [if_pos]; cases h1 : letterB r.kind <;> cases h2 : letterB r.level <;> simp_all
theorem wr_field (r : RecD) (h : letterB r.kind = true) (h2 : letterB r.level = true) (h3 : firstWrong r.fields ≠ 0) : wrongR r = firstWrong r.fields := by
  simp [wrongR, h, h2, h3]
theorem wr_rest (r : RecD) (h : letterB r.kind = true) (h2 : letterB r.level = true) (h3 : firstWrong r.fields = 0) :
    wrongR r = if tooLong r.fields || decide (999 < r.fields.length) || decide (99999 < sizeOf r.fields) then 2 else 0 := by
  simp [wrongR, h, h2, h3]

set_option maxHeartbeats 2000000 in
theorem wrong_36_letter (r : RecD) (x : Value) (w : World) (h : (letterB r.kind && letterB r.level) = false) :
   Calls Tryd.prog 36 #[recV r x] w fun e w' => e = .returned (.int .i64 (wrongR r)) ∧ Below w.heap.size w w' := by
  have HW := Lib.hid (wr_letter r h)
  obtain ⟨kind, level, fields⟩ := r
  simp only at h
  unfold recV
  cases hk : letterB kind
  · go_enter Tryd.func36, Tryd.ntmps36
    go_wp2_with (go_at_call 54; refine (letter_54 _ _).mono ?_; rintro e w' ⟨rfl, rfl⟩)
    go_ret
    exact ⟨ret_i64 HW.out.symm, alloc_below _ _⟩
  · have hv : letterB level = false := by simpa [hk] using h
    clear h
    go_enter Tryd.func36, Tryd.ntmps36
    go_wp2_with (go_at_call 54; refine (letter_54 _ _).mono ?_; rintro e w' ⟨rfl, rfl⟩)
    go_ret
    exact ⟨ret_i64 HW.out.symm, alloc_below _ _⟩

set_option maxHeartbeats 4000000 in
set_option maxRecDepth 100000 in
theorem wrong_36_rest (r : RecD) (x : Value) (w : World) (hs : FieldsAt 0 w.heap.size w x r.fields) (hsm : Small r.fields) (h : letterB r.kind = true) (h2 : letterB r.level = true) :
   Calls Tryd.prog 36 #[recV r x] w fun e w' => e = .returned (.int .i64 (wrongR r)) ∧ Below w.heap.size w w' := by
  have HF := Lib.hid (wr_field r h h2)
  have HR := Lib.hid (wr_rest r h h2)
  obtain ⟨kind, level, fields⟩ := r
  simp only at h h2 hs hsm
  have HS := Lib.hid hs
  obtain ⟨a, cap, rfl⟩ := hs.shape
  obtain ⟨hn, hsz⟩ := hsm
  have HSZ := Lib.hid hsz
  clear hs hsz
  unfold recV
  go_enter Tryd.func36, Tryd.ntmps36
  go_wp2_with (go_at_call 54; refine (letter_54 _ _).mono ?_; rintro e w' ⟨rfl, rfl⟩)
  go_loopw [3, 4] (fun i t wr => ∃ (k : Nat), k ≤ fields.length ∧ i = .int .i64 k ∧ Hid (firstWrong (fields.take k) = 0) ∧
      Below (w.heap.size + 1) (w.alloc (Obj.cells #[.int .u8 kind.toNat, .int .u8 level.toNat, Value.slice a fields.length cap] 27)) wr) (fun i _ _ => fields.length - (intOf i).toNat)
  case atStart => exact ⟨0, Nat.zero_le _, rfl, rfl, Below.refl _ _⟩
  case round =>
    obtain ⟨k, hk, rfl, HA, hb⟩ := hrel
    have hc3 : wr.cell? ⟨w.heap.size, 2, none⟩ = some (Value.slice a fields.length cap) := by rw [hb.cell (p := ⟨w.heap.size, 2, none⟩) (by simp)]; go_simp
    have hw1 : w.heap.size < wr.heap.size := cell_lt hc3
    by_cases hlt : k < fields.length
    · have hsr : FieldsAt 0 w.heap.size wr (Value.slice a fields.length cap) fields := (HS.out.kept (bkept (alloc_below w _) (Nat.le_refl _))).kept (bkept hb (by omega))
      obtain ⟨b, off, cap', d, hv, _, _, ht1, ht2, ht3, ht4, hsd⟩ := hsr.field k hlt
      cases hv
      have hle := HSZ.out _ (List.getElem_mem hlt)
      have hle2 := Nat.le_trans (subs_le fields[k]) hle
      have HFK : Hid (wrongF fields[k] ≠ 0 → wrongR ⟨kind, level, fields⟩ = wrongF fields[k]) := by
        intro hne
        have := firstWrong_at fields k hlt HA.out
        rw [if_neg hne] at this
        rw [HF.out (by show firstWrong fields ≠ 0; rw [this]; exact hne)]
        exact this
      have HFT := Lib.hid (firstWrong_take fields k hlt HA.out)
      have HSD : Hid (SubsAt 0 wr.heap.size wr d fields[k].subs) := hsd.mono (Nat.le_refl _) (by omega)
      clear hsd hsr
      generalize hfk : fields[k] = f at *
      have HFK2 := Lib.hid hfk
      clear hfk
      cases hwf : decide (wrongF f = 0)
      all_goals simp only [decide_eq_true_eq, decide_eq_false_iff_not] at hwf
      · have hwf2 : (wrongF f != 0) = true := by simpa using hwf
        go_wp2_with (go_at_call 55; refine (right_55 f d _ HSD.out hle hle2).mono ?_; rintro e w1 ⟨rfl, hb1⟩; obtain ⟨hcc, hff⟩ := bcell hb1)
        go_ret
        exact ⟨ret_i64 (HFK.out hwf).symm, btr (alloc_below w _) (btr hb hb1 (by omega)) (by omega)⟩
      · have HWF := Lib.hid hwf
        clear hwf
        go_wp2_with (go_at_call 55; refine (right_55 f d _ HSD.out hle hle2).mono ?_; rintro e w1 ⟨rfl, hb1⟩; obtain ⟨hcc, hff⟩ := bcell hb1; rw [HWF.out])
        go_roundw
        case rel => exact ⟨k + 1, by omega, by go_num, HFT.out HWF.out, btr hb hb1 (by omega)⟩
        case measure => simp [intOf]; omega
    · have HR2 : Hid (wrongR ⟨kind, level, fields⟩ = if tooLong fields || decide (999 < fields.length) || decide (99999 < sizeOf fields) then 2 else 0) :=
        HR.out (by rw [← HA.out, List.take_of_length_le (by omega)])
      go_wp2_with fail
      clear HA hk hlt hc3 HR HF
      have hb' := hb
      clear hb hw1
      go_loopw [5, 6, 7] (fun s i t wr => ∃ (k n : Nat), k ≤ fields.length ∧ i = .int .i64 k ∧ s = .int .i64 n ∧ n ≤ 26 + k * 1000012 ∧ Hid (tooLong (fields.take k) = false) ∧ Hid (n = sizeOf (fields.take k)) ∧
          Below (w.heap.size + 1) (w.alloc (Obj.cells #[.int .u8 kind.toNat, .int .u8 level.toNat, Value.slice a fields.length cap] 27)) wr) (fun _ i _ _ => fields.length - (intOf i).toNat)
      case atStart => exact ⟨0, 26, Nat.zero_le _, rfl, rfl, by omega, rfl, rfl, hb'⟩
      case round =>
        obtain ⟨k, n, hk, rfl, rfl, hnk, HA, HN, hb⟩ := hrel
        have hc3 : wr.cell? ⟨w.heap.size, 2, none⟩ = some (Value.slice a fields.length cap) := by rw [hb.cell (p := ⟨w.heap.size, 2, none⟩) (by simp)]; go_simp
        have hw1 : w.heap.size < wr.heap.size := cell_lt hc3
        by_cases hlt : k < fields.length
        · have hsr : FieldsAt 0 w.heap.size wr (Value.slice a fields.length cap) fields := (HS.out.kept (bkept (alloc_below w _) (Nat.le_refl _))).kept (bkept hb (by omega))
          obtain ⟨b, off, cap', d, hv, _, _, ht1, ht2, ht3, ht4, hsd⟩ := hsr.field k hlt
          cases hv
          have hle := HSZ.out _ (List.getElem_mem hlt)
          have hle2 := Nat.le_trans (subs_le fields[k]) hle
          have HSD : Hid (SubsAt 0 wr.heap.size wr d fields[k].subs) := hsd.mono (Nat.le_refl _) (by omega)
          have HL := Lib.hid (tooLong_at fields k hlt)
          have HL2 := Lib.hid (tooLong_take fields k hlt HA.out)
          have HS2 := Lib.hid (sizeOf_snoc fields k hlt)
          clear hsd hsr
          generalize fields[k] = f at *
          by_cases hlong : 9999 < (fieldBytes f).length
          · go_wp2_with (go_at_call 49; refine (bytes_49 f d _ HSD.out hle hle2).mono ?_; rintro e w1 ⟨rfl, hb1⟩; obtain ⟨hcc, hff⟩ := bcell hb1)
            go_ret
            refine ⟨ret_i64 ?_, btr (alloc_below w _) (btr hb hb1 (by omega)) (by omega)⟩
            rw [HR2.out, HL.out hlong]; rfl
          · go_wp2_with (go_at_call 49; refine (bytes_49 f d _ HSD.out hle hle2).mono ?_; rintro e w1 ⟨rfl, hb1⟩; obtain ⟨hcc, hff⟩ := bcell hb1)
            go_roundw
            case rel => exact ⟨k + 1, n + 12 + (fieldBytes f).length, by omega, by go_num, by go_num, by omega, HL2.out hlong, by rw [HN.out]; exact HS2.out.symm, btr hb hb1 (by omega)⟩
            case measure => simp [intOf]; omega
        · have HT : Hid (wrongR ⟨kind, level, fields⟩ = if decide (999 < fields.length) || decide (99999 < n) then 2 else 0) := by
            have hk2 : fields.take k = fields := List.take_of_length_le (by omega)
            have h1 := HA.out
            have h2 := HN.out
            rw [hk2] at h1 h2
            rw [HR2.out, h1, ← h2, Bool.false_or]
            rfl
          go_wp2_with fail
          all_goals go_ret
          all_goals refine ⟨ret_i64 (HT.out.trans ?_).symm, btr (alloc_below w _) hb (by omega)⟩
          all_goals go_tidy
          all_goals first | rw [if_pos (by simp; omega)] | rw [if_neg (by simp; omega)]

theorem wrong_36 (r : RecD) (v : Value) (w : World) (hs : RecAt 0 w.heap.size w v r) (hsm : Small r.fields) :
   Calls Tryd.prog 36 #[v] w fun e w' => e = .returned (.int .i64 (wrongR r)) ∧ Below w.heap.size w w' := by
  obtain ⟨x, rfl, hs⟩ := hs
  cases h : (letterB r.kind && letterB r.level)
  · exact wrong_36_letter r x w h
  · rw [Bool.and_eq_true] at h
    exact wrong_36_rest r x w hs hsm h.1 h.2
end Go.Proofs.YtfkleeigdplapaaDoor
