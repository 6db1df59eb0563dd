/-
  The walks of the program's wrong of a field: its closure, ContainsFunc, wrong.
  The walk of the program's wrong: ErrEntry, ErrField or nothing.
-/
import Derived.Test.YtfkleeigdplapaaDoorP5
import Derived.Test.YtfkleeigdplapaaDoorP1
import Derived.Test.YtfkleeigdplapaaDoorW5
namespace Go.Proofs.YtfkleeigdplapaaDoor
open Go.RowKit
attribute [local go_sem ↓] Go.wp_at_zero Go.wp_at_succ

set_option maxHeartbeats 1000000 in
theorem wrong1_61 (c : UInt8) (t : Bs) (w : World) (hl : t.length ≤ 1000000000) : Calls Tryd.prog 61 #[.agg #[.int .u8 c.toNat, S t]] w fun e w' => e = .returned (.bool (!(isTextB t && signB c))) ∧ Below w.heap.size w w' := by
  have HT := Lib.hid (fun W => isText_58 t W hl)
  cases hs : signB c
  · go_enter Tryd.func61, Tryd.ntmps61
    go_wp2_with (go_at_call 62; ((with_reducible refine Calls.mono (sign_62 c _) ?_); rintro e w' ⟨rfl, rfl⟩; rw [hs]))
    go_ret
    exact ⟨ret_bool (by simp), alloc_below _ _⟩
  · go_enter Tryd.func61, Tryd.ntmps61
    go_wp2_with (first
      | (go_at_call 62; ((with_reducible refine Calls.mono (sign_62 c _) ?_); rintro e w' ⟨rfl, rfl⟩; rw [hs]))
      | (go_at_call 58; ((with_reducible refine Calls.mono (HT.out _) ?_); rintro e w' ⟨rfl, hb⟩)))
    go_ret
    exact ⟨ret_bool (by simp), btr (alloc_below _ _) hb (by simp)⟩
set_option maxHeartbeats 4000000 in
set_option maxRecDepth 100000 in
theorem index_79 (v : Value) (ss : List SubD) (w : World) (hs : SubsAt 0 w.heap.size w v ss) (hn : ss.length ≤ 1000000) (hl : ∀ s ∈ ss, s.text.length ≤ 1000000000) :
    Calls Tryd.prog 79 #[v, .func (.func 61) #[] #[]] w fun e w' => (∃ k : Int, e = .returned (.int .i64 k) ∧ (0 ≤ k ↔ ss.all subOk = false)) ∧ Below w.heap.size w w' := by
  have HS := Lib.hid hs
  have HL := Lib.hid hl
  obtain ⟨a, cap, rfl, _⟩ := hs
  clear hl
  go_enter Tryd.func79, Tryd.ntmps79
  go_wp2_with fail
  go_loopw [8] (fun i wr => ∃ (k : Nat), k ≤ ss.length ∧ i = .int .i64 k ∧ Hid ((ss.take k).all subOk = true) ∧ Below w.heap.size w wr) (fun i _ => ss.length - (intOf i).toNat)
  case atStart => exact ⟨0, Nat.zero_le _, rfl, rfl, Below.refl _ _⟩
  case round =>
    obtain ⟨k, hk, rfl, HA, hb⟩ := hrel
    by_cases hlt : k < ss.length
    · have hsr : SubsAt 0 w.heap.size wr (Value.slice a ss.length cap) ss := HS.out.kept (bkept hb (Nat.le_refl _))
      obtain ⟨b, off, cap', hv, hb1, _, ht, hx⟩ := hsr.sub k hlt
      cases hv
      have hmem := List.getElem_mem hlt
      have HW1 := Lib.hid (fun W => wrong1_61 ss[k].code ss[k].text W (HL.out _ hmem))
      have HSN : Hid ((ss.take (k + 1)).all subOk = (isTextB ss[k].text && signB ss[k].code)) := by
        rw [List.take_succ_eq_append_getElem hlt, List.all_append, HA.out]; simp [subOk, Hid]
      have HALL : Hid ((isTextB ss[k].text && signB ss[k].code) = false → ss.all subOk = false) := fun h => by
        have : ¬ (ss.all subOk = true) := fun h2 => by
          have := List.all_eq_true.mp h2 _ hmem
          unfold subOk at this
          rw [h] at this
          cases this
        simpa using this
      clear hmem hsr
      generalize ss[k].text = T at *
      generalize ss[k].code = C at *
      generalize hq : (isTextB T && signB C) = q at *
      clear hq
      cases q
      · obtain ⟨Z, hZ⟩ : ∃ Z : Prop, Z = (ss.all subOk = false) := ⟨_, rfl⟩
        have hz : Z := hZ ▸ HALL.out rfl
        have HZ : Hid (Z → ss.all subOk = false) := fun h => hZ ▸ h
        clear HALL hZ
        go_wp2_with (go_at_call 61; ((with_reducible refine Calls.mono (HW1.out _) ?_); rintro e w' ⟨rfl, hb2⟩))
        go_ret
        exact ⟨⟨k, rfl, ⟨fun _ => HZ.out hz, fun _ => Int.natCast_nonneg _⟩⟩, btr hb hb2 hb.size⟩
      · go_wp2_with (go_at_call 61; ((with_reducible refine Calls.mono (HW1.out _) ?_); rintro e w' ⟨rfl, hb2⟩))
        go_roundw
        case rel => exact ⟨k + 1, by omega, by go_num, HSN, btr hb hb2 hb.size⟩
        case measure => simp [intOf]; omega
    · go_wp2_with fail
      go_ret
      refine ⟨⟨-1, rfl, ?_⟩, hb⟩
      have := HA.out
      rw [List.take_of_length_le (by omega)] at this
      rw [this]
      simp
set_option maxHeartbeats 1000000 in
theorem contains_60 (v : Value) (ss : List SubD) (w : World) (hs : SubsAt 0 w.heap.size w v ss) (hn : ss.length ≤ 1000000) (hl : ∀ s ∈ ss, s.text.length ≤ 1000000000) :
    Calls Tryd.prog 60 #[v, .func (.func 61) #[] #[]] w fun e w' => e = .returned (.bool (!ss.all subOk)) ∧ Below w.heap.size w w' := by
  have H := Lib.hid (index_79 v ss w hs hn hl)
  obtain ⟨a, cap, rfl, _⟩ := hs
  go_enter Tryd.func60, Tryd.ntmps60
  cases hq : ss.all subOk
  · go_wp2_with (go_at_call 79; ((with_reducible refine Calls.mono H.out ?_); rintro e w' ⟨⟨k, rfl, hk⟩, hb⟩; have hk0 : 0 ≤ k := hk.mpr hq; clear hk))
    go_ret
    exact ⟨ret_bool (by simp; try omega), hb⟩
  · go_wp2_with (go_at_call 79; ((with_reducible refine Calls.mono H.out ?_); rintro e w' ⟨⟨k, rfl, hk⟩, hb⟩; have hk0 : ¬ 0 ≤ k := (fun h => by have := hk.mp h; rw [hq] at this; cases this); clear hk))
    go_ret
    exact ⟨ret_bool (by simp; try omega), hb⟩
end Go.Proofs.YtfkleeigdplapaaDoor

namespace Go.Proofs.YtfkleeigdplapaaDoor
open Go.RowKit

set_option maxHeartbeats 2000000 in
set_option maxRecDepth 100000 in
theorem wrong_38_tag (f : FieldD) (d : Value) (w : World) (h : isTagB f.tag = false) :
   Calls Tryd.prog 38 #[fieldV f d] w fun e w' => e = .returned (.int .i64 (wrongF f)) ∧ Below w.heap.size w w' := by
  have HW := Lib.hid (wf_tag f h)
  obtain ⟨tag, ind, data, subs⟩ := f
  simp only at h
  have HT := Lib.hid (fun W => tag_56 tag W)
  rw [h] at HT
  unfold fieldV
  go_enter Tryd.func38, Tryd.ntmps38
  go_wp2_with (go_at_call 56; ((with_reducible refine Calls.mono (HT.out _) ?_); rintro e w1 ⟨rfl, hb⟩; obtain ⟨hcc, hff⟩ := bcell hb))
  go_ret
  exact ⟨ret_i64 HW.out.symm, btr (alloc_below _ _) hb (by simp)⟩

set_option maxHeartbeats 2000000 in
set_option maxRecDepth 100000 in
theorem wrong_38_ctrl (f : FieldD) (d : Value) (w : World) (hd : ∃ a cap, d = .slice a f.subs.length cap) (hl : (fieldBytes f).length ≤ 1000000) (h : isTagB f.tag = true) (hc : ctrlB f.tag = true) :
   Calls Tryd.prog 38 #[fieldV f d] w fun e w' => e = .returned (.int .i64 (wrongF f)) ∧ Below w.heap.size w w' := by
  have HW := Lib.hid (wf_ctrl f h hc)
  obtain ⟨a, cap, rfl⟩ := hd
  have hl1 := fieldBytes_take f 0
  obtain ⟨tag, ind, data, subs⟩ := f
  simp only at h hc hl1
  have hl3 : data.length ≤ 1000000000 := by simp at hl1; omega
  have HT := Lib.hid (fun W => tag_56 tag W)
  rw [h] at HT
  have HC := Lib.hid (fun W => control_57 tag W)
  rw [hc] at HC
  have HX := Lib.hid (fun W => isText_58 data W hl3)
  clear hl1 hl hl3 h hc
  unfold fieldV
  cases ht : isTextB data
  · rw [ht] at HX HW
    go_enter Tryd.func38, Tryd.ntmps38
    go_wp2_with first
      | (go_at_call 56; ((with_reducible refine Calls.mono (HT.out _) ?_); rintro e w1 ⟨rfl, hb⟩; obtain ⟨hcc, hff⟩ := bcell hb))
      | (go_at_call 57; ((with_reducible refine Calls.mono (HC.out _) ?_); rintro e w' ⟨rfl, rfl⟩))
      | (go_at_call 58; ((with_reducible refine Calls.mono (HX.out _) ?_); rintro e w2 ⟨rfl, hb2⟩; obtain ⟨hcc2, hff2⟩ := bcell hb2))
    go_ret
    exact ⟨ret_i64 (HW.out.trans (by simp)).symm, btr (btr (alloc_below _ _) hb (by simp)) hb2 (Nat.le_trans (by simp) hb.size)⟩
  · rw [ht] at HX HW
    by_cases hi : ind = []
    · subst hi
      by_cases hs : subs = []
      · subst hs
        go_enter Tryd.func38, Tryd.ntmps38
        go_wp2_with first
          | (go_at_call 56; ((with_reducible refine Calls.mono (HT.out _) ?_); rintro e w1 ⟨rfl, hb⟩; obtain ⟨hcc, hff⟩ := bcell hb; have hsz : w.heap.size < w1.heap.size := (by have := hb.size; simp at this; omega)))
          | (go_at_call 57; ((with_reducible refine Calls.mono (HC.out _) ?_); rintro e w' ⟨rfl, rfl⟩))
          | (go_at_call 58; ((with_reducible refine Calls.mono (HX.out _) ?_); rintro e w2 ⟨rfl, hb2⟩; obtain ⟨hcc2, hff2⟩ := bcell hb2))
        all_goals go_ret
        all_goals exact ⟨ret_i64 (HW.out.trans (by simp)).symm, btr (btr (alloc_below _ _) hb (by simp)) hb2 (Nat.le_trans (by simp) hb.size)⟩
      · have hs0 : 0 < subs.length := List.length_pos_iff.mpr hs
        have hs1 : ((subs.length : Int) == 0) = false := beq_eq_false_iff_ne.2 (by omega)
        go_enter Tryd.func38, Tryd.ntmps38
        go_wp2_with first
          | (go_at_call 56; ((with_reducible refine Calls.mono (HT.out _) ?_); rintro e w1 ⟨rfl, hb⟩; obtain ⟨hcc, hff⟩ := bcell hb; have hsz : w.heap.size < w1.heap.size := (by have := hb.size; simp at this; omega)))
          | (go_at_call 57; ((with_reducible refine Calls.mono (HC.out _) ?_); rintro e w' ⟨rfl, rfl⟩))
          | (go_at_call 58; ((with_reducible refine Calls.mono (HX.out _) ?_); rintro e w2 ⟨rfl, hb2⟩; obtain ⟨hcc2, hff2⟩ := bcell hb2))
        all_goals go_ret
        all_goals exact ⟨ret_i64 (HW.out.trans (by simp [hs])).symm, btr (btr (alloc_below _ _) hb (by simp)) hb2 (Nat.le_trans (by simp) hb.size)⟩
    · have hd1 : (ind == []) = false := by simpa using hi
      have hd3 : ind.isEmpty = false := by simpa using hi
      go_enter Tryd.func38, Tryd.ntmps38
      go_wp2_with first
        | (go_at_call 56; ((with_reducible refine Calls.mono (HT.out _) ?_); rintro e w1 ⟨rfl, hb⟩; obtain ⟨hcc, hff⟩ := bcell hb; have hsz : w.heap.size < w1.heap.size := (by have := hb.size; simp at this; omega)))
        | (go_at_call 57; ((with_reducible refine Calls.mono (HC.out _) ?_); rintro e w' ⟨rfl, rfl⟩))
        | (go_at_call 58; ((with_reducible refine Calls.mono (HX.out _) ?_); rintro e w2 ⟨rfl, hb2⟩; obtain ⟨hcc2, hff2⟩ := bcell hb2))
      all_goals go_ret
      all_goals exact ⟨ret_i64 (HW.out.trans (by simp [hi])).symm, btr (btr (alloc_below _ _) hb (by simp)) hb2 (Nat.le_trans (by simp) hb.size)⟩
set_option maxHeartbeats 4000000 in
set_option maxRecDepth 100000 in
theorem wrong_38_data (f : FieldD) (d : Value) (w : World) (hs : SubsAt 0 w.heap.size w d f.subs) (hl : (fieldBytes f).length ≤ 1000000) (hn : f.subs.length ≤ 1000000) (h : isTagB f.tag = true) (hc : ctrlB f.tag = false) :
   Calls Tryd.prog 38 #[fieldV f d] w fun e w' => e = .returned (.int .i64 (wrongF f)) ∧ Below w.heap.size w w' := by
  have HW := Lib.hid (wf_data f h hc)
  have HL := Lib.hid (fun i h => Nat.le_trans (text_le f i h) hl)
  obtain ⟨tag, ind, data, subs⟩ := f
  simp only at h hc hs hn
  have HK : Hid (∀ W, Below w.heap.size w W → Calls Tryd.prog 60 #[d, .func (.func 61) #[] #[]] W fun e w' => e = .returned (.bool (!subs.all subOk)) ∧ Below W.heap.size W w') := fun W hb =>
    contains_60 d subs W ((hs.kept (bkept hb (Nat.le_refl _))).mono (Nat.le_refl _) hb.size) hn (fun s hm => by
      obtain ⟨i, hi, rfl⟩ := List.getElem_of_mem hm
      have := HL.out i hi
      simp only at this
      omega)
  have HT := Lib.hid (fun W => tag_56 tag W)
  rw [h] at HT
  have HC := Lib.hid (fun W => control_57 tag W)
  rw [hc] at HC
  obtain ⟨a, cap, rfl, _⟩ := hs
  clear hl h hc HL
  unfold fieldV
  by_cases hd0 : data = []
  · subst hd0
    by_cases hi : ind.length = 2
    · obtain ⟨p, q, rfl⟩ : ∃ p q, ind = [p, q] := by
        match ind, hi with
        | [p, q], _ => exact ⟨p, q, rfl⟩
      clear hi
      have HP := Lib.hid (fun W => indic_59 p W)
      have HQ := Lib.hid (fun W => indic_59 q W)
      have HW2 : Hid (wrongF ⟨tag, [p, q], [], subs⟩ = if indicB p && indicB q && !subs.isEmpty && subs.all subOk then 0 else 14) := by
        rw [HW.out]; simp [indsB, Hid]
      clear HW
      by_cases hse : subs = []
      · have HW3 : Hid (wrongF ⟨tag, [p, q], [], subs⟩ = 14) := by rw [HW2.out, hse]; simp [Hid]
        have hs1 : ((subs.length : Int) == 0) = true := by simp [hse]
        have hs2 : ¬ (0 : Int) < subs.length := by simp [hse]
        clear HW2 hse
        go_enter Tryd.func38, Tryd.ntmps38
        go_wp2_with first
          | (go_at_call 56; ((with_reducible refine Calls.mono (HT.out _) ?_); rintro e w1 ⟨rfl, hb⟩; obtain ⟨hcc, hff⟩ := bcell hb; have hsz : w.heap.size < w1.heap.size := (by have := hb.size; simp at this; omega)))
          | (go_at_call 57; ((with_reducible refine Calls.mono (HC.out _) ?_); rintro e w' ⟨rfl, rfl⟩))
        go_ret
        exact ⟨ret_i64 HW3.out.symm, btr (alloc_below _ _) hb (by simp)⟩
      · have hs0 : 0 < subs.length := List.length_pos_iff.mpr hse
        have hs2 : (0 : Int) < subs.length := by omega
        have hem : subs.isEmpty = false := by simpa using hse
        rw [hem] at HW2
        clear hse
        cases hp : indicB p
        · rw [hp] at HP HW2
          have HW3 : Hid (wrongF ⟨tag, [p, q], [], subs⟩ = 14) := by rw [HW2.out]; simp [Hid]
          clear HW2
          go_enter Tryd.func38, Tryd.ntmps38
          go_wp2_with first
            | (go_at_call 56; ((with_reducible refine Calls.mono (HT.out _) ?_); rintro e w1 ⟨rfl, hb⟩; obtain ⟨hcc, hff⟩ := bcell hb; have hsz : w.heap.size < w1.heap.size := (by have := hb.size; simp at this; omega)))
            | (go_at_call 57; ((with_reducible refine Calls.mono (HC.out _) ?_); rintro e w' ⟨rfl, rfl⟩))
            | (go_at_call_of 59 (Value.int IntKind.u8 p.toNat); ((with_reducible refine Calls.mono (HP.out _) ?_); rintro e w' ⟨rfl, rfl⟩))
            | (go_at_call_of 59 (Value.int IntKind.u8 q.toNat); ((with_reducible refine Calls.mono (HQ.out _) ?_); rintro e w' ⟨rfl, rfl⟩))
          go_ret
          exact ⟨ret_i64 HW3.out.symm, btr (alloc_below _ _) hb (by simp)⟩
        · cases hq : indicB q
          · rw [hp] at HP HW2
            rw [hq] at HQ HW2
            have HW3 : Hid (wrongF ⟨tag, [p, q], [], subs⟩ = 14) := by rw [HW2.out]; simp [Hid]
            clear HW2
            go_enter Tryd.func38, Tryd.ntmps38
            go_wp2_with first
              | (go_at_call 56; ((with_reducible refine Calls.mono (HT.out _) ?_); rintro e w1 ⟨rfl, hb⟩; obtain ⟨hcc, hff⟩ := bcell hb; have hsz : w.heap.size < w1.heap.size := (by have := hb.size; simp at this; omega)))
              | (go_at_call 57; ((with_reducible refine Calls.mono (HC.out _) ?_); rintro e w' ⟨rfl, rfl⟩))
              | (go_at_call_of 59 (Value.int IntKind.u8 p.toNat); ((with_reducible refine Calls.mono (HP.out _) ?_); rintro e w' ⟨rfl, rfl⟩))
              | (go_at_call_of 59 (Value.int IntKind.u8 q.toNat); ((with_reducible refine Calls.mono (HQ.out _) ?_); rintro e w' ⟨rfl, rfl⟩))
            go_ret
            exact ⟨ret_i64 HW3.out.symm, btr (alloc_below _ _) hb (by simp)⟩
          · rw [hp] at HP HW2
            rw [hq] at HQ HW2
            cases ha : subs.all subOk
            all_goals
              rw [ha] at HK HW2
              go_enter Tryd.func38, Tryd.ntmps38
              go_wp2_with first
                | (go_at_call 56; ((with_reducible refine Calls.mono (HT.out _) ?_); rintro e w1 ⟨rfl, hb⟩; obtain ⟨hcc, hff⟩ := bcell hb; have hsz : w.heap.size < w1.heap.size := (by have := hb.size; simp at this; omega)))
                | (go_at_call 57; ((with_reducible refine Calls.mono (HC.out _) ?_); rintro e w' ⟨rfl, rfl⟩))
                | (go_at_call_of 59 (Value.int IntKind.u8 p.toNat); ((with_reducible refine Calls.mono (HP.out _) ?_); rintro e w' ⟨rfl, rfl⟩))
                | (go_at_call_of 59 (Value.int IntKind.u8 q.toNat); ((with_reducible refine Calls.mono (HQ.out _) ?_); rintro e w' ⟨rfl, rfl⟩))
                | (go_at_call 60; ((with_reducible refine Calls.mono (HK.out _ (btr (alloc_below _ _) hb (by simp))) ?_); rintro e w2 ⟨rfl, hb2⟩; obtain ⟨hcc2, hff2⟩ := bcell hb2))
              go_ret
              exact ⟨ret_i64 (HW2.out.trans (by simp)).symm, btr (btr (alloc_below _ _) hb (by simp)) hb2 (Nat.le_trans (by simp) hb.size)⟩
    · have hi2 : ((ind.length : Int) == 2) = false := by simp; omega
      have HW3 : Hid (wrongF ⟨tag, ind, [], subs⟩ = 14) := by rw [HW.out]; simp [indsB, hi, Hid]
      clear HW
      go_enter Tryd.func38, Tryd.ntmps38
      go_wp2_with first
        | (go_at_call 56; ((with_reducible refine Calls.mono (HT.out _) ?_); rintro e w1 ⟨rfl, hb⟩; obtain ⟨hcc, hff⟩ := bcell hb; have hsz : w.heap.size < w1.heap.size := (by have := hb.size; simp at this; omega)))
        | (go_at_call 57; ((with_reducible refine Calls.mono (HC.out _) ?_); rintro e w' ⟨rfl, rfl⟩))
      go_ret
      exact ⟨ret_i64 HW3.out.symm, btr (alloc_below _ _) hb (by simp)⟩
  · have hd1 : (data == []) = false := by simpa using hd0
    have hd3 : data.isEmpty = false := by simpa using hd0
    have HW3 : Hid (wrongF ⟨tag, ind, data, subs⟩ = 14) := by rw [HW.out]; simp [hd0, Hid]
    clear HW
    go_enter Tryd.func38, Tryd.ntmps38
    go_wp2_with first
      | (go_at_call 56; ((with_reducible refine Calls.mono (HT.out _) ?_); rintro e w1 ⟨rfl, hb⟩; obtain ⟨hcc, hff⟩ := bcell hb; have hsz : w.heap.size < w1.heap.size := (by have := hb.size; simp at this; omega)))
      | (go_at_call 57; ((with_reducible refine Calls.mono (HC.out _) ?_); rintro e w' ⟨rfl, rfl⟩))
    go_ret
    exact ⟨ret_i64 HW3.out.symm, btr (alloc_below _ _) hb (by simp)⟩
theorem wrong_38 (f : FieldD) (d : Value) (w : World) (hs : SubsAt 0 w.heap.size w d f.subs) (hl : (fieldBytes f).length ≤ 1000000) (hn : f.subs.length ≤ 1000000) :
   Calls Tryd.prog 38 #[fieldV f d] w fun e w' => e = .returned (.int .i64 (wrongF f)) ∧ Below w.heap.size w w' := by
  have hd : ∃ a cap, d = .slice a f.subs.length cap := by obtain ⟨a, cap, h, _⟩ := hs; exact ⟨a, cap, h⟩
  cases h : isTagB f.tag
  · exact wrong_38_tag f d w h
  · cases hc : ctrlB f.tag
    · exact wrong_38_data f d w hs hl hn h hc
    · exact wrong_38_ctrl f d w hd hl h hc
end Go.Proofs.YtfkleeigdplapaaDoor
