/-
  The walks of the small functions of layer 3: kinds of bytes, numbers, tags.
  The walks of the reference's reader of characters.
  The walks of the reference's tags and numbers in digits.
  The walk of the reference's bytes of a field.
-/
import Derived.Test.YtfkleeigdplapaaDoorProg
import Derived.Test.YtfkleeigdplapaaDoorBase
import Derived.Deep.RegionHeld3
import Derived.Deep.RegionWith
import Derived.Deep.DrawnRows
namespace Go.Proofs.YtfkleeigdplapaaDoor
open Go.RowKit

theorem letter_37 (c : UInt8) (w : World) : Calls Tryd.prog 37 #[.int .u8 c.toNat] w fun e w' => e = .returned (.bool (letterB c)) ∧ w = w' := by
  go_enter Tryd.func37, Tryd.ntmps37
  go_wp2
  all_goals (go_ret; refine ⟨ret_bool ?_, rfl⟩; rw [Bool.eq_iff_iff]; simp [letterB]; try omega)
theorem letter_54 (c : UInt8) (w : World) : Calls Tryd.prog 54 #[.int .u8 c.toNat] w fun e w' => e = .returned (.bool (letterB c)) ∧ w = w' := by
  go_enter Tryd.func54, Tryd.ntmps54
  go_wp2
  all_goals (go_ret; refine ⟨ret_bool ?_, rfl⟩; rw [Bool.eq_iff_iff]; simp [letterB]; try omega)
theorem digit_74 (c : UInt8) (w : World) : Calls Tryd.prog 74 #[.int .u8 c.toNat] w fun e w' => e = .returned (.bool (digitB c)) ∧ w = w' := by
  go_enter Tryd.func74, Tryd.ntmps74
  go_wp2
  all_goals (go_ret; refine ⟨ret_bool ?_, rfl⟩; rw [Bool.eq_iff_iff]; simp [digitB]; try omega)
theorem digit_85 (c : UInt8) (w : World) : Calls Tryd.prog 85 #[.int .u8 c.toNat] w fun e w' => e = .returned (.bool (digitB c)) ∧ w = w' := by
  go_enter Tryd.func85, Tryd.ntmps85
  go_wp2
  all_goals (go_ret; refine ⟨ret_bool ?_, rfl⟩; rw [Bool.eq_iff_iff]; simp [digitB]; try omega)
theorem sign_62 (c : UInt8) (w : World) : Calls Tryd.prog 62 #[.int .u8 c.toNat] w fun e w' => e = .returned (.bool (signB c)) ∧ w = w' := by
  go_enter Tryd.func62, Tryd.ntmps62
  go_wp2
  all_goals (go_ret; refine ⟨ret_bool ?_, rfl⟩; rw [Bool.eq_iff_iff]; simp [signB]; try omega)
theorem sign_76 (c : UInt8) (w : World) : Calls Tryd.prog 76 #[.int .u8 c.toNat] w fun e w' => e = .returned (.bool (signB c)) ∧ w = w' := by
  go_enter Tryd.func76, Tryd.ntmps76
  go_wp2
  all_goals (go_ret; refine ⟨ret_bool ?_, rfl⟩; rw [Bool.eq_iff_iff]; simp [signB]; try omega)
theorem indic_59 (c : UInt8) (w : World) : Calls Tryd.prog 59 #[.int .u8 c.toNat] w fun e w' => e = .returned (.bool (indicB c)) ∧ w = w' := by
  go_enter Tryd.func59, Tryd.ntmps59
  go_wp2_with (go_at_call 62; refine (sign_62 _ _).mono ?_; rintro e w' ⟨rfl, rfl⟩)
  all_goals (go_ret; refine ⟨ret_bool ?_, rfl⟩; rw [Bool.eq_iff_iff]; simp [indicB, signB]; try omega)
theorem mod_eq (n m : Int) : (n.tmod m + m) % m = n.emod m := by
  rw [Int.add_emod_right]
  rw [Int.tmod_def]
  exact Int.sub_mul_emod_self_left n m _
theorem mod_21 (n m : Int) (w : World) (h1 : 1 ≤ m) (h2 : m ≤ 1000000) :
    Calls Tryd.prog 21 #[.int .i64 n, .int .i64 m] w fun e w' => e = .returned (.int .i64 (n.emod m)) ∧ w = w' := by
  have a1 : n.tmod m < m := Int.tmod_lt_of_pos n (by omega)
  have a2 : -m < n.tmod m := by
    have := Int.lt_tmod_of_pos n (show 0 < m by omega)
    omega
  go_enter Tryd.func21, Tryd.ntmps21
  go_wp2
  go_ret
  exact ⟨ret_i64 (mod_eq n m), rfl⟩

theorem number_71 (l : Bs) (w : World) (hl : l.length ≤ 8) : Calls Tryd.prog 71 #[S l] w fun e w' => e = .returned (.int .i64 (numB l)) ∧ w = w' := by
  go_enter Tryd.func71, Tryd.ntmps71
  go_wp2_with fail
  go_loop [2, 3, 4] (fun r n i => ∃ (k : Nat), k ≤ l.length ∧ i = .int .i64 k ∧ n = .int .i64 (numB (l.take k)) ∧ r = .int .i64 0 ∧ (l.take k).all digitB = true) (fun _ _ i => l.length - (intOf i).toNat)
  case atStart => exact ⟨0, Nat.zero_le _, rfl, rfl, rfl, rfl⟩
  case round =>
    obtain ⟨k, hk, rfl, rfl, rfl, ha⟩ := hrel
    by_cases hlt : k < l.length
    · have hn := numFrom_le (l.take k) ha 0 (by omega)
      have hb : numB (l.take k) < 100000000 := by
        have h5 : 10 ^ (l.take k).length ≤ 10 ^ 8 := Nat.pow_le_pow_right (by omega) (by simp; omega)
        have := hn.2
        unfold numB
        omega
      have hb0 : 0 ≤ numB (l.take k) := hn.1
      have HT := Lib.hid (take_snoc l k hlt)
      have HS := Lib.hid (numFrom_snoc 0 (l.take k) l[k] ha)
      have HA := Lib.hid ha
      clear hn ha
      by_cases hdg : digitB l[k] = true
      · have hd2 := hdg
        simp only [digitB, Bool.and_eq_true, decide_eq_true_eq] at hd2
        obtain ⟨hd3, hd4⟩ := hd2
        go_wp2_with (go_at_call 85; refine (digit_85 _ _).mono ?_; rintro e w' ⟨rfl, rfl⟩)
        go_round
        case rel => exact ⟨k + 1, by omega, by go_num, by rw [HT.out, show numB (l.take k ++ [l[k]]) = _ from HS.out, if_pos hdg]; unfold numB; go_num, rfl, by rw [HT.out]; exact all_snoc HA.out hdg⟩
        case measure => simp [intOf]; omega
      · have hdg2 : digitB l[k] = false := by simpa using hdg
        go_wp2_with (go_at_call 85; refine (digit_85 _ _).mono ?_; rintro e w' ⟨rfl, rfl⟩)
        go_ret
        exact ⟨ret_i64 (numFrom_bad l (fun h => by rw [List.all_eq_true] at h; exact hdg (h _ (List.getElem_mem hlt))) 0).symm, rfl⟩
    · go_wp2_with fail
      go_ret
      exact ⟨ret_i64 (by rw [List.take_of_length_le (by omega)]), rfl⟩
end Go.Proofs.YtfkleeigdplapaaDoor

namespace Go.Proofs.YtfkleeigdplapaaDoor
open Go.RowKit

set_option maxHeartbeats 4000000 in
set_option maxRecDepth 100000 in
theorem next_86 (x : Ch) (c : UInt8) (b : Nat) (w : World) (hx : chFine x) (h : ChAt w b x) :
   Calls Tryd.prog 86 #[.pointer (some ⟨b, 0, none⟩), .int .u8 c.toNat] w (NextPost x c b w) := by
  obtain ⟨c0, c1, c2, f0, f1, f2⟩ := h
  obtain ⟨hl, hlo, hhi⟩ := hx
  have hc := u8_lt c
  go_enter Tryd.func86, Tryd.ntmps86
  go_wp2
  all_goals go_ret
  all_goals go_tidy
  all_goals (try simp only [beq_iff_eq, beq_eq_false_iff_ne] at *)
  all_goals first
    | (refine next_bad (by repeat' (with_reducible (first | exact Only.refl _ _ | refine Only.setCell ?_ _ _))) rfl ?_; first | exact cn_bad1 (by omega) (by omega) | exact cn_none (by omega) (by omega))
    | (first
        | refine next_ok (cn_ok1 (by omega) (by omega)) (by repeat' (with_reducible (first | exact Only.refl _ _ | refine Only.setCell ?_ _ _))) rfl ?_
        | refine next_ok (cn_ascii (by omega) (by omega)) (by repeat' (with_reducible (first | exact Only.refl _ _ | refine Only.setCell ?_ _ _))) rfl ?_
        | refine next_ok (cn_two (by omega) (by omega)) (by repeat' (with_reducible (first | exact Only.refl _ _ | refine Only.setCell ?_ _ _))) rfl ?_
        | refine next_ok (cn_3a (by omega) (by omega)) (by repeat' (with_reducible (first | exact Only.refl _ _ | refine Only.setCell ?_ _ _))) rfl ?_
        | refine next_ok (cn_3b (by omega) (by omega)) (by repeat' (with_reducible (first | exact Only.refl _ _ | refine Only.setCell ?_ _ _))) rfl ?_
        | refine next_ok (cn_3c (by omega) (by omega)) (by repeat' (with_reducible (first | exact Only.refl _ _ | refine Only.setCell ?_ _ _))) rfl ?_
        | refine next_ok (cn_4a (by omega) (by omega)) (by repeat' (with_reducible (first | exact Only.refl _ _ | refine Only.setCell ?_ _ _))) rfl ?_
        | refine next_ok (cn_4b (by omega) (by omega)) (by repeat' (with_reducible (first | exact Only.refl _ _ | refine Only.setCell ?_ _ _))) rfl ?_
        | refine next_ok (cn_4c (by omega) (by omega)) (by repeat' (with_reducible (first | exact Only.refl _ _ | refine Only.setCell ?_ _ _))) rfl ?_)
  all_goals constructor
  all_goals go_simp
  all_goals (first | omega | (refine World.cell?_setCell_same' _ _ _ ?_; go_simp; done))
set_option maxHeartbeats 1000000 in
set_option maxRecDepth 100000 in
theorem isText_75 (l : Bs) (w : World) (hl : l.length ≤ 1000000) :
   Calls Tryd.prog 75 #[S l] w fun e w' => e = .returned (.bool (isTextB l)) ∧ Below w.heap.size w w' := by
  go_enter Tryd.func75, Tryd.ntmps75
  go_wp2_with fail
  go_loopw [4, 5] (fun i f wr => ∃ (k : Nat) (y : Ch), k ≤ l.length ∧ i = .int .i64 k ∧ chRun ch0 (l.take k) = some y ∧ chFine y ∧ ChAt wr w.heap.size y ∧ Below w.heap.size w wr) (fun i _ _ => l.length - (intOf i).toNat)
  case atStart => exact ⟨0, ch0, Nat.zero_le _, rfl, rfl, chFine_0, chAt_new w 115, (Below.refl _ _).alloc (Nat.le_refl _) _⟩
  case round =>
    obtain ⟨k, y, hk, rfl, hr, hf, hc, hb⟩ := hrel
    have HR := Lib.hid hr
    clear hr
    by_cases hlt : k < l.length
    · have HT := Lib.hid (take_snoc l k hlt)
      go_wp2_with (go_at_call 86; refine (next_86 y l[k] w.heap.size wr hf hc).mono ?_; rintro e w2 ⟨ho, ⟨hn, rfl⟩ | ⟨z, hz, rfl, hcz⟩⟩)
      · go_ret
        exact ⟨ret_bool (isText_none (chRun_none l k y hlt ch0 HR.out hn.out)).symm, hb.trans (ho.below (Nat.le_refl _))⟩
      · go_roundw
        case rel => exact ⟨k + 1, z, by omega, by go_num, by rw [HT.out, chRun_snoc _ _ _ _ HR.out]; exact hz.out, chFine_next hf hz.out, hcz, hb.trans (ho.below (Nat.le_refl _))⟩
        case measure => simp [intOf]; omega
    · obtain ⟨c0, c1, c2, f0, f1, f2⟩ := hc
      go_wp2_with fail
      go_ret
      refine ⟨ret_bool ?_, hb⟩
      rw [isText_end (by rw [← HR.out, List.take_of_length_le (by omega)]), Bool.eq_iff_iff]
      simp; try omega
end Go.Proofs.YtfkleeigdplapaaDoor

namespace Go.Proofs.YtfkleeigdplapaaDoor
open Go.RowKit
attribute [local go_sem ↓] Go.wp_at_zero Go.wp_at_succ

theorem control_35 (l : Bs) (w : World) (hl : 2 ≤ l.length) :
   Calls Tryd.prog 35 #[S l] w fun e w' => e = .returned (.bool (ctrlB l)) ∧ w = w' := by
  go_enter Tryd.func35, Tryd.ntmps35
  go_wp2
  go_ret
  exact ⟨ret_bool (by unfold ctrlB; rw [Bool.eq_iff_iff]; simp), rfl⟩


theorem isTag_72 (l : Bs) (w : World) :
   Calls Tryd.prog 72 #[S l] w fun e w' => e = .returned (.bool (isTagB l)) ∧ w = w' := by
  by_cases h : l.length = 3
  · obtain ⟨a, b, c, rfl⟩ : ∃ a b c, l = [a, b, c] := by
      match l, h with
      | [a, b, c], _ => exact ⟨a, b, c, rfl⟩
    have h2 : ∀ x, x = isTagB [a, b, c] → Ending.returned (.bool x) = .returned (.bool (isTagB [a, b, c])) := fun x h => by rw [h]
    have H2 := Lib.hid h2
    clear h h2
    cases ha : digitB a <;> cases hb : digitB b <;> cases hc : digitB c
    all_goals
      go_enter Tryd.func72, Tryd.ntmps72
      go_wp2_with (go_at_call 85; refine (digit_85 _ _).mono ?_; rintro e w' ⟨rfl, rfl⟩)
      go_ret
      refine ⟨H2.out _ ?_, rfl⟩
      rw [Bool.eq_iff_iff]
      simp [isTagB, ha, hb, hc]
    all_goals (by_cases x : a = 48 <;> by_cases y : b = 48 <;> by_cases z : c = 48 <;> simp [x, y, z])
  · have h1 : ((l.length : Int) == 3) = false := by simp; omega
    have h2 : isTagB l = false := by simp [isTagB, h]
    go_enter Tryd.func72, Tryd.ntmps72
    go_wp2_with fail
    go_ret
    exact ⟨ret_bool h2.symm, rfl⟩

theorem bytes_one (w : World) (b : Nat) (c : Int) (h : w.cell? ⟨b, 0, none⟩ = some (.int .u8 c)) (hc : 0 ≤ c ∧ c < 256) :
   (convert 40 9 (.slice (some ⟨b, 0, none⟩) 1 1)).run Tryd.prog w = .ok (S [UInt8.ofNat c.toNat]) w := by
  have := run_convert_bytes_back (P := Tryd.prog) w 40 9 5 ⟨b, 0, none⟩ 1 [UInt8.ofNat c.toNat] Tryd.underlying40 Tryd.underlying5 Tryd.underlying9
    (fun j hj => by
      have : j = 0 := by simpa using hj
      subst this
      simp [Addr.add, h]
      omega)
  simpa using this
set_option maxRecDepth 100000 in
set_option maxHeartbeats 400000 in
theorem fixed_50 (n : Nat) : ∀ (v m : Int) (w : World), m = n → 0 ≤ v → v < 1000000000 → n ≤ 100 →
   Calls Tryd.prog 50 #[.int .i64 v, .int .i64 m] w fun e w' => e = .returned (S (fixedN n v.toNat)) ∧ Below w.heap.size w w' := by
  induction n with
  | zero => 
    intro v m w hm hv hv2 hn
    subst hm
    go_enter Tryd.func50, Tryd.ntmps50
    go_wp2_with fail
    go_ret
    exact ⟨rfl, Below.refl _ _⟩
  | succ n ih =>
    intro v m w hm hv hv2 hn
    have IH := Lib.hid ih
    have hm0 : 1 ≤ m := by omega
    have hm1 : m ≤ 100 := by omega
    have hm2 : (m == 0) = false := by simp; omega
    have HM := Lib.hid hm
    clear ih hm
    go_enter Tryd.func50, Tryd.ntmps50
    go_wp2_with fail
    have e1 : v.tdiv 10 = v / 10 := Int.tdiv_eq_ediv_of_nonneg hv
    have e2 : IntKind.i64.wrap (v / 10) = v / 10 := IntWalk.i64_in _ (by omega)
    have e3 : IntKind.i64.wrap (m - 1) = m - 1 := IntWalk.i64_in _ (by omega)
    have e4 : v.tmod 10 = v % 10 := Int.tmod_eq_emod_of_nonneg hv
    have e5 : IntKind.i64.wrap (48 + v % 10) = 48 + v % 10 := IntWalk.i64_in _ (by omega)
    have e6 : IntKind.u8.wrap (48 + v % 10) = 48 + v % 10 := IntWalk.u8_in _ (by omega)
    have e7 : 0 ≤ v / 10 ∧ v / 10 < 1000000000 := by omega
    have kc := fun W b (h : W.cell? ⟨b, 0, none⟩ = some (.int .u8 (48 + v % 10))) => bytes_one W b _ h (by omega)
    go_region_with (go_at_call 50; refine (IH.out _ _ _ (by have := HM.out; omega) e7.1 e7.2 (by omega)).mono ?_; rintro e w2 ⟨rfl, hb⟩; obtain ⟨hc, hf⟩ := bcell hb)
    all_goals go_wp2_with fail
    all_goals go_ret
    · exact ⟨ret_S (fixed_step n v hv), (btr (Below.refl _ w).drew hb (Nat.le_refl _)).alloc (by have := hb.size; simpa using this) _⟩
    all_goals exact ⟨ret_S (fixed_step n v hv), btr ((Below.refl _ w).alloc (Nat.le_refl _) _).drew hb (by simp)⟩
end Go.Proofs.YtfkleeigdplapaaDoor

namespace Go.Proofs.YtfkleeigdplapaaDoor
open Go.RowKit
attribute [local go_sem ↓] Go.wp_at_zero Go.wp_at_succ


set_option maxHeartbeats 1000000 in
theorem bytes_49 (f : FieldD) (d : Value) (w : World) (hs : SubsAt 0 w.heap.size w d f.subs) (hl : (fieldBytes f).length ≤ 1000000) (hn : f.subs.length ≤ 1000000) :
   Calls Tryd.prog 49 #[fieldV f d] w fun e w' => e = .returned (S (fieldBytes f)) ∧ Below w.heap.size w w' := by
  obtain ⟨tag, ind, data, subs⟩ := f
  have hl1 : data.length + ind.length ≤ 1000000 := by simp [fieldBytes] at hl; omega
  have HL := Lib.hid hl
  have HS := Lib.hid hs
  obtain ⟨a, cap, rfl, _⟩ := hs
  clear hl
  unfold fieldV
  go_enter Tryd.func49, Tryd.ntmps49
  go_wp2_with fail
  go_loopw [3, 4] (fun s i wr => ∃ (k : Nat) (acc : Bs), k ≤ subs.length ∧ i = .int .i64 k ∧ s = S acc ∧ Hid (acc = data ++ ind ++ (subs.take k).flatMap subBytes) ∧ acc.length < 1000000 ∧
      Below (w.heap.size + 1) (w.alloc (Obj.cells #[S tag, S ind, S data, Value.slice a subs.length cap] 57)) wr) (fun _ i _ => subs.length - (intOf i).toNat)
  case atStart => exact ⟨0, data ++ ind, Nat.zero_le _, rfl, rfl, (by simp [Hid]), (by have := fieldBytes_take ⟨tag, ind, data, subs⟩ 0; have := HL.out; simp at *; omega), Below.refl _ _⟩
  case round =>
    obtain ⟨k, acc, hk, rfl, rfl, HA, hal, hb⟩ := hrel
    have hc3 : wr.cell? ⟨w.heap.size, 3, none⟩ = some (Value.slice a subs.length cap) := by rw [hb.cell (p := ⟨w.heap.size, 3, none⟩) (by simp)]; go_simp
    by_cases hlt : k < subs.length
    · have hsr : SubsAt 0 w.heap.size wr (Value.slice a subs.length cap) subs := (HS.out.kept (bkept ((Below.refl _ w).alloc (Nat.le_refl _) _) (Nat.le_refl _))).kept (bkept hb (by omega))
      obtain ⟨b, off, cap', hv, _, _, ht, hx⟩ := hsr.sub k hlt
      cases hv
      have HN : Hid (acc ++ (31 :: subs[k].code :: subs[k].text) = data ++ ind ++ (subs.take (k + 1)).flatMap subBytes) := by rw [flat_snoc _ _ _ hlt, HA.out]; simp [Hid, subBytes]
      have hle : acc.length + 2 + subs[k].text.length < 1000000 := by
        have := fieldBytes_take ⟨tag, ind, data, subs⟩ (k + 1)
        simp only at this
        rw [← HN.out] at this
        have := HL.out
        simp at *
        omega
      have kc := fun W b (h : W.cell? ⟨b, 0, none⟩ = some (.int .u8 subs[k].code.toNat)) => bytes_one W b _ h ⟨u8_ge _, u8_lt _⟩
      generalize subs[k].text = T at *
      generalize subs[k].code = C at *
      have a3 : ∀ o, (wr.alloc o).cell? ⟨w.heap.size, 3, none⟩ = some (Value.slice (some ⟨b, off, none⟩) subs.length cap) := fun o => by rw [alloc_old _ _ _ _ (cell_lt hc3)]; exact hc3
      have at1 : ∀ o, (wr.alloc o).cell? ⟨b, off + k * 2, none⟩ = some (.int .u8 C.toNat) := fun o => by rw [alloc_old _ _ _ _ (cell_lt ht)]; exact ht
      have ax : ∀ o, (wr.alloc o).cell? ⟨b, off + k * 2 + 1, none⟩ = some (S T) := fun o => by rw [alloc_old _ _ _ _ (cell_lt hx)]; exact hx
      have q1 : ¬ 9223372036854775807 < List.length acc + 1 := by omega
      have q2 : ¬ 9223372036854775807 < List.length acc + 1 + 1 := by omega
      have q3 : ¬ 9223372036854775807 < List.length acc + 1 + 1 + List.length T := by omega
      go_wp2_with fail
      go_region
      go_wp2_with fail
      go_roundw
      case rel =>
        refine ⟨k + 1, acc ++ (31 :: C :: T), by omega, by go_num, ?_, HN, by simp; omega, ?_⟩
        · simp
        · exact (hb.alloc (by have : w.heap.size < wr.heap.size := cell_lt hc3; omega) _).drew
      case measure => simp [intOf]; omega
    · have q1 : ¬ 9223372036854775807 < List.length acc + 1 := by omega
      go_wp2_with fail
      go_ret
      refine ⟨ret_S ?_, btr ((Below.refl _ w).alloc (Nat.le_refl _) _) hb (by omega)⟩
      rw [HA.out, List.take_of_length_le (by omega)]
      rfl
end Go.Proofs.YtfkleeigdplapaaDoor
