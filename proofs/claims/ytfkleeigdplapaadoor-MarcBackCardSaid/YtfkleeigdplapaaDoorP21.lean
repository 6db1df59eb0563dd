/-
  The walk of the program's Write.
-/
import Derived.Test.YtfkleeigdplapaaDoorP20
import Derived.Test.YtfkleeigdplapaaDoorTail
import Derived.Deep.DeepCutAuto
namespace Go.Proofs.YtfkleeigdplapaaDoor
open Go.RowKit
attribute [local go_sem ↓] Go.wp_at_zero Go.wp_at_succ

theorem wr_12 {r : RecD} (h : (letterB r.kind && letterB r.level) = false) : writeR r = ([], 12) := by
  have hw := wr_letter r h
  unfold writeR
  rw [if_neg (by rw [hw]; decide), hw]
set_option maxHeartbeats 2000000 in
theorem write_17_letter (r : RecD) (x : Value) (w : World) (h : (letterB r.kind && letterB r.level) = false) :
   Calls Tryd.prog 17 #[recV r x] w fun e w' => e = .returned (.tuple #[S (writeR r).1, .int .i64 (writeR r).2]) ∧ Below w.heap.size w w' := by
  have HW := Lib.hid (wr_12 h)
  rw [HW.out]
  obtain ⟨kind, level, fields⟩ := r
  simp only at h
  unfold recV
  cases hk : letterB kind
  · go_enter Tryd.func17, Tryd.ntmps17
    go_wp2_with (go_at_call 37; refine (letter_37 _ _).mono ?_; rintro e w' ⟨rfl, rfl⟩)
    go_ret2
    exact ⟨rfl, alloc_below _ _⟩
  · have hv : letterB level = false := by simpa [hk] using h
    clear h
    go_enter Tryd.func17, Tryd.ntmps17
    go_wp2_with (go_at_call 37; refine (letter_37 _ _).mono ?_; rintro e w' ⟨rfl, rfl⟩)
    go_ret2
    exact ⟨rfl, alloc_below _ _⟩
theorem fixed_41_4n (n : Nat) (w : World) (hn : n < 100000000000) :
   Calls Tryd.prog 41 #[.int .i64 n, .int .i64 4] w fun e w' => e = .returned (S (fixedN 4 n)) ∧ Below w.heap.size w w' := fixed_41_4 n w (by omega) (by omega)
theorem fixed_41_5n (n : Nat) (w : World) (hn : n < 100000000000) :
   Calls Tryd.prog 41 #[.int .i64 n, .int .i64 5] w fun e w' => e = .returned (S (fixedN 5 n)) ∧ Below w.heap.size w w' := fixed_41_5 n w (by omega) (by omega)
theorem fixed_41_5v (n : Nat) (v : Int) (hv : v = n) (w : World) (hn : n < 100000000000) :
   Calls Tryd.prog 41 #[.int .i64 v, .int .i64 5] w fun e w' => e = .returned (S (fixedN 5 n)) ∧ Below w.heap.size w w' := by subst hv; exact fixed_41_5n n w hn
theorem len_at (b : Nat) (a : Option Addr) (n cap : Nat) (w : World) (c1 : w.cell? ⟨b, 1, none⟩ = some (.slice a n cap)) : Calls Tryd.prog 42 #[.pointer (some ⟨b, 0, none⟩)] w fun e w' => e = .returned (.int .i64 n) ∧ w = w' :=
  (len_cell b a n cap w c1).mono fun _ _ ⟨h, e⟩ => ⟨h, e.symm⟩
/-- The other builder behind String of the first. -/
theorem Two.other {x : Nat} {g1 g2 : Option Nat} {D A : Bs} {w w' : World} (h : Two x g1 g2 D A w) (hf : Fr x g1 w w') : Bld (x + 2) (x + 1) g2 A w' :=
  h.two.keep (hf.block _ h.two.old (by omega) (fun e => by have := (h.one.row _ e.symm).1; omega)) (fun k hk => hf.block k (h.two.row k hk).2 (by have := (h.two.row k hk).1; omega) (fun e => h.ne k e.symm hk))
def WPost (r : RecD) (w : World) (e : Ending) (w' : World) : Prop := e = .returned (.tuple #[S (writeR r).1, .int .i64 (writeR r).2]) ∧ Below w.heap.size w w'
theorem wr_field2 {r : RecD} (h : letterB r.kind = true) (h2 : letterB r.level = true) (h3 : firstWrong r.fields ≠ 0) : writeR r = ([], firstWrong r.fields) := by
  have hw := wr_field r h h2 h3
  unfold writeR
  rw [if_neg (by rw [hw]; exact h3), hw]
set_option maxHeartbeats 4000000 in
set_option maxRecDepth 100000 in
theorem write_17_rest (r : RecD) (x : Value) (w : World) (hs : FieldsAt 0 w.heap.size w x r.fields) (hsm : Small r.fields) (h : letterB r.kind = true) (h2 : letterB r.level = true) :
   Calls Tryd.prog 17 #[recV r x] w (WPost r w) := by
  have HF := Lib.hid (wr_field2 h h2)
  have H2 := Lib.hid (wr_2 h h2)
  have H0 := Lib.hid (wr_0 h h2)
  obtain ⟨kind, level, fields⟩ := r
  simp only at h h2 hs hsm HF H2 H0
  have HS := Lib.hid hs
  obtain ⟨a, cap, rfl⟩ := hs.shape
  obtain ⟨hn, hsz⟩ := hsm
  have HSZ := Lib.hid hsz
  clear hs hsz
  unfold recV
  go_enter Tryd.func17, Tryd.ntmps17
  go_wp2_with (go_at_call 37; refine (letter_37 _ _).mono ?_; rintro e w' ⟨rfl, rfl⟩)
  go_loopw [28] (fun i wr => ∃ (k : Nat), k ≤ fields.length ∧ i = .int .i64 k ∧ Hid (firstWrong (fields.take k) = 0) ∧
      Below (w.heap.size + 1) (w.alloc (Obj.cells #[.int .u8 kind.toNat, .int .u8 level.toNat, Value.slice a fields.length cap] 27)) wr) (fun i _ => fields.length - (intOf i).toNat)
  case atStart => exact ⟨0, Nat.zero_le _, rfl, rfl, Below.refl _ _⟩
  case round =>
    obtain ⟨k, hk, rfl, HA, hb⟩ := hrel
    have hc3 : wr.cell? ⟨w.heap.size, 2, none⟩ = some (Value.slice a fields.length cap) := by rw [hb.cell (p := ⟨w.heap.size, 2, none⟩) (by simp)]; go_simp
    have hw1 : w.heap.size < wr.heap.size := cell_lt hc3
    by_cases hlt : k < fields.length
    · have hsr : FieldsAt 0 w.heap.size wr (Value.slice a fields.length cap) fields := (HS.out.kept (bkept (alloc_below w _) (Nat.le_refl _))).kept (bkept hb (by omega))
      obtain ⟨b, off, cap', d, hv, _, _, ht1, ht2, ht3, ht4, hsd⟩ := hsr.field k hlt
      cases hv
      obtain ⟨da, dc, rfl⟩ : ∃ da dc, d = .slice da fields[k].subs.length dc := by obtain ⟨x1, x2, x3, _⟩ := hsd; exact ⟨x1, x2, x3⟩
      have hmem := List.getElem_mem hlt
      have hle : (fieldBytes fields[k]).length ≤ 1000000 := HSZ.out _ hmem
      have hle2 := Nat.le_trans (subs_le fields[k]) hle
      have HSD : Hid (∀ W, Below wr.heap.size wr W → SubsAt 0 W.heap.size W (.slice da fields[k].subs.length dc) fields[k].subs) := fun W hW => (hsd.kept (bkept hW (by omega))).mono (Nat.le_refl _) (by have := hW.size; omega)
      have h38 : Hid (∀ W, Below wr.heap.size wr W → Calls Tryd.prog 38 #[fieldV fields[k] (.slice da fields[k].subs.length dc)] W fun e w' => e = .returned (.int .i64 (wrongF fields[k])) ∧ Below W.heap.size W w') := fun W hW => wrong_38 _ _ W (HSD.out W hW) hle hle2
      have HAT := Lib.hid (firstWrong_at fields k hlt HA.out)
      have HTK := Lib.hid (firstWrong_take fields k hlt HA.out)
      clear hsr hmem hsd
      unfold fieldV at h38
      generalize fields[k] = f at *
      by_cases hw : wrongF f = 0
      · rw [hw] at h38
        have HN := Lib.hid (HTK.out hw)
        clear HTK HAT
        go_wp2_with (go_at_call 38; ((with_reducible refine Calls.mono (h38.out _ (alloc_below _ _)) ?_); rintro e w1 ⟨rfl, hb1⟩))
        go_roundw
        case rel => exact ⟨k + 1, by omega, by go_num, HN, (hb.alloc (by omega) _).trans (hb1.mono (by simp; omega))⟩
        case measure => simp [intOf]; omega
      · have HE : Hid (writeR ⟨kind, level, fields⟩ = ([], wrongF f)) := by
          have hx := HAT.out
          rw [if_neg hw] at hx
          have := HF.out (by rw [hx]; exact hw)
          rw [hx] at this
          exact this
        clear HTK HAT
        generalize wrongF f = er at *
        go_wp2_with (go_at_call 38; ((with_reducible refine Calls.mono (h38.out _ (alloc_below _ _)) ?_); rintro e w1 ⟨rfl, hb1⟩))
        go_ret2
        refine ⟨by rw [HE.out]; rfl, btr (alloc_below w _) ((hb.alloc (by omega) _).trans (hb1.mono (by simp; omega))) (by omega)⟩
    · have hfz : Hid (firstWrong fields = 0) := by
        have := HA.out
        rw [List.take_of_length_le (by omega)] at this
        exact this
      generalize wr = wx at *
      have HT := Lib.hid (two_new wx)
      clear HA HF
      go_wp2_with fail
      go_loopw [41] (fun i wq => ∃ (k : Nat) (D A : Bs) (g1 g2 : Option Nat), k ≤ fields.length ∧ i = .int .i64 k ∧ Hid (D = dirFrom 0 (fields.take k)) ∧ Hid (A = dataOf (fields.take k)) ∧ D.length = 12 * k ∧ A.length ≤ 9999 * k ∧ Hid (tooLong (fields.take k) = false) ∧
        Hid (Two wx.heap.size g1 g2 D A wq) ∧ Below wx.heap.size wx wq) (fun i _ => fields.length - (intOf i).toNat)
      case atStart => exact ⟨0, [], [], none, none, Nat.zero_le _, rfl, rfl, rfl, rfl, by simp, rfl, HT, ((Below.refl _ wx).alloc (Nat.le_refl _) _).alloc (by simp) _⟩
      case round =>
        obtain ⟨j, D, A, g1, g2, hj, rfl, HD, HA, hdl, hal, HTL, HTW, hbq⟩ := hrel
        have hx2 := HTW.out.size
        by_cases hlj : j < fields.length
        · have hsr : FieldsAt 0 w.heap.size wr (Value.slice a fields.length cap) fields := ((HS.out.kept (bkept (alloc_below w _) (Nat.le_refl _))).kept (bkept hb (by omega))).kept (bkept hbq (by omega))
          obtain ⟨b, off, cap', d, hv, _, _, ht1, ht2, ht3, ht4, hsd⟩ := hsr.field j hlj
          cases hv
          obtain ⟨da, dc, rfl⟩ : ∃ da dc, d = .slice da fields[j].subs.length dc := by obtain ⟨x1, x2, x3, _⟩ := hsd; exact ⟨x1, x2, x3⟩
          have hmem := List.getElem_mem hlj
          have hle : (fieldBytes fields[j]).length ≤ 1000000 := HSZ.out _ hmem
          have hle2 := Nat.le_trans (subs_le fields[j]) hle
          have HSD : Hid (∀ W, Below wr.heap.size wr W → SubsAt 0 W.heap.size W (.slice da fields[j].subs.length dc) fields[j].subs) := fun W hW => (hsd.kept (bkept hW (by omega))).mono (Nat.le_refl _) (by have := hW.size; omega)
          have h39 : Hid (∀ W, Below wr.heap.size wr W → Calls Tryd.prog 39 #[fieldV fields[j] (.slice da fields[j].subs.length dc)] W fun e w' => e = .returned (S (fieldBytes fields[j])) ∧ Below W.heap.size W w') := fun W hW => bytes_39 _ _ W (HSD.out W hW) hle hle2
          have HG : Hid (fields[j].tag.length = 3) := isTag_len (wrongF_tag (firstWrong_zero hfz.out _ hmem))
          have hg3 : fields[j].tag.length ≤ 3 := by rw [HG.out]; exact Nat.le_refl 3
          have HTOO := Lib.hid (fun h => H2.out hfz.out (.inl (too_at hlj h)))
          have HTS := Lib.hid (too_snoc hlj HTL.out)
          have HT : Hid (D ++ (fields[j].tag ++ fixedN 4 (fieldBytes fields[j]).length ++ fixedN 5 A.length) = dirFrom 0 (fields.take (j + 1))) := by
            rw [List.take_succ_eq_append_getElem hlj, dirFrom_snoc, HD.out, HA.out]; simp [Hid]
          have HA2 : Hid (A ++ fieldBytes fields[j] = dataOf (fields.take (j + 1))) := by rw [List.take_succ_eq_append_getElem hlj, dataOf_snoc, HA.out]; rfl
          clear hsr hmem hsd
          unfold fieldV at h39
          generalize fields[j] = f at *
          by_cases hF : (fieldBytes f).length ≤ 9999
          · have HTS2 := Lib.hid (HTS.out hF)
            clear HTS HTOO
            generalize fieldBytes f = F at *
            generalize f.tag = G at *
            generalize f.ind = Gi at *
            generalize f.data = Gd at *
            generalize f.subs.length = gn at *
            clear HSD
            go_wp2_with (go_at_call 39; ((with_reducible refine Calls.mono (h39.out _ (alloc_below _ _)) ?_); rintro e w2 ⟨rfl, hb2⟩; have hx2t : w2.cell? ⟨wr.heap.size, 0, none⟩ = some (S G) := (by rw [hb2.cell (p := ⟨wr.heap.size, 0, none⟩) (by simp)]; go_simp)))
            obtain ⟨a2, n2, s2⟩ := (HTW.out.below ((alloc_below1 wr _).trans (hb2.mono (by simp)))).two.slot
            have HT2 : Hid (Two wx.heap.size g1 g2 D A w2) := HTW.out.below (btr (alloc_below1 wr _) hb2 (by simp))
            have hdj : D.length ≤ 12000000 := by omega
            have haj : A.length ≤ 9999000000 := by omega
            have q1 : ¬ 9223372036854775807 < List.length G + 4 := by omega
            have q2 : ¬ 9223372036854775807 < List.length G + 4 + 5 := by omega
            have q3 : ¬ 9223372036854775807 < List.length G + (4 + 5) := by omega
            have hz2 : wr.heap.size < w2.heap.size := by have := hb2.size; simp at this; exact this
            go_region_held3 (fun w' => w'.cell? ⟨wr.heap.size, 0, none⟩ = some (S G) ∧ w'.cell? ⟨wx.heap.size + 1, 1, none⟩ = some (.slice a2 A.length n2)) (go_keep)
              (first
                | (go_at_call_of 41 (Value.int IntKind.i64 ↑(List.length F)); ((with_reducible refine Calls.mono (fixed_41_4n F.length _ (by omega)) ?_); rintro e w3 ⟨rfl, hb3⟩; have hx3 := bext hb3))
                | (go_at_call 42; have s3 : w3.cell? ⟨wx.heap.size + 1, 1, none⟩ = some (.slice a2 A.length n2) := hx3 _ _ s2; ((with_reducible refine Calls.mono (len_at _ _ _ _ _ s3) ?_); rintro e w3' ⟨rfl, rfl⟩))
                | (go_at_call_of 41 (Value.int IntKind.i64 ↑(List.length A)); ((with_reducible refine Calls.mono (fixed_41_5n A.length _ (by omega)) ?_); rintro e w4 ⟨rfl, hb4⟩; have hx4 := bext hb4))
                | (go_at_call 40; have HT4 := ((HT2.out.below (Below.refl _ w2).drew).below hb3).below hb4; ((with_reducible refine Calls.mono (write_40 (wx.heap.size + 2) wx.heap.size g1 D (G ++ (fixedN 4 F.length ++ fixedN 5 A.length)) _ HT4.one HT4.size (by simp [fixedN_length]; omega)) ?_); rintro e w5 ⟨rfl, g1', hb5, hg5, hf5⟩; have k5 : w5.cell? ⟨wr.heap.size, 0, none⟩ = some (S G) := (by rw [hf5.cell (by have := hb4.size; have := hb3.size; simp at *; omega) (by omega) (fun e => by have := (HTW.out.one.row _ e.symm).2; omega)]; exact hx4 _ _ (hx3 _ _ hx2t)); have k6 : w5.cell? ⟨wx.heap.size + 1, 1, none⟩ = some (.slice a2 A.length n2) := (by rw [hf5.cell (by have := HT4.size; omega) (by omega) (fun e => by have := (HTW.out.one.row _ e.symm).1; omega)]; exact hx4 _ _ s3); have HT5 := Lib.hid (HT4.fst hb5 hg5 hf5); have HB5 := Lib.hid (HT4.one.fr hf5 (lo := wx.heap.size) (Nat.le_refl _)); clear HT4 hb5 hg5 hf5)))
            have HB45 : Hid (Below wx.heap.size wx w5) := by
              have z4 := hb4.size
              have z3 : w2.heap.size ≤ w3.heap.size := hb3.size
              exact (((hbq.trans ((alloc_below1 wr _).mono (by omega))).trans (hb2.mono (by simp; omega))).trans ((Below.refl wx.heap.size w2).drew.trans ((hb3.mono (by simp; omega)).trans (hb4.mono (by omega))))).trans HB5.out
            clear hx3 hx4 s2 s3 hb3 hb4 hx2t k5 k6
            go_wp2_with (go_at_call 40; ((with_reducible refine Calls.mono (write_40 (wx.heap.size + 2) (wx.heap.size + 1) g2 A F _ HT5.out.two HT5.out.size (by omega)) ?_); rintro e w6 ⟨rfl, g2', hb6, hg6, hf6⟩))
            go_roundw
            case rel =>
              refine ⟨j + 1, D ++ (G ++ fixedN 4 F.length ++ fixedN 5 A.length), A ++ F, g1', g2', by omega, by go_num, HT, HA2, ?_, by simp; omega, HTS2, ?_, HB45.out.trans (HT5.out.two.fr hf6 (by omega))⟩
              · have := HG.out
                simp [fixedN_length]
                omega
              · have := HT5.out.snd hb6 hg6 hf6
                simpa [Hid] using this
            case measure => simp [intOf]; omega
          · have HE := Lib.hid (HTOO.out (by omega))
            clear HTS HTOO
            generalize fieldBytes f = F at *
            go_wp2_with (go_at_call 39; ((with_reducible refine Calls.mono (h39.out _ (alloc_below _ _)) ?_); rintro e w1 ⟨rfl, hb1⟩))
            go_ret2
            refine ⟨by rw [HE.out]; rfl, btr (alloc_below w _) (hb.trans (((hbq.mono (by omega)).alloc (by omega) _).trans (hb1.mono (by simp; omega)))) (by omega)⟩
        · obtain rfl : j = fields.length := by omega
          have HD2 : Hid (D = dirFrom 0 fields) := by have := HD.out; rwa [List.take_length] at this
          have HA2 : Hid (A = dataOf fields) := by have := HA.out; rwa [List.take_length] at this
          have HL2 : Hid (tooLong fields = false) := by have := HTL.out; rwa [List.take_length] at this
          clear HD HA HTL hlj hj
          have hd1 : D.length ≤ 12 * fields.length := by omega
          have hd2 : 12 * fields.length ≤ D.length := by omega
          have HX2 : Hid (999 < fields.length ∨ 99999 < 26 + 12 * fields.length + A.length → writeR ⟨kind, level, fields⟩ = ([], 2)) := fun h => H2.out hfz.out (.inr (by rw [← HA2.out]; exact h))
          have HX0 : Hid (fields.length ≤ 999 → 26 + 12 * fields.length + A.length ≤ 99999 → ∀ l : Bs, l = leaderOf ⟨kind, level, fields⟩ (25 + D.length + A.length + 1) (25 + D.length) ++ D ++ [30] ++ A ++ [29] → Ending.returned (.tuple #[S l, .int .i64 0]) = .returned (.tuple #[S (writeR ⟨kind, level, fields⟩).1, .int .i64 (writeR ⟨kind, level, fields⟩).2])) := by
            intro h9 h5 l hl
            have := H0.out hfz.out HL2.out h9 (by rw [← HA2.out]; exact h5)
            rw [this, hl, HD2.out, HA2.out]
            rfl
          clear HD2 HA2 HL2 H2 H0 hdl
          obtain ⟨a1, n1, s1⟩ := HTW.out.one.slot
          obtain ⟨a2, n2, s2⟩ := HTW.out.two.slot
          have hc4 : wr.cell? ⟨w.heap.size, 2, none⟩ = some (Value.slice a fields.length cap) := by rw [hbq.cell (p := ⟨w.heap.size, 2, none⟩) hw1]; exact hc3
          have hbW : Below w.heap.size w wr := btr (alloc_below w _) (hb.trans (hbq.mono (by omega))) (by omega)
          by_cases h9 : fields.length ≤ 999
          · by_cases h5 : 26 + 12 * fields.length + A.length ≤ 99999
            · have hc0 : wr.cell? ⟨w.heap.size, 0, none⟩ = some (.int .u8 kind.toNat) := by rw [hbq.cell (p := ⟨w.heap.size, 0, none⟩) hw1, hb.cell (p := ⟨w.heap.size, 0, none⟩) (by simp)]; go_simp
              have hc1 : wr.cell? ⟨w.heap.size, 1, none⟩ = some (.int .u8 level.toNat) := by rw [hbq.cell (p := ⟨w.heap.size, 1, none⟩) hw1, hb.cell (p := ⟨w.heap.size, 1, none⟩) (by simp)]; go_simp
              have HFIN := Lib.hid (HX0.out h9 h5)
              clear HX0 HX2
              go_wp2_with (go_at_call 42; ((first | (with_reducible refine Calls.mono (len_at _ _ _ _ _ s1) ?_) | (with_reducible refine Calls.mono (len_at _ _ _ _ _ s2) ?_)); rintro e w' ⟨rfl, rfl⟩))
              go_cut [14] (fun t wx => ∃ l : Bs, t = S l ∧ Hid (l = leaderOf ⟨kind, level, fields⟩ (25 + D.length + A.length + 1) (25 + D.length)) ∧ l.length ≤ 24 ∧ Below wr.heap.size wr wx)
              case first =>
                have hw0 : w.heap.size < wr.heap.size := by omega
                have ac0 : ∀ o, (wr.alloc o).cell? ⟨w.heap.size, 0, none⟩ = some (.int .u8 kind.toNat) := fun o => by rw [alloc_old _ _ _ _ hw0]; exact hc0
                have ac1 : ∀ o, (wr.alloc o).cell? ⟨w.heap.size, 1, none⟩ = some (.int .u8 level.toNat) := fun o => by rw [alloc_old _ _ _ _ hw0]; exact hc1
                have tok1 : True := trivial
                clear HTW hc4 s1 s2 HFIN
                go_region_with
                  (first
                    | (go_at_call 41; have _t := tok1; go_must (refine (fixed_41_5v (25 + D.length + A.length + 1) _ (by omega) _ (by omega)).mono ?_); clear _t tok1; rintro e w3 ⟨rfl, hb3⟩; have hx3 := bext hb3; obtain ⟨hcc3, hff3⟩ := bcell hb3)
                    | (go_at_call 41; go_must (refine (fixed_41_5v (25 + D.length) _ (by omega) _ (by omega)).mono ?_); rintro e w4 ⟨rfl, hb4⟩; have hx4 := bext hb4; obtain ⟨hcc4, hff4⟩ := bcell hb4))
                all_goals
                  clear hx3 hx4 hcc3 hff3 hcc4 hff4 ac0 ac1
                  go_wp2_with fail
                  go_meet
                  have hz3 := hb3.size
                  have hz4 := hb4.size
                  simp only [World.size_drew, World.size_alloc] at hz3 hz4
                  refine ⟨_, rfl, by simp [leaderOf, Hid], by simp [fixedN_length], ?_⟩
                  first
                    | exact ((alloc_below1 wr _).drew.trans (hb3.mono (by first | omega | (simp; omega) | simp))).trans (hb4.mono (by first | omega | (simp; omega) | simp))
                    | exact (((Below.refl _ wr).drew.trans (hb3.mono (by first | omega | (simp; omega) | simp))).alloc (by first | omega | (simp; omega) | simp) _).trans (hb4.mono (by first | omega | (simp; omega) | simp))
                    | exact (((Below.refl _ wr).drew.trans (hb3.mono (by first | omega | (simp; omega) | simp))).trans (hb4.mono (by first | omega | (simp; omega) | simp))).alloc (by first | omega | (simp; omega) | simp) _
              case rest =>
                obtain ⟨ld, rfl, HLD, hld, hbx⟩ := hcut
                have HT1 := HTW.out.below hbx
                clear s1 s2 hc4
                go_wp2_with (first
                  | (go_at_call_of 43 (Value.pointer (some ⟨wx.heap.size, 0, none⟩)); ((with_reducible refine Calls.mono (string_43 (wx.heap.size + 2) wx.heap.size g1 D _ HT1.one (by omega)) ?_); rintro e w2 ⟨rfl, hs2⟩; have HB2 := Lib.hid (HT1.other (hs2.fr wx.heap.size)); have HF2 := Lib.hid (HT1.one.fr (hs2.fr wx.heap.size) (lo := wx.heap.size) (Nat.le_refl _)); clear hs2)))
                ((with_reducible refine Calls.mono (string_43 (wx.heap.size + 2) (wx.heap.size + 1) g2 A _ HB2.out (by omega)) ?_); rintro e w3 ⟨rfl, hs3⟩; have HF3 := Lib.hid (HB2.out.fr (hs3.fr (wx.heap.size + 1)) (lo := wx.heap.size) (by omega)); clear hs3)
                go_wp2_with fail
                go_ret2
                refine ⟨HFIN.out _ (by rw [HLD.out]; simp), hbW.trans ((hbx.mono (by omega)).trans ((HF2.out.mono (by omega)).trans (HF3.out.mono (by omega))))⟩
            · have HE := Lib.hid (HX2.out (.inr (by omega)))
              clear HX0 HX2
              go_wp2_with (go_at_call 42; ((first | (with_reducible refine Calls.mono (len_at _ _ _ _ _ s1) ?_) | (with_reducible refine Calls.mono (len_at _ _ _ _ _ s2) ?_)); rintro e w' ⟨rfl, rfl⟩))
              go_ret2
              exact ⟨by rw [HE.out]; rfl, hbW⟩
          · have HE := Lib.hid (HX2.out (.inl (by omega)))
            clear HX0 HX2
            go_wp2_with (go_at_call 42; ((first | (with_reducible refine Calls.mono (len_at _ _ _ _ _ s1) ?_) | (with_reducible refine Calls.mono (len_at _ _ _ _ _ s2) ?_)); rintro e w' ⟨rfl, rfl⟩))
            go_ret2
            exact ⟨by rw [HE.out]; rfl, hbW⟩
end Go.Proofs.YtfkleeigdplapaaDoor
