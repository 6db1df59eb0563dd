/-
  The walk of VaultPower.
-/
import Derived.Test.YtgdkdihedgiegaaDoorV24
namespace Go.Proofs.YtgdkdihedgiegaaDoor
open Go.RowKit

/-- A clean disk without power. -/
def offD (c : Bs) : DiskD := ⟨c, c, [], true, 0⟩
theorem power_off (c : Bs) : powerD (offD c) = none := rfl
theorem ws_off (c : Bs) (off : Nat) (s : Bs) : wsD (offD c) off s = (offD c, 70) := by
  have hw : writeD (offD c) off s = (offD c, 70) := by unfold writeD; rw [power_off]
  unfold wsD
  rw [hw, if_neg (show ¬ ((70 : Int) = 0) by decide)]
theorem run_off (c : Bs) (q : Nat × Bs) (st : List (Nat × Bs)) : runD (offD c) (q :: st) = (offD c, 70) := by
  rw [runD, ws_off, if_neg (show ¬ ((70 : Int) = 0) by decide)]
theorem sync_off (c : Bs) : syncD (offD c) = (offD c, 70) := by unfold syncD; rw [power_off]
/-- A vault, broken or not, on a disk without power, as the law's walk holds it. -/
structure OV (lo : Nat) (w0 w : World) (F : Nat → Prop) (g b : Nat) (sn : Bs) (tl : List Bs) (c : Bs) (br : Bool) (D : DiskD) : Prop where
  vd : VD F w g b ((64 + (imageR sn tl).length : Nat) : Int) tl.length br D
  low : ∀ k, With F g k → lo ≤ k
  bl : Below lo w0 w
  sz : lo ≤ w.heap.size
  clean : CleanC c sn tl
  fit : (imageR sn tl).length ≤ 20000
  cl : c.length ≤ 100000
theorem OV.below {lo : Nat} {w0 w w' : World} {F : Nat → Prop} {g b : Nat} {sn : Bs} {tl : List Bs} {c : Bs} {br : Bool} {D : DiskD} (h : OV lo w0 w F g b sn tl c br D) (hb : Below w.heap.size w w') : OV lo w0 w' F g b sn tl c br D :=
  ⟨h.vd.below hb, h.low, btr h.bl hb h.sz, Nat.le_trans h.sz hb.size, h.clean, h.fit, h.cl⟩
theorem OV.fail {lo : Nat} {w0 w : World} {F : Nat → Prop} {g b : Nat} {sn : Bs} {tl : List Bs} {c : Bs} {br : Bool} {D : DiskD} (h : OV lo w0 w F g b sn tl c br D) (n : Int) :
    Calls Tryd.prog 23 #[.pointer (some ⟨b, 0, none⟩), .int .i64 n] w fun e w' => e = .returned (.tuple #[]) ∧ OV lo w0 w' F g b sn tl c br { D with failing := decide (-1 < n), left := n } := by
  refine (fail_23 F w b D h.vd.disk n).mono ?_
  rintro e w' ⟨rfl, hd, ho⟩
  have hs : Step F w F w' := Step.of_only ho h.vd.disk.fb
  exact ⟨rfl, h.vd.step hd hs, h.low, h.bl.trans ((hs.more g).below h.low h.sz).1, Nat.le_trans h.sz hs.size, h.clean, h.fit, h.cl⟩
theorem LV.ov {lo : Nat} {w0 w : World} {g b : Nat} {sn : Bs} {tl : List Bs} {l : Int} (h : LV lo w g b sn tl l) (hb : Below lo w0 w) : ∃ F c, OV lo w0 w F g b sn tl c false (onD c l) := by
  obtain ⟨F, c, h1, h2, h3⟩ := h
  exact ⟨F, c, h1.vd, h2, hb, h3, h1.ds.clean, h1.ds.fit, h1.ds.cl⟩
theorem OV.append_off {lo : Nat} {w0 w : World} {F : Nat → Prop} {g b : Nat} {sn : Bs} {tl : List Bs} {c : Bs} (h : OV lo w0 w F g b sn tl c false (offD c)) (r : Bs) (hr : r.length ≤ 90) :
    Calls Tryd.prog 21 #[.pointer (some ⟨g, 0, none⟩), S r] w fun e w' => e = .returned (.int .i64 70) ∧ ∃ F', OV lo w0 w' F' g b sn tl c true (offD c) := by
  have hf := frame_small r hr
  have hi := h.fit
  have ht := tail_len sn tl
  refine (append_21 F w g b (64 + (imageR sn tl).length) tl.length (offD c) h.vd ⟨by show (-1 : Int) ≤ 0; omega, by show (0 : Int) ≤ 1000; omega, fun _ => Int.le_refl _, Nat.le_trans h.cl (by omega)⟩ (by show 0 ≤ _; omega) r (by omega) (by omega) (by omega)).mono ?_
  rintro e w' ⟨rfl, F', hv, hs⟩
  have hrun : ∀ e r, runD (offD c) (appR e r) = (offD c, 70) := fun e r => by unfold appR; exact run_off c _ _
  rw [hrun] at hv ⊢
  have hb := hs.below h.low h.sz
  exact ⟨rfl, F', hv, hb.2, h.bl.trans hb.1, Nat.le_trans h.sz hs.size, h.clean, h.fit, h.cl⟩
theorem OV.open_off {lo : Nat} {w0 w : World} {F : Nat → Prop} {g b : Nat} {sn : Bs} {tl : List Bs} {c : Bs} {br : Bool} (h : OV lo w0 w F g b sn tl c br (offD c)) :
    Calls Tryd.prog 13 #[.pointer (some ⟨b, 0, none⟩)] w fun e w' => e = .returned (.tuple #[.pointer none, S [], .slice none 0 0, .int .i64 70]) ∧ ∃ F', OV lo w0 w' F' g b sn tl c br (offD c) := by
  refine (open_13 F w b (offD c) h.vd.disk ⟨by show (-1 : Int) ≤ 0; omega, by show (0 : Int) ≤ 1000; omega, fun _ => Int.le_refl _, Nat.le_trans h.cl (by omega)⟩ (by have := h.cl; show c.length ≤ _; omega)).mono ?_
  intro e w' hp
  unfold OpenPost at hp
  rw [sync_off, if_neg (show ¬ ((70 : Int) = 0) by decide)] at hp
  obtain ⟨rfl, F', hd, hs⟩ := hp
  have hb := (hs.more g).below h.low h.sz
  exact ⟨rfl, F', h.vd.step hd hs, hb.2, h.bl.trans hb.1, Nat.le_trans h.sz hs.size, h.clean, h.fit, h.cl⟩
/-- The disk has power again, and is opened once more. -/
theorem OV.open_on {lo : Nat} {w0 w : World} {F : Nat → Prop} {g b : Nat} {sn : Bs} {tl : List Bs} {c : Bs} {br : Bool} (h : OV lo w0 w F g b sn tl c br (onD c (-1))) :
    Calls Tryd.prog 13 #[.pointer (some ⟨b, 0, none⟩)] w fun e w' => ∃ F' g' v c', e = .returned (.tuple #[.pointer (some ⟨g', 0, none⟩), S sn, v, .int .i64 0]) ∧ VS F' w' g' b sn tl c' (-1) ∧ Below lo w0 w' ∧ lo ≤ w'.heap.size ∧ VaultAt w' g b ((64 + (imageR sn tl).length : Nat) : Int) tl.length br := by
  refine (open_S F w b sn tl c (-1) ⟨h.vd.disk, h.clean, h.fit, h.cl, by omega, by omega⟩).mono ?_
  rintro e w' ⟨F', g', v, c', rfl, hv, _, hs, _⟩
  have hb := hs.below (fun k hk => h.low k (.inl hk)) h.sz
  exact ⟨F', g', v, c', rfl, hv, h.bl.trans hb.1, Nat.le_trans h.sz hs.size, (hs.block g (blk_lt h.vd.vault) h.vd.nf).trans h.vd.vault⟩
set_option maxHeartbeats 4000000 in
set_option maxRecDepth 100000 in
theorem power_5 (av : Value) (l : List ActL) (record : Bs) (w : World) (h : ActsAt w av l) : Calls Tryd.prog 5 #[av, S record] w fun e w' => e = .returned (.bool true) ∧ Below w.heap.size w w' := by
  have HA : Hid (∀ W, Below w.heap.size w W → ActsAt W av l) := fun W hb => h.below hb
  obtain ⟨aa, acap, rfl, _⟩ := id h
  obtain ⟨q, hq⟩ : ∃ q, q = min record.length 90 := ⟨_, rfl⟩
  have hmn : min (record.length : Int) 90 = (q : Int) := by omega
  have hq1 : q ≤ record.length := by omega
  have HQ : Hid ((record.take q).length ≤ 90) := by show _ ≤ _; rw [List.length_take]; omega
  clear h hq
  go_enter Tryd.func5, Tryd.ntmps5
  go_wp2_with fail
  ((with_reducible refine Calls.mono (sanity_11 w) ?_); rintro e w1 ⟨rfl, hb1⟩)
  have HB1 := Lib.hid hb1
  clear hb1
  go_wp2_with fail
  generalize record.take q = r at *
  clear hmn hq1
  ((with_reducible refine Calls.mono (new_L w.heap.size w1 HB1.out.size) ?_); rintro e w2 ⟨rfl, hd2, hb2⟩)
  have HD2 := Lib.hid hd2
  have HB2 := Lib.hid (HB1.out.trans hb2)
  clear hd2 hb2
  go_wp2_with fail
  generalize w1.heap.size = b at *
  ((with_reducible refine Calls.mono (open_L w.heap.size w2 b [] [] 0 HD2.out) ?_); rintro e w3 ⟨g, ta, cap, rfl, hv3, _, hb3, _⟩)
  have HV3 := Lib.hid hv3
  have HB3 := Lib.hid (HB2.out.trans hb3)
  clear hv3 hb3 HD2 HB1 HB2
  go_wp2_with fail
  go_loopw [11] (fun i wr => ∃ (k : Nat) (sn : Bs) (tl : List Bs), i = .int .i64 k ∧ k ≤ l.length ∧ k ≤ 8 ∧ Hid (LV w.heap.size wr g b sn tl 0) ∧ Hid ((imageR sn tl).length ≤ 600 + 100 * k) ∧ Hid (Below w.heap.size w wr)) (fun i _ => l.length - (intOf i).toNat)
  case atStart => exact ⟨0, [], [], rfl, Nat.zero_le _, Nat.zero_le _, HV3.out, (by show _ ≤ _; rw [image_nil]; omega), HB3.out⟩
  case round =>
    clear HV3 HB3
    obtain ⟨k, sn, tl, rfl, hk, hk8, HL, HF, HB⟩ := hrel
    by_cases hgo : k < l.length ∧ k < 8
    · obtain ⟨hlt, h8⟩ := hgo
      obtain ⟨_, bb, off, tv, rfl, c0, c1, c2, ht⟩ := (HA.out wr HB.out).at_ k hlt
      generalize l[k] = y at *
      obtain ⟨m, hm⟩ : ∃ m, m = modR y.1 6 := ⟨_, rfl⟩
      obtain ⟨tx, htx⟩ : ∃ tx, tx = y.2.1.take 90 := ⟨_, rfl⟩
      obtain ⟨ct, hct⟩ : ∃ ct, ct = cutsR y.2.2 := ⟨_, rfl⟩
      have hm6 : m < 6 := by rw [hm]; exact modR_lt _ _ (by omega)
      have HTX : Hid (tx.length ≤ 90) := by show _ ≤ _; rw [htx, List.length_take]; omega
      have HCT : Hid (∀ r ∈ ct, r.length ≤ 90) := by rw [hct]; exact cuts_small _
      have HCL : Hid (ct.length ≤ 4) := by rw [hct]; exact cuts_len _
      have HCUT := Lib.hid (cut_14 wr y.1 y.2.1 tv y.2.2 ht)
      rw [← hm, ← htx, ← hct] at HCUT
      clear hm htx hct ht
      go_wp2_with fail
      ((with_reducible refine Calls.mono HCUT.out ?_); rintro e w5 ⟨⟨ca, cc, rfl, hsl5⟩, hb5⟩)
      have HL5 := Lib.hid (HL.out.below hb5)
      have HB5 := Lib.hid (btr HB.out hb5 HL.out.size)
      have HC5 : Hid (TailAt w5 (.slice ca ct.length cc) ct) := hsl5.mono (Nat.zero_le _) (Nat.le_refl _)
      clear hsl5 hb5 HCUT c0 c1 c2
      by_cases h5 : m = 5
      · subst h5
        have ha := alloc_below w5 (.cells #[.int .i64 5, S tx, .slice ca ct.length cc] 34)
        have HL6 := Lib.hid (HL5.out.below ha)
        have HB6 := Lib.hid (btr HB5.out ha HL5.out.size)
        clear ha
        go_wp2_with fail
        go_roundw
        case rel => exact ⟨k + 1, sn, tl, by go_num, hlt, by omega, HL6.out, Nat.le_trans HF.out (by omega), HB6.out⟩
        case measure => simp [intOf]; omega
      · have h5' : ¬ (m : Int) = 5 := by omega
        have h5b : ((m : Int) == 5) = false := by simpa using h5'
        have ha := alloc_below w5 (.cells #[.int .i64 m, S tx, .slice ca ct.length cc] 34)
        have HL6 := Lib.hid (HL5.out.below ha)
        have HB6 := Lib.hid (btr HB5.out ha HL5.out.size)
        have HC6 := Lib.hid (HC5.out.below ha)
        have hfit : (imageR (actR sn tl m tx ct).1 (actR sn tl m tx ct).2).length ≤ 600 + 100 * (k + 1) := act_fit sn tl m tx ct k HF.out HTX.out HCT.out HCL.out
        have HFIT := Lib.hid hfit
        clear ha hfit
        go_wp2_with fail
        ((with_reducible refine Calls.mono (do_L w.heap.size _ g b sn tl 0 HL6.out m (by omega) tx _ ct HC6.out (Nat.le_trans HFIT.out (by omega))) ?_); rintro e w7 ⟨rfl, hv7, hb7⟩)
        have hfit := HFIT.out
        generalize (actR sn tl m tx ct).1 = s9 at *
        generalize (actR sn tl m tx ct).2 = t9 at *
        have HF9 := Lib.hid hfit
        have HL7 := Lib.hid hv7
        have HB7 := Lib.hid (HB6.out.trans hb7)
        clear hfit HFIT hv7 hb7
        go_wp2_with fail
        go_roundw
        case rel => exact ⟨k + 1, s9, t9, by go_num, hlt, by omega, HL7.out, HF9.out, HB7.out⟩
        case measure => simp [intOf]; omega
    · obtain ⟨F, c, ho⟩ := HL.out.ov HB.out
      have HO := Lib.hid ho
      clear ho HA
      by_cases hlt : k < l.length
      all_goals
        go_wp2_with fail
        ((with_reducible refine Calls.mono HL.out.many ?_); rintro e w4 ⟨rfl, hw⟩; have hw := hw.symm; subst hw)
        go_wp2_with fail
        ((with_reducible refine Calls.mono (contents_L w.heap.size wr b sn tl 0 HL.out.ld) ?_); rintro e w5 ⟨rfl, hb5⟩)
        have HO5 := Lib.hid (HO.out.below hb5)
        clear hb5 HO HL
        go_wp2_with fail
        obtain ⟨T, hT⟩ : ∃ T, trimR (cleanR sn tl) = T := ⟨_, rfl⟩
        rw [hT]
        have HTT := Lib.hid hT
        clear hT
        ((with_reducible refine Calls.mono (HO5.out.fail 0) ?_); rintro e w6 ⟨rfl, ho6⟩)
        have HO6 : Hid (OV w.heap.size w w6 F g b sn tl c false (offD c)) := ho6
        clear ho6
        go_wp2_with fail
        ((with_reducible refine Calls.mono (HO6.out.append_off r HQ.out) ?_); rintro e w7 ⟨rfl, F7, ho7⟩)
        have HO7 := Lib.hid ho7
        clear ho7
        go_wp2_with fail
        ((with_reducible refine Calls.mono (replace_broken w7 g b _ _ HO7.out.vd.vault r _) ?_); rintro e w8 ⟨rfl, hw⟩; have hw := hw.symm; subst hw)
        go_wp2_with fail
        ((with_reducible refine Calls.mono (many_20 w7 g b _ _ true HO7.out.vd.vault) ?_); rintro e w8 ⟨rfl, hw⟩; have hw := hw.symm; subst hw)
        go_wp2_with fail
        ((with_reducible refine Calls.mono HO7.out.open_off ?_); rintro e w8 ⟨rfl, F8, ho8⟩)
        have HO8 := Lib.hid ho8
        clear ho8
        go_wp2_with fail
        ((with_reducible refine Calls.mono (HO8.out.fail (-1)) ?_); rintro e w9 ⟨rfl, ho9⟩)
        have HO9 : Hid (OV w.heap.size w w9 F8 g b sn tl c true (onD c (-1))) := ho9
        clear ho9
        go_wp2_with fail
        ((with_reducible refine Calls.mono HO9.out.open_on ?_); rintro e w10 ⟨F10, g10, v10, c10, rfl, hv10, hb10, hz10, hva10⟩)
        have HV10 := Lib.hid hv10
        have HB10 := Lib.hid hb10
        have HZ10 := Lib.hid hz10
        have HVA := Lib.hid hva10
        clear hv10 hb10 hz10 hva10
        go_wp2_with fail
        ((with_reducible refine Calls.mono (append_broken w10 g b _ _ HVA.out r) ?_); rintro e w8 ⟨rfl, hw⟩; have hw := hw.symm; subst hw)
        go_wp2_with fail
        ((with_reducible refine Calls.mono (many_20 w10 g10 b _ _ false HV10.out.vd.vault) ?_); rintro e w8 ⟨rfl, hw⟩; have hw := hw.symm; subst hw)
        go_wp2_with fail
        have hco := contents_S F10 w10 b sn tl c10 (-1) HV10.out.ds
        rw [HTT.out] at hco
        ((with_reducible refine Calls.mono hco ?_); rintro e w11 ⟨rfl, hb11⟩)
        have HB11 := Lib.hid (btr HB10.out hb11 HZ10.out)
        clear hb11 hco
        go_wp2_with fail
        go_ret
        exact ⟨rfl, HB11.out⟩
end Go.Proofs.YtgdkdihedgiegaaDoor
