/-
  The walk of the program's reader of a text.
-/
import Derived.Test.YtfkleeigdplapaaDoorP7
import Derived.Test.YtfkleeigdplapaaDoorP5
import Derived.Deep.RegionHeld3
import Derived.Test.YtfkleeigdplapaaDoorTail
namespace Go.Proofs.YtfkleeigdplapaaDoor
open Go.RowKit

theorem tabs_grown {w w' : World} {b : Nat} (h : Tabs w) (hg : w.grownBy w' (some b)) (hb : 2 ≤ b) : Tabs w' := by
  have hk : ∀ p : Addr, p.block < 2 → (w.cell? p).isSome = true → w'.cell? p = w.cell? p := fun p hp hs => by
    obtain ⟨v, hv⟩ := Option.isSome_iff_exists.1 hs
    exact World.cell?_of_block (w := w) (hg.block _ (cell_lt hv) (by intro e; injection e with e; omega))
  obtain ⟨h1, h2⟩ := h
  refine ⟨fun c hc => ?_, fun i hi => ⟨?_, ?_⟩⟩
  · rw [hk ⟨0, c, none⟩ (by simp) (by rw [h1 c hc]; rfl)]; exact h1 c hc
  · rw [hk ⟨1, 2 * i, none⟩ (by simp) (by rw [(h2 i hi).1]; rfl)]; exact (h2 i hi).1
  · rw [hk ⟨1, 2 * i + 1, none⟩ (by simp) (by rw [(h2 i hi).2]; rfl)]; exact (h2 i hi).2
def TextPost (b : Nat) (s : Bs) (a t : Nat) (w : World) (e : Ending) (w' : World) : Prop :=
  match textR ((s.take t).drop a) with
  | .ok k => e = .returned (S ((s.take (a + k)).drop a)) ∧ a + k ≤ t ∧ RdAt w' b s (a + k) t ∧ w.grownBy w' (some b)
  | .error j => FailAt (min ((a : Int) + j) ((t : Int) - 1)) b w e w'
theorem gb_drew {b : Nat} {w w' : World} (h : w.grownBy w' (some b)) : w.grownBy w'.drew (some b) := ⟨h.os, h.tape, h.output, h.size, h.block⟩
theorem RdAt.drew {w : World} {b : Nat} {s : Bs} {a t : Nat} (h : RdAt w b s a t) : RdAt w.drew b s a t := ⟨h.c0, h.c1, h.c2, h.f1⟩
def rdPos (w : World) (b : Nat) : Nat := match w.cell? ⟨b, 1, none⟩ with
  | some (.int .i64 n) => n.toNat
  | _ => 0
theorem RdAt.pos {w : World} {b : Nat} {s : Bs} {a t : Nat} (h : RdAt w b s a t) : rdPos w b = a := by unfold rdPos; rw [h.c1]; simp
theorem textPost_err {b : Nat} {s : Bs} {a t j : Nat} {w w' : World} {e : Ending} (h : textR ((s.take t).drop a) = .error j) (he : FailAt (min ((a : Int) + j) ((t : Int) - 1)) b w e w') : TextPost b s a t w e w' := by
  unfold TextPost; rw [h]; exact he
theorem textPost_ok {b : Nat} {s : Bs} {a t k : Nat} {w w' : World} {e : Ending} (h : textR ((s.take t).drop a) = .ok k) (he : e = .returned (S ((s.take (a + k)).drop a))) (h1 : a + k ≤ t) (h2 : RdAt w' b s (a + k) t) (h3 : w.grownBy w' (some b)) : TextPost b s a t w e w' := by
  unfold TextPost; rw [h]; exact ⟨he, h1, h2, h3⟩
theorem brokenN_le (l : Bs) : brokenN l ≤ l.length := brokenTo_le l _
set_option maxHeartbeats 2000000 in
set_option maxRecDepth 100000 in
theorem text_66 (b : Nat) (s : Bs) (a t : Nat) (w : World) (h : RdAt w b s a t) (hT : Tabs w) (hb2 : 2 ≤ b) (ha : a ≤ t) (ht : 1 ≤ t) (hts : t ≤ s.length) (hl : t ≤ 1000000000) :
    Calls Tryd.prog 66 #[.pointer (some ⟨b, 0, none⟩)] w (TextPost b s a t w) := by
  have HT := Lib.hid hT
  have HR := Lib.hid h
  obtain ⟨c0, c1, c2, f1⟩ := h
  clear hT
  go_enter Tryd.func66, Tryd.ntmps66
  go_wp2_with fail
  clear c0 c1 c2 f1
  go_loopw [4, 5] (fun r n wr => ∃ k : Nat, a ≤ k ∧ k ≤ t ∧ Hid (RdAt wr b s k t) ∧ Hid (w.grownBy wr (some b)) ∧ Hid (textR ((s.take t).drop a) = textGo ch0 ((s.take t).drop k) (k - a))) (fun _ _ wr => t - rdPos wr b)
  case atStart => exact ⟨a, Nat.le_refl _, ha, HR, gb_refl b w, by unfold textR; simp [Hid]⟩
  case round =>
    obtain ⟨k, hk1, hk2, HRk, HG, HE⟩ := hrel
    have HTk : Hid (Tabs wr) := tabs_grown HT.out HG.out hb2
    obtain ⟨c0, c1, c2, f1⟩ := HRk.out
    by_cases hlt : k < t
    · have b1 : (0 : Int) ≤ k := by omega
      have b2 : (k : Int) < s.length := by omega
      obtain ⟨c, hc⟩ : ∃ c, s.getD k 0 = c := ⟨_, rfl⟩
      have hge : s[k] = c := by rw [← hc]; exact ge_getD s k (by omega)
      have HC := Lib.hid hc
      clear hc
      have h1 : decide ((k : Int) < t) = true := by simp; omega
      have HDR : Hid ((s.take t).drop k = c :: (s.take t).drop (k + 1)) := by
        have hkl : k < (s.take t).length := by simp; omega
        rw [List.drop_eq_getElem_cons hkl]
        simp [Hid, hge]
      by_cases h32 : 32 ≤ c.toNat
      · have b3 : (k : Int) ≤ t := by omega
        have b4 : (t : Int) ≤ s.length := by omega
        have hd32 : decide ((32 : Int) ≤ c.toNat) = true := by simp; omega
        obtain ⟨d, hd⟩ : ∃ d, Lib.decodeGo ⟨((s.take t).drop k).toArray⟩ = d := ⟨_, rfl⟩
        have H81 : Hid (∀ W, wr.grownBy W (some b) → Calls Tryd.prog 81 #[S ((s.take t).drop k)] W fun e w' => e = .returned (.tuple #[.int .i32 d.1, .int .i64 d.2]) ∧ Below W.heap.size W w') := fun W hg => by
          rw [← hd]; exact decode_81 _ W (tabs_grown HTk.out hg hb2)
        have hst := decode_step c ((s.take t).drop (k + 1)) h32 (k - a)
        rw [← HDR.out, hd] at hst
        have HST := Lib.hid hst
        clear hst hd
        obtain ⟨r, n⟩ := d
        simp only at H81
        cases hbad : badRune (r, n)
        · obtain ⟨hn1, hn2, _⟩ := HST.out.2 hbad
          simp only [List.length_drop, List.length_take] at hn2
          go_wp2_with fail
          go_quiet (fail)
          go_wp2_with fail
          go_region_held3 (fun w' => w'.cell? ⟨b, 0, none⟩ = some (S s) ∧ w'.cell? ⟨b, 1, none⟩ = some (.int .i64 k) ∧ w'.cell? ⟨b, 2, none⟩ = some (.int .i64 t)) (go_keep) ((go_at_call 81; ((with_reducible refine Calls.mono (H81.out _ (gb_drewN (gb_refl b wr) _)) ?_); rintro e w2 ⟨rfl, hbw⟩; have HRw := Lib.hid ((HRk.out.drewN _).below hbw); obtain ⟨d0, d1, d2, df⟩ := HRw.out)))
          have HGw : Hid (w.grownBy w2 (some b)) := World.grownBy.trans (gb_drewN HG.out _) (gb_below hbw _)
          go_wp2_with fail
          all_goals first
            | (exfalso; simp [badRune] at hbad; omega)
            | (go_roundw
               case rel =>
                 obtain ⟨_, _, he⟩ := HST.out.2 hbad
                 refine ⟨k + n, by omega, by omega, HRw.out.putI (k + n) _ (by omega), gb_setCell HGw.out 1 _, ?_⟩
                 rw [HE.out, he, List.drop_drop, show k - a + n = k + n - a from by omega]; rfl
               case measure =>
                 rw [(HRw.out.putI (k + n) _ (by omega)).pos, HRk.out.pos]; omega)
        · have he := HST.out.1 hbad
          obtain ⟨br, hbr⟩ : ∃ br, brokenN ((s.take t).drop k) = br := ⟨_, rfl⟩
          have hbl : br ≤ t - k := by rw [← hbr]; exact Nat.le_trans (brokenN_le _) (by simp; omega)
          have HER : Hid (textR ((s.take t).drop a) = .error (k - a + br)) := by rw [HE.out, he, hbr]; rfl
          have H82 : Hid (∀ W, wr.grownBy W (some b) → Calls Tryd.prog 82 #[S ((s.take t).drop k)] W fun e w' => e = .returned (.int .i64 br) ∧ Below W.heap.size W w') := fun W hg => by
            rw [← hbr]; exact broken_82 _ W (tabs_grown HTk.out hg hb2) (by simp; omega)
          clear he hbr
          simp only [badRune, Bool.and_eq_true, decide_eq_true_eq] at hbad
          obtain ⟨hr, hn⟩ := hbad
          have e1 : IntKind.i64.wrap ((k : Int) + br) = k + br := IntWalk.i64_in _ (by omega)
          go_wp2_with fail
          go_quiet (fail)
          go_wp2_with fail
          go_region_held3 (fun w' => w'.cell? ⟨b, 0, none⟩ = some (S s) ∧ w'.cell? ⟨b, 1, none⟩ = some (.int .i64 k) ∧ w'.cell? ⟨b, 2, none⟩ = some (.int .i64 t)) (go_keep) ((go_at_call 81; ((with_reducible refine Calls.mono (H81.out _ (gb_drewN (gb_refl b wr) _)) ?_); rintro e w2 ⟨rfl, hbw⟩; have HRw := Lib.hid ((HRk.out.drewN _).below hbw); obtain ⟨d0, d1, d2, df⟩ := HRw.out)))
          have HGw : Hid (wr.grownBy w2 (some b)) := World.grownBy.trans (gb_drewN (gb_refl b wr) _) (gb_below hbw _)
          have hrr : ((r : Int) == 65533) = true := by simp; omega
          have hnn : decide ((n : Int) < 2) = true := by simp; omega
          go_wp2_with fail
          refine wp_region_T (fun w' => RdAt w' b s k t) 21 (by kernel_rfl) ?_
          refine anyT_take (i := 0) (v := ?_) rfl (by kernel_rfl) (by kernel_rfl) (by kernel_rfl) (by kernel_rfl) (by decide) (fun _ _ _ h => h) HRw.out.drew (Or.inl ⟨by rfl, ?_⟩) ?_
          rotate_left
          · intro w' h; obtain ⟨c0, c1, c2, f1⟩ := h; go_simp; rfl
          refine anyT_take (i := 1) (v := ?_) rfl (by kernel_rfl) (by kernel_rfl) (by kernel_rfl) (by kernel_rfl) (by decide) (fun _ _ _ h => h) HRw.out.drew (Or.inl ⟨by rfl, ?_⟩) ?_
          rotate_left
          · intro w' h; obtain ⟨c0, c1, c2, f1⟩ := h; go_simp; rfl
          refine anyT_take (i := 2) (v := ?_) rfl (by kernel_rfl) (by kernel_rfl) (by kernel_rfl) (by kernel_rfl) (by decide) (fun _ _ _ h => h) HRw.out.drew (Or.inl ⟨by rfl, ?_⟩) ?_
          rotate_left
          · intro w' h; obtain ⟨c0, c1, c2, f1⟩ := h; go_simp; rfl
          refine anyT_take (i := 3) (v := ?_) rfl (by kernel_rfl) (by kernel_rfl) (by kernel_rfl) (by kernel_rfl) (by decide) (fun _ _ _ h => h) HRw.out.drew (Or.inl ⟨by rfl, ?_⟩) ?_
          rotate_left
          · intro w' h; obtain ⟨c0, c1, c2, f1⟩ := h; go_simp; rfl
          refine anyT_take (i := 4) (v := ?_) rfl (by kernel_rfl) (by kernel_rfl) (by kernel_rfl) (by kernel_rfl) (by decide) (fun _ _ _ h => h) HRw.out.drew (Or.inl ⟨by rfl, ?_⟩) ?_
          rotate_left
          · intro w' h; obtain ⟨c0, c1, c2, f1⟩ := h; go_simp; rfl
          refine anyT_take (i := 5) (v := ?_) rfl (by kernel_rfl) (by kernel_rfl) (by kernel_rfl) (by kernel_rfl) (by decide) (fun _ _ _ h => h) HRw.out.drew (Or.inl ⟨by rfl, ?_⟩) ?_
          rotate_left
          · intro w' h; obtain ⟨c0, c1, c2, f1⟩ := h; go_simp; rfl
          refine anyT_take (i := 6) (v := ?_) rfl (by kernel_rfl) (by kernel_rfl) (by kernel_rfl) (by kernel_rfl) (by decide) (fun _ _ _ h => h) HRw.out.drew (Or.inl ⟨by rfl, ?_⟩) ?_
          rotate_left
          · intro w' h; obtain ⟨c0, c1, c2, f1⟩ := h; go_simp; rfl
          refine anyT_take (i := 7) (v := ?_) rfl (by kernel_rfl) (by kernel_rfl) (by kernel_rfl) (by kernel_rfl) (by decide) (fun _ _ _ h => h) HRw.out.drew (Or.inl ⟨by rfl, ?_⟩) ?_
          rotate_left
          · intro w' h; obtain ⟨c0, c1, c2, f1⟩ := h; go_simp; rfl
          refine anyT_take (i := 8) (v := ?_) rfl (by kernel_rfl) (by kernel_rfl) (by kernel_rfl) (by kernel_rfl) (by decide) (fun _ _ _ h => h) HRw.out.drew (Or.inl ⟨by rfl, ?_⟩) ?_
          rotate_left
          · intro w' h; obtain ⟨c0, c1, c2, f1⟩ := h; go_simp; rfl
          refine anyT_take (i := 9) (v := ?_) rfl (by kernel_rfl) (by kernel_rfl) (by kernel_rfl) (by kernel_rfl) (by decide) (fun _ _ _ h => h) HRw.out.drew (Or.inl ⟨by rfl, ?_⟩) ?_
          rotate_left
          · intro w' h; obtain ⟨c0, c1, c2, f1⟩ := h; go_simp; rfl
          refine anyT_take (i := 10) (v := ?_) rfl (by kernel_rfl) (by kernel_rfl) (by kernel_rfl) (by kernel_rfl) (by decide) (fun _ _ _ h => h) HRw.out.drew (Or.inl ⟨by rfl, ?_⟩) ?_
          rotate_left
          · intro w' h; obtain ⟨c0, c1, c2, f1⟩ := h; go_simp; rfl
          refine anyT_take (i := 11) (v := ?_) rfl (by kernel_rfl) (by kernel_rfl) (by kernel_rfl) (by kernel_rfl) (by decide) (fun _ _ _ h => h) HRw.out.drew (Or.inl ⟨by rfl, ?_⟩) ?_
          rotate_left
          · intro w' h; obtain ⟨c0, c1, c2, f1⟩ := h; go_simp; rfl
          refine anyT_take (i := 12) (v := ?_) rfl (by kernel_rfl) (by kernel_rfl) (by kernel_rfl) (by kernel_rfl) (by decide) (fun _ _ _ h => h) HRw.out.drew (Or.inl ⟨by rfl, ?_⟩) ?_
          rotate_left
          · intro w' h; obtain ⟨c0, c1, c2, f1⟩ := h; go_simp; rfl
          refine anyT_take (i := 13) (v := ?_) rfl (by kernel_rfl) (by kernel_rfl) (by kernel_rfl) (by kernel_rfl) (by decide) (fun _ _ _ h => h) HRw.out.drew (Or.inl ⟨by rfl, ?_⟩) ?_
          rotate_left
          · intro w' h; obtain ⟨c0, c1, c2, f1⟩ := h; go_simp; rfl
          refine anyT_take (i := 14) (v := ?_) rfl (by kernel_rfl) (by kernel_rfl) (by kernel_rfl) (by kernel_rfl) (by decide) (fun _ _ _ h => h) HRw.out.drew (Or.inl ⟨by rfl, ?_⟩) ?_
          rotate_left
          · intro w' h; obtain ⟨c0, c1, c2, f1⟩ := h; go_simp; rfl
          refine anyT_take (i := 15) (v := ?_) rfl (by kernel_rfl) (by kernel_rfl) (by kernel_rfl) (by kernel_rfl) (by decide) (fun _ _ _ h => h) HRw.out.drew (Or.inl ⟨by rfl, ?_⟩) ?_
          rotate_left
          · intro w' h; obtain ⟨c0, c1, c2, f1⟩ := h; go_simp; rfl
          refine anyT_take (i := 16) (v := ?_) rfl (by kernel_rfl) (by kernel_rfl) (by kernel_rfl) (by kernel_rfl) (by decide) (fun _ _ _ h => h) HRw.out.drew (Or.inl ⟨by rfl, ?_⟩) ?_
          rotate_left
          · intro w' h; obtain ⟨c0, c1, c2, f1⟩ := h; go_simp; rfl
          refine anyT_do (i := 17) rfl (by kernel_rfl) rfl (fun K hK => ?_)
          go_simp
          (go_at_call 82; ((with_reducible refine Calls.mono (H82.out _ (gb_drew HGw.out)) ?_); rintro e w3 ⟨rfl, hbw3⟩))
          have HRw3 := Lib.hid (HRw.out.drew.below hbw3)
          refine hK _ _ (fun _ => HRw3.out) ?_
          clear hK K
          refine anyT_do (i := 18) rfl (by kernel_rfl) rfl (fun K hK => ?_)
          go_simp
          refine hK _ _ (fun _ => HRw3.out) ?_
          clear hK K
          refine anyT_do (i := 19) rfl (by kernel_rfl) rfl (fun K hK => ?_)
          go_simp
          refine hK _ _ (fun _ => HRw3.out) ?_
          clear hK K
          refine anyT_do (i := 20) rfl (by kernel_rfl) rfl (fun K hK => ?_)
          go_simp
          refine hK _ _ (fun _ => HRw3.out) ?_
          clear hK K
          refine anyT_do (i := 21) rfl (by kernel_rfl) rfl (fun K hK => ?_)
          obtain ⟨d0, d1, d2, df⟩ := HRw3.out
          go_simp
          refine hK _ _ (fun h => absurd rfl h) ?_
          clear hK K
          refine anyT_done (by kernel_rfl) ?_ _
          have HR4 := Lib.hid (HRw3.out.putI (k + br) ((k : Int) + br) (by omega))
          have HG4 : Hid (w.grownBy (w3.setCell ⟨b, 1, none⟩ (.int .i64 ((k : Int) + br))) (some b)) := gb_setCell (World.grownBy.trans (World.grownBy.trans HG.out (gb_drew HGw.out)) (gb_below hbw3 _)) 1 _
          have H83 := Lib.hid (fail_83 b s (k + br) t _ HR4.out (by omega) (by omega))
          generalize w3.setCell ⟨b, 1, none⟩ (.int .i64 ((k : Int) + br)) = w4 at *
          go_wp2_with (go_at_call 83; ((with_reducible refine Calls.mono H83.out ?_); rintro e w5 ⟨rfl, hg5⟩))
          refine ⟨rfl, textPost_err HER.out ⟨?_, World.grownBy.trans HG4.out hg5⟩⟩
          show failV (min ((k : Int) + br) _) 14 = _
          rw [show (k : Int) + br = (a : Int) + (k - a + br : Nat) from by omega]
      · have hd32 : decide ((32 : Int) ≤ c.toNat) = false := by simp; omega
        have HEO : Hid (textR ((s.take t).drop a) = .ok (k - a)) := by
          rw [HE.out, HDR.out]; simp only [textGo]; rw [if_pos ⟨rfl, by omega⟩]; rfl
        have b3 : (0 : Int) ≤ a := by omega
        have b4 : (a : Int) ≤ k := by omega
        have b5 : (k : Int) ≤ s.length := by omega
        go_wp2_with fail
        go_quiet (fail)
        go_wp2_with fail
        go_quiet (fail)
        go_wp2_with fail
        go_ret
        refine textPost_ok HEO.out (by rw [show a + (k - a) = k from by omega]; rfl) (by omega) (by rw [show a + (k - a) = k from by omega]; exact ((HRk.out.drewN _).drewN _)) (gb_drewN (gb_drewN HG.out _) _)
    · have HEO : Hid (textR ((s.take t).drop a) = .ok (k - a)) := by
        rw [HE.out, List.drop_of_length_le (by simp; omega)]; simp [textGo, ch0, Hid]
      have h1 : decide ((k : Int) < t) = false := by simp; omega
      have b3 : (0 : Int) ≤ a := by omega
      have b4 : (a : Int) ≤ k := by omega
      have b5 : (k : Int) ≤ s.length := by omega
      go_wp2_with fail
      go_quiet (fail)
      go_wp2_with fail
      go_quiet (fail)
      go_wp2_with fail
      go_ret
      refine textPost_ok HEO.out (by rw [show a + (k - a) = k from by omega]; rfl) (by omega) (by rw [show a + (k - a) = k from by omega]; exact ((HRk.out.drewN _).drewN _)) (gb_drewN (gb_drewN HG.out _) _)
end Go.Proofs.YtfkleeigdplapaaDoor
