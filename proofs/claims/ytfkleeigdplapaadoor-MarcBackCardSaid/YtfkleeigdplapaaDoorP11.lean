/-
  The walk of the program's field.
-/
import Derived.Test.YtfkleeigdplapaaDoorP9
import Derived.Test.YtfkleeigdplapaaDoorConv
import Derived.Deep.DeepCutAuto
import Derived.Deep.AppendLies
import Derived.Deep.QuietTactic
import Derived.BigQuiet
import Derived.Test.YtfkleeigdplapaaDoorW11
namespace Go.Proofs.YtfkleeigdplapaaDoor
open Go.RowKit
theorem gb_drew2 {b : Nat} {w w' : World} (h : w.grownBy w' (some b)) : w.grownBy w'.drew (some b) := ⟨h.os, h.tape, h.output, h.size, h.block⟩

theorem subsA_more {fu : Nat} {s : Bs} {t k : Nat} {acc : List SubD} (h : moreB s t k acc = true) : subsA (fu + 1) s t k acc = (subA s t k).bind fun r => subsA fu s t r.2 (acc ++ [r.1]) := by simp only [subsA, h, if_true]
theorem subsA_stop {fu : Nat} {s : Bs} {t k : Nat} {acc : List SubD} (h : moreB s t k acc = false) : subsA (fu + 1) s t k acc = .ok (acc, k) := by simp [subsA, h]
set_option maxHeartbeats 8000000 in
set_option maxRecDepth 100000 in
theorem field_47_data (tag s : Bs) (a t b : Nat) (w : World) (hc : ctrlB tag = false) (h : RdAt w b s a t) (hT : Tabs w) (hb2 : 2 ≤ b) (ht : 1 ≤ t) (hts : t ≤ s.length) (hl : t ≤ 1000000000) :
    Calls Tryd.prog 47 #[.pointer (some ⟨b, 0, none⟩), S tag] w (FieldPostA tag s a t b w) := by
  have hbw : b < w.heap.size := cell_lt h.c0
  have H57 : Hid (∀ W, Calls Tryd.prog 57 #[S tag] W fun e w' => e = .returned (.bool false) ∧ W = w') := fun W => by rw [← hc]; exact control_57 tag W
  have hF : fieldA tag s a t = (takeA indicB s t a).bind fun c => (takeA indicB s t (a + 1)).bind fun d => (subsA (t + 1) s t (a + 2) []).bind fun r => (endA s t r.2).bind fun _ => .ok ⟨tag, [c, d], [], r.1⟩ := by unfold fieldA; rw [if_neg (by rw [hc]; simp)]
  have HI := Lib.hid (FwAt.init b w tag hbw)
  have HT := Lib.hid hT
  have H59 : Hid (∀ W k, RdAt W b s k t → Calls Tryd.prog 68 #[.pointer (some ⟨b, 0, none⟩), .func (.func 59) #[] #[]] W (TakePost indicB b s k t W)) := fun W k hr => take_59 b s k t W hr ht hts hl
  have H69 : Hid (∀ W k, RdAt W b s k t → Calls Tryd.prog 68 #[.pointer (some ⟨b, 0, none⟩), .func (.func 69) #[] #[]] W (TakePost delimB b s k t W)) := fun W k hr => take_69 b s k t W hr ht hts hl
  have H62 : Hid (∀ W k, RdAt W b s k t → Calls Tryd.prog 68 #[.pointer (some ⟨b, 0, none⟩), .func (.func 62) #[] #[]] W (TakePost signB b s k t W)) := fun W k hr => take_62 b s k t W hr ht hts hl
  have H66 : Hid (∀ W k, RdAt W b s k t → w.grownBy W (some b) → k ≤ t → Calls Tryd.prog 66 #[.pointer (some ⟨b, 0, none⟩)] W (TextPostA b s k t W)) := fun W k hr hg hk => text_A b s k t W hr (tabs_grown hT hg hb2) hb2 hk ht hts hl
  have H67 : Hid (∀ W k, RdAt W b s k t → Calls Tryd.prog 67 #[.pointer (some ⟨b, 0, none⟩)] W (EndPost b s k t W)) := fun W k hr => end_67 b s k t W hr ht hts hl
  have hbl : ∀ o1 o2, Below w.heap.size w ((w.alloc o1).alloc o2) := fun o1 o2 => ((Below.refl _ w).alloc (Nat.le_refl _) o1).alloc (by simp) o2
  have HR0 : Hid (∀ o1 o2, RdAt ((w.alloc o1).alloc o2) b s a t) := fun o1 o2 => h.below (hbl o1 o2)
  have HBL := Lib.hid hbl
  clear hbl hc hT h
  cases hx : takeA indicB s t a with
  | error j =>
    have HE : Hid (fieldA tag s a t = .error j) := by rw [hF, hx]; rfl
    have H : Hid (∀ W, RdAt W b s a t → Calls Tryd.prog 68 #[.pointer (some ⟨b, 0, none⟩), .func (.func 59) #[] #[]] W (FailAt j b W)) := fun W hW => (H59.out W a hW).mono fun e w' he => by unfold TakePost at he; rw [hx] at he; exact he
    clear H59 H69 H62 H66 H67 hF hx
    go_enter Tryd.func47, Tryd.ntmps47
    go_wp2_with (first
      | (go_at_call 57; ((with_reducible refine Calls.mono (H57.out _) ?_); rintro e w' ⟨rfl, rfl⟩))
      | (go_at_call 68; ((with_reducible refine Calls.mono (H.out _ (HR0.out _ _)) ?_); rintro e w' ⟨rfl, hg⟩)))
    exact ⟨rfl, fieldPostA_err HE.out ⟨rfl, World.grownBy.trans (gb_below (HBL.out _ _) _) hg⟩⟩
  | ok c =>
    have H1 : Hid (∀ W, RdAt W b s a t → Calls Tryd.prog 68 #[.pointer (some ⟨b, 0, none⟩), .func (.func 59) #[] #[]] W (fun e w' => e = .returned (.int .u8 c.toNat) ∧ a < t ∧ RdAt w' b s (a + 1) t ∧ W.grownBy w' (some b))) := fun W hW => (H59.out W a hW).mono fun e w' he => by unfold TakePost at he; rw [hx] at he; exact he
    rw [hx] at hF
    cases hy : takeA indicB s t (a + 1) with
    | error j =>
      have HE : Hid (fieldA tag s a t = .error j) := by rw [hF]; show (takeA indicB s t (a + 1)).bind _ = _; rw [hy]; rfl
      have H : Hid (∀ W, RdAt W b s (a + 1) t → Calls Tryd.prog 68 #[.pointer (some ⟨b, 0, none⟩), .func (.func 59) #[] #[]] W (FailAt j b W)) := fun W hW => (H59.out W (a + 1) hW).mono fun e w' he => by unfold TakePost at he; rw [hy] at he; exact he
      clear H59 H69 H62 H66 H67 hF hx hy
      have tok1 : True := trivial
      go_enter Tryd.func47, Tryd.ntmps47
      go_wp2_with (first
        | (go_at_call 57; ((with_reducible refine Calls.mono (H57.out _) ?_); rintro e w' ⟨rfl, rfl⟩))
        | (go_at_call 68; have _t := tok1; ((with_reducible refine Calls.mono (H1.out _ (HR0.out _ _)) ?_); rintro e w2 ⟨rfl, hlt, hr, hg⟩; have HR1 := Lib.hid hr; clear hr _t tok1))
        | (go_at_call 68; ((with_reducible refine Calls.mono (H.out _ HR1.out) ?_); rintro e w3 ⟨rfl, hg3⟩)))
      exact ⟨rfl, fieldPostA_err HE.out ⟨rfl, World.grownBy.trans (World.grownBy.trans (gb_below (HBL.out _ _) _) hg) hg3⟩⟩
    | ok d =>
      have H2 : Hid (∀ W, RdAt W b s (a + 1) t → Calls Tryd.prog 68 #[.pointer (some ⟨b, 0, none⟩), .func (.func 59) #[] #[]] W (fun e w' => e = .returned (.int .u8 d.toNat) ∧ a + 1 < t ∧ RdAt w' b s (a + 1 + 1) t ∧ W.grownBy w' (some b))) := fun W hW => (H59.out W (a + 1) hW).mono fun e w' he => by unfold TakePost at he; rw [hy] at he; exact he
      have HF : Hid (fieldA tag s a t = (subsA (t + 1) s t (a + 2) []).bind fun r => (endA s t r.2).bind fun _ => .ok ⟨tag, [c, d], [], r.1⟩) := by rw [hF]; show (takeA indicB s t (a + 1)).bind _ = _; rw [hy]; rfl
      clear H59 hF hx hy
      have tok1 : True := trivial
      have kc : ∀ (W : World) (g : Nat), W.cell? ⟨g, 0, none⟩ = some (.int .u8 c.toNat) → W.cell? ⟨g, 1, none⟩ = some (.int .u8 d.toNat) → (convert 40 9 (.slice (some ⟨g, 0, none⟩) 2 2)).run Tryd.prog W = .ok (S [c, d]) W := fun W g h0 h1 => by
        have := conv_two W g _ _ h0 h1
        simpa using this
      go_enter Tryd.func47, Tryd.ntmps47
      go_wp2_with (first
        | (go_at_call 57; ((with_reducible refine Calls.mono (H57.out _) ?_); rintro e w' ⟨rfl, rfl⟩))
        | (go_at_call 68; have _t := tok1; ((with_reducible refine Calls.mono (H1.out _ (HR0.out _ _)) ?_); rintro e w2 ⟨rfl, hlt, hr, hg⟩; have HR1 := Lib.hid hr; have HFW := Lib.hid (HI.out.step hg); clear hr _t tok1))
        | (go_at_call 68; ((with_reducible refine Calls.mono (H2.out _ HR1.out) ?_); rintro e w3 ⟨rfl, hlt2, hr, hg3⟩; have HR2 := Lib.hid hr; have HFW3 := Lib.hid (HFW.out.step hg3); obtain ⟨_, _, _, _, _, ⟨l0, l1, l2, l3, g1, g2, g3⟩, _⟩ := HFW3.out; simp only at l0 l1 l2 l3; clear hr; have hbig3 : w.heap.size + 1 < w3.heap.size := by (have := HFW3.out.big; omega))))
      have HR3 : Hid (∀ o, RdAt ((w3.setCell ⟨w.heap.size + 1, 1, none⟩ (S [c, d])).alloc o) b s (a + 2) t) := fun o => (HR2.out.of (Below.heap_setCell _ _ _ _ (by simp; omega))).below (alloc_below1 _ o)
      have HFW4 : Hid (∀ o, FwAt b w.heap.size w ((w3.setCell ⟨w.heap.size + 1, 1, none⟩ (S [c, d])).alloc o) ⟨tag, [c, d], [], []⟩ (.slice none 0 0)) := fun o => (HFW3.out.setInd [c, d]).alloc o
      clear l0 l1 l2 l3 g1 g2 g3 kc hg hg3
      go_loopw [23] (fun _u wr => ∃ (k fu : Nat) (acc : List SubD) (va : Option Addr) (vc : Nat), a + 2 ≤ k ∧ k ≤ t ∧ t + 1 ≤ fu + k ∧ acc.length ≤ k ∧ Hid (RdAt wr b s k t) ∧ Hid (FwAt b w.heap.size w wr ⟨tag, [c, d], [], acc⟩ (.slice va acc.length vc)) ∧
          Hid (fieldA tag s a t = (subsA fu s t k acc).bind fun r => (endA s t r.2).bind fun _ => .ok ⟨tag, [c, d], [], r.1⟩)) (fun _ wr => t + 1 - rdPos wr b)
      case atStart => exact ⟨a + 2, t + 1, [], none, 0, Nat.le_refl _, by omega, by omega, by simp, HR3.out _, HFW4.out _, HF⟩
      case round =>
        obtain ⟨k, fu, acc, va, vc, hk1, hk2, hfu, hac, HR, HW, HE⟩ := hrel
        obtain ⟨fu, rfl⟩ : ∃ n, fu = n + 1 := ⟨fu - 1, by omega⟩
        obtain ⟨c0, c1, c2, f1⟩ := HR.out
        obtain ⟨_, hold, _, hbig, ⟨z0, z1, z2, z3, y0, y1, y2, y3⟩, ⟨l0, l1, l2, l3, g1, g2, g3⟩, _⟩ := HW.out
        simp only at l0 l1 l2 l3
        obtain ⟨m, hm⟩ : ∃ m, moreB s t k acc = m := ⟨_, rfl⟩
        have HM := Lib.hid hm
        clear hm
        go_wp2_with fail
        go_cut [49] (fun g wx => g = .bool m ∧ ∃ n, wx = wr.drewN n)
        case first =>
          by_cases hacc : acc = []
          · have h1 : ((acc.length : Int) == 0) = true := by simp [hacc]
            have hmt : m = true := by rw [← HM.out]; simp [moreB, hacc]
            have HMT := Lib.hid hmt
            clear hmt hacc
            go_quiet (fail)
            go_wp2_with fail
            go_meet
            exact ⟨by rw [HMT.out], _, rfl⟩
          · have h1 : ((acc.length : Int) == 0) = false := beq_eq_false_iff_ne.2 (by
              have : acc.length ≠ 0 := fun h => hacc (List.eq_nil_of_length_eq_zero h)
              omega)
            have hie : acc.isEmpty = false := by simpa using hacc
            by_cases hlt : k < t
            · have h2 : decide ((k : Int) < t) = true := by simp; omega
              have b1 : (0 : Int) ≤ k := by omega
              have b2 : (k : Int) < s.length := by omega
              obtain ⟨x, hx⟩ : ∃ x, s.getD k 0 = x := ⟨_, rfl⟩
              have hge : s[k] = x := by rw [← hx]; exact ge_getD s k (by omega)
              have hmd : m = decide (x.toNat = 31) := by rw [← HM.out, ← hx]; simp [moreB, hie, hlt, delimB]
              have HMD := Lib.hid hmd
              clear hmd hx hie hacc
              by_cases h31 : x.toNat = 31
              · have h3 : ((x.toNat : Int) == 31) = true := by simp; omega
                have HMT : Hid (m = true) := by rw [HMD.out]; simpa [Hid] using h31
                clear h31
                go_quiet (fail)
                go_wp2_with fail
                go_meet
                exact ⟨by rw [HMT.out], _, rfl⟩
              · have h3 : ((x.toNat : Int) == 31) = false := beq_eq_false_iff_ne.2 (by omega)
                have HMT : Hid (m = false) := by rw [HMD.out]; simpa [Hid] using h31
                clear h31
                go_quiet (fail)
                go_wp2_with fail
                go_meet
                exact ⟨by rw [HMT.out], _, rfl⟩
            · have h2 : decide ((k : Int) < t) = false := by simp; omega
              have hmt : m = false := by rw [← HM.out]; simp [moreB, hie, hlt]
              have HMT := Lib.hid hmt
              clear hmt hie hacc
              go_quiet (fail)
              go_wp2_with fail
              go_meet
              exact ⟨by rw [HMT.out], _, rfl⟩
        case rest =>
          obtain ⟨rfl, nq, rfl⟩ := hcut
          cases m
          · have HE2 : Hid (fieldA tag s a t = (endA s t k).bind fun _ => .ok ⟨tag, [c, d], [], acc⟩) := by
              rw [HE.out, subsA_stop HM.out]; rfl
            cases hy : endA s t k with
            | error j =>
              have HE3 : Hid (fieldA tag s a t = .error j) := by rw [HE2.out, hy]; rfl
              have H7 : Hid (∀ n, Calls Tryd.prog 67 #[.pointer (some ⟨b, 0, none⟩)] (wr.drewN n) (FailAt j b (wr.drewN n))) := fun n => (H67.out _ k (HR.out.drewN n)).mono fun e w' he => by unfold EndPost at he; rw [hy] at he; exact he
              clear hy
              go_wp2_with (go_at_call 67; ((with_reducible refine Calls.mono (H7.out _) ?_); rintro e w5 ⟨rfl, hg5⟩))
              exact ⟨rfl, fieldPostA_err HE3.out ⟨rfl, World.grownBy.trans (gb_drewN HW.out.grown _) hg5⟩⟩
            | ok u =>
              have HE3 : Hid (fieldA tag s a t = .ok ⟨tag, [c, d], [], acc⟩) := by rw [HE2.out, hy]; rfl
              have H7 : Hid (∀ n, Calls Tryd.prog 67 #[.pointer (some ⟨b, 0, none⟩)] (wr.drewN n) (fun e w' => e = .returned (.tuple #[]) ∧ (wr.drewN n).grownBy w' (some b))) := fun n => (H67.out _ k (HR.out.drewN n)).mono fun e w' he => by unfold EndPost at he; rw [hy] at he; exact ⟨he.1, he.2.2⟩
              clear hy z0 z1 z2 z3 y0 y1 y2 y3 l0 l1 l2 l3 g1 g2 g3
              go_wp2_with (go_at_call 67; ((with_reducible refine Calls.mono (H7.out _) ?_); rintro e w5 ⟨rfl, hg5⟩; have HW5 := Lib.hid (HW.out.step (World.grownBy.trans (gb_drewN (gb_refl b wr) _) hg5)); obtain ⟨_, _, _, _, ⟨z0, z1, z2, z3, y0, y1, y2, y3⟩, ⟨l0, l1, l2, l3, g1, g2, g3⟩, _⟩ := HW5.out; simp only at l0 l1 l2 l3))
              refine bodyPost_ret (v := .agg #[S tag, S [c, d], S [], .slice va acc.length vc]) (by rw [results_cell rfl]; go_simp) rfl ?_
              refine fieldPostA_ok HE3.out (gb_far (gb_far (gb_far (gb_far HW5.out.grown _ (Nat.le_refl _) _) _ (Nat.le_refl _) _) _ (Nat.le_refl _) _) _ (Nat.le_refl _) _) (.slice va acc.length vc) rfl ?_
              exact HW5.out.subs _ (fun j hj => by rw [Below.heap_setCell _ _ _ _ (by simp; omega), Below.heap_setCell _ _ _ _ (by simp; omega), Below.heap_setCell _ _ _ _ (by simp; omega), Below.heap_setCell _ _ _ _ (by simp; omega)]) (by simp)
          · have HE2 : Hid (fieldA tag s a t = ((subA s t k).bind fun r => subsA fu s t r.2 (acc ++ [r.1])).bind fun r => (endA s t r.2).bind fun _ => .ok ⟨tag, [c, d], [], r.1⟩) := by
              rw [HE.out, subsA_more HM.out]; rfl
            cases hx : takeA delimB s t k with
            | error j =>
              have HE3 : Hid (fieldA tag s a t = .error j) := by rw [HE2.out]; unfold subA; rw [hx]; rfl
              have H8 : Hid (∀ n, Calls Tryd.prog 68 #[.pointer (some ⟨b, 0, none⟩), .func (.func 69) #[] #[]] (wr.drewN n) (FailAt j b (wr.drewN n))) := fun n => (H69.out _ k (HR.out.drewN n)).mono fun e w' he => by unfold TakePost at he; rw [hx] at he; exact he
              clear hx
              go_wp2_with (go_at_call 68; ((with_reducible refine Calls.mono (H8.out _) ?_); rintro e w5 ⟨rfl, hg5⟩))
              exact ⟨rfl, fieldPostA_err HE3.out ⟨rfl, World.grownBy.trans (gb_drewN HW.out.grown _) hg5⟩⟩
            | ok x =>
              have H8 : Hid (∀ n, Calls Tryd.prog 68 #[.pointer (some ⟨b, 0, none⟩), .func (.func 69) #[] #[]] (wr.drewN n) (fun e w' => e = .returned (.int .u8 x.toNat) ∧ k < t ∧ RdAt w' b s (k + 1) t ∧ (wr.drewN n).grownBy w' (some b))) := fun n => (H69.out _ k (HR.out.drewN n)).mono fun e w' he => by unfold TakePost at he; rw [hx] at he; exact he
              have HE3 : Hid (fieldA tag s a t = (((takeA signB s t (k + 1)).bind fun c => (textA s t (k + 2)).bind fun n => .ok (⟨c, (s.take n).drop (k + 2)⟩, n)).bind fun r => subsA fu s t r.2 (acc ++ [r.1])).bind fun r => (endA s t r.2).bind fun _ => .ok ⟨tag, [c, d], [], r.1⟩) := by rw [HE2.out]; unfold subA; rw [hx]; rfl
              clear hx z0 z1 z2 z3 y0 y1 y2 y3 l0 l1 l2 l3 g1 g2 g3 c0 c1 c2 f1 HE2 HE
              go_wp2_with (go_at_call 68; ((with_reducible refine Calls.mono (H8.out _) ?_); rintro e w5 ⟨rfl, hk5, hr, hg5⟩; have HR5 := Lib.hid hr; have HW5 := Lib.hid (HW.out.step (World.grownBy.trans (gb_drewN (gb_refl b wr) _) hg5)); clear hr hg5))
              have m3 : w5.drew.cell? ⟨w.heap.size + 1, 3, none⟩ = some (.slice va acc.length vc) := HW5.out.loc.c3
              cases hs : takeA signB s t (k + 1) with
              | error j =>
                have HE4 : Hid (fieldA tag s a t = .error j) := by rw [HE3.out, hs]; rfl
                have H9 : Hid (Calls Tryd.prog 68 #[.pointer (some ⟨b, 0, none⟩), .func (.func 62) #[] #[]] w5.drew (FailAt j b w5.drew)) := (H62.out _ (k + 1) HR5.out.drew).mono fun e w' he => by unfold TakePost at he; rw [hs] at he; exact he
                clear hs
                refine wp_region_T (fun w' => w'.cell? ⟨w.heap.size + 1, 3, none⟩ = some (.slice va acc.length vc)) 10 (by kernel_rfl) ?_
                refine anyT_take (i := 0) (v := ?_) rfl (by kernel_rfl) (by kernel_rfl) (by kernel_rfl) (by kernel_rfl) (by decide) (fun _ _ _ h => h) m3 (Or.inl ⟨by rfl, ?_⟩) ?_
                rotate_left
                · intro w' h; go_simp; rfl
                refine anyT_take (i := 1) (v := ?_) rfl (by kernel_rfl) (by kernel_rfl) (by kernel_rfl) (by kernel_rfl) (by decide) (fun _ _ _ h => h) m3 (Or.inl ⟨by rfl, ?_⟩) ?_
                rotate_left
                · intro w' h; go_simp; rfl
                refine anyT_take (i := 2) (v := ?_) rfl (by kernel_rfl) (by kernel_rfl) (by kernel_rfl) (by kernel_rfl) (by decide) (fun _ _ _ h => h) m3 (Or.inl ⟨by rfl, ?_⟩) ?_
                rotate_left
                · intro w' h; go_simp; rfl
                refine anyT_take (i := 4) (v := ?_) rfl (by kernel_rfl) (by kernel_rfl) (by kernel_rfl) (by kernel_rfl) (by decide) (fun _ _ _ h => h) m3 (Or.inl ⟨by rfl, ?_⟩) ?_
                rotate_left
                · intro w' h; go_simp; rfl
                refine anyT_do (i := 3) rfl (by kernel_rfl) rfl (fun K hK => ?_)
                go_simp
                (go_at_call 68; ((with_reducible refine Calls.mono H9.out ?_); rintro e w6 ⟨rfl, hg6⟩))
                exact ⟨rfl, fieldPostA_err HE4.out ⟨rfl, World.grownBy.trans (gb_drew HW5.out.grown) hg6⟩⟩
              | ok y =>
                have H9 : Hid (Calls Tryd.prog 68 #[.pointer (some ⟨b, 0, none⟩), .func (.func 62) #[] #[]] w5.drew (fun e w' => e = .returned (.int .u8 y.toNat) ∧ k + 1 < t ∧ RdAt w' b s (k + 1 + 1) t ∧ w5.drew.grownBy w' (some b))) := (H62.out _ (k + 1) HR5.out.drew).mono fun e w' he => by unfold TakePost at he; rw [hs] at he; exact he
                have HE4 : Hid (fieldA tag s a t = (((textA s t (k + 2)).bind fun n => .ok (⟨y, (s.take n).drop (k + 2)⟩, n)).bind fun r => subsA fu s t r.2 (acc ++ [r.1])).bind fun r => (endA s t r.2).bind fun _ => .ok ⟨tag, [c, d], [], r.1⟩) := by rw [HE3.out, hs]; rfl
                clear hs HE3
                cases hx : textA s t (k + 2) with
                | error j =>
                  have HE5 : Hid (fieldA tag s a t = .error j) := by rw [HE4.out, hx]; rfl
                  have H6 : Hid (∀ W, RdAt W b s (k + 2) t → w.grownBy W (some b) → k + 2 ≤ t → Calls Tryd.prog 66 #[.pointer (some ⟨b, 0, none⟩)] W (FailAt j b W)) := fun W hr hg hk => (H66.out W (k + 2) hr hg hk).mono fun e w' he => by unfold TextPostA at he; rw [hx] at he; exact he
                  clear hx
                  refine wp_region_T (fun w' => w'.cell? ⟨w.heap.size + 1, 3, none⟩ = some (.slice va acc.length vc)) 10 (by kernel_rfl) ?_
                  refine anyT_take (i := 0) (v := ?_) rfl (by kernel_rfl) (by kernel_rfl) (by kernel_rfl) (by kernel_rfl) (by decide) (fun _ _ _ h => h) m3 (Or.inl ⟨by rfl, ?_⟩) ?_
                  rotate_left
                  · intro w' h; go_simp; rfl
                  refine anyT_take (i := 1) (v := ?_) rfl (by kernel_rfl) (by kernel_rfl) (by kernel_rfl) (by kernel_rfl) (by decide) (fun _ _ _ h => h) m3 (Or.inl ⟨by rfl, ?_⟩) ?_
                  rotate_left
                  · intro w' h; go_simp; rfl
                  refine anyT_take (i := 2) (v := ?_) rfl (by kernel_rfl) (by kernel_rfl) (by kernel_rfl) (by kernel_rfl) (by decide) (fun _ _ _ h => h) m3 (Or.inl ⟨by rfl, ?_⟩) ?_
                  rotate_left
                  · intro w' h; go_simp; rfl
                  refine anyT_take (i := 4) (v := ?_) rfl (by kernel_rfl) (by kernel_rfl) (by kernel_rfl) (by kernel_rfl) (by decide) (fun _ _ _ h => h) m3 (Or.inl ⟨by rfl, ?_⟩) ?_
                  rotate_left
                  · intro w' h; go_simp; rfl
                  refine anyT_do (i := 3) rfl (by kernel_rfl) rfl (fun K hK => ?_)
                  go_simp
                  (go_at_call 68; ((with_reducible refine Calls.mono H9.out ?_); rintro e w6 ⟨rfl, hk6, hr, hg6⟩))
                  have HR6 := Lib.hid hr
                  have HW6 := Lib.hid (HW5.out.step (World.grownBy.trans (gb_drew (gb_refl b w5)) hg6))
                  clear hr hg6
                  refine hK _ _ (fun _ => HW6.out.loc.c3) ?_
                  clear hK K
                  refine anyT_do (i := 5) rfl (by kernel_rfl) rfl (fun K hK => ?_)
                  go_simp
                  (go_at_call 66; ((with_reducible refine Calls.mono (H6.out _ HR6.out HW6.out.grown (by omega)) ?_); rintro e w7 ⟨rfl, hg7⟩))
                  exact ⟨rfl, fieldPostA_err HE5.out ⟨rfl, World.grownBy.trans HW6.out.grown hg7⟩⟩
                | ok n =>
                  have HE5 : Hid (fieldA tag s a t = (subsA fu s t n (acc ++ [⟨y, (s.take n).drop (k + 2)⟩])).bind fun r => (endA s t r.2).bind fun _ => .ok ⟨tag, [c, d], [], r.1⟩) := by rw [HE4.out, hx]; rfl
                  have H6 : Hid (∀ W, RdAt W b s (k + 2) t → w.grownBy W (some b) → k + 2 ≤ t → Calls Tryd.prog 66 #[.pointer (some ⟨b, 0, none⟩)] W (fun e w' => e = .returned (S ((s.take n).drop (k + 2))) ∧ k + 2 ≤ n ∧ n ≤ t ∧ RdAt w' b s n t ∧ W.grownBy w' (some b))) := fun W hr hg hk => (H66.out W (k + 2) hr hg hk).mono fun e w' he => by unfold TextPostA at he; rw [hx] at he; exact he
                  clear hx HE4
                  generalize (s.take n).drop (k + 2) = tx at *
                  obtain ⟨i0, hi, hz0, hz1, hz2⟩ := info_parts i59
                  have HII := Lib.hid hi
                  have HI0 := Lib.hid hz0
                  have HI1 := Lib.hid hz1
                  have HI2 := Lib.hid hz2
                  clear hi hz0 hz1 hz2
                  refine wp_region_T (fun w' => w'.cell? ⟨w.heap.size + 1, 3, none⟩ = some (.slice va acc.length vc)) 10 (by kernel_rfl) ?_
                  refine anyT_take (i := 0) (v := ?_) rfl (by kernel_rfl) (by kernel_rfl) (by kernel_rfl) (by kernel_rfl) (by decide) (fun _ _ _ h => h) m3 (Or.inl ⟨by rfl, ?_⟩) ?_
                  rotate_left
                  · intro w' h; go_simp; rfl
                  refine anyT_take (i := 1) (v := ?_) rfl (by kernel_rfl) (by kernel_rfl) (by kernel_rfl) (by kernel_rfl) (by decide) (fun _ _ _ h => h) m3 (Or.inl ⟨by rfl, ?_⟩) ?_
                  rotate_left
                  · intro w' h; go_simp; rfl
                  refine anyT_take (i := 2) (v := ?_) rfl (by kernel_rfl) (by kernel_rfl) (by kernel_rfl) (by kernel_rfl) (by decide) (fun _ _ _ h => h) m3 (Or.inl ⟨by rfl, ?_⟩) ?_
                  rotate_left
                  · intro w' h; go_simp; rfl
                  refine anyT_take (i := 4) (v := ?_) rfl (by kernel_rfl) (by kernel_rfl) (by kernel_rfl) (by kernel_rfl) (by decide) (fun _ _ _ h => h) m3 (Or.inl ⟨by rfl, ?_⟩) ?_
                  rotate_left
                  · intro w' h; go_simp; rfl
                  refine anyT_do (i := 3) rfl (by kernel_rfl) rfl (fun K hK => ?_)
                  go_simp
                  (go_at_call 68; ((with_reducible refine Calls.mono H9.out ?_); rintro e w6 ⟨rfl, hk6, hr, hg6⟩))
                  have HR6 := Lib.hid hr
                  have HW6 := Lib.hid (HW5.out.step (World.grownBy.trans (gb_drew (gb_refl b w5)) hg6))
                  clear hr hg6
                  refine hK _ _ (fun _ => HW6.out.loc.c3) ?_
                  clear hK K
                  refine anyT_do (i := 5) rfl (by kernel_rfl) rfl (fun K hK => ?_)
                  go_simp
                  (go_at_call 66; ((with_reducible refine Calls.mono (H6.out _ HR6.out HW6.out.grown (by omega)) ?_); rintro e w7 ⟨rfl, hn1, hn2, hr, hg7⟩))
                  have HR7 := Lib.hid hr
                  have HW7 := Lib.hid (HW6.out.step hg7)
                  have hb7 := HW7.out.big
                  clear hr hg7
                  refine hK _ _ (fun _ => HW7.out.loc.c3) ?_
                  clear hK K
                  refine anyT_do (i := 6) rfl (by kernel_rfl) rfl (fun K hK => ?_)
                  go_simp
                  refine hK _ _ (fun _ => HW7.out.loc.c3) ?_
                  clear hK K
                  refine anyT_do (i := 7) rfl (by kernel_rfl) rfl (fun K hK => ?_)
                  go_simp
                  refine hK _ _ (fun _ => (HW7.out.alloc _).loc.c3) ?_
                  clear hK K
                  refine anyT_do (i := 8) rfl (by kernel_rfl) rfl (fun K hK => ?_)
                  refine wp_append_lies _ _ _ 55 rfl (w.heap.size + 2) 59 i0 (.agg #[.int .u8 0, .string ⟨#[]⟩]) 2 24 Tryd.underlying55 HII.out HI0.out HI1.out HI2.out rfl (by omega) (.slice va acc.length vc) acc.length _ (by rfl) (HW7.out.own.alloc _) ⟨w7.heap.size, 0, none⟩ 1 1 [.int .u8 y.toNat, S tx] (by rfl) rfl (cell_two_new _ _ _ _) (by simp [Value.oneCell']) (by omega) (by unfold maxLen; omega) (by omega) (by simp; omega) _ rfl ?_
                  intro g cap w8 hown8 hgw _ hlt8
                  have HO8 := Lib.hid hown8
                  have HG8 := Lib.hid hgw
                  obtain ⟨e3, ef3, hz8, hb8⟩ := HW7.out.far _ _ hgw
                  have HB8 := Lib.hid hb8
                  clear hown8 hgw hb8
                  refine hK _ _ (fun _ => e3) ?_
                  clear hK K
                  refine anyT_do (i := 9) rfl (by kernel_rfl) rfl (fun K hK => ?_)
                  go_simp
                  refine hK _ _ (fun _ => e3) ?_
                  clear hK K
                  refine anyT_do (i := 10) rfl (by kernel_rfl) rfl (fun K hK => ?_)
                  go_simp
                  refine hK _ _ (fun h => absurd rfl h) ?_
                  clear hK K
                  refine anyT_done (by kernel_rfl) ?_ _
                  go_wp2_with fail
                  go_roundw
                  case rel =>
                    exact ⟨n, fu, acc ++ [⟨y, tx⟩], some ⟨g, 0, none⟩, cap, by omega, hn2, by omega, by simp; omega, (HR7.out.of HB8.out).of (Below.heap_setCell _ _ _ _ (by simp; omega)), by have := (HW7.out.alloc _).app ⟨y, tx⟩ HO8.out HG8.out; simpa [Hid] using this, HE5⟩
                  case measure =>
                    rw [((HR7.out.of HB8.out).of (Below.heap_setCell _ _ _ _ (by simp; omega))).pos, HR.out.pos]; omega
theorem field_47 (tag s : Bs) (a t b : Nat) (w : World) (h : RdAt w b s a t) (hT : Tabs w) (hb2 : 2 ≤ b) (ha : a ≤ t) (ht : 1 ≤ t) (hts : t ≤ s.length) (hl : t ≤ 1000000000) :
    Calls Tryd.prog 47 #[.pointer (some ⟨b, 0, none⟩), S tag] w (FieldPostA tag s a t b w) := by
  cases hc : ctrlB tag
  · exact field_47_data tag s a t b w hc h hT hb2 ht hts hl
  · exact field_47_ctrl tag s a t b w hc h hT hb2 ha ht hts hl
end Go.Proofs.YtfkleeigdplapaaDoor
