/-
  The walks of the reference's Trim and Image, and of contents.
-/
import Derived.Test.YtgdkdihedgiegaaDoorV12
namespace Go.Proofs.YtgdkdihedgiegaaDoor
open Go.RowKit

theorem trim_take (s : Bs) (m : Nat) (h0 : m < s.length) : ((s[m]'h0) = 0 → trimR (s.take (m + 1)) = trimR (s.take m)) ∧ ((s[m]'h0) ≠ 0 → trimR (s.take (m + 1)) = s.take (m + 1)) := by
  have h1 := List.take_succ_eq_append_getElem h0
  constructor
  · intro hb
    rw [h1, hb]
    exact trim_zeros (s.take m) 1
  · intro hb
    rw [h1]
    unfold trimR
    rw [List.reverse_append, List.reverse_singleton, List.singleton_append, List.dropWhile_cons_of_neg (by simpa using hb)]
    simp
set_option maxHeartbeats 1000000 in
set_option maxRecDepth 100000 in
theorem trim_43 (s : Bs) (w : World) (hs : s.length ≤ 100000000) : Calls Tryd.prog 43 #[S s] w fun e w' => e = .returned (S (trimR s)) ∧ w' = w := by
  go_enter Tryd.func43, Tryd.ntmps43
  go_wp2_with fail
  go_loop [3] (fun x => ∃ m : Nat, x = .int .i64 m ∧ m ≤ s.length ∧ Hid (trimR s = trimR (s.take m))) (fun x => (intOf x).toNat)
  case atStart => exact ⟨s.length, rfl, Nat.le_refl _, by show _ = _; rw [List.take_length]⟩
  case round =>
    obtain ⟨m, rfl, hm, HM⟩ := hrel
    cases m with
    | zero =>
      have HX : Hid (trimR s = []) := by show _ = _; rw [HM.out]; rfl
      go_wp2_with fail
      go_ret
      rw [HX.out]
      exact ⟨rfl, rfl⟩
    | succ m =>
      have HT := Lib.hid (trim_take s m hm)
      have e1 : ((m + 1 : Nat) : Int) = (m : Int) + 1 := by omega
      go_wp2_with fail
      · have hb : (((s[m]'hm).toNat : Int) == 0) = true := by assumption
        have HX := Lib.hid (HM.out.trans (HT.out.1 (u8_zero.1 hb)))
        go_round
        case rel => exact ⟨m, by go_num, by omega, HX⟩
        case measure => simp [intOf]
      · have hb : (((s[m]'hm).toNat : Int) == 0) = false := by assumption
        have HX := HM.out.trans (HT.out.2 (fun e => by rw [u8_zero.2 e] at hb; cases hb))
        go_ret
        rw [HX]
        exact ⟨rfl, rfl⟩
set_option maxHeartbeats 1000000 in
theorem contents_18 (F : Nat → Prop) (w : World) (b : Nat) (D : DiskD) (h : DiskAt F w b D) (hn : D.now.length ≤ 20000000) :
    Calls Tryd.prog 18 #[.pointer (some ⟨b, 0, none⟩)] w fun e w' => e = .returned (S (trimR D.now)) ∧ Below w.heap.size w w' := by
  have HS := Lib.hid (size_34 F w b D h)
  have HR := Lib.hid (read_33 F w b D h hn)
  have HT := Lib.hid (fun W => trim_43 D.now W (by omega))
  clear h
  go_enter Tryd.func18, Tryd.ntmps18
  go_wp2_with fail
  ((with_reducible refine Calls.mono HS.out ?_); rintro x w1 ⟨rfl, hw⟩; have hw := hw.symm; subst hw)
  go_wp2_with fail
  ((with_reducible refine Calls.mono HR.out ?_); rintro x w2 ⟨rfl, hb⟩)
  have HB := Lib.hid hb
  clear hb
  go_wp2_with fail
  ((with_reducible refine Calls.mono (HT.out _) ?_); rintro x w3 ⟨rfl, hw⟩; have hw := hw.symm; subst hw)
  go_wp2_with fail
  go_ret
  exact ⟨rfl, HB.out⟩
set_option maxHeartbeats 4000000 in
set_option maxRecDepth 100000 in
theorem image_25 (sn : Bs) (tv : Value) (tl : List Bs) (w : World) (ht : TailAt w tv tl) (hl : (imageR sn tl).length ≤ 20000000) :
    Calls Tryd.prog 25 #[S sn, tv] w fun e w' => e = .returned (S (imageR sn tl)) ∧ Below w.heap.size w w' := by
  have HT := Lib.hid ht
  have h0 := image_take sn tl 0
  have hsn : sn.length ≤ 20000000 := by simp at h0; omega
  have htl : tl.length ≤ 20000000 := by have := frames_len tl; unfold imageR at hl; simp only [List.length_append] at hl; omega
  have HN := Lib.hid (fun W => number_51 sn.length (by omega) W)
  have e1 : IntKind.u64.wrap (sn.length : Int) = sn.length := IntWalk.u64_in _ (by omega)
  have hnl := numR_len_le sn.length 9 (by omega)
  have HL := Lib.hid hl
  obtain ⟨ta, tcap, rfl, _⟩ := ht
  obtain ⟨L, hL⟩ : ∃ L, L = numR sn.length := ⟨_, rfl⟩
  rw [← hL] at HN hnl
  have HLL := Lib.hid hL
  have s1 : ¬ 9223372036854775807 < L.length + sn.length := by omega
  clear hL hl h0
  go_enter Tryd.func25, Tryd.ntmps25
  go_wp2_with fail
  ((with_reducible refine Calls.mono (HN.out _) ?_); rintro e w1 ⟨rfl, hb1⟩)
  have HB1 := Lib.hid hb1
  clear hb1
  go_wp2_with fail
  go_loopw [5, 6] (fun v i wr => ∃ (k : Nat) (acc : Bs), v = S acc ∧ i = .int .i64 k ∧ k ≤ tl.length ∧ Hid (acc = L ++ sn ++ (tl.take k).flatMap frameR) ∧ Below w.heap.size w wr) (fun _ i _ => tl.length - (intOf i).toNat)
  case atStart => exact ⟨0, L ++ sn, rfl, rfl, Nat.zero_le _, (by show _ = _; simp), HB1.out⟩
  case round =>
    obtain ⟨k, acc, rfl, rfl, hk, HA, hb⟩ := hrel
    have hacc : acc.length ≤ 20000000 := by
      have h1 := image_take sn tl k
      rw [← HLL.out, ← HA.out] at h1
      have := HL.out
      omega
    have HBW := Lib.hid hb
    by_cases hlt : k < tl.length
    · obtain ⟨bb, off, cap, hv, hbb, hc⟩ := TailAt.cell HT.out k hlt
      injection hv with h1 h2 h3
      subst h1 h3
      have hc2 : wr.cell? ⟨bb, off + k, none⟩ = some (S tl[k]) := by rw [hb.cell (p := ⟨bb, off + k, none⟩) hbb]; exact hc
      have hsnoc := flat_snoc tl k hlt
      have hfr : (acc ++ frameR tl[k]).length ≤ 20000000 := by
        have h1 := image_take sn tl (k + 1)
        rw [hsnoc, ← HLL.out, ← List.append_assoc, ← HA.out] at h1
        have := HL.out
        omega
      have HS := Lib.hid hsnoc
      obtain ⟨r, hr⟩ : ∃ r, r = tl[k] := ⟨_, rfl⟩
      rw [← hr] at hc2 hfr HS
      have hrl : r.length ≤ 20000000 := by simp [frameR] at hfr; omega
      obtain ⟨N, hN⟩ : ∃ N, N = numR r.length := ⟨_, rfl⟩
      have hfN : frameR r = 1 :: (N ++ r) := by rw [hN]; rfl
      have HNR : Hid (∀ W, Calls Tryd.prog 51 #[.int .u64 r.length] W fun e w' => e = .returned (S N) ∧ Below W.heap.size W w') := by rw [hN]; exact fun W => number_51 r.length (by omega) W
      have hnN : N.length ≤ 10 := by rw [hN]; exact numR_len_le r.length 9 (by omega)
      have e2 : IntKind.u64.wrap (r.length : Int) = r.length := IntWalk.u64_in _ (by omega)
      clear hr hc hsnoc hN hfr
      rw [hfN] at HS
      clear hfN
      have s2 : ¬ 9223372036854775807 < acc.length + 1 := by omega
      have s3 : ¬ 9223372036854775807 < acc.length + 1 + N.length := by omega
      have s4 : ¬ 9223372036854775807 < acc.length + 1 + N.length + r.length := by omega
      have s5 : ¬ 9223372036854775807 < acc.length + (N.length + 1) + r.length := by omega
      go_wp2_with fail
      obtain ⟨W1, hW1⟩ : ∃ W1, wr.drew = W1 := ⟨_, rfl⟩
      have hcW : W1.cell? ⟨bb, off + k, none⟩ = some (S r) := by rw [← hW1]; exact hc2
      have HBd : Hid (Below w.heap.size w W1) := by rw [← hW1]; exact hb.drew
      refine wp_region_T (fun w' => w'.cell? ⟨bb, off + k, none⟩ = some (S r)) 15 (by kernel_rfl) ?_
      rw [hW1]
      clear hW1
      refine anyT_take (i := 0) (v := ?_) rfl (by kernel_rfl) (by kernel_rfl) (by kernel_rfl) (by kernel_rfl) (by decide) (fun _ _ _ h => h) hcW (Or.inl ⟨by rfl, ?_⟩) ?_
      rotate_left
      · intro w' h; go_simp; (first | rfl | rw [if_neg (by omega)])
      refine anyT_take (i := 1) (v := ?_) rfl (by kernel_rfl) (by kernel_rfl) (by kernel_rfl) (by kernel_rfl) (by decide) (fun _ _ _ h => h) hcW (Or.inl ⟨by rfl, ?_⟩) ?_
      rotate_left
      · intro w' h; go_simp; (first | rfl | rw [if_neg (by omega)])
      refine anyT_take (i := 2) (v := ?_) rfl (by kernel_rfl) (by kernel_rfl) (by kernel_rfl) (by kernel_rfl) (by decide) (fun _ _ _ h => h) hcW (Or.inl ⟨by rfl, ?_⟩) ?_
      rotate_left
      · intro w' h; go_simp; (first | rfl | rw [if_neg (by omega)])
      refine anyT_take (i := 3) (v := ?_) rfl (by kernel_rfl) (by kernel_rfl) (by kernel_rfl) (by kernel_rfl) (by decide) (fun _ _ _ h => h) hcW (Or.inl ⟨by rfl, ?_⟩) ?_
      rotate_left
      · intro w' h; go_simp; (first | rfl | rw [if_neg (by omega)])
      refine anyT_take (i := 4) (v := ?_) rfl (by kernel_rfl) (by kernel_rfl) (by kernel_rfl) (by kernel_rfl) (by decide) (fun _ _ _ h => h) hcW (Or.inl ⟨by rfl, ?_⟩) ?_
      rotate_left
      · intro w' h; go_simp; (first | rfl | rw [if_neg (by omega)])
      refine anyT_take (i := 5) (v := ?_) rfl (by kernel_rfl) (by kernel_rfl) (by kernel_rfl) (by kernel_rfl) (by decide) (fun _ _ _ h => h) hcW (Or.inl ⟨by rfl, ?_⟩) ?_
      rotate_left
      · intro w' h; go_simp; (first | rfl | rw [if_neg (by omega)])
      refine anyT_take (i := 6) (v := ?_) rfl (by kernel_rfl) (by kernel_rfl) (by kernel_rfl) (by kernel_rfl) (by decide) (fun _ _ _ h => h) hcW (Or.inl ⟨by rfl, ?_⟩) ?_
      rotate_left
      · intro w' h; go_simp; (first | rfl | rw [if_neg (by omega)])
      refine anyT_take (i := 7) (v := ?_) rfl (by kernel_rfl) (by kernel_rfl) (by kernel_rfl) (by kernel_rfl) (by decide) (fun _ _ _ h => h) hcW (Or.inl ⟨by rfl, ?_⟩) ?_
      rotate_left
      · intro w' h; go_simp; (first | rfl | rw [if_neg (by omega)])
      refine anyT_take (i := 10) (v := ?_) rfl (by kernel_rfl) (by kernel_rfl) (by kernel_rfl) (by kernel_rfl) (by decide) (fun _ _ _ h => h) hcW (Or.inl ⟨by rfl, ?_⟩) ?_
      rotate_left
      · intro w' h; go_simp; (first | rfl | rw [if_neg (by omega)])
      refine anyT_take (i := 11) (v := ?_) rfl (by kernel_rfl) (by kernel_rfl) (by kernel_rfl) (by kernel_rfl) (by decide) (fun _ _ _ h => h) hcW (Or.inl ⟨by rfl, ?_⟩) ?_
      rotate_left
      · intro w' h; go_simp; (first | rfl | rw [if_neg (by omega)])
      refine anyT_take (i := 12) (v := ?_) rfl (by kernel_rfl) (by kernel_rfl) (by kernel_rfl) (by kernel_rfl) (by decide) (fun _ _ _ h => h) hcW (Or.inl ⟨by rfl, ?_⟩) ?_
      rotate_left
      · intro w' h; go_simp; (first | rfl | rw [if_neg (by omega)])
      refine anyT_take (i := 13) (v := ?_) rfl (by kernel_rfl) (by kernel_rfl) (by kernel_rfl) (by kernel_rfl) (by decide) (fun _ _ _ h => h) hcW (Or.inl ⟨by rfl, ?_⟩) ?_
      rotate_left
      · intro w' h; go_simp; (first | rfl | rw [if_neg (by omega)])
      go_simp
      refine anyT_do (i := 8) rfl (by kernel_rfl) rfl (fun K hK => ?_)
      go_simp
      (go_at_call 51; ((with_reducible refine Calls.mono (HNR.out _) ?_); rintro e w3 ⟨rfl, hb3⟩))
      have HB3 := Lib.hid (btr HBd.out hb3 HBd.out.size)
      have hc3 : w3.cell? ⟨bb, off + k, none⟩ = some (S r) := by rw [hb3.cell (p := ⟨bb, off + k, none⟩) (cell_lt hcW)]; exact hcW
      refine hK _ _ (fun _ => hc3) ?_
      clear hK K hb3
      refine anyT_do (i := 9) rfl (by kernel_rfl) rfl (fun K hK => ?_)
      go_simp
      refine hK _ _ (fun _ => hc3) ?_
      clear hK K
      refine anyT_do (i := 14) rfl (by kernel_rfl) rfl (fun K hK => ?_)
      go_simp
      refine hK _ _ (fun _ => hc3) ?_
      clear hK K
      refine anyT_do (i := 15) rfl (by kernel_rfl) rfl (fun K hK => ?_)
      go_simp
      refine hK _ _ (fun h => absurd rfl h) ?_
      clear hK K
      refine anyT_done (by kernel_rfl) ?_ _
      go_wp2_with fail
      go_roundw
      case rel =>
        refine ⟨k + 1, acc ++ 1 :: (N ++ r), ?_, by go_num, hlt, ?_, HB3.out⟩
        · simp
        · show _ = _
          rw [HS.out, HA.out, List.append_assoc]
      case measure => simp [intOf]; omega
    · obtain rfl : k = tl.length := by omega
      have HX : Hid (imageR sn tl = acc) := by show _ = _; rw [HA.out, HLL.out, List.take_length]; rfl
      go_wp2_with fail
      go_ret
      rw [HX.out]
      exact ⟨rfl, HBW.out⟩
end Go.Proofs.YtgdkdihedgiegaaDoor
