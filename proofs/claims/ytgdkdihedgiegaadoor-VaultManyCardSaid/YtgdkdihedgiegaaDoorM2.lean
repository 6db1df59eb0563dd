/-
  The walk of VaultMany.
-/
import Derived.Test.YtgdkdihedgiegaaDoorM1
namespace Go.Proofs.YtgdkdihedgiegaaDoor
open Go.RowKit

theorem nums_nil2 (w : World) : NumsAt w (.slice none 0 0) [] := ⟨none, 0, rfl, fun h => absurd rfl h⟩
theorem tail_nil (w : World) : TailAt w (.slice none 0 0) [] := ⟨none, 0, rfl, fun h => absurd rfl h⟩
theorem pushM {lo X : Nat} {w0 w : World} {F : Nat → Prop} {g b : Nat} {sn : Bs} {tl : List Bs} {c : Bs} {l : Int} {sx : Bs} {av y : Value} {tx : List Bs} {r : Bs} (h : LR lo X w0 w F g b sn tl c l sx av tx) (hf : From w y 1 [S r]) (hl : tx.length ≤ 1000000) :
    ∃ a cap w', (Builtin.append_ #[27, 27] 27 #[av, y]).run Tryd.prog w = .ok (.slice a (tx.length + 1) cap) w' ∧ LR lo X w0 (w'.setCell ⟨X, 1, none⟩ (.slice a (tx.length + 1) cap)) F g b sn tl c l sx (.slice a (tx.length + 1) cap) (tx ++ [r]) ∧ w'.cell? ⟨X, 1, none⟩ = some av ∧ w'.frozen? ⟨X, 1, none⟩ = false := by
  obtain ⟨v', w', hr, h2, h3⟩ := run_strs w lo av tx [r] h.row y hf h.sz (by simp; omega)
  obtain ⟨a, cap, rfl⟩ := row_shape h2
  have hb := (h3.grown.block X (blk_lt h.x) (fun e => h.rn X e.symm (.inr rfl))).trans h.x
  have hp := h.push h2 h3
  have hl2 : (tx ++ [r]).length = tx.length + 1 := by simp
  rw [hl2] at hr hp
  exact ⟨a, cap, w', hr, hp, Lib.cell_of_heap hb 1, Lib.frozen_of_heap hb 1⟩
set_option maxHeartbeats 4000000 in
set_option maxRecDepth 100000 in
theorem many_8 (n : Int) (hn : 0 ≤ n ∧ n < 256) (text : Bs) (often : Int) (hof : 0 ≤ often ∧ often < 256) (w : World) :
    Calls Tryd.prog 8 #[.int .u8 n, S text, .int .u8 often] w fun e w' => e = .returned (.bool true) ∧ Below w.heap.size w w' := by
  obtain ⟨q, hq⟩ : ∃ q, q = min text.length 30 := ⟨_, rfl⟩
  have hmn : min (text.length : Int) 30 = (q : Int) := by omega
  have hq1 : q ≤ text.length := by omega
  have HQ : Hid ((text.take q).length ≤ 30) := by show _ ≤ _; rw [List.length_take]; omega
  obtain ⟨o, ho⟩ : ∃ o : Nat, (o : Int) = often % 100 := ⟨(often % 100).toNat, by omega⟩
  have ho1 : often % 100 = (o : Int) := ho.symm
  have ho2 : often.tmod 100 = (o : Int) := by rw [Int.tmod_eq_emod_of_nonneg hof.1]; exact ho.symm
  have ho3 : o < 100 := by omega
  obtain ⟨N, hN⟩ : ∃ N : Nat, (N : Int) = n % 60 := ⟨(n % 60).toNat, by omega⟩
  have hN1 : n % 60 = (N : Int) := hN.symm
  have hN2 : n.tmod 60 = (N : Int) := by rw [Int.tmod_eq_emod_of_nonneg hn.1]; exact hN.symm
  have hN3 : N < 60 := by omega
  clear hq ho hN
  go_enter Tryd.func8, Tryd.ntmps8
  go_wp2_with fail
  ((with_reducible refine Calls.mono (sanity_11 w) ?_); rintro e w1 ⟨rfl, hb1⟩)
  have HB1 := Lib.hid hb1
  clear hb1
  go_wp2_with fail
  generalize text.take q = s at *
  clear hmn hq1
  have hs30 := HQ.out
  go_loopw [8, 29] (fun t i wr => ∃ j : Nat, t = S (timesR j s) ∧ i = .int .u8 j ∧ j ≤ o ∧ wr = w1) (fun _ i _ => o - (intOf i).toNat)
  case atStart => exact ⟨0, rfl, rfl, Nat.zero_le _, rfl⟩
  case round =>
    obtain ⟨j, rfl, rfl, hj, rfl⟩ := hrel
    by_cases hlt : j < o
    · have HT := Lib.hid (times_succ j s)
      have hl := times_len j s
      have hl2 : j * s.length ≤ 100 * 30 := Nat.mul_le_mul (by omega) hs30
      have s1 : ¬ 9223372036854775807 < (timesR j s).length + s.length := by omega
      clear hl hl2
      go_wp2_with fail
      go_roundw
      case rel => exact ⟨j + 1, by rw [HT.out], by go_num, hlt, trivial⟩
      case measure => simp [intOf]; omega
    · obtain rfl : j = o := by omega
      have hl := times_len j s
      have hl2 : j * s.length ≤ 100 * 30 := Nat.mul_le_mul (by omega) hs30
      have HSN : Hid ((timesR j s).length ≤ 3000) := by show _ ≤ _; omega
      clear hl hl2 ho1 ho2
      generalize timesR j s = sn at *
      have HF0 : Hid ((imageR sn []).length ≤ 20000) := many_fit sn s HSN.out hs30 0 (by omega)
      go_wp2_with fail
      ((with_reducible refine Calls.mono (new_L w.heap.size wr HB1.out.size) ?_); rintro e w2 ⟨rfl, hd2, hb2⟩)
      have HD2 := Lib.hid hd2
      have HB2 := Lib.hid (HB1.out.trans hb2)
      clear hd2 hb2
      go_wp2_with fail
      generalize wr.heap.size = b at *
      ((with_reducible refine Calls.mono (open_L w.heap.size w2 b [] [] 0 HD2.out) ?_); rintro e w3 ⟨g, ta, cap, rfl, hv3, _, hb3, _⟩)
      have HV3 := Lib.hid hv3
      have HB3 := Lib.hid (HB2.out.trans hb3)
      clear hv3 hb3 HD2
      go_wp2_with fail
      ((with_reducible refine Calls.mono (replace_L w.heap.size w3 g b [] [] 0 HV3.out sn (.slice none 0 0) [] (tail_nil _) HF0.out) ?_); rintro e w4 ⟨rfl, hv4, hb4⟩)
      have HB4 := Lib.hid (HB3.out.trans hb4)
      obtain ⟨F, c, hvs, hlo, hz⟩ := hv4.ex
      have HS := Lib.hid (LR.start hvs hlo HB4.out hz sn)
      clear hv4 hb4 hvs hlo hz HV3 HB3
      go_wp2_with fail
      generalize hX : w4.heap.size = X at *
      clear hX
      generalize w4.alloc (.cells #[S sn, .slice none 0 0] 32) = w5 at *
      go_loopw [60] (fun i wr => ∃ (k : Nat) (F : Nat → Prop) (c : Bs) (a : Option Addr) (cap : Nat), i = .int .i64 k ∧ k ≤ N ∧ Hid (LR w.heap.size X w wr F g b sn (recsM s k) c 0 sn (.slice a k cap) (recsM s k))) (fun i _ => N - (intOf i).toNat)
      case atStart => exact ⟨0, F, c, none, 0, rfl, Nat.zero_le _, HS.out⟩
      case round =>
        clear HS HB1 HB2 HB4
        obtain ⟨k, F, c, a, cap, rfl, hk, HL⟩ := hrel
        by_cases hlt : k < N
        · have hw8 : IntKind.u8.wrap (k : Int) = k := by rw [IntKind.wrap_u8]; omega
          have s1 : ¬ 9223372036854775807 < s.length + 1 := by omega
          have ha := alloc_below wr (.cells #[.int .u8 k] 5)
          have HL6 := Lib.hid (HL.out.below ha)
          have HFIT := Lib.hid (many_fit sn s HSN.out hs30 (k + 1) (by omega))
          rw [recsM_succ] at HFIT
          clear ha
          go_wp2_with fail
          ((with_reducible refine Calls.mono (append_S F _ g b sn (recsM s k) c 0 HL6.out.vs (s ++ [UInt8.ofNat k]) HFIT.out) ?_); rintro e w7 ⟨rfl, F7, c7, hv7, hs7⟩)
          have HL7 := Lib.hid (HL6.out.turn hv7 hs7)
          clear hv7 hs7
          obtain ⟨r, hr⟩ : ∃ r, r = s ++ [UInt8.ofNat k] := ⟨_, rfl⟩
          have HRR := Lib.hid (recsM_succ s k)
          rw [← hr] at HRR HL7 ⊢
          have ha := alloc_below w7 (.cells #[S r] 9)
          have HL8 := Lib.hid (HL7.out.below ha)
          have HF8 := Lib.hid (from_new w7 (S r) 9)
          obtain ⟨x0, x1, _, _⟩ := HL7.out.cells
          have hal : ∀ o, (w7.alloc o).cell? ⟨X, 1, none⟩ = some (.slice a k cap) := fun o => by rw [alloc_old _ _ _ _ (blk_lt HL7.out.x)]; exact x1
          have hkl : (recsM s k).length = k := recsM_len s k
          have HKL := Lib.hid hkl
          have hk60 : k ≤ 60 := by omega
          clear ha hr hkl
          obtain ⟨a9, cap9, w9, hr9, hl9, q1, g1⟩ := pushM HL8.out HF8.out (by have := HKL.out; omega)
          rw [HKL.out] at hr9 hl9
          have HR9 := Lib.hid hr9
          rw [← HRR.out] at hl9
          have HL9 := Lib.hid hl9
          clear hr9 hl9
          go_wp2_with (at_builtin; refine wpList_run rfl _ _ 27 27 27 rfl rfl (.slice a k cap) (.slice (some ⟨w7.heap.size, 0, none⟩) 1 1) _ w9 rfl rfl HR9.out ?_)
          go_roundw
          case rel => exact ⟨k + 1, F7, c7, a9, cap9, by go_num, hlt, HL9.out⟩
          case measure => simp [intOf]; omega
        · obtain rfl : k = N := by omega
          have HFT : Hid ((imageR sn (recsM s k)).length ≤ 20000) := many_fit sn s HSN.out hs30 k (by omega)
          have hkl : (recsM s k).length = k := recsM_len s k
          have HKL := Lib.hid hkl
          clear hkl
          go_wp2_with fail
          ((with_reducible refine Calls.mono (crash_28 F wr b (onD c 0) HL.out.vs.ds.disk [] (.slice none 0 0) (nums_nil2 _) (by simp) (Nat.le_trans HL.out.vs.ds.cl (by omega)) (fun p hp => by simp [onD] at hp) (by simp [onD])) ?_); rintro e w6 ⟨rfl, F6, hd6, hb6, hf6⟩)
          rw [crash_on] at hd6
          have HDS6 : Hid (DS F6 w6 wr.heap.size sn (recsM s k) c 0) := ⟨hd6, HL.out.vs.ds.clean, HL.out.vs.ds.fit, HL.out.vs.ds.cl, by omega, by omega⟩
          have HB6 := Lib.hid hb6
          have HF6 := Lib.hid hf6
          clear hd6 hb6 hf6
          go_wp2_with fail
          ((with_reducible refine Calls.mono (open_S F6 w6 wr.heap.size sn (recsM s k) c 0 HDS6.out) ?_); rintro e w7 ⟨F7, g7, v7, c7, rfl, hv7, hsl7, hs7, _⟩)
          obtain ⟨a7, n7, rfl, _⟩ := id hsl7
          have HT7 : Hid (TailAt w7 (.slice a7 (recsM s k).length n7) (recsM s k)) := hsl7.mono (Nat.zero_le _) (Nat.le_refl _)
          have HB7 := Lib.hid (HB6.out.trans (hs7.below HF6.out HB6.out.size).1)
          have HL7 := Lib.hid (HL.out.below HB7.out)
          obtain ⟨T, hT⟩ : ∃ T, T = trimR (cleanR sn (recsM s k)) := ⟨_, rfl⟩
          have HSA : Hid (∀ W : World, Below w7.heap.size w7 W → Calls Tryd.prog 29 #[.agg #[S sn, .slice a7 k n7], .agg #[S sn, .slice a k cap]] W fun e' w' => e' = .returned (.bool true) ∧ Below W.heap.size W w') := fun W hb => by
            have h1 := HT7.out.below hb
            have h2 := same_29 W sn (recsM s k) _ _ h1 (HL7.out.below hb).tail (by rw [HKL.out]; omega)
            rw [HKL.out] at h2
            exact h2
          have HCO : Hid (∀ W : World, Below w7.heap.size w7 W → Calls Tryd.prog 18 #[.pointer (some ⟨b, 0, none⟩)] W fun e' w' => e' = .returned (S T) ∧ Below W.heap.size W w') := fun W hb => by
            rw [hT]; exact contents_S F W b sn (recsM s k) c 0 (HL7.out.below hb).vs.ds
          have HCL : Hid (∀ W : World, Below w7.heap.size w7 W → Calls Tryd.prog 19 #[.agg #[S sn, .slice a k cap]] W fun e' w' => e' = .returned (S T) ∧ Below W.heap.size W w') := fun W hb => by
            rw [hT]; exact clean_19 sn _ (recsM s k) W (HL7.out.below hb).tail (by have := HFT.out; omega)
          have HAL : Hid (∀ W, Below w7.heap.size w7 W → W.cell? ⟨X, 0, none⟩ = some (S sn) ∧ W.cell? ⟨X, 1, none⟩ = some (.slice a k cap)) := fun W hb => by
            obtain ⟨z0, z1, _⟩ := (HL7.out.below hb).cells
            exact ⟨z0, z1⟩
          obtain ⟨x0, x1, _, _⟩ := HL7.out.cells
          have HB0 : Hid (Below w7.heap.size w7 w7.drew) := (Below.refl _ w7).drew
          rw [HKL.out]
          clear hT hv7 hsl7 hs7
          go_wp2_with fail
          obtain ⟨v0, hv0⟩ : ∃ v0, w7.drew = v0 := ⟨_, rfl⟩
          have HV0 : Hid (Below w7.heap.size w7 v0) := by rw [← hv0]; exact (Below.refl _ w7).drew
          have hs0 := HAL.out _ HV0.out
          clear x0 x1 HB0
          refine wp_region_T (fun W => W.cell? ⟨X, 0, none⟩ = some (S sn) ∧ W.cell? ⟨X, 1, none⟩ = some (.slice a k cap)) 23 (by kernel_rfl) ?_
          rw [hv0]
          clear hv0
          refine anyT_take (i := 0) (v := ?_) rfl (by kernel_rfl) (by kernel_rfl) (by kernel_rfl) (by kernel_rfl) (by decide) (fun _ _ _ h => h) hs0 (Or.inl ⟨by rfl, ?_⟩) ?_
          rotate_left
          · intro w' h; obtain ⟨h0, h1⟩ := h; go_simp; rfl
          (try go_simp)
          refine anyT_take (i := 1) (v := ?_) rfl (by kernel_rfl) (by kernel_rfl) (by kernel_rfl) (by kernel_rfl) (by decide) (fun _ _ _ h => h) hs0 (Or.inl ⟨by rfl, ?_⟩) ?_
          rotate_left
          · intro w' h; obtain ⟨h0, h1⟩ := h; go_simp; rfl
          (try go_simp)
          refine anyT_take (i := 2) (v := ?_) rfl (by kernel_rfl) (by kernel_rfl) (by kernel_rfl) (by kernel_rfl) (by decide) (fun _ _ _ h => h) hs0 (Or.inl ⟨by rfl, ?_⟩) ?_
          rotate_left
          · intro w' h; obtain ⟨h0, h1⟩ := h; go_simp; rfl
          (try go_simp)
          refine anyT_take (i := 3) (v := ?_) rfl (by kernel_rfl) (by kernel_rfl) (by kernel_rfl) (by kernel_rfl) (by decide) (fun _ _ _ h => h) hs0 (Or.inl ⟨by rfl, ?_⟩) ?_
          rotate_left
          · intro w' h; obtain ⟨h0, h1⟩ := h; go_simp; rfl
          (try go_simp)
          refine anyT_take (i := 4) (v := ?_) rfl (by kernel_rfl) (by kernel_rfl) (by kernel_rfl) (by kernel_rfl) (by decide) (fun _ _ _ h => h) hs0 (Or.inl ⟨by rfl, ?_⟩) ?_
          rotate_left
          · intro w' h; obtain ⟨h0, h1⟩ := h; go_simp; rfl
          (try go_simp)
          refine anyT_take (i := 5) (v := ?_) rfl (by kernel_rfl) (by kernel_rfl) (by kernel_rfl) (by kernel_rfl) (by decide) (fun _ _ _ h => h) hs0 (Or.inl ⟨by rfl, ?_⟩) ?_
          rotate_left
          · intro w' h; obtain ⟨h0, h1⟩ := h; go_simp; rfl
          (try go_simp)
          refine anyT_take (i := 6) (v := ?_) rfl (by kernel_rfl) (by kernel_rfl) (by kernel_rfl) (by kernel_rfl) (by decide) (fun _ _ _ h => h) hs0 (Or.inl ⟨by rfl, ?_⟩) ?_
          rotate_left
          · intro w' h; obtain ⟨h0, h1⟩ := h; go_simp; rfl
          (try go_simp)
          refine anyT_take (i := 7) (v := ?_) rfl (by kernel_rfl) (by kernel_rfl) (by kernel_rfl) (by kernel_rfl) (by decide) (fun _ _ _ h => h) hs0 (Or.inl ⟨by rfl, ?_⟩) ?_
          rotate_left
          · intro w' h; obtain ⟨h0, h1⟩ := h; go_simp; rfl
          (try go_simp)
          refine anyT_take (i := 8) (v := ?_) rfl (by kernel_rfl) (by kernel_rfl) (by kernel_rfl) (by kernel_rfl) (by decide) (fun _ _ _ h => h) hs0 (Or.inl ⟨by rfl, ?_⟩) ?_
          rotate_left
          · intro w' h; obtain ⟨h0, h1⟩ := h; go_simp; rfl
          (try go_simp)
          refine anyT_take (i := 9) (v := ?_) rfl (by kernel_rfl) (by kernel_rfl) (by kernel_rfl) (by kernel_rfl) (by decide) (fun _ _ _ h => h) hs0 (Or.inl ⟨by rfl, ?_⟩) ?_
          rotate_left
          · intro w' h; obtain ⟨h0, h1⟩ := h; go_simp; rfl
          (try go_simp)
          refine anyT_take (i := 10) (v := ?_) rfl (by kernel_rfl) (by kernel_rfl) (by kernel_rfl) (by kernel_rfl) (by decide) (fun _ _ _ h => h) hs0 (Or.inl ⟨by rfl, ?_⟩) ?_
          rotate_left
          · intro w' h; obtain ⟨h0, h1⟩ := h; go_simp; rfl
          (try go_simp)
          refine anyT_take (i := 11) (v := ?_) rfl (by kernel_rfl) (by kernel_rfl) (by kernel_rfl) (by kernel_rfl) (by decide) (fun _ _ _ h => h) hs0 (Or.inl ⟨by rfl, ?_⟩) ?_
          rotate_left
          · intro w' h; obtain ⟨h0, h1⟩ := h; go_simp; rfl
          (try go_simp)
          refine anyT_take (i := 12) (v := ?_) rfl (by kernel_rfl) (by kernel_rfl) (by kernel_rfl) (by kernel_rfl) (by decide) (fun _ _ _ h => h) hs0 (Or.inl ⟨by rfl, ?_⟩) ?_
          rotate_left
          · intro w' h; obtain ⟨h0, h1⟩ := h; go_simp; rfl
          (try go_simp)
          refine anyT_take (i := 13) (v := ?_) rfl (by kernel_rfl) (by kernel_rfl) (by kernel_rfl) (by kernel_rfl) (by decide) (fun _ _ _ h => h) hs0 (Or.inl ⟨by rfl, ?_⟩) ?_
          rotate_left
          · intro w' h; obtain ⟨h0, h1⟩ := h; go_simp; rfl
          (try go_simp)
          refine anyT_doG (i := 14) rfl (by kernel_rfl) (by rfl) (fun K hK => ?_)
          go_simp
          (go_at_call 29; ((with_reducible refine Calls.mono (HSA.out _ HV0.out) ?_); rintro e u1 ⟨rfl, hb1⟩))
          have HU1 := Lib.hid (btr HV0.out hb1 HV0.out.size)
          have hs1 := HAL.out _ HU1.out
          clear hb1
          refine hK _ _ (fun _ => hs1) ?_
          clear hK K
          (try go_simp)
          refine anyT_take (i := 15) (v := ?_) rfl (by kernel_rfl) (by kernel_rfl) (by kernel_rfl) (by kernel_rfl) (by decide) (fun _ _ _ h => h) hs1 (Or.inl ⟨by rfl, ?_⟩) ?_
          rotate_left
          · intro w' h; obtain ⟨h0, h1⟩ := h; go_simp; rfl
          (try go_simp)
          refine anyT_take (i := 16) (v := ?_) rfl (by kernel_rfl) (by kernel_rfl) (by kernel_rfl) (by kernel_rfl) (by decide) (fun _ _ _ h => h) hs1 (Or.inl ⟨by rfl, ?_⟩) ?_
          rotate_left
          · intro w' h; obtain ⟨h0, h1⟩ := h; go_simp; rfl
          (try go_simp)
          refine anyT_take (i := 17) (v := ?_) rfl (by kernel_rfl) (by kernel_rfl) (by kernel_rfl) (by kernel_rfl) (by decide) (fun _ _ _ h => h) hs1 (Or.inl ⟨by rfl, ?_⟩) ?_
          rotate_left
          · intro w' h; obtain ⟨h0, h1⟩ := h; go_simp; rfl
          (try go_simp)
          refine anyT_take (i := 19) (v := ?_) rfl (by kernel_rfl) (by kernel_rfl) (by kernel_rfl) (by kernel_rfl) (by decide) (fun _ _ _ h => h) hs1 (Or.inl ⟨by rfl, ?_⟩) ?_
          rotate_left
          · intro w' h; obtain ⟨h0, h1⟩ := h; go_simp; rfl
          (try go_simp)
          refine anyT_doG (i := 18) rfl (by kernel_rfl) (by rfl) (fun K hK => ?_)
          go_simp
          (go_at_call 18; ((with_reducible refine Calls.mono (HCO.out _ HU1.out) ?_); rintro e u2 ⟨rfl, hb2⟩))
          have HU2 := Lib.hid (btr HU1.out hb2 HU1.out.size)
          have hs2 := HAL.out _ HU2.out
          clear hb2
          refine hK _ _ (fun _ => hs2) ?_
          clear hK K
          (try go_simp)
          refine anyT_doG (i := 20) rfl (by kernel_rfl) (by rfl) (fun K hK => ?_)
          go_simp
          (go_at_call 19; ((with_reducible refine Calls.mono (HCL.out _ HU2.out) ?_); rintro e u3 ⟨rfl, hb3⟩))
          have HU3 := Lib.hid (btr HU2.out hb3 HU2.out.size)
          have hs3 := HAL.out _ HU3.out
          clear hb3
          refine hK _ _ (fun _ => hs3) ?_
          clear hK K
          (try go_simp)
          refine anyT_take (i := 21) (v := ?_) rfl (by kernel_rfl) (by kernel_rfl) (by kernel_rfl) (by kernel_rfl) (by decide) (fun _ _ _ h => h) hs3 (Or.inl ⟨by rfl, ?_⟩) ?_
          rotate_left
          · intro w' h; obtain ⟨h0, h1⟩ := h; go_simp; rfl
          (try go_simp)
          refine anyT_take (i := 22) (v := ?_) rfl (by kernel_rfl) (by kernel_rfl) (by kernel_rfl) (by kernel_rfl) (by decide) (fun _ _ _ h => h) hs3 (Or.inl ⟨by rfl, ?_⟩) ?_
          rotate_left
          · intro w' h; obtain ⟨h0, h1⟩ := h; go_simp; rfl
          (try go_simp)
          refine anyT_do (i := 23) rfl (by kernel_rfl) rfl (fun K hK => ?_)
          go_simp
          refine hK _ _ (fun h => absurd rfl h) ?_
          clear hK K
          refine anyT_done (by kernel_rfl) ?_ _
          go_wp2_with fail
          go_ret
          exact ⟨rfl, btr HL7.out.bl HU3.out HL7.out.sz⟩
end Go.Proofs.YtgdkdihedgiegaaDoor
