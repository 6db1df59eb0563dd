/-
  The examples that every law includes.
-/
import Derived.Test.YtpkacoknpedolaaDoorE2
namespace Go.Proofs.YtpkacoknpedolaaDoor
open Go.RowKit

theorem is_true (a : Bs) (i e : Int) (w : World) : Calls Tryd.prog 11 #[S a, .int .i64 i, .int .i64 e, S a, .int .i64 i, .int .i64 e] w fun en w' => en = .returned (.bool true) ∧ w' = w := by
  go_enter Tryd.func11, Tryd.ntmps11
  go_wp2_with fail
  go_ret
  exact ⟨rfl, rfl⟩
/-- What Encode returns where that is certain. -/
def encV (s : Bs) : Option (Bs × Int × Int) := match encGo ⟨s.toArray⟩ s.length 0 ⟨[], 0, []⟩ with
  | .error (k, some e) => some ([], (k : Int), e)
  | .error (_, none) => none
  | .ok es => some (encEnd es, 0, 0)
theorem encV_res {s : Bs} {x y : Bs × Int × Int} (h : EncRes (encGo ⟨s.toArray⟩ s.length 0 ⟨[], 0, []⟩) x) (hy : encV s = some y) : x = y := by
  unfold encV at hy
  split at hy
  · rename_i hg; rw [hg] at h; injection hy with hy; subst hy; exact h
  · cases hy
  · rename_i hg; rw [hg] at h; injection hy with hy; subst hy; exact h
theorem encStep_len {c : Nat} {e e' : ES} (h : encStep c e = some e') : e'.out.length + e'.pend.length ≤ e.out.length + e.pend.length + 5 := by
  have hput : ∀ {c : Nat} {e e' : ES}, putR c e = some e' → e'.out.length + e'.pend.length ≤ e.out.length + e.pend.length + 4 := by
    intro c e e' h
    have hf := fin_len e
    unfold putR at h
    split at h
    · injection h with h; subst h; simp; omega
    · split at h
      · injection h with h; subst h
        unfold toR
        split <;> simp <;> omega
      · cases h
  unfold encStep at h
  split at h
  · split at h
    · rename_i e1 h1
      have := hput h1
      injection h with h; subst h; simp; omega
    · cases h
  · split at h
    · split at h
      · cases h
      · injection h with h; subst h; simp; omega
    · split at h
      · have hf := fin_len e
        injection h with h; subst h; simp; omega
      · have := hput h; omega
theorem encFits_small (s : Bs) (h : s.length ≤ 1000000) : EncFits s := by
  have hz : (⟨s.toArray⟩ : ByteArray).size = s.length := by simp [ByteArray.size]
  refine ⟨fun pos e => e.out.length + e.pend.length ≤ 5 * pos ∧ pos ≤ s.length, by simp, fun pos e h1 => by omega, fun pos e e' hp h1 _ he => ?_⟩
  have := encStep_len he
  obtain ⟨d1, d2, _⟩ := dec_fact ⟨s.toArray⟩ pos hp
  rw [hz] at d2
  refine ⟨?_, d2⟩
  omega
/-- Encode where its result is certain. -/
theorem encode_at (s : Bs) (y : Bs × Int × Int) (hy : encV s = some y) (hl : s.length ≤ 1000000) (w : World) (hT : Tabs w) : Calls Tryd.prog 10 #[S s] w (GuardPost y w) :=
  (encode_10 s w (by omega) hT (encFits_small s hl)).mono fun e w' ⟨x, hx, h⟩ => by rw [encV_res hx hy] at h; exact h
theorem decode_at' (s : Bs) (y : Bs × Int × Int) (hy : decodeR s = y) (hl : s.length ≤ 1000000) (w : World) (hT : Tabs w) : Calls Tryd.prog 9 #[S s] w (GuardPost y w) := by
  subst hy
  exact decode_9 s w (by omega) hT (fits_small s hl)
theorem lit_d1 : decodeR [67, 97, 102, 226, 101] = ([67, 97, 102, 101, 204, 129], 0, 0) := by decide +kernel
theorem lit_e1 : encV [67, 97, 102, 195, 169] = some ([67, 97, 102, 226, 101], 0, 0) := by decide +kernel
theorem lit_d2 : decodeR [27, 40, 83, 97, 98, 27, 40, 66, 120] = ([206, 177, 206, 178, 120], 0, 0) := by decide +kernel
theorem lit_e2 : encV [206, 177, 44, 32, 97] = some ([27, 40, 83, 97, 44, 32, 27, 40, 66, 97], 0, 0) := by decide +kernel
theorem lit_d3 : decodeR [97, 226] = ([], 1, 10) := by decide +kernel
theorem lit_d4 : decodeR [226, 27, 40, 66, 97] = ([], 1, 15) := by decide +kernel
theorem lit_d5 : decodeR [27, 40] = ([], 0, 10) := by decide +kernel
theorem lit_e3 : encV [230, 151, 165] = some ([], 0, 15) := by decide +kernel
set_option maxHeartbeats 4000000 in
set_option maxRecDepth 100000 in
theorem sanity_8 (w : World) (hT : Tabs w) : Calls Tryd.prog 8 #[] w fun e w' => e = .returned (.bool true) ∧ Below w.heap.size w w' := by
  have HT := Lib.hid hT
  have HB0 : Hid (Below w.heap.size w w) := Lib.hid (Below.refl _ _)
  clear hT
  go_enter Tryd.func8, Tryd.ntmps8
  go_wp2_with (first
    | (go_at_call 11; ((with_reducible refine Calls.mono (is_true _ _ _ _) ?_); rintro e w1 ⟨rfl, rfl⟩))
    | (go_at_call 9; ((with_reducible refine Calls.mono (decode_at' _ _ lit_d1 (by decide) _ HT.out) ?_); rintro e w1 ⟨rfl, hb1⟩; have HB1 := Lib.hid hb1; have HT1 := Lib.hid (HT.out.below hb1); clear hb1))
    | (go_at_call 10; ((with_reducible refine Calls.mono (encode_at _ _ lit_e1 (by decide) _ HT1.out) ?_); rintro e w2 ⟨rfl, hb2⟩; have HB2 := Lib.hid (btr HB1.out hb2 HB1.out.size); have HT2 := Lib.hid (HT1.out.below hb2); clear hb2))
    | (go_at_call 9; ((with_reducible refine Calls.mono (decode_at' _ _ lit_d2 (by decide) _ HT2.out) ?_); rintro e w3 ⟨rfl, hb3⟩; have HB3 := Lib.hid (btr HB2.out hb3 HB2.out.size); have HT3 := Lib.hid (HT2.out.below hb3); clear hb3))
    | (go_at_call 10; ((with_reducible refine Calls.mono (encode_at _ _ lit_e2 (by decide) _ HT3.out) ?_); rintro e w4 ⟨rfl, hb4⟩; have HB4 := Lib.hid (btr HB3.out hb4 HB3.out.size); have HT4 := Lib.hid (HT3.out.below hb4); clear hb4))
    | (go_at_call 9; ((with_reducible refine Calls.mono (decode_at' _ _ lit_d3 (by decide) _ HT4.out) ?_); rintro e w5 ⟨rfl, hb5⟩; have HB5 := Lib.hid (btr HB4.out hb5 HB4.out.size); have HT5 := Lib.hid (HT4.out.below hb5); clear hb5))
    | (go_at_call 9; ((with_reducible refine Calls.mono (decode_at' _ _ lit_d4 (by decide) _ HT5.out) ?_); rintro e w6 ⟨rfl, hb6⟩; have HB6 := Lib.hid (btr HB5.out hb6 HB5.out.size); have HT6 := Lib.hid (HT5.out.below hb6); clear hb6))
    | (go_at_call 9; ((with_reducible refine Calls.mono (decode_at' _ _ lit_d5 (by decide) _ HT6.out) ?_); rintro e w7 ⟨rfl, hb7⟩; have HB7 := Lib.hid (btr HB6.out hb7 HB6.out.size); have HT7 := Lib.hid (HT6.out.below hb7); clear hb7))
    | (go_at_call 10; ((with_reducible refine Calls.mono (encode_at _ _ lit_e3 (by decide) _ HT7.out) ?_); rintro e w8 ⟨rfl, hb8⟩; have HB8 := Lib.hid (btr HB7.out hb8 HB7.out.size); clear hb8)))
  go_ret
  exact ⟨rfl, HB8.out⟩
end Go.Proofs.YtpkacoknpedolaaDoor
