/-
  The walk of Marc8Again.
-/
import Derived.Test.YtpkacoknpedolaaDoorG8
namespace Go.Proofs.YtpkacoknpedolaaDoor
open Go.RowKit

set_option maxHeartbeats 8000000 in
set_option maxRecDepth 100000 in
theorem again_7 (v : Value) (n : Nat) (w : World) (hv : NumsIn w v n) (hn : n ≤ maxLen) (hT : Tabs w) : Calls Tryd.prog 7 #[v] w fun e w' => e = .returned (.bool true) ∧ Below w.heap.size w w' := by
  have HT := Lib.hid hT
  clear hT
  have HV := Lib.hid hv
  have HN := Lib.hid hn
  clear hv hn
  go_enter Tryd.func7, Tryd.ntmps7
  go_wp2_with (first
    | (go_at_call 8; ((with_reducible refine Calls.mono (sanity_8 _ HT.out) ?_); rintro e w1 ⟨rfl, hb1⟩; have HB1 := Lib.hid hb1; have HT1 := Lib.hid (HT.out.below hb1); clear hb1))
    | (go_at_call 12; ((with_reducible refine Calls.mono (bytes_12 v n _ (HV.out.below HB1.out) HN.out) ?_); rintro e w2 ⟨s, rfl, hsl, hb2⟩; have HB2 := Lib.hid (btr HB1.out hb2 HB1.out.size); have HT2 := Lib.hid (HT1.out.below hb2); clear hb2)))
  have HX : Hid (∀ W, Tabs W → Calls Tryd.prog 9 #[S s] W (GuardPost (decodeR s) W)) := Lib.hid (fun W hW => decode_at' s _ rfl (by omega) W hW)
  have HLAW := Lib.hid (again_law s)
  have HLEN := Lib.hid (decodeR_len s)
  obtain ⟨x, hx⟩ : ∃ x, decodeR s = x := ⟨_, rfl⟩
  rw [hx] at HX HLAW HLEN
  clear hx
  obtain ⟨u, i, e⟩ := x
  have hul : u.length ≤ 1000 := by have : u.length ≤ 4 * s.length := HLEN.out; omega
  rcases HLAW.out with ⟨h1, h2⟩ | ⟨h1, t, h2, h3, h4⟩
  · have h1 : e ≠ 0 := h1
    have h2 : u = [] := h2
    subst h2
    have he0 : (e == 0) = false := by simpa using h1
    clear HLAW
    go_wp2_with (go_at_call 9; ((with_reducible refine Calls.mono (HX.out _ HT2.out) ?_); rintro e' w4 ⟨rfl, hb4⟩; have HB4 := Lib.hid (btr HB2.out hb4 HB2.out.size); clear hb4))
    go_ret
    exact ⟨rfl, HB4.out⟩
  · have h1 : e = 0 := h1
    subst h1
    have h2 : encV u = some (t, 0, 0) := h2
    have h3 : decodeR t = (u, 0, 0) := h3
    have h4 : t.length ≤ 5 * u.length + 3 := h4
    have HE : Hid (∀ W, Tabs W → Calls Tryd.prog 10 #[S u] W (GuardPost (t, 0, 0) W)) := Lib.hid (fun W hW => encode_at u _ h2 (by omega) W hW)
    have HD : Hid (∀ W, Tabs W → Calls Tryd.prog 9 #[S t] W (GuardPost (u, 0, 0) W)) := Lib.hid (fun W hW => decode_at' t _ h3 (by omega) W hW)
    clear HLAW h2 h3
    go_wp2_with (first
      | (go_at_call 9; ((with_reducible refine Calls.mono (HX.out _ HT2.out) ?_); rintro e' w4 ⟨rfl, hb4⟩; have HB4 := Lib.hid (btr HB2.out hb4 HB2.out.size); have HT4 := Lib.hid (HT2.out.below hb4); clear hb4 HX))
      | (go_at_call 10; ((with_reducible refine Calls.mono (HE.out _ HT4.out) ?_); rintro e' w5 ⟨rfl, hb5⟩; have HB5 := Lib.hid (btr HB4.out hb5 HB4.out.size); have HT5 := Lib.hid (HT4.out.below hb5); clear hb5 HT4))
      | (go_at_call 9; ((with_reducible refine Calls.mono (HD.out _ HT5.out) ?_); rintro e' w6 ⟨rfl, hb6⟩; have HB6 := Lib.hid (btr HB5.out hb6 HB5.out.size); have HT6 := Lib.hid (HT5.out.below hb6); clear hb6))
      | (go_at_call 10; ((with_reducible refine Calls.mono (HE.out _ HT6.out) ?_); rintro e' w7 ⟨rfl, hb7⟩; have HB7 := Lib.hid (btr HB6.out hb7 HB6.out.size); clear hb7)))
    go_ret
    exact ⟨rfl, HB7.out⟩
end Go.Proofs.YtpkacoknpedolaaDoor
