/-
  strings.TrimSuffix where the suffix is there; the walk of need.
-/
import Derived.Test.YtpkacoknpedolaaDoorA4
namespace Go.Proofs.YtpkacoknpedolaaDoor
open Go.RowKit Go.Maps

set_option maxHeartbeats 1000000 in
theorem hasSuffix_54 (l p : Bs) (w : World) (hle : p.length ≤ l.length) (hl : l.length ≤ 1000000) (hd : l.drop (l.length - p.length) = p) : Calls Tryd.prog 54 #[S l, S p] w fun e w' => e = .returned (.bool true) ∧ w = w' := by
  have h1 : (p.length : Int) ≤ l.length := by omega
  obtain ⟨m, hm⟩ : ∃ m : Nat, l.length - p.length = m := ⟨_, rfl⟩
  have h2 : (l.length : Int) - p.length = m := by omega
  have h3 : IntKind.i64.wrap ((l.length : Int) - p.length) = m := by rw [h2]; exact IntWalk.i64_in _ (by omega)
  have h4 : m ≤ l.length := by omega
  rw [hm] at hd
  go_enter Tryd.func54, Tryd.ntmps54
  go_wp2_with fail
  go_ret
  exact ⟨by simp , rfl⟩
set_option maxHeartbeats 1000000 in
theorem trimSuffix_42 (m p : Bs) (w : World) (hl : (m ++ p).length ≤ 1000000) : Calls Tryd.prog 42 #[S (m ++ p), S p] w fun e w' => e = .returned (S m) ∧ w = w' := by
  have H54 := Lib.hid (fun W => hasSuffix_54 (m ++ p) p W (by simp) hl (by simp))
  have hlen : (m ++ p).length = m.length + p.length := by simp
  obtain ⟨l, hlm⟩ : ∃ l, m ++ p = l := ⟨_, rfl⟩
  have HT : Hid (l.take m.length = m) := by rw [← hlm]; unfold Hid; simp
  rw [hlm] at H54 hl hlen ⊢
  clear hlm
  have h3 : IntKind.i64.wrap ((l.length : Int) - p.length) = m.length := by rw [IntWalk.i64_in _ (by omega)]; omega
  have h4 : (m.length : Int) ≤ l.length := by omega
  go_enter Tryd.func42, Tryd.ntmps42
  go_wp2_with (first
    | (go_at_call 54; ((with_reducible refine Calls.mono (H54.out _) ?_); rintro e w' ⟨rfl, rfl⟩))
    | go_in)
  go_ret
  exact ⟨by simp [HT.out], rfl⟩
end Go.Proofs.YtpkacoknpedolaaDoor
