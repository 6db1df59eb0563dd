/-
  The walks of the reference's Mod and of the law's do.
-/
import Derived.Test.YtgdkdihedgiegaaDoorV18
namespace Go.Proofs.YtgdkdihedgiegaaDoor
open Go.RowKit

/-- A number modulo another, as the reference takes it. -/
def modR (x : Int) (n : Nat) : Nat := (x % (n : Int)).toNat
theorem modR_lt (x : Int) (n : Nat) (h : 0 < n) : modR x n < n := by
  unfold modR
  have h1 := Int.emod_nonneg x (show (n : Int) ≠ 0 by omega)
  have h2 := Int.emod_lt_of_pos x (show (0 : Int) < n by omega)
  omega
set_option maxHeartbeats 1000000 in
theorem mod_27 (x : Int) (n : Nat) (hn : 0 < n) (hb : n ≤ 1000000000) (w : World) :
    Calls Tryd.prog 27 #[.int .i64 x, .int .i64 n] w fun e w' => e = .returned (.int .i64 (modR x n)) ∧ w' = w := by
  obtain ⟨t, ht⟩ : ∃ t, t = x.tmod n := ⟨_, rfl⟩
  have h1 : t < n ∧ -(n : Int) < t := by
    have a1 := Int.tmod_lt_of_pos x (show (0 : Int) < n by omega)
    have a2 := Int.lt_tmod_of_pos x (show (0 : Int) < n by omega)
    omega
  obtain ⟨r, hr⟩ : ∃ r, r = modR x n := ⟨_, rfl⟩
  have hlt : r < n := by rw [hr]; exact modR_lt x n hn
  have h2 : (t + n).tmod n = (r : Int) := by
    have h3 : (r : Int) = x % n := by
      rw [hr]; unfold modR
      have := Int.emod_nonneg x (show (n : Int) ≠ 0 by omega)
      omega
    rw [Int.tmod_eq_emod_of_nonneg (by omega), h3, ht]
    rw [Int.add_emod_right]
    rw [Int.tmod_def]
    exact Int.sub_mul_emod_self_left x n _
  have h3 : IntKind.i64.wrap (t + n) = t + n := IntWalk.i64_in _ (by omega)
  have h4 : x.tmod n = t := ht.symm
  have h5 : ((n : Int) == 0) = false := by simp; omega
  rw [← hr]
  clear ht hr
  go_enter Tryd.func27, Tryd.ntmps27
  go_wp2_with fail
  go_ret
  exact ⟨rfl, rfl⟩
/-- The state behind an act. -/
def actR (sn : Bs) (tl : List Bs) (k : Nat) (text : Bs) (tail : List Bs) : Bs × List Bs := if k ≤ 2 then (sn, tl ++ [text]) else (text, tail)
set_option maxHeartbeats 1000000 in
set_option maxRecDepth 100000 in
theorem do_L (lo : Nat) (w : World) (g b : Nat) (sn : Bs) (tl : List Bs) (l : Int) (h : LV lo w g b sn tl l) (k : Nat) (hk : k ≤ 100) (text : Bs) (tv : Value) (tail : List Bs) (ht : TailAt w tv tail)
    (hf : (imageR (actR sn tl k text tail).1 (actR sn tl k text tail).2).length ≤ 20000) :
    Calls Tryd.prog 16 #[.pointer (some ⟨g, 0, none⟩), .agg #[.int .i64 k, S text, tv]] w (TurnL lo g b (actR sn tl k text tail).1 (actR sn tl k text tail).2 l w) := by
  obtain ⟨ta, cap, rfl, _⟩ := id ht
  have ha := alloc_below w (.cells #[.int .i64 k, S text, .slice ta tail.length cap] 34)
  have HV := Lib.hid (h.below ha)
  have HT := Lib.hid (ht.below ha)
  have HLO := Lib.hid h.size
  have HA := Lib.hid ha
  by_cases h2 : k ≤ 2
  · have hx : actR sn tl k text tail = (sn, tl ++ [text]) := by unfold actR; rw [if_pos h2]
    rw [hx] at hf ⊢
    have HF := Lib.hid hf
    clear h ht ha hx hf
    go_enter Tryd.func16, Tryd.ntmps16
    go_wp2_with fail
    ((with_reducible refine Calls.mono (append_L lo _ g b sn tl l HV.out text HF.out) ?_); rintro e w1 ⟨rfl, hv1, hb1⟩)
    have HV1 := Lib.hid hv1
    have HB1 := Lib.hid hb1
    clear hv1 hb1
    go_wp2_with fail
    go_ret
    exact ⟨rfl, HV1.out, (HA.out.mono HLO.out).trans HB1.out⟩
  · have hx : actR sn tl k text tail = (text, tail) := by unfold actR; rw [if_neg h2]
    rw [hx] at hf ⊢
    have HF := Lib.hid hf
    clear h ht ha hx hf
    go_enter Tryd.func16, Tryd.ntmps16
    go_wp2_with fail
    ((with_reducible refine Calls.mono (replace_L lo _ g b sn tl l HV.out text _ tail HT.out HF.out) ?_); rintro e w1 ⟨rfl, hv1, hb1⟩)
    have HV1 := Lib.hid hv1
    have HB1 := Lib.hid hb1
    clear hv1 hb1
    go_wp2_with fail
    go_ret
    exact ⟨rfl, HV1.out, (HA.out.mono HLO.out).trans HB1.out⟩
end Go.Proofs.YtgdkdihedgiegaaDoor
