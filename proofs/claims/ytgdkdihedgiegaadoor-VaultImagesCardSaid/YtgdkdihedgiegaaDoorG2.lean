/-
  The law's do on a disk whose power fails; what acts lead to.
-/
import Derived.Test.YtgdkdihedgiegaaDoorG1
namespace Go.Proofs.YtgdkdihedgiegaaDoor
open Go.RowKit

theorem fail_ok (c : Bs) (f : Int) (hf : f = 0 ∨ f = 1) (hcl : c.length ≤ 100000) : OkD (failD c f) :=
  ⟨by show -1 ≤ f; omega, by show f ≤ 1000; omega, fun _ => by show 0 ≤ f; omega, Nat.le_trans hcl (by omega)⟩
/-- The post of an interrupted call. -/
def CutPost (F : Nat → Prop) (g b : Nat) (sn : Bs) (tl : List Bs) (c : Bs) (w : World) (e : Ending) (w' : World) : Prop :=
  e = .returned (.int .i64 70) ∧ ∃ F' D', VD F' w' g b ((64 + (imageR sn tl).length : Nat) : Int) tl.length true D' ∧ Cut1 D' c (64 + (imageR sn tl).length) ∧ Step (With F g) w (With F' g) w'
section
variable (F : Nat → Prop) (w : World) (g b : Nat) (sn : Bs) (tl : List Bs) (c : Bs) (f : Int)
theorem append_F (hf : f = 0 ∨ f = 1) (hv : VD F w g b ((64 + (imageR sn tl).length : Nat) : Int) tl.length false (failD c f)) (hfit : (imageR sn tl).length ≤ 20000) (hcl : c.length ≤ 100000) (r : Bs) (hr : r.length ≤ 96) :
    Calls Tryd.prog 21 #[.pointer (some ⟨g, 0, none⟩), S r] w (CutPost F g b sn tl c w) := by
  have hm : (frameR r).length ≤ 98 := by
    simp only [frameR, List.length_cons, List.length_append]
    rw [numR_small (by omega : r.length < 128)]
    simp; omega
  have ht := tail_len sn tl
  refine (append_21 F w g b (64 + (imageR sn tl).length) tl.length (failD c f) hv (fail_ok c f hf hcl) (by show 0 ≤ _; omega) r (by omega) (by omega) (by omega)).mono ?_
  rintro e w' ⟨rfl, F', hv', hs⟩
  obtain ⟨D', hD, hcut⟩ := run_cut c f hf (64 + (imageR sn tl).length + 1, numR r.length ++ r ++ [0]) [(64 + (imageR sn tl).length, [1])] (64 + (imageR sn tl).length) (by show _ < _ + 1; omega) (by
    simp only [List.length_append]
    rw [numR_small (by omega : r.length < 128)]
    simp only [List.length_singleton]; omega)
  have happ : appR (64 + (imageR sn tl).length) r = (64 + (imageR sn tl).length + 1, numR r.length ++ r ++ [0]) :: [(64 + (imageR sn tl).length, [1])] := rfl
  rw [happ, hD] at hv'
  rw [happ, hD]
  exact ⟨rfl, F', D', hv', hcut, hs⟩
theorem replace_F (hf : f = 0 ∨ f = 1) (hv : VD F w g b ((64 + (imageR sn tl).length : Nat) : Int) tl.length false (failD c f)) (hfit : (imageR sn tl).length ≤ 20000) (hcl : c.length ≤ 100000) (sn' : Bs) (tv : Value) (tl' : List Bs) (ht : TailAt w tv tl') (hx : (imageR sn' tl').length ≤ 20000) :
    Calls Tryd.prog 22 #[.pointer (some ⟨g, 0, none⟩), S sn', tv] w (CutPost F g b sn tl c w) := by
  refine (replace_22 F w g b (64 + (imageR sn tl).length) tl.length (failD c f) hv (fail_ok c f hf hcl) (by show 0 ≤ _; omega) sn' tv tl' ht (by omega) (by omega)).mono ?_
  rintro e w' ⟨rfl, F', hv', hs⟩
  obtain ⟨K, hK⟩ : ∃ K, K = kR (64 + (imageR sn tl).length) (imageR sn' tl').length := ⟨_, rfl⟩
  have hk := kR_eq (64 + (imageR sn tl).length) (imageR sn' tl').length
  rw [← hK] at hk
  obtain ⟨D', hD, hcut⟩ := run_cut c f hf (K, imageR sn' tl') ((0, headerR K) :: finishR K (K + (imageR sn' tl').length) (imageR sn' tl')) (64 + (imageR sn tl).length) (by show _ < K; omega) (by show K + (imageR sn' tl').length ≤ _; omega)
  have hrep : repR (64 + (imageR sn tl).length) (imageR sn' tl') = (K, imageR sn' tl') :: ((0, headerR K) :: finishR K (K + (imageR sn' tl').length) (imageR sn' tl')) := by rw [hK]; rfl
  rw [hrep, hD] at hv'
  rw [hrep, hD]
  exact ⟨rfl, F', D', hv', hcut, hs⟩
set_option maxHeartbeats 1000000 in
set_option maxRecDepth 100000 in
theorem do_F (hf : f = 0 ∨ f = 1) (hv : VD F w g b ((64 + (imageR sn tl).length : Nat) : Int) tl.length false (failD c f)) (hfit : (imageR sn tl).length ≤ 20000) (hcl : c.length ≤ 100000) (k : Nat) (hk : k ≤ 100) (text : Bs) (hx : text.length ≤ 96) (tv : Value) (tail : List Bs) (ht : TailAt w tv tail) (hi : (imageR text tail).length ≤ 20000) :
    Calls Tryd.prog 16 #[.pointer (some ⟨g, 0, none⟩), .agg #[.int .i64 k, S text, tv]] w (CutPost F g b sn tl c w) := by
  obtain ⟨ta, cap, rfl, _⟩ := id ht
  have ha := alloc_below w (.cells #[.int .i64 k, S text, .slice ta tail.length cap] 34)
  have HV := Lib.hid (hv.below ha)
  have HT := Lib.hid (ht.below ha)
  have HA : Hid (Step (With F g) w (With F g) _) := Step.of_below ha
  have HFIT := Lib.hid hfit
  have HCL := Lib.hid hcl
  have HI := Lib.hid hi
  clear hv ht ha hfit hcl hi
  by_cases h2 : k ≤ 2
  · go_enter Tryd.func16, Tryd.ntmps16
    go_wp2_with fail
    ((with_reducible refine Calls.mono (append_F F _ g b sn tl c f hf HV.out HFIT.out HCL.out text hx) ?_); rintro e w1 ⟨rfl, F', D', hv1, hc1, hs1⟩)
    have HV1 := Lib.hid hv1
    have HC1 := Lib.hid hc1
    have HS1 := Lib.hid hs1
    clear hv1 hc1 hs1
    go_wp2_with fail
    go_ret
    exact ⟨rfl, F', D', HV1.out, HC1.out, HA.out.trans HS1.out⟩
  · go_enter Tryd.func16, Tryd.ntmps16
    go_wp2_with fail
    ((with_reducible refine Calls.mono (replace_F F _ g b sn tl c f hf HV.out HFIT.out HCL.out text _ tail HT.out HI.out) ?_); rintro e w1 ⟨rfl, F', D', hv1, hc1, hs1⟩)
    have HV1 := Lib.hid hv1
    have HC1 := Lib.hid hc1
    have HS1 := Lib.hid hs1
    clear hv1 hc1 hs1
    go_wp2_with fail
    go_ret
    exact ⟨rfl, F', D', HV1.out, HC1.out, HA.out.trans HS1.out⟩
end
/-- The state that acts lead to. -/
def stepR (st : Bs × List Bs) (x : ActL) : Bs × List Bs := if modR x.1 6 = 5 then st else actR st.1 st.2 (modR x.1 6) (x.2.1.take 90) (cutsR x.2.2)
def playR (l : List ActL) : Bs × List Bs := l.foldl stepR ([], [])
theorem play_snoc (l : List ActL) (n : Nat) (h : n < l.length) : playR (l.take (n + 1)) = stepR (playR (l.take n)) l[n] := by
  unfold playR; rw [List.take_succ_eq_append_getElem h, List.foldl_append]; rfl
theorem LD.only {lo X : Nat} {w w' : World} {b : Nat} {sn : Bs} {tl : List Bs} {l : Int} (h : LD lo w b sn tl l) (ho : Only X w w') (hX : X < lo) : LD lo w' b sn tl l := by
  obtain ⟨F, c, h1, h2, h3⟩ := h
  exact ⟨F, c, ⟨h1.disk.keep (fun k hk => ho.block k (by have := h2 k hk; omega)) (by rw [ho.size]; exact Nat.le_refl _), h1.clean, h1.fit, h1.cl, h1.lo, h1.hi⟩, h2, by rw [ho.size]; exact h3⟩
end Go.Proofs.YtgdkdihedgiegaaDoor
