/-
  The walk of Replace.
-/
import Derived.Test.YtgdkdihedgiegaaDoorV9
namespace Go.Proofs.YtgdkdihedgiegaaDoor
open Go.RowKit

/-- Where Replace lays its copy. -/
def kR (e n : Nat) : Nat := let k := max (64 + n) e + 1; k + (64 - k % 64) % 64
theorem kR_eq (e n : Nat) : kR e n = (max (64 + n) e + 1) + (64 - (max (64 + n) e + 1) % 64) % 64 := rfl
/-- What Replace writes. -/
def repR (e : Nat) (x : Bs) : List (Nat × Bs) := [(kR e x.length, x), (0, headerR (kR e x.length))] ++ finishR (kR e x.length) (kR e x.length + x.length) x
theorem image_ne (sn : Bs) (tl : List Bs) : imageR sn tl ≠ [] := by
  intro h
  have h1 : (numR sn.length ++ sn ++ tl.flatMap frameR).length = 0 := by
    have h2 := image_take sn tl tl.length
    rw [List.take_length, h] at h2
    simpa using h2
  have h3 : numR sn.length ≠ [] := by unfold numR; split <;> simp
  simp at h1
  exact h3 h1.1
set_option maxHeartbeats 1000000 in
theorem replace_broken (w : World) (bv b : Nat) (e m : Int) (h : VaultAt w bv b e m true) (sn : Bs) (tv : Value) :
    Calls Tryd.prog 22 #[.pointer (some ⟨bv, 0, none⟩), S sn, tv] w fun x w' => x = .returned (.int .i64 70) ∧ w' = w := by
  have HR := Lib.hid (ready_44 w bv b e m true h)
  clear h
  go_enter Tryd.func22, Tryd.ntmps22
  go_wp2_with (go_at_call 44; ((with_reducible refine Calls.mono HR.out ?_); rintro x w1 ⟨rfl, rfl⟩))
  go_ret
  exact ⟨rfl, rfl⟩
theorem finish_i (F : Nat → Prop) (w : World) (bv k size : Nat) (y z : Int) (hy : y = k) (hz : z = size) (x : Bs) (hF : ∀ k, F k → k < w.heap.size) (hk : 64 + x.length ≤ k) (hks : k ≤ size) (hsz : size ≤ 100000000) :
    Calls Tryd.prog 38 #[.pointer (some ⟨bv, 0, none⟩), .int .i64 y, .int .i64 z, S x] w fun e w' => ∃ v, e = .returned v ∧ StepsAt F w' bv v (finishR k size x) ∧ Below w.heap.size w w' := by
  rw [hy, hz]; exact finish_38 F w bv k size x hF hk hks hsz
set_option maxHeartbeats 4000000 in
set_option maxRecDepth 100000 in
theorem replace_22 (F : Nat → Prop) (w : World) (bv b e m : Nat) (D : DiskD) (h : VD F w bv b e m false D) (hok : OkD D) (hpc : D.pcs.length ≤ 1000000) (sn : Bs) (tv : Value) (tl : List Bs) (ht : TailAt w tv tl) (hx1 : (imageR sn tl).length ≤ 1000000) (he : e ≤ 1000000) :
    Calls Tryd.prog 22 #[.pointer (some ⟨bv, 0, none⟩), S sn, tv] w (NotePost F bv b e m (64 + (imageR sn tl).length) tl.length (runD D (repR e (imageR sn tl))) w) := by
  have HR := Lib.hid (ready_44 w bv b e m false h.vault)
  have HIM := Lib.hid (image_46 sn tv tl w ht (by omega))
  obtain ⟨a, cap, hav⟩ : ∃ a cap, tv = .slice a tl.length cap := by
    obtain ⟨a, cap, hx, _⟩ := ht
    exact ⟨a, cap, hx⟩
  have hne := Lib.hid (image_ne sn tl)
  obtain ⟨x, hx⟩ : ∃ x, x = imageR sn tl := ⟨_, rfl⟩
  rw [← hx] at HIM hne hx1 ⊢
  obtain ⟨M, hM⟩ : ∃ M, M = max (64 + x.length) e := ⟨_, rfl⟩
  obtain ⟨r, hr⟩ : ∃ r, r = (M + 1) % 64 := ⟨_, rfl⟩
  obtain ⟨q, hq⟩ : ∃ q, q = (64 - r) % 64 := ⟨_, rfl⟩
  have hkR : kR e x.length = M + 1 + q := by rw [kR_eq, ← hM, ← hr, ← hq]
  have hq64 : q < 64 := by omega
  have e1 : max ((64 : Int) + (x.length : Int)) (e : Int) = (M : Int) := by omega
  have e2 : ((M : Int) + 1).tmod 64 = r := by rw [Int.tmod_eq_emod_of_nonneg (by omega)]; omega
  have e3 : ((64 : Int) - (r : Int)).tmod 64 = q := by rw [Int.tmod_eq_emod_of_nonneg (by omega)]; omega
  have e4 : ((M : Int) + 1) % 64 = r := by omega
  have e5 : (-(r : Int)) % 64 = q := by omega
  obtain ⟨K, hK⟩ : ∃ K, K = M + 1 + q := ⟨_, rfl⟩
  have e6 : (M : Int) + 1 + (q : Int) = (K : Int) := by omega
  rw [← hK] at hkR
  have hKb : K ≤ 2000100 := by omega
  have hKn : x.length + 64 ≤ K := by omega
  have hMb : M ≤ 2000000 := by omega
  have hnk : x.length + 64 ≤ M := by omega
  have hd0 : decide ((16777216 : Int) < (K : Int) + (x.length : Int)) = false := by simp; omega
  have H := Lib.hid h
  have HOK := Lib.hid hok
  have c1 : w.cell? ⟨bv, 1, none⟩ = some (.int .i64 e) := h.cell1
  have hrb : r < 64 := by omega
  have HK := Lib.hid hkR
  clear h hok hx hr hq hM ht hK hkR hMb hnk
  subst hav
  go_enter Tryd.func22, Tryd.ntmps22
  go_wp2_with (first
    | (go_at_call 44; ((with_reducible refine Calls.mono HR.out ?_); rintro x w1 ⟨rfl, hw⟩; have hw := hw.symm; subst hw)))
  go_at_call 46
  (with_reducible refine Calls.mono HIM.out ?_); rintro x2 w1 ⟨rfl, hb1⟩
  have HB1 := Lib.hid hb1; have HV1 := Lib.hid (H.out.below hb1); have c2 := HV1.out.cell1; clear hb1
  go_wp2_with fail
  ((with_reducible refine Calls.mono (write_39 F _ bv _ _ HV1.out.lt) ?_); rintro x3 w2 ⟨p1, rfl, hs1, hB2⟩)
  have HB2 := Lib.hid (btr HB1.out hB2 HB1.out.size)
  have HV2 := Lib.hid (HV1.out.below hB2)
  have HS1 := Lib.hid hs1
  clear hB2 hs1
  go_wp2_with fail
  ((with_reducible refine Calls.mono (header_47 _ K (by omega)) ?_); rintro x4 w3 ⟨rfl, hB3⟩)
  have HB3 := Lib.hid (btr HB2.out hB3 HB2.out.size)
  have HV3 := Lib.hid (HV2.out.below hB3)
  have HS1a := Lib.hid (HS1.out.below hB3)
  clear hB3
  go_wp2_with fail
  ((with_reducible refine Calls.mono (write_39 F _ bv _ _ HV3.out.lt) ?_); rintro x5 w4 ⟨p2, rfl, hs2, hB4⟩)
  have HB4 := Lib.hid (btr HB3.out hB4 HB3.out.size)
  have HV4 := Lib.hid (HV3.out.below hB4)
  have HS1b := Lib.hid (HS1a.out.below hB4)
  have HS2 := Lib.hid hs2
  clear hB4 hs2
  go_wp2_with fail
  have ha := alloc_below w4 (.cells #[stepV p1, stepV p2] 72)
  have HST : Hid (StepsAt F (w4.alloc (.cells #[stepV p1, stepV p2] 72)) bv (.slice (some ⟨w4.heap.size, 0, none⟩) 2 2) [(K, x), (0, headerR K)]) := by
    refine ⟨[((K, x), stepV p1), ((0, headerR K), stepV p2)], rfl, World.ownsRow_lit w4 #[stepV p1, stepV p2] 2 (Nat.zero_le _) (by unfold maxLen; omega) rfl, ?_, ?_⟩
    · intro q hq
      simp only [List.mem_cons, List.not_mem_nil, or_false] at hq
      rcases hq with rfl | rfl
      · exact ⟨rfl, HS1b.out.below ha⟩
      · exact ⟨rfl, HS2.out.below ha⟩
    · intro j hj hf
      injection hj with hj
      have h1 := HV4.out.lt j hf
      have h2 : w4.heap.size = j := hj
      omega
  have HB5 := Lib.hid (btr HB4.out ha HB4.out.size)
  have HV5 := Lib.hid (HV4.out.below ha)
  generalize w4.alloc (.cells #[stepV p1, stepV p2] 72) = w5 at *
  generalize w4.heap.size = g1 at *
  clear ha HB4 HV4 HS1b HS2 HB3 HV3 HS1a HB2 HV2 HS1
  ((with_reducible refine Calls.mono (finish_i F _ bv K (K + x.length) _ _ rfl (by omega) x HV5.out.lt (by omega) (by omega) (by omega)) ?_); rintro x5 w6 ⟨v2, rfl, hs2, hB6⟩)
  obtain ⟨a2, cap2, rfl⟩ := hs2.shape
  have HS1 := Lib.hid (HST.out.keep (Step.of_below hB6))
  have HS2 := Lib.hid hs2
  have HB6 := Lib.hid (btr HB5.out hB6 HB5.out.size)
  have HV6 := Lib.hid (HV5.out.below hB6)
  clear hB6 hs2 HB5 HV5 HST
  go_wp2_with fail
  have ha := alloc_below w6 (.cells #[.slice (some ⟨g1, 0, none⟩) 2 2, .slice a2 (finishR K (K + x.length) x).length cap2] 78)
  have kb : (w6.alloc (.cells #[.slice (some ⟨g1, 0, none⟩) 2 2, .slice a2 (finishR K (K + x.length) x).length cap2] 78)).heap[w6.heap.size]? = some (.cells #[.slice (some ⟨g1, 0, none⟩) 2 2, .slice a2 (finishR K (K + x.length) x).length cap2] 78 (0, 0)) := World.alloc_heap_new _ _
  have HB7 := Lib.hid (btr HB6.out ha HB6.out.size)
  have HV7 := Lib.hid (HV6.out.below ha)
  have HS1c := Lib.hid (HS1.out.keep (Step.of_below ha))
  have HS2c := Lib.hid (HS2.out.keep (Step.of_below ha))
  generalize w6.alloc (.cells #[.slice (some ⟨g1, 0, none⟩) 2 2, .slice a2 (finishR K (K + x.length) x).length cap2] 78) = w7 at *
  generalize w6.heap.size = g2 at *
  have hf3 : (finishR K (K + x.length) x).length = 3 := rfl
  clear ha HB6 HV6 HS1 HS2
  ((with_reducible refine Calls.mono (concat_48 F _ bv g2 _ _ _ _ HS1c.out HS2c.out HV7.out.lt kb (by simp) (by simp [hf3])) ?_); rintro x5 w8 ⟨v3, rfl, hs3, hB8⟩)
  have HRP : [(K, x), (0, headerR K)] ++ finishR K (K + x.length) x = repR e x := by unfold repR; rw [HK.out]
  rw [HRP] at hs3
  have hrl : (repR e x).length = 5 := rfl
  have hrs : ∀ q ∈ repR e x, q.1 + q.2.length ≤ 16777216 := by
    intro q hq
    rw [← HRP] at hq
    simp only [finishR, List.mem_append, List.mem_cons, List.not_mem_nil, or_false] at hq
    rcases hq with (rfl | rfl) | rfl | rfl | rfl
    · show K + x.length ≤ _; omega
    · show 0 + (headerR K).length ≤ _; have h9 : (headerR K).length = 9 := rfl; omega
    · show 64 + (x ++ zerosR (K - 64 - x.length)).length ≤ _; rw [List.length_append, zeros_len]; omega
    · show 0 + (zerosR 9).length ≤ _; rw [zeros_len]; omega
    · show K + (zerosR (K + x.length - K)).length ≤ _; rw [zeros_len]; omega
  obtain ⟨R, hR⟩ : ∃ R, R = repR e x := ⟨_, rfl⟩
  rw [← hR] at hs3 hrs hrl ⊢
  have HRe := Lib.hid hR
  have HRS := Lib.hid hrs
  have HS3 := Lib.hid hs3
  have HB8 := Lib.hid (btr HB7.out hB8 HB7.out.size)
  have HV8 := Lib.hid (HV7.out.below hB8)
  clear hs3 hrs hB8 HRP HB7 HV7 HS1c HS2c kb hR hf3
  go_wp2_with fail
  ((with_reducible refine Calls.mono (do_41 F _ bv b e m false D HV8.out HOK.out hpc _ _ HS3.out (by omega) HRS.out) ?_); rintro x6 w9 ⟨rfl, F9, hv9, hs9⟩)
  have HSS : Hid (Step (With F bv) w (With F9 bv) w9) := ((Step.of_below HB8.out).trans hs9)
  have HV9 := Lib.hid hv9
  clear hs9 hv9 HB8 HV8 HS3 hrl HRS
  rcases run_err D R with hE | hE
  · have hp : runD D R = ((runD D R).1, 0) := by rw [← hE]
    generalize (runD D R).1 = D6 at *
    rw [hp] at HV9
    have HP := Lib.hid hp
    clear hp
    rw [hE]
    clear hE
    go_wp2_with fail
    ((with_reducible refine Calls.mono (note_42 _ bv b e m false HV9.out.vault x (by omega) _ _ _) ?_); rintro x7 w10 ⟨rfl, hva, hon⟩)
    go_wp2_with fail
    go_ret
    rw [← HRe.out, HP.out]
    refine ⟨rfl, F9, ?_, HSS.out.trans (Step.only_more hon)⟩
    have hv := HV9.out.only hon hva
    rw [if_neg hne.out] at hv
    exact hv
  · have hp : runD D R = ((runD D R).1, 70) := by rw [← hE]
    generalize (runD D R).1 = D6 at *
    rw [hp] at HV9
    have HP := Lib.hid hp
    clear hp
    rw [hE]
    clear hE
    go_wp2_with fail
    go_ret
    rw [← HRe.out, HP.out]
    exact ⟨rfl, F9, HV9.out, HSS.out⟩
end Go.Proofs.YtgdkdihedgiegaaDoor
