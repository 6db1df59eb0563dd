/-
  Plain law: contents of a vault's disk with power; what Append, Replace and Open make of clean contents.
  The walks of the reference's Trim and Image, and of contents.
-/
import Derived.Test.YtgdkdihedgiegaaDoorV11
namespace Go.Proofs.YtgdkdihedgiegaaDoor

/-- A disk with power whose writes are all synced. -/
def onD (c : Bs) (l : Int) : DiskD := ⟨c, c, [], false, l⟩
theorem power_on (D : DiskD) (h : D.failing = false) : powerD D = some D := by simp [powerD, h]
theorem sync_on (c : Bs) (l : Int) : syncD (onD c l) = (onD c l, 0) := by
  unfold syncD; rw [power_on _ rfl]; rfl
theorem ws_on (c : Bs) (l : Int) (off : Nat) (s : Bs) : wsD (onD c l) off s = (onD (putR c off s) l, 0) := by
  have hw : writeD (onD c l) off s = (⟨putR c off s, c, chunksR off s, false, l⟩, 0) := by
    unfold writeD; rw [power_on _ rfl]; simp [onD]
  unfold wsD
  rw [hw, if_pos rfl]
  unfold syncD; rw [power_on _ rfl]; rfl
theorem run_on (l : Int) : ∀ (st : List (Nat × Bs)) (c : Bs), runD (onD c l) st = (onD (writesR c st) l, 0)
  | [], _ => rfl
  | q :: st, c => by
    rw [runD, ws_on, if_pos rfl]
    exact run_on l st _
/-- Contents that are clean, of a state. -/
structure CleanC (c sn : Bs) (tl : List Bs) : Prop where
  get : ∀ i, c.getD i 0 = (cleanR sn tl).getD i 0
  len : 64 + (imageR sn tl).length ≤ c.length ∨ (sn = [] ∧ tl = [])
theorem CleanC.trim {c sn : Bs} {tl : List Bs} (h : CleanC c sn tl) : trimR c = trimR (cleanR sn tl) := trim_eq _ _ h.get
theorem clean_nil : CleanC [] [] [] := by
  refine ⟨fun i => ?_, .inr ⟨rfl, rfl⟩⟩
  have : imageR [] [] = zerosR 1 := by simp [imageR, numR_small, zerosR]
  rw [clean_get, this, get_zeros]
  simp
theorem image_nil : (imageR [] []).length = 1 := by simp [imageR, numR_small]
theorem image_snoc (sn : Bs) (tl : List Bs) (r : Bs) : imageR sn (tl ++ [r]) = imageR sn tl ++ frameR r := by simp [imageR]
theorem clean_append {c sn : Bs} {tl : List Bs} (h : CleanC c sn tl) (r : Bs) : CleanC (writesR c (appR (64 + (imageR sn tl).length) r)) sn (tl ++ [r]) := by
  obtain ⟨L, hL⟩ : ∃ L, L = numR r.length ++ r := ⟨_, rfl⟩
  have hf : frameR r = 1 :: L := by rw [hL]; rfl
  have ha : appR (64 + (imageR sn tl).length) r = [(64 + (imageR sn tl).length + 1, L ++ [0]), (64 + (imageR sn tl).length, [1])] := by rw [hL]; rfl
  rw [ha]
  constructor
  · intro i
    rw [clean_get, image_snoc, hf]
    simp only [writesR, List.foldl_cons, List.foldl_nil, put_get, h.get, clean_get, get_app, List.length_append, List.length_cons, List.length_nil]
    generalize hn : (imageR sn tl).length = n
    by_cases h1 : i < 64
    · rw [if_neg (by omega), if_neg (by omega), if_pos h1, if_pos h1]
    · rw [if_neg h1, if_neg h1]
      by_cases h2 : i < 64 + n
      · rw [if_neg (by omega), if_neg (by omega), if_pos (by omega)]
      · rw [if_neg (show ¬ i - 64 < n by omega)]
        by_cases h3 : i = 64 + n
        · rw [if_pos (by omega), show i - (64 + n) = 0 from by omega, show i - 64 - n = 0 from by omega]
          rfl
        · rw [if_neg (by omega)]
          obtain ⟨j, hj⟩ : ∃ j, i = 64 + n + 1 + j := ⟨i - (64 + n + 1), by omega⟩
          subst hj
          rw [show 64 + n + 1 + j - 64 - n = j + 1 from by omega, show 64 + n + 1 + j - (64 + n + 1) = j from by omega]
          have e1 : ((1 : UInt8) :: L).getD (j + 1) 0 = L.getD j 0 := rfl
          rw [e1]
          by_cases h4 : j < L.length
          · rw [if_pos (by omega), if_pos h4]
          · rw [get_far L j (by omega)]
            by_cases h5 : j = L.length
            · subst h5
              rw [if_pos (by omega), if_neg (by omega)]
              simp
            · rw [if_neg (by omega), get_far _ _ (by omega)]
  · left
    rw [image_snoc, hf]
    simp only [writesR, List.foldl_cons, List.foldl_nil, put_len, List.length_append, List.length_cons, List.length_nil]
    omega
theorem append_len (c : Bs) (e : Nat) (r : Bs) : (writesR c (appR e r)).length = max c.length (e + (frameR r).length + 1) := by
  unfold appR
  simp only [writesR, List.foldl_cons, List.foldl_nil, put_len, List.length_append, List.length_cons, List.length_nil, frameR]
  omega
theorem kR_ge (e n : Nat) : 64 + n < kR e n ∧ e < kR e n ∧ kR e n ≤ max (64 + n) e + 64 := by
  rw [kR_eq]; omega
theorem clean_replace {c sn : Bs} {tl : List Bs} (h : CleanC c sn tl) (sn' : Bs) (tl' : List Bs) : CleanC (writesR c (repR (64 + (imageR sn tl).length) (imageR sn' tl'))) sn' tl' := by
  obtain ⟨x, hx⟩ : ∃ x, x = imageR sn' tl' := ⟨_, rfl⟩
  have hk := kR_ge (64 + (imageR sn tl).length) x.length
  unfold repR
  rw [← hx]
  obtain ⟨K, hK⟩ : ∃ K, K = kR (64 + (imageR sn tl).length) x.length := ⟨_, rfl⟩
  rw [← hK] at hk ⊢
  have hh : (headerR K).length = 9 := rfl
  constructor
  · intro i
    rw [clean_get, ← hx]
    simp only [finishR, List.cons_append, List.nil_append, writesR, List.foldl_cons, List.foldl_nil, put_get, h.get, clean_get, get_app, get_zeros, List.length_append, zeros_len, hh]
    by_cases h1 : i < 64
    · rw [if_neg (by omega)]
      by_cases h2 : i < 9
      · rw [if_pos (by omega), if_pos h1]
      · rw [if_neg (by omega), if_neg (by omega), if_neg (by omega), if_neg (by omega), if_pos h1, if_pos h1]
    · rw [if_neg h1]
      by_cases h3 : i < K
      · rw [if_neg (by omega), if_neg (by omega), if_pos (by omega)]
        split
        · rfl
        · rw [get_far x _ (by omega)]
      · rw [get_far x (i - 64) (by omega)]
        by_cases h4 : i < K + x.length
        · rw [if_pos (by omega), if_neg h1]
        · rw [if_neg (by omega), if_neg (by omega), if_neg (by omega), if_neg (by omega), if_neg (by omega), if_neg h1, get_far _ _ (by omega)]
  · left
    rw [← hx]
    simp only [finishR, List.cons_append, List.nil_append, writesR, List.foldl_cons, List.foldl_nil, put_len, List.length_append, zeros_len, hh]
    omega
theorem replace_len (c : Bs) (e : Nat) (x : Bs) : (writesR c (repR e x)).length = max c.length (kR e x.length + x.length) := by
  have hk := kR_ge e x.length
  have hh : (headerR (kR e x.length)).length = 9 := rfl
  unfold repR
  simp only [finishR, List.cons_append, List.nil_append, writesR, List.foldl_cons, List.foldl_nil, put_len, List.length_append, zeros_len, hh]
  omega
theorem end_image {sn x : Bs} {tl : List Bs} (h : x = imageR sn tl ∨ (x = [] ∧ sn = [] ∧ tl = [])) : endR x = 64 + (imageR sn tl).length := by
  rcases h with rfl | ⟨rfl, rfl, rfl⟩
  · unfold endR; rw [if_neg (image_ne sn tl)]
  · rw [image_nil]; rfl
/-- Behind an opening, contents are clean. -/
theorem open_to {c sn x : Bs} {tl : List Bs} {st : List (Nat × Bs)} (h : openR c = some (sn, tl, x, st)) : CleanC (writesR c st) sn tl ∧ (writesR c st).length = c.length ∧ endR x = 64 + (imageR sn tl).length := by
  obtain ⟨h1, h2, h3, h4⟩ := open_clean c sn tl x st h
  exact ⟨⟨h1, by rw [h2]; exact h4⟩, h2, end_image h3⟩
/-- Clean contents open to their state. -/
theorem open_of {c sn : Bs} {tl : List Bs} (h : CleanC c sn tl) (hs : sn.length < 128 ^ 9) (hr : ∀ r ∈ tl, r.length < 128 ^ 9) : ∃ x st, openR c = some (sn, tl, x, st) := by
  have h0 : c.getD 0 0 = 0 := by rw [h.get, clean_get, if_pos (by omega)]
  have hc : copiedR c = none := by
    unfold copiedR
    rw [if_pos (.inr (by rw [h0]; decide))]
  unfold openR
  rw [hc]
  simp only
  rw [if_neg (by rw [h0]; simp)]
  by_cases hl : 64 + (imageR sn tl).length ≤ c.length
  · have hd : c.drop (min 64 c.length) = imageR sn tl ++ zerosR (c.length - 64 - (imageR sn tl).length) := by
      rw [Nat.min_eq_left (by omega)]
      apply ext_get
      · simp [zeros_len]; omega
      · intro i
        rw [get_drop, h.get, clean_get, if_neg (by omega), get_app, get_zeros, show 64 + i - 64 = i from by omega]
        split
        · rfl
        · rw [get_far _ _ (by omega)]
    rw [hd, parse_image sn tl _ (by
      cases c.length - 64 - (imageR sn tl).length with
      | zero => exact .inl rfl
      | succ k => exact .inr ⟨zerosR k, rfl⟩) hs hr]
    exact ⟨_, _, rfl⟩
  · obtain ⟨rfl, rfl⟩ := h.len.resolve_left hl
    have h1 := image_nil
    have hd : c.drop (min 64 c.length) = [] := List.drop_eq_nil_of_le (by omega)
    rw [hd]
    exact ⟨_, _, rfl⟩
end Go.Proofs.YtgdkdihedgiegaaDoor

namespace Go.Proofs.YtgdkdihedgiegaaDoor
open Go.RowKit

theorem trim_take (s : Bs) (m : Nat) (h0 : m < s.length) : ((s[m]'h0) = 0 → trimR (s.take (m + 1)) = trimR (s.take m)) ∧ ((s[m]'h0) ≠ 0 → trimR (s.take (m + 1)) = s.take (m + 1)) := by
  have h1 := List.take_succ_eq_append_getElem h0
  constructor
  · intro hb
    rw [h1, hb]
    exact trim_zeros (s.take m) 1
  · intro hb
    rw [h1]
    unfold trimR
    rw [List.reverse_append, List.reverse_singleton, List.singleton_append, List.dropWhile_cons_of_neg (by simpa using hb)]
    simp
set_option maxHeartbeats 1000000 in
set_option maxRecDepth 100000 in
theorem trim_43 (s : Bs) (w : World) (hs : s.length ≤ 100000000) : Calls Tryd.prog 43 #[S s] w fun e w' => e = .returned (S (trimR s)) ∧ w' = w := by
  go_enter Tryd.func43, Tryd.ntmps43
  go_wp2_with fail
  go_loop [3] (fun x => ∃ m : Nat, x = .int .i64 m ∧ m ≤ s.length ∧ Hid (trimR s = trimR (s.take m))) (fun x => (intOf x).toNat)
  case atStart => exact ⟨s.length, rfl, Nat.le_refl _, by show _ = _; rw [List.take_length]⟩
  case round =>
    obtain ⟨m, rfl, hm, HM⟩ := hrel
    cases m with
    | zero =>
      have HX : Hid (trimR s = []) := by show _ = _; rw [HM.out]; rfl
      go_wp2_with fail
      go_ret
      rw [HX.out]
      exact ⟨rfl, rfl⟩
    | succ m =>
      have HT := Lib.hid (trim_take s m hm)
      have e1 : ((m + 1 : Nat) : Int) = (m : Int) + 1 := by omega
      go_wp2_with fail
      · have hb : (((s[m]'hm).toNat : Int) == 0) = true := by assumption
        have HX := Lib.hid (HM.out.trans (HT.out.1 (u8_zero.1 hb)))
        go_round
        case rel => exact ⟨m, by go_num, by omega, HX⟩
        case measure => simp [intOf]
      · have hb : (((s[m]'hm).toNat : Int) == 0) = false := by assumption
        have HX := HM.out.trans (HT.out.2 (fun e => by rw [u8_zero.2 e] at hb; cases hb))
        go_ret
        rw [HX]
        exact ⟨rfl, rfl⟩
set_option maxHeartbeats 1000000 in
theorem contents_18 (F : Nat → Prop) (w : World) (b : Nat) (D : DiskD) (h : DiskAt F w b D) (hn : D.now.length ≤ 20000000) :
    Calls Tryd.prog 18 #[.pointer (some ⟨b, 0, none⟩)] w fun e w' => e = .returned (S (trimR D.now)) ∧ Below w.heap.size w w' := by
  have HS := Lib.hid (size_34 F w b D h)
  have HR := Lib.hid (read_33 F w b D h hn)
  have HT := Lib.hid (fun W => trim_43 D.now W (by omega))
  clear h
  go_enter Tryd.func18, Tryd.ntmps18
  go_wp2_with fail
  ((with_reducible refine Calls.mono HS.out ?_); rintro x w1 ⟨rfl, hw⟩; have hw := hw.symm; subst hw)
  go_wp2_with fail
  ((with_reducible refine Calls.mono HR.out ?_); rintro x w2 ⟨rfl, hb⟩)
  have HB := Lib.hid hb
  clear hb
  go_wp2_with fail
  ((with_reducible refine Calls.mono (HT.out _) ?_); rintro x w3 ⟨rfl, hw⟩; have hw := hw.symm; subst hw)
  go_wp2_with fail
  go_ret
  exact ⟨rfl, HB.out⟩
set_option maxHeartbeats 4000000 in
set_option maxRecDepth 100000 in
theorem image_25 (sn : Bs) (tv : Value) (tl : List Bs) (w : World) (ht : TailAt w tv tl) (hl : (imageR sn tl).length ≤ 20000000) :
    Calls Tryd.prog 25 #[S sn, tv] w fun e w' => e = .returned (S (imageR sn tl)) ∧ Below w.heap.size w w' := by
  have HT := Lib.hid ht
  have h0 := image_take sn tl 0
  have hsn : sn.length ≤ 20000000 := by simp at h0; omega
  have htl : tl.length ≤ 20000000 := by have := frames_len tl; unfold imageR at hl; simp only [List.length_append] at hl; omega
  have HN := Lib.hid (fun W => number_51 sn.length (by omega) W)
  have e1 : IntKind.u64.wrap (sn.length : Int) = sn.length := IntWalk.u64_in _ (by omega)
  have hnl := numR_len_le sn.length 9 (by omega)
  have HL := Lib.hid hl
  obtain ⟨ta, tcap, rfl, _⟩ := ht
  obtain ⟨L, hL⟩ : ∃ L, L = numR sn.length := ⟨_, rfl⟩
  rw [← hL] at HN hnl
  have HLL := Lib.hid hL
  have s1 : ¬ 9223372036854775807 < L.length + sn.length := by omega
  clear hL hl h0
  go_enter Tryd.func25, Tryd.ntmps25
  go_wp2_with fail
  ((with_reducible refine Calls.mono (HN.out _) ?_); rintro e w1 ⟨rfl, hb1⟩)
  have HB1 := Lib.hid hb1
  clear hb1
  go_wp2_with fail
  go_loopw [5, 6] (fun v i wr => ∃ (k : Nat) (acc : Bs), v = S acc ∧ i = .int .i64 k ∧ k ≤ tl.length ∧ Hid (acc = L ++ sn ++ (tl.take k).flatMap frameR) ∧ Below w.heap.size w wr) (fun _ i _ => tl.length - (intOf i).toNat)
  case atStart => exact ⟨0, L ++ sn, rfl, rfl, Nat.zero_le _, (by show _ = _; simp), HB1.out⟩
  case round =>
    obtain ⟨k, acc, rfl, rfl, hk, HA, hb⟩ := hrel
    have hacc : acc.length ≤ 20000000 := by
      have h1 := image_take sn tl k
      rw [← HLL.out, ← HA.out] at h1
      have := HL.out
      omega
    have HBW := Lib.hid hb
    by_cases hlt : k < tl.length
    · obtain ⟨bb, off, cap, hv, hbb, hc⟩ := TailAt.cell HT.out k hlt
      injection hv with h1 h2 h3
      subst h1 h3
      have hc2 : wr.cell? ⟨bb, off + k, none⟩ = some (S tl[k]) := by rw [hb.cell (p := ⟨bb, off + k, none⟩) hbb]; exact hc
      have hsnoc := flat_snoc tl k hlt
      have hfr : (acc ++ frameR tl[k]).length ≤ 20000000 := by
        have h1 := image_take sn tl (k + 1)
        rw [hsnoc, ← HLL.out, ← List.append_assoc, ← HA.out] at h1
        have := HL.out
        omega
      have HS := Lib.hid hsnoc
      obtain ⟨r, hr⟩ : ∃ r, r = tl[k] := ⟨_, rfl⟩
      rw [← hr] at hc2 hfr HS
      have hrl : r.length ≤ 20000000 := by simp [frameR] at hfr; omega
      obtain ⟨N, hN⟩ : ∃ N, N = numR r.length := ⟨_, rfl⟩
      have hfN : frameR r = 1 :: (N ++ r) := by rw [hN]; rfl
      have HNR : Hid (∀ W, Calls Tryd.prog 51 #[.int .u64 r.length] W fun e w' => e = .returned (S N) ∧ Below W.heap.size W w') := by rw [hN]; exact fun W => number_51 r.length (by omega) W
      have hnN : N.length ≤ 10 := by rw [hN]; exact numR_len_le r.length 9 (by omega)
      have e2 : IntKind.u64.wrap (r.length : Int) = r.length := IntWalk.u64_in _ (by omega)
      clear hr hc hsnoc hN hfr
      rw [hfN] at HS
      clear hfN
      have s2 : ¬ 9223372036854775807 < acc.length + 1 := by omega
      have s3 : ¬ 9223372036854775807 < acc.length + 1 + N.length := by omega
      have s4 : ¬ 9223372036854775807 < acc.length + 1 + N.length + r.length := by omega
      have s5 : ¬ 9223372036854775807 < acc.length + (N.length + 1) + r.length := by omega
      go_wp2_with fail
      obtain ⟨W1, hW1⟩ : ∃ W1, wr.drew = W1 := ⟨_, rfl⟩
      have hcW : W1.cell? ⟨bb, off + k, none⟩ = some (S r) := by rw [← hW1]; exact hc2
      have HBd : Hid (Below w.heap.size w W1) := by rw [← hW1]; exact hb.drew
      refine wp_region_T (fun w' => w'.cell? ⟨bb, off + k, none⟩ = some (S r)) 15 (by kernel_rfl) ?_
      rw [hW1]
      clear hW1
      refine anyT_take (i := 0) (v := ?_) rfl (by kernel_rfl) (by kernel_rfl) (by kernel_rfl) (by kernel_rfl) (by decide) (fun _ _ _ h => h) hcW (Or.inl ⟨by rfl, ?_⟩) ?_
      rotate_left
      · intro w' h; go_simp; (first | rfl | rw [if_neg (by omega)])
      refine anyT_take (i := 1) (v := ?_) rfl (by kernel_rfl) (by kernel_rfl) (by kernel_rfl) (by kernel_rfl) (by decide) (fun _ _ _ h => h) hcW (Or.inl ⟨by rfl, ?_⟩) ?_
      rotate_left
      · intro w' h; go_simp; (first | rfl | rw [if_neg (by omega)])
      refine anyT_take (i := 2) (v := ?_) rfl (by kernel_rfl) (by kernel_rfl) (by kernel_rfl) (by kernel_rfl) (by decide) (fun _ _ _ h => h) hcW (Or.inl ⟨by rfl, ?_⟩) ?_
      rotate_left
      · intro w' h; go_simp; (first | rfl | rw [if_neg (by omega)])
      refine anyT_take (i := 3) (v := ?_) rfl (by kernel_rfl) (by kernel_rfl) (by kernel_rfl) (by kernel_rfl) (by decide) (fun _ _ _ h => h) hcW (Or.inl ⟨by rfl, ?_⟩) ?_
      rotate_left
      · intro w' h; go_simp; (first | rfl | rw [if_neg (by omega)])
      refine anyT_take (i := 4) (v := ?_) rfl (by kernel_rfl) (by kernel_rfl) (by kernel_rfl) (by kernel_rfl) (by decide) (fun _ _ _ h => h) hcW (Or.inl ⟨by rfl, ?_⟩) ?_
      rotate_left
      · intro w' h; go_simp; (first | rfl | rw [if_neg (by omega)])
      refine anyT_take (i := 5) (v := ?_) rfl (by kernel_rfl) (by kernel_rfl) (by kernel_rfl) (by kernel_rfl) (by decide) (fun _ _ _ h => h) hcW (Or.inl ⟨by rfl, ?_⟩) ?_
      rotate_left
      · intro w' h; go_simp; (first | rfl | rw [if_neg (by omega)])
      refine anyT_take (i := 6) (v := ?_) rfl (by kernel_rfl) (by kernel_rfl) (by kernel_rfl) (by kernel_rfl) (by decide) (fun _ _ _ h => h) hcW (Or.inl ⟨by rfl, ?_⟩) ?_
      rotate_left
      · intro w' h; go_simp; (first | rfl | rw [if_neg (by omega)])
      refine anyT_take (i := 7) (v := ?_) rfl (by kernel_rfl) (by kernel_rfl) (by kernel_rfl) (by kernel_rfl) (by decide) (fun _ _ _ h => h) hcW (Or.inl ⟨by rfl, ?_⟩) ?_
      rotate_left
      · intro w' h; go_simp; (first | rfl | rw [if_neg (by omega)])
      refine anyT_take (i := 10) (v := ?_) rfl (by kernel_rfl) (by kernel_rfl) (by kernel_rfl) (by kernel_rfl) (by decide) (fun _ _ _ h => h) hcW (Or.inl ⟨by rfl, ?_⟩) ?_
      rotate_left
      · intro w' h; go_simp; (first | rfl | rw [if_neg (by omega)])
      refine anyT_take (i := 11) (v := ?_) rfl (by kernel_rfl) (by kernel_rfl) (by kernel_rfl) (by kernel_rfl) (by decide) (fun _ _ _ h => h) hcW (Or.inl ⟨by rfl, ?_⟩) ?_
      rotate_left
      · intro w' h; go_simp; (first | rfl | rw [if_neg (by omega)])
      refine anyT_take (i := 12) (v := ?_) rfl (by kernel_rfl) (by kernel_rfl) (by kernel_rfl) (by kernel_rfl) (by decide) (fun _ _ _ h => h) hcW (Or.inl ⟨by rfl, ?_⟩) ?_
      rotate_left
      · intro w' h; go_simp; (first | rfl | rw [if_neg (by omega)])
      refine anyT_take (i := 13) (v := ?_) rfl (by kernel_rfl) (by kernel_rfl) (by kernel_rfl) (by kernel_rfl) (by decide) (fun _ _ _ h => h) hcW (Or.inl ⟨by rfl, ?_⟩) ?_
      rotate_left
      · intro w' h; go_simp; (first | rfl | rw [if_neg (by omega)])
      go_simp
      refine anyT_do (i := 8) rfl (by kernel_rfl) rfl (fun K hK => ?_)
      go_simp
      (go_at_call 51; ((with_reducible refine Calls.mono (HNR.out _) ?_); rintro e w3 ⟨rfl, hb3⟩))
      have HB3 := Lib.hid (btr HBd.out hb3 HBd.out.size)
      have hc3 : w3.cell? ⟨bb, off + k, none⟩ = some (S r) := by rw [hb3.cell (p := ⟨bb, off + k, none⟩) (cell_lt hcW)]; exact hcW
      refine hK _ _ (fun _ => hc3) ?_
      clear hK K hb3
      refine anyT_do (i := 9) rfl (by kernel_rfl) rfl (fun K hK => ?_)
      go_simp
      refine hK _ _ (fun _ => hc3) ?_
      clear hK K
      refine anyT_do (i := 14) rfl (by kernel_rfl) rfl (fun K hK => ?_)
      go_simp
      refine hK _ _ (fun _ => hc3) ?_
      clear hK K
      refine anyT_do (i := 15) rfl (by kernel_rfl) rfl (fun K hK => ?_)
      go_simp
      refine hK _ _ (fun h => absurd rfl h) ?_
      clear hK K
      refine anyT_done (by kernel_rfl) ?_ _
      go_wp2_with fail
      go_roundw
      case rel =>
        refine ⟨k + 1, acc ++ 1 :: (N ++ r), ?_, by go_num, hlt, ?_, HB3.out⟩
        · simp
        · show _ = _
          rw [HS.out, HA.out, List.append_assoc]
      case measure => simp [intOf]; omega
    · obtain rfl : k = tl.length := by omega
      have HX : Hid (imageR sn tl = acc) := by show _ = _; rw [HA.out, HLL.out, List.take_length]; rfl
      go_wp2_with fail
      go_ret
      rw [HX.out]
      exact ⟨rfl, HBW.out⟩
end Go.Proofs.YtgdkdihedgiegaaDoor
