/-
  Plain law: contents of a vault's disk with power; what Append, Replace and Open make of clean contents.
-/
import Derived.Test.YtgdkdihedgiegaaDoorV11
namespace Go.Proofs.YtgdkdihedgiegaaDoor

/-- A disk with power whose writes are all synced. -/
def onD (c : Bs) (l : Int) : DiskD := ⟨c, c, [], false, l⟩
theorem power_on (D : DiskD) (h : D.failing = false) : powerD D = some D := by simp [powerD, h]
theorem sync_on (c : Bs) (l : Int) : syncD (onD c l) = (onD c l, 0) := by
  unfold syncD; rw [power_on _ rfl]; rfl
theorem ws_on (c : Bs) (l : Int) (off : Nat) (s : Bs) : wsD (onD c l) off s = (onD (putR c off s) l, 0) := by
  have hw : writeD (onD c l) off s = (⟨putR c off s, c, chunksR off s, false, l⟩, 0) := by
    unfold writeD; rw [power_on _ rfl]; simp [onD]
  unfold wsD
  rw [hw, if_pos rfl]
  unfold syncD; rw [power_on _ rfl]; rfl
theorem run_on (l : Int) : ∀ (st : List (Nat × Bs)) (c : Bs), runD (onD c l) st = (onD (writesR c st) l, 0)
  | [], _ => rfl
  | q :: st, c => by
    rw [runD, ws_on, if_pos rfl]
    exact run_on l st _
/-- Contents that are clean, of a state. -/
structure CleanC (c sn : Bs) (tl : List Bs) : Prop where
  get : ∀ i, c.getD i 0 = (cleanR sn tl).getD i 0
  len : 64 + (imageR sn tl).length ≤ c.length ∨ (sn = [] ∧ tl = [])
theorem CleanC.trim {c sn : Bs} {tl : List Bs} (h : CleanC c sn tl) : trimR c = trimR (cleanR sn tl) := trim_eq _ _ h.get
theorem clean_nil : CleanC [] [] [] := by
  refine ⟨fun i => ?_, .inr ⟨rfl, rfl⟩⟩
  have : imageR [] [] = zerosR 1 := by simp [imageR, numR_small, zerosR]
  rw [clean_get, this, get_zeros]
  simp
theorem image_nil : (imageR [] []).length = 1 := by simp [imageR, numR_small]
theorem image_snoc (sn : Bs) (tl : List Bs) (r : Bs) : imageR sn (tl ++ [r]) = imageR sn tl ++ frameR r := by simp [imageR]
theorem clean_append {c sn : Bs} {tl : List Bs} (h : CleanC c sn tl) (r : Bs) : CleanC (writesR c (appR (64 + (imageR sn tl).length) r)) sn (tl ++ [r]) := by
  obtain ⟨L, hL⟩ : ∃ L, L = numR r.length ++ r := ⟨_, rfl⟩
  have hf : frameR r = 1 :: L := by rw [hL]; rfl
  have ha : appR (64 + (imageR sn tl).length) r = [(64 + (imageR sn tl).length + 1, L ++ [0]), (64 + (imageR sn tl).length, [1])] := by rw [hL]; rfl
  rw [ha]
  constructor
  · intro i
    rw [clean_get, image_snoc, hf]
    simp only [writesR, List.foldl_cons, List.foldl_nil, put_get, h.get, clean_get, get_app, List.length_append, List.length_cons, List.length_nil]
    generalize hn : (imageR sn tl).length = n
    by_cases h1 : i < 64
    · rw [if_neg (by omega), if_neg (by omega), if_pos h1, if_pos h1]
    · rw [if_neg h1, if_neg h1]
      by_cases h2 : i < 64 + n
      · rw [if_neg (by omega), if_neg (by omega), if_pos (by omega)]
      · rw [if_neg (show ¬ i - 64 < n by omega)]
        by_cases h3 : i = 64 + n
        · rw [if_pos (by omega), show i - (64 + n) = 0 from by omega, show i - 64 - n = 0 from by omega]
          rfl
        · rw [if_neg (by omega)]
          obtain ⟨j, hj⟩ : ∃ j, i = 64 + n + 1 + j := ⟨i - (64 + n + 1), by omega⟩
          subst hj
          rw [show 64 + n + 1 + j - 64 - n = j + 1 from by omega, show 64 + n + 1 + j - (64 + n + 1) = j from by omega]
          have e1 : ((1 : UInt8) :: L).getD (j + 1) 0 = L.getD j 0 := rfl
          rw [e1]
          by_cases h4 : j < L.length
          · rw [if_pos (by omega), if_pos h4]
          · rw [get_far L j (by omega)]
            by_cases h5 : j = L.length
            · subst h5
              rw [if_pos (by omega), if_neg (by omega)]
              simp
            · rw [if_neg (by omega), get_far _ _ (by omega)]
  · left
    rw [image_snoc, hf]
    simp only [writesR, List.foldl_cons, List.foldl_nil, put_len, List.length_append, List.length_cons, List.length_nil]
    omega
theorem append_len (c : Bs) (e : Nat) (r : Bs) : (writesR c (appR e r)).length = max c.length (e + (frameR r).length + 1) := by
  unfold appR
  simp only [writesR, List.foldl_cons, List.foldl_nil, put_len, List.length_append, List.length_cons, List.length_nil, frameR]
  omega
theorem kR_ge (e n : Nat) : 64 + n < kR e n ∧ e < kR e n ∧ kR e n ≤ max (64 + n) e + 64 := by
  rw [kR_eq]; omega
theorem clean_replace {c sn : Bs} {tl : List Bs} (h : CleanC c sn tl) (sn' : Bs) (tl' : List Bs) : CleanC (writesR c (repR (64 + (imageR sn tl).length) (imageR sn' tl'))) sn' tl' := by
  obtain ⟨x, hx⟩ : ∃ x, x = imageR sn' tl' := ⟨_, rfl⟩
  have hk := kR_ge (64 + (imageR sn tl).length) x.length
  unfold repR
  rw [← hx]
  obtain ⟨K, hK⟩ : ∃ K, K = kR (64 + (imageR sn tl).length) x.length := ⟨_, rfl⟩
  rw [← hK] at hk ⊢
  have hh : (headerR K).length = 9 := rfl
  constructor
  · intro i
    rw [clean_get, ← hx]
    simp only [finishR, List.cons_append, List.nil_append, writesR, List.foldl_cons, List.foldl_nil, put_get, h.get, clean_get, get_app, get_zeros, List.length_append, zeros_len, hh]
    by_cases h1 : i < 64
    · rw [if_neg (by omega)]
      by_cases h2 : i < 9
      · rw [if_pos (by omega), if_pos h1]
      · rw [if_neg (by omega), if_neg (by omega), if_neg (by omega), if_neg (by omega), if_pos h1, if_pos h1]
    · rw [if_neg h1]
      by_cases h3 : i < K
      · rw [if_neg (by omega), if_neg (by omega), if_pos (by omega)]
        split
        · rfl
        · rw [get_far x _ (by omega)]
      · rw [get_far x (i - 64) (by omega)]
        by_cases h4 : i < K + x.length
        · rw [if_pos (by omega), if_neg h1]
        · rw [if_neg (by omega), if_neg (by omega), if_neg (by omega), if_neg (by omega), if_neg (by omega), if_neg h1, get_far _ _ (by omega)]
  · left
    rw [← hx]
    simp only [finishR, List.cons_append, List.nil_append, writesR, List.foldl_cons, List.foldl_nil, put_len, List.length_append, zeros_len, hh]
    omega
theorem replace_len (c : Bs) (e : Nat) (x : Bs) : (writesR c (repR e x)).length = max c.length (kR e x.length + x.length) := by
  have hk := kR_ge e x.length
  have hh : (headerR (kR e x.length)).length = 9 := rfl
  unfold repR
  simp only [finishR, List.cons_append, List.nil_append, writesR, List.foldl_cons, List.foldl_nil, put_len, List.length_append, zeros_len, hh]
  omega
theorem end_image {sn x : Bs} {tl : List Bs} (h : x = imageR sn tl ∨ (x = [] ∧ sn = [] ∧ tl = [])) : endR x = 64 + (imageR sn tl).length := by
  rcases h with rfl | ⟨rfl, rfl, rfl⟩
  · unfold endR; rw [if_neg (image_ne sn tl)]
  · rw [image_nil]; rfl
/-- Behind an opening, contents are clean. -/
theorem open_to {c sn x : Bs} {tl : List Bs} {st : List (Nat × Bs)} (h : openR c = some (sn, tl, x, st)) : CleanC (writesR c st) sn tl ∧ (writesR c st).length = c.length ∧ endR x = 64 + (imageR sn tl).length := by
  obtain ⟨h1, h2, h3, h4⟩ := open_clean c sn tl x st h
  exact ⟨⟨h1, by rw [h2]; exact h4⟩, h2, end_image h3⟩
/-- Clean contents open to their state. -/
theorem open_of {c sn : Bs} {tl : List Bs} (h : CleanC c sn tl) (hs : sn.length < 128 ^ 9) (hr : ∀ r ∈ tl, r.length < 128 ^ 9) : ∃ x st, openR c = some (sn, tl, x, st) := by
  have h0 : c.getD 0 0 = 0 := by rw [h.get, clean_get, if_pos (by omega)]
  have hc : copiedR c = none := by
    unfold copiedR
    rw [if_pos (.inr (by rw [h0]; decide))]
  unfold openR
  rw [hc]
  simp only
  rw [if_neg (by rw [h0]; simp)]
  by_cases hl : 64 + (imageR sn tl).length ≤ c.length
  · have hd : c.drop (min 64 c.length) = imageR sn tl ++ zerosR (c.length - 64 - (imageR sn tl).length) := by
      rw [Nat.min_eq_left (by omega)]
      apply ext_get
      · simp [zeros_len]; omega
      · intro i
        rw [get_drop, h.get, clean_get, if_neg (by omega), get_app, get_zeros, show 64 + i - 64 = i from by omega]
        split
        · rfl
        · rw [get_far _ _ (by omega)]
    rw [hd, parse_image sn tl _ (by
      cases c.length - 64 - (imageR sn tl).length with
      | zero => exact .inl rfl
      | succ k => exact .inr ⟨zerosR k, rfl⟩) hs hr]
    exact ⟨_, _, rfl⟩
  · obtain ⟨rfl, rfl⟩ := h.len.resolve_left hl
    have h1 := image_nil
    have hd : c.drop (min 64 c.length) = [] := List.drop_eq_nil_of_le (by omega)
    rw [hd]
    exact ⟨_, _, rfl⟩
end Go.Proofs.YtgdkdihedgiegaaDoor
