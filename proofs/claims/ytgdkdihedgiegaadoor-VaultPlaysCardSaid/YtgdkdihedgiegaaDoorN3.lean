/-
  Contents, plain: writing to them; opening them; the contents behind an opening are clean.
-/
import Derived.Test.YtgdkdihedgiegaaDoorN2
namespace Go.Proofs.YtgdkdihedgiegaaDoor

def zerosR (n : Nat) : Bs := List.replicate n 0
/-- Bytes are written at an offset. -/
def putR (c : Bs) (off : Nat) (s : Bs) : Bs :=
  let d := c ++ zerosR (off + s.length - c.length)
  d.take off ++ s ++ d.drop (off + s.length)
theorem get_take (l : Bs) (n i : Nat) : (l.take n).getD i 0 = if i < n then l.getD i 0 else 0 := by
  simp only [List.getD_eq_getElem?_getD, List.getElem?_take]
  split <;> rfl
theorem get_drop (l : Bs) (n i : Nat) : (l.drop n).getD i 0 = l.getD (n + i) 0 := by
  simp only [List.getD_eq_getElem?_getD, List.getElem?_drop]
theorem get_app (a b : Bs) (i : Nat) : (a ++ b).getD i 0 = if i < a.length then a.getD i 0 else b.getD (i - a.length) 0 := by
  simp only [List.getD_eq_getElem?_getD, List.getElem?_append]
  split <;> rfl
theorem get_zeros (n i : Nat) : (zerosR n).getD i 0 = 0 := by
  simp only [zerosR, List.getD_eq_getElem?_getD, List.getElem?_replicate]
  split <;> rfl
theorem get_far (l : Bs) (i : Nat) (h : l.length ≤ i) : l.getD i 0 = 0 := by
  simp only [List.getD_eq_getElem?_getD, List.getElem?_eq_none h]; rfl
theorem zeros_len (n : Nat) : (zerosR n).length = n := by simp [zerosR]
theorem put_len (c : Bs) (off : Nat) (s : Bs) : (putR c off s).length = max c.length (off + s.length) := by
  simp [putR, zeros_len]; omega
theorem put_get (c : Bs) (off : Nat) (s : Bs) (i : Nat) : (putR c off s).getD i 0 = if off ≤ i ∧ i < off + s.length then s.getD (i - off) 0 else c.getD i 0 := by
  have hd : ∀ j, (c ++ zerosR (off + s.length - c.length)).getD j 0 = c.getD j 0 := by
    intro j
    rw [get_app, get_zeros]
    split
    · rfl
    · rw [get_far c j (by omega)]
  have hl : ((c ++ zerosR (off + s.length - c.length)).take off).length = off := by simp [zeros_len]; omega
  unfold putR
  simp only
  rw [get_app, get_app, get_take, get_drop, hd, hd]
  simp only [List.length_append, hl]
  by_cases h1 : i < off
  · rw [if_pos (by omega), if_pos h1, if_pos h1, if_neg (by omega)]
  · by_cases h2 : i < off + s.length
    · rw [if_pos h2, if_neg h1, if_pos (by omega)]
    · rw [if_neg h2, if_neg (by omega), show off + s.length + (i - (off + s.length)) = i from by omega]
def writesR (c : Bs) (l : List (Nat × Bs)) : Bs := l.foldl (fun c p => putR c p.1 p.2) c

/-- Contents without zeros at the end. -/
def trimR (l : Bs) : Bs := (l.reverse.dropWhile (· == 0)).reverse
theorem dropz_zeros (n : Nat) (l : Bs) : (zerosR n ++ l).dropWhile (· == 0) = l.dropWhile (· == 0) := by
  induction n with
  | zero => rfl
  | succ n ih => simp only [zerosR, List.replicate_succ, List.cons_append] at ih ⊢; rw [List.dropWhile_cons_of_pos (by decide)]; exact ih
theorem trim_zeros (l : Bs) (n : Nat) : trimR (l ++ zerosR n) = trimR l := by
  unfold trimR
  rw [List.reverse_append]
  have : (zerosR n).reverse = zerosR n := by simp [zerosR]
  rw [this, dropz_zeros]
theorem ext_get (a b : Bs) (hl : a.length = b.length) (h : ∀ i, a.getD i 0 = b.getD i 0) : a = b := by
  apply List.ext_getElem hl
  intro i h1 h2
  have := h i
  simpa [List.getD_eq_getElem?_getD, h1, h2] using this
theorem trim_eq (a b : Bs) (h : ∀ i, a.getD i 0 = b.getD i 0) : trimR a = trimR b := by
  rw [← trim_zeros a (b.length - a.length), ← trim_zeros b (a.length - b.length)]
  congr 1
  apply ext_get
  · simp [zeros_len]; omega
  · intro i
    rw [get_app, get_app, get_zeros, get_zeros]
    have h1 := get_far a i
    have h2 := get_far b i
    have h3 := h i
    split <;> split <;> first | exact h3 | rfl | (rw [h3]; exact h2 (by omega)) | (rw [← h3]; exact (h1 (by omega)).symm)

/-- The clean contents of a state. -/
def cleanR (sn : Bs) (tl : List Bs) : Bs := zerosR 64 ++ imageR sn tl
theorem clean_get (sn : Bs) (tl : List Bs) (i : Nat) : (cleanR sn tl).getD i 0 = if i < 64 then 0 else (imageR sn tl).getD (i - 64) 0 := by
  rw [cleanR, get_app, zeros_len, get_zeros]

/-- The number in the bytes from a place on, the last byte first. -/
def ptrR : Bs → Nat
  | [] => 0
  | b :: t => b.toNat + 256 * ptrR t
def copiedR (c : Bs) : Option Nat :=
  if c.length < 9 ∨ c.getD 0 0 ≠ 1 then none else
    let k := ptrR ((c.drop 1).take 8)
    if k % 64 = 0 ∧ 128 ≤ k ∧ k < c.length then some k else none
def dirtyR (c : Bs) (from_ to : Nat) : List (Nat × Bs) :=
  let a := min from_ c.length
  let b := min to c.length
  if (c.take b).drop a = zerosR (b - a) then [] else [(a, zerosR (b - a))]
def stepsR (c : Bs) (n : Nat) : List (Nat × Bs) := dirtyR c 0 64 ++ dirtyR c (64 + n) c.length
def finishR (k size : Nat) (x : Bs) : List (Nat × Bs) := [(64, x ++ zerosR (k - 64 - x.length)), (0, zerosR 9), (k, zerosR (size - k))]
/-- Opening contents: the snapshot, the tail, the image as it stands there, what is written. -/
def openR (c : Bs) : Option (Bs × List Bs × Bs × List (Nat × Bs)) :=
  match copiedR c with
  | some k => match parseR (c.drop k) with
    | none => none
    | some (sn, tl, n) => if k - 64 ≤ n then none else some (sn, tl, (c.drop k).take n, finishR k c.length ((c.drop k).take n) ++ [(9, zerosR 55)])
  | none => if c ≠ [] ∧ c.getD 0 0 ≠ 0 then none else match parseR (c.drop (min 64 c.length)) with
    | none => none
    | some (sn, tl, n) => some (sn, tl, (c.drop (min 64 c.length)).take n, stepsR c n)

theorem parse_le (s sn : Bs) (tl : List Bs) (n : Nat) (h : parseR s = some (sn, tl, n)) : n ≤ s.length ∧ (∀ i, (s.take n).getD i 0 = (imageR sn tl).getD i 0) := by
  rcases parse_form s sn tl n h with ⟨rfl, rfl, rfl, rfl⟩ | ⟨hn, z, hs, _⟩
  · refine ⟨Nat.le_refl _, fun i => ?_⟩
    have : imageR [] [] = [0] := by simp [imageR, numR_small]
    rw [this]
    cases i <;> simp
  · refine ⟨by rw [hs, hn]; simp, fun i => ?_⟩
    rw [hn, hs, List.take_left' rfl]
theorem dirty_get (c d : Bs) (a b i : Nat) (hd : ∀ i, min a c.length ≤ i → i < min b c.length → d.getD i 0 = c.getD i 0) (hl : d.length = c.length) (hab : min a c.length ≤ min b c.length) :
    (writesR d (dirtyR c a b)).getD i 0 = (if a ≤ i ∧ i < b then 0 else d.getD i 0) ∧ (writesR d (dirtyR c a b)).length = c.length := by
  unfold dirtyR
  simp only
  split
  · rename_i hz
    refine ⟨?_, hl⟩
    simp only [writesR, List.foldl_nil]
    split
    · rename_i hi
      by_cases hc : i < c.length
      · have := congrArg (fun l : Bs => l.getD (i - min a c.length) 0) hz
        simp only [get_drop, get_take, get_zeros] at this
        rw [if_pos (by omega)] at this
        rw [hd i (by omega) (by omega)]
        rw [← this]
        congr 1; omega
      · exact get_far d i (by omega)
    · rfl
  · simp only [writesR, List.foldl_cons, List.foldl_nil, put_len, put_get, get_zeros, zeros_len]
    refine ⟨?_, by omega⟩
    by_cases hi : a ≤ i ∧ i < b
    · rw [if_pos hi]
      split
      · rfl
      · exact get_far d i (by omega)
    · rw [if_neg hi, if_neg (by omega)]
theorem open_clean (c sn : Bs) (tl : List Bs) (x : Bs) (st : List (Nat × Bs)) (h : openR c = some (sn, tl, x, st)) :
    (∀ i, (writesR c st).getD i 0 = (cleanR sn tl).getD i 0) ∧ (writesR c st).length = c.length ∧ (x = imageR sn tl ∨ (x = [] ∧ sn = [] ∧ tl = [])) ∧ (64 + (imageR sn tl).length ≤ c.length ∨ (sn = [] ∧ tl = [])) := by
  unfold openR at h
  cases hk : copiedR c with
  | some k =>
    rw [hk] at h
    simp only at h
    cases hp : parseR (c.drop k) with
    | none => rw [hp] at h; cases h
    | some r =>
      obtain ⟨sn', tl', n⟩ := r
      rw [hp] at h
      simp only at h
      split at h
      · cases h
      · rename_i hn
        cases h
        have hk2 : 128 ≤ k ∧ k < c.length ∧ 9 ≤ c.length := by
          unfold copiedR at hk
          split at hk
          · cases hk
          · rename_i h9
            simp only at hk
            split at hk
            · rename_i h10; cases hk; exact ⟨h10.2.1, h10.2.2, by omega⟩
            · cases hk
        obtain ⟨hle, hg⟩ := parse_le _ _ _ _ hp
        have hpf := parse_form _ _ _ _ hp
        have hx : ((c.drop k).take n).length = n := by simp; simp at hle; omega
        simp only [List.length_drop] at hle
        refine ⟨fun i => ?_, ?_, ?_, ?_⟩
        · simp only [finishR, writesR, List.cons_append, List.nil_append, List.foldl_cons, List.foldl_nil, put_get, get_zeros, zeros_len, get_app, List.length_append, hx, clean_get]
          by_cases h64 : i < 64
          · rw [if_pos h64]
            split
            · rfl
            · rw [if_neg (by omega), if_pos (by omega)]
          · rw [if_neg h64, if_neg (by omega)]
            by_cases h1 : k ≤ i
            · have hz : (imageR sn tl).getD (i - 64) 0 = 0 := by rw [← hg, get_take, if_neg (by omega)]
              rw [hz]
              split
              · rfl
              · rw [if_neg (by omega), if_neg (by omega)]; exact get_far c i (by omega)
            · rw [if_neg (by omega), if_neg (by omega), if_pos (by omega)]
              split
              · exact hg _
              · rename_i hh
                rw [← hg, get_take, if_neg hh]
        · simp only [finishR, writesR, List.cons_append, List.nil_append, List.foldl_cons, List.foldl_nil, put_len, zeros_len, List.length_append, hx]
          omega
        · left
          rcases hpf with ⟨he, _⟩ | ⟨hn', z, hs, _⟩
          · have := congrArg List.length he; simp at this; omega
          · rw [hs, hn', List.take_left' rfl]
        · left
          rcases hpf with ⟨he, _⟩ | ⟨hn', z, hs, _⟩
          · have := congrArg List.length he; simp at this; omega
          · omega
  | none =>
    rw [hk] at h
    simp only at h
    split at h
    · cases h
    · cases hp : parseR (c.drop (min 64 c.length)) with
      | none => rw [hp] at h; cases h
      | some r =>
        obtain ⟨sn', tl', n⟩ := r
        rw [hp] at h
        simp only at h
        cases h
        obtain ⟨hle, hg⟩ := parse_le _ _ _ _ hp
        have hpf := parse_form _ _ _ _ hp
        simp only [List.length_drop] at hle
        have d1 := fun i => dirty_get c c 0 64 i (fun _ _ _ => rfl) rfl (by omega)
        have hw : writesR c (stepsR c n) = writesR (writesR c (dirtyR c 0 64)) (dirtyR c (64 + n) c.length) := by simp [writesR, stepsR]
        have d2 := fun i => dirty_get c (writesR c (dirtyR c 0 64)) (64 + n) c.length i (fun j h1 h2 => by rw [(d1 j).1, if_neg (by omega)]) (d1 0).2 (by omega)
        refine ⟨fun i => ?_, by rw [hw]; exact (d2 0).2, ?_, ?_⟩
        · rw [hw, (d2 i).1, (d1 i).1, clean_get]
          by_cases h64 : i < 64
          · rw [if_pos h64, if_neg (by omega), if_pos (by omega)]
          · rw [if_neg h64, ← hg, get_take, get_drop]
            by_cases hn : i < 64 + n
            · rw [if_neg (by omega), if_neg (by omega), if_pos (by omega)]
              congr 1; omega
            · rw [if_neg (by omega : ¬ i - 64 < n)]
              split
              · rfl
              · rw [if_neg (by omega)]; exact get_far c i (by omega)
        · rcases hpf with ⟨he, hs, ht, hn⟩ | ⟨hn', z, hs, _⟩
          · right; exact ⟨by rw [hn]; rfl, hs, ht⟩
          · left; rw [hs, hn', List.take_left' rfl]
        · rcases hpf with ⟨he, hs, ht, hn⟩ | ⟨hn', z, hs, _⟩
          · right; exact ⟨hs, ht⟩
          · left
            have h1 := congrArg List.length hs
            have h2 : (imageR sn tl).length ≠ 0 := by have := numR_len_pos sn.length; simp [imageR]; intro h3; exact absurd h3 (numR_pos _)
            simp at h1
            omega
end Go.Proofs.YtgdkdihedgiegaaDoor
