/-
  Images, plain: what a snapshot and a tail are as bytes, and what bytes are as a snapshot and a tail.
-/
import Derived.Test.YtgdkdihedgiegaaDoorN1
namespace Go.Proofs.YtgdkdihedgiegaaDoor

def frameR (r : Bs) : Bs := 1 :: (numR r.length ++ r)
def imageR (sn : Bs) (tl : List Bs) : Bs := numR sn.length ++ sn ++ tl.flatMap frameR
/-- A string with its length ahead, and what follows. -/
def pieceR (s : Bs) : Option (Bs × Bs) :=
  if (readNumR s).2.2 = 0 ∧ (readNumR s).1 ≤ s.length - (readNumR s).2.1 then some ((s.drop (readNumR s).2.1).take (readNumR s).1, s.drop ((readNumR s).2.1 + (readNumR s).1)) else none
def recsR : Nat → Bs → Option (List Bs × Bs)
  | _, [] => some ([], [])
  | f, b :: t => if b = 0 then some ([], b :: t) else if b = 1 then
      match f with
      | 0 => some ([], b :: t)
      | f + 1 => match pieceR t with
        | none => none
        | some (r, z) => match recsR f z with
          | none => none
          | some (l, y) => some (r :: l, y)
    else none
/-- The snapshot, the tail, and the image's length. -/
def parseR (s : Bs) : Option (Bs × List Bs × Nat) :=
  if s = [] then some ([], [], 0) else match pieceR s with
    | none => none
    | some (sn, z) => match recsR z.length z with
      | none => none
      | some (l, y) => some (sn, l, s.length - y.length)

theorem piece_num (r z : Bs) (h : r.length < 128 ^ 9) : pieceR (numR r.length ++ r ++ z) = some (r, z) := by
  have hr := read_num r.length (r ++ z) h
  rw [← List.append_assoc] at hr
  unfold pieceR
  simp only [hr]
  rw [if_pos ⟨trivial, by simp⟩]
  congr 2
  · rw [List.append_assoc, List.drop_left, List.take_left]
  · rw [← List.drop_drop, List.append_assoc, List.drop_left, List.drop_left]
theorem piece_form (s r z : Bs) (h : pieceR s = some (r, z)) : s = numR r.length ++ r ++ z ∧ z.length < s.length := by
  unfold pieceR at h
  split at h
  · rename_i hc
    obtain ⟨y, h1, h2, h3, h4⟩ := read_form s (readNumR s).1 (readNumR s).2.1 (by rw [← hc.1])
    have hr := congrArg (fun o : Option (Bs × Bs) => o.map (·.1)) h
    have hz := congrArg (fun o : Option (Bs × Bs) => o.map (·.2)) h
    simp at hr hz
    have hl : r.length = (readNumR s).1 := by rw [← hr]; simp; omega
    have hd : s.drop (readNumR s).2.1 = r ++ z := by
      rw [← hr, ← hz, ← List.drop_drop, List.take_append_drop]
    have hy : y = r ++ z := by
      have h6 := congrArg (List.drop (numR (readNumR s).1).length) h1
      rw [List.drop_left, ← h2, hd] at h6
      exact h6.symm
    have hs : s = numR r.length ++ (r ++ z) := by rw [← hy, hl]; exact h1
    refine ⟨by rw [List.append_assoc]; exact hs, ?_⟩
    have := congrArg List.length hs
    have h5 := numR_len_pos r.length
    simp at this
    omega
  · cases h
theorem recs_image : ∀ (tl : List Bs) (z : Bs) (f : Nat), (z = [] ∨ ∃ y, z = 0 :: y) → (∀ r ∈ tl, r.length < 128 ^ 9) → tl.length ≤ f → recsR f (tl.flatMap frameR ++ z) = some (tl, z)
  | [], z, f, hz, _, _ => by
    rcases hz with rfl | ⟨y, rfl⟩
    · cases f <;> rfl
    · cases f <;> simp [recsR]
  | r :: tl, z, f, hz, hr, hf => by
    cases f with
    | zero => simp at hf
    | succ f =>
      have ih := recs_image tl z f hz (fun r hr' => hr r (by simp [hr'])) (by simpa using hf)
      have hp := piece_num r (tl.flatMap frameR ++ z) (hr r (by simp))
      simp only [List.flatMap_cons, frameR, List.cons_append, recsR]
      rw [if_neg (by decide), if_pos trivial, List.append_assoc, hp]
      simp only [ih]
theorem frames_len (tl : List Bs) : tl.length ≤ (tl.flatMap frameR).length := by
  induction tl with
  | nil => simp
  | cons r tl ih => rw [List.flatMap_cons, List.length_append]; simp only [List.length_cons, frameR]; omega
theorem parse_image (sn : Bs) (tl : List Bs) (z : Bs) (hz : z = [] ∨ ∃ y, z = 0 :: y) (hs : sn.length < 128 ^ 9) (hr : ∀ r ∈ tl, r.length < 128 ^ 9) : parseR (imageR sn tl ++ z) = some (sn, tl, (imageR sn tl).length) := by
  have hne : imageR sn tl ++ z ≠ [] := by
    have := numR_len_pos sn.length
    intro h
    have := congrArg List.length h
    simp [imageR] at this
    have h2 := numR_pos sn.length
    exact h2 this.1
  have hp := piece_num sn (tl.flatMap frameR ++ z) hs
  have hi : imageR sn tl ++ z = numR sn.length ++ sn ++ (tl.flatMap frameR ++ z) := by simp [imageR]
  unfold parseR
  rw [if_neg hne, hi, hp]
  simp only
  rw [recs_image tl z _ hz hr (by have := frames_len tl; rw [List.length_append]; omega)]
  simp only [imageR, List.length_append]
  congr 3
  omega
theorem recs_form : ∀ (f : Nat) (s : Bs) (l : List Bs) (y : Bs), recsR f s = some (l, y) → s.length ≤ f → s = l.flatMap frameR ++ y ∧ (y = [] ∨ ∃ x, y = 0 :: x)
  | f, [], l, y, h, _ => by
    have : recsR f [] = some ([], []) := by cases f <;> rfl
    rw [this] at h
    cases h
    simp
  | 0, b :: t, l, y, h, hf => by simp at hf
  | f + 1, b :: t, l, y, h, hf => by
    rw [recsR] at h
    by_cases h0 : b = 0
    · rw [if_pos h0] at h
      cases h
      exact ⟨rfl, .inr ⟨t, by rw [h0]⟩⟩
    · rw [if_neg h0] at h
      by_cases h1 : b = 1
      · rw [if_pos h1] at h
        cases hp : pieceR t with
        | none => rw [hp] at h; cases h
        | some rz =>
          obtain ⟨r, z⟩ := rz
          rw [hp] at h
          simp only at h
          obtain ⟨ht, hlt⟩ := piece_form t r z hp
          cases hq : recsR f z with
          | none => rw [hq] at h; cases h
          | some ly =>
            obtain ⟨l', y'⟩ := ly
            rw [hq] at h
            simp only at h
            cases h
            simp at hf
            obtain ⟨hz, hy⟩ := recs_form f z l' y hq (by omega)
            refine ⟨?_, hy⟩
            rw [List.flatMap_cons, h1, List.append_assoc, ← hz]
            rw (occs := [1]) [ht]
            simp [frameR]
      · rw [if_neg h1] at h; cases h
theorem parse_form (s sn : Bs) (tl : List Bs) (n : Nat) (h : parseR s = some (sn, tl, n)) : (s = [] ∧ sn = [] ∧ tl = [] ∧ n = 0) ∨ (n = (imageR sn tl).length ∧ ∃ z, s = imageR sn tl ++ z ∧ (z = [] ∨ ∃ x, z = 0 :: x)) := by
  unfold parseR at h
  by_cases hs : s = []
  · rw [if_pos hs] at h
    cases h
    exact .inl ⟨hs, rfl, rfl, rfl⟩
  · rw [if_neg hs] at h
    right
    cases hp : pieceR s with
    | none => rw [hp] at h; cases h
    | some rz =>
      obtain ⟨r, z⟩ := rz
      rw [hp] at h
      simp only at h
      obtain ⟨ht, hlt⟩ := piece_form s r z hp
      cases hq : recsR z.length z with
      | none => rw [hq] at h; cases h
      | some ly =>
        obtain ⟨l', y'⟩ := ly
        rw [hq] at h
        simp only at h
        cases h
        obtain ⟨hz, hy⟩ := recs_form z.length z tl y' hq (Nat.le_refl _)
        have he : s = imageR sn tl ++ y' := by
          rw [imageR, List.append_assoc, ← hz]; exact ht
        refine ⟨?_, y', he, hy⟩
        have := congrArg List.length he
        simp at this
        omega
end Go.Proofs.YtgdkdihedgiegaaDoor
