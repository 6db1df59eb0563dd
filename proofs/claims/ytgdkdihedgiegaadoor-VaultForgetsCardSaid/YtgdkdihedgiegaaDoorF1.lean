/-
  A word in clean contents stands in the snapshot or in a record, if no number and no mark can be part of it.
-/
import Derived.Test.YtgdkdihedgiegaaDoorV12
import Derived.Test.YtgdkdihedgiegaaDoorShelf
namespace Go.Proofs.YtgdkdihedgiegaaDoor
open Go.RowKit

def Occ (u s : Bs) : Prop := ∃ a b, s = a ++ u ++ b
theorem contains_iff (s u : Bs) : Lib.contains s u = true ↔ Occ u s := by
  unfold Lib.contains
  rw [decide_eq_true_iff]
  constructor
  · intro h
    rcases Lib.index_spec s u with ⟨h1, _⟩ | ⟨i, _, _, h3, _⟩
    · omega
    · unfold Lib.occAt at h3
      obtain ⟨r, hr⟩ := List.isPrefixOf_iff_prefix.1 h3
      exact ⟨s.take i, r, by rw [List.append_assoc, hr, List.take_append_drop]⟩
  · rintro ⟨a, b, h⟩
    rcases Lib.index_spec s u with ⟨_, h2⟩ | ⟨i, h1, _⟩
    · exfalso
      have := h2 a.length (by rw [h]; simp)
      unfold Lib.occAt at this
      rw [h, List.append_assoc, List.drop_left] at this
      have h3 : u.isPrefixOf (u ++ b) = true := List.isPrefixOf_iff_prefix.2 ⟨b, rfl⟩
      rw [h3] at this; cases this
    · omega
theorem occ_pre {u : Bs} {x : UInt8} (hx : x ∉ u) : ∀ {A b B : Bs}, u ++ b = A ++ x :: B → ∃ c, A = u ++ c := by
  induction u with
  | nil => intro A b B _; exact ⟨A, rfl⟩
  | cons z u ih =>
    intro A b B h
    cases A with
    | nil => simp only [List.cons_append, List.nil_append, List.cons.injEq] at h; exact absurd (h.1 ▸ List.mem_cons_self) hx
    | cons y A =>
      simp only [List.cons_append, List.cons.injEq] at h
      obtain ⟨c, rfl⟩ := ih (fun hm => hx (List.mem_cons_of_mem _ hm)) h.2
      exact ⟨c, by rw [h.1]; rfl⟩
theorem occ_split {u : Bs} {x : UInt8} (hx : x ∉ u) (hu : u ≠ []) : ∀ {A B : Bs}, Occ u (A ++ x :: B) → Occ u A ∨ Occ u B := by
  intro A
  induction A with
  | nil =>
    rintro B ⟨a, b, h⟩
    cases a with
    | nil =>
      cases u with
      | nil => exact absurd rfl hu
      | cons z u => simp only [List.nil_append, List.cons_append, List.cons.injEq] at h; exact absurd (h.1 ▸ List.mem_cons_self) hx
    | cons y a => simp only [List.nil_append, List.cons_append, List.cons.injEq] at h; exact .inr ⟨a, b, h.2⟩
  | cons y A ih =>
    rintro B ⟨a, b, h⟩
    cases a with
    | nil =>
      rw [List.nil_append] at h
      obtain ⟨c, hc⟩ := occ_pre hx h.symm
      exact .inl ⟨[], c, by rw [hc]; rfl⟩
    | cons z a =>
      simp only [List.cons_append, List.cons.injEq] at h
      rcases ih ⟨a, b, h.2⟩ with ⟨a', b', h'⟩ | h'
      · exact .inl ⟨y :: a', b', by rw [h']; rfl⟩
      · exact .inr h'
theorem Occ.left {u s t : Bs} (h : Occ u s) : Occ u (s ++ t) := by obtain ⟨a, b, rfl⟩ := h; exact ⟨a, b ++ t, by simp⟩
theorem Occ.right {u s t : Bs} (h : Occ u t) : Occ u (s ++ t) := by obtain ⟨a, b, rfl⟩ := h; exact ⟨s ++ a, b, by simp⟩
theorem Occ.mem {u s : Bs} {x : UInt8} (h : Occ u s) (hx : x ∈ u) : x ∈ s := by obtain ⟨a, b, rfl⟩ := h; simp [hx]
theorem Occ.pre {u s t : Bs} (h : Occ u s) (hp : s <+: t) : Occ u t := by obtain ⟨r, rfl⟩ := hp; exact h.left
abbrev secretR : Bs := [115, 101, 99, 114, 101, 116]
theorem num_not (n : Nat) (h : n ≤ 90) : UInt8.ofNat n ∉ secretR := by
  intro hm
  have h1 : (UInt8.ofNat n).toNat = n := ofNat_toNat (by omega)
  simp only [secretR, List.mem_cons, List.not_mem_nil, or_false] at hm
  rcases hm with hm | hm | hm | hm | hm | hm <;> (rw [hm] at h1; simp at h1; omega)
theorem occ_frames (tl : List Bs) (ht : ∀ r ∈ tl, r.length ≤ 90) : ∀ sn : Bs, Occ secretR (sn ++ tl.flatMap frameR) → Occ secretR sn ∨ ∃ r ∈ tl, Occ secretR r := by
  induction tl with
  | nil => intro sn h; rw [List.flatMap_nil, List.append_nil] at h; exact .inl h
  | cons r tl ih =>
    intro sn h
    have hr := ht r (by simp)
    rw [List.flatMap_cons, show frameR r = 1 :: UInt8.ofNat r.length :: r from by unfold frameR; rw [numR_small (by omega)]; rfl] at h
    rw [List.cons_append] at h
    rcases occ_split (by decide) (by decide) h with h1 | h1
    · exact .inl h1
    · rw [List.cons_append] at h1
      rcases occ_split (A := []) (num_not _ hr) (by decide) h1 with h2 | h2
      · exact .inl (h2.left (s := []) (t := sn))
      · rcases ih (fun q hq => ht q (by simp [hq])) r h2 with h3 | ⟨q, hq, h3⟩
        · exact .inr ⟨r, by simp, h3⟩
        · exact .inr ⟨q, by simp [hq], h3⟩
theorem occ_join (tl : List Bs) (sep r : Bs) (hr : r ∈ tl) (h : Occ secretR r) : Occ secretR (Lib.join tl sep) := by
  cases tl with
  | nil => simp at hr
  | cons x tl =>
    rw [Lib.join_cons]
    simp only [List.mem_cons] at hr
    rcases hr with rfl | hr
    · exact h.left
    · refine Occ.right ?_
      unfold Lib.joinTail
      obtain ⟨s, t, rfl⟩ := List.append_of_mem hr
      simp only [List.map_append, List.map_cons, List.flatten_append, List.flatten_cons]
      exact Occ.right (h.right (s := sep)).left
theorem trim_pre (l : Bs) : trimR l <+: l := by
  unfold trimR
  have h := List.dropWhile_suffix (l := l.reverse) (p := (· == 0))
  have h2 := List.reverse_prefix.2 h
  rwa [List.reverse_reverse] at h2
/-- What the law says of clean contents. -/
theorem forgets_law (sn : Bs) (tl : List Bs) (hs : sn.length ≤ 90) (ht : ∀ r ∈ tl, r.length ≤ 90) (h : Lib.contains (sn ++ Lib.join tl [32]) secretR = false) : Lib.contains (trimR (cleanR sn tl)) secretR = false := by
  rw [← Bool.not_eq_true] at h ⊢
  rw [contains_iff] at h ⊢
  intro hc
  refine h ?_
  have h1 : Occ secretR (cleanR sn tl) := hc.pre (trim_pre _)
  have h2 : cleanR sn tl = zerosR 64 ++ UInt8.ofNat sn.length :: (sn ++ tl.flatMap frameR) := by
    unfold cleanR imageR; rw [numR_small (by omega)]; simp
  rw [h2] at h1
  rcases occ_split (num_not _ hs) (by decide) h1 with h3 | h3
  · have : (115 : UInt8) ∈ zerosR 64 := h3.mem (by decide)
    unfold zerosR at this
    have := List.eq_of_mem_replicate this
    exact absurd this (by decide)
  · rcases occ_frames tl ht sn h3 with h4 | ⟨r, hr, h4⟩
    · exact h4.left
    · exact (occ_join tl [32] r hr h4).right
end Go.Proofs.YtgdkdihedgiegaaDoor
