/-
  An interrupted call: what is on the disk behind a power failure opens to the state before the call.
-/
import Derived.Test.YtgdkdihedgiegaaDoorV26
namespace Go.Proofs.YtgdkdihedgiegaaDoor
open Go.RowKit

theorem chunks_in : ∀ (n off : Nat) (s : Bs), s.length ≤ n → (∀ p ∈ chunksR off s, off ≤ p.1 ∧ p.1 + p.2.length ≤ off + s.length) ∧ (chunksR off s).length ≤ s.length := by
  intro n
  induction n with
  | zero =>
    intro off s hs
    obtain rfl : s = [] := List.eq_nil_of_length_eq_zero (by omega)
    rw [chunks_nil]; simp
  | succ n ih =>
    intro off s hs
    by_cases h : s = []
    · subst h; rw [chunks_nil]; simp
    · have hl : 0 < s.length := List.length_pos_iff.2 h
      obtain ⟨m, hm⟩ : ∃ m, m = min (64 - off % 64) s.length := ⟨_, rfl⟩
      have h0 : 0 < m := by omega
      rw [chunks_cons off s h m hm]
      obtain ⟨h1, h2⟩ := ih (off + m) (s.drop m) (by rw [List.length_drop]; omega)
      rw [List.length_drop] at h1 h2
      refine ⟨fun p hp => ?_, by rw [List.length_cons]; omega⟩
      rcases List.mem_cons.1 hp with rfl | hp
      · simp only [List.length_take]; omega
      · have := h1 p hp; omega
theorem crash_get (sv : List Int) : ∀ (ps : List (Nat × Bs)) (k : Nat) (c : Bs) (i : Nat), (∀ p ∈ ps, i < p.1) → (crashF sv k ps c).getD i 0 = c.getD i 0 := by
  intro ps
  induction ps with
  | nil => intro k c i _; rfl
  | cons p ps ih =>
    intro k c i h
    have hp := h p (by simp)
    rw [crashF, ih _ _ _ (fun q hq => h q (by simp [hq]))]
    split
    · rw [put_get, if_neg (by omega)]
    · rfl
theorem crash_len (sv : List Int) (B : Nat) : ∀ (ps : List (Nat × Bs)) (k : Nat) (c : Bs), (∀ p ∈ ps, p.1 + p.2.length ≤ B) → c.length ≤ B → c.length ≤ (crashF sv k ps c).length ∧ (crashF sv k ps c).length ≤ B := by
  intro ps
  induction ps with
  | nil => intro k c _ hc; exact ⟨Nat.le_refl _, hc⟩
  | cons p ps ih =>
    intro k c h hc
    have hp := h p (by simp)
    rw [crashF]
    split
    · have hl := put_len c p.1 p.2
      obtain ⟨h1, h2⟩ := ih (k + 1) (putR c p.1 p.2) (fun q hq => h q (by simp [hq])) (by rw [hl]; omega)
      exact ⟨by omega, h2⟩
    · exact ih (k + 1) c (fun q hq => h q (by simp [hq])) hc
theorem open_part {c sn : Bs} {tl : List Bs} (hg : ∀ i, i ≤ 64 + (imageR sn tl).length → c.getD i 0 = (cleanR sn tl).getD i 0) (hl : 64 + (imageR sn tl).length ≤ c.length ∨ (sn = [] ∧ tl = [])) (hs : sn.length < 128 ^ 9) (hr : ∀ r ∈ tl, r.length < 128 ^ 9) : ∃ x st, openR c = some (sn, tl, x, st) := by
  have h0 : c.getD 0 0 = 0 := by rw [hg 0 (by omega), clean_get, if_pos (by omega)]
  have hc : copiedR c = none := by
    unfold copiedR
    rw [if_pos (.inr (by rw [h0]; decide))]
  unfold openR
  rw [hc]
  simp only
  rw [if_neg (by rw [h0]; simp)]
  by_cases hle : 64 + (imageR sn tl).length ≤ c.length
  · have hd : c.drop (min 64 c.length) = imageR sn tl ++ c.drop (64 + (imageR sn tl).length) := by
      rw [Nat.min_eq_left (by omega)]
      apply ext_get
      · simp; omega
      · intro i
        rw [get_drop, get_app, get_drop]
        split
        · rw [hg _ (by omega), clean_get, if_neg (by omega), show 64 + i - 64 = i from by omega]
        · congr 1; omega
    rw [hd, parse_image sn tl _ (by
      cases hz : c.drop (64 + (imageR sn tl).length) with
      | nil => exact .inl rfl
      | cons x y =>
        have h1 : (c.drop (64 + (imageR sn tl).length)).getD 0 0 = 0 := by
          rw [get_drop, hg _ (by omega), clean_get, if_neg (by omega), get_far _ _ (by omega)]
        rw [hz] at h1
        simp at h1
        subst h1
        exact .inr ⟨y, rfl⟩) hs hr]
    exact ⟨_, _, rfl⟩
  · obtain ⟨rfl, rfl⟩ := hl.resolve_left hle
    have h1 := image_nil
    have hd : c.drop (min 64 c.length) = [] := List.drop_eq_nil_of_le (by rw [h1] at hle; omega)
    rw [hd]
    exact ⟨_, _, rfl⟩
/-- A clean disk whose power fails after f calls. -/
def failD (c : Bs) (f : Int) : DiskD := ⟨c, c, [], true, f⟩
theorem run_fail0 (c : Bs) (q : Nat × Bs) (st : List (Nat × Bs)) : runD (failD c 0) (q :: st) = (failD c 0, 70) := run_off c q st
theorem run_fail1 (c : Bs) (q : Nat × Bs) (st : List (Nat × Bs)) : runD (failD c 1) (q :: st) = (⟨putR c q.1 q.2, c, chunksR q.1 q.2, true, 0⟩, 70) := by
  have hw : writeD (failD c 1) q.1 q.2 = (⟨putR c q.1 q.2, c, chunksR q.1 q.2, true, 0⟩, 0) := by
    unfold writeD powerD failD; simp
  have hs : syncD ⟨putR c q.1 q.2, c, chunksR q.1 q.2, true, 0⟩ = (⟨putR c q.1 q.2, c, chunksR q.1 q.2, true, 0⟩, 70) := by
    unfold syncD powerD; simp
  have h1 : wsD (failD c 1) q.1 q.2 = (⟨putR c q.1 q.2, c, chunksR q.1 q.2, true, 0⟩, 70) := by
    unfold wsD; rw [hw, if_pos rfl]; exact hs
  rw [runD, h1, if_neg (show ¬ ((70 : Int) = 0) by decide)]
/-- What an interrupted call leaves. -/
structure Cut1 (D : DiskD) (c : Bs) (e : Nat) : Prop where
  syn : D.syn = c
  pcs : ∀ p ∈ D.pcs, e < p.1 ∧ p.1 + p.2.length ≤ 100000
  num : D.pcs.length ≤ 100000
theorem run_cut (c : Bs) (f : Int) (hf : f = 0 ∨ f = 1) (q : Nat × Bs) (st : List (Nat × Bs)) (e : Nat) (h1 : e < q.1) (h2 : q.1 + q.2.length ≤ 100000) : ∃ D', runD (failD c f) (q :: st) = (D', 70) ∧ Cut1 D' c e := by
  rcases hf with rfl | rfl
  · exact ⟨_, run_fail0 c q st, rfl, fun p hp => by simp [failD] at hp, by simp [failD]⟩
  · obtain ⟨h3, h4⟩ := chunks_in q.2.length q.1 q.2 (Nat.le_refl _)
    exact ⟨_, run_fail1 c q st, rfl, fun p hp => by have := h3 p hp; omega, Nat.le_trans h4 (by omega)⟩
/-- What is left behind the failure opens to the state before the call. -/
theorem crash_open {D : DiskD} {c sn : Bs} {tl : List Bs} (h : Cut1 D c (64 + (imageR sn tl).length)) (hc : CleanC c sn tl) (hf : (imageR sn tl).length ≤ 20000) (hcl : c.length ≤ 100000) (sv : List Int) :
    (∃ x st, openR (crashR D sv) = some (sn, tl, x, st)) ∧ (crashR D sv).length ≤ 100000 := by
  have hl := crash_len sv 100000 D.pcs 0 D.syn (fun p hp => (h.pcs p hp).2) (by rw [h.syn]; omega)
  refine ⟨open_part (fun i hi => ?_) ?_ (by have := snap_len sn tl; omega) (fun r hr => by have := rec_len sn tl r hr; omega), hl.2⟩
  · unfold crashR
    rw [crash_get sv D.pcs 0 D.syn i (fun p hp => by have := h.pcs p hp; omega), h.syn]
    exact hc.get i
  · have h1 : c.length ≤ (crashR D sv).length := Nat.le_trans (Nat.le_of_eq (by rw [h.syn])) hl.1
    rcases hc.len with h2 | h2
    · exact .inl (Nat.le_trans h2 h1)
    · exact .inr h2
end Go.Proofs.YtgdkdihedgiegaaDoor
