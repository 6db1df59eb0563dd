/-
  Numbers as bytes, plain: writing and reading one; reading what was written; what is read is what would be written.
  Images, plain: what a snapshot and a tail are as bytes, and what bytes are as a snapshot and a tail.
  Contents, plain: writing to them; opening them; the contents behind an opening are clean.
-/
import Derived.Test.YtgdkdihedgiegaaDoorA1
namespace Go.Proofs.YtgdkdihedgiegaaDoor

/-- The bytes of a number. -/
def numR (n : Nat) : Bs := if n < 128 then [UInt8.ofNat n] else UInt8.ofNat (n % 128 + 128) :: numR (n / 128)
termination_by n
decreasing_by omega
/-- The number that bytes stand for. -/
def valR : Bs → Nat
  | [] => 0
  | b :: t => b.toNat % 128 + 128 * valR t
/-- How many bytes have a byte of the number behind them. -/
def contR : Bs → Nat
  | [] => 0
  | b :: t => if b.toNat < 128 then 0 else contR t + 1
/-- The number at the beginning of bytes: the number, its size, the error. -/
def readNumR (s : Bs) : Nat × Nat × Int :=
  let t := s.take 10
  let i := contR t
  if i < t.length then (if (0 < i ∧ (t.getD i 0).toNat = 0) ∨ (i = 9 ∧ 1 < (t.getD i 0).toNat) then (0, 0, 11) else (valR (t.take (i + 1)), i + 1, 0))
  else if s.length < 10 then (0, 0, 10) else (0, 0, 11)

theorem numR_small {n : Nat} (h : n < 128) : numR n = [UInt8.ofNat n] := by rw [numR, if_pos h]
theorem numR_big {n : Nat} (h : ¬ n < 128) : numR n = UInt8.ofNat (n % 128 + 128) :: numR (n / 128) := by rw [numR, if_neg h]
theorem ofNat_toNat {n : Nat} (h : n < 256) : (UInt8.ofNat n).toNat = n := by rw [UInt8.toNat_ofNat']; omega
theorem u8_eq {a b : UInt8} (h : a.toNat = b.toNat) : a = b := by
  have := congrArg UInt8.ofNat h
  simpa [UInt8.ofNat_toNat] using this

/-- Bytes that are a number's: all but the last one have one behind them; the last one is not 0, but alone. -/
structure Canon (l : Bs) : Prop where
  shape : ∃ pre b, l = pre ++ [b] ∧ (∀ x ∈ pre, 128 ≤ x.toNat) ∧ b.toNat < 128 ∧ (pre ≠ [] → b.toNat ≠ 0)
theorem Canon.one {b : UInt8} (h : b.toNat < 128) : Canon [b] := ⟨⟨[], b, rfl, by simp, h, by simp⟩⟩
theorem numR_pos (n : Nat) : numR n ≠ [] := by
  by_cases h : n < 128
  · rw [numR_small h]; simp
  · rw [numR_big h]; simp
theorem canon_numR (n : Nat) : Canon (numR n) ∧ valR (numR n) = n ∧ (0 < n → ∃ pre b, numR n = pre ++ [b] ∧ b.toNat ≠ 0) := by
  induction n using Nat.strongRecOn with
  | ind n ih =>
    by_cases h : n < 128
    · rw [numR_small h]
      have hb : (UInt8.ofNat n).toNat = n := ofNat_toNat (by omega)
      exact ⟨.one (by omega), by simp only [valR, hb]; omega, fun h0 => ⟨[], _, rfl, by omega⟩⟩
    · rw [numR_big h]
      obtain ⟨⟨pre, b, hl, hp, hb, hz⟩, hv, hn⟩ := ih (n / 128) (by omega)
      have hc : (UInt8.ofNat (n % 128 + 128)).toNat = n % 128 + 128 := ofNat_toNat (by omega)
      obtain ⟨pre2, b2, hl2, hb2⟩ := hn (by omega)
      have hbb : b.toNat ≠ 0 := by
        have := hl.symm.trans hl2
        have := (List.append_inj' this rfl).2
        simp at this
        rw [this]; exact hb2
      refine ⟨⟨_ :: pre, b, by rw [hl]; rfl, ?_, hb, fun _ => hbb⟩, by simp only [valR, hc, hv]; omega, fun _ => ⟨_ :: pre, b, by rw [hl]; rfl, hbb⟩⟩
      intro x hx
      rcases List.mem_cons.1 hx with rfl | hx
      · omega
      · exact hp x hx
theorem val_pos : ∀ (pre : Bs) (b : UInt8), b.toNat < 128 → b.toNat ≠ 0 → 0 < valR (pre ++ [b])
  | [], b, h, h0 => by simp only [List.nil_append, valR]; omega
  | c :: pre, b, h, h0 => by have := val_pos pre b h h0; simp only [List.cons_append, valR]; omega
/-- What is read is what would be written. -/
theorem numR_val : ∀ (pre : Bs) (b : UInt8), (∀ x ∈ pre, 128 ≤ x.toNat) → b.toNat < 128 → (pre ≠ [] → b.toNat ≠ 0) → numR (valR (pre ++ [b])) = pre ++ [b]
  | [], b, _, h, _ => by
    simp only [List.nil_append, valR]
    rw [numR_small (by omega), Nat.mul_zero, Nat.add_zero, Nat.mod_eq_of_lt h, UInt8.ofNat_toNat]
  | c :: pre, b, hp, h, hz => by
    have h0 := val_pos pre b h (hz (by simp))
    have hc := hp c (by simp)
    have hc2 := c.toNat_lt
    simp only [List.cons_append, valR]
    rw [numR_big (by omega)]
    have e1 : (c.toNat % 128 + 128 * valR (pre ++ [b])) / 128 = valR (pre ++ [b]) := by omega
    have e2 : (c.toNat % 128 + 128 * valR (pre ++ [b])) % 128 + 128 = c.toNat := by omega
    rw [e1, e2, UInt8.ofNat_toNat, numR_val pre b (fun x hx => hp x (by simp [hx])) h (fun _ => hz (by simp))]
theorem contR_le (l : Bs) : contR l ≤ l.length := by
  induction l with
  | nil => simp [contR]
  | cons b l ih => simp only [contR]; split <;> simp <;> omega
theorem contR_app (pre : Bs) (b : UInt8) (z : Bs) (hp : ∀ x ∈ pre, 128 ≤ x.toNat) (hb : b.toNat < 128) : contR (pre ++ b :: z) = pre.length := by
  induction pre with
  | nil => simp [contR, hb]
  | cons c pre ih =>
    have := hp c (by simp)
    simp only [List.cons_append, contR, List.length_cons]
    rw [if_neg (by omega), ih (fun x hx => hp x (by simp [hx]))]
theorem contR_split (l : Bs) (h : contR l < l.length) : ∃ pre b z, l = pre ++ b :: z ∧ pre.length = contR l ∧ (∀ x ∈ pre, 128 ≤ x.toNat) ∧ b.toNat < 128 := by
  induction l with
  | nil => simp at h
  | cons c l ih =>
    by_cases hc : c.toNat < 128
    · exact ⟨[], c, l, rfl, by simp [contR, hc], by simp, hc⟩
    · simp only [contR, if_neg hc, List.length_cons] at h ⊢
      obtain ⟨pre, b, z, h1, h2, h3, h4⟩ := ih (by omega)
      refine ⟨c :: pre, b, z, by rw [h1]; rfl, by simp [h2], ?_, h4⟩
      intro x hx
      rcases List.mem_cons.1 hx with rfl | hx
      · omega
      · exact h3 x hx
theorem val_lt (l : Bs) : valR l < 128 ^ l.length := by
  induction l with
  | nil => simp [valR]
  | cons b l ih => simp only [valR, List.length_cons, Nat.pow_succ]; omega
theorem numR_len_le (n : Nat) : ∀ k, n < 128 ^ (k + 1) → (numR n).length ≤ k + 1 := by
  induction n using Nat.strongRecOn with
  | ind n ih =>
    intro k hk
    by_cases h : n < 128
    · rw [numR_small h]; simp
    · rw [numR_big h]
      cases k with
      | zero => simp at hk; omega
      | succ k =>
        have := ih (n / 128) (by omega) k (by rw [Nat.pow_succ] at hk; omega)
        simp; omega
theorem numR_len_pos (n : Nat) : 1 ≤ (numR n).length := by have := numR_pos n; cases h : numR n with | nil => exact absurd h this | cons => simp
/-- Reading what was written. -/
theorem read_num (n : Nat) (z : Bs) (h : n < 128 ^ 9) : readNumR (numR n ++ z) = (n, (numR n).length, 0) := by
  obtain ⟨⟨pre, b, hl, hp, hb, hz⟩, hv, _⟩ := canon_numR n
  have hlen := numR_len_le n 8 h
  have hll : (numR n).length = pre.length + 1 := by rw [hl]; simp
  have ht : (numR n ++ z).take 10 = pre ++ b :: (z.take (10 - (pre.length + 1))) := by
    rw [List.take_append, hll, List.take_of_length_le (by omega), hl]; simp
  unfold readNumR
  rw [ht]
  simp only [contR_app _ _ _ hp hb, List.length_append, List.length_cons]
  rw [if_pos (by omega)]
  have hg : (pre ++ b :: z.take (10 - (pre.length + 1))).getD pre.length 0 = b := by simp
  rw [hg, if_neg (by
    intro hh
    rcases hh with hh | hh
    · exact hz (by intro e; rw [e] at hh; simp at hh) hh.2
    · omega)]
  have htk : (pre ++ b :: z.take (10 - (pre.length + 1))).take (pre.length + 1) = pre ++ [b] := by
    rw [show pre ++ b :: z.take (10 - (pre.length + 1)) = (pre ++ [b]) ++ z.take (10 - (pre.length + 1)) from by simp, List.take_left' (by simp)]
  rw [htk, ← hl, hv, hll]
theorem read_form (s : Bs) (n k : Nat) (h : readNumR s = (n, k, 0)) : ∃ z, s = numR n ++ z ∧ k = (numR n).length ∧ n < 2 ^ 64 ∧ k ≤ 10 := by
  unfold readNumR at h
  by_cases hc : contR (s.take 10) < (s.take 10).length
  · simp only [if_pos hc] at h
    obtain ⟨pre, b, z, h1, h2, h3, h4⟩ := contR_split _ hc
    rw [← h2, h1] at h
    have hg : (pre ++ b :: z).getD pre.length 0 = b := by simp
    have htk : (pre ++ b :: z).take (pre.length + 1) = pre ++ [b] := by
      rw [show pre ++ b :: z = (pre ++ [b]) ++ z from by simp, List.take_left' (by simp)]
    rw [hg, htk] at h
    by_cases hbad : (0 < pre.length ∧ b.toNat = 0) ∨ (pre.length = 9 ∧ 1 < b.toNat)
    · rw [if_pos hbad] at h
      have := congrArg (fun p : Nat × Nat × Int => p.2.2) h
      simp at this
    · rw [if_neg hbad] at h
      have hn := congrArg (fun p : Nat × Nat × Int => p.1) h
      have hk := congrArg (fun p : Nat × Nat × Int => p.2.1) h
      simp only at hn hk
      have hnum : numR n = pre ++ [b] := by
        rw [← hn]
        exact numR_val pre b h3 h4 (fun hne h0 => hbad (.inl ⟨List.length_pos_iff.2 hne, h0⟩))
      have hlen : (s.take 10).length ≤ 10 := by simp; omega
      rw [h1] at hlen
      simp at hlen
      refine ⟨z ++ s.drop 10, ?_, by rw [hnum]; simp; omega, ?_, by omega⟩
      · rw [hnum]
        have := List.take_append_drop 10 s
        rw [h1] at this
        exact this.symm.trans (by simp)
      · have hv := val_lt (pre ++ [b])
        rw [hn] at hv
        simp only [List.length_append, List.length_cons, List.length_nil, Nat.zero_add] at hv
        by_cases h9 : pre.length = 9
        · have hb1 : b.toNat ≤ 1 := by
            apply Classical.byContradiction; intro hb2; exact hbad (.inr ⟨h9, by omega⟩)
          have hva : ∀ (p : Bs) (b : UInt8), valR (p ++ [b]) = valR p + 128 ^ p.length * (b.toNat % 128) := by
            intro p b
            induction p with
            | nil => simp [valR]
            | cons c p ih => simp only [List.cons_append, valR, ih, List.length_cons, Nat.pow_succ, Nat.mul_add, ← Nat.mul_assoc]; rw [Nat.mul_comm 128 (128 ^ p.length)]; omega
          have hp := val_lt pre
          rw [hva, h9] at hn
          rw [h9] at hp
          show n < 18446744073709551616
          have hb3 : b.toNat % 128 ≤ 1 := by omega
          have : (128 : Nat) ^ 9 * (b.toNat % 128) ≤ 128 ^ 9 * 1 := Nat.mul_le_mul_left _ hb3
          have e9 : (128 : Nat) ^ 9 = 9223372036854775808 := by decide
          rw [e9] at hn hp this
          omega
        · have h10 : pre.length + 1 ≤ 9 := by omega
          have := Nat.pow_le_pow_right (n := 128) (by omega) h10
          have e9 : (128 : Nat) ^ 9 = 9223372036854775808 := by decide
          rw [e9] at this
          show n < 18446744073709551616
          omega
  · simp only [if_neg hc] at h
    by_cases hs : s.length < 10
    · rw [if_pos hs] at h
      have := congrArg (fun p : Nat × Nat × Int => p.2.2) h
      simp at this
    · rw [if_neg hs] at h
      have := congrArg (fun p : Nat × Nat × Int => p.2.2) h
      simp at this
end Go.Proofs.YtgdkdihedgiegaaDoor

namespace Go.Proofs.YtgdkdihedgiegaaDoor

def frameR (r : Bs) : Bs := 1 :: (numR r.length ++ r)
def imageR (sn : Bs) (tl : List Bs) : Bs := numR sn.length ++ sn ++ tl.flatMap frameR
/-- A string with its length ahead, and what follows. -/
def pieceR (s : Bs) : Option (Bs × Bs) :=
  if (readNumR s).2.2 = 0 ∧ (readNumR s).1 ≤ s.length - (readNumR s).2.1 then some ((s.drop (readNumR s).2.1).take (readNumR s).1, s.drop ((readNumR s).2.1 + (readNumR s).1)) else none
def recsR : Nat → Bs → Option (List Bs × Bs)
  | _, [] => some ([], [])
  | f, b :: t => if b = 0 then some ([], b :: t) else if b = 1 then
      match f with
      | 0 => some ([], b :: t)
      | f + 1 => match pieceR t with
        | none => none
        | some (r, z) => match recsR f z with
          | none => none
          | some (l, y) => some (r :: l, y)
    else none
/-- The snapshot, the tail, and the image's length. -/
def parseR (s : Bs) : Option (Bs × List Bs × Nat) :=
  if s = [] then some ([], [], 0) else match pieceR s with
    | none => none
    | some (sn, z) => match recsR z.length z with
      | none => none
      | some (l, y) => some (sn, l, s.length - y.length)

theorem piece_num (r z : Bs) (h : r.length < 128 ^ 9) : pieceR (numR r.length ++ r ++ z) = some (r, z) := by
  have hr := read_num r.length (r ++ z) h
  rw [← List.append_assoc] at hr
  unfold pieceR
  simp only [hr]
  rw [if_pos ⟨trivial, by simp⟩]
  congr 2
  · rw [List.append_assoc, List.drop_left, List.take_left]
  · rw [← List.drop_drop, List.append_assoc, List.drop_left, List.drop_left]
theorem piece_form (s r z : Bs) (h : pieceR s = some (r, z)) : s = numR r.length ++ r ++ z ∧ z.length < s.length := by
  unfold pieceR at h
  split at h
  · rename_i hc
    obtain ⟨y, h1, h2, h3, h4⟩ := read_form s (readNumR s).1 (readNumR s).2.1 (by rw [← hc.1])
    have hr := congrArg (fun o : Option (Bs × Bs) => o.map (·.1)) h
    have hz := congrArg (fun o : Option (Bs × Bs) => o.map (·.2)) h
    simp at hr hz
    have hl : r.length = (readNumR s).1 := by rw [← hr]; simp; omega
    have hd : s.drop (readNumR s).2.1 = r ++ z := by
      rw [← hr, ← hz, ← List.drop_drop, List.take_append_drop]
    have hy : y = r ++ z := by
      have h6 := congrArg (List.drop (numR (readNumR s).1).length) h1
      rw [List.drop_left, ← h2, hd] at h6
      exact h6.symm
    have hs : s = numR r.length ++ (r ++ z) := by rw [← hy, hl]; exact h1
    refine ⟨by rw [List.append_assoc]; exact hs, ?_⟩
    have := congrArg List.length hs
    have h5 := numR_len_pos r.length
    simp at this
    omega
  · cases h
theorem recs_image : ∀ (tl : List Bs) (z : Bs) (f : Nat), (z = [] ∨ ∃ y, z = 0 :: y) → (∀ r ∈ tl, r.length < 128 ^ 9) → tl.length ≤ f → recsR f (tl.flatMap frameR ++ z) = some (tl, z)
  | [], z, f, hz, _, _ => by
    rcases hz with rfl | ⟨y, rfl⟩
    · cases f <;> rfl
    · cases f <;> simp [recsR]
  | r :: tl, z, f, hz, hr, hf => by
    cases f with
    | zero => simp at hf
    | succ f =>
      have ih := recs_image tl z f hz (fun r hr' => hr r (by simp [hr'])) (by simpa using hf)
      have hp := piece_num r (tl.flatMap frameR ++ z) (hr r (by simp))
      simp only [List.flatMap_cons, frameR, List.cons_append, recsR]
      rw [if_neg (by decide), if_pos trivial, List.append_assoc, hp]
      simp only [ih]
theorem frames_len (tl : List Bs) : tl.length ≤ (tl.flatMap frameR).length := by
  induction tl with
  | nil => simp
  | cons r tl ih => rw [List.flatMap_cons, List.length_append]; simp only [List.length_cons, frameR]; omega
theorem parse_image (sn : Bs) (tl : List Bs) (z : Bs) (hz : z = [] ∨ ∃ y, z = 0 :: y) (hs : sn.length < 128 ^ 9) (hr : ∀ r ∈ tl, r.length < 128 ^ 9) : parseR (imageR sn tl ++ z) = some (sn, tl, (imageR sn tl).length) := by
  have hne : imageR sn tl ++ z ≠ [] := by
    have := numR_len_pos sn.length
    intro h
    have := congrArg List.length h
    simp [imageR] at this
    have h2 := numR_pos sn.length
    exact h2 this.1
  have hp := piece_num sn (tl.flatMap frameR ++ z) hs
  have hi : imageR sn tl ++ z = numR sn.length ++ sn ++ (tl.flatMap frameR ++ z) := by simp [imageR]
  unfold parseR
  rw [if_neg hne, hi, hp]
  simp only
  rw [recs_image tl z _ hz hr (by have := frames_len tl; rw [List.length_append]; omega)]
  simp only [imageR, List.length_append]
  congr 3
  omega
theorem recs_form : ∀ (f : Nat) (s : Bs) (l : List Bs) (y : Bs), recsR f s = some (l, y) → s.length ≤ f → s = l.flatMap frameR ++ y ∧ (y = [] ∨ ∃ x, y = 0 :: x)
  | f, [], l, y, h, _ => by
    have : recsR f [] = some ([], []) := by cases f <;> rfl
    rw [this] at h
    cases h
    simp
  | 0, b :: t, l, y, h, hf => by simp at hf
  | f + 1, b :: t, l, y, h, hf => by
    rw [recsR] at h
    by_cases h0 : b = 0
    · rw [if_pos h0] at h
      cases h
      exact ⟨rfl, .inr ⟨t, by rw [h0]⟩⟩
    · rw [if_neg h0] at h
      by_cases h1 : b = 1
      · rw [if_pos h1] at h
        cases hp : pieceR t with
        | none => rw [hp] at h; cases h
        | some rz =>
          obtain ⟨r, z⟩ := rz
          rw [hp] at h
          simp only at h
          obtain ⟨ht, hlt⟩ := piece_form t r z hp
          cases hq : recsR f z with
          | none => rw [hq] at h; cases h
          | some ly =>
            obtain ⟨l', y'⟩ := ly
            rw [hq] at h
            simp only at h
            cases h
            simp at hf
            obtain ⟨hz, hy⟩ := recs_form f z l' y hq (by omega)
            refine ⟨?_, hy⟩
            rw [List.flatMap_cons, h1, List.append_assoc, ← hz]
            rw (occs := [1]) [ht]
            simp [frameR]
      · rw [if_neg h1] at h; cases h
theorem parse_form (s sn : Bs) (tl : List Bs) (n : Nat) (h : parseR s = some (sn, tl, n)) : (s = [] ∧ sn = [] ∧ tl = [] ∧ n = 0) ∨ (n = (imageR sn tl).length ∧ ∃ z, s = imageR sn tl ++ z ∧ (z = [] ∨ ∃ x, z = 0 :: x)) := by
  unfold parseR at h
  by_cases hs : s = []
  · rw [if_pos hs] at h
    cases h
    exact .inl ⟨hs, rfl, rfl, rfl⟩
  · rw [if_neg hs] at h
    right
    cases hp : pieceR s with
    | none => rw [hp] at h; cases h
    | some rz =>
      obtain ⟨r, z⟩ := rz
      rw [hp] at h
      simp only at h
      obtain ⟨ht, hlt⟩ := piece_form s r z hp
      cases hq : recsR z.length z with
      | none => rw [hq] at h; cases h
      | some ly =>
        obtain ⟨l', y'⟩ := ly
        rw [hq] at h
        simp only at h
        cases h
        obtain ⟨hz, hy⟩ := recs_form z.length z tl y' hq (Nat.le_refl _)
        have he : s = imageR sn tl ++ y' := by
          rw [imageR, List.append_assoc, ← hz]; exact ht
        refine ⟨?_, y', he, hy⟩
        have := congrArg List.length he
        simp at this
        omega
end Go.Proofs.YtgdkdihedgiegaaDoor

namespace Go.Proofs.YtgdkdihedgiegaaDoor

def zerosR (n : Nat) : Bs := List.replicate n 0
/-- Bytes are written at an offset. -/
def putR (c : Bs) (off : Nat) (s : Bs) : Bs :=
  let d := c ++ zerosR (off + s.length - c.length)
  d.take off ++ s ++ d.drop (off + s.length)
theorem get_take (l : Bs) (n i : Nat) : (l.take n).getD i 0 = if i < n then l.getD i 0 else 0 := by
  simp only [List.getD_eq_getElem?_getD, List.getElem?_take]
  split <;> rfl
theorem get_drop (l : Bs) (n i : Nat) : (l.drop n).getD i 0 = l.getD (n + i) 0 := by
  simp only [List.getD_eq_getElem?_getD, List.getElem?_drop]
theorem get_app (a b : Bs) (i : Nat) : (a ++ b).getD i 0 = if i < a.length then a.getD i 0 else b.getD (i - a.length) 0 := by
  simp only [List.getD_eq_getElem?_getD, List.getElem?_append]
  split <;> rfl
theorem get_zeros (n i : Nat) : (zerosR n).getD i 0 = 0 := by
  simp only [zerosR, List.getD_eq_getElem?_getD, List.getElem?_replicate]
  split <;> rfl
theorem get_far (l : Bs) (i : Nat) (h : l.length ≤ i) : l.getD i 0 = 0 := by
  simp only [List.getD_eq_getElem?_getD, List.getElem?_eq_none h]; rfl
theorem zeros_len (n : Nat) : (zerosR n).length = n := by simp [zerosR]
theorem put_len (c : Bs) (off : Nat) (s : Bs) : (putR c off s).length = max c.length (off + s.length) := by
  simp [putR, zeros_len]; omega
theorem put_get (c : Bs) (off : Nat) (s : Bs) (i : Nat) : (putR c off s).getD i 0 = if off ≤ i ∧ i < off + s.length then s.getD (i - off) 0 else c.getD i 0 := by
  have hd : ∀ j, (c ++ zerosR (off + s.length - c.length)).getD j 0 = c.getD j 0 := by
    intro j
    rw [get_app, get_zeros]
    split
    · rfl
    · rw [get_far c j (by omega)]
  have hl : ((c ++ zerosR (off + s.length - c.length)).take off).length = off := by simp [zeros_len]; omega
  unfold putR
  simp only
  rw [get_app, get_app, get_take, get_drop, hd, hd]
  simp only [List.length_append, hl]
  by_cases h1 : i < off
  · rw [if_pos (by omega), if_pos h1, if_pos h1, if_neg (by omega)]
  · by_cases h2 : i < off + s.length
    · rw [if_pos h2, if_neg h1, if_pos (by omega)]
    · rw [if_neg h2, if_neg (by omega), show off + s.length + (i - (off + s.length)) = i from by omega]
def writesR (c : Bs) (l : List (Nat × Bs)) : Bs := l.foldl (fun c p => putR c p.1 p.2) c

/-- Contents without zeros at the end. -/
def trimR (l : Bs) : Bs := (l.reverse.dropWhile (· == 0)).reverse
theorem dropz_zeros (n : Nat) (l : Bs) : (zerosR n ++ l).dropWhile (· == 0) = l.dropWhile (· == 0) := by
  induction n with
  | zero => rfl
  | succ n ih => simp only [zerosR, List.replicate_succ, List.cons_append] at ih ⊢; rw [List.dropWhile_cons_of_pos (by decide)]; exact ih
theorem trim_zeros (l : Bs) (n : Nat) : trimR (l ++ zerosR n) = trimR l := by
  unfold trimR
  rw [List.reverse_append]
  have : (zerosR n).reverse = zerosR n := by simp [zerosR]
  rw [this, dropz_zeros]
theorem ext_get (a b : Bs) (hl : a.length = b.length) (h : ∀ i, a.getD i 0 = b.getD i 0) : a = b := by
  apply List.ext_getElem hl
  intro i h1 h2
  have := h i
  simpa [List.getD_eq_getElem?_getD, h1, h2] using this
theorem trim_eq (a b : Bs) (h : ∀ i, a.getD i 0 = b.getD i 0) : trimR a = trimR b := by
  rw [← trim_zeros a (b.length - a.length), ← trim_zeros b (a.length - b.length)]
  congr 1
  apply ext_get
  · simp [zeros_len]; omega
  · intro i
    rw [get_app, get_app, get_zeros, get_zeros]
    have h1 := get_far a i
    have h2 := get_far b i
    have h3 := h i
    split <;> split <;> first | exact h3 | rfl | (rw [h3]; exact h2 (by omega)) | (rw [← h3]; exact (h1 (by omega)).symm)

/-- The clean contents of a state. -/
def cleanR (sn : Bs) (tl : List Bs) : Bs := zerosR 64 ++ imageR sn tl
theorem clean_get (sn : Bs) (tl : List Bs) (i : Nat) : (cleanR sn tl).getD i 0 = if i < 64 then 0 else (imageR sn tl).getD (i - 64) 0 := by
  rw [cleanR, get_app, zeros_len, get_zeros]

/-- The number in the bytes from a place on, the last byte first. -/
def ptrR : Bs → Nat
  | [] => 0
  | b :: t => b.toNat + 256 * ptrR t
def copiedR (c : Bs) : Option Nat :=
  if c.length < 9 ∨ c.getD 0 0 ≠ 1 then none else
    let k := ptrR ((c.drop 1).take 8)
    if k % 64 = 0 ∧ 128 ≤ k ∧ k < c.length then some k else none
def dirtyR (c : Bs) (from_ to : Nat) : List (Nat × Bs) :=
  let a := min from_ c.length
  let b := min to c.length
  if (c.take b).drop a = zerosR (b - a) then [] else [(a, zerosR (b - a))]
def stepsR (c : Bs) (n : Nat) : List (Nat × Bs) := dirtyR c 0 64 ++ dirtyR c (64 + n) c.length
def finishR (k size : Nat) (x : Bs) : List (Nat × Bs) := [(64, x ++ zerosR (k - 64 - x.length)), (0, zerosR 9), (k, zerosR (size - k))]
/-- Opening contents: the snapshot, the tail, the image as it stands there, what is written. -/
def openR (c : Bs) : Option (Bs × List Bs × Bs × List (Nat × Bs)) :=
  match copiedR c with
  | some k => match parseR (c.drop k) with
    | none => none
    | some (sn, tl, n) => if k - 64 ≤ n then none else some (sn, tl, (c.drop k).take n, finishR k c.length ((c.drop k).take n) ++ [(9, zerosR 55)])
  | none => if c ≠ [] ∧ c.getD 0 0 ≠ 0 then none else match parseR (c.drop (min 64 c.length)) with
    | none => none
    | some (sn, tl, n) => some (sn, tl, (c.drop (min 64 c.length)).take n, stepsR c n)

theorem parse_le (s sn : Bs) (tl : List Bs) (n : Nat) (h : parseR s = some (sn, tl, n)) : n ≤ s.length ∧ (∀ i, (s.take n).getD i 0 = (imageR sn tl).getD i 0) := by
  rcases parse_form s sn tl n h with ⟨rfl, rfl, rfl, rfl⟩ | ⟨hn, z, hs, _⟩
  · refine ⟨Nat.le_refl _, fun i => ?_⟩
    have : imageR [] [] = [0] := by simp [imageR, numR_small]
    rw [this]
    cases i <;> simp
  · refine ⟨by rw [hs, hn]; simp, fun i => ?_⟩
    rw [hn, hs, List.take_left' rfl]
theorem dirty_get (c d : Bs) (a b i : Nat) (hd : ∀ i, min a c.length ≤ i → i < min b c.length → d.getD i 0 = c.getD i 0) (hl : d.length = c.length) (hab : min a c.length ≤ min b c.length) :
    (writesR d (dirtyR c a b)).getD i 0 = (if a ≤ i ∧ i < b then 0 else d.getD i 0) ∧ (writesR d (dirtyR c a b)).length = c.length := by
  unfold dirtyR
  simp only
  split
  · rename_i hz
    refine ⟨?_, hl⟩
    simp only [writesR, List.foldl_nil]
    split
    · rename_i hi
      by_cases hc : i < c.length
      · have := congrArg (fun l : Bs => l.getD (i - min a c.length) 0) hz
        simp only [get_drop, get_take, get_zeros] at this
        rw [if_pos (by omega)] at this
        rw [hd i (by omega) (by omega)]
        rw [← this]
        congr 1; omega
      · exact get_far d i (by omega)
    · rfl
  · simp only [writesR, List.foldl_cons, List.foldl_nil, put_len, put_get, get_zeros, zeros_len]
    refine ⟨?_, by omega⟩
    by_cases hi : a ≤ i ∧ i < b
    · rw [if_pos hi]
      split
      · rfl
      · exact get_far d i (by omega)
    · rw [if_neg hi, if_neg (by omega)]
theorem open_clean (c sn : Bs) (tl : List Bs) (x : Bs) (st : List (Nat × Bs)) (h : openR c = some (sn, tl, x, st)) :
    (∀ i, (writesR c st).getD i 0 = (cleanR sn tl).getD i 0) ∧ (writesR c st).length = c.length ∧ (x = imageR sn tl ∨ (x = [] ∧ sn = [] ∧ tl = [])) ∧ (64 + (imageR sn tl).length ≤ c.length ∨ (sn = [] ∧ tl = [])) := by
  unfold openR at h
  cases hk : copiedR c with
  | some k =>
    rw [hk] at h
    simp only at h
    cases hp : parseR (c.drop k) with
    | none => rw [hp] at h; cases h
    | some r =>
      obtain ⟨sn', tl', n⟩ := r
      rw [hp] at h
      simp only at h
      split at h
      · cases h
      · rename_i hn
        cases h
        have hk2 : 128 ≤ k ∧ k < c.length ∧ 9 ≤ c.length := by
          unfold copiedR at hk
          split at hk
          · cases hk
          · rename_i h9
            simp only at hk
            split at hk
            · rename_i h10; cases hk; exact ⟨h10.2.1, h10.2.2, by omega⟩
            · cases hk
        obtain ⟨hle, hg⟩ := parse_le _ _ _ _ hp
        have hpf := parse_form _ _ _ _ hp
        have hx : ((c.drop k).take n).length = n := by simp; simp at hle; omega
        simp only [List.length_drop] at hle
        refine ⟨fun i => ?_, ?_, ?_, ?_⟩
        · simp only [finishR, writesR, List.cons_append, List.nil_append, List.foldl_cons, List.foldl_nil, put_get, get_zeros, zeros_len, get_app, List.length_append, hx, clean_get]
          by_cases h64 : i < 64
          · rw [if_pos h64]
            split
            · rfl
            · rw [if_neg (by omega), if_pos (by omega)]
          · rw [if_neg h64, if_neg (by omega)]
            by_cases h1 : k ≤ i
            · have hz : (imageR sn tl).getD (i - 64) 0 = 0 := by rw [← hg, get_take, if_neg (by omega)]
              rw [hz]
              split
              · rfl
              · rw [if_neg (by omega), if_neg (by omega)]; exact get_far c i (by omega)
            · rw [if_neg (by omega), if_neg (by omega), if_pos (by omega)]
              split
              · exact hg _
              · rename_i hh
                rw [← hg, get_take, if_neg hh]
        · simp only [finishR, writesR, List.cons_append, List.nil_append, List.foldl_cons, List.foldl_nil, put_len, zeros_len, List.length_append, hx]
          omega
        · left
          rcases hpf with ⟨he, _⟩ | ⟨hn', z, hs, _⟩
          · have := congrArg List.length he; simp at this; omega
          · rw [hs, hn', List.take_left' rfl]
        · left
          rcases hpf with ⟨he, _⟩ | ⟨hn', z, hs, _⟩
          · have := congrArg List.length he; simp at this; omega
          · omega
  | none =>
    rw [hk] at h
    simp only at h
    split at h
    · cases h
    · cases hp : parseR (c.drop (min 64 c.length)) with
      | none => rw [hp] at h; cases h
      | some r =>
        obtain ⟨sn', tl', n⟩ := r
        rw [hp] at h
        simp only at h
        cases h
        obtain ⟨hle, hg⟩ := parse_le _ _ _ _ hp
        have hpf := parse_form _ _ _ _ hp
        simp only [List.length_drop] at hle
        have d1 := fun i => dirty_get c c 0 64 i (fun _ _ _ => rfl) rfl (by omega)
        have hw : writesR c (stepsR c n) = writesR (writesR c (dirtyR c 0 64)) (dirtyR c (64 + n) c.length) := by simp [writesR, stepsR]
        have d2 := fun i => dirty_get c (writesR c (dirtyR c 0 64)) (64 + n) c.length i (fun j h1 h2 => by rw [(d1 j).1, if_neg (by omega)]) (d1 0).2 (by omega)
        refine ⟨fun i => ?_, by rw [hw]; exact (d2 0).2, ?_, ?_⟩
        · rw [hw, (d2 i).1, (d1 i).1, clean_get]
          by_cases h64 : i < 64
          · rw [if_pos h64, if_neg (by omega), if_pos (by omega)]
          · rw [if_neg h64, ← hg, get_take, get_drop]
            by_cases hn : i < 64 + n
            · rw [if_neg (by omega), if_neg (by omega), if_pos (by omega)]
              congr 1; omega
            · rw [if_neg (by omega : ¬ i - 64 < n)]
              split
              · rfl
              · rw [if_neg (by omega)]; exact get_far c i (by omega)
        · rcases hpf with ⟨he, hs, ht, hn⟩ | ⟨hn', z, hs, _⟩
          · right; exact ⟨by rw [hn]; rfl, hs, ht⟩
          · left; rw [hs, hn', List.take_left' rfl]
        · rcases hpf with ⟨he, hs, ht, hn⟩ | ⟨hn', z, hs, _⟩
          · right; exact ⟨hs, ht⟩
          · left
            have h1 := congrArg List.length hs
            have h2 : (imageR sn tl).length ≠ 0 := by have := numR_len_pos sn.length; simp [imageR]; intro h3; exact absurd h3 (numR_pos _)
            simp at h1
            omega
end Go.Proofs.YtgdkdihedgiegaaDoor
