/-
  The walk of the reference's leader.
  Plain laws on the directory: what a leader without an error says, what the entries are.
-/
import Derived.Test.YtfkleeigdplapaaDoorW1
import Derived.Test.YtfkleeigdplapaaDoorFld
namespace Go.Proofs.YtfkleeigdplapaaDoor
open Go.RowKit

theorem numB_bd (l : Bs) : -1 ≤ numB l ∧ numB l < ((10 ^ l.length : Nat) : Int) := by
  by_cases h : l.all digitB = true
  · have := numFrom_le l h 0 (by omega)
    unfold numB
    constructor
    · omega
    · simpa using this.2
  · unfold numB
    rw [numFrom_bad l h]
    refine ⟨by omega, ?_⟩
    have : (0 : Int) ≤ ((10 ^ l.length : Nat) : Int) := Int.natCast_nonneg _
    omega
theorem numB_bd5 (l : Bs) (k : Nat) (hk : k ≤ 5) (h : l.length ≤ k) : -1 ≤ numB l ∧ numB l < 100000 := by
  have := numB_bd l
  have h5 : 10 ^ l.length ≤ 10 ^ 5 := Nat.pow_le_pow_right (by omega) (by omega)
  omega

theorem ge_getD (l : Bs) (i : Nat) (h : i < l.length) : l[i] = l.getD i 0 := by simp [List.getD, h]
theorem ret_pair {R : Int × Int} {x y : Int} (h : R = (x, y)) : Ending.returned (.tuple #[.int .i64 x, .int .i64 y]) = .returned (.tuple #[.int .i64 R.1, .int .i64 R.2]) := by rw [h]

set_option maxHeartbeats 4000000 in
set_option maxRecDepth 100000 in
theorem leader_70 (l : Bs) (w : World) (hl : l.length ≤ 100000000) :
   Calls Tryd.prog 70 #[S l] w fun e w' => e = .returned (.tuple #[.int .i64 (leaderR l).1, .int .i64 (leaderR l).2]) ∧ w = w' := by
  by_cases h24 : l.length < 24
  · have H : Hid (leaderR l = ((l.length : Int), 10)) := by unfold leaderR; rw [if_pos h24]; rfl
    rw [H.out]
    go_enter Tryd.func70, Tryd.ntmps70
    go_wp2_with fail
    go_ret2
    exact ⟨rfl, rfl⟩
  · obtain ⟨n, hn⟩ : ∃ n, numB (l.take 5) = n := ⟨_, rfl⟩
    obtain ⟨b, hb⟩ : ∃ b, numB (List.drop 12 (List.take 17 l)) = b := ⟨_, rfl⟩
    have hnb : -1 ≤ n ∧ n < 100000 := by rw [← hn]; exact numB_bd5 _ 5 (by omega) (by simp; omega)
    have hbb : -1 ≤ b ∧ b < 100000 := by rw [← hb]; exact numB_bd5 _ 5 (by omega) (by simp; omega)
    obtain ⟨hn1, hn2⟩ := hnb
    obtain ⟨hb1, hb2⟩ := hbb
    have hl24 : 24 ≤ l.length := by omega
    clear h24
    have HA : Hid (∀ W, Calls Tryd.prog 71 #[S (l.take 5)] W fun e w' => e = .returned (.int .i64 n) ∧ W = w') := by intro W; rw [← hn]; exact number_71 _ _ (by simp; omega)
    have HB : Hid (∀ W, Calls Tryd.prog 71 #[S (List.drop 12 (List.take 17 l))] W fun e w' => e = .returned (.int .i64 b) ∧ W = w') := by intro W; rw [← hb]; exact number_71 _ _ (by simp; omega)
    have H : Hid (leaderR l = if n < 0 then ((0, 12) : Int × Int) else if l.length < n then ((l.length : Int), (10 : Int)) else if n < l.length then (0, 12) else if !letterB (l.getD 6 0) then (6, 12) else if !letterB (l.getD 7 0) then (7, 12)
      else if ((l.getD 9 0).toNat : Int) ≠ 97 then (9, 12) else if List.drop 10 (List.take 12 l) ≠ [50, 50] then (10, 12) else if List.drop 20 (List.take 24 l) ≠ [52, 53, 48, 48] then (20, 12)
      else if b < 25 ∨ n ≤ b ∨ (b - 25) % 12 ≠ 0 ∨ ((l.getD (b.toNat - 1) 0).toNat : Int) ≠ 30 then (12, 12) else if 999 < (b - 25) / 12 then (12, 2) else if ((l.getD (n.toNat - 1) 0).toNat : Int) ≠ 29 then ((n - 1 : Int), 14) else (0, 0)) := by
      unfold leaderR
      rw [if_neg (by omega)]
      simp only [sub3, hn, hb]
      have h1 : ∀ c : UInt8, ((c.toNat : Int) ≠ 97) = (c ≠ 97) := fun c => propext (by rw [ne_eq, ne_eq, ← UInt8.toNat_inj]; simp; omega)
      have h2 : ∀ c : UInt8, ((c.toNat : Int) ≠ 30) = (c ≠ 30) := fun c => propext (by rw [ne_eq, ne_eq, ← UInt8.toNat_inj]; simp; omega)
      have h3 : ∀ c : UInt8, ((c.toNat : Int) ≠ 29) = (c ≠ 29) := fun c => propext (by rw [ne_eq, ne_eq, ← UInt8.toNat_inj]; simp; omega)
      rw [show (b - 1).toNat = b.toNat - 1 from by omega, show (n - 1).toNat = n.toNat - 1 from by omega]
      simp only [h1, h2, h3]
      exact trivial
    clear hn hb
    generalize leaderR l = R at *
    go_enter Tryd.func70, Tryd.ntmps70
    go_wp2_with (first
      | (go_at_call 71; ((with_reducible refine Calls.mono (HA.out _) ?_); rintro e w' ⟨rfl, rfl⟩))
      | (go_at_call 71; ((with_reducible refine Calls.mono (HB.out _) ?_); rintro e w' ⟨rfl, rfl⟩))
      | (go_at_call 54; refine (letter_54 _ _).mono ?_; rintro e w' ⟨rfl, rfl⟩))
    all_goals go_ret2
    all_goals refine ⟨ret_pair ?_, rfl⟩
    all_goals rw [H.out]
    all_goals go_tidy
    all_goals (clear HA HB H)
    all_goals (try simp only [Bool.not_eq_true', Bool.not_eq_false', bne_iff_ne, bne_eq_false_iff_eq, beq_eq_false_iff_ne, ne_eq, beq_iff_eq] at *)
    all_goals (try simp only [ge_getD] at *)
    all_goals repeat (first
      | with_reducible rfl
      | (refine (if_neg ?_).trans ?_; (first | omega | assumption | focus ((simp only [*] <;> simp); done)))
      | (refine (if_pos ?_).trans ?_; (first | omega | assumption | focus ((simp only [*] <;> simp); done))))
end Go.Proofs.YtfkleeigdplapaaDoor

namespace Go.Proofs.YtfkleeigdplapaaDoor
open Go.RowKit

theorem ite_snd {c : Prop} [Decidable c] {a b : Int × Int} (h : (if c then a else b).2 = 0) (ha : a.2 ≠ 0) : ¬ c ∧ b.2 = 0 := by
  by_cases hc : c
  · rw [if_pos hc] at h; exact absurd h ha
  · rw [if_neg hc] at h; exact ⟨hc, h⟩
theorem leader_ok (l : Bs) (h : (leaderR l).2 = 0) : ∃ N : Nat, numB (sub3 l 12 17) = 25 + 12 * N ∧ N ≤ 999 ∧ 25 + 12 * N < l.length ∧ (leaderR l).1 = 0 := by
  unfold leaderR at h ⊢
  dsimp only at h ⊢
  obtain ⟨c1, h⟩ := ite_snd h (show (((0, 10) : Int × Int)).2 ≠ 0 by decide)
  obtain ⟨c2, h⟩ := ite_snd h (by decide)
  obtain ⟨c3, h⟩ := ite_snd h (show (((0, 10) : Int × Int)).2 ≠ 0 by decide)
  obtain ⟨c4, h⟩ := ite_snd h (by decide)
  obtain ⟨c5, h⟩ := ite_snd h (by decide)
  obtain ⟨c6, h⟩ := ite_snd h (by decide)
  obtain ⟨c7, h⟩ := ite_snd h (by decide)
  obtain ⟨c8, h⟩ := ite_snd h (by decide)
  obtain ⟨c9, h⟩ := ite_snd h (by decide)
  obtain ⟨c10, h⟩ := ite_snd h (by decide)
  obtain ⟨c11, h⟩ := ite_snd h (by decide)
  obtain ⟨c12, h⟩ := ite_snd h (show (((0, 14) : Int × Int)).2 ≠ 0 by decide)
  clear h
  rw [if_neg c1, if_neg c2, if_neg c3, if_neg c4, if_neg c5, if_neg c6, if_neg c7, if_neg c8, if_neg c9, if_neg c10, if_neg c11, if_neg c12]
  simp only [not_or, Int.not_lt, ne_eq, Decidable.not_not] at c10
  exact ⟨((numB (sub3 l 12 17) - 25) / 12).toNat, by omega, by omega, by omega, rfl⟩

/-- Where the entries stand. -/
theorem entries_step (s : Bs) (size : Int) (n at_ : Nat) (sum : Int) : entriesR s size (n + 1) at_ sum =
    if !isTagB (sub3 s at_ (at_ + 3)) || decide (numB (sub3 s (at_ + 3) (at_ + 7)) < 1) || decide (numB (sub3 s (at_ + 7) (at_ + 12)) < 0) || decide (size < numB (sub3 s (at_ + 7) (at_ + 12)) + numB (sub3 s (at_ + 3) (at_ + 7))) || decide (size < sum + numB (sub3 s (at_ + 3) (at_ + 7))) then .error at_
    else match entriesR s size n (at_ + 12) (sum + numB (sub3 s (at_ + 3) (at_ + 7))) with
      | .ok l => .ok ((sub3 s at_ (at_ + 3), (numB (sub3 s (at_ + 3) (at_ + 7))).toNat, (numB (sub3 s (at_ + 7) (at_ + 12))).toNat) :: l)
      | .error e => .error e := rfl
theorem entries_at (s : Bs) (size : Int) (n : Nat) : ∀ (at_ : Nat) (sum : Int) (L : List (Bs × Nat × Nat)), entriesR s size n at_ sum = .ok L → L.length = n ∧ ∀ i, i < n →
    L[i]? = some (sub3 s (at_ + 12 * i) (at_ + 12 * i + 3), (numB (sub3 s (at_ + 12 * i + 3) (at_ + 12 * i + 7))).toNat, (numB (sub3 s (at_ + 12 * i + 7) (at_ + 12 * i + 12))).toNat) ∧
    isTagB (sub3 s (at_ + 12 * i) (at_ + 12 * i + 3)) = true ∧ 1 ≤ numB (sub3 s (at_ + 12 * i + 3) (at_ + 12 * i + 7)) ∧ 0 ≤ numB (sub3 s (at_ + 12 * i + 7) (at_ + 12 * i + 12)) ∧
    numB (sub3 s (at_ + 12 * i + 7) (at_ + 12 * i + 12)) + numB (sub3 s (at_ + 12 * i + 3) (at_ + 12 * i + 7)) ≤ size := by
  induction n with
  | zero => intro at_ sum L h; simp only [entriesR, Except.ok.injEq] at h; subst h; exact ⟨rfl, fun i hi => absurd hi (by omega)⟩
  | succ n ih =>
    intro at_ sum L h
    rw [entries_step] at h
    split at h
    · cases h
    · rename_i hc
      simp only [Bool.or_eq_true, Bool.not_eq_true', decide_eq_true_eq, not_or, Int.not_lt, Bool.not_eq_false] at hc
      cases hr : entriesR s size n (at_ + 12) (sum + numB (sub3 s (at_ + 3) (at_ + 7))) with
      | error e => rw [hr] at h; cases h
      | ok M =>
        rw [hr] at h
        cases h
        obtain ⟨h1, h2⟩ := ih _ _ _ hr
        refine ⟨by simp [h1], fun i hi => ?_⟩
        cases i with
        | zero => exact ⟨rfl, hc.1.1.1.1, hc.1.1.1.2, hc.1.1.2, hc.1.2⟩
        | succ i =>
          have h3 := h2 i (by omega)
          rw [show at_ + 12 * (i + 1) = at_ + 12 + 12 * i from by omega]
          rw [List.getElem?_cons_succ]
          exact h3
theorem fieldGo_err (text : Bool) (s : Bs) : ∀ (k : Nat) (prev : UInt8) (st : FS) (i : Int), fieldGo text s k prev st = .error i → (k : Int) - 1 ≤ i ∧ i ≤ k + s.length ∧ (s ≠ [] → (k : Int) ≤ i) := by
  induction s with
  | nil =>
    intro k prev st i h
    simp only [fieldGo] at h
    split at h
    · cases h
    · cases h; exact ⟨by omega, by simp; omega, fun h => absurd rfl h⟩
  | cons c l ih =>
    intro k prev st i h
    simp only [fieldGo] at h
    split at h
    · obtain ⟨h1, h2, _⟩ := ih _ _ _ _ h
      simp only [List.length_cons]
      exact ⟨by omega, by omega, fun _ => by omega⟩
    · cases h
      simp only [List.length_cons]
      exact ⟨by omega, by omega, fun _ => by omega⟩
theorem fieldR_err {tag s : Bs} {i : Int} (h : fieldR tag s = .error i) (hs : s ≠ []) : 0 ≤ i ∧ i ≤ s.length := by
  obtain ⟨_, h2, h3⟩ := fieldGo_err _ _ _ _ _ _ h
  have := h3 hs
  simp at this h2
  exact ⟨this, h2⟩
theorem fields_err {s : Bs} {b : Nat} {L : List (Bs × Nat × Nat)} {tag : Bs} {m k : Nat} {i : Int} (h : fieldR tag (sub3 s (b + k) (b + k + m)) = .error i) : fieldsR s b ((tag, m, k) :: L) = .error ((b : Int) + k + i) := by
  simp [fieldsR, h]
theorem fields_ok {s : Bs} {b : Nat} {L : List (Bs × Nat × Nat)} {tag : Bs} {m k : Nat} {f : FieldD} (h : fieldR tag (sub3 s (b + k) (b + k + m)) = .ok f) : fieldsR s b ((tag, m, k) :: L) = match fieldsR s b L with
    | .ok fs => .ok (f :: fs)
    | .error e => .error e := by
  simp only [fieldsR, h]
  cases fieldsR s b L <;> rfl
end Go.Proofs.YtfkleeigdplapaaDoor
