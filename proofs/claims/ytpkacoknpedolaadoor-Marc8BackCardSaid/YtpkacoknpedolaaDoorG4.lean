/-
  Marc8Parts, plain: a text is decoded piece by piece.
-/
import Derived.Test.YtpkacoknpedolaaDoorG1
namespace Go.Proofs.YtpkacoknpedolaaDoor
open Go.RowKit

theorem opened_one (a : UInt8) : openedR [a] = if a = 40 then .error 10 else .error 15 := rfl
theorem opened_more (a b : UInt8) (r : Bs) : openedR (a :: b :: r) = if a ≠ 40 then .error 15 else if b = 66 then .ok 0 else if b = 83 then .ok 1 else if b = 78 then .ok 2 else .error 15 := rfl
theorem opened_two (a b : UInt8) (r : Bs) : openedR (a :: b :: r) = openedR [a, b] := rfl
theorem opened_app {r q : Bs} {n : Nat} (h : openedR r = .ok n) : openedR (r ++ q) = .ok n := by
  match r, h with
  | [], h => exact absurd h (by simp [openedR])
  | [a], h => exact absurd h (by rw [opened_one]; split <;> simp)
  | a :: b :: r, h => exact h
theorem opened_err {r : Bs} {e : Int} (h : openedR r = .error e) : e = 10 ∨ e = 15 := by
  match r, h with
  | [], h => left; injection h with h; exact h.symm
  | [a], h =>
    rw [opened_one] at h
    split at h
    · left; injection h with h; exact h.symm
    · right; injection h with h; exact h.symm
  | a :: b :: r, h =>
    right
    rw [opened_more] at h
    split at h
    · injection h with h; exact h.symm
    · split at h
      · cases h
      · split at h
        · cases h
        · split at h
          · cases h
          · injection h with h; exact h.symm
theorem opened_app15 {r q : Bs} (h : openedR r = .error 15) : openedR (r ++ q) = .error 15 := by
  match r, h with
  | [], h => exact absurd h (by simp [openedR])
  | [a], h =>
    have ha : a ≠ 40 := by
      intro e
      subst e
      exact absurd h (by rw [opened_one]; simp)
    cases q with
    | nil => exact h
    | cons b q => show openedR (a :: b :: q) = _; rw [opened_more, if_pos ha]
  | a :: b :: r, h => exact h
theorem stepL_app {b : UInt8} {r q : Bs} {k : Nat} {d d' : DS} {n : Nat} (h : stepL b r k d = .ok (d', n)) : stepL b (r ++ q) k d = .ok (d', n) ∧ n ≤ r.length := by
  unfold stepL at h ⊢
  split at h
  · rename_i h1
    rw [if_pos h1]
    split at h
    · cases h
    · rename_i h2
      rw [if_neg h2]
      split at h
      · rename_i h3
        rw [if_pos h3]
        injection h with h
        injection h with h5 h4
        subst h4 h5
        exact ⟨rfl, by omega⟩
      · rename_i h3
        rw [if_neg h3]
        split at h
        · cases h
        · rename_i m ho
          rw [opened_app ho]
          have := opened_len ho
          injection h with h
          injection h with h4 h5
          subst h4 h5
          exact ⟨rfl, this⟩
  · rename_i h1
    rw [if_neg h1]
    refine ⟨h, ?_⟩
    split at h
    · injection h with h; injection h with _ h; omega
    · split at h
      · injection h with h; injection h with _ h; omega
      · cases h
theorem stepL_err {b : UInt8} {r : Bs} {k i : Nat} {d : DS} {e : Int} (h : stepL b r k d = .error (i, e)) : i = k ∧ (e = 10 ∨ e = 15) ∧ ∀ q, e = 15 → stepL b (r ++ q) k d = .error (i, e) := by
  unfold stepL at h
  split at h
  · rename_i h1
    split at h
    · rename_i h2
      injection h with h; injection h with h4 h5
      refine ⟨h4.symm, .inr h5.symm, fun q _ => ?_⟩
      unfold stepL; rw [if_pos h1, if_pos h2, h4, h5]
    · rename_i h2
      split at h
      · cases h
      · rename_i h3
        split at h
        · rename_i x ho
          injection h with h; injection h with h4 h5
          subst h4 h5
          refine ⟨rfl, opened_err ho, fun q he => ?_⟩
          subst he
          unfold stepL; rw [if_pos h1, if_neg h2, if_neg h3, opened_app15 ho]
        · cases h
  · rename_i h1
    split at h
    · cases h
    · rename_i h2
      split at h
      · cases h
      · rename_i h3
        injection h with h; injection h with h4 h5
        refine ⟨h4.symm, .inr h5.symm, fun q _ => ?_⟩
        unfold stepL; rw [if_neg h1, h2]; simp only; rw [h3, h4, h5]
theorem dec_app (q : Bs) : ∀ (m : Nat) (p : Bs) (k : Nat) (d : DS), p.length ≤ m →
    (∀ d', decW p k d = .ok d' → decW (p ++ q) k d = decW q (k + p.length) d') ∧ (∀ i e, decW p k d = .error (i, e) → (e = 10 ∨ e = 15) ∧ (e = 15 → decW (p ++ q) k d = .error (i, e))) := by
  intro m
  induction m with
  | zero =>
    intro p k d hm
    have : p = [] := List.eq_nil_of_length_eq_zero (by omega)
    subst this
    refine ⟨fun d' h => ?_, fun i e h => ?_⟩
    · rw [decW_nil] at h; injection h with h; subst h; rfl
    · rw [decW_nil] at h; cases h
  | succ m ih =>
    intro p k d hm
    cases p with
    | nil =>
      refine ⟨fun d' h => ?_, fun i e h => ?_⟩
      · rw [decW_nil] at h; injection h with h; subst h; rfl
      · rw [decW_nil] at h; cases h
    | cons b r =>
      have hr : r.length ≤ m := by simpa using hm
      rw [decW_cons]
      show (∀ d', _ → decW (b :: (r ++ q)) k d = _) ∧ ∀ i e, _ → _ ∧ (_ → decW (b :: (r ++ q)) k d = _)
      rw [decW_cons]
      cases hs : stepL b r k d with
      | error x =>
        obtain ⟨i, e⟩ := x
        obtain ⟨h1, h2, h3⟩ := stepL_err hs
        refine ⟨fun d' h => (by cases h), fun i' e' h => ?_⟩
        injection h with h; injection h with h4 h5
        subst h4 h5
        exact ⟨h2, fun he => by rw [h3 q he]⟩
      | ok x =>
        obtain ⟨d1, n⟩ := x
        obtain ⟨h1, h2⟩ := stepL_app (q := q) hs
        rw [h1]
        simp only
        have hd : (r ++ q).drop n = r.drop n ++ q := List.drop_append_of_le_length h2
        rw [hd]
        obtain ⟨g1, g2⟩ := ih (r.drop n) (k + 1 + n) d1 (by simp; omega)
        refine ⟨fun d' h => ?_, g2⟩
        rw [g1 d' h]
        congr 1
        simp; omega
/-- The same further on, behind a text that was read. -/
theorem dec_shift (N : Nat) (O : Bs) : ∀ (m : Nat) (q : Bs) (k : Nat) (d d2 : DS), q.length ≤ m → d2.out = O ++ d.out → d2.held = d.held → d2.now = d.now → (d.held ≠ [] → d2.first = N + d.first) →
    (∀ i e, decW q k d = .error (i, e) → decW q (N + k) d2 = .error (N + i, e)) ∧
    ∀ d', decW q k d = .ok d' → ∃ d2', decW q (N + k) d2 = .ok d2' ∧ d2'.out = O ++ d'.out ∧ d2'.held = d'.held ∧ (d'.held ≠ [] → d2'.first = N + d'.first) := by
  intro m
  induction m with
  | zero =>
    intro q k d d2 hm h1 h2 h3 h4
    have : q = [] := List.eq_nil_of_length_eq_zero (by omega)
    subst this
    refine ⟨fun i e h => (by rw [decW_nil] at h; cases h), fun d' h => ?_⟩
    rw [decW_nil] at h; injection h with h; subst h
    exact ⟨d2, rfl, h1, h2, h4⟩
  | succ m ih =>
    intro q k d d2 hm h1 h2 h3 h4
    cases q with
    | nil =>
      refine ⟨fun i e h => (by rw [decW_nil] at h; cases h), fun d' h => ?_⟩
      rw [decW_nil] at h; injection h with h; subst h
      exact ⟨d2, rfl, h1, h2, h4⟩
    | cons b r =>
      have hr : r.length ≤ m := by simpa using hm
      have hstep : (∀ i e, stepL b r k d = .error (i, e) → stepL b r (N + k) d2 = .error (N + i, e)) ∧
          ∀ d1 n, stepL b r k d = .ok (d1, n) → ∃ d3, stepL b r (N + k) d2 = .ok (d3, n) ∧ d3.out = O ++ d1.out ∧ d3.held = d1.held ∧ d3.now = d1.now ∧ (d1.held ≠ [] → d3.first = N + d1.first) := by
        unfold stepL
        by_cases c1 : b.toNat < 32
        · rw [if_pos c1, if_pos c1, h2]
          by_cases c2 : d.held ≠ []
          · rw [if_pos c2, if_pos c2]
            refine ⟨fun i e h => ?_, fun d1 n h => (by cases h)⟩
            injection h with h; injection h with h5 h6; subst h5 h6; rfl
          · rw [if_neg c2, if_neg c2]
            by_cases c3 : b ≠ 27
            · rw [if_pos c3, if_pos c3]
              refine ⟨fun i e h => (by cases h), fun d1 n h => ?_⟩
              injection h with h; injection h with h5 h6; subst h5 h6
              exact ⟨_, rfl, by simp [h1], rfl, h3, fun h => absurd h c2⟩
            · rw [if_neg c3, if_neg c3]
              cases openedR r with
              | error x =>
                refine ⟨fun i e h => ?_, fun d1 n h => (by cases h)⟩
                injection h with h; injection h with h5 h6; subst h5 h6; rfl
              | ok x =>
                refine ⟨fun i e h => (by cases h), fun d1 n h => ?_⟩
                injection h with h; injection h with h5 h6; subst h5 h6
                exact ⟨_, rfl, h1, rfl, rfl, fun h => absurd h c2⟩
        · rw [if_neg c1, if_neg c1]
          cases look marksT b.toNat with
          | some m =>
            refine ⟨fun i e h => (by cases h), fun d1 n h => ?_⟩
            injection h with h; injection h with h5 h6; subst h5 h6
            refine ⟨_, rfl, h1, by simp [h2], h3, fun _ => ?_⟩
            simp only [h2]
            by_cases c4 : d.held = []
            · rw [if_pos c4, if_pos c4]
            · rw [if_neg c4, if_neg c4]; exact h4 c4
          | none =>
            simp only [h3]
            cases (if b.toNat < 128 then look (setT d.now) b.toNat else look uppersT b.toNat) with
            | some c =>
              refine ⟨fun i e h => (by cases h), fun d1 n h => ?_⟩
              injection h with h; injection h with h5 h6; subst h5 h6
              exact ⟨_, rfl, by simp [h1, h2], rfl, rfl, fun h => absurd rfl h⟩
            | none =>
              refine ⟨fun i e h => ?_, fun d1 n h => (by cases h)⟩
              injection h with h; injection h with h5 h6; subst h5 h6; rfl
      rw [decW_cons, decW_cons]
      cases hs : stepL b r k d with
      | error x =>
        obtain ⟨i, e⟩ := x
        rw [hstep.1 i e hs]
        refine ⟨fun i' e' h => ?_, fun d' h => (by cases h)⟩
        injection h with h; injection h with h5 h6; subst h5 h6; rfl
      | ok x =>
        obtain ⟨d1, n⟩ := x
        obtain ⟨d3, g0, g1, g2, g3, g4⟩ := hstep.2 d1 n hs
        rw [g0]
        simp only
        have := ih (r.drop n) (k + 1 + n) d1 d3 (by simp; omega) g1 g2 g3 g4
        rw [show N + k + 1 + n = N + (k + 1 + n) by omega]
        exact this
/-- A text that ends by going back to ASCII. -/
theorem dec_esc : ∀ (m : Nat) (p : Bs) (k : Nat) (d d' : DS), p.length ≤ m → decW (p ++ [27, 40, 66]) k d = .ok d' → d'.held = [] ∧ d'.now = 0 := by
  have h0 : ∀ (k : Nat) (d d' : DS), decW [27, 40, 66] k d = .ok d' → d'.held = [] ∧ d'.now = 0 := by
    intro k d d' h
    rw [decW_cons] at h
    by_cases c : d.held = []
    · have hs : stepL 27 [40, 66] k d = .ok ({ d with now := 0 }, 2) := by
        unfold stepL
        rw [if_pos (by decide), if_neg (by simp [c]), if_neg (by decide)]
        rfl
      rw [hs] at h
      injection h with h
      subst h
      exact ⟨c, rfl⟩
    · have hs : stepL 27 [40, 66] k d = .error (k, 15) := by
        unfold stepL
        rw [if_pos (by decide), if_pos c]
      rw [hs] at h
      cases h
  intro m
  induction m with
  | zero =>
    intro p k d d' hm h
    have : p = [] := List.eq_nil_of_length_eq_zero (by omega)
    subst this
    exact h0 k d d' h
  | succ m ih =>
    intro p k d d' hm h
    cases p with
    | nil => exact h0 k d d' h
    | cons b r =>
      have hr : r.length ≤ m := by simpa using hm
      have h : decW (b :: (r ++ [27, 40, 66])) k d = .ok d' := h
      rw [decW_cons] at h
      cases hs : stepL b (r ++ [27, 40, 66]) k d with
      | error x => rw [hs] at h; cases h
      | ok x =>
        obtain ⟨d1, n⟩ := x
        rw [hs] at h
        simp only at h
        have hn : n ≤ r.length := by
          unfold stepL at hs
          split at hs
          · split at hs
            · cases hs
            · split at hs
              · injection hs with hs; injection hs with _ hs; omega
              · split at hs
                · cases hs
                · rename_i m' ho
                  injection hs with hs; injection hs with _ hs
                  match r, ho with
                  | [], ho => exact absurd ho (by rw [show ([] ++ [27, 40, 66] : Bs) = 27 :: 40 :: [66] from rfl, opened_more]; simp)
                  | [a], ho =>
                    exfalso
                    by_cases ha : a = 40
                    · subst ha; exact absurd ho (by rw [show ([40] ++ [27, 40, 66] : Bs) = 40 :: 27 :: [40, 66] from rfl, opened_more]; simp)
                    · have : openedR ([a] ++ [27, 40, 66]) = .error 15 := by
                        show openedR (a :: 27 :: [40, 66]) = _
                        rw [opened_more, if_pos ha]
                      rw [this] at ho; cases ho
                  | a :: c :: r, _ => simp; omega
          · split at hs
            · injection hs with hs; injection hs with _ hs; omega
            · split at hs
              · injection hs with hs; injection hs with _ hs; omega
              · cases hs
        rw [List.drop_append_of_le_length hn] at h
        exact ih (r.drop n) _ d1 d' (by simp; omega) h
/-- What the law says of three decodings. -/
def PartsOK (N : Nat) (x y z : Bs × Int × Int) : Prop := if x.2.2 ≠ 0 then (z.2.1 = x.2.1 ∧ z.2.2 = x.2.2) ∨ x.2.2 = 10 else if y.2.2 ≠ 0 then z.2.2 = y.2.2 ∧ z.2.1 = N + y.2.1 ∧ z.1 = [] else z.2.2 = 0 ∧ z.1 = x.1 ++ y.1
theorem parts_law (s0 t : Bs) : PartsOK (s0 ++ [27, 40, 66]).length (decodeR (s0 ++ [27, 40, 66])) (decodeR t) (decodeR (s0 ++ [27, 40, 66] ++ t)) := by
  rw [decodeR_W, decodeR_W t, decodeR_W (s0 ++ [27, 40, 66] ++ t)]
  obtain ⟨a1, a2⟩ := dec_app t (s0 ++ [27, 40, 66]).length (s0 ++ [27, 40, 66]) 0 ⟨[], [], 0, 0⟩ (Nat.le_refl _)
  unfold PartsOK
  cases h1 : decW (s0 ++ [27, 40, 66]) 0 ⟨[], [], 0, 0⟩ with
  | error x =>
    obtain ⟨i, e⟩ := x
    obtain ⟨b1, b2⟩ := a2 i e h1
    have he : e ≠ 0 := by rcases b1 with rfl | rfl <;> decide
    show if e ≠ 0 then _ else _
    rw [if_pos he]
    rcases b1 with rfl | rfl
    · exact .inr rfl
    · left
      rw [b2 rfl]
      exact ⟨rfl, rfl⟩
  | ok d =>
    obtain ⟨c1, c2⟩ := dec_esc s0.length s0 0 _ d (Nat.le_refl _) h1
    rw [a1 d h1]
    have e1 : decEnd (.ok d) = (d.out, 0, 0) := by simp [decEnd, c1]
    rw [e1]
    show if (0 : Int) ≠ 0 then _ else _
    rw [if_neg (by simp)]
    obtain ⟨f1, f2⟩ := dec_shift (s0 ++ [27, 40, 66]).length d.out t.length t 0 ⟨[], [], 0, 0⟩ d (Nat.le_refl _) (by simp) c1 c2 (fun h => absurd rfl h)
    rw [Nat.zero_add]
    rw [Nat.add_zero] at f1 f2
    cases h2 : decW t 0 ⟨[], [], 0, 0⟩ with
    | error x =>
      obtain ⟨j, e⟩ := x
      have he : e = 10 ∨ e = 15 := ((dec_app [] t.length t 0 ⟨[], [], 0, 0⟩ (Nat.le_refl _)).2 j e h2).1
      have he0 : e ≠ 0 := by rcases he with rfl | rfl <;> decide
      rw [f1 j e h2]
      show if e ≠ 0 then _ else _
      rw [if_pos he0]
      exact ⟨rfl, by show (((s0 ++ [27, 40, 66]).length + j : Nat) : Int) = ((s0 ++ [27, 40, 66]).length : Int) + (j : Int); omega, rfl⟩
    | ok d' =>
      obtain ⟨d2, g1, g2, g3, g4⟩ := f2 d' h2
      rw [g1]
      by_cases hh : d'.held = []
      · have e2 : decEnd (.ok d') = (d'.out, 0, 0) := by simp [decEnd, hh]
        have e3 : decEnd (.ok d2) = (d2.out, 0, 0) := by simp [decEnd, g3, hh]
        rw [e2, e3]
        show if (0 : Int) ≠ 0 then _ else _
        rw [if_neg (by simp)]
        exact ⟨rfl, g2⟩
      · have e2 : decEnd (.ok d') = ([], (d'.first : Int), 10) := by simp [decEnd, hh]
        have e3 : decEnd (.ok d2) = ([], (d2.first : Int), 10) := by simp [decEnd, g3, hh]
        rw [e2, e3]
        show if (10 : Int) ≠ 0 then _ else _
        rw [if_pos (by decide)]
        refine ⟨rfl, ?_, rfl⟩
        show (d2.first : Int) = ((s0 ++ [27, 40, 66]).length : Int) + (d'.first : Int)
        rw [g4 hh]
        omega
end Go.Proofs.YtpkacoknpedolaaDoor
