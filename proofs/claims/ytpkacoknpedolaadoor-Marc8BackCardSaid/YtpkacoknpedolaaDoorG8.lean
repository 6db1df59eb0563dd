/-
  Marc8Again, plain: what was decoded can be encoded, and is decoded to the same text.
-/
import Derived.Test.YtpkacoknpedolaaDoorG7
namespace Go.Proofs.YtpkacoknpedolaaDoor
open Go.RowKit

/-- A character that stands as it is. -/
def FineC (c : Nat) : Prop := Ch16 c ∧ c ≠ 65533 ∧ tabC compT c = none
instance (c : Nat) : Decidable (FineC c) := by unfold FineC; infer_instance
def LetC (c : Nat) : Prop := FineC c ∧ mkR c = none ∧ ¬ (c < 32 ∧ c ≠ 27) ∧ ((upR c).isSome = true ∨ (stR 0 c).isSome = true ∨ (stR 1 c).isSome = true ∨ (stR 2 c).isSome = true)
instance (c : Nat) : Decidable (LetC c) := by unfold LetC; infer_instance
def MarkC (c : Nat) : Prop := FineC c ∧ (mkR c).isSome = true
instance (c : Nat) : Decidable (MarkC c) := by unfold MarkC; infer_instance
theorem up_letC : ∀ b : Fin 256, ∀ c ∈ look uppersT b.val, LetC c := by decide +kernel
theorem st_letC : ∀ n : Fin 3, ∀ b : Fin 256, ∀ c ∈ look (setT n.val) b.val, 128 ≤ b.val ∨ b.val < 32 ∨ LetC c := by decide +kernel
theorem mk_markC : ∀ b : Fin 256, ∀ c ∈ look marksT b.val, MarkC c := by decide +kernel
theorem ctl_fine : ∀ b : Fin 32, b.val ≠ 27 → FineC b.val ∧ mkR b.val = none ∧ enc b.val = [UInt8.ofNat b.val] := by decide +kernel
theorem find_some {c : Nat} : ∀ (l : List Nat) (n : Nat), n ∈ l → (stR n c).isSome = true → (findSet c l).isSome = true := by
  intro l
  induction l with
  | nil => intro n h; simp at h
  | cons x l ih =>
    intro n h hs
    simp only [findSet]
    cases hx : stR x c with
    | some b => rfl
    | none =>
      simp only
      rcases List.mem_cons.1 h with rfl | h
      · rw [hx] at hs; cases hs
      · exact ih n h hs
theorem put_some {c : Nat} (e : ES) (h : (upR c).isSome = true ∨ (stR 0 c).isSome = true ∨ (stR 1 c).isSome = true ∨ (stR 2 c).isSome = true) : ∃ e', putR c e = some e' ∧ e'.pend ≠ [] := by
  unfold putR
  cases hu : upR c with
  | some b => exact ⟨_, rfl, by simp⟩
  | none =>
    have hf : (findSet c [(finR e).now, 0, 1, 2]).isSome = true := by
      rcases h with h | h | h | h
      · rw [hu] at h; cases h
      · exact find_some _ 0 (by simp) h
      · exact find_some _ 1 (by simp) h
      · exact find_some _ 2 (by simp) h
    obtain ⟨q, hq⟩ := Option.isSome_iff_exists.1 hf
    obtain ⟨n, b⟩ := q
    simp only
    rw [hq]
    exact ⟨_, rfl, by simp⟩
theorem marks_some : ∀ (hs : List Nat) (e : ES), (∀ c ∈ hs, MarkC c) → e.pend ≠ [] → ∃ e', encL hs e = some e' := by
  intro hs
  induction hs with
  | nil => intro e _ _; exact ⟨e, rfl⟩
  | cons c hs ih =>
    intro e h hp
    obtain ⟨hf, hm⟩ := h c List.mem_cons_self
    obtain ⟨b, hb⟩ := Option.isSome_iff_exists.1 hm
    simp only [encL]
    rw [step_mark hf.2.2 hb, if_neg hp]
    exact ih _ (fun x hx => h x (List.mem_cons_of_mem _ hx)) (by simp)
/-- What decoding has read can be encoded. -/
def AgainInv (d : DS) : Prop := ∃ (cs hs : List Nat) (e : ES), d.out = cs.flatMap enc ∧ d.held = hs.flatMap enc ∧ (∀ c ∈ cs, FineC c) ∧ (∀ c ∈ hs, MarkC c) ∧ encL cs ⟨[], 0, []⟩ = some e ∧ d.now < 3
theorem again_start : AgainInv ⟨[], [], 0, 0⟩ := ⟨[], [], ⟨[], 0, []⟩, rfl, rfl, by simp, by simp, rfl, by decide⟩
theorem opened_lt {r : Bs} {n : Nat} (h : openedR r = .ok n) : n < 3 := by
  match r, h with
  | [], h => exact absurd h (by simp [openedR])
  | [a], h => exact absurd h (by rw [opened_one]; split <;> simp)
  | a :: b :: r, h =>
    rw [opened_more] at h
    split at h
    · cases h
    · split at h
      · injection h with h; omega
      · split at h
        · injection h with h; omega
        · split at h
          · injection h with h; omega
          · cases h
theorem again_step {b : UInt8} {r : Bs} {k : Nat} {d d' : DS} {n : Nat} (h : AgainInv d) (hs : stepL b r k d = .ok (d', n)) : AgainInv d' := by
  obtain ⟨cs, hl, e, h1, h2, h3, h4, h5, h6⟩ := h
  unfold stepL at hs
  split at hs
  · rename_i c1
    split at hs
    · cases hs
    · rename_i c2
      split at hs
      · rename_i c3
        injection hs with hs; injection hs with hs _; subst hs
        have hn27 : b.toNat ≠ 27 := fun e1 => c3 (by rw [← UInt8.ofNat_toNat (x := b), e1]; rfl)
        obtain ⟨f1, f2, f3⟩ := ctl_fine ⟨b.toNat, c1⟩ hn27
        simp only at f1 f2 f3
        have hst := step_ctl f1.2.2 f2 ⟨c1, hn27⟩ e
        refine ⟨cs ++ [b.toNat], hl, { finR e with out := (finR e).out ++ [UInt8.ofNat b.toNat] }, ?_, h2, ?_, h4, ?_, h6⟩
        · show d.out ++ [b] = _
          rw [h1, List.flatMap_append]
          simp [f3, UInt8.ofNat_toNat]
        · intro c hc
          rcases List.mem_append.1 hc with hc | hc
          · exact h3 c hc
          · rw [List.mem_singleton.1 hc]; exact f1
        · rw [encL_app, h5]
          show encL [b.toNat] e = _
          simp only [encL]
          rw [hst]
      · split at hs
        · cases hs
        · rename_i m ho
          injection hs with hs; injection hs with hs _; subst hs
          exact ⟨cs, hl, e, h1, h2, h3, h4, h5, opened_lt ho⟩
  · rename_i c1
    split at hs
    · rename_i m hm
      injection hs with hs; injection hs with hs _; subst hs
      have hmc := mk_markC ⟨b.toNat, b.toNat_lt⟩ m hm
      refine ⟨cs, hl ++ [m], e, h1, ?_, h3, ?_, h5, h6⟩
      · show d.held ++ enc m = _
        rw [h2, List.flatMap_append]; simp
      · intro c hc
        rcases List.mem_append.1 hc with hc | hc
        · exact h4 c hc
        · rw [List.mem_singleton.1 hc]; exact hmc
    · split at hs
      · rename_i c hc
        injection hs with hs; injection hs with hs _; subst hs
        have hlc : LetC c := by
          by_cases c3 : b.toNat < 128
          · rw [if_pos c3] at hc
            rcases st_letC ⟨d.now, h6⟩ ⟨b.toNat, b.toNat_lt⟩ c hc with h | h | h
            · simp only at h; omega
            · simp only at h; omega
            · exact h
          · rw [if_neg c3] at hc
            exact up_letC ⟨b.toNat, b.toNat_lt⟩ c hc
        obtain ⟨g1, g2, g3, g4⟩ := hlc
        obtain ⟨e1, hp, hpe⟩ := put_some e g4
        obtain ⟨e2, he2⟩ := marks_some hl e1 h4 hpe
        refine ⟨cs ++ [c] ++ hl, [], e2, ?_, rfl, ?_, by simp, ?_, h6⟩
        · show d.out ++ enc c ++ d.held = _
          rw [h1, h2]; simp
        · intro x hx
          rcases List.mem_append.1 hx with hx | hx
          · rcases List.mem_append.1 hx with hx | hx
            · exact h3 x hx
            · rw [List.mem_singleton.1 hx]; exact g1
          · exact (h4 x hx).1
        · rw [encL_app, encL_app, h5]
          show ((encL [c] e).bind _) = _
          have : encL [c] e = some e1 := by
            simp only [encL]
            rw [step_put g1.2.2 g2 g3, hp]
          rw [this]
          exact he2
      · cases hs
theorem again_all : ∀ (m : Nat) (p : Bs) (k : Nat) (d d' : DS), p.length ≤ m → AgainInv d → decW p k d = .ok d' → AgainInv d' := by
  intro m
  induction m with
  | zero =>
    intro p k d d' hm h hd
    have : p = [] := List.eq_nil_of_length_eq_zero (by omega)
    subst this
    rw [decW_nil] at hd; injection hd with hd; subst hd; exact h
  | succ m ih =>
    intro p k d d' hm h hd
    cases p with
    | nil => rw [decW_nil] at hd; injection hd with hd; subst hd; exact h
    | cons b r =>
      have hr : r.length ≤ m := by simpa using hm
      rw [decW_cons] at hd
      cases hs : stepL b r k d with
      | error x => rw [hs] at hd; cases hd
      | ok x =>
        obtain ⟨d1, n⟩ := x
        rw [hs] at hd
        simp only at hd
        exact ih (r.drop n) _ d1 d' (by simp; omega) (again_step h hs) hd
theorem encL_len : ∀ (cs : List Nat) (e e' : ES), encL cs e = some e' → e'.out.length + e'.pend.length ≤ e.out.length + e.pend.length + 5 * cs.length := by
  intro cs
  induction cs with
  | nil => intro e e' h; simp only [encL] at h; injection h with h; subst h; simp
  | cons c cs ih =>
    intro e e' h
    simp only [encL] at h
    cases h1 : encStep c e with
    | none => rw [h1] at h; cases h
    | some e1 =>
      rw [h1] at h
      have a := encStep_len h1
      have b := ih e1 e' h
      simp only [List.length_cons]
      omega
theorem encEnd_len (e : ES) : (encEnd e).length ≤ e.out.length + e.pend.length + 3 := by
  have := fin_len e
  unfold encEnd toR
  split
  · omega
  · simp; omega
theorem chars_len (cs : List Nat) : cs.length ≤ (cs.flatMap enc).length := by
  induction cs with
  | nil => simp
  | cons c cs ih =>
    have := (enc_le c).1
    simp only [List.flatMap_cons, List.length_append, List.length_cons]
    omega
theorem taken_fine : ∀ (cs : List Nat), (∀ c ∈ cs, FineC c) → takenR cs = cs.flatMap enc := by
  intro cs
  induction cs with
  | nil => intro _; rfl
  | cons c cs ih =>
    intro h
    have h1 := ih (fun x hx => h x (List.mem_cons_of_mem _ hx))
    have hc : takenC c = enc c := by unfold takenC; rw [(h c List.mem_cons_self).2.2]
    unfold takenR at h1 ⊢
    rw [List.flatMap_cons, List.flatMap_cons, hc, h1]
theorem again_law (s : Bs) : ((decodeR s).2.2 ≠ 0 ∧ (decodeR s).1 = []) ∨ ((decodeR s).2.2 = 0 ∧ ∃ t : Bs, encV (decodeR s).1 = some (t, 0, 0) ∧ decodeR t = ((decodeR s).1, 0, 0) ∧ t.length ≤ 5 * (decodeR s).1.length + 3) := by
  rw [decodeR_W]
  cases hd : decW s 0 ⟨[], [], 0, 0⟩ with
  | error x =>
    obtain ⟨i, e⟩ := x
    left
    have he : e = 10 ∨ e = 15 := ((dec_app [] s.length s 0 _ (Nat.le_refl _)).2 i e hd).1
    exact ⟨by show e ≠ 0; rcases he with rfl | rfl <;> decide, rfl⟩
  | ok d =>
    by_cases hh : d.held = []
    · right
      have e1 : decEnd (.ok d) = (d.out, 0, 0) := by simp [decEnd, hh]
      rw [e1]
      obtain ⟨cs, hl, e, h1, h2, h3, h4, h5, h6⟩ := again_all s.length s 0 _ d (Nat.le_refl _) again_start hd
      refine ⟨rfl, encEnd e, ?_, ?_, ?_⟩
      · show encV d.out = _
        unfold encV
        rw [h1, encode_chars cs (fun c hc => ⟨(h3 c hc).1, (h3 c hc).2.1⟩), encC_L cs 0 _ e h5]
      · have hb := back_law cs e h5
        rw [taken_fine cs h3, ← h1] at hb
        exact hb
      · show (encEnd e).length ≤ 5 * d.out.length + 3
        have a := encL_len cs _ e h5
        have b := encEnd_len e
        have c := chars_len cs
        rw [h1]
        simp only [List.length_nil] at a
        omega
    · left
      have e1 : decEnd (.ok d) = ([], (d.first : Int), 10) := by simp [decEnd, hh]
      rw [e1]
      exact ⟨by show (10 : Int) ≠ 0; decide, rfl⟩
end Go.Proofs.YtpkacoknpedolaaDoor
