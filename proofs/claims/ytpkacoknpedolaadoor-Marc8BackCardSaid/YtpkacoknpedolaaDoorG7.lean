/-
  Marc8Back and Marc8Again, plain: what was encoded is decoded to the same characters, composed ones divided; what was decoded can be encoded.
-/
import Derived.Test.YtpkacoknpedolaaDoorG6
namespace Go.Proofs.YtpkacoknpedolaaDoor
open Go.RowKit

/-- A character as the law divides it. -/
def takenC (c : Nat) : Bs := match tabC compT c with
  | some (l, m) => enc l ++ enc m
  | none => enc c
def takenR (cs : List Nat) : Bs := cs.flatMap takenC
/-- Encoding characters one by one. -/
def encL : List Nat → ES → Option ES
  | [], e => some e
  | c :: r, e => match encStep c e with
    | none => none
    | some e' => encL r e'
theorem encL_app (a b : List Nat) (e : ES) : encL (a ++ b) e = (encL a e).bind (encL b) := by
  induction a generalizing e with
  | nil => rfl
  | cons c a ih =>
    simp only [List.cons_append, encL]
    cases encStep c e with
    | none => rfl
    | some e' => exact ih e'
theorem encC_L : ∀ (cs : List Nat) (pos : Nat) (e e' : ES), encL cs e = some e' → encC cs pos e = .ok e' := by
  intro cs
  induction cs with
  | nil => intro pos e e' h; simp only [encL] at h; injection h with h; subst h; rfl
  | cons c cs ih =>
    intro pos e e' h
    simp only [encL] at h
    rw [encC]
    cases hs : encStep c e with
    | none => rw [hs] at h; cases h
    | some e1 => rw [hs] at h; exact ih _ e1 e' h
/-- The character of a letter's byte in a set. -/
def letterOf (now : Nat) (b : UInt8) : Option Nat := if b.toNat < 128 then look (setT now) b.toNat else look uppersT b.toNat
def LetterB (now : Nat) (b : UInt8) (c : Nat) : Prop := 32 ≤ b.toNat ∧ look marksT b.toNat = none ∧ letterOf now b = some c
def MarkB (b : UInt8) (c : Nat) : Prop := 32 ≤ b.toNat ∧ look marksT b.toNat = some c
theorem up_facts : ∀ b : Fin 256, ∀ c ∈ tabF uppersT b.val, 128 ≤ b.val ∧ look marksT b.val = none ∧ look uppersT b.val = some c := by decide +kernel
theorem mk_facts : ∀ b : Fin 256, ∀ c ∈ tabF marksT b.val, 32 ≤ b.val ∧ look marksT b.val = some c := by decide +kernel
theorem st_facts : ∀ n : Fin 3, ∀ b : Fin 256, ∀ c ∈ tabF (setT n.val) b.val, 32 ≤ b.val ∧ b.val < 128 ∧ look marksT b.val = none ∧ look (setT n.val) b.val = some c := by decide +kernel
theorem up_letter {b c : Nat} (h : upR c = some b) (now : Nat) : b < 256 ∧ LetterB now (UInt8.ofNat b) c := by
  have hb := upR_lt h
  have hu : (UInt8.ofNat b).toNat = b := UInt8.toNat_ofNat_of_lt' hb
  obtain ⟨h1, h2, h3⟩ := up_facts ⟨b, hb⟩ c (swap_up.2 b c h)
  simp only at h1 h2 h3
  refine ⟨hb, ?_, ?_, ?_⟩
  · rw [hu]; omega
  · rw [hu]; exact h2
  · unfold letterOf; rw [hu, if_neg (by omega)]; exact h3
theorem st_letter {n b c : Nat} (hn : n < 3) (h : stR n c = some b) : b < 256 ∧ LetterB n (UInt8.ofNat b) c := by
  have hb := stR_lt h
  have hu : (UInt8.ofNat b).toNat = b := UInt8.toNat_ofNat_of_lt' hb
  obtain ⟨h1, h2, h3, h4⟩ := st_facts ⟨n, hn⟩ ⟨b, hb⟩ c ((swap_st n).2 b c h)
  simp only at h1 h2 h3 h4
  refine ⟨hb, ?_, ?_, ?_⟩
  · rw [hu]; omega
  · rw [hu]; exact h3
  · unfold letterOf; rw [hu, if_pos h2]; exact h4
theorem mk_mark {b c : Nat} (h : mkR c = some b) : MarkB (UInt8.ofNat b) c := by
  have hb := mkR_lt h
  have hu : (UInt8.ofNat b).toNat = b := UInt8.toNat_ofNat_of_lt' hb
  obtain ⟨h1, h2⟩ := mk_facts ⟨b, hb⟩ c (swap_mk.2 b c h)
  simp only at h1 h2
  exact ⟨by rw [hu]; exact h1, by rw [hu]; exact h2⟩
inductive MarksB : Bs → List Nat → Prop
  | nil : MarksB [] []
  | cons {b : UInt8} {c : Nat} {ms : Bs} {cs : List Nat} (h : MarkB b c) (t : MarksB ms cs) : MarksB (b :: ms) (c :: cs)
/-- What waits: a letter and its marks; their text. -/
inductive PendOK (now : Nat) : Bs → Bs → Prop
  | none : PendOK now [] []
  | some (b : UInt8) (c : Nat) (ms : Bs) (cs : List Nat) (hb : LetterB now b c) (hm : MarksB ms cs) : PendOK now (b :: ms) (enc c ++ cs.flatMap enc)
theorem marks_dec (q : Bs) : ∀ (ms : Bs) (cs : List Nat) (k : Nat) (d : DS), MarksB ms cs → ∃ F, decW (ms ++ q) k d = decW q (k + ms.length) { d with first := F, held := d.held ++ cs.flatMap enc } := by
  intro ms cs k d h
  induction h generalizing k d with
  | nil => exact ⟨d.first, by simp⟩
  | cons h1 h2 ih =>
    rename_i b c ms cs
    obtain ⟨h3, h4⟩ := h1
    obtain ⟨F, hF⟩ := ih (k + 1) { d with first := if d.held = [] then k else d.first, held := d.held ++ enc c }
    refine ⟨F, ?_⟩
    have hs : stepL b (ms ++ q) k d = .ok ({ d with first := if d.held = [] then k else d.first, held := d.held ++ enc c }, 0) := by
      unfold stepL
      rw [if_neg (by omega), h4]
    show decW (b :: (ms ++ q)) k d = _
    rw [decW_cons, hs]
    simp only [List.drop_zero, Nat.add_zero]
    rw [hF]
    simp only [List.flatMap_cons, List.append_assoc, List.length_cons]
    congr 1; omega
theorem letter_dec {b : UInt8} {c : Nat} {d : DS} (h : LetterB d.now b c) (r : Bs) (k : Nat) : decW (b :: r) k d = decW r (k + 1) { d with out := d.out ++ enc c ++ d.held, held := [] } := by
  obtain ⟨h1, h2, h3⟩ := h
  have hs : stepL b r k d = .ok ({ d with out := d.out ++ enc c ++ d.held, held := [] }, 0) := by
    unfold stepL
    rw [if_neg (by omega), h2]
    simp only
    unfold letterOf at h3
    rw [h3]
  rw [decW_cons, hs]
  simp
/-- What encoding wrote is decoded to what it read. -/
def BackInv (done : List Nat) (e : ES) : Prop := ∃ d p, decW e.out 0 ⟨[], [], 0, 0⟩ = .ok d ∧ d.held = [] ∧ d.now = e.now ∧ e.now < 3 ∧ PendOK e.now e.pend p ∧ d.out ++ p = takenR done
theorem back_start : BackInv [] ⟨[], 0, []⟩ := ⟨⟨[], [], 0, 0⟩, [], rfl, rfl, rfl, by decide, .none, rfl⟩
theorem back_fin {done : List Nat} {e : ES} (h : BackInv done e) : ∃ d, decW (finR e).out 0 ⟨[], [], 0, 0⟩ = .ok d ∧ d.held = [] ∧ d.now = e.now ∧ d.out = takenR done := by
  obtain ⟨d, p, h1, h2, h3, h4, h5, h6⟩ := h
  unfold finR
  generalize e.pend = pd at h5
  cases h5 with
  | none => exact ⟨d, h1, h2, h3, by simpa using h6⟩
  | some b c ms cs hb hm =>
    simp only
    have ha := ((dec_app (ms ++ [b]) e.out.length e.out 0 _ (Nat.le_refl _)).1 d h1)
    obtain ⟨F, hF⟩ := marks_dec [b] ms cs (0 + e.out.length) d hm
    rw [List.append_assoc, ha, hF]
    have hb2 : LetterB ({ d with first := F, held := d.held ++ cs.flatMap enc } : DS).now b c := by show LetterB d.now b c; rw [h3]; exact hb
    rw [letter_dec hb2, decW_nil]
    refine ⟨_, rfl, rfl, h3, ?_⟩
    show d.out ++ enc c ++ (d.held ++ cs.flatMap enc) = _
    rw [h2, ← h6]; simp
theorem back_to {e : ES} {n : Nat} (hn : n < 3) {d : DS} (h : decW e.out 0 ⟨[], [], 0, 0⟩ = .ok d) (hh : d.held = []) (hd : d.now = e.now) : ∃ d', decW (toR n e).out 0 ⟨[], [], 0, 0⟩ = .ok d' ∧ d'.held = [] ∧ d'.now = n ∧ d'.out = d.out := by
  unfold toR
  by_cases hne : n = e.now
  · rw [if_pos hne]; exact ⟨d, h, hh, by rw [hd, hne], rfl⟩
  · rw [if_neg hne]
    simp only
    have ha := ((dec_app [27, 40, UInt8.ofNat (signOf n)] e.out.length e.out 0 _ (Nat.le_refl _)).1 d h)
    rw [ha]
    have ho : openedR [40, UInt8.ofNat (signOf n)] = .ok n := by
      match n, hn with
      | 0, _ => rfl
      | 1, _ => rfl
      | 2, _ => rfl
    have hs : stepL 27 [40, UInt8.ofNat (signOf n)] (0 + e.out.length) d = .ok ({ d with now := n }, 2) := by
      unfold stepL
      rw [if_pos (by decide), if_neg (by simp [hh]), if_neg (by decide), ho]
    rw [decW_cons, hs]
    exact ⟨_, rfl, hh, rfl, rfl⟩
theorem find_lt {c : Nat} : ∀ (l : List Nat) (n b : Nat), (∀ x ∈ l, x < 3) → findSet c l = some (n, b) → n < 3 ∧ stR n c = some b := by
  intro l
  induction l with
  | nil => intro n b _ h; cases h
  | cons x l ih =>
    intro n b hl h
    simp only [findSet] at h
    cases hs : stR x c with
    | some y => rw [hs] at h; injection h with h; injection h with h1 h2; subst h1 h2; exact ⟨hl x List.mem_cons_self, hs⟩
    | none => rw [hs] at h; exact ih n b (fun y hy => hl y (List.mem_cons_of_mem _ hy)) h
theorem back_put {done : List Nat} {e e' : ES} {c : Nat} (h : BackInv done e) (hp : putR c e = some e') : ∃ d, decW e'.out 0 ⟨[], [], 0, 0⟩ = .ok d ∧ d.held = [] ∧ d.now = e'.now ∧ e'.now < 3 ∧ d.out = takenR done ∧ ∃ b, e'.pend = [b] ∧ LetterB e'.now b c := by
  obtain ⟨d, h1, h2, h3, h4⟩ := back_fin h
  have hnow : e.now < 3 := by obtain ⟨_, _, _, _, _, h, _⟩ := h; exact h
  unfold putR at hp
  cases hu : upR c with
  | some b =>
    rw [hu] at hp
    injection hp with hp; subst hp
    exact ⟨d, h1, h2, by show d.now = (finR e).now; rw [fin_now, h3], by show (finR e).now < 3; rw [fin_now]; exact hnow, h4, _, rfl, (up_letter hu _).2⟩
  | none =>
    rw [hu] at hp
    simp only at hp
    cases hf : findSet c [(finR e).now, 0, 1, 2] with
    | none => rw [hf] at hp; cases hp
    | some q =>
      obtain ⟨n, b⟩ := q
      rw [hf] at hp
      injection hp with hp; subst hp
      obtain ⟨hn, hs⟩ := find_lt _ n b (fun x hx => by
        simp only [List.mem_cons, List.not_mem_nil, or_false] at hx
        rcases hx with rfl | rfl | rfl | rfl
        · rw [fin_now]; exact hnow
        · omega
        · omega
        · omega) hf
      obtain ⟨d', g1, g2, g3, g4⟩ := back_to (e := finR e) hn h1 h2 (by rw [fin_now, h3])
      have hnn : (toR n (finR e)).now = n := by
        unfold toR
        split
        · rename_i e1; exact e1.symm
        · rfl
      refine ⟨d', g1, g2, by show d'.now = (toR n (finR e)).now; rw [hnn, g3], by show (toR n (finR e)).now < 3; rw [hnn]; exact hn, g4.trans h4, _, rfl, ?_⟩
      show LetterB (toR n (finR e)).now _ c
      rw [hnn]; exact (st_letter hn hs).2
theorem comp_marks : ∀ p ∈ compT, (mkR p.2.2).isSome = true := by decide +kernel
theorem ctl_enc : ∀ c : Fin 32, c.val ≠ 27 → tabC compT c.val = none ∧ enc c.val = [UInt8.ofNat c.val] := by decide +kernel
theorem back_step {done : List Nat} {e e' : ES} {c : Nat} (h : BackInv done e) (hs : encStep c e = some e') : BackInv (done ++ [c]) e' := by
  have ht : takenR (done ++ [c]) = takenR done ++ takenC c := by simp [takenR]
  cases htc : tabC compT c with
  | some p =>
    obtain ⟨l, m⟩ := p
    rw [step_comp htc] at hs
    cases hp : putR l e with
    | none => rw [hp] at hs; cases hs
    | some e1 =>
      rw [hp] at hs
      injection hs with hs; subst hs
      obtain ⟨d, h1, h2, h3, h4, h5, b, h6, h7⟩ := back_put h hp
      have hmk := comp_marks _ (tabC_mem _ _ _ htc)
      simp only at hmk
      obtain ⟨x, hx⟩ := Option.isSome_iff_exists.1 hmk
      refine ⟨d, enc l ++ [m].flatMap enc, h1, h2, h3, h4, ?_, ?_⟩
      · show PendOK e1.now (e1.pend ++ [UInt8.ofNat ((mkR m).getD 0)]) _
        rw [h6, hx]
        exact .some b l [UInt8.ofNat x] [m] h7 (.cons (mk_mark hx) .nil)
      · rw [ht, h5]
        unfold takenC
        rw [htc]; simp
  | none =>
    have hc : takenC c = enc c := by unfold takenC; rw [htc]
    cases hm : mkR c with
    | some b =>
      rw [step_mark htc hm] at hs
      obtain ⟨d, p, h1, h2, h3, h4, h5, h6⟩ := h
      by_cases hp : e.pend = []
      · rw [if_pos hp] at hs; cases hs
      · rw [if_neg hp] at hs
        injection hs with hs; subst hs
        generalize hpd : e.pend = pd at h5 hp
        cases h5 with
        | none => exact absurd rfl hp
        | some b0 c0 ms cs hb hms =>
          refine ⟨d, enc c0 ++ (cs ++ [c]).flatMap enc, h1, h2, h3, h4, ?_, ?_⟩
          · show PendOK e.now (b0 :: (ms ++ [UInt8.ofNat b])) _
            have h7 : MarksB (ms ++ [UInt8.ofNat b]) (cs ++ [c]) := by
              clear hpd hp h6 h1 h2 h3
              induction hms with
              | nil => exact .cons (mk_mark hm) .nil
              | cons a _ ih => exact .cons a ih
            exact .some b0 c0 (ms ++ [UInt8.ofNat b]) (cs ++ [c]) hb h7
          · rw [ht, hc, ← h6]; simp
    | none =>
      by_cases hct : c < 32 ∧ c ≠ 27
      · rw [step_ctl htc hm hct] at hs
        injection hs with hs; subst hs
        obtain ⟨d, h1, h2, h3, h4⟩ := back_fin h
        have hnow : e.now < 3 := by obtain ⟨_, _, _, _, _, h, _⟩ := h; exact h
        have he := (ctl_enc ⟨c, hct.1⟩ hct.2).2
        simp only at he
        have hu : (UInt8.ofNat c).toNat = c := UInt8.toNat_ofNat_of_lt' (by show c < 256; omega)
        have ha := ((dec_app [UInt8.ofNat c] (finR e).out.length (finR e).out 0 _ (Nat.le_refl _)).1 d h1)
        have hne : UInt8.ofNat c ≠ 27 := fun e1 => by
          rw [e1] at hu
          exact hct.2 hu.symm
        have hst : stepL (UInt8.ofNat c) [] (0 + (finR e).out.length) d = .ok ({ d with out := d.out ++ [UInt8.ofNat c] }, 0) := by
          unfold stepL
          rw [hu, if_pos hct.1, if_neg (by simp [h2]), if_pos hne]
        refine ⟨{ d with out := d.out ++ [UInt8.ofNat c] }, [], ?_, h2, by show d.now = (finR e).now; rw [fin_now, h3], by show (finR e).now < 3; rw [fin_now]; exact hnow, ?_, ?_⟩
        · show decW ((finR e).out ++ [UInt8.ofNat c]) 0 _ = _
          rw [ha, decW_cons, hst]
          rfl
        · show PendOK (finR e).now (finR e).pend []
          rw [fin_pend]; exact .none
        · show d.out ++ [UInt8.ofNat c] ++ [] = _
          rw [ht, hc, he, h4]; simp
      · rw [step_put htc hm hct] at hs
        obtain ⟨d, h1, h2, h3, h4, h5, b, h6, h7⟩ := back_put h hs
        refine ⟨d, enc c ++ [].flatMap enc, h1, h2, h3, h4, ?_, ?_⟩
        · rw [h6]; exact .some b c [] [] h7 .nil
        · rw [ht, hc, h5]; simp
theorem back_all : ∀ (cs : List Nat) (done : List Nat) (e e' : ES), BackInv done e → encL cs e = some e' → BackInv (done ++ cs) e' := by
  intro cs
  induction cs with
  | nil => intro done e e' h hs; simp only [encL] at hs; injection hs with hs; subst hs; simpa using h
  | cons c cs ih =>
    intro done e e' h hs
    simp only [encL] at hs
    cases h1 : encStep c e with
    | none => rw [h1] at hs; cases hs
    | some e1 =>
      rw [h1] at hs
      have := ih (done ++ [c]) e1 e' (back_step h h1) hs
      simpa using this
theorem back_law (cs : List Nat) (e : ES) (h : encL cs ⟨[], 0, []⟩ = some e) : decodeR (encEnd e) = (takenR cs, 0, 0) := by
  have hb := back_all cs [] _ e back_start h
  simp only [List.nil_append] at hb
  obtain ⟨d, h1, h2, h3, h4⟩ := back_fin hb
  obtain ⟨d', g1, g2, _, g4⟩ := back_to (e := finR e) (n := 0) (by decide) h1 h2 (by rw [fin_now, h3])
  rw [decodeR_W]
  unfold encEnd
  rw [g1]
  simp [decEnd, g2, g4, h4]
end Go.Proofs.YtpkacoknpedolaaDoor
