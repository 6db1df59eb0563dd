/-
  The walk of utf8.FullRuneInString, and of the program's broken.
  utf8.FullRuneInString at every string, and the program's broken: how many bytes at the beginning could begin a character.
  Plain laws: Go's decoder, FullRune and the reference's reader of characters say the same of a text's first character.
  Plain laws: a text by Go's runes (the program's isText) is a text by the automaton.
  The walk of the program's isText.
  valid: the law's own text of a text.
-/
import Derived.Test.YtfkleeigdplapaaDoorP1
import Derived.Laws.BitsLemmas
import Derived.Deep.QuietTactic
import Derived.BigQuiet
import Derived.Test.YtfkleeigdplapaaDoorFld
import Derived.Test.YtfkleeigdplapaaDoorBase
import Derived.Lib.OthersKept
namespace Go.Proofs.YtfkleeigdplapaaDoor
open Go.RowKit

/-- Does a string begin with a whole character, or with bytes that begin none? -/
def fullB : Bs → Bool
  | [] => false
  | b0 :: l => decide (Lib.firstT b0.toNat % 8 ≤ l.length + 1) || (match l with
    | [] => false
    | b1 :: m => decide (b1.toNat < Lib.accLo (Lib.firstT b0.toNat / 16)) || decide (Lib.accHi (Lib.firstT b0.toNat / 16) < b1.toNat) || (match m with
      | [] => false
      | b2 :: _ => decide (b2.toNat < 128) || decide (191 < b2.toNat)))
theorem full_96_nil (w : World) : Calls Tryd.prog 96 #[S []] w fun e w' => e = .returned (.bool false) ∧ Below w.heap.size w w' := by
  go_enter Tryd.func96, Tryd.ntmps96
  go_wp2_with fail
  go_ret
  exact ⟨rfl, Below.refl _ _⟩
theorem bdN {B : Nat} {a w : World} (h : Below B a w) (n : Nat) : Below B a (w.drewN n) := ⟨h.os, h.tape, h.output, h.size, h.block⟩
theorem ret_fb {a b : Bool} (h : a = b) {w w' : World} (hb : Below w.heap.size w w') : Ending.returned (.bool a) = .returned (.bool b) ∧ Below w.heap.size w w' := ⟨by rw [h], hb⟩
set_option maxHeartbeats 4000000 in
set_option maxRecDepth 100000 in
theorem full_96_one (x : Nat) (hx : x = 2 ∨ x = 19 ∨ x = 3 ∨ x = 35 ∨ x = 52 ∨ x = 4 ∨ x = 68) (b0 : UInt8) (w : World) (h0 : w.cell? ⟨0, b0.toNat, none⟩ = some (.int .u8 x)) (lo hi : Nat) (h1 : w.cell? ⟨1, 2 * (x / 16), none⟩ = some (.int .u8 lo)) (h2 : w.cell? ⟨1, 2 * (x / 16) + 1, none⟩ = some (.int .u8 hi)) :
    Calls Tryd.prog 96 #[S [b0]] w fun e w' => e = .returned (.bool false) ∧ Below w.heap.size w w' := by
  have hb := u8_lt b0
  rcases hx with rfl | rfl | rfl | rfl | rfl | rfl | rfl
  all_goals
    go_enter Tryd.func96, Tryd.ntmps96
    go_wp2_with fail
    go_quiet (fail)
    go_wp2_with fail
    go_ret
    exact ⟨rfl, bdN (alloc_below1 w _) _⟩
set_option maxHeartbeats 4000000 in
set_option maxRecDepth 100000 in
theorem full_96_two (x : Nat) (hx : x = 19 ∨ x = 3 ∨ x = 35 ∨ x = 52 ∨ x = 4 ∨ x = 68) (b0 b1 : UInt8) (w : World) (h0 : w.cell? ⟨0, b0.toNat, none⟩ = some (.int .u8 x)) (lo hi : Nat) (h1 : w.cell? ⟨1, 2 * (x / 16), none⟩ = some (.int .u8 lo)) (h2 : w.cell? ⟨1, 2 * (x / 16) + 1, none⟩ = some (.int .u8 hi)) :
    Calls Tryd.prog 96 #[S [b0, b1]] w fun e w' => e = .returned (.bool (decide (b1.toNat < lo) || decide (hi < b1.toNat))) ∧ Below w.heap.size w w' := by
  have hb := u8_lt b0
  by_cases a1 : b1.toNat < lo <;> by_cases a2 : hi < b1.toNat
  all_goals rcases hx with rfl | rfl | rfl | rfl | rfl | rfl
  all_goals
    go_enter Tryd.func96, Tryd.ntmps96
    go_wp2_with fail
    go_quiet (fail)
    go_wp2_with fail
    go_ret
    exact ret_fb (by simp [a1, a2]) (bdN (alloc_below1 w _) _)
set_option maxHeartbeats 4000000 in
set_option maxRecDepth 100000 in
theorem full_96_three (x : Nat) (hx : x = 52 ∨ x = 4 ∨ x = 68) (b0 b1 b2 : UInt8) (w : World) (h0 : w.cell? ⟨0, b0.toNat, none⟩ = some (.int .u8 x)) (lo hi : Nat) (h1 : w.cell? ⟨1, 2 * (x / 16), none⟩ = some (.int .u8 lo)) (h2 : w.cell? ⟨1, 2 * (x / 16) + 1, none⟩ = some (.int .u8 hi)) :
    Calls Tryd.prog 96 #[S [b0, b1, b2]] w fun e w' => e = .returned (.bool (decide (b1.toNat < lo) || decide (hi < b1.toNat) || (decide (b2.toNat < 128) || decide (191 < b2.toNat)))) ∧ Below w.heap.size w w' := by
  have hb := u8_lt b0
  rcases (show b1.toNat < lo ∨ (¬ b1.toNat < lo ∧ hi < b1.toNat) ∨ (¬ b1.toNat < lo ∧ ¬ hi < b1.toNat ∧ b2.toNat < 128) ∨ (¬ b1.toNat < lo ∧ ¬ hi < b1.toNat ∧ ¬ b2.toNat < 128 ∧ 191 < b2.toNat) ∨ (¬ b1.toNat < lo ∧ ¬ hi < b1.toNat ∧ ¬ b2.toNat < 128 ∧ ¬ 191 < b2.toNat) by omega) with a1 | ⟨a1, a2⟩ | ⟨a1, a2, a3⟩ | ⟨a1, a2, a3, a4⟩ | ⟨a1, a2, a3, a4⟩
  all_goals rcases hx with rfl | rfl | rfl
  all_goals
    go_enter Tryd.func96, Tryd.ntmps96
    go_wp2_with fail
    go_quiet (fail)
    go_wp2_with fail
    go_ret
    exact ret_fb (by simp [*]) (bdN (alloc_below1 w _) _)
set_option maxHeartbeats 4000000 in
set_option maxRecDepth 100000 in
/-- The first byte says enough. -/
theorem full_96_size (x : Nat) (hx : x = 240 ∨ x = 241 ∨ x = 2 ∨ x = 19 ∨ x = 3 ∨ x = 35 ∨ x = 52 ∨ x = 4 ∨ x = 68) (l : Bs) (hl : 0 < l.length) (hn : x % 8 ≤ l.length) (w : World) (h0 : w.cell? ⟨0, (l[0]'hl).toNat, none⟩ = some (.int .u8 x)) :
    Calls Tryd.prog 96 #[S l] w fun e w' => e = .returned (.bool true) ∧ Below w.heap.size w w' := by
  have hb := u8_lt (l[0]'hl)
  have hl0 : ((l.length : Int) == 0) = false := beq_eq_false_iff_ne.2 (by omega)
  rcases hx with rfl | rfl | rfl | rfl | rfl | rfl | rfl | rfl | rfl
  all_goals
    simp only [Nat.reduceMod] at hn
    go_enter Tryd.func96, Tryd.ntmps96
    go_wp2_with fail
    go_ret
    exact ⟨rfl, Below.refl _ _⟩
end Go.Proofs.YtfkleeigdplapaaDoor

namespace Go.Proofs.YtfkleeigdplapaaDoor
open Go.RowKit

theorem full_96 (l : Bs) (w : World) (hT : Tabs w) : Calls Tryd.prog 96 #[S l] w fun e w' => e = .returned (.bool (fullB l)) ∧ Below w.heap.size w w' := by
  cases l with
  | nil => exact full_96_nil w
  | cons b0 m =>
    have h0 := hT.1 b0.toNat b0.toNat_lt
    have hf := Lib.firstT_cases b0.toNat
    generalize hx : Lib.firstT b0.toNat = x at h0 hf
    by_cases hn : x % 8 ≤ m.length + 1
    · have he : fullB (b0 :: m) = true := by simp [fullB, hx, hn]
      rw [he]
      exact full_96_size x hf (b0 :: m) (by simp) (by simpa using hn) w h0
    · have hi : x / 16 < 16 := by omega
      obtain ⟨h1, h2⟩ := hT.2 (x / 16) hi
      cases m with
      | nil =>
        have he : fullB [b0] = false := by simp [fullB, hx]; simpa using hn
        rw [he]
        exact full_96_one x (by simp at hn; omega) b0 w h0 _ _ h1 h2
      | cons b1 r =>
        cases r with
        | nil =>
          have he : fullB [b0, b1] = (decide (b1.toNat < Lib.accLo (x / 16)) || decide (Lib.accHi (x / 16) < b1.toNat)) := by
            have : decide (x % 8 ≤ 2) = false := by simpa using hn
            simp only [fullB, hx, List.length_cons, List.length_nil, this]; simp
          rw [he]
          exact full_96_two x (by simp at hn; omega) b0 b1 w h0 _ _ h1 h2
        | cons b2 q =>
          have hq : q = [] := by
            cases q with
            | nil => rfl
            | cons c q => simp at hn; omega
          subst hq
          have he : fullB [b0, b1, b2] = (decide (b1.toNat < Lib.accLo (x / 16)) || decide (Lib.accHi (x / 16) < b1.toNat) || (decide (b2.toNat < 128) || decide (191 < b2.toNat))) := by
            have : decide (x % 8 ≤ 3) = false := by simpa using hn
            simp only [fullB, hx, List.length_cons, List.length_nil, this]; simp
          rw [he]
          exact full_96_three x (by simp at hn; omega) b0 b1 b2 w h0 _ _ h1 h2

theorem tabs_below {w w' : World} (h : Tabs w) (hb : Below w.heap.size w w') : Tabs w' := by
  obtain ⟨h1, h2⟩ := h
  refine ⟨fun c hc => ?_, fun i hi => ⟨?_, ?_⟩⟩
  · rw [hb.cell (cell_lt (h1 c hc))]; exact h1 c hc
  · rw [hb.cell (cell_lt (h2 i hi).1)]; exact (h2 i hi).1
  · rw [hb.cell (cell_lt (h2 i hi).2)]; exact (h2 i hi).2

/-- The first n (below k) at which n + 1 bytes are whole; k if there is none. -/
def brokenTo (l : Bs) : Nat → Nat
  | 0 => 0
  | k + 1 => if brokenTo l k < k then brokenTo l k else if fullB (l.take (k + 1)) then k else k + 1
theorem brokenTo_le (l : Bs) (k : Nat) : brokenTo l k ≤ k := by
  induction k with
  | zero => simp [brokenTo]
  | succ k ih => unfold brokenTo; split <;> (try split) <;> omega
theorem brokenTo_at (l : Bs) (k n : Nat) (h : brokenTo l k = k) (hf : fullB (l.take (k + 1)) = true) (hn : k < n) : brokenTo l n = k := by
  induction n with
  | zero => omega
  | succ n ih =>
    by_cases hk : k = n
    · subst hk; unfold brokenTo; rw [h, if_neg (by omega), if_pos hf]
    · have := ih (by omega)
      unfold brokenTo; rw [this, if_pos (by omega)]
def brokenN (l : Bs) : Nat := brokenTo l l.length

set_option maxHeartbeats 1000000 in
set_option maxRecDepth 100000 in
theorem broken_82 (l : Bs) (w : World) (hT : Tabs w) (hl : l.length ≤ 1000000000) : Calls Tryd.prog 82 #[S l] w fun e w' => e = .returned (.int .i64 (brokenN l)) ∧ Below w.heap.size w w' := by
  have HT := Lib.hid hT
  clear hT
  go_enter Tryd.func82, Tryd.ntmps82
  go_wp2_with fail
  go_loopw [3] (fun i wr => ∃ k : Nat, k ≤ l.length ∧ i = .int .i64 ((k : Int) + 1) ∧ Hid (brokenTo l k = k) ∧ Below w.heap.size w wr) (fun i _ => l.length + 1 - (intOf i).toNat)
  case atStart => exact ⟨0, Nat.zero_le _, rfl, rfl, Below.refl _ _⟩
  case round =>
    obtain ⟨k, hk, rfl, HB, hb⟩ := hrel
    by_cases hlt : k < l.length
    · obtain ⟨f, hf⟩ : ∃ f, fullB (l.take (k + 1)) = f := ⟨_, rfl⟩
      have H96 : Hid (∀ W, Below w.heap.size w W → Calls Tryd.prog 96 #[S (l.take (k + 1))] W fun e w' => e = .returned (.bool f) ∧ Below W.heap.size W w') := fun W hW => by
        rw [← hf]; exact full_96 _ W (tabs_below HT.out hW)
      have HF := Lib.hid hf
      have hk1 : ((k : Int) + 1).toNat = k + 1 := by omega
      clear hf
      cases f
      · go_wp2_with (go_at_call 96; ((with_reducible refine Calls.mono (H96.out _ hb) ?_); rintro e w' ⟨rfl, hb2⟩))
        go_roundw
        case rel => exact ⟨k + 1, by omega, by go_num, by unfold brokenTo; rw [HB.out, if_neg (by omega), HF.out]; rfl, btr hb hb2 hb.size⟩
        case measure => simp [intOf]; omega
      · go_wp2_with (go_at_call 96; ((with_reducible refine Calls.mono (H96.out _ hb) ?_); rintro e w' ⟨rfl, hb2⟩))
        go_ret
        exact ⟨ret_i64 (by unfold brokenN; rw [brokenTo_at l k _ HB.out HF.out hlt]), btr hb hb2 hb.size⟩
    · go_wp2_with fail
      go_ret
      refine ⟨ret_i64 ?_, hb⟩
      have : k = l.length := by omega
      unfold brokenN; rw [← this, HB.out]
end Go.Proofs.YtfkleeigdplapaaDoor

namespace Go.Proofs.YtfkleeigdplapaaDoor
open Go.Lib

/-- How many bytes of a text there are (up to the first control), or where it is none. -/
def textGo : Ch → Bs → Nat → Except Nat Nat
  | x, [], i => if x.left = 0 then .ok i else .error i
  | x, c :: l, i => if x.left = 0 ∧ c.toNat < 32 then .ok i else match chNext x c with
    | some y => textGo y l (i + 1)
    | none => .error i
def textR (l : Bs) : Except Nat Nat := textGo ch0 l 0

theorem chNext_zero (x y : Ch) (hx : x.left = 0) (hy : y.left = 0) (c : UInt8) : chNext x c = chNext y c := by
  unfold chNext; simp [hx, hy]
theorem textGo_zero (x y : Ch) (hx : x.left = 0) (hy : y.left = 0) (l : Bs) (i : Nat) : textGo x l i = textGo y l i := by
  cases l with
  | nil => simp [textGo, hx, hy]
  | cons c l => simp only [textGo, hx, hy, chNext_zero x y hx hy]
theorem textGo_mid (x : Ch) (hx : 0 < x.left) (c : UInt8) (l : Bs) (i : Nat) : textGo x (c :: l) i = if c.toNat < x.low ∨ x.high < c.toNat then .error i else textGo ⟨x.left - 1, 128, 191⟩ l (i + 1) := by
  simp only [textGo]
  rw [if_neg (by omega)]
  unfold chNext
  simp only [hx, if_true]
  by_cases h : c.toNat < x.low ∨ x.high < c.toNat
  · rw [if_pos h, if_pos h]
  · rw [if_neg h, if_neg h]
theorem textGo_stop (x : Ch) (hx : 0 < x.left) (i : Nat) : textGo x [] i = .error i := by simp [textGo]; omega

/-- A first byte of a longer character. -/
structure Lead (b0 : UInt8) (sz lo hi : Nat) : Prop where
  ch : chNext ch0 b0 = some ⟨sz - 1, lo, hi⟩
  big : ¬ b0.toNat < 32
  f8 : firstT b0.toNat % 8 = sz
  lo' : accLo (firstT b0.toNat / 16) = lo
  hi' : accHi (firstT b0.toNat / 16) = hi
  dec : ∀ n b1 b2 b3, 1 ≤ n → b1 < 256 → b2 < 256 → b3 < 256 → decodeN n b0.toNat b1 b2 b3 = slowN n b0.toNat b1 b2 b3 sz lo hi
  s2 : 2 ≤ sz
  s4 : sz ≤ 4
  l1 : 128 ≤ lo
  h1 : hi ≤ 191
/-- How many bytes belong to the character, and whether it is whole. -/
def span (sz lo hi : Nat) : Bs → Nat × Bool
  | [] => (1, false)
  | b1 :: r => if b1.toNat < lo ∨ hi < b1.toNat then (1, false) else if sz = 2 then (2, true) else match r with
    | [] => (2, false)
    | b2 :: q => if b2.toNat < 128 ∨ 191 < b2.toNat then (2, false) else if sz = 3 then (3, true) else match q with
      | [] => (3, false)
      | b3 :: _ => if b3.toNat < 128 ∨ 191 < b3.toNat then (3, false) else (4, true)

theorem span_text {b0 : UInt8} {sz lo hi : Nat} (h : Lead b0 sz lo hi) (m : Bs) (i j : Nat) (b : Bool) (hs : span sz lo hi m = (j, b)) :
    textGo ch0 (b0 :: m) i = if b then textGo ch0 ((b0 :: m).drop j) (i + j) else .error (i + j) := by
  have hs2 := h.s2
  have hs4 := h.s4
  have e0 : textGo ch0 (b0 :: m) i = textGo ⟨sz - 1, lo, hi⟩ m (i + 1) := by
    simp only [textGo]
    rw [if_neg (by have := h.big; omega), h.ch]
  rw [e0]
  cases m with
  | nil => cases hs; rw [textGo_stop _ (by simp; omega)]; rfl
  | cons b1 r =>
    rw [textGo_mid _ (by simp; omega)]
    simp only [span] at hs
    by_cases c1 : b1.toNat < lo ∨ hi < b1.toNat
    · rw [if_pos c1] at hs; cases hs; rw [if_pos c1]; rfl
    · rw [if_neg c1] at hs; rw [if_neg c1]
      by_cases z2 : sz = 2
      · rw [if_pos z2] at hs; cases hs; simp only [if_true, List.drop_succ_cons, List.drop_zero]
        exact textGo_zero _ _ (by simp [z2]) rfl _ _
      · rw [if_neg z2] at hs
        cases r with
        | nil => cases hs; rw [textGo_stop _ (by simp; omega)]; rfl
        | cons b2 q =>
          rw [textGo_mid _ (by simp; omega)]
          simp only at hs ⊢
          by_cases c2 : b2.toNat < 128 ∨ 191 < b2.toNat
          · rw [if_pos c2] at hs; cases hs; rw [if_pos c2]; rfl
          · rw [if_neg c2] at hs; rw [if_neg c2]
            by_cases z3 : sz = 3
            · rw [if_pos z3] at hs; cases hs; simp only [if_true, List.drop_succ_cons, List.drop_zero]
              exact textGo_zero _ _ (by simp [z3]) rfl _ _
            · rw [if_neg z3] at hs
              cases q with
              | nil => cases hs; rw [textGo_stop _ (by simp; omega)]; rfl
              | cons b3 p =>
                rw [textGo_mid _ (by simp; omega)]
                simp only at hs ⊢
                by_cases c3 : b3.toNat < 128 ∨ 191 < b3.toNat
                · rw [if_pos c3] at hs; cases hs; rw [if_pos c3]; rfl
                · rw [if_neg c3] at hs; cases hs; rw [if_neg c3]; simp only [if_true, List.drop_succ_cons, List.drop_zero]
                  exact textGo_zero _ _ (by simp; omega) rfl _ _

theorem brokenN_at {l : Bs} {k : Nat} (hk : k < l.length) (h1 : ∀ j, j < k → fullB (l.take (j + 1)) = false) (h2 : fullB (l.take (k + 1)) = true) : brokenN l = k := by
  have h3 : ∀ j, j ≤ k → brokenTo l j = j := by
    intro j
    induction j with
    | zero => intro _; rfl
    | succ j ih => intro hj; unfold brokenTo; rw [ih (by omega), if_neg (by omega), h1 j (by omega)]; rfl
  exact brokenTo_at l k _ (h3 k (Nat.le_refl _)) h2 hk
theorem brokenN_all {l : Bs} (h1 : ∀ j, j < l.length → fullB (l.take (j + 1)) = false) : brokenN l = l.length := by
  have h3 : ∀ j, j ≤ l.length → brokenTo l j = j := by
    intro j
    induction j with
    | zero => intro _; rfl
    | succ j ih => intro hj; unfold brokenTo; rw [ih (by omega), if_neg (by omega), h1 j (by omega)]; rfl
  exact h3 _ (Nat.le_refl _)
theorem lead_full1 {b0 : UInt8} {sz lo hi : Nat} (h : Lead b0 sz lo hi) : fullB [b0] = false := by
  have := h.s2
  simp [fullB, h.f8]; omega
theorem lead_full2 {b0 : UInt8} {sz lo hi : Nat} (h : Lead b0 sz lo hi) (b1 : UInt8) : fullB [b0, b1] = (decide (sz ≤ 2) || (decide (b1.toNat < lo) || decide (hi < b1.toNat))) := by
  simp [fullB, h.f8, h.lo', h.hi']
theorem lead_full3 {b0 : UInt8} {sz lo hi : Nat} (h : Lead b0 sz lo hi) (b1 b2 : UInt8) : fullB [b0, b1, b2] = (decide (sz ≤ 3) || (decide (b1.toNat < lo) || decide (hi < b1.toNat) || (decide (b2.toNat < 128) || decide (191 < b2.toNat)))) := by
  simp [fullB, h.f8, h.lo', h.hi']
theorem lead_full4 {b0 : UInt8} {sz lo hi : Nat} (h : Lead b0 sz lo hi) (b1 b2 b3 : UInt8) : fullB [b0, b1, b2, b3] = true := by
  have := h.s4
  simp [fullB, h.f8]; left; omega
theorem span_broken {b0 : UInt8} {sz lo hi : Nat} (h : Lead b0 sz lo hi) (m : Bs) (k : Nat) (hs : span sz lo hi m = (k, false)) : brokenN (b0 :: m) = k := by
  have hs2 := h.s2
  have hs4 := h.s4
  have f1 := lead_full1 h
  cases m with
  | nil =>
    cases hs
    refine (brokenN_all ?_).trans rfl
    intro j hj
    have : j = 0 := by simp at hj; omega
    subst this; simpa using f1
  | cons b1 r =>
    have f2 := lead_full2 h b1
    simp only [span] at hs
    by_cases c1 : b1.toNat < lo ∨ hi < b1.toNat
    · rw [if_pos c1] at hs; cases hs
      refine brokenN_at (by simp) ?_ ?_
      · intro j hj
        have : j = 0 := by omega
        subst this; simpa using f1
      · show fullB [b0, b1] = true
        rw [f2]; simp; omega
    · rw [if_neg c1] at hs
      by_cases z2 : sz = 2
      · rw [if_pos z2] at hs; cases hs
      · rw [if_neg z2] at hs
        have f2' : fullB [b0, b1] = false := by rw [f2]; simp; omega
        cases r with
        | nil =>
          cases hs
          refine (brokenN_all ?_).trans rfl
          intro j hj
          have : j = 0 ∨ j = 1 := by simp at hj; omega
          rcases this with rfl | rfl
          · simpa using f1
          · simpa using f2'
        | cons b2 q =>
          have f3 := lead_full3 h b1 b2
          simp only at hs
          by_cases c2 : b2.toNat < 128 ∨ 191 < b2.toNat
          · rw [if_pos c2] at hs; cases hs
            refine brokenN_at (by simp) ?_ ?_
            · intro j hj
              have : j = 0 ∨ j = 1 := by omega
              rcases this with rfl | rfl
              · simpa using f1
              · simpa using f2'
            · show fullB [b0, b1, b2] = true
              rw [f3]; simp; omega
          · rw [if_neg c2] at hs
            by_cases z3 : sz = 3
            · rw [if_pos z3] at hs; cases hs
            · rw [if_neg z3] at hs
              have f3' : fullB [b0, b1, b2] = false := by rw [f3]; simp; omega
              cases q with
              | nil =>
                cases hs
                refine (brokenN_all ?_).trans rfl
                intro j hj
                have : j = 0 ∨ j = 1 ∨ j = 2 := by simp at hj; omega
                rcases this with rfl | rfl | rfl
                · simpa using f1
                · simpa using f2'
                · simpa using f3'
              | cons b3 p =>
                simp only at hs
                by_cases c3 : b3.toNat < 128 ∨ 191 < b3.toNat
                · rw [if_pos c3] at hs; cases hs
                  refine brokenN_at (by simp) ?_ ?_
                  · intro j hj
                    have : j = 0 ∨ j = 1 ∨ j = 2 := by omega
                    rcases this with rfl | rfl | rfl
                    · simpa using f1
                    · simpa using f2'
                    · simpa using f3'
                  · show fullB [b0, b1, b2, b3] = true
                    exact lead_full4 h b1 b2 b3
                · rw [if_neg c3] at hs; cases hs

/-- The bytes of a list as the decoder looks at them. -/
theorem decodeGo_list (b0 : UInt8) (m : Bs) : decodeGo ⟨(b0 :: m).toArray⟩ = decodeN (m.length + 1) b0.toNat (m.getD 0 0).toNat (m.getD 1 0).toNat (m.getD 2 0).toNat := by
  unfold decodeGo
  have h0 : ¬ (⟨(b0 :: m).toArray⟩ : ByteArray).size = 0 := by show ¬ (b0 :: m).toArray.size = 0; simp
  rw [if_neg h0, decode_at]
  have hg : ∀ k, ((⟨(b0 :: m).toArray⟩ : ByteArray).get! k) = (b0 :: m).getD k 0 := by
    intro k
    show (b0 :: m).toArray[k]! = _
    rw [getElem!_def]
    simp only [List.getElem?_toArray, List.getD_eq_getElem?_getD]
    cases (b0 :: m)[k]? <;> rfl
  rw [hg, hg, hg, hg]
  rfl
theorem span_decode {b0 : UInt8} {sz lo hi : Nat} (h : Lead b0 sz lo hi) (m : Bs) (j : Nat) (b : Bool) (hs : span sz lo hi m = (j, b)) :
    (b = true → (decodeGo ⟨(b0 :: m).toArray⟩).2 = j ∧ 2 ≤ j ∧ j ≤ m.length + 1) ∧ (b = false → decodeGo ⟨(b0 :: m).toArray⟩ = (65533, 1)) := by
  have hs2 := h.s2
  have hs4 := h.s4
  rw [decodeGo_list, h.dec _ _ _ _ (by omega) (UInt8.toNat_lt _) (UInt8.toNat_lt _) (UInt8.toNat_lt _)]
  unfold slowN
  cases m with
  | nil => cases hs; exact ⟨fun h => (by cases h), fun _ => if_pos (by simp; omega)⟩
  | cons b1 r =>
    simp only [span] at hs
    simp only [List.length_cons, List.getD_cons_zero]
    by_cases c1 : b1.toNat < lo ∨ hi < b1.toNat
    · rw [if_pos c1] at hs; cases hs; exact ⟨fun h => (by cases h), fun _ => by simp [c1]⟩
    · rw [if_neg c1] at hs; simp only [if_neg c1]
      by_cases z2 : sz = 2
      · rw [if_pos z2] at hs; cases hs; subst z2
        refine ⟨fun _ => ⟨?_, by omega, by omega⟩, fun h => by cases h⟩
        rw [if_neg (by omega)]; rfl
      · rw [if_neg z2] at hs
        cases r with
        | nil => cases hs; exact ⟨fun h => (by cases h), fun _ => if_pos (by simp; omega)⟩
        | cons b2 q =>
          simp only [List.length_cons, List.getD_cons_zero, List.getD_cons_succ] at hs ⊢
          by_cases c2 : b2.toNat < 128 ∨ 191 < b2.toNat
          · rw [if_pos c2] at hs; cases hs; exact ⟨fun h => (by cases h), fun _ => by simp [c2]; intros; omega⟩
          · rw [if_neg c2] at hs; simp only [if_neg c2]
            by_cases z3 : sz = 3
            · rw [if_pos z3] at hs; cases hs; subst z3
              refine ⟨fun _ => ⟨?_, by omega, by omega⟩, fun h => by cases h⟩
              rw [if_neg (by omega)]; rfl
            · rw [if_neg z3] at hs
              cases q with
              | nil => cases hs; exact ⟨fun h => (by cases h), fun _ => if_pos (by simp; omega)⟩
              | cons b3 p =>
                simp only [List.length_cons, List.getD_cons_zero] at hs ⊢
                by_cases c3 : b3.toNat < 128 ∨ 191 < b3.toNat
                · rw [if_pos c3] at hs; cases hs; exact ⟨fun h => (by cases h), fun _ => by rw [if_neg (by omega), if_neg (by omega), if_neg (by omega), if_pos c3]⟩
                · rw [if_neg c3] at hs; cases hs
                  obtain rfl : sz = 4 := by omega
                  refine ⟨fun _ => ⟨?_, by omega, by omega⟩, fun h => by cases h⟩
                  rw [if_neg (by omega), if_neg (by omega), if_neg (by omega), if_neg c3]

theorem first_2 {n : Nat} (h : 194 ≤ n ∧ n < 224) : firstT n = 2 := by unfold firstT; rw [if_neg (by omega), if_neg (by omega), if_pos (by omega)]
theorem first_19 {n : Nat} (h : n = 224) : firstT n = 19 := by subst h; rfl
theorem first_3 {n : Nat} (h : (225 ≤ n ∧ n < 237) ∨ (238 ≤ n ∧ n < 240)) : firstT n = 3 := by
  unfold firstT
  rcases h with h | h
  · rw [if_neg (by omega), if_neg (by omega), if_neg (by omega), if_neg (by omega), if_pos (by omega)]
  · rw [if_neg (by omega), if_neg (by omega), if_neg (by omega), if_neg (by omega), if_neg (by omega), if_neg (by omega), if_pos (by omega)]
theorem first_35 {n : Nat} (h : n = 237) : firstT n = 35 := by subst h; rfl
theorem first_52 {n : Nat} (h : n = 240) : firstT n = 52 := by subst h; rfl
theorem first_4 {n : Nat} (h : 241 ≤ n ∧ n < 244) : firstT n = 4 := by
  unfold firstT
  rw [if_neg (by omega), if_neg (by omega), if_neg (by omega), if_neg (by omega), if_neg (by omega), if_neg (by omega), if_neg (by omega), if_neg (by omega), if_pos (by omega)]
theorem first_68 {n : Nat} (h : n = 244) : firstT n = 68 := by subst h; rfl
theorem first_241 {n : Nat} (h : (128 ≤ n ∧ n < 194) ∨ 245 ≤ n) : firstT n = 241 := by
  unfold firstT
  rcases h with h | h
  · rw [if_neg (by omega), if_pos (by omega)]
  · rw [if_neg (by omega), if_neg (by omega), if_neg (by omega), if_neg (by omega), if_neg (by omega), if_neg (by omega), if_neg (by omega), if_neg (by omega), if_neg (by omega), if_neg (by omega)]
/-- Every byte is a control, ASCII, no first byte, or one of a longer character. -/
theorem lead_cases (b0 : UInt8) : b0.toNat < 128 ∨ ((128 ≤ b0.toNat ∧ b0.toNat < 194) ∨ 245 ≤ b0.toNat) ∨ ∃ sz lo hi, Lead b0 sz lo hi := by
  have hlt := b0.toNat_lt
  rcases Nat.lt_or_ge b0.toNat 128 with h | h
  · exact .inl h
  right
  rcases (show ((128 ≤ b0.toNat ∧ b0.toNat < 194) ∨ 245 ≤ b0.toNat) ∨ (194 ≤ b0.toNat ∧ b0.toNat < 224) ∨ b0.toNat = 224 ∨ ((225 ≤ b0.toNat ∧ b0.toNat < 237) ∨ (238 ≤ b0.toNat ∧ b0.toNat < 240)) ∨ b0.toNat = 237 ∨ b0.toNat = 240 ∨ (241 ≤ b0.toNat ∧ b0.toNat < 244) ∨ b0.toNat = 244 by omega) with h | h | h | h | h | h | h | h
  · exact .inl h
  all_goals right
  · have hf : firstT b0.toNat = 2 := first_2 h
    refine ⟨2, 128, 191, cn_two (by simp [ch0]) h, by omega, by rw [hf], by rw [hf]; rfl, by rw [hf]; rfl, fun n b1 b2 b3 hn h1 h2 h3 => (slow_C2 n _ b1 b2 b3 hn h1 h2 h3 h).symm, by omega, by omega, by omega, by omega⟩
  · have hf : firstT b0.toNat = 19 := first_19 h
    refine ⟨3, 160, 191, cn_3a (by simp [ch0]) h, by omega, by rw [hf], by rw [hf]; rfl, by rw [hf]; rfl, fun n b1 b2 b3 hn h1 h2 h3 => (slow_E0 n _ b1 b2 b3 hn h1 h2 h3 h).symm, by omega, by omega, by omega, by omega⟩
  · have hf : firstT b0.toNat = 3 := first_3 h
    refine ⟨3, 128, 191, cn_3c (by simp [ch0]) (by omega), by omega, by rw [hf], by rw [hf]; rfl, by rw [hf]; rfl, fun n b1 b2 b3 hn h1 h2 h3 => (slow_E1 n _ b1 b2 b3 hn h1 h2 h3 h).symm, by omega, by omega, by omega, by omega⟩
  · have hf : firstT b0.toNat = 35 := first_35 h
    refine ⟨3, 128, 159, cn_3b (by simp [ch0]) h, by omega, by rw [hf], by rw [hf]; rfl, by rw [hf]; rfl, fun n b1 b2 b3 hn h1 h2 h3 => (slow_ED n _ b1 b2 b3 hn h1 h2 h3 h).symm, by omega, by omega, by omega, by omega⟩
  · have hf : firstT b0.toNat = 52 := first_52 h
    refine ⟨4, 144, 191, cn_4a (by simp [ch0]) h, by omega, by rw [hf], by rw [hf]; rfl, by rw [hf]; rfl, fun n b1 b2 b3 hn h1 h2 h3 => (slow_F0 n _ b1 b2 b3 hn h1 h2 h3 h).symm, by omega, by omega, by omega, by omega⟩
  · have hf : firstT b0.toNat = 4 := first_4 h
    refine ⟨4, 128, 191, cn_4c (by simp [ch0]) (by omega), by omega, by rw [hf], by rw [hf]; rfl, by rw [hf]; rfl, fun n b1 b2 b3 hn h1 h2 h3 => (slow_F1 n _ b1 b2 b3 hn h1 h2 h3 h).symm, by omega, by omega, by omega, by omega⟩
  · have hf : firstT b0.toNat = 68 := first_68 h
    refine ⟨4, 128, 143, cn_4b (by simp [ch0]) h, by omega, by rw [hf], by rw [hf]; rfl, by rw [hf]; rfl, fun n b1 b2 b3 hn h1 h2 h3 => (slow_F4 n _ b1 b2 b3 hn h1 h2 h3 h).symm, by omega, by omega, by omega, by omega⟩

/-- What one character's decoding says of the text. -/
def badRune (r : Nat × Nat) : Bool := decide (r.1 = 65533) && decide (r.2 < 2)
theorem decode_step (b0 : UInt8) (m : Bs) (hb : 32 ≤ b0.toNat) (i : Nat) :
    (badRune (decodeGo ⟨(b0 :: m).toArray⟩) = true → textGo ch0 (b0 :: m) i = .error (i + brokenN (b0 :: m))) ∧
    (badRune (decodeGo ⟨(b0 :: m).toArray⟩) = false → 1 ≤ (decodeGo ⟨(b0 :: m).toArray⟩).2 ∧ (decodeGo ⟨(b0 :: m).toArray⟩).2 ≤ m.length + 1 ∧ textGo ch0 (b0 :: m) i = textGo ch0 ((b0 :: m).drop (decodeGo ⟨(b0 :: m).toArray⟩).2) (i + (decodeGo ⟨(b0 :: m).toArray⟩).2)) := by
  rcases lead_cases b0 with h | h | ⟨sz, lo, hi, h⟩
  · have hd : decodeGo ⟨(b0 :: m).toArray⟩ = (b0.toNat, 1) := by rw [decodeGo_list]; unfold decodeN; rw [if_pos h]
    rw [hd]
    constructor
    · intro hr; simp [badRune] at hr; omega
    · intro _
      refine ⟨by simp, by simp, ?_⟩
      simp only [textGo]
      rw [if_neg (by omega), cn_ascii (by simp [ch0]) ⟨hb, h⟩]
      simp only [List.drop_succ_cons, List.drop_zero]
      exact textGo_zero _ _ rfl rfl _ _
  · have hd : decodeGo ⟨(b0 :: m).toArray⟩ = (65533, 1) := by
      rw [decodeGo_list]; unfold decodeN
      rw [if_neg (by omega)]
      by_cases g1 : b0.toNat / 32 = 6 ∧ 1 < m.length + 1 ∧ (m.getD 0 0).toNat / 64 = 2
      · rw [if_pos g1, if_neg (by omega)]
      · rw [if_neg g1, if_neg (by omega)]
        by_cases g3 : b0.toNat / 8 = 30 ∧ (1 < m.length + 1 ∧ (m.getD 0 0).toNat / 64 = 2) ∧ (2 < m.length + 1 ∧ (m.getD 1 0).toNat / 64 = 2) ∧ (3 < m.length + 1 ∧ (m.getD 2 0).toNat / 64 = 2)
        · rw [if_pos g3, if_neg (by omega)]
        · rw [if_neg g3]
    rw [hd]
    have hbr : brokenN (b0 :: m) = 0 := by
      refine brokenN_at (by simp) (fun j hj => by omega) ?_
      have : firstT b0.toNat = 241 := first_241 h
      simp [fullB, this]
    constructor
    · intro _
      simp only [textGo]
      rw [if_neg (by omega), cn_none (by simp [ch0]) (by omega), hbr]; rfl
    · intro hr; simp [badRune] at hr
  · cases hs : span sz lo hi m with
    | mk j b =>
      obtain ⟨d1, d2⟩ := span_decode h m j b hs
      have ht := span_text h m i j b hs
      cases b
      · rw [d2 rfl]
        constructor
        · intro _; rw [ht, span_broken h m j hs]; rfl
        · intro hr; simp [badRune] at hr
      · obtain ⟨e1, e2, e3⟩ := d1 rfl
        constructor
        · intro hr; simp only [badRune, Bool.and_eq_true, decide_eq_true_eq] at hr; omega
        · intro _; rw [e1]; exact ⟨by omega, e3, by rw [ht]; rfl⟩
end Go.Proofs.YtfkleeigdplapaaDoor

namespace Go.Proofs.YtfkleeigdplapaaDoor
open Go.Lib

def okAt (r : Except Nat Nat) (n : Nat) : Bool := match r with
  | .ok k => decide (k = n)
  | .error _ => false
theorem isText_go : ∀ (l : Bs) (x : Ch) (i : Nat), (match chRun x l with
    | some y => decide (y.left = 0)
    | none => false) = okAt (textGo x l i) (i + l.length)
  | [], x, i => by
    simp only [chRun, textGo]
    by_cases h : x.left = 0 <;> simp [h, okAt]
  | c :: l, x, i => by
    simp only [chRun, textGo]
    by_cases h : x.left = 0 ∧ c.toNat < 32
    · rw [if_pos h, cn_none (by omega) (.inl h.2)]
      simp [okAt]
    · rw [if_neg h]
      cases hn : chNext x c with
      | none => simp [okAt]
      | some y =>
        simp only
        rw [isText_go l y (i + 1)]
        rw [show i + 1 + l.length = i + (c :: l).length from by simp; omega]
theorem isText_R (l : Bs) (i : Nat) : isTextB l = okAt (textGo ch0 l i) (i + l.length) := by
  unfold isTextB
  exact isText_go l ch0 i
theorem isText_low (b0 : UInt8) (m : Bs) (h : b0.toNat < 32) : isTextB (b0 :: m) = false := by
  unfold isTextB
  rw [chRun, cn_none (by simp [ch0]) (.inl h)]
/-- One rune of the text. -/
theorem isText_rune (b0 : UInt8) (m : Bs) (hb : 32 ≤ b0.toNat) :
    (badRune (decodeGo ⟨(b0 :: m).toArray⟩) = true → isTextB (b0 :: m) = false) ∧
    (badRune (decodeGo ⟨(b0 :: m).toArray⟩) = false → 1 ≤ (decodeGo ⟨(b0 :: m).toArray⟩).2 ∧ (decodeGo ⟨(b0 :: m).toArray⟩).2 ≤ m.length + 1 ∧ isTextB (b0 :: m) = isTextB ((b0 :: m).drop (decodeGo ⟨(b0 :: m).toArray⟩).2)) := by
  obtain ⟨h1, h2⟩ := decode_step b0 m hb 0
  constructor
  · intro h
    rw [isText_R _ 0, h1 h]
    rfl
  · intro h
    obtain ⟨g1, g2, g3⟩ := h2 h
    refine ⟨g1, g2, ?_⟩
    rw [isText_R (b0 :: m) 0, g3, isText_R _ (0 + (decodeGo ⟨(b0 :: m).toArray⟩).2)]
    congr 1
    rw [List.length_drop, show 0 + (decodeGo ⟨(b0 :: m).toArray⟩).2 + ((b0 :: m).length - (decodeGo ⟨(b0 :: m).toArray⟩).2) = 0 + (b0 :: m).length from by simp only [List.length_cons] at *; omega]
theorem get_list (l : Bs) (i : Nat) : (⟨l.toArray⟩ : ByteArray).get! i = l.getD i 0 := by
  show (l.toArray)[i]! = _
  simp [getElem!_def, List.getD]
  cases l[i]? <;> rfl
theorem decode_drop (l : Bs) (p : Nat) (h : p < l.length) : Utf8.decode ⟨l.toArray⟩ p = decodeGo ⟨(l.drop p).toArray⟩ := by
  unfold decodeGo
  rw [if_neg (by show ¬ (l.drop p).toArray.size = 0; simp; omega), decode_at, decode_at]
  simp only [get_list]
  have e : ∀ j, (l.drop p).getD j 0 = l.getD (p + j) 0 := fun j => by simp [List.getD]
  rw [e, e, e, e]
  show decodeN (l.toArray.size - p) _ _ _ _ = decodeN ((l.drop p).toArray.size - 0) _ _ _ _
  simp
theorem decodeN_low {n b0 b1 b2 b3 : Nat} (h : (decodeN n b0 b1 b2 b3).1 < 128) : b0 = (decodeN n b0 b1 b2 b3).1 := by
  revert h
  unfold decodeN
  repeat' split
  all_goals (simp; try omega)
theorem decodeN_fffd {n b0 b1 b2 b3 : Nat} (h0 : b0 < 256) (h1 : b1 < 256) (h2 : b2 < 256) (h : (decodeN n b0 b1 b2 b3).1 = 65533) :
    (decodeN n b0 b1 b2 b3).2 < 2 ∨ (b0 = 239 ∧ b1 = 191 ∧ b2 = 189 ∧ 2 < n) := by
  have g0 := h0; have g1 := h1; have g2 := h2
  revert h
  unfold decodeN
  repeat' split
  all_goals (simp; try omega)
theorem decodeN_mark (n b3 : Nat) (h : 2 < n) : decodeN n 239 191 189 b3 = (65533, 3) := by
  unfold decodeN
  rw [if_neg (by omega), if_neg (by omega), if_pos ⟨by omega, ⟨by omega, by omega⟩, ⟨by omega, by omega⟩⟩]
  simp
/-- The program's test of one rune. -/
def runeBad (l : Bs) : Bool := decide ((decodeGo ⟨l.toArray⟩).1 < 32) || (decide ((decodeGo ⟨l.toArray⟩).1 = 65533) && !pfxB [239, 191, 189] l)
theorem runeBad_eq (b0 : UInt8) (m : Bs) (hb : 32 ≤ b0.toNat) : runeBad (b0 :: m) = badRune (decodeGo ⟨(b0 :: m).toArray⟩) := by
  unfold runeBad badRune
  rw [decodeGo_list]
  have hlow : ¬ (decodeN (m.length + 1) b0.toNat (m.getD 0 0).toNat (m.getD 1 0).toNat (m.getD 2 0).toNat).1 < 32 := fun h => by
    have := decodeN_low (Nat.lt_trans h (by omega)); omega
  rw [decide_eq_false hlow, Bool.false_or]
  by_cases hr : (decodeN (m.length + 1) b0.toNat (m.getD 0 0).toNat (m.getD 1 0).toNat (m.getD 2 0).toNat).1 = 65533
  · rw [decide_eq_true hr, Bool.true_and, Bool.true_and]
    have hf := decodeN_fffd (UInt8.toNat_lt _) (UInt8.toNat_lt _) (UInt8.toNat_lt _) hr
    by_cases hp : pfxB [239, 191, 189] (b0 :: m) = true
    · rw [hp]
      have hm : (b0 :: m).take 3 = [239, 191, 189] := by simpa [pfxB] using hp
      match m, hm with
      | m0 :: m1 :: q, hm =>
        simp only [List.take_succ_cons, List.take_zero, List.cons.injEq, and_true] at hm
        obtain ⟨rfl, rfl, rfl⟩ := hm
        have := decodeN_mark ((191 :: 189 :: q : Bs).length + 1) (((191 :: 189 :: q : Bs).getD 2 0).toNat) (by simp)
        simp only [List.getD_cons_zero, List.getD_cons_succ] at this ⊢
        erw [this]
        rfl
    · rw [Bool.not_eq_true] at hp
      rw [hp]
      rcases hf with hf | ⟨h1, h2, h3, h4⟩
      · rw [decide_eq_true hf]; rfl
      · exfalso
        match m, h2, h3, h4 with
        | m0 :: m1 :: q, h2, h3, h4 =>
          have e0 : b0 = 239 := UInt8.toNat_inj.mp (by rw [h1]; rfl)
          have e1 : m0 = 191 := UInt8.toNat_inj.mp (by simpa using h2)
          have e2 : m1 = 189 := UInt8.toNat_inj.mp (by simpa using h3)
          subst e0 e1 e2
          simp [pfxB] at hp
        | [m0], h2, h3, h4 => simp at h4
        | [], h2, h3, h4 => simp at h4
  · rw [decide_eq_false hr, Bool.false_and, Bool.false_and]
theorem rune_step (b0 : UInt8) (m : Bs) : (runeBad (b0 :: m) = true → isTextB (b0 :: m) = false) ∧
    (runeBad (b0 :: m) = false → 1 ≤ (decodeGo ⟨(b0 :: m).toArray⟩).2 ∧ (decodeGo ⟨(b0 :: m).toArray⟩).2 ≤ m.length + 1 ∧ isTextB (b0 :: m) = isTextB ((b0 :: m).drop (decodeGo ⟨(b0 :: m).toArray⟩).2)) := by
  by_cases hb : 32 ≤ b0.toNat
  · rw [runeBad_eq b0 m hb]; exact isText_rune b0 m hb
  · have hd : (decodeGo ⟨(b0 :: m).toArray⟩) = (b0.toNat, 1) := by rw [decodeGo_list]; unfold decodeN; rw [if_pos (by omega)]
    have : runeBad (b0 :: m) = true := by unfold runeBad; rw [hd]; simp; omega
    rw [this]
    exact ⟨fun _ => isText_low b0 m (by omega), fun h => by cases h⟩
end Go.Proofs.YtfkleeigdplapaaDoor

namespace Go.Proofs.YtfkleeigdplapaaDoor
open Go.RowKit

theorem iterPos_of {w : World} {k : Nat} {s : ByteArray} {p : Nat} (h : w.heap[k]? = some (.stringIter s p)) : w.iterPos k = p := by simp [World.iterPos, h]
set_option maxHeartbeats 4000000 in
set_option maxRecDepth 100000 in
theorem isText_58 (l : Bs) (w : World) (hl : l.length ≤ 1000000000) : Calls Tryd.prog 58 #[S l] w fun e w' => e = .returned (.bool (isTextB l)) ∧ Below w.heap.size w w' := by
  go_enter Tryd.func58, Tryd.ntmps58
  go_wp2_with fail
  go_loopw [3] (fun v wr => ∃ (pos : Nat), wr.heap[w.heap.size]? = some (.stringIter ⟨l.toArray⟩ pos) ∧ Below w.heap.size w wr ∧ pos ≤ l.length ∧ Hid (isTextB l = isTextB (l.drop pos))) (fun _ wr => l.length - wr.iterPos w.heap.size)
  case atStart => exact ⟨0, World.iter_heap w _ 0, (Below.refl _ _).alloc (Nat.le_refl _) _, by omega, rfl⟩
  case round =>
    obtain ⟨pos, hit, hb, hpl, HE⟩ := hrel
    have hpos0 := iterPos_of hit
    by_cases hp : pos < l.length
    · have hnx : ∀ ty, (Instr.next (.pointer (some ⟨w.heap.size, 0, none⟩)) true ty).run Tryd.prog wr = _ := fun ty => Lib.run_next_any_at wr w.heap.size ⟨l.toArray⟩ pos ty hit hp
      have hit2 := Lib.iterAt_heap wr w.heap.size ⟨l.toArray⟩ pos (pos + (Utf8.decode ⟨l.toArray⟩ pos).2) hit
      have hb2 := Lib.below_iterAt hb (k := w.heap.size) (Nat.le_refl _) ⟨l.toArray⟩ (pos + (Utf8.decode ⟨l.toArray⟩ pos).2)
      obtain ⟨c, m, hcm⟩ : ∃ c m, l.drop pos = c :: m := ⟨l[pos], l.drop (pos + 1), List.drop_eq_getElem_cons hp⟩
      have hrs := rune_step c m
      rw [← hcm] at hrs
      have hml : m.length + 1 = l.length - pos := by have := congrArg List.length hcm; simpa using this.symm
      unfold runeBad at hrs
      rw [decode_drop l pos hp] at hnx hit2 hb2
      obtain ⟨W1, hW1⟩ : ∃ W1, W1 = wr.iterAt w.heap.size ⟨l.toArray⟩ (pos + (Lib.decodeGo ⟨(l.drop pos).toArray⟩).2) := ⟨_, rfl⟩
      rw [← hW1] at hnx hit2 hb2
      generalize (Lib.decodeGo ⟨(l.drop pos).toArray⟩).1 = r at *
      generalize (Lib.decodeGo ⟨(l.drop pos).toArray⟩).2 = z at *
      have HRS := Lib.hid hrs
      clear hW1 hit hb hrs hcm
      by_cases h1 : r < 32
      · have hf : Hid (isTextB l = false) := by rw [HE.out]; exact HRS.out.1 (by simp [h1])
        go_wp2_with fail
        go_ret
        exact ⟨ret_bool hf.out.symm, hb2⟩
      · have hi1 : ¬ (r : Int) < 32 := by omega
        by_cases h2 : r = 65533
        · have hi2 : (r : Int) = 65533 := by omega
          cases hx : pfxB [239, 191, 189] (l.drop pos)
          · have hf : Hid (isTextB l = false) := by rw [HE.out]; exact HRS.out.1 (by simp [h2, hx])
            have HX := Lib.hid hx
            clear hx
            go_wp2_with (go_at_call 78; ((with_reducible refine Calls.mono (hasPrefix_78 (l.drop pos) [239, 191, 189] _) ?_); rintro e w' ⟨rfl, rfl⟩; rw [HX.out]))
            go_ret
            exact ⟨ret_bool hf.out.symm, hb2⟩
          · obtain ⟨z1, z2, hf⟩ := HRS.out.2 (by simp [h2, hx])
            have HX := Lib.hid hx
            clear hx
            rw [List.drop_drop] at hf
            have HF := Lib.hid (HE.out.trans hf)
            clear hf
            go_wp2_with (go_at_call 78; ((with_reducible refine Calls.mono (hasPrefix_78 (l.drop pos) [239, 191, 189] _) ?_); rintro e w' ⟨rfl, rfl⟩; rw [HX.out]))
            go_roundw
            case rel => exact ⟨pos + z, hit2, hb2, by omega, HF⟩
            case measure => rw [hpos0, iterPos_of hit2]; omega
        · have hi2 : ¬ (r : Int) = 65533 := by omega
          obtain ⟨z1, z2, hf⟩ := HRS.out.2 (by simp [h1, h2])
          rw [List.drop_drop] at hf
          have HF := Lib.hid (HE.out.trans hf)
          clear hf
          go_wp2_with fail
          go_roundw
          case rel => exact ⟨pos + z, hit2, hb2, by omega, HF⟩
          case measure => rw [hpos0, iterPos_of hit2]; omega
    · have hnx : ∀ ty, (Instr.next (.pointer (some ⟨w.heap.size, 0, none⟩)) true ty).run Tryd.prog wr = _ := fun ty => Lib.run_next_end_at wr w.heap.size ⟨l.toArray⟩ pos ty hit hp
      have hf : Hid (isTextB l = true) := by rw [HE.out, List.drop_eq_nil_of_le (by omega)]; rfl
      clear hit
      go_wp2_with fail
      go_ret
      exact ⟨ret_bool hf.out.symm, hb⟩
end Go.Proofs.YtfkleeigdplapaaDoor

namespace Go.Proofs.YtfkleeigdplapaaDoor
open Go.RowKit

theorem pfx_slice (l : Bs) (p : Nat) (_ : p + 3 ≤ l.length) : pfxB [239, 191, 189] (l.drop p) = decide ((l.take (p + 3)).drop p = [239, 191, 189]) := by
  unfold pfxB
  rw [List.drop_take, show p + 3 - p = 3 from by omega]
  rfl
theorem pfx_short (l : Bs) (p : Nat) (h : l.length < p + 3) : pfxB [239, 191, 189] (l.drop p) = false := by
  unfold pfxB
  rw [decide_eq_false]
  intro e
  have := congrArg List.length e
  simp at this
  omega
set_option maxHeartbeats 4000000 in
set_option maxRecDepth 100000 in
theorem valid_27 (l : Bs) (w : World) (hl : l.length ≤ 1000000000) : Calls Tryd.prog 27 #[S l] w fun e w' => e = .returned (.bool (isTextB l)) ∧ Below w.heap.size w w' := by
  go_enter Tryd.func27, Tryd.ntmps27
  go_wp2_with fail
  go_loopw [3] (fun v wr => ∃ (pos : Nat), wr.heap[w.heap.size]? = some (.stringIter ⟨l.toArray⟩ pos) ∧ Below w.heap.size w wr ∧ pos ≤ l.length ∧ Hid (isTextB l = isTextB (l.drop pos))) (fun _ wr => l.length - wr.iterPos w.heap.size)
  case atStart => exact ⟨0, World.iter_heap w _ 0, (Below.refl _ _).alloc (Nat.le_refl _) _, by omega, rfl⟩
  case round =>
    obtain ⟨pos, hit, hb, hpl, HE⟩ := hrel
    have hpos0 := iterPos_of hit
    by_cases hp : pos < l.length
    · have hnx : ∀ ty, (Instr.next (.pointer (some ⟨w.heap.size, 0, none⟩)) true ty).run Tryd.prog wr = _ := fun ty => Lib.run_next_any_at wr w.heap.size ⟨l.toArray⟩ pos ty hit hp
      have hit2 := Lib.iterAt_heap wr w.heap.size ⟨l.toArray⟩ pos (pos + (Utf8.decode ⟨l.toArray⟩ pos).2) hit
      have hb2 := Lib.below_iterAt hb (k := w.heap.size) (Nat.le_refl _) ⟨l.toArray⟩ (pos + (Utf8.decode ⟨l.toArray⟩ pos).2)
      obtain ⟨c, m, hcm⟩ : ∃ c m, l.drop pos = c :: m := ⟨l[pos], l.drop (pos + 1), List.drop_eq_getElem_cons hp⟩
      have hrs := rune_step c m
      rw [← hcm] at hrs
      have hml : m.length + 1 = l.length - pos := by have := congrArg List.length hcm; simpa using this.symm
      unfold runeBad at hrs
      rw [decode_drop l pos hp] at hnx hit2 hb2
      obtain ⟨W1, hW1⟩ : ∃ W1, W1 = wr.iterAt w.heap.size ⟨l.toArray⟩ (pos + (Lib.decodeGo ⟨(l.drop pos).toArray⟩).2) := ⟨_, rfl⟩
      rw [← hW1] at hnx hit2 hb2
      generalize (Lib.decodeGo ⟨(l.drop pos).toArray⟩).1 = r at *
      generalize (Lib.decodeGo ⟨(l.drop pos).toArray⟩).2 = z at *
      have HRS := Lib.hid hrs
      clear hW1 hit hb hrs hcm
      by_cases h1 : r < 32
      · have hf : Hid (isTextB l = false) := by rw [HE.out]; exact HRS.out.1 (by simp [h1])
        go_wp2_with fail
        go_ret
        exact ⟨ret_bool hf.out.symm, hb2⟩
      · have hi1 : ¬ (r : Int) < 32 := by omega
        by_cases h2 : r = 65533
        · have hi2 : (r : Int) = 65533 := by omega
          by_cases h3 : pos + 3 ≤ l.length
          · have HP := Lib.hid (pfx_slice l pos h3)
            by_cases hx : (l.take (pos + 3)).drop pos = [239, 191, 189]
            · obtain ⟨z1, z2, hf⟩ := HRS.out.2 (by rw [HP.out]; simp [h2, hx])
              rw [List.drop_drop] at hf
              have HF := Lib.hid (HE.out.trans hf)
              clear hf
              go_wp2_with fail
              go_roundw
              case rel => exact ⟨pos + z, hit2, hb2, by omega, HF⟩
              case measure => rw [hpos0, iterPos_of hit2]; omega
            · have hf : Hid (isTextB l = false) := by rw [HE.out]; exact HRS.out.1 (by rw [HP.out]; simp [h2, hx])
              have hbq : (List.drop pos (List.take (pos + 3) l) == [239, 191, 189]) = false := by simpa using hx
              go_wp2_with fail
              go_ret
              exact ⟨ret_bool hf.out.symm, hb2⟩
          · have hf : Hid (isTextB l = false) := by rw [HE.out]; exact HRS.out.1 (by rw [pfx_short l pos (by omega)]; simp [h2])
            go_wp2_with fail
            go_ret
            exact ⟨ret_bool hf.out.symm, hb2⟩
        · have hi2 : ¬ (r : Int) = 65533 := by omega
          obtain ⟨z1, z2, hf⟩ := HRS.out.2 (by simp [h1, h2])
          rw [List.drop_drop] at hf
          have HF := Lib.hid (HE.out.trans hf)
          clear hf
          go_wp2_with fail
          go_roundw
          case rel => exact ⟨pos + z, hit2, hb2, by omega, HF⟩
          case measure => rw [hpos0, iterPos_of hit2]; omega
    · have hnx : ∀ ty, (Instr.next (.pointer (some ⟨w.heap.size, 0, none⟩)) true ty).run Tryd.prog wr = _ := fun ty => Lib.run_next_end_at wr w.heap.size ⟨l.toArray⟩ pos ty hit hp
      have hf : Hid (isTextB l = true) := by rw [HE.out, List.drop_eq_nil_of_le (by omega)]; rfl
      clear hit
      go_wp2_with fail
      go_ret
      exact ⟨ret_bool hf.out.symm, hb⟩
end Go.Proofs.YtfkleeigdplapaaDoor
