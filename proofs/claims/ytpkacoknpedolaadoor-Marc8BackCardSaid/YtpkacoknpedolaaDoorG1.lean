/-
  Encoding of a text of characters, character by character; decoding by what follows; Marc8Marks, plain.
-/
import Derived.Test.YtpkacoknpedolaaDoorE3
namespace Go.Proofs.YtpkacoknpedolaaDoor
open Go.RowKit

theorem decode_drop (s : Bs) (pos : Nat) : Utf8.decode ⟨s.toArray⟩ pos = Lib.decodeL (s.drop pos) := by
  have h := Lib.tail_decode ⟨s.toArray⟩ pos 0
  rw [ba_extract, Nat.add_zero] at h
  rw [← h]
  unfold Lib.decodeL
  have hz : (⟨s.toArray⟩ : ByteArray).size = s.length := by simp [ByteArray.size]
  rw [hz, List.take_length]
theorem decodeL_enc (c : Nat) (hc : Ch16 c) (q : Bs) : Lib.decodeL (enc c ++ q) = (c, (enc c).length) := by
  unfold Ch16 at hc
  rw [Lib.decodeL_N]
  by_cases h1 : c ≤ 127
  · have he : enc c = [c.toUInt8] := by simp [enc, Lib.encodeRune, Lib.encodeRuneZ_one (r := (c : Int)) (by omega) (by omega)]
    have hu : c.toUInt8.toNat = c := UInt8.toNat_ofNat_of_lt' (by show c < 256; omega)
    rw [he]
    simp only [List.cons_append, List.nil_append, List.getD_cons_zero, hu, Lib.decodeN]
    rw [if_pos (by omega)]; rfl
  · by_cases h2 : c ≤ 2047
    · have he : enc c = [(192 + c / 64).toUInt8, (128 + c % 64).toUInt8] := by
        simp only [enc, Lib.encodeRune, Lib.encodeRuneZ_two (r := (c : Int)) (by omega) (by omega), List.map_cons, List.map_nil]
        rw [show (192 + (c : Int) / 64).toNat = 192 + c / 64 by omega, show (128 + (c : Int) % 64).toNat = 128 + c % 64 by omega]
      have hu : (192 + c / 64).toUInt8.toNat = 192 + c / 64 := UInt8.toNat_ofNat_of_lt' (by show _ < 256; omega)
      have hv : (128 + c % 64).toUInt8.toNat = 128 + c % 64 := UInt8.toNat_ofNat_of_lt' (by show _ < 256; omega)
      rw [he]
      simp only [List.cons_append, List.nil_append, List.getD_cons_zero, List.getD_cons_succ, List.length_cons, hu, hv, Lib.decodeN]
      rw [if_neg (by omega), if_pos (by omega), if_pos (by omega)]
      congr 1; omega
    · have he : enc c = [(224 + c / 4096).toUInt8, (128 + c / 64 % 64).toUInt8, (128 + c % 64).toUInt8] := by
        simp only [enc, Lib.encodeRune, Lib.encodeRuneZ_three (r := (c : Int)) (by omega), List.map_cons, List.map_nil]
        rw [show (224 + (c : Int) / 4096).toNat = 224 + c / 4096 by omega, show (128 + (c : Int) / 64 % 64).toNat = 128 + c / 64 % 64 by omega, show (128 + (c : Int) % 64).toNat = 128 + c % 64 by omega]
      have hu : (224 + c / 4096).toUInt8.toNat = 224 + c / 4096 := UInt8.toNat_ofNat_of_lt' (by show _ < 256; omega)
      have hw : (128 + c / 64 % 64).toUInt8.toNat = 128 + c / 64 % 64 := UInt8.toNat_ofNat_of_lt' (by show _ < 256; omega)
      have hv : (128 + c % 64).toUInt8.toNat = 128 + c % 64 := UInt8.toNat_ofNat_of_lt' (by show _ < 256; omega)
      rw [he]
      simp only [List.cons_append, List.nil_append, List.getD_cons_zero, List.getD_cons_succ, List.length_cons, hu, hv, hw, Lib.decodeN]
      rw [if_neg (by omega), if_neg (by omega), if_pos (by omega), if_pos (by omega)]
      congr 1; omega
/-- Encoding, character by character. -/
def encC : List Nat → Nat → ES → Except (Nat × Option Int) ES
  | [], _, e => .ok e
  | c :: r, pos, e => match encStep c e with
    | none => .error (pos, some 15)
    | some e' => encC r (pos + (enc c).length) e'
theorem enc_chars : ∀ (cs : List Nat) (pre : Bs) (fu : Nat) (e : ES), (∀ c ∈ cs, Ch16 c ∧ c ≠ 65533) → (cs.flatMap enc).length ≤ fu → encGo ⟨(pre ++ cs.flatMap enc).toArray⟩ fu pre.length e = encC cs pre.length e := by
  intro cs
  induction cs with
  | nil =>
    intro pre fu e _ _
    rw [List.flatMap_nil, List.append_nil]
    exact encGo_end _ _ (by simp [ByteArray.size]) e fu
  | cons c cs ih =>
    intro pre fu e hc hf
    have hl := enc_le c
    rw [List.flatMap_cons, List.length_append] at hf
    cases fu with
    | zero => omega
    | succ f =>
      obtain ⟨h1, h2⟩ := hc c List.mem_cons_self
      rw [List.flatMap_cons]
      have hd : Utf8.decode ⟨(pre ++ (enc c ++ cs.flatMap enc)).toArray⟩ pre.length = (c, (enc c).length) := by
        rw [decode_drop, List.drop_left, decodeL_enc c h1]
      have hp : pre.length < (⟨(pre ++ (enc c ++ cs.flatMap enc)).toArray⟩ : ByteArray).size := by simp [ByteArray.size]; omega
      rw [encGo, if_pos hp, hd, encC]
      simp only
      rw [if_neg h2]
      cases encStep c e with
      | none => rfl
      | some e' =>
        simp only
        have := ih (pre ++ enc c) f e' (fun x hx => hc x (List.mem_cons_of_mem _ hx)) (by omega)
        rw [List.append_assoc, List.length_append] at this
        exact this
theorem encode_chars (cs : List Nat) (h : ∀ c ∈ cs, Ch16 c ∧ c ≠ 65533) (e : ES) : encGo ⟨(cs.flatMap enc).toArray⟩ (cs.flatMap enc).length 0 e = encC cs 0 e := enc_chars cs [] _ e h (Nat.le_refl _)
/-- A step of decoding, by what follows; how many bytes more it takes. -/
def stepL (b : UInt8) (r : Bs) (k : Nat) (d : DS) : Except (Nat × Int) (DS × Nat) :=
  if b.toNat < 32 then
    if d.held ≠ [] then .error (k, 15)
    else if b ≠ 27 then .ok ({ d with out := d.out ++ [b] }, 0)
    else match openedR r with
      | .error e => .error (k, e)
      | .ok n => .ok ({ d with now := n }, 2)
  else match look marksT b.toNat with
    | some m => .ok ({ d with first := if d.held = [] then k else d.first, held := d.held ++ enc m }, 0)
    | none => match (if b.toNat < 128 then look (setT d.now) b.toNat else look uppersT b.toNat) with
      | some c => .ok ({ d with out := d.out ++ enc c ++ d.held, held := [] }, 0)
      | none => .error (k, 15)
def decL : Nat → Bs → Nat → DS → Except (Nat × Int) DS
  | 0, _, _, d => .ok d
  | _ + 1, [], _, d => .ok d
  | f + 1, b :: r, k, d => match stepL b r k d with
    | .error e => .error e
    | .ok (d', n) => decL f (r.drop n) (k + 1 + n) d'
theorem step_drop {s : Bs} {k : Nat} {b : UInt8} {r : Bs} (h : s.drop k = b :: r) (d : DS) : decStep s k d = match stepL b r k d with
    | .error e => .error e
    | .ok (d', n) => .ok (d', k + 1 + n) := by
  have hlt : k < s.length := by
    by_cases hk : k < s.length
    · exact hk
    · rw [List.drop_of_length_le (by omega)] at h; cases h
  have h2 := List.drop_eq_getElem_cons hlt
  rw [h] at h2
  injection h2 with h3 h4
  have hb : s.getD k 0 = b := by simp [hlt, h3]
  unfold decStep stepL
  simp only [hb, ← h4]
  split
  · split
    · rfl
    · split
      · rfl
      · cases openedR r <;> rfl
  · cases look marksT b.toNat with
    | some m => rfl
    | none =>
      simp only
      cases (if b.toNat < 128 then look (setT d.now) b.toNat else look uppersT b.toNat) <;> rfl
theorem decGo_drop : ∀ (f : Nat) (s : Bs) (k : Nat) (d : DS), decGo f s k d = decL f (s.drop k) k d := by
  intro f
  induction f with
  | zero => intro s k d; rfl
  | succ f ih =>
    intro s k d
    rw [decGo]
    cases hd : s.drop k with
    | nil =>
      have : ¬ k < s.length := by
        intro hk
        rw [List.drop_eq_getElem_cons hk] at hd; cases hd
      rw [if_neg this]; rfl
    | cons b r =>
      have hk : k < s.length := by
        by_cases hk : k < s.length
        · exact hk
        · rw [List.drop_of_length_le (by omega)] at hd; cases hd
      rw [if_pos hk, step_drop hd, decL]
      cases stepL b r k d with
      | error e => rfl
      | ok p =>
        obtain ⟨d', n⟩ := p
        simp only
        rw [ih]
        congr 1
        rw [Nat.add_assoc, ← List.drop_drop, hd, Nat.add_comm 1 n]
        rfl
theorem decL_fuel : ∀ (f g : Nat) (p : Bs) (k : Nat) (d : DS), p.length ≤ f → p.length ≤ g → decL f p k d = decL g p k d := by
  intro f
  induction f with
  | zero =>
    intro g p k d hf _
    have : p = [] := List.eq_nil_of_length_eq_zero (by omega)
    subst this
    cases g <;> rfl
  | succ f ih =>
    intro g p k d hf hg
    cases p with
    | nil => cases g <;> rfl
    | cons b r =>
      cases g with
      | zero => simp at hg
      | succ g =>
        rw [decL, decL]
        cases stepL b r k d with
        | error e => rfl
        | ok q =>
          obtain ⟨d', n⟩ := q
          simp only
          refine ih g _ _ _ ?_ ?_ <;> simp at hf hg ⊢ <;> omega
def decW (p : Bs) (k : Nat) (d : DS) : Except (Nat × Int) DS := decL p.length p k d
theorem decW_nil (k : Nat) (d : DS) : decW [] k d = .ok d := rfl
theorem decW_cons (b : UInt8) (r : Bs) (k : Nat) (d : DS) : decW (b :: r) k d = match stepL b r k d with
    | .error e => .error e
    | .ok (d', n) => decW (r.drop n) (k + 1 + n) d' := by
  show decL (r.length + 1) (b :: r) k d = _
  rw [decL]
  cases stepL b r k d with
  | error e => rfl
  | ok q =>
    obtain ⟨d', n⟩ := q
    exact decL_fuel _ _ _ _ _ (by simp) (Nat.le_refl _)
theorem decodeR_W (s : Bs) : decodeR s = decEnd (decW s 0 ⟨[], [], 0, 0⟩) := by unfold decodeR decW; rw [decGo_drop]; rfl
end Go.Proofs.YtpkacoknpedolaaDoor
