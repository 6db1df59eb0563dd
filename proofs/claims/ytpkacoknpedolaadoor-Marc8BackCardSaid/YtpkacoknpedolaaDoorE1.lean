/-
  Texts of ASCII and controls: encoding leaves them as they are.
-/
import Derived.Test.YtpkacoknpedolaaDoorD6
namespace Go.Proofs.YtpkacoknpedolaaDoor
open Go.RowKit Go.Maps

theorem ascii_facts : ∀ b : Fin 127, b.val ≠ 27 → tabC compT b.val = none ∧ mkR b.val = none ∧ (32 ≤ b.val → upR b.val = none ∧ stR 0 b.val = some b.val) := by decide +kernel
theorem decode_small (s : Bs) (pos : Nat) (h : pos < s.length) (ha : s[pos].toNat < 128) : Utf8.decode ⟨s.toArray⟩ pos = (s[pos].toNat, 1) := by
  have hp : pos < (⟨s.toArray⟩ : ByteArray).size := by simpa [ByteArray.size] using h
  have := decode_ascii ⟨s.toArray⟩ pos hp ha
  exact this
/-- What encoding has done with the first bytes. -/
def PlainE (s : Bs) (pos : Nat) (e : ES) : Prop := e.now = 0 ∧ e.out ++ e.pend = s.take pos ∧ e.pend.length ≤ 1 ∧ pos ≤ s.length
theorem fin_plain {e : ES} (h : e.pend.length ≤ 1) : (finR e).out = e.out ++ e.pend := by
  unfold finR
  match hp : e.pend with
  | [] => simp
  | [b] => simp
  | b :: c :: r => rw [hp] at h; simp at h
theorem plain_step (s : Bs) (hs : ∀ b ∈ s, plainB b = true) (pos : Nat) (e : ES) (h : pos < s.length) (hp : PlainE s pos e) : (Utf8.decode ⟨s.toArray⟩ pos) = (s[pos].toNat, 1) ∧ s[pos].toNat ≠ 65533 ∧ ∃ e', encStep s[pos].toNat e = some e' ∧ PlainE s (pos + 1) e' := by
  obtain ⟨h0, h1, h2, h3⟩ := hp
  have hb := hs _ (List.getElem_mem h)
  unfold plainB at hb
  simp only [Bool.and_eq_true, decide_eq_true_eq, Bool.not_eq_true', decide_eq_false_iff_not] at hb
  have hn27 : s[pos].toNat ≠ 27 := fun e => hb.2 (by rw [← UInt8.ofNat_toNat (x := s[pos]), e]; rfl)
  obtain ⟨f1, f2, f3⟩ := ascii_facts ⟨s[pos].toNat, hb.1⟩ hn27
  simp only at f1 f2 f3
  have ht : s.take (pos + 1) = s.take pos ++ [s[pos]] := by rw [List.take_succ_eq_append_getElem h]
  have hf := fin_plain h2
  refine ⟨decode_small s pos h (by omega), by omega, ?_⟩
  by_cases hc : s[pos].toNat < 32
  · refine ⟨_, step_ctl f1 f2 ⟨hc, hn27⟩ e, ?_, ?_, ?_, h⟩
    · show (finR e).now = 0; rw [fin_now]; exact h0
    · show (finR e).out ++ [UInt8.ofNat s[pos].toNat] ++ (finR e).pend = _
      rw [hf, h1, fin_pend, ht, UInt8.ofNat_toNat]; simp
    · show (finR e).pend.length ≤ 1; rw [fin_pend]; simp
  · obtain ⟨f4, f5⟩ := f3 (by omega)
    have hpt : putR s[pos].toNat e = some { finR e with pend := [s[pos]] } := by
      unfold putR
      rw [f4]
      simp only
      rw [fin_now, h0]
      simp only [findSet, f5]
      have ht0 : toR 0 (finR e) = finR e := by unfold toR; rw [fin_now, h0, if_pos rfl]
      rw [ht0, UInt8.ofNat_toNat]
      simp [fin_now, h0]
    refine ⟨_, (step_put f1 f2 (fun h => hc h.1) e).trans hpt, ?_, ?_, ?_, h⟩
    · show (finR e).now = 0; rw [fin_now]; exact h0
    · show (finR e).out ++ [s[pos]] = _
      rw [hf, h1, ht]
    · simp
theorem enc_plain (s : Bs) (hs : ∀ b ∈ s, plainB b = true) : ∀ (f pos : Nat) (e : ES), s.length ≤ pos + f → PlainE s pos e → ∃ e', encGo ⟨s.toArray⟩ f pos e = .ok e' ∧ PlainE s s.length e' := by
  intro f
  induction f with
  | zero =>
    intro pos e hf hp
    have : pos = s.length := by have := hp.2.2.2; omega
    subst this
    exact ⟨e, rfl, hp⟩
  | succ f ih =>
    intro pos e hf hp
    have hz : (⟨s.toArray⟩ : ByteArray).size = s.length := by simp [ByteArray.size]
    by_cases h : pos < s.length
    · obtain ⟨hd, hn, e', he, hp'⟩ := plain_step s hs pos e h hp
      rw [encGo, if_pos (by rw [hz]; exact h), hd]
      simp only
      rw [if_neg hn, he]
      exact ih (pos + 1) e' (by omega) hp'
    · have : pos = s.length := by have := hp.2.2.2; omega
      subst this
      exact ⟨e, by rw [encGo, if_neg (by omega)], hp⟩
theorem plain_start (s : Bs) : PlainE s 0 ⟨[], 0, []⟩ := ⟨rfl, by simp, by simp, by omega⟩
theorem encode_plain (s : Bs) (hs : ∀ b ∈ s, plainB b = true) : ∃ e, encGo ⟨s.toArray⟩ s.length 0 ⟨[], 0, []⟩ = .ok e ∧ encEnd e = s := by
  obtain ⟨e, h1, h2⟩ := enc_plain s hs s.length 0 _ (by omega) (plain_start s)
  refine ⟨e, h1, ?_⟩
  unfold encEnd toR
  rw [fin_now, h2.1, if_pos rfl, fin_plain h2.2.2.1, h2.2.1, List.take_length]
theorem encFits_plain (s : Bs) (hs : ∀ b ∈ s, plainB b = true) (hl : s.length ≤ 140737488353000) : EncFits s := by
  have hz : (⟨s.toArray⟩ : ByteArray).size = s.length := by simp [ByteArray.size]
  refine ⟨PlainE s, plain_start s, fun pos e h => ?_, fun pos e e' hp h _ he => ?_⟩
  · have := congrArg List.length h.2.1
    simp at this; omega
  · rw [hz] at hp
    obtain ⟨hd, _, e'', he2, hp2⟩ := plain_step s hs pos e hp h
    rw [hd] at he ⊢
    simp only at he ⊢
    rw [he2] at he; injection he with he; subst he
    exact hp2
theorem decFits_plain (s : Bs) (hs : ∀ b ∈ s, plainB b = true) (hl : s.length ≤ 140737488353000) : DecFits s := by
  refine ⟨fun k d => d = ⟨s.take k, [], 0, 0⟩ ∧ k ≤ s.length, by simp, fun k d _ h => ?_, fun k d h => ?_, fun k d d' k' hk h he => ?_⟩
  · rw [h.1]; simp; omega
  · rw [h.1]; simp; omega
  · obtain ⟨rfl, h2⟩ := h
    have hb : s.getD k 0 = s[k] := by simp [hk]
    rw [dec_plain_step s k _ 0 s[k] hb (hs _ (List.getElem_mem hk))] at he
    injection he with he; injection he with h1 h3
    subst h1 h3
    rw [List.take_succ_eq_append_getElem hk]
    exact ⟨rfl, hk⟩
end Go.Proofs.YtpkacoknpedolaaDoor
