/-
  What the decoder's tables answer.
-/
import Derived.Test.YtpkacoknpedolaaDoorB4
namespace Go.Proofs.YtpkacoknpedolaaDoor
open Go.RowKit Go.Maps

theorem tab_look : ∀ b : Fin 256, tabF uppersT b.val = look uppersT b.val ∧ tabF marksT b.val = look marksT b.val ∧ tabF (setT 0) b.val = look (setT 0) b.val ∧ tabF (setT 1) b.val = look (setT 1) b.val ∧ tabF (setT 2) b.val = look (setT 2) b.val := by decide +kernel
theorem look_ch16 : ∀ b : Fin 256, (∀ c ∈ look uppersT b.val, Ch16 c) ∧ (∀ c ∈ look marksT b.val, Ch16 c) ∧ (∀ c ∈ look (setT 0) b.val, Ch16 c) ∧ (∀ c ∈ look (setT 1) b.val, Ch16 c) ∧ (∀ c ∈ look (setT 2) b.val, Ch16 c) := by decide +kernel
theorem setT_cases (n : Nat) : setT n = setT 0 ∨ setT n = setT 1 ∨ setT n = setT 2 := by
  match n with
  | 0 => exact .inl rfl
  | 1 => exact .inr (.inl rfl)
  | n + 2 => exact .inr (.inr rfl)
theorem tab_set (n : Nat) (x : UInt8) : tabF (setT n) x.toNat = look (setT n) x.toNat := by
  have h := tab_look ⟨x.toNat, x.toNat_lt⟩
  simp only at h
  rcases setT_cases n with e | e | e
  · rw [e]; exact h.2.2.1
  · rw [e]; exact h.2.2.2.1
  · rw [e]; exact h.2.2.2.2
theorem look_set16 (n : Nat) (x : UInt8) : ∀ c ∈ look (setT n) x.toNat, Ch16 c := by
  have h := look_ch16 ⟨x.toNat, x.toNat_lt⟩
  simp only at h
  rcases setT_cases n with e | e | e
  · rw [e]; exact h.2.2.1
  · rw [e]; exact h.2.2.2.1
  · rw [e]; exact h.2.2.2.2
theorem tab_upper (x : UInt8) : tabF uppersT x.toNat = look uppersT x.toNat := (tab_look ⟨x.toNat, x.toNat_lt⟩).1
theorem tab_mark (x : UInt8) : tabF marksT x.toNat = look marksT x.toNat := (tab_look ⟨x.toNat, x.toNat_lt⟩).2.1
theorem look_upper16 (x : UInt8) : ∀ c ∈ look uppersT x.toNat, Ch16 c := (look_ch16 ⟨x.toNat, x.toNat_lt⟩).1
theorem look_mark16 (x : UInt8) : ∀ c ∈ look marksT x.toNat, Ch16 c := (look_ch16 ⟨x.toNat, x.toNat_lt⟩).2.1
end Go.Proofs.YtpkacoknpedolaaDoor
