/-
  Marc8Marks, plain: marks in front of a letter stand behind it in Unicode, and come back.
-/
import Derived.Test.YtpkacoknpedolaaDoorG1
namespace Go.Proofs.YtpkacoknpedolaaDoor
open Go.RowKit

/-- The eight marks of the law: byte and character. -/
def mk8 : List (Nat × Nat) := [(224, 777), (225, 768), (226, 769), (232, 776), (238, 779), (240, 807), (242, 803), (254, 787)]
def mkB (i : Nat) : Nat := (mk8.getD i (0, 0)).1
def mkC (i : Nat) : Nat := (mk8.getD i (0, 0)).2
theorem mk8_ok : ∀ i : Fin 8, 32 ≤ mkB i.val ∧ mkB i.val < 256 ∧ look marksT (mkB i.val) = some (mkC i.val) ∧ mkR (mkC i.val) = some (mkB i.val) ∧ tabC compT (mkC i.val) = none ∧ Ch16 (mkC i.val) ∧ mkC i.val ≠ 65533 := by decide +kernel
def mBytes (is : List Nat) : Bs := is.map fun i => UInt8.ofNat (mkB i)
def mChars (is : List Nat) : Bs := is.flatMap fun i => enc (mkC i)
theorem marks_run (q : Bs) : ∀ (is : List Nat) (k : Nat) (d : DS), (∀ i ∈ is, i < 8) → ∃ F, decW (mBytes is ++ q) k d = decW q (k + is.length) { d with first := F, held := d.held ++ mChars is } := by
  intro is
  induction is with
  | nil => intro k d _; exact ⟨d.first, by simp [mBytes, mChars]⟩
  | cons i is ih =>
    intro k d h
    obtain ⟨h1, h2, h3, _⟩ := mk8_ok ⟨i, h i List.mem_cons_self⟩
    simp only at h1 h2 h3
    have hu : (UInt8.ofNat (mkB i)).toNat = mkB i := UInt8.toNat_ofNat_of_lt' h2
    obtain ⟨F, hF⟩ := ih (k + 1) { d with first := if d.held = [] then k else d.first, held := d.held ++ enc (mkC i) } (fun x hx => h x (List.mem_cons_of_mem _ hx))
    refine ⟨F, ?_⟩
    have hs : stepL (UInt8.ofNat (mkB i)) (mBytes is ++ q) k d = .ok ({ d with first := if d.held = [] then k else d.first, held := d.held ++ enc (mkC i) }, 0) := by
      unfold stepL
      rw [hu, if_neg (by omega), h3]
    show decW (UInt8.ofNat (mkB i) :: (mBytes is ++ q)) k d = _
    rw [decW_cons, hs]
    simp only [List.drop_zero, Nat.add_zero]
    rw [hF]
    simp only [mChars, List.flatMap_cons, List.append_assoc, List.length_cons]
    congr 1; omega
theorem letter_step (c : UInt8) (h1 : 32 ≤ c.toNat) (h2 : c.toNat < 127) (r : Bs) (k : Nat) (d : DS) (hn : d.now = 0) : stepL c r k d = .ok ({ d with out := d.out ++ [c] ++ d.held, held := [] }, 0) := by
  obtain ⟨f1, f2, f3⟩ := look_ascii ⟨c.toNat, h2⟩ h1
  simp only at f1 f2 f3
  unfold stepL
  rw [if_neg (by omega), f2]
  simp only
  rw [if_pos (by omega), hn, f1]
  simp only [f3, UInt8.ofNat_toNat]
theorem decode_marks (is : List Nat) (h : ∀ i ∈ is, i < 8) (c : UInt8) (h1 : 97 ≤ c.toNat) (h2 : c.toNat < 123) : decodeR ([120] ++ (mBytes is ++ [c]) ++ [121]) = ([120] ++ ([c] ++ mChars is) ++ [121], 0, 0) := by
  rw [decodeR_W]
  have e : ([120] ++ (mBytes is ++ [c]) ++ [121] : Bs) = 120 :: (mBytes is ++ [c, 121]) := by simp
  rw [e, decW_cons, letter_step 120 (by decide) (by decide) _ _ _ rfl]
  simp only [List.drop_zero]
  obtain ⟨F, hF⟩ := marks_run [c, 121] is (0 + 1 + 0) { out := [] ++ [120] ++ [], held := [], first := 0, now := 0 } h
  rw [hF, decW_cons, letter_step c (by omega) (by omega) _ _ _ rfl]
  simp only [List.drop_zero]
  rw [decW_cons, letter_step 121 (by decide) (by decide) _ _ _ rfl]
  simp only [List.drop_zero, decW_nil, decEnd]
  simp
/-- The characters of the text. -/
def mText (is : List Nat) (c : UInt8) : List Nat := 120 :: c.toNat :: (is.map mkC ++ [121])
theorem mText_bytes (is : List Nat) (c : UInt8) (h2 : c.toNat < 127) (h1 : 32 ≤ c.toNat) : (mText is c).flatMap enc = [120] ++ ([c] ++ mChars is) ++ [121] := by
  have hx : enc 120 = [120] := by decide
  have hy : enc 121 = [121] := by decide
  obtain ⟨_, _, f3⟩ := look_ascii ⟨c.toNat, h2⟩ h1
  simp only at f3
  simp [mText, mChars, hx, hy, f3, List.flatMap_map, UInt8.ofNat_toNat]
theorem put_ascii (c : UInt8) (h1 : 32 ≤ c.toNat) (h2 : c.toNat < 127) (e : ES) (hn : e.now = 0) : encStep c.toNat e = some { finR e with pend := [c] } := by
  have hn27 : c.toNat ≠ 27 := by omega
  obtain ⟨f1, f2, f3⟩ := ascii_facts ⟨c.toNat, h2⟩ hn27
  simp only at f1 f2 f3
  obtain ⟨f4, f5⟩ := f3 h1
  refine (step_put f1 f2 (fun h => by omega) e).trans ?_
  unfold putR
  rw [f4]
  simp only
  rw [fin_now, hn]
  simp only [findSet, f5]
  have ht0 : toR 0 (finR e) = finR e := by unfold toR; rw [fin_now, hn, if_pos rfl]
  rw [ht0, UInt8.ofNat_toNat]
  simp [fin_now, hn]
theorem marks_enc (r : List Nat) : ∀ (is : List Nat) (pos : Nat) (e : ES), (∀ i ∈ is, i < 8) → e.pend ≠ [] → ∃ p, encC (is.map mkC ++ r) pos e = encC r p { e with pend := e.pend ++ mBytes is } := by
  intro is
  induction is with
  | nil => intro pos e _ _; exact ⟨pos, by simp [mBytes]⟩
  | cons i is ih =>
    intro pos e h hp
    obtain ⟨_, _, _, h4, h5, _⟩ := mk8_ok ⟨i, h i List.mem_cons_self⟩
    simp only at h4 h5
    obtain ⟨p, hP⟩ := ih (pos + (enc (mkC i)).length) { e with pend := e.pend ++ [UInt8.ofNat (mkB i)] } (fun x hx => h x (List.mem_cons_of_mem _ hx)) (by simp)
    refine ⟨p, ?_⟩
    show encC (mkC i :: (is.map mkC ++ r)) pos e = _
    rw [encC, step_mark h5 h4, if_neg hp]
    simp only
    rw [hP]
    simp [mBytes]
theorem encode_marks (is : List Nat) (h : ∀ i ∈ is, i < 8) (c : UInt8) (h1 : 97 ≤ c.toNat) (h2 : c.toNat < 123) : encV ([120] ++ ([c] ++ mChars is) ++ [121]) = some ([120] ++ (mBytes is ++ [c]) ++ [121], 0, 0) := by
  have hb := mText_bytes is c (by omega) (by omega)
  have hc : ∀ x ∈ mText is c, Ch16 x ∧ x ≠ 65533 := by
    intro x hx
    unfold mText at hx
    simp only [List.mem_cons, List.mem_append, List.mem_map, List.not_mem_nil, or_false] at hx
    rcases hx with rfl | rfl | ⟨i, hi, rfl⟩ | rfl
    · decide
    · exact ⟨.inl (by omega), by omega⟩
    · obtain ⟨_, _, _, _, _, h6, h7⟩ := mk8_ok ⟨i, h i hi⟩
      exact ⟨h6, h7⟩
    · decide
  have he := encode_chars (mText is c) hc ⟨[], 0, []⟩
  rw [hb] at he
  unfold encV
  rw [he]
  have e1 := put_ascii 120 (by decide) (by decide) ⟨[], 0, []⟩ rfl
  have e2 := put_ascii c (by omega) (by omega) { finR ⟨[], 0, []⟩ with pend := [120] } rfl
  unfold mText
  rw [encC, show (120 : Nat) = (120 : UInt8).toNat from rfl, e1]
  simp only
  rw [encC, e2]
  simp only
  obtain ⟨p, hP⟩ := marks_enc [121] is (0 + (enc (120 : UInt8).toNat).length + (enc c.toNat).length) { finR { finR ⟨[], 0, []⟩ with pend := [120] } with pend := [c] } h (by simp)
  rw [hP]
  have e3 := put_ascii 121 (by decide) (by decide) { { finR { finR ⟨[], 0, []⟩ with pend := [120] } with pend := [c] } with pend := [c] ++ mBytes is } rfl
  rw [encC, show (121 : Nat) = (121 : UInt8).toNat from rfl, e3]
  simp only [encC, encEnd]
  simp [finR, toR]
end Go.Proofs.YtpkacoknpedolaaDoor
