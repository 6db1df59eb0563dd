/-
  The reference's table of composed characters; characters of a text that can be encoded; the walks of composed and char.
-/
import Derived.Test.YtpkacoknpedolaaDoorG7
import Derived.Test.YtpkacoknpedolaaDoorG3
import Derived.Stop.FmtQuoteTie
namespace Go.Proofs.YtpkacoknpedolaaDoor
open Go.RowKit

/-- The reference's rows: characters, letters, mark; then their bytes. -/
def refChars : List (List Nat) := [[192, 200, 204, 210, 217, 224, 232, 236, 242, 249],
  [193, 201, 205, 211, 218, 221, 225, 233, 237, 243, 250, 253, 262, 263, 313, 314, 323, 324, 340, 341, 346, 347, 377, 378],
  [194, 202, 206, 212, 219, 226, 234, 238, 244, 251, 264, 265, 284, 285, 292, 293, 308, 309, 348, 349, 372, 373, 374, 375],
  [195, 209, 213, 227, 241, 245, 296, 297, 360, 361],
  [196, 203, 207, 214, 220, 228, 235, 239, 246, 252, 255, 376],
  [197, 229, 366, 367],
  [199, 231, 290, 291, 310, 311, 315, 316, 325, 326, 342, 343, 350, 351, 354, 355],
  [256, 257, 274, 275, 298, 299, 332, 333, 362, 363],
  [258, 259, 276, 277, 286, 287, 300, 301, 334, 335, 364, 365],
  [260, 261, 280, 281, 302, 303, 370, 371],
  [266, 267, 278, 279, 288, 289, 304, 379, 380],
  [268, 269, 270, 271, 282, 283, 317, 318, 327, 328, 344, 345, 352, 353, 356, 357, 381, 382],
  [336, 337, 368, 369]]
def refLets : List (List Nat) := [[65, 69, 73, 79, 85, 97, 101, 105, 111, 117],
  [65, 69, 73, 79, 85, 89, 97, 101, 105, 111, 117, 121, 67, 99, 76, 108, 78, 110, 82, 114, 83, 115, 90, 122],
  [65, 69, 73, 79, 85, 97, 101, 105, 111, 117, 67, 99, 71, 103, 72, 104, 74, 106, 83, 115, 87, 119, 89, 121],
  [65, 78, 79, 97, 110, 111, 73, 105, 85, 117],
  [65, 69, 73, 79, 85, 97, 101, 105, 111, 117, 121, 89],
  [65, 97, 85, 117],
  [67, 99, 71, 103, 75, 107, 76, 108, 78, 110, 82, 114, 83, 115, 84, 116],
  [65, 97, 69, 101, 73, 105, 79, 111, 85, 117],
  [65, 97, 69, 101, 71, 103, 73, 105, 79, 111, 85, 117],
  [65, 97, 69, 101, 73, 105, 85, 117],
  [67, 99, 69, 101, 71, 103, 73, 90, 122],
  [67, 99, 68, 100, 69, 101, 76, 108, 78, 110, 82, 114, 83, 115, 84, 116, 90, 122],
  [79, 111, 85, 117]]
def refMarks : List Nat := [768, 769, 770, 771, 776, 778, 807, 772, 774, 808, 775, 780, 779]
def refFlat : List Bs := [[195, 128, 195, 136, 195, 140, 195, 146, 195, 153, 195, 160, 195, 168, 195, 172, 195, 178, 195, 185], [65, 69, 73, 79, 85, 97, 101, 105, 111, 117], [204, 128],
  [195, 129, 195, 137, 195, 141, 195, 147, 195, 154, 195, 157, 195, 161, 195, 169, 195, 173, 195, 179, 195, 186, 195, 189, 196, 134, 196, 135, 196, 185, 196, 186, 197, 131, 197, 132, 197, 148, 197, 149, 197, 154, 197, 155, 197, 185, 197, 186], [65, 69, 73, 79, 85, 89, 97, 101, 105, 111, 117, 121, 67, 99, 76, 108, 78, 110, 82, 114, 83, 115, 90, 122], [204, 129],
  [195, 130, 195, 138, 195, 142, 195, 148, 195, 155, 195, 162, 195, 170, 195, 174, 195, 180, 195, 187, 196, 136, 196, 137, 196, 156, 196, 157, 196, 164, 196, 165, 196, 180, 196, 181, 197, 156, 197, 157, 197, 180, 197, 181, 197, 182, 197, 183], [65, 69, 73, 79, 85, 97, 101, 105, 111, 117, 67, 99, 71, 103, 72, 104, 74, 106, 83, 115, 87, 119, 89, 121], [204, 130],
  [195, 131, 195, 145, 195, 149, 195, 163, 195, 177, 195, 181, 196, 168, 196, 169, 197, 168, 197, 169], [65, 78, 79, 97, 110, 111, 73, 105, 85, 117], [204, 131],
  [195, 132, 195, 139, 195, 143, 195, 150, 195, 156, 195, 164, 195, 171, 195, 175, 195, 182, 195, 188, 195, 191, 197, 184], [65, 69, 73, 79, 85, 97, 101, 105, 111, 117, 121, 89], [204, 136],
  [195, 133, 195, 165, 197, 174, 197, 175], [65, 97, 85, 117], [204, 138],
  [195, 135, 195, 167, 196, 162, 196, 163, 196, 182, 196, 183, 196, 187, 196, 188, 197, 133, 197, 134, 197, 150, 197, 151, 197, 158, 197, 159, 197, 162, 197, 163], [67, 99, 71, 103, 75, 107, 76, 108, 78, 110, 82, 114, 83, 115, 84, 116], [204, 167],
  [196, 128, 196, 129, 196, 146, 196, 147, 196, 170, 196, 171, 197, 140, 197, 141, 197, 170, 197, 171], [65, 97, 69, 101, 73, 105, 79, 111, 85, 117], [204, 132],
  [196, 130, 196, 131, 196, 148, 196, 149, 196, 158, 196, 159, 196, 172, 196, 173, 197, 142, 197, 143, 197, 172, 197, 173], [65, 97, 69, 101, 71, 103, 73, 105, 79, 111, 85, 117], [204, 134],
  [196, 132, 196, 133, 196, 152, 196, 153, 196, 174, 196, 175, 197, 178, 197, 179], [65, 97, 69, 101, 73, 105, 85, 117], [204, 168],
  [196, 138, 196, 139, 196, 150, 196, 151, 196, 160, 196, 161, 196, 176, 197, 187, 197, 188], [67, 99, 69, 101, 71, 103, 73, 90, 122], [204, 135],
  [196, 140, 196, 141, 196, 142, 196, 143, 196, 154, 196, 155, 196, 189, 196, 190, 197, 135, 197, 136, 197, 152, 197, 153, 197, 160, 197, 161, 197, 164, 197, 165, 197, 189, 197, 190], [67, 99, 68, 100, 69, 101, 76, 108, 78, 110, 82, 114, 83, 115, 84, 116, 90, 122], [204, 140],
  [197, 144, 197, 145, 197, 176, 197, 177], [79, 111, 85, 117], [204, 139]]
theorem ref_rows : ∀ i : Fin 13, RunesFrom ⟨(refFlat.getD (i.val * 3) []).toArray⟩ 0 (refChars.getD i.val []) ∧ (refFlat.getD (i.val * 3) []).length ≤ 1000 ∧ (refChars.getD i.val []).length ≤ 100 ∧
    refFlat.getD (i.val * 3 + 1) [] = (refLets.getD i.val []).map UInt8.ofNat ∧ (refLets.getD i.val []).length = (refChars.getD i.val []).length ∧
    RunesFrom ⟨(refFlat.getD (i.val * 3 + 2) []).toArray⟩ 0 [refMarks.getD i.val 0] ∧ (refFlat.getD (i.val * 3 + 2) []).length ≤ 1000 ∧ 0 < refMarks.getD i.val 0 ∧ refMarks.getD i.val 0 < 65536 := by decide +kernel
theorem ref_pairs : ∀ i : Fin 13, ∀ j : Fin 100, j.val < (refChars.getD i.val []).length → tabC compT ((refChars.getD i.val []).getD j.val 0) = some ((refLets.getD i.val []).getD j.val 0, refMarks.getD i.val 0) ∧ (refLets.getD i.val []).getD j.val 0 < 128 ∧ (refChars.getD i.val []).getD j.val 0 < 65536 := by decide +kernel
theorem ref_all : ∀ p ∈ compT, ∃ i : Fin 13, p.1 ∈ refChars.getD i.val [] := by decide +kernel
theorem ref_none {c : Nat} (h : ∀ i, i < 13 → c ∉ refChars.getD i []) : tabC compT c = none := by
  cases hc : tabC compT c with
  | none => rfl
  | some p =>
    obtain ⟨i, hi⟩ := ref_all _ (tabC_mem _ _ _ hc)
    exact absurd hi (h i.val i.isLt)
/-- A character's letter and its mark, or 0. -/
def partC (c : Nat) : Nat × Nat := (tabC compT c).getD (c, 0)
theorem comp_pos : ∀ p ∈ compT, 0 < p.2.2 ∧ p.2.2 < 65536 ∧ p.2.1 < 65536 := by decide +kernel
theorem taken_part (c : Nat) : takenC c = enc (partC c).1 ++ (if 0 < (partC c).2 then enc (partC c).2 else []) := by
  unfold takenC partC
  cases hc : tabC compT c with
  | none => simp
  | some p =>
    obtain ⟨l, m⟩ := p
    have := (comp_pos _ (tabC_mem _ _ _ hc)).1
    simp only at this
    simp [this]
theorem part_lt {c : Nat} (h : c < 2147483648) : (partC c).1 < 2147483648 ∧ (partC c).2 < 2147483648 := by
  unfold partC
  cases hc : tabC compT c with
  | none => exact ⟨h, by simp⟩
  | some p =>
    have := comp_pos _ (tabC_mem _ _ _ hc)
    simp only at this
    exact ⟨by simp; omega, by simp; omega⟩
/-- A text that can be encoded, by its characters. -/
theorem go_chars (s : ByteArray) : ∀ (f pos : Nat) (e es : ES), s.size ≤ pos + f → pos ≤ s.size → encGo s f pos e = .ok es → ∃ rs, RunesFrom s pos rs ∧ (∀ c ∈ rs, c < 2147483648) ∧ rs.length ≤ s.size - pos ∧ encL rs e = some es := by
  intro f
  induction f with
  | zero =>
    intro pos e es h1 h2 h
    simp only [encGo] at h
    injection h with h; subst h
    exact ⟨[], by show pos = s.size; omega, by simp, by simp, rfl⟩
  | succ f ih =>
    intro pos e es h1 h2 h
    unfold encGo at h
    by_cases hp : pos < s.size
    · rw [if_pos hp] at h
      obtain ⟨d1, d2, d3⟩ := dec_fact s pos hp
      by_cases hb : (Utf8.decode s pos).1 = 65533
      · rw [if_pos hb] at h; cases h
      · rw [if_neg hb] at h
        cases hs : encStep (Utf8.decode s pos).1 e with
        | none => rw [hs] at h; cases h
        | some e' =>
          rw [hs] at h
          obtain ⟨rs, g1, g2, g3, g4⟩ := ih (pos + (Utf8.decode s pos).2) e' es (by omega) (by omega) h
          refine ⟨(Utf8.decode s pos).1 :: rs, ⟨hp, rfl, by omega, d2, g1⟩, ?_, by simp; omega, ?_⟩
          · intro c hc
            rcases List.mem_cons.1 hc with rfl | hc
            · exact d3
            · exact g2 c hc
          · show (match encStep _ e with | none => none | some e' => encL rs e') = _
            rw [hs]; exact g4
    · rw [if_neg hp] at h
      injection h with h; subst h
      exact ⟨[], by show pos = s.size; omega, by simp, by simp, rfl⟩
theorem enc_utf8 (c : Nat) : (Utf8.encode (c : Int)).data.toList = enc c := by
  have h := Go.Extern.FmtText.encode_eq c
  unfold enc Lib.encodeRune
  rw [← h]
  unfold Go.Extern.FmtText.nums
  rw [List.map_map]
  exact (List.map_id'' (fun x => by simp) _).symm
abbrev chA (c : Nat) : Obj := .cells #[.int .i32 c] 21
theorem conv_ch (W : World) (c : Nat) : (convert 29 9 (.slice (some ⟨W.heap.size, 0, none⟩) 1 1)).run Tryd.prog (W.alloc (chA c)) = .ok (S (enc c)) (W.alloc (chA c)) :=
  conv_rune _ W.heap.size 0 1 c _ (runes_one _ _ (enc_utf8 c)) (by rw [World.cell?_alloc_new]; rfl)
set_option maxHeartbeats 4000000 in
set_option maxRecDepth 100000 in
theorem char_20 (c : Nat) (w : World) (hc : c < 2147483648) : Calls Tryd.prog 20 #[.int .i64 c] w fun e w' => e = .returned (S (enc c)) ∧ Below w.heap.size w w' := by
  have hcv := conv_ch w c
  have hw : IntKind.i32.wrap (c : Int) = c := IntWalk.i32_in _ (by omega)
  go_enter Tryd.func20, Tryd.ntmps20
  go_wp2_with fail
  go_ret
  exact ⟨rfl, alloc_below1 _ _⟩
/-- The table's strings, in block b. -/
def RefAt (w : World) (b : Nat) : Prop := ∀ k, k < 39 → w.cell? ⟨b, k, none⟩ = some (S (refFlat.getD k []))
set_option maxHeartbeats 4000000 in
set_option maxRecDepth 100000 in
theorem composed_39 (w : World) : Calls Tryd.prog 39 #[] w fun e w' => e = .returned (.slice (some ⟨w.heap.size, 0, none⟩) 13 13) ∧ RefAt w' w.heap.size ∧ Below w.heap.size w w' ∧ w.heap.size + 1 ≤ w'.heap.size := by
  go_enter Tryd.func39, Tryd.ntmps39
  go_wp2_with fail
  go_ret
  refine ⟨rfl, ?_, alloc_below1 _ _, by simp⟩
  intro k hk
  rw [World.cell?_alloc_new]
  have h39 : refFlat.length = 39 := rfl
  show (refFlat.map S).toArray[k]? = _
  rw [List.getElem?_toArray, List.getElem?_map, List.getElem?_eq_getElem (by omega), List.getD_eq_getElem?_getD, List.getElem?_eq_getElem (by omega)]
  rfl
end Go.Proofs.YtpkacoknpedolaaDoor
