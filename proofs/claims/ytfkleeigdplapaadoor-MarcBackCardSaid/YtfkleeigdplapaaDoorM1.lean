/-
  Made: the plain facts of its words, tags and indicators; what it leaves in memory.
-/
import Derived.Test.YtfkleeigdplapaaDoorFld
import Derived.Test.YtfkleeigdplapaaDoorW5
import Derived.KernelRfl
namespace Go.Proofs.YtfkleeigdplapaaDoor
open Go.RowKit
attribute [local go_sem ↓] Go.wp_at_zero Go.wp_at_succ

def wordsL : List Bs := [[84, 104, 101, 32, 115, 116, 97, 114, 115], [83, 116, 97, 114, 115, 44, 32, 97, 32, 104, 105, 115, 116, 111, 114, 121], [57, 55, 56, 45, 51, 45, 49, 54, 45, 49, 52, 56, 52, 49, 48, 45, 48], [77, 195, 188, 108, 108, 101, 114, 44, 32, 65, 110, 110, 97], [49, 57, 56, 52], [], [206, 169, 109, 101, 103, 97], [120], [71, 195, 182, 100, 101, 108, 32, 240, 157, 148, 184], [80, 97, 114, 105, 115, 32, 58, 32, 49, 57, 57, 57]]
def tagsL : List Bs := [[48, 48, 49], [48, 48, 56], [48, 50, 48], [49, 48, 48], [50, 52, 53], [50, 52, 53], [50, 54, 48], [54, 48, 48], [54, 53, 48], [55, 48, 48], [57, 48, 48], [57, 57, 57]]
def indsL : List Bs := [[32, 32], [49, 48], [48, 52], [32, 48], [49, 32]]
abbrev wordsO : Obj := Obj.cells #[S [84, 104, 101, 32, 115, 116, 97, 114, 115], S [83, 116, 97, 114, 115, 44, 32, 97, 32, 104, 105, 115, 116, 111, 114, 121], S [57, 55, 56, 45, 51, 45, 49, 54, 45, 49, 52, 56, 52, 49, 48, 45, 48], S [77, 195, 188, 108, 108, 101, 114, 44, 32, 65, 110, 110, 97], S [49, 57, 56, 52], S [], S [206, 169, 109, 101, 103, 97], S [120], S [71, 195, 182, 100, 101, 108, 32, 240, 157, 148, 184], S [80, 97, 114, 105, 115, 32, 58, 32, 49, 57, 57, 57]] 9
abbrev tagsO : Obj := Obj.cells #[S [48, 48, 49], S [48, 48, 56], S [48, 50, 48], S [49, 48, 48], S [50, 52, 53], S [50, 52, 53], S [50, 54, 48], S [54, 48, 48], S [54, 53, 48], S [55, 48, 48], S [57, 48, 48], S [57, 57, 57]] 9
abbrev indsO : Obj := Obj.cells #[S [32, 32], S [49, 48], S [48, 52], S [32, 48], S [49, 32]] 9
theorem words_fine : ∀ x ∈ wordsL, isTextB x = true ∧ x.length ≤ 18 := by decide
theorem tags_fine : ∀ x ∈ tagsL, isTagB x = true ∧ x.length ≤ 3 := by decide
theorem inds_fine : ∀ x ∈ indsL, indsB x = true ∧ x.length ≤ 2 := by decide
theorem getD_at {α : Type} {l : List α} {k : Nat} (d : α) (h : k < l.length) : l.getD k d = l[k] := by
  rw [List.getD_eq_getElem?_getD, List.getElem?_eq_getElem h]; rfl
theorem getD_mem {l : List Bs} {k : Nat} (h : k < l.length) : l.getD k [] ∈ l := by
  rw [getD_at _ h]; exact List.getElem_mem h
/-- The cells of a new block of strings. -/
theorem strs_cell (w : World) (l : List Bs) (T : TypeId) (k : Nat) (h : k < l.length) : (w.alloc (.cells (l.map S).toArray T)).cell? ⟨w.heap.size, k, none⟩ = some (S (l.getD k [])) := by
  rw [World.cell?_alloc_new, getD_at _ h]
  simp [h]
/-- Fields that may stand in a made record. -/
structure GoodF (f : FieldD) : Prop where
  right : wrongF f = 0
  small : (fieldBytes f).length ≤ 66
structure GoodR (r : RecD) : Prop where
  kind : letterB r.kind = true
  level : letterB r.level = true
  fields : ∀ f ∈ r.fields, GoodF f
  many : r.fields.length ≤ 12
theorem first_zero {l : List FieldD} (h : ∀ f ∈ l, wrongF f = 0) : firstWrong l = 0 := by
  induction l with
  | nil => rfl
  | cons f l ih => simp only [firstWrong]; rw [if_pos (h f (List.mem_cons_self)), ih (fun g hg => h g (List.mem_cons_of_mem _ hg))]
theorem data_le {l : List FieldD} {n : Nat} (h : ∀ f ∈ l, (fieldBytes f).length ≤ n) : (dataOf l).length ≤ n * l.length := by
  induction l with
  | nil => simp [dataOf]
  | cons f l ih =>
    have h1 := h f (List.mem_cons_self)
    have h2 := ih (fun g hg => h g (List.mem_cons_of_mem _ hg))
    simp only [dataOf, List.flatMap_cons, List.length_append, List.length_cons] at *
    rw [Nat.mul_succ]; omega
theorem GoodR.zero {r : RecD} (h : GoodR r) : wrongR r = 0 ∧ (dataOf r.fields).length ≤ 66 * r.fields.length := by
  have hd := data_le (fun f hf => (h.fields f hf).small)
  refine ⟨?_, hd⟩
  rw [wr_rest r h.kind h.level (first_zero fun f hf => (h.fields f hf).right), if_neg]
  have ht : tooLong r.fields = false := by
    unfold tooLong
    rw [List.any_eq_false]
    intro f hf
    have := (h.fields f hf).small
    simp; omega
  have := h.many
  rw [sizeOf_eq, ht]
  simp
  omega
theorem GoodR.small {r : RecD} (h : GoodR r) : Small r.fields := ⟨by have := h.many; omega, fun f hf => by have := (h.fields f hf).small; omega⟩
theorem good_ctrl {t x : Bs} (ht : t ∈ tagsL) (hx : x ∈ wordsL) (hc : ctrlB t = true) : GoodF ⟨t, [], x, []⟩ := by
  have h1 := (tags_fine t ht).1
  obtain ⟨h2, h3⟩ := words_fine x hx
  refine ⟨?_, by simp [fieldBytes]; omega⟩
  unfold wrongF
  simp [h1, hc, h2]
theorem subs_small {ss : List SubD} (h : ∀ s ∈ ss, s.text ∈ wordsL) : (ss.flatMap subBytes).length ≤ 20 * ss.length := by
  induction ss with
  | nil => simp
  | cons s l ih =>
    have h1 := (words_fine _ (h s (List.mem_cons_self))).2
    have h2 := ih (fun g hg => h g (List.mem_cons_of_mem _ hg))
    simp only [List.flatMap_cons, List.length_append, List.length_cons, subBytes] at *
    omega
/-- Subfields that may stand in a made record. -/
def GoodS (s : SubD) : Prop := s.text ∈ wordsL ∧ signB s.code = true
theorem good_data {t i : Bs} {ss : List SubD} (ht : t ∈ tagsL) (hi : i ∈ indsL) (hs : ∀ s ∈ ss, GoodS s) (h1 : 1 ≤ ss.length) (h3 : ss.length ≤ 3) (hc : ctrlB t = false) : GoodF ⟨t, i, [], ss⟩ := by
  have g1 := (tags_fine t ht).1
  obtain ⟨g2, g3⟩ := inds_fine i hi
  have g4 := subs_small (fun s h => (hs s h).1)
  refine ⟨?_, by simp only [fieldBytes, List.length_append, List.length_nil, List.length_singleton]; omega⟩
  have g5 : ss.all subOk = true := by
    rw [List.all_eq_true]
    intro s h
    simp [subOk, (words_fine _ (hs s h).1).1, (hs s h).2]
  have g6 : ss.isEmpty = false := by cases ss; simp at h1; rfl
  unfold wrongF
  rw [if_neg (by simp [g1]), if_neg (by simp [hc]), if_pos (by simp [g2, g5, g6])]
theorem code_fine : ∀ k : Nat, k < 4 → signB (([97, 98, 99, 48] : Bs).getD k 0) = true := by decide
theorem kind_fine : ∀ k : Nat, k < 5 → letterB (([97, 99, 101, 103, 106] : Bs).getD k 0) = true := by decide
theorem level_fine : ∀ k : Nat, k < 2 → letterB (([109, 115] : Bs).getD k 0) = true := by decide

theorem words_34 (w : World) : Calls Tryd.prog 34 #[] w fun e w' => e = .returned (.slice (some ⟨w.heap.size, 0, none⟩) 10 10) ∧ w.alloc wordsO = w' := by
  go_enter Tryd.func34, Tryd.ntmps34
  go_wp2_with fail
  go_ret
  exact ⟨rfl, rfl⟩
end Go.Proofs.YtfkleeigdplapaaDoor
