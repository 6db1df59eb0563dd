/-
  Two builders side by side; the plain laws of Write's ways.
-/
import Derived.Test.YtfkleeigdplapaaDoorP18
import Derived.Test.YtfkleeigdplapaaDoorBld
import Derived.Test.YtfkleeigdplapaaDoorP2
import Derived.Test.YtfkleeigdplapaaDoorConv
namespace Go.Proofs.YtfkleeigdplapaaDoor
open Go.RowKit

theorem dir_len {fs : List FieldD} (h : firstWrong fs = 0) (k : Nat) (hk : k ≤ fs.length) : (dirFrom 0 (fs.take k)).length = 12 * k := by
  rw [dirFrom_length _ _ (fun f hf => isTag_len (wrongF_tag (firstWrong_zero h f (List.mem_of_mem_take hf)))), List.length_take, Nat.min_eq_left hk]
theorem wr_2 {r : RecD} (h : letterB r.kind = true) (h2 : letterB r.level = true) (h3 : firstWrong r.fields = 0) (hx : tooLong r.fields = true ∨ 999 < r.fields.length ∨ 99999 < 26 + 12 * r.fields.length + (dataOf r.fields).length) : writeR r = ([], 2) := by
  have hw : wrongR r = 2 := by
    rw [wr_rest r h h2 h3, if_pos]
    rw [sizeOf_eq]
    simp only [Bool.or_eq_true, decide_eq_true_eq]
    rcases hx with hx | hx | hx
    · exact .inl (.inl hx)
    · exact .inl (.inr hx)
    · exact .inr hx
  unfold writeR
  rw [if_neg (by rw [hw]; decide), hw]
theorem wr_0 {r : RecD} (h : letterB r.kind = true) (h2 : letterB r.level = true) (h3 : firstWrong r.fields = 0) (hx : tooLong r.fields = false) (h4 : r.fields.length ≤ 999) (h5 : 26 + 12 * r.fields.length + (dataOf r.fields).length ≤ 99999) : writeR r = (writeB r, 0) := by
  have hw : wrongR r = 0 := by
    rw [wr_rest r h h2 h3, if_neg]
    rw [sizeOf_eq, hx]
    simp only [Bool.false_or, Bool.or_eq_true, decide_eq_true_eq]
    omega
  unfold writeR
  rw [if_pos hw]
theorem too_at {fs : List FieldD} {k : Nat} (hk : k < fs.length) (h : 9999 < (fieldBytes fs[k]).length) : tooLong fs = true := by
  unfold tooLong
  rw [List.any_eq_true]
  exact ⟨fs[k], List.getElem_mem hk, by simpa using h⟩
theorem too_snoc {fs : List FieldD} {k : Nat} (hk : k < fs.length) (h : tooLong (fs.take k) = false) (h2 : (fieldBytes fs[k]).length ≤ 9999) : tooLong (fs.take (k + 1)) = false := by
  unfold tooLong at *
  rw [List.take_succ_eq_append_getElem hk, List.any_append, h]
  simp
  omega
/-- Two builders: at blocks x and x + 1. -/
structure Two (x : Nat) (g1 g2 : Option Nat) (D A : Bs) (w : World) : Prop where
  one : Bld (x + 2) x g1 D w
  two : Bld (x + 2) (x + 1) g2 A w
  ne : ∀ j, g1 = some j → g2 = some j → False
theorem Two.below {x : Nat} {g1 g2 : Option Nat} {D A : Bs} {w w' : World} (h : Two x g1 g2 D A w) (b : Below w.heap.size w w') : Two x g1 g2 D A w' := ⟨h.one.below b, h.two.below b, h.ne⟩
theorem Two.fst {x : Nat} {g1 g2 g' : Option Nat} {D A D' : Bs} {w w' : World} (h : Two x g1 g2 D A w) (hb : Bld (x + 2) x g' D' w') (hg : g' = g1 ∨ ∃ k, g' = some k ∧ w.heap.size ≤ k) (hf : Fr x g1 w w') : Two x g' g2 D' A w' :=
  ⟨hb, h.two.keep (hf.block _ h.two.old (by omega) (fun e => by have := (h.one.row _ e.symm).1; omega)) (fun k hk => hf.block k (h.two.row k hk).2 (by have := (h.two.row k hk).1; omega) (fun e => h.ne k e.symm hk)),
    fun j h1 h2 => by
      rcases hg with rfl | ⟨k, rfl, hk⟩
      · exact h.ne j h1 h2
      · have := (h.two.row j h2).2; injection h1; omega⟩
theorem Two.snd {x : Nat} {g1 g2 g' : Option Nat} {D A A' : Bs} {w w' : World} (h : Two x g1 g2 D A w) (hb : Bld (x + 2) (x + 1) g' A' w') (hg : g' = g2 ∨ ∃ k, g' = some k ∧ w.heap.size ≤ k) (hf : Fr (x + 1) g2 w w') : Two x g1 g' D A' w' :=
  ⟨h.one.keep (hf.block _ h.one.old (by omega) (fun e => by have := (h.two.row _ e.symm).1; omega)) (fun k hk => hf.block k (h.one.row k hk).2 (by have := (h.one.row k hk).1; omega) (fun e => h.ne k hk e.symm)), hb,
    fun j h1 h2 => by
      rcases hg with rfl | ⟨k, rfl, hk⟩
      · exact h.ne j h1 h2
      · have := (h.one.row j h1).2; injection h2; omega⟩
theorem Two.size {x : Nat} {g1 g2 : Option Nat} {D A : Bs} {w : World} (h : Two x g1 g2 D A w) : x + 2 ≤ w.heap.size := h.two.old
theorem two_new (w : World) : Two w.heap.size none none [] [] ((w.alloc (Obj.cells #[.pointer none, .slice none 0 0] 76)).alloc (Obj.cells #[.pointer none, .slice none 0 0] 76)) := by
  have h1 := bld_new w w.heap.size (w.heap.size + 2) rfl (by omega)
  exact ⟨h1.alloc _, bld_new _ (w.heap.size + 1) (w.heap.size + 2) (by simp) (by omega), fun _ h => by cases h⟩
/-- Len and String by the second cell alone. -/
theorem Bld.slot {B b : Nat} {g : Option Nat} {l : Bs} {w : World} (h : Bld B b g l w) : ∃ a cap, w.cell? ⟨b, 1, none⟩ = some (.slice a l.length cap) := by
  obtain ⟨hlt, p, v, hb, hp, hown, hg, hn⟩ := h
  obtain ⟨a, cap, rfl⟩ := owns_shape hown
  exact ⟨a, cap, by rw [Lib.cell_of_heap hb]; rfl⟩
set_option maxHeartbeats 1000000 in
theorem len_cell (b : Nat) (a : Option Addr) (n cap : Nat) (w : World) (c1 : w.cell? ⟨b, 1, none⟩ = some (.slice a n cap)) : Calls Tryd.prog 42 #[.pointer (some ⟨b, 0, none⟩)] w fun e w' => e = .returned (.int .i64 n) ∧ w' = w := by
  go_enter Tryd.func42, Tryd.ntmps42
  go_wp2_with fail
  go_ret
  exact ⟨rfl, rfl⟩
end Go.Proofs.YtfkleeigdplapaaDoor
