/-
  Laid in plain lists: which fields were laid, and where; what that makes of the whole.
-/
import Derived.Test.YtfkleeigdplapaaDoorM1
import Derived.Laws.OwnMore
namespace Go.Proofs.YtfkleeigdplapaaDoor
open Go.RowKit

/-- The bytes of the fields that were laid. -/
def lsum : List FieldD → List Bool → Nat
  | f :: fs, b :: L => (if b then (fieldBytes f).length else 0) + lsum fs L
  | _, _ => 0
theorem lsum_false (fs : List FieldD) : ∀ n, lsum fs (List.replicate n false) = 0 := by
  induction fs with
  | nil => intro n; rfl
  | cons f fs ih =>
    intro n
    cases n with
    | zero => rfl
    | succ n => rw [List.replicate_succ]; simp [lsum, ih]
theorem lsum_set (fs : List FieldD) : ∀ (L : List Bool) (k : Nat) (h : k < fs.length) (h2 : k < L.length), L[k] = false → lsum fs (L.set k true) = lsum fs L + (fieldBytes fs[k]).length := by
  induction fs with
  | nil => intro L k h; simp at h
  | cons f fs ih =>
    intro L k h h2 h3
    cases L with
    | nil => simp at h2
    | cons b L =>
      cases k with
      | zero => simp only [List.getElem_cons_zero] at h3; subst h3; simp [lsum]; omega
      | succ k =>
        simp only [List.getElem_cons_succ] at h3 ⊢
        simp only [List.set_cons_succ, lsum]
        rw [ih L k (by simpa using h) (by simpa using h2) h3]; omega
theorem lsum_true (fs : List FieldD) : ∀ (L : List Bool), L.length = fs.length → (∀ b ∈ L, b = true) → lsum fs L = (dataOf fs).length := by
  induction fs with
  | nil => intro L _ _; simp [lsum, dataOf]
  | cons f fs ih =>
    intro L h1 h2
    cases L with
    | nil => simp at h1
    | cons b L =>
      have hb := h2 b List.mem_cons_self
      subst hb
      simp only [lsum, if_true]
      rw [ih L (by simpa using h1) (fun b hb => h2 b (List.mem_cons_of_mem _ hb))]
      simp [dataOf]
def cnt : List Bool → Nat
  | [] => 0
  | b :: L => (if b then 1 else 0) + cnt L
theorem cnt_le (L : List Bool) : cnt L ≤ L.length := by
  induction L with
  | nil => simp [cnt]
  | cons b L ih => cases b <;> simp [cnt] <;> omega
theorem cnt_false (n : Nat) : cnt (List.replicate n false) = 0 := by
  induction n with
  | zero => rfl
  | succ n ih => rw [List.replicate_succ]; simp [cnt, ih]
theorem cnt_set (L : List Bool) : ∀ (k : Nat) (h : k < L.length), L[k] = false → cnt (L.set k true) = cnt L + 1 := by
  induction L with
  | nil => intro k h; simp at h
  | cons b L ih =>
    intro k h h2
    cases k with
    | zero => simp only [List.getElem_cons_zero] at h2; subst h2; simp [cnt]; omega
    | succ k =>
      simp only [List.getElem_cons_succ] at h2
      simp only [List.set_cons_succ, cnt]
      rw [ih k (by simpa using h) h2]; omega
theorem cnt_all (L : List Bool) : cnt L = L.length → ∀ b ∈ L, b = true := by
  induction L with
  | nil => intro _ b hb; simp at hb
  | cons b L ih =>
    intro h c hc
    have := cnt_le L
    cases b
    · simp [cnt] at h; omega
    · simp [cnt] at h
      rcases List.mem_cons.1 hc with rfl | hc
      · rfl
      · exact ih (by omega) c hc
theorem cnt_free (L : List Bool) : cnt L < L.length → ∃ j, ∃ h : j < L.length, L[j] = false := by
  induction L with
  | nil => intro h; simp at h
  | cons b L ih =>
    intro h
    cases b
    · exact ⟨0, by simp, rfl⟩
    · simp [cnt] at h
      obtain ⟨j, hj, he⟩ := ih (by omega)
      exact ⟨j + 1, by simpa using hj, by simpa using he⟩
/-- Laying, under way. -/
structure LaySt (fs : List FieldD) (L : List Bool) (A : List Nat) (data : Bs) (i : Nat) : Prop where
  ll : L.length = fs.length
  la : A.length = fs.length
  count : cnt L = i
  lies : ∀ k (h : k < fs.length) (h1 : k < L.length) (h2 : k < A.length), L[k] = true → (data.drop A[k]).take (fieldBytes fs[k]).length = fieldBytes fs[k]
  sum : lsum fs L ≤ data.length
  size : data.length ≤ i * 69
theorem LaySt.init (fs : List FieldD) : LaySt fs (List.replicate fs.length false) (List.replicate fs.length 0) [] 0 :=
  ⟨by simp, by simp, cnt_false _, fun k h h1 h2 h3 => by simp at h3, by rw [lsum_false]; simp, by simp⟩
theorem drop_more {a b F : Bs} {p n : Nat} (hp : (a.drop p).take n = F) (hl : F.length = n) (hn : 0 < n) : ((a ++ b).drop p).take n = F := by
  have h := congrArg List.length hp
  simp only [List.length_take, List.length_drop, hl] at h
  rw [List.drop_append, List.take_append, hp]
  simp only [List.length_drop]
  rw [show n - (a.length - p) = 0 from by omega]
  simp
theorem LaySt.next {fs : List FieldD} {L : List Bool} {A : List Nat} {data : Bs} {i : Nat} (h : LaySt fs L A data i) (k : Nat) (hk : k < fs.length) (hf : ∀ h1 : k < L.length, L[k] = false) (g : Bs) (hg : g.length ≤ 3) (hF : (fieldBytes fs[k]).length ≤ 66) :
    LaySt fs (L.set k true) (A.set k (data ++ g).length) (data ++ (g ++ fieldBytes fs[k])) (i + 1) := by
  have hkL : k < L.length := by rw [h.ll]; exact hk
  refine ⟨by simpa using h.ll, by simpa using h.la, by rw [cnt_set L k hkL (hf hkL), h.count], fun j hj h1 h2 h3 => ?_, ?_, ?_⟩
  · by_cases e : k = j
    · subst e
      rw [List.getElem_set_self]
      rw [show data ++ (g ++ fieldBytes fs[k]) = (data ++ g) ++ fieldBytes fs[k] from by simp, List.drop_append_of_le_length (Nat.le_refl _), List.drop_length, List.nil_append, List.take_length]
    · rw [List.getElem_set_ne e] at h3
      rw [List.getElem_set_ne e]
      exact drop_more (h.lies j hj (by simpa using h1) (by simpa using h2) h3) rfl (bytes_pos _)
  · rw [lsum_set fs L k hk hkL (hf hkL)]
    have := h.sum
    simp; omega
  · have := h.size
    simp; omega
theorem zip_mem {fs : List FieldD} {A : List Nat} {p : FieldD × Nat} (h : p ∈ fs.zip A) : ∃ k, ∃ h1 : k < fs.length, ∃ h2 : k < A.length, p = (fs[k], A[k]) := by
  obtain ⟨k, hk, rfl⟩ := List.getElem_of_mem h
  have hk' := hk
  rw [List.length_zip] at hk'
  exact ⟨k, by omega, by omega, by simp⟩
theorem zip_fst (fs : List FieldD) : ∀ (A : List Nat), A.length = fs.length → (fs.zip A).map (·.1) = fs := by
  intro A h
  exact List.map_fst_zip (by omega)
theorem sum_zip (fs : List FieldD) : ∀ (A : List Nat), A.length = fs.length → sumLen (fs.zip A) = (dataOf fs).length := by
  induction fs with
  | nil => intro A h; simp [sumLen, dataOf]
  | cons f fs ih =>
    intro A h
    cases A with
    | nil => simp at h
    | cons a A =>
      have := ih A (by simpa using h)
      simp only [sumLen, dataOf, List.zip_cons_cons, List.map_cons, List.sum_cons, List.flatMap_cons, List.length_append] at *
      omega
theorem good_field {r : RecD} (h : GoodR r) {f : FieldD} (hf : f ∈ r.fields) : wrongF f = 0 ∧ (fieldBytes f).length ≤ 66 := ⟨(h.fields f hf).right, (h.fields f hf).small⟩
theorem LaySt.ok {r : RecD} (hr : GoodR r) {L : List Bool} {A : List Nat} {data : Bs} (h : LaySt r.fields L A data r.fields.length) : LaidOk r.kind r.level (r.fields.zip A) data := by
  have hall := cnt_all L (by rw [h.count, h.ll])
  have hmany := hr.many
  have hsz := h.size
  refine ⟨hr.kind, hr.level, fun p hp => ?_, fun p hp => ?_, fun p hp => ?_, ?_, ?_, ?_⟩
  · obtain ⟨k, h1, h2, rfl⟩ := zip_mem hp
    exact (good_field hr (List.getElem_mem h1)).1
  · obtain ⟨k, h1, h2, rfl⟩ := zip_mem hp
    have := (good_field hr (List.getElem_mem h1)).2
    show (fieldBytes r.fields[k]).length ≤ 9999
    omega
  · obtain ⟨k, h1, h2, rfl⟩ := zip_mem hp
    exact h.lies k h1 (by rw [h.ll]; exact h1) h2 (hall _ (List.getElem_mem _))
  · rw [List.length_zip]; omega
  · rw [List.length_zip]; omega
  · rw [sum_zip _ _ h.la, ← lsum_true _ _ h.ll hall]; exact h.sum
theorem LaySt.parse {r : RecD} (hr : GoodR r) {L : List Bool} {A : List Nat} {data : Bs} (h : LaySt r.fields L A data r.fields.length) (x : Free) : parseR (laidG r.kind r.level x (r.fields.zip A) data) = (r, 0, 0) ∧
    (writeB r).length ≤ (laidG r.kind r.level x (r.fields.zip A) data).length ∧ (laidG r.kind r.level x (r.fields.zip A) data).length ≤ 1200 := by
  have hok := h.ok hr
  have hall := cnt_all L (by rw [h.count, h.ll])
  refine ⟨?_, ?_⟩
  · rw [parse_laid hok, zip_fst _ _ h.la]
  · rw [laid_length hok.right, List.length_zip, (write_length hr.zero.1).1]
    have h1 := h.sum
    rw [lsum_true _ _ h.ll hall] at h1
    have := h.la
    have := h.size
    have := hr.many
    omega
theorem LaySt.place {r : RecD} (hr : GoodR r) {L : List Bool} {A : List Nat} {data : Bs} (h : LaySt r.fields L A data r.fields.length) (k : Nat) (h1 : k < r.fields.length) (h2 : k < A.length) : A[k] ≤ 1000 := by
  have hall := cnt_all L (by rw [h.count, h.ll])
  have h3 := lies_le (h.lies k h1 (by rw [h.ll]; exact h1) h2 (hall _ (List.getElem_mem _)))
  have := h.size
  have := hr.many
  omega
theorem tag_three {f : FieldD} (h : wrongF f = 0) : f.tag.length = 3 := by
  unfold wrongF at h
  split at h
  · cases h
  · rename_i ht
    simp only [Bool.not_eq_true, Bool.not_eq_false'] at ht
    unfold isTagB at ht
    simp at ht
    exact ht.1.1
/-- The directory, under way. -/
theorem dirP_snoc (ps : List (FieldD × Nat)) (f : FieldD) (p : Nat) : dirP (ps ++ [(f, p)]) = dirP ps ++ (f.tag ++ (fixedN 4 (fieldBytes f).length ++ fixedN 5 p)) := by
  induction ps with
  | nil => simp [dirP]
  | cons q ps ih => obtain ⟨g, k⟩ := q; simp only [List.cons_append, dirP, ih, List.append_assoc]
theorem dirP_take (fs : List FieldD) (A : List Nat) (k : Nat) (h1 : k < fs.length) (h2 : k < A.length) : dirP ((fs.zip A).take (k + 1)) = dirP ((fs.zip A).take k) ++ (fs[k].tag ++ (fixedN 4 (fieldBytes fs[k]).length ++ fixedN 5 A[k])) := by
  rw [List.take_succ_eq_append_getElem (by rw [List.length_zip]; omega), List.getElem_zip, dirP_snoc]

/-- Equal cells in a block of the function's own. -/
def CellsZ (w : World) (B : Nat) (Z : List Value) : Prop := (∀ j (h : j < Z.length), w.cell? ⟨B, j, none⟩ = some Z[j]) ∧ ∀ j, j < Z.length → w.frozen? ⟨B, j, none⟩ = false
theorem CellsZ.set {w : World} {B : Nat} {Z : List Value} (h : CellsZ w B Z) (m : Nat) (v : Value) (hm : m < Z.length) : CellsZ (w.setCell ⟨B, m, none⟩ v) B (Z.set m v) := by
  refine ⟨fun j hj => ?_, fun j hj => by rw [World.frozen?_setCell]; exact h.2 j (by simpa using hj)⟩
  have hj' : j < Z.length := by simpa using hj
  rw [List.getElem_set]
  split
  · rename_i e
    subst e
    apply World.cell?_setCell_same; exact h.1 m hm
  · rename_i e
    refine Eq.trans ?_ (h.1 j hj')
    apply World.cell?_setCell_other; intro he; injection he with _ he; exact e he
theorem CellsZ.far {w w' : World} {B : Nat} {Z : List Value} (h : CellsZ w B Z) (hb : w'.heap[B]? = w.heap[B]?) : CellsZ w' B Z :=
  ⟨fun j hj => (World.cell?_of_block (w := w) (a := ⟨B, j, none⟩) hb).trans (h.1 j hj), fun j hj => (World.frozen?_of_block (w := w) (a := ⟨B, j, none⟩) hb).trans (h.2 j hj)⟩
theorem CellsZ.below {w w' : World} {B : Nat} {Z : List Value} (h : CellsZ w B Z) (hB : B < w.heap.size) (hb : Below w.heap.size w w') : CellsZ w' B Z := h.far (hb.block B hB)
end Go.Proofs.YtfkleeigdplapaaDoor
