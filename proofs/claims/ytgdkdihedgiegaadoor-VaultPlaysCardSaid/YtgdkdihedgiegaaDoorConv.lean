/-
  'string([]byte{..})' as an unconditional rule of the walk: what the cells hold is asked of the result, not ahead of it.
-/
import Derived.Test.YtgdkdihedgiegaaDoorProg
import Derived.Test.YtgdkdihedgiegaaDoorA1
namespace Go.Proofs.YtgdkdihedgiegaaDoor
open Go.RowKit
/-- 'string(b)' of a slice of bytes whose cells are known. -/
theorem conv_cells (w : World) (a : Addr) (cap : Nat) (l : List Int) (hc : ∀ j (hj : j < l.length), w.cell? (a.add j) = some (.int .u8 l[j])) :
    (convert 51 9 (.slice (some a) l.length cap)).run Tryd.prog w = .ok (S (l.map fun n => UInt8.ofNat n.toNat)) w := by
  rw [run_convert_bytes_string w 51 9 5 (some a) l.length cap Tryd.underlying51 Tryd.underlying5 Tryd.underlying9]
  have hl := run_loadCells_list (P := Tryd.prog) w a (l.map (Value.int .u8)) (fun j v hj => by
    have hj' : j < l.length := by
      have := (List.getElem?_eq_some_iff.1 hj).1
      simpa using this
    rw [hc j hj']
    simp [List.getElem?_eq_getElem hj'] at hj
    rw [← hj])
  simp only [List.length_map] at hl
  rw [run_bytesToString w a l.length cap _ hl]
  have : ∀ (l : List Int) (r : ByteArray), l.foldl (fun r n => r.push (UInt8.ofNat n.toNat)) r = ⟨r.data ++ (l.map fun n => UInt8.ofNat n.toNat).toArray⟩ := by
    intro l
    induction l with
    | nil => intro r; simp
    | cons b l ih => intro r; simp only [List.foldl_cons, List.map_cons]; rw [ih]; simp [ByteArray.push]
  rw [this]
  have he0 : ByteArray.empty.data = #[] := rfl
  rw [he0]
  simp
theorem conv_one (w : World) (b : Nat) (c : Int) (h : w.cell? ⟨b, 0, none⟩ = some (.int .u8 c)) :
   (convert 51 9 (.slice (some ⟨b, 0, none⟩) 1 1)).run Tryd.prog w = .ok (S [UInt8.ofNat c.toNat]) w := by
  have := conv_cells w ⟨b, 0, none⟩ 1 [c] (fun j hj => by
    have : j = 0 := by simpa using hj
    subst this
    simpa [Addr.add] using h)
  simpa using this
theorem conv_two (w : World) (b : Nat) (c d : Int) (h0 : w.cell? ⟨b, 0, none⟩ = some (.int .u8 c)) (h1 : w.cell? ⟨b, 1, none⟩ = some (.int .u8 d)) :
   (convert 51 9 (.slice (some ⟨b, 0, none⟩) 2 2)).run Tryd.prog w = .ok (S [UInt8.ofNat c.toNat, UInt8.ofNat d.toNat]) w := by
  have := conv_cells w ⟨b, 0, none⟩ 2 [c, d] (fun j hj => by
    have : j = 0 ∨ j = 1 := by simp at hj; omega
    rcases this with rfl | rfl
    · simpa [Addr.add] using h0
    · simpa [Addr.add] using h1)
  simpa using this
open Classical in
noncomputable def cv1 (x : Option Value) (w : World) (b : Nat) : Result Value :=
  if x = w.cell? ⟨b, 0, none⟩ then (convert 51 9 (.slice (some ⟨b, 0, none⟩) 1 1)).run Tryd.prog w
  else match x with
    | some (.int .u8 c) => .ok (S [UInt8.ofNat c.toNat]) w
    | _ => (convert 51 9 (.slice (some ⟨b, 0, none⟩) 1 1)).run Tryd.prog w
theorem cv1_intro (w : World) (b : Nat) : (convert 51 9 (.slice (some ⟨b, 0, none⟩) 1 1)).run Tryd.prog w = cv1 (w.cell? ⟨b, 0, none⟩) w b := by unfold cv1; rw [if_pos rfl]
theorem cv1_some (c : Int) (w : World) (b : Nat) : cv1 (some (.int .u8 c)) w b = .ok (S [UInt8.ofNat c.toNat]) w := by
  unfold cv1
  split
  · rename_i h; exact conv_one w b c h.symm
  · rfl
open Classical in
noncomputable def cv2 (x y : Option Value) (w : World) (b : Nat) : Result Value :=
  if x = w.cell? ⟨b, 0, none⟩ ∧ y = w.cell? ⟨b, 1, none⟩ then (convert 51 9 (.slice (some ⟨b, 0, none⟩) 2 2)).run Tryd.prog w
  else match x, y with
    | some (.int .u8 c), some (.int .u8 d) => .ok (S [UInt8.ofNat c.toNat, UInt8.ofNat d.toNat]) w
    | _, _ => (convert 51 9 (.slice (some ⟨b, 0, none⟩) 2 2)).run Tryd.prog w
theorem cv2_intro (w : World) (b : Nat) : (convert 51 9 (.slice (some ⟨b, 0, none⟩) 2 2)).run Tryd.prog w = cv2 (w.cell? ⟨b, 0, none⟩) (w.cell? ⟨b, 1, none⟩) w b := by unfold cv2; rw [if_pos ⟨rfl, rfl⟩]
theorem cv2_some (c d : Int) (w : World) (b : Nat) : cv2 (some (.int .u8 c)) (some (.int .u8 d)) w b = .ok (S [UInt8.ofNat c.toNat, UInt8.ofNat d.toNat]) w := by
  unfold cv2
  split
  · rename_i h; exact conv_two w b c d h.1.symm h.2.symm
  · rfl
attribute [go_sem] cv1_intro cv1_some cv2_intro cv2_some

end Go.Proofs.YtgdkdihedgiegaaDoor
