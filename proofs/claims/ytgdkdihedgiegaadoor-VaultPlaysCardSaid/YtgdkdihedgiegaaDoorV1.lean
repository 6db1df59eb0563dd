/-
  A vault in memory; the walks of ready, Many, note, write and of what write returns.
-/
import Derived.Test.YtgdkdihedgiegaaDoorC9
namespace Go.Proofs.YtgdkdihedgiegaaDoor
open Go.RowKit

def vaultCells (b : Nat) (e m : Int) (br : Bool) : Array Value := #[.pointer (some ⟨b, 0, none⟩), .int .i64 e, .int .i64 m, .bool br]
/-- A vault in block bv on the disk in block b. -/
def VaultAt (w : World) (bv b : Nat) (e m : Int) (br : Bool) : Prop := w.heap[bv]? = some (.cells (vaultCells b e m br) 44 (0, 0))
set_option maxHeartbeats 1000000 in
theorem ready_44 (w : World) (bv b : Nat) (e m : Int) (br : Bool) (h : VaultAt w bv b e m br) :
    Calls Tryd.prog 44 #[.pointer (some ⟨bv, 0, none⟩)] w fun e' w' => e' = .returned (.int .i64 (if br then 70 else 0)) ∧ w' = w := by
  have c0 : w.cell? ⟨bv, 0, none⟩ = some (.pointer (some ⟨b, 0, none⟩)) := by rw [blk_cell h]; rfl
  have c3 : w.cell? ⟨bv, 3, none⟩ = some (.bool br) := by rw [blk_cell h]; rfl
  clear h
  cases br <;>
  · go_enter Tryd.func44, Tryd.ntmps44
    go_wp2_with fail
    go_ret
    exact ⟨rfl, rfl⟩
set_option maxHeartbeats 1000000 in
theorem many_20 (w : World) (bv b : Nat) (e m : Int) (br : Bool) (h : VaultAt w bv b e m br) :
    Calls Tryd.prog 20 #[.pointer (some ⟨bv, 0, none⟩)] w fun e' w' => e' = .returned (.int .i64 m) ∧ w' = w := by
  have c2 : w.cell? ⟨bv, 2, none⟩ = some (.int .i64 m) := by rw [blk_cell h]; rfl
  clear h
  go_enter Tryd.func20, Tryd.ntmps20
  go_wp2_with fail
  go_ret
  exact ⟨rfl, rfl⟩
set_option maxHeartbeats 1000000 in
theorem note_42 (w : World) (bv b : Nat) (e m : Int) (br : Bool) (h : VaultAt w bv b e m br) (x : Bs) (hx : x.length ≤ 100000000) (a : Option Addr) (n cap : Nat) :
    Calls Tryd.prog 42 #[.pointer (some ⟨bv, 0, none⟩), S x, .slice a n cap] w fun e' w' => e' = .returned (.tuple #[]) ∧ VaultAt w' bv b (if x = [] then 65 else 64 + x.length) n br ∧ Only bv w w' := by
  have c1 : w.cell? ⟨bv, 1, none⟩ = some (.int .i64 e) := by rw [blk_cell h]; rfl
  have c2 : w.cell? ⟨bv, 2, none⟩ = some (.int .i64 m) := by rw [blk_cell h]; rfl
  have f1 : w.frozen? ⟨bv, 1, none⟩ = false := blk_frozen h 1
  have f2 : w.frozen? ⟨bv, 2, none⟩ = false := blk_frozen h 2
  have H := Lib.hid h
  clear h
  by_cases h0 : x = []
  · subst h0
    go_enter Tryd.func42, Tryd.ntmps42
    go_wp2_with fail
    go_end0
    exact ⟨rfl, (blk_set (blk_set (blk_set H.out 1 _) 2 _) 1 _).trans rfl, Only.setCell (Only.setCell (Only.setCell (Only.refl bv w) 1 _) 2 _) 1 _⟩
  · have hie : List.isEmpty x = false := by simpa using h0
    go_enter Tryd.func42, Tryd.ntmps42
    go_wp2_with fail
    go_end0
    exact ⟨rfl, (blk_set (blk_set H.out 1 _) 2 _).trans rfl, Only.setCell (Only.setCell (Only.refl bv w) 1 _) 2 _⟩
abbrev stepV (p : Nat) : Value := .func (.func 63) #[] #[.pointer (some ⟨p, 0, none⟩), .pointer (some ⟨p + 1, 0, none⟩), .pointer (some ⟨p + 2, 0, none⟩)]
/-- A step that writes s at off, as write returns it: its three boxes lie in no block of F. -/
structure StepAt (F : Nat → Prop) (w : World) (fv : Value) (bv : Nat) (off : Int) (s : Bs) : Prop where
  ex : ∃ p, fv = .func (.func 63) #[] #[.pointer (some ⟨p, 0, none⟩), .pointer (some ⟨p + 1, 0, none⟩), .pointer (some ⟨p + 2, 0, none⟩)] ∧
    w.heap[p]? = some (.cells #[.pointer (some ⟨bv, 0, none⟩)] 26 (0, 0)) ∧ w.heap[p + 1]? = some (.cells #[.int .i64 off] 3 (0, 0)) ∧ w.heap[p + 2]? = some (.cells #[S s] 9 (0, 0)) ∧ ¬ F p ∧ ¬ F (p + 1) ∧ ¬ F (p + 2)
theorem StepAt.keep {F F' : Nat → Prop} {w w' : World} {fv : Value} {bv : Nat} {off : Int} {s : Bs} (h : StepAt F w fv bv off s) (hst : Step F w F' w') : StepAt F' w' fv bv off s := by
  obtain ⟨p, h1, h2, h3, h4, h5, h6, h7⟩ := h
  exact ⟨p, h1, (hst.block _ (blk_lt h2) h5).trans h2, (hst.block _ (blk_lt h3) h6).trans h3, (hst.block _ (blk_lt h4) h7).trans h4, hst.not (blk_lt h2) h5, hst.not (blk_lt h3) h6, hst.not (blk_lt h4) h7⟩
set_option maxHeartbeats 1000000 in
theorem write_39 (F : Nat → Prop) (w : World) (bv : Nat) (off : Int) (s : Bs) (hF : ∀ k, F k → k < w.heap.size) :
    Calls Tryd.prog 39 #[.pointer (some ⟨bv, 0, none⟩), .int .i64 off, S s] w fun e w' => ∃ p, e = .returned (stepV p) ∧ StepAt F w' (stepV p) bv off s ∧ Below w.heap.size w w' := by
  go_enter Tryd.func39, Tryd.ntmps39
  go_wp2_with fail
  go_ret
  have n1 := heap_alloc_new ((w.alloc (.cells #[.pointer (some ⟨bv, 0, none⟩)] 26)).alloc (.cells #[.int .i64 off] 3)) (.cells #[S s] 9)
  have n2 := heap_alloc_new (w.alloc (.cells #[.pointer (some ⟨bv, 0, none⟩)] 26)) (.cells #[.int .i64 off] 3)
  have n3 := heap_alloc_new w (.cells #[.pointer (some ⟨bv, 0, none⟩)] 26)
  simp only [World.size_alloc] at n1 n2 n3
  refine ⟨w.heap.size, rfl, ⟨w.heap.size, rfl, ?_, ?_, n1, fun h => by have := hF _ h; omega, fun h => by have := hF _ h; omega, fun h => by have := hF _ h; omega⟩, ?_⟩
  · rw [Below.heap_alloc _ _ _ (by simp; omega), Below.heap_alloc _ _ _ (by simp)]; exact n3
  · rw [Below.heap_alloc _ _ _ (by simp)]; exact n2
  · exact (((Below.refl _ w).alloc (Nat.le_refl _) _).alloc (by simp) _).alloc (by simp; omega) _
/-- Write, then Sync. -/
def wsD (D : DiskD) (off : Nat) (s : Bs) : DiskD × Int := if (writeD D off s).2 = 0 then syncD (writeD D off s).1 else writeD D off s
structure OkD (D : DiskD) : Prop where
  lo : -1 ≤ D.left
  hi : D.left ≤ 1000
  pos : D.failing = true → 0 ≤ D.left
  now : D.now.length ≤ 16777216
theorem OkD.power {D D' : DiskD} (h : OkD D) (hp : powerD D = some D') : OkD D' := by
  obtain ⟨now, syn, pcs, f, l⟩ := D
  have h3 := h.pos
  have h1 := h.lo
  have h2 := h.hi
  have h4 := h.now
  simp only [powerD] at hp
  cases f with
  | true =>
    simp only [if_true] at hp
    split at hp
    · cases hp
    · cases hp
      have := h3 rfl
      simp only at h1 h2 this h4
      exact ⟨by show -1 ≤ l - 1; omega, by show l - 1 ≤ 1000; omega, fun _ => (by show 0 ≤ l - 1; omega), h4⟩
  | false =>
    simp only [Bool.false_eq_true, if_false] at hp
    cases hp
    exact h
theorem OkD.write {D : DiskD} (h : OkD D) (off : Nat) (s : Bs) (hs : off + s.length ≤ 16777216) : OkD (writeD D off s).1 := by
  unfold writeD
  cases hp : powerD D with
  | none => exact h
  | some D' =>
    have h' := h.power hp
    exact ⟨h'.lo, h'.hi, h'.pos, by show (putR D'.now off s).length ≤ _; rw [put_len]; have := h'.now; omega⟩
theorem OkD.sync {D : DiskD} (h : OkD D) : OkD (syncD D).1 := by
  unfold syncD
  cases hp : powerD D with
  | none => exact h
  | some D' =>
    have h' := h.power hp
    exact ⟨h'.lo, h'.hi, h'.pos, h'.now⟩
theorem OkD.ws {D : DiskD} (h : OkD D) (off : Nat) (s : Bs) (hs : off + s.length ≤ 16777216) : OkD (wsD D off s).1 := by
  unfold wsD
  split
  · exact (h.write off s hs).sync
  · exact h.write off s hs
theorem write_err (D : DiskD) (off : Nat) (s : Bs) : (writeD D off s).2 = 0 ∨ (writeD D off s).2 = 70 := by
  unfold writeD; split <;> simp
theorem sync_err (D : DiskD) : (syncD D).2 = 0 ∨ (syncD D).2 = 70 := by
  unfold syncD; split <;> simp
theorem ws_err (D : DiskD) (off : Nat) (s : Bs) : (wsD D off s).2 = 0 ∨ (wsD D off s).2 = 70 := by
  unfold wsD; split
  · exact sync_err _
  · exact write_err _ _ _
theorem sync_pcs (D : DiskD) (h : (syncD D).2 = 0) : (syncD D).1.pcs = [] := by
  unfold syncD at h ⊢
  split at h
  · cases h
  · rfl
theorem ws_pcs (D : DiskD) (off : Nat) (s : Bs) (h : (wsD D off s).2 = 0) : (wsD D off s).1.pcs = [] := by
  unfold wsD at h ⊢
  split at h
  · rename_i hh; rw [if_pos hh]; exact sync_pcs _ h
  · rename_i hh; exact absurd h hh
end Go.Proofs.YtgdkdihedgiegaaDoor
