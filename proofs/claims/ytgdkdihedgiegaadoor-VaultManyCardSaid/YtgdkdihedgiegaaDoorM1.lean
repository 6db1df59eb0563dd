/-
  A vault, and the reference's state in a cell whose tail is a row of its own.
-/
import Derived.Test.YtgdkdihedgiegaaDoorV26
import Derived.Deep.DeepCutAuto
namespace Go.Proofs.YtgdkdihedgiegaaDoor
open Go.RowKit

theorem VS.grown {F : Nat → Prop} {w w' : World} {g b : Nat} {sn : Bs} {tl : List Bs} {c : Bs} {l : Int} {o : Option Nat} (h : VS F w g b sn tl c l) (hg : w.grownBy w' o) (ho : ∀ j, o = some j → ¬ With F g j) : VS F w' g b sn tl c l := by
  have hk : ∀ j, With F g j → w'.heap[j]? = w.heap[j]? := fun j hj => hg.block j (h.lt j hj) (fun e => ho j e.symm hj)
  have hd : DiskAt F w' b (onD c l) := h.ds.disk.keep (fun k hk' => hk k (.inl hk')) hg.size
  exact ⟨⟨hd, h.ds.clean, h.ds.fit, h.ds.cl, h.ds.lo, h.ds.hi⟩, ⟨hd, (hk g (.inr rfl)).trans h.vd.vault, h.vd.nf⟩⟩
/-- What the walk holds: the vault's state is (sn, tl), the cell's (sx, tx); the cell's tail is a row of its own. -/
structure LR (lo X : Nat) (w0 w : World) (F : Nat → Prop) (g b : Nat) (sn : Bs) (tl : List Bs) (c : Bs) (l : Int) (sx : Bs) (av : Value) (tx : List Bs) : Prop where
  vs : VS F w g b sn tl c l
  x : w.heap[X]? = some (.cells #[S sx, av] 32 (0, 0))
  nx : ¬ With F g X
  row : StrRow w lo av tx
  rn : ∀ j, av.ownBlock = some j → ¬ With (With F g) X j
  low : ∀ k, With (With F g) X k → lo ≤ k
  bl : Below lo w0 w
  sz : lo ≤ w.heap.size
section
variable {lo X : Nat} {w0 w w' : World} {F : Nat → Prop} {g b : Nat} {sn : Bs} {tl : List Bs} {c : Bs} {l : Int} {sx : Bs} {av : Value} {tx : List Bs}
theorem LR.below (h : LR lo X w0 w F g b sn tl c l sx av tx) (hb : Below w.heap.size w w') : LR lo X w0 w' F g b sn tl c l sx av tx :=
  ⟨h.vs.below hb, (hb.block X (blk_lt h.x)).trans h.x, h.nx, row_far h.row (fun j hj => hb.block j (row_lt h.row j hj)), h.rn, h.low, btr h.bl hb h.sz, Nat.le_trans h.sz hb.size⟩
theorem LR.turn {F' : Nat → Prop} {sn' : Bs} {tl' : List Bs} {c' : Bs} (h : LR lo X w0 w F g b sn tl c l sx av tx) (hv : VS F' w' g b sn' tl' c' l) (hs : Step (With F g) w (With F' g) w') : LR lo X w0 w' F' g b sn' tl' c' l sx av tx := by
  have hm := hs.more X
  have hb := hm.below h.low h.sz
  exact ⟨hv, (hs.block X (blk_lt h.x) h.nx).trans h.x, hs.not (blk_lt h.x) h.nx, row_far h.row (fun j hj => hm.block j (row_lt h.row j hj) (h.rn j hj)), fun j hj => hm.not (row_lt h.row j hj) (h.rn j hj), hb.2, h.bl.trans hb.1, Nat.le_trans h.sz hs.size⟩
theorem LR.push {av' : Value} {tx' : List Bs} (h : LR lo X w0 w F g b sn tl c l sx av tx) (hr : StrRow w' lo av' tx') (ho : Onto w w' av av') : LR lo X w0 (w'.setCell ⟨X, 1, none⟩ av') F g b sn tl c l sx av' tx' := by
  have hX : ∀ j, av.ownBlock = some j → j ≠ X := fun j hj e => h.rn j hj (.inr e)
  have hxw : w'.heap[X]? = some (.cells #[S sx, av] 32 (0, 0)) := (ho.grown.block X (blk_lt h.x) (fun e => hX X e.symm rfl)).trans h.x
  have hv1 := h.vs.grown ho.grown (fun j hj hw => h.rn j hj (.inl hw))
  have hoX := (Only.refl X w').setCell 1 av'
  have hnew : ∀ j, av'.ownBlock = some j → ¬ With (With F g) X j := by
    intro j hj
    rcases ho.at_ with h1 | h1
    · exact h.rn j (h1 ▸ hj)
    · rw [h1] at hj; injection hj with hj
      subst hj
      rintro (h2 | h2)
      · have := h.vs.lt _ h2; omega
      · have := blk_lt h.x; omega
  refine ⟨hv1.step X hoX h.nx rfl, ?_, h.nx, row_far hr (fun j hj => hoX.block j (fun e => hnew j hj (.inr e))), hnew, h.low, (h.bl.grown ho.grown h.sz (fun j hj => (h.row.lt j hj).1)).trans (hoX.below (h.low X (.inr rfl))), by rw [hoX.size]; exact Nat.le_trans h.sz ho.grown.size⟩
  simp only [World.setCell, Array.getElem?_modify, if_true, hxw]
  rfl
theorem LR.cells (h : LR lo X w0 w F g b sn tl c l sx av tx) : w.cell? ⟨X, 0, none⟩ = some (S sx) ∧ w.cell? ⟨X, 1, none⟩ = some av ∧ w.frozen? ⟨X, 0, none⟩ = false ∧ w.frozen? ⟨X, 1, none⟩ = false :=
  ⟨Lib.cell_of_heap h.x 0, Lib.cell_of_heap h.x 1, Lib.frozen_of_heap h.x 0, Lib.frozen_of_heap h.x 1⟩
theorem LR.tail (h : LR lo X w0 w F g b sn tl c l sx av tx) : TailAt w av tx := by
  exact (row_slice h.row).mono (Nat.zero_le _) (Nat.le_refl _)
/-- The beginning: the cell is made. -/
theorem LR.start (h : VS F w g b sn tl c l) (hl : ∀ k, With F g k → lo ≤ k) (hb : Below lo w0 w) (hs : lo ≤ w.heap.size) (sx : Bs) : LR lo w.heap.size w0 (w.alloc (.cells #[S sx, .slice none 0 0] 32)) F g b sn tl c l sx (.slice none 0 0) [] := by
  have ha := alloc_below w (.cells #[S sx, .slice none 0 0] 32)
  exact ⟨h.below ha, heap_alloc_new w _, fun hx => (by have := h.lt _ hx; omega), ⟨rfl, .inl ⟨rfl, rfl⟩⟩, fun j hj => (by cases hj), fun k hk => (by rcases hk with hk | rfl; exact hl k hk; exact hs), btr hb ha hs, by simp; omega⟩
end
/-- A text repeated. -/
def timesR (n : Nat) (s : Bs) : Bs := (List.replicate n s).flatten
theorem times_succ (n : Nat) (s : Bs) : timesR (n + 1) s = timesR n s ++ s := by
  unfold timesR; rw [List.replicate_succ', List.flatten_append]; simp
theorem times_len (n : Nat) (s : Bs) : (timesR n s).length = n * s.length := by
  induction n with
  | zero => simp [timesR]
  | succ n ih => rw [times_succ, List.length_append, ih, Nat.succ_mul]
/-- The records. -/
def recsM (s : Bs) (n : Nat) : List Bs := (List.range n).map fun i => s ++ [UInt8.ofNat i]
theorem recsM_succ (s : Bs) (n : Nat) : recsM s (n + 1) = recsM s n ++ [s ++ [UInt8.ofNat n]] := by
  unfold recsM; rw [List.range_succ, List.map_append]; rfl
theorem recsM_len (s : Bs) (n : Nat) : (recsM s n).length = n := by simp [recsM]
theorem recsM_fit (s : Bs) (h : s.length ≤ 30) (n : Nat) : ∀ r ∈ recsM s n, r.length ≤ 90 := by
  intro r hr
  obtain ⟨i, _, rfl⟩ := List.mem_map.1 hr
  simp; omega
theorem many_fit (sn s : Bs) (hs : sn.length ≤ 3000) (h : s.length ≤ 30) (n : Nat) (hn : n ≤ 60) : (imageR sn (recsM s n)).length ≤ 20000 := by
  have h1 := frames_small (recsM s n) (recsM_fit s h n)
  rw [recsM_len] at h1
  have h2 := numR_len_le sn.length 9 (by omega)
  unfold imageR
  simp only [List.length_append]
  omega
end Go.Proofs.YtgdkdihedgiegaaDoor
