/-
  The walk of Read, of all that is there.
-/
import Derived.Test.YtgdkdihedgiegaaDoorD6
import Derived.Deep.QuietTactic
import Derived.BigQuiet
namespace Go.Proofs.YtgdkdihedgiegaaDoor
open Go.RowKit

/-- 'string(b)' of bytes that are known. -/
theorem conv_back (w : World) (a : Addr) (cap : Nat) (l : Bs) (hc : ∀ j u, (bv l)[j]? = some u → w.cell? (a.add j) = some u) : (convert 51 9 (.slice (some a) l.length cap)).run Tryd.prog w = .ok (S l) w :=
  run_convert_bytes_back w 51 9 5 a cap l Tryd.underlying51 Tryd.underlying5 Tryd.underlying9 (fun j hj => hc j _ (by simp [bv, hj]))
set_option maxHeartbeats 1000000 in
set_option maxRecDepth 100000 in
theorem read_33 (F : Nat → Prop) (w : World) (b : Nat) (D : DiskD) (h : DiskAt F w b D) (hn : D.now.length ≤ 20000000) :
    Calls Tryd.prog 33 #[.pointer (some ⟨b, 0, none⟩), .int .i64 0, .int .i64 D.now.length] w fun e w' => e = .returned (S D.now) ∧ Below w.heap.size w w' := by
  obtain ⟨vn, vs, vp, c, hD⟩ := h
  have c0 : w.cell? ⟨b, 0, none⟩ = some vn := by rw [blk_cell hD.blk]; rfl
  obtain ⟨now, syn, pcs, f, l⟩ := D
  simp only at hn
  have hrow : ByteRow w vn now := hD.now
  clear hD
  rcases hrow.2 with ⟨rfl, hl⟩ | ⟨g, cap, cur, rfl, hb, hg, hle, hm, hs, ht⟩
  · obtain rfl : now = [] := List.eq_nil_of_length_eq_zero hl
    clear hl hrow
    go_enter Tryd.func33, Tryd.ntmps33
    go_wp2_with fail
    go_ret
    exact ⟨rfl, Below.refl _ _⟩
  · by_cases h0 : now = []
    · subst h0
      clear hrow ht hs hg hm hb hle
      go_enter Tryd.func33, Tryd.ntmps33
      go_wp2_with fail
      go_ret
      exact ⟨rfl, Below.refl _ _⟩
    · have hl0 : 0 < now.length := List.length_pos_iff.2 h0
      have hcv : ∀ k, (convert 51 9 (.slice (some ⟨g, 0, none⟩) now.length cap)).run Tryd.prog (w.drewN k) = .ok (S now) (w.drewN k) := fun k => conv_back (w.drewN k) ⟨g, 0, none⟩ cap now (fun j u hu => by rw [← hrow.cells (g := g) rfl j u hu]; simp)
      have hle2 : (now.length : Int) ≤ cap := by omega
      have hl1 : (1 : Int) ≤ now.length := by omega
      have hl2 : ¬ (now.length : Int) < 1 := by omega
      clear hrow ht hs hg hm hb
      go_enter Tryd.func33, Tryd.ntmps33
      go_wp2_with fail
      go_quiet (fail)
      go_wp2_with fail

      go_ret
      exact ⟨rfl, ⟨rfl, rfl, rfl, Nat.le_refl _, fun _ _ => rfl⟩⟩
end Go.Proofs.YtgdkdihedgiegaaDoor
