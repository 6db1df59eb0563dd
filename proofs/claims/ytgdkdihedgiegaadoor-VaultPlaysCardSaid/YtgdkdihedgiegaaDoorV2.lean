/-
  The walks of what write returns, and of do.
-/
import Derived.Test.YtgdkdihedgiegaaDoorV1
import Derived.StillTailTactics
namespace Go.Proofs.YtgdkdihedgiegaaDoor
open Go.RowKit

set_option maxHeartbeats 4000000 in
set_option maxRecDepth 100000 in
theorem step_63 (F : Nat → Prop) (w : World) (p bv b : Nat) (e m : Int) (br : Bool) (off : Nat) (s : Bs) (D : DiskD) (h : DiskAt F w b D) (hv : VaultAt w bv b e m br) (hvF : ¬ F bv)
    (h0 : w.heap[p]? = some (.cells #[.pointer (some ⟨bv, 0, none⟩)] 26 (0, 0))) (h1 : w.heap[p + 1]? = some (.cells #[.int .i64 off] 3 (0, 0))) (h2 : w.heap[p + 2]? = some (.cells #[S s] 9 (0, 0))) (hp : ¬ F p)
    (hok : OkD D) (hs : off + s.length ≤ 16777216) (hpc : D.pcs.length ≤ 1000000) :
    Calls Tryd.prog 63 #[.pointer (some ⟨p, 0, none⟩), .pointer (some ⟨p + 1, 0, none⟩), .pointer (some ⟨p + 2, 0, none⟩)] w fun e' w' => e' = .returned (.int .i64 (wsD D off s).2) ∧ ∃ F', DiskAt F' w' b (wsD D off s).1 ∧ Step F w F' w' := by
  have HW := Lib.hid (fun W (hd : DiskAt F W b D) => write_50 F W b D hd ⟨hok.lo, hok.hi⟩ off s hs hok.now hpc)
  have HK := Lib.hid (hok.write off s hs)
  have c0 : w.cell? ⟨p, 0, none⟩ = some (.pointer (some ⟨bv, 0, none⟩)) := by rw [blk_cell h0]; rfl
  have c1 : w.cell? ⟨p + 1, 0, none⟩ = some (.int .i64 off) := by rw [blk_cell h1]; rfl
  have c2 : w.cell? ⟨p + 2, 0, none⟩ = some (S s) := by rw [blk_cell h2]; rfl
  have k0 : w.cell? ⟨bv, 0, none⟩ = some (.pointer (some ⟨b, 0, none⟩)) := by rw [blk_cell hv]; rfl
  have H := Lib.hid h
  have L0 := Lib.hid (blk_lt h0)
  have LV := Lib.hid (blk_lt hv)
  have HP := Lib.hid hp
  have HVF := Lib.hid hvF
  clear h hv hvF h0 h1 h2 hp hok hs hpc
  rcases write_err D off s with hE | hE
  · have HE : Hid (wsD D off s = syncD (writeD D off s).1) := by show _ = _; unfold wsD; rw [if_pos hE]
    rw [HE.out]
    rw [hE] at HW
    clear hE
    generalize (writeD D off s).1 = D1 at *
    go_enter Tryd.func63, Tryd.ntmps63
    go_wp2_with fail
    go_still_tail 6, (by kernel_rfl)
    go_wp2_with (go_at_call 50; ((with_reducible refine Calls.mono (HW.out _ (H.out.keep (fun _ _ => rfl) (Nat.le_refl _))) ?_); rintro e' w1 ⟨rfl, F1, hd1, hs1⟩; have HD1 := Lib.hid hd1; have HS1 := Lib.hid hs1; have c0' : w1.cell? ⟨p, 0, none⟩ = some (.pointer (some ⟨bv, 0, none⟩)) := ((hs1.cell L0.out HP.out 0).trans c0); have k0' : w1.cell? ⟨bv, 0, none⟩ = some (.pointer (some ⟨b, 0, none⟩)) := ((hs1.cell LV.out HVF.out 0).trans k0); clear hd1 hs1))
    all_goals
      go_wp2_with (go_at_call 32; ((with_reducible refine Calls.mono (sync_32 F1 _ b D1 HD1.out ⟨HK.out.lo, HK.out.hi⟩ (by have := HK.out.now; omega)) ?_); rintro e' w2 ⟨rfl, F2, hd2, hs2⟩; have HD2 := Lib.hid hd2; have HS2 := Lib.hid hs2; clear hd2 hs2))
      go_ret
      exact ⟨rfl, F2, HD2.out, ((Step.of_below (Below.refl _ _).drew).trans HS1.out).trans HS2.out⟩
  · have HE : Hid (wsD D off s = ((writeD D off s).1, 70)) := by show _ = _; unfold wsD; rw [if_neg (by rw [hE]; decide), ← hE]
    rw [HE.out]
    rw [hE] at HW
    clear hE
    generalize (writeD D off s).1 = D1 at *
    go_enter Tryd.func63, Tryd.ntmps63
    go_wp2_with fail
    go_still_tail 6, (by kernel_rfl)
    go_wp2_with (go_at_call 50; ((with_reducible refine Calls.mono (HW.out _ (H.out.keep (fun _ _ => rfl) (Nat.le_refl _))) ?_); rintro e' w1 ⟨rfl, F1, hd1, hs1⟩; have HD1 := Lib.hid hd1; have HS1 := Lib.hid hs1; clear hd1 hs1))
    all_goals
      go_wp2_with fail
      go_ret
      exact ⟨rfl, F1, HD1.out, (Step.of_below (Below.refl _ _).drew).trans HS1.out⟩
/-- Steps, one behind the other, up to the first error. -/
def runD (D : DiskD) : List (Nat × Bs) → DiskD × Int
  | [] => (D, 0)
  | q :: l => if (wsD D q.1 q.2).2 = 0 then runD (wsD D q.1 q.2).1 l else wsD D q.1 q.2
/-- A slice of steps, in a row of the call's own. -/
structure StepsAt (F : Nat → Prop) (w : World) (bv : Nat) (v : Value) (l : List (Nat × Bs)) : Prop where
  ex : ∃ qs : List ((Nat × Bs) × Value), qs.map (·.1) = l ∧ w.ownsRow 0 72 1 v l.length (qs.map (·.2)) ∧ (∀ q ∈ qs, q.2.oneCell' = true ∧ StepAt F w q.2 bv q.1.1 q.1.2) ∧ ∀ k, v.ownBlock = some k → ¬ F k
theorem StepsAt.keep {F F' : Nat → Prop} {w w' : World} {bv : Nat} {v : Value} {l : List (Nat × Bs)} (h : StepsAt F w bv v l) (hst : Step F w F' w') : StepsAt F' w' bv v l := by
  obtain ⟨qs, h1, h2, h3, h4⟩ := h
  exact ⟨qs, h1, row_far h2 (fun g hg => hst.block g (row_lt h2 g hg) (h4 g hg)), fun q hq => ⟨(h3 q hq).1, (h3 q hq).2.keep hst⟩, fun k hk => hst.not (row_lt h2 k hk) (h4 k hk)⟩
/-- A vault and its disk. -/
structure VD (F : Nat → Prop) (w : World) (bv b : Nat) (e m : Int) (br : Bool) (D : DiskD) : Prop where
  disk : DiskAt F w b D
  vault : VaultAt w bv b e m br
  nf : ¬ F bv
/-- The footprint of a vault and its disk. -/
def With (F : Nat → Prop) (bv : Nat) (k : Nat) : Prop := F k ∨ k = bv
theorem Step.more {F F' : Nat → Prop} {w w' : World} (h : Step F w F' w') (bv : Nat) : Step (With F bv) w (With F' bv) w' :=
  ⟨h.os, h.tape, h.output, h.size, fun k hk hn => h.block k hk (fun e => hn (.inl e)), fun k hk => by
    rcases hk with hk | hk
    · rcases h.new k hk with h1 | h1
      · exact .inl (.inl h1)
      · exact .inr h1
    · exact .inl (.inr hk)⟩
theorem Step.only_more {F : Nat → Prop} {w w' : World} {bv : Nat} (h : Only bv w w') : Step (With F bv) w (With F bv) w' :=
  Step.of_only h (.inr rfl)
theorem VD.step {F F' : Nat → Prop} {w w' : World} {bv b : Nat} {e m : Int} {br : Bool} {D D' : DiskD} (h : VD F w bv b e m br D) (hd : DiskAt F' w' b D') (hs : Step F w F' w') : VD F' w' bv b e m br D' :=
  ⟨hd, (hs.block bv (blk_lt h.vault) h.nf).trans h.vault, hs.not (blk_lt h.vault) h.nf⟩
theorem VD.only {F : Nat → Prop} {w w' : World} {bv b : Nat} {e m e' m' : Int} {br br' : Bool} {D : DiskD} (h : VD F w bv b e m br D) (ho : Only bv w w') (hv : VaultAt w' bv b e' m' br') : VD F w' bv b e' m' br' D :=
  ⟨h.disk.keep (fun k hk => ho.block k (fun e => h.nf (e ▸ hk))) (by rw [ho.size]; exact Nat.le_refl _), hv, h.nf⟩
theorem VD.below {F : Nat → Prop} {w w' : World} {bv b : Nat} {e m : Int} {br : Bool} {D : DiskD} (h : VD F w bv b e m br D) (hb : Below w.heap.size w w') : VD F w' bv b e m br D :=
  ⟨h.disk.below hb, (hb.block bv (blk_lt h.vault)).trans h.vault, h.nf⟩
/-- The post of do. -/
def RunPost (F : Nat → Prop) (bv b : Nat) (e m : Int) (br : Bool) (r : DiskD × Int) (w : World) (e' : Ending) (w' : World) : Prop :=
  e' = .returned (.int .i64 r.2) ∧ ∃ F', VD F' w' bv b e m (br || decide (r.2 = 70)) r.1 ∧ Step (With F bv) w (With F' bv) w'
end Go.Proofs.YtgdkdihedgiegaaDoor
