/-
  A vault in memory; the walks of ready, Many, note, write and of what write returns.
  The walks of what write returns, and of do.
  The walk of do.
-/
import Derived.Test.YtgdkdihedgiegaaDoorC8
import Derived.StillTailTactics
namespace Go.Proofs.YtgdkdihedgiegaaDoor
open Go.RowKit

def vaultCells (b : Nat) (e m : Int) (br : Bool) : Array Value := #[.pointer (some ⟨b, 0, none⟩), .int .i64 e, .int .i64 m, .bool br]
/-- A vault in block bv on the disk in block b. -/
def VaultAt (w : World) (bv b : Nat) (e m : Int) (br : Bool) : Prop := w.heap[bv]? = some (.cells (vaultCells b e m br) 44 (0, 0))
set_option maxHeartbeats 1000000 in
theorem ready_44 (w : World) (bv b : Nat) (e m : Int) (br : Bool) (h : VaultAt w bv b e m br) :
    Calls Tryd.prog 44 #[.pointer (some ⟨bv, 0, none⟩)] w fun e' w' => e' = .returned (.int .i64 (if br then 70 else 0)) ∧ w' = w := by
  have c0 : w.cell? ⟨bv, 0, none⟩ = some (.pointer (some ⟨b, 0, none⟩)) := by rw [blk_cell h]; rfl
  have c3 : w.cell? ⟨bv, 3, none⟩ = some (.bool br) := by rw [blk_cell h]; rfl
  clear h
  cases br <;>
  · go_enter Tryd.func44, Tryd.ntmps44
    go_wp2_with fail
    go_ret
    exact ⟨rfl, rfl⟩
set_option maxHeartbeats 1000000 in
theorem many_20 (w : World) (bv b : Nat) (e m : Int) (br : Bool) (h : VaultAt w bv b e m br) :
    Calls Tryd.prog 20 #[.pointer (some ⟨bv, 0, none⟩)] w fun e' w' => e' = .returned (.int .i64 m) ∧ w' = w := by
  have c2 : w.cell? ⟨bv, 2, none⟩ = some (.int .i64 m) := by rw [blk_cell h]; rfl
  clear h
  go_enter Tryd.func20, Tryd.ntmps20
  go_wp2_with fail
  go_ret
  exact ⟨rfl, rfl⟩
set_option maxHeartbeats 1000000 in
theorem note_42 (w : World) (bv b : Nat) (e m : Int) (br : Bool) (h : VaultAt w bv b e m br) (x : Bs) (hx : x.length ≤ 100000000) (a : Option Addr) (n cap : Nat) :
    Calls Tryd.prog 42 #[.pointer (some ⟨bv, 0, none⟩), S x, .slice a n cap] w fun e' w' => e' = .returned (.tuple #[]) ∧ VaultAt w' bv b (if x = [] then 65 else 64 + x.length) n br ∧ Only bv w w' := by
  have c1 : w.cell? ⟨bv, 1, none⟩ = some (.int .i64 e) := by rw [blk_cell h]; rfl
  have c2 : w.cell? ⟨bv, 2, none⟩ = some (.int .i64 m) := by rw [blk_cell h]; rfl
  have f1 : w.frozen? ⟨bv, 1, none⟩ = false := blk_frozen h 1
  have f2 : w.frozen? ⟨bv, 2, none⟩ = false := blk_frozen h 2
  have H := Lib.hid h
  clear h
  by_cases h0 : x = []
  · subst h0
    go_enter Tryd.func42, Tryd.ntmps42
    go_wp2_with fail
    go_end0
    exact ⟨rfl, (blk_set (blk_set (blk_set H.out 1 _) 2 _) 1 _).trans rfl, Only.setCell (Only.setCell (Only.setCell (Only.refl bv w) 1 _) 2 _) 1 _⟩
  · have hie : List.isEmpty x = false := by simpa using h0
    go_enter Tryd.func42, Tryd.ntmps42
    go_wp2_with fail
    go_end0
    exact ⟨rfl, (blk_set (blk_set H.out 1 _) 2 _).trans rfl, Only.setCell (Only.setCell (Only.refl bv w) 1 _) 2 _⟩
abbrev stepV (p : Nat) : Value := .func (.func 63) #[] #[.pointer (some ⟨p, 0, none⟩), .pointer (some ⟨p + 1, 0, none⟩), .pointer (some ⟨p + 2, 0, none⟩)]
/-- A step that writes s at off, as write returns it: its three boxes lie in no block of F. -/
structure StepAt (F : Nat → Prop) (w : World) (fv : Value) (bv : Nat) (off : Int) (s : Bs) : Prop where
  ex : ∃ p, fv = .func (.func 63) #[] #[.pointer (some ⟨p, 0, none⟩), .pointer (some ⟨p + 1, 0, none⟩), .pointer (some ⟨p + 2, 0, none⟩)] ∧
    w.heap[p]? = some (.cells #[.pointer (some ⟨bv, 0, none⟩)] 26 (0, 0)) ∧ w.heap[p + 1]? = some (.cells #[.int .i64 off] 3 (0, 0)) ∧ w.heap[p + 2]? = some (.cells #[S s] 9 (0, 0)) ∧ ¬ F p ∧ ¬ F (p + 1) ∧ ¬ F (p + 2)
theorem StepAt.keep {F F' : Nat → Prop} {w w' : World} {fv : Value} {bv : Nat} {off : Int} {s : Bs} (h : StepAt F w fv bv off s) (hst : Step F w F' w') : StepAt F' w' fv bv off s := by
  obtain ⟨p, h1, h2, h3, h4, h5, h6, h7⟩ := h
  exact ⟨p, h1, (hst.block _ (blk_lt h2) h5).trans h2, (hst.block _ (blk_lt h3) h6).trans h3, (hst.block _ (blk_lt h4) h7).trans h4, hst.not (blk_lt h2) h5, hst.not (blk_lt h3) h6, hst.not (blk_lt h4) h7⟩
set_option maxHeartbeats 1000000 in
theorem write_39 (F : Nat → Prop) (w : World) (bv : Nat) (off : Int) (s : Bs) (hF : ∀ k, F k → k < w.heap.size) :
    Calls Tryd.prog 39 #[.pointer (some ⟨bv, 0, none⟩), .int .i64 off, S s] w fun e w' => ∃ p, e = .returned (stepV p) ∧ StepAt F w' (stepV p) bv off s ∧ Below w.heap.size w w' := by
  go_enter Tryd.func39, Tryd.ntmps39
  go_wp2_with fail
  go_ret
  have n1 := heap_alloc_new ((w.alloc (.cells #[.pointer (some ⟨bv, 0, none⟩)] 26)).alloc (.cells #[.int .i64 off] 3)) (.cells #[S s] 9)
  have n2 := heap_alloc_new (w.alloc (.cells #[.pointer (some ⟨bv, 0, none⟩)] 26)) (.cells #[.int .i64 off] 3)
  have n3 := heap_alloc_new w (.cells #[.pointer (some ⟨bv, 0, none⟩)] 26)
  simp only [World.size_alloc] at n1 n2 n3
  refine ⟨w.heap.size, rfl, ⟨w.heap.size, rfl, ?_, ?_, n1, fun h => by have := hF _ h; omega, fun h => by have := hF _ h; omega, fun h => by have := hF _ h; omega⟩, ?_⟩
  · rw [Below.heap_alloc _ _ _ (by simp; omega), Below.heap_alloc _ _ _ (by simp)]; exact n3
  · rw [Below.heap_alloc _ _ _ (by simp)]; exact n2
  · exact (((Below.refl _ w).alloc (Nat.le_refl _) _).alloc (by simp) _).alloc (by simp; omega) _
/-- Write, then Sync. -/
def wsD (D : DiskD) (off : Nat) (s : Bs) : DiskD × Int := if (writeD D off s).2 = 0 then syncD (writeD D off s).1 else writeD D off s
structure OkD (D : DiskD) : Prop where
  lo : -1 ≤ D.left
  hi : D.left ≤ 1000
  pos : D.failing = true → 0 ≤ D.left
  now : D.now.length ≤ 16777216
theorem OkD.power {D D' : DiskD} (h : OkD D) (hp : powerD D = some D') : OkD D' := by
  obtain ⟨now, syn, pcs, f, l⟩ := D
  have h3 := h.pos
  have h1 := h.lo
  have h2 := h.hi
  have h4 := h.now
  simp only [powerD] at hp
  cases f with
  | true =>
    simp only [if_true] at hp
    split at hp
    · cases hp
    · cases hp
      have := h3 rfl
      simp only at h1 h2 this h4
      exact ⟨by show -1 ≤ l - 1; omega, by show l - 1 ≤ 1000; omega, fun _ => (by show 0 ≤ l - 1; omega), h4⟩
  | false =>
    simp only [Bool.false_eq_true, if_false] at hp
    cases hp
    exact h
theorem OkD.write {D : DiskD} (h : OkD D) (off : Nat) (s : Bs) (hs : off + s.length ≤ 16777216) : OkD (writeD D off s).1 := by
  unfold writeD
  cases hp : powerD D with
  | none => exact h
  | some D' =>
    have h' := h.power hp
    exact ⟨h'.lo, h'.hi, h'.pos, by show (putR D'.now off s).length ≤ _; rw [put_len]; have := h'.now; omega⟩
theorem OkD.sync {D : DiskD} (h : OkD D) : OkD (syncD D).1 := by
  unfold syncD
  cases hp : powerD D with
  | none => exact h
  | some D' =>
    have h' := h.power hp
    exact ⟨h'.lo, h'.hi, h'.pos, h'.now⟩
theorem OkD.ws {D : DiskD} (h : OkD D) (off : Nat) (s : Bs) (hs : off + s.length ≤ 16777216) : OkD (wsD D off s).1 := by
  unfold wsD
  split
  · exact (h.write off s hs).sync
  · exact h.write off s hs
theorem write_err (D : DiskD) (off : Nat) (s : Bs) : (writeD D off s).2 = 0 ∨ (writeD D off s).2 = 70 := by
  unfold writeD; split <;> simp
theorem sync_err (D : DiskD) : (syncD D).2 = 0 ∨ (syncD D).2 = 70 := by
  unfold syncD; split <;> simp
theorem ws_err (D : DiskD) (off : Nat) (s : Bs) : (wsD D off s).2 = 0 ∨ (wsD D off s).2 = 70 := by
  unfold wsD; split
  · exact sync_err _
  · exact write_err _ _ _
theorem sync_pcs (D : DiskD) (h : (syncD D).2 = 0) : (syncD D).1.pcs = [] := by
  unfold syncD at h ⊢
  split at h
  · cases h
  · rfl
theorem ws_pcs (D : DiskD) (off : Nat) (s : Bs) (h : (wsD D off s).2 = 0) : (wsD D off s).1.pcs = [] := by
  unfold wsD at h ⊢
  split at h
  · rename_i hh; rw [if_pos hh]; exact sync_pcs _ h
  · rename_i hh; exact absurd h hh
end Go.Proofs.YtgdkdihedgiegaaDoor

namespace Go.Proofs.YtgdkdihedgiegaaDoor
open Go.RowKit

set_option maxHeartbeats 4000000 in
set_option maxRecDepth 100000 in
theorem step_63 (F : Nat → Prop) (w : World) (p bv b : Nat) (e m : Int) (br : Bool) (off : Nat) (s : Bs) (D : DiskD) (h : DiskAt F w b D) (hv : VaultAt w bv b e m br) (hvF : ¬ F bv)
    (h0 : w.heap[p]? = some (.cells #[.pointer (some ⟨bv, 0, none⟩)] 26 (0, 0))) (h1 : w.heap[p + 1]? = some (.cells #[.int .i64 off] 3 (0, 0))) (h2 : w.heap[p + 2]? = some (.cells #[S s] 9 (0, 0))) (hp : ¬ F p)
    (hok : OkD D) (hs : off + s.length ≤ 16777216) (hpc : D.pcs.length ≤ 1000000) :
    Calls Tryd.prog 63 #[.pointer (some ⟨p, 0, none⟩), .pointer (some ⟨p + 1, 0, none⟩), .pointer (some ⟨p + 2, 0, none⟩)] w fun e' w' => e' = .returned (.int .i64 (wsD D off s).2) ∧ ∃ F', DiskAt F' w' b (wsD D off s).1 ∧ Step F w F' w' := by
  have HW := Lib.hid (fun W (hd : DiskAt F W b D) => write_50 F W b D hd ⟨hok.lo, hok.hi⟩ off s hs hok.now hpc)
  have HK := Lib.hid (hok.write off s hs)
  have c0 : w.cell? ⟨p, 0, none⟩ = some (.pointer (some ⟨bv, 0, none⟩)) := by rw [blk_cell h0]; rfl
  have c1 : w.cell? ⟨p + 1, 0, none⟩ = some (.int .i64 off) := by rw [blk_cell h1]; rfl
  have c2 : w.cell? ⟨p + 2, 0, none⟩ = some (S s) := by rw [blk_cell h2]; rfl
  have k0 : w.cell? ⟨bv, 0, none⟩ = some (.pointer (some ⟨b, 0, none⟩)) := by rw [blk_cell hv]; rfl
  have H := Lib.hid h
  have L0 := Lib.hid (blk_lt h0)
  have LV := Lib.hid (blk_lt hv)
  have HP := Lib.hid hp
  have HVF := Lib.hid hvF
  clear h hv hvF h0 h1 h2 hp hok hs hpc
  rcases write_err D off s with hE | hE
  · have HE : Hid (wsD D off s = syncD (writeD D off s).1) := by show _ = _; unfold wsD; rw [if_pos hE]
    rw [HE.out]
    rw [hE] at HW
    clear hE
    generalize (writeD D off s).1 = D1 at *
    go_enter Tryd.func63, Tryd.ntmps63
    go_wp2_with fail
    go_still_tail 6, (by kernel_rfl)
    go_wp2_with (go_at_call 50; ((with_reducible refine Calls.mono (HW.out _ (H.out.keep (fun _ _ => rfl) (Nat.le_refl _))) ?_); rintro e' w1 ⟨rfl, F1, hd1, hs1⟩; have HD1 := Lib.hid hd1; have HS1 := Lib.hid hs1; have c0' : w1.cell? ⟨p, 0, none⟩ = some (.pointer (some ⟨bv, 0, none⟩)) := ((hs1.cell L0.out HP.out 0).trans c0); have k0' : w1.cell? ⟨bv, 0, none⟩ = some (.pointer (some ⟨b, 0, none⟩)) := ((hs1.cell LV.out HVF.out 0).trans k0); clear hd1 hs1))
    all_goals
      go_wp2_with (go_at_call 32; ((with_reducible refine Calls.mono (sync_32 F1 _ b D1 HD1.out ⟨HK.out.lo, HK.out.hi⟩ (by have := HK.out.now; omega)) ?_); rintro e' w2 ⟨rfl, F2, hd2, hs2⟩; have HD2 := Lib.hid hd2; have HS2 := Lib.hid hs2; clear hd2 hs2))
      go_ret
      exact ⟨rfl, F2, HD2.out, ((Step.of_below (Below.refl _ _).drew).trans HS1.out).trans HS2.out⟩
  · have HE : Hid (wsD D off s = ((writeD D off s).1, 70)) := by show _ = _; unfold wsD; rw [if_neg (by rw [hE]; decide), ← hE]
    rw [HE.out]
    rw [hE] at HW
    clear hE
    generalize (writeD D off s).1 = D1 at *
    go_enter Tryd.func63, Tryd.ntmps63
    go_wp2_with fail
    go_still_tail 6, (by kernel_rfl)
    go_wp2_with (go_at_call 50; ((with_reducible refine Calls.mono (HW.out _ (H.out.keep (fun _ _ => rfl) (Nat.le_refl _))) ?_); rintro e' w1 ⟨rfl, F1, hd1, hs1⟩; have HD1 := Lib.hid hd1; have HS1 := Lib.hid hs1; clear hd1 hs1))
    all_goals
      go_wp2_with fail
      go_ret
      exact ⟨rfl, F1, HD1.out, (Step.of_below (Below.refl _ _).drew).trans HS1.out⟩
/-- Steps, one behind the other, up to the first error. -/
def runD (D : DiskD) : List (Nat × Bs) → DiskD × Int
  | [] => (D, 0)
  | q :: l => if (wsD D q.1 q.2).2 = 0 then runD (wsD D q.1 q.2).1 l else wsD D q.1 q.2
/-- A slice of steps, in a row of the call's own. -/
structure StepsAt (F : Nat → Prop) (w : World) (bv : Nat) (v : Value) (l : List (Nat × Bs)) : Prop where
  ex : ∃ qs : List ((Nat × Bs) × Value), qs.map (·.1) = l ∧ w.ownsRow 0 72 1 v l.length (qs.map (·.2)) ∧ (∀ q ∈ qs, q.2.oneCell' = true ∧ StepAt F w q.2 bv q.1.1 q.1.2) ∧ ∀ k, v.ownBlock = some k → ¬ F k
theorem StepsAt.keep {F F' : Nat → Prop} {w w' : World} {bv : Nat} {v : Value} {l : List (Nat × Bs)} (h : StepsAt F w bv v l) (hst : Step F w F' w') : StepsAt F' w' bv v l := by
  obtain ⟨qs, h1, h2, h3, h4⟩ := h
  exact ⟨qs, h1, row_far h2 (fun g hg => hst.block g (row_lt h2 g hg) (h4 g hg)), fun q hq => ⟨(h3 q hq).1, (h3 q hq).2.keep hst⟩, fun k hk => hst.not (row_lt h2 k hk) (h4 k hk)⟩
/-- A vault and its disk. -/
structure VD (F : Nat → Prop) (w : World) (bv b : Nat) (e m : Int) (br : Bool) (D : DiskD) : Prop where
  disk : DiskAt F w b D
  vault : VaultAt w bv b e m br
  nf : ¬ F bv
/-- The footprint of a vault and its disk. -/
def With (F : Nat → Prop) (bv : Nat) (k : Nat) : Prop := F k ∨ k = bv
theorem Step.more {F F' : Nat → Prop} {w w' : World} (h : Step F w F' w') (bv : Nat) : Step (With F bv) w (With F' bv) w' :=
  ⟨h.os, h.tape, h.output, h.size, fun k hk hn => h.block k hk (fun e => hn (.inl e)), fun k hk => by
    rcases hk with hk | hk
    · rcases h.new k hk with h1 | h1
      · exact .inl (.inl h1)
      · exact .inr h1
    · exact .inl (.inr hk)⟩
theorem Step.only_more {F : Nat → Prop} {w w' : World} {bv : Nat} (h : Only bv w w') : Step (With F bv) w (With F bv) w' :=
  Step.of_only h (.inr rfl)
theorem VD.step {F F' : Nat → Prop} {w w' : World} {bv b : Nat} {e m : Int} {br : Bool} {D D' : DiskD} (h : VD F w bv b e m br D) (hd : DiskAt F' w' b D') (hs : Step F w F' w') : VD F' w' bv b e m br D' :=
  ⟨hd, (hs.block bv (blk_lt h.vault) h.nf).trans h.vault, hs.not (blk_lt h.vault) h.nf⟩
theorem VD.only {F : Nat → Prop} {w w' : World} {bv b : Nat} {e m e' m' : Int} {br br' : Bool} {D : DiskD} (h : VD F w bv b e m br D) (ho : Only bv w w') (hv : VaultAt w' bv b e' m' br') : VD F w' bv b e' m' br' D :=
  ⟨h.disk.keep (fun k hk => ho.block k (fun e => h.nf (e ▸ hk))) (by rw [ho.size]; exact Nat.le_refl _), hv, h.nf⟩
theorem VD.below {F : Nat → Prop} {w w' : World} {bv b : Nat} {e m : Int} {br : Bool} {D : DiskD} (h : VD F w bv b e m br D) (hb : Below w.heap.size w w') : VD F w' bv b e m br D :=
  ⟨h.disk.below hb, (hb.block bv (blk_lt h.vault)).trans h.vault, h.nf⟩
/-- The post of do. -/
def RunPost (F : Nat → Prop) (bv b : Nat) (e m : Int) (br : Bool) (r : DiskD × Int) (w : World) (e' : Ending) (w' : World) : Prop :=
  e' = .returned (.int .i64 r.2) ∧ ∃ F', VD F' w' bv b e m (br || decide (r.2 = 70)) r.1 ∧ Step (With F bv) w (With F' bv) w'
end Go.Proofs.YtgdkdihedgiegaaDoor

namespace Go.Proofs.YtgdkdihedgiegaaDoor
open Go.RowKit

set_option maxHeartbeats 4000000 in
set_option maxRecDepth 100000 in
theorem do_41 (F : Nat → Prop) (w : World) (bv b : Nat) (e m : Int) (br : Bool) (D : DiskD) (h : VD F w bv b e m br D) (hok : OkD D) (hpc : D.pcs.length ≤ 1000000) (sv : Value) (l : List (Nat × Bs)) (hl : StepsAt F w bv sv l) (hln : l.length ≤ 1000)
    (hs : ∀ q ∈ l, q.1 + q.2.length ≤ 16777216) : Calls Tryd.prog 41 #[.pointer (some ⟨bv, 0, none⟩), sv] w (RunPost F bv b e m br (runD D l) w) := by
  obtain ⟨qs, h1, h2, h3, h4⟩ := hl
  have hql : qs.length = l.length := by rw [← h1, List.length_map]
  have HQL := Lib.hid hql
  have H := Lib.hid h
  have HR := Lib.hid h2
  have HQ := Lib.hid h3
  have HN4 := Lib.hid h4
  have HS := Lib.hid hs
  have H1 := Lib.hid h1
  obtain ⟨a, cap, rfl⟩ := row_shape h2
  obtain ⟨n, hn⟩ : ∃ n, n = l.length := ⟨_, rfl⟩
  rw [← hn] at HR HN4 HQL hln ⊢
  have HN := Lib.hid hn
  have HOK := Lib.hid hok
  clear h h1 h2 h3 h4 hs hql hn hok
  go_enter Tryd.func41, Tryd.ntmps41
  go_wp2_with fail
  go_loopw [10] (fun i wr => ∃ (k : Nat) (Dk : DiskD) (Fk : Nat → Prop), i = .int .i64 k ∧ k ≤ n ∧ Hid (VD Fk wr bv b e m br Dk) ∧ Hid (Step F w Fk wr) ∧ Hid (OkD Dk) ∧ Hid (Dk.pcs.length ≤ 1000000) ∧ Hid (runD D l = runD Dk (l.drop k))) (fun i _ => n - (intOf i).toNat)
  case atStart => exact ⟨0, D, F, rfl, Nat.zero_le _, H.out, Step.refl F w, HOK.out, hpc, rfl⟩
  case round =>
    obtain ⟨k, Dk, Fk, rfl, hk, HV, HST, HO, HP, HRR⟩ := hrel
    by_cases hlt : k < n
    · have hkl : k < l.length := by rw [← HN.out]; exact hlt
      have hkq : k < qs.length := by rw [HQL.out]; exact hlt
      have hlq : l[k] = qs[k].1 := by
        have := congrArg (fun x : List (Nat × Bs) => x[k]?) H1.out
        simp only [List.getElem?_map, List.getElem?_eq_getElem hkq, List.getElem?_eq_getElem hkl, Option.map_some] at this
        injection this with this
        exact this.symm
      obtain ⟨off, s, hos⟩ : ∃ off s, l[k] = (off, s) := ⟨_, _, rfl⟩
      obtain ⟨fv, hfv⟩ : ∃ fv, qs[k].2 = fv := ⟨_, rfl⟩
      have hqk := (HQ.out qs[k] (List.getElem_mem hkq)).2
      rw [hfv, ← hlq, hos] at hqk
      have hqk := hqk.keep HST.out
      obtain ⟨p, rfl, b0, b1, b2, nf, _, _⟩ := hqk
      have hss : off + s.length ≤ 16777216 := by have := HS.out l[k] (List.getElem_mem hkl); rw [hos] at this; exact this
      rcases HR.out.2 with ⟨_, hn0⟩ | ⟨g, cp, cur, hv, _⟩
      · omega
      injection hv with hv1 hv2 hv3
      subst hv1 hv3
      have hcell : wr.cell? ⟨g, k, none⟩ = some (.func (.func 63) #[] #[.pointer (some ⟨p, 0, none⟩), .pointer (some ⟨p + 1, 0, none⟩), .pointer (some ⟨p + 2, 0, none⟩)]) := by
        rw [HST.out.cell (row_lt HR.out g rfl) (HN4.out g rfl)]
        have := HR.out.cells (g := g) rfl k qs[k].2 (by simp [hkq])
        rw [add_lit, Nat.zero_add] at this
        rw [this, hfv]
      have HC := Lib.hid (step_63 Fk wr p bv b e m br off s Dk HV.out.disk HV.out.vault HV.out.nf b0 b1 b2 nf HO.out hss HP.out)
      have hrun : runD Dk (l.drop k) = if (wsD Dk off s).2 = 0 then runD (wsD Dk off s).1 (l.drop (k + 1)) else wsD Dk off s := by
        rw [List.drop_eq_getElem_cons hkl, hos]; rfl
      have HRN := Lib.hid hrun
      have HSS := Lib.hid hss
      clear hfv hos hlq hkl hkq b0 b1 b2 nf hss hrun
      rcases ws_err Dk off s with hE | hE
      · have hrn := HRN.out
        rw [if_pos hE] at hrn
        have HRN2 := Lib.hid hrn
        have HPC2 := Lib.hid (ws_pcs Dk off s hE)
        have HOK2 := Lib.hid (HO.out.ws off s HSS.out)
        rw [hE] at HC
        clear hE hrn
        generalize (wsD Dk off s).1 = D2 at *
        go_wp2_with (go_at_call 63; ((with_reducible refine Calls.mono HC.out ?_); rintro e' w2 ⟨rfl, F2, hd2, hs2⟩; have HD2 := Lib.hid hd2; have HS2 := Lib.hid hs2; clear hd2 hs2))
        go_roundw
        case rel => exact ⟨k + 1, D2, F2, by go_num, hlt, HV.out.step HD2.out HS2.out, HST.out.trans HS2.out, HOK2.out, (by show _ ≤ _; rw [HPC2.out]; simp), HRR.out.trans HRN2.out⟩
        case measure => simp [intOf]; omega
      · have hrn := HRN.out
        rw [if_neg (by rw [hE]; decide)] at hrn
        have HRN2 := Lib.hid hrn
        have hpair : wsD Dk off s = ((wsD Dk off s).1, 70) := by rw [← hE]
        have HPR := Lib.hid hpair
        rw [hE] at HC
        clear hE hrn hpair
        generalize hD2 : (wsD Dk off s).1 = D2 at *
        clear hD2
        go_wp2_with (go_at_call 63; ((with_reducible refine Calls.mono HC.out ?_); rintro e' w2 ⟨rfl, F2, hd2, hs2⟩; have HV2 := Lib.hid (HV.out.step hd2 hs2); have HS2 := Lib.hid hs2; have k3 : w2.cell? ⟨bv, 3, none⟩ = some (.bool br) := (by rw [blk_cell HV2.out.vault]; rfl); have f3 : w2.frozen? ⟨bv, 3, none⟩ = false := blk_frozen HV2.out.vault 3; clear hd2 hs2))
        all_goals
          go_ret
          rw [HRR.out, HRN2.out, HPR.out]
          refine ⟨rfl, F2, ?_, (HST.out.trans HS2.out).more bv |>.trans (Step.only_more (Only.setCell (Only.refl bv w2) 3 _))⟩
          have ht : (br || decide ((70 : Int) = 70)) = true := by simp
          rw [ht]
          exact HV2.out.only (Only.setCell (Only.refl bv w2) 3 _) ((blk_set HV2.out.vault 3 _).trans rfl)
    · obtain rfl : k = n := by omega
      have hrun : runD D l = (Dk, 0) := by rw [HRR.out, HN.out, List.drop_length]; rfl
      have HX := Lib.hid hrun
      clear hrun
      go_wp2_with fail
      go_ret
      rw [HX.out]
      refine ⟨rfl, Fk, ?_, HST.out.more bv⟩
      have ht : (br || decide ((0 : Int) = 70)) = br := by simp
      rw [ht]
      exact HV.out
end Go.Proofs.YtgdkdihedgiegaaDoor
