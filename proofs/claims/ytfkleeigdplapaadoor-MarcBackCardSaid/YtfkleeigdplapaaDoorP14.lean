/-
  The walk of the program's Parse where the leader is wrong; words for its memory.
-/
import Derived.Test.YtfkleeigdplapaaDoorP11
import Derived.Test.YtfkleeigdplapaaDoorP12
import Derived.Test.YtfkleeigdplapaaDoorW14
import Derived.Test.YtfkleeigdplapaaDoorP9
namespace Go.Proofs.YtfkleeigdplapaaDoor
open Go.RowKit

theorem below3 (w : World) (o1 o2 o3 : Obj) : Below w.heap.size w (((w.alloc o1).alloc o2).alloc o3) := (((Below.refl _ w).alloc (Nat.le_refl _) o1).alloc (by simp) o2).alloc (by simp; omega) o3
/-- The three results of Parse: the record under way, the offset, the error. -/
structure PCells (B : Nat) (w : World) (kd lv : UInt8) (v : Value) : Prop where
  c0 : w.cell? ⟨B, 0, none⟩ = some (.int .u8 kd.toNat)
  c1 : w.cell? ⟨B, 1, none⟩ = some (.int .u8 lv.toNat)
  c2 : w.cell? ⟨B, 2, none⟩ = some v
  c3 : w.cell? ⟨B + 1, 0, none⟩ = some (.int .i64 0)
  c4 : w.cell? ⟨B + 2, 0, none⟩ = some (.int .i64 0)
  f0 : w.frozen? ⟨B, 0, none⟩ = false
  f1 : w.frozen? ⟨B, 1, none⟩ = false
  f2 : w.frozen? ⟨B, 2, none⟩ = false
  f3 : w.frozen? ⟨B + 1, 0, none⟩ = false
  f4 : w.frozen? ⟨B + 2, 0, none⟩ = false
theorem PCells.of {B : Nat} {w w' : World} {kd lv : UInt8} {v : Value} (h : PCells B w kd lv v) (hb : ∀ k, B ≤ k → k < B + 3 → w'.heap[k]? = w.heap[k]?) : PCells B w' kd lv v := by
  have hc : ∀ k i, B ≤ k → k < B + 3 → w'.cell? ⟨k, i, none⟩ = w.cell? ⟨k, i, none⟩ := fun k i h1 h2 => World.cell?_of_block (w := w) (hb k h1 h2)
  have hf : ∀ k i, B ≤ k → k < B + 3 → w'.frozen? ⟨k, i, none⟩ = w.frozen? ⟨k, i, none⟩ := fun k i h1 h2 => World.frozen?_of_block (w := w) (hb k h1 h2)
  exact ⟨by rw [hc _ _ (by omega) (by omega)]; exact h.c0, by rw [hc _ _ (by omega) (by omega)]; exact h.c1, by rw [hc _ _ (by omega) (by omega)]; exact h.c2, by rw [hc _ _ (by omega) (by omega)]; exact h.c3, by rw [hc _ _ (by omega) (by omega)]; exact h.c4,
    by rw [hf _ _ (by omega) (by omega)]; exact h.f0, by rw [hf _ _ (by omega) (by omega)]; exact h.f1, by rw [hf _ _ (by omega) (by omega)]; exact h.f2, by rw [hf _ _ (by omega) (by omega)]; exact h.f3, by rw [hf _ _ (by omega) (by omega)]; exact h.f4⟩
theorem PCells.put {B : Nat} {w : World} {kd lv : UInt8} {v : Value} (h : PCells B w kd lv v) (v' : Value) : PCells B (w.setCell ⟨B, 2, none⟩ v') kd lv v' := by
  obtain ⟨c0, c1, c2, c3, c4, f0, f1, f2, f3, f4⟩ := h
  constructor <;> first | (rw [setCell_frozen]; assumption) | go_simp
structure PSt (B H : Nat) (w0 wr : World) (kd lv : UInt8) (v : Value) (fs : List FieldD) (ev : Value) (L : List Ent) : Prop where
  below : Below B w0 wr
  big : H ≤ wr.heap.size
  bh : B + 3 ≤ H
  cells : PCells B wr kd lv v
  own : RecOwn H wr v fs
  ents : SliceAt (B + 3) H wr ev L.length (L.flatMap entCells)
theorem PSt.keep {B H : Nat} {w0 wr w' : World} {kd lv : UInt8} {v : Value} {fs : List FieldD} {ev : Value} {L : List Ent} (h : PSt B H w0 wr kd lv v fs ev L) (hb : Below wr.heap.size wr w') : PSt B H w0 w' kd lv v fs ev L := by
  have h1 := h.big
  have h2 := h.bh
  exact ⟨btr h.below hb (by omega), Nat.le_trans h.big hb.size, h.bh, h.cells.of (fun k _ hk => hb.block k (by omega)), h.own.keep (fun k _ hk => hb.block k hk) hb.size, h.ents.kept (fun k _ hk => hb.block k (by omega))⟩
theorem PSt.app {B H : Nat} {w0 wx w2 : World} {kd lv : UInt8} {v v' : Value} {fs : List FieldD} {ev : Value} {L : List Ent} (h : PSt B H w0 wx kd lv v fs ev L) (o : Obj) (f : FieldD) (d : Value) (ps : List (FieldD × Value)) (h1 : ps.map (·.1) = fs) (h2 : ∀ p ∈ ps, SubsOff H v.ownBlock wx p.2 p.1.subs)
    (h3 : wx.ownsRow H 57 4 v fs.length (ps.flatMap fieldCells)) (hd : SubsOff H v.ownBlock wx d f.subs)
    (hown : w2.ownsRow H 57 4 v' (fs.length + 1) (ps.flatMap fieldCells ++ fieldCells (f, d))) (hg : (wx.alloc o).grownBy w2 v.ownBlock) (hv : v'.ownBlock = v.ownBlock ∨ v'.ownBlock = some (wx.alloc o).heap.size) :
    PSt B H w0 (w2.setCell ⟨B, 2, none⟩ v') kd lv v' (fs ++ [f]) ev L := by
  have hbg := h.big
  have hbh := h.bh
  have st : ∀ {x : Value} {ss : List SubD}, SubsOff H v.ownBlock wx x ss → SubsOff H v.ownBlock (wx.alloc o) x ss := fun h =>
    h.step (fun k _ hk _ => Below.heap_alloc wx o k hk) (by simp) (.inl rfl)
  have hr := RecOwn.app f d ps h1 (fun p hp => st (h2 p hp)) (st hd) hown hg hv
  have hk : ∀ k, k < H → w2.heap[k]? = wx.heap[k]? := fun k hk => by
    rw [hg.block k (by simp; omega) (by intro e; have := (h3.lt k e.symm).1; omega)]
    exact Below.heap_alloc wx o k (by omega)
  have hz : wx.heap.size ≤ w2.heap.size := by have := hg.size; simp at this; omega
  have hb2 : Below B w0 w2 := ⟨hg.os.trans h.below.os, hg.tape.trans h.below.tape, hg.output.trans h.below.output, Nat.le_trans h.below.size hz, fun k hk' => (hk k (by omega)).trans (h.below.block k hk')⟩
  refine ⟨hb2.setCell (by simp) _, by simpa using Nat.le_trans hbg hz, hbh, (h.cells.of (fun k _ hk' => hk k (by omega))).put v', hr.keep (fun k hk' _ => Below.heap_setCell _ _ _ _ (by simp; omega)) (by simp), ?_⟩
  exact (h.ents.kept (fun k _ hk' => hk k hk')).kept (fun k hk' _ => Below.heap_setCell _ _ _ _ (by simp; omega))
/-- An entry's three cells. -/
theorem ents_at {lo hi : Nat} {w : World} {v : Value} {L : List Ent} (h : SliceAt lo hi w v L.length (L.flatMap entCells)) (i : Nat) (hi' : i < L.length) :
    ∃ b off cap, v = .slice (some ⟨b, off, none⟩) L.length cap ∧ lo ≤ b ∧ b < hi ∧ w.cell? ⟨b, off + i * 3, none⟩ = some (S L[i].1) ∧ w.cell? ⟨b, off + i * 3 + 1, none⟩ = some (.int .i64 L[i].2.2) ∧ w.cell? ⟨b, off + i * 3 + 2, none⟩ = some (.int .i64 L[i].2.1) := by
  obtain ⟨a, cap, hv, h⟩ := h
  have hne : L.flatMap entCells ≠ [] := by
    cases L with
    | nil => simp at hi'
    | cons s l => simp [entCells]
  obtain ⟨b, off, ha, h1, h2, h3⟩ := h hne
  subst ha
  have e0 := flat2 entCells 3 (fun _ => rfl) L i hi' 0 (by omega)
  have e1 := flat2 entCells 3 (fun _ => rfl) L i hi' 1 (by omega)
  have e2 := flat2 entCells 3 (fun _ => rfl) L i hi' 2 (by omega)
  exact ⟨b, off, cap, hv, h1, h2, h3 _ _ e0, by rw [Nat.add_assoc]; exact h3 _ _ e1, by rw [Nat.add_assoc]; exact h3 _ _ e2⟩
/-- The program's field, in the reference's words. -/
def FieldPostR (tag s : Bs) (a t b : Nat) (w : World) (e : Ending) (w' : World) : Prop :=
  match fieldR tag (sub3 s a t) with
  | .ok f => w.grownBy w' (some b) ∧ ∃ d, e = .returned (fieldV f d) ∧ SubsAt w.heap.size w'.heap.size w' d f.subs
  | .error j => FailAt ((a : Int) + j) b w e w'
theorem field_R (tag s : Bs) (a t b : Nat) (w : World) (h : RdAt w b s a t) (hT : Tabs w) (hb2 : 2 ≤ b) (ha : a < t) (hts : t ≤ s.length) (hl : t ≤ 1000000000) :
    Calls Tryd.prog 47 #[.pointer (some ⟨b, 0, none⟩), S tag] w (FieldPostR tag s a t b w) := by
  refine (field_47 tag s a t b w h hT hb2 (by omega) (by omega) hts hl).mono fun e w' he => ?_
  unfold FieldPostA at he
  unfold FieldPostR
  rw [law_field tag s a t ha hts] at he
  cases hr : fieldR tag (sub3 s a t) with
  | ok f => rw [hr] at he; exact he
  | error j => rw [hr] at he; exact he
set_option maxHeartbeats 4000000 in
set_option maxRecDepth 100000 in
theorem parse_18_lead (l : Bs) (w : World) (hl : l.length ≤ 1000000) (he : (leaderR l).2 ≠ 0) : Calls Tryd.prog 18 #[S l] w (ParsePost l w) := by
  obtain ⟨a0, ha0⟩ : ∃ a, (leaderR l).1 = a := ⟨_, rfl⟩
  obtain ⟨e0, he0⟩ : ∃ a, (leaderR l).2 = a := ⟨_, rfl⟩
  have HE : Hid (parseR l = (zeroR, a0, e0)) := by unfold parseR; rw [if_pos he, ← ha0, ← he0]; rfl
  have H45 : Hid (∀ W, Calls Tryd.prog 45 #[S l] W fun e w' => e = failV a0 e0 ∧ Below W.heap.size W w') := fun W => (leader_45 l W (by omega)).mono fun e w' h => by
    obtain ⟨h1, ⟨h2, _⟩ | ⟨_, h3⟩⟩ := h
    · exact absurd h2.out he
    · rw [ha0, he0] at h3; exact ⟨h3, h1⟩
  clear he ha0 he0
  have hmf : ∀ (fn : Fn) (first cap : Array Value) (w : World), (Instr.makeFunc fn first cap).run Tryd.prog w = .ok (.func fn first cap) w := fun _ _ _ _ => rfl
  go_enter_defers Tryd.func18, Tryd.ntmps18
  go_wp2_with (go_at_call 45; ((with_reducible refine Calls.mono (H45.out _) ?_); rintro e w1 ⟨rfl, hb1⟩))
  obtain ⟨hcc, hff⟩ := bcell hb1
  refine leaves_cons (f := 44) (args := #[.pointer (some ⟨w.heap.size, 0, none⟩), .pointer (some ⟨w.heap.size + 1, 0, none⟩), .pointer (some ⟨w.heap.size + 2, 0, none⟩)]) (by simp) (by simp [go_sem]) ?_
  refine (catch_panic w.heap.size (w.heap.size + 1) (w.heap.size + 2) a0 e0 0 0 0 0 none 0 0 w1 (by go_simp) (by go_simp) (by go_simp) (by go_simp) (by go_simp) (by go_simp) (by go_simp) (by go_simp) (by go_simp) (by go_simp) (by omega) (by omega) (by omega)).mono ?_
  rintro e' u' w'' ⟨rfl, rfl, hc⟩
  clear hcc hff hmf
  obtain ⟨d0, d1, d2, d3, d4, hbel⟩ := hc
  simp [Leaves, settle, results, Tryd.results18, go_sem, d0, d1, d2, d3, d4]
  exact parsePost_err HE.out (btr (btr (below3 w _ _ _) hb1 (by simp; omega)) (hbel w.heap.size (Nat.le_refl _) (by omega) (by omega) (by have := hb1.size; simp at this; omega)) (Nat.le_refl _)) rfl
end Go.Proofs.YtfkleeigdplapaaDoor
