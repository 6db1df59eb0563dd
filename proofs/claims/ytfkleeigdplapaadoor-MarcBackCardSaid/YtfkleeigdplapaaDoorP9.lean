/-
  The field of the program, as a plain function of a record's bytes; the walk of the reader's end.
  The memory of the program's field: the result's block, the local field's block, the subfields' own row; the reader lies in an older block, which the call writes.
  The walk of the program's field: a control field.
  Plain law: the program's field and the reference's field say the same of the bytes of a field.
-/
import Derived.Test.YtfkleeigdplapaaDoorP8
import Derived.Test.YtfkleeigdplapaaDoorFld
namespace Go.Proofs.YtfkleeigdplapaaDoor
open Go.RowKit

def takeA (p : UInt8 → Bool) (s : Bs) (t k : Nat) : Except Int UInt8 := if k < t ∧ p (s.getD k 0) = true then .ok (s.getD k 0) else .error (min (k : Int) ((t : Int) - 1))
def textA (s : Bs) (t k : Nat) : Except Int Nat := match textR ((s.take t).drop k) with
  | .ok n => .ok (k + n)
  | .error j => .error (min ((k : Int) + j) ((t : Int) - 1))
def endA (s : Bs) (t k : Nat) : Except Int Unit := (takeA endB s t k).bind fun _ => if k + 1 < t then .error (min ((k : Int) + 1) ((t : Int) - 1)) else .ok ()
def subA (s : Bs) (t k : Nat) : Except Int (SubD × Nat) := (takeA delimB s t k).bind fun _ => (takeA signB s t (k + 1)).bind fun c => (textA s t (k + 2)).bind fun n => .ok (⟨c, (s.take n).drop (k + 2)⟩, n)
def moreB (s : Bs) (t k : Nat) (acc : List SubD) : Bool := acc.isEmpty || (decide (k < t) && delimB (s.getD k 0))
def subsA : Nat → Bs → Nat → Nat → List SubD → Except Int (List SubD × Nat)
  | 0, _, _, k, acc => .ok (acc, k)
  | f + 1, s, t, k, acc => if moreB s t k acc then (subA s t k).bind fun r => subsA f s t r.2 (acc ++ [r.1]) else .ok (acc, k)
def fieldA (tag s : Bs) (a t : Nat) : Except Int FieldD :=
  if ctrlB tag then (textA s t a).bind fun k => (endA s t k).bind fun _ => .ok ⟨tag, [], (s.take k).drop a, []⟩
  else (takeA indicB s t a).bind fun c => (takeA indicB s t (a + 1)).bind fun d => (subsA (t + 1) s t (a + 2) []).bind fun r => (endA s t r.2).bind fun _ => .ok ⟨tag, [c, d], [], r.1⟩

/-- What take leaves, as the plain function says. -/
def TakePost (p : UInt8 → Bool) (b : Nat) (s : Bs) (a t : Nat) (w : World) (e : Ending) (w' : World) : Prop :=
  match takeA p s t a with
  | .ok c => e = .returned (.int .u8 c.toNat) ∧ a < t ∧ RdAt w' b s (a + 1) t ∧ w.grownBy w' (some b)
  | .error j => FailAt j b w e w'
theorem take_any (p : UInt8 → Bool) (N : Nat) (b : Nat) (s : Bs) (a t : Nat) (w : World)
    (hok : a < t → p (s.getD a 0) = true → Calls Tryd.prog 68 #[.pointer (some ⟨b, 0, none⟩), .func (.func N) #[] #[]] w (TakeOk b s a t w))
    (hbad : (a < t → p (s.getD a 0) = false) → Calls Tryd.prog 68 #[.pointer (some ⟨b, 0, none⟩), .func (.func N) #[] #[]] w (FailAt (min (a : Int) ((t : Int) - 1)) b w)) :
    Calls Tryd.prog 68 #[.pointer (some ⟨b, 0, none⟩), .func (.func N) #[] #[]] w (TakePost p b s a t w) := by
  by_cases h : a < t ∧ p (s.getD a 0) = true
  · refine (hok h.1 h.2).mono fun e w' he => ?_
    unfold TakePost takeA; rw [if_pos h]; exact ⟨he.1, h.1, he.2.1, he.2.2⟩
  · refine (hbad (fun ha => by cases hp : p (s.getD a 0) with
      | true => exact absurd ⟨ha, hp⟩ h
      | false => rfl)).mono fun e w' he => ?_
    unfold TakePost takeA; rw [if_neg h]; exact he
theorem take_59 (b : Nat) (s : Bs) (a t : Nat) (w : World) (h : RdAt w b s a t) (ht : 1 ≤ t) (hts : t ≤ s.length) (hl : t ≤ 1000000000) :
    Calls Tryd.prog 68 #[.pointer (some ⟨b, 0, none⟩), .func (.func 59) #[] #[]] w (TakePost indicB b s a t w) :=
  take_any _ _ _ _ _ _ _ (fun ha hp => take_59_ok b s a t w h ha hts hl hp) (fun hp => take_59_bad b s a t w h ht hts hl hp)
theorem take_62 (b : Nat) (s : Bs) (a t : Nat) (w : World) (h : RdAt w b s a t) (ht : 1 ≤ t) (hts : t ≤ s.length) (hl : t ≤ 1000000000) :
    Calls Tryd.prog 68 #[.pointer (some ⟨b, 0, none⟩), .func (.func 62) #[] #[]] w (TakePost signB b s a t w) :=
  take_any _ _ _ _ _ _ _ (fun ha hp => take_62_ok b s a t w h ha hts hl hp) (fun hp => take_62_bad b s a t w h ht hts hl hp)
theorem take_69 (b : Nat) (s : Bs) (a t : Nat) (w : World) (h : RdAt w b s a t) (ht : 1 ≤ t) (hts : t ≤ s.length) (hl : t ≤ 1000000000) :
    Calls Tryd.prog 68 #[.pointer (some ⟨b, 0, none⟩), .func (.func 69) #[] #[]] w (TakePost delimB b s a t w) :=
  take_any _ _ _ _ _ _ _ (fun ha hp => take_69_ok b s a t w h ha hts hl hp) (fun hp => take_69_bad b s a t w h ht hts hl hp)
theorem take_84 (b : Nat) (s : Bs) (a t : Nat) (w : World) (h : RdAt w b s a t) (ht : 1 ≤ t) (hts : t ≤ s.length) (hl : t ≤ 1000000000) :
    Calls Tryd.prog 68 #[.pointer (some ⟨b, 0, none⟩), .func (.func 84) #[] #[]] w (TakePost endB b s a t w) :=
  take_any _ _ _ _ _ _ _ (fun ha hp => take_84_ok b s a t w h ha hts hl hp) (fun hp => take_84_bad b s a t w h ht hts hl hp)
def TextPostA (b : Nat) (s : Bs) (a t : Nat) (w : World) (e : Ending) (w' : World) : Prop :=
  match textA s t a with
  | .ok k => e = .returned (S ((s.take k).drop a)) ∧ a ≤ k ∧ k ≤ t ∧ RdAt w' b s k t ∧ w.grownBy w' (some b)
  | .error j => FailAt j b w e w'
theorem text_A (b : Nat) (s : Bs) (a t : Nat) (w : World) (h : RdAt w b s a t) (hT : Tabs w) (hb2 : 2 ≤ b) (ha : a ≤ t) (ht : 1 ≤ t) (hts : t ≤ s.length) (hl : t ≤ 1000000000) :
    Calls Tryd.prog 66 #[.pointer (some ⟨b, 0, none⟩)] w (TextPostA b s a t w) := by
  refine (text_66 b s a t w h hT hb2 ha ht hts hl).mono fun e w' he => ?_
  unfold TextPost at he
  unfold TextPostA textA
  cases hr : textR ((s.take t).drop a) with
  | ok n => rw [hr] at he; exact ⟨he.1, by omega, he.2.1, he.2.2.1, he.2.2.2⟩
  | error j => rw [hr] at he; exact he

def EndPost (b : Nat) (s : Bs) (a t : Nat) (w : World) (e : Ending) (w' : World) : Prop :=
  match endA s t a with
  | .ok _ => e = .returned (.tuple #[]) ∧ RdAt w' b s (a + 1) t ∧ w.grownBy w' (some b)
  | .error j => FailAt j b w e w'
theorem endPost_err {b : Nat} {s : Bs} {a t : Nat} {w w' : World} {e : Ending} {j : Int} (h : endA s t a = .error j) (he : FailAt j b w e w') : EndPost b s a t w e w' := by unfold EndPost; rw [h]; exact he
theorem endPost_ok {b : Nat} {s : Bs} {a t : Nat} {w w' : World} {e : Ending} (h : endA s t a = .ok ()) (he : e = .returned (.tuple #[])) (h1 : RdAt w' b s (a + 1) t) (h2 : w.grownBy w' (some b)) : EndPost b s a t w e w' := by unfold EndPost; rw [h]; exact ⟨he, h1, h2⟩
set_option maxHeartbeats 1000000 in
set_option maxRecDepth 100000 in
theorem end_67 (b : Nat) (s : Bs) (a t : Nat) (w : World) (h : RdAt w b s a t) (ht : 1 ≤ t) (hts : t ≤ s.length) (hl : t ≤ 1000000000) :
    Calls Tryd.prog 67 #[.pointer (some ⟨b, 0, none⟩)] w (EndPost b s a t w) := by
  have H68 := Lib.hid (take_84 b s a t w h ht hts hl)
  cases htk : takeA endB s t a with
  | error j =>
    have HE : Hid (endA s t a = .error j) := by unfold endA; rw [htk]; rfl
    have H : Hid (Calls Tryd.prog 68 #[.pointer (some ⟨b, 0, none⟩), .func (.func 84) #[] #[]] w (FailAt j b w)) := H68.out.mono fun e w' he => by unfold TakePost at he; rw [htk] at he; exact he
    clear H68 htk h
    go_enter Tryd.func67, Tryd.ntmps67
    go_wp2_with (go_at_call 68; ((with_reducible refine Calls.mono H.out ?_); rintro e w' ⟨rfl, hg⟩))
    exact ⟨rfl, endPost_err HE.out ⟨rfl, hg⟩⟩
  | ok c =>
    have H : Hid (Calls Tryd.prog 68 #[.pointer (some ⟨b, 0, none⟩), .func (.func 84) #[] #[]] w (fun e w' => e = .returned (.int .u8 c.toNat) ∧ a < t ∧ RdAt w' b s (a + 1) t ∧ w.grownBy w' (some b))) := H68.out.mono fun e w' he => by unfold TakePost at he; rw [htk] at he; exact he
    by_cases hlt : a + 1 < t
    · have HE : Hid (endA s t a = .error (min ((a : Int) + 1) ((t : Int) - 1))) := by unfold endA; rw [htk]; show (if _ then _ else _) = _; rw [if_pos hlt]
      clear H68 htk h
      have h1 : decide ((a : Int) + 1 < t) = true := by simp; omega
      go_enter Tryd.func67, Tryd.ntmps67
      go_wp2_with (go_at_call 68; ((with_reducible refine Calls.mono H.out ?_); rintro e w' ⟨rfl, _, hr, hg⟩; have HR := Lib.hid hr; obtain ⟨c0, c1, c2, f1⟩ := hr))
      have H83 : Hid (∀ n, Calls Tryd.prog 83 #[.pointer (some ⟨b, 0, none⟩)] (w'.drewN n) (FailAt (min ((a : Int) + 1) ((t : Int) - 1)) b (w'.drewN n))) := fun n => by
        have := fail_83 b s (a + 1) t _ (HR.out.drewN n) ht hl
        rwa [show ((a + 1 : Nat) : Int) = (a : Int) + 1 from by omega] at this
      go_quiet (fail)
      go_wp2_with (go_at_call 83; ((with_reducible refine Calls.mono (H83.out _) ?_); rintro e w2 ⟨rfl, hg2⟩))
      exact ⟨rfl, endPost_err HE.out ⟨rfl, World.grownBy.trans hg ⟨hg2.os, hg2.tape, hg2.output, hg2.size, hg2.block⟩⟩⟩
    · have HE : Hid (endA s t a = .ok ()) := by unfold endA; rw [htk]; show (if _ then _ else _) = _; rw [if_neg hlt]
      clear H68 htk h
      have h1 : decide ((a : Int) + 1 < t) = false := by simp; omega
      go_enter Tryd.func67, Tryd.ntmps67
      go_wp2_with (go_at_call 68; ((with_reducible refine Calls.mono H.out ?_); rintro e w' ⟨rfl, _, hr, hg⟩; have HR := Lib.hid hr; obtain ⟨c0, c1, c2, f1⟩ := hr))
      go_quiet (fail)
      go_wp2_with fail
      go_end0
      exact endPost_ok HE.out rfl (HR.out.drewN _) (gb_drewN hg _)
end Go.Proofs.YtfkleeigdplapaaDoor

namespace Go.Proofs.YtfkleeigdplapaaDoor
open Go.RowKit

structure FwAt (b B : Nat) (w0 wr : World) (f : FieldD) (v : Value) : Prop where
  grown : w0.grownBy wr (some b)
  old : b < B
  base : B = w0.heap.size
  big : B + 2 ≤ wr.heap.size
  res : ZeroAt B wr
  loc : LocAt (B + 1) wr f v
  own : wr.ownsRow (B + 2) 59 2 v f.subs.length (f.subs.flatMap subCells)
theorem gb_far {b : Nat} {w w' : World} (h : w.grownBy w' (some b)) (a : Addr) (ha : w.heap.size ≤ a.block) (u : Value) : w.grownBy (w'.setCell a u) (some b) :=
  ⟨h.os, h.tape, h.output, by simpa [World.setCell] using h.size, fun k hk hne => (Below.heap_setCell _ _ _ _ (by omega)).trans (h.block k hk hne)⟩
theorem gb_alloc {b : Nat} {w w' : World} (h : w.grownBy w' (some b)) (o : Obj) : w.grownBy (w'.alloc o) (some b) :=
  ⟨h.os, h.tape, h.output, by simpa using Nat.le_succ_of_le h.size, fun k hk hne => (Below.heap_alloc w' o k (Nat.lt_of_lt_of_le hk h.size)).trans (h.block k hk hne)⟩
/-- A row above block b stands while b alone is written. -/
theorem owns_far {b lo : Nat} {w w' : World} {v : Value} {n : Nat} {xs : List Value} (h : w.ownsRow lo 59 2 v n xs) (hb : b < lo) (hg : w.grownBy w' (some b)) : w'.ownsRow lo 59 2 v n xs := by
  refine ⟨h.1, ?_⟩
  rcases h.2 with hn | ⟨g, cap, cur, hv, hlo, hgc, hr⟩
  · exact .inl hn
  · refine .inr ⟨g, cap, cur, hv, hlo, ?_, hr⟩
    rw [hg.block g (Array.getElem?_eq_some_iff.1 hgc).1 (by intro e; injection e; omega)]; exact hgc
theorem FwAt.step {b B : Nat} {w0 wr w' : World} {f : FieldD} {v : Value} (h : FwAt b B w0 wr f v) (hg : wr.grownBy w' (some b)) : FwAt b B w0 w' f v := by
  have ho := h.old
  have hb := h.big
  exact ⟨World.grownBy.trans h.grown hg, h.old, h.base, Nat.le_trans h.big hg.size, h.res.of (hg.block B (by omega) (by intro e; injection e; omega)), h.loc.of (hg.block (B + 1) (by omega) (by intro e; injection e; omega)), owns_far h.own (by omega) hg⟩
theorem FwAt.setInd {b B : Nat} {w0 wr : World} {f : FieldD} {v : Value} (h : FwAt b B w0 wr f v) (x : Bs) : FwAt b B w0 (wr.setCell ⟨B + 1, 1, none⟩ (S x)) { f with ind := x } v :=
  ⟨gb_far h.grown _ (by have := h.base; simp; omega) _, h.old, h.base, by simpa using h.big, h.res.of (Below.heap_setCell _ _ _ _ (by simp)), h.loc.setInd x, ownsRow_setCell_below h.own (by simp) _⟩
theorem FwAt.setData {b B : Nat} {w0 wr : World} {f : FieldD} {v : Value} (h : FwAt b B w0 wr f v) (x : Bs) : FwAt b B w0 (wr.setCell ⟨B + 1, 2, none⟩ (S x)) { f with data := x } v :=
  ⟨gb_far h.grown _ (by have := h.base; simp; omega) _, h.old, h.base, by simpa using h.big, h.res.of (Below.heap_setCell _ _ _ _ (by simp)), h.loc.setData x, ownsRow_setCell_below h.own (by simp) _⟩
theorem FwAt.alloc {b B : Nat} {w0 wr : World} {f : FieldD} {v : Value} (h : FwAt b B w0 wr f v) (o : Obj) : FwAt b B w0 (wr.alloc o) f v := h.step (gb_alloc (gb_refl b wr) o)
/-- A subfield is appended. -/
theorem FwAt.app {b B : Nat} {w0 w1 w2 : World} {f : FieldD} {v v' : Value} (h : FwAt b B w0 w1 f v) (s : SubD)
    (hown : w2.ownsRow (B + 2) 59 2 v' (f.subs.length + 1) (f.subs.flatMap subCells ++ subCells s)) (hg : w1.grownBy w2 v.ownBlock) :
    FwAt b B w0 (w2.setCell ⟨B + 1, 3, none⟩ v') { f with subs := f.subs ++ [s] } v' := by
  have hk : ∀ k, k < B + 2 → w2.heap[k]? = w1.heap[k]? := fun k hk => hg.block k (Nat.lt_of_lt_of_le hk h.big) (by intro e; have := (h.own.lt k e.symm).1; omega)
  have hgw : w0.grownBy w2 (some b) := by
    have h0 := h.grown
    have hB := h.base
    exact ⟨hg.os.trans h0.os, hg.tape.trans h0.tape, hg.output.trans h0.output, Nat.le_trans h0.size hg.size, fun k hk' hne => (hk k (by omega)).trans (h0.block k hk' hne)⟩
  refine ⟨gb_far hgw _ (by have := h.base; simp; omega) _, h.old, h.base, by simpa using Nat.le_trans h.big hg.size, (h.res.of (hk B (by omega))).of (Below.heap_setCell _ _ _ _ (by simp)), (h.loc.of (hk _ (by omega))).setSubs _ _, ?_⟩
  have := ownsRow_setCell_below hown (a := ⟨B + 1, 3, none⟩) (by simp) v'
  simpa using this
/-- What lies behind an append: the reader, the local field's slice. -/
theorem FwAt.far {b B : Nat} {w0 wr : World} {f : FieldD} {v : Value} (h : FwAt b B w0 wr f v) : ∀ (o : Obj) (w2 : World), (wr.alloc o).grownBy w2 v.ownBlock → w2.cell? ⟨B + 1, 3, none⟩ = some v ∧ w2.frozen? ⟨B + 1, 3, none⟩ = false ∧ wr.heap.size ≤ w2.heap.size ∧ w2.heap[b]? = wr.heap[b]? := by
  intro o w2 hg
  have hb := h.big
  have ho := h.old
  have hk : ∀ k, k < B + 2 → w2.heap[k]? = wr.heap[k]? := fun k hk => by
    rw [hg.block k (by simp; omega) (by intro e; have := (h.own.lt k e.symm).1; omega)]
    exact Below.heap_alloc wr o k (by omega)
  exact ⟨(World.cell?_of_block (w := wr) (hk (B + 1) (by omega))).trans h.loc.c3, (World.frozen?_of_block (w := wr) (hk (B + 1) (by omega))).trans h.loc.f3, by have := hg.size; simp at this; omega, hk b (by omega)⟩
theorem RdAt.of {w w' : World} {b : Nat} {s : Bs} {a t : Nat} (h : RdAt w b s a t) (hb : w'.heap[b]? = w.heap[b]?) : RdAt w' b s a t := by
  have hc : ∀ i, w'.cell? ⟨b, i, none⟩ = w.cell? ⟨b, i, none⟩ := fun i => World.cell?_of_block (w := w) hb
  have hf : ∀ i, w'.frozen? ⟨b, i, none⟩ = w.frozen? ⟨b, i, none⟩ := fun i => World.frozen?_of_block (w := w) hb
  exact ⟨by rw [hc]; exact h.c0, by rw [hc]; exact h.c1, by rw [hc]; exact h.c2, by rw [hf]; exact h.f1⟩
theorem FwAt.init (b : Nat) (w : World) (tag : Bs) (hb : b < w.heap.size) : FwAt b w.heap.size w
    ((w.alloc (Obj.cells #[Value.string { data := #[] }, Value.string { data := #[] }, Value.string { data := #[] }, Value.slice none 0 0] 57)).alloc
      (Obj.cells #[Value.string { data := List.toArray tag }, Value.string { data := #[] }, Value.string { data := #[] }, Value.slice none 0 0] 57)) ⟨tag, [], [], []⟩ (.slice none 0 0) := by
  refine ⟨gb_alloc (gb_alloc (gb_refl b w) _) _, hb, rfl, by simp, ?_, ?_, World.ownsRow_nil _ _ _ _⟩
  · constructor <;> go_simp
  · constructor <;> go_simp

/-- What field leaves. -/
def FieldPostA (tag s : Bs) (a t b : Nat) (w : World) (e : Ending) (w' : World) : Prop :=
  match fieldA tag s a t with
  | .ok f => w.grownBy w' (some b) ∧ ∃ d, e = .returned (fieldV f d) ∧ SubsAt w.heap.size w'.heap.size w' d f.subs
  | .error j => FailAt j b w e w'
theorem fieldPostA_err {tag s : Bs} {a t b : Nat} {w w' : World} {e : Ending} {j : Int} (h : fieldA tag s a t = .error j) (he : FailAt j b w e w') : FieldPostA tag s a t b w e w' := by unfold FieldPostA; rw [h]; exact he
theorem fieldPostA_ok {tag s : Bs} {a t b : Nat} {w w' : World} {e : Ending} {f : FieldD} (h : fieldA tag s a t = .ok f) (hg : w.grownBy w' (some b)) (d : Value) (he : e = .returned (fieldV f d)) (hd : SubsAt w.heap.size w'.heap.size w' d f.subs) : FieldPostA tag s a t b w e w' := by unfold FieldPostA; rw [h]; exact ⟨hg, d, he, hd⟩
/-- At the end: the local field is copied into the result. -/
theorem FwAt.subs {b B : Nat} {w0 wr : World} {f : FieldD} {v : Value} (h : FwAt b B w0 wr f v) (w' : World) (hw : ∀ k, B + 2 ≤ k → w'.heap[k]? = wr.heap[k]?) (hz : w'.heap.size = wr.heap.size) : SubsAt w0.heap.size w'.heap.size w' v f.subs := by
  have h1 : SubsAt w0.heap.size wr.heap.size wr v f.subs := owns_subs h.own (by have := h.base; omega)
  have h2 : SubsAt (B + 2) wr.heap.size wr v f.subs := owns_subs h.own (Nat.le_refl _)
  rw [hz]
  exact (h2.kept (fun k h1 _ => hw k h1)).mono (by have := h.base; omega) (Nat.le_refl _)
end Go.Proofs.YtfkleeigdplapaaDoor

namespace Go.Proofs.YtfkleeigdplapaaDoor
open Go.RowKit

theorem results_cell {fn : Func} {p : Tmp} {ty : TypeId} (h : fn.results = #[.cell p ty]) (tmps : Array Value) (P : Program) (w : World) :
    (results fn tmps).run P w = ((asAddr (tmps.getD p undef)).run P w).andThen fun a w₁ => (loadVar ty a).run P w₁ := by
  simp only [results, h]
  simp [Sem.run_bind]
set_option maxHeartbeats 2000000 in
set_option maxRecDepth 100000 in
theorem field_47_ctrl (tag s : Bs) (a t b : Nat) (w : World) (hc : ctrlB tag = true) (h : RdAt w b s a t) (hT : Tabs w) (hb2 : 2 ≤ b) (ha : a ≤ t) (ht : 1 ≤ t) (hts : t ≤ s.length) (hl : t ≤ 1000000000) :
    Calls Tryd.prog 47 #[.pointer (some ⟨b, 0, none⟩), S tag] w (FieldPostA tag s a t b w) := by
  have hbw : b < w.heap.size := cell_lt h.c0
  have H57 : Hid (∀ W, Calls Tryd.prog 57 #[S tag] W fun e w' => e = .returned (.bool true) ∧ W = w') := fun W => by rw [← hc]; exact control_57 tag W
  have hF : fieldA tag s a t = (textA s t a).bind fun k => (endA s t k).bind fun _ => .ok ⟨tag, [], (s.take k).drop a, []⟩ := by unfold fieldA; rw [if_pos hc]
  have HI := Lib.hid (FwAt.init b w tag hbw)
  have H66 : Hid (∀ W, Below w.heap.size w W → Calls Tryd.prog 66 #[.pointer (some ⟨b, 0, none⟩)] W (TextPostA b s a t W)) := fun W hW => text_A b s a t W (h.below hW) (tabs_below hT hW) hb2 ha ht hts hl
  have H67 : Hid (∀ W k, RdAt W b s k t → Calls Tryd.prog 67 #[.pointer (some ⟨b, 0, none⟩)] W (EndPost b s k t W)) := fun W k hr => end_67 b s k t W hr ht hts hl
  have hbl : ∀ o1 o2, Below w.heap.size w ((w.alloc o1).alloc o2) := fun o1 o2 => ((Below.refl _ w).alloc (Nat.le_refl _) o1).alloc (by simp) o2
  have HBL := Lib.hid hbl
  clear hbl hc hT
  cases hx : textA s t a with
  | error j =>
    have HE : Hid (fieldA tag s a t = .error j) := by rw [hF, hx]; rfl
    have H : Hid (∀ W, Below w.heap.size w W → Calls Tryd.prog 66 #[.pointer (some ⟨b, 0, none⟩)] W (FailAt j b W)) := fun W hW => (H66.out W hW).mono fun e w' he => by unfold TextPostA at he; rw [hx] at he; exact he
    clear h H66 hF hx
    go_enter Tryd.func47, Tryd.ntmps47
    go_wp2_with (first
      | (go_at_call 57; ((with_reducible refine Calls.mono (H57.out _) ?_); rintro e w' ⟨rfl, rfl⟩))
      | (go_at_call 66; ((with_reducible refine Calls.mono (H.out _ (HBL.out _ _)) ?_); rintro e w' ⟨rfl, hg⟩)))
    exact ⟨rfl, fieldPostA_err HE.out ⟨rfl, World.grownBy.trans (gb_below (HBL.out _ _) _) hg⟩⟩
  | ok k =>
    have H : Hid (∀ W, Below w.heap.size w W → Calls Tryd.prog 66 #[.pointer (some ⟨b, 0, none⟩)] W (fun e w' => e = .returned (S ((s.take k).drop a)) ∧ a ≤ k ∧ k ≤ t ∧ RdAt w' b s k t ∧ W.grownBy w' (some b))) := fun W hW => (H66.out W hW).mono fun e w' he => by unfold TextPostA at he; rw [hx] at he; exact he
    rw [hx] at hF
    cases hy : endA s t k with
    | error j =>
      have HE : Hid (fieldA tag s a t = .error j) := by rw [hF]; show (endA s t k).bind _ = _; rw [hy]; rfl
      have H7 : Hid (∀ W, RdAt W b s k t → Calls Tryd.prog 67 #[.pointer (some ⟨b, 0, none⟩)] W (FailAt j b W)) := fun W hW => (H67.out W k hW).mono fun e w' he => by unfold EndPost at he; rw [hy] at he; exact he
      clear h H66 H67 hF hx hy
      go_enter Tryd.func47, Tryd.ntmps47
      go_wp2_with (first
        | (go_at_call 57; ((with_reducible refine Calls.mono (H57.out _) ?_); rintro e w' ⟨rfl, rfl⟩))
        | (go_at_call 66; ((with_reducible refine Calls.mono (H.out _ (HBL.out _ _)) ?_); rintro e w2 ⟨rfl, hk1, hk2, hr, hg⟩; have HFW := Lib.hid (HI.out.step hg); have HR := Lib.hid hr; obtain ⟨_, _, _, _, _, ⟨l0, l1, l2, l3, g1, g2, g3⟩, _⟩ := HFW.out; simp only at l0 l1 l2 l3; clear hr))
        | (go_at_call 67; ((with_reducible refine Calls.mono (H7.out _ (HR.out.of (Below.heap_setCell _ _ _ _ (by simp; omega)))) ?_); rintro e w3 ⟨rfl, hg3⟩)))
      exact ⟨rfl, fieldPostA_err HE.out ⟨rfl, World.grownBy.trans (HFW.out.setData _).grown hg3⟩⟩
    | ok u =>
      have HE : Hid (fieldA tag s a t = .ok ⟨tag, [], (s.take k).drop a, []⟩) := by rw [hF]; show (endA s t k).bind _ = _; rw [hy]; rfl
      have H7 : Hid (∀ W, RdAt W b s k t → Calls Tryd.prog 67 #[.pointer (some ⟨b, 0, none⟩)] W (fun e w' => e = .returned (.tuple #[]) ∧ W.grownBy w' (some b))) := fun W hW => (H67.out W k hW).mono fun e w' he => by unfold EndPost at he; rw [hy] at he; exact ⟨he.1, he.2.2⟩
      clear h H66 H67 hF hx hy
      go_enter Tryd.func47, Tryd.ntmps47
      go_wp2_with (first
        | (go_at_call 57; ((with_reducible refine Calls.mono (H57.out _) ?_); rintro e w' ⟨rfl, rfl⟩))
        | (go_at_call 66; ((with_reducible refine Calls.mono (H.out _ (HBL.out _ _)) ?_); rintro e w2 ⟨rfl, hk1, hk2, hr, hg⟩; have HFW := Lib.hid (HI.out.step hg); have HR := Lib.hid hr; obtain ⟨_, _, _, _, _, ⟨l0, l1, l2, l3, g1, g2, g3⟩, _⟩ := HFW.out; simp only at l0 l1 l2 l3; clear hr))
        | (go_at_call 67; ((with_reducible refine Calls.mono (H7.out _ (HR.out.of (Below.heap_setCell _ _ _ _ (by simp; omega)))) ?_); rintro e w3 ⟨rfl, hg3⟩; have HFW3 := Lib.hid ((HFW.out.setData _).step hg3); obtain ⟨_, _, _, _, ⟨z0, z1, z2, z3, y0, y1, y2, y3⟩, ⟨l0, l1, l2, l3, g1, g2, g3⟩, _⟩ := HFW3.out; simp only at l0 l1 l2 l3)))
      refine bodyPost_ret (v := .agg #[S tag, S [], S ((s.take k).drop a), .slice none 0 0]) (by rw [results_cell rfl]; go_simp) rfl ?_
      refine fieldPostA_ok HE.out (gb_far (gb_far (gb_far (gb_far HFW3.out.grown _ (Nat.le_refl _) _) _ (Nat.le_refl _) _) _ (Nat.le_refl _) _) _ (Nat.le_refl _) _) (.slice none 0 0) rfl ?_
      exact HFW3.out.subs _ (fun j hj => by rw [Below.heap_setCell _ _ _ _ (by simp; omega), Below.heap_setCell _ _ _ _ (by simp; omega), Below.heap_setCell _ _ _ _ (by simp; omega), Below.heap_setCell _ _ _ _ (by simp; omega)]) (by simp)
end Go.Proofs.YtfkleeigdplapaaDoor

namespace Go.Proofs.YtfkleeigdplapaaDoor

theorem textGo_shift (M : Bs) : ∀ (x : Ch) (i d : Nat), textGo x M (i + d) = match textGo x M i with
    | .ok j => .ok (j + d)
    | .error j => .error (j + d) := by
  induction M with
  | nil => intro x i d; by_cases h : x.left = 0 <;> simp [textGo, h]
  | cons c M ih =>
    intro x i d
    simp only [textGo]
    by_cases h : x.left = 0 ∧ c.toNat < 32
    · rw [if_pos h, if_pos h]
    · rw [if_neg h, if_neg h]
      cases hc : chNext x c with
      | none => rfl
      | some y => simp only; rw [show i + d + 1 = i + 1 + d from by omega]; exact ih y (i + 1) d
theorem textGo_bd (M : Bs) : ∀ (x : Ch) (i : Nat), match textGo x M i with
    | .ok j => i ≤ j ∧ j ≤ i + M.length
    | .error j => i ≤ j ∧ j ≤ i + M.length := by
  induction M with
  | nil => intro x i; by_cases h : x.left = 0 <;> simp [textGo, h]
  | cons c M ih =>
    intro x i
    simp only [textGo]
    by_cases h : x.left = 0 ∧ c.toNat < 32
    · rw [if_pos h]; simp
    · rw [if_neg h]
      cases hc : chNext x c with
      | none => simp
      | some y =>
        simp only
        have := ih y (i + 1)
        cases h2 : textGo y M (i + 1) with
        | ok j => rw [h2] at this; simp only at this ⊢; simp only [List.length_cons]; omega
        | error j => rw [h2] at this; simp only at this ⊢; simp only [List.length_cons]; omega
theorem step_zero (text : Bool) (i : Nat) (prev c : UInt8) (f : FieldD) (x y : Ch) (e : Bool) (hx : x.left = 0) (hy : y.left = 0) :
    (fieldStep text i prev c ⟨f, x, e⟩ = none ↔ fieldStep text i prev c ⟨f, y, e⟩ = none) ∧ ∀ g z d, fieldStep text i prev c ⟨f, x, e⟩ = some ⟨g, z, d⟩ → ∃ z', fieldStep text i prev c ⟨f, y, e⟩ = some ⟨g, z', d⟩ ∧ (z' = z ∨ (z.left = 0 ∧ z'.left = 0)) := by
  unfold fieldStep
  simp only [hx, hy, chNext_zero x y hx hy]
  repeat' split
  all_goals (constructor <;> simp_all)
theorem fieldGo_zero (text : Bool) (M : Bs) : ∀ (i : Nat) (prev : UInt8) (f : FieldD) (x y : Ch) (e : Bool), x.left = 0 → y.left = 0 → fieldGo text M i prev ⟨f, x, e⟩ = fieldGo text M i prev ⟨f, y, e⟩ := by
  induction M with
  | nil => intro i prev f x y e _ _; rfl
  | cons c M ih =>
    intro i prev f x y e hx hy
    simp only [fieldGo]
    obtain ⟨h1, h2⟩ := step_zero text i prev c f x y e hx hy
    cases hs : fieldStep text i prev c ⟨f, x, e⟩ with
    | none => rw [h1.1 hs]
    | some st =>
      obtain ⟨g, z, d⟩ := st
      obtain ⟨z', hz', h3⟩ := h2 g z d hs
      rw [hz']
      rcases h3 with rfl | ⟨h4, h5⟩
      · rfl
      · exact ih (i + 1) c g z z' d h4 h5

/-- What stands behind a text. -/
def after (M : Bs) (i : Nat) (r : Except Nat Nat) (g : Bs → FieldD) (more : Bs → Nat → Bs → Except Int FieldD) : Except Int FieldD := match r with
  | .error j => .error (if j < i + M.length then (j : Int) else (j : Int) - 1)
  | .ok j => match M.drop (j - i) with
    | [] => .error ((j : Int) - 1)
    | c :: r => if c.toNat = 30 then (if r = [] then .ok (g (M.take (j - i))) else .error ((j : Int) + 1)) else if c.toNat = 31 then more (M.take (j - i)) (j + 1) r else .error j
theorem after_step (c : UInt8) (M : Bs) (i : Nat) (r : Except Nat Nat) (hr : match r with
    | .ok j => i + 1 ≤ j ∧ j ≤ i + 1 + M.length
    | .error j => i + 1 ≤ j ∧ j ≤ i + 1 + M.length) (g g' : Bs → FieldD) (more more' : Bs → Nat → Bs → Except Int FieldD) (hg : ∀ t, g (c :: t) = g' t) (hm : ∀ t, more (c :: t) = more' t) :
    after (c :: M) i r g more = after M (i + 1) r g' more' := by
  cases r with
  | error j =>
    simp only [after, List.length_cons]
    by_cases h : j < i + 1 + M.length
    · rw [if_pos h, if_pos (by omega)]
    · rw [if_neg h, if_neg (by omega)]
  | ok j =>
    simp only at hr
    obtain ⟨d, hd⟩ : ∃ d, j - i = d + 1 := ⟨j - i - 1, by omega⟩
    have hd2 : j - (i + 1) = d := by omega
    simp only [after, hd, hd2, List.drop_succ_cons, List.take_succ_cons, hg, hm]
theorem ended_go (text : Bool) (r : Bs) (i : Nat) (prev : UInt8) (f : FieldD) (x : Ch) : fieldGo text r i prev ⟨f, x, true⟩ = if r = [] then .ok f else .error i := by
  cases r with
  | nil => rfl
  | cons c r => simp [fieldGo, fieldStep]
theorem u8_eq (c : UInt8) (n : Nat) (hn : n < 256) : (c = UInt8.ofNat n) ↔ c.toNat = n := by
  rw [← UInt8.toNat_inj]; simp [Nat.mod_eq_of_lt hn]
theorem chNext_low {x : Ch} {c : UInt8} (hx : x.left = 0) (hc : c.toNat < 32) : chNext x c = none := cn_none (by omega) (.inl hc)

/-- A control field's text. -/
theorem ctrl_go (tag : Bs) (M : Bs) : ∀ (x : Ch) (i : Nat) (prev : UInt8) (D : Bs),
    fieldGo true M i prev ⟨⟨tag, [], D, []⟩, x, false⟩ = after M i (textGo x M i) (fun t => ⟨tag, [], D ++ t, []⟩) (fun _ j _ => .error ((j : Int) - 1)) := by
  induction M with
  | nil => intro x i prev D; by_cases h : x.left = 0 <;> simp [fieldGo, textGo, after, h]
  | cons c M ih =>
    intro x i prev D
    have h30 := u8_eq c 30 (by omega)
    have h31 := u8_eq c 31 (by omega)
    by_cases h : x.left = 0 ∧ c.toNat < 32
    · have ht : textGo x (c :: M) i = .ok i := by simp only [textGo]; rw [if_pos h]
      rw [ht]
      simp only [after, Nat.sub_self, List.drop_zero, List.take_zero, List.append_nil]
      by_cases hc : c.toNat = 30
      · rw [if_pos hc]
        have hs : fieldStep true i prev c ⟨⟨tag, [], D, []⟩, x, false⟩ = some ⟨⟨tag, [], D, []⟩, x, true⟩ := by
          have : c = 30 := h30.2 hc
          simp [fieldStep, h.1, this]
        simp only [fieldGo, hs, ended_go]
        split <;> simp
      · rw [if_neg hc]
        have hs : fieldStep true i prev c ⟨⟨tag, [], D, []⟩, x, false⟩ = none := by
          have : ¬ c = 30 := fun e => hc (h30.1 e)
          simp [fieldStep, h.1, this, chNext_low h.1 h.2]
        simp only [fieldGo, hs]
        split <;> simp
    · have ht1 : chNext x c = none → textGo x (c :: M) i = .error i := fun hn => by simp only [textGo]; rw [if_neg h, hn]
      have ht2 : ∀ y, chNext x c = some y → textGo x (c :: M) i = textGo y M (i + 1) := fun y hn => by simp only [textGo]; rw [if_neg h, hn]
      have hc : ¬ (x.left = 0 ∧ c = 30) := fun e => h ⟨e.1, by rw [h30.1 e.2]; omega⟩
      cases hn : chNext x c with
      | none =>
        have hs : fieldStep true i prev c ⟨⟨tag, [], D, []⟩, x, false⟩ = none := by simp [fieldStep, hn]; intro h1 h2; exact hc ⟨h1, h2⟩
        rw [ht1 hn]
        simp only [fieldGo, hs, after, List.length_cons]
        rw [if_pos (by omega)]
      | some y =>
        have hs : fieldStep true i prev c ⟨⟨tag, [], D, []⟩, x, false⟩ = some ⟨⟨tag, [], D ++ [c], []⟩, y, false⟩ := by
          simp only [fieldStep, hn]
          have : (decide (x.left = 0) && decide (c = 30)) = false := by simp; intro h1 h2; exact hc ⟨h1, h2⟩
          simp [this]
        rw [ht2 y hn]
        simp only [fieldGo, hs]
        rw [ih y (i + 1) c (D ++ [c])]
        exact (after_step c M i _ (textGo_bd M y (i + 1)) _ (fun t => ⟨tag, [], D ++ [c] ++ t, []⟩) _ (fun _ j _ => .error ((j : Int) - 1)) (fun t => by simp) (fun t => rfl)).symm

def chLow (x : Ch) : Prop := 0 < x.left → 128 ≤ x.low
theorem chLow_next {x y : Ch} {c : UInt8} (hx : chLow x) (h : chNext x c = some y) : chLow y ∧ (0 < x.left ∨ 32 ≤ c.toNat) ∧ (0 < x.left → 128 ≤ c.toNat) := by
  unfold chLow at *
  unfold chNext at h
  dsimp only at h
  split at h
  · split at h
    · cases h
    · rename_i h1 h2; cases h; exact ⟨fun _ => by simp, .inl h1, fun _ => by have := hx h1; omega⟩
  · rename_i h0
    split at h
    · rename_i h1; cases h; exact ⟨fun _ => by simp, .inr h1.1, fun h2 => absurd h2 h0⟩
    · split at h
      · rename_i h1; cases h; exact ⟨fun _ => by simp, .inr (by omega), fun h2 => absurd h2 h0⟩
      · split at h
        · rename_i h1; cases h; refine ⟨fun _ => ?_, .inr (by omega), fun h2 => absurd h2 h0⟩; simp only; split <;> omega
        · split at h
          · rename_i h1; cases h; refine ⟨fun _ => ?_, .inr (by omega), fun h2 => absurd h2 h0⟩; simp only; split <;> omega
          · cases h
theorem addText_snoc (acc : List SubD) (code : UInt8) (T : Bs) (c : UInt8) : addText (acc ++ [⟨code, T⟩]) c = acc ++ [⟨code, T ++ [c]⟩] := by
  simp [addText]
theorem setCode_snoc (acc : List SubD) (code c : UInt8) (T : Bs) : setCode (acc ++ [⟨code, T⟩]) c = acc ++ [⟨c, T⟩] := by
  simp [setCode]
/-- A subfield's text. -/
theorem sub_go (tag ind : Bs) (acc : List SubD) (code : UInt8) (M : Bs) : ∀ (x : Ch) (i : Nat) (prev : UInt8) (T : Bs), 2 ≤ i → prev.toNat ≠ 31 → chLow x →
    fieldGo false M i prev ⟨⟨tag, ind, [], acc ++ [⟨code, T⟩]⟩, x, false⟩ = after M i (textGo x M i) (fun t => ⟨tag, ind, [], acc ++ [⟨code, T ++ t⟩]⟩) (fun t j r => fieldGo false r j 31 ⟨⟨tag, ind, [], acc ++ [⟨code, T ++ t⟩] ++ [⟨0, []⟩]⟩, ch0, false⟩) := by
  induction M with
  | nil => intro x i prev T _ _ _; by_cases h : x.left = 0 <;> simp [fieldGo, textGo, after, h]
  | cons c M ih =>
    intro x i prev T hi hp hlow
    have h30 := u8_eq c 30 (by omega)
    have h31 := u8_eq c 31 (by omega)
    have hp31 : ¬ prev = 31 := fun e => hp ((u8_eq prev 31 (by omega)).1 e)
    have hi2 : ¬ i < 2 := by omega
    by_cases h : x.left = 0 ∧ c.toNat < 32
    · have ht : textGo x (c :: M) i = .ok i := by simp only [textGo]; rw [if_pos h]
      rw [ht]
      simp only [after, Nat.sub_self, List.drop_zero, List.take_zero, List.append_nil]
      by_cases hc : c.toNat = 30
      · rw [if_pos hc]
        have hs : fieldStep false i prev c ⟨⟨tag, ind, [], acc ++ [⟨code, T⟩]⟩, x, false⟩ = some ⟨⟨tag, ind, [], acc ++ [⟨code, T⟩]⟩, x, true⟩ := by
          have : c = 30 := h30.2 hc
          simp [fieldStep, h.1, this, hi2, hp31]
        simp only [fieldGo, hs, ended_go]
        split <;> simp
      · rw [if_neg hc]
        by_cases hd : c.toNat = 31
        · rw [if_pos hd]
          have hs : fieldStep false i prev c ⟨⟨tag, ind, [], acc ++ [⟨code, T⟩]⟩, x, false⟩ = some ⟨⟨tag, ind, [], acc ++ [⟨code, T⟩] ++ [⟨0, []⟩]⟩, x, false⟩ := by
            have : c = 31 := h31.2 hd
            simp [fieldStep, h.1, this, hi2, hp31]
          simp only [fieldGo, hs]
          rw [show c = 31 from h31.2 hd]
          exact fieldGo_zero false M _ _ _ _ _ _ h.1 rfl
        · rw [if_neg hd]
          have hs : fieldStep false i prev c ⟨⟨tag, ind, [], acc ++ [⟨code, T⟩]⟩, x, false⟩ = none := by
            have e1 : ¬ c = 30 := fun e => hc (h30.1 e)
            have e2 : ¬ c = 31 := fun e => hd (h31.1 e)
            simp [fieldStep, h.1, e1, e2, hi2, hp31, chNext_low h.1 h.2]
          simp only [fieldGo, hs]
    · have ht1 : chNext x c = none → textGo x (c :: M) i = .error i := fun hn => by simp only [textGo]; rw [if_neg h, hn]
      have ht2 : ∀ y, chNext x c = some y → textGo x (c :: M) i = textGo y M (i + 1) := fun y hn => by simp only [textGo]; rw [if_neg h, hn]
      have hc : (decide (x.left = 0) && decide (c = 30)) = false := by simp; intro h1 h2; exact h ⟨h1, by rw [h30.1 h2]; omega⟩
      have hd : (decide (x.left = 0) && decide (c = 31)) = false := by simp; intro h1 h2; exact h ⟨h1, by rw [h31.1 h2]; omega⟩
      cases hn : chNext x c with
      | none =>
        have hs : fieldStep false i prev c ⟨⟨tag, ind, [], acc ++ [⟨code, T⟩]⟩, x, false⟩ = none := by simp [fieldStep, hn, hc, hd, hi2, hp31]
        rw [ht1 hn]
        simp only [fieldGo, hs, after, List.length_cons]
        rw [if_pos (by omega)]
      | some y =>
        have hs : fieldStep false i prev c ⟨⟨tag, ind, [], acc ++ [⟨code, T⟩]⟩, x, false⟩ = some ⟨⟨tag, ind, [], acc ++ [⟨code, T ++ [c]⟩]⟩, y, false⟩ := by
          simp [fieldStep, hn, hc, hd, hi2, hp31, addText_snoc]
        obtain ⟨hl2, hl3, hl4⟩ := chLow_next hlow hn
        rw [ht2 y hn]
        simp only [fieldGo, hs]
        rw [ih y (i + 1) c (T ++ [c]) (by omega) (by
          intro e
          rcases hl3 with h1 | h1
          · have := hl4 h1; omega
          · omega) hl2]
        exact (after_step c M i _ (textGo_bd M y (i + 1)) (fun t => ⟨tag, ind, [], acc ++ [⟨code, T ++ t⟩]⟩) (fun t => ⟨tag, ind, [], acc ++ [⟨code, T ++ [c] ++ t⟩]⟩) (fun t j r => fieldGo false r j 31 ⟨⟨tag, ind, [], acc ++ [⟨code, T ++ t⟩] ++ [⟨0, []⟩]⟩, ch0, false⟩) (fun t j r => fieldGo false r j 31 ⟨⟨tag, ind, [], acc ++ [⟨code, T ++ [c] ++ t⟩] ++ [⟨0, []⟩]⟩, ch0, false⟩) (fun t => by simp) (fun t => by simp)).symm

/-! the program's side -/
theorem take_cons {P : UInt8 → Bool} {s : Bs} {t k : Nat} {c : UInt8} {M : Bs} (h : (s.take t).drop k = c :: M) : takeA P s t k = (if P c then .ok c else .error (k : Int)) ∧ (s.take t).drop (k + 1) = M ∧ k < t := by
  have hlt : k < (s.take t).length := by
    rcases Nat.lt_or_ge k (s.take t).length with h1 | h1
    · exact h1
    · rw [List.drop_of_length_le h1] at h; cases h
  rw [List.drop_eq_getElem_cons hlt] at h
  injection h with h1 h2
  simp only [List.length_take] at hlt
  have hg : s.getD k 0 = c := by rw [← h1]; simp; rw [List.getElem?_eq_getElem (by omega)]; rfl
  refine ⟨?_, h2, by omega⟩
  unfold takeA
  rw [hg]
  by_cases hp : P c = true
  · rw [if_pos ⟨by omega, hp⟩, if_pos hp]
  · rw [if_neg (fun h => hp h.2), if_neg hp]
    congr 1; omega
theorem take_nil {P : UInt8 → Bool} {s : Bs} {t k : Nat} (h : (s.take t).drop k = []) (hts : t ≤ s.length) (hk : k ≤ t) : takeA P s t k = .error ((t : Int) - 1) ∧ k = t := by
  have hlt : (s.take t).length ≤ k := List.drop_eq_nil_iff.1 h
  simp only [List.length_take] at hlt
  have : k = t := by omega
  subst this
  refine ⟨?_, rfl⟩
  unfold takeA
  rw [if_neg (by omega)]
  congr 1; omega
theorem end_cons {s : Bs} {t k : Nat} {c : UInt8} {M : Bs} (h : (s.take t).drop k = c :: M) (hts : t ≤ s.length) : endA s t k = if c.toNat = 30 then (if M = [] then .ok () else .error ((k : Int) + 1)) else .error (k : Int) := by
  obtain ⟨h1, h2, h3⟩ := take_cons (P := endB) h
  unfold endA
  rw [h1]
  by_cases hc : c.toNat = 30
  · rw [if_pos hc, if_pos (by simp [endB, hc])]
    show (if _ then _ else _) = _
    by_cases hm : M = []
    · rw [if_pos hm, if_neg]
      have := List.drop_eq_nil_iff.1 (h2.trans hm)
      simp at this; omega
    · rw [if_neg hm, if_pos]
      · congr 1; 
        have : k + 1 < t := by
          rcases Nat.lt_or_ge (k + 1) t with h4 | h4
          · exact h4
          · exact absurd (h2.symm.trans (List.drop_of_length_le (by simp; omega))) hm
        omega
      · rcases Nat.lt_or_ge (k + 1) t with h4 | h4
        · exact h4
        · exact absurd (h2.symm.trans (List.drop_of_length_le (by simp; omega))) hm
  · rw [if_neg hc, if_neg (by simp [endB, hc])]; rfl
theorem end_nil {s : Bs} {t k : Nat} (h : (s.take t).drop k = []) (hts : t ≤ s.length) (hk : k ≤ t) : endA s t k = .error ((t : Int) - 1) := by
  unfold endA; rw [(take_nil (P := endB) h hts hk).1]; rfl
/-- Errors are counted from the field's beginning on. -/
def mapE (a : Nat) (r : Except Int FieldD) : Except Int FieldD := match r with
  | .ok f => .ok f
  | .error i => .error ((a : Int) + i)
theorem text_shift (s : Bs) (t p i : Nat) (M : Bs) (hM : (s.take t).drop p = M) : match textGo ch0 M i with
    | .ok j => i ≤ j ∧ j ≤ i + M.length ∧ textA s t p = .ok (p + (j - i))
    | .error j => i ≤ j ∧ j ≤ i + M.length ∧ textA s t p = .error (min ((p : Int) + (j - i : Nat)) ((t : Int) - 1)) := by
  have h1 := textGo_shift M ch0 0 i
  have h2 := textGo_bd M ch0 i
  rw [Nat.zero_add] at h1
  unfold textA textR
  rw [hM]
  cases hr : textGo ch0 M 0 with
  | ok j => rw [hr] at h1; simp only at h1; rw [h1] at h2 ⊢; simp only at h2 ⊢; exact ⟨h2.1, h2.2, by rw [show j + i - i = j from by omega]⟩
  | error j => rw [hr] at h1; simp only at h1; rw [h1] at h2 ⊢; simp only at h2 ⊢; exact ⟨h2.1, h2.2, by rw [show j + i - i = j from by omega]⟩
theorem drop_cut (s : Bs) (t a p : Nat) (hp : a ≤ p) (M : Bs) (hM : (s.take t).drop a = M) (d : Nat) (hd : d = p - a) : (s.take t).drop p = M.drop d := by
  subst hd; rw [← hM, List.drop_drop, show a + (p - a) = p from by omega]
theorem len_cut {s : Bs} {t p : Nat} {M : Bs} (h : (s.take t).drop p = M) (hts : t ≤ s.length) (hp : p ≤ t) : M.length = t - p := by rw [← h]; simp; omega
/-- A control field. -/
theorem law_ctrl (tag s : Bs) (a t : Nat) (hc : ctrlB tag = true) (ha : a < t) (hts : t ≤ s.length) : fieldA tag s a t = mapE a (fieldR tag (sub3 s a t)) := by
  obtain ⟨M, hM⟩ : ∃ M, (s.take t).drop a = M := ⟨_, rfl⟩
  have hlen := len_cut hM hts (by omega)
  have hR : fieldR tag (sub3 s a t) = after M 0 (textGo ch0 M 0) (fun t => ⟨tag, [], [] ++ t, []⟩) (fun _ j _ => .error ((j : Int) - 1)) := by
    unfold fieldR sub3; rw [hc, hM]; exact ctrl_go tag M ch0 0 0 []
  have hT := text_shift s t a 0 M hM
  rw [hR]
  unfold fieldA
  rw [if_pos hc]
  cases hr : textGo ch0 M 0 with
  | error j =>
    rw [hr] at hT
    obtain ⟨_, h2, h3⟩ := hT
    rw [h3]
    show Except.error _ = mapE a (.error _)
    simp only [mapE, Nat.sub_zero]
    congr 1
    split <;> omega
  | ok j =>
    rw [hr] at hT
    obtain ⟨_, h2, h3⟩ := hT
    simp only [Nat.sub_zero, Nat.zero_add] at h2 h3
    rw [h3]
    show (endA s t (a + j)).bind _ = _
    have hD : (s.take t).drop (a + j) = M.drop j := drop_cut s t a (a + j) (by omega) M hM j (by omega)
    simp only [after, Nat.sub_zero]
    cases hm : M.drop j with
    | nil =>
      rw [end_nil (hD.trans hm) hts (by omega)]
      have hj : j = M.length := by have := List.drop_eq_nil_iff.1 hm; omega
      show Except.error _ = mapE a (.error _)
      simp only [mapE]; first | rfl | (congr 1; omega)
    | cons c r =>
      rw [end_cons (hD.trans hm) hts]
      simp only
      by_cases h30 : c.toNat = 30
      · rw [if_pos h30, if_pos h30]
        by_cases hr0 : r = []
        · rw [if_pos hr0, if_pos hr0]
          show Except.ok _ = mapE a (.ok _)
          simp only [mapE, List.nil_append]
          have : (s.take (a + j)).drop a = M.take j := by rw [← hM, List.take_drop, List.take_take, Nat.min_eq_left (by omega)]
          rw [this]
        · rw [if_neg hr0, if_neg hr0]
          show Except.error _ = mapE a (.error _)
          simp only [mapE]; first | rfl | (congr 1; omega)
      · rw [if_neg h30, if_neg h30]
        split
        · show Except.error _ = mapE a (.error _)
          simp only [mapE]; first | rfl | (congr 1; omega)
        · show Except.error _ = mapE a (.error _)
          simp only [mapE]; first | rfl | (congr 1; omega)
theorem subsA_more' {fu : Nat} {s : Bs} {t k : Nat} {acc : List SubD} (h : moreB s t k acc = true) : subsA (fu + 1) s t k acc = (subA s t k).bind fun r => subsA fu s t r.2 (acc ++ [r.1]) := by simp only [subsA, h, if_true]
theorem subsA_stop' {fu : Nat} {s : Bs} {t k : Nat} {acc : List SubD} (h : moreB s t k acc = false) : subsA (fu + 1) s t k acc = .ok (acc, k) := by simp [subsA, h]
/-- The rest of a field behind a delimiter, as the program reads it. -/
def restA (s : Bs) (t fu p : Nat) (acc : List SubD) (k : List SubD → FieldD) : Except Int FieldD :=
  (((takeA signB s t p).bind fun c => (textA s t (p + 1)).bind fun n => .ok ((⟨c, (s.take n).drop (p + 1)⟩ : SubD), n)).bind fun r => subsA fu s t r.2 (acc ++ [r.1])).bind fun r => (endA s t r.2).bind fun _ => .ok (k r.1)
theorem more_cons {s : Bs} {t k : Nat} {c : UInt8} {M : Bs} (acc : List SubD) (hacc : acc ≠ []) (h : (s.take t).drop k = c :: M) : moreB s t k acc = decide (c.toNat = 31) := by
  obtain ⟨h1, _, h3⟩ := take_cons (P := delimB) h
  have hie : acc.isEmpty = false := by simpa using hacc
  have hg : delimB (s.getD k 0) = decide (c.toNat = 31) := by
    have hlt : k < (s.take t).length := by
      rcases Nat.lt_or_ge k (s.take t).length with h1 | h1
      · exact h1
      · rw [List.drop_of_length_le h1] at h; cases h
    rw [List.drop_eq_getElem_cons hlt] at h
    injection h with h1 h2
    simp only [List.length_take] at hlt
    have hg : s.getD k 0 = c := by rw [← h1]; simp; rw [List.getElem?_eq_getElem (by omega)]; rfl
    rw [hg]; rfl
  unfold moreB; rw [hie, hg]; simp [h3]
theorem more_nil {s : Bs} {t k : Nat} (acc : List SubD) (hacc : acc ≠ []) (hk : t ≤ k) : moreB s t k acc = false := by
  have hie : acc.isEmpty = false := by simpa using hacc
  simp [moreB, hie]; intro h; omega
theorem law_rest (tag ind s : Bs) (a t : Nat) (hts : t ≤ s.length) : ∀ (n : Nat) (M : Bs) (p fu : Nat) (acc : List SubD), M.length ≤ n → (s.take t).drop p = M → a + 2 ≤ p → p ≤ t → t + 1 ≤ fu + p →
    restA s t fu p acc (fun x => ⟨tag, ind, [], x⟩) = mapE a (fieldGo false M (p - a) 31 ⟨⟨tag, ind, [], acc ++ [⟨0, []⟩]⟩, ch0, false⟩) := by
  intro n
  induction n with
  | zero =>
    intro M p fu acc hn hM hap hpt hfu
    obtain rfl : M = [] := List.eq_nil_of_length_eq_zero (by omega)
    unfold restA
    obtain ⟨h1, h2⟩ := take_nil (P := signB) hM hts hpt
    rw [h1]
    show Except.error _ = mapE a (.error _)
    simp only [mapE]; congr 1; omega
  | succ n ih =>
    intro M p fu acc hn hM hap hpt hfu
    have hlen := len_cut hM hts hpt
    cases M with
    | nil =>
      unfold restA
      obtain ⟨h1, h2⟩ := take_nil (P := signB) hM hts hpt
      rw [h1]
      show Except.error _ = mapE a (.error _)
      simp only [mapE]; congr 1; omega
    | cons c M =>
      obtain ⟨h1, h2, h3⟩ := take_cons (P := signB) hM
      simp only [List.length_cons] at hn hlen
      by_cases hs : signB c = true
      · have hst : fieldStep false (p - a) 31 c ⟨⟨tag, ind, [], acc ++ [⟨0, []⟩]⟩, ch0, false⟩ = some ⟨⟨tag, ind, [], acc ++ [⟨c, []⟩]⟩, ch0, false⟩ := by
          have : ¬ p - a < 2 := by omega
          simp [fieldStep, this, hs, setCode_snoc]
        have hsc := hs
        simp only [signB, Bool.and_eq_true, decide_eq_true_eq] at hsc
        have hR : fieldGo false (c :: M) (p - a) 31 ⟨⟨tag, ind, [], acc ++ [⟨0, []⟩]⟩, ch0, false⟩ = after M (p - a + 1) (textGo ch0 M (p - a + 1)) (fun t => ⟨tag, ind, [], acc ++ [⟨c, [] ++ t⟩]⟩) (fun t j r => fieldGo false r j 31 ⟨⟨tag, ind, [], acc ++ [⟨c, [] ++ t⟩] ++ [⟨0, []⟩]⟩, ch0, false⟩) := by
          simp only [fieldGo, hst]
          exact sub_go tag ind acc c M ch0 (p - a + 1) c [] (by omega) (by omega) (fun h => by simp [ch0] at h)
        rw [hR]
        unfold restA
        rw [h1, if_pos hs]
        have hT := text_shift s t (p + 1) (p - a + 1) M h2
        cases hr : textGo ch0 M (p - a + 1) with
        | error j =>
          rw [hr] at hT
          obtain ⟨h4, h5, h6⟩ := hT
          show (((textA s t (p + 1)).bind _).bind _).bind _ = _
          rw [h6]
          show Except.error _ = mapE a (.error _)
          simp only [mapE]; congr 1
          split <;> omega
        | ok j =>
          rw [hr] at hT
          obtain ⟨h4, h5, h6⟩ := hT
          show (((textA s t (p + 1)).bind _).bind _).bind _ = _
          rw [h6]
          obtain ⟨d, hd⟩ : ∃ d, j - (p - a + 1) = d := ⟨_, rfl⟩
          rw [hd]
          show (subsA fu s t (p + 1 + d) (acc ++ [⟨c, (s.take (p + 1 + d)).drop (p + 1)⟩])).bind _ = _
          have htx : (s.take (p + 1 + d)).drop (p + 1) = M.take d := by rw [← h2, List.take_drop, List.take_take, Nat.min_eq_left (by omega)]
          rw [htx]
          have hD : (s.take t).drop (p + 1 + d) = M.drop d := drop_cut s t (p + 1) (p + 1 + d) (by omega) M h2 d (by omega)
          obtain ⟨fv, rfl⟩ : ∃ fv, fu = fv + 1 := ⟨fu - 1, by omega⟩
          have hne : acc ++ [(⟨c, M.take d⟩ : SubD)] ≠ [] := by simp
          simp only [after, hd, List.nil_append]
          cases hm : M.drop d with
          | nil =>
            have hd2 : d = M.length := by have := List.drop_eq_nil_iff.1 hm; omega
            rw [subsA_stop' (more_nil _ hne (by omega))]
            show (endA s t (p + 1 + d)).bind _ = _
            rw [end_nil (hD.trans hm) hts (by omega)]
            show Except.error _ = mapE a (.error _)
            simp only [mapE]; congr 1; omega
          | cons c2 r =>
            have hmr := more_cons (acc ++ [(⟨c, M.take d⟩ : SubD)]) hne (hD.trans hm)
            have hlt : d < M.length := by
              rcases Nat.lt_or_ge d M.length with h | h
              · exact h
              · rw [List.drop_of_length_le h] at hm; cases hm
            have hr2 : r.length = M.length - d - 1 := by have := congrArg List.length hm; simp at this; omega
            simp only
            by_cases h30 : c2.toNat = 30
            · rw [if_pos h30]
              rw [subsA_stop' (hmr.trans (by simp [h30]))]
              show (endA s t (p + 1 + d)).bind _ = _
              rw [end_cons (hD.trans hm) hts, if_pos h30]
              by_cases hr0 : r = []
              · rw [if_pos hr0, if_pos hr0]; rfl
              · rw [if_neg hr0, if_neg hr0]
                show Except.error _ = mapE a (.error _)
                simp only [mapE]; congr 1; omega
            · rw [if_neg h30]
              by_cases h31 : c2.toNat = 31
              · rw [if_pos h31]
                rw [subsA_more' (hmr.trans (by simp [h31]))]
                obtain ⟨g1, g2, g3⟩ := take_cons (P := delimB) (hD.trans hm)
                have := ih r (p + 1 + d + 1) fv (acc ++ [⟨c, M.take d⟩]) (by omega) g2 (by omega) (by omega) (by omega)
                rw [show j + 1 = p + 1 + d + 1 - a from by omega, ← this]
                unfold restA subA
                rw [g1, if_pos (by simp [delimB, h31])]
                rfl
              · rw [if_neg h31]
                rw [subsA_stop' (hmr.trans (by simp [h31]))]
                show (endA s t (p + 1 + d)).bind _ = _
                rw [end_cons (hD.trans hm) hts, if_neg h30]
                show Except.error _ = mapE a (.error _)
                simp only [mapE]; congr 1; omega
      · have hst : fieldStep false (p - a) 31 c ⟨⟨tag, ind, [], acc ++ [⟨0, []⟩]⟩, ch0, false⟩ = none := by
          have : ¬ p - a < 2 := by omega
          simp [fieldStep, this, hs]
        unfold restA
        rw [h1, if_neg hs]
        simp only [fieldGo, hst]
        show Except.error _ = mapE a (.error _)
        simp only [mapE]; congr 1; omega
/-- A field with indicators. -/
theorem law_data (tag s : Bs) (a t : Nat) (hc : ctrlB tag = false) (ha : a < t) (hts : t ≤ s.length) : fieldA tag s a t = mapE a (fieldR tag (sub3 s a t)) := by
  obtain ⟨M, hM⟩ : ∃ M, (s.take t).drop a = M := ⟨_, rfl⟩
  have hR : fieldR tag (sub3 s a t) = fieldGo false M 0 0 ⟨⟨tag, [], [], []⟩, ch0, false⟩ := by unfold fieldR sub3; rw [hc, hM]
  rw [hR]
  unfold fieldA
  rw [if_neg (by rw [hc]; simp)]
  have hlen := len_cut hM hts (by omega)
  cases M with
  | nil => simp at hlen; omega
  | cons c0 M =>
    obtain ⟨h1, h2, h3⟩ := take_cons (P := indicB) hM
    rw [h1]
    simp only [List.length_cons] at hlen
    by_cases hi0 : indicB c0 = true
    · have hs0 : fieldStep false 0 0 c0 ⟨⟨tag, [], [], []⟩, ch0, false⟩ = some ⟨⟨tag, [c0], [], []⟩, ch0, false⟩ := by simp [fieldStep, hi0]
      rw [if_pos hi0]
      show (takeA indicB s t (a + 1)).bind _ = _
      simp only [fieldGo, hs0]
      cases M with
      | nil =>
        rw [(take_nil (P := indicB) h2 hts (by omega)).1]
        show Except.error _ = mapE a (.error _)
        simp at hlen
        simp only [mapE]; congr 1; omega
      | cons c1 M =>
        obtain ⟨g1, g2, g3⟩ := take_cons (P := indicB) h2
        rw [g1]
        simp only [List.length_cons] at hlen
        by_cases hi1 : indicB c1 = true
        · have hs1 : fieldStep false (0 + 1) c0 c1 ⟨⟨tag, [c0], [], []⟩, ch0, false⟩ = some ⟨⟨tag, [c0, c1], [], []⟩, ch0, false⟩ := by simp [fieldStep, hi1]
          rw [if_pos hi1]
          show (subsA (t + 1) s t (a + 2) []).bind _ = _
          simp only [fieldGo, hs1]
          rw [subsA_more' (by simp [moreB])]
          unfold subA
          cases M with
          | nil =>
            rw [(take_nil (P := delimB) g2 hts (by omega)).1]
            show Except.error _ = mapE a (.error _)
            simp at hlen
            simp only [mapE]; congr 1; omega
          | cons c2 M =>
            obtain ⟨k1, k2, k3⟩ := take_cons (P := delimB) g2
            rw [show a + 2 = a + 1 + 1 from rfl, k1]
            by_cases hd : c2.toNat = 31
            · have h31 : c2 = 31 := (u8_eq c2 31 (by omega)).2 hd
              have hs2 : fieldStep false (0 + 1 + 1) c1 c2 ⟨⟨tag, [c0, c1], [], []⟩, ch0, false⟩ = some ⟨⟨tag, [c0, c1], [], [] ++ [⟨0, []⟩]⟩, ch0, false⟩ := by simp [fieldStep, h31, ch0]
              rw [if_pos (by simp [delimB, hd])]
              simp only [fieldGo, hs2]
              rw [h31]
              have := law_rest tag [c0, c1] s a t hts M.length M (a + 3) t [] (Nat.le_refl _) k2 (by omega) (by omega) (by omega)
              rw [show a + 3 - a = 0 + 1 + 1 + 1 from by omega] at this
              rw [← this]
              rfl
            · have h31 : ¬ c2 = 31 := fun e => hd ((u8_eq c2 31 (by omega)).1 e)
              have hs2 : fieldStep false (0 + 1 + 1) c1 c2 ⟨⟨tag, [c0, c1], [], []⟩, ch0, false⟩ = none := by simp [fieldStep, h31, ch0]
              rw [if_neg (by simp [delimB, hd])]
              simp only [fieldGo, hs2]
              show Except.error _ = mapE a (.error _)
              simp only [mapE]; congr 1
        · have hs1 : fieldStep false (0 + 1) c0 c1 ⟨⟨tag, [c0], [], []⟩, ch0, false⟩ = none := by simp [fieldStep, hi1]
          rw [if_neg hi1]
          simp only [fieldGo, hs1]
          show Except.error _ = mapE a (.error _)
          simp only [mapE]; congr 1
    · have hs0 : fieldStep false 0 0 c0 ⟨⟨tag, [], [], []⟩, ch0, false⟩ = none := by simp [fieldStep, hi0]
      rw [if_neg hi0]
      simp only [fieldGo, hs0]
      show Except.error _ = mapE a (.error _)
      simp only [mapE]; congr 1
theorem law_field (tag s : Bs) (a t : Nat) (ha : a < t) (hts : t ≤ s.length) : fieldA tag s a t = mapE a (fieldR tag (sub3 s a t)) := by
  cases hc : ctrlB tag
  · exact law_data tag s a t hc ha hts
  · exact law_ctrl tag s a t hc ha hts
end Go.Proofs.YtfkleeigdplapaaDoor
