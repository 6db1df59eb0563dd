/-
  The vault's calls on a state: what Append, Replace and Open make of it.
-/
import Derived.Test.YtgdkdihedgiegaaDoorV16
namespace Go.Proofs.YtgdkdihedgiegaaDoor
open Go.RowKit

/-- A disk with power in block b, whose contents are clean, of a state. -/
structure DS (F : Nat → Prop) (w : World) (b : Nat) (sn : Bs) (tl : List Bs) (c : Bs) (l : Int) : Prop where
  disk : DiskAt F w b (onD c l)
  clean : CleanC c sn tl
  fit : (imageR sn tl).length ≤ 20000
  cl : c.length ≤ 100000
  lo : -1 ≤ l
  hi : l ≤ 1000
/-- A vault of it in block g. -/
structure VS (F : Nat → Prop) (w : World) (g b : Nat) (sn : Bs) (tl : List Bs) (c : Bs) (l : Int) : Prop where
  ds : DS F w b sn tl c l
  vd : VD F w g b ((64 + (imageR sn tl).length : Nat) : Int) tl.length false (onD c l)
theorem DS.ok {F : Nat → Prop} {w : World} {b : Nat} {sn : Bs} {tl : List Bs} {c : Bs} {l : Int} (h : DS F w b sn tl c l) : OkD (onD c l) :=
  ⟨h.lo, h.hi, fun hf => absurd hf (by simp [onD]), Nat.le_trans h.cl (by omega)⟩
theorem VS.below {F : Nat → Prop} {w w' : World} {g b : Nat} {sn : Bs} {tl : List Bs} {c : Bs} {l : Int} (h : VS F w g b sn tl c l) (hb : Below w.heap.size w w') : VS F w' g b sn tl c l :=
  ⟨⟨h.ds.disk.below hb, h.ds.clean, h.ds.fit, h.ds.cl, h.ds.lo, h.ds.hi⟩, h.vd.below hb⟩
theorem tail_len (sn : Bs) (tl : List Bs) : tl.length ≤ (imageR sn tl).length := by
  have := frames_len tl; unfold imageR; simp only [List.length_append]; omega
theorem rec_len (sn : Bs) (tl : List Bs) (r : Bs) (h : r ∈ tl) : r.length ≤ (imageR sn tl).length := by
  obtain ⟨s, t, rfl⟩ := List.append_of_mem h
  unfold imageR
  rw [List.flatMap_append, List.flatMap_cons]
  simp only [List.length_append, frameR, List.length_cons]
  omega
theorem snap_len (sn : Bs) (tl : List Bs) : sn.length ≤ (imageR sn tl).length := by
  unfold imageR; simp only [List.length_append]; omega
/-- The post of a call that turns the state. -/
def TurnPost (F : Nat → Prop) (g b : Nat) (sn : Bs) (tl : List Bs) (l : Int) (w : World) (e : Ending) (w' : World) : Prop :=
  e = .returned (.int .i64 0) ∧ ∃ F' c, VS F' w' g b sn tl c l ∧ Step (With F g) w (With F' g) w'
theorem append_S (F : Nat → Prop) (w : World) (g b : Nat) (sn : Bs) (tl : List Bs) (c : Bs) (l : Int) (h : VS F w g b sn tl c l) (r : Bs) (hf : (imageR sn (tl ++ [r])).length ≤ 20000) :
    Calls Tryd.prog 21 #[.pointer (some ⟨g, 0, none⟩), S r] w (TurnPost F g b sn (tl ++ [r]) l w) := by
  have hi := image_snoc sn tl r
  have hl : (imageR sn (tl ++ [r])).length = (imageR sn tl).length + (frameR r).length := by rw [hi, List.length_append]
  have hr := rec_len sn (tl ++ [r]) r (by simp)
  have ht := tail_len sn tl
  have hfit := h.ds.fit
  refine (append_21 F w g b (64 + (imageR sn tl).length) tl.length (onD c l) h.vd h.ds.ok (by simp [onD]) r (by omega) (by omega) (by omega)).mono ?_
  rintro e w' ⟨rfl, F', hv, hst⟩
  rw [run_on] at hv ⊢
  simp only [if_pos] at hv
  refine ⟨rfl, F', _, ⟨⟨hv.disk, clean_append h.ds.clean r, hf, ?_, h.ds.lo, h.ds.hi⟩, ?_⟩, hst⟩
  · rw [append_len]; have := h.ds.cl; omega
  · have h2 : ((tl ++ [r]).length : Int) = ((tl.length + 1 : Nat) : Int) := by simp
    rw [hl, h2, ← Nat.add_assoc]
    exact hv
theorem replace_S (F : Nat → Prop) (w : World) (g b : Nat) (sn : Bs) (tl : List Bs) (c : Bs) (l : Int) (h : VS F w g b sn tl c l) (sn' : Bs) (tv : Value) (tl' : List Bs) (ht : TailAt w tv tl') (hf : (imageR sn' tl').length ≤ 20000) :
    Calls Tryd.prog 22 #[.pointer (some ⟨g, 0, none⟩), S sn', tv] w (TurnPost F g b sn' tl' l w) := by
  have hfit := h.ds.fit
  refine (replace_22 F w g b (64 + (imageR sn tl).length) tl.length (onD c l) h.vd h.ds.ok (by simp [onD]) sn' tv tl' ht (by omega) (by omega)).mono ?_
  rintro e w' ⟨rfl, F', hv, hst⟩
  rw [run_on] at hv ⊢
  simp only [if_pos] at hv
  refine ⟨rfl, F', _, ⟨⟨hv.disk, clean_replace h.ds.clean sn' tl', hf, ?_, h.ds.lo, h.ds.hi⟩, hv⟩, hst⟩
  rw [replace_len]
  have := h.ds.cl
  have := kR_ge (64 + (imageR sn tl).length) (imageR sn' tl').length
  omega
/-- The post of Open. -/
def OpenedPost (F : Nat → Prop) (b : Nat) (sn : Bs) (tl : List Bs) (l : Int) (w : World) (e : Ending) (w' : World) : Prop :=
  ∃ F' g v c, e = .returned (.tuple #[.pointer (some ⟨g, 0, none⟩), S sn, v, .int .i64 0]) ∧ VS F' w' g b sn tl c l ∧ SliceAt w.heap.size w'.heap.size w' v tl.length (tl.map S) ∧ Step F w (With F' g) w' ∧ w.heap.size ≤ g
theorem open_any (F : Nat → Prop) (w : World) (b : Nat) (D : DiskD) (c : Bs) (l : Int) (hd : DiskAt F w b D) (hs : syncD D = (onD c l, 0)) (hnow : D.now = c) (hok : OkD D) (sn x : Bs) (tl : List Bs) (st : List (Nat × Bs)) (ho : openR c = some (sn, tl, x, st)) (hf : (imageR sn tl).length ≤ 20000) (hcl : c.length ≤ 100000) (hlo : -1 ≤ l) (hhi : l ≤ 1000) :
    Calls Tryd.prog 13 #[.pointer (some ⟨b, 0, none⟩)] w (OpenedPost F b sn tl l w) := by
  refine (open_13 F w b D hd hok (by rw [hnow]; omega)).mono ?_
  intro e w' h
  unfold OpenPost at h
  rw [hs, if_pos rfl] at h
  simp only [show (onD c l).now = c from rfl, ho, run_on, if_true] at h
  obtain ⟨F', g, v, rfl, hv, hsl, hst, hg⟩ := h
  obtain ⟨h1, h2, h3⟩ := open_to ho
  rw [h3] at hv
  exact ⟨F', g, v, _, rfl, ⟨⟨hv.disk, h1, hf, by rw [h2]; exact hcl, hlo, hhi⟩, hv⟩, hsl, hst, hg⟩
theorem open_S (F : Nat → Prop) (w : World) (b : Nat) (sn : Bs) (tl : List Bs) (c : Bs) (l : Int) (h : DS F w b sn tl c l) :
    Calls Tryd.prog 13 #[.pointer (some ⟨b, 0, none⟩)] w (OpenedPost F b sn tl l w) := by
  obtain ⟨x, st, ho⟩ := open_of h.clean (by have := snap_len sn tl; have := h.fit; omega) (fun r hr => by have := rec_len sn tl r hr; have := h.fit; omega)
  exact open_any F w b (onD c l) c l h.disk (sync_on c l) rfl h.ok sn x tl st ho h.fit h.cl h.lo h.hi
theorem new_S (w : World) : Calls Tryd.prog 12 #[] w fun e w' => e = .returned (.pointer (some ⟨w.heap.size, 0, none⟩)) ∧ DS (fun k => k = w.heap.size) w' w.heap.size [] [] [] 0 ∧ Below w.heap.size w w' ∧ w'.heap.size = w.heap.size + 1 := by
  refine (new_12 w).mono ?_
  rintro e w' ⟨rfl, hd, hb, hs⟩
  exact ⟨rfl, ⟨hd, clean_nil, by rw [image_nil]; omega, by simp, by omega, by omega⟩, hb, hs⟩
theorem contents_S (F : Nat → Prop) (w : World) (b : Nat) (sn : Bs) (tl : List Bs) (c : Bs) (l : Int) (h : DS F w b sn tl c l) :
    Calls Tryd.prog 18 #[.pointer (some ⟨b, 0, none⟩)] w fun e w' => e = .returned (S (trimR (cleanR sn tl))) ∧ Below w.heap.size w w' := by
  have := contents_18 F w b (onD c l) h.disk (Nat.le_trans h.cl (by omega))
  rw [show (onD c l).now = c from rfl, h.clean.trim] at this
  exact this
theorem is_S (F : Nat → Prop) (w : World) (g b : Nat) (sn : Bs) (tl : List Bs) (c : Bs) (l : Int) (h : VS F w g b sn tl c l) (v1 v2 : Value) (h1 : TailAt w v1 tl) (h2 : TailAt w v2 tl) :
    Calls Tryd.prog 15 #[.pointer (some ⟨b, 0, none⟩), .pointer (some ⟨g, 0, none⟩), S sn, v1, .int .i64 0, .agg #[S sn, v2]] w fun e w' => e = .returned (.bool true) ∧ Below w.heap.size w w' :=
  is_15 F w g b _ sn tl c l h.vd h.ds.clean (Nat.le_trans h.ds.cl (by omega)) (Nat.le_trans h.ds.fit (by omega)) v1 v2 h1 h2
end Go.Proofs.YtgdkdihedgiegaaDoor
