/-
  The memory of encode: its beginning, its text's iterator, its marks.
-/
import Derived.Test.YtpkacoknpedolaaDoorD4
import Derived.Test.YtpkacoknpedolaaDoorTail
import Derived.Lib.MapLaws
import Derived.Lib.RuneCountTail
namespace Go.Proofs.YtpkacoknpedolaaDoor
open Go.RowKit Go.Maps

theorem i66 : (Tryd.prog.info? 66).map (fun i => (i.zero, i.size, i.bytes)) = some (some (.map none), 1, 8) := by kernel_rfl
/-- The encoder while its byte maps are made. -/
structure SetUp (E bs ru rm : Nat) (w wr : World) (i : Nat) (v : Value) : Prop where
  below : Below w.heap.size w wr
  size : E + 1 ≤ wr.heap.size
  sets : SetsAt wr (.slice (some ⟨bs, 0, none⟩) 3 3)
  cell : wr.heap[E]? = some (.cells #[.pointer none, .slice none 0 0, .slice (some ⟨bs, 0, none⟩) 3 3, v, .map (some ru), .map (some rm), .int .i64 0, .slice none 0 0] 70 (0, 0))
  up : ∃ n, MapR wr ru n upR
  mark : ∃ n, MapR wr rm n mkR
  row : ∃ rs : List Nat, wr.ownsRow (E + 1) 66 1 v i (rs.map fun r => Value.map (some r)) ∧ ∀ j r, rs[j]? = some r → ∃ n, MapR wr r n (stR j)
theorem MapR.below {w w' : World} {b n : Nat} {g : Nat → Option Nat} (h : MapR w b n g) (hb : Below w.heap.size w w') : MapR w' b n g := h.maps (MapsKept.below hb)
theorem SetsAt.below {w w' : World} {bs : Nat} (h : SetsAt w (.slice (some ⟨bs, 0, none⟩) 3 3)) (hb : Below w.heap.size w w') : SetsAt w' (.slice (some ⟨bs, 0, none⟩) 3 3) := by
  have hlt : bs < w.heap.size := by obtain ⟨b, _, _, _, _, _, _, hv, hlt, _⟩ := h; cases hv; exact hlt
  exact h.maps hb.size (hb.block bs hlt) (MapsKept.below hb)
theorem setUp_new {w w5 : World} {bs ru rm n m : Nat} (hb : Below w.heap.size w w5) (hs : SetsAt w5 (.slice (some ⟨bs, 0, none⟩) 3 3)) (hu : MapR w5 ru n upR) (hm : MapR w5 rm m mkR) :
    SetUp w5.heap.size bs ru rm w (w5.alloc (.cells #[.pointer none, .slice none 0 0, .slice (some ⟨bs, 0, none⟩) 3 3, .slice none 0 0, .map (some ru), .map (some rm), .int .i64 0, .slice none 0 0] 70)) 0 (.slice none 0 0) :=
  ⟨btr hb (alloc_below1 _ _) hb.size, by simp, hs.below (alloc_below1 _ _), Array.getElem?_push_size, ⟨_, hu.below (alloc_below1 _ _)⟩, ⟨_, hm.below (alloc_below1 _ _)⟩, [], World.ownsRow_nil _ _ _ _, fun j r h => by simp at h⟩
/-- One more map of bytes. -/
theorem SetUp.more {E bs ru rm : Nat} {w wr W w8 : World} {i : Nat} {v v' : Value} (h : SetUp E bs ru rm w wr i v) (hE : w.heap.size ≤ E) (hsE : bs < E) (hb : Below wr.heap.size wr W) {r n : Nat} (hr : MapR W r n (stR i)) {rs : List Nat}
    (hown : wr.ownsRow (E + 1) 66 1 v i (rs.map fun r => Value.map (some r))) (hrs : ∀ j r, rs[j]? = some r → ∃ n, MapR wr r n (stR j))
    (hg : W.grownBy w8 v.ownBlock) (ho : w8.ownsRow (E + 1) 66 1 v' (i + 1) ((rs.map fun r => Value.map (some r)) ++ [.map (some r)])) :
    SetUp E bs ru rm w (w8.setCell ⟨E, 3, none⟩ v') (i + 1) v' := by
  have hz := h.size
  have hz2 := hb.size
  have hz3 := hg.size
  have hv : ∀ k, v.ownBlock = some k → E + 1 ≤ k ∧ k < wr.heap.size := hown.lt
  have hcE : W.heap[E]? = _ := (hb.block E (by omega)).trans h.cell
  have h8E : w8.heap[E]? = _ := (hg.block E (by omega) (fun e => by have := (hv E e.symm).1; omega)).trans hcE
  -- no map turns
  have hk1 : MapsKept wr W := MapsKept.below hb
  have hk2 : MapsKept W w8 := fun k es c hk => by
    refine hg.block k (Array.getElem?_eq_some_iff.1 hk).1 (fun e => ?_)
    have hlt := (hv k e.symm).2
    rcases hown.2 with ⟨rfl, _⟩ | ⟨q, cap, cur, rfl, _, hq, _⟩
    · cases e
    · have e' : k = q := by injection e
      subst e'
      rw [hb.block k hlt, hq] at hk; cases hk
  have hk3 : MapsKept w8 (w8.setCell ⟨E, 3, none⟩ v') := MapsKept.cells h8E 3 v'
  have hk := (hk1.trans hk2).trans hk3
  have hbs : (w8.setCell ⟨E, 3, none⟩ v').heap[bs]? = wr.heap[bs]? := by
    rw [Below.heap_setCell _ _ _ _ (by show bs ≠ E; omega), hg.block bs (by omega) (fun e => by have := (hv bs e.symm).1; omega), hb.block bs (by omega)]
  obtain ⟨n1, h1⟩ := h.up
  obtain ⟨n2, h2⟩ := h.mark
  refine ⟨?_, by simp; omega, h.sets.maps (by simp; omega) hbs hk, ?_, ⟨n1, h1.maps hk⟩, ⟨n2, h2.maps hk⟩, rs ++ [r], ?_, ?_⟩
  · have hB : Below E wr w8 := ⟨hg.os.trans hb.os, hg.tape.trans hb.tape, hg.output.trans hb.output, by omega, fun k hk => (hg.block k (by omega) (fun e => by have := (hv k e.symm).1; omega)).trans (hb.block k (by omega))⟩
    exact h.below.trans ((hB.setCell (Nat.le_refl _) v').mono hE)
  · rw [set_cells h8E]; rfl
  · rw [List.map_append]
    exact ownr_far ho (fun k hk => Below.heap_setCell _ _ _ _ (by show k ≠ E; have := (ho.lt k hk).1; omega))
  · have hlen : rs.length = i := by have := hown.1; simpa using this
    intro j r' hj
    rcases Nat.lt_or_ge j i with hji | hji
    · rw [List.getElem?_append_left (by omega)] at hj
      obtain ⟨n3, h3⟩ := hrs j r' hj
      exact ⟨n3, h3.maps hk⟩
    · have hji2 : j = i := by
        have := (List.getElem?_eq_some_iff.1 hj).1
        simp at this; omega
      subst hji2
      rw [List.getElem?_append_right (by omega), hlen] at hj
      simp at hj; subst hj
      exact ⟨n, (hr.maps hk2).maps hk3⟩
structure RegB (E T m : Nat) (v : Value) (w : World) : Prop where
  c0 : w.cell? ⟨E, 3, none⟩ = some v
  c1 : w.cell? ⟨T, 1, none⟩ = some (.map (some m))
theorem RegB.below {E T m : Nat} {v : Value} {w w' : World} (h : RegB E T m v w) (hb : Below w.heap.size w w') : RegB E T m v w' := ⟨bext hb _ _ h.c0, bext hb _ _ h.c1⟩
theorem set_map {w : World} {bs n : Nat} (h : SetsAt w (.slice (some ⟨bs, 0, none⟩) 3 3)) (hn : n < 3) : ∃ m k, w.cell? ⟨bs, n * 2 + 1, none⟩ = some (.map (some m)) ∧ MapB w m k (tabF (setT n)) := by
  obtain ⟨b, m0, m1, m2, n0, n1, n2, hv, _, ⟨c0, c1, c2, c3, c4, c5⟩, M0, M1, M2⟩ := h
  cases hv
  match n, hn with
  | 0, _ => exact ⟨_, _, c1, M0⟩
  | 1, _ => exact ⟨_, _, c3, M1⟩
  | 2, _ => exact ⟨_, _, c5, M2⟩

theorem dec_fact (s : ByteArray) (i : Nat) (h : i < s.size) : 1 ≤ (Utf8.decode s i).2 ∧ i + (Utf8.decode s i).2 ≤ s.size ∧ (Utf8.decode s i).1 < 2147483648 := by
  rw [Lib.decode_at]
  have h0 := (s.get! i).toNat_lt
  rcases Lib.decodeN_shape (s.size - i) (s.get! i).toNat (s.get! (i + 1)).toNat (s.get! (i + 2)).toNat (s.get! (i + 3)).toNat with ⟨_, e⟩ | ⟨_, _, _, _, e⟩ | ⟨_, _, _, _, _, _, e⟩ | ⟨_, _, _, _, _, _, _, e⟩ | e <;> rw [e] <;> simp only <;> refine ⟨by omega, by omega, by omega⟩
/-- A block that is none of the encoder's turns. -/
theorem EncSt.other {B E Z bs bb cp mu mk mc I : Nat} {w wr w' : World} {e : ES} (_ : Dim2 B E Z bs bb) (h : EncSt B E Z bs bb cp mu mk mc w wr e) (hI : I < Z) (hE : I ≠ E) (hs : I ≠ bs) (ht : I ≠ bb)
    (hb : Below B wr w') (hk : ∀ k, k ≠ I → w'.heap[k]? = wr.heap[k]?) (hm : MapsKept wr w') : EncSt B E Z bs bb cp mu mk mc w w' e := by
  obtain ⟨g, pv, H, hp, hne⟩ := h.ex
  refine ⟨h.below.trans hb, Nat.le_trans h.size hb.size, h.env.maps hb.size (hk bs (Ne.symm hs)) (hk bb (Ne.symm ht)) hm, h.now, g, pv, H.keep (hk E (Ne.symm hE)) (fun k e => hk k ?_), ownr_far hp (fun k e => hk k ?_), hne⟩
  · have := (H.row k e).1; omega
  · have := (hp.lt k e).1; omega
theorem EncSt.iter {B E Z bs bb cp mu mk mc I : Nat} {w wr : World} {e : ES} (D : Dim2 B E Z bs bb) (h : EncSt B E Z bs bb cp mu mk mc w wr e) (hI : I < Z) (hB : B ≤ I) (hE : I ≠ E) (hs : I ≠ bs) (ht : I ≠ bb) {s : ByteArray} {p : Nat} (hit : wr.heap[I]? = some (.stringIter s p)) (p' : Nat) : EncSt B E Z bs bb cp mu mk mc w (wr.iterAt I s p') e :=
  h.other D hI hE hs ht (Lib.below_iterAt (Below.refl _ _) hB s p') (fun k hk => Lib.iterAt_other _ _ _ _ _ hk) (fun k es c hk => Lib.iterAt_other _ _ _ _ _ (fun e2 => by subst e2; rw [hit] at hk; cases hk))
/-- One more mark behind what waits. -/
theorem EncSt.pendMore {B E Z bs bb cp mu mk mc : Nat} {w wr W w8 : World} {e : ES} {g : Option Nat} {pv pv' : Value} (D : Dim2 B E Z bs bb) (h : EncSt B E Z bs bb cp mu mk mc w wr e)
    (H : Bld (encK bs bb cp mu mk e.now pv) Z E g e.out wr) (hp : wr.ownsRow Z 5 1 pv e.pend.length (Lib.byteCells e.pend)) (hne : ∀ k, g = some k → pv.ownBlock ≠ some k)
    (hb : Below wr.heap.size wr W) (hg : W.grownBy w8 pv.ownBlock) {b : Nat} (hb2 : b < 256) (ho : w8.ownsRow Z 5 1 pv' (e.pend.length + 1) (Lib.byteCells e.pend ++ [.int .u8 b])) (hat : pv.ownBlock = pv'.ownBlock ∨ ∃ q, pv'.ownBlock = some q ∧ wr.heap.size ≤ q) :
    EncSt B E Z bs bb cp mu mk mc w (w8.setCell ⟨E, 7, none⟩ pv') { e with pend := e.pend ++ [UInt8.ofNat b] } ∧ Keeps E wr (w8.setCell ⟨E, 7, none⟩ pv') := by
  have hz := h.size
  have hz2 := hb.size
  have hz3 := hg.size
  have hv := hp.lt
  have hE := H.old
  have hD := D.e
  obtain ⟨p, v, hc, _⟩ := H.kcells
  have f1 : Fr E pv.ownBlock wr w8 := ⟨hg.os.trans hb.os, hg.tape.trans hb.tape, hg.output.trans hb.output, by omega, fun k hk _ h2 => (hg.block k (by omega) h2).trans (hb.block k hk)⟩
  have hEv : some E ≠ pv.ownBlock := fun e2 => by have := (hv E e2.symm).1; omega
  have h8 : w8.heap[E]? = _ := ((hg.block E (by omega) hEv).trans (hb.block E hE)).trans hc
  have hkr : Keeps E wr w8 := fun k o hk _ ho => by
    have hlt := (Array.getElem?_eq_some_iff.1 hk).1
    refine ((hg.block k (by omega) (fun e2 => ?_)).trans (hb.block k hlt)).trans hk
    rcases hp.2 with ⟨rfl, _⟩ | ⟨q, cap, cur, rfl, _, hq, _⟩
    · cases e2
    · have e3 : k = q := by injection e2
      subst e3
      rw [hq] at hk; injection hk with hk; exact ho _ _ hk.symm
  have hmk : MapsKept wr (w8.setCell ⟨E, 7, none⟩ pv') := by
    refine MapsKept.trans (fun k es c hk => ?_) (MapsKept.cells h8 7 pv')
    rw [hk]
    refine hkr k _ hk (fun e2 => ?_) (fun _ _ e2 => by cases e2)
    subst e2; rw [hc] at hk; cases hk
  have H8 : Bld (encK bs bb cp mu mk e.now pv) Z E g e.out w8 := H.keep ((hg.block E (by omega) hEv).trans (hb.block E hE)) (fun k hk => by
    have hr := H.row k hk
    exact (hg.block k (by omega) (fun e2 => hne k hk e2.symm)).trans (hb.block k hr.2))
  refine ⟨h.turn D (g := pv.ownBlock) (fun k e2 => (hv k e2).1) (f1.trans (setCell_fr E 7 _ _) (fun j ej => by cases ej)) hmk h.now (H8.field 5 pv') (ownr_far (w := w8) ?_ (fun k hk => ?_)) (fun k hk e2 => ?_), hkr.trans (Keeps.set w8 7 _)⟩
  · have hbu : (UInt8.ofNat b).toNat = b := UInt8.toNat_ofNat_of_lt' hb2
    simpa [Lib.byteCells, hbu] using ho
  · exact Below.heap_setCell _ _ _ _ (by show k ≠ E; have := (ho.lt k hk).1; omega)
  · rcases hat with h1 | ⟨q, h1, h2⟩
    · exact hne k hk (h1.trans e2)
    · rw [h1] at e2; injection e2 with e2; subst e2
      have := (H.row q hk).2; omega
theorem row_three {E : Nat} {w : World} {v : Value} {rs : List Nat} (h : w.ownsRow (E + 1) 66 1 v 3 (rs.map fun r => Value.map (some r))) : ∃ bb cp r0 r1 r2, v = .slice (some ⟨bb, 0, none⟩) 3 cp ∧ E + 1 ≤ bb ∧ bb < w.heap.size ∧ rs = [r0, r1, r2] ∧ w.cell? ⟨bb, 0, none⟩ = some (.map (some r0)) ∧ w.cell? ⟨bb, 1, none⟩ = some (.map (some r1)) ∧ w.cell? ⟨bb, 2, none⟩ = some (.map (some r2)) := by
  have hl : rs.length = 3 := by have := h.1; simpa using this
  match rs, hl with
  | [r0, r1, r2], _ =>
    rcases h.2 with ⟨_, h0⟩ | ⟨q, cap, cur, rfl, hq, hh, _⟩
    · omega
    · have hc := fun j hj => h.cellAt j hj
      exact ⟨q, cap, r0, r1, r2, rfl, hq, (Array.getElem?_eq_some_iff.1 hh).1, rfl, hc 0 (by omega), hc 1 (by omega), hc 2 (by omega)⟩
/-- The encoder is laid. -/
theorem setUp_done {E bs ru rm Z mc nc : Nat} {w wr W : World} {v : Value} (h : SetUp E bs ru rm w wr 3 v) (hE : w.heap.size ≤ E) (hsE : bs < E) (hb : Below wr.heap.size wr W) (hz : wr.heap.size ≤ Z) (hz2 : Z ≤ W.heap.size) (hc : MapC W mc nc (tabC compT)) :
    ∃ bb cp, v = .slice (some ⟨bb, 0, none⟩) 3 cp ∧ EncSt w.heap.size E Z bs bb cp ru rm mc w W ⟨[], 0, []⟩ ∧ Dim2 w.heap.size E Z bs bb ∧ bb < wr.heap.size := by
  obtain ⟨rs, hown, hrs⟩ := h.row
  obtain ⟨bb, cp, r0, r1, r2, rfl, hq, hqz, rfl, c0, c1, c2⟩ := row_three hown
  obtain ⟨n0, R0⟩ := hrs 0 r0 rfl
  obtain ⟨n1, R1⟩ := hrs 1 r1 rfl
  obtain ⟨n2, R2⟩ := hrs 2 r2 rfl
  obtain ⟨n3, hu⟩ := h.up
  obtain ⟨n4, hm⟩ := h.mark
  have hsz := h.size
  have hD : Dim2 w.heap.size E Z bs bb := ⟨hE, by omega, by omega, by omega, by omega, by omega⟩
  refine ⟨bb, cp, rfl, ⟨btr h.below hb h.below.size, hz2, ⟨h.sets.below hb, ⟨r0, r1, r2, n0, n1, n2, bext hb _ _ c0, bext hb _ _ c1, bext hb _ _ c2, R0.below hb, R1.below hb, R2.below hb⟩, ⟨n3, hu.below hb⟩, ⟨n4, hm.below hb⟩, ⟨nc, hc⟩⟩, by simp, none, .slice none 0 0, ?_, World.ownsRow_nil _ _ _ _, fun k e => by cases e⟩, hD, hqz⟩
  exact ⟨hD.e, .inr ⟨rfl, rfl⟩, .pointer none, .slice none 0 0, (hb.block E (by omega)).trans h.cell, .inl rfl, World.ownsRow_nil _ _ _ _, rfl, fun _ => rfl⟩
end Go.Proofs.YtpkacoknpedolaaDoor
