/-
  Writing to a disk and syncing it, plain; what these leave in memory; a string's bytes as a new block.
-/
import Derived.Test.YtgdkdihedgiegaaDoorD3
import Derived.Lib.ConvBytes
namespace Go.Proofs.YtgdkdihedgiegaaDoor
open Go.RowKit

/-- A write's pieces, sector by sector. -/
def chunksR (off : Nat) (s : Bs) : List (Nat × Bs) :=
  if h : s = [] then [] else (off, s.take (64 - off % 64)) :: chunksR (off + min (64 - off % 64) s.length) (s.drop (64 - off % 64))
termination_by s.length
decreasing_by
  have : 0 < s.length := List.length_pos_iff.2 h
  simp
  omega
theorem chunks_nil (off : Nat) : chunksR off [] = [] := by rw [chunksR]; simp
theorem chunks_cons (off : Nat) (s : Bs) (h : s ≠ []) (n : Nat) (hn : n = min (64 - off % 64) s.length) : chunksR off s = (off, s.take n) :: chunksR (off + n) (s.drop n) := by
  rw [chunksR, dif_neg h, ← hn]
  have h1 : s.take (64 - off % 64) = s.take n := by
    subst hn
    by_cases hh : 64 - off % 64 ≤ s.length
    · rw [Nat.min_eq_left hh]
    · rw [Nat.min_eq_right (by omega), List.take_of_length_le (by omega), List.take_length]
  have h2 : s.drop (64 - off % 64) = s.drop n := by
    subst hn
    by_cases hh : 64 - off % 64 ≤ s.length
    · rw [Nat.min_eq_left hh]
    · rw [Nat.min_eq_right (by omega), List.drop_of_length_le (by omega), List.drop_length]
  rw [h1, h2]
def writeD (D : DiskD) (off : Nat) (s : Bs) : DiskD × Int := match powerD D with
  | none => (D, 70)
  | some D' => ({ D' with now := putR D'.now off s, pcs := D'.pcs ++ chunksR off s }, 0)
def syncD (D : DiskD) : DiskD × Int := match powerD D with
  | none => (D, 70)
  | some D' => ({ D' with syn := D'.now, pcs := [] }, 0)

/-! A string's bytes. -/
def capR (w : World) (l : Bs) : Nat := grownCap w (⟨l.toArray⟩ : ByteArray).size 0 5
def bytesW (w : World) (l : Bs) : World := Lib.bytesWorld w 5 ⟨l.toArray⟩
theorem conv_rule (w : World) (l : Bs) : (convert 9 51 (S l)).run Tryd.prog w = .ok (.slice (some ⟨w.heap.size, 0, none⟩) l.length (capR w l)) (bytesW w l) :=
  Lib.run_convert_string_bytes w 9 51 5 ⟨l.toArray⟩ Tryd.underlying9 Tryd.underlying51 Tryd.underlying5
theorem bytesW_size (w : World) (l : Bs) : (bytesW w l).heap.size = w.heap.size + 1 := Lib.bytesWorld_size w 5 _
theorem freeze_os (w : World) (a : Addr) (n : Nat) : (w.freeze a n).os = w.os ∧ (w.freeze a n).tape = w.tape ∧ (w.freeze a n).output = w.output := by
  unfold World.freeze
  split <;> exact ⟨rfl, rfl, rfl⟩
theorem bytesW_below (w : World) (l : Bs) : Below w.heap.size w (bytesW w l) := by
  obtain ⟨h1, h2, h3⟩ := freeze_os (w.drew.alloc (.cells (Lib.bytesCells w 5 ⟨l.toArray⟩) 5)) ⟨w.heap.size, (Lib.bytesCells w 5 ⟨l.toArray⟩).size, none⟩ 1
  exact ⟨h1, h2, h3, by rw [bytesW_size]; omega, fun k hk => Lib.bytesWorld_at_old w 5 _ k hk⟩
theorem bytesW_text (w : World) (l : Bs) : TextAt (bytesW w l) (.slice (some ⟨w.heap.size, 0, none⟩) l.length (capR w l)) l w.heap.size := by
  refine ⟨⟨_, _, _, rfl, Lib.bytesWorld_at_new w 5 _, ?_⟩⟩
  simp only [Lib.bytesCells, Array.toList_append, Array.toList_map]
  exact List.take_left' (by simp)
theorem drew_rule (w : World) : w.drew.heap = w.heap := rfl

/-- The contents are stored anew. -/
theorem DiskR.putNow {F : Nat → Prop} {w w1 : World} {b : Nat} {vn vs vp vn' : Value} {c : Int} {D : DiskD} {now' : Bs} (h : DiskR F w b vn vs vp c D) (h1 : ByteRow w1 vn' now') (ho : w.grownBy w1 vn.ownBlock) (hat : vn'.ownBlock = vn.ownBlock ∨ ∃ k, vn'.ownBlock = some k ∧ w.heap.size ≤ k) :
    ∃ F', DiskR F' (w1.setCell ⟨b, 0, none⟩ vn') b vn' vs vp c { D with now := now' } ∧ Step F w F' (w1.setCell ⟨b, 0, none⟩ vn') := by
  obtain ⟨n1, n2, n3⟩ := h.ne
  have hb : b < w.heap.size := blk_lt h.blk
  have hlt1 : ∀ k, vn'.ownBlock = some k → k < w1.heap.size := fun k hk => row_lt h1 k hk
  have old : ∀ k, k < w.heap.size → k ≠ b → vn.ownBlock ≠ some k → (w1.setCell ⟨b, 0, none⟩ vn').heap[k]? = w.heap[k]? := fun k hk hkb hn => by
    rw [Below.heap_setCell _ _ _ _ hkb]
    exact ho.block k hk (fun e => hn e.symm)
  have hb1 : w1.heap[b]? = some (.cells (diskCells vn vs vp c D.failing D.left) 71 (0, 0)) := (ho.block b hb (fun e => n1 e.symm)).trans h.blk
  have hnb : vn'.ownBlock ≠ some b := fun e => by obtain ⟨cur, hc⟩ := row_type h1 e; exact type_ne hc hb1 (by decide) rfl
  have hsv : ∀ k, vs.ownBlock = some k → vn.ownBlock ≠ some k := fun k hk e => h.apart k e hk
  obtain ⟨qs, q1, q2, q3⟩ := h.pcs
  have hpv : ∀ k, vp.ownBlock = some k → vn.ownBlock ≠ some k := fun k hk e => by
    obtain ⟨cur, hc⟩ := row_type q2 hk; obtain ⟨cur', hc'⟩ := row_type h.now e; exact type_ne hc hc' (by decide) rfl
  refine ⟨fun k => F k ∨ vn'.ownBlock = some k, ⟨(blk_set hb1 0 _).trans rfl, ?_, ?_, ?_, ⟨⟨qs, q1, ?_, ?_⟩⟩, .inl h.fb, fun k hk => .inr hk, fun k hk => .inl (h.fs k hk), fun k hk => .inl (h.fp k hk), ?_⟩, ⟨ho.os, ho.tape, ho.output, by simpa using ho.size, ?_, ?_⟩⟩
  · exact row_far h1 (fun g hg => Below.heap_setCell _ _ _ _ (fun (e : g = b) => hnb (e ▸ hg)))
  · exact row_far h.syn (fun g hg => old g (row_lt h.syn g hg) (fun e => n2 (e ▸ hg)) (hsv g hg))
  · intro k hk e
    rcases hat with h2 | ⟨j, h2, hj⟩
    · exact h.apart k (h2 ▸ hk) e
    · rw [h2] at hk; injection hk with hk; have := row_lt h.syn k e; omega
  · exact row_far q2 (fun g hg => old g (row_lt q2 g hg) (fun e => n3 (e ▸ hg)) (hpv g hg))
  · intro q hq
    obtain ⟨g, ht, g1, g2, g3⟩ := q3 q hq
    have hgb : g ≠ b := by
      rintro rfl
      obtain ⟨cap, cur, fr, _, hh, _⟩ := ht
      exact absurd (blk_type hh h.blk) (by decide)
    refine ⟨g, ht.keep (old g (h.lt g g3) hgb g1), ?_, g2, .inl g3⟩
    rcases hat with h2 | ⟨j, h2, hj⟩
    · rw [h2]; exact g1
    · rw [h2]; intro e; injection e with e; have := h.lt g g3; omega
  · intro k hk
    rw [show (w1.setCell ⟨b, 0, none⟩ vn').heap.size = w1.heap.size from by simp]
    rcases hk with hk | hk
    · exact Nat.lt_of_lt_of_le (h.lt k hk) ho.size
    · exact hlt1 k hk
  · intro k hk hn
    exact old k hk (fun e => hn (e ▸ h.fb)) (fun e => hn (h.fn k e))
  · intro k hk
    rcases hk with hk | hk
    · exact .inl hk
    · rcases hat with h2 | ⟨j, h2, hj⟩
      · exact .inl (h.fn k (h2 ▸ hk))
      · rw [h2] at hk; injection hk with hk; exact .inr (by omega)
/-- A piece has been added. -/
theorem DiskR.addPc {F : Nat → Prop} {w w2 w3 : World} {b : Nat} {vn vs vp tv : Value} {c : Int} {D : DiskD} {off : Nat} {s : Bs} {g : Nat} (h : DiskR F w b vn vs vp c D) (hb2 : Below w.heap.size w w2) (ht : TextAt w2 tv s g) (hg : w.heap.size ≤ g)
    (qs : List ((Nat × Bs) × Value)) (q1 : qs.map (·.1) = D.pcs) (q3 : ∀ q ∈ qs, ∃ g, TextAt w q.2 q.1.2 g ∧ vn.ownBlock ≠ some g ∧ vs.ownBlock ≠ some g ∧ F g)
    (ha : AddPost w2 b vn vs vp (.int .i64 c) (.bool D.failing) (.int .i64 D.left) qs.length (qs.flatMap pcCells) [.int .i64 off, tv] w3) :
    ∃ F' vp', DiskR F' w3 b vn vs vp' c { D with pcs := D.pcs ++ [(off, s)] } ∧ Step F w F' w3 := by
  obtain ⟨n1, n2, n3⟩ := h.ne
  obtain ⟨vp', hb3, ho3, hst⟩ := ha
  have hb : b < w.heap.size := blk_lt h.blk
  obtain ⟨qs0, q10, q20, _⟩ := h.pcs
  have hpv : ∀ k v l, ByteRow w v l → v.ownBlock = some k → vp.ownBlock ≠ some k := fun k v l hr hk e => by
    obtain ⟨cur, hc⟩ := row_type q20 e; obtain ⟨cur', hc'⟩ := row_type hr hk; exact type_ne hc hc' (by decide) rfl
  have old : ∀ k, k < w.heap.size → k ≠ b → vp.ownBlock ≠ some k → w3.heap[k]? = w.heap[k]? := fun k hk h1 h2 =>
    (hst.block k (Nat.lt_of_lt_of_le hk hb2.size) (fun e => by rcases e with e | e; exact h1 e; exact h2 e)).trans (hb2.block k hk)
  have hg2 : g < w2.heap.size := by obtain ⟨_, _, _, _, hh, _⟩ := ht; exact blk_lt hh
  have hgb : g ≠ b := by omega
  have hgp : vp.ownBlock ≠ some g := fun e => by have := row_lt q20 g e; omega
  refine ⟨fun k => F k ∨ k = g ∨ vp'.ownBlock = some k, vp', ⟨hb3, ?_, ?_, h.apart, ⟨⟨qs ++ [((off, s), tv)], by simp [q1], ?_, ?_⟩⟩, .inl h.fb, fun k hk => .inl (h.fn k hk), fun k hk => .inl (h.fs k hk), fun k hk => .inr (.inr hk), ?_⟩, ⟨hst.os.trans hb2.os, hst.tape.trans hb2.tape, hst.output.trans hb2.output, Nat.le_trans hb2.size hst.size, ?_, ?_⟩⟩
  · exact row_far h.now (fun k hk => old k (row_lt h.now k hk) (fun e => n1 (e ▸ hk)) (hpv k _ _ h.now hk))
  · exact row_far h.syn (fun k hk => old k (row_lt h.syn k hk) (fun e => n2 (e ▸ hk)) (hpv k _ _ h.syn hk))
  · simpa [pcCells] using ho3
  · intro q hq
    rcases List.mem_append.1 hq with hq | hq
    · obtain ⟨k, t1, t2, t3, t4⟩ := q3 q hq
      have hkl := h.lt k t4
      have hkb : k ≠ b := by
        rintro rfl
        obtain ⟨cap, cur, fr, _, hh, _⟩ := t1
        exact absurd (blk_type hh h.blk) (by decide)
      have hkp : vp.ownBlock ≠ some k := fun e => by
        obtain ⟨cur, hc⟩ := row_type q20 e
        obtain ⟨cap, cur', fr, _, hh, _⟩ := t1
        exact absurd (blk_type hh hc) (by decide)
      exact ⟨k, t1.keep (old k hkl hkb hkp), t2, t3, .inl t4⟩
    · simp at hq
      subst hq
      refine ⟨g, ht.keep (hst.block g hg2 (fun e => by rcases e with e | e; exact hgb e; exact hgp e)), fun e => ?_, fun e => ?_, .inr (.inl rfl)⟩
      · have := row_lt h.now g e; omega
      · have := row_lt h.syn g e; omega
  · intro k hk
    rcases hk with hk | rfl | hk
    · exact Nat.lt_of_lt_of_le (Nat.lt_of_lt_of_le (h.lt k hk) hb2.size) hst.size
    · exact Nat.lt_of_lt_of_le hg2 hst.size
    · exact row_lt ho3 k hk
  · intro k hk hn
    exact old k hk (fun e => hn (e ▸ h.fb)) (fun e => hn (h.fp k e))
  · intro k hk
    rcases hk with hk | rfl | hk
    · exact .inl hk
    · exact .inr hg
    · rcases hst.new k (.inr hk) with (rfl | h1) | h1
      · exact .inl h.fb
      · exact .inl (h.fp k h1)
      · exact .inr (Nat.le_trans hb2.size h1)
end Go.Proofs.YtgdkdihedgiegaaDoor
