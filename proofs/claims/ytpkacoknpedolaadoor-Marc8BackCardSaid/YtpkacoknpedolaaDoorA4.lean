/-
  The walk of run: the characters of a string, numbered.
-/
import Derived.Test.YtpkacoknpedolaaDoorA3
import Derived.Lib.OthersKept
namespace Go.Proofs.YtpkacoknpedolaaDoor
open Go.RowKit Go.Maps

/-- From a place on, a string reads as these characters. -/
def RunesFrom (s : ByteArray) : Nat → List Nat → Prop
  | pos, [] => pos = s.size
  | pos, c :: rs => pos < s.size ∧ (Utf8.decode s pos).1 = c ∧ pos < pos + (Utf8.decode s pos).2 ∧ pos + (Utf8.decode s pos).2 ≤ s.size ∧ RunesFrom s (pos + (Utf8.decode s pos).2) rs
instance : ∀ (s : ByteArray) (pos : Nat) (rs : List Nat), Decidable (RunesFrom s pos rs)
  | s, pos, [] => inferInstanceAs (Decidable (pos = s.size))
  | s, pos, c :: rs => by
    have := instDecidableRunesFrom s (pos + (Utf8.decode s pos).2) rs
    unfold RunesFrom
    infer_instance
theorem numbered_snoc (a : Nat) (l : List Nat) (c : Nat) : numbered a (l ++ [c]) = numbered a l ++ [(a + l.length, c)] := by
  induction l generalizing a with
  | nil => rfl
  | cons d l ih => simp only [List.cons_append, numbered, ih, List.length_cons]; rw [show a + 1 + l.length = a + (l.length + 1) from by omega]
theorem numbered_len (a : Nat) (l : List Nat) : (numbered a l).length = l.length := by
  induction l generalizing a with
  | nil => rfl
  | cons d l ih => simp [numbered, ih]
theorem iterPos_of {w : World} {k : Nat} {s : ByteArray} {p : Nat} (h : w.heap[k]? = some (.stringIter s p)) : w.iterPos k = p := by simp [World.iterPos, h]
theorem ownr_far {w w' : World} {B : Nat} {e : TypeId} {k : Nat} {v : Value} {n : Nat} {xs : List Value} (h : w.ownsRow B e k v n xs) (hk : ∀ g, v.ownBlock = some g → w'.heap[g]? = w.heap[g]?) : w'.ownsRow B e k v n xs := by
  refine ⟨h.1, ?_⟩
  rcases h.2 with hn | ⟨g, cap, cur, hv, hB, hg, hr⟩
  · exact .inl hn
  · exact .inr ⟨g, cap, cur, hv, hB, by rw [hk g (by rw [hv]; simp [Value.ownBlock])]; exact hg, hr⟩
theorem owns_mono {w : World} {B B' : Nat} {e : TypeId} {k : Nat} {v : Value} {n : Nat} {xs : List Value} (h : w.ownsRow B e k v n xs) (hB : B' ≤ B) : w.ownsRow B' e k v n xs := by
  refine ⟨h.1, ?_⟩
  rcases h.2 with hn | ⟨g, cap, cur, hv, hb, hr⟩
  · exact .inl hn
  · exact .inr ⟨g, cap, cur, hv, Nat.le_trans hB hb, hr⟩
set_option maxHeartbeats 1000000 in
set_option maxRecDepth 100000 in
theorem run_41 (a : Nat) (l : Bs) (rs : List Nat) (w : World) (h : RunesFrom ⟨l.toArray⟩ 0 rs) (ha : a + rs.length ≤ 255) (hl : l.length ≤ 1000) :
    Calls Tryd.prog 41 #[.int .u8 a, S l] w fun e w' => ∃ v, e = .returned v ∧ w'.ownsRow w.heap.size 87 2 v rs.length ((numbered a rs).flatMap pairCells) ∧ Below w.heap.size w w' := by
  obtain ⟨i0, hi, hz0, hz1, hz2⟩ := info_parts i87
  have HI := Lib.hid hi
  have HI0 := Lib.hid hz0
  have HI1 := Lib.hid hz1
  have HI2 := Lib.hid hz2
  clear hi hz0 hz1 hz2
  have H0 := Lib.hid h
  clear h
  go_enter Tryd.func41, Tryd.ntmps41
  go_wp2_with fail
  go_loopw [5] (fun o wr => ∃ (pos : Nat) (done rest : List Nat) (v : Value), wr.heap[w.heap.size]? = some (.stringIter ⟨l.toArray⟩ pos) ∧ Below w.heap.size w wr ∧ pos ≤ l.length ∧ Hid (done ++ rest = rs) ∧ Hid (RunesFrom ⟨l.toArray⟩ pos rest) ∧ o = v ∧ Hid (wr.ownsRow (w.heap.size + 1) 87 2 v done.length ((numbered a done).flatMap pairCells))) (fun _ wr => l.length - wr.iterPos w.heap.size)
  case atStart => exact ⟨0, [], rs, .slice none 0 0, World.iter_heap w _ 0, (Below.refl _ _).alloc (Nat.le_refl _) _, by omega, rfl, H0, rfl, World.ownsRow_nil _ _ _ _⟩
  case round =>
    obtain ⟨pos, done, rest, v, hit, hb, hpl, HD, HR, rfl, HO⟩ := hrel
    obtain ⟨va, vc, rfl⟩ := owns_shape HO.out
    have hpos0 := iterPos_of hit
    have hdl : a + done.length + rest.length ≤ 255 := by have := congrArg List.length HD.out; simp at this; omega
    cases rest with
    | nil =>
      have hpe : ¬ pos < (⟨l.toArray⟩ : ByteArray).size := by have : pos = (⟨l.toArray⟩ : ByteArray).size := HR.out; omega
      have hnx : ∀ ty, (Instr.next (.pointer (some ⟨w.heap.size, 0, none⟩)) true ty).run Tryd.prog wr = _ := fun ty => Lib.run_next_end_at wr w.heap.size ⟨l.toArray⟩ pos ty hit hpe
      have hdr : done = rs := by have := HD.out; simpa using this
      go_wp2_with fail
      go_ret
      refine ⟨_, rfl, ?_, hb⟩
      have h1 := HO.out
      rw [hdr] at h1
      rw [hdr]
      exact owns_mono h1 (Nat.le_succ _)
    | cons c rest =>
      obtain ⟨hp, hc, hz1, hz2, hrest⟩ := HR.out
      have hnx : ∀ ty, (Instr.next (.pointer (some ⟨w.heap.size, 0, none⟩)) true ty).run Tryd.prog wr = _ := fun ty => Lib.run_next_any_at wr w.heap.size ⟨l.toArray⟩ pos ty hit hp
      have hit2 := Lib.iterAt_heap wr w.heap.size ⟨l.toArray⟩ pos (pos + (Utf8.decode ⟨l.toArray⟩ pos).2) hit
      have hb2 := Lib.below_iterAt hb (k := w.heap.size) (Nat.le_refl _) ⟨l.toArray⟩ (pos + (Utf8.decode ⟨l.toArray⟩ pos).2)
      have hO2 := ownr_far (w' := wr.iterAt w.heap.size ⟨l.toArray⟩ (pos + (Utf8.decode ⟨l.toArray⟩ pos).2)) HO.out (fun g hg => Lib.iterAt_other _ _ _ _ _ (by have := (HO.out.lt g hg).1; omega))
      have hs2 := Lib.iterAt_size wr w.heap.size ⟨l.toArray⟩ (pos + (Utf8.decode ⟨l.toArray⟩ pos).2)
      rw [hc] at hnx
      generalize (wr.iterAt w.heap.size ⟨l.toArray⟩ (pos + (Utf8.decode ⟨l.toArray⟩ pos).2)) = W1 at *
      generalize (Utf8.decode ⟨l.toArray⟩ pos).2 = z at *
      have HO2 := Lib.hid hO2
      have HREST := Lib.hid hrest
      have hwz : w.heap.size < wr.heap.size := (Array.getElem?_eq_some_iff.1 hit).1
      have hz3 : pos + z ≤ l.length := hz2
      have hdl2 : a + done.length + 1 ≤ 255 := by simp at hdl; omega
      have hs3 : wr.heap.size ≤ W1.heap.size := by omega
      clear hO2 hit hc hrest hz2 hp hs2
      have hitw : ∀ (W1 : World) (v' : Value) (w2 : World) {o : Obj}, (W1.alloc o).grownBy w2 (Value.slice va done.length vc).ownBlock → W1.ownsRow (w.heap.size + 1) 87 2 (.slice va done.length vc) done.length ((numbered a done).flatMap pairCells) → W1.heap[w.heap.size]? = some (.stringIter ⟨l.toArray⟩ (pos + z)) → w.heap.size < W1.heap.size → w2.heap[w.heap.size]? = some (.stringIter ⟨l.toArray⟩ (pos + z)) := by
        intro W1 v' w2 o hg ho hi hlt
        rw [hg.block _ (by simp; omega) (fun e => by have := (ho.lt _ e.symm).1; omega), Below.heap_alloc _ _ _ (by omega)]; exact hi
      have e1 : IntKind.u8.wrap (done.length : Int) = done.length := IntWalk.u8_in _ (by omega)
      have e2 : IntKind.u8.wrap ((a : Int) + done.length) = a + done.length := IntWalk.u8_in _ (by omega)
      go_wp2_with (at_builtin; refine wpList_append_own_at _ rfl _ _ 81 rfl (w.heap.size + 1) 87 i0 (.agg #[.int .u8 0, .int .i32 0]) 2 8 Tryd.underlying81 HI.out HI0.out HI1.out HI2.out rfl (by omega) (.slice va done.length vc) done.length _ rfl (HO2.out.alloc _) ⟨W1.heap.size, 0, none⟩ 1 1 [.int .u8 (a + done.length), .int .i32 c] rfl rfl (cell_two_new _ _ _ _) (by simp [Value.oneCell']) (by unfold maxLen; omega) (by omega) (by simp; omega) ?_; intro v' w2 hown2 hgw _ _; have HOW := Lib.hid hown2; have HGW := Lib.hid hgw; clear hown2 hgw)
      go_roundw
      case rel =>
        refine ⟨pos + z, done ++ [c], rest, v', ?_, (hb2.alloc (by omega) _).grown HGW.out (by simp; omega) (fun g hg => by have := (HO2.out.lt g (by simpa using hg)).1; omega), hz3, ?_, HREST.out, rfl, ?_⟩
        · exact hitw W1 v' w2 HGW.out HO2.out hit2 (by omega)
        · show _ = _; rw [List.append_assoc]; exact HD.out
        · have h2 := HOW.out
          show World.ownsRow _ _ _ _ _ _ _
          rw [numbered_snoc, List.flatMap_append, List.length_append]
          simpa [pairCells] using h2
      case measure => rw [hpos0, iterPos_of (hitw W1 v' w2 HGW.out HO2.out hit2 (by omega))]; omega
end Go.Proofs.YtpkacoknpedolaaDoor
