/-
  The walk of what clean calls: a step is added where contents are not zeros.
-/
import Derived.Test.YtgdkdihedgiegaaDoorV4
namespace Go.Proofs.YtgdkdihedgiegaaDoor
open Go.RowKit
attribute [local go_sem] zeros_len

/-- The box of the steps, and their row. -/
def BoxOf (po : Nat) (v : Value) (k : Nat) : Prop := k = po ∨ v.ownBlock = some k
/-- The steps in their box. -/
structure OutAt (F : Nat → Prop) (w : World) (bv po : Nat) (sv : Value) (l : List (Nat × Bs)) : Prop where
  box : w.heap[po]? = some (.cells #[sv] 78 (0, 0))
  steps : StepsAt F w bv sv l
  nf : ¬ F po
theorem StepsAt.shape {F : Nat → Prop} {w : World} {bv : Nat} {v : Value} {l : List (Nat × Bs)} (h : StepsAt F w bv v l) : ∃ a cap, v = .slice a l.length cap := by
  obtain ⟨qs, _, h2, _⟩ := h
  exact row_shape h2
/-- What is neither a box of steps nor a row of steps is kept. -/
theorem keep_type {w w' : World} {po : Nat} {sv sv' : Value} {n : Nat} {xs : List Value} (hb : w.heap[po]? = some (.cells #[sv] 78 (0, 0))) (hr : w.ownsRow 0 72 1 sv n xs) (hst : Step (BoxOf po sv) w (BoxOf po sv') w') {k : Nat} {c : Array Value} {t : TypeId} (hk : w.heap[k]? = some (.cells c t (0, 0))) (h1 : t ≠ 78) (h2 : t ≠ 72) : w'.heap[k]? = some (.cells c t (0, 0)) := by
  refine (hst.block k (blk_lt hk) (fun e => ?_)).trans hk
  rcases e with rfl | e
  · exact type_ne hk hb h1 rfl
  · obtain ⟨cur, hc⟩ := row_type hr e
    exact type_ne hk hc h2 rfl
/-- Behind the append and the store. -/
theorem OutAt.add {F : Nat → Prop} {w w1 w2 : World} {bv po : Nat} {sv sv' : Value} {l : List (Nat × Bs)} {p off : Nat} {s : Bs} (h : OutAt F w bv po sv l) (hb : Below w.heap.size w w1) (hs : StepAt F w1 (stepV p) bv off s)
    (hF : ∀ k, F k → k < w.heap.size) (n : Nat) (hn : n = l.length) (xs : List Value) (hx : ∃ qs : List ((Nat × Bs) × Value), qs.map (·.1) = l ∧ qs.map (·.2) = xs ∧ ∀ q ∈ qs, q.2.oneCell' = true ∧ StepAt F w q.2 bv q.1.1 q.1.2)
    (hr : w2.ownsRow 0 72 1 sv' (n + 1) (xs ++ [stepV p])) (ho : Onto w1 w2 sv sv') :
    OutAt F (w2.setCell ⟨po, 0, none⟩ sv') bv po sv' (l ++ [(off, s)]) ∧ Step (BoxOf po sv) w (BoxOf po sv') (w2.setCell ⟨po, 0, none⟩ sv') := by
  obtain ⟨qs0, _, r0, _, nf0⟩ := h.steps
  obtain ⟨qs, q1, q2, q3⟩ := hx
  have hpo : po < w.heap.size := blk_lt h.box
  have hpw : sv.ownBlock ≠ some po := fun e => by obtain ⟨cur, hc⟩ := row_type r0 e; exact type_ne hc h.box (by decide) rfl
  have hb2 : w2.heap[po]? = some (.cells #[sv] 78 (0, 0)) := (ho.grown.block po (Nat.lt_of_lt_of_le hpo hb.size) (fun e => hpw e.symm)).trans ((hb.block po hpo).trans h.box)
  have hnp : sv'.ownBlock ≠ some po := fun e => by obtain ⟨cur, hc⟩ := row_type hr e; exact type_ne hc hb2 (by decide) rfl
  have hst : Step (BoxOf po sv) w (BoxOf po sv') (w2.setCell ⟨po, 0, none⟩ sv') := by
    refine ⟨ho.grown.os.trans hb.os, ho.grown.tape.trans hb.tape, ho.grown.output.trans hb.output, by rw [show (w2.setCell ⟨po, 0, none⟩ sv').heap.size = w2.heap.size from by simp]; exact Nat.le_trans hb.size ho.grown.size, fun k hk hn => ?_, fun k hk => ?_⟩
    · rw [Below.heap_setCell _ _ _ _ (fun e => hn (.inl e)), ho.grown.block k (Nat.lt_of_lt_of_le hk hb.size) (fun e => hn (.inr e.symm))]
      exact hb.block k hk
    · rcases hk with rfl | hk
      · exact .inl (.inl rfl)
      · rcases ho.at_ with h1 | h1
        · exact .inl (.inr (h1 ▸ hk))
        · rw [h1] at hk; injection hk with hk; have := hb.size; exact .inr (by omega)
  have kt : ∀ {k : Nat} {c : Array Value} {t : TypeId}, w.heap[k]? = some (.cells c t (0, 0)) → t ≠ 78 → t ≠ 72 → (w2.setCell ⟨po, 0, none⟩ sv').heap[k]? = some (.cells c t (0, 0)) := fun hk h1 h2 => keep_type h.box r0 hst hk h1 h2
  have kt1 : ∀ {k : Nat} {c : Array Value} {t : TypeId}, w1.heap[k]? = some (.cells c t (0, 0)) → t ≠ 78 → t ≠ 72 → (w2.setCell ⟨po, 0, none⟩ sv').heap[k]? = some (.cells c t (0, 0)) := fun {k c t} hk h1 h2 => by
    have hkp : k ≠ po := by
      rintro rfl
      exact type_ne hk ((hb.block k hpo).trans h.box) h1 rfl
    rw [Below.heap_setCell _ _ _ _ hkp]
    refine (ho.grown.block k (blk_lt hk) (fun e => ?_)).trans hk
    have hlt := row_lt r0 k e.symm
    obtain ⟨cur, hc⟩ := row_type r0 e.symm
    exact type_ne hk ((hb.block k hlt).trans hc) h2 rfl
  refine ⟨⟨(blk_set hb2 0 _).trans rfl, ⟨qs ++ [((off, s), stepV p)], by simp [q1], ?_, ?_, ?_⟩, h.nf⟩, hst⟩
  · have h5 := row_far hr (w' := w2.setCell ⟨po, 0, none⟩ sv') (fun g hg => Below.heap_setCell _ _ _ _ (fun (e : g = po) => hnp (e ▸ hg)))
    rw [hn, ← q2] at h5
    rw [List.length_append, List.map_append]
    exact h5
  · intro q hq
    rcases List.mem_append.1 hq with hq | hq
    · refine ⟨(q3 q hq).1, ?_⟩
      obtain ⟨p', e1, e2, e3, e4, e5⟩ := (q3 q hq).2
      exact ⟨p', e1, kt e2 (by decide) (by decide), kt e3 (by decide) (by decide), kt e4 (by decide) (by decide), e5⟩
    · simp only [List.mem_singleton] at hq
      subst hq
      refine ⟨rfl, ?_⟩
      obtain ⟨p', e1, e2, e3, e4, e5⟩ := hs
      exact ⟨p', e1, kt1 e2 (by decide) (by decide), kt1 e3 (by decide) (by decide), kt1 e4 (by decide) (by decide), e5⟩
  · intro k hk hf
    rcases ho.at_ with h1 | h1
    · exact nf0 k (h1 ▸ hk) hf
    · rw [h1] at hk; injection hk with hk; have := hF k hf; have := hb.size; omega
theorem below_dn {w w1 : World} {n : Nat} (h : Below (w.drewN n).heap.size (w.drewN n) w1) : Below w.heap.size w w1 := ⟨h.os, h.tape, h.output, h.size, h.block⟩
def DirtyPost (F : Nat → Prop) (bv po : Nat) (sv : Value) (l : List (Nat × Bs)) (w : World) (e : Ending) (w' : World) : Prop := e = .returned (.tuple #[]) ∧ ∃ sv', OutAt F w' bv po sv' l ∧ Step (BoxOf po sv) w (BoxOf po sv') w'
set_option maxHeartbeats 4000000 in
set_option maxRecDepth 100000 in
theorem dirty_61 (F : Nat → Prop) (w : World) (bv pc po pv : Nat) (c : Bs) (sv : Value) (l : List (Nat × Bs)) (h : OutAt F w bv po sv l) (hF : ∀ k, F k → k < w.heap.size) (hc : w.heap[pc]? = some (.cells #[S c] 9 (0, 0))) (hv : w.heap[pv]? = some (.cells #[.pointer (some ⟨bv, 0, none⟩)] 26 (0, 0)))
    (a b : Nat) (hab : min a c.length ≤ min b c.length) (hcl : c.length ≤ 20000000) (hll : l.length ≤ 1000) :
    Calls Tryd.prog 61 #[.int .i64 a, .int .i64 b, .pointer (some ⟨pc, 0, none⟩), .pointer (some ⟨po, 0, none⟩), .pointer (some ⟨pv, 0, none⟩)] w (DirtyPost F bv po sv (l ++ dirtyR c a b) w) := by
  have c0 : w.cell? ⟨pc, 0, none⟩ = some (S c) := by rw [blk_cell hc]; rfl
  have H := Lib.hid h
  have HC := Lib.hid hc
  have HV := Lib.hid hv
  obtain ⟨a', ha'⟩ : ∃ a', a' = min a c.length := ⟨_, rfl⟩
  obtain ⟨b', hb'⟩ : ∃ b', b' = min b c.length := ⟨_, rfl⟩
  have e1 : min (a : Int) (c.length : Int) = a' := by omega
  have e2 : min (b : Int) (c.length : Int) = b' := by omega
  have hab' : a' ≤ b' := by omega
  have hbl : b' ≤ c.length := by omega
  have hD : dirtyR c a b = if (c.take b').drop a' = zerosR (b' - a') then [] else [(a', zerosR (b' - a'))] := by unfold dirtyR; rw [← ha', ← hb']
  have HD := Lib.hid hD
  have HA' := Lib.hid ha'
  have HB' := Lib.hid hb'
  have hsl : ((c.take b').drop a').length = b' - a' := by simp; omega
  have HT := Lib.hid (fun W => trim_62 ((c.take b').drop a') W (by omega))
  have HSL := Lib.hid hsl
  clear h hc hv ha' hb' hab hD hsl
  by_cases hz : (c.take b').drop a' = zerosR (b' - a')
  · have hd := HD.out
    rw [if_pos hz] at hd
    have HDX := Lib.hid hd
    have HZ := Lib.hid hz
    clear hd hz
    go_enter Tryd.func61, Tryd.ntmps61
    go_wp2_with fail
    go_quiet (fail)
    go_wp2_with (go_at_call 62; ((with_reducible refine Calls.mono (HT.out _) ?_); rintro e w1 ⟨r, rfl, hr, hb1⟩; have hr0 : r = [] := (hr.out.2 (by rw [HSL.out]; exact HZ.out)); subst hr0; have HB1 := Lib.hid hb1; clear hb1 hr))
    go_end0
    rw [HDX.out, List.append_nil]
    have hbb : Below w.heap.size w w1 := below_dn HB1.out
    exact ⟨rfl, sv, ⟨(hbb.block po (blk_lt H.out.box)).trans H.out.box, H.out.steps.keep (Step.of_below hbb), H.out.nf⟩, Step.of_below hbb⟩
  · have hd := HD.out
    rw [if_neg hz] at hd
    have HDX := Lib.hid hd
    have HZ := Lib.hid hz
    obtain ⟨qs, q1, q2, q3, q4⟩ := H.out.steps
    obtain ⟨sa, scap, hsv⟩ := row_shape q2
    obtain ⟨n, hn⟩ : ∃ n, n = l.length := ⟨_, rfl⟩
    rw [← hn] at hsv q2 hll
    subst hsv
    have HQ1 := Lib.hid q1
    have HQ2 := Lib.hid q2
    have HQ3 := Lib.hid q3
    have HN := Lib.hid hn
    have e3 : (b' : Int) - (a' : Int) = ((b' - a' : Nat) : Int) := by omega
    obtain ⟨m, hm⟩ : ∃ m, m = b' - a' := ⟨_, rfl⟩
    rw [← hm] at e3 HDX
    have e4 : IntKind.i64.wrap (m : Int) = m := IntWalk.i64_in _ (by omega)
    have hmb : m ≤ 20000000 := by omega
    clear hd hz q1 q2 q3 q4 hn hm
    go_enter Tryd.func61, Tryd.ntmps61
    go_wp2_with fail
    go_quiet (fail)
    go_wp2_with (go_at_call 62; ((with_reducible refine Calls.mono (HT.out _) ?_); rintro e w1 ⟨r, rfl, hr, hb1⟩; have hie : List.isEmpty r = false := (by cases r with | nil => exact absurd (hr.out.1 rfl) (by rw [HSL.out]; exact HZ.out) | cons => rfl); have HB1 := Lib.hid hb1; clear hb1 hr))
    have HW1 : Hid (Below w.heap.size w w1) := below_dn HB1.out
    have hpo := blk_lt H.out.box
    have hpv := blk_lt HV.out
    have hS : Hid (w1.drew.cell? ⟨po, 0, none⟩ = some (.slice sa n scap) ∧ w1.drew.cell? ⟨pv, 0, none⟩ = some (.pointer (some ⟨bv, 0, none⟩))) :=
      ⟨by rw [show w1.drew.cell? ⟨po, 0, none⟩ = w1.cell? ⟨po, 0, none⟩ from rfl, HW1.out.cell (p := ⟨po, 0, none⟩) hpo, blk_cell H.out.box]; rfl, by rw [show w1.drew.cell? ⟨pv, 0, none⟩ = w1.cell? ⟨pv, 0, none⟩ from rfl, HW1.out.cell (p := ⟨pv, 0, none⟩) hpv, blk_cell HV.out]; rfl⟩
    refine wp_region_T (fun w' => w'.cell? ⟨po, 0, none⟩ = some (.slice sa n scap) ∧ w'.cell? ⟨pv, 0, none⟩ = some (.pointer (some ⟨bv, 0, none⟩))) 10 (by kernel_rfl) ?_
    refine anyT_take (i := 0) (v := ?_) rfl (by kernel_rfl) (by kernel_rfl) (by kernel_rfl) (by kernel_rfl) (by decide) (fun _ _ _ h => h) hS.out (Or.inl ⟨by rfl, ?_⟩) ?_
    rotate_left
    · intro w' h; obtain ⟨h0, h1⟩ := h; go_simp; rfl
    refine anyT_take (i := 1) (v := ?_) rfl (by kernel_rfl) (by kernel_rfl) (by kernel_rfl) (by kernel_rfl) (by decide) (fun _ _ _ h => h) hS.out (Or.inl ⟨by rfl, ?_⟩) ?_
    rotate_left
    · intro w' h; obtain ⟨h0, h1⟩ := h; go_simp; rfl
    refine anyT_take (i := 2) (v := ?_) rfl (by kernel_rfl) (by kernel_rfl) (by kernel_rfl) (by kernel_rfl) (by decide) (fun _ _ _ h => h) hS.out (Or.inl ⟨by rfl, ?_⟩) ?_
    rotate_left
    · intro w' h; obtain ⟨h0, h1⟩ := h; go_simp; rfl
    refine anyT_take (i := 3) (v := ?_) rfl (by kernel_rfl) (by kernel_rfl) (by kernel_rfl) (by kernel_rfl) (by decide) (fun _ _ _ h => h) hS.out (Or.inl ⟨by rfl, ?_⟩) ?_
    rotate_left
    · intro w' h; obtain ⟨h0, h1⟩ := h; go_simp; rfl
    refine anyT_take (i := 4) (v := ?_) rfl (by kernel_rfl) (by kernel_rfl) (by kernel_rfl) (by kernel_rfl) (by decide) (fun _ _ _ h => h) hS.out (Or.inl ⟨by rfl, ?_⟩) ?_
    rotate_left
    · intro w' h; obtain ⟨h0, h1⟩ := h; go_simp; rfl
    refine anyT_take (i := 5) (v := ?_) rfl (by kernel_rfl) (by kernel_rfl) (by kernel_rfl) (by kernel_rfl) (by decide) (fun _ _ _ h => h) hS.out (Or.inl ⟨by rfl, ?_⟩) ?_
    rotate_left
    · intro w' h; obtain ⟨h0, h1⟩ := h; go_simp; rfl
    obtain ⟨W1, hW1⟩ : ∃ W1, w1.drew = W1 := ⟨_, rfl⟩
    have HBW : Hid (Below w.heap.size w W1) := by rw [← hW1]; exact HW1.out.drew
    rw [hW1] at hS ⊢
    clear hW1 HB1 HW1
    have SX : ∀ W2 : World, Below W1.heap.size W1 W2 → (W2.cell? ⟨po, 0, none⟩ = some (.slice sa n scap) ∧ W2.cell? ⟨pv, 0, none⟩ = some (.pointer (some ⟨bv, 0, none⟩))) := fun W2 hb => by
      have := HBW.out.size
      exact ⟨by rw [hb.cell (p := ⟨po, 0, none⟩) (by show po < _; omega)]; exact hS.out.1, by rw [hb.cell (p := ⟨pv, 0, none⟩) (by show pv < _; omega)]; exact hS.out.2⟩
    have HSX := Lib.hid SX
    clear SX
    go_simp
    refine anyT_do (i := 6) rfl (by kernel_rfl) rfl (fun K hK => ?_)
    go_simp
    (go_at_call 40; ((with_reducible refine Calls.mono (zeros_40 _ _ m (by simp) (by omega) (by omega)) ?_); rintro e w3 ⟨rfl, hb3⟩))
    have HB3 := Lib.hid hb3
    refine hK _ _ (fun _ => HSX.out _ hb3) ?_
    clear hK K hb3
    refine anyT_do (i := 7) rfl (by kernel_rfl) rfl (fun K hK => ?_)
    go_simp
    (go_at_call 39; ((with_reducible refine Calls.mono (write_39 F _ bv _ _ (lt_below (lt_below hF HBW.out) HB3.out)) ?_); rintro e w4 ⟨p, rfl, hs4, hb4⟩))
    have HB4 : Hid (Below W1.heap.size W1 w4) := btr HB3.out hb4 HB3.out.size
    have HS4 := Lib.hid hs4
    refine hK _ _ (fun _ => HSX.out _ HB4.out) ?_
    clear hK K hb4 hs4
    refine anyT_do (i := 8) rfl (by kernel_rfl) rfl (fun K hK => ?_)
    go_simp
    have HB5 : Hid (Below W1.heap.size W1 (w4.alloc (.cells #[stepV p] 72))) := HB4.out.alloc HB4.out.size _
    refine hK _ _ (fun _ => HSX.out _ HB5.out) ?_
    clear hK K
    have HF5 := Lib.hid (from_new w4 (stepV p) 72)
    have HS5 := Lib.hid (HS4.out.below (alloc_below w4 (.cells #[stepV p] 72)))
    have HW5 : Hid (Below w.heap.size w (w4.alloc (.cells #[stepV p] 72))) := btr HBW.out HB5.out HBW.out.size
    have hz5 : (w4.alloc (.cells #[stepV p] 72)).heap.size = w4.heap.size + 1 := by simp
    have HR5 := Lib.hid (row_far HQ2.out (fun g hg => HW5.out.block g (row_lt HQ2.out g hg)))
    obtain ⟨v', w9, hr, h2, h3⟩ := run_from 78 78 72 .nilFunc 1 8 Tryd.underlying78 i72 rfl (by decide) (by decide) _ (.slice sa n scap) n _ HR5.out _ 1 [stepV p] HF5.out rfl (by simp [Value.oneCell']) (by omega)
    have hbo : (w4.alloc (.cells #[stepV p] 72)).heap[po]? = some (.cells #[.slice sa n scap] 78 (0, 0)) := (HW5.out.block po hpo).trans H.out.box
    have hno : (Value.slice sa n scap).ownBlock ≠ some po := fun e => by obtain ⟨cur, hc⟩ := row_type HQ2.out e; exact type_ne hc H.out.box (by decide) rfl
    have hnv : (Value.slice sa n scap).ownBlock ≠ some pv := fun e => by obtain ⟨cur, hc⟩ := row_type HQ2.out e; exact type_ne hc HV.out (by decide) rfl
    have HS9 : Hid (w9.cell? ⟨po, 0, none⟩ = some (.slice sa n scap) ∧ w9.cell? ⟨pv, 0, none⟩ = some (.pointer (some ⟨bv, 0, none⟩))) := ⟨onto_cell h3 (HSX.out _ HB5.out).1 hno, onto_cell h3 (HSX.out _ HB5.out).2 hnv⟩
    have k9 : w9.cell? ⟨po, 0, none⟩ = some (.slice sa n scap) := HS9.out.1
    have f9 : w9.frozen? ⟨po, 0, none⟩ = false := by
      have : w9.heap[po]? = some (.cells #[.slice sa n scap] 78 (0, 0)) := (h3.grown.block po (blk_lt hbo) (fun e => hno e.symm)).trans hbo
      exact blk_frozen this 0
    refine anyT_do (i := 9) rfl (by kernel_rfl) rfl (fun K hK => ?_)
    refine wp_run _ _ 78 78 78 rfl rfl _ _ v' w9 (by rfl) (by rfl) hr ?_
    refine hK _ _ (fun _ => HS9.out) ?_
    clear hK K
    have HR := Lib.hid h2
    have H3 := Lib.hid h3
    obtain ⟨va, vc, rfl⟩ := row_shape h2
    clear hr h2 h3 hS hbo
    refine anyT_do (i := 10) rfl (by kernel_rfl) rfl (fun K hK => ?_)
    go_simp
    refine hK _ _ (fun h => absurd rfl h) ?_
    clear hK K
    refine anyT_done (by kernel_rfl) ?_ _
    go_wp2_with fail
    go_end0
    obtain ⟨x1, x2⟩ := H.out.add HW5.out HS5.out hF n HN.out _ ⟨qs, HQ1.out, rfl, HQ3.out⟩ HR.out H3.out
    rw [HDX.out]
    exact ⟨rfl, _, x1, x2⟩
end Go.Proofs.YtgdkdihedgiegaaDoor
