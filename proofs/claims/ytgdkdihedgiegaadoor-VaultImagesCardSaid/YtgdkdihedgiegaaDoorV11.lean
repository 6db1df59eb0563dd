/-
  The walk of Open.
-/
import Derived.Test.YtgdkdihedgiegaaDoorV10
namespace Go.Proofs.YtgdkdihedgiegaaDoor
open Go.RowKit

theorem row_slice {w : World} {lo e n : Nat} {v : Value} {xs : List Value} (h : w.ownsRow lo e 1 v n xs) : SliceAt lo w.heap.size w v n xs := by
  have h0 := h
  obtain ⟨hl, h⟩ := h
  rcases h with ⟨rfl, rfl⟩ | ⟨g, cap, cur, rfl, h1, h2, _⟩
  · exact ⟨_, _, rfl, fun hc => absurd (List.length_eq_zero_iff.1 (by simpa using hl)) hc⟩
  · exact ⟨_, _, rfl, fun _ => ⟨g, 0, rfl, h1, blk_lt h2, fun j x hx => by have := h0.cells (g := g) rfl j x hx; rwa [add_lit] at this⟩⟩
/-- What Open returns but for a vault. -/
def noVal (r : Int) : Value := .tuple #[.pointer none, S [], .slice none 0 0, .int .i64 r]
abbrev noV (r : Int) : Ending := .returned (noVal r)
theorem power_now {D D' : DiskD} (h : powerD D = some D') : D'.now = D.now := by
  unfold powerD at h
  split at h
  · split at h
    · cases h
    · cases h; rfl
  · cases h; rfl
def endR (x : Bs) : Nat := if x = [] then 65 else 64 + x.length
/-- The post of Open. -/
def OpenPost (F : Nat → Prop) (b : Nat) (D : DiskD) (w : World) (e : Ending) (w' : World) : Prop :=
  if (syncD D).2 = 0 then
    match openR (syncD D).1.now with
    | none => e = noV 11 ∧ ∃ F', DiskAt F' w' b (syncD D).1 ∧ Step F w F' w'
    | some (sn, tl, x, st) =>
      if (runD (syncD D).1 st).2 = 0 then ∃ F' g v, e = .returned (.tuple #[.pointer (some ⟨g, 0, none⟩), S sn, v, .int .i64 0]) ∧ VD F' w' g b (endR x) tl.length false (runD (syncD D).1 st).1 ∧ SliceAt w.heap.size w'.heap.size w' v tl.length (tl.map S) ∧ Step F w (With F' g) w' ∧ w.heap.size ≤ g
      else e = noV 70 ∧ ∃ F', DiskAt F' w' b (runD (syncD D).1 st).1 ∧ Step F w F' w'
  else e = noV 70 ∧ ∃ F', DiskAt F' w' b (syncD D).1 ∧ Step F w F' w'
theorem Step.narrow {F F' F'' : Nat → Prop} {w w' : World} (h : Step F w F' w') (hn : ∀ k, F'' k → F' k) : Step F w F'' w' := ⟨h.os, h.tape, h.output, h.size, h.block, fun k hk => h.new k (hn k hk)⟩
set_option maxHeartbeats 1000000 in
theorem open_nil (w : World) : Calls Tryd.prog 13 #[.pointer none] w fun e w' => e = noV 1 ∧ w' = w := by
  go_enter Tryd.func13, Tryd.ntmps13
  go_wp2_with fail
  (try simp only [Exit.inBlock, Exit.then])
  (try rw [Exit.noGoto_ret])
  refine bodyPost_ret (v := (noVal 1)) (by simp [results, Tryd.results13, go_sem, noVal]) rfl ?_
  exact ⟨rfl, rfl⟩
theorem sync_ok (D : DiskD) (h : (syncD D).2 = 0) : (syncD D).1.now = D.now ∧ (syncD D).1.pcs = [] := by
  refine ⟨?_, sync_pcs D h⟩
  unfold syncD at h ⊢
  cases hp : powerD D with
  | none => rfl
  | some D' =>
    have := power_now hp
    simp [this]
theorem slice_step {lo hi n : Nat} {F F' : Nat → Prop} {w w' : World} {v : Value} {cs : List Value} (h : SliceAt lo hi w v n cs) (hs : Step F w F' w') (hF : ∀ k, F k → k < lo) (hh : hi ≤ w.heap.size) : SliceAt lo hi w' v n cs :=
  h.kept (fun k h1 h2 => hs.block k (by omega) (fun hf => by have := hF k hf; omega))
theorem openPost_none {F : Nat → Prop} {b : Nat} {D D1 : DiskD} {w w' : World} (h1 : syncD D = (D1, 0)) (h2 : openR D1.now = none) (h : ∃ F', DiskAt F' w' b D1 ∧ Step F w F' w') : OpenPost F b D w (.returned (noVal 11)) w' := by
  unfold OpenPost
  rw [h1, if_pos rfl]
  simp only [h2]
  exact ⟨by trivial, h⟩
theorem openPost_70 {F : Nat → Prop} {b : Nat} {D D1 D2 : DiskD} {w w' : World} {sn x : Bs} {tl : List Bs} {st : List (Nat × Bs)} (h1 : syncD D = (D1, 0)) (h2 : openR D1.now = some (sn, tl, x, st)) (h3 : runD D1 st = (D2, 70)) (h : ∃ F', DiskAt F' w' b D2 ∧ Step F w F' w') : OpenPost F b D w (.returned (noVal 70)) w' := by
  unfold OpenPost
  rw [h1, if_pos rfl]
  simp only [h2, h3]
  rw [if_neg (show ¬ ((70 : Int) = 0) by decide)]
  exact ⟨by trivial, h⟩
theorem openPost_some {F : Nat → Prop} {b : Nat} {D D1 D2 : DiskD} {w w' : World} {sn x : Bs} {tl : List Bs} {st : List (Nat × Bs)} (h1 : syncD D = (D1, 0)) (h2 : openR D1.now = some (sn, tl, x, st)) (h3 : runD D1 st = (D2, 0)) (g : Nat) (v : Value)
    (h : ∃ F', VD F' w' g b (endR x) tl.length false D2 ∧ SliceAt w.heap.size w'.heap.size w' v tl.length (tl.map S) ∧ Step F w (With F' g) w' ∧ w.heap.size ≤ g) : OpenPost F b D w (.returned (.tuple #[.pointer (some ⟨g, 0, none⟩), S sn, v, .int .i64 0])) w' := by
  unfold OpenPost
  rw [h1, if_pos rfl]
  simp only [h2, h3]
  rw [if_pos trivial]
  obtain ⟨F', h⟩ := h
  exact ⟨F', g, v, rfl, h⟩
theorem endR_cast (x : Bs) : (if x = [] then (65 : Int) else 64 + (x.length : Int)) = (endR x : Int) := by unfold endR; split <;> simp
theorem dirty_fit (c : Bs) (a b : Nat) : ∀ p ∈ dirtyR c a b, p.1 + p.2.length ≤ c.length := by
  intro p hp
  unfold dirtyR at hp
  simp only at hp
  split at hp
  · simp at hp
  · simp only [List.mem_cons, List.not_mem_nil, or_false] at hp
    subst hp
    show min a c.length + (zerosR _).length ≤ c.length
    rw [zeros_len]; omega
theorem steps_fit (c : Bs) (n : Nat) : ∀ p ∈ stepsR c n, p.1 + p.2.length ≤ c.length := by
  intro p hp
  rcases List.mem_append.1 hp with h | h
  · exact dirty_fit _ _ _ p h
  · exact dirty_fit _ _ _ p h
theorem steps_len (c : Bs) (n : Nat) : (stepsR c n).length ≤ 2 := by
  unfold stepsR
  have := dirty_len c 0 64; have := dirty_len c (64 + n) c.length
  simp; omega

theorem copied_some {c : Bs} {k : Nat} (h : copiedR c = some k) : k % 64 = 0 ∧ 128 ≤ k ∧ k < c.length := by
  unfold copiedR at h
  split at h
  · cases h
  · simp only at h
    split at h
    · rename_i h1; cases h; exact h1
    · cases h

theorem StepsAt.weak {F F' : Nat → Prop} {w : World} {bv : Nat} {v : Value} {l : List (Nat × Bs)} (h : StepsAt F w bv v l) (hF : ∀ k, F' k → F k) : StepsAt F' w bv v l := by
  obtain ⟨qs, h1, h2, h3, h4⟩ := h
  refine ⟨qs, h1, h2, fun q hq => ⟨(h3 q hq).1, ?_⟩, fun k hk hf => h4 k hk (hF k hf)⟩
  obtain ⟨p, h5, h6, h7, h8, h9, h10, h11⟩ := (h3 q hq).2
  exact ⟨p, h5, h6, h7, h8, fun hf => h9 (hF _ hf), fun hf => h10 (hF _ hf), fun hf => h11 (hF _ hf)⟩
theorem StepAt.onto {F : Nat → Prop} {w w' : World} {fv v v' : Value} {bv n : Nat} {off : Int} {s : Bs} {xs : List Value} (h : StepAt F w fv bv off s) (hr : w.ownsRow 0 72 1 v n xs) (ho : Onto w w' v v') : StepAt F w' fv bv off s := by
  have hb : ∀ (k : Nat) (c : Array Value) (t : TypeId), t ≠ 72 → w.heap[k]? = some (.cells c t (0, 0)) → w'.heap[k]? = some (.cells c t (0, 0)) := fun k c t ht hk =>
    (ho.grown.block k (blk_lt hk) (fun e => by
      obtain ⟨cur, h5⟩ := row_type hr e.symm
      exact type_ne h5 hk (fun e => ht e.symm) rfl)).trans hk
  obtain ⟨p, h5, h6, h7, h8, h9⟩ := h
  exact ⟨p, h5, hb _ _ _ (by decide) h6, hb _ _ _ (by decide) h7, hb _ _ _ (by decide) h8, h9⟩
theorem steps_add {F : Nat → Prop} {w : World} {bv p off : Nat} {s : Bs} {v : Value} {l : List (Nat × Bs)} (h : StepsAt F w bv v l) (hp : StepAt F w (stepV p) bv off s) (hF : ∀ k, F k → k < w.heap.size) (hl : l.length ≤ 1000) (B : Nat) (hB : ∀ k, k < B → F k) (hBw : B ≤ w.heap.size) :
    ∃ v' w', (Builtin.append_ #[78, 78] 78 #[v, .slice (some ⟨w.heap.size, 0, none⟩) 1 1]).run Tryd.prog (w.alloc (.cells #[stepV p] 72)) = .ok v' w' ∧ StepsAt F w' bv v' (l ++ [(off, s)]) ∧ Below B w w' := by
  have ha := alloc_below w (.cells #[stepV p] 72)
  have hp1 := hp.keep (Step.of_below ha)
  obtain ⟨qs, q1, q2, q3, q4⟩ := h.keep (Step.of_below ha)
  obtain ⟨v', w', hr, ho, hon⟩ := run_from 78 78 72 .nilFunc 1 8 Tryd.underlying78 i72 rfl (by decide) (by decide) (w.alloc (.cells #[stepV p] 72)) _ _ _ q2 _ 1 _ (from_new w (stepV p) 72) rfl (by intro u hu; simp at hu; subst hu; rfl) (by omega)
  have hown : ∀ k, v'.ownBlock = some k → ¬ F k := fun k hk hf => by
    rcases hon.at_ with h | h
    · exact q4 k (h ▸ hk) hf
    · rw [h] at hk; injection hk with hk; have := hF k hf; have := ha.size; omega
  have hbel : Below B w (w.alloc (.cells #[stepV p] 72)) := ⟨ha.os, ha.tape, ha.output, ha.size, fun k hk => ha.block k (by omega)⟩
  refine ⟨v', w', hr, ⟨qs ++ [((off, s), stepV p)], by rw [List.map_append, q1]; rfl, ?_, ?_, hown⟩, below_onto hbel hon (Nat.le_trans hBw ha.size) (fun g hg => by
    by_cases hgB : g < B
    · exact absurd (hB g hgB) (q4 g hg)
    · omega)⟩
  · rw [List.length_append, List.map_append]; exact ho
  · intro q hq
    rcases List.mem_append.1 hq with hq | hq
    · exact ⟨(q3 q hq).1, (q3 q hq).2.onto q2 hon⟩
    · simp only [List.mem_cons, List.not_mem_nil, or_false] at hq
      subst hq
      exact ⟨rfl, hp1.onto q2 hon⟩

set_option maxHeartbeats 4000000 in
set_option maxRecDepth 100000 in
theorem open_13 (F : Nat → Prop) (w : World) (b : Nat) (D : DiskD) (h : DiskAt F w b D) (hok : OkD D) (hn : D.now.length ≤ 1000000) :
    Calls Tryd.prog 13 #[.pointer (some ⟨b, 0, none⟩)] w (OpenPost F b D w) := by
  have HY := Lib.hid (sync_32 F w b D h ⟨hok.lo, hok.hi⟩ (by omega))
  have HOK := Lib.hid hok.sync
  rcases sync_err D with hE | hE
  · have hp : syncD D = ((syncD D).1, 0) := by rw [← hE]
    have hs1 := sync_ok D hE
    rw [← hs1.1] at hn
    have HPC := Lib.hid hs1.2
    generalize (syncD D).1 = D1 at *
    have HP := Lib.hid hp
    rw [hp] at HY
    clear hp hE hs1
    clear hok h
    go_enter Tryd.func13, Tryd.ntmps13
    go_wp2_with fail
    ((with_reducible refine Calls.mono HY.out ?_); rintro x w1 ⟨rfl, F1, hd1, hs1⟩)
    have HD1 := Lib.hid hd1
    have HS1 := Lib.hid hs1
    clear hd1 hs1
    go_wp2_with fail
    have ha := alloc_below w1 (.cells #[.pointer (some ⟨b, 0, none⟩), .int .i64 0, .int .i64 0, .bool false] 44)
    have hg := (HD1.out.lt)
    have HV2 : Hid (VD F1 (w1.alloc (.cells #[.pointer (some ⟨b, 0, none⟩), .int .i64 0, .int .i64 0, .bool false] 44)) w1.heap.size b 0 0 false D1) := ⟨HD1.out.below ha, World.alloc_heap_new _ _, fun hf => by have := hg _ hf; omega⟩
    have HS2 : Hid (Step F w (With F1 w1.heap.size) (w1.alloc (.cells #[.pointer (some ⟨b, 0, none⟩), .int .i64 0, .int .i64 0, .bool false] 44))) := by
      have h1 := HS1.out.trans (Step.of_below ha)
      exact ⟨h1.os, h1.tape, h1.output, h1.size, h1.block, fun k hk => by
        rcases hk with hk | rfl
        · exact h1.new k hk
        · exact .inr HS1.out.size⟩
    have hgs : w.heap.size ≤ w1.heap.size := HS1.out.size
    generalize w1.alloc (.cells #[.pointer (some ⟨b, 0, none⟩), .int .i64 0, .int .i64 0, .bool false] 44) = w2 at *
    generalize w1.heap.size = g at *
    clear ha hg HD1 HS1
    ((with_reducible refine Calls.mono (size_34 F1 w2 b D1 HV2.out.disk) ?_); rintro x w3 ⟨rfl, hw⟩; have hw := hw.symm; subst hw)
    go_wp2_with fail
    ((with_reducible refine Calls.mono (read_33 F1 w2 b D1 HV2.out.disk (by omega)) ?_); rintro x w4 ⟨rfl, hb4⟩)
    have HV4 := Lib.hid (HV2.out.below hb4)
    have HS4 := Lib.hid (HS2.out.trans (Step.of_below hb4))
    have hv2 := HV2.out.vault
    clear hb4 HV2 HS2 hv2
    generalize hc : D1.now = c at *
    have HC := Lib.hid hc
    clear hc
    have hmn : min (64 : Int) (c.length : Int) = ((min 64 c.length : Nat) : Int) := by omega
    obtain ⟨q, hq⟩ : ∃ q, q = min 64 c.length := ⟨_, rfl⟩
    rw [← hq] at hmn
    have HQ := Lib.hid hq
    have hqc : q ≤ c.length := by omega
    clear hq
    go_wp2_with fail
    have HCO := Lib.hid (copied_35 c w4 (by omega))
    cases hco : copiedR c with
    | none =>
      have HO : Hid (openR c = if c ≠ [] ∧ c.getD 0 0 ≠ 0 then none else match parseR (c.drop q) with
        | none => none
        | some (sn, tl, n) => some (sn, tl, (c.drop q).take n, stepsR c n)) := by show _ = _; unfold openR; rw [hco, HQ.out]; rfl
      rw [hco] at HCO
      clear hco
      ((with_reducible refine Calls.mono HCO.out ?_); rintro x w5 ⟨⟨kx, rfl⟩, hw⟩; have hw := hw.symm; subst hw)
      by_cases hbad : c ≠ [] ∧ c.getD 0 0 ≠ 0
      · have HX : Hid (openR c = none) := by show _ = _; rw [HO.out, if_pos hbad]
        have hie : List.isEmpty c = false := by simpa using hbad.1
        have hl : 0 < c.length := List.length_pos_iff.2 hbad.1
        have hb : ¬ (c[0]'hl) = 0 := by simpa [List.getD, hl] using hbad.2
        have hb0 : (((c[0]'hl).toNat : Int) == 0) = false := by simp; intro h; exact hb (u8_eq (by simpa using h))
        clear hb
        go_wp2_with fail
        (try simp only [Exit.inBlock, Exit.then])
        (try rw [Exit.noGoto_ret])
        refine bodyPost_ret (v := (noVal 11)) (by simp [results, Tryd.results13, go_sem, noVal]) rfl ?_
        exact openPost_none HP.out (HC.out ▸ HX.out) ⟨_, HV4.out.disk, HS4.out.narrow (fun _ h => .inl h)⟩
      · have HO2 : Hid (openR c = match parseR (c.drop q) with
          | none => none
          | some (sn, tl, n) => some (sn, tl, (c.drop q).take n, stepsR c n)) := by show _ = _; rw [HO.out, if_neg hbad]
        clear HO
        have HPA := Lib.hid (fun W => parse_36 (c.drop q) W (by simp; omega))
        have hg : Hid (c = [] ∨ ∃ t, c = 0 :: t) := by
          cases c with
          | nil => exact .inl rfl
          | cons b t => exact .inr ⟨t, by simp at hbad; rw [hbad]⟩
        clear hbad
        rcases hg.out with hcn | ⟨t, hct⟩
        · have hie : List.isEmpty c = true := by rw [hcn]; rfl
          clear hcn hg
          go_wp2_with fail
          cases hpa : parseR (c.drop q) with
          | none =>
            have HX : Hid (openR D1.now = none) := by show _ = _; rw [HC.out, HO2.out, hpa]
            have HPx := HPA.out w4
            rw [hpa] at HPx
            clear hpa
            ((with_reducible refine Calls.mono HPx ?_); rintro x w6 ⟨rfl, hb6⟩)
            have HV6 := Lib.hid (HV4.out.below hb6)
            have HS6 := Lib.hid (HS4.out.trans (Step.of_below hb6))
            clear hb6 HPx
            go_wp2_with fail
            (try simp only [Exit.inBlock, Exit.then])
            (try rw [Exit.noGoto_ret])
            refine bodyPost_ret (v := (noVal 11)) (by simp [results, Tryd.results13, go_sem, noVal]) rfl ?_
            exact openPost_none HP.out HX.out ⟨_, HV6.out.disk, HS6.out.narrow (fun _ h => .inl h)⟩
          | some o =>
            obtain ⟨sn, tl, n⟩ := o
            have hle := (parse_le _ _ _ _ hpa).1
            have hqn : q + n ≤ c.length := by simp at hle; omega
            have HX : Hid (openR D1.now = some (sn, tl, (c.drop q).take n, stepsR c n)) := by show _ = _; rw [HC.out, HO2.out, hpa]
            have HPx := HPA.out w4
            rw [hpa] at HPx
            clear hpa hle
            ((with_reducible refine Calls.mono HPx ?_); rintro x w6 ⟨⟨v, rfl, hrow⟩, hb6⟩)
            obtain ⟨va, vc, rfl⟩ := row_shape hrow
            have HV6 := Lib.hid (HV4.out.below hb6)
            have HS6 := Lib.hid (HS4.out.trans (Step.of_below hb6))
            have HRW := Lib.hid (row_slice hrow)
            have HFL : Hid (∀ k, With F1 g k → k < w4.heap.size) := by
              intro k hk
              rcases hk with hk | rfl
              · exact HV4.out.lt k hk
              · exact blk_lt HV4.out.vault
            have HS04 := Lib.hid HS4.out.size
            clear hb6 HPx hrow HV4 HS4
            go_wp2_with fail

            ((with_reducible refine Calls.mono (clean_37 F1 w6 g c n HV6.out.lt (by omega) (by omega)) ?_); rintro x w7 ⟨sv, rfl, hst, hb7⟩)
            have HST := Lib.hid hst
            have HV7 := Lib.hid (HV6.out.below hb7)
            have HS7 := Lib.hid (HS6.out.trans (Step.of_below hb7))
            have HRW7 := Lib.hid (slice_step (F' := With F1 g) HRW.out (Step.of_below hb7) HFL.out (Nat.le_refl _))
            have HZ7 := Lib.hid hb7.size
            have HFIT := Lib.hid (fun (p : Nat × Bs) (hp : p ∈ stepsR c n) => Nat.le_trans (steps_fit c n p hp) (by omega : c.length ≤ 16777216))
            clear hst hb7 HV6 HS6 HRW
            go_wp2_with fail
            ((with_reducible refine Calls.mono (do_41 F1 w7 g b 0 0 false D1 HV7.out HOK.out (by rw [HPC.out]; simp) _ _ HST.out (by have := steps_len c n; omega) HFIT.out) ?_); rintro x w8 ⟨rfl, F8, hv8, hs8⟩)
            have HV8 := Lib.hid hv8
            have HRW8 := Lib.hid (slice_step HRW7.out hs8 HFL.out HZ7.out)
            have HS8 := Lib.hid (HS7.out.trans hs8)
            have HZ8 := Lib.hid hs8.size
            clear hv8 hs8 HV7 HS7 HRW7 HST
            rcases run_err D1 (stepsR c n) with hE | hE
            · have hp : runD D1 (stepsR c n) = ((runD D1 (stepsR c n)).1, 0) := by rw [← hE]
              generalize (runD D1 (stepsR c n)).1 = D2 at *
              rw [hp] at HV8
              have HR := Lib.hid hp
              clear hp
              rw [hE]
              clear hE
              go_wp2_with fail
              ((with_reducible refine Calls.mono (note_42 _ g b 0 0 false HV8.out.vault _ (by first | omega | (simp; omega)) _ _ _) ?_); rintro x w9 ⟨rfl, hva, hon⟩)
              have HVA := Lib.hid hva
              have HON := Lib.hid hon
              clear hva hon
              go_wp2_with fail
              (try simp only [Exit.inBlock, Exit.then])
              (try rw [Exit.noGoto_ret])
              refine bodyPost_ret (v := (.tuple #[.pointer (some ⟨g, 0, none⟩), S sn, .slice va tl.length vc, .int .i64 0])) (by simp [results, Tryd.results13, go_sem]) rfl ?_
              have hxe : (c.take (q + n)).drop q = (c.drop q).take n := by rw [List.drop_take]; congr 1; omega
              refine openPost_some HP.out HX.out HR.out g _ ⟨F8, ?_, ?_, HS8.out.trans (Step.only_more HON.out), hgs⟩
              · rw [← hxe]
                exact HV8.out.only HON.out (endR_cast _ ▸ HVA.out)
              · have h1 := slice_step HRW8.out (Step.of_only HON.out (F := fun k => k = g) rfl) (fun k hk => by subst hk; exact HFL.out _ (.inr rfl)) (Nat.le_trans HZ7.out HZ8.out)
                exact h1.mono HS04.out (by have h2 := HZ7.out; have h3 := HZ8.out; have h4 := HON.out.size; omega)
            · have hp : runD D1 (stepsR c n) = ((runD D1 (stepsR c n)).1, 70) := by rw [← hE]
              generalize (runD D1 (stepsR c n)).1 = D2 at *
              rw [hp] at HV8
              have HR := Lib.hid hp
              clear hp
              rw [hE]
              clear hE
              go_wp2_with fail
              (try simp only [Exit.inBlock, Exit.then])
              (try rw [Exit.noGoto_ret])
              refine bodyPost_ret (v := (noVal 70)) (by simp [results, Tryd.results13, go_sem, noVal]) rfl ?_
              exact openPost_70 HP.out HX.out HR.out ⟨F8, HV8.out.disk, HS8.out.narrow (fun _ h => .inl h)⟩
        · have hie : List.isEmpty c = false := by rw [hct]; rfl
          have hl : 0 < c.length := by rw [hct]; simp
          have hb0 : (((c[0]'hl).toNat : Int) == 0) = true := by simp [hct]
          clear hct hg
          go_wp2_with fail
          cases hpa : parseR (c.drop q) with
          | none =>
            have HX : Hid (openR D1.now = none) := by show _ = _; rw [HC.out, HO2.out, hpa]
            have HPx := HPA.out w4
            rw [hpa] at HPx
            clear hpa
            ((with_reducible refine Calls.mono HPx ?_); rintro x w6 ⟨rfl, hb6⟩)
            have HV6 := Lib.hid (HV4.out.below hb6)
            have HS6 := Lib.hid (HS4.out.trans (Step.of_below hb6))
            clear hb6 HPx
            go_wp2_with fail
            (try simp only [Exit.inBlock, Exit.then])
            (try rw [Exit.noGoto_ret])
            refine bodyPost_ret (v := (noVal 11)) (by simp [results, Tryd.results13, go_sem, noVal]) rfl ?_
            exact openPost_none HP.out HX.out ⟨_, HV6.out.disk, HS6.out.narrow (fun _ h => .inl h)⟩
          | some o =>
            obtain ⟨sn, tl, n⟩ := o
            have hle := (parse_le _ _ _ _ hpa).1
            have hqn : q + n ≤ c.length := by simp at hle; omega
            have HX : Hid (openR D1.now = some (sn, tl, (c.drop q).take n, stepsR c n)) := by show _ = _; rw [HC.out, HO2.out, hpa]
            have HPx := HPA.out w4
            rw [hpa] at HPx
            clear hpa hle
            ((with_reducible refine Calls.mono HPx ?_); rintro x w6 ⟨⟨v, rfl, hrow⟩, hb6⟩)
            obtain ⟨va, vc, rfl⟩ := row_shape hrow
            have HV6 := Lib.hid (HV4.out.below hb6)
            have HS6 := Lib.hid (HS4.out.trans (Step.of_below hb6))
            have HRW := Lib.hid (row_slice hrow)
            have HFL : Hid (∀ k, With F1 g k → k < w4.heap.size) := by
              intro k hk
              rcases hk with hk | rfl
              · exact HV4.out.lt k hk
              · exact blk_lt HV4.out.vault
            have HS04 := Lib.hid HS4.out.size
            clear hb6 HPx hrow HV4 HS4
            go_wp2_with fail

            ((with_reducible refine Calls.mono (clean_37 F1 w6 g c n HV6.out.lt (by omega) (by omega)) ?_); rintro x w7 ⟨sv, rfl, hst, hb7⟩)
            have HST := Lib.hid hst
            have HV7 := Lib.hid (HV6.out.below hb7)
            have HS7 := Lib.hid (HS6.out.trans (Step.of_below hb7))
            have HRW7 := Lib.hid (slice_step (F' := With F1 g) HRW.out (Step.of_below hb7) HFL.out (Nat.le_refl _))
            have HZ7 := Lib.hid hb7.size
            have HFIT := Lib.hid (fun (p : Nat × Bs) (hp : p ∈ stepsR c n) => Nat.le_trans (steps_fit c n p hp) (by omega : c.length ≤ 16777216))
            clear hst hb7 HV6 HS6 HRW
            go_wp2_with fail
            ((with_reducible refine Calls.mono (do_41 F1 w7 g b 0 0 false D1 HV7.out HOK.out (by rw [HPC.out]; simp) _ _ HST.out (by have := steps_len c n; omega) HFIT.out) ?_); rintro x w8 ⟨rfl, F8, hv8, hs8⟩)
            have HV8 := Lib.hid hv8
            have HRW8 := Lib.hid (slice_step HRW7.out hs8 HFL.out HZ7.out)
            have HS8 := Lib.hid (HS7.out.trans hs8)
            have HZ8 := Lib.hid hs8.size
            clear hv8 hs8 HV7 HS7 HRW7 HST
            rcases run_err D1 (stepsR c n) with hE | hE
            · have hp : runD D1 (stepsR c n) = ((runD D1 (stepsR c n)).1, 0) := by rw [← hE]
              generalize (runD D1 (stepsR c n)).1 = D2 at *
              rw [hp] at HV8
              have HR := Lib.hid hp
              clear hp
              rw [hE]
              clear hE
              go_wp2_with fail
              ((with_reducible refine Calls.mono (note_42 _ g b 0 0 false HV8.out.vault _ (by first | omega | (simp; omega)) _ _ _) ?_); rintro x w9 ⟨rfl, hva, hon⟩)
              have HVA := Lib.hid hva
              have HON := Lib.hid hon
              clear hva hon
              go_wp2_with fail
              (try simp only [Exit.inBlock, Exit.then])
              (try rw [Exit.noGoto_ret])
              refine bodyPost_ret (v := (.tuple #[.pointer (some ⟨g, 0, none⟩), S sn, .slice va tl.length vc, .int .i64 0])) (by simp [results, Tryd.results13, go_sem]) rfl ?_
              have hxe : (c.take (q + n)).drop q = (c.drop q).take n := by rw [List.drop_take]; congr 1; omega
              refine openPost_some HP.out HX.out HR.out g _ ⟨F8, ?_, ?_, HS8.out.trans (Step.only_more HON.out), hgs⟩
              · rw [← hxe]
                exact HV8.out.only HON.out (endR_cast _ ▸ HVA.out)
              · have h1 := slice_step HRW8.out (Step.of_only HON.out (F := fun k => k = g) rfl) (fun k hk => by subst hk; exact HFL.out _ (.inr rfl)) (Nat.le_trans HZ7.out HZ8.out)
                exact h1.mono HS04.out (by have h2 := HZ7.out; have h3 := HZ8.out; have h4 := HON.out.size; omega)
            · have hp : runD D1 (stepsR c n) = ((runD D1 (stepsR c n)).1, 70) := by rw [← hE]
              generalize (runD D1 (stepsR c n)).1 = D2 at *
              rw [hp] at HV8
              have HR := Lib.hid hp
              clear hp
              rw [hE]
              clear hE
              go_wp2_with fail
              (try simp only [Exit.inBlock, Exit.then])
              (try rw [Exit.noGoto_ret])
              refine bodyPost_ret (v := (noVal 70)) (by simp [results, Tryd.results13, go_sem, noVal]) rfl ?_
              exact openPost_70 HP.out HX.out HR.out ⟨F8, HV8.out.disk, HS8.out.narrow (fun _ h => .inl h)⟩
    | some k =>
      have hk3 := copied_some hco
      have HO2 : Hid (openR c = match parseR (c.drop k) with
        | none => none
        | some (sn, tl, n) => if k - 64 ≤ n then none else some (sn, tl, (c.drop k).take n, finishR k c.length ((c.drop k).take n) ++ [(9, zerosR 55)])) := by show _ = _; unfold openR; rw [hco]; rfl
      rw [hco] at HCO
      clear hco
      have hkc : k < c.length := hk3.2.2
      have hk128 : 128 ≤ k := hk3.2.1
      have HPA := Lib.hid (fun W => parse_36 (c.drop k) W (by simp; omega))
      clear hk3 hqc hmn HQ
      ((with_reducible refine Calls.mono HCO.out ?_); rintro x w5 ⟨rfl, hw⟩; have hw := hw.symm; subst hw)
      go_wp2_with fail
      cases hpa : parseR (c.drop k) with
      | none =>
        have HX : Hid (openR D1.now = none) := by show _ = _; rw [HC.out, HO2.out, hpa]
        have HPx := HPA.out w4
        rw [hpa] at HPx
        clear hpa
        ((with_reducible refine Calls.mono HPx ?_); rintro x w6 ⟨rfl, hb6⟩)
        have HV6 := Lib.hid (HV4.out.below hb6)
        have HS6 := Lib.hid (HS4.out.trans (Step.of_below hb6))
        clear hb6 HPx
        go_wp2_with fail
        (try simp only [Exit.inBlock, Exit.then])
        (try rw [Exit.noGoto_ret])
        refine bodyPost_ret (v := (noVal 11)) (by simp [results, Tryd.results13, go_sem, noVal]) rfl ?_
        exact openPost_none HP.out HX.out ⟨_, HV6.out.disk, HS6.out.narrow (fun _ h => .inl h)⟩
      | some o =>
        obtain ⟨sn, tl, n⟩ := o
        have hle := (parse_le _ _ _ _ hpa).1
        have hqn : k + n ≤ c.length := by simp at hle; omega
        have HX0 : Hid (openR D1.now = if k - 64 ≤ n then none else some (sn, tl, (c.drop k).take n, finishR k c.length ((c.drop k).take n) ++ [(9, zerosR 55)])) := by show _ = _; rw [HC.out, HO2.out, hpa]
        have HPx := HPA.out w4
        rw [hpa] at HPx
        clear hpa hle
        ((with_reducible refine Calls.mono HPx ?_); rintro x w6 ⟨⟨v, rfl, hrow⟩, hb6⟩)
        obtain ⟨va, vc, rfl⟩ := row_shape hrow
        have HV6 := Lib.hid (HV4.out.below hb6)
        have HS6 := Lib.hid (HS4.out.trans (Step.of_below hb6))
        have HRW := Lib.hid (row_slice hrow)
        have HFL : Hid (∀ k, With F1 g k → k < w4.heap.size) := by
          intro k hk
          rcases hk with hk | rfl
          · exact HV4.out.lt k hk
          · exact blk_lt HV4.out.vault
        have HS04 := Lib.hid HS4.out.size
        clear hb6 HPx hrow HV4 HS4
        by_cases hkn : k - 64 ≤ n
        · have HX : Hid (openR D1.now = none) := by show _ = _; rw [HX0.out, if_pos hkn]
          have hkn2 : (k : Int) - 64 ≤ n := by omega
          go_wp2_with fail
          (try simp only [Exit.inBlock, Exit.then])
          (try rw [Exit.noGoto_ret])
          refine bodyPost_ret (v := (noVal 11)) (by simp [results, Tryd.results13, go_sem, noVal]) rfl ?_
          exact openPost_none HP.out HX.out ⟨_, HV6.out.disk, HS6.out.narrow (fun _ h => .inl h)⟩
        · have HX1 : Hid (openR D1.now = some (sn, tl, (c.drop k).take n, finishR k c.length ((c.drop k).take n) ++ [(9, zerosR 55)])) := by show _ = _; rw [HX0.out, if_neg hkn]
          have hkn2 : (n : Int) < (k : Int) - 64 := by omega
          clear hkn
          go_wp2_with fail
          ((with_reducible refine Calls.mono (clean_37 F1 w6 g c n HV6.out.lt (by omega) (by omega)) ?_); rintro x w10 ⟨sv0, rfl, _, hb10⟩)
          obtain ⟨xx, hxx⟩ : ∃ xx, xx = (c.take (k + n)).drop k := ⟨_, rfl⟩
          have hxl : xx.length = n := by rw [hxx]; simp; omega
          rw [← hxx]
          have HXX := Lib.hid hxx
          clear hxx
          go_wp2_with fail
          ((with_reducible refine Calls.mono (finish_i (fun k => k < w10.heap.size) w10 g k c.length _ _ rfl rfl xx (fun k h => h) (by omega) (by omega) (by omega)) ?_); rintro x w11 ⟨sv1, rfl, hst, hb11⟩)
          obtain ⟨a1, p1, rfl⟩ := hst.shape
          have HST1 := Lib.hid hst
          have HB11 := Lib.hid hb11
          clear hst hb11
          go_wp2_with fail
          ((with_reducible refine Calls.mono (zeros_any w11 55 (by omega) (by omega)) ?_); rintro x w12 ⟨rfl, hb12⟩)
          have HST2 := Lib.hid (HST1.out.keep (Step.of_below hb12))
          have HB12 := Lib.hid (btr HB11.out hb12 HB11.out.size)
          clear hb12 HST1 HB11
          go_wp2_with fail
          ((with_reducible refine Calls.mono (write_39 (fun k => k < w10.heap.size) w12 g _ _ (fun k h => Nat.lt_of_lt_of_le h HB12.out.size)) ?_); rintro x w13 ⟨p3, rfl, hs3, hb13⟩)
          have HST3 := Lib.hid (HST2.out.keep (Step.of_below hb13))
          have HS3 := Lib.hid hs3
          have HB13 := Lib.hid (btr HB12.out hb13 HB12.out.size)
          clear hs3 hb13 HST2 HB12
          obtain ⟨sv, w7, hrun, hst7, hb7⟩ := steps_add (off := 9) HST3.out HS3.out (fun k h => Nat.lt_of_lt_of_le h HB13.out.size) (by show 3 ≤ 1000; omega) w10.heap.size (fun k h => h) HB13.out.size
          have HRUN := Lib.hid hrun
          have HB7 : Hid (Below w6.heap.size w6 w7) := btr hb10 (HB13.out.trans hb7) hb10.size
          have HST := Lib.hid (hst7.weak (F' := F1) (fun k hk => Nat.lt_of_lt_of_le (HV6.out.lt k hk) hb10.size))
          have HV7 := Lib.hid (HV6.out.below HB7.out)
          have HS7 := Lib.hid (HS6.out.trans (Step.of_below HB7.out))
          have HRW7 := Lib.hid (slice_step (F' := With F1 g) HRW.out (Step.of_below HB7.out) HFL.out (Nat.le_refl _))
          have HZ7 := Lib.hid HB7.out.size
          obtain ⟨a7, p7, hsv⟩ := hst7.shape
          rw [List.length_append, List.length_singleton] at hsv
          subst hsv
          clear hst7 hb7 hrun hb10 HST3 HS3 HV6 HS6 HRW
          go_wp2_with (at_builtin; refine wpList_run rfl _ _ 78 78 78 rfl rfl _ _ _ w7 rfl rfl HRUN.out ?_)
          have hxe0 : xx = (c.drop k).take n := by rw [HXX.out, List.drop_take]; congr 1; omega
          have HX := Lib.hid (hxe0 ▸ HX1.out : openR D1.now = some (sn, tl, xx, finishR k c.length xx ++ [(9, zerosR 55)]))
          have HFIT : Hid (∀ q ∈ finishR k c.length xx ++ [(9, zerosR 55)], q.1 + q.2.length ≤ 16777216) := by
            intro q hq
            simp only [finishR, List.cons_append, List.nil_append, List.mem_cons, List.not_mem_nil, or_false] at hq
            rcases hq with rfl | rfl | rfl | rfl
            · show 64 + (xx ++ zerosR (k - 64 - xx.length)).length ≤ _; rw [List.length_append, zeros_len]; omega
            · show 0 + (zerosR 9).length ≤ _; rw [zeros_len]; omega
            · show k + (zerosR (c.length - k)).length ≤ _; rw [zeros_len]; omega
            · show 9 + (zerosR 55).length ≤ _; rw [zeros_len]; omega
          have HLN : (finishR k c.length xx ++ [(9, zerosR 55)]).length = 4 := rfl
          clear hxe0
          ((with_reducible refine Calls.mono (do_41 F1 w7 g b 0 0 false D1 HV7.out HOK.out (by rw [HPC.out]; simp) _ _ HST.out (by rw [HLN]; omega) HFIT.out) ?_); rintro x w8 ⟨rfl, F8, hv8, hs8⟩)
          have HV8 := Lib.hid hv8
          have HRW8 := Lib.hid (slice_step HRW7.out hs8 HFL.out HZ7.out)
          have HS8 := Lib.hid (HS7.out.trans hs8)
          have HZ8 := Lib.hid hs8.size
          clear hv8 hs8 HV7 HS7 HRW7 HST
          rcases run_err D1 (finishR k c.length xx ++ [(9, zerosR 55)]) with hE | hE
          · have hp : runD D1 (finishR k c.length xx ++ [(9, zerosR 55)]) = ((runD D1 (finishR k c.length xx ++ [(9, zerosR 55)])).1, 0) := by rw [← hE]
            generalize (runD D1 (finishR k c.length xx ++ [(9, zerosR 55)])).1 = D2 at *
            rw [hp] at HV8
            have HR := Lib.hid hp
            clear hp
            rw [hE]
            clear hE
            go_wp2_with fail
            ((with_reducible refine Calls.mono (note_42 _ g b 0 0 false HV8.out.vault _ (by first | omega | (simp; omega)) _ _ _) ?_); rintro x w9 ⟨rfl, hva, hon⟩)
            have HVA := Lib.hid hva
            have HON := Lib.hid hon
            clear hva hon
            go_wp2_with fail
            (try simp only [Exit.inBlock, Exit.then])
            (try rw [Exit.noGoto_ret])
            refine bodyPost_ret (v := (.tuple #[.pointer (some ⟨g, 0, none⟩), S sn, .slice va tl.length vc, .int .i64 0])) (by simp [results, Tryd.results13, go_sem]) rfl ?_
            refine openPost_some HP.out HX.out HR.out g _ ⟨F8, ?_, ?_, HS8.out.trans (Step.only_more HON.out), hgs⟩
            · exact HV8.out.only HON.out (endR_cast _ ▸ HVA.out)
            · have h1 := slice_step HRW8.out (Step.of_only HON.out (F := fun k => k = g) rfl) (fun k hk => by subst hk; exact HFL.out _ (.inr rfl)) (Nat.le_trans HZ7.out HZ8.out)
              exact h1.mono HS04.out (by have h2 := HZ7.out; have h3 := HZ8.out; have h4 := HON.out.size; omega)
          · have hp : runD D1 (finishR k c.length xx ++ [(9, zerosR 55)]) = ((runD D1 (finishR k c.length xx ++ [(9, zerosR 55)])).1, 70) := by rw [← hE]
            generalize (runD D1 (finishR k c.length xx ++ [(9, zerosR 55)])).1 = D2 at *
            rw [hp] at HV8
            have HR := Lib.hid hp
            clear hp
            rw [hE]
            clear hE
            go_wp2_with fail
            (try simp only [Exit.inBlock, Exit.then])
            (try rw [Exit.noGoto_ret])
            refine bodyPost_ret (v := (noVal 70)) (by simp [results, Tryd.results13, go_sem, noVal]) rfl ?_
            exact openPost_70 HP.out HX.out HR.out ⟨F8, HV8.out.disk, HS8.out.narrow (fun _ h => .inl h)⟩
  · have hp : syncD D = ((syncD D).1, 70) := by rw [← hE]
    generalize (syncD D).1 = D1 at *
    have HP := Lib.hid hp
    rw [hp] at HY
    clear hp hE
    clear hok h
    go_enter Tryd.func13, Tryd.ntmps13
    go_wp2_with fail
    ((with_reducible refine Calls.mono HY.out ?_); rintro x w1 ⟨rfl, F1, hd1, hs1⟩)
    have HD1 := Lib.hid hd1
    have HS1 := Lib.hid hs1
    clear hd1 hs1
    go_wp2_with fail
    (try simp only [Exit.inBlock, Exit.then])
    (try rw [Exit.noGoto_ret])
    refine bodyPost_ret (v := (noVal 70)) (by simp [results, Tryd.results13, go_sem, noVal]) rfl ?_
    unfold OpenPost
    rw [HP.out, if_neg (show ¬ ((70 : Int) = 0) by decide)]
    exact ⟨rfl, F1, HD1.out, HS1.out⟩
end Go.Proofs.YtgdkdihedgiegaaDoor
