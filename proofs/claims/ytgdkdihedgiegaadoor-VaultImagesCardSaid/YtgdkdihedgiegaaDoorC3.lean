/-
  The walks of groups and of the program's Number.
  The walk of the program's Number.
-/
import Derived.Test.YtgdkdihedgiegaaDoorConv
namespace Go.Proofs.YtgdkdihedgiegaaDoor
open Go.RowKit Go.Shelf
attribute [local go_sem] Oper.semAt_some

/-- What is left of the number, read off the world. -/
def leftOf (W : World) (Bn : Nat) : Nat := match W.cell? ⟨Bn, 0, none⟩ with
  | some (.int _ z) => z.toNat
  | _ => 0
set_option maxRecDepth 100000 in
set_option maxHeartbeats 1000000 in
theorem groups1_in (F : Fence) (n : Nat) (h92 : F.fn 92) (hro : F.round = none) (hn : 1 ≤ n) (Bn N : Nat) (hN : N < 18446744073709551616) : Groups F n Tryd.prog 92 #[.pointer (some ⟨Bn, 0, none⟩)] Bn N := by
  intro l J W hcell hset hY h0
  refine callsIn_of_wp Tryd.func92 rfl h92 ?_ hro
  simp only [Tryd.ntmps92, List.size_toArray, List.length_cons, List.length_nil, Nat.reduceAdd, Nat.reduceSub, Array.replicate_succ, Array.replicate_zero, List.push_toArray, List.append_toArray, List.nil_append, List.cons_append]
  have HC := Lib.hid hcell
  have HS := Lib.hid hset
  have HY := Lib.hid hY
  clear hcell hset hY
  gi_wp2
  gi_loopw [3] (fun _ wr => ∃ (d : Bs) (m : Nat), Hid (J d m wr) ∧ Hid (d ++ numR m = numR N) ∧ m < 18446744073709551616) (fun _ wr => leftOf wr Bn)
  case atStart => exact ⟨[], N, h0, rfl, hN⟩
  case round =>
    obtain ⟨d, m, HJ, HD, hm⟩ := hrel
    obtain ⟨c1, f1⟩ := HC.out d m wr HJ.out
    obtain ⟨m2, hm2⟩ : ∃ m2, m2 = m / 128 := ⟨_, rfl⟩
    obtain ⟨r, hr⟩ : ∃ r, r = m % 128 := ⟨_, rfl⟩
    have hrb : r < 128 := by omega
    have HJ2 := Lib.hid (HS.out d m m2 wr HJ.out)
    have e5 : (m : Int).tmod 128 = r := by rw [Int.tmod_eq_emod_of_nonneg (by omega)]; omega
    have e3 : (m : Int) / 128 = m2 := by omega
    have e2 : IntKind.u8.wrap (r : Int) = r := IntWalk.u8_in _ (by omega)
    have hdl : d.length ≤ 9 := by
      have h1 := congrArg List.length HD.out
      have h2 := numR_len_le N 9 (by omega)
      have h3 := numR_len_pos m
      simp at h1; omega
    have hlo : leftOf wr Bn = m := by unfold leftOf; rw [c1]; simp
    by_cases hpos : 0 < m2
    · have HN := Lib.hid (show numR m = UInt8.ofNat (r + 128) :: numR m2 from by rw [hm2, hr]; exact numR_big (by omega))
      obtain ⟨fn, tmps, assign, body, hy, hR⟩ := HY.out d m2 r _ hrb HJ2.out hdl
      simp only [hpos, decide_true] at hy
      have HR := Lib.hid hR
      have hlt : m2 < m := by omega
      have HM := Lib.hid hm2
      clear hR hr hm2
      gi_wp2
      refine HR.out.mono ?_
      rintro e W3 ⟨rfl, hJ3⟩
      obtain ⟨c3, f3⟩ := HC.out _ _ _ hJ3
      have HJ3 := Lib.hid hJ3
      have hne : ¬ m2 = 0 := by omega
      clear hJ3
      gi_wp2
      go_roundw
      case rel =>
        refine ⟨_, m2, HJ3, ?_, by omega⟩
        rw [if_pos hpos]
        show _ = _
        rw [← HD.out, HN.out, List.append_assoc]
        rfl
      case measure =>
        rw [hlo]
        unfold leftOf
        rw [c3]
        simpa using hlt
    · obtain rfl : m2 = 0 := by omega
      have HN := Lib.hid (show numR m = [UInt8.ofNat r] from by rw [hr, numR_small (by omega)]; congr 2; omega)
      obtain ⟨fn, tmps, assign, body, hy, hR⟩ := HY.out d 0 r _ hrb HJ2.out hdl
      simp only [Nat.lt_irrefl, decide_false] at hy
      have HR := Lib.hid hR
      clear hR hr hm2 hpos
      rw [show ((0 : Nat) : Int) = 0 from rfl] at e3 hy HR HJ2
      gi_wp2
      refine HR.out.mono ?_
      rintro e W3 ⟨rfl, hJ3⟩
      obtain ⟨c3, f3⟩ := HC.out _ _ _ hJ3
      have HJ3 := Lib.hid hJ3
      clear hJ3
      gi_wp2
      refine bodyPost_ret (results_none rfl _ _ _) rfl ⟨⟨_, rfl⟩, ?_⟩
      have h5 := HJ3.out
      rw [if_neg (Nat.lt_irrefl 0), ← HN.out, HD.out] at h5
      exact h5
set_option maxHeartbeats 1000000 in
theorem groups_in (F : Fence) (n : Nat) (h80 : F.fn 80) (hro : F.round = none) (N : Nat) (w : World) :
    CallsIn F n Tryd.prog 80 #[.int .u64 N] w fun e w' => e = .returned (.func (.func 92) #[] #[.pointer (some ⟨w.heap.size, 0, none⟩)]) ∧ w' = w.alloc (.cells #[.int .u64 N] 91) := by
  refine callsIn_of_wp Tryd.func80 rfl h80 ?_ hro
  simp only [Tryd.ntmps80, List.size_toArray, List.length_cons, List.length_nil, Nat.reduceAdd, Nat.reduceSub, Array.replicate_succ, Array.replicate_zero, List.push_toArray, List.append_toArray, List.nil_append, List.cons_append]
  gi_wp2
  go_ret
  exact ⟨rfl, rfl⟩
/-- Between two rounds: what is left of the number; what has been collected, in a row of its own. -/
structure NumAt (w : World) (Bn Bo : Nat) (d : Bs) (m : Nat) (W : World) : Prop where
  c : W.heap[Bn]? = some (.cells #[.int .u64 (m : Int)] 91 (0, 0))
  o : ∃ v, Boxed W Bo 51 v ∧ W.ownsRow w.heap.size 5 1 v d.length (bv d)
  b : Below w.heap.size w W
theorem NumAt.far {w X Y : World} {Bn Bo : Nat} {d : Bs} {m : Nat} (h : NumAt w Bn Bo d m X) (hb : Below w.heap.size w Y) (hk : ∀ (k : Nat) (o : Obj), X.heap[k]? = some o → o.isCells = true → Y.heap[k]? = some o) : NumAt w Bn Bo d m Y := by
  obtain ⟨v, hv, hr⟩ := h.o
  refine ⟨hk _ _ h.c rfl, ⟨v, hk _ _ hv rfl, row_far hr (fun g hgg => ?_)⟩, hb⟩
  obtain ⟨cur, hc⟩ := row_type hr hgg
  rw [hc]; exact hk _ _ hc rfl
theorem NumAt.firm (w : World) (Bn Bo B : Nat) (hB : w.heap.size ≤ B) : Firm B (NumAt w Bn Bo) := by
  intro d m X Y row h hg hrow
  refine h.far (h.b.grown hg h.b.size (fun k e => Nat.le_trans hB (hrow k e).1)) (fun k o ho hc => ?_)
  refine (hg.block k (blk_lt ho) (fun e => ?_)).trans ho
  obtain ⟨_, o', ho', hc'⟩ := hrow k e.symm
  rw [ho] at ho'
  injection ho' with ho'
  subst ho'
  rw [hc] at hc'; cases hc'
theorem NumAt.set {w X : World} {Bn Bo : Nat} {d : Bs} {m : Nat} (h : NumAt w Bn Bo d m X) (hne : Bo ≠ Bn) (hB : w.heap.size ≤ Bn) (m' : Nat) : NumAt w Bn Bo d m' (X.setCell ⟨Bn, 0, none⟩ (.int .u64 m')) := by
  obtain ⟨v, hv, hr⟩ := h.o
  refine ⟨(blk_set h.c 0 _).trans rfl, ⟨v, (Below.heap_setCell _ _ _ _ hne).trans hv, row_far hr (fun g hgg => Below.heap_setCell _ _ _ _ (fun (e : g = Bn) => ?_))⟩, h.b.setCell hB _⟩
  obtain ⟨cur, hc⟩ := row_type hr hgg
  rw [e, h.c] at hc
  injection hc with hc
  injection hc with _ hc
  exact absurd hc (by decide)
theorem num_next {w W w1 : World} {Bn Bo m n : Nat} {v : Value} {xs : List Value} {o : Obj} (h : W.heap[Bn]? = some (.cells #[.int .u64 (m : Int)] 91 (0, 0))) (hr : W.ownsRow w.heap.size 5 1 v n xs) (hg : (W.alloc o).grownBy w1 v.ownBlock) (hne : Bn ≠ Bo) (u : Value) :
    (w1.setCell ⟨Bo, 0, none⟩ u).heap[Bn]? = some (.cells #[.int .u64 (m : Int)] 91 (0, 0)) := by
  rw [Below.heap_setCell _ _ _ _ hne, hg.block Bn (by have := blk_lt h; simp; omega) (fun e => ?_), Below.heap_alloc _ _ _ (blk_lt h)]
  · exact h
  · obtain ⟨cur, hc⟩ := row_type hr e.symm
    rw [h] at hc
    injection hc with hc
    injection hc with _ hc
    exact absurd hc (by decide)
theorem or_128 : ∀ x : Fin 128, bits .or .u8 (x.val : Int) 128 = ((x.val + 128 : Nat) : Int) := by decide
end Go.Proofs.YtgdkdihedgiegaaDoor

namespace Go.Proofs.YtgdkdihedgiegaaDoor
open Go.RowKit Go.Shelf
attribute [local go_sem] Oper.semAt_some

set_option maxRecDepth 100000 in
set_option maxHeartbeats 2000000 in
theorem number_in (F : Fence) (n : Nat) (h64 : F.fn 64) (h80 : F.fn 80) (h92 : F.fn 92) (hro : F.round = none) (hn : 3 ≤ n) (N : Nat) (hN : N < 18446744073709551616) (w : World) :
    CallsIn F n Tryd.prog 64 #[.int .u64 N] w fun e w' => e = .returned (S (numR N)) ∧ Below w.heap.size w w' := by
  have h1 : 1 ≤ n := by omega
  refine callsIn_of_wp_marks Tryd.func64 rfl h64 ?_ hro
  simp only [Tryd.ntmps64, List.size_toArray, List.length_cons, List.length_nil, Nat.reduceAdd, Nat.reduceSub, Array.replicate_succ, Array.replicate_zero, List.push_toArray, List.append_toArray, List.nil_append, List.cons_append]
  gi_wp2_with (gi_at_call 80; refine (groups_in F (n - 1) h80 hro _ _).mono ?_; rintro e w' ⟨rfl, rfl⟩)
  have bO := Boxed.new w 51 (.slice none 0 0)
  have hBn := World.alloc_heap_new (w.alloc (.cells #[.slice none 0 0] 51)) (.cells #[.int .u64 (N : Int)] 91)
  rw [World.size_alloc] at hBn
  have hB0 : Below w.heap.size w ((w.alloc (.cells #[.slice none 0 0] 51)).alloc (.cells #[.int .u64 (N : Int)] 91)) := ((Below.refl _ w).alloc (Nat.le_refl _) _).alloc (by simp) _
  refine wpIn_groups hro h1 (gf := 92) (lb := #[.pointer (some ⟨w.heap.size + 1, 0, none⟩)]) rfl h92 (enters_of Tryd.func92 (by kernel_rfl) rfl) (groups1_in F (n - 1) h92 hro (by omega) (w.heap.size + 1) N hN) rfl
    (NumAt w (w.heap.size + 1) w.heap.size) (NumAt.firm w _ _ _ hB0.size) (fun d m X h => ⟨by rw [blk_cell h.c]; rfl, blk_frozen h.c 0⟩) (fun d m m' X h => h.set (by omega) (by omega) m') (by simp) ⟨hBn, ⟨_, bO.alloc _, World.ownsRow_nil _ _ _ _⟩, hB0⟩
    (fun x t => { tmps := #[.int .u64 N, undef, .string ⟨#[]⟩, .pointer (some ⟨w.heap.size, 0, none⟩), .int .u8 x, .bool t, .int .u64 N, .func (.func 92) #[] #[.pointer (some ⟨w.heap.size + 1, 0, none⟩)], .int .u8 x, .bool t, undef, undef, undef, undef, undef, undef, undef, undef, undef], defers := [] }) ?assign ?body ?done
  case assign =>
    intro l x t W K hK
    gi_wp2
    exact hK
  case body =>
    rintro l d m x W hx h hlen
    obtain ⟨z, hz⟩ : ∃ z, z = UInt8.ofNat (if 0 < m then x + 128 else x) := ⟨_, rfl⟩
    rw [← hz]
    have HZ := Lib.hid hz
    clear hz
    obtain ⟨v, hv, hr⟩ := h.o
    have hc := hv.cell
    have H := Lib.hid h
    obtain ⟨i0, hi, hz0, hz1, hz2⟩ := info_parts i5
    have HB := Lib.hid h.b
    have HR := Lib.hid hr
    have HV := Lib.hid hv
    clear h hr hv
    by_cases hm : 0 < m
    · obtain ⟨y, hy⟩ : ∃ y, y = x + 128 := ⟨_, rfl⟩
      have e1 : bits .or .u8 (x : Int) 128 = (y : Int) := by rw [hy]; exact or_128 ⟨x, hx⟩
      have HY := Lib.hid hy
      clear hy
      gi_wp2_with (gi_at_builtin; refine wpListIn_append_own _ rfl _ _ 51 rfl w.heap.size 5 i0 (.int .u8 0) 1 1 Tryd.underlying51 hi hz0 hz1 hz2 rfl (by decide) _ _ _ rfl (HR.out.alloc _) ⟨W.heap.size, 0, none⟩ 1 1 [.int .u8 (y : Int)] rfl rfl (cell_one_new _ _ _) (by simp [Value.oneCell']) (by unfold maxLen; omega) (by omega) (by have := HB.out.size; simp; omega) ?_; intro v' w1 hown' hgrow _; obtain ⟨g', cap', rfl⟩ := ownsRow_succ hown'; obtain ⟨hv1, hv2, hr2, hk2, hb2⟩ := HV.out.appended (by decide) HR.out HB.out.size (Nat.le_refl _) hown' hgrow; have hc1 := hv1.cell; have hf1 := hv1.frozen)
      have hnx := num_next H.out.c HR.out hgrow (Nat.succ_ne_self w.heap.size)
      refine ⟨hk2, ⟨hnx _, ⟨_, hv2, ?_⟩, HB.out.trans hb2⟩⟩
      rw [List.length_append, bv_app]
      have hcc : z.toNat = y := by rw [HZ.out, if_pos hm, HY.out]; exact ofNat_toNat (by omega)
      simpa [bv, hcc] using hr2
    · obtain rfl : m = 0 := by omega
      have hm0 : decide (0 < 0) = false := rfl
      gi_wp2_with (gi_at_builtin; refine wpListIn_append_own _ rfl _ _ 51 rfl w.heap.size 5 i0 (.int .u8 0) 1 1 Tryd.underlying51 hi hz0 hz1 hz2 rfl (by decide) _ _ _ rfl (HR.out.alloc _) ⟨W.heap.size, 0, none⟩ 1 1 [.int .u8 (x : Int)] rfl rfl (cell_one_new _ _ _) (by simp [Value.oneCell']) (by unfold maxLen; omega) (by omega) (by have := HB.out.size; simp; omega) ?_; intro v' w1 hown' hgrow _; obtain ⟨g', cap', rfl⟩ := ownsRow_succ hown'; obtain ⟨hv1, hv2, hr2, hk2, hb2⟩ := HV.out.appended (by decide) HR.out HB.out.size (Nat.le_refl _) hown' hgrow; have hc1 := hv1.cell; have hf1 := hv1.frozen)
      have hnx := num_next H.out.c HR.out hgrow (Nat.succ_ne_self w.heap.size)
      refine ⟨hk2, ⟨hnx _, ⟨_, hv2, ?_⟩, HB.out.trans hb2⟩⟩
      rw [List.length_append, bv_app]
      have hcc : z.toNat = x := by rw [HZ.out, if_neg (Nat.lt_irrefl 0)]; exact ofNat_toNat (by omega)
      simpa [bv, hcc] using hr2
  case done =>
    rintro D W hD h hK
    obtain ⟨v, hv, hr⟩ := h.o
    have hc := hv.cell
    have hcv : (convert 51 9 v).run Tryd.prog W = .ok (S (numR N)) W := by
      rcases hr.2 with ⟨rfl, hl⟩ | ⟨g, cp, cur, rfl, _⟩
      · exact absurd (List.eq_nil_of_length_eq_zero hl) (numR_pos N)
      · exact conv_back W ⟨g, 0, none⟩ _ _ (hr.cells (g := g) rfl)
    have HB := Lib.hid h.b
    clear hr h
    gi_wp2
    refine ⟨by simp, .inl ⟨_, _, rfl, run_takeDeferred hK, ?_⟩⟩
    exact ⟨_, results_tmp rfl _ _ _, rfl, HB.out.trans (belowK_b (w := w) (Nat.le_refl _) W D _ _ (by simp at hD; omega) hK rfl rfl)⟩
/-- The program's Number. -/
theorem number_64 (N : Nat) (hN : N < 18446744073709551616) (w : World) : Calls Tryd.prog 64 #[.int .u64 N] w fun e w' => e = .returned (S (numR N)) ∧ Below w.heap.size w w' :=
  callsIn_wide.1 (number_in Fence.wide 3 trivial trivial trivial rfl (Nat.le_refl _) N hN w)
end Go.Proofs.YtgdkdihedgiegaaDoor
