/-
  The walk of the program's Number.
-/
import Derived.Test.YtgdkdihedgiegaaDoorC3
namespace Go.Proofs.YtgdkdihedgiegaaDoor
open Go.RowKit Go.Shelf
attribute [local go_sem] Oper.semAt_some

set_option maxRecDepth 100000 in
set_option maxHeartbeats 2000000 in
theorem number_in (F : Fence) (n : Nat) (h64 : F.fn 64) (h80 : F.fn 80) (h92 : F.fn 92) (hro : F.round = none) (hn : 3 ≤ n) (N : Nat) (hN : N < 18446744073709551616) (w : World) :
    CallsIn F n Tryd.prog 64 #[.int .u64 N] w fun e w' => e = .returned (S (numR N)) ∧ Below w.heap.size w w' := by
  have h1 : 1 ≤ n := by omega
  refine callsIn_of_wp_marks Tryd.func64 rfl h64 ?_ hro
  simp only [Tryd.ntmps64, List.size_toArray, List.length_cons, List.length_nil, Nat.reduceAdd, Nat.reduceSub, Array.replicate_succ, Array.replicate_zero, List.push_toArray, List.append_toArray, List.nil_append, List.cons_append]
  gi_wp2_with (gi_at_call 80; refine (groups_in F (n - 1) h80 hro _ _).mono ?_; rintro e w' ⟨rfl, rfl⟩)
  have bO := Boxed.new w 51 (.slice none 0 0)
  have hBn := World.alloc_heap_new (w.alloc (.cells #[.slice none 0 0] 51)) (.cells #[.int .u64 (N : Int)] 91)
  rw [World.size_alloc] at hBn
  have hB0 : Below w.heap.size w ((w.alloc (.cells #[.slice none 0 0] 51)).alloc (.cells #[.int .u64 (N : Int)] 91)) := ((Below.refl _ w).alloc (Nat.le_refl _) _).alloc (by simp) _
  refine wpIn_groups hro h1 (gf := 92) (lb := #[.pointer (some ⟨w.heap.size + 1, 0, none⟩)]) rfl h92 (enters_of Tryd.func92 (by kernel_rfl) rfl) (groups1_in F (n - 1) h92 hro (by omega) (w.heap.size + 1) N hN) rfl
    (NumAt w (w.heap.size + 1) w.heap.size) (NumAt.firm w _ _ _ hB0.size) (fun d m X h => ⟨by rw [blk_cell h.c]; rfl, blk_frozen h.c 0⟩) (fun d m m' X h => h.set (by omega) (by omega) m') (by simp) ⟨hBn, ⟨_, bO.alloc _, World.ownsRow_nil _ _ _ _⟩, hB0⟩
    (fun x t => { tmps := #[.int .u64 N, undef, .string ⟨#[]⟩, .pointer (some ⟨w.heap.size, 0, none⟩), .int .u8 x, .bool t, .int .u64 N, .func (.func 92) #[] #[.pointer (some ⟨w.heap.size + 1, 0, none⟩)], .int .u8 x, .bool t, undef, undef, undef, undef, undef, undef, undef, undef, undef], defers := [] }) ?assign ?body ?done
  case assign =>
    intro l x t W K hK
    gi_wp2
    exact hK
  case body =>
    rintro l d m x W hx h hlen
    obtain ⟨z, hz⟩ : ∃ z, z = UInt8.ofNat (if 0 < m then x + 128 else x) := ⟨_, rfl⟩
    rw [← hz]
    have HZ := Lib.hid hz
    clear hz
    obtain ⟨v, hv, hr⟩ := h.o
    have hc := hv.cell
    have H := Lib.hid h
    obtain ⟨i0, hi, hz0, hz1, hz2⟩ := info_parts i5
    have HB := Lib.hid h.b
    have HR := Lib.hid hr
    have HV := Lib.hid hv
    clear h hr hv
    by_cases hm : 0 < m
    · obtain ⟨y, hy⟩ : ∃ y, y = x + 128 := ⟨_, rfl⟩
      have e1 : bits .or .u8 (x : Int) 128 = (y : Int) := by rw [hy]; exact or_128 ⟨x, hx⟩
      have HY := Lib.hid hy
      clear hy
      gi_wp2_with (gi_at_builtin; refine wpListIn_append_own _ rfl _ _ 51 rfl w.heap.size 5 i0 (.int .u8 0) 1 1 Tryd.underlying51 hi hz0 hz1 hz2 rfl (by decide) _ _ _ rfl (HR.out.alloc _) ⟨W.heap.size, 0, none⟩ 1 1 [.int .u8 (y : Int)] rfl rfl (cell_one_new _ _ _) (by simp [Value.oneCell']) (by unfold maxLen; omega) (by omega) (by have := HB.out.size; simp; omega) ?_; intro v' w1 hown' hgrow _; obtain ⟨g', cap', rfl⟩ := ownsRow_succ hown'; obtain ⟨hv1, hv2, hr2, hk2, hb2⟩ := HV.out.appended (by decide) HR.out HB.out.size (Nat.le_refl _) hown' hgrow; have hc1 := hv1.cell; have hf1 := hv1.frozen)
      have hnx := num_next H.out.c HR.out hgrow (Nat.succ_ne_self w.heap.size)
      refine ⟨hk2, ⟨hnx _, ⟨_, hv2, ?_⟩, HB.out.trans hb2⟩⟩
      rw [List.length_append, bv_app]
      have hcc : z.toNat = y := by rw [HZ.out, if_pos hm, HY.out]; exact ofNat_toNat (by omega)
      simpa [bv, hcc] using hr2
    · obtain rfl : m = 0 := by omega
      have hm0 : decide (0 < 0) = false := rfl
      gi_wp2_with (gi_at_builtin; refine wpListIn_append_own _ rfl _ _ 51 rfl w.heap.size 5 i0 (.int .u8 0) 1 1 Tryd.underlying51 hi hz0 hz1 hz2 rfl (by decide) _ _ _ rfl (HR.out.alloc _) ⟨W.heap.size, 0, none⟩ 1 1 [.int .u8 (x : Int)] rfl rfl (cell_one_new _ _ _) (by simp [Value.oneCell']) (by unfold maxLen; omega) (by omega) (by have := HB.out.size; simp; omega) ?_; intro v' w1 hown' hgrow _; obtain ⟨g', cap', rfl⟩ := ownsRow_succ hown'; obtain ⟨hv1, hv2, hr2, hk2, hb2⟩ := HV.out.appended (by decide) HR.out HB.out.size (Nat.le_refl _) hown' hgrow; have hc1 := hv1.cell; have hf1 := hv1.frozen)
      have hnx := num_next H.out.c HR.out hgrow (Nat.succ_ne_self w.heap.size)
      refine ⟨hk2, ⟨hnx _, ⟨_, hv2, ?_⟩, HB.out.trans hb2⟩⟩
      rw [List.length_append, bv_app]
      have hcc : z.toNat = x := by rw [HZ.out, if_neg (Nat.lt_irrefl 0)]; exact ofNat_toNat (by omega)
      simpa [bv, hcc] using hr2
  case done =>
    rintro D W hD h hK
    obtain ⟨v, hv, hr⟩ := h.o
    have hc := hv.cell
    have hcv : (convert 51 9 v).run Tryd.prog W = .ok (S (numR N)) W := by
      rcases hr.2 with ⟨rfl, hl⟩ | ⟨g, cp, cur, rfl, _⟩
      · exact absurd (List.eq_nil_of_length_eq_zero hl) (numR_pos N)
      · exact conv_back W ⟨g, 0, none⟩ _ _ (hr.cells (g := g) rfl)
    have HB := Lib.hid h.b
    clear hr h
    gi_wp2
    refine ⟨by simp, .inl ⟨_, _, rfl, run_takeDeferred hK, ?_⟩⟩
    exact ⟨_, results_tmp rfl _ _ _, rfl, HB.out.trans (belowK_b (w := w) (Nat.le_refl _) W D _ _ (by simp at hD; omega) hK rfl rfl)⟩
/-- The program's Number. -/
theorem number_64 (N : Nat) (hN : N < 18446744073709551616) (w : World) : Calls Tryd.prog 64 #[.int .u64 N] w fun e w' => e = .returned (S (numR N)) ∧ Below w.heap.size w w' :=
  callsIn_wide.1 (number_in Fence.wide 3 trivial trivial trivial rfl (Nat.le_refl _) N hN w)
end Go.Proofs.YtgdkdihedgiegaaDoor
