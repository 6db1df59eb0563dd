/-
  The walk of MarcWrites.
-/
import Derived.Test.YtfkleeigdplapaaDoorQ2
namespace Go.Proofs.YtfkleeigdplapaaDoor
open Go.RowKit
attribute [local go_sem ↓] Go.wp_at_zero Go.wp_at_succ

/-- What both writers, and Right, say of a value from a world on. -/
def Says (w9 : World) (v : Value) (s : Bs) (n : Int) : Prop := ∀ W, Below w9.heap.size w9 W →
  (Calls Tryd.prog 17 #[v] W fun e w' => e = .returned (.tuple #[S s, .int .i64 n]) ∧ Below W.heap.size W w') ∧ (Calls Tryd.prog 20 #[v] W fun e w' => e = .returned (.tuple #[S s, .int .i64 n]) ∧ Below W.heap.size W w') ∧
  (Calls Tryd.prog 26 #[v] W fun e w' => e = .returned (.bool (decide (n = 0))) ∧ Below W.heap.size W w')
theorem says_of (r : RecD) (sa : Option Addr) (cap : Nat) (w9 : World) (hf : FieldsAt 0 w9.heap.size w9 (.slice sa r.fields.length cap) r.fields) (hs : Small r.fields) : ∃ (s : Bs) (n : Int), Says w9 (.agg #[.int .u8 r.kind.toNat, .int .u8 r.level.toNat, .slice sa r.fields.length cap]) s n ∧ (wrongR r = 0 → n = 0) := by
  refine ⟨(writeR r).1, (writeR r).2, fun W hW => ?_, fun h => by rw [writeR_2]; exact h⟩
  have hf' := fields_up hf (Nat.le_refl _) hW
  refine ⟨write_at r _ W hf' hs rfl, write_20 r (recV r _) W ⟨_, rfl, hf'⟩ hs, ?_⟩
  have := right_26 r (recV r _) W ⟨_, rfl, hf'⟩ hs
  rw [← writeR_2] at this
  exact this
theorem nine (w : World) (a b c d e f g h i : Value) (t : TypeId) : (w.alloc (Obj.cells #[a, b, c, d, e, f, g, h, i] t)).cell? ⟨w.heap.size, 0, none⟩ = some a ∧ (w.alloc (Obj.cells #[a, b, c, d, e, f, g, h, i] t)).cell? ⟨w.heap.size, 1, none⟩ = some b ∧
    (w.alloc (Obj.cells #[a, b, c, d, e, f, g, h, i] t)).cell? ⟨w.heap.size, 2, none⟩ = some c ∧ (w.alloc (Obj.cells #[a, b, c, d, e, f, g, h, i] t)).cell? ⟨w.heap.size, 3, none⟩ = some d ∧ (w.alloc (Obj.cells #[a, b, c, d, e, f, g, h, i] t)).cell? ⟨w.heap.size, 4, none⟩ = some e ∧
    (w.alloc (Obj.cells #[a, b, c, d, e, f, g, h, i] t)).cell? ⟨w.heap.size, 5, none⟩ = some f ∧ (w.alloc (Obj.cells #[a, b, c, d, e, f, g, h, i] t)).cell? ⟨w.heap.size, 6, none⟩ = some g ∧ (w.alloc (Obj.cells #[a, b, c, d, e, f, g, h, i] t)).cell? ⟨w.heap.size, 7, none⟩ = some h ∧
    (w.alloc (Obj.cells #[a, b, c, d, e, f, g, h, i] t)).cell? ⟨w.heap.size, 8, none⟩ = some i := by
  refine ⟨?_, ?_, ?_, ?_, ?_, ?_, ?_, ?_, ?_⟩ <;> (rw [World.cell?_alloc_new]; rfl)
set_option maxHeartbeats 8000000 in
set_option maxRecDepth 100000 in
theorem writes_9 (n : Nat) (x : Value) (q0 q1 q2 u0 u1 u2 : Int) (w : World) (hT : Tabs w) (hx : IntsAt w x n) (hn : n ≤ maxLen) :
    Calls Tryd.prog 9 #[x, .agg #[.int .i64 q0, .int .i64 q1, .int .i64 q2], .agg #[.int .i64 u0, .int .i64 u1, .int .i64 u2]] w fun e w' => e = .returned (.bool true) ∧ Below w.heap.size w w' := by
  have H13 := Lib.hid (fun W (h : Below w.heap.size w W) => sanity_13 W (tabs_below hT h))
  have H15 := Lib.hid (fun W (h : Below w.heap.size w W) => made_at n x W (hx.below h) hn)
  have HQ : Hid (∀ W, Below (w.heap.size + 2) ((w.alloc (numsO q0 q1 q2)).alloc (numsO u0 u1 u2)) W → (W.cell? ⟨w.heap.size, 0, none⟩ = some (.int .i64 q0) ∧ W.cell? ⟨w.heap.size, 1, none⟩ = some (.int .i64 q1) ∧ W.cell? ⟨w.heap.size, 2, none⟩ = some (.int .i64 q2)) ∧
      W.cell? ⟨w.heap.size + 1, 0, none⟩ = some (.int .i64 u0) ∧ W.cell? ⟨w.heap.size + 1, 1, none⟩ = some (.int .i64 u1) ∧ W.cell? ⟨w.heap.size + 1, 2, none⟩ = some (.int .i64 u2)) := fun W h => by
    refine ⟨⟨?_, ?_, ?_⟩, ?_, ?_, ?_⟩ <;> (rw [h.cell (p := ⟨_, _, none⟩) (by simp)]; go_simp)
  obtain ⟨sa0, cap0, rfl⟩ := hx.shape
  clear hT hx
  have HW0 : Hid (Below w.heap.size w ((w.alloc (numsO q0 q1 q2)).alloc (numsO u0 u1 u2))) := ((Below.refl _ w).alloc (Nat.le_refl _) _).alloc (by simp) _
  go_enter Tryd.func9, Tryd.ntmps9
  go_wp2_with (first
    | (go_at_call 13; ((with_reducible refine Calls.mono (H13.out _ HW0.out) ?_); rintro e w1 ⟨rfl, hb1⟩; have HB1 : Hid (Below (w.heap.size + 2) ((w.alloc (numsO q0 q1 q2)).alloc (numsO u0 u1 u2)) w1) := hb1.mono (by simp); have HV1 := Lib.hid (btr HW0.out hb1 (by simp; omega)); clear hb1))
    | (go_at_call 15; ((with_reducible refine Calls.mono (H15.out _ HV1.out) ?_); rintro e w2 ⟨r, sa, cap, rfl, hb2, hm2, _⟩; have HM2 := Lib.hid hm2; have HB2 := Lib.hid (btr HB1.out hb2 (by have := HB1.out.size; simpa using this)); have HV2 := Lib.hid (btr HV1.out hb2 HV1.out.size); clear hm2 hb2; obtain ⟨⟨e0, e1, e2⟩, _⟩ := HQ.out (w2.alloc (recO r.kind r.level (.slice sa r.fields.length cap))) (HB2.out.alloc (by have := HB2.out.size; simpa using this) _))))
  have HM2' := Lib.hid (HM2.out.below (alloc_below1 w2 (recO r.kind r.level (.slice sa r.fields.length cap))))
  have HX2 := Lib.hid (btr HB2.out (alloc_below1 w2 (recO r.kind r.level (.slice sa r.fields.length cap))) (by have := HB2.out.size; simpa using this))
  have HV2' := Lib.hid (btr HV2.out (alloc_below1 w2 (recO r.kind r.level (.slice sa r.fields.length cap))) HV2.out.size)
  have HR2 : Hid ((w2.alloc (recO r.kind r.level (.slice sa r.fields.length cap))).cell? ⟨w2.heap.size, 0, none⟩ = some (.int .u8 r.kind.toNat) ∧ (w2.alloc (recO r.kind r.level (.slice sa r.fields.length cap))).cell? ⟨w2.heap.size, 1, none⟩ = some (.int .u8 r.level.toNat) ∧ (w2.alloc (recO r.kind r.level (.slice sa r.fields.length cap))).cell? ⟨w2.heap.size, 2, none⟩ = some (.slice sa r.fields.length cap)) := by
    refine ⟨?_, ?_, ?_⟩ <;> go_simp
  have hz2 : w2.heap.size < (w2.alloc (recO r.kind r.level (.slice sa r.fields.length cap))).heap.size := by simp
  generalize (w2.alloc (recO r.kind r.level (.slice sa r.fields.length cap))) = w3 at *
  clear HB2 HV2 HM2 e0 e1 e2
  have H14a := Lib.hid (spoiled_14 r.kind r.level r.fields sa cap q0 q1 q2 w3 12 66 HM2'.out.2 HM2'.out.1.many (by omega) (fun f hf => (HM2'.out.1.fields f hf).small) (by omega))
  ((with_reducible refine Calls.mono H14a.out ?_); rintro e w4 ⟨rx, sb, cb, rfl, hb4, hs4⟩)
  have HS4 := Lib.hid hs4
  have HN4 := Lib.hid hb4
  clear hs4 hb4
  obtain ⟨_, e0, e1, e2⟩ := HQ.out (w4.alloc (recO rx.kind rx.level (.slice sb rx.fields.length cb))) (btr HX2.out (btr HN4.out (alloc_below1 _ _) HN4.out.size) (by have := HX2.out.size; simpa using this))
  go_wp2_with fail
  have HX4 := Lib.hid (btr HX2.out (btr HN4.out (alloc_below1 w4 (recO rx.kind rx.level (.slice sb rx.fields.length cb))) HN4.out.size) (by have := HX2.out.size; simpa using this))
  have HV4 := Lib.hid (btr HV2'.out (btr HN4.out (alloc_below1 w4 (recO rx.kind rx.level (.slice sb rx.fields.length cb))) HN4.out.size) HV2'.out.size)
  have HN4' := Lib.hid (btr HN4.out (alloc_below1 w4 (recO rx.kind rx.level (.slice sb rx.fields.length cb))) HN4.out.size)
  have HF4 := Lib.hid (fields_up (HS4.out.1) (Nat.le_refl _) (alloc_below1 w4 (recO rx.kind rx.level (.slice sb rx.fields.length cb))))
  have HR4 : Hid ((w4.alloc (recO rx.kind rx.level (.slice sb rx.fields.length cb))).cell? ⟨w4.heap.size, 0, none⟩ = some (.int .u8 rx.kind.toNat) ∧ (w4.alloc (recO rx.kind rx.level (.slice sb rx.fields.length cb))).cell? ⟨w4.heap.size, 1, none⟩ = some (.int .u8 rx.level.toNat) ∧ (w4.alloc (recO rx.kind rx.level (.slice sb rx.fields.length cb))).cell? ⟨w4.heap.size, 2, none⟩ = some (.slice sb rx.fields.length cb)) := by
    clear e0 e1 e2
    refine ⟨?_, ?_, ?_⟩ <;> go_simp
  have hz4 : w4.heap.size < (w4.alloc (recO rx.kind rx.level (.slice sb rx.fields.length cb))).heap.size := by simp
  have hz34 := HN4.out.size
  generalize (w4.alloc (recO rx.kind rx.level (.slice sb rx.fields.length cb))) = w5 at *
  clear e0 e1 e2
  have H14b := Lib.hid (spoiled_14 rx.kind rx.level rx.fields sb cb u0 u1 u2 w5 (12 + 1100) (66 + 10100) HF4.out HS4.out.2.1 (by omega) HS4.out.2.2 (by omega))
  ((with_reducible refine Calls.mono H14b.out ?_); rintro e w6 ⟨ry, sc, cc, rfl, hb6, hs6⟩)
  have HS6 := Lib.hid hs6
  have HN6 := Lib.hid hb6
  have hz56 := hb6.size
  clear hs6 hb6
  have HF6 := Lib.hid (fields_up (HS6.out.1) (Nat.le_refl _) (alloc_below1 w6 (recO ry.kind ry.level (.slice sc ry.fields.length cc))))
  have HN6' := Lib.hid (btr HN6.out (alloc_below1 w6 (recO ry.kind ry.level (.slice sc ry.fields.length cc))) HN6.out.size)
  have HV6 := Lib.hid (btr HV4.out HN6'.out HV4.out.size)
  have HR6 : Hid ((w6.alloc (recO ry.kind ry.level (.slice sc ry.fields.length cc))).cell? ⟨w6.heap.size, 0, none⟩ = some (.int .u8 ry.kind.toNat) ∧ (w6.alloc (recO ry.kind ry.level (.slice sc ry.fields.length cc))).cell? ⟨w6.heap.size, 1, none⟩ = some (.int .u8 ry.level.toNat) ∧ (w6.alloc (recO ry.kind ry.level (.slice sc ry.fields.length cc))).cell? ⟨w6.heap.size, 2, none⟩ = some (.slice sc ry.fields.length cc)) := by
    refine ⟨?_, ?_, ?_⟩ <;> go_simp
  have hz6 : w6.heap.size < (w6.alloc (recO ry.kind ry.level (.slice sc ry.fields.length cc))).heap.size := by simp
  go_upto_region 5 with fail
  generalize (w6.alloc (recO ry.kind ry.level (.slice sc ry.fields.length cc))) = w7 at *
  have HN57 : Hid (Below w5.heap.size w5 w7) := HN6'.out
  have HN37 : Hid (Below w3.heap.size w3 w7) := btr HN4'.out HN6'.out HN4'.out.size
  obtain ⟨a0, a1, a2⟩ := HR6.out
  obtain ⟨b0, b1, b2⟩ : w7.cell? ⟨w4.heap.size, 0, none⟩ = some (.int .u8 rx.kind.toNat) ∧ w7.cell? ⟨w4.heap.size, 1, none⟩ = some (.int .u8 rx.level.toNat) ∧ w7.cell? ⟨w4.heap.size, 2, none⟩ = some (.slice sb rx.fields.length cb) :=
    ⟨by rw [HN57.out.cell (p := ⟨w4.heap.size, 0, none⟩) hz4]; exact HR4.out.1, by rw [HN57.out.cell (p := ⟨w4.heap.size, 1, none⟩) hz4]; exact HR4.out.2.1, by rw [HN57.out.cell (p := ⟨w4.heap.size, 2, none⟩) hz4]; exact HR4.out.2.2⟩
  obtain ⟨c0, c1, c2⟩ : w7.cell? ⟨w2.heap.size, 0, none⟩ = some (.int .u8 r.kind.toNat) ∧ w7.cell? ⟨w2.heap.size, 1, none⟩ = some (.int .u8 r.level.toNat) ∧ w7.cell? ⟨w2.heap.size, 2, none⟩ = some (.slice sa r.fields.length cap) :=
    ⟨by rw [HN37.out.cell (p := ⟨w2.heap.size, 0, none⟩) hz2]; exact HR2.out.1, by rw [HN37.out.cell (p := ⟨w2.heap.size, 1, none⟩) hz2]; exact HR2.out.2.1, by rw [HN37.out.cell (p := ⟨w2.heap.size, 2, none⟩) hz2]; exact HR2.out.2.2⟩
  obtain ⟨d0, d1, d2, d3, d4, d5, d6, d7, d8⟩ := nine w7 (.int .u8 r.kind.toNat) (.int .u8 r.level.toNat) (.slice sa r.fields.length cap) (.int .u8 rx.kind.toNat) (.int .u8 rx.level.toNat) (.slice sb rx.fields.length cb) (.int .u8 ry.kind.toNat) (.int .u8 ry.level.toNat) (.slice sc ry.fields.length cc) 53
  have hwz : w2.heap.size < w7.heap.size := cell_lt c0
  have f0 : (w7.alloc (Obj.cells #[.int .u8 r.kind.toNat, .int .u8 r.level.toNat, .slice sa r.fields.length cap, .int .u8 rx.kind.toNat, .int .u8 rx.level.toNat, .slice sb rx.fields.length cb, .int .u8 ry.kind.toNat, .int .u8 ry.level.toNat, .slice sc ry.fields.length cc] 53)).cell? ⟨w2.heap.size, 0, none⟩ = some (.int .u8 r.kind.toNat) := by rw [alloc_old _ _ _ _ hwz]; exact c0
  have f1 : (w7.alloc (Obj.cells #[.int .u8 r.kind.toNat, .int .u8 r.level.toNat, .slice sa r.fields.length cap, .int .u8 rx.kind.toNat, .int .u8 rx.level.toNat, .slice sb rx.fields.length cb, .int .u8 ry.kind.toNat, .int .u8 ry.level.toNat, .slice sc ry.fields.length cc] 53)).cell? ⟨w2.heap.size, 1, none⟩ = some (.int .u8 r.level.toNat) := by rw [alloc_old _ _ _ _ hwz]; exact c1
  have f2 : (w7.alloc (Obj.cells #[.int .u8 r.kind.toNat, .int .u8 r.level.toNat, .slice sa r.fields.length cap, .int .u8 rx.kind.toNat, .int .u8 rx.level.toNat, .slice sb rx.fields.length cb, .int .u8 ry.kind.toNat, .int .u8 ry.level.toNat, .slice sc ry.fields.length cc] 53)).cell? ⟨w2.heap.size, 2, none⟩ = some (.slice sa r.fields.length cap) := by rw [alloc_old _ _ _ _ hwz]; exact c2
  have hb8 : Below w7.heap.size w7 (w7.alloc (Obj.cells #[.int .u8 r.kind.toNat, .int .u8 r.level.toNat, .slice sa r.fields.length cap, .int .u8 rx.kind.toNat, .int .u8 rx.level.toNat, .slice sb rx.fields.length cb, .int .u8 ry.kind.toNat, .int .u8 ry.level.toNat, .slice sc ry.fields.length cc] 53)) := alloc_below1 _ _
  go_upto_region 6 with fail
  generalize (w7.alloc (Obj.cells #[.int .u8 r.kind.toNat, .int .u8 r.level.toNat, .slice sa r.fields.length cap, .int .u8 rx.kind.toNat, .int .u8 rx.level.toNat, .slice sb rx.fields.length cb, .int .u8 ry.kind.toNat, .int .u8 ry.level.toNat, .slice sc ry.fields.length cc] 53)) = w8 at *
  have hwz7 : w7.heap.size < w8.heap.size := cell_lt d0
  have hwz2 : w2.heap.size < w8.heap.size := cell_lt f0
  obtain ⟨s0, n0, hs0, hz0⟩ := says_of r sa cap w8 (HM2'.out.below (btr HN37.out hb8 HN37.out.size)).2 HM2'.out.1.small
  obtain ⟨s1, n1, hs1, _⟩ := says_of rx sb cb w8 (fields_up HF4.out (Nat.le_refl _) (btr HN57.out hb8 HN57.out.size)) ⟨by have := HS4.out.2.1; omega, fun f hf => by have := HS4.out.2.2 f hf; omega⟩
  obtain ⟨s2, n2, hs2, _⟩ := says_of ry sc cc w8 (fields_up HF6.out (Nat.le_refl _) hb8) ⟨by have := HS6.out.2.1; omega, fun f hf => by have := HS6.out.2.2 f hf; omega⟩
  have hn0 : n0 = 0 := hz0 HM2'.out.1.zero.1
  subst hn0
  have HV8 := Lib.hid (btr HV6.out hb8 HV6.out.size)
  unfold Says at hs0 hs1 hs2
  have HS0 := Lib.hid hs0
  have HS1 := Lib.hid hs1
  have HS2 := Lib.hid hs2
  have HD : Hid (∀ W, Below w8.heap.size w8 W → (W.cell? ⟨w7.heap.size, 0, none⟩ = some (.int .u8 r.kind.toNat) ∧ W.cell? ⟨w7.heap.size, 1, none⟩ = some (.int .u8 r.level.toNat) ∧ W.cell? ⟨w7.heap.size, 2, none⟩ = some (.slice sa r.fields.length cap)) ∧
      (W.cell? ⟨w7.heap.size, 3, none⟩ = some (.int .u8 rx.kind.toNat) ∧ W.cell? ⟨w7.heap.size, 4, none⟩ = some (.int .u8 rx.level.toNat) ∧ W.cell? ⟨w7.heap.size, 5, none⟩ = some (.slice sb rx.fields.length cb)) ∧
      (W.cell? ⟨w7.heap.size, 6, none⟩ = some (.int .u8 ry.kind.toNat) ∧ W.cell? ⟨w7.heap.size, 7, none⟩ = some (.int .u8 ry.level.toNat) ∧ W.cell? ⟨w7.heap.size, 8, none⟩ = some (.slice sc ry.fields.length cc)) ∧
      (W.cell? ⟨w2.heap.size, 0, none⟩ = some (.int .u8 r.kind.toNat) ∧ W.cell? ⟨w2.heap.size, 1, none⟩ = some (.int .u8 r.level.toNat) ∧ W.cell? ⟨w2.heap.size, 2, none⟩ = some (.slice sa r.fields.length cap))) := fun W hW => by
    have k1 : ∀ i, W.cell? ⟨w7.heap.size, i, none⟩ = w8.cell? ⟨w7.heap.size, i, none⟩ := fun i => hW.cell (p := ⟨w7.heap.size, i, none⟩) hwz7
    have k2 : ∀ i, W.cell? ⟨w2.heap.size, i, none⟩ = w8.cell? ⟨w2.heap.size, i, none⟩ := fun i => hW.cell (p := ⟨w2.heap.size, i, none⟩) hwz2
    simp only [k1, k2]
    exact ⟨⟨d0, d1, d2⟩, ⟨d3, d4, d5⟩, ⟨d6, d7, d8⟩, f0, f1, f2⟩
  clear HQ HW0 H15 HB1 HX2 HV2' HR2 HN4 HX4 HV4 HN4' HF4 HR4 HS4 HN6 HF6 HN6' HV6 HR6 HS6 HN57 HN37 HM2' a0 a1 a2 b0 b1 b2 c0 c1 c2 d0 d1 d2 d3 d4 d5 d6 d7 d8 f0 f1 f2 hs0 hs1 hs2 hz0 hb8
  go_wp2_with fail
  go_loopw [12] (fun i wx => ∃ k : Nat, i = .int .i64 k ∧ k ≤ 3 ∧ Below w8.heap.size w8 wx) (fun i _ => 3 - (intOf i).toNat)
  case atStart => exact ⟨0, rfl, by omega, Below.refl _ _⟩
  case round =>
    obtain ⟨k, rfl, hk, hb⟩ := hrel
    have hks : k = 0 ∨ k = 1 ∨ k = 2 ∨ k = 3 := by omega
    have HB := Lib.hid hb
    obtain ⟨⟨d0, d1, d2⟩, ⟨d3, d4, d5⟩, ⟨d6, d7, d8⟩, f0, f1, f2⟩ := HD.out wr hb
    clear hb
    rcases hks with rfl | rfl | rfl | rfl
    · go_wp2_with (first
        | (go_at_call 17; ((with_reducible refine Calls.mono (HS0.out _ HB.out).1 ?_); rintro e w9 ⟨rfl, hb9⟩; have HB9 := Lib.hid (btr HB.out hb9 HB.out.size); clear hb9; obtain ⟨⟨d0, d1, d2⟩, ⟨d3, d4, d5⟩, ⟨d6, d7, d8⟩, f0, f1, f2⟩ := HD.out w9 HB9.out))
        | (go_at_call 20; ((with_reducible refine Calls.mono (HS0.out _ HB9.out).2.1 ?_); rintro e w10 ⟨rfl, hb10⟩; have HB10 := Lib.hid (btr HB9.out hb10 HB9.out.size); clear hb10; obtain ⟨⟨d0, d1, d2⟩, ⟨d3, d4, d5⟩, ⟨d6, d7, d8⟩, f0, f1, f2⟩ := HD.out w10 HB10.out))
        | (go_at_call 26; ((with_reducible refine Calls.mono (HS0.out _ HB10.out).2.2 ?_); rintro e w11 ⟨rfl, hb11⟩; have HB11 := Lib.hid (btr HB10.out hb11 HB10.out.size); clear hb11)))
      go_roundw
      case rel => exact ⟨1, by go_num, by omega, HB11.out⟩
      case measure => simp [intOf]
    · by_cases hn1 : n1 = 0
      · subst hn1
        go_wp2_with (first
          | (go_at_call 17; ((with_reducible refine Calls.mono (HS1.out _ HB.out).1 ?_); rintro e w9 ⟨rfl, hb9⟩; have HB9 := Lib.hid (btr HB.out hb9 HB.out.size); clear hb9; obtain ⟨⟨d0, d1, d2⟩, ⟨d3, d4, d5⟩, ⟨d6, d7, d8⟩, f0, f1, f2⟩ := HD.out w9 HB9.out))
          | (go_at_call 20; ((with_reducible refine Calls.mono (HS1.out _ HB9.out).2.1 ?_); rintro e w10 ⟨rfl, hb10⟩; have HB10 := Lib.hid (btr HB9.out hb10 HB9.out.size); clear hb10; obtain ⟨⟨d0, d1, d2⟩, ⟨d3, d4, d5⟩, ⟨d6, d7, d8⟩, f0, f1, f2⟩ := HD.out w10 HB10.out))
          | (go_at_call 26; ((with_reducible refine Calls.mono (HS1.out _ HB10.out).2.2 ?_); rintro e w11 ⟨rfl, hb11⟩; have HB11 := Lib.hid (btr HB10.out hb11 HB10.out.size); clear hb11)))
        go_roundw
        case rel => exact ⟨2, by go_num, by omega, HB11.out⟩
        case measure => simp [intOf]
      · have hnb : (n1 == 0) = false := by simpa using hn1
        go_wp2_with (first
          | (go_at_call 17; ((with_reducible refine Calls.mono (HS1.out _ HB.out).1 ?_); rintro e w9 ⟨rfl, hb9⟩; have HB9 := Lib.hid (btr HB.out hb9 HB.out.size); clear hb9; obtain ⟨⟨d0, d1, d2⟩, ⟨d3, d4, d5⟩, ⟨d6, d7, d8⟩, f0, f1, f2⟩ := HD.out w9 HB9.out))
          | (go_at_call 20; ((with_reducible refine Calls.mono (HS1.out _ HB9.out).2.1 ?_); rintro e w10 ⟨rfl, hb10⟩; have HB10 := Lib.hid (btr HB9.out hb10 HB9.out.size); clear hb10; obtain ⟨⟨d0, d1, d2⟩, ⟨d3, d4, d5⟩, ⟨d6, d7, d8⟩, f0, f1, f2⟩ := HD.out w10 HB10.out))
          | (go_at_call 26; ((with_reducible refine Calls.mono (HS1.out _ HB10.out).2.2 ?_); rintro e w11 ⟨rfl, hb11⟩; have HB11 := Lib.hid (btr HB10.out hb11 HB10.out.size); clear hb11)))
        go_roundw
        case rel => exact ⟨2, by go_num, by omega, HB11.out⟩
        case measure => simp [intOf]
    · by_cases hn2 : n2 = 0
      · subst hn2
        go_wp2_with (first
          | (go_at_call 17; ((with_reducible refine Calls.mono (HS2.out _ HB.out).1 ?_); rintro e w9 ⟨rfl, hb9⟩; have HB9 := Lib.hid (btr HB.out hb9 HB.out.size); clear hb9; obtain ⟨⟨d0, d1, d2⟩, ⟨d3, d4, d5⟩, ⟨d6, d7, d8⟩, f0, f1, f2⟩ := HD.out w9 HB9.out))
          | (go_at_call 20; ((with_reducible refine Calls.mono (HS2.out _ HB9.out).2.1 ?_); rintro e w10 ⟨rfl, hb10⟩; have HB10 := Lib.hid (btr HB9.out hb10 HB9.out.size); clear hb10; obtain ⟨⟨d0, d1, d2⟩, ⟨d3, d4, d5⟩, ⟨d6, d7, d8⟩, f0, f1, f2⟩ := HD.out w10 HB10.out))
          | (go_at_call 26; ((with_reducible refine Calls.mono (HS2.out _ HB10.out).2.2 ?_); rintro e w11 ⟨rfl, hb11⟩; have HB11 := Lib.hid (btr HB10.out hb11 HB10.out.size); clear hb11)))
        go_roundw
        case rel => exact ⟨3, by go_num, by omega, HB11.out⟩
        case measure => simp [intOf]
      · have hnb : (n2 == 0) = false := by simpa using hn2
        go_wp2_with (first
          | (go_at_call 17; ((with_reducible refine Calls.mono (HS2.out _ HB.out).1 ?_); rintro e w9 ⟨rfl, hb9⟩; have HB9 := Lib.hid (btr HB.out hb9 HB.out.size); clear hb9; obtain ⟨⟨d0, d1, d2⟩, ⟨d3, d4, d5⟩, ⟨d6, d7, d8⟩, f0, f1, f2⟩ := HD.out w9 HB9.out))
          | (go_at_call 20; ((with_reducible refine Calls.mono (HS2.out _ HB9.out).2.1 ?_); rintro e w10 ⟨rfl, hb10⟩; have HB10 := Lib.hid (btr HB9.out hb10 HB9.out.size); clear hb10; obtain ⟨⟨d0, d1, d2⟩, ⟨d3, d4, d5⟩, ⟨d6, d7, d8⟩, f0, f1, f2⟩ := HD.out w10 HB10.out))
          | (go_at_call 26; ((with_reducible refine Calls.mono (HS2.out _ HB10.out).2.2 ?_); rintro e w11 ⟨rfl, hb11⟩; have HB11 := Lib.hid (btr HB10.out hb11 HB10.out.size); clear hb11)))
        go_roundw
        case rel => exact ⟨3, by go_num, by omega, HB11.out⟩
        case measure => simp [intOf]
    · go_wp2_with (go_at_call 26; ((with_reducible refine Calls.mono (HS0.out _ HB.out).2.2 ?_); rintro e w11 ⟨rfl, hb11⟩; have HB11 := Lib.hid (btr HB.out hb11 HB.out.size); clear hb11))
      go_ret
      exact ⟨by simp, btr HV8.out HB11.out HV8.out.size⟩
end Go.Proofs.YtfkleeigdplapaaDoor
