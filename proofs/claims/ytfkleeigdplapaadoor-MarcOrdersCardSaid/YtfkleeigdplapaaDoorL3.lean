/-
  The walk of MarcOrders.
-/
import Derived.Test.YtfkleeigdplapaaDoorL2
import Derived.Test.YtfkleeigdplapaaDoorM5
namespace Go.Proofs.YtfkleeigdplapaaDoor
open Go.RowKit
attribute [local go_sem ↓] Go.wp_at_zero Go.wp_at_succ

set_option maxHeartbeats 4000000 in
set_option maxRecDepth 100000 in
theorem orders_7 (n : Nat) (x : Value) (n2 : Nat) (y : Value) (w : World) (hT : Tabs w) (hx : IntsAt w x n) (hn : n ≤ maxLen) (hy : NumsAt w y n2) (hn2 : n2 ≤ maxLen) :
    Calls Tryd.prog 7 #[x, y] w fun e w' => e = .returned (.bool true) ∧ Below w.heap.size w w' := by
  have HT := Lib.hid (fun W (h : Below w.heap.size w W) => tabs_below hT h)
  have H13 := Lib.hid (sanity_13 w hT)
  have H15 := Lib.hid (fun W (h : Below w.heap.size w W) => made_at n x W (hx.below h) hn)
  have H24 : Hid (∀ (r : RecD) (sa : Option Addr) (cap : Nat) W, Below w.heap.size w W → MadeAt r sa cap W → _) := fun r sa cap W h hm => laid_24 r sa cap n2 y W hm (hy.below h) hn2
  obtain ⟨sa0, cap0, rfl⟩ := hx.shape
  obtain ⟨sy, cy, rfl, _⟩ := hy
  clear hT hx
  go_enter Tryd.func7, Tryd.ntmps7
  go_wp2_with (first
    | (go_at_call 13; ((with_reducible refine Calls.mono H13.out ?_); rintro e w1 ⟨rfl, hb1⟩; have HB1 := Lib.hid hb1))
    | (go_at_call 15; ((with_reducible refine Calls.mono (H15.out _ HB1.out) ?_); rintro e w2 ⟨r, sa, cap, rfl, hb2, hm2, _⟩; have HM2 := Lib.hid hm2; clear hm2; have HB2 := Lib.hid (btr HB1.out hb2 HB1.out.size))))
  generalize hWR : (w2.alloc (Obj.cells #[Value.int IntKind.u8 ↑r.kind.toNat, Value.int IntKind.u8 ↑r.level.toNat, Value.slice sa r.fields.length cap] 27)) = w3
  have hb3 : Below w2.heap.size w2 w3 := by rw [← hWR]; exact alloc_below1 _ _
  have hz3 : w2.heap.size < w3.heap.size := by rw [← hWR]; simp
  have r0 : w3.cell? ⟨w2.heap.size, 0, none⟩ = some (.int .u8 r.kind.toNat) := by rw [← hWR, World.cell?_alloc_new]; rfl
  have r1 : w3.cell? ⟨w2.heap.size, 1, none⟩ = some (.int .u8 r.level.toNat) := by rw [← hWR, World.cell?_alloc_new]; rfl
  have r2 : w3.cell? ⟨w2.heap.size, 2, none⟩ = some (.slice sa r.fields.length cap) := by rw [← hWR, World.cell?_alloc_new]; rfl
  clear hWR
  have HM3 := Lib.hid (HM2.out.below hb3)
  have HB3 := Lib.hid (btr HB2.out hb3 HB2.out.size)
  have hw0 := HM2.out.1.zero.1
  have HWR : Hid (writeR r = (writeB r, 0)) := good_write HM2.out.1
  have hsm := Lib.hid HM2.out.1.small
  clear HM2
  ((with_reducible refine Calls.mono (H24.out r sa cap w3 HB3.out HM3.out) ?_); rintro e w4 ⟨s, rfl, hb4, hp4, hl4, hs4⟩)
  have hlen := hl4.out
  have HP4 := Lib.hid hp4.out
  have HB4 := Lib.hid (btr HB3.out hb4 HB3.out.size)
  have HA4 := Lib.hid hb4
  obtain ⟨hcc4, hff4⟩ := bcell hb4
  have hz4 : w2.heap.size < w4.heap.size := by have := hb4.size; omega
  obtain ⟨sl, hsl⟩ : ∃ l, writeB r = l := ⟨_, rfl⟩
  rw [hsl] at HWR hlen
  have H18 : Hid (∀ W, Below w.heap.size w W → Calls Tryd.prog 18 #[S s] W fun e w' => ∃ sb cb, e = .returned (.tuple #[.agg #[.int .u8 r.kind.toNat, .int .u8 r.level.toNat, .slice sb r.fields.length cb], .int .i64 0, .int .i64 0]) ∧ Below W.heap.size W w' ∧ FieldsAt W.heap.size w'.heap.size w' (.slice sb r.fields.length cb) r.fields) := fun W hW => parse_good HP4.out (by omega) W (HT.out W hW)
  have H17 : Hid (∀ (x : Value) W, FieldsAt 0 W.heap.size W x r.fields → Calls Tryd.prog 17 #[.agg #[.int .u8 r.kind.toNat, .int .u8 r.level.toNat, x]] W fun e w' => e = .returned (.tuple #[S sl, .int .i64 0]) ∧ Below W.heap.size W w') := fun x W h => write_at r x W h hsm.out HWR.out
  have HAT : Hid (∀ W, Below w3.heap.size w3 W → FieldsAt 0 W.heap.size W (.slice sa r.fields.length cap) r.fields) := fun W hW => (HM3.out.below hW).2
  have H19 : Hid (∀ (x y : Value) (W : World), FieldsAt 0 W.heap.size W x r.fields → FieldsAt 0 W.heap.size W y r.fields →
      Calls Tryd.prog 19 #[.agg #[.int .u8 r.kind.toNat, .int .u8 r.level.toNat, x], .agg #[.int .u8 r.kind.toNat, .int .u8 r.level.toNat, y]] W fun e w' => e = .returned (.bool true) ∧ Below W.heap.size W w') := fun x y W h1 h2 => same_good x y W h1 h2 hsm.out
  clear hb3 hb4 hw0 hp4 hl4 hsl
  have hlen' : (sl.length : Int) ≤ s.length := by omega
  go_wp2_with (first
    | (go_at_call 18; ((with_reducible refine Calls.mono (H18.out _ HB4.out) ?_); rintro e w5 ⟨sb, cb, rfl, hb5, hf5⟩; have HF5 := Lib.hid hf5; clear hf5; obtain ⟨hcc5, hff5⟩ := bcell hb5; have hz5 : w2.heap.size < w5.heap.size := (by have := hb5.size; omega); have HB5 := Lib.hid (btr HB4.out hb5 HB4.out.size); have HA5 := Lib.hid (btr HA4.out hb5 HA4.out.size)))
    | (go_at_call 17; ((with_reducible refine Calls.mono (H17.out (.slice sb r.fields.length cb) _ (fields_up HF5.out (Nat.le_refl _) (alloc_below1 _ _))) ?_); rintro e w6 ⟨rfl, hb6⟩; have HN6 := Lib.hid (btr (alloc_below1 w5 _) hb6 (by simp)); obtain ⟨hcc6, hff6⟩ := bcell hb6; have hz6 : w2.heap.size < w6.heap.size := (by have := hb6.size; simp at this; omega); have hz6' : w5.heap.size < w6.heap.size := (by have := hb6.size; simp at this; omega); have HB6 := Lib.hid (btr HB5.out HN6.out HB5.out.size); have HA6 := Lib.hid (btr HA5.out HN6.out HA5.out.size)))
    | (go_at_call 19; ((with_reducible refine Calls.mono (H19.out (.slice sb r.fields.length cb) (.slice sa r.fields.length cap) _ (fields_up HF5.out (Nat.le_refl _) HN6.out) (HAT.out _ HA6.out)) ?_); rintro e w7 ⟨rfl, hb7⟩; have HB7 := Lib.hid (btr HB6.out hb7 HB6.out.size))))
  go_ret
  exact ⟨by simp [hlen'], HB7.out⟩
end Go.Proofs.YtfkleeigdplapaaDoor
