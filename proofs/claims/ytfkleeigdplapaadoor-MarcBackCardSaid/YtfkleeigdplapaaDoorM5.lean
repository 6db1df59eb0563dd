/-
  The walk of MarcLeader.
-/
import Derived.Test.YtfkleeigdplapaaDoorM4
namespace Go.Proofs.YtfkleeigdplapaaDoor
open Go.RowKit
attribute [local go_sem ↓] Go.wp_at_zero Go.wp_at_succ

/-- A byte of the leader that plays no part is replaced. -/
theorem laid_put (k l : UInt8) (x : Free) (ps : List (FieldD × Nat)) (data : Bs) (j : Nat) (c : UInt8) (hj : j = 5 ∨ j = 8 ∨ (17 ≤ j ∧ j ≤ 19)) : ∃ x', (laidG k l x ps data).take j ++ (c :: (laidG k l x ps data).drop (j + 1)) = laidG k l x' ps data := by
  obtain ⟨t0, t1, t2, t3, t4, ht⟩ := five (fixedN_length 5 (25 + 12 * ps.length + data.length + 1))
  obtain ⟨b0, b1, b2, b3, b4, hb⟩ := five (fixedN_length 5 (25 + 12 * ps.length))
  unfold laidG leadG
  rw [ht, hb]
  have : j = 5 ∨ j = 8 ∨ j = 17 ∨ j = 18 ∨ j = 19 := by omega
  rcases this with rfl | rfl | rfl | rfl | rfl
  · exact ⟨⟨c, x.b, x.c, x.d, x.e⟩, rfl⟩
  · exact ⟨⟨x.a, c, x.c, x.d, x.e⟩, rfl⟩
  · exact ⟨⟨x.a, x.b, c, x.d, x.e⟩, rfl⟩
  · exact ⟨⟨x.a, x.b, x.c, c, x.e⟩, rfl⟩
  · exact ⟨⟨x.a, x.b, x.c, x.d, c⟩, rfl⟩
theorem parse_put {r : RecD} (h : wrongR r = 0) (j : Nat) (c : UInt8) (hj : j = 5 ∨ j = 8 ∨ (17 ≤ j ∧ j ≤ 19)) : parseR ((writeB r).take j ++ (c :: (writeB r).drop (j + 1))) = (r, 0, 0) := by
  have hl := right_laid h
  have hr : ∀ f ∈ r.fields, wrongF f = 0 := by
    intro f hf
    rw [← places_fst r.fields 0] at hf
    obtain ⟨p, hp, rfl⟩ := List.mem_map.1 hf
    exact hl.right p hp
  rw [writeB_laid hr]
  obtain ⟨x', hx⟩ := laid_put r.kind r.level ⟨110, 32, 32, 32, 32⟩ (placesFrom 0 r.fields) (dataOf r.fields) j c hj
  rw [hx, parse_laid hl, places_fst]
/-- Parse of a string that is a good record's, and the comparison with that record. -/
theorem parse_good {r : RecD} {l : Bs} (h : parseR l = (r, 0, 0)) (hl : l.length ≤ 400000) (w : World) (hT : Tabs w) :
    Calls Tryd.prog 18 #[S l] w fun e w' => ∃ sb cb, e = .returned (.tuple #[.agg #[.int .u8 r.kind.toNat, .int .u8 r.level.toNat, .slice sb r.fields.length cb], .int .i64 0, .int .i64 0]) ∧ Below w.heap.size w w' ∧ FieldsAt w.heap.size w'.heap.size w' (.slice sb r.fields.length cb) r.fields :=
  parse_at h hl hT
theorem same_good {r : RecD} (x y : Value) (w : World) (hx : FieldsAt 0 w.heap.size w x r.fields) (hy : FieldsAt 0 w.heap.size w y r.fields) (hsm : Small r.fields) :
    Calls Tryd.prog 19 #[.agg #[.int .u8 r.kind.toNat, .int .u8 r.level.toNat, x], .agg #[.int .u8 r.kind.toNat, .int .u8 r.level.toNat, y]] w fun e w' => e = .returned (.bool true) ∧ Below w.heap.size w w' := by
  have := same_at r.kind r.level r.kind r.level r.fields r.fields x y w hx hy hsm
  rw [sameR_refl] at this
  exact this
set_option maxHeartbeats 4000000 in
set_option maxRecDepth 100000 in
theorem leader_6 (n : Nat) (x : Value) (z : Int) (c : Int) (w : World) (hT : Tabs w) (hx : IntsAt w x n) (hn : n ≤ maxLen) (_hc : 0 ≤ c ∧ c < 256) :
    Calls Tryd.prog 6 #[x, .int .i64 z, .int .u8 c] w fun e w' => e = .returned (.bool true) ∧ Below w.heap.size w w' := by
  have HT := Lib.hid (fun W (h : Below w.heap.size w W) => tabs_below hT h)
  have H13 := Lib.hid (sanity_13 w hT)
  have H15 := Lib.hid (fun W (h : Below w.heap.size w W) => made_at n x W (hx.below h) hn)
  obtain ⟨sa0, cap0, rfl⟩ := hx.shape
  clear hT hx
  go_enter Tryd.func6, Tryd.ntmps6
  go_wp2_with (first
    | (go_at_call 13; ((with_reducible refine Calls.mono H13.out ?_); rintro e w1 ⟨rfl, hb1⟩; have HB1 := Lib.hid hb1))
    | (go_at_call 15; ((with_reducible refine Calls.mono (H15.out _ HB1.out) ?_); rintro e w2 ⟨r, sa, cap, rfl, hb2, hm2, _⟩; have HM2 := Lib.hid hm2; clear hm2; have HB2 := Lib.hid (btr HB1.out hb2 HB1.out.size))))
  generalize hWR : (w2.alloc (Obj.cells #[Value.int IntKind.u8 ↑r.kind.toNat, Value.int IntKind.u8 ↑r.level.toNat, Value.slice sa r.fields.length cap] 27)) = w3
  have hb3 : Below w2.heap.size w2 w3 := by rw [← hWR]; exact alloc_below1 _ _
  have hz3 : w2.heap.size < w3.heap.size := by rw [← hWR]; simp
  have r0 : w3.cell? ⟨w2.heap.size, 0, none⟩ = some (.int .u8 r.kind.toNat) := by rw [← hWR, World.cell?_alloc_new]; rfl
  have r1 : w3.cell? ⟨w2.heap.size, 1, none⟩ = some (.int .u8 r.level.toNat) := by rw [← hWR, World.cell?_alloc_new]; rfl
  have r2 : w3.cell? ⟨w2.heap.size, 2, none⟩ = some (.slice sa r.fields.length cap) := by rw [← hWR, World.cell?_alloc_new]; rfl
  clear hWR
  have HM3 := Lib.hid (HM2.out.below hb3)
  have HB3 := Lib.hid (btr HB2.out hb3 HB2.out.size)
  obtain ⟨sl, hsl⟩ : ∃ l, l = writeB r := ⟨_, rfl⟩
  obtain ⟨hl26, hl1000⟩ := good_len HM2.out.1
  have hwl := (write_length HM2.out.1.zero.1).1
  have hfl := HM2.out.1.many
  have HPUT : Hid (∀ (j : Nat) (b : UInt8), (j = 5 ∨ j = 8 ∨ (17 ≤ j ∧ j ≤ 19)) → parseR (sl.take j ++ (b :: sl.drop (j + 1))) = (r, 0, 0)) := fun j b hj => by rw [hsl]; exact parse_put HM2.out.1.zero.1 j b hj
  have H20 := Lib.hid (write20_at r sa cap w3 HM3.out)
  rw [← hsl] at H20 hl26 hl1000 hwl
  have hfs : 25 + 12 * r.fields.length ≤ sl.length := by omega
  clear hsl hwl HM2
  ((with_reducible refine Calls.mono H20.out ?_); rintro e w4 ⟨rfl, hb4⟩)
  have HB4 := Lib.hid (btr HB3.out hb4 HB3.out.size)
  obtain ⟨hcc4, hff4⟩ := bcell hb4
  have hz4 : w2.heap.size < w4.heap.size := by have := hb4.size; omega
  clear H20 hb3
  go_wp2_with (go_at_call 21; ((with_reducible refine Calls.mono (mod_int _ _ (25 + 12 * r.fields.length) (by omega) (by omega) (by push_cast; omega) _) ?_); rintro e w' ⟨m, hm, rfl, rfl⟩; have hmi : (m : Int) ≤ sl.length := (by omega); have hmi1 : (m : Int) + 1 ≤ sl.length := (by omega)))
  obtain ⟨X, hX⟩ : ∃ X, X = sl.take m ++ (UInt8.ofNat c.toNat :: sl.drop (m + 1)) := ⟨_, rfl⟩
  have HX := Lib.hid hX
  have hXl : X.length ≤ 1001 := by rw [hX]; simp; omega
  clear hX
  go_cut [12] (fun t wx => t = S X ∧ Below w4.heap.size w4 wx)
  case first =>
    have s1 : IntKind.i64.wrap ((m : Int) + 1) = m + 1 := IntWalk.i64_in _ (by omega)
    have t1 : (0 : Int) ≤ m := by omega
    have t2 : (0 : Int) ≤ (m : Int) + 1 := by omega
    go_region_with (fail)
    all_goals
      go_wp2_with fail
      go_meet
      exact ⟨by rw [HX.out], (alloc_below1 w4 _).drew⟩
  case rest =>
    obtain ⟨rfl, hbx⟩ := hcut
    generalize wc = w5 at *
    have HB5 := Lib.hid (btr HB4.out hbx HB4.out.size)
    have HW5 := Lib.hid (btr hb4 hbx hb4.size)
    have hz5 : w2.heap.size < w5.heap.size := by have := hbx.size; omega
    have s0 : w5.cell? ⟨w2.heap.size, 0, none⟩ = some (.int .u8 r.kind.toNat) := by rw [hbx.cell (p := ⟨w2.heap.size, 0, none⟩) hz4, hcc4 _ _ hz3]; exact r0
    have s1 : w5.cell? ⟨w2.heap.size, 1, none⟩ = some (.int .u8 r.level.toNat) := by rw [hbx.cell (p := ⟨w2.heap.size, 1, none⟩) hz4, hcc4 _ _ hz3]; exact r1
    have s2 : w5.cell? ⟨w2.heap.size, 2, none⟩ = some (.slice sa r.fields.length cap) := by rw [hbx.cell (p := ⟨w2.heap.size, 2, none⟩) hz4, hcc4 _ _ hz3]; exact r2
    clear hcc4 hff4 hbx hb4 r0 r1 r2
    go_wp2_with fail
    ((with_reducible refine Calls.mono (parses_at X _ (by omega) (HT.out _ HB5.out)) ?_); rintro e w6 ⟨rfl, hb6⟩; have HB6 := Lib.hid (btr HB5.out hb6 HB5.out.size); have HW6 := Lib.hid (btr HW5.out hb6 HW5.out.size))
    have hz6 : w2.heap.size < w6.heap.size := by have := hb6.size; omega
    obtain ⟨hcc6, hff6⟩ := bcell hb6
    by_cases hsp : m = 5 ∨ m = 8 ∨ (17 ≤ m ∧ m ≤ 19)
    · have hp : parseR X = (r, 0, 0) := by rw [HX.out]; exact HPUT.out m _ hsp
      have H18 : Hid (∀ W, Below w.heap.size w W → Calls Tryd.prog 18 #[S X] W fun e w' => ∃ sb cb, e = .returned (.tuple #[.agg #[.int .u8 r.kind.toNat, .int .u8 r.level.toNat, .slice sb r.fields.length cb], .int .i64 0, .int .i64 0]) ∧ Below W.heap.size W w' ∧ FieldsAt W.heap.size w'.heap.size w' (.slice sb r.fields.length cb) r.fields) := fun W hW => parse_good hp (by omega) W (HT.out W hW)
      have hsm := HM3.out.1.small
      have HAT : Hid (∀ W, Below w3.heap.size w3 W → FieldsAt 0 W.heap.size W (.slice sa r.fields.length cap) r.fields) := fun W hW => (HM3.out.below hW).2
      have H19 : Hid (∀ (x y : Value) (W : World), FieldsAt 0 W.heap.size W x r.fields → FieldsAt 0 W.heap.size W y r.fields →
          Calls Tryd.prog 19 #[.agg #[.int .u8 r.kind.toNat, .int .u8 r.level.toNat, x], .agg #[.int .u8 r.kind.toNat, .int .u8 r.level.toNat, y]] W fun e w' => e = .returned (.bool true) ∧ Below W.heap.size W w') := fun x y W h1 h2 => same_good x y W h1 h2 hsm
      clear hsm
      have hm5 : m = 5 ∨ m = 8 ∨ m = 17 ∨ m = 18 ∨ m = 19 := by omega
      clear hp hsp HX hm hmi hmi1
      rcases hm5 with rfl | rfl | rfl | rfl | rfl
      all_goals
        go_wp2_with (first
          | (go_at_call 18; ((with_reducible refine Calls.mono (H18.out _ HB6.out) ?_); rintro e w7 ⟨sb, cb, rfl, hb7, hf7⟩; have HF7 := Lib.hid hf7; clear hf7; obtain ⟨hcc7, hff7⟩ := bcell hb7; have hz7 : w2.heap.size < w7.heap.size := (by have := hb7.size; omega); have HB7 := Lib.hid (btr HB6.out hb7 HB6.out.size); have HW7 := Lib.hid (btr HW6.out hb7 HW6.out.size)))
          | (go_at_call 19; ((with_reducible refine Calls.mono (H19.out (.slice sb r.fields.length cb) (.slice sa r.fields.length cap) _ (fields_up HF7.out (Nat.le_refl _) (alloc_below1 _ _)) (HAT.out _ (btr HW7.out (alloc_below1 _ _) HW7.out.size))) ?_); rintro e w8 ⟨rfl, hb8⟩; have HB8 := Lib.hid (btr HB7.out (btr (alloc_below1 _ _) hb8 (by simp)) HB7.out.size))))
        go_ret
        exact ⟨rfl, HB8.out⟩
    · have h5 : ¬ (m : Int) = 5 := by omega
      have h8 : ¬ (m : Int) = 8 := by omega
      have h5b : ((m : Int) == 5) = false := by simpa using h5
      have h8b : ((m : Int) == 8) = false := by simpa using h8
      by_cases h16 : (16 : Int) < m
      · have h20 : ¬ (m : Int) < 20 := by omega
        go_wp2_with fail
        go_ret
        exact ⟨rfl, HB6.out⟩
      · go_wp2_with fail
        go_ret
        exact ⟨rfl, HB6.out⟩
end Go.Proofs.YtfkleeigdplapaaDoor
