/-
  The walk of Laid: the fields in another order.
-/
import Derived.Test.YtfkleeigdplapaaDoorL1
import Derived.Test.YtfkleeigdplapaaDoorM4
import Derived.Deep.RegionHeld3
namespace Go.Proofs.YtfkleeigdplapaaDoor
open Go.RowKit
attribute [local go_sem ↓] Go.wp_at_zero Go.wp_at_succ

theorem i3 : (Tryd.prog.info? 3).map (fun i => (i.zero, i.size, i.bytes)) = some (some (.int .i64 0), 1, 8) := by kernel_rfl
theorem i4 : (Tryd.prog.info? 4).map (fun i => (i.zero, i.size, i.bytes)) = some (some (.bool false), 1, 1) := by kernel_rfl
theorem make_ints (n : Nat) (w : World) (hn : n ≤ 1000) : ∃ w', (Instr.makeSlice 48 (.int .i64 n) (.int .i64 n)).run Tryd.prog w = .ok (.slice (some ⟨w.heap.size, 0, none⟩) n n) w' ∧ Below w.heap.size w w' ∧ w.heap.size < w'.heap.size ∧ CellsZ w' w.heap.size (List.replicate n (.int .i64 0)) := by
  obtain ⟨i, hi, hz, hs, hby⟩ := info_parts i3
  obtain ⟨w', hr, hown, hg⟩ := run_makeSlice_full (P := Tryd.prog) w w.heap.size 48 3 i (.int .i64 0) 1 Tryd.underlying48 hi hz hs .i64 .i64 n (by omega) (by rw [hby]; omega) (by unfold maxLen; omega) (Nat.le_refl _)
  have hlt := (hown.lt w.heap.size rfl).2
  refine ⟨w', hr, ⟨hg.os, hg.tape, hg.output, hg.size, fun k hk => hg.block k hk (by simp)⟩, hlt, fun j hj => ?_, fun j _ => hown.frozenAt j⟩
  have hj' : j < n := by simpa using hj
  rw [hown.cellAt j (by simpa using hj')]
  simp [madeCells, Value.cells, hj', Nat.mod_one]
theorem make_bools (n : Nat) (w : World) (hn : n ≤ 1000) : ∃ w', (Instr.makeSlice 97 (.int .i64 n) (.int .i64 n)).run Tryd.prog w = .ok (.slice (some ⟨w.heap.size, 0, none⟩) n n) w' ∧ Below w.heap.size w w' ∧ w.heap.size < w'.heap.size ∧ CellsZ w' w.heap.size (List.replicate n (.bool false)) := by
  obtain ⟨i, hi, hz, hs, hby⟩ := info_parts i4
  obtain ⟨w', hr, hown, hg⟩ := run_makeSlice_full (P := Tryd.prog) w w.heap.size 97 4 i (.bool false) 1 Tryd.underlying97 hi hz hs .i64 .i64 n (by omega) (by rw [hby]; omega) (by unfold maxLen; omega) (Nat.le_refl _)
  have hlt := (hown.lt w.heap.size rfl).2
  refine ⟨w', hr, ⟨hg.os, hg.tape, hg.output, hg.size, fun k hk => hg.block k hk (by simp)⟩, hlt, fun j hj => ?_, fun j _ => hown.frozenAt j⟩
  have hj' : j < n := by simpa using hj
  rw [hown.cellAt j (by simpa using hj')]
  simp [madeCells, Value.cells, hj', Nat.mod_one]
/-- A slice of numbers. -/
def NumsAt (w : World) (v : Value) (n : Nat) : Prop :=
  ∃ a cap, v = .slice a n cap ∧ (0 < n → ∃ b off, a = some ⟨b, off, none⟩ ∧ b < w.heap.size ∧ ∀ j, j < n → ∃ z : Int, w.cell? ⟨b, off + j, none⟩ = some (.int .i64 z))
theorem NumsAt.below {w w' : World} {v : Value} {n : Nat} (h : NumsAt w v n) (hb : Below w.heap.size w w') : NumsAt w' v n := by
  obtain ⟨a, cap, hv, h⟩ := h
  refine ⟨a, cap, hv, fun h0 => ?_⟩
  obtain ⟨b, off, ha, hlt, hc⟩ := h h0
  refine ⟨b, off, ha, Nat.lt_of_lt_of_le hlt hb.size, fun j hj => ?_⟩
  obtain ⟨z, hz⟩ := hc j hj
  exact ⟨z, by rw [hb.cell (p := ⟨b, off + j, none⟩) hlt]; exact hz⟩
def dist (N j k : Nat) : Nat := if k ≤ j then j - k else N - k + j
theorem dist_step {N j k : Nat} (hk : k < N) (hj : j < N) (h : k ≠ j) : dist N j ((k + 1) % N) < dist N j k := by
  unfold dist
  by_cases e : k + 1 = N
  · rw [e, Nat.mod_self]
    rw [if_pos (by omega), if_neg (by omega)]; omega
  · rw [Nat.mod_eq_of_lt (by omega)]
    split <;> split <;> omega
/-- Laid's own memory, under way. -/
structure LayAt (r : RecD) (sa : Option Addr) (cap : Nat) (w : World) (D : Nat) (wr : World) (L : List Bool) (A : List Nat) : Prop where
  below : Below w.heap.size w wr
  lt : w.heap.size + 1 < D
  big : D + 1 ≤ wr.heap.size
  c0 : wr.cell? ⟨w.heap.size, 0, none⟩ = some (.int .u8 r.kind.toNat)
  c1 : wr.cell? ⟨w.heap.size, 1, none⟩ = some (.int .u8 r.level.toNat)
  c2 : wr.cell? ⟨w.heap.size, 2, none⟩ = some (.slice sa r.fields.length cap)
  ints : CellsZ wr (w.heap.size + 1) (A.map fun n : Nat => Value.int .i64 (n : Int))
  bools : CellsZ wr D (L.map .bool)
theorem LayAt.init (r : RecD) (sa : Option Addr) (cap : Nat) (w w1 w2 : World) (hb1 : Below (w.heap.size + 1) (w.alloc (Obj.cells #[.int .u8 r.kind.toNat, .int .u8 r.level.toNat, .slice sa r.fields.length cap] 27)) w1) (hz1 : w.heap.size + 1 < w1.heap.size)
    (hC1 : CellsZ w1 (w.heap.size + 1) (List.replicate r.fields.length (.int .i64 0))) (hb2 : Below w1.heap.size w1 w2) (hz2 : w1.heap.size < w2.heap.size) (hC2 : CellsZ w2 w1.heap.size (List.replicate r.fields.length (.bool false))) :
    LayAt r sa cap w w1.heap.size w2 (List.replicate r.fields.length false) (List.replicate r.fields.length 0) := by
  have hb := btr hb1 hb2 (by omega)
  refine ⟨btr (alloc_below1 w _) hb (by omega), hz1, by omega, ?_, ?_, ?_, ?_, ?_⟩
  · rw [hb.cell (p := ⟨w.heap.size, 0, none⟩) (by simp), World.cell?_alloc_new]; rfl
  · rw [hb.cell (p := ⟨w.heap.size, 1, none⟩) (by simp), World.cell?_alloc_new]; rfl
  · rw [hb.cell (p := ⟨w.heap.size, 2, none⟩) (by simp), World.cell?_alloc_new]; rfl
  · rw [List.map_replicate]; exact hC1.below hz1 hb2
  · rw [List.map_replicate]; exact hC2
theorem LayAt.keep {r : RecD} {sa : Option Addr} {cap : Nat} {w wr w2 : World} {D : Nat} {L : List Bool} {A : List Nat} (h : LayAt r sa cap w D wr L A) (hb : Below wr.heap.size wr w2) : LayAt r sa cap w D w2 L A := by
  have h1 := h.lt
  have h2 := h.big
  refine ⟨btr h.below hb h.below.size, h1, Nat.le_trans h2 hb.size, ?_, ?_, ?_, h.ints.below (by omega) hb, h.bools.below (by omega) hb⟩
  · rw [hb.cell (p := ⟨w.heap.size, 0, none⟩) (by simp; omega)]; exact h.c0
  · rw [hb.cell (p := ⟨w.heap.size, 1, none⟩) (by simp; omega)]; exact h.c1
  · rw [hb.cell (p := ⟨w.heap.size, 2, none⟩) (by simp; omega)]; exact h.c2
theorem cell_set_far (w : World) (B B' m o : Nat) (v : Value) (h : B' ≠ B) : (w.setCell ⟨B, m, none⟩ v).cell? ⟨B', o, none⟩ = w.cell? ⟨B', o, none⟩ :=
  World.cell?_of_block (w := w) (a := ⟨B', o, none⟩) (Below.heap_setCell _ _ _ _ h)
theorem LayAt.left {r : RecD} {sa : Option Addr} {cap : Nat} {w wr : World} {D : Nat} {L : List Bool} {A : List Nat} (h : LayAt r sa cap w D wr L A) (m : Nat) (hm : m < L.length) : LayAt r sa cap w D (wr.setCell ⟨D, m, none⟩ (.bool true)) (L.set m true) A := by
  have h1 := h.lt
  refine ⟨h.below.setCell (by simp; omega) _, h1, by simpa using h.big, ?_, ?_, ?_, ?_, ?_⟩
  · rw [cell_set_far _ _ _ _ _ _ (by omega)]; exact h.c0
  · rw [cell_set_far _ _ _ _ _ _ (by omega)]; exact h.c1
  · rw [cell_set_far _ _ _ _ _ _ (by omega)]; exact h.c2
  · exact h.ints.far (Below.heap_setCell _ _ _ _ (by simp; omega))
  · rw [List.map_set]; exact h.bools.set m _ (by simpa using hm)
theorem LayAt.at {r : RecD} {sa : Option Addr} {cap : Nat} {w wr : World} {D : Nat} {L : List Bool} {A : List Nat} (h : LayAt r sa cap w D wr L A) (m p : Nat) (hm : m < A.length) : LayAt r sa cap w D (wr.setCell ⟨w.heap.size + 1, m, none⟩ (.int .i64 p)) L (A.set m p) := by
  have h1 := h.lt
  refine ⟨h.below.setCell (by simp) _, h1, by simpa using h.big, ?_, ?_, ?_, ?_, ?_⟩
  · rw [cell_set_far _ _ _ _ _ _ (by omega)]; exact h.c0
  · rw [cell_set_far _ _ _ _ _ _ (by omega)]; exact h.c1
  · rw [cell_set_far _ _ _ _ _ _ (by omega)]; exact h.c2
  · rw [List.map_set]; exact h.ints.set m _ (by simpa using hm)
  · exact h.bools.far (Below.heap_setCell _ _ _ _ (by simp; omega))
theorem LayAt.boolAt {r : RecD} {sa : Option Addr} {cap : Nat} {w wr : World} {D : Nat} {L : List Bool} {A : List Nat} (h : LayAt r sa cap w D wr L A) (m : Nat) (hm : m < L.length) : wr.cell? ⟨D, m, none⟩ = some (.bool L[m]) ∧ wr.frozen? ⟨D, m, none⟩ = false := by
  have h1 := h.bools.1 m (by simpa using hm)
  simp only [List.getElem_map] at h1
  exact ⟨h1, h.bools.2 m (by simpa using hm)⟩
theorem LayAt.intAt {r : RecD} {sa : Option Addr} {cap : Nat} {w wr : World} {D : Nat} {L : List Bool} {A : List Nat} (h : LayAt r sa cap w D wr L A) (m : Nat) (hm : m < A.length) : wr.cell? ⟨w.heap.size + 1, m, none⟩ = some (.int .i64 (A[m] : Nat)) ∧ wr.frozen? ⟨w.heap.size + 1, m, none⟩ = false := by
  have h1 := h.ints.1 m (by simpa using hm)
  simp only [List.getElem_map] at h1
  exact ⟨h1, h.ints.2 m (by simpa using hm)⟩
theorem fixed_50_5v (n : Nat) (v : Int) (hv : v = n) (w : World) (hn : n < 1000000000) :
   Calls Tryd.prog 50 #[.int .i64 v, .int .i64 5] w fun e w' => e = .returned (S (fixedN 5 n)) ∧ Below w.heap.size w w' := by
  subst hv
  have := fixed_50 5 (n : Int) 5 w rfl (by omega) (by omega) (by omega)
  rwa [Int.toNat_natCast] at this
theorem two_cells (w : World) (x y : Value) (t : TypeId) : (w.alloc (Obj.cells #[x, y] t)).cell? ⟨w.heap.size, 0, none⟩ = some x ∧ (w.alloc (Obj.cells #[x, y] t)).cell? ⟨w.heap.size, 1, none⟩ = some y := by
  constructor <;> (rw [World.cell?_alloc_new]; rfl)
/-- One of two may come up. -/
theorem anyT_two {P : Program} {md : Region.Mode} {ops : Array Oper} {Q : Exit → Act → World → Prop} {S : World → Prop} {z i j : Nat} {o o' : Oper} {n : Nat} {listed : Array Bool} {a : Act} {w : World} (hi : ops[i]? = some o) (hj : ops[j]? = some o')
    (hr : Region.ready md ops listed = [i, j]) (hg : o.guard = none) (hg' : o'.guard = none)
    (h : ∀ K : Act → World → Prop, (∀ a' w', (i ≠ z → S w') → anyT P md ops Q S z n (listed.setIfInBounds i true) a' w' → K a' w') → o.wp P a w K Q)
    (h' : ∀ K : Act → World → Prop, (∀ a' w', (j ≠ z → S w') → anyT P md ops Q S z n (listed.setIfInBounds j true) a' w' → K a' w') → o'.wp P a w K Q) : anyT P md ops Q S z (n + 1) listed a w := by
  refine ⟨fun h0 => absurd h0 (by rw [hr]; simp), fun k hk => ?_⟩
  rw [hr] at hk
  simp only [List.mem_cons, List.not_mem_nil, or_false] at hk
  rcases hk with rfl | rfl
  · unfold wpOp
    rw [hi]
    simp only [Region.wanted, hg, if_true]
    exact .inl (h _ fun a' w' h1 h2 => ⟨h1, h2⟩)
  · unfold wpOp
    rw [hj]
    simp only [Region.wanted, hg', if_true]
    exact .inl (h' _ fun a' w' h1 h2 => ⟨h1, h2⟩)
set_option linter.unusedSimpArgs false in
set_option maxHeartbeats 8000000 in
set_option maxRecDepth 100000 in
theorem laid_24 (r : RecD) (sa : Option Addr) (cap n : Nat) (x : Value) (w : World) (hm : MadeAt r sa cap w) (hx : NumsAt w x n) (hn : n ≤ maxLen) :
    Calls Tryd.prog 24 #[.agg #[.int .u8 r.kind.toNat, .int .u8 r.level.toNat, .slice sa r.fields.length cap], x] w fun e w' => ∃ s : Bs, e = .returned (S s) ∧ Below w.heap.size w w' ∧ Hid (parseR s = (r, 0, 0)) ∧ Hid ((writeB r).length ≤ s.length) ∧ s.length ≤ 1200 := by
  unfold maxLen at hn
  have HG := Lib.hid hm.1
  have HF : Hid (∀ W, Below w.heap.size w W → FieldsAt 0 w.heap.size W (.slice sa r.fields.length cap) r.fields) := fun W h => hm.2.kept (bkept h (Nat.le_refl _))
  have HX : Hid (∀ W, Below w.heap.size w W → NumsAt W x n) := fun W h => hx.below h
  obtain ⟨xa, xc, rfl, _⟩ := hx
  have hmany := hm.1.many
  clear hm
  obtain ⟨w1, hmk1, hb1, hz1, hC1⟩ := make_ints r.fields.length (w.alloc (Obj.cells #[.int .u8 r.kind.toNat, .int .u8 r.level.toNat, .slice sa r.fields.length cap] 27)) (by omega)
  obtain ⟨w2, hmk2, hb2, hz2, hC2⟩ := make_bools r.fields.length w1 (by omega)
  simp only [World.size_alloc] at hmk1 hb1 hz1 hC1
  have HI := Lib.hid (LayAt.init r sa cap w w1 w2 hb1 hz1 hC1 hb2 hz2 hC2)
  clear hb1 hb2 hC1 hC2
  go_enter Tryd.func24, Tryd.ntmps24
  go_wp2_with fail
  go_loopw [8, 9] (fun da i wr => ∃ (k : Nat) (L : List Bool) (A : List Nat) (D : Bs), k ≤ r.fields.length ∧ i = .int .i64 k ∧ da = S D ∧ D.length ≤ 1000 ∧ Hid (LaySt r.fields L A D k) ∧ Hid (LayAt r sa cap w w1.heap.size wr L A)) (fun _ i _ => r.fields.length - (intOf i).toNat)
  case atStart => exact ⟨0, _, _, [], by omega, rfl, rfl, by simp, LaySt.init _, HI⟩
  case round =>
    obtain ⟨k, L, A, D, hk, rfl, rfl, hDl, HS, HL⟩ := hrel
    clear hmk1 hmk2
    have c2 := HL.out.c2
    by_cases hlt : k < r.fields.length
    · obtain ⟨j0, hj0, hj0f⟩ := cnt_free L (by rw [HS.out.count, HS.out.ll]; exact hlt)
      have HLL := Lib.hid HS.out.ll
      have HJ0 := Lib.hid hj0f
      clear hj0f
      have hj0' : j0 < r.fields.length := by rw [← HLL.out]; exact hj0
      go_upto_if 30 with fail
      go_cut [10] (fun t wx => ∃ m : Nat, m < r.fields.length ∧ t = .int .i64 m ∧ wx = wr)
      case first =>
        by_cases hn0 : 0 < n
        · obtain ⟨_, _, hv, hc⟩ := HX.out wr HL.out.below
          cases hv
          obtain ⟨b, off, rfl, _, hc⟩ := hc hn0
          obtain ⟨q, hq, hqn⟩ : ∃ q : Nat, (k : Int) % (n : Int) = q ∧ q < n := ⟨k % n, by simp, Nat.mod_lt _ hn0⟩
          obtain ⟨z, hz⟩ := hc q hqn
          clear hc
          go_wp2_with (go_at_call 21; ((with_reducible refine Calls.mono (mod_int z _ r.fields.length (by omega) (by omega) rfl _) ?_); rintro e w' ⟨m, hm, rfl, rfl⟩))
          go_meet
          exact ⟨m, hm, rfl, rfl⟩
        · have hn0' : n = 0 := by omega
          subst hn0'
          go_wp2_with fail
          go_meet
          exact ⟨k, hlt, rfl, rfl⟩
      case rest =>
        obtain ⟨m0, hm0, rfl, rfl⟩ := hcut
        have c2 := HL.out.c2
        go_wp2_with fail
        go_loopw [10] (fun t wx => ∃ m : Nat, m < r.fields.length ∧ t = .int .i64 m ∧ wx = wc) (fun t _ => dist r.fields.length j0 (intOf t).toNat)
        case atStart => exact ⟨m0, hm0, rfl, rfl⟩
        case round =>
          obtain ⟨m, hm, rfl, rfl⟩ := hrel
          have hmL : m < L.length := by rw [HLL.out]; exact hm
          have hmA : m < A.length := by rw [HS.out.la]; exact hm
          obtain ⟨s1, s2⟩ := HL.out.boolAt m hmL
          by_cases hLm : L[m] = true
          · have hne : m ≠ j0 := by rintro rfl; have := HJ0.out; simp [hLm] at this
            have hds := dist_step hm hj0' hne
            obtain ⟨q, hq, hqn, hqd⟩ : ∃ q : Nat, ((m : Int) + 1) % (r.fields.length : Int) = q ∧ q < r.fields.length ∧ dist r.fields.length j0 q < dist r.fields.length j0 m := ⟨(m + 1) % r.fields.length, by simp, Nat.mod_lt _ (by omega), hds⟩
            rw [hLm] at s1
            go_wp2_with fail
            go_roundw
            case rel => refine ⟨q, hqn, ?_, ?_⟩ <;> simp [hq]
            case measure => simpa [intOf, hq] using hqd
          · have hLf : L[m] = false := by simpa using hLm
            rw [hLf] at s1
            have HLf := Lib.hid hLf
            clear hLf hLm hm0
            have HL1 := Lib.hid (HL.out.left m hmL)
            obtain ⟨f1, f2⟩ := HL1.out.intAt m hmA
            go_upto_region 14 with fail
            go_cut [64] (fun c wx => ∃ g : Bool, c = .bool g ∧ wx = wr.setCell ⟨w1.heap.size, m, none⟩ (.bool true))
            case first =>
              by_cases hn0 : 0 < n
              · obtain ⟨_, _, hv, hc⟩ := HX.out _ HL1.out.below
                cases hv
                obtain ⟨b, off, rfl, _, hc⟩ := hc hn0
                obtain ⟨q, hq, hqn⟩ : ∃ q : Nat, (k : Int) % (n : Int) = q ∧ q < n := ⟨k % n, by simp, Nat.mod_lt _ hn0⟩
                obtain ⟨z, hz⟩ := hc q hqn
                clear hc
                go_wp2_with fail
                go_meet
                exact ⟨_, rfl, rfl⟩
              · have hn0' : n = 0 := by omega
                subst hn0'
                go_wp2_with fail
                go_meet
                exact ⟨_, rfl, rfl⟩
            case rest =>
              obtain ⟨g, rfl, rfl⟩ := hcut
              obtain ⟨b, off, cap', d, hv, _, hbw, ht1, ht2, ht3, ht4, hsd⟩ := (HF.out _ HL1.out.below).field m hm
              cases hv
              have hgf := good_field HG.out (List.getElem_mem hm)
              have HN : Hid (∀ g : Bs, g.length ≤ 3 → LaySt r.fields (L.set m true) (A.set m (D ++ g).length) (D ++ (g ++ fieldBytes r.fields[m])) (k + 1)) := fun g hg => HS.out.next m hm (fun _ => HLf.out) g hg hgf.2
              have HL2 : Hid (∀ p : Nat, LayAt r (some ⟨b, off, none⟩) cap w w1.heap.size ((wr.setCell ⟨w1.heap.size, m, none⟩ (.bool true)).setCell ⟨w.heap.size + 1, m, none⟩ (.int .i64 p)) (L.set m true) (A.set m p)) := fun p => HL1.out.at m p hmA
              have HC2 : Hid (∀ (p : Nat) (o : Nat) (u : Value), (wr.setCell ⟨w1.heap.size, m, none⟩ (.bool true)).cell? ⟨b, o, none⟩ = some u → ((wr.setCell ⟨w1.heap.size, m, none⟩ (.bool true)).setCell ⟨w.heap.size + 1, m, none⟩ (.int .i64 p)).cell? ⟨b, o, none⟩ = some u) := fun p o u h => by rw [cell_set_far _ _ _ _ _ _ (by omega)]; exact h
              have HSD : Hid (∀ W, Below w.heap.size w W → SubsAt 0 W.heap.size W d r.fields[m].subs) := fun W hW => (hsd.kept (fun k _ hk => (hW.block k hk).trans (HL1.out.below.block k hk).symm)).mono (Nat.le_refl _) hW.size
              obtain ⟨f, hf⟩ : ∃ f, r.fields[m] = f := ⟨_, rfl⟩
              rw [hf] at ht1 ht2 ht3 hgf HN HSD
              clear hf hsd
              have hfl : (fieldBytes f).length ≤ 66 := hgf.2
              have hsl := subs_le f
              obtain ⟨dg, hdg⟩ : ∃ dg : Bs, dg = if g then [103, 97, 112] else [] := ⟨_, rfl⟩
              have hdl : dg.length ≤ 3 := by rw [hdg]; split <;> simp
              have HR := Lib.hid (HN.out dg hdl)
              have HLP : Hid (∀ z : Int, z = ((D ++ dg).length : Nat) → LayAt r (some ⟨b, off, none⟩) cap w w1.heap.size ((wr.setCell ⟨w1.heap.size, m, none⟩ (.bool true)).setCell ⟨w.heap.size + 1, m, none⟩ (.int .i64 z)) (L.set m true) (A.set m (D ++ dg).length)) := fun z hz => by subst hz; exact HL2.out _
              have hsz := HS.out.size
              have H49 : Hid (∀ W, Below w.heap.size w W → Calls Tryd.prog 49 #[.agg #[S f.tag, S f.ind, S f.data, d]] W fun e w' => e = .returned (S (fieldBytes f)) ∧ Below W.heap.size W w') := fun W hW => bytes_49 f d W (HSD.out W hW) (by omega) (by omega)
              have g1 := fun p => HC2.out p _ _ ht1
              have g2 := fun p => HC2.out p _ _ ht2
              have g3 := fun p => HC2.out p _ _ ht3
              have g4 := fun p => HC2.out p _ _ ht4
              have g5 := fun p => (HL2.out p).c2
              cases g
              all_goals
                simp only [Bool.false_eq_true, if_false, if_true] at hdg
                subst hdg
                go_wp2_with (go_at_call 49; ((with_reducible refine Calls.mono (H49.out _ (HL2.out _).below) ?_); rintro e w3 ⟨rfl, hb3⟩; have HB3 := Lib.hid hb3))
                go_roundw
                case rel => exact ⟨k + 1, _, _, _, by omega, by go_num, rfl, by simp; omega, HR.out, (HLP.out _ (by simp)).keep HB3.out⟩
                case measure => simp [intOf]; omega
    · have hkN : k = r.fields.length := by omega
      subst hkN
      have HP : Hid (∀ x : Free, parseR (laidG r.kind r.level x (r.fields.zip A) D) = (r, 0, 0) ∧ (writeB r).length ≤ (laidG r.kind r.level x (r.fields.zip A) D).length ∧ (laidG r.kind r.level x (r.fields.zip A) D).length ≤ 1200) := fun x => HS.out.parse HG.out x
      have HA := Lib.hid HS.out.la
      have HPL := Lib.hid (fun k h1 h2 => HS.out.place HG.out k h1 h2)
      have hDl2 : D.length ≤ 828 := by have := HS.out.size; omega
      have HOK := Lib.hid (HS.out.ok HG.out)
      clear HS HI c2
      generalize wr = w3 at *
      have c2 := HL.out.c2
      go_wp2_with fail
      go_loopw [11, 12] (fun dr i wx => ∃ (k : Nat) (R : Bs), k ≤ r.fields.length ∧ i = .int .i64 k ∧ dr = S R ∧ Hid (R = dirP ((r.fields.zip A).take k)) ∧ R.length ≤ 144 ∧ Below w3.heap.size w3 wx) (fun _ i _ => r.fields.length - (intOf i).toNat)
      case atStart => exact ⟨0, [], by omega, rfl, rfl, by simp [dirP, Hid], by simp, Below.refl _ _⟩
      case round =>
        obtain ⟨k2, R, hk2, rfl, rfl, HR, hRl, hb⟩ := hrel
        have HLr := Lib.hid (HL.out.keep hb)
        have c2 := HLr.out.c2
        by_cases hlt : k2 < r.fields.length
        · obtain ⟨b, off, cap', d, hv, _, hbw, ht1, ht2, ht3, ht4, hsd⟩ := (HF.out _ HLr.out.below).field k2 hlt
          cases hv
          have hkA : k2 < A.length := by rw [HA.out]; exact hlt
          have a1 := (HLr.out.intAt k2 hkA).1
          have hgf := good_field HG.out (List.getElem_mem hlt)
          have HTL := Lib.hid (tag_three hgf.1)
          have HN : Hid (R ++ (r.fields[k2].tag ++ (fixedN 4 (fieldBytes r.fields[k2]).length ++ fixedN 5 A[k2])) = dirP ((r.fields.zip A).take (k2 + 1))) := by rw [HR.out]; exact (dirP_take _ _ _ hlt hkA).symm
          have HSD : Hid (∀ W, Below w.heap.size w W → SubsAt 0 W.heap.size W d r.fields[k2].subs) := fun W hW => (hsd.kept (fun k _ hk => (hW.block k hk).trans (HLr.out.below.block k hk).symm)).mono (Nat.le_refl _) hW.size
          have hpl := HPL.out k2 hlt hkA
          have hRk : R.length = 12 * k2 := by
            rw [HR.out, dirP_length (fun p hp => HOK.out.right p (List.mem_of_mem_take hp)), List.length_take, List.length_zip, HA.out]; omega
          have hRl2 : R.length ≤ 132 := by omega
          have hb0 := HLr.out.below
          clear hsd hRk HPL
          obtain ⟨f, hf⟩ : ∃ f, r.fields[k2] = f := ⟨_, rfl⟩
          obtain ⟨p, hp⟩ : ∃ p, A[k2] = p := ⟨_, rfl⟩
          rw [hp] at a1 hpl HN
          rw [hf] at ht1 ht2 ht3 hgf HN HSD HTL
          clear hf hp
          have hfl : (fieldBytes f).length ≤ 66 := hgf.2
          have hsl := subs_le f
          have hz1' := HLr.out.lt
          have hz2' := HLr.out.big
          have H49 : Hid (∀ W, Below w.heap.size w W → Calls Tryd.prog 49 #[.agg #[S f.tag, S f.ind, S f.data, d]] W fun e w' => e = .returned (S (fieldBytes f)) ∧ Below W.heap.size W w') := fun W hW => bytes_49 f d W (HSD.out W hW) (by omega) (by omega)
          have htl : f.tag.length ≤ 3 := by rw [HTL.out]; omega
          clear hgf hsl
          obtain ⟨F, hF⟩ : ∃ F, fieldBytes f = F := ⟨_, rfl⟩
          obtain ⟨G, hG⟩ : ∃ G, f.tag = G := ⟨_, rfl⟩
          rw [hF] at H49 HN hfl
          rw [hG] at H49 HN htl ht1
          clear hF hG HTL
          have q1 : ¬ 9223372036854775807 < R.length + G.length := by omega
          have q2 : ¬ 9223372036854775807 < R.length + G.length + 4 := by omega
          have q3 : ¬ 9223372036854775807 < R.length + (G.length + 4) := by omega
          have q4 : ¬ 9223372036854775807 < R.length + (G.length + 4) + 5 := by omega
          have q5 : ¬ 9223372036854775807 < R.length + G.length + 4 + 5 := by omega
          have q6 : ¬ 9223372036854775807 < R.length + (G.length + 4 + 5) := by omega
          have q7 : ¬ 9223372036854775807 < R.length + (G.length + (4 + 5)) := by omega
          have a2 : 0 ≤ (F.length : Int) ∧ (F.length : Int) < 1000000000 := by omega
          have a3 : 0 ≤ (p : Int) ∧ (p : Int) < 1000000000 := by omega
          go_wp2_with fail
          go_region_held3 (fun w' => w'.cell? ⟨w.heap.size, 2, none⟩ = some (Value.slice (some ⟨b, off, none⟩) r.fields.length cap) ∧ w'.cell? ⟨b, off + k2 * 4, none⟩ = some (S G) ∧ w'.cell? ⟨b, off + k2 * 4 + 1, none⟩ = some (S f.ind) ∧ w'.cell? ⟨b, off + k2 * 4 + 2, none⟩ = some (S f.data) ∧ w'.cell? ⟨b, off + k2 * 4 + 3, none⟩ = some d ∧ w'.cell? ⟨w.heap.size + 1, k2, none⟩ = some (.int .i64 p)) (go_keep)
            (first
              | (go_at_call 49; ((with_reducible refine Calls.mono (H49.out _ (hb0.drew)) ?_); rintro e w4 ⟨rfl, hb4⟩; have hx4 := bext hb4))
              | (go_at_call_of 50 (Value.int IntKind.i64 ↑(List.length F)); refine (fixed_50 4 _ _ _ rfl a2.1 a2.2 (by omega)).mono ?_; rintro e w5 ⟨rfl, hb5⟩; have hx5 := bext hb5)
              | (go_at_call_of 50 (Value.int IntKind.i64 ↑p); refine (fixed_50 5 _ _ _ rfl a3.1 a3.2 (by omega)).mono ?_; rintro e w6 ⟨rfl, hb6⟩; have hx6 := bext hb6))
          clear hx4 hx5 hx6
          go_wp2_with fail
          go_roundw
          case rel => exact ⟨k2 + 1, R ++ (G ++ (fixedN 4 F.length ++ fixedN 5 p)), by omega, by go_num, by simp, HN, by simp [fixedN_length]; omega, btr (btr (btr hb.drew hb4 (by have := hb.size; simpa using this)) hb5 (by have := hb.size; have := hb4.size; simp at *; omega)) hb6 (by have := hb.size; have := hb4.size; have := hb5.size; simp at *; omega)⟩
          case measure => simp [intOf]; omega
        · have hk2N : k2 = r.fields.length := by omega
          subst hk2N
          clear hk2 hlt
          have hrz : (r.fields.zip A).length = r.fields.length := by rw [List.length_zip, HA.out]; omega
          have HRe : Hid (R = dirP (r.fields.zip A)) := by
            have ht : (r.fields.zip A).take r.fields.length = r.fields.zip A := List.take_of_length_le (by omega)
            rw [ht] at HR
            exact HR
          have HRk : Hid (R.length = 12 * (r.fields.zip A).length) := by rw [HRe.out]; exact dirP_length (fun p hp => HOK.out.right p hp)
          have HFIN : Hid (∀ (c : UInt8) (l : Bs), l = leadG (25 + R.length + D.length + 1) (25 + R.length) r.kind r.level ⟨c, c, c, 120, c⟩ ++ R ++ [30] ++ D ++ [29] → parseR l = (r, 0, 0) ∧ (writeB r).length ≤ l.length ∧ l.length ≤ 1200) := by
            intro c l hl
            have : l = laidG r.kind r.level ⟨c, c, c, 120, c⟩ (r.fields.zip A) D := by rw [hl, HRk.out, HRe.out]; rfl
            rw [this]; exact HP.out _
          clear HR hrz HP HPL HOK c2
          generalize wr = w4 at *
          have hz1' := HLr.out.lt
          have hz2' := HLr.out.big
          go_upto_if 113 with fail
          go_cut [14] (fun t wx => ∃ c : UInt8, t = S [c] ∧ Below w4.heap.size w4 wx)
          case first =>
            by_cases hn1 : 1 < n
            · obtain ⟨_, _, hv, hc⟩ := HX.out _ HLr.out.below
              cases hv
              obtain ⟨b, off, rfl, _, hc⟩ := hc (by omega)
              obtain ⟨z, hz⟩ := hc 1 hn1
              clear hc
              go_wp2_with fail
              go_meet
              exact ⟨_, rfl, alloc_below1 _ _⟩
            · go_wp2_with fail
              go_meet
              exact ⟨99, rfl, Below.refl _ _⟩
          case rest =>
            obtain ⟨c, rfl, hbx⟩ := hcut
            generalize wc = w5 at *
            have HL5 := Lib.hid (HLr.out.keep hbx)
            have hb5 := HL5.out.below
            have hz5 := hbx.size
            have hc0 := HL5.out.c0
            have hc1 := HL5.out.c1
            have hw1 : w.heap.size < w5.heap.size := cell_lt hc0
            clear hbx hb HLr HL
            have a1 : 0 ≤ (25 + (R.length : Int)) ∧ (25 + (R.length : Int)) < 1000000000 := by omega
            have a2 : 0 ≤ (25 + (R.length : Int) + D.length + 1) ∧ (25 + (R.length : Int) + D.length + 1) < 1000000000 := by omega
            have ac0 : ∀ o, (w5.alloc o).cell? ⟨w.heap.size, 0, none⟩ = some (.int .u8 r.kind.toNat) := fun o => by rw [alloc_old _ _ _ _ hw1]; exact hc0
            have ac1 : ∀ o, (w5.alloc o).cell? ⟨w.heap.size, 1, none⟩ = some (.int .u8 r.level.toNat) := fun o => by rw [alloc_old _ _ _ _ hw1]; exact hc1
            have e1 : IntKind.i64.wrap (25 + (R.length : Int)) = 25 + R.length := IntWalk.i64_in _ (by omega)
            have e2 : IntKind.i64.wrap (25 + (R.length : Int) + D.length) = 25 + R.length + D.length := IntWalk.i64_in _ (by omega)
            have e3 : IntKind.i64.wrap (25 + (R.length : Int) + D.length + 1) = 25 + R.length + D.length + 1 := IntWalk.i64_in _ (by omega)
            clear ac0 ac1 a1 a2
            go_wp2_with fail
            have HS : Hid (∀ W, Below w5.heap.size w5 W → (fun w' : World => w'.cell? ⟨w.heap.size, 0, none⟩ = some (.int .u8 r.kind.toNat) ∧ w'.cell? ⟨w.heap.size, 1, none⟩ = some (.int .u8 r.level.toNat)) W) := fun W hW => ⟨by rw [hW.cell (p := ⟨w.heap.size, 0, none⟩) hw1]; exact hc0, by rw [hW.cell (p := ⟨w.heap.size, 1, none⟩) hw1]; exact hc1⟩
            have HB0 : Hid (Below w5.heap.size w5 w5.drew) := (Below.refl _ w5).drew
            refine wp_region_T (fun w' : World => w'.cell? ⟨w.heap.size, 0, none⟩ = some (.int .u8 r.kind.toNat) ∧ w'.cell? ⟨w.heap.size, 1, none⟩ = some (.int .u8 r.level.toNat)) 33 (by kernel_rfl) ?_
            refine anyT_take (i := 0) (v := ?_) rfl (by kernel_rfl) (by kernel_rfl) (by kernel_rfl) (by kernel_rfl) (by decide) (fun _ _ _ h => h) (HS.out _ HB0.out) (Or.inl ⟨by rfl, ?_⟩) ?_
            rotate_left
            · intro w' h; (try (obtain ⟨h0, h1⟩ := h)); go_simp; (first | rfl | rw [if_neg (by omega)])
            (try simp only [Act.put, List.setIfInBounds_toArray, List.set_cons_zero, List.set_cons_succ])
            refine anyT_take (i := 1) (v := ?_) rfl (by kernel_rfl) (by kernel_rfl) (by kernel_rfl) (by kernel_rfl) (by decide) (fun _ _ _ h => h) (HS.out _ HB0.out) (Or.inl ⟨by rfl, ?_⟩) ?_
            rotate_left
            · intro w' h; (try (obtain ⟨h0, h1⟩ := h)); go_simp; (first | rfl | rw [if_neg (by omega)])
            (try simp only [Act.put, List.setIfInBounds_toArray, List.set_cons_zero, List.set_cons_succ])
            refine anyT_take (i := 2) (v := ?_) rfl (by kernel_rfl) (by kernel_rfl) (by kernel_rfl) (by kernel_rfl) (by decide) (fun _ _ _ h => h) (HS.out _ HB0.out) (Or.inl ⟨by rfl, ?_⟩) ?_
            rotate_left
            · intro w' h; (try (obtain ⟨h0, h1⟩ := h)); go_simp; (first | rfl | rw [if_neg (by omega)])
            (try simp only [Act.put, List.setIfInBounds_toArray, List.set_cons_zero, List.set_cons_succ])
            refine anyT_take (i := 3) (v := ?_) rfl (by kernel_rfl) (by kernel_rfl) (by kernel_rfl) (by kernel_rfl) (by decide) (fun _ _ _ h => h) (HS.out _ HB0.out) (Or.inl ⟨by rfl, ?_⟩) ?_
            rotate_left
            · intro w' h; (try (obtain ⟨h0, h1⟩ := h)); go_simp; (first | rfl | rw [if_neg (by omega)])
            (try simp only [Act.put, List.setIfInBounds_toArray, List.set_cons_zero, List.set_cons_succ])
            refine anyT_take (i := 4) (v := ?_) rfl (by kernel_rfl) (by kernel_rfl) (by kernel_rfl) (by kernel_rfl) (by decide) (fun _ _ _ h => h) (HS.out _ HB0.out) (Or.inl ⟨by rfl, ?_⟩) ?_
            rotate_left
            · intro w' h; (try (obtain ⟨h0, h1⟩ := h)); go_simp; (first | rfl | rw [if_neg (by omega)])
            (try simp only [Act.put, List.setIfInBounds_toArray, List.set_cons_zero, List.set_cons_succ])
            refine anyT_take (i := 6) (v := ?_) rfl (by kernel_rfl) (by kernel_rfl) (by kernel_rfl) (by kernel_rfl) (by decide) (fun _ _ _ h => h) (HS.out _ HB0.out) (Or.inl ⟨by rfl, ?_⟩) ?_
            rotate_left
            · intro w' h; (try (obtain ⟨h0, h1⟩ := h)); go_simp; (first | rfl | rw [if_neg (by omega)])
            (try simp only [Act.put, List.setIfInBounds_toArray, List.set_cons_zero, List.set_cons_succ])
            refine anyT_take (i := 8) (v := ?_) rfl (by kernel_rfl) (by kernel_rfl) (by kernel_rfl) (by kernel_rfl) (by decide) (fun _ _ _ h => h) (HS.out _ HB0.out) (Or.inl ⟨by rfl, ?_⟩) ?_
            rotate_left
            · intro w' h; (try (obtain ⟨h0, h1⟩ := h)); go_simp; (first | rfl | rw [if_neg (by omega)])
            (try simp only [Act.put, List.setIfInBounds_toArray, List.set_cons_zero, List.set_cons_succ])
            refine anyT_take (i := 9) (v := ?_) rfl (by kernel_rfl) (by kernel_rfl) (by kernel_rfl) (by kernel_rfl) (by decide) (fun _ _ _ h => h) (HS.out _ HB0.out) (Or.inl ⟨by rfl, ?_⟩) ?_
            rotate_left
            · intro w' h; (try (obtain ⟨h0, h1⟩ := h)); go_simp; (first | rfl | rw [if_neg (by omega)])
            (try simp only [Act.put, List.setIfInBounds_toArray, List.set_cons_zero, List.set_cons_succ])
            refine anyT_take (i := 10) (v := ?_) rfl (by kernel_rfl) (by kernel_rfl) (by kernel_rfl) (by kernel_rfl) (by decide) (fun _ _ _ h => h) (HS.out _ HB0.out) (Or.inl ⟨by rfl, ?_⟩) ?_
            rotate_left
            · intro w' h; (try (obtain ⟨h0, h1⟩ := h)); go_simp; (first | rfl | rw [if_neg (by omega)])
            (try simp only [Act.put, List.setIfInBounds_toArray, List.set_cons_zero, List.set_cons_succ])
            refine anyT_take (i := 11) (v := ?_) rfl (by kernel_rfl) (by kernel_rfl) (by kernel_rfl) (by kernel_rfl) (by decide) (fun _ _ _ h => h) (HS.out _ HB0.out) (Or.inl ⟨by rfl, ?_⟩) ?_
            rotate_left
            · intro w' h; (try (obtain ⟨h0, h1⟩ := h)); go_simp; (first | rfl | rw [if_neg (by omega)])
            (try simp only [Act.put, List.setIfInBounds_toArray, List.set_cons_zero, List.set_cons_succ])
            refine anyT_take (i := 15) (v := ?_) rfl (by kernel_rfl) (by kernel_rfl) (by kernel_rfl) (by kernel_rfl) (by decide) (fun _ _ _ h => h) (HS.out _ HB0.out) (Or.inl ⟨by rfl, ?_⟩) ?_
            rotate_left
            · intro w' h; (try (obtain ⟨h0, h1⟩ := h)); go_simp; (first | rfl | rw [if_neg (by omega)])
            (try simp only [Act.put, List.setIfInBounds_toArray, List.set_cons_zero, List.set_cons_succ])
            refine anyT_take (i := 18) (v := ?_) rfl (by kernel_rfl) (by kernel_rfl) (by kernel_rfl) (by kernel_rfl) (by decide) (fun _ _ _ h => h) (HS.out _ HB0.out) (Or.inl ⟨by rfl, ?_⟩) ?_
            rotate_left
            · intro w' h; (try (obtain ⟨h0, h1⟩ := h)); go_simp; (first | rfl | rw [if_neg (by omega)])
            (try simp only [Act.put, List.setIfInBounds_toArray, List.set_cons_zero, List.set_cons_succ])
            refine anyT_take (i := 21) (v := ?_) rfl (by kernel_rfl) (by kernel_rfl) (by kernel_rfl) (by kernel_rfl) (by decide) (fun _ _ _ h => h) (HS.out _ HB0.out) (Or.inl ⟨by rfl, ?_⟩) ?_
            rotate_left
            · intro w' h; (try (obtain ⟨h0, h1⟩ := h)); go_simp; (first | rfl | rw [if_neg (by omega)])
            (try simp only [Act.put, List.setIfInBounds_toArray, List.set_cons_zero, List.set_cons_succ])
            refine anyT_take (i := 24) (v := ?_) rfl (by kernel_rfl) (by kernel_rfl) (by kernel_rfl) (by kernel_rfl) (by decide) (fun _ _ _ h => h) (HS.out _ HB0.out) (Or.inl ⟨by rfl, ?_⟩) ?_
            rotate_left
            · intro w' h; (try (obtain ⟨h0, h1⟩ := h)); go_simp; (first | rfl | rw [if_neg (by omega)])
            (try simp only [Act.put, List.setIfInBounds_toArray, List.set_cons_zero, List.set_cons_succ])
            refine anyT_take (i := 27) (v := ?_) rfl (by kernel_rfl) (by kernel_rfl) (by kernel_rfl) (by kernel_rfl) (by decide) (fun _ _ _ h => h) (HS.out _ HB0.out) (Or.inl ⟨by rfl, ?_⟩) ?_
            rotate_left
            · intro w' h; (try (obtain ⟨h0, h1⟩ := h)); go_simp; (first | rfl | rw [if_neg (by omega)])
            (try simp only [Act.put, List.setIfInBounds_toArray, List.set_cons_zero, List.set_cons_succ])
            refine anyT_take (i := 30) (v := ?_) rfl (by kernel_rfl) (by kernel_rfl) (by kernel_rfl) (by kernel_rfl) (by decide) (fun _ _ _ h => h) (HS.out _ HB0.out) (Or.inl ⟨by rfl, ?_⟩) ?_
            rotate_left
            · intro w' h; (try (obtain ⟨h0, h1⟩ := h)); go_simp; (first | rfl | rw [if_neg (by omega)])
            (try simp only [Act.put, List.setIfInBounds_toArray, List.set_cons_zero, List.set_cons_succ])
            refine anyT_two (i := 5) (j := 12) rfl rfl (by kernel_rfl) rfl rfl (fun K hK => ?_) (fun K hK => ?_)
            · skip
              go_simp
              (go_at_call 50; (refine (fixed_50_5v (25 + R.length + D.length + 1) _ (by push_cast; omega) _ (by omega)).mono ?_); rintro e v1 ⟨rfl, hc1⟩)
              have HB1 := Lib.hid (btr HB0.out hc1 HB0.out.size)
              refine hK _ _ (fun _ => HS.out _ HB1.out) ?_
              clear hK K
              refine anyT_take (i := 7) (v := ?_) rfl (by kernel_rfl) (by kernel_rfl) (by kernel_rfl) (by kernel_rfl) (by decide) (fun _ _ _ h => h) (HS.out _ HB1.out) (Or.inl ⟨by rfl, ?_⟩) ?_
              rotate_left
              · intro w' h; (try (obtain ⟨h0, h1⟩ := h)); go_simp; (first | rfl | rw [if_neg (by omega)])
              (try simp only [Act.put, List.setIfInBounds_toArray, List.set_cons_zero, List.set_cons_succ])
              refine anyT_two (i := 12) (j := 19) rfl rfl (by kernel_rfl) rfl rfl (fun K hK => ?_) (fun K hK => ?_)
              · skip
                go_simp
                have HB2 : Hid (Below w5.heap.size w5 (v1.alloc (Obj.cells #[.int .u8 r.kind.toNat, .int .u8 r.level.toNat] 5))) := HB1.out.alloc HB1.out.size _
                have q2a : (v1.alloc (Obj.cells #[.int .u8 r.kind.toNat, .int .u8 r.level.toNat] 5)).cell? ⟨v1.heap.size, 0, none⟩ = some (.int .u8 r.kind.toNat) := (two_cells v1 _ _ 5).1
                have q2b : (v1.alloc (Obj.cells #[.int .u8 r.kind.toNat, .int .u8 r.level.toNat] 5)).cell? ⟨v1.heap.size, 1, none⟩ = some (.int .u8 r.level.toNat) := (two_cells v1 _ _ 5).2
                refine hK _ _ (fun _ => HS.out _ HB2.out) ?_
                clear hK K
                refine anyT_two (i := 13) (j := 19) rfl rfl (by kernel_rfl) rfl rfl (fun K hK => ?_) (fun K hK => ?_)
                · skip
                  go_simp
                  refine hK _ _ (fun _ => HS.out _ HB2.out) ?_
                  clear hK K
                  refine anyT_take (i := 14) (v := ?_) rfl (by kernel_rfl) (by kernel_rfl) (by kernel_rfl) (by kernel_rfl) (by decide) (fun _ _ _ h => h) (HS.out _ HB2.out) (Or.inl ⟨by rfl, ?_⟩) ?_
                  rotate_left
                  · intro w' h; (try (obtain ⟨h0, h1⟩ := h)); go_simp; (first | rfl | rw [if_neg (by omega)])
                  (try simp only [Act.put, List.setIfInBounds_toArray, List.set_cons_zero, List.set_cons_succ])
                  refine anyT_take (i := 16) (v := ?_) rfl (by kernel_rfl) (by kernel_rfl) (by kernel_rfl) (by kernel_rfl) (by decide) (fun _ _ _ h => h) (HS.out _ HB2.out) (Or.inl ⟨by rfl, ?_⟩) ?_
                  rotate_left
                  · intro w' h; (try (obtain ⟨h0, h1⟩ := h)); go_simp; (first | rfl | rw [if_neg (by omega)])
                  (try simp only [Act.put, List.setIfInBounds_toArray, List.set_cons_zero, List.set_cons_succ])
                  refine anyT_take (i := 17) (v := ?_) rfl (by kernel_rfl) (by kernel_rfl) (by kernel_rfl) (by kernel_rfl) (by decide) (fun _ _ _ h => h) (HS.out _ HB2.out) (Or.inl ⟨by rfl, ?_⟩) ?_
                  rotate_left
                  · intro w' h; (try (obtain ⟨h0, h1⟩ := h)); go_simp; (first | rfl | rw [if_neg (by omega)])
                  (try simp only [Act.put, List.setIfInBounds_toArray, List.set_cons_zero, List.set_cons_succ])
                  refine anyT_do (i := 19) rfl (by kernel_rfl) rfl (fun K hK => ?_)
                  go_simp
                  (go_at_call 50; (refine (fixed_50_5v (25 + R.length) _ (by push_cast; omega) _ (by omega)).mono ?_); rintro e v4 ⟨rfl, hc4⟩)
                  have HB4 := Lib.hid (btr HB2.out hc4 HB2.out.size)
                  have q4a : v4.cell? ⟨v1.heap.size, 0, none⟩ = some (.int .u8 r.kind.toNat) := (hc4.cell (p := ⟨v1.heap.size, 0, none⟩) (cell_lt q2a)).trans q2a
                  have q4b : v4.cell? ⟨v1.heap.size, 1, none⟩ = some (.int .u8 r.level.toNat) := (hc4.cell (p := ⟨v1.heap.size, 1, none⟩) (cell_lt q2b)).trans q2b
                  refine hK _ _ (fun _ => HS.out _ HB4.out) ?_
                  clear hK K
                  refine anyT_take (i := 20) (v := ?_) rfl (by kernel_rfl) (by kernel_rfl) (by kernel_rfl) (by kernel_rfl) (by decide) (fun _ _ _ h => h) (HS.out _ HB4.out) (Or.inl ⟨by rfl, ?_⟩) ?_
                  rotate_left
                  · intro w' h; (try (obtain ⟨h0, h1⟩ := h)); go_simp; (first | rfl | rw [if_neg (by omega)])
                  (try simp only [Act.put, List.setIfInBounds_toArray, List.set_cons_zero, List.set_cons_succ])
                  refine anyT_take (i := 22) (v := ?_) rfl (by kernel_rfl) (by kernel_rfl) (by kernel_rfl) (by kernel_rfl) (by decide) (fun _ _ _ h => h) (HS.out _ HB4.out) (Or.inl ⟨by rfl, ?_⟩) ?_
                  rotate_left
                  · intro w' h; (try (obtain ⟨h0, h1⟩ := h)); go_simp; (first | rfl | rw [if_neg (by omega)])
                  (try simp only [Act.put, List.setIfInBounds_toArray, List.set_cons_zero, List.set_cons_succ])
                  refine anyT_take (i := 23) (v := ?_) rfl (by kernel_rfl) (by kernel_rfl) (by kernel_rfl) (by kernel_rfl) (by decide) (fun _ _ _ h => h) (HS.out _ HB4.out) (Or.inl ⟨by rfl, ?_⟩) ?_
                  rotate_left
                  · intro w' h; (try (obtain ⟨h0, h1⟩ := h)); go_simp; (first | rfl | rw [if_neg (by omega)])
                  (try simp only [Act.put, List.setIfInBounds_toArray, List.set_cons_zero, List.set_cons_succ])
                  refine anyT_take (i := 25) (v := ?_) rfl (by kernel_rfl) (by kernel_rfl) (by kernel_rfl) (by kernel_rfl) (by decide) (fun _ _ _ h => h) (HS.out _ HB4.out) (Or.inl ⟨by rfl, ?_⟩) ?_
                  rotate_left
                  · intro w' h; (try (obtain ⟨h0, h1⟩ := h)); go_simp; (first | rfl | rw [if_neg (by omega)])
                  (try simp only [Act.put, List.setIfInBounds_toArray, List.set_cons_zero, List.set_cons_succ])
                  refine anyT_take (i := 26) (v := ?_) rfl (by kernel_rfl) (by kernel_rfl) (by kernel_rfl) (by kernel_rfl) (by decide) (fun _ _ _ h => h) (HS.out _ HB4.out) (Or.inl ⟨by rfl, ?_⟩) ?_
                  rotate_left
                  · intro w' h; (try (obtain ⟨h0, h1⟩ := h)); go_simp; (first | rfl | rw [if_neg (by omega)])
                  (try simp only [Act.put, List.setIfInBounds_toArray, List.set_cons_zero, List.set_cons_succ])
                  refine anyT_take (i := 28) (v := ?_) rfl (by kernel_rfl) (by kernel_rfl) (by kernel_rfl) (by kernel_rfl) (by decide) (fun _ _ _ h => h) (HS.out _ HB4.out) (Or.inl ⟨by rfl, ?_⟩) ?_
                  rotate_left
                  · intro w' h; (try (obtain ⟨h0, h1⟩ := h)); go_simp; (first | rfl | rw [if_neg (by omega)])
                  (try simp only [Act.put, List.setIfInBounds_toArray, List.set_cons_zero, List.set_cons_succ])
                  refine anyT_take (i := 29) (v := ?_) rfl (by kernel_rfl) (by kernel_rfl) (by kernel_rfl) (by kernel_rfl) (by decide) (fun _ _ _ h => h) (HS.out _ HB4.out) (Or.inl ⟨by rfl, ?_⟩) ?_
                  rotate_left
                  · intro w' h; (try (obtain ⟨h0, h1⟩ := h)); go_simp; (first | rfl | rw [if_neg (by omega)])
                  (try simp only [Act.put, List.setIfInBounds_toArray, List.set_cons_zero, List.set_cons_succ])
                  refine anyT_take (i := 31) (v := ?_) rfl (by kernel_rfl) (by kernel_rfl) (by kernel_rfl) (by kernel_rfl) (by decide) (fun _ _ _ h => h) (HS.out _ HB4.out) (Or.inl ⟨by rfl, ?_⟩) ?_
                  rotate_left
                  · intro w' h; (try (obtain ⟨h0, h1⟩ := h)); go_simp; (first | rfl | rw [if_neg (by omega)])
                  (try simp only [Act.put, List.setIfInBounds_toArray, List.set_cons_zero, List.set_cons_succ])
                  refine anyT_take (i := 32) (v := ?_) rfl (by kernel_rfl) (by kernel_rfl) (by kernel_rfl) (by kernel_rfl) (by decide) (fun _ _ _ h => h) (HS.out _ HB4.out) (Or.inl ⟨by rfl, ?_⟩) ?_
                  rotate_left
                  · intro w' h; (try (obtain ⟨h0, h1⟩ := h)); go_simp; (first | rfl | rw [if_neg (by omega)])
                  (try simp only [Act.put, List.setIfInBounds_toArray, List.set_cons_zero, List.set_cons_succ])
                  refine anyT_do (i := 33) rfl (by kernel_rfl) rfl (fun K hK => ?_)
                  go_simp
                  refine hK _ _ (fun h => absurd rfl h) ?_
                  clear hK K
                  refine anyT_done (by kernel_rfl) ?_ _
                  go_wp2_with fail
                  go_ret
                  refine ⟨_, rfl, btr hb5 HB4.out hb5.size, ?_⟩
                  exact HFIN.out c _ (by simp [leadG])
                · skip
                  go_simp
                  (go_at_call 50; (refine (fixed_50_5v (25 + R.length) _ (by push_cast; omega) _ (by omega)).mono ?_); rintro e v6 ⟨rfl, hc6⟩)
                  have HB6 := Lib.hid (btr HB2.out hc6 HB2.out.size)
                  have q6a : v6.cell? ⟨v1.heap.size, 0, none⟩ = some (.int .u8 r.kind.toNat) := (hc6.cell (p := ⟨v1.heap.size, 0, none⟩) (cell_lt q2a)).trans q2a
                  have q6b : v6.cell? ⟨v1.heap.size, 1, none⟩ = some (.int .u8 r.level.toNat) := (hc6.cell (p := ⟨v1.heap.size, 1, none⟩) (cell_lt q2b)).trans q2b
                  refine hK _ _ (fun _ => HS.out _ HB6.out) ?_
                  clear hK K
                  refine anyT_do (i := 13) rfl (by kernel_rfl) rfl (fun K hK => ?_)
                  go_simp
                  refine hK _ _ (fun _ => HS.out _ HB6.out) ?_
                  clear hK K
                  refine anyT_take (i := 14) (v := ?_) rfl (by kernel_rfl) (by kernel_rfl) (by kernel_rfl) (by kernel_rfl) (by decide) (fun _ _ _ h => h) (HS.out _ HB6.out) (Or.inl ⟨by rfl, ?_⟩) ?_
                  rotate_left
                  · intro w' h; (try (obtain ⟨h0, h1⟩ := h)); go_simp; (first | rfl | rw [if_neg (by omega)])
                  (try simp only [Act.put, List.setIfInBounds_toArray, List.set_cons_zero, List.set_cons_succ])
                  refine anyT_take (i := 16) (v := ?_) rfl (by kernel_rfl) (by kernel_rfl) (by kernel_rfl) (by kernel_rfl) (by decide) (fun _ _ _ h => h) (HS.out _ HB6.out) (Or.inl ⟨by rfl, ?_⟩) ?_
                  rotate_left
                  · intro w' h; (try (obtain ⟨h0, h1⟩ := h)); go_simp; (first | rfl | rw [if_neg (by omega)])
                  (try simp only [Act.put, List.setIfInBounds_toArray, List.set_cons_zero, List.set_cons_succ])
                  refine anyT_take (i := 17) (v := ?_) rfl (by kernel_rfl) (by kernel_rfl) (by kernel_rfl) (by kernel_rfl) (by decide) (fun _ _ _ h => h) (HS.out _ HB6.out) (Or.inl ⟨by rfl, ?_⟩) ?_
                  rotate_left
                  · intro w' h; (try (obtain ⟨h0, h1⟩ := h)); go_simp; (first | rfl | rw [if_neg (by omega)])
                  (try simp only [Act.put, List.setIfInBounds_toArray, List.set_cons_zero, List.set_cons_succ])
                  refine anyT_take (i := 20) (v := ?_) rfl (by kernel_rfl) (by kernel_rfl) (by kernel_rfl) (by kernel_rfl) (by decide) (fun _ _ _ h => h) (HS.out _ HB6.out) (Or.inl ⟨by rfl, ?_⟩) ?_
                  rotate_left
                  · intro w' h; (try (obtain ⟨h0, h1⟩ := h)); go_simp; (first | rfl | rw [if_neg (by omega)])
                  (try simp only [Act.put, List.setIfInBounds_toArray, List.set_cons_zero, List.set_cons_succ])
                  refine anyT_take (i := 22) (v := ?_) rfl (by kernel_rfl) (by kernel_rfl) (by kernel_rfl) (by kernel_rfl) (by decide) (fun _ _ _ h => h) (HS.out _ HB6.out) (Or.inl ⟨by rfl, ?_⟩) ?_
                  rotate_left
                  · intro w' h; (try (obtain ⟨h0, h1⟩ := h)); go_simp; (first | rfl | rw [if_neg (by omega)])
                  (try simp only [Act.put, List.setIfInBounds_toArray, List.set_cons_zero, List.set_cons_succ])
                  refine anyT_take (i := 23) (v := ?_) rfl (by kernel_rfl) (by kernel_rfl) (by kernel_rfl) (by kernel_rfl) (by decide) (fun _ _ _ h => h) (HS.out _ HB6.out) (Or.inl ⟨by rfl, ?_⟩) ?_
                  rotate_left
                  · intro w' h; (try (obtain ⟨h0, h1⟩ := h)); go_simp; (first | rfl | rw [if_neg (by omega)])
                  (try simp only [Act.put, List.setIfInBounds_toArray, List.set_cons_zero, List.set_cons_succ])
                  refine anyT_take (i := 25) (v := ?_) rfl (by kernel_rfl) (by kernel_rfl) (by kernel_rfl) (by kernel_rfl) (by decide) (fun _ _ _ h => h) (HS.out _ HB6.out) (Or.inl ⟨by rfl, ?_⟩) ?_
                  rotate_left
                  · intro w' h; (try (obtain ⟨h0, h1⟩ := h)); go_simp; (first | rfl | rw [if_neg (by omega)])
                  (try simp only [Act.put, List.setIfInBounds_toArray, List.set_cons_zero, List.set_cons_succ])
                  refine anyT_take (i := 26) (v := ?_) rfl (by kernel_rfl) (by kernel_rfl) (by kernel_rfl) (by kernel_rfl) (by decide) (fun _ _ _ h => h) (HS.out _ HB6.out) (Or.inl ⟨by rfl, ?_⟩) ?_
                  rotate_left
                  · intro w' h; (try (obtain ⟨h0, h1⟩ := h)); go_simp; (first | rfl | rw [if_neg (by omega)])
                  (try simp only [Act.put, List.setIfInBounds_toArray, List.set_cons_zero, List.set_cons_succ])
                  refine anyT_take (i := 28) (v := ?_) rfl (by kernel_rfl) (by kernel_rfl) (by kernel_rfl) (by kernel_rfl) (by decide) (fun _ _ _ h => h) (HS.out _ HB6.out) (Or.inl ⟨by rfl, ?_⟩) ?_
                  rotate_left
                  · intro w' h; (try (obtain ⟨h0, h1⟩ := h)); go_simp; (first | rfl | rw [if_neg (by omega)])
                  (try simp only [Act.put, List.setIfInBounds_toArray, List.set_cons_zero, List.set_cons_succ])
                  refine anyT_take (i := 29) (v := ?_) rfl (by kernel_rfl) (by kernel_rfl) (by kernel_rfl) (by kernel_rfl) (by decide) (fun _ _ _ h => h) (HS.out _ HB6.out) (Or.inl ⟨by rfl, ?_⟩) ?_
                  rotate_left
                  · intro w' h; (try (obtain ⟨h0, h1⟩ := h)); go_simp; (first | rfl | rw [if_neg (by omega)])
                  (try simp only [Act.put, List.setIfInBounds_toArray, List.set_cons_zero, List.set_cons_succ])
                  refine anyT_take (i := 31) (v := ?_) rfl (by kernel_rfl) (by kernel_rfl) (by kernel_rfl) (by kernel_rfl) (by decide) (fun _ _ _ h => h) (HS.out _ HB6.out) (Or.inl ⟨by rfl, ?_⟩) ?_
                  rotate_left
                  · intro w' h; (try (obtain ⟨h0, h1⟩ := h)); go_simp; (first | rfl | rw [if_neg (by omega)])
                  (try simp only [Act.put, List.setIfInBounds_toArray, List.set_cons_zero, List.set_cons_succ])
                  refine anyT_take (i := 32) (v := ?_) rfl (by kernel_rfl) (by kernel_rfl) (by kernel_rfl) (by kernel_rfl) (by decide) (fun _ _ _ h => h) (HS.out _ HB6.out) (Or.inl ⟨by rfl, ?_⟩) ?_
                  rotate_left
                  · intro w' h; (try (obtain ⟨h0, h1⟩ := h)); go_simp; (first | rfl | rw [if_neg (by omega)])
                  (try simp only [Act.put, List.setIfInBounds_toArray, List.set_cons_zero, List.set_cons_succ])
                  refine anyT_do (i := 33) rfl (by kernel_rfl) rfl (fun K hK => ?_)
                  go_simp
                  refine hK _ _ (fun h => absurd rfl h) ?_
                  clear hK K
                  refine anyT_done (by kernel_rfl) ?_ _
                  go_wp2_with fail
                  go_ret
                  refine ⟨_, rfl, btr hb5 HB6.out hb5.size, ?_⟩
                  exact HFIN.out c _ (by simp [leadG])
              · skip
                go_simp
                (go_at_call 50; (refine (fixed_50_5v (25 + R.length) _ (by push_cast; omega) _ (by omega)).mono ?_); rintro e v9 ⟨rfl, hc9⟩)
                have HB9 := Lib.hid (btr HB1.out hc9 HB1.out.size)
                refine hK _ _ (fun _ => HS.out _ HB9.out) ?_
                clear hK K
                refine anyT_do (i := 12) rfl (by kernel_rfl) rfl (fun K hK => ?_)
                go_simp
                have HB10 : Hid (Below w5.heap.size w5 (v9.alloc (Obj.cells #[.int .u8 r.kind.toNat, .int .u8 r.level.toNat] 5))) := HB9.out.alloc HB9.out.size _
                have q10a : (v9.alloc (Obj.cells #[.int .u8 r.kind.toNat, .int .u8 r.level.toNat] 5)).cell? ⟨v9.heap.size, 0, none⟩ = some (.int .u8 r.kind.toNat) := (two_cells v9 _ _ 5).1
                have q10b : (v9.alloc (Obj.cells #[.int .u8 r.kind.toNat, .int .u8 r.level.toNat] 5)).cell? ⟨v9.heap.size, 1, none⟩ = some (.int .u8 r.level.toNat) := (two_cells v9 _ _ 5).2
                refine hK _ _ (fun _ => HS.out _ HB10.out) ?_
                clear hK K
                refine anyT_do (i := 13) rfl (by kernel_rfl) rfl (fun K hK => ?_)
                go_simp
                refine hK _ _ (fun _ => HS.out _ HB10.out) ?_
                clear hK K
                refine anyT_take (i := 14) (v := ?_) rfl (by kernel_rfl) (by kernel_rfl) (by kernel_rfl) (by kernel_rfl) (by decide) (fun _ _ _ h => h) (HS.out _ HB10.out) (Or.inl ⟨by rfl, ?_⟩) ?_
                rotate_left
                · intro w' h; (try (obtain ⟨h0, h1⟩ := h)); go_simp; (first | rfl | rw [if_neg (by omega)])
                (try simp only [Act.put, List.setIfInBounds_toArray, List.set_cons_zero, List.set_cons_succ])
                refine anyT_take (i := 16) (v := ?_) rfl (by kernel_rfl) (by kernel_rfl) (by kernel_rfl) (by kernel_rfl) (by decide) (fun _ _ _ h => h) (HS.out _ HB10.out) (Or.inl ⟨by rfl, ?_⟩) ?_
                rotate_left
                · intro w' h; (try (obtain ⟨h0, h1⟩ := h)); go_simp; (first | rfl | rw [if_neg (by omega)])
                (try simp only [Act.put, List.setIfInBounds_toArray, List.set_cons_zero, List.set_cons_succ])
                refine anyT_take (i := 17) (v := ?_) rfl (by kernel_rfl) (by kernel_rfl) (by kernel_rfl) (by kernel_rfl) (by decide) (fun _ _ _ h => h) (HS.out _ HB10.out) (Or.inl ⟨by rfl, ?_⟩) ?_
                rotate_left
                · intro w' h; (try (obtain ⟨h0, h1⟩ := h)); go_simp; (first | rfl | rw [if_neg (by omega)])
                (try simp only [Act.put, List.setIfInBounds_toArray, List.set_cons_zero, List.set_cons_succ])
                refine anyT_take (i := 20) (v := ?_) rfl (by kernel_rfl) (by kernel_rfl) (by kernel_rfl) (by kernel_rfl) (by decide) (fun _ _ _ h => h) (HS.out _ HB10.out) (Or.inl ⟨by rfl, ?_⟩) ?_
                rotate_left
                · intro w' h; (try (obtain ⟨h0, h1⟩ := h)); go_simp; (first | rfl | rw [if_neg (by omega)])
                (try simp only [Act.put, List.setIfInBounds_toArray, List.set_cons_zero, List.set_cons_succ])
                refine anyT_take (i := 22) (v := ?_) rfl (by kernel_rfl) (by kernel_rfl) (by kernel_rfl) (by kernel_rfl) (by decide) (fun _ _ _ h => h) (HS.out _ HB10.out) (Or.inl ⟨by rfl, ?_⟩) ?_
                rotate_left
                · intro w' h; (try (obtain ⟨h0, h1⟩ := h)); go_simp; (first | rfl | rw [if_neg (by omega)])
                (try simp only [Act.put, List.setIfInBounds_toArray, List.set_cons_zero, List.set_cons_succ])
                refine anyT_take (i := 23) (v := ?_) rfl (by kernel_rfl) (by kernel_rfl) (by kernel_rfl) (by kernel_rfl) (by decide) (fun _ _ _ h => h) (HS.out _ HB10.out) (Or.inl ⟨by rfl, ?_⟩) ?_
                rotate_left
                · intro w' h; (try (obtain ⟨h0, h1⟩ := h)); go_simp; (first | rfl | rw [if_neg (by omega)])
                (try simp only [Act.put, List.setIfInBounds_toArray, List.set_cons_zero, List.set_cons_succ])
                refine anyT_take (i := 25) (v := ?_) rfl (by kernel_rfl) (by kernel_rfl) (by kernel_rfl) (by kernel_rfl) (by decide) (fun _ _ _ h => h) (HS.out _ HB10.out) (Or.inl ⟨by rfl, ?_⟩) ?_
                rotate_left
                · intro w' h; (try (obtain ⟨h0, h1⟩ := h)); go_simp; (first | rfl | rw [if_neg (by omega)])
                (try simp only [Act.put, List.setIfInBounds_toArray, List.set_cons_zero, List.set_cons_succ])
                refine anyT_take (i := 26) (v := ?_) rfl (by kernel_rfl) (by kernel_rfl) (by kernel_rfl) (by kernel_rfl) (by decide) (fun _ _ _ h => h) (HS.out _ HB10.out) (Or.inl ⟨by rfl, ?_⟩) ?_
                rotate_left
                · intro w' h; (try (obtain ⟨h0, h1⟩ := h)); go_simp; (first | rfl | rw [if_neg (by omega)])
                (try simp only [Act.put, List.setIfInBounds_toArray, List.set_cons_zero, List.set_cons_succ])
                refine anyT_take (i := 28) (v := ?_) rfl (by kernel_rfl) (by kernel_rfl) (by kernel_rfl) (by kernel_rfl) (by decide) (fun _ _ _ h => h) (HS.out _ HB10.out) (Or.inl ⟨by rfl, ?_⟩) ?_
                rotate_left
                · intro w' h; (try (obtain ⟨h0, h1⟩ := h)); go_simp; (first | rfl | rw [if_neg (by omega)])
                (try simp only [Act.put, List.setIfInBounds_toArray, List.set_cons_zero, List.set_cons_succ])
                refine anyT_take (i := 29) (v := ?_) rfl (by kernel_rfl) (by kernel_rfl) (by kernel_rfl) (by kernel_rfl) (by decide) (fun _ _ _ h => h) (HS.out _ HB10.out) (Or.inl ⟨by rfl, ?_⟩) ?_
                rotate_left
                · intro w' h; (try (obtain ⟨h0, h1⟩ := h)); go_simp; (first | rfl | rw [if_neg (by omega)])
                (try simp only [Act.put, List.setIfInBounds_toArray, List.set_cons_zero, List.set_cons_succ])
                refine anyT_take (i := 31) (v := ?_) rfl (by kernel_rfl) (by kernel_rfl) (by kernel_rfl) (by kernel_rfl) (by decide) (fun _ _ _ h => h) (HS.out _ HB10.out) (Or.inl ⟨by rfl, ?_⟩) ?_
                rotate_left
                · intro w' h; (try (obtain ⟨h0, h1⟩ := h)); go_simp; (first | rfl | rw [if_neg (by omega)])
                (try simp only [Act.put, List.setIfInBounds_toArray, List.set_cons_zero, List.set_cons_succ])
                refine anyT_take (i := 32) (v := ?_) rfl (by kernel_rfl) (by kernel_rfl) (by kernel_rfl) (by kernel_rfl) (by decide) (fun _ _ _ h => h) (HS.out _ HB10.out) (Or.inl ⟨by rfl, ?_⟩) ?_
                rotate_left
                · intro w' h; (try (obtain ⟨h0, h1⟩ := h)); go_simp; (first | rfl | rw [if_neg (by omega)])
                (try simp only [Act.put, List.setIfInBounds_toArray, List.set_cons_zero, List.set_cons_succ])
                refine anyT_do (i := 33) rfl (by kernel_rfl) rfl (fun K hK => ?_)
                go_simp
                refine hK _ _ (fun h => absurd rfl h) ?_
                clear hK K
                refine anyT_done (by kernel_rfl) ?_ _
                go_wp2_with fail
                go_ret
                refine ⟨_, rfl, btr hb5 HB10.out hb5.size, ?_⟩
                exact HFIN.out c _ (by simp [leadG])
            · skip
              go_simp
              have HB13 : Hid (Below w5.heap.size w5 (w5.drew.alloc (Obj.cells #[.int .u8 r.kind.toNat, .int .u8 r.level.toNat] 5))) := HB0.out.alloc HB0.out.size _
              have q13a : (w5.drew.alloc (Obj.cells #[.int .u8 r.kind.toNat, .int .u8 r.level.toNat] 5)).cell? ⟨w5.heap.size, 0, none⟩ = some (.int .u8 r.kind.toNat) := (two_cells w5.drew _ _ 5).1
              have q13b : (w5.drew.alloc (Obj.cells #[.int .u8 r.kind.toNat, .int .u8 r.level.toNat] 5)).cell? ⟨w5.heap.size, 1, none⟩ = some (.int .u8 r.level.toNat) := (two_cells w5.drew _ _ 5).2
              refine hK _ _ (fun _ => HS.out _ HB13.out) ?_
              clear hK K
              refine anyT_two (i := 5) (j := 13) rfl rfl (by kernel_rfl) rfl rfl (fun K hK => ?_) (fun K hK => ?_)
              · skip
                go_simp
                (go_at_call 50; (refine (fixed_50_5v (25 + R.length + D.length + 1) _ (by push_cast; omega) _ (by omega)).mono ?_); rintro e v14 ⟨rfl, hc14⟩)
                have HB14 := Lib.hid (btr HB13.out hc14 HB13.out.size)
                have q14a : v14.cell? ⟨w5.heap.size, 0, none⟩ = some (.int .u8 r.kind.toNat) := (hc14.cell (p := ⟨w5.heap.size, 0, none⟩) (cell_lt q13a)).trans q13a
                have q14b : v14.cell? ⟨w5.heap.size, 1, none⟩ = some (.int .u8 r.level.toNat) := (hc14.cell (p := ⟨w5.heap.size, 1, none⟩) (cell_lt q13b)).trans q13b
                refine hK _ _ (fun _ => HS.out _ HB14.out) ?_
                clear hK K
                refine anyT_take (i := 7) (v := ?_) rfl (by kernel_rfl) (by kernel_rfl) (by kernel_rfl) (by kernel_rfl) (by decide) (fun _ _ _ h => h) (HS.out _ HB14.out) (Or.inl ⟨by rfl, ?_⟩) ?_
                rotate_left
                · intro w' h; (try (obtain ⟨h0, h1⟩ := h)); go_simp; (first | rfl | rw [if_neg (by omega)])
                (try simp only [Act.put, List.setIfInBounds_toArray, List.set_cons_zero, List.set_cons_succ])
                refine anyT_two (i := 13) (j := 19) rfl rfl (by kernel_rfl) rfl rfl (fun K hK => ?_) (fun K hK => ?_)
                · skip
                  go_simp
                  refine hK _ _ (fun _ => HS.out _ HB14.out) ?_
                  clear hK K
                  refine anyT_take (i := 14) (v := ?_) rfl (by kernel_rfl) (by kernel_rfl) (by kernel_rfl) (by kernel_rfl) (by decide) (fun _ _ _ h => h) (HS.out _ HB14.out) (Or.inl ⟨by rfl, ?_⟩) ?_
                  rotate_left
                  · intro w' h; (try (obtain ⟨h0, h1⟩ := h)); go_simp; (first | rfl | rw [if_neg (by omega)])
                  (try simp only [Act.put, List.setIfInBounds_toArray, List.set_cons_zero, List.set_cons_succ])
                  refine anyT_take (i := 16) (v := ?_) rfl (by kernel_rfl) (by kernel_rfl) (by kernel_rfl) (by kernel_rfl) (by decide) (fun _ _ _ h => h) (HS.out _ HB14.out) (Or.inl ⟨by rfl, ?_⟩) ?_
                  rotate_left
                  · intro w' h; (try (obtain ⟨h0, h1⟩ := h)); go_simp; (first | rfl | rw [if_neg (by omega)])
                  (try simp only [Act.put, List.setIfInBounds_toArray, List.set_cons_zero, List.set_cons_succ])
                  refine anyT_take (i := 17) (v := ?_) rfl (by kernel_rfl) (by kernel_rfl) (by kernel_rfl) (by kernel_rfl) (by decide) (fun _ _ _ h => h) (HS.out _ HB14.out) (Or.inl ⟨by rfl, ?_⟩) ?_
                  rotate_left
                  · intro w' h; (try (obtain ⟨h0, h1⟩ := h)); go_simp; (first | rfl | rw [if_neg (by omega)])
                  (try simp only [Act.put, List.setIfInBounds_toArray, List.set_cons_zero, List.set_cons_succ])
                  refine anyT_do (i := 19) rfl (by kernel_rfl) rfl (fun K hK => ?_)
                  go_simp
                  (go_at_call 50; (refine (fixed_50_5v (25 + R.length) _ (by push_cast; omega) _ (by omega)).mono ?_); rintro e v16 ⟨rfl, hc16⟩)
                  have HB16 := Lib.hid (btr HB14.out hc16 HB14.out.size)
                  have q16a : v16.cell? ⟨w5.heap.size, 0, none⟩ = some (.int .u8 r.kind.toNat) := (hc16.cell (p := ⟨w5.heap.size, 0, none⟩) (cell_lt q14a)).trans q14a
                  have q16b : v16.cell? ⟨w5.heap.size, 1, none⟩ = some (.int .u8 r.level.toNat) := (hc16.cell (p := ⟨w5.heap.size, 1, none⟩) (cell_lt q14b)).trans q14b
                  refine hK _ _ (fun _ => HS.out _ HB16.out) ?_
                  clear hK K
                  refine anyT_take (i := 20) (v := ?_) rfl (by kernel_rfl) (by kernel_rfl) (by kernel_rfl) (by kernel_rfl) (by decide) (fun _ _ _ h => h) (HS.out _ HB16.out) (Or.inl ⟨by rfl, ?_⟩) ?_
                  rotate_left
                  · intro w' h; (try (obtain ⟨h0, h1⟩ := h)); go_simp; (first | rfl | rw [if_neg (by omega)])
                  (try simp only [Act.put, List.setIfInBounds_toArray, List.set_cons_zero, List.set_cons_succ])
                  refine anyT_take (i := 22) (v := ?_) rfl (by kernel_rfl) (by kernel_rfl) (by kernel_rfl) (by kernel_rfl) (by decide) (fun _ _ _ h => h) (HS.out _ HB16.out) (Or.inl ⟨by rfl, ?_⟩) ?_
                  rotate_left
                  · intro w' h; (try (obtain ⟨h0, h1⟩ := h)); go_simp; (first | rfl | rw [if_neg (by omega)])
                  (try simp only [Act.put, List.setIfInBounds_toArray, List.set_cons_zero, List.set_cons_succ])
                  refine anyT_take (i := 23) (v := ?_) rfl (by kernel_rfl) (by kernel_rfl) (by kernel_rfl) (by kernel_rfl) (by decide) (fun _ _ _ h => h) (HS.out _ HB16.out) (Or.inl ⟨by rfl, ?_⟩) ?_
                  rotate_left
                  · intro w' h; (try (obtain ⟨h0, h1⟩ := h)); go_simp; (first | rfl | rw [if_neg (by omega)])
                  (try simp only [Act.put, List.setIfInBounds_toArray, List.set_cons_zero, List.set_cons_succ])
                  refine anyT_take (i := 25) (v := ?_) rfl (by kernel_rfl) (by kernel_rfl) (by kernel_rfl) (by kernel_rfl) (by decide) (fun _ _ _ h => h) (HS.out _ HB16.out) (Or.inl ⟨by rfl, ?_⟩) ?_
                  rotate_left
                  · intro w' h; (try (obtain ⟨h0, h1⟩ := h)); go_simp; (first | rfl | rw [if_neg (by omega)])
                  (try simp only [Act.put, List.setIfInBounds_toArray, List.set_cons_zero, List.set_cons_succ])
                  refine anyT_take (i := 26) (v := ?_) rfl (by kernel_rfl) (by kernel_rfl) (by kernel_rfl) (by kernel_rfl) (by decide) (fun _ _ _ h => h) (HS.out _ HB16.out) (Or.inl ⟨by rfl, ?_⟩) ?_
                  rotate_left
                  · intro w' h; (try (obtain ⟨h0, h1⟩ := h)); go_simp; (first | rfl | rw [if_neg (by omega)])
                  (try simp only [Act.put, List.setIfInBounds_toArray, List.set_cons_zero, List.set_cons_succ])
                  refine anyT_take (i := 28) (v := ?_) rfl (by kernel_rfl) (by kernel_rfl) (by kernel_rfl) (by kernel_rfl) (by decide) (fun _ _ _ h => h) (HS.out _ HB16.out) (Or.inl ⟨by rfl, ?_⟩) ?_
                  rotate_left
                  · intro w' h; (try (obtain ⟨h0, h1⟩ := h)); go_simp; (first | rfl | rw [if_neg (by omega)])
                  (try simp only [Act.put, List.setIfInBounds_toArray, List.set_cons_zero, List.set_cons_succ])
                  refine anyT_take (i := 29) (v := ?_) rfl (by kernel_rfl) (by kernel_rfl) (by kernel_rfl) (by kernel_rfl) (by decide) (fun _ _ _ h => h) (HS.out _ HB16.out) (Or.inl ⟨by rfl, ?_⟩) ?_
                  rotate_left
                  · intro w' h; (try (obtain ⟨h0, h1⟩ := h)); go_simp; (first | rfl | rw [if_neg (by omega)])
                  (try simp only [Act.put, List.setIfInBounds_toArray, List.set_cons_zero, List.set_cons_succ])
                  refine anyT_take (i := 31) (v := ?_) rfl (by kernel_rfl) (by kernel_rfl) (by kernel_rfl) (by kernel_rfl) (by decide) (fun _ _ _ h => h) (HS.out _ HB16.out) (Or.inl ⟨by rfl, ?_⟩) ?_
                  rotate_left
                  · intro w' h; (try (obtain ⟨h0, h1⟩ := h)); go_simp; (first | rfl | rw [if_neg (by omega)])
                  (try simp only [Act.put, List.setIfInBounds_toArray, List.set_cons_zero, List.set_cons_succ])
                  refine anyT_take (i := 32) (v := ?_) rfl (by kernel_rfl) (by kernel_rfl) (by kernel_rfl) (by kernel_rfl) (by decide) (fun _ _ _ h => h) (HS.out _ HB16.out) (Or.inl ⟨by rfl, ?_⟩) ?_
                  rotate_left
                  · intro w' h; (try (obtain ⟨h0, h1⟩ := h)); go_simp; (first | rfl | rw [if_neg (by omega)])
                  (try simp only [Act.put, List.setIfInBounds_toArray, List.set_cons_zero, List.set_cons_succ])
                  refine anyT_do (i := 33) rfl (by kernel_rfl) rfl (fun K hK => ?_)
                  go_simp
                  refine hK _ _ (fun h => absurd rfl h) ?_
                  clear hK K
                  refine anyT_done (by kernel_rfl) ?_ _
                  go_wp2_with fail
                  go_ret
                  refine ⟨_, rfl, btr hb5 HB16.out hb5.size, ?_⟩
                  exact HFIN.out c _ (by simp [leadG])
                · skip
                  go_simp
                  (go_at_call 50; (refine (fixed_50_5v (25 + R.length) _ (by push_cast; omega) _ (by omega)).mono ?_); rintro e v18 ⟨rfl, hc18⟩)
                  have HB18 := Lib.hid (btr HB14.out hc18 HB14.out.size)
                  have q18a : v18.cell? ⟨w5.heap.size, 0, none⟩ = some (.int .u8 r.kind.toNat) := (hc18.cell (p := ⟨w5.heap.size, 0, none⟩) (cell_lt q14a)).trans q14a
                  have q18b : v18.cell? ⟨w5.heap.size, 1, none⟩ = some (.int .u8 r.level.toNat) := (hc18.cell (p := ⟨w5.heap.size, 1, none⟩) (cell_lt q14b)).trans q14b
                  refine hK _ _ (fun _ => HS.out _ HB18.out) ?_
                  clear hK K
                  refine anyT_do (i := 13) rfl (by kernel_rfl) rfl (fun K hK => ?_)
                  go_simp
                  refine hK _ _ (fun _ => HS.out _ HB18.out) ?_
                  clear hK K
                  refine anyT_take (i := 14) (v := ?_) rfl (by kernel_rfl) (by kernel_rfl) (by kernel_rfl) (by kernel_rfl) (by decide) (fun _ _ _ h => h) (HS.out _ HB18.out) (Or.inl ⟨by rfl, ?_⟩) ?_
                  rotate_left
                  · intro w' h; (try (obtain ⟨h0, h1⟩ := h)); go_simp; (first | rfl | rw [if_neg (by omega)])
                  (try simp only [Act.put, List.setIfInBounds_toArray, List.set_cons_zero, List.set_cons_succ])
                  refine anyT_take (i := 16) (v := ?_) rfl (by kernel_rfl) (by kernel_rfl) (by kernel_rfl) (by kernel_rfl) (by decide) (fun _ _ _ h => h) (HS.out _ HB18.out) (Or.inl ⟨by rfl, ?_⟩) ?_
                  rotate_left
                  · intro w' h; (try (obtain ⟨h0, h1⟩ := h)); go_simp; (first | rfl | rw [if_neg (by omega)])
                  (try simp only [Act.put, List.setIfInBounds_toArray, List.set_cons_zero, List.set_cons_succ])
                  refine anyT_take (i := 17) (v := ?_) rfl (by kernel_rfl) (by kernel_rfl) (by kernel_rfl) (by kernel_rfl) (by decide) (fun _ _ _ h => h) (HS.out _ HB18.out) (Or.inl ⟨by rfl, ?_⟩) ?_
                  rotate_left
                  · intro w' h; (try (obtain ⟨h0, h1⟩ := h)); go_simp; (first | rfl | rw [if_neg (by omega)])
                  (try simp only [Act.put, List.setIfInBounds_toArray, List.set_cons_zero, List.set_cons_succ])
                  refine anyT_take (i := 20) (v := ?_) rfl (by kernel_rfl) (by kernel_rfl) (by kernel_rfl) (by kernel_rfl) (by decide) (fun _ _ _ h => h) (HS.out _ HB18.out) (Or.inl ⟨by rfl, ?_⟩) ?_
                  rotate_left
                  · intro w' h; (try (obtain ⟨h0, h1⟩ := h)); go_simp; (first | rfl | rw [if_neg (by omega)])
                  (try simp only [Act.put, List.setIfInBounds_toArray, List.set_cons_zero, List.set_cons_succ])
                  refine anyT_take (i := 22) (v := ?_) rfl (by kernel_rfl) (by kernel_rfl) (by kernel_rfl) (by kernel_rfl) (by decide) (fun _ _ _ h => h) (HS.out _ HB18.out) (Or.inl ⟨by rfl, ?_⟩) ?_
                  rotate_left
                  · intro w' h; (try (obtain ⟨h0, h1⟩ := h)); go_simp; (first | rfl | rw [if_neg (by omega)])
                  (try simp only [Act.put, List.setIfInBounds_toArray, List.set_cons_zero, List.set_cons_succ])
                  refine anyT_take (i := 23) (v := ?_) rfl (by kernel_rfl) (by kernel_rfl) (by kernel_rfl) (by kernel_rfl) (by decide) (fun _ _ _ h => h) (HS.out _ HB18.out) (Or.inl ⟨by rfl, ?_⟩) ?_
                  rotate_left
                  · intro w' h; (try (obtain ⟨h0, h1⟩ := h)); go_simp; (first | rfl | rw [if_neg (by omega)])
                  (try simp only [Act.put, List.setIfInBounds_toArray, List.set_cons_zero, List.set_cons_succ])
                  refine anyT_take (i := 25) (v := ?_) rfl (by kernel_rfl) (by kernel_rfl) (by kernel_rfl) (by kernel_rfl) (by decide) (fun _ _ _ h => h) (HS.out _ HB18.out) (Or.inl ⟨by rfl, ?_⟩) ?_
                  rotate_left
                  · intro w' h; (try (obtain ⟨h0, h1⟩ := h)); go_simp; (first | rfl | rw [if_neg (by omega)])
                  (try simp only [Act.put, List.setIfInBounds_toArray, List.set_cons_zero, List.set_cons_succ])
                  refine anyT_take (i := 26) (v := ?_) rfl (by kernel_rfl) (by kernel_rfl) (by kernel_rfl) (by kernel_rfl) (by decide) (fun _ _ _ h => h) (HS.out _ HB18.out) (Or.inl ⟨by rfl, ?_⟩) ?_
                  rotate_left
                  · intro w' h; (try (obtain ⟨h0, h1⟩ := h)); go_simp; (first | rfl | rw [if_neg (by omega)])
                  (try simp only [Act.put, List.setIfInBounds_toArray, List.set_cons_zero, List.set_cons_succ])
                  refine anyT_take (i := 28) (v := ?_) rfl (by kernel_rfl) (by kernel_rfl) (by kernel_rfl) (by kernel_rfl) (by decide) (fun _ _ _ h => h) (HS.out _ HB18.out) (Or.inl ⟨by rfl, ?_⟩) ?_
                  rotate_left
                  · intro w' h; (try (obtain ⟨h0, h1⟩ := h)); go_simp; (first | rfl | rw [if_neg (by omega)])
                  (try simp only [Act.put, List.setIfInBounds_toArray, List.set_cons_zero, List.set_cons_succ])
                  refine anyT_take (i := 29) (v := ?_) rfl (by kernel_rfl) (by kernel_rfl) (by kernel_rfl) (by kernel_rfl) (by decide) (fun _ _ _ h => h) (HS.out _ HB18.out) (Or.inl ⟨by rfl, ?_⟩) ?_
                  rotate_left
                  · intro w' h; (try (obtain ⟨h0, h1⟩ := h)); go_simp; (first | rfl | rw [if_neg (by omega)])
                  (try simp only [Act.put, List.setIfInBounds_toArray, List.set_cons_zero, List.set_cons_succ])
                  refine anyT_take (i := 31) (v := ?_) rfl (by kernel_rfl) (by kernel_rfl) (by kernel_rfl) (by kernel_rfl) (by decide) (fun _ _ _ h => h) (HS.out _ HB18.out) (Or.inl ⟨by rfl, ?_⟩) ?_
                  rotate_left
                  · intro w' h; (try (obtain ⟨h0, h1⟩ := h)); go_simp; (first | rfl | rw [if_neg (by omega)])
                  (try simp only [Act.put, List.setIfInBounds_toArray, List.set_cons_zero, List.set_cons_succ])
                  refine anyT_take (i := 32) (v := ?_) rfl (by kernel_rfl) (by kernel_rfl) (by kernel_rfl) (by kernel_rfl) (by decide) (fun _ _ _ h => h) (HS.out _ HB18.out) (Or.inl ⟨by rfl, ?_⟩) ?_
                  rotate_left
                  · intro w' h; (try (obtain ⟨h0, h1⟩ := h)); go_simp; (first | rfl | rw [if_neg (by omega)])
                  (try simp only [Act.put, List.setIfInBounds_toArray, List.set_cons_zero, List.set_cons_succ])
                  refine anyT_do (i := 33) rfl (by kernel_rfl) rfl (fun K hK => ?_)
                  go_simp
                  refine hK _ _ (fun h => absurd rfl h) ?_
                  clear hK K
                  refine anyT_done (by kernel_rfl) ?_ _
                  go_wp2_with fail
                  go_ret
                  refine ⟨_, rfl, btr hb5 HB18.out hb5.size, ?_⟩
                  exact HFIN.out c _ (by simp [leadG])
              · skip
                go_simp
                refine hK _ _ (fun _ => HS.out _ HB13.out) ?_
                clear hK K
                refine anyT_do (i := 5) rfl (by kernel_rfl) rfl (fun K hK => ?_)
                go_simp
                (go_at_call 50; (refine (fixed_50_5v (25 + R.length + D.length + 1) _ (by push_cast; omega) _ (by omega)).mono ?_); rintro e v22 ⟨rfl, hc22⟩)
                have HB22 := Lib.hid (btr HB13.out hc22 HB13.out.size)
                have q22a : v22.cell? ⟨w5.heap.size, 0, none⟩ = some (.int .u8 r.kind.toNat) := (hc22.cell (p := ⟨w5.heap.size, 0, none⟩) (cell_lt q13a)).trans q13a
                have q22b : v22.cell? ⟨w5.heap.size, 1, none⟩ = some (.int .u8 r.level.toNat) := (hc22.cell (p := ⟨w5.heap.size, 1, none⟩) (cell_lt q13b)).trans q13b
                refine hK _ _ (fun _ => HS.out _ HB22.out) ?_
                clear hK K
                refine anyT_take (i := 7) (v := ?_) rfl (by kernel_rfl) (by kernel_rfl) (by kernel_rfl) (by kernel_rfl) (by decide) (fun _ _ _ h => h) (HS.out _ HB22.out) (Or.inl ⟨by rfl, ?_⟩) ?_
                rotate_left
                · intro w' h; (try (obtain ⟨h0, h1⟩ := h)); go_simp; (first | rfl | rw [if_neg (by omega)])
                (try simp only [Act.put, List.setIfInBounds_toArray, List.set_cons_zero, List.set_cons_succ])
                refine anyT_take (i := 14) (v := ?_) rfl (by kernel_rfl) (by kernel_rfl) (by kernel_rfl) (by kernel_rfl) (by decide) (fun _ _ _ h => h) (HS.out _ HB22.out) (Or.inl ⟨by rfl, ?_⟩) ?_
                rotate_left
                · intro w' h; (try (obtain ⟨h0, h1⟩ := h)); go_simp; (first | rfl | rw [if_neg (by omega)])
                (try simp only [Act.put, List.setIfInBounds_toArray, List.set_cons_zero, List.set_cons_succ])
                refine anyT_take (i := 16) (v := ?_) rfl (by kernel_rfl) (by kernel_rfl) (by kernel_rfl) (by kernel_rfl) (by decide) (fun _ _ _ h => h) (HS.out _ HB22.out) (Or.inl ⟨by rfl, ?_⟩) ?_
                rotate_left
                · intro w' h; (try (obtain ⟨h0, h1⟩ := h)); go_simp; (first | rfl | rw [if_neg (by omega)])
                (try simp only [Act.put, List.setIfInBounds_toArray, List.set_cons_zero, List.set_cons_succ])
                refine anyT_take (i := 17) (v := ?_) rfl (by kernel_rfl) (by kernel_rfl) (by kernel_rfl) (by kernel_rfl) (by decide) (fun _ _ _ h => h) (HS.out _ HB22.out) (Or.inl ⟨by rfl, ?_⟩) ?_
                rotate_left
                · intro w' h; (try (obtain ⟨h0, h1⟩ := h)); go_simp; (first | rfl | rw [if_neg (by omega)])
                (try simp only [Act.put, List.setIfInBounds_toArray, List.set_cons_zero, List.set_cons_succ])
                refine anyT_do (i := 19) rfl (by kernel_rfl) rfl (fun K hK => ?_)
                go_simp
                (go_at_call 50; (refine (fixed_50_5v (25 + R.length) _ (by push_cast; omega) _ (by omega)).mono ?_); rintro e v23 ⟨rfl, hc23⟩)
                have HB23 := Lib.hid (btr HB22.out hc23 HB22.out.size)
                have q23a : v23.cell? ⟨w5.heap.size, 0, none⟩ = some (.int .u8 r.kind.toNat) := (hc23.cell (p := ⟨w5.heap.size, 0, none⟩) (cell_lt q22a)).trans q22a
                have q23b : v23.cell? ⟨w5.heap.size, 1, none⟩ = some (.int .u8 r.level.toNat) := (hc23.cell (p := ⟨w5.heap.size, 1, none⟩) (cell_lt q22b)).trans q22b
                refine hK _ _ (fun _ => HS.out _ HB23.out) ?_
                clear hK K
                refine anyT_take (i := 20) (v := ?_) rfl (by kernel_rfl) (by kernel_rfl) (by kernel_rfl) (by kernel_rfl) (by decide) (fun _ _ _ h => h) (HS.out _ HB23.out) (Or.inl ⟨by rfl, ?_⟩) ?_
                rotate_left
                · intro w' h; (try (obtain ⟨h0, h1⟩ := h)); go_simp; (first | rfl | rw [if_neg (by omega)])
                (try simp only [Act.put, List.setIfInBounds_toArray, List.set_cons_zero, List.set_cons_succ])
                refine anyT_take (i := 22) (v := ?_) rfl (by kernel_rfl) (by kernel_rfl) (by kernel_rfl) (by kernel_rfl) (by decide) (fun _ _ _ h => h) (HS.out _ HB23.out) (Or.inl ⟨by rfl, ?_⟩) ?_
                rotate_left
                · intro w' h; (try (obtain ⟨h0, h1⟩ := h)); go_simp; (first | rfl | rw [if_neg (by omega)])
                (try simp only [Act.put, List.setIfInBounds_toArray, List.set_cons_zero, List.set_cons_succ])
                refine anyT_take (i := 23) (v := ?_) rfl (by kernel_rfl) (by kernel_rfl) (by kernel_rfl) (by kernel_rfl) (by decide) (fun _ _ _ h => h) (HS.out _ HB23.out) (Or.inl ⟨by rfl, ?_⟩) ?_
                rotate_left
                · intro w' h; (try (obtain ⟨h0, h1⟩ := h)); go_simp; (first | rfl | rw [if_neg (by omega)])
                (try simp only [Act.put, List.setIfInBounds_toArray, List.set_cons_zero, List.set_cons_succ])
                refine anyT_take (i := 25) (v := ?_) rfl (by kernel_rfl) (by kernel_rfl) (by kernel_rfl) (by kernel_rfl) (by decide) (fun _ _ _ h => h) (HS.out _ HB23.out) (Or.inl ⟨by rfl, ?_⟩) ?_
                rotate_left
                · intro w' h; (try (obtain ⟨h0, h1⟩ := h)); go_simp; (first | rfl | rw [if_neg (by omega)])
                (try simp only [Act.put, List.setIfInBounds_toArray, List.set_cons_zero, List.set_cons_succ])
                refine anyT_take (i := 26) (v := ?_) rfl (by kernel_rfl) (by kernel_rfl) (by kernel_rfl) (by kernel_rfl) (by decide) (fun _ _ _ h => h) (HS.out _ HB23.out) (Or.inl ⟨by rfl, ?_⟩) ?_
                rotate_left
                · intro w' h; (try (obtain ⟨h0, h1⟩ := h)); go_simp; (first | rfl | rw [if_neg (by omega)])
                (try simp only [Act.put, List.setIfInBounds_toArray, List.set_cons_zero, List.set_cons_succ])
                refine anyT_take (i := 28) (v := ?_) rfl (by kernel_rfl) (by kernel_rfl) (by kernel_rfl) (by kernel_rfl) (by decide) (fun _ _ _ h => h) (HS.out _ HB23.out) (Or.inl ⟨by rfl, ?_⟩) ?_
                rotate_left
                · intro w' h; (try (obtain ⟨h0, h1⟩ := h)); go_simp; (first | rfl | rw [if_neg (by omega)])
                (try simp only [Act.put, List.setIfInBounds_toArray, List.set_cons_zero, List.set_cons_succ])
                refine anyT_take (i := 29) (v := ?_) rfl (by kernel_rfl) (by kernel_rfl) (by kernel_rfl) (by kernel_rfl) (by decide) (fun _ _ _ h => h) (HS.out _ HB23.out) (Or.inl ⟨by rfl, ?_⟩) ?_
                rotate_left
                · intro w' h; (try (obtain ⟨h0, h1⟩ := h)); go_simp; (first | rfl | rw [if_neg (by omega)])
                (try simp only [Act.put, List.setIfInBounds_toArray, List.set_cons_zero, List.set_cons_succ])
                refine anyT_take (i := 31) (v := ?_) rfl (by kernel_rfl) (by kernel_rfl) (by kernel_rfl) (by kernel_rfl) (by decide) (fun _ _ _ h => h) (HS.out _ HB23.out) (Or.inl ⟨by rfl, ?_⟩) ?_
                rotate_left
                · intro w' h; (try (obtain ⟨h0, h1⟩ := h)); go_simp; (first | rfl | rw [if_neg (by omega)])
                (try simp only [Act.put, List.setIfInBounds_toArray, List.set_cons_zero, List.set_cons_succ])
                refine anyT_take (i := 32) (v := ?_) rfl (by kernel_rfl) (by kernel_rfl) (by kernel_rfl) (by kernel_rfl) (by decide) (fun _ _ _ h => h) (HS.out _ HB23.out) (Or.inl ⟨by rfl, ?_⟩) ?_
                rotate_left
                · intro w' h; (try (obtain ⟨h0, h1⟩ := h)); go_simp; (first | rfl | rw [if_neg (by omega)])
                (try simp only [Act.put, List.setIfInBounds_toArray, List.set_cons_zero, List.set_cons_succ])
                refine anyT_do (i := 33) rfl (by kernel_rfl) rfl (fun K hK => ?_)
                go_simp
                refine hK _ _ (fun h => absurd rfl h) ?_
                clear hK K
                refine anyT_done (by kernel_rfl) ?_ _
                go_wp2_with fail
                go_ret
                refine ⟨_, rfl, btr hb5 HB23.out hb5.size, ?_⟩
                exact HFIN.out c _ (by simp [leadG])
end Go.Proofs.YtfkleeigdplapaaDoor
