/-
  The walk of the reference's Cut.
-/
import Derived.Test.YtgdkdihedgiegaaDoorV21
import Derived.Deep.DeepCutAuto
namespace Go.Proofs.YtgdkdihedgiegaaDoor
open Go.RowKit

def cutsR (tl : List Bs) : List Bs := (tl.take 4).map (·.take 90)
theorem cuts_snoc (tl : List Bs) (k : Nat) (h : k < tl.length) : (tl.take (k + 1)).map (·.take 90) = (tl.take k).map (·.take 90) ++ [tl[k].take 90] := by
  rw [List.take_succ_eq_append_getElem h, List.map_append]; rfl
/-- Two blocks are made. -/
theorem boxes2 (w : World) (x y : Array Value) (t1 t2 : TypeId) : ∃ W, ((w.alloc (.cells x t1)).alloc (.cells y t2)) = W ∧ Below w.heap.size w W ∧ W.heap.size = w.heap.size + 2 ∧
    (∀ i v, x[i]? = some v → W.cell? ⟨w.heap.size, i, none⟩ = some v) ∧ (∀ i v, y[i]? = some v → W.cell? ⟨w.heap.size + 1, i, none⟩ = some v) ∧ (∀ i, W.frozen? ⟨w.heap.size + 1, i, none⟩ = false) := by
  have e1 : (w.alloc (.cells x t1)).heap.size = w.heap.size + 1 := by simp
  have hb0 := alloc_below w (.cells x t1)
  have hb1 := btr hb0 (alloc_below _ (.cells y t2)) hb0.size
  have h0 : ((w.alloc (.cells x t1)).alloc (.cells y t2)).heap[w.heap.size + 1]? = some (.cells y t2) := by
    have := heap_alloc_new (w.alloc (.cells x t1)) (.cells y t2)
    rwa [e1] at this
  have h3 : ((w.alloc (.cells x t1)).alloc (.cells y t2)).heap[w.heap.size]? = some (.cells x t1) := by
    rw [Below.heap_alloc _ _ _ (by rw [e1]; omega)]
    exact heap_alloc_new w (.cells x t1)
  refine ⟨_, rfl, hb1, by simp, fun i v hv => ?_, fun i v hv => ?_, fun i => ?_⟩
  · exact (Lib.cell_of_heap h3 i).trans hv
  · exact (Lib.cell_of_heap h0 i).trans hv
  · exact Lib.frozen_of_heap h0 i
/-- The third block, filled. -/
theorem cutbox (W1 : World) (B : Nat) (hsz : W1.heap.size = B + 2) (m : Int) (tx : Bs) : ∃ W2, (W1.alloc (.cells #[.int .i64 m, S tx, .slice none 0 0] 34)).drew = W2 ∧
    W2.cell? ⟨B + 2, 0, none⟩ = some (.int .i64 m) ∧ W2.cell? ⟨B + 2, 1, none⟩ = some (S tx) ∧ W2.cell? ⟨B + 2, 2, none⟩ = some (.slice none 0 0) ∧ W2.frozen? ⟨B + 2, 2, none⟩ = false ∧ Below (B + 2) W1 W2 ∧ W2.heap.size = B + 3 := by
  have h0 : (W1.alloc (.cells #[.int .i64 m, S tx, .slice none 0 0] 34)).drew.heap[B + 2]? = some (.cells #[.int .i64 m, S tx, .slice none 0 0] 34) := by
    have := heap_alloc_new W1 (.cells #[.int .i64 m, S tx, .slice none 0 0] 34)
    rwa [hsz] at this
  have hb := (alloc_below W1 (.cells #[.int .i64 m, S tx, .slice none 0 0] 34)).drew
  rw [hsz] at hb
  exact ⟨_, rfl, Lib.cell_of_heap h0 0, Lib.cell_of_heap h0 1, Lib.cell_of_heap h0 2, Lib.frozen_of_heap h0 2, hb, by simp; exact hsz⟩
/-- What the loop holds. -/
structure CutInv (w wr : World) (k : Nat) (tl : List Bs) (tv : Value) (m : Int) (tx : Bs) (v : Value) : Prop where
  b : Below w.heap.size w wr
  c0 : wr.cell? ⟨w.heap.size, 2, none⟩ = some tv
  d0 : wr.cell? ⟨w.heap.size + 2, 0, none⟩ = some (.int .i64 m)
  d1 : wr.cell? ⟨w.heap.size + 2, 1, none⟩ = some (S tx)
  d2 : wr.cell? ⟨w.heap.size + 2, 2, none⟩ = some v
  f2 : wr.frozen? ⟨w.heap.size + 2, 2, none⟩ = false
  e0 : wr.cell? ⟨w.heap.size + 1, 0, none⟩ = some (.int .i64 0)
  e1 : wr.cell? ⟨w.heap.size + 1, 1, none⟩ = some (S [])
  e2 : wr.cell? ⟨w.heap.size + 1, 2, none⟩ = some (.slice none 0 0)
  g0 : wr.frozen? ⟨w.heap.size + 1, 0, none⟩ = false
  g1 : wr.frozen? ⟨w.heap.size + 1, 1, none⟩ = false
  g2 : wr.frozen? ⟨w.heap.size + 1, 2, none⟩ = false
  sz : w.heap.size + 3 ≤ wr.heap.size
  row : StrRow wr (w.heap.size + 3) v ((tl.take k).map (·.take 90))
theorem row_cap {w : World} {B e k n cap : Nat} {a : Option Addr} {m : Nat} {xs : List Value} (h : w.ownsRow B e k (.slice a n cap) m xs) : n ≤ cap := by
  rcases h.2 with ⟨he, _⟩ | ⟨g, cp, cur, he, _, _, hn, _⟩
  · injection he with _ h2 h3; omega
  · injection he with _ h2 h3; omega
theorem CutInv.outs {w wr : World} {k : Nat} {tl : List Bs} {tv : Value} {m : Int} {tx : Bs} {v : Value} (h : CutInv w wr k tl tv m tx v) : wr.cell? ⟨w.heap.size + 2, 0, none⟩ = some (.int .i64 m) ∧ wr.cell? ⟨w.heap.size + 2, 1, none⟩ = some (S tx) ∧ wr.cell? ⟨w.heap.size + 2, 2, none⟩ = some v ∧
    wr.cell? ⟨w.heap.size + 1, 0, none⟩ = some (.int .i64 0) ∧ wr.cell? ⟨w.heap.size + 1, 1, none⟩ = some (S []) ∧ wr.cell? ⟨w.heap.size + 1, 2, none⟩ = some (.slice none 0 0) ∧ wr.frozen? ⟨w.heap.size + 1, 0, none⟩ = false ∧ wr.frozen? ⟨w.heap.size + 1, 1, none⟩ = false ∧ wr.frozen? ⟨w.heap.size + 1, 2, none⟩ = false :=
  ⟨h.d0, h.d1, h.d2, h.e0, h.e1, h.e2, h.g0, h.g1, h.g2⟩
theorem store3 (W : World) (b : Nat) (v0 v1 v2 u0 u1 u2 : Value) (z0 : W.cell? ⟨b, 0, none⟩ = some u0) (z1 : W.cell? ⟨b, 1, none⟩ = some u1) (z2 : W.cell? ⟨b, 2, none⟩ = some u2) :
    ∃ W', ((W.setCell ⟨b, 0, none⟩ v0).setCell ⟨b, 1, none⟩ v1).setCell ⟨b, 2, none⟩ v2 = W' ∧ W'.cell? ⟨b, 0, none⟩ = some v0 ∧ W'.cell? ⟨b, 1, none⟩ = some v1 ∧ W'.cell? ⟨b, 2, none⟩ = some v2 ∧ Only b W W' := by
  refine ⟨_, rfl, ?_, ?_, ?_, (((Only.refl b W).setCell 0 v0).setCell 1 v1).setCell 2 v2⟩ <;> go_simp
theorem CutInv.step {w wr W4 : World} {k : Nat} {tl : List Bs} {tv : Value} {m : Int} {tx : Bs} {v v' : Value} (h : CutInv w wr k tl tv m tx v) (hb : Below (w.heap.size + 3) wr W4) (hr : StrRow W4 (w.heap.size + 3) v' ((tl.take (k + 1)).map (·.take 90))) (h2 : W4.cell? ⟨w.heap.size + 2, 2, none⟩ = some v) (hf : W4.frozen? ⟨w.heap.size + 2, 2, none⟩ = false) :
    CutInv w (W4.setCell ⟨w.heap.size + 2, 2, none⟩ v') (k + 1) tl tv m tx v' := by
  have ho := (Only.refl (w.heap.size + 2) W4).setCell 2 v'
  have hc : ∀ b o, b < w.heap.size + 3 → b ≠ w.heap.size + 2 → (W4.setCell ⟨w.heap.size + 2, 2, none⟩ v').cell? ⟨b, o, none⟩ = wr.cell? ⟨b, o, none⟩ := fun b o h1 h3 => by
    rw [ho.cell (p := ⟨b, o, none⟩) h3, hb.cell (p := ⟨b, o, none⟩) h1]
  have hfz : ∀ b o, b < w.heap.size + 3 → b ≠ w.heap.size + 2 → (W4.setCell ⟨w.heap.size + 2, 2, none⟩ v').frozen? ⟨b, o, none⟩ = wr.frozen? ⟨b, o, none⟩ := fun b o h1 h3 => by
    rw [ho.frozen (p := ⟨b, o, none⟩) h3, hb.frozen (p := ⟨b, o, none⟩) h1]
  have hd : ∀ o, W4.cell? ⟨w.heap.size + 2, o, none⟩ = wr.cell? ⟨w.heap.size + 2, o, none⟩ := fun o => hb.cell (p := ⟨w.heap.size + 2, o, none⟩) (by show w.heap.size + 2 < _; omega)
  have d0 := (hd 0).trans h.d0
  have d1 := (hd 1).trans h.d1
  exact {
    b := (btr h.b hb (by omega)).trans (ho.below (by omega))
    c0 := (hc _ _ (by omega) (by omega)).trans h.c0
    d0 := by go_simp; exact h.d0
    d1 := by go_simp; exact h.d1
    d2 := by go_simp
    f2 := by go_simp
    e0 := (hc _ _ (by omega) (by omega)).trans h.e0
    e1 := (hc _ _ (by omega) (by omega)).trans h.e1
    e2 := (hc _ _ (by omega) (by omega)).trans h.e2
    g0 := (hfz _ _ (by omega) (by omega)).trans h.g0
    g1 := (hfz _ _ (by omega) (by omega)).trans h.g1
    g2 := (hfz _ _ (by omega) (by omega)).trans h.g2
    sz := by rw [ho.size]; exact Nat.le_trans h.sz hb.size
    row := ownsRow_setCell_below hr (by show w.heap.size + 2 < _; omega) _ }
set_option maxHeartbeats 4000000 in
set_option maxRecDepth 100000 in
theorem cut_14s (w : World) (kd : Int) (text : Bs) (tv : Value) (tl : List Bs) (ht : TailAt w tv tl) :
    Calls Tryd.prog 14 #[.agg #[.int .i64 kd, S text, tv]] w fun e w' => (∃ a c, e = .returned (.agg #[.int .i64 (modR kd 6), S (text.take 90), .slice a (cutsR tl).length c]) ∧ SliceAt w.heap.size w'.heap.size w' (.slice a (cutsR tl).length c) (cutsR tl).length ((cutsR tl).map S) ∧ (cutsR tl).length ≤ c) ∧ Below w.heap.size w w' := by
  have HT := Lib.hid ht
  have HM : Hid (∀ W, Calls Tryd.prog 27 #[.int .i64 kd, .int .i64 6] W fun e w1 => e = .returned (.int .i64 (modR kd 6)) ∧ w1 = W) := fun W => mod_27 kd 6 (by omega) (by omega) W
  obtain ⟨q, hq⟩ : ∃ q, q = min text.length 90 := ⟨_, rfl⟩
  have hmn : min (text.length : Int) 90 = (q : Int) := by omega
  have hq1 : q ≤ text.length := by omega
  have htk : Hid (text.take 90 = (text.take q)) := by rw [hq]; show _ = _; rw [Nat.min_comm, List.take_eq_take_min]
  obtain ⟨ta, tcap, rfl, _⟩ := id ht
  clear hq
  go_enter Tryd.func14, Tryd.ntmps14
  go_wp2_with fail
  obtain ⟨W1, hW1, hb0, hsz, x0, x1, f1⟩ := boxes2 w #[.int .i64 kd, S text, .slice ta tl.length tcap] #[.int .i64 0, S [], .slice none 0 0] 34 34
  rw [hW1]
  have HB0 := Lib.hid hb0
  have hs0 : W1.drew.cell? ⟨w.heap.size, 0, none⟩ = some (.int .i64 kd) ∧ W1.drew.cell? ⟨w.heap.size, 1, none⟩ = some (S text) := ⟨x0 0 _ rfl, x0 1 _ rfl⟩
  have hal : ∀ o, (W1.drew.alloc o).cell? ⟨w.heap.size, 0, none⟩ = some (.int .i64 kd) ∧ (W1.drew.alloc o).cell? ⟨w.heap.size, 1, none⟩ = some (S text) := fun o => ⟨by rw [alloc_old _ _ _ _ (by show _ < W1.heap.size; omega)]; exact hs0.1, by rw [alloc_old _ _ _ _ (by show _ < W1.heap.size; omega)]; exact hs0.2⟩
  have HAL := Lib.hid hal
  obtain ⟨W2, hW2, e0, e1, e2, fz, hb2, hz2⟩ := cutbox W1 w.heap.size hsz (modR kd 6) (text.take q)
  have c0 : W2.cell? ⟨w.heap.size, 2, none⟩ = some (.slice ta tl.length tcap) := by rw [hb2.cell (p := ⟨w.heap.size, 2, none⟩) (by show w.heap.size < _; omega)]; exact x0 2 _ rfl
  have HI : Hid (CutInv w W2 0 tl (.slice ta tl.length tcap) (modR kd 6) (text.take q) (.slice none 0 0)) := 
    { b := btr hb0 hb2 (by omega), c0 := c0, d0 := e0, d1 := e1, d2 := e2, f2 := fz,
      e0 := by rw [hb2.cell (p := ⟨w.heap.size + 1, 0, none⟩) (by show w.heap.size + 1 < _; omega)]; exact x1 0 _ rfl
      e1 := by rw [hb2.cell (p := ⟨w.heap.size + 1, 1, none⟩) (by show w.heap.size + 1 < _; omega)]; exact x1 1 _ rfl
      e2 := by rw [hb2.cell (p := ⟨w.heap.size + 1, 2, none⟩) (by show w.heap.size + 1 < _; omega)]; exact x1 2 _ rfl
      g0 := by rw [hb2.frozen (p := ⟨w.heap.size + 1, 0, none⟩) (by show w.heap.size + 1 < _; omega)]; exact f1 0
      g1 := by rw [hb2.frozen (p := ⟨w.heap.size + 1, 1, none⟩) (by show w.heap.size + 1 < _; omega)]; exact f1 1
      g2 := by rw [hb2.frozen (p := ⟨w.heap.size + 1, 2, none⟩) (by show w.heap.size + 1 < _; omega)]; exact f1 2
      sz := by omega
      row := ⟨rfl, .inl ⟨rfl, rfl⟩⟩ }
  have HW2 := Lib.hid hW2
  clear hW2 x0 x1 f1 hb0 hal e0 e1 e2 fz hb2 hz2 c0
  go_cut [3] (fun t wx => t = .pointer (some ⟨w.heap.size + 2, 0, none⟩) ∧ wx = W2)
  case first =>
    refine wp_region_T (fun W => W.cell? ⟨w.heap.size, 0, none⟩ = some (.int .i64 kd) ∧ W.cell? ⟨w.heap.size, 1, none⟩ = some (S text)) 12 (by kernel_rfl) ?_
    refine anyT_take (i := 0) (v := ?_) rfl (by kernel_rfl) (by kernel_rfl) (by kernel_rfl) (by kernel_rfl) (by decide) (fun _ _ _ h => h) hs0 (Or.inl ⟨by rfl, ?_⟩) ?_
    rotate_left
    · intro w' h; obtain ⟨h0, h1⟩ := h; go_simp; rfl
    (try go_simp)
    refine anyT_take (i := 1) (v := ?_) rfl (by kernel_rfl) (by kernel_rfl) (by kernel_rfl) (by kernel_rfl) (by decide) (fun _ _ _ h => h) hs0 (Or.inl ⟨by rfl, ?_⟩) ?_
    rotate_left
    · intro w' h; obtain ⟨h0, h1⟩ := h; go_simp; rfl
    (try go_simp)
    refine anyT_take (i := 3) (v := ?_) rfl (by kernel_rfl) (by kernel_rfl) (by kernel_rfl) (by kernel_rfl) (by decide) (fun _ _ _ h => h) hs0 (Or.inl ⟨by rfl, ?_⟩) ?_
    rotate_left
    · intro w' h; obtain ⟨h0, h1⟩ := h; go_simp; rfl
    (try go_simp)
    refine anyT_take (i := 4) (v := ?_) rfl (by kernel_rfl) (by kernel_rfl) (by kernel_rfl) (by kernel_rfl) (by decide) (fun _ _ _ h => h) hs0 (Or.inl ⟨by rfl, ?_⟩) ?_
    rotate_left
    · intro w' h; obtain ⟨h0, h1⟩ := h; go_simp; rfl
    (try go_simp)
    refine anyT_take (i := 5) (v := ?_) rfl (by kernel_rfl) (by kernel_rfl) (by kernel_rfl) (by kernel_rfl) (by decide) (fun _ _ _ h => h) hs0 (Or.inl ⟨by rfl, ?_⟩) ?_
    rotate_left
    · intro w' h; obtain ⟨h0, h1⟩ := h; go_simp; rfl
    (try go_simp)
    refine anyT_take (i := 6) (v := ?_) rfl (by kernel_rfl) (by kernel_rfl) (by kernel_rfl) (by kernel_rfl) (by decide) (fun _ _ _ h => h) hs0 (Or.inl ⟨by rfl, ?_⟩) ?_
    rotate_left
    · intro w' h; obtain ⟨h0, h1⟩ := h; go_simp; rfl
    (try go_simp)
    refine anyT_take (i := 7) (v := ?_) rfl (by kernel_rfl) (by kernel_rfl) (by kernel_rfl) (by kernel_rfl) (by decide) (fun _ _ _ h => h) hs0 (Or.inl ⟨by rfl, ?_⟩) ?_
    rotate_left
    · intro w' h; obtain ⟨h0, h1⟩ := h; go_simp; rfl
    (try go_simp)
    refine anyT_take (i := 8) (v := ?_) rfl (by kernel_rfl) (by kernel_rfl) (by kernel_rfl) (by kernel_rfl) (by decide) (fun _ _ _ h => h) hs0 (Or.inl ⟨by rfl, ?_⟩) ?_
    rotate_left
    · intro w' h; obtain ⟨h0, h1⟩ := h; go_simp; rfl
    (try go_simp)
    refine anyT_take (i := 9) (v := ?_) rfl (by kernel_rfl) (by kernel_rfl) (by kernel_rfl) (by kernel_rfl) (by decide) (fun _ _ _ h => h) hs0 (Or.inl ⟨by rfl, ?_⟩) ?_
    rotate_left
    · intro w' h; obtain ⟨h0, h1⟩ := h; go_simp; rfl
    (try go_simp)
    refine anyT_two (i := 2) (j := 11) rfl rfl (by kernel_rfl) rfl rfl (fun K hK => ?_) (fun K hK => ?_)
    · skip
      go_simp
      (go_at_call 27; ((with_reducible refine Calls.mono (HM.out _) ?_); rintro e w1 ⟨rfl, hw⟩; have hw := hw.symm; subst hw))
      refine hK _ _ (fun _ => hs0) ?_
      clear hK K
      (try go_simp)
      refine anyT_take (i := 10) (v := ?_) rfl (by kernel_rfl) (by kernel_rfl) (by kernel_rfl) (by kernel_rfl) (by decide) (fun _ _ _ h => h) hs0 (Or.inl ⟨by rfl, ?_⟩) ?_
      rotate_left
      · intro w' h; obtain ⟨h0, h1⟩ := h; go_simp; rfl
      (try go_simp)
      refine anyT_do (i := 11) rfl (by kernel_rfl) rfl (fun K hK => ?_)
      go_simp
      refine hK _ _ (fun _ => HAL.out _) ?_
      clear hK K
      (try go_simp)
      refine anyT_do (i := 12) rfl (by kernel_rfl) rfl (fun K hK => ?_)
      go_simp
      refine hK _ _ (fun h => absurd rfl h) ?_
      clear hK K
      refine anyT_done (by kernel_rfl) ?_ _
      go_wp2_with fail
      go_meet
      exact ⟨rfl, HW2.out⟩
    · skip
      go_simp
      refine hK _ _ (fun _ => HAL.out _) ?_
      clear hK K
      (try go_simp)
      refine anyT_do (i := 2) rfl (by kernel_rfl) rfl (fun K hK => ?_)
      go_simp
      (go_at_call 27; ((with_reducible refine Calls.mono (HM.out _) ?_); rintro e w1 ⟨rfl, hw⟩; have hw := hw.symm; subst hw))
      refine hK _ _ (fun _ => HAL.out _) ?_
      clear hK K
      (try go_simp)
      refine anyT_take (i := 10) (v := ?_) rfl (by kernel_rfl) (by kernel_rfl) (by kernel_rfl) (by kernel_rfl) (by decide) (fun _ _ _ h => h) (HAL.out _) (Or.inl ⟨by rfl, ?_⟩) ?_
      rotate_left
      · intro w' h; obtain ⟨h0, h1⟩ := h; go_simp; rfl
      (try go_simp)
      refine anyT_do (i := 12) rfl (by kernel_rfl) rfl (fun K hK => ?_)
      go_simp
      refine hK _ _ (fun h => absurd rfl h) ?_
      clear hK K
      refine anyT_done (by kernel_rfl) ?_ _
      go_wp2_with fail
      go_meet
      exact ⟨rfl, HW2.out⟩
  case rest =>
    obtain ⟨rfl, rfl⟩ := hcut
    clear HW2 HAL hs0 HM hmn
    go_wp2_with fail
    go_loopw [4] (fun i wr => ∃ (k : Nat) (a : Option Addr) (c : Nat), i = .int .i64 k ∧ k ≤ tl.length ∧ k ≤ 4 ∧ Hid (CutInv w wr k tl (.slice ta tl.length tcap) (modR kd 6) (text.take q) (.slice a k c))) (fun i _ => tl.length - (intOf i).toNat)
    case atStart => exact ⟨0, none, 0, rfl, Nat.zero_le _, Nat.zero_le _, HI.out⟩
    case round =>
      obtain ⟨k, va, vc, rfl, hk, hk4, HC⟩ := hrel
      have g0 := HC.out.c0
      by_cases hlt : k < tl.length
      · by_cases h4 : k < 4
        · obtain ⟨bb, off, cap, hv, hbb, hc⟩ := TailAt.cell HT.out k hlt
          injection hv with h1 h2 h3
          subst h1 h3
          have hcuts := cuts_snoc tl k hlt
          obtain ⟨r, hr⟩ : ∃ r, r = tl[k] := ⟨_, rfl⟩
          rw [← hr] at hc hcuts
          have HCU := Lib.hid hcuts
          clear hr hcuts
          obtain ⟨p, hp⟩ : ∃ p, p = min r.length 90 := ⟨_, rfl⟩
          have hmn : min (r.length : Int) 90 = (p : Int) := by omega
          have hp1 : p ≤ r.length := by omega
          have htp : Hid (r.take 90 = r.take p) := by rw [hp]; show _ = _; rw [Nat.min_comm, List.take_eq_take_min]
          clear hp
          have hc2 : wr.cell? ⟨bb, off + k, none⟩ = some (S r) := by rw [HC.out.b.cell (p := ⟨bb, off + k, none⟩) hbb]; exact hc
          clear hc
          have g2 := HC.out.d2
          obtain ⟨wd, hwd⟩ : ∃ wd, wr.drew = wd := ⟨_, rfl⟩
          have HB0 : Hid (Below (w.heap.size + 3) wr wd) := by rw [← hwd]; exact (Below.refl _ wr).drew
          have HSS : Hid (∀ W, Below (w.heap.size + 3) wr W → W.cell? ⟨w.heap.size, 2, none⟩ = some (.slice (some ⟨bb, off, none⟩) tl.length tcap) ∧ W.cell? ⟨w.heap.size + 2, 2, none⟩ = some (.slice va k vc) ∧ W.cell? ⟨bb, off + k, none⟩ = some (S r)) := fun W hb =>
            ⟨by rw [hb.cell (p := ⟨w.heap.size, 2, none⟩) (by show w.heap.size < _; omega)]; exact g0, by rw [hb.cell (p := ⟨w.heap.size + 2, 2, none⟩) (by show w.heap.size + 2 < _; omega)]; exact g2, by rw [hb.cell (p := ⟨bb, off + k, none⟩) (by show bb < _; omega)]; exact hc2⟩
          have HFF : Hid (∀ W, Below (w.heap.size + 3) wr W → W.frozen? ⟨w.heap.size + 2, 2, none⟩ = false) := fun W hb => by rw [hb.frozen (p := ⟨w.heap.size + 2, 2, none⟩) (by show w.heap.size + 2 < _; omega)]; exact HC.out.f2
          have hs1 := HSS.out wd HB0.out
          have HSZ : Hid (w.heap.size + 3 ≤ wd.heap.size) := by rw [← hwd]; exact HC.out.sz
          have hwr : Hid (∀ g, g < wr.heap.size → wd.heap[g]? = wr.heap[g]?) := by rw [← hwd]; exact fun g _ => rfl
          have hws : Hid (wd.heap.size = wr.heap.size) := by rw [← hwd]; rfl
          go_wp2_with fail
          clear g2 hc2
          refine wp_region_T (fun W => W.cell? ⟨w.heap.size, 2, none⟩ = some (.slice (some ⟨bb, off, none⟩) tl.length tcap) ∧ W.cell? ⟨w.heap.size + 2, 2, none⟩ = some (.slice va k vc) ∧ W.cell? ⟨bb, off + k, none⟩ = some (S r)) 18 (by kernel_rfl) ?_
          rw [hwd]
          clear hwd
          refine anyT_take (i := 0) (v := ?_) rfl (by kernel_rfl) (by kernel_rfl) (by kernel_rfl) (by kernel_rfl) (by decide) (fun _ _ _ h => h) hs1 (Or.inl ⟨by rfl, ?_⟩) ?_
          rotate_left
          · intro w' h; obtain ⟨h0, h1, h2⟩ := h; go_simp; rfl
          (try go_simp)
          refine anyT_take (i := 1) (v := ?_) rfl (by kernel_rfl) (by kernel_rfl) (by kernel_rfl) (by kernel_rfl) (by decide) (fun _ _ _ h => h) hs1 (Or.inl ⟨by rfl, ?_⟩) ?_
          rotate_left
          · intro w' h; obtain ⟨h0, h1, h2⟩ := h; go_simp; rfl
          (try go_simp)
          refine anyT_take (i := 2) (v := ?_) rfl (by kernel_rfl) (by kernel_rfl) (by kernel_rfl) (by kernel_rfl) (by decide) (fun _ _ _ h => h) hs1 (Or.inl ⟨by rfl, ?_⟩) ?_
          rotate_left
          · intro w' h; obtain ⟨h0, h1, h2⟩ := h; go_simp; rfl
          (try go_simp)
          refine anyT_take (i := 3) (v := ?_) rfl (by kernel_rfl) (by kernel_rfl) (by kernel_rfl) (by kernel_rfl) (by decide) (fun _ _ _ h => h) hs1 (Or.inl ⟨by rfl, ?_⟩) ?_
          rotate_left
          · intro w' h; obtain ⟨h0, h1, h2⟩ := h; go_simp; rfl
          (try go_simp)
          refine anyT_take (i := 4) (v := ?_) rfl (by kernel_rfl) (by kernel_rfl) (by kernel_rfl) (by kernel_rfl) (by decide) (fun _ _ _ h => h) hs1 (Or.inl ⟨by rfl, ?_⟩) ?_
          rotate_left
          · intro w' h; obtain ⟨h0, h1, h2⟩ := h; go_simp; rfl
          (try go_simp)
          refine anyT_take (i := 5) (v := ?_) rfl (by kernel_rfl) (by kernel_rfl) (by kernel_rfl) (by kernel_rfl) (by decide) (fun _ _ _ h => h) hs1 (Or.inl ⟨by rfl, ?_⟩) ?_
          rotate_left
          · intro w' h; obtain ⟨h0, h1, h2⟩ := h; go_simp; rfl
          (try go_simp)
          refine anyT_take (i := 6) (v := ?_) rfl (by kernel_rfl) (by kernel_rfl) (by kernel_rfl) (by kernel_rfl) (by decide) (fun _ _ _ h => h) hs1 (Or.inl ⟨by rfl, ?_⟩) ?_
          rotate_left
          · intro w' h; obtain ⟨h0, h1, h2⟩ := h; go_simp; rfl
          (try go_simp)
          refine anyT_take (i := 7) (v := ?_) rfl (by kernel_rfl) (by kernel_rfl) (by kernel_rfl) (by kernel_rfl) (by decide) (fun _ _ _ h => h) hs1 (Or.inl ⟨by rfl, ?_⟩) ?_
          rotate_left
          · intro w' h; obtain ⟨h0, h1, h2⟩ := h; go_simp; rfl
          (try go_simp)
          refine anyT_take (i := 8) (v := ?_) rfl (by kernel_rfl) (by kernel_rfl) (by kernel_rfl) (by kernel_rfl) (by decide) (fun _ _ _ h => h) hs1 (Or.inl ⟨by rfl, ?_⟩) ?_
          rotate_left
          · intro w' h; obtain ⟨h0, h1, h2⟩ := h; go_simp; rfl
          (try go_simp)
          refine anyT_take (i := 9) (v := ?_) rfl (by kernel_rfl) (by kernel_rfl) (by kernel_rfl) (by kernel_rfl) (by decide) (fun _ _ _ h => h) hs1 (Or.inl ⟨by rfl, ?_⟩) ?_
          rotate_left
          · intro w' h; obtain ⟨h0, h1, h2⟩ := h; go_simp; rfl
          (try go_simp)
          refine anyT_take (i := 10) (v := ?_) rfl (by kernel_rfl) (by kernel_rfl) (by kernel_rfl) (by kernel_rfl) (by decide) (fun _ _ _ h => h) hs1 (Or.inl ⟨by rfl, ?_⟩) ?_
          rotate_left
          · intro w' h; obtain ⟨h0, h1, h2⟩ := h; go_simp; rfl
          (try go_simp)
          refine anyT_take (i := 11) (v := ?_) rfl (by kernel_rfl) (by kernel_rfl) (by kernel_rfl) (by kernel_rfl) (by decide) (fun _ _ _ h => h) hs1 (Or.inl ⟨by rfl, ?_⟩) ?_
          rotate_left
          · intro w' h; obtain ⟨h0, h1, h2⟩ := h; go_simp; rfl
          (try go_simp)
          refine anyT_take (i := 12) (v := ?_) rfl (by kernel_rfl) (by kernel_rfl) (by kernel_rfl) (by kernel_rfl) (by decide) (fun _ _ _ h => h) hs1 (Or.inl ⟨by rfl, ?_⟩) ?_
          rotate_left
          · intro w' h; obtain ⟨h0, h1, h2⟩ := h; go_simp; rfl
          (try go_simp)
          refine anyT_take (i := 13) (v := ?_) rfl (by kernel_rfl) (by kernel_rfl) (by kernel_rfl) (by kernel_rfl) (by decide) (fun _ _ _ h => h) hs1 (Or.inl ⟨by rfl, ?_⟩) ?_
          rotate_left
          · intro w' h; obtain ⟨h0, h1, h2⟩ := h; go_simp; rfl
          (try go_simp)
          refine anyT_take (i := 14) (v := ?_) rfl (by kernel_rfl) (by kernel_rfl) (by kernel_rfl) (by kernel_rfl) (by decide) (fun _ _ _ h => h) hs1 (Or.inl ⟨by rfl, ?_⟩) ?_
          rotate_left
          · intro w' h; obtain ⟨h0, h1, h2⟩ := h; go_simp; rfl
          (try go_simp)
          refine anyT_do (i := 15) rfl (by kernel_rfl) rfl (fun K hK => ?_)
          go_simp
          obtain ⟨v3, g3, ha3, hg3, hb3, hf3, hl3⟩ := lit1 wd (r.take p) (w.heap.size + 3) HSZ.out
          rw [ha3, hg3]
          have HF3 := Lib.hid hf3
          have hl0 : ((tl.take k).map (·.take 90)).length = k := by simp; omega
          have hrow := HC.out.row
          have HR3 := Lib.hid (row_far hrow (fun g hg => (hb3.block g (by rw [hws.out]; exact row_lt hrow g hg)).trans (hwr.out g (row_lt hrow g hg))))
          have HB3 := Lib.hid (btr HB0.out hb3 HSZ.out)
          have HS3 : Hid (w.heap.size + 3 ≤ v3.heap.size) := Nat.le_trans HC.out.sz HB3.out.size
          clear ha3 hg3 hb3 hf3 hl3 hrow
          refine hK _ _ (fun _ => HSS.out _ HB3.out) ?_
          clear hK K
          (try go_simp)
          refine anyT_do (i := 16) rfl (by kernel_rfl) rfl (fun K hK => ?_)
          obtain ⟨x4, v4, hr4, hs4, ho4⟩ := run_strs v3 (w.heap.size + 3) (.slice va k vc) ((tl.take k).map (·.take 90)) [r.take p] HR3.out (.slice (some ⟨g3, 0, none⟩) 1 1) HF3.out HS3.out (by simp; omega)
          obtain ⟨xa4, xc4, rfl⟩ := row_shape hs4
          have HB4 := Lib.hid (below_onto HB3.out ho4 HS3.out (fun g hg => (own_base HR3.out g hg).1))
          have hl1 : ((tl.take k).map (·.take 90) ++ [r.take p]).length = k + 1 := by rw [List.length_append, hl0]; rfl
          rw [hl1] at hs4 hr4
          rw [← htp.out, ← HCU.out] at hs4
          have HR4 := Lib.hid hs4
          refine oper_append rfl _ _ 27 27 27 rfl rfl (.slice va k vc) (.slice (some ⟨g3, 0, none⟩) 1 1) _ _ (by go_simp) (by go_simp) hr4 ?_
          clear hr4 hs4 ho4
          refine hK _ _ (fun _ => HSS.out _ HB4.out) ?_
          clear hK K
          (try go_simp)
          obtain ⟨t0, t1, t2⟩ := HSS.out _ HB4.out
          have hs4 := HSS.out _ HB4.out
          have hf4 := HFF.out _ HB4.out
          refine anyT_take (i := 17) (v := ?_) rfl (by kernel_rfl) (by kernel_rfl) (by kernel_rfl) (by kernel_rfl) (by decide) (fun _ _ _ h => h) hs4 (Or.inl ⟨by rfl, ?_⟩) ?_
          rotate_left
          · intro w' h; obtain ⟨h0, h1, h2⟩ := h; go_simp; rfl
          (try go_simp)
          refine anyT_do (i := 18) rfl (by kernel_rfl) rfl (fun K hK => ?_)
          go_simp
          refine hK _ _ (fun h => absurd rfl h) ?_
          clear hK K
          refine anyT_done (by kernel_rfl) ?_ _
          have HI5 := Lib.hid (HC.out.step HB4.out HR4.out t1 hf4)
          generalize v4.setCell ⟨w.heap.size + 2, 2, none⟩ (.slice xa4 (k + 1) xc4) = v5 at *
          go_wp2_with fail
          go_roundw
          case rel => exact ⟨k + 1, xa4, xc4, by go_num, hlt, by omega, HI5.out⟩
          case measure => simp [intOf]; omega
        · obtain rfl : k = 4 := by omega
          have hcu : Hid ((tl.take 4).map (·.take 90) = cutsR tl) := by show _ = _; unfold cutsR; rfl
          obtain ⟨d0, d1, d2, e0, e1, e2, g0', g1, g2⟩ := HC.out.outs
          go_wp2_with fail
          obtain ⟨W', hW', z0, z1, z2, ho⟩ := store3 wr (w.heap.size + 1) (.int .i64 (modR kd 6)) (S (text.take q)) (.slice va 4 vc) _ _ _ e0 e1 e2
          rw [hW']
          have hcap := row_cap HC.out.row
          have hsl := (row_slice HC.out.row).kept (ho.kept (.inl (show w.heap.size + 1 < w.heap.size + 3 by omega)))
          have hbl := HC.out.b.trans (ho.below (show w.heap.size ≤ w.heap.size + 1 by omega))
          have hsz := ho.size
          clear hW' ho e0 e1 e2 g0' g1 g2
          refine bodyPost_ret (v := .agg #[.int .i64 (modR kd 6), S (text.take q), .slice va 4 vc]) (by rw [results_cell rfl]; go_simp) rfl ?_
          rw [hcu.out] at hsl
          have hl2 : 4 = (cutsR tl).length := by rw [← hcu.out]; simp; omega
          exact ⟨⟨va, vc, (by rw [← hl2, htk.out]), (hl2 ▸ hsl.mono (Nat.le_add_right _ 3) (Nat.le_of_eq hsz.symm)), (hl2 ▸ hcap)⟩, hbl⟩
      · obtain rfl : k = tl.length := by omega
        have hcu : Hid ((tl.take tl.length).map (·.take 90) = cutsR tl) := by show _ = _; unfold cutsR; rw [List.take_of_length_le (Nat.le_refl _), List.take_of_length_le (by omega)]
        obtain ⟨d0, d1, d2, e0, e1, e2, g0', g1, g2⟩ := HC.out.outs
        go_wp2_with fail
        obtain ⟨W', hW', z0, z1, z2, ho⟩ := store3 wr (w.heap.size + 1) (.int .i64 (modR kd 6)) (S (text.take q)) (.slice va tl.length vc) _ _ _ e0 e1 e2
        rw [hW']
        have hcap := row_cap HC.out.row
        have hsl := (row_slice HC.out.row).kept (ho.kept (.inl (show w.heap.size + 1 < w.heap.size + 3 by omega)))
        have hbl := HC.out.b.trans (ho.below (show w.heap.size ≤ w.heap.size + 1 by omega))
        have hsz := ho.size
        clear hW' ho e0 e1 e2 g0' g1 g2
        refine bodyPost_ret (v := .agg #[.int .i64 (modR kd 6), S (text.take q), .slice va tl.length vc]) (by rw [results_cell rfl]; go_simp) rfl ?_
        rw [hcu.out] at hsl
        have hl2 : tl.length = (cutsR tl).length := by rw [← hcu.out]; simp; skip
        exact ⟨⟨va, vc, (by rw [← hl2, htk.out]), (hl2 ▸ hsl.mono (Nat.le_add_right _ 3) (Nat.le_of_eq hsz.symm)), (hl2 ▸ hcap)⟩, hbl⟩
theorem cut_14 (w : World) (kd : Int) (text : Bs) (tv : Value) (tl : List Bs) (ht : TailAt w tv tl) :
    Calls Tryd.prog 14 #[.agg #[.int .i64 kd, S text, tv]] w fun e w' => (∃ a c, e = .returned (.agg #[.int .i64 (modR kd 6), S (text.take 90), .slice a (cutsR tl).length c]) ∧ SliceAt w.heap.size w'.heap.size w' (.slice a (cutsR tl).length c) (cutsR tl).length ((cutsR tl).map S)) ∧ Below w.heap.size w w' := by
  refine (cut_14s w kd text tv tl ht).mono ?_
  rintro e w' ⟨⟨a, c, h1, h2, _⟩, h3⟩
  exact ⟨⟨a, c, h1, h2⟩, h3⟩
end Go.Proofs.YtgdkdihedgiegaaDoor
