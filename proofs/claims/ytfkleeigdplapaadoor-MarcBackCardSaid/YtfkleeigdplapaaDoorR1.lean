/-
  The walk of MarcBack.
-/
import Derived.Test.YtfkleeigdplapaaDoorQ2
import Derived.Test.YtfkleeigdplapaaDoorM5
namespace Go.Proofs.YtfkleeigdplapaaDoor
open Go.RowKit
attribute [local go_sem ↓] Go.wp_at_zero Go.wp_at_succ

/-- A record's struct variable. -/
structure BoxAt (b : Nat) (w : World) (kd lv : UInt8) (v : Value) : Prop where
  lt : b < w.heap.size
  c0 : w.cell? ⟨b, 0, none⟩ = some (.int .u8 kd.toNat)
  c1 : w.cell? ⟨b, 1, none⟩ = some (.int .u8 lv.toNat)
  c2 : w.cell? ⟨b, 2, none⟩ = some v
  f0 : w.frozen? ⟨b, 0, none⟩ = false
  f1 : w.frozen? ⟨b, 1, none⟩ = false
  f2 : w.frozen? ⟨b, 2, none⟩ = false
theorem BoxAt.new (w : World) (kd lv : UInt8) (v : Value) : BoxAt w.heap.size (w.alloc (recO kd lv v)) kd lv v := by
  refine ⟨by simp, ?_, ?_, ?_, ?_, ?_, ?_⟩ <;> go_simp
theorem BoxAt.zero (w : World) : BoxAt w.heap.size (w.alloc nilO) 0 0 (.slice none 0 0) := by
  refine ⟨by simp, ?_, ?_, ?_, ?_, ?_, ?_⟩ <;> go_simp
theorem BoxAt.keep {b : Nat} {w w' : World} {kd lv : UInt8} {v : Value} (h : BoxAt b w kd lv v) (hb : Below w.heap.size w w') : BoxAt b w' kd lv v := by
  have hl := h.lt
  have hc : ∀ i, w'.cell? ⟨b, i, none⟩ = w.cell? ⟨b, i, none⟩ := fun i => hb.cell (p := ⟨b, i, none⟩) hl
  have hf : ∀ i, w'.frozen? ⟨b, i, none⟩ = w.frozen? ⟨b, i, none⟩ := fun i => hb.frozen (p := ⟨b, i, none⟩) hl
  exact ⟨Nat.lt_of_lt_of_le hl hb.size, by rw [hc]; exact h.c0, by rw [hc]; exact h.c1, by rw [hc]; exact h.c2, by rw [hf]; exact h.f0, by rw [hf]; exact h.f1, by rw [hf]; exact h.f2⟩
theorem BoxAt.set {b : Nat} {w : World} {kd lv : UInt8} {v : Value} (h : BoxAt b w kd lv v) (kd' lv' : UInt8) (v' : Value) :
    BoxAt b (((w.setCell ⟨b, 0, none⟩ (.int .u8 kd'.toNat)).setCell ⟨b, 1, none⟩ (.int .u8 lv'.toNat)).setCell ⟨b, 2, none⟩ v') kd' lv' v' := by
  have c0 := h.c0; have c1 := h.c1; have c2 := h.c2; have hl := h.lt; have f0 := h.f0; have f1 := h.f1; have f2 := h.f2
  refine ⟨by simpa using hl, ?_, ?_, ?_, by rw [setCell_frozen, setCell_frozen, setCell_frozen]; exact f0, by rw [setCell_frozen, setCell_frozen, setCell_frozen]; exact f1, by rw [setCell_frozen, setCell_frozen, setCell_frozen]; exact f2⟩
  all_goals (clear h f0 f1 f2; go_simp)
theorem fields_set {lo hi b : Nat} {w : World} {v : Value} {fs : List FieldD} (h : FieldsAt lo hi w v fs) (hb : b < lo ∨ hi ≤ b) (x y z : Value) : FieldsAt lo hi (((w.setCell ⟨b, 0, none⟩ x).setCell ⟨b, 1, none⟩ y).setCell ⟨b, 2, none⟩ z) v fs :=
  h.kept (fun k h1 h2 => by rw [Below.heap_setCell _ _ _ _ (by simp; omega), Below.heap_setCell _ _ _ _ (by simp; omega), Below.heap_setCell _ _ _ _ (by simp; omega)])
theorem below_set {B b : Nat} {w0 w : World} (h : Below B w0 w) (hb : B ≤ b) (x y z : Value) : Below B w0 (((w.setCell ⟨b, 0, none⟩ x).setCell ⟨b, 1, none⟩ y).setCell ⟨b, 2, none⟩ z) :=
  ((h.setCell hb _).setCell hb _).setCell hb _
theorem some_small {lo N M : Nat} {r : RecD} {sa : Option Addr} {cap : Nat} {w : World} (h : SomeRec lo N M r sa cap w) (hN : N ≤ 1000000) (hM : M ≤ 1000000) : Small r.fields := ⟨Nat.le_trans h.2.1 hN, fun f hf => Nat.le_trans (h.2.2 f hf) hM⟩
/-- One of two may come up. -/
theorem anyT_both {P : Program} {md : Region.Mode} {ops : Array Oper} {Q : Exit → Act → World → Prop} {S : World → Prop} {z i j : Nat} {o o' : Oper} {n : Nat} {listed : Array Bool} {a : Act} {w : World} (hi : ops[i]? = some o) (hj : ops[j]? = some o')
    (hr : Region.ready md ops listed = [i, j]) (hg : o.guard = none) (hg' : o'.guard = none)
    (h : ∀ K : Act → World → Prop, (∀ a' w', (i ≠ z → S w') → anyT P md ops Q S z n (listed.setIfInBounds i true) a' w' → K a' w') → o.wp P a w K Q)
    (h' : ∀ K : Act → World → Prop, (∀ a' w', (j ≠ z → S w') → anyT P md ops Q S z n (listed.setIfInBounds j true) a' w' → K a' w') → o'.wp P a w K Q) : anyT P md ops Q S z (n + 1) listed a w := by
  refine ⟨fun h0 => absurd h0 (by rw [hr]; simp), fun k hk => ?_⟩
  rw [hr] at hk
  simp only [List.mem_cons, List.not_mem_nil, or_false] at hk
  rcases hk with rfl | rfl
  · unfold wpOp
    rw [hi]
    simp only [Region.wanted, hg, if_true]
    exact .inl (h _ fun a' w' h1 h2 => ⟨h1, h2⟩)
  · unfold wpOp
    rw [hj]
    simp only [Region.wanted, hg', if_true]
    exact .inl (h' _ fun a' w' h1 h2 => ⟨h1, h2⟩)
set_option linter.unusedSimpArgs false in
set_option maxHeartbeats 8000000 in
set_option maxRecDepth 100000 in
theorem back_3 (n : Nat) (x : Value) (q0 q1 q2 : Int) (w : World) (hT : Tabs w) (hx : IntsAt w x n) (hn : n ≤ maxLen) :
    Calls Tryd.prog 3 #[x, .agg #[.int .i64 q0, .int .i64 q1, .int .i64 q2]] w fun e w' => e = .returned (.bool true) ∧ Below w.heap.size w w' := by
  have HT := Lib.hid (fun W (h : Below w.heap.size w W) => tabs_below hT h)
  have H13 := Lib.hid (fun W (h : Below w.heap.size w W) => sanity_13 W (tabs_below hT h))
  have H15 := Lib.hid (fun W (h : Below w.heap.size w W) => made_at n x W (hx.below h) hn)
  have H15m0 := Lib.hid (fun W (h : Below w.heap.size w W) => made_15 n x W (hx.below h) hn)
  have H14 : Hid (∀ (r : RecD) (sa : Option Addr) (cap : Nat) W, MadeAt r sa cap W → _) := fun r sa cap W h => spoiled_14 r.kind r.level r.fields sa cap q0 q1 q2 W 12 66 h.2 h.1.many (by omega) (fun f hf => (h.1.fields f hf).small) (by omega)
  have HQ : Hid (∀ W, Below (w.heap.size + 1) (w.alloc (numsO q0 q1 q2)) W → W.cell? ⟨w.heap.size, 0, none⟩ = some (.int .i64 q0) ∧ W.cell? ⟨w.heap.size, 1, none⟩ = some (.int .i64 q1) ∧ W.cell? ⟨w.heap.size, 2, none⟩ = some (.int .i64 q2)) := fun W h => by
    refine ⟨?_, ?_, ?_⟩ <;> (rw [h.cell (p := ⟨w.heap.size, _, none⟩) (by simp)]; go_simp)
  obtain ⟨sa0, cap0, rfl⟩ := hx.shape
  clear hT hx
  go_enter Tryd.func3, Tryd.ntmps3
  go_upto_region 2 with (go_at_call 13; ((with_reducible refine Calls.mono (H13.out _ (alloc_below1 _ _)) ?_); rintro e w1 ⟨rfl, hb1⟩; have HB1 : Hid (Below (w.heap.size + 1) (w.alloc (numsO q0 q1 q2)) w1) := hb1.mono (by simp); clear hb1))
  have HBW : Hid (∀ W, Below w1.heap.size w1 W → Below w.heap.size w W) := fun W h => btr (alloc_below1 w (numsO q0 q1 q2)) (btr HB1.out h (by have := HB1.out.size; simpa using this)) (by omega)
  go_cut [6] (fun t wx => ∃ (b : Nat) (r : RecD) (sb : Option Addr) (cb : Nat), t = .pointer (some ⟨b, 0, none⟩) ∧ BoxAt b wx r.kind r.level (.slice sb r.fields.length cb) ∧ w1.heap.size ≤ b ∧ FieldsAt 0 wx.heap.size wx (.slice sb r.fields.length cb) r.fields ∧ r.fields.length ≤ 12 + 1100 ∧ Hid (∀ f ∈ r.fields, (fieldBytes f).length ≤ 66 + 10100) ∧ Below w1.heap.size w1 wx)
  case first =>
    obtain ⟨b0, b1, b2⟩ := HQ.out w1 HB1.out
    have hwl : w.heap.size < w1.heap.size := cell_lt b0
    have HS : Hid (∀ W, Below w1.heap.size w1 W → (fun w' : World => w'.cell? ⟨w.heap.size, 0, none⟩ = some (.int .i64 q0) ∧ w'.cell? ⟨w.heap.size, 1, none⟩ = some (.int .i64 q1) ∧ w'.cell? ⟨w.heap.size, 2, none⟩ = some (.int .i64 q2)) W) := fun W hW => ⟨by rw [hW.cell (p := ⟨w.heap.size, _, none⟩) hwl]; exact b0, by rw [hW.cell (p := ⟨w.heap.size, _, none⟩) hwl]; exact b1, by rw [hW.cell (p := ⟨w.heap.size, _, none⟩) hwl]; exact b2⟩
    have HBd : Hid (Below w1.heap.size w1 w1.drew) := (Below.refl _ w1).drew
    have H15' : Hid (∀ W, Below w1.heap.size w1 W → _) := fun W h => H15.out W (HBW.out W h)
    refine wp_region_T (fun w' : World => w'.cell? ⟨w.heap.size, 0, none⟩ = some (.int .i64 q0) ∧ w'.cell? ⟨w.heap.size, 1, none⟩ = some (.int .i64 q1) ∧ w'.cell? ⟨w.heap.size, 2, none⟩ = some (.int .i64 q2)) 5 (by kernel_rfl) ?_
    refine anyT_take (i := 0) (v := ?_) rfl (by kernel_rfl) (by kernel_rfl) (by kernel_rfl) (by kernel_rfl) (by decide) (fun _ _ _ h => h) (HS.out _ HBd.out) (Or.inl ⟨by rfl, ?_⟩) ?_
    rotate_left
    · intro w' h; obtain ⟨h0, h1, h2⟩ := h; go_simp; (first | done | rfl)
    (try simp only [Act.put, List.setIfInBounds_toArray, List.set_cons_zero, List.set_cons_succ])
    refine anyT_take (i := 2) (v := ?_) rfl (by kernel_rfl) (by kernel_rfl) (by kernel_rfl) (by kernel_rfl) (by decide) (fun _ _ _ h => h) (HS.out _ HBd.out) (Or.inl ⟨by rfl, ?_⟩) ?_
    rotate_left
    · intro w' h; obtain ⟨h0, h1, h2⟩ := h; go_simp; (first | done | rfl)
    (try simp only [Act.put, List.setIfInBounds_toArray, List.set_cons_zero, List.set_cons_succ])
    refine anyT_both (i := 1) (j := 4) rfl rfl (by kernel_rfl) rfl rfl (fun K hK => ?_) (fun K hK => ?_)
    · skip
      go_simp
      (go_at_call 15; ((with_reducible refine Calls.mono (H15'.out _ HBd.out) ?_); rintro e w2 ⟨r, sa, cap, rfl, hb2, hm2, _⟩))
      have HM2 := Lib.hid hm2
      have HB2 := Lib.hid (btr HBd.out hb2 HBd.out.size)
      have HN2 := Lib.hid hb2
      clear hm2 hb2
      refine hK _ _ (fun _ => HS.out _ HB2.out) ?_
      clear hK K
      refine anyT_both (i := 3) (j := 4) rfl rfl (by kernel_rfl) rfl rfl (fun K hK => ?_) (fun K hK => ?_)
      · skip
        go_simp
        (go_at_call 14; ((with_reducible refine Calls.mono (H14.out r sa cap _ HM2.out) ?_); rintro e w3 ⟨r3, sb, cb, rfl, hb3, hs3⟩))
        have HS3 := Lib.hid hs3
        have HB3 := Lib.hid (btr HB2.out hb3 HB2.out.size)
        have HN3 := Lib.hid hb3
        clear hs3 hb3
        refine hK _ _ (fun _ => HS.out _ HB3.out) ?_
        clear hK K
        refine anyT_do (i := 4) rfl (by kernel_rfl) rfl (fun K hK => ?_)
        have HB4 : Hid (Below w1.heap.size w1 (w3.alloc nilO)) := HB3.out.alloc HB3.out.size _
        go_simp
        refine hK _ _ (fun _ => HS.out _ HB4.out) ?_
        clear hK K
        have HBX := Lib.hid (BoxAt.zero w3)
        have g0 := HBX.out.c0; have g1 := HBX.out.c1; have g2 := HBX.out.c2; have x0 := HBX.out.f0; have x1 := HBX.out.f1; have x2 := HBX.out.f2
        refine anyT_do (i := 5) rfl (by kernel_rfl) rfl (fun K hK => ?_)
        go_simp
        refine hK _ _ (fun h => absurd rfl h) ?_
        clear hK K
        refine anyT_done (by kernel_rfl) ?_ _
        go_wp2_with fail
        go_meet
        exact ⟨_, r3, sb, cb, rfl, BoxAt.new w3 r3.kind r3.level (.slice sb r3.fields.length cb), HB3.out.size, fields_up HS3.out.1 (Nat.le_refl _) (alloc_below1 w3 _), HS3.out.2.1, Lib.hid HS3.out.2.2, HB3.out.alloc HB3.out.size _⟩
      · skip
        have HB4 : Hid (Below w1.heap.size w1 (w2.alloc nilO)) := HB2.out.alloc HB2.out.size _
        go_simp
        refine hK _ _ (fun _ => HS.out _ HB4.out) ?_
        clear hK K
        refine anyT_do (i := 3) rfl (by kernel_rfl) rfl (fun K hK => ?_)
        have HM4 := Lib.hid (HM2.out.below (alloc_below1 w2 nilO))
        go_simp
        (go_at_call 14; ((with_reducible refine Calls.mono (H14.out r sa cap _ HM4.out) ?_); rintro e w3 ⟨r3, sb, cb, rfl, hb3, hs3⟩))
        have HS3 := Lib.hid hs3
        have HB3 := Lib.hid (btr HB4.out hb3 HB4.out.size)
        have HN3 := Lib.hid hb3
        clear hs3 hb3
        refine hK _ _ (fun _ => HS.out _ HB3.out) ?_
        clear hK K
        have HBX := Lib.hid ((BoxAt.zero w2).keep HN3.out)
        have g0 := HBX.out.c0; have g1 := HBX.out.c1; have g2 := HBX.out.c2; have x0 := HBX.out.f0; have x1 := HBX.out.f1; have x2 := HBX.out.f2
        refine anyT_do (i := 5) rfl (by kernel_rfl) rfl (fun K hK => ?_)
        go_simp
        refine hK _ _ (fun h => absurd rfl h) ?_
        clear hK K
        refine anyT_done (by kernel_rfl) ?_ _
        go_wp2_with fail
        go_meet
        exact ⟨_, r3, sb, cb, rfl, HBX.out.set r3.kind r3.level (.slice sb r3.fields.length cb), HB2.out.size, (fields_set HS3.out.1 (by left; simp) _ _ _).mono (Nat.zero_le _) (by simp), HS3.out.2.1, Lib.hid HS3.out.2.2, below_set HB3.out (by have := HB2.out.size; omega) _ _ _⟩
    · skip
      have HB4 : Hid (Below w1.heap.size w1 (w1.alloc nilO).drew) := (alloc_below1 w1 nilO).drew
      go_simp
      refine hK _ _ (fun _ => HS.out _ HB4.out) ?_
      clear hK K
      refine anyT_do (i := 1) rfl (by kernel_rfl) rfl (fun K hK => ?_)
      go_simp
      (go_at_call 15; ((with_reducible refine Calls.mono (H15'.out _ HB4.out) ?_); rintro e w2 ⟨r, sa, cap, rfl, hb2, hm2, _⟩))
      have HM2 := Lib.hid hm2
      have HB2 := Lib.hid (btr HB4.out hb2 HB4.out.size)
      have HN2 := Lib.hid hb2
      clear hm2 hb2
      refine hK _ _ (fun _ => HS.out _ HB2.out) ?_
      clear hK K
      refine anyT_do (i := 3) rfl (by kernel_rfl) rfl (fun K hK => ?_)
      go_simp
      (go_at_call 14; ((with_reducible refine Calls.mono (H14.out r sa cap _ HM2.out) ?_); rintro e w3 ⟨r3, sb, cb, rfl, hb3, hs3⟩))
      have HS3 := Lib.hid hs3
      have HB3 := Lib.hid (btr HB2.out hb3 HB2.out.size)
      have HN3 := Lib.hid hb3
      clear hs3 hb3
      refine hK _ _ (fun _ => HS.out _ HB3.out) ?_
      clear hK K
      have HBX := Lib.hid ((((BoxAt.zero w1).keep ((Below.refl _ _).drew)).keep HN2.out).keep HN3.out)
      have g0 := HBX.out.c0; have g1 := HBX.out.c1; have g2 := HBX.out.c2; have x0 := HBX.out.f0; have x1 := HBX.out.f1; have x2 := HBX.out.f2
      refine anyT_do (i := 5) rfl (by kernel_rfl) rfl (fun K hK => ?_)
      go_simp
      refine hK _ _ (fun h => absurd rfl h) ?_
      clear hK K
      refine anyT_done (by kernel_rfl) ?_ _
      go_wp2_with fail
      go_meet
      exact ⟨_, r3, sb, cb, rfl, HBX.out.set r3.kind r3.level (.slice sb r3.fields.length cb), Nat.le_refl _, (fields_set HS3.out.1 (by left; have := HN2.out.size; simp at this; omega) _ _ _).mono (Nat.zero_le _) (by simp), HS3.out.2.1, Lib.hid HS3.out.2.2, below_set HB3.out (Nat.le_refl _) _ _ _⟩
  case rest =>
    obtain ⟨b, r, sb, cb, rfl, hbox, hblo, hfd, hrn, HRM, hbx⟩ := hcut
    have HBLO : Hid (w.heap.size ≤ b) := by have := HB1.out.size; simp at this; unfold Hid; omega
    generalize wc = w4 at *
    have HBX := Lib.hid hbox
    have HFD := Lib.hid hfd
    have HB4 := Lib.hid (HBW.out _ hbx)
    have HSM : Hid (Small r.fields) := ⟨by omega, fun f hf => by have := HRM.out f hf; omega⟩
    obtain ⟨dc, hdc⟩ : ∃ dc, decide (wrongR r = 0) = dc := ⟨_, rfl⟩
    have H16 : Hid (∀ W, Below w4.heap.size w4 W → Calls Tryd.prog 16 #[.agg #[.int .u8 r.kind.toNat, .int .u8 r.level.toNat, .slice sb r.fields.length cb]] W fun e w' => e = .returned (.bool dc) ∧ Below W.heap.size W w') := fun W hW => by
      have := right_16 r (recV r (.slice sb r.fields.length cb)) W ⟨_, rfl, fields_up hfd (Nat.le_refl _) hW⟩ HSM.out
      rw [hdc] at this
      exact this
    have HDC := Lib.hid hdc
    have H15m := Lib.hid (fun W (h : Below w.heap.size w W) => H15m0.out W h)
    obtain ⟨hbl, g0, g1, g2, x0, x1, x2⟩ := hbox
    clear hfd hdc H15m0
    go_upto_if 20 with (go_at_call 16; ((with_reducible refine Calls.mono (H16.out _ (Below.refl _ _)) ?_); rintro e w5 ⟨rfl, hb5⟩; have HN5 := Lib.hid hb5; have HB5 := Lib.hid (btr HB4.out hb5 HB4.out.size); clear hb5))
    go_cut [] (fun wx => ∃ (r' : RecD) (sb' : Option Addr) (cb' : Nat), BoxAt b wx r'.kind r'.level (.slice sb' r'.fields.length cb') ∧ Hid (FieldsAt 0 wx.heap.size wx (.slice sb' r'.fields.length cb') r'.fields) ∧ Hid (wrongR r' = 0) ∧ Hid (Small r'.fields) ∧ Hid (Below w.heap.size w wx))
    case first =>
      cases dc
      · clear g0 g1 g2 x0 x1 x2
        have hz5 := HN5.out.size
        go_wp2_with (go_at_call 15; ((with_reducible refine Calls.mono (H15m.out _ HB5.out) ?_); rintro e w6 ⟨r6, hg6, hn6, hb6, s6, c6, rfl, hf6⟩; have HG6 := Lib.hid hg6; have HF6 := Lib.hid hf6; have HB6 := Lib.hid (btr HB5.out hb6 HB5.out.size); have HX6 := Lib.hid ((HBX.out.keep HN5.out).keep hb6); obtain ⟨_, g0, g1, g2, x0, x1, x2⟩ := HX6.out; clear hg6 hn6 hf6 hb6))
        go_meet
        exact ⟨r6, s6, c6, HX6.out.set r6.kind r6.level (.slice s6 r6.fields.length c6), (fields_set HF6.out (by left; omega) _ _ _).mono (Nat.zero_le _) (by simp), HG6.out.zero.1, HG6.out.small, below_set HB6.out (by have := HBLO.out; omega) _ _ _⟩
      · go_wp2_with fail
        go_meet
        exact ⟨r, sb, cb, HBX.out.keep HN5.out, fields_up HFD.out (Nat.le_refl _) HN5.out, by have := HDC.out; simpa [Hid] using this, HSM.out, HB5.out⟩
    case rest =>
      clear HBX HFD HSM H16 HDC HN5 HB5 g0 g1 g2 x0 x1 x2 HB4 HRM hbl
      obtain ⟨r, sb, cb, hbox, HFD, HW0, HSM, HB7⟩ := hcut
      generalize wc = w7 at *
      have HBX := Lib.hid hbox
      obtain ⟨hbl, g0, g1, g2, x0, x1, x2⟩ := hbox
      obtain ⟨sl, hsl⟩ : ∃ l, writeB r = l := ⟨_, rfl⟩
      have hwl := (write_length HW0.out).2
      have HWR : Hid (writeR r = (sl, 0)) := by rw [← hsl]; exact if_pos HW0.out
      have HPR : Hid (parseR sl = (r, 0, 0)) := by rw [← hsl]; exact parse_back HW0.out
      rw [hsl] at hwl
      clear hsl
      have H17 : Hid (Calls Tryd.prog 17 #[.agg #[.int .u8 r.kind.toNat, .int .u8 r.level.toNat, .slice sb r.fields.length cb]] w7 fun e w' => e = .returned (.tuple #[S sl, .int .i64 0]) ∧ Below w7.heap.size w7 w') := write_at r _ w7 HFD.out HSM.out HWR.out
      have H18 : Hid (∀ W, Below w.heap.size w W → Calls Tryd.prog 18 #[S sl] W fun e w' => ∃ sb cb, e = .returned (.tuple #[.agg #[.int .u8 r.kind.toNat, .int .u8 r.level.toNat, .slice sb r.fields.length cb], .int .i64 0, .int .i64 0]) ∧ Below W.heap.size W w' ∧ FieldsAt W.heap.size w'.heap.size w' (.slice sb r.fields.length cb) r.fields) := fun W hW => parse_good HPR.out (by omega) W (HT.out W hW)
      have H19 : Hid (∀ (x y : Value) (W : World), FieldsAt 0 W.heap.size W x r.fields → FieldsAt 0 W.heap.size W y r.fields →
          Calls Tryd.prog 19 #[.agg #[.int .u8 r.kind.toNat, .int .u8 r.level.toNat, x], .agg #[.int .u8 r.kind.toNat, .int .u8 r.level.toNat, y]] W fun e w' => e = .returned (.bool true) ∧ Below W.heap.size W w') := fun x y W h1 h2 => same_good x y W h1 h2 HSM.out
      go_wp2_with (first
        | (go_at_call 17; ((with_reducible refine Calls.mono H17.out ?_); rintro e w8 ⟨rfl, hb8⟩; have HN8 := Lib.hid hb8; have HB8 := Lib.hid (btr HB7.out hb8 HB7.out.size); clear hb8))
        | (go_at_call 18; ((with_reducible refine Calls.mono (H18.out _ HB8.out) ?_); rintro e w9 ⟨s9, c9, rfl, hb9, hf9⟩; have HF9 := Lib.hid hf9; have HB9 := Lib.hid (btr HB8.out hb9 HB8.out.size); have HNA := Lib.hid (btr HN8.out (btr hb9 (alloc_below1 w9 (recO r.kind r.level (.slice s9 r.fields.length c9))) hb9.size) HN8.out.size); obtain ⟨hbl9, k0, k1, k2, _⟩ := HBX.out.keep HNA.out; clear hf9 hb9))
        | (go_at_call 19; ((with_reducible refine Calls.mono (H19.out (.slice sb r.fields.length cb) (.slice s9 r.fields.length c9) _ (fields_up HFD.out (Nat.le_refl _) HNA.out) (fields_up HF9.out (Nat.le_refl _) (alloc_below1 _ _))) ?_); rintro e w10 ⟨rfl, hb10⟩; have HB10 := Lib.hid (btr HB9.out (btr (alloc_below1 _ _) hb10 (by simp)) HB9.out.size))))
      go_ret
      exact ⟨rfl, HB10.out⟩
end Go.Proofs.YtfkleeigdplapaaDoor
