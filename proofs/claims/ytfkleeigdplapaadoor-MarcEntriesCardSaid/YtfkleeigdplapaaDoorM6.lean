/-
  append of the argument's triples behind two others; the walk of MarcEntries.
-/
import Derived.Test.YtfkleeigdplapaaDoorM5
import Derived.Deep.AppendSrc
import Derived.Deep.Slices
import Derived.Deep.QuietTactic
import Derived.BigQuiet
namespace Go.Proofs.YtfkleeigdplapaaDoor
open Go.RowKit
attribute [local go_sem ↓] Go.wp_at_zero Go.wp_at_succ

theorem i23 : (Tryd.prog.info? 23).map (fun i => (i.zero, i.size, i.bytes)) = some (some (.agg #[.int .i64 0, .int .i64 0, .int .i64 0]), 3, 24) := by kernel_rfl
theorem add_at (b o j : Nat) : (⟨b, o, none⟩ : Addr).add j = ⟨b, o + j, none⟩ := by unfold Addr.add; split <;> simp_all
theorem app_triples (W : World) (D n : Nat) (x : Value) (hD : D < W.heap.size) (hc : ∀ j, j < 6 → ∃ z : Int, W.cell? ⟨D, j, none⟩ = some (.int .i64 z)) (hx : IntsAt W x n) (hn : (n + 2) * 24 ≤ 140737488355328) :
    ∃ sa cap w', (Builtin.append_ #[22, 22] 22 #[.slice (some ⟨D, 0, none⟩) 2 2, x]).run Tryd.prog W = .ok (.slice sa (n + 2) cap) w' ∧ Below W.heap.size W w' ∧ IntsAt w' (.slice sa (n + 2) cap) (n + 2) := by
  obtain ⟨i, hi, hz, hs, hby⟩ := info_parts i23
  obtain ⟨a, cap, rfl, h⟩ := hx
  by_cases h0 : n = 0
  · subst h0
    have hsrc : Src Tryd.prog i.size 22 (.slice a 0 cap) 0 [] W := by
      cases a with
      | none => exact Src.ofNil W Tryd.underlying22 cap
      | some a => exact Src.ofSlice W Tryd.underlying22 a 0 cap [] (by simp) (by simp) (by simp)
    have hr := run_append_room_src (P := Tryd.prog) W 22 22 22 23 i Tryd.underlying22 hi D 0 2 2 (.slice a 0 cap) 0 [] hsrc (by omega) (by simp) (by simp)
    refine ⟨_, _, _, hr, Below.refl _ _, some ⟨D, 0, none⟩, 2, rfl, fun _ => ⟨D, 0, rfl, hD, fun j hj => ?_⟩⟩
    obtain ⟨z, hz⟩ := hc j (by omega)
    refine ⟨z, ?_⟩
    rw [show 0 + j = j from by omega]
    exact hz
  · obtain ⟨b, off, rfl, hb, hcs⟩ := h (by omega)
    obtain ⟨f, hf⟩ := Go.Deep.choose_lt hcs
    obtain ⟨g, hg⟩ := Go.Deep.choose_lt hc
    have hsrc : Src Tryd.prog i.size 22 (.slice (some ⟨b, off, none⟩) n cap) n ((List.range (3 * n)).map fun j => .int .i64 (f j)) W := by
      rw [hs]
      refine Src.ofSlice W Tryd.underlying22 ⟨b, off, none⟩ n cap _ (by simp; omega) (fun j u hj => ?_) (fun u hu => ?_)
      · have hj' : j < 3 * n := by have := (List.getElem?_eq_some_iff.1 hj).1; simpa using this
        rw [add_at, hf j hj']
        simpa [hj'] using hj
      · obtain ⟨j, _, rfl⟩ := List.mem_map.1 hu
        rfl
    have hold : (Builtin.firstCells i.size 2 (.slice (some ⟨D, 0, none⟩) 2 2)).run Tryd.prog W.drew = .ok ((List.range 6).map fun j => Value.int .i64 (g j)).toArray W.drew := by
      rw [hs]
      refine run_firstCells_some (P := Tryd.prog) W.drew 3 2 ⟨D, 0, none⟩ 2 2 _ (by simp) (fun j v hj => ?_)
      have hj' : j < 6 := by have := (List.getElem?_eq_some_iff.1 hj).1; simpa using this
      rw [add_at, Nat.zero_add]
      refine Eq.trans (hg j hj') ?_
      simpa [hj'] using hj
    have hr := run_append_grow_src (P := Tryd.prog) W 22 22 22 23 i _ Tryd.underlying22 hi hz (some ⟨D, 0, none⟩) 2 2 _ hold (.slice (some ⟨b, off, none⟩) n cap) n _ hsrc (by omega) (by omega) (by rw [hby]; exact growslice_fits (by omega) (by omega))
    rw [show 2 + n = n + 2 from by omega] at hr
    refine ⟨_, _, _, hr, (Below.refl _ W).drew.alloc (Nat.le_refl _) _, some ⟨W.heap.size, 0, none⟩, _, rfl, fun _ => ⟨W.heap.size, 0, rfl, by simp, fun j hj => ?_⟩⟩
    rw [Nat.zero_add]
    by_cases hj6 : j < 6
    · refine ⟨g j, ?_⟩
      have := World.cell?_alloc_new W.drew (((List.range 6).map (fun j => Value.int .i64 (g j)) ++ (List.range (3 * n)).map fun j => Value.int .i64 (f j)).toArray ++ Builtin.zeroCells (Value.agg #[.int .i64 0, .int .i64 0, .int .i64 0]).cells (grownCap W (n + 2) 2 23 - (n + 2))) 23 j
      refine Eq.trans this ?_
      rw [Array.getElem?_append_left (by simp; omega)]
      simp only [List.getElem?_toArray]
      rw [List.getElem?_append_left (by simpa using hj6)]
      simp [hj6]
    · refine ⟨f (j - 6), ?_⟩
      have := World.cell?_alloc_new W.drew (((List.range 6).map (fun j => Value.int .i64 (g j)) ++ (List.range (3 * n)).map fun j => Value.int .i64 (f j)).toArray ++ Builtin.zeroCells (Value.agg #[.int .i64 0, .int .i64 0, .int .i64 0]).cells (grownCap W (n + 2) 2 23 - (n + 2))) 23 j
      refine Eq.trans this ?_
      rw [Array.getElem?_append_left (by simp; omega)]
      simp only [List.getElem?_toArray]
      rw [List.getElem?_append_right (by simp; omega)]
      simp only [List.length_map, List.length_range]
      rw [List.getElem?_map, List.getElem?_range (by omega)]
      rfl
theorem six_cells (w : World) (a b c d e f : Int) : ∀ j, j < 6 → ∃ z : Int, (w.alloc (Obj.cells #[.int .i64 a, .int .i64 b, .int .i64 c, .int .i64 d, .int .i64 e, .int .i64 f] 23)).cell? ⟨w.heap.size, j, none⟩ = some (.int .i64 z)
  | 0, _ => ⟨a, by rw [World.cell?_alloc_new]; rfl⟩
  | 1, _ => ⟨b, by rw [World.cell?_alloc_new]; rfl⟩
  | 2, _ => ⟨c, by rw [World.cell?_alloc_new]; rfl⟩
  | 3, _ => ⟨d, by rw [World.cell?_alloc_new]; rfl⟩
  | 4, _ => ⟨e, by rw [World.cell?_alloc_new]; rfl⟩
  | 5, _ => ⟨f, by rw [World.cell?_alloc_new]; rfl⟩
  | _ + 6, h => by omega
/-- append as the walk meets it: what the run gives. -/
theorem wpList_app22 {w : World} {ops : Array Oper} {rest : List Oper} {o : Oper} {a : Act} {Q : Exit → Act → World → Prop} (hgd : o.guard = none) (sl x : Operand)
    (ho : o.op = .call { callee := .builtin .append, args := #[sl, x], argTypes := #[22, 22] }) (hty : o.type = 22) (v u v' : Value) (w' : World) (hs : a.eval sl = v) (hx : a.eval x = u)
    (hr : (Builtin.append_ #[22, 22] 22 #[v, u]).run Tryd.prog w = .ok v' w') (h : wpList Tryd.prog ops Q rest (a.put o.dst v') w') : wpList Tryd.prog ops Q (o :: rest) a w := by
  refine wpList_plain hgd fun K hK => ?_
  unfold Oper.wp execOp
  simp only [ho, hty, resolve, invoke, builtin, Sem.run_bind, Sem.run_pure, Result.andThen_ok, List.map_toArray, List.map_cons, List.map_nil, hs, hx, hr]
  exact hK _ _ h
set_option maxHeartbeats 4000000 in
set_option maxRecDepth 100000 in
theorem entries_8 (n : Nat) (x : Value) (z q0 q1 : Int) (w : World) (hT : Tabs w) (hx : IntsAt w x n) (hn : (n + 2) * 24 ≤ 140737488355328) :
    Calls Tryd.prog 8 #[x, .int .i64 z, .agg #[.int .i64 q0, .int .i64 q1]] w fun e w' => e = .returned (.bool true) ∧ Below w.heap.size w w' := by
  have HT := Lib.hid (fun W (h : Below w.heap.size w W) => tabs_below hT h)
  have H13 := Lib.hid (fun W (h : Below w.heap.size w W) => sanity_13 W (tabs_below hT h))
  have HX := Lib.hid (fun W (h : Below w.heap.size w W) => hx.below h)
  have HN := Lib.hid hn
  have H15 := Lib.hid (fun sa cap W (h : IntsAt W (.slice sa (n + 2) cap) (n + 2)) => made_at (n + 2) (.slice sa (n + 2) cap) W h (by unfold maxLen; omega))
  obtain ⟨sa0, cap0, rfl⟩ := hx.shape
  clear hT hx hn
  go_enter Tryd.func8, Tryd.ntmps8
  have HQ : Hid (∀ W, Below (w.heap.size + 1) (w.alloc (Obj.cells #[.int .i64 q0, .int .i64 q1] 38)) W → W.cell? ⟨w.heap.size, 0, none⟩ = some (.int .i64 q0) ∧ W.cell? ⟨w.heap.size, 1, none⟩ = some (.int .i64 q1)) := fun W h => by
    refine ⟨?_, ?_⟩ <;> (rw [h.cell (p := ⟨w.heap.size, _, none⟩) (by simp)]; go_simp)
  go_wp2_with (first
    | (go_at_call 13; ((with_reducible refine Calls.mono (H13.out _ (alloc_below1 _ _)) ?_); rintro e w1 ⟨rfl, hb1⟩; have HB1 : Hid (Below (w.heap.size + 1) (w.alloc (Obj.cells #[.int .i64 q0, .int .i64 q1] 38)) w1) := hb1.mono (by simp); obtain ⟨sa, capx, w2, hr2, hb2, hx2⟩ := app_triples (w1.alloc (Obj.cells #[.int .i64 4, .int .i64 1, .int .i64 2, .int .i64 6, .int .i64 2, .int .i64 1] 23)) w1.heap.size n (.slice sa0 n cap0) (by simp) (six_cells w1 4 1 2 6 2 1) (HX.out _ (btr (btr (alloc_below1 w _) hb1 (by simp)) (alloc_below1 _ _) (by have := HB1.out.size; simp at this; omega))) HN.out; have HR2 := Lib.hid hr2; have HX2 := Lib.hid hx2; have HB2 := Lib.hid (btr HB1.out (btr (alloc_below1 _ _) hb2 (by simp)) (by have := HB1.out.size; simpa using this)); clear hr2 hx2 hb2))
    | (at_builtin; refine wpList_app22 rfl _ _ rfl rfl _ _ _ _ rfl rfl HR2.out ?_))
  ((with_reducible refine Calls.mono (H15.out sa capx w2 HX2.out) ?_); rintro e w3 ⟨r, sb, cb, rfl, hb3, hm3, HLN⟩)
  have HM3 := Lib.hid hm3
  have HB3 := Lib.hid (btr HB2.out hb3 (by have := HB2.out.size; simpa using this))
  have hfl : 2 ≤ r.fields.length ∧ r.fields.length ≤ 12 := by have := HLN.out; omega
  clear hm3 H15 HX2 HLN HX
  go_wp2_with fail
  generalize hWR : (w3.alloc (Obj.cells #[Value.int IntKind.u8 ↑r.kind.toNat, Value.int IntKind.u8 ↑r.level.toNat, Value.slice sb r.fields.length cb] 27)) = w4
  have hb4 : Below w3.heap.size w3 w4 := by rw [← hWR]; exact alloc_below1 _ _
  have hz4 : w3.heap.size < w4.heap.size := by rw [← hWR]; simp
  have r2 : w4.cell? ⟨w3.heap.size, 2, none⟩ = some (.slice sb r.fields.length cb) := by rw [← hWR, World.cell?_alloc_new]; rfl
  clear hWR
  have HM4 := Lib.hid (HM3.out.below hb4)
  have HB4 := Lib.hid (btr HB3.out hb4 (by have := HB3.out.size; simpa using this))
  obtain ⟨sl, hsl⟩ : ∃ l, l = writeB r := ⟨_, rfl⟩
  obtain ⟨hl26, hl1000⟩ := good_len HM4.out.1
  have hwl := (write_length HM4.out.1.zero.1).1
  have H20 := Lib.hid (write20_at r sb cb w4 HM4.out)
  rw [← hsl] at H20 hl26 hl1000 hwl
  have hfs : 26 + 12 * r.fields.length ≤ sl.length := by omega
  clear hsl hwl HM3 HM4
  ((with_reducible refine Calls.mono H20.out ?_); rintro e w5 ⟨rfl, hb5⟩)
  have HB5 := Lib.hid (btr HB4.out hb5 (by have := HB4.out.size; simpa using this))
  obtain ⟨hcc5, hff5⟩ := bcell hb5
  obtain ⟨hf2, hf12⟩ := hfl
  clear H20 hb3 hb4
  go_wp2_with (go_at_call 21; ((with_reducible refine Calls.mono (mod_int _ _ r.fields.length (by omega) (by omega) rfl _) ?_); rintro e w' ⟨m, hm, rfl, rfl⟩; have hmi : 24 + 12 * (m : Int) + 14 ≤ sl.length := (by omega)))
  have HD4 : Hid (∀ (v : Nat) W, v < 1000000 → Calls Tryd.prog 25 #[.int .i64 v, .int .i64 4] W fun e w' => e = .returned (S (fixedN 4 v)) ∧ Below W.heap.size W w') := fun v W hv => digits_25 4 v W (by omega) (by omega) (by omega)
  have HD5 : Hid (∀ (v : Nat) W, v < 1000000 → Calls Tryd.prog 25 #[.int .i64 v, .int .i64 5] W fun e w' => e = .returned (S (fixedN 5 v)) ∧ Below W.heap.size W w') := fun v W hv => digits_25 5 v W (by omega) (by omega) (by omega)
  obtain ⟨b0, b1⟩ := HQ.out w5 HB5.out
  clear hcc5 hff5 hb5
  go_cut [12] (fun t wx => ∃ X : Bs, t = S X ∧ X.length ≤ 3000 ∧ Below w5.heap.size w5 wx)
  case first =>
    have s1 : IntKind.i64.wrap (24 + 12 * (m : Int) + 3) = 24 + 12 * m + 3 := IntWalk.i64_in _ (by omega)
    have s2 : IntKind.i64.wrap (24 + 12 * (m : Int) + 12) = 24 + 12 * m + 12 := IntWalk.i64_in _ (by omega)
    have t1 : (0 : Int) ≤ 24 + 12 * (m : Int) + 3 := by omega
    have t2 : (0 : Int) ≤ 24 + 12 * (m : Int) + 12 := by omega
    have t3 : 24 + 12 * (m : Int) + 3 ≤ sl.length := by omega
    have t4 : 24 + 12 * (m : Int) + 12 ≤ sl.length := by omega
    obtain ⟨P, hP⟩ : ∃ P, List.take (24 + 12 * (m : Int) + 3).toNat sl = P := ⟨_, rfl⟩
    obtain ⟨R, hR⟩ : ∃ R, List.drop (24 + 12 * (m : Int) + 12).toNat sl = R := ⟨_, rfl⟩
    have hPl : P.length ≤ 1000 := by rw [← hP]; simp; omega
    have hRl : R.length ≤ 1000 := by rw [← hR]; simp; omega
    have u1 : ¬ 9223372036854775807 < P.length + 4 := by omega
    have u2 : ¬ 9223372036854775807 < P.length + 4 + 5 := by omega
    have u3 : ¬ 9223372036854775807 < P.length + (4 + 5) := by omega
    have u4 : ¬ 9223372036854775807 < P.length + (4 + 5) + R.length := by omega
    have u5 : ¬ 9223372036854775807 < P.length + (4 + 5 + R.length) := by omega
    have u6 : ¬ 9223372036854775807 < P.length + (4 + (5 + R.length)) := by omega
    have u7 : ¬ 9223372036854775807 < P.length + 4 + 5 + R.length := by omega
    have u8 : ¬ 9223372036854775807 < P.length + 9 := by omega
    have u9 : ¬ 9223372036854775807 < P.length + 9 + R.length := by omega
    go_region_held3 (fun w' => w'.cell? ⟨w.heap.size, 0, none⟩ = some (.int .i64 q0) ∧ w'.cell? ⟨w.heap.size, 1, none⟩ = some (.int .i64 q1)) (go_keep)
      (first
        | (go_at_call_of 21 (Value.int IntKind.i64 q0); ((with_reducible refine Calls.mono (mod_at q0 10000 (by decide) (by decide) _) ?_); rintro e w' ⟨ma, hma, rfl, rfl⟩))
        | (go_at_call 25; ((with_reducible refine Calls.mono (HD4.out ma _ (by omega)) ?_); rintro e wa ⟨rfl, hba⟩; have hxa := bext hba))
        | (go_at_call_of 21 (Value.int IntKind.i64 q1); ((with_reducible refine Calls.mono (mod_at q1 100000 (by decide) (by decide) _) ?_); rintro e w' ⟨mb, hmb, rfl, rfl⟩))
        | (go_at_call 25; ((with_reducible refine Calls.mono (HD5.out mb _ (by omega)) ?_); rintro e wb ⟨rfl, hbb⟩; have hxb := bext hbb)))
    all_goals
      clear hxa hxb
      go_wp2_with fail
      go_meet
      refine ⟨_, rfl, by simp [fixedN_length]; omega, ?_⟩
      exact btr ((Below.refl _ w5).drew) (btr hba hbb hba.size) (by simp)
  case rest =>
  obtain ⟨X12, rfl, hX12, hbx12⟩ := hcut
  generalize wc = w6 at *
  have HB6 := Lib.hid (btr HB5.out hbx12 (by have := HB5.out.size; simpa using this))
  clear b0 b1
  obtain ⟨b0, b1⟩ := HQ.out w6 HB6.out
  clear hbx12
  go_wp2_with fail
  go_cut [13] (fun t wx => ∃ X : Bs, t = S X ∧ X.length ≤ 3000 ∧ Below w6.heap.size w6 wx)
  case first =>
    have s1 : IntKind.i64.wrap (24 + 12 * (m : Int) + 3) = 24 + 12 * m + 3 := IntWalk.i64_in _ (by omega)
    have s2 : IntKind.i64.wrap (24 + 12 * (m : Int) + 12) = 24 + 12 * m + 12 := IntWalk.i64_in _ (by omega)
    have t1 : (0 : Int) ≤ 24 + 12 * (m : Int) + 3 := by omega
    have t2 : (0 : Int) ≤ 24 + 12 * (m : Int) + 12 := by omega
    have t3 : 24 + 12 * (m : Int) + 3 ≤ sl.length := by omega
    have t4 : 24 + 12 * (m : Int) + 12 ≤ sl.length := by omega
    obtain ⟨P, hP⟩ : ∃ P, List.take (24 + 12 * (m : Int) + 3).toNat sl = P := ⟨_, rfl⟩
    obtain ⟨R, hR⟩ : ∃ R, List.drop (24 + 12 * (m : Int) + 12).toNat sl = R := ⟨_, rfl⟩
    have hPl : P.length ≤ 1000 := by rw [← hP]; simp; omega
    have hRl : R.length ≤ 1000 := by rw [← hR]; simp; omega
    have u1 : ¬ 9223372036854775807 < P.length + 4 := by omega
    have u2 : ¬ 9223372036854775807 < P.length + 4 + 5 := by omega
    have u3 : ¬ 9223372036854775807 < P.length + (4 + 5) := by omega
    have u4 : ¬ 9223372036854775807 < P.length + (4 + 5) + R.length := by omega
    have u5 : ¬ 9223372036854775807 < P.length + (4 + 5 + R.length) := by omega
    have u6 : ¬ 9223372036854775807 < P.length + (4 + (5 + R.length)) := by omega
    have u7 : ¬ 9223372036854775807 < P.length + 4 + 5 + R.length := by omega
    have u8 : ¬ 9223372036854775807 < P.length + 9 := by omega
    have u9 : ¬ 9223372036854775807 < P.length + 9 + R.length := by omega
    go_region_held3 (fun w' => w'.cell? ⟨w.heap.size, 0, none⟩ = some (.int .i64 q0) ∧ w'.cell? ⟨w.heap.size, 1, none⟩ = some (.int .i64 q1)) (go_keep)
      (first
        | (go_at_call_of 21 (Value.int IntKind.i64 q0); ((with_reducible refine Calls.mono (mod_at q0 60 (by decide) (by decide) _) ?_); rintro e w' ⟨ma, hma, rfl, rfl⟩))
        | (go_at_call 25; ((with_reducible refine Calls.mono (HD4.out ma _ (by omega)) ?_); rintro e wa ⟨rfl, hba⟩; have hxa := bext hba))
        | (go_at_call_of 21 (Value.int IntKind.i64 q1); ((with_reducible refine Calls.mono (mod_at q1 60 (by decide) (by decide) _) ?_); rintro e w' ⟨mb, hmb, rfl, rfl⟩))
        | (go_at_call 25; ((with_reducible refine Calls.mono (HD5.out mb _ (by omega)) ?_); rintro e wb ⟨rfl, hbb⟩; have hxb := bext hbb)))
    all_goals
      clear hxa hxb
      go_wp2_with fail
      go_meet
      refine ⟨_, rfl, by simp [fixedN_length]; omega, ?_⟩
      exact btr ((Below.refl _ w6).drew) (btr hba hbb hba.size) (by simp)
  case rest =>
  obtain ⟨X13, rfl, hX13, hbx13⟩ := hcut
  generalize wc = w7 at *
  have HB7 := Lib.hid (btr (alloc_below1 w _) (btr HB6.out hbx13 (by have := HB6.out.size; simpa using this)) (by omega))
  clear hbx13 b0 b1
  go_wp2_with fail
  go_cut [14] (fun t wx => ∃ X : Bs, t = S X ∧ X.length ≤ 3000 ∧ Below w7.heap.size w7 wx)
  case first =>
    have t1 : (36 : Int) ≤ sl.length := by omega
    have t2 : (48 : Int) ≤ sl.length := by omega
    have t3 : (24 : Int) ≤ sl.length := by omega
    go_quiet (fail)
    all_goals
      go_wp2_with fail
      go_meet
      exact ⟨_, rfl, by simp; omega, ⟨rfl, rfl, rfl, Nat.le_refl _, fun _ _ => rfl⟩⟩
  case rest =>
  obtain ⟨X14, rfl, hX14, hbx14⟩ := hcut
  generalize wc = w8 at *
  have HB8 := Lib.hid (btr HB7.out hbx14 HB7.out.size)
  go_wp2_with fail
  ((with_reducible refine Calls.mono (parses_at X12 _ (by omega) (HT.out _ HB8.out)) ?_); rintro e w9 ⟨rfl, hb9⟩; have HB9 := Lib.hid (btr HB8.out hb9 HB8.out.size))
  go_wp2_with fail
  ((with_reducible refine Calls.mono (parses_at X13 _ (by omega) (HT.out _ HB9.out)) ?_); rintro e w10 ⟨rfl, hb10⟩; have HB10 := Lib.hid (btr HB9.out hb10 HB9.out.size))
  go_wp2_with fail
  ((with_reducible refine Calls.mono (parses_at X14 _ (by omega) (HT.out _ HB10.out)) ?_); rintro e w11 ⟨rfl, hb11⟩; have HB11 := Lib.hid (btr HB10.out hb11 HB10.out.size))
  go_wp2_with fail
  go_ret
  exact ⟨rfl, HB11.out⟩
end Go.Proofs.YtfkleeigdplapaaDoor
