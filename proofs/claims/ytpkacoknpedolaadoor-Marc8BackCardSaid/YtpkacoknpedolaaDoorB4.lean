/-
  The walks of need and opened; what a map of bytes answers.
-/
import Derived.Test.YtpkacoknpedolaaDoorB3
import Derived.Deep.DeepCutAuto
namespace Go.Proofs.YtpkacoknpedolaaDoor
open Go.RowKit Go.Maps

theorem keyOf_u8 (k : Nat) (h : k < 256) : keyOf Tryd.prog 5 (.int .u8 k) = some (.int .u8 k) := keyOf_int_mk Tryd.underlying5 (wf_u8n k h)
set_option maxRecDepth 100000 in
theorem MapB.look {w : World} {b n : Nat} {f : Nat → Option Nat} (h : MapB w b n f) (k : Nat) (hk : k < 256) :
    (Instr.lookup 50 (.map (some b)) (.int .u8 k) true).run Tryd.prog w = .ok (.tuple #[.int .i32 ((f k).getD 0 : Nat), .bool (f k).isSome]) w := by
  obtain ⟨D, ho, h1, h2⟩ := h
  obtain ⟨v, ps, hr, hv⟩ := ho.look_ok keyed5 Tryd.underlying50 (zero21 w) (zd := .lit (.int .i32 0)) (zp := []) (plainElem_int Tryd.underlying21 (by decide)) (keyOf_u8 k hk)
  obtain ⟨c, rfl, hc, _⟩ := plainElem_int_inv Tryd.underlying21 hv
  have h3 : D.atKey (.int .u8 k) (.lit (.int .i32 0)) = .lit (.int .i32 c) := congrArg Prod.fst hc
  have h4 : (DataW.lit (.int .i32 ((f k).getD 0 : Nat)) : DataW Unit) = .lit (.int .i32 c) := (h2 k).symm.trans h3
  have h5 : (((f k).getD 0 : Nat) : Int) = c := by injection h4 with h4; injection h4
  rw [hr, h5, h1 k]

/-- What need and opened panic with. -/
abbrev failV (at_ e : Int) : Ending := .panicked [{ v := .iface 43 (.agg #[.int .i64 at_, .int .i64 e]), recovered := false }]
theorem need_ok (at_ e : Int) (w : World) : Calls Tryd.prog 25 #[.bool true, .int .i64 at_, .int .i64 e] w fun e w' => e = .returned (.tuple #[]) ∧ w = w' := by
  go_enter Tryd.func25, Tryd.ntmps25
  go_wp2
  go_end0
  exact ⟨rfl, rfl⟩
theorem need_bad (at_ e : Int) (w : World) : Calls Tryd.prog 25 #[.bool false, .int .i64 at_, .int .i64 e] w fun e' w' => e' = failV at_ e ∧ w = w' := by
  go_enter Tryd.func25, Tryd.ntmps25
  go_wp2
  exact ⟨rfl, rfl, rfl⟩
theorem MapB.keep {w w' : World} {b n : Nat} {f : Nat → Option Nat} (h : MapB w b n f) (hb : w'.heap[b]? = w.heap[b]?) : MapB w' b n f := by
  obtain ⟨D, ⟨es, clock, hh, F, hs, hD⟩, h1, h2⟩ := h
  exact ⟨D, ⟨es, clock, hb.trans hh, F, hs, hD⟩, h1, h2⟩
/-- The sign and the map of a set in memory. -/
def signOf : Nat → Nat
  | 0 => 66
  | 1 => 83
  | _ => 78
def SetV (w : World) (n : Nat) (v : Value) : Prop := ∃ m k, v = .agg #[.int .u8 (signOf n), .map (some m)] ∧ MapB w m k (tabF (setT n))
def OpenPost (at_ : Nat) (r : Except Int Nat) (w : World) (e : Ending) (w' : World) : Prop :=
  Below w.heap.size w w' ∧ match r with
    | .error x => e = failV at_ x
    | .ok n => ∃ m k, e = .returned (.agg #[.int .u8 (signOf n), .map (some m)]) ∧ MapB w' m k (tabF (setT n))
theorem results_cell {fn : Func} {p : Tmp} {ty : TypeId} (h : fn.results = #[.cell p ty]) (tmps : Array Value) (P : Program) (w : World) :
    (results fn tmps).run P w = ((asAddr (tmps.getD p undef)).run P w).andThen fun a w₁ => (loadVar ty a).run P w₁ := by
  simp only [results, h]
  simp [Sem.run_bind]
theorem u8_eq (a : UInt8) (n : Nat) (hn : n < 256) : ((a.toNat : Int) == (n : Int)) = decide (a = UInt8.ofNat n) := by
  rw [Bool.eq_iff_iff]
  simp only [beq_iff_eq, decide_eq_true_eq]
  constructor
  · intro e
    have e2 : a.toNat = n := by omega
    rw [← e2, UInt8.ofNat_toNat]
  · intro e
    rw [e, UInt8.toNat_ofNat_of_lt' hn]
set_option maxHeartbeats 1000000 in
set_option maxRecDepth 100000 in
theorem opened_28 (l : Bs) (k : Nat) (v : Value) (w : World) (hk : k < l.length) (hl : l.length ≤ 140737488355000) (hs : SetsAt w v) :
    Calls Tryd.prog 28 #[S l, .int .i64 k, v] w (OpenPost k (openedR (l.drop (k + 1))) w) := by
  obtain ⟨b, m0, m1, m2, n0, n1, n2, rfl, hb, ⟨c0, c1, c2, c3, c4, c5⟩, M0, M1, M2⟩ := hs
  have k1 : ((k : Int) + 1) ≤ l.length := by omega
  have k2 : (0 : Int) ≤ k := by omega
  have k3 : IntKind.i64.wrap ((k : Int) + 1) = k + 1 := IntWalk.i64_in _ (by omega)
  have hrl : (l.drop (k + 1)).length ≤ 140737488355000 := by simp; omega
  have hsz : Below w.heap.size w (w.alloc (Obj.cells #[Value.int IntKind.u8 0, Value.map none] 53)) := alloc_below1 _ _
  cases hr : l.drop (k + 1) with
  | nil =>
    go_enter Tryd.func28, Tryd.ntmps28
    go_wp2_with (first
      | (go_at_call_of 25 (Value.bool true); ((with_reducible refine Calls.mono (need_ok _ _ _) ?_); rintro e w' ⟨rfl, rfl⟩))
      | (go_at_call_of 25 (Value.bool false); ((with_reducible refine Calls.mono (need_bad _ _ _) ?_); rintro e w' ⟨rfl, rfl⟩)))
    exact ⟨rfl, hsz, rfl⟩
  | cons a r =>
    rw [hr] at hrl
    by_cases ha : a = 40
    · subst ha
      cases r with
      | nil =>
        go_enter Tryd.func28, Tryd.ntmps28
        go_wp2_with (first
          | (go_at_call_of 25 (Value.bool true); ((with_reducible refine Calls.mono (need_ok _ _ _) ?_); rintro e w' ⟨rfl, rfl⟩))
          | (go_at_call_of 25 (Value.bool false); ((with_reducible refine Calls.mono (need_bad _ _ _) ?_); rintro e w' ⟨rfl, rfl⟩)))
        exact ⟨rfl, hsz, rfl⟩
      | cons x r =>
        have hx1 := u8_lt x
        have hx2 : (1 : Int) < (r.length : Int) + 1 + 1 := by omega
        go_enter Tryd.func28, Tryd.ntmps28
        go_wp2_with (first
          | (go_at_call_of 25 (Value.bool true); ((with_reducible refine Calls.mono (need_ok _ _ _) ?_); rintro e w' ⟨rfl, rfl⟩))
          | (go_at_call_of 25 (Value.bool false); ((with_reducible refine Calls.mono (need_bad _ _ _) ?_); rintro e w' ⟨rfl, rfl⟩)))
        go_loopw [30] (fun i wr => ∃ j : Nat, j ≤ 3 ∧ i = .int .i64 j ∧ Below w.heap.size w wr ∧ Hid (wr.heap[w.heap.size]? = some (.cells #[.int .u8 0, .map none] 53 (0, 0))) ∧ Hid (∀ i, i < j → x ≠ UInt8.ofNat (signOf i))) (fun i _ => 3 - (intOf i).toNat)
        case atStart => exact ⟨0, by omega, rfl, hsz, Array.getElem?_push_size, fun i hi => by omega⟩
        case round =>
          obtain ⟨j, hj, rfl, hb2, HB, HN⟩ := hrel
          have g0 : wr.cell? ⟨w.heap.size, 0, none⟩ = some (.int .u8 0) := by rw [Lib.cell_of_heap HB.out]; rfl
          have g1 : wr.cell? ⟨w.heap.size, 1, none⟩ = some (.map none) := by rw [Lib.cell_of_heap HB.out]; rfl
          have gf0 : wr.frozen? ⟨w.heap.size, 0, none⟩ = false := Lib.frozen_of_heap HB.out 0
          have gf1 : wr.frozen? ⟨w.heap.size, 1, none⟩ = false := Lib.frozen_of_heap HB.out 1
          have hx := bext hb2
          have hbz := hb2.size
          have hlt := (Array.getElem?_eq_some_iff.1 HB.out).1
          have mixed : Tryd.prog.follows Departure.mixedOrders = true := by kernel_rfl
          by_cases hj3 : j < 3
          · obtain ⟨mj, nj, d0, d1, hmj⟩ : ∃ mj nj, wr.cell? ⟨b, j * 2, none⟩ = some (.int .u8 (signOf j)) ∧ wr.cell? ⟨b, j * 2 + 1, none⟩ = some (.map (some mj)) ∧ MapB w mj nj (tabF (setT j)) := by
              match j, hj3 with
              | 0, _ => exact ⟨m0, n0, hx _ _ c0, hx _ _ c1, M0⟩
              | 1, _ => exact ⟨m1, n1, hx _ _ c2, hx _ _ c3, M1⟩
              | 2, _ => exact ⟨m2, n2, hx _ _ c4, hx _ _ c5, M2⟩
            have hsg : signOf j < 256 := by unfold signOf; split <;> omega
            have hbeq := u8_eq x (signOf j) hsg
            have HSJ : Hid (x = UInt8.ofNat (signOf j) → (∀ i, i < j → x ≠ UInt8.ofNat (signOf i)) → openedR (40 :: x :: r) = .ok j) := by
              intro h1 h2
              match j, hj3 with
              | 0, _ => subst h1; rfl
              | 1, _ => subst h1; rfl
              | 2, _ => subst h1; rfl
            have HMJ := Lib.hid hmj
            have hji : (j : Int) < 3 := by omega
            have HSG : Hid (∃ s, s = signOf j) := ⟨_, rfl⟩
            obtain ⟨sg, hsgd⟩ := HSG.out
            clear HSG
            have HSG := Lib.hid hsgd
            rw [← hsgd] at d0 hsg hbeq HSJ
            clear hsgd
            clear hx c0 c1 c2 c3 c4 c5 M0 M1 M2 hmj
            by_cases hq : x = UInt8.ofNat sg
            · have he : ((sg : Int) == (x.toNat : Int)) = true := by rw [Bool.beq_comm, hbeq]; simpa using hq
              have HOP := Lib.hid (HSJ.out hq HN.out)
              go_wp2_with fail
              go_region_o
              all_goals go_wp2_with fail
              refine bodyPost_ret (v := .agg #[.int .u8 sg, .map (some mj)]) (by rw [results_cell rfl]; go_simp) rfl ?_
              refine ⟨(((hb2.setCell (Nat.le_refl _) _).setCell (Nat.le_refl _) _).alloc (by simpa using hbz) _).drew, ?_⟩
              rw [HOP.out]
              refine ⟨mj, nj, by rw [HSG.out], ?_⟩
              have hml : mj < w.heap.size := by obtain ⟨D, ho, _⟩ := HMJ.out; exact ho.lt
              have hne : mj ≠ w.heap.size := by omega
              exact HMJ.out.keep (by
                show ((((wr.setCell _ _).setCell _ _).alloc _).drew).heap[mj]? = _
                rw [show ∀ W : World, W.drew.heap = W.heap from fun _ => rfl, Below.heap_alloc _ _ _ (by simp; omega), Below.heap_setCell _ _ _ _ hne, Below.heap_setCell _ _ _ _ hne, hb2.block mj hml])
            · have he : ((sg : Int) == (x.toNat : Int)) = false := by rw [Bool.beq_comm, hbeq]; simpa using hq
              go_wp2_with fail
              go_region_o
              all_goals go_wp2_with fail
              refine ⟨⟨j + 1, by omega, by go_num, (hb2.alloc hbz _).drew, ?_, ?_⟩, by simp [intOf]; omega⟩
              · show ((wr.alloc _).drew).heap[w.heap.size]? = _
                rw [show ∀ W : World, W.drew.heap = W.heap from fun _ => rfl, Below.heap_alloc _ _ _ hlt]; exact HB.out
              · intro i hi
                by_cases e : i = j
                · subst e; exact HSG.out ▸ hq
                · exact HN.out i (by omega)
          · have hj0 : j = 3 := by omega
            subst hj0
            have n0 : x ≠ 66 := HN.out 0 (by omega)
            have n1 : x ≠ 83 := HN.out 1 (by omega)
            have n2 : x ≠ 78 := HN.out 2 (by omega)
            have HOP : Hid (openedR (40 :: x :: r) = .error 15) := by
              unfold openedR
              show (if (40 : UInt8) ≠ 40 then _ else _) = _
              rw [if_neg (by simp), if_neg n0, if_neg n1, if_neg n2]
            clear n0 n1 n2
            go_wp2_with fail
            exact ⟨rfl, hb2, by rw [HOP.out]⟩
    · have ha2 : ((a.toNat : Int) == 40) = false := by rw [show (40 : Int) = ((40 : Nat) : Int) from rfl, u8_eq a 40 (by omega)]; simpa using ha
      have hop : openedR (a :: r) = .error 15 := by
        cases r with
        | nil => simp [openedR, ha]
        | cons x r => simp [openedR, ha]
      rw [hop]
      go_enter Tryd.func28, Tryd.ntmps28
      go_wp2_with (first
        | (go_at_call_of 25 (Value.bool true); ((with_reducible refine Calls.mono (need_ok _ _ _) ?_); rintro e w' ⟨rfl, rfl⟩))
        | (go_at_call_of 25 (Value.bool false); ((with_reducible refine Calls.mono (need_bad _ _ _) ?_); rintro e w' ⟨rfl, rfl⟩)))
      exact ⟨rfl, hsz, rfl⟩
end Go.Proofs.YtpkacoknpedolaaDoor
