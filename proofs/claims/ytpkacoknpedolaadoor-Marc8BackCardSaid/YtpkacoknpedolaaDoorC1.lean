/-
  The walk of guard: what a conversion returns, or where and how it failed.
  The closure that guard defers: it recovers and lays the offset and the error.
-/
import Derived.Test.YtpkacoknpedolaaDoorB6
import Derived.Deep.RegionHeld3
import Derived.Deep.DeepCutAuto
import Derived.Defers
import Derived.Recover
namespace Go.Proofs.YtpkacoknpedolaaDoor
open Go.RowKit

theorem catch_idle (p q r : Addr) (w : World) :
    CallsD Tryd.prog 21 #[.pointer (some p), .pointer (some q), .pointer (some r)] .returning w fun e u' w' => e = .returned (.tuple #[]) ∧ u' = .returning ∧ w' = w := by
  refine callsD_of_wpS Tryd.func21 rfl fun c₀ cs hu => ?_
  apply wpS_seq
  apply wpS_region
  simp [wpOpsS, go_sem, recoverD, hu, Tryd.ntmps21, Exit.thenS]
  apply wpS_seq
  apply wpS_region
  simp [wpOpsS, go_sem, Exit.thenS]
  refine wpS_cond (t := false) (by simp [Act.eval, Array.replicate]) ?_
  simp only [Bool.false_eq_true, if_false]
  refine wpS_of_wp (wp_skip ?_)
  cases c₀
  simp_all [bodyPostS, results, Tryd.results21]
theorem cell_new_drew (X : World) (c : Array Value) (t : TypeId) (n i : Nat) (v : Value) (hn : n = X.heap.size) (h : c[i]? = some v) : (X.alloc (.cells c t)).drew.cell? ⟨n, i, none⟩ = some v := by subst hn; exact (World.cell?_alloc_new X c t i).trans h
/-- What the closure leaves. -/
structure Caught (b2 b3 b4 : Nat) (at_ e : Int) (w w' : World) : Prop where
  c2 : w'.cell? ⟨b2, 0, none⟩ = some (S [])
  c3 : w'.cell? ⟨b3, 0, none⟩ = some (.int .i64 at_)
  c4 : w'.cell? ⟨b4, 0, none⟩ = some (.int .i64 e)
  below : ∀ B, B ≤ b2 → B ≤ b3 → B ≤ b4 → B ≤ w.heap.size → Below B w w'
def CatchPost (b2 b3 b4 : Nat) (at_ e : Int) (w : World) : Exit → Act → World → Prop
  | .normal, a, w' => a.defers = [] ∧ Caught b2 b3 b4 at_ e w w'
  | _, _, _ => False
set_option maxHeartbeats 2000000 in
set_option maxRecDepth 100000 in
theorem catch_panic (b2 b3 b4 : Nat) (at_ e : Int) (s0 : Bs) (a0 e0 : Int) (w : World) (h2 : w.cell? ⟨b2, 0, none⟩ = some (S s0))
    (h3 : w.cell? ⟨b3, 0, none⟩ = some (.int .i64 a0)) (h4 : w.cell? ⟨b4, 0, none⟩ = some (.int .i64 e0)) (f2 : w.frozen? ⟨b2, 0, none⟩ = false) (f3 : w.frozen? ⟨b3, 0, none⟩ = false) (f4 : w.frozen? ⟨b4, 0, none⟩ = false) (n23 : b2 ≠ b3) (n24 : b2 ≠ b4) (n34 : b3 ≠ b4) :
    CallsD Tryd.prog 21 #[.pointer (some ⟨b2, 0, none⟩), .pointer (some ⟨b3, 0, none⟩), .pointer (some ⟨b4, 0, none⟩)] (.panicking [{ v := .iface 43 (.agg #[.int .i64 at_, .int .i64 e]), recovered := false }]) w fun e' u' w' =>
      e' = .returned (.tuple #[]) ∧ u' = .panicking [{ v := .iface 43 (.agg #[.int .i64 at_, .int .i64 e]), recovered := true }] ∧ Caught b2 b3 b4 at_ e w w' := by
  have l2 : b2 < w.heap.size := cell_lt h2
  have l3 : b3 < w.heap.size := cell_lt h3
  have l4 : b4 < w.heap.size := cell_lt h4
  have hneq : ∀ W : World, (binOp .neq 20 (.iface 43 (.agg #[.int .i64 at_, .int .i64 e])) .nilIface).run Tryd.prog W = .ok (.bool true) W := fun _ => by kernel_rfl
  have hta : ∀ W : World, (Instr.typeAssert (.iface 43 (.agg #[.int .i64 at_, .int .i64 e])) 20 43 true).run Tryd.prog W = .ok (.tuple #[.agg #[.int .i64 at_, .int .i64 e], .bool true]) W := fun _ => by kernel_rfl
  refine callsD_of_wpS Tryd.func21 rfl fun c₀ cs hu => ?_
  apply wpS_seq
  apply wpS_region
  simp [wpOpsS, go_sem, recoverD, hu, Tryd.ntmps21, Exit.thenS]
  clear hu
  refine wpS_of_wp ?_
  refine Code.wp_mono (Q := CatchPost b2 b3 b4 at_ e w) ?_ ?_
  · intro e' a' w' h
    cases e' with
    | normal => exact ⟨h.1, _, rfl, .tuple #[], by simp [results, Tryd.results21], rfl, rfl, h.2⟩
    | _ => exact h.elim
  · have hrep : Array.replicate 18 undef = #[undef, undef, undef, undef, undef, undef, undef, undef, undef, undef, undef, undef, undef, undef, undef, undef, undef, undef] := rfl
    rw [hrep]
    simp only [List.setIfInBounds_toArray, List.set_cons_succ, List.set_cons_zero, List.append_toArray, List.cons_append, List.nil_append]
    have d2 : b2 ≠ w.heap.size := by omega
    have d3 : b3 ≠ w.heap.size := by omega
    have d4 : b4 ≠ w.heap.size := by omega
    have d2' : w.heap.size ≠ b2 := by omega
    have d3' : w.heap.size ≠ b3 := by omega
    have d4' : w.heap.size ≠ b4 := by omega
    go_wp2_with fail
    clear hneq hta
    go_region_held3 (fun w' => w'.cell? ⟨w.heap.size, 0, none⟩ = some (.int .i64 at_) ∧ w'.cell? ⟨w.heap.size, 1, none⟩ = some (.int .i64 e)) (first | (exact ⟨cell_new_drew _ _ _ _ _ _ (by simp) rfl, cell_new_drew _ _ _ _ _ _ (by simp) rfl⟩) | go_keep) (fail)
    all_goals
      go_wp2_with fail
      refine ⟨rfl, ?_, ?_, ?_, ?_⟩
      · go_simp
      · go_simp
      · go_simp
      · intro B B2 B3 B4 B5
        exact Below.drew (((((Below.refl B w).setCell B2 _).setCell B3 _).setCell B4 _).alloc (by simpa using B5) _)
/-- What guard returns. -/
def GuardPost (r : Bs × Int × Int) (w : World) (e : Ending) (w' : World) : Prop := e = .returned (.tuple #[S r.1, .int .i64 r.2.1, .int .i64 r.2.2]) ∧ Below w.heap.size w w'
theorem below3 (w : World) (o1 o2 o3 : Obj) : Below w.heap.size w (((w.alloc o1).alloc o2).alloc o3) := (((Below.refl _ w).alloc (Nat.le_refl _) o1).alloc (by simp) o2).alloc (by simp; omega) o3
set_option maxHeartbeats 4000000 in
set_option maxRecDepth 100000 in
theorem guard_ok16 (s out : Bs) (w : World) (H : ∀ W, Below w.heap.size w W → Calls Tryd.prog 16 #[S s] W fun e w' => e = .returned (S out) ∧ Below W.heap.size W w') : Calls Tryd.prog 15 #[S s, .func (.func 16) #[] #[]] w (GuardPost (out, 0, 0) w) := by
  have H45 := Lib.hid (H _ (below3 w (.cells #[S []] 9) (.cells #[.int .i64 0] 3) (.cells #[.int .i64 0] 24)))
  clear H
  have hmf : ∀ (fn : Fn) (first cap : Array Value) (w : World), (Instr.makeFunc fn first cap).run Tryd.prog w = .ok (.func fn first cap) w := fun _ _ _ _ => rfl
  go_enter_defers Tryd.func15, Tryd.ntmps15
  go_wp2_with (go_at_call 16; ((with_reducible refine Calls.mono H45.out ?_); rintro e w1 ⟨rfl, hb1⟩; obtain ⟨hcc, hff⟩ := bcell hb1; have hbz := hb1.size; simp at hbz))
  clear hff hmf
  have hz1 : ((w.alloc (Obj.cells #[S []] 9)).alloc (Obj.cells #[.int .i64 0] 3)).heap.size = w.heap.size + 2 := by simp
  have hz : w.heap.size + 3 ≤ w1.heap.size := by omega
  have hbb := btr (below3 w (.cells #[S []] 9) (.cells #[.int .i64 0] 3) (.cells #[.int .i64 0] 24)) hb1 (by simp; omega)
  have l0 : w1.cell? ⟨w.heap.size, 0, none⟩ = some (S []) := by rw [hcc _ _ (by simp; omega)]; go_simp
  have l1 : w1.cell? ⟨w.heap.size + 1, 0, none⟩ = some (.int .i64 0) := by rw [hcc _ _ (by first | (simp; done) | (simp; omega))]; first | done | go_simp
  have l2 : w1.cell? ⟨w.heap.size + 1 + 1, 0, none⟩ = some (.int .i64 0) := by rw [hcc _ _ (by simp)]; go_simp
  clear hcc hb1 hz1 hbz
  refine leaves_cons (f := 21) (args := #[.pointer (some ⟨w.heap.size, 0, none⟩), .pointer (some ⟨w.heap.size + 1, 0, none⟩), .pointer (some ⟨w.heap.size + 1 + 1, 0, none⟩)]) (by simp) (by simp [go_sem]) ?_
  refine (catch_idle _ _ _ _).mono ?_
  rintro e u' w'' ⟨rfl, rfl, rfl⟩
  simp [Leaves, settle, results, Tryd.results15, go_sem, l0, l1, l2]
  exact ⟨rfl, ((hbb.setCell (Nat.le_refl _) _).setCell (by simp) _).setCell (by simp; omega) _⟩
set_option maxHeartbeats 4000000 in
set_option maxRecDepth 100000 in
theorem guard_bad16 (s : Bs) (k x : Int) (w : World) (H : ∀ W, Below w.heap.size w W → Calls Tryd.prog 16 #[S s] W fun e w' => e = failV k x ∧ Below W.heap.size W w') : Calls Tryd.prog 15 #[S s, .func (.func 16) #[] #[]] w (GuardPost ([], k, x) w) := by
  have H45 := Lib.hid (H _ (below3 w (.cells #[S []] 9) (.cells #[.int .i64 0] 3) (.cells #[.int .i64 0] 24)))
  clear H
  have hmf : ∀ (fn : Fn) (first cap : Array Value) (w : World), (Instr.makeFunc fn first cap).run Tryd.prog w = .ok (.func fn first cap) w := fun _ _ _ _ => rfl
  go_enter_defers Tryd.func15, Tryd.ntmps15
  go_wp2_with (go_at_call 16; ((with_reducible refine Calls.mono H45.out ?_); rintro e w1 ⟨rfl, hb1⟩))
  obtain ⟨hcc, hff⟩ := bcell hb1
  refine leaves_cons (f := 21) (args := #[.pointer (some ⟨w.heap.size, 0, none⟩), .pointer (some ⟨w.heap.size + 1, 0, none⟩), .pointer (some ⟨w.heap.size + 2, 0, none⟩)]) (by simp) (by simp [go_sem]) ?_
  refine (catch_panic w.heap.size (w.heap.size + 1) (w.heap.size + 2) k x [] 0 0 w1 (by go_simp) (by go_simp) (by go_simp) (by go_simp) (by go_simp) (by go_simp) (by omega) (by omega) (by omega)).mono ?_
  rintro e' u' w'' ⟨rfl, rfl, hc⟩
  clear hcc hff hmf
  obtain ⟨d2, d3, d4, hbel⟩ := hc
  simp [Leaves, settle, results, Tryd.results15, go_sem, d2, d3, d4]
  exact ⟨rfl, btr (btr (below3 w _ _ _) hb1 (by simp; omega)) (hbel w.heap.size (Nat.le_refl _) (by omega) (by omega) (by have := hb1.size; simp at this; omega)) (Nat.le_refl _)⟩
set_option maxHeartbeats 4000000 in
set_option maxRecDepth 100000 in
theorem guard_ok17 (s out : Bs) (w : World) (H : ∀ W, Below w.heap.size w W → Calls Tryd.prog 17 #[S s] W fun e w' => e = .returned (S out) ∧ Below W.heap.size W w') : Calls Tryd.prog 15 #[S s, .func (.func 17) #[] #[]] w (GuardPost (out, 0, 0) w) := by
  have H45 := Lib.hid (H _ (below3 w (.cells #[S []] 9) (.cells #[.int .i64 0] 3) (.cells #[.int .i64 0] 24)))
  clear H
  have hmf : ∀ (fn : Fn) (first cap : Array Value) (w : World), (Instr.makeFunc fn first cap).run Tryd.prog w = .ok (.func fn first cap) w := fun _ _ _ _ => rfl
  go_enter_defers Tryd.func15, Tryd.ntmps15
  go_wp2_with (go_at_call 17; ((with_reducible refine Calls.mono H45.out ?_); rintro e w1 ⟨rfl, hb1⟩; obtain ⟨hcc, hff⟩ := bcell hb1; have hbz := hb1.size; simp at hbz))
  clear hff hmf
  have hz1 : ((w.alloc (Obj.cells #[S []] 9)).alloc (Obj.cells #[.int .i64 0] 3)).heap.size = w.heap.size + 2 := by simp
  have hz : w.heap.size + 3 ≤ w1.heap.size := by omega
  have hbb := btr (below3 w (.cells #[S []] 9) (.cells #[.int .i64 0] 3) (.cells #[.int .i64 0] 24)) hb1 (by simp; omega)
  have l0 : w1.cell? ⟨w.heap.size, 0, none⟩ = some (S []) := by rw [hcc _ _ (by simp; omega)]; go_simp
  have l1 : w1.cell? ⟨w.heap.size + 1, 0, none⟩ = some (.int .i64 0) := by rw [hcc _ _ (by first | (simp; done) | (simp; omega))]; first | done | go_simp
  have l2 : w1.cell? ⟨w.heap.size + 1 + 1, 0, none⟩ = some (.int .i64 0) := by rw [hcc _ _ (by simp)]; go_simp
  clear hcc hb1 hz1 hbz
  refine leaves_cons (f := 21) (args := #[.pointer (some ⟨w.heap.size, 0, none⟩), .pointer (some ⟨w.heap.size + 1, 0, none⟩), .pointer (some ⟨w.heap.size + 1 + 1, 0, none⟩)]) (by simp) (by simp [go_sem]) ?_
  refine (catch_idle _ _ _ _).mono ?_
  rintro e u' w'' ⟨rfl, rfl, rfl⟩
  simp [Leaves, settle, results, Tryd.results15, go_sem, l0, l1, l2]
  exact ⟨rfl, ((hbb.setCell (Nat.le_refl _) _).setCell (by simp) _).setCell (by simp; omega) _⟩
set_option maxHeartbeats 4000000 in
set_option maxRecDepth 100000 in
theorem guard_bad17 (s : Bs) (k x : Int) (w : World) (H : ∀ W, Below w.heap.size w W → Calls Tryd.prog 17 #[S s] W fun e w' => e = failV k x ∧ Below W.heap.size W w') : Calls Tryd.prog 15 #[S s, .func (.func 17) #[] #[]] w (GuardPost ([], k, x) w) := by
  have H45 := Lib.hid (H _ (below3 w (.cells #[S []] 9) (.cells #[.int .i64 0] 3) (.cells #[.int .i64 0] 24)))
  clear H
  have hmf : ∀ (fn : Fn) (first cap : Array Value) (w : World), (Instr.makeFunc fn first cap).run Tryd.prog w = .ok (.func fn first cap) w := fun _ _ _ _ => rfl
  go_enter_defers Tryd.func15, Tryd.ntmps15
  go_wp2_with (go_at_call 17; ((with_reducible refine Calls.mono H45.out ?_); rintro e w1 ⟨rfl, hb1⟩))
  obtain ⟨hcc, hff⟩ := bcell hb1
  refine leaves_cons (f := 21) (args := #[.pointer (some ⟨w.heap.size, 0, none⟩), .pointer (some ⟨w.heap.size + 1, 0, none⟩), .pointer (some ⟨w.heap.size + 2, 0, none⟩)]) (by simp) (by simp [go_sem]) ?_
  refine (catch_panic w.heap.size (w.heap.size + 1) (w.heap.size + 2) k x [] 0 0 w1 (by go_simp) (by go_simp) (by go_simp) (by go_simp) (by go_simp) (by go_simp) (by omega) (by omega) (by omega)).mono ?_
  rintro e' u' w'' ⟨rfl, rfl, hc⟩
  clear hcc hff hmf
  obtain ⟨d2, d3, d4, hbel⟩ := hc
  simp [Leaves, settle, results, Tryd.results15, go_sem, d2, d3, d4]
  exact ⟨rfl, btr (btr (below3 w _ _ _) hb1 (by simp; omega)) (hbel w.heap.size (Nat.le_refl _) (by omega) (by omega) (by have := hb1.size; simp at this; omega)) (Nat.le_refl _)⟩
theorem guard_16 (s : Bs) (w : World) (hl : s.length ≤ 140737488355000) (hT : Tabs w) (hP : DecFits s) : Calls Tryd.prog 15 #[S s, .func (.func 16) #[] #[]] w (GuardPost (decodeR s) w) := by
  have H : ∀ W, Below w.heap.size w W → Calls Tryd.prog 16 #[S s] W (DecPost (decGo s.length s 0 ⟨[], [], 0, 0⟩) W) := fun W hb => decode_16 s hl W (hT.below hb) hP
  unfold decodeR
  cases hg : decGo s.length s 0 ⟨[], [], 0, 0⟩ with
  | error p =>
    obtain ⟨k, x⟩ := p
    rw [hg] at H
    exact guard_bad16 s k x w fun W hb => (H W hb).mono fun e w' h => ⟨h.2, h.1⟩
  | ok d =>
    rw [hg] at H
    by_cases hh : d.held = []
    · have := guard_ok16 s d.out w fun W hb => (H W hb).mono fun e w' h => ⟨by have := h.2; simp only [hh, if_true] at this; exact this, h.1⟩
      simpa [decEnd, hh] using this
    · have := guard_bad16 s d.first 10 w fun W hb => (H W hb).mono fun e w' h => ⟨by have := h.2; simp only [hh, if_false] at this; exact this, h.1⟩
      simpa [decEnd, hh] using this
set_option maxHeartbeats 1000000 in
set_option maxRecDepth 100000 in
/-- Decode is decodeR. -/
theorem decode_9 (s : Bs) (w : World) (hl : s.length ≤ 140737488355000) (hT : Tabs w) (hP : DecFits s) : Calls Tryd.prog 9 #[S s] w (GuardPost (decodeR s) w) := by
  have HG := Lib.hid (guard_16 s w hl hT hP)
  clear hT
  go_enter Tryd.func9, Tryd.ntmps9
  go_wp2_with (go_at_call 15; ((with_reducible refine Calls.mono HG.out ?_); rintro e w1 ⟨rfl, hb1⟩))
  refine bodyPost_ret (v := .tuple #[S (decodeR s).1, .int .i64 (decodeR s).2.1, .int .i64 (decodeR s).2.2]) (by simp [results, Tryd.results9, go_sem]) rfl ⟨rfl, hb1⟩
end Go.Proofs.YtpkacoknpedolaaDoor
