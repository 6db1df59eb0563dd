/-
  The walk of Encode; the examples that every law includes.
-/
import Derived.Test.YtpkacoknpedolaaDoorE1
namespace Go.Proofs.YtpkacoknpedolaaDoor
open Go.RowKit

/-- What Encode returns: exactly, but that bytes which are no UTF-8 may fail in either way. -/
def EncRes (r : Except (Nat × Option Int) ES) (x : Bs × Int × Int) : Prop := match r with
  | .error (k, some e) => x = ([], (k : Int), e)
  | .error (k, none) => ∃ e : Int, e ≠ 0 ∧ x = ([], (k : Int), e)
  | .ok es => x = (encEnd es, 0, 0)
set_option maxHeartbeats 4000000 in
set_option maxRecDepth 100000 in
theorem guard_some17 (s : Bs) (k : Int) (w : World) (H : ∀ W, Below w.heap.size w W → Calls Tryd.prog 17 #[S s] W fun e w' => (∃ x : Int, x ≠ 0 ∧ e = failV k x) ∧ Below W.heap.size W w') : Calls Tryd.prog 15 #[S s, .func (.func 17) #[] #[]] w fun e w' => ∃ x : Int, x ≠ 0 ∧ GuardPost ([], k, x) w e w' := by
  have H45 := Lib.hid (H _ (below3 w (.cells #[S []] 9) (.cells #[.int .i64 0] 3) (.cells #[.int .i64 0] 24)))
  clear H
  have hmf : ∀ (fn : Fn) (first cap : Array Value) (w : World), (Instr.makeFunc fn first cap).run Tryd.prog w = .ok (.func fn first cap) w := fun _ _ _ _ => rfl
  go_enter_defers Tryd.func15, Tryd.ntmps15
  go_wp2_with (go_at_call 17; ((with_reducible refine Calls.mono H45.out ?_); rintro e w1 ⟨⟨x, hx, rfl⟩, hb1⟩))
  obtain ⟨hcc, hff⟩ := bcell hb1
  refine leaves_cons (f := 21) (args := #[.pointer (some ⟨w.heap.size, 0, none⟩), .pointer (some ⟨w.heap.size + 1, 0, none⟩), .pointer (some ⟨w.heap.size + 2, 0, none⟩)]) (by simp) (by simp [go_sem]) ?_
  refine (catch_panic w.heap.size (w.heap.size + 1) (w.heap.size + 2) k x [] 0 0 w1 (by go_simp) (by go_simp) (by go_simp) (by go_simp) (by go_simp) (by go_simp) (by omega) (by omega) (by omega)).mono ?_
  rintro e' u' w'' ⟨rfl, rfl, hc⟩
  clear hcc hff hmf
  obtain ⟨d2, d3, d4, hbel⟩ := hc
  simp [Leaves, settle, results, Tryd.results15, go_sem, d2, d3, d4]
  exact ⟨x, hx, rfl, btr (btr (below3 w _ _ _) hb1 (by simp; omega)) (hbel w.heap.size (Nat.le_refl _) (by omega) (by omega) (by have := hb1.size; simp at this; omega)) (Nat.le_refl _)⟩
theorem guard_17 (s : Bs) (w : World) (hl : s.length ≤ 140737488355000) (hT : Tabs w) (hP : EncFits s) : Calls Tryd.prog 15 #[S s, .func (.func 17) #[] #[]] w fun e w' => ∃ x, EncRes (encGo ⟨s.toArray⟩ s.length 0 ⟨[], 0, []⟩) x ∧ GuardPost x w e w' := by
  have H : ∀ W, Below w.heap.size w W → Calls Tryd.prog 17 #[S s] W (EncodePost (encGo ⟨s.toArray⟩ s.length 0 ⟨[], 0, []⟩) W) := fun W hb => encode_17 s hl W (hT.below hb) hP
  cases hg : encGo ⟨s.toArray⟩ s.length 0 ⟨[], 0, []⟩ with
  | error p =>
    obtain ⟨k, x⟩ := p
    rw [hg] at H
    cases x with
    | some x => exact (guard_bad17 s k x w fun W hb => (H W hb).mono fun e w' h => ⟨h.2, h.1⟩).mono fun e w' h => ⟨_, rfl, h⟩
    | none => exact (guard_some17 s k w fun W hb => (H W hb).mono fun e w' h => ⟨h.2, h.1⟩).mono fun e w' h => by obtain ⟨x, hx, h⟩ := h; exact ⟨_, ⟨x, hx, rfl⟩, h⟩
  | ok es =>
    rw [hg] at H
    exact (guard_ok17 s (encEnd es) w fun W hb => (H W hb).mono fun e w' h => ⟨h.2, h.1⟩).mono fun e w' h => ⟨_, rfl, h⟩
set_option maxHeartbeats 1000000 in
set_option maxRecDepth 100000 in
theorem encode_10 (s : Bs) (w : World) (hl : s.length ≤ 140737488355000) (hT : Tabs w) (hP : EncFits s) : Calls Tryd.prog 10 #[S s] w fun e w' => ∃ x, EncRes (encGo ⟨s.toArray⟩ s.length 0 ⟨[], 0, []⟩) x ∧ GuardPost x w e w' := by
  have HG := Lib.hid (guard_17 s w hl hT hP)
  clear hT hP
  go_enter Tryd.func10, Tryd.ntmps10
  go_wp2_with (go_at_call 15; ((with_reducible refine Calls.mono HG.out ?_); rintro e w1 ⟨x, hx, rfl, hb1⟩))
  refine bodyPost_ret (v := .tuple #[S x.1, .int .i64 x.2.1, .int .i64 x.2.2]) (by simp [results, Tryd.results10, go_sem]) rfl ⟨x, hx, rfl, hb1⟩
end Go.Proofs.YtpkacoknpedolaaDoor
