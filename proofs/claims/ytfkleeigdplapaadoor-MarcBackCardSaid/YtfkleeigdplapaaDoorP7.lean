/-
  The walks of the program's reader: fail, and take at its four conditions.
-/
import Derived.Test.YtfkleeigdplapaaDoorP5
import Derived.Test.YtfkleeigdplapaaDoorP4
import Derived.StillTailTactics
namespace Go.Proofs.YtfkleeigdplapaaDoor
open Go.RowKit

/-- The reader of a field lies in block b: its string, the present place, the end. -/
structure RdAt (w : World) (b : Nat) (s : Bs) (a t : Nat) : Prop where
  c0 : w.cell? ⟨b, 0, none⟩ = some (S s)
  c1 : w.cell? ⟨b, 1, none⟩ = some (.int .i64 a)
  c2 : w.cell? ⟨b, 2, none⟩ = some (.int .i64 t)
  f1 : w.frozen? ⟨b, 1, none⟩ = false
theorem RdAt.drewN {w : World} {b : Nat} {s : Bs} {a t : Nat} (h : RdAt w b s a t) (n : Nat) : RdAt (w.drewN n) b s a t := ⟨h.c0, h.c1, h.c2, h.f1⟩
theorem RdAt.below {w w' : World} {b : Nat} {s : Bs} {a t : Nat} (h : RdAt w b s a t) (hb : Below w.heap.size w w') : RdAt w' b s a t := by
  have hlt : b < w.heap.size := cell_lt h.c0
  exact ⟨by rw [hb.cell (p := ⟨b, 0, none⟩) hlt]; exact h.c0, by rw [hb.cell (p := ⟨b, 1, none⟩) hlt]; exact h.c1, by rw [hb.cell (p := ⟨b, 2, none⟩) hlt]; exact h.c2, by rw [hb.frozen (p := ⟨b, 1, none⟩) hlt]; exact h.f1⟩
theorem RdAt.put {w : World} {b : Nat} {s : Bs} {a t : Nat} (h : RdAt w b s a t) (a' : Nat) : RdAt (w.setCell ⟨b, 1, none⟩ (.int .i64 a')) b s a' t := by
  obtain ⟨c0, c1, c2, f1⟩ := h
  constructor
  · go_simp
  · go_simp
  · go_simp
  · rw [setCell_frozen]; exact f1
theorem RdAt.putI {w : World} {b : Nat} {s : Bs} {a t : Nat} (h : RdAt w b s a t) (a' : Nat) (u : Int) (hu : u = a') : RdAt (w.setCell ⟨b, 1, none⟩ (.int .i64 u)) b s a' t := by subst hu; exact h.put a'
theorem gb_refl (b : Nat) (w : World) : w.grownBy w (some b) := ⟨rfl, rfl, rfl, Nat.le_refl _, fun _ _ _ => rfl⟩
theorem gb_drewN {b : Nat} {w w' : World} (h : w.grownBy w' (some b)) (n : Nat) : w.grownBy (w'.drewN n) (some b) := ⟨h.os, h.tape, h.output, h.size, h.block⟩
theorem gb_setCell {b : Nat} {w w' : World} (h : w.grownBy w' (some b)) (o : Nat) (u : Value) : w.grownBy (w'.setCell ⟨b, o, none⟩ u) (some b) :=
  ⟨h.os, h.tape, h.output, by simpa [World.setCell] using h.size, fun k hk hne => (Below.heap_setCell _ _ _ _ (fun e => hne (by rw [e]))).trans (h.block k hk hne)⟩
theorem gb_below {w w' : World} (h : Below w.heap.size w w') (g : Option Nat) : w.grownBy w' g := ⟨h.os, h.tape, h.output, h.size, fun k hk _ => h.block k hk⟩
theorem quiet_add_same {f : FuncId} {args : Array Value} {w : World} {a n : Nat} {v : Value}
    (h : Calls Tryd.prog f args (w.drewN (a + n)) fun e w' => e = .returned v ∧ w' = w.drewN (a + n)) :
    Calls Tryd.prog f args (w.drewN (a + n)) fun e w'' => e = .returned v ∧ ∃ m, w'' = w.drewN (a + m) :=
  h.mono fun _ _ ⟨he, hm⟩ => ⟨he, n, hm⟩

/-- Reading is abandoned at a place. -/
def FailAt (j : Int) (b : Nat) (w : World) (e : Ending) (w' : World) : Prop := e = failV j 14 ∧ w.grownBy w' (some b)
set_option maxRecDepth 100000 in
theorem fail_83 (b : Nat) (s : Bs) (a t : Nat) (w : World) (h : RdAt w b s a t) (ht : 1 ≤ t) (hl : t ≤ 1000000000) :
    Calls Tryd.prog 83 #[.pointer (some ⟨b, 0, none⟩)] w (FailAt (min (a : Int) ((t : Int) - 1)) b w) := by
  obtain ⟨c0, c1, c2, f1⟩ := h
  have e1 : IntKind.i64.wrap ((t : Int) - 1) = t - 1 := IntWalk.i64_in _ (by omega)
  go_enter Tryd.func83, Tryd.ntmps83
  go_wp2_with fail
  go_still_tail 10, (by kernel_rfl)
  go_wp2_with (go_at_call 65; ((with_reducible refine Calls.mono (check_bad _ _ _) ?_); rintro e w' ⟨rfl, rfl⟩))
  exact ⟨rfl, rfl, gb_drewN (gb_refl b w) _⟩

/-- A byte was taken. -/
def TakeOk (b : Nat) (s : Bs) (a t : Nat) (w : World) (e : Ending) (w' : World) : Prop := e = .returned (.int .u8 (s.getD a 0).toNat) ∧ RdAt w' b s (a + 1) t ∧ w.grownBy w' (some b)
def delimB (c : UInt8) : Bool := decide (c.toNat = 31)
def endB (c : UInt8) : Bool := decide (c.toNat = 30)
theorem delim_q (c : UInt8) (w : World) : Calls Tryd.prog 69 #[.int .u8 c.toNat] w fun e w' => e = .returned (.bool (delimB c)) ∧ w' = w := by
  go_enter Tryd.func69, Tryd.ntmps69
  go_wp2
  all_goals (go_ret; refine ⟨ret_bool ?_, rfl⟩; rw [Bool.eq_iff_iff]; simp [delimB]; try omega)
theorem end_q (c : UInt8) (w : World) : Calls Tryd.prog 84 #[.int .u8 c.toNat] w fun e w' => e = .returned (.bool (endB c)) ∧ w' = w := by
  go_enter Tryd.func84, Tryd.ntmps84
  go_wp2
  all_goals (go_ret; refine ⟨ret_bool ?_, rfl⟩; rw [Bool.eq_iff_iff]; simp [endB]; try omega)
theorem indic_q (c : UInt8) (w : World) : Calls Tryd.prog 59 #[.int .u8 c.toNat] w fun e w' => e = .returned (.bool (indicB c)) ∧ w' = w := (indic_59 c w).mono fun _ _ h => ⟨h.1, h.2.symm⟩
theorem sign_q (c : UInt8) (w : World) : Calls Tryd.prog 62 #[.int .u8 c.toNat] w fun e w' => e = .returned (.bool (signB c)) ∧ w' = w := (sign_62 c w).mono fun _ _ h => ⟨h.1, h.2.symm⟩

set_option maxHeartbeats 1000000 in
set_option maxRecDepth 100000 in
theorem take_59_ok (b : Nat) (s : Bs) (a t : Nat) (w : World) (h : RdAt w b s a t) (ha : a < t) (hts : t ≤ s.length) (hl : t ≤ 1000000000) (hp : indicB (s.getD a 0) = true) :
    Calls Tryd.prog 68 #[.pointer (some ⟨b, 0, none⟩), .func (.func 59) #[] #[]] w (TakeOk b s a t w) := by
  have HR := Lib.hid h
  obtain ⟨c0, c1, c2, f1⟩ := h
  have b1 : (0 : Int) ≤ a := by omega
  have b2 : (a : Int) < s.length := by omega
  have hge : s[a] = s.getD a 0 := ge_getD s a (by omega)
  have HQ : Hid (∀ W, Calls Tryd.prog 59 #[.int .u8 (s.getD a 0).toNat] W fun e w' => e = .returned (.bool true) ∧ w' = W) := fun W => by rw [← hp]; exact indic_q _ W
  obtain ⟨c, hc⟩ : ∃ c, s.getD a 0 = c := ⟨_, rfl⟩
  rw [hc] at hge hp HQ
  have HC := Lib.hid hc
  clear hc
  have e1 : IntKind.i64.wrap ((a : Int) + 1) = a + 1 := IntWalk.i64_in _ (by omega)
  have e2 : IntKind.i64.wrap ((a : Int) + 1 - 1) = a := by rw [show (a : Int) + 1 - 1 = a from by omega]; exact IntWalk.i64_in _ (by omega)
  have h1 : decide ((t : Int) ≤ a) = false := by simp; omega
  go_enter Tryd.func68, Tryd.ntmps68
  go_wp2_with fail
  go_quiet ((go_at_call 59; exact Calls.quiet_of_same (HQ.out _)))
  go_wp2_with fail
  go_quiet (fail)
  go_wp2_with fail
  go_ret
  exact ⟨by rw [HC.out]; rfl, ((HR.out.drewN _).putI (a + 1) _ (by omega)).drewN _, gb_drewN (gb_setCell (gb_drewN (gb_refl b w) _) 1 _) _⟩
set_option maxHeartbeats 1000000 in
set_option maxRecDepth 100000 in
theorem take_59_bad (b : Nat) (s : Bs) (a t : Nat) (w : World) (h : RdAt w b s a t) (ht : 1 ≤ t) (hts : t ≤ s.length) (hl : t ≤ 1000000000) (hp : a < t → indicB (s.getD a 0) = false) :
    Calls Tryd.prog 68 #[.pointer (some ⟨b, 0, none⟩), .func (.func 59) #[] #[]] w (FailAt (min (a : Int) ((t : Int) - 1)) b w) := by
  have HFL : Hid (∀ n, Calls Tryd.prog 83 #[.pointer (some ⟨b, 0, none⟩)] (w.drewN n) (FailAt (min (a : Int) ((t : Int) - 1)) b (w.drewN n))) := fun n => fail_83 b s a t _ (h.drewN n) ht hl
  obtain ⟨c0, c1, c2, f1⟩ := h
  by_cases hlt : a < t
  · have hp := hp hlt
    have b1 : (0 : Int) ≤ a := by omega
    have b2 : (a : Int) < s.length := by omega
    have hge : s[a] = s.getD a 0 := ge_getD s a (by omega)
    have HQ : Hid (∀ W, Calls Tryd.prog 59 #[.int .u8 (s.getD a 0).toNat] W fun e w' => e = .returned (.bool false) ∧ w' = W) := fun W => by rw [← hp]; exact indic_q _ W
    generalize s.getD a 0 = c at *
    have h1 : decide ((t : Int) ≤ a) = false := by simp; omega
    go_enter Tryd.func68, Tryd.ntmps68
    go_wp2_with fail
    go_quiet ((go_at_call 59; exact Calls.quiet_of_same (HQ.out _)))
    go_wp2_with (go_at_call 83; ((with_reducible refine Calls.mono (HFL.out _) ?_); rintro e w' ⟨rfl, hg⟩))
    exact ⟨rfl, rfl, ⟨hg.os, hg.tape, hg.output, hg.size, hg.block⟩⟩
  · have h1 : decide ((t : Int) ≤ a) = true := by simp; omega
    clear hp
    go_enter Tryd.func68, Tryd.ntmps68
    go_wp2_with fail
    go_quiet (fail)
    go_wp2_with (go_at_call 83; ((with_reducible refine Calls.mono (HFL.out _) ?_); rintro e w' ⟨rfl, hg⟩))
    exact ⟨rfl, rfl, ⟨hg.os, hg.tape, hg.output, hg.size, hg.block⟩⟩

set_option maxHeartbeats 1000000 in
set_option maxRecDepth 100000 in
theorem take_62_ok (b : Nat) (s : Bs) (a t : Nat) (w : World) (h : RdAt w b s a t) (ha : a < t) (hts : t ≤ s.length) (hl : t ≤ 1000000000) (hp : signB (s.getD a 0) = true) :
    Calls Tryd.prog 68 #[.pointer (some ⟨b, 0, none⟩), .func (.func 62) #[] #[]] w (TakeOk b s a t w) := by
  have HR := Lib.hid h
  obtain ⟨c0, c1, c2, f1⟩ := h
  have b1 : (0 : Int) ≤ a := by omega
  have b2 : (a : Int) < s.length := by omega
  have hge : s[a] = s.getD a 0 := ge_getD s a (by omega)
  have HQ : Hid (∀ W, Calls Tryd.prog 62 #[.int .u8 (s.getD a 0).toNat] W fun e w' => e = .returned (.bool true) ∧ w' = W) := fun W => by rw [← hp]; exact sign_q _ W
  obtain ⟨c, hc⟩ : ∃ c, s.getD a 0 = c := ⟨_, rfl⟩
  rw [hc] at hge hp HQ
  have HC := Lib.hid hc
  clear hc
  have e1 : IntKind.i64.wrap ((a : Int) + 1) = a + 1 := IntWalk.i64_in _ (by omega)
  have e2 : IntKind.i64.wrap ((a : Int) + 1 - 1) = a := by rw [show (a : Int) + 1 - 1 = a from by omega]; exact IntWalk.i64_in _ (by omega)
  have h1 : decide ((t : Int) ≤ a) = false := by simp; omega
  go_enter Tryd.func68, Tryd.ntmps68
  go_wp2_with fail
  go_quiet ((go_at_call 62; exact Calls.quiet_of_same (HQ.out _)))
  go_wp2_with fail
  go_quiet (fail)
  go_wp2_with fail
  go_ret
  exact ⟨by rw [HC.out]; rfl, ((HR.out.drewN _).putI (a + 1) _ (by omega)).drewN _, gb_drewN (gb_setCell (gb_drewN (gb_refl b w) _) 1 _) _⟩
set_option maxHeartbeats 1000000 in
set_option maxRecDepth 100000 in
theorem take_62_bad (b : Nat) (s : Bs) (a t : Nat) (w : World) (h : RdAt w b s a t) (ht : 1 ≤ t) (hts : t ≤ s.length) (hl : t ≤ 1000000000) (hp : a < t → signB (s.getD a 0) = false) :
    Calls Tryd.prog 68 #[.pointer (some ⟨b, 0, none⟩), .func (.func 62) #[] #[]] w (FailAt (min (a : Int) ((t : Int) - 1)) b w) := by
  have HFL : Hid (∀ n, Calls Tryd.prog 83 #[.pointer (some ⟨b, 0, none⟩)] (w.drewN n) (FailAt (min (a : Int) ((t : Int) - 1)) b (w.drewN n))) := fun n => fail_83 b s a t _ (h.drewN n) ht hl
  obtain ⟨c0, c1, c2, f1⟩ := h
  by_cases hlt : a < t
  · have hp := hp hlt
    have b1 : (0 : Int) ≤ a := by omega
    have b2 : (a : Int) < s.length := by omega
    have hge : s[a] = s.getD a 0 := ge_getD s a (by omega)
    have HQ : Hid (∀ W, Calls Tryd.prog 62 #[.int .u8 (s.getD a 0).toNat] W fun e w' => e = .returned (.bool false) ∧ w' = W) := fun W => by rw [← hp]; exact sign_q _ W
    generalize s.getD a 0 = c at *
    have h1 : decide ((t : Int) ≤ a) = false := by simp; omega
    go_enter Tryd.func68, Tryd.ntmps68
    go_wp2_with fail
    go_quiet ((go_at_call 62; exact Calls.quiet_of_same (HQ.out _)))
    go_wp2_with (go_at_call 83; ((with_reducible refine Calls.mono (HFL.out _) ?_); rintro e w' ⟨rfl, hg⟩))
    exact ⟨rfl, rfl, ⟨hg.os, hg.tape, hg.output, hg.size, hg.block⟩⟩
  · have h1 : decide ((t : Int) ≤ a) = true := by simp; omega
    clear hp
    go_enter Tryd.func68, Tryd.ntmps68
    go_wp2_with fail
    go_quiet (fail)
    go_wp2_with (go_at_call 83; ((with_reducible refine Calls.mono (HFL.out _) ?_); rintro e w' ⟨rfl, hg⟩))
    exact ⟨rfl, rfl, ⟨hg.os, hg.tape, hg.output, hg.size, hg.block⟩⟩

set_option maxHeartbeats 1000000 in
set_option maxRecDepth 100000 in
theorem take_69_ok (b : Nat) (s : Bs) (a t : Nat) (w : World) (h : RdAt w b s a t) (ha : a < t) (hts : t ≤ s.length) (hl : t ≤ 1000000000) (hp : delimB (s.getD a 0) = true) :
    Calls Tryd.prog 68 #[.pointer (some ⟨b, 0, none⟩), .func (.func 69) #[] #[]] w (TakeOk b s a t w) := by
  have HR := Lib.hid h
  obtain ⟨c0, c1, c2, f1⟩ := h
  have b1 : (0 : Int) ≤ a := by omega
  have b2 : (a : Int) < s.length := by omega
  have hge : s[a] = s.getD a 0 := ge_getD s a (by omega)
  have HQ : Hid (∀ W, Calls Tryd.prog 69 #[.int .u8 (s.getD a 0).toNat] W fun e w' => e = .returned (.bool true) ∧ w' = W) := fun W => by rw [← hp]; exact delim_q _ W
  obtain ⟨c, hc⟩ : ∃ c, s.getD a 0 = c := ⟨_, rfl⟩
  rw [hc] at hge hp HQ
  have HC := Lib.hid hc
  clear hc
  have e1 : IntKind.i64.wrap ((a : Int) + 1) = a + 1 := IntWalk.i64_in _ (by omega)
  have e2 : IntKind.i64.wrap ((a : Int) + 1 - 1) = a := by rw [show (a : Int) + 1 - 1 = a from by omega]; exact IntWalk.i64_in _ (by omega)
  have h1 : decide ((t : Int) ≤ a) = false := by simp; omega
  go_enter Tryd.func68, Tryd.ntmps68
  go_wp2_with fail
  go_quiet ((go_at_call 69; exact Calls.quiet_of_same (HQ.out _)))
  go_wp2_with fail
  go_quiet (fail)
  go_wp2_with fail
  go_ret
  exact ⟨by rw [HC.out]; rfl, ((HR.out.drewN _).putI (a + 1) _ (by omega)).drewN _, gb_drewN (gb_setCell (gb_drewN (gb_refl b w) _) 1 _) _⟩
set_option maxHeartbeats 1000000 in
set_option maxRecDepth 100000 in
theorem take_69_bad (b : Nat) (s : Bs) (a t : Nat) (w : World) (h : RdAt w b s a t) (ht : 1 ≤ t) (hts : t ≤ s.length) (hl : t ≤ 1000000000) (hp : a < t → delimB (s.getD a 0) = false) :
    Calls Tryd.prog 68 #[.pointer (some ⟨b, 0, none⟩), .func (.func 69) #[] #[]] w (FailAt (min (a : Int) ((t : Int) - 1)) b w) := by
  have HFL : Hid (∀ n, Calls Tryd.prog 83 #[.pointer (some ⟨b, 0, none⟩)] (w.drewN n) (FailAt (min (a : Int) ((t : Int) - 1)) b (w.drewN n))) := fun n => fail_83 b s a t _ (h.drewN n) ht hl
  obtain ⟨c0, c1, c2, f1⟩ := h
  by_cases hlt : a < t
  · have hp := hp hlt
    have b1 : (0 : Int) ≤ a := by omega
    have b2 : (a : Int) < s.length := by omega
    have hge : s[a] = s.getD a 0 := ge_getD s a (by omega)
    have HQ : Hid (∀ W, Calls Tryd.prog 69 #[.int .u8 (s.getD a 0).toNat] W fun e w' => e = .returned (.bool false) ∧ w' = W) := fun W => by rw [← hp]; exact delim_q _ W
    generalize s.getD a 0 = c at *
    have h1 : decide ((t : Int) ≤ a) = false := by simp; omega
    go_enter Tryd.func68, Tryd.ntmps68
    go_wp2_with fail
    go_quiet ((go_at_call 69; exact Calls.quiet_of_same (HQ.out _)))
    go_wp2_with (go_at_call 83; ((with_reducible refine Calls.mono (HFL.out _) ?_); rintro e w' ⟨rfl, hg⟩))
    exact ⟨rfl, rfl, ⟨hg.os, hg.tape, hg.output, hg.size, hg.block⟩⟩
  · have h1 : decide ((t : Int) ≤ a) = true := by simp; omega
    clear hp
    go_enter Tryd.func68, Tryd.ntmps68
    go_wp2_with fail
    go_quiet (fail)
    go_wp2_with (go_at_call 83; ((with_reducible refine Calls.mono (HFL.out _) ?_); rintro e w' ⟨rfl, hg⟩))
    exact ⟨rfl, rfl, ⟨hg.os, hg.tape, hg.output, hg.size, hg.block⟩⟩

set_option maxHeartbeats 1000000 in
set_option maxRecDepth 100000 in
theorem take_84_ok (b : Nat) (s : Bs) (a t : Nat) (w : World) (h : RdAt w b s a t) (ha : a < t) (hts : t ≤ s.length) (hl : t ≤ 1000000000) (hp : endB (s.getD a 0) = true) :
    Calls Tryd.prog 68 #[.pointer (some ⟨b, 0, none⟩), .func (.func 84) #[] #[]] w (TakeOk b s a t w) := by
  have HR := Lib.hid h
  obtain ⟨c0, c1, c2, f1⟩ := h
  have b1 : (0 : Int) ≤ a := by omega
  have b2 : (a : Int) < s.length := by omega
  have hge : s[a] = s.getD a 0 := ge_getD s a (by omega)
  have HQ : Hid (∀ W, Calls Tryd.prog 84 #[.int .u8 (s.getD a 0).toNat] W fun e w' => e = .returned (.bool true) ∧ w' = W) := fun W => by rw [← hp]; exact end_q _ W
  obtain ⟨c, hc⟩ : ∃ c, s.getD a 0 = c := ⟨_, rfl⟩
  rw [hc] at hge hp HQ
  have HC := Lib.hid hc
  clear hc
  have e1 : IntKind.i64.wrap ((a : Int) + 1) = a + 1 := IntWalk.i64_in _ (by omega)
  have e2 : IntKind.i64.wrap ((a : Int) + 1 - 1) = a := by rw [show (a : Int) + 1 - 1 = a from by omega]; exact IntWalk.i64_in _ (by omega)
  have h1 : decide ((t : Int) ≤ a) = false := by simp; omega
  go_enter Tryd.func68, Tryd.ntmps68
  go_wp2_with fail
  go_quiet ((go_at_call 84; exact Calls.quiet_of_same (HQ.out _)))
  go_wp2_with fail
  go_quiet (fail)
  go_wp2_with fail
  go_ret
  exact ⟨by rw [HC.out]; rfl, ((HR.out.drewN _).putI (a + 1) _ (by omega)).drewN _, gb_drewN (gb_setCell (gb_drewN (gb_refl b w) _) 1 _) _⟩
set_option maxHeartbeats 1000000 in
set_option maxRecDepth 100000 in
theorem take_84_bad (b : Nat) (s : Bs) (a t : Nat) (w : World) (h : RdAt w b s a t) (ht : 1 ≤ t) (hts : t ≤ s.length) (hl : t ≤ 1000000000) (hp : a < t → endB (s.getD a 0) = false) :
    Calls Tryd.prog 68 #[.pointer (some ⟨b, 0, none⟩), .func (.func 84) #[] #[]] w (FailAt (min (a : Int) ((t : Int) - 1)) b w) := by
  have HFL : Hid (∀ n, Calls Tryd.prog 83 #[.pointer (some ⟨b, 0, none⟩)] (w.drewN n) (FailAt (min (a : Int) ((t : Int) - 1)) b (w.drewN n))) := fun n => fail_83 b s a t _ (h.drewN n) ht hl
  obtain ⟨c0, c1, c2, f1⟩ := h
  by_cases hlt : a < t
  · have hp := hp hlt
    have b1 : (0 : Int) ≤ a := by omega
    have b2 : (a : Int) < s.length := by omega
    have hge : s[a] = s.getD a 0 := ge_getD s a (by omega)
    have HQ : Hid (∀ W, Calls Tryd.prog 84 #[.int .u8 (s.getD a 0).toNat] W fun e w' => e = .returned (.bool false) ∧ w' = W) := fun W => by rw [← hp]; exact end_q _ W
    generalize s.getD a 0 = c at *
    have h1 : decide ((t : Int) ≤ a) = false := by simp; omega
    go_enter Tryd.func68, Tryd.ntmps68
    go_wp2_with fail
    go_quiet ((go_at_call 84; exact Calls.quiet_of_same (HQ.out _)))
    go_wp2_with (go_at_call 83; ((with_reducible refine Calls.mono (HFL.out _) ?_); rintro e w' ⟨rfl, hg⟩))
    exact ⟨rfl, rfl, ⟨hg.os, hg.tape, hg.output, hg.size, hg.block⟩⟩
  · have h1 : decide ((t : Int) ≤ a) = true := by simp; omega
    clear hp
    go_enter Tryd.func68, Tryd.ntmps68
    go_wp2_with fail
    go_quiet (fail)
    go_wp2_with (go_at_call 83; ((with_reducible refine Calls.mono (HFL.out _) ?_); rintro e w' ⟨rfl, hg⟩))
    exact ⟨rfl, rfl, ⟨hg.os, hg.tape, hg.output, hg.size, hg.block⟩⟩
end Go.Proofs.YtfkleeigdplapaaDoor
