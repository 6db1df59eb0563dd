/-
  utf8.FullRuneInString returns, whatever the bytes are.
-/
import Derived.Test.YtpkacoknpedolaaDoorD4
import Derived.BigQuiet
namespace Go.Proofs.YtpkacoknpedolaaDoor
open Go.RowKit Go.Maps

theorem below_drewN {B : Nat} {w w' : World} (h : Below B w w') (n : Nat) : Below B w (w'.drewN n) := ⟨h.os, h.tape, h.output, h.size, h.block⟩
def SomeBool (w : World) (en : Ending) (w' : World) : Prop := ∃ b, en = .returned (.bool b) ∧ Below w.heap.size w w'
set_option maxHeartbeats 4000000 in
set_option maxRecDepth 100000 in
theorem fullRune_35 (l : Bs) (hl : l.length ≤ 140737488355000) (w : World) (hT : Tabs w) : Calls Tryd.prog 35 #[S l] w (SomeBool w) := by
  have mixed : Tryd.prog.follows Departure.mixedOrders = true := by kernel_rfl
  have hb0 := (Below.refl w.heap.size w)
  cases l with
  | nil =>
    clear hT
    go_enter Tryd.func35, Tryd.ntmps35
    go_wp2_with fail
    go_ret
    exact ⟨_, rfl, hb0⟩
  | cons a r =>
    have ha := hT.1.1 a.toNat a.toNat_lt
    have ha1 := u8_lt a
    have acc : ∀ i, i < 16 → w.cell? ⟨1, 2 * i, none⟩ = some (.int .u8 (Lib.accLo i)) ∧ w.cell? ⟨1, 2 * i + 1, none⟩ = some (.int .u8 (Lib.accHi i)) := hT.1.2
    have a0 := acc 0 (by omega)
    have a1 := acc 1 (by omega)
    have a2 := acc 2 (by omega)
    have a3 := acc 3 (by omega)
    have a4 := acc 4 (by omega)
    have hx := Lib.firstT_cases a.toNat
    generalize Lib.firstT a.toNat = x at *
    clear acc hT
    have hrl : r.length + 1 ≤ 140737488355000 := by simpa using hl
    have HX := Lib.hid hx
    clear hx
    rcases r with _ | ⟨b, _ | ⟨c, _ | ⟨d, r⟩⟩⟩
    · rcases HX.out with rfl | rfl | rfl | rfl | rfl | rfl | rfl | rfl | rfl
      all_goals
        go_enter Tryd.func35, Tryd.ntmps35
        go_wp2_with fail
        try go_quiet (fail)
        all_goals go_wp2_with fail
        try go_quiet (fail)
        all_goals go_wp2_with fail
        all_goals go_ret
        all_goals exact ⟨_, rfl, by first | exact hb0 | exact below_drewN ((Below.refl w.heap.size w).alloc (Nat.le_refl _) _) _⟩
    · rcases HX.out with rfl | rfl | rfl | rfl | rfl | rfl | rfl | rfl | rfl
      · have hb1 := u8_lt b
        go_enter Tryd.func35, Tryd.ntmps35
        go_wp2_with fail
        try go_quiet (fail)
        all_goals go_wp2_with fail
        try go_quiet (fail)
        all_goals go_wp2_with fail
        all_goals go_ret
        all_goals exact ⟨_, rfl, by first | exact hb0 | exact below_drewN ((Below.refl w.heap.size w).alloc (Nat.le_refl _) _) _⟩
      · have hb1 := u8_lt b
        go_enter Tryd.func35, Tryd.ntmps35
        go_wp2_with fail
        try go_quiet (fail)
        all_goals go_wp2_with fail
        try go_quiet (fail)
        all_goals go_wp2_with fail
        all_goals go_ret
        all_goals exact ⟨_, rfl, by first | exact hb0 | exact below_drewN ((Below.refl w.heap.size w).alloc (Nat.le_refl _) _) _⟩
      · have hb1 := u8_lt b
        obtain ⟨lo, hlo⟩ : ∃ lo : Int, lo = Lib.accLo 0 := ⟨_, rfl⟩
        obtain ⟨hi, hhi⟩ : ∃ hi : Int, hi = Lib.accHi 0 := ⟨_, rfl⟩
        rw [← hlo, ← hhi] at a0
        clear hlo hhi
        have h1 : (b.toNat : Int) < lo ∨ decide ((b.toNat : Int) < lo) = false := by by_cases h : (b.toNat : Int) < lo; exact .inl h; exact .inr (by simpa using h)
        have h2 : hi < (b.toNat : Int) ∨ decide (hi < (b.toNat : Int)) = false := by by_cases h : hi < (b.toNat : Int); exact .inl h; exact .inr (by simpa using h)
        rcases h1 with h1 | h1 <;> rcases h2 with h2 | h2
        all_goals
          go_enter Tryd.func35, Tryd.ntmps35
          go_wp2_with fail
          try go_quiet (fail)
          all_goals go_wp2_with fail
          try go_quiet (fail)
          all_goals go_wp2_with fail
          all_goals go_ret
          all_goals exact ⟨_, rfl, by first | exact hb0 | exact below_drewN ((Below.refl w.heap.size w).alloc (Nat.le_refl _) _) _⟩
      · have hb1 := u8_lt b
        obtain ⟨lo, hlo⟩ : ∃ lo : Int, lo = Lib.accLo 1 := ⟨_, rfl⟩
        obtain ⟨hi, hhi⟩ : ∃ hi : Int, hi = Lib.accHi 1 := ⟨_, rfl⟩
        rw [← hlo, ← hhi] at a1
        clear hlo hhi
        have h1 : (b.toNat : Int) < lo ∨ decide ((b.toNat : Int) < lo) = false := by by_cases h : (b.toNat : Int) < lo; exact .inl h; exact .inr (by simpa using h)
        have h2 : hi < (b.toNat : Int) ∨ decide (hi < (b.toNat : Int)) = false := by by_cases h : hi < (b.toNat : Int); exact .inl h; exact .inr (by simpa using h)
        rcases h1 with h1 | h1 <;> rcases h2 with h2 | h2
        all_goals
          go_enter Tryd.func35, Tryd.ntmps35
          go_wp2_with fail
          try go_quiet (fail)
          all_goals go_wp2_with fail
          try go_quiet (fail)
          all_goals go_wp2_with fail
          all_goals go_ret
          all_goals exact ⟨_, rfl, by first | exact hb0 | exact below_drewN ((Below.refl w.heap.size w).alloc (Nat.le_refl _) _) _⟩
      · have hb1 := u8_lt b
        obtain ⟨lo, hlo⟩ : ∃ lo : Int, lo = Lib.accLo 0 := ⟨_, rfl⟩
        obtain ⟨hi, hhi⟩ : ∃ hi : Int, hi = Lib.accHi 0 := ⟨_, rfl⟩
        rw [← hlo, ← hhi] at a0
        clear hlo hhi
        have h1 : (b.toNat : Int) < lo ∨ decide ((b.toNat : Int) < lo) = false := by by_cases h : (b.toNat : Int) < lo; exact .inl h; exact .inr (by simpa using h)
        have h2 : hi < (b.toNat : Int) ∨ decide (hi < (b.toNat : Int)) = false := by by_cases h : hi < (b.toNat : Int); exact .inl h; exact .inr (by simpa using h)
        rcases h1 with h1 | h1 <;> rcases h2 with h2 | h2
        all_goals
          go_enter Tryd.func35, Tryd.ntmps35
          go_wp2_with fail
          try go_quiet (fail)
          all_goals go_wp2_with fail
          try go_quiet (fail)
          all_goals go_wp2_with fail
          all_goals go_ret
          all_goals exact ⟨_, rfl, by first | exact hb0 | exact below_drewN ((Below.refl w.heap.size w).alloc (Nat.le_refl _) _) _⟩
      · have hb1 := u8_lt b
        obtain ⟨lo, hlo⟩ : ∃ lo : Int, lo = Lib.accLo 2 := ⟨_, rfl⟩
        obtain ⟨hi, hhi⟩ : ∃ hi : Int, hi = Lib.accHi 2 := ⟨_, rfl⟩
        rw [← hlo, ← hhi] at a2
        clear hlo hhi
        have h1 : (b.toNat : Int) < lo ∨ decide ((b.toNat : Int) < lo) = false := by by_cases h : (b.toNat : Int) < lo; exact .inl h; exact .inr (by simpa using h)
        have h2 : hi < (b.toNat : Int) ∨ decide (hi < (b.toNat : Int)) = false := by by_cases h : hi < (b.toNat : Int); exact .inl h; exact .inr (by simpa using h)
        rcases h1 with h1 | h1 <;> rcases h2 with h2 | h2
        all_goals
          go_enter Tryd.func35, Tryd.ntmps35
          go_wp2_with fail
          try go_quiet (fail)
          all_goals go_wp2_with fail
          try go_quiet (fail)
          all_goals go_wp2_with fail
          all_goals go_ret
          all_goals exact ⟨_, rfl, by first | exact hb0 | exact below_drewN ((Below.refl w.heap.size w).alloc (Nat.le_refl _) _) _⟩
      · have hb1 := u8_lt b
        obtain ⟨lo, hlo⟩ : ∃ lo : Int, lo = Lib.accLo 3 := ⟨_, rfl⟩
        obtain ⟨hi, hhi⟩ : ∃ hi : Int, hi = Lib.accHi 3 := ⟨_, rfl⟩
        rw [← hlo, ← hhi] at a3
        clear hlo hhi
        have h1 : (b.toNat : Int) < lo ∨ decide ((b.toNat : Int) < lo) = false := by by_cases h : (b.toNat : Int) < lo; exact .inl h; exact .inr (by simpa using h)
        have h2 : hi < (b.toNat : Int) ∨ decide (hi < (b.toNat : Int)) = false := by by_cases h : hi < (b.toNat : Int); exact .inl h; exact .inr (by simpa using h)
        rcases h1 with h1 | h1 <;> rcases h2 with h2 | h2
        all_goals
          go_enter Tryd.func35, Tryd.ntmps35
          go_wp2_with fail
          try go_quiet (fail)
          all_goals go_wp2_with fail
          try go_quiet (fail)
          all_goals go_wp2_with fail
          all_goals go_ret
          all_goals exact ⟨_, rfl, by first | exact hb0 | exact below_drewN ((Below.refl w.heap.size w).alloc (Nat.le_refl _) _) _⟩
      · have hb1 := u8_lt b
        obtain ⟨lo, hlo⟩ : ∃ lo : Int, lo = Lib.accLo 0 := ⟨_, rfl⟩
        obtain ⟨hi, hhi⟩ : ∃ hi : Int, hi = Lib.accHi 0 := ⟨_, rfl⟩
        rw [← hlo, ← hhi] at a0
        clear hlo hhi
        have h1 : (b.toNat : Int) < lo ∨ decide ((b.toNat : Int) < lo) = false := by by_cases h : (b.toNat : Int) < lo; exact .inl h; exact .inr (by simpa using h)
        have h2 : hi < (b.toNat : Int) ∨ decide (hi < (b.toNat : Int)) = false := by by_cases h : hi < (b.toNat : Int); exact .inl h; exact .inr (by simpa using h)
        rcases h1 with h1 | h1 <;> rcases h2 with h2 | h2
        all_goals
          go_enter Tryd.func35, Tryd.ntmps35
          go_wp2_with fail
          try go_quiet (fail)
          all_goals go_wp2_with fail
          try go_quiet (fail)
          all_goals go_wp2_with fail
          all_goals go_ret
          all_goals exact ⟨_, rfl, by first | exact hb0 | exact below_drewN ((Below.refl w.heap.size w).alloc (Nat.le_refl _) _) _⟩
      · have hb1 := u8_lt b
        obtain ⟨lo, hlo⟩ : ∃ lo : Int, lo = Lib.accLo 4 := ⟨_, rfl⟩
        obtain ⟨hi, hhi⟩ : ∃ hi : Int, hi = Lib.accHi 4 := ⟨_, rfl⟩
        rw [← hlo, ← hhi] at a4
        clear hlo hhi
        have h1 : (b.toNat : Int) < lo ∨ decide ((b.toNat : Int) < lo) = false := by by_cases h : (b.toNat : Int) < lo; exact .inl h; exact .inr (by simpa using h)
        have h2 : hi < (b.toNat : Int) ∨ decide (hi < (b.toNat : Int)) = false := by by_cases h : hi < (b.toNat : Int); exact .inl h; exact .inr (by simpa using h)
        rcases h1 with h1 | h1 <;> rcases h2 with h2 | h2
        all_goals
          go_enter Tryd.func35, Tryd.ntmps35
          go_wp2_with fail
          try go_quiet (fail)
          all_goals go_wp2_with fail
          try go_quiet (fail)
          all_goals go_wp2_with fail
          all_goals go_ret
          all_goals exact ⟨_, rfl, by first | exact hb0 | exact below_drewN ((Below.refl w.heap.size w).alloc (Nat.le_refl _) _) _⟩
    · have hc1 := u8_lt c
      rcases HX.out with rfl | rfl | rfl | rfl | rfl | rfl | rfl | rfl | rfl
      · have hb1 := u8_lt b
        go_enter Tryd.func35, Tryd.ntmps35
        go_wp2_with fail
        try go_quiet (fail)
        all_goals go_wp2_with fail
        try go_quiet (fail)
        all_goals go_wp2_with fail
        all_goals go_ret
        all_goals exact ⟨_, rfl, by first | exact hb0 | exact below_drewN ((Below.refl w.heap.size w).alloc (Nat.le_refl _) _) _⟩
      · have hb1 := u8_lt b
        go_enter Tryd.func35, Tryd.ntmps35
        go_wp2_with fail
        try go_quiet (fail)
        all_goals go_wp2_with fail
        try go_quiet (fail)
        all_goals go_wp2_with fail
        all_goals go_ret
        all_goals exact ⟨_, rfl, by first | exact hb0 | exact below_drewN ((Below.refl w.heap.size w).alloc (Nat.le_refl _) _) _⟩
      · have hb1 := u8_lt b
        obtain ⟨lo, hlo⟩ : ∃ lo : Int, lo = Lib.accLo 0 := ⟨_, rfl⟩
        obtain ⟨hi, hhi⟩ : ∃ hi : Int, hi = Lib.accHi 0 := ⟨_, rfl⟩
        rw [← hlo, ← hhi] at a0
        clear hlo hhi
        have h1 : (b.toNat : Int) < lo ∨ decide ((b.toNat : Int) < lo) = false := by by_cases h : (b.toNat : Int) < lo; exact .inl h; exact .inr (by simpa using h)
        have h2 : hi < (b.toNat : Int) ∨ decide (hi < (b.toNat : Int)) = false := by by_cases h : hi < (b.toNat : Int); exact .inl h; exact .inr (by simpa using h)
        have H3 : Hid ((c.toNat : Int) < 128 ∨ decide ((c.toNat : Int) < 128) = false) := by by_cases h : (c.toNat : Int) < 128; exact .inl h; exact .inr (by simpa using h)
        have H4 : Hid (191 < (c.toNat : Int) ∨ decide (191 < (c.toNat : Int)) = false) := by by_cases h : 191 < (c.toNat : Int); exact .inl h; exact .inr (by simpa using h)
        rcases h1 with h1 | h1 <;> rcases h2 with h2 | h2
        all_goals
          go_enter Tryd.func35, Tryd.ntmps35
          go_wp2_with fail
          try go_quiet (fail)
          all_goals rcases H3.out with h3 | h3 <;> rcases H4.out with h4 | h4
          all_goals go_wp2_with fail
          try go_quiet (fail)
          all_goals go_wp2_with fail
          all_goals go_ret
          all_goals exact ⟨_, rfl, by first | exact hb0 | exact below_drewN ((Below.refl w.heap.size w).alloc (Nat.le_refl _) _) _⟩
      · have hb1 := u8_lt b
        obtain ⟨lo, hlo⟩ : ∃ lo : Int, lo = Lib.accLo 1 := ⟨_, rfl⟩
        obtain ⟨hi, hhi⟩ : ∃ hi : Int, hi = Lib.accHi 1 := ⟨_, rfl⟩
        rw [← hlo, ← hhi] at a1
        clear hlo hhi
        have h1 : (b.toNat : Int) < lo ∨ decide ((b.toNat : Int) < lo) = false := by by_cases h : (b.toNat : Int) < lo; exact .inl h; exact .inr (by simpa using h)
        have h2 : hi < (b.toNat : Int) ∨ decide (hi < (b.toNat : Int)) = false := by by_cases h : hi < (b.toNat : Int); exact .inl h; exact .inr (by simpa using h)
        have H3 : Hid ((c.toNat : Int) < 128 ∨ decide ((c.toNat : Int) < 128) = false) := by by_cases h : (c.toNat : Int) < 128; exact .inl h; exact .inr (by simpa using h)
        have H4 : Hid (191 < (c.toNat : Int) ∨ decide (191 < (c.toNat : Int)) = false) := by by_cases h : 191 < (c.toNat : Int); exact .inl h; exact .inr (by simpa using h)
        rcases h1 with h1 | h1 <;> rcases h2 with h2 | h2
        all_goals
          go_enter Tryd.func35, Tryd.ntmps35
          go_wp2_with fail
          try go_quiet (fail)
          all_goals rcases H3.out with h3 | h3 <;> rcases H4.out with h4 | h4
          all_goals go_wp2_with fail
          try go_quiet (fail)
          all_goals go_wp2_with fail
          all_goals go_ret
          all_goals exact ⟨_, rfl, by first | exact hb0 | exact below_drewN ((Below.refl w.heap.size w).alloc (Nat.le_refl _) _) _⟩
      · have hb1 := u8_lt b
        obtain ⟨lo, hlo⟩ : ∃ lo : Int, lo = Lib.accLo 0 := ⟨_, rfl⟩
        obtain ⟨hi, hhi⟩ : ∃ hi : Int, hi = Lib.accHi 0 := ⟨_, rfl⟩
        rw [← hlo, ← hhi] at a0
        clear hlo hhi
        have h1 : (b.toNat : Int) < lo ∨ decide ((b.toNat : Int) < lo) = false := by by_cases h : (b.toNat : Int) < lo; exact .inl h; exact .inr (by simpa using h)
        have h2 : hi < (b.toNat : Int) ∨ decide (hi < (b.toNat : Int)) = false := by by_cases h : hi < (b.toNat : Int); exact .inl h; exact .inr (by simpa using h)
        have H3 : Hid ((c.toNat : Int) < 128 ∨ decide ((c.toNat : Int) < 128) = false) := by by_cases h : (c.toNat : Int) < 128; exact .inl h; exact .inr (by simpa using h)
        have H4 : Hid (191 < (c.toNat : Int) ∨ decide (191 < (c.toNat : Int)) = false) := by by_cases h : 191 < (c.toNat : Int); exact .inl h; exact .inr (by simpa using h)
        rcases h1 with h1 | h1 <;> rcases h2 with h2 | h2
        all_goals
          go_enter Tryd.func35, Tryd.ntmps35
          go_wp2_with fail
          try go_quiet (fail)
          all_goals rcases H3.out with h3 | h3 <;> rcases H4.out with h4 | h4
          all_goals go_wp2_with fail
          try go_quiet (fail)
          all_goals go_wp2_with fail
          all_goals go_ret
          all_goals exact ⟨_, rfl, by first | exact hb0 | exact below_drewN ((Below.refl w.heap.size w).alloc (Nat.le_refl _) _) _⟩
      · have hb1 := u8_lt b
        obtain ⟨lo, hlo⟩ : ∃ lo : Int, lo = Lib.accLo 2 := ⟨_, rfl⟩
        obtain ⟨hi, hhi⟩ : ∃ hi : Int, hi = Lib.accHi 2 := ⟨_, rfl⟩
        rw [← hlo, ← hhi] at a2
        clear hlo hhi
        have h1 : (b.toNat : Int) < lo ∨ decide ((b.toNat : Int) < lo) = false := by by_cases h : (b.toNat : Int) < lo; exact .inl h; exact .inr (by simpa using h)
        have h2 : hi < (b.toNat : Int) ∨ decide (hi < (b.toNat : Int)) = false := by by_cases h : hi < (b.toNat : Int); exact .inl h; exact .inr (by simpa using h)
        have H3 : Hid ((c.toNat : Int) < 128 ∨ decide ((c.toNat : Int) < 128) = false) := by by_cases h : (c.toNat : Int) < 128; exact .inl h; exact .inr (by simpa using h)
        have H4 : Hid (191 < (c.toNat : Int) ∨ decide (191 < (c.toNat : Int)) = false) := by by_cases h : 191 < (c.toNat : Int); exact .inl h; exact .inr (by simpa using h)
        rcases h1 with h1 | h1 <;> rcases h2 with h2 | h2
        all_goals
          go_enter Tryd.func35, Tryd.ntmps35
          go_wp2_with fail
          try go_quiet (fail)
          all_goals rcases H3.out with h3 | h3 <;> rcases H4.out with h4 | h4
          all_goals go_wp2_with fail
          try go_quiet (fail)
          all_goals go_wp2_with fail
          all_goals go_ret
          all_goals exact ⟨_, rfl, by first | exact hb0 | exact below_drewN ((Below.refl w.heap.size w).alloc (Nat.le_refl _) _) _⟩
      · have hb1 := u8_lt b
        obtain ⟨lo, hlo⟩ : ∃ lo : Int, lo = Lib.accLo 3 := ⟨_, rfl⟩
        obtain ⟨hi, hhi⟩ : ∃ hi : Int, hi = Lib.accHi 3 := ⟨_, rfl⟩
        rw [← hlo, ← hhi] at a3
        clear hlo hhi
        have h1 : (b.toNat : Int) < lo ∨ decide ((b.toNat : Int) < lo) = false := by by_cases h : (b.toNat : Int) < lo; exact .inl h; exact .inr (by simpa using h)
        have h2 : hi < (b.toNat : Int) ∨ decide (hi < (b.toNat : Int)) = false := by by_cases h : hi < (b.toNat : Int); exact .inl h; exact .inr (by simpa using h)
        have H3 : Hid ((c.toNat : Int) < 128 ∨ decide ((c.toNat : Int) < 128) = false) := by by_cases h : (c.toNat : Int) < 128; exact .inl h; exact .inr (by simpa using h)
        have H4 : Hid (191 < (c.toNat : Int) ∨ decide (191 < (c.toNat : Int)) = false) := by by_cases h : 191 < (c.toNat : Int); exact .inl h; exact .inr (by simpa using h)
        rcases h1 with h1 | h1 <;> rcases h2 with h2 | h2
        all_goals
          go_enter Tryd.func35, Tryd.ntmps35
          go_wp2_with fail
          try go_quiet (fail)
          all_goals rcases H3.out with h3 | h3 <;> rcases H4.out with h4 | h4
          all_goals go_wp2_with fail
          try go_quiet (fail)
          all_goals go_wp2_with fail
          all_goals go_ret
          all_goals exact ⟨_, rfl, by first | exact hb0 | exact below_drewN ((Below.refl w.heap.size w).alloc (Nat.le_refl _) _) _⟩
      · have hb1 := u8_lt b
        obtain ⟨lo, hlo⟩ : ∃ lo : Int, lo = Lib.accLo 0 := ⟨_, rfl⟩
        obtain ⟨hi, hhi⟩ : ∃ hi : Int, hi = Lib.accHi 0 := ⟨_, rfl⟩
        rw [← hlo, ← hhi] at a0
        clear hlo hhi
        have h1 : (b.toNat : Int) < lo ∨ decide ((b.toNat : Int) < lo) = false := by by_cases h : (b.toNat : Int) < lo; exact .inl h; exact .inr (by simpa using h)
        have h2 : hi < (b.toNat : Int) ∨ decide (hi < (b.toNat : Int)) = false := by by_cases h : hi < (b.toNat : Int); exact .inl h; exact .inr (by simpa using h)
        have H3 : Hid ((c.toNat : Int) < 128 ∨ decide ((c.toNat : Int) < 128) = false) := by by_cases h : (c.toNat : Int) < 128; exact .inl h; exact .inr (by simpa using h)
        have H4 : Hid (191 < (c.toNat : Int) ∨ decide (191 < (c.toNat : Int)) = false) := by by_cases h : 191 < (c.toNat : Int); exact .inl h; exact .inr (by simpa using h)
        rcases h1 with h1 | h1 <;> rcases h2 with h2 | h2
        all_goals
          go_enter Tryd.func35, Tryd.ntmps35
          go_wp2_with fail
          try go_quiet (fail)
          all_goals rcases H3.out with h3 | h3 <;> rcases H4.out with h4 | h4
          all_goals go_wp2_with fail
          try go_quiet (fail)
          all_goals go_wp2_with fail
          all_goals go_ret
          all_goals exact ⟨_, rfl, by first | exact hb0 | exact below_drewN ((Below.refl w.heap.size w).alloc (Nat.le_refl _) _) _⟩
      · have hb1 := u8_lt b
        obtain ⟨lo, hlo⟩ : ∃ lo : Int, lo = Lib.accLo 4 := ⟨_, rfl⟩
        obtain ⟨hi, hhi⟩ : ∃ hi : Int, hi = Lib.accHi 4 := ⟨_, rfl⟩
        rw [← hlo, ← hhi] at a4
        clear hlo hhi
        have h1 : (b.toNat : Int) < lo ∨ decide ((b.toNat : Int) < lo) = false := by by_cases h : (b.toNat : Int) < lo; exact .inl h; exact .inr (by simpa using h)
        have h2 : hi < (b.toNat : Int) ∨ decide (hi < (b.toNat : Int)) = false := by by_cases h : hi < (b.toNat : Int); exact .inl h; exact .inr (by simpa using h)
        have H3 : Hid ((c.toNat : Int) < 128 ∨ decide ((c.toNat : Int) < 128) = false) := by by_cases h : (c.toNat : Int) < 128; exact .inl h; exact .inr (by simpa using h)
        have H4 : Hid (191 < (c.toNat : Int) ∨ decide (191 < (c.toNat : Int)) = false) := by by_cases h : 191 < (c.toNat : Int); exact .inl h; exact .inr (by simpa using h)
        rcases h1 with h1 | h1 <;> rcases h2 with h2 | h2
        all_goals
          go_enter Tryd.func35, Tryd.ntmps35
          go_wp2_with fail
          try go_quiet (fail)
          all_goals rcases H3.out with h3 | h3 <;> rcases H4.out with h4 | h4
          all_goals go_wp2_with fail
          try go_quiet (fail)
          all_goals go_wp2_with fail
          all_goals go_ret
          all_goals exact ⟨_, rfl, by first | exact hb0 | exact below_drewN ((Below.refl w.heap.size w).alloc (Nat.le_refl _) _) _⟩
    · rcases HX.out with rfl | rfl | rfl | rfl | rfl | rfl | rfl | rfl | rfl
      all_goals
        go_enter Tryd.func35, Tryd.ntmps35
        go_wp2_with fail
        try go_quiet (fail)
        all_goals go_wp2_with fail
        try go_quiet (fail)
        all_goals go_wp2_with fail
        all_goals go_ret
        all_goals exact ⟨_, rfl, by first | exact hb0 | exact below_drewN ((Below.refl w.heap.size w).alloc (Nat.le_refl _) _) _⟩
end Go.Proofs.YtpkacoknpedolaaDoor
