/-
  The walk of the program's leader: it returns where the data begin, or panics with the offset and the error.
-/
import Derived.Test.YtfkleeigdplapaaDoorP1
import Derived.Test.YtfkleeigdplapaaDoorW10
namespace Go.Proofs.YtfkleeigdplapaaDoor
open Go.RowKit

theorem check_any (b : Bool) (at_ e : Int) (w : World) : Calls Tryd.prog 65 #[.bool b, .int .i64 at_, .int .i64 e] w fun e' w' => w = w' ∧ ((b = true ∧ e' = .returned (.tuple #[])) ∨ (b = false ∧ e' = failV at_ e)) := by
  cases b
  · exact (check_bad at_ e w).mono fun e' w' h => ⟨h.2, .inr ⟨rfl, h.1⟩⟩
  · exact (check_ok at_ e w).mono fun e' w' h => ⟨h.2, .inl ⟨rfl, h.1⟩⟩
def LeadPost (l : Bs) (w : World) (e : Ending) (w' : World) : Prop :=
  Below w.heap.size w w' ∧ ((Hid ((leaderR l).2 = 0) ∧ e = .returned (.int .i64 (numB (sub3 l 12 17)))) ∨ (Hid ((leaderR l).2 ≠ 0) ∧ e = failV (leaderR l).1 (leaderR l).2))
theorem lead_err {l : Bs} {w w' : World} {e : Ending} {a b : Int} (hb : Below w.heap.size w w') (h0 : b ≠ 0) (he : e = failV a b) (h : leaderR l = (a, b)) : LeadPost l w e w' := ⟨hb, .inr ⟨by rw [h]; exact h0, by rw [h]; exact he⟩⟩
theorem lead_ok {l : Bs} {w w' : World} {e : Ending} {a b : Int} (hn : numB (sub3 l 12 17) = b) (hb : Below w.heap.size w w') (he : e = .returned (.int .i64 b)) (h : leaderR l = (a, 0)) : LeadPost l w e w' := ⟨hb, .inl ⟨by rw [h]; rfl, by rw [hn]; exact he⟩⟩
theorem leader_eq (l : Bs) (h24 : 24 ≤ l.length) (n b : Int) (hn : numB (l.take 5) = n) (hb : numB (List.drop 12 (List.take 17 l)) = b) :
    leaderR l = if n < 0 then ((0, 12) : Int × Int) else if l.length < n then ((l.length : Int), (10 : Int)) else if n < l.length then (0, 12) else if !letterB (l.getD 6 0) then (6, 12) else if !letterB (l.getD 7 0) then (7, 12)
      else if ((l.getD 9 0).toNat : Int) ≠ 97 then (9, 12) else if List.drop 10 (List.take 12 l) ≠ [50, 50] then (10, 12) else if List.drop 20 (List.take 24 l) ≠ [52, 53, 48, 48] then (20, 12)
      else if b < 25 ∨ n ≤ b ∨ (b - 25) % 12 ≠ 0 ∨ ((l.getD (b.toNat - 1) 0).toNat : Int) ≠ 30 then (12, 12) else if 999 < (b - 25) / 12 then (12, 2) else if ((l.getD (n.toNat - 1) 0).toNat : Int) ≠ 29 then ((n - 1 : Int), 14) else (0, 0) := by
  unfold leaderR
  rw [if_neg (by omega)]
  simp only [sub3, hn, hb]
  have h1 : ∀ c : UInt8, ((c.toNat : Int) ≠ 97) = (c ≠ 97) := fun c => propext (by rw [ne_eq, ne_eq, ← UInt8.toNat_inj]; simp; omega)
  have h2 : ∀ c : UInt8, ((c.toNat : Int) ≠ 30) = (c ≠ 30) := fun c => propext (by rw [ne_eq, ne_eq, ← UInt8.toNat_inj]; simp; omega)
  have h3 : ∀ c : UInt8, ((c.toNat : Int) ≠ 29) = (c ≠ 29) := fun c => propext (by rw [ne_eq, ne_eq, ← UInt8.toNat_inj]; simp; omega)
  rw [show (b - 1).toNat = b.toNat - 1 from by omega, show (n - 1).toNat = n.toNat - 1 from by omega]
  simp only [h1, h2, h3]
theorem sub25 (b : Int) : b - 24 - 1 = b - 25 := by omega
set_option linter.unusedSimpArgs false in
set_option maxHeartbeats 4000000 in
set_option maxRecDepth 100000 in
theorem leader_45 (l : Bs) (w : World) (hl : l.length ≤ 1000000000) : Calls Tryd.prog 45 #[S l] w (LeadPost l w) := by
  by_cases h24 : 24 ≤ l.length
  · obtain ⟨n, hn⟩ : ∃ n, numB (l.take 5) = n := ⟨_, rfl⟩
    have hnb : -1 ≤ n ∧ n < 100000 := by rw [← hn]; exact numB_bd5 _ 5 (by omega) (by simp; omega)
    have HN : Hid (∀ W, Calls Tryd.prog 52 #[S (l.take 5)] W fun e w' => e = .returned (.int .i64 n) ∧ Below W.heap.size W w') := fun W => by rw [← hn]; exact number_52 _ W (by simp; omega)
    obtain ⟨b, hb⟩ : ∃ b, numB (List.drop 12 (List.take 17 l)) = b := ⟨_, rfl⟩
    have hbb : -1 ≤ b ∧ b < 100000 := by rw [← hb]; exact numB_bd5 _ 5 (by omega) (by simp; omega)
    have HB : Hid (∀ W, Calls Tryd.prog 52 #[S (List.drop 12 (List.take 17 l))] W fun e w' => e = .returned (.int .i64 b) ∧ Below W.heap.size W w') := fun W => by rw [← hb]; exact number_52 _ W (by simp; omega)
    have H := Lib.hid (leader_eq l h24 n b hn hb)
    have HBE := Lib.hid hb
    clear hn hb
    go_enter Tryd.func45, Tryd.ntmps45
    go_wp2_with (first
      | (go_at_call 65; ((with_reducible refine Calls.mono (check_any _ _ _ _) ?_); rintro e w' ⟨rfl, ⟨hc, rfl⟩ | ⟨hc, rfl⟩⟩))
      | (go_at_call 52; ((with_reducible refine Calls.mono (HN.out _) ?_); rintro e w' ⟨rfl, hb1⟩))
      | (go_at_call 52; ((with_reducible refine Calls.mono (HB.out _) ?_); rintro e w' ⟨rfl, hb2⟩))
      | (go_at_call 37; ((with_reducible refine Calls.mono (letter_37 _ _) ?_); rintro e w' ⟨rfl, rfl⟩)))
    all_goals go_tidy
    all_goals clear HN HB
    all_goals (try simp only [Bool.not_eq_true', Bool.not_eq_false', bne_iff_ne, bne_eq_false_iff_eq, beq_eq_false_iff_ne, ne_eq, beq_iff_eq, decide_eq_true_eq, decide_eq_false_iff_not, sub25] at *)
    all_goals (try simp only [ge_getD] at *)
    all_goals first
      | contradiction
      | (exfalso; omega)
      | (refine ⟨rfl, lead_err ?_ ?_ rfl ?_⟩; (focus (first | exact btr hb1 hb2 hb1.size | exact hb1)); (focus decide))
      | (go_ret; refine lead_ok (a := 0) HBE.out ?_ rfl ?_; (focus (first | exact btr hb1 hb2 hb1.size | exact hb1)))
    all_goals rw [H.out]
    all_goals repeat (first
      | with_reducible rfl
      | (refine (if_neg ?_).trans ?_; (first | omega | assumption | focus ((simp only [*] <;> simp); done)))
      | (refine (if_pos ?_).trans ?_; (first | omega | assumption | focus ((simp only [*] <;> simp); done))))
  · have HE : Hid (leaderR l = ((l.length : Int), 10)) := by unfold leaderR; rw [if_pos (by omega)]; rfl
    have h2 : decide (24 ≤ (l.length : Int)) = false := by simp; omega
    go_enter Tryd.func45, Tryd.ntmps45
    go_wp2_with (go_at_call 65; ((with_reducible refine Calls.mono (check_bad _ _ _) ?_); rintro e w' ⟨rfl, rfl⟩))
    exact ⟨rfl, lead_err (Below.refl _ _) (by decide) rfl HE.out⟩
end Go.Proofs.YtfkleeigdplapaaDoor
