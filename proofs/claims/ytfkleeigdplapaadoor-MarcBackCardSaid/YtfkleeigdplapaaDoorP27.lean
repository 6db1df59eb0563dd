/-
  The walk of MarcFields.
-/
import Derived.Test.YtfkleeigdplapaaDoorP22
namespace Go.Proofs.YtfkleeigdplapaaDoor
open Go.RowKit
attribute [local go_sem ↓] Go.wp_at_zero Go.wp_at_succ

def headsL : List Bs := [[], [49, 48], [49, 48, 31], [49, 48, 31, 97], [49, 48, 31, 97, 84, 31]]
theorem heads_len : ∀ k, (headsL.getD k []).length ≤ 6
  | 0 => by decide
  | 1 => by decide
  | 2 => by decide
  | 3 => by decide
  | 4 => by decide
  | _ + 5 => by simp [headsL]
theorem heads_cell (w : World) (T : TypeId) : ∀ k, k < 5 → (w.alloc (Obj.cells #[S [], S [49, 48], S [49, 48, 31], S [49, 48, 31, 97], S [49, 48, 31, 97, 84, 31]] T)).cell? ⟨w.heap.size, k, none⟩ = some (S (headsL.getD k []))
  | 0, _ => by rw [World.cell?_alloc_new]; rfl
  | 1, _ => by rw [World.cell?_alloc_new]; rfl
  | 2, _ => by rw [World.cell?_alloc_new]; rfl
  | 3, _ => by rw [World.cell?_alloc_new]; rfl
  | 4, _ => by rw [World.cell?_alloc_new]; rfl
  | _ + 5, h => by omega
theorem wrapped_len (tag f : Bs) : (wrappedB tag f).length = 35 + tag.length + f.length := by simp only [wrappedB, List.length_append, fixedN_length, List.length_cons, List.length_nil]; omega
theorem parses_at (l : Bs) (w : World) (hl : l.length ≤ 400000) (hT : Tabs w) : Calls Tryd.prog 22 #[S l] w fun e w' => e = .returned (.bool true) ∧ Below w.heap.size w w' := parses_22 l w hl hT
set_option maxHeartbeats 4000000 in
set_option maxRecDepth 100000 in
theorem fields_5 (raw : Bs) (kind : Int) (w : World) (hT : Tabs w) (hr : raw.length ≤ maxLen) :
    Calls Tryd.prog 5 #[S raw, .int .i64 kind] w fun e w' => e = .returned (.bool true) ∧ Below w.heap.size w w' := by
  unfold maxLen at hr
  have HT := Lib.hid (fun W (h : Below w.heap.size w W) => tabs_below hT h)
  have H13 := Lib.hid (sanity_13 w hT)
  have H21 := Lib.hid (fun W => mod_21 kind 2 W (by omega) (by omega))
  have hk : kind.emod 2 = 0 ∨ kind.emod 2 = 1 := by have : kind.emod 2 = kind % 2 := rfl; omega
  clear hT
  obtain ⟨k, hk'⟩ : ∃ k, kind.emod 2 = k := ⟨_, rfl⟩
  rw [hk'] at H21 hk
  clear hk'
  have hx40 : (List.take (min (↑(List.length raw)) 40 : Int).toNat raw).length ≤ 40 := by simp; omega
  have h01 : 0 ≤ min (↑(List.length raw)) (40 : Int) ∧ min (↑(List.length raw)) (40 : Int) ≤ raw.length := by omega
  rcases hk with rfl | rfl
  all_goals
    go_enter Tryd.func5, Tryd.ntmps5
    go_wp2_with (first
      | (go_at_call 13; ((with_reducible refine Calls.mono H13.out ?_); rintro e w1 ⟨rfl, hb1⟩))
      | (go_at_call 21; ((with_reducible refine Calls.mono (H21.out _) ?_); rintro e w' ⟨rfl, rfl⟩)))
    generalize (List.take (min (↑(List.length raw)) 40 : Int).toNat raw) = X at *
    have HHD := Lib.hid (fun k hk => heads_cell (w1.alloc (Obj.cells #[S [48, 48, 49], S [50, 52, 53]] 9)) 9 k hk)
    simp only [World.size_alloc] at HHD
    go_loopw [9] (fun i wr => ∃ (k : Nat), k ≤ 5 ∧ i = .int .i64 k ∧ Below (w1.heap.size + 2) ((w1.alloc (Obj.cells #[S [48, 48, 49], S [50, 52, 53]] 9)).alloc (Obj.cells #[S [], S [49, 48], S [49, 48, 31], S [49, 48, 31, 97], S [49, 48, 31, 97, 84, 31]] 9)) wr) (fun i _ => 5 - (intOf i).toNat)
    case atStart => exact ⟨0, by omega, rfl, Below.refl _ _⟩
    case round =>
      obtain ⟨k, hk, rfl, hb⟩ := hrel
      have hb0 : Below w.heap.size w wr := hb1.trans ((((Below.refl _ w1).alloc (Nat.le_refl _) _).alloc (by simp) _).trans (hb.mono (by omega)) |>.mono hb1.size)
      by_cases hlt : k < 5
      · have hc : wr.cell? ⟨w1.heap.size + 1, k, none⟩ = some (S (headsL.getD k [])) := by
          rw [hb.cell (p := ⟨w1.heap.size + 1, k, none⟩) (by simp)]
          exact HHD.out k hlt
        have hl6 := heads_len k
        generalize headsL.getD k [] = H at *
        obtain ⟨F1, hF1⟩ : ∃ F, F = H ++ (X ++ [30]) := ⟨_, rfl⟩
        obtain ⟨F2, hF2⟩ : ∃ F, F = H ++ X := ⟨_, rfl⟩
        have hl1 : F1.length ≤ 100 := by rw [hF1]; simp; omega
        have hl2 : F2.length ≤ 100 := by rw [hF2]; simp; omega
        have HF1 := Lib.hid hF1
        have HF2 := Lib.hid hF2
        clear hF1 hF2
        go_wp2_with (go_at_call 23; ((with_reducible refine Calls.mono (wrapped_23 _ (H ++ (X ++ [30])) _ (by decide) (by simp; omega)) ?_); rintro e w2 ⟨rfl, hb2⟩; rw [← HF1.out]; have HB2 := Lib.hid (btr hb0 hb2 hb0.size)))
        ((with_reducible refine Calls.mono (parses_at (wrappedB _ F1) _ (by rw [wrapped_len]; simp; omega) (HT.out _ HB2.out)) ?_); rintro e w3 ⟨rfl, hb3⟩; have HB3 := Lib.hid (btr HB2.out hb3 HB2.out.size))
        go_wp2_with (go_at_call 23; ((with_reducible refine Calls.mono (wrapped_23 _ (H ++ X) _ (by decide) (by simp; omega)) ?_); rintro e w4 ⟨rfl, hb4⟩; rw [← HF2.out]; have HB4 := Lib.hid (btr HB3.out hb4 HB3.out.size)))
        ((with_reducible refine Calls.mono (parses_at (wrappedB _ F2) _ (by rw [wrapped_len]; simp; omega) (HT.out _ HB4.out)) ?_); rintro e w5 ⟨rfl, hb5⟩)
        go_wp2_with fail
        go_roundw
        case rel =>
          refine ⟨k + 1, by omega, by go_num, ?_⟩
          have z0 := hb.size
          have z2 := hb2.size
          have z3 := hb3.size
          have z4 := hb4.size
          simp only [World.size_alloc] at z0
          exact (((hb.trans (hb2.mono (by omega))).trans (hb3.mono (by omega))).trans (hb4.mono (by omega))).trans (hb5.mono (by omega))
        case measure => simp [intOf]; omega
      · go_wp2_with fail
        go_ret
        exact ⟨rfl, hb0⟩
end Go.Proofs.YtfkleeigdplapaaDoor
