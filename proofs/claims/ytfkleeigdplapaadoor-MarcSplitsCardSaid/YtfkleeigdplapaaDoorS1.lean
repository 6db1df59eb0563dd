/-
  The walks of the program's Split and of splits; joined writings are divided again.
-/
import Derived.Test.YtfkleeigdplapaaDoorW13
import Derived.Test.YtfkleeigdplapaaDoorP1
namespace Go.Proofs.YtfkleeigdplapaaDoor
open Go.RowKit
attribute [local go_sem ↓] Go.wp_at_zero Go.wp_at_succ

theorem owns_keep {w w' : World} {B : Nat} {e : TypeId} {k : Nat} {v : Value} {n : Nat} {xs : List Value} (h : w.ownsRow B e k v n xs) (hb : Below w.heap.size w w') : w'.ownsRow B e k v n xs := by
  refine ⟨h.1, ?_⟩
  rcases h.2 with hn | ⟨g, cap, cur, hv, hB, hg, hr⟩
  · exact .inl hn
  · exact .inr ⟨g, cap, cur, hv, hB, by rw [hb.block g (Array.getElem?_eq_some_iff.1 hg).1]; exact hg, hr⟩
set_option linter.unusedSimpArgs false in
set_option maxHeartbeats 4000000 in
set_option maxRecDepth 100000 in
theorem split_29 (l : Bs) (w : World) (hl : l.length ≤ 140737488355328) : Calls Tryd.prog 29 #[S l] w (SplitPost l w) := by
  obtain ⟨i0, hi, hz0, hz1, hz2⟩ := info_parts i9
  have HI := Lib.hid hi
  have HI0 := Lib.hid hz0
  have HI1 := Lib.hid hz1
  have HI2 := Lib.hid hz2
  clear hi hz0 hz1 hz2
  go_enter Tryd.func29, Tryd.ntmps29
  go_wp2_with fail
  go_loopw [5, 6] (fun o i wr => ∃ (k : Nat) (out : List Bs) (v : Value), k ≤ l.length ∧ i = .int .i64 k ∧ o = v ∧ Hid (splitR l = onto out (splitGo (l.length - k) (l.drop k) k)) ∧ out.length * 26 ≤ k ∧ Hid (wr.ownsRow w.heap.size 9 1 v out.length (out.map S)) ∧ Below w.heap.size w wr) (fun _ i _ => l.length - (intOf i).toNat)
  case atStart => exact ⟨0, [], .slice none 0 0, Nat.zero_le _, rfl, rfl, by simp [splitR, onto, Hid], by simp, World.ownsRow_nil _ _ _ _, Below.refl _ _⟩
  case round =>
    obtain ⟨k, out, v, hk, rfl, rfl, HG, hout, HO, hb⟩ := hrel
    obtain ⟨va, vc, rfl⟩ := owns_shape HO.out
    have hbz := hb.size
    by_cases hlt : k < l.length
    · obtain ⟨R, hR⟩ : ∃ R, List.drop k l = R := ⟨_, rfl⟩
      have hRl : R.length = l.length - k := by rw [← hR]; simp
      by_cases h5 : l.length - k < 5
      · have HE : Hid (splitR l = (out, (k : Int), 10)) := by rw [HG.out, split_step l k hlt _ rfl, if_pos h5]; simp [onto, Hid]
        have h5' : R.length < 5 := by omega
        go_wp2_with fail
        go_ret3
        exact splitPost_of HE.out hb _ rfl (owns_strs HO.out (Nat.le_refl _))
      · obtain ⟨n, hn⟩ : ∃ n, n = numB ((l.drop k).take 5) := ⟨_, rfl⟩
        have H71 : Hid (∀ W, Calls Tryd.prog 52 #[S (List.take 5 R)] W fun e w' => e = .returned (.int .i64 n) ∧ Below W.heap.size W w') := by
          intro W; rw [hn, hR]; exact number_52 _ _ (by simp; omega)
        have hnb : -1 ≤ n ∧ n < 100000 := by rw [hn]; exact numB_bd5 _ 5 (by omega) (by simp; omega)
        have hst := split_step l k hlt n hn
        rw [if_neg h5] at hst
        have HST := Lib.hid hst
        clear hst hn
        by_cases h26 : n < 26
        · have HE : Hid (splitR l = (out, (k : Int), 12)) := by rw [HG.out, HST.out, if_pos h26]; simp [onto, Hid]
          go_wp2_with (go_at_call 52; ((with_reducible refine Calls.mono (H71.out _) ?_); rintro e w' ⟨rfl, hb52⟩; have hz52 := hb52.size; have HB52 := Lib.hid hb52; have HO' := Lib.hid (owns_keep HO.out hb52); clear hb52))
          go_ret3
          exact splitPost_of HE.out (btr hb HB52.out hbz) _ rfl (owns_strs HO'.out (Nat.le_refl _))
        · by_cases hgt : ((l.length - k : Nat) : Int) < n
          · have HE : Hid (splitR l = (out, (k : Int), 10)) := by rw [HG.out, HST.out, if_neg h26, if_pos hgt]; simp [onto, Hid]
            have hgt' : (R.length : Int) < n := by omega
            go_wp2_with (go_at_call 52; ((with_reducible refine Calls.mono (H71.out _) ?_); rintro e w' ⟨rfl, hb52⟩; have hz52 := hb52.size; have HB52 := Lib.hid hb52; have HO' := Lib.hid (owns_keep HO.out hb52); clear hb52))
            go_ret3
            exact splitPost_of HE.out (btr hb HB52.out hbz) _ rfl (owns_strs HO'.out (Nat.le_refl _))
          · obtain ⟨m, rfl⟩ := Int.eq_ofNat_of_zero_le (show 0 ≤ n by omega)
            have hgt' : ¬ (R.length : Int) < m := by omega
            have HN : Hid (splitR l = onto (out ++ [List.take m R]) (splitGo (l.length - (k + m)) (l.drop (k + m)) (k + m))) := by
              rw [HG.out, HST.out, if_neg h26, if_neg hgt, hR]; simp [onto, Hid]
            have hown := HO.out
            go_wp2_with (first
              | (go_at_call 52; ((with_reducible refine Calls.mono (H71.out _) ?_); rintro e w' ⟨rfl, hb52⟩; have hz52 := hb52.size; have HB52 := Lib.hid hb52; have HO' := Lib.hid (owns_keep HO.out hb52); clear hb52))
              | (at_builtin; refine wpList_append_own_at _ rfl _ _ 44 rfl w.heap.size 9 i0 (.string ⟨#[]⟩) 1 16 Tryd.underlying44 HI.out HI0.out HI1.out HI2.out rfl (by omega) (.slice va out.length vc) out.length _ rfl (HO'.out.alloc _) ⟨w'.heap.size, 0, none⟩ 1 1 [S (List.take m R)] rfl rfl (cell_one_new _ _ _) (by simp [Value.oneCell']) (by unfold maxLen; omega) (by omega) (by simp; omega) ?_; intro v' w2 hown2 hgw _ _; have HO2 := Lib.hid hown2; have HG2 := Lib.hid hgw; clear hown2 hgw))
            go_roundw
            case rel => exact ⟨k + m, out ++ [List.take m R], v', by omega, by go_num, rfl, HN, by simp; omega, by simpa [Hid] using HO2.out, (((btr hb HB52.out hbz).alloc (by have := HB52.out.size; omega) _).grown HG2.out (by have := HB52.out.size; simp; omega) (fun g hg => (HO'.out.lt g (by simpa using hg)).1))⟩
            case measure => simp [intOf]; omega
    · have HE : Hid (splitR l = (out, 0, 0)) := by rw [HG.out, split_end l k (by omega)]; simp [onto, Hid]
      go_wp2_with fail
      go_ret3
      exact splitPost_of HE.out hb _ rfl (owns_strs HO.out (Nat.le_refl _))
theorem splitGo_len (f : Nat) : ∀ (s : Bs) (k : Nat), (splitGo f s k).1.length ≤ f := by
  induction f with
  | zero => intro s k; simp [splitGo]
  | succ f ih =>
    intro s k
    simp only [splitGo]
    split
    · simp
    · split
      · simp
      · split
        · simp
        · split
          · simp
          · have := ih (s.drop (numB (s.take 5)).toNat) (k + (numB (s.take 5)).toNat)
            simp only [List.length_cons]; omega
theorem strs_up {B : Nat} {W W' : World} {v : Value} {ls : List Bs} (h : StrsAt B W.heap.size W v ls) (hb : Below W.heap.size W W') : StrsAt 0 W'.heap.size W' v ls :=
  (h.mono (Nat.zero_le _) (Nat.le_refl _)).kept (bkept hb (Nat.le_refl _)) |>.mono (Nat.le_refl _) hb.size
theorem strs_shape {lo hi : Nat} {W : World} {v : Value} {ls : List Bs} (h : StrsAt lo hi W v ls) : ∃ a cap, v = .slice a ls.length cap := by
  obtain ⟨a, cap, hv, _⟩ := h; exact ⟨a, cap, by simpa using hv⟩
set_option maxHeartbeats 1000000 in
theorem splits_31 (l : Bs) (w : World) (hl : l.length ≤ 140737488355328) : Calls Tryd.prog 31 #[S l] w fun e w' => e = .returned (.bool true) ∧ Below w.heap.size w w' := by
  have HL := Lib.hid (splitGo_len l.length l 0)
  have H29 := Lib.hid (fun W => split_29 l W hl)
  have H53 := Lib.hid (fun W => split_53 l W hl)
  go_enter Tryd.func31, Tryd.ntmps31
  go_wp2_with (first
    | (go_at_call 29; ((with_reducible refine Calls.mono (H29.out _) ?_); rintro e w1 ⟨hb1, v1, rfl, hs1⟩; have HS1 := Lib.hid hs1; clear hs1))
    | (go_at_call 53; ((with_reducible refine Calls.mono (H53.out _) ?_); rintro e w2 ⟨hb2, v2, rfl, hs2⟩; have HS2 := Lib.hid hs2; clear hs2))
    | (go_at_call 30; ((with_reducible refine Calls.mono (strings_30 (splitR l).1 (splitR l).1 v1 v2 w2 (strs_up HS1.out hb2) (strs_up HS2.out (Below.refl _ _)) (Nat.le_trans HL.out (by omega))) ?_); rintro e w3 ⟨rfl, hb3⟩)))
  go_ret
  exact ⟨by simp, btr hb1 (btr hb2 hb3 hb2.size) hb1.size⟩
end Go.Proofs.YtfkleeigdplapaaDoor
