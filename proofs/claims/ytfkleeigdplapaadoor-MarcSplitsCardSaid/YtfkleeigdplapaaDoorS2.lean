/-
  Joined writings are divided again; the walk of MarcSplits.
-/
import Derived.Test.YtfkleeigdplapaaDoorS1
import Derived.Test.YtfkleeigdplapaaDoorM4
namespace Go.Proofs.YtfkleeigdplapaaDoor
open Go.RowKit
attribute [local go_sem ↓] Go.wp_at_zero Go.wp_at_succ

theorem write_head (r : RecD) (h : (writeB r).length ≤ 99999) (l : Bs) : numB ((writeB r ++ l).take 5) = (writeB r).length := by
  have hlen : (writeB r).length = 25 + (dirFrom 0 r.fields).length + (dataOf r.fields).length + 1 := by
    simp only [writeB, leaderOf, List.length_append, fixedN_length, List.length_cons, List.length_nil]; omega
  have ht : (writeB r ++ l).take 5 = fixedN 5 (writeB r).length := by
    rw [hlen]
    unfold writeB leaderOf
    simp only [List.append_assoc]
    rw [List.take_append_of_le_length (by rw [fixedN_length]; omega), List.take_of_length_le (by rw [fixedN_length]; omega)]
  rw [ht, numB_fixedN 5 _ (by omega)]
theorem splitGo_joined (rs : List RecD) : ∀ (f k : Nat), (rs.flatMap writeB).length ≤ f → (∀ r ∈ rs, 26 ≤ (writeB r).length ∧ (writeB r).length ≤ 99999) → splitGo f (rs.flatMap writeB) k = (rs.map writeB, 0, 0) := by
  induction rs with
  | nil => intro f k _ _; cases f <;> simp [splitGo]
  | cons r rs ih =>
    intro f k hf h
    obtain ⟨h1, h2⟩ := h r List.mem_cons_self
    rw [List.flatMap_cons] at hf ⊢
    rw [List.length_append] at hf
    cases f with
    | zero => omega
    | succ f =>
      have hn := write_head r h2 (rs.flatMap writeB)
      simp only [splitGo, hn]
      rw [if_neg (by rw [List.length_append]; omega), if_neg (by rw [List.length_append]; omega), if_neg (by omega), if_neg (by rw [List.length_append]; omega)]
      rw [Int.toNat_natCast, List.take_append_of_le_length (Nat.le_refl _), List.take_length, List.drop_append_of_le_length (Nat.le_refl _), List.drop_length, List.nil_append]
      rw [ih f _ (by omega) (fun r hr => h r (List.mem_cons_of_mem _ hr))]
      rfl
theorem split_joined (rs : List RecD) (h : ∀ r ∈ rs, GoodR r) : splitR (rs.flatMap writeB) = (rs.map writeB, 0, 0) :=
  splitGo_joined rs _ 0 (Nat.le_refl _) (fun r hr => by have := good_len (h r hr); omega)
/-- A slice of slices of triples. -/
def LotsAt (w : World) (v : Value) (n : Nat) : Prop :=
  ∃ a cap, v = .slice a n cap ∧ (0 < n → ∃ b off, a = some ⟨b, off, none⟩ ∧ b < w.heap.size ∧ ∀ j, j < n → ∃ (u : Value) (m : Nat), w.cell? ⟨b, off + j, none⟩ = some u ∧ IntsAt w u m ∧ m ≤ maxLen)
theorem LotsAt.below {w w' : World} {v : Value} {n : Nat} (h : LotsAt w v n) (hb : Below w.heap.size w w') : LotsAt w' v n := by
  obtain ⟨a, cap, hv, h⟩ := h
  refine ⟨a, cap, hv, fun h0 => ?_⟩
  obtain ⟨b, off, ha, hlt, hc⟩ := h h0
  refine ⟨b, off, ha, Nat.lt_of_lt_of_le hlt hb.size, fun j hj => ?_⟩
  obtain ⟨u, m, hu, hm, hl⟩ := hc j hj
  exact ⟨u, m, by rw [hb.cell (p := ⟨b, off + j, none⟩) hlt]; exact hu, hm.below hb, hl⟩
set_option maxHeartbeats 8000000 in
set_option maxRecDepth 100000 in
theorem splits_12 (n : Nat) (x : Value) (raw : Bs) (z : Int) (w : World) (hT : Tabs w) (hx : LotsAt w x n) (hn : n ≤ maxLen) (hr : raw.length ≤ 140737488355328) :
    Calls Tryd.prog 12 #[x, S raw, .int .i64 z] w fun e w' => e = .returned (.bool true) ∧ Below w.heap.size w w' := by
  unfold maxLen at hn
  have H13 := Lib.hid (sanity_13 w hT)
  have HX : Hid (∀ W, Below w.heap.size w W → LotsAt W x n) := fun W h => hx.below h
  obtain ⟨xa, xc, rfl, _⟩ := hx
  obtain ⟨i0, hi, hz0, hz1, hz2⟩ := info_parts i9
  have HI := Lib.hid hi
  have HI0 := Lib.hid hz0
  have HI1 := Lib.hid hz1
  have HI2 := Lib.hid hz2
  clear hi hz0 hz1 hz2 hT
  obtain ⟨Y, hY⟩ : ∃ Y, List.take (min (↑(List.length raw)) 40 : Int).toNat raw = Y := ⟨_, rfl⟩
  have hYl : Y.length ≤ 40 := by rw [← hY]; simp; omega
  have h01 : 0 ≤ min (↑(List.length raw)) (40 : Int) ∧ min (↑(List.length raw)) (40 : Int) ≤ raw.length := by omega
  go_enter Tryd.func12, Tryd.ntmps12
  go_wp2_with (go_at_call 13; ((with_reducible refine Calls.mono H13.out ?_); rintro e w1 ⟨rfl, hb1⟩; have HB1 := Lib.hid hb1; clear hb1))
  go_loopw [8, 9, 10] (fun o s i wr => ∃ (k : Nat) (rs : List RecD) (v : Value) (J : Bs), k ≤ n ∧ k ≤ 6 ∧ i = .int .i64 k ∧ o = v ∧ s = S J ∧ J.length ≤ 1000 * k ∧ Hid (J = rs.flatMap writeB) ∧ Hid (rs.length = k) ∧ Hid (∀ r ∈ rs, GoodR r) ∧ Hid (wr.ownsRow w.heap.size 9 1 v k ((rs.map writeB).map S)) ∧ Below w.heap.size w wr) (fun _ _ i _ => 6 - (intOf i).toNat)
  case atStart => exact ⟨0, [], .slice none 0 0, [], by omega, by omega, rfl, rfl, rfl, by simp, rfl, rfl, fun r hr => absurd hr (by simp), World.ownsRow_nil _ _ _ _, HB1.out⟩
  case round =>
    obtain ⟨k, rs, v, J, hk, hk6, rfl, rfl, rfl, hJl, HJ, HK, HGD, HO, hb⟩ := hrel
    obtain ⟨va, vc, rfl⟩ := owns_shape HO.out
    have hbz := hb.size
    have HB := Lib.hid hb
    by_cases hlt : k < n ∧ k < 6
    · obtain ⟨hlt, hlt6⟩ := hlt
      obtain ⟨_, _, hv, hc⟩ := HX.out wr hb
      cases hv
      obtain ⟨b, off, rfl, _, hc⟩ := hc (by omega)
      obtain ⟨u, m, hu, hm, hml⟩ := hc k hlt
      have HU := Lib.hid (made_at m u wr hm hml)
      clear hc hm
      go_wp2_with (first
        | (go_at_call 15; ((with_reducible refine Calls.mono HU.out ?_); rintro e w2 ⟨r, sa, cap, rfl, hb2, hm2, _⟩; have HM2 := Lib.hid hm2; have HB2 := Lib.hid hb2; clear hm2 hb2))
        | (go_at_call 20; ((with_reducible refine Calls.mono (write20_at r sa cap w2 HM2.out) ?_); rintro e w3 ⟨rfl, hb3⟩; have HB3 := Lib.hid (btr HB2.out hb3 HB2.out.size); clear hb3; have HO3 := Lib.hid (owns_keep HO.out HB3.out); have hlw := good_len HM2.out.1; have HW : Hid (∃ l, l = writeB r) := ⟨_, rfl⟩; have HBW := Lib.hid (btr HB.out HB3.out HB.out.size); have hz3 := HBW.out.size))
        | (at_builtin; refine wpList_append_own_at _ rfl _ _ 44 rfl w.heap.size 9 i0 (.string ⟨#[]⟩) 1 16 Tryd.underlying44 HI.out HI0.out HI1.out HI2.out rfl (by omega) (.slice va k vc) k _ rfl (HO3.out.alloc _) ⟨w3.heap.size, 0, none⟩ 1 1 [S (writeB r)] rfl rfl (cell_one_new _ _ _) (by simp [Value.oneCell']) (by unfold maxLen; omega) (by omega) (by simp; omega) ?_; intro v' w4 hown4 hgw _ _; have HO4 := Lib.hid hown4; have HG4 := Lib.hid hgw; clear hown4 hgw))
      go_roundw
      case rel =>
        refine ⟨k + 1, rs ++ [r], v', J ++ writeB r, by omega, by omega, by go_num, rfl, rfl, by simp; omega, ?_, ?_, ?_, ?_, ?_⟩
        · show _ = _; rw [HJ.out]; simp
        · show _ = _; rw [List.length_append, HK.out]; rfl
        · intro q hq
          rcases List.mem_append.1 hq with hq | hq
          · exact HGD.out q hq
          · simp at hq; subst hq; exact HM2.out.1
        · simpa [Hid] using HO4.out
        · exact (HBW.out.alloc HBW.out.size _).grown HG4.out (by have := HBW.out.size; simp; omega) (fun g hg => (HO3.out.lt g (by simpa using hg)).1)
      case measure => simp [intOf]; omega
    · have hnl : ¬ (k : Int) < n ∨ ((k : Int) < n ∧ ¬ (k : Int) < 6) := by omega
      have hsp := split_joined rs HGD.out
      rw [← HJ.out] at hsp
      have hol : ((rs.map writeB)).length = k := by rw [List.length_map]; exact HK.out
      have HO' : Hid (wr.ownsRow w.heap.size 9 1 (.slice va (rs.map writeB).length vc) (rs.map writeB).length ((rs.map writeB).map S)) := by rw [hol]; exact HO.out
      have HST := Lib.hid (owns_strs HO'.out (Nat.le_refl _))
      rw [hol] at HST
      have HSL : Hid ((rs.map writeB).length ≤ 1000000000000000) := by unfold Hid; omega
      have H29 : Hid (Calls Tryd.prog 29 #[S J] wr fun e w' => Below wr.heap.size wr w' ∧ ∃ v, e = .returned (.tuple #[v, .int .i64 0, .int .i64 0]) ∧ StrsAt wr.heap.size w'.heap.size w' v (rs.map writeB)) := by
        have := split_29 J wr (by omega)
        unfold SplitPost at this
        rw [hsp] at this
        exact this
      clear hsp hol HO' HJ HK HGD HO
      obtain ⟨out, hout⟩ : ∃ out, out = rs.map writeB := ⟨_, rfl⟩
      rw [← hout] at H29 HST HSL
      clear hout
      rcases hnl with hnl | ⟨hnl, hnl6⟩
      all_goals
        go_wp2_with (first
          | (go_at_call 29; ((with_reducible refine Calls.mono H29.out ?_); rintro e w2 ⟨hb2, v2, rfl, hs2⟩; have HS2 := Lib.hid hs2; have HB2 := Lib.hid hb2; clear hs2 hb2))
          | (go_at_call 30; ((with_reducible refine Calls.mono (strings_30 out out v2 (.slice va k vc) w2 (strs_up HS2.out (Below.refl _ _)) (strs_up HST.out HB2.out) HSL.out) ?_); rintro e w3 ⟨rfl, hb3⟩; have HB3 := Lib.hid (btr HB.out (btr HB2.out hb3 HB2.out.size) HB.out.size); clear hb3)))
        have hyn : ¬ 9223372036854775807 < J.length + Y.length := by omega
        ((with_reducible refine Calls.mono (splits_31 (J ++ Y) _ (by simp; omega)) ?_); rintro e w4 ⟨rfl, hb4⟩; have HB4 := Lib.hid (btr HB3.out hb4 HB3.out.size); clear hb4)
        go_wp2_with (go_at_call 21; ((with_reducible refine Calls.mono (mod_int _ _ (J.length + 1) (by omega) (by omega) (by push_cast; rfl) _) ?_); rintro e w' ⟨m, hm, rfl, rfl⟩; have hmi : (m : Int) ≤ J.length := (by omega)))
        ((with_reducible refine Calls.mono (splits_31 (List.take m J) _ (by simp; omega)) ?_); rintro e w5 ⟨rfl, hb5⟩; have HB5 := Lib.hid (btr HB4.out hb5 HB4.out.size); clear hb5)
        go_wp2_with fail
        ((with_reducible refine Calls.mono (splits_31 raw _ hr) ?_); rintro e w6 ⟨rfl, hb6⟩; have HB6 := Lib.hid (btr HB5.out hb6 HB5.out.size); clear hb6)
        go_wp2_with fail
        go_ret
        exact ⟨by simp, HB6.out⟩
end Go.Proofs.YtfkleeigdplapaaDoor
