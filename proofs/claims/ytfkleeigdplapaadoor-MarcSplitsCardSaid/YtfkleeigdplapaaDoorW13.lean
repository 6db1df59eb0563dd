/-
  The walk of the reference's Split.
-/
import Derived.Test.YtfkleeigdplapaaDoorW12
import Derived.Test.YtfkleeigdplapaaDoorFld
namespace Go.Proofs.YtfkleeigdplapaaDoor
open Go.RowKit

/-- The parts of a stream, by how many bytes are left at the most. -/
def splitGo : Nat → Bs → Nat → List Bs × Int × Int
  | 0, _, _ => ([], 0, 0)
  | f + 1, s, k =>
    if s.length = 0 then ([], 0, 0)
    else if s.length < 5 then ([], k, 10)
    else if numB (s.take 5) < 26 then ([], k, 12)
    else if s.length < numB (s.take 5) then ([], k, 10)
    else (s.take (numB (s.take 5)).toNat :: (splitGo f (s.drop (numB (s.take 5)).toNat) (k + (numB (s.take 5)).toNat)).1, (splitGo f (s.drop (numB (s.take 5)).toNat) (k + (numB (s.take 5)).toNat)).2)
def splitR (s : Bs) : List Bs × Int × Int := splitGo s.length s 0
theorem splitGo_fuel (f g : Nat) (s : Bs) (k : Nat) (hf : s.length ≤ f) (hg : s.length ≤ g) : splitGo f s k = splitGo g s k := by
  induction f generalizing g s k with
  | zero =>
    have : s = [] := List.eq_nil_of_length_eq_zero (by omega)
    subst this
    cases g <;> simp [splitGo]
  | succ f ih =>
    cases g with
    | zero =>
      have : s = [] := List.eq_nil_of_length_eq_zero (by omega)
      subst this
      simp [splitGo]
    | succ g =>
      simp only [splitGo]
      by_cases h1 : s.length = 0
      · simp [h1]
      · by_cases h2 : numB (s.take 5) < 26
        · simp [h1, h2]
        · rw [ih g (s.drop (numB (s.take 5)).toNat) _ (by simp; omega) (by simp; omega)]
/-- What the rest adds to what is there. -/
def onto (out : List Bs) (r : List Bs × Int × Int) : List Bs × Int × Int := (out ++ r.1, r.2)
theorem split_end (l : Bs) (k : Nat) (h : l.length ≤ k) : splitGo (l.length - k) (l.drop k) k = ([], 0, 0) := by
  rw [show l.length - k = 0 from by omega]; rfl
theorem split_step (l : Bs) (k : Nat) (h : k < l.length) (n : Int) (hn : n = numB ((l.drop k).take 5)) : splitGo (l.length - k) (l.drop k) k =
    if l.length - k < 5 then ([], (k : Int), 10) else if n < 26 then ([], (k : Int), 12) else if ((l.length - k : Nat) : Int) < n then ([], (k : Int), 10)
    else onto [(l.drop k).take n.toNat] (splitGo (l.length - (k + n.toNat)) (l.drop (k + n.toNat)) (k + n.toNat)) := by
  obtain ⟨f, hf⟩ : ∃ f, l.length - k = f + 1 := ⟨l.length - k - 1, by omega⟩
  rw [hf]
  simp only [splitGo, List.length_drop, hf, ← hn]
  rw [if_neg (by omega)]
  by_cases h1 : f + 1 < 5
  · simp [h1]
  · rw [if_neg h1, if_neg h1]
    by_cases h2 : n < 26
    · simp [h2]
    · rw [if_neg h2, if_neg h2]
      by_cases h3 : ((f + 1 : Nat) : Int) < n
      · rw [if_pos h3, if_pos h3]
      · rw [if_neg h3, if_neg h3]
        rw [List.drop_drop, splitGo_fuel f (l.length - (k + n.toNat)) _ _ (by simp; omega) (by simp)]
        rfl
theorem i9 : (Tryd.prog.info? 9).map (fun i => (i.zero, i.size, i.bytes)) = some (some (.string ⟨#[]⟩), 1, 16) := by kernel_rfl
theorem owns_strs {w : World} {lo B : Nat} {v : Value} {ls : List Bs} (h : w.ownsRow B 9 1 v ls.length (ls.map S)) (hb : lo ≤ B) : StrsAt lo w.heap.size w v ls := by
  rcases h.2 with ⟨rfl, h0⟩ | ⟨g, cap, cur, rfl, hg, hh, hr⟩
  · have : ls = [] := List.eq_nil_of_length_eq_zero h0
    subst this
    exact ⟨none, 0, rfl, fun h => absurd rfl h⟩
  · have hlt := h.lt g (by simp [Value.ownBlock])
    refine ⟨_, _, rfl, fun _ => ⟨g, 0, rfl, by omega, hlt.2, fun j x hx => ?_⟩⟩
    have h2 := h.cellAt j (by have := (List.getElem?_eq_some_iff.1 hx).1; simpa using this)
    rw [Nat.zero_add, h2]; exact hx
def SplitPost (l : Bs) (w : World) (e : Ending) (w' : World) : Prop :=
  Below w.heap.size w w' ∧ ∃ v, e = .returned (.tuple #[v, .int .i64 (splitR l).2.1, .int .i64 (splitR l).2.2]) ∧ StrsAt w.heap.size w'.heap.size w' v (splitR l).1
theorem splitPost_of {l : Bs} {w w' : World} {e : Ending} {out : List Bs} {a b : Int} (h : splitR l = (out, a, b)) (hb : Below w.heap.size w w') (v : Value) (he : e = .returned (.tuple #[v, .int .i64 a, .int .i64 b])) (hs : StrsAt w.heap.size w'.heap.size w' v out) : SplitPost l w e w' := by
  refine ⟨hb, v, ?_, ?_⟩ <;> rw [h] <;> assumption

set_option linter.unusedSimpArgs false in
set_option maxHeartbeats 4000000 in
set_option maxRecDepth 100000 in
theorem split_53 (l : Bs) (w : World) (hl : l.length ≤ 140737488355328) : Calls Tryd.prog 53 #[S l] w (SplitPost l w) := by
  obtain ⟨i0, hi, hz0, hz1, hz2⟩ := info_parts i9
  have HI := Lib.hid hi
  have HI0 := Lib.hid hz0
  have HI1 := Lib.hid hz1
  have HI2 := Lib.hid hz2
  clear hi hz0 hz1 hz2
  go_enter Tryd.func53, Tryd.ntmps53
  go_wp2_with fail
  go_loopw [5, 6, 7] (fun o i nn wr => ∃ (k : Nat) (out : List Bs) (v : Value), k ≤ l.length ∧ i = .int .i64 k ∧ o = v ∧ Hid (splitR l = onto out (splitGo (l.length - k) (l.drop k) k)) ∧ out.length * 26 ≤ k ∧ Hid (wr.ownsRow w.heap.size 9 1 v out.length (out.map S)) ∧ Below w.heap.size w wr) (fun _ i _ _ => l.length - (intOf i).toNat)
  case atStart => exact ⟨0, [], .slice none 0 0, Nat.zero_le _, rfl, rfl, by simp [splitR, onto, Hid], by simp, World.ownsRow_nil _ _ _ _, Below.refl _ _⟩
  case round =>
    obtain ⟨k, out, v, hk, rfl, rfl, HG, hout, HO, hb⟩ := hrel
    obtain ⟨va, vc, rfl⟩ := owns_shape HO.out
    have hbz := hb.size
    by_cases hlt : k < l.length
    · by_cases h5 : l.length - k < 5
      · have HE : Hid (splitR l = (out, (k : Int), 10)) := by rw [HG.out, split_step l k hlt _ rfl, if_pos h5]; simp [onto, Hid]
        go_wp2_with fail
        go_ret3
        exact splitPost_of HE.out hb _ rfl (owns_strs HO.out (Nat.le_refl _))
      · obtain ⟨n, hn⟩ : ∃ n, n = numB ((l.drop k).take 5) := ⟨_, rfl⟩
        have hsl : List.drop k (List.take (k + 5) l) = (l.drop k).take 5 := by rw [← List.take_drop]
        have H71 : Hid (∀ W, Calls Tryd.prog 71 #[S (List.drop k (List.take (k + 5) l))] W fun e w' => e = .returned (.int .i64 n) ∧ W = w') := by
          intro W; rw [hsl, hn]; exact number_71 _ _ (by simp; omega)
        have hnb : -1 ≤ n ∧ n < 100000 := by rw [hn]; exact numB_bd5 _ 5 (by omega) (by simp; omega)
        have hst := split_step l k hlt n hn
        rw [if_neg h5] at hst
        have HST := Lib.hid hst
        clear hst hn hsl
        by_cases h26 : n < 26
        · have HE : Hid (splitR l = (out, (k : Int), 12)) := by rw [HG.out, HST.out, if_pos h26]; simp [onto, Hid]
          go_wp2_with (go_at_call 71; ((with_reducible refine Calls.mono (H71.out _) ?_); rintro e w' ⟨rfl, rfl⟩))
          go_ret3
          exact splitPost_of HE.out hb _ rfl (owns_strs HO.out (Nat.le_refl _))
        · by_cases hgt : ((l.length - k : Nat) : Int) < n
          · have HE : Hid (splitR l = (out, (k : Int), 10)) := by rw [HG.out, HST.out, if_neg h26, if_pos hgt]; simp [onto, Hid]
            go_wp2_with (go_at_call 71; ((with_reducible refine Calls.mono (H71.out _) ?_); rintro e w' ⟨rfl, rfl⟩))
            go_ret3
            exact splitPost_of HE.out hb _ rfl (owns_strs HO.out (Nat.le_refl _))
          · obtain ⟨m, rfl⟩ := Int.eq_ofNat_of_zero_le (show 0 ≤ n by omega)
            have hsl : List.drop k (List.take (k + m) l) = (l.drop k).take m := by rw [← List.take_drop]
            have HN : Hid (splitR l = onto (out ++ [List.drop k (List.take (k + m) l)]) (splitGo (l.length - (k + m)) (l.drop (k + m)) (k + m))) := by
              rw [HG.out, HST.out, if_neg h26, if_neg hgt, hsl]; simp [onto, Hid]
            clear hsl
            have hown := HO.out
            go_wp2_with (first
              | (go_at_call 71; ((with_reducible refine Calls.mono (H71.out _) ?_); rintro e w' ⟨rfl, rfl⟩))
              | (at_builtin; refine wpList_append_own_at _ rfl _ _ 44 rfl w.heap.size 9 i0 (.string ⟨#[]⟩) 1 16 Tryd.underlying44 HI.out HI0.out HI1.out HI2.out rfl (by omega) (.slice va out.length vc) out.length _ rfl (HO.out.alloc _) ⟨wr.heap.size, 0, none⟩ 1 1 [S (List.drop k (List.take (k + m) l))] rfl rfl (cell_one_new _ _ _) (by simp [Value.oneCell']) (by unfold maxLen; omega) (by omega) (by simp; omega) ?_; intro v' w2 hown2 hgw _ _; have HO2 := Lib.hid hown2; have HG2 := Lib.hid hgw; clear hown2 hgw))
            go_roundw
            case rel => exact ⟨k + m, out ++ [List.drop k (List.take (k + m) l)], v', by omega, by go_num, rfl, HN, by simp; omega, by simpa [Hid] using HO2.out, ((hb.alloc hbz _).grown HG2.out (by simp; omega) (fun g hg => (HO.out.lt g (by simpa using hg)).1))⟩
            case measure => simp [intOf]; omega
    · have HE : Hid (splitR l = (out, 0, 0)) := by rw [HG.out, split_end l k (by omega)]; simp [onto, Hid]
      go_wp2_with fail
      go_ret3
      exact splitPost_of HE.out hb _ rfl (owns_strs HO.out (Nat.le_refl _))
end Go.Proofs.YtfkleeigdplapaaDoor
