/-
  The walk of the program's directory: its entries, or a panic with the offset of the first wrong one.
  The closure that Parse defers: it recovers and lays the offset and the error.
-/
import Derived.Test.YtfkleeigdplapaaDoorP4
import Derived.Test.YtfkleeigdplapaaDoorFld
import Derived.Deep.RegionHeld3
import Derived.Deep.DeepCutAuto
import Derived.Maps.AppendAt
import Derived.Defers
import Derived.Recover
namespace Go.Proofs.YtfkleeigdplapaaDoor
open Go.RowKit

theorem blt {W w' : World} {B : Nat} (hb : Below B W w') : ∀ g, g < W.heap.size → g < w'.heap.size := fun _ h => Nat.lt_of_lt_of_le h hb.size
theorem owns_below {w w' : World} {E : TypeId} {k lo : Nat} {v : Value} {n : Nat} {xs : List Value} (h : w.ownsRow lo E k v n xs) (hb : Below w.heap.size w w') : w'.ownsRow lo E k v n xs := by
  refine ⟨h.1, ?_⟩
  rcases h.2 with hn | ⟨g, cap, cur, hv, hlo, hgc, hr⟩
  · exact .inl hn
  · refine .inr ⟨g, cap, cur, hv, hlo, ?_, hr⟩
    rw [hb.block g (Array.getElem?_eq_some_iff.1 hgc).1]; exact hgc
theorem cell3 (w : World) (x y z : Value) (t : TypeId) (n : Nat) (v : Value) (h : #[x, y, z][n]? = some v) : (w.alloc (.cells #[x, y, z] t)).cell? ⟨w.heap.size, n, none⟩ = some v := by rw [World.cell?_alloc_new]; exact h
theorem set3 {w : World} {g : Nat} {a0 a1 a2 : Value} (x y z : Value) (h0 : w.cell? ⟨g, 0, none⟩ = some a0) (h1 : w.cell? ⟨g, 1, none⟩ = some a1) (h2 : w.cell? ⟨g, 2, none⟩ = some a2) :
    (((w.setCell ⟨g, 0, none⟩ x).setCell ⟨g, 1, none⟩ y).setCell ⟨g, 2, none⟩ z).cell? ⟨g, 0, none⟩ = some x ∧ (((w.setCell ⟨g, 0, none⟩ x).setCell ⟨g, 1, none⟩ y).setCell ⟨g, 2, none⟩ z).cell? ⟨g, 1, none⟩ = some y ∧
    (((w.setCell ⟨g, 0, none⟩ x).setCell ⟨g, 1, none⟩ y).setCell ⟨g, 2, none⟩ z).cell? ⟨g, 2, none⟩ = some z := by
  refine ⟨?_, ?_, ?_⟩ <;> go_simp
abbrev Ent := Bs × Nat × Nat
def entCells (e : Ent) : List Value := [S e.1, .int .i64 e.2.2, .int .i64 e.2.1]
theorem i91 : (Tryd.prog.info? 91).map (fun i => (i.zero, i.size, i.bytes)) = some (some (.agg #[.string ⟨#[]⟩, .int .i64 0, .int .i64 0]), 3, 32) := by kernel_rfl
theorem cell_three_new (w : World) (x y z : Value) (t : TypeId) : ∀ j v, [x, y, z][j]? = some v → (w.alloc (.cells #[x, y, z] t)).cell? ((⟨w.heap.size, 0, none⟩ : Addr).add j) = some v := by
  intro j v hj
  match j, hj with
  | 0, hj => simp at hj; subst hj; simp [Addr.add]
  | 1, hj => simp at hj; subst hj; simp [Addr.add]
  | 2, hj => simp at hj; subst hj; simp [Addr.add]
theorem ent_tag (l : Bs) (p : Nat) : ((l.take (p + 12)).drop p).take 3 = sub3 l p (p + 3) := by
  unfold sub3; rw [List.take_drop, List.take_take, Nat.min_eq_left (by omega)]
theorem ent_place (l : Bs) (p : Nat) : ((l.take (p + 12)).drop p).drop 7 = sub3 l (p + 7) (p + 12) := by
  unfold sub3; rw [List.drop_drop]
theorem ent_bytes (l : Bs) (p : Nat) : (((l.take (p + 12)).drop p).take 7).drop 3 = sub3 l (p + 3) (p + 7) := by
  unfold sub3; rw [List.take_drop, List.take_take, Nat.min_eq_left (by omega), List.drop_drop]
def contE (out : List Ent) (r : Except Nat (List Ent)) : Except Nat (List Ent) := match r with
  | .ok L => .ok (out ++ L)
  | .error e => .error e
def DirPost (l : Bs) (N : Nat) (w : World) (e : Ending) (w' : World) : Prop :=
  Below w.heap.size w w' ∧ match entriesR l ((l.length : Int) - 1 - (25 + 12 * N : Nat)) N 24 0 with
    | .ok L => ∃ v, e = .returned v ∧ SliceAt w.heap.size w'.heap.size w' v L.length (L.flatMap entCells)
    | .error j => e = failV j 13
theorem dirPost_err {l : Bs} {N : Nat} {w w' : World} {e : Ending} {j : Nat} (h : entriesR l ((l.length : Int) - 1 - (25 + 12 * N : Nat)) N 24 0 = .error j) (hb : Below w.heap.size w w') (he : e = failV j 13) : DirPost l N w e w' := by
  unfold DirPost; rw [h]; exact ⟨hb, he⟩
theorem dirPost_ok {l : Bs} {N : Nat} {w w' : World} {e : Ending} {L : List Ent} (h : entriesR l ((l.length : Int) - 1 - (25 + 12 * N : Nat)) N 24 0 = .ok L) (hb : Below w.heap.size w w') (v : Value) (he : e = .returned v) (hs : SliceAt w.heap.size w'.heap.size w' v L.length (L.flatMap entCells)) : DirPost l N w e w' := by
  unfold DirPost; rw [h]; exact ⟨hb, v, he, hs⟩
theorem owns_slice {w : World} {E : TypeId} {k lo B : Nat} {v : Value} {n : Nat} {xs : List Value} (h : w.ownsRow B E k v n xs) (hb : lo ≤ B) : SliceAt lo w.heap.size w v n xs := by
  rcases h.2 with ⟨rfl, h0⟩ | ⟨g, cap, cur, rfl, hg, hh, hr⟩
  · refine ⟨none, 0, by rw [h0], fun hne => absurd (List.eq_nil_of_length_eq_zero ?_) hne⟩
    rw [h.1, h0]; simp
  · have hlt := h.lt g (by simp [Value.ownBlock])
    refine ⟨_, _, rfl, fun _ => ⟨g, 0, rfl, by omega, hlt.2, fun j x hx => ?_⟩⟩
    have h2 := h.cellAt j (by have := (List.getElem?_eq_some_iff.1 hx).1; rw [h.1] at this; exact this)
    rw [Nat.zero_add, h2]; exact hx

set_option maxHeartbeats 4000000 in
set_option maxRecDepth 100000 in
theorem directory_46 (l : Bs) (N : Nat) (bb : Int) (w : World) (hbb : bb = (25 + 12 * N : Nat)) (hN : N ≤ 999) (hl1 : 25 + 12 * N < l.length) (hl2 : l.length ≤ 1000000000) :
    Calls Tryd.prog 46 #[S l, .int .i64 bb] w (DirPost l N w) := by
  obtain ⟨sz, hsz⟩ : ∃ sz, (l.length : Int) - 1 - (25 + 12 * N : Nat) = sz := ⟨_, rfl⟩
  have hsz1 : sz ≤ (l.length : Int) - 1 - bb := by omega
  have hsz2 : (l.length : Int) - 1 - bb ≤ sz := by omega
  have hb1 : 25 + 12 * (N : Int) ≤ bb := by omega
  have hb2 : bb ≤ 25 + 12 * (N : Int) := by omega
  have HSZ := Lib.hid hsz
  clear hsz hbb
  obtain ⟨i0, hi, hz0, hz1, hz2⟩ := info_parts i91
  have HI := Lib.hid hi
  have HI0 := Lib.hid hz0
  have HI1 := Lib.hid hz1
  have HI2 := Lib.hid hz2
  clear hi hz0 hz1 hz2
  go_enter Tryd.func46, Tryd.ntmps46
  go_wp2_with fail
  go_loopw [5, 7, 8, 9, 10] (fun o su i _x _y wr => ∃ (k p : Nat) (sum : Int) (out : List Ent) (va : Option Addr) (vc : Nat), k ≤ N ∧ 24 + 12 * k ≤ p ∧ p ≤ 24 + 12 * k ∧ i = .int .i64 (p : Int) ∧ su = .int .i64 sum ∧ 0 ≤ sum ∧ sum ≤ k * 100000 ∧ out.length ≤ k ∧ o = .slice va out.length vc ∧
      Hid (entriesR l sz N 24 0 = contE out (entriesR l sz (N - k) p sum)) ∧ Hid (wr.ownsRow w.heap.size 91 3 (.slice va out.length vc) out.length (out.flatMap entCells)) ∧ Below w.heap.size w wr) (fun _ _ i _ _ _ => (24 + 12 * N + 1) - (intOf i).toNat)
  case atStart => exact ⟨0, 24, 0, [], none, 0, Nat.zero_le _, by omega, by omega, rfl, rfl, by omega, by omega, by simp, rfl, by cases h : entriesR l sz (N - 0) 24 0 <;> simp [contE, Hid] <;> exact h, World.ownsRow_nil _ _ _ _, Below.refl _ _⟩
  case round =>
    obtain ⟨k, p, sum, out, va, vc, hk, hp1, hp2, rfl, rfl, hs1, hs2, ho, rfl, HE, HO, hb⟩ := hrel
    have hbz := hb.size
    by_cases hlt : k < N
    · obtain ⟨x, hx⟩ : ∃ x, (l.take (p + 12)).drop p = x := ⟨_, rfl⟩
      have hxl : x.length = 12 := by rw [← hx]; simp; omega
      obtain ⟨m, hm⟩ : ∃ m, numB (sub3 l (p + 3) (p + 7)) = m := ⟨_, rfl⟩
      obtain ⟨q, hq⟩ : ∃ q, numB (sub3 l (p + 7) (p + 12)) = q := ⟨_, rfl⟩
      obtain ⟨t, ht⟩ : ∃ t, isTagB (sub3 l p (p + 3)) = t := ⟨_, rfl⟩
      have hmb : -1 ≤ m ∧ m < 100000 := by rw [← hm]; exact numB_bd5 _ 5 (by omega) (by simp [sub3]; omega)
      have hqb : -1 ≤ q ∧ q < 100000 := by rw [← hq]; exact numB_bd5 _ 5 (by omega) (by simp [sub3]; omega)
      have HM : Hid (∀ W, Calls Tryd.prog 52 #[S ((x.take 7).drop 3)] W fun e w' => e = .returned (.int .i64 m) ∧ Below W.heap.size W w') := fun W => by
        rw [← hx, ent_bytes, ← hm]; exact number_52 _ W (by simp [sub3]; omega)
      have HQ : Hid (∀ W, Calls Tryd.prog 52 #[S (x.drop 7)] W fun e w' => e = .returned (.int .i64 q) ∧ Below W.heap.size W w') := fun W => by
        rw [← hx, ent_place, ← hq]; exact number_52 _ W (by simp [sub3]; omega)
      have HT : Hid (∀ W, Calls Tryd.prog 56 #[S (x.take 3)] W fun e w' => e = .returned (.bool t) ∧ Below W.heap.size W w') := fun W => by
        rw [← hx, ent_tag, ← ht]; exact tag_56 _ W
      have hstep := entries_step l sz (N - k - 1) p sum
      rw [show N - k - 1 + 1 = N - k from by omega, hm, hq, ht] at hstep
      have HST := Lib.hid hstep
      have HTG : Hid (x.take 3 = sub3 l p (p + 3)) := by rw [← hx, ent_tag]; rfl
      have HX := Lib.hid hx
      have hxa : 12 ≤ x.length := by omega
      have hxb : x.length ≤ 12 := by omega
      clear hm hq ht hstep hx hxl
      obtain ⟨hm1, hm2⟩ := hmb
      obtain ⟨hq1, hq2⟩ := hqb
      go_wp2_with fail
      rw [HX.out]
      go_cut [10] (fun e wx => ∃ g : Nat, e = .pointer (some ⟨g, 0, none⟩) ∧ Below wr.heap.size wr wx ∧ wx.cell? ⟨g, 0, none⟩ = some (S (x.take 3)) ∧ wx.cell? ⟨g, 1, none⟩ = some (.int .i64 q) ∧ wx.cell? ⟨g, 2, none⟩ = some (.int .i64 m))
      case first =>
        have l12 : (3 : Int) ≤ x.length := by omega
        have l7 : (7 : Int) ≤ x.length := by omega
        go_region_held3 (fun _ => True) (trivial) ((first
          | (go_at_call 52; ((with_reducible refine Calls.mono (HQ.out _) ?_); rintro e w2 ⟨rfl, hb2⟩; have hz2 := hb2.size; have hx2 := bext hb2; have hy2 := blt hb2; obtain ⟨hcc, hff⟩ := bcell hb2))
          | (go_at_call 52; ((with_reducible refine Calls.mono (HM.out _) ?_); rintro e w3 ⟨rfl, hb3⟩; have hz3 := hb3.size; have hx3 := bext hb3; have hy3 := blt hb3; obtain ⟨hcc3, hff3⟩ := bcell hb3))))
        all_goals
          go_wp2_with fail
          go_meet
          first
            | (refine ⟨w3.heap.size, rfl, (btr (btr (Below.refl _ wr).drew hb2 (Nat.le_refl _)) hb3 (by simpa using hz2)).alloc ?_ _, by clear hcc hff hcc3 hff3; go_simp, by clear hcc hff hcc3 hff3; go_simp, by clear hcc hff hcc3 hff3; go_simp⟩
               have h1 := hb2.size; have h2 := hb3.size; simp at h1 h2 ⊢; omega)
            | (refine ⟨w2.heap.size, rfl, (((btr ((btr (Below.refl _ wr).drew hb2 (Nat.le_refl _)).alloc ?_ _) hb3 ?_).setCell ?_ _).setCell ?_ _).setCell ?_ _, ?c0⟩
               case c0 => exact set3 _ _ _ (hx3 _ _ (cell3 w2 _ _ _ _ 0 _ rfl)) (hx3 _ _ (cell3 w2 _ _ _ _ 1 _ rfl)) (hx3 _ _ (cell3 w2 _ _ _ _ 2 _ rfl))
               all_goals (have h1 := hb2.size; have h2 := hb3.size; simp at h1 h2 ⊢; try omega))
            | (refine ⟨wr.heap.size, rfl, (((btr (btr ((alloc_below1 wr _).drew) hb2 ?_) hb3 ?_).setCell ?_ _).setCell ?_ _).setCell ?_ _, ?c0⟩
               case c0 => exact set3 _ _ _ (hx3 _ _ (hx2 _ _ (cell3 wr _ _ _ _ 0 _ rfl))) (hx3 _ _ (hx2 _ _ (cell3 wr _ _ _ _ 1 _ rfl))) (hx3 _ _ (hx2 _ _ (cell3 wr _ _ _ _ 2 _ rfl)))
               all_goals (have h1 := hb2.size; have h2 := hb3.size; simp at h1 h2 ⊢; try omega))
      case rest =>
        obtain ⟨g, rfl, hbx, g0, g1, g2⟩ := hcut
        cases t
        · have HE2 : Hid (entriesR l sz N 24 0 = .error p) := by rw [HE.out, HST.out]; rfl
          go_wp2_with (first
            | (go_at_call 56; ((with_reducible refine Calls.mono (HT.out _) ?_); rintro e w4 ⟨rfl, hb4⟩; have hx4 := bext hb4))
            | (go_at_call 65; ((with_reducible refine Calls.mono (check_bad _ _ _) ?_); rintro e w' ⟨rfl, rfl⟩)))
          exact ⟨rfl, dirPost_err (by rw [HSZ.out]; exact HE2.out) (btr (btr hb hbx hb.size) hb4 (Nat.le_trans hb.size hbx.size)) rfl⟩
        · by_cases hg : 1 ≤ m ∧ 0 ≤ q ∧ q + m ≤ sz ∧ sum + m ≤ sz
          · obtain ⟨e1, e2, e3, e4⟩ := hg
            have HO4 := Lib.hid (fun (w4 : World) (h4 : Below _ _ w4) => owns_below (owns_below HO.out hbx) h4)
            have HE2 : Hid (entriesR l sz N 24 0 = contE (out ++ [(sub3 l p (p + 3), m.toNat, q.toNat)]) (entriesR l sz (N - (k + 1)) (p + 12) (sum + m))) := by
              rw [HE.out, HST.out, if_neg (by simp; omega), show N - k - 1 = N - (k + 1) from by omega]
              cases entriesR l sz (N - (k + 1)) (p + 12) (sum + m) <;> simp [contE, Hid]
            go_wp2_with (first
            | (go_at_call 56; ((with_reducible refine Calls.mono (HT.out _) ?_); rintro e w4 ⟨rfl, hb4⟩; have hx4 := bext hb4))
            | (go_at_call 65; ((with_reducible refine Calls.mono (check_any _ _ _ _) ?_); rintro e w' ⟨rfl, ⟨hc, rfl⟩ | ⟨hc, rfl⟩⟩ <;> (first | contradiction | (exfalso; simp only [decide_eq_false_iff_not] at hc; omega) | skip)))
            | (at_builtin; refine wpList_append_own_at _ rfl _ _ 88 rfl w.heap.size 91 i0 (.agg #[.string ⟨#[]⟩, .int .i64 0, .int .i64 0]) 3 32 Tryd.underlying88 HI.out HI0.out HI1.out HI2.out rfl (by omega) (.slice va out.length vc) out.length _ rfl ((HO4.out _ hb4).alloc _) ⟨w4.heap.size, 0, none⟩ 1 1 [S (x.take 3), .int .i64 q, .int .i64 m] rfl rfl (cell_three_new _ _ _ _ _) (by simp [Value.oneCell']) (by unfold maxLen; omega) (by omega) (by have := hb4.size; have := hbx.size; simp; omega) ?_; intro v' w5 hown5 hgw _ _; obtain ⟨va', vc', rfl⟩ := owns_shape hown5; have HO5 := Lib.hid hown5; have HG5 := Lib.hid hgw; clear hown5 hgw))
            go_roundw
            case rel =>
              refine ⟨k + 1, p + 12, sum + m, out ++ [(sub3 l p (p + 3), m.toNat, q.toNat)], va', vc', by omega, by omega, by omega, by go_num, by go_num, by omega, by omega, by simp; omega, by simp, HE2, ?_, ?_⟩
              · have := HO5.out
                rw [HTG.out, show q = ((q.toNat : Nat) : Int) from by omega, show m = ((m.toNat : Nat) : Int) from by omega] at this
                simpa [Hid, entCells] using this
              · exact (((btr (btr hb hbx hb.size) hb4 (Nat.le_trans hb.size hbx.size)).alloc (Nat.le_trans hb.size (Nat.le_trans hbx.size hb4.size)) _).grown HG5.out (by have := hb4.size; have := hbx.size; simp; omega) (fun g hg => (HO.out.lt g (by simpa using hg)).1))
            case measure => simp [intOf]; omega
          · have HE2 : Hid (entriesR l sz N 24 0 = .error p) := by rw [HE.out, HST.out, if_pos (by simp; omega)]; rfl
            have hor : m < 1 ∨ q < 0 ∨ sz < q + m ∨ sz < sum + m := by omega
            clear hg
            go_wp2_with (first
              | (go_at_call 56; ((with_reducible refine Calls.mono (HT.out _) ?_); rintro e w4 ⟨rfl, hb4⟩; have hx4 := bext hb4))
              | (go_at_call 65; ((with_reducible refine Calls.mono (check_any _ _ _ _) ?_); rintro e w' ⟨rfl, ⟨hc, rfl⟩ | ⟨hc, rfl⟩⟩ <;> (first | contradiction | (exfalso; simp only [decide_eq_true_eq] at hc; omega) | skip))))
            all_goals exact ⟨rfl, dirPost_err (by rw [HSZ.out]; exact HE2.out) (btr (btr hb hbx hb.size) hb4 (Nat.le_trans hb.size hbx.size)) rfl⟩
    · have HE2 : Hid (entriesR l sz N 24 0 = .ok out) := by rw [HE.out, show N - k = 0 from by omega]; simp [entriesR, contE, Hid]
      go_wp2_with fail
      go_ret
      exact dirPost_ok (by rw [HSZ.out]; exact HE2.out) hb _ rfl (owns_slice HO.out (Nat.le_refl _))
end Go.Proofs.YtfkleeigdplapaaDoor

namespace Go.Proofs.YtfkleeigdplapaaDoor
open Go.RowKit

theorem catch_idle (p q r : Addr) (w : World) :
    CallsD Tryd.prog 44 #[.pointer (some p), .pointer (some q), .pointer (some r)] .returning w fun e u' w' => e = .returned (.tuple #[]) ∧ u' = .returning ∧ w' = w := by
  refine callsD_of_wpS Tryd.func44 rfl fun c₀ cs hu => ?_
  apply wpS_seq
  apply wpS_region
  simp [wpOpsS, go_sem, recoverD, hu, Tryd.ntmps44, Exit.thenS]
  apply wpS_seq
  apply wpS_region
  simp [wpOpsS, go_sem, Exit.thenS]
  refine wpS_cond (t := false) (by simp [Act.eval, Array.replicate]) ?_
  simp only [Bool.false_eq_true, if_false]
  refine wpS_of_wp (wp_skip ?_)
  cases c₀
  simp_all [bodyPostS, results, Tryd.results44]
theorem cell_new_drew (X : World) (c : Array Value) (t : TypeId) (n i : Nat) (v : Value) (hn : n = X.heap.size) (h : c[i]? = some v) : (X.alloc (.cells c t)).drew.cell? ⟨n, i, none⟩ = some v := by subst hn; exact (World.cell?_alloc_new X c t i).trans h
/-- What the closure leaves. -/
structure Caught (b2 b3 b4 : Nat) (at_ e : Int) (w w' : World) : Prop where
  c0 : w'.cell? ⟨b2, 0, none⟩ = some (.int .u8 0)
  c1 : w'.cell? ⟨b2, 1, none⟩ = some (.int .u8 0)
  c2 : w'.cell? ⟨b2, 2, none⟩ = some (.slice none 0 0)
  c3 : w'.cell? ⟨b3, 0, none⟩ = some (.int .i64 at_)
  c4 : w'.cell? ⟨b4, 0, none⟩ = some (.int .i64 e)
  below : ∀ B, B ≤ b2 → B ≤ b3 → B ≤ b4 → B ≤ w.heap.size → Below B w w'
def CatchPost (b2 b3 b4 : Nat) (at_ e : Int) (w : World) : Exit → Act → World → Prop
  | .normal, a, w' => a.defers = [] ∧ Caught b2 b3 b4 at_ e w w'
  | _, _, _ => False
set_option maxHeartbeats 2000000 in
set_option maxRecDepth 100000 in
theorem catch_panic (b2 b3 b4 : Nat) (at_ e : Int) (k0 k1 a0 e0 : Int) (va : Option Addr) (vn vc : Nat) (w : World) (h0 : w.cell? ⟨b2, 0, none⟩ = some (.int .u8 k0)) (h1 : w.cell? ⟨b2, 1, none⟩ = some (.int .u8 k1)) (h2 : w.cell? ⟨b2, 2, none⟩ = some (.slice va vn vc))
    (h3 : w.cell? ⟨b3, 0, none⟩ = some (.int .i64 a0)) (h4 : w.cell? ⟨b4, 0, none⟩ = some (.int .i64 e0)) (f0 : w.frozen? ⟨b2, 0, none⟩ = false) (f1 : w.frozen? ⟨b2, 1, none⟩ = false) (f2 : w.frozen? ⟨b2, 2, none⟩ = false) (f3 : w.frozen? ⟨b3, 0, none⟩ = false) (f4 : w.frozen? ⟨b4, 0, none⟩ = false) (n23 : b2 ≠ b3) (n24 : b2 ≠ b4) (n34 : b3 ≠ b4) :
    CallsD Tryd.prog 44 #[.pointer (some ⟨b2, 0, none⟩), .pointer (some ⟨b3, 0, none⟩), .pointer (some ⟨b4, 0, none⟩)] (.panicking [{ v := .iface 85 (.agg #[.int .i64 at_, .int .i64 e]), recovered := false }]) w fun e' u' w' =>
      e' = .returned (.tuple #[]) ∧ u' = .panicking [{ v := .iface 85 (.agg #[.int .i64 at_, .int .i64 e]), recovered := true }] ∧ Caught b2 b3 b4 at_ e w w' := by
  have l2 : b2 < w.heap.size := cell_lt h0
  have l3 : b3 < w.heap.size := cell_lt h3
  have l4 : b4 < w.heap.size := cell_lt h4
  have hneq : ∀ W : World, (binOp .neq 20 (.iface 85 (.agg #[.int .i64 at_, .int .i64 e])) .nilIface).run Tryd.prog W = .ok (.bool true) W := fun _ => by kernel_rfl
  have hta : ∀ W : World, (Instr.typeAssert (.iface 85 (.agg #[.int .i64 at_, .int .i64 e])) 20 85 true).run Tryd.prog W = .ok (.tuple #[.agg #[.int .i64 at_, .int .i64 e], .bool true]) W := fun _ => by kernel_rfl
  refine callsD_of_wpS Tryd.func44 rfl fun c₀ cs hu => ?_
  apply wpS_seq
  apply wpS_region
  simp [wpOpsS, go_sem, recoverD, hu, Tryd.ntmps44, Exit.thenS]
  clear hu
  refine wpS_of_wp ?_
  refine Code.wp_mono (Q := CatchPost b2 b3 b4 at_ e w) ?_ ?_
  · intro e' a' w' h
    cases e' with
    | normal => exact ⟨h.1, _, rfl, .tuple #[], by simp [results, Tryd.results44], rfl, rfl, h.2⟩
    | _ => exact h.elim
  · have hrep : Array.replicate 19 undef = #[undef, undef, undef, undef, undef, undef, undef, undef, undef, undef, undef, undef, undef, undef, undef, undef, undef, undef, undef] := rfl
    rw [hrep]
    simp only [List.setIfInBounds_toArray, List.set_cons_succ, List.set_cons_zero, List.append_toArray, List.cons_append, List.nil_append]
    have d2 : b2 ≠ w.heap.size := by omega
    have d3 : b3 ≠ w.heap.size := by omega
    have d4 : b4 ≠ w.heap.size := by omega
    have d2' : w.heap.size ≠ b2 := by omega
    have d3' : w.heap.size ≠ b3 := by omega
    have d4' : w.heap.size ≠ b4 := by omega
    go_wp2_with fail
    clear hneq hta
    go_region_held3 (fun w' => w'.cell? ⟨w.heap.size, 0, none⟩ = some (.int .i64 at_) ∧ w'.cell? ⟨w.heap.size, 1, none⟩ = some (.int .i64 e)) (first | (exact ⟨cell_new_drew _ _ _ _ _ _ (by simp) rfl, cell_new_drew _ _ _ _ _ _ (by simp) rfl⟩) | go_keep) (fail)
    all_goals
      go_wp2_with fail
      refine ⟨rfl, ?_, ?_, ?_, ?_, ?_, ?_⟩
      · go_simp
      · go_simp
      · go_simp
      · go_simp
      · go_simp
      · intro B B2 B3 B4 B5
        exact Below.drew ((((((((Below.refl B w).setCell B2 _).setCell B2 _).setCell B2 _).setCell B3 _).setCell B4 _).alloc (by simpa using B5) _))
end Go.Proofs.YtfkleeigdplapaaDoor
