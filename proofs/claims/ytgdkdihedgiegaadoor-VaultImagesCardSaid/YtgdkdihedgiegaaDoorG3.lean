/-
  The walk of VaultWipes.
-/
import Derived.Test.YtgdkdihedgiegaaDoorG2
import Derived.Deep.DeepCutAuto
namespace Go.Proofs.YtgdkdihedgiegaaDoor
open Go.RowKit

theorem set3' (w : World) (b : Nat) (u0 u1 u2 v0 v1 v2 : Value) (t : TypeId) (h : w.heap[b]? = some (.cells #[u0, u1, u2] t (0, 0))) :
    ∃ w', ((w.setCell ⟨b, 0, none⟩ v0).setCell ⟨b, 1, none⟩ v1).setCell ⟨b, 2, none⟩ v2 = w' ∧ w'.heap[b]? = some (.cells #[v0, v1, v2] t (0, 0)) ∧ Only b w w' := by
  refine ⟨_, rfl, ?_, (((Only.refl b w).setCell 0 v0).setCell 1 v1).setCell 2 v2⟩
  simp only [World.setCell, Array.getElem?_modify, if_true, h]
  rfl
/-- The array of disks. -/
structure GInv (X : Nat) (W0 wr : World) (p0 p1 : Value) : Prop where
  st : Step (fun j => j = X) W0 (fun j => j = X) wr
  arr : wr.heap[X]? = some (.cells #[p0, p1] 60 (0, 0))
theorem GInv.below {X : Nat} {W0 wr w1 : World} {p0 p1 : Value} (h : GInv X W0 wr p0 p1) (hb : Below wr.heap.size wr w1) : GInv X W0 w1 p0 p1 :=
  ⟨h.st.trans (Step.of_below hb), (hb.block X (blk_lt h.arr)).trans h.arr⟩
theorem GInv.low {X b : Nat} {W0 wo w' : World} {p0 p1 : Value} (h : GInv X W0 wo p0 p1) (hb : Below b wo w') (h1 : W0.heap.size ≤ b) (h2 : X < b) : GInv X W0 w' p0 p1 :=
  ⟨⟨hb.os.trans h.st.os, hb.tape.trans h.st.tape, hb.output.trans h.st.output, Nat.le_trans h.st.size hb.size, fun j hj hn => (hb.block j (by omega)).trans (h.st.block j hj hn), fun _ hk => .inl hk⟩, (hb.block X h2).trans h.arr⟩
theorem GInv.set0 {X : Nat} {W0 wr : World} {p0 p1 : Value} (h : GInv X W0 wr p0 p1) (v : Value) : GInv X W0 (wr.setCell ⟨X, 0, none⟩ v) v p1 ∧ Only X wr (wr.setCell ⟨X, 0, none⟩ v) := by
  refine ⟨⟨h.st.trans (Step.of_only ((Only.refl X wr).setCell 0 v) rfl), ?_⟩, (Only.refl X wr).setCell 0 v⟩
  simp only [World.setCell, Array.getElem?_modify, if_true, h.arr]
  rfl
theorem GInv.set1 {X : Nat} {W0 wr : World} {p0 p1 : Value} (h : GInv X W0 wr p0 p1) (v : Value) : GInv X W0 (wr.setCell ⟨X, 1, none⟩ v) p0 v ∧ Only X wr (wr.setCell ⟨X, 1, none⟩ v) := by
  refine ⟨⟨h.st.trans (Step.of_only ((Only.refl X wr).setCell 1 v) rfl), ?_⟩, (Only.refl X wr).setCell 1 v⟩
  simp only [World.setCell, Array.getElem?_modify, if_true, h.arr]
  rfl
theorem GInv.setk {X : Nat} {W0 wr : World} {p0 p1 : Value} (h : GInv X W0 wr p0 p1) (k : Nat) (hk : k ≤ 1) (v : Value) : GInv X W0 (wr.setCell ⟨X, k, none⟩ v) (if k = 0 then v else p0) (if k = 0 then p1 else v) ∧ Only X wr (wr.setCell ⟨X, k, none⟩ v) := by
  have h01 : k = 0 ∨ k = 1 := by omega
  rcases h01 with rfl | rfl
  · exact h.set0 v
  · exact h.set1 v
theorem GInv.cellk {X : Nat} {W0 wr : World} {p0 p1 : Value} (h : GInv X W0 wr p0 p1) (k : Nat) (hk : k ≤ 1) : wr.cell? ⟨X, k, none⟩ = some (if k = 0 then p0 else p1) ∧ wr.frozen? ⟨X, k, none⟩ = false := by
  have h01 : k = 0 ∨ k = 1 := by omega
  rcases h01 with rfl | rfl
  · exact ⟨Lib.cell_of_heap h.arr 0, Lib.frozen_of_heap h.arr 0⟩
  · exact ⟨Lib.cell_of_heap h.arr 1, Lib.frozen_of_heap h.arr 1⟩
/-- The disk behind the failure: it opens to the state before the act. -/
structure Crashed (lo hi : Nat) (w : World) (p : Value) (sn : Bs) (tl : List Bs) : Prop where
  ex : ∃ b F c x st, p = .pointer (some ⟨b, 0, none⟩) ∧ DiskAt F w b (onD c 0) ∧ openR c = some (sn, tl, x, st) ∧ c.length ≤ 100000 ∧ ∀ j, F j → lo ≤ j ∧ j < hi
theorem Crashed.keep {lo hi : Nat} {w w' : World} {p : Value} {sn : Bs} {tl : List Bs} (h : Crashed lo hi w p sn tl) (hk : ∀ j, lo ≤ j → j < hi → w'.heap[j]? = w.heap[j]?) (hs : w.heap.size ≤ w'.heap.size) : Crashed lo hi w' p sn tl := by
  obtain ⟨b, F, c, x, st, h1, h2, h3, h4, h5⟩ := h
  exact ⟨b, F, c, x, st, h1, h2.keep (fun k hk' => hk k (h5 k hk').1 (h5 k hk').2) hs, h3, h4, h5⟩
theorem on_ok (c : Bs) (h : c.length ≤ 100000) : OkD (onD c 0) := ⟨by show (-1 : Int) ≤ 0; omega, by show (0 : Int) ≤ 1000; omega, fun h => absurd h (by simp [onD]), Nat.le_trans h (by omega)⟩
theorem take_nums {w : World} {a : Option Addr} {cap : Nat} {l : List Int} (h : NumsAt w (.slice a l.length cap) l) (m : Nat) (_hm : m ≤ l.length) : NumsAt w (.slice a (l.take m).length cap) (l.take m) := by
  obtain ⟨a', cap', hv, h⟩ := h
  injection hv with h1 h2 h3
  subst h1 h3
  refine ⟨a, cap, rfl, fun hn => ?_⟩
  obtain ⟨b, off, rfl, h2, h3, h4⟩ := h (fun e => hn (by rw [List.map_take, e]; exact List.take_nil))
  refine ⟨b, off, rfl, h2, h3, fun j x hx => h4 j x ?_⟩
  rw [List.map_take, List.getElem?_take] at hx
  split at hx
  · exact hx
  · cases hx
set_option maxHeartbeats 8000000 in
set_option maxRecDepth 100000 in
theorem wipes_9 (v1 : Value) (l : List ActL) (kd : Int) (text : Bs) (tv : Value) (tl : List Bs) (qa : Option Addr) (qcap : Nat) (q : List Int) (w : World) (h1 : ActsAt w v1 l) (ht : TailAt w tv tl) (hq : NumsAt w (.slice qa q.length qcap) q) (hqc : q.length ≤ qcap) :
    Calls Tryd.prog 9 #[v1, .agg #[.int .i64 kd, S text, tv], .slice qa q.length qcap] w fun e w' => e = .returned (.bool true) ∧ Below w.heap.size w w' := by
  have HA1 : Hid (∀ W, Below w.heap.size w W → ActsAt W v1 l) := fun W hb => h1.below hb
  have HT : Hid (∀ W, Below w.heap.size w W → TailAt W tv tl) := fun W hb => ht.below hb
  obtain ⟨qm, hqm⟩ : ∃ qm, qm = min q.length 30 := ⟨_, rfl⟩
  have hmn : min (q.length : Int) 30 = (qm : Int) := by omega
  have hq1 : qm ≤ q.length := by omega
  have hq2 : qm ≤ qcap := by omega
  have hq30 : qm ≤ 30 := by omega
  have hql : (q.take qm).length = qm := by rw [List.length_take]; omega
  have hq' := take_nums hq qm hq1
  rw [hql] at hq'
  have HQL := Lib.hid hql
  obtain ⟨sv, hsv⟩ : ∃ sv, sv = q.take qm := ⟨_, rfl⟩
  rw [← hsv] at hq' HQL
  have HQ : Hid (∀ W, Below w.heap.size w W → NumsAt W (.slice qa sv.length qcap) sv) := fun W hb => by
    have := NumsAt.below (l := sv) (v := .slice qa sv.length qcap) (by rw [HQL.out]; exact hq') hb
    exact this
  obtain ⟨aa1, acap1, rfl, _⟩ := id h1
  obtain ⟨ta, tcap, rfl, _⟩ := id ht
  have ha := alloc_below w (.cells #[.int .i64 kd, S text, .slice ta tl.length tcap] 34)
  have hx := heap_alloc_new w (.cells #[.int .i64 kd, S text, .slice ta tl.length tcap] 34)
  clear h1 ht hq hqm hql hsv hqc hq'
  go_enter Tryd.func9, Tryd.ntmps9
  go_wp2_with fail
  generalize w.alloc (.cells #[.int .i64 kd, S text, .slice ta tl.length tcap] 34) = w1 at *
  ((with_reducible refine Calls.mono (sanity_11 w1) ?_); rintro e w2 ⟨rfl, hb2⟩)
  have hx2 := (hb2.block _ (blk_lt hx)).trans hx
  have HB2 := Lib.hid (btr ha hb2 ha.size)
  have x0 := Lib.cell_of_heap hx2 0
  have x1 := Lib.cell_of_heap hx2 1
  have x2 := Lib.cell_of_heap hx2 2
  simp at x0 x1 x2
  have HX2 := Lib.hid hx2
  clear ha hx hb2 hx2
  go_wp2_with fail
  have HCUT := Lib.hid (cut_14 w2 kd text _ tl (HT.out w2 HB2.out))
  ((with_reducible refine Calls.mono HCUT.out ?_); rintro e w3 ⟨⟨ca, cc, rfl, hsl3⟩, hb3⟩)
  have hx3 := (hb3.block _ (blk_lt HX2.out)).trans HX2.out
  have f0 := Lib.frozen_of_heap hx3 0
  have f1 := Lib.frozen_of_heap hx3 1
  have f2 := Lib.frozen_of_heap hx3 2
  have x0 := Lib.cell_of_heap hx3 0
  have x1 := Lib.cell_of_heap hx3 1
  have x2 := Lib.cell_of_heap hx3 2
  simp at x0 x1 x2
  have HX3 := Lib.hid hx3
  have HB3 := Lib.hid (btr HB2.out hb3 HB2.out.size)
  obtain ⟨m, hm⟩ : ∃ m, m = modR kd 6 := ⟨_, rfl⟩
  obtain ⟨tx, htx⟩ : ∃ tx, tx = text.take 90 := ⟨_, rfl⟩
  obtain ⟨ct, hct⟩ : ∃ ct, ct = cutsR tl := ⟨_, rfl⟩
  have hm6 : m < 6 := by rw [hm]; exact modR_lt _ _ (by omega)
  have HTX : Hid (tx.length ≤ 90) := by show _ ≤ _; rw [htx, List.length_take]; omega
  have HCT : Hid (∀ r ∈ ct, r.length ≤ 90) := by rw [hct]; exact cuts_small _
  have HCL : Hid (ct.length ≤ 4) := by rw [hct]; exact cuts_len _
  rw [← hm, ← htx, ← hct]
  rw [← hct] at hsl3
  have HSL3 : Hid (SliceAt (w.heap.size + 1) w3.heap.size w3 (.slice ca ct.length cc) ct.length (ct.map S)) := hsl3.mono (by have := blk_lt HX2.out; omega) (Nat.le_refl _)
  clear hm htx hct hsl3 hb3 hx3 HX2 HCUT
  go_upto_region 3 with fail
  obtain ⟨w4, hw4, hx4, ho4⟩ := set3' w3 w.heap.size _ _ _ (.int .i64 m) (S tx) (.slice ca ct.length cc) 34 HX3.out
  rw [hw4]
  have HB4 := Lib.hid (HB3.out.trans (ho4.below (Nat.le_refl _)))
  have HSL4 := Lib.hid (HSL3.out.kept (ho4.kept (.inl (Nat.lt_succ_self _))))
  have hz4 := ho4.size
  have HX4 := Lib.hid hx4
  have y0 := Lib.cell_of_heap hx4 0
  have g0 := Lib.frozen_of_heap hx4 0
  simp at y0
  clear hw4 hx4 ho4 f0 f1 f2 x0 x1 x2 HX3 HB2 HB3 HSL3
  go_upto_if 27 with fail
  go_cut [] (fun wx => ∃ m' : Nat, m' ≤ 4 ∧ wx.heap[w.heap.size]? = some (.cells #[.int .i64 m', S tx, .slice ca ct.length cc] 34 (0, 0)) ∧ Only w.heap.size w4 wx)
  case first =>
    by_cases h5 : m = 5
    · subst h5
      go_wp2_with fail
      go_meet
      refine ⟨0, by omega, ?_, (Only.refl _ _).setCell 0 _⟩
      simp only [World.setCell, Array.getElem?_modify, if_true, HX4.out]
      rfl
    · have h5' : ¬ (m : Int) = 5 := by omega
      have h5b : ((m : Int) == 5) = false := by simpa using h5'
      go_wp2_with fail
      go_meet
      exact ⟨m, by omega, HX4.out, Only.refl _ _⟩
  case rest =>
    obtain ⟨m', hm4, hx5, ho5⟩ := hcut
    have HX5 := Lib.hid hx5
    have HB5 := Lib.hid (HB4.out.trans (ho5.below (Nat.le_refl _)))
    have HSL5 := Lib.hid (HSL4.out.kept (ho5.kept (.inl (Nat.lt_succ_self _))))
    have hz5 := ho5.size
    clear y0 g0 hx5 ho5 HX4 HB4 HSL4
    rw [hz4] at hz5
    generalize wc = w5 at *
    have ha6 := alloc_below w5 (.cells #[.pointer none, .pointer none] 60)
    have hy6 := heap_alloc_new w5 (.cells #[.pointer none, .pointer none] 60)
    have hz6 : (w5.alloc (.cells #[.pointer none, .pointer none] 60)).heap.size = w5.heap.size + 1 := by simp
    go_upto_region 8 with fail
    have HQ2 : Hid (∀ W, Below w.heap.size w W → NumsAt W (.slice qa qm qcap) sv) := fun W hb => by
      have := HQ.out W hb
      rw [HQL.out] at this
      exact this
    obtain ⟨W0, hW0⟩ : ∃ W0, w5.alloc (.cells #[.pointer none, .pointer none] 60) = W0 := ⟨_, rfl⟩
    rw [hW0] at ha6 hy6 hz6 ⊢
    rw [hz5] at ha6 hy6 hz6
    have hwX : w.heap.size < w3.heap.size := by rw [← hz5]; exact blk_lt HX5.out
    have HX0 : Hid (W0.heap[w.heap.size]? = some (.cells #[.int .i64 m', S tx, .slice ca ct.length cc] 34 (0, 0))) := (ha6.block _ hwX).trans HX5.out
    have HSL0 : Hid (SliceAt 0 w3.heap.size W0 (.slice ca ct.length cc) ct.length (ct.map S)) := (HSL5.out.kept ((bkept ha6 (Nat.le_refl _)).mono (Nat.zero_le _) (Nat.le_refl _))).mono (Nat.zero_le _) (Nat.le_refl _)
    have HBW0 : Hid (Below w.heap.size w W0) := btr HB5.out ha6 (by omega)
    have HGI : Hid (GInv w3.heap.size W0 W0 (.pointer none) (.pointer none)) := ⟨Step.refl _ _, hy6⟩
    clear hW0 ha6 hy6 HB5 HSL5 HX5 hz5 hz4 HQ
    generalize w3.heap.size = X at *
    obtain ⟨SN, hSN⟩ : ∃ SN, (playR (l.take 8)).1 = SN := ⟨_, rfl⟩
    obtain ⟨TL, hTL⟩ : ∃ TL, (playR (l.take 8)).2 = TL := ⟨_, rfl⟩
    have HPL : Hid (playR (l.take 8) = (SN, TL)) := by show _ = _; rw [← hSN, ← hTL]
    clear hSN hTL
    go_loopw [34] (fun i wr => ∃ (k : Nat) (p0 : Value), i = .int .i64 k ∧ k ≤ 1 ∧ Hid (GInv X W0 wr p0 (.pointer none)) ∧ Hid (k = 1 → Crashed W0.heap.size wr.heap.size wr p0 SN TL)) (fun i _ => 2 - (intOf i).toNat)
    case atStart => exact ⟨0, .pointer none, rfl, by omega, HGI.out, fun h => absurd h (by omega)⟩
    case round =>
      clear HGI
      obtain ⟨k, p0, rfl, hk, HG, HC⟩ := hrel
      have HBR : Hid (Below w.heap.size w wr) := HBW0.out.trans (HG.out.st.below (fun j hj => by rw [hj]; omega) (by omega)).1
      have HBX : Hid (wr.heap[w.heap.size]? = some (.cells #[.int .i64 m', S tx, .slice ca ct.length cc] 34 (0, 0))) := (HG.out.st.block _ (by omega) (by omega)).trans HX0.out
      have HTL : Hid (SliceAt 0 X wr (.slice ca ct.length cc) ct.length (ct.map S)) := HSL0.out.kept (fun j _ hj => HG.out.st.block j (by omega) (by omega))
      have HZR : Hid (W0.heap.size ≤ wr.heap.size) := HG.out.st.size
      go_wp2_with fail
      ((with_reducible refine Calls.mono (new_L wr.heap.size wr (Nat.le_refl _)) ?_); rintro e w5 ⟨rfl, hd5, hb5⟩)
      have HG5 := Lib.hid (HG.out.below hb5)
      have HB5 := Lib.hid hb5
      obtain ⟨hg6, ho6⟩ := HG5.out.setk k hk (.pointer (some ⟨wr.heap.size, 0, none⟩))
      obtain ⟨y0, fy0⟩ := HG5.out.cellk k hk
      have HD6 := Lib.hid (hd5.only ho6 (by have := HZR.out; omega))
      have HG6 := Lib.hid hg6
      have HO6 := Lib.hid ho6
      clear hd5 hb5 hg6 ho6
      go_upto_region 11 with fail
      obtain ⟨wo, hwo⟩ : ∃ wo, w5.setCell ⟨X, k, none⟩ (.pointer (some ⟨wr.heap.size, 0, none⟩)) = wo := ⟨_, rfl⟩
      rw [hwo] at HD6 HG6 HO6 ⊢
      clear hwo y0 fy0
      obtain ⟨y0, fy0⟩ := HG6.out.cellk k hk
      have y0' : wo.cell? ⟨X, k, none⟩ = some (.pointer (some ⟨wr.heap.size, 0, none⟩)) := by
        rw [y0]
        have h01 : k = 0 ∨ k = 1 := by omega
        rcases h01 with rfl | rfl <;> rfl
      have HZO : Hid (wr.heap.size ≤ wo.heap.size) := by have h1 := HB5.out.size; have h2 := HO6.out.size; show _ ≤ _; omega
      have HKO : Hid (∀ j, j < wr.heap.size → j ≠ X → wo.heap[j]? = wr.heap[j]?) := fun j hj hn => (HO6.out.block j hn).trans (HB5.out.block j hj)
      clear y0
      go_wp2_with fail
      ((with_reducible refine Calls.mono (open_L wr.heap.size wo wr.heap.size [] [] 0 HD6.out) ?_); rintro e w6 ⟨g, ta6, cap6, rfl, hv6, _, hb6, _⟩)
      have HV6 := Lib.hid hv6
      have HB6 := Lib.hid hb6
      clear hv6 hb6 HD6 y0' fy0
      have HCO : Hid (k = 1 → Crashed W0.heap.size wr.heap.size wo p0 SN TL) := fun h1 => (HC.out h1).keep (fun j h2 h3 => HKO.out j h3 (by omega)) HZO.out
      have HBRo : Hid (Below w.heap.size w wo) := (HBR.out.trans (HB5.out.mono HBR.out.size)).trans (HO6.out.below (by omega))
      have HBXo : Hid (wo.heap[w.heap.size]? = some (.cells #[.int .i64 m', S tx, .slice ca ct.length cc] 34 (0, 0))) := (HKO.out _ (blk_lt HBX.out) (by omega)).trans HBX.out
      have HTLo : Hid (SliceAt 0 X wo (.slice ca ct.length cc) ct.length (ct.map S)) := HTL.out.kept (fun j _ hj => HKO.out j (by have := HZR.out; omega) (by omega))
      have hwb : w.heap.size ≤ wr.heap.size ∧ W0.heap.size ≤ wr.heap.size := ⟨HBR.out.size, HZR.out⟩
      clear HC HBR HB5 HO6 HBX HTL HKO HG5 HG HZR
      generalize wr.heap.size = b at *
      go_wp2_with fail
      go_loopw [14] (fun i wi => ∃ (n : Nat) (sn : Bs) (tq : List Bs), i = .int .i64 n ∧ n ≤ l.length ∧ n ≤ 8 ∧ Hid (LV b wi g b sn tq 0) ∧ Hid ((imageR sn tq).length ≤ 600 + 100 * n) ∧ Hid (Below b wo wi) ∧ Hid (playR (l.take n) = (sn, tq))) (fun i _ => l.length - (intOf i).toNat)
      case atStart => exact ⟨0, [], [], rfl, Nat.zero_le _, Nat.zero_le _, HV6.out, (by show _ ≤ _; rw [image_nil]; omega), HB6.out, rfl⟩
      case round =>
        clear HV6 HB6
        obtain ⟨n, sn, tq, rfl, hn, hn8, HL, HFT, HB, HPY⟩ := hrel
        have HBW : Hid (Below w.heap.size w wr) := btr HBRo.out HB.out hwb.1
        by_cases hgo : n < l.length ∧ n < 8
        · obtain ⟨hlt2, h8⟩ := hgo
          have hpy := play_snoc l n hlt2
          rw [HPY.out] at hpy
          obtain ⟨_, bb, off, yv, rfl, c0', c1', c2', hty⟩ := (HA1.out wr HBW.out).at_ n hlt2
          generalize l[n] = y at *
          unfold stepR at hpy
          obtain ⟨mk, hmk⟩ : ∃ mk, mk = modR y.1 6 := ⟨_, rfl⟩
          obtain ⟨yx, hyx⟩ : ∃ yx, yx = y.2.1.take 90 := ⟨_, rfl⟩
          obtain ⟨yt, hyt⟩ : ∃ yt, yt = cutsR y.2.2 := ⟨_, rfl⟩
          have hm6' : mk < 6 := by rw [hmk]; exact modR_lt _ _ (by omega)
          have HYX : Hid (yx.length ≤ 90) := by show _ ≤ _; rw [hyx, List.length_take]; omega
          have HYT : Hid (∀ r ∈ yt, r.length ≤ 90) := by rw [hyt]; exact cuts_small _
          have HYL : Hid (yt.length ≤ 4) := by rw [hyt]; exact cuts_len _
          have HCUT := Lib.hid (cut_14 wr y.1 y.2.1 yv y.2.2 hty)
          rw [← hmk, ← hyx, ← hyt] at HCUT hpy
          have HPY2 := Lib.hid hpy
          clear hmk hyx hyt hty hpy
          go_wp2_with fail
          ((with_reducible refine Calls.mono HCUT.out ?_); rintro e w7 ⟨⟨ya, yc, rfl, hsl7⟩, hb7⟩)
          have HL7 := Lib.hid (HL.out.below hb7)
          have HB7 := Lib.hid (btr HB.out hb7 HL.out.size)
          have HC7 : Hid (TailAt w7 (.slice ya yt.length yc) yt) := hsl7.mono (Nat.zero_le _) (Nat.le_refl _)
          clear hsl7 hb7 HCUT c0' c1' c2'
          by_cases h5 : mk = 5
          · subst h5
            have hpy := HPY2.out
            rw [if_pos rfl] at hpy
            have HPY3 := Lib.hid hpy
            have ha := alloc_below w7 (.cells #[.int .i64 5, S yx, .slice ya yt.length yc] 34)
            have HL8 := Lib.hid (HL7.out.below ha)
            have HB8 := Lib.hid (btr HB7.out ha HL7.out.size)
            clear ha hpy
            go_wp2_with fail
            go_roundw
            case rel => exact ⟨n + 1, sn, tq, by go_num, hlt2, by omega, HL8.out, Nat.le_trans HFT.out (by omega), HB8.out, HPY3.out⟩
            case measure => simp [intOf]; omega
          · have h5' : ¬ (mk : Int) = 5 := by omega
            have h5b : ((mk : Int) == 5) = false := by simpa using h5'
            have hpy := HPY2.out
            rw [if_neg h5] at hpy
            have HPY3 := Lib.hid hpy
            have ha := alloc_below w7 (.cells #[.int .i64 mk, S yx, .slice ya yt.length yc] 34)
            have HL8 := Lib.hid (HL7.out.below ha)
            have HB8 := Lib.hid (btr HB7.out ha HL7.out.size)
            have HC8 := Lib.hid (HC7.out.below ha)
            have hfit : (imageR (actR sn tq mk yx yt).1 (actR sn tq mk yx yt).2).length ≤ 600 + 100 * (n + 1) := act_fit sn tq mk _ yt n HFT.out HYX.out HYT.out HYL.out
            have HFIT := Lib.hid hfit
            clear ha hfit hpy
            go_wp2_with fail
            ((with_reducible refine Calls.mono (do_L b _ g b sn tq 0 HL8.out mk (by omega) yx _ yt HC8.out (Nat.le_trans HFIT.out (by omega))) ?_); rintro e w9 ⟨rfl, hv9, hb9⟩)
            have HL9 := Lib.hid hv9
            have HB9 := Lib.hid (HB8.out.trans hb9)
            clear hv9 hb9
            go_wp2_with fail
            go_roundw
            case rel => exact ⟨n + 1, (actR sn tq mk yx yt).1, (actR sn tq mk yx yt).2, by go_num, hlt2, by omega, HL9.out, HFIT.out, HB9.out, HPY3.out⟩
            case measure => simp [intOf]; omega
        · have hst : sn = SN ∧ tq = TL := by
            have h1 : l.take n = l.take 8 := by
              rcases Nat.lt_or_ge n l.length with h | h
              · have : n = 8 := by omega
                rw [this]
              · rw [List.take_of_length_le h, List.take_of_length_le (by omega)]
            have h2 := HPY.out
            rw [h1, HPL.out] at h2
            injection h2 with h3 h4
            exact ⟨h3.symm, h4.symm⟩
          obtain ⟨rfl, rfl⟩ := hst
          have hbn := HL.out.size
          have HCR : Hid (k = 1 → Crashed W0.heap.size b wr p0 sn tq) := fun h1 => (HCO.out h1).keep (fun j _ h3 => HB.out.block j h3) HB.out.size
          have HAR : Hid (wr.heap[X]? = some (.cells #[if k = 0 then .pointer (some ⟨b, 0, none⟩) else p0, if k = 0 then .pointer none else .pointer (some ⟨b, 0, none⟩)] 60 (0, 0))) := (HB.out.block X (by omega)).trans HG6.out.arr
          obtain ⟨F1, c1, hv1, hlo1, hz1⟩ := HL.out.ex
          have HV1 := Lib.hid hv1
          have HLO1 := Lib.hid hlo1
          have HFT2 : Hid ((imageR sn tq).length ≤ 20000) := Nat.le_trans HFT.out (by omega)
          clear hv1 hlo1 HCO
          have h01 : k = 0 ∨ k = 1 := by omega
          rcases h01 with rfl | rfl
          · by_cases hlt2 : n < l.length
            all_goals
              go_upto_if 83 with fail
              go_cut [16] (fun t wx => ∃ f0 : Nat, f0 ≤ 2 ∧ t = .int .i64 f0 ∧ wx = wr)
              case first =>
                by_cases hq0 : qm = 0
                · subst hq0
                  go_wp2_with fail
                  go_meet
                  exact ⟨0, by omega, rfl, rfl⟩
                · have hqp : 0 < qm := by omega
                  have hqi : (0 : Int) < qm := by omega
                  obtain ⟨na, ncap, hnv, hnx⟩ := HQ2.out wr HBW.out
                  injection hnv with h1 h2 h3
                  subst h1 h3
                  have hsl := HQL.out
                  obtain ⟨nb, noff, rfl, _, hnb, hnc⟩ := hnx (fun e => by have := congrArg List.length e; rw [List.length_map, hsl] at this; simp at this; omega)
                  obtain ⟨z, hz⟩ : ∃ z, sv[0]? = some z := ⟨_, List.getElem?_eq_getElem (by omega)⟩
                  have hc0 : wr.cell? ⟨nb, noff, none⟩ = some (.int .i64 z) := hnc 0 _ (by rw [List.getElem?_map, hz]; rfl)
                  have HMD : Hid (∀ W, Calls Tryd.prog 27 #[.int .i64 z, .int .i64 3] W fun e w1 => e = .returned (.int .i64 (modR z 3)) ∧ w1 = W) := fun W => mod_27 z 3 (by omega) (by omega) W
                  clear hnc hnx hz hsl h2
                  go_wp2_with fail
                  ((with_reducible refine Calls.mono (HMD.out _) ?_); rintro e w7 ⟨rfl, hw⟩; have hw := hw.symm; subst hw)
                  go_wp2_with fail
                  go_meet
                  exact ⟨modR z 3, by have := modR_lt z 3 (by omega); omega, rfl, rfl⟩
              case rest =>
                obtain ⟨f0, hf0, rfl, rfl⟩ := hcut
                obtain ⟨f, hf⟩ : ∃ f : Int, f = min (f0 : Int) 1 := ⟨_, rfl⟩
                have hfm : min (f0 : Int) 1 = f := hf.symm
                have hf01 : f = 0 ∨ f = 1 := by omega
                have hfd : decide (-1 < f) = true := by rcases hf01 with h | h <;> rw [h] <;> rfl
                have a0 : wc.cell? ⟨X, 0, none⟩ = some (.pointer (some ⟨b, 0, none⟩)) := Lib.cell_of_heap HAR.out 0
                clear hf
                go_wp2_with fail
                clear hfm a0
                ((with_reducible refine Calls.mono (fail_23 F1 wc b (onD c1 0) HV1.out.ds.disk f) ?_); rintro e w7 ⟨rfl, hd7, ho7⟩)
                have hd7' : DiskAt F1 w7 b (failD c1 f) := by
                  have h1 : { onD c1 0 with failing := decide (-1 < f), left := f } = failD c1 f := by rw [hfd]; rfl
                  rw [h1] at hd7; exact hd7
                have hs7 : Step F1 wc F1 w7 := Step.of_only ho7 HV1.out.ds.disk.fb
                have HVD := Lib.hid (HV1.out.vd.step hd7' hs7)
                have HB7 := Lib.hid (HB.out.trans (ho7.below (Nat.le_refl b)))
                have HX7 : Hid (w7.heap[w.heap.size]? = some (.cells #[.int .i64 m', S tx, .slice ca ct.length cc] 34 (0, 0))) := (HB7.out.block _ (by omega)).trans HBXo.out
                have HT7 : Hid (TailAt w7 (.slice ca ct.length cc) ct) := (HTLo.out.kept (bkept HB7.out (by omega))).mono (Nat.le_refl _) (by have h1 := HB7.out.size; have h2 := HZO.out; omega)
                have HFR : Hid ((imageR tx ct).length ≤ 20000) := by
                  have h1 := frames_small ct HCT.out
                  have h2 := HTX.out
                  have h3 := HCL.out
                  show (imageR tx ct).length ≤ _
                  unfold imageR
                  simp only [List.length_append]
                  rw [numR_small (by omega : tx.length < 128)]
                  simp only [List.length_singleton]; omega
                have HAR7 := Lib.hid ((HB7.out.block X (by omega)).trans HG6.out.arr)
                have x0 := Lib.cell_of_heap HX7.out 0
                have x1 := Lib.cell_of_heap HX7.out 1
                have x2 := Lib.cell_of_heap HX7.out 2
                simp at x0 x1 x2
                clear hd7 hd7' ho7 hs7 hfd
                go_wp2_with fail
                clear x0 x1 x2
                ((with_reducible refine Calls.mono (do_F F1 w7 g b sn tq c1 f hf01 HVD.out HFT2.out HV1.out.ds.cl m' (by omega) tx (by have := HTX.out; omega) _ ct HT7.out HFR.out) ?_); rintro e w8 ⟨rfl, F8, D8, hv8, hc8, hs8⟩)
                have hb8 := hs8.below HLO1.out (Nat.le_trans HZO.out (by have := HB7.out.size; omega))
                have HB8 := Lib.hid (HB7.out.trans hb8.1)
                have HAR8 := Lib.hid ((HB8.out.block X (by omega)).trans HG6.out.arr)
                have a0 : w8.cell? ⟨X, 0, none⟩ = some (.pointer (some ⟨b, 0, none⟩)) := Lib.cell_of_heap HAR8.out 0
                have HV8 := Lib.hid hv8
                have HC8 := Lib.hid hc8
                clear hv8 hc8 hs8 hb8
                go_wp2_with fail
                clear a0
                have HBW8 : Hid (Below w.heap.size w w8) := btr HBRo.out HB8.out hwb.1
                ((with_reducible refine Calls.mono (crash_28 F8 w8 b D8 HV8.out.disk sv (.slice qa qm qcap) (HQ2.out w8 HBW8.out) (by rw [HQL.out]; omega) (by rw [HC8.out.syn]; have := HV1.out.ds.cl; omega) (fun p hp => by have := HC8.out.pcs p hp; omega) (Nat.le_trans HC8.out.num (by omega))) ?_); rintro e w9 ⟨rfl, F9, hd9, hb9, hf9⟩)
                have HB9 := Lib.hid (btr HB8.out hb9 (Nat.le_trans HZO.out HB8.out.size))
                have hg9 := HG6.out.low HB9.out hwb.2 (by omega)
                obtain ⟨hg10, ho10⟩ := hg9.set0 (.pointer (some ⟨w8.heap.size, 0, none⟩))
                have a0 : w9.cell? ⟨X, 0, none⟩ = some (.pointer (some ⟨b, 0, none⟩)) := Lib.cell_of_heap hg9.arr 0
                have f0' : w9.frozen? ⟨X, 0, none⟩ = false := Lib.frozen_of_heap hg9.arr 0
                have HG10 := Lib.hid hg10
                have HO10 := Lib.hid ho10
                obtain ⟨hop, hlen⟩ := crash_open HC8.out HV1.out.ds.clean HFT2.out HV1.out.ds.cl sv
                have HOP := Lib.hid hop
                have HLEN := Lib.hid hlen
                have HD9 := Lib.hid hd9
                have HF9 := Lib.hid hf9
                have hx8 : X < w8.heap.size := blk_lt HAR8.out
                have hw8 : W0.heap.size ≤ w8.heap.size := Nat.le_trans hwb.2 (Nat.le_trans HZO.out HB8.out.size)
                clear hg10 ho10 hop hlen hd9 hb9 hf9 hg9
                go_wp2_with fail
                go_roundw
                case rel =>
                  refine ⟨1, .pointer (some ⟨w8.heap.size, 0, none⟩), by go_num, by omega, HG10.out, fun _ => ?_⟩
                  obtain ⟨x, st, ho⟩ := HOP.out
                  refine ⟨w8.heap.size, F9, _, x, st, rfl, HD9.out.keep (fun j hj => HO10.out.block j (by have := HF9.out j hj; omega)) (Nat.le_of_eq HO10.out.size.symm), ho, HLEN.out, fun j hj => ⟨by have := HF9.out j hj; omega, ?_⟩⟩
                  rw [HO10.out.size]; exact HD9.out.lt j hj
                case measure => simp [intOf]
          · obtain ⟨b2, F2, c2, x, st, rfl, hd2, ho2, hc2, hf2⟩ := (HCR.out rfl).ex
            obtain ⟨T, hT⟩ : ∃ T, T = trimR (cleanR sn tq) := ⟨_, rfl⟩
            have HTT := Lib.hid hT
            have HD2 := Lib.hid hd2
            have HO2 := Lib.hid ho2
            have HC2 := Lib.hid hc2
            have HF2 := Lib.hid hf2
            have HZB := Lib.hid hbn
            clear hT hd2 ho2 hc2 hf2
            by_cases hlt2 : n < l.length
            all_goals
              go_wp2_with fail
              have a0 : wr.cell? ⟨X, 0, none⟩ = some (.pointer (some ⟨b2, 0, none⟩)) := Lib.cell_of_heap HAR.out 0
              refine wp_loop_rounds 3 ?_
              rw [rounds_succ]
              go_wp2_with fail
              clear a0
              ((with_reducible refine Calls.mono (open_any F2 wr b2 (onD c2 0) c2 0 HD2.out (sync_on c2 0) rfl (on_ok c2 HC2.out) sn x tq st HO2.out HFT2.out HC2.out (by omega) (by omega)) ?_); rintro e w6 ⟨F6, g6, v6, c6, rfl, hv6, _, hs6, _⟩)
              have HV6 := Lib.hid hv6
              have HS6 := Lib.hid hs6
              have HDS1 : Hid (DS F1 w6 b sn tq c1 0) := ⟨HV1.out.ds.disk.keep (fun j hj => HS6.out.block j (HV1.out.ds.disk.lt j hj) (fun h => by have h1 := (HF2.out j h).2; have h2 := HLO1.out j (.inl hj); omega)) HS6.out.size, HV1.out.ds.clean, HV1.out.ds.fit, HV1.out.ds.cl, HV1.out.ds.lo, HV1.out.ds.hi⟩
              have HAR6 : Hid (w6.heap[X]? = _) := (HS6.out.block X (blk_lt HAR.out) (fun h => by have h1 := (HF2.out X h).1; omega)).trans HAR.out
              have a1 : w6.cell? ⟨X, 1, none⟩ = some (.pointer (some ⟨b, 0, none⟩)) := Lib.cell_of_heap HAR6.out 1
              clear hv6 hs6
              go_wp2_with fail
              rw [rounds_succ]
              go_wp2_with fail
              clear a1
              ((with_reducible refine Calls.mono (open_S F1 w6 b sn tq c1 0 HDS1.out) ?_); rintro e w7 ⟨F7, g7, v7, c7, rfl, hv7, _, hs7, _⟩)
              have HV7 := Lib.hid hv7
              have HS7 := Lib.hid hs7
              have HDS0 : Hid (DS F6 w7 b2 sn tq c6 0) := ⟨HV6.out.ds.disk.keep (fun j hj => HS7.out.block j (HV6.out.ds.disk.lt j hj) (fun h => by
                have h2 := HLO1.out j (.inl h)
                have h3 := HV1.out.ds.disk.lt j h
                rcases HS6.out.new j (.inl hj) with h4 | h4
                · have := (HF2.out j h4).2; omega
                · omega)) HS7.out.size, HV6.out.ds.clean, HV6.out.ds.fit, HV6.out.ds.cl, HV6.out.ds.lo, HV6.out.ds.hi⟩
              have HAR7 : Hid (w7.heap[X]? = _) := (HS7.out.block X (blk_lt HAR6.out) (fun h => by have h1 := HLO1.out X (.inl h); omega)).trans HAR6.out
              have HBF : Hid (Below w.heap.size w w7) := by
                have h1 := (HS6.out.below (lo := W0.heap.size) (fun j hj => (HF2.out j hj).1) (Nat.le_trans hwb.2 HZB.out)).1
                have h2 := (HS7.out.below (lo := b) (fun j hj => HLO1.out j (.inl hj)) (Nat.le_trans HZB.out HS6.out.size)).1
                exact (HBW.out.trans (h1.mono (by omega))).trans (h2.mono (by omega))
              clear hv7 hs7
              go_wp2_with fail
              rw [rounds_succ]
              go_wp2_with fail
              have a0 : w7.cell? ⟨X, 0, none⟩ = some (.pointer (some ⟨b2, 0, none⟩)) := Lib.cell_of_heap HAR7.out 0
              have a1 : w7.cell? ⟨X, 1, none⟩ = some (.pointer (some ⟨b, 0, none⟩)) := Lib.cell_of_heap HAR7.out 1
              have HAL : Hid (∀ W, Below w7.heap.size w7 W → W.cell? ⟨X, 0, none⟩ = some (.pointer (some ⟨b2, 0, none⟩)) ∧ W.cell? ⟨X, 1, none⟩ = some (.pointer (some ⟨b, 0, none⟩))) := fun W hb => ⟨bext hb _ _ a0, bext hb _ _ a1⟩
              have HK0 : Hid (∀ W : World, Below w7.heap.size w7 W → Calls Tryd.prog 18 #[.pointer (some ⟨b2, 0, none⟩)] W fun e' w' => e' = .returned (S T) ∧ Below W.heap.size W w') := fun W hb => by
                rw [HTT.out]; exact contents_S F6 W b2 sn tq c6 0 (HDS0.out.below hb)
              have HK1 : Hid (∀ W : World, Below w7.heap.size w7 W → Calls Tryd.prog 18 #[.pointer (some ⟨b, 0, none⟩)] W fun e' w' => e' = .returned (S T) ∧ Below W.heap.size W w') := fun W hb => by
                rw [HTT.out]; exact contents_S F7 W b sn tq c7 0 (HV7.out.below hb).ds
              have HB0 : Hid (Below w7.heap.size w7 w7.drew) := (Below.refl _ w7).drew
              go_region_with (first
                | (go_at_call 18; ((with_reducible refine Calls.mono (HK0.out _ HB0.out) ?_); rintro e u1 ⟨rfl, hb1⟩); have HU1 := Lib.hid (btr HB0.out hb1 HB0.out.size); obtain ⟨z0, z1⟩ := HAL.out _ HU1.out; clear hb1)
                | (go_at_call 18; ((with_reducible refine Calls.mono (HK1.out _ HU1.out) ?_); rintro e u2 ⟨rfl, hb2⟩); have HU2 := Lib.hid (btr HU1.out hb2 HU1.out.size); obtain ⟨q0, q1⟩ := HAL.out _ HU2.out; clear hb2))
              all_goals
                go_wp2_with fail
                go_ret
                exact ⟨rfl, btr HBF.out HU2.out HBF.out.size⟩
end Go.Proofs.YtgdkdihedgiegaaDoor
