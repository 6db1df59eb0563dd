/-
  The walk of VaultForgets.
-/
import Derived.Test.YtgdkdihedgiegaaDoorV26
import Derived.Test.YtgdkdihedgiegaaDoorF1
namespace Go.Proofs.YtgdkdihedgiegaaDoor
open Go.RowKit

theorem join_31 (w : World) (a : Option Addr) (cap : Nat) (tl : List Bs) (ht : TailAt w (.slice a tl.length cap) tl) (hc : tl.length ≤ cap) (hl : (Lib.join tl [32]).length ≤ 1000000) (hn : tl.length ≤ 1000000) :
    Calls Tryd.prog 31 #[.slice a tl.length cap, S [32]] w fun e w' => e = .returned (S (Lib.join tl [32])) ∧ Below w.heap.size w w' := by
  by_cases h0 : tl = []
  · subst h0
    refine (strings_Join_none a cap ⟨#[32]⟩ w).mono ?_
    rintro e w' ⟨rfl, rfl⟩
    exact ⟨rfl, Below.refl _ _⟩
  · obtain ⟨a', cap', hv, h⟩ := ht
    injection hv with h1 h2 h3
    subst h1 h3
    obtain ⟨b, off, rfl, _, h4, h5⟩ := h (by simpa using h0)
    have hm : (tl.map fun l : Bs => (⟨l.toArray⟩ : ByteArray)).map (·.data.toList) = tl := by
      rw [List.map_map]; conv => rhs; rw [← List.map_id tl]
      rfl
    have hlen : (tl.map fun l : Bs => (⟨l.toArray⟩ : ByteArray)).length = tl.length := List.length_map _
    have := strings_Join b off cap (tl.map fun l : Bs => (⟨l.toArray⟩ : ByteArray)) ⟨#[32]⟩ w (fun j x hx => by
      rw [List.getElem?_map, Option.map_eq_some_iff] at hx
      obtain ⟨y, hy, rfl⟩ := hx
      exact h5 j _ (by rw [List.getElem?_map, hy]; rfl)) h4 (by rw [hlen]; omega) (by rw [hlen]; exact hc) (by rw [hm]; show (Lib.join tl [32]).length ≤ _; omega)
    rw [hm, hlen] at this
    exact this
theorem contains_30 (w : World) (s u : Bs) (m : Int) (hm : w.cell? ⟨0, 0, none⟩ = some (.int .i64 m)) (hs : s.length ≤ 1000000) :
    Calls Tryd.prog 30 #[S s, S u] w fun e w' => e = .returned (.bool (Lib.contains s u)) ∧ w' = w :=
  strings_Contains ⟨s.toArray⟩ ⟨u.toArray⟩ m w (by simp [ByteArray.size]; omega) hm
theorem frame_mid (r : Bs) (h : r.length ≤ 96) : (frameR r).length ≤ 98 := by
  simp only [frameR, List.length_cons, List.length_append]
  rw [numR_small (by omega : r.length < 128)]
  simp; omega
theorem act_fit2 (sn : Bs) (tl : List Bs) (k : Nat) (text : Bs) (tail : List Bs) (n : Nat) (h : (imageR sn tl).length ≤ 600 + 100 * n) (ht : text.length ≤ 96) (hs : ∀ r ∈ tail, r.length ≤ 90) (hn : tail.length ≤ 4) :
    (imageR (actR sn tl k text tail).1 (actR sn tl k text tail).2).length ≤ 600 + 100 * (n + 1) := by
  unfold actR
  split
  · have := frame_mid _ ht
    show (imageR sn (tl ++ [text])).length ≤ _
    rw [image_snoc, List.length_append]
    omega
  · have := frames_small tail hs
    show (imageR text tail).length ≤ _
    unfold imageR
    simp only [List.length_append]
    rw [numR_small (by omega : text.length < 128)]
    simp only [List.length_singleton]; omega
theorem join_len (tl : List Bs) (hs : ∀ r ∈ tl, r.length ≤ 90) : (Lib.join tl [32]).length ≤ 91 * tl.length := by
  have key : ∀ l : List Bs, (∀ r ∈ l, r.length ≤ 90) → (Lib.joinTail [32] l).length ≤ 91 * l.length := by
    intro l
    unfold Lib.joinTail
    induction l with
    | nil => intro _; simp
    | cons x l ih =>
      intro h
      have h1 := h x (by simp)
      have h2 := ih (fun r hr => h r (by simp [hr]))
      simp only [List.map_cons, List.flatten_cons, List.length_append, List.length_cons, List.length_nil] at h2 ⊢
      omega
  cases tl with
  | nil => simp [Lib.join_nil]
  | cons x l =>
    rw [Lib.join_cons, List.length_append]
    have := key l (fun r hr => hs r (by simp [hr]))
    have := hs x (by simp)
    simp only [List.length_cons]; omega
theorem set3 (w : World) (b : Nat) (u0 u1 u2 v0 v1 v2 : Value) (t : TypeId) (h : w.heap[b]? = some (.cells #[u0, u1, u2] t (0, 0))) :
    ∃ w', ((w.setCell ⟨b, 0, none⟩ v0).setCell ⟨b, 1, none⟩ v1).setCell ⟨b, 2, none⟩ v2 = w' ∧ w'.heap[b]? = some (.cells #[v0, v1, v2] t (0, 0)) ∧ Only b w w' := by
  refine ⟨_, rfl, ?_, (((Only.refl b w).setCell 0 v0).setCell 1 v1).setCell 2 v2⟩
  simp only [World.setCell, Array.getElem?_modify, if_true, h]
  rfl
/-- What the outer loop holds: W0 is the world in which it begins; X the array's block. -/
structure FInv (X : Nat) (W0 wr : World) (c0 c1 : Bs) : Prop where
  st : Step (fun j => j = X) W0 (fun j => j = X) wr
  arr : wr.heap[X]? = some (.cells #[S c0, S c1] 62 (0, 0))
theorem nums_nil (w : World) : NumsAt w (.slice none 0 0) [] := ⟨none, 0, rfl, fun h => absurd rfl h⟩
theorem FInv.set0 {X : Nat} {W0 wr w1 : World} {c0 c1 : Bs} (h : FInv X W0 wr c0 c1) (hb : Below wr.heap.size wr w1) (T : Bs) : FInv X W0 (w1.setCell ⟨X, 0, none⟩ (S T)) T c1 := by
  have hy := (hb.block X (blk_lt h.arr)).trans h.arr
  refine ⟨(h.st.trans (Step.of_below hb)).trans (Step.of_only ((Only.refl X w1).setCell 0 (S T)) rfl), ?_⟩
  simp only [World.setCell, Array.getElem?_modify, if_true, hy]
  rfl
theorem FInv.set1 {X : Nat} {W0 wr w1 : World} {c0 c1 : Bs} (h : FInv X W0 wr c0 c1) (hb : Below wr.heap.size wr w1) (T : Bs) : FInv X W0 (w1.setCell ⟨X, 1, none⟩ (S T)) c0 T := by
  have hy := (hb.block X (blk_lt h.arr)).trans h.arr
  refine ⟨(h.st.trans (Step.of_below hb)).trans (Step.of_only ((Only.refl X w1).setCell 1 (S T)) rfl), ?_⟩
  simp only [World.setCell, Array.getElem?_modify, if_true, hy]
  rfl
set_option maxHeartbeats 4000000 in
set_option maxRecDepth 100000 in
theorem forgets_10 (v1 v2 : Value) (l1 l2 : List ActL) (kd : Int) (text : Bs) (tv : Value) (tl : List Bs) (w : World) (h1 : ActsAt w v1 l1) (h2 : ActsAt w v2 l2) (ht : TailAt w tv tl) (hsh : w.ShapedOpen Tryd.prog) :
    Calls Tryd.prog 10 #[v1, v2, .agg #[.int .i64 kd, S text, tv]] w fun e w' => e = .returned (.bool true) ∧ Below w.heap.size w w' := by
  obtain ⟨mm, hmm⟩ := laysM144.s1_3 w hsh
  have HMM : Hid (∀ W, Below w.heap.size w W → W.cell? ⟨0, 0, none⟩ = some (.int .i64 mm)) := fun W hb => bext hb _ _ hmm
  have HA1 : Hid (∀ W, Below w.heap.size w W → ActsAt W v1 l1) := fun W hb => h1.below hb
  have HA2 : Hid (∀ W, Below w.heap.size w W → ActsAt W v2 l2) := fun W hb => h2.below hb
  have HT : Hid (∀ W, Below w.heap.size w W → TailAt W tv tl) := fun W hb => ht.below hb
  obtain ⟨aa1, acap1, rfl, _⟩ := id h1
  obtain ⟨aa2, acap2, rfl, _⟩ := id h2
  obtain ⟨ta, tcap, rfl, _⟩ := id ht
  have ha := alloc_below w (.cells #[.int .i64 kd, S text, .slice ta tl.length tcap] 34)
  have hx := heap_alloc_new w (.cells #[.int .i64 kd, S text, .slice ta tl.length tcap] 34)
  clear h1 h2 ht hmm hsh
  go_enter Tryd.func10, Tryd.ntmps10
  go_wp2_with fail
  generalize w.alloc (.cells #[.int .i64 kd, S text, .slice ta tl.length tcap] 34) = w1 at *
  ((with_reducible refine Calls.mono (sanity_11 w1) ?_); rintro e w2 ⟨rfl, hb2⟩)
  have hx2 := (hb2.block _ (blk_lt hx)).trans hx
  have HB2 := Lib.hid (btr ha hb2 ha.size)
  have x0 := Lib.cell_of_heap hx2 0
  have x1 := Lib.cell_of_heap hx2 1
  have x2 := Lib.cell_of_heap hx2 2
  simp at x0 x1 x2
  have HX2 := Lib.hid hx2
  clear ha hx hb2 hx2
  go_wp2_with fail
  have HCUT := Lib.hid (cut_14s w2 kd text _ tl (HT.out w2 HB2.out))
  ((with_reducible refine Calls.mono HCUT.out ?_); rintro e w3 ⟨⟨ca, cc, rfl, hsl3, hcc⟩, hb3⟩)
  have hx3 := (hb3.block _ (blk_lt HX2.out)).trans HX2.out
  have f0 := Lib.frozen_of_heap hx3 0
  have f1 := Lib.frozen_of_heap hx3 1
  have f2 := Lib.frozen_of_heap hx3 2
  have x0 := Lib.cell_of_heap hx3 0
  have x1 := Lib.cell_of_heap hx3 1
  have x2 := Lib.cell_of_heap hx3 2
  simp at x0 x1 x2
  have HX3 := Lib.hid hx3
  have HB3 := Lib.hid (btr HB2.out hb3 HB2.out.size)
  obtain ⟨m, hm⟩ : ∃ m, m = modR kd 6 := ⟨_, rfl⟩
  obtain ⟨tx, htx⟩ : ∃ tx, tx = text.take 90 := ⟨_, rfl⟩
  obtain ⟨ct, hct⟩ : ∃ ct, ct = cutsR tl := ⟨_, rfl⟩
  have HTX : Hid (tx.length ≤ 90) := by show _ ≤ _; rw [htx, List.length_take]; omega
  have HCT : Hid (∀ r ∈ ct, r.length ≤ 90) := by rw [hct]; exact cuts_small _
  have HCL : Hid (ct.length ≤ 4) := by rw [hct]; exact cuts_len _
  rw [← hm, ← htx, ← hct]
  rw [← hct] at hsl3 hcc
  have HSL3 : Hid (SliceAt (w.heap.size + 1) w3.heap.size w3 (.slice ca ct.length cc) ct.length (ct.map S)) := hsl3.mono (by have := blk_lt HX2.out; omega) (Nat.le_refl _)
  have HCC := Lib.hid hcc
  clear hm htx hct hsl3 hcc hb3 hx3 HX2 HCUT
  go_upto_region 3 with fail
  obtain ⟨w4, hw4, hx4, ho4⟩ := set3 w3 w.heap.size _ _ _ (.int .i64 m) (S tx) (.slice ca ct.length cc) 34 HX3.out
  rw [hw4]
  have HB4 := Lib.hid (HB3.out.trans (ho4.below (Nat.le_refl _)))
  have HSL4 := Lib.hid (HSL3.out.kept (ho4.kept (.inl (Nat.lt_succ_self _))))
  have hz4 := ho4.size
  have HX4 := Lib.hid hx4
  have ha5 := alloc_below w4 (.cells #[S [], S []] 62)
  have hy5 := heap_alloc_new w4 (.cells #[S [], S []] 62)
  have hz5 : (w4.alloc (.cells #[S [], S []] 62)).heap.size = w4.heap.size + 1 := by simp
  have ha6 := alloc_below (w4.alloc (.cells #[S [], S []] 62)) (.cells #[.slice aa1 l1.length acap1, .slice aa2 l2.length acap2] 22)
  have hs6 := heap_alloc_new (w4.alloc (.cells #[S [], S []] 62)) (.cells #[.slice aa1 l1.length acap1, .slice aa2 l2.length acap2] 22)
  have hz6 : ((w4.alloc (.cells #[S [], S []] 62)).alloc (.cells #[.slice aa1 l1.length acap1, .slice aa2 l2.length acap2] 22)).heap.size = w4.heap.size + 2 := by simp
  clear hw4 hx4 ho4 f0 f1 f2 x0 x1 x2 HX3 HB2 HB3 HSL3
  go_upto_region 5 with fail
  have hS : ([] : Bs).toArray = #[] := rfl
  obtain ⟨W0, hW0⟩ : ∃ W0, (w4.alloc (.cells #[S [], S []] 62)).alloc (.cells #[.slice aa1 l1.length acap1, .slice aa2 l2.length acap2] 22) = W0 := ⟨_, rfl⟩
  have hb0 : Below w4.heap.size w4 W0 := by rw [← hW0]; exact btr ha5 ha6 (by rw [hz5]; omega)
  have hy0 : W0.heap[w4.heap.size]? = some (.cells #[S [], S []] 62 (0, 0)) := by rw [← hW0]; exact (ha6.block _ (by rw [hz5]; omega)).trans hy5
  have hs0 : W0.heap[w4.heap.size + 1]? = some (.cells #[.slice aa1 l1.length acap1, .slice aa2 l2.length acap2] 22 (0, 0)) := by
    rw [hz5] at hs6
    rw [← hW0]; exact hs6
  have hz0 : W0.heap.size = w4.heap.size + 2 := by rw [← hW0]; exact hz6
  show Code.wp _ _ _ _ ((w4.alloc (.cells #[S [], S []] 62)).alloc (.cells #[.slice aa1 l1.length acap1, .slice aa2 l2.length acap2] 22))
  rw [hW0]
  rw [hz4] at hb0 hy0 hs0 hz0
  have HX0 : Hid (W0.heap[w.heap.size]? = some (.cells #[.int .i64 m, S tx, .slice ca ct.length cc] 34 (0, 0))) := (hb0.block _ (by rw [← hz4]; exact blk_lt HX4.out)).trans HX4.out
  have hwX : w.heap.size < w3.heap.size := by rw [← hz4]; exact blk_lt HX4.out
  have HSL0 : Hid (SliceAt 0 w3.heap.size W0 (.slice ca ct.length cc) ct.length (ct.map S)) := (HSL4.out.kept ((bkept hb0 (Nat.le_refl _)).mono (Nat.zero_le _) (Nat.le_refl _))).mono (Nat.zero_le _) (Nat.le_refl _)
  have HBW0 : Hid (Below w.heap.size w W0) := btr HB4.out hb0 (by omega)
  clear hW0 ha5 hy5 ha6 hs6 hz6 HB4 HSL4 HX4 hz4 hb0 hS hz5
  generalize w3.heap.size = X at *
  obtain ⟨T, hT⟩ : ∃ T, T = trimR (cleanR tx ct) := ⟨_, rfl⟩
  have HTT := Lib.hid hT
  have HFI : Hid (FInv X W0 W0 [] []) := ⟨Step.refl _ _, hy0⟩
  have HS0 := Lib.hid hs0
  clear hT hy0 hs0
  go_loopw [25] (fun i wr => ∃ (k : Nat) (c0 c1 : Bs), i = .int .i64 k ∧ k ≤ 2 ∧ Hid (FInv X W0 wr c0 c1) ∧ Hid (1 ≤ k → c0 = T) ∧ Hid (k = 2 → c1 = T)) (fun i _ => 2 - (intOf i).toNat)
  case atStart => exact ⟨0, [], [], rfl, by omega, HFI.out, fun h => absurd h (by omega), fun h => absurd h (by omega)⟩
  case round =>
    clear HFI
    obtain ⟨k, c0, c1, rfl, hk, HF, HC0, HC1⟩ := hrel
    have HBR : Hid (Below w.heap.size w wr) := HBW0.out.trans (HF.out.st.below (fun j hj => by rw [hj]; omega) (by omega)).1
    have HBS : Hid (wr.heap[X + 1]? = some (.cells #[.slice aa1 l1.length acap1, .slice aa2 l2.length acap2] 22 (0, 0))) := (HF.out.st.block _ (by omega) (by omega)).trans HS0.out
    have HBX : Hid (wr.heap[w.heap.size]? = some (.cells #[.int .i64 m, S tx, .slice ca ct.length cc] 34 (0, 0))) := (HF.out.st.block _ (by omega) (by omega)).trans HX0.out
    have HTL : Hid (SliceAt 0 X wr (.slice ca ct.length cc) ct.length (ct.map S)) := HSL0.out.kept (fun j _ hj => HF.out.st.block j (by omega) (by omega))
    have HZR : Hid (X + 2 ≤ wr.heap.size) := by have := HF.out.st.size; show _ ≤ _; omega
    by_cases hlt : k < 2
    · obtain ⟨aa, acap, l, hcell, hacts⟩ : ∃ aa acap, ∃ l : List ActL, wr.cell? ⟨X + 1, k, none⟩ = some (.slice aa l.length acap) ∧ ActsAt wr (.slice aa l.length acap) l := by
        have h01 : k = 0 ∨ k = 1 := by omega
        rcases h01 with rfl | rfl
        · exact ⟨aa1, acap1, l1, Lib.cell_of_heap HBS.out 0, HA1.out wr HBR.out⟩
        · exact ⟨aa2, acap2, l2, Lib.cell_of_heap HBS.out 1, HA2.out wr HBR.out⟩
      have HA : Hid (∀ W, Below wr.heap.size wr W → ActsAt W (.slice aa l.length acap) l) := fun W hb => hacts.below hb
      clear hacts
      go_wp2_with fail
      ((with_reducible refine Calls.mono (new_L wr.heap.size wr (Nat.le_refl _)) ?_); rintro e w5 ⟨rfl, hd5, hb5⟩)
      have HD5 := Lib.hid hd5
      have HB5 := Lib.hid hb5
      clear hd5 hb5
      go_wp2_with fail
      ((with_reducible refine Calls.mono (open_L wr.heap.size w5 wr.heap.size [] [] 0 HD5.out) ?_); rintro e w6 ⟨g, ta6, cap6, rfl, hv6, _, hb6, _⟩)
      have HV6 := Lib.hid hv6
      have HB6 := Lib.hid (HB5.out.trans hb6)
      clear hv6 hb6 HD5 HB5
      obtain ⟨wo, hwo⟩ : ∃ wo, wo = wr := ⟨wr, rfl⟩
      subst hwo
      go_wp2_with fail
      go_loopw [16] (fun i wi => ∃ (n : Nat) (sn : Bs) (tq : List Bs), i = .int .i64 n ∧ n ≤ l.length ∧ n ≤ 10 ∧ Hid (LV wo.heap.size wi g wo.heap.size sn tq 0) ∧ Hid ((imageR sn tq).length ≤ 600 + 100 * n) ∧ Hid (Below wo.heap.size wo wi)) (fun i _ => l.length - (intOf i).toNat)
      case atStart => exact ⟨0, [], [], rfl, Nat.zero_le _, Nat.zero_le _, HV6.out, (by show _ ≤ _; rw [image_nil]; omega), HB6.out⟩
      case round =>
        clear HV6 HB6 hcell
        obtain ⟨n, sn, tq, rfl, hn, hn10, HL, HFT, HB⟩ := hrel
        by_cases hgo : n < l.length ∧ n < 10
        · obtain ⟨hlt2, h10⟩ := hgo
          obtain ⟨_, bb, off, yv, rfl, c0', c1', c2', hty⟩ := (HA.out wr HB.out).at_ n hlt2
          generalize l[n] = y at *
          obtain ⟨mk, hmk⟩ : ∃ mk, mk = modR y.1 6 := ⟨_, rfl⟩
          obtain ⟨yx, hyx⟩ : ∃ yx, yx = y.2.1.take 90 := ⟨_, rfl⟩
          obtain ⟨yt, hyt⟩ : ∃ yt, yt = cutsR y.2.2 := ⟨_, rfl⟩
          have hm6 : mk < 6 := by rw [hmk]; exact modR_lt _ _ (by omega)
          have HYX : Hid ((yx ++ secretR).length ≤ 96) := by show _ ≤ _; rw [hyx, List.length_append, List.length_take]; show _ + 6 ≤ _; omega
          have HYT : Hid (∀ r ∈ yt, r.length ≤ 90) := by rw [hyt]; exact cuts_small _
          have HYL : Hid (yt.length ≤ 4) := by rw [hyt]; exact cuts_len _
          have hyl : yx.length ≤ 90 := by rw [hyx, List.length_take]; omega
          have sy : ¬ 9223372036854775807 < yx.length + 6 := by omega
          have HCUT := Lib.hid (cut_14 wr y.1 y.2.1 yv y.2.2 hty)
          rw [← hmk, ← hyx, ← hyt] at HCUT
          clear hmk hyx hyt hty
          go_wp2_with fail
          ((with_reducible refine Calls.mono HCUT.out ?_); rintro e w7 ⟨⟨ya, yc, rfl, hsl7⟩, hb7⟩)
          have HL7 := Lib.hid (HL.out.below hb7)
          have HB7 := Lib.hid (btr HB.out hb7 HL.out.size)
          have HC7 : Hid (TailAt w7 (.slice ya yt.length yc) yt) := hsl7.mono (Nat.zero_le _) (Nat.le_refl _)
          clear hsl7 hb7 HCUT c0' c1' c2'
          by_cases h5 : mk = 5
          · subst h5
            have ha := alloc_below w7 (.cells #[.int .i64 5, S (yx ++ [115, 101, 99, 114, 101, 116]), .slice ya yt.length yc] 34)
            have HL8 := Lib.hid (HL7.out.below ha)
            have HB8 := Lib.hid (btr HB7.out ha HL7.out.size)
            clear ha
            go_wp2_with fail
            go_roundw
            case rel => exact ⟨n + 1, sn, tq, by go_num, hlt2, by omega, HL8.out, Nat.le_trans HFT.out (by omega), HB8.out⟩
            case measure => simp [intOf]; omega
          · have h5' : ¬ (mk : Int) = 5 := by omega
            have h5b : ((mk : Int) == 5) = false := by simpa using h5'
            have ha := alloc_below w7 (.cells #[.int .i64 mk, S (yx ++ [115, 101, 99, 114, 101, 116]), .slice ya yt.length yc] 34)
            have HL8 := Lib.hid (HL7.out.below ha)
            have HB8 := Lib.hid (btr HB7.out ha HL7.out.size)
            have HC8 := Lib.hid (HC7.out.below ha)
            have hfit : (imageR (actR sn tq mk (yx ++ secretR) yt).1 (actR sn tq mk (yx ++ secretR) yt).2).length ≤ 600 + 100 * (n + 1) := act_fit2 sn tq mk _ yt n HFT.out HYX.out HYT.out HYL.out
            have HFIT := Lib.hid hfit
            clear ha hfit
            go_wp2_with fail
            ((with_reducible refine Calls.mono (do_L wo.heap.size _ g wo.heap.size sn tq 0 HL8.out mk (by omega) (yx ++ secretR) _ yt HC8.out (Nat.le_trans HFIT.out (by omega))) ?_); rintro e w9 ⟨rfl, hv9, hb9⟩)
            have hfit := HFIT.out
            generalize (actR sn tq mk (yx ++ secretR) yt).1 = s9 at *
            generalize (actR sn tq mk (yx ++ secretR) yt).2 = t9 at *
            have HF9 := Lib.hid hfit
            have HL9 := Lib.hid hv9
            have HB9 := Lib.hid (HB8.out.trans hb9)
            clear hfit HFIT hv9 hb9
            go_wp2_with fail
            go_roundw
            case rel => exact ⟨n + 1, s9, t9, by go_num, hlt2, by omega, HL9.out, HF9.out, HB9.out⟩
            case measure => simp [intOf]; omega
        · have hx9 := (HB.out.block _ (blk_lt HBX.out)).trans HBX.out
          have x1 := Lib.cell_of_heap hx9 1
          have x2 := Lib.cell_of_heap hx9 2
          simp at x1 x2
          have HT9 : Hid (TailAt wr (.slice ca ct.length cc) ct) := (HTL.out.kept (bkept HB.out (by have := HZR.out; omega))).mono (Nat.le_refl _) (by have h1 := HZR.out; have h2 := HB.out.size; omega)
          have HFR : Hid ((imageR tx ct).length ≤ 20000) := by
            have h1 := frames_small ct HCT.out
            have h2 := HTX.out
            have h3 := HCL.out
            show (imageR tx ct).length ≤ _
            unfold imageR
            simp only [List.length_append]
            rw [numR_small (by omega : tx.length < 128)]
            simp only [List.length_singleton]; omega
          have hy9 := (HB.out.block X (by have := HZR.out; omega)).trans HF.out.arr
          have HY9 := Lib.hid hy9
          have HL9 := HL
          clear hx9 hy9
          by_cases hlt2 : n < l.length
          all_goals
            go_wp2_with fail
            ((with_reducible refine Calls.mono (replace_L wo.heap.size wr g wo.heap.size sn tq 0 HL9.out tx _ ct HT9.out HFR.out) ?_); rintro e w9 ⟨rfl, hv9, hb9⟩)
            obtain ⟨F9, c9, hvs9, hlo9, hz9⟩ := hv9.ex
            have HVS := Lib.hid hvs9
            have HB9 := Lib.hid (HB.out.trans hb9)
            clear hv9 hb9 hvs9 hlo9 x1 x2
            go_wp2_with fail
            ((with_reducible refine Calls.mono (crash_28 F9 w9 wo.heap.size (onD c9 0) HVS.out.ds.disk [] (.slice none 0 0) (nums_nil _) (by simp) (Nat.le_trans HVS.out.ds.cl (by omega)) (fun p hp => by simp [onD] at hp) (by simp [onD])) ?_); rintro e w10 ⟨rfl, F10, hd10, hb10, _⟩)
            rw [crash_on] at hd10
            have HD10 := Lib.hid hd10
            have HB10 := Lib.hid (btr HB9.out hb10 hz9)
            have HZ10 : Hid (wo.heap.size ≤ w10.heap.size) := Nat.le_trans hz9 hb10.size
            clear hd10 hb10 hz9
            go_wp2_with fail
            have hco := contents_18 F10 w10 w9.heap.size (onD c9 0) HD10.out (Nat.le_trans HVS.out.ds.cl (by omega))
            rw [show (onD c9 0).now = c9 from rfl, HVS.out.ds.clean.trim, ← HTT.out] at hco
            ((with_reducible refine Calls.mono hco ?_); rintro e w11 ⟨rfl, hb11⟩)
            have HB11 := Lib.hid (btr HB10.out hb11 HZ10.out)
            have hy11 := (HB11.out.block X (by have := HZR.out; omega)).trans HF.out.arr
            have HY11 := Lib.hid hy11
            have y0 : w11.cell? ⟨X, k, none⟩ = some (S (if k = 0 then c0 else c1)) := by
              have h01 : k = 0 ∨ k = 1 := by omega
              rcases h01 with rfl | rfl
              · exact Lib.cell_of_heap hy11 0
              · exact Lib.cell_of_heap hy11 1
            have fy := Lib.frozen_of_heap hy11 k
            clear hco hb11 hy11
            go_wp2_with fail
            go_roundw
            case rel =>
              have h01 : k = 0 ∨ k = 1 := by omega
              rcases h01 with rfl | rfl
              · exact ⟨1, T, c1, by go_num, by omega, HF.out.set0 HB11.out T, fun _ => rfl, fun h => absurd h (by omega)⟩
              · exact ⟨2, c0, T, by go_num, by omega, HF.out.set1 HB11.out T, fun _ => HC0.out (by omega), fun _ => rfl⟩
            case measure => simp [intOf]; omega
    · obtain rfl : k = 2 := by omega
      obtain rfl : c0 = T := HC0.out (by omega)
      obtain rfl : c1 = c0 := HC1.out rfl
      have y0 := Lib.cell_of_heap HF.out.arr 0
      have y1 := Lib.cell_of_heap HF.out.arr 1
      have x1 := Lib.cell_of_heap HBX.out 1
      have x2 := Lib.cell_of_heap HBX.out 2
      simp at x1 x2 y0 y1
      obtain ⟨J, hJ⟩ : ∃ J, J = Lib.join ct [32] := ⟨_, rfl⟩
      have hjl : J.length ≤ 400 := by have h1 := join_len ct HCT.out; have h2 := HCL.out; rw [hJ]; omega
      have htx := HTX.out
      have HJO : Hid (∀ W, Below wr.heap.size wr W → Calls Tryd.prog 31 #[.slice ca ct.length cc, S [32]] W fun e w' => e = .returned (S J) ∧ Below W.heap.size W w') := fun W hb => by
        rw [hJ]
        have hz := HZR.out
        have h1 : TailAt wr (.slice ca ct.length cc) ct := HTL.out.mono (Nat.le_refl _) (by omega)
        exact join_31 W ca cc ct (h1.below hb) HCC.out (by rw [← hJ]; omega) (by have := HCL.out; omega)
      obtain ⟨P1, hP1⟩ : ∃ P1, P1 = Lib.contains (tx ++ J) secretR := ⟨_, rfl⟩
      have HP : Hid (P1 = false → Lib.contains c1 secretR = false) := fun h => by
        rw [HTT.out]
        refine forgets_law tx ct HTX.out HCT.out ?_
        rw [← hJ, ← hP1]; exact h
      have HCN : Hid (∀ W, Below w.heap.size w W → Calls Tryd.prog 30 #[S (tx ++ J), S [115, 101, 99, 114, 101, 116]] W fun e w' => e = .returned (.bool P1) ∧ w' = W) := fun W hb => by
        rw [hP1]; exact contains_30 W (tx ++ J) secretR mm (HMM.out W hb) (by rw [List.length_append]; omega)
      have hcl : c1.length ≤ 20000 := by
        rw [HTT.out]
        have h1 := (trim_pre (cleanR tx ct)).length_le
        have h2 := frames_small ct HCT.out
        have h3 := HCL.out
        have h4 : (cleanR tx ct).length ≤ 20000 := by
          unfold cleanR imageR
          simp only [List.length_append, zeros_len]
          rw [numR_small (by omega : tx.length < 128)]
          simp only [List.length_singleton]; omega
        omega
      have HCT2 : Hid (∀ W, Below w.heap.size w W → Calls Tryd.prog 30 #[S c1, S [115, 101, 99, 114, 101, 116]] W fun e w' => e = .returned (.bool (Lib.contains c1 secretR)) ∧ w' = W) := fun W hb => contains_30 W c1 secretR mm (HMM.out W hb) (by omega)
      have sJ : ¬ 9223372036854775807 < tx.length + J.length := by omega
      clear hP1 hJ hcl htx hjl
      have HSS : Hid (∀ W, Below wr.heap.size wr W → W.cell? ⟨X, 0, none⟩ = some (S c1) ∧ W.cell? ⟨X, 1, none⟩ = some (S c1) ∧ W.cell? ⟨w.heap.size, 1, none⟩ = some (S tx) ∧ W.cell? ⟨w.heap.size, 2, none⟩ = some (.slice ca ct.length cc)) := fun W hb => by
        have h1 := (hb.block X (blk_lt HF.out.arr)).trans HF.out.arr
        have h2 := (hb.block w.heap.size (blk_lt HBX.out)).trans HBX.out
        exact ⟨Lib.cell_of_heap h1 0, Lib.cell_of_heap h1 1, Lib.cell_of_heap h2 1, Lib.cell_of_heap h2 2⟩
      obtain ⟨v0, hv0⟩ : ∃ v0, wr.drew = v0 := ⟨_, rfl⟩
      have HB0 : Hid (Below wr.heap.size wr v0) := by rw [← hv0]; exact (Below.refl _ wr).drew
      have hs0 := HSS.out _ HB0.out
      clear x1 x2 y0 y1
      cases P1 with
      | true =>
        go_wp2_with fail
        refine wp_region_T (fun W => W.cell? ⟨X, 0, none⟩ = some (S c1) ∧ W.cell? ⟨X, 1, none⟩ = some (S c1) ∧ W.cell? ⟨w.heap.size, 1, none⟩ = some (S tx) ∧ W.cell? ⟨w.heap.size, 2, none⟩ = some (.slice ca ct.length cc)) 23 (by kernel_rfl) ?_
        rw [hv0]
        clear hv0
        refine anyT_take (i := 0) (v := ?_) rfl (by kernel_rfl) (by kernel_rfl) (by kernel_rfl) (by kernel_rfl) (by decide) (fun _ _ _ h => h) hs0 (Or.inl ⟨by rfl, ?_⟩) ?_
        rotate_left
        · intro w' h; obtain ⟨h0, h1, h2, h3⟩ := h; go_simp; rfl
        (try go_simp)
        refine anyT_take (i := 1) (v := ?_) rfl (by kernel_rfl) (by kernel_rfl) (by kernel_rfl) (by kernel_rfl) (by decide) (fun _ _ _ h => h) hs0 (Or.inl ⟨by rfl, ?_⟩) ?_
        rotate_left
        · intro w' h; obtain ⟨h0, h1, h2, h3⟩ := h; go_simp; rfl
        (try go_simp)
        refine anyT_take (i := 2) (v := ?_) rfl (by kernel_rfl) (by kernel_rfl) (by kernel_rfl) (by kernel_rfl) (by decide) (fun _ _ _ h => h) hs0 (Or.inl ⟨by rfl, ?_⟩) ?_
        rotate_left
        · intro w' h; obtain ⟨h0, h1, h2, h3⟩ := h; go_simp; rfl
        (try go_simp)
        refine anyT_take (i := 3) (v := ?_) rfl (by kernel_rfl) (by kernel_rfl) (by kernel_rfl) (by kernel_rfl) (by decide) (fun _ _ _ h => h) hs0 (Or.inl ⟨by rfl, ?_⟩) ?_
        rotate_left
        · intro w' h; obtain ⟨h0, h1, h2, h3⟩ := h; go_simp; rfl
        (try go_simp)
        refine anyT_take (i := 4) (v := ?_) rfl (by kernel_rfl) (by kernel_rfl) (by kernel_rfl) (by kernel_rfl) (by decide) (fun _ _ _ h => h) hs0 (Or.inl ⟨by rfl, ?_⟩) ?_
        rotate_left
        · intro w' h; obtain ⟨h0, h1, h2, h3⟩ := h; go_simp; rfl
        (try go_simp)
        refine anyT_take (i := 5) (v := ?_) rfl (by kernel_rfl) (by kernel_rfl) (by kernel_rfl) (by kernel_rfl) (by decide) (fun _ _ _ h => h) hs0 (Or.inl ⟨by rfl, ?_⟩) ?_
        rotate_left
        · intro w' h; obtain ⟨h0, h1, h2, h3⟩ := h; go_simp; rfl
        (try go_simp)
        refine anyT_take (i := 6) (v := ?_) rfl (by kernel_rfl) (by kernel_rfl) (by kernel_rfl) (by kernel_rfl) (by decide) (fun _ _ _ h => h) hs0 (Or.inl ⟨by rfl, ?_⟩) ?_
        rotate_left
        · intro w' h; obtain ⟨h0, h1, h2, h3⟩ := h; go_simp; rfl
        (try go_simp)
        refine anyT_take (i := 7) (v := ?_) rfl (by kernel_rfl) (by kernel_rfl) (by kernel_rfl) (by kernel_rfl) (by decide) (fun _ _ _ h => h) hs0 (Or.inl ⟨by rfl, ?_⟩) ?_
        rotate_left
        · intro w' h; obtain ⟨h0, h1, h2, h3⟩ := h; go_simp; rfl
        (try go_simp)
        refine anyT_take (i := 8) (v := ?_) rfl (by kernel_rfl) (by kernel_rfl) (by kernel_rfl) (by kernel_rfl) (by decide) (fun _ _ _ h => h) hs0 (Or.inl ⟨by rfl, ?_⟩) ?_
        rotate_left
        · intro w' h; obtain ⟨h0, h1, h2, h3⟩ := h; go_simp; rfl
        (try go_simp)
        refine anyT_take (i := 9) (v := ?_) rfl (by kernel_rfl) (by kernel_rfl) (by kernel_rfl) (by kernel_rfl) (by decide) (fun _ _ _ h => h) hs0 (Or.inl ⟨by rfl, ?_⟩) ?_
        rotate_left
        · intro w' h; obtain ⟨h0, h1, h2, h3⟩ := h; go_simp; rfl
        (try go_simp)
        refine anyT_take (i := 10) (v := ?_) rfl (by kernel_rfl) (by kernel_rfl) (by kernel_rfl) (by kernel_rfl) (by decide) (fun _ _ _ h => h) hs0 (Or.inl ⟨by rfl, ?_⟩) ?_
        rotate_left
        · intro w' h; obtain ⟨h0, h1, h2, h3⟩ := h; go_simp; rfl
        (try go_simp)
        refine anyT_take (i := 11) (v := ?_) rfl (by kernel_rfl) (by kernel_rfl) (by kernel_rfl) (by kernel_rfl) (by decide) (fun _ _ _ h => h) hs0 (Or.inl ⟨by rfl, ?_⟩) ?_
        rotate_left
        · intro w' h; obtain ⟨h0, h1, h2, h3⟩ := h; go_simp; rfl
        (try go_simp)
        refine anyT_take (i := 12) (v := ?_) rfl (by kernel_rfl) (by kernel_rfl) (by kernel_rfl) (by kernel_rfl) (by decide) (fun _ _ _ h => h) hs0 (Or.inl ⟨by rfl, ?_⟩) ?_
        rotate_left
        · intro w' h; obtain ⟨h0, h1, h2, h3⟩ := h; go_simp; rfl
        (try go_simp)
        refine anyT_doG (i := 13) rfl (by kernel_rfl) (by rfl) (fun K hK => ?_)
        go_simp
        (go_at_call 31; ((with_reducible refine Calls.mono (HJO.out _ HB0.out) ?_); rintro e v1 ⟨rfl, hb1⟩))
        have HB1 := Lib.hid (btr HB0.out hb1 HB0.out.size)
        have HW1 := Lib.hid (btr HBR.out HB1.out HBR.out.size)
        have hs1 := HSS.out _ HB1.out
        clear hb1
        refine hK _ _ (fun _ => hs1) ?_
        clear hK K
        (try go_simp)
        refine anyT_take (i := 14) (v := ?_) rfl (by kernel_rfl) (by kernel_rfl) (by kernel_rfl) (by kernel_rfl) (by decide) (fun _ _ _ h => h) hs1 (Or.inl ⟨by rfl, ?_⟩) ?_
        rotate_left
        · intro w' h; obtain ⟨h0, h1, h2, h3⟩ := h; go_simp; rfl
        (try go_simp)
        refine anyT_doG (i := 15) rfl (by kernel_rfl) (by rfl) (fun K hK => ?_)
        go_simp
        (go_at_call 30; ((with_reducible refine Calls.mono (HCN.out _ HW1.out) ?_); rintro e v2 ⟨rfl, hw⟩; have hw := hw.symm; subst hw))
        refine hK _ _ (fun _ => hs1) ?_
        clear hK K
        (try go_simp)
        refine anyT_take (i := 16) (v := ?_) rfl (by kernel_rfl) (by kernel_rfl) (by kernel_rfl) (by kernel_rfl) (by decide) (fun _ _ _ h => h) hs1 (Or.inl ⟨by rfl, ?_⟩) ?_
        rotate_left
        · intro w' h; obtain ⟨h0, h1, h2, h3⟩ := h; go_simp; rfl
        (try go_simp)
        refine anyT_take (i := 17) (v := undef) rfl (by kernel_rfl) (by kernel_rfl) (by kernel_rfl) (by kernel_rfl) (by decide) (fun _ _ _ h => h) hs1 (Or.inr ⟨by rfl, rfl⟩) ?_
        (try go_simp)
        refine anyT_take (i := 18) (v := undef) rfl (by kernel_rfl) (by kernel_rfl) (by kernel_rfl) (by kernel_rfl) (by decide) (fun _ _ _ h => h) hs1 (Or.inr ⟨by rfl, rfl⟩) ?_
        (try go_simp)
        refine anyT_take (i := 19) (v := undef) rfl (by kernel_rfl) (by kernel_rfl) (by kernel_rfl) (by kernel_rfl) (by decide) (fun _ _ _ h => h) hs1 (Or.inr ⟨by rfl, rfl⟩) ?_
        (try go_simp)
        refine anyT_take (i := 20) (v := undef) rfl (by kernel_rfl) (by kernel_rfl) (by kernel_rfl) (by kernel_rfl) (by decide) (fun _ _ _ h => h) hs1 (Or.inr ⟨by rfl, rfl⟩) ?_
        (try go_simp)
        refine anyT_take (i := 21) (v := ?_) rfl (by kernel_rfl) (by kernel_rfl) (by kernel_rfl) (by kernel_rfl) (by decide) (fun _ _ _ h => h) hs1 (Or.inl ⟨by rfl, ?_⟩) ?_
        rotate_left
        · intro w' h; obtain ⟨h0, h1, h2, h3⟩ := h; go_simp; rfl
        (try go_simp)
        refine anyT_take (i := 22) (v := ?_) rfl (by kernel_rfl) (by kernel_rfl) (by kernel_rfl) (by kernel_rfl) (by decide) (fun _ _ _ h => h) hs1 (Or.inl ⟨by rfl, ?_⟩) ?_
        rotate_left
        · intro w' h; obtain ⟨h0, h1, h2, h3⟩ := h; go_simp; rfl
        (try go_simp)
        refine anyT_do (i := 23) rfl (by kernel_rfl) rfl (fun K hK => ?_)
        go_simp
        refine hK _ _ (fun h => absurd rfl h) ?_
        clear hK K
        refine anyT_done (by kernel_rfl) ?_ _
        go_wp2_with fail
        go_ret
        exact ⟨rfl, HW1.out⟩
      | false =>
        have hp2 := HP.out rfl
        rw [hp2] at HCT2
        go_wp2_with fail
        refine wp_region_T (fun W => W.cell? ⟨X, 0, none⟩ = some (S c1) ∧ W.cell? ⟨X, 1, none⟩ = some (S c1) ∧ W.cell? ⟨w.heap.size, 1, none⟩ = some (S tx) ∧ W.cell? ⟨w.heap.size, 2, none⟩ = some (.slice ca ct.length cc)) 23 (by kernel_rfl) ?_
        rw [hv0]
        clear hv0
        refine anyT_take (i := 0) (v := ?_) rfl (by kernel_rfl) (by kernel_rfl) (by kernel_rfl) (by kernel_rfl) (by decide) (fun _ _ _ h => h) hs0 (Or.inl ⟨by rfl, ?_⟩) ?_
        rotate_left
        · intro w' h; obtain ⟨h0, h1, h2, h3⟩ := h; go_simp; rfl
        (try go_simp)
        refine anyT_take (i := 1) (v := ?_) rfl (by kernel_rfl) (by kernel_rfl) (by kernel_rfl) (by kernel_rfl) (by decide) (fun _ _ _ h => h) hs0 (Or.inl ⟨by rfl, ?_⟩) ?_
        rotate_left
        · intro w' h; obtain ⟨h0, h1, h2, h3⟩ := h; go_simp; rfl
        (try go_simp)
        refine anyT_take (i := 2) (v := ?_) rfl (by kernel_rfl) (by kernel_rfl) (by kernel_rfl) (by kernel_rfl) (by decide) (fun _ _ _ h => h) hs0 (Or.inl ⟨by rfl, ?_⟩) ?_
        rotate_left
        · intro w' h; obtain ⟨h0, h1, h2, h3⟩ := h; go_simp; rfl
        (try go_simp)
        refine anyT_take (i := 3) (v := ?_) rfl (by kernel_rfl) (by kernel_rfl) (by kernel_rfl) (by kernel_rfl) (by decide) (fun _ _ _ h => h) hs0 (Or.inl ⟨by rfl, ?_⟩) ?_
        rotate_left
        · intro w' h; obtain ⟨h0, h1, h2, h3⟩ := h; go_simp; rfl
        (try go_simp)
        refine anyT_take (i := 4) (v := ?_) rfl (by kernel_rfl) (by kernel_rfl) (by kernel_rfl) (by kernel_rfl) (by decide) (fun _ _ _ h => h) hs0 (Or.inl ⟨by rfl, ?_⟩) ?_
        rotate_left
        · intro w' h; obtain ⟨h0, h1, h2, h3⟩ := h; go_simp; rfl
        (try go_simp)
        refine anyT_take (i := 5) (v := ?_) rfl (by kernel_rfl) (by kernel_rfl) (by kernel_rfl) (by kernel_rfl) (by decide) (fun _ _ _ h => h) hs0 (Or.inl ⟨by rfl, ?_⟩) ?_
        rotate_left
        · intro w' h; obtain ⟨h0, h1, h2, h3⟩ := h; go_simp; rfl
        (try go_simp)
        refine anyT_take (i := 6) (v := ?_) rfl (by kernel_rfl) (by kernel_rfl) (by kernel_rfl) (by kernel_rfl) (by decide) (fun _ _ _ h => h) hs0 (Or.inl ⟨by rfl, ?_⟩) ?_
        rotate_left
        · intro w' h; obtain ⟨h0, h1, h2, h3⟩ := h; go_simp; rfl
        (try go_simp)
        refine anyT_take (i := 7) (v := ?_) rfl (by kernel_rfl) (by kernel_rfl) (by kernel_rfl) (by kernel_rfl) (by decide) (fun _ _ _ h => h) hs0 (Or.inl ⟨by rfl, ?_⟩) ?_
        rotate_left
        · intro w' h; obtain ⟨h0, h1, h2, h3⟩ := h; go_simp; rfl
        (try go_simp)
        refine anyT_take (i := 8) (v := ?_) rfl (by kernel_rfl) (by kernel_rfl) (by kernel_rfl) (by kernel_rfl) (by decide) (fun _ _ _ h => h) hs0 (Or.inl ⟨by rfl, ?_⟩) ?_
        rotate_left
        · intro w' h; obtain ⟨h0, h1, h2, h3⟩ := h; go_simp; rfl
        (try go_simp)
        refine anyT_take (i := 9) (v := ?_) rfl (by kernel_rfl) (by kernel_rfl) (by kernel_rfl) (by kernel_rfl) (by decide) (fun _ _ _ h => h) hs0 (Or.inl ⟨by rfl, ?_⟩) ?_
        rotate_left
        · intro w' h; obtain ⟨h0, h1, h2, h3⟩ := h; go_simp; rfl
        (try go_simp)
        refine anyT_take (i := 10) (v := ?_) rfl (by kernel_rfl) (by kernel_rfl) (by kernel_rfl) (by kernel_rfl) (by decide) (fun _ _ _ h => h) hs0 (Or.inl ⟨by rfl, ?_⟩) ?_
        rotate_left
        · intro w' h; obtain ⟨h0, h1, h2, h3⟩ := h; go_simp; rfl
        (try go_simp)
        refine anyT_take (i := 11) (v := ?_) rfl (by kernel_rfl) (by kernel_rfl) (by kernel_rfl) (by kernel_rfl) (by decide) (fun _ _ _ h => h) hs0 (Or.inl ⟨by rfl, ?_⟩) ?_
        rotate_left
        · intro w' h; obtain ⟨h0, h1, h2, h3⟩ := h; go_simp; rfl
        (try go_simp)
        refine anyT_take (i := 12) (v := ?_) rfl (by kernel_rfl) (by kernel_rfl) (by kernel_rfl) (by kernel_rfl) (by decide) (fun _ _ _ h => h) hs0 (Or.inl ⟨by rfl, ?_⟩) ?_
        rotate_left
        · intro w' h; obtain ⟨h0, h1, h2, h3⟩ := h; go_simp; rfl
        (try go_simp)
        refine anyT_doG (i := 13) rfl (by kernel_rfl) (by rfl) (fun K hK => ?_)
        go_simp
        (go_at_call 31; ((with_reducible refine Calls.mono (HJO.out _ HB0.out) ?_); rintro e v1 ⟨rfl, hb1⟩))
        have HB1 := Lib.hid (btr HB0.out hb1 HB0.out.size)
        have HW1 := Lib.hid (btr HBR.out HB1.out HBR.out.size)
        have hs1 := HSS.out _ HB1.out
        clear hb1
        refine hK _ _ (fun _ => hs1) ?_
        clear hK K
        (try go_simp)
        refine anyT_take (i := 14) (v := ?_) rfl (by kernel_rfl) (by kernel_rfl) (by kernel_rfl) (by kernel_rfl) (by decide) (fun _ _ _ h => h) hs1 (Or.inl ⟨by rfl, ?_⟩) ?_
        rotate_left
        · intro w' h; obtain ⟨h0, h1, h2, h3⟩ := h; go_simp; rfl
        (try go_simp)
        refine anyT_doG (i := 15) rfl (by kernel_rfl) (by rfl) (fun K hK => ?_)
        go_simp
        (go_at_call 30; ((with_reducible refine Calls.mono (HCN.out _ HW1.out) ?_); rintro e v2 ⟨rfl, hw⟩; have hw := hw.symm; subst hw))
        refine hK _ _ (fun _ => hs1) ?_
        clear hK K
        (try go_simp)
        refine anyT_take (i := 16) (v := ?_) rfl (by kernel_rfl) (by kernel_rfl) (by kernel_rfl) (by kernel_rfl) (by decide) (fun _ _ _ h => h) hs1 (Or.inl ⟨by rfl, ?_⟩) ?_
        rotate_left
        · intro w' h; obtain ⟨h0, h1, h2, h3⟩ := h; go_simp; rfl
        (try go_simp)
        refine anyT_take (i := 17) (v := ?_) rfl (by kernel_rfl) (by kernel_rfl) (by kernel_rfl) (by kernel_rfl) (by decide) (fun _ _ _ h => h) hs1 (Or.inl ⟨by rfl, ?_⟩) ?_
        rotate_left
        · intro w' h; obtain ⟨h0, h1, h2, h3⟩ := h; go_simp; rfl
        (try go_simp)
        refine anyT_take (i := 18) (v := ?_) rfl (by kernel_rfl) (by kernel_rfl) (by kernel_rfl) (by kernel_rfl) (by decide) (fun _ _ _ h => h) hs1 (Or.inl ⟨by rfl, ?_⟩) ?_
        rotate_left
        · intro w' h; obtain ⟨h0, h1, h2, h3⟩ := h; go_simp; rfl
        (try go_simp)
        refine anyT_doG (i := 19) rfl (by kernel_rfl) (by rfl) (fun K hK => ?_)
        go_simp
        (go_at_call 30; ((with_reducible refine Calls.mono (HCT2.out _ HW1.out) ?_); rintro e v2 ⟨rfl, hw⟩; have hw := hw.symm; subst hw))
        refine hK _ _ (fun _ => hs1) ?_
        clear hK K
        (try go_simp)
        refine anyT_take (i := 20) (v := ?_) rfl (by kernel_rfl) (by kernel_rfl) (by kernel_rfl) (by kernel_rfl) (by decide) (fun _ _ _ h => h) hs1 (Or.inl ⟨by rfl, ?_⟩) ?_
        rotate_left
        · intro w' h; obtain ⟨h0, h1, h2, h3⟩ := h; go_simp; rfl
        (try go_simp)
        refine anyT_take (i := 21) (v := ?_) rfl (by kernel_rfl) (by kernel_rfl) (by kernel_rfl) (by kernel_rfl) (by decide) (fun _ _ _ h => h) hs1 (Or.inl ⟨by rfl, ?_⟩) ?_
        rotate_left
        · intro w' h; obtain ⟨h0, h1, h2, h3⟩ := h; go_simp; rfl
        (try go_simp)
        refine anyT_take (i := 22) (v := ?_) rfl (by kernel_rfl) (by kernel_rfl) (by kernel_rfl) (by kernel_rfl) (by decide) (fun _ _ _ h => h) hs1 (Or.inl ⟨by rfl, ?_⟩) ?_
        rotate_left
        · intro w' h; obtain ⟨h0, h1, h2, h3⟩ := h; go_simp; rfl
        (try go_simp)
        refine anyT_do (i := 23) rfl (by kernel_rfl) rfl (fun K hK => ?_)
        go_simp
        refine hK _ _ (fun h => absurd rfl h) ?_
        clear hK K
        refine anyT_done (by kernel_rfl) ?_ _
        go_wp2_with fail
        go_ret
        exact ⟨rfl, HW1.out⟩
end Go.Proofs.YtgdkdihedgiegaaDoor
