/-
  The walk of decode: what it returns, and how it fails.
-/
import Derived.Test.YtpkacoknpedolaaDoorB5
import Derived.Test.YtpkacoknpedolaaDoorB5t
namespace Go.Proofs.YtpkacoknpedolaaDoor
open Go.RowKit Go.Maps

/-- How decode ends. -/
def DecPost (r : Except (Nat × Int) DS) (w : World) (e : Ending) (w' : World) : Prop :=
  Below w.heap.size w w' ∧ match r with
    | .error (k, x) => e = failV k x
    | .ok d => if d.held = [] then e = .returned (S d.out) else e = failV d.first 10
theorem decPost_err {r : Except (Nat × Int) DS} {w w' : World} {e : Ending} {k : Nat} {x : Int} (hr : r = .error (k, x)) (he : e = failV k x) (hb : Below w.heap.size w w') : DecPost r w e w' := by
  subst hr; exact ⟨hb, he⟩
theorem decPost_ok {r : Except (Nat × Int) DS} {w w' : World} {e : Ending} {d : DS} (hr : r = .ok d) (hh : d.held = []) (he : e = .returned (S d.out)) (hb : Below w.heap.size w w') : DecPost r w e w' := by
  subst hr; exact ⟨hb, by show if _ then _ else _; rw [if_pos hh]; exact he⟩
theorem decPost_held {r : Except (Nat × Int) DS} {w w' : World} {e : Ending} {d : DS} (hr : r = .ok d) (hh : d.held ≠ []) (he : e = failV d.first 10) (hb : Below w.heap.size w w') : DecPost r w e w' := by
  subst hr; exact ⟨hb, by show if _ then _ else _; rw [if_neg hh]; exact he⟩
theorem decGo_end (l : Bs) (k : Nat) (hk : l.length ≤ k) (d : DS) : ∀ fu, decGo fu l k d = .ok d := by
  intro fu
  cases fu with
  | zero => rfl
  | succ f => rw [decGo, if_neg (by omega)]
theorem decGo_step (l : Bs) (k fu : Nat) (hk : k < l.length) (hf : l.length ≤ k + fu) (d : DS) : ∃ f', l.length ≤ k + 1 + f' ∧ (∀ e, decStep l k d = .error e → decGo fu l k d = .error e) ∧ ∀ d' k', decStep l k d = .ok (d', k') → decGo fu l k d = decGo f' l k' d' := by
  cases fu with
  | zero => omega
  | succ f => exact ⟨f, by omega, fun e h => by rw [decGo, if_pos hk, h], fun d' k' h => by rw [decGo, if_pos hk, h]⟩
theorem opened_len {r : Bs} {n : Nat} (h : openedR r = .ok n) : 2 ≤ r.length := by
  cases r with
  | nil => exact absurd h (by simp [openedR])
  | cons a r => cases r with
    | nil => (by_cases e : a = 40) <;> simp [openedR, e] at h
    | cons b r => simp
theorem dims_at {B N Z bs : Nat} {w : World} {x y : Value} (hn : B + 1 < N) (hz : N < Z) (hs : bs < N) (h0 : w.heap[B]? = some (.cells #[x, y] 47 (0, 0))) (h1 : w.heap[B + 1]? = some (.cells #[x, y] 47 (0, 0))) (hx : ∀ n, x ≠ .int .u8 n) (h : SetsAt w (.slice (some ⟨bs, 0, none⟩) 3 3)) : Dims B N Z bs := by
  obtain ⟨b, m0, m1, m2, n0, n1, n2, hv, hlt, ⟨c0, _⟩, _⟩ := h
  injection hv with hv _ _
  injection hv with hv
  injection hv with hv
  subst hv
  refine ⟨hn, hz, hs, fun e => ?_, fun e => ?_⟩
  · subst e; rw [Lib.cell_of_heap h0] at c0; injection c0 with c0; exact hx _ c0
  · subst e; rw [Lib.cell_of_heap h1] at c0; injection c0 with c0; exact hx _ c0
abbrev newBld : Obj := Obj.cells #[.pointer none, .slice none 0 0] 47
theorem bld_laid {w : World} {b Z : Nat} (h : w.heap[b]? = some newBld) (hb : b < Z) : Bld (47, []) Z b none [] w :=
  ⟨hb, .inl rfl, .pointer none, .slice none 0 0, h, .inl rfl, World.ownsRow_nil _ _ _ _, rfl, fun _ => rfl⟩
theorem decSt_new {w w1 w2 w3 : World} {bs m0 n0 mu nu mm nm : Nat} (hb1 : Below ((w.alloc newBld).alloc newBld).heap.size ((w.alloc newBld).alloc newBld) w1) (hb2 : Below w1.heap.size w1 w2) (hb3 : Below w2.heap.size w2 w3)
    (hs : SetsAt w1 (.slice (some ⟨bs, 0, none⟩) 3 3)) (M0 : MapB w1 m0 n0 (tabF (setT 0))) (hmu : MapB w2 mu nu (tabF uppersT)) (hmm : MapB w3 mm nm (tabF marksT)) :
    DecSt w.heap.size w3.heap.size (w3.heap.size + 1) bs mu mm w (w3.alloc (Obj.cells #[.int .u8 66, .map (some m0)] 53)) ⟨[], [], 0, 0⟩ ∧ Dims w.heap.size w3.heap.size (w3.heap.size + 1) bs := by
  have hz0 : ((w.alloc newBld).alloc newBld).heap.size = w.heap.size + 2 := by simp
  have hA1 : ((w.alloc newBld).alloc newBld).heap[w.heap.size + 1]? = some newBld := by
    have := Array.getElem?_push_size (xs := (w.alloc newBld).heap) (x := newBld)
    rw [show (w.alloc newBld).heap.size = w.heap.size + 1 by simp] at this
    exact this
  have hA0 : ((w.alloc newBld).alloc newBld).heap[w.heap.size]? = some newBld := by
    rw [(alloc_below1 (w.alloc newBld) newBld).block _ (by simp)]
    exact Array.getElem?_push_size
  have h1 := hb1.size
  have h2 := hb2.size
  have h3 := hb3.size
  have hb23 := btr hb2 hb3 h2
  have hb13 := btr hb1 hb23 h1
  have h4 := alloc_below1 w3 (Obj.cells #[.int .u8 66, .map (some m0)] 53)
  have hs3 : SetsAt w3 (.slice (some ⟨bs, 0, none⟩) 3 3) := by
    have hlt : bs < w1.heap.size := by obtain ⟨b, _, _, _, _, _, _, hv, hlt, _⟩ := hs; cases hv; exact hlt
    exact hs.maps hb23.size (hb23.block _ hlt) (MapsKept.below hb23)
  have hlt : bs < w3.heap.size := by obtain ⟨b, _, _, _, _, _, _, hv, hlt, _⟩ := hs3; cases hv; exact hlt
  have k0 : w3.heap[w.heap.size]? = some newBld := by rw [hb13.block _ (by omega)]; exact hA0
  have k1 : w3.heap[w.heap.size + 1]? = some newBld := by rw [hb13.block _ (by omega)]; exact hA1
  refine ⟨⟨⟨?_, by simp, ⟨hs3.maps h4.size (h4.block _ hlt) (MapsKept.below h4), ⟨nu, (hmu.below hb3).below h4⟩, ⟨nm, hmm.below h4⟩⟩, ⟨m0, n0, Array.getElem?_push_size, (M0.below hb23).below h4⟩⟩, ⟨none, none, bld_laid ?_ (by omega), bld_laid ?_ (by omega), fun _ e => by cases e⟩⟩, dims_at (by omega) (by omega) hlt k0 k1 (fun _ e => by cases e) hs3⟩
  · exact btr (btr ((alloc_below1 w newBld).trans ((alloc_below1 _ newBld).mono (by simp))) hb13 (by omega)) h4 (by omega)
  · rw [h4.block _ (by omega)]; exact k0
  · rw [h4.block _ (by omega)]; exact k1
theorem decStep_some {l : Bs} {k : Nat} {d : DS} {b : UInt8} (hb : l.getD k 0 = b) (hc : ¬ b.toNat < 32) (hm : none = look marksT b.toNat) {c : Nat} (hq : (if b.toNat < 128 then look (setT d.now) b.toNat else look uppersT b.toNat) = some c) :
    decStep l k d = .ok ({ d with out := d.out ++ enc c ++ d.held, held := [] }, k + 1) := by
  unfold decStep; simp only [hb]; rw [if_neg hc, ← hm]; simp only; rw [hq]
theorem decStep_none {l : Bs} {k : Nat} {d : DS} {b : UInt8} (hb : l.getD k 0 = b) (hc : ¬ b.toNat < 32) (hm : none = look marksT b.toNat) (hq : (if b.toNat < 128 then look (setT d.now) b.toNat else look uppersT b.toNat) = none) :
    decStep l k d = .error (k, 15) := by
  unfold decStep; simp only [hb]; rw [if_neg hc, ← hm]; simp only; rw [hq]
/-- The states of decoding have texts that memory can hold. -/
def DecFits (l : Bs) : Prop := ∃ P : Nat → DS → Prop, P 0 ⟨[], [], 0, 0⟩ ∧ (∀ k d, k < l.length → P k d → d.out.length + d.held.length ≤ 140737488354000) ∧ (∀ k d, P k d → d.out.length ≤ 140737488354000) ∧ ∀ k d d' k', k < l.length → P k d → decStep l k d = .ok (d', k') → P k' d'
theorem decStep_len {l : Bs} {k : Nat} {d d' : DS} {k' : Nat} (hk : k < l.length) (h : decStep l k d = .ok (d', k')) : d'.out.length + d'.held.length ≤ d.out.length + d.held.length + 4 ∧ k < k' ∧ k' ≤ l.length := by
  unfold decStep at h
  simp only at h
  split at h
  · split at h
    · cases h
    · split at h
      · injection h with h; injection h with h1 h2; subst h1 h2; simp; omega
      · split at h
        · cases h
        · rename_i hop
          have := opened_len hop
          simp at this
          injection h with h; injection h with h1 h2; subst h1 h2; simp; omega
  · split at h
    · rename_i m _
      have := (enc_le m).2
      injection h with h; injection h with h1 h2; subst h1 h2; simp; omega
    · split at h
      · rename_i c _
        have := (enc_le c).2
        injection h with h; injection h with h1 h2; subst h1 h2; simp; omega
      · cases h
theorem fits_small (l : Bs) (h : l.length ≤ 1000000) : DecFits l :=
  ⟨fun k d => d.out.length + d.held.length ≤ 4 * k ∧ k ≤ l.length, by simp, fun k d hk h1 => by omega, fun k d h1 => by omega, fun k d d' k' hk h1 hs => by have := decStep_len hk hs; omega⟩
set_option maxHeartbeats 8000000 in
set_option maxRecDepth 100000 in
theorem decode_16 (l : Bs) (hl : l.length ≤ 140737488355000) (w : World) (hT : Tabs w) (hP : DecFits l) : Calls Tryd.prog 16 #[S l] w (DecPost (decGo l.length l 0 ⟨[], [], 0, 0⟩) w) := by
  have HT := Lib.hid hT
  clear hT
  obtain ⟨P, hP0, hPb, hPo, hPs⟩ := hP
  have HP0 := Lib.hid hP0
  have HPB := Lib.hid hPb
  have HPO := Lib.hid hPo
  have HPS := Lib.hid hPs
  clear hP0 hPb hPo hPs
  go_enter Tryd.func16, Tryd.ntmps16
  go_wp2_with (first
    | (go_at_call 22; ((with_reducible refine Calls.mono (sets_at _ (HT.out.below (((Below.refl _ w).alloc (Nat.le_refl _) _).alloc (by simp) _))) ?_); rintro e w1 ⟨v, rfl, hs1, hb1⟩))
    | (go_at_call 23; ((with_reducible refine Calls.mono (uppers_23 _) ?_); rintro e w2 ⟨mu, nu, rfl, hmu, hb2, _, _⟩))
    | (go_at_call 24; ((with_reducible refine Calls.mono (marks_24 _) ?_); rintro e w3 ⟨mm, nm, rfl, hmm, hb3, _, _⟩; have HS1 := Lib.hid hs1; obtain ⟨bs, m0, m1, m2, n0, n1, n2, rfl, hlt, ⟨c0, c1, _, _, _, _⟩, M0, _, _⟩ := hs1; have g0 : w3.cell? ⟨bs, 0, none⟩ = some (.int .u8 66) := bext hb3 _ _ (bext hb2 _ _ c0); have g1 : w3.cell? ⟨bs, 1, none⟩ = some (.map (some m0)) := bext hb3 _ _ (bext hb2 _ _ c1))))
  obtain ⟨hst0, hD⟩ := decSt_new hb1 hb2 hb3 HS1.out M0 hmu hmm
  have HST0 := Lib.hid hst0
  have HD := Lib.hid hD
  clear hst0 hD
  generalize w3.alloc (Obj.cells #[.int .u8 66, .map (some m0)] 53) = w4 at *
  generalize w3.heap.size = N at *
  clear hb1 hb2 hb3 HS1 M0 hmu hmm g0 g1 c0 c1
  go_loopw [9, 10] (fun fi i wr => ∃ (k fu : Nat) (d : DS), i = .int .i64 k ∧ fi = .int .i64 d.first ∧ k ≤ l.length ∧ Hid (l.length ≤ k + fu) ∧ Hid (P k d) ∧ Hid (decGo l.length l 0 ⟨[], [], 0, 0⟩ = decGo fu l k d) ∧ Hid (DecSt w.heap.size N (N + 1) bs mu mm w wr d)) (fun _ i _ => l.length - (intOf i).toNat)
  case atStart => exact ⟨0, l.length, ⟨[], [], 0, 0⟩, rfl, rfl, Nat.zero_le _, Lib.hid (by omega), HP0, Lib.hid rfl, HST0⟩
  case round =>
    obtain ⟨k, fu, d, rfl, rfl, hk, HF, HL, HG, HS⟩ := hrel
    obtain ⟨g, h', H, H2, hne⟩ := HS.out.ex
    have HZ : N + 1 ≤ wr.heap.size := HS.out.size
    have HH := Lib.hid H
    have HH2 := Lib.hid H2
    have HNE := Lib.hid hne
    clear H H2 hne
    by_cases hlt : k < l.length
    · obtain ⟨f', hf', hse, hso⟩ := decGo_step l k fu hlt HF.out d
      have HF' := Lib.hid hf'
      have HSE := Lib.hid hse
      have HSO := Lib.hid hso
      clear hf' hse hso
      have HBK : Hid (l.getD k 0 = l[k]) := Lib.hid (by simp [hlt])
      have hb0 := u8_lt l[k]
      obtain ⟨mN, nN, hcN, hmN⟩ := HS.out.now
      have gN1 : wr.cell? ⟨N, 1, none⟩ = some (.map (some mN)) := by rw [Lib.cell_of_heap hcN]; rfl
      have gNf0 : wr.frozen? ⟨N, 0, none⟩ = false := Lib.frozen_of_heap hcN 0
      have gNf1 : wr.frozen? ⟨N, 1, none⟩ = false := Lib.frozen_of_heap hcN 1
      obtain ⟨nu1, hu1⟩ := HS.out.env.upper
      obtain ⟨nm1, hm1⟩ := HS.out.env.mark
      have hl1 := hmN.look l[k].toNat l[k].toNat_lt
      have hl2 := hu1.look l[k].toNat l[k].toNat_lt
      have hl3 := hm1.look l[k].toNat l[k].toNat_lt
      rw [tab_set] at hl1
      rw [tab_upper] at hl2
      rw [tab_mark] at hl3
      have hcN1 := hcN
      clear hcN hmN hu1 hm1
      have HLK : Hid (∃ q1 q2 q3, q1 = look (setT d.now) l[k].toNat ∧ q2 = look uppersT l[k].toNat ∧ q3 = look marksT l[k].toNat) := ⟨_, _, _, rfl, rfl, rfl⟩
      obtain ⟨q1, q2, q3, hq1, hq2, hq3⟩ := HLK.out
      clear HLK
      rw [← hq1] at hl1
      rw [← hq2] at hl2
      rw [← hq3] at hl3
      have HQ1 := Lib.hid hq1
      have HQ2 := Lib.hid hq2
      have HQ3 := Lib.hid hq3
      have HCH : Hid ((∀ c ∈ q1, Ch16 c) ∧ (∀ c ∈ q2, Ch16 c) ∧ ∀ c ∈ q3, Ch16 c) := by
        rw [hq1, hq2, hq3]; exact Lib.hid ⟨look_set16 _ _, look_upper16 _, look_mark16 _⟩
      clear hq1 hq2 hq3
      have HNOW := Lib.hid (rfl : d.now = d.now)
      have HCN := Lib.hid hcN1
      clear hcN1
      by_cases hc : l[k].toNat < 32
      · have hc1 : (l[k].toNat : Int) < 32 := by omega
        have hc2 : ¬ (128 : Int) ≤ l[k].toNat := by omega
        by_cases hh : d.held = []
        · have hh0 : d.held.length = 0 := by rw [hh]; rfl
          by_cases h27 : l[k] = 27
          · have HOP := Lib.hid (show decStep l k d = match openedR (l.drop (k + 1)) with
              | .error e => .error (k, e)
              | .ok n => .ok ({ d with now := n }, k + 3) by
                unfold decStep; simp only [HBK.out]; rw [if_pos hc, if_neg (by simp [hh]), if_neg (by simp [h27])]; cases openedR (l.drop (k + 1)) <;> rfl)
            have e27 : ((27 : UInt8).toNat : Int) = 27 := rfl
            rw [h27, e27] at hl1 hl2 hl3
            have hNz : N < wr.heap.size := by omega
            have HDC := HCN
            cases hop : openedR (l.drop (k + 1)) with
            | error x =>
              rw [hop] at HOP
              go_wp2_with (first
                | (go_at_call 26; ((with_reducible refine Calls.mono (len_26 (47, []) (N + 1) (w.heap.size + 1) h' d.held _ HH2.out) ?_); rintro e w5 ⟨rfl, rfl⟩; rw [hh0]))
                | (go_at_call_of 25 (Value.bool true); ((with_reducible refine Calls.mono (need_ok _ _ _) ?_); rintro e w6 ⟨rfl, rfl⟩))
                | (go_at_call 28; ((with_reducible refine Calls.mono (opened_28 l k _ _ hlt hl HS.out.env.sets) ?_); rintro e w6 ⟨hb6, he6⟩; rw [hop] at he6; subst he6)))
              exact ⟨rfl, decPost_err (HG.out.trans (HSE.out _ HOP.out)) rfl (HS.out.toDecB.dead HD.out hb6)⟩
            | ok n =>
              rw [hop] at HOP
              have hl3' := opened_len hop
              have hk3 : k + 3 ≤ l.length := by simp at hl3'; omega
              clear hl3'
              go_wp2_with (first
                | (go_at_call 26; ((with_reducible refine Calls.mono (len_26 (47, []) (N + 1) (w.heap.size + 1) h' d.held _ HH2.out) ?_); rintro e w5 ⟨rfl, rfl⟩; rw [hh0]))
                | (go_at_call_of 25 (Value.bool true); ((with_reducible refine Calls.mono (need_ok _ _ _) ?_); rintro e w6 ⟨rfl, rfl⟩))
                | (go_at_call 28; ((with_reducible refine Calls.mono (opened_28 l k _ _ hlt hl HS.out.env.sets) ?_); rintro e w6 ⟨hb6, he6⟩; rw [hop] at he6; obtain ⟨m6, k6, rfl, hm6⟩ := he6; have hN6 : w6.heap[N]? = _ := (hb6.block N hNz).trans HDC.out; have gf0 : w6.frozen? ⟨N, 0, none⟩ = false := Lib.frozen_of_heap hN6 0; have gf1 : w6.frozen? ⟨N, 1, none⟩ = false := Lib.frozen_of_heap hN6 1; have gc0 : w6.cell? ⟨N, 0, none⟩ = some (.int .u8 (signOf d.now)) := Lib.cell_of_heap hN6 0; have gc1 : w6.cell? ⟨N, 1, none⟩ = some (.map (some mN)) := Lib.cell_of_heap hN6 1)))
              go_roundw
              case rel => exact ⟨k + 3, f', { d with now := n }, by go_num, rfl, by omega, Lib.hid (by have := HF'.out; omega), Lib.hid (HPS.out _ _ _ _ hlt HL.out HOP.out), Lib.hid (HG.out.trans (HSO.out _ _ HOP.out)), Lib.hid (HS.out.setNow HD.out hb6 n m6 k6 hm6)⟩
              case measure => simp [intOf]; omega
          · have HOP := Lib.hid (show decStep l k d = .ok ({ d with out := d.out ++ [l[k]] }, k + 1) by
              unfold decStep; simp only [HBK.out]; rw [if_pos hc, if_neg (by simp [hh]), if_pos h27])
            have h27' : ((l[k].toNat : Int) == 27) = false := by rw [show (27 : Int) = ((27 : Nat) : Int) from rfl, u8_eq l[k] 27 (by omega)]; simpa using h27
            go_wp2_with (first
              | (go_at_call 26; ((with_reducible refine Calls.mono (len_26 (47, []) (N + 1) (w.heap.size + 1) h' d.held _ HH2.out) ?_); rintro e w5 ⟨rfl, rfl⟩; rw [hh0]))
              | (go_at_call_of 25 (Value.bool true); ((with_reducible refine Calls.mono (need_ok _ _ _) ?_); rintro e w6 ⟨rfl, rfl⟩))
              | (go_at_call 27; ((with_reducible refine Calls.mono (byte_at (47, []) (N + 1) w.heap.size g d.out l[k] _ rfl _ HH.out HZ (by have := HPB.out _ _ hlt HL.out; omega)) ?_); rintro e w6 ⟨rfl, g2, HB2, hg2, hf2⟩)))
            go_roundw
            case rel => exact ⟨k + 1, f', { d with out := d.out ++ [l[k]] }, by go_num, rfl, by omega, HF', Lib.hid (HPS.out _ _ _ _ hlt HL.out HOP.out), Lib.hid (HG.out.trans (HSO.out _ _ HOP.out)), Lib.hid (HS.out.outw HD.out HH.out HH2.out HNE.out HB2 hg2 hf2)⟩
            case measure => simp [intOf]; omega
        · have hh1 : d.held.length ≠ 0 := fun e => hh (List.length_eq_zero_iff.1 e)
          have HOP := Lib.hid (show decStep l k d = .error (k, 15) by
            unfold decStep; simp only [HBK.out]; rw [if_pos hc, if_pos hh])
          have hh2 : ((d.held.length : Int) == 0) = false := by simpa using fun e => hh (by simpa using e)
          go_wp2_with (first
            | (go_at_call 26; ((with_reducible refine Calls.mono (len_26 (47, []) (N + 1) (w.heap.size + 1) h' d.held _ HH2.out) ?_); rintro e w5 ⟨rfl, rfl⟩))
            | (go_at_call_of 25 (Value.bool false); ((with_reducible refine Calls.mono (need_bad _ _ _) ?_); rintro e w6 ⟨rfl, rfl⟩)))
          exact ⟨rfl, decPost_err (HG.out.trans (HSE.out _ HOP.out)) rfl HS.out.below⟩
      · have hc1 : ¬ (l[k].toNat : Int) < 32 := by omega
        cases q3 with
        | some m =>
          simp only [Option.getD_some, Option.isSome_some] at hl3
          have HOP := Lib.hid (show decStep l k d = .ok ({ d with first := if d.held = [] then k else d.first, held := d.held ++ enc m }, k + 1) by
            unfold decStep; simp only [HBK.out]; rw [if_neg hc, ← HQ3.out])
          obtain ⟨a1, hl1⟩ : ∃ a1 : Int × Bool, (Instr.lookup 50 (.map (some mN)) (.int .u8 l[k].toNat) true).run Tryd.prog wr = .ok (.tuple #[.int .i32 a1.1, .bool a1.2]) wr := ⟨(_, _), hl1⟩
          obtain ⟨a2, hl2⟩ : ∃ a2 : Int × Bool, (Instr.lookup 50 (.map (some mu)) (.int .u8 l[k].toNat) true).run Tryd.prog wr = .ok (.tuple #[.int .i32 a2.1, .bool a2.2]) wr := ⟨(_, _), hl2⟩
          obtain ⟨a11, a12⟩ := a1
          obtain ⟨a21, a22⟩ := a2
          simp only at hl1 hl2
          have h128 : (128 : Int) ≤ l[k].toNat ∨ ¬ (128 : Int) ≤ l[k].toNat := by omega
          by_cases hh : d.held = []
          · have hh0 : d.held.length = 0 := by rw [hh]; rfl
            rw [if_pos hh] at HOP
            rcases h128 with h128 | h128
            · skip
              go_wp2_with (first
                | (go_at_call 26; ((with_reducible refine Calls.mono (len_26 (47, []) (N + 1) (w.heap.size + 1) h' d.held _ HH2.out) ?_); rintro e w5 ⟨rfl, rfl⟩; rw [hh0]))
                | (go_at_call 29; ((with_reducible refine Calls.mono (rune_29 (47, []) (N + 1) (w.heap.size + 1) h' d.held m (HCH.out.2.2 m rfl) _ HH2.out HZ (by have := HPB.out _ _ hlt HL.out; omega)) ?_); rintro e w6 ⟨rfl, g2, HB2, hg2, hf2⟩)))
              go_roundw
              case rel => exact ⟨k + 1, f', { d with first := k, held := d.held ++ enc m }, by go_num, rfl, by omega, HF', Lib.hid (HPS.out _ _ _ _ hlt HL.out HOP.out), Lib.hid (HG.out.trans (HSO.out _ _ HOP.out)), Lib.hid ((HS.out.heldw HD.out HH.out HH2.out HNE.out HB2 hg2 hf2).first k)⟩
              case measure => simp [intOf]; omega
            · skip
              go_wp2_with (first
                | (go_at_call 26; ((with_reducible refine Calls.mono (len_26 (47, []) (N + 1) (w.heap.size + 1) h' d.held _ HH2.out) ?_); rintro e w5 ⟨rfl, rfl⟩; rw [hh0]))
                | (go_at_call 29; ((with_reducible refine Calls.mono (rune_29 (47, []) (N + 1) (w.heap.size + 1) h' d.held m (HCH.out.2.2 m rfl) _ HH2.out HZ (by have := HPB.out _ _ hlt HL.out; omega)) ?_); rintro e w6 ⟨rfl, g2, HB2, hg2, hf2⟩)))
              go_roundw
              case rel => exact ⟨k + 1, f', { d with first := k, held := d.held ++ enc m }, by go_num, rfl, by omega, HF', Lib.hid (HPS.out _ _ _ _ hlt HL.out HOP.out), Lib.hid (HG.out.trans (HSO.out _ _ HOP.out)), Lib.hid ((HS.out.heldw HD.out HH.out HH2.out HNE.out HB2 hg2 hf2).first k)⟩
              case measure => simp [intOf]; omega
          · have hh2 : ((d.held.length : Int) == 0) = false := by simpa using fun e => hh (by simpa using e)
            rw [if_neg hh] at HOP
            rcases h128 with h128 | h128
            · skip
              go_wp2_with (first
                | (go_at_call 26; ((with_reducible refine Calls.mono (len_26 (47, []) (N + 1) (w.heap.size + 1) h' d.held _ HH2.out) ?_); rintro e w5 ⟨rfl, rfl⟩))
                | (go_at_call 29; ((with_reducible refine Calls.mono (rune_29 (47, []) (N + 1) (w.heap.size + 1) h' d.held m (HCH.out.2.2 m rfl) _ HH2.out HZ (by have := HPB.out _ _ hlt HL.out; omega)) ?_); rintro e w6 ⟨rfl, g2, HB2, hg2, hf2⟩)))
              go_roundw
              case rel => exact ⟨k + 1, f', { d with first := d.first, held := d.held ++ enc m }, by go_num, rfl, by omega, HF', Lib.hid (HPS.out _ _ _ _ hlt HL.out HOP.out), Lib.hid (HG.out.trans (HSO.out _ _ HOP.out)), Lib.hid (HS.out.heldw HD.out HH.out HH2.out HNE.out HB2 hg2 hf2)⟩
              case measure => simp [intOf]; omega
            · skip
              go_wp2_with (first
                | (go_at_call 26; ((with_reducible refine Calls.mono (len_26 (47, []) (N + 1) (w.heap.size + 1) h' d.held _ HH2.out) ?_); rintro e w5 ⟨rfl, rfl⟩))
                | (go_at_call 29; ((with_reducible refine Calls.mono (rune_29 (47, []) (N + 1) (w.heap.size + 1) h' d.held m (HCH.out.2.2 m rfl) _ HH2.out HZ (by have := HPB.out _ _ hlt HL.out; omega)) ?_); rintro e w6 ⟨rfl, g2, HB2, hg2, hf2⟩)))
              go_roundw
              case rel => exact ⟨k + 1, f', { d with first := d.first, held := d.held ++ enc m }, by go_num, rfl, by omega, HF', Lib.hid (HPS.out _ _ _ _ hlt HL.out HOP.out), Lib.hid (HG.out.trans (HSO.out _ _ HOP.out)), Lib.hid (HS.out.heldw HD.out HH.out HH2.out HNE.out HB2 hg2 hf2)⟩
              case measure => simp [intOf]; omega
        | none =>
          simp only [Option.getD_none, Option.isSome_none] at hl3
          by_cases h128 : (128 : Int) ≤ l[k].toNat
          · have h128' : ¬ l[k].toNat < 128 := by omega
            obtain ⟨a1, hl1⟩ : ∃ a1 : Int × Bool, (Instr.lookup 50 (.map (some mN)) (.int .u8 l[k].toNat) true).run Tryd.prog wr = .ok (.tuple #[.int .i32 a1.1, .bool a1.2]) wr := ⟨(_, _), hl1⟩
            obtain ⟨a11, a12⟩ := a1
            simp only at hl1
            cases q2 with
            | none =>
              have HOP := Lib.hid (decStep_none (d := d) HBK.out hc HQ3.out ((if_neg h128').trans HQ2.out.symm))
              simp only [Option.getD_none, Option.isSome_none] at hl2
              go_wp2_with (first
                | (go_at_call_of 25 (Value.bool false); ((with_reducible refine Calls.mono (need_bad _ _ _) ?_); rintro e w6 ⟨rfl, rfl⟩)))
              exact ⟨rfl, decPost_err (HG.out.trans (HSE.out _ HOP.out)) rfl HS.out.below⟩
            | some c =>
              have HOP := Lib.hid (decStep_some (d := d) HBK.out hc HQ3.out ((if_neg h128').trans HQ2.out.symm))
              simp only [Option.getD_some, Option.isSome_some] at hl2
              have HC : Hid (Ch16 c) := Lib.hid (HCH.out.2.1 c rfl)
              go_wp2_with (first
                | (go_at_call_of 25 (Value.bool true); ((with_reducible refine Calls.mono (need_ok _ _ _) ?_); rintro e w6 ⟨rfl, rfl⟩))
                | (go_at_call 29; ((with_reducible refine Calls.mono (rune_29 (47, []) (N + 1) w.heap.size g d.out c HC.out _ HH.out HZ (by have := HPB.out _ _ hlt HL.out; omega)) ?_); rintro e w6 ⟨rfl, g2, HB2, hg2, hf2⟩; have HK2 := Lib.hid (bld_other HH.out HH2.out (by omega) HNE.out hf2)))
                | (go_at_call 31; ((with_reducible refine Calls.mono (string_31 (47, []) (N + 1) (w.heap.size + 1) h' d.held _ HK2.out (by have := HPB.out _ _ hlt HL.out; omega)) ?_); rintro e w7 ⟨rfl, hf3⟩; obtain ⟨HB3, hz3, p3, v3, hc3⟩ := held_out HB2 HK2.out (ne_grown HNE.out (fun k e => (HH2.out.row k e).2) hg2) hf3))
                | (go_at_call 30; ((with_reducible refine Calls.mono (write_30 (47, []) (N + 1) w.heap.size g2 (d.out ++ enc c) d.held _ HB3 (by have := hf2.size; omega) (by have := HPB.out _ _ hlt HL.out; have := (enc_le c).2; simp; omega)) ?_); rintro e w8 ⟨rfl, g4, HB4, hg4, hf4⟩; have hc4 : w8.heap[w.heap.size + 1]? = some (.cells #[p3, v3] 47 (0, 0)) := by (rw [hf4.block _ (Array.getElem?_eq_some_iff.1 hc3).1 (by omega) (fun e => by have := (HB3.row _ e.symm).1; have := HK2.out.lt; omega)]; exact hc3)))
                | (go_at_call 32; ((with_reducible refine Calls.mono (reset_32 (N + 1) (w.heap.size + 1) p3 v3 _ HK2.out.lt hc4) ?_); rintro e w9 ⟨rfl, HB5, hz5, hf5⟩)))
              go_roundw
              case rel => exact ⟨k + 1, f', { d with out := d.out ++ enc c ++ d.held, held := [] }, by go_num, rfl, by omega, HF', Lib.hid (HPS.out _ _ _ _ hlt HL.out HOP.out), Lib.hid (HG.out.trans (HSO.out _ _ HOP.out)), Lib.hid (HS.out.letter HD.out HH.out HH2.out HNE.out HB2 hg2 hf2 hf3 HB4 hf4 HB5 hf5)⟩
              case measure => simp [intOf]; omega
          · have h128' : l[k].toNat < 128 := by omega
            cases q1 with
            | none =>
              have HOP := Lib.hid (decStep_none (d := d) HBK.out hc HQ3.out ((if_pos h128').trans HQ1.out.symm))
              simp only [Option.getD_none, Option.isSome_none] at hl1
              go_wp2_with (first
                | (go_at_call_of 25 (Value.bool false); ((with_reducible refine Calls.mono (need_bad _ _ _) ?_); rintro e w6 ⟨rfl, rfl⟩)))
              exact ⟨rfl, decPost_err (HG.out.trans (HSE.out _ HOP.out)) rfl HS.out.below⟩
            | some c =>
              have HOP := Lib.hid (decStep_some (d := d) HBK.out hc HQ3.out ((if_pos h128').trans HQ1.out.symm))
              simp only [Option.getD_some, Option.isSome_some] at hl1
              have HC : Hid (Ch16 c) := Lib.hid (HCH.out.1 c rfl)
              go_wp2_with (first
                | (go_at_call_of 25 (Value.bool true); ((with_reducible refine Calls.mono (need_ok _ _ _) ?_); rintro e w6 ⟨rfl, rfl⟩))
                | (go_at_call 29; ((with_reducible refine Calls.mono (rune_29 (47, []) (N + 1) w.heap.size g d.out c HC.out _ HH.out HZ (by have := HPB.out _ _ hlt HL.out; omega)) ?_); rintro e w6 ⟨rfl, g2, HB2, hg2, hf2⟩; have HK2 := Lib.hid (bld_other HH.out HH2.out (by omega) HNE.out hf2)))
                | (go_at_call 31; ((with_reducible refine Calls.mono (string_31 (47, []) (N + 1) (w.heap.size + 1) h' d.held _ HK2.out (by have := HPB.out _ _ hlt HL.out; omega)) ?_); rintro e w7 ⟨rfl, hf3⟩; obtain ⟨HB3, hz3, p3, v3, hc3⟩ := held_out HB2 HK2.out (ne_grown HNE.out (fun k e => (HH2.out.row k e).2) hg2) hf3))
                | (go_at_call 30; ((with_reducible refine Calls.mono (write_30 (47, []) (N + 1) w.heap.size g2 (d.out ++ enc c) d.held _ HB3 (by have := hf2.size; omega) (by have := HPB.out _ _ hlt HL.out; have := (enc_le c).2; simp; omega)) ?_); rintro e w8 ⟨rfl, g4, HB4, hg4, hf4⟩; have hc4 : w8.heap[w.heap.size + 1]? = some (.cells #[p3, v3] 47 (0, 0)) := by (rw [hf4.block _ (Array.getElem?_eq_some_iff.1 hc3).1 (by omega) (fun e => by have := (HB3.row _ e.symm).1; have := HK2.out.lt; omega)]; exact hc3)))
                | (go_at_call 32; ((with_reducible refine Calls.mono (reset_32 (N + 1) (w.heap.size + 1) p3 v3 _ HK2.out.lt hc4) ?_); rintro e w9 ⟨rfl, HB5, hz5, hf5⟩)))
              go_roundw
              case rel => exact ⟨k + 1, f', { d with out := d.out ++ enc c ++ d.held, held := [] }, by go_num, rfl, by omega, HF', Lib.hid (HPS.out _ _ _ _ hlt HL.out HOP.out), Lib.hid (HG.out.trans (HSO.out _ _ HOP.out)), Lib.hid (HS.out.letter HD.out HH.out HH2.out HNE.out HB2 hg2 hf2 hf3 HB4 hf4 HB5 hf5)⟩
              case measure => simp [intOf]; omega
    · have hkl : k = l.length := by omega
      have HGE := Lib.hid (HG.out.trans (decGo_end l k (by omega) d fu))
      have HKL : Hid (l.length ≤ k) := Lib.hid (by omega)
      by_cases hh : d.held = []
      · have hh0 : d.held.length = 0 := by rw [hh]; rfl
        subst hkl
        go_wp2_with (first
          | (go_at_call 26; ((with_reducible refine Calls.mono (len_26 (47, []) (N + 1) (w.heap.size + 1) h' d.held _ HH2.out) ?_); rintro e w5 ⟨rfl, rfl⟩; rw [hh0]))
          | (go_at_call_of 25 (Value.bool true); ((with_reducible refine Calls.mono (need_ok _ _ _) ?_); rintro e w6 ⟨rfl, rfl⟩))
          | (go_at_call 31; ((with_reducible refine Calls.mono (string_31 (47, []) (N + 1) w.heap.size g d.out _ HH.out (by have := HPO.out _ _ HL.out; omega)) ?_); rintro e w7 ⟨rfl, hf3⟩)))
        go_ret
        exact decPost_ok HGE.out hh rfl (HS.out.below.trans (HH.out.fr (hf3.fr _) (Nat.le_refl _)))
      · have hh2 : ((d.held.length : Int) == 0) = false := by simpa using fun e => hh (by simpa using e)
        subst hkl
        go_wp2_with (first
          | (go_at_call 26; ((with_reducible refine Calls.mono (len_26 (47, []) (N + 1) (w.heap.size + 1) h' d.held _ HH2.out) ?_); rintro e w5 ⟨rfl, rfl⟩))
          | (go_at_call_of 25 (Value.bool false); ((with_reducible refine Calls.mono (need_bad _ _ _) ?_); rintro e w6 ⟨rfl, rfl⟩)))
        exact ⟨rfl, decPost_held HGE.out hh rfl HS.out.below⟩
end Go.Proofs.YtpkacoknpedolaaDoor
