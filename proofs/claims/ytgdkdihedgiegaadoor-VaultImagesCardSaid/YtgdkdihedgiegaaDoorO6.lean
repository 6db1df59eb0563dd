/-
  The walk of the law's opens: true for whatever contents.
-/
import Derived.Test.YtgdkdihedgiegaaDoorO5
namespace Go.Proofs.YtgdkdihedgiegaaDoor
open Go.RowKit

/-- A new disk that has been written. -/
def wroteD (c : Bs) : DiskD := ⟨c, [], chunksR 0 c, false, 0⟩
theorem put_new (c : Bs) : putR [] 0 c = c := by
  apply ext_get
  · rw [put_len]; simp
  · intro i
    rw [put_get]
    split
    · simp
    · rename_i h
      have : ¬ i < c.length := fun h2 => h ⟨Nat.zero_le _, by omega⟩
      rw [get_far c i (by omega)]
      rfl
theorem write_new (c : Bs) : writeD newD 0 c = (wroteD c, 0) := by
  unfold writeD; rw [power_on _ rfl]; simp [newD, wroteD, put_new]
theorem sync_wrote (c : Bs) : syncD (wroteD c) = (onD c 0, 0) := by
  unfold syncD; rw [power_on _ rfl]; rfl
theorem wrote_ok (c : Bs) (h : c.length ≤ 20000) : OkD (wroteD c) := ⟨by show (-1 : Int) ≤ 0; omega, by show (0 : Int) ≤ 1000; omega, fun h => absurd h (by simp [wroteD]), by show c.length ≤ _; omega⟩
theorem open_fit {c sn x : Bs} {tl : List Bs} {st : List (Nat × Bs)} (h : openR c = some (sn, tl, x, st)) (hc : c.length ≤ 20000) : (imageR sn tl).length ≤ 20000 := by
  rcases (open_clean c sn tl x st h).2.2.2 with h1 | ⟨rfl, rfl⟩
  · omega
  · rw [image_nil]; omega
/-- Open, where the contents are wrong. -/
theorem open_wrong (F : Nat → Prop) (w : World) (b : Nat) (c : Bs) (hd : DiskAt F w b (wroteD c)) (hc : c.length ≤ 20000) (ho : openR c = none) :
    Calls Tryd.prog 13 #[.pointer (some ⟨b, 0, none⟩)] w fun e w' => e = .returned (.tuple #[.pointer none, S [], .slice none 0 0, .int .i64 11]) ∧ ∃ F', DiskAt F' w' b (onD c 0) ∧ Step F w F' w' := by
  refine (open_13 F w b (wroteD c) hd (wrote_ok c hc) (by show c.length ≤ _; omega)).mono ?_
  intro e w' hp
  unfold OpenPost at hp
  rw [sync_wrote, if_pos rfl] at hp
  simp only [show (onD c 0).now = c from rfl, ho] at hp
  exact hp
theorem nilNums (w : World) : NumsAt w (.slice none 0 0) [] := ⟨none, 0, rfl, fun h => absurd rfl h⟩
set_option maxHeartbeats 4000000 in
set_option maxRecDepth 100000 in
theorem opens_24 (c : Bs) (hc : c.length ≤ 20000) (w : World) : Calls Tryd.prog 24 #[S c] w fun e w' => e = .returned (.bool true) ∧ Below w.heap.size w w' := by
  have HJ := Lib.hid (fun W => judge_49 c (by omega) W)
  cases ho : openR c with
  | none =>
    rw [ho] at HJ
    have HO := Lib.hid ho
    clear ho
    go_enter Tryd.func24, Tryd.ntmps24
    go_wp2_with fail
    ((with_reducible refine Calls.mono (HJ.out w) ?_); rintro e w1 ⟨rfl, hb1⟩)
    have HB1 := Lib.hid (btr hb1 (alloc_below w1 (.cells #[S [], .slice none 0 0] 32)) hb1.size)
    clear hb1
    go_wp2_with fail
    generalize w1.alloc (.cells #[.string ⟨#[]⟩, .slice none 0 0] 32) = w2 at *
    ((with_reducible refine Calls.mono (new_12 w2) ?_); rintro e w3 ⟨rfl, hd3, hb3, _⟩)
    have HD3 := Lib.hid hd3
    have HB3 := Lib.hid (btr HB1.out hb3 HB1.out.size)
    have HLO : Hid (∀ k, k = w2.heap.size → w.heap.size ≤ k) := fun k hk => by rw [hk]; exact HB1.out.size
    clear hd3 hb3
    go_wp2_with fail
    generalize w2.heap.size = b at *
    have HWR := Lib.hid (write_50 _ w3 b newD HD3.out ⟨by show (-1 : Int) ≤ 0; omega, by show (0 : Int) ≤ 1000; omega⟩ 0 c (by omega) (by show 0 ≤ _; omega) (by show 0 ≤ _; omega))
    rw [write_new] at HWR
    ((with_reducible refine Calls.mono HWR.out ?_); rintro e w4 ⟨rfl, F4, hd4, hs4⟩)
    have hl4 := hs4.below HLO.out HB3.out.size
    have HD4 := Lib.hid hd4
    have HB4 := Lib.hid (HB3.out.trans hl4.1)
    have HL4 := Lib.hid hl4.2
    clear hd4 hs4 hl4 HWR HD3
    go_wp2_with fail
    ((with_reducible refine Calls.mono (open_wrong F4 w4 b c HD4.out hc HO.out) ?_); rintro e w5 ⟨rfl, F5, hd5, hs5⟩)
    have HD5 := Lib.hid hd5
    have HB5 := Lib.hid (HB4.out.trans (hs5.below HL4.out HB4.out.size).1)
    clear hd5 hs5
    go_wp2_with fail
    ((with_reducible refine Calls.mono (size_34 F5 w5 b (onD c 0) HD5.out) ?_); rintro e w6 ⟨rfl, hw⟩; have hw := hw.symm; subst hw)
    go_wp2_with fail
    have HRD := Lib.hid (read_33 F5 w5 b (onD c 0) HD5.out (by show c.length ≤ _; omega))
    ((with_reducible refine Calls.mono HRD.out ?_); rintro e w6 ⟨rfl, hb6⟩)
    have HB6 := Lib.hid (btr HB5.out hb6 HB5.out.size)
    clear hb6
    rw [show (onD c 0).now = c from rfl]
    go_wp2_with fail
    go_ret
    exact ⟨rfl, HB6.out⟩
  | some r =>
    obtain ⟨sn, tl, x, st⟩ := r
    rw [ho] at HJ
    have HFT := Lib.hid (open_fit ho hc)
    have HO := Lib.hid ho
    have htl : tl.length ≤ 20000 := Nat.le_trans (tail_len sn tl) HFT.out
    have HTL := Lib.hid htl
    clear ho htl
    go_enter Tryd.func24, Tryd.ntmps24
    go_wp2_with fail
    ((with_reducible refine Calls.mono (HJ.out w) ?_); rintro e w1 ⟨⟨ja, jc, rfl, hjt⟩, hb1⟩)
    have ha := alloc_below w1 (.cells #[S sn, .slice ja tl.length jc] 32)
    have hx := heap_alloc_new w1 (.cells #[S sn, .slice ja tl.length jc] 32)
    have HB1 := Lib.hid (btr hb1 ha hb1.size)
    have HJT := Lib.hid (hjt.below ha)
    have HX := Lib.hid hx
    clear hb1 ha hjt hx
    go_wp2_with fail
    generalize hX : w1.heap.size = X at *
    clear hX
    generalize w1.alloc (.cells #[.string ⟨sn.toArray⟩, .slice ja tl.length jc] 32) = w2 at *
    ((with_reducible refine Calls.mono (new_12 w2) ?_); rintro e w3 ⟨rfl, hd3, hb3, _⟩)
    have HD3 := Lib.hid hd3
    have HB3 := Lib.hid hb3
    have hX2 : X < w2.heap.size := blk_lt HX.out
    clear hd3 hb3
    go_wp2_with fail
    have HSZ := Lib.hid HB1.out.size
    obtain ⟨b, hb⟩ : ∃ b, b = w2.heap.size := ⟨_, rfl⟩
    have HBE := Lib.hid hb
    rw [← hb] at HD3 HB3 HSZ hX2 ⊢
    clear hb
    have HWR := Lib.hid (write_50 _ w3 b newD HD3.out ⟨by show (-1 : Int) ≤ 0; omega, by show (0 : Int) ≤ 1000; omega⟩ 0 c (by omega) (by show 0 ≤ _; omega) (by show 0 ≤ _; omega))
    rw [write_new] at HWR
    ((with_reducible refine Calls.mono HWR.out ?_); rintro e w4 ⟨rfl, F4, hd4, hs4⟩)
    have hl4 := hs4.below (lo := b) (fun k hk => Nat.le_of_eq hk.symm) (by have := HB3.out.size; have := HBE.out; omega)
    have HD4 := Lib.hid hd4
    have HB4 := Lib.hid (HB3.out.trans hl4.1)
    have HL4 := Lib.hid hl4.2
    have HZ4 : Hid (b ≤ w4.heap.size) := by have h1 := HB4.out.size; have h2 := HBE.out; show _ ≤ _; omega
    clear hd4 hs4 hl4 HWR HD3
    go_wp2_with fail
    have HOA := Lib.hid (open_any F4 w4 b (wroteD c) c 0 HD4.out (sync_wrote c) rfl (wrote_ok c hc) sn x tl st HO.out HFT.out (by omega) (by omega) (by omega))
    ((with_reducible refine Calls.mono HOA.out ?_); rintro e w5 ⟨F5, g5, v5, c5, rfl, hv5, hsl5, hs5, _⟩)
    obtain ⟨a5, n5, rfl, _⟩ := id hsl5
    have hl5 := hs5.below HL4.out HZ4.out
    have HV5 := Lib.hid hv5
    have HT5 : Hid (TailAt w5 (.slice a5 tl.length n5) tl) := hsl5.mono (Nat.zero_le _) (Nat.le_refl _)
    have HB5 := Lib.hid (HB4.out.trans hl5.1)
    have HL5 := Lib.hid hl5.2
    clear hv5 hsl5 hs5 hl5 HOA
    have hxc : Hid (∀ W, Below b w2 W → W.cell? ⟨X, 0, none⟩ = some (S sn) ∧ W.cell? ⟨X, 1, none⟩ = some (.slice ja tl.length jc)) := fun W hb => by
      have h := (hb.block X hX2).trans HX.out
      exact ⟨Lib.cell_of_heap h 0, Lib.cell_of_heap h 1⟩
    have hxt : Hid (∀ W, Below b w2 W → TailAt W (.slice ja tl.length jc) tl) := fun W hb => HJT.out.below (by rw [HBE.out] at hb; exact hb)
    obtain ⟨x0, x1⟩ := hxc.out w5 HB5.out
    go_wp2_with fail
    ((with_reducible refine Calls.mono (is_S F5 w5 g5 b sn tl c5 0 HV5.out _ _ HT5.out (hxt.out w5 HB5.out)) ?_); rintro e w6 ⟨rfl, hb6⟩)
    have HV6 := Lib.hid (HV5.out.below hb6)
    have HZ5 : Hid (b ≤ w5.heap.size) := by have h1 := HB5.out.size; have h2 := HBE.out; show _ ≤ _; omega
    have HB6 := Lib.hid (btr HB5.out hb6 HZ5.out)
    clear hb6 x0 x1
    go_wp2_with fail
    ((with_reducible refine Calls.mono (crash_28 F5 w6 b (onD c5 0) HV6.out.ds.disk [] (.slice none 0 0) (nilNums _) (by simp) (Nat.le_trans HV6.out.ds.cl (by omega)) (fun p hp => by simp [onD] at hp) (by simp [onD])) ?_); rintro e w7 ⟨rfl, F7, hd7, hb7, hf7⟩)
    rw [crash_on] at hd7
    have HDS7 : Hid (DS F7 w7 w6.heap.size sn tl c5 0) := ⟨hd7, HV6.out.ds.clean, HV6.out.ds.fit, HV6.out.ds.cl, by omega, by omega⟩
    have HB7 := Lib.hid hb7
    have HF7 := Lib.hid hf7
    clear hd7 hb7 hf7
    go_wp2_with fail
    ((with_reducible refine Calls.mono (open_S F7 w7 w6.heap.size sn tl c5 0 HDS7.out) ?_); rintro e w8 ⟨F8, g8, v8, c8, rfl, hv8, hsl8, hs8, _⟩)
    obtain ⟨a8, n8, rfl, _⟩ := id hsl8
    have HT8 : Hid (TailAt w8 (.slice a8 tl.length n8) tl) := hsl8.mono (Nat.zero_le _) (Nat.le_refl _)
    have HZ6 : Hid (b ≤ w6.heap.size) := by have h1 := HB6.out.size; have h2 := HBE.out; show _ ≤ _; omega
    have HB8 := Lib.hid (btr HB6.out (HB7.out.trans (hs8.below HF7.out HB7.out.size).1) HZ6.out)
    clear hv8 hsl8 hs8
    obtain ⟨x0, x1⟩ := hxc.out w8 HB8.out
    go_wp2_with fail
    ((with_reducible refine Calls.mono (same_29 w8 sn tl _ _ HT8.out (hxt.out w8 HB8.out) (by have := HTL.out; omega)) ?_); rintro e w9 ⟨rfl, hb9⟩)
    have HB9 := Lib.hid (btr HB8.out hb9 (by have h1 := HB8.out.size; have h2 := HBE.out; omega))
    clear hb9 x0 x1
    go_wp2_with fail
    go_ret
    exact ⟨rfl, btr HB1.out HB9.out HSZ.out⟩
end Go.Proofs.YtgdkdihedgiegaaDoor
