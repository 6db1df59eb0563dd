/-
  The walk of MarcTexts.
-/
import Derived.Test.YtfkleeigdplapaaDoorP22
namespace Go.Proofs.YtfkleeigdplapaaDoor
open Go.RowKit
attribute [local go_sem ↓] Go.wp_at_zero Go.wp_at_succ

def textF1 (X : Bs) : FieldD := ⟨[48, 48, 56], [], X, []⟩
def textF2 (X Y : Bs) : FieldD := ⟨[49, 48, 48], [49, 32], [], [⟨97, Y⟩, ⟨48, X⟩]⟩
def textsR (X Y : Bs) : RecD := ⟨97, 115, [textF1 X, textF2 X Y]⟩
theorem tag8 : isTagB [48, 48, 56] = true ∧ ctrlB [48, 48, 56] = true ∧ isTagB [49, 48, 48] = true ∧ ctrlB [49, 48, 48] = false ∧ letterB 97 = true ∧ letterB 115 = true := by decide
theorem wf_text1 (X : Bs) : wrongF (textF1 X) = if isTextB X then 0 else 14 := by
  unfold wrongF
  rw [if_neg (by rw [show isTagB (textF1 X).tag = true from tag8.1]; decide), if_pos (show ctrlB (textF1 X).tag = true from tag8.2.1)]
  simp [textF1]
theorem wf_text2 (X Y : Bs) : wrongF (textF2 X Y) = if isTextB X && isTextB Y then 0 else 14 := by
  unfold wrongF
  rw [if_neg (by rw [show isTagB (textF2 X Y).tag = true from tag8.2.2.1]; decide), if_neg (by rw [show ctrlB (textF2 X Y).tag = false from tag8.2.2.2.1]; decide)]
  have h1 : signB 97 = true := by decide
  have h2 : signB 48 = true := by decide
  have h3 : indsB [49, 32] = true := by decide
  simp [textF2, subOk, h1, h2, h3, and_comm]
theorem texts_ok {X Y : Bs} (hx : isTextB X = true) (hy : isTextB Y = true) (lx : X.length ≤ 200) (ly : Y.length ≤ 200) : wrongR (textsR X Y) = 0 := by
  have h1 : firstWrong (textsR X Y).fields = 0 := by
    simp [textsR, firstWrong, wf_text1, wf_text2, hx, hy]
  rw [wr_rest _ tag8.2.2.2.2.1 tag8.2.2.2.2.2 h1, if_neg]
  rw [sizeOf_eq]
  simp [textsR, tooLong, textF1, textF2, fieldBytes, subBytes, dataOf]
  omega
theorem texts_bad {X Y : Bs} (h : (isTextB X && isTextB Y) = false) : wrongR (textsR X Y) = 14 := by
  have h1 : firstWrong (textsR X Y).fields = 14 := by
    simp only [textsR, firstWrong, wf_text1, wf_text2, h]
    cases isTextB X <;> simp
  have := wr_field (textsR X Y) tag8.2.2.2.2.1 tag8.2.2.2.2.2 (by rw [h1]; decide)
  rw [this, h1]
theorem texts_small {X Y : Bs} (lx : X.length ≤ 200) (ly : Y.length ≤ 200) : Small (textsR X Y).fields := by
  refine ⟨by simp [textsR], fun f hf => ?_⟩
  simp only [textsR, List.mem_cons, List.not_mem_nil, or_false] at hf
  rcases hf with rfl | rfl <;> simp [textF1, textF2, fieldBytes, subBytes] <;> omega

abbrev textO1 (X Y : Bs) : Obj := Obj.cells #[.int .u8 97, S Y, .int .u8 48, S X] 59
abbrev textO2 (n : Nat) (X : Bs) : Obj := Obj.cells #[S [48, 48, 56], S [], S X, .slice none 0 0, S [49, 48, 48], S [49, 32], S [], .slice (some ⟨n, 0, none⟩) 2 2] 57
abbrev textO3 (n : Nat) : Obj := Obj.cells #[.int .u8 97, .int .u8 115, .slice (some ⟨n + 1, 0, none⟩) 2 2] 27
theorem texts_at (w : World) (X Y : Bs) (o : Obj) : FieldsAt 0 (w.heap.size + 3) (((w.alloc (textO1 X Y)).alloc (textO2 w.heap.size X)).alloc o) (.slice (some ⟨w.heap.size + 1, 0, none⟩) 2 2) (textsR X Y).fields := by
  refine ⟨[(textF1 X, .slice none 0 0), (textF2 X Y, .slice (some ⟨w.heap.size, 0, none⟩) 2 2)], rfl, ?_, ?_⟩
  · intro p hp
    simp only [List.mem_cons, List.not_mem_nil, or_false] at hp
    rcases hp with rfl | rfl
    · exact slice_nil _ _ _
    · have h := slice_new w ((textF2 X Y).subs.flatMap subCells) 59 2 2
      exact ((SliceAt.kept h (bkept (alloc_below _ _) (by simp) |>.mono (Nat.zero_le _) (Nat.le_refl _))).kept (bkept (alloc_below _ _) (by simp) |>.mono (Nat.zero_le _) (Nat.le_refl _))).mono (by omega) (by omega)
  · have h := slice_new (w.alloc (textO1 X Y)) ([(textF1 X, Value.slice none 0 0), (textF2 X Y, Value.slice (some ⟨w.heap.size, 0, none⟩) 2 2)].flatMap fieldCells) 57 2 2
    simp only [World.size_alloc] at h
    exact (SliceAt.kept h (bkept (alloc_below _ _) (by simp) |>.mono (Nat.zero_le _) (Nat.le_refl _))).mono (by omega) (by omega)
theorem fields_below {lo hi : Nat} {w w' : World} {v : Value} {fs : List FieldD} (h : FieldsAt lo hi w v fs) (hh : hi ≤ w.heap.size) (hb : Below w.heap.size w w') : FieldsAt 0 w'.heap.size w' v fs := fields_up h hh hb
set_option maxHeartbeats 4000000 in
set_option maxRecDepth 100000 in
theorem texts_10 (a b : Bs) (w : World) (hT : Tabs w) (ha : a.length ≤ maxLen) (hb : b.length ≤ maxLen) :
    Calls Tryd.prog 10 #[S a, S b] w fun e w' => e = .returned (.bool true) ∧ Below w.heap.size w w' := by
  unfold maxLen at ha hb
  have HT := Lib.hid (fun W (h : Below w.heap.size w W) => tabs_below hT h)
  have H13 := Lib.hid (sanity_13 w hT)
  clear hT
  have hx : (List.take (min (↑(List.length a)) 200 : Int).toNat a).length ≤ 200 := by simp; omega
  have hy : (List.take (min (↑(List.length b)) 200 : Int).toNat b).length ≤ 200 := by simp; omega
  have h01 : 0 ≤ min (↑(List.length a)) (200 : Int) ∧ min (↑(List.length a)) (200 : Int) ≤ a.length := by omega
  have h02 : 0 ≤ min (↑(List.length b)) (200 : Int) ∧ min (↑(List.length b)) (200 : Int) ≤ b.length := by omega
  go_enter Tryd.func10, Tryd.ntmps10
  go_wp2_with (go_at_call 13; ((with_reducible refine Calls.mono H13.out ?_); rintro e w1 ⟨rfl, hb1⟩))
  generalize (List.take (min (↑(List.length a)) 200 : Int).toNat a) = X at *
  generalize (List.take (min (↑(List.length b)) 200 : Int).toNat b) = Y at *
  have HAT0 := Lib.hid (texts_at w1 X Y (textO3 w1.heap.size))
  have hB0 : Below w1.heap.size w1 (((w1.alloc (textO1 X Y)).alloc (textO2 w1.heap.size X)).alloc (textO3 w1.heap.size)) := (((Below.refl _ w1).alloc (Nat.le_refl _) _).alloc (by simp) _).alloc (by simp; omega) _
  have hz0 : w1.heap.size + 3 ≤ (((w1.alloc (textO1 X Y)).alloc (textO2 w1.heap.size X)).alloc (textO3 w1.heap.size)).heap.size := by simp
  have c0 : (((w1.alloc (textO1 X Y)).alloc (textO2 w1.heap.size X)).alloc (textO3 w1.heap.size)).cell? ⟨w1.heap.size + 1 + 1, 0, none⟩ = some (.int .u8 97) := by go_simp
  have c1 : (((w1.alloc (textO1 X Y)).alloc (textO2 w1.heap.size X)).alloc (textO3 w1.heap.size)).cell? ⟨w1.heap.size + 1 + 1, 1, none⟩ = some (.int .u8 115) := by go_simp
  have c2 : (((w1.alloc (textO1 X Y)).alloc (textO2 w1.heap.size X)).alloc (textO3 w1.heap.size)).cell? ⟨w1.heap.size + 1 + 1, 2, none⟩ = some (.slice (some ⟨w1.heap.size + 1, 0, none⟩) 2 2) := by go_simp
  have hW : ∃ W, W = (((w1.alloc (textO1 X Y)).alloc (textO2 w1.heap.size X)).alloc (textO3 w1.heap.size)) := ⟨_, rfl⟩
  obtain ⟨w2, hW⟩ := hW
  rw [← hW] at HAT0 hB0 hz0 c0 c1 c2
  have HW := Lib.hid hW
  clear hW
  have HAT : Hid (∀ W, Below w2.heap.size w2 W → FieldsAt 0 W.heap.size W (.slice (some ⟨w1.heap.size + 1, 0, none⟩) 2 2) (textsR X Y).fields) := fun W hW => fields_up HAT0.out hz0 hW
  have HB2 := Lib.hid (btr hb1 hB0 hb1.size)
  have hsm := texts_small hx hy
  have hzz2 : w1.heap.size + 1 + 1 < w2.heap.size := by omega
  have HV : Hid (∀ (l : Bs) W, l.length ≤ 200 → Calls Tryd.prog 27 #[S l] W fun e w' => e = .returned (.bool (isTextB l)) ∧ Below W.heap.size W w') := fun l W hl => valid_27 l W (by omega)
  have HVX : Hid (∀ W, Calls Tryd.prog 27 #[S X] W fun e w' => e = .returned (.bool (isTextB X)) ∧ Below W.heap.size W w') := fun W => HV.out X W hx
  have HVY : Hid (∀ W, Calls Tryd.prog 27 #[S Y] W fun e w' => e = .returned (.bool (isTextB Y)) ∧ Below W.heap.size W w') := fun W => HV.out Y W hy
  clear HAT0 HV hB0
  have HBAD : (isTextB X && isTextB Y) = false → Hid (∀ W, Below w2.heap.size w2 W → Calls Tryd.prog 17 #[.agg #[.int .u8 97, .int .u8 115, .slice (some ⟨w1.heap.size + 1, 0, none⟩) 2 2]] W fun e w' => e = .returned (.tuple #[S [], .int .i64 14]) ∧ Below W.heap.size W w') ∧
      Hid (∀ W, Below w2.heap.size w2 W → Calls Tryd.prog 26 #[.agg #[.int .u8 97, .int .u8 115, .slice (some ⟨w1.heap.size + 1, 0, none⟩) 2 2]] W fun e w' => e = .returned (.bool false) ∧ Below W.heap.size W w') := fun h => by
    have hw := texts_bad h
    refine ⟨fun W hW => ?_, fun W hW => ?_⟩
    · exact write_at (textsR X Y) _ W (HAT.out W hW) hsm (by unfold writeR; rw [if_neg (by rw [hw]; decide), hw])
    · have := right_26 (textsR X Y) (recV (textsR X Y) (.slice (some ⟨w1.heap.size + 1, 0, none⟩) 2 2)) W ⟨_, rfl, HAT.out W hW⟩ hsm
      rw [hw] at this
      exact this
  have HBD := Lib.hid HBAD
  clear HBAD
  rw [← HW.out]
  cases hX : isTextB X
  · rw [hX] at HVX
    obtain ⟨H17, H26⟩ := HBD.out (by rw [hX]; rfl)
    clear hX HBD HAT HVY
    ((with_reducible refine Calls.mono (H17.out _ (Below.refl _ _)) ?_); rintro e w3 ⟨rfl, hb3⟩; obtain ⟨hcc3, hff3⟩ := bcell hb3; have hz3 := hb3.size; have hzz3 : w1.heap.size + 1 + 1 < w3.heap.size := (by omega))
    go_wp2_with (first
      | (go_at_call 27; ((with_reducible refine Calls.mono (HVX.out _) ?_); rintro e w4 ⟨rfl, hb4⟩; obtain ⟨hcc4, hff4⟩ := bcell hb4; have HB4 := Lib.hid (btr hb3 hb4 hb3.size)))
      | (go_at_call 26; ((with_reducible refine Calls.mono (H26.out _ HB4.out) ?_); rintro e w5 ⟨rfl, hb5⟩; have HB5 := Lib.hid (btr HB4.out hb5 HB4.out.size))))
    go_ret
    exact ⟨rfl, btr HB2.out HB5.out HB2.out.size⟩
  · rw [hX] at HVX
    cases hY : isTextB Y
    · rw [hY] at HVY
      obtain ⟨H17, H26⟩ := HBD.out (by rw [hX, hY]; rfl)
      clear hX hY HBD HAT
      ((with_reducible refine Calls.mono (H17.out _ (Below.refl _ _)) ?_); rintro e w3 ⟨rfl, hb3⟩; obtain ⟨hcc3, hff3⟩ := bcell hb3; have hz3 := hb3.size; have hzz3 : w1.heap.size + 1 + 1 < w3.heap.size := (by omega))
      go_wp2_with (first
        | (go_at_call 27; ((with_reducible refine Calls.mono (HVX.out _) ?_); rintro e w4 ⟨rfl, hb4⟩; obtain ⟨hcc4, hff4⟩ := bcell hb4; have HB4 := Lib.hid (btr hb3 hb4 hb3.size); have hzz4 : w1.heap.size + 1 + 1 < w4.heap.size := (by have := hb4.size; omega)))
        | (go_at_call 27; ((with_reducible refine Calls.mono (HVY.out _) ?_); rintro e w5 ⟨rfl, hb5⟩; obtain ⟨hcc5, hff5⟩ := bcell hb5; have HB5 := Lib.hid (btr HB4.out hb5 HB4.out.size)))
        | (go_at_call 26; ((with_reducible refine Calls.mono (H26.out _ HB5.out) ?_); rintro e w6 ⟨rfl, hb6⟩; have HB6 := Lib.hid (btr HB5.out hb6 HB5.out.size))))
      go_ret
      exact ⟨rfl, btr HB2.out HB6.out HB2.out.size⟩
    · rw [hY] at HVY
      have hw := texts_ok hX hY hx hy
      obtain ⟨sl, hsl⟩ : ∃ l, l = writeB (textsR X Y) := ⟨_, rfl⟩
      have hpb := parse_back hw
      have hlen := (write_length hw).2
      rw [← hsl] at hpb hlen
      have H17 : Hid (∀ W, Below w2.heap.size w2 W → Calls Tryd.prog 17 #[.agg #[.int .u8 97, .int .u8 115, .slice (some ⟨w1.heap.size + 1, 0, none⟩) 2 2]] W fun e w' => e = .returned (.tuple #[S sl, .int .i64 0]) ∧ Below W.heap.size W w') := fun W hW =>
        write_at (textsR X Y) _ W (HAT.out W hW) hsm (by unfold writeR; rw [if_pos hw, hsl])
      have H18 : Hid (∀ W, Below w.heap.size w W → Calls Tryd.prog 18 #[S sl] W fun e w' => ∃ sa cap, e = .returned (.tuple #[.agg #[.int .u8 97, .int .u8 115, .slice sa 2 cap], .int .i64 0, .int .i64 0]) ∧ Below W.heap.size W w' ∧ FieldsAt W.heap.size w'.heap.size w' (.slice sa 2 cap) (textsR X Y).fields) := fun W hW =>
        parse_at hpb (by omega) (HT.out W hW)
      have H19 : Hid (∀ (x y : Value) (W : World), FieldsAt 0 W.heap.size W x (textsR X Y).fields → FieldsAt 0 W.heap.size W y (textsR X Y).fields →
          Calls Tryd.prog 19 #[.agg #[.int .u8 97, .int .u8 115, x], .agg #[.int .u8 97, .int .u8 115, y]] W fun e w' => e = .returned (.bool true) ∧ Below W.heap.size W w') := fun x y W h1 h2 => by
        have := same_at 97 115 97 115 (textsR X Y).fields (textsR X Y).fields x y W h1 h2 hsm
        rw [sameR_refl] at this
        exact this
      clear hX hY HBD hw hsl hpb hlen
      ((with_reducible refine Calls.mono (H17.out _ (Below.refl _ _)) ?_); rintro e w3 ⟨rfl, hb3⟩; obtain ⟨hcc3, hff3⟩ := bcell hb3; have hz3 := hb3.size; have hzz3 : w1.heap.size + 1 + 1 < w3.heap.size := (by omega))
      go_wp2_with (first
        | (go_at_call 27; ((with_reducible refine Calls.mono (HVX.out _) ?_); rintro e w4 ⟨rfl, hb4⟩; obtain ⟨hcc4, hff4⟩ := bcell hb4; have HB4 := Lib.hid (btr hb3 hb4 hb3.size); have hzz4 : w1.heap.size + 1 + 1 < w4.heap.size := (by have := hb4.size; omega)))
        | (go_at_call 27; ((with_reducible refine Calls.mono (HVY.out _) ?_); rintro e w5 ⟨rfl, hb5⟩; obtain ⟨hcc5, hff5⟩ := bcell hb5; have HB5 := Lib.hid (btr HB4.out hb5 HB4.out.size); have hzz5 : w1.heap.size + 1 + 1 < w5.heap.size := (by have := hb5.size; omega)))
        | (go_at_call 18; ((with_reducible refine Calls.mono (H18.out _ (btr HB2.out HB5.out HB2.out.size)) ?_); rintro e w6 ⟨sa, cap, rfl, hb6, hf6⟩; have HF6 := Lib.hid hf6; clear hf6; obtain ⟨hcc6, hff6⟩ := bcell hb6; have HB6 := Lib.hid (btr HB5.out hb6 HB5.out.size); have hzz6 : w1.heap.size + 1 + 1 < w6.heap.size := (by have := hb6.size; omega)))
        | (go_at_call 19; ((with_reducible refine Calls.mono (H19.out (.slice sa 2 cap) (.slice (some ⟨w1.heap.size + 1, 0, none⟩) 2 2) _ (fields_up HF6.out (Nat.le_refl _) (alloc_below1 _ _)) (HAT.out _ (btr HB6.out (alloc_below1 _ _) HB6.out.size))) ?_); rintro e w7 ⟨rfl, hb7⟩; have HB7 := Lib.hid (btr HB6.out (btr (alloc_below1 _ _) hb7 (by simp)) HB6.out.size))))
      go_ret
      exact ⟨rfl, btr HB2.out HB7.out HB2.out.size⟩
end Go.Proofs.YtfkleeigdplapaaDoor
