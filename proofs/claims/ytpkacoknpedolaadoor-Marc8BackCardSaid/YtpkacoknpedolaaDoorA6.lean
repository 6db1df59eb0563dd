/-
  The walk of sets.
-/
import Derived.Test.YtpkacoknpedolaaDoorA5
namespace Go.Proofs.YtpkacoknpedolaaDoor
open Go.RowKit Go.Maps

def capitalsB : Bs := [206, 145, 206, 146, 206, 147, 206, 148, 206, 149, 206, 150, 206, 151, 206, 152, 206, 153, 206, 154, 206, 155, 206, 156, 206, 157, 206, 158, 206, 159, 206, 160, 206, 161, 206, 163, 206, 164, 206, 165, 206, 166, 206, 167, 206, 168, 206, 169]
def smallsB : Bs := [206, 177, 206, 178, 206, 179, 206, 180, 206, 181, 206, 182, 206, 183, 206, 184, 206, 185, 206, 186, 206, 187, 206, 188, 206, 189, 206, 190, 206, 191, 207, 128, 207, 129, 207, 131, 207, 132, 207, 133, 207, 134, 207, 135, 207, 136, 207, 137, 207, 130]
def slavicB : Bs := [209, 142, 208, 176, 208, 177, 209, 134, 208, 180, 208, 181, 209, 132, 208, 179, 209, 133, 208, 184, 208, 185, 208, 186, 208, 187, 208, 188, 208, 189, 208, 190, 208, 191, 209, 143, 209, 128, 209, 129, 209, 130, 209, 131, 208, 182, 208, 178, 209, 140, 209, 139, 208, 183, 209, 136, 209, 141, 209, 137, 209, 135, 209, 138]
def largeB : Bs := [208, 174, 208, 144, 208, 145, 208, 166, 208, 148, 208, 149, 208, 164, 208, 147, 208, 165, 208, 152, 208, 153, 208, 154, 208, 155, 208, 156, 208, 157, 208, 158, 208, 159, 208, 175, 208, 160, 208, 161, 208, 162, 208, 163, 208, 150, 208, 146, 208, 172, 208, 171, 208, 151, 208, 168, 208, 173, 208, 169, 208, 167]
theorem runes_capitals : RunesFrom ⟨capitalsB.toArray⟩ 0 capitalsL := by decide +kernel
theorem runes_smalls : RunesFrom ⟨smallsB.toArray⟩ 0 smallsL := by decide +kernel
theorem runes_slavic : RunesFrom ⟨slavicB.toArray⟩ 0 slavicL := by decide +kernel
theorem runes_large : RunesFrom ⟨largeB.toArray⟩ 0 largeL := by decide +kernel
/-- The sets in memory. -/
def SetsAt (w : World) (v : Value) : Prop := ∃ b m0 m1 m2 n0 n1 n2, v = .slice (some ⟨b, 0, none⟩) 3 3 ∧ b < w.heap.size ∧
  (w.cell? ⟨b, 0, none⟩ = some (.int .u8 66) ∧ w.cell? ⟨b, 1, none⟩ = some (.map (some m0)) ∧ w.cell? ⟨b, 2, none⟩ = some (.int .u8 83) ∧ w.cell? ⟨b, 3, none⟩ = some (.map (some m1)) ∧ w.cell? ⟨b, 4, none⟩ = some (.int .u8 78) ∧ w.cell? ⟨b, 5, none⟩ = some (.map (some m2))) ∧
  MapB w m0 n0 (tabF (setT 0)) ∧ MapB w m1 n1 (tabF (setT 1)) ∧ MapB w m2 n2 (tabF (setT 2))
theorem six_cells (w : World) (a b c d e f : Value) (t : TypeId) : (w.alloc (Obj.cells #[a, b, c, d, e, f] t)).cell? ⟨w.heap.size, 0, none⟩ = some a ∧ (w.alloc (Obj.cells #[a, b, c, d, e, f] t)).cell? ⟨w.heap.size, 1, none⟩ = some b ∧ (w.alloc (Obj.cells #[a, b, c, d, e, f] t)).cell? ⟨w.heap.size, 2, none⟩ = some c ∧
    (w.alloc (Obj.cells #[a, b, c, d, e, f] t)).cell? ⟨w.heap.size, 3, none⟩ = some d ∧ (w.alloc (Obj.cells #[a, b, c, d, e, f] t)).cell? ⟨w.heap.size, 4, none⟩ = some e ∧ (w.alloc (Obj.cells #[a, b, c, d, e, f] t)).cell? ⟨w.heap.size, 5, none⟩ = some f := by
  refine ⟨?_, ?_, ?_, ?_, ?_, ?_⟩ <;> (rw [World.cell?_alloc_new]; rfl)
theorem MapB.below {w w' : World} {b n : Nat} {f : Nat → Option Nat} (h : MapB w b n f) (hb : Below w.heap.size w w') : MapB w' b n f := by
  obtain ⟨D, ho, h1, h2⟩ := h
  have hlt := ho.lt
  obtain ⟨es, clock, hh, F, hs, hD⟩ := ho
  exact ⟨D, ⟨es, clock, (hb.block b hlt).trans hh, F, hs, hD⟩, h1, h2⟩
/-- Two rows of pairs, the second one at the first one's end. -/
theorem app_pairs (W : World) (B : Nat) (v u : Value) (l m : List (Nat × Nat)) {n : Nat} (hv : W.ownsRow B 87 2 v n (l.flatMap pairCells)) (hu : PairsAt 0 W.heap.size W u m) (hm : m ≠ []) (N : Nat) (hnl : n = l.length) (hN : N = n + m.length) (hn : N ≤ 1000) (hB : B ≤ W.heap.size) :
    ∃ v' W', (Builtin.append_ #[81, 81] 81 #[v, u]).run Tryd.prog W = .ok v' W' ∧ W'.ownsRow B 87 2 v' N ((l ++ m).flatMap pairCells) ∧ W.grownBy W' v.ownBlock := by
  subst hnl hN
  obtain ⟨i, hi, hz, hs, hby⟩ := info_parts i87
  obtain ⟨a, cap, rfl, h⟩ := hu
  obtain ⟨b, off, rfl, _, _, hc⟩ := h (by cases m with | nil => exact absurd rfl hm | cons p m => simp [pairCells])
  obtain ⟨v', W', hr, h2, h3, _, _⟩ := run_append_own_at (P := Tryd.prog) W B 81 81 87 i _ 2 8 Tryd.underlying81 hi hz hs hby rfl (by omega) v l.length _ hv ⟨b, off, none⟩ m.length cap (m.flatMap pairCells) (pairs_len m)
    (fun j u hj => by
      have : (⟨b, off, none⟩ : Addr).add j = ⟨b, off + j, none⟩ := by unfold Addr.add; split <;> simp_all
      rw [this]; exact hc j u hj)
    (fun u hu => by
      obtain ⟨s, _, hu⟩ := List.mem_flatMap.1 hu
      simp [pairCells] at hu
      rcases hu with rfl | rfl <;> rfl) (by unfold maxLen; omega) (by omega) hB
  refine ⟨v', W', hr, ?_, h3⟩
  rw [List.flatMap_append]; exact h2
theorem wpList_app81 {w : World} {ops : Array Oper} {rest : List Oper} {o : Oper} {a : Act} {Q : Exit → Act → World → Prop} (hgd : o.guard = none) (sl x : Operand)
    (ho : o.op = .call { callee := .builtin .append, args := #[sl, x], argTypes := #[81, 81] }) (hty : o.type = 81) (v u v' : Value) (w' : World) (hs : a.eval sl = v) (hx : a.eval x = u)
    (hr : (Builtin.append_ #[81, 81] 81 #[v, u]).run Tryd.prog w = .ok v' w') (h : wpList Tryd.prog ops Q rest (a.put o.dst v') w') : wpList Tryd.prog ops Q (o :: rest) a w := by
  refine wpList_plain hgd fun K hK => ?_
  unfold Oper.wp execOp
  simp only [ho, hty, resolve, invoke, builtin, Sem.run_bind, Sem.run_pure, Result.andThen_ok, List.map_toArray, List.map_cons, List.map_nil, hs, hx, hr]
  exact hK _ _ h
theorem asciiT_ok (k : Nat) (h : k ≤ 126) : ∀ p ∈ asciiT k, p.1 < 256 ∧ p.2 < 2147483648 := by
  intro p hp
  unfold asciiT at hp
  obtain ⟨i, hi, rfl⟩ := List.mem_map.1 hp
  rw [List.mem_range] at hi
  simp only; omega
theorem setT_ok : (∀ p ∈ setT 1, p.1 < 256 ∧ p.2 < 2147483648) ∧ (∀ p ∈ setT 2, p.1 < 256 ∧ p.2 < 2147483648) ∧ (setT 0).length ≤ 1000 ∧ (setT 1).length ≤ 1000 ∧ (setT 2).length ≤ 1000 := by decide
theorem owns_keep {w w' : World} {B : Nat} {e : TypeId} {k : Nat} {v : Value} {n : Nat} {xs : List Value} (h : w.ownsRow B e k v n xs) (hb : Below w.heap.size w w') : w'.ownsRow B e k v n xs := ownr_far h (fun g hg => hb.block g (h.lt g hg).2)
theorem ascii_64 (w : World) : Calls Tryd.prog 40 #[.int .u8 64] w fun e w' => ∃ v, e = .returned v ∧ w'.ownsRow w.heap.size 87 2 v 33 ((asciiT 64).flatMap pairCells) ∧ Below w.heap.size w w' := ascii_40 64 w (by omega) (by omega)
theorem ascii_63 (w : World) : Calls Tryd.prog 40 #[.int .u8 63] w fun e w' => ∃ v, e = .returned v ∧ w'.ownsRow w.heap.size 87 2 v 32 ((asciiT 63).flatMap pairCells) ∧ Below w.heap.size w w' := ascii_40 63 w (by omega) (by omega)
theorem ascii_126 (w : World) : Calls Tryd.prog 40 #[.int .u8 126] w fun e w' => ∃ v, e = .returned v ∧ w'.ownsRow w.heap.size 87 2 v 95 ((asciiT 126).flatMap pairCells) ∧ Below w.heap.size w w' := ascii_40 126 w (by omega) (by omega)
theorem run_caps (w : World) : Calls Tryd.prog 41 #[.int .u8 65, S [206, 145, 206, 146, 206, 147, 206, 148, 206, 149, 206, 150, 206, 151, 206, 152, 206, 153, 206, 154, 206, 155, 206, 156, 206, 157, 206, 158, 206, 159, 206, 160, 206, 161, 206, 163, 206, 164, 206, 165, 206, 166, 206, 167, 206, 168, 206, 169]] w fun e w' => ∃ v, e = .returned v ∧ w'.ownsRow w.heap.size 87 2 v 24 ((numbered 65 capitalsL).flatMap pairCells) ∧ Below w.heap.size w w' := run_41 65 capitalsB capitalsL w runes_capitals (by decide) (by decide)
theorem run_smalls (w : World) : Calls Tryd.prog 41 #[.int .u8 97, S [206, 177, 206, 178, 206, 179, 206, 180, 206, 181, 206, 182, 206, 183, 206, 184, 206, 185, 206, 186, 206, 187, 206, 188, 206, 189, 206, 190, 206, 191, 207, 128, 207, 129, 207, 131, 207, 132, 207, 133, 207, 134, 207, 135, 207, 136, 207, 137, 207, 130]] w fun e w' => ∃ v, e = .returned v ∧ w'.ownsRow w.heap.size 87 2 v 25 ((numbered 97 smallsL).flatMap pairCells) ∧ Below w.heap.size w w' := run_41 97 smallsB smallsL w runes_smalls (by decide) (by decide)
theorem run_slavic (w : World) : Calls Tryd.prog 41 #[.int .u8 64, S [209, 142, 208, 176, 208, 177, 209, 134, 208, 180, 208, 181, 209, 132, 208, 179, 209, 133, 208, 184, 208, 185, 208, 186, 208, 187, 208, 188, 208, 189, 208, 190, 208, 191, 209, 143, 209, 128, 209, 129, 209, 130, 209, 131, 208, 182, 208, 178, 209, 140, 209, 139, 208, 183, 209, 136, 209, 141, 209, 137, 209, 135, 209, 138]] w fun e w' => ∃ v, e = .returned v ∧ w'.ownsRow w.heap.size 87 2 v 32 ((numbered 64 slavicL).flatMap pairCells) ∧ Below w.heap.size w w' := run_41 64 slavicB slavicL w runes_slavic (by decide) (by decide)
theorem run_large (w : World) : Calls Tryd.prog 41 #[.int .u8 96, S [208, 174, 208, 144, 208, 145, 208, 166, 208, 148, 208, 149, 208, 164, 208, 147, 208, 165, 208, 152, 208, 153, 208, 154, 208, 155, 208, 156, 208, 157, 208, 158, 208, 159, 208, 175, 208, 160, 208, 161, 208, 162, 208, 163, 208, 150, 208, 146, 208, 172, 208, 171, 208, 151, 208, 168, 208, 173, 208, 169, 208, 167]] w fun e w' => ∃ v, e = .returned v ∧ w'.ownsRow w.heap.size 87 2 v 31 ((numbered 96 largeL).flatMap pairCells) ∧ Below w.heap.size w w' := run_41 96 largeB largeL w runes_large (by decide) (by decide)
theorem trim_large (w : World) : Calls Tryd.prog 42 #[S [208, 174, 208, 144, 208, 145, 208, 166, 208, 148, 208, 149, 208, 164, 208, 147, 208, 165, 208, 152, 208, 153, 208, 154, 208, 155, 208, 156, 208, 157, 208, 158, 208, 159, 208, 175, 208, 160, 208, 161, 208, 162, 208, 163, 208, 150, 208, 146, 208, 172, 208, 171, 208, 151, 208, 168, 208, 173, 208, 169, 208, 167, 208, 170], S [208, 170]] w fun e w' => e = .returned (S [208, 174, 208, 144, 208, 145, 208, 166, 208, 148, 208, 149, 208, 164, 208, 147, 208, 165, 208, 152, 208, 153, 208, 154, 208, 155, 208, 156, 208, 157, 208, 158, 208, 159, 208, 175, 208, 160, 208, 161, 208, 162, 208, 163, 208, 150, 208, 146, 208, 172, 208, 171, 208, 151, 208, 168, 208, 173, 208, 169, 208, 167]) ∧ w = w' := trimSuffix_42 largeB [208, 170] w (by decide)
set_option maxHeartbeats 1000000 in
set_option maxRecDepth 100000 in
theorem sets_22 (w : World) (h43 : ∀ W, Below w.heap.size w W → Calls Tryd.prog 43 #[S [209, 142, 208, 176, 208, 177, 209, 134, 208, 180, 208, 181, 209, 132, 208, 179, 209, 133, 208, 184, 208, 185, 208, 186, 208, 187, 208, 188, 208, 189, 208, 190, 208, 191, 209, 143, 209, 128, 209, 129, 209, 130, 209, 131, 208, 182, 208, 178, 209, 140, 209, 139, 208, 183, 209, 136, 209, 141, 209, 137, 209, 135, 209, 138]] W fun e w' => e = .returned (S [208, 174, 208, 144, 208, 145, 208, 166, 208, 148, 208, 149, 208, 164, 208, 147, 208, 165, 208, 152, 208, 153, 208, 154, 208, 155, 208, 156, 208, 157, 208, 158, 208, 159, 208, 175, 208, 160, 208, 161, 208, 162, 208, 163, 208, 150, 208, 146, 208, 172, 208, 171, 208, 151, 208, 168, 208, 173, 208, 169, 208, 167, 208, 170]) ∧ Below W.heap.size W w') :
    Calls Tryd.prog 22 #[] w fun e w' => ∃ v, e = .returned v ∧ SetsAt w' v ∧ Below w.heap.size w w' := by
  have H43 := Lib.hid h43
  clear h43
  go_enter Tryd.func22, Tryd.ntmps22
  have HC := Lib.hid runes_capitals
  have HS := Lib.hid runes_smalls
  have HL := Lib.hid runes_slavic
  have HU := Lib.hid runes_large
  go_wp2_with (first
    | (go_at_call 40; ((with_reducible refine Calls.mono (ascii_64 _) ?_); rintro e w1 ⟨v1, rfl, ho1, hb1⟩; obtain ⟨a1, c1, rfl⟩ := owns_shape ho1; have HO1 := Lib.hid ho1; have HN1 := Lib.hid hb1; have HB1 := Lib.hid (hb1); have HSZ1 := Lib.hid (Nat.le_refl w.heap.size); clear ho1 hb1))
    | (go_at_call 41; ((with_reducible refine Calls.mono (run_caps _) ?_); rintro e w2 ⟨v2, rfl, ho2, hb2⟩; obtain ⟨a2, c2, rfl⟩ := owns_shape ho2; obtain ⟨v3, w3, hr3, ho3, hg3⟩ := app_pairs w2 w.heap.size (.slice a1 _ c1) (.slice a2 _ c2) (asciiT 64) (numbered 65 capitalsL) (owns_keep HO1.out hb2) ((owns_slice ho2 (Nat.zero_le _)) : PairsAt 0 _ _ _ _) (by decide) 57 (by decide) (by decide) (by decide) (by have := HN1.out.size; have := hb2.size; omega); obtain ⟨a3, c3, rfl⟩ := owns_shape ho3; have HN3 := Lib.hid ((btr HN1.out hb2 HN1.out.size).grown hg3 (by have := HN1.out.size; have := hb2.size; omega) (fun g hg => (HO1.out.lt g hg).1)); have HO3 := Lib.hid ho3; have HR3 := Lib.hid hr3; clear ho2 hb2 hr3 ho3 hg3))
    | (at_builtin; refine wpList_app81 rfl _ _ rfl rfl _ _ _ _ rfl rfl HR3.out ?_)
    | (go_at_call 41; ((with_reducible refine Calls.mono (run_smalls _) ?_); rintro e w4 ⟨v4, rfl, ho4, hb4⟩; obtain ⟨a4, c4, rfl⟩ := owns_shape ho4; obtain ⟨v5, w5, hr5, ho5, hg5⟩ := app_pairs w4 w.heap.size (.slice a3 _ c3) (.slice a4 _ c4) (asciiT 64 ++ numbered 65 capitalsL) (numbered 97 smallsL) (owns_keep HO3.out hb4) ((owns_slice ho4 (Nat.zero_le _)) : PairsAt 0 _ _ _ _) (by decide) 82 (by decide) (by decide) (by decide) (by have := HN3.out.size; have := hb4.size; omega); obtain ⟨a5, c5, rfl⟩ := owns_shape ho5; have HN5 := Lib.hid ((btr HN3.out hb4 HN3.out.size).grown hg5 (by have := HN3.out.size; have := hb4.size; omega) (fun g hg => (HO3.out.lt g hg).1)); have HO5 := Lib.hid ho5; have HR5 := Lib.hid hr5; clear ho4 hb4 hr5 ho5 hg5))
    | (at_builtin; refine wpList_app81 rfl _ _ rfl rfl _ _ _ _ rfl rfl HR5.out ?_))
  ((with_reducible refine Calls.mono (H43.out _ HN5.out) ?_); rintro e w6 ⟨rfl, hb6⟩)
  have HN6 := Lib.hid hb6
  have HB6 := Lib.hid (btr HN5.out hb6 HN5.out.size)
  clear hb6
  go_wp2_with (first
    | (go_at_call 42; ((with_reducible refine Calls.mono (trim_large _) ?_); rintro e w' ⟨rfl, rfl⟩))
    | (go_at_call 40; ((with_reducible refine Calls.mono (ascii_63 _) ?_); rintro e w7 ⟨v7, rfl, ho7, hb7⟩; obtain ⟨a7, c7, rfl⟩ := owns_shape ho7; have HO7 := Lib.hid ho7; have HN7 := Lib.hid hb7; have HB7 := Lib.hid (btr HB6.out hb7 HB6.out.size); have HSZ7 := Lib.hid (HB6.out.size); clear ho7 hb7))
    | (go_at_call 41; ((with_reducible refine Calls.mono (run_slavic _) ?_); rintro e w8 ⟨v8, rfl, ho8, hb8⟩; obtain ⟨a8, c8, rfl⟩ := owns_shape ho8; obtain ⟨v9, w9, hr9, ho9, hg9⟩ := app_pairs w8 w6.heap.size (.slice a7 _ c7) (.slice a8 _ c8) (asciiT 63) (numbered 64 slavicL) (owns_keep HO7.out hb8) ((owns_slice ho8 (Nat.zero_le _)) : PairsAt 0 _ _ _ _) (by decide) 64 (by decide) (by decide) (by decide) (by have := HN7.out.size; have := hb8.size; omega); obtain ⟨a9, c9, rfl⟩ := owns_shape ho9; have HN9 := Lib.hid ((btr HN7.out hb8 HN7.out.size).grown hg9 (by have := HN7.out.size; have := hb8.size; omega) (fun g hg => (HO7.out.lt g hg).1)); have HO9 := Lib.hid ho9; have HR9 := Lib.hid hr9; clear ho8 hb8 hr9 ho9 hg9))
    | (at_builtin; refine wpList_app81 rfl _ _ rfl rfl _ _ _ _ rfl rfl HR9.out ?_)
    | (go_at_call 41; ((with_reducible refine Calls.mono (run_large _) ?_); rintro e w10 ⟨v10, rfl, ho10, hb10⟩; obtain ⟨a10, c10, rfl⟩ := owns_shape ho10; obtain ⟨v11, w11, hr11, ho11, hg11⟩ := app_pairs w10 w6.heap.size (.slice a9 _ c9) (.slice a10 _ c10) (asciiT 63 ++ numbered 64 slavicL) (numbered 96 largeL) (owns_keep HO9.out hb10) ((owns_slice ho10 (Nat.zero_le _)) : PairsAt 0 _ _ _ _) (by decide) 95 (by decide) (by decide) (by decide) (by have := HN9.out.size; have := hb10.size; omega); obtain ⟨a11, c11, rfl⟩ := owns_shape ho11; have HN11 := Lib.hid ((btr HN9.out hb10 HN9.out.size).grown hg11 (by have := HN9.out.size; have := hb10.size; omega) (fun g hg => (HO9.out.lt g hg).1)); have HO11 := Lib.hid ho11; have HR11 := Lib.hid hr11; clear ho10 hb10 hr11 ho11 hg11))
    | (at_builtin; refine wpList_app81 rfl _ _ rfl rfl _ _ _ _ rfl rfl HR11.out ?_)
    | (go_at_call 40; ((with_reducible refine Calls.mono (ascii_126 _) ?_); rintro e w12 ⟨v12, rfl, ho12, hb12⟩; obtain ⟨a12, c12, rfl⟩ := owns_shape ho12; have HO12 := Lib.hid ho12; have HN12 := Lib.hid hb12; have HB12 := Lib.hid (btr (btr HB6.out HN11.out HB6.out.size) hb12 (Nat.le_trans HB6.out.size HN11.out.size)); have HSZ12 := Lib.hid ((Nat.le_trans HB6.out.size HN11.out.size)); clear ho12 hb12)))
  have D5 := Lib.hid (btr HN6.out (btr HN11.out HN12.out HN11.out.size) HN6.out.size)
  have H44a := Lib.hid (table_44 (asciiT 126) (.slice a12 95 c12) w12 (owns_slice HO12.out (Nat.zero_le _)) (asciiT_ok 126 (by omega)) (by decide))
  ((with_reducible refine Calls.mono H44a.out ?_); rintro e w13 ⟨rfl, hm13, hb13⟩)
  have HM13 := Lib.hid hm13
  have D5' := Lib.hid (btr D5.out hb13 D5.out.size)
  have D11 := Lib.hid (btr HN12.out hb13 HN12.out.size)
  have H44b := Lib.hid (table_44 (setT 1) (.slice a5 82 c5) w13 (owns_slice (owns_keep HO5.out D5'.out) (Nat.zero_le _)) setT_ok.1 (by decide))
  have HB13 := Lib.hid (btr HB12.out hb13 HB12.out.size)
  clear hm13 hb13
  go_wp2_with fail
  ((with_reducible refine Calls.mono H44b.out ?_); rintro e w14 ⟨rfl, hm14, hb14⟩)
  have HM14 := Lib.hid hm14
  have HN14 := Lib.hid hb14
  have H44c := Lib.hid (table_44 (setT 2) (.slice a11 95 c11) w14 (owns_slice (owns_keep HO11.out (btr D11.out hb14 D11.out.size)) (Nat.zero_le _)) setT_ok.2.1 (by decide))
  have HB14 := Lib.hid (btr HB13.out hb14 HB13.out.size)
  clear hm14 hb14
  go_wp2_with fail
  ((with_reducible refine Calls.mono H44c.out ?_); rintro e w15 ⟨rfl, hm15, hb15⟩)
  have HM15 := Lib.hid hm15
  have HN15 := Lib.hid hb15
  have HB15 := Lib.hid (btr HB14.out hb15 HB14.out.size)
  clear hm15 hb15
  go_wp2_with fail
  go_ret
  refine ⟨_, rfl, ⟨w15.heap.size, w12.heap.size, w13.heap.size, w14.heap.size, (asciiT 126).length, (setT 1).length, (setT 2).length, rfl, by simp, six_cells w15 _ _ _ _ _ _ 53, ?_, ?_, HM15.out.below ((Below.refl _ _).alloc (Nat.le_refl _) _)⟩, btr HB15.out ((Below.refl _ _).alloc (Nat.le_refl _) _) HB15.out.size⟩
  · exact ((HM13.out.below HN14.out).below HN15.out).below ((Below.refl _ _).alloc (Nat.le_refl _) _)
  · exact (HM14.out.below HN15.out).below ((Below.refl _ _).alloc (Nat.le_refl _) _)
end Go.Proofs.YtpkacoknpedolaaDoor
