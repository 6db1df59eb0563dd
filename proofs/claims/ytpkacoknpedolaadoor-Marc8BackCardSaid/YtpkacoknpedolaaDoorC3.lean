/-
  The walk of composed: the letters and marks of composed characters.
-/
import Derived.Test.YtpkacoknpedolaaDoorC2
import Derived.StillTailTactics
import Derived.Laws.IdiomStrings
namespace Go.Proofs.YtpkacoknpedolaaDoor
open Go.RowKit Go.Maps

/-- The rows of composed characters: their bytes, and their characters. -/
def compRows : List Bs := [[204, 128, 32, 195, 128, 65, 195, 136, 69, 195, 140, 73, 195, 146, 79, 195, 153, 85, 195, 160, 97, 195, 168, 101, 195, 172, 105, 195, 178, 111, 195, 185, 117],
  [204, 129, 32, 195, 129, 65, 195, 137, 69, 195, 141, 73, 195, 147, 79, 195, 154, 85, 195, 157, 89, 195, 161, 97, 195, 169, 101, 195, 173, 105, 195, 179, 111, 195, 186, 117, 195, 189, 121, 196, 134, 67, 196, 135, 99, 196, 185, 76, 196, 186, 108, 197, 131, 78, 197, 132, 110, 197, 148, 82, 197, 149, 114, 197, 154, 83, 197, 155, 115, 197, 185, 90, 197, 186, 122],
  [204, 130, 32, 195, 130, 65, 195, 138, 69, 195, 142, 73, 195, 148, 79, 195, 155, 85, 195, 162, 97, 195, 170, 101, 195, 174, 105, 195, 180, 111, 195, 187, 117, 196, 136, 67, 196, 137, 99, 196, 156, 71, 196, 157, 103, 196, 164, 72, 196, 165, 104, 196, 180, 74, 196, 181, 106, 197, 156, 83, 197, 157, 115, 197, 180, 87, 197, 181, 119, 197, 182, 89, 197, 183, 121],
  [204, 131, 32, 195, 131, 65, 195, 145, 78, 195, 149, 79, 195, 163, 97, 195, 177, 110, 195, 181, 111, 196, 168, 73, 196, 169, 105, 197, 168, 85, 197, 169, 117],
  [204, 136, 32, 195, 132, 65, 195, 139, 69, 195, 143, 73, 195, 150, 79, 195, 156, 85, 195, 164, 97, 195, 171, 101, 195, 175, 105, 195, 182, 111, 195, 188, 117, 195, 191, 121, 197, 184, 89],
  [204, 138, 32, 195, 133, 65, 195, 165, 97, 197, 174, 85, 197, 175, 117],
  [204, 167, 32, 195, 135, 67, 195, 167, 99, 196, 162, 71, 196, 163, 103, 196, 182, 75, 196, 183, 107, 196, 187, 76, 196, 188, 108, 197, 133, 78, 197, 134, 110, 197, 150, 82, 197, 151, 114, 197, 158, 83, 197, 159, 115, 197, 162, 84, 197, 163, 116],
  [204, 132, 32, 196, 128, 65, 196, 129, 97, 196, 146, 69, 196, 147, 101, 196, 170, 73, 196, 171, 105, 197, 140, 79, 197, 141, 111, 197, 170, 85, 197, 171, 117],
  [204, 134, 32, 196, 130, 65, 196, 131, 97, 196, 148, 69, 196, 149, 101, 196, 158, 71, 196, 159, 103, 196, 172, 73, 196, 173, 105, 197, 142, 79, 197, 143, 111, 197, 172, 85, 197, 173, 117],
  [204, 168, 32, 196, 132, 65, 196, 133, 97, 196, 152, 69, 196, 153, 101, 196, 174, 73, 196, 175, 105, 197, 178, 85, 197, 179, 117],
  [204, 135, 32, 196, 138, 67, 196, 139, 99, 196, 150, 69, 196, 151, 101, 196, 160, 71, 196, 161, 103, 196, 176, 73, 197, 187, 90, 197, 188, 122],
  [204, 140, 32, 196, 140, 67, 196, 141, 99, 196, 142, 68, 196, 143, 100, 196, 154, 69, 196, 155, 101, 196, 189, 76, 196, 190, 108, 197, 135, 78, 197, 136, 110, 197, 152, 82, 197, 153, 114, 197, 160, 83, 197, 161, 115, 197, 164, 84, 197, 165, 116, 197, 189, 90, 197, 190, 122],
  [204, 139, 32, 197, 144, 79, 197, 145, 111, 197, 176, 85, 197, 177, 117]]
def compRunes : List (List Nat) := [[768, 32, 192, 65, 200, 69, 204, 73, 210, 79, 217, 85, 224, 97, 232, 101, 236, 105, 242, 111, 249, 117],
  [769, 32, 193, 65, 201, 69, 205, 73, 211, 79, 218, 85, 221, 89, 225, 97, 233, 101, 237, 105, 243, 111, 250, 117, 253, 121, 262, 67, 263, 99, 313, 76, 314, 108, 323, 78, 324, 110, 340, 82, 341, 114, 346, 83, 347, 115, 377, 90, 378, 122],
  [770, 32, 194, 65, 202, 69, 206, 73, 212, 79, 219, 85, 226, 97, 234, 101, 238, 105, 244, 111, 251, 117, 264, 67, 265, 99, 284, 71, 285, 103, 292, 72, 293, 104, 308, 74, 309, 106, 348, 83, 349, 115, 372, 87, 373, 119, 374, 89, 375, 121],
  [771, 32, 195, 65, 209, 78, 213, 79, 227, 97, 241, 110, 245, 111, 296, 73, 297, 105, 360, 85, 361, 117],
  [776, 32, 196, 65, 203, 69, 207, 73, 214, 79, 220, 85, 228, 97, 235, 101, 239, 105, 246, 111, 252, 117, 255, 121, 376, 89],
  [778, 32, 197, 65, 229, 97, 366, 85, 367, 117],
  [807, 32, 199, 67, 231, 99, 290, 71, 291, 103, 310, 75, 311, 107, 315, 76, 316, 108, 325, 78, 326, 110, 342, 82, 343, 114, 350, 83, 351, 115, 354, 84, 355, 116],
  [772, 32, 256, 65, 257, 97, 274, 69, 275, 101, 298, 73, 299, 105, 332, 79, 333, 111, 362, 85, 363, 117],
  [774, 32, 258, 65, 259, 97, 276, 69, 277, 101, 286, 71, 287, 103, 300, 73, 301, 105, 334, 79, 335, 111, 364, 85, 365, 117],
  [808, 32, 260, 65, 261, 97, 280, 69, 281, 101, 302, 73, 303, 105, 370, 85, 371, 117],
  [775, 32, 266, 67, 267, 99, 278, 69, 279, 101, 288, 71, 289, 103, 304, 73, 379, 90, 380, 122],
  [780, 32, 268, 67, 269, 99, 270, 68, 271, 100, 282, 69, 283, 101, 317, 76, 318, 108, 327, 78, 328, 110, 344, 82, 345, 114, 352, 83, 353, 115, 356, 84, 357, 116, 381, 90, 382, 122],
  [779, 32, 336, 79, 337, 111, 368, 85, 369, 117]]

/-- The entries of a row. -/
def pairsOf (m : Nat) : List Nat → List (Nat × Nat × Nat)
  | c :: l :: r => (c, l, m) :: pairsOf m r
  | _ => []
def rowT (r : List Nat) : List (Nat × Nat × Nat) := pairsOf (r.headD 0) (r.drop 2)
def compT : List (Nat × Nat × Nat) := compRunes.flatMap rowT
def updC (f : Nat → Option (Nat × Nat)) (p : Nat × Nat × Nat) : Nat → Option (Nat × Nat) := fun k => if k = p.1 then some p.2 else f k
def tabC (l : List (Nat × Nat × Nat)) : Nat → Option (Nat × Nat) := l.foldl updC fun _ => none
theorem tabC_snoc (l : List (Nat × Nat × Nat)) (p : Nat × Nat × Nat) : tabC (l ++ [p]) = updC (tabC l) p := by simp [tabC]
/-- How a pair of characters reads. -/
def pairR : Value → Option (DataW (Int × Int) × List MemPlace)
  | .agg cs => match cs.toList with
    | [.int .i32 a, .int .i32 b] => some (.held (a, b), [])
    | _ => none
  | _ => none
theorem pairR_inv {v : Value} {p : Int × Int} {ps : List MemPlace} (h : pairR v = some (.held p, ps)) : v = .agg #[.int .i32 p.1, .int .i32 p.2] := by
  unfold pairR at h
  split at h
  · rename_i cs
    split at h
    · rename_i a b hl
      injection h with h; injection h with h _; injection h with h; subst h
      rw [← Array.toArray_toList (xs := cs), hl]
    · cases h
  · cases h
/-- A map of characters to letters and marks in block b. -/
def MapC (w : World) (b n : Nat) (f : Nat → Option (Nat × Nat)) : Prop := ∃ D : DataW (Int × Int), w.ownsMap Tryd.prog 21 pairR b n D ∧
  (∀ c : Nat, Maps.has D (.int .i32 c) = (f c).isSome) ∧ ∀ c : Nat, D.atKey (.int .i32 c) (.held (0, 0)) = .held ((((f c).getD (0, 0)).1 : Nat), (((f c).getD (0, 0)).2 : Nat))
theorem zero73 (w : World) : (zeroValue 73).run Tryd.prog w = .ok (.agg #[.int .i32 0, .int .i32 0]) w := by kernel_rfl
set_option maxRecDepth 100000 in
theorem MapC.look {w : World} {b n : Nat} {f : Nat → Option (Nat × Nat)} (h : MapC w b n f) (c : Nat) (hc : c < 2147483648) :
    (Instr.lookup 71 (.map (some b)) (.int .i32 c) true).run Tryd.prog w = .ok (.tuple #[.agg #[.int .i32 (((f c).getD (0, 0)).1 : Nat), .int .i32 (((f c).getD (0, 0)).2 : Nat)], .bool (f c).isSome]) w := by
  obtain ⟨D, ho, h1, h2⟩ := h
  obtain ⟨v, ps, hr, hv⟩ := ho.look_ok keyed21 Tryd.underlying71 (zero73 w) (zd := .held (0, 0)) (zp := []) rfl (keyOf_i32 c hc)
  rw [h2 c] at hv
  rw [hr, h1 c, pairR_inv hv]
theorem MapC.maps {w w' : World} {b n : Nat} {f : Nat → Option (Nat × Nat)} (h : MapC w b n f) (k : MapsKept w w') : MapC w' b n f := by
  obtain ⟨D, ⟨es, clock, hh, F, hs, hD⟩, h1, h2⟩ := h
  exact ⟨D, ⟨es, clock, (k _ _ _ hh).trans hh, F, hs, hD⟩, h1, h2⟩
theorem MapC.put {w' : World} {b n : Nat} {f : Nat → Option (Nat × Nat)} {D : DataW (Int × Int)} (hm : Maps.IsMap D) (h1 : ∀ c : Nat, Maps.has D (.int .i32 c) = (f c).isSome) (h2 : ∀ c : Nat, D.atKey (.int .i32 c) (.held (0, 0)) = .held ((((f c).getD (0, 0)).1 : Nat), (((f c).getD (0, 0)).2 : Nat)))
    (c l m : Nat) (ho : w'.ownsMap Tryd.prog 21 pairR b n (D.put (.int .i32 c) (.held ((l : Int), (m : Int))))) : MapC w' b n (updC f (c, l, m)) := by
  refine ⟨_, ho, fun k => ?_, fun k => ?_⟩
  · by_cases e : k = c
    · subst e; rw [Maps.has_put_same (k := .int .i32 (k : Int)) hm trivial]; simp [updC]
    · rw [Maps.has_put_other (lit_ne32 e), h1]; simp [updC, e]
  · by_cases e : k = c
    · subst e; rw [Maps.atKey_put_same (k := .int .i32 (k : Int)) hm trivial]; simp [updC]
    · rw [Maps.atKey_put_other (lit_ne32 e), h2]; simp [updC, e]
/-- The characters of a string, as []rune(s) lays them. -/
theorem conv_runes (s : ByteArray) : ∀ (rs : List Nat) (bound pos : Nat) (acc : Array Value), RunesFrom s pos rs → s.size ≤ pos + bound → Conv.runesFrom s bound pos acc = acc ++ (rs.map fun c : Nat => Value.int .i32 c).toArray := by
  intro rs
  induction rs with
  | nil =>
    intro bound pos acc h hb
    have h : pos = s.size := h
    cases bound with
    | zero => simp [Conv.runesFrom]
    | succ b => unfold Conv.runesFrom; rw [if_neg (by omega)]; simp
  | cons c rs ih =>
    intro bound pos acc h hb
    obtain ⟨h1, h2, h3, h4, h5⟩ := h
    cases bound with
    | zero => omega
    | succ b =>
      unfold Conv.runesFrom
      rw [if_pos h1]
      show Conv.runesFrom s b (pos + (Utf8.decode s pos).2) (acc.push (.int .i32 (Int.ofNat (Utf8.decode s pos).1))) = _
      rw [ih b _ _ h5 (by omega), h2]
      simp
theorem run_runes (W : World) (l : Bs) (rs : List Nat) (h : RunesFrom ⟨l.toArray⟩ 0 rs) (hl : l.length ≤ 1000000) : ∃ cap zs, (convert 9 29 (S l)).run Tryd.prog W = .ok (.slice (some ⟨W.heap.size, 0, none⟩) rs.length cap) (W.drew.alloc (.cells ((rs.map fun c : Nat => Value.int .i32 c) ++ zs).toArray 21)) := by
  have e := conv_runes ⟨l.toArray⟩ rs (⟨l.toArray⟩ : ByteArray).size 0 #[] h (by omega)
  have hz := size_runesFrom ⟨l.toArray⟩ (⟨l.toArray⟩ : ByteArray).size 0 #[]
  have hsz : (⟨l.toArray⟩ : ByteArray).size = l.length := by simp [ByteArray.size]
  have h46 : (Conv.runesFrom ⟨l.toArray⟩ (⟨l.toArray⟩ : ByteArray).size 0 #[]).size ≤ 70368744177664 := by simp at hz; omega
  have hr := run_runes_of_string (P := Tryd.prog) W 9 29 21 ⟨l.toArray⟩ Tryd.underlying9 Tryd.underlying29 Tryd.underlying21 h46
  rw [e] at hr
  refine ⟨grownCap W (#[] ++ (rs.map fun c : Nat => Value.int .i32 c).toArray).size 0 21, (Array.replicate (grownCap W (#[] ++ (rs.map fun c : Nat => Value.int .i32 c).toArray).size 0 21 - (#[] ++ (rs.map fun c : Nat => Value.int .i32 c).toArray).size) (Value.int .i32 0)).toList, hr.trans ?_⟩
  simp
  rw [show ∀ (L : List Value) (n : Nat) (v : Value), L.toArray ++ Array.replicate n v = (L ++ List.replicate n v).toArray from fun L n v => Array.toList_inj.1 (by simp)]
theorem rows_runes : ∀ i : Fin 13, RunesFrom ⟨(compRows.getD i.val []).toArray⟩ 0 (compRunes.getD i.val []) ∧ (compRows.getD i.val []).length ≤ 1000 ∧ 2 ≤ (compRunes.getD i.val []).length ∧ (compRunes.getD i.val []).length ≤ 100 ∧ (∀ c ∈ compRunes.getD i.val [], c < 65536) := by decide +kernel

theorem pairs_step (m : Nat) (r : List Nat) (k : Nat) (h : k + 1 < r.length) : pairsOf m (r.drop k) = (r[k], r[k + 1], m) :: pairsOf m (r.drop (k + 2)) := by
  rw [List.drop_eq_getElem_cons (by omega), List.drop_eq_getElem_cons (show k + 1 < r.length by omega)]; rfl
theorem pairs_end (m : Nat) (r : List Nat) (k : Nat) (h : ¬ k + 1 < r.length) : pairsOf m (r.drop k) = [] := by
  have : (r.drop k).length ≤ 1 := by simp; omega
  match hr : r.drop k with
  | [] => rfl
  | [_] => rfl
  | _ :: _ :: _ => rw [hr] at this; simp at this
theorem comp_len : compT.length ≤ 1000 := by decide +kernel
set_option maxHeartbeats 4000000 in
set_option maxRecDepth 100000 in
theorem composed_34 (w : World) : Calls Tryd.prog 34 #[] w fun e w' => ∃ b n, e = .returned (.map (some b)) ∧ MapC w' b n (tabC compT) ∧ Below w.heap.size w w' ∧ w.heap.size ≤ b := by
  have hmm := @run_makeMap Tryd.prog
  have mixed : Tryd.prog.follows Departure.mixedOrders = true := by kernel_rfl
  go_enter Tryd.func34, Tryd.ntmps34
  go_wp2
  have HC0 : Hid (∀ j, j < 13 → ((w.alloc (Obj.map #[] 0)).alloc (Obj.cells (compRows.map S).toArray 9)).cell? ⟨w.heap.size + 1, j, none⟩ = some (S (compRows.getD j []))) := fun j hj => by
    have e : w.heap.size + 1 = (w.alloc (Obj.map #[] 0)).heap.size := by simp
    rw [e, World.cell?_alloc_new]
    have h13 : compRows.length = 13 := rfl
    rw [List.getElem?_toArray, List.getElem?_map, List.getElem?_eq_getElem (by omega), List.getD_eq_getElem?_getD, List.getElem?_eq_getElem (by omega)]
    rfl
  go_loopw [9] (fun i wr => ∃ (k : Nat) (prev : List (Nat × Nat × Nat)), k ≤ 13 ∧ i = .int .i64 k ∧ Hid (prev ++ (compRunes.drop k).flatMap rowT = compT) ∧ Hid (MapC wr w.heap.size prev.length (tabC prev)) ∧ Below w.heap.size w wr ∧ w.heap.size + 2 ≤ wr.heap.size ∧
      Hid (∀ j, j < 13 → wr.cell? ⟨w.heap.size + 1, j, none⟩ = some (S (compRows.getD j [])))) (fun i _ => 13 - (intOf i).toNat)
  case atStart =>
    refine ⟨0, [], by omega, rfl, Lib.hid rfl, Lib.hid ?_, ((Below.refl _ _).alloc (Nat.le_refl _) _).alloc (by simp) _, by simp, HC0⟩
    exact ⟨.map [], (World.ownsMap_made _ _ _ _).alloc _, fun _ => rfl, fun _ => rfl⟩
  case round =>
    obtain ⟨k, prev, hk, rfl, HP, HM, hb, hz, HC⟩ := hrel
    by_cases hk13 : k < 13
    · obtain ⟨hrr, hl1, h2, h3, h4⟩ := rows_runes ⟨k, hk13⟩
      simp only at hrr hl1 h2 h3 h4
      have c0 : wr.cell? ⟨w.heap.size + 1, k, none⟩ = some (S (compRows.getD k [])) := HC.out k hk13
      have HDK : Hid ((compRunes.drop k).flatMap rowT = rowT (compRunes.getD k []) ++ (compRunes.drop (k + 1)).flatMap rowT) := by
        have h13 : compRunes.length = 13 := rfl
        rw [List.drop_eq_getElem_cons (by omega), List.flatMap_cons, List.getD_eq_getElem?_getD, List.getElem?_eq_getElem (by omega)]
        exact Lib.hid rfl
      generalize compRows.getD k [] = row at *
      generalize compRunes.getD k [] = rs at *
      obtain ⟨cap, zs, hcv⟩ := run_runes wr row rs hrr (by omega)
      have HR0 : Hid (∀ j (h : j < rs.length), (wr.drew.alloc (.cells ((rs.map fun c : Nat => Value.int .i32 c) ++ zs).toArray 21)).cell? ⟨wr.heap.size, j, none⟩ = some (.int .i32 rs[j])) := fun j h => by
        show (World.alloc wr.drew _).cell? ⟨wr.drew.heap.size, j, none⟩ = _
        rw [World.cell?_alloc_new, List.getElem?_toArray, List.getElem?_append_left (by simpa using h)]
        simp [h]
      have hB1 : Below wr.heap.size wr (wr.drew.alloc (.cells ((rs.map fun c : Nat => Value.int .i32 c) ++ zs).toArray 21)) := (Below.refl _ wr).drew.alloc (by simp) _
      have hz1 : (wr.drew.alloc (.cells ((rs.map fun c : Nat => Value.int .i32 c) ++ zs).toArray 21)).heap.size = wr.heap.size + 1 := by show (wr.heap.push _).size = _; simp
      generalize (wr.drew.alloc (.cells ((rs.map fun c : Nat => Value.int .i32 c) ++ zs).toArray 21)) = w1 at *
      have HM1 : Hid (MapC w1 w.heap.size prev.length (tabC prev)) := Lib.hid (HM.out.maps (MapsKept.below hB1))
      have HC1 : Hid (∀ j, j < 13 → w1.cell? ⟨w.heap.size + 1, j, none⟩ = some (S (compRows.getD j []))) := fun j hj => bext hB1 _ _ (HC.out j hj)
      have hb1 := btr hb hB1 (by omega)
      have HH4 := Lib.hid h4
      have HZ1 := Lib.hid hz1
      have HL := Lib.hid hl1
      clear hrr h4 HM hz1 hl1
      have HB1 := Lib.hid hB1
      clear hB1
      obtain ⟨R, hR⟩ : ∃ R, wr.heap.size = R := ⟨_, rfl⟩
      rw [hR] at HR0 hcv HZ1 hz
      have hRR := Lib.hid hR
      have hk13i : (k : Int) < 13 := by omega
      have hdk : decide ((k : Int) < 13) = true := by simpa using hk13i
      clear hR
      go_wp2_with fail
      go_loopw [5] (fun i wx => ∃ (j : Nat) (pv : List (Nat × Nat × Nat)), 2 ≤ j ∧ j ≤ rs.length ∧ i = .int .i64 j ∧ Hid (pv ++ pairsOf (rs.headD 0) (rs.drop j) = prev ++ rowT rs) ∧ Hid (MapC wx w.heap.size pv.length (tabC pv)) ∧ Below w.heap.size w wx ∧ R + 1 ≤ wx.heap.size ∧
        Hid (∀ j, j < 13 → wx.cell? ⟨w.heap.size + 1, j, none⟩ = some (S (compRows.getD j []))) ∧ Hid (∀ j (h : j < rs.length), wx.cell? ⟨R, j, none⟩ = some (.int .i32 rs[j]))) (fun i _ => rs.length - (intOf i).toNat)
      case atStart => exact ⟨2, prev, by omega, h2, rfl, Lib.hid rfl, HM1, hb1, by have := HZ1.out; omega, HC1, HR0⟩
      case round =>
        obtain ⟨j, pv, hj2, hjl, rfl, HPV, HMX, hbx, hzx, HCX, HRX⟩ := hrel
        by_cases hj : j + 1 < rs.length
        · have d0 := HRX.out 0 (by omega)
          have d1 := HRX.out j (by omega)
          have d2 := HRX.out (j + 1) hj
          have hj' : (j : Int) + 1 < rs.length := by omega
          have hj1 : (j : Int) < rs.length := by omega
          have hj2' : (0 : Int) ≤ j := by omega
          have hj3 : (0 : Int) ≤ (j : Int) + 1 := by omega
          have hj4 : (0 : Int) < rs.length := by omega
          have hj6 : 0 < rs.length := by omega
          have hj5 : ((j : Int) + 1).toNat = j + 1 := by omega
          have HST := Lib.hid (pairs_step (rs.headD 0) rs j hj)
          have HHD : Hid (rs.headD 0 = rs[0]) := Lib.hid (by cases rs with | nil => simp at hj | cons a r => rfl)
          have hx1 : rs[j] < 2147483648 := by have := HH4.out rs[j] (List.getElem_mem _); omega
          have k1 : IntKind.i64.wrap ((j : Int) + 1) = j + 1 := IntWalk.i64_in _ (by omega)
          have k2 : IntKind.i64.wrap ((j : Int) + 2) = j + 2 := IntWalk.i64_in _ (by omega)
          obtain ⟨D, hown, hh0, ha0⟩ := HMX.out
          have HOW := Lib.hid hown
          have HH0 := Lib.hid hh0
          have HA0 := Lib.hid ha0
          have hpl : pv.length < maxLen := by
            have h1 := congrArg List.length HPV.out
            have h2 := congrArg List.length HP.out
            rw [HDK.out] at h2
            have h3 := comp_len
            simp at h1 h2
            unfold maxLen
            omega
          clear hown hh0 ha0
          go_wp2_with fail
          go_still_tail 14, mixed
          have HOW1 : wr.drew.ownsMap Tryd.prog 21 pairR w.heap.size pv.length D := HOW.out
          refine wpList_mapUpdate_own wr.drew rfl _ _ _ 71 rfl 21 73 keyed21 Tryd.underlying71 pairR w.heap.size pv.length D rfl HOW1 hpl _ _ _ rfl rfl (keyOf_i32 _ hx1) (.held ((rs[j + 1] : Int), (rs[0] : Int))) [] rfl ?_
          intro w2 hown2 hg2
          have HO2 := Lib.hid hown2
          have HG2 := Lib.hid hg2
          clear hown2 hg2
          go_frame
          go_wp2_with fail
          go_roundw
          case rel =>
            refine ⟨j + 2, pv ++ [(rs[j], rs[j + 1], rs[0])], by omega, by omega, by go_num, ?_, ?_, hbx.drew.grown HG2.out (by have := hbx.size; exact this) (fun q hq => by cases hq; exact Nat.le_refl _), Nat.le_trans hzx HG2.out.size, fun q hq => ?_, fun q hq => ?_⟩
            · have := HPV.out
              rw [HST.out, HHD.out] at this
              rw [HHD.out, List.append_assoc]; exact this
            · rw [tabC_snoc, List.length_append]
              exact MapC.put HOW.out.isMap HH0.out HA0.out _ _ _ HO2.out
            · rw [HG2.out.cell_far ⟨w.heap.size + 1, q, none⟩ (by show _ < wr.heap.size; simp; omega) (by simp)]; exact HCX.out q hq
            · rw [HG2.out.cell_far ⟨R, q, none⟩ (by show _ < wr.heap.size; simp; omega) (by simp; omega)]; exact HRX.out q hq
          case measure => simp [intOf]; omega
        · have hj' : ¬ (j : Int) + 1 < rs.length := by omega
          have HEN := Lib.hid (pairs_end (rs.headD 0) rs j hj)
          have k1 : IntKind.i64.wrap ((j : Int) + 1) = j + 1 := IntWalk.i64_in _ (by have := HL.out; omega)
          go_wp2_with fail
          go_roundw
          case rel =>
            have hpv : pv = prev ++ rowT rs := by have := HPV.out; rw [HEN.out, List.append_nil] at this; exact this
            subst hpv
            exact ⟨k + 1, prev ++ rowT rs, by omega, by go_num, Lib.hid (by have := HP.out; rw [HDK.out] at this; rw [List.append_assoc]; exact this), HMX, hbx, by omega, HCX⟩
          case measure => simp [intOf]; omega
    · have hk0 : k = 13 := by omega
      subst hk0
      go_wp2_with fail
      go_ret
      have hp : prev = compT := by have := HP.out; simpa [show compRunes.drop 13 = [] from rfl] using this
      subst hp
      exact ⟨_, _, rfl, HM.out, hb, Nat.le_refl _⟩
end Go.Proofs.YtpkacoknpedolaaDoor
