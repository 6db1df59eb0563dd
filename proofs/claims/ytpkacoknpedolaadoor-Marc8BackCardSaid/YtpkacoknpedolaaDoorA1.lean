/-
  Words for bytes and memory; MARC-8's tables and its decoding, plain; what the laws say of decoding.
-/
import Derived.WalkKit
import Derived.WalkSpells
import Derived.WalkLawsBesides
import Derived.Lib.Hide
import Derived.Lib.Strings
import Derived.Lib.RuneBytes
namespace Go.Proofs.YtpkacoknpedolaaDoor
open Go.RowKit

abbrev Bs := List UInt8
/-- A list of bytes as a Go string. -/
abbrev S (l : Bs) : Value := .string ⟨l.toArray⟩

theorem ba_get (l : Bs) (k : Nat) (h : k < (⟨l.toArray⟩ : ByteArray).size) : (⟨l.toArray⟩ : ByteArray)[k]'h = l[k]'(by simpa [ByteArray.size] using h) := rfl
attribute [go_sem] ba_get
theorem ba_list (l : Bs) : (⟨l.toArray⟩ : ByteArray).toList = l := by rw [Lib.toList_data]
theorem ba_extract (l : Bs) (a b : Nat) : (⟨l.toArray⟩ : ByteArray).extract a b = ⟨((l.take b).drop a).toArray⟩ := by
  apply ByteArray.ext
  rw [ByteArray.data_extract]
  simp [List.extract_eq_take_drop, List.drop_take]
theorem ba_append (a b : Bs) : (⟨a.toArray⟩ : ByteArray) ++ (⟨b.toArray⟩ : ByteArray) = ⟨(a ++ b).toArray⟩ := by
  apply ByteArray.ext
  rw [ByteArray.data_append]
  simp
attribute [go_sem] ba_list ba_extract ba_append
theorem u8_lt (c : UInt8) : (c.toNat : Int) < 256 := by have := c.toNat_lt; omega
theorem u8_ge (c : UInt8) : 0 ≤ (c.toNat : Int) := by omega

/-- The world w' is w but for block b. -/
structure Only (b : Nat) (w w' : World) : Prop where
  os : w'.os = w.os
  tape : w'.tape = w.tape
  output : w'.output = w.output
  size : w'.heap.size = w.heap.size
  block : ∀ k, k ≠ b → w'.heap[k]? = w.heap[k]?
theorem Only.refl (b : Nat) (w : World) : Only b w w := ⟨rfl, rfl, rfl, rfl, fun _ _ => rfl⟩
theorem Only.trans {b : Nat} {x y z : World} (h : Only b x y) (k : Only b y z) : Only b x z :=
  ⟨k.os.trans h.os, k.tape.trans h.tape, k.output.trans h.output, k.size.trans h.size, fun i hi => (k.block i hi).trans (h.block i hi)⟩
theorem Only.drew {b : Nat} {a w : World} (h : Only b a w) : Only b a w.drew := ⟨h.os, h.tape, h.output, h.size, h.block⟩
theorem Only.setCell {b : Nat} {a w : World} (h : Only b a w) (o : Nat) (u : Value) : Only b a (w.setCell ⟨b, o, none⟩ u) :=
  h.trans ⟨rfl, rfl, rfl, by simp [World.setCell], fun k hk => Below.heap_setCell _ _ _ _ hk⟩
theorem Only.below {b B : Nat} {w w' : World} (h : Only b w w') (hb : B ≤ b) : Below B w w' :=
  ⟨h.os, h.tape, h.output, by rw [h.size]; exact Nat.le_refl _, fun k hk => h.block k (by omega)⟩
theorem Only.cell {b : Nat} {w w' : World} (h : Only b w w') {p : Addr} (hp : p.block ≠ b) : w'.cell? p = w.cell? p := World.cell?_of_block (w := w) (h.block p.block hp)
theorem Only.frozen {b : Nat} {w w' : World} (h : Only b w w') {p : Addr} (hp : p.block ≠ b) : w'.frozen? p = w.frozen? p := World.frozen?_of_block (w := w) (h.block p.block hp)

/-- Two steps, the second one above a higher number. -/
theorem btr {B B' : Nat} {x y z : World} (h : Below B x y) (k : Below B' y z) (hB : B ≤ B') : Below B x z := h.trans (k.mono hB)
theorem bcell {W w1 : World} (hb : Below W.heap.size W w1) : (∀ b o, b < W.heap.size → w1.cell? ⟨b, o, none⟩ = W.cell? ⟨b, o, none⟩) ∧ (∀ b o, b < W.heap.size → w1.frozen? ⟨b, o, none⟩ = W.frozen? ⟨b, o, none⟩) :=
  ⟨fun b o h => hb.cell (p := ⟨b, o, none⟩) h, fun b o h => hb.frozen (p := ⟨b, o, none⟩) h⟩
theorem cell_lt {w : World} {p : Addr} {v : Value} (h : w.cell? p = some v) : p.block < w.heap.size := by
  unfold World.cell? at h
  by_cases hp : p.block < w.heap.size
  · exact hp
  · rw [Array.getElem?_eq_none (by omega)] at h; cases h

theorem bext {w w' : World} (hb : Below w.heap.size w w') : ∀ p x, w.cell? p = some x → w'.cell? p = some x := fun p x h => by rw [hb.cell (cell_lt h)]; exact h

/-- The world w' is as w was in the blocks from lo on and below hi. -/
def Kept (lo hi : Nat) (w w' : World) : Prop := ∀ k, lo ≤ k → k < hi → w'.heap[k]? = w.heap[k]?
theorem bkept {B hi : Nat} {w w' : World} (h : Below B w w') (hh : hi ≤ B) : Kept 0 hi w w' := fun k _ h2 => h.block k (by omega)
theorem Kept.trans {lo hi : Nat} {x y z : World} (h : Kept lo hi x y) (k : Kept lo hi y z) : Kept lo hi x z := fun i h1 h2 => (k i h1 h2).trans (h i h1 h2)
theorem Kept.mono {lo hi lo' hi' : Nat} {w w' : World} (h : Kept lo hi w w') (h1 : lo ≤ lo') (h2 : hi' ≤ hi) : Kept lo' hi' w w' := fun k a b => h k (by omega) (by omega)
theorem Only.kept {b lo hi : Nat} {w w' : World} (h : Only b w w') (hb : b < lo ∨ hi ≤ b) : Kept lo hi w w' := fun k h1 h2 => h.block k (by omega)

/-- A slice of n elements whose cells are known; they lie in a block from lo on and below hi. -/
def SliceAt (lo hi : Nat) (w : World) (v : Value) (n : Nat) (cs : List Value) : Prop :=
  ∃ a cap, v = .slice a n cap ∧ (cs ≠ [] → ∃ b off, a = some ⟨b, off, none⟩ ∧ lo ≤ b ∧ b < hi ∧ ∀ j x, cs[j]? = some x → w.cell? ⟨b, off + j, none⟩ = some x)
theorem SliceAt.kept {lo hi : Nat} {w w' : World} {v : Value} {n : Nat} {cs : List Value} (h : SliceAt lo hi w v n cs) (k : Kept lo hi w w') : SliceAt lo hi w' v n cs := by
  obtain ⟨a, cap, hv, h⟩ := h
  refine ⟨a, cap, hv, fun hc => ?_⟩
  obtain ⟨b, off, ha, h1, h2, h3⟩ := h hc
  exact ⟨b, off, ha, h1, h2, fun j x hx => by rw [World.cell?_of_block (w := w) (k b h1 h2)]; exact h3 j x hx⟩
theorem SliceAt.mono {lo hi lo' hi' : Nat} {w : World} {v : Value} {n : Nat} {cs : List Value} (h : SliceAt lo hi w v n cs) (h1 : lo' ≤ lo) (h2 : hi ≤ hi') : SliceAt lo' hi' w v n cs := by
  obtain ⟨a, cap, hv, h⟩ := h
  refine ⟨a, cap, hv, fun hc => ?_⟩
  obtain ⟨b, off, ha, h3, h4, h5⟩ := h hc
  exact ⟨b, off, ha, by omega, by omega, h5⟩

theorem alloc_old (w : World) (o : Obj) (b i : Nat) (h : b < w.heap.size) : (w.alloc o).cell? ⟨b, i, none⟩ = w.cell? ⟨b, i, none⟩ :=
  World.cell?_of_block (w := w) (Below.heap_alloc w o b h)

/-! The tables: byte and character. -/
/-- The characters that all sets have. -/
def uppersT : List (Nat × Nat) := [(136, 152), (137, 156), (141, 8205), (142, 8204), (161, 321), (162, 216), (163, 272), (164, 222), (165, 198), (166, 338), (167, 697), (168, 183), (169, 9837), (170, 174), (171, 177), (172, 416), (173, 431), (174, 700), (176, 699), (177, 322), (178, 248), (179, 273), (180, 254), (181, 230), (182, 339), (183, 698), (184, 305), (185, 163), (186, 240), (188, 417), (189, 432), (192, 176), (193, 8467), (194, 8471), (195, 169), (196, 9839), (197, 191), (198, 161), (199, 223), (200, 8364)]
/-- The marks. -/
def marksT : List (Nat × Nat) := [(224, 777), (225, 768), (226, 769), (227, 770), (228, 771), (229, 772), (230, 774), (231, 775), (232, 776), (233, 780), (234, 778), (235, 65056), (236, 65057), (237, 789), (238, 779), (239, 784), (240, 807), (241, 808), (242, 803), (243, 804), (244, 805), (245, 819), (246, 818), (247, 806), (248, 796), (249, 814), (250, 65058), (251, 65059), (254, 787)]
def asciiT : Nat → List (Nat × Nat) := fun last => (List.range (last + 1 - 32)).map fun i => (32 + i, 32 + i)
def capitalsL : List Nat := [913, 914, 915, 916, 917, 918, 919, 920, 921, 922, 923, 924, 925, 926, 927, 928, 929, 931, 932, 933, 934, 935, 936, 937]
def smallsL : List Nat := [945, 946, 947, 948, 949, 950, 951, 952, 953, 954, 955, 956, 957, 958, 959, 960, 961, 963, 964, 965, 966, 967, 968, 969, 962]
def slavicL : List Nat := [1102, 1072, 1073, 1094, 1076, 1077, 1092, 1075, 1093, 1080, 1081, 1082, 1083, 1084, 1085, 1086, 1087, 1103, 1088, 1089, 1090, 1091, 1078, 1074, 1100, 1099, 1079, 1096, 1101, 1097, 1095, 1098]
def largeL : List Nat := [1070, 1040, 1041, 1062, 1044, 1045, 1060, 1043, 1061, 1048, 1049, 1050, 1051, 1052, 1053, 1054, 1055, 1071, 1056, 1057, 1058, 1059, 1046, 1042, 1068, 1067, 1047, 1064, 1069, 1065, 1063]

def numbered : Nat → List Nat → List (Nat × Nat)
  | _, [] => []
  | a, c :: l => (a, c) :: numbered (a + 1) l
/-- The letters of a set: 0 ASCII, 1 Greek, 2 Cyrillic. -/
def setT : Nat → List (Nat × Nat)
  | 0 => asciiT 126
  | 1 => asciiT 64 ++ numbered 65 capitalsL ++ numbered 97 smallsL
  | _ => asciiT 63 ++ numbered 64 slavicL ++ numbered 96 largeL
def look : List (Nat × Nat) → Nat → Option Nat
  | [], _ => none
  | (a, b) :: l, k => if a = k then some b else look l k
/-- A character's bytes in UTF-8. -/
def enc (c : Nat) : Bs := Lib.encodeRune (c : Int)
/-- What was read so far: the text, the marks that wait, where they begin, the set. -/
structure DS where
  out : Bs
  held : Bs
  first : Nat
  now : Nat
/-- The set of an escape, by what follows it. -/
def openedR (rest : Bs) : Except Int Nat :=
  match rest with
  | [] => .error 10
  | [a] => if a = 40 then .error 10 else .error 15
  | a :: b :: _ => if a ≠ 40 then .error 15 else if b = 66 then .ok 0 else if b = 83 then .ok 1 else if b = 78 then .ok 2 else .error 15
def decStep (s : Bs) (k : Nat) (d : DS) : Except (Nat × Int) (DS × Nat) :=
  let b := s.getD k 0
  if b.toNat < 32 then
    if d.held ≠ [] then .error (k, 15)
    else if b ≠ 27 then .ok ({ d with out := d.out ++ [b] }, k + 1)
    else match openedR (s.drop (k + 1)) with
      | .error e => .error (k, e)
      | .ok n => .ok ({ d with now := n }, k + 3)
  else match look marksT b.toNat with
    | some m => .ok ({ d with first := if d.held = [] then k else d.first, held := d.held ++ enc m }, k + 1)
    | none => match (if b.toNat < 128 then look (setT d.now) b.toNat else look uppersT b.toNat) with
      | some c => .ok ({ d with out := d.out ++ enc c ++ d.held, held := [] }, k + 1)
      | none => .error (k, 15)
def decGo : Nat → Bs → Nat → DS → Except (Nat × Int) DS
  | 0, _, _, d => .ok d
  | f + 1, s, k, d => if k < s.length then
      match decStep s k d with
      | .error e => .error e
      | .ok (d', k') => decGo f s k' d'
    else .ok d
def decEnd : Except (Nat × Int) DS → Bs × Int × Int
  | .error (k, e) => ([], k, e)
  | .ok d => if d.held = [] then (d.out, 0, 0) else ([], d.first, 10)
def decodeR (s : Bs) : Bs × Int × Int := decEnd (decGo s.length s 0 ⟨[], [], 0, 0⟩)

/-! Marc8Plain, decoding. -/
def plainB (c : UInt8) : Bool := decide (c.toNat < 127) && !decide (c = 27)
theorem look_ascii : ∀ b : Fin 127, 32 ≤ b.val → look (setT 0) b.val = some b.val ∧ look marksT b.val = none ∧ enc b.val = [UInt8.ofNat b.val] := by decide
theorem dec_plain_step (s : Bs) (k : Nat) (out : Bs) (first : Nat) (b : UInt8) (hb : s.getD k 0 = b) (hp : plainB b = true) : decStep s k ⟨out, [], first, 0⟩ = .ok (⟨out ++ [b], [], first, 0⟩, k + 1) := by
  unfold plainB at hp
  simp only [Bool.and_eq_true, decide_eq_true_eq, Bool.not_eq_true', decide_eq_false_iff_not] at hp
  unfold decStep
  simp only [hb]
  by_cases h : b.toNat < 32
  · rw [if_pos h, if_neg (by simp), if_pos hp.2]
  · obtain ⟨h1, h2, h3⟩ := look_ascii ⟨b.toNat, hp.1⟩ (by show 32 ≤ b.toNat; omega)
    simp only at h1 h2 h3
    rw [if_neg h, h2]
    simp only
    rw [if_pos (show b.toNat < 128 by omega), h1]
    simp only [h3, UInt8.ofNat_toNat, List.append_nil]
theorem dec_plain (s : Bs) (h : ∀ b ∈ s, plainB b = true) : ∀ (f k : Nat) (out : Bs) (first : Nat), s.length ≤ k + f → k ≤ s.length → decGo f s k ⟨out, [], first, 0⟩ = .ok ⟨out ++ s.drop k, [], first, 0⟩ := by
  intro f
  induction f with
  | zero =>
    intro k out first h1 h2
    rw [decGo, List.drop_of_length_le (by omega), List.append_nil]
  | succ f ih =>
    intro k out first h1 h2
    rw [decGo]
    by_cases hk : k < s.length
    · have hb : s.getD k 0 = s[k] := by simp [hk]
      rw [if_pos hk, dec_plain_step s k out first s[k] hb (h _ (List.getElem_mem hk))]
      simp only
      rw [ih (k + 1) _ first (by omega) hk, List.append_assoc]
      congr 2
      rw [List.drop_eq_getElem_cons hk]; rfl
    · rw [if_neg hk, List.drop_of_length_le (by omega), List.append_nil]
theorem decode_plain (s : Bs) (h : ∀ b ∈ s, plainB b = true) : decodeR s = (s, 0, 0) := by
  unfold decodeR
  rw [dec_plain s h _ 0 [] 0 (by omega) (by omega)]
  simp [decEnd]
end Go.Proofs.YtpkacoknpedolaaDoor
