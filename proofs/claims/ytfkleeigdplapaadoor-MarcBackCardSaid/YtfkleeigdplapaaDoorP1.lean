/-
  The walks of the program's small functions: numbers, the check that panics, prefixes.
  The contracts of Go's library that the program calls, at this program: the shelf's theorems applied.
  The walk of the program's isTag.
-/
import Derived.Test.YtfkleeigdplapaaDoorW1
import Derived.WalkLawsBesides
import Derived.Laws.IdiomStrings
import Derived.Shelf.Strings.Builder1
import Derived.Shelf.Strings.SlTrimAscii
import Derived.Shelf.Unicode.DecodeAny
import Derived.Test.YtfkleeigdplapaaDoorProg
namespace Go.Proofs.YtfkleeigdplapaaDoor
open Go.RowKit

/-- The bytes of a string, as a slice in a new block. -/
theorem bytes_of (l : Bs) (w : World) : ∃ cap w1, (convert 9 40 (S l)).run Tryd.prog w = .ok (.slice (some ⟨w.heap.size, 0, none⟩) l.length cap) w1 ∧ w1.heap.size = w.heap.size + 1 ∧ l.length ≤ cap ∧ Below w.heap.size w w1 ∧
    (∀ k (h : k < l.length), w1.cell? ⟨w.heap.size, k, none⟩ = some (.int .u8 l[k].toNat)) ∧ (∀ k, k < l.length → w1.frozen? ⟨w.heap.size, k, none⟩ = false) := by
  have hcap : l.length ≤ grownCap w l.length 0 5 := grownCap_ge w l.length 0 5
  refine ⟨_, _, run_bytes_of_string w 9 40 5 ⟨l.toArray⟩ Tryd.underlying9 Tryd.underlying40 Tryd.underlying5, by simp, hcap, ((Below.refl _ w).drew).alloc (by simp) _, ?_, ?_⟩
  · intro k h
    refine (World.cell?_alloc_mark w.drew _ _ _ k).trans ?_
    have h2 : k < (Array.map (fun b : UInt8 => Value.int IntKind.u8 ↑b.toNat) (⟨l.toArray⟩ : ByteArray).data).size := by simpa using h
    unfold bytesRow
    rw [Array.getElem?_append_left h2]
    simp [h]
  · intro k h
    refine (World.frozen?_alloc_mark w.drew _ _ _ _ k).trans ?_
    have h2 : k < (bytesRow ⟨l.toArray⟩ (grownCap w l.length 0 5)).size := by unfold bytesRow; simp; omega
    have h3 : (decide ((bytesRow ⟨l.toArray⟩ (grownCap w l.length 0 5)).size ≤ k)) = false := by simpa using h2
    show (decide ((bytesRow ⟨l.toArray⟩ (grownCap w l.length 0 5)).size ≤ k) && _) = false
    rw [h3]; rfl

set_option maxRecDepth 100000 in
set_option maxHeartbeats 1000000 in
theorem number_52 (l : Bs) (w : World) (hl : l.length ≤ 8) : Calls Tryd.prog 52 #[S l] w fun e w' => e = .returned (.int .i64 (numB l)) ∧ Below w.heap.size w w' := by
  obtain ⟨cap, w1, hcv, hz, hcap, hb, hc, hf⟩ := bytes_of l w
  have HZ := Lib.hid hz
  have HC := Lib.hid hc
  clear hz hc hf
  go_enter Tryd.func52, Tryd.ntmps52
  go_wp2_with fail
  go_loop [2, 3, 5, 9] (fun r n c i => ∃ (k : Nat), k ≤ l.length ∧ i = .int .i64 k ∧ n = .int .i64 (numB (l.take k)) ∧ r = .int .i64 0 ∧ (l.take k).all digitB = true) (fun _ _ _ i => l.length - (intOf i).toNat)
  case atStart => exact ⟨0, Nat.zero_le _, rfl, rfl, rfl, rfl⟩
  case round =>
    obtain ⟨k, hk, rfl, rfl, rfl, ha⟩ := hrel
    by_cases hlt : k < l.length
    · have hn := numFrom_le (l.take k) ha 0 (by omega)
      have hb : numB (l.take k) < 100000000 := by
        have h5 : 10 ^ (l.take k).length ≤ 10 ^ 8 := Nat.pow_le_pow_right (by omega) (by simp; omega)
        have := hn.2
        unfold numB
        omega
      have hb0 : 0 ≤ numB (l.take k) := hn.1
      have HT := Lib.hid (take_snoc l k hlt)
      have HS := Lib.hid (numFrom_snoc 0 (l.take k) l[k] ha)
      have HA := Lib.hid ha
      have hck := HC.out k hlt
      clear hn ha
      by_cases hdg : digitB l[k] = true
      · have hd2 := hdg
        simp only [digitB, Bool.and_eq_true, decide_eq_true_eq] at hd2
        obtain ⟨hd3, hd4⟩ := hd2
        go_wp2_with (go_at_call 74; refine (digit_74 _ _).mono ?_; rintro e w' ⟨rfl, rfl⟩)
        go_round
        case rel => exact ⟨k + 1, by omega, by go_num, by rw [HT.out, show numB (l.take k ++ [l[k]]) = _ from HS.out, if_pos hdg]; unfold numB; go_num, rfl, by rw [HT.out]; exact all_snoc HA.out hdg⟩
        case measure => simp [intOf]; omega
      · have hdg2 : digitB l[k] = false := by simpa using hdg
        go_wp2_with (go_at_call 74; refine (digit_74 _ _).mono ?_; rintro e w' ⟨rfl, rfl⟩)
        go_ret
        exact ⟨ret_i64 (numFrom_bad l (fun h => by rw [List.all_eq_true] at h; exact hdg (h _ (List.getElem_mem hlt))) 0).symm, ‹Below _ _ _›⟩
    · go_wp2_with fail
      go_ret
      exact ⟨ret_i64 (by rw [List.take_of_length_le (by omega)]), ‹Below _ _ _›⟩
/-- What check panics with. -/
abbrev failV (at_ e : Int) : Ending := .panicked [{ v := .iface 85 (.agg #[.int .i64 at_, .int .i64 e]), recovered := false }]
theorem check_ok (at_ e : Int) (w : World) : Calls Tryd.prog 65 #[.bool true, .int .i64 at_, .int .i64 e] w fun e w' => e = .returned (.tuple #[]) ∧ w = w' := by
  go_enter Tryd.func65, Tryd.ntmps65
  go_wp2
  go_end0
  exact ⟨rfl, rfl⟩
theorem check_bad (at_ e : Int) (w : World) : Calls Tryd.prog 65 #[.bool false, .int .i64 at_, .int .i64 e] w fun e' w' => e' = failV at_ e ∧ w = w' := by
  go_enter Tryd.func65, Tryd.ntmps65
  go_wp2
  exact ⟨rfl, rfl, rfl⟩
/-- s begins with p. -/
def pfxB (p s : Bs) : Bool := decide (s.take p.length = p)
theorem hasPrefix_94 (s p : Bs) (w : World) : Calls Tryd.prog 94 #[S s, S p] w fun e w' => e = .returned (.bool (pfxB p s)) ∧ w = w' := by
  go_enter Tryd.func94, Tryd.ntmps94
  go_wp2
  all_goals go_ret
  all_goals refine ⟨ret_bool ?_, rfl⟩
  · rw [pfxB, Bool.eq_iff_iff]; simp
  · rename_i h
    symm; rw [pfxB, decide_eq_false_iff_not]
    intro h2; apply h; rw [← h2]; simp; omega
theorem hasPrefix_78 (s p : Bs) (w : World) : Calls Tryd.prog 78 #[S s, S p] w fun e w' => e = .returned (.bool (pfxB p s)) ∧ w = w' := by
  go_enter Tryd.func78, Tryd.ntmps78
  go_wp2_with (go_at_call 94; refine (hasPrefix_94 _ _ _).mono ?_; rintro e w' ⟨rfl, rfl⟩)
  go_ret
  exact ⟨rfl, rfl⟩
theorem control_57 (l : Bs) (w : World) : Calls Tryd.prog 57 #[S l] w fun e w' => e = .returned (.bool (ctrlB l)) ∧ w = w' := by
  go_enter Tryd.func57, Tryd.ntmps57
  go_wp2_with (go_at_call 78; refine (hasPrefix_78 _ [48, 48] _).mono ?_; rintro e w' ⟨rfl, rfl⟩)
  go_ret
  exact ⟨rfl, rfl⟩
end Go.Proofs.YtfkleeigdplapaaDoor

namespace Go.Proofs.YtfkleeigdplapaaDoor
open Go.Shelf
def lays197_ren : Go.Shelf.Ren := ⟨fun | 197 => 81 | 260 => 95 | n => n, fun | 9 => 9 | 21 => 21 | 3 => 3 | 4 => 4 | 5 => 5 | 105 => 111 | 119 => 124 | 0 => 0 | 46 => 125 | 139 => 128 | 138 => 127 | n => n, fun | 3 => 0 | 4 => 1 | n => n⟩
theorem lays197 : Go.Proofs.Lays.n197 Tryd.prog lays197_ren := {
  mixed := by kernel_rfl
  f197 := Tryd.func81.trans (congrArg some (by kernel_rfl))
  f260 := Tryd.func95.trans (congrArg some (by kernel_rfl))
  t0 := Tryd.underlying0
  a0 := Tryd.isAgg0
  z0 := Tryd.sizeOf0
  v0 := Tryd.zeroValue0
  t3 := Tryd.underlying3
  a3 := Tryd.isAgg3
  z3 := Tryd.sizeOf3
  v3 := Tryd.zeroValue3
  t4 := Tryd.underlying4
  a4 := Tryd.isAgg4
  z4 := Tryd.sizeOf4
  v4 := Tryd.zeroValue4
  t5 := Tryd.underlying5
  a5 := Tryd.isAgg5
  z5 := Tryd.sizeOf5
  v5 := Tryd.zeroValue5
  t9 := Tryd.underlying9
  a9 := Tryd.isAgg9
  z9 := Tryd.sizeOf9
  v9 := Tryd.zeroValue9
  t21 := Tryd.underlying21
  a21 := Tryd.isAgg21
  z21 := Tryd.sizeOf21
  v21 := Tryd.zeroValue21
  t46 := Tryd.underlying125
  a46 := Tryd.isAgg125
  z46 := Tryd.sizeOf125
  v46 := Tryd.zeroValue125
  t105 := Tryd.underlying111
  a105 := Tryd.isAgg111
  z105 := Tryd.sizeOf111
  v105 := Tryd.zeroValue111
  t119 := Tryd.underlying124
  a119 := Tryd.isAgg124
  z119 := Tryd.sizeOf124
  t138 := Tryd.underlying127
  a138 := Tryd.isAgg127
  z138 := Tryd.sizeOf127
  v138 := Tryd.zeroValue127
  t139 := Tryd.underlying128
  a139 := Tryd.isAgg128
  z139 := Tryd.sizeOf128
  v139 := Tryd.zeroValue128
  g3 := by kernel_rfl
  g4 := by kernel_rfl }
def lays160_ren : Go.Shelf.Ren := ⟨fun | 160 => 77 | 232 => 88 | 231 => 87 | 227 => 89 | 234 => 91 | 233 => 90 | 236 => 93 | 235 => 92 | 228 => 97 | 271 => 99 | 151 => 98 | 197 => 81 | 120 => 101 | 152 => 100 | 260 => 95 | 137 => 102 | 119 => 103 | 224 => 104 | 225 => 105 | 217 => 106 | 266 => 107 | n => n, fun | 9 => 9 | 4 => 4 | 3 => 3 | 5 => 5 | 117 => 119 | 116 => 118 | 0 => 0 | 124 => 122 | 21 => 21 | 105 => 111 | 46 => 125 | 119 => 124 | 139 => 128 | 138 => 127 | n => n, fun | 3 => 0 | 4 => 1 | n => n⟩
theorem lays160 : Go.Proofs.Lays.n160 Tryd.prog lays160_ren := {
  mixed := by kernel_rfl
  f119 := Tryd.func103.trans (congrArg some (by kernel_rfl))
  f120 := Tryd.func101.trans (congrArg some (by kernel_rfl))
  f137 := Tryd.func102.trans (congrArg some (by kernel_rfl))
  f151 := Tryd.func98.trans (congrArg some (by kernel_rfl))
  f152 := Tryd.func100.trans (congrArg some (by kernel_rfl))
  f160 := Tryd.func77.trans (congrArg some (by kernel_rfl))
  f197 := Tryd.func81.trans (congrArg some (by kernel_rfl))
  f217 := Tryd.func106.trans (congrArg some (by kernel_rfl))
  f224 := Tryd.func104.trans (congrArg some (by kernel_rfl))
  f225 := Tryd.func105.trans (congrArg some (by kernel_rfl))
  f227 := Tryd.func89.trans (congrArg some (by kernel_rfl))
  f228 := Tryd.func97.trans (congrArg some (by kernel_rfl))
  f231 := Tryd.func87.trans (congrArg some (by kernel_rfl))
  f232 := Tryd.func88.trans (congrArg some (by kernel_rfl))
  f233 := Tryd.func90.trans (congrArg some (by kernel_rfl))
  f234 := Tryd.func91.trans (congrArg some (by kernel_rfl))
  f235 := Tryd.func92.trans (congrArg some (by kernel_rfl))
  f236 := Tryd.func93.trans (congrArg some (by kernel_rfl))
  f260 := Tryd.func95.trans (congrArg some (by kernel_rfl))
  f266 := Tryd.func107.trans (congrArg some (by kernel_rfl))
  f271 := Tryd.func99.trans (congrArg some (by kernel_rfl))
  t0 := Tryd.underlying0
  a0 := Tryd.isAgg0
  z0 := Tryd.sizeOf0
  v0 := Tryd.zeroValue0
  t3 := Tryd.underlying3
  a3 := Tryd.isAgg3
  z3 := Tryd.sizeOf3
  v3 := Tryd.zeroValue3
  t4 := Tryd.underlying4
  a4 := Tryd.isAgg4
  z4 := Tryd.sizeOf4
  v4 := Tryd.zeroValue4
  t5 := Tryd.underlying5
  a5 := Tryd.isAgg5
  z5 := Tryd.sizeOf5
  v5 := Tryd.zeroValue5
  t9 := Tryd.underlying9
  a9 := Tryd.isAgg9
  z9 := Tryd.sizeOf9
  v9 := Tryd.zeroValue9
  t21 := Tryd.underlying21
  a21 := Tryd.isAgg21
  z21 := Tryd.sizeOf21
  v21 := Tryd.zeroValue21
  t46 := Tryd.underlying125
  a46 := Tryd.isAgg125
  z46 := Tryd.sizeOf125
  v46 := Tryd.zeroValue125
  t105 := Tryd.underlying111
  a105 := Tryd.isAgg111
  z105 := Tryd.sizeOf111
  v105 := Tryd.zeroValue111
  t116 := Tryd.underlying118
  a116 := Tryd.isAgg118
  z116 := Tryd.sizeOf118
  t117 := Tryd.underlying119
  a117 := Tryd.isAgg119
  z117 := Tryd.sizeOf119
  v117 := Tryd.zeroValue119
  t119 := Tryd.underlying124
  a119 := Tryd.isAgg124
  z119 := Tryd.sizeOf124
  t124 := Tryd.underlying122
  a124 := Tryd.isAgg122
  z124 := Tryd.sizeOf122
  v124 := Tryd.zeroValue122
  t138 := Tryd.underlying127
  a138 := Tryd.isAgg127
  z138 := Tryd.sizeOf127
  v138 := Tryd.zeroValue127
  t139 := Tryd.underlying128
  a139 := Tryd.isAgg128
  z139 := Tryd.sizeOf128
  v139 := Tryd.zeroValue128
  g3 := by kernel_rfl
  g4 := by kernel_rfl }

def lays240_ren : Go.Shelf.Ren := ⟨fun | 240 => 64 | 276 => 80 | n => n, fun | 0 => 0 | 4 => 4 | 9 => 9 | 20 => 20 | 70 => 74 | 72 => 76 | 164 => 109 | 37 => 40 | 5 => 5 | n => n, fun | n => n⟩
theorem lays240 : Go.Proofs.Lays.n240 Tryd.prog lays240_ren := {
  mixed := by kernel_rfl
  f240 := Tryd.func64.trans (congrArg some (by kernel_rfl))
  f276 := Tryd.func80.trans (congrArg some (by kernel_rfl))
  t0 := Tryd.underlying0
  a0 := Tryd.isAgg0
  z0 := Tryd.sizeOf0
  v0 := Tryd.zeroValue0
  t4 := Tryd.underlying4
  a4 := Tryd.isAgg4
  z4 := Tryd.sizeOf4
  v4 := Tryd.zeroValue4
  t9 := Tryd.underlying9
  a9 := Tryd.isAgg9
  z9 := Tryd.sizeOf9
  v9 := Tryd.zeroValue9
  t20 := Tryd.underlying20
  a20 := Tryd.isAgg20
  z20 := Tryd.sizeOf20
  v20 := Tryd.zeroValue20
  t70 := Tryd.underlying74
  a70 := Tryd.isAgg74
  z70 := Tryd.sizeOf74
  v70 := Tryd.zeroValue74
  t72 := Tryd.underlying76
  a72 := Tryd.isAgg76
  z72 := Tryd.sizeOf76
  v72 := Tryd.zeroValue76
  t164 := Tryd.underlying109
  a164 := Tryd.isAgg109
  z164 := Tryd.sizeOf109
  v164 := Tryd.zeroValue109 }
theorem builder240 : Builder.X72 Tryd.prog lays240_ren := { sizeBuilder := by kernel_rfl, liesBuilder := by kernel_rfl }
open Go.RowKit in
/-- copyCheck of a builder that has been written: nothing turns. -/
theorem copyCheck_used (b : Nat) (w : World) (h0 : w.cell? ⟨b, 0, none⟩ = some (.pointer (some ⟨b, 0, none⟩))) :
    Calls Tryd.prog 64 #[.pointer (some ⟨b, 0, none⟩)] w fun e w' => e = .returned (.tuple #[]) ∧ w' = w := Any.Builder_copyCheck_used lays240 builder240 b w h0
open Go.RowKit in
/-- copyCheck of a fresh builder: it holds its own address. -/
theorem copyCheck_fresh (b : Nat) (w : World) (h0 : w.cell? ⟨b, 0, none⟩ = some (.pointer none)) (hsh : w.shape? b = some (76, 2)) (hfz : w.frozen? ⟨b, 0, none⟩ = false) :
    Calls Tryd.prog 64 #[.pointer (some ⟨b, 0, none⟩)] w fun e w' => e = .returned (.tuple #[]) ∧ w' = w.setCell ⟨b, 0, none⟩ (.pointer (some ⟨b, 0, none⟩)) := Any.Builder_copyCheck_fresh lays240 builder240 b w h0 hsh hfz
open Go.RowKit in
/-- The tables of unicode/utf8 hold what their initialisers lay. -/
def Tabs (w : World) : Prop := Lib.Utf8Tabs 0 1 w
open Go.RowKit in
theorem decode_81 (s : ByteArray) (w : World) (hT : Tabs w) :
    Calls Tryd.prog 81 #[.string s] w fun e w' => e = .returned (.tuple #[.int .i32 (Lib.decodeGo s).1, .int .i64 (Lib.decodeGo s).2]) ∧ Below w.heap.size w w' := Any.utf8_DecodeRuneInString lays197 s w hT
open Go.RowKit in
theorem trim_77 (s : ByteArray) (w : World) (hs : s.size ≤ 9223372036854775807) :
    Calls Tryd.prog 77 #[.string s, .string ⟨#[48, 49, 50, 51, 52, 53, 54, 55, 56, 57]⟩] w fun e w' => e = .returned (.string ⟨(Lib.trimS s.data.toList [48, 49, 50, 51, 52, 53, 54, 55, 56, 57]).toArray⟩) ∧ Below w.heap.size w w' :=
  Any.strings_Trim_laid lays160 (by kernel_rfl) s ⟨#[48, 49, 50, 51, 52, 53, 54, 55, 56, 57]⟩ w hs (by decide) (ascii_of_all (by decide))
end Go.Proofs.YtfkleeigdplapaaDoor

namespace Go.Proofs.YtfkleeigdplapaaDoor
open Go.RowKit

def digs : Bs := [48, 49, 50, 51, 52, 53, 54, 55, 56, 57]
theorem digs_mem (b : UInt8) : digs.contains b = digitB b := by
  have : ∀ n : Fin 256, digs.contains (UInt8.ofNat n.val) = digitB (UInt8.ofNat n.val) := by decide +kernel
  have h := this ⟨b.toNat, b.toNat_lt⟩
  simpa using h
theorem trim_nil (l : Bs) : Lib.trimS l digs = [] ↔ l.all digitB = true := by
  have h1 : ∀ l : Bs, l.dropWhile (digs.contains ·) = [] ↔ l.all digitB = true := by
    intro l
    induction l with
    | nil => simp
    | cons a l ih =>
      rw [List.dropWhile_cons]
      by_cases h : digitB a = true
      · rw [if_pos (by rw [digs_mem]; exact h), ih]; simp [h]
      · rw [if_neg (by rw [digs_mem]; exact h)]; simp [h]
  unfold Lib.trimS Lib.trimLeftS
  rw [h1]
  unfold Lib.trimRightS
  constructor
  · intro h
    have h2 : (l.reverse.dropWhile (digs.contains ·)) = [] := by
      cases hd : l.reverse.dropWhile (digs.contains ·) with
      | nil => rfl
      | cons a r =>
        exfalso
        have h3 : ¬ (digs.contains a) = true := by
          have h4 := List.head?_dropWhile_not (digs.contains ·) l.reverse
          rw [hd] at h4
          simp only [List.head?_cons] at h4
          rw [h4]; simp
        rw [hd] at h
        rw [List.all_eq_true] at h
        have := h a (by simp)
        rw [digs_mem] at h3
        exact h3 this
    have := (h1 l.reverse).1 h2
    simpa using this
  · intro h
    have h2 : (l.reverse.dropWhile (digs.contains ·)) = [] := (h1 l.reverse).2 (by simpa using h)
    rw [h2]; rfl

theorem tag_56 (l : Bs) (w : World) : Calls Tryd.prog 56 #[S l] w fun e w' => e = .returned (.bool (isTagB l)) ∧ Below w.heap.size w w' := by
  by_cases h : l.length = 3
  · by_cases hz : l = [48, 48, 48]
    · subst hz
      go_enter Tryd.func56, Tryd.ntmps56
      go_wp2_with fail
      go_ret
      exact ⟨rfl, Below.refl _ _⟩
    · have HE : Hid (isTagB l = l.all digitB) := by unfold Hid; simp [isTagB, h, hz]
      have h1 : ((l.length : Int) == 3) = true := by simp; omega
      have H77 : Hid (∀ W, Calls Tryd.prog 77 #[S l, .string ⟨#[48, 49, 50, 51, 52, 53, 54, 55, 56, 57]⟩] W fun e w' => e = .returned (S (Lib.trimS l digs)) ∧ Below W.heap.size W w') := fun W => trim_77 ⟨l.toArray⟩ W (by have : (⟨l.toArray⟩ : ByteArray).size = l.length := rfl; omega)
      have HT := Lib.hid (trim_nil l)
      clear h
      generalize Lib.trimS l digs = t at *
      go_enter Tryd.func56, Tryd.ntmps56
      go_wp2_with (go_at_call 77; ((with_reducible refine Calls.mono (H77.out _) ?_); rintro e w' ⟨rfl, hb⟩))
      go_ret
      refine ⟨ret_bool ?_, hb⟩
      rw [HE.out, Bool.eq_iff_iff, ← HT.out]
      simp [hz]
  · have h1 : ((l.length : Int) == 3) = false := by simp; omega
    have h2 : isTagB l = false := by simp [isTagB, h]
    go_enter Tryd.func56, Tryd.ntmps56
    go_wp2_with fail
    go_ret
    exact ⟨ret_bool h2.symm, Below.refl _ _⟩
end Go.Proofs.YtfkleeigdplapaaDoor
