/-
  The plain functions of layer 3 (marc) on lists of bytes, as the chapter and the reference have them; nothing of the dump is named here.
  Words for what lies in memory: a world that differs in one block alone; a slice whose cells are known; the state of the reader of characters.
  Plain laws on the directory and the data of a record that is written.
  The fields that parseR gives are no longer than twice what was read.
  What is written is read back: digits, a field's bytes, a record that is laid with its fields at any places.
  A record that is laid, with its fields at any places of the data and any bytes where the form asks for none, is read back.
-/
import Derived.WalkKit
import Derived.WalkSpells
import Derived.WalkLawsBesides
import Derived.Lib.Hide
import Derived.Lib.Strings
namespace Go.Proofs.YtfkleeigdplapaaDoor
open Go.RowKit

abbrev Bs := List UInt8
/-- A list of bytes as a Go string. -/
abbrev S (l : Bs) : Value := .string ⟨l.toArray⟩

theorem ba_get (l : Bs) (k : Nat) (h : k < (⟨l.toArray⟩ : ByteArray).size) : (⟨l.toArray⟩ : ByteArray)[k]'h = l[k]'(by simpa [ByteArray.size] using h) := rfl
attribute [go_sem] ba_get
theorem ba_list (l : Bs) : (⟨l.toArray⟩ : ByteArray).toList = l := by rw [Lib.toList_data]
theorem ba_extract (l : Bs) (a b : Nat) : (⟨l.toArray⟩ : ByteArray).extract a b = ⟨((l.take b).drop a).toArray⟩ := by
  apply ByteArray.ext
  rw [ByteArray.data_extract]
  simp [List.extract_eq_take_drop, List.drop_take]
theorem ba_append (a b : Bs) : (⟨a.toArray⟩ : ByteArray) ++ (⟨b.toArray⟩ : ByteArray) = ⟨(a ++ b).toArray⟩ := by
  apply ByteArray.ext
  rw [ByteArray.data_append]
  simp
attribute [go_sem] ba_list ba_extract ba_append
theorem u8_lt (c : UInt8) : (c.toNat : Int) < 256 := by have := c.toNat_lt; omega
theorem u8_ge (c : UInt8) : 0 ≤ (c.toNat : Int) := by omega

/-! bytes of some kinds -/
def letterB (c : UInt8) : Bool := decide (97 ≤ c.toNat) && decide (c.toNat ≤ 122)
def digitB (c : UInt8) : Bool := decide (48 ≤ c.toNat) && decide (c.toNat ≤ 57)
def signB (c : UInt8) : Bool := decide (32 < c.toNat) && decide (c.toNat < 127)
def indicB (c : UInt8) : Bool := decide (32 ≤ c.toNat) && decide (c.toNat < 127)

/-! numbers -/
/-- The value of digits, from a value on; none if there are others. -/
def numFrom : Int → Bs → Int
  | n, [] => n
  | n, c :: l => if digitB c then numFrom (10 * n + ((c.toNat : Int) - 48)) l else -1
def numB (l : Bs) : Int := numFrom 0 l

def fixedN : Nat → Nat → Bs
  | 0, _ => []
  | n + 1, v => fixedN n (v / 10) ++ [UInt8.ofNat (48 + v % 10)]

theorem fixedN_length (n v : Nat) : (fixedN n v).length = n := by
  induction n generalizing v with
  | zero => rfl
  | succ n ih => simp [fixedN, ih]

attribute [go_sem] fixedN_length
/-! characters -/
structure Ch where
  left : Nat
  low : Nat
  high : Nat
def ch0 : Ch := ⟨0, 0, 0⟩
def chNext (x : Ch) (c : UInt8) : Option Ch :=
  let n := c.toNat
  if 0 < x.left then (if n < x.low ∨ x.high < n then none else some ⟨x.left - 1, 128, 191⟩)
  else if 32 ≤ n ∧ n < 128 then some ⟨0, 128, 191⟩
  else if 194 ≤ n ∧ n < 224 then some ⟨1, 128, 191⟩
  else if 224 ≤ n ∧ n < 240 then some ⟨2, if n = 224 then 160 else 128, if n = 237 then 159 else 191⟩
  else if 240 ≤ n ∧ n < 245 then some ⟨3, if n = 240 then 144 else 128, if n = 244 then 143 else 191⟩
  else none
def chRun : Ch → Bs → Option Ch
  | x, [] => some x
  | x, c :: l => match chNext x c with
    | some y => chRun y l
    | none => none
def isTextB (l : Bs) : Bool := match chRun ch0 l with
  | some x => decide (x.left = 0)
  | none => false

/-! records -/
structure SubD where
  code : UInt8
  text : Bs
structure FieldD where
  tag : Bs
  ind : Bs
  data : Bs
  subs : List SubD
structure RecD where
  kind : UInt8
  level : UInt8
  fields : List FieldD

def isTagB (s : Bs) : Bool := decide (s.length = 3) && s.all digitB && !decide (s = [48, 48, 48])
def ctrlB (t : Bs) : Bool := decide (t.take 2 = [48, 48])

def indsB (s : Bs) : Bool := decide (s.length = 2) && s.all indicB
def subOk (s : SubD) : Bool := isTextB s.text && signB s.code
def wrongF (f : FieldD) : Int :=
  if !isTagB f.tag then 13
  else if ctrlB f.tag then (if isTextB f.data && decide (f.ind = []) && f.subs.isEmpty then 0 else 14)
  else if decide (f.data = []) && indsB f.ind && !f.subs.isEmpty && f.subs.all subOk then 0 else 14
def subBytes (s : SubD) : Bs := 31 :: s.code :: s.text
def fieldBytes (f : FieldD) : Bs := f.data ++ f.ind ++ f.subs.flatMap subBytes ++ [30]

def firstWrong : List FieldD → Int
  | [] => 0
  | f :: l => if wrongF f = 0 then firstWrong l else wrongF f
def tooLong (l : List FieldD) : Bool := l.any fun f => decide (9999 < (fieldBytes f).length)
def sizeOf (l : List FieldD) : Nat := l.foldl (fun n f => n + 12 + (fieldBytes f).length) 26
def wrongR (r : RecD) : Int :=
  if !letterB r.kind || !letterB r.level then 12
  else if firstWrong r.fields ≠ 0 then firstWrong r.fields
  else if tooLong r.fields || decide (999 < r.fields.length) || decide (99999 < sizeOf r.fields) then 2
  else 0

def dirFrom : Nat → List FieldD → Bs
  | _, [] => []
  | p, f :: l => f.tag ++ fixedN 4 (fieldBytes f).length ++ fixedN 5 p ++ dirFrom (p + (fieldBytes f).length) l
def dataOf (l : List FieldD) : Bs := l.flatMap fieldBytes
def leaderOf (r : RecD) (total base : Nat) : Bs := fixedN 5 total ++ [110, r.kind, r.level, 32, 97, 50, 50] ++ fixedN 5 base ++ [32, 32, 32, 52, 53, 48, 48]
def writeB (r : RecD) : Bs :=
  leaderOf r (25 + (dirFrom 0 r.fields).length + (dataOf r.fields).length + 1) (25 + (dirFrom 0 r.fields).length) ++ dirFrom 0 r.fields ++ [30] ++ dataOf r.fields ++ [29]
def writeR (r : RecD) : Bs × Int := if wrongR r = 0 then (writeB r, 0) else ([], wrongR r)

/-! reading -/
def sub3 (l : Bs) (a b : Nat) : Bs := (l.take b).drop a
def leaderR (s : Bs) : Int × Int :=
  if s.length < 24 then (s.length, 10)
  else
    let n := numB (s.take 5)
    if n < 0 then (0, 12)
    else if s.length < n then (s.length, 10)
    else if n < s.length then (0, 12)
    else if !letterB (s.getD 6 0) then (6, 12)
    else if !letterB (s.getD 7 0) then (7, 12)
    else if s.getD 9 0 ≠ 97 then (9, 12)
    else if sub3 s 10 12 ≠ [50, 50] then (10, 12)
    else if sub3 s 20 24 ≠ [52, 53, 48, 48] then (20, 12)
    else
      let b := numB (sub3 s 12 17)
      if b < 25 ∨ n ≤ b ∨ (b - 25) % 12 ≠ 0 ∨ s.getD (b - 1).toNat 0 ≠ 30 then (12, 12)
      else if 999 < (b - 25) / 12 then (12, 2)
      else if s.getD (n - 1).toNat 0 ≠ 29 then (n - 1, 14)
      else (0, 0)

structure FS where
  f : FieldD
  x : Ch
  ended : Bool
def addText (l : List SubD) (c : UInt8) : List SubD := match l.getLast? with
  | some s => l.dropLast ++ [{ s with text := s.text ++ [c] }]
  | none => []
def setCode (l : List SubD) (c : UInt8) : List SubD := match l.getLast? with
  | some s => l.dropLast ++ [{ s with code := c }]
  | none => []
/-- One byte of a field; none if it cannot be there. -/
def fieldStep (text : Bool) (i : Nat) (prev c : UInt8) (st : FS) : Option FS :=
  if st.ended then none
  else if !text && decide (i < 2) then (if indicB c then some { st with f := { st.f with ind := st.f.ind ++ [c] } } else none)
  else if !text && !st.f.subs.isEmpty && decide (prev = 31) then (if signB c then some { st with f := { st.f with subs := setCode st.f.subs c } } else none)
  else if decide (st.x.left = 0) && decide (c = 31) && !text then some { st with f := { st.f with subs := st.f.subs ++ [⟨0, []⟩] } }
  else if decide (st.x.left = 0) && decide (c = 30) && (text || !st.f.subs.isEmpty) then some { st with ended := true }
  else if !text && st.f.subs.isEmpty then none
  else match chNext st.x c with
    | none => none
    | some y => some (if text then { st with x := y, f := { st.f with data := st.f.data ++ [c] } } else { st with x := y, f := { st.f with subs := addText st.f.subs c } })
/-- The field, or the offset of the first wrong byte. -/
def fieldGo (text : Bool) : Bs → Nat → UInt8 → FS → Except Int FieldD
  | [], i, _, st => if st.ended then .ok st.f else .error ((i : Int) - 1)
  | c :: l, i, prev, st => match fieldStep text i prev c st with
    | some st' => fieldGo text l (i + 1) c st'
    | none => .error i
def fieldR (tag s : Bs) : Except Int FieldD := fieldGo (ctrlB tag) s 0 0 ⟨⟨tag, [], [], []⟩, ch0, false⟩

/-- The entries: number of bytes and place; or the offset of the first wrong one. -/
def entriesR (s : Bs) (size : Int) : (n : Nat) → (at_ : Nat) → (sum : Int) → Except Nat (List (Bs × Nat × Nat))
  | 0, _, _ => .ok []
  | n + 1, at_, sum =>
    let tag := sub3 s at_ (at_ + 3)
    let m := numB (sub3 s (at_ + 3) (at_ + 7))
    let k := numB (sub3 s (at_ + 7) (at_ + 12))
    if !isTagB tag || decide (m < 1) || decide (k < 0) || decide (size < k + m) || decide (size < sum + m) then .error at_
    else match entriesR s size n (at_ + 12) (sum + m) with
      | .ok l => .ok ((tag, m.toNat, k.toNat) :: l)
      | .error e => .error e
def fieldsR (s : Bs) (b : Nat) : List (Bs × Nat × Nat) → Except Int (List FieldD)
  | [] => .ok []
  | (tag, m, k) :: l => match fieldR tag (sub3 s (b + k) (b + k + m)) with
    | .error i => .error ((b : Int) + k + i)
    | .ok f => match fieldsR s b l with
      | .ok fs => .ok (f :: fs)
      | .error e => .error e
def parseR (s : Bs) : RecD × Int × Int :=
  if (leaderR s).2 ≠ 0 then (⟨0, 0, []⟩, leaderR s)
  else
    let b := (numB (sub3 s 12 17)).toNat
    match entriesR s ((s.length : Int) - 1 - b) ((b - 25) / 12) 24 0 with
    | .error i => (⟨0, 0, []⟩, i, 13)
    | .ok l => match fieldsR s b l with
      | .error i => (⟨0, 0, []⟩, i, 14)
      | .ok fs => (⟨s.getD 6 0, s.getD 7 0, fs⟩, 0, 0)
theorem ret_bool {a b : Bool} (h : a = b) : Ending.returned (.bool a) = .returned (.bool b) := by rw [h]
theorem ret_i64 {a b : Int} (h : a = b) : Ending.returned (.int .i64 a) = .returned (.int .i64 b) := by rw [h]

theorem numFrom_snoc (n : Int) (l : Bs) (c : UInt8) (hd : l.all digitB = true) : numFrom n (l ++ [c]) = if digitB c then 10 * numFrom n l + ((c.toNat : Int) - 48) else -1 := by
  induction l generalizing n with
  | nil => simp [numFrom]
  | cons d l ih =>
    simp only [List.all_cons, Bool.and_eq_true] at hd
    simp only [List.cons_append, numFrom, hd.1, if_true]
    exact ih _ hd.2
theorem numFrom_bad (l : Bs) (h : ¬ l.all digitB = true) : ∀ n, numFrom n l = -1 := by
  induction l with
  | nil => simp at h
  | cons d l ih =>
    intro n
    simp only [numFrom]
    by_cases hd : digitB d = true
    · rw [if_pos hd]; apply ih; intro h2; apply h; simp [hd]; simpa using h2
    · rw [if_neg hd]
theorem numFrom_le (l : Bs) (hd : l.all digitB = true) : ∀ n : Int, 0 ≤ n → 0 ≤ numFrom n l ∧ numFrom n l < (n + 1) * ((10 ^ l.length : Nat) : Int) := by
  induction l with
  | nil => intro n hn; simp [numFrom]; omega
  | cons d l ih =>
    intro n hn
    simp only [List.all_cons, Bool.and_eq_true] at hd
    simp only [numFrom, hd.1, if_true, List.length_cons]
    have h1 := hd.1
    simp only [digitB, Bool.and_eq_true, decide_eq_true_eq] at h1
    have := ih hd.2 (10 * n + ((d.toNat : Int) - 48)) (by omega)
    refine ⟨this.1, ?_⟩
    have h2 : (10 * n + ((d.toNat : Int) - 48) + 1) ≤ (n + 1) * 10 := by omega
    have h3 : (0 : Int) ≤ ((10 ^ l.length : Nat) : Int) := Int.natCast_nonneg _
    have h4 := Int.mul_le_mul_of_nonneg_right h2 h3
    rw [Nat.pow_succ, Nat.mul_comm (10 ^ l.length) 10, Int.natCast_mul, ← Int.mul_assoc]
    exact Int.lt_of_lt_of_le this.2 h4
theorem all_take {p : UInt8 → Bool} {l : Bs} (k : Nat) (h : l.all p = true) : (l.take k).all p = true := by
  rw [List.all_eq_true] at *
  exact fun x hx => h x (List.mem_of_mem_take hx)
theorem take_snoc (l : Bs) (k : Nat) (h : k < l.length) : l.take (k + 1) = l.take k ++ [l[k]] := by
  rw [List.take_succ_eq_append_getElem h]
theorem all_snoc {p : UInt8 → Bool} {l : Bs} {c : UInt8} (h : l.all p = true) (hc : p c = true) : (l ++ [c]).all p = true := by
  simp [List.all_append, h, hc]


theorem ret_S {a b : Bs} (h : a = b) : Ending.returned (S a) = .returned (S b) := by rw [h]
theorem fixed_step (n : Nat) (v : Int) (h : 0 ≤ v) : fixedN n (v / 10).toNat ++ [UInt8.ofNat (48 + v % 10).toNat] = fixedN (n + 1) v.toNat := by
  have h1 : (v / 10).toNat = v.toNat / 10 := by omega
  have h2 : (48 + v % 10).toNat = 48 + v.toNat % 10 := by omega
  rw [h1, h2]; rfl

theorem firstWrong_at (fs : List FieldD) (k : Nat) (hk : k < fs.length) (h : firstWrong (fs.take k) = 0) : firstWrong fs = if wrongF fs[k] = 0 then firstWrong (fs.drop (k + 1)) else wrongF fs[k] := by
  induction fs generalizing k with
  | nil => simp at hk
  | cons f l ih =>
    cases k with
    | zero => simp [firstWrong]
    | succ k =>
      simp only [List.take_succ_cons, firstWrong] at h
      by_cases hf : wrongF f = 0
      · rw [if_pos hf] at h
        simp only [firstWrong, if_pos hf, List.getElem_cons_succ, List.drop_succ_cons]
        exact ih k (by simpa using hk) h
      · rw [if_neg hf] at h; exact absurd h hf
theorem firstWrong_take (fs : List FieldD) (k : Nat) (hk : k < fs.length) (h : firstWrong (fs.take k) = 0) (hw : wrongF fs[k] = 0) : firstWrong (fs.take (k + 1)) = 0 := by
  have := firstWrong_at (fs.take (k + 1)) k (by simp; omega) (by rw [List.take_take]; simpa [Nat.min_eq_left] using h)
  simp only [List.getElem_take, hw, if_true] at this
  rw [this]
  simp [firstWrong]
theorem sizeOf_snoc (fs : List FieldD) (k : Nat) (hk : k < fs.length) : sizeOf (fs.take (k + 1)) = sizeOf (fs.take k) + 12 + (fieldBytes fs[k]).length := by
  unfold sizeOf; rw [List.take_succ_eq_append_getElem hk, List.foldl_append]; rfl
theorem tooLong_at (fs : List FieldD) (k : Nat) (hk : k < fs.length) (h : 9999 < (fieldBytes fs[k]).length) : tooLong fs = true := by
  unfold tooLong; rw [List.any_eq_true]; exact ⟨_, List.getElem_mem hk, by simpa using h⟩
theorem tooLong_take (fs : List FieldD) (k : Nat) (hk : k < fs.length) (h : tooLong (fs.take k) = false) (h2 : ¬ 9999 < (fieldBytes fs[k]).length) : tooLong (fs.take (k + 1)) = false := by
  unfold tooLong at *; rw [List.take_succ_eq_append_getElem hk, List.any_append, h]; simp; omega

end Go.Proofs.YtfkleeigdplapaaDoor

namespace Go.Proofs.YtfkleeigdplapaaDoor
open Go.RowKit

/-- The world w' is w but for block b. -/
structure Only (b : Nat) (w w' : World) : Prop where
  os : w'.os = w.os
  tape : w'.tape = w.tape
  output : w'.output = w.output
  size : w'.heap.size = w.heap.size
  block : ∀ k, k ≠ b → w'.heap[k]? = w.heap[k]?
theorem Only.refl (b : Nat) (w : World) : Only b w w := ⟨rfl, rfl, rfl, rfl, fun _ _ => rfl⟩
theorem Only.trans {b : Nat} {x y z : World} (h : Only b x y) (k : Only b y z) : Only b x z :=
  ⟨k.os.trans h.os, k.tape.trans h.tape, k.output.trans h.output, k.size.trans h.size, fun i hi => (k.block i hi).trans (h.block i hi)⟩
theorem Only.drew {b : Nat} {a w : World} (h : Only b a w) : Only b a w.drew := ⟨h.os, h.tape, h.output, h.size, h.block⟩
theorem Only.setCell {b : Nat} {a w : World} (h : Only b a w) (o : Nat) (u : Value) : Only b a (w.setCell ⟨b, o, none⟩ u) :=
  h.trans ⟨rfl, rfl, rfl, by simp [World.setCell], fun k hk => Below.heap_setCell _ _ _ _ hk⟩
theorem Only.below {b B : Nat} {w w' : World} (h : Only b w w') (hb : B ≤ b) : Below B w w' :=
  ⟨h.os, h.tape, h.output, by rw [h.size]; exact Nat.le_refl _, fun k hk => h.block k (by omega)⟩
theorem Only.cell {b : Nat} {w w' : World} (h : Only b w w') {p : Addr} (hp : p.block ≠ b) : w'.cell? p = w.cell? p := World.cell?_of_block (w := w) (h.block p.block hp)
theorem Only.frozen {b : Nat} {w w' : World} (h : Only b w w') {p : Addr} (hp : p.block ≠ b) : w'.frozen? p = w.frozen? p := World.frozen?_of_block (w := w) (h.block p.block hp)

/-- Two steps, the second one above a higher number. -/
theorem btr {B B' : Nat} {x y z : World} (h : Below B x y) (k : Below B' y z) (hB : B ≤ B') : Below B x z := h.trans (k.mono hB)
theorem bcell {W w1 : World} (hb : Below W.heap.size W w1) : (∀ b o, b < W.heap.size → w1.cell? ⟨b, o, none⟩ = W.cell? ⟨b, o, none⟩) ∧ (∀ b o, b < W.heap.size → w1.frozen? ⟨b, o, none⟩ = W.frozen? ⟨b, o, none⟩) :=
  ⟨fun b o h => hb.cell (p := ⟨b, o, none⟩) h, fun b o h => hb.frozen (p := ⟨b, o, none⟩) h⟩
theorem cell_lt {w : World} {p : Addr} {v : Value} (h : w.cell? p = some v) : p.block < w.heap.size := by
  unfold World.cell? at h
  by_cases hp : p.block < w.heap.size
  · exact hp
  · rw [Array.getElem?_eq_none (by omega)] at h; cases h

theorem bext {w w' : World} (hb : Below w.heap.size w w') : ∀ p x, w.cell? p = some x → w'.cell? p = some x := fun p x h => by rw [hb.cell (cell_lt h)]; exact h

/-- The reader of characters lies in block b. -/
structure ChAt (w : World) (b : Nat) (x : Ch) : Prop where
  c0 : w.cell? ⟨b, 0, none⟩ = some (.int .i64 x.left)
  c1 : w.cell? ⟨b, 1, none⟩ = some (.int .i64 x.low)
  c2 : w.cell? ⟨b, 2, none⟩ = some (.int .i64 x.high)
  f0 : w.frozen? ⟨b, 0, none⟩ = false
  f1 : w.frozen? ⟨b, 1, none⟩ = false
  f2 : w.frozen? ⟨b, 2, none⟩ = false
def chFine (x : Ch) : Prop := x.left ≤ 3 ∧ x.low ≤ 255 ∧ x.high ≤ 255
theorem chFine_next {x y : Ch} {c : UInt8} (hx : chFine x) (h : chNext x c = some y) : chFine y := by
  unfold chFine at *
  unfold chNext at h
  dsimp only at h
  split at h
  · split at h
    · cases h
    · cases h; exact ⟨by simp; omega, by simp, by simp⟩
  · split at h
    · cases h; simp
    · split at h
      · cases h; simp
      · split at h
        · cases h; refine ⟨by simp, ?_, ?_⟩ <;> simp <;> split <;> omega
        · split at h
          · cases h; refine ⟨by simp, ?_, ?_⟩ <;> simp <;> split <;> omega
          · cases h
/-- What Next leaves. -/
def NextPost (x : Ch) (c : UInt8) (b : Nat) (w : World) (e : Ending) (w' : World) : Prop :=
  Only b w w' ∧ ((Hid (chNext x c = none) ∧ e = .returned (.bool false)) ∨ ∃ y, Hid (chNext x c = some y) ∧ e = .returned (.bool true) ∧ ChAt w' b y)

theorem next_bad {x : Ch} {c : UInt8} {b : Nat} {w w' : World} {e : Ending} (ho : Only b w w') (he : e = .returned (.bool false)) (h : chNext x c = none) : NextPost x c b w e w' := ⟨ho, .inl ⟨h, he⟩⟩
theorem next_ok {x : Ch} {c : UInt8} {b : Nat} {w w' : World} {e : Ending} {y : Ch} (h : chNext x c = some y) (ho : Only b w w') (he : e = .returned (.bool true)) (hc : ChAt w' b y) : NextPost x c b w e w' := ⟨ho, .inr ⟨y, h, he, hc⟩⟩
theorem cn_bad1 {x : Ch} {c : UInt8} (h : 0 < x.left) (h2 : c.toNat < x.low ∨ x.high < c.toNat) : chNext x c = none := by unfold chNext; simp only [if_pos h, if_pos h2]
theorem cn_ok1 {x : Ch} {c : UInt8} (h : 0 < x.left) (h2 : ¬ (c.toNat < x.low ∨ x.high < c.toNat)) : chNext x c = some ⟨x.left - 1, 128, 191⟩ := by unfold chNext; simp only [if_pos h, if_neg h2]
theorem cn_ascii {x : Ch} {c : UInt8} (h : ¬ 0 < x.left) (h2 : 32 ≤ c.toNat ∧ c.toNat < 128) : chNext x c = some ⟨0, 128, 191⟩ := by unfold chNext; simp only [if_neg h, if_pos h2]
theorem cn_two {x : Ch} {c : UInt8} (h : ¬ 0 < x.left) (h2 : 194 ≤ c.toNat ∧ c.toNat < 224) : chNext x c = some ⟨1, 128, 191⟩ := by
  unfold chNext; simp only [if_neg h, if_neg (show ¬ (32 ≤ c.toNat ∧ c.toNat < 128) by omega), if_pos h2]
theorem cn_three {x : Ch} {c : UInt8} (h : ¬ 0 < x.left) (h2 : 224 ≤ c.toNat ∧ c.toNat < 240) : chNext x c = some ⟨2, if c.toNat = 224 then 160 else 128, if c.toNat = 237 then 159 else 191⟩ := by
  unfold chNext; simp only [if_neg h, if_neg (show ¬ (32 ≤ c.toNat ∧ c.toNat < 128) by omega), if_neg (show ¬ (194 ≤ c.toNat ∧ c.toNat < 224) by omega), if_pos h2]
theorem cn_four {x : Ch} {c : UInt8} (h : ¬ 0 < x.left) (h2 : 240 ≤ c.toNat ∧ c.toNat < 245) : chNext x c = some ⟨3, if c.toNat = 240 then 144 else 128, if c.toNat = 244 then 143 else 191⟩ := by
  unfold chNext; simp only [if_neg h, if_neg (show ¬ (32 ≤ c.toNat ∧ c.toNat < 128) by omega), if_neg (show ¬ (194 ≤ c.toNat ∧ c.toNat < 224) by omega), if_neg (show ¬ (224 ≤ c.toNat ∧ c.toNat < 240) by omega), if_pos h2]
theorem cn_none {x : Ch} {c : UInt8} (h : ¬ 0 < x.left) (h2 : c.toNat < 32 ∨ (128 ≤ c.toNat ∧ c.toNat < 194) ∨ 245 ≤ c.toNat) : chNext x c = none := by
  unfold chNext; simp only [if_neg h, if_neg (show ¬ (32 ≤ c.toNat ∧ c.toNat < 128) by omega), if_neg (show ¬ (194 ≤ c.toNat ∧ c.toNat < 224) by omega), if_neg (show ¬ (224 ≤ c.toNat ∧ c.toNat < 240) by omega), if_neg (show ¬ (240 ≤ c.toNat ∧ c.toNat < 245) by omega)]
theorem cn_3a {x : Ch} {c : UInt8} (h : ¬ 0 < x.left) (h2 : c.toNat = 224) : chNext x c = some ⟨2, 160, 191⟩ := by
  rw [cn_three h (by omega), if_pos (by omega), if_neg (by omega)]
theorem cn_3b {x : Ch} {c : UInt8} (h : ¬ 0 < x.left) (h2 : c.toNat = 237) : chNext x c = some ⟨2, 128, 159⟩ := by
  rw [cn_three h (by omega), if_neg (by omega), if_pos (by omega)]
theorem cn_3c {x : Ch} {c : UInt8} (h : ¬ 0 < x.left) (h2 : 224 < c.toNat ∧ c.toNat < 240 ∧ c.toNat ≠ 237) : chNext x c = some ⟨2, 128, 191⟩ := by
  rw [cn_three h (by omega), if_neg (by omega), if_neg (by omega)]
theorem cn_4a {x : Ch} {c : UInt8} (h : ¬ 0 < x.left) (h2 : c.toNat = 240) : chNext x c = some ⟨3, 144, 191⟩ := by
  rw [cn_four h (by omega), if_pos (by omega), if_neg (by omega)]
theorem cn_4b {x : Ch} {c : UInt8} (h : ¬ 0 < x.left) (h2 : c.toNat = 244) : chNext x c = some ⟨3, 128, 143⟩ := by
  rw [cn_four h (by omega), if_neg (by omega), if_pos (by omega)]
theorem cn_4c {x : Ch} {c : UInt8} (h : ¬ 0 < x.left) (h2 : 240 < c.toNat ∧ c.toNat < 244) : chNext x c = some ⟨3, 128, 191⟩ := by
  rw [cn_four h (by omega), if_neg (by omega), if_neg (by omega)]

theorem chRun_snoc (x : Ch) (l : Bs) (c : UInt8) (y : Ch) (h : chRun x l = some y) : chRun x (l ++ [c]) = chNext y c := by
  induction l generalizing x with
  | nil => simp only [chRun, Option.some.injEq] at h; subst h; simp only [List.nil_append, chRun]; cases chNext x c <;> rfl
  | cons d l ih =>
    simp only [chRun, List.cons_append] at h ⊢
    cases hd : chNext x d with
    | none => rw [hd] at h; cases h
    | some z => rw [hd] at h; exact ih z h
theorem chRun_none (l : Bs) (k : Nat) (y : Ch) (hk : k < l.length) : ∀ x, chRun x (l.take k) = some y → chNext y l[k] = none → chRun x l = none := by
  induction l generalizing k with
  | nil => simp at hk
  | cons d l ih =>
    intro x h hn
    cases k with
    | zero => simp only [List.take_zero, chRun, Option.some.injEq] at h; subst h; simp only [List.getElem_cons_zero] at hn; simp only [chRun, hn]
    | succ k =>
      simp only [List.take_succ_cons, chRun] at h ⊢
      cases hd : chNext x d with
      | none => rfl
      | some z => rw [hd] at h; exact ih k (by simpa using hk) z h (by simpa using hn)
theorem chAt_new (w : World) (T : TypeId) : ChAt (w.alloc (Obj.cells #[Value.int IntKind.i64 0, Value.int IntKind.i64 0, Value.int IntKind.i64 0] T)) w.heap.size ch0 := by
  constructor <;> go_simp <;> simp [ch0]
theorem chFine_0 : chFine ch0 := ⟨by simp [ch0], by simp [ch0], by simp [ch0]⟩
theorem isText_end {l : Bs} {y : Ch} (h : chRun ch0 l = some y) : isTextB l = decide (y.left = 0) := by simp [isTextB, h]
theorem isText_none {l : Bs} (h : chRun ch0 l = none) : isTextB l = false := by simp [isTextB, h]

/-- The world w' is as w was in the blocks from lo on and below hi. -/
def Kept (lo hi : Nat) (w w' : World) : Prop := ∀ k, lo ≤ k → k < hi → w'.heap[k]? = w.heap[k]?
theorem bkept {B hi : Nat} {w w' : World} (h : Below B w w') (hh : hi ≤ B) : Kept 0 hi w w' := fun k _ h2 => h.block k (by omega)
theorem Kept.trans {lo hi : Nat} {x y z : World} (h : Kept lo hi x y) (k : Kept lo hi y z) : Kept lo hi x z := fun i h1 h2 => (k i h1 h2).trans (h i h1 h2)
theorem Kept.mono {lo hi lo' hi' : Nat} {w w' : World} (h : Kept lo hi w w') (h1 : lo ≤ lo') (h2 : hi' ≤ hi) : Kept lo' hi' w w' := fun k a b => h k (by omega) (by omega)
theorem Only.kept {b lo hi : Nat} {w w' : World} (h : Only b w w') (hb : b < lo ∨ hi ≤ b) : Kept lo hi w w' := fun k h1 h2 => h.block k (by omega)

/-- A slice of n elements whose cells are known; they lie in a block from lo on and below hi. -/
def SliceAt (lo hi : Nat) (w : World) (v : Value) (n : Nat) (cs : List Value) : Prop :=
  ∃ a cap, v = .slice a n cap ∧ (cs ≠ [] → ∃ b off, a = some ⟨b, off, none⟩ ∧ lo ≤ b ∧ b < hi ∧ ∀ j x, cs[j]? = some x → w.cell? ⟨b, off + j, none⟩ = some x)
theorem SliceAt.kept {lo hi : Nat} {w w' : World} {v : Value} {n : Nat} {cs : List Value} (h : SliceAt lo hi w v n cs) (k : Kept lo hi w w') : SliceAt lo hi w' v n cs := by
  obtain ⟨a, cap, hv, h⟩ := h
  refine ⟨a, cap, hv, fun hc => ?_⟩
  obtain ⟨b, off, ha, h1, h2, h3⟩ := h hc
  exact ⟨b, off, ha, h1, h2, fun j x hx => by rw [World.cell?_of_block (w := w) (k b h1 h2)]; exact h3 j x hx⟩
theorem SliceAt.mono {lo hi lo' hi' : Nat} {w : World} {v : Value} {n : Nat} {cs : List Value} (h : SliceAt lo hi w v n cs) (h1 : lo' ≤ lo) (h2 : hi ≤ hi') : SliceAt lo' hi' w v n cs := by
  obtain ⟨a, cap, hv, h⟩ := h
  refine ⟨a, cap, hv, fun hc => ?_⟩
  obtain ⟨b, off, ha, h3, h4, h5⟩ := h hc
  exact ⟨b, off, ha, by omega, by omega, h5⟩

def subCells (s : SubD) : List Value := [.int .u8 s.code.toNat, S s.text]
def SubsAt (lo hi : Nat) (w : World) (v : Value) (ss : List SubD) : Prop := SliceAt lo hi w v ss.length (ss.flatMap subCells)
theorem SubsAt.kept {lo hi : Nat} {w w' : World} {v : Value} {ss : List SubD} (h : SubsAt lo hi w v ss) (k : Kept lo hi w w') : SubsAt lo hi w' v ss := SliceAt.kept h k
theorem SubsAt.mono {lo hi lo' hi' : Nat} {w : World} {v : Value} {ss : List SubD} (h : SubsAt lo hi w v ss) (h1 : lo' ≤ lo) (h2 : hi ≤ hi') : SubsAt lo' hi' w v ss := SliceAt.mono h h1 h2

/-- The value of a field whose subfields are the slice d. -/
def fieldV (f : FieldD) (d : Value) : Value := .agg #[S f.tag, S f.ind, S f.data, d]
def fieldCells (p : FieldD × Value) : List Value := [S p.1.tag, S p.1.ind, S p.1.data, p.2]
def FieldsAt (lo hi : Nat) (w : World) (v : Value) (fs : List FieldD) : Prop :=
  ∃ ps : List (FieldD × Value), ps.map (·.1) = fs ∧ (∀ p ∈ ps, SubsAt lo hi w p.2 p.1.subs) ∧ SliceAt lo hi w v fs.length (ps.flatMap fieldCells)
theorem FieldsAt.kept {lo hi : Nat} {w w' : World} {v : Value} {fs : List FieldD} (h : FieldsAt lo hi w v fs) (k : Kept lo hi w w') : FieldsAt lo hi w' v fs := by
  obtain ⟨ps, h1, h2, h3⟩ := h
  exact ⟨ps, h1, fun p hp => (h2 p hp).kept k, h3.kept k⟩
theorem FieldsAt.mono {lo hi lo' hi' : Nat} {w : World} {v : Value} {fs : List FieldD} (h : FieldsAt lo hi w v fs) (h1 : lo' ≤ lo) (h2 : hi ≤ hi') : FieldsAt lo' hi' w v fs := by
  obtain ⟨ps, h3, h4, h5⟩ := h
  exact ⟨ps, h3, fun p hp => (h4 p hp).mono h1 h2, h5.mono h1 h2⟩
/-- The value of a record whose fields are the slice x. -/
def recV (r : RecD) (x : Value) : Value := .agg #[.int .u8 r.kind.toNat, .int .u8 r.level.toNat, x]
def RecAt (lo hi : Nat) (w : World) (v : Value) (r : RecD) : Prop := ∃ x, v = recV r x ∧ FieldsAt lo hi w x r.fields
theorem RecAt.kept {lo hi : Nat} {w w' : World} {v : Value} {r : RecD} (h : RecAt lo hi w v r) (k : Kept lo hi w w') : RecAt lo hi w' v r := by
  obtain ⟨x, h1, h2⟩ := h
  exact ⟨x, h1, h2.kept k⟩
theorem RecAt.mono {lo hi lo' hi' : Nat} {w : World} {v : Value} {r : RecD} (h : RecAt lo hi w v r) (h1 : lo' ≤ lo) (h2 : hi ≤ hi') : RecAt lo' hi' w v r := by
  obtain ⟨x, h3, h4⟩ := h
  exact ⟨x, h3, h4.mono h1 h2⟩

/-! cells of an element -/
theorem flat2 {α : Type} (f : α → List Value) (k : Nat) (hf : ∀ a, (f a).length = k) (l : List α) (i : Nat) (hi : i < l.length) (j : Nat) (hj : j < k) :
    (l.flatMap f)[i * k + j]? = (f l[i])[j]? := by
  induction l generalizing i with
  | nil => simp at hi
  | cons a l ih =>
    rw [List.flatMap_cons]
    cases i with
    | zero => rw [List.getElem?_append_left (by rw [hf]; omega)]; simp
    | succ i =>
      rw [List.getElem?_append_right (by rw [hf, Nat.succ_mul]; omega), hf]
      rw [show (i + 1) * k + j - k = i * k + j from by rw [Nat.succ_mul]; omega]
      rw [ih i (by simpa using hi)]
      simp
/-- A subfield's two cells, in the walk's spelling. -/
theorem SubsAt.sub {lo hi : Nat} {w : World} {v : Value} {ss : List SubD} (h : SubsAt lo hi w v ss) (i : Nat) (hi' : i < ss.length) :
    ∃ b off cap, v = .slice (some ⟨b, off, none⟩) ss.length cap ∧ lo ≤ b ∧ b < hi ∧ w.cell? ⟨b, off + i * 2, none⟩ = some (.int .u8 ss[i].code.toNat) ∧ w.cell? ⟨b, off + i * 2 + 1, none⟩ = some (S ss[i].text) := by
  obtain ⟨a, cap, hv, h⟩ := h
  have hne : ss.flatMap subCells ≠ [] := by
    cases ss with
    | nil => simp at hi'
    | cons s l => simp [subCells]
  obtain ⟨b, off, ha, h1, h2, h3⟩ := h hne
  subst ha
  have e0 := flat2 subCells 2 (fun _ => rfl) ss i hi' 0 (by omega)
  have e1 := flat2 subCells 2 (fun _ => rfl) ss i hi' 1 (by omega)
  exact ⟨b, off, cap, hv, h1, h2, h3 _ _ e0, by rw [Nat.add_assoc]; exact h3 _ _ e1⟩

theorem alloc_old (w : World) (o : Obj) (b i : Nat) (h : b < w.heap.size) : (w.alloc o).cell? ⟨b, i, none⟩ = w.cell? ⟨b, i, none⟩ :=
  World.cell?_of_block (w := w) (Below.heap_alloc w o b h)
theorem fieldBytes_take (f : FieldD) (k : Nat) : (f.data ++ f.ind ++ (f.subs.take k).flatMap subBytes).length + 1 ≤ (fieldBytes f).length := by
  have : ((f.subs.take k).flatMap subBytes).length ≤ (f.subs.flatMap subBytes).length := by
    conv => rhs; rw [← List.take_append_drop k f.subs]
    rw [List.flatMap_append, List.length_append]
    omega
  simp only [fieldBytes, List.length_append, List.length_singleton] at *
  omega
theorem flat_snoc {α : Type} (g : α → Bs) (l : List α) (k : Nat) (h : k < l.length) : (l.take (k + 1)).flatMap g = (l.take k).flatMap g ++ g l[k] := by
  rw [List.take_succ_eq_append_getElem h, List.flatMap_append]; simp


/-- A field's four cells, in the walk's spelling. -/
theorem FieldsAt.field {lo hi : Nat} {w : World} {v : Value} {fs : List FieldD} (h : FieldsAt lo hi w v fs) (i : Nat) (hi' : i < fs.length) :
    ∃ b off cap d, v = .slice (some ⟨b, off, none⟩) fs.length cap ∧ lo ≤ b ∧ b < hi ∧ w.cell? ⟨b, off + i * 4, none⟩ = some (S fs[i].tag) ∧ w.cell? ⟨b, off + i * 4 + 1, none⟩ = some (S fs[i].ind) ∧
      w.cell? ⟨b, off + i * 4 + 2, none⟩ = some (S fs[i].data) ∧ w.cell? ⟨b, off + i * 4 + 3, none⟩ = some d ∧ SubsAt lo hi w d fs[i].subs := by
  obtain ⟨ps, rfl, hs, a, cap, hv, h⟩ := h
  have hi2 : i < ps.length := by simpa using hi'
  have hne : ps.flatMap fieldCells ≠ [] := by
    cases ps with
    | nil => simp at hi2
    | cons s l => simp [fieldCells]
  obtain ⟨b, off, ha, h1, h2, h3⟩ := h hne
  subst ha
  have e0 := flat2 fieldCells 4 (fun _ => rfl) ps i hi2 0 (by omega)
  have e1 := flat2 fieldCells 4 (fun _ => rfl) ps i hi2 1 (by omega)
  have e2 := flat2 fieldCells 4 (fun _ => rfl) ps i hi2 2 (by omega)
  have e3 := flat2 fieldCells 4 (fun _ => rfl) ps i hi2 3 (by omega)
  have hp := hs _ (List.getElem_mem hi2)
  simp only [List.getElem_map]
  exact ⟨b, off, cap, ps[i].2, hv, h1, h2, h3 _ _ e0, by rw [Nat.add_assoc]; exact h3 _ _ e1, by rw [Nat.add_assoc]; exact h3 _ _ e2, by rw [Nat.add_assoc]; exact h3 _ _ e3, hp⟩
theorem FieldsAt.shape {lo hi : Nat} {w : World} {v : Value} {fs : List FieldD} (h : FieldsAt lo hi w v fs) : ∃ a cap, v = .slice a fs.length cap := by
  obtain ⟨_, _, _, a, cap, hv, _⟩ := h; exact ⟨a, cap, hv⟩
/-- Sizes that no machine's counter passes. -/
def Small (fs : List FieldD) : Prop := fs.length ≤ 1000000 ∧ ∀ f ∈ fs, (fieldBytes f).length ≤ 1000000
theorem subs_le (f : FieldD) : f.subs.length ≤ (fieldBytes f).length := by
  have : ∀ l : List SubD, l.length ≤ (l.flatMap subBytes).length := by
    intro l
    induction l with
    | nil => simp
    | cons s l ih => rw [List.flatMap_cons, List.length_append]; simp only [subBytes, List.length_cons]; omega
  have := this f.subs
  simp only [fieldBytes, List.length_append]
  omega

end Go.Proofs.YtfkleeigdplapaaDoor

namespace Go.Proofs.YtfkleeigdplapaaDoor

theorem firstWrong_zero {l : List FieldD} (h : firstWrong l = 0) : ∀ f ∈ l, wrongF f = 0 := by
  induction l with
  | nil => simp
  | cons g l ih =>
    simp only [firstWrong] at h
    intro f hf
    by_cases hg : wrongF g = 0
    · rw [if_pos hg] at h
      rcases List.mem_cons.1 hf with rfl | hf
      · exact hg
      · exact ih h f hf
    · rw [if_neg hg] at h; exact absurd h hg
theorem wrongF_tag {f : FieldD} (h : wrongF f = 0) : isTagB f.tag = true := by
  cases ht : isTagB f.tag with
  | true => rfl
  | false => simp [wrongF, ht] at h
theorem dirFrom_snoc (p : Nat) (l : List FieldD) (f : FieldD) : dirFrom p (l ++ [f]) = dirFrom p l ++ (f.tag ++ fixedN 4 (fieldBytes f).length ++ fixedN 5 (p + (dataOf l).length)) := by
  induction l generalizing p with
  | nil => simp [dirFrom, dataOf]
  | cons g l ih =>
    simp only [List.cons_append, dirFrom, ih, dataOf, List.flatMap_cons, List.length_append]
    simp [Nat.add_assoc]
theorem dataOf_snoc (l : List FieldD) (f : FieldD) : dataOf (l ++ [f]) = dataOf l ++ fieldBytes f := by simp [dataOf]
theorem dirFrom_length (p : Nat) (l : List FieldD) (h : ∀ f ∈ l, f.tag.length = 3) : (dirFrom p l).length = 12 * l.length := by
  induction l generalizing p with
  | nil => rfl
  | cons g l ih =>
    have := h g (by simp)
    simp only [dirFrom, List.length_append, fixedN_length, List.length_cons]
    rw [ih _ (fun f hf => h f (by simp [hf]))]
    omega
theorem sizeOf_eq (l : List FieldD) : sizeOf l = 26 + 12 * l.length + (dataOf l).length := by
  have : ∀ (l : List FieldD) n, l.foldl (fun n f => n + 12 + (fieldBytes f).length) n = n + 12 * l.length + (dataOf l).length := by
    intro l
    induction l with
    | nil => simp [dataOf]
    | cons g l ih => intro n; rw [List.foldl_cons, ih]; simp [dataOf]; omega
  exact this l 26
theorem dataOf_take (l : List FieldD) (k : Nat) : (dataOf (l.take k)).length ≤ (dataOf l).length := by
  conv => rhs; rw [← List.take_append_drop k l]
  simp only [dataOf, List.flatMap_append, List.length_append]
  omega
theorem isTag_len {l : Bs} (h : isTagB l = true) : l.length = 3 := by simp [isTagB] at h; exact h.1.1
/-- What a right record is. -/
structure RightR (r : RecD) : Prop where
  kind : letterB r.kind = true
  level : letterB r.level = true
  fields : ∀ f ∈ r.fields, wrongF f = 0
  long : ∀ f ∈ r.fields, (fieldBytes f).length ≤ 9999
  many : r.fields.length ≤ 999
  size : 26 + 12 * r.fields.length + (dataOf r.fields).length ≤ 99999
theorem right_of {r : RecD} (h : wrongR r = 0) : RightR r := by
  unfold wrongR at h
  split at h
  · simp at h
  · rename_i h1
    split at h
    · rename_i h2; exact absurd h h2
    · rename_i h2
      split at h
      · simp at h
      · rename_i h3
        simp only [Bool.or_eq_true, Bool.not_eq_true', not_or, Bool.not_eq_false, decide_eq_true_eq, Bool.not_eq_true] at h1 h3
        have h4 : firstWrong r.fields = 0 := by omega
        refine ⟨h1.1, h1.2, firstWrong_zero h4, ?_, by omega, by rw [← sizeOf_eq]; omega⟩
        intro f hf
        have h5 := h3.1.1
        unfold tooLong at h5
        rw [List.any_eq_false] at h5
        simpa using h5 f hf
theorem RightR.tags {r : RecD} (h : RightR r) : ∀ f ∈ r.fields, f.tag.length = 3 := fun f hf => isTag_len (wrongF_tag (h.fields f hf))
theorem RightR.dir {r : RecD} (h : RightR r) (k : Nat) (hk : k ≤ r.fields.length) : (dirFrom 0 (r.fields.take k)).length = 12 * k := by
  rw [dirFrom_length _ _ (fun f hf => h.tags f (List.mem_of_mem_take hf)), List.length_take, Nat.min_eq_left hk]

end Go.Proofs.YtfkleeigdplapaaDoor

namespace Go.Proofs.YtfkleeigdplapaaDoor

def contLen (f : FieldD) : Nat := f.data.length + f.ind.length + (f.subs.flatMap subBytes).length
theorem flat_len_snoc (l : List SubD) (s : SubD) : ((l ++ [s]).flatMap subBytes).length = (l.flatMap subBytes).length + 2 + s.text.length := by
  simp [subBytes]; omega
theorem last_split {l : List SubD} {s : SubD} (h : l.getLast? = some s) : l.dropLast ++ [s] = l := by
  have hne : l ≠ [] := by rintro rfl; simp at h
  rw [List.getLast?_eq_some_getLast hne] at h
  injection h with h
  rw [← h]
  exact List.dropLast_concat_getLast hne
theorem setCode_len (l : List SubD) (c : UInt8) : ((setCode l c).flatMap subBytes).length ≤ (l.flatMap subBytes).length := by
  unfold setCode
  split
  · rename_i s h
    have hl := last_split h
    conv => rhs; rw [← hl]
    rw [flat_len_snoc, flat_len_snoc]
    exact Nat.le_refl _
  · simp
theorem addText_len (l : List SubD) (c : UInt8) : ((addText l c).flatMap subBytes).length ≤ (l.flatMap subBytes).length + 1 := by
  unfold addText
  split
  · rename_i s h
    have hl := last_split h
    conv => rhs; rw [← hl]
    rw [flat_len_snoc, flat_len_snoc]
    simp
    omega
  · simp
theorem step_len {text : Bool} {i : Nat} {prev c : UInt8} {st st' : FS} (h : fieldStep text i prev c st = some st') : contLen st'.f ≤ contLen st.f + 2 := by
  have h1 := setCode_len st.f.subs c
  have h2 := addText_len st.f.subs c
  unfold fieldStep at h
  unfold contLen
  split at h
  · cases h
  split at h
  · split at h
    · cases h; simp; omega
    · cases h
  split at h
  · split at h
    · cases h; simp; simp at h1; omega
    · cases h
  split at h
  · cases h
    have := flat_len_snoc st.f.subs ⟨0, []⟩
    simp only [List.length_nil] at this
    simp only
    omega
  split at h
  · cases h; simp
  split at h
  · cases h
  split at h
  · cases h
  · cases h
    split
    · simp; omega
    · simp; simp at h2; omega
theorem fieldGo_len (text : Bool) : ∀ (l : Bs) (i : Nat) (prev : UInt8) (st : FS) (f : FieldD), fieldGo text l i prev st = .ok f → contLen f ≤ contLen st.f + 2 * l.length := by
  intro l
  induction l with
  | nil =>
    intro i prev st f h
    unfold fieldGo at h
    split at h
    · cases h; simp
    · cases h
  | cons c l ih =>
    intro i prev st f h
    unfold fieldGo at h
    split at h
    · rename_i st' hs
      have := ih _ _ _ _ h
      have := step_len hs
      simp only [List.length_cons]
      omega
    · cases h
theorem fieldR_len {tag s : Bs} {f : FieldD} (h : fieldR tag s = .ok f) : (fieldBytes f).length ≤ 2 * s.length + 1 := by
  have := fieldGo_len _ _ _ _ _ _ h
  simp only [contLen, List.length_nil, List.flatMap_nil] at this
  simp only [fieldBytes, List.length_append, List.length_singleton]
  omega
theorem entriesR_length (s : Bs) (size : Int) : ∀ (n at_ : Nat) (sum : Int) (l : List (Bs × Nat × Nat)), entriesR s size n at_ sum = .ok l → l.length = n := by
  intro n
  induction n with
  | zero => intro at_ sum l h; simp only [entriesR] at h; cases h; rfl
  | succ n ih =>
    intro at_ sum l h
    simp only [entriesR] at h
    split at h
    · cases h
    · split at h
      · rename_i l' hl
        cases h
        simp [ih _ _ _ hl]
      · cases h
theorem sub3_le (l : Bs) (a b : Nat) : (sub3 l a b).length ≤ l.length := by simp [sub3]; omega
theorem fieldsR_small (s : Bs) (b : Nat) : ∀ (es : List (Bs × Nat × Nat)) (fs : List FieldD), fieldsR s b es = .ok fs → fs.length = es.length ∧ ∀ f ∈ fs, (fieldBytes f).length ≤ 2 * s.length + 1 := by
  intro es
  induction es with
  | nil => intro fs h; simp only [fieldsR] at h; cases h; exact ⟨rfl, by simp⟩
  | cons e es ih =>
    intro fs h
    obtain ⟨tag, m, k⟩ := e
    simp only [fieldsR] at h
    split at h
    · cases h
    · rename_i f hf
      split at h
      · rename_i fs' hfs
        cases h
        obtain ⟨h1, h2⟩ := ih _ hfs
        refine ⟨by simp [h1], ?_⟩
        intro g hg
        rcases List.mem_cons.1 hg with rfl | hg
        · have := fieldR_len hf
          have := sub3_le s (b + k) (b + k + m)
          omega
        · exact h2 g hg
      · cases h
theorem numB_5 (l : Bs) (h : l.length ≤ 5) : numB l < 100000 := by
  by_cases hd : l.all digitB = true
  · have := (numFrom_le l hd 0 (by omega)).2
    have h2 : (10 ^ l.length : Nat) ≤ 10 ^ 5 := Nat.pow_le_pow_right (by omega) h
    unfold numB
    simp only [Int.zero_add, Int.one_mul] at this
    omega
  · unfold numB; rw [numFrom_bad l hd]; omega
theorem parse_small {l : Bs} (hl : l.length ≤ 400000) : Small (parseR l).1.fields := by
  unfold parseR
  split
  · exact ⟨by simp, by simp⟩
  · simp only
    split
    · exact ⟨by simp, by simp⟩
    · rename_i es hes
      have hn := entriesR_length _ _ _ _ _ _ hes
      have hb := numB_5 (sub3 l 12 17) (by simp [sub3]; omega)
      split
      · exact ⟨by simp, by simp⟩
      · rename_i fs hfs
        obtain ⟨h1, h2⟩ := fieldsR_small _ _ _ _ hfs
        refine ⟨by simp only; omega, fun f hf => ?_⟩
        have := h2 f hf
        omega
end Go.Proofs.YtfkleeigdplapaaDoor

namespace Go.Proofs.YtfkleeigdplapaaDoor

/-! digits -/
theorem digit_ok (v : Nat) : digitB (UInt8.ofNat (48 + v % 10)) = true ∧ ((UInt8.ofNat (48 + v % 10)).toNat : Int) - 48 = ((v % 10 : Nat) : Int) := by
  have h : (UInt8.ofNat (48 + v % 10)).toNat = 48 + v % 10 := by simp; omega
  refine ⟨?_, by rw [h]; omega⟩
  unfold digitB
  rw [h]
  simp; omega
theorem fixedN_digits (n v : Nat) : (fixedN n v).all digitB = true := by
  induction n generalizing v with
  | zero => rfl
  | succ n ih =>
    unfold fixedN
    rw [List.all_append, ih, List.all_cons, List.all_nil, (digit_ok v).1]
    rfl
theorem numB_fixedN (n v : Nat) (h : v < 10 ^ n) : numB (fixedN n v) = v := by
  induction n generalizing v with
  | zero => have : v = 0 := by simpa using h
            subst this; rfl
  | succ n ih =>
    unfold numB fixedN
    rw [numFrom_snoc 0 _ _ (fixedN_digits _ _), if_pos (digit_ok v).1]
    have := ih (v / 10) (by rw [Nat.pow_succ] at h; omega)
    unfold numB at this
    rw [this, (digit_ok v).2]
    omega

/-! characters -/
theorem chNext_left0 {x : Ch} (h : x.left = 0) (c : UInt8) : chNext x c = chNext ch0 c := by
  unfold chNext
  simp [h, ch0]
theorem chRun_left0 {x : Ch} (h : x.left = 0) (l : Bs) (ht : isTextB l = true) : ∃ y, chRun x l = some y ∧ y.left = 0 := by
  cases l with
  | nil => exact ⟨x, rfl, h⟩
  | cons c l =>
    have h2 : chRun x (c :: l) = chRun ch0 (c :: l) := by simp only [chRun, chNext_left0 h]
    rw [h2]
    unfold isTextB at ht
    split at ht
    · rename_i y hy
      exact ⟨y, hy, by simpa using ht⟩
    · cases ht
theorem chNext_low4 {x : Ch} {c : UInt8} (h : x.left = 0) (hc : c.toNat < 32) : chNext x c = none := cn_none (by omega) (.inl hc)
theorem chNext_31 {x y : Ch} {c : UInt8} (hl : x.low = 128 ∨ x.left = 0 ∨ 128 ≤ x.low) (h : chNext x c = some y) : c ≠ 31 := by
  rintro rfl
  by_cases h0 : 0 < x.left
  · rw [cn_bad1 h0 (.inl (by show (31 : UInt8).toNat < _; have : (31 : UInt8).toNat = 31 := rfl; omega))] at h; cases h
  · rw [chNext_low4 (by omega) (by decide)] at h; cases h
theorem chNext_lo {x y : Ch} {c : UInt8} (h : chNext x c = some y) : 128 ≤ y.low := by
  unfold chNext at h
  dsimp only at h
  split at h
  · split at h <;> cases h; simp
  · split at h
    · cases h; simp
    · split at h
      · cases h; simp
      · split at h
        · cases h; simp only; split <;> omega
        · split at h
          · cases h; simp only; split <;> omega
          · cases h

/-! a field's bytes -/
def lastOf (p : UInt8) (l : Bs) : UInt8 := l.getLastD p
theorem lastOf_cons (p c : UInt8) (l : Bs) : lastOf p (c :: l) = lastOf c l := by unfold lastOf; rw [List.getLastD_cons]
theorem run_data (m : Bs) : ∀ (l : Bs) (i : Nat) (p : UInt8) (f : FieldD) (x y : Ch), (x.left = 0 ∨ 128 ≤ x.low) → chRun x l = some y →
    fieldGo true (l ++ m) i p ⟨f, x, false⟩ = fieldGo true m (i + l.length) (lastOf p l) ⟨{ f with data := f.data ++ l }, y, false⟩ := by
  intro l
  induction l with
  | nil => intro i p f x y _ h; simp only [chRun, Option.some.injEq] at h; subst h; simp [lastOf]
  | cons c l ih =>
    intro i p f x y hx h
    simp only [chRun] at h
    split at h
    · rename_i z hz
      have h31 : c ≠ 31 := chNext_31 (by omega) hz
      have h30 : ¬ (x.left = 0 ∧ c = 30) := by
        rintro ⟨a, rfl⟩
        rw [chNext_low4 a (by decide)] at hz; cases hz
      have hs : fieldStep true i p c ⟨f, x, false⟩ = some ⟨{ f with data := f.data ++ [c] }, z, false⟩ := by
        unfold fieldStep
        simp only [Bool.false_eq_true, if_false, Bool.not_true, Bool.false_and, Bool.and_false, Bool.true_or, Bool.and_true]
        rw [if_neg (by simpa using h30), hz]
        rfl
      rw [List.cons_append, fieldGo, hs]
      simp only
      rw [ih _ _ _ _ _ (.inr (chNext_lo hz)) h, lastOf_cons]
      simp [Nat.add_assoc, Nat.add_comm 1]
    · cases h
theorem addText_snoc4 (l : List SubD) (s : SubD) (c : UInt8) : addText (l ++ [s]) c = l ++ [{ s with text := s.text ++ [c] }] := by simp [addText]
theorem setCode_snoc4 (l : List SubD) (s : SubD) (c : UInt8) : setCode (l ++ [s]) c = l ++ [{ s with code := c }] := by simp [setCode]
theorem run_text (m : Bs) (g : FieldD) (ss : List SubD) (cd : UInt8) : ∀ (l : Bs) (i : Nat) (p : UInt8) (t : Bs) (x y : Ch), 2 ≤ i → p ≠ 31 → (x.left = 0 ∨ 128 ≤ x.low) → chRun x l = some y →
    fieldGo false (l ++ m) i p ⟨{ g with subs := ss ++ [⟨cd, t⟩] }, x, false⟩ = fieldGo false m (i + l.length) (lastOf p l) ⟨{ g with subs := ss ++ [⟨cd, t ++ l⟩] }, y, false⟩ ∧ lastOf p l ≠ 31 := by
  intro l
  induction l with
  | nil => intro i p t x y _ hp _ h; simp only [chRun, Option.some.injEq] at h; subst h; simpa [lastOf] using hp
  | cons c l ih =>
    intro i p t x y hi hp hx h
    simp only [chRun] at h
    split at h
    · rename_i z hz
      have h31 : c ≠ 31 := chNext_31 (by omega) hz
      have h30 : ¬ (x.left = 0 ∧ c = 30) := by
        rintro ⟨a, rfl⟩
        rw [chNext_low4 a (by decide)] at hz; cases hz
      have hs : fieldStep false i p c ⟨{ g with subs := ss ++ [⟨cd, t⟩] }, x, false⟩ = some ⟨{ g with subs := ss ++ [⟨cd, t ++ [c]⟩] }, z, false⟩ := by
        unfold fieldStep
        simp only [Bool.false_eq_true, if_false, Bool.not_false, Bool.true_and]
        rw [if_neg (by simp; omega), if_neg (by simp [hp]), if_neg (by simp [h31]), if_neg (by intro hh; apply h30; simpa using hh), if_neg (by simp), hz]
        simp [addText_snoc4]
      rw [List.cons_append, fieldGo, hs]
      simp only
      obtain ⟨h1, h2⟩ := ih (i + 1) c (t ++ [c]) z y (by omega) h31 (.inr (chNext_lo hz)) h
      rw [h1, lastOf_cons]
      refine ⟨?_, h2⟩
      simp [Nat.add_assoc, Nat.add_comm 1]
    · cases h
theorem signB_31 {c : UInt8} (h : signB c = true) : c ≠ 31 := by rintro rfl; exact absurd h (by decide)
theorem run_subs (m : Bs) (g : FieldD) : ∀ (l ss : List SubD) (i : Nat) (p : UInt8) (x : Ch), 2 ≤ i → p ≠ 31 ∨ ss = [] → x.left = 0 → (∀ s ∈ l, subOk s = true) →
    ∃ q y, fieldGo false (l.flatMap subBytes ++ m) i p ⟨{ g with subs := ss }, x, false⟩ = fieldGo false m (i + (l.flatMap subBytes).length) q ⟨{ g with subs := ss ++ l }, y, false⟩ ∧ y.left = 0 ∧ (q ≠ 31 ∨ l = [] ∧ q = p) := by
  intro l
  induction l with
  | nil => intro ss i p x _ _ hx _; exact ⟨p, x, by simp, hx, .inr ⟨rfl, rfl⟩⟩
  | cons s l ih =>
    intro ss i p x hi hp hx hok
    have hs := hok s (List.mem_cons_self)
    simp only [subOk, Bool.and_eq_true] at hs
    obtain ⟨y, hy, hy0⟩ := chRun_left0 (x := x) hx s.text hs.1
    have s1 : fieldStep false i p 31 ⟨{ g with subs := ss }, x, false⟩ = some ⟨{ g with subs := ss ++ [⟨0, []⟩] }, x, false⟩ := by
      unfold fieldStep
      simp only [Bool.false_eq_true, if_false, Bool.not_false, Bool.true_and]
      rw [if_neg (by simp; omega), if_neg (by rcases hp with hp | hp <;> simp [hp]), if_pos (by simp [hx])]
    have s2 : fieldStep false (i + 1) 31 s.code ⟨{ g with subs := ss ++ [⟨0, []⟩] }, x, false⟩ = some ⟨{ g with subs := ss ++ [⟨s.code, []⟩] }, x, false⟩ := by
      unfold fieldStep
      simp only [Bool.false_eq_true, if_false, Bool.not_false, Bool.true_and]
      rw [if_neg (by simp; omega), if_pos (by simp), if_pos hs.2, setCode_snoc4]
    obtain ⟨h1, h2⟩ := run_text (l.flatMap subBytes ++ m) g ss s.code s.text (i + 1 + 1) s.code [] x y (by omega) (signB_31 hs.2) (.inl hx) hy
    obtain ⟨q, y', h3, h4, h5⟩ := ih (ss ++ [⟨s.code, [] ++ s.text⟩]) (i + 1 + 1 + s.text.length) (lastOf s.code s.text) y (by omega) (.inl h2) hy0 (fun t ht => hok t (List.mem_cons_of_mem _ ht))
    refine ⟨q, y', ?_, h4, ?_⟩
    · rw [List.flatMap_cons, List.append_assoc]
      simp only [subBytes, List.cons_append]
      rw [fieldGo, s1]
      simp only
      rw [fieldGo, s2]
      simp only
      rw [h1, h3]
      simp only [List.nil_append, List.append_assoc, List.singleton_append, List.length_append, List.length_cons]
      rw [show i + 1 + 1 + s.text.length + (l.flatMap subBytes).length = i + (s.text.length + (l.flatMap subBytes).length + 1 + 1) from by omega]
    · rcases h5 with h5 | ⟨_, h5⟩
      · exact .inl h5
      · left; rw [h5]; exact h2
theorem indicB_31 {c : UInt8} (h : indicB c = true) : c ≠ 31 := by rintro rfl; exact absurd h (by decide)
theorem wrongF_ctrl {f : FieldD} (h : wrongF f = 0) (hc : ctrlB f.tag = true) : isTextB f.data = true ∧ f.ind = [] ∧ f.subs = [] := by
  have ht := wrongF_tag h
  unfold wrongF at h
  rw [ht, hc] at h
  simp only [Bool.not_true, Bool.false_eq_true, if_false, if_true] at h
  split at h
  · rename_i hh; simp at hh; exact ⟨hh.1.1, hh.1.2, hh.2⟩
  · cases h
theorem wrongF_data {f : FieldD} (h : wrongF f = 0) (hc : ctrlB f.tag = false) : f.data = [] ∧ indsB f.ind = true ∧ f.subs ≠ [] ∧ ∀ s ∈ f.subs, subOk s = true := by
  have ht := wrongF_tag h
  unfold wrongF at h
  rw [ht, hc] at h
  simp only [Bool.not_true, Bool.false_eq_true, if_false] at h
  split at h
  · rename_i hh
    simp only [Bool.and_eq_true, decide_eq_true_eq, Bool.not_eq_true', List.all_eq_true] at hh
    exact ⟨hh.1.1.1, hh.1.1.2, (fun e => by have := hh.1.2; rw [e] at this; cases this), hh.2⟩
  · cases h
theorem fieldR_back {f : FieldD} (h : wrongF f = 0) : fieldR f.tag (fieldBytes f) = .ok f := by
  cases hc : ctrlB f.tag
  · obtain ⟨h1, h2, h3, h4⟩ := wrongF_data h hc
    obtain ⟨tag, ind, data, subs⟩ := f
    simp only at h1 h2 h3 h4 hc ⊢
    subst h1
    obtain ⟨a, b, rfl⟩ : ∃ a b, ind = [a, b] := by
      simp only [indsB, Bool.and_eq_true, decide_eq_true_eq] at h2
      match ind, h2.1 with
      | [a, b], _ => exact ⟨a, b, rfl⟩
    simp only [indsB, Bool.and_eq_true, decide_eq_true_eq, List.all_cons, List.all_nil, Bool.and_true] at h2
    obtain ⟨_, ha, hb⟩ := h2
    obtain ⟨q, y, e1, e2, e3⟩ := run_subs [30] ⟨tag, [a, b], [], []⟩ subs [] 2 b ch0 (Nat.le_refl 2) (.inr rfl) rfl h4
    unfold fieldR fieldBytes
    rw [hc]
    simp only [List.nil_append, List.cons_append]
    rw [fieldGo, show fieldStep false 0 0 a ⟨⟨tag, [], [], []⟩, ch0, false⟩ = some ⟨⟨tag, [a], [], []⟩, ch0, false⟩ from by unfold fieldStep; simp [ha]]
    simp only
    rw [fieldGo, show fieldStep false 1 a b ⟨⟨tag, [a], [], []⟩, ch0, false⟩ = some ⟨⟨tag, [a, b], [], []⟩, ch0, false⟩ from by unfold fieldStep; simp [hb]]
    simp only
    simp only [List.nil_append] at e1
    rw [e1]
    have hq : q ≠ 31 := by rcases e3 with e3 | e3; exact e3; exact absurd e3.1 h3
    rw [fieldGo, show fieldStep false (2 + (subs.flatMap subBytes).length) q 30 ⟨⟨tag, [a, b], [], subs⟩, y, false⟩ = some ⟨⟨tag, [a, b], [], subs⟩, y, true⟩ from by
      unfold fieldStep
      simp only [Bool.false_eq_true, if_false, Bool.not_false, Bool.true_and]
      rw [if_neg (by simp), if_neg (by simp [hq]), if_neg (by simp), if_pos (by simp [e2, h3])]]
    rfl
  · obtain ⟨h1, h2, h3⟩ := wrongF_ctrl h hc
    obtain ⟨tag, ind, data, subs⟩ := f
    simp only at h1 h2 h3 hc ⊢
    subst h2 h3
    obtain ⟨y, hy, hy0⟩ := chRun_left0 (x := ch0) rfl data h1
    unfold fieldR fieldBytes
    rw [hc]
    simp only [List.append_nil, List.flatMap_nil]
    rw [run_data [30] data 0 0 _ ch0 y (.inl rfl) hy]
    rw [fieldGo, show fieldStep true (0 + data.length) (lastOf 0 data) 30 ⟨⟨tag, [], [] ++ data, []⟩, y, false⟩ = some ⟨⟨tag, [], data, []⟩, y, true⟩ from by
      unfold fieldStep
      simp [hy0]]
    rfl
end Go.Proofs.YtfkleeigdplapaaDoor

namespace Go.Proofs.YtfkleeigdplapaaDoor

def dirP : List (FieldD × Nat) → Bs
  | [] => []
  | (f, p) :: l => f.tag ++ fixedN 4 (fieldBytes f).length ++ fixedN 5 p ++ dirP l
/-- The bytes of the leader that play no part. -/
structure Free where
  a : UInt8
  b : UInt8
  c : UInt8
  d : UInt8
  e : UInt8
def leadG (total base : Nat) (k l : UInt8) (x : Free) : Bs := fixedN 5 total ++ [x.a, k, l, x.b, 97, 50, 50] ++ fixedN 5 base ++ [x.c, x.d, x.e, 52, 53, 48, 48]
def laidG (k l : UInt8) (x : Free) (ps : List (FieldD × Nat)) (data : Bs) : Bs :=
  leadG (25 + 12 * ps.length + data.length + 1) (25 + 12 * ps.length) k l x ++ dirP ps ++ [30] ++ data ++ [29]
def sumLen (ps : List (FieldD × Nat)) : Nat := (ps.map fun p => (fieldBytes p.1).length).sum
structure LaidOk (k l : UInt8) (ps : List (FieldD × Nat)) (data : Bs) : Prop where
  kind : letterB k = true
  level : letterB l = true
  right : ∀ p ∈ ps, wrongF p.1 = 0
  long : ∀ p ∈ ps, (fieldBytes p.1).length ≤ 9999
  lies : ∀ p ∈ ps, (data.drop p.2).take (fieldBytes p.1).length = fieldBytes p.1
  many : ps.length ≤ 999
  size : 26 + 12 * ps.length + data.length ≤ 99999
  sum : sumLen ps ≤ data.length

theorem sub3_mid (a b c : Bs) (i j : Nat) (hi : i = a.length) (hj : j = a.length + b.length) : sub3 (a ++ (b ++ c)) i j = b := by
  subst hi hj
  unfold sub3
  rw [List.drop_take]
  simp
theorem getD_mid (a : Bs) (c : UInt8) (b : Bs) (i : Nat) (hi : i = a.length) : (a ++ c :: b).getD i 0 = c := by
  subst hi
  simp
theorem bytes_pos (f : FieldD) : 1 ≤ (fieldBytes f).length := by simp [fieldBytes]; omega
theorem lies_le {data : Bs} {k : Nat} {f : FieldD} (h : (data.drop k).take (fieldBytes f).length = fieldBytes f) : k + (fieldBytes f).length ≤ data.length := by
  have := congrArg List.length h
  have := bytes_pos f
  simp at *
  omega
theorem five {l : Bs} (h : l.length = 5) : ∃ a b c d e, l = [a, b, c, d, e] := by
  match l, h with
  | [a, b, c, d, e], _ => exact ⟨a, b, c, d, e, rfl⟩
theorem dirP_length {ps : List (FieldD × Nat)} (h : ∀ p ∈ ps, wrongF p.1 = 0) : (dirP ps).length = 12 * ps.length := by
  induction ps with
  | nil => rfl
  | cons p ps ih =>
    obtain ⟨f, k⟩ := p
    have := isTag_len (wrongF_tag (h _ (List.mem_cons_self)))
    have := ih (fun p hp => h p (List.mem_cons_of_mem _ hp))
    simp only [dirP, List.length_append, fixedN_length, List.length_cons] at *
    omega
theorem entries_laid (s : Bs) (size : Int) : ∀ (ps : List (FieldD × Nat)) (pre rest : Bs) (sum : Int) (at_ : Nat), at_ = pre.length → s = pre ++ (dirP ps ++ rest) → (∀ p ∈ ps, wrongF p.1 = 0) → (∀ p ∈ ps, (fieldBytes p.1).length ≤ 9999) →
    (∀ p ∈ ps, p.2 ≤ 99999 ∧ (p.2 : Int) + (fieldBytes p.1).length ≤ size) → sum + sumLen ps ≤ size →
    entriesR s size ps.length at_ sum = .ok (ps.map fun p => (p.1.tag, (fieldBytes p.1).length, p.2)) := by
  intro ps
  induction ps with
  | nil => intro pre rest sum at_ _ _ _ _ _ _; rfl
  | cons p ps ih =>
    intro pre rest sum at_ ha hs hr hl hp hsum
    obtain ⟨f, k⟩ := p
    have htag := wrongF_tag (hr _ (List.mem_cons_self))
    have ht3 := isTag_len htag
    have hl1 := hl _ (List.mem_cons_self)
    obtain ⟨hk1, hk2⟩ := hp _ (List.mem_cons_self)
    simp only at htag ht3 hl1 hk1 hk2
    have hpos := bytes_pos f
    have e1 : sub3 s at_ (at_ + 3) = f.tag := by
      rw [hs, dirP]
      simp only [List.append_assoc]
      exact sub3_mid _ _ _ _ _ ha (by omega)
    have e2 : sub3 s (at_ + 3) (at_ + 7) = fixedN 4 (fieldBytes f).length := by
      rw [hs, dirP]
      simp only [List.append_assoc]
      rw [← List.append_assoc pre]
      exact sub3_mid _ _ _ _ _ (by simp; omega) (by simp [fixedN_length]; omega)
    have e3 : sub3 s (at_ + 7) (at_ + 12) = fixedN 5 k := by
      rw [hs, dirP]
      simp only [List.append_assoc]
      rw [← List.append_assoc pre, ← List.append_assoc (pre ++ f.tag)]
      exact sub3_mid _ _ _ _ _ (by simp [fixedN_length]; omega) (by simp [fixedN_length]; omega)
    have n2 := numB_fixedN 4 (fieldBytes f).length (by omega)
    have n3 := numB_fixedN 5 k (by omega)
    have hsl : sumLen ((f, k) :: ps) = (fieldBytes f).length + sumLen ps := by simp [sumLen]
    rw [hsl] at hsum
    simp only [List.length_cons, entriesR, e1, e2, e3, n2, n3, htag, Bool.not_true, Bool.false_or]
    rw [if_neg (by simp only [Bool.or_eq_true, decide_eq_true_eq]; omega)]
    have := ih (pre ++ (f.tag ++ fixedN 4 (fieldBytes f).length ++ fixedN 5 k)) rest (sum + (fieldBytes f).length) (at_ + 12) (by simp [fixedN_length]; omega)
      (by rw [hs, dirP]; simp only [List.append_assoc])
      (fun p hp => hr p (List.mem_cons_of_mem _ hp)) (fun p h => hl p (List.mem_cons_of_mem _ h)) (fun p h => hp p (List.mem_cons_of_mem _ h)) (by omega)
    rw [this]
    simp
theorem fields_laid (s : Bs) (pre data : Bs) (b : Nat) (hb : b = pre.length) (hs : s = pre ++ (data ++ [29])) : ∀ ps : List (FieldD × Nat), (∀ p ∈ ps, wrongF p.1 = 0) → (∀ p ∈ ps, (data.drop p.2).take (fieldBytes p.1).length = fieldBytes p.1) →
    fieldsR s b (ps.map fun p => (p.1.tag, (fieldBytes p.1).length, p.2)) = .ok (ps.map (·.1)) := by
  intro ps
  induction ps with
  | nil => intro _ _; rfl
  | cons p ps ih =>
    intro hr hl
    obtain ⟨f, k⟩ := p
    have h1 := hl _ (List.mem_cons_self)
    have h2 := hr _ (List.mem_cons_self)
    simp only at h1 h2
    have hle := lies_le h1
    have e : sub3 s (b + k) (b + k + (fieldBytes f).length) = fieldBytes f := by
      unfold sub3
      rw [List.drop_take, hs, hb]
      rw [show pre.length + k + (fieldBytes f).length - (pre.length + k) = (fieldBytes f).length from by omega]
      rw [List.drop_append, List.drop_eq_nil_of_le (by omega), List.nil_append, show pre.length + k - pre.length = k from by omega]
      rw [List.drop_append_of_le_length (by omega), List.take_append_of_le_length (by simp; omega)]
      exact h1
    simp only [List.map_cons, fieldsR]
    rw [e, fieldR_back h2, ih (fun p hp => hr p (List.mem_cons_of_mem _ hp)) (fun p h => hl p (List.mem_cons_of_mem _ h))]
theorem laid_length {k l : UInt8} {x : Free} {ps : List (FieldD × Nat)} {data : Bs} (h : ∀ p ∈ ps, wrongF p.1 = 0) : (laidG k l x ps data).length = 26 + 12 * ps.length + data.length := by
  have := dirP_length h
  simp only [laidG, leadG, List.length_append, fixedN_length, List.length_cons, List.length_nil]
  omega
theorem leader_laid {k l : UInt8} {x : Free} {ps : List (FieldD × Nat)} {data : Bs} (h : LaidOk k l ps data) : leaderR (laidG k l x ps data) = (0, 0) ∧ numB (sub3 (laidG k l x ps data) 12 17) = 25 + 12 * ps.length := by
  have hlen := laid_length (k := k) (l := l) (x := x) (data := data) h.right
  have hd := dirP_length h.right
  have hm := h.many
  have hz := h.size
  obtain ⟨t0, t1, t2, t3, t4, ht⟩ := five (fixedN_length 5 (25 + 12 * ps.length + data.length + 1))
  obtain ⟨b0, b1, b2, b3, b4, hb⟩ := five (fixedN_length 5 (25 + 12 * ps.length))
  have nt := numB_fixedN 5 (25 + 12 * ps.length + data.length + 1) (by omega)
  have nb := numB_fixedN 5 (25 + 12 * ps.length) (by omega)
  rw [ht] at nt
  rw [hb] at nb
  have g1 : (laidG k l x ps data).getD (24 + 12 * ps.length) 0 = 30 := by
    have : laidG k l x ps data = (leadG (25 + 12 * ps.length + data.length + 1) (25 + 12 * ps.length) k l x ++ dirP ps) ++ 30 :: (data ++ [29]) := by simp [laidG]
    rw [this]
    exact getD_mid _ _ _ _ (by simp [leadG, fixedN_length, hd]; omega)
  have g2 : (laidG k l x ps data).getD (25 + 12 * ps.length + data.length) 0 = 29 := by
    have : laidG k l x ps data = (leadG (25 + 12 * ps.length + data.length + 1) (25 + 12 * ps.length) k l x ++ dirP ps ++ [30] ++ data) ++ 29 :: [] := by simp [laidG]
    rw [this]
    exact getD_mid _ _ _ _ (by simp [leadG, fixedN_length, hd]; omega)
  have hs : ∃ m, laidG k l x ps data = t0 :: t1 :: t2 :: t3 :: t4 :: x.a :: k :: l :: x.b :: 97 :: 50 :: 50 :: b0 :: b1 :: b2 :: b3 :: b4 :: x.c :: x.d :: x.e :: 52 :: 53 :: 48 :: 48 :: m := by
    unfold laidG leadG
    rw [ht, hb]
    exact ⟨_, rfl⟩
  generalize laidG k l x ps data = s at *
  obtain ⟨m, rfl⟩ := hs
  have n1 : numB (sub3 (t0 :: t1 :: t2 :: t3 :: t4 :: x.a :: k :: l :: x.b :: 97 :: 50 :: 50 :: b0 :: b1 :: b2 :: b3 :: b4 :: x.c :: x.d :: x.e :: 52 :: 53 :: 48 :: 48 :: m) 12 17) = ((25 + 12 * ps.length : Nat) : Int) := nb
  have n0 : numB ((t0 :: t1 :: t2 :: t3 :: t4 :: x.a :: k :: l :: x.b :: 97 :: 50 :: 50 :: b0 :: b1 :: b2 :: b3 :: b4 :: x.c :: x.d :: x.e :: 52 :: 53 :: 48 :: 48 :: m).take 5) = ((25 + 12 * ps.length + data.length + 1 : Nat) : Int) := nt
  refine ⟨?_, by rw [n1]; simp⟩
  unfold leaderR
  simp only [n0, n1]
  rw [if_neg (by rw [hlen]; omega), if_neg (by omega), if_neg (by rw [hlen]; omega), if_neg (by rw [hlen]; omega)]
  rw [if_neg (by show ¬ (!letterB k) = true; simp [h.kind]), if_neg (by show ¬ (!letterB l) = true; simp [h.level])]
  rw [if_neg (by show ¬ ((97 : UInt8) ≠ 97); simp), if_neg (by show ¬ ([50, 50] ≠ [50, 50]); simp), if_neg (by show ¬ ([52, 53, 48, 48] ≠ [52, 53, 48, 48]); simp)]
  rw [show (((25 + 12 * ps.length : Nat) : Int) - 1).toNat = 24 + 12 * ps.length from by omega, show (((25 + 12 * ps.length + data.length + 1 : Nat) : Int) - 1).toNat = 25 + 12 * ps.length + data.length from by omega, g1, g2]
  rw [if_neg (by simp; omega), if_neg (by omega), if_neg (by simp)]
theorem parse_laid {k l : UInt8} {x : Free} {ps : List (FieldD × Nat)} {data : Bs} (h : LaidOk k l ps data) : parseR (laidG k l x ps data) = (⟨k, l, ps.map (·.1)⟩, 0, 0) := by
  obtain ⟨h1, h2⟩ := leader_laid (x := x) h
  have hlen := laid_length (k := k) (l := l) (x := x) (data := data) h.right
  have hd := dirP_length h.right
  have hm := h.many
  have hz := h.size
  have g6 : (laidG k l x ps data).getD 6 0 = k := by
    obtain ⟨t0, t1, t2, t3, t4, ht⟩ := five (fixedN_length 5 (25 + 12 * ps.length + data.length + 1))
    unfold laidG leadG
    rw [ht]; rfl
  have g7 : (laidG k l x ps data).getD 7 0 = l := by
    obtain ⟨t0, t1, t2, t3, t4, ht⟩ := five (fixedN_length 5 (25 + 12 * ps.length + data.length + 1))
    unfold laidG leadG
    rw [ht]; rfl
  unfold parseR
  rw [h1, h2]
  simp only [ne_eq, not_true_eq_false, if_false, g6, g7]
  rw [show ((25 : Int) + 12 * (ps.length : Int)).toNat = 25 + 12 * ps.length from by omega, hlen, show (25 + 12 * ps.length - 25) / 12 = ps.length from by omega]
  rw [entries_laid (laidG k l x ps data) _ ps (leadG (25 + 12 * ps.length + data.length + 1) (25 + 12 * ps.length) k l x) ([30] ++ (data ++ [29])) 0 24 (by simp [leadG, fixedN_length]) (by simp [laidG]) h.right h.long
    (fun p hp => by have := lies_le (h.lies p hp); omega) (by have := h.sum; omega)]
  simp only
  rw [fields_laid (laidG k l x ps data) (leadG (25 + 12 * ps.length + data.length + 1) (25 + 12 * ps.length) k l x ++ dirP ps ++ [30]) data _ (by simp [leadG, fixedN_length, hd]; omega) (by simp [laidG]) ps h.right h.lies]

/-! Write's own laying -/
def placesFrom : Nat → List FieldD → List (FieldD × Nat)
  | _, [] => []
  | p, f :: l => (f, p) :: placesFrom (p + (fieldBytes f).length) l
theorem places_fst (fs : List FieldD) : ∀ p, (placesFrom p fs).map (·.1) = fs := by
  induction fs with
  | nil => intro p; rfl
  | cons f fs ih => intro p; simp [placesFrom, ih]
theorem places_length (fs : List FieldD) (p : Nat) : (placesFrom p fs).length = fs.length := by
  have := congrArg List.length (places_fst fs p); simpa using this
theorem places_mem {fs : List FieldD} {p : Nat} {q : FieldD × Nat} (h : q ∈ placesFrom p fs) : q.1 ∈ fs := by
  have := List.mem_map_of_mem (f := (·.1)) h; rwa [places_fst] at this
theorem dirP_places (fs : List FieldD) : ∀ p, dirP (placesFrom p fs) = dirFrom p fs := by
  induction fs with
  | nil => intro p; rfl
  | cons f fs ih => intro p; simp [placesFrom, dirP, dirFrom, ih]
theorem sumLen_places (fs : List FieldD) : ∀ p, sumLen (placesFrom p fs) = (dataOf fs).length := by
  induction fs with
  | nil => intro p; rfl
  | cons f fs ih => intro p; have := ih (p + (fieldBytes f).length); simp only [placesFrom, sumLen, List.map_cons, List.sum_cons, dataOf, List.flatMap_cons, List.length_append] at *; omega
theorem places_lies (rest : Bs) : ∀ (fs : List FieldD) (pre : Bs), ∀ q ∈ placesFrom pre.length fs, ((pre ++ (dataOf fs ++ rest)).drop q.2).take (fieldBytes q.1).length = fieldBytes q.1 := by
  intro fs
  induction fs with
  | nil => intro pre q h; cases h
  | cons f fs ih =>
    intro pre q h
    simp only [placesFrom, List.mem_cons] at h
    rcases h with rfl | h
    · simp [dataOf]
    · have := ih (pre ++ fieldBytes f) q (by simpa using h)
      simpa [dataOf] using this
theorem writeB_laid {r : RecD} (h : ∀ f ∈ r.fields, wrongF f = 0) : writeB r = laidG r.kind r.level ⟨110, 32, 32, 32, 32⟩ (placesFrom 0 r.fields) (dataOf r.fields) := by
  have hd := dirP_length (ps := placesFrom 0 r.fields) (fun p hp => h _ (places_mem hp))
  rw [dirP_places, places_length] at hd
  unfold writeB laidG
  rw [dirP_places, places_length, hd]
  rfl
theorem right_laid {r : RecD} (h : wrongR r = 0) : LaidOk r.kind r.level (placesFrom 0 r.fields) (dataOf r.fields) := by
  unfold wrongR at h
  split at h
  · cases h
  · rename_i hk
    simp only [Bool.or_eq_true, Bool.not_eq_true', not_or, Bool.not_eq_false] at hk
    split at h
    · exact absurd h ‹_›
    · rename_i hw
      have hw0 : firstWrong r.fields = 0 := by simpa using hw
      split at h
      · cases h
      · rename_i hx
        simp only [Bool.or_eq_true, decide_eq_true_eq, not_or, Bool.not_eq_true] at hx
        obtain ⟨⟨h1, h2⟩, h3⟩ := hx
        have hr := firstWrong_zero hw0
        refine ⟨hk.1, hk.2, fun p hp => hr _ (places_mem hp), fun p hp => ?_, ?_, by rw [places_length]; omega, ?_, by rw [sumLen_places]; exact Nat.le_refl _⟩
        · have := places_mem hp
          unfold tooLong at h1
          rw [List.any_eq_false] at h1
          have := h1 _ this
          simpa using this
        · have := places_lies [] r.fields []
          simpa using this
        · rw [places_length]
          rw [sizeOf_eq] at h3
          omega
theorem parse_back {r : RecD} (h : wrongR r = 0) : parseR (writeB r) = (r, 0, 0) := by
  have hl := right_laid h
  have hr : ∀ f ∈ r.fields, wrongF f = 0 := by
    intro f hf
    rw [← places_fst r.fields 0] at hf
    obtain ⟨p, hp, rfl⟩ := List.mem_map.1 hf
    exact hl.right p hp
  rw [writeB_laid hr, parse_laid hl, places_fst]
theorem write_length {r : RecD} (h : wrongR r = 0) : (writeB r).length = 26 + 12 * r.fields.length + (dataOf r.fields).length ∧ (writeB r).length ≤ 99999 := by
  have hl := right_laid h
  have hr : ∀ f ∈ r.fields, wrongF f = 0 := by
    intro f hf
    rw [← places_fst r.fields 0] at hf
    obtain ⟨p, hp, rfl⟩ := List.mem_map.1 hf
    exact hl.right p hp
  have := laid_length (k := r.kind) (l := r.level) (x := ⟨110, 32, 32, 32, 32⟩) (data := dataOf r.fields) hl.right
  have hz := hl.size
  rw [places_length] at *
  rw [writeB_laid hr, this]
  exact ⟨rfl, by omega⟩
end Go.Proofs.YtfkleeigdplapaaDoor
