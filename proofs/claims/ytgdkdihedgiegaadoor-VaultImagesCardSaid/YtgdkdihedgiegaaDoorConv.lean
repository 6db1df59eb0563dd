/-
  'string([]byte{..})' as an unconditional rule of the walk: what the cells hold is asked of the result, not ahead of it.
  The walks of zeros, header and the reference's Number; a number's bytes.
  The program's Number: a range over an iterator that keeps what is left of the number in a cell of its own.
-/
import Derived.Test.YtgdkdihedgiegaaDoorProg
import Derived.Test.YtgdkdihedgiegaaDoorA1
import Derived.Test.YtgdkdihedgiegaaDoorD5
import Derived.Deep.RegionWith
import Derived.RangeFuncNested
import Derived.RangeFuncBound
import Derived.RangeFuncCalls
import Derived.RangeFuncLeaves
import Derived.Shelf.Abstract
import Derived.Shelf.RegionOpen
import Derived.OwnWalkIn
import Derived.TacticsInMore
import Derived.LoopNIn
import Derived.LoopIn
namespace Go.Proofs.YtgdkdihedgiegaaDoor
open Go.RowKit
/-- 'string(b)' of a slice of bytes whose cells are known. -/
theorem conv_cells (w : World) (a : Addr) (cap : Nat) (l : List Int) (hc : ∀ j (hj : j < l.length), w.cell? (a.add j) = some (.int .u8 l[j])) :
    (convert 51 9 (.slice (some a) l.length cap)).run Tryd.prog w = .ok (S (l.map fun n => UInt8.ofNat n.toNat)) w := by
  rw [run_convert_bytes_string w 51 9 5 (some a) l.length cap Tryd.underlying51 Tryd.underlying5 Tryd.underlying9]
  have hl := run_loadCells_list (P := Tryd.prog) w a (l.map (Value.int .u8)) (fun j v hj => by
    have hj' : j < l.length := by
      have := (List.getElem?_eq_some_iff.1 hj).1
      simpa using this
    rw [hc j hj']
    simp [List.getElem?_eq_getElem hj'] at hj
    rw [← hj])
  simp only [List.length_map] at hl
  rw [run_bytesToString w a l.length cap _ hl]
  have : ∀ (l : List Int) (r : ByteArray), l.foldl (fun r n => r.push (UInt8.ofNat n.toNat)) r = ⟨r.data ++ (l.map fun n => UInt8.ofNat n.toNat).toArray⟩ := by
    intro l
    induction l with
    | nil => intro r; simp
    | cons b l ih => intro r; simp only [List.foldl_cons, List.map_cons]; rw [ih]; simp [ByteArray.push]
  rw [this]
  have he0 : ByteArray.empty.data = #[] := rfl
  rw [he0]
  simp
theorem conv_one (w : World) (b : Nat) (c : Int) (h : w.cell? ⟨b, 0, none⟩ = some (.int .u8 c)) :
   (convert 51 9 (.slice (some ⟨b, 0, none⟩) 1 1)).run Tryd.prog w = .ok (S [UInt8.ofNat c.toNat]) w := by
  have := conv_cells w ⟨b, 0, none⟩ 1 [c] (fun j hj => by
    have : j = 0 := by simpa using hj
    subst this
    simpa [Addr.add] using h)
  simpa using this
theorem conv_two (w : World) (b : Nat) (c d : Int) (h0 : w.cell? ⟨b, 0, none⟩ = some (.int .u8 c)) (h1 : w.cell? ⟨b, 1, none⟩ = some (.int .u8 d)) :
   (convert 51 9 (.slice (some ⟨b, 0, none⟩) 2 2)).run Tryd.prog w = .ok (S [UInt8.ofNat c.toNat, UInt8.ofNat d.toNat]) w := by
  have := conv_cells w ⟨b, 0, none⟩ 2 [c, d] (fun j hj => by
    have : j = 0 ∨ j = 1 := by simp at hj; omega
    rcases this with rfl | rfl
    · simpa [Addr.add] using h0
    · simpa [Addr.add] using h1)
  simpa using this
open Classical in
noncomputable def cv1 (x : Option Value) (w : World) (b : Nat) : Result Value :=
  if x = w.cell? ⟨b, 0, none⟩ then (convert 51 9 (.slice (some ⟨b, 0, none⟩) 1 1)).run Tryd.prog w
  else match x with
    | some (.int .u8 c) => .ok (S [UInt8.ofNat c.toNat]) w
    | _ => (convert 51 9 (.slice (some ⟨b, 0, none⟩) 1 1)).run Tryd.prog w
theorem cv1_intro (w : World) (b : Nat) : (convert 51 9 (.slice (some ⟨b, 0, none⟩) 1 1)).run Tryd.prog w = cv1 (w.cell? ⟨b, 0, none⟩) w b := by unfold cv1; rw [if_pos rfl]
theorem cv1_some (c : Int) (w : World) (b : Nat) : cv1 (some (.int .u8 c)) w b = .ok (S [UInt8.ofNat c.toNat]) w := by
  unfold cv1
  split
  · rename_i h; exact conv_one w b c h.symm
  · rfl
open Classical in
noncomputable def cv2 (x y : Option Value) (w : World) (b : Nat) : Result Value :=
  if x = w.cell? ⟨b, 0, none⟩ ∧ y = w.cell? ⟨b, 1, none⟩ then (convert 51 9 (.slice (some ⟨b, 0, none⟩) 2 2)).run Tryd.prog w
  else match x, y with
    | some (.int .u8 c), some (.int .u8 d) => .ok (S [UInt8.ofNat c.toNat, UInt8.ofNat d.toNat]) w
    | _, _ => (convert 51 9 (.slice (some ⟨b, 0, none⟩) 2 2)).run Tryd.prog w
theorem cv2_intro (w : World) (b : Nat) : (convert 51 9 (.slice (some ⟨b, 0, none⟩) 2 2)).run Tryd.prog w = cv2 (w.cell? ⟨b, 0, none⟩) (w.cell? ⟨b, 1, none⟩) w b := by unfold cv2; rw [if_pos ⟨rfl, rfl⟩]
theorem cv2_some (c d : Int) (w : World) (b : Nat) : cv2 (some (.int .u8 c)) (some (.int .u8 d)) w b = .ok (S [UInt8.ofNat c.toNat, UInt8.ofNat d.toNat]) w := by
  unfold cv2
  split
  · rename_i h; exact conv_two w b c d h.1.symm h.2.symm
  · rfl
attribute [go_sem] cv1_intro cv1_some cv2_intro cv2_some

end Go.Proofs.YtgdkdihedgiegaaDoor

namespace Go.Proofs.YtgdkdihedgiegaaDoor
open Go.RowKit

theorem mk_zeros (w : World) (n : Nat) (hn : n ≤ 100000000) : ∃ w1, (Instr.makeSlice 51 (.int .i64 (n : Int)) (.int .i64 (n : Int))).run Tryd.prog w = .ok (.slice (some ⟨w.heap.size, 0, none⟩) n n) w1 ∧
    (convert 51 9 (.slice (some ⟨w.heap.size, 0, none⟩) n n)).run Tryd.prog w1 = .ok (S (zerosR n)) w1 ∧ Below w.heap.size w w1 ∧ w1.ownsRow w.heap.size 5 1 (.slice (some ⟨w.heap.size, 0, none⟩) n n) n (bv (zerosR n)) := by
  obtain ⟨i, hi, hz, hsz, hby⟩ := info_parts i5
  obtain ⟨w1, hr, hown, hg⟩ := run_make_full (P := Tryd.prog) w w.heap.size 51 5 i (.int .u8 0) 1 Tryd.underlying51 hi hz hsz .i64 .i64 n (by rw [hby]; omega) (by unfold maxLen; omega) (Nat.le_refl _)
  have hcells : (madeCells (Value.int .u8 0).cells (n * 1)).toList = bv (zerosR n) := by
    rw [show (Value.int .u8 0).cells = #[.int .u8 0] from rfl, toList_madeCells_one]
    simp [bv, zerosR]
  rw [hcells] at hown
  refine ⟨w1, hr, ?_, ⟨hg.os, hg.tape, hg.output, hg.size, fun k hk => hg.block k hk (by simp)⟩, hown⟩
  have := conv_back w1 ⟨w.heap.size, 0, none⟩ n (zerosR n) (fun j u hu => by
    have h := hown.cells (g := w.heap.size) rfl j u hu
    simpa using h)
  rwa [zeros_len] at this
set_option maxHeartbeats 1000000 in
set_option maxRecDepth 100000 in
theorem zeros_40 (w : World) (n : Int) (z : Nat) (hz : z = n.toNat) (hn : z ≤ 100000000) (hm : -100000000 ≤ n) :
    Calls Tryd.prog 40 #[.int .i64 n] w fun e w' => e = .returned (S (zerosR z)) ∧ Below w.heap.size w w' := by
  obtain ⟨w1, h1, h2, h3, _⟩ := mk_zeros w z hn
  have HB := Lib.hid h3
  clear h3
  rcases Int.lt_or_le n 0 with h0 | h0
  · obtain rfl : z = 0 := by omega
    rw [show ((0 : Nat) : Int) = 0 from rfl] at h1
    clear hz
    go_enter Tryd.func40, Tryd.ntmps40
    go_wp2_with fail
    go_ret
    exact ⟨rfl, HB.out⟩
  · obtain rfl : n = z := by omega
    clear hz
    go_enter Tryd.func40, Tryd.ntmps40
    go_wp2_with fail
    go_ret
    exact ⟨rfl, HB.out⟩
theorem numR_lt (n : Nat) (h : n < 128) : numR n = [UInt8.ofNat n] := numR_small h
set_option maxHeartbeats 1000000 in
set_option maxRecDepth 100000 in
theorem number_51 (n : Nat) (h : n < 18446744073709551616) : ∀ w, Calls Tryd.prog 51 #[.int .u64 n] w fun e w' => e = .returned (S (numR n)) ∧ Below w.heap.size w w' := by
  induction n using Nat.strongRecOn with
  | ind n ih =>
    intro w
    by_cases hn : n < 128
    · have HN := Lib.hid (numR_small hn)
      have e1 : IntKind.u8.wrap (n : Int) = n := IntWalk.u8_in _ (by omega)
      clear ih
      go_enter Tryd.func51, Tryd.ntmps51
      go_wp2_with fail
      go_ret
      rw [HN.out]
      exact ⟨rfl, alloc_below w _⟩
    · obtain ⟨m, hm⟩ : ∃ m, m = n / 128 := ⟨_, rfl⟩
      obtain ⟨r, hr⟩ : ∃ r, r = n % 128 := ⟨_, rfl⟩
      have HN := numR_big hn
      have IH := ih (n / 128) (by omega) (by omega)
      rw [← hm] at HN IH
      rw [← hr] at HN
      have e5 : (n : Int).tmod 128 = r := by rw [Int.tmod_eq_emod_of_nonneg (by omega)]; omega
      have e7 : IntKind.u64.wrap (m : Int) = m := IntWalk.u64_in _ (by omega)
      have e3 : (n : Int) / 128 = m := by omega
      have hrb : r < 128 := by omega
      have e2 : IntKind.u8.wrap ((r : Int) + 128) = r + 128 := IntWalk.u8_in _ (by omega)
      have e4 : IntKind.u64.wrap ((r : Int) + 128) = r + 128 := IntWalk.u64_in _ (by omega)
      have e6 : ((r : Int) + 128).toNat = r + 128 := by omega
      have HN := Lib.hid HN
      have IH := Lib.hid IH
      have hl := numR_len_le m 9 (by omega)
      have s1 : ¬ 9223372036854775807 < 1 + (numR m).length := by omega
      have s2 : ¬ 9223372036854775807 < (numR m).length + 1 := by omega
      have E6 := Lib.hid e6
      clear ih h hm hr e6
      go_enter Tryd.func51, Tryd.ntmps51
      go_wp2_with fail
      go_region_with (go_at_call 51; ((with_reducible refine Calls.mono (IH.out _) ?_); rintro e w1 ⟨rfl, hb⟩; obtain ⟨hcc, hff⟩ := bcell hb; have HBB := Lib.hid hb; clear hb))
      all_goals
        go_wp2_with fail
        go_ret
        rw [HN.out, E6.out]
        first
          | exact ⟨rfl, btr (alloc_below w _).drew HBB.out (by simp)⟩
          | exact ⟨rfl, btr (btr (Below.refl _ w).drew HBB.out (Nat.le_refl _)) (alloc_below _ _) HBB.out.size⟩
/-- The mark of a copy at an offset. -/
def leR : Nat → Nat → Bs
  | 0, _ => []
  | i + 1, k => UInt8.ofNat (k % 256) :: leR i (k / 256)
def headerR (k : Nat) : Bs := 1 :: leR 8 k
theorem le_snoc (i k : Nat) : leR (i + 1) k = leR i k ++ [UInt8.ofNat (k / 256 ^ i % 256)] := by
  induction i generalizing k with
  | zero => simp [leR]
  | succ i ih => rw [leR, ih, leR, List.cons_append, Nat.div_div_eq_div_mul, Nat.pow_succ, Nat.mul_comm 256]
theorem row_name {w : World} {v : Value} {l : Bs} (h : ByteRow w v l) : ∃ a n cap, v = .slice a n cap ∧ Hid (n = l.length) := by
  obtain ⟨a, cap, rfl⟩ := row_shape h
  exact ⟨a, _, cap, rfl, rfl⟩
theorem le_len (i k : Nat) : (leR i k).length = i := by
  induction i generalizing k with
  | zero => rfl
  | succ i ih => simp [leR, ih]
set_option maxHeartbeats 1000000 in
set_option maxRecDepth 100000 in
theorem header_47 (w : World) (k : Nat) (hk : k ≤ 100000000) :
    Calls Tryd.prog 47 #[.int .i64 k] w fun e w' => e = .returned (S (headerR k)) ∧ Below w.heap.size w w' := by
  go_enter Tryd.func47, Tryd.ntmps47
  go_wp2_with fail
  go_loopw [0, 3, 5] (fun x v i wr => ∃ (j m : Nat) (u : Value), x = .int .i64 m ∧ i = .int .i64 j ∧ v = u ∧ j ≤ 8 ∧ Hid (m = k / 256 ^ j) ∧ m ≤ 100000000 ∧ Hid (ByteRow wr u (1 :: leR j k)) ∧ Hid (∀ g, u.ownBlock = some g → w.heap.size ≤ g) ∧ Below w.heap.size w wr) (fun _ _ i _ => 8 - (intOf i).toNat)
  case atStart =>
    refine ⟨0, k, _, rfl, rfl, rfl, by omega, ?_, hk, ?_, ?_, alloc_below w _⟩
    · show k = k / 1; omega
    · have := World.ownsRow_lit (base := 0) (e := 5) (size := 1) w #[.int .u8 1] 1 (Nat.zero_le _) (by unfold maxLen; omega) rfl
      exact this
    · intro g hg; injection hg with hg; show _ ≤ _; have h2 : w.heap.size = g := hg; omega
  case round =>
    obtain ⟨j, m, u, rfl, rfl, rfl, hj, HM, hm, HR, HG, hb⟩ := hrel
    obtain ⟨a, n, cap, hv, HN⟩ := row_name HR.out
    subst hv
    by_cases hlt : j < 8
    · obtain ⟨c, hc⟩ : ∃ c : UInt8, c = UInt8.ofNat (m % 256) := ⟨_, rfl⟩
      have e1 : IntKind.u8.wrap (m : Int) = (c.toNat : Int) := by rw [hc, ofNat_toNat (by omega), IntKind.wrap_u8]; omega
      have HC := Lib.hid hc
      have hz := hb.size
      have HZ := Lib.hid hz
      clear hc hz
      have hr0 : Hid (ByteRow (wr.alloc (.cells #[.int .u8 (c.toNat : Int)] 5)) (.slice a n cap) (1 :: leR j k)) := row_far HR.out (fun g hg => Below.heap_alloc _ _ _ (row_lt HR.out g hg))
      have hf0 : Hid (From (wr.alloc (.cells #[.int .u8 (c.toNat : Int)] 5)) (.slice (some ⟨wr.heap.size, 0, none⟩) 1 1) ([c] : Bs).length (bv [c])) := ⟨⟨_, _, rfl, fun _ => ⟨_, rfl, fun i u hu => by
        rw [add_lit, Nat.zero_add]
        match i, hu with
        | 0, hu => simp [bv] at hu; subst hu; exact World.cell?_alloc_new wr _ _ 0⟩⟩⟩
      have hn9 : (1 :: leR j k).length + ([c] : Bs).length ≤ 1000000000 := by simp [le_len]; omega
      go_wp2_with (at_builtin; refine wpList_bytes rfl _ _ rfl rfl (.slice a n cap) (.slice (some ⟨wr.heap.size, 0, none⟩) 1 1) (1 :: leR j k) [c] rfl rfl hr0.out hf0.out hn9 ?_; intro v' w2 HR2 HO2; obtain ⟨a', n', cap', hv', HN2⟩ := row_name HR2.out; subst hv')
      go_roundw
      case rel =>
        have hg := HO2.out.grown
        have hz := HZ.out
        refine ⟨j + 1, m / 256, _, by go_num, by go_num, rfl, by omega, ?_, by omega, ?_, ?_, ?_⟩
        · show _ = _; rw [HM.out, Nat.div_div_eq_div_mul, Nat.pow_succ]
        · show World.ownsRow _ _ _ _ _ _ _
          have h2 := HR2.out
          rw [HC.out, HM.out] at h2
          rw [le_snoc]
          exact h2
        · intro g hg'
          rcases HO2.out.at_ with h1 | h1
          · rw [h1] at hg'; exact HG.out g hg'
          · rw [h1] at hg'; injection hg' with hg'; simp at hg'; omega
        · exact (hb.alloc hz _).grown hg (by simp; omega) (fun g hg' => HG.out g hg')
      case measure => simp [intOf]; omega
    · obtain rfl : j = 8 := by omega
      have hcv : (convert 51 9 (.slice a n cap)).run Tryd.prog wr = .ok (S (1 :: leR 8 k)) wr := by
        rw [HN.out]
        rcases HR.out.2 with ⟨hv, hl⟩ | ⟨g, cp, cur, hv, _⟩
        · simp at hl
        · injection hv with h1 h2 h3
          subst h1
          exact conv_back wr ⟨g, 0, none⟩ cap _ (HR.out.cells (g := g) rfl)
      go_wp2_with fail
      go_ret
      exact ⟨rfl, hb⟩
end Go.Proofs.YtgdkdihedgiegaaDoor

namespace Go.Proofs.YtgdkdihedgiegaaDoor
open Go.RowKit Go.Shelf
attribute [local go_sem] Oper.semAt_some

/-- What a caller's invariant abides: a turn of a block from B on that holds no cells. -/
def Firm (B : Nat) (I : Bs → Nat → World → Prop) : Prop :=
  ∀ d m X Y row, I d m X → X.grownBy Y row → (∀ r, row = some r → B ≤ r ∧ ∃ o : Obj, X.heap[r]? = some o ∧ o.isCells = false) → I d m Y
theorem Firm.put {B : Nat} {I : Bs → Nat → World → Prop} (h : Firm B I) {d : Bs} {m : Nat} {X : World} (hi : I d m X) (l : Nat) (hl : B ≤ l) (o o' : Obj) (ho : X.heap[l]? = some o) (hc : o.isCells = false) : I d m (X.putObj l o') :=
  h d m X _ (some l) hi (grownBy_putObj' X l o') (fun r e => by cases e; exact ⟨hl, o, ho, hc⟩)
theorem Firm.alloc {B : Nat} {I : Bs → Nat → World → Prop} (h : Firm B I) {d : Bs} {m : Nat} {X : World} (hi : I d m X) (o : Obj) : I d m (X.alloc o) :=
  h d m X _ none hi (World.grownBy_alloc X o none) (fun r e => by cases e)
/-- How a round ends: it goes on. -/
def goesOn (I : Bs → Nat → World → Prop) (d : Bs) (m : Nat) (W : World) : Exit → Act → World → Prop
  | .normal, _, W' => KeepsOthers W W' ∧ I d m W'
  | _, _, _ => False
section
variable {F : Fence} {n : Nat} {P : Program}
/-- What the iterator promises: it yields a number's groups, whoever keeps J. -/
def Groups (F : Fence) (n : Nat) (P : Program) (gf : Nat) (lb : Array Value) (Bn : Nat) (N : Nat) : Prop :=
  ∀ (l : Nat) (J : Bs → Nat → World → Prop) (W : World), (∀ d m X, J d m X → X.cell? ⟨Bn, 0, none⟩ = some (.int .u64 m) ∧ X.frozen? ⟨Bn, 0, none⟩ = false) →
    (∀ d m (m' : Nat) X, J d m X → J d m' (X.setCell ⟨Bn, 0, none⟩ (.int .u64 m'))) →
    (∀ d m (g : Nat) X, g < 128 → J d m X → d.length ≤ 9 → YieldAt F (n - 1) P l #[.int .u8 g, .bool (decide (0 < m))] X fun e X' => e = .returned (.bool true) ∧ J (d ++ [UInt8.ofNat (if 0 < m then g + 128 else g)]) m X') →
    J [] N W → CallsIn F n P gf (#[.func (.yield l) #[] #[]] ++ lb) W fun e W' => (∃ v, e = .returned v) ∧ J (numR N) 0 W'
theorem wpIn_groups {g : Operand} {ps : Array Tmp} {assign body : Code} {Q : Exit → Act → World → Prop} {a : Act} {w : World} (hro : F.round = none) (h1 : 1 ≤ n) {gf : Nat} {lb : Array Value} {Bn N : Nat}
    (hg : a.eval g = .func (.func gf) #[] lb) (hFg : F.fn gf) (eg : ∀ args w, (callFunc gf args).run P w = .ok (.enter gf args) w) (hseq : Groups F (n - 1) P gf lb Bn N) (hps : ps.size = 2)
    (I : Bs → Nat → World → Prop) (hI : Firm w.heap.size I) (hcell : ∀ d m X, I d m X → X.cell? ⟨Bn, 0, none⟩ = some (.int .u64 m) ∧ X.frozen? ⟨Bn, 0, none⟩ = false)
    (hset : ∀ d m (m' : Nat) X, I d m X → I d m' (X.setCell ⟨Bn, 0, none⟩ (.int .u64 m'))) (hBn : Bn < w.heap.size) (h0 : I [] N w) (a₁ : Nat → Bool → Act)
    (hassign : ∀ (l : Nat) (x : Nat) (t : Bool) (W : World) (K : Act → World → Prop), K (a₁ x t) W →
      assign.wpIn (F.inRound l) (n - 1 - 1) P (Exit.then K (fun _ _ _ => False)) { tmps := (ps.zip #[.int .u8 (x : Int), .bool t]).foldl (fun t (p, v) => t.setIfInBounds p v) a.tmps, defers := [] } W)
    (hbody : ∀ (l : Nat) (d : Bs) (m x : Nat) (W : World), x < 128 → I d m W → d.length ≤ 9 → body.wpIn (F.inRound l) (n - 1 - 1) P (goesOn I (d ++ [UInt8.ofNat (if 0 < m then x + 128 else x)]) m W) (a₁ x (decide (0 < m))) W)
    (hdone : ∀ (D : Nat) (W : World), w.heap.size ≤ D → I (numR N) 0 W → W.heap[D]? = some (.deferred (some [])) → Q .normal { a with defers := { target := .collected D, args := #[] } :: a.defers } W) :
    (Code.rangeFunc g ps assign body).wpIn F n P Q a w := by
  refine wpIn_rangeFunc ?_
  intro fn hfn
  rw [hro]
  obtain ⟨rec, hrec⟩ : ∃ rec : LoopState → Loop, rec = fun st => { state := st, pending := none, fn, tmps := a.tmps, params := ps, assign, body, defers := w.heap.size } := ⟨_, rfl⟩
  obtain ⟨W1, hW1⟩ : ∃ W1, (w.alloc (.deferred (some []))).alloc (.loop (rec .ready)) = W1 := ⟨_, rfl⟩
  have hL1 : W1.heap[w.heap.size + 1]? = some (.loop (rec .ready)) := by
    rw [← hW1]; have := World.alloc_heap_new (w.alloc (.deferred (some []))) (.loop (rec .ready)); rwa [World.size_alloc] at this
  have hK1 : W1.heap[w.heap.size]? = some (.deferred (some [])) := by
    rw [← hW1]; exact (Below.heap_alloc _ _ _ (by simp)).trans (World.alloc_heap_new w _)
  have hI1 : I [] N W1 := by rw [← hW1]; exact hI.alloc (hI.alloc h0 _) _
  refine ⟨w.heap.size + 1, [{ target := .collected w.heap.size, args := #[] }], W1, { target := .fn (.func gf) lb, args := #[.func (.yield (w.heap.size + 1)) #[] #[]] }, W1, gf,
    #[.func (.yield (w.heap.size + 1)) #[] #[]] ++ lb, W1, ?_, ?_, ?_, ?_, fun _ => h1, ?_⟩
  · rw [← hW1, hrec]; exact run_enterLoop_outer _ _ _ _ _
  · simp only [resolve, hg]
    simp [go_sem]
  · intro f' hf'; simp [Target.leads] at hf'; subst hf'; exact hFg
  · simp [invoke, go_sem, eg]
  · refine (hseq (w.heap.size + 1) (fun d m W => I d m W ∧ W.heap[w.heap.size + 1]? = some (.loop (rec .ready)) ∧ W.heap[w.heap.size]? = some (.deferred (some []))) W1
      (fun d m X hx => hcell d m X hx.1) (fun d m m' X hx => ⟨hset d m m' X hx.1, (Below.heap_setCell _ _ _ _ (by simp; omega)).trans hx.2.1, (Below.heap_setCell _ _ _ _ (by simp; omega)).trans hx.2.2⟩) ?_ ⟨hI1, hL1, hK1⟩).mono ?_
    · rintro d m x W hx ⟨hi, hl, hk⟩ hlen
      have hlt : w.heap.size + 1 < W.heap.size := (Array.getElem?_eq_some_iff.1 hl).1
      have hy := run_yield (P := P) (args := #[.int .u8 (x : Int), .bool (decide (0 < m))]) hl (by rw [hrec]; simp [hps])
      rw [hrec] at hy
      refine ⟨fn, _, assign, body, hy, roundIn_of_wpIn hfn (hassign _ x _ W _ ⟨_, run_beginRound hl (by rw [hrec]), ?_⟩)⟩
      have hl2 : (W.putObj (w.heap.size + 1) (.loop { rec .ready with state := .busy })).heap[w.heap.size + 1]? = some (.loop { rec .ready with state := .busy }) := World.putObj_heap_same hlt
      have hk2 : (W.putObj (w.heap.size + 1) (.loop { rec .ready with state := .busy })).heap[w.heap.size]? = some (.deferred (some [])) := (World.putObj_heap_other (by omega)).trans hk
      refine wpIn_mono (hbody _ d m x _ hx (hI.put hi _ (by omega) _ _ hl rfl) hlen) ?_
      rintro e a3 W3 hp
      cases e with
      | normal =>
        obtain ⟨hk3, hi3⟩ := hp
        have hl3 := hk3.same _ _ hl2 rfl
        have hr := run_endRound (P := P) none hl3
        refine ⟨_, _, hr, rfl, hI.put hi3 _ (by omega) _ _ hl3 rfl, ?_, (World.putObj_heap_other (by omega)).trans (hk3.same _ _ hk2 rfl)⟩
        rw [World.putObj_heap_same (Array.getElem?_eq_some_iff.1 hl3).1, hrec]
        rfl
      | ret => exact hp.elim
      | exit id => exact hp.elim
      | goto t => exact hp.elim
      | panic ch => exact hp.elim
      | outgrown => exact hp.elim
    · rintro e W2 ⟨⟨v, rfl⟩, hi, hl, hk⟩
      exact ⟨none, _, by have := run_endLoop (P := P) hl (by rw [hrec]; simp); rw [hrec] at this; exact this, hdone _ _ (Nat.le_refl _) (hI.put hi _ (by omega) _ _ hl rfl) ((World.putObj_heap_other (by omega)).trans hk)⟩
end
end Go.Proofs.YtgdkdihedgiegaaDoor
