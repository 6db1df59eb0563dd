/-
  Maps of bytes to characters that the call makes: what they answer; the walk of table.
-/
import Derived.Test.YtpkacoknpedolaaDoorProg
import Derived.Test.YtpkacoknpedolaaDoorA1
import Derived.Maps.Own
import Derived.Maps.OwnOps
import Derived.Maps.OwnSet
import Derived.Maps.Ext
namespace Go.Proofs.YtpkacoknpedolaaDoor
open Go.RowKit Go.Maps

theorem keyed5 : Keyed Tryd.prog 5 := int_keyed Tryd.underlying5
theorem keyed21 : Keyed Tryd.prog 21 := int_keyed Tryd.underlying21
theorem zero21 (w : World) : (zeroValue 21).run Tryd.prog w = .ok (.int .i32 0) w := by kernel_rfl
theorem wf_u8n (a : Nat) (h : a < 256) : (Lit.int .u8 a).wf = true := by
  simp only [Lit.wf, IntKind.min, IntKind.max, IntKind.signed, IntKind.bits]; simp; omega
theorem wf_i32n (a : Nat) (h : a < 2147483648) : (Lit.int .i32 a).wf = true := by
  simp only [Lit.wf, IntKind.min, IntKind.max, IntKind.signed, IntKind.bits]; simp; omega
/-- What a table answers: the last pair wins. -/
def upd (f : Nat → Option Nat) (p : Nat × Nat) : Nat → Option Nat := fun k => if k = p.1 then some p.2 else f k
def tabF (l : List (Nat × Nat)) : Nat → Option Nat := l.foldl upd fun _ => none
theorem tabF_snoc (l : List (Nat × Nat)) (p : Nat × Nat) : tabF (l ++ [p]) = upd (tabF l) p := by simp [tabF]
/-- A map of bytes to characters in block b. -/
def MapB (w : World) (b n : Nat) (f : Nat → Option Nat) : Prop := ∃ D : DataW Unit, w.ownsMap Tryd.prog 5 (plainElem Tryd.prog 21) b n D ∧
  (∀ k : Nat, Maps.has D (.int .u8 k) = (f k).isSome) ∧ ∀ k : Nat, D.atKey (.int .u8 k) (.lit (.int .i32 0)) = .lit (.int .i32 ((f k).getD 0 : Nat))
theorem MapB.made (w : World) : MapB (w.alloc (.map #[] 0)) w.heap.size 0 fun _ => none := ⟨_, World.ownsMap_made _ _ _ _, fun _ => rfl, fun _ => rfl⟩
theorem lit_ne {a b : Nat} (h : a ≠ b) : (Lit.int .u8 (a : Int)) ≠ .int .u8 (b : Int) := by intro e; injection e with _ e; omega
theorem MapB.put {w' : World} {b n : Nat} {f : Nat → Option Nat} {D : DataW Unit} (hm : Maps.IsMap D) (h1 : ∀ k : Nat, Maps.has D (.int .u8 k) = (f k).isSome) (h2 : ∀ k : Nat, D.atKey (.int .u8 k) (.lit (.int .i32 0)) = .lit (.int .i32 ((f k).getD 0 : Nat)))
    (a c : Nat) (ho : w'.ownsMap Tryd.prog 5 (plainElem Tryd.prog 21) b n (D.put (.int .u8 a) (.lit (.int .i32 c)))) : MapB w' b n (upd f (a, c)) := by
  refine ⟨_, ho, fun k => ?_, fun k => ?_⟩
  · by_cases e : k = a
    · subst e; rw [Maps.has_put_same (k := .int .u8 (k : Int)) hm trivial]; simp [upd]
    · rw [Maps.has_put_other (lit_ne e), h1]; simp [upd, e]
  · by_cases e : k = a
    · subst e; rw [Maps.atKey_put_same (k := .int .u8 (k : Int)) hm trivial]; simp [upd]
    · rw [Maps.atKey_put_other (lit_ne e), h2]; simp [upd, e]
def pairCells (p : Nat × Nat) : List Value := [.int .u8 p.1, .int .i32 p.2]
def PairsAt (lo hi : Nat) (w : World) (v : Value) (l : List (Nat × Nat)) : Prop := SliceAt lo hi w v l.length (l.flatMap pairCells)
theorem pair_get (l : List (Nat × Nat)) : ∀ (k i : Nat) (hk : k < l.length), i < 2 → (l.flatMap pairCells)[k * 2 + i]? = (pairCells l[k])[i]? := by
  induction l with
  | nil => intro k i hk; simp at hk
  | cons p l ih =>
    intro k i hk hi
    cases k with
    | zero => rw [List.flatMap_cons, List.getElem?_append_left (by simp [pairCells]; omega), Nat.zero_mul, Nat.zero_add]; rfl
    | succ k => rw [List.flatMap_cons, List.getElem?_append_right (by simp [pairCells]; omega)]; simp only [pairCells, List.length_cons, List.length_nil]; rw [show (k + 1) * 2 + i - (0 + 1 + 1) = k * 2 + i from by omega]; exact ih k i (by simpa using hk) hi
theorem PairsAt.at {lo hi : Nat} {w : World} {v : Value} {l : List (Nat × Nat)} (h : PairsAt lo hi w v l) (k : Nat) (hk : k < l.length) :
    ∃ b off cap, v = .slice (some ⟨b, off, none⟩) l.length cap ∧ lo ≤ b ∧ b < hi ∧ w.cell? ⟨b, off + k * 2, none⟩ = some (.int .u8 l[k].1) ∧ w.cell? ⟨b, off + k * 2 + 1, none⟩ = some (.int .i32 l[k].2) := by
  obtain ⟨a, cap, hv, h⟩ := h
  obtain ⟨b, off, ha, h1, h2, h3⟩ := h (by cases l with | nil => simp at hk | cons p l => simp [pairCells])
  subst ha
  refine ⟨b, off, cap, hv, h1, h2, h3 _ _ (pair_get l k 0 hk (by omega)), ?_⟩
  rw [Nat.add_assoc]
  exact h3 _ _ (pair_get l k 1 hk (by omega))
theorem PairsAt.shape {lo hi : Nat} {w : World} {v : Value} {l : List (Nat × Nat)} (h : PairsAt lo hi w v l) : ∃ a cap, v = .slice a l.length cap := by obtain ⟨a, cap, hv, _⟩ := h; exact ⟨a, cap, hv⟩
set_option maxHeartbeats 1000000 in
set_option maxRecDepth 100000 in
theorem table_44 (l : List (Nat × Nat)) (v : Value) (w : World) (hv : PairsAt 0 w.heap.size w v l) (hl : ∀ p ∈ l, p.1 < 256 ∧ p.2 < 2147483648) (hn : l.length ≤ 1000) :
    Calls Tryd.prog 44 #[v] w fun e w' => e = .returned (.map (some w.heap.size)) ∧ MapB w' w.heap.size l.length (tabF l) ∧ Below w.heap.size w w' := by
  have hmm := @run_makeMap Tryd.prog
  have HV : Hid (∀ W, Below w.heap.size w W → PairsAt 0 w.heap.size W v l) := fun W h => SliceAt.kept hv (bkept h (Nat.le_refl _))
  obtain ⟨sa, cap, rfl⟩ := hv.shape
  go_enter Tryd.func44, Tryd.ntmps44
  go_wp2
  go_loopw [9] (fun i wr => ∃ k : Nat, k ≤ l.length ∧ i = .int .i64 k ∧ MapB wr w.heap.size k (tabF (l.take k)) ∧ Below w.heap.size w wr) (fun i _ => l.length - (intOf i).toNat)
  case atStart => exact ⟨0, Nat.zero_le _, rfl, MapB.made w, (Below.refl _ _).alloc (Nat.le_refl _) _⟩
  case round =>
    obtain ⟨k, hk, rfl, ⟨D, hown, hh, ha⟩, hb⟩ := hrel
    by_cases hlt : k < l.length
    · obtain ⟨b, off, cap', hv, _, _, p0, p1⟩ := (HV.out wr hb).at k hlt
      cases hv
      obtain ⟨l1, l2⟩ := hl _ (List.getElem_mem hlt)
      have HT : Hid (tabF (l.take (k + 1)) = upd (tabF (l.take k)) (l[k].1, l[k].2)) := by rw [List.take_succ_eq_append_getElem hlt, tabF_snoc]; rfl
      generalize l[k].1 = x at *
      generalize l[k].2 = y at *
      go_wp2_with (first
        | (at_mapUpdate; refine wpList_mapUpdate_own _ rfl _ _ _ 50 rfl 5 21 keyed5 Tryd.underlying50 _ w.heap.size k _ rfl (hown.alloc _) (by unfold maxLen; omega) _ _ _ rfl rfl (keyOf_int_mk Tryd.underlying5 (wf_u8n x l1)) _ [] (plainElem_int Tryd.underlying21 (wf_i32n y l2)) ?_; intro w1 hown1 hgrow1)
        | go_in)
      go_roundw
      case rel => exact ⟨k + 1, by omega, by go_num, by rw [HT.out]; exact MapB.put hown.isMap hh ha x y hown1, (hb.alloc hb.size _).grown hgrow1 (by have := hb.size; simp; omega) (fun j hj => by cases hj; exact Nat.le_refl _)⟩
      case measure => simp [intOf]; omega
    · have : k = l.length := by omega
      subst this
      go_wp2
      go_ret
      exact ⟨rfl, ⟨D, hown, by rw [List.take_length] at hh; exact hh, by rw [List.take_length] at ha; exact ha⟩, hb⟩
end Go.Proofs.YtpkacoknpedolaaDoor
