/-
  The comparison of two lists of strings.
-/
import Derived.Test.YtfkleeigdplapaaDoorW10
import Derived.Test.YtfkleeigdplapaaDoorConv
import Derived.Deep.RegionHeld3
namespace Go.Proofs.YtfkleeigdplapaaDoor
open Go.RowKit

def StrsAt (lo hi : Nat) (w : World) (v : Value) (ls : List Bs) : Prop := SliceAt lo hi w v ls.length (ls.map S)
theorem StrsAt.kept {lo hi : Nat} {w w' : World} {v : Value} {ls : List Bs} (h : StrsAt lo hi w v ls) (k : Kept lo hi w w') : StrsAt lo hi w' v ls := SliceAt.kept h k
theorem StrsAt.mono {lo hi lo' hi' : Nat} {w : World} {v : Value} {ls : List Bs} (h : StrsAt lo hi w v ls) (h1 : lo' ≤ lo) (h2 : hi ≤ hi') : StrsAt lo' hi' w v ls := SliceAt.mono h h1 h2
theorem StrsAt.at {lo hi : Nat} {w : World} {v : Value} {ls : List Bs} (h : StrsAt lo hi w v ls) (i : Nat) (hi' : i < ls.length) :
    ∃ b off cap, v = .slice (some ⟨b, off, none⟩) ls.length cap ∧ lo ≤ b ∧ b < hi ∧ w.cell? ⟨b, off + i, none⟩ = some (S ls[i]) := by
  obtain ⟨a, cap, hv, h⟩ := h
  obtain ⟨b, off, ha, h1, h2, h3⟩ := h (by intro e; rw [List.map_eq_nil_iff] at e; subst e; simp at hi')
  subst ha
  exact ⟨b, off, cap, hv, h1, h2, h3 i _ (by simp [hi'])⟩
theorem take_eq_step {α : Type} {l m : List α} (k : Nat) (h1 : k < l.length) (h2 : k < m.length) (h : l.take k = m.take k) (he : l[k] = m[k]) : l.take (k + 1) = m.take (k + 1) := by
  rw [List.take_succ_eq_append_getElem h1, List.take_succ_eq_append_getElem h2, h, he]

set_option maxHeartbeats 1000000 in
set_option maxRecDepth 100000 in
theorem strings_30 (ls ms : List Bs) (x y : Value) (w : World) (hx : StrsAt 0 w.heap.size w x ls) (hy : StrsAt 0 w.heap.size w y ms) (hn : ls.length ≤ 1000000000000000) :
   Calls Tryd.prog 30 #[x, y] w fun e w' => e = .returned (.bool (decide (ls = ms))) ∧ Below w.heap.size w w' := by
  have HX := Lib.hid hx
  have HY := Lib.hid hy
  obtain ⟨a, cap, rfl, _⟩ := hx
  obtain ⟨a2, cap2, rfl, _⟩ := hy
  by_cases hlen : ls.length = ms.length
  · have HL := Lib.hid hlen
    have hbb : ((ls.length : Int) != ms.length) = false := by simp [hlen]
    clear hlen
    go_enter Tryd.func30, Tryd.ntmps30
    go_wp2_with fail
    go_loopw [5] (fun i wr => ∃ (k : Nat), k ≤ ls.length ∧ i = .int .i64 k ∧ Hid (ls.take k = ms.take k) ∧ Below w.heap.size w wr) (fun i _ => ls.length - (intOf i).toNat)
    case atStart => exact ⟨0, Nat.zero_le _, rfl, rfl, Below.refl _ _⟩
    case round =>
      obtain ⟨k, hk, rfl, HT, hb⟩ := hrel
      by_cases hlt : k < ls.length
      · have hlt2 : k < ms.length := by rw [← HL.out]; exact hlt
        obtain ⟨b, off, cap', hv, _, _, p0⟩ := (HX.out.kept (bkept hb (Nat.le_refl _))).at k hlt
        cases hv
        obtain ⟨b2, off2, cap2', hv, _, _, q0⟩ := (HY.out.kept (bkept hb (Nat.le_refl _))).at k hlt2
        cases hv
        have HE : Hid (ls[k] = ms[k] → ls.take (k + 1) = ms.take (k + 1)) := take_eq_step k hlt hlt2 HT.out
        have HN : Hid (ls[k] ≠ ms[k] → decide (ls = ms) = false) := fun hne => by simp; intro he; subst he; exact hne rfl
        generalize ls[k] = f at *
        generalize ms[k] = g at *
        have a1 : (0 : Int) ≤ k := by omega
        have a2 : (k : Int) < ls.length := by omega
        have a3 : (k : Int) < ms.length := by omega
        by_cases hfg : f = g
        · subst hfg
          go_wp2_with fail
          go_region_held3 (fun w' => w'.cell? ⟨b, off + k, none⟩ = some (S f) ∧ w'.cell? ⟨b2, off2 + k, none⟩ = some (S f)) (go_keep) (fail)
          go_wp2_with fail
          go_roundw
          case rel => exact ⟨k + 1, by omega, by go_num, HE.out (by simp), hb.drew⟩
          case measure => simp [intOf]; omega
        · have h1 : (f == g) = false := by simpa using hfg
          have h2 : (f != g) = true := by simpa using hfg
          go_wp2_with fail
          go_region_held3 (fun w' => w'.cell? ⟨b, off + k, none⟩ = some (S f) ∧ w'.cell? ⟨b2, off2 + k, none⟩ = some (S g)) (go_keep) (fail)
          go_wp2_with fail
          go_ret
          exact ⟨ret_bool (HN.out (by simpa using hfg)).symm, hb.drew⟩
      · go_wp2_with fail
        go_ret
        refine ⟨ret_bool ?_, hb⟩
        symm; rw [decide_eq_true_eq]
        have h1 := HT.out
        have h2 := HL.out
        rwa [List.take_of_length_le (by omega), List.take_of_length_le (by omega)] at h1
  · have hbb : ((ls.length : Int) != ms.length) = true := by simp; omega
    have HN : Hid (decide (ls = ms) = false) := by unfold Hid; simp; intro he; subst he; exact hlen rfl
    clear hlen
    go_enter Tryd.func30, Tryd.ntmps30
    go_wp2_with fail
    go_ret
    exact ⟨ret_bool HN.out.symm, Below.refl _ _⟩
end Go.Proofs.YtfkleeigdplapaaDoor
