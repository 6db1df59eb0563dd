/-
  The walks of the reference's read and Stands.
-/
import Derived.Test.YtgdkdihedgiegaaDoorO1
namespace Go.Proofs.YtgdkdihedgiegaaDoor
open Go.RowKit

theorem readNum_size (s : Bs) : (readNumR s).2.1 ≤ s.length := by
  rw [readNum_eq s (s.take 10) rfl]
  split
  · split
    · simp
    · have : (s.take 10).length ≤ s.length := by rw [List.length_take]; omega
      simp only; omega
  · split <;> simp
/-- The post of the reference's read. -/
def RPost (c : Bs) (o : Option (Bs × Bs)) (w : World) (e : Ending) (w' : World) : Prop :=
  (match o with
    | none => e = .returned (.tuple #[S [], .int .i64 0, .bool false])
    | some (r, z) => e = .returned (.tuple #[S r, .int .i64 ((c.length - z.length : Nat) : Int), .bool true])) ∧ Below w.heap.size w w'
set_option maxHeartbeats 4000000 in
set_option maxRecDepth 100000 in
theorem read_81 (c : Bs) (at_ : Nat) (hat : at_ ≤ c.length) (hc : c.length ≤ 100000) (w : World) : Calls Tryd.prog 81 #[S c, .int .i64 at_] w (RPost c (pieceR (c.drop at_)) w) := by
  obtain ⟨s, hs⟩ : ∃ s, s = c.drop at_ := ⟨_, rfl⟩
  have hsl : s.length = c.length - at_ := by rw [hs, List.length_drop]
  have HRN := Lib.hid (readNumber_93 s w (by omega))
  have hsz := readNum_size s
  have HPC : Hid (pieceR s = if (readNumR s).2.2 = 0 ∧ (readNumR s).1 ≤ s.length - (readNumR s).2.1 then some ((s.drop (readNumR s).2.1).take (readNumR s).1, s.drop ((readNumR s).2.1 + (readNumR s).1)) else none) := rfl
  unfold ReadPost at HRN
  obtain ⟨N, hN⟩ : ∃ N, N = (readNumR s).1 := ⟨_, rfl⟩
  obtain ⟨z, hz⟩ : ∃ z, z = (readNumR s).2.1 := ⟨_, rfl⟩
  obtain ⟨er, her⟩ : ∃ er, er = (readNumR s).2.2 := ⟨_, rfl⟩
  rw [← hN, ← hz, ← her] at HPC HRN
  rw [← hz] at hsz
  have hdrop : List.drop at_ (List.take c.length c) = s := by rw [List.take_length, hs]
  have hdrop2 : List.drop at_ c = s := hs.symm
  have HSS := Lib.hid hs
  have e1 : IntKind.u64.wrap (c.length : Int) = c.length := IntWalk.u64_in _ (by omega)
  rw [hdrop2]
  clear hs hN hz her
  by_cases he : er = 0
  · subst he
    by_cases h1 : N ≤ c.length
    · have e2 : IntKind.i64.wrap (N : Int) = N := IntWalk.i64_in _ (by omega)
      by_cases h2 : at_ + z + N ≤ c.length
      · have hp := HPC.out
        rw [if_pos ⟨rfl, by omega⟩] at hp
        have hr1 : (s.drop z).take N = (c.take (at_ + z + N)).drop (at_ + z) := by
          rw [HSS.out, List.drop_drop, List.drop_take]
          congr 1; omega
        have hr2 : (s.drop (z + N)).length = c.length - (at_ + z + N) := by rw [List.length_drop]; omega
        obtain ⟨r, hr⟩ : ∃ r, r = (s.drop z).take N := ⟨_, rfl⟩
        obtain ⟨y, hy⟩ : ∃ y, y = s.drop (z + N) := ⟨_, rfl⟩
        rw [← hr, ← hy] at hp
        rw [← hr] at hr1
        rw [← hy] at hr2
        have HR1 := Lib.hid hr1
        have hend : ((c.length - y.length : Nat) : Int) = (at_ : Int) + z + N := by omega
        have HEND := Lib.hid hend
        rw [hp]
        clear hp hr hy hr1 hr2 hend
        show Calls Tryd.prog 81 _ w (fun e w' => e = .returned (.tuple #[S r, .int .i64 ((c.length - y.length : Nat) : Int), .bool true]) ∧ Below w.heap.size w w')
        rw [HEND.out, HR1.out]
        go_enter Tryd.func81, Tryd.ntmps81
        go_wp2_with (go_at_call 93; ((with_reducible refine Calls.mono HRN.out ?_); rintro e w1 ⟨rfl, hb⟩; have HB := Lib.hid hb; clear hb))
        go_ret3
        exact ⟨rfl, HB.out⟩
      · have hp := HPC.out
        rw [if_neg (by rintro ⟨_, h⟩; omega)] at hp
        rw [hp]
        clear hp
        go_enter Tryd.func81, Tryd.ntmps81
        go_wp2_with (go_at_call 93; ((with_reducible refine Calls.mono HRN.out ?_); rintro e w1 ⟨rfl, hb⟩; have HB := Lib.hid hb; clear hb))
        go_ret3
        exact ⟨rfl, HB.out⟩
    · have hp := HPC.out
      rw [if_neg (by rintro ⟨_, h⟩; omega)] at hp
      rw [hp]
      clear hp
      go_enter Tryd.func81, Tryd.ntmps81
      go_wp2_with (go_at_call 93; ((with_reducible refine Calls.mono HRN.out ?_); rintro e w1 ⟨rfl, hb⟩; have HB := Lib.hid hb; clear hb))
      go_ret3
      exact ⟨rfl, HB.out⟩
  · have hp := HPC.out
    rw [if_neg (fun h => he h.1)] at hp
    rw [hp]
    have heb : (er == 0) = false := by simpa using he
    clear hp
    go_enter Tryd.func81, Tryd.ntmps81
    go_wp2_with (go_at_call 93; ((with_reducible refine Calls.mono HRN.out ?_); rintro e w1 ⟨rfl, hb⟩; have HB := Lib.hid hb; clear hb))
    go_ret3
    exact ⟨rfl, HB.out⟩
/-- The post of the reference's Stands. -/
def StPost (o : Option (Bs × List Bs × Nat)) (w : World) (e : Ending) (w' : World) : Prop :=
  (match o with
    | none => e = .returned (.tuple #[.agg #[S [], .slice none 0 0], .int .i64 0, .bool false])
    | some (sn, tl, n) => ∃ a cap, e = .returned (.tuple #[.agg #[S sn, .slice a tl.length cap], .int .i64 n, .bool true]) ∧ SliceAt w.heap.size w'.heap.size w' (.slice a tl.length cap) tl.length (tl.map S)) ∧ Below w.heap.size w w'
end Go.Proofs.YtgdkdihedgiegaaDoor
