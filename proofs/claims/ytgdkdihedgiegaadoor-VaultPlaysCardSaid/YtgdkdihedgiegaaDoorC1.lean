/-
  The walks of zeros, header and the reference's Number; a number's bytes.
-/
import Derived.Test.YtgdkdihedgiegaaDoorD7
import Derived.Test.YtgdkdihedgiegaaDoorConv
import Derived.Deep.RegionWith
namespace Go.Proofs.YtgdkdihedgiegaaDoor
open Go.RowKit

theorem mk_zeros (w : World) (n : Nat) (hn : n ≤ 100000000) : ∃ w1, (Instr.makeSlice 51 (.int .i64 (n : Int)) (.int .i64 (n : Int))).run Tryd.prog w = .ok (.slice (some ⟨w.heap.size, 0, none⟩) n n) w1 ∧
    (convert 51 9 (.slice (some ⟨w.heap.size, 0, none⟩) n n)).run Tryd.prog w1 = .ok (S (zerosR n)) w1 ∧ Below w.heap.size w w1 ∧ w1.ownsRow w.heap.size 5 1 (.slice (some ⟨w.heap.size, 0, none⟩) n n) n (bv (zerosR n)) := by
  obtain ⟨i, hi, hz, hsz, hby⟩ := info_parts i5
  obtain ⟨w1, hr, hown, hg⟩ := run_make_full (P := Tryd.prog) w w.heap.size 51 5 i (.int .u8 0) 1 Tryd.underlying51 hi hz hsz .i64 .i64 n (by rw [hby]; omega) (by unfold maxLen; omega) (Nat.le_refl _)
  have hcells : (madeCells (Value.int .u8 0).cells (n * 1)).toList = bv (zerosR n) := by
    rw [show (Value.int .u8 0).cells = #[.int .u8 0] from rfl, toList_madeCells_one]
    simp [bv, zerosR]
  rw [hcells] at hown
  refine ⟨w1, hr, ?_, ⟨hg.os, hg.tape, hg.output, hg.size, fun k hk => hg.block k hk (by simp)⟩, hown⟩
  have := conv_back w1 ⟨w.heap.size, 0, none⟩ n (zerosR n) (fun j u hu => by
    have h := hown.cells (g := w.heap.size) rfl j u hu
    simpa using h)
  rwa [zeros_len] at this
set_option maxHeartbeats 1000000 in
set_option maxRecDepth 100000 in
theorem zeros_40 (w : World) (n : Int) (z : Nat) (hz : z = n.toNat) (hn : z ≤ 100000000) (hm : -100000000 ≤ n) :
    Calls Tryd.prog 40 #[.int .i64 n] w fun e w' => e = .returned (S (zerosR z)) ∧ Below w.heap.size w w' := by
  obtain ⟨w1, h1, h2, h3, _⟩ := mk_zeros w z hn
  have HB := Lib.hid h3
  clear h3
  rcases Int.lt_or_le n 0 with h0 | h0
  · obtain rfl : z = 0 := by omega
    rw [show ((0 : Nat) : Int) = 0 from rfl] at h1
    clear hz
    go_enter Tryd.func40, Tryd.ntmps40
    go_wp2_with fail
    go_ret
    exact ⟨rfl, HB.out⟩
  · obtain rfl : n = z := by omega
    clear hz
    go_enter Tryd.func40, Tryd.ntmps40
    go_wp2_with fail
    go_ret
    exact ⟨rfl, HB.out⟩
theorem numR_lt (n : Nat) (h : n < 128) : numR n = [UInt8.ofNat n] := numR_small h
set_option maxHeartbeats 1000000 in
set_option maxRecDepth 100000 in
theorem number_51 (n : Nat) (h : n < 18446744073709551616) : ∀ w, Calls Tryd.prog 51 #[.int .u64 n] w fun e w' => e = .returned (S (numR n)) ∧ Below w.heap.size w w' := by
  induction n using Nat.strongRecOn with
  | ind n ih =>
    intro w
    by_cases hn : n < 128
    · have HN := Lib.hid (numR_small hn)
      have e1 : IntKind.u8.wrap (n : Int) = n := IntWalk.u8_in _ (by omega)
      clear ih
      go_enter Tryd.func51, Tryd.ntmps51
      go_wp2_with fail
      go_ret
      rw [HN.out]
      exact ⟨rfl, alloc_below w _⟩
    · obtain ⟨m, hm⟩ : ∃ m, m = n / 128 := ⟨_, rfl⟩
      obtain ⟨r, hr⟩ : ∃ r, r = n % 128 := ⟨_, rfl⟩
      have HN := numR_big hn
      have IH := ih (n / 128) (by omega) (by omega)
      rw [← hm] at HN IH
      rw [← hr] at HN
      have e5 : (n : Int).tmod 128 = r := by rw [Int.tmod_eq_emod_of_nonneg (by omega)]; omega
      have e7 : IntKind.u64.wrap (m : Int) = m := IntWalk.u64_in _ (by omega)
      have e3 : (n : Int) / 128 = m := by omega
      have hrb : r < 128 := by omega
      have e2 : IntKind.u8.wrap ((r : Int) + 128) = r + 128 := IntWalk.u8_in _ (by omega)
      have e4 : IntKind.u64.wrap ((r : Int) + 128) = r + 128 := IntWalk.u64_in _ (by omega)
      have e6 : ((r : Int) + 128).toNat = r + 128 := by omega
      have HN := Lib.hid HN
      have IH := Lib.hid IH
      have hl := numR_len_le m 9 (by omega)
      have s1 : ¬ 9223372036854775807 < 1 + (numR m).length := by omega
      have s2 : ¬ 9223372036854775807 < (numR m).length + 1 := by omega
      have E6 := Lib.hid e6
      clear ih h hm hr e6
      go_enter Tryd.func51, Tryd.ntmps51
      go_wp2_with fail
      go_region_with (go_at_call 51; ((with_reducible refine Calls.mono (IH.out _) ?_); rintro e w1 ⟨rfl, hb⟩; obtain ⟨hcc, hff⟩ := bcell hb; have HBB := Lib.hid hb; clear hb))
      all_goals
        go_wp2_with fail
        go_ret
        rw [HN.out, E6.out]
        first
          | exact ⟨rfl, btr (alloc_below w _).drew HBB.out (by simp)⟩
          | exact ⟨rfl, btr (btr (Below.refl _ w).drew HBB.out (Nat.le_refl _)) (alloc_below _ _) HBB.out.size⟩
/-- The mark of a copy at an offset. -/
def leR : Nat → Nat → Bs
  | 0, _ => []
  | i + 1, k => UInt8.ofNat (k % 256) :: leR i (k / 256)
def headerR (k : Nat) : Bs := 1 :: leR 8 k
theorem le_snoc (i k : Nat) : leR (i + 1) k = leR i k ++ [UInt8.ofNat (k / 256 ^ i % 256)] := by
  induction i generalizing k with
  | zero => simp [leR]
  | succ i ih => rw [leR, ih, leR, List.cons_append, Nat.div_div_eq_div_mul, Nat.pow_succ, Nat.mul_comm 256]
theorem row_name {w : World} {v : Value} {l : Bs} (h : ByteRow w v l) : ∃ a n cap, v = .slice a n cap ∧ Hid (n = l.length) := by
  obtain ⟨a, cap, rfl⟩ := row_shape h
  exact ⟨a, _, cap, rfl, rfl⟩
theorem le_len (i k : Nat) : (leR i k).length = i := by
  induction i generalizing k with
  | zero => rfl
  | succ i ih => simp [leR, ih]
set_option maxHeartbeats 1000000 in
set_option maxRecDepth 100000 in
theorem header_47 (w : World) (k : Nat) (hk : k ≤ 100000000) :
    Calls Tryd.prog 47 #[.int .i64 k] w fun e w' => e = .returned (S (headerR k)) ∧ Below w.heap.size w w' := by
  go_enter Tryd.func47, Tryd.ntmps47
  go_wp2_with fail
  go_loopw [0, 3, 5] (fun x v i wr => ∃ (j m : Nat) (u : Value), x = .int .i64 m ∧ i = .int .i64 j ∧ v = u ∧ j ≤ 8 ∧ Hid (m = k / 256 ^ j) ∧ m ≤ 100000000 ∧ Hid (ByteRow wr u (1 :: leR j k)) ∧ Hid (∀ g, u.ownBlock = some g → w.heap.size ≤ g) ∧ Below w.heap.size w wr) (fun _ _ i _ => 8 - (intOf i).toNat)
  case atStart =>
    refine ⟨0, k, _, rfl, rfl, rfl, by omega, ?_, hk, ?_, ?_, alloc_below w _⟩
    · show k = k / 1; omega
    · have := World.ownsRow_lit (base := 0) (e := 5) (size := 1) w #[.int .u8 1] 1 (Nat.zero_le _) (by unfold maxLen; omega) rfl
      exact this
    · intro g hg; injection hg with hg; show _ ≤ _; have h2 : w.heap.size = g := hg; omega
  case round =>
    obtain ⟨j, m, u, rfl, rfl, rfl, hj, HM, hm, HR, HG, hb⟩ := hrel
    obtain ⟨a, n, cap, hv, HN⟩ := row_name HR.out
    subst hv
    by_cases hlt : j < 8
    · obtain ⟨c, hc⟩ : ∃ c : UInt8, c = UInt8.ofNat (m % 256) := ⟨_, rfl⟩
      have e1 : IntKind.u8.wrap (m : Int) = (c.toNat : Int) := by rw [hc, ofNat_toNat (by omega), IntKind.wrap_u8]; omega
      have HC := Lib.hid hc
      have hz := hb.size
      have HZ := Lib.hid hz
      clear hc hz
      have hr0 : Hid (ByteRow (wr.alloc (.cells #[.int .u8 (c.toNat : Int)] 5)) (.slice a n cap) (1 :: leR j k)) := row_far HR.out (fun g hg => Below.heap_alloc _ _ _ (row_lt HR.out g hg))
      have hf0 : Hid (From (wr.alloc (.cells #[.int .u8 (c.toNat : Int)] 5)) (.slice (some ⟨wr.heap.size, 0, none⟩) 1 1) ([c] : Bs).length (bv [c])) := ⟨⟨_, _, rfl, fun _ => ⟨_, rfl, fun i u hu => by
        rw [add_lit, Nat.zero_add]
        match i, hu with
        | 0, hu => simp [bv] at hu; subst hu; exact World.cell?_alloc_new wr _ _ 0⟩⟩⟩
      have hn9 : (1 :: leR j k).length + ([c] : Bs).length ≤ 1000000000 := by simp [le_len]; omega
      go_wp2_with (at_builtin; refine wpList_bytes rfl _ _ rfl rfl (.slice a n cap) (.slice (some ⟨wr.heap.size, 0, none⟩) 1 1) (1 :: leR j k) [c] rfl rfl hr0.out hf0.out hn9 ?_; intro v' w2 HR2 HO2; obtain ⟨a', n', cap', hv', HN2⟩ := row_name HR2.out; subst hv')
      go_roundw
      case rel =>
        have hg := HO2.out.grown
        have hz := HZ.out
        refine ⟨j + 1, m / 256, _, by go_num, by go_num, rfl, by omega, ?_, by omega, ?_, ?_, ?_⟩
        · show _ = _; rw [HM.out, Nat.div_div_eq_div_mul, Nat.pow_succ]
        · show World.ownsRow _ _ _ _ _ _ _
          have h2 := HR2.out
          rw [HC.out, HM.out] at h2
          rw [le_snoc]
          exact h2
        · intro g hg'
          rcases HO2.out.at_ with h1 | h1
          · rw [h1] at hg'; exact HG.out g hg'
          · rw [h1] at hg'; injection hg' with hg'; simp at hg'; omega
        · exact (hb.alloc hz _).grown hg (by simp; omega) (fun g hg' => HG.out g hg')
      case measure => simp [intOf]; omega
    · obtain rfl : j = 8 := by omega
      have hcv : (convert 51 9 (.slice a n cap)).run Tryd.prog wr = .ok (S (1 :: leR 8 k)) wr := by
        rw [HN.out]
        rcases HR.out.2 with ⟨hv, hl⟩ | ⟨g, cp, cur, hv, _⟩
        · simp at hl
        · injection hv with h1 h2 h3
          subst h1
          exact conv_back wr ⟨g, 0, none⟩ cap _ (HR.out.cells (g := g) rfl)
      go_wp2_with fail
      go_ret
      exact ⟨rfl, hb⟩
end Go.Proofs.YtgdkdihedgiegaaDoor
