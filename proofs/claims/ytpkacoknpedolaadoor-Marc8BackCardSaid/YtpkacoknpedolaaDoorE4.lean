/-
  Marc8Plain: texts of ASCII and controls are not changed by either conversion.
-/
import Derived.Test.YtpkacoknpedolaaDoorE3
import Derived.Laws.BytesString
import Derived.Lib.BufferRead
namespace Go.Proofs.YtpkacoknpedolaaDoor
open Go.RowKit

set_option maxRecDepth 100000 in
theorem conv_bytes (W : World) (l : Bs) (B : Nat) (v : Value) (h : W.ownsRow B 5 1 v l.length (Lib.byteCells l)) : (convert 23 9 v).run Tryd.prog W = .ok (S l) W := by
  obtain ⟨a, c, rfl⟩ := owns_shape h
  rcases h.2 with ⟨h1, h0⟩ | ⟨q, cap, cur, h1, _, hh, hr⟩
  · have hl : l = [] := List.eq_nil_of_length_eq_zero h0
    subst hl
    injection h1 with h1 h2 h3
    subst h1 h3
    exact Lib.run_convert_nil_bytes W 23 9 5 0 Tryd.underlying23 Tryd.underlying5 Tryd.underlying9
  · injection h1 with h1 h2 h3
    subst h1
    exact run_convert_bytes_back W 23 9 5 ⟨q, 0, none⟩ c l Tryd.underlying23 Tryd.underlying5 Tryd.underlying9 (fun j hj => by
      have e : (⟨q, 0, none⟩ : Addr).add j = ⟨q, j, none⟩ := by unfold Addr.add; simp; exact fun h => h.symm
      rw [e, h.cellAt j (by simpa using hj)]
      simp [Lib.byteCells, hj])
theorem and127 : ∀ b : Fin 256, bits BinOp.and IntKind.u8 (b.val : Int) 127 = (b.val : Int) % 128 := by decide +kernel
theorem low_plain (x : UInt8) (h1 : ((x.toNat % 128 : Nat) : Int) ≠ 27) (h2 : ((x.toNat % 128 : Nat) : Int) ≠ 127) : plainB (UInt8.ofNat (x.toNat % 128)) = true := by
  have hu : (UInt8.ofNat (x.toNat % 128)).toNat = x.toNat % 128 := UInt8.toNat_ofNat_of_lt' (by show _ < 256; omega)
  unfold plainB
  simp only [Bool.and_eq_true, decide_eq_true_eq, Bool.not_eq_true', decide_eq_false_iff_not, hu]
  refine ⟨by omega, fun e => ?_⟩
  rw [e] at hu
  have : (27 : UInt8).toNat = 27 := rfl
  omega
set_option maxHeartbeats 8000000 in
set_option maxRecDepth 100000 in
theorem plain_3 (s : Bs) (w : World) (hl : s.length ≤ 140737488351232) (hT : Tabs w) : Calls Tryd.prog 3 #[S s] w fun e w' => e = .returned (.bool true) ∧ Below w.heap.size w w' := by
  have HT := Lib.hid hT
  clear hT
  have hI5 : ∃ i, Tryd.prog.info? 5 = some i ∧ i.zero = some (.int .u8 0) ∧ i.size = 1 ∧ i.bytes = 1 := by
    obtain ⟨i0, hi, hz0, hz1, hz2⟩ := info_parts i5
    exact ⟨i0, hi, hz0, hz1, hz2⟩
  obtain ⟨i0, hi, hi0, hi1, hi2⟩ := hI5
  have HI := Lib.hid hi
  have HI0 := Lib.hid hi0
  have HI1 := Lib.hid hi1
  have HI2 := Lib.hid hi2
  clear hi hi0 hi1 hi2
  go_enter Tryd.func3, Tryd.ntmps3
  go_wp2_with (go_at_call 8; ((with_reducible refine Calls.mono (sanity_8 _ HT.out) ?_); rintro e w1 ⟨rfl, hb1⟩; have HB1 := Lib.hid hb1; clear hb1))
  go_loopw [4, 5] (fun b i wr => ∃ (k : Nat) (out : Bs), k ≤ s.length ∧ i = .int .i64 k ∧ out.length ≤ k ∧ Hid (∀ x ∈ out, plainB x = true) ∧ Hid (wr.ownsRow w1.heap.size 5 1 b out.length (Lib.byteCells out)) ∧ Hid (Below w1.heap.size w1 wr)) (fun _ i _ => s.length - (intOf i).toNat)
  case atStart => exact ⟨0, [], by omega, rfl, by simp, Lib.hid (by simp), Lib.hid (World.ownsRow_nil _ _ _ _), Lib.hid (Below.refl _ _)⟩
  case round =>
    obtain ⟨k, out, hk, rfl, hol, HPL, HO, HB⟩ := hrel
    obtain ⟨va, vc, rfl⟩ := owns_shape HO.out
    by_cases hlt : k < s.length
    · have hx0 := u8_lt s[k]
      have HSZ := Lib.hid HB.out.size
      have hk1 : IntKind.i64.wrap ((k : Int) + 1) = k + 1 := IntWalk.i64_in _ (by omega)
      have hand : bits BinOp.and IntKind.u8 (s[k].toNat : Int) 127 = (s[k].toNat : Int) % 128 := and127 ⟨s[k].toNat, s[k].toNat_lt⟩
      by_cases h1 : (s[k].toNat : Int) % 128 = 27
      · have h27 : (((s[k].toNat : Int) % 128) == 27) = true := by simpa using h1
        go_wp2_with fail
        go_roundw
        case rel => exact ⟨k + 1, out, by omega, by go_num, by omega, HPL, HO, HB⟩
        case measure => simp [intOf]; omega
      · have h27 : (((s[k].toNat : Int) % 128) == 27) = false := by simpa using h1
        by_cases h2 : (s[k].toNat : Int) % 128 = 127
        · have h127 : (((s[k].toNat : Int) % 128) == 127) = true := by simpa using h2
          go_wp2_with fail
          go_roundw
          case rel => exact ⟨k + 1, out, by omega, by go_num, by omega, HPL, HO, HB⟩
          case measure => simp [intOf]; omega
        · have h127 : (((s[k].toNat : Int) % 128) == 127) = false := by simpa using h2
          have hcd : ((((s[k].toNat : Int) % 128) != 27) && (((s[k].toNat : Int) % 128) != 127)) = true := by simp [bne, h27, h127]
          have HNEW := Lib.hid (low_plain s[k] (by omega) (by omega))
          have HU : Hid ((UInt8.ofNat (s[k].toNat % 128)).toNat = s[k].toNat % 128) := Lib.hid (UInt8.toNat_ofNat_of_lt' (by show _ < 256; omega))
          have HCS : Hid (∀ j u, [Value.int .u8 ((s[k].toNat : Int) % 128)][j]? = some u → (wr.alloc (.cells #[.int .u8 ((s[k].toNat : Int) % 128)] 5)).cell? ((⟨wr.heap.size, 0, none⟩ : Addr).add j) = some u) := fun j u hj => by
            match j, hj with
            | 0, hj => simp at hj; subst hj; simp [Addr.add]
          go_wp2_with (at_builtin; go_loud (refine wpList_append_lies _ rfl _ _ 23 rfl w1.heap.size 5 i0 (.int .u8 0) 1 1 Tryd.underlying23 HI.out HI0.out HI1.out HI2.out rfl (by omega) (.slice va out.length vc) out.length _ rfl (HO.out.alloc _) ⟨wr.heap.size, 0, none⟩ 1 1 [.int .u8 ((s[k].toNat : Int) % 128)] rfl rfl HCS.out (by simp [Value.oneCell']) (by omega) (by unfold maxLen; omega) (by omega) (by have := HSZ.out; simp; omega) _ rfl ?_; intro q cap w8 hown8 hg8 hat8 hlt8; have HO8 := Lib.hid hown8; have HG8 := Lib.hid hg8; clear hown8 hg8))
          go_roundw
          case rel =>
            refine ⟨k + 1, out ++ [UInt8.ofNat (s[k].toNat % 128)], by omega, by go_num, by simp; omega, ?_, ?_, ?_⟩
            · intro x hx
              rcases List.mem_append.1 hx with hx | hx
              · exact HPL.out x hx
              · rw [List.mem_singleton.1 hx]; exact HNEW.out
            · have h3 := HO8.out
              have e : ((UInt8.ofNat (s[k].toNat % 128)).toNat : Int) = (s[k].toNat : Int) % 128 := by rw [HU.out]; omega
              show World.ownsRow _ _ _ _ _ _ _
              have e2 : Lib.byteCells [UInt8.ofNat (s[k].toNat % 128)] = [.int .u8 ((s[k].toNat : Int) % 128)] := by simp only [Lib.byteCells, List.map_cons, List.map_nil, e]
              rw [byteCells_app, List.length_append, e2]
              exact h3
            · exact (HB.out.alloc HB.out.size _).grown HG8.out (by have := HSZ.out; simp; omega) (fun j hj => (HO.out.lt j hj).1)
          case measure => simp [intOf]; omega
    · have hconv := conv_bytes wr out w1.heap.size _ HO.out
      have hol2 : out.length ≤ 140737488353000 := by omega
      have HTW := Lib.hid ((HT.out.below HB1.out).below HB.out)
      have HD9 := Lib.hid (decode_9 out wr (by omega) HTW.out (decFits_plain out HPL.out hol2))
      have HE10 : Hid (∀ W, Tabs W → Calls Tryd.prog 10 #[S out] W (GuardPost (out, 0, 0) W)) := fun W hW => (encode_10 out W (by omega) hW (encFits_plain out HPL.out hol2)).mono fun e w' ⟨x, hx, h⟩ => by
        obtain ⟨es, he, hee⟩ := encode_plain out HPL.out
        rw [he] at hx
        have : x = (encEnd es, 0, 0) := hx
        rw [this, hee] at h
        exact h
      rw [decode_plain out HPL.out] at HD9
      have HBW := Lib.hid (btr HB1.out HB.out HB1.out.size)
      clear HO HPL
      go_wp2_with (first
        | (go_at_call 11; ((with_reducible refine Calls.mono (is_true _ _ _ _) ?_); rintro e w6 ⟨rfl, rfl⟩))
        | (go_at_call 9; ((with_reducible refine Calls.mono HD9.out ?_); rintro e w2 ⟨rfl, hb2⟩; have HB2 := Lib.hid hb2; have HT2 := Lib.hid (HTW.out.below hb2); clear hb2))
        | (go_at_call 10; ((with_reducible refine Calls.mono (HE10.out _ HT2.out) ?_); rintro e w3 ⟨rfl, hb3⟩; have HB3 := Lib.hid hb3; clear hb3)))
      go_ret
      exact ⟨rfl, btr (btr HBW.out HB2.out HBW.out.size) HB3.out (Nat.le_trans HBW.out.size HB2.out.size)⟩
end Go.Proofs.YtpkacoknpedolaaDoor
