/-
  The walk of Marc8Marks.
-/
import Derived.Test.YtpkacoknpedolaaDoorG2
import Derived.Test.YtpkacoknpedolaaDoorE4
import Derived.Test.YtpkacoknpedolaaDoorArgs
import Derived.Laws.Cover4
import Derived.BigQuiet
import Derived.StillTailTactics
namespace Go.Proofs.YtpkacoknpedolaaDoor
open Go.RowKit

theorem conv_one (W : World) (q o c : Nat) (x : Nat) (hx : x < 256) (h : W.cell? ⟨q, o, none⟩ = some (.int .u8 x)) : (convert 23 9 (.slice (some ⟨q, o, none⟩) 1 c)).run Tryd.prog W = .ok (S [UInt8.ofNat x]) W :=
  run_convert_bytes_back W 23 9 5 ⟨q, o, none⟩ c [UInt8.ofNat x] Tryd.underlying23 Tryd.underlying5 Tryd.underlying9 (fun j hj => by
    have hj0 : j = 0 := by simp at hj; omega
    subst hj0
    have hu : (UInt8.ofNat x).toNat = x := UInt8.toNat_ofNat_of_lt' hx
    have e : (⟨q, o, none⟩ : Addr).add 0 = ⟨q, o, none⟩ := by unfold Addr.add; simp
    rw [e, h]
    simp [hu])
theorem conv_new (W : World) (x : Nat) (hx : x < 256) : (convert 23 9 (.slice (some ⟨W.heap.size, 0, none⟩) 1 1)).run Tryd.prog (W.alloc (.cells #[.int .u8 x] 5)) = .ok (S [UInt8.ofNat x]) (W.alloc (.cells #[.int .u8 x] 5)) :=
  conv_one _ _ 0 1 x hx (by rw [World.cell?_alloc_new]; rfl)
theorem mk8_cells : ∀ i : Fin 8, (#[Value.int .u8 224, .int .u8 225, .int .u8 226, .int .u8 232, .int .u8 238, .int .u8 240, .int .u8 242, .int .u8 254] : Array Value)[i.val]? = some (.int .u8 (mkB i.val)) ∧ (#[Value.int .i32 777, .int .i32 768, .int .i32 769, .int .i32 776, .int .i32 779, .int .i32 807, .int .i32 803, .int .i32 787] : Array Value)[i.val]? = some (.int .i32 (mkC i.val)) := by
  intro i
  match i with
  | ⟨0, _⟩ => exact ⟨rfl, rfl⟩
  | ⟨1, _⟩ => exact ⟨rfl, rfl⟩
  | ⟨2, _⟩ => exact ⟨rfl, rfl⟩
  | ⟨3, _⟩ => exact ⟨rfl, rfl⟩
  | ⟨4, _⟩ => exact ⟨rfl, rfl⟩
  | ⟨5, _⟩ => exact ⟨rfl, rfl⟩
  | ⟨6, _⟩ => exact ⟨rfl, rfl⟩
  | ⟨7, _⟩ => exact ⟨rfl, rfl⟩
theorem mk8_enc : ∀ i : Fin 8, (Utf8.encode (mkC i.val : Int)).data.toList = enc (mkC i.val) := by decide +kernel
theorem mk8_encN (m : Nat) (hm : m < 8) : (Utf8.encode (mkC m : Int)).data.toList = enc (mkC m) := by
  have h := mk8_enc ⟨m, hm⟩
  simp only at h
  rw [h]
theorem runes_one (x : Int) (l : Bs) (h : (Utf8.encode x).data.toList = l) : runesBytes [x] = ⟨l.toArray⟩ := by
  have e2 : runesBytes [x] = ByteArray.empty ++ Utf8.encode x := rfl
  rw [e2]
  generalize Utf8.encode x = y at h ⊢
  subst h
  rw [ByteArray.empty_append]
theorem runes_mk (m : Nat) (hm : m < 8) : runesBytes [(mkC m : Int)] = ⟨(enc (mkC m)).toArray⟩ := runes_one _ _ (mk8_encN m hm)
theorem conv_rune (W : World) (q o c : Nat) (x : Int) (l : Bs) (hx : runesBytes [x] = ⟨l.toArray⟩) (h : W.cell? ⟨q, o, none⟩ = some (.int .i32 x)) : (convert 29 9 (.slice (some ⟨q, o, none⟩) 1 c)).run Tryd.prog W = .ok (S l) W := by
  rw [run_convert_runes_string W 29 9 21 _ 1 c Tryd.underlying29 Tryd.underlying21 Tryd.underlying9]
  have hl := run_loadCells_list (P := Tryd.prog) W ⟨q, o, none⟩ [.int .i32 x] (fun j v hj => by
    match j, hj with
    | 0, hj =>
      simp at hj; subst hj
      have e : (⟨q, o, none⟩ : Addr).add 0 = ⟨q, o, none⟩ := by unfold Addr.add; simp
      rw [e]; exact h)
  rw [run_runesToString W ⟨q, o, none⟩ 1 c [x] hl, hx]
abbrev mkA : Obj := .cells #[.int .u8 224, .int .u8 225, .int .u8 226, .int .u8 232, .int .u8 238, .int .u8 240, .int .u8 242, .int .u8 254] 5
abbrev mkD : Obj := .cells #[.int .i32 777, .int .i32 768, .int .i32 769, .int .i32 776, .int .i32 779, .int .i32 807, .int .i32 803, .int .i32 787] 21
/-- The two tables of the law. -/
structure MkTabs (A : Nat) (w : World) : Prop where
  b : ∀ i, i < 8 → w.cell? ⟨A, i, none⟩ = some (.int .u8 (mkB i))
  c : ∀ i, i < 8 → w.cell? ⟨A + 1, i, none⟩ = some (.int .i32 (mkC i))
theorem mkTabs_new (W : World) (o : Obj) : MkTabs W.heap.size (((W.alloc mkA).alloc mkD).alloc o) := by
  have h1 : (W.alloc mkA).heap.size = W.heap.size + 1 := by simp
  refine ⟨fun i hi => ?_, fun i hi => ?_⟩
  · rw [alloc_old _ _ _ _ (by simp; omega), alloc_old _ _ _ _ (by simp), World.cell?_alloc_new]
    exact (mk8_cells ⟨i, hi⟩).1
  · rw [alloc_old _ _ _ _ (by simp), ← h1, World.cell?_alloc_new]
    exact (mk8_cells ⟨i, hi⟩).2
theorem mBytes_len (is : List Nat) : (mBytes is).length = is.length := by simp [mBytes]
theorem mChars_len (is : List Nat) : (mChars is).length ≤ 4 * is.length := by
  induction is with
  | nil => simp [mChars]
  | cons i is ih =>
    have := (enc_le (mkC i)).2
    simp only [mChars, List.flatMap_cons, List.length_append, List.length_cons] at ih ⊢
    omega
set_option maxHeartbeats 8000000 in
set_option maxRecDepth 100000 in
theorem marks_4 (v : Value) (n : Nat) (lt : Nat) (w : World) (hv : BytesIn w v n) (hn : n ≤ maxLen) (hlt : lt < 256) (hT : Tabs w) : Calls Tryd.prog 4 #[v, .int .u8 lt] w fun e w' => e = .returned (.bool true) ∧ Below w.heap.size w w' := by
  have HT := Lib.hid hT
  clear hT
  have HV := Lib.hid hv
  obtain ⟨va, vc, rfl, -⟩ := hv
  have mixed : Tryd.prog.follows Departure.mixedOrders = true := by kernel_rfl
  obtain ⟨c, hc⟩ : ∃ c, c = 97 + lt % 26 := ⟨_, rfl⟩
  have hc1 : 97 + (lt : Int) % 26 = (c : Int) := by omega
  have HC : Hid (97 ≤ c ∧ c < 123) := Lib.hid (by omega)
  have hcw : IntKind.u8.wrap (c : Int) = c := IntWalk.u8_in _ (by omega)
  have hcv2 : ∀ W : World, (convert 23 9 (.slice (some ⟨W.heap.size, 0, none⟩) 1 1)).run Tryd.prog (W.alloc (.cells #[.int .u8 (c : Int)] 5)) = .ok (S [UInt8.ofNat c]) (W.alloc (.cells #[.int .u8 (c : Int)] 5)) := fun W => conv_new W c (by omega)
  have hcv1 : ∀ W : World, (convert 23 9 (.slice (some ⟨W.heap.size + 1 + 1, 0, none⟩) 1 1)).run Tryd.prog (((W.alloc mkA).alloc mkD).alloc (.cells #[.int .u8 (c : Int)] 5)) = .ok (S [UInt8.ofNat c]) (((W.alloc mkA).alloc mkD).alloc (.cells #[.int .u8 (c : Int)] 5)) := fun W => by
    have := conv_new ((W.alloc mkA).alloc mkD) c (by omega)
    rw [show ((W.alloc mkA).alloc mkD).heap.size = W.heap.size + 1 + 1 by simp] at this
    exact this
  clear hc
  go_enter Tryd.func4, Tryd.ntmps4
  go_wp2_with (go_at_call 8; ((with_reducible refine Calls.mono (sanity_8 _ HT.out) ?_); rintro e w1 ⟨rfl, hb1⟩; have HB1 := Lib.hid hb1; clear hb1))
  have HM0 : Hid (MkTabs w1.heap.size (((w1.alloc mkA).alloc mkD).alloc (.cells #[.int .u8 (c : Int)] 5))) := Lib.hid (mkTabs_new w1 _)
  have HB0 : Hid (Below w1.heap.size w1 (((w1.alloc mkA).alloc mkD).alloc (.cells #[.int .u8 (c : Int)] 5))) := Lib.hid ((((Below.refl _ w1).alloc (Nat.le_refl _) _).alloc (by simp) _).alloc (by simp; omega) _)
  have hA := HB1.out.size
  have HAW : Hid (w1.heap.size = w1.heap.size) := Lib.hid rfl
  have HV1 : Hid (BytesIn w (.slice va n vc) n) := HV
  generalize (((w1.alloc mkA).alloc mkD).alloc (.cells #[.int .u8 (c : Int)] 5)) = w2 at *
  clear hcv1
  clear HAW
  generalize hAe : w1.heap.size = A at *
  have HAE := Lib.hid hAe
  clear hAe
  go_loopw [8, 9, 10] (fun sv tv i wr => ∃ (k : Nat) (is SB TB : List Nat) (sb tb : Bs), k ≤ n ∧ k ≤ 20 ∧ Hid (is.length = k) ∧ i = .int .i64 k ∧ Hid (∀ x ∈ is, x < 8) ∧ sv = S sb ∧ tv = S tb ∧ Hid (sb = mBytes is) ∧ Hid (tb = [UInt8.ofNat c] ++ mChars is) ∧ sb.length ≤ 1000 ∧ tb.length ≤ 1000 ∧ Hid (MkTabs A wr) ∧ Hid (Below A w1 wr) ∧ Hid (SB = TB)) (fun _ _ i _ => 20 - (intOf i).toNat)
  case atStart => exact ⟨0, [], [], [], [], [UInt8.ofNat c], by omega, by omega, Lib.hid rfl, rfl, Lib.hid (by simp), rfl, rfl, Lib.hid rfl, Lib.hid (by simp [mChars]), by simp, by simp, HM0, HB0, Lib.hid rfl⟩
  case round =>
    obtain ⟨k, is, _, _, sb, tb, hkn, hk20, HKL, rfl, HIS, rfl, rfl, HSB, HTB, hsl, htl, HMT, HBW, _⟩ := hrel
    by_cases hkn2 : k < n
    · by_cases hk2 : k < 20
      · have h1 : (k : Int) < n := by omega
        have h2 : (k : Int) < 20 := by omega
        obtain ⟨_, _, hv0, hv1⟩ := HV1.out
        obtain ⟨b, off, hva, hbz, hcells⟩ := hv1 (by omega)
        injection hv0 with e1 e2 e3
        subst e1 e3
        subst hva
        obtain ⟨x, hx, hxc⟩ := hcells k hkn2
        have d0 : wr.cell? ⟨b, off + k, none⟩ = some (.int .u8 x) := by
          rw [HBW.out.cell (p := ⟨b, off + k, none⟩) (by show b < A; omega), HB1.out.cell (p := ⟨b, off + k, none⟩) hbz]; exact hxc
        obtain ⟨m, hm⟩ : ∃ m, m = x % 8 := ⟨_, rfl⟩
        have hm1 : (x : Int) % 8 = (m : Int) := by omega
        have hm8 : m < 8 := by omega
        have hm2 : (m : Int) + 1 ≤ 8 := by omega
        have hmw : IntKind.u8.wrap ((m : Int) + 1) = m + 1 := IntWalk.u8_in _ (by omega)
        clear hm hcells hv1
        have hcvB : ∀ q cp, (convert 23 9 (.slice (some ⟨A, m, none⟩) 1 cp)).run Tryd.prog (wr.drewN q) = .ok (S [UInt8.ofNat (mkB m)]) (wr.drewN q) := fun q cp => conv_one _ A m cp (mkB m) (mk8_ok ⟨m, hm8⟩).2.1 (HMT.out.b m hm8)
        have hel := (enc_le (mkC m)).2
        go_wp2_with fail
        go_quiet (fail)
        have HMT2 : Hid (MkTabs A (wr.drewN nq)) := Lib.hid ⟨HMT.out.b, HMT.out.c⟩
        have HBW2 : Hid (Below A w1 (wr.drewN nq)) := Lib.hid (below_drewN HBW.out nq)
        have d1 : (wr.drewN nq).cell? ⟨b, off + k, none⟩ = some (.int .u8 x) := d0
        clear d0 hcvB HMT HBW
        generalize wr.drewN nq = wq at *
        have hcvC : ∀ q cp, (convert 29 9 (.slice (some ⟨A + 1, m, none⟩) 1 cp)).run Tryd.prog (wq.drewN q) = .ok (S (enc (mkC m))) (wq.drewN q) := fun q cp => conv_rune _ (A + 1) m cp (mkC m) (enc (mkC m)) (runes_mk m hm8) (HMT2.out.c m hm8)
        have HSB2 : Hid (sb ++ [UInt8.ofNat (mkB m)] = mBytes (is ++ [m])) := Lib.hid (by rw [HSB.out]; simp [mBytes])
        have HTB2 : Hid (tb ++ enc (mkC m) = [UInt8.ofNat c] ++ mChars (is ++ [m])) := Lib.hid (by rw [HTB.out]; simp [mChars])
        have HK2 : Hid ((is ++ [m]).length = k + 1) := Lib.hid (by rw [List.length_append, HKL.out]; rfl)
        have HIS2 : Hid (∀ x ∈ is ++ [m], x < 8) := Lib.hid (fun x hx => by
          rcases List.mem_append.1 hx with h | h
          · exact HIS.out x h
          · rw [List.mem_singleton.1 h]; exact hm8)
        have HSL2 : Hid ((sb ++ [UInt8.ofNat (mkB m)]).length ≤ 1000) := Lib.hid (by rw [HSB2.out, mBytes_len, HK2.out]; omega)
        have HTL2 : Hid ((tb ++ enc (mkC m)).length ≤ 1000) := Lib.hid (by
          have h1 := mChars_len (is ++ [m])
          rw [HK2.out] at h1
          rw [HTB2.out, List.length_append]; simp; omega)
        go_wp2_with fail
        go_quiet (fail)
        have HMT3 : Hid (MkTabs A (wq.drewN nq)) := Lib.hid ⟨HMT2.out.b, HMT2.out.c⟩
        have HBW3 : Hid (Below A w1 (wq.drewN nq)) := Lib.hid (below_drewN HBW2.out nq)
        go_wp2_with fail
        go_roundw
        case rel => exact ⟨k + 1, is ++ [m], [], [], _, _, by omega, by omega, HK2, by go_num, HIS2, rfl, rfl, HSB2, HTB2, HSL2.out, HTL2.out, HMT3, HBW3, Lib.hid rfl⟩
        case measure => simp [intOf]; omega
      · have h1 : (k : Int) < n := by omega
        have h2 : ¬ (k : Int) < 20 := by omega
        have hcc : (UInt8.ofNat c).toNat = c := UInt8.toNat_ofNat_of_lt' (by have := HC.out; show c < 256; omega)
        have HD9 : Hid (∀ W, Tabs W → Calls Tryd.prog 9 #[S (120 :: (sb ++ [UInt8.ofNat c, 121]))] W (GuardPost (120 :: (tb ++ [121]), 0, 0) W)) := Lib.hid (fun W hW => by
          have h := decode_marks is HIS.out (UInt8.ofNat c) (by rw [hcc]; exact HC.out.1) (by rw [hcc]; exact HC.out.2)
          rw [← HSB.out, ← HTB.out] at h
          have e1 : ([120] ++ (sb ++ [UInt8.ofNat c]) ++ [121] : Bs) = 120 :: (sb ++ [UInt8.ofNat c, 121]) := by simp
          have e2 : ([120] ++ tb ++ [121] : Bs) = 120 :: (tb ++ [121]) := by simp
          rw [e1, e2] at h
          exact decode_at' _ _ h (by simp; omega) W hW)
        have HE10 : Hid (∀ W, Tabs W → Calls Tryd.prog 10 #[S (120 :: (tb ++ [121]))] W (GuardPost (120 :: (sb ++ [UInt8.ofNat c, 121]), 0, 0) W)) := Lib.hid (fun W hW => by
          have h := encode_marks is HIS.out (UInt8.ofNat c) (by rw [hcc]; exact HC.out.1) (by rw [hcc]; exact HC.out.2)
          rw [← HSB.out, ← HTB.out] at h
          have e1 : ([120] ++ (sb ++ [UInt8.ofNat c]) ++ [121] : Bs) = 120 :: (sb ++ [UInt8.ofNat c, 121]) := by simp
          have e2 : ([120] ++ tb ++ [121] : Bs) = 120 :: (tb ++ [121]) := by simp
          rw [e1, e2] at h
          exact encode_at _ _ h (by simp; omega) W hW)
        have HTW : Hid (Tabs (wr.alloc (.cells #[.int .u8 (c : Int)] 5))) := Lib.hid (((HT.out.below HB1.out).below (by rw [HAE.out]; exact HBW.out)).below (alloc_below1 _ _))
        have HBX : Hid (Below w.heap.size w (wr.alloc (.cells #[.int .u8 (c : Int)] 5))) := Lib.hid (btr (btr HB1.out HBW.out hA) (alloc_below1 _ _) (by have := HBW.out.size; have := HB1.out.size; omega))
        go_wp2_with (first
          | (go_at_call 9; ((with_reducible refine Calls.mono (HD9.out _ HTW.out) ?_); rintro e w3 ⟨rfl, hb3⟩; have HB3 := Lib.hid hb3; have HT3 := Lib.hid (HTW.out.below hb3); clear hb3))
          | (go_at_call 10; ((with_reducible refine Calls.mono (HE10.out _ HT3.out) ?_); rintro e w4 ⟨rfl, hb4⟩; have HB4 := Lib.hid hb4; clear hb4)))
        go_ret
        exact ⟨rfl, btr (btr HBX.out HB3.out HBX.out.size) HB4.out (Nat.le_trans HBX.out.size HB3.out.size)⟩
    · have h1 : ¬ (k : Int) < n := by omega
      skip
      have hcc : (UInt8.ofNat c).toNat = c := UInt8.toNat_ofNat_of_lt' (by have := HC.out; show c < 256; omega)
      have HD9 : Hid (∀ W, Tabs W → Calls Tryd.prog 9 #[S (120 :: (sb ++ [UInt8.ofNat c, 121]))] W (GuardPost (120 :: (tb ++ [121]), 0, 0) W)) := Lib.hid (fun W hW => by
        have h := decode_marks is HIS.out (UInt8.ofNat c) (by rw [hcc]; exact HC.out.1) (by rw [hcc]; exact HC.out.2)
        rw [← HSB.out, ← HTB.out] at h
        have e1 : ([120] ++ (sb ++ [UInt8.ofNat c]) ++ [121] : Bs) = 120 :: (sb ++ [UInt8.ofNat c, 121]) := by simp
        have e2 : ([120] ++ tb ++ [121] : Bs) = 120 :: (tb ++ [121]) := by simp
        rw [e1, e2] at h
        exact decode_at' _ _ h (by simp; omega) W hW)
      have HE10 : Hid (∀ W, Tabs W → Calls Tryd.prog 10 #[S (120 :: (tb ++ [121]))] W (GuardPost (120 :: (sb ++ [UInt8.ofNat c, 121]), 0, 0) W)) := Lib.hid (fun W hW => by
        have h := encode_marks is HIS.out (UInt8.ofNat c) (by rw [hcc]; exact HC.out.1) (by rw [hcc]; exact HC.out.2)
        rw [← HSB.out, ← HTB.out] at h
        have e1 : ([120] ++ (sb ++ [UInt8.ofNat c]) ++ [121] : Bs) = 120 :: (sb ++ [UInt8.ofNat c, 121]) := by simp
        have e2 : ([120] ++ tb ++ [121] : Bs) = 120 :: (tb ++ [121]) := by simp
        rw [e1, e2] at h
        exact encode_at _ _ h (by simp; omega) W hW)
      have HTW : Hid (Tabs (wr.alloc (.cells #[.int .u8 (c : Int)] 5))) := Lib.hid (((HT.out.below HB1.out).below (by rw [HAE.out]; exact HBW.out)).below (alloc_below1 _ _))
      have HBX : Hid (Below w.heap.size w (wr.alloc (.cells #[.int .u8 (c : Int)] 5))) := Lib.hid (btr (btr HB1.out HBW.out hA) (alloc_below1 _ _) (by have := HBW.out.size; have := HB1.out.size; omega))
      go_wp2_with (first
        | (go_at_call 9; ((with_reducible refine Calls.mono (HD9.out _ HTW.out) ?_); rintro e w3 ⟨rfl, hb3⟩; have HB3 := Lib.hid hb3; have HT3 := Lib.hid (HTW.out.below hb3); clear hb3))
        | (go_at_call 10; ((with_reducible refine Calls.mono (HE10.out _ HT3.out) ?_); rintro e w4 ⟨rfl, hb4⟩; have HB4 := Lib.hid hb4; clear hb4)))
      go_ret
      exact ⟨rfl, btr (btr HBX.out HB3.out HBX.out.size) HB4.out (Nat.le_trans HBX.out.size HB3.out.size)⟩
theorem marks_4i (v : Value) (n : Nat) (z : Int) (w : World) (hv : BytesIn w v n) (hn : n ≤ maxLen) (h0 : 0 ≤ z) (h1 : z < 256) (hT : Tabs w) : Calls Tryd.prog 4 #[v, .int .u8 z] w fun e w' => e = .returned (.bool true) ∧ Below w.heap.size w w' := by
  obtain ⟨x, rfl⟩ : ∃ x : Nat, z = x := ⟨z.toNat, by omega⟩
  exact marks_4 v n x w hv hn (by omega) hT
end Go.Proofs.YtpkacoknpedolaaDoor
