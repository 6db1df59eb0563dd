/-
  The walk of Write.
-/
import Derived.Test.YtgdkdihedgiegaaDoorD4
import Derived.Deep.RegionHeld3
import Derived.Outline
namespace Go.Proofs.YtgdkdihedgiegaaDoor
open Go.RowKit
attribute [local go_sem] conv_rule

theorem power_left {D D' : DiskD} (h : powerD D = some D') : D'.now = D.now ∧ D'.syn = D.syn ∧ D'.pcs = D.pcs := by
  unfold powerD at h
  split at h
  · split at h
    · cases h
    · cases h; exact ⟨rfl, rfl, rfl⟩
  · cases h; exact ⟨rfl, rfl, rfl⟩
theorem apart_new {w : World} {v : Value} {l : Bs} (h : ByteRow w v l) (s : Bs) : Apart (.slice (some ⟨w.heap.size, 0, none⟩) s.length (capR w s)) v := fun k hk e => by
  have h1 := row_lt h k e
  injection hk with hk
  have h2 : w.heap.size = k := hk
  omega
theorem far_bytes {w : World} {b : Nat} {o : Obj} (h : w.heap[b]? = some o) (l : Bs) : (bytesW w.drew l).heap[b]? = some o := ((bytesW_below w.drew l).block b (blk_lt h)).trans h
theorem row_bytes {w : World} {B : Nat} {e : TypeId} {k : Nat} {v : Value} {n : Nat} {xs : List Value} (h : w.ownsRow B e k v n xs) (l : Bs) : (bytesW w.drew l).ownsRow B e k v n xs :=
  row_far h (fun g hg => (bytesW_below w.drew l).block g (row_lt h g hg))
theorem text_n (w : World) (l : Bs) (n : Nat) (hn : l.length = n) : TextAt (bytesW w l) (.slice (some ⟨w.heap.size, 0, none⟩) n (capR w l)) l w.heap.size := by subst hn; exact bytesW_text w l
theorem put_blk {F : Nat → Prop} {w1 w2 : World} {b : Nat} {vn vs vp vn' : Value} {c : Int} {D : DiskD} {s : Bs} (h : DiskR F w1 b vn vs vp c D) (ho : Onto (bytesW w1 s) w2 vn vn') : w2.heap[b]? = some (.cells (diskCells vn vs vp c D.failing D.left) 71 (0, 0)) := by
  have hb : b < w1.heap.size := blk_lt h.blk
  rw [ho.grown.block b (by rw [bytesW_size]; omega) (fun e => h.ne.1 e.symm), (bytesW_below w1 s).block b hb]
  exact h.blk
theorem put_grown {w1 w2 : World} {vn vn' : Value} {s : Bs} (ho : Onto (bytesW w1 s) w2 vn vn') : w1.grownBy w2 vn.ownBlock := by
  have hb := bytesW_below w1 s
  exact ⟨ho.grown.os.trans hb.os, ho.grown.tape.trans hb.tape, ho.grown.output.trans hb.output, Nat.le_trans hb.size ho.grown.size, fun k hk hn => (ho.grown.block k (Nat.lt_of_lt_of_le hk hb.size) hn).trans (hb.block k hk)⟩
theorem put_at {w1 w2 : World} {vn vn' : Value} {s : Bs} (ho : Onto (bytesW w1 s) w2 vn vn') : vn'.ownBlock = vn.ownBlock ∨ ∃ k, vn'.ownBlock = some k ∧ w1.heap.size ≤ k := by
  rcases ho.at_ with h | h
  · exact .inl h
  · exact .inr ⟨_, h, by rw [bytesW_size]; omega⟩
set_option maxHeartbeats 4000000 in
set_option maxRecDepth 100000 in
theorem write_50 (F : Nat → Prop) (w : World) (b : Nat) (D : DiskD) (h : DiskAt F w b D) (hl : -1 ≤ D.left ∧ D.left ≤ 1000) (off : Nat) (s : Bs) (hs : off + s.length ≤ 16777216) (hn : D.now.length ≤ 16777216) (hp : D.pcs.length ≤ 1000000) :
    Calls Tryd.prog 50 #[.pointer (some ⟨b, 0, none⟩), .int .i64 off, S s] w fun e w' => e = .returned (.int .i64 (writeD D off s).2) ∧ ∃ F', DiskAt F' w' b (writeD D off s).1 ∧ Step F w F' w' := by
  have H := Lib.hid h
  have HC := Lib.hid (call_58 F w b D h hl)
  have hb1 : (off : Int) ≤ 16777216 := by omega
  have hb2 : (s.length : Int) ≤ 16777216 - off := by omega
  clear h hl
  cases hpw : powerD D with
  | none =>
    have HE : Hid (writeD D off s = (D, 70)) := by show _ = _; simp [writeD, hpw]
    rw [hpw] at HC
    rw [HE.out]
    clear hpw
    go_enter Tryd.func50, Tryd.ntmps50
    go_wp2_with (go_at_call 58; ((with_reducible refine Calls.mono HC.out ?_); rintro e w1 ⟨rfl, rfl⟩))
    go_ret
    exact ⟨rfl, F, H.out, Step.refl F _⟩
  | some D' =>
    have HE : Hid (writeD D off s = ({ D' with now := putR D'.now off s, pcs := D'.pcs ++ chunksR off s }, 0)) := by show _ = _; simp [writeD, hpw]
    obtain ⟨e1, e2, e3⟩ := power_left hpw
    rw [hpw] at HC
    rw [HE.out]
    rw [← e1] at hn
    rw [← e3] at hp
    clear hpw e1 e2 e3
    obtain ⟨now, syn, pcs, f, l⟩ := D'
    simp only at hn hp
    have hd1 : decide ((off : Int) < 0) = false := by simp
    have hd2 : decide (16777216 < (off : Int)) = false := by simp; omega
    have hd3 : decide (16777216 - (off : Int) < (s.length : Int)) = false := by simp; omega
    have hofs : off ≤ 16777216 ∧ s.length ≤ 16777216 := by omega
    go_enter Tryd.func50, Tryd.ntmps50
    go_wp2_with (first
      | (go_at_call 58; ((with_reducible refine Calls.mono HC.out ?_); rintro e w1 ⟨rfl, ⟨vn, vs, vp, c, hD⟩, ho1⟩; have HD := Lib.hid hD; have HO1 := Lib.hid ho1; have c0 : w1.cell? ⟨b, 0, none⟩ = some vn := (by rw [blk_cell hD.blk]; rfl); clear hD ho1))
      | (go_at_call 52; ((with_reducible refine Calls.mono (put_52 _ vn _ now s off (row_far HD.out.now (fun g hg => (bytesW_below w1 s).block g (row_lt HD.out.now g hg))) (bytesW_text w1 s).src (apart_new HD.out.now s) (by omega) (by omega) (by omega)) ?_); rintro e w2 ⟨vn', rfl, hr2, ho2⟩; obtain ⟨va', vc', rfl⟩ := row_shape hr2; have hb2' := put_blk HD.out ho2; have k0 : w2.cell? ⟨b, 0, none⟩ = some vn := (by rw [blk_cell hb2']; rfl); have f0 : w2.frozen? ⟨b, 0, none⟩ = false := blk_frozen hb2' 0; have HR2 := Lib.hid hr2; have HO2 := Lib.hid ho2; clear hr2 ho2 hb2')))
    obtain ⟨F1, hD1, hS1⟩ := HD.out.putNow HR2.out (put_grown HO2.out) (put_at HO2.out)
    have HD1 := Lib.hid hD1
    have HS1 : Hid (Step F w F1 (w2.setCell ⟨b, 0, none⟩ (.slice va' (putR now off s).length vc'))) := (Step.of_only HO1.out H.out.fb).trans hS1
    clear hD1 hS1
    go_loopw [1, 2] (fun x y wr => ∃ (k o : Nat) (L : Bs) (F2 : Nat → Prop) (vp2 : Value) (ps : List (Nat × Bs)), x = .int .i64 o ∧ y = S L ∧ k ≤ s.length ∧ Hid (o = off + k) ∧ Hid (L = s.drop k) ∧ Hid (DiskR F2 wr b (.slice va' (putR now off s).length vc') vs vp2 c ⟨putR now off s, syn, ps, f, l⟩) ∧ Hid (Step F w F2 wr) ∧ Hid (ps ++ chunksR o L = pcs ++ chunksR off s) ∧ Hid (ps.length ≤ 1000000 + k)) (fun x _ _ => off + s.length - (intOf x).toNat)
    case atStart => exact ⟨0, off, s, F1, vp, pcs, rfl, rfl, by omega, rfl, by simp [Hid], HD1, HS1, rfl, hp⟩
    case round =>
      obtain ⟨k, o, L, F2, vp2, ps, rfl, rfl, hk, HO, HL, HDr, HSr, HP, HPL⟩ := hrel
      have hll : L.length = s.length - k := by rw [HL.out]; simp
      have hoo : o + L.length ≤ 16777216 := by have := HO.out; omega
      have hps := HPL.out
      by_cases h0 : L = []
      · subst h0
        have hp1 : ps = pcs ++ chunksR off s := by have := HP.out; rwa [chunks_nil, List.append_nil] at this
        subst hp1
        clear hll hps
        go_wp2_with fail
        go_ret
        exact ⟨rfl, F2, ⟨_, _, _, _, HDr.out⟩, HSr.out⟩
      · obtain ⟨n, hn2⟩ : ∃ n, n = min (64 - o % 64) L.length := ⟨_, rfl⟩
        have hl0 : 0 < L.length := List.length_pos_iff.2 h0
        have HCH := Lib.hid (chunks_cons o L h0 n hn2)
        have hn3 : 0 < n := by omega
        have hn4 : n ≤ L.length := by omega
        have e1 : (64 : Int) - (o : Int) % 64 = ((64 - o % 64 : Nat) : Int) := by omega
        have HN2 := Lib.hid hn2
        have HLL := Lib.hid hll
        generalize (64 - o % 64 : Nat) = m at *
        clear hn2 h0 hll
        obtain ⟨qs, q1, q2, q3⟩ := HDr.out.pcs
        have HQ1 := Lib.hid q1
        have HQ2 := Lib.hid q2
        have HQ3 := Lib.hid q3
        have hql : qs.length ≤ 100000000 := by have h1 := congrArg List.length q1; rw [List.length_map] at h1; simp only at h1; omega
        have HBK := Lib.hid HDr.out.blk
        clear q1 q2 q3 hps
        by_cases hm : ¬ L.length < m
        · obtain rfl : n = m := by have := HN2.out; omega
          clear HN2
          go_wp2_with fail
          go_region_with (go_at_call 68; ((with_reducible refine Calls.mono (add_68 _ b _ _ vp2 _ _ _ qs.length (qs.flatMap pcCells) o _ rfl (far_bytes HBK.out _) (row_bytes HQ2.out _) hql) ?_); rintro e w3 ⟨rfl, ha⟩; have HA := Lib.hid ha; clear ha))
          go_wp2_with fail
          go_region
          go_wp2_with fail
          have hbb := (Below.refl wr.heap.size wr).drew.trans ((bytesW_below wr.drew (L.take n)))
          obtain ⟨F3, vp3, HD3, HS3⟩ := HDr.out.addPc hbb (text_n wr.drew (L.take n) n (by rw [List.length_take]; omega)) (Nat.le_refl _) qs HQ1.out HQ3.out HA.out
          go_roundw
          case rel =>
            refine ⟨k + n, o + n, L.drop n, F3, vp3, ps ++ [(o, L.take n)], by go_num, rfl, by have := HLL.out; omega, ?_, ?_, (HD3.keep (fun _ _ => rfl) (Nat.le_refl _)), HSr.out.trans (HS3.trans (Step.of_below (Below.refl _ _).drew)), ?_, ?_⟩
            · have := HO.out; show _ = _; omega
            · show _ = _; rw [HL.out, List.drop_drop]
            · show _ = _; rw [← HP.out, HCH.out, List.append_assoc]; rfl
            · have := HPL.out; show _ ≤ _; rw [List.length_append, List.length_singleton]; omega
          case measure => have h6 := HO.out; have h7 := HLL.out; simp [intOf]; omega
        · have hnl : n = L.length := by have := HN2.out; omega
          have hm2 : L.length < m := by omega
          clear HN2 hm
          go_wp2_with fail
          rw [← hnl]
          have HNL := Lib.hid hnl
          clear hnl
          go_region_with (go_at_call 68; ((with_reducible refine Calls.mono (add_68 _ b _ _ vp2 _ _ _ qs.length (qs.flatMap pcCells) o _ rfl (far_bytes HBK.out _) (row_bytes HQ2.out _) hql) ?_); rintro e w3 ⟨rfl, ha⟩; have HA := Lib.hid ha; clear ha))
          go_wp2_with fail
          go_region
          go_wp2_with fail
          have hbb := (Below.refl wr.heap.size wr).drew.trans ((bytesW_below wr.drew (L.take n)))
          obtain ⟨F3, vp3, HD3, HS3⟩ := HDr.out.addPc hbb (text_n wr.drew (L.take n) n (by rw [List.length_take]; omega)) (Nat.le_refl _) qs HQ1.out HQ3.out HA.out
          go_roundw
          case rel =>
            refine ⟨k + n, o + n, L.drop n, F3, vp3, ps ++ [(o, L.take n)], by go_num, rfl, by have := HLL.out; omega, ?_, ?_, (HD3.keep (fun _ _ => rfl) (Nat.le_refl _)), HSr.out.trans (HS3.trans (Step.of_below (Below.refl _ _).drew)), ?_, ?_⟩
            · have := HO.out; show _ = _; omega
            · show _ = _; rw [HL.out, List.drop_drop]
            · show _ = _; rw [← HP.out, HCH.out, List.append_assoc]; rfl
            · have := HPL.out; show _ ≤ _; rw [List.length_append, List.length_singleton]; omega
          case measure => have h6 := HO.out; have h7 := HLL.out; simp [intOf]; omega
end Go.Proofs.YtgdkdihedgiegaaDoor
