/-
  The walk of Write.
  The walks of Sync, Size, New and Fail.
  The walk of Read, of all that is there.
-/
import Derived.Test.YtgdkdihedgiegaaDoorD2
import Derived.Deep.RegionHeld3
import Derived.Outline
import Derived.Deep.QuietTactic
import Derived.BigQuiet
namespace Go.Proofs.YtgdkdihedgiegaaDoor
open Go.RowKit
attribute [local go_sem] conv_rule

theorem power_left {D D' : DiskD} (h : powerD D = some D') : D'.now = D.now ∧ D'.syn = D.syn ∧ D'.pcs = D.pcs := by
  unfold powerD at h
  split at h
  · split at h
    · cases h
    · cases h; exact ⟨rfl, rfl, rfl⟩
  · cases h; exact ⟨rfl, rfl, rfl⟩
theorem apart_new {w : World} {v : Value} {l : Bs} (h : ByteRow w v l) (s : Bs) : Apart (.slice (some ⟨w.heap.size, 0, none⟩) s.length (capR w s)) v := fun k hk e => by
  have h1 := row_lt h k e
  injection hk with hk
  have h2 : w.heap.size = k := hk
  omega
theorem far_bytes {w : World} {b : Nat} {o : Obj} (h : w.heap[b]? = some o) (l : Bs) : (bytesW w.drew l).heap[b]? = some o := ((bytesW_below w.drew l).block b (blk_lt h)).trans h
theorem row_bytes {w : World} {B : Nat} {e : TypeId} {k : Nat} {v : Value} {n : Nat} {xs : List Value} (h : w.ownsRow B e k v n xs) (l : Bs) : (bytesW w.drew l).ownsRow B e k v n xs :=
  row_far h (fun g hg => (bytesW_below w.drew l).block g (row_lt h g hg))
theorem text_n (w : World) (l : Bs) (n : Nat) (hn : l.length = n) : TextAt (bytesW w l) (.slice (some ⟨w.heap.size, 0, none⟩) n (capR w l)) l w.heap.size := by subst hn; exact bytesW_text w l
theorem put_blk {F : Nat → Prop} {w1 w2 : World} {b : Nat} {vn vs vp vn' : Value} {c : Int} {D : DiskD} {s : Bs} (h : DiskR F w1 b vn vs vp c D) (ho : Onto (bytesW w1 s) w2 vn vn') : w2.heap[b]? = some (.cells (diskCells vn vs vp c D.failing D.left) 71 (0, 0)) := by
  have hb : b < w1.heap.size := blk_lt h.blk
  rw [ho.grown.block b (by rw [bytesW_size]; omega) (fun e => h.ne.1 e.symm), (bytesW_below w1 s).block b hb]
  exact h.blk
theorem put_grown {w1 w2 : World} {vn vn' : Value} {s : Bs} (ho : Onto (bytesW w1 s) w2 vn vn') : w1.grownBy w2 vn.ownBlock := by
  have hb := bytesW_below w1 s
  exact ⟨ho.grown.os.trans hb.os, ho.grown.tape.trans hb.tape, ho.grown.output.trans hb.output, Nat.le_trans hb.size ho.grown.size, fun k hk hn => (ho.grown.block k (Nat.lt_of_lt_of_le hk hb.size) hn).trans (hb.block k hk)⟩
theorem put_at {w1 w2 : World} {vn vn' : Value} {s : Bs} (ho : Onto (bytesW w1 s) w2 vn vn') : vn'.ownBlock = vn.ownBlock ∨ ∃ k, vn'.ownBlock = some k ∧ w1.heap.size ≤ k := by
  rcases ho.at_ with h | h
  · exact .inl h
  · exact .inr ⟨_, h, by rw [bytesW_size]; omega⟩
set_option maxHeartbeats 4000000 in
set_option maxRecDepth 100000 in
theorem write_50 (F : Nat → Prop) (w : World) (b : Nat) (D : DiskD) (h : DiskAt F w b D) (hl : -1 ≤ D.left ∧ D.left ≤ 1000) (off : Nat) (s : Bs) (hs : off + s.length ≤ 16777216) (hn : D.now.length ≤ 16777216) (hp : D.pcs.length ≤ 1000000) :
    Calls Tryd.prog 50 #[.pointer (some ⟨b, 0, none⟩), .int .i64 off, S s] w fun e w' => e = .returned (.int .i64 (writeD D off s).2) ∧ ∃ F', DiskAt F' w' b (writeD D off s).1 ∧ Step F w F' w' := by
  have H := Lib.hid h
  have HC := Lib.hid (call_58 F w b D h hl)
  have hb1 : (off : Int) ≤ 16777216 := by omega
  have hb2 : (s.length : Int) ≤ 16777216 - off := by omega
  clear h hl
  cases hpw : powerD D with
  | none =>
    have HE : Hid (writeD D off s = (D, 70)) := by show _ = _; simp [writeD, hpw]
    rw [hpw] at HC
    rw [HE.out]
    clear hpw
    go_enter Tryd.func50, Tryd.ntmps50
    go_wp2_with (go_at_call 58; ((with_reducible refine Calls.mono HC.out ?_); rintro e w1 ⟨rfl, rfl⟩))
    go_ret
    exact ⟨rfl, F, H.out, Step.refl F _⟩
  | some D' =>
    have HE : Hid (writeD D off s = ({ D' with now := putR D'.now off s, pcs := D'.pcs ++ chunksR off s }, 0)) := by show _ = _; simp [writeD, hpw]
    obtain ⟨e1, e2, e3⟩ := power_left hpw
    rw [hpw] at HC
    rw [HE.out]
    rw [← e1] at hn
    rw [← e3] at hp
    clear hpw e1 e2 e3
    obtain ⟨now, syn, pcs, f, l⟩ := D'
    simp only at hn hp
    have hd1 : decide ((off : Int) < 0) = false := by simp
    have hd2 : decide (16777216 < (off : Int)) = false := by simp; omega
    have hd3 : decide (16777216 - (off : Int) < (s.length : Int)) = false := by simp; omega
    have hofs : off ≤ 16777216 ∧ s.length ≤ 16777216 := by omega
    go_enter Tryd.func50, Tryd.ntmps50
    go_wp2_with (first
      | (go_at_call 58; ((with_reducible refine Calls.mono HC.out ?_); rintro e w1 ⟨rfl, ⟨vn, vs, vp, c, hD⟩, ho1⟩; have HD := Lib.hid hD; have HO1 := Lib.hid ho1; have c0 : w1.cell? ⟨b, 0, none⟩ = some vn := (by rw [blk_cell hD.blk]; rfl); clear hD ho1))
      | (go_at_call 52; ((with_reducible refine Calls.mono (put_52 _ vn _ now s off (row_far HD.out.now (fun g hg => (bytesW_below w1 s).block g (row_lt HD.out.now g hg))) (bytesW_text w1 s).src (apart_new HD.out.now s) (by omega) (by omega) (by omega)) ?_); rintro e w2 ⟨vn', rfl, hr2, ho2⟩; obtain ⟨va', vc', rfl⟩ := row_shape hr2; have hb2' := put_blk HD.out ho2; have k0 : w2.cell? ⟨b, 0, none⟩ = some vn := (by rw [blk_cell hb2']; rfl); have f0 : w2.frozen? ⟨b, 0, none⟩ = false := blk_frozen hb2' 0; have HR2 := Lib.hid hr2; have HO2 := Lib.hid ho2; clear hr2 ho2 hb2')))
    obtain ⟨F1, hD1, hS1⟩ := HD.out.putNow HR2.out (put_grown HO2.out) (put_at HO2.out)
    have HD1 := Lib.hid hD1
    have HS1 : Hid (Step F w F1 (w2.setCell ⟨b, 0, none⟩ (.slice va' (putR now off s).length vc'))) := (Step.of_only HO1.out H.out.fb).trans hS1
    clear hD1 hS1
    go_loopw [1, 2] (fun x y wr => ∃ (k o : Nat) (L : Bs) (F2 : Nat → Prop) (vp2 : Value) (ps : List (Nat × Bs)), x = .int .i64 o ∧ y = S L ∧ k ≤ s.length ∧ Hid (o = off + k) ∧ Hid (L = s.drop k) ∧ Hid (DiskR F2 wr b (.slice va' (putR now off s).length vc') vs vp2 c ⟨putR now off s, syn, ps, f, l⟩) ∧ Hid (Step F w F2 wr) ∧ Hid (ps ++ chunksR o L = pcs ++ chunksR off s) ∧ Hid (ps.length ≤ 1000000 + k)) (fun x _ _ => off + s.length - (intOf x).toNat)
    case atStart => exact ⟨0, off, s, F1, vp, pcs, rfl, rfl, by omega, rfl, by simp [Hid], HD1, HS1, rfl, hp⟩
    case round =>
      obtain ⟨k, o, L, F2, vp2, ps, rfl, rfl, hk, HO, HL, HDr, HSr, HP, HPL⟩ := hrel
      have hll : L.length = s.length - k := by rw [HL.out]; simp
      have hoo : o + L.length ≤ 16777216 := by have := HO.out; omega
      have hps := HPL.out
      by_cases h0 : L = []
      · subst h0
        have hp1 : ps = pcs ++ chunksR off s := by have := HP.out; rwa [chunks_nil, List.append_nil] at this
        subst hp1
        clear hll hps
        go_wp2_with fail
        go_ret
        exact ⟨rfl, F2, ⟨_, _, _, _, HDr.out⟩, HSr.out⟩
      · obtain ⟨n, hn2⟩ : ∃ n, n = min (64 - o % 64) L.length := ⟨_, rfl⟩
        have hl0 : 0 < L.length := List.length_pos_iff.2 h0
        have HCH := Lib.hid (chunks_cons o L h0 n hn2)
        have hn3 : 0 < n := by omega
        have hn4 : n ≤ L.length := by omega
        have e1 : (64 : Int) - (o : Int) % 64 = ((64 - o % 64 : Nat) : Int) := by omega
        have HN2 := Lib.hid hn2
        have HLL := Lib.hid hll
        generalize (64 - o % 64 : Nat) = m at *
        clear hn2 h0 hll
        obtain ⟨qs, q1, q2, q3⟩ := HDr.out.pcs
        have HQ1 := Lib.hid q1
        have HQ2 := Lib.hid q2
        have HQ3 := Lib.hid q3
        have hql : qs.length ≤ 100000000 := by have h1 := congrArg List.length q1; rw [List.length_map] at h1; simp only at h1; omega
        have HBK := Lib.hid HDr.out.blk
        clear q1 q2 q3 hps
        by_cases hm : ¬ L.length < m
        · obtain rfl : n = m := by have := HN2.out; omega
          clear HN2
          go_wp2_with fail
          go_region_with (go_at_call 68; ((with_reducible refine Calls.mono (add_68 _ b _ _ vp2 _ _ _ qs.length (qs.flatMap pcCells) o _ rfl (far_bytes HBK.out _) (row_bytes HQ2.out _) hql) ?_); rintro e w3 ⟨rfl, ha⟩; have HA := Lib.hid ha; clear ha))
          go_wp2_with fail
          go_region
          go_wp2_with fail
          have hbb := (Below.refl wr.heap.size wr).drew.trans ((bytesW_below wr.drew (L.take n)))
          obtain ⟨F3, vp3, HD3, HS3⟩ := HDr.out.addPc hbb (text_n wr.drew (L.take n) n (by rw [List.length_take]; omega)) (Nat.le_refl _) qs HQ1.out HQ3.out HA.out
          go_roundw
          case rel =>
            refine ⟨k + n, o + n, L.drop n, F3, vp3, ps ++ [(o, L.take n)], by go_num, rfl, by have := HLL.out; omega, ?_, ?_, (HD3.keep (fun _ _ => rfl) (Nat.le_refl _)), HSr.out.trans (HS3.trans (Step.of_below (Below.refl _ _).drew)), ?_, ?_⟩
            · have := HO.out; show _ = _; omega
            · show _ = _; rw [HL.out, List.drop_drop]
            · show _ = _; rw [← HP.out, HCH.out, List.append_assoc]; rfl
            · have := HPL.out; show _ ≤ _; rw [List.length_append, List.length_singleton]; omega
          case measure => have h6 := HO.out; have h7 := HLL.out; simp [intOf]; omega
        · have hnl : n = L.length := by have := HN2.out; omega
          have hm2 : L.length < m := by omega
          clear HN2 hm
          go_wp2_with fail
          rw [← hnl]
          have HNL := Lib.hid hnl
          clear hnl
          go_region_with (go_at_call 68; ((with_reducible refine Calls.mono (add_68 _ b _ _ vp2 _ _ _ qs.length (qs.flatMap pcCells) o _ rfl (far_bytes HBK.out _) (row_bytes HQ2.out _) hql) ?_); rintro e w3 ⟨rfl, ha⟩; have HA := Lib.hid ha; clear ha))
          go_wp2_with fail
          go_region
          go_wp2_with fail
          have hbb := (Below.refl wr.heap.size wr).drew.trans ((bytesW_below wr.drew (L.take n)))
          obtain ⟨F3, vp3, HD3, HS3⟩ := HDr.out.addPc hbb (text_n wr.drew (L.take n) n (by rw [List.length_take]; omega)) (Nat.le_refl _) qs HQ1.out HQ3.out HA.out
          go_roundw
          case rel =>
            refine ⟨k + n, o + n, L.drop n, F3, vp3, ps ++ [(o, L.take n)], by go_num, rfl, by have := HLL.out; omega, ?_, ?_, (HD3.keep (fun _ _ => rfl) (Nat.le_refl _)), HSr.out.trans (HS3.trans (Step.of_below (Below.refl _ _).drew)), ?_, ?_⟩
            · have := HO.out; show _ = _; omega
            · show _ = _; rw [HL.out, List.drop_drop]
            · show _ = _; rw [← HP.out, HCH.out, List.append_assoc]; rfl
            · have := HPL.out; show _ ≤ _; rw [List.length_append, List.length_singleton]; omega
          case measure => have h6 := HO.out; have h7 := HLL.out; simp [intOf]; omega
end Go.Proofs.YtgdkdihedgiegaaDoor

namespace Go.Proofs.YtgdkdihedgiegaaDoor
open Go.RowKit

theorem own_len (a : Option Addr) (n c m d : Nat) : (Value.slice a n c).ownBlock = (Value.slice a m d).ownBlock := by cases a <;> rfl
theorem row_zero {w : World} {va : Option Addr} {n vc : Nat} {l : Bs} (h : ByteRow w (.slice va n vc) l) : ByteRow w (.slice va 0 vc) [] := by
  refine ⟨by simp [bv], ?_⟩
  rcases h.2 with ⟨hv, _⟩ | ⟨g, cap, cur, hv, hb, hg, _, hm, hs, _⟩
  · injection hv with h1 h2 h3
    subst h1 h3
    exact .inl ⟨rfl, rfl⟩
  · injection hv with h1 h2 h3
    subst h1 h3
    exact .inr ⟨g, _, cur, rfl, hb, hg, Nat.zero_le _, hm, hs, by simp [bv]⟩
theorem DiskR.sync {F : Nat → Prop} {w w1 w3 : World} {b : Nat} {vn vs vp v0 vs' : Value} {c : Int} {D : DiskD} (h : DiskR F w b vn vs vp c D) (h1 : ByteRow w1 vs' D.now) (ho : Onto w w1 v0 vs') (hv : v0.ownBlock = vs.ownBlock)
    (h3 : Only b w1 w3) (hb3 : w3.heap[b]? = some (.cells (diskCells vn vs' (.slice none 0 0) c D.failing D.left) 71 (0, 0))) :
    ∃ F', DiskR F' w3 b vn vs' (.slice none 0 0) c { D with syn := D.now, pcs := [] } ∧ Step F w F' w3 := by
  obtain ⟨n1, n2, n3⟩ := h.ne
  have hb : b < w.heap.size := blk_lt h.blk
  have old : ∀ k, k < w.heap.size → k ≠ b → vs.ownBlock ≠ some k → w3.heap[k]? = w.heap[k]? := fun k hk hkb hn => by
    rw [h3.block k hkb]
    exact ho.grown.block k hk (fun e => hn (by rw [← hv]; exact e.symm))
  have hb1 : w1.heap[b]? = some (.cells (diskCells vn vs vp c D.failing D.left) 71 (0, 0)) := (ho.grown.block b hb (fun e => n2 (by rw [← hv]; exact e.symm))).trans h.blk
  have hnb : vs'.ownBlock ≠ some b := fun e => by obtain ⟨cur, hc⟩ := row_type h1 e; exact type_ne hc hb1 (by decide) rfl
  refine ⟨fun k => F k ∨ vs'.ownBlock = some k, ⟨hb3, ?_, ?_, ?_, ⟨⟨[], rfl, World.ownsRow_nil _ _ _ _, by simp⟩⟩, .inl h.fb, fun k hk => .inl (h.fn k hk), fun k hk => .inr hk, fun k hk => (by cases hk), ?_⟩, ⟨h3.os.trans ho.grown.os, h3.tape.trans ho.grown.tape, h3.output.trans ho.grown.output, by rw [h3.size]; exact ho.grown.size, ?_, ?_⟩⟩
  · exact row_far h.now (fun g hg => old g (row_lt h.now g hg) (fun e => n1 (e ▸ hg)) (h.apart g hg))
  · exact row_far h1 (fun g hg => h3.block g (fun (e : g = b) => hnb (e ▸ hg)))
  · intro k hk e
    rcases ho.at_ with h2 | h2
    · rw [hv] at h2; exact h.apart k hk (h2 ▸ e)
    · rw [h2] at e; injection e with e; have := row_lt h.now k hk; omega
  · intro k hk
    rw [h3.size]
    rcases hk with hk | hk
    · exact Nat.lt_of_lt_of_le (h.lt k hk) ho.grown.size
    · exact row_lt h1 k hk
  · intro k hk hn
    exact old k hk (fun e => hn (e ▸ h.fb)) (fun e => hn (h.fs k e))
  · intro k hk
    rcases hk with hk | hk
    · exact .inl hk
    · rcases ho.at_ with h2 | h2
      · exact .inl (h.fs k (by rw [← hv, ← h2]; exact hk))
      · rw [h2] at hk; injection hk with hk; exact .inr (by omega)
set_option maxHeartbeats 400000 in
set_option maxRecDepth 100000 in
theorem sync_32 (F : Nat → Prop) (w : World) (b : Nat) (D : DiskD) (h : DiskAt F w b D) (hl : -1 ≤ D.left ∧ D.left ≤ 1000) (hn : D.now.length ≤ 20000000) :
    Calls Tryd.prog 32 #[.pointer (some ⟨b, 0, none⟩)] w fun e w' => e = .returned (.int .i64 (syncD D).2) ∧ ∃ F', DiskAt F' w' b (syncD D).1 ∧ Step F w F' w' := by
  have H := Lib.hid h
  have HC := Lib.hid (call_58 F w b D h hl)
  clear h hl
  cases hpw : powerD D with
  | none =>
    have HE : Hid (syncD D = (D, 70)) := by show _ = _; simp [syncD, hpw]
    rw [hpw] at HC
    rw [HE.out]
    clear hpw
    go_enter Tryd.func32, Tryd.ntmps32
    go_wp2_with (go_at_call 58; ((with_reducible refine Calls.mono HC.out ?_); rintro e w1 ⟨rfl, rfl⟩))
    go_ret
    exact ⟨rfl, F, H.out, Step.refl F _⟩
  | some D' =>
    have HE : Hid (syncD D = ({ D' with syn := D'.now, pcs := [] }, 0)) := by show _ = _; simp [syncD, hpw]
    obtain ⟨e1, e2, e3⟩ := power_left hpw
    rw [hpw] at HC
    rw [HE.out]
    rw [← e1] at hn
    clear hpw e1 e2 e3
    obtain ⟨now, syn, pcs, f, l⟩ := D'
    simp only at hn
    go_enter Tryd.func32, Tryd.ntmps32
    go_wp2_with (go_at_call 58; ((with_reducible refine Calls.mono HC.out ?_); rintro e w1 ⟨rfl, ⟨vn, vs, vp, c, hD⟩, ho1⟩; have HD := Lib.hid hD; have HO1 := Lib.hid ho1; have c0 : w1.cell? ⟨b, 0, none⟩ = some vn := (by rw [blk_cell hD.blk]; rfl); have c1 : w1.cell? ⟨b, 1, none⟩ = some vs := (by rw [blk_cell hD.blk]; rfl); clear hD ho1))
    obtain ⟨na, nc, rfl⟩ := row_shape HD.out.now
    obtain ⟨sa, sc, rfl⟩ := row_shape HD.out.syn
    have hS : Hid (w1.drew.cell? ⟨b, 0, none⟩ = some (.slice na now.length nc) ∧ w1.drew.cell? ⟨b, 1, none⟩ = some (.slice sa syn.length sc)) := ⟨c0, c1⟩
    clear c0 c1
    refine wp_region_T (fun w' => w'.cell? ⟨b, 0, none⟩ = some (.slice na now.length nc) ∧ w'.cell? ⟨b, 1, none⟩ = some (.slice sa syn.length sc)) 13 (by kernel_rfl) ?_
    refine anyT_take (i := 0) (v := ?_) rfl (by kernel_rfl) (by kernel_rfl) (by kernel_rfl) (by kernel_rfl) (by decide) (fun _ _ _ h => h) hS.out (Or.inl ⟨by rfl, ?_⟩) ?_
    rotate_left
    · intro w' h; obtain ⟨h0, h1⟩ := h; go_simp; rfl
    refine anyT_take (i := 1) (v := ?_) rfl (by kernel_rfl) (by kernel_rfl) (by kernel_rfl) (by kernel_rfl) (by decide) (fun _ _ _ h => h) hS.out (Or.inl ⟨by rfl, ?_⟩) ?_
    rotate_left
    · intro w' h; obtain ⟨h0, h1⟩ := h; go_simp; rfl
    refine anyT_take (i := 2) (v := ?_) rfl (by kernel_rfl) (by kernel_rfl) (by kernel_rfl) (by kernel_rfl) (by decide) (fun _ _ _ h => h) hS.out (Or.inl ⟨by rfl, ?_⟩) ?_
    rotate_left
    · intro w' h; obtain ⟨h0, h1⟩ := h; go_simp; rfl
    refine anyT_take (i := 3) (v := ?_) rfl (by kernel_rfl) (by kernel_rfl) (by kernel_rfl) (by kernel_rfl) (by decide) (fun _ _ _ h => h) hS.out (Or.inl ⟨by rfl, ?_⟩) ?_
    rotate_left
    · intro w' h; obtain ⟨h0, h1⟩ := h; go_simp; rfl
    refine anyT_take (i := 4) (v := ?_) rfl (by kernel_rfl) (by kernel_rfl) (by kernel_rfl) (by kernel_rfl) (by decide) (fun _ _ _ h => h) hS.out (Or.inl ⟨by rfl, ?_⟩) ?_
    rotate_left
    · intro w' h; obtain ⟨h0, h1⟩ := h; go_simp; rfl
    refine anyT_take (i := 5) (v := ?_) rfl (by kernel_rfl) (by kernel_rfl) (by kernel_rfl) (by kernel_rfl) (by decide) (fun _ _ _ h => h) hS.out (Or.inl ⟨by rfl, ?_⟩) ?_
    rotate_left
    · intro w' h; obtain ⟨h0, h1⟩ := h; go_simp; rfl
    refine anyT_take (i := 6) (v := ?_) rfl (by kernel_rfl) (by kernel_rfl) (by kernel_rfl) (by kernel_rfl) (by decide) (fun _ _ _ h => h) hS.out (Or.inl ⟨by rfl, ?_⟩) ?_
    rotate_left
    · intro w' h; obtain ⟨h0, h1⟩ := h; go_simp; rfl
    refine anyT_take (i := 7) (v := ?_) rfl (by kernel_rfl) (by kernel_rfl) (by kernel_rfl) (by kernel_rfl) (by decide) (fun _ _ _ h => h) hS.out (Or.inl ⟨by rfl, ?_⟩) ?_
    rotate_left
    · intro w' h; obtain ⟨h0, h1⟩ := h; go_simp; rfl
    refine anyT_take (i := 8) (v := ?_) rfl (by kernel_rfl) (by kernel_rfl) (by kernel_rfl) (by kernel_rfl) (by decide) (fun _ _ _ h => h) hS.out (Or.inl ⟨by rfl, ?_⟩) ?_
    rotate_left
    · intro w' h; obtain ⟨h0, h1⟩ := h; go_simp; rfl
    refine anyT_take (i := 9) (v := ?_) rfl (by kernel_rfl) (by kernel_rfl) (by kernel_rfl) (by kernel_rfl) (by decide) (fun _ _ _ h => h) hS.out (Or.inl ⟨by rfl, ?_⟩) ?_
    rotate_left
    · intro w' h; obtain ⟨h0, h1⟩ := h; go_simp; rfl
    obtain ⟨v', w5, hr, h2, h3⟩ := run_from8 w1.drew (.slice sa 0 sc) [] (row_zero HD.out.syn) (.slice na now.length nc) now (From.row HD.out.now) (by simp; omega)
    rw [List.nil_append] at h2
    have hbl := blk_lt HD.out.blk
    have hnb : (Value.slice sa 0 sc).ownBlock ≠ some b := by rw [own_len sa 0 sc syn.length sc]; exact HD.out.ne.2.1
    have hB5 : w5.heap[b]? = some (.cells (diskCells (.slice na now.length nc) (.slice sa syn.length sc) vp c f l) 71 (0, 0)) := (h3.grown.block b hbl (fun e => hnb e.symm)).trans HD.out.blk
    have HS5 : Hid (w5.cell? ⟨b, 0, none⟩ = some (.slice na now.length nc) ∧ w5.cell? ⟨b, 1, none⟩ = some (.slice sa syn.length sc)) := ⟨by rw [blk_cell hB5]; rfl, by rw [blk_cell hB5]; rfl⟩
    have k1 : w5.cell? ⟨b, 1, none⟩ = some (.slice sa syn.length sc) := HS5.out.2
    have f1 : w5.frozen? ⟨b, 1, none⟩ = false := blk_frozen hB5 1
    go_simp
    refine anyT_do (i := 10) rfl (by kernel_rfl) rfl (fun K hK => ?_)
    refine wp_run _ _ 51 51 51 rfl rfl _ _ v' w5 (by rfl) (by rfl) hr ?_
    refine hK _ _ (fun _ => HS5.out) ?_
    clear hK K
    have HR := Lib.hid h2
    have H3 : Hid (Onto w1 w5 (.slice sa 0 sc) v') := ⟨⟨h3.grown.os, h3.grown.tape, h3.grown.output, h3.grown.size, h3.grown.block⟩, h3.at_, h3.big⟩
    have HB5 := Lib.hid hB5
    obtain ⟨va, vc, rfl⟩ := row_shape h2
    clear hr h2 h3 hB5 hS
    refine anyT_do (i := 11) rfl (by kernel_rfl) rfl (fun K hK => ?_)
    go_simp
    refine hK _ _ (fun _ => HS5.out) ?_
    clear hK K
    refine anyT_do (i := 12) rfl (by kernel_rfl) rfl (fun K hK => ?_)
    go_simp
    refine hK _ _ (fun _ => HS5.out) ?_
    clear hK K
    refine anyT_do (i := 13) rfl (by kernel_rfl) rfl (fun K hK => ?_)
    go_simp
    refine hK _ _ (fun h => absurd rfl h) ?_
    clear hK K
    refine anyT_done (by kernel_rfl) ?_ _
    have HB6 : Hid ((w5.setCell ⟨b, 1, none⟩ (.slice va now.length vc)).heap[b]? = some (.cells #[.slice na now.length nc, .slice va now.length vc, vp, .int .i64 c, .bool f, .int .i64 l] 71 (0, 0))) := (blk_set HB5.out 1 _).trans rfl
    go_wp2_with (go_at_call 59; ((with_reducible refine Calls.mono (settle_59 _ b (.slice na now.length nc) (.slice va now.length vc) vp (.int .i64 c) (.bool f) (.int .i64 l) HB6.out) ?_); rintro e w6 ⟨rfl, hb6, ho6⟩; have HB7 := Lib.hid hb6; have HO7 := Lib.hid ho6; clear hb6 ho6))
    go_ret
    obtain ⟨F', hd, hs⟩ := HD.out.sync HR.out H3.out (own_len _ _ _ _ _) ((Only.setCell (Only.refl b w5) 1 _).trans HO7.out) HB7.out
    exact ⟨rfl, F', ⟨_, _, _, _, hd⟩, (Step.of_only HO1.out H.out.fb).trans hs⟩
set_option maxHeartbeats 1000000 in
theorem size_34 (F : Nat → Prop) (w : World) (b : Nat) (D : DiskD) (h : DiskAt F w b D) :
    Calls Tryd.prog 34 #[.pointer (some ⟨b, 0, none⟩)] w fun e w' => e = .returned (.int .i64 D.now.length) ∧ w' = w := by
  obtain ⟨vn, vs, vp, c, hD⟩ := h
  have c0 : w.cell? ⟨b, 0, none⟩ = some vn := by rw [blk_cell hD.blk]; rfl
  obtain ⟨na, nc, rfl⟩ := row_shape hD.now
  clear hD
  go_enter Tryd.func34, Tryd.ntmps34
  go_wp2_with fail
  go_ret
  exact ⟨rfl, rfl⟩
def newD : DiskD := ⟨[], [], [], false, 0⟩
set_option maxHeartbeats 1000000 in
theorem new_12 (w : World) : Calls Tryd.prog 12 #[] w fun e w' => e = .returned (.pointer (some ⟨w.heap.size, 0, none⟩)) ∧ DiskAt (fun k => k = w.heap.size) w' w.heap.size newD ∧ Below w.heap.size w w' ∧ w'.heap.size = w.heap.size + 1 := by
  go_enter Tryd.func12, Tryd.ntmps12
  go_wp2_with fail
  go_ret
  refine ⟨rfl, ⟨.slice none 0 0, .slice none 0 0, .slice none 0 0, 0, ⟨heap_alloc_new w _, World.ownsRow_nil _ _ _ _, World.ownsRow_nil _ _ _ _, fun k hk => (by cases hk), ⟨⟨[], rfl, World.ownsRow_nil _ _ _ _, by simp⟩⟩, rfl, fun k hk => (by cases hk), fun k hk => (by cases hk), fun k hk => (by cases hk), fun k hk => by simp [hk]⟩⟩, alloc_below w _, by simp⟩
set_option maxHeartbeats 1000000 in
theorem fail_23 (F : Nat → Prop) (w : World) (b : Nat) (D : DiskD) (h : DiskAt F w b D) (n : Int) :
    Calls Tryd.prog 23 #[.pointer (some ⟨b, 0, none⟩), .int .i64 n] w fun e w' => e = .returned (.tuple #[]) ∧ DiskAt F w' b { D with failing := decide (-1 < n), left := n } ∧ Only b w w' := by
  obtain ⟨vn, vs, vp, c, hD⟩ := h
  have c4 : w.cell? ⟨b, 4, none⟩ = some (.bool D.failing) := by rw [blk_cell hD.blk]; rfl
  have c5 : w.cell? ⟨b, 5, none⟩ = some (.int .i64 D.left) := by rw [blk_cell hD.blk]; rfl
  have f4 : w.frozen? ⟨b, 4, none⟩ = false := blk_frozen hD.blk 4
  have f5 : w.frozen? ⟨b, 5, none⟩ = false := blk_frozen hD.blk 5
  have HD := Lib.hid hD
  clear hD
  go_enter Tryd.func23, Tryd.ntmps23
  go_wp2_with fail
  go_end0
  exact ⟨rfl, ⟨vn, vs, vp, c, HD.out.only (Only.setCell (Only.setCell (Only.refl b w) 4 _) 5 _) ((blk_set (blk_set HD.out.blk 4 _) 5 _).trans rfl)⟩, Only.setCell (Only.setCell (Only.refl b w) 4 _) 5 _⟩
end Go.Proofs.YtgdkdihedgiegaaDoor

namespace Go.Proofs.YtgdkdihedgiegaaDoor
open Go.RowKit

/-- 'string(b)' of bytes that are known. -/
theorem conv_back (w : World) (a : Addr) (cap : Nat) (l : Bs) (hc : ∀ j u, (bv l)[j]? = some u → w.cell? (a.add j) = some u) : (convert 51 9 (.slice (some a) l.length cap)).run Tryd.prog w = .ok (S l) w :=
  run_convert_bytes_back w 51 9 5 a cap l Tryd.underlying51 Tryd.underlying5 Tryd.underlying9 (fun j hj => hc j _ (by simp [bv, hj]))
set_option maxHeartbeats 1000000 in
set_option maxRecDepth 100000 in
theorem read_33 (F : Nat → Prop) (w : World) (b : Nat) (D : DiskD) (h : DiskAt F w b D) (hn : D.now.length ≤ 20000000) :
    Calls Tryd.prog 33 #[.pointer (some ⟨b, 0, none⟩), .int .i64 0, .int .i64 D.now.length] w fun e w' => e = .returned (S D.now) ∧ Below w.heap.size w w' := by
  obtain ⟨vn, vs, vp, c, hD⟩ := h
  have c0 : w.cell? ⟨b, 0, none⟩ = some vn := by rw [blk_cell hD.blk]; rfl
  obtain ⟨now, syn, pcs, f, l⟩ := D
  simp only at hn
  have hrow : ByteRow w vn now := hD.now
  clear hD
  rcases hrow.2 with ⟨rfl, hl⟩ | ⟨g, cap, cur, rfl, hb, hg, hle, hm, hs, ht⟩
  · obtain rfl : now = [] := List.eq_nil_of_length_eq_zero hl
    clear hl hrow
    go_enter Tryd.func33, Tryd.ntmps33
    go_wp2_with fail
    go_ret
    exact ⟨rfl, Below.refl _ _⟩
  · by_cases h0 : now = []
    · subst h0
      clear hrow ht hs hg hm hb hle
      go_enter Tryd.func33, Tryd.ntmps33
      go_wp2_with fail
      go_ret
      exact ⟨rfl, Below.refl _ _⟩
    · have hl0 : 0 < now.length := List.length_pos_iff.2 h0
      have hcv : ∀ k, (convert 51 9 (.slice (some ⟨g, 0, none⟩) now.length cap)).run Tryd.prog (w.drewN k) = .ok (S now) (w.drewN k) := fun k => conv_back (w.drewN k) ⟨g, 0, none⟩ cap now (fun j u hu => by rw [← hrow.cells (g := g) rfl j u hu]; simp)
      have hle2 : (now.length : Int) ≤ cap := by omega
      have hl1 : (1 : Int) ≤ now.length := by omega
      have hl2 : ¬ (now.length : Int) < 1 := by omega
      clear hrow ht hs hg hm hb
      go_enter Tryd.func33, Tryd.ntmps33
      go_wp2_with fail
      go_quiet (fail)
      go_wp2_with fail

      go_ret
      exact ⟨rfl, ⟨rfl, rfl, rfl, Nat.le_refl _, fun _ _ => rfl⟩⟩
end Go.Proofs.YtgdkdihedgiegaaDoor
