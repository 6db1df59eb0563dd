/-
  The walk of Crash: what is left of a disk after a power failure.
-/
import Derived.Test.YtgdkdihedgiegaaDoorV25
namespace Go.Proofs.YtgdkdihedgiegaaDoor
open Go.RowKit

/-- Whether a piece survives. -/
def survR (sv : List Int) (k : Nat) : Bool := if sv = [] then false else decide (Int.tmod (sv.getD (k % sv.length) 0) 2 ≠ 0)
def crashF (sv : List Int) : Nat → List (Nat × Bs) → Bs → Bs
  | _, [], c => c
  | k, p :: ps, c => crashF sv (k + 1) ps (if survR sv k = true then putR c p.1 p.2 else c)
def crashR (D : DiskD) (sv : List Int) : Bs := crashF sv 0 D.pcs D.syn
theorem crash_none (D : DiskD) (sv : List Int) (h : D.pcs = []) : crashR D sv = D.syn := by unfold crashR; rw [h]; rfl
theorem crash_on (c : Bs) (l : Int) (sv : List Int) : crashR (onD c l) sv = c := crash_none _ _ rfl
theorem crash_step (sv : List Int) (ps : List (Nat × Bs)) (k : Nat) (c : Bs) (h : k < ps.length) : crashF sv k (ps.drop k) c = crashF sv (k + 1) (ps.drop (k + 1)) (if survR sv k = true then putR c ps[k].1 ps[k].2 else c) := by
  rw [List.drop_eq_getElem_cons h]; rfl
/-- A slice of numbers in memory. -/
abbrev NumsAt (w : World) (v : Value) (l : List Int) : Prop := SliceAt 0 w.heap.size w v l.length (l.map (Value.int .i64))
theorem NumsAt.below {w w' : World} {v : Value} {l : List Int} (h : NumsAt w v l) (hb : Below w.heap.size w w') : NumsAt w' v l := (h.kept (bkept hb (Nat.le_refl _))).mono (Nat.le_refl _) hb.size
theorem flat2_get (qs : List ((Nat × Bs) × Value)) (k : Nat) (h : k < qs.length) : (qs.flatMap pcCells)[k * 2]? = some (.int .i64 qs[k].1.1) ∧ (qs.flatMap pcCells)[k * 2 + 1]? = some qs[k].2 := by
  induction qs generalizing k with
  | nil => simp at h
  | cons q qs ih =>
    cases k with
    | zero => simp [pcCells]
    | succ k =>
      have := ih k (by simpa using h)
      rw [show (k + 1) * 2 = k * 2 + 2 from by omega]
      simp only [List.flatMap_cons, pcCells, List.cons_append, List.nil_append, List.getElem?_cons_succ, List.getElem_cons_succ]
      exact this
theorem onto_own {w w' : World} {v v' : Value} {B : Nat} (h : Onto w w' v v') (hv : ∀ g, v.ownBlock = some g → B ≤ g) (hB : B ≤ w.heap.size) : ∀ g, v'.ownBlock = some g → B ≤ g := by
  intro g hg
  rcases h.at_ with h1 | h1
  · exact hv g (h1 ▸ hg)
  · rw [h1] at hg; injection hg with hg; omega
set_option maxHeartbeats 4000000 in
set_option maxRecDepth 100000 in
theorem crash_28 (F : Nat → Prop) (w : World) (b : Nat) (D : DiskD) (h : DiskAt F w b D) (sv : List Int) (nv : Value) (hn : NumsAt w nv sv) (hsl : sv.length ≤ 1000000) (hsy : D.syn.length ≤ 1000000) (hpc : ∀ p ∈ D.pcs, p.1 ≤ 500000 ∧ p.2.length ≤ 500000) (hpl : D.pcs.length ≤ 1000000) :
    Calls Tryd.prog 28 #[.pointer (some ⟨b, 0, none⟩), nv] w fun e w' => e = .returned (.pointer (some ⟨w.heap.size, 0, none⟩)) ∧ ∃ F', DiskAt F' w' w.heap.size (onD (crashR D sv) 0) ∧ Below w.heap.size w w' ∧ ∀ k, F' k → w.heap.size ≤ k := by
  obtain ⟨vn, vs, vp, c0, hR⟩ := h
  have HR := Lib.hid hR
  obtain ⟨qs, hq1, hq2, hq3⟩ := hR.pcs
  have hqn : qs.length = D.pcs.length := by rw [← hq1, List.length_map]
  obtain ⟨pa, pc, rfl⟩ := row_shape hq2
  obtain ⟨sa, sc, rfl⟩ := row_shape hR.syn
  have hql : qs.length ≤ 1000000 := by rw [hqn]; exact hpl
  have HQ1 := Lib.hid hq1
  have HQ2 := Lib.hid hq2
  have HQ3 := Lib.hid hq3
  have HQN := Lib.hid hqn
  have HN := Lib.hid hn
  have HPC := Lib.hid hpc
  obtain ⟨na, ncap, rfl, _⟩ := id hn
  clear hR hq1 hq2 hq3 hn hpc hqn
  go_enter Tryd.func28, Tryd.ntmps28
  go_wp2_with fail
  ((with_reducible refine Calls.mono (new_12 w) ?_); rintro e w1 ⟨rfl, hd1, hb1, hz1⟩)
  have hbl := HR.out.blk
  have hbw := blk_lt hbl
  have hbl1 := (hb1.block b hbw).trans hbl
  have s1 : w1.cell? ⟨b, 1, none⟩ = some (.slice sa D.syn.length sc) := by rw [blk_cell hbl1]; rfl
  have s2 : w1.cell? ⟨b, 2, none⟩ = some (.slice pa qs.length pc) := by rw [blk_cell hbl1]; rfl
  have a1 : ∀ o, (w1.alloc o).cell? ⟨b, 1, none⟩ = some (.slice sa D.syn.length sc) := fun o => by rw [alloc_old _ _ _ _ (blk_lt hbl1)]; exact s1
  have a2 : ∀ o, (w1.alloc o).cell? ⟨b, 2, none⟩ = some (.slice pa qs.length pc) := fun o => by rw [alloc_old _ _ _ _ (blk_lt hbl1)]; exact s2
  have HD1 := Lib.hid hd1
  have HB1 := Lib.hid hb1
  have HZ1 := Lib.hid hz1
  have HBL1 := Lib.hid hbl1
  have HBW := Lib.hid hbw
  have hlit : ByteRow (w1.alloc (.cells #[] 5)) (.slice (some ⟨w1.heap.size, 0, none⟩) 0 0) [] := World.ownsRow_lit w1 #[] 0 (Nat.zero_le _) (by unfold maxLen; omega) rfl
  have HLIT := Lib.hid hlit
  have hsy0 : From (w1.alloc (.cells #[] 5)) (.slice sa D.syn.length sc) D.syn.length (bv D.syn) := (From.row HR.out.syn).keep (fun p x hx => by
    have hp := cell_lt hx
    rw [((alloc_below w1 (.cells #[] 5))).cell (by rw [hz1]; omega), hb1.cell hp]; exact hx)
  have HSY := Lib.hid hsy0
  clear hd1 hb1 hz1 hbl hbw hbl1 hlit hsy0
  go_wp2_with (at_builtin; refine wpList_bytes rfl _ _ rfl rfl (.slice (some ⟨w1.heap.size, 0, none⟩) 0 0) (.slice sa D.syn.length sc) [] D.syn rfl rfl HLIT.out HSY.out (by simp; omega) ?_; intro v3 w3 HR3 HO3; have HR3' : Hid (ByteRow w3 v3 D.syn) := HR3.out; obtain ⟨va3, vc3, hv3⟩ := row_shape HR3'.out; subst hv3; have HW3 : Hid (∀ g, (.slice va3 D.syn.length vc3 : Value).ownBlock = some g → w.heap.size + 1 ≤ g) := onto_own HO3.out (fun g hg => by simp [Value.ownBlock] at hg; have := HZ1.out; omega) (by have := HZ1.out; simp; omega); have HB3 : Hid (Below (w.heap.size + 1) w1 w3) := below_onto ((alloc_below w1 (.cells #[] 5)).mono (by have := HZ1.out; omega)) HO3.out (by have := HZ1.out; simp; omega) (fun g hg => by simp [Value.ownBlock] at hg; have := HZ1.out; omega); have s3 : w3.cell? ⟨b, 2, none⟩ = some (.slice pa qs.length pc) := (by rw [HB3.out.cell (p := ⟨b, 2, none⟩) (by have := HBW.out; show b < _; omega), blk_cell HBL1.out]; rfl))
  go_loopw [6, 25] (fun cv i wr => ∃ (k : Nat) (c : Bs) (va : Option Addr) (vc : Nat), cv = .slice va c.length vc ∧ i = .int .i64 k ∧ k ≤ qs.length ∧ Hid (crashF sv k (D.pcs.drop k) c = crashR D sv) ∧ Hid (c.length ≤ 1000000) ∧ Hid (ByteRow wr (.slice va c.length vc) c) ∧ Hid (∀ g, (.slice va c.length vc : Value).ownBlock = some g → w.heap.size + 1 ≤ g) ∧ Hid (Below (w.heap.size + 1) w1 wr)) (fun _ i _ => qs.length - (intOf i).toNat)
  case atStart => exact ⟨0, D.syn, va3, vc3, rfl, rfl, Nat.zero_le _, rfl, hsy, HR3'.out, HW3.out, HB3.out⟩
  case round =>
    clear s1 s2 s3 a1 a2 HLIT HSY HB3 HW3 HR3' HR3 HO3
    obtain ⟨k, c, va, vc, rfl, rfl, hk, HF, HCL, HRW, HOW, HBB⟩ := hrel
    by_cases hlt : k < qs.length
    · have hold : ∀ j, j < w.heap.size → wr.heap[j]? = w.heap[j]? := fun j hj => (HBB.out.block j (by omega)).trans (HB1.out.block j hj)
      obtain ⟨hc0, hc1⟩ := flat2_get qs k hlt
      obtain ⟨gt, htx, hT⟩ := HQ3.out qs[k] (List.getElem_mem hlt)
      have hps : D.pcs[k]? = some qs[k].1 := by rw [← HQ1.out, List.getElem?_map, List.getElem?_eq_getElem hlt]; rfl
      have hkp : k < D.pcs.length := by rw [← HQN.out]; exact hlt
      have hpk : D.pcs[k] = qs[k].1 := by rw [List.getElem?_eq_getElem hkp] at hps; injection hps
      have hst := crash_step sv D.pcs k c hkp
      rw [hpk] at hst
      have hbnd := HPC.out qs[k].1 (by rw [← hpk]; exact List.getElem_mem hkp)
      obtain ⟨pg, hpg, hpl1⟩ : ∃ g, pa = some ⟨g, 0, none⟩ ∧ ∀ j u, (qs.flatMap pcCells)[j]? = some u → w.cell? ⟨g, j, none⟩ = some u := by
        rcases HQ2.out.2 with ⟨he, _⟩ | ⟨g, cap, cur, he, _⟩
        · injection he with _ he _; omega
        · injection he with he; exact ⟨g, he, fun j u hu => by have := HQ2.out.cells (g := g) (by rw [he]; rfl) j u hu; rwa [add_lit, Nat.zero_add] at this⟩
      subst hpg
      have k0 := hpl1 _ _ hc0
      have k1 := hpl1 _ _ hc1
      have hpgl : pg < w.heap.size := cell_lt k0
      have e0 : wr.cell? ⟨pg, k * 2, none⟩ = some (.int .i64 qs[k].1.1) := (World.cell?_of_block (a := ⟨pg, k * 2, none⟩) (hold pg hpgl)).trans k0
      have e1 : wr.cell? ⟨pg, k * 2 + 1, none⟩ = some qs[k].2 := (World.cell?_of_block (a := ⟨pg, k * 2 + 1, none⟩) (hold pg hpgl)).trans k1
      have hgl : gt < w.heap.size := HR.out.lt gt hT.2.2
      have HTX := Lib.hid (htx.keep (hold gt hgl))
      obtain ⟨tcap, tcur, tfr, htv, _⟩ := id htx
      have HST := Lib.hid hst
      clear k0 k1 hc0 hc1 hps hpk hst hold hpl1 htx hT hpgl hkp
      generalize qs[k] = q at *
      obtain ⟨⟨po, pt⟩, pv⟩ := q
      simp only at *
      subst htv
      have HOLD : Hid (∀ j, j < w.heap.size → wr.heap[j]? = w.heap[j]?) := fun j hj => (HBB.out.block j (by omega)).trans (HB1.out.block j hj)
      have HWS : Hid (w.heap.size + 1 ≤ wr.heap.size) := by have h1 := HZ1.out; have h2 := HBB.out.size; show _ ≤ _; omega
      have ha := alloc_below wr (.cells #[.int .i64 po, .slice (some ⟨gt, 0, none⟩) pt.length tcap] 93)
      have HA := Lib.hid (btr HBB.out ha HWS.out)
      have HRA := Lib.hid (row_far HRW.out (fun g hg => ha.block g (row_lt HRW.out g hg)))
      have HTA := Lib.hid (HTX.out.keep (ha.block gt (Nat.lt_of_lt_of_le hgl (Nat.le_trans (Nat.le_succ _) HWS.out)))).src
      clear ha
      by_cases hs0 : sv = []
      · have hs1 : sv.length = 0 := by rw [hs0]; rfl
        have hst : crashF sv (k + 1) (D.pcs.drop (k + 1)) c = crashR D sv := by
          have h1 := HST.out
          rw [if_neg (by unfold survR; rw [if_pos hs0]; decide)] at h1
          rw [← h1]; exact HF.out
        have HST2 := Lib.hid hst
        clear hst hs0
        go_wp2_with fail
        go_roundw
        case rel => exact ⟨k + 1, c, va, vc, rfl, by go_num, hlt, HST2.out, HCL.out, HRA.out, HOW.out, HA.out⟩
        case measure => simp [intOf]; omega
      · have hs1 : 0 < sv.length := by cases sv; exact absurd rfl hs0; simp
        obtain ⟨z, hz⟩ : ∃ z, z = sv.getD (k % sv.length) 0 := ⟨_, rfl⟩
        have hm := Nat.mod_lt k hs1
        obtain ⟨m, hmm⟩ : ∃ m, m = k % sv.length := ⟨_, rfl⟩
        rw [← hmm] at hm hz
        obtain ⟨nb, noff, rfl, hnb, hnc⟩ : ∃ nb noff, na = some ⟨nb, noff, none⟩ ∧ nb < w.heap.size ∧ w.cell? ⟨nb, noff + m, none⟩ = some (.int .i64 z) := by
          obtain ⟨a', cap', hv, hx⟩ := HN.out
          injection hv with h1 h2 h3
          subst h1 h3
          obtain ⟨nb, noff, rfl, _, h4, h5⟩ := hx (fun e => hs0 (by simpa using e))
          exact ⟨nb, noff, rfl, h4, h5 m _ (by rw [List.getElem?_map, hz, List.getD_eq_getElem?_getD, List.getElem?_eq_getElem hm]; rfl)⟩
        have hal : ∀ o, (wr.alloc o).cell? ⟨nb, noff + m, none⟩ = some (.int .i64 z) := fun o => by
          rw [alloc_old _ _ _ _ (Nat.lt_of_lt_of_le hnb (Nat.le_trans (Nat.le_succ _) HWS.out))]
          exact (World.cell?_of_block (a := ⟨nb, noff + m, none⟩) (HOLD.out nb hnb)).trans hnc
        have hr1 : (k : Int).tmod sv.length = (m : Int) := by rw [hmm]; rw [Int.tmod_eq_emod_of_nonneg (by omega)]; rfl
        have hr2 : (k : Int) % (sv.length : Int) = (m : Int) := by rw [hmm]; rfl
        have hmi : (m : Int) < sv.length := by omega
        have hn0 : ((sv.length : Int) == 0) = false := by simp; omega
        have hsi : (0 : Int) < sv.length := by omega
        have HSV : Hid (survR sv k = decide (Int.tmod z 2 ≠ 0)) := by show _ = _; unfold survR; rw [if_neg hs0, hz, hmm]
        obtain ⟨t, ht⟩ : ∃ t, z.tmod 2 = t := ⟨_, rfl⟩
        have HTT := Lib.hid ht
        clear hz hmm hs0 hnc
        by_cases ht0 : t = 0
        · subst ht0
          have hst : crashF sv (k + 1) (D.pcs.drop (k + 1)) c = crashR D sv := by
            have h1 := HST.out
            rw [if_neg (by rw [HSV.out, HTT.out]; decide)] at h1
            rw [← h1]; exact HF.out
          have HST2 := Lib.hid hst
          clear hst
          go_wp2_with fail
          go_roundw
          case rel => exact ⟨k + 1, c, va, vc, rfl, by go_num, hlt, HST2.out, HCL.out, HRA.out, HOW.out, HA.out⟩
          case measure => simp [intOf]; omega
        · have htb : (t == 0) = false := by simpa using ht0
          have hst : crashF sv (k + 1) (D.pcs.drop (k + 1)) (putR c po pt) = crashR D sv := by
            have h1 := HST.out
            rw [if_pos (by rw [HSV.out, HTT.out]; simpa using ht0)] at h1
            rw [← h1]; exact HF.out
          have HST2 := Lib.hid hst
          have HAP : Hid (Apart (.slice (some ⟨gt, 0, none⟩) pt.length tcap) (.slice va c.length vc)) := fun j hj hv => by
            have hj : gt = j := by simpa [Value.ownBlock] using hj
            have := HOW.out j hv
            omega
          clear hst
          have hcl := HCL.out
          have HLEN : Hid ((putR c po pt).length ≤ 1000000) := by show _ ≤ _; rw [put_len]; omega
          go_wp2_with fail
          ((with_reducible refine Calls.mono (put_52 _ (.slice va c.length vc) (.slice (some ⟨gt, 0, none⟩) pt.length tcap) c pt po HRA.out HTA.out HAP.out (by omega) (by omega) (by omega)) ?_); rintro e w5 ⟨v5, rfl, hrow5, hon5⟩)
          obtain ⟨va5, vc5, rfl⟩ := row_shape hrow5
          have HB5 := Lib.hid (below_onto HA.out hon5 (by have := HWS.out; simp; omega) HOW.out)
          have HO5 := Lib.hid (onto_own hon5 HOW.out (by have := HWS.out; simp; omega))
          have HR5 := Lib.hid hrow5
          clear hrow5 hon5
          go_wp2_with fail
          go_roundw
          case rel => exact ⟨k + 1, putR c po pt, va5, vc5, rfl, by go_num, hlt, HST2.out, HLEN.out, HR5.out, HO5.out, HB5.out⟩
          case measure => simp [intOf]; omega
    · obtain rfl : k = qs.length := by omega
      have hfin : c = crashR D sv := by
        have h1 := HF.out
        rw [List.drop_of_length_le (by rw [HQN.out]; exact Nat.le_refl _)] at h1
        exact h1
      have HFIN := Lib.hid hfin
      obtain ⟨vn1, vs1, vp1, c1, hR1⟩ := HD1.out
      have hblk : wr.heap[w.heap.size]? = some (.cells (diskCells vn1 vs1 vp1 c1 false 0) 71 (0, 0)) := (HBB.out.block w.heap.size (by omega)).trans hR1.blk
      have z0 : wr.cell? ⟨w.heap.size, 0, none⟩ = some vn1 := by rw [blk_cell hblk]; rfl
      have f0 : wr.frozen? ⟨w.heap.size, 0, none⟩ = false := blk_frozen hblk 0
      have HBLK := Lib.hid hblk
      have HVP : Hid (w1.ownsRow 0 93 2 vp1 0 [] ∧ vp1.ownBlock = none) := by
        obtain ⟨qs', h1, h2, _⟩ := hR1.pcs
        have h3 : qs' = [] := by cases qs' with | nil => rfl | cons => simp [newD] at h1
        subst h3
        refine ⟨h2, ?_⟩
        cases hv : vp1.ownBlock with
        | none => rfl
        | some j => exact absurd (hR1.fp j hv ▸ hv) hR1.ne.2.2
      clear hblk hR1 hfin
      go_upto_region 12 with fail
      have ho := (Only.refl w.heap.size wr).setCell 0 (.slice va c.length vc)
      have hblk2 : (wr.setCell ⟨w.heap.size, 0, none⟩ (.slice va c.length vc)).heap[w.heap.size]? = some (.cells (diskCells (.slice va c.length vc) vs1 vp1 c1 false 0) 71 (0, 0)) := by
        simp only [World.setCell, Array.getElem?_modify, if_true, HBLK.out]
        rfl
      have hsz := ho.size
      generalize wr.setCell ⟨w.heap.size, 0, none⟩ (.slice va c.length vc) = w5 at *
      have hrow5 : ByteRow w5 (.slice va c.length vc) c := row_far HRW.out (fun g hg => ho.block g (by have := HOW.out g hg; omega))
      have HB5 : Hid (Below w.heap.size w w5) := (HB1.out.trans (HBB.out.mono (Nat.le_succ _))).trans (ho.below (Nat.le_refl _))
      have HS5 : Hid (w.heap.size + 1 ≤ w5.heap.size) := by have h1 := HZ1.out; have h2 := HBB.out.size; show _ ≤ _; omega
      have HLIT : Hid (ByteRow (w5.alloc (.cells #[] 5)) (.slice (some ⟨w5.heap.size, 0, none⟩) 0 0) []) := World.ownsRow_lit w5 #[] 0 (Nat.zero_le _) (by unfold maxLen; omega) rfl
      have ha := alloc_below w5 (.cells #[] 5)
      have HRA := Lib.hid (row_far hrow5 (fun g hg => ha.block g (row_lt hrow5 g hg)))
      have HBLKA : Hid ((w5.alloc (.cells #[] 5)).heap[w.heap.size]? = some (.cells (diskCells (.slice va c.length vc) vs1 vp1 c1 false 0) 71 (0, 0))) := (ha.block _ (by have := HS5.out; omega)).trans hblk2
      have HL5 := Lib.hid (row_lt hrow5)
      have HCL2 := HCL.out
      clear ho hsz hblk2 hrow5 ha HBLK z0 f0
      go_wp2_with (at_builtin; refine wpList_bytes rfl _ _ rfl rfl (.slice (some ⟨w5.heap.size, 0, none⟩) 0 0) (.slice va c.length vc) [] c rfl rfl HLIT.out (From.row HRA.out) (by simp; omega) ?_; intro v6 w6 HR6 HO6; have HR6' : Hid (ByteRow w6 v6 c) := HR6.out; obtain ⟨va6, vc6, hv6⟩ := row_shape HR6'.out; subst hv6; have hb6 := (HO6.out.grown.block w.heap.size (by have := HS5.out; simp; omega) (by have := HS5.out; simp [Value.ownBlock]; omega)).trans HBLKA.out; have q1 : w6.cell? ⟨w.heap.size, 1, none⟩ = some vs1 := (by rw [blk_cell hb6]; rfl); have g1 : w6.frozen? ⟨w.heap.size, 1, none⟩ = false := blk_frozen hb6 1; have HB6 := Lib.hid hb6; clear hb6)
      go_ret
      rw [← HFIN.out]
      have ho7 := (Only.refl w.heap.size w6).setCell 1 (.slice va6 c.length vc6)
      have hown6 : ∀ g, (.slice va6 c.length vc6 : Value).ownBlock = some g → w5.heap.size ≤ g := onto_own HO6.out (fun g hg => by simp [Value.ownBlock] at hg; omega) (by simp)
      have hb6 : Below w5.heap.size w5 w6 := below_onto (alloc_below w5 (.cells #[] 5)) HO6.out (by simp) (fun g hg => by simp [Value.ownBlock] at hg; omega)
      have hs5 := HS5.out
      have hlt := HL5.out
      have hblk7 : (w6.setCell ⟨w.heap.size, 1, none⟩ (.slice va6 c.length vc6)).heap[w.heap.size]? = some (.cells (diskCells (.slice va c.length vc) (.slice va6 c.length vc6) vp1 c1 false 0) 71 (0, 0)) := by
        simp only [World.setCell, Array.getElem?_modify, if_true, HB6.out]
        rfl
      have hlt6 := row_lt HR6'.out
      have hz6 := hb6.size
      refine ⟨rfl, fun k => k = w.heap.size ∨ (.slice va c.length vc : Value).ownBlock = some k ∨ (.slice va6 c.length vc6 : Value).ownBlock = some k, ⟨_, _, vp1, c1, ⟨hblk7, ?_, ?_, ?_, ?_, .inl rfl, fun k hk => .inr (.inl hk), fun k hk => .inr (.inr hk), fun k hk => ?_, ?_⟩⟩, ?_, ?_⟩
      · refine row_far HRA.out (fun g hg => ?_)
        have h1 := hlt g hg
        have h2 := HOW.out g hg
        rw [ho7.block g (by omega)]
        exact HO6.out.grown.block g (by simp; omega) (by simp [Value.ownBlock]; omega)
      · exact row_far HR6'.out (fun g hg => ho7.block g (by have := hown6 g hg; omega))
      · intro k hk hk2
        have h1 := hlt k hk
        have h2 := hown6 k hk2
        omega
      · exact ⟨[], rfl, ⟨rfl, by
          rcases HVP.out.1.2 with hn | ⟨g, cap, cur, hv, _⟩
          · exact .inl hn
          · have := HVP.out.2; rw [hv] at this; simp [Value.ownBlock] at this⟩, fun q hq => by simp at hq⟩
      · have := HVP.out.2; rw [this] at hk; cases hk
      · intro k hk
        rw [ho7.size]
        rcases hk with rfl | hk | hk
        · omega
        · have := hlt k hk; omega
        · exact hlt6 k hk
      · exact (HB5.out.trans (hb6.mono (by omega))).trans (ho7.below (Nat.le_refl _))
      · intro k hk
        rcases hk with rfl | hk | hk
        · exact Nat.le_refl _
        · have := HOW.out k hk; omega
        · have := hown6 k hk; omega
end Go.Proofs.YtgdkdihedgiegaaDoor
