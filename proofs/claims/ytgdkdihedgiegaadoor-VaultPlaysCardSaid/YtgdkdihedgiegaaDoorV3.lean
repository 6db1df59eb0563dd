/-
  The walk of do.
-/
import Derived.Test.YtgdkdihedgiegaaDoorV2
namespace Go.Proofs.YtgdkdihedgiegaaDoor
open Go.RowKit

set_option maxHeartbeats 4000000 in
set_option maxRecDepth 100000 in
theorem do_41 (F : Nat → Prop) (w : World) (bv b : Nat) (e m : Int) (br : Bool) (D : DiskD) (h : VD F w bv b e m br D) (hok : OkD D) (hpc : D.pcs.length ≤ 1000000) (sv : Value) (l : List (Nat × Bs)) (hl : StepsAt F w bv sv l) (hln : l.length ≤ 1000)
    (hs : ∀ q ∈ l, q.1 + q.2.length ≤ 16777216) : Calls Tryd.prog 41 #[.pointer (some ⟨bv, 0, none⟩), sv] w (RunPost F bv b e m br (runD D l) w) := by
  obtain ⟨qs, h1, h2, h3, h4⟩ := hl
  have hql : qs.length = l.length := by rw [← h1, List.length_map]
  have HQL := Lib.hid hql
  have H := Lib.hid h
  have HR := Lib.hid h2
  have HQ := Lib.hid h3
  have HN4 := Lib.hid h4
  have HS := Lib.hid hs
  have H1 := Lib.hid h1
  obtain ⟨a, cap, rfl⟩ := row_shape h2
  obtain ⟨n, hn⟩ : ∃ n, n = l.length := ⟨_, rfl⟩
  rw [← hn] at HR HN4 HQL hln ⊢
  have HN := Lib.hid hn
  have HOK := Lib.hid hok
  clear h h1 h2 h3 h4 hs hql hn hok
  go_enter Tryd.func41, Tryd.ntmps41
  go_wp2_with fail
  go_loopw [10] (fun i wr => ∃ (k : Nat) (Dk : DiskD) (Fk : Nat → Prop), i = .int .i64 k ∧ k ≤ n ∧ Hid (VD Fk wr bv b e m br Dk) ∧ Hid (Step F w Fk wr) ∧ Hid (OkD Dk) ∧ Hid (Dk.pcs.length ≤ 1000000) ∧ Hid (runD D l = runD Dk (l.drop k))) (fun i _ => n - (intOf i).toNat)
  case atStart => exact ⟨0, D, F, rfl, Nat.zero_le _, H.out, Step.refl F w, HOK.out, hpc, rfl⟩
  case round =>
    obtain ⟨k, Dk, Fk, rfl, hk, HV, HST, HO, HP, HRR⟩ := hrel
    by_cases hlt : k < n
    · have hkl : k < l.length := by rw [← HN.out]; exact hlt
      have hkq : k < qs.length := by rw [HQL.out]; exact hlt
      have hlq : l[k] = qs[k].1 := by
        have := congrArg (fun x : List (Nat × Bs) => x[k]?) H1.out
        simp only [List.getElem?_map, List.getElem?_eq_getElem hkq, List.getElem?_eq_getElem hkl, Option.map_some] at this
        injection this with this
        exact this.symm
      obtain ⟨off, s, hos⟩ : ∃ off s, l[k] = (off, s) := ⟨_, _, rfl⟩
      obtain ⟨fv, hfv⟩ : ∃ fv, qs[k].2 = fv := ⟨_, rfl⟩
      have hqk := (HQ.out qs[k] (List.getElem_mem hkq)).2
      rw [hfv, ← hlq, hos] at hqk
      have hqk := hqk.keep HST.out
      obtain ⟨p, rfl, b0, b1, b2, nf, _, _⟩ := hqk
      have hss : off + s.length ≤ 16777216 := by have := HS.out l[k] (List.getElem_mem hkl); rw [hos] at this; exact this
      rcases HR.out.2 with ⟨_, hn0⟩ | ⟨g, cp, cur, hv, _⟩
      · omega
      injection hv with hv1 hv2 hv3
      subst hv1 hv3
      have hcell : wr.cell? ⟨g, k, none⟩ = some (.func (.func 63) #[] #[.pointer (some ⟨p, 0, none⟩), .pointer (some ⟨p + 1, 0, none⟩), .pointer (some ⟨p + 2, 0, none⟩)]) := by
        rw [HST.out.cell (row_lt HR.out g rfl) (HN4.out g rfl)]
        have := HR.out.cells (g := g) rfl k qs[k].2 (by simp [hkq])
        rw [add_lit, Nat.zero_add] at this
        rw [this, hfv]
      have HC := Lib.hid (step_63 Fk wr p bv b e m br off s Dk HV.out.disk HV.out.vault HV.out.nf b0 b1 b2 nf HO.out hss HP.out)
      have hrun : runD Dk (l.drop k) = if (wsD Dk off s).2 = 0 then runD (wsD Dk off s).1 (l.drop (k + 1)) else wsD Dk off s := by
        rw [List.drop_eq_getElem_cons hkl, hos]; rfl
      have HRN := Lib.hid hrun
      have HSS := Lib.hid hss
      clear hfv hos hlq hkl hkq b0 b1 b2 nf hss hrun
      rcases ws_err Dk off s with hE | hE
      · have hrn := HRN.out
        rw [if_pos hE] at hrn
        have HRN2 := Lib.hid hrn
        have HPC2 := Lib.hid (ws_pcs Dk off s hE)
        have HOK2 := Lib.hid (HO.out.ws off s HSS.out)
        rw [hE] at HC
        clear hE hrn
        generalize (wsD Dk off s).1 = D2 at *
        go_wp2_with (go_at_call 63; ((with_reducible refine Calls.mono HC.out ?_); rintro e' w2 ⟨rfl, F2, hd2, hs2⟩; have HD2 := Lib.hid hd2; have HS2 := Lib.hid hs2; clear hd2 hs2))
        go_roundw
        case rel => exact ⟨k + 1, D2, F2, by go_num, hlt, HV.out.step HD2.out HS2.out, HST.out.trans HS2.out, HOK2.out, (by show _ ≤ _; rw [HPC2.out]; simp), HRR.out.trans HRN2.out⟩
        case measure => simp [intOf]; omega
      · have hrn := HRN.out
        rw [if_neg (by rw [hE]; decide)] at hrn
        have HRN2 := Lib.hid hrn
        have hpair : wsD Dk off s = ((wsD Dk off s).1, 70) := by rw [← hE]
        have HPR := Lib.hid hpair
        rw [hE] at HC
        clear hE hrn hpair
        generalize hD2 : (wsD Dk off s).1 = D2 at *
        clear hD2
        go_wp2_with (go_at_call 63; ((with_reducible refine Calls.mono HC.out ?_); rintro e' w2 ⟨rfl, F2, hd2, hs2⟩; have HV2 := Lib.hid (HV.out.step hd2 hs2); have HS2 := Lib.hid hs2; have k3 : w2.cell? ⟨bv, 3, none⟩ = some (.bool br) := (by rw [blk_cell HV2.out.vault]; rfl); have f3 : w2.frozen? ⟨bv, 3, none⟩ = false := blk_frozen HV2.out.vault 3; clear hd2 hs2))
        all_goals
          go_ret
          rw [HRR.out, HRN2.out, HPR.out]
          refine ⟨rfl, F2, ?_, (HST.out.trans HS2.out).more bv |>.trans (Step.only_more (Only.setCell (Only.refl bv w2) 3 _))⟩
          have ht : (br || decide ((70 : Int) = 70)) = true := by simp
          rw [ht]
          exact HV2.out.only (Only.setCell (Only.refl bv w2) 3 _) ((blk_set HV2.out.vault 3 _).trans rfl)
    · obtain rfl : k = n := by omega
      have hrun : runD D l = (Dk, 0) := by rw [HRR.out, HN.out, List.drop_length]; rfl
      have HX := Lib.hid hrun
      clear hrun
      go_wp2_with fail
      go_ret
      rw [HX.out]
      refine ⟨rfl, Fk, ?_, HST.out.more bv⟩
      have ht : (br || decide ((0 : Int) = 70)) = br := by simp
      rw [ht]
      exact HV.out
end Go.Proofs.YtgdkdihedgiegaaDoor
