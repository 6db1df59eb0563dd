/-
  The walks of finish and to.
-/
import Derived.Test.YtpkacoknpedolaaDoorD2
namespace Go.Proofs.YtpkacoknpedolaaDoor
open Go.RowKit Go.Maps

/-- A writer's contract. -/
def EncPost (B E Z bs bb cp mu mk mc : Nat) (w wr : World) (e' : ES) (en : Ending) (w' : World) : Prop := en = .returned (.tuple #[]) ∧ EncSt B E Z bs bb cp mu mk mc w w' e' ∧ Keeps E wr w'
theorem Bld.drew {K : TypeId × List Value} {B b : Nat} {g : Option Nat} {l : Bs} {w : World} (h : Bld K B b g l w) : Bld K B b g l w.drew := h.keep rfl (fun _ _ => rfl)
theorem Fr.drew {b : Nat} {g : Option Nat} {w w' : World} (h : Fr b g w.drew w') : Fr b g w w' := ⟨h.os, h.tape, h.output, h.size, h.block⟩
theorem setCell_fr (b i : Nat) (v : Value) (w : World) : Fr b none w (w.setCell ⟨b, i, none⟩ v) := ⟨rfl, rfl, rfl, by simp, fun j _ hb _ => Below.heap_setCell _ _ _ _ hb⟩
set_option maxHeartbeats 4000000 in
set_option maxRecDepth 100000 in
theorem finish_37 {B E Z bs bb cp mu mk mc : Nat} {w : World} (D : Dim2 B E Z bs bb) (e : ES) (wr : World) (h : EncSt B E Z bs bb cp mu mk mc w wr e) (ho : e.out.length + e.pend.length ≤ 140737488354000) :
    Calls Tryd.prog 37 #[.pointer (some ⟨E, 0, none⟩)] wr (EncPost B E Z bs bb cp mu mk mc w wr (finR e)) := by
  have mixed : Tryd.prog.follows Departure.mixedOrders = true := by kernel_rfl
  obtain ⟨g, pa, pc, H, hp, hne⟩ := h.cell
  obtain ⟨_, _, _, _, _, c7, fz⟩ := enc_fields H
  have hZ := h.size
  cases hpe : e.pend with
  | nil =>
    rw [fin_nil hpe]
    have hl0 : (e.pend.length : Int) = 0 := by rw [hpe]; rfl
    rw [hpe] at c7
    have HS := Lib.hid h
    clear h H hp hne hpe hl0
    go_enter Tryd.func37, Tryd.ntmps37
    go_wp2_with fail
    go_end0
    exact ⟨rfl, HS.out, Keeps.refl _ _⟩
  | cons b r =>
    rw [fin_cons hpe]
    obtain ⟨q, hq, ⟨_, hcap⟩, hq1, hq2, hqc⟩ := row_cell hp (by rw [hpe]; simp)
    subst hq
    have hlen : e.pend.length = r.length + 1 := by rw [hpe]; rfl
    have q0 : wr.cell? ⟨q, 0, none⟩ = some (.int .u8 b.toNat) := by rw [hqc 0 (by omega)]; simp [hpe]
    obtain ⟨A, hA, hAq, HQ⟩ : ∃ A : Addr, (if pc = 1 then some (⟨q, 0, none⟩ : Addr) else some ⟨q, 1, none⟩) = some A ∧ A.block = q ∧ Hid (∀ j u, (Lib.byteCells r)[j]? = some u → wr.cell? (A.add j) = some u) := by
      by_cases hpc : pc = 1
      · have hr : r = [] := List.eq_nil_of_length_eq_zero (by omega)
        rw [if_pos hpc]
        exact ⟨_, rfl, rfl, fun j u hj => by rw [hr] at hj; simp [Lib.byteCells] at hj⟩
      · rw [if_neg hpc]
        refine ⟨_, rfl, rfl, fun j u hj => ?_⟩
        have hj' : j < r.length := by have := (List.getElem?_eq_some_iff.1 hj).1; simpa [Lib.byteCells] using this
        have e1 : ((⟨q, 1, none⟩ : Addr).add j) = ⟨q, j + 1, none⟩ := by unfold Addr.add; simp [Nat.add_comm]
        rw [e1, hqc (j + 1) (by omega), ← hj]
        simp [Lib.byteCells, hpe, hj']
    have hqE : q ≠ E := by have := D.e; omega
    have hqg : some q ≠ g := fun e2 => hne q e2.symm rfl
    have HO := Lib.hid ho
    have HP := Lib.hid hp
    have HH : Hid (Bld (encK bs bb cp mu mk e.now (.slice (some ⟨q, 0, none⟩) (r.length + 1) pc)) Z E g e.out wr) := by rw [← hlen]; exact H
    have HNE := Lib.hid hne
    have HS := Lib.hid h
    have HD := Lib.hid D
    have HL : Hid (e.out.length + r.length + 1 ≤ 140737488354000) := Lib.hid (by omega)
    have HEL := Lib.hid hlen
    rw [hlen] at c7
    have HN := Lib.hid h.now
    clear hp H hne h ho hqc hpe hlen D
    have hrl : (1 : Int) ≤ (r.length : Int) + 1 := by omega
    go_enter Tryd.func37, Tryd.ntmps37
    go_wp2_with fail
    go_still_tail 8, mixed
    have HW1 := Lib.hid (write_47 (encK bs bb cp mu mk e.now (.slice (some ⟨q, 0, none⟩) (r.length + 1) pc)) Z E g e.out r A r.length (pc - 1) rfl wr.drew HH.out.drew hZ (by have := HL.out; omega) (by rw [hAq]; exact hqE) HQ.out)
    go_wp2_with (go_at_call 47; ((with_reducible refine Calls.mono HW1.out ?_); rintro en w1 ⟨rfl, g1, hB1, hg1, hf1⟩; have HB1 := Lib.hid hB1; obtain ⟨_, _, _, _, _, d7, fz1⟩ := enc_fields hB1; have q1 : w1.cell? ⟨q, 0, none⟩ = some (.int .u8 b.toNat) := (hf1.cell hq2 hqE hqg 0).trans q0))
    go_still_tail 9, mixed
    have HW2 := Lib.hid (byte_27 (encK bs bb cp mu mk e.now (.slice (some ⟨q, 0, none⟩) (r.length + 1) pc)) Z E g1 (e.out ++ r) b w1.drew HB1.out.drew (Nat.le_trans hZ hf1.size) (by have := HL.out; simp; omega))
    go_wp2_with (go_at_call 27; ((with_reducible refine Calls.mono HW2.out ?_); rintro en w2 ⟨rfl, g2, hB2, hg2, hf2⟩; have HB2 := Lib.hid hB2; obtain ⟨_, _, _, _, _, e7, fz2⟩ := enc_fields hB2))
    go_end0
    have hf1' : Fr E g wr w1 := hf1.drew
    have hf2' : Fr E g1 w1 w2 := hf2.drew
    obtain ⟨_, _, hc2, _⟩ := HB2.out.kcells
    have hgz : ∀ k, g = some k → Z ≤ k := fun k ek => (HH.out.row k ek).1
    have hx : ∀ j, g1 = some j → g = some j ∨ wr.heap.size ≤ j := fun j ej => by
      rcases hg1 with rfl | ⟨k, hk, hk2⟩
      · exact .inl ej
      · rw [ej] at hk; injection hk with hk; subst hk; exact .inr hk2
    refine ⟨rfl, HS.out.turn HD.out hgz ((hf1'.trans hf2' hx).trans (setCell_fr E 7 _ w2) (fun j ej => by cases ej)) ?_ HN.out (HB2.out.field 5 (.slice none 0 0)) (World.ownsRow_nil _ _ _ _) (fun k _ ek => by cases ek), ((HH.out.keeps hf1').trans (HB1.out.keeps hf2')).trans (Keeps.set w2 7 _)⟩
    exact ((HH.out.maps hf1').trans (HB1.out.maps hf2')).trans (MapsKept.cells hc2 7 _)
theorem set_sign {w : World} {bs n : Nat} (h : SetsAt w (.slice (some ⟨bs, 0, none⟩) 3 3)) (hn : n < 3) : w.cell? ⟨bs, n * 2, none⟩ = some (.int .u8 (signOf n)) := by
  obtain ⟨b, m0, m1, m2, n0, n1, n2, hv, _, ⟨c0, c1, c2, c3, c4, c5⟩, _⟩ := h
  cases hv
  match n, hn with
  | 0, _ => exact c0
  | 1, _ => exact c2
  | 2, _ => exact c4
set_option maxHeartbeats 4000000 in
set_option maxRecDepth 100000 in
theorem to_38 {B E Z bs bb cp mu mk mc : Nat} {w : World} (D : Dim2 B E Z bs bb) (e : ES) (n : Nat) (hn : n < 3) (wr : World) (h : EncSt B E Z bs bb cp mu mk mc w wr e) (ho : e.out.length ≤ 140737488354000) :
    Calls Tryd.prog 38 #[.pointer (some ⟨E, 0, none⟩), .int .i64 n] wr (EncPost B E Z bs bb cp mu mk mc w wr (toR n e)) := by
  have mixed : Tryd.prog.follows Departure.mixedOrders = true := by kernel_rfl
  obtain ⟨g, pa, pc, H, hp, hne⟩ := h.cell
  obtain ⟨c2, _, _, _, c6, _, fz⟩ := enc_fields H
  have hZ := h.size
  by_cases hne0 : n = e.now
  · rw [show toR n e = e from if_pos hne0]
    have h0 : ((n : Int) == (e.now : Int)) = true := by simp; omega
    have HS := Lib.hid h
    clear h H hp hne
    subst hne0
    go_enter Tryd.func38, Tryd.ntmps38
    go_wp2_with fail
    go_end0
    exact ⟨rfl, HS.out, Keeps.refl _ _⟩
  · rw [show toR n e = { e with out := e.out ++ [27, 40, UInt8.ofNat (signOf n)], now := n } from if_neg hne0]
    have h0 : ((n : Int) == (e.now : Int)) = false := by simp; omega
    have c8 := set_sign h.env.sets hn
    have hn3 : (n : Int) < 3 := by omega
    have hsg : signOf n < 256 := by unfold signOf; split <;> omega
    have HO := Lib.hid ho
    have HP := Lib.hid hp
    have HH := Lib.hid H
    have HNE := Lib.hid hne
    have HS := Lib.hid h
    have HD := Lib.hid D
    have HN0 := Lib.hid hn
    have hsu : (UInt8.ofNat (signOf n)).toNat = signOf n := UInt8.toNat_ofNat_of_lt' hsg
    have hcs : ∀ j u, (Lib.byteCells [27, 40, UInt8.ofNat (signOf n)])[j]? = some u → (wr.alloc (.cells #[.int .u8 27, .int .u8 40, .int .u8 (signOf n)] 5)).drew.cell? ((⟨wr.heap.size, 0, none⟩ : Addr).add j) = some u := fun j u hj => by
      have ea : ((⟨wr.heap.size, 0, none⟩ : Addr).add j) = ⟨wr.heap.size, j, none⟩ := by unfold Addr.add; simp; exact fun h => h.symm
      rw [ea]
      show (wr.alloc (.cells #[.int .u8 27, .int .u8 40, .int .u8 (signOf n)] 5)).cell? _ = _
      rw [World.cell?_alloc_new]
      match j, hj with
      | 0, hj => exact hj
      | 1, hj => exact hj
      | 2, hj => rw [← hj]; simp [Lib.byteCells, hsu]
    have HCS := Lib.hid hcs
    have hE : E < wr.heap.size := H.old
    clear h H hp hne ho D hsu hcs hn
    generalize hsgd : signOf n = sg at *
    have HSG := Lib.hid hsgd
    clear hsgd
    have HW1 := Lib.hid (write_47 (encK bs bb cp mu mk e.now (.slice pa e.pend.length pc)) Z E g e.out [27, 40, UInt8.ofNat sg] ⟨wr.heap.size, 0, none⟩ 3 3 rfl (wr.alloc (.cells #[.int .u8 27, .int .u8 40, .int .u8 sg] 5)).drew (HH.out.alloc _).drew (by simp; omega) (by have := HO.out; simp; omega) (by show wr.heap.size ≠ E; omega) HCS.out)
    go_enter Tryd.func38, Tryd.ntmps38
    go_wp2_with fail
    go_region_with (go_at_call 47; ((with_reducible refine Calls.mono HW1.out ?_); rintro en w1 ⟨rfl, g1, hB1, hg1, hf1⟩; have HB1 := Lib.hid hB1; obtain ⟨_, _, _, _, d6, _, fz1⟩ := enc_fields hB1))
    all_goals skip
    go_wp2_with fail
    go_end0
    have hf1' : Fr E g wr w1 := by
      have := hf1
      exact ⟨this.os, this.tape, this.output, Nat.le_trans (by simp) this.size, fun j hj h1 h2 => (this.block j (by simp; omega) h1 h2).trans (Below.heap_alloc wr _ j hj)⟩
    obtain ⟨_, _, hc2, _⟩ := HB1.out.kcells
    have hgz : ∀ k, g = some k → Z ≤ k := fun k ek => (HH.out.row k ek).1
    have hpl := HP.out.lt
    have hne' : ∀ k, (Value.slice pa e.pend.length pc).ownBlock = some k → k ≠ E ∧ some k ≠ g := fun k ek => ⟨by have := (hpl k ek).1; have := HD.out.e; omega, fun e2 => HNE.out k e2.symm ek⟩
    refine ⟨rfl, HS.out.turn HD.out hgz (hf1'.trans (setCell_fr E 6 _ w1) (fun j ej => by cases ej)) ((HH.out.maps hf1').trans (MapsKept.cells hc2 6 _)) HN0.out (HB1.out.field 4 (.int .i64 n)) (ownr_far HP.out (fun k ek => ?_)) ?_, (HH.out.keeps hf1').trans (Keeps.set w1 6 _)⟩
    · rw [Below.heap_setCell _ _ _ _ (by exact (hne' k ek).1), hf1'.block k (hpl k ek).2 (hne' k ek).1 (hne' k ek).2]
    · intro k ek e2
      rcases hg1 with rfl | ⟨j, hj, hj2⟩
      · exact HNE.out k ek e2
      · rw [ek] at hj; injection hj with hj; subst hj
        have := (hpl k e2).2
        simp at hj2; omega
end Go.Proofs.YtpkacoknpedolaaDoor
